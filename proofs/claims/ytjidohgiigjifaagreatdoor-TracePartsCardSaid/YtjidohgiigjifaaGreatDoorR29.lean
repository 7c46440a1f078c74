/- TraceParts and TraceWalks: a machine takes a character as those of its full decomposition, one by one; texts that are alike go through it, and of others none; no condition. -/
import Derived.Test.YtjidohgiigjifaaGreatDoorR24
set_option maxRecDepth 100000
set_option maxHeartbeats 6400000
namespace Go.Proofs.YtjidohgiigjifaaGreatDoor
open Go.RowKit Go.Cd
theorem aaS {w:World} (hG:bZ w) {v:Value} {T0:List fM} {X0 pk mr:List Int} (h:BJ w v T0 X0 pk mr) (hmr:mr.length<281474976710656) {tv:Value} {ts:List Int} (ht:bD w tv (bH ts)) :
 Calls Tryz.prog 5 #[v,tv] w fun e w'=>e=.returned (.bool true)∧Below w.heap.size w w':=by
 obtain ⟨r0,x0,pv,mv,rfl,hT,hp,hm⟩:=id h;obtain ⟨r0',x0',he,hr0,hx0⟩:=id hT;simp only [Value.agg.injEq,Array.mk.injEq,List.cons.injEq,and_true] at he;obtain ⟨rfl,rfl⟩:=he;obtain ⟨ra,nt,rc,rfl⟩:∃a n c,r0=.slice a n c:=by obtain ⟨a,cap,rfl,_⟩:=hr0;exact ⟨_,_,_,rfl⟩
 obtain ⟨xa,nx,xc,rfl⟩:∃a n c,x0=.slice a n c:=by obtain ⟨a,cap,rfl,_⟩:=hx0.out;exact ⟨_,_,_,rfl⟩
 obtain ⟨pa,np,pc,rfl⟩:∃a n c,pv=.slice a n c:=by obtain ⟨a,cap,rfl,_⟩:=hp.out;exact ⟨_,_,_,rfl⟩
 obtain ⟨ma,nm,mc,rfl⟩:∃a n c,mv=.slice a n c:=by obtain ⟨a,cap,rfl,_⟩:=hm.out;exact ⟨_,_,_,rfl⟩
 obtain ⟨w0,hw0⟩:=af (w.alloc (.cells #[.slice ra nt rc,.slice xa nx xc,.slice pa np pc,.slice ma nm mc] 27));have hb0:Below w.heap.size w w0:=by rw [hw0];exact ai _
 have k0:Is w0 w.heap.size #[.slice ra nt rc,.slice xa nx xc,.slice pa np pc,.slice ma nm mc] 27:=by rw [hw0];exact Is.new _ _ _
 have AW:=ae (JA (hG.mono hb0));have MD:=ae (fun (W:World) (E:Below w.heap.size w W)=>Ub (hG.mono E) (h.mono E) hmr 12 (by decide));have HG:=ae hG;obtain ⟨ta,tc,rfl,_,htx⟩:=bD.out ht;obtain ⟨nt,hnt⟩:=af ((bH ts).length);rw [←hnt];have HTX:=ae htx;have qR:=ae hnt;clear hG h hT hr0 hx0 hp hm hmr ht htx hnt;go_enter Tryz.func5,Tryz.ntmps5;go_wp2_with fail;rw [←hw0];clear hw0;refine AW.out.mono ?_;rintro e wa ⟨rfl,hba⟩;have k1:=k0.mono hba;have hB0:=ag hb0 hba;have e0:=k1.at 0 rfl;have e1:=k1.at 1 rfl;have e2:=k1.at 2 rfl;have e3:=k1.at 3 rfl;clear AW k0 hb0 hba;go_wp2_with fail;refine (MD.out wa hB0).mono ?_;rintro e w1 ⟨p,r,T,X,lv,L,rfl,hD,Uc,hF,hLv,Qw,WN,hb1⟩;obtain ⟨rr,rx,rfl,⟨a1,c1,rfl,_,hrw⟩,hrx⟩:=id Uc;obtain ⟨a2,n2,c2,rfl⟩:∃a n c,rx=.slice a n c:=by obtain ⟨a,c,h,_⟩:=bD.out hrx;exact ⟨_,_,_,h⟩
 obtain ⟨a3,n3,c3,rfl⟩:∃a n c,lv=.slice a n c:=by obtain ⟨a,c,h,_⟩:=bD.out hLv;exact ⟨_,_,_,h⟩
 have hV:=hF.valid;have XH:T.length<1000:=by have:=hF.len;omega
 have hwl:(xR T L).length≤384:=by
  have h1:=pQ hV L;rw [Ga];omega
 have hB1:=ag hB0 hb1;obtain ⟨n,hn⟩:=af T.length;rw [←hn] at Uc ⊢;obtain ⟨w2,hw2⟩:=af (w1.alloc (.cells #[.slice a1 n c1,.slice a2 n2 c2] 25));have iC:Below w1.heap.size w1 w2:=by rw [hw2];exact ai _
 have t2:Is w2 w1.heap.size #[.slice a1 n c1,.slice a2 n2 c2] 25:=by rw [hw2];exact Is.new _ _ _
 have hB2:=ag hB1 iC;have WT:=Uc.mono iC;have hD2:=hD.mono iC;have CH:=ae (pY WT hV (hLv.mono iC) WN (by omega) (by omega));have HV:=ae hV;have HW:=ae (Ky.of hV L);have HC:=ae (F_ hV WN);clear hD Uc hF hLv Qw WN hrw hrx hn hV k1 e0 e1 e2 e3 hB0 hb1 hB1 iC MD;obtain ⟨U,hU⟩:=af (xR T L);rw [←hU] at CH HW HC hwl;clear hU;have e0:=t2.at 0 rfl;have e1:=t2.at 1 rfl;go_wp2_with fail;rw [←hw2];obtain ⟨tb,htb⟩:=af w1.heap.size;rw [←htb] at t2 ⊢;clear hw2 e0 e1 htb;refine CH.out.mono ?_;rintro e w3 ⟨u,rfl,hu,hb3⟩;obtain ⟨au,cu,rfl,_,_⟩:=az hu;have RU:=ae (JB U (Sl.aT hu).any (by omega) (fun c hc=>by have:=(HC.out c hc).1;omega));have HU:=ae (Sl.aT hu);have hB3:=ag hB2 hb3;have hD3:=ae (hD2.mono hb3);clear hu WT hD2 t2 hB2 hb3 CH;go_wp2_with fail;refine RU.out.mono ?_;rintro e w4 ⟨rr,rfl,hrr,hb4⟩;have NW:=ae (Gu (hD3.out.mono hb4) HV.out U (Sl.aT hrr).any (fun c hc=>(HC.out c hc).1) HW.out.ord (by omega));have hD4:=ae (hD3.out.mono hb4);have hB4:=ag hB3 hb4;clear hrr hb4 hB3 RU hD3 HU;go_wp2_with fail;refine NW.out.mono ?_;rintro e w5 ⟨mp,rfl,hM,hb5⟩;have hD5:=hD4.out.mono hb5;have qQ:=ag hB4 hb5;have hsm:U.length<400:=by omega
 have HX:=ae (abn hD5 HV.out XH hM HW.out HC.out (by omega));have XE:=ae hsm;generalize hsd:(U.length<400)=sm at HX XE;generalize hFd:(fun s=>dD (P9 (aB T) (aK T) (Ko T) (dU (aB T) U) s))=O at HX;generalize XD:lW (aB T) (dU (aB T) U)=tk at HX;generalize hRd:dU (aB T) U=R at HX;generalize Yx:aK T=F at HX;have ST:=ae (HX.out.start w5 (Below.refl _ _));clear hsd hsm hM hD5 hb5 hB4 hD4 NW hFd XD hRd Yx HW HC HV XH;go_wp2_with fail;refine ST.out.mono ?_;rintro e w6 ⟨sv0,rfl,hS6,hb6⟩;obtain ⟨svv,rfl,hss⟩:=id hS6;obtain ⟨sa0,sn0,sc0,rfl⟩:∃sa sn sc,svv=.slice sa sn sc:=by obtain ⟨a,cap,h,_⟩:=hss;exact ⟨_,_,_,h⟩
 have kZ:=ag qQ hb6;obtain ⟨w7,hw7⟩:=af (w6.alloc (.cells #[.int .i64 ((s0 R).1:Nat),.slice sa0 sn0 sc0] 53));have abM:Below w6.heap.size w6 w7:=by rw [hw7];exact ai _
 have k7:Is w7 w6.heap.size #[.int .i64 ((s0 R).1:Nat),.slice sa0 sn0 sc0] 53:=by rw [hw7];exact Is.new _ _ _
 have hS7:=hS6.mono abM;have ad_:w6.heap.size<w7.heap.size:=by rw [hw7];simp
 obtain ⟨sb,hsb⟩:=af w6.heap.size;rw [←hsb] at k7;clear hss hS6 ST;go_wp2_with fail;rw [←hw7,←hsb];have ahp:w6.heap.size≤sb:=Nat.le_of_eq hsb.symm;clear hw7 hsb;have HS7:=ae hS7;clear hS7;go_loopw [12,13,14,15,16,18,19,20,92] (fun iv _ _ _ _ _ _ _ _ wr=>∃i:Nat,i≤nt∧i≤30∧iv=.int .i64 i∧(∃(s:vP) (a:Option Addr) (m c:Nat),sM R s∧Is wr sb #[.int .i64 (s.1:Nat),.slice a m c] 53∧G_ wr (.agg #[.int .i64 (s.1:Nat),.slice a m c]) s)∧Below w6.heap.size w6 wr) (fun iv _ _ _ _ _ _ _ _ _=>nt-(intOf iv).toNat)
 case atStart=>exact ⟨0,Nat.zero_le _,by omega,rfl,⟨s0 R,_,_,_,HX.out.sok,k7,HS7.out⟩,abM⟩
 case round=>
  obtain ⟨i,hi,ank,rfl,⟨s,a,m,cq,ho,jS,hS⟩,hE⟩:=hrel;have hB:=ag kZ hE;have kV:=ag hb6 hE;by_cases hin:i<nt
  ·have zi:decide ((i:Int)<(nt:Int))=true:=decide_eq_true (by omega);by_cases h30:i<30
   ·have z30:decide ((i:Int)<30)=true:=decide_eq_true (by omega);have OV:=ae (HX.out.over wr kV _ s hS ho);have e0:=jS.at 0 rfl;have e1:=jS.at 1 rfl;cases hov:aac R s with
    | true=>
      rw [hov] at OV;clear jS hS ho;go_wp2_with fail;refine OV.out.mono ?_;rintro e w8 ⟨rfl,nQ⟩;go_wp2_with fail;go_ret;exact ⟨rfl,ag hB nQ⟩
    | false=>
      rw [hov] at OV;have HO:=ae ho;have Km:=ae hov;obtain ⟨k,hk⟩:=af s.1;rw [←hk] at jS hS e0 OV;have HK:=ae hk;have HSr:=ae hS;clear ho hov hk hS;go_wp2_with fail;refine OV.out.mono ?_;rintro e w8 ⟨rfl,nQ⟩;have acN:=ag kV nQ;have OP:=ae (HX.out.opts XE.out w8 acN _ s (HSr.out.mono nQ) HO.out);have jS8:=jS.mono nQ;have e0:=jS8.at 0 rfl;have e1:=jS8.at 1 rfl;clear jS OV;go_wp2_with fail;refine OP.out.mono ?_;rintro e w9 ⟨r,rfl,hr,qf⟩;obtain ⟨n2,hn2⟩:=af ((O s).length);have hn0:0<n2:=by rw [hn2];exact List.length_pos_iff.2 (HX.out.one HO.out Km.out)
      have ajt:n2≤802000:=by rw [hn2];exact HX.out.ole XE.out HO.out
      obtain ⟨ra,rc,rfl,_,hx2⟩:=Go.Proofs.YtjidohgiigjifaaGreatDoor.bD.Mf (Sl.aT hr).any hn2;have hit:i<(bH ts).length:=by have:=qR.out;omega
      have hit2:i<ts.length:=by simpa [bH] using hit
      obtain ⟨tb,tof,rfl,_,t0⟩:=HTX.out i hit;rw [show (bH ts)[i]=.int .i64 ts[i] by simp [bH]] at t0;obtain ⟨x,hx⟩:=af (ts[i]);rw [←hx] at t0;have RN:=ag (ag hE nQ) qf;have acO:=ag acN qf;have t0:=aA (ag kZ RN) t0;obtain ⟨A,hA,hAi⟩:=UX x (S:=n2) (by omega) (by omega);have Kh:A<(O s).length:=by rw [←hn2];exact hA
      obtain ⟨qb,qo,rfl,_,c0⟩:=hx2 A Kh;have hcm:(O s)[A]∈O s:=List.getElem_mem Kh;obtain ⟨c,hc⟩:=af ((O s)[A]);rw [←hc] at c0 hcm;have hcc:=HX.out.och hcm;have aht:=hcc.1;obtain ⟨s1,hs1⟩:=HX.out.ost hcm;have hS9:=(HSr.out.mono nQ).mono qf;have SP:=ae (HX.out.step w9 acO _ s hS9 HO.out c hcc);rw [hs1] at SP;have znz:((n2:Int)==0)=false:=beq_eq_false_iff_ne.2 (by omega);have jS9:=jS8.mono qf;have e0:=jS9.at 0 rfl;have e1:=jS9.at 1 rfl;have HS1:=ae hs1;have M9:=ae hcc;have Nc:=ae (aaM (fun _ _ _ h e=>HX.out.ok h e) (F c) s s1 HO.out hs1);have aei:=ae hS9;clear hr hx2 hn2 hx hc hcm hs1 hcc Kh hit hit2 hS9 OP HSr jS8 nQ qf hE kV acN hB Km;go_wp2_with fail;refine SP.out.mono ?_;rintro e yl ⟨⟨v1,rfl,hV1⟩,aaa⟩;obtain ⟨sv1,rfl,aej⟩:=id hV1;obtain ⟨a1,c1,rfl,_,_⟩:=bD.out aej.any;obtain ⟨m1,hm1⟩:=af ((bH (nz s1.2)).length);rw [←hm1] at hV1 ⊢;obtain ⟨k1,hk1⟩:=af s1.1;rw [←hk1] at hV1 ⊢;obtain ⟨FM,Vn⟩:=af (yl.alloc (.cells #[.int .i64 (k1:Nat),.slice a1 m1 c1] 53));have abx:Below yl.heap.size yl FM:=by rw [Vn];exact ai _
      have acP:Is FM yl.heap.size #[.int .i64 (k1:Nat),.slice a1 m1 c1] 53:=by rw [Vn];exact Is.new _ _ _
      have OD:=ag (ag RN aaa) abx;have acm:=ag (ag acO aaa) abx;have aku:=(ag RN aaa).size;obtain ⟨ab,hab⟩:=af yl.heap.size;have hne:ab≠sb:=by
       have h1:=jS9.lt;have h2:=aaa.size;omega
      rw [←hab] at acP;have aek:=(jS9.mono aaa).mono abx;have HV1:=ae (hV1.mono abx);have aco:=ae ((aei.out.mono aaa).mono abx);have FU:=ae (HX.out.full FM acm c M9.out);have XL:=ae hk1;clear hV1 aej hm1 hk1 SP jS9 aaa abx RN acO aei;go_wp2_with fail;rw [←Vn,←hab];clear Vn hab;refine FU.out.mono ?_;rintro e y_ ⟨r2,rfl,hr2,iC⟩;obtain ⟨n3,hn3⟩:=af ((F c).length);obtain ⟨a3,c3,rfl,_,_⟩:=Go.Proofs.YtjidohgiigjifaaGreatDoor.bD.Mf (Sl.aT hr2).any hn3;have anl:n3≤32:=by rw [hn3];exact HX.out.adN c
      rw [←hn3] at hr2;have HN3:=ae hn3;have CQ:=ag OD iC;have ahv:=acP.mono iC;have ahw:=aek.mono iC;have ahx:=ae (HV1.out.mono iC);have ahy:=ae (aco.out.mono iC);clear hn3 FU acP aek iC OD acm HV1 aco;have HR2:=ae hr2;clear hr2;go_wp2_with fail
      go_loopw [18,19,20,92] (fun _ _ _ jv wr=>∃j:Nat,j≤n3∧jv=.int .i64 j∧(∃(s':vP) (a':Option Addr) (m' c':Nat),((F c).take j).foldlM tk s=some s'∧sM R s'∧Is wr sb #[.int .i64 (s'.1:Nat),.slice a' m' c'] 53∧G_ wr (.agg #[.int .i64 (s'.1:Nat),.slice a' m' c']) s')∧
       Is wr ab #[.int .i64 (k1:Nat),.slice a1 m1 c1] 53∧G_ wr (.agg #[.int .i64 (k1:Nat),.slice a1 m1 c1]) s1∧wr.ownsRow FM.heap.size aM 1 (.slice a3 n3 c3) n3 (aN (F c))∧Below w6.heap.size w6 wr) (fun _ _ _ jv _=>n3-(intOf jv).toNat)
      case atStart=>
       refine ⟨0,Nat.zero_le _,rfl,⟨s,a,m,cq,rfl,HO.out,?_,?_⟩,ahv,ahx.out,HR2.out,CQ⟩
       ·rw [←HK.out];exact ahw
       ·rw [←HK.out];exact ahy.out
      case round=>
       obtain ⟨j,hj,rfl,⟨s',a',m',c',hf,ho',jS,hS⟩,jA,hVA,hrow,hE⟩:=hrel;have kV:=ag hb6 hE;have hsE:=hE.size;by_cases hjn:j<n3
       ·have zj:decide ((j:Int)<(n3:Int))=true:=decide_eq_true (by omega);obtain ⟨rb,Vg,he,_,_,_,_,hcells⟩:=jU hrow (show 0<n3 by omega);injection he with he1 _ he2;subst he1 he2;have hjl:j<(F c).length:=by have:=HN3.out;omega
        have cy:=hcells j (.int .i32 ((F c)[j]:Nat)) (by rw [List.getElem?_eq_getElem (by rw [bO];exact hjl),fB _ _ hjl]);have hft:=Jr hjl hf;have hym:(F c)[j]∈F c:=List.getElem_mem hjl;obtain ⟨y,hy⟩:=af ((F c)[j]);rw [←hy] at cy hft hym;have hyc:=HX.out.chr M9.out hym;have ahz:=hyc.1;obtain ⟨s2,hs2⟩:∃s2,tk s' y=some s2:=by
         cases h2:tk s' y with
         | some s2=>exact ⟨s2,rfl⟩
         | none=>
           exfalso;have:=Js (i:=j+1) (by rw [hft,h2]);rw [HS1.out] at this;cases this
        have SP:=ae (HX.out.step wr kV _ s' hS ho' y hyc);rw [HX.out.leaf hym,show [y].foldlM tk s'=some s2 by rw [List.foldlM_cons,hs2];rfl] at SP;have Vt:=ae (hft.trans hs2);have QA:=ae (HX.out.ok ho' hs2);have e0:=jS.at 0 rfl;have e1:=jS.at 1 rfl;obtain ⟨ks,hks⟩:=af s'.1;rw [←hks] at e0 SP jS;clear hft hs2 hy hym hyc ho' hS hf hcells hks;have zM:=ae hrow;have HVA:=ae hVA;clear hrow hVA;go_wp2_with fail;refine SP.out.mono ?_;rintro e w13 ⟨⟨v2,rfl,hV2⟩,aaC⟩;obtain ⟨sv2,rfl,abN⟩:=id hV2;obtain ⟨a2,c2,rfl,_,_⟩:=bD.out abN.any;obtain ⟨m2,hm2⟩:=af ((bH (nz s2.2)).length);rw [←hm2] at hV2 ⊢;have aaL:Below w13.heap.size w13 (w13.alloc (.cells #[.int .i64 (s2.1:Nat),.slice a2 m2 c2] 53)):=ai _;have n14:Is (w13.alloc (.cells #[.int .i64 (s2.1:Nat),.slice a2 m2 c2] 53)) w13.heap.size #[.int .i64 (s2.1:Nat),.slice a2 m2 c2] 53:=Is.new _ _ _;have aaj:=ag aaC aaL;have aau:=jS.mono aaj;have aep:=jA.mono aaj;have aas:=ag hE aaj;have abO:=hV2.mono aaL;have acs:=HVA.out.mono aaj;have abP:=aG zM.out aaj;have g0:=n14.at 0 rfl;have g1:=n14.at 1 rfl;have p0:=aau.at 0 rfl;have p1:=aau.at 1 rfl;have q0:=aau.frozen 0;have q1:=aau.frozen 1;have ch:=(bK.put (o:=0) aau (.int .i64 (s2.1:Nat))).trans (bK.put (o:=1) (aau.set 0 (.int .i64 (s2.1:Nat))) (.slice a2 m2 c2));have HJS:=ae ((aau.set 0 (.int .i64 (s2.1:Nat))).set 1 (.slice a2 m2 c2));have HJA:=ae ((aep.put hne (o:=0) (.int .i64 (s2.1:Nat))).put hne (o:=1) (.slice a2 m2 c2));have ahB:=ae (ch.own abP (by decide));have acV:=ae (Kk.Mt abO ch (by decide));have aet:=ae (Kk.Mt acs ch (by decide));have ac1:=ae (aj (off:=1) (u:=.slice a2 m2 c2) (b:=sb) (aj (off:=0) (u:=.int .i64 (s2.1:Nat)) (b:=sb) aas (by omega)) (by omega));clear hV2 abN hm2 SP jS jA aaC aaL aaj hE kV aau aep aas abO acs abP ch n14;go_wp2_with fail;go_roundw
        case rel=>exact ⟨j+1,by omega,by simp,⟨s2,a2,m2,c2,Vt.out,QA.out,HJS.out,acV.out⟩,HJA.out,aet.out,ahB.out,ac1.out⟩
        case measure=>simp [intOf];omega
       ·have zj:decide ((j:Int)<(n3:Int))=false:=decide_eq_false (by omega);obtain rfl:j=n3:=by omega
        obtain rfl:s'=s1:=by
         rw [List.take_of_length_le (by rw [←HN3.out];exact Nat.le_refl _),HS1.out] at hf;exact (Option.some.inj hf).symm
        have EQ:=ae (abf hVA hS (HX.out.few Nc.out));have e0:=jS.at 0 rfl;have e1:=jS.at 1 rfl;have g0:=jA.at 0 rfl;have g1:=jA.at 1 rfl;have HJS:=ae jS;have HS:=ae hS;clear hVA hS jA hf hrow jS;go_wp2_with fail;refine EQ.out.mono ?_;rintro e w14 ⟨rfl,aaL⟩;go_wp2_with fail;go_roundw
        case rel=>exact ⟨i+1,by omega,by omega,by simp,⟨s',a',m',c',Nc.out,HJS.out.mono aaL,HS.out.mono aaL⟩,ag hE aaL⟩
        case measure=>simp [intOf];omega
   ·have z30:decide ((i:Int)<30)=false:=decide_eq_false (by omega);go_wp2_with fail;go_ret;exact ⟨rfl,hB⟩
  ·have zi:decide ((i:Int)<(nt:Int))=false:=decide_eq_false (by omega);go_wp2_with fail;go_ret;exact ⟨rfl,hB⟩
end Go.Proofs.YtjidohgiigjifaaGreatDoor
