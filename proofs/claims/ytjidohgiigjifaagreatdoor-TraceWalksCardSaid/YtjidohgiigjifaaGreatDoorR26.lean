/- TraceParts and TraceWalks: a machine takes a character as those of its full decomposition, one by one; texts that are alike go through it, and of others none; no condition. -/
import Derived.Test.YtjidohgiigjifaaGreatDoorR25
set_option maxRecDepth 100000
set_option maxHeartbeats 6400000
namespace Go.Proofs.YtjidohgiigjifaaGreatDoor
open Go.RowKit Go.Cd
theorem aaJ {w:World} {B g n cap:Nat} {O:List Nat} (h:w.ownsRow B aU 1 (.slice (some ⟨g,0,none⟩) n cap) n (ints O)) {j:Nat} (hj:j<O.length):w.cell? ⟨g,j,none⟩=some (.int .i64 (O[j]:Nat))∧w.frozen? ⟨g,j,none⟩=false:=by
 have:=gJ h (j:=j) (by rw [dw];exact hj);simpa only [ints,List.getElem_map] using this
theorem aaT {w:World} (hG:bZ w) {v:Value} {T0:List fM} {X0 pk mr:List Int} (h:BJ w v T0 X0 pk mr) (hmr:mr.length<281474976710656) {qv:Value} {qs:List Int} (hq:bD w qv (bH qs)) {tv:Value} {ts:List Int} (ht:bD w tv (bH ts)) :
 Calls Tryz.prog 4 #[v,qv,tv] w fun e w'=>e=.returned (.bool true)∧Below w.heap.size w w':=by
 obtain ⟨r0,x0,pv,mv,rfl,hT,hp,hm⟩:=id h;obtain ⟨r0',x0',he,hr0,hx0⟩:=id hT;simp only [Value.agg.injEq,Array.mk.injEq,List.cons.injEq,and_true] at he;obtain ⟨rfl,rfl⟩:=he;obtain ⟨ra,nt,rc,rfl⟩:∃a n c,r0=.slice a n c:=by obtain ⟨a,cap,rfl,_⟩:=hr0;exact ⟨_,_,_,rfl⟩
 obtain ⟨xa,nx,xc,rfl⟩:∃a n c,x0=.slice a n c:=by obtain ⟨a,cap,rfl,_⟩:=hx0.out;exact ⟨_,_,_,rfl⟩
 obtain ⟨pa,np,pc,rfl⟩:∃a n c,pv=.slice a n c:=by obtain ⟨a,cap,rfl,_⟩:=hp.out;exact ⟨_,_,_,rfl⟩
 obtain ⟨ma,nm,mc,rfl⟩:∃a n c,mv=.slice a n c:=by obtain ⟨a,cap,rfl,_⟩:=hm.out;exact ⟨_,_,_,rfl⟩
 obtain ⟨w0,hw0⟩:=af (w.alloc (.cells #[.slice ra nt rc,.slice xa nx xc,.slice pa np pc,.slice ma nm mc] 27));have hb0:Below w.heap.size w w0:=by rw [hw0];exact ai _
 have k0:Is w0 w.heap.size #[.slice ra nt rc,.slice xa nx xc,.slice pa np pc,.slice ma nm mc] 27:=by rw [hw0];exact Is.new _ _ _
 have AW:=ae (JA (hG.mono hb0));have MD:=ae (fun (W:World) (E:Below w.heap.size w W)=>Ub (hG.mono E) (h.mono E) hmr 14 (by decide));have HG:=ae hG;obtain ⟨ta,tc,rfl,_,htx⟩:=bD.out ht;obtain ⟨nt,hnt⟩:=af ((bH ts).length);rw [←hnt];have HTX:=ae htx;have HQ:=ae hq;obtain ⟨qa,nq,qc,rfl⟩:∃a n c,qv=.slice a n c:=by obtain ⟨a,c,h,_⟩:=bD.out hq;exact ⟨_,_,_,h⟩
 have qR:=ae hnt;clear hG h hT hr0 hx0 hp hm hmr ht htx hnt hq;go_enter Tryz.func4,Tryz.ntmps4;go_wp2_with fail;rw [←hw0];clear hw0;refine AW.out.mono ?_;rintro e wa ⟨rfl,hba⟩;have k1:=k0.mono hba;have hB0:=ag hb0 hba;have e0:=k1.at 0 rfl;have e1:=k1.at 1 rfl;have e2:=k1.at 2 rfl;have e3:=k1.at 3 rfl;clear AW k0 hb0 hba;go_wp2_with fail;refine (MD.out wa hB0).mono ?_;rintro e w1 ⟨p,r,T,X,lv,L,rfl,hD,Uc,hF,hLv,Qw,WN,hb1⟩;obtain ⟨rr,rx,rfl,⟨a1,c1,rfl,_,hrw⟩,hrx⟩:=id Uc;obtain ⟨a2,n2,c2,rfl⟩:∃a n c,rx=.slice a n c:=by obtain ⟨a,c,h,_⟩:=bD.out hrx;exact ⟨_,_,_,h⟩
 obtain ⟨a3,n3,c3,rfl⟩:∃a n c,lv=.slice a n c:=by obtain ⟨a,c,h,_⟩:=bD.out hLv;exact ⟨_,_,_,h⟩
 have hV:=hF.valid;have XH:T.length<1000:=by have:=hF.len;omega
 have hwl:(xR T L).length≤448:=by
  have h1:=pQ hV L;rw [Ga];omega
 have hB1:=ag hB0 hb1;obtain ⟨n,hn⟩:=af T.length;rw [←hn] at Uc ⊢;obtain ⟨w2,hw2⟩:=af (w1.alloc (.cells #[.slice a1 n c1,.slice a2 n2 c2] 25));have iC:Below w1.heap.size w1 w2:=by rw [hw2];exact ai _
 have t2:Is w2 w1.heap.size #[.slice a1 n c1,.slice a2 n2 c2] 25:=by rw [hw2];exact Is.new _ _ _
 have hB2:=ag hB1 iC;have WT:=Uc.mono iC;have hD2:=hD.mono iC;have CH:=ae (pY WT hV (hLv.mono iC) WN (by omega) (by omega));have HV:=ae hV;have HW:=ae (Ky.of hV L);have HC:=ae (F_ hV WN);have HLV:=ae (hLv.mono iC);have U5:=ae WN;have HLL:=ae Qw;have HTB:=ae WT;clear hD Uc hF hLv Qw WN hrw hrx hn hV k1 e0 e1 e2 e3 hB0 hb1 hB1 iC MD;obtain ⟨U,hU⟩:=af (xR T L);rw [←hU] at CH HW HC hwl;have HUL:=ae hU;clear hU;have e0:=t2.at 0 rfl;have e1:=t2.at 1 rfl;go_wp2_with fail;rw [←hw2];obtain ⟨tb,htb⟩:=af w1.heap.size;rw [←htb] at t2 ⊢;clear hw2 e0 e1 htb;refine CH.out.mono ?_;rintro e w3 ⟨u,rfl,hu,hb3⟩;obtain ⟨au,cu,rfl,_,_⟩:=az hu;have RU:=ae (JB U (Sl.aT hu).any (by omega) (fun c hc=>by have:=(HC.out c hc).1;omega));have HU:=ae (Sl.aT hu);have hB3:=ag hB2 hb3;have hD3:=ae (hD2.mono hb3);have t3:=t2.mono hb3;have HE3:=ae hb3;clear hu WT hD2 t2 hB2 hb3 CH;go_wp2_with fail;refine RU.out.mono ?_;rintro e w4 ⟨rr,rfl,hrr,hb4⟩;have NW:=ae (Gu (hD3.out.mono hb4) HV.out U (Sl.aT hrr).any (fun c hc=>(HC.out c hc).1) HW.out.ord (by omega));have hD4:=ae (hD3.out.mono hb4);have t4:=t3.mono hb4;have HU4:=ae (HU.out.mono hb4);have HE4:=ae (ag HE3.out hb4);have hB4:=ag hB3 hb4;clear hrr hb4 hB3 RU hD3 HU t3 HE3;go_wp2_with fail;refine NW.out.mono ?_;rintro e w5 ⟨mp,rfl,hM,hb5⟩;have hD5:=hD4.out.mono hb5;have qQ:=ag hB4 hb5;have HX:=ae (abn hD5 HV.out XH hM HW.out HC.out (by omega));have t5:=t4.mono hb5;have HU5:=ae (HU4.out.mono hb5).any;have HE5:=ag HE4.out hb5;have HB5:=ae qQ;have PW:=ae (fun (ys:List Nat)=>show abQ (dU (aB T) U) (aK T) (lW (aB T) (dU (aB T) U)) (s0 (dU (aB T) U)) ys=decide (xR T ys=U) from abJ HW.out.ord ys);have WK:=ae (fun (W:World) (E:Below w5.heap.size w5 W) (v:Value) (ys:List Nat) (hv:bD W v (ints ys)) (hc:∀c∈ys,aX c) (hl:ys.length<1000000)=>show Calls Tryz.prog 17 #[.pointer (some ⟨mp,0,none⟩),v] W fun e w'=>e=.returned (.bool (decide (xR T ys=U)))∧Below W.heap.size W w' by rw [←PW.out ys];exact ab6 HX.out E hv hc hl);have TU:=ae (fun (W:World) (E:Below w5.heap.size w5 W)=>abz (HTB.out.mono (ag HE5 E)) HV.out (HLV.out.mono (ag HE5 E)) U5.out (by rw [←HUL.out];omega) (HQ.out.mono (ag HB5.out E)) XH);have CH:=ae (fun (W:World) (E:Below w5.heap.size w5 W) (v:Value) (ys:List Nat) (hv:bD W v (ints ys)) (hc:∀c∈ys,aX c) (hl:ys.length<10000)=>pY (HTB.out.mono (ag HE5 E)) HV.out hv hc (by omega) hl);have PL:=ae (show decide (xR T L=U)=true from decide_eq_true HUL.out.symm);have PU:=ae (show decide (xR T U=U)=true from decide_eq_true HW.out.self);have HL5:=ae (HLV.out.mono HE5);have HT5:=ae (fun (W:World) (E:Below w5.heap.size w5 W)=>ag HB5.out E);have WL:=ae (WK.out w5 (Below.refl _ _) _ L HL5.out U5.out (by have:=HLL.out;omega));rw [PL.out] at WL;have e0:=t5.at 0 rfl;have e1:=t5.at 1 rfl;have anx:U.length<1000:=by omega
 have RJ:=ae (fun (ys:List Nat)=>pQ HV.out ys);clear hM hD5 hb5 hB4 hD4 NW HX HU4 HE4 HE5 t4 qQ XH hwl;go_wp2_with fail;refine WL.out.mono ?_;rintro e w6 ⟨rfl,hb6⟩;have WU:=ae (WK.out w6 hb6 _ U (HU5.out.mono hb6) HC.out (by omega));rw [PU.out] at WU;clear WL;go_wp2_with fail;refine WU.out.mono ?_;rintro e w7 ⟨rfl,RF⟩;have hE7:=ag hb6 RF;have TU7:=ae (TU.out w7 hE7);have t7:=t5.mono hE7;have e0:=t7.at 0 rfl;have e1:=t7.at 1 rfl;clear WU hb6 RF t5;go_wp2_with fail;refine TU7.out.mono ?_;rintro e w8 ⟨r8,O8,rfl,h8,hc8,hn8,nQ⟩;obtain ⟨n8,aeL⟩:=af O8.length;have hl8:O8.length<1000:=by have:=MU (T:=T) O8;rw [hn8,←HUL.out] at this;omega
 obtain ⟨a8,c8,rfl,_,_⟩:=az h8;have vk:=ag hE7 nQ;have WO:=ae (WK.out w8 vk _ O8 (Sl.aT h8).any hc8 (by omega));rw [show decide (xR T O8=U)=true from decide_eq_true (by rw [hn8,HUL.out])] at WO;rw [←aeL] at WO ⊢;have t8:=t7.mono nQ;clear TU7 hE7 nQ t7 h8 hc8 hn8 hl8 aeL;go_wp2_with fail;refine WO.out.mono ?_;rintro e w9 ⟨rfl,qf⟩;have RN:=ag vk qf;have t9:=t8.mono qf;have hbA:Below w9.heap.size w9 (w9.alloc (.cells #[] aU)):=ai _;have EE:=ag RN hbA;have TUA:=ae (TU.out (w9.alloc (.cells #[] aU)) EE);have tA:=t9.mono hbA;have e0:=tA.at 0 rfl;have e1:=tA.at 1 rfl;have OE:=ae (il w9 aU);clear WO qf vk t8;go_wp2_with fail;refine TUA.out.mono ?_;rintro e yl ⟨r10,Y0,rfl,hY0,hcY,hnY,aaa⟩;have hlY:Y0.length<1000:=by have:=MU (T:=T) Y0;rw [hnY,←HUL.out] at this;omega
 have adg:=aG OE.out aaa;have adh:w9.heap.size≤yl.heap.size:=Nat.le_trans hbA.size aaa.size;obtain ⟨ny,hny⟩:=af Y0.length;have hiY:(ints Y0).length=ny:=by rw [hny];exact dw _
 rw [←hny] at hlY;have hSA:=(Sl.aT hY0).any;have HEB:=ae (show Below w9.heap.size w9 yl from hbA.trans (aaa.mono hbA.size));have HCY:=ae hcY;have HNY:=ae hny;have HE9:=ae RN;obtain ⟨ra,rn,rc,rfl⟩:∃a n c,r10=.slice a n c:=by obtain ⟨a,c,rfl,_,_⟩:=az hY0;exact ⟨_,_,_,rfl⟩
 clear TUA hY0 hnY hbA hny hcY RN EE aaa e0 e1 tA OE HLV HL5 TU;go_wp2_with (at_builtin;refine bG rfl _ _ 23 rfl w9.heap.size aU _ 8 gL _ 0 _ rfl adg _ (ints Y0) rfl hSA (gM Y0) (by rw [hiY];unfold maxLen;omega) (by rw [hiY];omega) adh ?_;intro v1 FM o1 hg1;obtain ⟨a1,wI,rfl,_,_⟩:=az o1);have HEC:=ae (HEB.out.trans (wh adg hg1 adh));have o3:FM.ownsRow w9.heap.size aU 1 (.slice a1 ny wI) ny (ints Y0):=by
  have:=o1;rw [hiY] at this;simpa using this
 (try simp only [dw,←HNY.out,hiY,Nat.zero_add])
 have O3:=ae o3;clear o1 o3 hg1 adg hSA adh HEB hiY;go_loopw [13,14,15,109,121] (fun yv iv _ _ _ wr=>∃(i:Nat) (Y:List Nat),i≤nt∧i≤4∧iv=.int .i64 i∧wr.ownsRow w9.heap.size aU 1 yv Y.length (ints Y)∧(∀c∈Y,aX c)∧Y.length≤1000+i∧Below w9.heap.size w9 wr) (fun _ iv _ _ _ _=>nt-(intOf iv).toNat)
 case atStart=>exact ⟨0,Y0,Nat.zero_le _,by omega,rfl,HNY.out▸O3.out,HCY.out,by have:=HNY.out;omega,HEC.out⟩
 case round=>
  obtain ⟨i,Y,hi,hi4,rfl,ho,hcY,ahS,hE⟩:=hrel;have dC:=ag HE9.out hE;have hs9:=hE.size;obtain ⟨m,hm⟩:=af Y.length;rw [←hm] at ho ahS;obtain ⟨ao,co,rfl,_,_⟩:=az ho;have Xy:=ae ho;have HM:=ae hm;have HCW:=ae hcY;have HEW:=ae hE;clear ho hm hcY O3 HEC hE;by_cases hgo:i<nt∧i<4∧0<m
  ·obtain ⟨g1,g2,g3⟩:=hgo;have z1:decide ((i:Int)<(nt:Int))=true:=decide_eq_true (by omega);have z2:decide ((i:Int)<4)=true:=decide_eq_true (by omega);have z3:decide ((0:Int)<(m:Int))=true:=decide_eq_true (by omega);have hip:i<(bH ts).length:=by have:=qR.out;omega
   have adb:i<ts.length:=by simpa [bH] using hip
   obtain ⟨pb,po,rfl,_,p0⟩:=HTX.out i hip;rw [show (bH ts)[i]=.int .i64 ts[i] by simp [bH]] at p0;obtain ⟨x,hx⟩:=af (ts[i]);rw [←hx] at p0;have p0:=aA (HT5.out wr dC) p0;have znz:((m:Int)==0)=false:=beq_eq_false_iff_ne.2 (by omega);clear hx hip adb;obtain ⟨g,rfl,hg1,hg2⟩:=Ue Xy.out g3;obtain ⟨A,hA,hAi⟩:=acx (x / 4) (S:=m) (by omega) (by omega);obtain ⟨P,c,Q,hO,hP⟩:=abT (show A<Y.length by rw [←HM.out];exact hA);subst hO;have HP0:=ae hP;have hQl:A+1+Q.length=m:=by have:=HM.out;simp at this;omega
   have hPl:=HP0.out;have hcP:∀y∈P,aX y:=fun y hy=>HCW.out y (by simp [hy]);have hcQ:∀y∈Q,aX y:=fun y hy=>HCW.out y (by simp [hy]);have hcc:aX c:=HCW.out c (by simp);have HCP:=ae hcP;have HCQ:=ae hcQ;have M9:=ae hcc;clear hP hcP hcQ hcc;go_wp2_with fail
   ·
    obtain ⟨s1,s2,s3⟩:=aaz Xy.out HP0.out;obtain ⟨W,hW⟩:=af wr.drew;have S1:=ae (show bD W _ (ints P) by rw [hW];exact s1.mono (ah wr));have S2:=ae (show bD W _ (ints (c::Q)) by rw [hW];exact s2.mono (ah wr));have S3:=ae (show bD W _ (ints Q) by rw [hW];exact s3.mono (ah wr));have HEC:=ae (show Below w9.heap.size w9 W by rw [hW];exact HEW.out.drew);clear s1 s2 s3 S2;by_cases hcx:co=A+1
    ·rw [if_pos hcx] at S3;subst hcx;rw [Nat.sub_self,show m-(A+1)=0 by omega] at S3;refine rF wr.heap.size (Array.replicate 11 true) 11 0 mixed (by rfl) ?_;rw [←hW,show wr.heap.size=W.heap.size by rw [hW];rfl];clear hW;refine lN [1,2,3,5,6,7,8] 4 rfl (by kernel_rfl) ?_
     iterate 7 (refine aC rfl ?_;go_big_quiet_step (rfl))
     refine ak ?_;refine kJ 0 (by kernel_rfl) rfl ?_;go_wp2_with fail;refine iM (ai _) ?_;refine kJ 4 (by kernel_rfl) rfl ?_;refine bG rfl _ _ 23 rfl W.heap.size aU _ 8 gL _ _ _ rfl (il W aU) _ (ints P) rfl (S1.out.mono (ai _)) (gM _) (by simp only [dw];unfold maxLen;omega) (by simp only [dw];omega) (ai _).size ?_;intro v1 w6 o1 hg1;have b1:=wh (il W aU) hg1 (ai _).size;go_wp2_with fail;refine iM b1 ?_;have b1:=(ai (w:=W) (.cells #[] aU)).trans b1;refine kJ 9 (by kernel_rfl) rfl ?_;refine bG rfl _ _ 23 rfl W.heap.size aU _ 8 gL _ _ _ rfl o1 _ (ints Q) rfl (S3.out.mono b1) (gM _) (by simp only [dw];unfold maxLen;omega) (by simp only [dw];omega) b1.size ?_;intro v2 w7 o2 hg2;have b2:=wh o1 hg2 b1.size;go_wp2_with fail;refine iM b2 ?_;have b2:=b1.trans b2;refine lN [10] 0 rfl (by kernel_rfl) ?_
     iterate 1 (refine aC rfl ?_;go_big_quiet_step (rfl))
     refine ak ?_;refine Ex [] (by kernel_rfl) ?_;refine tail_nil ?_;have o4:w7.ownsRow W.heap.size aU 1 v2 (P++Q).length (ints (P++Q)):=by
      have e1:[]++ints P++ints Q=ints (P++Q):=by simp [ints]
      have e2:0+(ints P).length+(ints Q).length=(P++Q).length:=by simp
      rw [e1,e2] at o2;exact o2
     have zg:=ae (⟨i+1,P++Q,by omega,by omega,by simp,aW o4 HEC.out.size,fun x hx=>(List.mem_append.1 hx).elim (HCP.out x) (HCQ.out x),by rw [List.length_append];omega,HEC.out.trans (b2.mono HEC.out.size)⟩:∃(i':Nat) (Y:List Nat),i'≤nt∧i'≤4∧Value.int .i64 ((i:Int)+1)=.int .i64 i'∧w7.ownsRow w9.heap.size aU 1 v2 Y.length (ints Y)∧(∀c∈Y,aX c)∧Y.length≤1000+i'∧Below w9.heap.size w9 w7);clear o1 o2 o4 b1 b2 hg1 hg2;go_wp2;go_roundw
     case rel=>exact zg.out
     case measure=>simp [intOf];omega
    ·rw [if_neg hcx] at S3;refine rF wr.heap.size (Array.replicate 11 true) 11 0 mixed (by rfl) ?_;rw [←hW,show wr.heap.size=W.heap.size by rw [hW];rfl];clear hW;refine lN [1,2,3,5,6,7,8] 4 rfl (by kernel_rfl) ?_
     iterate 7 (refine aC rfl ?_;go_big_quiet_step (rfl))
     refine ak ?_;refine kJ 0 (by kernel_rfl) rfl ?_;go_wp2_with fail;refine iM (ai _) ?_;refine kJ 4 (by kernel_rfl) rfl ?_;refine bG rfl _ _ 23 rfl W.heap.size aU _ 8 gL _ _ _ rfl (il W aU) _ (ints P) rfl (S1.out.mono (ai _)) (gM _) (by simp only [dw];unfold maxLen;omega) (by simp only [dw];omega) (ai _).size ?_;intro v1 w6 o1 hg1;have b1:=wh (il W aU) hg1 (ai _).size;go_wp2_with fail;refine iM b1 ?_;have b1:=(ai (w:=W) (.cells #[] aU)).trans b1;refine kJ 9 (by kernel_rfl) rfl ?_;refine bG rfl _ _ 23 rfl W.heap.size aU _ 8 gL _ _ _ rfl o1 _ (ints Q) rfl (S3.out.mono b1) (gM _) (by simp only [dw];unfold maxLen;omega) (by simp only [dw];omega) b1.size ?_;intro v2 w7 o2 hg2;have b2:=wh o1 hg2 b1.size;go_wp2_with fail;refine iM b2 ?_;have b2:=b1.trans b2;refine lN [10] 0 rfl (by kernel_rfl) ?_
     iterate 1 (refine aC rfl ?_;go_big_quiet_step (rfl))
     refine ak ?_;refine Ex [] (by kernel_rfl) ?_;refine tail_nil ?_;have o4:w7.ownsRow W.heap.size aU 1 v2 (P++Q).length (ints (P++Q)):=by
      have e1:[]++ints P++ints Q=ints (P++Q):=by simp [ints]
      have e2:0+(ints P).length+(ints Q).length=(P++Q).length:=by simp
      rw [e1,e2] at o2;exact o2
     have zg:=ae (⟨i+1,P++Q,by omega,by omega,by simp,aW o4 HEC.out.size,fun x hx=>(List.mem_append.1 hx).elim (HCP.out x) (HCQ.out x),by rw [List.length_append];omega,HEC.out.trans (b2.mono HEC.out.size)⟩:∃(i':Nat) (Y:List Nat),i'≤nt∧i'≤4∧Value.int .i64 ((i:Int)+1)=.int .i64 i'∧w7.ownsRow w9.heap.size aU 1 v2 Y.length (ints Y)∧(∀c∈Y,aX c)∧Y.length≤1000+i'∧Below w9.heap.size w9 w7);clear o1 o2 o4 b1 b2 hg1 hg2;go_wp2;go_roundw
     case rel=>exact zg.out
     case measure=>simp [intOf];omega
   ·
    obtain ⟨s1,s2,s3⟩:=aaz Xy.out HP0.out;obtain ⟨W,hW⟩:=af wr.drew;have S1:=ae (show bD W _ (ints P) by rw [hW];exact s1.mono (ah wr));have S2:=ae (show bD W _ (ints (c::Q)) by rw [hW];exact s2.mono (ah wr));have S3:=ae (show bD W _ (ints Q) by rw [hW];exact s3.mono (ah wr));have HEC:=ae (show Below w9.heap.size w9 W by rw [hW];exact HEW.out.drew);have hc4:∀x∈P++[c]++c::Q,aX x:=fun x hx=>by
     rcases List.mem_append.1 hx with hx|hx
     ·rcases List.mem_append.1 hx with hx|hx
      ·exact HCP.out x hx
      ·rw [List.mem_singleton.1 hx];exact M9.out
     ·rcases List.mem_cons.1 hx with rfl|hx
      ·exact M9.out
      ·exact HCQ.out x hx
    have g0:=U3.keeps (B:=W.heap.size) (w:=W) (show W.cell? ⟨g,A,none⟩=some (.int .i64 (c:Nat)) by rw [hW];exact (aak Xy.out HP0.out).1) (by rw [hW];exact hg2);clear s1 s2 s3 S3;refine rF wr.heap.size (Array.replicate 16 true) 16 0 mixed (by rfl) ?_;rw [←hW,show wr.heap.size=W.heap.size by rw [hW];rfl];clear hW;refine lN [1,2,3,5,6,7,8,11,12,13] 6 rfl (by kernel_rfl) ?_
    iterate 10 (refine aC rfl ?_;go_big_quiet_step (rfl))
    refine ak ?_;clear g0;refine abh 0 9 (by kernel_rfl) rfl rfl ?_ ?_
    ·go_wp2_with fail;refine iM (ai _) ?_;refine abh 4 9 (by kernel_rfl) rfl rfl ?_ ?_
     ·
      refine bG rfl _ _ 23 rfl W.heap.size aU _ 8 gL _ _ _ rfl (il W aU) _ (ints P) rfl (S1.out.mono (ai _)) (gM _) (by simp only [dw];unfold maxLen;omega) (by simp only [dw];omega) (ai _).size ?_;intro v1 w5 o1 hg1;have b1:=wh (il W aU) hg1 (ai _).size;go_wp2_with fail;refine iM b1 ?_;have b1:=(ai (w:=W) (.cells #[] aU)).trans b1;refine kJ 9 (by kernel_rfl) rfl ?_;go_wp2_with fail;refine iM ((ai _).mono b1.size) ?_;have o1:=aG o1 (ai (.cells #[.int .i64 (c:Nat)] aU));have l1:=lY w5 #[.int .i64 (c:Nat)] aU;have b1:=b1.alloc b1.size (.cells #[.int .i64 (c:Nat)] aU);clear hg1;refine kJ 10 (by kernel_rfl) rfl ?_;refine bG rfl _ _ 23 rfl W.heap.size aU _ 8 gL _ _ _ rfl o1 _ [.int .i64 (c:Nat)] rfl l1 (by simp [Value.oneCell']) (by simp only [dw,List.length_cons,List.length_nil];unfold maxLen;omega) (by simp only [dw,List.length_cons,List.length_nil];omega) b1.size ?_;intro v2 w7 o2 hg2;have b2:=wh o1 hg2 b1.size;go_wp2_with fail;refine iM b2 ?_;have b2:=b1.trans b2;refine kJ 14 (by kernel_rfl) rfl ?_;refine bG rfl _ _ 23 rfl W.heap.size aU _ 8 gL _ _ _ rfl o2 _ (ints (c::Q)) rfl (S2.out.mono b2) (gM _) (by simp only [dw,List.length_cons,List.length_nil];unfold maxLen;omega) (by simp only [dw,List.length_cons,List.length_nil];omega) b2.size ?_;intro v3 w8 o3 hg3;have b3:=wh o2 hg3 b2.size;go_wp2_with fail;refine iM b3 ?_;have b3:=b2.trans b3;refine lN [15] 0 rfl (by kernel_rfl) ?_
      iterate 1 (refine aC rfl ?_;go_big_quiet_step (rfl))
      refine ak ?_;refine Ex [] (by kernel_rfl) ?_;refine tail_nil ?_;have o4:w8.ownsRow W.heap.size aU 1 v3 (P++[c]++c::Q).length (ints (P++[c]++c::Q)):=by
       have e1:[]++ints P++[.int .i64 (c:Nat)]++ints (c::Q)=ints (P++[c]++c::Q):=by simp [ints]
       have e2:0+(ints P).length+[Value.int .i64 (c:Nat)].length+(ints (c::Q)).length=(P++[c]++c::Q).length:=by simp only [dw,List.length_append,List.length_cons,List.length_nil];omega
       rw [e1,e2] at o3;exact o3
      have zg:=ae (⟨i+1,P++[c]++c::Q,by omega,by omega,by simp,aW o4 HEC.out.size,hc4,by simp;omega,HEC.out.trans (b3.mono HEC.out.size)⟩:∃(i':Nat) (Y:List Nat),i'≤nt∧i'≤4∧Value.int .i64 ((i:Int)+1)=.int .i64 i'∧w8.ownsRow w9.heap.size aU 1 v3 Y.length (ints Y)∧(∀c∈Y,aX c)∧Y.length≤1000+i'∧Below w9.heap.size w9 w8);clear o2 o3 o4 b1 b2 b3 hg2 hg3;go_wp2;go_roundw
      case rel=>exact zg.out
      case measure=>simp [intOf];omega
     ·
      go_wp2_with fail;refine iM ((ai _).mono (ai _).size) ?_;have o0:=aG (il W aU) (ai (.cells #[.int .i64 (c:Nat)] aU));have b0:=(ai (w:=W) (.cells #[] aU)).alloc (ai (w:=W) (.cells #[] aU)).size (.cells #[.int .i64 (c:Nat)] aU);have l0:bD ((W.alloc (.cells #[] aU)).alloc (.cells #[.int .i64 (c:Nat)] aU)) (.slice (some ⟨W.heap.size+1,0,none⟩) 1 1) [.int .i64 (c:Nat)]:=by
       have:=lY (W.alloc (.cells #[] aU)) #[.int .i64 (c:Nat)] aU;rw [World.size_alloc] at this;exact this
      refine kJ 4 (by kernel_rfl) rfl ?_;refine bG rfl _ _ 23 rfl W.heap.size aU _ 8 gL _ _ _ rfl o0 _ (ints P) rfl (S1.out.mono b0) (gM _) (by simp only [dw];unfold maxLen;omega) (by simp only [dw];omega) b0.size ?_;intro v1 w5 o1 hg1;have b1:=b0.trans (wh o0 hg1 b0.size);have l1:=aaY l0 hg1 (show (some W.heap.size:Option Nat)≠some (W.heap.size+1) by simp);go_wp2_with fail;refine iM (wh o0 hg1 b0.size) ?_;clear hg1 l0 b0 o0;refine kJ 10 (by kernel_rfl) rfl ?_;refine bG rfl _ _ 23 rfl W.heap.size aU _ 8 gL _ _ _ rfl o1 _ [.int .i64 (c:Nat)] rfl l1 (by simp [Value.oneCell']) (by simp only [dw,List.length_cons,List.length_nil];unfold maxLen;omega) (by simp only [dw,List.length_cons,List.length_nil];omega) b1.size ?_;intro v2 w7 o2 hg2;have b2:=wh o1 hg2 b1.size;go_wp2_with fail;refine iM b2 ?_;have b2:=b1.trans b2;refine kJ 14 (by kernel_rfl) rfl ?_;refine bG rfl _ _ 23 rfl W.heap.size aU _ 8 gL _ _ _ rfl o2 _ (ints (c::Q)) rfl (S2.out.mono b2) (gM _) (by simp only [dw,List.length_cons,List.length_nil];unfold maxLen;omega) (by simp only [dw,List.length_cons,List.length_nil];omega) b2.size ?_;intro v3 w8 o3 hg3;have b3:=wh o2 hg3 b2.size;go_wp2_with fail;refine iM b3 ?_;have b3:=b2.trans b3;refine lN [15] 0 rfl (by kernel_rfl) ?_
      iterate 1 (refine aC rfl ?_;go_big_quiet_step (rfl))
      refine ak ?_;refine Ex [] (by kernel_rfl) ?_;refine tail_nil ?_;have o4:w8.ownsRow W.heap.size aU 1 v3 (P++[c]++c::Q).length (ints (P++[c]++c::Q)):=by
       have e1:[]++ints P++[.int .i64 (c:Nat)]++ints (c::Q)=ints (P++[c]++c::Q):=by simp [ints]
       have e2:0+(ints P).length+[Value.int .i64 (c:Nat)].length+(ints (c::Q)).length=(P++[c]++c::Q).length:=by simp only [dw,List.length_append,List.length_cons,List.length_nil];omega
       rw [e1,e2] at o3;exact o3
      have zg:=ae (⟨i+1,P++[c]++c::Q,by omega,by omega,by simp,aW o4 HEC.out.size,hc4,by simp;omega,HEC.out.trans (b3.mono HEC.out.size)⟩:∃(i':Nat) (Y:List Nat),i'≤nt∧i'≤4∧Value.int .i64 ((i:Int)+1)=.int .i64 i'∧w8.ownsRow w9.heap.size aU 1 v3 Y.length (ints Y)∧(∀c∈Y,aX c)∧Y.length≤1000+i'∧Below w9.heap.size w9 w8);clear o2 o3 o4 b1 b2 b3 hg2 hg3;go_wp2;go_roundw
      case rel=>exact zg.out
      case measure=>simp [intOf];omega
    ·
     go_wp2_with fail;refine iM (ai _) ?_;refine kJ 0 (by kernel_rfl) rfl ?_;go_wp2_with fail;refine iM ((ai _).mono (ai _).size) ?_;have o0:((W.alloc (.cells #[.int .i64 (c:Nat)] aU)).alloc (.cells #[] aU)).ownsRow W.heap.size aU 1 (.slice (some ⟨W.heap.size+1,0,none⟩) 0 0) 0 []:=by
      have:=aW (il (W.alloc (.cells #[.int .i64 (c:Nat)] aU)) aU) (ai (w:=W) (.cells #[.int .i64 (c:Nat)] aU)).size;rw [World.size_alloc] at this;exact this
     have b0:=(ai (w:=W) (.cells #[.int .i64 (c:Nat)] aU)).alloc (ai (w:=W) (.cells #[.int .i64 (c:Nat)] aU)).size (.cells #[] aU);have l0:=(lY W #[.int .i64 (c:Nat)] aU).mono (ai (.cells #[] aU));refine kJ 4 (by kernel_rfl) rfl ?_;refine bG rfl _ _ 23 rfl W.heap.size aU _ 8 gL _ _ _ rfl o0 _ (ints P) rfl (S1.out.mono b0) (gM _) (by simp only [dw];unfold maxLen;omega) (by simp only [dw];omega) b0.size ?_;intro v1 w5 o1 hg1;have b1:=b0.trans (wh o0 hg1 b0.size);have l1:=aaY l0 hg1 (show (some (W.heap.size+1):Option Nat)≠some W.heap.size by simp);go_wp2_with fail;refine iM (wh o0 hg1 b0.size) ?_;clear hg1 l0 b0 o0;refine kJ 10 (by kernel_rfl) rfl ?_;refine bG rfl _ _ 23 rfl W.heap.size aU _ 8 gL _ _ _ rfl o1 _ [.int .i64 (c:Nat)] rfl l1 (by simp [Value.oneCell']) (by simp only [dw,List.length_cons,List.length_nil];unfold maxLen;omega) (by simp only [dw,List.length_cons,List.length_nil];omega) b1.size ?_;intro v2 w7 o2 hg2;have b2:=wh o1 hg2 b1.size;go_wp2_with fail;refine iM b2 ?_;have b2:=b1.trans b2;refine kJ 14 (by kernel_rfl) rfl ?_;refine bG rfl _ _ 23 rfl W.heap.size aU _ 8 gL _ _ _ rfl o2 _ (ints (c::Q)) rfl (S2.out.mono b2) (gM _) (by simp only [dw,List.length_cons,List.length_nil];unfold maxLen;omega) (by simp only [dw,List.length_cons,List.length_nil];omega) b2.size ?_;intro v3 w8 o3 hg3;have b3:=wh o2 hg3 b2.size;go_wp2_with fail;refine iM b3 ?_;have b3:=b2.trans b3;refine lN [15] 0 rfl (by kernel_rfl) ?_
     iterate 1 (refine aC rfl ?_;go_big_quiet_step (rfl))
     refine ak ?_;refine Ex [] (by kernel_rfl) ?_;refine tail_nil ?_;have o4:w8.ownsRow W.heap.size aU 1 v3 (P++[c]++c::Q).length (ints (P++[c]++c::Q)):=by
      have e1:[]++ints P++[.int .i64 (c:Nat)]++ints (c::Q)=ints (P++[c]++c::Q):=by simp [ints]
      have e2:0+(ints P).length+[Value.int .i64 (c:Nat)].length+(ints (c::Q)).length=(P++[c]++c::Q).length:=by simp only [dw,List.length_append,List.length_cons,List.length_nil];omega
      rw [e1,e2] at o3;exact o3
     have zg:=ae (⟨i+1,P++[c]++c::Q,by omega,by omega,by simp,aW o4 HEC.out.size,hc4,by simp;omega,HEC.out.trans (b3.mono HEC.out.size)⟩:∃(i':Nat) (Y:List Nat),i'≤nt∧i'≤4∧Value.int .i64 ((i:Int)+1)=.int .i64 i'∧w8.ownsRow w9.heap.size aU 1 v3 Y.length (ints Y)∧(∀c∈Y,aX c)∧Y.length≤1000+i'∧Below w9.heap.size w9 w8);clear o2 o3 o4 b1 b2 b3 hg2 hg3;go_wp2;go_roundw
     case rel=>exact zg.out
     case measure=>simp [intOf];omega
   ·
    have hY0:0<(P++c::Q).length:=by simp only [List.length_append,List.length_cons];omega
    obtain ⟨y0,hy0⟩:=af ((P++c::Q)[0]);have f0:=(aaJ Xy.out hY0).1;rw [←hy0] at f0;have f1:=(aak Xy.out HP0.out).1;have q0:=(aaJ Xy.out hY0).2;have q1:=(aak Xy.out HP0.out).2;have hs1:(wr.setCell ⟨g,0,none⟩ (.int .i64 (c:Nat))).ownsRow w9.heap.size aU 1 (.slice (some ⟨g,0,none⟩) m co) m (ints ((P++c::Q).set 0 c)):=by
     have h1:=(Xy.out.stored 0 (.int .i64 (c:Nat))).1;rw [show (ints (P++c::Q)).set 0 (.int .i64 (c:Nat))=ints ((P++c::Q).set 0 c) by simp [ints,List.map_set]] at h1;exact h1
    have hA2:A<((P++c::Q).set 0 c).length:=by rw [List.length_set,←HM.out];exact hA
    have f2:=(aaJ hs1 hA2).1
    rw [show ((P++c::Q).set 0 c)[A]=c by
     rw [List.getElem_set]
     split
     ·rfl
     ·rw [List.getElem_append_right (by omega)];simp [hPl]] at f2
    have q2:=(aaJ hs1 hA2).2;have aeO:aX y0:=by rw [hy0];exact HCW.out _ (List.getElem_mem _)
    have N_:=ae (show ((wr.setCell ⟨g,0,none⟩ (.int .i64 (c:Nat))).setCell ⟨g,A,none⟩ (.int .i64 (y0:Nat))).ownsRow w9.heap.size aU 1 (.slice (some ⟨g,0,none⟩) m co) m (ints (((P++c::Q).set 0 c).set A y0)) by
     have h1:=((Xy.out.stored 0 (.int .i64 (c:Nat))).1.stored A (.int .i64 (y0:Nat))).1;rw [show ((ints (P++c::Q)).set 0 (.int .i64 (c:Nat))).set A (.int .i64 (y0:Nat))=ints (((P++c::Q).set 0 c).set A y0) by simp [ints,List.map_set]] at h1
     exact h1)
    have hcs:∀x∈((P++c::Q).set 0 c).set A y0,aX x:=fun x hx=>by
     rcases List.mem_or_eq_of_mem_set hx with hx|rfl
     ·rcases List.mem_or_eq_of_mem_set hx with hx|rfl
      ·exact HCW.out x hx
      ·exact M9.out
     ·exact aeO
    have zg:=ae (⟨i+1,((P++c::Q).set 0 c).set A y0,by omega,by omega,by simp,by
     rw [List.length_set,List.length_set,←HM.out];exact aG N_.out (ah _),hcs,by rw [List.length_set,List.length_set,←HM.out];omega,(aj (aj HEW.out hg1) hg1).drew⟩:∃(i':Nat) (Y:List Nat),i'≤nt∧i'≤4∧Value.int .i64 ((i:Int)+1)=.int .i64 i'∧((wr.setCell ⟨g,0,none⟩ (.int .i64 (c:Nat))).setCell ⟨g,A,none⟩ (.int .i64 (y0:Nat))).drew.ownsRow w9.heap.size aU 1 (.slice (some ⟨g,0,none⟩) m co) Y.length (ints Y)∧(∀c∈Y,aX c)∧Y.length≤1000+i'∧Below w9.heap.size w9 ((wr.setCell ⟨g,0,none⟩ (.int .i64 (c:Nat))).setCell ⟨g,A,none⟩ (.int .i64 (y0:Nat))).drew)
    clear hy0 hcs aeO hY0 hs1 hA2;go_wp2_with fail;go_region;go_wp2;go_roundw
    case rel=>exact zg.out
    case measure=>simp [intOf];omega
  ·have HEX:=ae (show ¬(i<nt∧i<4∧0<m) from hgo);obtain ⟨b,hb⟩:∃b:Bool,b=decide (xR T Y=U):=⟨_,rfl⟩;have WY:=ae (WK.out wr.drew dC.drew _ Y (Sl.aT (aG Xy.out (ah wr))).any HCW.out (by have:=HM.out;omega));rw [←hb] at WY;have CY:=ae (fun (W:World) (E:Below wr.heap.size wr W)=>CH.out W (ag dC E) _ Y (Sl.aT (aG Xy.out E)).any HCW.out (by have:=HM.out;omega));have HBD:=ae hb;have HRE:=ae (fun (W:World) (E:Below wr.heap.size wr W)=>ag (HT5.out wr dC) E);have tr:=t9.mono HEW.out;have t0:=tr.at 0 rfl;have t1:=tr.at 1 rfl;clear hb tr;by_cases g1:i<nt
   ·have z1:decide ((i:Int)<(nt:Int))=true:=decide_eq_true (by omega);by_cases g2:i<4
    ·have z2:decide ((i:Int)<4)=true:=decide_eq_true (by omega);have z3:decide ((0:Int)<(m:Int))=false:=decide_eq_false (fun h=>HEX.out ⟨g1,g2,by omega⟩);go_wp2_with fail;have g0:=Gr.cell (ah wr) t0;have g1:=Gr.cell (ah wr) t1;refine aD (Array.replicate 11 true) 11 0 mixed (by rfl) ?_;refine ay [0,1,3,4,6] 6 rfl (by kernel_rfl) ?_
     iterate 5 (refine aC rfl ?_;go_big_quiet_step (rfl))
     refine ak ?_;refine aL 2 (by kernel_rfl) rfl ?_;go_wp2_with fail;refine WY.out.mono ?_;rintro e y_ ⟨rfl,h12⟩;go_wp2_with fail;refine aH h12 ?_;have E12:=ag (ah wr) h12;have CY2:=ae (CY.out y_ E12);refine aL 5 (by kernel_rfl) rfl ?_;go_wp2_with fail;refine CY2.out.mono ?_;rintro e w13 ⟨r13,rfl,h13,aaC⟩;obtain ⟨q1,q3,rfl,_,_⟩:=az h13;go_wp2_with fail;refine aH aaC ?_;have E13:=ag E12 aaC;have CM:=ae (aax (Sl.aT h13).any (HU5.out.mono (ag dC E13)) (by have h1:=RJ.out Y;have h2:=Ga T Y;have:=HM.out;omega) (by omega));refine aL 7 (by kernel_rfl) rfl ?_;go_wp2_with fail;refine CM.out.mono ?_;rintro e w14 ⟨r5,rfl,hr5,h14⟩;have zr:(r5==(0:Int))=b:=by
      rw [HBD.out];by_cases h:xR T Y=U
      ·rw [decide_eq_true h,hr5.2 h];rfl
      ·rw [decide_eq_false h];exact beq_eq_false_iff_ne.2 (fun e=>h (hr5.1 e))
     have HR:=ae (HRE.out w14 (ag E13 h14));clear h13 hr5 CM CY2;cases b
     ·go_wp2_with fail;refine aH h14 ?_;refine ay [8,9,10] 0 rfl (by kernel_rfl) ?_
      iterate 3 (refine aC rfl ?_;go_big_quiet_step (rfl))
      refine ak ?_;refine aI [] (by kernel_rfl) ?_;refine tail_nil ?_;go_wp2;go_ret;exact ⟨rfl,HR.out⟩
     ·go_wp2_with fail;refine aH h14 ?_;refine ay [8,9,10] 0 rfl (by kernel_rfl) ?_
      iterate 3 (refine aC rfl ?_;go_big_quiet_step (rfl))
      refine ak ?_;refine aI [] (by kernel_rfl) ?_;refine tail_nil ?_;go_wp2;go_ret;exact ⟨rfl,HR.out⟩
    ·have z2:decide ((i:Int)<4)=false:=decide_eq_false (by omega);go_wp2_with fail;have g0:=Gr.cell (ah wr) t0;have g1:=Gr.cell (ah wr) t1;refine aD (Array.replicate 11 true) 11 0 mixed (by rfl) ?_;refine ay [0,1,3,4,6] 6 rfl (by kernel_rfl) ?_
     iterate 5 (refine aC rfl ?_;go_big_quiet_step (rfl))
     refine ak ?_;refine aL 2 (by kernel_rfl) rfl ?_;go_wp2_with fail;refine WY.out.mono ?_;rintro e y_ ⟨rfl,h12⟩;go_wp2_with fail;refine aH h12 ?_;have E12:=ag (ah wr) h12;have CY2:=ae (CY.out y_ E12);refine aL 5 (by kernel_rfl) rfl ?_;go_wp2_with fail;refine CY2.out.mono ?_;rintro e w13 ⟨r13,rfl,h13,aaC⟩;obtain ⟨q1,q3,rfl,_,_⟩:=az h13;go_wp2_with fail;refine aH aaC ?_;have E13:=ag E12 aaC;have CM:=ae (aax (Sl.aT h13).any (HU5.out.mono (ag dC E13)) (by have h1:=RJ.out Y;have h2:=Ga T Y;have:=HM.out;omega) (by omega));refine aL 7 (by kernel_rfl) rfl ?_;go_wp2_with fail;refine CM.out.mono ?_;rintro e w14 ⟨r5,rfl,hr5,h14⟩;have zr:(r5==(0:Int))=b:=by
      rw [HBD.out];by_cases h:xR T Y=U
      ·rw [decide_eq_true h,hr5.2 h];rfl
      ·rw [decide_eq_false h];exact beq_eq_false_iff_ne.2 (fun e=>h (hr5.1 e))
     have HR:=ae (HRE.out w14 (ag E13 h14));clear h13 hr5 CM CY2;cases b
     ·go_wp2_with fail;refine aH h14 ?_;refine ay [8,9,10] 0 rfl (by kernel_rfl) ?_
      iterate 3 (refine aC rfl ?_;go_big_quiet_step (rfl))
      refine ak ?_;refine aI [] (by kernel_rfl) ?_;refine tail_nil ?_;go_wp2;go_ret;exact ⟨rfl,HR.out⟩
     ·go_wp2_with fail;refine aH h14 ?_;refine ay [8,9,10] 0 rfl (by kernel_rfl) ?_
      iterate 3 (refine aC rfl ?_;go_big_quiet_step (rfl))
      refine ak ?_;refine aI [] (by kernel_rfl) ?_;refine tail_nil ?_;go_wp2;go_ret;exact ⟨rfl,HR.out⟩
   ·have z1:decide ((i:Int)<(nt:Int))=false:=decide_eq_false (by omega);go_wp2_with fail;have g0:=Gr.cell (ah wr) t0;have g1:=Gr.cell (ah wr) t1;refine aD (Array.replicate 11 true) 11 0 mixed (by rfl) ?_;refine ay [0,1,3,4,6] 6 rfl (by kernel_rfl) ?_
    iterate 5 (refine aC rfl ?_;go_big_quiet_step (rfl))
    refine ak ?_;refine aL 2 (by kernel_rfl) rfl ?_;go_wp2_with fail;refine WY.out.mono ?_;rintro e y_ ⟨rfl,h12⟩;go_wp2_with fail;refine aH h12 ?_;have E12:=ag (ah wr) h12;have CY2:=ae (CY.out y_ E12);refine aL 5 (by kernel_rfl) rfl ?_;go_wp2_with fail;refine CY2.out.mono ?_;rintro e w13 ⟨r13,rfl,h13,aaC⟩;obtain ⟨q1,q3,rfl,_,_⟩:=az h13;go_wp2_with fail;refine aH aaC ?_;have E13:=ag E12 aaC;have CM:=ae (aax (Sl.aT h13).any (HU5.out.mono (ag dC E13)) (by have h1:=RJ.out Y;have h2:=Ga T Y;have:=HM.out;omega) (by omega));refine aL 7 (by kernel_rfl) rfl ?_;go_wp2_with fail;refine CM.out.mono ?_;rintro e w14 ⟨r5,rfl,hr5,h14⟩;have zr:(r5==(0:Int))=b:=by
     rw [HBD.out];by_cases h:xR T Y=U
     ·rw [decide_eq_true h,hr5.2 h];rfl
     ·rw [decide_eq_false h];exact beq_eq_false_iff_ne.2 (fun e=>h (hr5.1 e))
    have HR:=ae (HRE.out w14 (ag E13 h14));clear h13 hr5 CM CY2;cases b
    ·go_wp2_with fail;refine aH h14 ?_;refine ay [8,9,10] 0 rfl (by kernel_rfl) ?_
     iterate 3 (refine aC rfl ?_;go_big_quiet_step (rfl))
     refine ak ?_;refine aI [] (by kernel_rfl) ?_;refine tail_nil ?_;go_wp2;go_ret;exact ⟨rfl,HR.out⟩
    ·go_wp2_with fail;refine aH h14 ?_;refine ay [8,9,10] 0 rfl (by kernel_rfl) ?_
     iterate 3 (refine aC rfl ?_;go_big_quiet_step (rfl))
     refine ak ?_;refine aI [] (by kernel_rfl) ?_;refine tail_nil ?_;go_wp2;go_ret;exact ⟨rfl,HR.out⟩
end Go.Proofs.YtjidohgiigjifaaGreatDoor
