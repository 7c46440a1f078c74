/- TraceParts and TraceWalks: a machine takes a character as those of its full decomposition, one by one; texts that are alike go through it, and of others none; no condition. -/
import Derived.Test.YtjidohgiigjifaaGreatDoorR24
set_option maxRecDepth 100000
set_option maxHeartbeats 6400000
namespace Go.Proofs.YtjidohgiigjifaaGreatDoor
open Go.RowKit Go.Cd
def abQ (R:List fJ) (F:Nat→List Nat) (tk:vP→Nat→Option vP) (s:vP) (ys:List Nat):Bool:=
 match ys.foldlM (fun s c=>(F c).foldlM tk s) s with
 | some s'=>aac R s'
 | none=>false
theorem ab6 {sm:Prop} {w0 w:World} {p dp:Nat} {R:List fJ} {F:Nat→List Nat} {tk:vP→Nat→Option vP} {O:vP→List Nat} (hX:adM sm w0 p dp R F tk O) (hb:Below w0.heap.size w0 w) {v:Value} {ys:List Nat} (hv:bD w v (ints ys)) (hc:∀c∈ys,aX c) (hl:ys.length<1000000) :
 Calls Tryz.prog 17 #[.pointer (some ⟨p,0,none⟩),v] w fun e w'=>e=.returned (.bool (abQ R F tk (s0 R) ys))∧Below w.heap.size w w':=by
 obtain ⟨n,hn⟩:=af ys.length;obtain ⟨a,cap,rfl,_,hx⟩:=bD.kS hv hn;obtain ⟨f,hf⟩:∃f:vP→Nat→Option vP,f=fun s c=>(F c).foldlM tk s:=⟨_,rfl⟩;have ST:=ae (hX.start w hb);have SP:=ae (fun (W:World) (E:Below w.heap.size w W) (u:Value) (s:vP) (hu:G_ W u s) (ho:sM R s) (c:Nat) (h:aX c)=>show Calls Tryz.prog 23 #[.pointer (some ⟨p,0,none⟩),u,.int .i32 c] W fun e w'=>BC e w' (f s c)∧Below W.heap.size W w' by rw [hf];exact hX.step W (ag hb E) u s hu ho c h);have OV:=ae (fun (W:World) (E:Below w.heap.size w W) (u:Value) (s:vP) (hu:G_ W u s) (ho:sM R s)=>hX.over W (ag hb E) u s hu ho);have OK:=ae (fun (s s':vP) (c:Nat) (h:sM R s) (e:f s c=some s')=>show sM R s' by rw [hf] at e;exact aaM (fun _ _ _ h e=>hX.ok h e) (F c) s s' h e);have S0:=ae hX.sok;obtain ⟨res,hres⟩:=af (abQ R F tk (s0 R) ys);have sO:=ae (show res=(match ys.foldlM f (s0 R) with|some s'=>aac R s'|none=>false) by rw [hres,hf];rfl);rw [←hres];have Tw:=ae hx;have HN:=ae hn;have HC:=ae hc;have hl9:n<1000000:=by rw [hn];exact hl
 clear hX hb hv hx hn hc hl hf hres;go_enter Tryz.func17,Tryz.ntmps17;go_wp2_with fail;refine ST.out.mono ?_;rintro e w6 ⟨sv0,rfl,hS6,hb6⟩;obtain ⟨svv,rfl,hss⟩:=id hS6;obtain ⟨sa0,sn0,sc0,rfl⟩:∃sa sn sc,svv=.slice sa sn sc:=by obtain ⟨a,cap,h,_⟩:=hss;exact ⟨_,_,_,h⟩
 obtain ⟨w7,hw7⟩:=af (w6.alloc (.cells #[.int .i64 ((s0 R).1:Nat),.slice sa0 sn0 sc0] 53));have abM:Below w6.heap.size w6 w7:=by rw [hw7];exact ai _
 have k7:Is w7 w6.heap.size #[.int .i64 ((s0 R).1:Nat),.slice sa0 sn0 sc0] 53:=by rw [hw7];exact Is.new _ _ _
 have hS7:=hS6.mono abM;obtain ⟨sb,hsb⟩:=af w6.heap.size;rw [←hsb] at k7;clear hss hS6 ST;go_wp2_with fail;rw [←hw7,←hsb];have ahp:w6.heap.size≤sb:=Nat.le_of_eq hsb.symm;clear hw7 hsb;have HS7:=ae hS7;clear hS7;go_wp2_with fail;go_loopw [7,8,9,14] (fun _ _ _ iv wr=>∃i:Nat,i≤n∧iv=.int .i64 i∧(∃(s:vP) (a:Option Addr) (m c:Nat),(ys.take i).foldlM f (s0 R)=some s∧sM R s∧Is wr sb #[.int .i64 (s.1:Nat),.slice a m c] 53∧G_ wr (.agg #[.int .i64 (s.1:Nat),.slice a m c]) s)∧Below w6.heap.size w6 wr) (fun _ _ _ iv _=>n-(intOf iv).toNat)
 case atStart=>exact ⟨0,Nat.zero_le _,rfl,⟨s0 R,_,_,_,rfl,S0.out,k7,HS7.out⟩,abM⟩
 case round=>
  obtain ⟨i,hi,rfl,⟨s,a',m',c',hf,ho,jS,hS⟩,hE⟩:=hrel;have hB:=ag hb6 hE;have hsE:=hE.size;have e0:=jS.at 0 rfl;have e1:=jS.at 1 rfl;by_cases hin:i<n
  ·have zi:decide ((i:Int)<(n:Int))=true:=decide_eq_true (by omega);have hil:i<ys.length:=by have:=HN.out;omega
   obtain ⟨b,off,rfl,_,c0⟩:=Tw.out i hil;have c0:=aA hB c0;have hft:=Jr hil hf;have hyc:=HC.out _ (List.getElem_mem hil);obtain ⟨y,hy⟩:=af (ys[i]);rw [←hy] at c0 hft hyc;have ahz:=hyc.1;have zw:IntKind.i32.wrap (y:Int)=y:=by rw [IntKind.wrap_i32];omega
   have SPy:=ae (SP.out wr hB _ s hS ho y hyc);have Vt:=ae hft;have HO:=ae ho;obtain ⟨ks,hks⟩:=af s.1;rw [←hks] at e0 SPy jS;clear hft hf hy hyc ho hS hks;go_wp2_with fail;refine SPy.out.mono ?_;rintro e w13 ⟨hstep,aaC⟩;cases htc:f s y with
   | none=>
     rw [htc] at hstep;obtain rfl:e=_:=hstep;have hov:res=false:=by
      have h9:ys.foldlM f (s0 R)=none:=Js (i:=i+1) (by rw [Vt.out,htc]);rw [sO.out,h9]
     subst hov;have HB:=ae (ag hB aaC);clear jS hE hB aaC htc SPy;go_wp2_with fail;go_ret;exact ⟨rfl,HB.out.trans ((ai _).mono HB.out.size)⟩
   | some s2=>
     rw [htc] at hstep;obtain ⟨v2,rfl,hV2⟩:=hstep;obtain ⟨sv2,rfl,abN⟩:=id hV2;obtain ⟨a2,c2,rfl,_,_⟩:=bD.out abN.any;obtain ⟨m2,hm2⟩:=af ((bH (nz s2.2)).length);rw [←hm2] at hV2 ⊢;have aaL:Below w13.heap.size w13 (w13.alloc (.cells #[.int .i64 (s2.1:Nat),.slice a2 m2 c2] 53)):=ai _;have n14:Is (w13.alloc (.cells #[.int .i64 (s2.1:Nat),.slice a2 m2 c2] 53)) w13.heap.size #[.int .i64 (s2.1:Nat),.slice a2 m2 c2] 53:=Is.new _ _ _;have aaj:=ag aaC aaL;have aau:=jS.mono aaj;have aas:=ag hE aaj;have abO:=hV2.mono aaL;have g0:=n14.at 0 rfl;have g1:=n14.at 1 rfl;have p0:=aau.at 0 rfl;have p1:=aau.at 1 rfl;have q0:=aau.frozen 0;have q1:=aau.frozen 1;have ch:=(bK.put (o:=0) aau (.int .i64 (s2.1:Nat))).trans (bK.put (o:=1) (aau.set 0 (.int .i64 (s2.1:Nat))) (.slice a2 m2 c2));have HJS:=ae ((aau.set 0 (.int .i64 (s2.1:Nat))).set 1 (.slice a2 m2 c2));have acV:=ae (Kk.Mt abO ch (by decide));have ac1:=ae (aj (off:=1) (u:=.slice a2 m2 c2) (b:=sb) (aj (off:=0) (u:=.int .i64 (s2.1:Nat)) (b:=sb) aas (by omega)) (by omega));have HTC:=ae htc;have QA:=ae (OK.out s s2 y HO.out htc);clear hV2 abN hm2 SPy jS aaC aaL aaj hE hB aau aas abO ch n14 htc;go_wp2_with fail;go_roundw
     case rel=>exact ⟨i+1,by omega,by simp,⟨s2,a2,m2,c2,by rw [Vt.out,HTC.out],QA.out,HJS.out,acV.out⟩,ac1.out⟩
     case measure=>simp [intOf];omega
  ·have zi:decide ((i:Int)<(n:Int))=false:=decide_eq_false (by omega);obtain rfl:i=n:=by omega
   have OVs:=ae (OV.out wr hB _ s hS ho);have hov:res=aac R s:=by
    rw [List.take_of_length_le (by rw [←HN.out];exact Nat.le_refl _)] at hf;rw [sO.out,hf]
   rw [←hov] at OVs;clear hf ho jS hS hov;go_wp2_with fail;refine OVs.out.mono ?_;rintro e w14 ⟨rfl,aaL⟩;go_wp2_with fail;go_ret;exact ⟨rfl,ag hB aaL⟩
section
open Go.RowKit Go.Cd
section
variable {K : Nat → Nat}
theorem abb (c:Nat) (y:List Nat):∀l,iP K (jb K c l++y)=iP K (c::(l++y))
 | []=>rfl
 | d::l=>by
   by_cases h:0<K d∧K d<K c
   ·have e:jb K c (d::l)=d::jb K c l:=if_pos h;rw [e];show jb K d (iP K (jb K c l++y))=jb K c (jb K d (iP K (l++y)));rw [abb c y l];exact (A7 K (a:=c) (b:=d) h _).symm
   ·have e:jb K c (d::l)=c::d::l:=if_neg h;rw [e];rfl
theorem abo (y:List Nat):∀x,iP K (iP K x++y)=iP K (x++y)
 | []=>rfl
 | c::x=>by
   show iP K (jb K c (iP K x)++y)=jb K c (iP K (x++y));rw [abb c y];show jb K c (iP K (iP K x++y))=_;rw [abo y x]
end
theorem abR {T:List aF} {X:List Nat} (hV:bE T X) {c:Nat} (h:mapOf T c≠[]):(mapOf T c).flatMap (aK T)=aK T c:=by
 have e1:aK T c=steps (mapOf T) (T.length+3) [c]:=h_ T c;have e2:steps (mapOf T) (T.length+3+1) [c]=steps (mapOf T) (T.length+3) (mapOf T c):=by
  show steps (mapOf T) (T.length+3) (bX (mapOf T) [c])=_;unfold bX;simp [h]
 have e3:steps (mapOf T) (T.length+3+1) [c]=steps (mapOf T) (T.length+3) [c]:=by
  rw [p_,←e1,mQ (l7 hV c).1]
 rw [e1,←e3,e2,wP];rfl
theorem aaV {T:List aF} {c:Nat} (h:mapOf T c=[]):aK T c=[c]:=g_ h _
theorem abg {T:List aF} (l:List Nat):l.length≤(l.flatMap (aK T)).length:=by
 induction l with
 | nil=>exact Nat.le_refl _
 | cons c l ih=>
   rw [List.flatMap_cons,List.length_append,List.length_cons];have:=List.length_pos_iff.2 (Rv T c);omega
theorem aa2 {T:List aF} {X:List Nat} (hV:bE T X) {c:Nat} (h:mapOf T c≠[]) (A B:List Nat):xR T (A++mapOf T c++B)=xR T (A++c::B):=by
 unfold xR;simp only [List.flatMap_append,List.flatMap_cons,abR hV h,List.append_assoc]
theorem aaW {T:List aF} {X:List Nat} (hV:bE T X) (A B:List Nat):xR T (xR T A++B)=xR T (A++B):=by
 unfold xR;have e:(iP (aB T) (A.flatMap (aK T))).flatMap (aK T)=iP (aB T) (A.flatMap (aK T)):=(Ky.of hV A).flat;rw [List.flatMap_append,e,List.flatMap_append];exact abo _ _
theorem abS {T:List aF} {a b:Nat} (ha:mapOf T a=[]) (hb:mapOf T b=[]) (h1:0<aB T a) (h2:0<aB T b) (h3:aB T a≠aB T b) (A B:List Nat):xR T (A++b::a::B)=xR T (A++a::b::B):=by
 unfold xR;simp only [List.flatMap_append,List.flatMap_cons,aaV ha,aaV hb,List.singleton_append];by_cases h:aB T b<aB T a
 ·exact (A8 _ (a:=a) (b:=b) ⟨h2,h⟩ _ _).symm
 ·exact A8 _ (a:=b) (b:=a) ⟨h1,by omega⟩ _ _
theorem MU {T:List aF} (l:List Nat):l.length≤(xR T l).length:=by
 unfold xR;rw [Pw];exact abg l
end
theorem acx (i:Int) {S:Nat} (h:1≤S) (hS:S≤281474976710656):∃A:Nat,A<S∧(wrap64 (i.tmod (S:Int)+(S:Int))).tmod (S:Int)=(A:Int):=by
 have h1:-(S:Int)<i.tmod (S:Int):=Int.neg_lt_of_neg_lt (by have:=Int.tmod_lt_of_pos (-i) (show (0:Int)<(S:Int) by omega);rw [Int.neg_tmod] at this;exact this);have h2:i.tmod (S:Int)<(S:Int):=Int.tmod_lt_of_pos i (by omega);generalize i.tmod (S:Int)=q at *;obtain ⟨m,hm⟩:∃m:Nat,q+(S:Int)=(m:Int):=⟨(q+(S:Int)).toNat,by omega⟩;have h3:wrap64 (q+(S:Int))=(m:Int):=by rw [hm];unfold wrap64;omega
 rw [h3,←Int.ofNat_tmod];exact ⟨m % S,Nat.mod_lt _ h,rfl⟩
theorem bD.acy {w:World} {b off n cap k:Nat} {xs:List Value} (h:bD w (.slice (some ⟨b,off,none⟩) n cap) xs) (hk:k≤xs.length) :
 bD w (.slice (some ⟨b,off+k,none⟩) (n-k) (cap-k)) (xs.drop k):=by
 obtain ⟨a',cap',hv,hc,hx⟩:=h;simp only [Value.slice.injEq] at hv;obtain ⟨rfl,rfl,rfl⟩:=hv;refine ⟨_,_,by rw [List.length_drop],by rw [List.length_drop];omega,?_⟩;rcases hx with ⟨rfl,h0⟩|⟨b',off',cs,e,fr,ha,hh,hx⟩
 ·exact .inl ⟨by simp,fun e=>by cases e⟩
 ·cases ha;refine .inr ⟨b,off+k,cs,e,fr,rfl,hh,fun i hi=>?_⟩;rw [List.length_drop] at hi;rw [List.getElem_drop,Nat.add_assoc];exact hx (k+i) (by omega)
theorem bD.aeE {w:World} {a:Option Addr} {n cap k:Nat} {xs:List Value} (h:bD w (.slice a n cap) xs) (hk:k≤xs.length):bD w (.slice a k cap) (xs.take k):=by
 obtain ⟨a',cap',hv,hc,hx⟩:=h;simp only [Value.slice.injEq] at hv;obtain ⟨rfl,rfl,rfl⟩:=hv;have hl:(xs.take k).length=k:=by rw [List.length_take];omega
 refine ⟨_,_,by rw [hl],by rw [hl];omega,?_⟩;rcases hx with ⟨rfl,h0⟩|⟨b',off',cs,e,fr,ha,hh,hx⟩
 ·exact .inl ⟨by simp,h0⟩
 ·refine .inr ⟨b',off',cs,e,fr,ha,hh,fun i hi=>?_⟩;rw [hl] at hi;rw [List.getElem_take];exact hx i (by omega)
theorem aak {w:World} {B g n cap c:Nat} {P Q:List Nat} (h:w.ownsRow B aU 1 (.slice (some ⟨g,0,none⟩) n cap) n (ints (P++c::Q))) {k:Nat} (hk:P.length=k):w.cell? ⟨g,k,none⟩=some (.int .i64 c)∧w.frozen? ⟨g,k,none⟩=false:=by
 subst hk;have:=gJ h (j:=P.length) (by simp);simpa [ints] using this
theorem aaR {w:World} {B g n cap c d:Nat} {P Q:List Nat} (h:w.ownsRow B aU 1 (.slice (some ⟨g,0,none⟩) n cap) n (ints (P++c::d::Q))) {k:Nat} (hk:P.length=k):w.cell? ⟨g,k+1,none⟩=some (.int .i64 d)∧w.frozen? ⟨g,k+1,none⟩=false:=by
 have h2:w.ownsRow B aU 1 (.slice (some ⟨g,0,none⟩) n cap) n (ints ((P++[c])++d::Q)):=by simpa using h
 exact aak h2 (by simp [hk])
theorem abT {O:List Nat} {k:Nat} (h:k<O.length):∃P c Q,O=P++c::Q∧P.length=k:=
 ⟨O.take k,O[k],O.drop (k+1),by rw [←List.drop_eq_getElem_cons h,List.take_append_drop],by rw [List.length_take];omega⟩
theorem aby (P R:List Nat) {k:Nat} (hk:P.length=k):(ints (P++R)).take k=ints P:=by
 subst hk;simp [ints]
theorem aaX (P R:List Nat) {k:Nat} (hk:P.length=k):(ints (P++R)).drop k=ints R:=by
 subst hk;simp [ints]
theorem wh {B:Nat} {w w':World} {v:Value} {e:TypeId} {s n:Nat} {xs:List Value} (h:w.ownsRow B e s v n xs) (hg:w.grownBy w' v.ownBlock) (hB:B≤w.heap.size):Below B w w':=
 (Below.refl _ _).grown hg hB (fun k hk=>(h.lt k hk).1)
theorem aaY {w w':World} {b off n c:Nat} {xs:List Value} {row:Option Nat} (h:bD w (.slice (some ⟨b,off,none⟩) n c) xs) (hg:w.grownBy w' row) (hne:row≠some b):bD w' (.slice (some ⟨b,off,none⟩) n c) xs:=by
 obtain ⟨a',cap',hv,hc,hx⟩:=h;simp only [Value.slice.injEq] at hv;obtain ⟨rfl,rfl,rfl⟩:=hv;refine ⟨_,_,rfl,hc,?_⟩;rcases hx with hx|⟨b',off',cs,e,fr,ha,hh,hx⟩
 ·exact .inl hx
 ·cases ha;exact .inr ⟨b,off,cs,e,fr,rfl,by rw [hg.block b (block_lt hh) (Ne.symm hne)];exact hh,hx⟩
theorem aaz {w:World} {B g n cap c:Nat} {P Q:List Nat} (h:w.ownsRow B aU 1 (.slice (some ⟨g,0,none⟩) n cap) n (ints (P++c::Q))) {k:Nat} (hk:P.length=k) :
 bD w (.slice (some ⟨g,0,none⟩) k cap) (ints P)∧bD w (.slice (some ⟨g,k,none⟩) (n-k) (cap-k)) (ints (c::Q))∧bD w (.slice (some ⟨g,if cap=k+1 then 0 else k+1,none⟩) (n-(k+1)) (cap-(k+1))) (ints Q):=by
 obtain ⟨_,_,he,hcap,_⟩:=az h;injection he with _ _ Wi;subst Wi;have h0:(ints (P++c::Q)).length=n*1:=h.1;have h1:=(Sl.aT h).any;have hl:k<(ints (P++c::Q)).length:=by simp [ints];omega
 refine ⟨?_,?_,?_⟩
 ·have:=bD.aeE h1 (Nat.le_of_lt hl);rwa [aby P _ hk] at this
 ·have:=bD.acy h1 (Nat.le_of_lt hl);rwa [aaX P _ hk,Nat.zero_add] at this
 ·by_cases hc:cap=k+1
  ·rw [if_pos hc];have hQ:Q=[]:=by
    have:Q.length=0:=by simp [ints] at h0;omega
    exact List.eq_nil_of_length_eq_zero this
   subst hQ;exact ⟨_,_,by rw [show n-(k+1)=0 by simp [ints] at h0;omega];rfl,Nat.zero_le _,.inl ⟨rfl,fun e=>by cases e⟩⟩
  ·rw [if_neg hc];have:=bD.acy h1 (k:=k+1) hl
   rwa [show P++c::Q=(P++[c])++Q by simp,aaX (P++[c]) Q (by simp [hk]),Nat.zero_add] at this
theorem abz {w:World} {v u pv:Value} {T:List aF} {X L:List Nat} {pk:List Int} (h:iw w v T X) (hV:bE T X) (hl:bD w u (ints L)) (hc:∀c∈L,aX c) (Qw:(xR T L).length<1000) (hp:bD w pv (bH pk)) (hmax:T.length<1000) :
 Calls Tryz.prog 18 #[v,u,pv] w fun e w'=>∃r O,e=.returned r∧w'.ownsRow w.heap.size aU 1 r O.length (ints O)∧(∀c∈O,aX c)∧xR T O=xR T L∧Below w.heap.size w w':=by
 have HT:=ae h;obtain ⟨a,nt,cap,ax,nx,cx,rfl⟩:=h.shape;obtain ⟨n,hn⟩:=af L.length;have HL:=ae hl;obtain ⟨al,cl,rfl,_,_⟩:=bD.kS hl hn;obtain ⟨pa,pc,rfl,_,hpx⟩:=bD.out hp;obtain ⟨np,Nb⟩:=af ((bH pk).length);rw [←Nb];have HP:=ae hpx;have QC:=ae Nb;have HN:=ae hn;have Qy:n<1000:=by have:=MU (T:=T) L;omega
 have hil:(ints L).length=n:=by rw [dw,hn]
 obtain ⟨W0,hW⟩:=af (w.alloc (.cells #[.slice a nt cap,.slice ax nx cx] 25));have hb:Below w.heap.size w W0:=by rw [hW];exact ai _
 have i0:Is W0 w.heap.size #[.slice a nt cap,.slice ax nx cx] 25:=by rw [hW];exact Is.new _ _ _
 have hs0:W0.heap.size=w.heap.size+1:=by rw [hW];simp
 have o0:(W0.alloc (.cells #[] aU)).ownsRow (w.heap.size+1) aU 1 (.slice (some ⟨w.heap.size+1,0,none⟩) 0 0) 0 []:=by
  have:=il W0 aU;rw [hs0] at this;exact this
 have hE1:Below (w.heap.size+1) W0 (W0.alloc (.cells #[] aU)):=by rw [←hs0];exact ai _
 have Nc:=ae (HL.out.mono (hb.trans (hE1.mono (by omega))));have hsz1:(W0.alloc (.cells #[] aU)).heap.size=w.heap.size+2:=by simp [hs0]
 obtain ⟨W1,hW1⟩:=af (W0.alloc (.cells #[] aU));rw [←hW1] at o0 hE1 Nc hsz1;rw [hW] at hW1;have hs1:w.heap.size+1≤W1.heap.size:=by omega
 have HB1:Below w.heap.size w W1:=hb.trans (hE1.mono (by omega));have i1:Is W1 w.heap.size #[.slice a nt cap,.slice ax nx cx] 25:=i0.low hE1 (by omega);have CK:=ae (fun (W:World) (E:Below w.heap.size w W) (c:Nat)=>kR (HT.out.mono E) c (by omega));have MK:=ae (fun (W:World) (E:Below w.heap.size w W) (c:Nat) (h:aX c)=>uR (HT.out.mono E) c h.1 (by omega));have CH:=ae (fun (W:World) (E:Below w.heap.size w W) (v:Value) (l:List Nat) (hv:bD W v (ints l)) (hc:∀c∈l,aX c) (hl:l.length<1000)=>pY (HT.out.mono E) hV hv hc (by omega) (by omega));have HV:=ae hV;have HI1:=ae i1;have Xw:=ae HB1;have O0:=ae o0;have HC:=ae hc;rw [hW1] at HI1 Xw O0 Nc hs1;clear h hl hp hpx Nb hn o0 hW hsz1 hs0 i0 hE1 i1 HB1 hb hW1 HL hc HT hV;go_enter Tryz.func18,Tryz.ntmps18;go_wp2_with (at_builtin;refine bG rfl _ _ 23 rfl (w.heap.size+1) aU _ 8 gL _ 0 _ rfl O0.out _ (ints L) rfl Nc.out (gM L) (by rw [hil];unfold maxLen;omega) (by rw [hil];omega) hs1 ?_;intro v1 w3 o1 hg1;obtain ⟨a1,wI,rfl,_,_⟩:=az o1);have HB3:Below w.heap.size w w3:=Xw.out.grown hg1 Xw.out.size (fun k hk=>by have:=(O0.out.lt k hk).1;omega);have I3:=HI1.out.keep O0.out hg1 (by omega);have o3:w3.ownsRow (w.heap.size+1) aU 1 (.slice a1 n wI) n (ints L):=by
  have:=o1;rw [hil] at this;simpa using this
 (try simp only [dw,←HN.out,hil,Nat.zero_add])
 have O3:=ae o3;have aah:=HB3.size;clear O0 Nc HI1 Xw hg1 o1 hs1 o3;obtain ⟨NL,hNL⟩:=af (xR T L);rw [←hNL] at Qw;have Tz:=ae hNL;clear hNL hil;go_loopw [7,8,9,10,11,12,116,139] (fun ov iv _ _ _ _ _ _ wr=>∃(i:Nat) (O:List Nat),i≤np∧i≤20∧iv=.int .i64 i∧wr.ownsRow (w.heap.size+1) aU 1 ov O.length (ints O)∧(∀c∈O,aX c)∧xR T O=NL∧Is wr w.heap.size #[.slice a nt cap,.slice ax nx cx] 25∧Below w.heap.size w wr) (fun _ iv _ _ _ _ _ _ _=>np-(intOf iv).toNat)
 case atStart=>exact ⟨0,L,Nat.zero_le _,by omega,rfl,HN.out▸O3.out,HC.out,Tz.out.symm,I3,HB3⟩
 case round=>
  obtain ⟨i,O,hi,anp,rfl,ho,hOc,hON,hI,hB⟩:=hrel;clear HB3 I3 aah O3;have hsB:=hB.size;obtain ⟨m,hm⟩:=af O.length;rw [←hm] at ho;have Um:m<1000:=by have:=MU (T:=T) O;rw [hON] at this;omega
  obtain ⟨ao,co,rfl,_,_⟩:=az ho;have Xy:=ae ho;have HM:=ae hm;have HOC:=ae hOc;have HON:=ae hON;clear ho hm hOc hON;by_cases hgo:i<np∧i<20∧0<m
  ·obtain ⟨g1,g2,g3⟩:=hgo;have z1:decide ((i:Int)<(np:Int))=true:=decide_eq_true (by omega);have z2:decide ((i:Int)<20)=true:=decide_eq_true (by omega);have z3:decide ((0:Int)<(m:Int))=true:=decide_eq_true (by omega);have hip:i<(bH pk).length:=by have:=QC.out;omega
   have adb:i<pk.length:=by simpa [bH] using hip
   obtain ⟨pb,po,rfl,_,p0⟩:=HP.out i hip;rw [show (bH pk)[i]=.int .i64 pk[i] by simp [bH]] at p0;obtain ⟨x,hx⟩:=af (pk[i]);rw [←hx] at p0;have p0:=aA hB p0;have znz:((m:Int)==0)=false:=beq_eq_false_iff_ne.2 (by omega);clear hx hip adb;obtain ⟨g,rfl,hg1,hg2⟩:=Ue Xy.out g3;obtain ⟨A,hA,hAi⟩:=acx (x / 4) (S:=m) (by omega) (by omega);obtain ⟨P,c,Q,hO,hP⟩:=abT (show A<O.length by rw [←HM.out];exact hA);subst hO;have hcc:=HOC.out c (by simp);have aht:=hcc.1;have f0:=(aak Xy.out hP).1;have t0:=hI.at 0 rfl;have t1:=hI.at 1 rfl;have e0:=Gr.cell (ah wr) p0;have HP0:=ae hP;have M9:=ae hcc;have TD:=ae (fun (W:World) (E:Below wr.heap.size wr W)=>(⟨i+1,P++c::Q,by omega,by omega,by simp,by rw [←HM.out];exact aG Xy.out E,HOC.out,HON.out,hI.mono E,ag hB E⟩:∃(i':Nat) (O:List Nat),i'≤np∧i'≤20∧Value.int .i64 ((i:Int)+1)=.int .i64 i'∧W.ownsRow (w.heap.size+1) aU 1 (.slice (some ⟨g,0,none⟩) m co) O.length (ints O)∧(∀c∈O,aX c)∧xR T O=NL∧Is W w.heap.size #[.slice a nt cap,.slice ax nx cx] 25∧Below w.heap.size w W));have HWR:=ae hB;have HIR:=ae hI;clear e0 hP hcc;go_wp2_with fail
   ·
    have g0:=Gr.cell (ah wr) t0;have g1:=Gr.cell (ah wr) t1;have g2:=Gr.cell (ah wr) f0;refine aD (Array.replicate 7 true) 7 0 mixed (by rfl) ?_;refine ay [0,1,2,3,4] 2 rfl (by kernel_rfl) ?_
    iterate 5 (refine aC rfl ?_;go_big_quiet_step (rfl))
    refine ak ?_;refine aL 5 (by kernel_rfl) rfl ?_;go_wp2_with fail;refine (MK.out _ HWR.out.drew c M9.out).mono ?_;rintro e w5 ⟨r,rfl,hr,h5⟩;obtain ⟨nm,hnm⟩:=af ((mapOf T c).length);obtain ⟨ma,mc,rfl,_,_⟩:=bD.kS hr hnm;have qh:=ae hnm;clear hnm;go_wp2_with fail;refine aH h5 ?_;refine ay [6] 0 rfl (by kernel_rfl) ?_
    iterate 1 (refine aC rfl ?_;go_big_quiet_step (rfl))
    refine ak ?_;refine aI [] (by kernel_rfl) ?_;refine tail_nil ?_;have E5:=ag (ah wr) h5;have HR:=ae hr;have kV:=ae E5;clear g0 g1 g2 t0 t1 f0 hr h5 E5 hB hI;by_cases hz:0<nm
    ·have zz:decide ((0:Int)<(nm:Int))=true:=decide_eq_true (by omega);have hPl:=HP0.out;have hQl:A+1+Q.length=m:=by have:=HM.out;simp at this;omega
     have aey:nm<1000000:=by
      have h1:=HM.out;have h2:=aa2 HV.out (show mapOf T c≠[] from fun e=>by have:=qh.out;rw [e] at this;simp at this;omega) P Q;have h3:=MU (T:=T) (P++mapOf T c++Q);rw [h2,HON.out] at h3;have:=qh.out;simp at h3;omega
     obtain ⟨s1,_,s3⟩:=aaz (aG Xy.out kV.out) HP0.out;obtain ⟨W5,MF⟩:=af w5.drew;have DD:=ae (show Below wr.heap.size wr W5 by rw [MF];exact kV.out.drew);have S1:=ae (show bD W5 _ (ints P) by rw [MF];exact s1.mono (ah w5));have S2:=ae (show bD W5 _ (ints (mapOf T c)) by rw [MF];exact HR.out.mono (ah w5));have S3:=ae (show bD W5 _ (ints Q) by rw [MF];exact s3.mono (ah w5));clear s1 s3 HR kV;go_wp2_with fail;by_cases hcx:co=A+1
     ·rw [if_pos hcx] at S3;subst hcx;rw [Nat.sub_self,show m-(A+1)=0 by omega] at S3;refine rF w5.heap.size (Array.replicate 13 true) 13 0 mixed (by rfl) ?_;rw [←MF,show w5.heap.size=W5.heap.size by rw [MF];rfl];clear MF;refine lN [1,2,3,5,7,8,9,10] 5 rfl (by kernel_rfl) ?_
      iterate 8 (refine aC rfl ?_;go_big_quiet_step (rfl))
      refine ak ?_;refine kJ 0 (by kernel_rfl) rfl ?_;go_wp2_with fail;refine iM (ai _) ?_;refine kJ 4 (by kernel_rfl) rfl ?_;refine bG rfl _ _ 23 rfl W5.heap.size aU _ 8 gL _ 0 _ rfl (il W5 aU) _ (ints P) rfl (S1.out.mono (ai _)) (gM P) (by rw [dw];unfold maxLen;omega) (by rw [dw];omega) (ai _).size ?_;intro v1 w6 o1 hg1;have b1:=wh (il W5 aU) hg1 (ai _).size;go_wp2_with fail;refine iM b1 ?_;have b1:=(ai (w:=W5) (.cells #[] aU)).trans b1;refine kJ 6 (by kernel_rfl) rfl ?_;refine bG rfl _ _ 23 rfl W5.heap.size aU _ 8 gL _ _ _ rfl o1 _ (ints (mapOf T c)) rfl (S2.out.mono b1) (gM _) (by rw [dw,dw,←qh.out];unfold maxLen;omega) (by rw [dw,dw,←qh.out];omega) b1.size ?_;intro v2 w7 o2 hg2;have b2:=wh o1 hg2 b1.size;go_wp2_with fail;refine iM b2 ?_;have b2:=b1.trans b2;refine kJ 11 (by kernel_rfl) rfl ?_;refine bG rfl _ _ 23 rfl W5.heap.size aU _ 8 gL _ _ _ rfl o2 _ (ints Q) rfl (S3.out.mono b2) (gM _) (by rw [dw,dw,dw,←qh.out];unfold maxLen;omega) (by rw [dw,dw,dw,←qh.out];omega) b2.size ?_;intro v3 w8 o3 hg3;have b3:=wh o2 hg3 b2.size;go_wp2_with fail;refine iM b3 ?_;have b3:=b2.trans b3;refine lN [12] 0 rfl (by kernel_rfl) ?_
      iterate 1 (refine aC rfl ?_;go_big_quiet_step (rfl))
      refine ak ?_;refine Ex [] (by kernel_rfl) ?_;refine tail_nil ?_;have E8:=ag DD.out b3;have o4:w8.ownsRow W5.heap.size aU 1 v3 (P++mapOf T c++Q).length (ints (P++mapOf T c++Q)):=by
       have e1:[]++ints P++ints (mapOf T c)++ints Q=ints (P++mapOf T c++Q):=by simp [ints]
       have e2:0+(ints P).length+(ints (mapOf T c)).length+(ints Q).length=(P++mapOf T c++Q).length:=by simp only [dw,List.length_append];omega
       rw [e1,e2] at o3;exact o3
      have hc4:∀x∈P++mapOf T c++Q,aX x:=by
       intro x hx;rcases List.mem_append.1 hx with hx|hx
       ·rcases List.mem_append.1 hx with hx|hx
        ·exact HOC.out x (by simp [hx])
        ·exact K7 HV.out hx
       ·exact HOC.out x (by simp [hx])
      have hn4:xR T (P++mapOf T c++Q)=NL:=by
       rw [aa2 HV.out (fun e=>by have:=qh.out;rw [e] at this;simp at this;omega),HON.out]
      have hlow:w.heap.size+1≤W5.heap.size:=by have:=HIR.out.lt;have:=DD.out.size;omega
      have zg:=ae (⟨i+1,P++mapOf T c++Q,by omega,by omega,by simp,aW o4 hlow,hc4,hn4,HIR.out.mono E8,ag HWR.out E8⟩:∃(i':Nat) (O:List Nat),i'≤np∧i'≤20∧Value.int .i64 ((i:Int)+1)=.int .i64 i'∧w8.ownsRow (w.heap.size+1) aU 1 v3 O.length (ints O)∧(∀c∈O,aX c)∧xR T O=NL∧Is w8 w.heap.size #[.slice a nt cap,.slice ax nx cx] 25∧Below w.heap.size w w8);clear o1 o2 o3 o4 hc4 hn4 b1 b2 b3 hg1 hg2 hg3 E8 hlow;go_wp2;go_roundw
      case rel=>exact zg.out
      case measure=>simp [intOf];omega
     ·rw [if_neg hcx] at S3;refine rF w5.heap.size (Array.replicate 13 true) 13 0 mixed (by rfl) ?_;rw [←MF,show w5.heap.size=W5.heap.size by rw [MF];rfl];clear MF;refine lN [1,2,3,5,7,8,9,10] 5 rfl (by kernel_rfl) ?_
      iterate 8 (refine aC rfl ?_;go_big_quiet_step (rfl))
      refine ak ?_;refine kJ 0 (by kernel_rfl) rfl ?_;go_wp2_with fail;refine iM (ai _) ?_;refine kJ 4 (by kernel_rfl) rfl ?_;refine bG rfl _ _ 23 rfl W5.heap.size aU _ 8 gL _ 0 _ rfl (il W5 aU) _ (ints P) rfl (S1.out.mono (ai _)) (gM P) (by rw [dw];unfold maxLen;omega) (by rw [dw];omega) (ai _).size ?_;intro v1 w6 o1 hg1;have b1:=wh (il W5 aU) hg1 (ai _).size;go_wp2_with fail;refine iM b1 ?_;have b1:=(ai (w:=W5) (.cells #[] aU)).trans b1;refine kJ 6 (by kernel_rfl) rfl ?_;refine bG rfl _ _ 23 rfl W5.heap.size aU _ 8 gL _ _ _ rfl o1 _ (ints (mapOf T c)) rfl (S2.out.mono b1) (gM _) (by rw [dw,dw,←qh.out];unfold maxLen;omega) (by rw [dw,dw,←qh.out];omega) b1.size ?_;intro v2 w7 o2 hg2;have b2:=wh o1 hg2 b1.size;go_wp2_with fail;refine iM b2 ?_;have b2:=b1.trans b2;refine kJ 11 (by kernel_rfl) rfl ?_;refine bG rfl _ _ 23 rfl W5.heap.size aU _ 8 gL _ _ _ rfl o2 _ (ints Q) rfl (S3.out.mono b2) (gM _) (by rw [dw,dw,dw,←qh.out];unfold maxLen;omega) (by rw [dw,dw,dw,←qh.out];omega) b2.size ?_;intro v3 w8 o3 hg3;have b3:=wh o2 hg3 b2.size;go_wp2_with fail;refine iM b3 ?_;have b3:=b2.trans b3;refine lN [12] 0 rfl (by kernel_rfl) ?_
      iterate 1 (refine aC rfl ?_;go_big_quiet_step (rfl))
      refine ak ?_;refine Ex [] (by kernel_rfl) ?_;refine tail_nil ?_;have E8:=ag DD.out b3;have o4:w8.ownsRow W5.heap.size aU 1 v3 (P++mapOf T c++Q).length (ints (P++mapOf T c++Q)):=by
       have e1:[]++ints P++ints (mapOf T c)++ints Q=ints (P++mapOf T c++Q):=by simp [ints]
       have e2:0+(ints P).length+(ints (mapOf T c)).length+(ints Q).length=(P++mapOf T c++Q).length:=by simp only [dw,List.length_append];omega
       rw [e1,e2] at o3;exact o3
      have hc4:∀x∈P++mapOf T c++Q,aX x:=by
       intro x hx;rcases List.mem_append.1 hx with hx|hx
       ·rcases List.mem_append.1 hx with hx|hx
        ·exact HOC.out x (by simp [hx])
        ·exact K7 HV.out hx
       ·exact HOC.out x (by simp [hx])
      have hn4:xR T (P++mapOf T c++Q)=NL:=by
       rw [aa2 HV.out (fun e=>by have:=qh.out;rw [e] at this;simp at this;omega),HON.out]
      have hlow:w.heap.size+1≤W5.heap.size:=by have:=HIR.out.lt;have:=DD.out.size;omega
      have zg:=ae (⟨i+1,P++mapOf T c++Q,by omega,by omega,by simp,aW o4 hlow,hc4,hn4,HIR.out.mono E8,ag HWR.out E8⟩:∃(i':Nat) (O:List Nat),i'≤np∧i'≤20∧Value.int .i64 ((i:Int)+1)=.int .i64 i'∧w8.ownsRow (w.heap.size+1) aU 1 v3 O.length (ints O)∧(∀c∈O,aX c)∧xR T O=NL∧Is w8 w.heap.size #[.slice a nt cap,.slice ax nx cx] 25∧Below w.heap.size w w8);clear o1 o2 o3 o4 hc4 hn4 b1 b2 b3 hg1 hg2 hg3 E8 hlow;go_wp2;go_roundw
      case rel=>exact zg.out
      case measure=>simp [intOf];omega
    ·have zz:decide ((0:Int)<(nm:Int))=false:=decide_eq_false (by omega);have zg:=ae (TD.out w5 kV.out);go_wp2;go_roundw
     case rel=>exact zg.out
     case measure=>simp [intOf];omega
   ·
    have hPl:=HP0.out;have hQl:A+1+Q.length=m:=by have:=HM.out;simp at this;omega
    have hN9:(xR T P).length<1000000:=by
     have h1:=MU (T:=T) (xR T P++c::Q);rw [aaW HV.out,HON.out] at h1;simp at h1;omega
    obtain ⟨s1,s2,_⟩:=aaz Xy.out HP0.out;have g0:=U3.keeps (B:=wr.heap.size) ((hI.mono (ah wr)).at 0 rfl) hI.lt;have g1:=U3.keeps (B:=wr.heap.size) ((hI.mono (ah wr)).at 1 rfl) hI.lt;have CHP:=ae (CH.out _ HWR.out.drew _ P (s1.mono (ah wr)) (fun x hx=>HOC.out x (by simp [hx])) (by omega));have S2:=ae (s2.mono (ah wr));clear s1 s2 t0 t1 f0 hI hB;refine rF wr.heap.size (Array.replicate 10 true) 10 0 mixed (by rfl) ?_;refine lN [0,1,2,3,5,6,7] 3 rfl (by kernel_rfl) ?_
    iterate 7 (refine aC rfl ?_;go_big_quiet_step (rfl))
    refine ak ?_;refine kJ 4 (by kernel_rfl) rfl ?_;go_wp2_with fail;refine CHP.out.mono ?_;rintro e w5 ⟨r,rfl,hr,h5⟩;go_wp2_with fail;refine iM h5 ?_;refine kJ 8 (by kernel_rfl) rfl ?_;refine bG rfl _ _ 23 rfl wr.heap.size aU _ 8 gL _ _ _ rfl hr _ (ints (c::Q)) rfl (S2.out.mono h5) (gM _) (by rw [dw,List.length_cons];unfold maxLen;omega) (by rw [dw,List.length_cons];omega) h5.size ?_;intro v1 w6 o1 hg1;have b1:=wh hr hg1 h5.size;go_wp2_with fail;refine iM b1 ?_;refine lN [9] 0 rfl (by kernel_rfl) ?_
    iterate 1 (refine aC rfl ?_;go_big_quiet_step (rfl))
    refine ak ?_;refine Ex [] (by kernel_rfl) ?_;refine tail_nil ?_;have E6:Below wr.heap.size wr w6:=(ag (ah wr) h5).trans b1;have o4:w6.ownsRow wr.heap.size aU 1 v1 (xR T P++c::Q).length (ints (xR T P++c::Q)):=by
     have e1:ints (xR T P)++ints (c::Q)=ints (xR T P++c::Q):=by simp [ints]
     have e2:(xR T P).length+(ints (c::Q)).length=(xR T P++c::Q).length:=by simp
     rw [e1,e2] at o1;exact o1
    have hc4:∀x∈xR T P++c::Q,aX x:=by
     intro x hx;rcases List.mem_append.1 hx with hx|hx
     ·exact F_ HV.out (fun y hy=>HOC.out y (by simp [hy])) x hx
     ·exact HOC.out x (List.mem_append_right _ hx)
    have hlow:w.heap.size+1≤wr.heap.size:=by have:=HIR.out.lt;omega
    have zg:=ae (⟨i+1,xR T P++c::Q,by omega,by omega,by simp,aW o4 hlow,hc4,by rw [aaW HV.out,HON.out],HIR.out.mono E6,ag HWR.out E6⟩:∃(i':Nat) (O:List Nat),i'≤np∧i'≤20∧Value.int .i64 ((i:Int)+1)=.int .i64 i'∧w6.ownsRow (w.heap.size+1) aU 1 v1 O.length (ints O)∧(∀c∈O,aX c)∧xR T O=NL∧Is w6 w.heap.size #[.slice a nt cap,.slice ax nx cx] 25∧Below w.heap.size w w6);clear hr o1 o4 hc4 h5 b1 hg1 E6 hlow;go_wp2;go_roundw
    case rel=>exact zg.out
    case measure=>simp [intOf];omega
   ·exact ⟨TD.out wr (Below.refl _ _),by simp [intOf];omega⟩
   ·
    by_cases hl:A+1<m
    ·obtain ⟨d,R,hQ⟩:∃d R,Q=d::R:=by
      cases Q with
      | nil=>have:=HM.out;have:=HP0.out;simp at *;omega
      | cons d Q=>exact ⟨d,Q,rfl⟩
     subst hQ;have hdd:=HOC.out d (by simp);have HDD:=ae hdd;have f1:=(aaR Xy.out HP0.out).1;have g0:=Gr.cell (ah wr) t0;have g1:=Gr.cell (ah wr) t1;have g2:=Gr.cell (ah wr) f0;have g3:=Gr.cell (ah wr) f1;obtain ⟨ka,hka⟩:=af (aB T c);obtain ⟨kb,hkb⟩:=af (aB T d);have C1:=ae (CK.out _ HWR.out.drew c);rw [←hka] at C1;have UQ:=ae hka;have HKB:=ae hkb;clear hka hkb hdd;refine aD (Array.replicate 15 true) 15 0 mixed (by rfl) ?_;refine ay [0,1,2,3,4,6,7,8,9,10,11] 4 rfl (by kernel_rfl) ?_
     iterate 11 (refine aC rfl ?_;go_big_quiet_step (rfl))
     refine ak ?_;refine aL 5 (by kernel_rfl) rfl ?_;go_wp2_with fail;refine C1.out.mono ?_;rintro e w5 ⟨rfl,h5⟩;go_wp2_with fail;refine aH h5 ?_;have E5:=ag (ah wr) h5;have C2:=ae (CK.out w5 (ag HWR.out E5) d);rw [←HKB.out] at C2;refine aL 12 (by kernel_rfl) rfl ?_;go_wp2_with fail;refine C2.out.mono ?_;rintro e w6 ⟨rfl,h6⟩;go_wp2_with fail;refine aH h6 ?_;refine ay [13,14] 0 rfl (by kernel_rfl) ?_
     iterate 2 (refine aC rfl ?_;go_big_quiet_step (rfl))
     refine ak ?_;refine aI [] (by kernel_rfl) ?_;refine tail_nil ?_;have E6:=ag E5 h6;have DD:=ae E6;have t0:=aA E6 t0;have t1:=aA E6 t1;have f0:=aA E6 f0;have f1:=aA E6 f1;have HW6:=ae (ag HWR.out E6);clear g0 g1 g2 g3 h5 h6 E5 E6 C1 C2 hB hI;obtain ⟨n1,hn1⟩:=af ((mapOf T c).length);obtain ⟨n2,hn2⟩:=af ((mapOf T d).length);have Vr:=ae hn1;have Yi:=ae hn2;clear hn1 hn2;by_cases ha0:0<ka
     ·have za:decide ((0:Int)<(ka:Int))=true:=decide_eq_true (by omega);by_cases hb0:0<kb
      ·have zb:decide ((0:Int)<(kb:Int))=true:=decide_eq_true (by omega);by_cases hab:ka≠kb
       ·have zab:((ka:Int)==(kb:Int))=false:=beq_eq_false_iff_ne.2 (by omega);have ahK:((ka:Int) !=(kb:Int))=true:=by rw [bne,zab];rfl
        have ahL:decide ((ka:Int)=(kb:Int))=false:=decide_eq_false (by omega);have ahM:(ka==kb)=false:=beq_eq_false_iff_ne.2 (by omega);have ahN:decide (ka=kb)=false:=decide_eq_false (by omega);have g0:=Gr.cell (ah w6) t0;have g1:=Gr.cell (ah w6) t1;have g2:=Gr.cell (ah w6) f0;have M1:=ae (MK.out _ HW6.out.drew c M9.out);by_cases hm1:0<n1
        ·have zm1:((n1:Int)==0)=false:=beq_eq_false_iff_ne.2 (by omega);go_wp2_with fail;refine aD (Array.replicate 32 true) 32 0 mixed (by rfl) ?_;refine ay [0,1,2,3,4,5,6,7,8,9,10,11,12,13,14,15,16] 15 rfl (by kernel_rfl) ?_;refine aZ ?_
         iterate 17 (refine aO rfl ?_)
         refine a_ ?_
         iterate 17 (go_big_quiet_step (rfl))
         refine ak ?_;refine aL 17 (by kernel_rfl) rfl ?_;go_wp2_with fail;refine M1.out.mono ?_;rintro e w7 ⟨r1,rfl,hr1,h7⟩;obtain ⟨ma,mc,rfl,_,_⟩:=bD.kS hr1 Vr.out;clear hr1;go_wp2_with fail;refine aH h7 ?_;refine ay [18,19,20,21,22,23,24,25,26,27] 4 rfl (by kernel_rfl) ?_;refine aZ ?_
         iterate 10 (refine aO rfl ?_)
         refine a_ ?_
         iterate 10 (go_big_quiet_step (rfl))
         refine ak ?_;refine aL 28 (by kernel_rfl) rfl ?_;go_wp2_with fail;refine aH (Below.refl _ _) ?_;refine ay [29,30,31] 0 rfl (by kernel_rfl) ?_;refine aZ ?_
         iterate 3 (refine aO rfl ?_)
         refine a_ ?_
         iterate 3 (go_big_quiet_step (rfl))
         refine ak ?_;refine aI [] (by kernel_rfl) ?_;refine tail_nil ?_;have zg:=ae (TD.out _ (ag DD.out (ag (ah w6) h7)));go_wp2;go_roundw
         case rel=>exact zg.out
         case measure=>simp [intOf];omega
        ·have zm1:((n1:Int)==0)=true:=beq_iff_eq.2 (by omega);by_cases hm2:0<n2
         ·have zm2:((n2:Int)==0)=false:=beq_eq_false_iff_ne.2 (by omega);go_wp2_with fail;refine aD (Array.replicate 32 true) 32 0 mixed (by rfl) ?_;refine ay [0,1,2,3,4,5,6,7,8,9,10,11,12,13,14,15,16] 15 rfl (by kernel_rfl) ?_;refine aZ ?_
          iterate 17 (refine aO rfl ?_)
          refine a_ ?_
          iterate 17 (go_big_quiet_step (rfl))
          refine ak ?_;refine aL 17 (by kernel_rfl) rfl ?_;go_wp2_with fail;refine M1.out.mono ?_;rintro e w7 ⟨r1,rfl,hr1,h7⟩;obtain ⟨ma,mc,rfl,_,_⟩:=bD.kS hr1 Vr.out;clear hr1;go_wp2_with fail;refine aH h7 ?_;have g0:=Gr.cell (ag (ah w6) h7) t0;have g1:=Gr.cell (ag (ah w6) h7) t1;have g3:=Gr.cell (ag (ah w6) h7) f1;have M2:=ae (MK.out w7 (ag HW6.out (ag (ah w6) h7)) d HDD.out);refine ay [18,19,20,21,22,23,24,25,26,27] 4 rfl (by kernel_rfl) ?_;refine aZ ?_
          iterate 10 (refine aO rfl ?_)
          refine a_ ?_
          iterate 10 (go_big_quiet_step (rfl))
          refine ak ?_;refine aL 28 (by kernel_rfl) rfl ?_;go_wp2_with fail;refine M2.out.mono ?_;rintro e w8 ⟨r2,rfl,hr2,h8⟩;obtain ⟨mb,md,rfl,_,_⟩:=bD.kS hr2 Yi.out;clear hr2;go_wp2_with fail;refine aH h8 ?_;refine ay [29,30,31] 0 rfl (by kernel_rfl) ?_;refine aZ ?_
          iterate 3 (refine aO rfl ?_)
          refine a_ ?_
          iterate 3 (go_big_quiet_step (rfl))
          refine ak ?_;refine aI [] (by kernel_rfl) ?_;refine tail_nil ?_;have zg:=ae (TD.out _ (ag DD.out (ag (ag (ah w6) h7) h8)));go_wp2;go_roundw
          case rel=>exact zg.out
          case measure=>simp [intOf];omega
         ·have zm2:((n2:Int)==0)=true:=beq_iff_eq.2 (by omega);go_wp2_with fail;refine aD (Array.replicate 32 true) 32 0 mixed (by rfl) ?_;refine ay [0,1,2,3,4,5,6,7,8,9,10,11,12,13,14,15,16] 15 rfl (by kernel_rfl) ?_;refine aZ ?_
          iterate 17 (refine aO rfl ?_)
          refine a_ ?_
          iterate 17 (go_big_quiet_step (rfl))
          refine ak ?_;refine aL 17 (by kernel_rfl) rfl ?_;go_wp2_with fail;refine M1.out.mono ?_;rintro e w7 ⟨r1,rfl,hr1,h7⟩;obtain ⟨ma,mc,rfl,_,_⟩:=bD.kS hr1 Vr.out;clear hr1;go_wp2_with fail;refine aH h7 ?_;have g0:=Gr.cell (ag (ah w6) h7) t0;have g1:=Gr.cell (ag (ah w6) h7) t1;have g3:=Gr.cell (ag (ah w6) h7) f1;have M2:=ae (MK.out w7 (ag HW6.out (ag (ah w6) h7)) d HDD.out);refine ay [18,19,20,21,22,23,24,25,26,27] 4 rfl (by kernel_rfl) ?_;refine aZ ?_
          iterate 10 (refine aO rfl ?_)
          refine a_ ?_
          iterate 10 (go_big_quiet_step (rfl))
          refine ak ?_;refine aL 28 (by kernel_rfl) rfl ?_;go_wp2_with fail;refine M2.out.mono ?_;rintro e w8 ⟨r2,rfl,hr2,h8⟩;obtain ⟨mb,md,rfl,_,_⟩:=bD.kS hr2 Yi.out;clear hr2;go_wp2_with fail;refine aH h8 ?_;refine ay [29,30,31] 0 rfl (by kernel_rfl) ?_;refine aZ ?_
          iterate 3 (refine aO rfl ?_)
          refine a_ ?_
          iterate 3 (go_big_quiet_step (rfl))
          refine ak ?_;refine aI [] (by kernel_rfl) ?_;refine tail_nil ?_;have E8:=ag DD.out (ag (ag (ah w6) h7) h8);have ho8:=aG Xy.out E8;have hI8:=HIR.out.mono E8;have U6:=ag HWR.out E8;have f0:=(aak ho8 HP0.out).1;have f1:=(aaR ho8 HP0.out).1;have q0:=(aak ho8 HP0.out).2;have q1:=(aaR ho8 HP0.out).2;have HST:=ae (fun (u u':Value)=>((ho8.stored A u).1.stored (A+1) u').1);have hPl:=HP0.out;have hl1:(ints (P++c::d::R)).set A (.int .i64 d)=ints (P++d::d::R):=by
           simp only [ints,List.map_append,List.map_cons];rw [List.set_append_right _ _ (by rw [List.length_map,hPl];exact Nat.le_refl _),List.length_map,hPl,Nat.sub_self];rfl
          have hl2:(ints (P++d::d::R)).set (A+1) (.int .i64 c)=ints (P++d::c::R):=by
           simp only [ints,List.map_append,List.map_cons];rw [List.set_append_right _ _ (by rw [List.length_map,hPl];omega),List.length_map,hPl,Nat.add_sub_cancel_left];rfl
          have Lc:=HST.out (.int .i64 d) (.int .i64 c);rw [hl1,hl2] at Lc;have hsw:xR T (P++d::c::R)=NL:=by
           rw [abS (List.eq_nil_of_length_eq_zero (by rw [←Vr.out];exact Nat.eq_zero_of_not_pos hm1)) (List.eq_nil_of_length_eq_zero (by rw [←Yi.out];exact Nat.eq_zero_of_not_pos hm2)) (by rw [←UQ.out];exact ha0) (by rw [←HKB.out];exact hb0) (by rw [←UQ.out,←HKB.out];exact hab),HON.out]
          have hcs:∀x∈P++d::c::R,aX x:=fun x hx=>HOC.out x (by
           rcases List.mem_append.1 hx with hx|hx
           ·simp [hx]
           ·rcases List.mem_cons.1 hx with rfl|hx
            ·simp
            ·rcases List.mem_cons.1 hx with rfl|hx
             ·simp
             ·simp [hx])
          have anu:=hI8.lt
          have zg:=ae (⟨i+1,P++d::c::R,by omega,by omega,by simp,by
           have e1:(P++d::c::R).length=m:=by rw [HM.out];simp
           rw [e1]
           exact aG Lc (ah _),hcs,hsw,((hI8.put (by omega) _).put (by omega) _).mono (ah _),(aj (aj U6 (by omega)) (by omega)).drew⟩:∃(i':Nat) (O:List Nat),i'≤np∧i'≤20∧Value.int .i64 ((i:Int)+1)=.int .i64 i'∧((w8.setCell ⟨g,A,none⟩ (.int .i64 d)).setCell ⟨g,A+1,none⟩ (.int .i64 c)).drew.ownsRow (w.heap.size+1) aU 1 (.slice (some ⟨g,0,none⟩) m co) O.length (ints O)∧(∀c∈O,aX c)∧xR T O=NL∧Is ((w8.setCell ⟨g,A,none⟩ (.int .i64 d)).setCell ⟨g,A+1,none⟩ (.int .i64 c)).drew w.heap.size #[.slice a nt cap,.slice ax nx cx] 25∧Below w.heap.size w ((w8.setCell ⟨g,A,none⟩ (.int .i64 d)).setCell ⟨g,A+1,none⟩ (.int .i64 c)).drew)
          clear hl1 hl2 Lc hsw hcs ho8 hI8 U6 E8 h7 h8;go_wp2_with fail;go_region;go_wp2;go_roundw
          case rel=>exact zg.out
          case measure=>simp [intOf];omega
       ·have zab:((ka:Int)==(kb:Int))=true:=beq_iff_eq.2 (by omega);have ahK:((ka:Int) !=(kb:Int))=false:=by rw [bne,zab];rfl
        have ahL:decide ((ka:Int)=(kb:Int))=true:=decide_eq_true (by omega);have ahM:(ka==kb)=true:=beq_iff_eq.2 (by omega);have ahN:decide (ka=kb)=true:=decide_eq_true (by omega);go_wp2_with fail;refine aD (Array.replicate 32 true) 32 0 mixed (by rfl) ?_;refine ay [0,1,2,3,4,5,6,7,8,9,10,11,12,13,14,15,16] 15 rfl (by kernel_rfl) ?_;refine aZ ?_
        iterate 17 (refine aO rfl ?_)
        refine a_ ?_
        iterate 17 (go_big_quiet_step (rfl))
        refine ak ?_;refine aL 17 (by kernel_rfl) rfl ?_;go_wp2_with fail;refine aH (Below.refl _ _) ?_;refine ay [18,19,20,21,22,23,24,25,26,27] 4 rfl (by kernel_rfl) ?_;refine aZ ?_
        iterate 10 (refine aO rfl ?_)
        refine a_ ?_
        iterate 10 (go_big_quiet_step (rfl))
        refine ak ?_;refine aL 28 (by kernel_rfl) rfl ?_;go_wp2_with fail;refine aH (Below.refl _ _) ?_;refine ay [29,30,31] 0 rfl (by kernel_rfl) ?_;refine aZ ?_
        iterate 3 (refine aO rfl ?_)
        refine a_ ?_
        iterate 3 (go_big_quiet_step (rfl))
        refine ak ?_;refine aI [] (by kernel_rfl) ?_;refine tail_nil ?_;have zg:=ae (TD.out _ (ag DD.out (ah w6)));go_wp2;go_roundw
        case rel=>exact zg.out
        case measure=>simp [intOf];omega
      ·have zb:decide ((0:Int)<(kb:Int))=false:=decide_eq_false (by omega);go_wp2_with fail;refine aD (Array.replicate 32 true) 32 0 mixed (by rfl) ?_;refine ay [0,1,2,3,4,5,6,7,8,9,10,11,12,13,14,15,16] 15 rfl (by kernel_rfl) ?_;refine aZ ?_
       iterate 17 (refine aO rfl ?_)
       refine a_ ?_
       iterate 17 (go_big_quiet_step (rfl))
       refine ak ?_;refine aL 17 (by kernel_rfl) rfl ?_;go_wp2_with fail;refine aH (Below.refl _ _) ?_;refine ay [18,19,20,21,22,23,24,25,26,27] 4 rfl (by kernel_rfl) ?_;refine aZ ?_
       iterate 10 (refine aO rfl ?_)
       refine a_ ?_
       iterate 10 (go_big_quiet_step (rfl))
       refine ak ?_;refine aL 28 (by kernel_rfl) rfl ?_;go_wp2_with fail;refine aH (Below.refl _ _) ?_;refine ay [29,30,31] 0 rfl (by kernel_rfl) ?_;refine aZ ?_
       iterate 3 (refine aO rfl ?_)
       refine a_ ?_
       iterate 3 (go_big_quiet_step (rfl))
       refine ak ?_;refine aI [] (by kernel_rfl) ?_;refine tail_nil ?_;have zg:=ae (TD.out _ (ag DD.out (ah w6)));go_wp2;go_roundw
       case rel=>exact zg.out
       case measure=>simp [intOf];omega
     ·have za:decide ((0:Int)<(ka:Int))=false:=decide_eq_false (by omega);go_wp2_with fail;refine aD (Array.replicate 32 true) 32 0 mixed (by rfl) ?_;refine ay [0,1,2,3,4,5,6,7,8,9,10,11,12,13,14,15,16] 15 rfl (by kernel_rfl) ?_;refine aZ ?_
      iterate 17 (refine aO rfl ?_)
      refine a_ ?_
      iterate 17 (go_big_quiet_step (rfl))
      refine ak ?_;refine aL 17 (by kernel_rfl) rfl ?_;go_wp2_with fail;refine aH (Below.refl _ _) ?_;refine ay [18,19,20,21,22,23,24,25,26,27] 4 rfl (by kernel_rfl) ?_;refine aZ ?_
      iterate 10 (refine aO rfl ?_)
      refine a_ ?_
      iterate 10 (go_big_quiet_step (rfl))
      refine ak ?_;refine aL 28 (by kernel_rfl) rfl ?_;go_wp2_with fail;refine aH (Below.refl _ _) ?_;refine ay [29,30,31] 0 rfl (by kernel_rfl) ?_;refine aZ ?_
      iterate 3 (refine aO rfl ?_)
      refine a_ ?_
      iterate 3 (go_big_quiet_step (rfl))
      refine ak ?_;refine aI [] (by kernel_rfl) ?_;refine tail_nil ?_;have zg:=ae (TD.out _ (ag DD.out (ah w6)));go_wp2;go_roundw
      case rel=>exact zg.out
      case measure=>simp [intOf];omega
    ·exfalso;omega
  ·have HEX:=ae (show ¬(i<np∧i<20∧0<m) from hgo);have Xi:=ae (show wr.ownsRow w.heap.size aU 1 (.slice ao m co) O.length (ints O) by rw [←HM.out];exact aW Xy.out (Nat.le_succ _));by_cases g1:i<np
   ·have z1:decide ((i:Int)<(np:Int))=true:=decide_eq_true (by omega);by_cases g2:i<20
    ·have z2:decide ((i:Int)<20)=true:=decide_eq_true (by omega);have z3:decide ((0:Int)<(m:Int))=false:=decide_eq_false (fun h=>HEX.out ⟨g1,g2,by omega⟩);go_wp2_with fail;go_ret;exact ⟨_,O,rfl,Xi.out,HOC.out,HON.out.trans Tz.out,hB⟩
    ·have z2:decide ((i:Int)<20)=false:=decide_eq_false (by omega);go_wp2_with fail;go_ret;exact ⟨_,O,rfl,Xi.out,HOC.out,HON.out.trans Tz.out,hB⟩
   ·have z1:decide ((i:Int)<(np:Int))=false:=decide_eq_false (by omega);go_wp2_with fail;go_ret;exact ⟨_,O,rfl,Xi.out,HOC.out,HON.out.trans Tz.out,hB⟩
theorem aax {w:World} {u v:Value} {a b:List Nat} (ha:bD w u (ints a)) (hb:bD w v (ints b)) (ha9:a.length<1000000) (qf:b.length<1000000) :
 Calls Tryz.prog 19 #[u,v] w fun e w'=>∃r:Int,e=.returned (.int .i64 r)∧(r=0↔a=b)∧Below w.heap.size w w':=by
 obtain ⟨na,hna⟩:=af a.length;obtain ⟨nb,hnb⟩:=af b.length;obtain ⟨aa,ac,rfl,_,hx⟩:=bD.kS ha hna;obtain ⟨ba,bc,rfl,_,hy⟩:=bD.kS hb hnb;have HX:=ae hx;have HY:=ae hy;have HNA:=ae hna;have Vl:=ae hnb;have ha9:na<1000000:=by rw [hna];exact ha9
 have qf:nb<1000000:=by rw [hnb];exact qf
 clear hx hy hna hnb ha hb;go_enter Tryz.func19,Tryz.ntmps19;go_wp2_with fail;go_loopw [5] (fun iv wr=>∃i:Nat,i≤na∧i≤nb∧iv=.int .i64 i∧a.take i=b.take i∧Below w.heap.size w wr) (fun iv _=>na-(intOf iv).toNat)
 case atStart=>exact ⟨0,Nat.zero_le _,Nat.zero_le _,rfl,rfl,Below.refl _ _⟩
 case round=>
  obtain ⟨i,hia,hib,rfl,htk,hE⟩:=hrel;by_cases hin:i<na
  ·have zi:decide ((i:Int)<(na:Int))=true:=decide_eq_true (by omega);by_cases hjn:i<nb
   ·have zj:decide ((i:Int)<(nb:Int))=true:=decide_eq_true (by omega);have aeG:i<a.length:=by have:=HNA.out;omega
    have aeH:i<b.length:=by have:=Vl.out;omega
    obtain ⟨p,po,rfl,_,c0⟩:=HX.out i aeG;obtain ⟨q,qo,rfl,_,c1⟩:=HY.out i aeH;have c0:=aA hE c0;have c1:=aA hE c1;obtain ⟨x,hx⟩:=af (a[i]);obtain ⟨y,hy⟩:=af (b[i]);rw [←hx] at c0;rw [←hy] at c1;have G5:=ae (fun h:a=b=>show x=y by subst h;rw [hx,hy]);have U2:=ae (fun h:x=y=>show a.take (i+1)=b.take (i+1) by rw [List.take_succ_eq_append_getElem aeG,List.take_succ_eq_append_getElem aeH,htk,←hx,←hy,h]);clear hx hy htk;by_cases h1:x<y
    ·have z1:decide ((x:Int)<(y:Int))=true:=decide_eq_true (by omega);go_wp2_with fail;go_quiet (fail);go_wp2_with fail;go_ret;exact ⟨-1,rfl,⟨fun h=>absurd h (by decide),fun h=>absurd (G5.out h) (by omega)⟩,hE.trans ⟨rfl,rfl,rfl,Nat.le_refl _,fun _ _=>rfl⟩⟩
    ·have z1:decide ((x:Int)<(y:Int))=false:=decide_eq_false (by omega);by_cases h2:y<x
     ·have z2:decide ((y:Int)<(x:Int))=true:=decide_eq_true (by omega);go_wp2_with fail;go_quiet (fail);have hq:Below wr.heap.size wr (wr.drewN nq):=⟨rfl,rfl,rfl,Nat.le_refl _,fun _ _=>rfl⟩;generalize wr.drewN nq=wq at *;have c0:=aA hq c0;have c1:=aA hq c1;have hE:=hE.trans (hq.mono hE.size);go_wp2_with fail;go_quiet (fail);go_wp2_with fail;go_ret;exact ⟨1,rfl,⟨fun h=>absurd h (by decide),fun h=>absurd (G5.out h) (by omega)⟩,hE.trans ⟨rfl,rfl,rfl,Nat.le_refl _,fun _ _=>rfl⟩⟩
     ·have z2:decide ((y:Int)<(x:Int))=false:=decide_eq_false (by omega);go_wp2_with fail;go_quiet (fail);have hq:Below wr.heap.size wr (wr.drewN nq):=⟨rfl,rfl,rfl,Nat.le_refl _,fun _ _=>rfl⟩;generalize wr.drewN nq=wq at *;have c0:=aA hq c0;have c1:=aA hq c1;have hE:=hE.trans (hq.mono hE.size);go_wp2_with fail;go_quiet (fail);go_wp2_with fail;go_roundw
      case rel=>exact ⟨i+1,by omega,by omega,by simp,U2.out (by omega),hE.trans ⟨rfl,rfl,rfl,Nat.le_refl _,fun _ _=>rfl⟩⟩
      case measure=>simp [intOf];omega
   ·have zj:decide ((i:Int)<(nb:Int))=false:=decide_eq_false (by omega);have z1:decide ((na:Int)<(nb:Int))=false:=decide_eq_false (by omega);have z2:decide ((nb:Int)<(na:Int))=true:=decide_eq_true (by omega);go_wp2_with fail;go_ret;exact ⟨1,rfl,⟨fun h=>absurd h (by decide),fun h=>absurd (congrArg List.length h) (by have:=HNA.out;have:=Vl.out;omega)⟩,hE⟩
  ·have zi:decide ((i:Int)<(na:Int))=false:=decide_eq_false (by omega);by_cases h1:na<nb
   ·have z1:decide ((na:Int)<(nb:Int))=true:=decide_eq_true (by omega);go_wp2_with fail;go_ret;exact ⟨-1,rfl,⟨fun h=>absurd h (by decide),fun h=>absurd (congrArg List.length h) (by have:=HNA.out;have:=Vl.out;omega)⟩,hE⟩
   ·have z1:decide ((na:Int)<(nb:Int))=false:=decide_eq_false (by omega);have z2:decide ((nb:Int)<(na:Int))=false:=decide_eq_false (by omega);have heq:a=b:=by
     rw [List.take_of_length_le (by have:=HNA.out;omega),List.take_of_length_le (by have:=Vl.out;omega)] at htk;exact htk
    have HEQ:=ae heq;clear heq htk;go_wp2_with fail;go_ret;exact ⟨0,rfl,⟨fun _=>HEQ.out,fun _=>rfl⟩,hE⟩
end Go.Proofs.YtjidohgiigjifaaGreatDoor
