/- CedillaProducts: where a text may be cut apart, it has as many texts that are alike as its two parts multiplied; no condition. -/
import Derived.Test.YtmpkfkoficehpaaGreatDoorQ13
import Derived.Deep.CutRange
set_option maxRecDepth 100000
set_option maxHeartbeats 6400000
namespace Go.Proofs.YtmpkfkoficehpaaGreatDoor
open Go.RowKit Go.Cd
theorem getD_at {l:List Nat} {k:Nat} (h:k<l.length):l[k]? = some (l.getD k 0):=by
 rw [List.getD_eq_getElem?_getD,List.getElem?_eq_getElem h];rfl
theorem OD {K:Nat→Nat} {P L R S:List Nat} {a m c mid nn s s0 r0:Nat} (ha:a=P.length) (hm:m=a+L.length) (hc:c=m+R.length) (hmid:mid=(a+c) / 2) (hnn:nn=mid+m)
 (b1:a≤s0) (b2:s0≤s) (b3:s≤r0) (b4:r0≤m) (b5:r0≤mid) (b6:nn≤s0+c) (b7:s0=a∨s0+c=nn) (b8:r0=m∨r0=mid)
 (i1:s=s0∨¬K ((P++(L++(R++S))).getD (nn-s) 0)<K ((P++(L++(R++S))).getD (s-1) 0)) (i2:s=r0∨K ((P++(L++(R++S))).getD (nn-1-s) 0)<K ((P++(L++(R++S))).getD s 0)) :
 ∃L1 L2 R1 R2,L=L1++L2∧R=R1++R2∧L1.length+a=s∧R1.length+m=nn-s∧(∀x y,L1.getLast? = some x→R2.head? = some y→K x≤K y)∧(∀x y,L2.head? = some x→R1.getLast? = some y→K y<K x):=by
 have hl1:(L.take (s-a)).length=s-a:=by rw [List.length_take];omega
 have hr1:(R.take (nn-s-m)).length=nn-s-m:=by rw [List.length_take];omega
 have dl:∀k,k<L.length→(P++(L++(R++S))).getD (a+k) 0=L.getD k 0:=fun k hk=>by
  rw [List.getD_eq_getElem?_getD,List.getD_eq_getElem?_getD,List.getElem?_append_right (by omega),ha,Nat.add_sub_cancel_left,List.getElem?_append_left hk]
 have dr:∀k,k<R.length→(P++(L++(R++S))).getD (m+k) 0=R.getD k 0:=fun k hk=>by
  rw [List.getD_eq_getElem?_getD,List.getD_eq_getElem?_getD,List.getElem?_append_right (by omega),hm,ha,show P.length+L.length+k-P.length=L.length+k by omega,List.getElem?_append_right (by omega),Nat.add_sub_cancel_left,List.getElem?_append_left hk]
 have lst:∀(l:List Nat) (t x:Nat),t≤l.length→(l.take t).getLast? = some x→0<t∧l.getD (t-1) 0=x:=fun l t x ht h=>by
  cases t with
  | zero=>simp at h
  | succ t=>
    have h1:=vP (getD_at (l:=l) (k:=t) (by omega));rw [h1] at h;injection h with h;exact ⟨by omega,h⟩
 have hd:∀(l:List Nat) (t x:Nat),(l.drop t).head? = some x→t<l.length∧l.getD t 0=x:=fun l t x h=>by
  rw [vQ] at h;exact ⟨(List.getElem?_eq_some_iff.1 h).1,by rw [List.getD_eq_getElem?_getD,h];rfl⟩
 refine ⟨L.take (s-a),L.drop (s-a),R.take (nn-s-m),R.drop (nn-s-m),(List.take_append_drop _ _).symm,(List.take_append_drop _ _).symm,by omega,by omega,fun x y hx hy=>?_,fun x y hx hy=>?_⟩
 ·obtain ⟨h1,h2⟩:=lst L (s-a) x (by omega) hx;obtain ⟨h3,h4⟩:=hd R (nn-s-m) y hy;rcases i1 with i1|i1
  ·omega
  ·have e1:=dl (s-a-1) (by omega);have e2:=dr (nn-s-m) h3;rw [show a+(s-a-1)=s-1 by omega,h2] at e1;rw [show m+(nn-s-m)=nn-s by omega,h4] at e2;rw [e1,e2] at i1;omega
 ·obtain ⟨h1,h2⟩:=hd L (s-a) x hx;obtain ⟨h3,h4⟩:=lst R (nn-s-m) y (by omega) hy;rcases i2 with i2|i2
  ·omega
  ·have e1:=dl (s-a) h1;have e2:=dr (nn-s-m-1) (by omega);rw [show a+(s-a)=s by omega,h2] at e1;rw [show m+(nn-s-m-1)=nn-1-s by omega,h4] at e2;rw [e1,e2] at i2;exact i2
def abn (w0:World) (N:Nat) (K:Nat→Nat) (cv:Value) (b:Nat) (p:List Nat) (q:List Value) (off n cap:Nat) (s:Nat):Prop:=
 ∀(w:World) (P L R S:List Nat),Below N w0 w→bE w b p (P++(L++(R++S))) q→(P++(L++(R++S))).length=n→L≠[]→R≠[]→L.length+R.length≤s→(∀y∈L,0<K y∧y<1114112)→(∀y∈R,0<K y∧y<1114112)→up K L→up K R→∀a m c:Nat,a=P.length→m=a+L.length→c=m+R.length→
  Calls Tryz.prog 226 #[.slice (some ⟨b,off,none⟩) n cap,.int .i64 a,.int .i64 m,.int .i64 c,vO cv] w fun e w'=>e=.returned (.tuple #[])∧(∃M',eQ K (L++R) M'∧up K M'∧bE w' b p (P++(M'++S)) q)∧Below N w w'
theorem OE {w0:World} {b N:Nat} (hN:N≤b) {K:Nat→Nat} {cv:Value} (hC:xh w0 N K cv) {p:List Nat} {q:List Value} {off n cap s:Nat} (ho:off=p.length) (qO:n<1000000) (ih:abn w0 N K cv b p q off n cap s)
 (w:World) (P L R S:List Nat) (hE0:Below N w0 w) (h:bE w b p (P++(L++(R++S))) q) (hn:(P++(L++(R++S))).length=n) (hL2:2≤L.length) (hR2:2≤R.length) (hs:L.length+R.length≤s+1)
 (hL:∀y∈L,0<K y∧y<1114112) (hR:∀y∈R,0<K y∧y<1114112) (uL:up K L) (uR:up K R) (a m c:Nat) (ha:a=P.length) (hm:m=a+L.length) (hc:c=m+R.length) :
 Calls Tryz.prog 226 #[.slice (some ⟨b,off,none⟩) n cap,.int .i64 a,.int .i64 m,.int .i64 c,vO cv] w fun e w'=>e=.returned (.tuple #[])∧(∃M',eQ K (L++R) M'∧up K M'∧bE w' b p (P++(M'++S)) q)∧Below N w w':=by
 obtain ⟨D,hD⟩:=ae (P++(L++(R++S)));have hcn:a+2≤m∧m+2≤c∧c≤n:=by
  simp only [List.length_append] at hn;omega
 obtain ⟨d1,hd1⟩:∃d1:Nat,d1=m-a:=⟨_,rfl⟩;obtain ⟨d2,hd2⟩:∃d2:Nat,d2=c-m:=⟨_,rfl⟩;have e1:IntKind.i64.wrap ((m:Int)-(a:Int))=(d1:Int):=by rw [IntWalk.i64_in _ (by omega)];omega
 have e2:IntKind.i64.wrap ((c:Int)-(m:Int))=(d2:Int):=by rw [IntWalk.i64_in _ (by omega)];omega
 have z1:((d1:Int)==1)=false:=by simp;omega
 have z2:((d2:Int)==1)=false:=by simp;omega
 obtain ⟨mid,hmid⟩:=ae ((a+c) / 2);obtain ⟨nn,hnn⟩:=ae (mid+m);have e3:((a:Int)+(c:Int)) / 2=(mid:Int):=by omega
 have e4:IntKind.i64.wrap ((mid:Int)+(m:Int))=(nn:Int):=by rw [IntWalk.i64_in _ (by omega)];omega
 have HO:=aa ho;have HA:=aa ha;have HM:=aa hm;have HC:=aa hc;have Ed:=aa hmid;have mF:=aa hnn;have HCM:=aa hC;have HLEN:=aa hn;have HL:=aa hL;have HR:=aa hR;have Ii:=aa uL;have Ij:=aa uR;have Xc:=aa ih;have HS:=aa hs;have hbw:=h.lt;have hmb:a<mid∧mid<c∧nn<a+c+c∧mid≤nn∧m≤nn:=by omega
 rw [←hD] at h hn;have Z9:=aa hD;have HD:=aa h;have DI:=aa hn;clear ho ha hm hc hmid hnn hC hn hL hR uL uR ih hs hD h hL2 hR2 hd1 hd2;go_enter Tryz.func226,Tryz.ntmps226;go_upto_if 140 with fail;go_cut [20,21] from 141 to 146 (fun sv rv wx=>∃s0 r0:Nat,sv=.int .i64 s0∧rv=.int .i64 r0∧a≤s0∧s0≤r0∧r0≤m∧r0≤mid∧nn≤s0+c∧(s0=a∨s0+c=nn)∧(r0=m∨r0=mid)∧wx=w)
 case first=>
  by_cases hmm:mid<m
  ·have z3:decide ((mid:Int)<(m:Int))=true:=by simp;omega
   obtain ⟨s0,hs0⟩:=ae (nn-c);have e5:IntKind.i64.wrap ((nn:Int)-(c:Int))=(s0:Int):=by rw [IntWalk.i64_in _ (by omega)];have:=mF.out;have:=Ed.out;omega
   have T9:=aa hs0;clear hs0;go_wp2_with fail;go_meet;exact ⟨s0,mid,rfl,rfl,by have:=T9.out;have:=mF.out;have:=Ed.out;omega,by have:=T9.out;have:=mF.out;have:=Ed.out;omega,by omega,Nat.le_refl _,by have:=T9.out;omega,.inr (by have:=T9.out;have:=mF.out;have:=Ed.out;omega),.inr rfl,rfl⟩
  ·have z3:decide ((mid:Int)<(m:Int))=false:=by simp;omega
   go_wp2_with fail;go_meet;exact ⟨a,m,rfl,rfl,Nat.le_refl _,by omega,Nat.le_refl _,by omega,by have:=mF.out;have:=Ed.out;omega,.inl rfl,.inl rfl,rfl⟩
 case rest=>
  obtain ⟨s0,r0,rfl,rfl,b1,b2,b3,b4,b5,b6,b7,hwc⟩:=hcut;obtain rfl:wc=w:=hwc;obtain ⟨pp,JR⟩:∃pp,nn=pp+1:=⟨nn-1,by omega⟩;have e6:IntKind.i64.wrap ((nn:Int)-1)=(pp:Int):=by rw [IntWalk.i64_in _ (by omega)];omega
  have HPP:=aa JR;have Yi:=aa (And.intro b6 b7);have akR:pp<nn:=by omega
  clear b6 b7 JR;go_wp2_with fail;go_loopw [20,21] (fun sv rv wr=>∃s r:Nat,s0≤s∧s≤r∧r≤r0∧sv=.int .i64 s∧rv=.int .i64 r∧(s=s0∨¬K (D.getD (nn-s) 0)<K (D.getD (s-1) 0))∧(r=r0∨K (D.getD (nn-1-r) 0)<K (D.getD r 0))∧bE wr b p D q∧Below N wc wr) (fun sv rv _=>(intOf rv).toNat-(intOf sv).toNat)
  case atStart=>exact ⟨s0,r0,Nat.le_refl _,b2,Nat.le_refl _,rfl,rfl,.inl rfl,.inl rfl,HD.out,Below.refl _ _⟩
  case round=>
   obtain ⟨s1,r1,c1,c2,c3,rfl,rfl,i1,i2,hd,hE⟩:=hrel;have HI1:=aa i1;have HI2:=aa i2;clear i1 i2;by_cases hlt:s1<r1
   ·have z:decide ((s1:Int)<(r1:Int))=true:=by simp;omega
    obtain ⟨h,hh⟩:=ae ((s1+r1) / 2);have Z7:s1≤h∧h<r1:=by omega
    have e7:((s1:Int)+(r1:Int)) / 2=(h:Int):=by omega
    obtain ⟨k,hk⟩:∃k,k+h=pp:=⟨pp-h,by have:=HPP.out;have:=mF.out;omega⟩;have hkn:k<n∧h<n:=by have:=HPP.out;have:=mF.out;have:=Ed.out;omega
    have e8:IntKind.i64.wrap ((pp:Int)-(h:Int))=(k:Int):=by rw [IntWalk.i64_in _ (by omega)];omega
    have hkk:k=nn-1-h∧k=nn-(h+1):=by have:=HPP.out;omega
    have hrange:m≤k∧k<c∧a≤h∧h<m:=by have:=HPP.out;have:=mF.out;have:=Ed.out;omega
    have g1:D[k]? = some (D.getD k 0):=getD_at (by rw [DI.out];omega);have g2:D[h]? = some (D.getD h 0):=getD_at (by rw [DI.out];omega);obtain ⟨x,hx⟩:=ae (D.getD k 0);obtain ⟨y,hy⟩:=ae (D.getD h 0);rw [←hx] at g1;rw [←hy] at g2;have Yj:x∈R:=by
     rw [Z9.out,List.getElem?_append_right (by have:=HA.out;omega),List.getElem?_append_right (by have:=HA.out;have:=HM.out;omega),List.getElem?_append_left (by have:=HA.out;have:=HM.out;have:=HC.out;omega)] at g1;exact List.mem_of_getElem? g1
    have hyl:y∈L:=by
     rw [Z9.out,List.getElem?_append_right (by have:=HA.out;omega),List.getElem?_append_left (by have:=HA.out;have:=HM.out;omega)] at g2;exact List.mem_of_getElem? g2
    have d1':=hd.at (o:=off+k) (by rw [HO.out]) g1;have d2':=hd.at (o:=off+h) (by rw [HO.out]) g2;have E0:=ag wr;have q1:=Gr.cell E0 d1';have q2:=Gr.cell E0 d2';have CC:=aa (HCM.out wr.drew (hE0.trans hE.drew) x y (HR.out x Yj).2 (HL.out y hyl).2);obtain ⟨cz,hcz⟩:=ae (uC (K x) (K y));rw [←hcz] at CC;have KD:=aa (show cz<0↔K x<K y from by rw [hcz];exact yj);have HX:=aa hx;have HY:=aa hy;have HKK:=aa hkk;have HD2:=aa hd;have tL:=hd.lt;clear hh hk hkk g1 g2 hx hy Yj hyl d1' d2' hcz hd hrange;go_wp2_with fail;refine aF (Array.replicate 14 true) 14 0 mixed (by rfl) ?_;refine ay [0,1,2,3,4,5,6,7,8,9,10] 3 rfl (by kernel_rfl) ?_
    iterate 11 (refine aB rfl ?_;go_big_quiet_step (rfl))
    refine az ?_;refine aI 11 (by kernel_rfl) rfl ?_;go_wp2_with fail;refine CC.out.mono ?_;rintro e w6 ⟨rfl,hb6⟩;go_wp2_with fail;refine aD hb6 ?_;refine ay [12,13] 0 rfl (by kernel_rfl) ?_
    iterate 2 (refine aB rfl ?_;go_big_quiet_step (rfl))
    refine az ?_;refine aJ [] (by kernel_rfl) ?_;refine tail_nil ?_;have HD6:=aa (HD2.out.mono (ah E0 hb6));have iM:=(hE.drew).trans (hb6.mono (by show N≤wr.heap.size;omega));clear q1 q2 CC E0 hb6 hE;by_cases hlt2:cz<0
    ·have z5:decide (cz<0)=true:=by simp;exact hlt2
     go_wp2_with fail
     all_goals first|(exfalso;have h9:=‹(!decide (cz<0))=true›;rw [z5] at h9;exact absurd h9 (by decide))|skip
     go_roundw
     case rel=>exact ⟨s1,h,c1,by omega,by omega,rfl,rfl,HI1.out,.inr (by rw [←HKK.out.1,←HX.out,←HY.out];exact KD.out.1 hlt2),HD6.out,iM⟩
     case measure=>simp [intOf];omega
    ·have z5:decide (cz<0)=false:=by simp;omega
     have z6:0≤cz:=by omega
     go_wp2_with fail
     all_goals first|(exfalso;have h9:=‹(!decide (cz<0))=false›;rw [z5] at h9;exact absurd h9 (by decide))|skip
     go_roundw
     case rel=>exact ⟨h+1,r1,by omega,by omega,c3,by simp,rfl,.inr (by rw [←HKK.out.2,Nat.add_sub_cancel,←HX.out,←HY.out];exact fun hk=>hlt2 (KD.out.2 hk)),HI2.out,HD6.out,iM⟩
     case measure=>simp [intOf];omega
   ·have z:decide ((s1:Int)<(r1:Int))=false:=by simp;omega
    obtain rfl:s1=r1:=by omega
    obtain ⟨L1,L2,R1,R2,Rw,zC,hl1,hr1,h1,h2⟩:=OD (K:=K) HA.out HM.out HC.out Ed.out mF.out b1 c1 c3 b3 b4 b5 Yi.out.1 Yi.out.2 (by rw [←Z9.out];exact HI1.out) (by rw [←Z9.out];exact HI2.out);obtain ⟨en,hen⟩:=ae (nn-s1);have akS:m≤en∧en≤c∧en+s1=nn:=by have:=HPP.out;have:=mF.out;have:=Ed.out;omega
    have e9:IntKind.i64.wrap ((nn:Int)-(s1:Int))=(en:Int):=by rw [IntWalk.i64_in _ (by omega)];omega
    rw [←hen] at hr1;have hl2:L2.length+s1=m:=by have:=congrArg List.length Rw;rw [List.length_append] at this;have:=HM.out;omega
    have hr2:R2.length+en=c:=by have:=congrArg List.length zC;rw [List.length_append] at this;have:=HC.out;omega
    have hd0:bE wr b p (P++(L1++(L2++(R1++(R2++S))))) q:=by
     have:=hd;rw [Z9.out,Rw,zC] at this;simpa using this
    have hln:(P++(L1++(L2++(R1++(R2++S))))).length=n:=by
     rw [←DI.out,Z9.out,Rw,zC];simp
    have iA:=aa Rw;have eY:=aa zC;have qQ:=aa hl1;have qE:=aa hr1;have rD:=aa hl2;have MI:=aa hr2;have Yk:=aa h1;have Yl:=aa h2;have HD0:=aa hd0;have yX:=aa hln;have hsm:s1≤m∧s1≤mid∧a≤s1:=by omega
    clear Rw zC hl1 hr1 hl2 hr2 h1 h2 hd0 hln hen hd HD HI1 HI2 Yi;have hnm:=mF.out;have qM:=aa hnm;clear hnm;have hsum:en+s1=mid+m:=by have:=qM.out;omega
    by_cases k1:s1<m
    ·by_cases k2:m<en
     ·by_cases k3:a<s1
      ·by_cases k4:en<c
       ·have Z_:decide ((s1:Int)<(m:Int))=true:=by simp;omega
        have fme:decide ((m:Int)<(en:Int))=true:=by simp;omega
        have fas:decide ((a:Int)<(s1:Int))=true:=by simp;omega
        have fsd:decide ((s1:Int)<(mid:Int))=true:=by simp;omega
        have fde:decide ((mid:Int)<(en:Int))=true:=by simp;omega
        have fec:decide ((en:Int)<(c:Int))=true:=by simp;omega
        have hx0:=HD0.out;have hE1:=hE;go_wp2_with fail;refine (uB hN (P++L1) L2 R1 (R2++S) (w:=wr) (by simpa using HD0.out) (fun h=>by rw [h] at rD;have:=rD.out;simp at this;omega) (fun h=>by rw [h] at qE;have:=qE.out;simp at this;omega) HO.out (by rw [←yX.out];simp) qO (by rw [List.length_append];have:=qQ.out;have:=HA.out;omega) (by rw [List.length_append];have:=qQ.out;have:=HA.out;have:=rD.out;omega) (by rw [List.length_append];have:=qQ.out;have:=HA.out;have:=rD.out;have:=qE.out;omega) (vO cv)).mono ?_;rintro e w7 ⟨rfl,hd7,j4⟩;have lD:=aa (show bE w7 b p (P++(L1++(R1++(L2++(R2++S))))) q from by simpa using hd7);have sD:=hE.trans j4;clear hd7;clear hx0 hE1 HD0;go_wp2_with fail;refine (Xc.out w7 P L1 R1 (L2++(R2++S)) (hE0.trans sD) lD.out (by rw [←yX.out];simp only [List.length_append];omega) (fun h=>by rw [h] at qQ;have:=qQ.out;simp at this;omega) (fun h=>by rw [h] at qE;have:=qE.out;simp at this;omega) (by have:=qQ.out;have:=qE.out;have:=HS.out;have:=HM.out;have:=HC.out;omega) (fun y hy=>HL.out y (by rw [iA.out];exact List.mem_append_left _ hy)) (fun y hy=>HR.out y (by rw [eY.out];exact List.mem_append_left _ hy)) (by have:=Ii.out;rw [iA.out] at this;exact (aR.1 this).1) (by have:=Ij.out;rw [eY.out] at this;exact (aR.1 this).1) a s1 mid HA.out (by have:=qQ.out;omega) (by have:=qE.out;have:=mF.out;omega)).mono ?_;rintro e w8 ⟨rfl,⟨M1,t1,t2,Cx⟩,iZ⟩;have HT1:=aa (And.intro t1 t2);have JK:=aa Cx;have jW:=sD.trans iZ;clear t1 t2 Cx;have Ig:=aa (show M1.length+a=mid from by have h8:=HT1.out.1.len;rw [List.length_append] at h8;have:=qQ.out;have:=qE.out;have:=mF.out;omega);clear lD;go_wp2_with fail;refine (Xc.out w8 (P++M1) L2 R2 S (hE0.trans jW) (by simpa using JK.out) (by rw [←yX.out];have h8:=HT1.out.1.len;simp only [List.length_append] at h8 ⊢;omega) (fun h=>by rw [h] at rD;have:=rD.out;simp at this;omega) (fun h=>by rw [h] at MI;have:=MI.out;simp at this;omega) (by have:=rD.out;have:=MI.out;have:=HS.out;have:=HM.out;have:=HC.out;omega) (fun y hy=>HL.out y (by rw [iA.out];exact List.mem_append_right _ hy)) (fun y hy=>HR.out y (by rw [eY.out];exact List.mem_append_right _ hy)) (by have:=Ii.out;rw [iA.out] at this;exact (aR.1 this).2.1) (by have:=Ij.out;rw [eY.out] at this;exact (aR.1 this).2.1) mid en c (by rw [List.length_append,←HA.out];have:=Ig.out;omega) (by have:=rD.out;have:=mF.out;omega) (by have:=MI.out;omega)).mono ?_;rintro e w9 ⟨rfl,⟨M2,t1,t2,Vb⟩,tL⟩;have HT2:=aa (And.intro t1 t2);have OG:=aa (show bE w9 b p (P++(M1++(M2++S))) q from by simpa using Vb);have xK:=jW.trans tL;clear t1 t2 Vb;go_wp2_with fail;have hfin:=gW (by have:=Ii.out;rw [iA.out] at this;exact this) (by have:=Ij.out;rw [eY.out] at this;exact this) (fun x hx=>(HR.out x (by rw [eY.out];exact List.mem_append_left _ hx)).1) Yk.out Yl.out HT1.out.1 HT2.out.1 HT1.out.2 HT2.out.2;rw [←iA.out,←eY.out] at hfin
        go_end0
        exact ⟨rfl,⟨_,hfin.1,hfin.2,by have:=OG.out;simpa using this⟩,xK⟩
       ·have Z_:decide ((s1:Int)<(m:Int))=true:=by simp;omega
        have fme:decide ((m:Int)<(en:Int))=true:=by simp;omega
        have fas:decide ((a:Int)<(s1:Int))=true:=by simp;omega
        have fsd:decide ((s1:Int)<(mid:Int))=true:=by simp;omega
        have fde:decide ((mid:Int)<(en:Int))=true:=by simp;omega
        have fec:decide ((en:Int)<(c:Int))=false:=by simp;omega
        have hx0:=HD0.out;have hE1:=hE;go_wp2_with fail;refine (uB hN (P++L1) L2 R1 (R2++S) (w:=wr) (by simpa using HD0.out) (fun h=>by rw [h] at rD;have:=rD.out;simp at this;omega) (fun h=>by rw [h] at qE;have:=qE.out;simp at this;omega) HO.out (by rw [←yX.out];simp) qO (by rw [List.length_append];have:=qQ.out;have:=HA.out;omega) (by rw [List.length_append];have:=qQ.out;have:=HA.out;have:=rD.out;omega) (by rw [List.length_append];have:=qQ.out;have:=HA.out;have:=rD.out;have:=qE.out;omega) (vO cv)).mono ?_;rintro e w7 ⟨rfl,hd7,j4⟩;have lD:=aa (show bE w7 b p (P++(L1++(R1++(L2++(R2++S))))) q from by simpa using hd7);have sD:=hE.trans j4;clear hd7;clear hx0 hE1 HD0;go_wp2_with fail;refine (Xc.out w7 P L1 R1 (L2++(R2++S)) (hE0.trans sD) lD.out (by rw [←yX.out];simp only [List.length_append];omega) (fun h=>by rw [h] at qQ;have:=qQ.out;simp at this;omega) (fun h=>by rw [h] at qE;have:=qE.out;simp at this;omega) (by have:=qQ.out;have:=qE.out;have:=HS.out;have:=HM.out;have:=HC.out;omega) (fun y hy=>HL.out y (by rw [iA.out];exact List.mem_append_left _ hy)) (fun y hy=>HR.out y (by rw [eY.out];exact List.mem_append_left _ hy)) (by have:=Ii.out;rw [iA.out] at this;exact (aR.1 this).1) (by have:=Ij.out;rw [eY.out] at this;exact (aR.1 this).1) a s1 mid HA.out (by have:=qQ.out;omega) (by have:=qE.out;have:=mF.out;omega)).mono ?_;rintro e w8 ⟨rfl,⟨M1,t1,t2,Cx⟩,iZ⟩;have HT1:=aa (And.intro t1 t2);have JK:=aa Cx;have jW:=sD.trans iZ;clear t1 t2 Cx;have Ig:=aa (show M1.length+a=mid from by have h8:=HT1.out.1.len;rw [List.length_append] at h8;have:=qQ.out;have:=qE.out;have:=mF.out;omega);clear lD;obtain ⟨M2,HT2,OG⟩:∃M2,Hid (eQ K (L2++R2) M2∧up K M2)∧Hid (bE w8 b p (P++(M1++(M2++S))) q):=by
         have h9:R2=[]:=List.length_eq_zero_iff.1 (by have:=MI.out;omega);have h8:=Ii.out;rw [iA.out] at h8;have h7:=JK.out;rw [h9] at h7 ⊢;exact ⟨L2,aa ⟨by rw [List.append_nil];exact eQ.refl _,(aR.1 h8).2.1⟩,aa (by simpa using h7)⟩
        have xK:=jW;go_wp2_with fail;have hfin:=gW (by have:=Ii.out;rw [iA.out] at this;exact this) (by have:=Ij.out;rw [eY.out] at this;exact this) (fun x hx=>(HR.out x (by rw [eY.out];exact List.mem_append_left _ hx)).1) Yk.out Yl.out HT1.out.1 HT2.out.1 HT1.out.2 HT2.out.2;rw [←iA.out,←eY.out] at hfin
        go_end0
        exact ⟨rfl,⟨_,hfin.1,hfin.2,by have:=OG.out;simpa using this⟩,xK⟩
      ·by_cases k4:en<c
       ·have Z_:decide ((s1:Int)<(m:Int))=true:=by simp;omega
        have fme:decide ((m:Int)<(en:Int))=true:=by simp;omega
        have fas:decide ((a:Int)<(s1:Int))=false:=by simp;omega
        have fsd:decide ((s1:Int)<(mid:Int))=true:=by simp;omega
        have fde:decide ((mid:Int)<(en:Int))=true:=by simp;omega
        have fec:decide ((en:Int)<(c:Int))=true:=by simp;omega
        have hx0:=HD0.out;have hE1:=hE;go_wp2_with fail;refine (uB hN (P++L1) L2 R1 (R2++S) (w:=wr) (by simpa using HD0.out) (fun h=>by rw [h] at rD;have:=rD.out;simp at this;omega) (fun h=>by rw [h] at qE;have:=qE.out;simp at this;omega) HO.out (by rw [←yX.out];simp) qO (by rw [List.length_append];have:=qQ.out;have:=HA.out;omega) (by rw [List.length_append];have:=qQ.out;have:=HA.out;have:=rD.out;omega) (by rw [List.length_append];have:=qQ.out;have:=HA.out;have:=rD.out;have:=qE.out;omega) (vO cv)).mono ?_;rintro e w7 ⟨rfl,hd7,j4⟩;have lD:=aa (show bE w7 b p (P++(L1++(R1++(L2++(R2++S))))) q from by simpa using hd7);have sD:=hE.trans j4;clear hd7;clear hx0 hE1 HD0;obtain ⟨M1,HT1,JK⟩:∃M1,Hid (eQ K (L1++R1) M1∧up K M1)∧Hid (bE w7 b p (P++(M1++(L2++(R2++S)))) q):=by
         have h9:L1=[]:=List.length_eq_zero_iff.1 (by have:=qQ.out;omega);have h8:=Ij.out;rw [eY.out] at h8;have h7:=lD.out;rw [h9] at h7 ⊢;exact ⟨R1,aa ⟨eQ.refl _,(aR.1 h8).1⟩,aa h7⟩
        have jW:=sD;have Ig:=aa (show M1.length+a=mid from by have h8:=HT1.out.1.len;rw [List.length_append] at h8;have:=qQ.out;have:=qE.out;have:=mF.out;omega);clear lD;go_wp2_with fail;refine (Xc.out w7 (P++M1) L2 R2 S (hE0.trans jW) (by simpa using JK.out) (by rw [←yX.out];have h8:=HT1.out.1.len;simp only [List.length_append] at h8 ⊢;omega) (fun h=>by rw [h] at rD;have:=rD.out;simp at this;omega) (fun h=>by rw [h] at MI;have:=MI.out;simp at this;omega) (by have:=rD.out;have:=MI.out;have:=HS.out;have:=HM.out;have:=HC.out;omega) (fun y hy=>HL.out y (by rw [iA.out];exact List.mem_append_right _ hy)) (fun y hy=>HR.out y (by rw [eY.out];exact List.mem_append_right _ hy)) (by have:=Ii.out;rw [iA.out] at this;exact (aR.1 this).2.1) (by have:=Ij.out;rw [eY.out] at this;exact (aR.1 this).2.1) mid en c (by rw [List.length_append,←HA.out];have:=Ig.out;omega) (by have:=rD.out;have:=mF.out;omega) (by have:=MI.out;omega)).mono ?_;rintro e w9 ⟨rfl,⟨M2,t1,t2,Vb⟩,tL⟩;have HT2:=aa (And.intro t1 t2);have OG:=aa (show bE w9 b p (P++(M1++(M2++S))) q from by simpa using Vb);have xK:=jW.trans tL;clear t1 t2 Vb;go_wp2_with fail;have hfin:=gW (by have:=Ii.out;rw [iA.out] at this;exact this) (by have:=Ij.out;rw [eY.out] at this;exact this) (fun x hx=>(HR.out x (by rw [eY.out];exact List.mem_append_left _ hx)).1) Yk.out Yl.out HT1.out.1 HT2.out.1 HT1.out.2 HT2.out.2;rw [←iA.out,←eY.out] at hfin
        go_end0
        exact ⟨rfl,⟨_,hfin.1,hfin.2,by have:=OG.out;simpa using this⟩,xK⟩
       ·have Z_:decide ((s1:Int)<(m:Int))=true:=by simp;omega
        have fme:decide ((m:Int)<(en:Int))=true:=by simp;omega
        have fas:decide ((a:Int)<(s1:Int))=false:=by simp;omega
        have fsd:decide ((s1:Int)<(mid:Int))=true:=by simp;omega
        have fde:decide ((mid:Int)<(en:Int))=true:=by simp;omega
        have fec:decide ((en:Int)<(c:Int))=false:=by simp;omega
        have hx0:=HD0.out;have hE1:=hE;go_wp2_with fail;refine (uB hN (P++L1) L2 R1 (R2++S) (w:=wr) (by simpa using HD0.out) (fun h=>by rw [h] at rD;have:=rD.out;simp at this;omega) (fun h=>by rw [h] at qE;have:=qE.out;simp at this;omega) HO.out (by rw [←yX.out];simp) qO (by rw [List.length_append];have:=qQ.out;have:=HA.out;omega) (by rw [List.length_append];have:=qQ.out;have:=HA.out;have:=rD.out;omega) (by rw [List.length_append];have:=qQ.out;have:=HA.out;have:=rD.out;have:=qE.out;omega) (vO cv)).mono ?_;rintro e w7 ⟨rfl,hd7,j4⟩;have lD:=aa (show bE w7 b p (P++(L1++(R1++(L2++(R2++S))))) q from by simpa using hd7);have sD:=hE.trans j4;clear hd7;clear hx0 hE1 HD0;obtain ⟨M1,HT1,JK⟩:∃M1,Hid (eQ K (L1++R1) M1∧up K M1)∧Hid (bE w7 b p (P++(M1++(L2++(R2++S)))) q):=by
         have h9:L1=[]:=List.length_eq_zero_iff.1 (by have:=qQ.out;omega);have h8:=Ij.out;rw [eY.out] at h8;have h7:=lD.out;rw [h9] at h7 ⊢;exact ⟨R1,aa ⟨eQ.refl _,(aR.1 h8).1⟩,aa h7⟩
        have jW:=sD;have Ig:=aa (show M1.length+a=mid from by have h8:=HT1.out.1.len;rw [List.length_append] at h8;have:=qQ.out;have:=qE.out;have:=mF.out;omega);clear lD;obtain ⟨M2,HT2,OG⟩:∃M2,Hid (eQ K (L2++R2) M2∧up K M2)∧Hid (bE w7 b p (P++(M1++(M2++S))) q):=by
         have h9:R2=[]:=List.length_eq_zero_iff.1 (by have:=MI.out;omega);have h8:=Ii.out;rw [iA.out] at h8;have h7:=JK.out;rw [h9] at h7 ⊢;exact ⟨L2,aa ⟨by rw [List.append_nil];exact eQ.refl _,(aR.1 h8).2.1⟩,aa (by simpa using h7)⟩
        have xK:=jW;go_wp2_with fail;have hfin:=gW (by have:=Ii.out;rw [iA.out] at this;exact this) (by have:=Ij.out;rw [eY.out] at this;exact this) (fun x hx=>(HR.out x (by rw [eY.out];exact List.mem_append_left _ hx)).1) Yk.out Yl.out HT1.out.1 HT2.out.1 HT1.out.2 HT2.out.2;rw [←iA.out,←eY.out] at hfin
        go_end0
        exact ⟨rfl,⟨_,hfin.1,hfin.2,by have:=OG.out;simpa using this⟩,xK⟩
     ·have Z_:decide ((s1:Int)<(m:Int))=true:=by simp;omega
      have fme:decide ((m:Int)<(en:Int))=false:=by simp;omega
      have fas:decide ((a:Int)<(s1:Int))=true:=by simp;omega
      have fsd:decide ((s1:Int)<(mid:Int))=false:=by simp;omega
      have fde:decide ((mid:Int)<(en:Int))=true:=by simp;omega
      have fec:decide ((en:Int)<(c:Int))=true:=by simp;omega
      have hx0:=HD0.out;have hE1:=hE;have lD:=aa (show bE wr b p (P++(L1++(R1++(L2++(R2++S))))) q from by have h9:=qE.out;rw [show R1=[] from List.length_eq_zero_iff.1 (by omega)];rw [show R1=[] from List.length_eq_zero_iff.1 (by omega)] at hx0;simpa using hx0);have sD:=hE;clear hx0 hE1 HD0;obtain ⟨M1,HT1,JK⟩:∃M1,Hid (eQ K (L1++R1) M1∧up K M1)∧Hid (bE wr b p (P++(M1++(L2++(R2++S)))) q):=by
       have h9:R1=[]:=List.length_eq_zero_iff.1 (by have:=qE.out;omega);have h8:=Ii.out;rw [iA.out] at h8;have h7:=lD.out;rw [h9] at h7 ⊢;exact ⟨L1,aa ⟨by rw [List.append_nil];exact eQ.refl _,(aR.1 h8).1⟩,aa (by simpa using h7)⟩
      have jW:=sD;have Ig:=aa (show M1.length+a=mid from by have h8:=HT1.out.1.len;rw [List.length_append] at h8;have:=qQ.out;have:=qE.out;have:=mF.out;omega);clear lD;go_wp2_with fail;refine (Xc.out wr (P++M1) L2 R2 S (hE0.trans jW) (by simpa using JK.out) (by rw [←yX.out];have h8:=HT1.out.1.len;simp only [List.length_append] at h8 ⊢;omega) (fun h=>by rw [h] at rD;have:=rD.out;simp at this;omega) (fun h=>by rw [h] at MI;have:=MI.out;simp at this;omega) (by have:=rD.out;have:=MI.out;have:=HS.out;have:=HM.out;have:=HC.out;omega) (fun y hy=>HL.out y (by rw [iA.out];exact List.mem_append_right _ hy)) (fun y hy=>HR.out y (by rw [eY.out];exact List.mem_append_right _ hy)) (by have:=Ii.out;rw [iA.out] at this;exact (aR.1 this).2.1) (by have:=Ij.out;rw [eY.out] at this;exact (aR.1 this).2.1) mid en c (by rw [List.length_append,←HA.out];have:=Ig.out;omega) (by have:=rD.out;have:=mF.out;omega) (by have:=MI.out;omega)).mono ?_;rintro e w9 ⟨rfl,⟨M2,t1,t2,Vb⟩,tL⟩;have HT2:=aa (And.intro t1 t2);have OG:=aa (show bE w9 b p (P++(M1++(M2++S))) q from by simpa using Vb);have xK:=jW.trans tL;clear t1 t2 Vb;go_wp2_with fail;have hfin:=gW (by have:=Ii.out;rw [iA.out] at this;exact this) (by have:=Ij.out;rw [eY.out] at this;exact this) (fun x hx=>(HR.out x (by rw [eY.out];exact List.mem_append_left _ hx)).1) Yk.out Yl.out HT1.out.1 HT2.out.1 HT1.out.2 HT2.out.2;rw [←iA.out,←eY.out] at hfin
      go_end0
      exact ⟨rfl,⟨_,hfin.1,hfin.2,by have:=OG.out;simpa using this⟩,xK⟩
    ·by_cases k2:m<en
     ·have Z_:decide ((s1:Int)<(m:Int))=false:=by simp;omega
      have fme:decide ((m:Int)<(en:Int))=true:=by simp;omega
      have fas:decide ((a:Int)<(s1:Int))=true:=by simp;omega
      have fsd:decide ((s1:Int)<(mid:Int))=true:=by simp;omega
      have fde:decide ((mid:Int)<(en:Int))=false:=by simp;omega
      have fec:decide ((en:Int)<(c:Int))=true:=by simp;omega
      have hx0:=HD0.out;have hE1:=hE;have lD:=aa (show bE wr b p (P++(L1++(R1++(L2++(R2++S))))) q from by have h9:=rD.out;rw [show L2=[] from List.length_eq_zero_iff.1 (by omega)];rw [show L2=[] from List.length_eq_zero_iff.1 (by omega)] at hx0;simpa using hx0);have sD:=hE;clear hx0 hE1 HD0;go_wp2_with fail;refine (Xc.out wr P L1 R1 (L2++(R2++S)) (hE0.trans sD) lD.out (by rw [←yX.out];simp only [List.length_append];omega) (fun h=>by rw [h] at qQ;have:=qQ.out;simp at this;omega) (fun h=>by rw [h] at qE;have:=qE.out;simp at this;omega) (by have:=qQ.out;have:=qE.out;have:=HS.out;have:=HM.out;have:=HC.out;omega) (fun y hy=>HL.out y (by rw [iA.out];exact List.mem_append_left _ hy)) (fun y hy=>HR.out y (by rw [eY.out];exact List.mem_append_left _ hy)) (by have:=Ii.out;rw [iA.out] at this;exact (aR.1 this).1) (by have:=Ij.out;rw [eY.out] at this;exact (aR.1 this).1) a s1 mid HA.out (by have:=qQ.out;omega) (by have:=qE.out;have:=mF.out;omega)).mono ?_;rintro e w8 ⟨rfl,⟨M1,t1,t2,Cx⟩,iZ⟩;have HT1:=aa (And.intro t1 t2);have JK:=aa Cx;have jW:=sD.trans iZ;clear t1 t2 Cx;have Ig:=aa (show M1.length+a=mid from by have h8:=HT1.out.1.len;rw [List.length_append] at h8;have:=qQ.out;have:=qE.out;have:=mF.out;omega);clear lD;obtain ⟨M2,HT2,OG⟩:∃M2,Hid (eQ K (L2++R2) M2∧up K M2)∧Hid (bE w8 b p (P++(M1++(M2++S))) q):=by
       have h9:L2=[]:=List.length_eq_zero_iff.1 (by have:=rD.out;have:=mF.out;omega);have h8:=Ij.out;rw [eY.out] at h8;have h7:=JK.out;rw [h9] at h7 ⊢;exact ⟨R2,aa ⟨eQ.refl _,(aR.1 h8).2.1⟩,aa h7⟩
      have xK:=jW;go_wp2_with fail;have hfin:=gW (by have:=Ii.out;rw [iA.out] at this;exact this) (by have:=Ij.out;rw [eY.out] at this;exact this) (fun x hx=>(HR.out x (by rw [eY.out];exact List.mem_append_left _ hx)).1) Yk.out Yl.out HT1.out.1 HT2.out.1 HT1.out.2 HT2.out.2;rw [←iA.out,←eY.out] at hfin
      go_end0
      exact ⟨rfl,⟨_,hfin.1,hfin.2,by have:=OG.out;simpa using this⟩,xK⟩
     ·have Z_:decide ((s1:Int)<(m:Int))=false:=by simp;omega
      have fme:decide ((m:Int)<(en:Int))=false:=by simp;omega
      have fas:decide ((a:Int)<(s1:Int))=true:=by simp;omega
      have fsd:decide ((s1:Int)<(mid:Int))=false:=by simp;omega
      have fde:decide ((mid:Int)<(en:Int))=false:=by simp;omega
      have fec:decide ((en:Int)<(c:Int))=true:=by simp;omega
      have hx0:=HD0.out;have hE1:=hE;have lD:=aa (show bE wr b p (P++(L1++(R1++(L2++(R2++S))))) q from by have h9:=rD.out;rw [show L2=[] from List.length_eq_zero_iff.1 (by omega)];rw [show L2=[] from List.length_eq_zero_iff.1 (by omega)] at hx0;simpa using hx0);have sD:=hE;clear hx0 hE1 HD0;obtain ⟨M1,HT1,JK⟩:∃M1,Hid (eQ K (L1++R1) M1∧up K M1)∧Hid (bE wr b p (P++(M1++(L2++(R2++S)))) q):=by
       have h9:R1=[]:=List.length_eq_zero_iff.1 (by have:=qE.out;omega);have h8:=Ii.out;rw [iA.out] at h8;have h7:=lD.out;rw [h9] at h7 ⊢;exact ⟨L1,aa ⟨by rw [List.append_nil];exact eQ.refl _,(aR.1 h8).1⟩,aa (by simpa using h7)⟩
      have jW:=sD;have Ig:=aa (show M1.length+a=mid from by have h8:=HT1.out.1.len;rw [List.length_append] at h8;have:=qQ.out;have:=qE.out;have:=mF.out;omega);clear lD;obtain ⟨M2,HT2,OG⟩:∃M2,Hid (eQ K (L2++R2) M2∧up K M2)∧Hid (bE wr b p (P++(M1++(M2++S))) q):=by
       have h9:L2=[]:=List.length_eq_zero_iff.1 (by have:=rD.out;have:=mF.out;omega);have h8:=Ij.out;rw [eY.out] at h8;have h7:=JK.out;rw [h9] at h7 ⊢;exact ⟨R2,aa ⟨eQ.refl _,(aR.1 h8).2.1⟩,aa h7⟩
      have xK:=jW;go_wp2_with fail;have hfin:=gW (by have:=Ii.out;rw [iA.out] at this;exact this) (by have:=Ij.out;rw [eY.out] at this;exact this) (fun x hx=>(HR.out x (by rw [eY.out];exact List.mem_append_left _ hx)).1) Yk.out Yl.out HT1.out.1 HT2.out.1 HT1.out.2 HT2.out.2;rw [←iA.out,←eY.out] at hfin
      go_end0
      exact ⟨rfl,⟨_,hfin.1,hfin.2,by have:=OG.out;simpa using this⟩,xK⟩
theorem Ik {w0:World} {b N:Nat} (hN:N≤b) {K:Nat→Nat} {cv:Value} (hC:xh w0 N K cv) {p:List Nat} {q:List Value} {off n cap:Nat} (ho:off=p.length) (qO:n<1000000):∀s,abn w0 N K cv b p q off n cap s
 | 0=>fun w P L R S _ _ _ hL hR hs=>by
   have:=List.length_pos_iff.2 hL;have:=List.length_pos_iff.2 hR;omega
 | s+1=>fun w P L R S hE h hn hL hR hs pL pR uL uR a m c ha hm hc=>by
   have h1:=List.length_pos_iff.2 hL;have h2:=List.length_pos_iff.2 hR;by_cases l1:L.length=1
   ·obtain ⟨x,rfl⟩:=List.length_eq_one_iff.1 l1;exact OB hN hC hE P x R S (by simpa using h) pR uR (pL x (by simp)).2 ho (by simpa using hn) qO ha hm hc
   ·by_cases r1:R.length=1
    ·obtain ⟨x,rfl⟩:=List.length_eq_one_iff.1 r1;exact OC hN hC hE P x L S (by simpa using h) (fun y hy=>(pL y hy).2) uL (pR x (by simp)) l1 ho (by simpa using hn) qO ha hm (by simpa using hc)
    ·exact OE hN hC ho qO (Ik hN hC ho qO s) w P L R S hE h hn (by omega) (by omega) hs pL pR uL uR a m c ha hm hc
def Rx (K:Nat→Nat) (k:Nat) (Bs:List (List Nat)):Prop:=∀B∈Bs,B.length=k∧up K B
theorem Rx.len {K:Nat→Nat} {k:Nat}:∀{Bs:List (List Nat)},Rx K k Bs→Bs.flatten.length=Bs.length*k
 | [],_=>by simp
 | B::Bs,h=>by
   have ih:=Rx.len (Bs:=Bs) fun C hC=>h C (by simp [hC]);rw [List.flatten_cons,List.length_append,ih,(h B (by simp)).1,List.length_cons,Nat.add_mul];omega
theorem Rx.snoc {K:Nat→Nat} {k:Nat} {Bs:List (List Nat)} (h:Rx K k Bs) {B:List Nat} (h1:B.length=k) (h2:up K B):Rx K k (Bs++[B]):=fun C hC=>by
 rcases List.mem_append.1 hC with hC|hC
 ·exact h C hC
 ·rw [List.mem_singleton.1 hC];exact ⟨h1,h2⟩
def vR (K:Nat→Nat) (k:Nat) (l:List Nat):Prop:=∃Bs R,l=Bs.flatten++R∧Rx K k Bs∧R.length<k∧up K R
theorem vR.done {K:Nat→Nat} {k:Nat} {l:List Nat} (h:vR K k l) (hk:l.length≤k) (hk0:0<k):up K l:=by
 obtain ⟨Bs,R,rfl,hB,hR,hu⟩:=h;rw [List.length_append,hB.len] at hk
 match Bs,hB,hk with
 | [],_,_=>simpa using hu
 | [B],hB,hk=>
   have:R=[]:=List.length_eq_zero_iff.1 (by simp at hk;omega);rw [this];simpa using (hB B (by simp)).2
 | B::C::Bs,_,hk=>
   exfalso;simp only [List.length_cons] at hk;rw [Nat.add_mul,Nat.add_mul] at hk;omega
theorem Il {w0 w:World} {b N:Nat} (hN:N≤b) {K:Nat→Nat} {cv:Value} (hC:xh w0 N K cv) (hE0:Below N w0 w) {p:List Nat} {q:List Value} (M:List Nat) (h:bE w b p M q) (hM:∀x∈M,0<K x∧x<1114112) {off n cap:Nat} (ho:off=p.length) (hn:M.length=n) (qO:n<1000000) :
 Calls Tryz.prog 205 #[.slice (some ⟨b,off,none⟩) n cap,.int .i64 n,vO cv] w fun e w'=>e=.returned (.tuple #[])∧(∃M',eQ K M M'∧up K M'∧bE w' b p M' q)∧Below N w w':=by
 have SY:=Ik hN hC (q:=q) (cap:=cap) ho qO;have IN:=fun (W:World) (hE:Below N w0 W) (P L S:List Nat) (h:bE W b p (P++(L++S)) q) (hM:∀x∈L,0<K x∧x<1114112) (hn:(P++(L++S)).length=n) (a c:Nat) (ha:a=P.length) (hc:c=P.length+L.length)=>Ru (w:=W) hN hC hE (by have:=h.lt;omega) P L S h hM ho hn qO (cap:=cap) ha hc;have HD:=aa h;have mF:=aa hn;have HM:=aa hM;have HSY:=aa SY;have Xj:=aa IN;have hbw:=h.lt;clear ho h hn hM hC SY IN;go_enter Tryz.func205,Tryz.ntmps205;go_wp2;go_loopw [7,8] (fun av bv wr=>∃a a20:Nat,av=.int .i64 a∧bv=.int .i64 a20∧a20=a+20∧a≤n∧(∃Bs R M',M'=Bs.flatten++R∧Rx K 20 Bs∧Bs.flatten.length=a∧eQ K M M'∧bE wr b p M' q)∧Below N w wr) (fun av _ _=>n-(intOf av).toNat)
 case atStart=>exact ⟨0,20,rfl,rfl,rfl,Nat.zero_le _,⟨[],M,M,rfl,fun _ h=>(by cases h),rfl,eQ.refl _,HD.out⟩,Below.refl _ _⟩
 case round=>
  obtain ⟨a,a20,rfl,rfl,Ym,han,⟨Bs,R,M',hM',hB,hBl,hs,hd⟩,hE⟩:=hrel;have kX:(Bs.flatten++R).length=n:=by rw [←hM',hs.len];exact mF.out
  have hRl:a+R.length=n:=by rw [List.length_append,hBl] at kX;exact kX
  have BR:=aa kX;have HB:=aa hB;have Yn:=aa hBl;have HS:=aa hs;have NQ:=aa hM';have hpos:∀x∈M',0<K x∧x<1114112:=fun x hx=>HM.out x (hs.mem.1 hx);have Ba:=aa hpos;have HD1:=aa hd;clear kX hB hBl hs hM' hpos hd;by_cases hle:a20≤n
  ·have z:decide ((a20:Int)≤(n:Int))=true:=by simp;omega
   obtain ⟨R1,R2,zC,Yo⟩:∃R1 R2,R=R1++R2∧R1.length=20:=⟨R.take 20,R.drop 20,(List.take_append_drop _ _).symm,by rw [List.length_take];omega⟩;have CK:=aa (Xj.out wr (hE0.trans hE) Bs.flatten R1 R2 (by rw [←zC,←NQ.out];exact HD1.out) (fun x hx=>Ba.out x (by rw [NQ.out,zC];simp [hx])) (by rw [←zC];exact BR.out) a a20 Yn.out.symm (by rw [Yn.out,Yo];exact Ym));have eY:=aa zC;have HR1:=aa Yo;obtain ⟨a40,abp⟩:=ae (a20+20);have e1:IntKind.i64.wrap ((a20:Int)+20)=(a40:Int):=by rw [IntWalk.i64_in _ (by omega)];omega
   have abq:=aa abp;have abr:=aa Ym;clear zC Yo abp Ym;go_wp2_with fail;refine CK.out.mono ?_;rintro e w6 ⟨rfl,⟨L',s1,s2,hd6⟩,hb6⟩;have Vd:=aa s1;have HS2:=aa s2;have HD6:=aa hd6;clear s1 s2 hd6 CK;go_wp2_with fail;go_roundw
   case rel=>
    refine ⟨a20,a40,rfl,by first|rfl|(rw [abq.out];go_num),abq.out,hle,⟨Bs++[L'],R2,_,rfl,HB.out.snoc (by rw [Vd.out.len];exact HR1.out) HS2.out,?_,HS.out.trans ?_,?_⟩,hE.trans hb6⟩
    ·rw [List.flatten_append,List.length_append,Yn.out];simp;rw [Vd.out.len,HR1.out,abr.out]
    ·rw [NQ.out,eY.out];have:=(eQ.refl (K:=K) Bs.flatten).app (Vd.out.app (eQ.refl R2));simpa using this
    ·simpa using HD6.out
   case measure=>have:=abr.out;simp [intOf];omega
  ·have z:decide ((a20:Int)≤(n:Int))=false:=by simp;omega
   have CK:=aa (Xj.out wr (hE0.trans hE) Bs.flatten R [] (by have:=HD1.out;rw [NQ.out] at this;simpa using this) (fun x hx=>Ba.out x (by rw [NQ.out];simp [hx])) (by simpa using BR.out) a n Yn.out.symm (by rw [Yn.out];exact hRl.symm));go_wp2_with fail;refine CK.out.mono ?_;rintro e w6 ⟨rfl,⟨L',s1,s2,hd6⟩,hb6⟩;have UH:=aa (show vR K 20 (Bs.flatten++L')∧eQ K M (Bs.flatten++L')∧bE w6 b p (Bs.flatten++L') q from ⟨⟨Bs,L',rfl,HB.out,by rw [s1.len];omega,s2⟩,HS.out.trans (by rw [NQ.out];exact (eQ.refl _).app s1),by simpa using hd6⟩);have iM:=hE.trans hb6;clear s1 s2 hd6 CK hb6 hE HD1 Ba HS NQ;go_wp2_with fail;obtain ⟨wi,rfl⟩:∃wi:World,wi=w6:=⟨_,rfl⟩;go_loopw [6,7,8,9] (fun kv _ _ _ wr=>∃k:Nat,kv=.int .i64 k∧0<k∧k≤2*n+20∧(∃M',vR K k M'∧eQ K M M'∧bE wr b p M' q)∧Below N w wr) (fun kv _ _ _ _=>n-(intOf kv).toNat)
   case atStart=>exact ⟨20,rfl,by decide,by omega,⟨_,UH.out.1,UH.out.2.1,UH.out.2.2⟩,iM⟩
   case round=>
    clear iM;obtain ⟨k,rfl,hk0,hk2,⟨M1,hr,hs,hd⟩,hE⟩:=hrel;have hl1:M1.length=n:=by rw [hs.len];exact mF.out
    by_cases hkn:k<n
    ·have z8:decide ((k:Int)<(n:Int))=true:=by simp;omega
     obtain ⟨B0,R0,hM1,hB0,hR0,hu0⟩:=hr;obtain ⟨k2,abt⟩:=ae (2*k);have e2:IntKind.i64.wrap (2*(k:Int))=(k2:Int):=by rw [IntWalk.i64_in _ (by omega)];omega
     have e2':IntKind.i64.wrap ((k:Int)*2)=(k2:Int):=by rw [IntWalk.i64_in _ (by omega)];omega
     have Yp:=aa abt;have Ig:=aa hM1;have HB0:=aa hB0;have HU0:=aa hu0;have HS:=aa hs;have HD1:=aa hd;have hpos:∀x∈M1,0<K x∧x<1114112:=fun x hx=>HM.out x (hs.mem.1 hx);have Ba:=aa hpos;have Yq:=aa hl1;have akT:k2≤2*n∧k<k2:=by omega
     clear abt hM1 hB0 hu0 hs hd hpos hl1;go_wp2_with fail;obtain ⟨wo,hwo⟩:∃wo:World,wo=wr:=⟨_,rfl⟩;subst hwo;go_loopw [7,8] (fun av bv wr=>∃a a2:Nat,av=.int .i64 a∧bv=.int .i64 a2∧a2=a+k2∧a≤n∧(∃Cs Bs,Rx K k2 Cs∧Rx K k Bs∧Cs.flatten.length=a∧eQ K M (Cs.flatten++(Bs.flatten++R0))∧bE wr b p (Cs.flatten++(Bs.flatten++R0)) q)∧Below N w wr) (fun av _ _=>n-(intOf av).toNat)
     case atStart=>exact ⟨0,k2,rfl,rfl,by omega,Nat.zero_le _,⟨[],B0,fun _ h=>(by cases h),HB0.out,rfl,by have:=HS.out;rw [Ig.out] at this;simpa using this,by have:=HD1.out;rw [Ig.out] at this;simpa using this⟩,hE⟩
     case round=>
      clear hE;obtain ⟨a,a2,rfl,rfl,ha2,akU,⟨Cs,Ve,hC',hB',hcl,hs',hd'⟩,hE⟩:=hrel;have hln:(Cs.flatten++(Ve.flatten++R0)).length=n:=by rw [hs'.len];exact mF.out
      have hbl:=hB'.len;have KM:a+Ve.length*k+R0.length=n:=by
       simp only [List.length_append] at hln;rw [hcl,hbl] at hln;omega
      have hpos':∀x∈Cs.flatten++(Ve.flatten++R0),0<K x∧x<1114112:=fun x hx=>HM.out x (hs'.mem.1 hx);have Oy:=aa hpos';have Xk:=aa hcl;have yX:=aa hln;clear hpos' hcl hln hbl;by_cases hle2:a2≤n
      ·have z9:decide ((a2:Int)≤(n:Int))=true:=by simp;omega
       obtain ⟨B1,B2,Vf,rfl⟩:∃B1 B2 Vf,Ve=B1::B2::Vf:=by
        match Ve,KM with
        | [],h=>exfalso;simp at h;omega
        | [B1],h=>exfalso;have:=Yp.out;simp at h;omega
        | B1::B2::Vf,_=>exact ⟨B1,B2,Vf,rfl⟩
       obtain ⟨hb1,hu1⟩:=hB' B1 (by simp);obtain ⟨hb2,hu2⟩:=hB' B2 (by simp);obtain ⟨am,Yr⟩:=ae (a+k);obtain ⟨a4,ha4⟩:=ae (a2+k2);have e3:IntKind.i64.wrap ((a:Int)+(k:Int))=(am:Int):=by rw [IntWalk.i64_in _ (by omega)];omega
       have e4:IntKind.i64.wrap ((a2:Int)+(k2:Int))=(a4:Int):=by rw [IntWalk.i64_in _ (by omega)];omega
       have CK:=aa (HSY.out (k+k) wr Cs.flatten B1 B2 (Vf.flatten++R0) (hE0.trans hE) (by simpa using hd') (by have:=yX.out;simpa using this) (by intro h;rw [h] at hb1;simp at hb1;omega) (by intro h;rw [h] at hb2;simp at hb2;omega) (by omega) (fun y hy=>Oy.out y (by simp [hy])) (fun y hy=>Oy.out y (by simp [hy])) hu1 hu2 a am a2 Xk.out.symm (by rw [Yr,hb1]) (by rw [ha2,Yp.out,Yr,hb2];omega));have HB':=aa hB';have HS':=aa hs';have Hb1:=aa hb1;have Hb2:=aa hb2;have HA2:=aa ha2;have HA4:=aa ha4;clear hB' hs' hd' hb1 hb2 hu1 hu2 Yr ha2 ha4 KM;go_wp2_with fail;refine CK.out.mono ?_;rintro e w8 ⟨rfl,⟨L',s1,s2,Cx⟩,iZ⟩;have Vd:=aa s1;have HS2:=aa s2;have HD8:=aa Cx;clear s1 s2 Cx CK;go_wp2_with fail;go_roundw
       case rel=>
        refine ⟨a2,a4,rfl,rfl,HA4.out,hle2,⟨Cs++[L'],Vf,Rx.snoc (by assumption) (by rw [Vd.out.len,List.length_append,Hb1.out,Hb2.out,Yp.out];omega) HS2.out,fun C hC=>HB'.out C (by simp [hC]),?_,HS'.out.trans ?_,by simpa using HD8.out⟩,hE.trans iZ⟩
        ·rw [List.flatten_append,List.length_append,Xk.out];simp;rw [Vd.out.len,List.length_append,Hb1.out,Hb2.out,HA2.out,Yp.out];omega
        ·have:=(eQ.refl (K:=K) Cs.flatten).app (Vd.out.app (eQ.refl (Vf.flatten++R0)));simpa using this
       case measure=>have:=HA2.out;simp [intOf];omega
      ·have z9:decide ((a2:Int)≤(n:Int))=false:=by simp;omega
       obtain ⟨am,Yr⟩:=ae (a+k);have e3:IntKind.i64.wrap ((a:Int)+(k:Int))=(am:Int):=by rw [IntWalk.i64_in _ (by omega)];omega
       by_cases Gb:am<n
       ·have z10:decide ((am:Int)<(n:Int))=true:=by simp;omega
        obtain ⟨B1,rfl⟩:∃B1,Ve=[B1]:=by
         match Ve,KM with
         | [],h=>exfalso;simp at h;omega
         | [B1],_=>exact ⟨B1,rfl⟩
         | B1::B2::Vf,h=>exfalso;have:=Yp.out;simp only [List.length_cons] at h;rw [Nat.add_mul,Nat.add_mul] at h;omega
        obtain ⟨hb1,hu1⟩:=hB' B1 (by simp);have hr0:am+R0.length=n:=by simp at KM;omega
        have CK:=aa (HSY.out (k+k) wr Cs.flatten B1 R0 [] (hE0.trans hE) (by simpa using hd') (by have:=yX.out;simpa using this) (by intro h;rw [h] at hb1;simp at hb1;omega) (by intro h;rw [h] at hr0;simp at hr0;omega) (by omega) (fun y hy=>Oy.out y (by simp [hy])) (fun y hy=>Oy.out y (by simp [hy])) hu1 HU0.out a am n Xk.out.symm (by rw [Yr,hb1]) hr0.symm);have Yf:=aa hC';have HS':=aa hs';have Hb1:=aa hb1;clear hB' hC' hs' hd' hb1 hu1 Yr ha2 KM hr0;go_wp2_with fail;refine CK.out.mono ?_;rintro e w8 ⟨rfl,⟨L',s1,s2,Cx⟩,iZ⟩
        have pG:=aa (show ∃M',vR K k2 M'∧eQ K M M'∧bE w8 b p M' q from ⟨Cs.flatten++L',⟨Cs,L',rfl,Yf.out,by rw [s1.len,List.length_append,Hb1.out,Yp.out];omega,s2⟩,HS'.out.trans (by
         have:=(eQ.refl (K:=K) Cs.flatten).app s1
         simpa using this),by simpa using Cx⟩)
        clear s1 s2 Cx CK;go_wp2_with fail;go_roundw
        case rel=>exact ⟨k2,rfl,by omega,by omega,pG.out,hE.trans iZ⟩
        case measure=>simp [intOf];omega
       ·have z10:decide ((am:Int)<(n:Int))=false:=by simp;omega
        have pG:=aa (show ∃M',vR K k2 M'∧eQ K M M'∧bE wr b p M' q from by
         refine ⟨_,⟨Cs,Ve.flatten++R0,rfl,hC',?_,?_⟩,hs',hd'⟩
         ·rw [List.length_append,hB'.len];omega
         ·match Ve,KM,hB' with
          | [],_,_=>simpa using HU0.out
          | [B1],h,hB'=>
            have:R0=[]:=List.length_eq_zero_iff.1 (by simp at h;omega);rw [this];simpa using (hB' B1 (by simp)).2
          | B1::B2::Vf,h,_=>exfalso;have:=Yp.out;simp only [List.length_cons] at h;rw [Nat.add_mul,Nat.add_mul] at h;omega)
        clear hB' hC' hs' hd' Yr ha2 KM;go_wp2_with fail;go_roundw
        case rel=>exact ⟨k2,rfl,by omega,by omega,pG.out,hE⟩
        case measure=>simp [intOf];omega
    ·have z8:decide ((k:Int)<(n:Int))=false:=by simp;omega
     have hup:=hr.done (by omega) hk0;go_wp2_with fail
     go_end0
     exact ⟨rfl,⟨M1,hs,hup,hd⟩,hE⟩
theorem OH {w:World} (x y:Nat) (_:x<1000000) (_:y<1000000) :
 Calls Tryz.prog 176 #[.int .i64 x,.int .i64 y] w fun e w'=>e=.returned (.int .i64 (uC x y))∧w'=w:=by
 have NN:∀z:Int,Calls Tryz.prog 204 #[.int .i64 z] w fun e w'=>e=.returned (.bool false)∧w'=w:=fun z=>by
  go_enter Tryz.func204,Tryz.ntmps204;go_wp2;go_ret;exact ⟨by simp,rfl⟩
 have HN:=aa NN;obtain ⟨r,hr⟩:=ae (uC x y);have HR:=aa hr;clear NN hr;rw [←HR.out];go_enter Tryz.func176,Tryz.ntmps176;go_wp2_with fail;refine (HN.out _).mono ?_;rintro e w1 ⟨rfl,hw⟩;obtain rfl:w1=w:=hw;go_wp2_with fail;refine (HN.out _).mono ?_;rintro e w2 ⟨rfl,hw⟩;obtain rfl:w2=w1:=hw;by_cases h1:x<y
 ·have z:decide ((x:Int)<(y:Int))=true:=by simp;omega
  go_wp2_with fail;go_ret;exact ⟨by rw [HR.out];unfold uC;rw [if_pos h1];rfl,rfl⟩
 ·have z:decide ((x:Int)<(y:Int))=false:=by simp;omega
  by_cases h2:y<x
  ·have z2:decide ((y:Int)<(x:Int))=true:=by simp;omega
   go_wp2_with fail;go_ret;exact ⟨by rw [HR.out];unfold uC;rw [if_neg h1,if_pos h2];rfl,rfl⟩
  ·have z2:decide ((y:Int)<(x:Int))=false:=by simp;omega
   go_wp2_with fail;go_ret;exact ⟨by rw [HR.out];unfold uC;rw [if_neg h1,if_neg h2];rfl,rfl⟩
theorem OI {w:World} {p bx:Nat} {T:List aH} {X:List Nat} (h:b_ w p T X) (hV:aY T X) (hx:w.cell? ⟨bx,0,none⟩=some (.pointer (some ⟨p,0,none⟩))) (a b:Nat) (ha:a<1114112) (hb:b<1114112) :
 Calls Tryz.prog 175 #[.int .i32 a,.int .i32 b,.pointer (some ⟨bx,0,none⟩)] w fun e w'=>e=.returned (.int .i64 (uC (ai T a) (ai T b)))∧Below w.heap.size w w':=by
 have hcl:∀c,ai T c<1000000:=fun c=>by
  unfold ai;cases e:rowOf T c with
  | none=>decide
  | some r=>
    have:=(hV.fine r (gT e).1).2.1;show r.cls<1000000;omega
 have CL:=aa (fun (W:World) (E:Below w.heap.size w W) c (hc:c<1114112)=>ik (h.mono E) hV c hc);have ka:=hcl a;have kb:=hcl b;obtain ⟨x,vL⟩:=ae (ai T a);obtain ⟨y,hyy⟩:=ae (ai T b);have C1:=aa (fun (W:World) (E:Below w.heap.size w W)=>CL.out W E a ha);have C2:=aa (fun (W:World) (E:Below w.heap.size w W)=>CL.out W E b hb);rw [←vL] at C1 ka ⊢;rw [←hyy] at C2 kb ⊢;have g0:=Gr.cell (ag w) hx;have CC:=aa (fun W=>OH (w:=W) x y ka kb);obtain ⟨r,hr⟩:=ae (uC x y);rw [←hr] at CC ⊢;clear h hcl CL vL hyy hr;go_enter Tryz.func175,Tryz.ntmps175;go_wp2_with fail;refine aF (Array.replicate 8 true) 8 0 mixed (by rfl) ?_;refine ay [0,1,3,4] 4 rfl (by kernel_rfl) ?_
 iterate 4 (refine aB rfl ?_;go_big_quiet_step (rfl))
 refine az ?_;refine aI 2 (by kernel_rfl) rfl ?_;go_wp2_with fail;refine (C1.out w.drew (ag w)).mono ?_;rintro e w1 ⟨rfl,hb1⟩;go_wp2_with fail;refine aD hb1 ?_;have hb1':=ah (ag w) hb1;refine aI 5 (by kernel_rfl) rfl ?_;go_wp2_with fail;refine (C2.out w1 hb1').mono ?_;rintro e w2 ⟨rfl,hb2⟩;go_wp2_with fail;refine aD hb2 ?_;refine aI 6 (by kernel_rfl) rfl ?_;go_wp2_with fail;refine (CC.out w2).mono ?_;rintro e w3 ⟨rfl,hw⟩;obtain rfl:w3=w2:=hw;go_wp2_with fail;refine aD (Below.refl _ _) ?_;refine ay [7] 0 rfl (by kernel_rfl) ?_
 iterate 1 (refine aB rfl ?_;go_big_quiet_step (rfl))
 refine az ?_;refine aJ [] (by kernel_rfl) ?_;refine tail_nil ?_;go_wp2_with fail;go_ret;exact ⟨rfl,ah hb1' hb2⟩
theorem Cy {w0 w:World} {b N:Nat} (hN:N≤b) {K:Nat→Nat} {cv:Value} (hC:xh w0 N K cv) (hE0:Below N w0 w) {p:List Nat} {q:List Value} (M:List Nat) (h:bE w b p M q) (hM:∀x∈M,0<K x∧x<1114112) {off n cap:Nat} (ho:off=p.length) (hn:M.length=n) (qO:n<1000000) :
 Calls Tryz.prog 177 #[.slice (some ⟨b,off,none⟩) n cap,vO cv] w fun e w'=>e=.returned (.tuple #[])∧(∃M',eQ K M M'∧up K M'∧bE w' b p M' q)∧Below N w w':=by
 have CK:=aa (Il hN hC hE0 M h hM ho hn qO (cap:=cap));clear h hM ho hC hn;go_enter Tryz.func177,Tryz.ntmps177;go_wp2_with fail;refine CK.out.mono ?_;rintro e w1 ⟨rfl,h1,h2⟩;have H1:=aa h1;clear h1;go_wp2_with fail
 go_end0
 exact ⟨rfl,H1.out,h2⟩
theorem zD {K:Nat→Nat} {l m:List Nat} (h1:dP K l) (h2:dP K m) (h0:∀a,l.getLast? = some a→K a=0):dP K (l++m):=by
 induction l with
 | nil=>exact h2
 | cons a l ih=>
   cases l with
   | nil=>
     cases m with
     | nil=>trivial
     | cons c m=>exact ⟨by unfold swp;have:=h0 a rfl;omega,h2⟩
   | cons b l=>exact ⟨h1.1,ih h1.2 fun z hz=>h0 z (by rw [List.getLast?_cons_cons];exact hz)⟩
theorem Im (K:Nat→Nat):∀l:List Nat,(fZ K l).length=l.length:=by
 have hi:∀(c:Nat) (l:List Nat),(jN K c l).length=l.length+1:=fun c l=>by
  induction l with
  | nil=>rfl
  | cons d l ih=>unfold jN;split <;> simp [ih]
 intro l
 induction l with
 | nil=>rfl
 | cons c l ih=>unfold fZ;rw [hi,ih];rfl
theorem Io (K:Nat→Nat) {x:Nat}:∀{l:List Nat},x∈fZ K l↔x∈l:=by
 have hi:∀(c:Nat) (l:List Nat),x∈jN K c l↔x=c∨x∈l:=fun c l=>by
  induction l with
  | nil=>simp [jN]
  | cons d l ih=>
    unfold jN
    split
    ·rw [List.mem_cons,ih,List.mem_cons];exact or_left_comm
    ·rw [List.mem_cons]
 intro l
 induction l with
 | nil=>simp [fZ]
 | cons c l ih=>unfold fZ;rw [hi,ih,List.mem_cons]
theorem bE.split {W:World} {b:Nat} {A G D:List Nat} {q:List Value}:bE W b [] (A++(G++D)) q↔bE W b A G (aN D++q):=by
 unfold bE;have e:aN []++(aN (A++(G++D))++q)=aN A++(aN G++(aN D++q)):=by
  rw [aZ,aZ];simp [aN]
 rw [e]
theorem bE.aW {W:World} {base b n cap:Nat} {l:List Nat} (h:W.ownsRow base aM 1 (.slice (some ⟨b,0,none⟩) n cap) n (aN l)):∃q,bE W b [] l q∧n+q.length=cap∧l.length=n∧base≤b∧cap≤maxLen:=by
 have hl:l.length=n:=by have:=h.1;simpa using this
 rcases h.2 with ⟨e,_⟩|⟨g,c,cur,e,hb,hh,hc,hm,hs,ht⟩
 ·cases e
 ·injection e with e1 _ e3;injection e1 with e1;injection e1 with e1;subst e1;subst e3;refine ⟨cur.toList.drop n,⟨?_⟩,?_,hl,hb,hm⟩
  ·have e2:(aN []++(aN l++cur.toList.drop n)).toArray=cur:=by
    rw [←ht,Nat.mul_one];simp [aN]
   rw [e2];exact hh
  ·rw [List.length_drop,Array.length_toList,hs];omega
theorem bE.own {W:World} {base b n cap:Nat} {l:List Nat} {q:List Value} (h:bE W b [] l q) (hq:n+q.length=cap) (hl:l.length=n) (hb:base≤b) (hm:cap≤maxLen):W.ownsRow base aM 1 (.slice (some ⟨b,0,none⟩) n cap) n (aN l):=by
 refine ⟨by simp [hl],.inr ⟨b,cap,_,rfl,hb,Is.at_ h,by omega,hm,?_,?_⟩⟩
 ·simp [aN,hl,hq]
 ·simp [aN,←hl]
def Yt (K:Nat→Nat) (n f:Nat) (l:List Nat):Prop:=(f≤n∧∃A C,l=A++C∧A.length=f∧dP K A∧∀a,A.getLast? = some a→K a=0)∨(f=n+1∧dP K l)
theorem Ry {w:World} {p:Nat} {T:List aH} {X:List Nat} (h:b_ w p T X) (hV:aY T X) {v:Value} (l:List Nat) (hv:Sl aM w v (aN l)) (hp:fC v) (hc:∀c∈l,c<1114112) (hln:l.length<100000) :
 Calls Tryz.prog 138 #[.pointer (some ⟨p,0,none⟩),v] w fun e w'=>∃r,e=.returned r∧w'.ownsRow w.heap.size aM 1 r l.length (aN (fZ (ai T) l))∧Below w.heap.size w w':=by
 obtain ⟨K,hK⟩:=ae (ai T);obtain ⟨w1,hw1⟩:=ae (w.alloc (.cells #[.pointer (some ⟨p,0,none⟩)] 28));have hb1:Below w.heap.size w w1:=by rw [hw1];exact af _
 have k1:Is w1 w.heap.size #[.pointer (some ⟨p,0,none⟩)] 28:=by rw [hw1];exact Is.new _ _ _
 have CL:=aa (jZ l (hv.mono hb1) hp (by omega));have hCM:xh w1 w1.heap.size K (.pointer (some ⟨w.heap.size,0,none⟩)):=fun W hW a b ha hb=>by
  rw [hK];exact OI (h.mono (hb1.trans (hW.mono hb1.size))) hV ((k1.mono hW).at 0 rfl) a b ha hb
 have HCM:=aa hCM;have HCK:=aa (fun (W:World) (E:Below w1.heap.size w1 W) c (hc:c<1114112)=>ik (h.mono (hb1.trans (E.mono hb1.size))) hV c hc);rw [←hK] at HCK ⊢;have HC:=aa hc;obtain ⟨va,vn,vc,rfl,_⟩:=id hp;have hs1:=hb1.size;obtain ⟨n,hn⟩:=ae l.length;rw [←hn] at CL hln ⊢;have HN:=aa hn;clear h hv hp hc hCM hK hn;go_enter Tryz.func138,Tryz.ntmps138;go_wp2_with fail;rw [←hw1];clear hw1;refine CL.out.mono ?_;rintro e w2 ⟨r,rfl,ho,hb2⟩;have iB:=ah hb1 hb2;by_cases hl0:l=[]
 ·subst hl0;obtain rfl:n=0:=HN.out;obtain ⟨a,cap,rfl,_,_⟩:=ak ho;have HO:=aa ho;clear ho;go_wp2_with fail;refine wp_loop_rounds 1 ?_;rw [rounds_succ];go_wp2_with fail;exact bodyPost_ret (results_tmp rfl _ _ _) rfl ⟨_,rfl,aV HO.out hs1,iB⟩
 ·have hn0:0<n:=by rw [HN.out];exact List.length_pos_iff.2 hl0
  obtain ⟨b,cap,rfl,_,_,_,_,_⟩:=dw ho hn0;obtain ⟨q,hd,hq,_,hb,hcm⟩:=bE.aW ho;have hcap:n≤cap:=by omega
  have HQ:=aa (And.intro hq hcm);have HD:=aa hd;have hb2':Below w1.heap.size w1 w2:=hb2;have kb2:=k1.mono hb2;clear hd ho hq hcm hl0 CL;go_wp2_with fail;go_loopw [7,8] (fun fv _ wr=>∃f:Nat,f≤n+1∧fv=.int .i64 f∧(∃L',Yt K n f L'∧eQ K l L'∧bE wr b [] L' q)∧Below w1.heap.size w1 wr) (fun fv _ _=>n+1-(intOf fv).toNat)
  case atStart=>exact ⟨0,by omega,rfl,⟨l,.inl ⟨Nat.zero_le _,[],l,rfl,rfl,trivial,fun a h=>by cases h⟩,eQ.refl _,HD.out⟩,hb2'⟩
  case round=>
   obtain ⟨f,hf1,rfl,⟨L',hS,OJ,hd⟩,hE⟩:=hrel;have hl':L'.length=n:=by rw [OJ.len];exact HN.out.symm
   by_cases hfn:f<n
   ·have z:decide ((f:Int)<(n:Int))=true:=by simp;omega
    obtain ⟨A,C,hAC,hA,hiA,hlA⟩:∃A C,L'=A++C∧A.length=f∧dP K A∧∀a,A.getLast? = some a→K a=0:=by
     rcases hS with ⟨_,h⟩|⟨h,_⟩
     ·exact h
     ·omega
    have HAC:=aa hAC;have HA:=aa hA;have HIA:=aa (And.intro hiA hlA);have abv:=aa OJ;have HD1:=aa hd;have HL':=aa hl';have hbr:=hd.lt;have Rz:∀x∈L',x<1114112:=fun x hx=>HC.out x (OJ.mem.1 hx);have NK:=aa Rz;clear hS OJ hAC hA hiA hlA hd hl' Rz;go_wp2_with fail;obtain ⟨wo,hwo⟩:∃wo:World,wo=wr:=⟨_,rfl⟩;subst hwo;go_loopw [8] (fun tv wr=>∃t:Nat,f≤t∧t≤n∧tv=.int .i64 t∧(∃G D,C=G++D∧G.length+f=t∧∀x∈G,0<K x)∧bE wr b [] L' q∧Below w1.heap.size w1 wr) (fun tv _=>n-(intOf tv).toNat)
    case atStart=>exact ⟨f,Nat.le_refl _,by omega,rfl,⟨[],C,rfl,by simp,by simp⟩,HD1.out,hE⟩
    case round=>
     clear hE hbr;obtain ⟨t,hft,htn,rfl,⟨G,D,hGD,hGl,hGK⟩,hd,hE⟩:=hrel;have ZW:L'=A++(G++D):=by rw [HAC.out,hGD]
     have hDl:t+D.length=n:=by
      have:=HL'.out;rw [ZW] at this;simp only [List.length_append] at this;have:=HA.out;omega
     have hbr:=hd.lt;have HGD:=aa hGD;have Xl:=aa hGl;have X6:=aa hGK;have MH:=aa ZW;have HD2:=aa hd;have DI:=aa hDl;clear hGD hGl hGK ZW hd hDl;by_cases ht:t<n
     ·have z2:decide ((t:Int)<(n:Int))=true:=by simp;omega
      obtain ⟨x,D',rfl⟩:∃x D',D=x::D':=by
       cases D with
       | nil=>have:=DI.out;simp at this;omega
       | cons x D'=>exact ⟨x,D',rfl⟩
      have g1:L'[t]? = some x:=by
       have:=f_ (A++G) D' x t (by rw [List.length_append,HA.out];have:=Xl.out;omega);rw [MH.out];simpa using this
      have WX:=NK.out x (List.mem_of_getElem? g1);have c1:=HD2.out.at (o:=t) (by simp) g1;have E0:=ag wr;have q1:=Gr.cell E0 c1;have q2:=Gr.cell E0 ((k1.mono hE).at 0 rfl);have CC:=aa (HCK.out wr.drew hE.drew x WX);obtain ⟨kx,hkx⟩:=ae (K x);rw [←hkx] at CC;have Ih:=aa hkx;clear g1 WX c1 hkx;go_wp2_with fail;refine aF (Array.replicate 13 true) 13 0 mixed (by rfl) ?_;refine ay [0,1,2,3,4,5,6,7,8,9] 3 rfl (by kernel_rfl) ?_
      iterate 10 (refine aB rfl ?_;go_big_quiet_step (rfl))
      refine az ?_;refine aI 10 (by kernel_rfl) rfl ?_;go_wp2_with fail;refine CC.out.mono ?_;rintro e w6 ⟨rfl,hb6⟩;go_wp2_with fail;refine aD hb6 ?_;refine ay [11,12] 0 rfl (by kernel_rfl) ?_
      iterate 2 (refine aB rfl ?_;go_big_quiet_step (rfl))
      refine az ?_;refine aJ [] (by kernel_rfl) ?_;refine tail_nil ?_;have iM:=hE.drew.trans (hb6.mono (by show w1.heap.size≤wr.heap.size;have:=hE.size;omega));have HD6:=aa (HD2.out.mono (ah E0 hb6));clear q1 q2 CC E0 hb6;by_cases hk0:0<kx
      ·have z3:decide ((0:Int)<(kx:Int))=true:=by simp;omega
       obtain ⟨t1,ht1⟩:=ae (t+1);have e1:IntKind.i64.wrap ((t:Int)+1)=(t1:Int):=by rw [IntWalk.i64_in _ (by omega)];omega
       have HT1:=aa ht1
       have pG:=aa (show ∃G D,C=G++D∧G.length+f=t+1∧∀x∈G,0<K x from ⟨G++[x],D',by rw [HGD.out];simp,by rw [List.length_append];have:=Xl.out;simp;omega,fun y hy=>by
        rcases List.mem_append.1 hy with hy|hy
        ·exact X6.out y hy
        ·rw [List.mem_singleton.1 hy,←Ih.out];exact hk0⟩)
       clear ht1;go_wp2_with fail;go_roundw
       case rel=>exact ⟨t+1,by omega,by omega,by have:=HT1.out;simp;omega,pG.out,HD6.out,iM⟩
       case measure=>have:=HT1.out;simp [intOf];omega
      ·have z3:decide ((0:Int)<(kx:Int))=false:=by simp;omega
       have abx:kx=0:=by omega
       have HK0:=aa abx;have hfc:f≠cap:=by omega
       have hsort:=aa (show ∀cap',Calls Tryz.prog 177 #[.slice (some ⟨b,f,none⟩) (t-f) cap',vO (.pointer (some ⟨w.heap.size,0,none⟩))] w6 fun e w'=>e=.returned (.tuple #[])∧(∃M',eQ K G M'∧up K M'∧bE w' b A M' (aN (x::D')++q))∧Below w1.heap.size w1 w' from fun cap'=>(Cy hb HCM.out iM G (bE.split.1 (by have:=HD6.out;rw [MH.out] at this;exact this)) (fun y hy=>⟨X6.out y hy,NK.out y (by rw [MH.out];simp [hy])⟩) HA.out.symm (by have:=Xl.out;omega) (by omega) (cap:=cap')).mono fun e w' ⟨h1,h2,h3⟩=>⟨h1,h2,iM.trans h3⟩);obtain ⟨t1,ht1⟩:=ae (t+1);have e1:IntKind.i64.wrap ((t:Int)+1)=(t1:Int):=by rw [IntWalk.i64_in _ (by omega)];omega
       have HT1:=aa ht1;clear ht1 abx;have afk:f≤t∧t≤cap:=by omega
       go_wp2_with fail;refine (hsort.out _).mono ?_;rintro e w8 ⟨rfl,⟨G',s1,s2,Cx⟩,jW⟩
       have pG:=aa (show ∃L2,Yt K n (t+1) L2∧eQ K l L2∧bE w8 b [] L2 q from by
        refine ⟨A++(G'++(x::D')),.inl ⟨by omega,A++(G'++[x]),D',by simp,?_,?_,fun a ha=>?_⟩,abv.out.trans ?_,bE.split.2 Cx⟩
        ·rw [List.length_append,List.length_append,s1.len,HA.out];have:=Xl.out;simp;omega
        ·refine zD HIA.out.1 (Ou K (zw K s2) trivial fun c hc=>?_) HIA.out.2;cases hc;rw [←Ih.out];exact HK0.out
        ·rw [show A++(G'++[x])=(A++G')++[x] by simp,List.getLast?_concat] at ha;injection ha with ha;rw [←ha,←Ih.out];exact HK0.out
        ·rw [MH.out]
         exact (eQ.refl A).app (s1.app (eQ.refl _)))
       clear s1 s2 Cx hsort;go_wp2_with fail;go_roundw
       case rel=>exact ⟨t+1,by omega,by have:=HT1.out;simp;omega,pG.out,jW⟩
       case measure=>have:=HT1.out;simp [intOf];omega
     ·have z2:decide ((t:Int)<(n:Int))=false:=by simp;omega
      obtain rfl:n=t:=by omega
      obtain rfl:D=[]:=List.length_eq_zero_iff.1 (by have:=DI.out;omega);have hfc:f≠cap:=by omega
      have afk:f≤n∧n≤cap:=by omega
      have hsort:=aa (show ∀nq cap',Calls Tryz.prog 177 #[.slice (some ⟨b,f,none⟩) (n-f) cap',vO (.pointer (some ⟨w.heap.size,0,none⟩))] (wr.drewN nq) fun e w'=>e=.returned (.tuple #[])∧(∃M',eQ K G M'∧up K M'∧bE w' b A M' (aN []++q))∧Below w1.heap.size w1 w' from fun nq cap'=>
       have iM:Below w1.heap.size w1 (wr.drewN nq):=hE.trans ⟨rfl,rfl,rfl,Nat.le_refl _,fun _ _=>rfl⟩
       (Cy hb HCM.out iM G (bE.split.1 (by have:=HD2.out;rw [MH.out] at this;exact this.mono ⟨rfl,rfl,rfl,Nat.le_refl _,fun _ _=>rfl⟩)) (fun y hy=>⟨X6.out y hy,NK.out y (by rw [MH.out];simp [hy])⟩) HA.out.symm (by have:=Xl.out;omega) (by omega) (cap:=cap')).mono fun e w' ⟨h1,h2,h3⟩=>⟨h1,h2,iM.trans h3⟩)
      obtain ⟨t1,ht1⟩:=ae (n+1);have e1:IntKind.i64.wrap ((n:Int)+1)=(t1:Int):=by rw [IntWalk.i64_in _ (by omega)];omega
      have HT1:=aa ht1;clear ht1 hE;go_wp2_with fail;go_quiet (fail);go_wp2_with fail;refine (hsort.out _ _).mono ?_;rintro e w8 ⟨rfl,⟨G',s1,s2,Cx⟩,jW⟩
      have pG:=aa (show ∃L2,Yt K n (n+1) L2∧eQ K l L2∧bE w8 b [] L2 q from by
       refine ⟨A++(G'++[]),.inr ⟨rfl,?_⟩,abv.out.trans ?_,bE.split.2 Cx⟩
       ·rw [List.append_nil];exact zD HIA.out.1 (zw K s2) HIA.out.2
       ·rw [MH.out]
        exact (eQ.refl A).app (s1.app (eQ.refl _)))
      clear s1 s2 Cx hsort;go_wp2_with fail;go_roundw
      case rel=>exact ⟨n+1,by omega,by have:=HT1.out;simp;omega,pG.out,jW⟩
      case measure=>have:=HT1.out;simp [intOf];omega
   ·have z:decide ((f:Int)<(n:Int))=false:=by simp;omega
    have hin:dP K L':=by
     rcases hS with ⟨h1,A,C,h2,h3,h4,_⟩|⟨_,h⟩
     ·have:C=[]:=by
       rw [h2,List.length_append] at hl';exact List.length_eq_zero_iff.1 (by omega)
      rw [h2,this,List.append_nil];exact h4
     ·exact h
    have hL:L'=fZ K l:=by
     have h1:=OJ.2 [] [];simp only [List.nil_append,List.append_nil] at h1;rw [h1,nN K hin]
    have HOW:=aa (hd.own HQ.out.1 hl' hb HQ.out.2);have HL2:=aa hL;clear hS OJ hd hin hL hl';go_wp2_with fail;go_ret;exact ⟨_,rfl,by rw [←HL2.out];exact aV HOW.out hs1,hb1.trans (hE.mono hs1)⟩
end Go.Proofs.YtmpkfkoficehpaaGreatDoor
