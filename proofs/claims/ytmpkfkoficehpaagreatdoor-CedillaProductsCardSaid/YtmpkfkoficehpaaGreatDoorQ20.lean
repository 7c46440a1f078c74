/- CedillaProducts: where a text may be cut apart, it has as many texts that are alike as its two parts multiplied; no condition. -/
import Derived.Test.YtmpkfkoficehpaaGreatDoorQ19
set_option maxRecDepth 100000
set_option maxHeartbeats 6400000
namespace Go.Proofs.YtmpkfkoficehpaaGreatDoor
open Go.RowKit Go.Cd
abbrev gX:=Nat×List Nat
def nz (l:List Nat):List Int:=l.map fun d:Nat=>(d:Int)
@[simp] theorem jd (l:List Nat):(nz l).length=l.length:=by simp [nz]
theorem VH (l:List Nat):bJ (nz l)=ds l:=by simp [bJ,nz,ds]
def aL (R:List cO) (h:Nat):cO:=R.getD h (0,[])
theorem dR {R:List cO} {h:Nat} (hh:h<R.length):aL R h=R[h]:=by unfold aL;rw [List.getD_eq_getElem?_getD,List.getElem?_eq_getElem hh];rfl
structure jG (R:List cO) (s:gX):Prop where
 lt:s.1<R.length
 len:s.2.length=(aL R s.1).2.length
 le:∀i (a:i<s.2.length) (b:i<(aL R s.1).2.length),s.2[i]≤((aL R s.1).2[i]).2.length
def IY (R:List cO) (s:gX):Bool:=decide (s.1+1=R.length)&&mq (nz s.2) (aL R s.1).2
def gY (n c:Nat) (ms:List Nat) (L:List (Nat×List Nat)) (i:Nat):Bool:=
 decide ((L.getD i (0,[])).1=n)&&decide (ms.getD i 0<(L.getD i (0,[])).2.length)&&decide ((L.getD i (0,[])).2.getD (ms.getD i 0) 0=c)
def nA (K:Nat→Nat) (R:List cO) (s:gX) (c:Nat):Option gX:=
 if K c=0 then (if mq (nz s.2) (aL R s.1).2=true∧s.1+1<R.length∧(aL R (s.1+1)).1=c then some (s.1+1,List.replicate (aL R (s.1+1)).2.length 0) else none)
 else ((List.range (aL R s.1).2.length).find? (gY (K c) c s.2 (aL R s.1).2)).map fun i=>(s.1,s.2.set i (s.2.getD i 0+1))
theorem IZ {K:Nat→Nat} {R:List cO} {s s':gX} {c:Nat} (h:jG R s) (e:nA K R s c=some s'):jG R s':=by
 unfold nA at e
 split at e
 ·split at e
  ·rename_i hw;cases e;refine ⟨hw.2.1,by simp,fun i a b=>?_⟩;simp
  ·cases e
 ·rw [Option.map_eq_some_iff] at e;obtain ⟨i,hi,rfl⟩:=e;have hil:i<(aL R s.1).2.length:=by simpa using List.mem_of_find?_eq_some hi
  have hp:=List.find?_some hi;unfold gY at hp;simp only [Bool.and_eq_true,decide_eq_true_eq] at hp;have e1:(aL R s.1).2.getD i (0,[])=(aL R s.1).2[i]:=by rw [List.getD_eq_getElem?_getD,List.getElem?_eq_getElem hil];rfl
  rw [e1] at hp;refine ⟨h.lt,by simpa using h.len,fun j a b=>?_⟩;simp only [List.getElem_set]
  split
  ·rename_i hij;subst hij;exact hp.1.2
  ·exact h.le j (by simpa using a) b
def iw (K:Nat→Nat) (F:Nat→List Nat) (R:List cO) (s:gX) (c:Nat):Option gX:=(F c).foldlM (nA K R) s
theorem I5 {α β:Type} {P:α→Prop} {f:α→β→Option α} (hf:∀a b a',P a→f a b=some a'→P a'):∀(l:List β) (a a':α),P a→l.foldlM f a=some a'→P a'
 | [],a,a',h,e=>by
   have:a=a':=by simpa using e
   exact this▸h
 | b::l,a,a',h,e=>by
   rw [List.foldlM_cons] at e;cases hb:f a b with
   | none=>rw [hb] at e;cases e
   | some a2=>
     rw [hb] at e;exact I5 hf l a2 a' (hf a b a2 h hb) e
theorem Sq {K:Nat→Nat} {F:Nat→List Nat} {R:List cO} {s s':gX} {c:Nat} (h:jG R s) (e:iw K F R s c=some s'):jG R s':=
 I5 (fun _ _ _ h e=>IZ h e) (F c) s s' h e
def uK (ms:List Nat) (L:List (Nat×List Nat)) (i:Nat):List Nat:=
 if ms.getD i 0<(L.getD i (0,[])).2.length then [(L.getD i (0,[])).2.getD (ms.getD i 0) 0] else []
def iN (ms:List Nat) (L:List (Nat×List Nat)) (n:Nat):List Nat:=(List.range n).flatMap (uK ms L)
def mD (R:List cO) (s:gX):List Nat:=
 if iN s.2 (aL R s.1).2 (aL R s.1).2.length=[] then (if s.1+1<R.length then [(aL R (s.1+1)).1] else []) else iN s.2 (aL R s.1).2 (aL R s.1).2.length
theorem xw (ms:List Nat) (L:List (Nat×List Nat)) (n:Nat):iN ms L (n+1)=iN ms L n++uK ms L n:=by
 unfold iN;rw [List.range_succ,List.flatMap_append];simp
theorem sM (ms:List Nat) (L:List (Nat×List Nat)) (n:Nat):(iN ms L n).length≤n:=by
 induction n with
 | zero=>simp [iN]
 | succ n ih=>
   rw [xw,List.length_append];have:(uK ms L n).length≤1:=by unfold uK;split <;> simp
   omega
theorem zO (R:List cO) (s:gX):(mD R s).length≤(aL R s.1).2.length+1:=by
 unfold mD
 split
 ·split <;> simp
 ·have:=sM s.2 (aL R s.1).2 (aL R s.1).2.length;omega
def sN (K:Nat→Nat) (F Bg:Nat→List Nat) (R:List cO) (s:gX):List Nat:=(mD R s).flatMap fun x=>(Bg x).filter fun c=>(iw K F R s c).isSome
def sO (R:List cO) (s:gX):Nat:=eB (R.take s.1)+sI (oG (aL R s.1)) (nz s.2) (oG (aL R s.1)).length
theorem gZ (r:cO):(oG r).length=r.2.length:=by simp [oG]
theorem MN {r:cO} {i:Nat} (hi:i<r.2.length):(oG r)[i]'(by rw [gZ];exact hi)=r.2[i].2.length+1:=by simp [oG]
theorem uM (r:cO):∀b∈oG r,1≤b:=by
 intro b hb;obtain ⟨x,_,rfl⟩:=List.mem_map.1 hb;exact Nat.le_add_left _ _
theorem wh (r:cO):Aq r=aX (oG r):=(IL _).symm
theorem I6 (r:cO) (R:List cO):eB (r::R)=Aq r+eB R:=by simp [eB]
theorem pV {R:List cO} {k:Nat} (hk:k<R.length):eB (R.take (k+1))=eB (R.take k)+Aq R[k]:=by
 unfold eB;rw [List.take_succ_eq_append_getElem hk,List.map_append,List.sum_append];simp
theorem jH (R:List cO) (k:Nat):eB (R.take k)≤eB R:=by
 conv=>rhs;rw [←List.take_append_drop k R]
 unfold eB;rw [List.map_append,List.sum_append];omega
theorem MO (r:cO):1≤Aq r:=by rw [wh];exact j_ (uM r)
theorem jG.vld {R:List cO} {s:gX} (h:jG R s):uJ (oG (aL R s.1)) (nz s.2)=true:=by
 rw [nk];refine ⟨by rw [jd,gZ];exact h.len,fun j h1 h2=>?_⟩;rw [jd] at h1;rw [gZ] at h2;have:=h.le j h1 h2;rw [MN h2];simp only [nz,List.getElem_map];omega
theorem VJ {R:List cO} {s:gX} (h:jG R s):sI (oG (aL R s.1)) (nz s.2) (oG (aL R s.1)).length<Aq (aL R s.1):=by
 have hv:=(nk _ _).1 h.vld;have:=Eu (bs:=oG (aL R s.1)) (l:=nz s.2) (oG (aL R s.1)).length (Nat.le_refl _) (Nat.le_of_eq hv.1.symm) (fun t h1 h2 _=>hv.2 t h1 h2);rw [List.drop_length] at this;rw [wh];simp only [aX,Nat.mul_one] at this;exact this
theorem MQ {R:List cO} {s:gX} (h:jG R s):sO R s<eB R:=by
 have h1:=VJ h;have h2:=pV h.lt;have h3:=jH R (s.1+1);rw [←dR h.lt] at h2;unfold sO;omega
def EO:List cO→Nat→gX
 | [],_=>(0,[])
 | r::R,i=>if i<Aq r then (0,EJ (oG r) i) else ((EO R (i-Aq r)).1+1,(EO R (i-Aq r)).2)
theorem Sr:∀{R:List cO} {i k:Nat} (hk:k<R.length),eB (R.take k)≤i→i-eB (R.take k)<Aq R[k]→EO R i=(k,EJ (oG R[k]) (i-eB (R.take k)))
 | [],_,_,hk,_,_=>absurd hk (by simp)
 | r::R,i,0,_,_,h2=>by
   simp only [List.take_zero,List.getElem_cons_zero] at h2 ⊢;have:eB []=0:=rfl;rw [this] at h2 ⊢;rw [Nat.sub_zero] at h2 ⊢;show (if i<Aq r then _ else _)=_;rw [if_pos h2]
 | r::R,i,k+1,hk,h1,h2=>by
   simp only [List.take_succ_cons,List.getElem_cons_succ,I6] at h1 h2 ⊢;have hr:¬i<Aq r:=by omega
   show (if i<Aq r then _ else _)=_;rw [if_neg hr];rw [Sr (R:=R) (i:=i-Aq r) (k:=k) (by simpa using hk) (by omega) (by rw [show i-Aq r-eB (R.take k)=i-(Aq r+eB (R.take k)) by omega];exact h2)];rw [show i-Aq r-eB (R.take k)=i-(Aq r+eB (R.take k)) by omega]
theorem EP:∀{R:List cO} {i:Nat},i<eB R→jG R (EO R i)
 | [],i,h=>absurd h (by simp [eB])
 | r::R,i,h=>by
   rw [I6] at h;unfold EO;by_cases hi:i<Aq r
   ·rw [if_pos hi];rw [wh] at hi;refine ⟨by simp,?_,fun j a b=>?_⟩
    ·show (EJ (oG r) i).length=r.2.length;rw [sK,gZ]
    ·have hb:j<r.2.length:=b;have:=YQ (bs:=oG r) (i:=i) (j:=j) (by rw [gZ];exact hb) (uM r) hi;rw [MN hb] at this;exact Nat.le_of_lt_succ this
   ·rw [if_neg hi];have ih:=EP (R:=R) (i:=i-Aq r) (by omega);have e:aL (r::R) ((EO R (i-Aq r)).1+1)=aL R (EO R (i-Aq r)).1:=rfl;refine ⟨by simpa using ih.lt,?_,fun j a b=>?_⟩
    ·rw [e];exact ih.len
    ·have:=ih.le j a (by rw [e] at b;exact b);exact this
def uN (R:List cO) (opt:gX→List Nat) (xP:gX→Nat→Option gX) (l:List Nat) (i:Nat):Nat:=
 if IY R (EO R i)=true then 1 else ((opt (EO R i)).map fun c=>(match xP (EO R i) c with|some s=>l.getD (sO R s) 0|none=>0)).sum
def pW (R:List cO) (opt:gX→List Nat) (xP:gX→Nat→Option gX) (n:Nat):Nat→List Nat
 | 0=>List.replicate n 0
 | j+1=>(pW R opt xP n j).set (n-1-j) (uN R opt xP (pW R opt xP n j) (n-1-j))
theorem Pk (R:List cO) (opt:gX→List Nat) (xP:gX→Nat→Option gX) (n j:Nat):(pW R opt xP n j).length=n:=by
 induction j with
 | zero=>simp [pW]
 | succ j ih=>rw [pW,List.length_set,ih]
theorem ER {α:Type} (f:α→Nat) (b:Nat):∀(l:List α),(∀x∈l,f x≤b)→(l.map f).sum≤l.length*b
 | [],_=>by simp
 | x::l,h=>by
   have ih:=ER f b l fun y hy=>h y (.tail _ hy);have h1:=h x (.head _);rw [List.map_cons,List.sum_cons,List.length_cons,Nat.succ_mul];omega
theorem one_le_pow {M:Nat} (h:1≤M) (j:Nat):1≤M ^ j:=Nat.pow_pos h
theorem I7 {R:List cO} {opt:gX→List Nat} {xP:gX→Nat→Option gX} {l:List Nat} {i M P:Nat} (hM:1≤M) (hP:1≤P) (ho:(opt (EO R i)).length≤M) (hl:∀x∈l,x≤P):uN R opt xP l i≤M*P:=by
 have h1:1≤M*P:=Nat.mul_pos hM hP;unfold uN
 split
 ·exact h1
 ·refine Nat.le_trans (ER _ P _ fun c _=>?_) (Nat.mul_le_mul_right P ho)
  split
  ·rename_i s _;rw [List.getD_eq_getElem?_getD];by_cases hk:sO R s<l.length
   ·rw [List.getElem?_eq_getElem hk];exact hl _ (List.getElem_mem hk)
   ·rw [List.getElem?_eq_none (by omega)];exact Nat.zero_le _
  ·exact Nat.zero_le _
theorem I8 {R:List cO} {opt:gX→List Nat} {xP:gX→Nat→Option gX} {M:Nat} (hM:1≤M) (ho:∀i,i<eB R→(opt (EO R i)).length≤M):∀j,j≤eB R→∀x∈pW R opt xP (eB R) j,x≤M ^ j
 | 0,_,x,hx=>by
   rw [pW] at hx;rw [List.eq_of_mem_replicate hx];exact Nat.zero_le _
 | j+1,hj,x,hx=>by
   have ih:=I8 (xP:=xP) hM ho j (by omega);rw [pW] at hx;rcases List.mem_or_eq_of_mem_set hx with h|rfl
   ·exact Nat.le_trans (ih x h) (Nat.pow_le_pow_right hM (Nat.le_succ j))
   ·have:=I7 (R:=R) (opt:=opt) (xP:=xP) (i:=eB R-1-j) hM (one_le_pow hM j) (ho _ (by omega)) ih
    rwa [Nat.pow_succ,Nat.mul_comm]
def zP (w:World) (v:Value) (s:gX):Prop:=MM w v s.1 (nz s.2)
theorem zP.mono {w w':World} {v:Value} {s:gX} (h:zP w v s) (hb:Below w.heap.size w w'):zP w' v s:=MM.mono h hb
def EU (w:World) (v:Value) (R:List cO) (k:Nat):Prop:=
 ∃la lc x1 m1 y1 x2 m2 y2 z f,v=.agg #[.int .i32 (aL R k).1,.slice la (aL R k).2.length lc,.slice x1 m1 y1,.slice x2 m2 y2,.int .i64 z,.int .i64 f]∧Lb w (.slice la (aL R k).2.length lc) (aL R k).2∧
  fO w (.agg #[.slice x1 m1 y1,.slice x2 m2 y2,.int .i64 z]) (oG (aL R k))∧f=(eB (R.take k):Nat)
theorem EU.run {w:World} {v:Value} {R:List cO} {k:Nat} (h:EU w v R k):abX w v (aL R k):=by
 obtain ⟨la,lc,x1,m1,y1,x2,m2,y2,z,f,hv,hl,_⟩:=h;exact ⟨_,x1,m1,y1,x2,m2,y2,z,f,hv,hl⟩
theorem EU.mono {w w':World} {v:Value} {R:List cO} {k:Nat} (h:EU w v R k) (hb:Below w.heap.size w w'):EU w' v R k:=by
 obtain ⟨la,lc,x1,m1,y1,x2,m2,y2,z,f,hv,hl,hr,hf⟩:=h;exact ⟨la,lc,x1,m1,y1,x2,m2,y2,z,f,hv,hl.mono hb,hr.mono hb,hf⟩
theorem Sm.at_ {w:World} {p dp:Nat} {rs:List cO} {g rc:Nat} {iC:Value} {small:Bool} {Es:List oF} (h:Sm w p dp rs g rc iC small Es) (hsm:eB rs≤16384) {k:Nat} (hk:k<rs.length) :
 ∃la lc x1 m1 y1 x2 m2 y2 z f,(∀j<6,w.cell? ⟨g,k*6+j,none⟩=[Value.int .i32 (aL rs k).1,.slice la (aL rs k).2.length lc,.slice x1 m1 y1,.slice x2 m2 y2,.int .i64 z,.int .i64 f][j]?)∧
  Lb w (.slice la (aL rs k).2.length lc) (aL rs k).2∧EU w (.agg #[.int .i32 (aL rs k).1,.slice la (aL rs k).2.length lc,.slice x1 m1 y1,.slice x2 m2 y2,.int .i64 z,.int .i64 f]) rs k:=by
 have Xv:k<Es.length:=by rw [←List.length_map (f:=fun e=>bX.sp e.1),h.sp];exact hk
 have hsp:bX.sp Es[k].1=aL rs k:=by rw [dR hk];simp [←h.sp]
 obtain ⟨hr,hf⟩:=h.Vx (by rw [h.le];exact decide_eq_true hsm) k Xv;rw [hsp] at hr;obtain ⟨s1,s2,he,hs1,hs2⟩:=id hr;obtain ⟨x1,y1,rfl,_,_⟩:=bB.out hs1;obtain ⟨x2,y2,rfl,_,_⟩:=bB.out hs2;rw [he] at hr;unfold Sc at he;simp only [Value.agg.injEq,Array.mk.injEq,List.cons.injEq,and_true,Value.int.injEq,true_and] at he;obtain ⟨q1,q2,q3⟩:=he;obtain ⟨la,lc,hv⟩:=h.sl _ (List.getElem_mem Xv);have hn:Es[k].1.2.2.length=(aL rs k).2.length:=by rw [←hsp];simp [bX.sp]
 have hh:Es[k].1.1=(aL rs k).1:=by rw [←hsp];rfl
 have hL:Lb w (.slice la (aL rs k).2.length lc) (aL rs k).2:=by
  refine ⟨la,lc,rfl,fun i hi=>?_⟩;have hi':i<Es[k].1.2.2.length:=by omega
  obtain ⟨lg,_,h1,h2,h3⟩:=h.lane _ (List.getElem_mem Xv) i hi';have h4:=h.marks _ (List.getElem_mem Xv) _ (List.getElem_mem hi');have h5:(aL rs k).2[i]=((Es[k].1.2.2[i]).1,(Es[k].1.2.2[i]).2.2):=by
   have:(aL rs k).2=Es[k].1.2.2.map dU.sp:=by rw [←hsp];rfl
   simp only [this,List.getElem_map];rfl
  obtain ⟨va,vc,h6,_,_⟩:=bB.out h4;rw [bA] at h6;rw [h6] at h4 h3;rw [hv] at h1;have h7:la=some ⟨lg,0,none⟩:=by injection h1
  refine ⟨lg,va,vc,h7,?_,?_,?_⟩
  ·rw [h5];exact h2
  ·rw [h5];exact h3
  ·rw [h5];exact h4
 refine ⟨la,lc,x1,_,y1,x2,_,y2,_,_,fun j hj=>?_,hL,la,lc,x1,_,y1,x2,_,y2,_,_,rfl,hL,hr,hf⟩;rw [h.run k Xv j hj];unfold lV;rw [q1,q2,q3,hv,hn,hh]
theorem pX {w:World} {B p dp:Nat} {K:Nat→Nat} {l:List Nat} (h:eO w B p dp K l) (hl:l.length<9000) (hsm:eB (bu K l)≤16384) {v:Value} {s:gX} (hs:zP w v s) (ho:jG (bu K l) s) :
 Calls Tryz.prog 132 #[.pointer (some ⟨p,0,none⟩),v] w fun e w'=>∃rv,e=.returned (.tuple #[rv,.bool true])∧EU w' rv (bu K l) s.1∧Below w.heap.size w w':=by
 have hF:=eZ K l;obtain ⟨R,hR0⟩:=ae (bu K l);obtain ⟨g,rc,iC,small,Es,hR⟩:=h.read;rw [←hR0] at hF hR hsm ho ⊢;obtain ⟨sv,rfl,hsv⟩:=hs;obtain ⟨la,lc,x1,m1,y1,x2,m2,y2,z,f,hc,hL,hW⟩:=hR.at_ hsm ho.lt;obtain ⟨la',Pg,e9,hLk⟩:=id hL;injection e9 with e8 _ e7;subst e8 e7;obtain ⟨sa,sc,rfl,_,hx⟩:=bB.out hsv.any;have hrun:=hF.2.2 _ (show aL R s.1∈R by rw [dR ho.lt];exact List.getElem_mem _);have hlen:(bJ (nz s.2)).length=(aL R s.1).2.length:=by rw [←ho.len];simp [bJ]
 rw [hlen];obtain ⟨m,hm⟩:=ae ((aL R s.1).2.length);obtain ⟨nr,hnr⟩:=ae R.length;obtain ⟨hd,hhd⟩:=ae ((aL R s.1).1);rw [←hm] at hc hW hlen ⊢;rw [←hhd] at hc hW;have hIs:=hR.is;rw [←hnr] at hIs;obtain ⟨k,hk⟩:=ae s.1;rw [←hk] at hc;have hlt:k<nr:=by rw [hk,hnr];exact ho.lt
 have VK:nr<10000:=by rw [hnr];have:=hF.2.1;omega
 have X7:m<10000:=by rw [hm];have:=hrun.1;omega
 rw [show ((s.1:Nat):Int)=(k:Int) by rw [hk]];have HL:=aa hLk;have HX:=aa hx;have HO:=aa ho;have HM:=aa hm;have HLEN:=aa hlen;have HR:=aa hrun;have d0:w.cell? ⟨g,k*6,none⟩=some (.int .i32 hd):=hc 0 (by decide);have d1:w.cell? ⟨g,k*6+1,none⟩=some (.slice la m lc):=hc 1 (by decide);have d2:w.cell? ⟨g,k*6+2,none⟩=some (.slice x1 m1 y1):=hc 2 (by decide);have d3:w.cell? ⟨g,k*6+3,none⟩=some (.slice x2 m2 y2):=hc 3 (by decide);have d4:w.cell? ⟨g,k*6+4,none⟩=some (.int .i64 z):=hc 4 (by decide);have d5:w.cell? ⟨g,k*6+5,none⟩=some (.int .i64 f):=hc 5 (by decide);have HW:=aa hW;clear h hR hsv hx hc hL hLk hW ho hF hrun hm hlen hk hhd hnr hR0;obtain ⟨w2,hw2⟩:=ae ((w.alloc (.cells #[.int .i64 k,.slice sa m sc] 199)).alloc (.cells #[.int .i32 0,.slice none 0 0,.slice none 0 0,.slice none 0 0,.int .i64 0,.int .i64 0] d_));have hb:Below w.heap.size w w2:=by rw [hw2];exact ed _ _
 have k1:Is w2 w.heap.size #[.int .i64 k,.slice sa m sc] 199:=by rw [hw2];exact (Is.new _ _ _).mono (af _)
 have k2:Is w2 (w.heap.size+1) #[.int .i32 0,.slice none 0 0,.slice none 0 0,.slice none 0 0,.int .i64 0,.int .i64 0] d_:=by rw [hw2];exact Is.new' _ _ _ _ (by simp)
 have e0:=k1.at 0 rfl;have e1:=k1.at 1 rfl;have p1:=(hIs.mono hb).at 1 rfl;have zk0:decide ((k:Int)<0)=false:=decide_eq_false (by omega);have zk1:decide ((nr:Int)≤(k:Int))=false:=decide_eq_false (by omega);go_enter Tryz.func132,Tryz.ntmps132;go_wp2_with fail;rw [←hw2];clear hw2;go_quiet (fail);go_wp2_with fail;have h23:Below w2.heap.size w2 (w2.drewN nq):=⟨rfl,rfl,rfl,Nat.le_refl _,fun _ _=>rfl⟩;generalize w2.drewN nq=w3 at *;have kY:=hb.trans (h23.mono hb.size);have k1:=k1.mono h23;have k2:=k2.mono h23;have e0:=Gr.cell (ag w3) (k1.at 0 rfl);have p1:=Gr.cell (ag w3) ((hIs.mono kY).at 1 rfl);have d0:=Gr.cell (ag w3) (aA kY d0);have d1:=Gr.cell (ag w3) (aA kY d1);have d2:=Gr.cell (ag w3) (aA kY d2);have d3:=Gr.cell (ag w3) (aA kY d3);have d4:=Gr.cell (ag w3) (aA kY d4);have d5:=Gr.cell (ag w3) (aA kY d5);refine aF #[true,true,true,true,true,true,true,true,true,false] 9 1 mixed (by rfl) ?_;refine ay [0,1,2,3,4,5,6,7] 1 rfl (by kernel_rfl) ?_
 iterate 8 (refine aB rfl ?_;go_big_quiet_step (rfl))
 refine az ?_;refine aI 8 (by kernel_rfl) rfl ?_;go_wp2_with fail;refine aD (af _) ?_;refine aJ [9] (by kernel_rfl) ?_;refine tail_cons rfl ?_;go_wp2_with fail;refine tail_nil ?_;obtain ⟨w4,hw4⟩:=ae ((w3.alloc (.cells #[.int .i32 hd,.slice la m lc,.slice x1 m1 y1,.slice x2 m2 y2,.int .i64 z,.int .i64 f] d_)).drew);have Ug:Below w3.heap.size w3 w4:=by rw [hw4];exact (af _).trans ((ag _).mono (by simp))
 have k3:Is w4 w3.heap.size #[.int .i32 hd,.slice la m lc,.slice x1 m1 y1,.slice x2 m2 y2,.int .i64 z,.int .i64 f] d_:=by rw [hw4];exact (Is.new w3 _ _).mono (ag _)
 have kZ:=kY.trans (Ug.mono kY.size);have k1:=k1.mono Ug;have k2:=k2.mono Ug;have alC:=Ug.size;have hs3:=kY.size;rw [←hw4];have zm:((m:Int)==(m:Int))=true:=by simp
 have e1:=k1.at 1 rfl;have c1:=k3.at 1 rfl;clear hw4 Ug d0 d1 d2 d3 d4 d5 e0 p1 h23;go_wp2_with fail;go_loopw [7,8,42] (fun _ _ iv wr=>∃i:Nat,i≤m∧iv=.int .i64 i∧Below w4.heap.size w4 wr) (fun _ _ iv _=>m-(intOf iv).toNat)
 case atStart=>exact ⟨0,Nat.zero_le _,rfl,Below.refl _ _⟩
 case round=>
  obtain ⟨i,hi,rfl,hE⟩:=hrel;have jI:=kZ.trans (hE.mono kZ.size);by_cases him:i<m
  ·have zi:decide ((i:Int)<(m:Int))=true:=decide_eq_true (by omega);have JL:i<(aL R s.1).2.length:=by have:=HM.out;omega
   have hii:i<s.2.length:=by rw [HO.out.len];exact JL
   have UX:i<(bJ (nz s.2)).length:=by have:=HLEN.out;omega
   obtain ⟨b,off,rfl,_,c0⟩:=HX.out i UX;obtain ⟨lg,va,vc,rfl,_,l1,_⟩:=HL.out i JL;rw [show (bJ (nz s.2))[i]=.int .i64 ((s.2[i]:Nat):Int) by simp [bJ,nz]] at c0;obtain ⟨mi,yh⟩:=ae (s.2[i]);obtain ⟨xl,hxl⟩:=ae ((aL R s.1).2[i].2.length);have hle:mi≤xl:=by rw [yh,hxl];exact HO.out.le i hii JL
   rw [←yh] at c0;rw [←hxl] at l1;have c0:=aA jI c0;have l1:=aA jI l1;have c1:=aA hE c1;clear yh hxl;have z1:decide ((mi:Int)<0)=false:=decide_eq_false (by omega);have z2:decide ((xl:Int)<(mi:Int))=false:=decide_eq_false (by omega);go_wp2_with fail;go_roundw
   case rel=>exact ⟨i+1,by omega,by simp,hE⟩
   case measure=>simp [intOf];omega
  ·have zi:decide ((i:Int)<(m:Int))=false:=decide_eq_false (by omega);obtain rfl:i=m:=by omega
   have k5:=k2.mono hE;have k6:=k3.mono hE;have d0:=k6.at 0 rfl;have d1:=k6.at 1 rfl;have d2:=k6.at 2 rfl;have d3:=k6.at 3 rfl;have d4:=k6.at 4 rfl;have d5:=k6.at 5 rfl;have f0:=k5.at 0 rfl;have f1:=k5.at 1 rfl;have f2:=k5.at 2 rfl;have f3:=k5.at 3 rfl;have f4:=k5.at 4 rfl;have f5:=k5.at 5 rfl;have q0:=k5.frozen 0;have q1:=k5.frozen 1;have q2:=k5.frozen 2;have q3:=k5.frozen 3;have q4:=k5.frozen 4;have q5:=k5.frozen 5;have v0:=(((((k5.set 0 (.int .i32 hd)).set 1 (.slice la i lc)).set 2 (.slice x1 m1 y1)).set 3 (.slice x2 m2 y2)).set 4 (.int .i64 z)).set 5 (.int .i64 f);have g0:=v0.at 0 rfl;have g1:=v0.at 1 rfl;have g2:=v0.at 2 rfl;have g3:=v0.at 3 rfl;have g4:=v0.at 4 rfl;have g5:=v0.at 5 rfl;have hfin:=aa (aj (off:=5) (u:=.int .i64 f) (aj (off:=4) (u:=.int .i64 z) (aj (off:=3) (u:=.slice x2 m2 y2) (aj (off:=2) (u:=.slice x1 m1 y1) (aj (off:=1) (u:=.slice la i lc) (aj (off:=0) (u:=.int .i32 hd) (b:=w.heap.size+1) jI (by omega)) (b:=w.heap.size+1) (by omega)) (b:=w.heap.size+1) (by omega)) (b:=w.heap.size+1) (by omega)) (b:=w.heap.size+1) (by omega)) (b:=w.heap.size+1) (by omega));clear k5 k6 v0 k1 k2 k3 c1 e1;go_wp2_with fail;exact bodyPost_ret (v:=.tuple #[.agg #[.int .i32 hd,.slice la i lc,.slice x1 m1 y1,.slice x2 m2 y2,.int .i64 z,.int .i64 f],.bool true]) (by simp [results,Tryz.results132,go_sem,g0,g1,g2,g3,g4,g5]) rfl ⟨_,rfl,HW.out.mono hfin.out,hfin.out⟩
theorem Pm {w:World} {B p dp:Nat} {K:Nat→Nat} {l:List Nat} (h:eO w B p dp K l) (hl:l.length<9000) (hsm:eB (bu K l)≤16384) {v:Value} {s:gX} (hs:zP w v s) (ho:jG (bu K l) s) :
 Calls Tryz.prog 97 #[.pointer (some ⟨p,0,none⟩),v] w fun e w'=>e=.returned (.bool (IY (bu K l) s))∧Below w.heap.size w w':=by
 obtain ⟨k,ms⟩:=s;have hF:=eZ K l;obtain ⟨g,rc,iC,small,Es,hR⟩:=h.read;obtain ⟨sv,rfl,hsv⟩:=id hs;obtain ⟨sa,sc,rfl,_,_⟩:=bB.out hsv.any;obtain ⟨m,hm⟩:=ae ((bJ (nz ms)).length);dsimp only at hs hsv ⊢;rw [←hm] at hs hsv ⊢;have hb0:=af (w:=w) (.cells #[.int .i64 (k:Nat),.slice sa m sc] 199);have RU:=aa (pX (h.mono hb0) hl hsm (hs.mono hb0) ho);have hrun:=hF.2.2 _ (show aL (bu K l) k∈bu K l by rw [dR ho.lt];exact List.getElem_mem _);have WH:=aa (fun (W:World) (E:Below w.heap.size w W) (rv:Value) (hr:EU W rv (bu K l) k)=>zN hr.run (hs.mono E) (by rw [jd];exact ho.len) (by have:=hrun.1;omega) (fun x hx=>by have:=hrun.2 x hx;omega));have hov:IY (bu K l) (k,ms)=(decide (k+1=(bu K l).length)&&mq (nz ms) (aL (bu K l) k).2):=rfl;rw [hov];dsimp only at RU WH;obtain ⟨R,hR0⟩:=ae (bu K l);rw [←hR0] at hF hR RU WH ho ⊢;obtain ⟨wb,hwb⟩:=ae (mq (nz ms) (aL R k).2);rw [←hwb] at WH ⊢;obtain ⟨nr,hnr⟩:=ae R.length;have hIs:=hR.is;rw [←hnr] at hIs ⊢;have hlt:k<nr:=by rw [hnr];exact ho.lt
 have VK:nr<10000:=by rw [hnr];have:=hF.2.1;omega
 clear h hR hsv hs hm hF hrun hwb hnr hR0 ho hov;go_enter Tryz.func97,Tryz.ntmps97;go_wp2_with fail;refine RU.out.mono ?_;rintro e w1 ⟨rv,rfl,hW,hb1⟩;obtain ⟨la,lc,x1,m1,y1,x2,m2,y2,z,f,rfl,hL,YR⟩:=id hW;clear YR;obtain ⟨n,hn⟩:=ae ((aL R k).2.length);obtain ⟨hd,hhd⟩:=ae ((aL R k).1);rw [←hn,←hhd] at hW ⊢;have hB1:=hb0.trans (hb1.mono hb0.size);have k0:=(Is.new w #[.int .i64 (k:Nat),.slice sa m sc] 199).mono hb1;obtain ⟨w2,hw2⟩:=ae (w1.alloc (.cells #[.int .i32 hd,.slice la n lc,.slice x1 m1 y1,.slice x2 m2 y2,.int .i64 z,.int .i64 f] d_));have hb2:Below w1.heap.size w1 w2:=by rw [hw2];exact af _
 have k2:Is w2 w1.heap.size #[.int .i32 hd,.slice la n lc,.slice x1 m1 y1,.slice x2 m2 y2,.int .i64 z,.int .i64 f] d_:=by rw [hw2];exact Is.new _ _ _
 have hB2:=hB1.trans (hb2.mono hB1.size);have k0:=k0.mono hb2;clear hL hn hhd RU;go_wp2_with fail;rw [←hw2];have hW:=(hW.mono hb2).mono (ag w2);have WC:=aa (WH.out w2.drew (hB2.trans ((ag w2).mono hB2.size)) _ hW);have pm:=Gr.cell (ag w2) ((hIs.mono hB2).at 1 rfl);have e0:=Gr.cell (ag w2) (k0.at 0 rfl);have e1:=Gr.cell (ag w2) (k0.at 1 rfl);have d0:=Gr.cell (ag w2) (k2.at 0 rfl);have d1:=Gr.cell (ag w2) (k2.at 1 rfl);have d2:=Gr.cell (ag w2) (k2.at 2 rfl);have d3:=Gr.cell (ag w2) (k2.at 3 rfl);have d4:=Gr.cell (ag w2) (k2.at 4 rfl);have d5:=Gr.cell (ag w2) (k2.at 5 rfl);clear hw2 WH hW hIs k0 k2;by_cases hq:k+1=nr
 ·have zq:((k:Int)==(nr:Int)-1)=true:=by simp;omega
  have zd:decide (k+1=nr)=true:=decide_eq_true hq;refine aF (Array.replicate 18 true) 18 0 mixed (by rfl) ?_;refine ay [0,1,2,3,4,5,6,7,8,9,10,11,12,13,14] 3 rfl (by kernel_rfl) ?_
  iterate 15 (refine aB rfl ?_;go_big_quiet_step (rfl))
  refine az ?_;refine aI 15 (by kernel_rfl) rfl ?_;go_wp2_with fail;refine WC.out.mono ?_;rintro e w3 ⟨rfl,hb3⟩;go_wp2_with fail;refine aD hb3 ?_;refine ay [16,17] 0 rfl (by kernel_rfl) ?_
  iterate 2 (refine aB rfl ?_;go_big_quiet_step (rfl))
  refine az ?_;refine aJ [] (by kernel_rfl) ?_;refine tail_nil ?_;go_wp2;go_ret;exact ⟨by rw [zd];rfl,hB2.trans (((ag w2).trans hb3).mono hB2.size)⟩
 ·have zq:((k:Int)==(nr:Int)-1)=false:=beq_eq_false_iff_ne.2 (by omega);have zd:decide (k+1=nr)=false:=decide_eq_false hq;refine aF (Array.replicate 18 true) 18 0 mixed (by rfl) ?_;refine ay [0,1,2,3,4,5,6,7,8,9,10,11,12,13,14] 3 rfl (by kernel_rfl) ?_
  iterate 15 (refine aB rfl ?_;go_big_quiet_step (rfl))
  refine az ?_;refine aI 15 (by kernel_rfl) rfl ?_;go_wp2_with fail;refine aD (Below.refl _ _) ?_;refine ay [16,17] 0 rfl (by kernel_rfl) ?_
  iterate 2 (refine aB rfl ?_;go_big_quiet_step (rfl))
  refine az ?_;refine aJ [] (by kernel_rfl) ?_;refine tail_nil ?_;go_wp2;go_ret;exact ⟨by rw [zd];rfl,hB2.trans ((ag w2).mono hB2.size)⟩
theorem Sl.Lc {e:TypeId} {w w':World} {t:TypeId} {s:Value} {xs:List Value} (h:Sl e w s xs) (hc:bD w w' t) (hne:e≠t):Sl e w' s xs:=by
 obtain ⟨a,cap,hv,hcap,hx⟩:=h;refine ⟨a,cap,hv,hcap,hx.imp id ?_⟩;rintro ⟨b,off,cs,fr,ha,hh,hx⟩;exact ⟨b,off,cs,fr,ha,(hc.keep b (block_lt hh) (fun ⟨cs',h2⟩=>hne (by rw [hh] at h2;injection h2 with h2;injection h2))).trans hh,hx⟩
theorem MM.Lc {w w':World} {t:TypeId} {v:Value} {h:Int} {ms:List Int} (k:MM w v h ms) (hc:bD w w' t) (hne:bq≠t):MM w' v h ms:=by
 obtain ⟨sv,hv,hs⟩:=k;exact ⟨sv,hv,Go.Proofs.YtmpkfkoficehpaaGreatDoor.Sl.Lc hs hc hne⟩
def CW (e:Ending) (w:World):Option gX→Prop
 | some s=>∃v,e=.returned (.tuple #[v,.bool true])∧zP w v s
 | none=>e=.returned (.tuple #[.agg #[.int .i64 0,.slice none 0 0],.bool false])
theorem Ld {w:World} {B p dp:Nat} {T:List aH} {X:List Nat} {l:List Nat} (hD:b_ w dp T X) (hV:aY T X) (h:eO w B p dp (ai T) l) (hl:l.length<9000) (hsm:eB (bu (ai T) l)≤16384) {v:Value} {s:gX} (hs:zP w v s) (ho:jG (bu (ai T) l) s) (c:Nat) (hc:c<1114112) (h0:ai T c=0) :
 Calls Tryz.prog 136 #[.pointer (some ⟨p,0,none⟩),v,.int .i32 c] w fun e w'=>CW e w' (nA (ai T) (bu (ai T) l) s c)∧Below w.heap.size w w':=by
 obtain ⟨k,ms⟩:=s;have hF:=eZ (ai T) l;obtain ⟨g,rc,iC,small,Es,hR⟩:=h.read;obtain ⟨sv,rfl,hsv⟩:=id hs;obtain ⟨sa,sc,rfl,_,_⟩:=bB.out hsv.any;obtain ⟨m,hm⟩:=ae ((bJ (nz ms)).length);dsimp only at hs hsv ⊢;rw [←hm] at hs hsv ⊢;have hb0:=ed (w:=w) (.cells #[.int .i64 (k:Nat),.slice sa m sc] 199) (.cells #[.int .i64 0,.slice none 0 0] 199);have RU:=aa (pX (h.mono hb0) hl hsm (hs.mono hb0) ho);have hrun:=hF.2.2 _ (show aL (bu (ai T) l) k∈bu (ai T) l by rw [dR ho.lt];exact List.getElem_mem _);have WH:=aa (fun (W:World) (E:Below w.heap.size w W) (rv:Value) (hr:EU W rv (bu (ai T) l) k)=>zN hr.run (hs.mono E) (by rw [jd];exact ho.len) (by have:=hrun.1;omega) (fun x hx=>by have:=hrun.2 x hx;omega));have CL:=aa (fun (W:World) (E:Below w.heap.size w W)=>ik (hD.mono E) hV c hc);rw [h0] at CL;have AT:∀(W:World),Below w.heap.size w W→k+1<(bu (ai T) l).length→Calls Tryz.prog 173 #[.pointer (some ⟨p,0,none⟩),.int .i64 ((k:Int)+1)] W fun e w'=>∃v,e=.returned v∧MM w' v ((k+1:Nat):Int) (List.replicate (aL (bu (ai T) l) (k+1)).2.length 0)∧Below W.heap.size W w':=fun W E hk=>by
  rw [dR hk,show (k:Int)+1=((k+1:Nat):Int) by omega];exact VG (h.mono E) hl hk
 have AT:=aa AT;have hov:nA (ai T) (bu (ai T) l) (k,ms) c=if mq (nz ms) (aL (bu (ai T) l) k).2=true∧k+1<(bu (ai T) l).length∧(aL (bu (ai T) l) (k+1)).1=c then some (k+1,List.replicate (aL (bu (ai T) l) (k+1)).2.length 0) else none:=by unfold nA;rw [if_pos h0]
 rw [hov];dsimp only at RU WH;obtain ⟨R,hR0⟩:=ae (bu (ai T) l);have hT1:k+1<R.length→∃la lc x1 m1 y1 x2 m2 y2 z f,∀j<6,w.cell? ⟨g,(k+1)*6+j,none⟩=[Value.int .i32 (aL R (k+1)).1,.slice la (aL R (k+1)).2.length lc,.slice x1 m1 y1,.slice x2 m2 y2,.int .i64 z,.int .i64 f][j]?:=fun hk=>by
  rw [hR0] at hk ⊢;obtain ⟨la,lc,x1,m1,y1,x2,m2,y2,z,f,hc,_⟩:=hR.at_ hsm hk;exact ⟨la,lc,x1,m1,y1,x2,m2,y2,z,f,hc⟩
 simp only [←hR0] at hF hR RU WH ho AT ⊢;obtain ⟨wb,hwb⟩:=ae (mq (nz ms) (aL R k).2);rw [←hwb] at WH ⊢;obtain ⟨nr,hnr⟩:=ae R.length;have hIs:=hR.is;have hlt:k<nr:=by rw [hnr];exact ho.lt
 have VK:nr<10000:=by rw [hnr];have:=hF.2.1;omega
 simp only [←hnr] at hIs hT1 AT ⊢;have HT1:=aa hT1;obtain ⟨res,hres⟩:∃res:Option gX,res=if wb=true∧k+1<nr∧(aL R (k+1)).1=c then some (k+1,List.replicate (aL R (k+1)).2.length 0) else none:=⟨_,rfl⟩;rw [←hres];have pY:=aa hres;clear hres;clear h hR hsv hs hm hF hrun hwb hnr hR0 ho hov hD hT1;go_enter Tryz.func136,Tryz.ntmps136;go_wp2_with fail;refine RU.out.mono ?_;rintro e w1 ⟨rv,rfl,hW,hb1⟩;obtain ⟨la,lc,x1,m1,y1,x2,m2,y2,z,f,rfl,hL,YR⟩:=id hW;clear YR;obtain ⟨n,hn⟩:=ae ((aL R k).2.length);obtain ⟨hd,hhd⟩:=ae ((aL R k).1);rw [←hn,←hhd] at hW ⊢;have hB1:=hb0.trans (hb1.mono hb0.size);have k0:Is w1 w.heap.size #[.int .i64 (k:Nat),.slice sa m sc] 199:=((Is.new w _ _).mono (af _)).mono hb1;have k1:Is w1 (w.heap.size+1) #[.int .i64 0,.slice none 0 0] 199:=(Is.new' _ _ _ _ (by simp)).mono hb1;obtain ⟨w2,hw2⟩:=ae (w1.alloc (.cells #[.int .i32 hd,.slice la n lc,.slice x1 m1 y1,.slice x2 m2 y2,.int .i64 z,.int .i64 f] d_));have hb2:Below w1.heap.size w1 w2:=by rw [hw2];exact af _
 have k2:Is w2 w1.heap.size #[.int .i32 hd,.slice la n lc,.slice x1 m1 y1,.slice x2 m2 y2,.int .i64 z,.int .i64 f] d_:=by rw [hw2];exact Is.new _ _ _
 have hB2:=hB1.trans (hb2.mono hB1.size);have k0:=k0.mono hb2;have k1:=k1.mono hb2;have hW:=hW.mono hb2;have Xo:=aa (CL.out w2 hB2);have p0:=(hIs.mono hB2).at 0 rfl;rw [hw2] at p0;clear hL hn hhd RU CL;go_wp2_with fail;rw [←hw2];clear hw2 p0;refine Xo.out.mono ?_;rintro e w3 ⟨rfl,hb3⟩;have hs2:=hB2.size;have hB3:=hB2.trans (hb3.mono hs2);have k0:=k0.mono hb3;have k1:=k1.mono hb3;have k2:=k2.mono hb3;have hs3:=hB3.size;have hW:=(hW.mono hb3).mono (ag w3);have hBd:=hB3.trans ((ag w3).mono hs3);have WC:=aa (WH.out w3.drew hBd _ hW);have pm:=Gr.cell (ag w3) ((hIs.mono hB3).at 1 rfl);have e0:=Gr.cell (ag w3) (k0.at 0 rfl);have e1:=Gr.cell (ag w3) (k0.at 1 rfl);have d0:=Gr.cell (ag w3) (k2.at 0 rfl);have d1:=Gr.cell (ag w3) (k2.at 1 rfl);have d2:=Gr.cell (ag w3) (k2.at 2 rfl);have d3:=Gr.cell (ag w3) (k2.at 3 rfl);have d4:=Gr.cell (ag w3) (k2.at 4 rfl);have d5:=Gr.cell (ag w3) (k2.at 5 rfl);clear WH Xo;go_wp2_with fail;refine aF (Array.replicate 29 true) 29 0 mixed (by rfl) ?_;refine ay [0,1] 27 rfl (by kernel_rfl) ?_
 iterate 2 (refine aB rfl ?_;go_big_quiet_step (rfl))
 refine az ?_;refine aI 2 (by kernel_rfl) rfl ?_;go_wp2_with fail;refine WC.out.mono ?_;rintro e w4 ⟨rfl,hb4⟩;go_wp2_with fail;refine aD hb4 ?_;have Ug:Below w3.heap.size w3 w4:=(ag w3).trans hb4;have hB4:=hB3.trans (Ug.mono hs3);have hs4:=hB4.size;have k1:=k1.mono Ug;have pm:=Gr.cell (Below.refl _ w4) ((hIs.mono hB4).at 1 rfl);have e0:=Gr.cell Ug (k0.at 0 rfl);have f0:=k1.at 0 rfl;have f1:=k1.at 1 rfl;have q0:=k1.frozen 0;have q1:=k1.frozen 1;have v0:=(k1.set 0 (.int .i64 0)).set 1 (.slice none 0 0);have g0:=v0.at 0 rfl;have g1:=v0.at 1 rfl;have hfin:=aa (aj (off:=1) (u:=.slice none 0 0) (b:=w.heap.size+1) (aj (off:=0) (u:=.int .i64 0) (b:=w.heap.size+1) hB4 (by omega)) (by omega));clear v0 d0 d1 d2 d3 d4 d5 e1 k2 WC hBd hW;by_cases hw:wb=true
 ·subst hw;by_cases hq:k+1<nr
  ·obtain ⟨la2,lc2,x12,m12,y12,x22,m22,y22,z2,f2,hc2⟩:=HT1.out hq;obtain ⟨hd2,Le⟩:=ae ((aL R (k+1)).1);rw [←Le] at hc2;have d0:=hc2 0 (by decide);simp only [Nat.add_zero,List.getElem?_cons_zero] at d0;have d0:=Gr.cell hB4 d0;have HD2:=aa Le;clear hc2 Le;have zq:((k:Int)+1==(nr:Int))=false:=beq_eq_false_iff_ne.2 (by omega);by_cases hh:hd2=c
   ·have zh:((hd2:Int)==(c:Int))=true:=by simp;omega
    have hov:res=some (k+1,List.replicate (aL R (k+1)).2.length 0):=by rw [pY.out];exact if_pos ⟨rfl,hq,by rw [←HD2.out];exact hh⟩
    have MR:=aa hov;clear hov g0 g1 hfin;have AT4:=aa (AT.out w4 hB4 hq);have e0':=k0.mono Ug |>.at 0 rfl;obtain ⟨j,hj⟩:∃j:Nat,j=k+1:=⟨_,rfl⟩;rw [←hj] at AT4 MR;clear hh hj;refine ay [3,4,5,6,7,8,9,10,11,12,13,14,15,16,17,18,19,20,21,22,23,24,25,26,27,28] 0 rfl (by kernel_rfl) ?_;refine a_ ?_
    iterate 26 (refine aS rfl ?_)
    refine bf ?_
    iterate 26 (go_big_quiet_step (rfl))
    refine az ?_;refine aJ [] (by kernel_rfl) ?_;refine tail_nil ?_;clear f0 f1 q0 q1;go_wp2_with fail;refine AT4.out.mono ?_;rintro e w5 ⟨v5,rfl,hS5,hb5⟩;obtain ⟨sv5,rfl,hs5⟩:=id hS5;obtain ⟨a5,c5,rfl,_,_⟩:=bB.out hs5.any;obtain ⟨n5,hn5⟩:=ae ((bJ (List.replicate (aL R j).2.length 0)).length);rw [←hn5] at hS5 ⊢;have k1:=k1.mono hb5;have f0:=k1.at 0 rfl;have f1:=k1.at 1 rfl;have q0:=k1.frozen 0;have q1:=k1.frozen 1;have v0:=(k1.set 0 (.int .i64 (j:Int))).set 1 (.slice a5 n5 c5);have g0:=v0.at 0 rfl;have g1:=v0.at 1 rfl;have rZ:=hB4.trans (hb5.mono hs4);have hfx:=aj (off:=1) (u:=.slice a5 n5 c5) (b:=w.heap.size+1) (aj (off:=0) (u:=.int .i64 (j:Int)) (b:=w.heap.size+1) rZ (by omega)) (by omega);have HS5:=aa ((hS5.Lc (bD.put (o:=0) k1 (.int .i64 (j:Int))) (by decide)).Lc (bD.put (o:=1) (k1.set 0 (.int .i64 (j:Int))) (.slice a5 n5 c5)) (by decide));clear v0 hs5 hn5 hS5;go_wp2_with fail;refine bodyPost_ret (v:=.tuple #[.agg #[.int .i64 (j:Int),.slice a5 n5 c5],.bool true]) (by simp [results,Tryz.results136,go_sem,g0,g1]) rfl ⟨?_,hfx⟩;rw [MR.out];refine ⟨_,rfl,?_⟩;have:=HS5.out;unfold zP;simpa [nz] using this
   ·have zh:((hd2:Int)==(c:Int))=false:=beq_eq_false_iff_ne.2 (by omega);have hov:res=none:=by rw [pY.out];exact if_neg fun e=>hh (by rw [HD2.out];exact e.2.2)
    clear hh;refine ay [3,4,5,6,7,8,9,10,11,12,13,14,15,16,17,18,19,20,21,22,23,24,25,26,27,28] 0 rfl (by kernel_rfl) ?_;refine a_ ?_
    iterate 26 (refine aS rfl ?_)
    refine bf ?_
    iterate 26 (go_big_quiet_step (rfl))
    refine az ?_;refine aJ [] (by kernel_rfl) ?_;refine tail_nil ?_;go_wp2_with fail;exact bodyPost_ret (v:=.tuple #[.agg #[.int .i64 0,.slice none 0 0],.bool false]) (by simp [results,Tryz.results136,go_sem,g0,g1]) rfl ⟨by first|rfl|(rw [hov];rfl),hfin.out⟩
  ·have hov:res=none:=by rw [pY.out];exact if_neg fun e=>hq e.2.1
   have zq:((k:Int)+1==(nr:Int))=true:=by simp;omega
   refine ay [3,4,5,6,7,8,9,10,11,12,13,14,15,16,17,18,19,20,21,22,23,24,25,26,27,28] 0 rfl (by kernel_rfl) ?_;refine a_ ?_
   iterate 26 (refine aS rfl ?_)
   refine bf ?_
   iterate 26 (go_big_quiet_step (rfl))
   refine az ?_;refine aJ [] (by kernel_rfl) ?_;refine tail_nil ?_;go_wp2_with fail;exact bodyPost_ret (v:=.tuple #[.agg #[.int .i64 0,.slice none 0 0],.bool false]) (by simp [results,Tryz.results136,go_sem,g0,g1]) rfl ⟨by first|rfl|(rw [hov];rfl),hfin.out⟩
 ·have hwf:wb=false:=by simpa using hw
  have hov:res=none:=by rw [pY.out];exact if_neg fun e=>hw e.1
  clear hw;subst hwf;refine ay [3,4,5,6,7,8,9,10,11,12,13,14,15,16,17,18,19,20,21,22,23,24,25,26,27,28] 0 rfl (by kernel_rfl) ?_;refine a_ ?_
  iterate 26 (refine aS rfl ?_)
  refine bf ?_
  iterate 26 (go_big_quiet_step (rfl))
  refine az ?_;refine aJ [] (by kernel_rfl) ?_;refine tail_nil ?_;go_wp2_with fail;exact bodyPost_ret (v:=.tuple #[.agg #[.int .i64 0,.slice none 0 0],.bool false]) (by simp [results,Tryz.results136,go_sem,g0,g1]) rfl ⟨by first|rfl|(rw [hov];rfl),hfin.out⟩
theorem Lf {w:World} {B p dp:Nat} {T:List aH} {X:List Nat} {l:List Nat} (hD:b_ w dp T X) (hV:aY T X) (h:eO w B p dp (ai T) l) (hl:l.length<9000) (hsm:eB (bu (ai T) l)≤16384) {v:Value} {s:gX} (hs:zP w v s) (ho:jG (bu (ai T) l) s) (c:Nat) (hc:c<1114112) (h0:ai T c≠0) :
 Calls Tryz.prog 136 #[.pointer (some ⟨p,0,none⟩),v,.int .i32 c] w fun e w'=>CW e w' (nA (ai T) (bu (ai T) l) s c)∧Below w.heap.size w w':=by
 obtain ⟨k,ms⟩:=s;have hF:=eZ (ai T) l;obtain ⟨g,rc,iC,small,Es,hR⟩:=h.read;obtain ⟨sv,rfl,hsv⟩:=id hs;obtain ⟨sa,sc,rfl,_,hx⟩:=bB.out hsv.any;obtain ⟨m,hm⟩:=ae ((bJ (nz ms)).length);dsimp only at hs hsv ⊢;have hm2:m=ms.length:=by rw [hm];simp [bJ]
 rw [←hm] at hs hsv ⊢;have hb0:=ed (w:=w) (.cells #[.int .i64 (k:Nat),.slice sa m sc] 199) (.cells #[.int .i64 0,.slice none 0 0] 199);have RU:=aa (pX (h.mono hb0) hl hsm (hs.mono hb0) ho);have hrun:=hF.2.2 _ (show aL (bu (ai T) l) k∈bu (ai T) l by rw [dR ho.lt];exact List.getElem_mem _);have CL:=aa (fun (W:World) (E:Below w.heap.size w W)=>ik (hD.mono E) hV c hc);have CN:=aa (fun (W:World) (E:Below w.heap.size w W)=>CP (hsv.any.mono E) (by have h1:ms.length=(aL (bu (ai T) l) k).2.length:=ho.len;have h2:=hrun.1;rw [jd];omega));have hov:nA (ai T) (bu (ai T) l) (k,ms) c=((List.range (aL (bu (ai T) l) k).2.length).find? (gY (ai T c) c ms (aL (bu (ai T) l) k).2)).map fun i=>(k,ms.set i (ms.getD i 0+1)):=by unfold nA;rw [if_neg h0]
 rw [hov];dsimp only at RU;have hcl:∀c,ai T c<1000000:=fun c=>by
  unfold ai;cases e:rowOf T c with
  | none=>decide
  | some r=>
    have:=(hV.fine r (gT e).1).2.1;show r.cls<1000000;omega
 have hcl:=hcl c;obtain ⟨kc,hkc⟩:=ae (ai T c);obtain ⟨R,hR0⟩:=ae (bu (ai T) l);simp only [←hR0,←hkc] at hF hR RU ho CL h0 hrun hcl ⊢;obtain ⟨L,hL0⟩:=ae ((aL R k).2);have kX:ms.length=L.length:=by rw [hL0];exact ho.len
 have hle:∀i (a:i<ms.length) (b:i<L.length),ms[i]≤L[i].2.length:=by subst hL0;exact ho.le
 rw [←hL0] at hrun ⊢;have pY:∃res:Option gX,res=((List.range L.length).find? (gY kc c ms L)).map fun i=>(k,ms.set i (ms.getD i 0+1)):=⟨_,rfl⟩;obtain ⟨res,hres⟩:=pY;rw [←hres];have pY:=aa hres;have HX:=aa hx;have Nv:=aa hle;have BR:=aa kX;have Be:=aa hm2;have HL0:=aa hL0;have HRU:=aa hrun;have hIs:=hR.is;have zc:((kc:Int)==0)=false:=beq_eq_false_iff_ne.2 (by omega);have X7:m<10000:=by have:=hrun.1;omega
 clear h hR hsv hs hm hF hrun hR0 ho hov hD hres hx hle kX hm2 hL0 hkc;go_enter Tryz.func136,Tryz.ntmps136;go_wp2_with fail;refine RU.out.mono ?_;rintro e w1 ⟨rv,rfl,hW,hb1⟩;obtain ⟨la,lc,x1,m1,y1,x2,m2,y2,z,f,rfl,hL,YR⟩:=id hW;clear YR hW;rw [←HL0.out] at hL ⊢;obtain ⟨n,hn⟩:=ae L.length;obtain ⟨hd,hhd⟩:=ae ((aL R k).1);obtain ⟨la',Pg,e9,hLk⟩:=hL;injection e9 with e8 _ e7;subst e8 e7;rw [←hn,←hhd];have HN:=aa hn;have YS:=aa hLk;have hB1:=hb0.trans (hb1.mono hb0.size);have Lg:w.heap.size+2≤w1.heap.size:=by have:=hb1.size;simpa using this
 have k0:Is w1 w.heap.size #[.int .i64 (k:Nat),.slice sa m sc] 199:=((Is.new w _ _).mono (af _)).mono hb1;have k1:Is w1 (w.heap.size+1) #[.int .i64 0,.slice none 0 0] 199:=(Is.new' _ _ _ _ (by simp)).mono hb1;obtain ⟨w2,hw2⟩:=ae (w1.alloc (.cells #[.int .i32 hd,.slice la n lc,.slice x1 m1 y1,.slice x2 m2 y2,.int .i64 z,.int .i64 f] d_));have hb2:Below w1.heap.size w1 w2:=by rw [hw2];exact af _
 have k2:Is w2 w1.heap.size #[.int .i32 hd,.slice la n lc,.slice x1 m1 y1,.slice x2 m2 y2,.int .i64 z,.int .i64 f] d_:=by rw [hw2];exact Is.new _ _ _
 have hB2:=hB1.trans (hb2.mono hB1.size);have k0:=k0.mono hb2;have k1:=k1.mono hb2;have Xo:=aa (CL.out w2 hB2);have p0:=(hIs.mono hB2).at 0 rfl;rw [hw2] at p0;clear hn hhd RU CL hLk;go_wp2_with fail;rw [←hw2];clear hw2 p0;refine Xo.out.mono ?_;rintro e w3 ⟨rfl,hb3⟩;have hs2:=hB2.size;have hB3:=hB2.trans (hb3.mono hs2);have k0:=k0.mono hb3;have k1:=k1.mono hb3;have k2:=k2.mono hb3;have hs3:=hB3.size;have h13:=hb2.trans (hb3.mono hb2.size);have d1:=k2.at 1 rfl;clear Xo;go_wp2_with fail;go_loopw [11,12,13,70] (fun _ _ _ iv wr=>∃i:Nat,i≤n∧iv=.int .i64 i∧(∀j,j<i→gY kc c ms L j=false)∧Below w3.heap.size w3 wr) (fun _ _ _ iv _=>n-(intOf iv).toNat)
 case atStart=>exact ⟨0,Nat.zero_le _,rfl,fun j hj=>absurd hj (by omega),Below.refl _ _⟩
 case round=>
  obtain ⟨i,hi,rfl,hno,hE⟩:=hrel;have jI:=hB3.trans (hE.mono hs3);have Xw:=h13.trans (hE.mono h13.size);by_cases him:i<n
  ·have zi:decide ((i:Int)<(n:Int))=true:=decide_eq_true (by omega);have Su:i<L.length:=by have:=HN.out;omega
   have I_:i<ms.length:=by have:=BR.out;omega
   have af2:i<m:=by have:=Be.out;omega
   have UX:i<(bJ (nz ms)).length:=by simp [bJ];exact I_
   obtain ⟨b,off,rfl,_,c0⟩:=HX.out i UX;obtain ⟨lg,va,vc,rfl,l0,l1,hsl⟩:=YS.out i Su;rw [show (bJ (nz ms))[i]=.int .i64 ((ms[i]:Nat):Int) by simp [bJ,nz]] at c0;obtain ⟨mi,yh⟩:=ae (ms[i]);obtain ⟨cls,hcls⟩:=ae (L[i].1);obtain ⟨ln,hln⟩:=ae (L[i].2);have zQ:gY kc c ms L i=(decide (cls=kc)&&decide (mi<ln.length)&&decide (ln.getD mi 0=c)):=by
    unfold gY;rw [yh,hcls,hln,List.getD_eq_getElem?_getD (l:=L),List.getElem?_eq_getElem Su,List.getD_eq_getElem?_getD (l:=ms),List.getElem?_eq_getElem I_];rfl
   have hlen:ln.length<10000:=by rw [hln];have:=(HRU.out.2 _ (List.getElem_mem Su));omega
   rw [←yh] at c0;rw [←hcls] at l0;rw [←hln] at l1 hsl;obtain ⟨xl,hxl⟩:=ae ln.length;rw [←hxl] at l1 hsl zQ hlen;have c0:=aA jI c0;have l1:=aA Xw l1;have l0:=aA Xw l0;have hsl:=hsl.mono Xw;have k0':=k0.mono hE;have e1:=k0'.at 1 rfl;have Qf:=aa hno;have VL:=aa zQ;have U_:=aa yh;have Rv:=aa hxl;have hbn:=af (w:=wr) (.cells #[.int .i64 (cls:Nat),.slice va xl vc] 161);have i0:=Is.new wr #[.int .i64 (cls:Nat),.slice va xl vc] 161;have n0:=i0.at 0 rfl;have n1:=i0.at 1 rfl;have Q6:=aA hbn e1;have c0':=aA hbn c0;have hnext:gY kc c ms L i=false→∀j,j<i+1→gY kc c ms L j=false:=fun hf j hj=>by
    rcases Nat.lt_succ_iff_lt_or_eq.1 hj with h1|rfl
    ·exact Qf.out j h1
    ·exact hf
   have HNX:=aa hnext;clear hno zQ yh hxl hcls hln k0' hnext;by_cases hz1:cls=kc
   ·subst hz1;have z1:((cls:Int)==(cls:Int))=true:=by simp
    by_cases hz2:mi<xl
    ·have z2:decide ((mi:Int)<(xl:Int))=true:=decide_eq_true (by omega);obtain ⟨q,hq⟩:=ae (ln.getD mi 0);have Sv:mi<ln.length:=by have:=Rv.out;omega
     obtain ⟨ya,yc,he,_,hy⟩:=Go.Proofs.YtmpkfkoficehpaaGreatDoor.bB.Ef hsl Rv.out;injection he with he _ Ja;subst he Ja;obtain ⟨yb,yo,rfl,_,y0⟩:=hy mi Sv;rw [show ln[mi]=q by rw [hq,List.getD_eq_getElem?_getD,List.getElem?_eq_getElem Sv];rfl] at y0;have y0':=aA hbn y0;have HQ:=aa hq;clear hy hq hsl;by_cases hz3:q=c
     ·have z3:((q:Int)==(c:Int))=true:=by simp;omega
      have hbl:Below wr.heap.size wr (wr.alloc (.cells #[.int .i64 (cls:Nat),.slice (some ⟨yb,yo,none⟩) xl vc] 161)):=hbn;have hlast:gY cls c ms L i=true:=by rw [VL.out,←HQ.out,hz3,decide_eq_true rfl,decide_eq_true hz2,decide_eq_true rfl];rfl
      have hov:res=some (k,ms.set i (mi+1)):=by
       rw [pY.out];rw [show (List.range L.length).find? (gY cls c ms L)=some i from List.find?_range_eq_some.2 ⟨hlast,List.mem_range.2 Su,fun j hj=>by rw [Qf.out j hj];rfl⟩];rw [Option.map_some,List.getD_eq_getElem?_getD,List.getElem?_eq_getElem I_,U_.out];rfl
      have MR:=aa hov;clear hov hlast;go_wp2_with fail;generalize wr.alloc (.cells #[.int .i64 (cls:Nat),.slice (some ⟨yb,yo,none⟩) xl vc] 161)=wl at *;have alI:mi<10000:=by omega
      have hEl:=hE.trans (hbl.mono hE.size);have fo:=hB3.trans (hEl.mono hs3);have hsl:=fo.size;have k0l:=k0.mono hEl;have k1l:=k1.mono hEl;have e0:=Gr.cell (ag wl) (k0l.at 0 rfl);have e1g:=Gr.cell (ag wl) (k0l.at 1 rfl);clear e1 Q6 c0 c0' l0 l1 n0 n1 i0 y0 y0' hbn z1 z2 z3 hz2;refine aF #[true,true,true,true,true,true,true,false] 7 1 mixed (by rfl) ?_;refine ay [0,1,2,3] 3 rfl (by kernel_rfl) ?_
      iterate 4 (refine aB rfl ?_;go_big_quiet_step (rfl))
      refine az ?_;refine KP [6] (fun _ v W=>∃k,v=.pointer (some ⟨k,0,none⟩)∧W.heap[k]? = some (.cells #[.int .i64 0,.slice none 0 0] 199)) pJ 2 rfl (by kernel_rfl) (fun _ _ _ _ hb h=>uH hb h) ?_ ?_
      ·intro i hi o ho;simp only [List.mem_cons,List.not_mem_nil,or_false] at hi;subst hi;cases ho;exact uG rfl rfl (fun W=>by go_simp)
      refine nR 4 (by kernel_rfl) rfl ?_;intro wa Oc;have hEa:=fo.trans (((ag wl).trans Oc).mono hsl);have hsa:=hEa.size;go_wp2_with fail;refine (CN.out wa hEa).mono ?_;rintro e wc ⟨r,rfl,oc,hbc⟩;rw [jd,←Be.out] at oc;obtain ⟨cb,cc,rfl,_,hcb,_,_,_⟩:=dw oc (show 0<m by omega);have xI:=hEa.trans (hbc.mono hsa);go_wp2_with fail;refine aD hbc ?_;refine ng [5] 0 rfl (by kernel_rfl) ?_;refine aB rfl ?_;go_big_quiet_step (rfl);refine az ?_;refine pI [7] (by kernel_rfl) ?_;intro W Wb us hR hD;obtain ⟨⟨Y,hv,hh⟩,hN,hbk⟩:=hR 6 (by simp);rw [hv] at hN hbk;simp only [pJ] at hN hbk;rw [pK (d:=some 14) rfl,hv];have hY:wl.heap.size≤Y:=hN;have hEW:=xI.trans (Wb.mono xI.size);have hlc:Below wl.heap.size wl W:=((ag wl).trans Oc).trans ((hbc.trans (Wb.mono hbc.size)).mono (show wl.heap.size≤wa.heap.size from Oc.size));have oW:=aG oc Wb;have k1W:=k1l.mono hlc;have iY:Is W Y #[.int .i64 0,.slice none 0 0] 199:=⟨hh⟩;have a0:=iY.at 0 rfl;have a1:=iY.at 1 rfl;have b0:=iY.frozen 0;have b1:=iY.frozen 1;have ch:=(bD.put (o:=0) iY (.int .i64 (k:Nat))).trans (bD.put (o:=1) (iY.set 0 (.int .i64 (k:Nat))) (.slice (some ⟨cb,0,none⟩) m cc));have Xx:=(iY.set 0 (.int .i64 (k:Nat))).set 1 (.slice (some ⟨cb,0,none⟩) m cc);have oY:=ch.own oW (by decide);have hY1:w.heap.size+2≤Y:=by have:=Xw.size;have:=hbl.size;omega
      have k1Y:=(k1W.put (show w.heap.size+1≠Y by omega) (o:=0) (.int .i64 (k:Nat))).put (show w.heap.size+1≠Y by omega) (o:=1) (.slice (some ⟨cb,0,none⟩) m cc);have hEY:=aj (off:=1) (u:=.slice (some ⟨cb,0,none⟩) m cc) (b:=Y) (aj (off:=0) (u:=.int .i64 (k:Nat)) (b:=Y) hEW (by omega)) (by omega);have OY:=aa oY;have IY2:=aa Xx;have K1Y:=aa k1Y;clear iY Xx oY k1Y ch oW k1W hR hD e0 e1g hv hh hN hbk k0l k1l oc Oc hbc hlc Wb;refine Ei (os:=[_]) rfl ?_;go_wp2_with fail;refine Ej ?_;clear a0 a1 b0 b1;generalize (W.setCell ⟨Y,0,none⟩ (.int .i64 (k:Nat))).setCell ⟨Y,1,none⟩ (.slice (some ⟨cb,0,none⟩) m cc)=w6 at *;have iY:=IY2.out;have oY:=OY.out;have k1Y:=K1Y.out;have y1:=iY.at 1 rfl;obtain ⟨cm,fm⟩:=jJ oY (j:=i) UX;rw [show (bJ (nz ms))[i]=.int .i64 ((ms[i]:Nat):Int) by simp [bJ,nz],←U_.out] at cm;obtain ⟨o7,hg7⟩:=oY.stored i (.int .i64 ((mi:Int)+1));have ch7:=bD.bK oY hg7;have iY7:=ch7.is iY (by decide);have k17:=ch7.is k1Y (by decide);have u0:=iY7.at 0 rfl;have u1:=iY7.at 1 rfl;have f0:=k17.at 0 rfl;have f1:=k17.at 1 rfl;have q0:=k17.frozen 0;have q1:=k17.frozen 1;have v0:=(k17.set 0 (.int .i64 (k:Nat))).set 1 (.slice (some ⟨cb,0,none⟩) m cc);have g0:=v0.at 0 rfl;have g1:=v0.at 1 rfl;have o9:=aa (((bD.put (o:=0) k17 (.int .i64 (k:Nat))).trans (bD.put (o:=1) (k17.set 0 (.int .i64 (k:Nat))) (.slice (some ⟨cb,0,none⟩) m cc))).own o7 (by decide));have hfin:=aa (aj (off:=1) (u:=.slice (some ⟨cb,0,none⟩) m cc) (b:=w.heap.size+1) (aj (off:=0) (u:=.int .i64 (k:Nat)) (b:=w.heap.size+1) (aj (off:=i) (u:=.int .i64 ((mi:Int)+1)) (b:=cb) hEY (by omega)) (by omega)) (by omega));clear iY oY k1Y o7 hg7 ch7 iY7 k17 v0;go_wp2_with fail;refine bodyPost_ret (v:=.tuple #[.agg #[.int .i64 (k:Nat),.slice (some ⟨cb,0,none⟩) m cc],.bool true]) (by simp [results,Tryz.results136,go_sem,g0,g1]) rfl ⟨?_,hfin.out⟩;rw [MR.out];refine ⟨_,rfl,_,rfl,?_⟩;have h9:=Sl.aW o9.out;rw [show (bJ (nz ms)).set i (.int .i64 ((mi:Int)+1))=bJ (nz (ms.set i (mi+1))) by simp [bJ,nz,List.map_set]] at h9;exact h9
     ·have z3:((q:Int)==(c:Int))=false:=beq_eq_false_iff_ne.2 (by omega);have hf:gY cls c ms L i=false:=by rw [VL.out,←HQ.out,decide_eq_false hz3,Bool.and_false]
      have HF:=aa (HNX.out hf);clear hf;go_wp2_with fail;go_roundw
      case rel=>exact ⟨i+1,by omega,by simp,HF.out,hE.trans (hbn.mono hE.size)⟩
      case measure=>simp [intOf];omega
    ·have z2:decide ((mi:Int)<(xl:Int))=false:=decide_eq_false (by omega);have hf:gY cls c ms L i=false:=by rw [VL.out,decide_eq_false hz2,Bool.and_false,Bool.false_and]
     have HF:=aa (HNX.out hf);clear hf;go_wp2_with fail;go_roundw
     case rel=>exact ⟨i+1,by omega,by simp,HF.out,hE.trans (hbn.mono hE.size)⟩
     case measure=>simp [intOf];omega
   ·have z1:((cls:Int)==(kc:Int))=false:=beq_eq_false_iff_ne.2 (by omega);have hf:gY kc c ms L i=false:=by rw [VL.out,decide_eq_false hz1,Bool.false_and,Bool.false_and]
    have HF:=aa (HNX.out hf);clear hf;go_wp2_with fail;go_roundw
    case rel=>exact ⟨i+1,by omega,by simp,HF.out,hE.trans (hbn.mono hE.size)⟩
    case measure=>simp [intOf];omega
  ·have zi:decide ((i:Int)<(n:Int))=false:=decide_eq_false (by omega);obtain rfl:i=n:=by omega
   have hov:res=none:=by
    rw [pY.out];rw [show (List.range L.length).find? (gY kc c ms L)=none from List.find?_range_eq_none.2 fun j hj=>by rw [hno j (by rw [HN.out];exact hj)];rfl];rfl
   have k5:=k1.mono hE;have f0:=k5.at 0 rfl;have f1:=k5.at 1 rfl;have q0:=k5.frozen 0;have q1:=k5.frozen 1;have v0:=(k5.set 0 (.int .i64 0)).set 1 (.slice none 0 0);have g0:=v0.at 0 rfl;have g1:=v0.at 1 rfl;have hfin:=aa (aj (off:=1) (u:=.slice none 0 0) (b:=w.heap.size+1) (aj (off:=0) (u:=.int .i64 0) (b:=w.heap.size+1) jI (by omega)) (by omega));clear v0 k5 hno;go_wp2_with fail;exact bodyPost_ret (v:=.tuple #[.agg #[.int .i64 0,.slice none 0 0],.bool false]) (by simp [results,Tryz.results136,go_sem,g0,g1]) rfl ⟨by first|rfl|(rw [hov];rfl),hfin.out⟩
theorem Pn {w:World} {B p dp:Nat} {T:List aH} {X:List Nat} {l:List Nat} (hD:b_ w dp T X) (hV:aY T X) (h:eO w B p dp (ai T) l) (hl:l.length<9000) (hsm:eB (bu (ai T) l)≤16384) {v:Value} {s:gX} (hs:zP w v s) (ho:jG (bu (ai T) l) s) (c:Nat) (hc:c<1114112) :
 Calls Tryz.prog 136 #[.pointer (some ⟨p,0,none⟩),v,.int .i32 c] w fun e w'=>CW e w' (nA (ai T) (bu (ai T) l) s c)∧Below w.heap.size w w':=by
 by_cases h0:ai T c=0
 ·exact Ld hD hV h hl hsm hs ho c hc h0
 ·exact Lf hD hV h hl hsm hs ho c hc h0
theorem Lh {α β:Type} {f:α→β→Option α} {l:List β} {i:Nat} (hi:i<l.length) {a b:α} (h:(l.take i).foldlM f a=some b):(l.take (i+1)).foldlM f a=f b l[i]:=by
 rw [List.take_succ_eq_append_getElem hi,List.foldlM_append,h];show [l[i]].foldlM f b=_;rw [List.foldlM_cons];cases f b l[i] <;> rfl
theorem Li {α β:Type} {f:α→β→Option α} {l:List β} {i:Nat} {a:α} (h:(l.take i).foldlM f a=none):l.foldlM f a=none:=by
 conv=>lhs;rw [←List.take_append_drop i l,List.foldlM_append,h]
 rfl
theorem CX {w:World} {B p dp:Nat} {T:List aH} {X:List Nat} {l:List Nat} (hD:b_ w dp T X) (hV:aY T X) (qG:T.length<1000) (h:eO w B p dp (ai T) l) (hl:l.length<9000) (hsm:eB (bu (ai T) l)≤16384) {v:Value} {s:gX} (hs:zP w v s) (ho:jG (bu (ai T) l) s) (c:Nat) (hc:aP c) :
 Calls Tryz.prog 99 #[.pointer (some ⟨p,0,none⟩),v,.int .i32 c] w fun e w'=>CW e w' (iw (ai T) (aC T) (bu (ai T) l) s c)∧Below w.heap.size w w':=by
 obtain ⟨g,rc,iC,small,Es,hR⟩:=h.read;obtain ⟨sv,rfl,hsv⟩:=id hs;obtain ⟨sa,sc,rfl,_,hx⟩:=bB.out hsv.any;obtain ⟨m,hm⟩:=ae ((bJ (nz s.2)).length);rw [←hm] at hs hsv ⊢;have hb0:=ed (w:=w) (.cells #[.int .i64 (s.1:Nat),.slice sa m sc] 199) (.cells #[.int .i64 0,.slice none 0 0] 199);have FU:=aa (nQ (hD.mono hb0) hV qG c hc.1);have hfc:∀y∈aC T c,y<1114112:=fun y hy=>(mY hV hc hy).1;have hfl:=gI hV c;have TK:=aa (fun (W:World) (E:Below w.heap.size w W) (u:Value) (s':gX) (hu:zP W u s') (ho':jG (bu (ai T) l) s') (y:Nat) (hy:y<1114112)=>Pn (hD.mono E) hV (h.mono E) hl hsm hu ho' y hy);have hok:∀(s' s2:gX) (y:Nat),jG (bu (ai T) l) s'→nA (ai T) (bu (ai T) l) s' y=some s2→jG (bu (ai T) l) s2:=fun s' s2 y h1 h2=>IZ h1 h2;have hst:iw (ai T) (aC T) (bu (ai T) l) s c=(aC T c).foldlM (nA (ai T) (bu (ai T) l)) s:=rfl;rw [hst];obtain ⟨tk,htk⟩:=ae (nA (ai T) (bu (ai T) l));obtain ⟨F,hF⟩:=ae (aC T c);obtain ⟨R,hR0⟩:=ae (bu (ai T) l);simp only [←htk] at TK hok ⊢;simp only [←hF,←hR0] at FU hfc hfl TK hok ho hR ⊢;obtain ⟨res,hres⟩:=ae (F.foldlM tk s);rw [←hres];have pY:=aa hres;have HFC:=aa hfc;have Uc:=aa hok;have hIs:=hR.is;have p0:=(hIs.mono hb0).at 0 rfl;have T9:zP (( w.alloc (.cells #[.int .i64 (s.1:Nat),.slice sa m sc] 199)).alloc (.cells #[.int .i64 0,.slice none 0 0] 199)) (.agg #[.int .i64 (s.1:Nat),.slice sa m sc]) s:=hs.mono hb0;have T9:=aa T9;have HO:=aa ho;clear h hR hsv hs hm hR0 htk hF hst hres hfc hok hx hD ho;obtain ⟨k,hk⟩:=ae s.1;rw [←hk] at T9 hb0 FU p0 ⊢;have HK:=aa hk;clear hk;go_enter Tryz.func99,Tryz.ntmps99;go_wp2_with fail;refine FU.out.mono ?_;rintro e w1 ⟨r1,rfl,o1,hb1⟩;have hB1:=hb0.trans (hb1.mono hb0.size);obtain ⟨n,hn⟩:=ae F.length;have hsl:=(Sl.aW o1).any;obtain ⟨a1,c1,rfl,_,hy⟩:=Go.Proofs.YtmpkfkoficehpaaGreatDoor.bB.Ef hsl hn;have k0:Is w1 w.heap.size #[.int .i64 (k:Nat),.slice sa m sc] 199:=((Is.new w _ _).mono (af _)).mono hb1;have k1:Is w1 (w.heap.size+1) #[.int .i64 0,.slice none 0 0] 199:=(Is.new' _ _ _ _ (by simp)).mono hb1;have hS1:=T9.out.mono hb1;have qO:n≤32:=by rw [hn];exact hfl
 have HN:=aa hn;have O1:=aa o1;have ab4:w.heap.size+2≤((w.alloc (.cells #[.int .i64 (k:Nat),.slice sa m sc] 199)).alloc (.cells #[.int .i64 0,.slice none 0 0] 199)).heap.size:=by simp
 generalize ((w.alloc (.cells #[.int .i64 (k:Nat),.slice sa m sc] 199)).alloc (.cells #[.int .i64 0,.slice none 0 0] 199))=w0 at *;clear o1 hsl hy T9 p0 hfl;go_wp2_with fail
 go_loopw [8,10,18] (fun isv _ iv wr=>∃i:Nat,i≤n∧iv=.int .i64 i∧isv=.bool true∧(∃(s':gX) (a:Option Addr) (m c:Nat),(F.take i).foldlM tk s=some s'∧jG R s'∧Is wr w.heap.size #[.int .i64 (s'.1:Nat),.slice a m c] 199∧zP wr (.agg #[.int .i64 (s'.1:Nat),.slice a m c]) s')∧
  Is wr (w.heap.size+1) #[.int .i64 0,.slice none 0 0] 199∧wr.ownsRow w0.heap.size aM 1 (.slice a1 n c1) n (aN F)∧Below w.heap.size w wr) (fun _ _ iv _=>n-(intOf iv).toNat)
 case atStart=>exact ⟨0,Nat.zero_le _,rfl,rfl,⟨s,sa,m,sc,rfl,HO.out,HK.out▸k0,HK.out▸hS1⟩,k1,HN.out▸O1.out,hB1⟩
 case round=>
  obtain ⟨i,hi,rfl,rfl,⟨s',a,m',c',hf,ho',j0,hS⟩,j1,hrow,hE⟩:=hrel;have hs1:=hE.size;by_cases hin:i<n
  ·have zi:decide ((i:Int)<(n:Int))=true:=decide_eq_true (by omega);obtain ⟨rb,NP,he,_,_,_,_,hcells⟩:=dw hrow (show 0<n by omega);injection he with he1 _ he2;subst he1 he2;have hil:i<F.length:=by have:=HN.out;omega
   have cy:=hcells i (.int .i32 (F[i]:Nat)) (by rw [List.getElem?_eq_getElem (by rw [bA];exact hil),dM _ _ hil]);have hy9:=HFC.out _ (List.getElem_mem hil);have hft:=Lh hil hf;obtain ⟨y,hy⟩:=ae (F[i]);rw [←hy] at cy hy9 hft;have TC:=aa (TK.out wr hE _ s' hS ho' y hy9);have e0:=j0.at 0 rfl;have e1:=j0.at 1 rfl;have YT:=aa hft;have AV:=aa hrow;have HOS:=aa ho';obtain ⟨sk,hsk⟩:=ae s'.1;rw [←hsk] at e0 TC j0;clear hft hcells hf hy hS hrow ho' hsk;go_wp2_with fail;refine TC.out.mono ?_;rintro e w2 ⟨hstep,hb2⟩;have hE2:=hE.trans (hb2.mono hs1);have Xy:=j0.mono hb2;have j12:=j1.mono hb2;have a0:=Xy.at 0 rfl;have a1':=Xy.at 1 rfl;have b0:=Xy.frozen 0;have b1:=Xy.frozen 1;have hrow2:=aG AV.out hb2;cases htc:tk s' y with
   | none=>
     rw [htc] at hstep;obtain rfl:e=_:=hstep;have hov:res=none:=by rw [pY.out];exact Li (i:=i+1) (by rw [YT.out,htc])
     have j13:=(j12.put (show w.heap.size+1≠w.heap.size by omega) (o:=0) (.int .i64 0)).put (show w.heap.size+1≠w.heap.size by omega) (o:=1) (.slice none 0 0);have f0:=j13.at 0 rfl;have f1:=j13.at 1 rfl;have q0:=j13.frozen 0;have q1:=j13.frozen 1;have v0:=(j13.set 0 (.int .i64 0)).set 1 (.slice none 0 0);have g0:=v0.at 0 rfl;have g1:=v0.at 1 rfl;have hfin:=aa (aj (off:=1) (u:=.slice none 0 0) (b:=w.heap.size+1) (aj (off:=0) (u:=.int .i64 0) (b:=w.heap.size+1) (aj (off:=1) (u:=.slice none 0 0) (b:=w.heap.size) (aj (off:=0) (u:=.int .i64 0) (b:=w.heap.size) hE2 (by omega)) (by omega)) (by omega)) (by omega));have MR:=aa hov;clear hov v0 j13 htc;go_wp2_with fail;refine bodyPost_ret (v:=.tuple #[.agg #[.int .i64 0,.slice none 0 0],.bool false]) (by simp [results,Tryz.results99,go_sem,g0,g1]) rfl ⟨?_,hfin.out⟩;rw [MR.out];rfl
   | some s2=>
     rw [htc] at hstep;obtain ⟨v2,rfl,hS2⟩:=hstep;obtain ⟨sv2,rfl,hs2⟩:=id hS2;obtain ⟨a2,c2,rfl,_,_⟩:=bB.out hs2.any;obtain ⟨m2,hm2⟩:=ae ((bJ (nz s2.2)).length);rw [←hm2] at hS2 ⊢;have ch:=(bD.put (o:=0) Xy (.int .i64 (s2.1:Nat))).trans (bD.put (o:=1) (Xy.set 0 (.int .i64 (s2.1:Nat))) (.slice a2 m2 c2));have j03:=(Xy.set 0 (.int .i64 (s2.1:Nat))).set 1 (.slice a2 m2 c2);have j13:=(j12.put (show w.heap.size+1≠w.heap.size by omega) (o:=0) (.int .i64 (s2.1:Nat))).put (show w.heap.size+1≠w.heap.size by omega) (o:=1) (.slice a2 m2 c2);have hrow3:=ch.own hrow2 (by decide);have YU:=MM.Lc hS2 ch (by decide);have kY:=aj (off:=1) (u:=.slice a2 m2 c2) (b:=w.heap.size) (aj (off:=0) (u:=.int .i64 (s2.1:Nat)) (b:=w.heap.size) hE2 (by omega)) (by omega);have HJ:=aa j03;have HJ1:=aa j13;have HR3:=aa hrow3;have HS3:=aa YU;have HTC:=aa htc;have TV:=aa (Uc.out s' s2 y HOS.out htc);clear hs2 hm2 hS2 ch j03 j13 hrow3 YU htc j0 j1 hrow2 Xy j12;go_wp2_with fail;go_roundw
     case rel=>exact ⟨i+1,by omega,by simp,rfl,⟨s2,a2,m2,c2,by rw [YT.out,HTC.out],TV.out,HJ.out,HS3.out⟩,HJ1.out,HR3.out,kY⟩
     case measure=>simp [intOf];omega
  ·have zi:decide ((i:Int)<(n:Int))=false:=decide_eq_false (by omega);obtain rfl:i=n:=by omega
   have hov:res=some s':=by rw [pY.out,←hf,List.take_of_length_le (by rw [←HN.out];exact Nat.le_refl _)]
   have e0:=j0.at 0 rfl;have e1:=j0.at 1 rfl;have f0:=j1.at 0 rfl;have f1:=j1.at 1 rfl;have q0:=j1.frozen 0;have q1:=j1.frozen 1;have v0:=(j1.set 0 (.int .i64 (s'.1:Nat))).set 1 (.slice a m' c');have g0:=v0.at 0 rfl;have g1:=v0.at 1 rfl;have ch:=(bD.put (o:=0) j1 (.int .i64 (s'.1:Nat))).trans (bD.put (o:=1) (j1.set 0 (.int .i64 (s'.1:Nat))) (.slice a m' c'));have HS:=aa (MM.Lc hS ch (by decide));have hfin:=aa (aj (off:=1) (u:=.slice a m' c') (b:=w.heap.size+1) (aj (off:=0) (u:=.int .i64 (s'.1:Nat)) (b:=w.heap.size+1) hE (by omega)) (by omega));have MR:=aa hov;clear hov v0 ch hS hrow hf ho' j0 j1;go_wp2_with fail;refine bodyPost_ret (v:=.tuple #[.agg #[.int .i64 (s'.1:Nat),.slice a m' c'],.bool true]) (by simp [results,Tryz.results99,go_sem,g0,g1]) rfl ⟨?_,hfin.out⟩;rw [MR.out];exact ⟨_,rfl,HS.out⟩
end Go.Proofs.YtmpkfkoficehpaaGreatDoor
