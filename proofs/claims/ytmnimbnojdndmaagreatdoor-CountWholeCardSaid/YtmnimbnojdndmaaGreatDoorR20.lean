/- One machine of an NFD counts as its units do, multiplied; no condition. -/
import Derived.Test.YtmnimbnojdndmaaGreatDoorR19
set_option maxRecDepth 100000
set_option maxHeartbeats 6400000
set_option linter.all false
namespace Go.Proofs.YtmnimbnojdndmaaGreatDoor
section
open Go.RowKit Go.Cd Go.Shelf _root_.Go.Proofs.Tryz
attribute [local go_sem] Oper.semAt_some
def abN:mV prog 100 eD (.agg #[.slice none 0 0]) 1 24:=⟨rfl,underlying100,info_parts (by kernel_rfl)⟩
def Ag {w:World} {ops:Array Oper} {rest:List Oper} {o:Oper} {a:Act} {Q:Exit->Act->World->Prop} (k:o.guard=none) (l c:Operand) (e:o.op=Op.makeSlice 100 l c) (base:Nat)
 (g f:IntKind) (L C:Int) (n:Nat) (v:a.eval l=.int g L) (u:a.eval c=.int f C) (p:L=(n:Int)) (x:C=(n:Int)) (z:n<1000000) (q:base<=w.heap.size)
 (m:∀w',w'.ownsRow base eD 1 (.slice (some ⟨w.heap.size,0,none⟩) n n) n (List.replicate n (.slice none 0 0))->w.grownBy w' none->wpList prog ops Q rest (a.put o.dst (.slice (some ⟨w.heap.size,0,none⟩) n n)) w') :
 wpList prog ops Q (o::rest) a w:=by
 obtain⟨r,y,i,t,s,b,d⟩:=abN;refine wpList_make_full w k l c _ e base eD i _ 1 y t s b g f L C n v u p x (by rw[d];omega) (by unfold maxLen;omega) q λw' h j=>m w' ?_ j;rw[show(Value.agg #[.slice none 0 0]).cells=#[.slice none 0 0] from rfl,Nat.mul_one,toList_madeCells_one] at h;exact h
def pU (fr:List Nat->Nat->Nat) (n:Nat) (is:List Nat):List Nat:=is.foldl (λt i=>t.set i (fr t i)) (List.replicate n 0)
def LJ (b:List Nat->Nat->Nat) (n:Nat) (a:List Nat):(pU b n a).length=n:=by
 have:∀(a:List Nat) (t:List Nat),(a.foldl (λt i=>t.set i (b t i)) t).length=t.length:=λa=>by
  induction a with
  | nil=>intro t;rfl
  | cons i a ih=>intro t;rw[List.foldl_cons,ih,List.length_set]
 unfold pU;rw[this,List.length_replicate]
def F4 (a:List Nat->Nat->Nat) (n:Nat) (b:List Nat) (i:Nat):pU a n (b++[i])=(pU a n b).set i (a (pU a n b) i):=by
 unfold pU;rw[List.foldl_append];rfl
def F5 (R:List bS) (opt:eZ->List Nat) (nS:eZ->Nat->Option eZ) (n:Nat):∀k,pU (jk R opt nS) n (mE id n k)=jl R opt nS n k
 | 0=>by simp[pU,mE,jl]
 | k+1=>by rw[kW,F4,F5 R opt nS n k];rfl
def bT.QC {A B:World} {row:Option Nat} (e:A.grownBy B row) (m:∀r,row=some r->∃o:Obj,A.heap[r]? = some o/\o.isCells=false) {v:Value} {x:Nat} (h:bT A v x):bT B v x:=by
 obtain⟨s,f,a,cap,j,c,d⟩:=h;refine⟨s,f,a,cap,j,c,d.imp id ?_⟩;rintro⟨b,off,l,i,g,k,d⟩;exact⟨b,off,l,i,g,oh e m k,d⟩
def jX.QC {A B:World} {row:Option Nat} (d:A.grownBy B row) (e:∀r,row=some r->∃o:Obj,A.heap[r]? = some o/\o.isCells=false) {j f g i:Nat} {l:List Nat} (h:jX A j f g i l):jX B j f g i l:=by
 obtain⟨t,b,m,p⟩:=h;refine⟨⟨oh d e t.at_⟩,b,U2 d e m,λk s=>?_⟩;obtain⟨a,n,c,q,u⟩:=p k s;exact⟨a,n,c,q,bT.QC d e u⟩
def jX.store {w:World} {q m g p:Nat} {d:List Nat} (h:jX w q m g p d) {i:Nat} (C:i<d.length) {a:Option Addr} {n c x:Nat} (s:bT w (.agg #[.slice a n c]) x):jX (w.setCell ⟨g,i,none⟩ (.slice a n c)) q m g p (d.set i x):=by
 obtain⟨A,b,e,v⟩:=h;obtain⟨o,r⟩:=e.stored i (.slice a n c);have f:=bJ.bQ e r;have:b.length=d.length:=by have:=e.1;omega
 refine⟨by rw[List.length_set];exact f.is A (by decide),b.set i (.slice a n c),by rw[List.length_set];exact o,λk l=>?_⟩;rw[List.length_set] at l;by_cases j:k=i
 ·subst j;refine⟨a,n,c,by rw[List.getElem?_set_self (by omega)],?_⟩;rw[List.getElem_set_self];exact bT.iQ s f (by decide)
 obtain⟨B,u,t,z,y⟩:=v k l;refine⟨B,u,t,by rw[List.getElem?_set_ne (by omega)];exact z,?_⟩;rw[List.getElem_set_ne (by omega)];exact bT.iQ y f (by decide)
def jX.frozen {w:World} {f d g e:Nat} {c:List Nat} (h:jX w f d g e c) {i:Nat} (l:i<c.length):w.frozen? ⟨g,i,none⟩=false:=by
 obtain⟨m,b,a,k⟩:=h;exact(jY a (j:=i) (by have:=a.1;omega)).2
end
section
open Go.RowKit Go.Cd
def LK {bs l:List Nat} (f:∀b∈bs,1<=b) {m:Nat} (a:m<l.length):∀j,j<=bs.length->
 (j<=m->gU bs (nz (l.set m (l.getD m 0+1))) j=gU bs (nz l) j)/\(m<j->gU bs (nz l) j<gU bs (nz (l.set m (l.getD m 0+1))) j)
 | 0,_=>⟨λ_=>rfl,λh=>by omega⟩
 | j+1,hj=>by
   obtain⟨c,g⟩:=LK f a j (by omega);have n:bs[j]?.getD 0=bs[j]:=by rw[List.getElem?_eq_getElem (by omega)];rfl
   have:1<=bs[j]:=f _ (List.getElem_mem (by omega));have d:j≠m->(nz (l.set m (l.getD m 0+1)))[j]?.getD 0=(nz l)[j]?.getD 0:=λh=>by
    simp only[nz,List.getElem?_map];rw[List.getElem?_set_ne (Ne.symm h)]
   simp only[gU];rw[n];refine⟨λh=>?_,λh=>?_⟩
   ·rw[c (by omega),d (by omega)]
   by_cases e:j=m
   ·subst e;rw[c (Nat.le_refl _)];have k:(nz (l.set j (l.getD j 0+1)))[j]?.getD 0=((l.getD j 0+1:Nat):Int):=by
     simp only[nz,List.getElem?_map];rw[List.getElem?_set_self a];rfl
    have o:(nz l)[j]?.getD 0=((l.getD j 0:Nat):Int):=by
     simp only[nz,List.getElem?_map,List.getD_eq_getElem?_getD];rw[List.getElem?_eq_getElem a];rfl
    rw[k,o];simp only[Int.toNat_natCast];omega
   rw[d e];have:=Nat.mul_lt_mul_of_pos_right (g (by omega)) (show 0<bs[j] by omega);omega
def WA {K:Nat->Nat} {R:List bS} {s b:eZ} {c:Nat} (h:eQ R s) (e:iy K R s c=some b):fK R s<fK R b:=by
 unfold iy at e
 split at e
 ·split at e
  ·cases e;have f:=Az h;have d:=jW h.lt;rw[<-df h.lt] at d;show dO (R.take s.1)+_<dO (R.take (s.1+1))+_;omega
  cases e
 cases hf:(List.range (aL R s.1).2.length).find? (ed (K c) c s.2 (aL R s.1).2) with
 | none=>rw[hf] at e;cases e
 | some i=>
   rw[hf] at e;cases e;have a:=List.mem_range.1 (List.mem_of_find?_eq_some hf);have:=(LK (l:=s.2) (pQ (aL R s.1)) (m:=i) (by rw[h.len];exact a) (kM (aL R s.1)).length (Nat.le_refl _)).2 (by rw[eO];exact a);exact Nat.add_lt_add_left this _
def LM {K:Nat->Nat} {R:List bS}:∀(l:List Nat) (s a:eZ),eQ R s->l.foldlM (iy K R) s=some a->fK R s<=fK R a/\(l≠[]->fK R s<fK R a)
 | [],s,a,_,e=>by
   have:s=a:=by simpa using e
   subst this;exact⟨Nat.le_refl _,λh=>absurd rfl h⟩
 | c::l,s,a,h,e=>by
   rw[List.foldlM_cons] at e;cases b:iy K R s c with
   | none=>rw[b] at e;cases e
   | some s1=>
     rw[b] at e;have d:=WA h b;have f:=(LM l s1 a (wY h b) e).1;exact⟨by omega,λ_=>by omega⟩
def WB {K:Nat->Nat} {F:Nat->List Nat} {R:List bS} {s a:eZ} {c:Nat} (h:eQ R s) (b:F c≠[]) (e:fw K F R s c=some a):fK R s<fK R a:=
 (LM (F c) s a h e).2 b
section
variable {R : List bS} {opt : eZ -> List Nat} {nS : eZ -> Nat -> Option eZ}
def yG {n:Nat}:∀j d,j+d<=n->∀i,n-j<=i->(jl R opt nS n (j+d)).getD i 0=(jl R opt nS n j).getD i 0
 | j,0,_,_,_=>rfl
 | j,d+1,h,i,hi=>by
   rw[<-Nat.add_assoc,jl,<-yG j d (by omega) i hi];rw[List.getD_eq_getElem?_getD,List.getElem?_set_ne (by omega),<-List.getD_eq_getElem?_getD]
def O8 {l m:List Nat} {i:Nat} (h:∀c s,c∈opt (sW R i)->nS (sW R i) c=some s->l.getD (fK R s) 0=m.getD (fK R s) 0):jk R opt nS l i=jk R opt nS m i:=by
 unfold jk
 split
 ·rfl
 refine congrArg List.sum (List.map_congr_left λc a=>?_);cases b:nS (sW R i) c with
 | none=>rfl
 | some s=>exact h c s a b
def WG {n:Nat} (k:n=dO R) (a:∀i c s,i<n->c∈opt (sW R i)->nS (sW R i) c=some s->i<fK R s) {i:Nat} (d:i<n) :
 (jl R opt nS n n).getD i 0=jk R opt nS (jl R opt nS n n) i:=by
 have e:=yG (R:=R) (opt:=opt) (nS:=nS) (n:=n) (n-i) i (by omega) i (by omega);rw[show n-i+i=n by omega] at e;rw[e];obtain⟨j,f⟩:∃j,n-i=j+1:=⟨n-i-1,by omega⟩;rw[f,jl,show n-1-j=i by omega];rw[List.getD_eq_getElem?_getD,List.getElem?_set_self (by rw[FW];exact d)];show jk R opt nS (jl R opt nS n j) i=_;refine O8 λc s h g=>?_;have b:=yG (R:=R) (opt:=opt) (nS:=nS) (n:=n) j (n-j) (by omega) (fK R s) (by have:=a i c s d h g;omega);rw[show j+(n-j)=n by omega] at b;exact b.symm
end
end
section
open Go.RowKit Go.Cd
def kQ:List Nat->List (Nat×List Nat)->List Nat
 | m::ms,x::L=>x.2.drop m++kQ ms L
 | _,_=>[]
def LP (r:bS):List Nat:=r.1::r.2.flatMap (·.2)
def mJ (R:List bS) (s:eZ):List Nat:=kQ s.2 (aL R s.1).2++(R.drop (s.1+1)).flatMap LP
def fE (K:Nat->Nat) (c:Nat):List Nat->Option (List Nat)
 | []=>none
 | a::t=>if K c=0 then (if a=c then some t else none) else if K a=0 then none else if K a<K c then (fE K c t).map (a::·) else if a=c then some t else none
section
variable {K : Nat -> Nat}
variable {L:List (Nat×List Nat)} {n c:Nat} {R:List bS}
def ql (n c:Nat):List Nat->List (Nat×List Nat)->Option (List Nat)
 | m::ms,x::L=>if x.1=n/\m<x.2.length/\x.2.getD m 0=c then some ((m+1)::ms) else (ql n c ms L).map (m::·)
 | _,_=>none
def Cy (n c:Nat):∀(ms:List Nat) (L:List (Nat×List Nat)),ms.length=L.length->((List.range L.length).find? (ed n c ms L)).map (λi=>ms.set i (ms.getD i 0+1))=ql n c ms L
 | [],[],_=>rfl
 | [],_::_,h=>by simp at h
 | _::_,[],h=>by simp at h
 | m::ms,x::L,h=>by
   have d:=Cy n c ms L (by simpa using h);rw[List.length_cons,List.range_succ_eq_map];have b:ed n c (m::ms) (x::L) 0=decide (x.1=n/\m<x.2.length/\x.2.getD m 0=c):=by simp[ed,Bool.decide_and,Bool.and_assoc]
   by_cases a:x.1=n/\m<x.2.length/\x.2.getD m 0=c
   ·rw[List.find?_cons_of_pos (by rw[b];exact decide_eq_true a)];unfold ql;rw[if_pos a];rfl
   rw[List.find?_cons_of_neg (by rw[b];simpa using a),List.find?_map];unfold ql;rw[if_neg a,<-d];have e:(ed n c (m::ms) (x::L) ∘ Nat.succ)=ed n c ms L:=by funext i;rfl
   rw[e];cases (List.range L.length).find? (ed n c ms L) <;> rfl
def Ea (K:Nat->Nat) (L:List (Nat×List Nat)):Prop:=(∀x∈L,0<x.1/\∀y∈x.2,K y=x.1)/\L.Pairwise λa b=>a.1<b.1
def Ea.tail {x:Nat×List Nat} (h:Ea K (x::L)):Ea K L:=⟨λy a=>h.1 y (List.mem_cons_of_mem _ a),(List.pairwise_cons.1 h.2).2⟩
def Cz :∀{ms:List Nat} {L:List (Nat×List Nat)},(∀x∈L,x.1≠n)->ql n c ms L=none
 | [],[],_=>rfl
 | [],_::_,_=>rfl
 | _::_,[],_=>rfl
 | m::ms,x::L,h=>by
   unfold ql;rw[if_neg (λa=>h x (by simp) a.1),Cz λy b=>h y (List.mem_cons_of_mem _ b)];rfl
def LQ (h0:0<n) (h:n<K c) (X:List Nat):∀u:List Nat,(∀y∈u,K y=n)->fE K c (u++X)=(fE K c X).map (u++·)
 | [],_=>by simp
 | a::u,hu=>by
   have:=hu a (by simp);show fE K c (a::(u++X))=_;rw[fE,if_neg (by omega),if_neg (by omega),if_pos (by omega),LQ h0 h X u λy b=>hu y (List.mem_cons_of_mem _ b)];cases fE K c X <;> simp
def F6 (k:K c≠0) {rest:List Nat} (p:∀a t,rest=a::t->K a=0):∀{ms:List Nat} {L:List (Nat×List Nat)},ms.length=L.length->Ea K L->
 fE K c (kQ ms L++rest)=(ql (K c) c ms L).map λg=>kQ g L++rest
 | [],[],_,_=>by
   show fE K c rest=none;cases rest with
   | nil=>rfl
   | cons a t=>unfold fE;rw[if_neg k,if_pos (p a t rfl)]
 | [],_::_,h,_=>by simp at h
 | _::_,[],h,_=>by simp at h
 | m::ms,x::L,h,hL=>by
   have o:=F6 k p (ms:=ms) (L:=L) (by simpa using h) hL.tail;have l:=hL.1 x (by simp);have n:=(List.pairwise_cons.1 hL.2).1;by_cases f:m<x.2.length
   ·have hd:x.2.drop m=x.2[m]::x.2.drop (m+1):=List.drop_eq_getElem_cons f;have r:x.2.getD m 0=x.2[m]:=by rw[List.getD_eq_getElem?_getD,List.getElem?_eq_getElem f];rfl
    have q:K x.2[m]=x.1:=l.2 _ (List.getElem_mem f);by_cases u:x.1<K c
    ·have j:¬(x.1=K c/\m<x.2.length/\x.2.getD m 0=c):=λa=>by omega
     unfold ql kQ;rw[if_neg j,List.append_assoc,LQ l.1 u _ _ (λy i=>l.2 y (List.mem_of_mem_drop i)),o];cases ql (K c) c ms L <;> simp[kQ]
    have b:(∀y∈L,y.1≠K c):=λy i e=>by have:=n y i;omega
    unfold ql;show fE K c ((x.2.drop m++kQ ms L)++rest)=_;rw[hd];show fE K c (x.2[m]::(x.2.drop (m+1)++kQ ms L++rest))=_;unfold fE;rw[if_neg k,if_neg (by omega),if_neg (by omega),r];by_cases d:x.2[m]=c
    ·have s:x.1=K c:=by rw[<-q,d]
     rw[if_pos d,if_pos ⟨s,f,d⟩];rfl
    rw[if_neg d,if_neg (λa=>d a.2.2),Cz b];rfl
   have j:¬(x.1=K c/\m<x.2.length/\x.2.getD m 0=c):=λa=>f a.2.1;have hd:x.2.drop m=[]:=List.drop_eq_nil_of_le (by omega);unfold ql kQ;rw[if_neg j,hd,List.nil_append,o];cases ql (K c) c ms L <;> simp[kQ,hd]
structure Ip (K:Nat->Nat) (R:List bS):Prop where
 lan:∀r∈R,Ea K r.2
 head:∀r∈R.tail,K r.1=0
def Ip.rest (h:Ip K R) (k:Nat):∀a t,(R.drop (k+1)).flatMap LP=a::t->K a=0:=by
 intro a t e;cases hd:R.drop (k+1) with
 | nil=>rw[hd] at e;cases e
 | cons r u=>
   rw[hd,List.flatMap_cons] at e;have:a=r.1:=by unfold LP at e;exact(List.cons.inj e).1.symm
   rw[this];refine h.head r ?_;rw[show R.tail=R.drop 1 by simp];have:R.drop (k+1)=(R.drop 1).drop k:=by rw[List.drop_drop,Nat.add_comm]
   rw[this] at hd;exact List.mem_of_mem_drop (i:=k) (by rw[hd];simp)
def yH:∀L:List (Nat×List Nat),kQ (List.replicate L.length 0) L=L.flatMap (·.2)
 | []=>rfl
 | x::L=>by
   show x.2.drop 0++kQ (List.replicate L.length 0) L=_;rw[yH L];simp
def sG:∀{ms:List Nat} {L:List (Nat×List Nat)},ms.length=L.length->(gV (nz ms) L=true↔kQ ms L=[])
 | [],[],_=>by simp[gV,nz,kQ]
 | [],_::_,h=>by simp at h
 | _::_,[],h=>by simp at h
 | m::ms,x::L,h=>by
   have a:=sG (ms:=ms) (L:=L) (by simpa using h);have e:gV (nz (m::ms)) (x::L)=(!decide ((m:Int)<(x.2.length:Nat))&&gV (nz ms) L):=by simp[gV,nz]
   rw[e,Bool.and_eq_true,a];show _↔x.2.drop m++kQ ms L=[];rw[List.append_eq_nil_iff,List.drop_eq_nil_iff];simp
def LU {ms:List Nat} (c:Ea K L) {a:Nat} {t:List Nat} (h:kQ ms L=a::t):K a≠0:=by
 induction L generalizing ms with
 | nil=>cases ms <;> cases h
 | cons x L ih=>
   cases ms with
   | nil=>cases h
   | cons m ms=>
     have d:=c.1 x (by simp);rw[kQ] at h;cases hd:x.2.drop m with
     | nil=>rw[hd] at h;exact ih c.tail h
     | cons b u=>
       rw[hd] at h;obtain rfl:=(List.cons.inj h).1;have:=d.2 b (List.mem_of_mem_drop (i:=m) (by rw[hd];simp));omega
def F9 (h:Ip K R) (k:Nat):Ea K (aL R k).2:=by
 unfold aL;rw[List.getD_eq_getElem?_getD];by_cases a:k<R.length
 ·rw[List.getElem?_eq_getElem a];exact h.lan _ (List.getElem_mem a)
 rw[List.getElem?_eq_none (by omega)];exact⟨λx b=>(by cases b),List.Pairwise.nil⟩
def WJ (h:Ip K R) {s:eZ} (i:eQ R s) (c:Nat):fE K c (mJ R s)=(iy K R s c).map (mJ R):=by
 have k:=F9 h s.1;unfold iy;by_cases b:K c=0
 ·rw[if_pos b];by_cases f:gV (nz s.2) (aL R s.1).2=true
  ·have j:=(sG i.len).1 f;unfold mJ;rw[j,List.nil_append];by_cases g:s.1+1<R.length
   ·rw[List.drop_eq_getElem_cons g,List.flatMap_cons,<-df g];show fE K c ((aL R (s.1+1)).1::_)=_;unfold fE;rw[if_pos b];by_cases d:(aL R (s.1+1)).1=c
    ·rw[if_pos d,if_pos ⟨f,g,d⟩,Option.map_some];show _=some (kQ _ _++_);rw[yH];rfl
    rw[if_neg d,if_neg λa=>d a.2.2];rfl
   rw[List.drop_eq_nil_of_le (by omega),if_neg λa=>g a.2.1];rfl
  rw[if_neg λa=>f a.1];have j:kQ s.2 (aL R s.1).2≠[]:=λe=>f ((sG i.len).2 e);unfold mJ;cases m:kQ s.2 (aL R s.1).2 with
  | nil=>exact absurd m j
  | cons a t=>
    show fE K c (a::_)=none;unfold fE;rw[if_pos b,if_neg λe=>LU k m (by rw[e];exact b)]
 rw[if_neg b];have l:=F6 b (h.rest s.1) i.len k;rw[<-Cy _ _ _ _ i.len,Option.map_map] at l;unfold mJ;rw[l,Option.map_map];rfl
def CB {s:eZ} (c:eQ R s):Co R s=true↔mJ R s=[]:=by
 unfold Co mJ;rw[Bool.and_eq_true,decide_eq_true_eq,List.append_eq_nil_iff,sG c.len];have:=c.lt;constructor
 ·rintro⟨a,b⟩;exact⟨b,by rw[List.drop_eq_nil_of_le (by omega)];rfl⟩
 rintro⟨a,b⟩;refine⟨?_,a⟩;by_cases d:s.1+1<R.length
 ·rw[List.drop_eq_getElem_cons d,List.flatMap_cons] at b;simp[LP] at b
 omega
structure TrF (K:Nat->Nat) (l:List Nat) (R:List bS):Prop where
 fine:Ip K R
 ne:R≠[]
 flat:(R.headD (0,[])).2.flatMap (·.2)++R.tail.flatMap LP=l
 last:∀x∈(R.getLastD (0,[])).2,l≠[]/\x.1<=K (l.getLastD 0)
def Tm {a:List Nat} :dJ K (a++[c])->dJ K a/\(a≠[]->¬swp K (a.getLastD 0) c):=by
 induction a with
 | nil=>intro _;exact⟨trivial,λh=>absurd rfl h⟩
 | cons x a ih=>
   intro h;cases a with
   | nil=>exact⟨trivial,λ_=>h.1⟩
   | cons y a=>
     obtain⟨b,d⟩:=ih h.2;exact⟨⟨h.1,b⟩,λ_=>by simpa using d (by simp)⟩
def WK (h:Ea K L) (q:K c=n) (h0:0<n) (g:∀x∈L,x.1<=n) :
 Ea K (sQ n c L)/\(sQ n c L).flatMap (·.2)=L.flatMap (·.2)++[c]/\∀x∈sQ n c L,x.1<=n:=by
 rcases List.eq_nil_or_concat L with rfl|⟨A,x,rfl⟩
 ·have e:sQ n c []=[(n,[c])]:=rfl;rw[e];refine⟨⟨λx d=>?_,List.pairwise_singleton _ _⟩,rfl,λx d=>?_⟩
  ·obtain rfl:=List.mem_singleton.1 d;exact⟨h0,λy f=>by rw[List.mem_singleton.1 f];exact q⟩
  obtain rfl:=List.mem_singleton.1 d;exact Nat.le_refl _
 obtain⟨m,l⟩:=x;rw[List.concat_eq_append] at *;by_cases j:m=n
 ·rw[yh j];have k:=List.pairwise_append.1 h.2;refine⟨⟨λx d=>?_,?_⟩,by simp,λx d=>?_⟩
  ·rcases List.mem_append.1 d with d|d
   ·exact h.1 x (List.mem_append_left _ d)
   obtain rfl:=List.mem_singleton.1 d;have:=h.1 (m,l) (by simp);refine⟨this.1,λy f=>?_⟩;rcases List.mem_append.1 f with f|f
   ·exact this.2 y f
   rw[List.mem_singleton.1 f];exact q.trans j.symm
  ·exact List.pairwise_append.2 ⟨k.1,List.pairwise_singleton _ _,λa o b p=>by
    rw[List.mem_singleton.1 p];exact k.2.2 a o (m,l) (by simp)⟩
  rcases List.mem_append.1 d with d|d
  ·exact g x (List.mem_append_left _ d)
  rw[List.mem_singleton.1 d];exact Nat.le_of_eq j
 rw[wN (λx d=>by rw[List.getLast?_concat] at d;obtain rfl:=Option.some.inj d;exact j)];have r:m<=n:=g (m,l) (by simp);have k:=List.pairwise_append.1 h.2;have i:∀x∈A++[(m,l)],x.1<n:=λx d=>by
  rcases List.mem_append.1 d with d|d
  ·have:=k.2.2 x d (m,l) (by simp);simp at this;omega
  rw[List.mem_singleton.1 d];show m<n;omega
 refine⟨⟨λx d=>?_,?_⟩,by simp,λx d=>?_⟩
 ·rcases List.mem_append.1 d with d|d
  ·exact h.1 x d
  obtain rfl:=List.mem_singleton.1 d;exact⟨h0,λy f=>by rw[List.mem_singleton.1 f];exact q⟩
 ·exact List.pairwise_append.2 ⟨h.2,List.pairwise_singleton _ _,λa o b p=>by rw[List.mem_singleton.1 p];exact i a o⟩
 rcases List.mem_append.1 d with d|d
 ·exact g x d
 rw[List.mem_singleton.1 d];exact Nat.le_refl _
def WM:∀(n:Nat) {l:List Nat},l.length=n->dJ K l->TrF K l (bq K l)
 | 0,l,hl,_=>by
   obtain rfl:=List.length_eq_zero_iff.1 hl;exact⟨⟨λr i=>by rw[show bq K []=[(0,[])] from rfl] at i;rw[List.mem_singleton.1 i];exact⟨λx d=>(by cases d),List.Pairwise.nil⟩,λr i=>(by cases i)⟩,by simp[bq],rfl,λx d=>(by cases d)⟩
 | n+1,l,hl,ho=>by
   rcases List.eq_nil_or_concat l with rfl|⟨l,c,rfl⟩
   ·cases hl
   rw[List.concat_eq_append] at *;have z:=WM n (l:=l) (by simpa using hl);obtain⟨y,t⟩:=Tm ho;obtain⟨f,k,h,g⟩:=z y;have e:bq K (l++[c])=BU K (bq K l) c:=by unfold bq;rw[List.foldl_append];rfl
   rw[e];generalize bq K l=R at *;rcases List.eq_nil_or_concat R with rfl|⟨A,r,rfl⟩
   ·exact absurd rfl k
   rw[List.concat_eq_append] at *;by_cases m:K c=0
   ·rw[BV m];refine⟨⟨λq b=>?_,λq b=>?_⟩,by simp,?_,λx d=>by simp at d⟩
    ·rcases List.mem_append.1 b with b|b
     ·exact f.lan q b
     rw[List.mem_singleton.1 b];exact⟨λx d=>(by cases d),List.Pairwise.nil⟩
    ·rw[List.tail_append_of_ne_nil (by simp)] at b;rcases List.mem_append.1 b with b|b
     ·exact f.head q b
     rw[List.mem_singleton.1 b];exact m
    rw[List.tail_append_of_ne_nil (by simp),List.flatMap_append,<-List.append_assoc,<-h];cases A <;> simp[LP]
   rw[yj m];have j:(A++[r]).getLastD (0,[])=r:=List.getLastD_concat ..;rw[j] at g;have o:∀x∈r.2,x.1<=K c:=λx d=>by
    have p:=g x d;have:=(f.lan r (by simp)).1 x d;have v:=t p.1;unfold swp at v;have:=p.2;omega
   obtain⟨u,s,w⟩:=WK (f.lan r (by simp)) rfl (by omega) o;refine⟨⟨λq b=>?_,λq b=>?_⟩,by simp,?_,λx d=>?_⟩
   ·rcases List.mem_append.1 b with b|b
    ·exact f.lan q (List.mem_append_left _ b)
    rw[List.mem_singleton.1 b];exact u
   ·cases A with
    | nil=>cases b
    | cons a A=>
      rw[List.cons_append,List.tail_cons] at b;rcases List.mem_append.1 b with b|b
      ·exact f.head q (by simp[b])
      rw[List.mem_singleton.1 b];exact f.head r (by simp)
   ·rw[<-h];cases A with
    | nil=>simp[s]
    | cons a A=>simp[LP,s]
   rw[List.getLastD_concat] at d⊢;exact⟨by simp,w x d⟩
def s0 (R:List bS):eZ:=(0,List.replicate (aL R 0).2.length 0)
def O_ (h:R≠[]):aL R 0=R.headD (0,[]):=by cases R with|nil=>exact absurd rfl h|cons a R=>rfl
def agA (h:R≠[]):eQ R (s0 R):=⟨List.length_pos_iff.2 h,by simp[s0],λi a b=>by simp[s0]⟩
def adj {l:List Nat} (h:TrF K l R):mJ R (s0 R)=l:=by
 conv=>rhs;rw[<-h.flat]
 unfold mJ s0;rw[yH,O_ h.ne];simp
end
end
end Go.Proofs.YtmnimbnojdndmaaGreatDoor
namespace Go.Cd
def fZ (ap:Nat->Bool) (out:List (List Nat)) (c:Nat):List (List Nat):=
 if out=[]\/ap c=true then out++[[c]] else out.dropLast++[out.getLastD []++[c]]
def bf (ap:Nat->Bool) (l:List Nat):List (List Nat):=l.foldl (fZ ap) []
def Tn {ap:Nat->Bool} {a:List (List Nat)} {c:Nat}:fZ ap a c≠[]:=by
 unfold fZ;split <;> simp
def gH {ap:Nat->Bool} (l:List Nat):(bf ap l).flatten=l:=by
 have:∀(l:List Nat) (o:List (List Nat)),(l.foldl (fZ ap) o).flatten=o.flatten++l:=by
  intro l
  induction l with
  | nil=>intro o;simp
  | cons c l ih=>
    intro o;rw[List.foldl_cons,ih];have:(fZ ap o c).flatten=o.flatten++[c]:=by
     unfold fZ;by_cases a:o=[]
     ·subst a;simp
     split
     ·simp
     obtain⟨q,x,rfl⟩:∃q x,o=q++[x]:=⟨o.dropLast,o.getLast a,(List.dropLast_concat_getLast a).symm⟩;simp[List.getLastD_eq_getLast?]
    rw[this];simp
 simpa [bf] using this l []
def sH {ap:Nat->Bool} {l u:List Nat} (h:u∈bf ap l):∀c∈u,c∈l:=by
 intro c a;rw[<-gH (ap:=ap) l];exact List.mem_flatten.2 ⟨u,h,a⟩
end Go.Cd
namespace Go.Proofs.YtmnimbnojdndmaaGreatDoor
open Go.RowKit Go.Cd
variable {K:Nat->Nat} {c:Nat} {T:List aG}
def ve {a:Nat}:∀{l:List Nat},dJ K (a::l)↔(∀b,l.head? = some b->¬swp K a b)/\dJ K l
 | []=>by simp[dJ]
 | b::l=>by simp[dJ]
def Tp {x:Nat}:∀{l:List Nat},(j_ K c l).head? = some x->x=c\/l.head? = some x
 | [],h=>.inl (by simpa [j_] using h.symm)
 | d::l,h=>by
   unfold j_ at h
   split at h
   ·right;simpa using h
   left;simpa using h.symm
def CE :∀{l:List Nat},dJ K l->dJ K (j_ K c l)
 | [],_=>by simp[j_,dJ]
 | d::l,h=>by
   unfold j_
   split
   ·rename_i hd;rw[ve] at h⊢;refine⟨λb a e=>?_,CE h.2⟩;rcases Tp a with rfl|a
    ·unfold swp at e;omega
    exact h.1 b a e
   rename_i hd;exact⟨hd,h⟩
def CG (K:Nat->Nat):∀l:List Nat,dJ K (gL K l)
 | []=>trivial
 | _::l=>CE (CG K l)
def zV :∀{a b:List Nat},dJ K (a++b)->dJ K a/\dJ K b
 | [],_,h=>⟨trivial,h⟩
 | x::a,b,h=>by
   rw[List.cons_append,ve] at h;have c:=zV h.2;refine⟨ve.2 ⟨λy d=>h.1 y ?_,c.1⟩,c.2⟩;cases a with
   | nil=>cases d
   | cons z a=>exact d
def vg :∀{L:List (List Nat)},dJ K L.flatten->∀u∈L,dJ K u
 | [],_,_,hu=>by cases hu
 | v::L,h,u,hu=>by
   rw[List.flatten_cons] at h;have:=zV h;rcases List.mem_cons.1 hu with rfl|hu
   ·exact this.1
   exact vg this.2 u hu
structure nG (T:List aG) (l:List Nat):Prop where
 leaf:∀x∈l,aD T x=[x]
 ord:dJ (ai T) l
def nG.of {X:List Nat} (b:aY T X) (l:List Nat):nG T (gQ T l):=by
 refine⟨λx a=>?_,CG _ _⟩;obtain⟨y,_,c⟩:=List.mem_flatMap.1 ((KW _).1 a);exact R7 b c
def adk (l:List Nat):nz l=l.map (λd:Nat=>(d:Int)):=rfl
def Pb:∀{R:List bS} {i:Nat},i<dO R->fK R (sW R i)=i
 | [],i,h=>absurd h (by simp[dO])
 | r::R,i,h=>by
   rw[wZ] at h;unfold sW;by_cases a:i<xD r
   ·rw[if_pos a];have b:gU (kM r) (nz (Cn (kM r) i)) (kM r).length=i:=by
     rw[Wn (kM r) i (pQ r) (by rw[<-uV];exact a) _ (adk _) _ (Nat.le_refl _),List.drop_length];simp[aW]
    show dO []+gU (kM r) (nz (Cn (kM r) i)) (kM r).length=i;rw[b];show 0+i=i;omega
   rw[if_neg a];have c:=Pb (R:=R) (i:=i-xD r) (by omega);unfold fK at c;show dO ((r::R).take ((sW R (i-xD r)).1+1))+gU (kM (aL R (sW R (i-xD r)).1)) (nz (sW R (i-xD r)).2) (kM (aL R (sW R (i-xD r)).1)).length=i;rw[List.take_succ_cons,wZ];omega
def F_ (bs:List Nat) (n:Nat):∀j,gU bs (nz (List.replicate n 0)) j=0
 | 0=>rfl
 | j+1=>by
   have a:(nz (List.replicate n 0))[j]?.getD 0=0:=by
    simp only[nz,List.getElem?_map];cases e:(List.replicate n 0)[j]? with
    | none=>rfl
    | some x=>
      have:=List.eq_of_mem_replicate (List.mem_of_getElem? e);subst this;rfl
   simp only[gU];rw[F_ bs n j,a];simp
def adl (R:List bS):fK R (s0 R)=0:=by
 unfold fK s0;rw[F_];simp[dO]
def l6 (T:List aG) (l:List Nat):List Nat:=jl (bq (ai T) l) (λs=>b_ (pO (ai T) (aD T) (uY T) (bq (ai T) l) s)) (fw (ai T) (aD T) (bq (ai T) l)) (dO (bq (ai T) l)) (dO (bq (ai T) l))
def w_ (T:List aG) (u:List Nat):(l6 T u).length=dO (bq (ai T) u):=FW _ _ _ _ _
def aal {l:List Nat} {i:Nat} {s:eZ} (a:i<dO (bq (ai T) l)) (e:fw (ai T) (aD T) (bq (ai T) l) (sW (bq (ai T) l) i) c=some s):i<fK (bq (ai T) l) s/\fK (bq (ai T) l) s<dO (bq (ai T) l):=by
 have b:=WB (uW a) (pF T c) e;rw[Pb a] at b;exact⟨b,nD (Cq (uW a) e)⟩
def CJ {l:List Nat} {i:Nat} (a:i<dO (bq (ai T) l)):(l6 T l).getD i 0=jk (bq (ai T) l) (λs=>b_ (pO (ai T) (aD T) (uY T) (bq (ai T) l) s)) (fw (ai T) (aD T) (bq (ai T) l)) (l6 T l) i:=
 WG rfl (λ_ _ _ h _ e=>(aal h e).1) a
section
open Go.RowKit Go.Cd Go.Shelf _root_.Go.Proofs.Tryz
attribute [local go_sem] Oper.semAt_some
def LV {w:World} {MB H dp:Nat} {T:List aG} {X:List Nat} {l:List Nat} (hD:cK w dp T X) (hV:aY T X) (zT:T.length<1000) (h:dP w MB H dp (ai T) l) (hl:l.length<400) (aC:∀c∈l,aP c) (ao:dO (bq (ai T) l)<=16384) :
 Calls prog 11 #[.pointer (some ⟨H,0,none⟩)] w λe w'=>∃pp g,e=.returned (.tuple #[.pointer (some ⟨pp,0,none⟩),.int .i64 0])/\jX w' w.heap.size pp g H (l6 T l)/\Below w.heap.size w w':=by
 have SZ:=aa (oG h);have aB:0<dO (bq (ai T) l):=by
  have h1:=(fD (ai T) l).1;have h2:=jW (R:=bq (ai T) l) (k:=0) (List.length_pos_iff.2 h1);have:=gG (bq (ai T) l) 1;have:=Qv ((bq (ai T) l)[0]'(List.length_pos_iff.2 h1));simp only[Nat.zero_add] at h2;omega
 have hM:∀i,i<dO (bq (ai T) l)->(b_ (pO (ai T) (aD T) (uY T) (bq (ai T) l) (sW (bq (ai T) l) i))).length<=Go.Cd.B:=λi hi=>Nat.le_trans (Cx zT hl (uW hi) _) (by unfold Go.Cd.B;decide);have FR:=aa (λ(W:World) (E:Below w.heap.size w W) (PB pp g:Nat) (L:List Nat) (hp:jX W PB pp g H L) (aW:L.length=dO (bq (ai T) l)) (aT:∀x∈L,x<=Go.Cd.B ^ tP) (i:Nat) (hi:i<dO (bq (ai T) l))=>Tg (hD.mono E) hV zT (h.mono E) hl aC ao hp aW aT hi);have u:l6 T l=pU (jk (bq (ai T) l) (λs=>b_ (pO (ai T) (aD T) (uY T) (bq (ai T) l) s)) (fw (ai T) (aD T) (bq (ai T) l))) (dO (bq (ai T) l)) (mE id (dO (bq (ai T) l)) (dO (bq (ai T) l))):=(F5 _ _ _ _ _).symm;have ab:∀(L:List Nat) (P i:Nat),1<=P->i<dO (bq (ai T) l)->(∀x∈L,x<=P)->jk (bq (ai T) l) (λs=>b_ (pO (ai T) (aD T) (uY T) (bq (ai T) l) s)) (fw (ai T) (aD T) (bq (ai T) l)) L i<=Go.Cd.B*P:=λL P i hP hi G=>Lv (by unfold Go.Cd.B;decide) hP (hM i hi) G;obtain⟨C,aw⟩:=ae (jk (bq (ai T) l) (λs=>b_ (pO (ai T) (aD T) (uY T) (bq (ai T) l) s)) (fw (ai T) (aD T) (bq (ai T) l)));obtain⟨n,hn⟩:=ae (dO (bq (ai T) l));obtain⟨a9,V⟩:=ae (l6 T l);rw[<-V] at u⊢;simp only[<-aw,<-hn] at SZ FR u ab aB ao;have HT:=aa u;have Q_:=aa ab;clear hD hV zT h hl aC hM aw hn V u ab;refine iW func11 rfl ?_;simp only[ntmps11,List.size_toArray,List.length_cons,List.length_nil,Nat.reduceAdd,Nat.reduceSub,Array.replicate_succ,Array.replicate_zero,List.push_toArray,List.append_toArray,List.nil_append,List.cons_append];go_wp2_with fail;refine SZ.out.mono ?_;rintro e w1⟨v1,rfl,ak,ad⟩;have UI:=aa (FP ak (by omega));obtain⟨na,nn,nc,rfl,_⟩:=ak.out;have aS:=ad.size;clear ak SZ;go_wp2_with fail;refine UI.out.mono ?_;rintro e w2⟨rfl,ap⟩;have am:=ad.trans (ap.mono aS);have af:=am.size;have:decide (16384<n)=false:=decide_eq_false (by omega);have:decide ((16384:Int)<(n:Int))=false:=decide_eq_false (by omega);clear UI
 go_wp2_with (
  at_make
  refine Ag rfl _ _ rfl w.heap.size .u64 .u64 _ _ n rfl rfl rfl rfl (by omega) af ?_
  intro d o3 aL)
 have Tq:=fO aL;have aK:=am.trans (Tq.mono af);have a3:=aK.size;have aO:w2.heap.size<d.heap.size:=(o3.lt w2.heap.size rfl).2;obtain⟨g,hg⟩:=ae w2.heap.size;rw[<-hg] at o3 aO af⊢;obtain⟨w4,z⟩:=ae ((d.alloc (.cells #[.pointer (some ⟨H,0,none⟩),.slice (some ⟨g,0,none⟩) n n] QB)).alloc (.cells #[.pointer (some ⟨d.heap.size,0,none⟩)] 37));rw[<-z];have CP:Below d.heap.size d w4:=by rw[z];exact dH _ _
 have aN:=aK.trans (CP.mono a3);have:d.heap.size+2=w4.heap.size:=by rw[z];simp
 have kP:Is w4 d.heap.size #[.pointer (some ⟨H,0,none⟩),.slice (some ⟨g,0,none⟩) n n] QB:=by rw[z];exact(Is.new _ _ _).mono (ah _)
 have kV:Is w4 (d.heap.size+1) #[.pointer (some ⟨d.heap.size,0,none⟩)] 37:=by rw[z];exact Is.new' _ _ _ _ (by simp)
 have hP:jX w4 w.heap.size d.heap.size g H (pU C n []):=by
  have e:(pU C n [])=List.replicate n 0:=rfl;rw[e];refine⟨by simpa using kP,List.replicate n (.slice none 0 0),by rw[List.length_replicate];exact aH o3 CP,λk hk=>⟨none,0,0,by rw[List.length_replicate] at hk;simp[hk],?_⟩⟩;rw[List.getElem_replicate];exact⟨_,rfl,by rw[di];exact .nil _ _ _ _ (λ_=>rfl)⟩
 have M:∀j,j<n->∃a m c,w4.cell? ⟨g,j,none⟩=some (.slice a m c):=λj hj=>by
  obtain⟨a,m,c,h,_⟩:=hP.at_ (k:=j) (by rw[LJ];exact hj);exact⟨a,m,c,h⟩
 have:=aa hg;clear z hg o3 aL Tq CP am ap ad kP;refine(Io _ w4 ⟨_,_,_,rfl⟩).mono ?_;rintro e w5⟨rfl,rfl⟩;go_wp2_with fail;have O:=ah (w:=w4) (.cells #[.slice (some ⟨g,0,none⟩) n n] 100);have:g≠w4.heap.size:=by omega
 refine(wpIn_wide (n:=5)).1 ?_;refine wpIn_rangeFunc_ownG (F:=Fence.wide) rfl (by omega) (gf:=84) (lb:=#[.pointer (some ⟨w4.heap.size,0,none⟩)]) rfl trivial (enters_of func84 (by kernel_rfl) rfl)
  (LH Fence.wide 4 trivial rfl (by omega) w4.heap.size g n n (by omega) (w4.alloc (.cells #[.slice (some ⟨g,0,none⟩) n n] 100)) (by simp) (by simp;omega) ((Is.new w4 _ _).at 0 rfl) (λj hj=>by
    obtain⟨a,m,c,h⟩:=M j hj
    exact⟨a,m,c,(O.cell (p:=⟨g,j,none⟩) (by show g<w4.heap.size;omega)).trans h⟩))
  (λh k=>h.trans k) (λW l o o' hl ho hc _=>by
    have:w4.heap.size+1<=l:=by simpa using hl
    refine⟨World.cell?_of_block (World.putObj_heap_other (by simp only;omega)),λj hj G=>?_⟩;rw[World.cell?_of_block (w:=W) (World.putObj_heap_other (by simp only;omega))]
    exact G) (Below.refl _ _) (λ_=>rfl)
  (λb W=>((∀x∈pU C n (b.map λx=>x.1.1),x<=Go.Cd.B ^ b.length)/\jX W w.heap.size d.heap.size g H (pU C n (b.map λx=>x.1.1))/\Is W (d.heap.size+1) #[.pointer (some ⟨d.heap.size,0,none⟩)] 37/\w4.heap.size+1<=W.heap.size)/\Below w.heap.size w W)
  (λ_ _ _=>False)
  (OwnFrom.and (Own.from (λs A B row hs hg hr=>⟨hs.1,hs.2.1.QC hg hr,⟨oh hg hr hs.2.2.1.at_⟩,Nat.le_trans hs.2.2.2 hg.size⟩) _) (ownFrom_below (Nat.le_refl _) (by simp;omega)))
  (λc s A B row hs _ _=>hs.elim)
  ⟨⟨λx G=>by rw[show pU C n (([]:List (BN n)).map λx=>x.1.1)=List.replicate n 0 from rfl] at G;rw[List.eq_of_mem_replicate G];exact Nat.zero_le _,hP.mono O,kV.mono O,by simp⟩,aN.trans (O.mono (by omega))⟩
  (λx=>{ tmps:=#[.pointer (some ⟨H,0,none⟩),undef,.pointer none,.int .i64 0,.int .u64 n,.bool true,.pointer (some ⟨d.heap.size+1,0,none⟩),.int .i64 (x.1.1:Nat),.tuple #[.int .u64 n,.bool true],.pointer (some ⟨H,0,none⟩),.agg #[.slice na nn nc],
    .tuple #[.int .u64 n,.bool true],.int .u64 n,.bool true,.bool true,.bool false,.bool false,.int .u64 n,.bool false,.bool false,.pointer (some ⟨H,0,none⟩),.int .u64 n,.slice (some ⟨g,0,none⟩) n n,.agg #[.pointer (some ⟨H,0,none⟩),.slice (some ⟨g,0,none⟩) n n],
    .pointer (some ⟨d.heap.size,0,none⟩),.pointer (some ⟨d.heap.size,0,none⟩),.pointer (some ⟨d.heap.size,0,none⟩),.pointer (some ⟨d.heap.size,1,none⟩),.slice (some ⟨g,0,none⟩) n n,.func (.func 84) #[] #[.pointer (some ⟨w4.heap.size,0,none⟩)],
    .int .i64 (x.1.1:Nat),x.1.2,undef,undef,undef,undef,undef,undef,undef,undef,undef,undef],defers:=[] }) ?assign ?body ?done ?stop
 case assign=>
  intro l x W K hK
  gi_wp2
  exact hK
 case body=>
  rintro l b⟨⟨i,v⟩,Q⟩ Wr ⟨⟨f,t,I,aZ⟩,J⟩ aR;have Je:=J.size;have al:=LJ C n (b.map λx=>x.1.1);have Y:pU C n ((b++[(⟨(i,v),Q⟩:BN n)]).map λx=>x.1.1)=(pU C n (b.map λx=>x.1.1)).set i (C (pU C n (b.map λx=>x.1.1)) i):=by rw[List.map_append];exact F4 _ _ _ _
  have Z:Go.Cd.B ^ b.length<=Go.Cd.B ^ tP:=Nat.pow_le_pow_right (by unfold Go.Cd.B;decide) (show b.length<=16384 by omega);have N:=Q_.out (pU C n (b.map λx=>x.1.1)) (Go.Cd.B ^ b.length) i (one_le_pow (by unfold Go.Cd.B;decide) _) Q f;have ac:(b++[(⟨(i,v),Q⟩:BN n)]).length=b.length+1:=by simp
  obtain⟨L,av⟩:=ae (pU C n (b.map λx=>x.1.1));rw[<-av] at f t al Y N;obtain⟨q,hq⟩:=ae b.length;rw[<-hq] at f Z N ac aR;have aq:=FR.out Wr.drew (J.trans ((ag Wr).mono Je)) _ _ _ L (t.mono (ag Wr)) al (λx G=>Nat.le_trans (f x G) Z) i Q;have au:=aa Y;have aV:=aa ac;have aU:=aa aq;have a2:=aa f;have Yu:=aa N;have p1:=Gr.cell (ag Wr) (t.is.at 1 rfl);rw[al] at p1;have v1:=I.gd 0 rfl;clear Y ac aq f Z N av hq;refine wpIn_block ?_;dsimp only;refine D_ #[true,true,true,true,true,true,true,true,true,false] 9 1 mixed (by rfl) (by kernel_rfl) (by rintro⟨a,w,h⟩;exact h) ?_;refine ay [0,1,2,3,4,5,6] 2 ?_
  iterate 7 (refine aA rfl ?_;go_big_quiet_step (rfl))
  refine az ?_;refine aI 7 ?_;go_wp2_with fail;refine aU.out.mono ?_;rintro e wc⟨r,rfl,hN,ax⟩;obtain⟨ua,un,uc,rfl,hN⟩:=hN.out;go_wp2_with fail;refine aF ax ?_;refine ay [8] 0 ?_
  iterate 1 (refine aA rfl ?_;go_big_quiet_step (rfl))
  refine az ?_;have y:=(ag Wr).trans ax;have U:=t.mono y;have aX:=I.mono y;have an:i<L.length:=by omega
  obtain⟨oa,om,oc,a7,_⟩:=U.at_ an;have:=U.frozen an;have ar:=U.store an hN;obtain⟨cs,a1⟩:=bV U.row.choose_spec.1 (k:=g) rfl;have ch:=bJ.put (o:=i) (⟨a1⟩:Is wc g cs eD) (.slice ua un uc);have aQ:=ch.is aX (by decide);refine aJ [9] ?_;refine tail_cons rfl ?_;go_wp2_with fail;refine tail_nil ?_;have aM:=J.trans (y.mono Je);refine⟨((KeepsOthers.of_below y).trans (KeepsOthers.setCell _ _ _)).from _,⟨?_,λj hj G=>?_⟩,⟨?_,?_,aQ,?_⟩,aj aM (by omega)⟩
  ·rw[World.cell?_of_block (w:=wc) (Below.heap_setCell _ _ _ _ (by simp only;omega))];exact y.cell (p:=⟨w4.heap.size,0,none⟩) (by show w4.heap.size<Wr.heap.size;omega)
  ·obtain⟨a,m,c,h,_⟩:=ar.at_ (k:=j) (by rw[List.length_set];omega);exact⟨a,m,c,h⟩
  ·intro x G;rw[au.out] at G;rw[aV.out];rcases List.mem_or_eq_of_mem_set G with h|rfl
   ·exact Nat.le_trans (a2.out x h) (Nat.pow_le_pow_right (by unfold Go.Cd.B;decide) (Nat.le_succ _))
   rw[Nat.pow_succ'];exact Yu.out
  ·rw[au.out];exact ar
  have:=y.size;simp only[World.size_setCell];omega
 case done=>
  rintro D ys Wd hD S⟨⟨f,t,I,aZ⟩,J⟩ hK;have S:ys.map (λx=>x.1.1)=mE id n n:=S;rw[S,<-HT.out] at t;have:w4.heap.size+1<=D:=by simpa using hD
  have Uw:Wd.grownBy (Wd.putObj D (.deferred none)) (some D):=grownBy_putObj' Wd D (.deferred none);have aE:∀r,some D=some r->∃o:Obj,Wd.heap[r]? = some o/\o.isCells=false:=λr e=>by cases e;exact⟨_,hK,rfl⟩
  have a0:=aa (t.QC Uw aE);have Vk:=aa (J.trans (belowK_b (w:=w) (Nat.le_refl _) Wd D _ (.deferred none) (by omega) hK rfl rfl));have:=I.at 0 rfl;clear f t I Uw aE S;go_wp2;refine⟨by simp,.inl ⟨_,_,rfl,run_takeDeferred hK,?_⟩⟩;exact⟨.tuple #[.pointer (some ⟨d.heap.size,0,none⟩),.int .i64 0],by simp[results,results11,go_sem],_,_,rfl,a0.out,Vk.out⟩
 case stop=>
  rintro D c b Wd _ _ h _;exact h.elim
end
end Go.Proofs.YtmnimbnojdndmaaGreatDoor
namespace Go.Proofs.YtmnimbnojdndmaaGreatDoor
open Go.RowKit Go.Cd _root_.Go.Proofs.Tryz
variable {T:List aG} {X l:List Nat} {w w':World} {p B j:Nat} {us:List (List Nat)} {a:List Value} {v:Value} {ap:Nat->Bool} {K:Nat->Nat}
def yI (T:List aG):List Nat:=(mapped T).flatMap λr=>(aD T r.code).drop 1
def adm {E:List eB} (h:E.map (·.1)=(mapped T).map (·.code)):BH T E=yI T:=by
 have b:BH T E=(E.map (·.1)).flatMap λc=>(aD T c).drop 1:=by unfold BH;rw[List.flatMap_map]
 have a:yI T=((mapped T).map (·.code)).flatMap λc=>(aD T c).drop 1:=by unfold yI;rw[List.flatMap_map]
 rw[b,a,h]
def CQ (T:List aG) (c:Nat):Bool:=decide (c∈yI T)||(hk c==2||hk c==3)
def WN (a:aY T X):(yI T).length<=32*T.length:=by
 have key:∀L:List aG,(L.flatMap λr=>(aD T r.code).drop 1).length<=32*L.length:=λL=>by
  induction L with
  | nil=>simp
  | cons r L ih=>
    rw[List.flatMap_cons,List.length_append,List.length_drop,List.length_cons];have:=il a r.code;omega
 refine Nat.le_trans (key _) (Nat.mul_le_mul_left _ (List.length_filter_le _ _))
def LW (h:cK w p T X) (z:aY T X) (P:T.length<1000) (c:Nat) (B:c<1114112) :
 Calls prog 132 #[.pointer (some ⟨p,0,none⟩),.int .i32 c] w λe w'=>e=.returned (.bool (CQ T c))/\Below w.heap.size w w':=by
 obtain⟨E,R,xv,L,D,Q,I,F,N,O,G,i,_,_,f,_⟩:=h;have u:=i.is;rw[adm i.mG] at f;have o:=(lq (yI T)).1;have a:(lC (gu (yI T))).length<1000000:=by
  have i:=AZ (gu (yI T));have j:=xR (yI T);have m:=WN z;omega
 obtain⟨s,b⟩:=ae (decide (places (lC (gu (yI T))) c % 2=1));have r:=aa (λ(W:World) (E:Below w.heap.size w W)=>J8 (w:=W) (lC (gu (yI T))) c ((Sl.aU f).any.mono E) a (Ey o));rw[<-b] at r;have v:CQ T c=(s||(hk c==2||hk c==3)):=by
  unfold CQ;congr 1;rw[b,decide_eq_decide,JA o,(lq (yI T)).2]
 rw[v];have l:=aa (rQ (w:=w) c B);obtain⟨k,d⟩:=ae (hk c);have n:=vU c;rw[<-d] at l n⊢;have q:=ak f;obtain⟨J,S,rfl,_,_⟩:=q;have y:=u.at 7 rfl;clear i f u o a b v d;go_enter func132,ntmps132;go_wp2_with fail;refine l.out.mono ?_;rintro e t⟨rfl,x⟩;obtain rfl:t=w:=x;go_wp2_with fail;refine(r.out t (Below.refl _ _)).mono ?_;rintro e K⟨rfl,g⟩;clear r l y;cases s with
 | true=>
   go_wp2_with fail;go_ret;exact⟨by simp,g⟩
 | false=>
   by_cases j:k=2
   ·subst j;go_wp2_with fail;go_ret;exact⟨by simp,g⟩
   have:((k:Int)==2)=false:=by simp;omega
   have C:(k==2)=false:=by simp[j]
   by_cases m:k=3
   ·subst m;go_wp2_with fail;go_ret;exact⟨by simp,g⟩
   have:((k:Int)==3)=false:=by simp;omega
   have A:(k==3)=false:=by simp[m]
   go_wp2_with fail;go_ret;exact⟨by simp[C,A],g⟩
def kF (T:List aG) (c:Nat):Bool:=(ai T ((aD T c).headD 0)==0)&&!CQ T ((aD T c).headD 0)
def Ga {c:Nat}:(aD T c).head? = some ((aD T c).headD 0):=by
 have:=pF T c;cases h:aD T c with
 | nil=>exact absurd h this
 | cons a l=>rfl
def LZ (h:cK w p T X) (s:aY T X) (G:T.length<1000) (c:Nat) (u:aP c) :
 Calls prog 90 #[.pointer (some ⟨p,0,none⟩),.int .i32 c] w λe w'=>e=.returned (.bool (kF T c))/\Below w.heap.size w w':=by
 have t:c<1114112:=u.1;have x:=aa (gZ (w:=w) c (by omega));rw[decide_eq_true u] at x;have Q:=aa (pG h s G c t);obtain⟨f,hf⟩:=ae ((aD T c).headD 0);have q:f∈aD T c:=by
  have j:=Ga (T:=T) (c:=c);rw[<-hf] at j;exact List.mem_of_head? j
 have l:=(ow s u q).1;have A:=aa (λ(W:World) (E:Below w.heap.size w W)=>iM (h.mono E) s f l);have I:=aa (λ(W:World) (E:Below w.heap.size w W)=>LW (h.mono E) s G f l);have F:kF T c=((ai T f==0)&&!CQ T f):=by unfold kF;rw[<-hf]
 rw[F];obtain⟨k,v⟩:=ae (ai T f);obtain⟨b,m⟩:=ae (CQ T f);rw[<-v] at A⊢;rw[<-m] at I⊢;have J:=aa hf;have d:=List.length_pos_iff.2 (pF T c);clear h v m F hf q;go_enter func90,ntmps90;go_wp2_with fail;refine x.out.mono ?_;rintro e O⟨rfl,K⟩;obtain rfl:O=w:=K;go_wp2_with fail;refine Q.out.mono ?_;rintro e D⟨r,rfl,C,H⟩;obtain⟨g,cap,rfl,_,_,_,_,a⟩:=dz C d;have L:D.cell? ⟨g,0,none⟩=some (.int .i32 (f:Nat)):=by
  refine a 0 _ ?_;rw[J.out,List.getElem?_eq_getElem (by simpa using d),dR _ _ d];congr 2;have j:=Ga (T:=T) (c:=c);rw[List.head?_eq_getElem?,List.getElem?_eq_getElem d] at j;injection j with j;rw[j]
 obtain⟨n,B⟩:=ae ((aD T c).length);rw[<-B] at d⊢;clear C a B;go_wp2_with fail;refine(A.out D H).mono ?_;rintro e P⟨rfl,M⟩;have i:=af H M;clear L;by_cases o:k=0
 ·subst o;have z:((0:Nat):Int)=0:=rfl;go_wp2_with fail;refine(I.out P i).mono ?_;rintro e R⟨rfl,N⟩;go_wp2_with fail;go_ret;exact⟨by simp,af i N⟩
 have z:((k:Int)==0)=false:=by simp;omega
 have y:(k==0)=false:=by simp[o]
 go_wp2_with fail;go_ret;exact⟨by simp[y],i⟩
abbrev eSl:TypeId:=35
def ado:Elem prog 122 eSl (.slice none 0 0) 24:=⟨rfl,underlying122,info_parts (by kernel_rfl)⟩
structure xe (w:World) (B:Nat) (Z:ig) (ov:Value) (us:List (List Nat)) (vals:List Value):Prop where
 len:vals.length=us.length
 row:w.ownsRow B eSl 1 ov us.length vals
 z:Ut w Z
 zb:∀k,Z k≠none->B<=k
 own:∀k (hk:k<us.length),∃v,vals[k]? = some v/\si w B Z k v us[k]
def xe.ext {Z:ig} {f:Value} (h:xe w B Z f us a) (c:Below w.heap.size w w'):xe w' B Z f us a:=
 have d:∀k,Z k≠none->w'.heap[k]? = w.heap[k]?:=λk b=>c.block k (h.z k b).1
 ⟨h.len,aH h.row c,h.z.mono c.size d,h.zb,λk b=>by obtain⟨v,e,o⟩:=h.own k b;exact⟨v,e,o.mono d⟩⟩
def xe.nil (w:World) (B:Nat):xe w B (λ_=>none) (.slice none 0 0) [] []:=⟨rfl,World.ownsRow_nil _ _ _ _,λ_ h=>absurd rfl h,λ_ h=>absurd rfl h,λ_ h=>absurd h (by simp)⟩
def xe.push {Z:ig} {g b:Value} (h:xe w B Z g us a) (m:w'.ownsRow B eSl 1 b (us.length+1) (a++[.slice none 0 0])) (i:w.grownBy w' g.ownBlock) :
 xe w' B Z b (us++[[]]) (a++[.slice none 0 0]):=by
 have c:=bJ.bQ h.row i;have f:=c.z h.z (by decide);refine⟨by simp[h.len],by simpa using m,h.z.mono c.size f,h.zb,λk l=>?_⟩;by_cases e:k<us.length
 ·obtain⟨v,j,o⟩:=h.own k e;refine⟨v,?_,?_⟩
  ·rw[List.getElem?_append_left (by rw[h.len];exact e)];exact j
  rw[List.getElem_append_left e];exact o.mono f
 have d:k=us.length:=by simp at l;omega
 subst d;refine⟨.slice none 0 0,?_,?_⟩
 ·rw[<-h.len,List.getElem?_append_right (Nat.le_refl _),Nat.sub_self];rfl
 rw[List.getElem_append_right (Nat.le_refl _)];simp only[Nat.sub_self,List.getElem_cons_zero];exact si.nil _ _ _ _
def xe.add {Z p:ig} {g n cap:Nat} (h:xe w B Z (.slice (some ⟨g,0,none⟩) n cap) us a) {k:Nat} (D:k<us.length) (b:vK w Z k w' p) {u:List Nat} (y:si w' B p k v u) (E:B<=w.heap.size) :
 xe (w'.setCell ⟨g,k,none⟩ v) B p (.slice (some ⟨g,0,none⟩) n cap) (us.set k u) (a.set k v):=by
 have r:us.length=n:=by
  obtain⟨_,_,e,_⟩:=dz h.row (by omega);injection e with _ e _;exact e.symm
 have c:=b.iQ h.z;have q:=c.own h.row (by decide);have C:=bV q (k:=g) rfl;obtain⟨t,m⟩:=C;have s:=bJ.put (o:=k) (⟨m⟩:Is w' g t eSl) v;have i:=s.z b.z (by decide);rw[r] at q;refine⟨by simp[h.len],by rw[List.length_set,r];exact(q.stored k v).1,b.z.mono s.size i,λj f=>?_,λj f=>?_⟩
 ·by_cases l:j<w.heap.size
  ·by_cases e:Z j=some k
   ·exact h.zb j (by rw[e];simp)
   rw[b.sub j l e] at f;exact h.zb j f
  omega
 have d:j<us.length:=by simpa using f
 by_cases e:j=k
 ·subst e;refine⟨v,by rw[List.getElem?_set_self (by rw[h.len];exact d)],?_⟩;rw[List.getElem_set_self];exact y.mono i
 obtain⟨x,A,o⟩:=h.own j d;refine⟨x,by rw[List.getElem?_set_ne (Ne.symm e)];exact A,?_⟩;rw[List.getElem_set_ne (Ne.symm e)];exact(b.other e o).mono i
def CR (a:j<l.length):bf ap (l.take (j+1))=fZ ap (bf ap (l.take j)) l[j]:=by
 unfold bf;rw[List.take_succ_eq_append_getElem a,List.foldl_append];rfl
def Tt (a:j<=l.length):bf ap (l.take j)=[]↔j=0:=by
 cases j with
 | zero=>simp[bf]
 | succ j=>
   rw[CR (by omega)];simp[Tn]
def oH {ap:Nat->Bool}:∀(l:List Nat) (o:List (List Nat)),(l.foldl (fZ ap) o).length<=o.length+l.length
 | [],_=>Nat.le_refl _
 | c::l,o=>by
   have:=oH (ap:=ap) l (fZ ap o c);have:(fZ ap o c).length<=o.length+1:=by unfold fZ;split <;> simp <;> omega
   rw[List.foldl_cons,List.length_cons];omega
def L6 (h:cK w p T X) (hV:aY T X) (hl:T.length<1000) (l:List Nat) (hv:bG w v (aM l)) (hc:∀c∈l,aP c) (aR:l.length<3000) :
 Calls prog 58 #[.pointer (some ⟨p,0,none⟩),v] w λe w'=>∃r d,e=.returned r/\w'.ownsRow w.heap.size eSl 1 r (bf (kF T) l).length d/\d.length=(bf (kF T) l).length/\(∀k (hk:k<(bf (kF T) l).length),∃u,d[k]? = some u/\w'.ownsRow w.heap.size aN 1 u ((bf (kF T) l)[k]).length (aM (bf (kF T) l)[k]))/\Below w.heap.size w w':=by
 obtain⟨n,hn⟩:=ae l.length;obtain⟨a,cap,rfl,aU,hx⟩:=bG.Hl hv hn;have HX:=aa hx;have HC:=aa hc;have HN:=aa hn;have AP:=aa (λ(W:World) (E:Below w.heap.size w W) c (hc:aP c)=>LZ (h.mono E) hV hl c hc);obtain⟨ap,aw⟩:=ae (kF T);rw[<-aw] at AP⊢;rw[<-hn] at aR;clear h hV hl hv hc hx hn aw;go_enter func58,ntmps58;go_wp2_with fail;go_loopw [5,8,11] (λov _ iv wr=>∃j:Nat,j<=n/\iv=.int .i64 j/\(∃Z d,xe wr w.heap.size Z ov (bf ap (l.take j)) d)/\Below w.heap.size w wr) (λ_ _ iv _=>n-(intOf iv).toNat)
 case atStart=>exact⟨0,Nat.zero_le _,rfl,⟨_,_,xe.nil _ _⟩,Below.refl _ _⟩
 case round=>
  obtain⟨j,hj,rfl,⟨Z,d,hU⟩,hE⟩:=hrel;by_cases a4:j<n
  ·have zj:=eG (show j<n by omega);have M:j<l.length:=by have:=HN.out;omega
   obtain⟨b,off,rfl,a1,av⟩:=HX.out j M;have c0:=aB hE av;clear av;have V:=HC.out _ (List.getElem_mem M);obtain⟨us,ze⟩:=ae (bf ap (l.take j));have N:=Tt (ap:=ap) (l:=l) (j:=j) (by omega);have C:=CR (ap:=ap) M;have aZ:us.length<=j:=by
    rw[ze];refine Nat.le_trans (oH _ _) ?_;rw[List.length_take];simp;omega
   have Eb:∀y∈us,y.length<=j:=λy J=>by
    have h1:=gH (ap:=ap) (l.take j);rw[<-ze] at h1;have h2:=congrArg List.length h1;rw[List.length_take] at h2;have h3:=List.Sublist.length_le (List.sublist_flatten_of_mem J);omega
   have aq:=aa Eb;rw[<-ze] at hU N C;obtain⟨x,Aq⟩:=ae (l[j]);rw[<-Aq] at c0 V C;have HU:=aa hU;have aH:=aa C;have ab:=aa N;have CK:=aa (AP.out wr hE x V);obtain⟨bx,Q⟩:=ae (ap x);rw[<-Q] at CK;have aD:=aa Q;have aQ:=hE.size;clear hU C N ze Aq Q V Eb;go_upto_region 5 with fail;go_cut [22] from 16 to 21 (λtv wx=>∃tb:Bool,tv=.bool tb/\(tb=true↔us=[]\/ap x=true)/\Below wr.heap.size wr wx)
   case first=>
    by_cases am:j=0
    ·subst am;have H0:=aa (ab.out.2 rfl);go_wp2_with fail;go_meet;exact⟨true,rfl,by simp[H0.out],Below.refl _ _⟩
    have z0:((j:Int)==0)=false:=by simp;omega
    go_wp2_with fail;refine CK.out.mono ?_;rintro e w6⟨rfl,aO⟩;go_wp2_with fail;go_meet;exact⟨bx,rfl,by rw[aD.out];exact⟨λh=>.inr h,λh=>h.resolve_left λe=>am (ab.out.1 e)⟩,aO⟩
   case rest=>
    clear c0;obtain⟨tb,rfl,ac,U⟩:=hcut;have K:=aa ac;have B:=aa (HU.out.ext U);have Ql:=hE.trans (U.mono aQ);have aK:=Ql.size;clear ac U hE;go_upto_if 22 with fail;go_cut [5] from 23 to 25 (λov wx=>(∃Z d s,xe wx w.heap.size Z ov s d/\s≠[]/\s.length<=j+1/\(∀y∈s,y.length<=j)/\fZ ap us x=s.set (s.length-1) (s.getLastD []++[x]))/\Below w.heap.size w wx)
    case first=>
     cases tb with
     | true=>
       have P:=B.out.row;have aV:=B.out.len;have vH:=aa (K.out.1 rfl);have jh:=ah (w:=wc) (.cells #[.slice none 0 0] eSl);go_wp2_with (refine f_ (W:=wc) rfl _ _ 122 rfl w.heap.size eSl (.slice none 0 0) 24 ado u5 us.length d rfl P (.slice none 0 0) rfl rfl (by omega) (by unfold maxLen;omega) w Ql (Nat.le_refl _) ?_;intro v7 w7 o7 b7 _ g7);have az:=aa ((B.out.ext jh).push o7 g7);clear o7 g7 P;go_wp2_with fail;go_meet
       refine⟨⟨Z,_,us++[[]],az.out,by simp,by simp;omega,λy J=>(by
        rcases List.mem_append.1 J with J|J
        ·exact aq.out y J
        rw[List.mem_singleton.1 J];exact Nat.zero_le _),?_⟩,b7⟩
       unfold fZ;rw[if_pos vH.out];simp
     | false=>
       have vH:=aa (show ¬(us=[]\/ap x=true) from λh=>by have:=K.out.2 h;cases this);go_wp2_with fail;go_meet;refine⟨⟨Z,d,us,B.out,λe=>vH.out (.inl e),by omega,aq.out,?_⟩,Ql⟩;unfold fZ;rw[if_neg vH.out];have af:us≠[]:=λe=>vH.out (.inl e);obtain⟨q,y,rfl⟩:∃q y,us=q++[y]:=⟨us.dropLast,us.getLast af,(List.dropLast_concat_getLast af).symm⟩;simp[List.getLastD_eq_getLast?]
    case rest=>
     clear HU B Ql aK K;obtain⟨⟨Z1,aW,s,H,I,a5,ar,al⟩,au⟩:=hcut;obtain⟨m,hm⟩:∃m,s.length=m+1:=⟨s.length-1,by have:=List.length_pos_iff.2 I;omega⟩;have G:=H.row;rw[hm] at G;obtain⟨g,a0,A,aL,_,_,_,f⟩:=dz G (Nat.succ_pos m);subst A;obtain⟨lv,D,A⟩:=H.own m (by omega);obtain⟨la,lc,aA,_,_⟩:=ak A.1;subst aA;have c1:=f m _ D;have f1:=G.frozenAt m;obtain⟨u,hu⟩:=ae (s[m]);rw[<-hu] at A D c1;have ad:s.getLastD []=u:=by
      rw[hu,List.getLastD_eq_getLast?,List.getLast?_eq_getElem?,show s.length-1=m by omega,List.getElem?_eq_getElem (show m<s.length by omega)];rfl
     have aJ:=aa D;have ai:=aa H;have HM:=aa hm;have aI:=aa (show bf ap (l.take (j+1))=s.set m (u++[x]) from by rw[aH.out,al,ad,hm,Nat.add_sub_cancel]);have aX:u.length<=j:=by rw[hu];exact ar _ (List.getElem_mem _)
     have Y:IntKind.i64.wrap (((m+1:Nat):Int)-1)=(m:Int):=by rw[IntWalk.i64_in _ (by omega)];omega
     have aF:=au.size;obtain⟨L,aS⟩:=ae wc;subst aS;have kT:=ah (w:=L) (.cells #[.int .i32 (x:Nat)] aN);have t:=ai.out.ext kT;have S:=A.mono (λk hk=>kT.block k (ai.out.z k hk).1);have yf:Below w.heap.size w (L.alloc (.cells #[.int .i32 (x:Nat)] aN)):=au.trans (kT.mono aF);clear H G f D hu ad al I ar A;have an:∀(i:Nat) (u:Value),([.int .i32 (x:Nat)]:List Value)[i]? = some u->(L.alloc (.cells #[.int .i32 (x:Nat)] aN)).cell? ((⟨L.heap.size,0,none⟩:Addr).add i)=some u:=λi u hi=>by
      rcases i with _|i
      ·cases hi;exact(Is.new L _ aN).at 0 rfl
      cases hi
     have aC:=aa an;clear an
     go_wp2_with (
      refine ng (W:=L.alloc (.cells #[.int .i32 (x:Nat)] aN)) rfl _ _ 35 rfl w.heap.size aN (.int .i32 0) 4 bW (by decide) (v:=.slice la u.length lc) rfl S.1 (by rw[World.size_alloc];omega) [.int .i32 (x:Nat)] (λu hu=>by rw[List.mem_singleton.1 hu];rfl) ⟨L.heap.size,0,none⟩ 1 1 rfl rfl aC.out (by omega) ?_;intro a3 zL O Wj ag;obtain⟨va,vc,rfl,_,_⟩:=ak O;obtain⟨Z5,F,ao⟩:=vK.ja (l':=u++[x]) t.z S (by rw[a_,List.length_append];exact O) Wj ag;have Ko:Below w.heap.size w zL:=yf.trans (F.below t.zb (by simp;omega));have ax:=t.add (k:=m) (by have:=HM.out;omega) F ao (by simp;omega);have R:=(F.iQ t.z).own t.row (by decide);have ay:w.heap.size<=g:=(R.lt g rfl).1;have P:=R;rw[HM.out] at P;obtain⟨g',aT,e,_,_,_,_,f⟩:=dz P (Nat.succ_pos m);injection e with Y _ e3;subst e3;injection Y with Y;injection Y with Y;subst Y;have a2:=f m _ aJ.out;have a6:=P.frozenAt m;have aE:=aa ax
      clear O Wj ag F ao ax t S R P f)
     go_roundw
     case rel=>exact⟨j+1,by omega,by simp,⟨_,_,by rw[aI.out];exact aE.out⟩,aj Ko ay⟩
     case measure=>simp[intOf];omega
  have zj:=gI (show n<=j by omega);obtain rfl:j=n:=by omega
  have ht:l.take j=l:=List.take_of_length_le (by rw[HN.out];exact Nat.le_refl _);rw[ht] at hU;have HU:=aa hU;clear hU ht;go_wp2_with fail;go_ret;exact⟨_,d,rfl,HU.out.row,HU.out.len,λk hk=>by obtain⟨u,e,o⟩:=HU.out.own k hk;exact⟨u,e,o.1⟩,hE⟩
def L8 {u g t:Nat} {a:List Nat} (n:jX w u p g t a) (h0:0<a.length) (s:a.length<=16384) :
 Calls prog 18 #[.pointer (some ⟨p,0,none⟩)] w λe w'=>∃r,e=.returned r/\bT w' r (a.getD 0 0)/\Below w.heap.size w w':=by
 obtain⟨j,k,l,d,b⟩:=n.at_ h0;rw[show a.getD 0 0=a[0] by rw[List.getD_eq_getElem?_getD,List.getElem?_eq_getElem h0];rfl];obtain⟨x,o⟩:=ae (a[0]);rw[<-o] at b⊢;obtain⟨z,h⟩:=ae a.length;have c:=n.is;rw[<-h] at c h0 s;have f:=ah (w:=w) (.cells #[.slice none 0 0] eD);have m:=Is.new w #[.slice none 0 0] eD;have:=(c.mono f).at 1 rfl;have:=aB f d;have:=m.at 0 rfl;have:=m.frozen 0;have q:=(Is.new w #[.slice j k l] eD).at 0 rfl;have y:=aa (b.mono (ah (w:=w) (.cells #[.slice j k l] eD)));have i:=aa (ah (w:=w) (.cells #[.slice j k l] eD));clear n o h b d m c;go_enter func18,ntmps18;go_wp2_with fail;exact bodyPost_ret (v:=.agg #[.slice j k l]) (by simp[results,results18,go_sem,q]) rfl ⟨_,rfl,y.out,i.out⟩
def WO (w:World) (v:Value) (dp:Nat) (K:Nat->Nat) (us:List (List Nat)):Prop:=
 ∃a c,v=.slice a us.length c/\∀k (f:k<us.length),∃b off d e,a=some ⟨b,off,none⟩/\w.cell? ⟨b,off+k,none⟩=some (.pointer (some ⟨d,0,none⟩))/\dP w e d dp K us[k]
def tQ:Nat:=20002
def sI (d:l.length<9000):dO (bq K l)<=Go.Cd.B ^ tQ:=by
 obtain⟨Rs,a⟩:∃Rs:List cB,Rs.map cB.sp=bq K l:=⟨(bq K l).map λr=>(r.1,.slice none 0 0,r.2.map λx=>(x.1,.slice none 0 0,x.2)),by
  rw[List.map_map]
  conv=>rhs;rw[<-List.map_id (bq K l)]
  refine List.map_congr_left λr _=>?_
  simp[cB.sp,d_.sp,Function.comp_def]⟩
 have c:=Cj.of (Rs:=Rs) (a▸fD K l) d;have b:_<=tQ:=Ib c (j:=Rs.length) (Nat.le_refl _);rw[List.take_length,Ih,a,cZ bE] at b;exact Nat.le_of_lt b
def eF (K:Nat->Nat) (us:List (List Nat)):Nat:=(us.map λu=>dO (bq K u)).sum
def CS (a:j<us.length):eF K (us.take (j+1))=eF K (us.take j)+dO (bq K us[j]):=by
 unfold eF;rw[List.take_succ_eq_append_getElem a,List.map_append,List.sum_append];simp
def L9 (h:∀u∈us,u.length<9000) (b:us.length<=1000000) (j:Nat):(bY Go.Cd.B (eF K (us.take j))).length<=20003:=by
 refine sF (n:=tQ) (Nat.le_trans (Ij _ (Go.Cd.B ^ tQ) (us.take j) λu a=>sI (h u (List.mem_of_mem_take a))) (Nat.mul_le_mul_right _ ?_));rw[List.length_take];omega
def Tu {dp:Nat} (h:WO w v dp K us) (s:∀u∈us,u.length<9000) (hl:us.length<=10000) :
 Calls prog 55 #[v] w λe w'=>∃r,e=.returned r/\bT w' r (eF K us)/\Below w.heap.size w w':=by
 obtain⟨a,c,rfl,W⟩:=h;obtain⟨n,Q⟩:=ae us.length;rw[<-Q] at hl⊢;have X:=aa Q;have HK:=aa W;have HB:=aa (λj=>L9 (K:=K) s (by omega) j);have HU:=aa (λu h=>(show(bY Go.Cd.B (dO (bq K u))).length<=20003 from l5 (n:=tQ) (sI (s u h))));obtain⟨F,d⟩:=ae ((w.alloc (.cells #[.slice none 0 0] eD)).alloc (.cells #[.slice none 0 0] eD));have y:Below w.heap.size w F:=by rw[d];exact dH _ _
 have k0:Is F w.heap.size #[.slice none 0 0] eD:=by rw[d];exact(Is.new _ _ _).mono (ah _)
 have k1:Is F (w.heap.size+1) #[.slice none 0 0] eD:=by rw[d];exact Is.new' _ _ _ _ (by simp)
 have U:bT F (.agg #[.slice none 0 0]) 0:=⟨_,rfl,by rw[di];exact .nil _ _ _ _ (λ_=>rfl)⟩;clear Q W s;go_enter func55,ntmps55;go_wp2_with fail;rw[<-d];clear d;have:=y.size;go_loopw [5,8] (λ_ P wr=>∃j:Nat,j<=n/\P=.int .i64 j/\(∃l i p,Is wr (w.heap.size+1) #[.slice l i p] eD/\bT wr (.agg #[.slice l i p]) (eF K (us.take j)))/\Is wr w.heap.size #[.slice none 0 0] eD/\Below w.heap.size w wr) (λ_ P _=>n-(intOf P).toNat)
 case atStart=>exact⟨0,Nat.zero_le _,rfl,⟨_,_,_,k1,U⟩,k0,y⟩
 case round=>
  obtain⟨j,hj,rfl,⟨l,i,p,H,q⟩,m,x⟩:=hrel;have Je:=x.size;by_cases ab:j<n
  ·have zj:=eG (show j<n by omega);have g:j<us.length:=by have:=X.out;omega
   obtain⟨b,off,mp,MB,rfl,c0,A⟩:=HK.out j g;have c0:=aB x c0;have A:=A.mono x;have f:=CS (K:=K) g;have N:=HB.out j;have J:=HU.out _ (List.getElem_mem g);obtain⟨u,s⟩:=ae (us[j]);rw[<-s] at A f J;obtain⟨S,hS⟩:=ae (eF K (us.take j));rw[<-hS] at q f N;have SZ:=aa (oG (A.mono (ag wr)));have O:=aa f;have e0:=H.gd 0 rfl;clear A f s hS;go_wp2_with fail;refine aC #[true,true,true,true,false] 4 1 mixed ?_;refine ay [0,1] 2 ?_
   iterate 2 (refine aA rfl ?_;go_big_quiet_step (rfl))
   refine az ?_;refine aI 2 ?_;go_wp2_with fail;refine SZ.out.mono ?_;rintro e w7⟨r7,rfl,OZ,T⟩;have t:=(ag wr).trans T;go_wp2_with fail;refine aF T ?_;refine aI 3 ?_;go_wp2_with fail;refine(Oo (q.mono t) OZ (by omega) (by omega)).mono ?_;rintro e w8⟨r8,rfl,I,M⟩;obtain⟨D,E,G,rfl,I⟩:=I.out;have k:=af t M;go_wp2_with fail;refine aF M ?_;have z:=H.mono k;have f0:=z.at 0 rfl;have q0:=z.frozen 0;have V:=aa (z.set 0 (.slice D E G));have L:=aa (bT.iQ I (bJ.put (o:=0) z (.slice D E G)) (by decide));have R:=aa ((m.mono k).put (show w.heap.size≠w.heap.size+1 by omega) (o:=0) (.slice D E G));have yf:=aa (aj (off:=0) (u:=.slice D E G) (b:=w.heap.size+1) (x.trans (k.mono Je)) (by omega));clear z I OZ q H m e0 T M;refine aJ [4] ?_;refine tail_cons rfl ?_;go_wp2_with fail;refine tail_nil ?_;go_wp2_with fail;go_roundw
   case rel=>exact⟨j+1,by omega,by simp,⟨_,_,_,V.out,by rw[O.out];exact L.out⟩,R.out,yf.out⟩
   case measure=>simp[intOf];omega
  have zj:=gI (show n<=j by omega);obtain rfl:j=n:=by omega
  have Z:us.take j=us:=List.take_of_length_le (by rw[<-X.out];exact Nat.le_refl _);rw[Z] at q;have:=H.at 0 rfl;have f0:=m.at 0 rfl;have q0:=m.frozen 0;have Y:=m.set 0 (.slice l i p);have g0:=Y.at 0 rfl;have hN:=aa (bT.iQ q (bJ.put (o:=0) m (.slice l i p)) (by decide));have C:=aa (aj (off:=0) (u:=.slice l i p) (b:=w.heap.size) x (Nat.le_refl _));clear m Y q Z;go_wp2_with fail;exact bodyPost_ret (v:=.agg #[.slice l i p]) (by simp[results,results55,go_sem,g0]) rfl ⟨_,rfl,hN.out,C.out⟩
end Go.Proofs.YtmnimbnojdndmaaGreatDoor
