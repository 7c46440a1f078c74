/- Texts that are alike cost, and count, the same; no condition. -/
import Derived.Test.YtmnimbnojdndmaaGreatDoorU18
set_option maxRecDepth 100000
set_option maxHeartbeats 6400000
set_option linter.all false
namespace Go.Proofs.YtmnimbnojdndmaaGreatDoor
section
open Go.RowKit Go.Cd
def LK {bs l:List Nat} (c:∀b∈bs,1<=b) {m:Nat} (a:m<l.length):∀j,j<=bs.length->
 (j<=m->gU bs (nz (l.set m (l.getD m 0+1))) j=gU bs (nz l) j)/\(m<j->gU bs (nz l) j<gU bs (nz (l.set m (l.getD m 0+1))) j)
 | 0,_=>⟨λ_=>rfl,λh=>by omega⟩
 | j+1,hj=>by
   obtain⟨d,o⟩:=LK c a j (by omega);have k:bs[j]?.getD 0=bs[j]:=by rw[gA (by omega)];rfl
   have:1<=bs[j]:=c _ (gx (by omega));have f:j≠m->(nz (l.set m (l.getD m 0+1)))[j]?.getD 0=(nz l)[j]?.getD 0:=λh=>by
    simp only[nz,nE];rw[sx (px h)]
   simp only[gU];rw[k];refine⟨λh=>?_,λh=>?_⟩
   ·rw[d (by omega),f (by omega)]
   by_cases e:j=m
   ·subst e;rw[d (gw _)];have i:(nz (l.set j (l.getD j 0+1)))[j]?.getD 0=((l.getD j 0+1:Nat):Int):=by
     simp only[nz,nE];rw[tA a];rfl
    have n:(nz l)[j]?.getD 0=((l.getD j 0:Nat):Int):=by
     simp only[nz,nE,ic];rw[gA a];rfl
    rw[i,n];simp only[oT];omega
   rw[f e];have:=vd (o (by omega)) (show 0<bs[j] by omega);omega
def WA {K:Nat->Nat} {R:List bS} {s b:eZ} {c:Nat} (h:eQ R s) (e:iy K R s c=some b):fK R s<fK R b:=by
 unfold iy at e
 split at e
 ·split at e
  ·cases e;have f:=Az h;have d:=aae h.lt;rw[<-df h.lt] at d;show dO (R.take s.1)+_<dO (R.take (s.1+1))+_;omega
  cases e
 cases hf:(List.range (aL R s.1).2.length).find? (ed (K c) c s.2 (aL R s.1).2) with
 | none=>rw[hf] at e;cases e
 | some i=>
   rw[hf] at e;cases e;have a:=nj.1 (mu hf);have:=(LK (l:=s.2) (pQ (aL R s.1)) (m:=i) (by rw[h.len];exact a) (kM (aL R s.1)).length (gw _)).2 (by rw[eO];exact a);exact Nat.add_lt_add_left this _
def LM {K:Nat->Nat} {R:List bS}:∀(l:List Nat) (s a:eZ),eQ R s->l.foldlM (iy K R) s=some a->fK R s<=fK R a/\(l≠[]->fK R s<fK R a)
 | [],s,a,_,e=>by
   have:s=a:=by simpa using e
   subst this;exact⟨gw _,λh=>absurd rfl h⟩
 | c::l,s,a,h,e=>by
   rw[oE] at e;cases b:iy K R s c with
   | none=>rw[b] at e;cases e
   | some s1=>
     rw[b] at e;have f:=WA h b;have d:=(LM l s1 a (aa5 h b) e).1;exact⟨by omega,λ_=>by omega⟩
def WB {K:Nat->Nat} {F:Nat->List Nat} {R:List bS} {s a:eZ} {c:Nat} (h:eQ R s) (b:F c≠[]) (e:fw K F R s c=some a):fK R s<fK R a:=
 (LM (F c) s a h e).2 b
section
variable {R : List bS} {opt : eZ -> List Nat} {nS : eZ -> Nat -> Option eZ}
def yG {n:Nat}:∀j d,j+d<=n->∀i,n-j<=i->(jl R opt nS n (j+d)).getD i 0=(jl R opt nS n j).getD i 0
 | j,0,_,_,_=>rfl
 | j,d+1,h,i,hi=>by
   rw[<-te,jl,<-yG j d (by omega) i hi];rw[ic,sx (by omega),<-ic]
def abF {l m:List Nat} {i:Nat} (h:∀c s,c∈opt (sW R i)->nS (sW R i) c=some s->l.getD (fK R s) 0=m.getD (fK R s) 0):jk R opt nS l i=jk R opt nS m i:=by
 unfold jk
 split
 ·rfl
 refine congrArg List.sum (mw λc a=>?_);cases b:nS (sW R i) c with
 | none=>rfl
 | some s=>exact h c s a b
def WG {n:Nat} (k:n=dO R) (a:∀i c s,i<n->c∈opt (sW R i)->nS (sW R i) c=some s->i<fK R s) {i:Nat} (e:i<n) :
 (jl R opt nS n n).getD i 0=jk R opt nS (jl R opt nS n n) i:=by
 have d:=yG (R:=R) (opt:=opt) (nS:=nS) (n:=n) (n-i) i (by omega) i (by omega);rw[show n-i+i=n by omega] at d;rw[d];obtain⟨j,f⟩:∃j,n-i=j+1:=⟨n-i-1,by omega⟩;rw[f,jl,show n-1-j=i by omega];rw[ic,tA (by rw[FW];exact e)];show jk R opt nS (jl R opt nS n j) i=_;refine abF λc s g h=>?_;have b:=yG (R:=R) (opt:=opt) (nS:=nS) (n:=n) j (n-j) (by omega) (fK R s) (by have:=a i c s e g h;omega);rw[show j+(n-j)=n by omega] at b;exact b.symm
def abY {n:Nat} (p:n=dO R) (a:∀i c s,i<n->c∈opt (sW R i)->nS (sW R i) c=some s->i<fK R s/\fK R s<n)
 (b:∀i,i<n->Co R (sW R i)=false->∃c s,c∈opt (sW R i)/\nS (sW R i) c=some s):∀k i,i+k=n->i<n->0<(jl R opt nS n n).getD i 0:=by
 intro k
 induction k using Nat.strongRecOn with
 | _ k ih=>
   intro i t d;rw[WG p (λi c s g e r=>(a i c s g e r).1) d];unfold jk
   split
   ·exact Nat.one_pos
   rename_i q;obtain⟨c,s,j,m⟩:=b i d (by simpa using q);obtain⟨g,e⟩:=a i c s d j m;have o:=ih (n-fK R s) (by omega) (fK R s) (by omega) e;have f:(match nS (sW R i) c with|some s=>(jl R opt nS n n).getD (fK R s) 0|none=>0)∈(opt (sW R i)).map λc=>(match nS (sW R i) c with|some s=>(jl R opt nS n n).getD (fK R s) 0|none=>0):=jx.2 ⟨c,j,rfl⟩;rw[m] at f;have:∀(l:List Nat) (x:Nat),x∈l->x<=l.sum:=λl=>by
    induction l with
    | nil=>intro x h;cases h
    | cons y l ih=>
      intro x h;rw[pd];rcases jf.1 h with rfl|h
      ·omega
      have:=ih x h;omega
   exact j9 o (this _ _ f)
end
end
section
open Go.RowKit Go.Cd
def kQ:List Nat->List (Nat×List Nat)->List Nat
 | m::ms,x::L=>x.2.drop m++kQ ms L
 | _,_=>[]
def LP (r:bS):List Nat:=r.1::r.2.flatMap (·.2)
def mJ (R:List bS) (s:eZ):List Nat:=kQ s.2 (aL R s.1).2++(R.drop (s.1+1)).flatMap LP
def fE (K:Nat->Nat) (c:Nat):List Nat->Option (List Nat)
 | []=>none
 | a::t=>if K c=0 then (if a=c then some t else none) else if K a=0 then none else if K a<K c then (fE K c t).map (a::·) else if a=c then some t else none
section
variable {K : Nat -> Nat}
variable {L:List (Nat×List Nat)} {n c:Nat} {R:List bS} {s:eZ} {l:List Nat}
def ql (n c:Nat):List Nat->List (Nat×List Nat)->Option (List Nat)
 | m::ms,x::L=>if x.1=n/\m<x.2.length/\x.2.getD m 0=c then some ((m+1)::ms) else (ql n c ms L).map (m::·)
 | _,_=>none
def Cy (n c:Nat):∀(ms:List Nat) (L:List (Nat×List Nat)),ms.length=L.length->((List.range L.length).find? (ed n c ms L)).map (λi=>ms.set i (ms.getD i 0+1))=ql n c ms L
 | [],[],_=>rfl
 | [],_::_,h=>by simp at h
 | _::_,[],h=>by simp at h
 | m::ms,x::L,h=>by
   have d:=Cy n c ms L (by simpa using h);rw[hU,List.range_succ_eq_map];have b:ed n c (m::ms) (x::L) 0=decide (x.1=n/\m<x.2.length/\x.2.getD m 0=c):=by simp[ed,Bool.decide_and,Bool.and_assoc]
   by_cases a:x.1=n/\m<x.2.length/\x.2.getD m 0=c
   ·rw[List.find?_cons_of_pos (by rw[b];exact decide_eq_true a)];unfold ql;rw[if_pos a];rfl
   rw[List.find?_cons_of_neg (by rw[b];simpa using a),List.find?_map];unfold ql;rw[if_neg a,<-d];have e:(ed n c (m::ms) (x::L) ∘ Nat.succ)=ed n c ms L:=by funext i;rfl
   rw[e];cases (List.range L.length).find? (ed n c ms L) <;> rfl
def Ea (K:Nat->Nat) (L:List (Nat×List Nat)):Prop:=(∀x∈L,0<x.1/\∀y∈x.2,K y=x.1)/\L.Pairwise λa b=>a.1<b.1
def Ea.tail {x:Nat×List Nat} (h:Ea K (x::L)):Ea K L:=⟨λy a=>h.1 y (kj _ a),(mz.1 h.2).2⟩
def Cz :∀{ms:List Nat} {L:List (Nat×List Nat)},(∀x∈L,x.1≠n)->ql n c ms L=none
 | [],[],_=>rfl
 | [],_::_,_=>rfl
 | _::_,[],_=>rfl
 | m::ms,x::L,h=>by
   unfold ql;rw[if_neg (λa=>h x (by simp) a.1),Cz λy b=>h y (kj _ b)];rfl
def LQ (h0:0<n) (h:n<K c) (X:List Nat):∀u:List Nat,(∀y∈u,K y=n)->fE K c (u++X)=(fE K c X).map (u++·)
 | [],_=>by simp
 | a::u,hu=>by
   have:=hu a (by simp);show fE K c (a::(u++X))=_;rw[fE,if_neg (by omega),if_neg (by omega),if_pos (by omega),LQ h0 h X u λy b=>hu y (kj _ b)];cases fE K c X <;> simp
def F6 (l:K c≠0) {rest:List Nat} (p:∀a t,rest=a::t->K a=0):∀{ms:List Nat} {L:List (Nat×List Nat)},ms.length=L.length->Ea K L->
 fE K c (kQ ms L++rest)=(ql (K c) c ms L).map λi=>kQ i L++rest
 | [],[],_,_=>by
   show fE K c rest=none;cases rest with
   | nil=>rfl
   | cons a t=>unfold fE;rw[if_neg l,if_pos (p a t rfl)]
 | [],_::_,h,_=>by simp at h
 | _::_,[],h,_=>by simp at h
 | m::ms,x::L,h,hL=>by
   have o:=F6 l p (ms:=ms) (L:=L) (by simpa using h) hL.tail;have n:=hL.1 x (by simp);have g:=(mz.1 hL.2).1;by_cases d:m<x.2.length
   ·have hd:x.2.drop m=x.2[m]::x.2.drop (m+1):=iz d;have q:x.2.getD m 0=x.2[m]:=by rw[ic,gA d];rfl
    have r:K x.2[m]=x.1:=n.2 _ (gx d);by_cases s:x.1<K c
    ·have k:¬(x.1=K c/\m<x.2.length/\x.2.getD m 0=c):=λa=>by omega
     unfold ql kQ;rw[if_neg k,kc,LQ n.1 s _ _ (λy j=>n.2 y (lz j)),o];cases ql (K c) c ms L <;> simp[kQ]
    have b:(∀y∈L,y.1≠K c):=λy j e=>by have:=g y j;omega
    unfold ql;show fE K c ((x.2.drop m++kQ ms L)++rest)=_;rw[hd];show fE K c (x.2[m]::(x.2.drop (m+1)++kQ ms L++rest))=_;unfold fE;rw[if_neg l,if_neg (by omega),if_neg (by omega),q];by_cases f:x.2[m]=c
    ·have u:x.1=K c:=by rw[<-r,f]
     rw[if_pos f,if_pos ⟨u,d,f⟩];rfl
    rw[if_neg f,if_neg (λa=>f a.2.2),Cz b];rfl
   have k:¬(x.1=K c/\m<x.2.length/\x.2.getD m 0=c):=λa=>d a.2.1;have hd:x.2.drop m=[]:=qu (by omega);unfold ql kQ;rw[if_neg k,hd,ks,o];cases ql (K c) c ms L <;> simp[kQ,hd]
structure Ip (K:Nat->Nat) (R:List bS):Prop where
 lan:∀r∈R,Ea K r.2
 head:∀r∈R.tail,K r.1=0
def Ip.rest (h:Ip K R) (k:Nat):∀a t,(R.drop (k+1)).flatMap LP=a::t->K a=0:=by
 intro a t e;cases hd:R.drop (k+1) with
 | nil=>rw[hd] at e;cases e
 | cons r u=>
   rw[hd,iR] at e;have:a=r.1:=by unfold LP at e;exact(List.cons.inj e).1.symm
   rw[this];refine h.head r ?_;rw[show R.tail=R.drop 1 by simp];have:R.drop (k+1)=(R.drop 1).drop k:=by rw[AN,xj]
   rw[this] at hd;exact lz (i:=k) (by rw[hd];simp)
def yH:∀L:List (Nat×List Nat),kQ (List.replicate L.length 0) L=L.flatMap (·.2)
 | []=>rfl
 | x::L=>by
   show x.2.drop 0++kQ (List.replicate L.length 0) L=_;rw[yH L];simp
def sG:∀{ms:List Nat} {L:List (Nat×List Nat)},ms.length=L.length->(gV (nz ms) L=true↔kQ ms L=[])
 | [],[],_=>by simp[gV,nz,kQ]
 | [],_::_,h=>by simp at h
 | _::_,[],h=>by simp at h
 | m::ms,x::L,h=>by
   have a:=sG (ms:=ms) (L:=L) (by simpa using h);have e:gV (nz (m::ms)) (x::L)=(!decide ((m:Int)<(x.2.length:Nat))&&gV (nz ms) L):=by simp[gV,nz]
   rw[e,jn,a];show _↔x.2.drop m++kQ ms L=[];rw[List.append_eq_nil_iff,List.drop_eq_nil_iff];simp
def LU {ms:List Nat} (c:Ea K L) {a:Nat} {t:List Nat} (h:kQ ms L=a::t):K a≠0:=by
 induction L generalizing ms with
 | nil=>cases ms <;> cases h
 | cons x L ih=>
   cases ms with
   | nil=>cases h
   | cons m ms=>
     have d:=c.1 x (by simp);rw[kQ] at h;cases hd:x.2.drop m with
     | nil=>rw[hd] at h;exact ih c.tail h
     | cons b u=>
       rw[hd] at h;obtain rfl:=(List.cons.inj h).1;have:=d.2 b (lz (i:=m) (by rw[hd];simp));omega
def F9 (h:Ip K R) (k:Nat):Ea K (aL R k).2:=by
 unfold aL;rw[ic];by_cases a:k<R.length
 ·rw[gA a];exact h.lan _ (gx a)
 rw[pD (by omega)];exact⟨λx b=>(by cases b),List.Pairwise.nil⟩
def WJ (h:Ip K R) (g:eQ R s) (c:Nat):fE K c (mJ R s)=(iy K R s c).map (mJ R):=by
 have m:=F9 h s.1;unfold iy;by_cases b:K c=0
 ·rw[if_pos b];by_cases d:gV (nz s.2) (aL R s.1).2=true
  ·have j:=(sG g.len).1 d;unfold mJ;rw[j,ks];by_cases f:s.1+1<R.length
   ·rw[iz f,iR,<-df f];show fE K c ((aL R (s.1+1)).1::_)=_;unfold fE;rw[if_pos b];by_cases i:(aL R (s.1+1)).1=c
    ·rw[if_pos i,if_pos ⟨d,f,i⟩,xp];show _=some (kQ _ _++_);rw[yH];rfl
    rw[if_neg i,if_neg λa=>i a.2.2];rfl
   rw[qu (by omega),if_neg λa=>f a.2.1];rfl
  rw[if_neg λa=>d a.1];have j:kQ s.2 (aL R s.1).2≠[]:=λe=>d ((sG g.len).2 e);unfold mJ;cases l:kQ s.2 (aL R s.1).2 with
  | nil=>exact absurd l j
  | cons a t=>
    show fE K c (a::_)=none;unfold fE;rw[if_pos b,if_neg λe=>LU m l (by rw[e];exact b)]
 rw[if_neg b];have k:=F6 b (h.rest s.1) g.len m;rw[<-Cy _ _ _ _ g.len,Option.map_map] at k;unfold mJ;rw[k,Option.map_map];rfl
def jS (c:eQ R s):Co R s=true↔mJ R s=[]:=by
 unfold Co mJ;rw[jn,decide_eq_true_eq,List.append_eq_nil_iff,sG c.len];have:=c.lt;constructor
 ·rintro⟨a,b⟩;exact⟨b,by rw[qu (by omega)];rfl⟩
 rintro⟨a,b⟩;refine⟨?_,a⟩;by_cases d:s.1+1<R.length
 ·rw[iz d,iR] at b;simp[LP] at b
 omega
structure TrF (K:Nat->Nat) (l:List Nat) (R:List bS):Prop where
 fine:Ip K R
 ne:R≠[]
 flat:(R.headD (0,[])).2.flatMap (·.2)++R.tail.flatMap LP=l
 last:∀x∈(R.getLastD (0,[])).2,l≠[]/\x.1<=K (l.getLastD 0)
def Tm {a:List Nat} :dJ K (a++[c])->dJ K a/\(a≠[]->¬swp K (a.getLastD 0) c):=by
 induction a with
 | nil=>intro _;exact⟨trivial,λh=>absurd rfl h⟩
 | cons x a ih=>
   intro h;cases a with
   | nil=>exact⟨trivial,λ_=>h.1⟩
   | cons y a=>
     obtain⟨d,b⟩:=ih h.2;exact⟨⟨h.1,d⟩,λ_=>by simpa using b (by simp)⟩
def WK (h:Ea K L) (p:K c=n) (h0:0<n) (g:∀x∈L,x.1<=n) :
 Ea K (sQ n c L)/\(sQ n c L).flatMap (·.2)=L.flatMap (·.2)++[c]/\∀x∈sQ n c L,x.1<=n:=by
 rcases oX L with rfl|⟨A,x,rfl⟩
 ·have e:sQ n c []=[(n,[c])]:=rfl;rw[e];refine⟨⟨λx d=>?_,rK _ _⟩,rfl,λx d=>?_⟩
  ·obtain rfl:=gC.1 d;exact⟨h0,λy f=>by rw[gC.1 f];exact p⟩
  obtain rfl:=gC.1 d;exact gw _
 obtain⟨m,l⟩:=x;rw[x4] at *;by_cases j:m=n
 ·rw[yh j];have k:=lk.1 h.2;refine⟨⟨λx d=>?_,?_⟩,by simp,λx d=>?_⟩
  ·rcases gR.1 d with d|d
   ·exact h.1 x (kl _ d)
   obtain rfl:=gC.1 d;have:=h.1 (m,l) (by simp);refine⟨this.1,λy f=>?_⟩;rcases gR.1 f with f|f
   ·exact this.2 y f
   rw[gC.1 f];exact p.trans j.symm
  ·exact lk.2 ⟨k.1,rK _ _,λa o b q=>by
    rw[gC.1 q];exact k.2.2 a o (m,l) (by simp)⟩
  rcases gR.1 d with d|d
  ·exact g x (kl _ d)
  rw[gC.1 d];exact zf j
 rw[abj (λx d=>by rw[l4] at d;obtain rfl:=mL d;exact j)];have r:m<=n:=g (m,l) (by simp);have k:=lk.1 h.2;have i:∀x∈A++[(m,l)],x.1<n:=λx d=>by
  rcases gR.1 d with d|d
  ·have:=k.2.2 x d (m,l) (by simp);simp at this;omega
  rw[gC.1 d];show m<n;omega
 refine⟨⟨λx d=>?_,?_⟩,by simp,λx d=>?_⟩
 ·rcases gR.1 d with d|d
  ·exact h.1 x d
  obtain rfl:=gC.1 d;exact⟨h0,λy f=>by rw[gC.1 f];exact p⟩
 ·exact lk.2 ⟨h.2,rK _ _,λa o b q=>by rw[gC.1 q];exact i a o⟩
 rcases gR.1 d with d|d
 ·exact g x d
 rw[gC.1 d];exact gw _
def WM:∀(n:Nat) {l:List Nat},l.length=n->dJ K l->TrF K l (bq K l)
 | 0,l,hl,_=>by
   obtain rfl:=im.1 hl;exact⟨⟨λr i=>by rw[show bq K []=[(0,[])] from rfl] at i;rw[gC.1 i];exact⟨λx d=>(by cases d),List.Pairwise.nil⟩,λr i=>(by cases i)⟩,by simp[bq],rfl,λx d=>(by cases d)⟩
 | n+1,l,hl,ho=>by
   rcases oX l with rfl|⟨l,c,rfl⟩
   ·cases hl
   rw[x4] at *;have y:=WM n (l:=l) (by simpa using hl);obtain⟨z,u⟩:=Tm ho;obtain⟨f,j,g,h⟩:=y z;have e:bq K (l++[c])=BU K (bq K l) c:=by unfold bq;rw[rm];rfl
   rw[e];generalize bq K l=R at *;rcases oX R with rfl|⟨A,r,rfl⟩
   ·exact absurd rfl j
   rw[x4] at *;by_cases o:K c=0
   ·rw[BV o];refine⟨⟨λq b=>?_,λq b=>?_⟩,by simp,?_,λx d=>by simp at d⟩
    ·rcases gR.1 b with b|b
     ·exact f.lan q b
     rw[gC.1 b];exact⟨λx d=>(by cases d),List.Pairwise.nil⟩
    ·rw[AM (by simp)] at b;rcases gR.1 b with b|b
     ·exact f.head q b
     rw[gC.1 b];exact o
    rw[AM (by simp),jj,<-kc,<-g];cases A <;> simp[LP]
   rw[yj o];have m:(A++[r]).getLastD (0,[])=r:=tR ..;rw[m] at h;have k:∀x∈r.2,x.1<=K c:=λx d=>by
    have p:=h x d;have:=(f.lan r (by simp)).1 x d;have v:=u p.1;unfold swp at v;have:=p.2;omega
   obtain⟨t,s,w⟩:=WK (f.lan r (by simp)) rfl (by omega) k;refine⟨⟨λq b=>?_,λq b=>?_⟩,by simp,?_,λx d=>?_⟩
   ·rcases gR.1 b with b|b
    ·exact f.lan q (kl _ b)
    rw[gC.1 b];exact t
   ·cases A with
    | nil=>cases b
    | cons a A=>
      rw[ld,List.tail_cons] at b;rcases gR.1 b with b|b
      ·exact f.head q (by simp[b])
      rw[gC.1 b];exact f.head r (by simp)
   ·rw[<-g];cases A with
    | nil=>simp[s]
    | cons a A=>simp[LP,s]
   rw[tR] at d⊢;exact⟨by simp,w x d⟩
def s0 (R:List bS):eZ:=(0,List.replicate (aL R 0).2.length 0)
def O_ (h:R≠[]):aL R 0=R.headD (0,[]):=by cases R with|nil=>exact absurd rfl h|cons a R=>rfl
def agA (h:R≠[]):eQ R (s0 R):=⟨jz.2 h,by simp[s0],λi a b=>by simp[s0]⟩
def adj (h:TrF K l R):mJ R (s0 R)=l:=by
 conv=>rhs;rw[<-h.flat]
 unfold mJ s0;rw[yH,O_ h.ne];simp
def abv {ms:List Nat} (c:ms.length=L.length) (h:gV (nz ms) L=true):au ms L L.length=[]:=by
 unfold au;rw[List.flatMap_eq_nil_iff];intro i b;rw[nj] at b;have:i<(nz ms).length:=by rw[jF];omega
 have a:=lr.1 h _ (gx (l:=(nz ms).zip L) (n:=i) (by simp;omega));rw[List.getElem_zip] at a;unfold lZ;rw[ic,ic,gA b,gA (show i<ms.length by omega)];simp[nz] at a;rw[if_neg (by simpa using a)]
def abw (g:eQ R s) (h:(iy K R s c).isSome=true):c∈ko R s:=by
 unfold iy at h;unfold ko
 split at h
 ·split at h
  ·rename_i a;rw[if_pos (abv g.len a.1),if_pos a.2.1,a.2.2];simp
  cases h
 rw[Option.isSome_map] at h;obtain⟨i,d⟩:=wj.1 h;have a:=ue d;have f:=nj.1 (mu d);unfold ed at a;simp only[jn,decide_eq_true_eq] at a;have b:c∈au s.2 (aL R s.1).2 (aL R s.1).2.length:=by
  unfold au;rw[lP];refine⟨i,nj.2 f,?_⟩;unfold lZ;rw[if_pos a.1.2,a.2];simp
 rw[if_neg (λe=>by rw[e] at b;cases b)];exact b
def abG:∀{ms:List Nat} {L:List (Nat×List Nat)} {a:Nat},a∈kQ ms L->a∈L.flatMap (·.2)
 | [],_,_,h=>by cases h
 | _::_,[],_,h=>by cases h
 | m::ms,x::L,a,h=>by
   rw[kQ] at h;rw[iR];rcases gR.1 h with h|h
   ·exact kl _ (lz h)
   exact mT _ (abG h)
def abV (h:TrF K l R) (d:eQ R s) {a:Nat} (b:a∈mJ R s):a∈l:=by
 rw[<-h.flat];obtain⟨k,ms⟩:=s;have c:=d.lt;unfold mJ at b;cases R with
 | nil=>exact absurd rfl h.ne
 | cons r R=>
   rcases gR.1 b with b|b
   ·have b:=abG b;cases k with
    | zero=>exact kl _ b
    | succ k=>
      refine mT _ (lP.2 ⟨aL (r::R) (k+1),?_,kj _ b⟩);rw[df c];exact gx (l:=R) (by simpa using c)
   obtain⟨q,e,b⟩:=lP.1 b;exact mT _ (lP.2 ⟨q,lz (i:=k) e,b⟩)
def acu (h:TrF K l R) (b:eQ R s) (e:Co R s=false):∃a∈l,a∈ko R s/\(iy K R s a).isSome=true:=by
 cases d:mJ R s with
 | nil=>rw[(jS b).2 d] at e;cases e
 | cons a t=>
   have hd:=WJ h.fine b a;have c:(fE K a (mJ R s)).isSome=true:=by
    rw[d];unfold fE;by_cases f:K a=0 <;> simp[f]
   rw[hd,Option.isSome_map] at c;exact⟨a,abV h b (by rw[d];simp),abw b c,c⟩
end
end
end Go.Proofs.YtmnimbnojdndmaaGreatDoor
namespace Go.Cd
def fZ (ap:Nat->Bool) (out:List (List Nat)) (c:Nat):List (List Nat):=
 if out=[]\/ap c=true then out++[[c]] else out.dropLast++[out.getLastD []++[c]]
def bf (ap:Nat->Bool) (l:List Nat):List (List Nat):=l.foldl (fZ ap) []
def Tn {ap:Nat->Bool} {a:List (List Nat)} {c:Nat}:fZ ap a c≠[]:=by
 unfold fZ;split <;> simp
def gH {ap:Nat->Bool} (l:List Nat):(bf ap l).flatten=l:=by
 have:∀(l:List Nat) (o:List (List Nat)),(l.foldl (fZ ap) o).flatten=o.flatten++l:=by
  intro l
  induction l with
  | nil=>intro o;simp
  | cons c l ih=>
    intro o;rw[ox,ih];have:(fZ ap o c).flatten=o.flatten++[c]:=by
     unfold fZ;by_cases a:o=[]
     ·subst a;simp
     split
     ·simp
     obtain⟨q,x,rfl⟩:∃q x,o=q++[x]:=⟨o.dropLast,o.getLast a,(qq a).symm⟩;simp[ri]
    rw[this];simp
 simpa [bf] using this l []
def sH {ap:Nat->Bool} {l u:List Nat} (h:u∈bf ap l):∀c∈u,c∈l:=by
 intro c a;rw[<-gH (ap:=ap) l];exact List.mem_flatten.2 ⟨u,h,a⟩
end Go.Cd
namespace Go.Proofs.YtmnimbnojdndmaaGreatDoor
open Go.RowKit Go.Cd
variable {K:Nat->Nat} {c i:Nat} {T:List aG} {l X:List Nat}
def ve {a:Nat}:∀{l:List Nat},dJ K (a::l)↔(∀b,l.head? = some b->¬swp K a b)/\dJ K l
 | []=>by simp[dJ]
 | b::l=>by simp[dJ]
def Tp {x:Nat}:∀{l:List Nat},(j_ K c l).head? = some x->x=c\/l.head? = some x
 | [],h=>.inl (by simpa [j_] using h.symm)
 | d::l,h=>by
   unfold j_ at h
   split at h
   ·right;simpa using h
   left;simpa using h.symm
def CE :∀{l:List Nat},dJ K l->dJ K (j_ K c l)
 | [],_=>by simp[j_,dJ]
 | d::l,h=>by
   unfold j_
   split
   ·rename_i hd;rw[ve] at h⊢;refine⟨λb a e=>?_,CE h.2⟩;rcases Tp a with rfl|a
    ·unfold swp at e;omega
    exact h.1 b a e
   rename_i hd;exact⟨hd,h⟩
def CG (K:Nat->Nat):∀l:List Nat,dJ K (gL K l)
 | []=>trivial
 | _::l=>CE (CG K l)
def zV :∀{a b:List Nat},dJ K (a++b)->dJ K a/\dJ K b
 | [],_,h=>⟨trivial,h⟩
 | x::a,b,h=>by
   rw[ld,ve] at h;have c:=zV h.2;refine⟨ve.2 ⟨λy d=>h.1 y ?_,c.1⟩,c.2⟩;cases a with
   | nil=>cases d
   | cons z a=>exact d
def vg :∀{L:List (List Nat)},dJ K L.flatten->∀u∈L,dJ K u
 | [],_,_,hu=>by cases hu
 | v::L,h,u,hu=>by
   rw[wg] at h;have:=zV h;rcases jf.1 hu with rfl|hu
   ·exact this.1
   exact vg this.2 u hu
def wO {F:Nat->List Nat}:∀{l:List Nat},(∀x∈l,F x=[x])->l.flatMap F=l
 | [],_=>rfl
 | a::l,h=>by
   rw[iR,h a (.head _),wO λx b=>h x (.tail _ b)];rfl
structure nG (T:List aG) (l:List Nat):Prop where
 leaf:∀x∈l,aD T x=[x]
 ord:dJ (ai T) l
def nG.flat (h:nG T l):l.flatMap (aD T)=l:=wO h.leaf
def nG.of (c:aY T X) (l:List Nat):nG T (gQ T l):=by
 refine⟨λx b=>?_,CG _ _⟩;obtain⟨y,_,a⟩:=lP.1 ((KW _).1 b);exact R7 c a
def abH (m:aY T X) (f:nG T l) {s:eZ} (n:eQ (bq (ai T) l) s) (k:Co (bq (ai T) l) s=false) :
 b_ (pO (ai T) (aD T) (uY T) (bq (ai T) l) s)≠[]:=by
 obtain⟨a,i,j,g⟩:=acu (WM _ rfl f.ord) n k;have hf:=f.leaf a i;have b:a∈pO (ai T) (aD T) (uY T) (bq (ai T) l) s:=by
  unfold pO;rw[lP];refine⟨a,j,iJ.2 ⟨?_,?_⟩⟩
  ·unfold uY;rw[xQ];unfold bgU;have h:uX T a=true:=by
    have b:mapOf T a=[]:=by
     have c:=(pE m a).1;rw[hf] at c;exact c a (by simp)
    unfold uX;unfold mapOf at b;by_cases d:hk a<4
    ·rw[if_pos d] at b;rw[decide_eq_true b,decide_eq_true d];rfl
    rw[if_neg d] at b;have:=xS.1 b;omega
   rw[if_pos h];simp
  unfold fw;rw[hf,oE];cases e:iy (ai T) (bq (ai T) l) s a with
  | none=>rw[e] at g;cases g
  | some s1=>rfl
 intro e;have c:=(xQ (l:=pO (ai T) (aD T) (uY T) (bq (ai T) l) s)).2 b;rw[e] at c;cases c
def abt {s:eZ} (h:c∈b_ (pO (ai T) (aD T) (uY T) (bq (ai T) l) s)):∃s1,fw (ai T) (aD T) (bq (ai T) l) s c=some s1:=by
 rw[xQ] at h;obtain⟨x,_,a⟩:=lP.1 h;exact wj.1 (iJ.1 a).2
def adk (l:List Nat):nz l=l.map (λd:Nat=>(d:Int)):=rfl
def Pb:∀{R:List bS} {i:Nat},i<dO R->fK R (sW R i)=i
 | [],i,h=>absurd h (by simp[dO])
 | r::R,i,h=>by
   rw[wZ] at h;unfold sW;by_cases a:i<xD r
   ·rw[if_pos a];have c:gU (kM r) (nz (Cn (kM r) i)) (kM r).length=i:=by
     rw[Wn (kM r) i (pQ r) (by rw[<-uV];exact a) _ (adk _) _ (gw _),qT];simp[aW]
    show dO []+gU (kM r) (nz (Cn (kM r) i)) (kM r).length=i;rw[c];show 0+i=i;omega
   rw[if_neg a];have b:=Pb (R:=R) (i:=i-xD r) (by omega);unfold fK at b;show dO ((r::R).take ((sW R (i-xD r)).1+1))+gU (kM (aL R (sW R (i-xD r)).1)) (nz (sW R (i-xD r)).2) (kM (aL R (sW R (i-xD r)).1)).length=i;rw[List.take_succ_cons,wZ];omega
def F_ (bs:List Nat) (n:Nat):∀j,gU bs (nz (List.replicate n 0)) j=0
 | 0=>rfl
 | j+1=>by
   have a:(nz (List.replicate n 0))[j]?.getD 0=0:=by
    simp only[nz,nE];cases e:(List.replicate n 0)[j]? with
    | none=>rfl
    | some x=>
      have:=wm (lA e);subst this;rfl
   simp only[gU];rw[F_ bs n j,a];simp
def adl (R:List bS):fK R (s0 R)=0:=by
 unfold fK s0;rw[F_];simp[dO]
def l6 (T:List aG) (l:List Nat):List Nat:=jl (bq (ai T) l) (λs=>b_ (pO (ai T) (aD T) (uY T) (bq (ai T) l) s)) (fw (ai T) (aD T) (bq (ai T) l)) (dO (bq (ai T) l)) (dO (bq (ai T) l))
def w_ (T:List aG) (u:List Nat):(l6 T u).length=dO (bq (ai T) u):=FW _ _ _ _ _
def aal {s:eZ} (a:i<dO (bq (ai T) l)) (e:fw (ai T) (aD T) (bq (ai T) l) (sW (bq (ai T) l) i) c=some s):i<fK (bq (ai T) l) s/\fK (bq (ai T) l) s<dO (bq (ai T) l):=by
 have b:=WB (uW a) (pF T c) e;rw[Pb a] at b;exact⟨b,nD (Cq (uW a) e)⟩
def CJ (a:i<dO (bq (ai T) l)):(l6 T l).getD i 0=jk (bq (ai T) l) (λs=>b_ (pO (ai T) (aD T) (uY T) (bq (ai T) l) s)) (fw (ai T) (aD T) (bq (ai T) l)) (l6 T l) i:=
 WG rfl (λ_ _ _ h _ e=>(aal h e).1) a
def abZ (f:aY T X) (d:nG T l) (a:i<dO (bq (ai T) l)):0<(l6 T l).getD i 0:=
 abY rfl (λ_ _ _ h _ e=>aal h e) (λi a g=>by
  have j:=abH f d (uW a) g;obtain⟨c,b⟩:=List.exists_mem_of_ne_nil _ j;obtain⟨s,k⟩:=abt b
  exact⟨c,s,b,k⟩) _ i (Nat.add_sub_cancel' (nu a)) a
section
open Go.RowKit Go.Cd Go.Shelf _root_.Go.Proofs.Tryz
attribute [local go_sem] Oper.semAt_some
def LV {w:World} {MB G dp:Nat} {T:List aG} {X:List Nat} {l:List Nat} (hD:cK w dp T X) (hV:aY T X) (zT:T.length<1000) (h:dP w MB G dp (ai T) l) (hl:l.length<400) (aM:∀c∈l,aP c) (ax:dO (bq (ai T) l)<=16384) :
 Calls prog 11 #[.pointer (some ⟨G,0,none⟩)] w λe w'=>∃pp g,e=.returned (.tuple #[.pointer (some ⟨pp,0,none⟩),.int .i64 0])/\jX w' w.heap.size pp g G (l6 T l)/\Below w.heap.size w w':=by
 have SZ:=aa (oG h);have aB:0<dO (bq (ai T) l):=by
  have h1:=(fD (ai T) l).1;have h2:=aae (R:=bq (ai T) l) (k:=0) (jz.2 h1);have:=gG (bq (ai T) l) 1;have:=Qv ((bq (ai T) l)[0]'(jz.2 h1));simp only[kh] at h2;omega
 have hM:∀i,i<dO (bq (ai T) l)->(b_ (pO (ai T) (aD T) (uY T) (bq (ai T) l) (sW (bq (ai T) l) i))).length<=Go.Cd.B:=λi hi=>gS (Cx zT hl (uW hi) _) (by unfold Go.Cd.B;decide);have FR:=aa (λ(W:World) (E:Below w.heap.size w W) (PB pp g:Nat) (L:List Nat) (hp:jX W PB pp g G L) (a2:L.length=dO (bq (ai T) l)) (a4:∀x∈L,x<=Go.Cd.B ^ tP) (i:Nat) (hi:i<dO (bq (ai T) l))=>Tg (hD.mono E) hV zT (h.mono E) hl aM ax hp a2 a4 hi);have u:l6 T l=pU (jk (bq (ai T) l) (λs=>b_ (pO (ai T) (aD T) (uY T) (bq (ai T) l) s)) (fw (ai T) (aD T) (bq (ai T) l))) (dO (bq (ai T) l)) (mE id (dO (bq (ai T) l)) (dO (bq (ai T) l))):=(F5 _ _ _ _ _).symm;have ac:∀(L:List Nat) (P i:Nat),1<=P->i<dO (bq (ai T) l)->(∀x∈L,x<=P)->jk (bq (ai T) l) (λs=>b_ (pO (ai T) (aD T) (uY T) (bq (ai T) l) s)) (fw (ai T) (aD T) (bq (ai T) l)) L i<=Go.Cd.B*P:=λL P i hP hi C=>Lv (by unfold Go.Cd.B;decide) hP (hM i hi) C;obtain⟨H,aq⟩:=ae (jk (bq (ai T) l) (λs=>b_ (pO (ai T) (aD T) (uY T) (bq (ai T) l) s)) (fw (ai T) (aD T) (bq (ai T) l)));obtain⟨n,hn⟩:=ae (dO (bq (ai T) l));obtain⟨a5,V⟩:=ae (l6 T l);rw[<-V] at u⊢;simp only[<-aq,<-hn] at SZ FR u ac aB ax;have HT:=aa u;have Q_:=aa ac;clear hD hV zT h hl aM hM aq hn V u ac;refine iW func11 rfl ?_;simp only[ntmps11,py,hU,ki,Nat.reduceAdd,Nat.reduceSub,ot,oe,pz,oR,ks,ld];go_wp2_with fail;refine SZ.out.mono ?_;rintro e w1⟨v1,rfl,Y,am⟩;have UI:=aa (FP Y (by omega));obtain⟨na,nn,nc,rfl,_⟩:=Y.out;have aT:=am.size;clear Y SZ;go_wp2_with fail;refine UI.out.mono ?_;rintro e w2⟨rfl,aw⟩;have af:=am.trans (aw.mono aT);have ak:=af.size;have:decide (16384<n)=false:=decide_eq_false (by omega);have:decide ((16384:Int)<(n:Int))=false:=decide_eq_false (by omega);clear UI
 go_wp2_with (
  at_make
  refine Ag rfl _ _ rfl w.heap.size .u64 .u64 _ _ n rfl rfl rfl rfl (by omega) ak ?_
  intro d o3 aK)
 have Tq:=fO aK;have au:=af.trans (Tq.mono ak);have aR:=au.size;have a0:w2.heap.size<d.heap.size:=(o3.lt w2.heap.size rfl).2;obtain⟨g,Z⟩:=ae w2.heap.size;rw[<-Z] at o3 a0 ak⊢;obtain⟨w4,z⟩:=ae ((d.alloc (.cells #[.pointer (some ⟨G,0,none⟩),.slice (some ⟨g,0,none⟩) n n] QB)).alloc (.cells #[.pointer (some ⟨d.heap.size,0,none⟩)] 37));rw[<-z];have CP:Below d.heap.size d w4:=by rw[z];exact dH _ _
 have aS:=au.trans (CP.mono aR);have:d.heap.size+2=w4.heap.size:=by rw[z];simp
 have kP:Is w4 d.heap.size #[.pointer (some ⟨G,0,none⟩),.slice (some ⟨g,0,none⟩) n n] QB:=by rw[z];exact(Is.new _ _ _).mono (ah _)
 have kV:Is w4 (d.heap.size+1) #[.pointer (some ⟨d.heap.size,0,none⟩)] 37:=by rw[z];exact Is.new' _ _ _ _ (by simp)
 have hP:jX w4 w.heap.size d.heap.size g G (pU H n []):=by
  have e:(pU H n [])=List.replicate n 0:=rfl;rw[e];refine⟨by simpa using kP,List.replicate n (.slice none 0 0),by rw[xT];exact aH o3 CP,λk hk=>⟨none,0,0,by rw[xT] at hk;simp[hk],?_⟩⟩;rw[List.getElem_replicate];exact⟨_,rfl,by rw[di];exact .nil _ _ _ _ (λ_=>rfl)⟩
 have U:∀j,j<n->∃a m c,w4.cell? ⟨g,j,none⟩=some (.slice a m c):=λj hj=>by
  obtain⟨a,m,c,h,_⟩:=hP.at_ (k:=j) (by rw[LJ];exact hj);exact⟨a,m,c,h⟩
 have:=aa Z;clear z Z o3 aK Tq CP af aw am kP;refine(Io _ w4 ⟨_,_,_,rfl⟩).mono ?_;rintro e w5⟨rfl,rfl⟩;go_wp2_with fail;have N:=ah (w:=w4) (.cells #[.slice (some ⟨g,0,none⟩) n n] 100);have:g≠w4.heap.size:=by omega
 refine(wpIn_wide (n:=5)).1 ?_;refine wpIn_rangeFunc_ownG (F:=Fence.wide) rfl (by omega) (gf:=84) (lb:=#[.pointer (some ⟨w4.heap.size,0,none⟩)]) rfl trivial (enters_of func84 (by kernel_rfl) rfl)
  (LH Fence.wide 4 trivial rfl (by omega) w4.heap.size g n n (by omega) (w4.alloc (.cells #[.slice (some ⟨g,0,none⟩) n n] 100)) (by simp) (by simp;omega) ((Is.new w4 _ _).at 0 rfl) (λj hj=>by
    obtain⟨a,m,c,h⟩:=U j hj
    exact⟨a,m,c,(N.cell (p:=⟨g,j,none⟩) (by show g<w4.heap.size;omega)).trans h⟩))
  (λh k=>h.trans k) (λW l o o' hl ho hc _=>by
    have:w4.heap.size+1<=l:=by simpa using hl
    refine⟨nF (nd (by simp only;omega)),λj hj C=>?_⟩;rw[nF (w:=W) (nd (by simp only;omega))]
    exact C) (gO _ _) (λ_=>rfl)
  (λb W=>((∀x∈pU H n (b.map λx=>x.1.1),x<=Go.Cd.B ^ b.length)/\jX W w.heap.size d.heap.size g G (pU H n (b.map λx=>x.1.1))/\Is W (d.heap.size+1) #[.pointer (some ⟨d.heap.size,0,none⟩)] 37/\w4.heap.size+1<=W.heap.size)/\Below w.heap.size w W)
  (λ_ _ _=>False)
  (OwnFrom.and (Own.from (λs A B row hs Z hr=>⟨hs.1,hs.2.1.QC Z hr,⟨oh Z hr hs.2.2.1.at_⟩,gS hs.2.2.2 Z.size⟩) _) (ownFrom_below (gw _) (by simp;omega)))
  (λc s A B row hs _ _=>hs.elim)
  ⟨⟨λx C=>by rw[show pU H n (([]:List (BN n)).map λx=>x.1.1)=List.replicate n 0 from rfl] at C;rw[wm C];exact gW _,hP.mono N,kV.mono N,by simp⟩,aS.trans (N.mono (by omega))⟩
  (λx=>{ tmps:=#[.pointer (some ⟨G,0,none⟩),undef,.pointer none,.int .i64 0,.int .u64 n,.bool true,.pointer (some ⟨d.heap.size+1,0,none⟩),.int .i64 (x.1.1:Nat),.tuple #[.int .u64 n,.bool true],.pointer (some ⟨G,0,none⟩),.agg #[.slice na nn nc],
    .tuple #[.int .u64 n,.bool true],.int .u64 n,.bool true,.bool true,.bool false,.bool false,.int .u64 n,.bool false,.bool false,.pointer (some ⟨G,0,none⟩),.int .u64 n,.slice (some ⟨g,0,none⟩) n n,.agg #[.pointer (some ⟨G,0,none⟩),.slice (some ⟨g,0,none⟩) n n],
    .pointer (some ⟨d.heap.size,0,none⟩),.pointer (some ⟨d.heap.size,0,none⟩),.pointer (some ⟨d.heap.size,0,none⟩),.pointer (some ⟨d.heap.size,1,none⟩),.slice (some ⟨g,0,none⟩) n n,.func (.func 84) #[] #[.pointer (some ⟨w4.heap.size,0,none⟩)],
    .int .i64 (x.1.1:Nat),x.1.2,undef,undef,undef,undef,undef,undef,undef,undef,undef,undef],defers:=[] }) ?assign ?body ?done ?stop
 case assign=>
  intro l x W K hK
  gi_wp2
  exact hK
 case body=>
  rintro l b⟨⟨i,v⟩,M⟩ Wr ⟨⟨t,f,I,aV⟩,J⟩ aU;have Je:=J.size;have ab:=LJ H n (b.map λx=>x.1.1);have al:pU H n ((b++[(⟨(i,v),M⟩:BN n)]).map λx=>x.1.1)=(pU H n (b.map λx=>x.1.1)).set i (H (pU H n (b.map λx=>x.1.1)) i):=by rw[js];exact F4 _ _ _ _
  have ao:Go.Cd.B ^ b.length<=Go.Cd.B ^ tP:=kf (by unfold Go.Cd.B;decide) (show b.length<=16384 by omega);have O:=Q_.out (pU H n (b.map λx=>x.1.1)) (Go.Cd.B ^ b.length) i (one_le_pow (by unfold Go.Cd.B;decide) _) M t;have ad:(b++[(⟨(i,v),M⟩:BN n)]).length=b.length+1:=by simp
  obtain⟨L,aC⟩:=ae (pU H n (b.map λx=>x.1.1));rw[<-aC] at t f ab al O;obtain⟨q,hq⟩:=ae b.length;rw[<-hq] at t ao O ad aU;have aE:=FR.out Wr.drew (J.trans ((ag Wr).mono Je)) _ _ _ L (f.mono (ag Wr)) ab (λx C=>gS (t x C) ao) i M;have av:=aa al;have a3:=aa ad;have aX:=aa aE;have aN:=aa t;have Yu:=aa O;have p1:=Gr.cell (ag Wr) (f.is.at 1 rfl);rw[ab] at p1;have v1:=I.gd 0 rfl;clear al ad aE t ao O aC hq;refine wpIn_block ?_;dsimp only;refine D_ #[true,true,true,true,true,true,true,true,true,false] 9 1 mixed (by rfl) (by kernel_rfl) (by rintro⟨a,w,h⟩;exact h) ?_;refine ay [0,1,2,3,4,5,6] 2 ?_
  iterate 7 (refine aA rfl ?_;go_big_quiet_step (rfl))
  refine az ?_;refine aI 7 ?_;go_wp2_with fail;refine aX.out.mono ?_;rintro e wc⟨r,rfl,hN,aL⟩;obtain⟨ua,un,uc,rfl,hN⟩:=hN.out;go_wp2_with fail;refine aF aL ?_;refine ay [8] 0 ?_
  iterate 1 (refine aA rfl ?_;go_big_quiet_step (rfl))
  refine az ?_;have y:=(ag Wr).trans aL;have S:=f.mono y;have aW:=I.mono y;have an:i<L.length:=by omega
  obtain⟨oa,om,oc,ba,_⟩:=S.at_ an;have:=S.frozen an;have ap:=S.store an hN;obtain⟨cs,aZ⟩:=bV S.row.choose_spec.1 (k:=g) rfl;have ch:=bJ.put (o:=i) (⟨aZ⟩:Is wc g cs eD) (.slice ua un uc);have a1:=ch.is aW (by decide);refine aJ [9] ?_;refine tail_cons rfl ?_;go_wp2_with fail;refine tail_nil ?_;have aO:=J.trans (y.mono Je);refine⟨((KeepsOthers.of_below y).trans (KeepsOthers.setCell _ _ _)).from _,⟨?_,λj hj C=>?_⟩,⟨?_,?_,a1,?_⟩,aj aO (by omega)⟩
  ·rw[nF (w:=wc) (i_ _ _ _ _ (by simp only;omega))];exact y.cell (p:=⟨w4.heap.size,0,none⟩) (by show w4.heap.size<Wr.heap.size;omega)
  ·obtain⟨a,m,c,h,_⟩:=ap.at_ (k:=j) (by rw[mN];omega);exact⟨a,m,c,h⟩
  ·intro x C;rw[av.out] at C;rw[a3.out];rcases rh C with h|rfl
   ·exact gS (aN.out x h) (kf (by unfold Go.Cd.B;decide) (pj _))
   rw[yi];exact Yu.out
  ·rw[av.out];exact ap
  have:=y.size;simp only[lO];omega
 case done=>
  rintro D ys Wd hD Q⟨⟨t,f,I,aV⟩,J⟩ hK;have Q:ys.map (λx=>x.1.1)=mE id n n:=Q;rw[Q,<-HT.out] at f;have:w4.heap.size+1<=D:=by simpa using hD
  have Uw:Wd.grownBy (Wd.putObj D (.deferred none)) (some D):=grownBy_putObj' Wd D (.deferred none);have ar:∀r,some D=some r->∃o:Obj,Wd.heap[r]? = some o/\o.isCells=false:=λr e=>by cases e;exact⟨_,hK,rfl⟩
  have aQ:=aa (f.QC Uw ar);have Vk:=aa (J.trans (belowK_b (w:=w) (gw _) Wd D _ (.deferred none) (by omega) hK rfl rfl));have:=I.at 0 rfl;clear t f I Uw ar Q;go_wp2;refine⟨by simp,.inl ⟨_,_,rfl,run_takeDeferred hK,?_⟩⟩;exact⟨.tuple #[.pointer (some ⟨d.heap.size,0,none⟩),.int .i64 0],by simp[results,results11,go_sem],_,_,rfl,aQ.out,Vk.out⟩
 case stop=>
  rintro D c b Wd _ _ h _;exact h.elim
end
end Go.Proofs.YtmnimbnojdndmaaGreatDoor
namespace Go.Proofs.YtmnimbnojdndmaaGreatDoor
open Go.RowKit Go.Cd _root_.Go.Proofs.Tryz
variable {T:List aG} {X l:List Nat} {w w':World} {p B j:Nat} {us:List (List Nat)} {a:List Value} {v:Value} {ap:Nat->Bool} {K:Nat->Nat}
def yI (T:List aG):List Nat:=(mapped T).flatMap λr=>(aD T r.code).drop 1
def adm {E:List eB} (h:E.map (·.1)=(mapped T).map (·.code)):BH T E=yI T:=by
 have b:BH T E=(E.map (·.1)).flatMap λc=>(aD T c).drop 1:=by unfold BH;rw[sS]
 have a:yI T=((mapped T).map (·.code)).flatMap λc=>(aD T c).drop 1:=by unfold yI;rw[sS]
 rw[b,a,h]
def CQ (T:List aG) (c:Nat):Bool:=decide (c∈yI T)||(hk c==2||hk c==3)
def WN (a:aY T X):(yI T).length<=32*T.length:=by
 have key:∀L:List aG,(L.flatMap λr=>(aD T r.code).drop 1).length<=32*L.length:=λL=>by
  induction L with
  | nil=>simp
  | cons r L ih=>
    rw[iR,d',ps,hU];have:=il a r.code;omega
 refine gS (key _) (sY _ (lp _ _))
def LW (h:cK w p T X) (x:aY T X) (P:T.length<1000) (c:Nat) (A:c<1114112) :
 Calls prog 132 #[.pointer (some ⟨p,0,none⟩),.int .i32 c] w λe w'=>e=.returned (.bool (CQ T c))/\Below w.heap.size w w':=by
 obtain⟨E,F,xv,J,R,Q,M,I,O,S,N,i,_,_,f,_⟩:=h;have s:=i.is;rw[adm i.mG] at f;have m:=(lq (yI T)).1;have a:(lC (gu (yI T))).length<1000000:=by
  have i:=AZ (gu (yI T));have n:=xR (yI T);have r:=WN x;omega
 obtain⟨v,b⟩:=ae (decide (places (lC (gu (yI T))) c % 2=1));have j:=aa (λ(W:World) (E:Below w.heap.size w W)=>J8 (w:=W) (lC (gu (yI T))) c ((Sl.aU f).any.mono E) a (Ey m));rw[<-b] at j;have u:CQ T c=(v||(hk c==2||hk c==3)):=by
  unfold CQ;congr 1;rw[b,decide_eq_decide,JA m,(lq (yI T)).2]
 rw[u];have o:=aa (rQ (w:=w) c A);obtain⟨k,d⟩:=ae (hk c);have q:=vU c;rw[<-d] at o q⊢;have l:=ak f;obtain⟨D,L,rfl,_,_⟩:=l;have z:=s.at 7 rfl;clear i f s m a b u d;go_enter func132,ntmps132;go_wp2_with fail;refine o.out.mono ?_;rintro e t⟨rfl,C⟩;obtain rfl:t=w:=C;go_wp2_with fail;refine(j.out t (gO _ _)).mono ?_;rintro e H⟨rfl,g⟩;clear j o z;cases v with
 | true=>
   go_wp2_with fail;go_ret;exact⟨by simp,g⟩
 | false=>
   by_cases n:k=2
   ·subst n;go_wp2_with fail;go_ret;exact⟨by simp,g⟩
   have:((k:Int)==2)=false:=by simp;omega
   have y:(k==2)=false:=by simp[n]
   by_cases r:k=3
   ·subst r;go_wp2_with fail;go_ret;exact⟨by simp,g⟩
   have:((k:Int)==3)=false:=by simp;omega
   have B:(k==3)=false:=by simp[r]
   go_wp2_with fail;go_ret;exact⟨by simp[y,B],g⟩
def kF (T:List aG) (c:Nat):Bool:=(ai T ((aD T c).headD 0)==0)&&!CQ T ((aD T c).headD 0)
def Ga {c:Nat}:(aD T c).head? = some ((aD T c).headD 0):=by
 have:=pF T c;cases h:aD T c with
 | nil=>exact absurd h this
 | cons a l=>rfl
def LZ (h:cK w p T X) (s:aY T X) (G:T.length<1000) (c:Nat) (u:aP c) :
 Calls prog 90 #[.pointer (some ⟨p,0,none⟩),.int .i32 c] w λe w'=>e=.returned (.bool (kF T c))/\Below w.heap.size w w':=by
 have t:c<1114112:=u.1;have H:=aa (gZ (w:=w) c (by omega));rw[decide_eq_true u] at H;have J:=aa (pG h s G c t);obtain⟨f,hf⟩:=ae ((aD T c).headD 0);have q:f∈aD T c:=by
  have j:=Ga (T:=T) (c:=c);rw[<-hf] at j;exact List.mem_of_head? j
 have l:=(ow s u q).1;have F:=aa (λ(W:World) (E:Below w.heap.size w W)=>iM (h.mono E) s f l);have C:=aa (λ(W:World) (E:Below w.heap.size w W)=>LW (h.mono E) s G f l);have D:kF T c=((ai T f==0)&&!CQ T f):=by unfold kF;rw[<-hf]
 rw[D];obtain⟨k,I⟩:=ae (ai T f);obtain⟨b,o⟩:=ae (CQ T f);rw[<-I] at F⊢;rw[<-o] at C⊢;have N:=aa hf;have d:=jz.2 (pF T c);clear h I o D hf q;go_enter func90,ntmps90;go_wp2_with fail;refine H.out.mono ?_;rintro e M⟨rfl,Q⟩;obtain rfl:M=w:=Q;go_wp2_with fail;refine J.out.mono ?_;rintro e x⟨r,rfl,v,A⟩;obtain⟨g,cap,rfl,_,_,_,_,a⟩:=dz v d;have P:x.cell? ⟨g,0,none⟩=some (.int .i32 (f:Nat)):=by
  refine a 0 _ ?_;rw[N.out,gA (by simpa using d),dR _ _ d];congr 2;have j:=Ga (T:=T) (c:=c);rw[List.head?_eq_getElem?,gA d] at j;injection j with j;rw[j]
 obtain⟨n,B⟩:=ae ((aD T c).length);rw[<-B] at d⊢;clear v a B;go_wp2_with fail;refine(F.out x A).mono ?_;rintro e K⟨rfl,O⟩;have i:=af A O;clear P;by_cases m:k=0
 ·subst m;have z:((0:Nat):Int)=0:=rfl;go_wp2_with fail;refine(C.out K i).mono ?_;rintro e R⟨rfl,L⟩;go_wp2_with fail;go_ret;exact⟨by simp,af i L⟩
 have z:((k:Int)==0)=false:=by simp;omega
 have y:(k==0)=false:=by simp[m]
 go_wp2_with fail;go_ret;exact⟨by simp[y],i⟩
abbrev eSl:TypeId:=35
def ado:Elem prog 122 eSl (.slice none 0 0) 24:=⟨rfl,underlying122,info_parts (by kernel_rfl)⟩
structure xe (w:World) (B:Nat) (Z:ig) (ov:Value) (us:List (List Nat)) (vals:List Value):Prop where
 len:vals.length=us.length
 row:w.ownsRow B eSl 1 ov us.length vals
 z:Ut w Z
 zb:∀k,Z k≠none->B<=k
 own:∀k (hk:k<us.length),∃v,vals[k]? = some v/\si w B Z k v us[k]
def xe.ext {Z:ig} {f:Value} (h:xe w B Z f us a) (b:Below w.heap.size w w'):xe w' B Z f us a:=
 have d:∀k,Z k≠none->w'.heap[k]? = w.heap[k]?:=λk c=>b.block k (h.z k c).1
 ⟨h.len,aH h.row b,h.z.mono b.size d,h.zb,λk c=>by obtain⟨v,e,o⟩:=h.own k c;exact⟨v,e,o.mono d⟩⟩
def xe.nil (w:World) (B:Nat):xe w B (λ_=>none) (.slice none 0 0) [] []:=⟨rfl,iu _ _ _ _,λ_ h=>absurd rfl h,λ_ h=>absurd rfl h,λ_ h=>absurd h (by simp)⟩
def xe.push {Z:ig} {g b:Value} (h:xe w B Z g us a) (l:w'.ownsRow B eSl 1 b (us.length+1) (a++[.slice none 0 0])) (i:w.grownBy w' g.ownBlock) :
 xe w' B Z b (us++[[]]) (a++[.slice none 0 0]):=by
 have c:=bJ.bQ h.row i;have f:=c.z h.z (by decide);refine⟨by simp[h.len],by simpa using l,h.z.mono c.size f,h.zb,λk m=>?_⟩;by_cases e:k<us.length
 ·obtain⟨v,j,o⟩:=h.own k e;refine⟨v,?_,?_⟩
  ·rw[kn (by rw[h.len];exact e)];exact j
  rw[rF e];exact o.mono f
 have d:k=us.length:=by simp at m;omega
 subst d;refine⟨.slice none 0 0,?_,?_⟩
 ·rw[<-h.len,j7 (gw _),m_];rfl
 rw[vt (gw _)];simp only[m_,tz];exact si.nil _ _ _ _
def xe.add {Z m:ig} {g n cap:Nat} (h:xe w B Z (.slice (some ⟨g,0,none⟩) n cap) us a) {k:Nat} (C:k<us.length) (d:vK w Z k w' m) {u:List Nat} (A:si w' B m k v u) (D:B<=w.heap.size) :
 xe (w'.setCell ⟨g,k,none⟩ v) B m (.slice (some ⟨g,0,none⟩) n cap) (us.set k u) (a.set k v):=by
 have r:us.length=n:=by
  obtain⟨_,_,e,_⟩:=dz h.row (by omega);injection e with _ e _;exact e.symm
 have c:=d.iQ h.z;have q:=c.own h.row (by decide);have y:=bV q (k:=g) rfl;obtain⟨cs,p⟩:=y;have s:=bJ.put (o:=k) (⟨p⟩:Is w' g cs eSl) v;have i:=s.z d.z (by decide);rw[r] at q;refine⟨by simp[h.len],by rw[mN,r];exact(q.stored k v).1,d.z.mono s.size i,λj f=>?_,λj f=>?_⟩
 ·by_cases l:j<w.heap.size
  ·by_cases e:Z j=some k
   ·exact h.zb j (by rw[e];simp)
   rw[d.sub j l e] at f;exact h.zb j f
  omega
 have b:j<us.length:=by simpa using f
 by_cases e:j=k
 ·subst e;refine⟨v,by rw[tA (by rw[h.len];exact b)],?_⟩;rw[List.getElem_set_self];exact A.mono i
 obtain⟨x,t,o⟩:=h.own j b;refine⟨x,by rw[sx (px e)];exact t,?_⟩;rw[yd (px e)];exact(d.other e o).mono i
def CR (a:j<l.length):bf ap (l.take (j+1))=fZ ap (bf ap (l.take j)) l[j]:=by
 unfold bf;rw[gE a,rm];rfl
def Tt (a:j<=l.length):bf ap (l.take j)=[]↔j=0:=by
 cases j with
 | zero=>simp[bf]
 | succ j=>
   rw[CR (by omega)];simp[Tn]
def oH {ap:Nat->Bool}:∀(l:List Nat) (o:List (List Nat)),(l.foldl (fZ ap) o).length<=o.length+l.length
 | [],_=>gw _
 | c::l,o=>by
   have:=oH (ap:=ap) l (fZ ap o c);have:(fZ ap o c).length<=o.length+1:=by unfold fZ;split <;> simp <;> omega
   rw[ox,hU];omega
def L6 (h:cK w p T X) (hV:aY T X) (hl:T.length<1000) (l:List Nat) (hv:bG w v (aM l)) (hc:∀c∈l,aP c) (aH:l.length<3000) :
 Calls prog 58 #[.pointer (some ⟨p,0,none⟩),v] w λe w'=>∃r d,e=.returned r/\w'.ownsRow w.heap.size eSl 1 r (bf (kF T) l).length d/\d.length=(bf (kF T) l).length/\(∀k (hk:k<(bf (kF T) l).length),∃u,d[k]? = some u/\w'.ownsRow w.heap.size aN 1 u ((bf (kF T) l)[k]).length (aM (bf (kF T) l)[k]))/\Below w.heap.size w w':=by
 obtain⟨n,hn⟩:=ae l.length;obtain⟨a,cap,rfl,aU,hx⟩:=bG.Hl hv hn;have HX:=aa hx;have HC:=aa hc;have HN:=aa hn;have AP:=aa (λ(W:World) (E:Below w.heap.size w W) c (hc:aP c)=>LZ (h.mono E) hV hl c hc);obtain⟨ap,aq⟩:=ae (kF T);rw[<-aq] at AP⊢;rw[<-hn] at aH;clear h hV hl hv hc hx hn aq;go_enter func58,ntmps58;go_wp2_with fail;go_loopw [5,8,11] (λov _ iv wr=>∃j:Nat,j<=n/\iv=.int .i64 j/\(∃Z d,xe wr w.heap.size Z ov (bf ap (l.take j)) d)/\Below w.heap.size w wr) (λ_ _ iv _=>n-(intOf iv).toNat)
 case atStart=>exact⟨0,gW _,rfl,⟨_,_,xe.nil _ _⟩,gO _ _⟩
 case round=>
  obtain⟨j,hj,rfl,⟨Z,d,Y⟩,hE⟩:=hrel;by_cases aV:j<n
  ·have zj:=eG (show j<n by omega);have Q:j<l.length:=by have:=HN.out;omega
   obtain⟨b,off,rfl,a5,ar⟩:=HX.out j Q;have c0:=aB hE ar;clear ar;have L:=HC.out _ (gx Q);obtain⟨us,ze⟩:=ae (bf ap (l.take j));have K:=Tt (ap:=ap) (l:=l) (j:=j) (by omega);have H:=CR (ap:=ap) Q;have a4:us.length<=j:=by
    rw[ze];refine gS (oH _ _) ?_;rw[iS];simp;omega
   have Eb:∀y∈us,y.length<=j:=λy U=>by
    have h1:=gH (ap:=ap) (l.take j);rw[<-ze] at h1;have h2:=congrArg List.length h1;rw[iS] at h2;have h3:=pA (nB U);omega
   have ag:=aa Eb;rw[<-ze] at Y K H;obtain⟨x,Aq⟩:=ae (l[j]);rw[<-Aq] at c0 L H;have HU:=aa Y;have aQ:=aa H;have aw:=aa K;have CK:=aa (AP.out wr hE x L);obtain⟨bx,M⟩:=ae (ap x);rw[<-M] at CK;have aF:=aa M;have aL:=hE.size;clear Y H K ze Aq M L Eb;go_upto_region 5 with fail;go_cut [22] from 16 to 21 (λtv wx=>∃tb:Bool,tv=.bool tb/\(tb=true↔us=[]\/ap x=true)/\Below wr.heap.size wr wx)
   case first=>
    by_cases ad:j=0
    ·subst ad;have H0:=aa (aw.out.2 rfl);go_wp2_with fail;go_meet;exact⟨true,rfl,by simp[H0.out],gO _ _⟩
    have z0:((j:Int)==0)=false:=by simp;omega
    go_wp2_with fail;refine CK.out.mono ?_;rintro e w6⟨rfl,aI⟩;go_wp2_with fail;go_meet;exact⟨bx,rfl,by rw[aF.out];exact⟨λh=>.inr h,λh=>h.resolve_left λe=>ad (aw.out.1 e)⟩,aI⟩
   case rest=>
    clear c0;obtain⟨tb,rfl,am,R⟩:=hcut;have J:=aa am;have B:=aa (HU.out.ext R);have Ql:=hE.trans (R.mono aL);have aE:=Ql.size;clear am R hE;go_upto_if 22 with fail;go_cut [5] from 23 to 25 (λov wx=>(∃Z d s,xe wx w.heap.size Z ov s d/\s≠[]/\s.length<=j+1/\(∀y∈s,y.length<=j)/\fZ ap us x=s.set (s.length-1) (s.getLastD []++[x]))/\Below w.heap.size w wx)
    case first=>
     cases tb with
     | true=>
       have V:=B.out.row;have a6:=B.out.len;have vH:=aa (J.out.1 rfl);have jh:=ah (w:=wc) (.cells #[.slice none 0 0] eSl);go_wp2_with (refine f_ (W:=wc) rfl _ _ 122 rfl w.heap.size eSl (.slice none 0 0) 24 ado u5 us.length d rfl V (.slice none 0 0) rfl rfl (by omega) (by unfold maxLen;omega) w Ql (gw _) ?_;intro v7 w7 o7 b7 _ g7);have aA:=aa ((B.out.ext jh).push o7 g7);clear o7 g7 V;go_wp2_with fail;go_meet
       refine⟨⟨Z,_,us++[[]],aA.out,by simp,by simp;omega,λy U=>(by
        rcases gR.1 U with U|U
        ·exact ag.out y U
        rw[gC.1 U];exact gW _),?_⟩,b7⟩
       unfold fZ;rw[if_pos vH.out];simp
     | false=>
       have vH:=aa (show ¬(us=[]\/ap x=true) from λh=>by have:=J.out.2 h;cases this);go_wp2_with fail;go_meet;refine⟨⟨Z,d,us,B.out,λe=>vH.out (.inl e),by omega,ag.out,?_⟩,Ql⟩;unfold fZ;rw[if_neg vH.out];have ac:us≠[]:=λe=>vH.out (.inl e);obtain⟨q,y,rfl⟩:∃q y,us=q++[y]:=⟨us.dropLast,us.getLast ac,(qq ac).symm⟩;simp[ri]
    case rest=>
     clear HU B Ql aE J;obtain⟨⟨Z1,a2,s,C,I,a1,ax,ai⟩,af⟩:=hcut;obtain⟨m,hm⟩:∃m,s.length=m+1:=⟨s.length-1,by have:=jz.2 I;omega⟩;have G:=C.row;rw[hm] at G;obtain⟨g,aW,A,aK,_,_,_,f⟩:=dz G (Nat.succ_pos m);subst A;obtain⟨lv,F,A⟩:=C.own m (by omega);obtain⟨la,lc,aO,_,_⟩:=ak A.1;subst aO;have c1:=f m _ F;have f1:=G.frozenAt m;obtain⟨u,hu⟩:=ae (s[m]);rw[<-hu] at A F c1;have ao:s.getLastD []=u:=by
      rw[hu,ri,sX,show s.length-1=m by omega,gA (show m<s.length by omega)];rfl
     have aS:=aa F;have an:=aa C;have HM:=aa hm;have ay:=aa (show bf ap (l.take (j+1))=s.set m (u++[x]) from by rw[aQ.out,ai,ao,hm,tg]);have a3:u.length<=j:=by rw[hu];exact ax _ (gx _)
     have e1:IntKind.i64.wrap (((m+1:Nat):Int)-1)=(m:Int):=by rw[j8 _ (by omega)];omega
     have aJ:=af.size;obtain⟨O,aR⟩:=ae wc;subst aR;have kT:=ah (w:=O) (.cells #[.int .i32 (x:Nat)] aN);have t:=an.out.ext kT;have P:=A.mono (λk hk=>kT.block k (an.out.z k hk).1);have yf:Below w.heap.size w (O.alloc (.cells #[.int .i32 (x:Nat)] aN)):=af.trans (kT.mono aJ);clear C G f F hu ao ai I ax A;have au:∀(i:Nat) (u:Value),([.int .i32 (x:Nat)]:List Value)[i]? = some u->(O.alloc (.cells #[.int .i32 (x:Nat)] aN)).cell? ((⟨O.heap.size,0,none⟩:Addr).add i)=some u:=λi u hi=>by
      rcases i with _|i
      ·cases hi;exact(Is.new O _ aN).at 0 rfl
      cases hi
     have aC:=aa au;clear au
     go_wp2_with (
      refine ng (W:=O.alloc (.cells #[.int .i32 (x:Nat)] aN)) rfl _ _ 35 rfl w.heap.size aN (.int .i32 0) 4 bW (by decide) (v:=.slice la u.length lc) rfl P.1 (by rw[ns];omega) [.int .i32 (x:Nat)] (λu hu=>by rw[gC.1 hu];rfl) ⟨O.heap.size,0,none⟩ 1 1 rfl rfl aC.out (by omega) ?_;intro aX zL N Wj ab;obtain⟨va,vc,rfl,_,_⟩:=ak N;obtain⟨Z5,D,av⟩:=vK.ja (l':=u++[x]) t.z P (by rw[a_,d'];exact N) Wj ab;have Ko:Below w.heap.size w zL:=yf.trans (D.below t.zb (by simp;omega));have al:=t.add (k:=m) (by have:=HM.out;omega) D av (by simp;omega);have S:=(D.iQ t.z).own t.row (by decide);have aD:w.heap.size<=g:=(S.lt g rfl).1;have V:=S;rw[HM.out] at V;obtain⟨g',aT,e,_,_,_,_,f⟩:=dz V (Nat.succ_pos m);injection e with e1 _ e3;subst e3;injection e1 with e1;injection e1 with e1;subst e1;have a0:=f m _ aS.out;have aZ:=V.frozenAt m;have az:=aa al
      clear N Wj ab D av al t P S V f)
     go_roundw
     case rel=>exact⟨j+1,by omega,by simp,⟨_,_,by rw[ay.out];exact az.out⟩,aj Ko aD⟩
     case measure=>simp[intOf];omega
  have zj:=gI (show n<=j by omega);obtain rfl:j=n:=by omega
  have ht:l.take j=l:=ie (by rw[HN.out];exact gw _);rw[ht] at Y;have HU:=aa Y;clear Y ht;go_wp2_with fail;go_ret;exact⟨_,d,rfl,HU.out.row,HU.out.len,λk hk=>by obtain⟨u,e,o⟩:=HU.out.own k hk;exact⟨u,e,o.1⟩,hE⟩
def L8 {s o g y:Nat} {a:List Nat} (n:jX w s o g y a) (h0:0<a.length) (q:a.length<=16384) :
 Calls prog 18 #[.pointer (some ⟨o,0,none⟩)] w λe w'=>∃r,e=.returned r/\bT w' r (a.getD 0 0)/\Below w.heap.size w w':=by
 obtain⟨k,l,j,d,b⟩:=n.at_ h0;rw[show a.getD 0 0=a[0] by rw[ic,gA h0];rfl];obtain⟨x,p⟩:=ae (a[0]);rw[<-p] at b⊢;obtain⟨D,f⟩:=ae a.length;have c:=n.is;rw[<-f] at c h0 q;have i:=ah (w:=w) (.cells #[.slice none 0 0] eD);have m:=Is.new w #[.slice none 0 0] eD;have:=(c.mono i).at 1 rfl;have:=aB i d;have:=m.at 0 rfl;have:=m.frozen 0;have u:=(Is.new w #[.slice k l j] eD).at 0 rfl;have t:=aa (b.mono (ah (w:=w) (.cells #[.slice k l j] eD)));have h:=aa (ah (w:=w) (.cells #[.slice k l j] eD));clear n p f b d m c;go_enter func18,ntmps18;go_wp2_with fail;exact bodyPost_ret (v:=.agg #[.slice k l j]) (by simp[results,results18,go_sem,u]) rfl ⟨_,rfl,t.out,h.out⟩
def WO (w:World) (v:Value) (dp:Nat) (K:Nat->Nat) (us:List (List Nat)):Prop:=
 ∃a c,v=.slice a us.length c/\∀k (f:k<us.length),∃b off d e,a=some ⟨b,off,none⟩/\w.cell? ⟨b,off+k,none⟩=some (.pointer (some ⟨d,0,none⟩))/\dP w e d dp K us[k]
def tQ:Nat:=20002
def sI (c:l.length<9000):dO (bq K l)<=Go.Cd.B ^ tQ:=by
 obtain⟨Rs,a⟩:∃Rs:List cB,Rs.map cB.sp=bq K l:=⟨(bq K l).map λr=>(r.1,.slice none 0 0,r.2.map λx=>(x.1,.slice none 0 0,x.2)),by
  rw[mB]
  conv=>rhs;rw[<-tj (bq K l)]
  refine mw λr _=>?_
  simp[cB.sp,d_.sp,Function.comp_def]⟩
 have d:=Cj.of (Rs:=Rs) (a▸fD K l) c;have b:_<=tQ:=Ib d (j:=Rs.length) (gw _);rw[kO,Ih,a,cZ bE] at b;exact nu b
def eF (K:Nat->Nat) (us:List (List Nat)):Nat:=(us.map λu=>dO (bq K u)).sum
def CS (a:j<us.length):eF K (us.take (j+1))=eF K (us.take j)+dO (bq K us[j]):=by
 unfold eF;rw[gE a,js,sg];simp
def L9 (h:∀u∈us,u.length<9000) (b:us.length<=1000000) (j:Nat):(bY Go.Cd.B (eF K (us.take j))).length<=20003:=by
 refine sF (n:=tQ) (gS (Ij _ (Go.Cd.B ^ tQ) (us.take j) λu a=>sI (h u (rl a))) (nh _ ?_));rw[iS];omega
def Tu {dp:Nat} (h:WO w v dp K us) (q:∀u∈us,u.length<9000) (hl:us.length<=10000) :
 Calls prog 55 #[v] w λe w'=>∃r,e=.returned r/\bT w' r (eF K us)/\Below w.heap.size w w':=by
 obtain⟨a,c,rfl,hk⟩:=h;obtain⟨n,O⟩:=ae us.length;rw[<-O] at hl⊢;have HN:=aa O;have HK:=aa hk;have HB:=aa (λj=>L9 (K:=K) q (by omega) j);have HU:=aa (λu h=>(show(bY Go.Cd.B (dO (bq K u))).length<=20003 from l5 (n:=tQ) (sI (q u h))));obtain⟨H,d⟩:=ae ((w.alloc (.cells #[.slice none 0 0] eD)).alloc (.cells #[.slice none 0 0] eD));have C:Below w.heap.size w H:=by rw[d];exact dH _ _
 have k0:Is H w.heap.size #[.slice none 0 0] eD:=by rw[d];exact(Is.new _ _ _).mono (ah _)
 have k1:Is H (w.heap.size+1) #[.slice none 0 0] eD:=by rw[d];exact Is.new' _ _ _ _ (by simp)
 have P:bT H (.agg #[.slice none 0 0]) 0:=⟨_,rfl,by rw[di];exact .nil _ _ _ _ (λ_=>rfl)⟩;clear O hk q;go_enter func55,ntmps55;go_wp2_with fail;rw[<-d];clear d;have:=C.size;go_loopw [5,8] (λ_ N wr=>∃j:Nat,j<=n/\N=.int .i64 j/\(∃p m l,Is wr (w.heap.size+1) #[.slice p m l] eD/\bT wr (.agg #[.slice p m l]) (eF K (us.take j)))/\Is wr w.heap.size #[.slice none 0 0] eD/\Below w.heap.size w wr) (λ_ N _=>n-(intOf N).toNat)
 case atStart=>exact⟨0,gW _,rfl,⟨_,_,_,k1,P⟩,k0,C⟩
 case round=>
  obtain⟨j,hj,rfl,⟨p,m,l,F,s⟩,k,y⟩:=hrel;have Je:=y.size;by_cases ac:j<n
  ·have zj:=eG (show j<n by omega);have g:j<us.length:=by have:=HN.out;omega
   obtain⟨b,off,mp,MB,rfl,Y,t⟩:=HK.out j g;have Y:=aB y Y;have t:=t.mono y;have f:=CS (K:=K) g;have J:=HB.out j;have L:=HU.out _ (gx g);obtain⟨u,q⟩:=ae (us[j]);rw[<-q] at t f L;obtain⟨S,hS⟩:=ae (eF K (us.take j));rw[<-hS] at s f J;have SZ:=aa (oG (t.mono (ag wr)));have V:=aa f;have e0:=F.gd 0 rfl;clear t f q hS;go_wp2_with fail;refine aC #[true,true,true,true,false] 4 1 mixed ?_;refine ay [0,1] 2 ?_
   iterate 2 (refine aA rfl ?_;go_big_quiet_step (rfl))
   refine az ?_;refine aI 2 ?_;go_wp2_with fail;refine SZ.out.mono ?_;rintro e w7⟨r7,rfl,X,Q⟩;have z:=(ag wr).trans Q;go_wp2_with fail;refine aF Q ?_;refine aI 3 ?_;go_wp2_with fail;refine(Oo (s.mono z) X (by omega) (by omega)).mono ?_;rintro e w8⟨r8,rfl,G,T⟩;obtain⟨E,I,D,rfl,G⟩:=G.out;have i:=af z T;go_wp2_with fail;refine aF T ?_;have x:=F.mono i;have f0:=x.at 0 rfl;have q0:=x.frozen 0;have U:=aa (x.set 0 (.slice E I D));have M:=aa (bT.iQ G (bJ.put (o:=0) x (.slice E I D)) (by decide));have R:=aa ((k.mono i).put (show w.heap.size≠w.heap.size+1 by omega) (o:=0) (.slice E I D));have yf:=aa (aj (off:=0) (u:=.slice E I D) (b:=w.heap.size+1) (y.trans (i.mono Je)) (by omega));clear x G X s F k e0 Q T;refine aJ [4] ?_;refine tail_cons rfl ?_;go_wp2_with fail;refine tail_nil ?_;go_wp2_with fail;go_roundw
   case rel=>exact⟨j+1,by omega,by simp,⟨_,_,_,U.out,by rw[V.out];exact M.out⟩,R.out,yf.out⟩
   case measure=>simp[intOf];omega
  have zj:=gI (show n<=j by omega);obtain rfl:j=n:=by omega
  have W:us.take j=us:=ie (by rw[<-HN.out];exact gw _);rw[W] at s;have:=F.at 0 rfl;have f0:=k.at 0 rfl;have q0:=k.frozen 0;have Z:=k.set 0 (.slice p m l);have g0:=Z.at 0 rfl;have hN:=aa (bT.iQ s (bJ.put (o:=0) k (.slice p m l)) (by decide));have A:=aa (aj (off:=0) (u:=.slice p m l) (b:=w.heap.size) y (gw _));clear k Z s W;go_wp2_with fail;exact bodyPost_ret (v:=.agg #[.slice p m l]) (by simp[results,results55,go_sem,g0]) rfl ⟨_,rfl,hN.out,A.out⟩
end Go.Proofs.YtmnimbnojdndmaaGreatDoor
