/- Texts that are alike cost, and count, the same; no condition. -/
import Derived.Test.YtmnimbnojdndmaaGreatDoorU09
set_option maxRecDepth 100000
set_option maxHeartbeats 6400000
set_option linter.all false
namespace Go.Proofs.YtmnimbnojdndmaaGreatDoor
section
open Go.RowKit Go.Cd
def lS.put {w:World} {p k o:Nat} {f:Nat->Nat} {cs:Array Value} {T:TypeId} (h:lS w p f) (v:Is w k cs T) (E:cs.size<=100) (u:Value):lS (w.setCell ⟨k,o,none⟩ u) p f:=by
 obtain⟨g,y,B,cap,x,D,C,i,j,m,l⟩:=h;have q:p≠k:=λe=>by
  subst e;rw[v.cell] at j;have:=(jt.1 j).1;omega
 have A:B≠k:=λe=>by
  subst e;have t:=(l 255 (by decide)).2;rw[v.cell] at t;have:=(jt.1 t).1;omega
 have d:∀b,b≠k->∀o',(w.setCell ⟨k,o,none⟩ u).cell? ⟨b,o',none⟩=w.cell? ⟨b,o',none⟩:=λb z o'=>nF (a:=⟨b,o',none⟩) (i_ _ _ _ _ (by simp only;exact λe=>z e));exact⟨g,y,B,cap,by simpa using x,by simpa using D,C,i,(d p q _).trans j,λn r=>⟨(m n r).1,(d p q _).trans (m n r).2⟩,λc s=>⟨(l c s).1,(d B A _).trans (l c s).2⟩⟩
def DX (w:World) (v:Value) (l:List Nat):Prop:=w.ownsRow 0 aN 1 v (lC (gu l)).length (aM (lC (gu l)))
structure DY (T:List aG) (X:List Nat) (E:List eB) (w:World) (p:Nat) (rv xv ev:Value) (bM jM:Nat) (cp pp iv sv mv:Value):Prop where
 is:Is w p #[rv,xv,cp,pp,ev,.map (some bM),.map (some jM),iv,sv,mv] 156
 rows:∃R:List (aG×Value),R.map (·.1)=T/\w.ownsRow 0 h_ 3 rv T.length (R.flatMap Vm)/\∀x∈R,w.ownsRow 0 aN 1 x.2 x.1.map.length (aM x.1.map)
 qp:w.ownsRow 0 178 3 ev E.length (E.flatMap Kr)
 mG:E.map (·.1)=(mapped T).map (·.code)
 full:∀x∈E,w.ownsRow 0 aN 1 x.2.2.1 (aD T x.1).length (aM (aD T x.1))
 maps:∀x∈E,w.ownsRow 0 aN 1 x.2.1 (bP T x.1).length (aM (bP T x.1))
 qV:∀x∈E,x.2.2.2=true↔Prim T X x.1
 bm:∃G,dE Tryz.prog 21 w bM G/\(∀x u,G x u->∃c:Nat,x=.int .i32 c/\w.ownsRow 0 aN 1 u (wK T E c).length (aM (wK T E c)))/\∀c:Nat,(∀u,¬G (.int .i32 c) u)->wK T E c=[]
 jm:dE Tryz.prog 262 w jM (zK T E)
section
variable {T : List aG} {X : List Nat} {E : List eB} {w w' : World} {p bM jM : Nat} {rv xv ev cp pp iv sv mv : Value}
def DY.mono (h:DY T X E w p rv xv ev bM jM cp pp iv sv mv) (a:Below w.heap.size w w'):DY T X E w' p rv xv ev bM jM cp pp iv sv mv:=by
 obtain⟨R,l,j,k⟩:=h.rows;obtain⟨G,g,d,f⟩:=h.bm
 exact⟨h.is.mono a,⟨R,l,aH j a,λx b=>aH (k x b) a⟩,aH h.qp a,h.mG,λx b=>aH (h.full x b) a,λx b=>aH (h.maps x b) a,h.qV,
  ⟨G,g.mono a,λx u i=>by obtain⟨c,e,m⟩:=d x u i;exact⟨c,e,aH m a⟩,f⟩,h.jm.mono a⟩
def DY.put (h:DY T X E w p rv xv ev bM jM cp pp iv sv mv) (o:Nat) (u:Value) {b i g d f:Value}
 (l:(#[rv,xv,cp,pp,ev,.map (some bM),.map (some jM),iv,sv,mv]:Array Value).setIfInBounds o u=#[rv,xv,b,i,ev,.map (some bM),.map (some jM),g,d,f]):DY T X E (w.setCell ⟨p,o,none⟩ u) p rv xv ev bM jM b i g d f:=by
 have a:=bJ.put (o:=o) h.is u;obtain⟨R,t,r,s⟩:=h.rows;obtain⟨G,n,k,m⟩:=h.bm
 exact⟨l▸h.is.set o u,⟨R,t,a.own r (by decide),λx j=>a.own (s x j) (by decide)⟩,a.own h.qp (by decide),h.mG,λx j=>a.own (h.full x j) (by decide),λx j=>a.own (h.maps x j) (by decide),h.qV,
  ⟨G,a.map n,λx u q=>by obtain⟨c,e,v⟩:=k x u q;exact⟨c,e,a.own v (by decide)⟩,m⟩,a.map h.jm⟩
def DX.put {l:List Nat} {v:Value} (h:DX w v l) {cs:Array Value} (a:Is w p cs 156) (o:Nat) (u:Value):DX (w.setCell ⟨p,o,none⟩ u) v l:=(bJ.put (o:=o) a u).own h (by decide)
def DX.mono {l:List Nat} {v:Value} (h:DX w v l) (a:Below w.heap.size w w'):DX w' v l:=aH h a
end
def DY.of {T:List aG} {X:List Nat} {B p q o:Nat} {w:World} {s l a:List Nat} {f:Nat->List Nat} {g:Value->Value->Prop} {z I H t d j xv k:Value} {Z:ig} {E:List eB}
 (h:lU T X B p q o w T.length T.length T.length s l a f g z I H t d j xv k Z E E) (r:NZ T E s l a f g):DY T X E w p j xv k q o (.pointer none) (.pointer none) (.slice none 0 0) (.slice none 0 0) (.slice none 0 0):=by
 have i:T.take T.length=T:=kO;obtain⟨R,C,y,D⟩:=h.rows;obtain⟨G,v,n,m⟩:=h.bm;rw[r.ib] at n m
 exact⟨h.is,⟨R,by rw[C,i],aT y (gW _),λx b=>(D x b).1⟩,aT h.qp (gW _),by rw[h.mG,i],λx b=>(h.full x b).1,λx b=>(h.maps x b).1,h.qV,
  ⟨G,v,λx u A=>by obtain⟨c,e,F⟩:=n x u A;exact⟨c,e,aT F.1 (gW _)⟩,m⟩,by rw[<-r.ij];exact h.jm⟩
def cK (w:World) (p:Nat) (T:List aG) (X:List Nat):Prop:=
 ∃E i xv g h f b a c e d,DY T X E w p i xv g h f (.pointer (some ⟨b,0,none⟩)) (.pointer (some ⟨a,0,none⟩)) c e d/\lS w b (iZ (BF T))/\lS w a (iZ (sP E))/\
  DX w c (BH T E)/\DX w e (DW T E)/\DX w d (Kv E)/\bG w xv (aM (kE X))
def cK.mono {w w':World} {p:Nat} {T:List aG} {X:List Nat} (h:cK w p T X) (a:Below w.heap.size w w'):cK w' p T X:=by
 obtain⟨E,q,xv,i,k,d,e,c,g,n,f,j,s,r,m,b,o,l⟩:=h;exact⟨E,q,xv,i,k,d,e,c,g,n,f,j.mono a,s.mono a,r.mono a,m.mono a,b.mono a,o.mono a,l.mono a⟩
end
end Go.Proofs.YtmnimbnojdndmaaGreatDoor
namespace Go.Cd
section
section
variable (K : Nat -> Nat)
def j_ (c:Nat):List Nat->List Nat
 | []=>[c]
 | d::l=>if 0<K d/\K d<K c then d::j_ c l else c::d::l
def gL:List Nat->List Nat
 | []=>[]
 | c::l=>j_ K c (gL l)
def swp (a b:Nat):Prop:=0<K b/\K b<K a
def dJ:List Nat->Prop
 | []=>True
 | [_]=>True
 | a::b::l=>¬swp K a b/\dJ (b::l)
def Fu {a b:Nat} (h:swp K a b):∀l,j_ K a (j_ K b l)=j_ K b (j_ K a l)
 | []=>by
   unfold swp at h;simp only[j_];rw[if_pos h,if_neg (by omega)]
 | d::l=>by
   have f:=Fu h l;unfold swp at h;by_cases e:0<K d/\K d<K b
   ·have c:0<K d/\K d<K a:=by omega
    simp only[j_,if_pos e,if_pos c];rw[f]
   by_cases c:0<K d/\K d<K a
   ·simp only[j_,if_neg e,if_pos c,if_pos h]
   simp only[j_,if_neg e,if_neg c,if_pos h];rw[if_neg (by omega)]
def x_ {a b:Nat} (h:swp K a b) (y:List Nat):∀x:List Nat,gL K (x++a::b::y)=gL K (x++b::a::y)
 | []=>Fu K h _
 | c::x=>by
   show j_ K c (gL K (x++a::b::y))=j_ K c (gL K (x++b::a::y));rw[x_ h y x]
def uI:∀{l:List Nat},dJ K l->gL K l=l
 | [],_=>rfl
 | [a],_=>rfl
 | a::b::l,h=>by
   show j_ K a (gL K (b::l))=_;rw[uI h.2];simp only[j_];exact if_neg h.1
def Ky (a:Nat):List Nat->List Nat
 | []=>[a]
 | b::l=>if 0<K b/\K b<K a then b::Ky a l else a::Ky b l
def pass:List Nat->List Nat
 | []=>[]
 | a::l=>Ky K a l
def qW (a b:Nat) (l:List Nat):Ky K a (b::l)=if 0<K b/\K b<K a then b::Ky K a l else a::Ky K b l:=rfl
def G9:∀(l:List Nat) (a:Nat),(Ky K a l).length=l.length+1
 | [],_=>rfl
 | b::l,a=>by
   rw[qW]
   split
   ·rw[hU,G9 l];rfl
   rw[hU,G9 l];rfl
def Vu (l:List Nat):(pass K l).length=l.length:=by
 cases l with
 | nil=>rfl
 | cons a l=>exact G9 K l a
def BJ:∀(l:List Nat) (a:Nat) (x:List Nat),gL K (x++Ky K a l)=gL K (x++a::l)
 | [],_,_=>rfl
 | b::l,a,x=>by
   rw[qW]
   split
   ·rename_i h;rw[x_ K h l x,show x++b::Ky K a l=(x++[b])++Ky K a l by simp,BJ l a (x++[b])];simp
   rw[show x++a::Ky K b l=(x++[a])++Ky K b l by simp,BJ l b (x++[a])];simp
def RZ (l:List Nat):gL K (pass K l)=gL K l:=by
 cases l with
 | nil=>rfl
 | cons a l=>exact BJ K l a []
def passes:Nat->List Nat->List Nat
 | 0,l=>l
 | n+1,l=>passes n (pass K l)
def zM:∀(n:Nat) (l:List Nat),gL K (passes K n l)=gL K l
 | 0,_=>rfl
 | n+1,l=>by show gL K (passes K n (pass K l))=_;rw[zM n,RZ]
def BK:∀(n:Nat) (l:List Nat),(passes K n l).length=l.length
 | 0,_=>rfl
 | n+1,l=>by show(passes K n (pass K l)).length=_;rw[BK n,Vu]
def gt (x:Nat) (l:List Nat):Nat:=l.countP λy=>decide (K x<K y)
def Zi (n:Nat):List Nat->List Nat->Prop
 | _,[]=>True
 | pre,b::l=>(0<K b->gt K b pre<=n)/\Zi n (if K b=0 then [] else b::pre) l
def eT (x y:Nat) (l:List Nat):gt K x (y::l)=gt K x l+if K x<K y then 1 else 0:=by
 unfold gt;rw[zX];simp
def G_:∀(l a:List Nat) (n:Nat),a.length+l.length<=n->Zi K n a l
 | [],_,_,_=>trivial
 | b::l,a,n,h=>by
   simp only[hU] at h;refine⟨λ_=>gS x3 (by omega),?_⟩
   split
   ·exact G_ l [] n (by simp;omega)
   exact G_ l (b::a) n (by simp;omega)
def sj:∀(l:List Nat) (a:Nat) (e i:List Nat) (n:Nat),
 (K a=0->e=[])->(0<K a->(∀x,gt K x e=gt K x (a::i))/\gt K a e=0)->Zi K (n+1) e l->Zi K n i (Ky K a l)
 | [],a,e,i,n,_,h1,_=>by
   refine⟨λh0=>?_,trivial⟩;obtain⟨f,j⟩:=h1 h0;have:=f a;rw[j,eT,if_neg (tI _)] at this;omega
 | b::l,a,e,i,n,h0,h1,hb=>by
   obtain⟨m,c⟩:=hb;rw[qW];by_cases k:0<K b/\K b<K a
   ·rw[if_pos k];have o:0<K a:=by omega
    obtain⟨f,j⟩:=h1 o;have d:¬K b=0:=by omega
    rw[if_neg d] at c;refine⟨λ_=>?_,?_⟩
    ·have:=m k.1;rw[f b,eT,if_pos k.2] at this;omega
    rw[if_neg d];refine sj l a (b::e) (b::i) n (λh=>by omega) (λ_=>⟨λx=>?_,?_⟩) c
    ·rw[eT,f x,eT,eT,eT];omega
    rw[eT,j,if_neg (by omega)]
   rw[if_neg k];refine⟨λo=>?_,?_⟩
   ·obtain⟨f,j⟩:=h1 o;have:=f a;rw[j,eT,if_neg (tI _)] at this;omega
   by_cases d:K b=0
   ·rw[if_pos d] at c;exact sj l b [] _ n (λ_=>rfl) (λh=>by omega) c
   rw[if_neg d] at c;by_cases g:K a=0
   ·have p:=h0 g;subst p;rw[if_pos g];refine sj l b [b] [] n (λh=>absurd h d) (λ_=>⟨λ_=>rfl,?_⟩) c;rw[eT,if_neg (tI _)];rfl
   obtain⟨f,j⟩:=h1 (by omega);rw[if_neg g];refine sj l b (b::e) (a::i) n (λh=>absurd h d) (λ_=>⟨λx=>?_,?_⟩) c
   ·rw[eT,f x,eT,eT,eT]
   rw[eT,if_neg (tI _)];have s:K a<=K b:=by omega
   have r:gt K b e<=gt K a e:=List.countP_mono_left λy _ q=>by
    simp only[decide_eq_true_eq] at q⊢;omega
   omega
def Vv (n:Nat) (l:List Nat) (h:Zi K (n+1) [] l):Zi K n [] (pass K l):=by
 cases l with
 | nil=>trivial
 | cons a l=>
   obtain⟨_,b⟩:=h;by_cases c:K a=0
   ·rw[if_pos c] at b;exact sj K l a [] [] n (λ_=>rfl) (λh=>by omega) b
   rw[if_neg c] at b;refine sj K l a [a] [] n (λh=>absurd h c) (λ_=>⟨λ_=>rfl,?_⟩) b;rw[eT,if_neg (tI _)];rfl
def BL:∀(n:Nat) (l:List Nat),Zi K n [] l->Zi K 0 [] (passes K n l)
 | 0,_,h=>h
 | n+1,l,h=>BL n (pass K l) (Vv K n l h)
def Fv:∀(l:List Nat) (a:Nat) (c:List Nat),Zi K 0 (if K a=0 then [] else a::c) l->dJ K (a::l)
 | [],_,_,_=>trivial
 | b::l,a,c,h=>by
   obtain⟨g,e⟩:=h;refine⟨λd=>?_,?_⟩
   ·have f:¬K a=0:=by have:=d.2;omega
    have:=g d.1;rw[if_neg f,eT,if_pos d.2] at this;omega
   exact Fv l b _ e
def BM (l:List Nat):passes K l.length l=gL K l:=by
 have c:=BL K l.length l (G_ K l [] l.length (by simp));have b:dJ K (passes K l.length l):=by
  generalize passes K l.length l=m at c;cases m with
  | nil=>trivial
  | cons a m=>exact Fv K m a [] c.2
 rw[<-uI K b,zM]
end
end
open Go.Proofs.YtmnimbnojdndmaaGreatDoor
def Kz {c x:Nat} (h:x∈hparts c):0<hk x/\hk x<4:=by
 have e:(4352<=x/\x<4371)\/(4449<=x/\x<4470)\/(4520<=x/\x<4547):=by
  have:=mx (c-44032) (show 28 > 0 by decide);have:(c-44032) % 588 / 28<21:=by omega
  unfold hparts at h;by_cases a:hk c=4
  ·rw[if_pos a] at h;have d:(c-44032) / 588<19:=by rw[oQ] at a;omega
   clear a;generalize (c-44032) % 588 / 28=v at *;generalize (c-44032) / 588=l at *;simp only[jf,km,or_false] at h;omega
  rw[if_neg a] at h;by_cases b:hk c=5
  ·rw[if_pos b] at h;have d:(c-44032) / 588<19/\(c-44032) % 28≠0:=by rw[kI] at b;omega
   clear a b;generalize (c-44032) % 588 / 28=v at *;generalize (c-44032) / 588=l at *;generalize (c-44032) % 28=t at *;simp only[jf,km,or_false] at h;omega
  rw[if_neg b] at h;simp at h
 unfold hk;rcases e with h|h|h
 ·rw[if_pos h];omega
 ·rw[if_neg (by omega),if_pos h];omega
 rw[if_neg (by omega),if_neg (by omega),if_pos h];omega
def Vw {T:List aG} {X:List Nat} (b:aY T X) {x:Nat} (h:0<hk x):rowOf T x=none:=
 oV λr a e=>by have:=(b.fine r a).2.2.2.1;rw[e] at this;omega
def N7 {T:List aG} {X:List Nat} (b:aY T X) {x:Nat} (h:0<hk x) (a:hk x<4):mapOf T x=[]:=by
 unfold mapOf bP;rw[if_pos a,Vw b h]
def ni {T:List aG} {X:List Nat} (b:aY T X) (c:Nat):tJ (mapOf T) (hparts c):=λx a=>N7 b (Kz a).1 (Kz a).2
def KA (M:Nat->List Nat) (c:Nat) (h:M c≠[]):steps M 1 [c]=M c:=by
 show dm M [c]=M c;unfold dm;rw[iR,if_neg h];simp
def qX {T:List aG} {X:List Nat} (g:aY T X) {c:Nat} (h:4<=hk c):aD T c=hparts c/\fQ T c:=by
 have d:mapOf T c=dI c:=by unfold mapOf;rw[if_neg (by omega)]
 have i:dI c≠[]:=λe=>by have:=xS.1 e;omega
 have hf:aD T c=hparts c:=by
  by_cases b:hk c=4
  ·have e:dI c=hparts c:=by unfold dI hparts;rw[if_pos b,if_pos b]
   have f:steps (mapOf T) 1 [c]=hparts c:=by rw[KA _ _ (by rw[d];exact i),d,e]
   rw[GK (k:=1) (by omega) (by rw[f];exact ni g c),f]
  have a:hk c=5:=by have:=vU c;omega
  have f:steps (mapOf T) 1 [c]=[c-(c-44032) % 28,4519+(c-44032) % 28]:=by
   rw[KA _ _ (by rw[d];exact i),d];unfold dI;rw[if_neg b,if_pos a]
  have j:mapOf T (c-(c-44032) % 28)=[4352+(c-44032) / 588,4449+(c-44032) % 588 / 28]:=by
   unfold mapOf;rw[if_neg (by rw[Qc a];omega),A8 a]
  have m:mapOf T (4519+(c-44032) % 28)=[]:=ni g c _ (by unfold hparts;rw[if_neg b,if_pos a];simp);have l:steps (mapOf T) 2 [c]=hparts c:=by
   rw[uz,f];unfold dm hparts;rw[if_neg b,if_pos a,iR,iR,if_neg (by rw[j];simp),if_pos m,j];rfl
  rw[GK (k:=2) (by omega) (by rw[l];exact ni g c),l]
 refine⟨hf,by rw[hf];exact ni g c,?_⟩;rw[hf];unfold hparts
 split
 ·simp
 split <;> simp
def pE {T:List aG} {X:List Nat} (b:aY T X) (c:Nat):fQ T c:=by
 by_cases h:4<=hk c
 ·exact(qX b h).2
 cases d:rowOf T c with
 | some r=>
   obtain⟨e,g⟩:=gy d;rw[<-g];exact b.full r e
 | none=>
   have a:mapOf T c=[]:=by unfold mapOf bP;rw[if_pos (by omega),d]
   have hf:aD T c=[c]:=iK a _;refine⟨by rw[hf];exact λx f=>by rw[gC.1 f];exact a,by rw[hf];simp⟩
def R7 {T:List aG} {X:List Nat} (a:aY T X) {c y:Nat} (h:y∈aD T c):aD T y=[y]:=iK ((pE a c).1 y h) _
def pF (T:List aG) (c:Nat):aD T c≠[]:=by
 rw[jo];intro e;have:=xV (mapOf T) (T.length+3) [c];rw[e] at this;simp at this
def KC {c x:Nat} (h:x∈dI c):x<55296:=by
 unfold dI at h
 split at h
 ·rename_i b;have:=oQ.1 b;have:(c-44032) % 588 / 28<21:=by omega
  have:(c-44032) / 588<19:=by omega
  generalize (c-44032) % 588 / 28=p at *;generalize (c-44032) / 588=q at *;simp only[jf,km,or_false] at h;omega
 split at h
 ·rename_i a;have:=mx (c-44032) (show 28 > 0 by decide);have:c<55204:=(kI.1 a).2.1;generalize (c-44032) % 28=p at *;simp only[jf,km,or_false] at h;omega
 simp at h
def R8 {T:List aG} {X:List Nat} (b:aY T X) {c x:Nat} (h:x∈mapOf T c):aP x:=by
 unfold mapOf at h
 split at h
 ·unfold bP at h;cases a:rowOf T c with
  | none=>rw[a] at h;simp at h
  | some r=>rw[a] at h;exact((b.fine r (gy a).1).2.2.2.2 x h).2
 have:=KC h;unfold aP;omega
def Fw {T:List aG} {X:List Nat} (b:aY T X):∀(n:Nat) (l:List Nat),(∀x∈l,aP x)->∀x∈steps (mapOf T) n l,aP x
 | 0,_,h=>h
 | n+1,l,h=>Fw b n (dm (mapOf T) l) λx a=>by
   unfold dm at a;obtain⟨c,d,a⟩:=lP.1 a
   split at a
   ·rw[gC.1 a];exact h c d
   exact R8 b a
def ow {T:List aG} {X:List Nat} (d:aY T X) {c y:Nat} (a:aP c) (h:y∈aD T c):aP y:=by
 rw[jo] at h;exact Fw d _ [c] (λx b=>by rw[gC.1 b];exact a) y h
def il {T:List aG} {X:List Nat} (a:aY T X) (c:Nat):(aD T c).length<=32:=(pE a c).2
def jJ {T:List aG} {X:List Nat} (a:aY T X) (l:List Nat):(l.flatMap (aD T)).length<=32*l.length:=by
 induction l with
 | nil=>simp
 | cons c l ih=>
   have:=il a c;rw[iR,d',hU];omega
def gQ (T:List aG) (l:List Nat):List Nat:=gL (ai T) (l.flatMap (aD T))
end Go.Cd
namespace Go.Proofs.YtmnimbnojdndmaaGreatDoor
open Go.RowKit Go.Cd _root_.Go.Proofs.Tryz
def Ha {c:Nat}:∀(L:List (Nat×Nat)) (f:Nat->Nat),(∀x∈L,x.1≠c)->(L.foldl (λf x=>uG f x.1 x.2) f) c=f c
 | [],_,_=>rfl
 | x::L,f,h=>by
   rw[ox,Ha L _ λy a=>h y (by simp[a])];exact iG _ _ (px (h x (by simp)))
def KD {c v:Nat}:∀(L:List (Nat×Nat)) (f:Nat->Nat),(L.map (·.1)).Nodup->(c,v)∈L->(L.foldl (λf x=>uG f x.1 x.2) f) c=v
 | [],_,_,h=>by cases h
 | x::L,f,hn,h=>by
   rw[kt,t_] at hn;rw[ox];rcases jf.1 h with rfl|h
   ·rw[Ha L _ λy a e=>hn.1 (jx.2 ⟨y,a,e⟩)];exact rZ _ _ _
   exact KD L _ hn.2 h
def KE {L:List (Nat×Nat)} {c:Nat} (h:∀x∈L,x.1≠c):iZ L c=0:=Ha L _ h
def Fx {L:List (Nat×Nat)} {c v:Nat} (a:(L.map (·.1)).Nodup) (h:(c,v)∈L):iZ L c=v:=KD L _ a h
def wL {T:List aG} (h:rising T):(T.map (·.code)).Nodup:=by
 rw[List.Nodup,zt,re];intro i j c b a;exact xi (rU h c b a)
def Fy {T:List aG} (h:rising T) (c:Nat):iZ (BF T) c=ai T c:=by
 have a:((BF T).map (·.1)).Nodup:=by
  have:(BF T).map (·.1)=T.map (·.code):=by simp[BF]
  rw[this];exact wL h
 unfold ai;cases e:rowOf T c with
 | none=>
   refine KE λx d=>?_;obtain⟨r,f,rfl⟩:=jx.1 d;intro g;rw[<-(show r.code=c from g),aaJ h f] at e;cases e
 | some r=>
   obtain⟨b,i⟩:=gy e;exact Fx a (jx.2 ⟨r,b,by rw[i]⟩)
def KF {T:List aG} {E:List eB} (h:rising T) (p:E.map (·.1)=(mapped T).map (·.code)) (c:Nat) :
 (∃i,∃m:i<E.length,E[i].1=c/\iZ (sP E) c=i+1/\∃r∈T,r.code=c/\r.map≠[])\/(iZ (sP E) c=0/\bP T c=[]/\∀x∈E,x.1≠c):=by
 have u:(E.map (·.1)).Nodup:=by
  rw[p];exact((wL h).sublist ((List.filter_sublist).map _))
 have o:((sP E).map (·.1)).Nodup:=by
  have:(sP E).map (·.1)=E.map (·.1):=by
   unfold sP;rw[mB];have:(λx:eB×Nat=>x.1.1)=(λy:eB=>y.1) ∘ Prod.fst:=rfl;show E.zipIdx.map (λx=>x.1.1)=_;rw[this,<-mB,List.zipIdx_map_fst]
  rw[this];exact u
 by_cases b:∃x∈E,x.1=c
 ·obtain⟨x,b,rfl⟩:=b;obtain⟨i,m,rfl⟩:=lB.1 b;have f:E[i].1∈E.map (·.1):=s_ b;rw[p] at f;obtain⟨r,n,e⟩:=jx.1 f;obtain⟨g,j⟩:=iJ.1 n;refine .inl ⟨i,m,rfl,Fx o (jx.2 ⟨(E[i],i),?_,rfl⟩),r,g,e,by simpa using j⟩;rw[List.mem_zipIdx_iff_getElem?];exact gA m
 have d:∀x∈E,x.1≠c:=λx g j=>b ⟨x,g,j⟩;refine .inr ⟨KE λy t=>?_,?_,d⟩
 ·obtain⟨z,s,rfl⟩:=jx.1 t;have k:=List.mem_zipIdx s;exact d z.1 (by rw[k.2.2];exact gx _)
 unfold bP;cases e:rowOf T c with
 | none=>rfl
 | some r=>
   obtain⟨g,j⟩:=gy e;cases q:r.map with
   | nil=>exact q
   | cons a l=>
     exfalso;have n:r∈mapped T:=iJ.2 ⟨g,by simp[q]⟩;have f:r.code∈(mapped T).map (·.code):=s_ n;rw[<-p] at f;obtain⟨x,b,v⟩:=jx.1 f;exact d x b (v.trans j)
def iM {w:World} {p:Nat} {T:List aG} {X:List Nat} (h:cK w p T X) (b:aY T X) (c:Nat) (l:c<1114112) :
 Calls prog 38 #[.pointer (some ⟨p,0,none⟩),.int .i32 c] w λe w'=>e=.returned (.int .i64 (ai T c))/\Below w.heap.size w w':=by
 obtain⟨E,o,xv,t,A,z,u,q,y,B,v,i,g,_⟩:=h;have a:=aa (BC g c l);rw[Fy b.rise] at a;have f:ai T c<65536:=by
  rw[<-Fy b.rise];refine Kj (λx m=>?_) c;obtain⟨r,n,e⟩:=jx.1 m;have:=(b.fine r n).2.1;rw[<-e];exact yW this (by decide)
 have C:=i.is.at 2 rfl;obtain⟨k,j⟩:=ae (ai T c);rw[<-j] at a f⊢;clear i g j;go_enter func38,ntmps38;go_wp2_with (go_at_call 80;refine a.out.mono ?_;rintro e s⟨rfl,d⟩);go_ret;exact⟨rfl,d⟩
def BO {w:World} {p:Nat} {T:List aG} {X:List Nat} (h:cK w p T X) (n:aY T X) (c:Nat) (B:c<1114112) (j:bP T c=[]) :
 Calls prog 101 #[.pointer (some ⟨p,0,none⟩),.int .i32 c] w λe w'=>e=.returned (.tuple #[.agg #[.slice none 0 0,.slice none 0 0,.bool false],.bool false])/\Below w.heap.size w w':=by
 obtain⟨E,D,xv,I,U,S,N,F,O,V,P,k,t,o,_⟩:=h;have h0:iZ (sP E) c=0:=by
  rcases KF n.rise k.mG c with⟨i,J,e,_,r,C,y,x⟩|⟨s,_⟩
  ·unfold bP at j;rw[<-y,aaJ n.rise C] at j;exact absurd j x
  exact s
 have b:=ah (w:=w) (.cells #[.slice none 0 0,.slice none 0 0,.bool false] 178);have m:=Is.new w #[.slice none 0 0,.slice none 0 0,.bool false] 178;have l:=aa (BC (o.mono b) c B);rw[h0] at l;have:=(k.is.mono b).at 3 rfl;clear k t o h0 j;go_enter func101,ntmps101;go_wp2_with fail;refine l.out.mono ?_;rintro e G⟨rfl,d⟩;have a:=m.mono d;have:=a.at 0 rfl;have:=a.at 1 rfl;have:=a.at 2 rfl;have:=a.frozen 0;have:=a.frozen 1;have:=a.frozen 2;have g:=((a.set 0 (.slice none 0 0)).set 1 (.slice none 0 0)).set 2 (.bool false);have z:=g.at 0 rfl;have q:=g.at 1 rfl;have A:=g.at 2 rfl;have f:=aj (off:=2) (u:=.bool false) (aj (off:=1) (u:=.slice none 0 0) (aj (off:=0) (u:=.slice none 0 0) (af b d) (gw w.heap.size)) (gw w.heap.size)) (gw w.heap.size);clear m a g;go_wp2_with fail;exact bodyPost_ret (v:=.tuple #[.agg #[.slice none 0 0,.slice none 0 0,.bool false],.bool false]) (by simp[results,results101,go_sem,z,q,A]) rfl ⟨rfl,f⟩
structure afr (w:World) (T:List aG) (X:List Nat) (c:Nat) (x:eB):Prop where
 full:w.ownsRow 0 aN 1 x.2.2.1 (aD T c).length (aM (aD T c))
 maps:w.ownsRow 0 aN 1 x.2.1 (bP T c).length (aM (bP T c))
 qV:x.2.2.2=true↔Prim T X c
def zN {w:World} {p:Nat} {T:List aG} {X:List Nat} (h:cK w p T X) (hV:aY T X) (hl:T.length<1000) (c:Nat) (hc:c<1114112) (hm:bP T c≠[]) :
 Calls prog 101 #[.pointer (some ⟨p,0,none⟩),.int .i32 c] w λe w'=>∃t F y q H r b,e=.returned (.tuple #[.agg #[.slice t F y,.slice q H r,.bool b],.bool true])/\afr w T X c (c,.slice t F y,.slice q H r,b)/\Below w.heap.size w w':=by
 obtain⟨E,rv,xv,ev,bM,jM,cp,pp,iv,sv,mv,o,h2,h3,_⟩:=h;obtain⟨i,C,B,h0⟩:∃i,∃C:i<E.length,E[i].1=c/\iZ (sP E) c=i+1:=by
  rcases KF hV.rise o.mG c with⟨i,C,e,N,_⟩|⟨_,h4,_⟩
  ·exact⟨i,C,e,N⟩
  exact absurd h4 hm
 have Z:E.length<1000:=by
  have:=congrArg List.length o.mG;rw[ia,ia] at this;rw[this];exact lf (lp _ _) hl
 have I:=ah (w:=w) (.cells #[.slice none 0 0,.slice none 0 0,.bool false] 178);have k0:=Is.new w #[.slice none 0 0,.slice none 0 0,.bool false] 178;have P:=aa (BC (h3.mono I) c hc);rw[h0] at P;have U:=gx C;have K:=o.full _ U;have J:=o.maps _ U;have R:=o.qV _ U;obtain⟨g,cap,rfl,O,hg,_,a⟩:=dC (f:=Kr) Vl rfl o.qp C;obtain⟨x,Aq⟩:=ae (E[i]);rw[<-Aq] at a K J R B;rw[B] at K J R;obtain⟨t,y,W,_,_⟩:=ak J;obtain⟨q,r,N,_,_⟩:=ak K;rw[W] at J;rw[N] at K;have d:afr w T X c (c,.slice t (bP T c).length y,.slice q (aD T c).length r,x.2.2.2):=⟨K,J,R⟩;have Q:=(a 0 (by decide)).1;have m:=(a 1 (by decide)).1;have l:=(a 2 (by decide)).1;simp only[Kr,xd,tl,W,N,sE] at Q m l;obtain⟨F,A⟩:∃n,n=(bP T c).length:=⟨_,rfl⟩;obtain⟨H,G⟩:∃n,n=(aD T c).length:=⟨_,rfl⟩;obtain⟨b,V⟩:=ae x.2.2.2;obtain⟨Y,k⟩:∃n,n=E.length:=⟨_,rfl⟩;rw[<-A,<-G,<-V] at d;rw[<-A] at Q;rw[<-G] at m;rw[<-V] at l;have R9:=aa d;have e3:=(o.is.mono I).at 3 rfl;have ac:i<Y:=by rw[k];exact C
 have ad:Y<1000:=by rw[k];exact Z
 have w1:IntKind.u16.wrap (((i+1:Nat):Int)-1)=(i:Int):=by rw[IntKind.wrap_u16];omega
 have D:=o.is;have z:(((i+1:Nat):Int)==0)=false:=by simp;omega
 rw[<-k] at D O e3;clear o h2 h3 h0 hm U K J R Aq a B W N A G V d k Z C;obtain⟨j,hj⟩:=ae (i+1);rw[<-hj] at P w1 z;have ab:j<65536:=by omega
 clear hj;go_enter func101,ntmps101;go_wp2_with fail;refine P.out.mono ?_;rintro e w6⟨rfl,M⟩;have L:=af I M;have s:=k0.mono M;have f0:=s.at 0 rfl;have f1:=s.at 1 rfl;have f2:=s.at 2 rfl;have q0:=s.frozen 0;have q1:=s.frozen 1;have q2:=s.frozen 2;have e4:=(D.mono L).at 4 rfl;have d0:=aB L Q;have d1:=aB L m;have d2:=aB L l;have S:=((s.set 0 (.slice t F y)).set 1 (.slice q H r)).set 2 (.bool b);have g0:=S.at 0 rfl;have g1:=S.at 1 rfl;have g2:=S.at 2 rfl;have d:=aa (aj (off:=2) (u:=.bool b) (aj (off:=1) (u:=.slice q H r) (aj (off:=0) (u:=.slice t F y) L (gw w.heap.size)) (gw w.heap.size)) (gw w.heap.size));clear k0 s S Q m l D e3 P;go_wp2_with fail;exact bodyPost_ret (v:=.tuple #[.agg #[.slice t F y,.slice q H r,.bool b],.bool true]) (by simp[results,results101,go_sem,g0,g1,g2]) rfl ⟨t,F,y,q,H,r,b,rfl,R9.out,d.out⟩
def pG {w:World} {p:Nat} {T:List aG} {X:List Nat} (h:cK w p T X) (v:aY T X) (S:T.length<1000) (c:Nat) (G:c<1114112) :
 Calls prog 67 #[.pointer (some ⟨p,0,none⟩),.int .i32 c] w λe w'=>∃r,e=.returned r/\w'.ownsRow w.heap.size aN 1 r (aD T c).length (aM (aD T c))/\Below w.heap.size w w':=by
 have i:=aa (Ng (w:=w) c G);by_cases M:4<=hk c
 ·have hf:=(qX v M).1;have g:hparts c≠[]:=λe=>by have:=iC.1 e;omega
  have j:=jz.2 g;rw[hf];obtain⟨n,m⟩:=ae ((hparts c).length);obtain⟨l,q⟩:=ae (aM (hparts c));rw[<-m] at j i⊢;rw[<-q] at i⊢;clear m q hf g h;go_enter func67,ntmps67;go_wp2_with fail;refine i.out.mono ?_;rintro e t⟨r,rfl,f,d⟩;obtain⟨a,cap,rfl,_,_⟩:=ak f;have:decide (0<n)=true:=by simp;omega
  have O:=aa f;clear f;go_wp2_with fail;go_ret;exact⟨_,rfl,O.out,d⟩
 have g:hparts c=[]:=iC.2 (by omega);rw[g] at i;by_cases o:bP T c=[]
 ·have hf:aD T c=[c]:=by
   unfold aD;exact iK (by unfold mapOf;rw[if_pos (by omega),o]) _
  rw[hf];have B:=aa (λ(W:World) (E:Below w.heap.size w W)=>BO (h.mono E) v c G o);clear hf h o g;go_enter func67,ntmps67;go_wp2_with fail;refine i.out.mono ?_;rintro e t⟨r,rfl,f,d⟩;obtain⟨a,cap,rfl,_,_⟩:=ak f;simp only[ki];clear f;go_wp2_with fail;refine(B.out t d).mono ?_;rintro e k⟨rfl,u⟩;have x:=af d u;go_wp2_with fail;go_ret;have f:=mU (k.alloc (.cells #[.slice none 0 0,.slice none 0 0,.bool false] 178)) #[.int .i32 (c:Nat)] aN 1 rfl (by decide);have L:=x.size;rw[ns] at f;exact⟨_,rfl,aT f (by omega),af x (dH _ _)⟩
 have B:=aa (λ(W:World) (E:Below w.heap.size w W)=>zN (h.mono E) v S c G o);have Q:=aa (il v c);clear h o g;go_enter func67,ntmps67;go_wp2_with fail;refine i.out.mono ?_;rintro e t⟨r,rfl,f,d⟩;obtain⟨a,cap,rfl,_,_⟩:=ak f;simp only[ki];clear f;go_wp2_with fail;refine(B.out t d).mono ?_;rintro e k⟨F,C,H,y,D,I,b,rfl,A,u⟩;have x:=af d u;have P:=Is.new k #[.slice F C H,.slice y D I,.bool b] 178;have:=P.at 1 rfl;have J:=ah (w:=k) (.cells #[.slice F C H,.slice y D I,.bool b] 178);have R:=aa (kX (w:=k.alloc (.cells #[.slice F C H,.slice y D I,.bool b] 178)) (aD T c) ((Sl.aU A.full).mono (af u J)) (fU.aU A.full) (by have:=Q.out;omega));have s:=af x J;have L:=s.size;clear A;go_wp2_with fail;refine R.out.mono ?_;rintro e V⟨r,rfl,K,N⟩;have U:=aa K;clear K;go_wp2_with fail;go_ret;exact⟨_,rfl,aT U.out L,af s N⟩
abbrev fu:TypeId:=95
abbrev eX:TypeId:=90
def jT (x:Nat×Value):List Value:=[.int .i64 x.1,x.2]
def R_ (x:Nat×Value):(jT x).length=2:=rfl
def BP:mV prog 86 fu (.agg #[.int .i64 0,.slice none 0 0]) 2 32:=⟨rfl,underlying86,info_parts (by kernel_rfl)⟩
def Zk (v:Value):Prop:=∃a n c,v=.slice a n c
def Zk.own {w:World} {base b n:Nat} {e:TypeId} {v:Value} {d:List Value} (h:w.ownsRow base e b v n d):Zk v:=by obtain⟨a,c,rfl,_⟩:=ak h;exact⟨_,_,_,rfl⟩
def KH {w:World} (x:Nat) (m:Value) (c:Nat) (g:x<1000000) (f:c<1000000) :
 Calls prog 40 #[.agg #[.int .i64 x,m],.int .i64 c] w λe w'=>e=.returned (.int .i64 ((x:Int)-c))/\Below w.heap.size w w':=by
 have a:=ah (w:=w) (.cells #[.int .i64 x,m] fu);have b:=Is.new w #[.int .i64 x,m] fu;have:=b.at 0 rfl;go_enter func40,ntmps40;go_wp2;go_ret;exact⟨by simp,a⟩
def abr (L:List (Nat×Value)) (c k:Nat) (b:Bool):Prop:=k<=L.length/\(∀t (a:t<L.length),t<k->L[t].1<c)/\(∀t (a:t<L.length),k<=t->c<=L[t].1)/\(b=true↔∃d:k<L.length,L[k].1=c)
def Hd {w:World} {base:Nat} {v:Value} {L:List (Nat×Value)} (h:w.ownsRow base fu 2 v L.length (L.flatMap jT)) (hv:∀x∈L,Zk x.2) (hs:L.Pairwise λa b=>a.1<b.1) (hT:∀r∈L,r.1<1000000) (hl:L.length<1000000) (c:Nat) (hc:c<1000000) :
 Calls prog 39 #[v,.int .i64 c,.func (.func 40) #[] #[]] w λe w'=>
  ∃(k:Nat) (b:Bool),e=.returned (.tuple #[.int .i64 k,.bool b])/\abr L c k b/\Below w.heap.size w w':=by
 have HX:=aa (λ(i:Nat) (d:i<L.length)=>dC (f:=jT) R_ rfl h d);obtain⟨a,cap,rfl,_,_⟩:=ak h;obtain⟨n,M⟩:=ae L.length;have G:=aa M;have Y:=aa hv;have HS:=aa (show ∀i j (d:i<L.length) (hj:j<L.length),i<j->L[i].1<L[j].1 from λi j d hj Q=>(re.1 hs) i j d hj Q);have HT:=aa hT;rw[<-M] at hl⊢;clear h M hs hT hv;go_enter func39,ntmps39;go_wp2
 go_loopg [9,10] n (λg s7 s8 wr=>∃q d:Nat,s7=.int .i64 q/\s8=.int .i64 d/\q<=d/\d<=n/\d-q<=g/\Below w.heap.size w wr/\(∀t (l:t<L.length),t<q->L[t].1<c)/\(∀t (l:t<L.length),d<=t->c<=L[t].1))
 case atStart=>exact⟨0,n,rfl,rfl,gW _,gw _,by omega,gO _ _,λt _ l=>absurd l (tU _),λt T N=>by have:=G.out;omega⟩
 case round=>
  obtain⟨q,d,rfl,rfl,ab,B,hg,C,T,N⟩:=hrel;have I:=aa (And.intro T N);clear T N;by_cases ac:q<d
  ·obtain⟨h,hh⟩:=ae ((q+d) / 2);have A:h<L.length:=by have:=G.out;omega
   have ad:q<=h/\h<d:=by omega
   have e7:((q:Int)+(d:Int)) / 2=(h:Int):=by omega
   obtain⟨K,J,m,_,_,_,o⟩:=HX.out h A;have O:=aB C (show w.cell? ⟨K,h*2,none⟩=some (.int .i64 (L[h].1:Nat)) from (o 0 (by decide)).1);have V:=aB C (show w.cell? ⟨K,h*2+1,none⟩=some L[h].2 from (o 1 (by decide)).1);have z:=HT.out _ (gx A);obtain⟨U,nm,X,s⟩:=Y.out _ (gx A);rw[s] at V;obtain⟨y,E⟩:=ae (L[h].1);rw[<-E] at O z;have Y1:=aa (λt (l:t<L.length) (u:t<h)=>(show L[t].1<y from by rw[E];exact HS.out t h l A u));have Y2:=aa (λt (l:t<L.length) (u:h<t)=>(show y<L[t].1 from by rw[E];exact HS.out h t A l u));have Z:=aa (show ∀t (l:t<L.length),t=h->L[t].1=y from λt l e=>by subst e;exact E.symm);have H:=aa (λW=>KH (w:=W) y (.slice U nm X) c z hc);injection m with m _ F;subst F;subst m;clear o s E hh;by_cases D:y<c
   ·have S:decide ((y:Int)-(c:Int)<0)=true:=by simp;omega
    go_wp2_with (go_at_call 40;refine(H.out _).mono ?_;rintro e P⟨rfl,p⟩)
    go_roundg (d-(h+1))
    case measure=>omega
    case rel=>
     refine⟨h+1,d,by simp,rfl,by omega,B,gw _,af C p,λt l u=>?_,I.out.2⟩;rcases j' t h with h3|h3
     ·have:=Y1.out t l h3;omega
     have:=Z.out t l (by omega);omega
   have S:decide ((y:Int)-(c:Int)<0)=false:=by simp;omega
   go_wp2_with (go_at_call 40;refine(H.out _).mono ?_;rintro e P⟨rfl,p⟩)
   go_roundg (h-q)
   case measure=>omega
   case rel=>
    refine⟨q,h,rfl,rfl,by omega,by omega,gw _,af C p,I.out.1,λt l u=>?_⟩;rcases j' h t with h3|h3
    ·have:=Y2.out t l h3;omega
    have:=Z.out t l (by omega);omega
  have:d=q:=by omega
  subst this;by_cases M:d<n
  ·have A:d<L.length:=by have:=G.out;omega
   obtain⟨K,J,m,_,_,_,o⟩:=HX.out d A;have O:=aB C (show w.cell? ⟨K,d*2,none⟩=some (.int .i64 (L[d].1:Nat)) from (o 0 (by decide)).1);have V:=aB C (show w.cell? ⟨K,d*2+1,none⟩=some L[d].2 from (o 1 (by decide)).1);have z:=HT.out _ (gx A);obtain⟨U,nm,X,s⟩:=Y.out _ (gx A);rw[s] at V;obtain⟨y,E⟩:=ae (L[d].1);rw[<-E] at O z;have HY:=aa E;have H:=aa (λW=>KH (w:=W) y (.slice U nm X) c z hc);injection m with m _ F;subst F;subst m;clear o s E;by_cases D:y=c
   ·have S:(((y:Int)-(c:Int))==0)=true:=by simp;omega
    have R:=aa D;clear D;go_wp2_with (go_at_call 40;refine(H.out _).mono ?_;rintro e P⟨rfl,p⟩);go_ret2;exact⟨d,true,by first|rfl|simp,⟨by rw[<-G.out];exact B,I.out.1,I.out.2,⟨λ_=>⟨A,by rw[<-HY.out];exact R.out⟩,λ_=>rfl⟩⟩,af C p⟩
   have S:(((y:Int)-(c:Int))==0)=false:=by simp;omega
   go_wp2_with (go_at_call 40;refine(H.out _).mono ?_;rintro e P⟨rfl,p⟩);go_ret2;exact⟨d,false,by first|rfl|simp,⟨by rw[<-G.out];exact B,I.out.1,I.out.2,⟨λh=>(by cases h),λ⟨_,h⟩=>absurd (HY.out.trans h) D⟩⟩,af C p⟩
  go_wp2_with (go_at_call 40;trivial);go_ret2;exact⟨d,false,by first|rfl|simp,⟨by rw[<-G.out];exact B,I.out.1,I.out.2,⟨λh=>(by cases h),λ⟨hk,_⟩=>absurd hk (by have:=G.out;omega)⟩⟩,C⟩
def N8 {P:Program} {W:World} {ops:Array Oper} {rest:List Oper} {o:Oper} {a:Act} {Q:Exit->Act->World->Prop} (T:o.guard=none) (s x:Operand) (t:TypeId)
 (Z:o.op=.call { callee:=.builtin .append,args:=#[s,x],argTypes:=#[t,t] })
 (base:Nat) (e:TypeId) (z:Value) (d b:Nat) (hE:mV P t e z d b) (N:0<d) (aa:d<=1000) (kT:0<b) (Y:b<=100000)
 {v:Value} {n:Nat} {H:List Value} (hs:a.eval s=v) (k:W.ownsRow base e d v n H) (w:base<=W.heap.size)
 (us:List Value) (X:∀u∈us,u.oneCell'=true) (r:Addr) (m c:Nat) (I:us.length=m*d) (hx:a.eval x=.slice (some r) m c) (G:∀j u,us[j]? = some u->W.cell? (r.add j)=some u) (hn:n+m<1000000)
 (h:∀v' R,R.ownsRow base e d v' (n+m) (H++us)->W.grownBy R v.ownBlock->kK W v v'->wpList P ops Q rest (a.put o.dst v') R):wpList P ops Q (o::rest) a W:=by
 obtain⟨K,B,i,C,M,f,y⟩:=hE;have J:us.length=m*i.size:=by rw[f];exact I
 have U:(n+m)*b<=140737488355328:=by
  have:(n+m)*b<=1000000*100000:=pT (by omega) Y;omega
 obtain⟨v',w',q,h2,h3,_⟩:=run_append_own (P:=P) W base t o.type e i z d b B C M f y K N v n H k r m c us I G X (by unfold maxLen;omega) U w;refine sq _ T s x _ _ Z v _ hs hx v' w' q (h v' w' h2 h3 ?_);rcases pH m with hm0|hm0
 ·have S:us=[]:=im.1 (by rw[I,hm0,vb]);subst S;subst hm0;have l:(Builtin.append_ #[t,t] o.type #[v,.slice (some r) 0 c]).run P W=.ok v W:=by
   rcases k.2 with⟨rfl,rfl⟩|⟨g,cap,E,rfl,L,V,F,O,D,A⟩
   ·simp[Builtin.append_,run_underlying B,sizeOf,typeInfo,C,Builtin.lenOf,run_firstCells_some (P:=P) W i.size 0 r 0 c [] J G]
   simp[Builtin.append_,run_underlying B,sizeOf,typeInfo,C,Builtin.lenOf,F,Builtin.firstCells,loadCells,loadCellsFrom,storeCells]
  rw[l] at q;injection q with e1 _;subst e1;exact .inl rfl
 rcases k.2 with⟨rfl,rfl⟩|⟨g,cap,E,rfl,L,V,F,O,D,A⟩
 ·have l:=run_append_nil (P:=P) W t o.type e i z B C M r m c us J G hm0 (by omega) (by rw[y];have:=pT (show m<=1000000 by omega) Y;omega);rw[l] at q;injection q with e1 _;subst e1;exact .inr ⟨_,rfl,gw _⟩
 by_cases p:n+m<=cap
 ·have l:=run_append_room (P:=P) W t o.type e i B C g n cap E V r m c us J G X p (by rw[I,f,D,<-l3];exact nh _ p);rw[l] at q;injection q with e1 _;subst e1;exact .inl rfl
 have l:=run_append_grow (P:=P) W t o.type e i z B C M ⟨g,0,none⟩ n cap H (by rw[f];exact k.1) (k.cells (g:=g) rfl) r m c us J G (by omega) (by omega) (growslice_fits (by omega) (by rw[y];omega));rw[l] at q;injection q with e1 _;subst e1;exact .inr ⟨_,rfl,gw _⟩
def BQ {w:World} {base:Nat} {v:Value} {L:List (Nat×Value)} (m:w.ownsRow base fu 2 v L.length (L.flatMap jT)) (r:base<=w.heap.size) (H:L.length<100000) (x:Nat×Value) (s:x.2.oneCell'=true) {i:Nat} (o:Is w i (jT x).toArray fu) :
 Calls prog 41 #[v,.int .i64 L.length,.slice (some ⟨i,0,none⟩) 1 1] w λe w'=>∃v',e=.returned v'/\w'.ownsRow base fu 2 v' (L.length+1) ((L++[x]).flatMap jT)/\w.grownBy w' v.ownBlock/\kK w v v':=by
 obtain⟨n,q⟩:=ae L.length;obtain⟨D,k⟩:=ae (L.flatMap jT);have F:=aa (show(L++[x]).flatMap jT=D++jT x from by rw[jj,k];simp);rw[<-q] at H⊢;rw[<-q,<-k] at m;have a:∀(j:Nat) (u:Value),(jT x)[j]? = some u->w.cell? ((⟨i,0,none⟩:Addr).add j)=some u:=λj u E=>by
  have I:(⟨i,0,none⟩:Addr).add j=⟨i,j,none⟩:=by unfold Addr.add;split <;> simp_all
  rw[I];exact o.at j (by simpa using E)
 have y:=aa a;have p:=aa m;have f:∀u∈jT x,u.oneCell'=true:=λu B=>by
  simp only[jT,jf,km,or_false] at B;rcases B with rfl|rfl
  ·rfl
  exact s
 have l:=aa f;clear q k a f o;rw[F.out];rcases m.2 with⟨rfl,h0⟩|⟨g,cap,G,rfl,_,_,C,_⟩
 ·subst h0;clear m;go_enter func41,ntmps41;go_wp2_with (refine N8 (W:=w) rfl _ _ 86 rfl base fu _ 2 32 BP (by decide) (by decide) (by decide) (by decide) (v:=.slice none 0 0) rfl p.out r (jT x) l.out ⟨i,0,none⟩ 1 1 rfl rfl y.out (by omega) ?_;intro z A d c h;have b:=aa (And.intro d (And.intro c h));clear d c h);go_ret;exact⟨_,rfl,b.out.1,b.out.2.1,b.out.2.2⟩
 clear m;by_cases t:n=cap
 ·subst t;go_enter func41,ntmps41;go_wp2_with (refine N8 (W:=w) rfl _ _ 86 rfl base fu _ 2 32 BP (by decide) (by decide) (by decide) (by decide) (v:=.slice (some ⟨g,0,none⟩) n n) rfl p.out r (jT x) l.out ⟨i,0,none⟩ 1 1 rfl rfl y.out (by omega) ?_;intro z A d c h;have b:=aa (And.intro d (And.intro c h));clear d c h);go_ret;exact⟨_,rfl,b.out.1,b.out.2.1,b.out.2.2⟩
 go_enter func41,ntmps41;go_wp2_with (refine N8 (W:=w) rfl _ _ 86 rfl base fu _ 2 32 BP (by decide) (by decide) (by decide) (by decide) (v:=.slice (some ⟨g,0,none⟩) n cap) rfl p.out r (jT x) l.out ⟨i,0,none⟩ 1 1 rfl rfl y.out (by omega) ?_;intro z A d c h;have b:=aa (And.intro d (And.intro c h));clear d c h);go_ret;exact⟨_,rfl,b.out.1,b.out.2.1,b.out.2.2⟩
section
open Go.RowKit Go.Cd
abbrev d_:=Nat×Value×List Nat
def fB (x:d_):List Value:=[.int .i64 x.1,x.2.1]
def jC (x:d_):(fB x).length=2:=rfl
abbrev cB:=Nat×Value×List d_
def lV (x:cB):List Value:=[.int .i32 x.1,x.2.1,.slice none 0 0,.slice none 0 0,.int .i64 0,.int .i64 0]
def aa1 (x:cB):(lV x).length=6:=rfl
def Zl:mV Tryz.prog 82 eX (.agg #[.int .i32 0,.slice none 0 0,.slice none 0 0,.slice none 0 0,.int .i64 0,.int .i64 0]) 6 96:=⟨rfl,Tryz.underlying82,info_parts (by kernel_rfl)⟩
def N_ (w:World) (F:Nat) (e:TypeId) (size:Nat) (v:Value) (n:Nat) (xs:List Value):Prop:=w.ownsRow 0 e size v n xs/\∀k,v.ownBlock=some k->k<F
def N_.low {w w':World} {F n a:Nat} {e:TypeId} {v:Value} {b:List Value} (h:N_ w F e a v n b) (c:Below F w w'):N_ w' F e a v n b:=⟨aad h.1 λk d=>c.block k (h.2 k d),h.2⟩
def N_.of {w:World} {B n a:Nat} {e:TypeId} {v:Value} {b:List Value} (h:w.ownsRow B e a v n b):N_ w w.heap.size e a v n b:=⟨aT h (gW _),λk c=>(h.lt k c).2⟩
def N_.le {w:World} {F c n a:Nat} {e:TypeId} {v:Value} {b:List Value} (h:N_ w F e a v n b) (d:F<=c):N_ w c e a v n b:=⟨h.1,λk f=>j9 (h.2 k f) d⟩
structure oz (w w':World) (F:Nat) (e:TypeId):Prop where
 size:w.heap.size<=w'.heap.size
 keep:∀k,k<F->mZ w k e->w'.heap[k]? = w.heap[k]?
def oz.owF {w w':World} {F n a:Nat} {e:TypeId} (h:oz w w' F e) {v:Value} {c:List Value} (b:N_ w F e a v n c):N_ w' F e a v n c:=⟨aad b.1 λk d=>h.keep k (b.2 k d) (bV b.1 d),b.2⟩
def oz.fV {w w':World} {t e:TypeId} (h:bJ w w' t) (a:e≠t) (F:Nat) (d:F<=w.heap.size):oz w w' F e:=⟨h.size,λk f c=>h.keep k (by omega) λb=>a (c.one b)⟩
def oz.of_below {w w':World} {F:Nat} {e:TypeId} (h:Below F w w') (a:w.heap.size<=w'.heap.size):oz w w' F e:=⟨a,λk b _=>h.block k b⟩
def wM (w:World) (F:Nat) (r:cB):Prop:=N_ w F fu 2 r.2.1 r.2.2.length (r.2.2.flatMap fB)/\∀x∈r.2.2,N_ w F aN 1 x.2.1 x.2.2.length (aM x.2.2)
def wM.keep {w w':World} {F:Nat} {r:cB} (h:wM w F r) (c:oz w w' F fu) (a:oz w w' F aN):wM w' F r:=⟨c.owF h.1,λx b=>a.owF (h.2 x b)⟩
def wM.le {w:World} {F b:Nat} {r:cB} (h:wM w F r) (a:F<=b):wM w b r:=⟨h.1.le a,λx c=>(h.2 x c).le a⟩
structure He (w:World) (F G:Nat) (r:cB):Prop where
 row:w.ownsRow F fu 2 r.2.1 r.2.2.length (r.2.2.flatMap fB)
 old:∀x∈r.2.2.dropLast,N_ w G aN 1 x.2.1 x.2.2.length (aM x.2.2)
 last:∀x,r.2.2.getLast? = some x->w.ownsRow G aN 1 x.2.1 x.2.2.length (aM x.2.2)
 fg:F<=G
 gs:G<=w.heap.size
def He.Ae {w:World} {F G:Nat} {r:cB} (h:He w F G r):wM w w.heap.size r:=by
 refine⟨N_.of h.row,λx a=>?_⟩;rcases oX r.2.2 with e|⟨q,y,e⟩
 ·rw[e] at a;cases a
 have b:r.2.2=q++[y]:=by simpa using e
 rw[b] at a;rcases gR.1 a with a|a
 ·exact(h.old x (by rw[b];simpa using a)).le h.gs
 rw[gC.1 a];exact N_.of (h.last y (by rw[b];simp))
def He.ext {w w':World} {F G:Nat} {r:cB} (h:He w F G r) (a:Below w.heap.size w w'):He w' F G r:=
 ⟨aH h.row a,λx b=>(h.old x b).low (a.mono h.gs),λx b=>aH (h.last x b) a,h.fg,gS h.gs a.size⟩
def He.iQ {w w':World} {F G:Nat} {r:cB} (h:He w F G r) {t:TypeId} (a:bJ w w' t) (d:fu≠t) (c:aN≠t):He w' F G r:=
 ⟨a.own h.row d,λx b=>(oz.fV a c G h.gs).owF (h.old x b),λx b=>a.own (h.last x b) c,h.fg,gS h.gs a.size⟩
structure Jb (w:World) (B p:Nat) (dv rs:Value) (Rs:List cB) (c:cB) (F G:Nat):Prop where
 is:Is w p #[dv,rs,.slice none 0 0,.bool false] 84
 runs:w.ownsRow B eX 6 rs (Rs.length+1) ((Rs++[c]).flatMap lV)
 Ae:∀r∈Rs,wM w F r
 cur:He w F G c
 low:B<=p
section
variable {w w' : World} {B p : Nat} {dv rs : Value} {Rs : List cB} {c : cB} {F G : Nat}
def Jb.ext (h:Jb w B p dv rs Rs c F G) (a:Below w.heap.size w w'):Jb w' B p dv rs Rs c F G:=
 ⟨h.is.mono a,aH h.runs a,λr b=>(h.Ae r b).keep (.of_below (a.mono (gS h.cur.fg h.cur.gs)) a.size) (.of_below (a.mono (gS h.cur.fg h.cur.gs)) a.size),h.cur.ext a,h.low⟩
def Jb.Zm (h:Jb w B p dv rs Rs c F G) {a:Value} {hd:Nat} (k:w'.ownsRow B eX 6 a (Rs.length+2) ((Rs++[c]).flatMap lV++lV (hd,.slice none 0 0,[]))) (j:w.grownBy w' rs.ownBlock) :
 Jb (w'.setCell ⟨p,1,none⟩ a) B p dv a (Rs++[c]) (hd,.slice none 0 0,[]) w'.heap.size w'.heap.size:=by
 have b:=bJ.bQ h.runs j;have i:=b.is h.is (by decide);have g:=bJ.put (o:=1) i a;have e:F<=w.heap.size:=gS h.cur.fg h.cur.gs;have l:=(h.cur.iQ b (by decide) (by decide)).iQ g (by decide) (by decide);have d:(w'.setCell ⟨p,1,none⟩ a).heap.size=w'.heap.size:=by simp
 refine⟨i.set 1 a,?_,λr f=>?_,⟨iu _ _ _ _,by simp,by simp,gw _,by rw[d];exact gw _⟩,h.low⟩
 ·have:=g.own k (by decide);rw[jj,d'];simpa using this
 rcases gR.1 f with f|f
 ·refine wM.le (((h.Ae r f).keep (.fV b (by decide) F e) (.fV b (by decide) F e)).keep (.fV g (by decide) F (gS e b.size)) (.fV g (by decide) F (gS e b.size))) (gS e b.size)
 rw[gC.1 f];have:=l.Ae;rw[d] at this;exact this
end
def KJ {α:Type} (f:α->List Value) (m:Nat) (hf:∀a,(f a).length=m) (Rs:List α) (c b:α) (j:Nat) (u:Value) (e:j<m) (d:(f c).set j u=f b):((Rs++[c]).flatMap f).set (Rs.length*m+j) u=(Rs++[b]).flatMap f:=by
 rw[jj,jj,k_ (h:=by rw[vW f m hf];omega),vW f m hf,kB];simp[d]
section
variable {w w' : World} {B p : Nat} {dv rs : Value} {Rs : List cB} {F G : Nat}
def yg {w w':World} {F B n a:Nat} {e t:TypeId} {v:Value} {c:List Value} (f:w.ownsRow B e a v n c) (b:w.grownBy w' v.ownBlock) (g:F<=B) (i:F<=w.heap.size):oz w w' F t:=
 ⟨b.size,λk h _=>b.block k (by omega) λd=>by have:=(f.lt k d.symm).1;omega⟩
def Jb.Vy {hd:Nat} {l:Value} {Ls:List d_} {g k cap:Nat} (h:Jb w B p dv (.slice (some ⟨g,0,none⟩) k cap) Rs (hd,l,Ls) F G) {a:Value} {n:Nat} (y:w'.ownsRow F fu 2 a (Ls.length+1) (Ls.flatMap fB++fB (n,.slice none 0 0,[]))) (q:w.grownBy w' l.ownBlock) :
 Jb (w'.setCell ⟨g,Rs.length*6+1,none⟩ a) B p dv (.slice (some ⟨g,0,none⟩) k cap) Rs (hd,a,Ls++[(n,.slice none 0 0,[])]) F w'.heap.size:=by
 have d:F<=w.heap.size:=gS h.cur.fg h.cur.gs;have b:=bJ.bQ h.cur.row q;have c:=b.own h.runs (by decide);obtain⟨cs,m⟩:=bV c (k:=g) rfl;have i:=bJ.put (o:=Rs.length*6+1) (⟨m⟩:Is w' g cs eX) a;have j:(w'.setCell ⟨g,Rs.length*6+1,none⟩ a).heap.size=w'.heap.size:=by simp
 have t:k=Rs.length+1:=by
  obtain⟨_,_,e,_⟩:=ak c;injection e with _ e _
 have s:=h.cur;refine⟨i.is (b.is h.is (by decide)) (by decide),?_,λr u=>?_,⟨?_,λx f=>?_,λx f=>?_,?_,by rw[j];exact gw _⟩,h.low⟩
 ·have:=(t▸c).stored (Rs.length*6+1) a;rw[KJ lV 6 aa1 Rs (hd,l,Ls) (hd,a,Ls++[(n,.slice none 0 0,[])]) 1 a (by decide) rfl] at this;rw[t];exact this.1
 ·exact((h.Ae r u).keep (yg s.row q (gw _) d) (.fV b (by decide) F d)).keep (.fV i (by decide) F (gS d b.size)) (.fV i (by decide) F (gS d b.size))
 ·have:=i.own y (by decide);rw[jj,d'];simpa using this
 ·rw[rp] at f;have v:=(s.Ae).2 x f;exact(oz.fV i (by decide) _ (gw _)).owF (((oz.fV b (by decide) _ (gw _)).owF v).le b.size)
 ·rw[l4] at f;cases f;exact iu _ _ _ _
 exact gS d b.size
def Jb.Zn {hd:Nat} {Ls:List d_} {n:Nat} {v v':Value} {l:List Nat} {gl k cap:Nat} (h:Jb w B p dv rs Rs (hd,.slice (some ⟨gl,0,none⟩) k cap,Ls++[(n,v,l)]) F G) {m:Nat} (A:w'.ownsRow G aN 1 v' (l++[m]).length (aM (l++[m]))) (j:w.grownBy w' v.ownBlock) :
 Jb (w'.setCell ⟨gl,Ls.length*2+1,none⟩ v') B p dv rs Rs (hd,.slice (some ⟨gl,0,none⟩) k cap,Ls++[(n,v',l++[m])]) F G:=by
 have b:=h.cur;have t:F<=w.heap.size:=gS b.fg b.gs;have a:=b.last (n,v,l) (by simp);have d:=bJ.bQ a j;have c:=d.own b.row (by decide);obtain⟨cs,s⟩:=bV c (k:=gl) rfl;have i:=bJ.put (o:=Ls.length*2+1) (⟨s⟩:Is w' gl cs fu) v';have q:F<=gl:=(c.lt gl rfl).1;have u:k=Ls.length+1:=by
  obtain⟨_,_,e,_⟩:=ak c;injection e with _ e _;simpa using e
 have g:Below F w' (w'.setCell ⟨gl,Ls.length*2+1,none⟩ v'):=(gO _ _).setCell q v';refine⟨i.is (d.is h.is (by decide)) (by decide),?_,λr y=>?_,⟨?_,λx f=>?_,λx f=>?_,b.fg,by have:=b.gs;have:=d.size;simp;omega⟩,h.low⟩
 ·have:=i.own (d.own h.runs (by decide)) (by decide);rw[jj] at this⊢;exact this
 ·exact((h.Ae r y).keep (.fV d (by decide) F t) (yg a j b.fg t)).keep (.of_below g g.size) (.of_below g g.size)
 ·have C:w'.ownsRow F fu 2 (.slice (some ⟨gl,0,none⟩) k cap) k ((Ls++[(n,v,l)]).flatMap fB):=by
   have:=c;rw[show(hd,Value.slice (some ⟨gl,0,none⟩) k cap,Ls++[(n,v,l)]).2.2.length=k by simp[u]] at this;exact this
  have:=C.stored (Ls.length*2+1) v';rw[KJ fB 2 jC Ls (n,v,l) (n,v',l++[m]) 1 v' (by decide) rfl] at this;rw[show(hd,Value.slice (some ⟨gl,0,none⟩) k cap,Ls++[(n,v',l++[m])]).2.2.length=k by simp[u]];exact this.1
 ·simp only[rp] at f;have z:=b.old x (by simpa using f);exact(oz.fV i (by decide) G (gS b.gs d.size)).owF ((yg a j (gw _) b.gs).owF z)
 simp only[l4] at f;cases f;exact i.own A (by decide)
end
end
end Go.Proofs.YtmnimbnojdndmaaGreatDoor
namespace Go.Cd
section
section
variable (K : Nat -> Nat)
def KL {a:Nat}:∀(B x y:List Nat),(∀b∈B,swp K a b)->gL K (x++a::(B++y))=gL K (x++(B++a::y))
 | [],_,_,_=>rfl
 | b::B,x,y,h=>by
   have f:=x_ K (h b (by simp)) (B++y) x;have d:=KL B (x++[b]) y (λc e=>h c (by simp[e]));simp only[kc,so] at d;rw[ld,f,d];rfl
def Qn:∀(A B x y:List Nat),(∀a∈A,∀b∈B,swp K a b)->gL K (x++(A++(B++y)))=gL K (x++(B++(A++y)))
 | [],_,_,_,_=>rfl
 | a::A,B,x,y,h=>by
   have e:=Qn A B (x++[a]) y (λc f b d=>h c (by simp[f]) b d);have g:=KL K B x (A++y) (λb d=>h a (by simp) b d);simp only[kc,so] at e;rw[ld,e,g];rfl
def up (l:List Nat):Prop:=l.Pairwise λa b=>K a<=K b
def BR:∀{l:List Nat},up K l->dJ K l
 | [],_=>trivial
 | [_],_=>trivial
 | a::b::l,h=>by
   unfold up at h;rw[mz] at h;refine⟨?_,BR h.2⟩;have:=h.1 b (by simp);unfold swp;omega
def Sb {l m:List Nat}:dJ K l->dJ K m->(∀c,m.head? = some c->K c=0)->dJ K (l++m):=by
 intro e d h0
 induction l with
 | nil=>exact d
 | cons a l ih=>
   cases l with
   | nil=>
     cases m with
     | nil=>trivial
     | cons c m=>exact⟨by unfold swp;have:=h0 c rfl;omega,d⟩
   | cons b l=>exact⟨e.1,ih e.2⟩
end
end
section
section
variable (K : Nat -> Nat)
def fe (l m:List Nat):Prop:=l.Perm m/\∀x y,gL K (x++(l++y))=gL K (x++(m++y))
variable {K}
def fe.refl (l:List Nat):fe K l l:=⟨.refl _,λ_ _=>rfl⟩
def fe.trans {l m n:List Nat} (h:fe K l m) (k:fe K m n):fe K l n:=⟨h.1.trans k.1,λx y=>(h.2 x y).trans (k.2 x y)⟩
def fe.len {l m:List Nat} (h:fe K l m):m.length=l.length:=h.1.length_eq.symm
def fe.mem {l m:List Nat} (h:fe K l m) {x:Nat}:x∈m↔x∈l:=h.1.mem_iff.symm
def fe.app {l m l' a:List Nat} (h:fe K l m) (k:fe K l' a):fe K (l++l') (m++a):=by
 refine⟨h.1.append k.1,λx y=>?_⟩;have c:=h.2 x (l'++y);have b:=k.2 (x++m) y;simp only[kc] at c b⊢;rw[c,b]
def fe.rot {A B:List Nat} (h:∀a∈A,∀b∈B,swp K a b):fe K (A++B) (B++A):=by
 refine⟨List.perm_append_comm,λx y=>?_⟩;have:=Qn K A B x y h;simp only[kc] at this⊢;exact this
def Ar {l:List Nat} {a:Nat} (h:a∈l):∃z,l.getLast? = some z:=by
 have b:l≠[]:=λe=>by rw[e] at h;cases h
 exact⟨_,rL b⟩
def acm:up K []:=List.Pairwise.nil
def acn (a:Nat):up K [a]:=by unfold up;simp
def aR {l m:List Nat}:up K (l++m)↔up K l/\up K m/\∀a∈l,∀b∈m,K a<=K b:=by unfold up;exact lk
def Au {l:List Nat} (h:up K l) {a z:Nat} (c:l.getLast? = some z) (b:a∈l):K a<=K z:=by
 obtain⟨l',rfl⟩:∃l',l=l'++[z]:=by
  have d:l≠[]:=λe=>by rw[e] at b;cases b
  refine⟨l.dropLast,?_⟩;rw[rL d] at c;injection c with c;rw[<-c,qq]
 rcases gR.1 b with b|b
 ·exact(aR.1 h).2.2 a b z (by simp)
 rw[gC.1 b];exact gw _
def Av {l:List Nat} (h:up K l) {a z:Nat} (d:l.head? = some z) (c:a∈l):K z<=K a:=by
 cases l with
 | nil=>cases c
 | cons b l=>
   cases d;rcases jf.1 c with rfl|c
   ·exact gw _
   unfold up at h;exact(mz.1 h).1 a c
def iI {h e g f l k:List Nat} (m:up K (h++e)) (n:up K (g++f)) (pos:∀x∈g,0<K x)
 (p:∀a b,h.getLast? = some a->f.head? = some b->K a<=K b) (u:∀a b,e.head? = some a->g.getLast? = some b->K b<K a)
 (s1:fe K (h++g) l) (s2:fe K (e++f) k) (u1:up K l) (u2:up K k):fe K (h++e++(g++f)) (l++k)/\up K (l++k):=by
 have q:∀a∈h,∀b∈f,K a<=K b:=λa d b c=>by
  obtain⟨z,i⟩:=Ar d;obtain⟨y,j⟩:∃y,f.head? = some y:=by
   cases f with
   | nil=>cases c
   | cons y f=>exact⟨y,rfl⟩
  have:=Au (aR.1 m).1 i d;have:=p z y i j;have:=Av (aR.1 n).2.1 j c;omega
 have o:∀a∈e,∀b∈g,K b<K a:=λa d b c=>by
  obtain⟨z,i⟩:=Ar c;obtain⟨y,j⟩:∃y,e.head? = some y:=by
   cases e with
   | nil=>cases d
   | cons y e=>exact⟨y,rfl⟩
  have:=Au (aR.1 n).1 i c;have:=u y z j i;have:=Av (aR.1 m).2.1 j d;omega
 have r:fe K (e++g) (g++e):=fe.rot λa d b c=>⟨pos b c,o a d b c⟩;refine⟨?_,aR.2 ⟨u1,u2,λa d b c=>?_⟩⟩
 ·have t:=(fe.refl (K:=K) h).app (r.app (fe.refl f));have s:=s1.app s2;refine fe.trans ?_ s;simpa only[kc] using t
 have d:=s1.mem.1 d;have c:=s2.mem.1 c;rcases gR.1 d with d|d <;> rcases gR.1 c with c|c
 ·exact(aR.1 m).2.2 a d b c
 ·exact q a d b c
 ·exact nu (o b c a d)
 exact(aR.1 n).2.2 a d b c
def KM {X Y:List Nat} {c:Nat} (h:up K (X++Y)) (pos:0<K c) (i:∀a,X.getLast? = some a->K a<=K c) (j:∀b,Y.head? = some b->K c<K b):fe K (X++Y++[c]) (X++c::Y)/\up K (X++c::Y):=by
 have g:∀b∈Y,K c<K b:=λb d=>by
  cases Y with
  | nil=>cases d
  | cons y Y=>
    have:=j y rfl;have:=Av (aR.1 h).2.1 rfl d;omega
 refine⟨?_,?_⟩
 ·have:=(fe.refl (K:=K) X).app (fe.rot (K:=K) (A:=Y) (B:=[c]) λa e b d=>by rw[gC.1 d];exact⟨pos,g a e⟩);simpa only[kc,so] using this
 refine aR.2 ⟨(aR.1 h).1,?_,λa e b d=>?_⟩
 ·unfold up;rw[mz];exact⟨λb d=>nu (g b d),(aR.1 h).2.1⟩
 rcases jf.1 d with rfl|d
 ·obtain⟨z,f⟩:=Ar e;exact gS (Au (aR.1 h).1 f e) (i z f)
 exact(aR.1 h).2.2 a e b d
def Vz {X Y:List Nat} {c:Nat} (h:up K (X++Y)) (pos:∀x∈X,0<K x) (i:∀a,X.getLast? = some a->K a<K c) (j:∀b,Y.head? = some b->K c<=K b):fe K (c::(X++Y)) (X++c::Y)/\up K (X++c::Y):=by
 have g:∀b∈X,K b<K c:=λb d=>by
  obtain⟨z,f⟩:=Ar d;exact lf (Au (aR.1 h).1 f d) (i z f)
 refine⟨?_,?_⟩
 ·have:=(fe.rot (K:=K) (A:=[c]) (B:=X) λa e b d=>by rw[gC.1 e];exact⟨pos b d,g b d⟩).app (fe.refl Y);simpa only[kc,so,ld,ks] using this
 refine aR.2 ⟨(aR.1 h).1,?_,λa e b d=>?_⟩
 ·unfold up;rw[mz];refine⟨λb d=>?_,(aR.1 h).2.1⟩;cases Y with
  | nil=>cases d
  | cons y Y=>exact gS (j y rfl) (Av (aR.1 h).2.1 rfl d)
 rcases jf.1 d with rfl|d
 ·exact nu (g a e)
 exact(aR.1 h).2.2 a e b d
end
def Sc (A Z:List Nat) (x y:Nat):((A++x::y::Z).set A.length y).set (A.length+1) x=A++y::x::Z:=by
 rw[k_ (h:=gw _),m_,rN,k_ (h:=by omega),show A.length+1-A.length=1 from by omega];rfl
end
def sQ (n c:Nat) (Ls:List (Nat×List Nat)):List (Nat×List Nat):=
 match Ls.getLast? with
 | some (m,l)=>if m=n then Ls.dropLast++[(m,l++[c])] else Ls++[(n,[c])]
 | none=>Ls++[(n,[c])]
abbrev bS:=Nat×List (Nat×List Nat)
def BU (K:Nat->Nat) (rs:List bS) (c:Nat):List bS:=
 if K c=0 then rs++[(c,[])] else rs.dropLast++[((rs.getLastD (0,[])).1,sQ (K c) c (rs.getLastD (0,[])).2)]
def bq (K:Nat->Nat) (l:List Nat):List bS:=l.foldl (BU K) [(0,[])]
def VA {K:Nat->Nat} {l:List Nat} {j:Nat} (a:j<l.length):bq K (l.take (j+1))=BU K (bq K (l.take j)) l[j]:=by
 unfold bq;rw[gE a,rm];rfl
def yh {n c m:Nat} {l:List Nat} {Ls:List (Nat×List Nat)} (h:m=n):sQ n c (Ls++[(m,l)])=Ls++[(m,l++[c])]:=by
 unfold sQ;rw[l4];simp[h]
def abj {n c:Nat} {Ls:List (Nat×List Nat)} (h:∀x,Ls.getLast? = some x->x.1≠n):sQ n c Ls=Ls++[(n,[c])]:=by
 unfold sQ
 split
 ·rename_i m l e;rw[if_neg (h _ e)]
 rfl
def BV {K:Nat->Nat} {a:List bS} {c:Nat} (h:K c=0):BU K a c=a++[(c,[])]:=by unfold BU;rw[if_pos h]
def yj {K:Nat->Nat} {a:List bS} {r:bS} {c:Nat} (h:K c≠0):BU K (a++[r]) c=a++[(r.1,sQ (K c) c r.2)]:=by
 unfold BU;rw[if_neg h,rp,tR]
def KN {K:Nat->Nat}:∀{l:List Nat},dJ K l->∀{j:Nat} (c:j+1<l.length),K l[j+1]=0\/K l[j]<=K l[j+1]
 | [],_,_,c=>absurd c (by simp)
 | [_],_,_,c=>absurd c (by simp)
 | a::b::l,h,0,_=>by
   have:=h.1;unfold swp at this;simp only[tz,xm,kh];omega
 | a::b::l,h,j+1,c=>by
   have:=KN h.2 (j:=j) (by simpa using c);simpa using this
end Go.Cd
namespace Go.Proofs.YtmnimbnojdndmaaGreatDoor
open Go.RowKit Go.Cd _root_.Go.Proofs.Tryz
def gT (Ls:List d_):List Nat:=Ls.map λx=>x.2.2.length+1
def Sd {Ls:List d_} {j:Nat} (a:j<Ls.length):gT (Ls.take (j+1))=gT (Ls.take j)++[Ls[j].2.2.length+1]:=by
 rw[gE a];unfold gT;rw[js];rfl
def BZ (Ls:List d_):(gT Ls).length=Ls.length:=by simp[gT]
def B_ {w:World} {F:Nat} {hd:Nat} {la:Option Addr} {ln lc:Nat} {Ls:List d_} (h:wM w F (hd,.slice la ln lc,Ls)) (hl:Ls.length<10000) (hm:∀x∈Ls,x.2.2.length<10000) (C t:Option Addr) (A H B I:Nat) (E z:Int) :
 Calls prog 43 #[.agg #[.int .i32 hd,.slice la ln lc,.slice C A H,.slice t B I,.int .i64 E,.int .i64 z]] w λe w'=>∃v,e=.returned v/\w'.ownsRow w.heap.size bB 1 v Ls.length (ds (gT Ls))/\Below w.heap.size w w':=by
 have b:=h.1.1;have L:ln=Ls.length:=by
  obtain⟨_,_,e,_⟩:=ak b;injection e with _ e _
 subst L;have HX:=aa (λ(i:Nat) (hi:i<Ls.length)=>dC (f:=fB) jC rfl b hi);have HS:=aa (λx (G:x∈Ls)=>ak (h.2 x G).1);have HM:=aa hm;obtain⟨n,u⟩:=ae Ls.length;have HN:=aa u;have p:=ah (w:=w) (.cells #[.int .i32 hd,.slice la Ls.length lc,.slice C A H,.slice t B I,.int .i64 E,.int .i64 z] eX);have S:=Is.new w #[.int .i32 hd,.slice la Ls.length lc,.slice C A H,.slice t B I,.int .i64 E,.int .i64 z] eX;have e1:=S.at 1 rfl;rw[<-u] at hl⊢;rw[<-u] at p S e1;clear h b hm u;go_enter func43,ntmps43;go_wp2_with fail;generalize w.alloc (.cells #[.int .i32 hd,.slice la n lc,.slice C A H,.slice t B I,.int .i64 E,.int .i64 z] eX)=w1 at *;go_loopw [3,5,9] (λov _ M wr=>∃j:Nat,j<=n/\M=.int .i64 j/\wr.ownsRow w.heap.size bB 1 ov j (ds (gT (Ls.take j)))/\Below w.heap.size w wr) (λ_ _ M _=>n-(intOf M).toNat)
 case atStart=>exact⟨0,gW _,rfl,iu _ _ _ _,p⟩
 case round=>
  obtain⟨j,hj,rfl,q,s⟩:=hrel;by_cases ac:j<n
  ·have zj:=eG (show j<n by omega);have c:j<Ls.length:=by have:=HN.out;omega
   obtain⟨g,Z,m,_,_,_,D⟩:=HX.out j c;injection m with m _ K;subst K;subst m;have r:=HM.out _ (gx c);obtain⟨T,X,d,_,_⟩:=HS.out _ (gx c);have a:=Sd c;obtain⟨x,G⟩:=ae (Ls[j]);rw[<-G] at D r d a;obtain⟨y,V⟩:=ae x.2.2.length;rw[<-V] at r d a;have c0:=aB s (show w.cell? ⟨g,j*2,none⟩=some (.int .i64 (x.1:Nat)) from (D 0 (by decide)).1);have O:=aB s (show w.cell? ⟨g,j*2+1,none⟩=some (.slice T y X) from by rw[(D 1 (by decide)).1];simp[fB,d]);obtain⟨m1,o⟩:=ae (y+1);rw[<-o] at a;have:IntKind.i64.wrap ((y:Int)+1)=(m1:Int):=by rw[j8 _ (by omega)];omega
   have Q:=aa a;have J:=aa q;have:=aa o;have hs:=s.size;clear D d a G V o q;obtain⟨Y,k⟩:=ae (wr.alloc (.cells #[.int .i64 (x.1:Nat),.slice T y X] fu));have l:=aO k;have N:=s.trans (l.mono hs);have R:=aH J.out l;have k2:=Is.nw k;have:=k2.at 1 rfl;have:w.heap.size<=Y.heap.size:=gS hs l.size;go_upto_region 5 with fail;rw[<-k];clear k c0 O
   go_wp2_with (
    refine f_ (W:=Y) rfl _ _ 23 rfl w.heap.size bB (.int .i64 0) 8 jI u3 j _ rfl R (.int .i64 (m1:Nat)) rfl rfl (by omega) (by unfold maxLen;omega) w N (gw _) ?_;intro v3 w3 o3 P _ _;have M6:=aa (show w3.ownsRow w.heap.size bB 1 v3 (j+1) (ds (gT (Ls.take (j+1)))) from by rw[Q.out,Q3];exact o3)
    clear o3)
   go_roundw
   case rel=>exact⟨j+1,by omega,by simp,M6.out,P⟩
   case measure=>simp[intOf];omega
  have zj:=gI (show n<=j by omega);obtain rfl:j=n:=by omega
  have U:Ls.take j=Ls:=ie (by rw[HN.out];exact gw _);rw[U] at q;have J:=aa q;clear q U;go_wp2_with fail;go_ret;exact⟨_,rfl,J.out,s⟩
end Go.Proofs.YtmnimbnojdndmaaGreatDoor
namespace Go.Proofs.YtmnimbnojdndmaaGreatDoor
open Go.RowKit Go.Cd
structure nk (w:World):Prop where
 acp:dL w
 heads:dB w
def nk.mono {w w':World} (h:nk w) (a:Below w.heap.size w w'):nk w':=⟨h.acp.mono a,h.heads.mono a⟩
end Go.Proofs.YtmnimbnojdndmaaGreatDoor
