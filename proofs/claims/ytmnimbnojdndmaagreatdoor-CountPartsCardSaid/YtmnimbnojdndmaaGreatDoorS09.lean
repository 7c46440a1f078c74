/- State by state it is added up what is possible; no condition. -/
import Derived.Test.YtmnimbnojdndmaaGreatDoorS08
import Derived.Lib.Join
set_option maxRecDepth 100000
set_option maxHeartbeats 6400000
set_option linter.all false
namespace Go.Cd
section
section
variable (K : Nat -> Nat)
def j_ (c:Nat):List Nat->List Nat
 | []=>[c]
 | d::l=>if 0<K d/\K d<K c then d::j_ c l else c::d::l
def gL:List Nat->List Nat
 | []=>[]
 | c::l=>j_ K c (gL l)
def swp (a b:Nat):Prop:=0<K b/\K b<K a
def dJ:List Nat->Prop
 | []=>True
 | [_]=>True
 | a::b::l=>¬swp K a b/\dJ (b::l)
def Fu {a b:Nat} (h:swp K a b):∀l,j_ K a (j_ K b l)=j_ K b (j_ K a l)
 | []=>by
   unfold swp at h;simp only[j_];rw[if_pos h,if_neg (by omega)]
 | d::l=>by
   have f:=Fu h l;unfold swp at h;by_cases e:0<K d/\K d<K b
   ·have c:0<K d/\K d<K a:=by omega
    simp only[j_,if_pos e,if_pos c];rw[f]
   by_cases c:0<K d/\K d<K a
   ·simp only[j_,if_neg e,if_pos c,if_pos h]
   simp only[j_,if_neg e,if_neg c,if_pos h];rw[if_neg (by omega)]
def x_ {a b:Nat} (h:swp K a b) (y:List Nat):∀x:List Nat,gL K (x++a::b::y)=gL K (x++b::a::y)
 | []=>Fu K h _
 | c::x=>by
   show j_ K c (gL K (x++a::b::y))=j_ K c (gL K (x++b::a::y));rw[x_ h y x]
def uI:∀{l:List Nat},dJ K l->gL K l=l
 | [],_=>rfl
 | [a],_=>rfl
 | a::b::l,h=>by
   show j_ K a (gL K (b::l))=_;rw[uI h.2];simp only[j_];exact if_neg h.1
def Ky (a:Nat):List Nat->List Nat
 | []=>[a]
 | b::l=>if 0<K b/\K b<K a then b::Ky a l else a::Ky b l
def pass:List Nat->List Nat
 | []=>[]
 | a::l=>Ky K a l
def qW (a b:Nat) (l:List Nat):Ky K a (b::l)=if 0<K b/\K b<K a then b::Ky K a l else a::Ky K b l:=rfl
def G9:∀(l:List Nat) (a:Nat),(Ky K a l).length=l.length+1
 | [],_=>rfl
 | b::l,a=>by
   rw[qW]
   split
   ·rw[im,G9 l];rfl
   rw[im,G9 l];rfl
def Vu (l:List Nat):(pass K l).length=l.length:=by
 cases l with
 | nil=>rfl
 | cons a l=>exact G9 K l a
def BJ:∀(l:List Nat) (a:Nat) (x:List Nat),gL K (x++Ky K a l)=gL K (x++a::l)
 | [],_,_=>rfl
 | b::l,a,x=>by
   rw[qW]
   split
   ·rename_i h;rw[x_ K h l x,show x++b::Ky K a l=(x++[b])++Ky K a l by simp,BJ l a (x++[b])];simp
   rw[show x++a::Ky K b l=(x++[a])++Ky K b l by simp,BJ l b (x++[a])];simp
def RZ (l:List Nat):gL K (pass K l)=gL K l:=by
 cases l with
 | nil=>rfl
 | cons a l=>exact BJ K l a []
def passes:Nat->List Nat->List Nat
 | 0,l=>l
 | n+1,l=>passes n (pass K l)
def zM:∀(n:Nat) (l:List Nat),gL K (passes K n l)=gL K l
 | 0,_=>rfl
 | n+1,l=>by show gL K (passes K n (pass K l))=_;rw[zM n,RZ]
def BK:∀(n:Nat) (l:List Nat),(passes K n l).length=l.length
 | 0,_=>rfl
 | n+1,l=>by show(passes K n (pass K l)).length=_;rw[BK n,Vu]
def gt (x:Nat) (l:List Nat):Nat:=l.countP λy=>decide (K x<K y)
def Zi (n:Nat):List Nat->List Nat->Prop
 | _,[]=>True
 | pre,b::l=>(0<K b->gt K b pre<=n)/\Zi n (if K b=0 then [] else b::pre) l
def eT (x y:Nat) (l:List Nat):gt K x (y::l)=gt K x l+if K x<K y then 1 else 0:=by
 unfold gt;rw[zy];simp
def G_:∀(l a:List Nat) (n:Nat),a.length+l.length<=n->Zi K n a l
 | [],_,_,_=>trivial
 | b::l,a,n,h=>by
   simp only[im] at h;refine⟨λ_=>ia xT (by omega),?_⟩
   split
   ·exact G_ l [] n (by simp;omega)
   exact G_ l (b::a) n (by simp;omega)
def sj:∀(l:List Nat) (a:Nat) (e j:List Nat) (n:Nat),
 (K a=0->e=[])->(0<K a->(∀x,gt K x e=gt K x (a::j))/\gt K a e=0)->Zi K (n+1) e l->Zi K n j (Ky K a l)
 | [],a,e,j,n,_,h1,_=>by
   refine⟨λh0=>?_,trivial⟩;obtain⟨f,i⟩:=h1 h0;have:=f a;rw[i,eT,if_neg (tz _)] at this;omega
 | b::l,a,e,j,n,h0,h1,hb=>by
   obtain⟨p,c⟩:=hb;rw[qW];by_cases k:0<K b/\K b<K a
   ·rw[if_pos k];have o:0<K a:=by omega
    obtain⟨f,i⟩:=h1 o;have d:¬K b=0:=by omega
    rw[if_neg d] at c;refine⟨λ_=>?_,?_⟩
    ·have:=p k.1;rw[f b,eT,if_pos k.2] at this;omega
    rw[if_neg d];refine sj l a (b::e) (b::j) n (λh=>by omega) (λ_=>⟨λx=>?_,?_⟩) c
    ·rw[eT,f x,eT,eT,eT];omega
    rw[eT,i,if_neg (by omega)]
   rw[if_neg k];refine⟨λo=>?_,?_⟩
   ·obtain⟨f,i⟩:=h1 o;have:=f a;rw[i,eT,if_neg (tz _)] at this;omega
   by_cases d:K b=0
   ·rw[if_pos d] at c;exact sj l b [] _ n (λ_=>rfl) (λh=>by omega) c
   rw[if_neg d] at c;by_cases g:K a=0
   ·have m:=h0 g;subst m;rw[if_pos g];refine sj l b [b] [] n (λh=>absurd h d) (λ_=>⟨λ_=>rfl,?_⟩) c;rw[eT,if_neg (tz _)];rfl
   obtain⟨f,i⟩:=h1 (by omega);rw[if_neg g];refine sj l b (b::e) (a::j) n (λh=>absurd h d) (λ_=>⟨λx=>?_,?_⟩) c
   ·rw[eT,f x,eT,eT,eT]
   rw[eT,if_neg (tz _)];have q:K a<=K b:=by omega
   have r:gt K b e<=gt K a e:=List.countP_mono_left λy _ s=>by
    simp only[decide_eq_true_eq] at s⊢;omega
   omega
def Vv (n:Nat) (l:List Nat) (h:Zi K (n+1) [] l):Zi K n [] (pass K l):=by
 cases l with
 | nil=>trivial
 | cons a l=>
   obtain⟨_,b⟩:=h;by_cases c:K a=0
   ·rw[if_pos c] at b;exact sj K l a [] [] n (λ_=>rfl) (λh=>by omega) b
   rw[if_neg c] at b;refine sj K l a [a] [] n (λh=>absurd h c) (λ_=>⟨λ_=>rfl,?_⟩) b;rw[eT,if_neg (tz _)];rfl
def BL:∀(n:Nat) (l:List Nat),Zi K n [] l->Zi K 0 [] (passes K n l)
 | 0,_,h=>h
 | n+1,l,h=>BL n (pass K l) (Vv K n l h)
def Fv:∀(l:List Nat) (a:Nat) (c:List Nat),Zi K 0 (if K a=0 then [] else a::c) l->dJ K (a::l)
 | [],_,_,_=>trivial
 | b::l,a,c,h=>by
   obtain⟨e,f⟩:=h;refine⟨λd=>?_,?_⟩
   ·have g:¬K a=0:=by have:=d.2;omega
    have:=e d.1;rw[if_neg g,eT,if_pos d.2] at this;omega
   exact Fv l b _ f
def BM (l:List Nat):passes K l.length l=gL K l:=by
 have c:=BL K l.length l (G_ K l [] l.length (by simp));have b:dJ K (passes K l.length l):=by
  generalize passes K l.length l=m at c;cases m with
  | nil=>trivial
  | cons a m=>exact Fv K m a [] c.2
 rw[<-uI K b,zM]
end
end
open Go.Proofs.YtmnimbnojdndmaaGreatDoor
variable {c x:Nat} {T:List aG} {X:List Nat}
def Kz (h:x∈hparts c):0<hk x/\hk x<4:=by
 have e:(4352<=x/\x<4371)\/(4449<=x/\x<4470)\/(4520<=x/\x<4547):=by
  have:=mS (c-44032) (show 28 > 0 by decide);have:(c-44032) % 588 / 28<21:=by omega
  unfold hparts at h;by_cases a:hk c=4
  ·rw[if_pos a] at h;have d:(c-44032) / 588<19:=by rw[oQ] at a;omega
   clear a;generalize (c-44032) % 588 / 28=v at *;generalize (c-44032) / 588=l at *;simp only[jt,kt,or_false] at h;omega
  rw[if_neg a] at h;by_cases b:hk c=5
  ·rw[if_pos b] at h;have d:(c-44032) / 588<19/\(c-44032) % 28≠0:=by rw[kI] at b;omega
   clear a b;generalize (c-44032) % 588 / 28=v at *;generalize (c-44032) / 588=l at *;generalize (c-44032) % 28=t at *;simp only[jt,kt,or_false] at h;omega
  rw[if_neg b] at h;simp at h
 unfold hk;rcases e with h|h|h
 ·rw[if_pos h];omega
 ·rw[if_neg (by omega),if_pos h];omega
 rw[if_neg (by omega),if_neg (by omega),if_pos h];omega
def Vw (b:aY T X) (h:0<hk x):rowOf T x=none:=
 oV λr a e=>by have:=(b.fine r a).2.2.2.1;rw[e] at this;omega
def N7 (a:aY T X) (h:0<hk x) (b:hk x<4):mapOf T x=[]:=by
 unfold mapOf bP;rw[if_pos b,Vw a h]
def ni (b:aY T X) (c:Nat):tJ (mapOf T) (hparts c):=λx a=>N7 b (Kz a).1 (Kz a).2
def KA (M:Nat->List Nat) (c:Nat) (h:M c≠[]):steps M 1 [c]=M c:=by
 show dm M [c]=M c;unfold dm;rw[jx,if_neg h];simp
def qX (f:aY T X) (h:4<=hk c):aD T c=hparts c/\fQ T c:=by
 have g:mapOf T c=dI c:=by unfold mapOf;rw[if_neg (by omega)]
 have j:dI c≠[]:=λe=>by have:=xS.1 e;omega
 have hf:aD T c=hparts c:=by
  by_cases b:hk c=4
  ·have e:dI c=hparts c:=by unfold dI hparts;rw[if_pos b,if_pos b]
   have d:steps (mapOf T) 1 [c]=hparts c:=by rw[KA _ _ (by rw[g];exact j),g,e]
   rw[GK (k:=1) (by omega) (by rw[d];exact ni f c),d]
  have a:hk c=5:=by have:=vU c;omega
  have d:steps (mapOf T) 1 [c]=[c-(c-44032) % 28,4519+(c-44032) % 28]:=by
   rw[KA _ _ (by rw[g];exact j),g];unfold dI;rw[if_neg b,if_pos a]
  have i:mapOf T (c-(c-44032) % 28)=[4352+(c-44032) / 588,4449+(c-44032) % 588 / 28]:=by
   unfold mapOf;rw[if_neg (by rw[Qc a];omega),A8 a]
  have m:mapOf T (4519+(c-44032) % 28)=[]:=ni f c _ (by unfold hparts;rw[if_neg b,if_pos a];simp);have l:steps (mapOf T) 2 [c]=hparts c:=by
   rw[uz,d];unfold dm hparts;rw[if_neg b,if_pos a,jx,jx,if_neg (by rw[i];simp),if_pos m,i];rfl
  rw[GK (k:=2) (by omega) (by rw[l];exact ni f c),l]
 refine⟨hf,by rw[hf];exact ni f c,?_⟩;rw[hf];unfold hparts
 split
 ·simp
 split <;> simp
def pE (a:aY T X) (c:Nat):fQ T c:=by
 by_cases h:4<=hk c
 ·exact(qX a h).2
 cases b:rowOf T c with
 | some r=>
   obtain⟨e,g⟩:=gy b;rw[<-g];exact a.full r e
 | none=>
   have d:mapOf T c=[]:=by unfold mapOf bP;rw[if_pos (by omega),b]
   have hf:aD T c=[c]:=iK d _;refine⟨by rw[hf];exact λx f=>by rw[gE.1 f];exact d,by rw[hf];simp⟩
def R7 (a:aY T X) {y:Nat} (h:y∈aD T c):aD T y=[y]:=iK ((pE a c).1 y h) _
def pF (T:List aG) (c:Nat):aD T c≠[]:=by
 rw[jo];intro e;have:=xV (mapOf T) (T.length+3) [c];rw[e] at this;simp at this
def KC (h:x∈dI c):x<55296:=by
 unfold dI at h
 split at h
 ·rename_i b;have:=oQ.1 b;have:(c-44032) % 588 / 28<21:=by omega
  have:(c-44032) / 588<19:=by omega
  generalize (c-44032) % 588 / 28=p at *;generalize (c-44032) / 588=q at *;simp only[jt,kt,or_false] at h;omega
 split at h
 ·rename_i a;have:=mS (c-44032) (show 28 > 0 by decide);have:c<55204:=(kI.1 a).2.1;generalize (c-44032) % 28=p at *;simp only[jt,kt,or_false] at h;omega
 simp at h
def R8 (b:aY T X) (h:x∈mapOf T c):aP x:=by
 unfold mapOf at h
 split at h
 ·unfold bP at h;cases a:rowOf T c with
  | none=>rw[a] at h;simp at h
  | some r=>rw[a] at h;exact((b.fine r (gy a).1).2.2.2.2 x h).2
 have:=KC h;unfold aP;omega
def Fw (b:aY T X):∀(n:Nat) (l:List Nat),(∀x∈l,aP x)->∀x∈steps (mapOf T) n l,aP x
 | 0,_,h=>h
 | n+1,l,h=>Fw b n (dm (mapOf T) l) λx a=>by
   unfold dm at a;obtain⟨c,d,a⟩:=lP.1 a
   split at a
   ·rw[gE.1 a];exact h c d
   exact R8 b a
def ow (b:aY T X) {y:Nat} (a:aP c) (h:y∈aD T c):aP y:=by
 rw[jo] at h;exact Fw b _ [c] (λx d=>by rw[gE.1 d];exact a) y h
def il (a:aY T X) (c:Nat):(aD T c).length<=32:=(pE a c).2
def jJ (a:aY T X) (l:List Nat):(l.flatMap (aD T)).length<=32*l.length:=by
 induction l with
 | nil=>simp
 | cons c l ih=>
   have:=il a c;rw[jx,gn,im];omega
def gQ (T:List aG) (l:List Nat):List Nat:=gL (ai T) (l.flatMap (aD T))
end Go.Cd
namespace Go.Cd
def xtA:List aG:=[⟨192,0,[65,768]⟩,⟨193,0,[65,769]⟩,⟨194,0,[65,770]⟩,⟨195,0,[65,771]⟩,⟨196,0,[65,776]⟩,⟨197,0,[65,778]⟩,⟨199,0,[67,807]⟩,⟨200,0,[69,768]⟩,⟨201,0,[69,769]⟩,⟨202,0,[69,770]⟩,
 ⟨203,0,[69,776]⟩,⟨209,0,[78,771]⟩,⟨214,0,[79,776]⟩,⟨220,0,[85,776]⟩,⟨224,0,[97,768]⟩,⟨225,0,[97,769]⟩,⟨226,0,[97,770]⟩,⟨228,0,[97,776]⟩,⟨229,0,[97,778]⟩,⟨231,0,[99,807]⟩,
 ⟨233,0,[101,769]⟩,⟨234,0,[101,770]⟩,⟨241,0,[110,771]⟩,⟨244,0,[111,770]⟩,⟨246,0,[111,776]⟩,⟨252,0,[117,776]⟩,⟨258,0,[65,774]⟩,⟨259,0,[97,774]⟩,⟨346,0,[83,769]⟩,⟨347,0,[115,769]⟩,
 ⟨350,0,[83,807]⟩,⟨469,0,[220,772]⟩,⟨471,0,[220,769]⟩,⟨478,0,[196,772]⟩,⟨506,0,[197,769]⟩,⟨768,230,[]⟩,⟨769,230,[]⟩,⟨770,230,[]⟩,⟨771,230,[]⟩,⟨772,230,[]⟩,
 ⟨774,230,[]⟩,⟨775,230,[]⟩,⟨776,230,[]⟩,⟨778,230,[]⟩,⟨787,230,[]⟩,⟨795,216,[]⟩,⟨803,220,[]⟩,⟨807,202,[]⟩,⟨808,202,[]⟩,⟨817,220,[]⟩,
 ⟨824,1,[]⟩,⟨832,230,[768]⟩,⟨833,230,[769]⟩,⟨835,230,[787]⟩,⟨836,230,[776,769]⟩,⟨837,240,[]⟩,⟨884,0,[697]⟩,⟨894,0,[59]⟩,⟨901,0,[168,769]⟩,⟨903,0,[183]⟩,
 ⟨940,0,[945,769]⟩,⟨942,0,[951,769]⟩,⟨1460,14,[]⟩,⟨1463,17,[]⟩,⟨2345,0,[2344,2364]⟩,⟨2353,0,[2352,2364]⟩,⟨2356,0,[2355,2364]⟩,⟨2364,7,[]⟩,⟨2381,9,[]⟩,⟨2392,0,[2325,2364]⟩,
 ⟨2393,0,[2326,2364]⟩,⟨2507,0,[2503,2494]⟩,⟨2508,0,[2503,2519]⟩,⟨3953,129,[]⟩,⟨3954,130,[]⟩,⟨3955,0,[3953,3954]⟩,⟨3956,132,[]⟩,⟨3957,0,[3953,3956]⟩,⟨3958,0,[4018,3968]⟩,⟨3968,130,[]⟩,
 ⟨3969,0,[3953,3968]⟩,⟨7688,0,[199,769]⟩,⟨7690,0,[68,775]⟩,⟨7691,0,[100,775]⟩,⟨7692,0,[68,803]⟩,⟨7693,0,[100,803]⟩,⟨7776,0,[83,775]⟩,⟨7777,0,[115,775]⟩,⟨7778,0,[83,803]⟩,⟨7779,0,[115,803]⟩,
 ⟨7780,0,[346,775]⟩,⟨7781,0,[347,775]⟩,⟨7784,0,[7778,775]⟩,⟨7785,0,[7779,775]⟩,⟨7835,0,[383,775]⟩,⟨7840,0,[65,803]⟩,⟨7841,0,[97,803]⟩,⟨7852,0,[7840,770]⟩,⟨7853,0,[7841,770]⟩,⟨7862,0,[7840,774]⟩,
 ⟨7863,0,[7841,774]⟩,⟨8192,0,[8194]⟩,⟨8193,0,[8195]⟩,⟨8486,0,[937]⟩,⟨8490,0,[75]⟩,⟨8491,0,[197]⟩,⟨8800,0,[61,824]⟩,⟨8814,0,[60,824]⟩,⟨10972,0,[10973,824]⟩,⟨12364,0,[12363,12441]⟩,
 ⟨12400,0,[12399,12441]⟩,⟨12401,0,[12399,12442]⟩,⟨12441,8,[]⟩,⟨12442,8,[]⟩]
def xtB:List aG:=[⟨63744,0,[35912]⟩,⟨64285,0,[1497,1460]⟩,⟨64287,0,[1522,1463]⟩,⟨69786,0,[69785,69818]⟩,⟨69818,7,[]⟩,⟨119134,0,[119127,119141]⟩,⟨119141,216,[]⟩]
def fo:List aG:=xtA++xtB
def Gf:List Nat:=[2392,2393,10972,64285,64287,119134]
instance (r:aG):Decidable (rowFine r):=inferInstanceAs (Decidable (_/\_/\_/\_/\_))
def yK:∀{T:List aG},(T.map (·.code)).Pairwise (· < ·)->rising T
 | [],_=>trivial
 | r::T,h=>by
   rw[lj,mT] at h;exact⟨λq a=>h.1 _ (sX a),yK h.2⟩
def QJ:∀r∈fo,rowFine r:=by decide +kernel
def aax:rising fo:=yK (by decide +kernel)
def aay:∀r∈fo,fQ fo r.code:=by
 have:(fo.all λr=>(aD fo r.code).all (λx=>(mapOf fo x).isEmpty)&&decide ((aD fo r.code).length<=32))=true:=by decide +kernel
 intro r a;have h:=lR.1 this r a;rw[js,lR] at h;exact⟨λx b=>List.isEmpty_iff.1 (h.1 x b),of_decide_eq_true h.2⟩
def aaz:∀r∈fo,∀q∈fo,r.map.length=2->r.map=q.map->r=q:=by
 have:(fo.all λr=>r.map.length !=2||fo.all λq=>!(r.map==q.map)||decide (r=q))=true:=by decide +kernel
 intro r d q b e c;have h:=lR.1 this r d;rw[e] at h;have a:=lR.1 (show(fo.all λq=>!(r.map==q.map)||decide (r=q))=true from h) q b;rw[c] at a;simpa using a
def xk:aY fo Gf:=⟨QJ,aax,aay,λr b q c a d _ _=>aaz r b q c a d⟩
def aaA:∀r∈fo,r.cls≠0\/r.map≠[]:=by decide +kernel
end Go.Cd
section
namespace Go.Cd
def abh (c:Nat) (nm e:List UInt8):List UInt8:=aV c++[59,60]++nm++[44,32]++e++[62,59,59,48,59,59,59,59,59,59,59,59,59,59,59,10]
end Go.Cd
namespace Go.Proofs.YtmnimbnojdndmaaGreatDoor
open Go.RowKit Go.Cd Go.Shelf
def zW {w:World} (n:dL w) (c:Nat) (p:c<1114112) (f g:Int) (nm e:List UInt8) (d:nm.length<=100) (i:e.length<=100) :
 Calls Tryz.prog 111 #[.agg #[.int .i32 f,.int .i32 g,.string (tx nm)],.int .i32 c,.string (tx e)] w λo w'=>o=.returned (.string (tx (abh c nm e)))/\Below w.heap.size w w':=by
 have q:=aa (λ(W:World) (E:Below w.heap.size w W)=>vw (n.mono E) c p);obtain⟨j,a⟩:=ae (w.alloc (.cells #[.int .i32 f,.int .i32 g,.string (tx nm)] 198));have b:=aO a;have m:=Is.nw a;have k:tx (aV c)++(⟨#[59,60]⟩:ByteArray)++tx nm++(⟨#[44,32]⟩:ByteArray)++tx e++(⟨#[62,59,59,48,59,59,59,59,59,59,59,59,59,59,59,10]⟩:ByteArray)=tx (abh c nm e):=by
  show tx (aV c)++tx [59,60]++tx nm++tx [44,32]++tx e++tx [62,59,59,48,59,59,59,59,59,59,59,59,59,59,59,10]=_;rw[dA,dA,dA,dA,dA];rfl
 have:(tx (aV c)).size<=6:=by rw[aX];exact(bU c).2
 have:(tx nm).size<=100:=by rw[aX];exact d
 have:(tx e).size<=100:=by rw[aX];exact i
 have:(⟨#[59,60]⟩:ByteArray).size=2:=rfl;have:(⟨#[44,32]⟩:ByteArray).size=2:=rfl;have:(⟨#[62,59,59,48,59,59,59,59,59,59,59,59,59,59,59,10]⟩:ByteArray).size=16:=rfl;have l:=aa k;generalize tx (aV c)=s1 at *;generalize tx nm=s2 at *;generalize tx e=s3 at *;clear k d i;go_enter Tryz.func111,Tryz.ntmps111;go_upto_region 1 with fail;rw[<-a];clear a;have:=m.gd 2 rfl;refine aC (Array.replicate 11 true) 11 0 mixed ?_;refine ay [0,3,4,7] 7 ?_
 iterate 4 (refine aA rfl ?_;go_big_quiet_step (rfl))
 refine az ?_;refine aI 1 ?_;go_wp2_with fail;refine(q.out _ (af b (ag j))).mono ?_;rintro e v⟨rfl,h⟩;go_wp2_with fail;refine aF h ?_;refine ay [2,5,6,8,9,10] 0 ?_
 iterate 6 (refine aA rfl ?_;go_big_quiet_step (first|rfl|(simp only[ByteArray.size_append];omega)))
 refine az ?_;refine aJ [] ?_;refine tail_nil ?_;go_wp2;go_ret;exact⟨by rw[<-l.out];rfl,af (af b (ag j)) h⟩
end Go.Proofs.YtmnimbnojdndmaaGreatDoor
end
namespace Go.Cd
open Go.Proofs.YtmnimbnojdndmaaGreatDoor
def fF:List (Nat×Nat×List UInt8):=[(44032,55203,[72,97,110,103,117,108,32,83,121,108,108,97,98,108,101]),
 (55296,56191,[78,111,110,32,80,114,105,118,97,116,101,32,85,115,101,32,72,105,103,104,32,83,117,114,114,111,103,97,116,101]),
 (57344,63743,[80,114,105,118,97,116,101,32,85,115,101])]
def Gi (s:Nat×Nat×List UInt8):List UInt8:=abh s.1 s.2.2 [70,105,114,115,116]++abh s.2.1 s.2.2 [76,97,115,116]
def Ah:List aG->Nat->List UInt8
 | [],_=>[]
 | r::T,k=>((fF.drop k).takeWhile λs=>decide (s.1<r.code)).flatMap Gi++((eu [88] r++[10])++Ah T (k+((fF.drop k).takeWhile λs=>decide (s.1<r.code)).length))
def W_ {r:aG} {T:List aG} {k:Nat} (a:k<fF.length) (h:fF[k].1<r.code):Ah (r::T) k=Gi fF[k]++Ah (r::T) (k+1):=by
 conv=>lhs;unfold Ah
 conv=>rhs;unfold Ah
 rw[jf a,List.takeWhile_cons_of_pos (by simpa using h),jx,im,kl,tA,xi 1]
def QL {r:aG} {T:List aG} {k:Nat} (h:∀a:k<fF.length,¬fF[k].1<r.code):Ah (r::T) k=(eu [88] r++[10])++Ah T k:=by
 conv=>lhs;unfold Ah
 have e:(fF.drop k).takeWhile (λs=>decide (s.1<r.code))=[]:=by
  by_cases a:k<fF.length
  ·rw[jf a,List.takeWhile_cons_of_neg (by simpa using h a)]
  rw[rS (by omega)];rfl
 rw[e];rfl
def abS (s:Nat×Nat×List UInt8):List iE:=[⟨60::s.2.2++sfF,⟨s.1,0,[]⟩,60::s.2.2++sfF,true⟩,⟨60::s.2.2++Ny,⟨s.2.1,0,[]⟩,[],true⟩]
def Yw:List iE:=xtA.map tL++fF.flatMap abS++xtB.map tL
def aaI:og Yw=fo:=by
 unfold og Yw fo;rw[n7,n7,j5,j5];have a:∀T:List aG,((T.map tL).filter λl=>!l.pl).map (·.r)=T:=E_;rw[a,a];have b:((fF.flatMap abS).filter λl=>!l.pl)=[]:=rfl;rw[b];rfl
def IE:Ah fo 0=bA (Yw.map iE.t):=by decide +kernel
def Xa:(bA (Yw.map iE.t)).length<10000:=by decide +kernel
end Go.Cd
section
namespace Go.Cd
def l7 (c:UInt8):∀l:List (List UInt8),Lib.join l [c]=bH c l
 | []=>rfl
 | [p]=>by simp[Lib.join_one,bH]
 | p::q::l=>by
   have a:=l7 c (q::l);rw[Lib.join_cons] at a⊢;show p++Lib.joinTail [c] (q::l)=p++c::bH c (q::l);rw[<-a];simp[Lib.joinTail]
end Go.Cd
namespace Go.Proofs.YtmnimbnojdndmaaGreatDoor
open Go.RowKit Go.Cd Go.Shelf
def Db {w:World} (hG:dL w) (r:aG) (D:Bq r) {m:Value} (hm:bG w m (aM r.map)) :
 Calls Tryz.prog 112 #[.agg #[.int .i32 r.code,.int .i64 r.cls,m]] w λe w'=>e=.returned (.string (tx (eu [88] r)))/\Below w.heap.size w w':=by
 obtain⟨ma,mc,rfl,J,u⟩:=Go.Cd.bG.nN hm rfl;have HX:=aa (λ(W:World) (E:Below w.heap.size w W) (c:Nat) (X:c<1114112)=>vw (hG.mono E) c X)
 have IT:=aa (show ∀W,dL W->Calls Tryz.prog 159 #[.int .i64 r.cls] W λe w'=>e=.returned (.string (tx (iP r.cls)))/\Below W.heap.size W w' from λW h=>by
  have:=Tryz.strconv_Itoa r.cls (by omega) (by have:=D.cls;omega) W h.p10;rw[Fa r.cls (by have:=D.cls;omega)] at this
  exact this.mono λe w' h=>⟨h.1,by obtain⟨k,os,rfl⟩:=h.2;exact zo _ _ _⟩)
 obtain⟨n,Z⟩:=ae r.map.length;rw[<-Z] at J⊢;have aC:n<=2:=by rw[Z];exact D.len
 have HN:=aa Z;have Jc:=aa u;have HR:=aa D;have HG:=aa hG;have al:=D.code;clear hm u Z D hG;obtain⟨l,d⟩:=ae ((w.alloc (.cells #[.int .i32 r.code,.int .i64 r.cls,.slice ma n mc] 196)).alloc (.cells (Array.replicate 15 (.string ⟨#[]⟩)) 9));have T:Below w.heap.size w l:=by rw[d];exact dH _ _
 have L:l.heap.size=w.heap.size+2:=by rw[d];simp
 have k1:Is l w.heap.size #[.int .i32 r.code,.int .i64 r.cls,.slice ma n mc] 196:=by rw[d];exact(Is.new _ _ _).mono (ah _)
 have f1:Is l (w.heap.size+1) (Array.replicate 15 (.string ⟨#[]⟩)) 9:=by rw[d];exact Is.new' _ _ _ _ (by simp)
 have ai:∀W,(Instr.makeSlice 242 (.int .i64 15) (.int .i64 15)).run Tryz.prog W=.ok (.slice (some ⟨W.heap.size,0,none⟩) 15 15) (W.alloc (.cells (Array.replicate 15 (.string ⟨#[]⟩)) 9)):=λ_=>by kernel_rfl
 go_enter Tryz.func112,Tryz.ntmps112;go_upto_region 2 with fail;rw[<-d];clear d ai;have o:=af T (ag l);have k2:=k1.mono (ag l);have f2:=f1.mono (ag l);have g0:=GrB.keeps (B:=w.heap.size+1) (k2.at 0 rfl) (sA _);have g1:=GrB.keeps (B:=w.heap.size+1) (k2.at 1 rfl) (sA _);refine dF (KR.B (w.heap.size+1)) (Array.replicate 15 true) 15 0 mixed ?_;refine bZ [0,1,2,3,4,6,7] 8 ?_
 iterate 7 (refine aA rfl ?_;go_big_quiet_step (rfl))
 refine az ?_;refine bN 5 ?_;clear g0 g1;have ab:l.drew.heap.size=w.heap.size+2:=L;clear k1 f1 L;generalize l.drew=w2 at *;go_wp2_with fail;refine(HX.out _ o _ al).mono ?_;rintro e w3⟨rfl,f⟩;go_wp2_with fail;refine aaa (f.mono (by omega)) ?_;refine bN 8 ?_;go_wp2_with fail;refine(IT.out _ (HG.out.mono (af o f))).mono ?_;rintro e w4⟨rfl,t⟩;go_wp2_with fail;have ao:=f.size;refine aaa (t.mono (by omega)) ?_;have K:=af o (af f t);have k4:=k2.mono (af f t);have f4:=f2.mono (af f t);have Y5:w.heap.size+2<=w4.heap.size:=by have:=(af f t).size;omega
 clear k2 f2 f t ab o IT T ao;have hZ:∀i,i<15->∀W cs,Is W (w.heap.size+1) cs 9->cs.size=15->∃x,W.cell? ⟨w.heap.size+1,i,none⟩=some x:=λi hi W cs h hs=>⟨cs[i],h.at i (rh _)⟩;obtain⟨w5,p⟩:=ae (w4.setCell ⟨w.heap.size+1,0,none⟩ (.string (tx (aV r.code))));obtain⟨w6,q⟩:=ae (w5.setCell ⟨w.heap.size+1,1,none⟩ (.string ⟨#[88]⟩));obtain⟨U,a⟩:=ae (w6.setCell ⟨w.heap.size+1,3,none⟩ (.string (tx (iP r.cls))));have N:=f4.set 0 (.string (tx (aV r.code)));rw[<-p] at N
 replace p:=aa p
 have O:=N.set 1 (.string ⟨#[88]⟩);rw[<-q] at O
 replace q:=aa q
 have f7:=O.set 3 (.string (tx (iP r.cls)));rw[<-a] at f7
 replace a:=aa a
 refine bZ [9] 5 ?_
 iterate 1 (refine aA rfl ?_;go_big_quiet_step (rfl))
 refine az ?_;refine bN 10 ?_;have C:=f4.at 0 rfl;have H:=f4.frozen 0;go_wp2_with fail;rw[<-p.out];refine aaa (by rw[p.out];exact aj (gS _ _) (d' _)) ?_;refine bZ [11] 3 ?_
 iterate 1 (refine aA rfl ?_;go_big_quiet_step (rfl))
 refine az ?_;refine bN 12 ?_;clear C H;have C:=N.at 1 rfl;have H:=N.frozen 1;go_wp2_with fail;rw[<-q.out];refine aaa (by rw[q.out];exact aj (gS _ _) (d' _)) ?_;refine bZ [13] 1 ?_
 iterate 1 (refine aA rfl ?_;go_big_quiet_step (rfl))
 refine az ?_;refine bN 14 ?_;clear C H;have C:=O.at 3 rfl;have H:=O.frozen 3;go_wp2_with fail;rw[<-a.out];refine aaa (by rw[a.out];exact aj (gS _ _) (d' _)) ?_;refine eU [] ?_;refine tail_nil ?_;have jh:Below w.heap.size w U:=by rw[a.out,q.out,p.out];exact aj (aj (aj K (pz _)) (pz _)) (pz _)
 have ay:w.heap.size+2<=U.heap.size:=by rw[a.out,q.out,p.out];simp only[mn];exact Y5
 have k7:Is U w.heap.size #[.int .i32 r.code,.int .i64 r.cls,.slice ma n mc] 196:=by rw[a.out,q.out,p.out];exact((k4.put (by omega) _).put (by omega) _).put (by omega) _
 have F7:=aa f7;clear C H p q a f4 N O f7 k4 K Y5;have G:=k7.at 2 rfl;go_wp2_with fail;clear G k7;go_loopw [4,6,23] (λmv _ iv wr=>∃j:Nat,j<=n/\iv=.int .i64 j/\wr.ownsRow (w.heap.size+2) zw 1 mv j (qM ((r.map.take j).map aV))/\Below (w.heap.size+2) U wr) (λ_ _ iv _=>n-(intOf iv).toNat)
 case atStart=>exact⟨0,ic _,rfl,iS _ _ _ _,gS _ _⟩
 case round=>
  obtain⟨j,hj,rfl,F,I⟩:=hrel;have z:Below w.heap.size w wr:=jh.trans (I.mono (by omega));by_cases aE:j<n
  ·have zj:=eG (show j<n by omega);have v:j<r.map.length:=by have:=HN.out;omega
   obtain⟨b,off,rfl,_,X⟩:=Jc.out j v;have c0:=aB z X;have H1:=aa (HX.out wr z _ (HR.out.map _ (gw v)));have HT:=aa (show qM ((r.map.take (j+1)).map aV)=qM ((r.map.take j).map aV)++[.string (tx (aV r.map[j]))] by rw[gR v,j5,zA];rfl);generalize r.map[j]=c at *;have HO:=aa F;have hs:=I.size;clear X F;go_wp2_with fail;refine H1.out.mono ?_;rintro e w8⟨rfl,A⟩;have o8:=aH HO.out A;have ax:=A.size;clear c0 H1;go_wp2_with (refine f_ (W:=w8) rfl _ _ 242 rfl (w.heap.size+2) zw _ 16 JS u4 j _ rfl o8 (.string (tx (aV c))) rfl rfl (by omega) (by unfold maxLen;omega) w8 (gS _ _) (by omega) ?_;intro v9 s o9 b9 _ _;have am:=aa (show s.ownsRow (w.heap.size+2) zw 1 v9 (j+1) (qM ((r.map.take (j+1)).map aV)) from by rw[HT.out];exact o9);clear o9);go_roundw
   case rel=>exact⟨j+1,by omega,by simp,am.out,I.trans ((A.mono (by omega)).trans b9)⟩
   case measure=>simp[intOf];omega
  have zj:=gI (show n<=j by omega);obtain rfl:j=n:=by omega
  have an:r.map.take j=r.map:=iu (by have:=HN.out;omega);rw[an] at F;have HO:=aa F;obtain⟨mA,mC,rfl,_,_⟩:=ak F;have f8:=F7.out.low (I) (by omega);have F8:=aa f8;have aF:=Go.Cd.n_ HR.out.len
  have J1:=aa (show Calls Tryz.prog 160 #[.slice mA j mC,.string ⟨#[32]⟩] wr λe w'=>e=.returned (.string (tx (dD r.map)))/\Below wr.heap.size wr w' from by
   rcases pB j with hj0|hj0
   ·subst hj0;have au:r.map=[]:=iJ.1 HN.out.symm;rw[au];exact(Tryz.strings_Join_none mA mC ⟨#[32]⟩ wr).mono λe w' h=>⟨h.1,h.2▸gS _ _⟩
   have hs:=(Sl.aU HO.out).any;obtain⟨a',av,hv,ap,u⟩:=bG.out hs;injection hv with ad R aq;subst ad;subst aq;rw[qN,iz] at R ap;obtain⟨b,off,rfl,ac,_⟩:=u 0 (by rw[qN,iz];omega)
   have:=Tryz.strings_Join b off mC (r.map.map λc=>tx (aV c)) ⟨#[32]⟩ wr (λk x hk=>by
    obtain⟨Q,ar⟩:=iR.1 hk;rw[iz] at Q;obtain⟨b',aw,P,_,f⟩:=u k (by rw[qN,iz];exact Q);injection P with P;injection P with P t;subst P;subst t;rw[f,<-ar];simp[qM]) ac (by rw[iz];omega) (by rw[iz];omega) (by
     rw[m5];have y:(r.map.map ((λx:ByteArray=>x.data.toList) ∘ λc=>tx (aV c)))=r.map.map aV:=mL λc _=>dM _;rw[y];show(Lib.join (r.map.map aV) [32]).length<=_
     rw[l7,<-rV];omega)
   rw[m5] at this;have y:(r.map.map ((λx:ByteArray=>x.data.toList) ∘ λc=>tx (aV c)))=r.map.map aV:=mL λc _=>dM _;rw[y,iz,<-R] at this;have G:(⟨(Lib.join (r.map.map aV) (⟨#[32]⟩:ByteArray).data.toList).toArray⟩:ByteArray)=tx (dD r.map):=by
    show tx (Lib.join (r.map.map aV) [32])=_;rw[l7,<-rV]
   rw[G] at this
   exact this)
  clear F f8;have aD:=I.size;go_wp2_with fail;refine J1.out.mono ?_;rintro e w8⟨rfl,A⟩;have V:=F8.out.mono A;have C:=V.at 5 rfl;have H:=V.frozen 5;obtain⟨s,g⟩:=ae (w8.setCell ⟨w.heap.size+1,5,none⟩ (.string (tx (dD r.map))));have Y:=V.set 5 (.string (tx (dD r.map)));rw[<-g] at Y;have kT:Below w.heap.size w s:=by rw[g];exact aj (z.trans (A.mono (by omega))) (pz _)
  have Dw:∀k (x:ByteArray),((gz [88] r).map tx)[k]? = some x->s.cell? ⟨w.heap.size+1,0+k,none⟩=some (.string x):=λk x u=>by
   have hk:k<15:=(iR.1 u).1;rw[k_,Y.cell];have:k=0\/k=1\/k=2\/k=3\/k=4\/k=5\/k=6\/k=7\/k=8\/k=9\/k=10\/k=11\/k=12\/k=13\/k=14:=by omega
   rcases this with rfl|rfl|rfl|rfl|rfl|rfl|rfl|rfl|rfl|rfl|rfl|rfl|rfl|rfl|rfl <;> (cases u;rfl)
  have M:=kU (nm:=[88]) (r:=r) ⟨by simp,by unfold eH;decide⟩ HR.out.cls HR.out.len;have y:((gz [88] r).map tx).map (λx=>x.data.toList)=gz [88] r:=by
   rw[m5];have:(λx:ByteArray=>x.data.toList) ∘ tx=id:=by funext x;exact dM x
   rw[this,te]
  have S:=Tryz.strings_Join (w.heap.size+1) 0 15 ((gz [88] r).map tx) ⟨#[59]⟩ s Dw Y.lt (by simp[gz]) (by simp[gz]) (by
   rw[y];show(Lib.join (gz [88] r) [59]).length<=_;rw[l7]
   exact ia M (by decide))
  rw[y] at S;have G:(⟨(Lib.join (gz [88] r) (⟨#[59]⟩:ByteArray).data.toList).toArray⟩:ByteArray)=tx (eu [88] r):=by
   show tx (Lib.join (gz [88] r) [59])=_;rw[l7];rfl
  rw[G] at S;have S:Hid (Calls Tryz.prog 160 #[.slice (some ⟨w.heap.size+1,0,none⟩) 15 15,.string ⟨#[59]⟩] s λe w'=>e=.returned (.string (tx (eu [88] r)))/\Below s.heap.size s w'):=aa S;have HW:=aa g;clear g Y Dw y G M V;go_wp2_with fail;rw[<-HW.out];refine S.out.mono ?_;rintro e wz⟨rfl,hz⟩;go_wp2;go_ret;exact⟨rfl,af kT hz⟩
end Go.Proofs.YtmnimbnojdndmaaGreatDoor
end
namespace Go.Proofs.YtmnimbnojdndmaaGreatDoor
section
open Go.RowKit Go.Cd Go.Shelf _root_.Go.Proofs.Tryz
section
variable {P : Program} {ops : Array Oper} {Q : Exit -> Act -> World -> Prop} {a : Act} {w w' : World} {rest : List Oper} {o : Oper} {v : Value}
def Dc (b:o.guard=none) (h:(execOp a.eval o).run P w=.ok (.value v) w') (d:wpList P ops Q rest (a.put o.dst v) w'):wpList P ops Q (o::rest) a w:=
 wpList_plain b λK c=>by unfold Oper.wp;rw[h];exact c _ _ d
end
def xq {P:Program} {s:Sem Value} {w w':World} {v:Value} (h:s.run P w=.ok v w'):((do pure (Next.value (<-s))):Sem Next).run P w=.ok (.value v) w':=by
 show(Sem.bind _ _).run P w=_;rw[tt,h];rfl
def pX:Nat->List aG->List (Option Nat×Op×Option (Nat×Bool))
 | _,[]=>[]
 | t,⟨c,k,[]⟩::T=>(some t,.build 196 #[(0,.const (.int .i32 (c:Nat))),(1,.const (.int .i64 (k:Nat)))],none)::pX (t+1) T
 | t,⟨c,k,x::m⟩::T=>(some t,.buildSlice 35 (m.length+1) (((x::m).zipIdx.map λy=>(y.2,.const (.int .i32 (y.1:Nat)))).toArray),none)::
    (some (t+1),.build 196 #[(0,.const (.int .i32 (c:Nat))),(1,.const (.int .i64 (k:Nat))),(2,.tmp t)],none)::pX (t+2) T
def prj (o:Oper):Option Nat×Op×Option (Nat×Bool):=(o.dst,o.op,o.guard)
def l_:Nat->List aG->List (aG×Value)
 | _,[]=>[]
 | n,⟨c,k,[]⟩::T=>(⟨c,k,[]⟩,.slice none 0 0)::l_ n T
 | n,⟨c,k,x::m⟩::T=>(⟨c,k,x::m⟩,.slice (some ⟨n,0,none⟩) (m.length+1) (m.length+1))::l_ (n+1) T
def Ps:Nat->Nat->List aG->Act->Act
 | _,_,[],a=>a
 | t,n,⟨c,k,[]⟩::T,a=>Ps (t+1) n T (a.put (some t) (.agg #[.int .i32 (c:Nat),.int .i64 (k:Nat),.slice none 0 0]))
 | t,n,⟨c,k,x::m⟩::T,a=>Ps (t+2) (n+1) T ((a.put (some t) (.slice (some ⟨n,0,none⟩) (m.length+1) (m.length+1))).put (some (t+1)) (.agg #[.int .i32 (c:Nat),.int .i64 (k:Nat),.slice (some ⟨n,0,none⟩) (m.length+1) (m.length+1)]))
def jG:List aG->World->World
 | [],w=>w
 | ⟨_,_,[]⟩::T,w=>jG T w
 | ⟨_,_,x::m⟩::T,w=>jG T (w.alloc (.cells (aM (x::m)).toArray aN))
def adu (c k:Int) (a:Option Addr) (n m:Nat) (w:World):(Instr.build 196 #[(0,.int .i32 c),(1,.int .i64 k),(2,.slice a n m)]).run prog w=.ok (.agg #[.int .i32 c,.int .i64 k,.slice a n m]) w:=by kernel_rfl
def adv (c k:Int) (w:World):(Instr.build 196 #[(0,.int .i32 c),(1,.int .i64 k)]).run prog w=.ok (.agg #[.int .i32 c,.int .i64 k,.slice none 0 0]) w:=by kernel_rfl
def ak8 (x:Int) (w:World):(Instr.buildSlice 35 1 #[(0,.int .i32 x)]).run prog w=.ok (.slice (some ⟨w.heap.size,0,none⟩) 1 1) (w.alloc (.cells #[.int .i32 x] aN)):=by kernel_rfl
def ak9 (x y:Int) (w:World):(Instr.buildSlice 35 2 #[(0,.int .i32 x),(1,.int .i32 y)]).run prog w=.ok (.slice (some ⟨w.heap.size,0,none⟩) 2 2) (w.alloc (.cells #[.int .i32 x,.int .i32 y] aN)):=by kernel_rfl
def kR:∀(T:List aG) (w:World),Below w.heap.size w (jG T w)
 | [],w=>gS _ _
 | ⟨_,_,[]⟩::T,w=>kR T w
 | ⟨_,_,x::m⟩::T,w=>af (ah _) (kR T _)
def yL:∀(n:Nat) (T:List aG),(l_ n T).map (·.1)=T
 | _,[]=>rfl
 | n,⟨c,k,[]⟩::T=>by simp[l_,yL n T]
 | n,⟨c,k,x::m⟩::T=>by simp[l_,yL (n+1) T]
def Xb (w:World) (a:Array Value) (e:TypeId):Sl e (w.alloc (.cells a e)) (.slice (some ⟨w.heap.size,0,none⟩) a.size a.size) a.toList:=
 ⟨_,a.size,by simp,by simp,.inr ⟨w.heap.size,0,a,(0,0),rfl,heap_alloc_new _ _,λi b=>by
   rw[k_,<-mz];exact gx b⟩⟩
def De:∀(T:List aG) (w:World),∀q∈l_ w.heap.size T,Sl aN (jG T w) q.2 (aM q.1.map)
 | [],w,q,hq=>by simp[l_] at hq
 | ⟨c,k,[]⟩::T,w,q,hq=>by
   rcases jt.1 hq with rfl|hq
   ·exact⟨none,0,rfl,d' _,.inl ⟨rfl,λ_=>rfl⟩⟩
   exact De T w q hq
 | ⟨c,k,x::m⟩::T,w,q,hq=>by
   have h0:(w.alloc (.cells (aM (x::m)).toArray aN)).heap.size=w.heap.size+1:=nh _ _;rcases jt.1 hq with rfl|hq
   ·have:=Xb w (aM (x::m)).toArray aN;have e:(aM (x::m)).toArray.size=m.length+1:=by simp[aM]
    rw[e] at this;exact this.mono (kR T _)
   exact De T (w.alloc (.cells (aM (x::m)).toArray aN)) q (by rw[h0];exact hq)
def IG {a:Act} {t:Nat} {v:Value} (h:t<a.tmps.size):(a.put (some t) v).eval (.tmp t)=v:=by
 show(a.tmps.setIfInBounds t v).getD t undef=v;simp[Array.getD,h]
def mf {a:Act} {t:Nat} {v:Value}:(a.put (some t) v).tmps.size=a.tmps.size:=by
 show(a.tmps.setIfInBounds t v).size=_;simp
def Df:List aG->Nat
 | []=>0
 | ⟨_,_,[]⟩::T=>Df T+1
 | ⟨_,_,_::_⟩::T=>Df T+2
def yM {ops:Array Oper} {Q:Exit->Act->World->Prop} {rest:List Oper}:∀(T:List aG) (t:Nat) (l:List Oper) (a:Act) (w:World),(∀r∈T,r.map.length<=2)->l.map prj=pX t T->t+Df T<=a.tmps.size->
 wpList prog ops Q rest (Ps t w.heap.size T a) (jG T w)->wpList prog ops Q (l++rest) a w
 | [],t,l,a,w,_,b,_,h=>by
   have:l=[]:=List.map_eq_nil_iff.1 b;subst this;exact h
 | ⟨c,k,[]⟩::T,t,l,a,w,hm,b,hs,h=>by
   rcases l with _|⟨o,l⟩
   ·simp[pX] at b
   simp only[pX,lj,oX] at b;obtain⟨f,b⟩:=b;simp only[prj,Prod.mk.injEq] at f;obtain⟨i,g,p⟩:=f;simp only[Df] at hs;refine Dc (v:=.agg #[.int .i32 (c:Nat),.int .i64 (k:Nat),.slice none 0 0]) (w':=w) p ?_ ?_
   ·have e:execOp a.eval o=(do pure (.value (<-Instr.build 196 #[(0,.int .i32 (c:Nat)),(1,.int .i64 (k:Nat))]))):=by simp only[execOp,g,tp,lj,sE,zv,An];rfl
    rw[e];exact xq (adv _ _ _)
   rw[i];exact yM T (t+1) l _ w (λr n=>hm r (by simp[n])) b (by rw[mf];omega) h
 | ⟨c,k,x::m⟩::T,t,l,a,w,hm,b,hs,h=>by
   rcases l with _|⟨o,_|⟨o',l⟩⟩
   ·simp[pX] at b
   ·simp[pX] at b
   simp only[pX,lj,oX] at b;obtain⟨f,d,b⟩:=b;simp only[prj,Prod.mk.injEq] at f d;obtain⟨i,g,p⟩:=f;obtain⟨q,j,s⟩:=d;simp only[Df] at hs;have u:m.length+1<=2:=hm _ nF;refine Dc (v:=.slice (some ⟨w.heap.size,0,none⟩) (m.length+1) (m.length+1)) (w':=w.alloc (.cells (aM (x::m)).toArray aN)) p ?_ ?_
   ·rcases m with _|⟨y,_|⟨z,m⟩⟩
    ·have e:execOp a.eval o=(do pure (.value (<-Instr.buildSlice 35 1 #[(0,.int .i32 (x:Nat))]))):=by simp only[execOp,g,tp,lj,sE,zv,An];rfl
     rw[e];exact xq (ak8 _ _)
    ·have e:execOp a.eval o=(do pure (.value (<-Instr.buildSlice 35 2 #[(0,.int .i32 (x:Nat)),(1,.int .i32 (y:Nat))]))):=by simp only[execOp,g,tp,lj,sE,zv,An];rfl
     rw[e];exact xq (ak9 _ _ _)
    simp at u
   rw[i];refine Dc (v:=.agg #[.int .i32 (c:Nat),.int .i64 (k:Nat),.slice (some ⟨w.heap.size,0,none⟩) (m.length+1) (m.length+1)]) (w':=w.alloc (.cells (aM (x::m)).toArray aN)) s ?_ ?_
   ·have e:execOp (a.put (some t) (.slice (some ⟨w.heap.size,0,none⟩) (m.length+1) (m.length+1))).eval o'=(do pure (.value (<-Instr.build 196 #[(0,.int .i32 (c:Nat)),(1,.int .i64 (k:Nat)),(2,(a.put (some t) (.slice (some ⟨w.heap.size,0,none⟩) (m.length+1) (m.length+1))).eval (.tmp t))]))):=by simp only[execOp,j,tp,lj,sE];rfl
    rw[e,IG (by omega)];exact xq (adu _ _ _ _ _ _)
   rw[q];have:=nh w (.cells (aM (x::m)).toArray aN);refine yM T (t+2) l _ _ (λr n=>hm r (by simp[n])) b (by rw[mf,mf];omega) ?_;rw[this];exact h
def Pt (L:List (aG×Value)):Array (Nat×Value):=(L.zipIdx.map λx=>(x.2,Value.agg (dY x.1).toArray)).toArray
def Xc (n:Nat) (w:World):(Instr.buildSlice 146 121 (Pt (l_ n fo))).run prog w=.ok (.slice (some ⟨w.heap.size,0,none⟩) 121 121) (w.alloc (.cells ((l_ n fo).flatMap dY).toArray h_)):=by kernel_rfl
def slotL:Nat->List aG->List Nat
 | _,[]=>[]
 | t,⟨_,_,[]⟩::T=>t::slotL (t+1) T
 | t,⟨_,_,_::_⟩::T=>(t+1)::slotL (t+2) T
def Xd:List (Nat×Operand):=(slotL 1 fo).zipIdx.map λx=>(x.2,.tmp x.1)
def TA:Act:=⟨(Array.replicate 215 undef).setIfInBounds 0 (.slice none 0 0),[]⟩
def parts_eval (n:Nat):(Xd.map λx=>(x.1,(Ps 1 n fo TA).eval x.2)).toArray=Pt (l_ n fo):=by kernel_rfl
def yN:∀(T:List aG) (t n:Nat) (a:Act),(Ps t n T a).tmps.size=a.tmps.size/\(Ps t n T a).defers=a.defers
 | [],_,_,_=>⟨rfl,rfl⟩
 | ⟨c,k,[]⟩::T,t,n,a=>by
   have:=yN T (t+1) n (a.put (some t) (.agg #[.int .i32 (c:Nat),.int .i64 (k:Nat),.slice none 0 0]));exact⟨this.1.trans mf,this.2⟩
 | ⟨c,k,x::m⟩::T,t,n,a=>by
   have:=yN T (t+2) (n+1) ((a.put (some t) (.slice (some ⟨n,0,none⟩) (m.length+1) (m.length+1))).put (some (t+1)) (.agg #[.int .i32 (c:Nat),.int .i64 (k:Nat),.slice (some ⟨n,0,none⟩) (m.length+1) (m.length+1)]));exact⟨this.1.trans (mf.trans mf),this.2⟩
def II {ops:Array Oper} {Q:Exit->Act->World->Prop} {w:World} (n:(ops.toList.take 213).map prj=pX 1 fo)
 (d:(ops.toList.drop 213).map prj=[(some 214,.buildSlice 146 121 Xd.toArray,none),(some 0,.assign (.tmp 214),none)])
 (h:∀a,a.defers=[]->a.eval (.tmp 0)=.slice (some ⟨(jG fo w).heap.size,0,none⟩) 121 121->Q .normal a ((jG fo w).alloc (.cells ((l_ w.heap.size fo).flatMap dY).toArray h_))) :
 wpList prog ops Q ops.toList TA w:=by
 rw[<-km 213 ops.toList];generalize ops.toList.drop 213=l2 at *;refine yM fo 1 _ _ w (by decide) n (by decide) ?_;rcases l2 with _|⟨o,_|⟨o',_|⟨_,_⟩⟩⟩
 ·simp at d
 ·simp at d
 ·simp only[lj,sE,oX,and_true] at d;obtain⟨m,c⟩:=d;simp only[prj,Prod.mk.injEq] at m c;obtain⟨q,p,s⟩:=m;obtain⟨k,j,i⟩:=c;have b:=yN fo 1 w.heap.size TA;have g:=parts_eval w.heap.size;have f:TA.tmps.size=215:=by decide
  have h0:TA.defers=[]:=rfl;rw[f,h0] at b;generalize Ps 1 w.heap.size fo TA=A at *;have l:=Xc w.heap.size (jG fo w);generalize Pt (l_ w.heap.size fo)=PX at *;generalize ((l_ w.heap.size fo).flatMap dY).toArray=CX at *;generalize jG fo w=W at *;refine Dc (v:=.slice (some ⟨W.heap.size,0,none⟩) 121 121) s (w':=W.alloc (.cells CX h_)) ?_ ?_
  ·have e:execOp A.eval o=(do pure (.value (<-Instr.buildSlice 146 121 PX))):=by
    simp only[execOp,p,tp];rw[<-g]
   rw[e];exact xq l
  rw[q];refine Dc (v:=.slice (some ⟨W.heap.size,0,none⟩) 121 121) i (w':=W.alloc (.cells CX h_)) ?_ ?_
  ·have r:(A.put (some 214) (.slice (some ⟨W.heap.size,0,none⟩) 121 121)).eval (.tmp 214)=_:=IG (by rw[b.1];decide);simp only[execOp,j,r];rfl
  rw[k];exact h _ b.2 (IG (by rw[mf,b.1];decide))
 simp at d
def Pv {w:World} :
 Calls prog 109 #[] w λe w'=>e=.returned (.slice (some ⟨(jG fo w).heap.size,0,none⟩) 121 121)/\w'=(jG fo w).alloc (.cells ((l_ w.heap.size fo).flatMap dY).toArray h_):=by
 go_enter func109,ntmps109;go_upto_region 1 with fail;refine wp_region_list ?_;refine II (by kernel_rfl) (by kernel_rfl) ?_;intro a hd b;go_wp2;refine bodyPost_ret (results_tmp rfl _ _ _) hd ?_;exact⟨congrArg _ b,rfl⟩
end
section
open Go.RowKit Go.Cd Go.Shelf _root_.Go.Proofs.Tryz
def vB:Array Value:=#[.int .i32 44032,.int .i32 55203,.string (tx [72,97,110,103,117,108,32,83,121,108,108,97,98,108,101]),.int .i32 55296,.int .i32 56191,.string (tx [78,111,110,32,80,114,105,118,97,116,101,32,85,115,101,32,72,105,103,104,32,83,117,114,114,111,103,97,116,101]),.int .i32 57344,.int .i32 63743,.string (tx [80,114,105,118,97,116,101,32,85,115,101])]
theorem Xe {w:World}:Calls prog 108 #[] w fun e w'=>e=.returned (.slice (some ⟨w.heap.size,0,none⟩) 3 3)∧w'=w.alloc (.cells vB 198):=by
 go_enter func108,ntmps108;go_wp2;go_ret;exact ⟨rfl,rfl⟩
theorem IJ {w w':World} {b k:Nat} {cs:Array Value} {T:TypeId} (h:Is w k cs T) (ho:Lib.OthersKept 5 (some b) w w') (hk:k≠b) (hT:T≠5):Is w' k cs T:=
 ⟨ho _ _ h.at_ (by simpa using hk) (fun c fz e=>hT (by injection e))⟩
theorem IK {w w':World} {b:Nat} {v:Value} {xs:List Value} {cs:Array Value} {T:TypeId} {e:TypeId} (h:Sl e w v xs) (ho:Lib.OthersKept 5 (some b) w w') (hb:w.heap[b]? = some (.cells cs T (0,0))) (hT:e≠T) (he:e≠5):Sl e w' v xs:=by
 obtain ⟨a,cap,hv,hc,h⟩:=h;refine ⟨a,cap,hv,hc,h.imp id ?_⟩;rintro ⟨b',off,cs',fr,ha,hh,hx⟩;refine ⟨b',off,cs',fr,ha,ho _ _ hh ?_ (fun c fz e1=>he (by injection e1)),hx⟩;intro e1;injection e1 with e1;subst e1;rw [hb] at hh;injection hh with hh;injection hh with _ hh;exact hT hh.symm
structure Xf (w0:World) (L:List (aG×Value)) (sb tb:Nat) (w:World) (out:List UInt8):Prop where
 bui:pW w0.heap.size w0.heap.size out w
 sp:Is w sb vB 198
 tab:Is w tb (L.flatMap dY).toArray h_
 maps:∀q∈L,Sl aN w q.2 (aM q.1.map)
 below:Below w0.heap.size w0 w
section
variable {w0 w w' : World} {L : List (aG × Value)} {sb tb : Nat} {out : List UInt8}
theorem Xf.size (h:Xf w0 L sb tb w out):w0.heap.size<=w.heap.size:=h.below.size
theorem Xf.mono (h:Xf w0 L sb tb w out) (hb:Below w.heap.size w w'):Xf w0 L sb tb w' out:=
 ⟨h.bui.below hb,h.sp.mono hb,h.tab.mono hb,fun q hq=>(h.maps q hq).mono hb,af h.below (hb.mono (d' _))⟩
theorem Xf.write (h:Xf w0 L sb tb w out) (hs:sb≠w0.heap.size) (ht:tb≠w0.heap.size) {s:List UInt8} (hb:pW w0.heap.size w0.heap.size (out++s) w') (hB:Below w0.heap.size w w') (ho:Lib.OthersKept 5 (some w0.heap.size) w w'):Xf w0 L sb tb w' (out++s):=by
 obtain ⟨v,hv⟩:∃v:Array Value,w.heap[w0.heap.size]? = some (.cells v 191 (0,0)):=by
  rcases h.bui with ⟨_,v,hv,_⟩|⟨_,v,hv,_⟩ <;> exact ⟨_,hv⟩
 exact ⟨hb,IJ h.sp ho hs (by decide),IJ h.tab ho ht (by decide),fun q hq=>IK (h.maps q hq) ho hv (by decide) (by decide),h.below.trans hB⟩
end
theorem Dg:∀s∈fF,s.2.2.length<=100:=by decide
theorem aaK:∀k (hk:k<3),vB[k*3]? = some (.int .i32 ((fF[k]'hk).1:Nat))∧vB[k*3+1]? = some (.int .i32 ((fF[k]'hk).2.1:Nat))∧vB[k*3+2]? = some (.string (tx (fF[k]'hk).2.2))∧(fF[k]'hk).1<1114112∧(fF[k]'hk).2.1<1114112∧(fF[k]'hk).2.2.length<=100
 | 0,_=>⟨rfl,rfl,rfl,(by decide:44032<1114112),(by decide:55203<1114112),Dg _ (gw _)⟩
 | 1,_=>⟨rfl,rfl,rfl,(by decide:55296<1114112),(by decide:56191<1114112),Dg _ (gw _)⟩
 | 2,_=>⟨rfl,rfl,rfl,(by decide:57344<1114112),(by decide:63743<1114112),Dg _ (gw _)⟩
def Xg:Value->Nat
 | .slice _ n _=>n
 | _=>0
theorem pW.block {B b:Nat} {l:List UInt8} {w:World} (h:pW B b l w):∃v:Array Value,w.heap[b]? = some (.cells v 191 (0,0)):=by
 rcases h with ⟨_,v,hv,_⟩|⟨_,v,hv,_⟩ <;> exact ⟨_,hv⟩
theorem Mq (c:Nat) (nm e:List UInt8) (h1:nm.length<=100) (h2:e.length<=100):(abh c nm e).length<=300:=by
 have:=(bU c).2;unfold abh;simp only [gn,im,kp];omega
theorem pW.new {w:World}:pW w.heap.size w.heap.size [] (w.alloc (.cells #[.pointer none,.slice none 0 0] 191)):=
 .inl ⟨d' _,.slice none 0 0,heap_alloc_new _ _,World.ownsRowF_of (iS _ _ _ _),by simp [Value.ownBlock]⟩
theorem TD {w:World} (hG:dL w) :
 Calls prog 72 #[] w fun e w'=>e=.returned (.string (tx (Ah fo 0)))∧Below w.heap.size w w':=by
 have Qq:=aa (fun (W:World) (E:Below w.heap.size w W)=>hG.mono E);obtain ⟨w1,hw1⟩:=ae (w.alloc (.cells #[.pointer none,.slice none 0 0] 191));have hb1:=aO hw1;have u1:pW w.heap.size w.heap.size [] w1:=by rw [hw1];exact pW.new
 have hz1:w1.heap.size=w.heap.size+1:=by rw [hw1];simp
 have SP:=aa (Xe (w:=w1));have TB:=aa (fun W=>Pv (w:=W));clear hG;go_enter func72,ntmps72;go_wp2_with fail;rw [<-hw1];clear hw1;refine SP.out.mono ?_;rintro e w2 ⟨rfl,hw2⟩;have hb2:=aO hw2;have s2:Is w2 w1.heap.size vB 198:=by rw [hw2];exact Is.new _ _ _
 have hz2:w2.heap.size=w1.heap.size+1:=by rw [hw2];simp
 clear hw2 SP;go_wp2_with fail;refine (TB.out w2).mono ?_;rintro e w3 ⟨rfl,hw3⟩;obtain ⟨L,hL⟩:=ae (l_ w2.heap.size fo);obtain ⟨tb,htb⟩:=ae ((jG fo w2).heap.size);obtain ⟨sb,hsb⟩:=ae (w.heap.size+1);have hLf:L.map (·.1)=fo:=by rw [hL];exact yL _ _
 have hbw:Below w2.heap.size w2 (jG fo w2):=kR _ _;have hb3:Below w2.heap.size w2 w3:=by rw [hw3];exact af hbw (ah _)
 have X3:Xf w L sb tb w3 []:=by
  refine ⟨(u1.below hb2).below hb3,(show Is w2 sb vB 198 by rw [hsb,<-hz1];exact s2).mono hb3,?_,?_,af hb1 (af hb2 hb3)⟩
  ·rw [hw3,<-hL,htb];exact Is.new _ _ _
  ·intro q hq;have:=De fo w2 q (hL▸hq);rw [hw3];exact this.mono (ah _)
 have htw:tb≠w.heap.size:=by have:=hbw.size;omega
 have hsw:sb≠w.heap.size:=by omega
 rw [<-htb,<-hsb];have adw:Hid (∃tot,tot=Ah fo 0∧tot.length<10000):=aa ⟨_,rfl,by rw [IE];exact Xa⟩;clear hw3 hL htb hsb hbw hb1 hb2 hb3 u1 s2 hz1 hz2 TB;go_wp2_with fail;go_loopw [2,4,8] (fun lv _ jv wr=>∃(j k:Nat) (out:List UInt8) (a:Option Addr),j<=121∧jv=.int .i64 j∧k<=3∧lv=.slice a (3-k) (3-k)∧(k<3->a=some ⟨sb,k*3,none⟩)∧Xf w L sb tb wr out∧out++Ah (fo.drop j) k=Ah fo 0) (fun _ _ jv _=>121-(intOf jv).toNat)
 case atStart=>exact ⟨0,0,[],_,by omega,rfl,by omega,rfl,fun _=>rfl,X3,rfl⟩
 case round=>
  clear X3;obtain ⟨j,k,out,a,hj,rfl,hk,rfl,hka,hX,hout⟩:=hrel;by_cases hjn:j<121
  ·have zj:decide ((j:Int)<121)=true:=by simp;omega
   have hjL:j<L.length:=by have:=congrArg List.length hLf;rw [iz] at this;rw [this];exact hjn
   have hjR:j<fo.length:=hjn;have Qr:L[j].1=fo[j]:=by simp [<-hLf]
   have hfl:=vV dY 3 Bu L j hjL;have e0:=hX.tab.at (j*3) (show (L.flatMap dY).toArray[j*3]? = some (.int .i32 (L[j].1.code:Nat)) by have:=hfl 0 (by decide);simpa [dY] using this);have e1:=hX.tab.at (j*3+1) (show (L.flatMap dY).toArray[j*3+1]? = some (.int .i64 (L[j].1.cls:Nat)) by have:=hfl 1 (by decide);simpa [dY] using this);have e2:=hX.tab.at (j*3+2) (show (L.flatMap dY).toArray[j*3+2]? = some L[j].2 by have:=hfl 2 (by decide);simpa [dY] using this);have hms:=hX.maps _ (gw hjL);rw [Qr] at e0 e1 hms;have hd:fo.drop j=fo[j]::fo.drop (j+1):=jf hjR;have lQ:=QJ _ (gw hjR);rw [hd] at hout;generalize fo[j]=r at *;obtain ⟨ma,mc,hmv,_,_⟩:=id hms;rw [hmv] at e2 hms;obtain ⟨ml,kz⟩:=ae ((aM r.map).length);rw [<-kz] at e2 hms;have Uy:=aa hms;clear hfl hd Qr hmv kz hms;have hro:Bq r:=⟨lQ.1.1,lQ.2.1,lQ.2.2.1,fun c hc=>((lQ.2.2.2.2 c hc).2).1⟩;have HRO:=aa hro;obtain ⟨w4,hw4⟩:=ae (wr.alloc (.cells #[.int .i32 (r.code:Nat),.int .i64 (r.cls:Nat),.slice ma ml mc] h_));have hb4:=aO hw4;have p4:=Is.nw hw4;have X4:=hX.mono hb4
   have hrw:wr.heap.size≠w.heap.size:=by have:=hX.bui;have:w.heap.size<wr.heap.size:=by rcases this with ⟨_,v,hv,_⟩|⟨_,v,hv,_⟩ <;> exact block_lt hv
                                         omega
   have agP:=aa (Uy.out.mono hb4);have hcode:=hro.code;clear lQ hro hX Uy;go_wp2_with fail;rw [<-hw4];obtain ⟨rb,hrb⟩:=ae wr.heap.size;rw [<-hrb] at p4 hrw ⊢;clear hw4 e0 e1 e2 hb4 hrb;go_loopw [2] (fun lv w5=>∃(k:Nat) (out:List UInt8) (a:Option Addr),k<=3∧lv=.slice a (3-k) (3-k)∧(k<3->a=some ⟨sb,k*3,none⟩)∧Xf w L sb tb w5 out∧out++Ah (r::fo.drop (j+1)) k=Ah fo 0∧Is w5 rb #[.int .i32 (r.code:Nat),.int .i64 (r.cls:Nat),.slice ma ml mc] h_∧Sl aN w5 (.slice ma ml mc) (aM r.map)) (fun lv _=>Xg lv)
   case atStart=>exact ⟨k,out,a,hk,rfl,hka,X4,hout,p4,agP.out⟩
   case round=>
    clear X4 p4 agP hout hka hk;obtain ⟨k,out,a,hk,rfl,hka,hX,hout,p5,hms⟩:=hrel;have TE:=aa hms;clear hms;have f0:=p5.at 0 rfl;have f1:=p5.at 1 rfl;have f2:=p5.at 2 rfl;by_cases hk3:k<3
    ·obtain rfl:=hka hk3;obtain ⟨s0,s1,s2,q1,q2,q3⟩:=aaK k hk3;have c0:=hX.sp.at _ s0;have c1:=hX.sp.at _ s1;have c2:=hX.sp.at _ s2;have zn:decide ((0:Int)<((3-k:Nat):Int))=true:=by simp;omega
     have hn1:1<=3-k:=by omega
     have hsp:=W_ (r:=r) (T:=fo.drop (j+1)) (k:=k) hk3;have hrow:=QL (r:=r) (T:=fo.drop (j+1)) (k:=k);obtain ⟨sp,adx⟩:=ae (fF[k]);have hrow':¬sp.1<r.code->Ah (r::fo.drop (j+1)) k=(eu [88] r++[10])++Ah (fo.drop (j+1)) k:=fun h=>hrow (fun _=>adx▸h);rw [<-adx] at c0 c1 c2 q1 q2 q3 hsp;clear s0 s1 s2 adx hrow;by_cases hlt:sp.1<r.code
     ·have zc:decide ((sp.1:Int)<(r.code:Int))=true:=by simp;omega
      obtain ⟨n,hn⟩:=ae (3-k);rw [<-hn] at zn hn1 ⊢;have HN:=aa hn;have zn2:decide (0<n)=true:=by simp;omega
      clear hn;go_upto_region 6 with fail;have g0:=Gr.cell (ag wr) c0;have g1:=Gr.cell (ag wr) f0;refine aC (Array.replicate 12 true) 12 0 mixed ?_;refine ay [0,1,2,3,4,5,6,7,8,9,10,11] 0 ?_
      iterate 12 (refine aA rfl ?_;go_big_quiet_step (rfl))
      refine az ?_;refine aJ [] ?_;refine tail_nil ?_;clear g0 g1;have X5:=hX.mono (ag wr);have p6:=p5.mono (ag wr);have Mr:=aa (TE.out.mono (ag wr));have g0:=Gr.cell (ag wr.drew) (aB (ag wr) c0);have g1:=Gr.cell (ag wr.drew) (aB (ag wr) c1);have g2:=Gr.cell (ag wr.drew) (aB (ag wr) c2);clear hX p5 TE c0 c1 c2 f0 f1 f2;generalize wr.drew=w5 at *;go_upto_region 7 with fail;have SL:Hid (∀(W:World),Below w.heap.size w W->Calls prog 111 #[.agg #[.int .i32 (sp.1:Nat),.int .i32 (sp.2.1:Nat),.string (tx sp.2.2)],.int .i32 (sp.1:Nat),.string ⟨#[70,105,114,115,116]⟩] W fun e' w'=>e'=.returned (.string (tx (abh sp.1 sp.2.2 [70,105,114,115,116])))∧Below W.heap.size W w'):=
       aa fun W E=>zW (Qq.out W E) sp.1 q1 _ _ sp.2.2 [70,105,114,115,116] q3 (by decide)
      have SM:Hid (∀(W:World),Below w.heap.size w W->Calls prog 111 #[.agg #[.int .i32 (sp.1:Nat),.int .i32 (sp.2.1:Nat),.string (tx sp.2.2)],.int .i32 (sp.2.1:Nat),.string ⟨#[76,97,115,116]⟩] W fun e' w'=>e'=.returned (.string (tx (abh sp.2.1 sp.2.2 [76,97,115,116])))∧Below W.heap.size W w'):=
       aa fun W E=>zW (Qq.out W E) sp.2.1 q2 _ _ sp.2.2 [76,97,115,116] q3 (by decide)
      have hl1:(tx (abh sp.1 sp.2.2 [70,105,114,115,116])).size<=300:=by rw [aX];exact Mq _ _ _ q3 (by decide)
      have hl2:(tx (abh sp.2.1 sp.2.2 [76,97,115,116])).size<=300:=by rw [aX];exact Mq _ _ _ q3 (by decide)
      have HST:=aa (show tx (abh sp.1 sp.2.2 [70,105,114,115,116])++tx (abh sp.2.1 sp.2.2 [76,97,115,116])=tx (Gi sp) by rw [dA];rfl);generalize tx (abh sp.1 sp.2.2 [70,105,114,115,116])=t1 at *;generalize tx (abh sp.2.1 sp.2.2 [76,97,115,116])=t2 at *;have hlo:out.length+(Gi sp).length<=1000000:=by
       obtain ⟨tot,h1,h2⟩:=adw.out;rw [hsp hlt,<-h1] at hout;have:=congrArg List.length hout;simp only [gn] at this;omega
      refine aC #[true,true,true,true,true,true,true,true,true,true,true,true,true,true,true,true,true,false] 17 1 mixed ?_;refine ay [0,1,2,3,4,5,6,8,9,10,11,12,13,14] 3 ?_
      iterate 14 (refine aA rfl ?_;go_big_quiet_step (rfl))
      refine az ?_;refine aI 7 ?_;clear g0 g1 g2;have X6:=X5.mono (ag w5);have p7:=p6.mono (ag w5);have agQ:=aa (Mr.out.mono (ag w5));clear X5 p6 Mr;generalize w5.drew=w6 at *;go_wp2_with fail;refine (SL.out _ X6.below).mono ?_;rintro e w7 ⟨rfl,h7⟩;go_wp2_with fail;refine aF h7 ?_;refine aI 15 ?_;go_wp2_with fail;refine (SM.out _ (X6.mono h7).below).mono ?_;rintro e w8 ⟨rfl,h8⟩;go_wp2_with fail;refine aF h8 ?_;refine ay [16] 0 ?_
      iterate 1 (refine aA rfl ?_;go_big_quiet_step (rfl))
      refine az ?_;refine aJ [17] ?_;refine uO (os:=[_]) rfl ?_;have X8:=X6.mono (af h7 h8);have p8:=p7.mono (af h7 h8);have agR:=aa (agQ.out.mono (af h7 h8));have WS:=aa (jb X8.bui (Gi sp) hlo X8.size);rw [<-HST.out] at WS;go_wp2_with fail;refine WS.out.mono ?_;rintro e w9 ⟨rfl,kT,o_,TF⟩;obtain ⟨bv,hbv⟩:=X8.bui.block;have X9:=X8.write hsw htw kT o_ TF;have p9:=IJ p8 TF hrw (by decide);have agS:=aa (IK agR.out TF hbv (by decide) (by decide));clear X6 p7 agQ h7 h8 X8 p8 agR kT o_ TF hbv WS SL SM;go_wp2_with fail;refine uP ?_;have Gj:=aa (show (out++Gi sp)++Ah (r::fo.drop (j+1)) (k+1)=Ah fo 0 from by rw [kl,<-hsp hlt];exact hout);have hk9:=aa (show 3-(k+1)=n-1 by have:=HN.out;omega);clear hout hsp hrow' hlo;by_cases hn1':n=1
      ·subst hn1';go_wp2;go_roundw
       case rel=>exact ⟨k+1,_,_,by omega,by rw [hk9.out],fun h=>absurd HN.out (by omega),X9,Gj.out,p9,agS.out⟩
       case measure=>simp [Xg]
      ·have hz:¬n-1=0:=by omega
       go_wp2;go_roundw
       case rel=>exact ⟨k+1,_,_,by omega,by rw [hk9.out],fun h=>by rw [mw],X9,Gj.out,p9,agS.out⟩
       case measure=>simp [Xg];omega
     ·have zc:decide ((sp.1:Int)<(r.code:Int))=false:=by simp;omega
      have Dh:=hrow' hlt;obtain ⟨n,hn⟩:=ae (3-k);rw [<-hn] at zn hn1 ⊢;have zn2:decide (0<n)=true:=by simp;omega
      have g0:=Gr.cell (ag wr) c0;have g1:=Gr.cell (ag wr) f0;have HN:=aa hn;clear hn;go_upto_region 6 with fail;refine aC (Array.replicate 12 true) 12 0 mixed ?_;refine ay [0,1,2,3,4,5,6,7,8,9,10,11] 0 ?_
      iterate 12 (refine aA rfl ?_;go_big_quiet_step (rfl))
      refine az ?_;refine aJ [] ?_;refine tail_nil ?_;clear g0 g1 c0 c1 c2 hsp hrow';have X5:=hX.mono (ag wr);have p6:=p5.mono (ag wr);have Mr:=aa (TE.out.mono (ag wr));clear hX p5 TE f0 f1 f2;generalize wr.drew=w5 at *;have RL:=aa (Db (Qq.out _ X5.below) r HRO.out Mr.out.any);have HT:=aa (show tx (eu [88] r)++(⟨#[10]⟩:ByteArray)=tx (eu [88] r++[10]) from dA _ [10]);have hll:=kU (nm:=[88]) (r:=r) ⟨by simp,by unfold eH;decide⟩ HRO.out.cls HRO.out.len;have hl1:(tx (eu [88] r)).size<=100:=by rw [aX];exact hll
      have hl2:(⟨#[10]⟩:ByteArray).size=1:=rfl;generalize tx (eu [88] r)=t1 at *;have hlo:out.length+(eu [88] r++[10]).length<=1000000:=by
       obtain ⟨tot,h1,h2⟩:=adw.out;rw [Dh,<-h1] at hout;have:=congrArg List.length hout;simp only [gn] at this;rw [gn];omega
      have Gj:=aa (show (out++(eu [88] r++[10]))++Ah (fo.drop (j+1)) k=Ah fo 0 from by rw [kl,<-Dh];exact hout);have f0:=p6.at 0 rfl;have f1:=p6.at 1 rfl;have f2:=p6.at 2 rfl;clear hout Dh;go_wp2_with fail;refine RL.out.mono ?_;rintro e w7 ⟨rfl,h7⟩;have X7:=X5.mono h7;have WS:=aa (jb X7.bui (eu [88] r++[10]) hlo X7.size);rw [<-HT.out] at WS;clear X5 p6 Mr f0 f1 f2 RL h7;go_wp2_with fail;refine WS.out.mono ?_;rintro e w9 ⟨rfl,kT,o_,TF⟩;have X9:=X7.write hsw htw kT o_ TF;clear WS X7 kT o_ TF;go_wp2;go_roundw
      case rel=>exact ⟨j+1,k,_,_,by omega,by simp,hk,by rw [HN.out],fun _=>rfl,X9,Gj.out⟩
      case measure=>simp [intOf];omega
    ·have hk0:k=3:=by omega
     subst hk0;have Dh:=QL (r:=r) (T:=fo.drop (j+1)) (k:=3) (fun h=>absurd h (by decide));have z33:(3-3:Nat)=0:=rfl;have zz:decide ((0:Int)<((0:Nat):Int))=false:=by decide
     rw [z33];clear hka;go_upto_region 6 with fail;refine aC (Array.replicate 12 true) 12 0 mixed ?_;refine ay [0,1,2,3,4,5,6,7,8,9,10,11] 0 ?_;refine bC ?_
     iterate 12 (refine aZ rfl ?_)
     refine bD ?_
     iterate 12 (go_big_quiet_step (rfl))
     refine az ?_;refine aJ [] ?_;refine tail_nil ?_;have X5:=hX.mono (ag wr);have p6:=p5.mono (ag wr);have Mr:=aa (TE.out.mono (ag wr));clear hX p5 TE f0 f1 f2;generalize wr.drew=w5 at *;have RL:=aa (Db (Qq.out _ X5.below) r HRO.out Mr.out.any);have HT:=aa (show tx (eu [88] r)++(⟨#[10]⟩:ByteArray)=tx (eu [88] r++[10]) from dA _ [10]);have hll:=kU (nm:=[88]) (r:=r) ⟨by simp,by unfold eH;decide⟩ HRO.out.cls HRO.out.len;have hl1:(tx (eu [88] r)).size<=100:=by rw [aX];exact hll
     have hl2:(⟨#[10]⟩:ByteArray).size=1:=rfl;generalize tx (eu [88] r)=t1 at *;have hlo:out.length+(eu [88] r++[10]).length<=1000000:=by
      obtain ⟨tot,h1,h2⟩:=adw.out;rw [Dh,<-h1] at hout;have:=congrArg List.length hout;simp only [gn] at this;rw [gn];omega
     have Gj:=aa (show (out++(eu [88] r++[10]))++Ah (fo.drop (j+1)) 3=Ah fo 0 from by rw [kl,<-Dh];exact hout);have f0:=p6.at 0 rfl;have f1:=p6.at 1 rfl;have f2:=p6.at 2 rfl;clear hout Dh;go_wp2_with fail;refine RL.out.mono ?_;rintro e w7 ⟨rfl,h7⟩;have X7:=X5.mono h7;have WS:=aa (jb X7.bui (eu [88] r++[10]) hlo X7.size);rw [<-HT.out] at WS;clear X5 p6 Mr f0 f1 f2 RL h7;go_wp2_with fail;refine WS.out.mono ?_;rintro e w9 ⟨rfl,kT,o_,TF⟩;have X9:=X7.write hsw htw kT o_ TF;clear WS X7 kT o_ TF;go_wp2;go_roundw
     case rel=>exact ⟨j+1,3,_,_,by omega,by simp,by omega,rfl,fun h=>absurd h (by decide),X9,Gj.out⟩
     case measure=>simp [intOf];omega
  ·have zj:decide ((j:Int)<121)=false:=by simp;omega
   obtain rfl:j=121:=by omega
   have hd:fo.drop 121=[]:=rS (by decide);rw [hd] at hout;have hout:out=Ah fo 0:=by rw [<-hout];simp [Ah]
   have hne:out≠[]:=by rw [hout,IE];decide +kernel
   have ST:=aa (Da hX.bui hne);have HO:=aa hout;have hbx:=hX.below;clear hout hne hd hX;go_wp2_with fail;refine ST.out.mono ?_;rintro e w9 ⟨rfl,o_⟩;go_wp2;go_ret;exact ⟨by rw [<-HO.out];rfl,hbx.trans o_⟩
end
end Go.Proofs.YtmnimbnojdndmaaGreatDoor
