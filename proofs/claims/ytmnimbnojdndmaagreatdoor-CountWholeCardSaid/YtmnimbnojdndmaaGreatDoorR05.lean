/- One machine of an NFD counts as its units do, multiplied; no condition. -/
import Derived.Test.YtmnimbnojdndmaaGreatDoorR04
import Derived.Lib.AppendZerosOnto
set_option maxRecDepth 100000
set_option maxHeartbeats 6400000
set_option linter.all false
namespace Go.Proofs.YtmnimbnojdndmaaGreatDoor
open Go.RowKit Go.Cd _root_.Go.Proofs.Tryz
def gK (c:Nat):List Nat:=if hk c=1 then (List.range 588).map λi=>44032+(c-4352)*588+i else []
def JD {w:World} (c:Nat) (v:c<1114112) :
 Calls prog 95 #[.int .i32 c] w λe w'=>∃r,e=.returned r/\w'.ownsRow w.heap.size aN 1 r (gK c).length (aM (gK c))/\Below w.heap.size w w':=by
 have d:=aa (rQ (w:=w) c v);by_cases b:hk c=1
 ·have E:gK c=(List.range 588).map λi=>44032+(c-4352)*588+i:=by unfold gK;rw[if_pos b]
  have u:=UM.1 b;rw[b] at d;obtain⟨l,rfl⟩:∃l,c=4352+l:=⟨c-4352,by omega⟩;rw[Nat.add_sub_cancel_left] at E;have:l<19:=by omega
  obtain⟨B,g⟩:=ae (gK (4352+l));have q:=aa (g.trans E);rw[<-g];clear b u E g;go_enter func95,ntmps95;go_wp2_with fail;refine d.out.mono ?_;rintro e w'⟨rfl,rfl⟩;clear d;go_wp2_with fail;go_loopw [3,8] (λo m wr=>∃j:Nat,j<=588/\m=.int .i32 j/\wr.ownsRow w'.heap.size aN 1 o j (aM ((List.range j).map λi=>44032+l*588+i))/\Below w'.heap.size w' wr) (λ_ m _=>588-(intOf m).toNat)
  case atStart=>exact⟨0,by decide,rfl,World.ownsRow_nil _ _ _ _,Below.refl _ _⟩
  case round=>
   obtain⟨j,C,rfl,p,n⟩:=hrel;by_cases t:j<588
   ·have s:=aa (show aM ((List.range (j+1)).map λi=>44032+l*588+i)=aM ((List.range j).map λi=>44032+l*588+i)++[.int .i32 (44032+l*588+j:Nat)] by
     rw[List.range_succ,List.map_append,a_];rfl)
    have x:=aa (show(44032:Int)+(4352+(l:Int)-4352)*588+j=((44032+l*588+j:Nat):Int) by omega);go_wp2_with (at_builtin;refine f_ rfl _ _ 35 rfl w'.heap.size aN _ 4 bW _ j _ rfl p _ rfl rfl (by omega) (by unfold maxLen;omega) w' n (Nat.le_refl _) ?_;intro v' z a h _ _);go_roundw
    case rel=>exact⟨j+1,by omega,rfl,by rw[s.out,<-x.out];exact a,h⟩
    case measure=>simp[intOf];omega
   obtain rfl:j=588:=by omega
   go_wp2;go_ret;exact⟨_,rfl,by rw[q.out,List.length_map,List.length_range];exact p,n⟩
 have E:gK c=[]:=by unfold gK;rw[if_neg b]
 obtain⟨k,f⟩:=ae (hk c);have:((k:Int)==1)=false:=by simp;omega
 rw[<-f] at d;rw[E];clear E b f;go_enter func95,ntmps95;go_wp2_with fail;refine d.out.mono ?_;rintro e w'⟨rfl,rfl⟩;go_wp2;go_ret;exact⟨_,rfl,World.ownsRow_nil _ _ _ _,Below.refl _ _⟩
def ints (l:List Nat):List Value:=l.map λd:Nat=>Value.int .i64 d
@[simp] theorem ek (l:List Nat):(ints l).length=l.length:=by simp[ints]
def Nk {j k:Nat} (e:j<19) (c:k<21):hparts (44032+588*j+28*k)=[4352+j,4449+k]:=by
 have a:hk (44032+588*j+28*k)=4:=oQ.2 ⟨by omega,by omega,by omega⟩;unfold hparts;rw[if_pos a];have b:(44032+588*j+28*k-44032) / 588=j:=by omega
 have d:(44032+588*j+28*k-44032) % 588 / 28=k:=by omega
 rw[b,d]
def GJ {j k t:Nat} (f:j<19) (c:k<21) (h0:0<t) (g:t<28):hparts (44032+588*j+28*k+t)=[4352+j,4449+k,4519+t]:=by
 have e:hk (44032+588*j+28*k+t)=5:=kI.2 ⟨by omega,by omega,by omega⟩;unfold hparts;rw[if_neg (by omega),if_pos e];have b:(44032+588*j+28*k+t-44032) / 588=j:=by omega
 have d:(44032+588*j+28*k+t-44032) % 588 / 28=k:=by omega
 have a:(44032+588*j+28*k+t-44032) % 28=t:=by omega
 rw[b,d,a]
def y5 {c:Nat} (h:c<44032\/55204<=c):hparts c=[]:=by
 refine iC.2 ?_;rcases Nat.lt_or_ge (hk c) 4 with h'|h'
 ·exact h'
 have:=UL.1 h';omega
def tH {w:World} (c:Nat) (u:c<1114112) :
 Calls prog 86 #[.int .i64 c] w λe w'=>∃r,e=.returned r/\w'.ownsRow w.heap.size bB 1 r (hparts c).length (ints (hparts c))/\Below w.heap.size w w':=by
 obtain⟨P,d⟩:=ae (hparts c);have b:=aa d;rw[<-d];clear d;go_enter func86,ntmps86;go_wp2_with fail;go_loopw [3,4] (λnv f wr=>∃j:Nat,j<=19/\nv=.int .i64 (44032+588*j:Nat)/\f=.int .i64 (4352+j:Nat)/\(0<j->44032+588*j<=c)/\wr=w) (λ_ f _=>4371-(intOf f).toNat)
 case atStart=>exact⟨0,by decide,rfl,rfl,λh=>absurd h (by decide),rfl⟩
 case round=>
  obtain⟨j,s,rfl,rfl,m,rfl⟩:=hrel;by_cases a:j<19
  ·by_cases v:44032+588*j+588<=c
   ·go_wp2;go_roundw
    case rel=>exact⟨j+1,by omega,congrArg (Value.int .i64) (by omega),congrArg (Value.int .i64) (by omega),λ_=>by omega,trivial⟩
    case measure=>simp[intOf];omega
   go_wp2_with fail;go_loopw [3,5] (λnv vv p=>∃k:Nat,k<21/\nv=.int .i64 (44032+588*j+28*k:Nat)/\vv=.int .i64 (4449+k:Nat)/\(0<k->44032+588*j+28*k<=c)/\p=wr) (λ_ vv _=>4470-(intOf vv).toNat)
   case atStart=>exact⟨0,by decide,rfl,rfl,λh=>absurd h (by decide),rfl⟩
   case round=>
    obtain⟨k,g,rfl,rfl,n,rfl⟩:=hrel;by_cases q:44032+588*j+28*k+28<=c
    ·go_wp2;go_roundw
     case rel=>exact⟨k+1,by omega,congrArg (Value.int .i64) (by omega),congrArg (Value.int .i64) (by omega),λ_=>by omega,trivial⟩
     case measure=>simp[intOf];omega
    rcases Nat.lt_trichotomy c (44032+588*j+28*k) with h7|h7|h7
    ·have i:=y5 (c:=c) (.inl (by omega));have E:=b.out.trans i;subst E;have z:((c:Int)==((44032+588*j+28*k:Nat):Int))=false:=by simp;omega
     clear i;go_wp2;go_ret;exact⟨_,rfl,World.ownsRow_nil _ _ _ _,Below.refl _ _⟩
    ·subst h7;have E:=b.out.trans (Nk a g);subst E;go_wp2;go_ret;exact⟨_,rfl,mU _ #[.int .i64 (4352+j:Nat),.int .i64 (4449+k:Nat)] bB 2 rfl (by decide),ah _⟩
    obtain⟨t,rfl⟩:∃t,c=44032+588*j+28*k+t:=⟨c-(44032+588*j+28*k),by omega⟩;have E:=b.out.trans (GJ a g (t:=t) (by omega) (by omega));subst E;have z:(((44032+588*j+28*k+t:Nat):Int)==((44032+588*j+28*k:Nat):Int))=false:=by simp;omega
    go_wp2;go_ret;refine⟨_,rfl,?_,ah _⟩;have o:=mU wr #[.int .i64 (4352+j:Nat),.int .i64 (4449+k:Nat),.int .i64 (4519+t:Nat)] bB 3 rfl (by decide);rw[show((4519+t:Nat):Int)=4519+(44032+588*(j:Int)+28*k+t)-(44032+588*j+28*k) by omega] at o;have l:ints [4352+j,4449+k,4519+t]=(#[Value.int .i64 (4352+j:Nat),.int .i64 (4449+k:Nat),.int .i64 (4519+(44032+588*(j:Int)+28*k+t)-(44032+588*j+28*k))]:Array Value).toList:=by
     rw[show 4519+(44032+588*(j:Int)+28*k+t)-(44032+588*j+28*k)=((4519+t:Nat):Int) by omega];rfl
    rw[l];exact o
  obtain rfl:j=19:=by omega
  have E:=b.out.trans (y5 (c:=c) (.inr (by omega)));subst E;go_wp2;go_ret;exact⟨_,rfl,World.ownsRow_nil _ _ _ _,Below.refl _ _⟩
end Go.Proofs.YtmnimbnojdndmaaGreatDoor
namespace Go.Cd
variable {M:Nat->List Nat} {c:Nat}
structure aG where
 code:Nat
 cls:Nat
 map:List Nat
deriving DecidableEq
def rowOf (T:List aG) (c:Nat):Option aG:=T.find? λr=>r.code==c
def ai (T:List aG) (c:Nat):Nat:=match rowOf T c with|some r=>r.cls|none=>0
def bP (T:List aG) (c:Nat):List Nat:=match rowOf T c with|some r=>r.map|none=>[]
def mapOf (T:List aG) (c:Nat):List Nat:=if hk c<4 then bP T c else dI c
def iD (M:Nat->List Nat):Nat->Nat->List Nat
 | 0,c=>[c]
 | n+1,c=>if M c=[] then [c] else (M c).flatMap (iD M n)
def dm (M:Nat->List Nat) (l:List Nat):List Nat:=l.flatMap λc=>if M c=[] then [c] else M c
def tJ (M:Nat->List Nat) (l:List Nat):Prop:=∀x∈l,M x=[]
def iK (h:M c=[]):∀n,iD M n c=[c]
 | 0=>rfl
 | n+1=>by unfold iD;rw[if_pos h]
def EJ (h:¬M c=[]) (n:Nat):iD M (n+1) c=(M c).flatMap (iD M n):=by
 conv=>lhs;unfold iD
 rw[if_neg h]
def Q8 (M:Nat->List Nat) (n:Nat) (l:List Nat):l.flatMap (iD M (n+1))=(dm M l).flatMap (iD M n):=by
 unfold dm;rw[List.flatMap_assoc];congr 1;funext c;by_cases h:M c=[]
 ·rw[if_pos h,iK h,List.flatMap_singleton,iK h]
 rw[if_neg h,EJ h]
def qF {M:Nat->List Nat}:∀{l:List Nat},tJ M l->dm M l=l
 | [],_=>rfl
 | c::l,h=>by
   unfold dm;rw[List.flatMap_cons,if_pos (h c (by simp))];have:=qF (M:=M) (l:=l) (λx a=>h x (by simp[a]));unfold dm at this;rw[this];rfl
def EM (M:Nat->List Nat):∀l:List Nat,l.length<=(dm M l).length
 | []=>Nat.le_refl _
 | c::l=>by
   have a:=EM M l;unfold dm at a⊢;rw[List.flatMap_cons,List.length_append,List.length_cons];have:1<=(if M c=[] then [c] else M c).length:=by
    split
    ·simp
    rename_i h;exact List.length_pos_iff.2 h
   omega
def steps (M:Nat->List Nat):Nat->List Nat->List Nat
 | 0,l=>l
 | n+1,l=>steps M n (dm M l)
def A_ (M:Nat->List Nat):∀(n:Nat) (l:List Nat),steps M n l=l.flatMap (iD M n)
 | 0,l=>by
   show l=_;have:iD M 0=λc=>[c]:=rfl;rw[this]
   induction l with
   | nil=>rfl
   | cons c l ih=>rw[List.flatMap_cons,<-ih];rfl
 | n+1,l=>by
   show steps M n (dm M l)=_;rw[A_ M n,Q8]
def uz (M:Nat->List Nat):∀(n:Nat) (l:List Nat),steps M (n+1) l=dm M (steps M n l)
 | 0,_=>rfl
 | n+1,l=>uz M n (dm M l)
def y7 {l:List Nat} (h:tJ M l):∀n,steps M n l=l
 | 0=>rfl
 | n+1=>by show steps M n (dm M l)=l;rw[qF h];exact y7 h n
def xU (M:Nat->List Nat):∀(n m:Nat) (l:List Nat),steps M (n+m) l=steps M m (steps M n l)
 | 0,m,l=>by rw[Nat.zero_add];rfl
 | n+1,m,l=>by rw[Nat.add_right_comm];exact xU M n m (dm M l)
def xV (M:Nat->List Nat):∀(n:Nat) (l:List Nat),l.length<=(steps M n l).length
 | 0,_=>Nat.le_refl _
 | n+1,l=>Nat.le_trans (EM M l) (xV M n (dm M l))
def aD (T:List aG) (c:Nat):List Nat:=iD (mapOf T) (T.length+3) c
def fQ (T:List aG) (c:Nat):Prop:=tJ (mapOf T) (aD T c)/\(aD T c).length<=32
def jo (T:List aG) (c:Nat):aD T c=steps (mapOf T) (T.length+3) [c]:=by
 unfold aD;rw[A_];simp
def GK {T:List aG} {k:Nat} (a:k<=T.length+3) (h:tJ (mapOf T) (steps (mapOf T) k [c])):aD T c=steps (mapOf T) k [c]:=by
 rw[jo,show T.length+3=k+(T.length+3-k) by omega,xU,y7 h]
end Go.Cd
namespace Go.Proofs.YtmnimbnojdndmaaGreatDoor
open Go.RowKit Go.Cd _root_.Go.Proofs.Tryz
variable {w w':World} {v:Value} {T:List aG} {X:List Nat} {c:Nat}
def y8 (w:World) (v:Value) (T:List aG):Prop:=
 ∃a cap,v=.slice a T.length cap/\T.length<=cap/\∀i (c:i<T.length),∃b off m,a=some ⟨b,off,none⟩/\b<w.heap.size/\
  w.cell? ⟨b,off+i*3,none⟩=some (.int .i64 T[i].code)/\w.cell? ⟨b,off+i*3+1,none⟩=some (.int .i64 T[i].cls)/\w.cell? ⟨b,off+i*3+2,none⟩=some m/\bG w m (ints T[i].map)
def y8.mono (h:y8 w v T) (c:Below w.heap.size w w'):y8 w' v T:=by
 obtain⟨a,cap,k,o,h⟩:=h;refine⟨a,cap,k,o,λi f=>?_⟩;obtain⟨b,off,m,j,d,n,e,g,l⟩:=h i f;exact⟨b,off,m,j,Nat.lt_of_lt_of_le d c.size,aB c n,aB c e,aB c g,l.mono c⟩
def jq (w:World) (v:Value) (T:List aG) (X:List Nat):Prop:=∃r x,v=.agg #[r,x]/\y8 w r T/\bG w x (ints X)
def jq.mono (h:jq w v T X) (a:Below w.heap.size w w'):jq w' v T X:=by
 obtain⟨r,x,b,c,d⟩:=h;exact⟨r,x,b,c.mono a,d.mono a⟩
def oV (h:∀r∈T,r.code≠c):rowOf T c=none:=List.find?_eq_none.2 λr a=>by simpa using h r a
def Ba {i:Nat} (d:i<T.length) (h:∀r∈T.take i,r.code≠c) (a:T[i].code=c):rowOf T c=some T[i]:=by
 unfold rowOf;rw[List.find?_eq_some_iff_append];refine⟨by simpa using a,T.take i,T.drop (i+1),?_,λr b=>by simpa using h r b⟩;rw[List.getElem_cons_drop,List.take_append_drop]
def tK (h:jq w v T X) (c:Nat) (i:T.length<1000000) :
 Calls prog 54 #[v,.int .i64 c] w λe w'=>e=.returned (.int .i64 (ai T c))/\Below w.heap.size w w':=by
 obtain⟨r,x,rfl,W,G⟩:=h;obtain⟨a,cap,rfl,_,I⟩:=W;obtain⟨o,F,rfl,_,_⟩:=bG.out G;obtain⟨p,g⟩:∃n,n=(ints X).length:=⟨_,rfl⟩;rw[<-g];obtain⟨n,y⟩:=ae T.length;rw[<-y] at i⊢;have N:=aa y;have Q:=aa I;have k:=ah (w:=w) (.cells #[.slice a n cap,.slice o p F] 25);obtain⟨K,s⟩:=ae (ai T c);have M:=aa s;rw[<-s];have U:(w.alloc (.cells #[.slice a n cap,.slice o p F] 25)).cell? ⟨w.heap.size,0,none⟩=some (.slice a n cap):=by unfold World.cell?;rw[heap_alloc_new];rfl
 obtain⟨H,C⟩:=ae (w.alloc (.cells #[.slice a n cap,.slice o p F] 25));rw[<-C] at k U;clear G I y g s;go_enter func54,ntmps54;go_wp2_with fail;rw[<-C];clear C;go_loopw [10] (λD wr=>∃j:Nat,j<=n/\D=.int .i64 j/\(∀r∈T.take j,r.code≠c)/\Below H.heap.size H wr) (λD _=>n-(intOf D).toNat)
 case atStart=>exact⟨0,Nat.zero_le _,rfl,by simp,Below.refl _ _⟩
 case round=>
  obtain⟨j,hj,rfl,d,t⟩:=hrel;have l:=af k t;by_cases S:j<n
  ·have f:j<T.length:=by have:=N.out;omega
   obtain⟨b,off,m,rfl,V,O,L,B,J⟩:=Q.out j f;obtain⟨am,Z,rfl,_,_⟩:=bG.out J;generalize (ints T[j].map).length=nm at B;clear J;have O:=aB l O;have L:=aB l L;have B:=aB l B;have P:=aa (Ba f d);have R:=aa (show ∀r,r∈T.take (j+1)↔r∈T.take j\/r=T[j] from λr=>by rw[List.take_succ_eq_append_getElem f,List.mem_append,List.mem_singleton]);have Y:=aa d;generalize T[j]=q at *;clear d;by_cases u:q.code=c
   ·have E:K=q.cls:=M.out.trans (by unfold ai;rw[P.out u]);subst E;subst u;go_wp2;go_ret;exact⟨rfl,k.trans ((af t (ah _)).mono k.size)⟩
   have:((q.code:Int)==c)=false:=by simp;omega
   go_wp2;go_roundw
   case rel=>exact⟨j+1,by omega,rfl,λr A=>by rcases (R.out r).1 A with h|h;exact Y.out r h;rw[h];exact u,af t (ah _)⟩
   case measure=>simp[intOf];omega
  obtain rfl:j=n:=by omega
  have E:K=0:=M.out.trans (by unfold ai;rw[oV (λr A=>d r (by rw[N.out,List.take_length];exact A))]);subst E;go_wp2;go_ret;exact⟨rfl,l⟩
def y9 (h:jq w v T X) (c:Nat) (hc:c<1114112) (O:T.length<1000000) :
 Calls prog 53 #[v,.int .i64 c] w λe w'=>∃r,e=.returned r/\bG w' r (ints (mapOf T c))/\Below w.heap.size w w':=by
 obtain⟨r,x,rfl,g,h2⟩:=h;obtain⟨a,cap,rfl,_,hx⟩:=g;obtain⟨R,cx,rfl,_,_⟩:=bG.out h2;obtain⟨S,P⟩:∃n,n=(ints X).length:=⟨_,rfl⟩;rw[<-P];obtain⟨n,Y⟩:=ae T.length;rw[<-Y] at O⊢;have HN:=aa Y;have HX:=aa hx;have C:=ah (w:=w) (.cells #[.slice a n cap,.slice R S cx] 25);have N:(w.alloc (.cells #[.slice a n cap,.slice R S cx] 25)).cell? ⟨w.heap.size,0,none⟩=some (.slice a n cap):=by unfold World.cell?;rw[heap_alloc_new];rfl
 obtain⟨W0,B⟩:=ae (w.alloc (.cells #[.slice a n cap,.slice R S cx] 25));rw[<-B] at C N;have i:=aa (tH (w:=W0) c hc);obtain⟨M,hM⟩:=ae (mapOf T c);have HM:=aa hM;rw[<-hM];clear h2 hx Y P hM;by_cases I:hk c<4
 ·have E:=aa (HM.out.trans (by unfold mapOf;rw[if_pos I]):M=bP T c);rw[iC.2 I] at i;clear I;go_enter func53,ntmps53;go_wp2_with fail;rw[<-B];clear B;refine i.out.mono ?_;rintro e u⟨r1,rfl,s,g⟩;have d:=af C g;have d1:=aB g N;obtain⟨a1,K,rfl,_,_⟩:=bG.out (Sl.aU s).any;rw[show(ints []).length=0 from rfl];clear i s g N C;go_wp2_with fail;go_loopw [30] (λiv wr=>∃j:Nat,j<=n/\iv=.int .i64 j/\(∀r∈T.take j,r.code≠c)/\Below u.heap.size u wr) (λiv _=>n-(intOf iv).toNat)
  case atStart=>exact⟨0,Nat.zero_le _,rfl,by simp,Below.refl _ _⟩
  case round=>
   obtain⟨j,hj,rfl,l,hE⟩:=hrel;have D:=af d hE;by_cases ac:j<n
   ·have G:j<T.length:=by have:=HN.out;omega
    obtain⟨b,off,m,rfl,ad,c0,K,c2,J⟩:=HX.out j G;have c0:=aB D c0;have K:=aB D K;have c2:=aB D c2;obtain⟨am,cm,rfl,_,_⟩:=bG.out J;have J:=aa (J.mono D);have HA:=aa (Ba G l);have HS:=aa (show ∀r,r∈T.take (j+1)↔r∈T.take j\/r=T[j] from λr=>by rw[List.take_succ_eq_append_getElem G,List.mem_append,List.mem_singleton]);have Yf:=aa l;generalize T[j]=q at *;obtain⟨nm,L⟩:=ae ((ints q.map).length);rw[<-L] at J c2;clear l L;by_cases W:q.code=c
    ·have U:M=q.map:=E.out.trans (by unfold bP;rw[HA.out W]);subst U;subst W;go_wp2;go_ret;exact⟨_,rfl,J.out.mono (ah _),D.trans ((ah _).mono D.size)⟩
    have z:((q.code:Int)==c)=false:=by simp;omega
    go_wp2;go_roundw
    case rel=>exact⟨j+1,by omega,rfl,λr Z=>by rcases (HS.out r).1 Z with h|h;exact Yf.out r h;rw[h];exact W,af hE (ah _)⟩
    case measure=>simp[intOf];omega
   obtain rfl:j=n:=by omega
   have U:M=[]:=E.out.trans (by unfold bP;rw[oV (λr Z=>l r (by rw[HN.out,List.take_length];exact Z))]);subst U;go_wp2;go_ret;exact⟨_,rfl,⟨none,0,rfl,Nat.le_refl _,.inl ⟨rfl,λ_=>rfl⟩⟩,D⟩
 have Q:M=dI c:=HM.out.trans (by unfold mapOf;rw[if_neg I]);by_cases H:hk c=5
 ·obtain⟨x,y,z,f⟩:∃x y z,hparts c=[x,y,z]:=by unfold hparts;rw[if_neg (by omega),if_pos H];exact⟨_,_,_,rfl⟩
  have hz:z<4547:=(Ez (by rw[f];simp:z∈hparts c)).1;have V:dI c=[c-(z-4519),z]/\4519<=z:=by
   unfold hparts at f;rw[if_neg (by omega),if_pos H] at f;simp only[List.cons.injEq] at f;unfold dI;rw[if_neg (by omega),if_pos H,f.2.2.1];have h9:=f.2.2.1;generalize (c-44032) % 28=t at *;have:c-t=c-(z-4519):=by omega
   rw[this];exact⟨rfl,by omega⟩
  have ai:=(kI.1 H).1;have E:=aa (Q.trans V.1);have ab:=V.2;rw[f] at i;clear I H Q f V;go_enter func53,ntmps53;go_wp2_with fail;rw[<-B];clear B;refine i.out.mono ?_;rintro e u⟨r1,rfl,s,g⟩;have d:=af C g;have s1:=(Sl.aU s).any;obtain⟨a1,K,rfl,A,k⟩:=bG.out s1;obtain⟨b1,f1,rfl,_,F⟩:=k 2 (by simp);have F:u.cell? ⟨b1,f1+2,none⟩=some (.int .i64 z):=by rw[F];rfl
  rw[show(ints [x,y,z]).length=3 from rfl] at A⊢;have hg:=Gr.cell (ag u) F;clear i s g N C s1 k;go_wp2_with fail;refine aC (Array.replicate 11 true) 11 0 mixed ?_;refine ay [0,1,2,3,4,5,6,7,8] 2 ?_
  iterate 9 (refine aA rfl ?_;go_big_quiet_step (rfl))
  refine az ?_;refine aI 9 ?_;go_wp2_with fail;refine aF (ah _) ?_;refine ay [10] 0 ?_
  iterate 1 (refine aA rfl ?_;go_big_quiet_step (rfl))
  refine az ?_;refine aJ [] ?_;refine tail_nil ?_;go_wp2;go_ret;refine⟨_,rfl,?_,d.trans ((af (ag u) (ah _)).mono d.size)⟩;rw[E.out];have o:=rP u #[.int .i64 (c-(z-4519):Nat),.int .i64 z] bB;rw[show((c-(z-4519):Nat):Int)=(c:Int)-((z:Int)-4519) by omega] at o;have e3:ints [c-(z-4519),z]=(#[Value.int .i64 ((c:Int)-((z:Int)-4519)),.int .i64 z]:Array Value).toList:=by
   rw[show(c:Int)-((z:Int)-4519)=((c-(z-4519):Nat):Int) by omega];rfl
  rw[e3];exact o.mono (ag _)
 have p:hk c=4:=by have:=vU c;omega
 obtain⟨x,y,f⟩:∃x y,hparts c=[x,y]:=by unfold hparts;rw[if_pos p];exact⟨_,_,rfl⟩
 have E:=aa (Q.trans (show dI c=[x,y] by rw[<-f];unfold hparts dI;rw[if_pos p,if_pos p]));rw[f] at i;clear I H p Q f;go_enter func53,ntmps53;go_wp2_with fail;rw[<-B];clear B;refine i.out.mono ?_;rintro e u⟨r1,rfl,s,g⟩;have d:=af C g;have s1:=(Sl.aU s).any;obtain⟨a1,K,rfl,A,k⟩:=bG.out s1;rw[show(ints [x,y]).length=2 from rfl] at A s1⊢;have S1:=aa s1;clear i s g N C s1 k;go_wp2;go_ret;exact⟨_,rfl,by rw[E.out];exact S1.out,d⟩
def EO (c:Nat):(dI c).length<=2:=by
 unfold dI
 split
 ·exact Nat.le_refl _
 split
 ·exact Nat.le_refl _
 exact Nat.zero_le _
def EP (h:∀r∈T,r.map.length<=4) (c:Nat):(mapOf T c).length<=4:=by
 unfold mapOf
 split
 ·unfold bP;cases a:rowOf T c with
  | none=>exact Nat.zero_le _
  | some r=>exact h r (List.mem_of_find?_eq_some a)
 exact Nat.le_trans (EO c) (by decide)
def Nl (M:Nat->List Nat) (l:List Nat) (x:Nat):dm M (l++[x])=dm M l++if M x=[] then [x] else M x:=by
 unfold dm;rw[List.flatMap_append];simp
def JE {M:Nat->List Nat} {k:Nat} (a:1<=k) (h:∀x,(M x).length<=k):∀l:List Nat,(dm M l).length<=k*l.length
 | []=>Nat.zero_le _
 | c::l=>by
   have b:=JE a h l;unfold dm at b⊢;rw[List.flatMap_cons,List.length_append,List.length_cons,Nat.mul_add];have:(if M c=[] then [c] else M c).length<=k:=by split;exact a;exact h c
   omega
def anyM (M:Nat->List Nat) (l:List Nat):Bool:=l.any λx=>!(M x).isEmpty
def Q9 (M:Nat->List Nat) (l:List Nat) (x:Nat):anyM M (l++[x])=(anyM M l||!(M x).isEmpty):=by unfold anyM;simp
def jN:Elem prog 23 bB (.int .i64 0) 8:=⟨rfl,underlying23,info_parts (by kernel_rfl)⟩
def kJ (l:List Nat):∀u∈ints l,u.oneCell'=true:=by
 intro u a;obtain⟨d,_,rfl⟩:=List.mem_map.1 a;rfl
def qG (l m:List Nat):ints (l++m)=ints l++ints m:=by simp[ints]
def bG.nO {l:List Nat} {n:Nat} (h:bG w v (ints l)) (j:n=l.length):∃a cap,v=.slice a n cap/\n<=cap/\
 ∀i (e:i<l.length),∃b off,a=some ⟨b,off,none⟩/\b<w.heap.size/\w.cell? ⟨b,off+i,none⟩=some (.int .i64 (l[i]:Nat)):=by
 subst j;obtain⟨a,cap,rfl,m,k⟩:=Go.Cd.bG.out h;have c:(ints l).length=l.length:=ek _;refine⟨a,cap,by rw[c],by omega,λi e=>?_⟩;obtain⟨b,off,g,d,f⟩:=k i (by omega);exact⟨b,off,g,d,by rw[f];simp[ints]⟩
def aT {B:Nat} {e:TypeId} {a:Nat} {n:Nat} {d:List Value} (h:w.ownsRow B e a v n d) (k:c<=B):w.ownsRow c e a v n d:=by
 obtain⟨l,f⟩:=h;refine⟨l,f.imp id ?_⟩;rintro⟨g,cap,b,j,i,r⟩;exact⟨g,cap,b,j,Nat.le_trans k i,r⟩
def jq.shape (h:jq w v T X):∃a e cap b f c,v=.agg #[.slice a e cap,.slice b f c]:=by
 obtain⟨r,x,rfl,⟨a,cap,rfl,_⟩,d⟩:=h;obtain⟨b,c,rfl,_,_⟩:=Go.Cd.bG.out d;exact⟨_,_,_,_,_,_,rfl⟩
def GL {u:Value} {L:List Nat} (h:jq w v T X) (hl:bG w u (ints L)) (hL:∀x∈L,x<1114112) (W:∀r∈T,r.map.length<=4) (I:T.length<1000000) (YS:L.length<1000000) :
 Calls prog 79 #[v,u] w λe w'=>∃r,e=.returned (.tuple #[r,.bool (anyM (mapOf T) L)])/\w'.ownsRow w.heap.size bB 1 r (dm (mapOf T) L).length (ints (dm (mapOf T) L))/\Below w.heap.size w w':=by
 have HT:=aa h;obtain⟨a,G,cap,D,E,J,rfl⟩:=h.shape;obtain⟨n,V⟩:=ae L.length;obtain⟨al,cl,rfl,_,N⟩:=bG.nO hl V;have HN:=aa V;have HX:=aa N;have HL:=aa hL;have Ja:n<1000000:=by omega
 have Q_:=aa (λl=>JE (M:=mapOf T) (k:=4) (by decide) (EP W) l);have ER:=aa (EP W);have hb:=ah (w:=w) (.cells #[.slice a G cap,.slice D E J] 25);have d0:(w.alloc (.cells #[.slice a G cap,.slice D E J] 25)).cell? ⟨w.heap.size,0,none⟩=some (.slice a G cap):=by unfold World.cell?;rw[heap_alloc_new];rfl
 have d1:(w.alloc (.cells #[.slice a G cap,.slice D E J] 25)).cell? ⟨w.heap.size,1,none⟩=some (.slice D E J):=by unfold World.cell?;rw[heap_alloc_new];rfl
 obtain⟨g,H⟩:=ae (w.alloc (.cells #[.slice a G cap,.slice D E J] 25));rw[<-H] at hb d0 d1;obtain⟨W1,i⟩:=ae (g.alloc (.cells #[] bB));have K:Below g.heap.size g W1:=by subst i;exact ah _
 have o1:W1.ownsRow g.heap.size bB 1 (.slice (some ⟨w.heap.size+1,0,none⟩) 0 0) 0 (ints []):=by
  subst i;have:=rM g bB;rw[show g.heap.size=w.heap.size+1 by rw[H];simp] at this⊢;exact this
 rw[H] at i;have ag:g.heap.size=w.heap.size+1:=by rw[H];simp
 clear H h hl N V hL W;go_enter func79,ntmps79;go_wp2_with fail;rw[<-i];clear i;go_loopw [6,7,14] (λov sv Y wr=>∃j:Nat,j<=n/\Y=.int .i64 j/\sv=.bool (anyM (mapOf T) (L.take j))/\wr.ownsRow g.heap.size bB 1 ov (dm (mapOf T) (L.take j)).length (ints (dm (mapOf T) (L.take j)))/\Below g.heap.size g wr) (λ_ _ Y _=>n-(intOf Y).toNat)
 case atStart=>exact⟨0,Nat.zero_le _,rfl,rfl,o1,K⟩
 case round=>
  clear o1 K;obtain⟨j,hj,rfl,rfl,ho,O⟩:=hrel;have Z:=af hb O;by_cases ac:j<n
  ·have p:j<L.length:=by have:=HN.out;omega
   obtain⟨b,off,rfl,ad,hc⟩:=HX.out j p;have hc:=aB Z hc;have e0:=aB O d0;have e1:=aB O d1;have N:=HL.out _ (List.getElem_mem p);have F:=Q_.out (L.take j);rw[List.length_take] at F;have Q:=aa (show dm (mapOf T) (L.take (j+1))=_ by rw[List.take_succ_eq_append_getElem p,Nl]);have P:=aa (show anyM (mapOf T) (L.take (j+1))=_ by rw[List.take_succ_eq_append_getElem p,Q9]);generalize dm (mapOf T) (L.take j)=S at *;generalize anyM (mapOf T) (L.take j)=A at *;generalize L[j]=x at *;have R:=aa (y9 (HT.out.mono Z) x N I);have kz:=ER.out x;go_wp2_with fail;refine R.out.mono ?_;rintro e w2⟨r2,rfl,s2,h2⟩;have o:=af O h2;have q:=aH ho h2;have S2:=aa s2;generalize mapOf T x=m at *;obtain⟨nm,d⟩:=ae m.length;obtain⟨a2,c2,rfl,_,_⟩:=bG.nO s2 d;have sN:=aa d;by_cases c:m=[]
   ·have h0:nm=0:=by rw[d,c];rfl
    subst h0;have B:=aa (Q.out.trans (by rw[if_pos c]):dm (mapOf T) (L.take (j+1))=S++[x]);have C:=aa (P.out.trans (by rw[c];simp):anyM (mapOf T) (L.take (j+1))=A);clear R s2 d c Q P e0 e1;go_wp2_with (at_builtin;refine f_ rfl _ _ 23 rfl g.heap.size bB _ 8 jN _ S.length _ rfl q _ rfl rfl (by omega) (by unfold maxLen;omega) g o (Nat.le_refl _) ?_;intro v' w3 f U _ _);go_roundw
    case rel=>exact⟨j+1,by omega,rfl,by rw[C.out],by rw[B.out,qG,List.length_append];exact f,U⟩
    case measure=>simp[intOf];omega
   have h0:¬nm=0:=λh=>c (List.length_eq_zero_iff.1 (d▸h));have z:((nm:Int)==0)=false:=by simp;omega
   have ab:nm<=4:=by omega
   have B:=aa (Q.out.trans (by rw[if_neg c]):dm (mapOf T) (L.take (j+1))=S++m);have C:=aa (P.out.trans (by cases m with|nil=>exact absurd rfl c|cons y m=>simp):anyM (mapOf T) (L.take (j+1))=true);have s:(ints m).length=nm:=by rw[ek,d]
   clear R s2 d c Q P e0 e1;go_wp2_with (at_builtin;refine bR rfl _ _ 23 rfl g.heap.size bB _ 8 jN _ S.length _ rfl q _ (ints m) rfl S2.out (kJ m) (by rw[s];unfold maxLen;omega) (by rw[s];omega) o.size ?_;intro v' w3 f t);have lH:=o.grown t o.size (λk hk=>(q.lt k hk).1);go_roundw
   case rel=>exact⟨j+1,by omega,rfl,by rw[C.out],by rw[B.out,qG,List.length_append,<-sN.out,<-s];exact f,lH⟩
   case measure=>simp[intOf];omega
  obtain rfl:j=n:=by omega
  rw[List.take_of_length_le (by rw[HN.out];exact Nat.le_refl _)] at ho⊢;go_wp2;go_ret2;exact⟨_,rfl,aT ho (by omega),Z⟩
def tx (l:List UInt8):ByteArray:=⟨l.toArray⟩
def Nn (l:List Nat):str l=tx (l.map UInt8.ofNat):=rfl
def dA (a b:List UInt8):tx a++tx b=tx (a++b):=by
 apply ByteArray.ext;simp[tx,ByteArray.data_append]
def aX (a:List UInt8):(tx a).size=a.length:=by simp[tx,ByteArray.size]
def lI (w:World) (a:Array Value) (n:Nat) (L:List Nat) (c:a.size=n) (b:a.toList=mR L) (h:∀d∈L,d<256) :
 (convert 163 9 (.slice (some ⟨w.heap.size,0,none⟩) n n)).run prog (w.alloc (.cells a tF))=.ok (.string (str L)) (w.alloc (.cells a tF)):=by
 subst c;have:=rP w a tF;rw[b] at this;exact A7 this h
def GM (c:Nat) (k:c<1114112) :
 Calls prog 50 #[.int .i64 c] w λe w'=>e=.returned (.string (tx (lD c)))/\Below w.heap.size w w':=by
 obtain⟨R,f⟩:=ae (tx (lD c));have:=aa f;rw[<-f];by_cases h:c<128
 ·have E:fI c=[c]:=by unfold fI;rw[if_pos h]
  have a:=lI w #[.int .u8 c] 1 [c] rfl (by simp[mR]) (λd hd=>by rw[List.mem_singleton.1 hd];omega);have b:str [c]=R:=by rw[f,lD,E];rfl
  rw[b] at a;have g:=ah (w:=w) (.cells #[.int .u8 c] tF);clear f b E;go_enter func50,ntmps50;go_wp2_with fail;go_ret;exact⟨rfl,g⟩
 by_cases i:c<2048
 ·have E:fI c=[192+c / 64,128+c % 64]:=by unfold fI;rw[if_neg h,if_pos i]
  have a:=lI w #[.int .u8 (192+(c:Int) / 64),.int .u8 (128+(c:Int) % 64)] 2 [192+c / 64,128+c % 64] rfl (by simp[mR]) (λd hd=>by simp only[List.mem_cons,List.not_mem_nil,or_false] at hd;omega);have b:str [192+c / 64,128+c % 64]=R:=by rw[f,lD,E];rfl
  rw[b] at a;have g:=ah (w:=w) (.cells #[.int .u8 (192+(c:Int) / 64),.int .u8 (128+(c:Int) % 64)] tF);clear f b E;go_enter func50,ntmps50;go_wp2_with fail;go_ret;exact⟨rfl,g⟩
 by_cases j:c<65536
 ·have E:fI c=[224+c / 4096,128+c / 64 % 64,128+c % 64]:=by unfold fI;rw[if_neg h,if_neg i,if_pos j]
  have a:=lI w #[.int .u8 (224+(c:Int) / 4096),.int .u8 (128+(c:Int) / 64 % 64),.int .u8 (128+(c:Int) % 64)] 3 [224+c / 4096,128+c / 64 % 64,128+c % 64] rfl (by simp[mR]) (λd hd=>by simp only[List.mem_cons,List.not_mem_nil,or_false] at hd;omega);have b:str [224+c / 4096,128+c / 64 % 64,128+c % 64]=R:=by rw[f,lD,E];rfl
  rw[b] at a;have g:=ah (w:=w) (.cells #[.int .u8 (224+(c:Int) / 4096),.int .u8 (128+(c:Int) / 64 % 64),.int .u8 (128+(c:Int) % 64)] tF);have l:(c:Int)<65536:=by omega
  have m:(c:Int)<1114112:=by omega
  have o:¬(c:Int)<128:=by omega
  have n:¬(c:Int)<2048:=by omega
  clear f b E k j h i;go_enter func50,ntmps50;go_wp2_with fail;go_ret;exact⟨rfl,g⟩
 have E:fI c=[240+c / 262144,128+c / 4096 % 64,128+c / 64 % 64,128+c % 64]:=by unfold fI;rw[if_neg h,if_neg i,if_neg j]
 have a:=lI w #[.int .u8 (240+(c:Int) / 262144),.int .u8 (128+(c:Int) / 4096 % 64),.int .u8 (128+(c:Int) / 64 % 64),.int .u8 (128+(c:Int) % 64)] 4 [240+c / 262144,128+c / 4096 % 64,128+c / 64 % 64,128+c % 64] rfl (by simp[mR]) (λd hd=>by simp only[List.mem_cons,List.not_mem_nil,or_false] at hd;omega);have b:str [240+c / 262144,128+c / 4096 % 64,128+c / 64 % 64,128+c % 64]=R:=by rw[f,lD,E];rfl
 rw[b] at a;have g:=ah (w:=w) (.cells #[.int .u8 (240+(c:Int) / 262144),.int .u8 (128+(c:Int) / 4096 % 64),.int .u8 (128+(c:Int) / 64 % 64),.int .u8 (128+(c:Int) % 64)] tF);have l:¬(c:Int)<65536:=by omega
 have m:(c:Int)<1114112:=by omega
 have o:¬(c:Int)<128:=by omega
 have n:¬(c:Int)<2048:=by omega
 clear f b E k j h i;go_enter func50,ntmps50;go_wp2_with fail;go_ret;exact⟨rfl,g⟩
def DD {L:List Nat} (h:bG w v (ints L)) (k:∀x∈L,x<1114112) (y:L.length<1000000) :
 Calls prog 16 #[v] w λe w'=>e=.returned (.string (tx (dQ L)))/\Below w.heap.size w w':=by
 obtain⟨n,f⟩:=ae L.length;obtain⟨D,F,rfl,_,d⟩:=bG.nO h f;have l:=aa f;have p:=aa d;have B:=aa k;have q:=aa (show ∀j,(tx (dQ (L.take j))).size<=4*j from λj=>by rw[aX];have:=qE (L.take j);rw[List.length_take] at this;omega);have z:=aa (show ∀c,(tx (lD c)).size<=4 from λc=>by rw[aX,jK];exact(oU c).2);rw[<-f] at y;clear h d f k;go_enter func16,ntmps16;go_wp2_with fail;go_loopw [3,8] (λt i wr=>∃j:Nat,j<=n/\i=.int .i64 j/\t=.string (tx (dQ (L.take j)))/\Below w.heap.size w wr) (λ_ i _=>n-(intOf i).toNat)
 case atStart=>exact⟨0,Nat.zero_le _,rfl,rfl,Below.refl _ _⟩
 case round=>
  obtain⟨j,E,rfl,rfl,g⟩:=hrel;by_cases r:j<n
  ·have a:j<L.length:=by have:=l.out;omega
   obtain⟨b,off,rfl,u,m⟩:=p.out j a;have m:=aB g m;have d:=B.out _ (List.getElem_mem a);have s:=aa (show tx (dQ (L.take j))++tx (lD L[j])=tx (dQ (L.take (j+1))) by rw[dA,List.take_succ_eq_append_getElem a,JB];simp[dQ]);have s1:=q.out j;have s2:=z.out L[j];generalize L[j]=x at *;have A:=aa (λW=>GM (w:=W) x d);generalize tx (lD x)=U at *;generalize tx (dQ (L.take j))=S at *;have s3:¬9223372036854775807<(S.size:Int)+U.size:=by omega
   have s4:¬9223372036854775807<S.size+U.size:=by omega
   go_wp2_with fail;refine(A.out _).mono ?_;rintro e C⟨rfl,o⟩;go_wp2;go_roundw
   case rel=>exact⟨j+1,by omega,rfl,by rw[s.out],af g o⟩
   case measure=>simp[intOf];omega
  obtain rfl:j=n:=by omega
  rw[List.take_of_length_le (by rw[l.out];exact Nat.le_refl _)];go_wp2;go_ret;exact⟨rfl,g⟩
structure dB (w:World):Prop where
 c0:w.cell? ⟨0,0,none⟩=some (.int .u8 0)
 c1:w.cell? ⟨0,1,none⟩=some (.int .u8 127)
 c2:w.cell? ⟨0,2,none⟩=some (.int .i32 0)
 c3:w.cell? ⟨0,3,none⟩=some (.int .u8 192)
 c4:w.cell? ⟨0,4,none⟩=some (.int .u8 31)
 c5:w.cell? ⟨0,5,none⟩=some (.int .i32 128)
 c6:w.cell? ⟨0,6,none⟩=some (.int .u8 224)
 c7:w.cell? ⟨0,7,none⟩=some (.int .u8 15)
 c8:w.cell? ⟨0,8,none⟩=some (.int .i32 2048)
 c9:w.cell? ⟨0,9,none⟩=some (.int .u8 240)
 c10:w.cell? ⟨0,10,none⟩=some (.int .u8 7)
 c11:w.cell? ⟨0,11,none⟩=some (.int .i32 65536)
def dB.mono (h:dB w) (a:Below w.heap.size w w'):dB w':=
 ⟨aB a h.c0,aB a h.c1,aB a h.c2,aB a h.c3,aB a h.c4,aB a h.c5,aB a h.c6,aB a h.c7,aB a h.c8,aB a h.c9,aB a h.c10,aB a h.c11⟩
def qd (b:Nat):Nat:=if b<128 then 1 else if 192<=b/\b<224 then 2 else if 224<=b/\b<240 then 3 else if 240<=b/\b<248 then 4 else 0
def JG:∀b:Nat,b<256->(bits .andNot .u8 (b:Int) 127==0)=decide (qd b=1)/\(bits .andNot .u8 (b:Int) 31==192)=decide (qd b=2)/\(bits .andNot .u8 (b:Int) 15==224)=decide (qd b=3)/\(bits .andNot .u8 (b:Int) 7==240)=decide (qd b=4):=by decide
def UO (b:Nat):qd b<=4:=by
 unfold qd
 repeat' split
 all_goals decide
def Qd (w:World):(Instr.index 226 (.agg #[.int .u8 0,.int .u8 127,.int .i32 0,.int .u8 192,.int .u8 31,.int .i32 128,.int .u8 224,.int .u8 15,.int .i32 2048,.int .u8 240,.int .u8 7,.int .i32 65536]) (.int .i64 0)).run prog w=.ok (.agg #[.int .u8 0,.int .u8 127,.int .i32 0]) w:=by kernel_rfl
def Qe (w:World):(Instr.index 226 (.agg #[.int .u8 0,.int .u8 127,.int .i32 0,.int .u8 192,.int .u8 31,.int .i32 128,.int .u8 224,.int .u8 15,.int .i32 2048,.int .u8 240,.int .u8 7,.int .i32 65536]) (.int .i64 1)).run prog w=.ok (.agg #[.int .u8 192,.int .u8 31,.int .i32 128]) w:=by kernel_rfl
def Qf (w:World):(Instr.index 226 (.agg #[.int .u8 0,.int .u8 127,.int .i32 0,.int .u8 192,.int .u8 31,.int .i32 128,.int .u8 224,.int .u8 15,.int .i32 2048,.int .u8 240,.int .u8 7,.int .i32 65536]) (.int .i64 2)).run prog w=.ok (.agg #[.int .u8 224,.int .u8 15,.int .i32 2048]) w:=by kernel_rfl
def Qg (w:World):(Instr.index 226 (.agg #[.int .u8 0,.int .u8 127,.int .i32 0,.int .u8 192,.int .u8 31,.int .i32 128,.int .u8 224,.int .u8 15,.int .i32 2048,.int .u8 240,.int .u8 7,.int .i32 65536]) (.int .i64 3)).run prog w=.ok (.agg #[.int .u8 240,.int .u8 7,.int .i32 65536]) w:=by kernel_rfl
def oZ (s:dB w) (b:Nat) (D:b<256) :
 Calls prog 130 #[.int .u8 b] w λe w'=>e=.returned (.int .i64 (qd b))/\Below w.heap.size w w':=by
 obtain⟨c,f,d,a⟩:=JG b D;have t:=UO b;have:=aa s;obtain⟨v,u,C,A,E,y,F,B,x,G,o,p⟩:=s;obtain⟨S,n⟩:=ae (qd b);rw[<-n] at c f d a t⊢;clear n;go_enter func130,ntmps130;go_wp2_with fail;clear v u C A E y F B x G o p;go_loopw [6] (λr wr=>∃j:Nat,j<=4/\r=.int .i64 j/\(S=0\/j<S)/\Below w.heap.size w wr) (λr _=>4-(intOf r).toNat)
 case atStart=>exact⟨0,by decide,rfl,by omega,Below.refl _ _⟩
 case round=>
  obtain⟨j,I,rfl,m,g⟩:=hrel;have q:j=0\/j=1\/j=2\/j=3\/j=4:=by omega
  rcases q with rfl|rfl|rfl|rfl|rfl
  ·by_cases h:S=1
   ·have z:(bits .andNot .u8 (b:Int) 127==0)=true:=by rw[c,decide_eq_true h]
    have i:=aa h;clear h c f d a;have k:=Qd wr;go_wp2;go_ret;exact⟨by rw[i.out];rfl,af g (ah _)⟩
   have z:(bits .andNot .u8 (b:Int) 127==0)=false:=by rw[c,decide_eq_false h]
   have l:=aa (show S=0\/1<S by omega);clear h c f d a m;have k:=Qd wr;go_wp2;go_roundw
   case rel=>exact⟨1,by decide,rfl,l.out,af g (ah _)⟩
   case measure=>simp[intOf]
  ·by_cases h:S=2
   ·have z:(bits .andNot .u8 (b:Int) 31==192)=true:=by rw[f,decide_eq_true h]
    have i:=aa h;clear h c f d a;have k:=Qe wr;go_wp2;go_ret;exact⟨by rw[i.out];rfl,af g (ah _)⟩
   have z:(bits .andNot .u8 (b:Int) 31==192)=false:=by rw[f,decide_eq_false h]
   have l:=aa (show S=0\/2<S by omega);clear h c f d a m;have k:=Qe wr;go_wp2;go_roundw
   case rel=>exact⟨2,by decide,rfl,l.out,af g (ah _)⟩
   case measure=>simp[intOf]
  ·by_cases h:S=3
   ·have z:(bits .andNot .u8 (b:Int) 15==224)=true:=by rw[d,decide_eq_true h]
    have i:=aa h;clear h c f d a;have k:=Qf wr;go_wp2;go_ret;exact⟨by rw[i.out];rfl,af g (ah _)⟩
   have z:(bits .andNot .u8 (b:Int) 15==224)=false:=by rw[d,decide_eq_false h]
   have l:=aa (show S=0\/3<S by omega);clear h c f d a m;have k:=Qf wr;go_wp2;go_roundw
   case rel=>exact⟨3,by decide,rfl,l.out,af g (ah _)⟩
   case measure=>simp[intOf]
  ·by_cases h:S=4
   ·have z:(bits .andNot .u8 (b:Int) 7==240)=true:=by rw[a,decide_eq_true h]
    have i:=aa h;clear h c f d a;have k:=Qg wr;go_wp2;go_ret;exact⟨by rw[i.out];rfl,af g (ah _)⟩
   have z:(bits .andNot .u8 (b:Int) 7==240)=false:=by rw[a,decide_eq_false h]
   have l:=aa (show S=0\/4<S by omega);clear h c f d a m;have k:=Qg wr;go_wp2;go_roundw
   case rel=>exact⟨4,by decide,rfl,l.out,af g (ah _)⟩
   case measure=>simp[intOf]
  have i:=aa (show S=0 by omega);clear c f d a m t;go_wp2;go_ret;exact⟨by rw[i.out];rfl,g⟩
def y_ (B:dB w) (c:Nat) (q:aP c) :
 Calls prog 131 #[.int .i32 c] w λe w'=>e=.returned (.int .i64 (fH c))/\w'=w:=by
 have g:=q.1;have u:=aa (λW=>gZ (w:=W) c (by omega));simp only[decide_eq_true q] at u;obtain⟨C,y,G,D,H,L,I,E,K,J,m,F⟩:=B;have b:=oU c;have r:(c:Int)<128↔fH c<=1:=by unfold fH;(repeat' split) <;> omega
 have l:(c:Int)<2048↔fH c<=2:=by unfold fH;(repeat' split) <;> omega
 have n:(c:Int)<65536↔fH c<=3:=by unfold fH;(repeat' split) <;> omega
 obtain⟨S,k⟩:=ae (fH c);rw[<-k] at r l n b⊢;have s:=aa r;have t:=aa l;have v:=aa n;clear k q r l n C y G D H I E J m;go_enter func131,ntmps131;go_wp2_with fail;refine(u.out _).mono ?_;rintro e A⟨rfl,rfl⟩;go_wp2_with fail;go_loopw [3] (λp wr=>∃j:Nat,1<=j/\j<=S/\p=.int .i64 j/\wr=A) (λp _=>4-(intOf p).toNat)
 case atStart=>exact⟨1,by decide,b.1,rfl,(by first|rfl|trivial)⟩
 case round=>
  obtain⟨j,a,d,rfl,rfl⟩:=hrel;have o:j=1\/j=2\/j=3\/j=4:=by omega
  rcases o with rfl|rfl|rfl|rfl
  ·by_cases h:S=1
   ·have z:¬(128:Int)<=(c:Int):=λx=>by have:=s.out.2 (by omega);omega
    have f:=aa h;clear h d b a g;go_wp2;go_ret;exact⟨by rw[f.out];rfl,rfl⟩
   have z:(128:Int)<=(c:Int):=Int.not_lt.1 λx=>by have:=s.out.1 x;omega
   have i:=aa (show 2<=S by omega);clear h d b a g;go_wp2;go_roundw
   case rel=>exact⟨2,by decide,i.out,rfl,(by first|rfl|trivial)⟩
   case measure=>simp[intOf]
  ·by_cases h:S=2
   ·have z:¬(2048:Int)<=(c:Int):=λx=>by have:=t.out.2 (by omega);omega
    have f:=aa h;clear h d b a g;go_wp2;go_ret;exact⟨by rw[f.out];rfl,rfl⟩
   have z:(2048:Int)<=(c:Int):=Int.not_lt.1 λx=>by have:=t.out.1 x;omega
   have i:=aa (show 3<=S by omega);clear h d b a g;go_wp2;go_roundw
   case rel=>exact⟨3,by decide,i.out,rfl,(by first|rfl|trivial)⟩
   case measure=>simp[intOf]
  ·by_cases h:S=3
   ·have z:¬(65536:Int)<=(c:Int):=λx=>by have:=v.out.2 (by omega);omega
    have f:=aa h;clear h d b a g;go_wp2;go_ret;exact⟨by rw[f.out];rfl,rfl⟩
   have z:(65536:Int)<=(c:Int):=Int.not_lt.1 λx=>by have:=v.out.1 x;omega
   have i:=aa (show 4<=S by omega);clear h d b a g;go_wp2;go_roundw
   case rel=>exact⟨4,by decide,i.out,rfl,(by first|rfl|trivial)⟩
   case measure=>simp[intOf]
  have f:=aa (show S=4 by omega);clear d b a;go_wp2;go_ret;exact⟨by rw[f.out];rfl,rfl⟩
def JH (n c:Nat):Nat:=(if n=1 then 0 else if n=2 then 192 else if n=3 then 224 else 240)+c / 64 ^ (n-1)
def uA:∀t:Nat,t<64->(bits .andNot .u8 ((128+t:Nat):Int) 63==128)=true/\bits .andNot .u8 ((128+t:Nat):Int) 63=128/\bits .and .u8 ((128+t:Nat):Int) 63=(t:Int):=by decide
def JI:∀q:Nat,q<128->qd q=1/\bits .and .u8 (q:Int) 127=(q:Int):=by decide
def JJ:∀q:Nat,q<32->qd (192+q)=2/\bits .and .u8 ((192+q:Nat):Int) 31=(q:Int):=by decide
def JK:∀q:Nat,q<16->qd (224+q)=3/\bits .and .u8 ((224+q:Nat):Int) 15=(q:Int):=by decide
def JL:∀q:Nat,q<8->qd (240+q)=4/\bits .and .u8 ((240+q:Nat):Int) 7=(q:Int):=by decide
def EU {s:ByteArray} (h:0<s.size):s.toList.isEmpty=false:=by
 rw[ByteArray.toList_eq];cases e:s.data.toList with
 | nil=>have:s.size=0:=by show s.data.size=0;rw[<-Array.length_toList,e];rfl
        omega
 | cons a l=>rfl
def Np {x t:Nat} (d:x<33554432) (c:t<64):bits .or .i32 ((x:Int)*64) (t:Int)=((x*64+t:Nat):Int):=by
 have a:(BitVec.ofInt 32 ((x:Int)*64)).toNat=x <<< 6:=by
  rw[BitVec.toNat_ofInt,Nat.shiftLeft_eq];have:((x:Int)*64 % ((2 ^ 32:Nat):Int)).toNat=x*64:=by omega
  rw[this]
 have b:(BitVec.ofInt 32 (t:Int)).toNat=t:=by
  rw[BitVec.toNat_ofInt];omega
 have key:(BitVec.ofInt 32 ((x:Int)*64) ||| BitVec.ofInt 32 (t:Int)).toNat=x*64+t:=by
  rw[BitVec.toNat_or,a,b,<-Nat.shiftLeft_add_eq_or_of_lt (by simpa using c),Nat.shiftLeft_eq]
 show IntKind.i32.wrap ((BitVec.ofInt 32 ((x:Int)*64) ||| BitVec.ofInt 32 (t:Int)).toNat:Nat)=_;rw[key];rw[IntKind.wrap_i32];omega
def Nq (hH:dB w) (c n:Nat) (hc:aP c) (hn:fH c=n) (s:ByteArray) (ac:n<=s.size) (h0:∀h,(s[0]'h).toNat=JH n c) (hi:∀i,1<=i->i<n->∀h,(s[i]'h).toNat=128+c / 64 ^ (n-1-i) % 64) :
 Calls prog 89 #[.string s] w λe w'=>e=.returned (.tuple #[.int .i32 c,.int .i64 n,.bool true])/\Below w.heap.size w w':=by
 have hw:=oU c;have:=hc.1;have z:=aa hH;have x:0<s.size:=by omega
 have:=EU x;have A:=aa (show ∀W,dB W->Calls prog 131 #[.int .i32 c] W λe w'=>e=.returned (.int .i64 n)/\w'=W from λW h=>by rw[<-hn];exact y_ h c hc);have HI:=aa hi;have Y:∀i,1<=i->i<=n->c / 64 ^ (n-i)<33554432:=λi _ _=>Nat.lt_of_le_of_lt (Nat.div_le_self _ _) (by omega);have S:=aa Y
 have O:=aa (show ∀i,i<n->c / 64 ^ (n-(i+1))=c / 64 ^ (n-i)*64+c / 64 ^ (n-1-i) % 64 from λi r=>by
  rw[show n-i=(n-(i+1))+1 by omega,Nat.pow_succ,<-Nat.div_div_eq_div_mul,show n-1-i=n-(i+1) by omega,Nat.div_add_mod'])
 have Z:=aa (show c / 64 ^ (n-n)=c by rw[Nat.sub_self];simp);have ab:n=1\/n=2\/n=3\/n=4:=by omega
 have YU:(n=1->c<128)/\(n=2->c<2048)/\(n=3->c<65536):=by
  rw[<-hn];unfold fH;refine⟨?_,?_,?_⟩ <;> ((repeat' split) <;> omega)
 clear hi Y hn hw;have a:=h0 x;clear h0;unfold JH at a;rcases ab with rfl|rfl|rfl|rfl
 ·have E:c / 64 ^ (1-1)<128:=by simp only[Nat.reduceSub,Nat.reducePow];omega
  have d:=S.out 1 (by omega) (by omega);have hf:=JI _ E;simp only[Nat.reduceSub,Nat.reducePow,Nat.reduceEqDiff,if_true,if_false,Nat.one_ne_zero,Nat.zero_add,Nat.div_one] at a hf d;obtain⟨V,p⟩:=ae c;rw[<-p] at a hf d;obtain⟨B,y⟩:∃B:Nat,B=V:=⟨_,rfl⟩;have N:B<256:=by omega
  have I:=aa (λW (h:dB W)=>oZ h B N);rw[<-y] at a hf;rw[hf.1] at I;have z0:=hf.2;have e0:((s[0]'x).toNat:Int)=(B:Int):=by rw[a]
  have u:=aa (show B=c / 64 ^ (1-1) from y.trans (p.trans (by simp)));have C:=z.out.c1;clear a hf p y E YU;go_enter func89,ntmps89;go_wp2_with fail;refine(I.out _ z.out).mono ?_;rintro e j⟨rfl,b⟩;have P:=aa (z.out.mono b);have C:=aB b C;have zd:decide ((s.size:Int)<1)=false:=by simp;omega
  have A:=aa (show ∀W,dB W->Calls prog 131 #[.int .i32 c] W λe w'=>e=.returned (.int .i64 1)/\w'=W from A.out);go_wp2_with fail;go_quiet (fail);go_wp2_with fail;have R:=aa (show ∀W,Below j.heap.size j W->dB W from λW h=>P.out.mono h);have Q:=aa (show Value.int .i32 (B:Int)=.int .i32 ((c / 64 ^ (1-1):Nat):Int) by rw[u.out]);go_loopw [6,7] (λX q wr=>∃i:Nat,1<=i/\i<=1/\X=.int .i32 ((c / 64 ^ (1-i):Nat):Int)/\q=.int .i64 i/\Below j.heap.size j wr) (λ_ q _=>1-(intOf q).toNat)
  case atStart=>exact⟨1,by decide,by decide,Q.out,rfl,below_drewN (Below.refl _ _) _⟩
  case round=>
   obtain⟨i,k,r,rfl,rfl,v⟩:=hrel;by_cases l:i<1
   ·omega
   obtain rfl:i=1:=by omega
   have T:=R.out _ v;have f:=Z.out;rw[f];clear f;go_wp2_with fail;refine(A.out _ T).mono ?_;rintro e w4⟨rfl,rfl⟩;go_wp2
   go_ret3
   exact⟨rfl,b.trans (v.mono b.size)⟩
 ·have E:c / 64 ^ (2-1)<32:=by simp only[Nat.reduceSub,Nat.reducePow];omega
  have d:=S.out 1 (by omega) (by omega);have hf:=JJ _ E;simp only[Nat.reduceSub,Nat.reducePow,Nat.reduceEqDiff,if_true,if_false,Nat.one_ne_zero,Nat.div_one] at a hf d;obtain⟨V,p⟩:=ae (c / 64);rw[<-p] at a hf d;obtain⟨B,y⟩:∃B:Nat,B=192+V:=⟨_,rfl⟩;have N:B<256:=by omega
  have I:=aa (λW (h:dB W)=>oZ h B N);rw[<-y] at a hf;rw[hf.1] at I;have z0:=hf.2;have e0:((s[0]'x).toNat:Int)=(B:Int):=by rw[a]
  have u:=aa (show V=c / 64 ^ (2-1) from (p.trans (by simp)));have C:=z.out.c4;clear a hf p y E YU;go_enter func89,ntmps89;go_wp2_with fail;refine(I.out _ z.out).mono ?_;rintro e j⟨rfl,b⟩;have P:=aa (z.out.mono b);have C:=aB b C;have zd:decide ((s.size:Int)<2)=false:=by simp;omega
  have A:=aa (show ∀W,dB W->Calls prog 131 #[.int .i32 c] W λe w'=>e=.returned (.int .i64 2)/\w'=W from A.out);go_wp2_with fail;go_quiet (fail);go_wp2_with fail;have R:=aa (show ∀W,Below j.heap.size j W->dB W from λW h=>P.out.mono h);have Q:=aa (show Value.int .i32 (V:Int)=.int .i32 ((c / 64 ^ (2-1):Nat):Int) by rw[u.out]);go_loopw [6,7] (λX q wr=>∃i:Nat,1<=i/\i<=2/\X=.int .i32 ((c / 64 ^ (2-i):Nat):Int)/\q=.int .i64 i/\Below j.heap.size j wr) (λ_ q _=>2-(intOf q).toNat)
  case atStart=>exact⟨1,by decide,by decide,Q.out,rfl,below_drewN (Below.refl _ _) _⟩
  case round=>
   obtain⟨i,k,r,rfl,rfl,v⟩:=hrel;by_cases l:i<2
   ·have K:=S.out i k r;have g:=aa (O.out i l);have o:i<s.size:=by omega
    have hd:=HI.out i k l o;obtain⟨t,J⟩:=ae (c / 64 ^ (2-1-i) % 64);have m:t<64:=by rw[J];exact Nat.mod_lt _ (by decide)
    rw[<-J] at hd g;obtain⟨U,L⟩:=ae (c / 64 ^ (2-i));rw[<-L] at K g⊢;obtain⟨G,F,H⟩:=uA t m;have ho:=Np K m;obtain⟨D,M⟩:∃D:Nat,D=128+t:=⟨_,rfl⟩;rw[<-M] at hd G F H;have ei:((s[i]'o).toNat:Int)=(D:Int):=by rw[hd]
    clear hd J L M;go_wp2;go_roundw
    case rel=>exact⟨i+1,by omega,by omega,by rw[g.out];simp,rfl,v⟩
    case measure=>simp[intOf];omega
   obtain rfl:i=2:=by omega
   have T:=R.out _ v;have f:=Z.out;rw[f];clear f;go_wp2_with fail;refine(A.out _ T).mono ?_;rintro e w4⟨rfl,rfl⟩;go_wp2
   go_ret3
   exact⟨rfl,b.trans (v.mono b.size)⟩
 ·have E:c / 64 ^ (3-1)<16:=by simp only[Nat.reduceSub,Nat.reducePow];omega
  have d:=S.out 1 (by omega) (by omega);have hf:=JK _ E;simp only[Nat.reduceSub,Nat.reducePow,Nat.reduceEqDiff,if_true,if_false,Nat.one_ne_zero,Nat.div_one] at a hf d;obtain⟨V,p⟩:=ae (c / 4096);rw[<-p] at a hf d;obtain⟨B,y⟩:∃B:Nat,B=224+V:=⟨_,rfl⟩;have N:B<256:=by omega
  have I:=aa (λW (h:dB W)=>oZ h B N);rw[<-y] at a hf;rw[hf.1] at I;have z0:=hf.2;have e0:((s[0]'x).toNat:Int)=(B:Int):=by rw[a]
  have u:=aa (show V=c / 64 ^ (3-1) from (p.trans (by simp)));have C:=z.out.c7;clear a hf p y E YU;go_enter func89,ntmps89;go_wp2_with fail;refine(I.out _ z.out).mono ?_;rintro e j⟨rfl,b⟩;have P:=aa (z.out.mono b);have C:=aB b C;have zd:decide ((s.size:Int)<3)=false:=by simp;omega
  have A:=aa (show ∀W,dB W->Calls prog 131 #[.int .i32 c] W λe w'=>e=.returned (.int .i64 3)/\w'=W from A.out);go_wp2_with fail;go_quiet (fail);go_wp2_with fail;have R:=aa (show ∀W,Below j.heap.size j W->dB W from λW h=>P.out.mono h);have Q:=aa (show Value.int .i32 (V:Int)=.int .i32 ((c / 64 ^ (3-1):Nat):Int) by rw[u.out]);go_loopw [6,7] (λX q wr=>∃i:Nat,1<=i/\i<=3/\X=.int .i32 ((c / 64 ^ (3-i):Nat):Int)/\q=.int .i64 i/\Below j.heap.size j wr) (λ_ q _=>3-(intOf q).toNat)
  case atStart=>exact⟨1,by decide,by decide,Q.out,rfl,below_drewN (Below.refl _ _) _⟩
  case round=>
   obtain⟨i,k,r,rfl,rfl,v⟩:=hrel;by_cases l:i<3
   ·have K:=S.out i k r;have g:=aa (O.out i l);have o:i<s.size:=by omega
    have hd:=HI.out i k l o;obtain⟨t,J⟩:=ae (c / 64 ^ (3-1-i) % 64);have m:t<64:=by rw[J];exact Nat.mod_lt _ (by decide)
    rw[<-J] at hd g;obtain⟨U,L⟩:=ae (c / 64 ^ (3-i));rw[<-L] at K g⊢;obtain⟨G,F,H⟩:=uA t m;have ho:=Np K m;obtain⟨D,M⟩:∃D:Nat,D=128+t:=⟨_,rfl⟩;rw[<-M] at hd G F H;have ei:((s[i]'o).toNat:Int)=(D:Int):=by rw[hd]
    clear hd J L M;go_wp2;go_roundw
    case rel=>exact⟨i+1,by omega,by omega,by rw[g.out];simp,rfl,v⟩
    case measure=>simp[intOf];omega
   obtain rfl:i=3:=by omega
   have T:=R.out _ v;have f:=Z.out;rw[f];clear f;go_wp2_with fail;refine(A.out _ T).mono ?_;rintro e w4⟨rfl,rfl⟩;go_wp2
   go_ret3
   exact⟨rfl,b.trans (v.mono b.size)⟩
 have E:c / 64 ^ (4-1)<8:=by simp only[Nat.reduceSub,Nat.reducePow];omega
 have d:=S.out 1 (by omega) (by omega);have hf:=JL _ E;simp only[Nat.reduceSub,Nat.reducePow,Nat.reduceEqDiff,if_true,if_false,Nat.one_ne_zero,Nat.div_one] at a hf d;obtain⟨V,p⟩:=ae (c / 262144);rw[<-p] at a hf d;obtain⟨B,y⟩:∃B:Nat,B=240+V:=⟨_,rfl⟩;have N:B<256:=by omega
 have I:=aa (λW (h:dB W)=>oZ h B N);rw[<-y] at a hf;rw[hf.1] at I;have z0:=hf.2;have e0:((s[0]'x).toNat:Int)=(B:Int):=by rw[a]
 have u:=aa (show V=c / 64 ^ (4-1) from (p.trans (by simp)));have C:=z.out.c10;clear a hf p y E YU;go_enter func89,ntmps89;go_wp2_with fail;refine(I.out _ z.out).mono ?_;rintro e j⟨rfl,b⟩;have P:=aa (z.out.mono b);have C:=aB b C;have zd:decide ((s.size:Int)<4)=false:=by simp;omega
 have A:=aa (show ∀W,dB W->Calls prog 131 #[.int .i32 c] W λe w'=>e=.returned (.int .i64 4)/\w'=W from A.out);go_wp2_with fail;go_quiet (fail);go_wp2_with fail;have R:=aa (show ∀W,Below j.heap.size j W->dB W from λW h=>P.out.mono h);have Q:=aa (show Value.int .i32 (V:Int)=.int .i32 ((c / 64 ^ (4-1):Nat):Int) by rw[u.out]);go_loopw [6,7] (λX q wr=>∃i:Nat,1<=i/\i<=4/\X=.int .i32 ((c / 64 ^ (4-i):Nat):Int)/\q=.int .i64 i/\Below j.heap.size j wr) (λ_ q _=>4-(intOf q).toNat)
 case atStart=>exact⟨1,by decide,by decide,Q.out,rfl,below_drewN (Below.refl _ _) _⟩
 case round=>
  obtain⟨i,k,r,rfl,rfl,v⟩:=hrel;by_cases l:i<4
  ·have K:=S.out i k r;have g:=aa (O.out i l);have o:i<s.size:=by omega
   have hd:=HI.out i k l o;obtain⟨t,J⟩:=ae (c / 64 ^ (4-1-i) % 64);have m:t<64:=by rw[J];exact Nat.mod_lt _ (by decide)
   rw[<-J] at hd g;obtain⟨U,L⟩:=ae (c / 64 ^ (4-i));rw[<-L] at K g⊢;obtain⟨G,F,H⟩:=uA t m;have ho:=Np K m;obtain⟨D,M⟩:∃D:Nat,D=128+t:=⟨_,rfl⟩;rw[<-M] at hd G F H;have ei:((s[i]'o).toNat:Int)=(D:Int):=by rw[hd]
   clear hd J L M;go_wp2;go_roundw
   case rel=>exact⟨i+1,by omega,by omega,by rw[g.out];simp,rfl,v⟩
   case measure=>simp[intOf];omega
  obtain rfl:i=4:=by omega
  have T:=R.out _ v;have f:=Z.out;rw[f];clear f;go_wp2_with fail;refine(A.out _ T).mono ?_;rintro e w4⟨rfl,rfl⟩;go_wp2
  go_ret3
  exact⟨rfl,b.trans (v.mono b.size)⟩
end Go.Proofs.YtmnimbnojdndmaaGreatDoor
namespace Go.Cd
variable {T:List aG} {r:aG}
def rowFine (r:aG):Prop:=aP r.code/\r.cls<255/\r.map.length<=2/\hk r.code=0/\∀x∈r.map,hk x=0/\aP x
def rising:List aG->Prop
 | []=>True
 | r::T=>(∀q∈T,r.code<q.code)/\rising T
def Prim (T:List aG) (X:List Nat) (c:Nat):Prop:=4<=hk c\/∃a b,mapOf T c=[a,b]/\ai T c=0/\ai T a=0/\c∉X
structure aY (T:List aG) (X:List Nat):Prop where
 fine:∀r∈T,rowFine r
 rise:rising T
 full:∀r∈T,fQ T r.code
 pair:∀r∈T,∀q∈T,r.map.length=2->r.map=q.map->Prim T X r.code->Prim T X q.code->r=q
def DF {l m:List aG}:rising (l++m)↔rising l/\rising m/\∀r∈l,∀q∈m,r.code<q.code:=by
 induction l with
 | nil=>simp[rising]
 | cons a l ih=>
   simp only[List.cons_append,rising,ih,List.mem_append,List.mem_cons];constructor
   ·rintro⟨d,e,f,c⟩;refine⟨⟨λq b=>d q (.inl b),e⟩,f,?_⟩;rintro r (rfl|g) q b
    ·exact d q (.inr b)
    exact c r g q b
   rintro⟨⟨d,e⟩,f,c⟩;refine⟨?_,e,f,λr g q b=>c r (.inr g) q b⟩;rintro q (b|b)
   ·exact d q b
   exact c a (.inl rfl) q b
def rU:∀{T:List aG},rising T->∀{i j:Nat} (b:i<T.length) (a:j<T.length),i<j->T[i].code<T[j].code
 | _::T,h,0,j+1,_,a,_=>h.1 _ (List.getElem_mem (by simpa using a))
 | _::T,h,i+1,j+1,b,a,hij=>rU (T:=T) h.2 (by simpa using b) (by simpa using a) (by omega)
def Nr (h:rising T) {q:aG} (d:r∈T) (c:q∈T) (e:r.code=q.code):r=q:=by
 obtain⟨i,a,rfl⟩:=List.getElem_of_mem d;obtain⟨j,b,rfl⟩:=List.getElem_of_mem c;rcases Nat.lt_trichotomy i j with h1|rfl|h1
 ·have:=rU h a b h1;omega
 ·rfl
 have:=rU h b a h1;omega
def kS (h:rising T) (a:r∈T):rowOf T r.code=some r:=by
 unfold rowOf;cases e:T.find? λq=>q.code==r.code with
 | none=>exact absurd (List.find?_eq_none.1 e r a) (by simp)
 | some q=>
   have b:=List.mem_of_find?_eq_some e;have c:=List.find?_some e;rw[Nr h b a (by simpa using c)]
def gy {c:Nat} (h:rowOf T c=some r):r∈T/\r.code=c:=
 ⟨List.mem_of_find?_eq_some h,by simpa using List.find?_some h⟩
def Ra (h:rising T) (b:r∈T) (a:hk r.code<4):mapOf T r.code=r.map:=by
 unfold mapOf bP;rw[if_pos a,kS h b]
def Bb {X:List Nat} (h:rising T) (e:r∈T) (d:hk r.code<4) (c:Prim T X r.code):r.map.length=2:=by
 rcases c with c|⟨a,b,c,_⟩
 ·omega
 rw[Ra h e d] at c;rw[c];rfl
def aY.nil (X:List Nat):aY [] X:=⟨by simp,trivial,by simp,by simp⟩
end Go.Cd
namespace Go.Proofs.YtmnimbnojdndmaaGreatDoor
open Go.RowKit Go.Cd
variable {u v:Value} {W:World} {base n:Nat} {e:TypeId} {α:Type}
def za (u v:Value):Prop:=∀k,u.ownBlock=some k->v.ownBlock≠some k
def za.symm (h:za u v):za v u:=λk a b=>h k b a
def YV (v:Value) (n c:Nat):za (.slice none n c) v:=λk h=>by simp[Value.ownBlock] at h
def kK (W:World) (v v':Value):Prop:=v'.ownBlock=v.ownBlock\/∃k,v'.ownBlock=some k/\W.heap.size<=k
def za.push {v':Value} (h:za u v) (e:∀k,u.ownBlock=some k->k<W.heap.size) (b:kK W v v'):za u v':=by
 intro k c a;rcases b with b|⟨g,d,f⟩
 ·exact h k c (b▸a)
 rw[d] at a;cases a;have:=e k c;omega
def za.stays {b:World} {a:Nat} {c:List Value} (h:za u v) (g:W.ownsRow base e a u n c) (d:W.grownBy b v.ownBlock):b.ownsRow base e a u n c:=by
 refine g.kept d ?_;cases f:u.ownBlock with
 | none=>exact .inl rfl
 | some k=>exact .inr λe=>h k f e.symm
def kK.refl (W:World) (v:Value):kK W v v:=.inl rfl
def kK.trans {d:World} {v':Value} (h:kK W u v) (a:kK d v v') (e:W.heap.size<=d.heap.size):kK W u v':=by
 rcases a with a|⟨k,b,c⟩
 ·rcases h with h|⟨k,b,c⟩
  ·exact .inl (a.trans h)
  exact .inr ⟨k,a.trans b,c⟩
 exact .inr ⟨k,b,by omega⟩
def mV (P:Program) (t e:TypeId) (z:Value) (size bytes:Nat):Prop:=
 z.cells.size=size/\P.underlying t=some (.slice e)/\∃i,P.info? e=some i/\i.zero=some z/\i.size=size/\i.bytes=bytes
def Elem.ae2 {P:Program} {t:TypeId} {z:Value} {a:Nat} (h:Elem P t e z a):mV P t e z 1 a:=⟨kG h.1,h.2⟩
def qf {P:Program} {W:World} {ops:Array Oper} {rest:List Oper} {o:Oper} {a:Act} {Q:Exit->Act->World->Prop} (N:o.guard=none) (s x:Operand) (t:TypeId)
 (ho:o.op=.call { callee:=.builtin .append,args:=#[s,x],argTypes:=#[t,t] })
 (base:Nat) (e:TypeId) (z:Value) (c b:Nat) (hE:mV P t e z c b) (O:0<c) (aa:c<=1000) (kT:0<b) (T:b<=100000)
 (v:Value) (n:Nat) (C:List Value) (hs:a.eval s=v) (r:W.ownsRow base e c v n C)
 (us:Array Value) (hx:a.eval x=.slice (some ⟨W.heap.size,0,none⟩) 1 1) (ze:us.size=c) (U:∀u∈us.toList,u.oneCell'=true)
 (hn:n<1000000) (G:World) (S:Below base G W) (L:base<=G.heap.size)
 (h:∀v' w',w'.ownsRow base e c v' (n+1) (C++us.toList)->Below base G w'->W.grownBy w' v.ownBlock->kK W v v'->wpList P ops Q rest (a.put o.dst v') w') :
 wpList P ops Q (o::rest) a (W.alloc (.cells us e)):=by
 have:=S.size;obtain⟨J,E,i,D,K,d,w⟩:=hE;have l:=r.alloc (.cells us e);have f:∀(j:Nat) (u:Value),us.toList[j]? = some u->(W.alloc (.cells us e)).cell? ((⟨W.heap.size,0,none⟩:Addr).add j)=some u:=by
  intro j u hj;have Z:(⟨W.heap.size,0,none⟩:Addr).add j=⟨W.heap.size,j,none⟩:=by unfold Addr.add;split <;> simp_all
  rw[Z];unfold World.cell?;rw[heap_alloc_new];simpa using hj
 have A:n+1<=maxLen:=by unfold maxLen;omega
 have m:us.toList.length=1*i.size:=by rw[d,Nat.one_mul];simpa using ze
 have H:(n+1)*b<=140737488355328:=by
  have:(n+1)*b<=1000000*100000:=Nat.mul_le_mul (by omega) T;omega
 obtain⟨v',w',y,V,R,_⟩:=run_append_own (P:=P) (W.alloc (.cells us e)) base t o.type e i z c b E D K d w J O v n C l
  ⟨W.heap.size,0,none⟩ 1 1 us.toList (by rw[m,d]) f U A H (by simp;omega)
 have B:kK W v v':=by
  rcases l.2 with⟨rfl,rfl⟩|⟨g,cap,I,rfl,ac,X,ae,ad,M,F⟩
  ·have q:=run_append_nil (P:=P) (W.alloc (.cells us e)) t o.type e i z E D K ⟨W.heap.size,0,none⟩ 1 1 us.toList m f (by decide) (by decide) (by rw[w];simpa using Nat.le_trans T (by decide));rw[q] at y;injection y with e1 _;subst e1;exact .inr ⟨_,rfl,by simp⟩
  by_cases p:n+1<=cap
  ·have q:=run_append_room (P:=P) (W.alloc (.cells us e)) t o.type e i E D g n cap I X ⟨W.heap.size,0,none⟩ 1 1 us.toList m f U p (by
    rw[m,d,M,<-Nat.add_mul];exact Nat.mul_le_mul_right _ p)
   rw[q] at y;injection y with e1 _;subst e1;exact .inl rfl
  have q:=run_append_grow (P:=P) (W.alloc (.cells us e)) t o.type e i z E D K ⟨g,0,none⟩ n cap C (by rw[d];exact l.1) (l.cells (g:=g) rfl) ⟨W.heap.size,0,none⟩ 1 1 us.toList m f (by omega) (by omega) (growslice_fits (by omega) (by rw[w];omega));rw[q] at y;injection y with e1 _;subst e1;exact .inr ⟨_,rfl,by simp⟩
 refine Lib.wpList_append_run _ N s x _ _ ho v _ hs hx v' w' y ?_;refine h v' w' V ((S.alloc (by omega) _).grown R (by simp;omega) (λk hk=>(r.lt k hk).1)) ?_ B;have Y:=World.grownBy_alloc W (.cells us e) v.ownBlock;exact Y.trans R
def vV {β:Type} (f:α->List β) (n:Nat) (hf:∀a,(f a).length=n):∀(l:List α) (i:Nat) (b:i<l.length) (k:Nat),k<n->(l.flatMap f)[i*n+k]? = (f l[i])[k]?
 | a::l,0,_,k,hk=>by
   rw[List.flatMap_cons,Nat.zero_mul,Nat.zero_add,List.getElem?_append_left (by rw[hf];exact hk)];rfl
 | a::l,i+1,b,k,hk=>by
   rw[List.flatMap_cons,List.getElem?_append_right (by rw[hf,Nat.add_mul];omega),hf];have c:=vV f n hf l i (by simpa using b) k hk;rw[show(i+1)*n+k-n=i*n+k by rw[Nat.add_mul];omega,c];rfl
def vW {β:Type} (f:α->List β) (n:Nat) (hf:∀a,(f a).length=n) (l:List α):(l.flatMap f).length=l.length*n:=by
 induction l with
 | nil=>simp
 | cons a l ih=>rw[List.flatMap_cons,List.length_append,hf,ih,List.length_cons,Nat.add_mul];omega
def dC {w:World} {b:Nat} {l:List α} {f:α->List Value} (hf:∀a,(f a).length=b) (u:n=l.length) (h:w.ownsRow base e b v n (l.flatMap f)) {i:Nat} (j:i<l.length) :
 ∃g cap,v=.slice (some ⟨g,0,none⟩) n cap/\n<=cap/\g<w.heap.size/\base<=g/\∀k,k<b->w.cell? ⟨g,i*b+k,none⟩=(f l[i])[k]?/\w.frozen? ⟨g,i*b+k,none⟩=false:=by
 rcases h.2 with⟨_,h0⟩|⟨g,cap,r,rfl,p,c,q,s,t,m⟩
 ·omega
 refine⟨g,cap,rfl,q,block_lt c,p,λk o=>⟨?_,?_⟩⟩
 ·have d:i*b+k<n*b:=by
   have:(i+1)*b<=n*b:=Nat.mul_le_mul_right _ (by omega);rw[Nat.add_mul] at this;omega
  rw[<-vV f b hf l i j k o,<-m,List.getElem?_take,if_pos d];unfold World.cell?;rw[c];simp
 unfold World.frozen?;rw[c];simp
def ak {w:World} {b:Nat} {d:List Value} (h:w.ownsRow base e b v n d):∃a cap,v=.slice a n cap/\n<=cap/\(a=none->cap=0):=by
 rcases h.2 with⟨rfl,rfl⟩|⟨g,cap,f,rfl,_,_,c,_⟩
 ·exact⟨none,0,rfl,Nat.le_refl _,λ_=>rfl⟩
 exact⟨_,cap,rfl,c,λe=>by cases e⟩
end Go.Proofs.YtmnimbnojdndmaaGreatDoor
