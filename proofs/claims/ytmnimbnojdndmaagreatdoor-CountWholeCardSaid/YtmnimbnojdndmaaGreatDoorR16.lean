/- One machine of an NFD counts as its units do, multiplied; no condition. -/
import Derived.Test.YtmnimbnojdndmaaGreatDoorR15
import Derived.Test.YtmnimbnojdndmaaGreatDoorR13
import Derived.Laws.BitsAllLaws
set_option maxRecDepth 100000
set_option maxHeartbeats 6400000
set_option linter.all false
namespace Go.Proofs.YtmnimbnojdndmaaGreatDoor
open Go.RowKit Go.Cd _root_.Go.Proofs.Tryz
variable {w:World} {v u:Value} {x y:Nat}
def pK (h:bT w v x) (k:bT w u y) (P:(bY B x).length<1099511627776) (S:(bY B y).length<1099511627776) :
 Calls prog 12 #[v,u] w λe w'=>e=.returned (.int .i64 (sK x y))/\Below w.heap.size w w':=by
 obtain⟨a,n,cap,rfl,h⟩:=h.out;obtain⟨N,c,f,rfl,k⟩:=k.out;have L:=h.len;have r:=k.len;rw[<-L] at P;rw[<-r] at S;have Z:=aa L;have T:=aa r;have R:=aa h;have Q:=aa k;have b:∀m,n<=m->c<=m->x / B ^ m=y / B ^ m:=λm h1 W=>by
  rw[Nat.div_eq_of_lt ((cZ bE).1 (by omega)),Nat.div_eq_of_lt ((cZ bE).1 (by omega))]
 have E:=aa b;clear L r h k b;go_enter func12,ntmps12;go_wp2_with fail
 all_goals
  go_loopw [5] (λi wr=>∃k:Nat,(k<=n\/k<=c)/\i=.int .i64 ((k:Int)-1)/\x / B ^ k=y / B ^ k/\Below w.heap.size w wr/\wr.cell? ⟨w.heap.size,0,none⟩=some (.slice a n cap)/\wr.cell? ⟨w.heap.size+1,0,none⟩=some (.slice N c f)/\w.heap.size+1<wr.heap.size)
   (λi _=>((intOf i)+1).toNat)
  case atStart=>
   first
    | exact⟨c,.inr (Nat.le_refl _),rfl,E.out _ (by omega) (by omega),dH _ _,by go_simp,by go_simp,by simp⟩
    | exact⟨n,.inl (Nat.le_refl _),rfl,E.out _ (by omega) (by omega),dH _ _,by go_simp,by go_simp,by simp⟩
    | exact(Nat.le_total n c).elim (λV=>⟨c,.inr (Nat.le_refl _),by rw[show max (n:Int) (c:Int)=c by omega],E.out _ (by omega) (by omega),dH _ _,by go_simp,by go_simp,by simp⟩) (λV=>⟨n,.inl (Nat.le_refl _),by rw[show max (n:Int) (c:Int)=n by omega],E.out _ (by omega) (by omega),dH _ _,by go_simp,by go_simp,by simp⟩)
  case round=>
   obtain⟨k,X,rfl,F,z,q,s,l⟩:=hrel;have D:=aa F;clear F;by_cases U:0<k
   ·obtain⟨j,rfl⟩:∃j,k=j+1:=⟨k-1,by omega⟩;have O:((j+1:Nat):Int)-1=j:=by omega
    rw[O];clear O;go_wp2_with fail;have H:∀g:Gr wr.drew,g.tw.cell? ⟨w.heap.size,0,none⟩=some (.slice a n cap):=λg=>(g.ext.cell (p:=⟨w.heap.size,0,none⟩) (by simp;omega)).trans q;have M:∀g:Gr wr.drew,g.tw.cell? ⟨w.heap.size+1,0,none⟩=some (.slice N c f):=λg=>(g.ext.cell (p:=⟨w.heap.size+1,0,none⟩) (by simp;omega)).trans s;refine aC (Array.replicate 8 true) 8 0 mixed ?_;refine ay [0,1,3,4] 4 ?_
    repeat (refine aA rfl ?_;go_big_quiet_step (rfl))
    refine az ?_;refine aI 2 ?_;go_wp2_with fail;refine(sw (x:=x) (R.out.mono (af z (ag _))) j).mono ?_;rintro e w1⟨rfl,d⟩;go_wp2_with fail;refine aF d ?_;refine aI 5 ?_;go_wp2_with fail;refine(sw (x:=y) (Q.out.mono (af z (af (ag _) d))) j).mono ?_;rintro e Y⟨rfl,o⟩;go_wp2_with fail;refine aF o ?_;refine ay [6,7] 0 ?_
    repeat (refine aA rfl ?_;go_big_quiet_step (rfl))
    refine az ?_;refine aJ [] ?_;refine tail_nil ?_;have t:=af (ag _) (af d o);have J:=af z t;have K:=(t.cell (p:=⟨w.heap.size,0,none⟩) (by show w.heap.size<wr.heap.size;omega)).trans q;have G:=(t.cell (p:=⟨w.heap.size+1,0,none⟩) l).trans s;have C:=Nat.lt_of_lt_of_le l t.size;clear H M d o q s z l t;go_wp2
    ·have A:oJ B x j<oJ B y j:=by assumption
     go_ret;exact⟨Gw (Q0 (Eu D.out A)).symm,J⟩
    ·have A:oJ B y j<oJ B x j:=by assumption
     go_ret;exact⟨Gw (xJ (Eu D.out.symm A)).symm,J⟩
    have A:oJ B x j=oJ B y j:=by omega
    have F:x / B ^ j=y / B ^ j:=by rw[vO x j,vO y j,D.out,A]
    go_roundw
    case rel=>exact⟨j,by omega,rfl,F,J,K,G,C⟩
    case measure=>simp[intOf]
   obtain rfl:k=0:=by omega
   have I:x=y:=by have:=D.out;simpa using this
   subst I;go_wp2;go_ret;exact⟨Gw (UG _).symm,z⟩
def Cg (l:List Nat) (i d:Nat):(gY l).set i (.int .u32 d)=gY (l.set i d):=by simp[gY,List.map_set]
def VZ (f:Nat->Nat) (i k:Nat):((List.range i).map f++List.replicate (k+1) 0).set i (f i)=(List.range (i+1)).map f++List.replicate k 0:=by
 rw[List.range_succ,List.map_append,List.set_append_right _ _ (by simp)];simp[List.replicate_succ]
def Oo (h:bT w v x) (k:bT w u y) (hx:(bY B x).length<549755813888) (hy:(bY B y).length<549755813888) :
 Calls prog 26 #[v,u] w λe w'=>∃r,e=.returned r/\bT w' r (x+y)/\Below w.heap.size w w':=by
 obtain⟨a,n,cap,rfl,h⟩:=h.out;obtain⟨a2,F,L,rfl,k⟩:=k.out;have hn:=h.len;have Q:=k.len;rw[<-hn] at hx;rw[<-Q] at hy;have HX:=aa h;have HY:=aa k;obtain⟨M,hM,aq,ao,ap⟩:∃M:Nat,(if n<F then (F:Int) else (n:Int))=(M:Int)/\n<=M/\F<=M/\M<=n+F:=by
  by_cases I:n<F
  ·exact⟨F,by rw[if_pos I],by omega,by omega,by omega⟩
  exact⟨n,by rw[if_neg I],by omega,by omega,by omega⟩
 have z:x+y<B ^ (M+1):=Nb bE ((cZ bE).1 (by omega)) ((cZ bE).1 (by omega));have HS:=aa z;clear hn Q h k z;go_enter func26,ntmps26;go_wp2_with (at_make;refine gm _ rfl _ _ 42 rfl (w.heap.size+3) nI _ 4 Gy rfl .i64 .i64 _ _ (M+1) rfl rfl (by omega) (by omega) (by omega) (by unfold maxLen;omega) (by simp) ?_;intro H f s);have o:=fO s;have ab:H.cell? ⟨w.heap.size,0,none⟩=some (.slice a n cap):=aB o (by go_simp);have al:H.cell? ⟨w.heap.size+1,0,none⟩=some (.slice a2 F L):=aB o (by go_simp);have P:H.heap[w.heap.size+1+1]? = some (.cells #[.slice none 0 0] 44):=(o.block _ (by simp)).trans (heap_alloc_new' _ _ _ (by simp));have O:Below w.heap.size w H:=(((ah _).alloc (by simp) _).alloc (by simp;omega) _).trans (o.mono (by simp;omega));have an:w.heap.size+3<=H.heap.size:=by have:=o.size;simpa using this
 have HK:=aa P;clear s o P;go_loopw [7,22] (λc i wr=>∃k:Nat,k<=M+1/\i=.int .i64 k/\c=.int .u64 (carry B x y k:Nat)/\wr.ownsRow (w.heap.size+3) nI 1 (.slice (some ⟨w.heap.size+1+1+1,0,none⟩) (M+1) (M+1)) (M+1) (gY (z_ B (x+y) k++List.replicate (M+1-k) 0))/\Below (w.heap.size+3) H wr)
  (λ_ i _=>M+1-(intOf i).toNat)
 case atStart=>exact⟨0,by omega,rfl,by rw[carry_zero];rfl,by simpa [gY,z_] using f,Below.refl _ _⟩
 case round=>
  obtain⟨k,K,rfl,rfl,f,A⟩:=hrel;have t:Below w.heap.size w wr:=O.trans (A.mono (by omega));by_cases I:k<M+1
  ·have U:=λ(W:World) (E:Below w.heap.size w W)=>sw (HX.out.mono E) k;have T:=λ(W:World) (E:Below w.heap.size w W)=>sw (HY.out.mono E) k;have m:=carry_succ bE x y k;have q:=YD bE x y k;have ak:=UF bE x y k;have N:=xI bE x k;have J:=xI bE y k;generalize oJ B x k=dx at U T m q N;generalize oJ B y k=dy at U T m q J;generalize carry B x y k=c at m q ak⊢;have L1:=aa U;have L2:=aa T;have ac:=aa m;have Y:=aa q;unfold B at N J;clear U T m q;have hd:=aa f;clear f;go_wp2_with fail;refine aC (Array.replicate 10 true) 10 0 mixed ?_;have X:=Gr.cell (ag wr) ((A.cell (p:=⟨w.heap.size,0,none⟩) (by simp)).trans ab);have am:=Gr.cell (ag wr) ((A.cell (p:=⟨w.heap.size+1,0,none⟩) (by simp)).trans al);refine ay [0,1,3,4,7] 5 ?_
   repeat (refine aA rfl ?_;go_big_quiet_step (rfl))
   refine az ?_;clear X am;refine aI 2 ?_;go_wp2_with fail;refine(L1.out _ (af t (ag _))).mono ?_;rintro e S⟨rfl,g⟩;go_wp2_with fail;refine aF g ?_;refine aI 5 ?_;go_wp2_with fail;refine(L2.out _ (af t (af (ag _) g))).mono ?_;rintro e w3⟨rfl,C⟩;go_wp2_with fail;refine aF C ?_;refine ay [6,8,9] 0 ?_
   repeat (refine aA rfl ?_;go_big_quiet_step (rfl))
   refine az ?_;refine aJ [] ?_;refine tail_nil ?_;have Z:=af (ag wr) (af g C);have l:=aH hd.out Z;obtain⟨D,ai⟩:=jY l (j:=k) (by simp;omega);have R:=(l.stored k (.int .u32 (oJ B (x+y) k:Nat))).1;have ae:Below (w.heap.size+3) H (w3.setCell ⟨w.heap.size+1+1+1,k,none⟩ (.int .u32 (oJ B (x+y) k:Nat))):=aj (A.trans (Z.mono (by have:=A.size;omega))) (by omega);have ad:=aa R;clear g C Z l R;go_wp2;go_roundw
   case rel=>
    have e1:((dx:Int)+dy+c) / 4294967296=(carry B x y (k+1):Nat):=by have:=ac.out;unfold B at this⊢;omega
    have e2:((dx:Int)+dy+c) % 4294967296=(oJ B (x+y) k:Nat):=by have:=Y.out;unfold B at this⊢;omega
    rw[e1,e2];refine⟨k+1,by omega,rfl,rfl,?_,ae⟩;have V:=ad.out;rw[Cg,show M+1-k=(M+1-(k+1))+1 from by omega] at V;unfold z_ at V⊢;rw[VZ] at V;exact V
   case measure=>simp[intOf];omega
  go_wp2_with fail;obtain rfl:k=M+1:=by omega
  have hl:∀d∈z_ B (x+y) (M+1),d<B:=YC bE _ _;rw[Nat.sub_self,List.replicate_zero,List.append_nil] at f;refine(H8 (Sl.aU f) hl (by simp;omega)).mono ?_;rintro e S⟨r2,rfl,G,g⟩;rw[Jk,Nat.mod_eq_of_lt HS.out] at G;obtain⟨a3,n3,rz,rfl,hN⟩:=G.out;have K:S.heap[w.heap.size+1+1]? = some (.cells #[.slice none 0 0] 44):=(g.block (w.heap.size+1+1) (by have:=A.size;omega)).trans ((A.block (w.heap.size+1+1) (by omega)).trans HK.out);obtain⟨m,hR⟩:=oN K (by decide) hN;have hB:=aj (off:=0) (u:=.slice a3 n3 rz) (af t g) (b:=w.heap.size+1+1) (by omega);have D:S.cell? ⟨w.heap.size+1+1,0,none⟩=some (.slice none 0 0):=by unfold World.cell?;rw[K];rfl
  have ai:S.frozen? ⟨w.heap.size+1+1,0,none⟩=false:=by unfold World.frozen?;rw[K];rfl
  clear K g G hN f A t O;go_wp2;exact bodyPost_ret (v:=.agg #[.slice a3 n3 rz]) (by simp[results,results26,go_sem,m]) rfl ⟨_,rfl,hR,hB⟩
def V3 {l m:List Nat} (h:Sl nI w v (gY l)) (k:Sl nI w u (gY m)) (y:l.length<1099511627776) :
 Calls prog 51 #[v,u] w λe w'=>e=.returned (.bool (decide (l=m)))/\Below w.heap.size w w':=by
 obtain⟨a,cap,rfl,S,M⟩:=h.out;obtain⟨U,K,rfl,I,B⟩:=k.out;simp only[dG] at *;clear h k;by_cases f:l.length=m.length
 ·have g:∀i (F:i<l.length) (T:i<m.length),∃b off r D,a=some ⟨b,off,none⟩/\U=some ⟨r,D,none⟩/\w.cell? ⟨b,off+i,none⟩=some (.int .u32 (l[i]:Nat))/\w.cell? ⟨r,D+i,none⟩=some (.int .u32 (m[i]:Nat)):=λi F T=>by
   obtain⟨b,off,P,_,C⟩:=M i F;obtain⟨r,D,H,_,q⟩:=B i (by omega);rw[gP _ _ F] at C;rw[gP _ _ (by omega)] at q;exact⟨b,off,r,D,P,H,C,q⟩
  have G:=aa g;have c:=aa f;obtain⟨n,E⟩:=ae l.length;have j:=aa E;rw[<-f,<-E];rw[<-E] at y;clear g M B f E S I;go_enter func51,ntmps51;go_wp2_with fail;go_loopw [13] (λi wr=>∃k:Nat,k<=n/\i=.int .i64 k/\l.take k=m.take k/\Below w.heap.size w wr) (λi _=>n-(intOf i).toNat)
  case atStart=>exact⟨0,by omega,rfl,rfl,Below.refl _ _⟩
  case round=>
   obtain⟨k,X,rfl,t,z⟩:=hrel;have N:=aa t;clear t;by_cases W:k<n
   ·obtain⟨b,off,r,D,rfl,rfl,C,q⟩:=G.out k (by have:=j.out;omega) (by have:=j.out;have:=c.out;omega);obtain⟨d,hd⟩:∃d,d=l[k]'(by have:=j.out;omega):=⟨_,rfl⟩;obtain⟨L,o⟩:∃d,d=m[k]'(by have:=j.out;have:=c.out;omega):=⟨_,rfl⟩;rw[<-hd] at C;rw[<-o] at q;have J:=aa hd;have A:=aa o;have O:=Gr.cell (af z (ag wr)) C;have V:=Gr.cell (af z (ag wr)) q;clear hd o;go_wp2_with fail;refine aC (Array.replicate 9 true) 9 0 mixed ?_;refine ay [0,1,2,3,4,5,6,7,8] 0 ?_
    repeat (refine aA rfl ?_;go_big_quiet_step (rfl))
    refine az ?_;refine aJ [] ?_;refine tail_nil ?_;by_cases x:d=L
    ·subst x;go_wp2;go_roundw
     case rel=>
      refine⟨k+1,by omega,rfl,?_,af z (ag wr)⟩;rw[List.take_succ_eq_append_getElem (by have:=j.out;omega),List.take_succ_eq_append_getElem (by have:=j.out;have:=c.out;omega),N.out,<-J.out,<-A.out]
     case measure=>simp[intOf];omega
    have R:((d:Int)==L)=false:=by simp;omega
    have p:¬l=m:=λe=>x (by rw[J.out,A.out];subst e;rfl);have s:=aa (decide_eq_false p);go_wp2;go_ret;exact⟨dV s.out.symm,af z (ag wr)⟩
   obtain rfl:k=n:=by omega
   have Q:l=m:=by
    have:=N.out;rw[List.take_of_length_le (by rw[j.out];exact Nat.le_refl _),List.take_of_length_le (by rw[j.out,c.out];exact Nat.le_refl _)] at this;exact this
   have s:=aa (decide_eq_true Q);go_wp2;go_ret;exact⟨dV s.out.symm,z⟩
 have p:¬l=m:=λe=>f (by rw[e]);have s:=aa (decide_eq_false p);rw[s.out];have R:((l.length:Int)==m.length)=false:=by simp;omega
 go_enter func51,ntmps51;go_wp2;go_ret;exact⟨rfl,Below.refl _ _⟩
def bT.sl {s:Value} (h:bT w (.agg #[s]) x):Sl nI w s (gY (bY B x)):=by
 obtain⟨b,a,h⟩:=h;simp at a;rw[a];exact h
def H9 (h:bT w v x) (k:bT w u y) (g:(bY B x).length<1099511627776) :
 Calls prog 17 #[v,u] w λe w'=>e=.returned (.bool (decide (x=y)))/\Below w.heap.size w w':=by
 obtain⟨a,n,cap,rfl,h⟩:=h.out;obtain⟨j,l,c,rfl,k⟩:=k.out;have b:=λ(W:World) (E:Below w.heap.size w W)=>V3 ((bT.sl h).mono E) ((bT.sl k).mono E) g;have hd:decide (bY B x=bY B y)=decide (x=y):=by
  rw[decide_eq_decide];exact⟨λe=>UD bE e,λe=>by rw[e]⟩
 rw[hd] at b;have f:=aa b;clear b hd h k;go_enter func17,ntmps17;go_wp2_with fail;refine(f.out _ (dH _ _)).mono ?_;rintro e i⟨rfl,d⟩;go_wp2;go_ret;exact⟨rfl,af (dH _ _) d⟩
end Go.Proofs.YtmnimbnojdndmaaGreatDoor
namespace Go.Cd
open Go.RowKit
def iw (z:Value) (k:Nat):Builtin.zeroCells #[z] k=(List.replicate k z).toArray:=by
 apply Array.ext
 ·simp[Builtin.zeroCells]
 intro i a b;simp[Builtin.zeroCells];rw[Nat.mod_one];simp
def rA {P:Program} (w:World) (base:Nat) (t M Y e:TypeId) (i:TypeInfo) (z:Value) (V R:IntKind) (s:Nat) (L:P.underlying t=some (.slice e)) (m:P.underlying M=some (.int R))
 (J:P.info? e=some i) (T:i.zero=some z) (d:i.size=1) (Q:i.bytes=s) (B:z.cells=#[z]) (Z:z.oneCell'=true)
 (v:Value) (n:Nat) (o:List Value) (a:w.ownsRow base e 1 v n o) (k:Nat)
 (S:n+k<=maxLen) (f:(n+k)*s<=140737488355328) (C:base<=w.heap.size) :
 ∃v' w',(Builtin.append_ #[t,M] Y #[v,.int V k]).run P w=.ok v' w'/\w'.ownsRow base e 1 v' (n+k) (o++List.replicate k z)/\w.grownBy w' v.ownBlock:=by
 subst Q
 have hm:maxLen<=9223372036854775807:=by decide
 have hw:IntKind.i64.wrap (k:Int)=k:=by rw[IntKind.wrap_i64];omega
 have ab:k*i.bytes<=140737488355328:=Nat.le_trans (Nat.mul_le_mul_right _ (by omega)) f;have c:(o++List.replicate k z).length=(n+k)*1:=by have:=a.1;simp at this⊢;exact this
 have q:∀(b:Nat),b<n+k->∀(row:Option Nat),
  (w.drew.alloc (.cells (o.toArray++(List.replicate k z).toArray++(List.replicate (grownCap w (n+k) b e-(n+k)) z).toArray) e)).ownsRow base e 1
    (.slice (some ⟨w.heap.size,0,none⟩) (n+k) (grownCap w (n+k) b e)) (n+k) (o++List.replicate k z)/\
  w.grownBy (w.drew.alloc (.cells (o.toArray++(List.replicate k z).toArray++(List.replicate (grownCap w (n+k) b e-(n+k)) z).toArray) e)) row:=by
  intro b ho row;have N:=grownCap_ge w (n+k) b e;have D:grownCap w (n+k) b e<=maxLen:=grownCap_le_maxLen w (n+k) b e S;have O:=a.1;refine⟨⟨c,.inr ⟨w.heap.size,_,_,rfl,C,heap_alloc_new w.drew _,N,D,?_,?_⟩⟩,⟨rfl,rfl,rfl,by simp,λj W _=>Below.heap_alloc w.drew _ j W⟩⟩
  ·simp at O⊢;omega
  show List.take ((n+k)*1) ((o.toArray++(List.replicate k z).toArray++(List.replicate (grownCap w (n+k) b e-(n+k)) z).toArray).toList)=_;rw[Array.toList_append,Array.toList_append,<-c];exact List.take_left
 have K:IntKind.i64.wrap 0=0:=by decide
 have G:¬((k:Int)<0):=by omega
 have E:¬(281474976710656<(k:Int)*(i.bytes:Int)):=by rw[<-Int.natCast_mul];omega
 rcases a.2 with⟨rfl,rfl⟩|⟨g,cap,x,rfl,X,hg,aa,D,U,y⟩
 ·have O:o=[]:=List.eq_nil_of_length_eq_zero (by simpa using a.1);subst O;by_cases h0:k=0
  ·subst h0;refine⟨.slice none 0 0,w,?_,World.ownsRow_nil w base e 1,⟨rfl,rfl,rfl,Nat.le_refl _,λ_ _ _=>rfl⟩⟩;simp[Builtin.append_,run_underlying L,run_underlying m,sizeOf,typeInfo,J,asInt,asIntOf,K]
  have I:=Lib.run_append_nil_zeros (P:=P) w t M Y e i z V R L m J T k (by omega) (by omega) (by omega) (by omega);rw[B,iw,iw] at I;have l:=q 0 (by omega) (Value.ownBlock (.slice none 0 0));simp only[Nat.zero_add,List.nil_append,Array.empty_append] at l⊢;exact⟨_,_,I,l.1,l.2⟩
 by_cases p:n+k<=cap
 ·have r:=run_storeCells_at P g n e (List.replicate k z) 0 x w hg (by simp;omega) (by intro u hu;rw[(List.mem_replicate.1 hu).2];exact Z);simp only[Nat.add_zero] at r;refine⟨.slice (some ⟨g,0,none⟩) (n+k) cap,w.setRow g (x.toList.take n++List.replicate k z++x.toList.drop (n+(List.replicate k z).length)).toArray,?_,⟨c,.inr ⟨g,cap,_,rfl,X,setRow_heap w g x _ e _ hg,p,D,?_,?_⟩⟩,⟨rfl,rfl,rfl,by simp,λj _ W=>setRow_other w g j _ (λe=>W (by simp[Value.ownBlock,e]))⟩⟩
  ·by_cases h0:k=0
   ·subst h0;simp[Builtin.append_,run_underlying L,run_underlying m,sizeOf,typeInfo,J,asInt,asIntOf,K,aa,d,Addr.add_lit] at r⊢;rw[r];rfl
   simp[Builtin.append_,run_underlying L,run_underlying m,sizeOf,typeInfo,zeroValue,J,T,asInt,asIntOf,hw,p,G,E,d,h0,B,iw,Addr.add_lit];simp at r;rw[r];rfl
  ·simp;simp at U;omega
  have F:=y;simp only[Nat.mul_one] at F c⊢;rw[F,<-c];exact List.take_left
 have A:∀j u,o[j]? = some u->w.cell? ((⟨g,0,none⟩:Addr).add j)=some u:=a.cells (g:=g) rfl;have H:=run_firstCells_some (P:=P) w.drew i.size n ⟨g,0,none⟩ n cap o (by rw[d];exact a.1) (λj u h=>A j u h);have h0:0<k:=by omega
 have I:=Lib.run_append_grow_zeros (P:=P) w t M Y e i z V R L m J T (some ⟨g,0,none⟩) n cap o H k h0 (by omega) (by omega) (by omega) (by omega) (growslice_fits (by omega) f);rw[B,iw,iw] at I;have l:=q cap (by omega) (Value.ownBlock (.slice (some ⟨g,0,none⟩) n cap));exact⟨_,_,I,l.1,l.2⟩
def sU {P:Program} {w:World} {ops:Array Oper} {rest:List Oper} {o:Oper} {a:Act} {Q:Exit->Act->World->Prop} (u:o.guard=none) (s x:Operand) (t j:TypeId)
 (L:o.op=.call { callee:=.builtin .append,args:=#[s,x],argTypes:=#[t,j] }) (y B:IntKind) (m:P.underlying j=some (.int B))
 (base:Nat) (e:TypeId) (z:Value) (b:Nat) (E:Elem P t e z b) (p:z.cells=#[z])
 (v:Value) (n:Nat) (r:List Value) (I:a.eval s=v) (g:w.ownsRow base e 1 v n r) (k:Nat) (D:a.eval x=.int y k)
 (q:n+k<=maxLen) (c:(n+k)*b<=140737488355328) (d:base<=w.heap.size)
 (h:∀v' w',w'.ownsRow base e 1 v' (n+k) (r++List.replicate k z)->w.grownBy w' v.ownBlock->wpList P ops Q rest (a.put o.dst v') w'):wpList P ops Q (o::rest) a w:=by
 obtain⟨A,J,i,H,G,f,l⟩:=E;obtain⟨v',w',F,K,C⟩:=rA (P:=P) w base t j o.type e i z y B b J m H G f l p A v n r g k q c d;exact Lib.wpList_append_run w u s x t j L v (.int y k) I D v' w' F (h v' w' K C)
end Go.Cd
namespace Go.Proofs.YtmnimbnojdndmaaGreatDoor
open Go.RowKit Go.Cd _root_.Go.Proofs.Tryz
variable {w:World} {v:Value} {l:List Nat} {x:Nat}
def H_ (b:Nat):∀(l:List Nat) (j v:Nat),j<l.length->val b (l.set j v)+l[j]?.getD 0*b ^ j=val b l+v*b ^ j
 | [],_,_,h=>by simp at h
 | d::l,0,v,_=>by simp[val];omega
 | d::l,j+1,v,h=>by
   have:=H_ b l j v (by simpa using h);simp only[List.set_cons_succ,val,List.getElem?_cons_succ,Nat.pow_succ];have e:∀p q:Nat,p*(q*b)=b*(p*q):=λp q=>by rw[<-Nat.mul_assoc,Nat.mul_comm]
   rw[e,e,Nat.add_assoc,Nat.add_assoc,<-Nat.mul_add,<-Nat.mul_add,this]
def ug (b:Nat) (l:List Nat) (j:Nat) (h:j<l.length):val b (l.take (j+1))=val b (l.take j)+l[j]*b ^ j:=by
 rw[List.take_succ_eq_append_getElem h,val_append];simp[val,Nat.min_eq_left (Nat.le_of_lt h),Nat.mul_comm]
def Sl.afX (h:Sl nI w v (gY l)):∃a cap,v=.slice a l.length cap/\l.length<=cap/\∀i (c:i<l.length),∃b off,a=some ⟨b,off,none⟩/\b<w.heap.size/\w.cell? ⟨b,off+i,none⟩=some (.int .u32 (l[i]:Nat)):=by
 obtain⟨a,cap,g,e,k⟩:=Sl.out h;refine⟨a,cap,by rw[g,dG],by rw[dG] at e;exact e,λi c=>?_⟩;obtain⟨b,off,j,f,d⟩:=k i (by rw[dG];exact c);rw[gP _ _ c] at d;exact⟨b,off,j,f,d⟩
def V4 {p q o c:Nat} (d:p<4294967296) (b:q<4294967296) (f:o<4294967296) (e:c<4294967296):p*q+o+c<18446744073709551616:=by
 have:p*q<=4294967295*4294967295:=Nat.mul_le_mul (by omega) (by omega);omega
def ZM {b vs vl A PV W s1 s0 pq o cc:Nat} (f:vs+o*W=vl+s0*W) (e:vl+cc*W=A+PV) (a:b*s1+s0=pq+o+cc):vs+s1*(W*b)=A+(PV+pq*W):=by
 have c:(b*s1+s0)*W=(pq+o+cc)*W:=by rw[a]
 rw[Nat.add_mul,Nat.add_mul,Nat.add_mul] at c;have d:s1*(W*b)=b*s1*W:=by rw[Nat.mul_comm W b,<-Nat.mul_assoc,Nat.mul_comm s1 b]
 rw[d];omega
def getD_set_ne {i j v:Nat} (h:i≠j):(l.set i v)[j]?.getD 0=l[j]?.getD 0:=by rw[List.getElem?_set_ne h]
def uh {i v b:Nat} (c:∀d∈l,d<b) (a:v<b):∀d∈l.set i v,d<b:=λd hd=>by
 rcases List.mem_or_eq_of_mem_set hd with h|rfl
 ·exact c d h
 exact a
def V5 {u:Value} {y:Nat} (h:bT w v x) (k:bT w u y) (hx:(bY B x).length<274877906944) (hy:(bY B y).length<274877906944) :
 Calls prog 27 #[v,u] w λe w'=>∃r,e=.returned r/\bT w' r (x*y)/\Below w.heap.size w w':=by
 obtain⟨a,n,cap,rfl,h⟩:=h.out;obtain⟨R,U,f,rfl,k⟩:=k.out;have hb:=(ah (w:=w) (.cells #[.slice a n cap] 44)).alloc (by simp) (.cells #[.slice R U f] 44) |>.alloc (by simp;omega) (.cells #[.slice none 0 0] 44);have c1:(((w.alloc (.cells #[.slice a n cap] 44)).alloc (.cells #[.slice R U f] 44)).alloc (.cells #[.slice none 0 0] 44)).cell? ⟨w.heap.size,0,none⟩=some (.slice a n cap):=by go_simp
 have c2:(((w.alloc (.cells #[.slice a n cap] 44)).alloc (.cells #[.slice R U f] 44)).alloc (.cells #[.slice none 0 0] 44)).cell? ⟨w.heap.size+1,0,none⟩=some (.slice R U f):=by go_simp
 have c3:(((w.alloc (.cells #[.slice a n cap] 44)).alloc (.cells #[.slice R U f] 44)).alloc (.cells #[.slice none 0 0] 44)).heap[w.heap.size+1+1]? = some (.cells #[.slice none 0 0] 44):=heap_alloc_new' _ _ _ (by simp);have N1:=h.mono hb;have N2:=k.mono hb;have L1:=aa (λ(W:World) (E:Below _ _ W)=>zR (N1.mono E) (by omega));have L2:=aa (λ(W:World) (E:Below _ _ W)=>zR (N2.mono E) (by omega));have T0:=AO (((w.alloc (.cells #[.slice a n cap] 44)).alloc (.cells #[.slice R U f] 44)).alloc (.cells #[.slice none 0 0] 44));have vx:=nT bE x;have vy:=nT bE y;have lx:=Gv bE x;have ly:=Gv bE y;generalize bY B x=X at *;generalize bY B y=Y at *;have VX:=aa vx;have VY:=aa vy;have LX:=aa lx;have LY:=aa ly;have s3:(((w.alloc (.cells #[.slice a n cap] 44)).alloc (.cells #[.slice R U f] 44)).alloc (.cells #[.slice none 0 0] 44)).heap.size=w.heap.size+3:=by simp
 have HB:=aa hb;clear h k N1 N2 vx vy lx ly hb;go_enter func27,ntmps27;go_wp2_with fail;refine aC (Array.replicate 6 true) 6 0 mixed ?_;have SE:=af T0 (ag _);have Q:=Gr.cell SE c1;have T:=Gr.cell SE c2;refine ay [0,2] 4 ?_
 iterate 2 (refine aA rfl ?_;go_big_quiet_step (rfl))
 refine az ?_;clear Q T;refine aI 1 ?_;go_wp2_with fail;refine(L1.out _ SE).mono ?_;rintro e aK⟨r1,rfl,o1,SF⟩;go_wp2_with fail;refine aF SF ?_;have Uv:=af SE SF;refine aI 3 ?_;go_wp2_with fail;refine(L2.out _ Uv).mono ?_;rintro e D⟨r2,rfl,o2,FN⟩;go_wp2_with fail;refine aF FN ?_;have Yo:=af Uv FN;have Q:=Gr.cell Yo c1;have T:=Gr.cell Yo c2;refine ay [4,5] 0 ?_
 iterate 2 (refine aA rfl ?_;go_big_quiet_step (rfl))
 refine az ?_;clear Q T;refine aJ [] ?_;refine tail_nil ?_;have S1:=(Sl.aU o1).mono FN;have S2:=Sl.aU o2;have C:=Yo;obtain⟨x1,Ao,rfl,_,al⟩:=Sl.afX S1;obtain⟨x2,aH,rfl,_,ap⟩:=Sl.afX S2;have z3:D.heap[w.heap.size+1+1]? = some (.cells #[.slice none 0 0] 44):=(C.block _ (by rw[s3];omega)).trans c3;have zs:w.heap.size+3<=D.heap.size:=by have:=C.size;rw[s3] at this;exact this
 have K:Below w.heap.size w D:=HB.out.trans (C.mono (by rw[s3];omega));have mH:=aa al;have Jc:=aa ap;have Z3:=aa z3;clear o1 o2 S1 S2 al ap c1 c2 c3 Yo SF FN L1 L2 T0 s3 z3 C HB;have FN:=K;go_wp2_with (at_make;refine gm _ rfl _ _ 42 rfl D.heap.size nI _ 4 Gy rfl .i64 .i64 _ _ (X.length+Y.length) rfl rfl (by omega) (by omega) (by omega) (by unfold maxLen;omega) (by simp) ?_;intro w3 am F);have aG:=fO F;clear F
 go_loopw [26] (λi wr=>∃(j:Nat) (l:List Nat),j<=X.length/\i=.int .i64 j/\l.length=X.length+Y.length/\(∀d∈l,d<B)/\(∀t,j+Y.length<=t->l[t]?.getD 0=0)/\val B l=val B (X.take j)*y/\
  wr.ownsRow D.heap.size nI 1 (.slice (some ⟨D.heap.size,0,none⟩) (X.length+Y.length) (X.length+Y.length)) (X.length+Y.length) (gY l)/\Below D.heap.size D wr)
  (λi _=>X.length-(intOf i).toNat)
 case atStart=>
  refine⟨0,List.replicate (X.length+Y.length) 0,Nat.zero_le _,rfl,by simp,?_,?_,by simp[Et,val],by simpa [gY] using am,aG⟩
  ·intro d hd;rw[(List.mem_replicate.1 hd).2];decide
  intro t _;rw[List.getElem?_replicate];split <;> rfl
 case round=>
  obtain⟨j,l,hj,rfl,hl,G,V,hv,hO,C⟩:=hrel;by_cases Og:j<X.length
  ·obtain⟨b1,aD,rfl,aB,L⟩:=mH.out j Og;have L:=(C.cell (p:=⟨b1,aD+j,none⟩) aB).trans L;have hp:X[j]<B:=LX.out _ (List.getElem_mem _);have HV:=aa hv;have Qo:=aa G;have HZ:=aa V;generalize hP:X[j]=p at *;have aw:=aa hP;clear hv G V hP;go_wp2_with fail
   go_loopw [10,33] (λc k ac=>∃(cc t:Nat) (l:List Nat),t<=Y.length/\k=.int .i64 t/\c=.int .u64 cc/\cc<B/\l.length=X.length+Y.length/\(∀d∈l,d<B)/\(∀s,j+Y.length<=s->l[s]?.getD 0=0)/\
    val B l+cc*B ^ (j+t)=val B (X.take j)*y+p*B ^ j*val B (Y.take t)/\
    ac.ownsRow D.heap.size nI 1 (.slice (some ⟨D.heap.size,0,none⟩) (X.length+Y.length) (X.length+Y.length)) (X.length+Y.length) (gY l)/\Below D.heap.size D ac)
    (λ_ k _=>Y.length-(intOf k).toNat)
   case atStart=>
    exact⟨0,0,l,Nat.zero_le _,rfl,rfl,by decide,hl,Qo.out,HZ.out,by simp[val];exact HV.out,hO,C⟩
   case round=>
    clear HV Qo HZ hO C L;obtain⟨cc,t,J,ht,rfl,rfl,H,aq,I,ak,Z,m,M⟩:=hrel;have Yg:=aa Z;have S:=aa I;have P:=aa ak;clear Z I ak;by_cases ao:t<Y.length
    ·obtain⟨b2,Lf,rfl,av,ae⟩:=Jc.out t ao;have ae:=(M.cell (p:=⟨b2,Lf+t,none⟩) av).trans ae;have hq:Y[t]<B:=LY.out _ (List.getElem_mem _);obtain⟨g,an⟩:=jY m (j:=j+t) (by simp;omega);rw[gP _ _ (by omega)] at g;have ho:J[j+t]<B:=S.out _ (List.getElem_mem _);have HS:=aa (λ(u:Value)=>(m.stored (j+t) u).1);generalize hQ:Y[t]=q at *;generalize ad:J[j+t]=o at *;have HQ:=aa hQ;have au:=aa ad;have hs:=V4 (p:=p) (q:=q) (o:=o) (c:=cc) (by unfold B at hp;exact hp) (by unfold B at hq;exact hq) (by unfold B at ho;exact ho) (by unfold B at H;exact H);clear hQ ad m;go_wp2;go_roundw
     case rel=>
      have w1:IntKind.u64.wrap (p:Int)=p:=by rw[IntKind.wrap_u64];unfold B at hp;omega
      have w2:IntKind.u64.wrap (q:Int)=q:=by rw[IntKind.wrap_u64];unfold B at hq;omega
      have e0:IntKind.u64.wrap (IntKind.u64.wrap (IntKind.u64.wrap (IntKind.u64.wrap ↑p*IntKind.u64.wrap ↑q)+↑o)+↑cc)=((p*q+o+cc:Nat):Int):=by
       rw[w1,w2,<-Int.natCast_mul];generalize p*q=pq at hs;rw[IntKind.wrap_u64,IntKind.wrap_u64,IntKind.wrap_u64];omega
      rw[e0];have e3:=ZM (b:=B) (vs:=val B (J.set (j+t) ((p*q+o+cc) % B))) (vl:=val B J) (A:=val B (X.take j)*y) (PV:=p*B ^ j*val B (Y.take t)) (W:=B ^ (j+t)) (s1:=(p*q+o+cc) / B) (s0:=(p*q+o+cc) % B) (pq:=p*q) (o:=o) (cc:=cc)
       (by have:=H_ B J (j+t) ((p*q+o+cc) % B) (by omega);rw[List.getElem?_eq_getElem (by omega)] at this;simp only[Option.getD_some] at this;rw[au.out] at this;exact this)
       Yg.out (Nat.div_add_mod _ _)
      have e4:=ug B Y t ao;rw[HQ.out] at e4;have e5:p*B ^ j*val B (Y.take (t+1))=p*B ^ j*val B (Y.take t)+p*q*B ^ (j+t):=by
       rw[e4,Nat.mul_add,Nat.pow_add];congr 1;rw[Nat.mul_assoc,Nat.mul_assoc,Nat.mul_left_comm (B ^ j)]
      have ax:(p*q+o+cc) / B<B:=Nat.div_lt_of_lt_mul (by unfold B;omega);have ar:(p*q+o+cc) % B<B:=Nat.mod_lt _ (by decide);generalize p*q+o+cc=s at *;have e1:((s:Nat):Int) / 4294967296=((s / B:Nat):Int):=by unfold B;omega
      rw[e1];refine⟨s / B,t+1,J.set (j+t) (s % B),by omega,rfl,rfl,ax,by simp;exact aq,uh S.out ar,λz V=>?_,?_,?_,?_⟩
      ·rw[getD_set_ne (by omega)];exact P.out z V
      ·rw[e5,show j+(t+1)=(j+t)+1 from by omega,Nat.pow_succ];exact e3
      ·have e6:(s:Int) % 4294967296=((s % B:Nat):Int):=by unfold B;omega
       rw[e6,<-Cg];exact HS.out _
      exact aj M (Nat.le_refl _)
     case measure=>simp[intOf];omega
    obtain rfl:t=Y.length:=by omega
    have e1:B ^ (j+Y.length)=B ^ (j+Y.length):=rfl;obtain⟨g,an⟩:=jY m (j:=j+Y.length) (by simp;omega);rw[gP _ _ (by omega)] at g;have HS:=aa (λ(u:Value)=>(m.stored (j+Y.length) u).1);clear m;go_wp2;go_roundw
    case rel=>
     have ab:=H_ B J (j+Y.length) cc (by omega);rw[P.out _ (Nat.le_refl _),Nat.zero_mul,Nat.add_zero,Yg.out,List.take_length,VY.out] at ab;have e4:=ug B X j Og;rw[aw.out] at e4;refine⟨j+1,J.set (j+Y.length) cc,by omega,rfl,by simp;exact aq,uh S.out H,λz V=>?_,?_,?_,?_⟩
     ·rw[getD_set_ne (by omega)];exact P.out z (by omega)
     ·rw[ab,e4,Nat.add_mul]
     ·rw[show(cc:Int) % 4294967296=cc from by unfold B at H;omega,<-Cg];exact HS.out _
     exact aj M (Nat.le_refl _)
    case measure=>simp[intOf];omega
  obtain rfl:j=X.length:=by omega
  rw[List.take_length,VX.out] at hv;go_wp2_with fail;refine(VW (Sl.aU hO) G (by omega)).mono ?_;rintro e w4⟨r4,rfl,O,N⟩;rw[hv] at O;obtain⟨a3,n3,rz,rfl,hN⟩:=O.out;have ai:=af (K.trans (C.mono (by omega))) N;have hk:w4.heap[w.heap.size+1+1]? = some (.cells #[.slice none 0 0] 44):=(N.block _ (by have:=C.size;omega)).trans ((C.block _ (by omega)).trans Z3.out);obtain⟨aE,hR⟩:=oN hk (by decide) hN;have hB:=aj (off:=0) (u:=.slice a3 n3 rz) ai (b:=w.heap.size+1+1) (by omega);have g:w4.cell? ⟨w.heap.size+1+1,0,none⟩=some (.slice none 0 0):=by unfold World.cell?;rw[hk];rfl
  have an:w4.frozen? ⟨w.heap.size+1+1,0,none⟩=false:=by unfold World.frozen?;rw[hk];rfl
  clear hk N O hN hO C K ai hv G V;go_wp2;exact bodyPost_ret (v:=.agg #[.slice a3 n3 rz]) (by simp[results,results27,go_sem,aE]) rfl ⟨_,rfl,hR,hB⟩
def V6 (a b:Nat) (d:a<4294967296) (c:b<4294967296):bits .or .u64 ((a:Int)*4294967296) b=(a:Int)*4294967296+b:=by
 have e:(a:Int)*4294967296=((a * 4294967296:Nat):Int):=by omega
 rw[e,u64_or_nat _ _ (by omega) (by omega)];have:a * 4294967296 ||| b=a * 4294967296+b:=by
  have:=Nat.shiftLeft_add_eq_or_of_lt (i:=32) (a:=a) (b:=b) (by omega);rw[Nat.shiftLeft_eq] at this;exact this.symm
 rw[this];omega
def ZN {a b:Int} {t:Bool} (h:a=b):Ending.returned (.tuple #[.int .u64 a,.bool t])=.returned (.tuple #[.int .u64 b,.bool t]):=by rw[h]
def Oq (h:bT w v x) (d:(bY B x).length<1099511627776) (b:18446744073709551616<=x) :
 Calls prog 23 #[v] w λe w'=>e=.returned (.tuple #[.int .u64 0,.bool false])/\Below w.heap.size w w':=by
 obtain⟨a,n,cap,rfl,h⟩:=h.out;have c:=h.len;have f:2<n:=by
  rcases Nat.lt_or_ge 2 n with h1|h1
  ·exact h1
  have:=(cZ bE).1 (show(bY B x).length<=2 by omega);unfold B at this;omega
 rw[<-c] at d;clear h c b;go_enter func23,ntmps23;go_wp2;go_ret2;exact⟨rfl,ah _⟩
def FP (h:bT w v x) (q:x<18446744073709551616) :
 Calls prog 23 #[v] w λe w'=>e=.returned (.tuple #[.int .u64 x,.bool true])/\Below w.heap.size w w':=by
 obtain⟨a,n,cap,rfl,h⟩:=h.out;have l:=h.len;have:n<=2:=by
  rw[l];exact(cZ bE).2 (by unfold B;omega)
 have i:=λ(W:World) (E:Below w.heap.size w W)=>sw (h.mono E) 1;have f:=λ(W:World) (E:Below w.heap.size w W)=>sw (h.mono E) 0;have c:oJ B x 1*B+oJ B x 0=x:=by unfold oJ B;omega
 have j:=xI bE x 1;have g:=xI bE x 0;generalize oJ B x 1=d1 at i c j;generalize oJ B x 0=d0 at f c g;unfold B at c j g;have m:=aa c;have p:=aa i;have o:=aa f;clear h l q c i f;go_enter func23,ntmps23;go_wp2_with fail;have k:(w.alloc (.cells #[.slice a n cap] 44)).cell? ⟨w.heap.size,0,none⟩=some (.slice a n cap):=by go_simp
 refine aC (Array.replicate 8 true) 8 0 mixed ?_;have:=Gr.cell (ag (w.alloc (.cells #[.slice a n cap] 44))) k;refine ay [0,3] 6 ?_
 repeat (refine aA rfl ?_;go_big_quiet_step (rfl))
 refine az ?_;refine aI 1 ?_;go_wp2_with fail;refine(p.out _ (af (ah _) (ag _))).mono ?_;rintro e t⟨rfl,b⟩;go_wp2_with fail;refine aF b ?_;refine ay [2] 4 ?_
 repeat (refine aA rfl ?_;go_big_quiet_step (rfl))
 refine az ?_;refine aI 4 ?_;go_wp2_with fail;refine(o.out _ (af (af (ah _) (ag _)) b)).mono ?_;rintro e u⟨rfl,d⟩;go_wp2_with fail;refine aF d ?_;refine ay [5,6,7] 0 ?_
 repeat (refine aA rfl ?_;go_big_quiet_step (rfl))
 refine az ?_;refine aJ [] ?_;refine tail_nil ?_;go_wp2;go_ret2;have c:bits BinOp.or IntKind.u64 ((d1:Int)*4294967296) d0=x:=by rw[V6 d1 d0 j g];have:=m.out;omega
 exact⟨ZN c,af (ah _) (af (ag _) (af b d))⟩
def abE (w:World) (v:Value) (xs:List Nat):Prop:=
 ∃a cap,v=.slice a xs.length cap/\∀i (f:i<xs.length),∃b off d e c,a=some ⟨b,off,none⟩/\b<w.heap.size/\w.cell? ⟨b,off+i,none⟩=some (.slice d e c)/\bT w (.agg #[.slice d e c]) xs[i]
def dU (xs:List Nat):Nat:=xs.foldl (·*·) 1
def pM (a:List Nat) (k:Nat) (h:k<a.length):dU (a.take (k+1))=dU (a.take k)*a[k]:=by
 unfold dU;rw[List.take_succ_eq_append_getElem h,List.foldl_append];rfl
def SK {f:List Nat} (h:abE w v f) (ab:f.length<1099511627776) (hl:∀k,k<=f.length->(bY B (dU (f.take k))).length<274877906944) (T:∀x∈f,(bY B x).length<274877906944) :
 Calls prog 49 #[v] w λe w'=>∃r,e=.returned r/\bT w' r (dU f)/\Below w.heap.size w w':=by
 obtain⟨a,cap,rfl,t⟩:=h;have O:=aa t;have HL:=aa hl;have HX:=aa T;clear t hl T;have V:=ah (w:=w) (.cells #[.slice none 0 0] 44);have K:(w.alloc (.cells #[.slice none 0 0] 44)).heap[w.heap.size]? = some (.cells #[.slice none 0 0] 44):=heap_alloc_new' _ _ _ rfl;go_enter func49,ntmps49;go_wp2_with fail;refine(uf 1 (by omega) _).mono ?_;rintro e d⟨r3,rfl,M,G⟩;obtain⟨o,p,q,rfl,M⟩:=M.out;have E3:=af V G;have K:=(G.block _ (by simp)).trans K;have W:(d.alloc (.cells #[.slice o p q] 44)).heap[d.heap.size]? = some (.cells #[.slice o p q] 44):=heap_alloc_new' _ _ _ rfl;have n4:=M.mono (ah (.cells #[.slice o p q] 44));have X:=ah (w:=d) (.cells #[.slice o p q] 44);have Q:w.heap.size<d.heap.size:=by have:=G.size;simp at this;omega
 have Z0:=aa K;clear M G V K;go_wp2_with fail;go_loopw [9] (λi wr=>∃(j:Nat) (l:Option Addr) (g c:Nat),j<=f.length/\i=.int .i64 j/\wr.heap[d.heap.size]? = some (.cells #[.slice l g c] 44)/\bT wr (.agg #[.slice l g c]) (dU (f.take j))/\Below d.heap.size d wr)
  (λi _=>f.length-(intOf i).toNat)
 case atStart=>exact⟨0,o,p,q,Nat.zero_le _,rfl,W,n4,X⟩
 case round=>
  clear W n4 X;obtain⟨j,l,g,c,hj,rfl,F,y,N⟩:=hrel;have P:=N.size;have S:=af E3 N;by_cases m:j<f.length
  ·obtain⟨b,off,U,Y,Z,rfl,hb,hc,H⟩:=O.out j m;have hc:=aB S hc;have H:=H.mono S;have C:=ah (w:=wr) (.cells #[.slice U Y Z] 44);have J:=(C.block _ (block_lt F)).trans F;have ai:(wr.alloc (.cells #[.slice U Y Z] 44)).cell? ⟨d.heap.size,0,none⟩=some (.slice l g c):=by unfold World.cell?;rw[J];rfl
   have n6:=y.mono C;have n:=H.mono C;have hM:=aa (V5 n6 n (by have:=HL.out j (by omega);omega) (by have:=HX.out _ (List.getElem_mem m);omega));have HP:=aa (pM f j m);clear y n6 H n;go_wp2_with fail;refine hM.out.mono ?_;rintro e s⟨r7,rfl,E,R⟩;obtain⟨L,I,D,rfl,E⟩:=E.out;have z:=(R.block _ (block_lt J)).trans J;have ad:s.cell? ⟨d.heap.size,0,none⟩=some (.slice l g c):=by unfold World.cell?;rw[z];rfl
   have ae:s.frozen? ⟨d.heap.size,0,none⟩=false:=by unfold World.frozen?;rw[z];rfl
   obtain⟨c9,n9⟩:=oN z (by decide) E;have z9:(s.setCell ⟨d.heap.size,0,none⟩ (.slice L I D)).heap[d.heap.size]? = some (.cells #[.slice L I D] 44):=heap_setCell_same s d.heap.size 0 _ _ _ z;have b9:Below d.heap.size d (s.setCell ⟨d.heap.size,0,none⟩ (.slice L I D)):=aj (N.trans ((af C R).mono P)) (Nat.le_refl _);clear z E R J;go_wp2;go_roundw
   case rel=>exact⟨j+1,L,I,D,by omega,rfl,z9,by rw[HP.out];exact n9,b9⟩
   case measure=>simp[intOf];omega
  obtain rfl:j=f.length:=by omega
  rw[List.take_length] at y;have A:=(N.block _ Q).trans Z0.out;have Ot:wr.cell? ⟨d.heap.size,0,none⟩=some (.slice l g c):=by unfold World.cell?;rw[F];rfl
  have ac:wr.cell? ⟨w.heap.size,0,none⟩=some (.slice none 0 0):=by unfold World.cell?;rw[A];rfl
  have ag:wr.frozen? ⟨w.heap.size,0,none⟩=false:=by unfold World.frozen?;rw[A];rfl
  obtain⟨q1,N9⟩:=oN A (by decide) y;have ZI:=aj (off:=0) (u:=.slice l g c) (b:=w.heap.size) S (Nat.le_refl _);clear A y F;go_wp2;exact bodyPost_ret (v:=.agg #[.slice l g c]) (by simp[results,results49,go_sem,q1]) rfl ⟨_,rfl,N9,ZI⟩
def Ou {l:List Int} (h:bG w v (bO l)) (ab:l.length<1099511627776) (g:∀d∈l,d<9223372036854775808) (hl:∀k,k<=l.length->(bY B (dU ((D7 l).take k))).length<274877906944) :
 Calls prog 42 #[v] w λe w'=>∃r,e=.returned r/\bT w' r (dU (D7 l))/\Below w.heap.size w w':=by
 obtain⟨x1,Ao,rfl,_,x⟩:=bG.nN h;have mH:=aa x;have HL:=aa hl;have P:=aa g;clear h x hl g;have Z:=ah (w:=w) (.cells #[.slice none 0 0] 44);have K:(w.alloc (.cells #[.slice none 0 0] 44)).heap[w.heap.size]? = some (.cells #[.slice none 0 0] 44):=heap_alloc_new' _ _ _ rfl;go_enter func42,ntmps42;go_wp2_with fail;refine(uf 1 (by omega) _).mono ?_;rintro e c⟨r3,rfl,L,E⟩;obtain⟨p,t,A,rfl,L⟩:=L.out;have E3:=af Z E;have K:=(E.block _ (by simp)).trans K;have z3:(c.alloc (.cells #[.slice p t A] 44)).heap[c.heap.size]? = some (.cells #[.slice p t A] 44):=heap_alloc_new' _ _ _ rfl;have n4:=L.mono (ah (.cells #[.slice p t A] 44));have b4:=ah (w:=c) (.cells #[.slice p t A] 44);have O:w.heap.size<c.heap.size:=by have:=E.size;simp at this;omega
 have Z0:=aa K;clear L E Z K;go_wp2_with fail;go_loopw [9] (λi wr=>∃(j:Nat) (o:Option Addr) (m a:Nat),j<=l.length/\i=.int .i64 j/\wr.heap[c.heap.size]? = some (.cells #[.slice o m a] 44)/\bT wr (.agg #[.slice o m a]) (dU ((D7 l).take j))/\Below c.heap.size c wr)
  (λi _=>l.length-(intOf i).toNat)
 case atStart=>exact⟨0,p,t,A,Nat.zero_le _,rfl,z3,n4,b4⟩
 case round=>
  clear z3 n4 b4;obtain⟨j,o,m,a,hj,rfl,z,H,G⟩:=hrel;have V:=G.size;have E5:=af E3 G;by_cases f:j<l.length
  ·obtain⟨b,off,rfl,hb,hc⟩:=mH.out j f;have hc:=aB E5 hc;have M:=P.out _ (List.getElem_mem f);have S:=aa (pM (D7 l) j (by simpa using f));have s:(D7 l)[j]'(by simpa using f)=l[j].toNat:=by simp[D7]
   rw[s] at S;clear s;generalize l[j]=d at *;obtain⟨n,N⟩:=ae d.toNat;rw[<-N] at S;have am:max d 0=(n:Int):=by omega
   have al:IntKind.u64.wrap (n:Int)=(n:Int):=by rw[IntKind.wrap_u64];omega
   have T:n<18446744073709551616:=by omega
   have hO:=aa (uf n T);have X:wr.cell? ⟨c.heap.size,0,none⟩=some (.slice o m a):=by unfold World.cell?;rw[z];rfl
   have T0:=AO wr;have W:=aa (HL.out j hj);have Q:=aa (show(bY B n).length<=2 from (cZ bE).2 (by unfold B;omega));have nR:=aa N;clear N M;go_wp2_with fail;refine aC #[true,true,true,true,true,true,false] 6 1 mixed ?_;have Y:=af T0 (ag _);have U:=Gr.cell Y X;refine ay [0,1,2,3] 2 ?_
   iterate 4 (refine aA rfl ?_;go_big_quiet_step (rfl))
   refine az ?_;clear U;refine aI 4 ?_;go_wp2_with fail;refine(hO.out _).mono ?_;rintro e ak⟨r1,rfl,p1,SF⟩;go_wp2_with fail;refine aF SF ?_;have Uv:=af Y SF;refine aI 5 ?_;go_wp2_with fail;refine(V5 (H.mono Uv) p1 (by have:=W.out;omega) (by have:=Q.out;omega)).mono ?_;rintro e q⟨r7,rfl,J,FN⟩;obtain⟨C,F,I,rfl,J⟩:=J.out;go_wp2_with fail;refine aF FN ?_;have R:=af Uv FN;have y:=(R.block _ (block_lt z)).trans z;have ad:q.frozen? ⟨c.heap.size,0,none⟩=false:=by unfold World.frozen?;rw[y];rfl
   obtain⟨c9,n9⟩:=oN y (by decide) J;have z9:(q.setCell ⟨c.heap.size,0,none⟩ (.slice C F I)).heap[c.heap.size]? = some (.cells #[.slice C F I] 44):=heap_setCell_same q c.heap.size 0 _ _ _ y;have b9:Below c.heap.size c (q.setCell ⟨c.heap.size,0,none⟩ (.slice C F I)):=aj (G.trans (R.mono V)) (Nat.le_refl _);have ac:q.cell? ⟨c.heap.size,0,none⟩=some (.slice o m a):=by unfold World.cell?;rw[y];rfl
   clear y J R;refine aJ [6] ?_;refine tail_cons rfl ?_;go_wp2_with fail;refine tail_nil ?_;go_wp2;go_roundw
   case rel=>exact⟨j+1,C,F,I,by omega,rfl,z9,by rw[S.out];exact n9,b9⟩
   case measure=>simp[intOf];omega
  obtain rfl:j=l.length:=by omega
  rw[List.take_of_length_le (by simp)] at H;have D:=(G.block _ O).trans Z0.out;have X:wr.cell? ⟨c.heap.size,0,none⟩=some (.slice o m a):=by unfold World.cell?;rw[z];rfl
  have an:wr.cell? ⟨w.heap.size,0,none⟩=some (.slice none 0 0):=by unfold World.cell?;rw[D];rfl
  have ai:wr.frozen? ⟨w.heap.size,0,none⟩=false:=by unfold World.frozen?;rw[D];rfl
  obtain⟨q1,N9⟩:=oN D (by decide) H;have ZI:=aj (off:=0) (u:=.slice o m a) (b:=w.heap.size) E5 (Nat.le_refl _);clear D H z;go_wp2;exact bodyPost_ret (v:=.agg #[.slice o m a]) (by simp[results,results42,go_sem,q1]) rfl ⟨_,rfl,N9,ZI⟩
end Go.Proofs.YtmnimbnojdndmaaGreatDoor
namespace Go.Proofs.YtmnimbnojdndmaaGreatDoor
open Go.RowKit Go.Cd
variable {K:Nat->Nat} {l:List Nat} {j:Nat}
def d_.sp (x:d_):Nat×List Nat:=(x.1,x.2.2)
def cB.sp (r:cB):bS:=(r.1,r.2.2.map d_.sp)
structure gD (K:Nat->Nat) (l:List Nat) (j:Nat) (c:cB):Prop where
 rise:c.2.2.Pairwise λa b=>a.1<b.1
 small:∀x∈c.2.2,x.1<1000000
 last:∀x,c.2.2.getLast? = some x->∃(i:Nat) (hi:i<l.length),j=i+1/\x.1=K l[i]
 len:c.2.2.length<=j
 marks:∀x∈c.2.2,x.2.2.length<=j
def gD.le {c:cB} (h:gD K l j c):∀x∈c.2.2,∀z,c.2.2.getLast? = some z->x.1<=z.1:=by
 intro x a z b;have f:c.2.2≠[]:=λe=>by rw[e] at a;cases a
 obtain⟨q,y,e⟩:∃q y,c.2.2=q++[y]:=⟨c.2.2.dropLast,c.2.2.getLast f,(List.dropLast_concat_getLast f).symm⟩;have d:=h.rise;rw[e] at a b d;rw[List.getLast?_concat] at b;cases b;rcases List.mem_append.1 a with a|a
 ·exact Nat.le_of_lt ((List.pairwise_append.1 d).2.2 x a z (by simp))
 rw[List.mem_singleton.1 a];exact Nat.le_refl _
def gD.find {c:cB} (h:gD K l j c) (u:dJ K l) (H:j<l.length) (h0:K l[j]≠0) {k:Nat} {b:Bool} (hf:abr (c.2.2.map λx=>(x.1,x.2.1)) (K l[j]) k b) :
 (b=false/\k=c.2.2.length/\∀x∈c.2.2,x.1<K l[j])\/(b=true/\∃q y,c.2.2=q++[y]/\y.1=K l[j]/\k=q.length):=by
 obtain⟨t,A,v,p⟩:=hf;rw[List.length_map] at t;simp only[List.length_map,List.getElem_map] at A v p;by_cases g:c.2.2=[]
 ·left;have C:k=0:=by rw[g] at t;simpa using t
  refine⟨?_,by rw[g];simpa using C,by rw[g];simp⟩;cases b with
  | false=>rfl
  | true=>
    obtain⟨a,_⟩:=p.1 rfl;rw[g] at a;simp at a
 obtain⟨q,y,e⟩:∃q y,c.2.2=q++[y]:=⟨c.2.2.dropLast,c.2.2.getLast g,(List.dropLast_concat_getLast g).symm⟩;have o:c.2.2.getLast? = some y:=by rw[e,List.getLast?_concat]
 obtain⟨i,J,r,G⟩:=h.last y o;subst r;have F:y.1<=K l[i+1]:=by
  rcases KN u H with a|a
  ·exact absurd a h0
  rw[G];exact a
 have w:c.2.2.length=q.length+1:=by rw[e];simp
 have f:∀(I:q.length<c.2.2.length),c.2.2[q.length]=y:=λI=>by simp[e]
 by_cases m:y.1=K l[i+1]
 ·right;have D:k<=q.length:=by
   rcases Nat.lt_or_ge q.length k with a|a
   ·have:=A q.length (by omega) a;rw[f] at this;omega
   exact a
  have n:k=q.length:=by
   rcases Nat.lt_or_ge k q.length with a|a
   ·exfalso;have B:=v k (by omega) (Nat.le_refl _);have z:=(List.pairwise_iff_getElem.1 h.rise) k q.length (by omega) (by omega) a;rw[f] at z;omega
   omega
  refine⟨p.2 ⟨by omega,?_⟩,q,y,e,m,n⟩;subst n;rw[f];exact m
 left;have d:∀x∈c.2.2,x.1<K l[i+1]:=λx E=>by
  have:=h.le x E y o;omega
 have s:k=c.2.2.length:=by
  rcases Nat.lt_or_ge k c.2.2.length with a|a
  ·have B:=v k a (Nat.le_refl _);have z:=d _ (List.getElem_mem a);omega
  omega
 refine⟨?_,s,d⟩;cases b with
 | false=>rfl
 | true=>
   obtain⟨a,_⟩:=p.1 rfl;omega
def gD.nil (K:Nat->Nat) (l:List Nat) (j h:Nat) (v:Value):gD K l j (h,v,[]):=⟨List.Pairwise.nil,by simp,by simp,by simp,by simp⟩
def gD.new {c:cB} (h:gD K l j c) (f:j<l.length) (i:K l[j]<1000000) (e:∀x∈c.2.2,x.1<K l[j]) (v v':Value) (m:Nat):gD K l (j+1) (c.1,v,c.2.2++[(K l[j],v',[m])]):=by
 refine⟨List.pairwise_append.2 ⟨h.rise,by simp,λa g b k=>?_⟩,λx d=>?_,λx d=>?_,by have:=h.len;simp;omega,λx d=>?_⟩
 ·rw[List.mem_singleton.1 k];exact e a g
 ·rcases List.mem_append.1 d with d|d
  ·exact h.small x d
  rw[List.mem_singleton.1 d];exact i
 ·rw[List.getLast?_concat] at d;cases d;exact⟨j,f,rfl,rfl⟩
 rcases List.mem_append.1 d with d|d
 ·exact Nat.le_succ_of_le (h.marks x d)
 rw[List.mem_singleton.1 d];simp
def gD.more {hd:Nat} {v:Value} {q:List d_} {y:d_} (h:gD K l j (hd,v,q++[y])) (e:j<l.length) (g:y.1=K l[j]) (v':Value) (m:Nat):gD K l (j+1) (hd,v,q++[(y.1,v',y.2.2++[m])]):=by
 have d:=List.pairwise_append.1 h.rise;refine⟨List.pairwise_append.2 ⟨d.1,by simp,λa f b i=>?_⟩,λx c=>?_,λx c=>?_,by have:=h.len;simp at this⊢;omega,λx c=>?_⟩
 ·rw[List.mem_singleton.1 i];exact d.2.2 a f y (by simp)
 ·rcases List.mem_append.1 c with c|c
  ·exact h.small x (by simp[c])
  rw[List.mem_singleton.1 c];exact h.small y (by simp)
 ·rw[List.getLast?_concat] at c;cases c;exact⟨j,e,rfl,g⟩
 rcases List.mem_append.1 c with c|c
 ·exact Nat.le_succ_of_le (h.marks x (by simp[c]))
 rw[List.mem_singleton.1 c];have:=h.marks y (by simp);simp;omega
section
open Go.RowKit Go.Cd
def Lg (bs:List Nat):D7 (bs.map λb:Nat=>(b:Int))=bs:=by
 unfold D7;rw[List.map_map];exact(List.map_congr_left λ_ _=>rfl).trans (List.map_id _)
def Lh {a:List Nat} (h:∀x∈a,x<B):∀k,k<=a.length->dU (a.take k)<B ^ k\/k=0/\dU (a.take k)=1:=by
 intro k
 induction k with
 | zero=>intro _;exact .inr ⟨rfl,by simp[dU]⟩
 | succ k ih=>
   intro d;left;rw[pM a k (by omega),Nat.pow_succ];have c:=h _ (List.getElem_mem (show k<a.length by omega));rcases ih (by omega) with b|⟨h0,b⟩
   ·exact Nat.mul_lt_mul'' b c
   subst h0;rw[b];simpa using c
def Ci {b:List Nat} (h:∀x∈b,x<B) (k:Nat) (c:k<=b.length):(bY B (dU (b.take k))).length<=k+1:=by
 rw[cZ bE];rcases Lh h k c with a|⟨h0,a⟩
 ·exact Nat.lt_of_lt_of_le a (Nat.pow_le_pow_right (by decide) (by omega))
 subst h0;rw[a];unfold B;decide
def V8 (r:cB):Nat:=dU (gT r.2.2)
def gF (Rs:List cB):Nat:=(Rs.map V8).sum
def yC {Rs:List cB} {j:Nat} (a:j<Rs.length):gF (Rs.take (j+1))=gF (Rs.take j)+V8 Rs[j]:=by
 unfold gF;rw[List.take_succ_eq_append_getElem a,List.map_append,List.sum_append];simp
def Cj (Rs:List cB):Prop:=Rs.length<10000/\∀r∈Rs,r.2.2.length<10000/\∀x∈r.2.2,x.2.2.length<10000
def uS {r:cB} (h:∀x∈r.2.2,x.2.2.length<10000):∀b∈gT r.2.2,b<B:=λb a=>by
 obtain⟨x,c,rfl⟩:=List.mem_map.1 a;have:=h x c;unfold B;omega
def ZP {r:cB} (b:r.2.2.length<10000) (h:∀x∈r.2.2,x.2.2.length<10000) {n:Nat} (c:10001<=n):V8 r<B ^ n:=by
 have a:=Ci (uS h) (gT r.2.2).length (Nat.le_refl _);rw[List.take_length,cZ bE,BZ] at a;exact Nat.lt_of_lt_of_le a (Nat.pow_le_pow_right (by decide) (by omega))
def Ib {Rs:List cB} (h:Cj Rs) {j:Nat} (c:j<=Rs.length):(bY B (gF (Rs.take j))).length<=20002:=by
 obtain⟨k,d⟩:=ae 20002;rw[<-d,cZ bE];obtain⟨n,e⟩:=ae 10001;have key:∀j,j<=Rs.length->gF (Rs.take j)<=j*B ^ n:=λj=>by
  induction j with
  | zero=>intro _;simp[gF]
  | succ j ih=>
    intro c;rw[yC (by omega),Nat.add_mul,Nat.one_mul];have a:=h.2 _ (List.getElem_mem (show j<Rs.length by omega));exact Nat.add_le_add (ih (by omega)) (Nat.le_of_lt (ZP a.1 a.2 (by omega)))
 have a:=key j c;have b:j*B ^ n<B*B ^ n:=Nat.mul_lt_mul_of_pos_right (by have:=h.1;unfold B;omega) (Nat.pow_pos (by decide));rw[<-Nat.pow_succ'] at b;exact Nat.lt_of_lt_of_le (Nat.lt_of_le_of_lt a b) (Nat.pow_le_pow_right (by decide) (by omega))
structure D8 (w:World) (B N p:Nat) (dv rs iT:Value) (small:Bool) (Rs:List cB):Prop where
 is:Is w p #[dv,rs,iT,.bool small] 84
 runs:w.ownsRow B eX 6 rs Rs.length (Rs.flatMap lV)
 Ae:∀r∈Rs,wM w N r
 low:B<=p
 hi:p<N/\N<=w.heap.size
section
variable {w w' : World} {B N p : Nat} {dv rs iT : Value} {small : Bool} {Rs : List cB}
def D8.ext (h:D8 w B N p dv rs iT small Rs) (a:Below w.heap.size w w'):D8 w' B N p dv rs iT small Rs:=
 ⟨h.is.mono a,aH h.runs a,λr b=>(h.Ae r b).keep (.of_below (a.mono h.hi.2) a.size) (.of_below (a.mono h.hi.2) a.size),h.low,h.hi.1,Nat.le_trans h.hi.2 a.size⟩
def D8.put (h:D8 w B N p dv rs iT small Rs) (o:Nat) (u:Value) {acT:Value} {Ov:Bool} (a:(#[dv,rs,iT,.bool small]:Array Value).setIfInBounds o u=#[dv,rs,acT,.bool Ov]):D8 (w.setCell ⟨p,o,none⟩ u) B N p dv rs acT Ov Rs:=by
 have c:=bJ.put (o:=o) h.is u;exact⟨a▸h.is.set o u,c.own h.runs (by decide),λr b=>(h.Ae r b).keep (.fV c (by decide) N h.hi.2) (.fV c (by decide) N h.hi.2),h.low,h.hi.1,by simpa using h.hi.2⟩
end
def Jb.made {w:World} {B p:Nat} {d b:Value} {Rs:List cB} {c:cB} {F G:Nat} (h:Jb w B p d b Rs c F G):D8 w B w.heap.size p d b (.slice none 0 0) false (Rs++[c]):=by
 refine⟨h.is,by rw[List.length_append];exact h.runs,λr a=>?_,h.low,h.is.lt,Nat.le_refl _⟩;rcases List.mem_append.1 a with a|a
 ·exact(h.Ae r a).le (Nat.le_trans h.cur.fg h.cur.gs)
 rw[List.mem_singleton.1 a];exact h.cur.Ae
def V9 {n c k:Nat} {Ls:List (Nat×List Nat)} (h:Ls.length<=k) (d:∀x∈Ls,x.2.length<=k):(sQ n c Ls).length<=k+1/\∀x∈sQ n c Ls,x.2.length<=k+1:=by
 have b:(Ls++[(n,[c])]).length<=k+1/\∀x∈Ls++[(n,[c])],x.2.length<=k+1:=by
  refine⟨by simp;omega,λx a=>?_⟩;rcases List.mem_append.1 a with a|a
  ·have:=d x a;omega
  rw[List.mem_singleton.1 a];simp
 rcases List.eq_nil_or_concat Ls with e|⟨q,y,e⟩
 ·subst e;rw[wN (by simp)];exact b
 have f:Ls=q++[y]:=by simpa using e
 by_cases g:y.1=n
 ·subst f;rw[show y=(y.1,y.2) from rfl,yh g];refine⟨by simpa using Nat.le_succ_of_le h,λx a=>?_⟩;rcases List.mem_append.1 a with a|a
  ·have:=d x (by simp[a]);omega
  rw[List.mem_singleton.1 a];have:=d y (by simp);simp;omega
 rw[wN (λx a=>by rw[f,List.getLast?_concat] at a;injection a with a;rw[<-a];exact g)];exact b
def SN (k:Nat) (rs:List bS):Prop:=rs≠[]/\rs.length<=k+1/\∀r∈rs,r.2.length<=k/\∀x∈r.2,x.2.length<=k
def V_ {K:Nat->Nat} {d:List bS} {c k:Nat} (h:SN k d):SN (k+1) (BU K d c):=by
 obtain⟨h0,j,b⟩:=h;by_cases g:K c=0
 ·rw[BV g];refine⟨by simp,by simp;omega,λr a=>?_⟩;rcases List.mem_append.1 a with a|a
  ·exact⟨Nat.le_succ_of_le (b r a).1,λx f=>Nat.le_succ_of_le ((b r a).2 x f)⟩
  rw[List.mem_singleton.1 a];exact⟨Nat.zero_le _,by simp⟩
 rcases List.eq_nil_or_concat d with e|⟨q,y,e⟩
 ·exact absurd e h0
 have i:d=q++[y]:=by simpa using e
 subst i;rw[yj g];refine⟨by simp,by simp at j⊢;omega,λr a=>?_⟩;rcases List.mem_append.1 a with a|a
 ·have:=b r (by simp[a]);exact⟨Nat.le_succ_of_le this.1,λx f=>Nat.le_succ_of_le (this.2 x f)⟩
 rw[List.mem_singleton.1 a];have:=b y (by simp);exact V9 this.1 this.2
def fD (K:Nat->Nat) (l:List Nat):SN l.length (bq K l):=by
 have key:∀(l:List Nat) k a,SN k a->SN (k+l.length) (l.foldl (BU K) a):=λl=>by
  induction l with
  | nil=>intro k a h;exact h
  | cons c l ih=>
    intro k a h;have:=ih (k+1) _ (V_ (K:=K) (c:=c) h);rw[List.length_cons,show k+(l.length+1)=k+1+l.length by omega];exact this
 have:=key l 0 [(0,[])] ⟨by simp,by simp,λr b=>by rw[List.mem_singleton.1 b];exact⟨Nat.le_refl _,by simp⟩⟩;rw[Nat.zero_add] at this;exact this
def Cj.of {Rs:List cB} {k:Nat} (h:SN k (Rs.map cB.sp)) (e:k<9000):Cj Rs:=by
 obtain⟨_,b,a⟩:=h;refine⟨by rw[List.length_map] at b;omega,λr d=>?_⟩;have:=a _ (List.mem_map.2 ⟨r,d,rfl⟩);refine⟨by have:=this.1;simp[cB.sp] at this;omega,λx c=>?_⟩;have:=this.2 _ (List.mem_map.2 ⟨x,c,rfl⟩);simp[d_.sp] at this;omega
end
section
open Go.RowKit Go.Cd
def We {α:Type} (f:α->List Value) (m:Nat) (hf:∀a,(f a).length=m):∀(l:List α) (i:Nat) (c:i<l.length) (b:α) (j:Nat) (u:Value),j<m->(f l[i]).set j u=f b->(l.flatMap f).set (i*m+j) u=(l.set i b).flatMap f
 | [],i,c,_,_,_,_,_=>absurd c (by simp)
 | a::l,0,_,b,j,u,hj,he=>by
   simp only[List.flatMap_cons,Nat.zero_mul,Nat.zero_add,List.set_cons_zero];rw[List.set_append_left _ _ (by rw[hf];exact hj)];rw[show(f a).set j u=f b from he]
 | a::l,i+1,c,b,j,u,hj,he=>by
   simp only[List.flatMap_cons,List.set_cons_succ];rw[List.set_append_right (h:=by rw[hf,Nat.add_mul];omega),hf,show(i+1)*m+j-m=i*m+j by rw[Nat.add_mul];omega];rw[We f m hf l i (by simpa using c) b j u hj (by simpa using he)]
def jE.iQ {w w':World} {t:TypeId} {v:Value} {bs:List Nat} (h:jE w v bs) (q:bJ w w' t) (e:bB≠t):jE w' v bs:=by
 obtain⟨s1,s2,f,n,k⟩:=h;have key:∀{s:Value} {j:List Value},Sl bB w s j->Sl bB w' s j:=by
  rintro s j⟨a,cap,f,d,i⟩;refine⟨a,cap,f,d,i.imp id ?_⟩;rintro⟨b,off,p,o,m,g,i⟩;refine⟨b,off,p,o,m,(q.keep b (block_lt g) ?_).trans g,i⟩;rintro⟨l,c⟩;rw[g] at c;injection c with c;injection c with _ c _;exact e c
 exact⟨s1,s2,f,key n,key k⟩
def Li (bs:List Nat):aW bs=dU bs:=by
 have key:∀(bs:List Nat) a,bs.foldl (·*·) a=a * aW bs:=λbs=>by
  induction bs with
  | nil=>intro a;simp[aW]
  | cons b bs ih=>intro a;rw[List.foldl_cons,ih,aW,Nat.mul_assoc]
 unfold dU;rw[key,Nat.one_mul]
abbrev qx:=cB×(Value×Value×Int)×Int
def nC (x:qx):List Value:=[.int .i32 x.1.1,x.1.2.1,x.2.1.1,x.2.1.2.1,.int .i64 x.2.1.2.2,.int .i64 x.2.2]
def yD (x:qx):(nC x).length=6:=rfl
def Wh (x:qx):Value:=.agg #[x.2.1.1,x.2.1.2.1,.int .i64 x.2.1.2.2]
def Ic (r:cB):qx:=(r,(.slice none 0 0,.slice none 0 0,0),0)
def Lj (Rs:List cB):(Rs.map Ic).flatMap nC=Rs.flatMap lV:=by rw[List.flatMap_map];rfl
def FQ (v:Value):Prop:=∃a n c,v=.slice a n c
def FQ.mk {a:Option Addr} {n c:Nat}:FQ (.slice a n c):=⟨_,_,_,rfl⟩
structure kg (w:World) (B N p:Nat) (dv rs iT:Value) (small:Bool) (Es:List qx) (i:Nat):Prop where
 is:Is w p #[dv,rs,iT,.bool small] 84
 runs:w.ownsRow B eX 6 rs Es.length (Es.flatMap nC)
 Ae:∀e∈Es,wM w N e.1
 low:B<=p
 hi:p<N/\N<=w.heap.size
 shp:∀e∈Es,FQ e.2.1.1/\FQ e.2.1.2.1
 ZQ:∀k (hk:k<Es.length),k<i->jE w (Wh Es[k]) (gT Es[k].1.2.2)/\Es[k].2.2=(gF ((Es.map (·.1)).take k):Nat)
section
variable {w w' : World} {B N p : Nat} {dv rs iT : Value} {small : Bool} {Es : List qx} {i : Nat}
variable {g n c:Nat} {A D:List qx}
def kg.of {Rs:List cB} (h:D8 w B N p dv rs iT small Rs):kg w B N p dv rs iT small (Rs.map Ic) 0:=
 ⟨h.is,by rw[Lj,List.length_map];exact h.runs,λe a=>by obtain⟨r,b,rfl⟩:=List.mem_map.1 a;exact h.Ae r b,h.low,h.hi,λe a=>by obtain⟨r,_,rfl⟩:=List.mem_map.1 a;exact⟨FQ.mk,FQ.mk⟩,λ_ _ h=>absurd h (by simp)⟩
def kg.ext (h:kg w B N p dv rs iT small Es i) (a:Below w.heap.size w w'):kg w' B N p dv rs iT small Es i:=
 ⟨h.is.mono a,aH h.runs a,λr d=>(h.Ae r d).keep (.of_below (a.mono h.hi.2) a.size) (.of_below (a.mono h.hi.2) a.size),h.low,⟨h.hi.1,Nat.le_trans h.hi.2 a.size⟩,h.shp,λk b c=>⟨(h.ZQ k b c).1.mono a,(h.ZQ k b c).2⟩⟩
def kg.store (h:kg w B N p dv (.slice (some ⟨g,0,none⟩) n c) iT small Es i) (m:i<Es.length) (b:qx) (j:Nat) (u:Value) (z:j<6) (x:(nC Es[i]).set j u=nC b) (v:b.1=Es[i].1) (q:FQ b.2.1.1/\FQ b.2.1.2.1) :
 kg (w.setCell ⟨g,i*6+j,none⟩ u) B N p dv (.slice (some ⟨g,0,none⟩) n c) iT small (Es.set i b) i:=by
 obtain⟨y,t⟩:=bV h.runs (k:=g) rfl;have l:=bJ.put (o:=i*6+j) (⟨t⟩:Is w g y eX) u;have f:(Es.set i b).map (·.1)=Es.map (·.1):=by
  rw[List.map_set,v];have:Es[i].1=(Es.map (·.1))[i]'(by simpa using m):=by simp
  rw[this,List.set_getElem_self]
 refine⟨l.is h.is (by decide),?_,λe d=>?_,h.low,⟨h.hi.1,by simpa using h.hi.2⟩,λe d=>?_,λk r s=>?_⟩
 ·have A:n=Es.length:=by
   obtain⟨_,_,e,_⟩:=ak h.runs;injection e with _ e _
  subst A;have:=h.runs.stored (i*6+j) u;rw[We nC 6 yD Es i m b j u z x] at this;rw[List.length_set];exact this.1
 ·have:wM w N e.1:=by
   rcases List.mem_or_eq_of_mem_set d with a|a
   ·exact h.Ae e a
   rw[a,v];exact h.Ae _ (List.getElem_mem m)
  exact this.keep (.fV l (by decide) N h.hi.2) (.fV l (by decide) N h.hi.2)
 ·rcases List.mem_or_eq_of_mem_set d with a|a
  ·exact h.shp e a
  rw[a];exact q
 rw[List.length_set] at r;have a:=h.ZQ k r s;rw[f];have C:(Es.set i b)[k]'(by rw[List.length_set];exact r)=Es[k]:=List.getElem_set_ne (by omega) _;rw[C];exact⟨a.1.iQ l (by decide),a.2⟩
def kg.more (h:kg w B N p dv rs iT small Es i) (e:i<Es.length) (d:jE w (Wh Es[i]) (gT Es[i].1.2.2)) (b:Es[i].2.2=(gF ((Es.map (·.1)).take i):Nat)):kg w B N p dv rs iT small Es (i+1):=
 ⟨h.is,h.runs,h.Ae,h.low,h.hi,h.shp,λk c a=>by
   rcases Nat.lt_succ_iff_lt_or_eq.1 a with h3|rfl
   ·exact h.ZQ k c h3
   exact⟨d,b⟩⟩
def kg.Ie {x:qx} (h:kg w B N p dv (.slice (some ⟨g,0,none⟩) n c) iT small (A++x::D) i) (l:A.length=i) (a:qx) (j:Nat) (u:Value) (k:j<6) (e:(nC x).set j u=nC a) (m:a.1=x.1) (b:FQ a.2.1.1/\FQ a.2.1.2.1) {o:Nat} (f:o=i*6+j) :
 kg (w.setCell ⟨g,o,none⟩ u) B N p dv (.slice (some ⟨g,0,none⟩) n c) iT small (A++a::D) i:=by
 subst f;subst l;have d:(A++x::D)[A.length]'(by simp)=x:=by simp
 have:=h.store (by simp) a j u k (by rw[d];exact e) (by rw[d];exact m) b;rw[List.set_append_right (h:=Nat.le_refl _),Nat.sub_self,List.set_cons_zero] at this;exact this
def kg.cells (h:kg w B N p dv (.slice (some ⟨g,0,none⟩) n c) iT small Es i) {k:Nat} (a:k<Es.length) :
 ∀j<6,w.cell? ⟨g,k*6+j,none⟩=(nC Es[k])[j]?/\w.frozen? ⟨g,k*6+j,none⟩=false:=by
 obtain⟨l,d,e,_,_,_,b⟩:=dC (f:=nC) yD rfl h.runs a;injection e with e _ _;injection e with e;injection e with e;subst e;exact b
def kg.yE {x:qx} (h:kg w B N p dv (.slice (some ⟨g,0,none⟩) n c) iT small (A++x::D) i) (a:A.length=i) :
 ∀j<6,w.cell? ⟨g,i*6+j,none⟩=(nC x)[j]?/\w.frozen? ⟨g,i*6+j,none⟩=false:=by
 subst a;have b:(A++x::D)[A.length]'(by simp)=x:=by simp
 have:=h.cells (k:=A.length) (by simp);rw[b] at this;exact this
def kg.af0 {x:qx} (h:kg w B N p dv rs iT small (A++x::D) i) (b:A.length=i) (c:jE w (Wh x) (gT x.1.2.2)) (d:x.2.2=(gF (A.map (·.1)):Nat)):kg w B N p dv rs iT small (A++x::D) (i+1):=by
 subst b;have a:(A++x::D)[A.length]'(by simp)=x:=by simp
 refine h.more (by simp) (by rw[a];exact c) ?_;rw[a,List.map_append,List.take_append_of_le_length (by simp),List.take_of_length_le (by simp)];exact d
end
end
end Go.Proofs.YtmnimbnojdndmaaGreatDoor
