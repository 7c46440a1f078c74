/- Texts that are alike cost, and count, the same; no condition. -/
import Derived.Test.YtmnimbnojdndmaaGreatDoorU08
import Derived.Great.BuildSlice
import Derived.Great.Ranges
set_option maxRecDepth 100000
set_option maxHeartbeats 6400000
set_option linter.all false
namespace Go.Proofs.YtmnimbnojdndmaaGreatDoor
open Go.RowKit Go.Cd _root_.Go.Proofs.Tryz
def uG (f:Nat->Nat) (c v:Nat):Nat->Nat:=λx=>if x=c then v else f x
def rZ (f:Nat->Nat) (c v:Nat):uG f c v c=v:=by simp[uG]
def iG (f:Nat->Nat) {c x:Nat} (v:Nat) (h:x≠c):uG f c v x=f x:=by simp[uG,h]
def iZ (L:List (Nat×Nat)):Nat->Nat:=L.foldl (λf x=>uG f x.1 x.2) λ_=>0
def NS (L:List (Nat×Nat)) (x:Nat×Nat):iZ (L++[x])=uG (iZ L) x.1 x.2:=by simp[iZ,rm]
def Kj {L:List (Nat×Nat)} (h:∀x∈L,x.2<65536) (c:Nat):iZ L c<65536:=by
 have key:∀(L:List (Nat×Nat)) (f:Nat->Nat),(∀c,f c<65536)->(∀x∈L,x.2<65536)->∀c,(L.foldl (λf x=>uG f x.1 x.2) f) c<65536:=by
  intro L
  induction L with
  | nil=>intro f hf _ c;exact hf c
  | cons x L ih=>
    intro f hf a c;refine ih _ (λc=>?_) (λy b=>a y (by simp[b])) c;show(if c=x.1 then x.2 else f c)<65536
    split
    ·exact a x (by simp)
    exact hf c
 exact key L _ (λ_=>by simp) h c
def dw (f:Nat->Nat) (n:Nat):Array Value:=((List.range 256).map λk=>Value.int .u16 (f (n*256+k):Nat)).toArray
def fA (f:Nat->Nat) (n:Nat):(dw f n).size=256:=by simp[dw]
def fJ (f:Nat->Nat) (n:Nat) {k:Nat} (h:k<256):(dw f n)[k]? = some (.int .u16 (f (n*256+k):Nat)):=by simp[dw,h]
def jB (f:Nat->Nat) (n:Nat) {k:Nat} (h:256<=k):(dw f n)[k]? = none:=kp (by rw[fA];exact h)
def RD (f:Nat->Nat) (n k v:Nat) (h:k<256):(dw f n).setIfInBounds k (.int .u16 (v:Nat))=dw (uG f (n*256+k) v) n:=by
 apply pS;intro i;rw[qs,fA];by_cases a:i<256
 ·rw[fJ _ _ a,fJ _ _ a];by_cases b:k=i
  ·subst b;rw[if_pos rfl,if_pos a,rZ]
  rw[if_neg b,iG _ _ (by omega)]
 rw[jB _ _ (by omega),jB _ _ (by omega)];rw[if_neg (by omega)]
def Kk (f:Nat->Nat) (n m k v:Nat) (h:k<256) (b:n≠m):dw (uG f (m*256+k) v) n=dw f n:=by
 apply pS;intro i;by_cases a:i<256
 ·rw[fJ _ _ a,fJ _ _ a,iG _ _ (by omega)]
 rw[jB _ _ (by omega),jB _ _ (by omega)]
def pg (f:Nat->Nat) (n:Nat) (h:∀k,k<256->f (n*256+k)=0):dw f n=zeroCells213:=by
 have e:dw f n=dw (λ_=>0) 0:=by
  apply pS;intro i;by_cases a:i<256
  ·rw[fJ _ _ a,fJ _ _ a,h i a]
  rw[jB _ _ (by omega),jB _ _ (by omega)]
 exact e.trans (by kernel_rfl)
def jR:Maps.Keyed prog 21:=Ry
def G7 (blk:Nat->Option Nat) (x v:Value):Prop:=∃(n b:Nat),blk n=some b/\x=.int .i32 n/\v=.pointer (some ⟨b,0,none⟩)
def r9 {a:Nat->Option Nat} {n:Nat} {v:Value} (h:G7 a (.int .i32 n) v):∃b,a n=some b/\v=.pointer (some ⟨b,0,none⟩):=by
 obtain⟨m,b,e,c,d⟩:=h;injection c with _ c;have:n=m:=by omega
 subst this;exact⟨b,e,d⟩
def r_ {a:Nat->Option Nat} {n:Nat} (h:∀v,¬G7 a (.int .i32 n) v):a n=none:=by
 cases c:a n with
 | none=>rfl
 | some b=>exact absurd ⟨n,b,c,rfl,rfl⟩ (h _)
structure wF (w:World) (M:Nat) (f:Nat->Nat) (blk:Nat->Option Nat):Prop where
 map:dE prog 21 w M (G7 blk)
 is:∀n b,blk n=some b->n<4352/\M<b/\Is w b (dw f n) 213
 inj:∀n m b,blk n=some b->blk m=some b->n=m
 no:∀n,blk n=none->∀k,k<256->f (n*256+k)=0
def wF.mono {w w':World} {M:Nat} {f:Nat->Nat} {a:Nat->Option Nat} (h:wF w M f a) (d:Below w.heap.size w w'):wF w' M f a:=
 ⟨h.map.mono d,λn b c=>⟨(h.is n b c).1,(h.is n b c).2.1,(h.is n b c).2.2.mono d⟩,h.inj,h.no⟩
def wF.new (w:World):wF (w.alloc (.map #[] 0)) w.heap.size (λ_=>0) λ_=>none:=by
 have h0:=dE.new (P:=prog) (k:=21) w 0;have e:(λ(_ _:Value)=>False)=G7 λ_=>none:=by
  funext x v;simp[G7]
 exact⟨e▸h0,(λ_ _ h=>nomatch h),(λ_ _ _ h=>nomatch h),(λ_ _ _ _=>rfl)⟩
def Ap (n:Nat) (h:n<2147483648):iF prog 21 (.int .i32 n):=by
 refine⟨_,Maps.keyOf_int_mk underlying21 ?_⟩;have b:IntKind.i32.min=-2147483648:=by decide
 have a:IntKind.i32.max=2147483647:=by decide
 simp only[Lit.wf,b,a,jn,decide_eq_true_eq];omega
def oq {P:Program} {k:TypeId} {w w':World} {r:Nat} {G:Value->Value->Prop} {row:Option Nat} (h:dE P k w r G) (a:w.grownBy w' row) (b:row≠some r):dE P k w' r G:=
 h.block (a.block r h.lt λe=>b e.symm)
def wF.put {w:World} {M:Nat} {f:Nat->Nat} {d:Nat->Option Nat} (h:wF w M f d) {n b:Nat} (i:d n=some b) {k v:Nat} (l:k<256):wF (w.setCell ⟨b,k,none⟩ (.int .u16 (v:Nat))) M (uG f (n*256+k) v) d:=by
 refine⟨oq h.map (bX _ _ _ _) (λe=>?_),λm c a=>?_,h.inj,λm a j p=>?_⟩
 ·have:=(h.is n b i).2.1;cases e;omega
 ·obtain⟨q,r,o⟩:=h.is m c a;refine⟨q,r,?_⟩;by_cases g:m=n
  ·subst g;rw[i] at a;cases a;rw[<-RD _ _ _ _ l];exact o.set k _
  rw[Kk _ _ _ _ _ l g];exact o.put (λe=>g (h.inj m n c a (e▸i))) _
 have g:m≠n:=λe=>by rw[e,i] at a;cases a
 rw[iG _ _ (by omega)];exact h.no m a j p
def wF.add {w w':World} {M:Nat} {f:Nat->Nat} {c:Nat->Option Nat} (h:wF w M f c) {n:Nat} (o:c n=none) (q:n<4352)
 (g:dE prog 21 w' M (Ad (G7 c) (.int .i32 n) (.pointer (some ⟨w.heap.size,0,none⟩))))
 (j:(w.alloc (.cells zeroCells213 213)).grownBy w' (some M)):wF w' M f λm=>if m=n then some w.heap.size else c m:=by
 have k:=h.map.lt;have e:Ad (G7 c) (.int .i32 n) (.pointer (some ⟨w.heap.size,0,none⟩))=G7 λm=>if m=n then some w.heap.size else c m:=by
  funext x v;apply propext;constructor
  ·rintro (⟨rfl,rfl⟩|⟨r,m,b,a,rfl,rfl⟩)
   ·exact⟨n,w.heap.size,if_pos rfl,rfl,rfl⟩
   exact⟨m,b,(if_neg (λe=>r (by rw[e]))).trans a,rfl,rfl⟩
  rintro⟨m,b,a,rfl,rfl⟩;simp only at a
  split at a
  ·rename_i e;subst e;cases a;exact .inl ⟨rfl,rfl⟩
  rename_i e;refine .inr ⟨λl=>e ?_,m,b,a,rfl,rfl⟩;injection l with _ e2;omega
 refine⟨e▸g,λm b i=>?_,λm p b a d=>?_,λm g=>?_⟩
 ·split at i
  ·rename_i e;subst e;cases i;refine⟨q,k,?_⟩;rw[pg f m (h.no m o)];exact(Is.new w zeroCells213 213).grown j (λe=>by cases e;omega)
  obtain⟨a,d,s⟩:=h.is m b i;exact⟨a,d,(s.mono (ah _)).grown j (λe=>by cases e;omega)⟩
 ·split at a <;> split at d
  ·omega
  ·cases a;have:=(h.is p _ d).2.2.lt;omega
  ·cases d;have:=(h.is m _ a).2.2.lt;omega
  exact h.inj _ _ _ a d
 split at g
 ·cases g
 exact h.no m g
def x8:mV prog 215 213 (.agg zeroCells213) 256 512:=⟨(by kernel_rfl),underlying215,info_parts (by kernel_rfl)⟩
def DU (f:Nat->Nat) (v:Value):Array Value:=(((List.range 4352).map λk=>Value.int .u16 (f k:Nat))++[v]).toArray
def wG (f:Nat->Nat) (v:Value):(DU f v).size=4353:=by simp[DU]
def uH (f:Nat->Nat) (v:Value) {k:Nat} (h:k<4352):(DU f v)[k]? = some (.int .u16 (f k:Nat)):=by
 unfold DU;rw[tD,kn (by simp;exact h)];simp[h]
def lT (f:Nat->Nat) (v:Value):(DU f v)[4352]? = some v:=by
 unfold DU;rw[tD,j7 (by simp)];simp
def wH (f:Nat->Nat) (v:Value) {k:Nat} (h:4353<=k):(DU f v)[k]? = none:=kp (by rw[wG];exact h)
def Y8 (f:Nat->Nat) (v:Value) (k u:Nat) (h:k<4352):(DU f v).setIfInBounds k (.int .u16 (u:Nat))=DU (uG f k u) v:=by
 apply pS;intro i;rw[qs,wG];rcases pZ i 4352 with hi|rfl|hi
 ·rw[uH _ _ hi,uH _ _ hi];by_cases a:k=i
  ·subst a;rw[if_pos rfl,if_pos (by omega),rZ]
  rw[if_neg a,iG _ _ (by omega)]
 ·rw[lT,lT,if_neg (by omega)]
 rw[wH _ _ (by omega),wH _ _ (by omega),if_neg (by omega)]
def Qk (f:Nat->Nat) (v v':Value):(DU f v).setIfInBounds 4352 v'=DU f v':=by
 apply pS;intro i;rw[qs,wG];rcases pZ i 4352 with hi|rfl|hi
 ·rw[uH _ _ hi,uH _ _ hi,if_neg (by omega)]
 ·rw[if_pos rfl,if_pos (by omega),lT]
 rw[wH _ _ (by omega),wH _ _ (by omega),if_neg (by omega)]
def RF:zeroCells217=DU (λ_=>0) (.slice none 0 0):=by kernel_rfl
def zH (a:Option Addr) (n c:Nat):prog.built 217 [(1,.slice a n c)]=some (DU (λ_=>0) (.slice a n c)):=by
 obtain⟨i,d,e,_⟩:∃i,prog.info? 217=some i/\i.zero=some (.agg zeroCells217)/\i.size=4353/\i.bytes=8728:=info_parts (by kernel_rfl);have g:∀b:Array Field,prog.underlying 217=some (.struct b)->b.toList.mapM (λf=>(prog.info? f.type).map λi=>(f.offset,i.size))=some [(0,4352),(4352,1)]:=by
  intro b h;rw[underlying217] at h;cases h
  kernel_rfl
 unfold Program.built;rw[d,underlying217];simp only[e,g _ underlying217];rw[RF];rw[<-Qk (λ_=>0) (.slice none 0 0) (.slice a n c)];simp[Instr.fill,Value.cells,wG]
def tZ {P:Program} {ops:Array Oper} {rest:List Oper} {o:Oper} {a:Act} {w:World} {Q:Exit->Act->World->Prop} (n:o.guard=none) (t e:TypeId) (x:Operand) (q:o.op=.buildSlice t 1 #[(0,x)])
 {b d:Nat} {z:Value} (l:mV P t e z b d) (f:0<b) (m:b<=16777216) (us:Array Value) (y:a.eval x=.agg us) (v:us.size=b)
 (h:wpList P ops Q rest (a.put o.dst (.slice (some ⟨w.heap.size,0,none⟩) 1 1)) (w.alloc (.cells us e))):wpList P ops Q (o::rest) a w:=by
 obtain⟨g,r,i,u,j,c,k⟩:=l;refine Go.wpList_buildSlice n t e 1 #[(0,x)] q us i z r u j (by rw[c];omega) (by rw[c];omega) ?_ h;have:=Go.Great.fill_whole (s:=b) f [.agg us] ((Array.range (1*b)).map (z.cells[· % z.cells.size]!)) (by simp[Value.cells,v]) (by simp);simp only[c];have p:((#[(0,x)]:Array (Nat×Operand)).map λ(i,x)=>(i,a.eval x)).toList=(([.agg us]:List Value).zipIdx 0).map λx=>(x.2,x.1):=by simp[y]
 rw[p,this];simp[Value.cells]
def DV {P:Program} {k:TypeId} {w:World} {ops:Array Oper} {rest:List Oper} {o:Oper} {a:Act} {Q:Exit->Act->World->Prop} (e:o.guard=none) (m x v:Operand) (t b:TypeId) (g:o.op=Op.insert t m x v)
 (K:Maps.Keyed P k) (i:P.underlying t=some (.map k b)) {r:Nat} {G:Value->Value->Prop} (h:dE P k w r G) (d:a.eval m=.map (some r)) {xv vv:Value} (n:a.eval x=xv) (s:a.eval v=vv) (q:iF P k xv)
 (f:∀w',dE P k w' r (Ad G xv vv)->w.grownBy w' (some r)->wpList P ops Q rest (a.put o.dst undef) w'):wpList P ops Q (o::rest) a w:=by
 refine wpList_plain e λu c=>?_;obtain⟨w',p,l,j⟩:=Kh K i h q vv;unfold Oper.wp;simp[execOp,g,d,n,s,p,Result.andThen];exact c _ _ (f w' l j)
def Fs {f:Nat->Nat} (hf:∀c,f c<65536) (n:Nat):iF prog 213 (.agg (dw f n)):=by
 refine Qi (P:=prog) (k:=213) (e:=145) (n:=256) (q:=.u16) underlying213 underlying145 (by kernel_rfl) (by kernel_rfl) (by kernel_rfl) (m:=prog.types.size-1) (by kernel_rfl) (dw f n) (fA _ _) ?_;intro i d;refine⟨_,fJ f n d,?_⟩;have a:IntKind.u16.min=0:=by decide
 have b:IntKind.u16.max=65535:=by decide
 have:=hf (n*256+i);simp only[Lit.wf,a,b,jn,decide_eq_true_eq];omega
def zI (f:Nat->Nat) (n:Nat):dw f n=dw (λx=>f (n*256+x)) 0:=by simp[dw]
def RH {f g:Nat->Nat} {n m:Nat} (h:dw f n=dw g m) {k:Nat} (b:k<256):f (n*256+k)=g (m*256+k):=by
 have a:=fJ f n b;rw[h,fJ g m b] at a;injection a with a;injection a with _ a;omega
def NT (f:Nat->Nat) (n:Nat):∀u∈(dw f n).toList,u.oneCell'=true:=by
 intro u a;simp[dw] at a;obtain⟨k,_,rfl⟩:=a;rfl
def x9 (g:Nat->Nat):List Value:=(dw g 0).toList
def Kl (g:Nat->Nat):(x9 g).length=256:=by simp[x9,fA]
def wI {ops:Array Oper} {rest:List Oper} {o:Oper} {a:Act} {w:World} {Q:Exit->Act->World->Prop} (f:o.guard=none) (x:Operand) (d:o.op=.build 217 #[(1,x)])
 (b:Option Addr) (n c:Nat) (g:a.eval x=.slice b n c)
 (h:wpList prog ops Q rest (a.put o.dst (.agg (DU (λ_=>0) (.slice b n c)))) w):wpList prog ops Q (o::rest) a w:=by
 have e:((#[(1,x)]:Array (Nat×Operand)).map λ(i,x)=>(i,a.eval x)).toList=[(1,.slice b n c)]:=by simp[g]
 refine Go.wpList_build f 217 #[(1,x)] d ?_ ?_
 ·rw[e,zH];rfl
 rw[e,zH];exact h
structure wJ (w:World) (p mp base:Nat) (f:Nat->Nat) (n:Nat) (idx:Nat->Nat) (Bs:List (Nat->Nat)) (v:Value):Prop where
 is:Is w p (DU idx v) 217
 own:w.ownsRow base 213 256 v Bs.length (Bs.flatMap x9)
 map:∃G,dE prog 213 w mp G/\∀x u,G x u->∃(i:Nat) (g:Nat->Nat),Bs[i]? = some g/\x=.agg (dw g 0)/\u=.int .i64 i
 one:∃g,Bs[0]? = some g/\∀k,k<256->g k=0
 lo:∀m,m<n->∃g,Bs[idx m]? = some g/\∀k,k<256->g k=f (m*256+k)
 hi:∀m,n<=m->idx m=0
def wJ.skip {w:World} {p b base:Nat} {f:Nat->Nat} {n:Nat} {a:Nat->Nat} {Bs:List (Nat->Nat)} {v:Value} (h:wJ w p b base f n a Bs v) (d:∀k,k<256->f (n*256+k)=0):wJ w p b base f (n+1) a Bs v:=by
 refine⟨h.is,h.own,h.map,h.one,λm i=>?_,λm i=>h.hi m (by omega)⟩;by_cases e:m=n
 ·subst e;obtain⟨g,j,l⟩:=h.one;rw[h.hi m (gw _)];exact⟨g,j,λk c=>(l k c).trans (d k c).symm⟩
 exact h.lo m (by omega)
def wJ.lay {w:World} {p b base:Nat} {f:Nat->Nat} {n:Nat} {a:Nat->Nat} {Bs:List (Nat->Nat)} {v:Value} (h:wJ w p b base f n a Bs v) (l:n<4352) {i:Nat} {g:Nat->Nat} (q:Bs[i]? = some g) (d:∀k,k<256->g k=f (n*256+k))
 (s:v.ownBlock≠some p) (c:b≠p):wJ (w.setCell ⟨p,n,none⟩ (.int .u16 (i:Nat))) p b base f (n+1) (uG a n i) Bs v:=by
 refine⟨?_,bn h.own s _ _,?_,h.one,λm j=>?_,λm j=>?_⟩
 ·rw[<-Y8 _ _ _ _ l];exact h.is.set _ _
 ·obtain⟨G,o,r⟩:=h.map;exact⟨G,oq o (bX _ _ _ _) (λe=>by injection e with e;exact c e.symm),r⟩
 ·by_cases e:m=n
  ·subst e;rw[rZ];exact⟨g,q,d⟩
  rw[iG a i e];exact h.lo m (by omega)
 rw[iG _ _ (by omega)];exact h.hi m (by omega)
def Km {P:Program} {k:TypeId} {w:World} {r:Nat} {G:Value->Value->Prop} {base a n:Nat} {e:TypeId} {v:Value} {f:List Value} (h:dE P k w r G) (l:w.ownsRow base e a v n f):v.ownBlock≠some r:=by
 intro b;obtain⟨m,o,j,_⟩:=h;rcases l.2 with⟨c,_⟩|⟨g,_,i,c,_,d,_⟩
 ·rw[c] at b;cases b
 rw[c] at b;cases b;rw[j] at d;cases d
def wJ.more {w w4 w5 l:World} {p b base:Nat} {f:Nat->Nat} {n:Nat} {a:Nat->Nat} {Bs:List (Nat->Nat)} {v v':Value} (h:wJ w p b base f n a Bs v) {G:Value->Value->Prop}
 (E:dE prog 213 w4 b G) (y:∀x u,G x u->∃(i:Nat) (g:Nat->Nat),(Bs++[λx=>f (n*256+x)])[i]? = some g/\x=.agg (dw g 0)/\u=.int .i64 i)
 (B:w.grownBy w4 (some b)) (d:p≠b) (c:v.ownBlock≠some b) (o:Below w4.heap.size w4 w5)
 (D:l.ownsRow base 213 256 v' (Bs.length+1) (Bs.flatMap x9++(dw f n).toList)) (C:w5.grownBy l v.ownBlock) (z:v'.ownBlock≠some p) :
 wJ (l.setCell ⟨p,4352,none⟩ v') p b base f n a (Bs++[λx=>f (n*256+x)]) v':=by
 have j:Is w4 p (DU a v) 217:=h.is.grown B (λe=>d (by injection e with e;exact e.symm));have A:=h.own.kept B (.inr λe=>c e);have s:=aH A o;have q:Is l p (DU a v) 217:=(j.mono o).grown C ((j.mono o).other s (by decide));have t:=oq (E.mono o) C c;refine⟨?_,?_,⟨G,oq t (bX _ _ _ _) (λe=>d (by injection e)),y⟩,?_,λm F=>?_,h.hi⟩
 ·rw[<-Qk a v v'];exact q.set 4352 _
 ·have:=bn D z 4352 v';rw[d',jj];have H:List.flatMap x9 [λx=>f (n*256+x)]=(dw f n).toList:=by
   rw[zI f n];simp[x9]
  rw[H];exact this
 ·obtain⟨g,k,r⟩:=h.one;exact⟨g,by rw[kn (ir.1 k).1];exact k,r⟩
 obtain⟨g,k,r⟩:=h.lo m F;exact⟨g,by rw[kn (ir.1 k).1];exact k,r⟩
def wJ.pages {w:World} {p t base:Nat} {f:Nat->Nat} {a:Nat->Nat} {Bs:List (Nat->Nat)} {v:Value} (h:wJ w p t base f 4352 a Bs v) (k:Bs.length<=4353) (hf:∀c,f c<65536):lS w p f:=by
 obtain⟨z,e,_⟩:=h.one;obtain⟨e,_⟩:=ir.1 e;obtain⟨g,cap,m,j,r,_,_⟩:=dC (f:=x9) Kl rfl h.own e;refine⟨a,Bs.length,g,cap,h.is.lt,r,j,by omega,?_,λn i=>⟨?_,h.is.at n (uH _ _ i)⟩,λc j=>⟨hf c,?_⟩⟩
 ·rw[<-m];exact h.is.at 4352 (lT _ _)
 ·obtain⟨_,d,_⟩:=h.lo n i;exact(ir.1 d).1
 obtain⟨q,d,x⟩:=h.lo (c / 256) (by omega);obtain⟨d,s⟩:=ir.1 d;obtain⟨y,l,b,_,_,_,o⟩:=dC (f:=x9) Kl rfl h.own d;rw[m] at b;injection b with e1 _ _;injection e1 with e1;injection e1 with e1 _ _;subst e1;obtain⟨u,_⟩:=o (c % 256) (mx _ (by decide));rw[u,s];show(dw q 0).toList[c % 256]? = _;rw[mm,fJ _ _ (mx _ (by decide)),vb,kh,x _ (mx _ (by decide))];have:c / 256*256+c % 256=c:=by omega
 rw[this]
def cellC (x:Nat×Nat):List Value:=[.int .i32 x.1,.int .u16 x.2]
def RI (x:Nat×Nat):(cellC x).length=2:=rfl
def Kn {w:World} {v:Value} {L:List (Nat×Nat)} {base:Nat} (hv:w.ownsRow base 260 2 v L.length (L.flatMap cellC)) (hL:∀x∈L,x.1<1114112/\x.2<65536) (hn:L.length<100000) :
 Calls prog 156 #[v] w λe w'=>∃p,e=.returned (.pointer (some ⟨p,0,none⟩))/\lS w' p (iZ L)/\Below w.heap.size w w':=by
 have HL:=aa hL;obtain⟨nt,Y⟩:=ae L.length;have vI:=aa Y;have HX:=aa (λ(j:Nat) (hj:j<L.length)=>dC (hf:=RI) rfl hv hj);obtain⟨va,vc,rfl,_,_⟩:=ak hv;have R:(Instr.makeMap 314 none).run prog w=.ok (.map (some w.heap.size)) (w.alloc (.map #[] 0)):=rfl;rw[<-Y] at hn⊢;clear hv hL Y;go_enter func156,ntmps156;go_wp2_with fail;clear R;have R0:=wF.new w;have aS:Below w.heap.size w (w.alloc (.map #[] 0)):=ah _;have aV:(w.alloc (.map #[] 0)).heap.size=w.heap.size+1:=by simp
 generalize w.alloc (.map #[] 0)=w1 at *;go_loopw [16] (λiv wr=>∃j:Nat,j<=nt/\iv=.int .i64 j/\(∃P,wF wr w.heap.size (iZ (L.take j)) P)/\Below w.heap.size w wr) (λiv _=>nt-(intOf iv).toNat)
 case atStart=>exact⟨0,gW _,rfl,⟨_,R0⟩,aS⟩
 case round=>
  clear R0 aS aV;obtain⟨j,hj,rfl,⟨P,E⟩,hE⟩:=hrel;by_cases be:j<nt
  ·have zj:=eG (show j<nt by omega);have ar:j<L.length:=by have:=vI.out;omega
   obtain⟨g,cap,ac,_,a7,_,hx⟩:=HX.out j ar;injection ac with ac _ aX;subst ac;subst aX;have hc:=HL.out _ (gx ar);have c0:wr.cell? ⟨g,j*2,none⟩=some (.int .i32 (L[j].1:Nat)):=aB hE ((hx 0 (by omega)).1.trans rfl);have c1:wr.cell? ⟨g,j*2+1,none⟩=some (.int .u16 (L[j].2:Nat)):=aB hE ((hx 1 (by omega)).1.trans rfl);have HS:=aa (show iZ (L.take (j+1))=uG (iZ (L.take j)) (L[j].1) (L[j].2) by rw[gE ar,NS]);clear hx a7;generalize L[j]=q at *;obtain⟨c,u⟩:=q;simp only at c0 c1 hc HS;obtain⟨a6,bm⟩:=hc;obtain⟨w3,O⟩:=ae (wr.alloc (.cells #[.int .i32 (c:Nat),.int .u16 (u:Nat)] 260));have k3:=Is.nw O;have al:=aO O;have e0:=k3.at 0 rfl;have e1:=k3.at 1 rfl;have IN:=aa (Qj (w:=w3) c a6);have hm:=Fq c (by omega);have hd:((c:Int) / 256)=((c / 256:Nat):Int):=by omega
   have bn:=xB c 256;have R:=mx c (show 0<256 by decide);generalize c / 256=n at *;generalize c % 256=k at *;have C:n<4352:=by omega
   have R3:=E.mono al;have s:=Ap n (by omega);have ai:=zeroValue315 w3;have bp:=E.map.lt;clear E;go_upto_region 5 with fail;rw[<-O];clear O c0 c1
   go_wp2_with (first
    | (go_at_call 123;refine IN.out.mono ?_;rintro e w4⟨rfl,rfl⟩)
    | (refine iL rfl _ _ 314 315 false rfl jR underlying314 R3.map rfl rfl s ai ?_ ?_)
    | fail)
   ·intro l
    replace l:=r_ l
    obtain⟨wb,d⟩:=ae (w4.alloc (.cells zeroCells213 213));have Rb:dE prog 21 wb w.heap.size (G7 P):=by rw[d];exact R3.map.mono (ah _)
    have o:wb.heap.size=w4.heap.size+1:=by rw[d];simp
    go_wp2_with (first
     | (rw[<-d];refine jQ (xv:=.int .i32 n) (vv:=.pointer (some ⟨w4.heap.size,0,none⟩)) rfl _ _ _ 314 315 rfl jR underlying314 Rb rfl rfl rfl s ?_;intro w5 J r)
     | fail)
    have Z:Below w4.heap.size w4 wb:=by rw[d];exact ah _
    have Y9:=R3.map.lt;obtain⟨Y_,H,R5⟩:∃Y_:Nat->Option Nat,Y_ n=some w4.heap.size/\wF w5 w.heap.size (iZ (L.take j)) Y_:=⟨_,if_pos rfl,R3.add l C J (d▸r)⟩;have lN:Below w.heap.size w w4:=af hE al;have jP:Below w.heap.size w w5:=(lN.trans (Z.mono lN.size)).grown r (gS lN.size Z.size) (λk t=>by injection t with t;omega);have k5:Is w5 wr.heap.size #[.int .i32 (c:Nat),.int .u16 (u:Nat)] 260:=(k3.mono Z).grown r (λe=>by injection e with e;have:=hE.size;omega);obtain⟨_,a3,M⟩:=R5.is n _ H;clear d J r Rb;clear e0 e1 ai IN;go_upto_region 9 with fail;simp only[Act.put];have bg:=k5.mono (ag w5);have I:=M.mono (ag w5);have Rd:=R5.mono (ag w5);have g0:=k5.gd 0 rfl;have g1:=k5.gd 1 rfl;refine aC #[true,true,true,true,true,true,true,true,true,true,false] 10 1 mixed ?_;refine ay [0,1,3,4,5,6,7] 3 ?_
    iterate 7 (refine aA rfl ?_;go_big_quiet_step (rfl))
    refine az ?_;refine aI 2 ?_;refine iL rfl _ _ 314 315 false rfl jR underlying314 Rd.map rfl rfl s (zeroValue315 _) (λl=>absurd (r_ l) (by rw[H];simp)) ?_;intro pv a;obtain⟨b',K,rfl⟩:=r9 a;rw[H] at K;cases K;clear a;go_wp2_with fail;refine aF (gO _ _) ?_;refine ay [8,9] 0 ?_
    iterate 2 (refine aA rfl ?_;go_big_quiet_step (rfl))
    refine az ?_;refine aJ [10] ?_;have d9:=I.frozen k;have e9:=I.at k (fJ _ _ (by omega));refine tail_cons rfl ?_;go_wp2_with fail;refine tail_nil ?_;go_wp2;go_roundw
    case rel=>
     refine⟨j+1,by omega,by simp,⟨Y_,?_⟩,?_⟩
     ·rw[HS.out,show c=n*256+k by omega];exact Rd.put H (by omega)
     exact aj ((jP.trans ((ag w5).mono jP.size))) (by omega)
    case measure=>simp[intOf];omega
   intro pv a;obtain⟨b,H,rfl⟩:=r9 a;clear a;obtain⟨_,a3,M⟩:=R3.is n b H;have lN:Below w.heap.size w w4:=af hE al;clear e0 e1 ai IN;go_upto_region 9 with fail;have bi:=k3.mono (ag w4);have I:=M.mono (ag w4);have Rd:=R3.mono (ag w4);have g0:=k3.gd 0 rfl;have g1:=k3.gd 1 rfl;refine aC #[true,true,true,true,true,true,true,true,true,true,false] 10 1 mixed ?_;refine ay [0,1,3,4,5,6,7] 3 ?_
   iterate 7 (refine aA rfl ?_;go_big_quiet_step (rfl))
   refine az ?_;refine aI 2 ?_;refine iL rfl _ _ 314 315 false rfl jR underlying314 Rd.map rfl rfl s (zeroValue315 _) (λl=>absurd (r_ l) (by rw[H];simp)) ?_;intro pv a;obtain⟨b',K,rfl⟩:=r9 a;rw[H] at K;cases K;clear a;go_wp2_with fail;refine aF (gO _ _) ?_;refine ay [8,9] 0 ?_
   iterate 2 (refine aA rfl ?_;go_big_quiet_step (rfl))
   refine az ?_;refine aJ [10] ?_;have d9:=I.frozen k;have e9:=I.at k (fJ _ _ (by omega));refine tail_cons rfl ?_;go_wp2_with fail;refine tail_nil ?_;go_wp2;go_roundw
   case rel=>
    refine⟨j+1,by omega,by simp,⟨P,?_⟩,?_⟩
    ·rw[HS.out,show c=n*256+k by omega];exact Rd.put H (by omega)
    exact aj ((lN.trans ((ag w4).mono lN.size))) (by omega)
   case measure=>simp[intOf];omega
  have zj:=gI (show nt<=j by omega);have hf:=Kj (L:=L) λx hx=>(HL.out x hx).2;have aM:L.take j=L:=by rw[ie];have:=vI.out;omega
  rw[aM] at E;have HF:=aa (show ∃f,f=iZ L from ⟨_,rfl⟩);obtain⟨f,ad⟩:=HF.out;rw[<-ad] at hf E;have aT:=aa ad;clear ad HF aM;have HR:=aa E;have hM:=E.map.lt;obtain⟨B,hB⟩:=ae wr.heap.size;obtain⟨wa,RJ⟩:=ae (wr.alloc (.cells zeroCells213 213));have z:wa.heap.size=B+1:=by rw[RJ];simp[hB]
  have ax:Below B wr wa:=by rw[RJ,hB];exact ah _
  have ka:Is wa B zeroCells213 213:=by rw[RJ,hB];exact Is.new _ _ _
  obtain⟨wb,d⟩:=ae (wa.alloc (.cells (DU (λ_=>0) (.slice (some ⟨B,0,none⟩) 1 1)) 217));have o:wb.heap.size=B+2:=by rw[d];simp[z]
  have au:Below (B+1) wa wb:=by rw[d,<-z];exact ah _
  have M:Is wb (B+1) (DU (λ_=>0) (.slice (some ⟨B,0,none⟩) 1 1)) 217:=by rw[d,<-z];exact Is.new _ _ _
  obtain⟨wc,D⟩:=ae (wb.alloc (.map #[] 0));have U:wc.heap.size=B+3:=by rw[D];simp[o]
  have Ql:Below (B+2) wb wc:=by rw[D,<-o];exact ah _
  have mc:dE prog 213 wc (B+2) λ_ _=>False:=by rw[D,<-o];exact dE.new _ _
  have R:(Instr.makeMap 316 none).run prog wb=.ok (.map (some (B+2))) wc:=by rw[D,<-o];rfl
  have ab:=Fs (f:=λ_=>0) (λ_=>by decide) 0;rw[pg _ _ (λ_ _=>rfl)] at ab;have aN:=aa RJ;have aD:=aa d;have a_:=aa D;have HB:=aa hB;have am:=aa z;have aE:=aa o;have NU:=aa U;clear E RJ d D hB z o U
  go_wp2_with (first
   | (refine tZ rfl 215 213 _ rfl x8 (by decide) (by decide) zeroCells213 rfl (by kernel_rfl) ?_;rw[<-aN.out,<-HB.out])
   | (refine wI rfl _ rfl (some ⟨B,0,none⟩) 1 1 rfl ?_)
   | (refine Go.Great.wpList_boxTo rfl 217 _ rfl _ rfl (B+1) am.out (DU (λ_=>0) (.slice (some ⟨B,0,none⟩) 1 1)) rfl ?_;rw[<-aD.out])
   | (refine DV (xv:=.agg zeroCells213) (vv:=.int .i64 0) rfl _ _ _ 316 3 rfl uF underlying316 mc rfl rfl rfl ab ?_;intro wd aw Q)
   | fail)
  have A:(zeroCells213).size=256:=by kernel_rfl
  have oa:wa.ownsRow B 213 256 (.slice (some ⟨B,0,none⟩) 1 1) 1 ([λ_=>0].flatMap x9):=by
   have e:[λ_=>0].flatMap x9=(zeroCells213).toList:=by
    simp only[iR,List.flatMap_nil,lE,x9];rw[pg _ _ (λ_ _=>rfl)]
   rw[e];exact⟨by rw[td,A],.inr ⟨B,1,_,rfl,gw _,ka.at_,gw _,by decide,by rw[A],by rw[ie];simp[A]⟩⟩
  have Vk:B=wr.heap.size:=HB.out;have z:=am.out;have o:=aE.out;have U:=NU.out;have ob:=aH oa (z▸au);have oc:=aH ob (o▸Ql);have od:wd.ownsRow B 213 256 (.slice (some ⟨B,0,none⟩) 1 1) 1 ([λ_=>0].flatMap x9):=oc.kept Q (.inr (λe=>by simp[Value.ownBlock] at e));have kd:Is wd (B+1) (DU (λ_=>0) (.slice (some ⟨B,0,none⟩) 1 1)) 217:=(M.mono (o▸Ql)).grown Q (λe=>by injection e with e;omega);have Za:Below B wr wd:=((ax.trans (au.mono (by omega))).trans (Ql.mono (by omega))).grown Q (by omega) (λk t=>by injection t with t;omega);have y:wJ wd (B+1) (B+2) B f 0 (λ_=>0) [λ_=>0] (.slice (some ⟨B,0,none⟩) 1 1):=by
   refine⟨kd,od,⟨_,aw,?_⟩,⟨_,rfl,λ_ _=>rfl⟩,λm hm=>by omega,λ_ _=>rfl⟩;rintro x u (⟨rfl,rfl⟩|⟨_,h⟩)
   ·exact⟨0,_,rfl,by rw[pg _ _ (λ_ _=>rfl)],rfl⟩
   exact h.elim
  have a8:B<=wd.heap.size:=by have:=Za.size;omega
  clear aw Q kd od oc ob oa A R ab mc M ka ax au Ql U o z aN aD a_ am aE NU;obtain⟨wE,bc⟩:=ae wr;subst bc;have bd:w.heap.size<B:=by omega
  clear Vk;go_loopw [53] (λiv wn=>∃n:Nat,n<=4352/\iv=.int .i64 n/\(∃an Bs v,wJ wn (B+1) (B+2) B f n an Bs v/\Bs.length<=n+1)/\Below B wE wn) (λiv _=>4352-(intOf iv).toNat)
  case atStart=>exact⟨0,gW _,rfl,⟨_,_,_,y,by simp⟩,Za⟩
  case round=>
   clear y Za a8;obtain⟨n,rW,rfl,⟨an,Bs,v,y,X⟩,NV⟩:=hrel;by_cases C:n<4352
   ·have zn:decide ((n:Int)<4352)=true:=by simp;omega
    have E:=HR.out.mono (HB.out▸NV);have s:=Ap n (by omega)
    go_wp2_with (first
     | (refine iL rfl _ _ 314 315 false rfl jR underlying314 E.map rfl rfl s (zeroValue315 _) ?_ ?_)
     | fail)
    ·intro l
     replace l:=r_ l
     have ap:=y.skip (E.no n l);go_wp2_with fail;go_roundw
     case rel=>exact⟨n+1,by omega,by simp,⟨_,_,_,ap,by omega⟩,NV⟩
     case measure=>simp[intOf];omega
    intro pv a;obtain⟨b,H,rfl⟩:=r9 a;clear a;obtain⟨_,_,M⟩:=E.is n b H;have bf:b<B:=by have:=(HR.out.is n b H).2.2.lt;have:=HB.out;omega
    have aR:=Fs hf n;obtain⟨G,hG,aG⟩:=y.map;have aP:=aa aG;clear aG
    go_wp2_with (first
     | (refine yq rfl 213 _ rfl b rfl 213 (dw f n) (0,0) _ M.at_ underlying213 rfl (by rw[fA];kernel_rfl) ?_)
     | (refine iL rfl _ _ 316 3 true rfl uF underlying316 hG rfl rfl aR (zeroValue3 _) ?_ ?_)
     | fail)
    ·intro l;obtain⟨ba,aZ,a1,_,_⟩:=ak y.own;subst a1;have Q6:=aa y.own.1;obtain⟨T,F⟩:=ae Bs.length;have Zb:=aa F;have e0:=y.is.at 4352 (lT _ _);rw[<-F] at e0 X;clear F Q6
     go_wp2_with (first
      | (refine yq rfl 213 _ rfl b rfl 213 (dw f n) (0,0) _ M.at_ underlying213 rfl (by rw[fA];kernel_rfl) ?_)
      | (refine jQ (xv:=.agg (dw f n)) (vv:=.int .i64 T) rfl _ _ _ 316 3 rfl uF underlying316 hG rfl rfl rfl aR ?_;intro w5 J r)
      | fail)
     simp only[Act.put];have F:=Zb.out;have ho:=y.own;have hi:=y.is;rw[<-F] at ho hi;have av:=Km hG ho;have N:=hi.other ho (by decide);have k5:=hi.grown r (λe=>by injection e with e;omega);have aY:=ho.kept r (.inr av);have a4:=M.grown r (λe=>by injection e with e;omega);have a5:B+2<=w5.heap.size:=by have:=k5.lt;omega
     have k6:=k5.mono (ag w5);have Us:=aH aY (ag w5);have aU:=a4.mono (ag w5);have bo:B+2<=w5.drew.heap.size:=a5;have g0:=vG.keeps (S:=λk=>k=B+1\/k<B) (k6.at 4352 (lT _ _)) (.inl rfl);have HN:=aa y;have a0:=aa J;have aK:=aa r;clear F y hG E e0 J r;refine dF (KR.blocks λk=>k=B+1\/k<B) #[true,true,true,true,true,true,true,true,true,true,true,true,false] 12 1 mixed ?_;refine bZ [0,1,2,3,4,5,6] 5 ?_
     iterate 7 (refine aA rfl ?_;go_big_quiet_step (rfl))
     refine az ?_;refine bN 7 ?_;refine yq rfl 213 _ rfl b rfl 213 (dw f n) (0,0) _ aU.at_ underlying213 rfl (by rw[fA];kernel_rfl) ?_;go_wp2_with fail;refine bK (KR.refl _ _) ?_;refine bN 8 ?_;refine tZ rfl 215 213 _ rfl x8 (by decide) (by decide) (dw f n) rfl (fA _ _) ?_;go_wp2_with fail;refine bK (KR.of_below (ah _) (by simp) (λk t=>by rcases t with rfl|t <;> omega)) ?_;refine bN 9 ?_;refine Bt (W:=w5.drew) rfl _ _ 215 rfl B 213 _ 256 512 x8 (by decide) (by decide) (.slice ba T aZ) T (Bs.flatMap x9) rfl Us (dw f n) rfl (fA _ _) (NT _ _) (by omega) (by omega) ?_;intro v1 w9 o9 o_ Dw;obtain⟨na,nc,rfl,_,_⟩:=ak o9;go_wp2_with fail;have k7:=k6.mono (ah (.cells (dw f n) 213));have a2:=aH Us (ah (.cells (dw f n) 213));have k9:=k7.grown Dw N;have bh:B+2<=w9.heap.size:=k9.lt;refine bK (KR.bQ (w:=w5.drew.alloc (.cells (dw f n) 213)) Dw Dw.size (λk t=>?_)) ?_
     ·rcases t with rfl|t
      ·exact⟨k7.lt,N⟩
      exact⟨by simp;omega,Go.Cd.aQ ho t⟩
     refine bZ [10,11] 0 ?_
     iterate 2 (refine aA rfl ?_;go_big_quiet_step (rfl))
     refine az ?_;have e9:=k9.at 4352 (lT _ _);have d9:=k9.frozen 4352;refine eU [12] ?_;refine tail_cons rfl ?_;go_wp2_with fail;refine tail_nil ?_;have NY:wJ (w9.setCell ⟨B+1,4352,none⟩ (.slice na (T+1) nc)) (B+1) (B+2) B f n an (Bs++[λx=>f (n*256+x)]) (.slice na (T+1) nc):=by
      have bb:=k9.other o9 (by decide);refine HN.out.more (w4:=w5) (w5:=w5.drew.alloc (.cells (dw f n) 213)) a0.out ?_ aK.out (by omega) (Zb.out▸av) ((ag w5).alloc (gw _) _) (Zb.out▸o9) (Zb.out▸Dw) bb;rintro x u (⟨rfl,rfl⟩|⟨_,hx⟩)
      ·refine⟨T,_,?_,by rw[zI],rfl⟩;rw[Zb.out,j7 (gw _)];simp
      obtain⟨i,g,h1,h2⟩:=aP.out _ _ hx;exact⟨i,g,by rw[kn (ir.1 h1).1];exact h1,h2⟩
     have Ko:Below B wE (w9.setCell ⟨B+1,4352,none⟩ (.slice na (T+1) nc)):=by
      refine aj (((NV.grown aK.out (by have:=NV.size;have:=HB.out;omega) (λk t=>by injection t with t;omega)).trans (((ag w5).mono (by omega)).alloc (by omega) _)).grown Dw (by simp;omega) (λk t=>(ho.lt k t).1)) (by omega)
     obtain⟨wf,aq⟩:=ae (w9.setCell ⟨B+1,4352,none⟩ (.slice na (T+1) nc));rw[<-aq] at NY Ko;have aL:=NY.own;have ao:(Bs++[λx=>f (n*256+x)])[T]? = some (λx=>f (n*256+x)):=by
      rw[Zb.out,j7 (gw _)];simp
     have a9:=aa (NY.lay C ao (λ_ _=>rfl) (NY.is.other aL (by decide)) (by omega));have bl:=NY.is.at n (uH _ _ C);have bk:=NY.is.frozen n;rw[<-aq];clear e9 d9 aq NY aL k9 Dw o9 k7 a2;go_wp2_with fail;go_roundw
     case rel=>exact⟨n+1,by omega,by simp,⟨_,_,_,a9.out,by rw[d',<-Zb.out];simp;omega⟩,aj Ko (by omega)⟩
     case measure=>simp[intOf];omega
    intro pv a;obtain⟨i,g,hi,V,rfl⟩:=aP.out _ _ a;have bj:=(ir.1 hi).1;have Zc:i<65536:=by omega
    have aW:=aa (λk (t:k<256)=>show g k=f (n*256+k) from by
     injection V with V;have:=RH V t;rw[vb,kh] at this
     exact this.symm)
    have e9:=y.is.at n (uH _ _ C);have d9:=y.is.frozen n;have N:=y.is.other y.own (by decide);have ap:=aa (y.lay C hi aW.out N (by omega));clear a V;go_wp2_with fail;go_roundw
    case rel=>exact⟨n+1,by omega,by simp,⟨_,_,_,ap.out,by omega⟩,aj NV (by omega)⟩
    case measure=>simp[intOf];omega
   have zn:decide ((n:Int)<4352)=false:=by simp;omega
   obtain rfl:n=4352:=by omega
   have hP:=y.pages X hf;rw[aT.out] at hP;go_wp2_with fail;go_ret;exact⟨B+1,rfl,hP,hE.trans (NV.mono (by omega))⟩
end Go.Proofs.YtmnimbnojdndmaaGreatDoor
namespace Go.Proofs.YtmnimbnojdndmaaGreatDoor
open Go.RowKit Go.Cd
def aad {w w':World} {base a n:Nat} {e:TypeId} {v:Value} {c:List Value} (h:w.ownsRow base e a v n c) (m:∀k,v.ownBlock=some k->w'.heap[k]? = w.heap[k]?):w'.ownsRow base e a v n c:=by
 obtain⟨l,f⟩:=h;refine⟨l,f.imp id ?_⟩;rintro⟨g,cap,b,d,j,i,r⟩;exact⟨g,cap,b,d,j,(m g (by rw[d];rfl)).trans i,r⟩
def mZ (w:World) (k:Nat) (T:TypeId):Prop:=∃cs,w.heap[k]? = some (.cells cs T)
def mZ.one {w:World} {k:Nat} {T b:TypeId} (h:mZ w k T) (c:mZ w k b):T=b:=by
 obtain⟨cs,e⟩:=h;obtain⟨d,a⟩:=c;rw[e] at a;injection a with a;injection a
def bV {w:World} {base a n:Nat} {e:TypeId} {v:Value} {f:List Value} (h:w.ownsRow base e a v n f) {k:Nat} (b:v.ownBlock=some k):mZ w k e:=by
 rcases h.2 with⟨d,_⟩|⟨g,_,c,d,_,i,_⟩
 ·rw[d] at b;cases b
 rw[d] at b;cases b;exact⟨c,i⟩
abbrev ig:=Nat->Option Nat
def Ut (W:World) (Z:ig):Prop:=∀k,Z k≠none->k<W.heap.size/\mZ W k aN
def si (W:World) (B:Nat) (Z:ig) (o:Nat) (v:Value) (l:List Nat):Prop:=W.ownsRow B aN 1 v l.length (aM l)/\∀k,v.ownBlock=some k->Z k=some o
structure vK (W:World) (Z:ig) (o:Nat) (W':World) (Z':ig):Prop where
 os:W'.os=W.os
 tape:W'.tape=W.tape
 output:W'.output=W.output
 size:W.heap.size<=W'.heap.size
 keep:∀k,k<W.heap.size->Z k≠some o->W'.heap[k]? = W.heap[k]?
 sub:∀k,k<W.heap.size->Z k≠some o->Z' k=Z k
 z:Ut W' Z'
def si.nil (W:World) (B:Nat) (Z:ig) (o:Nat):si W B Z o (.slice none 0 0) []:=⟨iu _ _ _ _,λk h=>by simp[Value.ownBlock] at h⟩
def Ut.lt {W:World} {Z:ig} (h:Ut W Z) {k o:Nat} (a:Z k=some o):k<W.heap.size:=(h k (by rw[a];simp)).1
def Ut.mono {W a:World} {Z:ig} (h:Ut W Z) (f:W.heap.size<=a.heap.size) (c:∀k,Z k≠none->a.heap[k]? = W.heap[k]?):Ut a Z:=λk b=>by
 obtain⟨e,cs,d⟩:=h k b;exact⟨by omega,cs,(c k b).trans d⟩
def si.mono {W a:World} {B:Nat} {Z:ig} {o:Nat} {v:Value} {l:List Nat} (h:si W B Z o v l) (c:∀k,Z k≠none->a.heap[k]? = W.heap[k]?):si a B Z o v l:=
 ⟨aad h.1 λk b=>c k (by rw[h.2 k b];simp),h.2⟩
def vK.other {W c:World} {Z d:ig} {o:Nat} (h:vK W Z o c d) {o' B:Nat} (f:o'≠o) {v:Value} {l:List Nat} (b:si W B Z o' v l):si c B d o' v l:=by
 refine⟨aad b.1 λk a=>h.keep k (b.1.lt k a).2 λe=>f ?_,λk a=>?_⟩
 ·rw[b.2 k a] at e;injection e
 rw[h.sub k (b.1.lt k a).2 λe=>f (by rw[b.2 k a] at e;injection e)];exact b.2 k a
def vK.free {W g:World} {Z i:ig} {o:Nat} (h:vK W Z o g i) {B n a:Nat} {e:TypeId} {v:Value} {f:List Value} (d:W.ownsRow B e a v n f) (c:∀k,v.ownBlock=some k->Z k=none):g.ownsRow B e a v n f/\∀k,v.ownBlock=some k->i k=none:=by
 refine⟨aad d λk b=>h.keep k (d.lt k b).2 λe=>?_,λk b=>?_⟩
 ·rw[c k b] at e;cases e
 rw[h.sub k (d.lt k b).2 λe=>(by rw[c k b] at e;cases e)];exact c k b
def vK.below {W a:World} {Z b:ig} {o:Nat} (h:vK W Z o a b) {B:Nat} (c:∀k,Z k≠none->B<=k) (f:B<=W.heap.size):Below B W a:=
 ⟨h.os,h.tape,h.output,h.size,λk d=>h.keep k (by omega) λe=>by have:=c k (by rw[e];simp);omega⟩
def vK.ja {W d:World} {Z:ig} {o B:Nat} {v v':Value} {l l':List Nat} (p:Ut W Z) (n:si W B Z o v l) (g:d.ownsRow B aN 1 v' l'.length (aM l')) (b:W.grownBy d v.ownBlock) (h:kK W v v') :
 ∃j,vK W Z o d j/\si d B j o v' l':=by
 refine⟨λk=>if v'.ownBlock=some k then some o else if v.ownBlock=some k then none else Z k,⟨b.os,b.tape,b.output,b.size,λk a f=>b.block k a λe=>f (n.2 k e.symm),λk a f=>?_,λk a=>?_⟩,g,λk a=>by simp[a]⟩
 ·have c:v.ownBlock≠some k:=λe=>f (n.2 k e);have q:v'.ownBlock≠some k:=λe=>by
   rcases h with h|⟨s,i,m⟩
   ·exact c (h▸e)
   rw[i] at e;injection e with e;omega
  simp[q,c]
 by_cases e:v'.ownBlock=some k
 ·exact⟨(g.lt k e).2,bV g e⟩
 simp only[if_neg e] at a;by_cases c:v.ownBlock=some k
 ·simp[c] at a
 simp only[if_neg c] at a;obtain⟨i,cs,m⟩:=p k a;have:=b.size;exact⟨by omega,cs,(b.block k i λr=>c r.symm).trans m⟩
def ng {P:Program} {W:World} {ops:Array Oper} {rest:List Oper} {o:Oper} {a:Act} {Q:Exit->Act->World->Prop} (R:o.guard=none) (s x:Operand) (t:TypeId)
 (X:o.op=.call { callee:=.builtin .append,args:=#[s,x],argTypes:=#[t,t] })
 (base:Nat) (e:TypeId) (z:Value) (b:Nat) (Z:Elem P t e z b) (V:b<=100000)
 {v:Value} {n:Nat} {G:List Value} (hs:a.eval s=v) (f:W.ownsRow base e 1 v n G) (q:base<=W.heap.size)
 (us:List Value) (U:∀u∈us,u.oneCell'=true) (p:Addr) (m c:Nat) (hm:m=us.length) (hx:a.eval x=.slice (some p) m c) (F:∀j u,us[j]? = some u->W.cell? (p.add j)=some u) (hn:n+m<1000000)
 (h:∀v' N,N.ownsRow base e 1 v' (n+m) (G++us)->W.grownBy N v.ownBlock->kK W v v'->wpList P ops Q rest (a.put o.dst v') N):wpList P ops Q (o::rest) a W:=by
 obtain⟨M,A,i,B,K,d,r⟩:=Z;have H:us.length=m*i.size:=by rw[d];omega
 have I:us.length=m*1:=by omega
 have S:(n+m)*b<=140737488355328:=by
  have:(n+m)*b<=1000000*100000:=pT (by omega) V;omega
 obtain⟨v',w',l,Y,h3,_⟩:=run_append_own (P:=P) W base t o.type e i z 1 b A B K d r (kG M) (by decide) v n G f p m c us I F U (by unfold maxLen;omega) S q;refine sq _ R s x _ _ X v _ hs hx v' w' l (h v' w' Y h3 ?_);rcases pH m with hm0|hm0
 ·have O:us=[]:=im.1 (by omega);subst O;subst hm0;have k:(Builtin.append_ #[t,t] o.type #[v,.slice (some p) 0 c]).run P W=.ok v W:=by
   rcases f.2 with⟨rfl,rfl⟩|⟨g,cap,D,rfl,J,T,E,L,C,w⟩
   ·simp[Builtin.append_,run_underlying A,sizeOf,typeInfo,B,Builtin.lenOf,run_firstCells_some (P:=P) W i.size 0 p 0 c [] H F]
   simp[Builtin.append_,run_underlying A,sizeOf,typeInfo,B,Builtin.lenOf,E,Builtin.firstCells,loadCells,loadCellsFrom,storeCells]
  rw[k] at l;injection l with e1 _;subst e1;exact .inl rfl
 rcases f.2 with⟨rfl,rfl⟩|⟨g,cap,D,rfl,J,T,E,L,C,w⟩
 ·have k:=run_append_nil (P:=P) W t o.type e i z A B K p m c us H F hm0 (by omega) (by rw[r];have:=pT (show m<=1000000 by omega) V;omega);rw[k] at l;injection l with e1 _;subst e1;exact .inr ⟨_,rfl,gw _⟩
 by_cases y:n+m<=cap
 ·have k:=run_append_room (P:=P) W t o.type e i A B g n cap D T p m c us H F U y (by rw[d,C];omega);rw[k] at l;injection l with e1 _;subst e1;exact .inl rfl
 have k:=run_append_grow (P:=P) W t o.type e i z A B K ⟨g,0,none⟩ n cap G (by rw[d];exact f.1) (f.cells (g:=g) rfl) p m c us H F (by omega) (by omega) (growslice_fits (by omega) (by rw[r];omega));rw[k] at l;injection l with e1 _;subst e1;exact .inr ⟨_,rfl,gw _⟩
section
open Go.RowKit Go.Cd _root_.Go.Proofs.Tryz
def dS {W a:World} {k:Nat} {cs:Array Value} {T:TypeId} (h:Is W k cs T) (b:a.heap[k]? = W.heap[k]?):Is a k cs T:=⟨b.trans h.at_⟩
def dz {w:World} {base n:Nat} {e:TypeId} {v:Value} {d:List Value} (h:w.ownsRow base e 1 v n d) (m:0<n):∃g cap,v=.slice (some ⟨g,0,none⟩) n cap/\n<=cap/\base<=g/\g<w.heap.size/\mZ w g e/\∀i u,d[i]? = some u->w.cell? ⟨g,i,none⟩=some u:=by
 rcases h.2 with⟨_,h0⟩|⟨g,cap,c,rfl,k,b,j,l,o,f⟩
 ·omega
 refine⟨g,cap,rfl,j,k,block_lt b,⟨c,b⟩,λi u a=>?_⟩;unfold World.cell?;rw[b,<-f,vj] at *
 split at a
 ·simpa using a
 cases a
def BD {P:Program} {ops:Array Oper} {C:World->Prop} {K:Act->Prop} {o:Oper} {rest:List Oper} {a:Act} (b:o.guard=none) (h:o.quiet P a C (wpQuiet P ops C K rest)):wpQuiet P ops C K (o::rest) a:=by
 have c:Region.wanted o (yielded ops a.tmps)=true:=by simp[Region.wanted,b]
 simp only[wpQuiet];rw[if_pos c];exact h
def zJ {P:Program} {k:TypeId} {S:Nat->Prop} {w:World} {o:Oper} {a:Act} {next:Act->Prop} (m x:Operand) (t b:TypeId) (p:o.op=Op.lookup t m x false)
 (K:Maps.Keyed P k) (q:P.underlying t=some (.map k b)) {r:Nat} {G:Value->Value->Prop} (h:dE P k w r G) (n:S r) (l:a.eval m=.map (some r)) {xv:Value} (s:a.eval x=xv) (y:iF P k xv) {z:Value} (j:∀w,(zeroValue b).run P w=.ok z w)
 (u:Value) (e:((∀v,¬G xv v)/\u=z)\/G xv u) (f:next (a.put o.dst u)):o.quiet P a (λw'=>∃g:vG (KR.blocks S) w,w'=g.tw) next:=by
 refine NR m x t b p K q h n l s y j (λc=>?_) (λv i=>?_)
 ·rcases e with⟨_,rfl⟩|d
  ·exact f
  exact absurd d (c u)
 rcases e with⟨c,_⟩|d
 ·exact absurd i (c v)
 rw[h.one i d];exact f
def RN {a b:Nat} (l:a<1114112) (n:b<1114112):iF prog 262 (.agg #[.int .i32 a,.int .i32 b]):=by
 have k:∀x:Nat,x<1114112->(Lit.int .i32 (x:Int)).wf=true:=λx h=>by
  have m:IntKind.i32.min=-2147483648:=by decide
  have o:IntKind.i32.max=2147483647:=by decide
  simp only[Lit.wf,m,o,jn,decide_eq_true_eq];omega
 have i:∀(d x:Nat),x<1114112->prog.keyLits (d+1) 21 [.int .i32 (x:Nat)]=some [.int .i32 (x:Nat)]:=λd x h=>by
  unfold Program.keyLits;simp[underlying21,k x h]
 have e:prog.cellsOf 21=1:=by kernel_rfl
 have c:prog.cellsOf 262=2:=by kernel_rfl
 have j:prog.types.size+1=(prog.types.size-1)+1+1:=by
  have:prog.types.size=(prog.types.size-1)+1:=by kernel_rfl
  omega
 have f:prog.keyLits (prog.types.size+1) 262 [.int .i32 (a:Nat),.int .i32 (b:Nat)]=some [.int .i32 (a:Nat),.int .i32 (b:Nat)]:=by
  rw[j]
  conv=>lhs;unfold Program.keyLits
  simp[underlying262,e,c,i _ _ l,i _ _ n]
 have hf:Value.formed prog 262 (.agg #[.int .i32 (a:Nat),.int .i32 (b:Nat)])=true:=by simp[Value.formed,underlying262,c]
 have g:prog.keyType 262=true:=by kernel_rfl
 refine⟨.string (keyBytes [.int .i32 (a:Nat),.int .i32 (b:Nat)]),?_⟩;unfold keyOf;simp only[underlying262,g,hf,Bool.and_self,if_true];show(prog.keyLits _ _ [.int .i32 (a:Nat),.int .i32 (b:Nat)]).map _=_;rw[f];rfl
def iA {W:World} {k:Nat} {cs:Array Value} {T:TypeId} (h:Is W k cs T):mZ W k T:=⟨cs,h.at_⟩
def ou {P:Program} {b:TypeId} {w:World} {r:Nat} {G:Value->Value->Prop} (h:dE P b w r G) {T:TypeId} (d:mZ w r T):False:=by
 obtain⟨e,f,c,_⟩:=h;obtain⟨cs,a⟩:=d;rw[c] at a;cases a
def Kq:mV prog 257 260 (.agg #[.int .i32 0,.int .u16 0]) 2 8:=⟨rfl,underlying257,info_parts (by kernel_rfl)⟩
def Zd:mV prog 152 178 (.agg #[.slice none 0 0,.slice none 0 0,.bool false]) 3 56:=⟨rfl,underlying152,info_parts (by kernel_rfl)⟩
abbrev eB:=Nat×Value×Value×Bool
def Kr (x:eB):List Value:=[x.2.1,x.2.2.1,.bool x.2.2.2]
def Vl (x:eB):(Kr x).length=3:=rfl
def sP (E:List eB):List (Nat×Nat):=E.zipIdx.map λx=>(x.1.1,x.2+1)
def Kt (E:List eB):(sP E).length=E.length:=by simp[sP]
def RQ (E:List eB) (x:eB):sP (E++[x])=sP E++[(x.1,E.length+1)]:=by simp[sP,List.zipIdx_append]
def BF (T:List aG):List (Nat×Nat):=T.map λr=>(r.code,r.cls)
def Ku (T:List aG):(BF T).length=T.length:=by simp[BF]
def mapped (T:List aG):List aG:=T.filter λr=>!r.map.isEmpty
structure bJ (w w':World) (t:TypeId):Prop where
 size:w.heap.size<=w'.heap.size
 keep:∀k,k<w.heap.size->¬mZ w k t->w'.heap[k]? = w.heap[k]?
def bJ.bQ {w w':World} {base a n:Nat} {e:TypeId} {v:Value} {c:List Value} (f:w.ownsRow base e a v n c) (b:w.grownBy w' v.ownBlock):bJ w w' e:=
 ⟨b.size,λk h g=>b.block k h λd=>g (bV f d.symm)⟩
def bJ.put {w:World} {p o:Nat} {cs:Array Value} {t:TypeId} (h:Is w p cs t) (u:Value):bJ w (w.setCell ⟨p,o,none⟩ u) t:=
 ⟨by simp,λk _ a=>(bX w p o u).block k (by assumption) λe=>a (by cases e;exact iA h)⟩
def bJ.own {w w':World} {t:TypeId} (g:bJ w w' t) {base a n:Nat} {e:TypeId} {v:Value} {c:List Value} (h:w.ownsRow base e a v n c) (b:e≠t):w'.ownsRow base e a v n c:=
 aad h λk d=>g.keep k (h.lt k d).2 λf=>b ((bV h d).one f)
def bJ.is {w w':World} {t:TypeId} (b:bJ w w' t) {k:Nat} {cs:Array Value} {T:TypeId} (h:Is w k cs T) (a:T≠t):Is w' k cs T:=
 dS h (b.keep k h.lt λc=>a ((iA h).one c))
def bJ.map {w w':World} {t:TypeId} (b:bJ w w' t) {P:Program} {a:TypeId} {r:Nat} {G:Value->Value->Prop} (h:dE P a w r G):dE P a w' r G:=
 h.block (b.keep r h.lt λc=>ou h c)
def bJ.z {w w':World} {t:TypeId} (c:bJ w w' t) {Z:ig} (h:Ut w Z) (a:aN≠t):∀k,Z k≠none->w'.heap[k]? = w.heap[k]?:=
 λk b=>c.keep k (h k b).1 λd=>a ((h k b).2.one d)
def vK.iQ {W a:World} {Z c:ig} {o:Nat} (h:vK W Z o a c) (b:Ut W Z):bJ W a aN:=
 ⟨h.size,λk f e=>h.keep k f λd=>e (b k (by rw[d];simp)).2⟩
def Vm (x:aG×Value):List Value:=[.int .i32 x.1.code,.int .i64 x.1.cls,x.2]
def ik (w:World) (Z:ig) (v:Value) (l:List Nat):Prop:=w.ownsRow 0 aN 1 v l.length (aM l)/\∀k,v.ownBlock=some k->Z k=none
def ik.ext {w w':World} {Z:ig} {v:Value} {l:List Nat} (h:ik w Z v l) (a:Below w.heap.size w w'):ik w' Z v l:=⟨aH h.1 a,h.2⟩
def ik.iQ {w w':World} {Z:ig} {v:Value} {l:List Nat} {t:TypeId} (h:ik w Z v l) (b:bJ w w' t) (a:aN≠t):ik w' Z v l:=⟨b.own h.1 a,h.2⟩
def ik.push {w w':World} {Z a:ig} {o:Nat} {v:Value} {l:List Nat} (h:ik w Z v l) (b:vK w Z o w' a):ik w' a v l:=b.free h.1 h.2
def BH (T:List aG) (E:List eB):List Nat:=E.flatMap λx=>(aD T x.1).drop 1
def Kv (E:List eB):List Nat:=E.map (·.1)
def DW (T:List aG) (E:List eB):List Nat:=(E.filter (·.2.2.2)).map λx=>(bP T x.1).getD 1 0
def wK (T:List aG) (E:List eB) (c:Nat):List Nat:=(E.filter λx=>(aD T x.1).head? == some c).map (·.1)
def abq (l:List Nat):Value:=.agg #[.int .i32 (l.getD 0 0:Nat),.int .i32 (l.getD 1 0:Nat)]
def zK (T:List aG) (E:List eB):Value->Value->Prop:=E.foldl (λG x=>if x.2.2.2 then Ad G (abq (bP T x.1)) (.int .i32 (x.1:Nat)) else G) λ_ _=>False
def RS (T:List aG) (E:List eB) (x:eB):BH T (E++[x])=BH T E++(aD T x.1).drop 1:=by simp[BH]
def RV (E:List eB) (x:eB):Kv (E++[x])=Kv E++[x.1]:=by simp[Kv]
def Vn (T:List aG) (E:List eB) (x:eB) (h:x.2.2.2=true):DW T (E++[x])=DW T E++[(bP T x.1).getD 1 0]:=by simp[DW,n8,h]
def Ze (T:List aG) (E:List eB) (x:eB) (h:x.2.2.2=false):DW T (E++[x])=DW T E:=by simp[DW,n8,h]
def RX (T:List aG) (E:List eB) (x:eB) (h:x.2.2.2=true):zK T (E++[x])=Ad (zK T E) (abq (bP T x.1)) (.int .i32 (x.1:Nat)):=by simp[zK,h]
def Vo (T:List aG) (E:List eB) (x:eB) (h:x.2.2.2=false):zK T (E++[x])=zK T E:=by simp[zK,h]
def RY (T:List aG) (E:List eB) (x:eB) (a:Nat) (h:(aD T x.1).head? = some a):wK T (E++[x])=λc=>if c=a then wK T E a++[x.1] else wK T E c:=by
 funext c;unfold wK;rw[n8,js];by_cases e:c=a
 ·subst e;simp[h]
 rw[if_neg e];simp[h,px e]
def BI {T:List aG} (h:∀c,(aD T c).length<=32):∀E:List eB,(BH T E).length<=31*E.length
 | []=>gw _
 | x::E=>by
   have a:=BI h E;have:=h x.1;unfold BH at a⊢;rw[iR,d',ps,hU];omega
def Kw (T:List aG) (E:List eB):(DW T E).length<=E.length:=by
 unfold DW;rw[ia];exact lp _ _
def Vp (T:List aG) (E:List eB) (c:Nat):(wK T E c).length<=E.length:=by
 unfold wK;rw[ia];exact lp _ _
structure NZ (T:List aG) (E:List eB) (l8 l9 l10:List Nat) (bg:Nat->List Nat) (jg:Value->Value->Prop):Prop where
 i8:l8=BH T E
 i9:l9=DW T E
 i10:l10=Kv E
 ib:bg=wK T E
 ij:jg=zK T E
def NZ.nil (T:List aG):NZ T [] [] [] [] (λ_=>[]) (λ_ _=>False):=⟨rfl,rfl,rfl,rfl,rfl⟩
structure lU (T:List aG) (X:List Nat) (B p bM jM:Nat) (w:World) (jr jc je:Nat) (l8 l9 l10:List Nat) (bg:Nat->List Nat) (jg:Value->Value->Prop) (v6 v7 v8 v9 v10:Value) (rv xv ev:Value) (Z:ig) (E Ep:List eB):Prop where
 is:Is w p #[rv,xv,.pointer none,.pointer none,ev,.map (some bM),.map (some jM),.slice none 0 0,.slice none 0 0,.slice none 0 0] 156
 rows:∃R:List (aG×Value),R.map (·.1)=T.take jr/\w.ownsRow B h_ 3 rv jr (R.flatMap Vm)/\∀x∈R,ik w Z x.2 x.1.map
 qp:w.ownsRow B 178 3 ev E.length (E.flatMap Kr)
 mG:E.map (·.1)=(mapped (T.take je)).map (·.code)
 full:∀x∈E,ik w Z x.2.2.1 (aD T x.1)
 maps:∀x∈E,ik w Z x.2.1 (bP T x.1)
 qV:∀x∈E,x.2.2.2=true↔Prim T X x.1
 cls:w.ownsRow B 260 2 v6 jc ((BF (T.take jc)).flatMap cellC)
 Uu:w.ownsRow B 260 2 v7 Ep.length ((sP Ep).flatMap cellC)
 Vq:jW v6 v7
 low:B<=p/\B<=bM/\B<=jM
 zb:∀k,Z k≠none->B<=k
 wk:Ut w Z
 w8:si w B Z 0 v8 l8
 w9:si w B Z 1 v9 l9
 zL:si w B Z 2 v10 l10
 bm:∃G,dE prog 21 w bM G/\(∀x u,G x u->∃c:Nat,x=.int .i32 c/\si w B Z (c+3) u (bg c))/\∀c:Nat,(∀u,¬G (.int .i32 c) u)->bg c=[]
 jm:dE prog 262 w jM jg
section
variable {T : List aG} {X : List Nat} {B p bM jM : Nat} {w w' : World} {jr jc je : Nat} {l8 l9 l10 : List Nat} {bg : Nat -> List Nat} {jg : Value -> Value -> Prop} {v6 v7 v8 v9 v10 rv xv ev : Value} {Z : ig} {E Ep : List eB}
def lU.fresh (h:lU T X B p bM jM w jr jc je l8 l9 l10 bg jg v6 v7 v8 v9 v10 rv xv ev Z E Ep) {k:Nat} (a:w.heap.size<=k):Z k=none:=by
 cases e:Z k with
 | none=>rfl
 | some o=>have:=h.wk.lt e;omega
def lU.mono (h:lU T X B p bM jM w jr jc je l8 l9 l10 bg jg v6 v7 v8 v9 v10 rv xv ev Z E Ep) (a:Below w.heap.size w w'):lU T X B p bM jM w' jr jc je l8 l9 l10 bg jg v6 v7 v8 v9 v10 rv xv ev Z E Ep:=by
 have b:∀k,Z k≠none->w'.heap[k]? = w.heap[k]?:=λk o=>a.block k (h.wk k o).1;obtain⟨R,n,l,m⟩:=h.rows;obtain⟨G,i,f,g⟩:=h.bm
 exact⟨h.is.mono a,⟨R,n,aH l a,λx d=>(m x d).ext a⟩,aH h.qp a,h.mG,λx d=>(h.full x d).ext a,λx d=>(h.maps x d).ext a,h.qV,aH h.cls a,aH h.Uu a,h.Vq,h.low,h.zb,h.wk.mono a.size b,h.w8.mono b,h.w9.mono b,h.zL.mono b,
  ⟨G,i.mono a,λx u j=>by obtain⟨c,e,q⟩:=f x u j;exact⟨c,e,q.mono b⟩,g⟩,h.jm.mono a⟩
def lU.Vr (h:lU T X B p bM jM w jr jc je l8 l9 l10 bg jg v6 v7 v8 v9 v10 rv xv ev Z E Ep) {d:Value} {R:List (aG×Value)} (v:R.map (·.1)=T.take jr) (s:w.ownsRow B h_ 3 rv jr (R.flatMap Vm)) (C:∀x∈R,ik w Z x.2 x.1.map) {q:aG} (t:T[jr]? = some q) {l:Value} (y:ik w Z l q.map)
 (r:w'.ownsRow B h_ 3 d (jr+1) (R.flatMap Vm++Vm (q,l))) (k:w.grownBy w' rv.ownBlock) :
 lU T X B p bM jM (w'.setCell ⟨p,0,none⟩ d) (jr+1) jc je l8 l9 l10 bg jg v6 v7 v8 v9 v10 d xv ev Z E Ep:=by
 have a:=bJ.bQ s k;have m:=a.is h.is (by decide);have b:=bJ.put (o:=0) m d;have j:=a.z h.wk (by decide);have g:=h.wk.mono a.size j;have i:=b.z g (by decide);obtain⟨G,n,F,A⟩:=h.bm
 refine⟨m.set 0 d,⟨R++[(q,l)],by rw[js,v,vA,t];rfl,?_,λx f=>?_⟩,b.own (a.own h.qp (by decide)) (by decide),h.mG,λx f=>((h.full x f).iQ a (by decide)).iQ b (by decide),λx f=>((h.maps x f).iQ a (by decide)).iQ b (by decide),h.qV,
  b.own (a.own h.cls (by decide)) (by decide),b.own (a.own h.Uu (by decide)) (by decide),h.Vq,h.low,h.zb,
  g.mono b.size i,(h.w8.mono j).mono i,(h.w9.mono j).mono i,(h.zL.mono j).mono i,⟨G,b.map (a.map n),λx u k=>by obtain⟨c,e,D⟩:=F x u k;exact⟨c,e,(D.mono j).mono i⟩,A⟩,b.map (a.map h.jm)⟩
 ·rw[jj];exact b.own (by simpa using r) (by decide)
 rcases gR.1 f with f|f
 ·exact((C x f).iQ a (by decide)).iQ b (by decide)
 rw[gC.1 f];exact(y.iQ a (by decide)).iQ b (by decide)
def lU.Zf (h:lU T X B p bM jM w jr jc je l8 l9 l10 bg jg v6 v7 v8 v9 v10 rv xv ev Z E Ep) {b:Value} (n:w'.ownsRow B 260 2 b (jc+1) ((BF (T.take (jc+1))).flatMap cellC)) (g:w.grownBy w' v6.ownBlock) (m:kK w v6 b) :
 lU T X B p bM jM w' jr (jc+1) je l8 l9 l10 bg jg b v7 v8 v9 v10 rv xv ev Z E Ep:=by
 obtain⟨R,r,o,q⟩:=h.rows;have a:=bJ.bQ h.cls g;have f:=a.z h.wk (by decide);obtain⟨G,l,i,j⟩:=h.bm
 exact⟨a.is h.is (by decide),⟨R,r,a.own o (by decide),λx d=>(q x d).iQ a (by decide)⟩,a.own h.qp (by decide),h.mG,λx d=>(h.full x d).iQ a (by decide),λx d=>(h.maps x d).iQ a (by decide),h.qV,n,h.Vq.symm.stays h.Uu g,(h.Vq.symm.push (λk s=>(h.Uu.lt k s).2) m).symm,h.low,h.zb,
  h.wk.mono a.size f,h.w8.mono f,h.w9.mono f,h.zL.mono f,⟨G,a.map l,λx u g=>by obtain⟨c,e,t⟩:=i x u g;exact⟨c,e,t.mono f⟩,j⟩,a.map h.jm⟩
def lU.Zg (h:lU T X B p bM jM w jr jc je l8 l9 l10 bg jg v6 v7 v8 v9 v10 rv xv ev Z E Ep) {b:Value} {Ep':List eB} (n:w'.ownsRow B 260 2 b Ep'.length ((sP Ep').flatMap cellC)) (g:w.grownBy w' v7.ownBlock) (m:kK w v7 b) :
 lU T X B p bM jM w' jr jc je l8 l9 l10 bg jg v6 b v8 v9 v10 rv xv ev Z E Ep':=by
 obtain⟨R,r,o,q⟩:=h.rows;have a:=bJ.bQ h.Uu g;have f:=a.z h.wk (by decide);obtain⟨G,l,i,j⟩:=h.bm
 exact⟨a.is h.is (by decide),⟨R,r,a.own o (by decide),λx d=>(q x d).iQ a (by decide)⟩,a.own h.qp (by decide),h.mG,λx d=>(h.full x d).iQ a (by decide),λx d=>(h.maps x d).iQ a (by decide),h.qV,h.Vq.stays h.cls g,n,h.Vq.push (λk s=>(h.cls.lt k s).2) m,h.low,h.zb,
  h.wk.mono a.size f,h.w8.mono f,h.w9.mono f,h.zL.mono f,⟨G,a.map l,λx u g=>by obtain⟨c,e,t⟩:=i x u g;exact⟨c,e,t.mono f⟩,j⟩,a.map h.jm⟩
def lU.Vs (h:lU T X B p bM jM w jr jc je l8 l9 l10 bg jg v6 v7 v8 v9 v10 rv xv ev Z E Ep) {ev':Value} {x:eB} {je':Nat} (m:w'.ownsRow B 178 3 ev' (E.length+1) (E.flatMap Kr++Kr x)) (j:w.grownBy w' ev.ownBlock)
 (hf:ik w Z x.2.2.1 (aD T x.1)) (t:ik w Z x.2.1 (bP T x.1)) (r:x.2.2.2=true↔Prim T X x.1) (v:(E++[x]).map (·.1)=(mapped (T.take je')).map (·.code)) :
 lU T X B p bM jM (w'.setCell ⟨p,4,none⟩ ev') jr jc je' l8 l9 l10 bg jg v6 v7 v8 v9 v10 rv xv ev' Z (E++[x]) Ep:=by
 obtain⟨R,q,n,A⟩:=h.rows;have b:=bJ.bQ h.qp j;have k:=b.is h.is (by decide);have d:=bJ.put (o:=4) k ev';have i:=b.z h.wk (by decide);have f:=h.wk.mono b.size i;have g:=d.z f (by decide);obtain⟨G,l,D,s⟩:=h.bm;have H:w'.ownsRow B 178 3 ev' (E++[x]).length ((E++[x]).flatMap Kr):=by
  rw[d',jj];simpa using m
 refine⟨k.set 4 ev',⟨R,q,d.own (b.own n (by decide)) (by decide),λx F=>((A x F).iQ b (by decide)).iQ d (by decide)⟩,d.own H (by decide),v,λy a=>?_,λy a=>?_,λy a=>?_,d.own (b.own h.cls (by decide)) (by decide),d.own (b.own h.Uu (by decide)) (by decide),h.Vq,h.low,h.zb,
  f.mono d.size g,(h.w8.mono i).mono g,(h.w9.mono i).mono g,(h.zL.mono i).mono g,⟨G,d.map (b.map l),λx u j=>by obtain⟨c,e,C⟩:=D x u j;exact⟨c,e,(C.mono i).mono g⟩,s⟩,d.map (b.map h.jm)⟩
 ·rcases gR.1 a with a|a
  ·exact((h.full y a).iQ b (by decide)).iQ d (by decide)
  rw[gC.1 a];exact(hf.iQ b (by decide)).iQ d (by decide)
 ·rcases gR.1 a with a|a
  ·exact((h.maps y a).iQ b (by decide)).iQ d (by decide)
  rw[gC.1 a];exact(t.iQ b (by decide)).iQ d (by decide)
 rcases gR.1 a with a|a
 ·exact h.qV y a
 rw[gC.1 a];exact r
def lU.Vt (h:lU T X B p bM jM w jr jc je l8 l9 l10 bg jg v6 v7 v8 v9 v10 rv xv ev Z E Ep) {b:ig} {o:Nat} (d:vK w Z o w' b) {i g j:List Nat} {f n m:Value}
 (L:si w' B b 0 f i) (A:si w' B b 1 n g) (r:si w' B b 2 m j) (F:∀(c:Nat) (u:Value) (l:List Nat),si w B Z (c+3) u l->si w' B b (c+3) u l) :
 lU T X B p bM jM w' jr jc je i g j bg jg v6 v7 f n m rv xv ev b E Ep:=by
 have:B<=w.heap.size:=by have:=h.is.lt;have:=h.low.1;omega
 obtain⟨R,D,y,I⟩:=h.rows;obtain⟨G,v,K,H⟩:=h.bm;have a:=d.iQ h.wk
 refine⟨a.is h.is (by decide),⟨R,D,a.own y (by decide),λx q=>(I x q).push d⟩,a.own h.qp (by decide),h.mG,λx q=>(h.full x q).push d,λx q=>(h.maps x q).push d,h.qV,a.own h.cls (by decide),a.own h.Uu (by decide),h.Vq,h.low,λk t=>?_,d.z,L,A,r,
  ⟨G,a.map v,λx u C=>by obtain⟨c,e,J⟩:=K x u C;exact⟨c,e,F c u _ J⟩,H⟩,a.map h.jm⟩
 by_cases s:k<w.heap.size
 ·by_cases e:Z k=some o
  ·exact h.zb k (by rw[e];simp)
  rw[d.sub k s e] at t;exact h.zb k t
 omega
def lU.Qm (h:lU T X B p bM jM w jr jc je l8 l9 l10 bg jg v6 v7 v8 v9 v10 rv xv ev Z E Ep) {b:ig} (a:vK w Z 0 w' b) {l:List Nat} {v:Value} (d:si w' B b 0 v l) :
 lU T X B p bM jM w' jr jc je l l9 l10 bg jg v6 v7 v v9 v10 rv xv ev b E Ep:=h.Vt a d (a.other (by decide) h.w9) (a.other (by decide) h.zL) λc u l e=>a.other (by omega) e
def lU.afo (h:lU T X B p bM jM w jr jc je l8 l9 l10 bg jg v6 v7 v8 v9 v10 rv xv ev Z E Ep) {b:ig} (a:vK w Z 1 w' b) {l:List Nat} {v:Value} (d:si w' B b 1 v l) :
 lU T X B p bM jM w' jr jc je l8 l l10 bg jg v6 v7 v8 v v10 rv xv ev b E Ep:=h.Vt a (a.other (by decide) h.w8) d (a.other (by decide) h.zL) λc u l e=>a.other (by omega) e
def lU.G8 (h:lU T X B p bM jM w jr jc je l8 l9 l10 bg jg v6 v7 v8 v9 v10 rv xv ev Z E Ep) {b:ig} (a:vK w Z 2 w' b) {l:List Nat} {v:Value} (d:si w' B b 2 v l) :
 lU T X B p bM jM w' jr jc je l8 l9 l bg jg v6 v7 v8 v9 v rv xv ev b E Ep:=h.Vt a (a.other (by decide) h.w8) (a.other (by decide) h.w9) d λc u l e=>a.other (by omega) e
def lU.afp (h:lU T X B p bM jM w jr jc je l8 l9 l10 bg jg v6 v7 v8 v9 v10 rv xv ev Z E Ep) {je':Nat} (a:E.map (·.1)=(mapped (T.take je')).map (·.code)):lU T X B p bM jM w jr jc je' l8 l9 l10 bg jg v6 v7 v8 v9 v10 rv xv ev Z E Ep:=
 ⟨h.is,h.rows,h.qp,a,h.full,h.maps,h.qV,h.cls,h.Uu,h.Vq,h.low,h.zb,h.wk,h.w8,h.w9,h.zL,h.bm,h.jm⟩
structure afq (T:List aG) (X:List Nat) (B p bM jM:Nat) (w:World) (jr jc je:Nat) (l8 l9 l10:List Nat) (bg:Nat->List Nat) (jg:Value->Value->Prop) (v6 v7 v8 v9 v10:Value) (rv xv ev:Value) (Z:ig) (E Ep:List eB) (G:Value->Value->Prop) (c0:Nat) (l:List Nat) (v:Value):Prop where
 map:dE prog 21 w bM G
 row:si w B Z (c0+3) v l
 st:∀w2,dE prog 21 w2 bM (Ad G (.int .i32 c0) v)->w.grownBy w2 (some bM)->bM≠jM->lU T X B p bM jM w2 jr jc je l8 l9 l10 (λc=>if c=c0 then l else bg c) jg v6 v7 v8 v9 v10 rv xv ev Z E Ep
def lU.pushB (h:lU T X B p bM jM w jr jc je l8 l9 l10 bg jg v6 v7 v8 v9 v10 rv xv ev Z E Ep) {r:ig} {m:Nat} (b:vK w Z (m+3) w' r) {l:List Nat} {v:Value} (K:si w' B r (m+3) v l) {G:Value->Value->Prop}
 (J:dE prog 21 w bM G) (Q:∀x u,G x u->∃c:Nat,x=.int .i32 c/\si w B Z (c+3) u (bg c)) (O:∀c:Nat,(∀u,¬G (.int .i32 c) u)->bg c=[]) :
 afq T X B p bM jM w' jr jc je l8 l9 l10 bg jg v6 v7 v8 v9 v10 rv xv ev r E Ep G m l v:=by
 have:B<=w.heap.size:=by have:=h.is.lt;have:=h.low.1;omega
 have a:=b.iQ h.wk;obtain⟨R,N,L,P⟩:=h.rows;refine⟨a.map J,K,λy M F C=>?_⟩;have j:∀k t,mZ w' k t->k<w'.heap.size->y.heap[k]? = w'.heap[k]?:=λk t j o=>F.block k o λe=>by
  injection e with e;subst e;exact ou (a.map J) j
 have f:∀{base i n:Nat} {e:TypeId} {v:Value} {I:List Value},w'.ownsRow base e i v n I->y.ownsRow base e i v n I:=λf=>aad f λk d=>j k _ (bV f d) (f.lt k d).2;have hf:∀{v:Value} {l:List Nat},ik w' r v l->ik y r v l:=λhf=>⟨f hf.1,hf.2⟩;have s:∀k,r k≠none->y.heap[k]? = w'.heap[k]?:=λk d=>j k _ (b.z k d).2 (b.z k d).1;have D:=a.is h.is (by decide)
 refine⟨dS D (j p _ (iA D) D.lt),⟨R,N,f (a.own L (by decide)),λx q=>hf ((P x q).push b)⟩,f (a.own h.qp (by decide)),h.mG,λx q=>hf ((h.full x q).push b),λx q=>hf ((h.maps x q).push b),h.qV,f (a.own h.cls (by decide)),f (a.own h.Uu (by decide)),h.Vq,h.low,λk j=>?_,b.z.mono F.size s,
  (b.other (by omega) h.w8).mono s,(b.other (by omega) h.w9).mono s,(b.other (by omega) h.zL).mono s,⟨_,M,λx u A=>?_,λc a=>?_⟩,(a.map h.jm).block (F.block jM (a.map h.jm).lt λe=>by injection e with e;exact C e.symm)⟩
 ·by_cases o:k<w.heap.size
  ·by_cases e:Z k=some (m+3)
   ·exact h.zb k (by rw[e];simp)
   rw[b.sub k o e] at j;exact h.zb k j
  omega
 ·rcases A with⟨rfl,rfl⟩|⟨q,A⟩
  ·exact⟨m,rfl,by simp only[if_true];exact K.mono s⟩
  obtain⟨c,rfl,H⟩:=Q x u A;have g:c≠m:=λe=>q (by rw[e]);exact⟨c,rfl,by simp only[if_neg g];exact(b.other (by omega) H).mono s⟩
 have g:c≠m:=λe=>a v (.inl ⟨by rw[e],rfl⟩);simp only[if_neg g];exact O c λu H=>a u (.inr ⟨λe=>g (by injection e with _ e;omega),H⟩)
def lU.ajE (h:lU T X B p bM jM w jr jc je l8 l9 l10 bg jg v6 v7 v8 v9 v10 rv xv ev Z E Ep) (m:bM≠jM) {G:Value->Value->Prop} (C:dE prog 262 w' jM G) (j:w.grownBy w' (some jM)) :
 lU T X B p bM jM w' jr jc je l8 l9 l10 bg G v6 v7 v8 v9 v10 rv xv ev Z E Ep:=by
 obtain⟨R,A,y,F⟩:=h.rows;obtain⟨z,s,I,D⟩:=h.bm;have i:∀k t,mZ w k t->k<w.heap.size->w'.heap[k]? = w.heap[k]?:=λk t i q=>j.block k q λe=>by
  injection e with e;subst e;exact ou h.jm i
 have b:∀{base d n:Nat} {e:TypeId} {v:Value} {r:List Value},w.ownsRow base e d v n r->w'.ownsRow base e d v n r:=λb=>aad b λk a=>i k _ (bV b a) (b.lt k a).2;have hf:∀{v:Value} {l:List Nat},ik w Z v l->ik w' Z v l:=λhf=>⟨b hf.1,hf.2⟩;have f:∀k,Z k≠none->w'.heap[k]? = w.heap[k]?:=λk a=>i k _ (h.wk k a).2 (h.wk k a).1
 exact⟨dS h.is (i p _ (iA h.is) h.is.lt),⟨R,A,b y,λx g=>hf (F x g)⟩,b h.qp,h.mG,λx g=>hf (h.full x g),λx g=>hf (h.maps x g),h.qV,b h.cls,b h.Uu,h.Vq,h.low,h.zb,h.wk.mono j.size f,h.w8.mono f,h.w9.mono f,h.zL.mono f,
  ⟨z,s.block (j.block bM s.lt λe=>by injection e with e;exact m e),λx u o=>by obtain⟨c,e,H⟩:=I x u o;exact⟨c,e,H.mono f⟩,D⟩,C⟩
end
def Zh {w:World} (c:Int) (k n b:Nat) (a:Option Addr) (h:k≠0\/n≠0) :
 Calls prog 153 #[.agg #[.int .i32 c,.int .i64 k,.slice a n b]] w λe w'=>e=.returned (.bool true)/\Below w.heap.size w w':=by
 have f:=ah (w:=w) (.cells #[.int .i32 c,.int .i64 k,.slice a n b] 196);have d:=Is.new w #[.int .i32 c,.int .i64 k,.slice a n b] 196;have:=d.at 0 rfl;have:=d.at 1 rfl;have:=d.at 2 rfl;go_enter func153,ntmps153;by_cases g:k=0
 ·have:n≠0:=by omega
  subst g;have z:decide (0<n)=true:=by simp;omega
  have:((0:Nat):Int)=0:=rfl;go_wp2;go_ret;exact⟨by simp,f⟩
 have z:decide (0<k)=true:=by simp;omega
 go_wp2;go_ret;exact⟨rfl,f⟩
end
end Go.Proofs.YtmnimbnojdndmaaGreatDoor
