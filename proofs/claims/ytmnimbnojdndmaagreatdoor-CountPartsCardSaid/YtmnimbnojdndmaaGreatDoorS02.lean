/- State by state it is added up what is possible; no condition. -/
import Derived.Test.YtmnimbnojdndmaaGreatDoorS01
import Derived.Test.YtmnimbnojdndmaaGreatDoorRows
import Derived.WalkKit
import Derived.WalkSpells
import Derived.WalkLawsBesides
import Derived.BigQuiet
import Derived.Laws.AppendOwnNone
import Derived.OwnWalk
import Derived.Lib.AppendZerosOnto
set_option maxRecDepth 100000
set_option maxHeartbeats 6400000
set_option linter.all false
namespace Go.Cd
variable {b x y:Nat}
def val (b:Nat):List Nat->Nat
 | []=>0
 | d::l=>d+b*val b l
def bY (b:Nat) (x:Nat):List Nat:=
 if _h:x=0\/b<2 then [] else x % b::bY b (x / b)
termination_by x
decreasing_by
 have a:x≠0:=λe=>_h (.inl e);exact xt (by omega) (by omega)
def di (b:Nat):bY b 0=[]:=by unfold bY;simp
def ll (a:2<=b) (c:x≠0):bY b x=x % b::bY b (x / b):=by
 rw[bY];rw[dif_neg (by omega)]
def nT (a:2<=b) (x:Nat):val b (bY b x)=x:=by
 induction x using Nat.strongRecOn with
 | ind x ih=>
   by_cases h:x=0
   ·subst h;rw[di];rfl
   rw[ll a h];show x % b+b*val b (bY b (x / b))=x;rw[ih _ (xt (by omega) (by omega))];exact xr x b
def Gv (a:2<=b) (x:Nat):∀d∈bY b x,d<b:=by
 induction x using Nat.strongRecOn with
 | ind x ih=>
   by_cases h:x=0
   ·subst h;rw[di];simp
   rw[ll a h];intro d hd;rcases jt.1 hd with rfl|hd
   ·exact mS _ (by omega)
   exact ih _ (xt (by omega) (by omega)) d hd
def yS (a:2<=b):bY b x=[]↔x=0:=by
 constructor
 ·intro h;have:=nT a x;rw[h] at this;exact this.symm
 rintro rfl;exact di b
def QY (f:2<=b) (x:Nat):∀d,(bY b x).getLast? = some d->d≠0:=by
 induction x using Nat.strongRecOn with
 | ind x ih=>
   intro d hd;by_cases h:x=0
   ·subst h;rw[di] at hd;simp at hd
   rw[ll f h] at hd;by_cases c:x / b=0
   ·rw[c,di] at hd;simp at hd;have:=xr x b;rw[c] at this;omega
   have a:bY b (x / b)≠[]:=λe=>c ((yS f).1 e);rw[As a] at hd;exact ih _ (xt (by omega) (by omega)) d hd
def val_append (b:Nat) (l m:List Nat):val b (l++m)=val b l+b ^ l.length*val b m:=by
 induction l with
 | nil=>simp[val]
 | cons d l ih=>
   simp only[lz,val,ih,im,my];rw[td,<-qu,m_ b (b ^ l.length)];omega
def Et (b n:Nat):val b (List.replicate n 0)=0:=by
 induction n with
 | zero=>rfl
 | succ n ih=>simp[List.replicate_succ,val,ih]
def UC :∀l:List Nat,(∀d∈l,d<b)->val b l<b ^ l.length
 | [],_=>by simp[val]
 | d::l,h=>by
   have:=h d (by simp);have a:=UC l (λx c=>h x (by simp[c]));simp only[val,im,my]
   calc d+b*val b l<b+b*val b l:=by omega
    _=b*(val b l+1):=by rw[td];omega
    _<=b*b ^ l.length:=sT _ a
    _=b ^ l.length*b:=m_ _ _
def Ji (j:2<=b):∀l:List Nat,(∀d∈l,d<b)->(∀d,l.getLast? = some d->d≠0)->bY b (val b l)=l
 | [],_,_=>di b
 | [d],h,hl=>by
   have h0:d≠0:=hl d rfl;have a:d<b:=h d (by simp);have e:val b [d]=d:=by simp[val]
   rw[e,ll j h0,rH a,pC a,di]
 | d::c::l,h,hl=>by
   have g:=Ji j (c::l) (λx i=>h x (kq _ i)) (λx i=>hl x (by rw[As (by simp)];exact i));have a:d<b:=h d (by simp);have k:val b (d::c::l)=d+b*val b (c::l):=rfl;have:val b (c::l)≠0:=λe=>by rw[e,di] at g;cases g
   have f:d+b*val b (c::l)≠0:=by
    have:0<b*val b (c::l):=Nat.mul_pos (by omega) (by omega);omega
   rw[k,ll j f,Nat.add_mul_mod_self_left,rH a,x4 _ _ (by omega),pC a,k_,g]
def UD (a:2<=b) (h:bY b x=bY b y):x=y:=by
 rw[<-nT a x,<-nT a y,h]
def Dy (h:2<=b) (l:List Nat) (n:Nat) (a:∀d∈l,d<b) (c:∀d∈l.drop n,d=0) (g:n<=l.length) (h0:n=0\/l[n-1]?≠some 0) :
 bY b (val b l)=l.take n:=by
 have e:l.drop n=List.replicate (l.drop n).length 0:=List.eq_replicate_iff.2 ⟨rfl,c⟩;have f:val b l=val b (l.take n):=by
  conv=>lhs;rw[<-km n l]
  rw[val_append,e,Et];omega
 rw[f];refine Ji h _ (λd hd=>a d (rj hd)) λd hd=>?_;rw[sS,jn,pZ g] at hd;rcases h0 with h0|h0
 ·subst h0;simp at hd
 rcases pB n with h1|h1
 ·subst h1;simp at hd
 rw[vi] at hd
 split at hd
 ·rintro rfl;exact h0 hd
 cases hd
def getElem?_digs (a:2<=b):∀(i x:Nat),((bY b x)[i]?).getD 0=x / b ^ i % b
 | 0,x=>by
   by_cases h:x=0
   ·subst h;simp[di]
   rw[ll a h];simp
 | i+1,x=>by
   by_cases h:x=0
   ·subst h;simp[di]
   rw[ll a h];simp only[tf];rw[getElem?_digs a i (x / b),mN,my,m_]
def oJ (b x i:Nat):Nat:=x / b ^ i % b
def xI (a:2<=b) (x i:Nat):oJ b x i<b:=mS _ (by omega)
def UE (a:2<=b) (x i:Nat):((bY b x)[i]?).getD 0=oJ b x i:=getElem?_digs a i x
def sK (x y:Nat):Int:=if x<y then -1 else if y<x then 1 else 0
def vO (x j:Nat):x / b ^ j=b*(x / b ^ (j+1))+oJ b x j:=by
 unfold oJ;rw[my,<-mN];exact(xA _ _).symm
def Eu {j:Nat} (h:x / b ^ (j+1)=y / b ^ (j+1)) (hd:oJ b x j<oJ b y j):x<y:=by
 have a:=vO (b:=b) x j;have:=vO (b:=b) y j;rw[h] at a;have:x / b ^ j<y / b ^ j:=by omega
 rcases ki x y with h4|h4
 ·exact h4
 have:=Nat.div_le_div_right (c:=b ^ j) h4;omega
def z_ (b x n:Nat):List Nat:=(List.range n).map (oJ b x)
@[simp] theorem Jj (b x n:Nat):(z_ b x n).length=n:=by simp[z_]
def QZ (b x n:Nat):z_ b x (n+1)=z_ b x n++[oJ b x n]:=by simp[z_,s_]
def YC (a:2<=b) (x n:Nat):∀d∈z_ b x n,d<b:=by
 intro d hd;obtain⟨j,_,rfl⟩:=j8.1 hd;exact xI a x j
def mod_succ (b x n:Nat):x % b ^ (n+1)=x % b ^ n+b ^ n*oJ b x n:=by
 unfold oJ;rw[my,Nat.mod_mul]
def Jk (b x:Nat):∀n,val b (z_ b x n)=x % b ^ n
 | 0=>by simp[z_,val,Nat.mod_one]
 | n+1=>by rw[QZ,val_append,Jk b x n,mod_succ,Jj];simp[val]
def carry (b x y i:Nat):Nat:=(x % b ^ i+y % b ^ i) / b ^ i
def UF (e:2<=b) (x y i:Nat):carry b x y i<=1:=by
 unfold carry;have a:0<b ^ i:=tc (by omega);have:=mS x a;have:=mS y a;have:(x % b ^ i+y % b ^ i) / b ^ i<2:=tD (by omega);omega
def carry_zero (b x y:Nat):carry b x y 0=0:=by simp[carry,Nat.mod_one]
def carry_succ (c:2<=b) (x y i:Nat):(oJ b x i+oJ b y i+carry b x y i) / b=carry b x y (i+1):=by
 have a:0<b ^ i:=tc (by omega);have e:x % b ^ (i+1)+y % b ^ (i+1)=(x % b ^ i+y % b ^ i)+b ^ i*(oJ b x i+oJ b y i):=by rw[mod_succ,mod_succ,td];omega
 show _=(x % b ^ (i+1)+y % b ^ (i+1)) / b ^ (i+1);rw[e,my,<-mN,x4 _ _ a];show _=(carry b x y i+_) / b;rw[xi]
def YD (g:2<=b) (x y i:Nat):(oJ b x i+oJ b y i+carry b x y i) % b=oJ b (x+y) i:=by
 have c:0<b ^ i:=tc (by omega);have e:x+y=(x % b ^ i+y % b ^ i)+b ^ i*(x / b ^ i+y / b ^ i):=by
  have:=xr x (b ^ i);have:=xr y (b ^ i);rw[td];omega
 have a:(x+y) / b ^ i=carry b x y i+(x / b ^ i+y / b ^ i):=by
  conv=>lhs;rw[e]
  rw[x4 _ _ c];rfl
 unfold oJ;rw[a,xi (carry b x y i),vr (x / b ^ i+y / b ^ i),vr (x / b ^ i) (y / b ^ i)];simp[vr]
def Nb (a:2<=b) {n:Nat} (d:x<b ^ n) (c:y<b ^ n):x+y<b ^ (n+1):=by
 rw[my];have:b ^ n*2<=b ^ n*b:=sT _ a;omega
def Q0 (h:x<y):sK x y=-1:=by simp[sK,h]
def xJ (h:y<x):sK x y=1:=by unfold sK;rw[if_neg (by omega),if_pos h]
def UG (x:Nat):sK x x=0:=by simp[sK]
def cZ (f:2<=b) {n:Nat}:(bY b x).length<=n↔x<b ^ n:=by
 constructor
 ·intro h;have a:=UC (b:=b) (bY b x) (Gv f x);rw[nT f] at a;exact kh a (kj (by omega) h)
 intro h;rcases ki n (bY b x).length with a|a
 ·exfalso;have g:bY b x≠[]:=by intro e;rw[e] at a;simp at a
  obtain⟨d,hd⟩:∃d,(bY b x).getLast? = some d:=⟨_,rL g⟩;have h0:=QY f x d hd;rw[sS] at hd;have c:=getElem?_digs f ((bY b x).length-1) x;rw[hd] at c;simp only[ox] at c;have i:x / b ^ ((bY b x).length-1)=0:=by
   apply pC;exact kh h (kj (by omega) (by omega))
  rw[i] at c;simp at c;exact h0 c
 exact a
end Go.Cd
namespace Go.Cd
open Go.RowKit
variable {e T:TypeId} {w w' a:World} {v u:Value} {c:List Value} {b x n cap k o base:Nat} {P:Program} {ops:Array Oper} {rest:List Oper} {Q:Exit->Act->World->Prop}
def Sl (e:TypeId) (w:World) (v:Value) (xs:List Value):Prop:=
 ∃a cap,v=.slice a xs.length cap/\xs.length<=cap/\(xs=[]/\(a=none->cap=0)\/∃b off c d,a=some ⟨b,off,none⟩/\w.heap[b]? = some (.cells c e d)/\∀i (h:i<xs.length),c[off+i]? = some xs[i])
def bG (w:World) (v:Value) (xs:List Value):Prop:=
 ∃a cap,v=.slice a xs.length cap/\xs.length<=cap/\(xs=[]/\(a=none->cap=0)\/∃b off c e d,a=some ⟨b,off,none⟩/\w.heap[b]? = some (.cells c e d)/\∀i (h:i<xs.length),c[off+i]? = some xs[i])
def Sl.any (h:Sl e w v c):bG w v c:=by
 obtain⟨a,cap,i,d,h⟩:=h;exact⟨a,cap,i,d,h.imp id λ⟨b,off,g,f,r⟩=>⟨b,off,g,e,f,r⟩⟩
def block_lt {o:Obj} (h:w.heap[b]? = some o):b<w.heap.size:=(ju.1 h).1
def Sl.mono (h:Sl e w v c) (l:Below w.heap.size w w'):Sl e w' v c:=by
 obtain⟨a,cap,k,f,h⟩:=h;refine⟨a,cap,k,f,h.imp id ?_⟩;rintro⟨b,off,i,g,m,d,j⟩;exact⟨b,off,i,g,m,by rw[l.block b (block_lt d)];exact d,j⟩
def bG.mono (h:bG w v c) (l:Below w.heap.size w w'):bG w' v c:=by
 obtain⟨a,cap,k,f,h⟩:=h;refine⟨a,cap,k,f,h.imp id ?_⟩;rintro⟨b,off,i,e,g,m,d,j⟩;exact⟨b,off,i,e,g,m,by rw[l.block b (block_lt d)];exact d,j⟩
def Sl.nil (e:TypeId) (w:World) (a:Option Addr) (cap:Nat) (h:a=none->cap=0):Sl e w (.slice a 0 cap) []:=⟨a,cap,rfl,ic _,.inl ⟨rfl,h⟩⟩
def bG.out (h:bG w v c):∃a cap,v=.slice a c.length cap/\c.length<=cap/\
 ∀i (d:i<c.length),∃b off,a=some ⟨b,off,none⟩/\b<w.heap.size/\w.cell? ⟨b,off+i,none⟩=some c[i]:=by
 obtain⟨a,cap,k,g,h⟩:=h;refine⟨a,cap,k,g,λi d=>?_⟩;rcases h with h|⟨b,off,n,e,m,l,f,j⟩
 ·rw[h.1] at d;simp at d
 refine⟨b,off,l,block_lt f,?_⟩;unfold World.cell?;rw[f];simpa using j i d
def Sl.out (h:Sl e w v c):∃a cap,v=.slice a c.length cap/\c.length<=cap/\
 ∀i (d:i<c.length),∃b off,a=some ⟨b,off,none⟩/\b<w.heap.size/\w.cell? ⟨b,off+i,none⟩=some c[i]:=h.any.out
def bG.cases (h:bG w v c):(c=[]/\∃a cap,v=.slice a 0 cap/\(a=none->cap=0))\/
 ∃b off cap,v=.slice (some ⟨b,off,none⟩) c.length cap/\c.length<=cap/\0<c.length/\b<w.heap.size/\∀i (l:i<c.length),w.cell? ⟨b,off+i,none⟩=some c[i]:=by
 obtain⟨a,cap,g,m,h⟩:=h;by_cases f:c=[]
 ·subst f;refine .inl ⟨rfl,?_⟩;rcases h with h|⟨b,off,o,e,n,j,d,k⟩
  ·exact⟨a,cap,g,h.2⟩
  exact⟨a,cap,g,λe=>by rw[j] at e;cases e⟩
 rcases h with h|⟨b,off,o,e,n,j,d,k⟩
 ·exact absurd h.1 f
 subst j;refine .inr ⟨b,off,cap,g,m,ke.2 f,block_lt d,λi l=>?_⟩;unfold World.cell?;rw[d];simpa using k i l
def cu (l:List Nat):List Value:=l.map λd:Nat=>Value.int .u32 (d:Int)
def ds (l:List Nat):List Value:=l.map λd:Nat=>Value.int .i64 (d:Int)
@[simp] theorem nU (l:List Nat):(ds l).length=l.length:=by simp[ds]
def oM (l:List Nat) (i:Nat) (h:i<l.length):(ds l)[i]'(by simpa using h)=.int .i64 (l[i]:Nat):=by simp[ds]
def Q3 (l m:List Nat):ds (l++m)=ds l++ds m:=by simp[ds]
def bO (l:List Int):List Value:=l.map λd:Int=>Value.int .i64 d
@[simp] theorem dG (l:List Nat):(cu l).length=l.length:=by simp[cu]
@[simp] theorem fq (l:List Int):(bO l).length=l.length:=by simp[bO]
abbrev nI:TypeId:=109
abbrev bB:TypeId:=3
def B:Nat:=4294967296
def bT (w:World) (v:Value) (x:Nat):Prop:=∃s,v=.agg #[s]/\Sl nI w s (cu (bY B x))
def bT.mono (h:bT w v x) (a:Below w.heap.size w w'):bT w' v x:=by
 obtain⟨s,b,c⟩:=h;exact⟨s,b,c.mono a⟩
def bT.out (h:bT w v x):∃a n cap,v=.agg #[.slice a n cap]/\bT w (.agg #[.slice a n cap]) x:=by
 obtain⟨s,rfl,a,cap,rfl,b⟩:=h;exact⟨a,_,cap,rfl,⟨_,rfl,a,cap,rfl,b⟩⟩
def bT.len {a:Option Addr} (h:bT w (.agg #[.slice a n cap]) x):n=(bY B x).length:=by
 obtain⟨s,c,d,b,rfl,_⟩:=h;simp at c;exact c.2.1
def Sl.put {g:List Value} (h:Sl e w v g) {m:Array Value} {j:Nat×Nat} (r:w.heap[k]? = some (.cells m T j)) (l:T≠e) :
 Sl e (w.setCell ⟨k,o,none⟩ u) v g:=by
 obtain⟨a,cap,q,i,h⟩:=h;refine⟨a,cap,q,i,h.imp id ?_⟩;rintro⟨b,off,c,f,n,d,p⟩;refine⟨b,off,c,f,n,?_,p⟩;rw[jj _ _ _ _ (λe=>?_)]
 ·exact d
 simp only at e;subst e;rw[r] at d;cases d;exact l rfl
def bT.put (h:bT w v x) {c:Array Value} {a:Nat×Nat} (e:w.heap[k]? = some (.cells c T a)) (b:T≠nI) :
 bT (w.setCell ⟨k,o,none⟩ u) v x:=by
 obtain⟨s,d,f⟩:=h;exact⟨s,d,f.put e b⟩
def Jl {b:Array Value} {d:Nat×Nat} (e:w.heap[k]? = some (.cells b T d)) (c:o<b.size):(w.setCell ⟨k,o,none⟩ u).cell? ⟨k,o,none⟩=some u:=
 World.cell?_setCell_same (w:=w) (a:=⟨k,o,none⟩) (v:=u) (u:=b[o]) (by unfold World.cell?;rw[e];simp[c])
def oN {b:World} {a:Option Addr} {c:Value} {e:Nat×Nat} (d:b.heap[k]? = some (.cells #[c] T e)) (g:T≠nI) (f:bT b (.agg #[.slice a n cap]) x) :
 (b.setCell ⟨k,0,none⟩ (.slice a n cap)).cell? ⟨k,0,none⟩=some (.slice a n cap)/\bT (b.setCell ⟨k,0,none⟩ (.slice a n cap)) (.agg #[.slice a n cap]) x:=
 ⟨Jl d (by simp),f.put d g⟩
def dV {a b:Bool} (h:a=b):Ending.returned (.bool a)=.returned (.bool b):=by rw[h]
def Gw {k:IntKind} {a b:Int} (h:a=b):Ending.returned (.int k a)=.returned (.int k b):=by rw[h]
def heap_alloc_new' (w:World) (o:Obj) (k:Nat) (h:k=w.heap.size):(w.alloc o).heap[k]? = some o:=by subst h;exact heap_alloc_new _ _
def Qa (w:World) (o:Obj):(w.alloc o).heap[w.heap.size]? = some o:=heap_alloc_new _ _
def bE:2<=B:=by unfold B;omega
def abg {W:World} (c:Below W.heap.size W a):(∀b o,b<W.heap.size->a.cell? ⟨b,o,none⟩=W.cell? ⟨b,o,none⟩)/\(∀b o,b<W.heap.size->a.frozen? ⟨b,o,none⟩=W.frozen? ⟨b,o,none⟩):=
 ⟨λb o h=>c.cell (p:=⟨b,o,none⟩) h,λb o h=>c.frozen (p:=⟨b,o,none⟩) h⟩
def Sl.aU (h:w.ownsRow base e 1 v n c):Sl e w v c:=by
 obtain⟨a,d⟩:=h;simp only[qt] at a d;rcases d with⟨rfl,rfl⟩|⟨g,cap,b,rfl,m,j,f,o,p,l⟩
 ·obtain rfl:=iJ.1 a;exact .nil _ _ _ _ (λ_=>rfl)
 refine⟨_,cap,by rw[a],by rw[a];exact f,.inr ⟨g,0,b,(0,0),rfl,j,λi k=>?_⟩⟩;subst l;rw[jn] at k;rw[k_,y6,<-mz];exact gx _
def Elem (P:Program) (t e:TypeId) (z:Value) (bytes:Nat):Prop:=
 z.oneCell'=true/\P.underlying t=some (.slice e)/\∃i,P.info? e=some i/\i.zero=some z/\i.size=1/\i.bytes=bytes
def rM (w:World) (e:TypeId):(w.alloc (.cells #[] e)).ownsRow w.heap.size e 1 (.slice (some ⟨w.heap.size,0,none⟩) 0 0) 0 []:=
 ⟨by simp,.inr ⟨w.heap.size,0,#[],rfl,d' _,heap_alloc_new _ _,d' _,ic _,rfl,rfl⟩⟩
def kG {z:Value} (h:z.oneCell'=true):z.cells.size=1:=by
 cases z <;> first|rfl|(simp[Value.oneCell'] at h)
def bR {P:Program} {w:World} {ops:Array Oper} {rest:List Oper} {o:Oper} {a:Act} {Q:Exit->Act->World->Prop} (A:o.guard=none) (s x:Operand) (t:TypeId)
 (K:o.op=.call { callee:=.builtin .append,args:=#[s,x],argTypes:=#[t,t] })
 (base:Nat) (e:TypeId) (z:Value) (d:Nat) (S:Elem P t e z d)
 (v:Value) (n:Nat) (C:List Value) (M:a.eval s=v) (f:w.ownsRow base e 1 v n C)
 (u:Value) (c:List Value) (I:a.eval x=u) (W:bG w u c) (T:∀u∈c,u.oneCell'=true)
 (D:n+c.length<=maxLen) (k:(n+c.length)*d<=140737488355328) (m:base<=w.heap.size)
 (h:∀v' w',w'.ownsRow base e 1 v' (n+c.length) (C++c)->w.grownBy w' v.ownBlock->wpList P ops Q rest (a.put o.dst v') w'):wpList P ops Q (o::rest) a w:=by
 obtain⟨G,R,i,L,V,l,H⟩:=S;obtain⟨F,cap,rfl,hc,g⟩:=W;cases F with
 | none=>
   have X:c=[]:=by
    rcases g with g|⟨b,off,J,_,N,r,_⟩
    ·exact g.1
    cases r
   subst X;have q:cap=0:=by
    rcases g with g|⟨b,off,J,_,N,r,_⟩
    ·exact g.2 rfl
    cases r
   subst q;refine wpList_append_own_none A s x t K base e i 1 R L v n C M f I ?_;exact h v w (by simpa using f) ⟨rfl,rfl,rfl,d' _,λ_ _ _=>rfl⟩
 | some F=>
   refine wpList_append_own w A s x t K base e i z 1 d R L V l H (kG G) (by decide) v n C M f F c.length cap c I (by simp) ?_ T D k m ?_
   ·intro j y Z;obtain⟨p,rfl⟩:=iR.1 Z;rcases g with g|⟨b,off,J,_,N,r,O,E⟩
    ·rw[g.1] at p;simp at p
    cases r;have:=E j p;unfold World.cell? Addr.add;by_cases B:j=0
    ·subst B;simp only[if_true];rw[O];simpa using this
    rw[if_neg B];simp only;rw[O];simpa using this
   intro v' w' Y U _;exact h v' w' Y U
def aj {B:Nat} {off:Nat} (h:Below B a w) (c:B<=b):Below B a (w.setCell ⟨b,off,none⟩ u):=h.setCell c u
def ah (o:Obj):Below w.heap.size w (w.alloc o):=(gS _ _).alloc (d' _) o
def aO {o:Obj} (h:w'=w.alloc o):Below w.heap.size w w':=by rw[h];exact ah _
def eG {a:Nat} (h:a<b):decide ((a:Int)<(b:Int))=true:=decide_eq_true (by omega)
def gI {a:Nat} (h:b<=a):decide ((a:Int)<(b:Int))=false:=decide_eq_false (by omega)
def ag (w:World):Below w.heap.size w w.drew:=(gS _ _).drew
def aB (E:Below a.heap.size a w) (h:a.cell? ⟨b,o,none⟩=some v):w.cell? ⟨b,o,none⟩=some v:=
 (E.cell (p:=⟨b,o,none⟩) (wt a ⟨b,o,none⟩ h)).trans h
def Gr.cell (E:Below a.heap.size a w) (h:a.cell? ⟨b,o,none⟩=some v):∀g:Gr w,g.tw.cell? ⟨b,o,none⟩=some v:=
 λg=>aB (af E g.ext) h
def dH (o o':Obj):Below w.heap.size w ((w.alloc o).alloc o'):=(ah o).alloc (by simp) o'
def gm (w:World) {o:Oper} {a:Act} 
 (r:o.guard=none) (l c:Operand) (t:TypeId) (g:o.op=Op.makeSlice t l c)
 (base:Nat) (e:TypeId) (z:Value) (b:Nat) (p:Elem P t e z b) (f:z.cells=#[z])
 (m k:IntKind) (L C:Int) (n:Nat) (x:a.eval l=.int m L) (F:a.eval c=.int k C) (v:L=(n:Int)) (u:C=(n:Int)) (D:b*n<=281474976710656) (A:n<=maxLen) (q:base<=w.heap.size)
 (G:∀w',w'.ownsRow base e 1 (.slice (some ⟨w.heap.size,0,none⟩) n n) n (List.replicate n z)->w.grownBy w' none->wpList P ops Q rest (a.put o.dst (.slice (some ⟨w.heap.size,0,none⟩) n n)) w') :
 wpList P ops Q (o::rest) a w:=by
 obtain⟨B,H,i,y,s,d,h⟩:=p;refine wpList_make_full w r l c t g base e i z 1 H y s d m k L C n x F v u (by rw[h];exact D) A q λw' j E=>G w' ?_ E;rw[f,qt,toList_madeCells_one] at j;exact j
def jY {g:Nat} {a:List Value} (h:w.ownsRow base e 1 (.slice (some ⟨g,0,none⟩) n cap) n a) {j:Nat} (b:j<a.length) :
 w.cell? ⟨g,j,none⟩=some a[j]/\w.frozen? ⟨g,j,none⟩=false:=by
 have:a.length=n*1:=h.1;exact⟨by rw[h.cellAt j (by omega)];exact gx b,h.frozenAt j⟩
def aH {a:Nat} (h:w.ownsRow base e a v n c) (l:Below w.heap.size w w'):w'.ownsRow base e a v n c:=by
 obtain⟨f,k⟩:=h;refine⟨f,k.imp id ?_⟩;rintro⟨g,cap,b,j,i,d,r⟩;exact⟨g,cap,b,j,i,by rw[l.block g (block_lt d)];exact d,r⟩
def fO (h:w.grownBy w' none):Below w.heap.size w w':=
 ⟨h.os,h.tape,h.output,h.size,λk a=>h.block k a (by simp)⟩
def rP (w:World) (a:Array Value) (e:TypeId):bG (w.alloc (.cells a e)) (.slice (some ⟨w.heap.size,0,none⟩) a.size a.size) a.toList:=
 ⟨_,a.size,by simp,by simp,.inr ⟨w.heap.size,0,a,e,(0,0),rfl,heap_alloc_new _ _,λi b=>by
   rw[k_,<-mz];exact gx b⟩⟩
def gp {P:Program} {W:World} {ops:Array Oper} {rest:List Oper} {o:Oper} {a:Act} {Q:Exit->Act->World->Prop} (f:o.guard=none) (s x:Operand) (t:TypeId)
 (y:o.op=.call { callee:=.builtin .append,args:=#[s,x],argTypes:=#[t,t] })
 (base:Nat) (e:TypeId) (z:Value) (b:Nat) (p:Elem P t e z b)
 (v:Value) (n:Nat) (i:List Value) (B:a.eval s=v) (d:W.ownsRow base e 1 v n i)
 (u:Value) (w:a.eval x=.slice (some ⟨W.heap.size,0,none⟩) 1 1) (q:u.oneCell'=true)
 (c:(n+1)*b<=140737488355328) (j:n+1<=maxLen) (l:World) (m:Below base l W) (g:base<=l.heap.size)
 (h:∀v' w',w'.ownsRow base e 1 v' (n+1) (i++[u])->Below base l w'->wpList P ops Q rest (a.put o.dst v') w'):wpList P ops Q (o::rest) a (W.alloc (.cells #[u] e)):=by
 have:=m.size;refine bR f s x t y base e z b p v n i B (d.alloc _) _ [u] w (rP W #[u] e) (by simpa using q) (by simpa using j) (by simpa using c) (by simp;omega) ?_;intro v' w' C r;refine h v' w' (by simpa using C) ((m.alloc (by omega) _).grown r (by simp;omega) ?_);intro k A;exact(d.lt k A).1
def Gx (l:List Nat):∀u∈cu l,u.oneCell'=true:=by
 intro u a;obtain⟨d,_,rfl⟩:=j8.1 a;rfl
def Gy:Elem Go.Proofs.Tryz.prog 42 nI (.int .u32 0) 4:=⟨rfl,Go.Proofs.Tryz.underlying42,info_parts (by kernel_rfl)⟩
def jI:Elem Go.Proofs.Tryz.prog 23 bB (.int .i64 0) 8:=⟨rfl,Go.Proofs.Tryz.underlying23,info_parts (by kernel_rfl)⟩
def mixed:Go.Proofs.Tryz.prog.follows .mixedOrders=true:=by kernel_rfl
end Go.Cd
namespace Go.Proofs.YtmnimbnojdndmaaGreatDoor
open Go.RowKit Go.Cd _root_.Go.Proofs.Tryz
def JC {a e b c:Int} {p d:Bool} (f:a=e) (h:b=c) (g:p=d):Ending.returned (.tuple #[.int .i32 a,.int .i32 b,.bool p])=.returned (.tuple #[.int .i32 e,.int .i32 c,.bool d]):=by
 rw[f,h,g]
def YR {w:World} (c f n:Nat) (i:f+n<2147483648) (p:Bool) (a:decide (f<=c/\c<f+n)=p) :
 Calls prog 172 #[.int .i32 c,.int .i32 f,.int .i32 n] w λe w'=>e=.returned (.bool p)/\w'=w:=by
 have b:=aa a;by_cases d:f<=c
 ·by_cases g:c<f+n
  ·clear a;go_enter func172,ntmps172;go_wp2;go_ret;exact⟨dV (by rw[<-b.out];exact decide_eq_decide.2 (by omega)),rfl⟩
  clear a;go_enter func172,ntmps172;go_wp2;go_ret;exact⟨dV (by rw[<-b.out];exact decide_eq_decide.2 (by omega)),rfl⟩
 clear a;go_enter func172,ntmps172;go_wp2;go_ret;exact⟨dV (by rw[<-b.out];exact(decide_eq_false (p:=f<=c/\c<f+n) (λh=>d h.1)).symm),rfl⟩
def rQ {w:World} (c:Nat) (v:c<1114112) :
 Calls prog 134 #[.int .i32 c] w λe w'=>e=.returned (.int .i64 (hk c))/\w'=w:=by
 have I:=λ(f n:Nat) (u:f+n<2147483648) (p:Bool) (t:decide (f<=c/\c<f+n)=p)=>aa (YR (w:=w) c f n u p t);by_cases a:4352<=c/\c<4371
 ·have E:hk c=1:=by unfold hk;rw[if_pos a]
  have g:=I 4352 19 (by decide) true (decide_eq_true a);rw[E];clear E I;go_enter func134,ntmps134;go_wp2_with fail;refine g.out.mono ?_;rintro e w'⟨rfl,rfl⟩;go_wp2;go_ret;exact⟨rfl,rfl⟩
 have g:=I 4352 19 (by decide) false (decide_eq_false a);by_cases b:4449<=c/\c<4470
 ·have E:hk c=2:=by unfold hk;rw[if_neg a,if_pos b]
  have j:=I 4449 21 (by decide) true (decide_eq_true b);rw[E];clear E I a;go_enter func134,ntmps134;go_wp2_with fail;refine g.out.mono ?_;rintro e w'⟨rfl,rfl⟩;go_wp2_with fail;refine j.out.mono ?_;rintro e w'⟨rfl,rfl⟩;go_wp2;go_ret;exact⟨rfl,rfl⟩
 have j:=I 4449 21 (by decide) false (decide_eq_false b);by_cases d:4520<=c/\c<4547
 ·have E:hk c=3:=by unfold hk;rw[if_neg a,if_neg b,if_pos d]
  have l:=I 4520 27 (by decide) true (decide_eq_true d);rw[E];clear E I a b;go_enter func134,ntmps134;go_wp2_with fail;refine g.out.mono ?_;rintro e w'⟨rfl,rfl⟩;go_wp2_with fail;refine j.out.mono ?_;rintro e w'⟨rfl,rfl⟩;go_wp2_with fail;refine l.out.mono ?_;rintro e w'⟨rfl,rfl⟩;go_wp2;go_ret;exact⟨rfl,rfl⟩
 have l:=I 4520 27 (by decide) false (decide_eq_false d);by_cases o:44032<=c/\c<55204
 ·have m:=I 44032 11172 (by decide) true (decide_eq_true o);have E:hk c=if (c-44032) % 28=0 then 4 else 5:=by unfold hk;rw[if_neg a,if_neg b,if_neg d,if_neg (λh=>h o)]
  have r:=aa E;obtain⟨i,rfl⟩:∃i,c=44032+i:=⟨c-44032,by omega⟩;rw[lk] at r;by_cases s:i % 28=0
  ·have k:hk (44032+i)=4:=by rw[r.out,if_pos s]
   rw[k];have q:(((44032+i:Nat):Int)-44032).tmod 28=0:=by
    rw[show((44032+i:Nat):Int)-44032=(i:Int) by omega];rw[px (by omega)];omega
   clear E k I a b d;go_enter func134,ntmps134;go_wp2_with fail;refine g.out.mono ?_;rintro e w'⟨rfl,rfl⟩;go_wp2_with fail;refine j.out.mono ?_;rintro e w'⟨rfl,rfl⟩;go_wp2_with fail;refine l.out.mono ?_;rintro e w'⟨rfl,rfl⟩;go_wp2_with fail;refine m.out.mono ?_;rintro e w'⟨rfl,rfl⟩;go_wp2;go_ret;exact⟨rfl,rfl⟩
  have k:hk (44032+i)=5:=by rw[r.out,if_neg s]
  rw[k];have q:¬(((44032+i:Nat):Int)-44032).tmod 28=0:=by
   rw[show((44032+i:Nat):Int)-44032=(i:Int) by omega];rw[px (by omega)];omega
  clear E k I a b d;go_enter func134,ntmps134;go_wp2_with fail;refine g.out.mono ?_;rintro e w'⟨rfl,rfl⟩;go_wp2_with fail;refine j.out.mono ?_;rintro e w'⟨rfl,rfl⟩;go_wp2_with fail;refine l.out.mono ?_;rintro e w'⟨rfl,rfl⟩;go_wp2_with fail;refine m.out.mono ?_;rintro e w'⟨rfl,rfl⟩;go_wp2;go_ret;exact⟨rfl,rfl⟩
 have E:hk c=0:=by unfold hk;rw[if_neg a,if_neg b,if_neg d,if_pos o]
 have m:=I 44032 11172 (by decide) false (decide_eq_false o);rw[E];clear E I a b d;go_enter func134,ntmps134;go_wp2_with fail;refine g.out.mono ?_;rintro e w'⟨rfl,rfl⟩;go_wp2_with fail;refine j.out.mono ?_;rintro e w'⟨rfl,rfl⟩;go_wp2_with fail;refine l.out.mono ?_;rintro e w'⟨rfl,rfl⟩;go_wp2_with fail;refine m.out.mono ?_;rintro e w'⟨rfl,rfl⟩;go_wp2;go_ret;exact⟨rfl,rfl⟩
def EF {w:World} (c:Nat) (q:c<1114112) :
 Calls prog 146 #[.int .i32 c] w λe w'=>(∃a b:Nat,e=.returned (.tuple #[.int .i32 a,.int .i32 b,.bool (decide (4<=hk c))])/\(4<=hk c->dI c=[a,b]))/\w'=w:=by
 have f:=aa (rQ (w:=w) c q);by_cases d:hk c=4
 ·have l:=(oQ (c:=c)).1 d;obtain⟨i,rfl⟩:∃i,c=44032+i:=⟨c-44032,by omega⟩;rw[d] at f⊢;have m:=aa (show dI (44032+i)=[4352+i / 588,4449+i % 588 / 28] by unfold dI;rw[if_pos d,lk]);have p:((44032+i:Nat):Int)-44032=(i:Int):=by omega
  have u:((i:Int)).tdiv 588=((i / 588:Nat):Int):=by rw[AI (by omega)];omega
  have:(((i:Int)).tmod 588).tdiv 28=((i % 588 / 28:Nat):Int):=by rw[px (by omega),AI (by omega)];omega
  have t:i<11172:=by omega
  clear d l;go_enter func146,ntmps146;go_wp2_with fail;refine f.out.mono ?_;rintro e w'⟨rfl,rfl⟩;go_wp2
  go_ret3
  exact⟨⟨4352+i / 588,4449+i % 588 / 28,JC (by omega) (by omega) rfl,λ_=>m.out⟩,rfl⟩
 by_cases j:hk c=5
 ·have l:=(kI (c:=c)).1 j;obtain⟨i,rfl⟩:∃i,c=44032+i:=⟨c-44032,by omega⟩;rw[j] at f⊢;have m:=aa (show dI (44032+i)=[44032+i-i % 28,4519+i % 28] by unfold dI;rw[if_neg d,if_pos j,lk]);have p:((44032+i:Nat):Int)-44032=(i:Int):=by omega
  have u:((i:Int)).tmod 28=((i % 28:Nat):Int):=by rw[px (by omega)];omega
  have t:i<11172:=by omega
  have:i % 28<28:=mS _ (by decide);have:i % 28<=i:=Nat.mod_le _ _;clear d j l;go_enter func146,ntmps146;go_wp2_with fail;refine f.out.mono ?_;rintro e w'⟨rfl,rfl⟩;go_wp2
  go_ret3
  exact⟨⟨44032+i-i % 28,4519+i % 28,JC (by omega) (by omega) rfl,λ_=>m.out⟩,rfl⟩
 have n:hk c<4:=by have:=vU c;omega
 have o:=aa (decide_eq_false (by omega:¬4<=hk c));obtain⟨k,g⟩:=ae (hk c);rw[<-g] at f o⊢;have:k<4:=by omega
 rw[o.out];clear d j n g;go_enter func146,ntmps146;go_wp2_with fail;refine f.out.mono ?_;rintro e w'⟨rfl,rfl⟩;have:((k:Int)==4)=false:=by simp;omega
 have:((k:Int)==5)=false:=by simp;omega
 go_wp2
 go_ret3
 exact⟨⟨0,0,rfl,λh=>by omega⟩,rfl⟩
end Go.Proofs.YtmnimbnojdndmaaGreatDoor
namespace Go.Cd
open Go.RowKit
def f_ {P:Program} {W:World} {ops:Array Oper} {rest:List Oper} {o:Oper} {a:Act} {Q:Exit->Act->World->Prop} (g:o.guard=none) (s x:Operand) (t:TypeId)
 (y:o.op=.call { callee:=.builtin .append,args:=#[s,x],argTypes:=#[t,t] })
 (base:Nat) (e:TypeId) (z:Value) (b:Nat) (q:Elem P t e z b)
 (v:Value) (n:Nat) (f:List Value) (B:a.eval s=v) (c:W.ownsRow base e 1 v n f)
 (u:Value) (w:a.eval x=.slice (some ⟨W.heap.size,0,none⟩) 1 1) (r:u.oneCell'=true)
 (d:(n+1)*b<=140737488355328) (j:n+1<=maxLen) (l:World) (p:Below base l W) (i:base<=l.heap.size)
 (h:∀v' w',w'.ownsRow base e 1 v' (n+1) (f++[u])->Below base l w'->(W.alloc (.cells #[u] e)).ownsRow base e 1 v n f->(W.alloc (.cells #[u] e)).grownBy w' v.ownBlock->wpList P ops Q rest (a.put o.dst v') w'):wpList P ops Q (o::rest) a (W.alloc (.cells #[u] e)):=by
 have:=p.size;refine bR g s x t y base e z b q v n f B (c.alloc _) _ [u] w (rP W #[u] e) (by simpa using r) (by simpa using j) (by simpa using d) (by simp;omega) ?_;intro v' w' C m;refine h v' w' (by simpa using C) ((p.alloc (by omega) _).grown m (by simp;omega) ?_) (c.alloc _) m;intro k A;exact(c.lt k A).1
abbrev aN:TypeId:=21
def aM (l:List Nat):List Value:=l.map λd:Nat=>Value.int .i32 d
@[simp] theorem bF (l:List Nat):(aM l).length=l.length:=by simp[aM]
def dR (l:List Nat) (i:Nat) (h:i<l.length):(aM l)[i]'(by simpa using h)=.int .i32 (l[i]:Nat):=by simp[aM]
def a_ (l m:List Nat):aM (l++m)=aM l++aM m:=by simp[aM]
def EG (l:List Nat) (k:Nat):aM (l.drop k)=(aM l).drop k:=by simp[aM,List.map_drop]
def gJ (l:List Nat):∀u∈aM l,u.oneCell'=true:=by
 intro u a;obtain⟨d,_,rfl⟩:=j8.1 a;rfl
def bW:Elem Go.Proofs.Tryz.prog 35 aN (.int .i32 0) 4:=⟨rfl,Go.Proofs.Tryz.underlying35,info_parts (by kernel_rfl)⟩
def mU (W:World) (a:Array Value) (e:TypeId) (n:Nat) (b:n=a.size) (c:n<=maxLen):(W.alloc (.cells a e)).ownsRow W.heap.size e 1 (.slice (some ⟨W.heap.size,0,none⟩) n n) n a.toList:=by
 subst b;exact⟨by simp,.inr ⟨W.heap.size,a.size,a,rfl,d' _,heap_alloc_new _ _,d' _,c,by simp,by rw[iu];simp⟩⟩
def bG.nN {w:World} {v:Value} {l:List Nat} {n:Nat} (h:bG w v (aM l)) (j:n=l.length):∃a cap,v=.slice a n cap/\n<=cap/\
 ∀i (c:i<l.length),∃b off,a=some ⟨b,off,none⟩/\b<w.heap.size/\w.cell? ⟨b,off+i,none⟩=some (.int .i32 (l[i]:Nat)):=by
 subst j;obtain⟨a,cap,rfl,m,f⟩:=bG.out h;have g:(aM l).length=l.length:=bF _;refine⟨a,cap,by rw[g],by omega,λi c=>?_⟩;obtain⟨b,off,d,k,e⟩:=f i (by omega);exact⟨b,off,d,k,by rw[e,dR _ _ c]⟩
end Go.Cd
namespace Go.Proofs.YtmnimbnojdndmaaGreatDoor
open Go.RowKit Go.Cd _root_.Go.Proofs.Tryz
variable {w:World} {c:Nat} {v:Value} {T:List aG} {X:List Nat}
def lF {a b:Nat} (g:c<1114112) (h:dI c=[a,b]) :
 Calls prog 146 #[.int .i32 c] w λe w'=>e=.returned (.tuple #[.int .i32 a,.int .i32 b,.bool true])/\w'=w:=by
 have f:4<=hk c:=by
  rcases ki (hk c) 4 with h'|h'
  ·rw[xS.2 h'] at h;cases h
  exact h'
 refine(EF (w:=w) c g).mono ?_;rintro e w'⟨⟨j,i,rfl,d⟩,rfl⟩;rw[d f] at h;cases h;rw[decide_eq_true f];exact⟨rfl,rfl⟩
def rR (d:c<1114112) (h:hk c<4) :
 Calls prog 146 #[.int .i32 c] w λe w'=>(∃a b:Nat,e=.returned (.tuple #[.int .i32 a,.int .i32 b,.bool false]))/\w'=w:=by
 refine(EF (w:=w) c d).mono ?_;rintro e w'⟨⟨f,g,rfl,_⟩,rfl⟩;rw[decide_eq_false (by omega:¬4<=hk c)];exact⟨⟨f,g,rfl⟩,rfl⟩
def Ng (c:Nat) (n:c<1114112) :
 Calls prog 100 #[.int .i32 c] w λe w'=>∃r,e=.returned r/\w'.ownsRow w.heap.size aN 1 r (hparts c).length (aM (hparts c))/\Below w.heap.size w w':=by
 by_cases f:hk c=4
 ·obtain⟨a,b,d⟩:∃a b,hparts c=[a,b]:=by unfold hparts;rw[if_pos f];exact⟨_,_,rfl⟩
  have j:dI c=[a,b]:=by rw[<-d];unfold hparts dI;rw[if_pos f,if_pos f]
  have q:a<4547:=(Ez (by rw[d];simp:a∈hparts c)).1;have k:hk a<4:=by
   rcases ki (hk a) 4 with h|h
   ·exact h
   have:=UL.1 h;omega
  have l:=aa (lF (w:=w) n j);have o:=aa (rR (w:=w) (c:=a) (by omega) k);rw[d];clear k d f j;go_enter func100,ntmps100;go_wp2_with fail;refine l.out.mono ?_;rintro e w'⟨rfl,rfl⟩;go_wp2_with fail;refine o.out.mono ?_;rintro e p⟨⟨s,t,rfl⟩,rfl⟩;go_wp2;go_ret;exact⟨_,rfl,mU _ #[.int .i32 a,.int .i32 b] aN 2 rfl (by decide),ah _⟩
 by_cases g:hk c=5
 ·obtain⟨x,y,z,d⟩:∃x y z,hparts c=[x,y,z]:=by unfold hparts;rw[if_neg f,if_pos g];exact⟨_,_,_,rfl⟩
  have j:dI c=[c-(c-44032) % 28,z]:=by
   unfold hparts at d;rw[if_neg f,if_pos g] at d;unfold dI;rw[if_neg f,if_pos g];simp only[oX] at d;rw[d.2.2.1]
  have m:dI (c-(c-44032) % 28)=[x,y]:=by
   rw[A8 g];unfold hparts at d;rw[if_neg f,if_pos g] at d;simp only[oX] at d;rw[d.1,d.2.1]
  have q:c-(c-44032) % 28<1114112:=by omega
  have l:=aa (lF (w:=w) n j);have o:=aa (lF (w:=w) q m);rw[d];clear d f g j m;generalize c-(c-44032) % 28=a at *;go_enter func100,ntmps100;go_wp2_with fail;refine l.out.mono ?_;rintro e w'⟨rfl,rfl⟩;go_wp2_with fail;refine o.out.mono ?_;rintro e p⟨rfl,rfl⟩;go_wp2;go_ret;exact⟨_,rfl,mU _ #[.int .i32 x,.int .i32 y,.int .i32 z] aN 3 rfl (by decide),ah _⟩
 have i:hk c<4:=by have:=vU c;omega
 have l:=aa (rR (w:=w) n i);rw[iC.2 i];clear i f g;go_enter func100,ntmps100;go_wp2_with fail;refine l.out.mono ?_;rintro e w'⟨⟨a,b,rfl⟩,rfl⟩;go_wp2;go_ret;exact⟨_,rfl,iS _ _ _ _,gS _ _⟩
def gZ (c:Nat) (i:c<2147483648) :
 Calls prog 96 #[.int .i32 c] w λe w'=>e=.returned (.bool (decide (aP c)))/\w'=w:=by
 obtain⟨p,b⟩:=ae (decide (aP c));have a:=aa b;rw[<-b];clear b;by_cases g:c<=1114111
 ·by_cases f:c<55296
  ·have E:p=true:=a.out.trans (decide_eq_true ⟨by omega,.inl f⟩);subst E;go_enter func96,ntmps96;go_wp2;go_ret;exact⟨dV (by simp <;> omega),rfl⟩
  by_cases d:57343<c
  ·have E:p=true:=a.out.trans (decide_eq_true ⟨by omega,.inr d⟩);subst E;go_enter func96,ntmps96;go_wp2;go_ret;exact⟨dV (by simp <;> omega),rfl⟩
  have E:p=false:=a.out.trans (decide_eq_false (λh=>by rcases h.2 with h|h <;> omega));subst E;go_enter func96,ntmps96;go_wp2;go_ret;exact⟨dV (by simp <;> omega),rfl⟩
 have E:p=false:=a.out.trans (decide_eq_false (λh=>by have:=h.1;omega));subst E;go_enter func96,ntmps96;go_wp2;go_ret;exact⟨rfl,rfl⟩
def EH (c:Nat) (i:c<9223372036854775808) :
 Calls prog 78 #[.int .i64 c] w λe w'=>e=.returned (.bool (decide (aP c)))/\w'=w:=by
 obtain⟨p,b⟩:=ae (decide (aP c));have a:=aa b;rw[<-b];clear b;by_cases g:c<=1114111
 ·by_cases f:c<55296
  ·have E:p=true:=a.out.trans (decide_eq_true ⟨by omega,.inl f⟩);subst E;go_enter func78,ntmps78;go_wp2;go_ret;exact⟨dV (by simp <;> omega),rfl⟩
  by_cases d:57343<c
  ·have E:p=true:=a.out.trans (decide_eq_true ⟨by omega,.inr d⟩);subst E;go_enter func78,ntmps78;go_wp2;go_ret;exact⟨dV (by simp <;> omega),rfl⟩
  have E:p=false:=a.out.trans (decide_eq_false (λh=>by rcases h.2 with h|h <;> omega));subst E;go_enter func78,ntmps78;go_wp2;go_ret;exact⟨dV (by simp <;> omega),rfl⟩
 have E:p=false:=a.out.trans (decide_eq_false (λh=>by have:=h.1;omega));subst E;go_enter func78,ntmps78;go_wp2;go_ret;exact⟨rfl,rfl⟩
def lG (x:Nat):Nat:=if aP x then x else x % 2048
def rT {x:Nat}:aP (lG x):=by
 unfold lG
 split
 ·assumption
 have:=mS x (show 2048 > 0 by decide);exact⟨by omega,.inl (by omega)⟩
def Ni (n:Int):bits .and .i64 n 2097151=n % 2097152:=by
 have a:(BitVec.ofInt 64 2097151).toNat=2 ^ 21-1:=by decide
 have key:(BitVec.ofInt 64 n &&& BitVec.ofInt 64 2097151).toNat=(n % ((2 ^ 64:Nat):Int)).toNat % 2 ^ 21:=by
  rw[sR,pH,a,oy]
 show IntKind.i64.wrap ((BitVec.ofInt 64 n &&& BitVec.ofInt 64 2097151).toNat:Nat)=n % 2097152;rw[key,ph];omega
def Nj (n:Int):bits .and .i64 n 2047=n % 2048:=by
 have a:(BitVec.ofInt 64 2047).toNat=2 ^ 11-1:=by decide
 have key:(BitVec.ofInt 64 n &&& BitVec.ofInt 64 2047).toNat=(n % ((2 ^ 64:Nat):Int)).toNat % 2 ^ 11:=by
  rw[sR,pH,a,oy]
 show IntKind.i64.wrap ((BitVec.ofInt 64 n &&& BitVec.ofInt 64 2047).toNat:Nat)=n % 2048;rw[key,ph];omega
def jL (x:Int) :
 Calls prog 35 #[.int .i64 x] w λe w'=>e=.returned (.int .i32 (lG (x % 2097152).toNat))/\w'=w:=by
 obtain⟨y,b⟩:=ae ((x % 2097152).toNat);have:bits BinOp.and IntKind.i64 x 2097151=(y:Int):=by rw[Ni];omega
 have:y<2097152:=by omega
 have I:=aa (EH (w:=w) y (by omega));rw[<-b];clear b;by_cases a:aP y
 ·have E:=aa (show lG y=y by unfold lG;rw[if_pos a]);rw[decide_eq_true a] at I;have:=a.1;clear a;go_enter func35,ntmps35;go_wp2_with fail;refine I.out.mono ?_;rintro e w'⟨rfl,rfl⟩;go_wp2;go_ret;exact⟨by rw[E.out];rfl,rfl⟩
 have E:=aa (show lG y=y % 2048 by unfold lG;rw[if_neg a]);have:bits BinOp.and IntKind.i64 (y:Int) 2047=((y % 2048:Nat):Int):=by rw[Nj];omega
 have:=mS y (show 2048 > 0 by decide);rw[decide_eq_false a] at I;generalize y % 2048=z at *;clear a;go_enter func35,ntmps35;go_wp2_with fail;refine I.out.mono ?_;rintro e w'⟨rfl,rfl⟩;go_wp2;go_ret;exact⟨by rw[E.out];rfl,rfl⟩
def gK (c:Nat):List Nat:=if hk c=1 then (List.range 588).map λi=>44032+(c-4352)*588+i else []
def JD (c:Nat) (v:c<1114112) :
 Calls prog 95 #[.int .i32 c] w λe w'=>∃r,e=.returned r/\w'.ownsRow w.heap.size aN 1 r (gK c).length (aM (gK c))/\Below w.heap.size w w':=by
 have f:=aa (rQ (w:=w) c v);by_cases b:hk c=1
 ·have E:gK c=(List.range 588).map λi=>44032+(c-4352)*588+i:=by unfold gK;rw[if_pos b]
  have y:=UM.1 b;rw[b] at f;obtain⟨l,rfl⟩:∃l,c=4352+l:=⟨c-4352,by omega⟩;rw[lk] at E;have:l<19:=by omega
  obtain⟨B,h⟩:=ae (gK (4352+l));have s:=aa (h.trans E);rw[<-h];clear b y E h;go_enter func95,ntmps95;go_wp2_with fail;refine f.out.mono ?_;rintro e w'⟨rfl,rfl⟩;clear f;go_wp2_with fail;go_loopw [3,8] (λo g wr=>∃j:Nat,j<=588/\g=.int .i32 j/\wr.ownsRow w'.heap.size aN 1 o j (aM ((List.range j).map λi=>44032+l*588+i))/\Below w'.heap.size w' wr) (λ_ g _=>588-(intOf g).toNat)
  case atStart=>exact⟨0,by decide,rfl,iS _ _ _ _,gS _ _⟩
  case round=>
   obtain⟨j,C,rfl,p,n⟩:=hrel;by_cases x:j<588
   ·have u:=aa (show aM ((List.range (j+1)).map λi=>44032+l*588+i)=aM ((List.range j).map λi=>44032+l*588+i)++[.int .i32 (44032+l*588+j:Nat)] by
     rw[s_,j5,a_];rfl)
    have t:=aa (show(44032:Int)+(4352+(l:Int)-4352)*588+j=((44032+l*588+j:Nat):Int) by omega);go_wp2_with (at_builtin;refine f_ rfl _ _ 35 rfl w'.heap.size aN _ 4 bW _ j _ rfl p _ rfl rfl (by omega) (by unfold maxLen;omega) w' n (d' _) ?_;intro v' A a m _ _);go_roundw
    case rel=>exact⟨j+1,by omega,rfl,by rw[u.out,<-t.out];exact a,m⟩
    case measure=>simp[intOf];omega
   obtain rfl:j=588:=by omega
   go_wp2;go_ret;exact⟨_,rfl,by rw[s.out,iz,List.length_range];exact p,n⟩
 have E:gK c=[]:=by unfold gK;rw[if_neg b]
 obtain⟨k,d⟩:=ae (hk c);have:((k:Int)==1)=false:=by simp;omega
 rw[<-d] at f;rw[E];clear E b d;go_enter func95,ntmps95;go_wp2_with fail;refine f.out.mono ?_;rintro e w'⟨rfl,rfl⟩;go_wp2;go_ret;exact⟨_,rfl,iS _ _ _ _,gS _ _⟩
def ints (l:List Nat):List Value:=l.map λd:Nat=>Value.int .i64 d
@[simp] theorem ek (l:List Nat):(ints l).length=l.length:=by simp[ints]
def Nk {j k:Nat} (e:j<19) (a:k<21):hparts (44032+588*j+28*k)=[4352+j,4449+k]:=by
 have c:hk (44032+588*j+28*k)=4:=oQ.2 ⟨by omega,by omega,by omega⟩;unfold hparts;rw[if_pos c];have b:(44032+588*j+28*k-44032) / 588=j:=by omega
 have d:(44032+588*j+28*k-44032) % 588 / 28=k:=by omega
 rw[b,d]
def GJ {j k t:Nat} (f:j<19) (a:k<21) (h0:0<t) (g:t<28):hparts (44032+588*j+28*k+t)=[4352+j,4449+k,4519+t]:=by
 have b:hk (44032+588*j+28*k+t)=5:=kI.2 ⟨by omega,by omega,by omega⟩;unfold hparts;rw[if_neg (by omega),if_pos b];have d:(44032+588*j+28*k+t-44032) / 588=j:=by omega
 have e:(44032+588*j+28*k+t-44032) % 588 / 28=k:=by omega
 have c:(44032+588*j+28*k+t-44032) % 28=t:=by omega
 rw[d,e,c]
def y5 (h:c<44032\/55204<=c):hparts c=[]:=by
 refine iC.2 ?_;rcases ki (hk c) 4 with h'|h'
 ·exact h'
 have:=UL.1 h';omega
def tH (c:Nat) (s:c<1114112) :
 Calls prog 86 #[.int .i64 c] w λe w'=>∃r,e=.returned r/\w'.ownsRow w.heap.size bB 1 r (hparts c).length (ints (hparts c))/\Below w.heap.size w w':=by
 obtain⟨P,f⟩:=ae (hparts c);have b:=aa f;rw[<-f];clear f;go_enter func86,ntmps86;go_wp2_with fail;go_loopw [3,4] (λnv d wr=>∃j:Nat,j<=19/\nv=.int .i64 (44032+588*j:Nat)/\d=.int .i64 (4352+j:Nat)/\(0<j->44032+588*j<=c)/\wr=w) (λ_ d _=>4371-(intOf d).toNat)
 case atStart=>exact⟨0,by decide,rfl,rfl,λh=>absurd h (by decide),rfl⟩
 case round=>
  obtain⟨j,q,rfl,rfl,l,rfl⟩:=hrel;by_cases a:j<19
  ·by_cases u:44032+588*j+588<=c
   ·go_wp2;go_roundw
    case rel=>exact⟨j+1,by omega,congrArg (Value.int .i64) (by omega),congrArg (Value.int .i64) (by omega),λ_=>by omega,trivial⟩
    case measure=>simp[intOf];omega
   go_wp2_with fail;go_loopw [3,5] (λnv vv n=>∃k:Nat,k<21/\nv=.int .i64 (44032+588*j+28*k:Nat)/\vv=.int .i64 (4449+k:Nat)/\(0<k->44032+588*j+28*k<=c)/\n=wr) (λ_ vv _=>4470-(intOf vv).toNat)
   case atStart=>exact⟨0,by decide,rfl,rfl,λh=>absurd h (by decide),rfl⟩
   case round=>
    obtain⟨k,i,rfl,rfl,m,rfl⟩:=hrel;by_cases v:44032+588*j+28*k+28<=c
    ·go_wp2;go_roundw
     case rel=>exact⟨k+1,by omega,congrArg (Value.int .i64) (by omega),congrArg (Value.int .i64) (by omega),λ_=>by omega,trivial⟩
     case measure=>simp[intOf];omega
    rcases pR c (44032+588*j+28*k) with h7|h7|h7
    ·have g:=y5 (c:=c) (.inl (by omega));have E:=b.out.trans g;subst E;have z:((c:Int)==((44032+588*j+28*k:Nat):Int))=false:=by simp;omega
     clear g;go_wp2;go_ret;exact⟨_,rfl,iS _ _ _ _,gS _ _⟩
    ·subst h7;have E:=b.out.trans (Nk a i);subst E;go_wp2;go_ret;exact⟨_,rfl,mU _ #[.int .i64 (4352+j:Nat),.int .i64 (4449+k:Nat)] bB 2 rfl (by decide),ah _⟩
    obtain⟨t,rfl⟩:∃t,c=44032+588*j+28*k+t:=⟨c-(44032+588*j+28*k),by omega⟩;have E:=b.out.trans (GJ a i (t:=t) (by omega) (by omega));subst E;have z:(((44032+588*j+28*k+t:Nat):Int)==((44032+588*j+28*k:Nat):Int))=false:=by simp;omega
    go_wp2;go_ret;refine⟨_,rfl,?_,ah _⟩;have o:=mU wr #[.int .i64 (4352+j:Nat),.int .i64 (4449+k:Nat),.int .i64 (4519+t:Nat)] bB 3 rfl (by decide);rw[show((4519+t:Nat):Int)=4519+(44032+588*(j:Int)+28*k+t)-(44032+588*j+28*k) by omega] at o;have p:ints [4352+j,4449+k,4519+t]=(#[Value.int .i64 (4352+j:Nat),.int .i64 (4449+k:Nat),.int .i64 (4519+(44032+588*(j:Int)+28*k+t)-(44032+588*j+28*k))]:Array Value).toList:=by
     rw[show 4519+(44032+588*(j:Int)+28*k+t)-(44032+588*j+28*k)=((4519+t:Nat):Int) by omega];rfl
    rw[p];exact o
  obtain rfl:j=19:=by omega
  have E:=b.out.trans (y5 (c:=c) (.inr (by omega)));subst E;go_wp2;go_ret;exact⟨_,rfl,iS _ _ _ _,gS _ _⟩
def y8 (w:World) (v:Value) (T:List aG):Prop:=
 ∃a cap,v=.slice a T.length cap/\T.length<=cap/\∀i (c:i<T.length),∃b off m,a=some ⟨b,off,none⟩/\b<w.heap.size/\
  w.cell? ⟨b,off+i*3,none⟩=some (.int .i64 T[i].code)/\w.cell? ⟨b,off+i*3+1,none⟩=some (.int .i64 T[i].cls)/\w.cell? ⟨b,off+i*3+2,none⟩=some m/\bG w m (ints T[i].map)
def y8.mono {w':World} (h:y8 w v T) (c:Below w.heap.size w w'):y8 w' v T:=by
 obtain⟨a,cap,l,f,h⟩:=h;refine⟨a,cap,l,f,λi k=>?_⟩;obtain⟨b,off,m,o,d,e,n,g,j⟩:=h i k;exact⟨b,off,m,o,kh d c.size,aB c e,aB c n,aB c g,j.mono c⟩
def jq (w:World) (v:Value) (T:List aG) (X:List Nat):Prop:=∃r x,v=.agg #[r,x]/\y8 w r T/\bG w x (ints X)
def jq.mono {w':World} (h:jq w v T X) (a:Below w.heap.size w w'):jq w' v T X:=by
 obtain⟨r,x,d,c,b⟩:=h;exact⟨r,x,d,c.mono a,b.mono a⟩
def oV (h:∀r∈T,r.code≠c):rowOf T c=none:=List.find?_eq_none.2 λr a=>by simpa using h r a
def Ba {i:Nat} (d:i<T.length) (h:∀r∈T.take i,r.code≠c) (a:T[i].code=c):rowOf T c=some T[i]:=by
 unfold rowOf;rw[List.find?_eq_some_iff_append];refine⟨by simpa using a,T.take i,T.drop (i+1),?_,λr b=>by simpa using h r b⟩;rw[List.getElem_cons_drop,km]
def tK (h:jq w v T X) (c:Nat) (i:T.length<1000000) :
 Calls prog 54 #[v,.int .i64 c] w λe w'=>e=.returned (.int .i64 (ai T c))/\Below w.heap.size w w':=by
 obtain⟨r,x,rfl,P,N⟩:=h;obtain⟨a,cap,rfl,_,G⟩:=P;obtain⟨u,s,rfl,_,_⟩:=bG.out N;obtain⟨F,g⟩:∃n,n=(ints X).length:=⟨_,rfl⟩;rw[<-g];obtain⟨n,y⟩:=ae T.length;rw[<-y] at i⊢;have L:=aa y;have W:=aa G;have l:=ah (w:=w) (.cells #[.slice a n cap,.slice u F s] 25);obtain⟨K,C⟩:=ae (ai T c);have H:=aa C;rw[<-C];have U:(w.alloc (.cells #[.slice a n cap,.slice u F s] 25)).cell? ⟨w.heap.size,0,none⟩=some (.slice a n cap):=by unfold World.cell?;rw[heap_alloc_new];rfl
 obtain⟨I,t⟩:=ae (w.alloc (.cells #[.slice a n cap,.slice u F s] 25));rw[<-t] at l U;clear N G y g C;go_enter func54,ntmps54;go_wp2_with fail;rw[<-t];clear t;go_loopw [10] (λp wr=>∃j:Nat,j<=n/\p=.int .i64 j/\(∀r∈T.take j,r.code≠c)/\Below I.heap.size I wr) (λp _=>n-(intOf p).toNat)
 case atStart=>exact⟨0,ic _,rfl,by simp,gS _ _⟩
 case round=>
  obtain⟨j,hj,rfl,d,o⟩:=hrel;have k:=af l o;by_cases V:j<n
  ·have f:j<T.length:=by have:=L.out;omega
   obtain⟨b,off,m,rfl,Y,M,J,A,O⟩:=W.out j f;obtain⟨am,Z,rfl,_,_⟩:=bG.out O;generalize (ints T[j].map).length=nm at A;clear O;have M:=aB k M;have J:=aB k J;have A:=aB k A;have Q:=aa (Ba f d);have S:=aa (show ∀r,r∈T.take (j+1)↔r∈T.take j\/r=T[j] from λr=>by rw[gR f,ie,gE]);have R:=aa d;generalize T[j]=q at *;clear d;by_cases B:q.code=c
   ·have E:K=q.cls:=H.out.trans (by unfold ai;rw[Q.out B]);subst E;subst B;go_wp2;go_ret;exact⟨rfl,l.trans ((af o (ah _)).mono l.size)⟩
   have:((q.code:Int)==c)=false:=by simp;omega
   go_wp2;go_roundw
   case rel=>exact⟨j+1,by omega,rfl,λr D=>by rcases (S.out r).1 D with h|h;exact R.out r h;rw[h];exact B,af o (ah _)⟩
   case measure=>simp[intOf];omega
  obtain rfl:j=n:=by omega
  have E:K=0:=H.out.trans (by unfold ai;rw[oV (λr D=>d r (by rw[L.out,lB];exact D))]);subst E;go_wp2;go_ret;exact⟨rfl,k⟩
def y9 (h:jq w v T X) (c:Nat) (hc:c<1114112) (L:T.length<1000000) :
 Calls prog 53 #[v,.int .i64 c] w λe w'=>∃r,e=.returned r/\bG w' r (ints (mapOf T c))/\Below w.heap.size w w':=by
 obtain⟨r,x,rfl,g,h2⟩:=h;obtain⟨a,cap,rfl,_,hx⟩:=g;obtain⟨W,S,rfl,_,_⟩:=bG.out h2;obtain⟨nx,K⟩:∃n,n=(ints X).length:=⟨_,rfl⟩;rw[<-K];obtain⟨n,Y⟩:=ae T.length;rw[<-Y] at L⊢;have HN:=aa Y;have HX:=aa hx;have B:=ah (w:=w) (.cells #[.slice a n cap,.slice W nx S] 25);have O:(w.alloc (.cells #[.slice a n cap,.slice W nx S] 25)).cell? ⟨w.heap.size,0,none⟩=some (.slice a n cap):=by unfold World.cell?;rw[heap_alloc_new];rfl
 obtain⟨W0,C⟩:=ae (w.alloc (.cells #[.slice a n cap,.slice W nx S] 25));rw[<-C] at B O;have p:=aa (tH (w:=W0) c hc);obtain⟨M,hM⟩:=ae (mapOf T c);have HM:=aa hM;rw[<-hM];clear h2 hx Y K hM;by_cases I:hk c<4
 ·have E:=aa (HM.out.trans (by unfold mapOf;rw[if_pos I]):M=bP T c);rw[iC.2 I] at p;clear I;go_enter func53,ntmps53;go_wp2_with fail;rw[<-C];clear C;refine p.out.mono ?_;rintro e u⟨r1,rfl,s,g⟩;have d:=af B g;have d1:=aB g O;obtain⟨a1,N,rfl,_,_⟩:=bG.out (Sl.aU s).any;rw[show(ints []).length=0 from rfl];clear p s g O B;go_wp2_with fail;go_loopw [30] (λR wr=>∃j:Nat,j<=n/\R=.int .i64 j/\(∀r∈T.take j,r.code≠c)/\Below u.heap.size u wr) (λR _=>n-(intOf R).toNat)
  case atStart=>exact⟨0,ic _,rfl,by simp,gS _ _⟩
  case round=>
   obtain⟨j,hj,rfl,k,hE⟩:=hrel;have A:=af d hE;by_cases ad:j<n
   ·have D:j<T.length:=by have:=HN.out;omega
    obtain⟨b,off,m,rfl,ai,c0,N,Z,P⟩:=HX.out j D;have c0:=aB A c0;have N:=aB A N;have Z:=aB A Z;obtain⟨am,cm,rfl,_,_⟩:=bG.out P;have P:=aa (P.mono A);have HA:=aa (Ba D k);have HS:=aa (show ∀r,r∈T.take (j+1)↔r∈T.take j\/r=T[j] from λr=>by rw[gR D,ie,gE]);have Yf:=aa k;generalize T[j]=q at *;obtain⟨nm,J⟩:=ae ((ints q.map).length);rw[<-J] at P Z;clear k J;by_cases hq:q.code=c
    ·have U:M=q.map:=E.out.trans (by unfold bP;rw[HA.out hq]);subst U;subst hq;go_wp2;go_ret;exact⟨_,rfl,P.out.mono (ah _),A.trans ((ah _).mono A.size)⟩
    have z:((q.code:Int)==c)=false:=by simp;omega
    go_wp2;go_roundw
    case rel=>exact⟨j+1,by omega,rfl,λr hr=>by rcases (HS.out r).1 hr with h|h;exact Yf.out r h;rw[h];exact hq,af hE (ah _)⟩
    case measure=>simp[intOf];omega
   obtain rfl:j=n:=by omega
   have U:M=[]:=E.out.trans (by unfold bP;rw[oV (λr hr=>k r (by rw[HN.out,lB];exact hr))]);subst U;go_wp2;go_ret;exact⟨_,rfl,⟨none,0,rfl,d' _,.inl ⟨rfl,λ_=>rfl⟩⟩,A⟩
 have Q:M=dI c:=HM.out.trans (by unfold mapOf;rw[if_neg I]);by_cases H:hk c=5
 ·obtain⟨x,y,z,f⟩:∃x y z,hparts c=[x,y,z]:=by unfold hparts;rw[if_neg (by omega),if_pos H];exact⟨_,_,_,rfl⟩
  have hz:z<4547:=(Ez (by rw[f];simp:z∈hparts c)).1;have V:dI c=[c-(z-4519),z]/\4519<=z:=by
   unfold hparts at f;rw[if_neg (by omega),if_pos H] at f;simp only[oX] at f;unfold dI;rw[if_neg (by omega),if_pos H,f.2.2.1];have h9:=f.2.2.1;generalize (c-44032) % 28=t at *;have:c-t=c-(z-4519):=by omega
   rw[this];exact⟨rfl,by omega⟩
  have ab:=(kI.1 H).1;have E:=aa (Q.trans V.1);have ac:=V.2;rw[f] at p;clear I H Q f V;go_enter func53,ntmps53;go_wp2_with fail;rw[<-C];clear C;refine p.out.mono ?_;rintro e u⟨r1,rfl,s,g⟩;have d:=af B g;have s1:=(Sl.aU s).any;obtain⟨a1,N,rfl,G,i⟩:=bG.out s1;obtain⟨b1,f1,rfl,_,F⟩:=i 2 (by simp);have F:u.cell? ⟨b1,f1+2,none⟩=some (.int .i64 z):=by rw[F];rfl
  rw[show(ints [x,y,z]).length=3 from rfl] at G⊢;have hg:=Gr.cell (ag u) F;clear p s g O B s1 i;go_wp2_with fail;refine aC (Array.replicate 11 true) 11 0 mixed ?_;refine ay [0,1,2,3,4,5,6,7,8] 2 ?_
  iterate 9 (refine aA rfl ?_;go_big_quiet_step (rfl))
  refine az ?_;refine aI 9 ?_;go_wp2_with fail;refine aF (ah _) ?_;refine ay [10] 0 ?_
  iterate 1 (refine aA rfl ?_;go_big_quiet_step (rfl))
  refine az ?_;refine aJ [] ?_;refine tail_nil ?_;go_wp2;go_ret;refine⟨_,rfl,?_,d.trans ((af (ag u) (ah _)).mono d.size)⟩;rw[E.out];have o:=rP u #[.int .i64 (c-(z-4519):Nat),.int .i64 z] bB;rw[show((c-(z-4519):Nat):Int)=(c:Int)-((z:Int)-4519) by omega] at o;have e3:ints [c-(z-4519),z]=(#[Value.int .i64 ((c:Int)-((z:Int)-4519)),.int .i64 z]:Array Value).toList:=by
   rw[show(c:Int)-((z:Int)-4519)=((c-(z-4519):Nat):Int) by omega];rfl
  rw[e3];exact o.mono (ag _)
 have l:hk c=4:=by have:=vU c;omega
 obtain⟨x,y,f⟩:∃x y,hparts c=[x,y]:=by unfold hparts;rw[if_pos l];exact⟨_,_,rfl⟩
 have E:=aa (Q.trans (show dI c=[x,y] by rw[<-f];unfold hparts dI;rw[if_pos l,if_pos l]));rw[f] at p;clear I H l Q f;go_enter func53,ntmps53;go_wp2_with fail;rw[<-C];clear C;refine p.out.mono ?_;rintro e u⟨r1,rfl,s,g⟩;have d:=af B g;have s1:=(Sl.aU s).any;obtain⟨a1,N,rfl,G,i⟩:=bG.out s1;rw[show(ints [x,y]).length=2 from rfl] at G s1⊢;have S1:=aa s1;clear p s g O B s1 i;go_wp2;go_ret;exact⟨_,rfl,by rw[E.out];exact S1.out,d⟩
end Go.Proofs.YtmnimbnojdndmaaGreatDoor
namespace Go.Proofs.YtmnimbnojdndmaaGreatDoor
open Go.RowKit Go.Cd
variable {u v:Value} {W:World} {base n:Nat} {e:TypeId} {α:Type}
def Apt (u v:Value):Prop:=∀k,u.ownBlock=some k->v.ownBlock≠some k
def Apt.symm (h:Apt u v):Apt v u:=λk b a=>h k a b
def YV (v:Value) (n c:Nat):Apt (.slice none n c) v:=λk h=>by simp[Value.ownBlock] at h
def kK (W:World) (v v':Value):Prop:=v'.ownBlock=v.ownBlock\/∃k,v'.ownBlock=some k/\W.heap.size<=k
def Apt.push {v':Value} (h:Apt u v) (e:∀k,u.ownBlock=some k->k<W.heap.size) (b:kK W v v'):Apt u v':=by
 intro k c a;rcases b with b|⟨f,d,g⟩
 ·exact h k c (b▸a)
 rw[d] at a;cases a;have:=e k c;omega
def Apt.stays {c:World} {a:Nat} {b:List Value} (h:Apt u v) (d:W.ownsRow base e a u n b) (f:W.grownBy c v.ownBlock):c.ownsRow base e a u n b:=by
 refine d.kept f ?_;cases g:u.ownBlock with
 | none=>exact .inl rfl
 | some k=>exact .inr λe=>h k g e.symm
def kK.refl (W:World) (v:Value):kK W v v:=.inl rfl
def kK.trans {c:World} {v':Value} (h:kK W u v) (a:kK c v v') (e:W.heap.size<=c.heap.size):kK W u v':=by
 rcases a with a|⟨k,b,d⟩
 ·rcases h with h|⟨k,b,d⟩
  ·exact .inl (a.trans h)
  exact .inr ⟨k,a.trans b,d⟩
 exact .inr ⟨k,b,by omega⟩
def mV (P:Program) (t e:TypeId) (z:Value) (size bytes:Nat):Prop:=
 z.cells.size=size/\P.underlying t=some (.slice e)/\∃i,P.info? e=some i/\i.zero=some z/\i.size=size/\i.bytes=bytes
def Elem.ae2 {P:Program} {t:TypeId} {z:Value} {a:Nat} (h:Elem P t e z a):mV P t e z 1 a:=⟨kG h.1,h.2⟩
def qf {P:Program} {W:World} {ops:Array Oper} {rest:List Oper} {o:Oper} {a:Act} {Q:Exit->Act->World->Prop} (J:o.guard=none) (s x:Operand) (t:TypeId)
 (ho:o.op=.call { callee:=.builtin .append,args:=#[s,x],argTypes:=#[t,t] })
 (base:Nat) (e:TypeId) (z:Value) (c b:Nat) (V:mV P t e z c b) (F:0<c) (ac:c<=1000) (kT:0<b) (U:b<=100000)
 (v:Value) (n:Nat) (D:List Value) (hs:a.eval s=v) (r:W.ownsRow base e c v n D)
 (us:Array Value) (hx:a.eval x=.slice (some ⟨W.heap.size,0,none⟩) 1 1) (ze:us.size=c) (R:∀u∈us.toList,u.oneCell'=true)
 (hn:n<1000000) (M:World) (T:Below base M W) (K:base<=M.heap.size)
 (h:∀v' w',w'.ownsRow base e c v' (n+1) (D++us.toList)->Below base M w'->W.grownBy w' v.ownBlock->kK W v v'->wpList P ops Q rest (a.put o.dst v') w') :
 wpList P ops Q (o::rest) a (W.alloc (.cells us e)):=by
 have:=T.size;obtain⟨O,E,i,C,G,d,y⟩:=V;have l:=r.alloc (.cells us e);have f:∀(j:Nat) (u:Value),us.toList[j]? = some u->(W.alloc (.cells us e)).cell? ((⟨W.heap.size,0,none⟩:Addr).add j)=some u:=by
  intro j u hj;have e0:(⟨W.heap.size,0,none⟩:Addr).add j=⟨W.heap.size,j,none⟩:=by unfold Addr.add;split <;> simp_all
  rw[e0];unfold World.cell?;rw[heap_alloc_new];simpa using hj
 have A:n+1<=maxLen:=by unfold maxLen;omega
 have p:us.toList.length=1*i.size:=by rw[d,sr];simpa using ze
 have I:(n+1)*b<=140737488355328:=by
  have:(n+1)*b<=1000000*100000:=pP (by omega) U;omega
 obtain⟨v',w',w,h2,S,_⟩:=run_append_own (P:=P) (W.alloc (.cells us e)) base t o.type e i z c b E C G d y O F v n D l
  ⟨W.heap.size,0,none⟩ 1 1 us.toList (by rw[p,d]) f R A I (by simp;omega)
 have B:kK W v v':=by
  rcases l.2 with⟨rfl,rfl⟩|⟨g,cap,N,rfl,X,Y,Z,ab,H,L⟩
  ·have m:=run_append_nil (P:=P) (W.alloc (.cells us e)) t o.type e i z E C G ⟨W.heap.size,0,none⟩ 1 1 us.toList p f (by decide) (by decide) (by rw[y];simpa using ia U (by decide));rw[m] at w;injection w with e1 _;subst e1;exact .inr ⟨_,rfl,by simp⟩
  by_cases q:n+1<=cap
  ·have m:=run_append_room (P:=P) (W.alloc (.cells us e)) t o.type e i E C g n cap N Y ⟨W.heap.size,0,none⟩ 1 1 us.toList p f R q (by
    rw[p,d,H,<-mw];exact m9 _ q)
   rw[m] at w;injection w with e1 _;subst e1;exact .inl rfl
  have m:=run_append_grow (P:=P) (W.alloc (.cells us e)) t o.type e i z E C G ⟨g,0,none⟩ n cap D (by rw[d];exact l.1) (l.cells (g:=g) rfl) ⟨W.heap.size,0,none⟩ 1 1 us.toList p f (by omega) (by omega) (growslice_fits (by omega) (by rw[y];omega));rw[m] at w;injection w with e1 _;subst e1;exact .inr ⟨_,rfl,by simp⟩
 refine so _ J s x _ _ ho v _ hs hx v' w' w ?_;refine h v' w' h2 ((T.alloc (by omega) _).grown S (by simp;omega) (λk hk=>(r.lt k hk).1)) ?_ B;have ha:=World.grownBy_alloc W (.cells us e) v.ownBlock;exact ha.trans S
def vV {β:Type} (f:α->List β) (n:Nat) (hf:∀a,(f a).length=n):∀(l:List α) (i:Nat) (b:i<l.length) (k:Nat),k<n->(l.flatMap f)[i*n+k]? = (f l[i])[k]?
 | a::l,0,_,k,hk=>by
   rw[jx,ur,k_,kB (by rw[hf];exact hk)];rfl
 | a::l,i+1,b,k,hk=>by
   rw[jx,j' (by rw[hf,mw];omega),hf];have c:=vV f n hf l i (by simpa using b) k hk;rw[show(i+1)*n+k-n=i*n+k by rw[mw];omega,c];rfl
def vW {β:Type} (f:α->List β) (n:Nat) (hf:∀a,(f a).length=n) (l:List α):(l.flatMap f).length=l.length*n:=by
 induction l with
 | nil=>simp
 | cons a l ih=>rw[jx,gn,hf,ih,im,mw];omega
def dC {w:World} {b:Nat} {l:List α} {f:α->List Value} (hf:∀a,(f a).length=b) (t:n=l.length) (h:w.ownsRow base e b v n (l.flatMap f)) {i:Nat} (m:i<l.length) :
 ∃g cap,v=.slice (some ⟨g,0,none⟩) n cap/\n<=cap/\g<w.heap.size/\base<=g/\∀k,k<b->w.cell? ⟨g,i*b+k,none⟩=(f l[i])[k]?/\w.frozen? ⟨g,i*b+k,none⟩=false:=by
 rcases h.2 with⟨_,h0⟩|⟨g,cap,r,rfl,q,d,j,s,u,o⟩
 ·omega
 refine⟨g,cap,rfl,j,block_lt d,q,λk p=>⟨?_,?_⟩⟩
 ·have c:i*b+k<n*b:=by
   have:(i+1)*b<=n*b:=m9 _ (by omega);rw[mw] at this;omega
  rw[<-vV f b hf l i m k p,<-o,vi,if_pos c];unfold World.cell?;rw[d];simp
 unfold World.frozen?;rw[d];simp
def ak {w:World} {b:Nat} {c:List Value} (h:w.ownsRow base e b v n c):∃a cap,v=.slice a n cap/\n<=cap/\(a=none->cap=0):=by
 rcases h.2 with⟨rfl,rfl⟩|⟨g,cap,f,rfl,_,_,d,_⟩
 ·exact⟨none,0,rfl,d' _,λ_=>rfl⟩
 exact⟨_,cap,rfl,d,λe=>by cases e⟩
end Go.Proofs.YtmnimbnojdndmaaGreatDoor
namespace Go.Cd
open Go.RowKit
variable {W:World} {k B n s:Nat} {a b:Array Value} {T e:TypeId} {v:Value} {ops:Array Oper} {F:List Oper->Prop}
structure Is (W:World) (k:Nat) (cs:Array Value) (T:TypeId):Prop where
 at_:W.heap[k]? = some (.cells cs T)
def Is.new (w:World) (a:Array Value) (T:TypeId):Is (w.alloc (.cells a T)) w.heap.size a T:=⟨heap_alloc_new _ _⟩
def Is.new' (w:World) (a:Array Value) (T:TypeId) (k:Nat) (h:k=w.heap.size):Is (w.alloc (.cells a T)) k a T:=by subst h;exact Is.new _ _ _
def Is.lt (h:Is W k a T):k<W.heap.size:=block_lt h.at_
def Is.cell (h:Is W k a T) (o:Nat):W.cell? ⟨k,o,none⟩=a[o]?:=by
 unfold World.cell?;rw[h.at_];rfl
def Is.at (h:Is W k a T) (o:Nat) {u:Value} (b:a[o]? = some u):W.cell? ⟨k,o,none⟩=some u:=(h.cell o).trans b
def Is.frozen (h:Is W k a T) (o:Nat):W.frozen? ⟨k,o,none⟩=false:=by
 unfold World.frozen?;rw[h.at_];simp
def Is.set (h:Is W k a T) (o:Nat) (u:Value):Is (W.setCell ⟨k,o,none⟩ u) k (a.setIfInBounds o u) T:=⟨heap_setCell_same W k o _ _ _ h.at_⟩
def Is.put (h:Is W k a T) {j o:Nat} (b:k≠j) (u:Value):Is (W.setCell ⟨j,o,none⟩ u) k a T:=⟨(jj _ _ _ _ (by simp only;omega)).trans h.at_⟩
def Is.nw {w w':World} (h:w'=w.alloc (.cells a T)):Is w' w.heap.size a T:=by rw[h];exact Is.new _ _ _
def Is.gd {w:World} {b:Nat} (k:Is w b a T) (o:Nat) (h:a[o]? = some v):∀g:Gr w.drew,g.tw.cell? ⟨b,o,none⟩=some v:=Gr.cell (ag w) (k.at o h)
def Is.mono {a:World} (h:Is W k b T) (c:Below W.heap.size W a):Is a k b T:=⟨(c.block k h.lt).trans h.at_⟩
def Is.grown {a:World} {row:Option Nat} (h:Is W k b T) (c:W.grownBy a row) (d:row≠some k):Is a k b T:=⟨(c.block k h.lt (λe=>d e.symm)).trans h.at_⟩
def Is.keep {b:World} {d:List Value} (h:Is W k a T) (g:W.ownsRow B e s v n d) (c:W.grownBy b v.ownBlock) (i:k<B):Is b k a T:=
 h.grown c (λf=>by have:=(g.lt k f).1;omega)
def Is.other {i:Array Value} {f:List Value} (h:Is W k i T) (j:W.ownsRow B e s v n f) (d:e≠T):v.ownBlock≠some k:=by
 intro a;rcases j.2 with⟨b,_⟩|⟨g,_,l,b,_,c,_⟩
 ·rw[b] at a;cases a
 rw[b] at a;cases a;rw[h.at_] at c;cases c;exact d rfl
def bX (W:World) (k o:Nat) (u:Value):W.grownBy (W.setCell ⟨k,o,none⟩ u) (some k):=
 ⟨rfl,rfl,rfl,by simp,λj _ a=>heap_setCell_other W ⟨k,o,none⟩ j u (λe=>a (by simp[e]))⟩
def bn {a:List Value} (b:W.ownsRow B e s v n a) (c:v.ownBlock≠some k) (o:Nat) (u:Value):(W.setCell ⟨k,o,none⟩ u).ownsRow B e s v n a:=
 b.kept (bX W k o u) (.inr c)
def aQ {a:List Value} (c:W.ownsRow B e s v n a) (d:k<B):v.ownBlock≠some k:=λb=>by have:=(c.lt k b).1;omega
def UR {a:List Value} (c:W.ownsRow B e s v n a) (d:W.heap.size<=k):v.ownBlock≠some k:=λb=>by have:=(c.lt k b).2;omega
def Is.low {a:World} (h:Is W k b T) (c:Below B W a) (d:k<B):Is a k b T:=⟨(c.block k d).trans h.at_⟩
def bC {P:Program} {C:World->Prop} {K:Act->Prop} {l:List Nat} {a:Act} (h:∃b,bu ops l=b/\wpQuiet P ops C K b a):wpQuiet P ops C K (bu ops l) a:=by
 obtain⟨b,rfl,h⟩:=h;exact h
def aZ {i:Nat} {o:Oper} {l:List Nat} (b:nth ops.toList i=some o) (h:∃a,bu ops l=a/\F (o::a)):∃a,bu ops (i::l)=a/\F a:=by
 obtain⟨a,rfl,h⟩:=h;exact⟨_,by simp[bu,fM b],h⟩
def bD (h:F []):∃a,bu ops []=a/\F a:=⟨[],rfl,h⟩
end Go.Cd
