/- One machine of an NFD counts as its units do, multiplied; no condition. -/
import Derived.Test.YtmnimbnojdndmaaGreatDoorR05
import Derived.Lib.Split
import Derived.Lib.Atoi
import Derived.Lib.QuietBelow
import Derived.Maps.AppendAt
set_option maxRecDepth 100000
set_option maxHeartbeats 6400000
set_option linter.all false
namespace Go.Cd
open Go.RowKit
variable {W:World} {k B n s:Nat} {a:Array Value} {T e:TypeId} {v:Value}
structure Is (W:World) (k:Nat) (cs:Array Value) (T:TypeId):Prop where
 at_:W.heap[k]? = some (.cells cs T)
def Is.new (w:World) (a:Array Value) (T:TypeId):Is (w.alloc (.cells a T)) w.heap.size a T:=⟨heap_alloc_new _ _⟩
def Is.new' (w:World) (a:Array Value) (T:TypeId) (k:Nat) (h:k=w.heap.size):Is (w.alloc (.cells a T)) k a T:=by subst h;exact Is.new _ _ _
def Is.lt (h:Is W k a T):k<W.heap.size:=block_lt h.at_
def Is.cell (h:Is W k a T) (o:Nat):W.cell? ⟨k,o,none⟩=a[o]?:=by
 unfold World.cell?;rw[h.at_];rfl
def Is.at (h:Is W k a T) (o:Nat) {u:Value} (b:a[o]? = some u):W.cell? ⟨k,o,none⟩=some u:=(h.cell o).trans b
def Is.frozen (h:Is W k a T) (o:Nat):W.frozen? ⟨k,o,none⟩=false:=by
 unfold World.frozen?;rw[h.at_];simp
def Is.set (h:Is W k a T) (o:Nat) (u:Value):Is (W.setCell ⟨k,o,none⟩ u) k (a.setIfInBounds o u) T:=⟨heap_setCell_same W k o _ _ _ h.at_⟩
def Is.put (h:Is W k a T) {j o:Nat} (b:k≠j) (u:Value):Is (W.setCell ⟨j,o,none⟩ u) k a T:=⟨(Below.heap_setCell _ _ _ _ (by simp only;omega)).trans h.at_⟩
def Is.nw {w w':World} (h:w'=w.alloc (.cells a T)):Is w' w.heap.size a T:=by rw[h];exact Is.new _ _ _
def Is.gd {w:World} {b:Nat} (k:Is w b a T) (o:Nat) (h:a[o]? = some v):∀g:Gr w.drew,g.tw.cell? ⟨b,o,none⟩=some v:=Gr.cell (ag w) (k.at o h)
def Is.mono {a:World} {b:Array Value} (h:Is W k b T) (c:Below W.heap.size W a):Is a k b T:=⟨(c.block k h.lt).trans h.at_⟩
def Is.grown {b:World} {row:Option Nat} (h:Is W k a T) (d:W.grownBy b row) (c:row≠some k):Is b k a T:=⟨(d.block k h.lt (λe=>c e.symm)).trans h.at_⟩
def Is.keep {a:World} {b:Array Value} {f:List Value} (h:Is W k b T) (g:W.ownsRow B e s v n f) (c:W.grownBy a v.ownBlock) (i:k<B):Is a k b T:=
 h.grown c (λd=>by have:=(g.lt k d).1;omega)
def Is.other {f:Array Value} {j:List Value} (h:Is W k f T) (l:W.ownsRow B e s v n j) (d:e≠T):v.ownBlock≠some k:=by
 intro a;rcases l.2 with⟨b,_⟩|⟨g,_,i,b,_,c,_⟩
 ·rw[b] at a;cases a
 rw[b] at a;cases a;rw[h.at_] at c;cases c;exact d rfl
def bX (W:World) (k o:Nat) (u:Value):W.grownBy (W.setCell ⟨k,o,none⟩ u) (some k):=
 ⟨rfl,rfl,rfl,by simp,λj _ a=>heap_setCell_other W ⟨k,o,none⟩ j u (λe=>a (by simp[e]))⟩
def bn {a:List Value} (c:W.ownsRow B e s v n a) (b:v.ownBlock≠some k) (o:Nat) (u:Value):(W.setCell ⟨k,o,none⟩ u).ownsRow B e s v n a:=
 c.kept (bX W k o u) (.inr b)
def aQ {a:List Value} (c:W.ownsRow B e s v n a) (d:k<B):v.ownBlock≠some k:=λb=>by have:=(c.lt k b).1;omega
def UR {a:List Value} (c:W.ownsRow B e s v n a) (d:W.heap.size<=k):v.ownBlock≠some k:=λb=>by have:=(c.lt k b).2;omega
def Is.low {b:World} (h:Is W k a T) (d:Below B W b) (c:k<B):Is b k a T:=⟨(d.block k c).trans h.at_⟩
end Go.Cd
namespace Go.Proofs.YtmnimbnojdndmaaGreatDoor
open Go.RowKit Go.Cd _root_.Go.Proofs.Tryz
def EW (l:List UInt8) (i:Nat) (h:i<(tx l).size):(tx l)[i]'h=l[i]'(by rwa [aX] at h):=by
 show(tx l).data[i]=_;simp[tx]
def UT (c:Nat) (a:c<1114112) (r:List UInt8) (h):((tx (lD c++r))[0]'h).toNat=JH (fH c) c:=by
 rw[EW,List.getElem_append_left (by rw[jK];have:=(oU c).1;omega)];unfold lD;rw[List.getElem_map,toNat_ofNat (GI a _ (List.getElem_mem _))];have:(fI c).length=fH c:=A9 c;have key:(fI c)[0]? = some (JH (fH c) c):=by
  unfold fI JH fH
  split
  ·simp
  split
  ·simp
  split
  ·simp
  simp
 exact Option.some.inj ((List.getElem?_eq_getElem _).symm.trans key)
def UU (c:Nat) (f:c<1114112) (r:List UInt8) (i:Nat) (g:1<=i) (a:i<fH c) (h):((tx (lD c++r))[i]'h).toNat=128+c / 64 ^ (fH c-1-i) % 64:=by
 rw[EW,List.getElem_append_left (by rw[jK];exact a)];unfold lD;rw[List.getElem_map,toNat_ofNat (GI f _ (List.getElem_mem _))];have key:(fI c)[i]? = some (128+c / 64 ^ (fH c-1-i) % 64):=by
  unfold fI;unfold fH at a⊢
  split at a
  ·omega
  rename_i e;rw[if_neg e,if_neg e]
  split at a
  ·rename_i b;obtain rfl:i=1:=by omega
   rw[if_pos b,if_pos b];simp
  rename_i b;rw[if_neg b,if_neg b]
  split at a
  ·rename_i d;rw[if_pos d,if_pos d];have:i=1\/i=2:=by omega
   rcases this with rfl|rfl <;> simp
  rename_i d;rw[if_neg d,if_neg d];have:i=1\/i=2\/i=3:=by omega
  rcases this with rfl|rfl|rfl <;> simp
 exact Option.some.inj ((List.getElem?_eq_getElem _).symm.trans key)
def Ns {w:World} (f:dB w) (c:Nat) (a:aP c) (r:List UInt8) :
 Calls prog 89 #[.string (tx (lD c++r))] w λe w'=>e=.returned (.tuple #[.int .i32 c,.int .i64 (fH c),.bool true])/\Below w.heap.size w w':=
 Nq f c (fH c) a rfl _ (by rw[aX,List.length_append,jK];omega) (UT c a.1 r) (λi d b=>UU c a.1 r i d b)
def Nt (a b:List UInt8) (n:Nat) (h:a.length=n):(tx (a++b)).extract n (n+b.length)=tx b:=by
 subst h;apply ByteArray.ext;rw[ByteArray.data_extract];apply Array.ext';simp[tx]
def ae3:Value->Nat
 | .string s=>s.size
 | _=>0
def vX {w:World} (H:dB w) (L:List Nat) (A:∀x∈L,aP x) (M:L.length<1000000) :
 Calls prog 57 #[.string (tx (dQ L))] w λe w'=>∃r,e=.returned (.tuple #[r,.int .i64 0])/\w'.ownsRow w.heap.size aN 1 r L.length (aM L)/\Below w.heap.size w w':=by
 have I:=aa H;have P:=aa A;obtain⟨n,t⟩:=ae L.length;rw[<-t] at M;have g:=aa t;have E:=aa (show ∀j,(tx (dQ (L.drop j))).size<=4000000 from λj=>by rw[aX];have:=qE (L.drop j);rw[List.length_drop] at this;omega);clear A t;go_enter func57,ntmps57;go_wp2_with fail;go_loopw [0,4] (λv J wr=>∃j:Nat,j<=n/\v=.string (tx (dQ (L.drop j)))/\wr.ownsRow w.heap.size aN 1 J j (aM (L.take j))/\Below w.heap.size w wr) (λv _ _=>ae3 v)
 case atStart=>exact⟨0,Nat.zero_le _,rfl,World.ownsRow_nil _ _ _ _,Below.refl _ _⟩
 case round=>
  obtain⟨j,T,rfl,c,p⟩:=hrel;obtain⟨V,C,rfl,_,_⟩:=ak c;by_cases F:j<n
  ·have b:j<L.length:=by have:=g.out;omega
   have o:=P.out _ (List.getElem_mem b);have B:dQ (L.drop j)=lD L[j]++dQ (L.drop (j+1)):=by rw[List.drop_eq_getElem_cons b,EE]
   have K:=aa (show L.take (j+1)=L.take j++[L[j]] from List.take_succ_eq_append_getElem b);have l:=E.out j;rw[B] at l⊢;have O:=I.out.mono p;generalize L[j]=x at *;have G:=(oU x).1;have D:=aa (λW (h:dB W)=>Ns h x o (dQ (L.drop (j+1))));have zs:=EU (s:=tx (lD x++dQ (L.drop (j+1)))) (by rw[aX,List.length_append,jK];omega);have m:(tx (lD x++dQ (L.drop (j+1)))).size=fH x+(dQ (L.drop (j+1))).length:=by rw[aX,List.length_append,jK]
   generalize d:fH x=wx at *;have N:=o.1;have f:=aa (Nt (lD x) (dQ (L.drop (j+1))) wx (d▸jK x));have u:=aa c;clear c o B d;go_wp2_with fail;refine(D.out _ O).mono ?_;rintro e S⟨rfl,y⟩;have i:=af p y;have k:=aa (aH u.out y);go_wp2_with (at_builtin;refine f_ rfl _ _ 35 rfl w.heap.size aN _ 4 bW _ j _ rfl k.out _ rfl rfl (by omega) (by unfold maxLen;omega) w i (Nat.le_refl _) ?_;intro v' U a q _ _;obtain⟨R,Q,rfl,_,_⟩:=ak a);go_roundw
   case rel=>exact⟨j+1,by omega,by rw[f.out],by rw[K.out,a_];exact a,q⟩
   case measure=>
    rw[f.out];show(tx (dQ (L.drop (j+1)))).size<(tx (lD x++dQ (L.drop (j+1)))).size;rw[m,aX];omega
  obtain rfl:n=j:=by omega
  have z:tx (dQ (L.drop n))=⟨#[]⟩:=by rw[List.drop_of_length_le (by rw[g.out];exact Nat.le_refl _)];rfl
  rw[z];have zs:(⟨#[]⟩:ByteArray).toList.isEmpty=true:=by rw[ByteArray.toList_eq];rfl
  rw[List.take_of_length_le (by rw[g.out];exact Nat.le_refl _)] at c;have u:=aa c;clear c z;go_wp2;go_ret2;exact⟨_,rfl,by rw[<-g.out];exact u.out,p⟩
end Go.Proofs.YtmnimbnojdndmaaGreatDoor
namespace Go.Cd
def lJ (d:Nat):UInt8:=if d<10 then UInt8.ofNat (48+d) else UInt8.ofNat (55+d)
def jw:Nat->Nat->List UInt8
 | 0,_=>[]
 | k+1,n=>jw k (n / 16)++[lJ (n % 16)]
def j6 (n:Nat):Nat:=if n<65536 then 4 else if n<1048576 then 5 else 6
def aV (n:Nat):List UInt8:=jw (j6 n) n
theorem qH:∀(k n:Nat),(jw k n).length=k
 | 0,_=>rfl
 | k+1,n=>by unfold jw;rw [List.length_append,qH];rfl
theorem Rf (n:Nat):4<=j6 n∧j6 n<=6:=by
 unfold j6
 repeat' split
 all_goals decide
theorem bU (n:Nat):4<=(aV n).length∧(aV n).length<=6:=by unfold aV;rw [qH];exact Rf n
theorem UW:∀d,d<16->(lJ d).toNat=if d<10 then 48+d else 55+d:=by decide
def mD (v:Nat):List Nat->Nat
 | []=>v
 | d::l=>mD (v*16+d) l
theorem qI:∀(l m:List Nat) (v:Nat),mD v (l++m)=mD (mD v l) m
 | [],_,_=>rfl
 | d::l,m,v=>qI l m _
def g_:Nat->Nat->List Nat
 | 0,_=>[]
 | k+1,n=>g_ k (n / 16)++[n % 16]
theorem lK:∀(k n:Nat),jw k n=(g_ k n).map lJ
 | 0,_=>rfl
 | k+1,n=>by unfold jw g_;rw [List.map_append,lK k];rfl
theorem nZ:∀(k n:Nat),∀d∈g_ k n,d<16
 | 0,_=>by simp [g_]
 | k+1,n=>by
   intro d hd;unfold g_ at hd;rcases List.mem_append.1 hd with h|h
   ·exact nZ k _ d h
   ·rw [List.mem_singleton.1 h];omega
theorem xW:∀(k n:Nat),(g_ k n).length=k
 | 0,_=>rfl
 | k+1,n=>by unfold g_;rw [List.length_append,xW];rfl
theorem Bc:∀(k n:Nat),n<16 ^ k->mD 0 (g_ k n)=n
 | 0,n,h=>by simp at h;subst h;rfl
 | k+1,n,h=>by
   unfold g_;rw [qI,Bc k (n / 16) (by rw [Nat.pow_succ] at h;omega)];show (n / 16)*16+n % 16=n;omega
theorem uB:∀(k n:Nat),16 ^ k<=n->∀d,(g_ (k+1) n)[0]? = some d->n<16 ^ (k+1)->d≠0
 | 0,n,h,d,hd,hn=>by
   simp [g_] at hd;simp at hn h;omega
 | k+1,n,h,d,hd,hn=>by
   unfold g_ at hd;rw [List.getElem?_append_left (by rw [xW];omega)] at hd;refine uB k (n / 16) ?_ d hd ?_
   ·rw [Nat.pow_succ] at h;rw [Nat.le_div_iff_mul_le (by decide)];exact h
   ·rw [Nat.pow_succ] at hn;exact Nat.div_lt_of_lt_mul (by rw [Nat.mul_comm];exact hn)
theorem UX {n:Nat} (h:n<1114112):n<16 ^ j6 n:=by
 unfold j6
 repeat' split
 ·simpa using ‹n<65536›
 ·simpa using ‹n<1048576›
 ·have:(16:Nat) ^ 6=16777216:=by decide
  omega
theorem Rh {n:Nat} (h:n<1114112) (hl:4<(aV n).length):∀b,(aV n)[0]? = some b->b≠48:=by
 intro b hb;unfold aV at hl hb;rw [qH] at hl;rw [lK,List.getElem?_map] at hb;cases e:(g_ (j6 n) n)[0]? with
 | none=>rw [e] at hb;cases hb
 | some d=>
   rw [e] at hb;simp only [Option.map_some,Option.some.injEq] at hb;have h0:d≠0:=by
    unfold j6 at hl e
    split at hl
    ·omega
    ·split at hl
     ·rename_i h1 h2;rw [if_neg h1,if_pos h2] at e;exact uB 4 n (by simpa using h1) d e (by simpa using h2)
     ·rename_i h1 h2;rw [if_neg h1,if_neg h2] at e
      exact uB 5 n (by simpa using h2) d e (by have:(16:Nat) ^ 6=16777216:=by decide
                                               omega)
   have hd:d<16:=nZ _ _ d (List.mem_of_getElem? e);rintro rfl;have:=congrArg UInt8.toNat hb;rw [UW d hd] at this
   split at this <;> simp at this <;> omega
def iP (n:Nat):List UInt8:=
 if n<10 then [UInt8.ofNat (48+n)] else if n<100 then [UInt8.ofNat (48+n / 10),UInt8.ofNat (48+n % 10)]
 else [UInt8.ofNat (48+n / 100),UInt8.ofNat (48+n / 10 % 10),UInt8.ofNat (48+n % 10)]
def dD:List Nat->List UInt8
 | []=>[]
 | [c]=>aV c
 | c::d::l=>aV c++32::dD (d::l)
def ae5 (r:aG):List (List UInt8):=[aV r.code,[88],[],iP r.cls,[],dD r.map,[],[],[],[],[],[],[],[],[]]
def kD (r:aG):List UInt8:=aV r.code++[59,88,59,59]++iP r.cls++[59,59]++dD r.map++[59,59,59,59,59,59,59,59,59]
def bA (l:List (List UInt8)):List UInt8:=l.flatMap fun x=>x++[10]
def iV (T:List aG):List UInt8:=bA (T.map kD)
def dW:List Nat->List Nat->List Nat
 | _,[]=>[]
 | seen,c::l=>if c∈seen then dW (seen++[c]) l else c::dW (seen++[c]) l
def eP (X:List Nat):List UInt8:=bA ((dW [] X).map aV)
def eH (b:UInt8):Prop:=32<=b.toNat∧b.toNat<=126
theorem Nu:∀d,d<16->eH (lJ d)∧lJ d≠59∧lJ d≠32∧lJ d≠35∧lJ d≠60:=by unfold eH;decide
theorem dX (n:Nat):∀b∈aV n,eH b∧b≠59∧b≠32∧b≠35∧b≠60:=by
 intro b hb;unfold aV at hb;rw [lK] at hb;obtain ⟨d,hd,rfl⟩:=List.mem_map.1 hb;exact Nu d (nZ _ _ d hd)
theorem xX:∀d,d<10->eH (UInt8.ofNat (48+d))∧UInt8.ofNat (48+d)≠59:=by unfold eH;decide
theorem Nv {n:Nat} (h:n<1000):∀b∈iP n,eH b∧b≠59:=by
 intro b hb;unfold iP at hb
 repeat' split at hb
 all_goals simp only [List.mem_cons,List.not_mem_nil,or_false] at hb
 ·rw [hb];exact xX _ (by omega)
 ·rcases hb with rfl|rfl <;> exact xX _ (by omega)
 ·rcases hb with rfl|rfl|rfl <;> exact xX _ (by omega)
theorem Bd:∀(l:List Nat),∀b∈dD l,eH b∧b≠59
 | [],b,h=>by simp [dD] at h
 | [c],b,h=>⟨(dX c b h).1,(dX c b h).2.1⟩
 | c::d::l,b,h=>by
   unfold dD at h;rcases List.mem_append.1 h with h|h
   ·exact ⟨(dX c b h).1,(dX c b h).2.1⟩
   ·rcases List.mem_cons.1 h with rfl|h
    ·unfold eH;decide
    ·exact Bd (d::l) b h
theorem vY (n:Nat):1<=(iP n).length∧(iP n).length<=3:=by
 unfold iP
 repeat' split
 all_goals simp
theorem n_ {l:List Nat} (h:l.length<=2):(dD l).length<=13:=by
 match l,h with
 | [],_=>simp [dD]
 | [c],_=>have:=bU c;simp only [dD];omega
 | [c,d],_=>have:=bU c;have:=bU d;simp only [dD,List.length_append,List.length_cons];omega
theorem EY {r:aG} (h:r.map.length<=2):(kD r).length<=37:=by
 have h1:=bU r.code;have h2:=vY r.cls;have h3:=n_ h;unfold kD;simp only [List.length_append,List.length_cons,List.length_nil];omega
end Go.Cd
namespace Go.Cd
open Go.Lib
def uC (c:UInt8):∀(p r:List UInt8),c∉p->index (p++c::r) [c]=p.length
 | [],r,_=>by
   show index (c::r) [c]=0;unfold index;rw[if_pos (by simp[List.isPrefixOf])]
 | b::p,r,h=>by
   have e:=uC c p r (λa=>h (by simp[a]));show index (b::(p++c::r)) [c]=_;unfold index;have d:c≠b:=λa=>h (by simp[a]);rw[if_neg (by simp[List.isPrefixOf,d]),e];rw[if_neg (by simp)];simp
def mW (c:UInt8):∀(p:List UInt8),c∉p->index p [c]=-1
 | [],_=>rfl
 | b::p,h=>by
   have e:=mW c p (λa=>h (by simp[a]));unfold index;have d:c≠b:=λa=>h (by simp[a]);rw[if_neg (by simp[List.isPrefixOf,d]),e];rfl
def bH (c:UInt8):List (List UInt8)->List UInt8
 | []=>[]
 | [p]=>p
 | p::q::l=>p++c::bH c (q::l)
def Be (c:UInt8):∀(l:List (List UInt8)),l≠[]->(∀p∈l,c∉p)->split (bH c l) [c]=l
 | [],h,_=>absurd rfl h
 | [p],_,h=>by
   have:=mW c p (h p (by simp));show splitK [c] 0 (count p [c]) p=[p];rw[count_miss this];rfl
 | p::q::l,_,h=>by
   have e:=Be c (q::l) (by simp) (λx d=>h x (by simp[d]));have b:=uC c p (bH c (q::l)) (h p (by simp));show splitK [c] 0 (count (p++c::bH c (q::l)) [c]) (p++c::bH c (q::l))=_;have hd:(p++c::bH c (q::l)).drop (p.length+1)=bH c (q::l):=by
    rw[show p++c::bH c (q::l)=(p++[c])++bH c (q::l) by simp,List.drop_left' (by simp)]
   rw[count_hit (by simp) b,Nat.add_comm 1];unfold splitK;rw[b,if_neg (by simp)];show(p++c::bH c (q::l)).take (p.length+0)::splitK [c] 0 _ ((p++c::bH c (q::l)).drop (p.length+1))=_;rw[List.take_left' (by simp)];simp only[List.length_singleton];rw[hd];have a:splitK [c] 0 (count (bH c (q::l)) [c]) (bH c (q::l))=q::l:=e;rw[a]
def Nw (r:aG):kD r=bH 59 (ae5 r):=by
 unfold kD ae5;simp[bH]
def rV:∀(l:List Nat),dD l=bH 32 (l.map aV)
 | []=>rfl
 | [c]=>rfl
 | c::d::l=>by
   show aV c++32::dD (d::l)=aV c++32::bH 32 (aV d::l.map aV);rw[rV (d::l)];rfl
def UY:List UInt8:=[48,49,50,51,52,53,54,55,56,57,65,66,67,68,69,70]
def Ac:∀d,d<16->indexByte UY (lJ d)=d:=by decide
def UZ (n:Nat):cut (aV n) [35]=(aV n,[],false):=by
 unfold cut;rw[mW 35 (aV n) (λh=>(dX n _ h).2.2.2.1 rfl)];rfl
def Ri:∀n,n<255->atoi (iP n)=some (n:Int):=by decide
end Go.Cd
namespace Go.Proofs.YtmnimbnojdndmaaGreatDoor
open Go.RowKit Go.Cd _root_.Go.Proofs.Tryz
def EZ (l:List Nat) (d:Nat):mD 0 (l++[d])=mD 0 l*16+d:=by rw[qI];rfl
def Qh:∀(l:List Nat) (v:Nat),(∀d∈l,d<16)->mD v l<(v+1)*16 ^ l.length
 | [],v,_=>by simp[mD]
 | d::l,v,h=>by
   have b:=Qh l (v*16+d) λx a=>h x (List.mem_cons_of_mem _ a);have:=h d (List.mem_cons_self ..);show mD (v*16+d) l<_;refine Nat.lt_of_lt_of_le b ?_;rw[List.length_cons,Nat.pow_succ,Nat.mul_comm (16 ^ l.length) 16,<-Nat.mul_assoc];exact Nat.mul_le_mul_right _ (by omega)
def toUInt8_toNat (b:UInt8):b.toNat.toUInt8=b:=by simp
def qJ {w:World} (c:Nat) (I:c<1114112) :
 Calls prog 188 #[.string (tx (aV c))] w λe w'=>e=.returned (.tuple #[.int .i32 c,.bool true])/\w'=w:=by
 obtain⟨s,g⟩:=ae (tx (aV c));obtain⟨a,k⟩:=ae (g_ (j6 c) c);have u:aV c=a.map lJ:=by rw[k];exact lK _ _
 have l:∀d∈a,d<16:=by rw[k];exact nZ _ _
 have o:mD 0 a=c:=by rw[k];exact Bc _ _ (UX I)
 obtain⟨n,y⟩:=ae a.length;have C:s.size=n:=by rw[g,aX,u,List.length_map,y]
 have R:4<=n/\n<=6:=by
  have:=bU c;rw[u,List.length_map,<-y] at this;exact this
 have m:0<s.size:=by omega
 have p:4<n->(s[0]'m).toNat≠48:=by
  intro G e;subst g;rw[EW] at e;have h:=Rh I (by rw[u,List.length_map,<-y];exact G) ((aV c)[0]'(by rwa [aX] at m)) (List.getElem?_eq_getElem _);apply h;rw[<-UInt8.toNat_inj];exact e
 have v:=aa (show ∀(W:World) (j:Nat) (t:j<s.size) (F:j<a.length),Calls prog 210 #[.string ⟨#[48,49,50,51,52,53,54,55,56,57,65,66,67,68,69,70]⟩,.int .u8 ((s[j]'t).toNat:Int)] W λe w'=>e=.returned (.int .i64 (a[j]:Nat))/\w'=W from λW j t F=>by
  have h:=Tryz.strings_IndexByte ⟨#[48,49,50,51,52,53,54,55,56,57,65,66,67,68,69,70]⟩ ((s[j]'t).toNat:Int) W;have r:(((s[j]'t).toNat:Int)).toNat.toUInt8=lJ a[j]:=by
   rw[Int.toNat_natCast,toUInt8_toNat];subst g;rw[EW];simp only[u,List.getElem_map]
  rw[r,show(⟨#[48,49,50,51,52,53,54,55,56,57,65,66,67,68,69,70]⟩:ByteArray).data.toList=UY from rfl,Ac _ (l _ (List.getElem_mem _))] at h
  exact h)
 have J:=aa (show ∀j,mD 0 (a.take j)<16777216 from λj=>by
  have:=Qh (a.take j) 0 λd hd=>l d (List.mem_of_mem_take hd);have S:(16:Nat) ^ (a.take j).length<=16 ^ 6:=Nat.pow_le_pow_right (by decide) (by rw[List.length_take];omega);have X:(16:Nat) ^ 6=16777216:=by decide
  omega)
 have z:=aa o;have K:=aa l;have A:=aa y;have U:=aa C;rw[<-g];clear g k u l o y;go_enter func188,ntmps188;by_cases G:4<n
 ·obtain⟨B,i⟩:∃B:Nat,B=(s[0]'m).toNat:=⟨_,rfl⟩;have T:((s[0]'m).toNat:Int)=(B:Int):=by rw[i]
  have O:((B:Int)==48)=false:=by have:=p G;rw[<-i] at this;simp;omega
  clear p i;go_wp2_with fail;go_loopw [4,27] (λnv q wr=>∃j:Nat,j<=n/\q=.int .i64 j/\nv=.int .i64 ((mD 0 (a.take j):Nat):Int)/\wr=w) (λ_ q _=>n-(intOf q).toNat)
  case atStart=>exact⟨0,Nat.zero_le _,rfl,rfl,(by first|rfl|trivial)⟩
  case round=>
   obtain⟨j,t,rfl,rfl,rfl⟩:=hrel;by_cases D:j<n
   ·have f:j<s.size:=by omega
    have b:j<a.length:=by have:=A.out;omega
    have x:=aa (λW=>v.out W j f b);have hd:=K.out _ (List.getElem_mem b);have E:=aa (show mD 0 (a.take (j+1))=mD 0 (a.take j)*16+a[j] by rw[List.take_succ_eq_append_getElem b,EZ]);have M:=J.out j;generalize a[j]=d at *;generalize mD 0 (a.take j)=V at *;obtain⟨B,i⟩:∃B:Nat,B=(s[j]'f).toNat:=⟨_,rfl⟩;rw[<-i] at x;have L:((s[j]'f).toNat:Int)=(B:Int):=by rw[i]
    clear i;go_wp2_with fail;refine(x.out _).mono ?_;rintro e N⟨rfl,rfl⟩;go_wp2;go_roundw
    case rel=>exact⟨j+1,by omega,rfl,by rw[E.out];simp,(by first|rfl|trivial)⟩
    case measure=>simp[intOf];omega
   have H:j=n:=by omega
   have r:mD 0 (a.take j)=c:=by rw[List.take_of_length_le (by rw[<-A.out];omega)];exact z.out
   have P:¬(1114111:Int)<(c:Int):=by omega
   have Q:¬(j:Int)<(n:Int):=by omega
   rw[r];clear r H;go_wp2;go_ret2;exact⟨rfl,rfl⟩
 clear p;go_wp2_with fail;go_loopw [4,27] (λnv q wr=>∃j:Nat,j<=n/\q=.int .i64 j/\nv=.int .i64 ((mD 0 (a.take j):Nat):Int)/\wr=w) (λ_ q _=>n-(intOf q).toNat)
 case atStart=>exact⟨0,Nat.zero_le _,rfl,rfl,(by first|rfl|trivial)⟩
 case round=>
  obtain⟨j,t,rfl,rfl,rfl⟩:=hrel;by_cases D:j<n
  ·have f:j<s.size:=by omega
   have b:j<a.length:=by have:=A.out;omega
   have x:=aa (λW=>v.out W j f b);have hd:=K.out _ (List.getElem_mem b);have E:=aa (show mD 0 (a.take (j+1))=mD 0 (a.take j)*16+a[j] by rw[List.take_succ_eq_append_getElem b,EZ]);have M:=J.out j;generalize a[j]=d at *;generalize mD 0 (a.take j)=V at *;obtain⟨B,i⟩:∃B:Nat,B=(s[j]'f).toNat:=⟨_,rfl⟩;rw[<-i] at x;have L:((s[j]'f).toNat:Int)=(B:Int):=by rw[i]
   clear i;go_wp2_with fail;refine(x.out _).mono ?_;rintro e N⟨rfl,rfl⟩;go_wp2;go_roundw
   case rel=>exact⟨j+1,by omega,rfl,by rw[E.out];simp,(by first|rfl|trivial)⟩
   case measure=>simp[intOf];omega
  have H:j=n:=by omega
  have r:mD 0 (a.take j)=c:=by rw[List.take_of_length_le (by rw[<-A.out];omega)];exact z.out
  have P:¬(1114111:Int)<(c:Int):=by omega
  have Q:¬(j:Int)<(n:Int):=by omega
  rw[r];clear r H;go_wp2;go_ret2;exact⟨rfl,rfl⟩
end Go.Proofs.YtmnimbnojdndmaaGreatDoor
namespace Go.Cd
section
open Go.Lib
def gz (nm:List UInt8) (r:aG):List (List UInt8):=[aV r.code,nm,[],iP r.cls,[],dD r.map,[],[],[],[],[],[],[],[],[]]
def eu (nm:List UInt8) (r:aG):List UInt8:=bH 59 (gz nm r)
def YY (r:aG):eu [88] r=kD r:=(Nw r).symm
def zg:List UInt8:=[44,32,70,105,114,115,116,62]
def Ny:List UInt8:=[44,32,76,97,115,116,62]
def U0:List (List UInt8):=[[60,72,97,110,103,117,108,32,83,121,108,108,97,98,108,101],
 [60,78,111,110,32,80,114,105,118,97,116,101,32,85,115,101,32,72,105,103,104,32,83,117,114,114,111,103,97,116,101],
 [60,80,114,105,118,97,116,101,32,85,115,101]]
inductive qg:List UInt8->List UInt8->List UInt8->Bool->Prop
 | row:qg [] [88] [] false
 | fst (b:List UInt8) (hb:b∈U0):qg [] (b++zg) (b++zg) true
 | lst (b:List UInt8) (hb:b∈U0):qg (b++zg) (b++Ny) [] true
def Bf:∀b∈U0,(b++zg≠[]/\b++Ny≠[]/\(b++zg).length<=60/\(b++Ny).length<=60/\(∀x∈b++zg,(32<=x.toNat/\x.toNat<=126)/\x≠59)/\∀x∈b++Ny,(32<=x.toNat/\x.toNat<=126)/\x≠59):=by decide
def qg.name {o nm o':List UInt8} {a:Bool} (h:qg o nm o' a):nm≠[]/\nm.length<=60/\∀x∈nm,eH x/\x≠59:=by
 cases h with
 | row=>refine⟨by simp,by simp,?_⟩;unfold eH;decide
 | fst b hb=>have:=Bf b hb;exact⟨this.1,this.2.2.1,this.2.2.2.2.1⟩
 | lst b hb=>have:=Bf b hb;exact⟨this.2.1,this.2.2.2.1,this.2.2.2.2.2⟩
def E8 (c:UInt8):∀l:List (List UInt8),(bH c l).length<=(l.map λp=>p.length+1).sum
 | []=>by simp[bH]
 | [p]=>by simp[bH]
 | p::q::l=>by
   have:=E8 c (q::l);show(p++c::bH c (q::l)).length<=_;rw[List.length_append,List.length_cons,List.map_cons,List.sum_cons];omega
def E9 {P:UInt8->Prop} {c:UInt8} (d:P c):∀{l:List (List UInt8)},(∀p∈l,∀b∈p,P b)->∀b∈bH c l,P b
 | [],_,b,a=>by simp[bH] at a
 | [p],h,b,a=>h p (by simp) b a
 | p::q::l,h,b,a=>by
   have a:b∈p++c::bH c (q::l):=a;rcases List.mem_append.1 a with a|a
   ·exact h p (by simp) b a
   rcases List.mem_cons.1 a with rfl|a
   ·exact d
   exact E9 d (l:=q::l) (λp e=>h p (by simp[e])) b a
section
variable {nm : List UInt8} {r : aG} (hn : nm.length <= 60 /\ ∀ x ∈ nm, eH x /\ x ≠ 59) (hc : r.cls < 255)
include hn hc
def Bh:∀p∈gz nm r,∀b∈p,eH b/\b≠59:=by
 intro p c b a;unfold gz at c;simp only[List.mem_cons,List.not_mem_nil,or_false] at c;rcases c with rfl|rfl|rfl|rfl|rfl|rfl|rfl|rfl|rfl|rfl|rfl|rfl|rfl|rfl|rfl
 ·exact⟨(dX _ b a).1,(dX _ b a).2.1⟩
 ·exact hn.2 b a
 ·simp at a
 ·exact Nv (by omega) b a
 ·simp at a
 ·exact Bd _ b a
 all_goals simp at a
def JM:∀b∈eu nm r,eH b:=E9 (by unfold eH;decide) λp c b a=>(Bh hn hc p c b a).1
def kU (a:r.map.length<=2):(eu nm r).length<=100:=by
 have _:=hc;have c:=bU r.code;have d:=vY r.cls;have b:=n_ a;have:=E8 59 (gz nm r);have h0:=hn.1;unfold eu;refine Nat.le_trans this ?_;simp only[gz,List.map_cons,List.map_nil,List.sum_cons,List.sum_nil,List.length_nil];omega
end
structure iE where
 nm:List UInt8
 r:aG
 op:List UInt8
 pl:Bool
def iE.t (l:iE):List UInt8:=eu l.nm l.r
def tL (r:aG):iE:=⟨[88],r,[],false⟩
def og (I:List iE):List aG:=(I.filter λl=>!l.pl).map (·.r)
def E_ (T:List aG):og (T.map tL)=T:=by
 unfold og;rw[List.filter_eq_self.2 (by intro l a;obtain⟨r,_,rfl⟩:=List.mem_map.1 a;rfl),List.map_map];exact List.map_id _
def Rj (T:List aG):(T.map tL).map iE.t=T.map kD:=by
 rw[List.map_map];exact List.map_congr_left λr _=>YY r
end
end Go.Cd
section
namespace Go.Cd
open Go.Lib
def Bi (c:UInt8):∀(l:List (List UInt8)),l≠[]->(∀p∈l,c∉p)->count (bH c l) [c]+1=l.length
 | [],h,_=>absurd rfl h
 | [p],_,h=>by
   have:=mW c p (h p (by simp));show count p [c]+1=1;rw[count_miss this]
 | p::q::l,_,h=>by
   have d:=Bi c (q::l) (by simp) (λx b=>h x (by simp[b]));have a:=uC c p (bH c (q::l)) (h p (by simp));have hd:(p++c::bH c (q::l)).drop (p.length+1)=bH c (q::l):=by
    rw[show p++c::bH c (q::l)=(p++[c])++bH c (q::l) by simp,List.drop_left' (by simp)]
   show count (p++c::bH c (q::l)) [c]+1=_;rw[count_hit (by simp) a];simp only[List.length_singleton];rw[hd,List.length_cons,<-d];omega
end Go.Cd
namespace Go.Proofs.YtmnimbnojdndmaaGreatDoor
open Go.RowKit Go.Cd Go.Sort
structure dL (w:World):Prop where
 ml:∃m,w.cell? ⟨1,0,none⟩=some (.int .i64 m)
 p10:Lib.TabIs Tryz.prog w "internal/strconv.uint64pow10" .u64 Lib.pow10Tab
 dbr:w.cell? ⟨9,15,none⟩=some (.int .u8 4)
def Nz {P:Program} {w w':World} {s:String} {k:IntKind} {zs:List Int} (h:Lib.TabIs P w s k zs) (a:Below w.heap.size w w'):Lib.TabIs P w' s k zs:=by
 unfold Lib.TabIs World.var? at *;cases e:P.globalNamed s with
 | none=>rw[e] at h;cases h
 | some g=>
   rw[e] at h;simp only[Option.bind_some] at h⊢;have b:g<w.heap.size:=by
    rcases Nat.lt_or_ge g w.heap.size with h1|h1
    ·exact h1
    rw[Array.getElem?_eq_none h1] at h;cases h
   rw[a.block g b];exact h
def dL.mono {w w':World} (h:dL w) (a:Below w.heap.size w w'):dL w':=
 ⟨by obtain⟨m,b⟩:=h.ml;exact⟨m,aB a b⟩,Nz h.p10 a,aB a h.dbr⟩
def JN (w:World) (e:TypeId) (s:ByteArray):Below w.heap.size w (Lib.bytesWorld w e s):=
 ⟨rfl,rfl,rfl,by rw[Lib.bytesWorld_size];omega,λk a=>Lib.bytesWorld_at_old w _ s k a⟩
def zo (w:World) (k:Nat) (os:Array Obj):Below w.heap.size w (grow (w.drewN k) os):=
 ⟨rfl,rfl,rfl,by show w.heap.size<=(w.heap++os).size;rw[Array.size_append];omega,λj a=>by
   show(w.heap++os)[j]? = _
   rw[Array.getElem?_append_left a]⟩
def Fa (n:Nat) (h:n<1000):Lib.itoa (n:Int)=iP n:=by
 unfold Lib.itoa iP;rw[if_neg (by omega),Int.toNat_natCast];by_cases a:n<10
 ·rw[if_pos a,Lib.decDigits_one a]
 rw[if_neg a];by_cases b:n<100
 ·rw[if_pos b,Lib.decDigits_two a b]
 rw[if_neg b,Lib.decDigits,dif_neg a,Lib.decDigits_two (by omega) (by omega)];rw[Nat.div_div_eq_div_mul];rfl
def dM (l:List UInt8):(tx l).data.toList=l:=by simp[tx]
def JO {w:World} (f:dL w) (c:Nat) (m:c<255) :
 Calls Tryz.prog 213 #[.string (tx (iP c)),.int .i64 254] w λe w'=>e=.returned (.tuple #[.int .i64 c,.bool true])/\Below w.heap.size w w':=by
 have i:=aa (Tryz.strconv_Atoi (tx (iP c)) c (by rw[aX];have:=(vY c).2;omega) (by rw[dM];exact Ri c m) w)
 have l:=aa (show ∀W,dL W->Calls Tryz.prog 159 #[.int .i64 c] W λe w'=>e=.returned (.string (tx (iP c)))/\∃k os,w'=grow (W.drewN k) os from λW h=>by
  have:=Tryz.strconv_Itoa c (by omega) (by omega) W h.p10;rw[Fa c (by omega)] at this
  exact this)
 have n:=aa f;generalize tx (iP c)=S at *;have o:¬(c:Int)<0:=by omega
 have p:¬(254:Int)<(c:Int):=by omega
 go_enter Tryz.func213,Tryz.ntmps213;go_wp2_with fail;refine i.out.mono ?_;rintro e a⟨rfl,t,rfl⟩;have d:=JN w 5 t;have g:=aa (n.out.mono d);generalize Lib.bytesWorld w 5 t=a at *;go_wp2_with fail;refine(l.out _ g.out).mono ?_;rintro e j⟨rfl,k,os,rfl⟩;have b:=zo a k os;generalize grow (a.drewN k) os=j at *;go_wp2;go_ret2;exact⟨rfl,af d b⟩
def DI {w:World} (q:dL w) (c:Nat) :
 Calls Tryz.prog 150 #[.string (tx (aV c))] w λe w'=>e=.returned (.string (tx (aV c)))/\Below w.heap.size w w':=by
 obtain⟨m,o⟩:=q.ml;have u:(tx (aV c)).size<=6:=by rw[aX];exact(bU c).2
 have r:=aa (show Calls Tryz.prog 186 #[.string (tx (aV c)),.string ⟨#[35]⟩] w λe w'=>e=.returned (.tuple #[.string (tx (aV c)),.string ⟨#[]⟩,.bool false])/\∃n,w'=w.drewN n from by
  have h:=Tryz.strings_Cut (tx (aV c)) ⟨#[35]⟩ m w (by omega) o;rw[dM,show(⟨#[35]⟩:ByteArray).data.toList=[35] from rfl,UZ] at h
  exact h)
 have p:=aa (show ∀W,Calls Tryz.prog 187 #[.string (tx (aV c)),.string ⟨#[32]⟩] W λe w'=>e=.returned (.string (tx (aV c)))/\(w'=W\/w'=W.drew) from λW=>by
  have h:=Tryz.strings_Trim_one (tx (aV c)) 32 (by decide) W (by omega);have s:Lib.trimB (aV c) 32=aV c:=by
   have i:∀b∈aV c,(b==(32:UInt8))=false:=λb g=>by
    have:=(dX c b g).2.2.1;simpa using this
   have d:∀l:List UInt8,(∀b∈l,(b==(32:UInt8))=false)->l.dropWhile (·==32)=l:=by
    intro l v;cases l with
    | nil=>rfl
    | cons a l=>rw[List.dropWhile_cons,if_neg];rw[v a (List.mem_cons_self ..)];decide
   unfold Lib.trimB Lib.trimLeftB Lib.trimRightB;rw[d (aV c).reverse (λb g=>i b (List.mem_reverse.1 g)),List.reverse_reverse,d _ i]
  rw[dM,s] at h
  exact h)
 generalize tx (aV c)=S at *;clear o u;go_enter Tryz.func150,Tryz.ntmps150;go_wp2_with fail;refine r.out.mono ?_;rintro e j⟨rfl,n,rfl⟩;have g:Below w.heap.size w (w.drewN n):=below_drewN (Below.refl _ _) n;generalize w.drewN n=j at *;go_wp2_with fail;refine(p.out _).mono ?_;rintro e t⟨rfl,f⟩;have k:Below j.heap.size j t:=by rcases f with rfl|rfl;exact Below.refl _ _;exact ag _
 clear f;go_wp2;go_ret;exact⟨rfl,af g k⟩
def tN {w:World} (k:dL w) (F:List (List UInt8)) (f:F.length=15) (b:∀p∈F,(59:UInt8)∉p) (o:(bH 59 F).length<=100) :
 Calls Tryz.prog 182 #[.string (tx (bH 59 F))] w λe w'=>e=.returned (.slice (some ⟨w.heap.size,0,none⟩) 15 15)/\w'=w.alloc (.cells (F.map λl=>Value.string (tx l)).toArray 9):=by
 obtain⟨m,h⟩:=k.ml;have c:F≠[]:=λe=>by rw[e] at f;cases f
 have n:(tx (bH 59 F)).size<=100:=by rw[aX];exact o
 have d:=Tryz.strings_Split (tx (bH 59 F)) ⟨#[59]⟩ m w (by omega) h (by decide);have a:Lib.countB (tx (bH 59 F)) ⟨#[59]⟩=Lib.count (bH 59 F) [59]:=by
  have:=dM (bH 59 F);unfold Lib.countB;simp only[this]
 have i:(Lib.splitB ⟨#[59]⟩ 0 (Lib.countB (tx (bH 59 F)) ⟨#[59]⟩) (tx (bH 59 F))).map (·.data.toList)=F:=by
  rw[Lib.splitB_data,dM,a];exact Be 59 F c b
 have j:Lib.splitB ⟨#[59]⟩ 0 (Lib.countB (tx (bH 59 F)) ⟨#[59]⟩) (tx (bH 59 F))=F.map tx:=by
  conv=>rhs;rw[<-i]
  rw[List.map_map];have:(tx ∘ λx:ByteArray=>x.data.toList)=id:=by
   funext x;apply ByteArray.ext;simp[tx]
  rw[this,List.map_id]
 have g:Lib.countB (tx (bH 59 F)) ⟨#[59]⟩+1=15:=by
  rw[a,<-f];exact Bi 59 F c b
 rw[j,g,List.map_map] at d;have d:=aa d;generalize tx (bH 59 F)=S at *;clear j i g a n h;go_enter Tryz.func182,Tryz.ntmps182;go_wp2_with fail;refine d.out.mono ?_;rintro e q⟨rfl,rfl⟩;go_wp2;go_ret;exact⟨rfl,rfl⟩
end Go.Proofs.YtmnimbnojdndmaaGreatDoor
end
section
namespace Go.Cd
open Go.Lib
def lL (c:UInt8):∀(p r:List UInt8),c∉p->indexByte (p++c::r) c=(p.length:Int)
 | [],r,_=>by simp[indexByte]
 | a::p,r,h=>by
   have d:=lL c p r (λx=>h (List.mem_cons_of_mem _ x));have b:(a==c)=false:=by
    have:c≠a:=λe=>h (by rw[e];exact List.mem_cons_self ..);simpa using λe=>this e.symm
   show(if (a==c)=true then (0:Int) else if (indexByte (p++c::r) c==-1)=true then -1 else indexByte (p++c::r) c+1)=_;rw[d,if_neg (by rw[b];decide),if_neg (by simp),List.length_cons];omega
def qh (c:UInt8):∀(p:List UInt8),c∉p->indexByte p c=-1
 | [],_=>rfl
 | a::p,h=>by
   have d:=qh c p (λx=>h (List.mem_cons_of_mem _ x));have b:(a==c)=false:=by
    have:c≠a:=λe=>h (by rw[e];exact List.mem_cons_self ..);simpa using λe=>this e.symm
   show(if (a==c)=true then (0:Int) else if (indexByte p c==-1)=true then -1 else indexByte p c+1)=_;rw[d,if_neg (by rw[b];decide)];rfl
def DJ (c:UInt8) (p:List UInt8) (l:List (List UInt8)):(bH c l).length<=(bH c (p::l)).length:=by
 cases l with
 | nil=>simp[bH]
 | cons q l=>simp only[bH,List.length_append,List.length_cons];omega
def tO (c:UInt8):∀(l:List (List UInt8)) (k:Nat),(bH c (l.drop k)).length<=(bH c l).length
 | l,0=>by simp
 | [],k+1=>by simp
 | p::l,k+1=>Nat.le_trans (tO c l k) (DJ c p l)
end Go.Cd
namespace Go.Proofs.YtmnimbnojdndmaaGreatDoor
open Go.RowKit Go.Cd Go.Shelf
attribute [local go_sem] Oper.semAt_some
def JP (a b:List UInt8):(tx (a++b)).extract 0 a.length=tx a:=by
 apply ByteArray.ext;rw[ByteArray.data_extract];apply Array.ext';simp[tx]
def vZ (W:World) (b:Nat):Nat:=match W.cell? ⟨b,0,none⟩ with
 | some (.string s)=>s.size
 | _=>0
def NA (m:Nat) (hm:1<=m) (o Bs u:Nat) (ad:o≠Bs) (T:u≠Bs) {α:Type} (c:List α) (O:c≠[]) (val:α->List UInt8) (P:∀y∈c,(32:UInt8)∉val y) (ag:(bH 32 (c.map val)).length<1000000)
 (w:World) (t:w.cell? ⟨o,0,none⟩=some (.string ⟨#[32]⟩)) (f:w.cell? ⟨Bs,0,none⟩=some (.string (tx (bH 32 (c.map val))))) (fs:w.frozen? ⟨Bs,0,none⟩=false) (s:w.cell? ⟨u,0,none⟩=some (.int .i64 0)) :
 GH Fence.wide m Tryz.prog 305 #[.pointer (some ⟨o,0,none⟩),.pointer (some ⟨Bs,0,none⟩),.pointer (some ⟨u,0,none⟩)] (λx=>#[.string (tx (val x))]) [o,Bs,u] Bs c w:=by
 intro l J W M hJ I h0;have t:=aB M t;have f:=aB M f;have s:=aB M s;refine callsIn_of_wp Tryz.func305 rfl trivial ?_ rfl;simp only[Tryz.ntmps305,List.size_toArray,List.length_cons,List.length_nil,Nat.reduceAdd,Nat.reduceSub,Array.replicate_succ,Array.replicate_zero,List.push_toArray,List.append_toArray,List.nil_append,List.cons_append];have i:W.frozen? ⟨Bs,0,none⟩=false:=(M.frozen (p:=⟨Bs,0,none⟩) (World.block_lt_of_cell? w ⟨Bs,0,none⟩ (by assumption))).trans fs
 gi_wp2_with fail
 gi_loopw [7] (λiv wr=>∃k:Nat,k<c.length/\J (c.take k) wr/\wr.cell? ⟨o,0,none⟩=some (.string ⟨#[32]⟩)/\wr.cell? ⟨Bs,0,none⟩=some (.string (tx (bH 32 ((c.drop k).map val))))/\wr.frozen? ⟨Bs,0,none⟩=false/\wr.cell? ⟨u,0,none⟩=some (.int .i64 0)) (λiv wr=>vZ wr Bs)
 case atStart=>exact⟨0,List.length_pos_iff.2 O,h0,t,f,i,s⟩
 case round=>
  clear t f s i h0;obtain⟨k,Q,Z,t,f,i,s⟩:=hrel;obtain⟨y,g⟩:=ae (c[k]);have F:y∈c:=by rw[g];exact List.getElem_mem Q
  have hd:c.drop k=y::c.drop (k+1):=by rw[g];exact List.drop_eq_getElem_cons Q
  have N:c.take (k+1)=c.take k++[y]:=by rw[g];exact List.take_succ_eq_append_getElem Q
  have h3:=P y F;by_cases V:k+1=c.length
  ·have D:c.drop (k+1)=[]:=List.drop_of_length_le (by omega);have n:c.take k++[y]=c:=by rw[<-N];exact List.take_of_length_le (by omega)
   rw[hd,D] at f
   replace f:wr.cell? ⟨Bs,0,none⟩=some (.string (tx (val y))):=f
   obtain⟨fn,tmps,assign,body,K,A⟩:=I (c.take k) y wr Z (by rw[List.length_take];omega)
   (try dsimp only at K)
   have L:=aa (show Calls Tryz.prog 269 #[.string (tx (val y)),.string ⟨#[32]⟩] wr λe w'=>e=.returned (.int .i64 (-1))/\w'=wr from by
    have h:=Tryz.strings_Index_one (tx (val y)) 32 wr;rw[dM,qh 32 _ h3] at h
    exact h)
   rw[n] at A;have U:=aa A;clear D n hd N A g hJ I
   gi_wp2_with (refine⟨trivial,?_⟩;gi_at_call 269;refine(callsIn_wide.2 L.out).mono ?_;rintro e w2⟨rfl,rfl⟩)
   refine U.out.mono ?_;rintro e H⟨rfl,j,_⟩
   gi_wp2
   refine bodyPost_end (results_none rfl _ _ _) rfl ?_;exact⟨⟨_,rfl⟩,j⟩
  obtain⟨z,r,G⟩:∃z r,c.drop (k+1)=z::r:=by
   cases e:c.drop (k+1) with
   | nil=>have:=congrArg List.length e;rw[List.length_drop] at this;simp at this;omega
   | cons z r=>exact⟨z,r,rfl⟩
  obtain⟨R,B⟩:=ae (bH 32 ((c.drop (k+1)).map val));have mX:bH 32 ((c.drop k).map val)=val y++32::R:=by rw[B,hd,G];rfl
  rw[mX] at f;obtain⟨fn,tmps,assign,body,K,A⟩:=I (c.take k) y wr Z (by rw[List.length_take];omega);rw[<-N] at A;have U:=aa A
  have L:=aa (show Calls Tryz.prog 269 #[.string (tx (val y++32::R)),.string ⟨#[32]⟩] wr λe w'=>e=.returned (.int .i64 ((val y).length:Nat))/\w'=wr from by
   have h:=Tryz.strings_Index_one (tx (val y++32::R)) 32 wr;rw[dM,lL 32 _ _ h3] at h
   exact h)
  have q:(tx (val y++32::R)).size=(val y).length+1+R.length:=by rw[aX,List.length_append,List.length_cons];omega
  have vH:=aa (show(tx (val y++32::R)).extract 0 (val y).length=tx (val y) from JP (val y) (32::R))
  have C:=aa (show(tx (val y++32::R)).extract ((val y).length+1) ((val y).length+1+R.length)=tx R from by
   have:=Nt (val y++[32]) R ((val y).length+1) (by simp)
   rwa [List.append_assoc] at this)
  have Y0:=aa B;obtain⟨v,X⟩:=ae ((val y).length);have HV:=aa X;rw[<-X] at L q vH C;have ah:v+1+R.length<1000000:=by
   have h1:=tO 32 (c.map val) k;rw[<-List.map_drop,mX,<-aX,q] at h1;omega
  clear G mX hd N A g I B X
  gi_wp2_with (refine⟨trivial,?_⟩;gi_at_call 269;refine(callsIn_wide.2 L.out).mono ?_;rintro e w2⟨rfl,rfl⟩)
  rw[vH.out,K]
  gi_wp2
  refine U.out.mono ?_;rintro e H⟨rfl,j,d⟩;have Y:=(d o (by simp)).1.trans t;have E:=(d Bs (by simp)).1.trans f;have af:=(d Bs (by simp)).2.trans i;have S:=(d u (by simp)).1.trans s;have ac:=aa f;clear t f i s K Z;have ab:=aa j;have ai:=aa d;clear j d
  gi_wp2
  rw[C.out];go_roundw
  case rel=>
   refine⟨k+1,by omega,hJ _ _ _ _ ab.out (bX H Bs 0 _) (λr e=>by cases e;rfl),?_,?_,?_,?_⟩
   ·exact(World.cell?_setCell_other H (a:=⟨Bs,0,none⟩) (b:=⟨o,0,none⟩) _ (λe=>ad (by injection e with e;exact e.symm))).trans Y
   ·rw[<-Y0.out];exact World.cell?_setCell_same' _ _ _ (by rw[E];rfl)
   ·rw[World.frozen?_setCell];exact af
   exact(World.cell?_setCell_other H (a:=⟨Bs,0,none⟩) (b:=⟨u,0,none⟩) _ (λe=>T (by injection e with e;exact e.symm))).trans S
  case measure=>
   have e1:vZ (H.setCell ⟨Bs,0,none⟩ (.string (tx R))) Bs=R.length:=by
    unfold vZ;rw[World.cell?_setCell_same' _ _ _ (by rw[E];rfl)];exact aX _
   rw[e1];unfold vZ;rw[ac.out];show R.length<(tx (val y++32::R)).size;rw[q];omega
end Go.Proofs.YtmnimbnojdndmaaGreatDoor
end
namespace Go.Proofs.YtmnimbnojdndmaaGreatDoor
section
open Go.RowKit Go.Cd Go.Shelf _root_.Go.Proofs.Tryz
attribute [local go_sem] Oper.semAt_some
def mY (p:List UInt8) (l:List (List UInt8)):bA (p::l)=p++10::bA l:=by simp[bA]
def qL:∀(l:List (List UInt8)) (k:Nat),(bA (l.drop k)).length<=(bA l).length
 | l,0=>by simp
 | [],k+1=>by simp
 | p::l,k+1=>by
   have:=qL l k;rw[mY,List.length_append,List.length_cons];simp only[List.drop_succ_cons];omega
def Y4 (m:Nat) (hm:1<=m) (Bs:Nat) {α:Type} (a:List α) (val:α->List UInt8) (O:∀y∈a,(10:UInt8)∉val y) (T:(bA (a.map val)).length<1000000)
 (w:World) (b:w.cell? ⟨Bs,0,none⟩=some (.string (tx (bA (a.map val))))) (fs:w.frozen? ⟨Bs,0,none⟩=false) :
 GH Fence.wide m prog 209 #[.pointer (some ⟨Bs,0,none⟩)] (λx=>#[.string (tx (val x++[10]))]) [Bs] Bs a w:=by
 intro l J W X Y P h0;have c:W.frozen? ⟨Bs,0,none⟩=false:=(X.frozen (p:=⟨Bs,0,none⟩) (World.block_lt_of_cell? w ⟨Bs,0,none⟩ b)).trans fs
 replace b:=aB X b
 refine callsIn_of_wp func209 rfl trivial ?_ rfl;simp only[ntmps209,List.size_toArray,List.length_cons,List.length_nil,Nat.reduceAdd,Nat.reduceSub,Array.replicate_succ,Array.replicate_zero,List.push_toArray,List.append_toArray,List.nil_append,List.cons_append]
 gi_wp2_with fail
 gi_loopw [4] (λiv wr=>∃k:Nat,k<=a.length/\J (a.take k) wr/\wr.cell? ⟨Bs,0,none⟩=some (.string (tx (bA ((a.drop k).map val))))/\wr.frozen? ⟨Bs,0,none⟩=false) (λiv wr=>vZ wr Bs)
 case atStart=>exact⟨0,Nat.zero_le _,h0,b,c⟩
 case round=>
  clear b c h0;obtain⟨k,hk,E,b,c⟩:=hrel;by_cases j:k=a.length
  ·have f:a.take k=a:=List.take_of_length_le (by omega);rw[List.drop_of_length_le (by omega)] at b
   replace b:wr.cell? ⟨Bs,0,none⟩=some (.string ⟨#[]⟩):=b
   rw[f] at E;have HJ:=aa E;clear E f j
   gi_wp2
   refine bodyPost_end (results_none rfl _ _ _) rfl ?_;exact⟨⟨_,rfl⟩,HJ.out⟩
  have s:k<a.length:=by omega
  obtain⟨y,d⟩:=ae (a[k]);have D:y∈a:=by rw[d];exact List.getElem_mem s
  have hd:a.drop k=y::a.drop (k+1):=by rw[d];exact List.drop_eq_getElem_cons s
  have Z:a.take (k+1)=a.take k++[y]:=by rw[d];exact List.take_succ_eq_append_getElem s
  have h3:=O y D;obtain⟨R,t⟩:=ae (bA ((a.drop (k+1)).map val));have K:bA ((a.drop k).map val)=val y++10::R:=by rw[t,hd,List.map_cons,mY]
  rw[K] at b
  have V:=aa (show Calls prog 210 #[.string (tx (val y++10::R)),.int .u8 10] wr λe w'=>e=.returned (.int .i64 ((val y).length:Nat))/\w'=wr from by
   have h:=Tryz.strings_IndexByte (tx (val y++10::R)) 10 wr;rw[dM,show((10:Int)).toNat.toUInt8=10 from rfl,lL 10 _ _ h3] at h
   exact h)
  have i:(tx (val y++10::R)).size=(val y).length+1+R.length:=by rw[aX,List.length_append,List.length_cons];omega
  have vH:=aa (show(tx (val y++10::R)).extract 0 ((val y).length+1)=tx (val y++[10]) from by
   have:=JP (val y++[10]) R;rw[List.append_assoc,List.length_append] at this
   exact this)
  have z:=aa (show(tx (val y++10::R)).extract ((val y).length+1) ((val y).length+1+R.length)=tx R from by
   have:=Nt (val y++[10]) R ((val y).length+1) (by simp)
   rwa [List.append_assoc] at this)
  have Y0:=aa t;obtain⟨v,S⟩:=ae ((val y).length);rw[<-S] at V i vH z;have ab:v+1+R.length<1000000:=by
   have h1:=qL (a.map val) k;rw[<-List.map_drop,K,<-aX,i] at h1;omega
  have Q:0<(tx (val y++10::R)).size:=by omega
  have F:=aa b;have L:=aa E;have I:=aa Z;have g1:=Gr.cell (ag wr) b;clear K hd Z d t S E
  gi_wp2_with (refine⟨trivial,?_⟩;gi_at_call 210;refine(callsIn_wide.2 V.out).mono ?_;rintro e u⟨rfl,rfl⟩)
  refine(wpIn_wide (n:=m)).2 ?_;refine aC #[true,true,true,true,true,true,true,true,true,false] 9 1 mixed ?_;refine ay [0,1,2,3,4,5,6,7,8] 0 ?_
  iterate 9 (refine aA rfl ?_;go_big_quiet_step (rfl))
  refine az ?_;refine aJ [9] ?_;refine tail_cons rfl ?_;go_wp2_with fail;refine tail_nil ?_;rw[vH.out,z.out];have G:J (a.take k) (u.setCell ⟨Bs,0,none⟩ (.string (tx R))).drew:=Y _ _ _ none (Y _ _ _ _ L.out (bX u Bs 0 _) (λr e=>by cases e;rfl)) ⟨rfl,rfl,rfl,Nat.le_refl _,λ_ _ _=>rfl⟩ (λr e=>by cases e);obtain⟨fn,tmps,assign,body,U,H⟩:=P (a.take k) y _ G (by rw[List.length_take];omega);rw[<-I.out] at H;have q:(u.setCell ⟨Bs,0,none⟩ (.string (tx R))).drew.cell? ⟨Bs,0,none⟩=some (.string (tx R)):=World.cell?_setCell_same' _ _ _ (by rw[F.out];rfl);have o:(u.setCell ⟨Bs,0,none⟩ (.string (tx R))).drew.frozen? ⟨Bs,0,none⟩=false:=(World.frozen?_setCell ..).trans c;obtain⟨Ws,B⟩:=ae ((u.setCell ⟨Bs,0,none⟩ (.string (tx R))).drew);rw[<-B] at U H q o⊢;have HR:=aa H;have YT:=aa (show vZ u Bs=v+1+R.length from by unfold vZ;rw[F.out];exact i);clear B G H P g1 b c
  gi_wp2
  refine HR.out.mono ?_;rintro e W3⟨rfl,C,g⟩;have A:=(g Bs (by simp)).1.trans q;have N:=(g Bs (by simp)).2.trans o;have M:=aa C;clear g C q o U
  gi_wp2
  go_roundw
  case rel=>exact⟨k+1,by omega,M.out,by rw[<-Y0.out];exact A,N⟩
  case measure=>
   have e1:vZ W3 Bs=R.length:=by unfold vZ;rw[A];exact aX _
   rw[e1,YT.out];omega
def U1 (s:ByteArray) (w:World) :
 Calls prog 179 #[.string s] w λe w'=>e=.returned (.func (.func 209) #[] #[.pointer (some ⟨w.heap.size,0,none⟩)])/\w'=w.alloc (.cells #[.string s] 9):=by
 go_enter func179,ntmps179;go_wp2;go_ret;exact⟨rfl,rfl⟩
def JQ (s p:ByteArray) (w:World) :
 Calls prog 293 #[.string s,.string p,.int .i64 0] w λe w'=>e=.returned (.func (.func 305) #[] #[.pointer (some ⟨w.heap.size+1,0,none⟩),.pointer (some ⟨w.heap.size,0,none⟩),.pointer (some ⟨w.heap.size+2,0,none⟩)])/\w'=((w.alloc (.cells #[.string s] 9)).alloc (.cells #[.string p] 9)).alloc (.cells #[.int .i64 0] 3):=by
 go_enter func293,ntmps293;go_wp2;go_ret;exact⟨rfl,rfl⟩
def GQ (s p:ByteArray) (w:World) :
 Calls prog 272 #[.string s,.string p] w λe w'=>e=.returned (.func (.func 305) #[] #[.pointer (some ⟨w.heap.size+1,0,none⟩),.pointer (some ⟨w.heap.size,0,none⟩),.pointer (some ⟨w.heap.size+2,0,none⟩)])/\w'=((w.alloc (.cells #[.string s] 9)).alloc (.cells #[.string p] 9)).alloc (.cells #[.int .i64 0] 3):=by
 have a:=aa (JQ s p w);go_enter func272,ntmps272;go_wp2_with fail;refine a.out.mono ?_;rintro e b⟨rfl,rfl⟩;go_wp2;go_ret;exact⟨rfl,rfl⟩
end
open Go.RowKit Go.Cd Go.Shelf
variable {α:Type} {p q base a n:Nat} {A B:World} {e:TypeId} {v:Value} {row:Option Nat}
def mE (el:Nat->α) (n k:Nat):List α:=(List.range k).map λt=>el (n-1-t)
def kW (a:Nat->α) (n k:Nat):mE a n (k+1)=mE a n k++[a (n-1-k)]:=by simp[mE,List.range_succ]
def zu (a:Nat->α) (n k:Nat):(mE a n k).length=k:=by simp[mE]
def lM (p q:Nat) (A B:World):Prop:=B.heap[p]? = A.heap[p]?/\B.heap[q]? = A.heap[q]?
def lM.refl (p q:Nat) (A:World):lM p q A A:=⟨rfl,rfl⟩
def lM.trans {C:World} (h:lM p q A B) (k:lM p q B C):lM p q A C:=⟨k.1.trans h.1,k.2.trans h.2⟩
def lM.cellP (h:lM p q A B) (o:Nat):B.cell? ⟨p,o,none⟩=A.cell? ⟨p,o,none⟩:=World.cell?_of_block h.1
def lM.ae8 (h:lM p q A B) (o:Nat):B.cell? ⟨q,o,none⟩=A.cell? ⟨q,o,none⟩:=World.cell?_of_block h.2
def iW {P:Program} {f:FuncId} {a:Func} {c:Code} {args:Array Value} {w:World} {R:Ending->World->Prop} (hf:P.funcs[f]? = some a) (b:a.body=some c)
 (h:c.wp P (bodyPostM Fence.wide 5 P a R) { tmps:=args++Array.replicate (a.ntmps-args.size) undef,defers:=[] } w):Calls P f args w R:=
 (callsIn_wide (n:=5)).1 (callsIn_of_wp_marks hf b trivial (wpIn_wide.2 h) rfl)
def own_ne {W:World} {l:List Value} (h:W.ownsRow base e a v n l) {k:Nat} {i:Array Value} {T:TypeId} {g:Nat×Nat} (f:W.heap[k]? = some (.cells i T g)) (d:T≠e):v.ownBlock≠some k:=by
 intro b;rcases h.2 with⟨h,_⟩|⟨m,_,j,h,_,c,_⟩
 ·rw[h] at b;cases b
 rw[h] at b;cases b;rw[f] at c;cases c;exact d rfl
def oh (d:A.grownBy B row) (g:∀r,row=some r->∃o:Obj,A.heap[r]? = some o/\o.isCells=false) {k:Nat} {b:Array Value} {T:TypeId} {a:Nat×Nat} (h:A.heap[k]? = some (.cells b T a)):B.heap[k]? = some (.cells b T a):=by
 refine(d.block k (block_lt h) (λe=>?_)).trans h;obtain⟨o,c,f⟩:=g k e.symm;rw[h] at c;cases c;cases f
def U2 (f:A.grownBy B row) (m:∀r,row=some r->∃o:Obj,A.heap[r]? = some o/\o.isCells=false) {c:List Value} (h:A.ownsRow base e a v n c):B.ownsRow base e a v n c:=by
 obtain⟨k,d⟩:=h;refine⟨k,d.imp id ?_⟩;rintro⟨g,cap,b,i,j,l,r⟩;exact⟨g,cap,b,i,j,oh f m l,r⟩
def oo {w:World} {b:Nat} {d:List Value} (h:w.ownsRow base e b v n d) (k:a<=base):w.ownsRow a e b v n d:=by
 obtain⟨l,f⟩:=h;refine⟨l,f.imp id ?_⟩;rintro⟨g,cap,c,j,i,r⟩;exact⟨g,cap,c,j,Nat.le_trans k i,r⟩
end Go.Proofs.YtmnimbnojdndmaaGreatDoor
section
namespace Go.Cd
open Go.RowKit
variable {W A B:World} {n Bs L:Nat} {row:Option Nat}
def U3 {F:Fence} {y:Nat} {P:Program} {W:World} {ops:Array Oper} {rest:List Oper} {o:Oper} {a:Act} {Q:Exit->Act->World->Prop} (q:o.guard=none) (s x:Operand) (t:TypeId)
 (M:o.op=.call { callee:=.builtin .append,args:=#[s,x],argTypes:=#[t,t] })
 (base:Nat) (e:TypeId) (z:Value) (b:Nat) (G:Elem P t e z b)
 (v:Value) (n:Nat) (m:List Value) (J:a.eval s=v) (d:W.ownsRow base e 1 v n m)
 (u:Value) (E:a.eval x=.slice (some ⟨W.heap.size,0,none⟩) 1 1) (L:u.oneCell'=true)
 (c:(n+1)*b<=140737488355328) (l:n+1<=maxLen) (g:World) (A:Below base g W) (p:base<=g.heap.size)
 (h:∀v' w',w'.ownsRow base e 1 v' (n+1) (m++[u])->Below base g w'->(W.alloc (.cells #[u] e)).grownBy w' v.ownBlock->wpListIn F y P ops Q rest (a.put o.dst v') w'):wpListIn F y P ops Q (o::rest) a (W.alloc (.cells #[u] e)):=by
 have:=A.size;obtain⟨r,K,i,I,H,f,j⟩:=G;refine wpListIn_append_own _ q s x t M base e i z 1 b K I H f j (kG r) (by decide) v n m J (d.alloc _) ⟨W.heap.size,0,none⟩ 1 1 [u] E (by simp) (cell_one_new _ _ _) (by simpa using L) l c (by simp;omega) ?_;intro v' w' B w _;refine h v' w' B ((A.alloc (by omega) _).grown w (by simp;omega) ?_) w;intro k D;exact(d.lt k D).1
def NB {P:Program} {f:FuncId} {args:Array Value} {w:World} {R:Ending->World->Prop} (l:Nat) (h:Calls P f args w R):CallsIn (Fence.wide.inRound l) n P f args w R:=(callsIn_wide (n:=n)).2 h
def Bj (Bs L:Nat) (A:World) (row:Option Nat):Prop:=∀r,row=some r->r=Bs\/(L<=r/\∃o:Obj,A.heap[r]? = some o/\o.isCells=false)
def Is.turn {k:Nat} {a:Array Value} {T:TypeId} (h:Is A k a T) (c:A.grownBy B row) (i:Bj Bs L A row) (d:k≠Bs):Is B k a T:=
 h.grown c λe=>by
  rcases i k e with f|⟨_,o,b,g⟩
  ·exact d f
  rw[h.at_] at b;cases b;cases g
def JR {base a:Nat} {e:TypeId} {v:Value} {c:List Value} (h:A.ownsRow base e a v n c) (f:A.grownBy B row) (i:Bj Bs L A row) (p:Bs<base):B.ownsRow base e a v n c:=by
 refine h.kept f ?_;rcases h.2 with⟨rfl,_⟩|⟨g,cap,m,rfl,j,b,_⟩
 ·exact .inl rfl
 refine .inr λk=>?_;rcases i g (by simpa [Value.ownBlock] using k.symm) with q|⟨_,o,d,l⟩
 ·omega
 rw[b] at d;cases d;cases l
def Bn {w:World} {m:Nat} (h:Below m w A) (a:A.grownBy B row) (e:Bj Bs L A row) (g:m<=Bs) (f:m<=L) (d:m<=A.heap.size):Below m w B:=
 h.grown a d λk c=>by rcases e k c with b|⟨b,_⟩ <;> omega
def Is.putObj {k D:Nat} {b:Array Value} {T:TypeId} {o o':Obj} (h:Is W k b T) (a:W.heap[D]? = some o) (c:o.isCells=false):Is (W.putObj D o') k b T:=
 h.grown (grownBy_putObj' W D o') λe=>by cases e;rw[h.at_] at a;cases a;cases c
def v_ {c:World} {base a:Nat} {e:TypeId} {v:Value} {l:List Value} (h:W.ownsRow base e a v n l) (i:W.grownBy c v.ownBlock):KeepsOthers W c:=
 KeepsOthers.of_grownBy i λj o f d=>by
  rcases h.2 with⟨rfl,_⟩|⟨g,cap,k,rfl,_,b,_⟩
  ·simp[Value.ownBlock] at f
  obtain rfl:g=j:=by simpa [Value.ownBlock] using f
  rw[b] at d;cases d;rfl
end Go.Cd
namespace Go.Proofs.YtmnimbnojdndmaaGreatDoor
open Go.RowKit Go.Cd Go.Shelf
attribute [local go_sem] Oper.semAt_some
abbrev Ch:Type:={ c:Nat // c<1114112 }
def U4:∀(l:List Nat),(∀c∈l,c<1114112)->∃a:List Ch,a.map (·.1)=l
 | [],_=>⟨[],rfl⟩
 | c::l,h=>by
   obtain⟨a,e⟩:=U4 l λx b=>h x (List.mem_cons_of_mem _ b);exact⟨⟨c,h c (List.mem_cons_self ..)⟩::a,by rw[List.map_cons,e]⟩
def n_:∀(l:List Nat),(∀c∈l,c<1114112)->(dD l).length<=l.length*7
 | [],_=>by simp[dD]
 | [c],h=>by
   have:=(bU c).2;show(aV c).length<=_;simp;omega
 | c::d::l,h=>by
   have:=n_ (d::l) λx a=>h x (List.mem_cons_of_mem _ a);have:=(bU c).2;show(aV c++32::dD (d::l)).length<=_;simp only[List.length_append,List.length_cons] at *;omega
def DK {w:World} (l:List Nat) (h0:l≠[]) (hl:∀c∈l,c<1114112) (hn:l.length<1000) :
 Calls Tryz.prog 244 #[.string (tx (dD l))] w λe w'=>∃v,e=.returned (.tuple #[v,.bool true])/\w'.ownsRow w.heap.size aN 1 v l.length (aM l)/\Below w.heap.size w w':=by
 obtain⟨d,t⟩:=U4 l hl;have mX:dD l=bH 32 (d.map λy=>aV y.1):=by rw[rV,<-t,List.map_map];rfl
 have I:(bH 32 (d.map λy=>aV y.1)).length<1000000:=by
  rw[<-mX];have:=n_ l hl;omega
 have Q:d≠[]:=by rintro rfl;exact h0 (by rw[<-t];rfl)
 have ag:d.length<1000:=by rw[<-t,List.length_map] at hn;exact hn
 have T:∀y∈d,(32:UInt8)∉aV y.1:=λy _ h=>(dX y.1 _ h).2.2.1 rfl;rw[mX];have ac:=aa t;have V:=aa I;obtain⟨s,hs⟩:=ae (tx (bH 32 (d.map λy=>aV y.1)));rw[<-hs];have HS:=aa hs;clear t I mX hs h0 hl hn;have SQ:=aa (λW=>GQ s ⟨#[32]⟩ W);refine iW Tryz.func244 rfl ?_;simp only[Tryz.ntmps244,List.size_toArray,List.length_cons,List.length_nil,Nat.reduceAdd,Nat.reduceSub,Array.replicate_succ,Array.replicate_zero,List.push_toArray,List.append_toArray,List.nil_append,List.cons_append];go_wp2_with fail;obtain⟨g,f⟩:=ae (((w.alloc (.cells #[.slice none 0 0] 35)).alloc (.cells #[.bool false] 4)).alloc (.cells #[.slice none 0 0] 35));have S:g.heap.size=w.heap.size+3:=by rw[f];simp
 have R:Below w.heap.size w g:=by rw[f];exact(((Below.refl _ w).alloc (Nat.le_refl _) _).alloc (by simp) _).alloc (by simp;omega) _
 have Z:Is g w.heap.size #[.slice none 0 0] 35:=by rw[f];exact((Is.new w _ _).mono (ah _)).mono (ah _)
 have Y:Is g (w.heap.size+1) #[.bool false] 4:=by rw[f];exact(Is.new' _ _ _ _ (by simp)).mono (ah _)
 have k2:Is g (w.heap.size+2) #[.slice none 0 0] 35:=by rw[f];exact Is.new' _ _ _ _ (by simp)
 rw[<-f];refine(SQ.out _).mono ?_;rintro e q⟨rfl,i⟩;have G:Below g.heap.size g q:=by rw[i];exact(((Below.refl _ g).alloc (Nat.le_refl _) _).alloc (by simp) _).alloc (by simp;omega) _
 have ai:q.heap.size=g.heap.size+3:=by rw[i];simp
 have j0:Is q g.heap.size #[.string s] 9:=by rw[i];exact((Is.new g _ _).mono (ah _)).mono (ah _)
 have j1:Is q (g.heap.size+1) #[.string ⟨#[32]⟩] 9:=by rw[i];exact(Is.new' _ _ _ _ (by simp)).mono (ah _)
 have j2:Is q (g.heap.size+2) #[.int .i64 0] 3:=by rw[i];exact Is.new' _ _ _ _ (by simp)
 replace Z:=Z.mono G
 replace Y:=Y.mono G
 replace k2:=k2.mono G
 have ab:Below w.heap.size w q:=af R G;clear SQ i f R G;rw[S] at *;rw[show w.heap.size+3+1=w.heap.size+4 from rfl,show w.heap.size+3+2=w.heap.size+5 from rfl] at *;clear S g;have O:=NA 4 (by omega) (w.heap.size+4) (w.heap.size+3) (w.heap.size+5) (by omega) (by omega) d Q (λy:Ch=>aV y.1) T V.out q (j1.at 0 rfl) (by rw[<-HS.out];exact j0.at 0 rfl) (j0.frozen 0) (j2.at 0 rfl);clear j0 j1 j2 T Q;go_wp2_with fail;refine(wpIn_wide (n:=5)).1 ?_;refine nY (F:=Fence.wide) rfl (by omega) (gf:=305) (lb:=#[.pointer (some ⟨w.heap.size+4,0,none⟩),.pointer (some ⟨w.heap.size+3,0,none⟩),.pointer (some ⟨w.heap.size+5,0,none⟩)]) rfl trivial (enters_of Tryz.func305 (by kernel_rfl) rfl)
  O (by omega) (by intro b hb;simp at hb;omega) (λ_=>rfl)
  (λa W=>∃v,Is W (w.heap.size+2) #[v] 35/\W.ownsRow q.heap.size aN 1 v a.length (aM (a.map (·.1)))/\Is W w.heap.size #[.slice none 0 0] 35/\Is W (w.heap.size+1) #[.bool false] 4/\Below w.heap.size w W/\q.heap.size<=W.heap.size)
  ?hI ?h0 (λx=>{ tmps:=#[.string s,undef,.pointer (some ⟨w.heap.size,0,none⟩),.pointer (some ⟨w.heap.size+1,0,none⟩),.pointer (some ⟨w.heap.size+1+1,0,none⟩),.string (tx (aV x.1)),undef,undef,.string s,.func (.func 305) #[] #[.pointer (some ⟨w.heap.size+4,0,none⟩),.pointer (some ⟨w.heap.size+3,0,none⟩),.pointer (some ⟨w.heap.size+5,0,none⟩)],.string (tx (aV x.1)),undef,undef,undef,undef,undef,undef,undef,undef,undef,undef,undef,undef],defers:=[] }) ?assign ?body ?done
 case hI=>
  rintro a A B row⟨v,L,E,J,H,N,X⟩ M hr;have z:Bj (w.heap.size+3) q.heap.size A row:=hr;exact⟨v,L.turn M z (by omega),JR E M z (by omega),J.turn M z (by omega),H.turn M z (by omega),Bn N M z (by omega) (by omega) N.size,Nat.le_trans X M.size⟩
 case h0=>exact⟨_,k2,World.ownsRow_nil _ _ _ _,Z,Y,ab,Nat.le_refl _⟩
 case assign=>
  intro l x W K hK
  gi_wp2
  exact hK
 case body=>
  rintro l a x W⟨v,L,E,J,H,N,X⟩ ad;obtain⟨c,hc⟩:=x;have HX:=aa (qJ (w:=W) c hc);have e1:=L.at 0 rfl;obtain⟨r,C,rfl,_,_⟩:=ak E;obtain⟨m,hm⟩:=ae a.length;have Ja:m<1000:=by omega
  have e2:a.map (·.1)++[c]=(a++[(⟨c,hc⟩:Ch)]).map (·.1):=by simp
  have e3:m+1=(a++[(⟨c,hc⟩:Ch)]).length:=by simp[hm]
  have E2:=aa e2;have E3:=aa e3;rw[<-hm] at E e1 L;clear e2 e3 ad hm O
  gi_wp2_with (first
   | (refine⟨trivial,?_⟩;gi_at_call 188;refine(NB l HX.out).mono ?_;rintro e w3⟨rfl,rfl⟩)
   | (gi_at_builtin;refine U3 rfl _ _ 35 rfl q.heap.size aN _ 4 bW (.slice r m C) m _ rfl E (.int .i32 (c:Nat)) rfl rfl (by omega) (by unfold maxLen;omega) _ (Below.refl _ _) X ?_;intro v1 w4 o1 p U
      obtain⟨a1,c1,rfl,_,_⟩:=ak o1;have g1:=L.low p (by omega);have g3:=J.low p (by omega);have g4:=H.low p (by omega);have e4:=g1.at 0 rfl;have e5:=g1.frozen 0;have ho:=E.alloc (.cells #[.int .i32 (c:Nat)] aN);have hk:=v_ ho U
      clear U ho))
  refine⟨((KeepsOthers.alloc _ _).trans (hk.trans (KeepsOthers.setCell _ _ _))).from _,nX.of_block λb hb=>?_,_,g1.set 0 _,?_,g3.put (by omega) _,g4.put (by omega) _,aj (N.trans (p.mono (by omega))) (by omega),?_⟩
  ·simp at hb;rw[Below.heap_setCell _ _ _ _ (by simp only;omega)];exact p.block b (by omega)
  ·have:=bn o1 (Go.Cd.aQ o1 (k:=w.heap.size+1+1) (by omega)) 0 (.slice a1 (m+1) c1);rw[<-E3.out,<-E2.out,a_];exact this
  have:=p.size;simp only[World.size_setCell];omega
 case done=>
  rintro D W hD⟨v,L,E,J,H,N,X⟩ hK;have e0:=L.at 0 rfl;have e1:=J.at 0 rfl;have e2:=H.at 0 rfl;have e3:=J.frozen 0;have e4:=H.frozen 0;obtain⟨r,C,rfl,_,_⟩:=ak E;have f1:=λu=>(H.put (j:=w.heap.size) (o:=0) (by omega) u).at 0 rfl;have f2:=λu=>(H.put (j:=w.heap.size) (o:=0) (by omega) u).frozen 0;go_wp2;have n0:(Value.slice r d.length C).ownBlock≠some w.heap.size:=Go.Cd.aQ E (by omega);have n1:(Value.slice r d.length C).ownBlock≠some (w.heap.size+1):=Go.Cd.aQ E (by omega);have q2:=bn (bn E n0 0 (.slice r d.length C)) n1 0 (.bool true);have q3:=(J.set 0 (.slice r d.length C)).put (j:=w.heap.size+1) (o:=0) (by omega) (.bool true);have q4:=(H.put (j:=w.heap.size) (o:=0) (by omega) (.slice r d.length C)).set 0 (.bool true);have q5:=aj (off:=0) (u:=.bool true) (b:=w.heap.size+1) (aj (off:=0) (u:=.slice r d.length C) (b:=w.heap.size) N (Nat.le_refl _)) (by omega);have P:=(Below.heap_setCell (W.setCell ⟨w.heap.size,0,none⟩ (.slice r d.length C)) ⟨w.heap.size+1,0,none⟩ (.bool true) D (by simp only;omega)).trans ((Below.heap_setCell W ⟨w.heap.size,0,none⟩ (.slice r d.length C) D (by simp only;omega)).trans hK);have r3:=(q3.putObj (o':=.deferred none) P rfl).at 0 rfl;have r4:=(q4.putObj (o':=.deferred none) P rfl).at 0 rfl;refine⟨by simp,.inl ⟨_,_,rfl,run_takeDeferred P,?_⟩⟩;refine⟨.tuple #[.slice r d.length C,.bool true],by simp[results,Tryz.results244,go_sem,r3,r4],_,rfl,?_,?_⟩
  ·have:=ownsRow_putObj q2 (.deferred none) P rfl;rw[<-ac.out,List.length_map];exact aT this (by omega)
  exact q5.trans (belowK_b (w:=w) (Nat.le_refl _) _ D _ (.deferred none) (by omega) P rfl rfl)
end Go.Proofs.YtmnimbnojdndmaaGreatDoor
end
namespace Go.Proofs.YtmnimbnojdndmaaGreatDoor
open Go.RowKit Go.Cd _root_.Go.Proofs.Tryz
def DL {w:World} (l:List UInt8) (m:∀b∈l,eH b) (t:l.length<1000000) :
 Calls prog 181 #[.string (tx l)] w λe w'=>e=.returned (.bool true)/\w'=w:=by
 obtain⟨s,a⟩:=ae (tx l);have d:s.size=l.length:=by rw[a,aX]
 obtain⟨n,f⟩:=ae s.size
 have p:=aa (show ∀i (h:i<s.size),32<=(s[i]'h).toNat/\(s[i]'h).toNat<=126 from λi h=>by
  subst a;rw[EW]
  exact m _ (List.getElem_mem _))
 rw[<-a];have r:=aa f;have:n<1000000:=by omega
 clear m a t d;go_enter func181,ntmps181;go_wp2_with fail;rw[<-f];clear f;go_loopw [6] (λk wr=>∃j:Nat,j<=n/\k=.int .i64 j/\wr=w) (λk _=>n-(intOf k).toNat)
 case atStart=>exact⟨0,Nat.zero_le _,rfl,(by first|rfl|trivial)⟩
 case round=>
  obtain⟨j,A,rfl,rfl⟩:=hrel;by_cases q:j<n
  ·have c:j<s.size:=by have:=r.out;omega
   obtain⟨u,o⟩:=p.out j c;obtain⟨b,g⟩:∃b:Nat,b=(s[j]'c).toNat:=⟨_,rfl⟩;rw[<-g] at u o;have:((s[j]'c).toNat:Int)=(b:Int):=by rw[g]
   have:¬(b:Int)<32:=by omega
   have:¬(126:Int)<(b:Int):=by omega
   clear g;go_wp2;go_roundw
   case rel=>exact⟨j+1,by omega,rfl,(by first|rfl|trivial)⟩
   case measure=>simp[intOf];omega
  have:¬(j:Int)<(n:Int):=by omega
  go_wp2;go_ret;exact⟨rfl,rfl⟩
end Go.Proofs.YtmnimbnojdndmaaGreatDoor
