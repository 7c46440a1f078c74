/- One machine of an NFD counts as its units do, multiplied; no condition. -/
import Derived.Test.YtmnimbnojdndmaaGreatDoorR14
import Derived.Test.YtmnimbnojdndmaaGreatDoorR06
import Derived.Deep.Cut
import Derived.Deep.CutRange
import Derived.Deep.CutBlock
set_option maxRecDepth 100000
set_option maxHeartbeats 6400000
set_option linter.all false
namespace Go.Proofs.YtmnimbnojdndmaaGreatDoor
section
open Go.RowKit Go.Cd Go.Shelf _root_.Go.Proofs.Tryz
attribute [local go_sem] Oper.semAt_some
def acM (F:Fence) (m:Nat) (L:F.fn 168) (u:F.round=none) (P:1<=m) (l Bs b off n cap:Nat) (C:n<1099511627776) {α:Type} (g:Nat->α) (c:α->Array Value) (val:Nat->Int)
 (q:∀j,j<n->c (g j)=#[.int .i64 (j:Int),.int .i64 (val j)]) (J A:List α->World->Prop)
 (D:∀a x W,J a W->a.length<n->YieldAt F (m-1) prog l (c x) W λe f=>
   (e=.returned (.bool true)/\J (a++[x]) f/\lM Bs b W f)\/(e=.returned (.bool false)/\A (a++[x]) f))
 (W:World) (M:W.cell? ⟨Bs,0,none⟩=some (.slice (some ⟨b,off,none⟩) n cap)) (K:∀j,j<n->W.cell? ⟨b,off+j,none⟩=some (.int .i64 (val j))) (h0:J [] W) :
 CallsIn F m prog 168 #[.func (.yield l) #[] #[],.pointer (some ⟨Bs,0,none⟩)] W λe f=>(∃v,e=.returned v)/\
  ((∃z,z=mE g n n/\J z f)\/(∃a,(∃k,k<=n/\a=mE g n k)/\A a f)):=by
 refine callsIn_of_wp func168 rfl L ?_ u;simp only[ntmps168,List.size_toArray,List.length_cons,List.length_nil,Nat.reduceAdd,Nat.reduceSub,Array.replicate_succ,Array.replicate_zero,List.push_toArray,List.append_toArray,List.nil_append,List.cons_append]
 gi_wp2
 gi_loopw [3] (λi wr=>∃k:Nat,k<=n/\i=.int .i64 ((n:Int)-1-(k:Int))/\J (mE g n k) wr/\lM Bs b W wr)
  (λi _=>(intOf i+1).toNat)
 case atStart=>exact⟨0,Nat.zero_le _,by simp,h0,lM.refl _ _ _⟩
 case round=>
  obtain⟨k,O,rfl,s,d⟩:=hrel;have w:=(d.cellP 0).trans M;by_cases y:k<n
  ·obtain⟨i,B⟩:∃i:Nat,(n:Int)-1-(k:Int)=(i:Int):=⟨n-1-k,by omega⟩;have r:i<n:=by omega
   have h:n-1-k=i:=by omega
   have:=(d.ae8 (off+i)).trans (K i r);obtain⟨Q,tmps,assign,body,E,N⟩:=D _ (g i) wr s (by rw[zu];exact y);rw[q i r] at E;rw[B];clear B
   gi_wp2
   refine N.mono ?_;rintro e R (⟨rfl,t,p⟩|⟨rfl,o⟩)
   ·have:=(p.cellP 0).trans w
    gi_wp2
    go_roundw
    case rel=>exact⟨k+1,by omega,congrArg (Value.int .i64) (by omega),by rw[kW,h];exact t,d.trans p⟩
    case measure=>simp[intOf]
   gi_wp2
   refine bodyPost_ret (results_none rfl _ _ _) rfl ?_;exact⟨⟨_,rfl⟩,.inr ⟨_,⟨k+1,by omega,by rw[kW,h]⟩,o⟩⟩
  obtain rfl:k=n:=by omega
  have H:(k:Int)-1-(k:Int)=-1:=by omega
  rw[H]
  gi_wp2
  go_end0
  exact⟨⟨_,rfl⟩,.inl ⟨_,rfl,s⟩⟩
def Zz (F:Fence) (m:Nat) (d:F.fn 168) (b:F.round=none) (l Bs:Nat) (a:Option Addr) (cap:Nat) {α:Type} (J:List α->World->Prop) (W:World) (g:W.cell? ⟨Bs,0,none⟩=some (.slice a 0 cap)) (h0:J [] W) :
 CallsIn F m prog 168 #[.func (.yield l) #[] #[],.pointer (some ⟨Bs,0,none⟩)] W λe f=>(∃v,e=.returned v)/\J [] f:=by
 refine callsIn_of_wp func168 rfl d ?_ b;simp only[ntmps168,List.size_toArray,List.length_cons,List.length_nil,Nat.reduceAdd,Nat.reduceSub,Array.replicate_succ,Array.replicate_zero,List.push_toArray,List.append_toArray,List.nil_append,List.cons_append]
 gi_wp2
 gi_loopw [3] (λi wr=>i=.int .i64 (-1)/\J [] wr) (λ_ _=>0)
 case atStart=>exact⟨rfl,h0⟩
 case round=>
  obtain⟨rfl,c⟩:=hrel
  gi_wp2
  go_end0
  exact⟨⟨_,rfl⟩,c⟩
def Ht (v:Value) (w:World) (b:∃a n cap,v=.slice a n cap) :
 Calls prog 127 #[v] w λe w'=>e=.returned (.func (.func 168) #[] #[.pointer (some ⟨w.heap.size,0,none⟩)])/\w'=w.alloc (.cells #[v] 23):=by
 obtain⟨a,n,cap,rfl⟩:=b;go_enter func127,ntmps127;go_wp2;go_ret;exact⟨rfl,rfl⟩
def Cc (b:Nat) (W:World) (sv:Value) (n:Nat) (val:Nat->Int):Prop:=
 (n=0/\∃a cap,sv=.slice a 0 cap)\/∃off cap,sv=.slice (some ⟨b,off,none⟩) n cap/\b<W.heap.size/\∀j,j<n->W.cell? ⟨b,off+j,none⟩=some (.int .i64 (val j))
def Cc.below {b:Nat} {A B:World} (h:Below A.heap.size A B) {a:Value} {n:Nat} {val:Nat->Int}:Cc b A a n val->Cc b B a n val
 | .inl e=>.inl e
 | .inr ⟨off,cap,e,hb,hc⟩=>.inr ⟨off,cap,e,Nat.lt_of_lt_of_le hb h.size,λj c=>(h.cell (p:=⟨b,off+j,none⟩) hb).trans (hc j c)⟩
def Lb (F:Fence) (m:Nat) (t:F.fn 168) (g:F.round=none) (x:1<=m) (Bs b:Nat) (s:Value) (n:Nat) (h:n<1099511627776) {α:Type} (i:Nat->α) (c:α->Array Value) (val:Nat->Int)
 (f:∀j,j<n->c (i j)=#[.int .i64 (j:Int),.int .i64 (val j)]) (w:World) (C:Bs<w.heap.size) (A:w.cell? ⟨Bs,0,none⟩=some s) (hI:Cc b w s n val) :
 SeqStopsK F m prog 168 #[.pointer (some ⟨Bs,0,none⟩)] c (lM Bs b) (λy=>y=mE i n n) (λo=>∃k,k<=n/\o=mE i n k) n w:=λl J z W r _ _ u h0=>by
 have d:=(r.cell (p:=⟨Bs,0,none⟩) C).trans A;rcases hI.below r with⟨rfl,a,cap,rfl⟩|⟨off,cap,rfl,E,q⟩
 ·exact(Zz F m t g l Bs a cap J W d h0).mono λe D ⟨v,B⟩=>⟨v,.inl ⟨_,rfl,by simpa [mE] using B⟩⟩
 exact acM F m t g x l Bs b off n cap h i c val f J z u W d q h0
end
section
open Go.RowKit Go.Cd Go.Shelf
variable {n k:Nat} {W:World} {a b c:Value} {T:TypeId} {bs:List Nat}
attribute [local go_sem] Oper.semAt_some
def ZA {P:Program} {ops:Array Oper} {md:Region.Mode} {head:Array Bool} {Q:Exit->Act->World->Prop} {T:Array Bool->Act->World->Prop} (i k:Nat) {o u:Oper} {b:Array Bool} {a:Act} {w:World}
 (h:∀w',Below w.heap.size w w'->wpList P ops (QE Q w' (Hm P md ops head Q T n (b.setIfInBounds i true))) [o] a w') (p:∀w',Below w.heap.size w w'->wpList P ops (QE Q w' (Hm P md ops head Q T n (b.setIfInBounds k true))) [u] a w') (f:(Region.ready md ops b==[i,k]&&(head.getD i false&&head.getD k false))=true:=by kernel_rfl) (l:nth ops.toList i=some o:=by rfl) (m:nth ops.toList k=some u:=by rfl):Hm P md ops head Q T (n+1) b a w:=by
 simp only[Bool.and_eq_true,beq_iff_eq] at f;obtain⟨g,e⟩:=f;intro w' c;refine⟨by rw[g];simp,λj d=>?_⟩;rw[g] at d;simp only[List.mem_cons,List.not_mem_nil,or_false] at d;rcases d with rfl|rfl
 ·exact⟨e.1,qA (fM l) (h w' c)⟩
 exact⟨e.2,qA (fM m) (p w' c)⟩
abbrev dh:TypeId:=88
structure qj (W:World) (k:Nat) (a b c:Value) (T:TypeId):Prop where
 at_:W.heap[k]? = some (.cells #[a,b,c] T)
def qj.cell (h:qj W k a b c T):W.cell? ⟨k,0,none⟩=some a/\W.cell? ⟨k,1,none⟩=some b/\W.cell? ⟨k,2,none⟩=some c:=by
 refine⟨?_,?_,?_⟩ <;> (unfold World.cell?;rw[h.at_];rfl)
def qj.frozen (h:qj W k a b c T) (o:Nat):W.frozen? ⟨k,o,none⟩=false:=by
 unfold World.frozen?;rw[h.at_];simp
def qj.set0 (h:qj W k a b c T) (u:Value):qj (W.setCell ⟨k,0,none⟩ u) k u b c T:=⟨heap_setCell_same W k 0 _ _ _ h.at_⟩
def qj.set1 (h:qj W k a b c T) (u:Value):qj (W.setCell ⟨k,1,none⟩ u) k a u c T:=⟨heap_setCell_same W k 1 _ _ _ h.at_⟩
def qj.set2 (h:qj W k a b c T) (u:Value):qj (W.setCell ⟨k,2,none⟩ u) k a b u T:=⟨heap_setCell_same W k 2 _ _ _ h.at_⟩
def qj.put (h:qj W k a b c T) {j o:Nat} (d:k≠j) (u:Value):qj (W.setCell ⟨j,o,none⟩ u) k a b c T:=⟨(Below.heap_setCell _ _ _ _ (by simp only;omega)).trans h.at_⟩
def qj.mono {d:World} (h:qj W k a b c T) (e:Below W.heap.size W d):qj d k a b c T:=⟨(e.block k (block_lt h.at_)).trans h.at_⟩
def qj.writes (h:qj W k a b c T):(W.cell? ⟨k,0,none⟩=some a/\W.frozen? ⟨k,0,none⟩=false)/\
 (∀u,(W.setCell ⟨k,0,none⟩ u).cell? ⟨k,1,none⟩=some b/\(W.setCell ⟨k,0,none⟩ u).frozen? ⟨k,1,none⟩=false)/\
 (∀u d,((W.setCell ⟨k,0,none⟩ u).setCell ⟨k,1,none⟩ d).cell? ⟨k,2,none⟩=some c/\((W.setCell ⟨k,0,none⟩ u).setCell ⟨k,1,none⟩ d).frozen? ⟨k,2,none⟩=false):=
 ⟨⟨h.cell.1,h.frozen 0⟩,λu=>⟨(h.set0 u).cell.2.1,(h.set0 u).frozen 1⟩,λu d=>⟨((h.set0 u).set1 d).cell.2.2,((h.set0 u).set1 d).frozen 2⟩⟩
def wW {u:Value} (h:W.heap[k]? = some (.cells #[u] T)):W.cell? ⟨k,0,none⟩=some u/\W.frozen? ⟨k,0,none⟩=false:=by
 constructor
 ·unfold World.cell?;rw[h];rfl
 unfold World.frozen?;rw[h];rfl
abbrev BX (n:Nat):={ p:Nat×Nat // (p.1<n\/n=0)/\1<=p.2/\p.2<9223372036854775808 }
def Hu (n:Nat) (pre:List (BX n)):List Nat×Nat:=pre.foldl (λs x=>(s.1.set x.1.1 s.2,s.2*x.1.2)) (List.replicate n 0,1)
def Lc (a:List (BX n)) (x:BX n):Hu n (a++[x])=((Hu n a).1.set x.1.1 (Hu n a).2,(Hu n a).2*x.1.2):=by simp[Hu]
def ZB (a:List (BX n)):(Hu n a).1.length=n:=by
 unfold Hu;have:∀(l:List (BX n)) (s:List Nat×Nat),(l.foldl (λs x=>(s.1.set x.1.1 s.2,s.2*x.1.2)) s).1.length=s.1.length:=by
  intro l
  induction l with
  | nil=>intro s;rfl
  | cons x l ih=>intro s;rw[List.foldl_cons,ih];simp
 rw[this];simp
def ZC (bs:List Nat) (j:Nat):BX bs.length:=
 if h:j<bs.length/\1<=bs[j]?.getD 0/\bs[j]?.getD 0<9223372036854775808 then ⟨(j,bs[j]?.getD 0),.inl h.1,h.2.1,h.2.2⟩
 else ⟨(0,1),by simp only;omega,by decide,by decide⟩
def Hw (c:∀b∈bs,1<=b) (d:∀b∈bs,b<9223372036854775808) {j:Nat} (a:j<bs.length):(ZC bs j).1=(j,bs[j]):=by
 have e:bs[j]?.getD 0=bs[j]:=by rw[List.getElem?_eq_getElem a];rfl
 unfold ZC;rw[dif_pos ⟨a,by rw[e];exact c _ (List.getElem_mem _),by rw[e];exact d _ (List.getElem_mem _)⟩];simp only[e]
def aW:List Nat->Nat
 | []=>1
 | b::bs=>b*aW bs
def weights:List Nat->List Nat
 | []=>[]
 | _::bs=>aW bs::weights bs
@[simp] theorem Ce:∀bs:List Nat,(weights bs).length=bs.length
  | []=>rfl
  | _::bs=>by simp[weights,Ce bs]
def jD:∀{bs:List Nat},(∀b∈bs,1<=b)->1<=aW bs
 | [],_=>Nat.le_refl _
 | b::bs,h=>Nat.mul_le_mul (h b (by simp)) (jD λc a=>h c (by simp[a]))
def Cf:∀{bs:List Nat},(∀b∈bs,1<=b)->∀k,aW (bs.drop k)<=aW bs
 | [],_,k=>by simp
 | b::bs,_,0=>by simp
 | b::bs,h,k+1=>by
   have:=Cf (bs:=bs) (λc a=>h c (by simp[a])) k;have:=Nat.le_mul_of_pos_left (aW bs) (h b (by simp));simp only[List.drop_succ_cons,aW];omega
def Oh (d:∀b∈bs,1<=b) (c:∀b∈bs,b<9223372036854775808):∀k,k<=bs.length->
 Hu bs.length (mE (ZC bs) bs.length k)=(List.replicate (bs.length-k) 0++weights (bs.drop (bs.length-k)),aW (bs.drop (bs.length-k)))
 | 0,_=>by
   rw[Nat.sub_zero,List.drop_length];show Hu bs.length []=_;simp[Hu,weights,aW]
 | k+1,hk=>by
   have h:=Oh d c k (by omega);rw[kW,Lc,h];obtain⟨i,f⟩:=ae (bs.length-1-k);have g:bs.length-k=i+1:=by omega
   have j:bs.length-(k+1)=i:=by omega
   have a:i<bs.length:=by omega
   rw[<-f,Hw d c a,g,j];have e:bs.drop i=bs[i]::bs.drop (i+1):=List.drop_eq_getElem_cons a;rw[e];simp only[weights,aW];rw[Nat.mul_comm];congr 1;rw[List.set_append_left _ _ (by simp),List.replicate_succ',List.set_append_right _ _ (by simp)];simp
def gB (w:World) (v:Value) (bs:List Nat):Prop:=∃s1 s2,v=.agg #[s1,s2,.int .i64 (aW bs:Nat)]/\bG w s1 (ds bs)/\bG w s2 (ds (weights bs))
def gB.mono {w w':World} {v:Value} (h:gB w v bs) (a:Below w.heap.size w w'):gB w' v bs:=by
 obtain⟨s1,s2,b,c,d⟩:=h;exact⟨s1,s2,b,c.mono a,d.mono a⟩
def Ld (e:∀b∈bs,1<=b) (h:∀b∈bs,b<9223372036854775808) (r:k<=bs.length) {d:List (BX bs.length)} {a:BX bs.length} (g:mE (ZC bs) bs.length k=d++[a])
 (f:1073741824 / (Hu bs.length d).2<a.1.2):1073741824<aW bs:=by
 cases k with
 | zero=>simp[mE] at g
 | succ k=>
   rw[kW] at g;obtain⟨j,o⟩:=List.append_inj' g rfl;have m:ZC bs (bs.length-1-k)=a:=by simpa using o
   rw[<-j,Oh e h k (by omega),<-m] at f;obtain⟨i,l⟩:=ae (bs.length-1-k);have c:i<bs.length:=by omega
   rw[<-l,Hw e h c,show bs.length-k=i+1 from by omega] at f;simp only at f;have hd:=Cf e i;rw[List.drop_eq_getElem_cons c] at hd;simp only[aW] at hd;have s:=jD (bs:=bs.drop (i+1)) (λb n=>e b (List.mem_of_mem_drop n));generalize aW (bs.drop (i+1))=p at *;generalize bs[i]=b at *;have q:1073741824<b*p:=by
    have:=Nat.lt_mul_of_div_lt f (by omega);exact this
   omega
end
section
open Go.RowKit Go.Cd Go.Shelf _root_.Go.Proofs.Tryz
attribute [local go_sem] Oper.semAt_some
def acN (bs:List Nat) (h:∀b∈bs,1<=b):((bs.map λb:Nat=>(b:Int)).any λb=>decide (b<1))=false:=by
 rw[List.any_eq_false];intro b d;obtain⟨c,a,rfl⟩:=List.mem_map.1 d;have:=h c a;simp;omega
def Hy (bs:List Nat):bO (bs.map λb:Nat=>(b:Int))=ds bs:=by simp[bO,ds]
def jE (w:World) (v:Value) (bs:List Nat):Prop:=∃s1 s2,v=.agg #[s1,s2,.int .i64 (aW bs:Nat)]/\Sl bB w s1 (ds bs)/\Sl bB w s2 (ds (weights bs))
def jE.weak {w:World} {v:Value} {bs:List Nat} (h:jE w v bs):gB w v bs:=by
 obtain⟨s1,s2,a,b,c⟩:=h;exact⟨s1,s2,a,b.any,c.any⟩
def jE.mono {w w':World} {v:Value} {bs:List Nat} (h:jE w v bs) (a:Below w.heap.size w w'):jE w' v bs:=by
 obtain⟨s1,s2,b,c,d⟩:=h;exact⟨s1,s2,b,c.mono a,d.mono a⟩
def ZF {w:World} {v:Value} {bs:List Nat} (h:bG w v (ds bs)) (ak:bs.length<1099511627776) (an:∀b∈bs,1<=b) (H:∀b∈bs,b<9223372036854775808) :
 Calls prog 83 #[v] w λe w'=>∃(r:Value) (e0:Nat),e=.returned (.tuple #[r,.int .i64 e0])/\Below w.heap.size w w'/\((aW bs<=1073741824/\e0=0/\jE w' r bs)\/(1073741824<aW bs/\e0=4/\r=.agg #[.slice none 0 0,.slice none 0 0,.int .i64 0])):=by
 rw[<-Hy] at h;have hb:=dH (w:=w) (.cells #[.slice none 0 0,.slice none 0 0,.int .i64 0] dh) (.cells #[.int .i64 0] 38);have CF:=aa (Af (h.mono hb) (by simpa using ak));have z2:((w.alloc (.cells #[.slice none 0 0,.slice none 0 0,.int .i64 0] dh)).alloc (.cells #[.int .i64 0] 38)).heap[w.heap.size]? = some (.cells #[.slice none 0 0,.slice none 0 0,.int .i64 0] dh):=((ah _).block _ (by simp)).trans (heap_alloc_new' _ _ _ rfl);have z3:((w.alloc (.cells #[.slice none 0 0,.slice none 0 0,.int .i64 0] dh)).alloc (.cells #[.int .i64 0] 38)).heap[w.heap.size+1]? = some (.cells #[.int .i64 0] 38):=heap_alloc_new' _ _ _ (by simp);rw[acN bs an] at CF;have CL:=aa (λ(W:World) (E:Below _ ((w.alloc (.cells #[.slice none 0 0,.slice none 0 0,.int .i64 0] dh)).alloc (.cells #[.int .i64 0] 38)) W)=>FM ((h.mono hb).mono E) (by simpa using ak));rw[Hy,List.length_map] at CL;obtain⟨x1,Ao,rfl,bg,_⟩:=bG.nN h;rw[List.length_map] at *;have D5:=aa an;have ZG:=aa H;clear h an H;refine iW func83 rfl ?_;simp only[ntmps83,List.size_toArray,List.length_cons,List.length_nil,Nat.reduceAdd,Nat.reduceSub,Array.replicate_succ,Array.replicate_zero,List.push_toArray,List.append_toArray,List.nil_append,List.cons_append];go_wp2_with fail;refine CF.out.mono ?_;rintro e w2⟨rfl,I⟩;have y2:qj w2 w.heap.size (.slice none 0 0) (.slice none 0 0) (.int .i64 0) dh:=⟨(I.block _ (by simp <;> omega)).trans z2⟩;have y3:=(I.block _ (by simp)).trans z3;have T0:=AO w2;have aX:=aa (λ(W:World) (E:Below w2.heap.size w2 W)=>CL.out W (af I E));have ax:=af hb I;have N:w.heap.size+2<=w2.heap.size:=by have:=I.size;simp at this;omega
 clear CF CL I hb z2 z3;go_upto_region 3 with fail
 go_cut [4] from 10 to 15 (λpv y=>∃(X:Nat) (t:Option Addr) (q g:Nat),pv=.pointer (some ⟨X,0,none⟩)/\qj y X (.slice t bs.length q) (.slice (some ⟨g,0,none⟩) bs.length bs.length) (.int .i64 1) dh/\y.ownsRow 0 bB 1 (.slice t bs.length q) bs.length (ds bs)/\y.ownsRow 0 bB 1 (.slice (some ⟨g,0,none⟩) bs.length bs.length) bs.length (List.replicate bs.length (Value.int .i64 0))/\
  qj y w.heap.size (.slice none 0 0) (.slice none 0 0) (.int .i64 0) dh/\y.heap[w.heap.size+1]? = some (.cells #[.int .i64 0] 38)/\Below w.heap.size w y/\(Value.slice t bs.length q).ownBlock≠some g/\w2.heap.size<=g/\w2.heap.size<=X/\g≠X/\(Value.slice t bs.length q).ownBlock≠some X)
 case first=>
  refine aC #[true,true,true,true,true,true,true,false] 7 1 mixed ?_;have SE:=af T0 (ag _);refine ay [0,2,3] 4 ?_
  iterate 3 (refine aA rfl ?_;go_big_quiet_step (rfl))
  refine az ?_;refine Oe [6] (λ_ v W=>∃k,v=.pointer (some ⟨k,0,none⟩)/\W.heap[k]? = some (.cells #[.slice none 0 0,.slice none 0 0,.int .i64 0] dh)) rq 3 rfl (by kernel_rfl) (λ_ _ _ _ hb h=>wV hb h) ?_ ?_
  ·intro i hi o ho;simp only[List.mem_cons,List.not_mem_nil,or_false] at hi;subst hi;cases ho;exact wU rfl rfl (λW=>by go_simp)
  refine ZA 1 4 ?_ ?_
  ·intro a9 aO;have aK:=af SE aO;go_wp2_with fail;refine(aX.out _ aK).mono ?_;rintro e bl⟨s1,rfl,G,SF⟩;obtain⟨t,q,rfl,_,_⟩:=bG.out (Sl.aU G).any;rw[nU] at *;go_wp2_with fail;refine aF SF ?_;have Uv:=af aK SF;refine pI 4 ?_;intro M ZH;go_wp2_with (at_make;refine gm _ rfl _ _ 23 rfl M.heap.size bB _ 8 jI rfl .i64 .i64 _ _ bs.length rfl rfl (by omega) (by omega) (by omega) (by unfold maxLen;omega) (by simp) ?_;intro Oi C L);refine aF (fO L) ?_;have FN:=fO L;have Yo:=af (af Uv ZH) FN;have Q:(Value.slice t bs.length q).ownBlock≠some M.heap.size:=λe=>by
    have:=(G.lt _ e).2;have:=ZH.size;omega
   have G:=aH G (af ZH FN);obtain⟨g,V⟩:=ae M.heap.size;rw[<-V] at C Q⊢;have aq:w2.heap.size<=g:=by have:=(af Uv ZH).size;omega
   clear V L aK Uv SF aO ZH FN SE;refine oC [5] 0 ?_;refine aA rfl ?_;go_big_quiet_step (rfl);refine az ?_;refine rf [7] ?_;intro W Wb vs hR hD;have WE:=af Yo Wb;obtain⟨⟨X,hv,hh⟩,hN,T⟩:=hR 6 (by simp);rw[hv] at hN T;simp only[rq] at hN T;rw[ru (d:=some 4) rfl,hv];have G:=aH G Wb;have C:=aH C Wb;have IX:qj W X (.slice none 0 0) (.slice none 0 0) (.int .i64 0) dh:=⟨hh⟩;have O:g≠X:=λe=>by
    have:=C.2;rcases this with⟨h,_⟩|⟨g',_,aJ,h,_,h2,_⟩
    ·cases h
    cases h;rw[e,hh] at h2;cases h2
   have SG:(Value.slice t bs.length q).ownBlock≠some X:=λe=>by
    rcases G.2 with⟨h,_⟩|⟨g',_,aJ,h,_,h2,_⟩
    ·rw[h] at e;cases e
    rw[h] at e;cases e;rw[hh] at h2;cases h2
   obtain⟨⟨g1,g2⟩,U,R⟩:=IX.writes;have g5:=λu=>(U u).1;have g6:=λu=>(U u).2;have g7:=λu S=>(R u S).1;have g8:=λu S=>(R u S).2;have al:=qj.set0 IX (.slice t bs.length q);have am:=al.set1 (.slice (some ⟨g,0,none⟩) bs.length bs.length);have FX:=am.set2 (.int .i64 1);have f:∀(W:World) (k o:Nat) (u:Value),W.grownBy (W.setCell ⟨k,o,none⟩ u) (some k):=λW k o u=>⟨rfl,rfl,rfl,by simp,λj _ hj=>heap_setCell_other W ⟨k,o,none⟩ j u (λe=>hj (by simp[e]))⟩;have G:=((G.kept (f _ X 0 (.slice t bs.length q)) (.inr SG)).kept (f _ X 1 (.slice (some ⟨g,0,none⟩) bs.length bs.length)) (.inr SG)).kept (f _ X 2 (.int .i64 1)) (.inr SG);have Oj:(Value.slice (some ⟨g,0,none⟩) bs.length bs.length).ownBlock≠some X:=λe=>O (by simpa [Value.ownBlock] using e);have C:=((C.kept (f _ X 0 (.slice t bs.length q)) (.inr Oj)).kept (f _ X 1 (.slice (some ⟨g,0,none⟩) bs.length bs.length)) (.inr Oj)).kept (f _ X 2 (.int .i64 1)) (.inr Oj);have aM:w2.heap.size<=X:=hN;have aZ:w.heap.size+2<=X:=by omega
   have F2:=(((y2.mono WE).put (j:=X) (o:=0) (by omega) (.slice t bs.length q)).put (j:=X) (o:=1) (by omega) (.slice (some ⟨g,0,none⟩) bs.length bs.length)).put (j:=X) (o:=2) (by omega) (.int .i64 1);have F3:(((W.setCell ⟨X,0,none⟩ (.slice t bs.length q)).setCell ⟨X,1,none⟩ (.slice (some ⟨g,0,none⟩) bs.length bs.length)).setCell ⟨X,2,none⟩ (.int .i64 1)).heap[w.heap.size+1]? = some (.cells #[.int .i64 0] 38):=by
    rw[Below.heap_setCell _ _ _ _ (by simp only;omega),Below.heap_setCell _ _ _ _ (by simp only;omega),Below.heap_setCell _ _ _ _ (by simp only;omega)];exact(WE.block _ (block_lt y3)).trans y3
   have Z:Below w.heap.size w (((W.setCell ⟨X,0,none⟩ (.slice t bs.length q)).setCell ⟨X,1,none⟩ (.slice (some ⟨g,0,none⟩) bs.length bs.length)).setCell ⟨X,2,none⟩ (.int .i64 1)):=
    aj (aj (aj (ax.trans (WE.mono ax.size)) (by omega)) (by omega)) (by omega)
   refine uO (os:=[_]) rfl ?_;clear WE Wb hR hD hv hh hN T Yo IX al am U R;go_wp2_with fail;clear g1 g2 g5 g6 g7 g8;refine uP ?_;obtain⟨y,hW⟩:∃y,((W.setCell ⟨X,0,none⟩ (.slice t bs.length q)).setCell ⟨X,1,none⟩ (.slice (some ⟨g,0,none⟩) bs.length bs.length)).setCell ⟨X,2,none⟩ (.int .i64 1)=y:=⟨_,rfl⟩;rw[hW] at FX G C F2 F3 Z⊢;clear hW;go_wp2_with fail;go_meet;exact⟨X,t,q,g,rfl,FX,oo G (Nat.zero_le _),oo C (Nat.zero_le _),F2,F3,Z,Q,aq,aM,O,SG⟩
  intro M ZH;go_wp2_with (at_make;refine gm _ rfl _ _ 23 rfl M.heap.size bB _ 8 jI rfl .i64 .i64 _ _ bs.length rfl rfl (by omega) (by omega) (by omega) (by unfold maxLen;omega) (by simp) ?_;intro a9 C L);refine aF (fO L) ?_;have Uv:=af (af SE ZH) (fO L);refine pI 1 ?_;intro br ar;have aE:=af Uv ar;go_wp2_with fail;refine(aX.out _ aE).mono ?_;rintro e Oi⟨s1,rfl,G,FN⟩;obtain⟨t,q,rfl,_,_⟩:=bG.out (Sl.aU G).any;rw[nU] at *;go_wp2_with fail;refine aF FN ?_;have Yo:=af aE FN;have a6:=(C.lt M.heap.size rfl).2;have Q:(Value.slice t bs.length q).ownBlock≠some M.heap.size:=λe=>by
   have:=(G.lt _ e).1;have:=ar.size;omega
  have C:=aH C (af ar FN);obtain⟨g,V⟩:=ae M.heap.size;rw[<-V] at C Q⊢;have aq:w2.heap.size<=g:=by have:=(af SE ZH).size;omega
  clear V L a6 Uv aE FN ZH ar SE;refine oC [5] 0 ?_;refine aA rfl ?_;go_big_quiet_step (rfl);refine az ?_;refine rf [7] ?_;intro W Wb vs hR hD;have WE:=af Yo Wb;obtain⟨⟨X,hv,hh⟩,hN,T⟩:=hR 6 (by simp);rw[hv] at hN T;simp only[rq] at hN T;rw[ru (d:=some 4) rfl,hv];have G:=aH G Wb;have C:=aH C Wb;have IX:qj W X (.slice none 0 0) (.slice none 0 0) (.int .i64 0) dh:=⟨hh⟩;have O:g≠X:=λe=>by
   have:=C.2;rcases this with⟨h,_⟩|⟨g',_,aJ,h,_,h2,_⟩
   ·cases h
   cases h;rw[e,hh] at h2;cases h2
  have SG:(Value.slice t bs.length q).ownBlock≠some X:=λe=>by
   rcases G.2 with⟨h,_⟩|⟨g',_,aJ,h,_,h2,_⟩
   ·rw[h] at e;cases e
   rw[h] at e;cases e;rw[hh] at h2;cases h2
  obtain⟨⟨g1,g2⟩,U,R⟩:=IX.writes;have g5:=λu=>(U u).1;have g6:=λu=>(U u).2;have g7:=λu S=>(R u S).1;have g8:=λu S=>(R u S).2;have al:=qj.set0 IX (.slice t bs.length q);have am:=al.set1 (.slice (some ⟨g,0,none⟩) bs.length bs.length);have FX:=am.set2 (.int .i64 1);have f:∀(W:World) (k o:Nat) (u:Value),W.grownBy (W.setCell ⟨k,o,none⟩ u) (some k):=λW k o u=>⟨rfl,rfl,rfl,by simp,λj _ hj=>heap_setCell_other W ⟨k,o,none⟩ j u (λe=>hj (by simp[e]))⟩;have G:=((G.kept (f _ X 0 (.slice t bs.length q)) (.inr SG)).kept (f _ X 1 (.slice (some ⟨g,0,none⟩) bs.length bs.length)) (.inr SG)).kept (f _ X 2 (.int .i64 1)) (.inr SG);have Oj:(Value.slice (some ⟨g,0,none⟩) bs.length bs.length).ownBlock≠some X:=λe=>O (by simpa [Value.ownBlock] using e);have C:=((C.kept (f _ X 0 (.slice t bs.length q)) (.inr Oj)).kept (f _ X 1 (.slice (some ⟨g,0,none⟩) bs.length bs.length)) (.inr Oj)).kept (f _ X 2 (.int .i64 1)) (.inr Oj);have aM:w2.heap.size<=X:=hN;have aZ:w.heap.size+2<=X:=by omega
  have F2:=(((y2.mono WE).put (j:=X) (o:=0) (by omega) (.slice t bs.length q)).put (j:=X) (o:=1) (by omega) (.slice (some ⟨g,0,none⟩) bs.length bs.length)).put (j:=X) (o:=2) (by omega) (.int .i64 1);have F3:(((W.setCell ⟨X,0,none⟩ (.slice t bs.length q)).setCell ⟨X,1,none⟩ (.slice (some ⟨g,0,none⟩) bs.length bs.length)).setCell ⟨X,2,none⟩ (.int .i64 1)).heap[w.heap.size+1]? = some (.cells #[.int .i64 0] 38):=by
   rw[Below.heap_setCell _ _ _ _ (by simp only;omega),Below.heap_setCell _ _ _ _ (by simp only;omega),Below.heap_setCell _ _ _ _ (by simp only;omega)];exact(WE.block _ (block_lt y3)).trans y3
  have Z:Below w.heap.size w (((W.setCell ⟨X,0,none⟩ (.slice t bs.length q)).setCell ⟨X,1,none⟩ (.slice (some ⟨g,0,none⟩) bs.length bs.length)).setCell ⟨X,2,none⟩ (.int .i64 1)):=
   aj (aj (aj (ax.trans (WE.mono ax.size)) (by omega)) (by omega)) (by omega)
  refine uO (os:=[_]) rfl ?_;clear WE Wb hR hD hv hh hN T Yo IX al am U R;go_wp2_with fail;clear g1 g2 g5 g6 g7 g8;refine uP ?_;obtain⟨y,hW⟩:∃y,((W.setCell ⟨X,0,none⟩ (.slice t bs.length q)).setCell ⟨X,1,none⟩ (.slice (some ⟨g,0,none⟩) bs.length bs.length)).setCell ⟨X,2,none⟩ (.int .i64 1)=y:=⟨_,rfl⟩;rw[hW] at FX G C F2 F3 Z⊢;clear hW;go_wp2_with fail;go_meet;exact⟨X,t,q,g,rfl,FX,oo G (Nat.zero_le _),oo C (Nat.zero_le _),F2,F3,Z,Q,aq,aM,O,SG⟩
 case rest=>
  rename World=>y;obtain⟨X,t,q,g,rfl,FX,G,C,F2,F3,Z,Q,aq,hN,O,SG⟩:=hcut;have aZ:w.heap.size+2<=X:=by omega
  have f:∀(W:World) (k o:Nat) (u:Value),W.grownBy (W.setCell ⟨k,o,none⟩ u) (some k):=λW k o u=>⟨rfl,rfl,rfl,by simp,λj _ hj=>heap_setCell_other W ⟨k,o,none⟩ j u (λe=>hj (by simp[e]))⟩;obtain⟨e0,e1,e2⟩:=FX.cell;go_wp2_with fail;refine(Ht _ y ⟨_,_,_,rfl⟩).mono ?_;rintro e w5⟨rfl,rfl⟩;go_wp2_with fail;have Yf:=aa Q;have WL:=aa (show y.heap.size<=(y.alloc (.cells #[.slice t bs.length q] 23)).heap.size by simp);have bi:X<y.heap.size:=block_lt FX.at_;have bn:g<y.heap.size:=(C.lt g rfl).2;have e2:List.replicate bs.length (Value.int .i64 0)=ds (Hu bs.length []).1:=by simp[ds,Hu]
  rw[e2] at C;obtain⟨bb,bm,ba,bd⟩:∃bb,bb<=y.heap.size/\(0<bs.length->(Value.slice t bs.length q).ownBlock=some bb)/\Cc bb (y.alloc (.cells #[.slice t bs.length q] 23)) (.slice t bs.length q) bs.length (λj=>((ZC bs j).1.2:Int)):=by
   rcases (Sl.aU G).any.cases with⟨hn,a,cap,hv,_⟩|⟨b,off,cap,hv,hc,hp,hb,hx⟩
   ·have hl:bs=[]:=by simpa [ds] using hn
    subst hl;exact⟨0,Nat.zero_le _,λh=>absurd h (by simp),.inl ⟨rfl,_,_,rfl⟩⟩
   rw[nU] at hv;cases hv;refine⟨b,Nat.le_of_lt hb,λ_=>rfl,.inr ⟨off,_,rfl,by simp;omega,λj hj=>?_⟩⟩;rw[(ah _).cell (p:=⟨b,off+j,none⟩) hb,hx j (by rw[nU];exact hj),oM _ _ hj];show _=some (Value.int .i64 (((ZC bs j).1.2:Nat):Int));rw[Hw D5.out ZG.out hj]
  refine(wpIn_wide (n:=5)).1 ?_;refine wpIn_rangeFunc_ownG (F:=Fence.wide) rfl (by omega) (gf:=168) (lb:=#[.pointer (some ⟨y.heap.size,0,none⟩)]) rfl trivial (enters_of func168 (by kernel_rfl) rfl)
   (Lb Fence.wide 4 trivial rfl (by omega) y.heap.size bb (.slice t bs.length q) bs.length ak (ZC bs) (λx=>#[.int .i64 (x.1.1:Int),.int .i64 (x.1.2:Int)]) (λj=>((ZC bs j).1.2:Int))
     (λj hj=>by rw[Hw D5.out ZG.out hj]) (y.alloc (.cells #[.slice t bs.length q] 23)) (by simp) (by go_simp) bd)
   (λh k=>h.trans k) (λW l o o' hl ho hc _=>by
     have bj:y.heap.size+1<=l:=by simpa using hl
     exact⟨World.putObj_heap_other (by omega),World.putObj_heap_other (by omega)⟩) (Below.refl _ _) (λ_=>rfl)
   (λz W=>(((1<=(Hu bs.length z).2/\(Hu bs.length z).2<=1073741824)/\qj W X (.slice t bs.length q) (.slice (some ⟨g,0,none⟩) bs.length bs.length) (.int .i64 ((Hu bs.length z).2:Nat)) dh/\W.ownsRow 0 bB 1 (.slice (some ⟨g,0,none⟩) bs.length bs.length) bs.length (ds (Hu bs.length z).1)/\
     W.ownsRow 0 bB 1 (.slice t bs.length q) bs.length (ds bs)/\qj W w.heap.size (.slice none 0 0) (.slice none 0 0) (.int .i64 0) dh/\W.heap[w.heap.size+1]? = some (.cells #[.int .i64 0] 38))/\Below w.heap.size w W))
   (λc z W=>(c=.ret/\(∃(aI:List (BX bs.length)) (ai:BX bs.length),z=aI++[ai]/\1073741824 / (Hu bs.length aI).2<ai.1.2)/\qj W w.heap.size (.slice none 0 0) (.slice none 0 0) (.int .i64 0) dh/\W.heap[w.heap.size+1]? = some (.cells #[.int .i64 4] 38))/\Below w.heap.size w W)
   (OwnFrom.and (Own.from (λs A B row hs V hr=>⟨hs.1,⟨oh V hr hs.2.1.at_⟩,U2 V hr hs.2.2.1,U2 V hr hs.2.2.2.1,⟨oh V hr hs.2.2.2.2.1.at_⟩,oh V hr hs.2.2.2.2.2⟩) _) (ownFrom_below (Nat.le_refl _) (by have:=Z.size;simp;omega)))
   (λc=>OwnFrom.and (Own.from (λs A B row hs V hr=>⟨hs.1,hs.2.1,⟨oh V hr hs.2.2.1.at_⟩,oh V hr hs.2.2.2⟩) _) (ownFrom_below (Nat.le_refl _) (by have:=Z.size;simp;omega)))
   ⟨⟨⟨Nat.le_refl _,by show(1:Nat)<=1073741824;decide⟩,FX.mono (ah _),oo (aH C (ah _)) (Nat.zero_le _),oo (aH G (ah _)) (Nat.zero_le _),F2.mono (ah _),((ah _).block _ (block_lt F3)).trans F3⟩,Z.alloc Z.size _⟩
   (λx=>{ tmps:=#[.slice x1 bs.length Ao,undef,.pointer (some ⟨w.heap.size,0,none⟩),.pointer (some ⟨w.heap.size+1,0,none⟩),.pointer (some ⟨X,0,none⟩),.int .i64 (x.1.1:Int),.int .i64 (x.1.2:Int),.slice x1 bs.length Ao,.bool false,undef,u10,u11,u12,u13,u14,u15,.pointer (some ⟨X,0,none⟩),.slice t bs.length q,
     .func (.func 168) #[] #[.pointer (some ⟨y.heap.size,0,none⟩)],.int .i64 (x.1.1:Int),.int .i64 (x.1.2:Int),undef,undef,undef,undef,undef,undef,undef,undef,undef,undef,undef,undef,undef,undef,undef,undef,undef,undef],defers:=[] }) ?assign ?body ?done ?stop
  case assign=>
   intro l x W K hK
   gi_wp2
   exact hK
  case body=>
   rintro l z⟨⟨i,b⟩,hi,au,I⟩ Wr ⟨⟨⟨ao,N⟩,JX,Y,q1,G2,G3⟩,hB⟩ bk;have bo:i<bs.length:=by rcases hi with h|h;exact h;omega
   have aw:=Lc z ⟨(i,b),hi,au,I⟩;have a0:=ZB z;obtain⟨row,s,aN⟩:∃row s,Hu bs.length z=(row,s):=⟨_,_,rfl⟩;rw[aN] at aw a0 ao N JX Y;simp only at aw a0 ao N JX Y au I hi;have bc:=aa aN;have a3:=aa aw;clear aN aw;obtain⟨u0,u1,u2⟩:=JX.cell;obtain⟨aD,bp⟩:=jY Y (j:=i) (by simp;omega);rw[oM _ _ (by omega)] at aD;have a4:X≠g:=λe=>O e.symm;obtain⟨q3,aG⟩:=Y.stored i (.int .i64 (s:Int));have e3:(ds row).set i (.int .i64 (s:Int))=ds (row.set i s):=by simp[ds,List.map_set]
   rw[e3] at q3;have ac:=Yf.out;have q4:=q1.kept aG (.inr ac);have KX:=JX.put (j:=g) (o:=i) a4 (.int .i64 (s:Int));have L:w.heap.size+2<=g:=by omega
   have K2:=G2.put (j:=g) (o:=i) (by omega) (.int .i64 (s:Int));have K3:(Wr.setCell ⟨g,i,none⟩ (.int .i64 (s:Int))).heap[w.heap.size+1]? = some (.cells #[.int .i64 0] 38):=by rw[Below.heap_setCell _ _ _ _ (by simp only;omega)];exact G3
   have aB:=aj (off:=i) (u:=.int .i64 (s:Int)) (b:=g) hB (by omega);obtain⟨v0,v1,v2⟩:=KX.cell;have v3:=KX.frozen 2;have bq:s≠0:=by omega
   have bh:KeepsFrom y.heap.size Wr (Wr.setCell ⟨g,i,none⟩ (.int .i64 (s:Int))):=(KeepsOthers.setCell _ _ _).from _;by_cases H:1073741824 / s<b
   ·have aQ:decide ((1073741824:Int) / (s:Int)<(b:Int))=true:=decide_eq_true (by have:=Int.ofNat_lt.2 H;rw[Int.natCast_ediv] at this;exact this);have bt:(1073741824:Int) / (s:Int)<(b:Int):=of_decide_eq_true aQ;obtain⟨⟨g1,g2⟩,U,R⟩:=K2.writes;have g5:=λu=>(U u).1;have g6:=λu=>(U u).2;have g7:=λu S=>(R u S).1;have g8:=λu S=>(R u S).2;have J2:=((K2.set0 (.slice none 0 0)).set1 (.slice none 0 0)).set2 (.int .i64 0);have J3:(((((Wr.setCell ⟨g,i,none⟩ (.int .i64 (s:Int))).setCell ⟨w.heap.size,0,none⟩ (.slice none 0 0)).setCell ⟨w.heap.size,1,none⟩ (.slice none 0 0)).setCell ⟨w.heap.size,2,none⟩ (.int .i64 0))).heap[w.heap.size+1]? = some (.cells #[.int .i64 0] 38):=by
     rw[Below.heap_setCell _ _ _ _ (by simp),Below.heap_setCell _ _ _ _ (by simp),Below.heap_setCell _ _ _ _ (by simp)];exact K3
    obtain⟨g9,a7⟩:=wW J3;have ad:=J2.put (j:=w.heap.size+1) (o:=0) (by omega) (.int .i64 4);have ab:=FK (u:=.int .i64 4) J3;have ZI:=aj (off:=0) (u:=.int .i64 4) (b:=w.heap.size+1) (aj (off:=2) (u:=.int .i64 0) (b:=w.heap.size) (aj (off:=1) (u:=.slice none 0 0) (b:=w.heap.size) (aj (off:=0) (u:=.slice none 0 0) (b:=w.heap.size) aB (Nat.le_refl _)) (Nat.le_refl _)) (Nat.le_refl _)) (by omega);have ap:=((((KeepsOthers.setCell Wr ⟨g,i,none⟩ (.int .i64 (s:Int))).trans (KeepsOthers.setCell _ ⟨w.heap.size,0,none⟩ (.slice none 0 0))).trans (KeepsOthers.setCell _ ⟨w.heap.size,1,none⟩ (.slice none 0 0))).trans (KeepsOthers.setCell _ ⟨w.heap.size,2,none⟩ (.int .i64 0))).trans (KeepsOthers.setCell _ ⟨w.heap.size+1,0,none⟩ (.int .i64 4));clear U R J2 J3 K2 K3 G2 G3 hB aB q1 Y q3 q4 KX JX aG
    gi_wp2
    exact⟨ap.from _,⟨rfl,⟨z,⟨(i,b),hi,au,I⟩,rfl,by rw[bc.out];exact H⟩,ad,ab⟩,ZI⟩
   have aQ:decide ((1073741824:Int) / (s:Int)<(b:Int))=false:=decide_eq_false (by have:=Int.ofNat_le.2 (Nat.le_of_not_lt H);rw[Int.natCast_ediv] at this;exact Int.not_lt.2 this);have aS:s*b<=1073741824:=by
    have h1:=Nat.le_of_not_lt H;have h2:=Nat.mul_le_mul_left s h1;have h3:=Nat.mul_div_le 1073741824 s;omega
   have a2:1<=s*b:=Nat.mul_le_mul ao au;have aT:wrap64 ((s:Int)*(b:Int))=((s*b:Nat):Int):=by rw[<-Int.natCast_mul];unfold wrap64;omega
   have L2:=KX.set2 (.int .i64 ((s*b:Nat):Int));have bf:(Value.slice (some ⟨g,0,none⟩) bs.length bs.length).ownBlock≠some X:=λe=>O (by simpa [Value.ownBlock] using e);have q5:=q3.kept (f _ X 2 (.int .i64 ((s*b:Nat):Int))) (.inr bf);have q6:=q4.kept (f _ X 2 (.int .i64 ((s*b:Nat):Int))) (.inr SG);have L3:=K2.put (j:=X) (o:=2) (by omega) (.int .i64 ((s*b:Nat):Int));have L4:((Wr.setCell ⟨g,i,none⟩ (.int .i64 (s:Int))).setCell ⟨X,2,none⟩ (.int .i64 ((s*b:Nat):Int))).heap[w.heap.size+1]? = some (.cells #[.int .i64 0] 38):=by rw[Below.heap_setCell _ _ _ _ (by simp only;omega)];exact K3
   have aP:=aj (off:=2) (u:=.int .i64 ((s*b:Nat):Int)) (b:=X) aB (by omega);have ap:=(KeepsOthers.setCell Wr ⟨g,i,none⟩ (.int .i64 (s:Int))).trans (KeepsOthers.setCell _ ⟨X,2,none⟩ (.int .i64 ((s*b:Nat):Int)));have a_:=ba (by omega);have aV:bb≠g/\bb≠X:=by
    rw[a_] at ac SG;exact⟨λe=>ac (by rw[e]),λe=>SG (by rw[e])⟩
   have aY:lM y.heap.size bb Wr ((Wr.setCell ⟨g,i,none⟩ (.int .i64 (s:Int))).setCell ⟨X,2,none⟩ (.int .i64 ((s*b:Nat):Int))):=by
    constructor
    ·rw[Below.heap_setCell _ _ _ _ (by simp only;omega),Below.heap_setCell _ _ _ _ (by simp only;omega)]
    rw[Below.heap_setCell _ _ _ _ (by simp only;exact aV.2),Below.heap_setCell _ _ _ _ (by simp only;exact aV.1)]
   have HW:=aa aT;obtain⟨m,hm⟩:=ae (s*b);rw[<-hm] at aT aS a2 L2 L3 L4 q5 q6 aP ap aY;have HM:=aa hm;clear hm K2 K3 G2 G3 hB aB q1 Y q3 q4 KX JX aG
   gi_wp2
   refine⟨ap.from _,aY,?_⟩;dsimp only;rw[a3.out];exact⟨⟨⟨by rw[<-HM.out];exact a2,by rw[<-HM.out];exact aS⟩,by rw[<-HM.out];exact L2,q5,q6,L3,L4⟩,aP⟩
  case done=>
   rintro D ys Wd hD rfl⟨⟨⟨ao,N⟩,JX,Y,q1,G2,G3⟩,hB⟩ hK;rw[Oh D5.out ZG.out _ (Nat.le_refl _),Nat.sub_self,List.drop_zero] at N JX Y;simp only[List.replicate_zero,List.nil_append] at Y N JX;obtain⟨P,hP⟩:=ae (aW bs);rw[<-hP] at N JX;have HP:=aa hP;clear hP;have a5:y.heap.size+1<=D:=by simpa using hD
   obtain⟨u0,u1,u2⟩:=JX.cell;obtain⟨⟨g1,g2⟩,U,R⟩:=G2.writes;have g5:=λu=>(U u).1;have g6:=λu=>(U u).2;have g7:=λu S=>(R u S).1;have g8:=λu S=>(R u S).2;have J2:=((G2.set0 (.slice t bs.length q)).set1 (.slice (some ⟨g,0,none⟩) bs.length bs.length)).set2 (.int .i64 (P:Int));have J3:((((Wd.setCell ⟨w.heap.size,0,none⟩ (.slice t bs.length q)).setCell ⟨w.heap.size,1,none⟩ (.slice (some ⟨g,0,none⟩) bs.length bs.length)).setCell ⟨w.heap.size,2,none⟩ (.int .i64 (P:Int)))).heap[w.heap.size+1]? = some (.cells #[.int .i64 0] 38):=by
    rw[Below.heap_setCell _ _ _ _ (by simp),Below.heap_setCell _ _ _ _ (by simp),Below.heap_setCell _ _ _ _ (by simp)];exact G3
   obtain⟨g9,a7⟩:=wW J3;have ad:=J2.put (j:=w.heap.size+1) (o:=0) (by omega) (.int .i64 0);have ab:=FK (u:=.int .i64 0) J3;have n1:=own_ne q1 G2.at_ (by decide);have n2:=own_ne q1 G3 (by decide);have n3:=own_ne Y G2.at_ (by decide);have n4:=own_ne Y G3 (by decide);have q3:=(((q1.kept (f _ w.heap.size 0 (.slice t bs.length q)) (.inr n1)).kept (f _ w.heap.size 1 (.slice (some ⟨g,0,none⟩) bs.length bs.length)) (.inr n1)).kept (f _ w.heap.size 2 (.int .i64 (P:Int))) (.inr n1)).kept (f _ (w.heap.size+1) 0 (.int .i64 0)) (.inr n2);have q4:=(((Y.kept (f _ w.heap.size 0 (.slice t bs.length q)) (.inr n3)).kept (f _ w.heap.size 1 (.slice (some ⟨g,0,none⟩) bs.length bs.length)) (.inr n3)).kept (f _ w.heap.size 2 (.int .i64 (P:Int))) (.inr n3)).kept (f _ (w.heap.size+1) 0 (.int .i64 0)) (.inr n4);have ZI:=aj (off:=0) (u:=.int .i64 0) (b:=w.heap.size+1) (aj (off:=2) (u:=.int .i64 (P:Int)) (b:=w.heap.size) (aj (off:=1) (u:=.slice (some ⟨g,0,none⟩) bs.length bs.length) (b:=w.heap.size) (aj (off:=0) (u:=.slice t bs.length q) (b:=w.heap.size) hB (Nat.le_refl _)) (Nat.le_refl _)) (Nat.le_refl _)) (by omega);have av:(((((Wd.setCell ⟨w.heap.size,0,none⟩ (.slice t bs.length q)).setCell ⟨w.heap.size,1,none⟩ (.slice (some ⟨g,0,none⟩) bs.length bs.length)).setCell ⟨w.heap.size,2,none⟩ (.int .i64 (P:Int)))).setCell ⟨w.heap.size+1,0,none⟩ (.int .i64 0)).heap[D]? = some (.deferred (some [])):=by
    have:=Z.size;rw[Below.heap_setCell _ _ _ _ (by simp only;omega),Below.heap_setCell _ _ _ _ (by simp only;omega),Below.heap_setCell _ _ _ _ (by simp only;omega),Below.heap_setCell _ _ _ _ (by simp only;omega)];exact hK
   obtain⟨Wf,aL⟩:∃Wf,((((Wd.setCell ⟨w.heap.size,0,none⟩ (.slice t bs.length q)).setCell ⟨w.heap.size,1,none⟩ (.slice (some ⟨g,0,none⟩) bs.length bs.length)).setCell ⟨w.heap.size,2,none⟩ (.int .i64 (P:Int)))).setCell ⟨w.heap.size+1,0,none⟩ (.int .i64 0)=Wf:=⟨_,rfl⟩;rw[aL] at ad ab q3 q4 ZI av;have a8:=aa aL;have Uw:Wf.grownBy (Wf.putObj D (.deferred none)) (some D):=grownBy_putObj' Wf D (.deferred none);have J:∀r,some D=some r->∃o:Obj,Wf.heap[r]? = some o/\o.isCells=false:=λr e=>by cases e;exact⟨_,av,rfl⟩
   have M2:qj (Wf.putObj D (.deferred none)) w.heap.size (.slice t bs.length q) (.slice (some ⟨g,0,none⟩) bs.length bs.length) (.int .i64 (P:Int)) dh:=⟨oh Uw J ad.at_⟩;have M3:=(wW (oh Uw J ab)).1;obtain⟨m0,m1,m2⟩:=M2.cell;have q5:=U2 Uw J q3;have q6:=U2 Uw J q4;have Vk:=ZI.trans (belowK_b (w:=w) (Nat.le_refl _) Wf D _ (.deferred none) (by have:=Z.size;omega) av rfl rfl);clear U R J2 J3 q1 Y q3 q4 G2 G3 hB ZI n1 n2 n3 n4 aL ad ab JX M2 hK Uw J;go_wp2;rw[a8.out];refine⟨by simp,.inl ⟨_,_,rfl,run_takeDeferred av,?_⟩⟩
   exact⟨.tuple #[.agg #[.slice t bs.length q,.slice (some ⟨g,0,none⟩) bs.length bs.length,.int .i64 (P:Int)],.int .i64 0],by simp[results,results83,go_sem,m0,m1,m2,M3],_,0,rfl,Vk,
    .inl ⟨by rw[<-HP.out];exact N,rfl,_,_,by rw[<-HP.out],Sl.aU q5,Sl.aU q6⟩⟩
  case stop=>
   rintro D c z Wd hD⟨k,hk,rfl⟩ ⟨⟨rfl,⟨aI,ai,e1,e2⟩,G2,G3⟩,hB⟩ hK;have aR:=Ld D5.out ZG.out hk e1 e2;have a5:y.heap.size+1<=D:=by simpa using hD
   have Uw:Wd.grownBy (Wd.putObj D (.deferred none)) (some D):=grownBy_putObj' Wd D (.deferred none);have J:∀r,some D=some r->∃o:Obj,Wd.heap[r]? = some o/\o.isCells=false:=λr e=>by cases e;exact⟨_,hK,rfl⟩
   have M2:qj (Wd.putObj D (.deferred none)) w.heap.size (.slice none 0 0) (.slice none 0 0) (.int .i64 0) dh:=⟨oh Uw J G2.at_⟩;have M3:=(wW (oh Uw J G3)).1;obtain⟨m0,m1,m2⟩:=M2.cell;have Vk:=hB.trans (belowK_b (w:=w) (Nat.le_refl _) Wd D _ (.deferred none) (by have:=Z.size;omega) hK rfl rfl);have be:=aa aR;clear aR e1 e2 G2 G3 Uw J M2 hB
   gi_wp2
   refine⟨by simp,.inl ⟨_,_,rfl,run_takeDeferred hK,?_⟩⟩;exact⟨.tuple #[.agg #[.slice none 0 0,.slice none 0 0,.int .i64 0],.int .i64 4],by simp[results,results83,go_sem,m0,m1,m2,M3],_,4,rfl,Vk,.inr ⟨be.out,rfl,rfl⟩⟩
end
open Go.RowKit Go.Cd _root_.Go.Proofs.Tryz
variable {bs:List Nat} {l:List Int} {w:World} {v:Value}
def wX:List Nat->List Int->Bool
 | [],[]=>true
 | b::bs,d::l=>decide (0<=d)&&decide (d<(b:Int))&&wX bs l
 | _,_=>false
def oF:∀(bs:List Nat) (l:List Int),wX bs l=true↔l.length=bs.length/\∀j (f:j<l.length) (e:j<bs.length),0<=l[j]/\l[j]<(bs[j]:Int)
 | [],[]=>by simp[wX]
 | [],_::_=>by simp[wX]
 | _::_,[]=>by simp[wX]
 | b::bs,d::l=>by
   simp only[wX,Bool.and_eq_true,decide_eq_true_eq,List.length_cons,Nat.add_right_cancel_iff];rw[oF bs l];constructor
   ·rintro⟨⟨f,e⟩,c,a⟩;refine⟨c,λj h g=>?_⟩;cases j with
    | zero=>exact⟨f,e⟩
    | succ j=>exact a j (by omega) (by omega)
   rintro⟨c,a⟩;refine⟨a 0 (by omega) (by omega),c,λj h g=>a (j+1) (by omega) (by omega)⟩
def Ol {j:Nat} (b:j<l.length) (c:j<bs.length) (h:l[j]<0\/(bs[j]:Int)<=l[j]):wX bs l=false:=by
 cases a:wX bs l
 ·rfl
 have:=((oF bs l).1 a).2 j b c;omega
def gU (bs:List Nat) (l:List Int):Nat->Nat
 | 0=>0
 | j+1=>gU bs l j*bs[j]?.getD 0+(l[j]?.getD 0).toNat
def zQ:∀(bs:List Nat) (j:Nat) (h:j<(weights bs).length),(weights bs)[j]=aW (bs.drop (j+1))
 | _::bs,0,_=>by simp[weights]
 | _::bs,j+1,h=>by
   have:=zQ bs j (by simpa [weights] using h);simpa [weights] using this
def lY {j:Nat} (h:j<bs.length):aW (bs.drop j)=bs[j]*aW (bs.drop (j+1)):=by
 rw[List.drop_eq_getElem_cons h];rfl
def Hz :∀j,j<=bs.length->j<=l.length->(∀t (b:t<l.length) (a:t<bs.length),t<j->0<=l[t]/\l[t]<(bs[t]:Int))->(gU bs l j+1)*aW (bs.drop j)<=aW bs
 | 0,_,_,_=>by simp[gU]
 | j+1,hb,hl,h=>by
   have c:=Hz j (by omega) (by omega) (λt b a e=>h t b a (by omega));have:=h j (by omega) (by omega) (by omega);rw[lY (by omega),<-Nat.mul_assoc] at c;simp only[gU,List.getElem?_eq_getElem (show j<bs.length by omega),List.getElem?_eq_getElem (show j<l.length by omega),Option.getD_some];refine Nat.le_trans (Nat.mul_le_mul_right _ ?_) c;rw[Nat.add_mul,Nat.one_mul];omega
def wr1 {M:Nat} (h:M<1073741825):wrap64 (M:Int)=(M:Int):=by unfold wrap64;omega
def wr2 {O M:Nat} (h:O+M<1073741825):wrap64 ((O:Int)+(M:Int))=((O+M:Nat):Int):=by unfold wrap64;omega
def ZJ {h b Q n:Nat}:h*(b*Q)+n*Q=(h*b+n)*Q:=by rw[Nat.add_mul,Nat.mul_assoc]
def SH {h b Q n P:Nat} (a:(h+1)*(b*Q)<=P) (e:n<b) (d:P<=1073741824):h*(b*Q)+n*Q<1073741825:=by
 have:n*Q<=b*Q:=Nat.mul_le_mul_right Q (by omega);rw[Nat.add_mul,Nat.one_mul] at a;omega
def gB.out (h:gB w v bs):∃a f g j,v=.agg #[.slice a bs.length f,.slice g bs.length j,.int .i64 (aW bs:Nat)]/\
 bG w (.slice a bs.length f) (ds bs)/\bs.length<=f/\bs.length<=j/\(∀i (c:i<bs.length),∃b off,a=some ⟨b,off,none⟩/\b<w.heap.size/\w.cell? ⟨b,off+i,none⟩=some (.int .i64 (bs[i]:Nat)))/\
 (∀i (c:i<bs.length),∃b off,g=some ⟨b,off,none⟩/\b<w.heap.size/\w.cell? ⟨b,off+i,none⟩=some (.int .i64 (aW (bs.drop (i+1)):Nat))):=by
 obtain⟨s1,s2,rfl,q,r⟩:=h;have e:=q;obtain⟨a,f,rfl,t,n⟩:=bG.out q;obtain⟨g,j,rfl,s,m⟩:=bG.out r;have d:(ds bs).length=bs.length:=nU _;have l:(ds (weights bs)).length=bs.length:=by simp
 refine⟨a,f,g,j,by rw[d,l],by rw[d] at e;exact e,by omega,by omega,λi c=>?_,λi c=>?_⟩
 ·obtain⟨b,off,o,p,k⟩:=n i (by omega);exact⟨b,off,o,p,by rw[k,oM _ _ c]⟩
 obtain⟨b,off,o,p,k⟩:=m i (by omega);exact⟨b,off,o,p,by rw[k,oM _ _ (by simpa using c),zQ]⟩
def H6 (h:gB w v bs) (a:∀b∈bs,1<=b) (c:aW bs<=1073741824) :
 Calls prog 62 #[v] w λe w'=>e=.returned (.int .i64 (aW bs:Nat))/\Below w.heap.size w w':=by
 obtain⟨f,l,g,j,rfl,_⟩:=h.out;have k:=jD a;clear h;obtain⟨P,d⟩:=ae (aW bs);rw[<-d] at k c⊢;clear d;have:max (P:Int) 1=(P:Int):=by omega
 have:¬(P:Int)<1:=by omega
 have i:=ah (w:=w) (.cells #[.slice f bs.length l,.slice g bs.length j,.int .i64 (P:Int)] dh);go_enter func62,ntmps62;go_wp2;go_ret;exact⟨rfl,i⟩
def VT {u:Value} (h:gB w v bs) (g:bG w u (bO l)) (B:aW bs<=1073741824) (C:∀b∈bs,1<=b) (I:l.length<1099511627776) (aq:bs.length<1099511627776) :
 Calls prog 85 #[v,u] w λe w'=>e=.returned (.tuple #[.int .i64 (if wX bs l then (gU bs l bs.length:Nat) else (0:Nat)),.bool (wX bs l)])/\Below w.heap.size w w':=by
 obtain⟨x1,Ao,rfl,_,N⟩:=bG.nN g;obtain⟨Y,U,X,V,rfl,_,ao,ap,K,R⟩:=h.out;have HX:=aa N;have am:=aa K;have ad:=aa R;have:=aa C;clear h N K R g C;have W:=ah (w:=w) (.cells #[.slice Y bs.length U,.slice X bs.length V,.int .i64 (aW bs:Nat)] dh);have T:qj (w.alloc (.cells #[.slice Y bs.length U,.slice X bs.length V,.int .i64 (aW bs:Nat)] dh)) w.heap.size (.slice Y bs.length U) (.slice X bs.length V) (.int .i64 (aW bs:Nat)) dh:=⟨heap_alloc_new' _ _ _ rfl⟩;obtain⟨P,hP⟩:=ae (aW bs);rw[<-hP] at B W T⊢;have HP:=aa hP;clear hP;obtain⟨e0,e1,e2⟩:=T.cell;by_cases k:l.length=bs.length
 ·have E:=Hz (bs:=bs) (l:=l);rw[<-HP.out] at E;have Qo:=aa E;have ab:=aa k;rw[k] at I⊢;have VI:=aa (oF bs l);have VF:=aa (λ(j:Nat) (A:j<l.length) (s:j<bs.length)=>Ol (bs:=bs) (l:=l) A s);clear k E;go_enter func85,ntmps85;go_wp2_with fail
  go_loopw [6,17] (λo i wr=>∃j:Nat,j<=bs.length/\i=.int .i64 j/\o=.int .i64 (gU bs l j*aW (bs.drop j):Nat)/\(∀t (A:t<l.length) (s:t<bs.length),t<j->0<=l[t]/\l[t]<(bs[t]:Int))/\Below w.heap.size w wr/\
   qj wr w.heap.size (.slice Y bs.length U) (.slice X bs.length V) (.int .i64 (P:Int)) dh)
   (λ_ i _=>bs.length-(intOf i).toNat)
  case atStart=>exact⟨0,Nat.zero_le _,rfl,by simp[gU],λ_ _ _ h=>by omega,W,T⟩
  case round=>
   clear e0 e1 e2 W T;obtain⟨j,hj,rfl,rfl,z,F,JX⟩:=hrel;have Z:=aa z;have k:=ab.out;obtain⟨e0,e1,e2⟩:=JX.cell;by_cases m:j<bs.length
   ·have y:j<l.length:=by omega
    obtain⟨b1,o1,rfl,ai,k1⟩:=HX.out j y;obtain⟨b2,o2,rfl,af,k2⟩:=am.out j m;obtain⟨b3,o3,rfl,al,k3⟩:=ad.out j m;have k1:=(F.cell (p:=⟨b1,o1+j,none⟩) ai).trans k1;have k2:=(F.cell (p:=⟨b2,o2+j,none⟩) af).trans k2;have k3:=(F.cell (p:=⟨b3,o3+j,none⟩) al).trans k3;have c:=Qo.out j (by omega) (by omega) z;rw[lY m] at c;have q:=lY m;have r:gU bs l (j+1)=gU bs l j*bs[j]+l[j].toNat:=by
     simp only[gU,List.getElem?_eq_getElem m,List.getElem?_eq_getElem y,Option.getD_some]
    rw[q];have H:=aa r;have ag:=aa (VF.out j y m);have HD:=aa (show ∀t (A:t<l.length) (s:t<bs.length),t=j->l[t]=l[j]'y/\bs[t]=bs[j] from λt A s e=>by subst e;exact⟨rfl,rfl⟩);generalize l[j]=d at *;generalize bs[j]=b at *;clear q r z;obtain⟨Q,hQ⟩:=ae (aW (bs.drop (j+1)));obtain⟨Hj,D⟩:=ae (gU bs l j);rw[<-hQ] at k3 c⊢;rw[<-D] at c H⊢;have HQ:=aa hQ;have:=aa D;clear hQ D;by_cases f:d<0\/(b:Int)<=d
    ·have J:=ag.out f;by_cases x:d<0
     ·have L:decide (d<0)=true:=decide_eq_true x;clear f c Z;go_wp2 <;> (go_ret2;exact⟨rfl,F⟩)
     have L:decide (d<0)=false:=decide_eq_false x;have aj:(b:Int)<=d:=by omega
     have ak:decide ((b:Int)<=d)=true:=decide_eq_true aj;clear f c Z;go_wp2 <;> (go_ret2;exact⟨rfl,F⟩)
    have x:0<=d:=by omega
    obtain⟨n,rfl⟩:∃n:Nat,d=n:=⟨d.toNat,by omega⟩;have S:n<b:=by omega
    have L:decide ((n:Int)<0)=false:=decide_eq_false (by omega);have ak:decide ((b:Int)<=(n:Int))=false:=decide_eq_false (by omega);have a:=SH c S B;have G:=ZJ (h:=Hj) (b:=b) (Q:=Q) (n:=n);obtain⟨M,hM⟩:=ae (n*Q);obtain⟨O,hO⟩:=ae (Hj*(b*Q));rw[<-hM,<-hO] at a G;have:wrap64 ((n:Int)*(Q:Int))=(M:Int):=by rw[<-Int.natCast_mul,<-hM];exact wr1 (Nat.lt_of_le_of_lt (Nat.le_add_left _ _) a)
    have ac:=wr2 a;rw[<-hO];have an:=aa G;have Zb:=aa S;clear hM hO f c x a G;go_wp2;go_roundw
    case rel=>
     rw[ac,an.out,HQ.out];have r:=H.out;rw[Int.toNat_natCast] at r;refine⟨j+1,by omega,rfl,by rw[r],λt A s ht=>?_,F,JX⟩;by_cases e:t=j
     ·obtain⟨g1,g2⟩:=HD.out t A s e;rw[g1,g2];have:=Zb.out;exact⟨by omega,by omega⟩
     exact Z.out t A s (by omega)
    case measure=>simp[intOf];omega
   obtain rfl:j=bs.length:=by omega
   have J:wX bs l=true:=VI.out.2 ⟨k,λt A s=>Z.out t A s s⟩;have hd:aW (bs.drop bs.length)=1:=by rw[List.drop_length];rfl
   rw[hd,Nat.mul_one];clear z;go_wp2;go_ret2;exact⟨rfl,F⟩
 have:((l.length:Int)==(bs.length:Int))=false:=beq_eq_false_iff_ne.2 (by omega);have J:wX bs l=false:=by
  cases J:wX bs l
  ·rfl
  exact absurd ((oF bs l).1 J).1 k
 rw[J];go_enter func85,ntmps85;go_wp2;go_ret2;exact⟨rfl,W⟩
end Go.Proofs.YtmnimbnojdndmaaGreatDoor
namespace Go.Proofs.YtmnimbnojdndmaaGreatDoor
open Go.RowKit Go.Cd
def D7 (l:List Int):List Nat:=l.map Int.toNat
@[simp] theorem abD (l:List Int):(D7 l).length=l.length:=by simp[D7]
end Go.Proofs.YtmnimbnojdndmaaGreatDoor
namespace Go.Proofs.YtmnimbnojdndmaaGreatDoor
open Go.RowKit Go.Cd _root_.Go.Proofs.Tryz
variable {w:World} {v:Value} {x:Nat} {l:List Nat}
def ZK (b off len cap:Nat) (i:Nat) (z:Int) (w:World) (d:i<len)
 (f:b<w.heap.size) (g:w.cell? ⟨b,off+i,none⟩=some (.int .u32 z)) (c:0<=z) (a:z<4294967296) :
 Calls prog 47 #[.agg #[.slice (some ⟨b,off,none⟩) len cap],.int .i64 i] w λe w'=>e=.returned (.int .u64 z)/\Below w.heap.size w w':=by
 go_enter func47,ntmps47;go_wp2;go_ret;exact⟨rfl,(Below.refl _ _).alloc (Nat.le_refl _) _⟩
def VU (a:Option Addr) (len cap:Nat) (i:Nat) (w:World) (b:¬i<len) :
 Calls prog 47 #[.agg #[.slice a len cap],.int .i64 i] w λe w'=>e=.returned (.int .u64 0)/\Below w.heap.size w w':=by
 go_enter func47,ntmps47;go_wp2;go_ret;exact⟨rfl,(Below.refl _ _).alloc (Nat.le_refl _) _⟩
def sw (h:bT w v x) (i:Nat) :
 Calls prog 47 #[v,.int .i64 i] w λe w'=>e=.returned (.int .u64 (oJ B x i:Nat))/\Below w.heap.size w w':=by
 obtain⟨s,rfl,g⟩:=h;obtain⟨a,cap,rfl,k,j⟩:=g.out;rw[dG] at *;by_cases d:i<(bY B x).length
 ·obtain⟨b,off,rfl,f,c⟩:=j i (by simpa using d);have e:(gY (bY B x))[i]'(by simpa using d)=.int .u32 (oJ B x i:Nat):=by
   have:=UE bE x i;rw[List.getElem?_eq_getElem d] at this;simp only[Option.getD_some] at this;simp[gY,this]
  rw[e] at c;exact ZK b off _ cap i _ w d f c (by omega) (by have:=xI bE x i;unfold B at this⊢;omega)
 have e:oJ B x i=0:=by
  have:=UE bE x i;rw[List.getElem?_eq_none (by omega)] at this;simpa using this.symm
 rw[e];exact VU a _ cap i w d
def Om (b off len cap:Nat) (l:List Nat) (w:World) (a:l.length=len) (r:len<1099511627776) (B:b<w.heap.size) (q:len<=cap)
 (t:∀i (A:i<l.length),w.cell? ⟨b,off+i,none⟩=some (.int .u32 (l[i]:Nat))) :
 Calls prog 48 #[.slice (some ⟨b,off,none⟩) len cap] w λe w'=>∃n:Nat,n<=len/\(∀j (_:n<=j) (g:j<l.length),l[j]=0)/\(n=0\/l[n-1]?≠some 0)/\
  e=.returned (.agg #[.slice (some ⟨b,off,none⟩) n n])/\Below w.heap.size w w':=by
 have u:=aa a;clear a;go_enter func48,ntmps48;go_wp2;go_loop [3] (λn=>∃k:Nat,k<=len/\n=.int .i64 k/\(∀j (_:k<=j) (g:j<l.length),l[j]=0)) (λn=>(intOf n).toNat)
 case atStart=>exact⟨len,Nat.le_refl _,rfl,λj m d=>by have:=u.out;omega⟩
 case round=>
  obtain⟨k,s,rfl,o⟩:=hrel;have f:=aa o;clear o;by_cases x:0<k
  ·obtain⟨z,c⟩:∃z,l[k-1]? = some z:=⟨_,List.getElem?_eq_getElem (by have:=u.out;omega)⟩;have h:w.cell? ⟨b,off+(k-1),none⟩=some (.int .u32 (z:Nat)):=by
    obtain⟨m,d⟩:=List.getElem?_eq_some_iff.1 c;rw[t _ m,d]
   have p:=aa c;clear c t;by_cases h0:z=0
   ·subst h0;go_wp2;go_round
    case rel=>exact⟨k-1,by omega,by go_num,λj m d=>by
     by_cases g:j=k-1
     ·subst g;have:=p.out;rw[List.getElem?_eq_getElem d] at this;simpa using this
     exact f.out j (by omega) d⟩
    case measure=>simp[intOf];omega
   have y:((z:Int)==0)=false:=by simpa using h0
   go_wp2;exact bodyPost_ret (v:=.agg #[.slice (some ⟨b,off,none⟩) k k]) (by simp[results,results48,go_sem]) rfl ⟨k,s,f.out,.inr (by rw[p.out];simpa using h0),rfl,ah _⟩
  go_wp2;exact bodyPost_ret (v:=.agg #[.slice (some ⟨b,off,none⟩) k k]) (by simp[results,results48,go_sem]) rfl ⟨k,s,f.out,.inl (by omega),rfl,ah _⟩
def SI (a:Option Addr) (cap:Nat) (w:World) :
 Calls prog 48 #[.slice a 0 cap] w λe w'=>e=.returned (.agg #[.slice a 0 0])/\Below w.heap.size w w':=by
 go_enter func48,ntmps48;go_wp2;refine wp_loop_rounds 1 ?_;rw[rounds_succ];go_wp2;exact bodyPost_ret (v:=.agg #[.slice a 0 0]) (by simp[results,results48,go_sem]) rfl ⟨rfl,ah _⟩
def gP (l:List Nat) (i:Nat) (h:i<l.length):(gY l)[i]'(by simpa using h)=.int .u32 (l[i]:Nat):=by simp[gY]
def H8 (h:Sl nI w v (gY l)) (z:∀d∈l,d<B) (f:l.length<1099511627776) :
 Calls prog 48 #[v] w λe w'=>∃r,e=.returned r/\bT w' r (val B l)/\Below w.heap.size w w':=by
 obtain⟨a,cap,rfl,y,o⟩:=h;rw[dG] at *;rcases o with⟨o,C⟩|⟨b,off,s,u,rfl,m,p⟩
 ·obtain rfl:l=[]:=by simpa [gY] using o
  refine(SI a cap w).mono ?_;rintro e w'⟨rfl,k⟩;exact⟨_,rfl,⟨_,rfl,by rw[show val B []=0 from rfl,di];exact .nil _ _ _ _ (λ_=>rfl)⟩,k⟩
 refine(Om b off l.length cap l w rfl f (block_lt m) y λi g=>?_).mono ?_
 ·unfold World.cell?;rw[m];have:=p i (by simpa using g);rw[gP _ _ g] at this;simpa using this
 rintro e w'⟨n,x,q,h0,rfl,k⟩
 have t:bY B (val B l)=l.take n:=Dy bE l n z (λd hd=>by
  obtain⟨j,A,rfl⟩:=List.mem_iff_getElem.1 hd;rw[List.getElem_drop]
  exact q _ (by omega) _) x h0
 refine⟨_,rfl,⟨_,rfl,?_⟩,k⟩;rw[t];have c:(gY (l.take n)).length=n:=by simp;omega
 refine⟨_,n,by rw[c],by rw[c];exact Nat.le_refl _,.inr ⟨b,off,s,u,rfl,by rw[k.block b (block_lt m)];exact m,λi g=>?_⟩⟩;rw[c] at g;rw[p i (by simp;omega)];simp[gY]
def VV (w:World) (a:Option Addr) (n c:Nat):(Go.binOp .eql 42 (.slice a n c) (.slice none 0 0)).run prog w=.ok (.bool a.isNone) w:=
 Lib.run_eql_slice_nil w 42 109 a n c 0 0 underlying42
def Le (h:bG w v (gY l)) (j:l.length<1099511627776) :
 Calls prog 91 #[v] w λe w'=>∃r,e=.returned r/\w'.ownsRow w.heap.size nI 1 r l.length (gY l)/\Below w.heap.size w w':=by
 obtain⟨a,cap,rfl,o,f⟩:=id h;have g:=dG l;rw[g] at h o;rw[g];have:=VV;cases a with
 | none=>
   have h0:l=[]/\cap=0:=by
    rcases f with f|⟨b,off,q,_,p,m,_⟩
    ·exact⟨by simpa [gY] using f.1,f.2 rfl⟩
    cases m
   obtain⟨rfl,rfl⟩:=h0;clear f h g;go_enter func91,ntmps91;go_wp2;go_ret;exact⟨_,rfl,World.ownsRow_nil _ _ _ _,Below.refl _ _⟩
 | some ad=>
   have H:=aa h;clear f h g;go_enter func91,ntmps91;go_wp2_with (at_builtin;refine bR rfl _ _ 42 rfl w.heap.size nI _ 4 Gy (.slice (some ⟨w.heap.size,0,none⟩) 0 0) 0 [] rfl (rM _ _) _ (gY l) rfl (H.out.mono (ah _)) (Gx l) (by rw[dG];unfold maxLen;omega) (by rw[dG];omega) (by simp) ?_;intro v' w' c d);rw[dG,Nat.zero_add,List.nil_append] at c;go_wp2;go_ret;exact⟨_,rfl,c,(ah _).grown d (by simp) (λk n=>Nat.le_of_eq (Option.some.inj n))⟩
def VW (h:Sl nI w v (gY l)) (x:∀d∈l,d<B) (c:l.length<1099511627776) :
 Calls prog 60 #[v] w λe w'=>∃r,e=.returned r/\bT w' r (val B l)/\Below w.heap.size w w':=by
 go_enter func60,ntmps60;go_wp2_with fail;refine(Le (h.any.mono (ah _)) c).mono ?_;rintro e y⟨r,rfl,b,g⟩;go_wp2_with fail;refine(H8 (Sl.aU b) x c).mono ?_;rintro e q⟨A,rfl,i,f⟩;obtain⟨a,n,cap,rfl,p⟩:=i.out;have j:=af g f;have k:q.heap[w.heap.size]? = some (.cells #[.slice none 0 0] 44):=(j.block _ (by simp)).trans (Qa _ _);have s:=p.put (o:=0) (u:=.slice a n cap) k (by decide);have t:=aj (off:=0) (u:=.slice a n cap) ((ah _).trans (j.mono (by simp))) (Nat.le_refl _);have m:=Jl (o:=0) (u:=.slice a n cap) k (by decide);obtain⟨z,hf⟩:=abg j;clear k b g f j p i h;go_wp2;exact bodyPost_ret (v:=.agg #[.slice a n cap]) (by simp[results,results60,go_sem,m]) rfl ⟨_,rfl,s,t⟩
def uf (x:Nat) (A:x<18446744073709551616) (w:World) :
 Calls prog 14 #[.int .u64 x] w λe w'=>∃r,e=.returned r/\bT w' r x/\Below w.heap.size w w':=by
 have c:∀d∈[x % B,x / B % B],d<B:=by
  intro d hd;simp only[List.mem_cons,List.not_mem_nil,or_false] at hd;rcases hd with rfl|rfl <;> exact Nat.mod_lt _ (by decide)
 have k:val B [x % B,x / B % B]=x:=by
  simp only[val,B];omega
 have h:=aa k;have o:=aa c;clear k c;go_enter func14,ntmps14;go_wp2_with fail;refine(H8 (l:=[x % B,x / B % B]) ⟨_,2,rfl,Nat.le_refl _,.inr ⟨_,0,_,_,rfl,heap_alloc_new' _ _ _ (by simp),?_⟩⟩ o.out (by simp)).mono ?_
 ·intro i p
  match i,p with
  | 0,_=>simp[gY,B]
  | 1,_=>simp[gY,B];omega
 rintro e q⟨y,rfl,b,f⟩;rw[h.out] at b;obtain⟨a,n,cap,rfl,j⟩:=b.out;have m:q.heap[w.heap.size]? = some (.cells #[.slice none 0 0] 44):=(f.block _ (by simp;omega)).trans ((heap_alloc_old _ _ (by simp)).trans (Qa _ _));obtain⟨g,s⟩:=oN m (by decide) j;have t:=aj (off:=0) (u:=.slice a n cap) ((dH _ _).trans (f.mono (by simp;omega))) (Nat.le_refl _);obtain⟨z,hf⟩:=abg f;clear m f j b h o;go_wp2;exact bodyPost_ret (v:=.agg #[.slice a n cap]) (by simp[results,results14,go_sem,g]) rfl ⟨_,rfl,s,t⟩
def zR (h:bT w v x) (c:(bY B x).length<1099511627776) :
 Calls prog 59 #[v] w λe w'=>∃r,e=.returned r/\w'.ownsRow (w.heap.size+1) nI 1 r (bY B x).length (gY (bY B x))/\Below w.heap.size w w':=by
 obtain⟨s,rfl,f⟩:=h;obtain⟨a,cap,rfl,_⟩:=id f;rw[dG] at *;have H:=aa f;clear f;go_enter func59,ntmps59;go_wp2_with fail;refine(Le (H.out.any.mono (ah _)) c).mono ?_;rintro e g⟨r,rfl,b,d⟩;go_wp2;go_ret;exact⟨_,rfl,by simpa using b,(ah _).trans (d.mono (by simp))⟩
def ZL (h:bT w v x) :
 Calls prog 20 #[v] w λe w'=>e=.returned (.bool (x==0))/\Below w.heap.size w w':=by
 obtain⟨a,n,cap,rfl,h⟩:=h.out;have c:=h.len;have b:((n:Int)==0)=(x==0):=by
  rw[Bool.eq_iff_iff];simp[c,<-yS bE (x:=x)]
 have d:=aa b;clear h c b;go_enter func20,ntmps20;go_wp2;go_ret;exact⟨dV d.out,ah _⟩
end Go.Proofs.YtmnimbnojdndmaaGreatDoor
