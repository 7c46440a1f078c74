/- Texts that are alike cost, and count, the same; no condition. -/
import Derived.Test.YtmnimbnojdndmaaGreatDoorU13
import Derived.Test.YtmnimbnojdndmaaGreatDoorU06
import Derived.Deep.Cut
import Derived.Deep.CutRange
import Derived.Deep.CutBlock
set_option maxRecDepth 100000
set_option maxHeartbeats 6400000
set_option linter.all false
namespace Go.Proofs.YtmnimbnojdndmaaGreatDoor
section
open Go.RowKit Go.Cd Go.Shelf _root_.Go.Proofs.Tryz
attribute [local go_sem] Oper.semAt_some
def acM (F:Fence) (m:Nat) (E:F.fn 168) (u:F.round=none) (P:1<=m) (l Bs b off n cap:Nat) (z:n<1099511627776) {α:Type} (q:Nat->α) (c:α->Array Value) (val:Nat->Int)
 (g:∀j,j<n->c (q j)=#[.int .i64 (j:Int),.int .i64 (val j)]) (J A:List α->World->Prop)
 (L:∀a x W,J a W->a.length<n->YieldAt F (m-1) prog l (c x) W λe f=>
   (e=.returned (.bool true)/\J (a++[x]) f/\lM Bs b W f)\/(e=.returned (.bool false)/\A (a++[x]) f))
 (W:World) (I:W.cell? ⟨Bs,0,none⟩=some (.slice (some ⟨b,off,none⟩) n cap)) (N:∀j,j<n->W.cell? ⟨b,off+j,none⟩=some (.int .i64 (val j))) (h0:J [] W) :
 CallsIn F m prog 168 #[.func (.yield l) #[] #[],.pointer (some ⟨Bs,0,none⟩)] W λe f=>(∃v,e=.returned v)/\
  ((∃B,B=mE q n n/\J B f)\/(∃a,(∃k,k<=n/\a=mE q n k)/\A a f)):=by
 refine callsIn_of_wp func168 rfl E ?_ u;simp only[ntmps168,py,hU,ki,Nat.reduceAdd,Nat.reduceSub,ot,oe,pz,oR,ks,ld]
 gi_wp2
 gi_loopw [3] (λi wr=>∃k:Nat,k<=n/\i=.int .i64 ((n:Int)-1-(k:Int))/\J (mE q n k) wr/\lM Bs b W wr)
  (λi _=>(intOf i+1).toNat)
 case atStart=>exact⟨0,gW _,by simp,h0,lM.refl _ _ _⟩
 case round=>
  obtain⟨k,R,rfl,o,d⟩:=hrel;have t:=(d.cellP 0).trans I;by_cases y:k<n
  ·obtain⟨i,C⟩:∃i:Nat,(n:Int)-1-(k:Int)=(i:Int):=⟨n-1-k,by omega⟩;have p:i<n:=by omega
   have r:n-1-k=i:=by omega
   have:=(d.ae8 (off+i)).trans (N i p);obtain⟨O,tmps,assign,body,M,H⟩:=L _ (q i) wr o (by rw[zu];exact y);rw[g i p] at M;rw[C];clear C
   gi_wp2
   refine H.mono ?_;rintro e Q (⟨rfl,w,s⟩|⟨rfl,h⟩)
   ·have:=(s.cellP 0).trans t
    gi_wp2
    go_roundw
    case rel=>exact⟨k+1,by omega,congrArg (Value.int .i64) (by omega),by rw[aaV,r];exact w,d.trans s⟩
    case measure=>simp[intOf]
   gi_wp2
   refine bodyPost_ret (results_none rfl _ _ _) rfl ?_;exact⟨⟨_,rfl⟩,.inr ⟨_,⟨k+1,by omega,by rw[aaV,r]⟩,h⟩⟩
  obtain rfl:k=n:=by omega
  have G:(k:Int)-1-(k:Int)=-1:=by omega
  rw[G]
  gi_wp2
  go_end0
  exact⟨⟨_,rfl⟩,.inl ⟨_,rfl,o⟩⟩
def Zz (F:Fence) (m:Nat) (f:F.fn 168) (b:F.round=none) (l Bs:Nat) (a:Option Addr) (cap:Nat) {α:Type} (J:List α->World->Prop) (W:World) (g:W.cell? ⟨Bs,0,none⟩=some (.slice a 0 cap)) (h0:J [] W) :
 CallsIn F m prog 168 #[.func (.yield l) #[] #[],.pointer (some ⟨Bs,0,none⟩)] W λe d=>(∃v,e=.returned v)/\J [] d:=by
 refine callsIn_of_wp func168 rfl f ?_ b;simp only[ntmps168,py,hU,ki,Nat.reduceAdd,Nat.reduceSub,ot,oe,pz,oR,ks,ld]
 gi_wp2
 gi_loopw [3] (λi wr=>i=.int .i64 (-1)/\J [] wr) (λ_ _=>0)
 case atStart=>exact⟨rfl,h0⟩
 case round=>
  obtain⟨rfl,c⟩:=hrel
  gi_wp2
  go_end0
  exact⟨⟨_,rfl⟩,c⟩
def Ht (v:Value) (w:World) (b:∃a n cap,v=.slice a n cap) :
 Calls prog 127 #[v] w λe w'=>e=.returned (.func (.func 168) #[] #[.pointer (some ⟨w.heap.size,0,none⟩)])/\w'=w.alloc (.cells #[v] 23):=by
 obtain⟨a,n,cap,rfl⟩:=b;go_enter func127,ntmps127;go_wp2;go_ret;exact⟨rfl,rfl⟩
def Cc (b:Nat) (W:World) (sv:Value) (n:Nat) (val:Nat->Int):Prop:=
 (n=0/\∃a cap,sv=.slice a 0 cap)\/∃off cap,sv=.slice (some ⟨b,off,none⟩) n cap/\b<W.heap.size/\∀j,j<n->W.cell? ⟨b,off+j,none⟩=some (.int .i64 (val j))
def Cc.below {b:Nat} {A B:World} (h:Below A.heap.size A B) {a:Value} {n:Nat} {val:Nat->Int}:Cc b A a n val->Cc b B a n val
 | .inl e=>.inl e
 | .inr ⟨off,cap,e,hb,hc⟩=>.inr ⟨off,cap,e,j9 hb h.size,λj c=>(h.cell (p:=⟨b,off+j,none⟩) hb).trans (hc j c)⟩
def Lb (F:Fence) (m:Nat) (r:F.fn 168) (g:F.round=none) (y:1<=m) (Bs b:Nat) (t:Value) (n:Nat) (f:n<1099511627776) {α:Type} (i:Nat->α) (c:α->Array Value) (val:Nat->Int)
 (d:∀j,j<n->c (i j)=#[.int .i64 (j:Int),.int .i64 (val j)]) (w:World) (z:Bs<w.heap.size) (B:w.cell? ⟨Bs,0,none⟩=some t) (hI:Cc b w t n val) :
 SeqStopsK F m prog 168 #[.pointer (some ⟨Bs,0,none⟩)] c (lM Bs b) (λx=>x=mE i n n) (λo=>∃k,k<=n/\o=mE i n k) n w:=λl J u W s _ _ A h0=>by
 have h:=(s.cell (p:=⟨Bs,0,none⟩) z).trans B;rcases hI.below s with⟨rfl,a,cap,rfl⟩|⟨off,cap,rfl,E,q⟩
 ·exact(Zz F m r g l Bs a cap J W h h0).mono λe D ⟨C,v⟩=>⟨C,.inl ⟨_,rfl,by simpa [mE] using v⟩⟩
 exact acM F m r g y l Bs b off n cap f i c val d J u A W h q h0
end
section
open Go.RowKit Go.Cd Go.Shelf
variable {n k:Nat} {W:World} {a b c:Value} {T:TypeId} {bs:List Nat}
attribute [local go_sem] Oper.semAt_some
def ZA {P:Program} {ops:Array Oper} {md:Region.Mode} {head:Array Bool} {Q:Exit->Act->World->Prop} {T:Array Bool->Act->World->Prop} (i k:Nat) {o u:Oper} {b:Array Bool} {a:Act} {w:World}
 (h:∀w',Below w.heap.size w w'->wpList P ops (QE Q w' (Hm P md ops head Q T n (b.setIfInBounds i true))) [o] a w') (l:∀w',Below w.heap.size w w'->wpList P ops (QE Q w' (Hm P md ops head Q T n (b.setIfInBounds k true))) [u] a w') (g:(Region.ready md ops b==[i,k]&&(head.getD i false&&head.getD k false))=true:=by kernel_rfl) (p:nth ops.toList i=some o:=by rfl) (m:nth ops.toList k=some u:=by rfl):Hm P md ops head Q T (n+1) b a w:=by
 simp only[jn,beq_iff_eq] at g;obtain⟨f,e⟩:=g;intro w' c;refine⟨by rw[f];simp,λj d=>?_⟩;rw[f] at d;simp only[jf,km,or_false] at d;rcases d with rfl|rfl
 ·exact⟨e.1,qA (fM p) (h w' c)⟩
 exact⟨e.2,qA (fM m) (l w' c)⟩
abbrev dh:TypeId:=88
structure qj (W:World) (k:Nat) (a b c:Value) (T:TypeId):Prop where
 at_:W.heap[k]? = some (.cells #[a,b,c] T)
def qj.cell (h:qj W k a b c T):W.cell? ⟨k,0,none⟩=some a/\W.cell? ⟨k,1,none⟩=some b/\W.cell? ⟨k,2,none⟩=some c:=by
 refine⟨?_,?_,?_⟩ <;> (unfold World.cell?;rw[h.at_];rfl)
def qj.frozen (h:qj W k a b c T) (o:Nat):W.frozen? ⟨k,o,none⟩=false:=by
 unfold World.frozen?;rw[h.at_];simp
def qj.set0 (h:qj W k a b c T) (u:Value):qj (W.setCell ⟨k,0,none⟩ u) k u b c T:=⟨heap_setCell_same W k 0 _ _ _ h.at_⟩
def qj.set1 (h:qj W k a b c T) (u:Value):qj (W.setCell ⟨k,1,none⟩ u) k a u c T:=⟨heap_setCell_same W k 1 _ _ _ h.at_⟩
def qj.set2 (h:qj W k a b c T) (u:Value):qj (W.setCell ⟨k,2,none⟩ u) k a b u T:=⟨heap_setCell_same W k 2 _ _ _ h.at_⟩
def qj.put (h:qj W k a b c T) {j o:Nat} (d:k≠j) (u:Value):qj (W.setCell ⟨j,o,none⟩ u) k a b c T:=⟨(i_ _ _ _ _ (by simp only;omega)).trans h.at_⟩
def qj.mono {d:World} (h:qj W k a b c T) (e:Below W.heap.size W d):qj d k a b c T:=⟨(e.block k (block_lt h.at_)).trans h.at_⟩
def qj.writes (h:qj W k a b c T):(W.cell? ⟨k,0,none⟩=some a/\W.frozen? ⟨k,0,none⟩=false)/\
 (∀u,(W.setCell ⟨k,0,none⟩ u).cell? ⟨k,1,none⟩=some b/\(W.setCell ⟨k,0,none⟩ u).frozen? ⟨k,1,none⟩=false)/\
 (∀u d,((W.setCell ⟨k,0,none⟩ u).setCell ⟨k,1,none⟩ d).cell? ⟨k,2,none⟩=some c/\((W.setCell ⟨k,0,none⟩ u).setCell ⟨k,1,none⟩ d).frozen? ⟨k,2,none⟩=false):=
 ⟨⟨h.cell.1,h.frozen 0⟩,λu=>⟨(h.set0 u).cell.2.1,(h.set0 u).frozen 1⟩,λu d=>⟨((h.set0 u).set1 d).cell.2.2,((h.set0 u).set1 d).frozen 2⟩⟩
def abl {u:Value} (h:W.heap[k]? = some (.cells #[u] T)):W.cell? ⟨k,0,none⟩=some u/\W.frozen? ⟨k,0,none⟩=false:=by
 constructor
 ·unfold World.cell?;rw[h];rfl
 unfold World.frozen?;rw[h];rfl
abbrev BX (n:Nat):={ p:Nat×Nat // (p.1<n\/n=0)/\1<=p.2/\p.2<9223372036854775808 }
def Hu (n:Nat) (pre:List (BX n)):List Nat×Nat:=pre.foldl (λs x=>(s.1.set x.1.1 s.2,s.2*x.1.2)) (List.replicate n 0,1)
def Lc (a:List (BX n)) (x:BX n):Hu n (a++[x])=((Hu n a).1.set x.1.1 (Hu n a).2,(Hu n a).2*x.1.2):=by simp[Hu]
def ZB (a:List (BX n)):(Hu n a).1.length=n:=by
 unfold Hu;have:∀(l:List (BX n)) (s:List Nat×Nat),(l.foldl (λs x=>(s.1.set x.1.1 s.2,s.2*x.1.2)) s).1.length=s.1.length:=by
  intro l
  induction l with
  | nil=>intro s;rfl
  | cons x l ih=>intro s;rw[ox,ih];simp
 rw[this];simp
def ZC (bs:List Nat) (j:Nat):BX bs.length:=
 if h:j<bs.length/\1<=bs[j]?.getD 0/\bs[j]?.getD 0<9223372036854775808 then ⟨(j,bs[j]?.getD 0),.inl h.1,h.2.1,h.2.2⟩
 else ⟨(0,1),by simp only;omega,by decide,by decide⟩
def Hw (d:∀b∈bs,1<=b) (c:∀b∈bs,b<9223372036854775808) {j:Nat} (a:j<bs.length):(ZC bs j).1=(j,bs[j]):=by
 have e:bs[j]?.getD 0=bs[j]:=by rw[gA a];rfl
 unfold ZC;rw[dif_pos ⟨a,by rw[e];exact d _ (gx _),by rw[e];exact c _ (gx _)⟩];simp only[e]
def aW:List Nat->Nat
 | []=>1
 | b::bs=>b*aW bs
def weights:List Nat->List Nat
 | []=>[]
 | _::bs=>aW bs::weights bs
@[simp] theorem Ce:∀bs:List Nat,(weights bs).length=bs.length
  | []=>rfl
  | _::bs=>by simp[weights,Ce bs]
def jD:∀{bs:List Nat},(∀b∈bs,1<=b)->1<=aW bs
 | [],_=>gw _
 | b::bs,h=>pT (h b (by simp)) (jD λc a=>h c (by simp[a]))
def Cf:∀{bs:List Nat},(∀b∈bs,1<=b)->∀k,aW (bs.drop k)<=aW bs
 | [],_,k=>by simp
 | b::bs,_,0=>by simp
 | b::bs,h,k+1=>by
   have:=Cf (bs:=bs) (λc a=>h c (by simp[a])) k;have:=Nat.le_mul_of_pos_left (aW bs) (h b (by simp));simp only[ye,aW];omega
def Oh (c:∀b∈bs,1<=b) (d:∀b∈bs,b<9223372036854775808):∀k,k<=bs.length->
 Hu bs.length (mE (ZC bs) bs.length k)=(List.replicate (bs.length-k) 0++weights (bs.drop (bs.length-k)),aW (bs.drop (bs.length-k)))
 | 0,_=>by
   rw[Nat.sub_zero,qT];show Hu bs.length []=_;simp[Hu,weights,aW]
 | k+1,hk=>by
   have e:=Oh c d k (by omega);rw[aaV,Lc,e];obtain⟨i,g⟩:=ae (bs.length-1-k);have f:bs.length-k=i+1:=by omega
   have j:bs.length-(k+1)=i:=by omega
   have a:i<bs.length:=by omega
   rw[<-g,Hw c d a,f,j];have h:bs.drop i=bs[i]::bs.drop (i+1):=iz a;rw[h];simp only[weights,aW];rw[mS];congr 1;rw[x6 _ _ (by simp),List.replicate_succ',k_ _ _ (by simp)];simp
def gB (w:World) (v:Value) (bs:List Nat):Prop:=∃s1 s2,v=.agg #[s1,s2,.int .i64 (aW bs:Nat)]/\bG w s1 (ds bs)/\bG w s2 (ds (weights bs))
def gB.mono {w w':World} {v:Value} (h:gB w v bs) (a:Below w.heap.size w w'):gB w' v bs:=by
 obtain⟨s1,s2,c,d,b⟩:=h;exact⟨s1,s2,c,d.mono a,b.mono a⟩
def Ld (e:∀b∈bs,1<=b) (h:∀b∈bs,b<9223372036854775808) (r:k<=bs.length) {d:List (BX bs.length)} {a:BX bs.length} (g:mE (ZC bs) bs.length k=d++[a])
 (f:1073741824 / (Hu bs.length d).2<a.1.2):1073741824<aW bs:=by
 cases k with
 | zero=>simp[mE] at g
 | succ k=>
   rw[aaV] at g;obtain⟨n,o⟩:=List.append_inj' g rfl;have j:ZC bs (bs.length-1-k)=a:=by simpa using o
   rw[<-n,Oh e h k (by omega),<-j] at f;obtain⟨i,l⟩:=ae (bs.length-1-k);have c:i<bs.length:=by omega
   rw[<-l,Hw e h c,show bs.length-k=i+1 from by omega] at f;simp only at f;have hd:=Cf e i;rw[iz c] at hd;simp only[aW] at hd;have q:=jD (bs:=bs.drop (i+1)) (λb m=>e b (lz m));generalize aW (bs.drop (i+1))=p at *;generalize bs[i]=b at *;have s:1073741824<b*p:=by
    have:=Nat.lt_mul_of_div_lt f (by omega);exact this
   omega
end
section
open Go.RowKit Go.Cd Go.Shelf _root_.Go.Proofs.Tryz
attribute [local go_sem] Oper.semAt_some
def acN (bs:List Nat) (h:∀b∈bs,1<=b):((bs.map λb:Nat=>(b:Int)).any λb=>decide (b<1))=false:=by
 rw[zv];intro b d;obtain⟨c,a,rfl⟩:=jx.1 d;have:=h c a;simp;omega
def Hy (bs:List Nat):bO (bs.map λb:Nat=>(b:Int))=ds bs:=by simp[bO,ds]
def jE (w:World) (v:Value) (bs:List Nat):Prop:=∃s1 s2,v=.agg #[s1,s2,.int .i64 (aW bs:Nat)]/\Sl bB w s1 (ds bs)/\Sl bB w s2 (ds (weights bs))
def jE.weak {w:World} {v:Value} {bs:List Nat} (h:jE w v bs):gB w v bs:=by
 obtain⟨s1,s2,a,c,b⟩:=h;exact⟨s1,s2,a,c.any,b.any⟩
def jE.mono {w w':World} {v:Value} {bs:List Nat} (h:jE w v bs) (a:Below w.heap.size w w'):jE w' v bs:=by
 obtain⟨s1,s2,c,d,b⟩:=h;exact⟨s1,s2,c,d.mono a,b.mono a⟩
def ZF {w:World} {v:Value} {bs:List Nat} (h:bG w v (ds bs)) (al:bs.length<1099511627776) (am:∀b∈bs,1<=b) (H:∀b∈bs,b<9223372036854775808) :
 Calls prog 83 #[v] w λe w'=>∃(r:Value) (e0:Nat),e=.returned (.tuple #[r,.int .i64 e0])/\Below w.heap.size w w'/\((aW bs<=1073741824/\e0=0/\jE w' r bs)\/(1073741824<aW bs/\e0=4/\r=.agg #[.slice none 0 0,.slice none 0 0,.int .i64 0])):=by
 rw[<-Hy] at h;have hb:=dH (w:=w) (.cells #[.slice none 0 0,.slice none 0 0,.int .i64 0] dh) (.cells #[.int .i64 0] 38);have CF:=aa (Af (h.mono hb) (by simpa using al));have z2:((w.alloc (.cells #[.slice none 0 0,.slice none 0 0,.int .i64 0] dh)).alloc (.cells #[.int .i64 0] 38)).heap[w.heap.size]? = some (.cells #[.slice none 0 0,.slice none 0 0,.int .i64 0] dh):=((ah _).block _ (by simp)).trans (heap_alloc_new' _ _ _ rfl);have z3:((w.alloc (.cells #[.slice none 0 0,.slice none 0 0,.int .i64 0] dh)).alloc (.cells #[.int .i64 0] 38)).heap[w.heap.size+1]? = some (.cells #[.int .i64 0] 38):=heap_alloc_new' _ _ _ (by simp);rw[acN bs am] at CF;have CL:=aa (λ(W:World) (E:Below _ ((w.alloc (.cells #[.slice none 0 0,.slice none 0 0,.int .i64 0] dh)).alloc (.cells #[.int .i64 0] 38)) W)=>FM ((h.mono hb).mono E) (by simpa using al));rw[Hy,ia] at CL;obtain⟨x1,Ao,rfl,bg,_⟩:=bG.nN h;rw[ia] at *;have D5:=aa am;have ZG:=aa H;clear h am H;refine iW func83 rfl ?_;simp only[ntmps83,py,hU,ki,Nat.reduceAdd,Nat.reduceSub,ot,oe,pz,oR,ks,ld];go_wp2_with fail;refine CF.out.mono ?_;rintro e w2⟨rfl,I⟩;have y2:qj w2 w.heap.size (.slice none 0 0) (.slice none 0 0) (.int .i64 0) dh:=⟨(I.block _ (by simp <;> omega)).trans z2⟩;have y3:=(I.block _ (by simp)).trans z3;have T0:=AO w2;have aY:=aa (λ(W:World) (E:Below w2.heap.size w2 W)=>CL.out W (af I E));have ax:=af hb I;have N:w.heap.size+2<=w2.heap.size:=by have:=I.size;simp at this;omega
 clear CF CL I hb z2 z3;go_upto_region 3 with fail
 go_cut [4] from 10 to 15 (λpv y=>∃(X:Nat) (q:Option Addr) (t g:Nat),pv=.pointer (some ⟨X,0,none⟩)/\qj y X (.slice q bs.length t) (.slice (some ⟨g,0,none⟩) bs.length bs.length) (.int .i64 1) dh/\y.ownsRow 0 bB 1 (.slice q bs.length t) bs.length (ds bs)/\y.ownsRow 0 bB 1 (.slice (some ⟨g,0,none⟩) bs.length bs.length) bs.length (List.replicate bs.length (Value.int .i64 0))/\
  qj y w.heap.size (.slice none 0 0) (.slice none 0 0) (.int .i64 0) dh/\y.heap[w.heap.size+1]? = some (.cells #[.int .i64 0] 38)/\Below w.heap.size w y/\(Value.slice q bs.length t).ownBlock≠some g/\w2.heap.size<=g/\w2.heap.size<=X/\g≠X/\(Value.slice q bs.length t).ownBlock≠some X)
 case first=>
  refine aC #[true,true,true,true,true,true,true,false] 7 1 mixed ?_;have SE:=af T0 (ag _);refine ay [0,2,3] 4 ?_
  iterate 3 (refine aA rfl ?_;go_big_quiet_step (rfl))
  refine az ?_;refine Oe [6] (λ_ v W=>∃k,v=.pointer (some ⟨k,0,none⟩)/\W.heap[k]? = some (.cells #[.slice none 0 0,.slice none 0 0,.int .i64 0] dh)) rq 3 rfl (by kernel_rfl) (λ_ _ _ _ hb h=>wV hb h) ?_ ?_
  ·intro i hi o ho;simp only[jf,km,or_false] at hi;subst hi;cases ho;exact wU rfl rfl (λW=>by go_simp)
  refine ZA 1 4 ?_ ?_
  ·intro a7 aO;have aJ:=af SE aO;go_wp2_with fail;refine(aY.out _ aJ).mono ?_;rintro e bt⟨s1,rfl,C,SF⟩;obtain⟨q,t,rfl,_,_⟩:=bG.out (Sl.aU C).any;rw[nU] at *;go_wp2_with fail;refine aF SF ?_;have Uv:=af aJ SF;refine pI 4 ?_;intro L ZH;go_wp2_with (at_make;refine gm _ rfl _ _ 23 rfl L.heap.size bB _ 8 jI rfl .i64 .i64 _ _ bs.length rfl rfl (by omega) (by omega) (by omega) (by unfold maxLen;omega) (by simp) ?_;intro Oi G M);refine aF (fO M) ?_;have FN:=fO M;have Yo:=af (af Uv ZH) FN;have Q:(Value.slice q bs.length t).ownBlock≠some L.heap.size:=λe=>by
    have:=(C.lt _ e).2;have:=ZH.size;omega
   have C:=aH C (af ZH FN);obtain⟨g,V⟩:=ae L.heap.size;rw[<-V] at G Q⊢;have av:w2.heap.size<=g:=by have:=(af Uv ZH).size;omega
   clear V M aJ Uv SF aO ZH FN SE;refine oC [5] 0 ?_;refine aA rfl ?_;go_big_quiet_step (rfl);refine az ?_;refine aa3 [7] ?_;intro W Wb vs hR hD;have WE:=af Yo Wb;obtain⟨⟨X,hv,hh⟩,hN,T⟩:=hR 6 (by simp);rw[hv] at hN T;simp only[rq] at hN T;rw[ru (d:=some 4) rfl,hv];have C:=aH C Wb;have G:=aH G Wb;have IX:qj W X (.slice none 0 0) (.slice none 0 0) (.int .i64 0) dh:=⟨hh⟩;have O:g≠X:=λe=>by
    have:=G.2;rcases this with⟨h,_⟩|⟨g',_,aK,h,_,h2,_⟩
    ·cases h
    cases h;rw[e,hh] at h2;cases h2
   have SG:(Value.slice q bs.length t).ownBlock≠some X:=λe=>by
    rcases C.2 with⟨h,_⟩|⟨g',_,aK,h,_,h2,_⟩
    ·rw[h] at e;cases e
    rw[h] at e;cases e;rw[hh] at h2;cases h2
   obtain⟨⟨g1,g2⟩,U,S⟩:=IX.writes;have g5:=λu=>(U u).1;have g6:=λu=>(U u).2;have g7:=λu R=>(S u R).1;have g8:=λu R=>(S u R).2;have ac:=qj.set0 IX (.slice q bs.length t);have ak:=ac.set1 (.slice (some ⟨g,0,none⟩) bs.length bs.length);have FX:=ak.set2 (.int .i64 1);have f:∀(W:World) (k o:Nat) (u:Value),W.grownBy (W.setCell ⟨k,o,none⟩ u) (some k):=λW k o u=>⟨rfl,rfl,rfl,by simp,λj _ hj=>heap_setCell_other W ⟨k,o,none⟩ j u (λe=>hj (by simp[e]))⟩;have C:=((C.kept (f _ X 0 (.slice q bs.length t)) (.inr SG)).kept (f _ X 1 (.slice (some ⟨g,0,none⟩) bs.length bs.length)) (.inr SG)).kept (f _ X 2 (.int .i64 1)) (.inr SG);have Oj:(Value.slice (some ⟨g,0,none⟩) bs.length bs.length).ownBlock≠some X:=λe=>O (by simpa [Value.ownBlock] using e);have G:=((G.kept (f _ X 0 (.slice q bs.length t)) (.inr Oj)).kept (f _ X 1 (.slice (some ⟨g,0,none⟩) bs.length bs.length)) (.inr Oj)).kept (f _ X 2 (.int .i64 1)) (.inr Oj);have aM:w2.heap.size<=X:=hN;have aR:w.heap.size+2<=X:=by omega
   have F2:=(((y2.mono WE).put (j:=X) (o:=0) (by omega) (.slice q bs.length t)).put (j:=X) (o:=1) (by omega) (.slice (some ⟨g,0,none⟩) bs.length bs.length)).put (j:=X) (o:=2) (by omega) (.int .i64 1);have F3:(((W.setCell ⟨X,0,none⟩ (.slice q bs.length t)).setCell ⟨X,1,none⟩ (.slice (some ⟨g,0,none⟩) bs.length bs.length)).setCell ⟨X,2,none⟩ (.int .i64 1)).heap[w.heap.size+1]? = some (.cells #[.int .i64 0] 38):=by
    rw[i_ _ _ _ _ (by simp only;omega),i_ _ _ _ _ (by simp only;omega),i_ _ _ _ _ (by simp only;omega)];exact(WE.block _ (block_lt y3)).trans y3
   have Y:Below w.heap.size w (((W.setCell ⟨X,0,none⟩ (.slice q bs.length t)).setCell ⟨X,1,none⟩ (.slice (some ⟨g,0,none⟩) bs.length bs.length)).setCell ⟨X,2,none⟩ (.int .i64 1)):=
    aj (aj (aj (ax.trans (WE.mono ax.size)) (by omega)) (by omega)) (by omega)
   refine uO (os:=[_]) rfl ?_;clear WE Wb hR hD hv hh hN T Yo IX ac ak U S;go_wp2_with fail;clear g1 g2 g5 g6 g7 g8;refine uP ?_;obtain⟨y,hW⟩:∃y,((W.setCell ⟨X,0,none⟩ (.slice q bs.length t)).setCell ⟨X,1,none⟩ (.slice (some ⟨g,0,none⟩) bs.length bs.length)).setCell ⟨X,2,none⟩ (.int .i64 1)=y:=⟨_,rfl⟩;rw[hW] at FX C G F2 F3 Y⊢;clear hW;go_wp2_with fail;go_meet;exact⟨X,q,t,g,rfl,FX,oo C (gW _),oo G (gW _),F2,F3,Y,Q,av,aM,O,SG⟩
  intro L ZH;go_wp2_with (at_make;refine gm _ rfl _ _ 23 rfl L.heap.size bB _ 8 jI rfl .i64 .i64 _ _ bs.length rfl rfl (by omega) (by omega) (by omega) (by unfold maxLen;omega) (by simp) ?_;intro a7 G M);refine aF (fO M) ?_;have Uv:=af (af SE ZH) (fO M);refine pI 1 ?_;intro bq ao;have aN:=af Uv ao;go_wp2_with fail;refine(aY.out _ aN).mono ?_;rintro e Oi⟨s1,rfl,C,FN⟩;obtain⟨q,t,rfl,_,_⟩:=bG.out (Sl.aU C).any;rw[nU] at *;go_wp2_with fail;refine aF FN ?_;have Yo:=af aN FN;have bc:=(G.lt L.heap.size rfl).2;have Q:(Value.slice q bs.length t).ownBlock≠some L.heap.size:=λe=>by
   have:=(C.lt _ e).1;have:=ao.size;omega
  have G:=aH G (af ao FN);obtain⟨g,V⟩:=ae L.heap.size;rw[<-V] at G Q⊢;have av:w2.heap.size<=g:=by have:=(af SE ZH).size;omega
  clear V M bc Uv aN FN ZH ao SE;refine oC [5] 0 ?_;refine aA rfl ?_;go_big_quiet_step (rfl);refine az ?_;refine aa3 [7] ?_;intro W Wb vs hR hD;have WE:=af Yo Wb;obtain⟨⟨X,hv,hh⟩,hN,T⟩:=hR 6 (by simp);rw[hv] at hN T;simp only[rq] at hN T;rw[ru (d:=some 4) rfl,hv];have C:=aH C Wb;have G:=aH G Wb;have IX:qj W X (.slice none 0 0) (.slice none 0 0) (.int .i64 0) dh:=⟨hh⟩;have O:g≠X:=λe=>by
   have:=G.2;rcases this with⟨h,_⟩|⟨g',_,aK,h,_,h2,_⟩
   ·cases h
   cases h;rw[e,hh] at h2;cases h2
  have SG:(Value.slice q bs.length t).ownBlock≠some X:=λe=>by
   rcases C.2 with⟨h,_⟩|⟨g',_,aK,h,_,h2,_⟩
   ·rw[h] at e;cases e
   rw[h] at e;cases e;rw[hh] at h2;cases h2
  obtain⟨⟨g1,g2⟩,U,S⟩:=IX.writes;have g5:=λu=>(U u).1;have g6:=λu=>(U u).2;have g7:=λu R=>(S u R).1;have g8:=λu R=>(S u R).2;have ac:=qj.set0 IX (.slice q bs.length t);have ak:=ac.set1 (.slice (some ⟨g,0,none⟩) bs.length bs.length);have FX:=ak.set2 (.int .i64 1);have f:∀(W:World) (k o:Nat) (u:Value),W.grownBy (W.setCell ⟨k,o,none⟩ u) (some k):=λW k o u=>⟨rfl,rfl,rfl,by simp,λj _ hj=>heap_setCell_other W ⟨k,o,none⟩ j u (λe=>hj (by simp[e]))⟩;have C:=((C.kept (f _ X 0 (.slice q bs.length t)) (.inr SG)).kept (f _ X 1 (.slice (some ⟨g,0,none⟩) bs.length bs.length)) (.inr SG)).kept (f _ X 2 (.int .i64 1)) (.inr SG);have Oj:(Value.slice (some ⟨g,0,none⟩) bs.length bs.length).ownBlock≠some X:=λe=>O (by simpa [Value.ownBlock] using e);have G:=((G.kept (f _ X 0 (.slice q bs.length t)) (.inr Oj)).kept (f _ X 1 (.slice (some ⟨g,0,none⟩) bs.length bs.length)) (.inr Oj)).kept (f _ X 2 (.int .i64 1)) (.inr Oj);have aM:w2.heap.size<=X:=hN;have aR:w.heap.size+2<=X:=by omega
  have F2:=(((y2.mono WE).put (j:=X) (o:=0) (by omega) (.slice q bs.length t)).put (j:=X) (o:=1) (by omega) (.slice (some ⟨g,0,none⟩) bs.length bs.length)).put (j:=X) (o:=2) (by omega) (.int .i64 1);have F3:(((W.setCell ⟨X,0,none⟩ (.slice q bs.length t)).setCell ⟨X,1,none⟩ (.slice (some ⟨g,0,none⟩) bs.length bs.length)).setCell ⟨X,2,none⟩ (.int .i64 1)).heap[w.heap.size+1]? = some (.cells #[.int .i64 0] 38):=by
   rw[i_ _ _ _ _ (by simp only;omega),i_ _ _ _ _ (by simp only;omega),i_ _ _ _ _ (by simp only;omega)];exact(WE.block _ (block_lt y3)).trans y3
  have Y:Below w.heap.size w (((W.setCell ⟨X,0,none⟩ (.slice q bs.length t)).setCell ⟨X,1,none⟩ (.slice (some ⟨g,0,none⟩) bs.length bs.length)).setCell ⟨X,2,none⟩ (.int .i64 1)):=
   aj (aj (aj (ax.trans (WE.mono ax.size)) (by omega)) (by omega)) (by omega)
  refine uO (os:=[_]) rfl ?_;clear WE Wb hR hD hv hh hN T Yo IX ac ak U S;go_wp2_with fail;clear g1 g2 g5 g6 g7 g8;refine uP ?_;obtain⟨y,hW⟩:∃y,((W.setCell ⟨X,0,none⟩ (.slice q bs.length t)).setCell ⟨X,1,none⟩ (.slice (some ⟨g,0,none⟩) bs.length bs.length)).setCell ⟨X,2,none⟩ (.int .i64 1)=y:=⟨_,rfl⟩;rw[hW] at FX C G F2 F3 Y⊢;clear hW;go_wp2_with fail;go_meet;exact⟨X,q,t,g,rfl,FX,oo C (gW _),oo G (gW _),F2,F3,Y,Q,av,aM,O,SG⟩
 case rest=>
  rename World=>y;obtain⟨X,q,t,g,rfl,FX,C,G,F2,F3,Y,Q,av,hN,O,SG⟩:=hcut;have aR:w.heap.size+2<=X:=by omega
  have f:∀(W:World) (k o:Nat) (u:Value),W.grownBy (W.setCell ⟨k,o,none⟩ u) (some k):=λW k o u=>⟨rfl,rfl,rfl,by simp,λj _ hj=>heap_setCell_other W ⟨k,o,none⟩ j u (λe=>hj (by simp[e]))⟩;obtain⟨e0,e1,e2⟩:=FX.cell;go_wp2_with fail;refine(Ht _ y ⟨_,_,_,rfl⟩).mono ?_;rintro e w5⟨rfl,rfl⟩;go_wp2_with fail;have Yf:=aa Q;have WL:=aa (show y.heap.size<=(y.alloc (.cells #[.slice q bs.length t] 23)).heap.size by simp);have bj:X<y.heap.size:=block_lt FX.at_;have bl:g<y.heap.size:=(G.lt g rfl).2;have e2:List.replicate bs.length (Value.int .i64 0)=ds (Hu bs.length []).1:=by simp[ds,Hu]
  rw[e2] at G;obtain⟨bb,bo,a_,a4⟩:∃bb,bb<=y.heap.size/\(0<bs.length->(Value.slice q bs.length t).ownBlock=some bb)/\Cc bb (y.alloc (.cells #[.slice q bs.length t] 23)) (.slice q bs.length t) bs.length (λj=>((ZC bs j).1.2:Int)):=by
   rcases (Sl.aU C).any.cases with⟨hn,a,cap,hv,_⟩|⟨b,off,cap,hv,hc,hp,hb,hx⟩
   ·have hl:bs=[]:=by simpa [ds] using hn
    subst hl;exact⟨0,gW _,λh=>absurd h (by simp),.inl ⟨rfl,_,_,rfl⟩⟩
   rw[nU] at hv;cases hv;refine⟨b,nu hb,λ_=>rfl,.inr ⟨off,_,rfl,by simp;omega,λj hj=>?_⟩⟩;rw[(ah _).cell (p:=⟨b,off+j,none⟩) hb,hx j (by rw[nU];exact hj),oM _ _ hj];show _=some (Value.int .i64 (((ZC bs j).1.2:Nat):Int));rw[Hw D5.out ZG.out hj]
  refine(wpIn_wide (n:=5)).1 ?_;refine wpIn_rangeFunc_ownG (F:=Fence.wide) rfl (by omega) (gf:=168) (lb:=#[.pointer (some ⟨y.heap.size,0,none⟩)]) rfl trivial (enters_of func168 (by kernel_rfl) rfl)
   (Lb Fence.wide 4 trivial rfl (by omega) y.heap.size bb (.slice q bs.length t) bs.length al (ZC bs) (λx=>#[.int .i64 (x.1.1:Int),.int .i64 (x.1.2:Int)]) (λj=>((ZC bs j).1.2:Int))
     (λj hj=>by rw[Hw D5.out ZG.out hj]) (y.alloc (.cells #[.slice q bs.length t] 23)) (by simp) (by go_simp) a4)
   (λh k=>h.trans k) (λW l o o' hl ho hc _=>by
     have bn:y.heap.size+1<=l:=by simpa using hl
     exact⟨nd (by omega),nd (by omega)⟩) (gO _ _) (λ_=>rfl)
   (λz W=>(((1<=(Hu bs.length z).2/\(Hu bs.length z).2<=1073741824)/\qj W X (.slice q bs.length t) (.slice (some ⟨g,0,none⟩) bs.length bs.length) (.int .i64 ((Hu bs.length z).2:Nat)) dh/\W.ownsRow 0 bB 1 (.slice (some ⟨g,0,none⟩) bs.length bs.length) bs.length (ds (Hu bs.length z).1)/\
     W.ownsRow 0 bB 1 (.slice q bs.length t) bs.length (ds bs)/\qj W w.heap.size (.slice none 0 0) (.slice none 0 0) (.int .i64 0) dh/\W.heap[w.heap.size+1]? = some (.cells #[.int .i64 0] 38))/\Below w.heap.size w W))
   (λc z W=>(c=.ret/\(∃(aD:List (BX bs.length)) (ab:BX bs.length),z=aD++[ab]/\1073741824 / (Hu bs.length aD).2<ab.1.2)/\qj W w.heap.size (.slice none 0 0) (.slice none 0 0) (.int .i64 0) dh/\W.heap[w.heap.size+1]? = some (.cells #[.int .i64 4] 38))/\Below w.heap.size w W)
   (OwnFrom.and (Own.from (λs A B row hs V hr=>⟨hs.1,⟨oh V hr hs.2.1.at_⟩,U2 V hr hs.2.2.1,U2 V hr hs.2.2.2.1,⟨oh V hr hs.2.2.2.2.1.at_⟩,oh V hr hs.2.2.2.2.2⟩) _) (ownFrom_below (gw _) (by have:=Y.size;simp;omega)))
   (λc=>OwnFrom.and (Own.from (λs A B row hs V hr=>⟨hs.1,hs.2.1,⟨oh V hr hs.2.2.1.at_⟩,oh V hr hs.2.2.2⟩) _) (ownFrom_below (gw _) (by have:=Y.size;simp;omega)))
   ⟨⟨⟨gw _,by show(1:Nat)<=1073741824;decide⟩,FX.mono (ah _),oo (aH G (ah _)) (gW _),oo (aH C (ah _)) (gW _),F2.mono (ah _),((ah _).block _ (block_lt F3)).trans F3⟩,Y.alloc Y.size _⟩
   (λx=>{ tmps:=#[.slice x1 bs.length Ao,undef,.pointer (some ⟨w.heap.size,0,none⟩),.pointer (some ⟨w.heap.size+1,0,none⟩),.pointer (some ⟨X,0,none⟩),.int .i64 (x.1.1:Int),.int .i64 (x.1.2:Int),.slice x1 bs.length Ao,.bool false,undef,u10,u11,u12,u13,u14,u15,.pointer (some ⟨X,0,none⟩),.slice q bs.length t,
     .func (.func 168) #[] #[.pointer (some ⟨y.heap.size,0,none⟩)],.int .i64 (x.1.1:Int),.int .i64 (x.1.2:Int),undef,undef,undef,undef,undef,undef,undef,undef,undef,undef,undef,undef,undef,undef,undef,undef,undef,undef],defers:=[] }) ?assign ?body ?done ?stop
  case assign=>
   intro l x W K hK
   gi_wp2
   exact hK
  case body=>
   rintro l z⟨⟨i,b⟩,hi,aB,I⟩ Wr ⟨⟨⟨ar,N⟩,JX,Z,q1,G2,G3⟩,hB⟩ bm;have bi:i<bs.length:=by rcases hi with h|h;exact h;omega
   have aq:=Lc z ⟨(i,b),hi,aB,I⟩;have a0:=ZB z;obtain⟨row,s,aL⟩:∃row s,Hu bs.length z=(row,s):=⟨_,_,rfl⟩;rw[aL] at aq a0 ar N JX Z;simp only at aq a0 ar N JX Z aB I hi;have a5:=aa aL;have bf:=aa aq;clear aL aq;obtain⟨u0,u1,u2⟩:=JX.cell;obtain⟨aG,bk⟩:=jY Z (j:=i) (by simp;omega);rw[oM _ _ (by omega)] at aG;have bd:X≠g:=λe=>O e.symm;obtain⟨q3,aI⟩:=Z.stored i (.int .i64 (s:Int));have e3:(ds row).set i (.int .i64 (s:Int))=ds (row.set i s):=by simp[ds,tt]
   rw[e3] at q3;have an:=Yf.out;have q4:=q1.kept aI (.inr an);have KX:=JX.put (j:=g) (o:=i) bd (.int .i64 (s:Int));have M:w.heap.size+2<=g:=by omega
   have K2:=G2.put (j:=g) (o:=i) (by omega) (.int .i64 (s:Int));have K3:(Wr.setCell ⟨g,i,none⟩ (.int .i64 (s:Int))).heap[w.heap.size+1]? = some (.cells #[.int .i64 0] 38):=by rw[i_ _ _ _ _ (by simp only;omega)];exact G3
   have au:=aj (off:=i) (u:=.int .i64 (s:Int)) (b:=g) hB (by omega);obtain⟨v0,v1,v2⟩:=KX.cell;have v3:=KX.frozen 2;have bp:s≠0:=by omega
   have br:KeepsFrom y.heap.size Wr (Wr.setCell ⟨g,i,none⟩ (.int .i64 (s:Int))):=(KeepsOthers.setCell _ _ _).from _;by_cases H:1073741824 / s<b
   ·have aS:decide ((1073741824:Int) / (s:Int)<(b:Int))=true:=decide_eq_true (by have:=Int.ofNat_lt.2 H;rw[Ai] at this;exact this);have bh:(1073741824:Int) / (s:Int)<(b:Int):=of_decide_eq_true aS;obtain⟨⟨g1,g2⟩,U,S⟩:=K2.writes;have g5:=λu=>(U u).1;have g6:=λu=>(U u).2;have g7:=λu R=>(S u R).1;have g8:=λu R=>(S u R).2;have J2:=((K2.set0 (.slice none 0 0)).set1 (.slice none 0 0)).set2 (.int .i64 0);have J3:(((((Wr.setCell ⟨g,i,none⟩ (.int .i64 (s:Int))).setCell ⟨w.heap.size,0,none⟩ (.slice none 0 0)).setCell ⟨w.heap.size,1,none⟩ (.slice none 0 0)).setCell ⟨w.heap.size,2,none⟩ (.int .i64 0))).heap[w.heap.size+1]? = some (.cells #[.int .i64 0] 38):=by
     rw[i_ _ _ _ _ (by simp),i_ _ _ _ _ (by simp),i_ _ _ _ _ (by simp)];exact K3
    obtain⟨g9,a8⟩:=abl J3;have ai:=J2.put (j:=w.heap.size+1) (o:=0) (by omega) (.int .i64 4);have ad:=FK (u:=.int .i64 4) J3;have ZI:=aj (off:=0) (u:=.int .i64 4) (b:=w.heap.size+1) (aj (off:=2) (u:=.int .i64 0) (b:=w.heap.size) (aj (off:=1) (u:=.slice none 0 0) (b:=w.heap.size) (aj (off:=0) (u:=.slice none 0 0) (b:=w.heap.size) au (gw _)) (gw _)) (gw _)) (by omega);have ap:=((((KeepsOthers.setCell Wr ⟨g,i,none⟩ (.int .i64 (s:Int))).trans (KeepsOthers.setCell _ ⟨w.heap.size,0,none⟩ (.slice none 0 0))).trans (KeepsOthers.setCell _ ⟨w.heap.size,1,none⟩ (.slice none 0 0))).trans (KeepsOthers.setCell _ ⟨w.heap.size,2,none⟩ (.int .i64 0))).trans (KeepsOthers.setCell _ ⟨w.heap.size+1,0,none⟩ (.int .i64 4));clear U S J2 J3 K2 K3 G2 G3 hB au q1 Z q3 q4 KX JX aI
    gi_wp2
    exact⟨ap.from _,⟨rfl,⟨z,⟨(i,b),hi,aB,I⟩,rfl,by rw[a5.out];exact H⟩,ai,ad⟩,ZI⟩
   have aS:decide ((1073741824:Int) / (s:Int)<(b:Int))=false:=decide_eq_false (by have:=Int.ofNat_le.2 (sC H);rw[Ai] at this;exact xo.2 this);have aP:s*b<=1073741824:=by
    have h1:=sC H;have h2:=sY s h1;have h3:=Nat.mul_div_le 1073741824 s;omega
   have aV:1<=s*b:=pT ar aB;have a2:wrap64 ((s:Int)*(b:Int))=((s*b:Nat):Int):=by rw[<-xF];unfold wrap64;omega
   have L2:=KX.set2 (.int .i64 ((s*b:Nat):Int));have a6:(Value.slice (some ⟨g,0,none⟩) bs.length bs.length).ownBlock≠some X:=λe=>O (by simpa [Value.ownBlock] using e);have q5:=q3.kept (f _ X 2 (.int .i64 ((s*b:Nat):Int))) (.inr a6);have q6:=q4.kept (f _ X 2 (.int .i64 ((s*b:Nat):Int))) (.inr SG);have L3:=K2.put (j:=X) (o:=2) (by omega) (.int .i64 ((s*b:Nat):Int));have L4:((Wr.setCell ⟨g,i,none⟩ (.int .i64 (s:Int))).setCell ⟨X,2,none⟩ (.int .i64 ((s*b:Nat):Int))).heap[w.heap.size+1]? = some (.cells #[.int .i64 0] 38):=by rw[i_ _ _ _ _ (by simp only;omega)];exact K3
   have aT:=aj (off:=2) (u:=.int .i64 ((s*b:Nat):Int)) (b:=X) au (by omega);have ap:=(KeepsOthers.setCell Wr ⟨g,i,none⟩ (.int .i64 (s:Int))).trans (KeepsOthers.setCell _ ⟨X,2,none⟩ (.int .i64 ((s*b:Nat):Int)));have a3:=a_ (by omega);have aZ:bb≠g/\bb≠X:=by
    rw[a3] at an SG;exact⟨λe=>an (by rw[e]),λe=>SG (by rw[e])⟩
   have aQ:lM y.heap.size bb Wr ((Wr.setCell ⟨g,i,none⟩ (.int .i64 (s:Int))).setCell ⟨X,2,none⟩ (.int .i64 ((s*b:Nat):Int))):=by
    constructor
    ·rw[i_ _ _ _ _ (by simp only;omega),i_ _ _ _ _ (by simp only;omega)]
    rw[i_ _ _ _ _ (by simp only;exact aZ.2),i_ _ _ _ _ (by simp only;exact aZ.1)]
   have HW:=aa a2;obtain⟨m,hm⟩:=ae (s*b);rw[<-hm] at a2 aP aV L2 L3 L4 q5 q6 aT ap aQ;have HM:=aa hm;clear hm K2 K3 G2 G3 hB au q1 Z q3 q4 KX JX aI
   gi_wp2
   refine⟨ap.from _,aQ,?_⟩;dsimp only;rw[bf.out];exact⟨⟨⟨by rw[<-HM.out];exact aV,by rw[<-HM.out];exact aP⟩,by rw[<-HM.out];exact L2,q5,q6,L3,L4⟩,aT⟩
  case done=>
   rintro D ys Wd hD rfl⟨⟨⟨ar,N⟩,JX,Z,q1,G2,G3⟩,hB⟩ hK;rw[Oh D5.out ZG.out _ (gw _),m_,List.drop_zero] at N JX Z;simp only[List.replicate_zero,ks] at Z N JX;obtain⟨P,hP⟩:=ae (aW bs);rw[<-hP] at N JX;have HP:=aa hP;clear hP;have ba:y.heap.size+1<=D:=by simpa using hD
   obtain⟨u0,u1,u2⟩:=JX.cell;obtain⟨⟨g1,g2⟩,U,S⟩:=G2.writes;have g5:=λu=>(U u).1;have g6:=λu=>(U u).2;have g7:=λu R=>(S u R).1;have g8:=λu R=>(S u R).2;have J2:=((G2.set0 (.slice q bs.length t)).set1 (.slice (some ⟨g,0,none⟩) bs.length bs.length)).set2 (.int .i64 (P:Int));have J3:((((Wd.setCell ⟨w.heap.size,0,none⟩ (.slice q bs.length t)).setCell ⟨w.heap.size,1,none⟩ (.slice (some ⟨g,0,none⟩) bs.length bs.length)).setCell ⟨w.heap.size,2,none⟩ (.int .i64 (P:Int)))).heap[w.heap.size+1]? = some (.cells #[.int .i64 0] 38):=by
    rw[i_ _ _ _ _ (by simp),i_ _ _ _ _ (by simp),i_ _ _ _ _ (by simp)];exact G3
   obtain⟨g9,a8⟩:=abl J3;have ai:=J2.put (j:=w.heap.size+1) (o:=0) (by omega) (.int .i64 0);have ad:=FK (u:=.int .i64 0) J3;have n1:=own_ne q1 G2.at_ (by decide);have n2:=own_ne q1 G3 (by decide);have n3:=own_ne Z G2.at_ (by decide);have n4:=own_ne Z G3 (by decide);have q3:=(((q1.kept (f _ w.heap.size 0 (.slice q bs.length t)) (.inr n1)).kept (f _ w.heap.size 1 (.slice (some ⟨g,0,none⟩) bs.length bs.length)) (.inr n1)).kept (f _ w.heap.size 2 (.int .i64 (P:Int))) (.inr n1)).kept (f _ (w.heap.size+1) 0 (.int .i64 0)) (.inr n2);have q4:=(((Z.kept (f _ w.heap.size 0 (.slice q bs.length t)) (.inr n3)).kept (f _ w.heap.size 1 (.slice (some ⟨g,0,none⟩) bs.length bs.length)) (.inr n3)).kept (f _ w.heap.size 2 (.int .i64 (P:Int))) (.inr n3)).kept (f _ (w.heap.size+1) 0 (.int .i64 0)) (.inr n4);have ZI:=aj (off:=0) (u:=.int .i64 0) (b:=w.heap.size+1) (aj (off:=2) (u:=.int .i64 (P:Int)) (b:=w.heap.size) (aj (off:=1) (u:=.slice (some ⟨g,0,none⟩) bs.length bs.length) (b:=w.heap.size) (aj (off:=0) (u:=.slice q bs.length t) (b:=w.heap.size) hB (gw _)) (gw _)) (gw _)) (by omega);have aw:(((((Wd.setCell ⟨w.heap.size,0,none⟩ (.slice q bs.length t)).setCell ⟨w.heap.size,1,none⟩ (.slice (some ⟨g,0,none⟩) bs.length bs.length)).setCell ⟨w.heap.size,2,none⟩ (.int .i64 (P:Int)))).setCell ⟨w.heap.size+1,0,none⟩ (.int .i64 0)).heap[D]? = some (.deferred (some [])):=by
    have:=Y.size;rw[i_ _ _ _ _ (by simp only;omega),i_ _ _ _ _ (by simp only;omega),i_ _ _ _ _ (by simp only;omega),i_ _ _ _ _ (by simp only;omega)];exact hK
   obtain⟨Wf,aE⟩:∃Wf,((((Wd.setCell ⟨w.heap.size,0,none⟩ (.slice q bs.length t)).setCell ⟨w.heap.size,1,none⟩ (.slice (some ⟨g,0,none⟩) bs.length bs.length)).setCell ⟨w.heap.size,2,none⟩ (.int .i64 (P:Int)))).setCell ⟨w.heap.size+1,0,none⟩ (.int .i64 0)=Wf:=⟨_,rfl⟩;rw[aE] at ai ad q3 q4 ZI aw;have a9:=aa aE;have Uw:Wf.grownBy (Wf.putObj D (.deferred none)) (some D):=grownBy_putObj' Wf D (.deferred none);have J:∀r,some D=some r->∃o:Obj,Wf.heap[r]? = some o/\o.isCells=false:=λr e=>by cases e;exact⟨_,aw,rfl⟩
   have M2:qj (Wf.putObj D (.deferred none)) w.heap.size (.slice q bs.length t) (.slice (some ⟨g,0,none⟩) bs.length bs.length) (.int .i64 (P:Int)) dh:=⟨oh Uw J ai.at_⟩;have M3:=(abl (oh Uw J ad)).1;obtain⟨m0,m1,m2⟩:=M2.cell;have q5:=U2 Uw J q3;have q6:=U2 Uw J q4;have Vk:=ZI.trans (belowK_b (w:=w) (gw _) Wf D _ (.deferred none) (by have:=Y.size;omega) aw rfl rfl);clear U S J2 J3 q1 Z q3 q4 G2 G3 hB ZI n1 n2 n3 n4 aE ai ad JX M2 hK Uw J;go_wp2;rw[a9.out];refine⟨by simp,.inl ⟨_,_,rfl,run_takeDeferred aw,?_⟩⟩
   exact⟨.tuple #[.agg #[.slice q bs.length t,.slice (some ⟨g,0,none⟩) bs.length bs.length,.int .i64 (P:Int)],.int .i64 0],by simp[results,results83,go_sem,m0,m1,m2,M3],_,0,rfl,Vk,
    .inl ⟨by rw[<-HP.out];exact N,rfl,_,_,by rw[<-HP.out],Sl.aU q5,Sl.aU q6⟩⟩
  case stop=>
   rintro D c z Wd hD⟨k,hk,rfl⟩ ⟨⟨rfl,⟨aD,ab,e1,e2⟩,G2,G3⟩,hB⟩ hK;have aX:=Ld D5.out ZG.out hk e1 e2;have ba:y.heap.size+1<=D:=by simpa using hD
   have Uw:Wd.grownBy (Wd.putObj D (.deferred none)) (some D):=grownBy_putObj' Wd D (.deferred none);have J:∀r,some D=some r->∃o:Obj,Wd.heap[r]? = some o/\o.isCells=false:=λr e=>by cases e;exact⟨_,hK,rfl⟩
   have M2:qj (Wd.putObj D (.deferred none)) w.heap.size (.slice none 0 0) (.slice none 0 0) (.int .i64 0) dh:=⟨oh Uw J G2.at_⟩;have M3:=(abl (oh Uw J G3)).1;obtain⟨m0,m1,m2⟩:=M2.cell;have Vk:=hB.trans (belowK_b (w:=w) (gw _) Wd D _ (.deferred none) (by have:=Y.size;omega) hK rfl rfl);have be:=aa aX;clear aX e1 e2 G2 G3 Uw J M2 hB
   gi_wp2
   refine⟨by simp,.inl ⟨_,_,rfl,run_takeDeferred hK,?_⟩⟩;exact⟨.tuple #[.agg #[.slice none 0 0,.slice none 0 0,.int .i64 0],.int .i64 4],by simp[results,results83,go_sem,m0,m1,m2,M3],_,4,rfl,Vk,.inr ⟨be.out,rfl,rfl⟩⟩
end
open Go.RowKit Go.Cd _root_.Go.Proofs.Tryz
variable {bs:List Nat} {l:List Int} {w:World} {v:Value}
def wX:List Nat->List Int->Bool
 | [],[]=>true
 | b::bs,d::l=>decide (0<=d)&&decide (d<(b:Int))&&wX bs l
 | _,_=>false
def oF:∀(bs:List Nat) (l:List Int),wX bs l=true↔l.length=bs.length/\∀j (e:j<l.length) (f:j<bs.length),0<=l[j]/\l[j]<(bs[j]:Int)
 | [],[]=>by simp[wX]
 | [],_::_=>by simp[wX]
 | _::_,[]=>by simp[wX]
 | b::bs,d::l=>by
   simp only[wX,jn,decide_eq_true_eq,hU,Nat.add_right_cancel_iff];rw[oF bs l];constructor
   ·rintro⟨⟨e,f⟩,c,a⟩;refine⟨c,λj g h=>?_⟩;cases j with
    | zero=>exact⟨e,f⟩
    | succ j=>exact a j (by omega) (by omega)
   rintro⟨c,a⟩;refine⟨a 0 (by omega) (by omega),c,λj g h=>a (j+1) (by omega) (by omega)⟩
def Ol {j:Nat} (c:j<l.length) (b:j<bs.length) (h:l[j]<0\/(bs[j]:Int)<=l[j]):wX bs l=false:=by
 cases a:wX bs l
 ·rfl
 have:=((oF bs l).1 a).2 j c b;omega
def gU (bs:List Nat) (l:List Int):Nat->Nat
 | 0=>0
 | j+1=>gU bs l j*bs[j]?.getD 0+(l[j]?.getD 0).toNat
def zQ:∀(bs:List Nat) (j:Nat) (h:j<(weights bs).length),(weights bs)[j]=aW (bs.drop (j+1))
 | _::bs,0,_=>by simp[weights]
 | _::bs,j+1,h=>by
   have:=zQ bs j (by simpa [weights] using h);simpa [weights] using this
def lY {j:Nat} (h:j<bs.length):aW (bs.drop j)=bs[j]*aW (bs.drop (j+1)):=by
 rw[iz h];rfl
def Hz :∀j,j<=bs.length->j<=l.length->(∀t (b:t<l.length) (c:t<bs.length),t<j->0<=l[t]/\l[t]<(bs[t]:Int))->(gU bs l j+1)*aW (bs.drop j)<=aW bs
 | 0,_,_,_=>by simp[gU]
 | j+1,hb,hl,h=>by
   have a:=Hz j (by omega) (by omega) (λt b c e=>h t b c (by omega));have:=h j (by omega) (by omega) (by omega);rw[lY (by omega),<-qS] at a;simp only[gU,gA (show j<bs.length by omega),gA (show j<l.length by omega),oy];refine gS (nh _ ?_) a;rw[l3,su];omega
def wr1 {M:Nat} (h:M<1073741825):wrap64 (M:Int)=(M:Int):=by unfold wrap64;omega
def wr2 {O M:Nat} (h:O+M<1073741825):wrap64 ((O:Int)+(M:Int))=((O+M:Nat):Int):=by unfold wrap64;omega
def ZJ {h b Q n:Nat}:h*(b*Q)+n*Q=(h*b+n)*Q:=by rw[l3,qS]
def SH {h b Q n P:Nat} (a:(h+1)*(b*Q)<=P) (e:n<b) (c:P<=1073741824):h*(b*Q)+n*Q<1073741825:=by
 have:n*Q<=b*Q:=nh Q (by omega);rw[l3,su] at a;omega
def gB.out (h:gB w v bs):∃c e g j,v=.agg #[.slice c bs.length e,.slice g bs.length j,.int .i64 (aW bs:Nat)]/\
 bG w (.slice c bs.length e) (ds bs)/\bs.length<=e/\bs.length<=j/\(∀i (d:i<bs.length),∃b off,c=some ⟨b,off,none⟩/\b<w.heap.size/\w.cell? ⟨b,off+i,none⟩=some (.int .i64 (bs[i]:Nat)))/\
 (∀i (d:i<bs.length),∃b off,g=some ⟨b,off,none⟩/\b<w.heap.size/\w.cell? ⟨b,off+i,none⟩=some (.int .i64 (aW (bs.drop (i+1)):Nat))):=by
 obtain⟨s1,s2,rfl,q,r⟩:=h;have a:=q;obtain⟨c,e,rfl,s,m⟩:=bG.out q;obtain⟨g,j,rfl,t,p⟩:=bG.out r;have f:(ds bs).length=bs.length:=nU _;have k:(ds (weights bs)).length=bs.length:=by simp
 refine⟨c,e,g,j,by rw[f,k],by rw[f] at a;exact a,by omega,by omega,λi d=>?_,λi d=>?_⟩
 ·obtain⟨b,off,o,l,n⟩:=m i (by omega);exact⟨b,off,o,l,by rw[n,oM _ _ d]⟩
 obtain⟨b,off,o,l,n⟩:=p i (by omega);exact⟨b,off,o,l,by rw[n,oM _ _ (by simpa using d),zQ]⟩
def H6 (h:gB w v bs) (c:∀b∈bs,1<=b) (a:aW bs<=1073741824) :
 Calls prog 62 #[v] w λe w'=>e=.returned (.int .i64 (aW bs:Nat))/\Below w.heap.size w w':=by
 obtain⟨j,k,i,m,rfl,_⟩:=h.out;have g:=jD c;clear h;obtain⟨P,d⟩:=ae (aW bs);rw[<-d] at g a⊢;clear d;have:max (P:Int) 1=(P:Int):=by omega
 have:¬(P:Int)<1:=by omega
 have l:=ah (w:=w) (.cells #[.slice j bs.length k,.slice i bs.length m,.int .i64 (P:Int)] dh);go_enter func62,ntmps62;go_wp2;go_ret;exact⟨rfl,l⟩
def VT {u:Value} (h:gB w v bs) (g:bG w u (bO l)) (B:aW bs<=1073741824) (C:∀b∈bs,1<=b) (K:l.length<1099511627776) (aq:bs.length<1099511627776) :
 Calls prog 85 #[v,u] w λe w'=>e=.returned (.tuple #[.int .i64 (if wX bs l then (gU bs l bs.length:Nat) else (0:Nat)),.bool (wX bs l)])/\Below w.heap.size w w':=by
 obtain⟨x1,Ao,rfl,_,J⟩:=bG.nN g;obtain⟨U,X,Z,Y,rfl,_,ap,ar,N,H⟩:=h.out;have HX:=aa J;have am:=aa N;have af:=aa H;have:=aa C;clear h J N H g C;have T:=ah (w:=w) (.cells #[.slice U bs.length X,.slice Z bs.length Y,.int .i64 (aW bs:Nat)] dh);have W:qj (w.alloc (.cells #[.slice U bs.length X,.slice Z bs.length Y,.int .i64 (aW bs:Nat)] dh)) w.heap.size (.slice U bs.length X) (.slice Z bs.length Y) (.int .i64 (aW bs:Nat)) dh:=⟨heap_alloc_new' _ _ _ rfl⟩;obtain⟨P,hP⟩:=ae (aW bs);rw[<-hP] at B T W⊢;have HP:=aa hP;clear hP;obtain⟨e0,e1,e2⟩:=W.cell;by_cases m:l.length=bs.length
 ·have D:=Hz (bs:=bs) (l:=l);rw[<-HP.out] at D;have Qo:=aa D;have al:=aa m;rw[m] at K⊢;have VI:=aa (oF bs l);have VF:=aa (λ(j:Nat) (x:j<l.length) (s:j<bs.length)=>Ol (bs:=bs) (l:=l) x s);clear m D;go_enter func85,ntmps85;go_wp2_with fail
  go_loopw [6,17] (λo i wr=>∃j:Nat,j<=bs.length/\i=.int .i64 j/\o=.int .i64 (gU bs l j*aW (bs.drop j):Nat)/\(∀t (x:t<l.length) (s:t<bs.length),t<j->0<=l[t]/\l[t]<(bs[t]:Int))/\Below w.heap.size w wr/\
   qj wr w.heap.size (.slice U bs.length X) (.slice Z bs.length Y) (.int .i64 (P:Int)) dh)
   (λ_ i _=>bs.length-(intOf i).toNat)
  case atStart=>exact⟨0,gW _,rfl,by simp[gU],λ_ _ _ h=>by omega,T,W⟩
  case round=>
   clear e0 e1 e2 T W;obtain⟨j,hj,rfl,rfl,A,F,JX⟩:=hrel;have V:=aa A;have m:=al.out;obtain⟨e0,e1,e2⟩:=JX.cell;by_cases k:j<bs.length
   ·have y:j<l.length:=by omega
    obtain⟨b1,o1,rfl,ak,k1⟩:=HX.out j y;obtain⟨b2,o2,rfl,ag,k2⟩:=am.out j k;obtain⟨b3,o3,rfl,ac,k3⟩:=af.out j k;have k1:=(F.cell (p:=⟨b1,o1+j,none⟩) ak).trans k1;have k2:=(F.cell (p:=⟨b2,o2+j,none⟩) ag).trans k2;have k3:=(F.cell (p:=⟨b3,o3+j,none⟩) ac).trans k3;have c:=Qo.out j (by omega) (by omega) A;rw[lY k] at c;have r:=lY k;have q:gU bs l (j+1)=gU bs l j*bs[j]+l[j].toNat:=by
     simp only[gU,gA k,gA y,oy]
    rw[r];have S:=aa q;have aj:=aa (VF.out j y k);have HD:=aa (show ∀t (x:t<l.length) (s:t<bs.length),t=j->l[t]=l[j]'y/\bs[t]=bs[j] from λt x s e=>by subst e;exact⟨rfl,rfl⟩);generalize l[j]=d at *;generalize bs[j]=b at *;clear r q A;obtain⟨Q,hQ⟩:=ae (aW (bs.drop (j+1)));obtain⟨Hj,G⟩:=ae (gU bs l j);rw[<-hQ] at k3 c⊢;rw[<-G] at c S⊢;have HQ:=aa hQ;have:=aa G;clear hQ G;by_cases f:d<0\/(b:Int)<=d
    ·have I:=aj.out f;by_cases z:d<0
     ·have R:decide (d<0)=true:=decide_eq_true z;clear f c V;go_wp2 <;> (go_ret2;exact⟨rfl,F⟩)
     have R:decide (d<0)=false:=decide_eq_false z;have ai:(b:Int)<=d:=by omega
     have an:decide ((b:Int)<=d)=true:=decide_eq_true ai;clear f c V;go_wp2 <;> (go_ret2;exact⟨rfl,F⟩)
    have z:0<=d:=by omega
    obtain⟨n,rfl⟩:∃n:Nat,d=n:=⟨d.toNat,by omega⟩;have L:n<b:=by omega
    have R:decide ((n:Int)<0)=false:=decide_eq_false (by omega);have an:decide ((b:Int)<=(n:Int))=false:=decide_eq_false (by omega);have a:=SH c L B;have E:=ZJ (h:=Hj) (b:=b) (Q:=Q) (n:=n);obtain⟨M,hM⟩:=ae (n*Q);obtain⟨O,hO⟩:=ae (Hj*(b*Q));rw[<-hM,<-hO] at a E;have:wrap64 ((n:Int)*(Q:Int))=(M:Int):=by rw[<-xF,<-hM];exact wr1 (lf (Nat.le_add_left _ _) a)
    have ad:=wr2 a;rw[<-hO];have ab:=aa E;have Zb:=aa L;clear hM hO f c z a E;go_wp2;go_roundw
    case rel=>
     rw[ad,ab.out,HQ.out];have q:=S.out;rw[oT] at q;refine⟨j+1,by omega,rfl,by rw[q],λt x s ht=>?_,F,JX⟩;by_cases e:t=j
     ·obtain⟨g1,g2⟩:=HD.out t x s e;rw[g1,g2];have:=Zb.out;exact⟨by omega,by omega⟩
     exact V.out t x s (by omega)
    case measure=>simp[intOf];omega
   obtain rfl:j=bs.length:=by omega
   have I:wX bs l=true:=VI.out.2 ⟨m,λt x s=>V.out t x s s⟩;have hd:aW (bs.drop bs.length)=1:=by rw[qT];rfl
   rw[hd,qK];clear A;go_wp2;go_ret2;exact⟨rfl,F⟩
 have:((l.length:Int)==(bs.length:Int))=false:=beq_eq_false_iff_ne.2 (by omega);have I:wX bs l=false:=by
  cases I:wX bs l
  ·rfl
  exact absurd ((oF bs l).1 I).1 m
 rw[I];go_enter func85,ntmps85;go_wp2;go_ret2;exact⟨rfl,T⟩
end Go.Proofs.YtmnimbnojdndmaaGreatDoor
namespace Go.Proofs.YtmnimbnojdndmaaGreatDoor
open Go.RowKit Go.Cd
def D7 (l:List Int):List Nat:=l.map Int.toNat
@[simp] theorem abD (l:List Int):(D7 l).length=l.length:=by simp[D7]
end Go.Proofs.YtmnimbnojdndmaaGreatDoor
namespace Go.Proofs.YtmnimbnojdndmaaGreatDoor
open Go.RowKit Go.Cd _root_.Go.Proofs.Tryz
variable {w:World} {v:Value} {x:Nat} {l:List Nat}
def ZK (b off len cap:Nat) (i:Nat) (z:Int) (w:World) (g:i<len)
 (f:b<w.heap.size) (d:w.cell? ⟨b,off+i,none⟩=some (.int .u32 z)) (c:0<=z) (a:z<4294967296) :
 Calls prog 47 #[.agg #[.slice (some ⟨b,off,none⟩) len cap],.int .i64 i] w λe w'=>e=.returned (.int .u64 z)/\Below w.heap.size w w':=by
 go_enter func47,ntmps47;go_wp2;go_ret;exact⟨rfl,(gO _ _).alloc (gw _) _⟩
def VU (a:Option Addr) (len cap:Nat) (i:Nat) (w:World) (b:¬i<len) :
 Calls prog 47 #[.agg #[.slice a len cap],.int .i64 i] w λe w'=>e=.returned (.int .u64 0)/\Below w.heap.size w w':=by
 go_enter func47,ntmps47;go_wp2;go_ret;exact⟨rfl,(gO _ _).alloc (gw _) _⟩
def sw (h:bT w v x) (i:Nat) :
 Calls prog 47 #[v,.int .i64 i] w λe w'=>e=.returned (.int .u64 (oJ B x i:Nat))/\Below w.heap.size w w':=by
 obtain⟨s,rfl,j⟩:=h;obtain⟨a,cap,rfl,k,g⟩:=j.out;rw[dG] at *;by_cases d:i<(bY B x).length
 ·obtain⟨b,off,rfl,f,c⟩:=g i (by simpa using d);have e:(cu (bY B x))[i]'(by simpa using d)=.int .u32 (oJ B x i:Nat):=by
   have:=UE bE x i;rw[gA d] at this;simp only[oy] at this;simp[cu,this]
  rw[e] at c;exact ZK b off _ cap i _ w d f c (by omega) (by have:=xI bE x i;unfold B at this⊢;omega)
 have e:oJ B x i=0:=by
  have:=UE bE x i;rw[pD (by omega)] at this;simpa using this.symm
 rw[e];exact VU a _ cap i w d
def Om (b off len cap:Nat) (l:List Nat) (w:World) (a:l.length=len) (r:len<1099511627776) (B:b<w.heap.size) (u:len<=cap)
 (q:∀i (A:i<l.length),w.cell? ⟨b,off+i,none⟩=some (.int .u32 (l[i]:Nat))) :
 Calls prog 48 #[.slice (some ⟨b,off,none⟩) len cap] w λe w'=>∃n:Nat,n<=len/\(∀j (_:n<=j) (f:j<l.length),l[j]=0)/\(n=0\/l[n-1]?≠some 0)/\
  e=.returned (.agg #[.slice (some ⟨b,off,none⟩) n n])/\Below w.heap.size w w':=by
 have t:=aa a;clear a;go_enter func48,ntmps48;go_wp2;go_loop [3] (λn=>∃k:Nat,k<=len/\n=.int .i64 k/\(∀j (_:k<=j) (f:j<l.length),l[j]=0)) (λn=>(intOf n).toNat)
 case atStart=>exact⟨len,gw _,rfl,λj h d=>by have:=t.out;omega⟩
 case round=>
  obtain⟨k,s,rfl,o⟩:=hrel;have m:=aa o;clear o;by_cases y:0<k
  ·obtain⟨z,c⟩:∃z,l[k-1]? = some z:=⟨_,gA (by have:=t.out;omega)⟩;have g:w.cell? ⟨b,off+(k-1),none⟩=some (.int .u32 (z:Nat)):=by
    obtain⟨h,d⟩:=ir.1 c;rw[q _ h,d]
   have p:=aa c;clear c q;by_cases h0:z=0
   ·subst h0;go_wp2;go_round
    case rel=>exact⟨k-1,by omega,by go_num,λj h d=>by
     by_cases f:j=k-1
     ·subst f;have:=p.out;rw[gA d] at this;simpa using this
     exact m.out j (by omega) d⟩
    case measure=>simp[intOf];omega
   have x:((z:Int)==0)=false:=by simpa using h0
   go_wp2;exact bodyPost_ret (v:=.agg #[.slice (some ⟨b,off,none⟩) k k]) (by simp[results,results48,go_sem]) rfl ⟨k,s,m.out,.inr (by rw[p.out];simpa using h0),rfl,ah _⟩
  go_wp2;exact bodyPost_ret (v:=.agg #[.slice (some ⟨b,off,none⟩) k k]) (by simp[results,results48,go_sem]) rfl ⟨k,s,m.out,.inl (by omega),rfl,ah _⟩
def SI (a:Option Addr) (cap:Nat) (w:World) :
 Calls prog 48 #[.slice a 0 cap] w λe w'=>e=.returned (.agg #[.slice a 0 0])/\Below w.heap.size w w':=by
 go_enter func48,ntmps48;go_wp2;refine wp_loop_rounds 1 ?_;rw[rounds_succ];go_wp2;exact bodyPost_ret (v:=.agg #[.slice a 0 0]) (by simp[results,results48,go_sem]) rfl ⟨rfl,ah _⟩
def gP (l:List Nat) (i:Nat) (h:i<l.length):(cu l)[i]'(by simpa using h)=.int .u32 (l[i]:Nat):=by simp[cu]
def H8 (h:Sl nI w v (cu l)) (u:∀d∈l,d<B) (f:l.length<1099511627776) :
 Calls prog 48 #[v] w λe w'=>∃r,e=.returned r/\bT w' r (val B l)/\Below w.heap.size w w':=by
 obtain⟨a,cap,rfl,y,o⟩:=h;rw[dG] at *;rcases o with⟨o,A⟩|⟨b,off,cs,q,rfl,g,p⟩
 ·obtain rfl:l=[]:=by simpa [cu] using o
  refine(SI a cap w).mono ?_;rintro e w'⟨rfl,k⟩;exact⟨_,rfl,⟨_,rfl,by rw[show val B []=0 from rfl,di];exact .nil _ _ _ _ (λ_=>rfl)⟩,k⟩
 refine(Om b off l.length cap l w rfl f (block_lt g) y λi m=>?_).mono ?_
 ·unfold World.cell?;rw[g];have:=p i (by simpa using m);rw[gP _ _ m] at this;simpa using this
 rintro e w'⟨n,x,s,h0,rfl,k⟩
 have t:bY B (val B l)=l.take n:=Dy bE l n u (λd hd=>by
  obtain⟨j,z,rfl⟩:=lB.1 hd;rw[List.getElem_drop]
  exact s _ (by omega) _) x h0
 refine⟨_,rfl,⟨_,rfl,?_⟩,k⟩;rw[t];have c:(cu (l.take n)).length=n:=by simp;omega
 refine⟨_,n,by rw[c],by rw[c];exact gw _,.inr ⟨b,off,cs,q,rfl,by rw[k.block b (block_lt g)];exact g,λi m=>?_⟩⟩;rw[c] at m;rw[p i (by simp;omega)];simp[cu]
def VV (w:World) (a:Option Addr) (n c:Nat):(Go.binOp .eql 42 (.slice a n c) (.slice none 0 0)).run prog w=.ok (.bool a.isNone) w:=
 Lib.run_eql_slice_nil w 42 109 a n c 0 0 underlying42
def Le (h:bG w v (cu l)) (i:l.length<1099511627776) :
 Calls prog 91 #[v] w λe w'=>∃r,e=.returned r/\w'.ownsRow w.heap.size nI 1 r l.length (cu l)/\Below w.heap.size w w':=by
 obtain⟨a,cap,rfl,n,f⟩:=id h;have g:=dG l;rw[g] at h n;rw[g];have:=VV;cases a with
 | none=>
   have h0:l=[]/\cap=0:=by
    rcases f with f|⟨b,off,cs,_,p,m,_⟩
    ·exact⟨by simpa [cu] using f.1,f.2 rfl⟩
    cases m
   obtain⟨rfl,rfl⟩:=h0;clear f h g;go_enter func91,ntmps91;go_wp2;go_ret;exact⟨_,rfl,iu _ _ _ _,gO _ _⟩
 | some ad=>
   have H:=aa h;clear f h g;go_enter func91,ntmps91;go_wp2_with (at_builtin;refine bR rfl _ _ 42 rfl w.heap.size nI _ 4 Gy (.slice (some ⟨w.heap.size,0,none⟩) 0 0) 0 [] rfl (rM _ _) _ (cu l) rfl (H.out.mono (ah _)) (Gx l) (by rw[dG];unfold maxLen;omega) (by rw[dG];omega) (by simp) ?_;intro v' w' c d);rw[dG,kh,ks] at c;go_wp2;go_ret;exact⟨_,rfl,c,(ah _).grown d (by simp) (λk o=>zf (mL o))⟩
def VW (h:Sl nI w v (cu l)) (s:∀d∈l,d<B) (b:l.length<1099511627776) :
 Calls prog 60 #[v] w λe w'=>∃r,e=.returned r/\bT w' r (val B l)/\Below w.heap.size w w':=by
 go_enter func60,ntmps60;go_wp2_with fail;refine(Le (h.any.mono (ah _)) b).mono ?_;rintro e A⟨r,rfl,c,f⟩;go_wp2_with fail;refine(H8 (Sl.aU c) s b).mono ?_;rintro e q⟨z,rfl,i,g⟩;obtain⟨a,n,cap,rfl,p⟩:=i.out;have j:=af f g;have k:q.heap[w.heap.size]? = some (.cells #[.slice none 0 0] 44):=(j.block _ (by simp)).trans (Qa _ _);have x:=p.put (o:=0) (u:=.slice a n cap) k (by decide);have t:=aj (off:=0) (u:=.slice a n cap) ((ah _).trans (j.mono (by simp))) (gw _);have m:=Jl (o:=0) (u:=.slice a n cap) k (by decide);obtain⟨y,hf⟩:=abg j;clear k c f g j p i h;go_wp2;exact bodyPost_ret (v:=.agg #[.slice a n cap]) (by simp[results,results60,go_sem,m]) rfl ⟨_,rfl,x,t⟩
def uf (x:Nat) (A:x<18446744073709551616) (w:World) :
 Calls prog 14 #[.int .u64 x] w λe w'=>∃r,e=.returned r/\bT w' r x/\Below w.heap.size w w':=by
 have c:∀d∈[x % B,x / B % B],d<B:=by
  intro d hd;simp only[jf,km,or_false] at hd;rcases hd with rfl|rfl <;> exact mx _ (by decide)
 have o:val B [x % B,x / B % B]=x:=by
  simp only[val,B];omega
 have h:=aa o;have j:=aa c;clear o c;go_enter func14,ntmps14;go_wp2_with fail;refine(H8 (l:=[x % B,x / B % B]) ⟨_,2,rfl,gw _,.inr ⟨_,0,_,_,rfl,heap_alloc_new' _ _ _ (by simp),?_⟩⟩ j.out (by simp)).mono ?_
 ·intro i t
  match i,t with
  | 0,_=>simp[cu,B]
  | 1,_=>simp[cu,B];omega
 rintro e p⟨z,rfl,b,f⟩;rw[h.out] at b;obtain⟨a,n,cap,rfl,k⟩:=b.out;have m:p.heap[w.heap.size]? = some (.cells #[.slice none 0 0] 44):=(f.block _ (by simp;omega)).trans ((heap_alloc_old _ _ (by simp)).trans (Qa _ _));obtain⟨g,s⟩:=oN m (by decide) k;have q:=aj (off:=0) (u:=.slice a n cap) ((dH _ _).trans (f.mono (by simp;omega))) (gw _);obtain⟨y,hf⟩:=abg f;clear m f k b h j;go_wp2;exact bodyPost_ret (v:=.agg #[.slice a n cap]) (by simp[results,results14,go_sem,g]) rfl ⟨_,rfl,s,q⟩
def zR (h:bT w v x) (b:(bY B x).length<1099511627776) :
 Calls prog 59 #[v] w λe w'=>∃r,e=.returned r/\w'.ownsRow (w.heap.size+1) nI 1 r (bY B x).length (cu (bY B x))/\Below w.heap.size w w':=by
 obtain⟨s,rfl,f⟩:=h;obtain⟨a,cap,rfl,_⟩:=id f;rw[dG] at *;have H:=aa f;clear f;go_enter func59,ntmps59;go_wp2_with fail;refine(Le (H.out.any.mono (ah _)) b).mono ?_;rintro e g⟨r,rfl,c,d⟩;go_wp2;go_ret;exact⟨_,rfl,by simpa using c,(ah _).trans (d.mono (by simp))⟩
def ZL (h:bT w v x) :
 Calls prog 20 #[v] w λe w'=>e=.returned (.bool (x==0))/\Below w.heap.size w w':=by
 obtain⟨a,n,cap,rfl,h⟩:=h.out;have c:=h.len;have b:((n:Int)==0)=(x==0):=by
  rw[ur];simp[c,<-yS bE (x:=x)]
 have d:=aa b;clear h c b;go_enter func20,ntmps20;go_wp2;go_ret;exact⟨dV d.out,ah _⟩
def pK {u:Value} {y:Nat} (h:bT w v x) (k:bT w u y) (V:(bY B x).length<1099511627776) (U:(bY B y).length<1099511627776) :
 Calls prog 12 #[v,u] w λe w'=>e=.returned (.int .i64 (sK x y))/\Below w.heap.size w w':=by
 obtain⟨a,n,cap,rfl,h⟩:=h.out;obtain⟨N,c,f,rfl,k⟩:=k.out;have L:=h.len;have r:=k.len;rw[<-L] at V;rw[<-r] at U;have HN:=aa L;have T:=aa r;have S:=aa h;have Q:=aa k;have b:∀m,n<=m->c<=m->x / B ^ m=y / B ^ m:=λm Z W=>by
  rw[pN ((cZ bE).1 (by omega)),pN ((cZ bE).1 (by omega))]
 have F:=aa b;clear L r h k b;go_enter func12,ntmps12;go_wp2_with fail
 all_goals
  go_loopw [5] (λi wr=>∃k:Nat,(k<=n\/k<=c)/\i=.int .i64 ((k:Int)-1)/\x / B ^ k=y / B ^ k/\Below w.heap.size w wr/\wr.cell? ⟨w.heap.size,0,none⟩=some (.slice a n cap)/\wr.cell? ⟨w.heap.size+1,0,none⟩=some (.slice N c f)/\w.heap.size+1<wr.heap.size)
   (λi _=>((intOf i)+1).toNat)
  case atStart=>
   first
    | exact⟨c,.inr (gw _),rfl,F.out _ (by omega) (by omega),dH _ _,by go_simp,by go_simp,by simp⟩
    | exact⟨n,.inl (gw _),rfl,F.out _ (by omega) (by omega),dH _ _,by go_simp,by go_simp,by simp⟩
    | exact(Nat.le_total n c).elim (λP=>⟨c,.inr (gw _),by rw[show max (n:Int) (c:Int)=c by omega],F.out _ (by omega) (by omega),dH _ _,by go_simp,by go_simp,by simp⟩) (λP=>⟨n,.inl (gw _),by rw[show max (n:Int) (c:Int)=n by omega],F.out _ (by omega) (by omega),dH _ _,by go_simp,by go_simp,by simp⟩)
  case round=>
   obtain⟨k,hk,rfl,E,z,s,q,o⟩:=hrel;have D:=aa E;clear E;by_cases R:0<k
   ·obtain⟨j,rfl⟩:∃j,k=j+1:=⟨k-1,by omega⟩;have O:((j+1:Nat):Int)-1=j:=by omega
    rw[O];clear O;go_wp2_with fail;have K:∀g:Gr wr.drew,g.tw.cell? ⟨w.heap.size,0,none⟩=some (.slice a n cap):=λg=>(g.ext.cell (p:=⟨w.heap.size,0,none⟩) (by simp;omega)).trans s;have M:∀g:Gr wr.drew,g.tw.cell? ⟨w.heap.size+1,0,none⟩=some (.slice N c f):=λg=>(g.ext.cell (p:=⟨w.heap.size+1,0,none⟩) (by simp;omega)).trans q;refine aC (Array.replicate 8 true) 8 0 mixed ?_;refine ay [0,1,3,4] 4 ?_
    repeat (refine aA rfl ?_;go_big_quiet_step (rfl))
    refine az ?_;refine aI 2 ?_;go_wp2_with fail;refine(sw (x:=x) (S.out.mono (af z (ag _))) j).mono ?_;rintro e Y⟨rfl,d⟩;go_wp2_with fail;refine aF d ?_;refine aI 5 ?_;go_wp2_with fail;refine(sw (x:=y) (Q.out.mono (af z (af (ag _) d))) j).mono ?_;rintro e X⟨rfl,l⟩;go_wp2_with fail;refine aF l ?_;refine ay [6,7] 0 ?_
    repeat (refine aA rfl ?_;go_big_quiet_step (rfl))
    refine az ?_;refine aJ [] ?_;refine tail_nil ?_;have A:=af (ag _) (af d l);have J:=af z A;have G:=(A.cell (p:=⟨w.heap.size,0,none⟩) (by show w.heap.size<wr.heap.size;omega)).trans s;have H:=(A.cell (p:=⟨w.heap.size+1,0,none⟩) o).trans q;have t:=j9 o A.size;clear K M d l s q z o A;go_wp2
    ·have C:oJ B x j<oJ B y j:=by assumption
     go_ret;exact⟨Gw (Q0 (Eu D.out C)).symm,J⟩
    ·have C:oJ B y j<oJ B x j:=by assumption
     go_ret;exact⟨Gw (xJ (Eu D.out.symm C)).symm,J⟩
    have C:oJ B x j=oJ B y j:=by omega
    have E:x / B ^ j=y / B ^ j:=by rw[vO x j,vO y j,D.out,C]
    go_roundw
    case rel=>exact⟨j,by omega,rfl,E,J,G,H,t⟩
    case measure=>simp[intOf]
   obtain rfl:k=0:=by omega
   have I:x=y:=by have:=D.out;simpa using this
   subst I;go_wp2;go_ret;exact⟨Gw (UG _).symm,z⟩
end Go.Proofs.YtmnimbnojdndmaaGreatDoor
