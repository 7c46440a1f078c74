/- TraceParts and TraceWalks: a machine takes a character as those of its full decomposition, one by one; texts that are alike go through it, and of others none; no condition. -/
import Derived.Test.YtjidohgiigjifaaGreatDoorR01
import Derived.Test.YtjidohgiigjifaaGreatDoorRows
import Derived.WalkKit
import Derived.WalkSpells
import Derived.WalkLawsBesides
import Derived.BigQuiet
import Derived.Laws.AppendOwnNone
import Derived.OwnWalk
import Derived.Lib.AppendZerosOnto
import Derived.Laws.IdiomStrings
set_option maxRecDepth 100000
set_option maxHeartbeats 6400000
namespace Go.Cd
open Go.RowKit
def Sl (e:TypeId) (w:World) (v:Value) (xs:List Value):Prop:=
 ∃a cap,v=.slice a xs.length cap∧xs.length≤cap∧(xs=[]∧(a=none→cap=0)∨∃b off cs fr,a=some ⟨b,off,none⟩∧w.heap[b]? = some (.cells cs e fr)∧∀i (h:i<xs.length),cs[off+i]? = some xs[i])
def bD (w:World) (v:Value) (xs:List Value):Prop:=
 ∃a cap,v=.slice a xs.length cap∧xs.length≤cap∧(xs=[]∧(a=none→cap=0)∨∃b off cs e fr,a=some ⟨b,off,none⟩∧w.heap[b]? = some (.cells cs e fr)∧∀i (h:i<xs.length),cs[off+i]? = some xs[i])
theorem Sl.any {e:TypeId} {w:World} {v:Value} {xs:List Value} (h:Sl e w v xs):bD w v xs:=by
 obtain ⟨a,cap,hv,hc,h⟩:=h;exact ⟨a,cap,hv,hc,h.imp id fun ⟨b,off,cs,fr,r⟩=>⟨b,off,cs,e,fr,r⟩⟩
theorem block_lt {w:World} {b:Nat} {o:Obj} (h:w.heap[b]? = some o):b<w.heap.size:=(Array.getElem?_eq_some_iff.1 h).1
theorem Sl.mono {e:TypeId} {w w':World} {v:Value} {xs:List Value} (h:Sl e w v xs) (hb:Below w.heap.size w w'):Sl e w' v xs:=by
 obtain ⟨a,cap,hv,hc,h⟩:=h;refine ⟨a,cap,hv,hc,h.imp id ?_⟩;rintro ⟨b,off,cs,fr,ha,hh,hx⟩;exact ⟨b,off,cs,fr,ha,by rw [hb.block b (block_lt hh)];exact hh,hx⟩
theorem bD.mono {w w':World} {v:Value} {xs:List Value} (h:bD w v xs) (hb:Below w.heap.size w w'):bD w' v xs:=by
 obtain ⟨a,cap,hv,hc,h⟩:=h;refine ⟨a,cap,hv,hc,h.imp id ?_⟩;rintro ⟨b,off,cs,e,fr,ha,hh,hx⟩;exact ⟨b,off,cs,e,fr,ha,by rw [hb.block b (block_lt hh)];exact hh,hx⟩
theorem Sl.nil (e:TypeId) (w:World) (a:Option Addr) (cap:Nat) (h:a=none→cap=0):Sl e w (.slice a 0 cap) []:=⟨a,cap,rfl,Nat.zero_le _,.inl ⟨rfl,h⟩⟩
theorem bD.out {w:World} {v:Value} {xs:List Value} (h:bD w v xs):∃a cap,v=.slice a xs.length cap∧xs.length≤cap∧
 ∀i (hi:i<xs.length),∃b off,a=some ⟨b,off,none⟩∧b<w.heap.size∧w.cell? ⟨b,off+i,none⟩=some xs[i]:=by
 obtain ⟨a,cap,hv,hc,h⟩:=h;refine ⟨a,cap,hv,hc,fun i hi=>?_⟩;rcases h with h|⟨b,off,cs,e,fr,ha,hh,hx⟩
 ·rw [h.1] at hi;simp at hi
 ·refine ⟨b,off,ha,block_lt hh,?_⟩;unfold World.cell?;rw [hh];simpa using hx i hi
theorem Sl.out {e:TypeId} {w:World} {v:Value} {xs:List Value} (h:Sl e w v xs):∃a cap,v=.slice a xs.length cap∧xs.length≤cap∧
 ∀i (hi:i<xs.length),∃b off,a=some ⟨b,off,none⟩∧b<w.heap.size∧w.cell? ⟨b,off+i,none⟩=some xs[i]:=h.any.out
theorem bD.cases {w:World} {v:Value} {xs:List Value} (h:bD w v xs):(xs=[]∧∃a cap,v=.slice a 0 cap∧(a=none→cap=0))∨
 ∃b off cap,v=.slice (some ⟨b,off,none⟩) xs.length cap∧xs.length≤cap∧0<xs.length∧b<w.heap.size∧∀i (hi:i<xs.length),w.cell? ⟨b,off+i,none⟩=some xs[i]:=by
 obtain ⟨a,cap,hv,hc,h⟩:=h;by_cases hn:xs=[]
 ·subst hn;refine .inl ⟨rfl,?_⟩;rcases h with h|⟨b,off,cs,e,fr,ha,hh,hx⟩
  ·exact ⟨a,cap,hv,h.2⟩
  ·exact ⟨a,cap,hv,fun e=>by rw [ha] at e;cases e⟩
 ·rcases h with h|⟨b,off,cs,e,fr,ha,hh,hx⟩
  ·exact absurd h.1 hn
  ·subst ha;refine .inr ⟨b,off,cap,hv,hc,List.length_pos_iff.2 hn,block_lt hh,fun i hi=>?_⟩;unfold World.cell?;rw [hh];simpa using hx i hi
def fG (l:List Nat):List Value:=l.map fun d:Nat=>Value.int .u32 (d:Int)
def ds (l:List Nat):List Value:=l.map fun d:Nat=>Value.int .i64 (d:Int)
@[simp] theorem bW (l:List Nat):(ds l).length=l.length:=by simp [ds]
theorem eU (l:List Nat) (i:Nat) (h:i<l.length):(ds l)[i]'(by simpa using h)=.int .i64 (l[i]:Nat):=by simp [ds]
theorem om (l m:List Nat):ds (l++m)=ds l++ds m:=by simp [ds]
def bH (l:List Int):List Value:=l.map fun d:Int=>Value.int .i64 d
@[simp] theorem bR (l:List Nat):(fG l).length=l.length:=by simp [fG]
@[simp] theorem ed (l:List Int):(bH l).length=l.length:=by simp [bH]
abbrev lC:TypeId:=95
abbrev aU:TypeId:=3
def B:Nat:=4294967296
def dJ (w:World) (v:Value) (x:Nat):Prop:=∃s,v=.agg #[s]∧Sl lC w s (fG (aV B x))
theorem dJ.mono {w w':World} {v:Value} {x:Nat} (h:dJ w v x) (hb:Below w.heap.size w w'):dJ w' v x:=by
 obtain ⟨s,hv,hs⟩:=h;exact ⟨s,hv,hs.mono hb⟩
theorem dJ.out {w:World} {v:Value} {x:Nat} (h:dJ w v x):∃a n cap,v=.agg #[.slice a n cap]∧dJ w (.agg #[.slice a n cap]) x:=by
 obtain ⟨s,rfl,a,cap,rfl,hr⟩:=h;exact ⟨a,_,cap,rfl,⟨_,rfl,a,cap,rfl,hr⟩⟩
theorem dJ.len {w:World} {a:Option Addr} {n cap x:Nat} (h:dJ w (.agg #[.slice a n cap]) x):n=(aV B x).length:=by
 obtain ⟨s,hs,a',cap',rfl,_⟩:=h;simp at hs;exact hs.2.1
theorem Sl.put {e:TypeId} {w:World} {v:Value} {xs:List Value} (h:Sl e w v xs) {k o:Nat} {u:Value} {cs:Array Value} {T:TypeId} {fr:Nat×Nat} (hk:w.heap[k]? = some (.cells cs T fr)) (hT:T≠e) :
 Sl e (w.setCell ⟨k,o,none⟩ u) v xs:=by
 obtain ⟨a,cap,hv,hc,h⟩:=h;refine ⟨a,cap,hv,hc,h.imp id ?_⟩;rintro ⟨b,off,cs',fr',ha,hh,hx⟩;refine ⟨b,off,cs',fr',ha,?_,hx⟩;rw [Below.heap_setCell _ _ _ _ (fun e=>?_)]
 ·exact hh
 ·simp only at e;subst e;rw [hk] at hh;cases hh;exact hT rfl
theorem dJ.put {w:World} {v:Value} {x:Nat} (h:dJ w v x) {k o:Nat} {u:Value} {cs:Array Value} {T:TypeId} {fr:Nat×Nat} (hk:w.heap[k]? = some (.cells cs T fr)) (hT:T≠lC) :
 dJ (w.setCell ⟨k,o,none⟩ u) v x:=by
 obtain ⟨s,hv,hs⟩:=h;exact ⟨s,hv,hs.put hk hT⟩
theorem DT {w:World} {k o:Nat} {u:Value} {cs:Array Value} {T:TypeId} {fr:Nat×Nat} (hk:w.heap[k]? = some (.cells cs T fr)) (ho:o<cs.size):(w.setCell ⟨k,o,none⟩ u).cell? ⟨k,o,none⟩=some u:=
 World.cell?_setCell_same (w:=w) (a:=⟨k,o,none⟩) (v:=u) (u:=cs[o]) (by unfold World.cell?;rw [hk];simp [ho])
theorem qX {w2:World} {k:Nat} {a:Option Addr} {n cap x:Nat} {c:Value} {T:TypeId} {fr:Nat×Nat} (hk:w2.heap[k]? = some (.cells #[c] T fr)) (hT:T≠lC) (hN:dJ w2 (.agg #[.slice a n cap]) x) :
 (w2.setCell ⟨k,0,none⟩ (.slice a n cap)).cell? ⟨k,0,none⟩=some (.slice a n cap)∧dJ (w2.setCell ⟨k,0,none⟩ (.slice a n cap)) (.agg #[.slice a n cap]) x:=
 ⟨DT hk (by simp),hN.put hk hT⟩
theorem dh {a b:Bool} (h:a=b):Ending.returned (.bool a)=.returned (.bool b):=by rw [h]
theorem oo {k:IntKind} {a b:Int} (h:a=b):Ending.returned (.int k a)=.returned (.int k b):=by rw [h]
theorem heap_alloc_new' (w:World) (o:Obj) (k:Nat) (h:k=w.heap.size):(w.alloc o).heap[k]? = some o:=by subst h;exact heap_alloc_new _ _
theorem JQ (w:World) (o:Obj):(w.alloc o).heap[w.heap.size]? = some o:=heap_alloc_new _ _
theorem bC:2≤B:=by unfold B;omega
theorem Uj {W w1:World} (hb:Below W.heap.size W w1):(∀b o,b<W.heap.size→w1.cell? ⟨b,o,none⟩=W.cell? ⟨b,o,none⟩)∧(∀b o,b<W.heap.size→w1.frozen? ⟨b,o,none⟩=W.frozen? ⟨b,o,none⟩):=
 ⟨fun b o h=>hb.cell (p:=⟨b,o,none⟩) h,fun b o h=>hb.frozen (p:=⟨b,o,none⟩) h⟩
theorem Sl.aT {w:World} {base:Nat} {e:TypeId} {v:Value} {n:Nat} {xs:List Value} (h:w.ownsRow base e 1 v n xs):Sl e w v xs:=by
 obtain ⟨h1,h2⟩:=h;simp only [Nat.mul_one] at h1 h2;rcases h2 with ⟨rfl,rfl⟩|⟨g,cap,cur,rfl,hg,hh,hc,hm,hs,ht⟩
 ·obtain rfl:=List.length_eq_zero_iff.1 h1;exact .nil _ _ _ _ (fun _=>rfl)
 ·refine ⟨_,cap,by rw [h1],by rw [h1];exact hc,.inr ⟨g,0,cur,(0,0),rfl,hh,fun i hi=>?_⟩⟩;subst ht;rw [List.length_take] at hi;rw [Nat.zero_add,List.getElem_take,←Array.getElem?_toList];exact List.getElem?_eq_getElem _
def Elem (P:Program) (t e:TypeId) (z:Value) (bytes:Nat):Prop:=
 z.oneCell'=true∧P.underlying t=some (.slice e)∧∃i,P.info? e=some i∧i.zero=some z∧i.size=1∧i.bytes=bytes
theorem il (w:World) (e:TypeId):(w.alloc (.cells #[] e)).ownsRow w.heap.size e 1 (.slice (some ⟨w.heap.size,0,none⟩) 0 0) 0 []:=
 ⟨by simp,.inr ⟨w.heap.size,0,#[],rfl,Nat.le_refl _,heap_alloc_new _ _,Nat.le_refl _,Nat.zero_le _,rfl,rfl⟩⟩
theorem jl {z:Value} (h:z.oneCell'=true):z.cells.size=1:=by
 cases z <;> first|rfl|(simp [Value.oneCell'] at h)
theorem bG {P:Program} {w:World} {ops:Array Oper} {rest:List Oper} {o:Oper} {a:Act} {Q:Exit→Act→World→Prop} (hgd:o.guard=none) (s x:Operand) (t:TypeId)
 (ho:o.op=.call { callee:=.builtin .append,args:=#[s,x],argTypes:=#[t,t] })
 (base:Nat) (e:TypeId) (z:Value) (bytes:Nat) (hE:Elem P t e z bytes)
 (v:Value) (n:Nat) (xs:List Value) (hs:a.eval s=v) (hown:w.ownsRow base e 1 v n xs)
 (u:Value) (news:List Value) (hx:a.eval x=u) (hu:bD w u news) (h1:∀u∈news,u.oneCell'=true)
 (h63:n+news.length≤maxLen) (hbytes:(n+news.length)*bytes≤140737488355328) (hbase:base≤w.heap.size)
 (h:∀v' w',w'.ownsRow base e 1 v' (n+news.length) (xs++news)→w.grownBy w' v.ownBlock→wpList P ops Q rest (a.put o.dst v') w'):wpList P ops Q (o::rest) a w:=by
 obtain ⟨hz1,ht,i,hi,hz,hsize,hby⟩:=hE;obtain ⟨ad,cap,rfl,hc,hr⟩:=hu;cases ad with
 | none=>
   have hn:news=[]:=by
    rcases hr with hr|⟨b,off,cs,_,fr,ha,_⟩
    ·exact hr.1
    ·cases ha
   subst hn;have hcap:cap=0:=by
    rcases hr with hr|⟨b,off,cs,_,fr,ha,_⟩
    ·exact hr.2 rfl
    ·cases ha
   subst hcap;refine wpList_append_own_none hgd s x t ho base e i 1 ht hi v n xs hs hown hx ?_;exact h v w (by simpa using hown) ⟨rfl,rfl,rfl,Nat.le_refl _,fun _ _ _=>rfl⟩
 | some ad=>
   refine wpList_append_own w hgd s x t ho base e i z 1 bytes ht hi hz hsize hby (jl hz1) (by decide) v n xs hs hown ad news.length cap news hx (by simp) ?_ h1 h63 hbytes hbase ?_
   ·intro j y hj;obtain ⟨hlt,rfl⟩:=List.getElem?_eq_some_iff.1 hj;rcases hr with hr|⟨b,off,cs,_,fr,ha,hh,hcs⟩
    ·rw [hr.1] at hlt;simp at hlt
    ·cases ha;have:=hcs j hlt;unfold World.cell? Addr.add;by_cases hj0:j=0
     ·subst hj0;simp only [if_true];rw [hh];simpa using this
     ·rw [if_neg hj0];simp only;rw [hh];simpa using this
   ·intro v' w' h2 h3 _;exact h v' w' h2 h3
theorem aj {B:Nat} {a w:World} {b off:Nat} {u:Value} (h:Below B a w) (hb:B≤b):Below B a (w.setCell ⟨b,off,none⟩ u):=h.setCell hb u
theorem ai {w:World} (o:Obj):Below w.heap.size w (w.alloc o):=(Below.refl _ _).alloc (Nat.le_refl _) o
theorem ah (w:World):Below w.heap.size w w.drew:=(Below.refl _ _).drew
theorem aA {w0 w:World} (E:Below w0.heap.size w0 w) {b o:Nat} {v:Value} (h:w0.cell? ⟨b,o,none⟩=some v):w.cell? ⟨b,o,none⟩=some v:=
 (E.cell (p:=⟨b,o,none⟩) (World.block_lt_of_cell? w0 ⟨b,o,none⟩ h)).trans h
theorem Gr.cell {w0 w:World} (E:Below w0.heap.size w0 w) {b o:Nat} {v:Value} (h:w0.cell? ⟨b,o,none⟩=some v):∀g:Gr w,g.tw.cell? ⟨b,o,none⟩=some v:=
 fun g=>aA (ag E g.ext) h
theorem dF {w:World} (o o':Obj):Below w.heap.size w ((w.alloc o).alloc o'):=(ai o).alloc (by simp) o'
theorem dY {P:Program} (w:World) {ops:Array Oper} {rest:List Oper} {o:Oper} {a:Act} {Q:Exit→Act→World→Prop}
 (hg:o.guard=none) (l c:Operand) (t:TypeId) (hop:o.op=Op.makeSlice t l c)
 (base:Nat) (e:TypeId) (z:Value) (bytes:Nat) (hE:Elem P t e z bytes) (hzc:z.cells=#[z])
 (kl kc:IntKind) (L C:Int) (n:Nat) (hl:a.eval l=.int kl L) (hc:a.eval c=.int kc C) (hL:L=(n:Int)) (hC:C=(n:Int)) (b2:bytes*n≤281474976710656) (b3:n≤maxLen) (b4:base≤w.heap.size)
 (hK:∀w',w'.ownsRow base e 1 (.slice (some ⟨w.heap.size,0,none⟩) n n) n (List.replicate n z)→w.grownBy w' none→wpList P ops Q rest (a.put o.dst (.slice (some ⟨w.heap.size,0,none⟩) n n)) w') :
 wpList P ops Q (o::rest) a w:=by
 obtain ⟨hz1,ht,i,hi,hz,hsize,hby⟩:=hE;refine wpList_make_full w hg l c t hop base e i z 1 ht hi hz hsize kl kc L C n hl hc hL hC (by rw [hby];exact b2) b3 b4 fun w' h1 h2=>hK w' ?_ h2;rw [hzc,Nat.mul_one,toList_madeCells_one] at h1;exact h1
theorem gJ {w:World} {base:Nat} {e:TypeId} {g n cap:Nat} {xs:List Value} (h:w.ownsRow base e 1 (.slice (some ⟨g,0,none⟩) n cap) n xs) {j:Nat} (hj:j<xs.length) :
 w.cell? ⟨g,j,none⟩=some xs[j]∧w.frozen? ⟨g,j,none⟩=false:=by
 have hl:xs.length=n*1:=h.1;exact ⟨by rw [h.cellAt j (by omega)];exact List.getElem?_eq_getElem hj,h.frozenAt j⟩
theorem aG {w w':World} {base:Nat} {e:TypeId} {size:Nat} {v:Value} {n:Nat} {xs:List Value} (h:w.ownsRow base e size v n xs) (hb:Below w.heap.size w w'):w'.ownsRow base e size v n xs:=by
 obtain ⟨h1,h2⟩:=h;refine ⟨h1,h2.imp id ?_⟩;rintro ⟨g,cap,cur,hv,hg,hh,r⟩;exact ⟨g,cap,cur,hv,hg,by rw [hb.block g (block_lt hh)];exact hh,r⟩
theorem eH {w w':World} (h:w.grownBy w' none):Below w.heap.size w w':=
 ⟨h.os,h.tape,h.output,h.size,fun k hk=>h.block k hk (by simp)⟩
theorem lY (w:World) (cs:Array Value) (e:TypeId):bD (w.alloc (.cells cs e)) (.slice (some ⟨w.heap.size,0,none⟩) cs.size cs.size) cs.toList:=
 ⟨_,cs.size,by simp,by simp,.inr ⟨w.heap.size,0,cs,e,(0,0),rfl,heap_alloc_new _ _,fun i hi=>by
   rw [Nat.zero_add,←Array.getElem?_toList];exact List.getElem?_eq_getElem hi⟩⟩
theorem dK {P:Program} {W:World} {ops:Array Oper} {rest:List Oper} {o:Oper} {a:Act} {Q:Exit→Act→World→Prop} (hgd:o.guard=none) (s x:Operand) (t:TypeId)
 (ho:o.op=.call { callee:=.builtin .append,args:=#[s,x],argTypes:=#[t,t] })
 (base:Nat) (e:TypeId) (z:Value) (bytes:Nat) (hE:Elem P t e z bytes)
 (v:Value) (n:Nat) (xs:List Value) (hs:a.eval s=v) (hown:W.ownsRow base e 1 v n xs)
 (u:Value) (hx:a.eval x=.slice (some ⟨W.heap.size,0,none⟩) 1 1) (h1:u.oneCell'=true)
 (hbytes:(n+1)*bytes≤140737488355328) (h63:n+1≤maxLen) (w0:World) (hb:Below base w0 W) (hbase:base≤w0.heap.size)
 (h:∀v' w',w'.ownsRow base e 1 v' (n+1) (xs++[u])→Below base w0 w'→wpList P ops Q rest (a.put o.dst v') w'):wpList P ops Q (o::rest) a (W.alloc (.cells #[u] e)):=by
 have hsz:=hb.size;refine bG hgd s x t ho base e z bytes hE v n xs hs (hown.alloc _) _ [u] hx (lY W #[u] e) (by simpa using h1) (by simpa using h63) (by simpa using hbytes) (by simp;omega) ?_;intro v' w' h2 h3;refine h v' w' (by simpa using h2) ((hb.alloc (by omega) _).grown h3 (by simp;omega) ?_);intro k hk;exact (hown.lt k hk).1
theorem BQ (l:List Nat):∀u∈fG l,u.oneCell'=true:=by
 intro u hu;obtain ⟨d,_,rfl⟩:=List.mem_map.1 hu;rfl
theorem BR:Elem Go.Proofs.Tryz.prog 42 lC (.int .u32 0) 4:=⟨rfl,Go.Proofs.Tryz.underlying42,info_parts (by kernel_rfl)⟩
theorem fA:Elem Go.Proofs.Tryz.prog 23 aU (.int .i64 0) 8:=⟨rfl,Go.Proofs.Tryz.underlying23,info_parts (by kernel_rfl)⟩
theorem mixed:Go.Proofs.Tryz.prog.follows .mixedOrders=true:=by kernel_rfl
end Go.Cd
namespace Go.Proofs.YtjidohgiigjifaaGreatDoor
open Go.RowKit Go.Cd
theorem DU {a a' b b':Int} {p p':Bool} (h1:a=a') (h2:b=b') (h3:p=p'):Ending.returned (.tuple #[.int .i32 a,.int .i32 b,.bool p])=.returned (.tuple #[.int .i32 a',.int .i32 b',.bool p']):=by
 rw [h1,h2,h3]
theorem QV {w:World} (c f n:Nat) (hb:f+n<2147483648) (p:Bool) (hp:decide (f≤c∧c<f+n)=p) :
 Calls Tryz.prog 147 #[.int .i32 c,.int .i32 f,.int .i32 n] w fun e w'=>e=.returned (.bool p)∧w'=w:=by
 have HP:=ae hp;by_cases h1:f≤c
 ·by_cases h2:c<f+n
  ·clear hp;go_enter Tryz.func147,Tryz.ntmps147;go_wp2;go_ret;exact ⟨dh (by rw [←HP.out];exact decide_eq_decide.2 (by omega)),rfl⟩
  ·clear hp;go_enter Tryz.func147,Tryz.ntmps147;go_wp2;go_ret;exact ⟨dh (by rw [←HP.out];exact decide_eq_decide.2 (by omega)),rfl⟩
 ·clear hp;go_enter Tryz.func147,Tryz.ntmps147;go_wp2;go_ret;exact ⟨dh (by rw [←HP.out];exact (decide_eq_false (p:=f≤c∧c<f+n) (fun h=>h1 h.1)).symm),rfl⟩
theorem qY {w:World} (c:Nat) (hc:c<1114112) :
 Calls Tryz.prog 113 #[.int .i32 c] w fun e w'=>e=.returned (.int .i64 (hk c))∧w'=w:=by
 have I:=fun (f n:Nat) (hb:f+n<2147483648) (p:Bool) (hp:decide (f≤c∧c<f+n)=p)=>ae (QV (w:=w) c f n hb p hp);by_cases h1:4352≤c∧c<4371
 ·have E:hk c=1:=by unfold hk;rw [if_pos h1]
  have I1:=I 4352 19 (by decide) true (decide_eq_true h1);rw [E];clear E I;go_enter Tryz.func113,Tryz.ntmps113;go_wp2_with fail;refine I1.out.mono ?_;rintro e w' ⟨rfl,rfl⟩;go_wp2;go_ret;exact ⟨rfl,rfl⟩
 ·have I1:=I 4352 19 (by decide) false (decide_eq_false h1);by_cases h2:4449≤c∧c<4470
  ·have E:hk c=2:=by unfold hk;rw [if_neg h1,if_pos h2]
   have I2:=I 4449 21 (by decide) true (decide_eq_true h2);rw [E];clear E I h1;go_enter Tryz.func113,Tryz.ntmps113;go_wp2_with fail;refine I1.out.mono ?_;rintro e w' ⟨rfl,rfl⟩;go_wp2_with fail;refine I2.out.mono ?_;rintro e w' ⟨rfl,rfl⟩;go_wp2;go_ret;exact ⟨rfl,rfl⟩
  ·have I2:=I 4449 21 (by decide) false (decide_eq_false h2);by_cases h3:4520≤c∧c<4547
   ·have E:hk c=3:=by unfold hk;rw [if_neg h1,if_neg h2,if_pos h3]
    have I3:=I 4520 27 (by decide) true (decide_eq_true h3);rw [E];clear E I h1 h2;go_enter Tryz.func113,Tryz.ntmps113;go_wp2_with fail;refine I1.out.mono ?_;rintro e w' ⟨rfl,rfl⟩;go_wp2_with fail;refine I2.out.mono ?_;rintro e w' ⟨rfl,rfl⟩;go_wp2_with fail;refine I3.out.mono ?_;rintro e w' ⟨rfl,rfl⟩;go_wp2;go_ret;exact ⟨rfl,rfl⟩
   ·have I3:=I 4520 27 (by decide) false (decide_eq_false h3);by_cases h4:44032≤c∧c<55204
    ·have I4:=I 44032 11172 (by decide) true (decide_eq_true h4);have E:hk c=if (c-44032) % 28=0 then 4 else 5:=by unfold hk;rw [if_neg h1,if_neg h2,if_neg h3,if_neg (fun h=>h h4)]
     have HE:=ae E;obtain ⟨i,rfl⟩:∃i,c=44032+i:=⟨c-44032,by omega⟩;rw [Nat.add_sub_cancel_left] at HE;by_cases h5:i % 28=0
     ·have E5:hk (44032+i)=4:=by rw [HE.out,if_pos h5]
      rw [E5];have q:(((44032+i:Nat):Int)-44032).tmod 28=0:=by
       rw [show ((44032+i:Nat):Int)-44032=(i:Int) by omega];rw [Int.tmod_eq_emod_of_nonneg (by omega)];omega
      clear E E5 I h1 h2 h3;go_enter Tryz.func113,Tryz.ntmps113;go_wp2_with fail;refine I1.out.mono ?_;rintro e w' ⟨rfl,rfl⟩;go_wp2_with fail;refine I2.out.mono ?_;rintro e w' ⟨rfl,rfl⟩;go_wp2_with fail;refine I3.out.mono ?_;rintro e w' ⟨rfl,rfl⟩;go_wp2_with fail;refine I4.out.mono ?_;rintro e w' ⟨rfl,rfl⟩;go_wp2;go_ret;exact ⟨rfl,rfl⟩
     ·have E5:hk (44032+i)=5:=by rw [HE.out,if_neg h5]
      rw [E5];have q:¬(((44032+i:Nat):Int)-44032).tmod 28=0:=by
       rw [show ((44032+i:Nat):Int)-44032=(i:Int) by omega];rw [Int.tmod_eq_emod_of_nonneg (by omega)];omega
      clear E E5 I h1 h2 h3;go_enter Tryz.func113,Tryz.ntmps113;go_wp2_with fail;refine I1.out.mono ?_;rintro e w' ⟨rfl,rfl⟩;go_wp2_with fail;refine I2.out.mono ?_;rintro e w' ⟨rfl,rfl⟩;go_wp2_with fail;refine I3.out.mono ?_;rintro e w' ⟨rfl,rfl⟩;go_wp2_with fail;refine I4.out.mono ?_;rintro e w' ⟨rfl,rfl⟩;go_wp2;go_ret;exact ⟨rfl,rfl⟩
    ·have E:hk c=0:=by unfold hk;rw [if_neg h1,if_neg h2,if_neg h3,if_pos h4]
     have I4:=I 44032 11172 (by decide) false (decide_eq_false h4);rw [E];clear E I h1 h2 h3;go_enter Tryz.func113,Tryz.ntmps113;go_wp2_with fail;refine I1.out.mono ?_;rintro e w' ⟨rfl,rfl⟩;go_wp2_with fail;refine I2.out.mono ?_;rintro e w' ⟨rfl,rfl⟩;go_wp2_with fail;refine I3.out.mono ?_;rintro e w' ⟨rfl,rfl⟩;go_wp2_with fail;refine I4.out.mono ?_;rintro e w' ⟨rfl,rfl⟩;go_wp2;go_ret;exact ⟨rfl,rfl⟩
theorem Ao {w:World} (c:Nat) (hc:c<1114112) :
 Calls Tryz.prog 86 #[.int .i32 c] w fun e w'=>(∃a b:Nat,e=.returned (.tuple #[.int .i32 a,.int .i32 b,.bool (decide (4≤hk c))])∧(4≤hk c→cO c=[a,b]))∧w'=w:=by
 have HO:=ae (qY (w:=w) c hc);by_cases h4:hk c=4
 ·have hs:=(lX (c:=c)).1 h4;obtain ⟨i,rfl⟩:∃i,c=44032+i:=⟨c-44032,by omega⟩;rw [h4] at HO ⊢;have KF:=ae (show cO (44032+i)=[4352+i / 588,4449+i % 588 / 28] by unfold cO;rw [if_pos h4,Nat.add_sub_cancel_left]);have q0:((44032+i:Nat):Int)-44032=(i:Int):=by omega
  have q1:((i:Int)).tdiv 588=((i / 588:Nat):Int):=by rw [Int.tdiv_eq_ediv_of_nonneg (by omega)];omega
  have q2:(((i:Int)).tmod 588).tdiv 28=((i % 588 / 28:Nat):Int):=by rw [Int.tmod_eq_emod_of_nonneg (by omega),Int.tdiv_eq_ediv_of_nonneg (by omega)];omega
  have hi:i<11172:=by omega
  clear h4 hs;go_enter Tryz.func86,Tryz.ntmps86;go_wp2_with fail;refine HO.out.mono ?_;rintro e w' ⟨rfl,rfl⟩;go_wp2
  go_ret3
  exact ⟨⟨4352+i / 588,4449+i % 588 / 28,DU (by omega) (by omega) rfl,fun _=>KF.out⟩,rfl⟩
 ·by_cases h5:hk c=5
  ·have hs:=(ky (c:=c)).1 h5;obtain ⟨i,rfl⟩:∃i,c=44032+i:=⟨c-44032,by omega⟩;rw [h5] at HO ⊢;have KF:=ae (show cO (44032+i)=[44032+i-i % 28,4519+i % 28] by unfold cO;rw [if_neg h4,if_pos h5,Nat.add_sub_cancel_left]);have q0:((44032+i:Nat):Int)-44032=(i:Int):=by omega
   have q1:((i:Int)).tmod 28=((i % 28:Nat):Int):=by rw [Int.tmod_eq_emod_of_nonneg (by omega)];omega
   have hi:i<11172:=by omega
   have hj:i % 28<28:=Nat.mod_lt _ (by decide);have hji:i % 28≤i:=Nat.mod_le _ _;clear h4 h5 hs;go_enter Tryz.func86,Tryz.ntmps86;go_wp2_with fail;refine HO.out.mono ?_;rintro e w' ⟨rfl,rfl⟩;go_wp2
   go_ret3
   exact ⟨⟨44032+i-i % 28,4519+i % 28,DU (by omega) (by omega) rfl,fun _=>KF.out⟩,rfl⟩
  ·have hk4:hk c<4:=by have:=Ae c;omega
   have HD:=ae (decide_eq_false (by omega:¬4≤hk c));obtain ⟨k,hk0⟩:=af (hk c);rw [←hk0] at HO HD ⊢;have hk':k<4:=by omega
   rw [HD.out];clear h4 h5 hk4 hk0;go_enter Tryz.func86,Tryz.ntmps86;go_wp2_with fail;refine HO.out.mono ?_;rintro e w' ⟨rfl,rfl⟩;have z1:((k:Int)==4)=false:=by simp;omega
   have z2:((k:Int)==5)=false:=by simp;omega
   go_wp2
   go_ret3
   exact ⟨⟨0,0,rfl,fun h=>by omega⟩,rfl⟩
end Go.Proofs.YtjidohgiigjifaaGreatDoor
namespace Go.Cd
open Go.RowKit
theorem pg {P:Program} {W:World} {ops:Array Oper} {rest:List Oper} {o:Oper} {a:Act} {Q:Exit→Act→World→Prop} (hgd:o.guard=none) (s x:Operand) (t:TypeId)
 (ho:o.op=.call { callee:=.builtin .append,args:=#[s,x],argTypes:=#[t,t] })
 (base:Nat) (e:TypeId) (z:Value) (bytes:Nat) (hE:Elem P t e z bytes)
 (v:Value) (n:Nat) (xs:List Value) (hs:a.eval s=v) (hown:W.ownsRow base e 1 v n xs)
 (u:Value) (hx:a.eval x=.slice (some ⟨W.heap.size,0,none⟩) 1 1) (h1:u.oneCell'=true)
 (hbytes:(n+1)*bytes≤140737488355328) (h63:n+1≤maxLen) (w0:World) (hb:Below base w0 W) (hbase:base≤w0.heap.size)
 (h:∀v' w',w'.ownsRow base e 1 v' (n+1) (xs++[u])→Below base w0 w'→(W.alloc (.cells #[u] e)).ownsRow base e 1 v n xs→(W.alloc (.cells #[u] e)).grownBy w' v.ownBlock→wpList P ops Q rest (a.put o.dst v') w'):wpList P ops Q (o::rest) a (W.alloc (.cells #[u] e)):=by
 have hsz:=hb.size;refine bG hgd s x t ho base e z bytes hE v n xs hs (hown.alloc _) _ [u] hx (lY W #[u] e) (by simpa using h1) (by simpa using h63) (by simpa using hbytes) (by simp;omega) ?_;intro v' w' h2 h3;refine h v' w' (by simpa using h2) ((hb.alloc (by omega) _).grown h3 (by simp;omega) ?_) (hown.alloc _) h3;intro k hk;exact (hown.lt k hk).1
abbrev aM:TypeId:=21
def aN (l:List Nat):List Value:=l.map fun d:Nat=>Value.int .i32 d
@[simp] theorem bO (l:List Nat):(aN l).length=l.length:=by simp [aN]
theorem fB (l:List Nat) (i:Nat) (h:i<l.length):(aN l)[i]'(by simpa using h)=.int .i32 (l[i]:Nat):=by simp [aN]
theorem bA (l m:List Nat):aN (l++m)=aN l++aN m:=by simp [aN]
theorem Ap (l:List Nat) (k:Nat):aN (l.drop k)=(aN l).drop k:=by simp [aN,List.map_drop]
theorem gK (l:List Nat):∀u∈aN l,u.oneCell'=true:=by
 intro u hu;obtain ⟨d,_,rfl⟩:=List.mem_map.1 hu;rfl
theorem bS:Elem Go.Proofs.Tryz.prog 39 aM (.int .i32 0) 4:=⟨rfl,Go.Proofs.Tryz.underlying39,info_parts (by kernel_rfl)⟩
theorem kD (W:World) (cs:Array Value) (e:TypeId) (n:Nat) (hn:n=cs.size) (hm:n≤maxLen):(W.alloc (.cells cs e)).ownsRow W.heap.size e 1 (.slice (some ⟨W.heap.size,0,none⟩) n n) n cs.toList:=by
 subst hn;exact ⟨by simp,.inr ⟨W.heap.size,cs.size,cs,rfl,Nat.le_refl _,heap_alloc_new _ _,Nat.le_refl _,hm,by simp,by rw [List.take_of_length_le];simp⟩⟩
theorem bD.lD {w:World} {v:Value} {l:List Nat} {n:Nat} (h:bD w v (aN l)) (hn:n=l.length):∃a cap,v=.slice a n cap∧n≤cap∧
 ∀i (hi:i<l.length),∃b off,a=some ⟨b,off,none⟩∧b<w.heap.size∧w.cell? ⟨b,off+i,none⟩=some (.int .i32 (l[i]:Nat)):=by
 subst hn;obtain ⟨a,cap,rfl,hc,hx⟩:=bD.out h;have el:(aN l).length=l.length:=bO _;refine ⟨a,cap,by rw [el],by omega,fun i hi=>?_⟩;obtain ⟨b,off,h1,h2,h3⟩:=hx i (by omega);exact ⟨b,off,h1,h2,by rw [h3,fB _ _ hi]⟩
end Go.Cd
namespace Go.Proofs.YtjidohgiigjifaaGreatDoor
open Go.RowKit Go.Cd
theorem jE {w:World} {c a b:Nat} (hc:c<1114112) (h:cO c=[a,b]) :
 Calls Tryz.prog 86 #[.int .i32 c] w fun e w'=>e=.returned (.tuple #[.int .i32 a,.int .i32 b,.bool true])∧w'=w:=by
 have h4:4≤hk c:=by
  rcases Nat.lt_or_ge (hk c) 4 with h'|h'
  ·rw [tu.2 h'] at h;cases h
  ·exact h'
 refine (Ao (w:=w) c hc).mono ?_;rintro e w' ⟨⟨a',b',rfl,hab⟩,rfl⟩;rw [hab h4] at h;cases h;rw [decide_eq_true h4];exact ⟨rfl,rfl⟩
theorem oq {w:World} {c:Nat} (hc:c<1114112) (h:hk c<4) :
 Calls Tryz.prog 86 #[.int .i32 c] w fun e w'=>(∃a b:Nat,e=.returned (.tuple #[.int .i32 a,.int .i32 b,.bool false]))∧w'=w:=by
 refine (Ao (w:=w) c hc).mono ?_;rintro e w' ⟨⟨a',b',rfl,_⟩,rfl⟩;rw [decide_eq_false (by omega:¬4≤hk c)];exact ⟨⟨a',b',rfl⟩,rfl⟩
theorem Ho {w:World} (c:Nat) (hc:c<1114112) :
 Calls Tryz.prog 55 #[.int .i32 c] w fun e w'=>∃r,e=.returned r∧w'.ownsRow w.heap.size aM 1 r (hparts c).length (aN (hparts c))∧Below w.heap.size w w':=by
 by_cases h4:hk c=4
 ·obtain ⟨a,b,hp⟩:∃a b,hparts c=[a,b]:=by unfold hparts;rw [if_pos h4];exact ⟨_,_,rfl⟩
  have MX:cO c=[a,b]:=by rw [←hp];unfold hparts cO;rw [if_pos h4,if_pos h4]
  have ha:a<4547:=(Af (by rw [hp];simp:a∈hparts c)).1;have hka:hk a<4:=by
   rcases Nat.lt_or_ge (hk a) 4 with h|h
   ·exact h
   ·have:=Nf.1 h;omega
  have HO:=ae (jE (w:=w) hc MX);have HA:=ae (oq (w:=w) (c:=a) (by omega) hka);rw [hp];clear hka hp h4 MX;go_enter Tryz.func55,Tryz.ntmps55;go_wp2_with fail;refine HO.out.mono ?_;rintro e w' ⟨rfl,rfl⟩;go_wp2_with fail;refine HA.out.mono ?_;rintro e w'' ⟨⟨a2,b2,rfl⟩,rfl⟩;go_wp2;go_ret;exact ⟨_,rfl,kD _ #[.int .i32 a,.int .i32 b] aM 2 rfl (by decide),ai _⟩
 ·by_cases h5:hk c=5
  ·obtain ⟨x,y,z,hp⟩:∃x y z,hparts c=[x,y,z]:=by unfold hparts;rw [if_neg h4,if_pos h5];exact ⟨_,_,_,rfl⟩
   have MX:cO c=[c-(c-44032) % 28,z]:=by
    unfold hparts at hp;rw [if_neg h4,if_pos h5] at hp;unfold cO;rw [if_neg h4,if_pos h5];simp only [List.cons.injEq] at hp;rw [hp.2.2.1]
   have hpa:cO (c-(c-44032) % 28)=[x,y]:=by
    rw [wO h5];unfold hparts at hp;rw [if_neg h4,if_pos h5] at hp;simp only [List.cons.injEq] at hp;rw [hp.1,hp.2.1]
   have ha:c-(c-44032) % 28<1114112:=by omega
   have HO:=ae (jE (w:=w) hc MX);have HA:=ae (jE (w:=w) ha hpa);rw [hp];clear hp h4 h5 MX hpa;generalize c-(c-44032) % 28=a at *;go_enter Tryz.func55,Tryz.ntmps55;go_wp2_with fail;refine HO.out.mono ?_;rintro e w' ⟨rfl,rfl⟩;go_wp2_with fail;refine HA.out.mono ?_;rintro e w'' ⟨rfl,rfl⟩;go_wp2;go_ret;exact ⟨_,rfl,kD _ #[.int .i32 x,.int .i32 y,.int .i32 z] aM 3 rfl (by decide),ai _⟩
  ·have hk4:hk c<4:=by have:=Ae c;omega
   have HO:=ae (oq (w:=w) hc hk4);rw [fV.2 hk4];clear hk4 h4 h5;go_enter Tryz.func55,Tryz.ntmps55;go_wp2_with fail;refine HO.out.mono ?_;rintro e w' ⟨⟨a,b,rfl⟩,rfl⟩;go_wp2;go_ret;exact ⟨_,rfl,World.ownsRow_nil _ _ _ _,Below.refl _ _⟩
theorem jF {w:World} (c:Nat) (hc:c<2147483648) :
 Calls Tryz.prog 81 #[.int .i32 c] w fun e w'=>e=.returned (.bool (decide (aX c)))∧w'=w:=by
 obtain ⟨p,hp⟩:=af (decide (aX c));have HP:=ae hp;rw [←hp];clear hp;by_cases h1:c≤1114111
 ·by_cases h2:c<55296
  ·have E:p=true:=HP.out.trans (decide_eq_true ⟨by omega,.inl h2⟩);subst E;go_enter Tryz.func81,Tryz.ntmps81;go_wp2;go_ret;exact ⟨dh (by simp <;> omega),rfl⟩
  ·by_cases h3:57343<c
   ·have E:p=true:=HP.out.trans (decide_eq_true ⟨by omega,.inr h3⟩);subst E;go_enter Tryz.func81,Tryz.ntmps81;go_wp2;go_ret;exact ⟨dh (by simp <;> omega),rfl⟩
   ·have E:p=false:=HP.out.trans (decide_eq_false (fun h=>by rcases h.2 with h|h <;> omega));subst E;go_enter Tryz.func81,Tryz.ntmps81;go_wp2;go_ret;exact ⟨dh (by simp <;> omega),rfl⟩
 ·have E:p=false:=HP.out.trans (decide_eq_false (fun h=>by have:=h.1;omega));subst E;go_enter Tryz.func81,Tryz.ntmps81;go_wp2;go_ret;exact ⟨rfl,rfl⟩
theorem Aq {w:World} (c:Nat) (hc:c<9223372036854775808) :
 Calls Tryz.prog 67 #[.int .i64 c] w fun e w'=>e=.returned (.bool (decide (aX c)))∧w'=w:=by
 obtain ⟨p,hp⟩:=af (decide (aX c));have HP:=ae hp;rw [←hp];clear hp;by_cases h1:c≤1114111
 ·by_cases h2:c<55296
  ·have E:p=true:=HP.out.trans (decide_eq_true ⟨by omega,.inl h2⟩);subst E;go_enter Tryz.func67,Tryz.ntmps67;go_wp2;go_ret;exact ⟨dh (by simp <;> omega),rfl⟩
  ·by_cases h3:57343<c
   ·have E:p=true:=HP.out.trans (decide_eq_true ⟨by omega,.inr h3⟩);subst E;go_enter Tryz.func67,Tryz.ntmps67;go_wp2;go_ret;exact ⟨dh (by simp <;> omega),rfl⟩
   ·have E:p=false:=HP.out.trans (decide_eq_false (fun h=>by rcases h.2 with h|h <;> omega));subst E;go_enter Tryz.func67,Tryz.ntmps67;go_wp2;go_ret;exact ⟨dh (by simp <;> omega),rfl⟩
 ·have E:p=false:=HP.out.trans (decide_eq_false (fun h=>by have:=h.1;omega));subst E;go_enter Tryz.func67,Tryz.ntmps67;go_wp2;go_ret;exact ⟨rfl,rfl⟩
def jG (x:Nat):Nat:=if aX x then x else x % 2048
theorem ou {x:Nat}:aX (jG x):=by
 unfold jG
 split
 ·assumption
 ·have:=Nat.mod_lt x (show 2048 > 0 by decide);exact ⟨by omega,.inl (by omega)⟩
theorem Hq (n:Int):bits .and .i64 n 2097151=n % 2097152:=by
 have h127:(BitVec.ofInt 64 2097151).toNat=2 ^ 21-1:=by decide
 have key:(BitVec.ofInt 64 n &&& BitVec.ofInt 64 2097151).toNat=(n % ((2 ^ 64:Nat):Int)).toNat % 2 ^ 21:=by
  rw [BitVec.toNat_and,BitVec.toNat_ofInt,h127,Nat.and_two_pow_sub_one_eq_mod]
 show IntKind.i64.wrap ((BitVec.ofInt 64 n &&& BitVec.ofInt 64 2097151).toNat:Nat)=n % 2097152;rw [key,IntKind.wrap_i64];omega
theorem Hr (n:Int):bits .and .i64 n 2047=n % 2048:=by
 have h127:(BitVec.ofInt 64 2047).toNat=2 ^ 11-1:=by decide
 have key:(BitVec.ofInt 64 n &&& BitVec.ofInt 64 2047).toNat=(n % ((2 ^ 64:Nat):Int)).toNat % 2 ^ 11:=by
  rw [BitVec.toNat_and,BitVec.toNat_ofInt,h127,Nat.and_two_pow_sub_one_eq_mod]
 show IntKind.i64.wrap ((BitVec.ofInt 64 n &&& BitVec.ofInt 64 2047).toNat:Nat)=n % 2048;rw [key,IntKind.wrap_i64];omega
theorem iL {w:World} (x:Int) :
 Calls Tryz.prog 30 #[.int .i64 x] w fun e w'=>e=.returned (.int .i32 (jG (x % 2097152).toNat))∧w'=w:=by
 obtain ⟨y,hy⟩:=af ((x % 2097152).toNat);have hy1:bits BinOp.and IntKind.i64 x 2097151=(y:Int):=by rw [Hq];omega
 have hy2:y<2097152:=by omega
 have I:=ae (Aq (w:=w) y (by omega));rw [←hy];clear hy;by_cases hc:aX y
 ·have E:=ae (show jG y=y by unfold jG;rw [if_pos hc]);rw [decide_eq_true hc] at I;have hlt:=hc.1;clear hc;go_enter Tryz.func30,Tryz.ntmps30;go_wp2_with fail;refine I.out.mono ?_;rintro e w' ⟨rfl,rfl⟩;go_wp2;go_ret;exact ⟨by rw [E.out];rfl,rfl⟩
 ·have E:=ae (show jG y=y % 2048 by unfold jG;rw [if_neg hc]);have hz1:bits BinOp.and IntKind.i64 (y:Int) 2047=((y % 2048:Nat):Int):=by rw [Hr];omega
  have hz2:=Nat.mod_lt y (show 2048 > 0 by decide);rw [decide_eq_false hc] at I;generalize y % 2048=z at *;clear hc;go_enter Tryz.func30,Tryz.ntmps30;go_wp2_with fail;refine I.out.mono ?_;rintro e w' ⟨rfl,rfl⟩;go_wp2;go_ret;exact ⟨by rw [E.out];rfl,rfl⟩
def fC (c:Nat):List Nat:=if hk c=1 then (List.range 588).map fun i=>44032+(c-4352)*588+i else []
theorem DV {w:World} (c:Nat) (hc:c<1114112) :
 Calls Tryz.prog 80 #[.int .i32 c] w fun e w'=>∃r,e=.returned r∧w'.ownsRow w.heap.size aM 1 r (fC c).length (aN (fC c))∧Below w.heap.size w w':=by
 have HO:=ae (qY (w:=w) c hc);by_cases h1:hk c=1
 ·have E:fC c=(List.range 588).map fun i=>44032+(c-4352)*588+i:=by unfold fC;rw [if_pos h1]
  have hr:=Ng.1 h1;rw [h1] at HO;obtain ⟨l,rfl⟩:∃l,c=4352+l:=⟨c-4352,by omega⟩;rw [Nat.add_sub_cancel_left] at E;have hl:l<19:=by omega
  obtain ⟨B,hB⟩:=af (fC (4352+l));have HB:=ae (hB.trans E);rw [←hB];clear h1 hr E hB;go_enter Tryz.func80,Tryz.ntmps80;go_wp2_with fail;refine HO.out.mono ?_;rintro e w' ⟨rfl,rfl⟩;clear HO;go_wp2_with fail;go_loopw [3,8] (fun o iv wr=>∃j:Nat,j≤588∧iv=.int .i32 j∧wr.ownsRow w'.heap.size aM 1 o j (aN ((List.range j).map fun i=>44032+l*588+i))∧Below w'.heap.size w' wr) (fun _ iv _=>588-(intOf iv).toNat)
  case atStart=>exact ⟨0,by decide,rfl,World.ownsRow_nil _ _ _ _,Below.refl _ _⟩
  case round=>
   obtain ⟨j,hj,rfl,ho,hE⟩:=hrel;by_cases hjn:j<588
   ·have HS:=ae (show aN ((List.range (j+1)).map fun i=>44032+l*588+i)=aN ((List.range j).map fun i=>44032+l*588+i)++[.int .i32 (44032+l*588+j:Nat)] by
     rw [List.range_succ,List.map_append,bA];rfl)
    have HV:=ae (show (44032:Int)+(4352+(l:Int)-4352)*588+j=((44032+l*588+j:Nat):Int) by omega);go_wp2_with (at_builtin;refine pg rfl _ _ 39 rfl w'.heap.size aM _ 4 bS _ j _ rfl ho _ rfl rfl (by omega) (by unfold maxLen;omega) w' hE (Nat.le_refl _) ?_;intro v' w2 hown' hb' _ _);go_roundw
    case rel=>exact ⟨j+1,by omega,rfl,by rw [HS.out,←HV.out];exact hown',hb'⟩
    case measure=>simp [intOf];omega
   ·obtain rfl:j=588:=by omega
    go_wp2;go_ret;exact ⟨_,rfl,by rw [HB.out,List.length_map,List.length_range];exact ho,hE⟩
 ·have E:fC c=[]:=by unfold fC;rw [if_neg h1]
  obtain ⟨k,hk0⟩:=af (hk c);have hk1:((k:Int)==1)=false:=by simp;omega
  rw [←hk0] at HO;rw [E];clear E h1 hk0;go_enter Tryz.func80,Tryz.ntmps80;go_wp2_with fail;refine HO.out.mono ?_;rintro e w' ⟨rfl,rfl⟩;go_wp2;go_ret;exact ⟨_,rfl,World.ownsRow_nil _ _ _ _,Below.refl _ _⟩
def ints (l:List Nat):List Value:=l.map fun d:Nat=>Value.int .i64 d
@[simp] theorem dw (l:List Nat):(ints l).length=l.length:=by simp [ints]
theorem Ht {j k:Nat} (hj:j<19) (hk0:k<21):hparts (44032+588*j+28*k)=[4352+j,4449+k]:=by
 have h4:hk (44032+588*j+28*k)=4:=lX.2 ⟨by omega,by omega,by omega⟩;unfold hparts;rw [if_pos h4];have e1:(44032+588*j+28*k-44032) / 588=j:=by omega
 have e2:(44032+588*j+28*k-44032) % 588 / 28=k:=by omega
 rw [e1,e2]
theorem BU {j k t:Nat} (hj:j<19) (hk0:k<21) (h0:0<t) (ht:t<28):hparts (44032+588*j+28*k+t)=[4352+j,4449+k,4519+t]:=by
 have h5:hk (44032+588*j+28*k+t)=5:=ky.2 ⟨by omega,by omega,by omega⟩;unfold hparts;rw [if_neg (by omega),if_pos h5];have e1:(44032+588*j+28*k+t-44032) / 588=j:=by omega
 have e2:(44032+588*j+28*k+t-44032) % 588 / 28=k:=by omega
 have e3:(44032+588*j+28*k+t-44032) % 28=t:=by omega
 rw [e1,e2,e3]
theorem uP {c:Nat} (h:c<44032∨55204≤c):hparts c=[]:=by
 refine fV.2 ?_;rcases Nat.lt_or_ge (hk c) 4 with h'|h'
 ·exact h'
 ·have:=Nf.1 h';omega
theorem pE {w:World} (c:Nat) (hc:c<1114112) :
 Calls Tryz.prog 78 #[.int .i64 c] w fun e w'=>∃r,e=.returned r∧w'.ownsRow w.heap.size aU 1 r (hparts c).length (ints (hparts c))∧Below w.heap.size w w':=by
 obtain ⟨P,hP⟩:=af (hparts c);have HP:=ae hP;rw [←hP];clear hP;go_enter Tryz.func78,Tryz.ntmps78;go_wp2_with fail;go_loopw [3,4] (fun nv lv wr=>∃j:Nat,j≤19∧nv=.int .i64 (44032+588*j:Nat)∧lv=.int .i64 (4352+j:Nat)∧(0<j→44032+588*j≤c)∧wr=w) (fun _ lv _=>4371-(intOf lv).toNat)
 case atStart=>exact ⟨0,by decide,rfl,rfl,fun h=>absurd h (by decide),rfl⟩
 case round=>
  obtain ⟨j,hj,rfl,rfl,hjc,rfl⟩:=hrel;by_cases XV:j<19
  ·by_cases h5:44032+588*j+588≤c
   ·go_wp2;go_roundw
    case rel=>exact ⟨j+1,by omega,congrArg (Value.int .i64) (by omega),congrArg (Value.int .i64) (by omega),fun _=>by omega,trivial⟩
    case measure=>simp [intOf];omega
   ·go_wp2_with fail;go_loopw [3,5] (fun nv vv wq=>∃k:Nat,k<21∧nv=.int .i64 (44032+588*j+28*k:Nat)∧vv=.int .i64 (4449+k:Nat)∧(0<k→44032+588*j+28*k≤c)∧wq=wr) (fun _ vv _=>4470-(intOf vv).toNat)
    case atStart=>exact ⟨0,by decide,rfl,rfl,fun h=>absurd h (by decide),rfl⟩
    case round=>
     obtain ⟨k,hk,rfl,rfl,hkc,rfl⟩:=hrel;by_cases h6:44032+588*j+28*k+28≤c
     ·go_wp2;go_roundw
      case rel=>exact ⟨k+1,by omega,congrArg (Value.int .i64) (by omega),congrArg (Value.int .i64) (by omega),fun _=>by omega,trivial⟩
      case measure=>simp [intOf];omega
     ·rcases Nat.lt_trichotomy c (44032+588*j+28*k) with h7|h7|h7
      ·have hp:=uP (c:=c) (.inl (by omega));have E:=HP.out.trans hp;subst E;have z:((c:Int)==((44032+588*j+28*k:Nat):Int))=false:=by simp;omega
       clear hp;go_wp2;go_ret;exact ⟨_,rfl,World.ownsRow_nil _ _ _ _,Below.refl _ _⟩
      ·subst h7;have E:=HP.out.trans (Ht XV hk);subst E;go_wp2;go_ret;exact ⟨_,rfl,kD _ #[.int .i64 (4352+j:Nat),.int .i64 (4449+k:Nat)] aU 2 rfl (by decide),ai _⟩
      ·obtain ⟨t,rfl⟩:∃t,c=44032+588*j+28*k+t:=⟨c-(44032+588*j+28*k),by omega⟩;have E:=HP.out.trans (BU XV hk (t:=t) (by omega) (by omega));subst E;have z:(((44032+588*j+28*k+t:Nat):Int)==((44032+588*j+28*k:Nat):Int))=false:=by simp;omega
       go_wp2;go_ret;refine ⟨_,rfl,?_,ai _⟩;have o:=kD wr #[.int .i64 (4352+j:Nat),.int .i64 (4449+k:Nat),.int .i64 (4519+t:Nat)] aU 3 rfl (by decide);rw [show ((4519+t:Nat):Int)=4519+(44032+588*(j:Int)+28*k+t)-(44032+588*j+28*k) by omega] at o;have e3:ints [4352+j,4449+k,4519+t]=(#[Value.int .i64 (4352+j:Nat),.int .i64 (4449+k:Nat),.int .i64 (4519+(44032+588*(j:Int)+28*k+t)-(44032+588*j+28*k))]:Array Value).toList:=by
        rw [show 4519+(44032+588*(j:Int)+28*k+t)-(44032+588*j+28*k)=((4519+t:Nat):Int) by omega];rfl
       rw [e3];exact o
  ·obtain rfl:j=19:=by omega
   have E:=HP.out.trans (uP (c:=c) (.inr (by omega)));subst E;go_wp2;go_ret;exact ⟨_,rfl,World.ownsRow_nil _ _ _ _,Below.refl _ _⟩
def uQ (w:World) (v:Value) (T:List aF):Prop:=
 ∃a cap,v=.slice a T.length cap∧T.length≤cap∧∀i (hi:i<T.length),∃b off m,a=some ⟨b,off,none⟩∧b<w.heap.size∧
  w.cell? ⟨b,off+i*3,none⟩=some (.int .i64 T[i].code)∧w.cell? ⟨b,off+i*3+1,none⟩=some (.int .i64 T[i].cls)∧w.cell? ⟨b,off+i*3+2,none⟩=some m∧bD w m (ints T[i].map)
theorem uQ.mono {w w':World} {v:Value} {T:List aF} (h:uQ w v T) (hb:Below w.heap.size w w'):uQ w' v T:=by
 obtain ⟨a,cap,hv,hc,h⟩:=h;refine ⟨a,cap,hv,hc,fun i hi=>?_⟩;obtain ⟨b,off,m,ha,hbs,h1,h2,h3,h4⟩:=h i hi;exact ⟨b,off,m,ha,Nat.lt_of_lt_of_le hbs hb.size,aA hb h1,aA hb h2,aA hb h3,h4.mono hb⟩
def iw (w:World) (v:Value) (T:List aF) (X:List Nat):Prop:=∃r x,v=.agg #[r,x]∧uQ w r T∧bD w x (ints X)
theorem iw.mono {w w':World} {v:Value} {T:List aF} {X:List Nat} (h:iw w v T X) (hb:Below w.heap.size w w'):iw w' v T X:=by
 obtain ⟨r,x,hv,h1,h2⟩:=h;exact ⟨r,x,hv,h1.mono hb,h2.mono hb⟩
theorem lZ {T:List aF} {c:Nat} (h:∀r∈T,r.code≠c):rowOf T c=none:=List.find?_eq_none.2 fun r hr=>by simpa using h r hr
theorem wZ {T:List aF} {c i:Nat} (hi:i<T.length) (h:∀r∈T.take i,r.code≠c) (hc:T[i].code=c):rowOf T c=some T[i]:=by
 unfold rowOf;rw [List.find?_eq_some_iff_append];refine ⟨by simpa using hc,T.take i,T.drop (i+1),?_,fun r hr=>by simpa using h r hr⟩;rw [List.getElem_cons_drop,List.take_append_drop]
theorem kR {w:World} {v:Value} {T:List aF} {X:List Nat} (h:iw w v T X) (c:Nat) (hmax:T.length<1000000) :
 Calls Tryz.prog 9 #[v,.int .i64 c] w fun e w'=>e=.returned (.int .i64 (aB T c))∧Below w.heap.size w w':=by
 obtain ⟨r,x,rfl,h1,h2⟩:=h;obtain ⟨a,cap,rfl,_,hx⟩:=h1;obtain ⟨ax,cx,rfl,_,_⟩:=bD.out h2;obtain ⟨nx,hnx⟩:∃n,n=(ints X).length:=⟨_,rfl⟩;rw [←hnx];obtain ⟨n,hn⟩:=af T.length;rw [←hn] at hmax ⊢;have HN:=ae hn;have HX:=ae hx;have hb:=ai (w:=w) (.cells #[.slice a n cap,.slice ax nx cx] 25);obtain ⟨K,hK⟩:=af (aB T c);have HK:=ae hK;rw [←hK];have d0:(w.alloc (.cells #[.slice a n cap,.slice ax nx cx] 25)).cell? ⟨w.heap.size,0,none⟩=some (.slice a n cap):=by unfold World.cell?;rw [heap_alloc_new];rfl
 obtain ⟨W0,hW⟩:=af (w.alloc (.cells #[.slice a n cap,.slice ax nx cx] 25));rw [←hW] at hb d0;clear h2 hx hn hnx hK;go_enter Tryz.func9,Tryz.ntmps9;go_wp2_with fail;rw [←hW];clear hW;go_loopw [10] (fun iv wr=>∃j:Nat,j≤n∧iv=.int .i64 j∧(∀r∈T.take j,r.code≠c)∧Below W0.heap.size W0 wr) (fun iv _=>n-(intOf iv).toNat)
 case atStart=>exact ⟨0,Nat.zero_le _,rfl,by simp,Below.refl _ _⟩
 case round=>
  obtain ⟨j,hj,rfl,hne,hE⟩:=hrel;have dC:=hb.trans (hE.mono hb.size);by_cases hjn:j<n
  ·have hjl:j<T.length:=by have:=HN.out;omega
   obtain ⟨b,off,m,rfl,hbs,c0,c1,c2,hm⟩:=HX.out j hjl;obtain ⟨am,cm,rfl,_,_⟩:=bD.out hm;generalize (ints T[j].map).length=nm at c2;clear hm;have c0:=aA dC c0;have c1:=aA dC c1;have c2:=aA dC c2;have HA:=ae (wZ hjl hne);have HS:=ae (show ∀r,r∈T.take (j+1)↔r∈T.take j∨r=T[j] from fun r=>by rw [List.take_succ_eq_append_getElem hjl,List.mem_append,List.mem_singleton]);have G5:=ae hne;generalize T[j]=q at *;clear hne;by_cases hq:q.code=c
   ·have E:K=q.cls:=HK.out.trans (by unfold aB;rw [HA.out hq]);subst E;subst hq;go_wp2;go_ret;exact ⟨rfl,hb.trans ((ag hE (ai _)).mono hb.size)⟩
   ·have z:((q.code:Int)==c)=false:=by simp;omega
    go_wp2;go_roundw
    case rel=>exact ⟨j+1,by omega,rfl,fun r hr=>by rcases (HS.out r).1 hr with h|h;exact G5.out r h;rw [h];exact hq,ag hE (ai _)⟩
    case measure=>simp [intOf];omega
  ·obtain rfl:j=n:=by omega
   have E:K=0:=HK.out.trans (by unfold aB;rw [lZ (fun r hr=>hne r (by rw [HN.out,List.take_length];exact hr))]);subst E;go_wp2;go_ret;exact ⟨rfl,dC⟩
theorem uR {w:World} {v:Value} {T:List aF} {X:List Nat} (h:iw w v T X) (c:Nat) (hc:c<1114112) (hmax:T.length<1000000) :
 Calls Tryz.prog 47 #[v,.int .i64 c] w fun e w'=>∃r,e=.returned r∧bD w' r (ints (mapOf T c))∧Below w.heap.size w w':=by
 obtain ⟨r,x,rfl,h1,h2⟩:=h;obtain ⟨a,cap,rfl,_,hx⟩:=h1;obtain ⟨ax,cx,rfl,_,_⟩:=bD.out h2;obtain ⟨nx,hnx⟩:∃n,n=(ints X).length:=⟨_,rfl⟩;rw [←hnx];obtain ⟨n,hn⟩:=af T.length;rw [←hn] at hmax ⊢;have HN:=ae hn;have HX:=ae hx;have hb:=ai (w:=w) (.cells #[.slice a n cap,.slice ax nx cx] 25);have d0:(w.alloc (.cells #[.slice a n cap,.slice ax nx cx] 25)).cell? ⟨w.heap.size,0,none⟩=some (.slice a n cap):=by unfold World.cell?;rw [heap_alloc_new];rfl
 obtain ⟨W0,hW⟩:=af (w.alloc (.cells #[.slice a n cap,.slice ax nx cx] 25));rw [←hW] at hb d0;have PA:=ae (pE (w:=W0) c hc);obtain ⟨M,hM⟩:=af (mapOf T c);have HM:=ae hM;rw [←hM];clear h2 hx hn hnx hM;by_cases h4:hk c<4
 ·have E:=ae (HM.out.trans (by unfold mapOf;rw [if_pos h4]):M=bF T c);rw [fV.2 h4] at PA;clear h4;go_enter Tryz.func47,Tryz.ntmps47;go_wp2_with fail;rw [←hW];clear hW;refine PA.out.mono ?_;rintro e w1 ⟨r1,rfl,o1,h1⟩;have hE1:=hb.trans (h1.mono hb.size);have d1:=aA h1 d0;obtain ⟨a1,c1,rfl,_,_⟩:=bD.out (Sl.aT o1).any;rw [show (ints []).length=0 from rfl];clear PA o1 h1 d0 hb;go_wp2_with fail;go_loopw [30] (fun iv wr=>∃j:Nat,j≤n∧iv=.int .i64 j∧(∀r∈T.take j,r.code≠c)∧Below w1.heap.size w1 wr) (fun iv _=>n-(intOf iv).toNat)
  case atStart=>exact ⟨0,Nat.zero_le _,rfl,by simp,Below.refl _ _⟩
  case round=>
   obtain ⟨j,hj,rfl,hne,hE⟩:=hrel;have dC:=hE1.trans (hE.mono hE1.size);by_cases hjn:j<n
   ·have hjl:j<T.length:=by have:=HN.out;omega
    obtain ⟨b,off,m,rfl,hbs,c0,c1,c2,hm⟩:=HX.out j hjl;have c0:=aA dC c0;have c1:=aA dC c1;have c2:=aA dC c2;obtain ⟨am,cm,rfl,_,_⟩:=bD.out hm;have hm:=ae (hm.mono dC);have HA:=ae (wZ hjl hne);have HS:=ae (show ∀r,r∈T.take (j+1)↔r∈T.take j∨r=T[j] from fun r=>by rw [List.take_succ_eq_append_getElem hjl,List.mem_append,List.mem_singleton]);have G5:=ae hne;generalize T[j]=q at *;obtain ⟨nm,hnm⟩:=af ((ints q.map).length);rw [←hnm] at hm c2;clear hne hnm;by_cases hq:q.code=c
    ·have E2:M=q.map:=E.out.trans (by unfold bF;rw [HA.out hq]);subst E2;subst hq;go_wp2;go_ret;exact ⟨_,rfl,hm.out.mono (ai _),dC.trans ((ai _).mono dC.size)⟩
    ·have z:((q.code:Int)==c)=false:=by simp;omega
     go_wp2;go_roundw
     case rel=>exact ⟨j+1,by omega,rfl,fun r hr=>by rcases (HS.out r).1 hr with h|h;exact G5.out r h;rw [h];exact hq,ag hE (ai _)⟩
     case measure=>simp [intOf];omega
   ·obtain rfl:j=n:=by omega
    have E2:M=[]:=E.out.trans (by unfold bF;rw [lZ (fun r hr=>hne r (by rw [HN.out,List.take_length];exact hr))]);subst E2;go_wp2;go_ret;exact ⟨_,rfl,⟨none,0,rfl,Nat.le_refl _,.inl ⟨rfl,fun _=>rfl⟩⟩,dC⟩
 ·have E0:M=cO c:=HM.out.trans (by unfold mapOf;rw [if_neg h4]);by_cases h5:hk c=5
  ·obtain ⟨x,y,z,hp⟩:∃x y z,hparts c=[x,y,z]:=by unfold hparts;rw [if_neg (by omega),if_pos h5];exact ⟨_,_,_,rfl⟩
   have hz:z<4547:=(Af (by rw [hp];simp:z∈hparts c)).1;have MX:cO c=[c-(z-4519),z]∧4519≤z:=by
    unfold hparts at hp;rw [if_neg (by omega),if_pos h5] at hp;simp only [List.cons.injEq] at hp;unfold cO;rw [if_neg (by omega),if_pos h5,hp.2.2.1];have h9:=hp.2.2.1;generalize (c-44032) % 28=t at *;have:c-t=c-(z-4519):=by omega
    rw [this];exact ⟨rfl,by omega⟩
   have hc5:=(ky.1 h5).1;have E:=ae (E0.trans MX.1);have hz2:=MX.2;rw [hp] at PA;clear h4 h5 E0 hp MX;go_enter Tryz.func47,Tryz.ntmps47;go_wp2_with fail;rw [←hW];clear hW;refine PA.out.mono ?_;rintro e w1 ⟨r1,rfl,o1,h1⟩;have hE1:=hb.trans (h1.mono hb.size);have s1:=(Sl.aT o1).any;obtain ⟨a1,c1,rfl,hc1,hx1⟩:=bD.out s1;obtain ⟨b1,f1,rfl,_,hz1⟩:=hx1 2 (by simp);have hz1:w1.cell? ⟨b1,f1+2,none⟩=some (.int .i64 z):=by rw [hz1];rfl
   rw [show (ints [x,y,z]).length=3 from rfl] at hc1 ⊢;have hg:=Gr.cell (ah w1) hz1;clear PA o1 h1 d0 hb s1 hx1;go_wp2_with fail;refine aD (Array.replicate 11 true) 11 0 mixed (by rfl) ?_;refine ay [0,1,2,3,4,5,6,7,8] 2 rfl (by kernel_rfl) ?_
   iterate 9 (refine aC rfl ?_;go_big_quiet_step (rfl))
   refine ak ?_;refine aL 9 (by kernel_rfl) rfl ?_;go_wp2_with fail;refine aH (ai _) ?_;refine ay [10] 0 rfl (by kernel_rfl) ?_
   iterate 1 (refine aC rfl ?_;go_big_quiet_step (rfl))
   refine ak ?_;refine aI [] (by kernel_rfl) ?_;refine tail_nil ?_;go_wp2;go_ret;refine ⟨_,rfl,?_,hE1.trans ((ag (ah w1) (ai _)).mono hE1.size)⟩;rw [E.out];have o:=lY w1 #[.int .i64 (c-(z-4519):Nat),.int .i64 z] aU;rw [show ((c-(z-4519):Nat):Int)=(c:Int)-((z:Int)-4519) by omega] at o;have e3:ints [c-(z-4519),z]=(#[Value.int .i64 ((c:Int)-((z:Int)-4519)),.int .i64 z]:Array Value).toList:=by
    rw [show (c:Int)-((z:Int)-4519)=((c-(z-4519):Nat):Int) by omega];rfl
   rw [e3];exact o.mono (ah _)
  ·have h44:hk c=4:=by have:=Ae c;omega
   obtain ⟨x,y,hp⟩:∃x y,hparts c=[x,y]:=by unfold hparts;rw [if_pos h44];exact ⟨_,_,rfl⟩
   have E:=ae (E0.trans (show cO c=[x,y] by rw [←hp];unfold hparts cO;rw [if_pos h44,if_pos h44]));rw [hp] at PA;clear h4 h5 h44 E0 hp;go_enter Tryz.func47,Tryz.ntmps47;go_wp2_with fail;rw [←hW];clear hW;refine PA.out.mono ?_;rintro e w1 ⟨r1,rfl,o1,h1⟩;have hE1:=hb.trans (h1.mono hb.size);have s1:=(Sl.aT o1).any;obtain ⟨a1,c1,rfl,hc1,hx1⟩:=bD.out s1;rw [show (ints [x,y]).length=2 from rfl] at hc1 s1 ⊢;have S1:=ae s1;clear PA o1 h1 d0 hb s1 hx1;go_wp2;go_ret;exact ⟨_,rfl,by rw [E.out];exact S1.out,hE1⟩
def uS (u v:Value):Prop:=∀k,u.ownBlock=some k→v.ownBlock≠some k
theorem uS.symm {u v:Value} (h:uS u v):uS v u:=fun k hv hu=>h k hu hv
theorem QW (v:Value) (n c:Nat):uS (.slice none n c) v:=fun k h=>by simp [Value.ownBlock] at h
def jo (W:World) (v v':Value):Prop:=v'.ownBlock=v.ownBlock∨∃k,v'.ownBlock=some k∧W.heap.size≤k
theorem uS.push {W:World} {u v v':Value} (h:uS u v) (hu:∀k,u.ownBlock=some k→k<W.heap.size) (hn:jo W v v'):uS u v':=by
 intro k hk hv';rcases hn with hn|⟨k',h1,h2⟩
 ·exact h k hk (hn▸hv')
 ·rw [h1] at hv';cases hv';have:=hu k hk;omega
theorem uS.stays {W W':World} {base n size:Nat} {e:TypeId} {u v:Value} {xs:List Value} (h:uS u v) (hu:W.ownsRow base e size u n xs) (hg:W.grownBy W' v.ownBlock):W'.ownsRow base e size u n xs:=by
 refine hu.kept hg ?_;cases hk:u.ownBlock with
 | none=>exact .inl rfl
 | some k=>exact .inr fun e=>h k hk e.symm
theorem jo.refl (W:World) (v:Value):jo W v v:=.inl rfl
theorem jo.trans {W W':World} {u v v':Value} (h:jo W u v) (h':jo W' v v') (hs:W.heap.size≤W'.heap.size):jo W u v':=by
 rcases h' with h'|⟨k,h1,h2⟩
 ·rcases h with h|⟨k,h1,h2⟩
  ·exact .inl (h'.trans h)
  ·exact .inr ⟨k,h'.trans h1,h2⟩
 ·exact .inr ⟨k,h1,by omega⟩
def lF (P:Program) (t e:TypeId) (z:Value) (size bytes:Nat):Prop:=
 z.cells.size=size∧P.underlying t=some (.slice e)∧∃i,P.info? e=some i∧i.zero=some z∧i.size=size∧i.bytes=bytes
theorem Elem.XW {P:Program} {t e:TypeId} {z:Value} {bytes:Nat} (h:Elem P t e z bytes):lF P t e z 1 bytes:=⟨jl h.1,h.2⟩
theorem mY {P:Program} {W:World} {ops:Array Oper} {rest:List Oper} {o:Oper} {a:Act} {Q:Exit→Act→World→Prop} (hgd:o.guard=none) (s x:Operand) (t:TypeId)
 (ho:o.op=.call { callee:=.builtin .append,args:=#[s,x],argTypes:=#[t,t] })
 (base:Nat) (e:TypeId) (z:Value) (size bytes:Nat) (hE:lF P t e z size bytes) (hs0:0<size) (_:size≤1000) (_:0<bytes) (aaa:bytes≤100000)
 (v:Value) (n:Nat) (xs:List Value) (hs:a.eval s=v) (hown:W.ownsRow base e size v n xs)
 (us:Array Value) (hx:a.eval x=.slice (some ⟨W.heap.size,0,none⟩) 1 1) (Nn:us.size=size) (h1:∀u∈us.toList,u.oneCell'=true)
 (hn:n<1000000) (w0:World) (hb:Below base w0 W) (hbase:base≤w0.heap.size)
 (h:∀v' w',w'.ownsRow base e size v' (n+1) (xs++us.toList)→Below base w0 w'→W.grownBy w' v.ownBlock→jo W v v'→wpList P ops Q rest (a.put o.dst v') w') :
 wpList P ops Q (o::rest) a (W.alloc (.cells us e)):=by
 have hsz:=hb.size;obtain ⟨hzs,ht,i,hi,hz,hsize,hby⟩:=hE;have hown2:=hown.alloc (.cells us e);have hnews:∀(j:Nat) (u:Value),us.toList[j]? = some u→(W.alloc (.cells us e)).cell? ((⟨W.heap.size,0,none⟩:Addr).add j)=some u:=by
  intro j u hj;have e0:(⟨W.heap.size,0,none⟩:Addr).add j=⟨W.heap.size,j,none⟩:=by unfold Addr.add;split <;> simp_all
  rw [e0];unfold World.cell?;rw [heap_alloc_new];simpa using hj
 have hmax:n+1≤maxLen:=by unfold maxLen;omega
 have hl1:us.toList.length=1*i.size:=by rw [hsize,Nat.one_mul];simpa using Nn
 have hbb:(n+1)*bytes≤140737488355328:=by
  have:(n+1)*bytes≤1000000*100000:=Nat.mul_le_mul (by omega) aaa;omega
 obtain ⟨v',w',hr,h2,h3,_⟩:=run_append_own (P:=P) (W.alloc (.cells us e)) base t o.type e i z size bytes ht hi hz hsize hby hzs hs0 v n xs hown2
  ⟨W.heap.size,0,none⟩ 1 1 us.toList (by rw [hl1,hsize]) hnews h1 hmax hbb (by simp;omega)
 have hnew:jo W v v':=by
  rcases hown2.2 with ⟨rfl,rfl⟩|⟨g,cap,cur,rfl,hbg,hg,hnc,hcm,hcs,htake⟩
  ·have hr':=run_append_nil (P:=P) (W.alloc (.cells us e)) t o.type e i z ht hi hz ⟨W.heap.size,0,none⟩ 1 1 us.toList hl1 hnews (by decide) (by decide) (by rw [hby];simpa using Nat.le_trans aaa (by decide));rw [hr'] at hr;injection hr with e1 _;subst e1;exact .inr ⟨_,rfl,by simp⟩
  ·by_cases hroom:n+1≤cap
   ·have hr':=run_append_room (P:=P) (W.alloc (.cells us e)) t o.type e i ht hi g n cap cur hg ⟨W.heap.size,0,none⟩ 1 1 us.toList hl1 hnews h1 hroom (by
     rw [hl1,hsize,hcs,←Nat.add_mul];exact Nat.mul_le_mul_right _ hroom)
    rw [hr'] at hr;injection hr with e1 _;subst e1;exact .inl rfl
   ·have hr':=run_append_grow (P:=P) (W.alloc (.cells us e)) t o.type e i z ht hi hz ⟨g,0,none⟩ n cap xs (by rw [hsize];exact hown2.1) (hown2.cells (g:=g) rfl) ⟨W.heap.size,0,none⟩ 1 1 us.toList hl1 hnews (by omega) (by omega) (growslice_fits (by omega) (by rw [hby];omega));rw [hr'] at hr;injection hr with e1 _;subst e1;exact .inr ⟨_,rfl,by simp⟩
 refine Lib.wpList_append_run _ hgd s x _ _ ho v _ hs hx v' w' hr ?_;refine h v' w' h2 ((hb.alloc (by omega) _).grown h3 (by simp;omega) (fun k hk=>(hown.lt k hk).1)) ?_ hnew;have ha:=World.grownBy_alloc W (.cells us e) v.ownBlock;exact ha.trans h3
theorem qZ {α β:Type} (f:α→List β) (n:Nat) (hf:∀a,(f a).length=n):∀(l:List α) (i:Nat) (hi:i<l.length) (k:Nat),k<n→(l.flatMap f)[i*n+k]? = (f l[i])[k]?
 | a::l,0,_,k,hk=>by
   rw [List.flatMap_cons,Nat.zero_mul,Nat.zero_add,List.getElem?_append_left (by rw [hf];exact hk)];rfl
 | a::l,i+1,hi,k,hk=>by
   rw [List.flatMap_cons,List.getElem?_append_right (by rw [hf,Nat.add_mul];omega),hf];have ih:=qZ f n hf l i (by simpa using hi) k hk;rw [show (i+1)*n+k-n=i*n+k by rw [Nat.add_mul];omega,ih];rfl
theorem rf {α β:Type} (f:α→List β) (n:Nat) (hf:∀a,(f a).length=n) (l:List α):(l.flatMap f).length=l.length*n:=by
 induction l with
 | nil=>simp
 | cons a l ih=>rw [List.flatMap_cons,List.length_append,hf,ih,List.length_cons,Nat.add_mul];omega
theorem cB {α:Type} {w:World} {base size n:Nat} {e:TypeId} {v:Value} {l:List α} {f:α→List Value} (hf:∀a,(f a).length=size) (hn:n=l.length) (h:w.ownsRow base e size v n (l.flatMap f)) {i:Nat} (hi:i<l.length) :
 ∃g cap,v=.slice (some ⟨g,0,none⟩) n cap∧n≤cap∧g<w.heap.size∧base≤g∧∀k,k<size→w.cell? ⟨g,i*size+k,none⟩=(f l[i])[k]?∧w.frozen? ⟨g,i*size+k,none⟩=false:=by
 rcases h.2 with ⟨_,h0⟩|⟨g,cap,cur,rfl,hb,hg,hc,hm,hs,ht⟩
 ·omega
 ·refine ⟨g,cap,rfl,hc,block_lt hg,hb,fun k hk=>⟨?_,?_⟩⟩
  ·have hlt:i*size+k<n*size:=by
    have:(i+1)*size≤n*size:=Nat.mul_le_mul_right _ (by omega);rw [Nat.add_mul] at this;omega
   rw [←qZ f size hf l i hi k hk,←ht,List.getElem?_take,if_pos hlt];unfold World.cell?;rw [hg];simp
  ·unfold World.frozen?;rw [hg];simp
theorem az {w:World} {base size:Nat} {e:TypeId} {v:Value} {xs:List Value} {n:Nat} (h:w.ownsRow base e size v n xs):∃a cap,v=.slice a n cap∧n≤cap∧(a=none→cap=0):=by
 rcases h.2 with ⟨rfl,rfl⟩|⟨g,cap,cur,rfl,_,_,hc,_⟩
 ·exact ⟨none,0,rfl,Nat.le_refl _,fun _=>rfl⟩
 ·exact ⟨_,cap,rfl,hc,fun e=>by cases e⟩
end Go.Proofs.YtjidohgiigjifaaGreatDoor
namespace Go.Cd
open Go.RowKit
structure Is (W:World) (k:Nat) (cs:Array Value) (T:TypeId):Prop where
 at_:W.heap[k]? = some (.cells cs T)
theorem Is.new (w:World) (cs:Array Value) (T:TypeId):Is (w.alloc (.cells cs T)) w.heap.size cs T:=⟨heap_alloc_new _ _⟩
theorem Is.new' (w:World) (cs:Array Value) (T:TypeId) (k:Nat) (h:k=w.heap.size):Is (w.alloc (.cells cs T)) k cs T:=by subst h;exact Is.new _ _ _
theorem Is.lt {W:World} {k:Nat} {cs:Array Value} {T:TypeId} (h:Is W k cs T):k<W.heap.size:=block_lt h.at_
theorem Is.cell {W:World} {k:Nat} {cs:Array Value} {T:TypeId} (h:Is W k cs T) (o:Nat):W.cell? ⟨k,o,none⟩=cs[o]?:=by
 unfold World.cell?;rw [h.at_];rfl
theorem Is.at {W:World} {k:Nat} {cs:Array Value} {T:TypeId} (h:Is W k cs T) (o:Nat) {u:Value} (hu:cs[o]? = some u):W.cell? ⟨k,o,none⟩=some u:=(h.cell o).trans hu
theorem Is.frozen {W:World} {k:Nat} {cs:Array Value} {T:TypeId} (h:Is W k cs T) (o:Nat):W.frozen? ⟨k,o,none⟩=false:=by
 unfold World.frozen?;rw [h.at_];simp
theorem Is.set {W:World} {k:Nat} {cs:Array Value} {T:TypeId} (h:Is W k cs T) (o:Nat) (u:Value):Is (W.setCell ⟨k,o,none⟩ u) k (cs.setIfInBounds o u) T:=⟨heap_setCell_same W k o _ _ _ h.at_⟩
theorem Is.put {W:World} {k:Nat} {cs:Array Value} {T:TypeId} (h:Is W k cs T) {j o:Nat} (hj:k≠j) (u:Value):Is (W.setCell ⟨j,o,none⟩ u) k cs T:=⟨(Below.heap_setCell _ _ _ _ (by simp only;omega)).trans h.at_⟩
theorem Is.mono {W W':World} {k:Nat} {cs:Array Value} {T:TypeId} (h:Is W k cs T) (hb:Below W.heap.size W W'):Is W' k cs T:=⟨(hb.block k h.lt).trans h.at_⟩
theorem Is.grown {W W':World} {k:Nat} {cs:Array Value} {T:TypeId} {row:Option Nat} (h:Is W k cs T) (hg:W.grownBy W' row) (hr:row≠some k):Is W' k cs T:=⟨(hg.block k h.lt (fun e=>hr e.symm)).trans h.at_⟩
theorem Is.keep {W W':World} {k:Nat} {cs:Array Value} {T:TypeId} {B n s:Nat} {e:TypeId} {v:Value} {xs:List Value} (h:Is W k cs T) (ho:W.ownsRow B e s v n xs) (hg:W.grownBy W' v.ownBlock) (hk:k<B):Is W' k cs T:=
 h.grown hg (fun e1=>by have:=(ho.lt k e1).1;omega)
theorem Is.other {W:World} {k:Nat} {cs:Array Value} {T:TypeId} {B n s:Nat} {e:TypeId} {v:Value} {xs:List Value} (h:Is W k cs T) (ho:W.ownsRow B e s v n xs) (he:e≠T):v.ownBlock≠some k:=by
 intro e1;rcases ho.2 with ⟨h1,_⟩|⟨g,_,cur,h1,_,h2,_⟩
 ·rw [h1] at e1;cases e1
 ·rw [h1] at e1;cases e1;rw [h.at_] at h2;cases h2;exact he rfl
theorem bN (W:World) (k o:Nat) (u:Value):W.grownBy (W.setCell ⟨k,o,none⟩ u) (some k):=
 ⟨rfl,rfl,rfl,by simp,fun j _ hj=>heap_setCell_other W ⟨k,o,none⟩ j u (fun e=>hj (by simp [e]))⟩
theorem bf {W:World} {B n s k:Nat} {e:TypeId} {v:Value} {xs:List Value} (ho:W.ownsRow B e s v n xs) (hk:v.ownBlock≠some k) (o:Nat) (u:Value):(W.setCell ⟨k,o,none⟩ u).ownsRow B e s v n xs:=
 ho.kept (bN W k o u) (.inr hk)
theorem aP {W:World} {B n s k:Nat} {e:TypeId} {v:Value} {xs:List Value} (ho:W.ownsRow B e s v n xs) (hk:k<B):v.ownBlock≠some k:=fun e1=>by have:=(ho.lt k e1).1;omega
theorem Np {W:World} {B n s k:Nat} {e:TypeId} {v:Value} {xs:List Value} (ho:W.ownsRow B e s v n xs) (hk:W.heap.size≤k):v.ownBlock≠some k:=fun e1=>by have:=(ho.lt k e1).2;omega
theorem Is.low {W W':World} {k B:Nat} {cs:Array Value} {T:TypeId} (h:Is W k cs T) (hb:Below B W W') (hk:k<B):Is W' k cs T:=⟨(hb.block k hk).trans h.at_⟩
theorem aZ {P:Program} {ops:Array Oper} {C:World→Prop} {K:Act→Prop} {l:List Nat} {a:Act} (h:∃ol,aQ ops l=ol∧wpQuiet P ops C K ol a):wpQuiet P ops C K (aQ ops l) a:=by
 obtain ⟨ol,rfl,h⟩:=h;exact h
theorem aO {ops:Array Oper} {i:Nat} {o:Oper} {l:List Nat} {F:List Oper→Prop} (ho:nth ops.toList i=some o) (h:∃ol,aQ ops l=ol∧F (o::ol)):∃ol,aQ ops (i::l)=ol∧F ol:=by
 obtain ⟨ol,rfl,h⟩:=h;exact ⟨_,by simp [aQ,dG ho],h⟩
theorem a_ {ops:Array Oper} {F:List Oper→Prop} (h:F []):∃ol,aQ ops []=ol∧F ol:=⟨[],rfl,h⟩
abbrev Xb:TypeId:=5
def Nq (l:List Nat):List Value:=l.map fun d:Nat=>Value.int .u8 (d:Int)
@[simp] theorem qg (l:List Nat):(Nq l).length=l.length:=by simp [Nq]
theorem uT (l:List Nat) (i:Nat) (h:i<l.length):(Nq l)[i]'(by simpa using h)=.int .u8 (l[i]:Nat):=by simp [Nq]
def str (l:List Nat):ByteArray:=⟨(l.map UInt8.ofNat).toArray⟩
theorem toNat_ofNat {d:Nat} (h:d<256):(UInt8.ofNat d).toNat=d:=by simp;omega
theorem DW {w:World} {a:Option Addr} {n cap:Nat} {L:List Nat} (h:bD w (.slice a n cap) (Nq L)) (hL:∀d∈L,d<256) :
 (convert 157 9 (.slice a n cap)).run Go.Proofs.Tryz.prog w=.ok (.string (str L)) w:=by
 rcases h.cases with ⟨hn,a',cap',hv,_⟩|⟨b,off,cap',hv,_,hlen,_,hx⟩
 ·have hL0:L=[]:=by simpa [Nq] using hn
  subst hL0;simp only [Value.slice.injEq] at hv;obtain ⟨rfl,rfl,rfl⟩:=hv;cases a with
  | none=>
    rw [run_convert_bytes_string w _ _ 5 none 0 cap Go.Proofs.Tryz.underlying157 Go.Proofs.Tryz.underlying5 Go.Proofs.Tryz.underlying9]
    go_simp
    rfl
  | some ad=>exact run_convert_bytes_back w _ _ 5 ad cap [] Go.Proofs.Tryz.underlying157 Go.Proofs.Tryz.underlying5 Go.Proofs.Tryz.underlying9 (fun j hj=>absurd hj (by simp))
 ·simp only [Value.slice.injEq] at hv;obtain ⟨rfl,rfl,rfl⟩:=hv
  have hc:=run_convert_bytes_back w 157 9 5 ⟨b,off,none⟩ cap (L.map UInt8.ofNat) Go.Proofs.Tryz.underlying157 Go.Proofs.Tryz.underlying5 Go.Proofs.Tryz.underlying9 (fun j hj=>by
   have hj':j<L.length:=by simpa using hj
   have h1:=hx j (by simpa using hj');rw [uT _ _ hj'] at h1;rw [List.getElem_map,toNat_ofNat (hL _ (List.getElem_mem _))];unfold Addr.add;by_cases hj0:j=0
   ·subst hj0;simpa using h1
   ·rw [if_neg hj0];exact h1)
  simpa [str] using hc
end Go.Cd
