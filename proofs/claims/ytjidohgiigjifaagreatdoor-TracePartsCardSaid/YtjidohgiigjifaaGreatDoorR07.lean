/- TraceParts and TraceWalks: a machine takes a character as those of its full decomposition, one by one; texts that are alike go through it, and of others none; no condition. -/
import Derived.Test.YtjidohgiigjifaaGreatDoorR06
import Derived.Maps.AppendAt
set_option maxRecDepth 100000
set_option maxHeartbeats 6400000
section
namespace Go.Cd
open Go.RowKit
theorem NB {F:Fence} {nF:Nat} {P:Program} {W:World} {ops:Array Oper} {rest:List Oper} {o:Oper} {a:Act} {Q:Exit→Act→World→Prop} (hgd:o.guard=none) (s x:Operand) (t:TypeId)
 (ho:o.op=.call { callee:=.builtin .append,args:=#[s,x],argTypes:=#[t,t] })
 (base:Nat) (e:TypeId) (z:Value) (bytes:Nat) (hE:Elem P t e z bytes)
 (v:Value) (n:Nat) (xs:List Value) (hs:a.eval s=v) (hown:W.ownsRow base e 1 v n xs)
 (u:Value) (hx:a.eval x=.slice (some ⟨W.heap.size,0,none⟩) 1 1) (h1:u.oneCell'=true)
 (hbytes:(n+1)*bytes≤140737488355328) (h63:n+1≤maxLen) (w0:World) (hb:Below base w0 W) (hbase:base≤w0.heap.size)
 (h:∀v' w',w'.ownsRow base e 1 v' (n+1) (xs++[u])→Below base w0 w'→(W.alloc (.cells #[u] e)).grownBy w' v.ownBlock→wpListIn F nF P ops Q rest (a.put o.dst v') w'):wpListIn F nF P ops Q (o::rest) a (W.alloc (.cells #[u] e)):=by
 have hsz:=hb.size;obtain ⟨hz1,ht,i,hi,hz,hsize,hby⟩:=hE;refine wpListIn_append_own _ hgd s x t ho base e i z 1 bytes ht hi hz hsize hby (jl hz1) (by decide) v n xs hs (hown.alloc _) ⟨W.heap.size,0,none⟩ 1 1 [u] hx (by simp) (cell_one_new _ _ _) (by simpa using h1) h63 hbytes (by simp;omega) ?_;intro v' w' h2 h3 _;refine h v' w' h2 ((hb.alloc (by omega) _).grown h3 (by simp;omega) ?_) h3;intro k hk;exact (hown.lt k hk).1
theorem H_ {n:Nat} {P:Program} {f:FuncId} {args:Array Value} {w:World} {R:Ending→World→Prop} (l:Nat) (h:Calls P f args w R):CallsIn (Fence.wide.inRound l) n P f args w R:=(callsIn_wide (n:=n)).2 h
def xx (Bs L:Nat) (A:World) (row:Option Nat):Prop:=∀r,row=some r→r=Bs∨(L≤r∧∃o:Obj,A.heap[r]? = some o∧o.isCells=false)
theorem Is.turn {A B:World} {Bs L k:Nat} {cs:Array Value} {T:TypeId} {row:Option Nat} (h:Is A k cs T) (hg:A.grownBy B row) (hr:xx Bs L A row) (hk:k≠Bs):Is B k cs T:=
 h.grown hg fun e=>by
  rcases hr k e with h1|⟨_,o,ho,hc⟩
  ·exact hk h1
  ·rw [h.at_] at ho;cases ho;cases hc
theorem Et {A B:World} {Bs L base size n:Nat} {e:TypeId} {v:Value} {xs:List Value} {row:Option Nat} (h:A.ownsRow base e size v n xs) (hg:A.grownBy B row) (hr:xx Bs L A row) (hb:Bs<base):B.ownsRow base e size v n xs:=by
 refine h.kept hg ?_;rcases h.2 with ⟨rfl,_⟩|⟨g,cap,cur,rfl,hbg,hgb,_⟩
 ·exact .inl rfl
 ·refine .inr fun e1=>?_;rcases hr g (by simpa [Value.ownBlock] using e1.symm) with h1|⟨_,o,ho,hc⟩
  ·omega
  ·rw [hgb] at ho;cases ho;cases hc
theorem xy {w A B:World} {Bs L m:Nat} {row:Option Nat} (h:Below m w A) (hg:A.grownBy B row) (hr:xx Bs L A row) (h1:m≤Bs) (h2:m≤L) (hs:m≤A.heap.size):Below m w B:=
 h.grown hg hs fun k hk=>by rcases hr k hk with h3|⟨h3,_⟩ <;> omega
theorem Is.putObj {W:World} {k D:Nat} {cs:Array Value} {T:TypeId} {o o':Obj} (h:Is W k cs T) (hD:W.heap[D]? = some o) (ho:o.isCells=false):Is (W.putObj D o') k cs T:=
 h.grown (grownBy_putObj' W D o') fun e=>by cases e;rw [h.at_] at hD;cases hD;cases ho
theorem rE {W W':World} {base size n:Nat} {e:TypeId} {v:Value} {xs:List Value} (h:W.ownsRow base e size v n xs) (hg:W.grownBy W' v.ownBlock):KeepsOthers W W':=
 KeepsOthers.of_grownBy hg fun j o ej hj=>by
  rcases h.2 with ⟨rfl,_⟩|⟨g,cap,cur,rfl,_,hgb,_⟩
  ·simp [Value.ownBlock] at ej
  ·obtain rfl:g=j:=by simpa [Value.ownBlock] using ej
   rw [hgb] at hj;cases hj;rfl
end Go.Cd
namespace Go.Proofs.YtjidohgiigjifaaGreatDoor
open Go.RowKit Go.Cd Go.Shelf
attribute [local go_sem] Oper.semAt_some
abbrev Ch:Type:={ c:Nat // c<1114112 }
theorem NC:∀(l:List Nat),(∀c∈l,c<1114112)→∃ys:List Ch,ys.map (·.1)=l
 | [],_=>⟨[],rfl⟩
 | c::l,h=>by
   obtain ⟨ys,e⟩:=NC l fun x hx=>h x (List.mem_cons_of_mem _ hx);exact ⟨⟨c,h c (List.mem_cons_self ..)⟩::ys,by rw [List.map_cons,e]⟩
theorem ll:∀(l:List Nat),(∀c∈l,c<1114112)→(b_ l).length≤l.length*7
 | [],_=>by simp [b_]
 | [c],h=>by
   have:=(bJ c).2;show (aS c).length≤_;simp;omega
 | c::d::l,h=>by
   have ih:=ll (d::l) fun x hx=>h x (List.mem_cons_of_mem _ hx);have:=(bJ c).2;show (aS c++32::b_ (d::l)).length≤_;simp only [List.length_append,List.length_cons] at *;omega
theorem zH {w:World} (l:List Nat) (h0:l≠[]) (hl:∀c∈l,c<1114112) (hn:l.length<1000) :
 Calls Tryz.prog 213 #[.string (tx (b_ l))] w fun e w'=>∃v,e=.returned (.tuple #[v,.bool true])∧w'.ownsRow w.heap.size aM 1 v l.length (aN l)∧Below w.heap.size w w':=by
 obtain ⟨ys,hys⟩:=NC l hl;have kH:b_ l=bu 32 (ys.map fun y=>aS y.1):=by rw [ow,←hys,List.map_map];rfl
 have hlen:(bu 32 (ys.map fun y=>aS y.1)).length<1000000:=by
  rw [←kH];have:=ll l hl;omega
 have hy0:ys≠[]:=by rintro rfl;exact h0 (by rw [←hys];rfl)
 have hyn:ys.length<1000:=by rw [←hys,List.length_map] at hn;exact hn
 have h32:∀y∈ys,(32:UInt8)∉aS y.1:=fun y _ h=>(dA y.1 _ h).2.2.1 rfl;rw [kH];have HYS:=ae hys;have HLEN:=ae hlen;obtain ⟨s,hs⟩:=af (tx (bu 32 (ys.map fun y=>aS y.1)));rw [←hs];have HS:=ae hs;clear hys hlen kH hs h0 hl hn;have SQ:=ae (fun W=>Cf s ⟨#[32]⟩ W);refine jK Tryz.func213 rfl ?_;simp only [Tryz.ntmps213,List.size_toArray,List.length_cons,List.length_nil,Nat.reduceAdd,Nat.reduceSub,Array.replicate_succ,Array.replicate_zero,List.push_toArray,List.append_toArray,List.nil_append,List.cons_append];go_wp2_with fail;obtain ⟨w0,hw0⟩:=af (((w.alloc (.cells #[.slice none 0 0] 39)).alloc (.cells #[.bool false] 4)).alloc (.cells #[.slice none 0 0] 39));have hz0:w0.heap.size=w.heap.size+3:=by rw [hw0];simp
 have hB0:Below w.heap.size w w0:=by rw [hw0];exact (((Below.refl _ w).alloc (Nat.le_refl _) _).alloc (by simp) _).alloc (by simp;omega) _
 have k0:Is w0 w.heap.size #[.slice none 0 0] 39:=by rw [hw0];exact ((Is.new w _ _).mono (ai _)).mono (ai _)
 have k1:Is w0 (w.heap.size+1) #[.bool false] 4:=by rw [hw0];exact (Is.new' _ _ _ _ (by simp)).mono (ai _)
 have k2:Is w0 (w.heap.size+2) #[.slice none 0 0] 39:=by rw [hw0];exact Is.new' _ _ _ _ (by simp)
 rw [←hw0];refine (SQ.out _).mono ?_;rintro e w2 ⟨rfl,hw2⟩;have hB2:Below w0.heap.size w0 w2:=by rw [hw2];exact (((Below.refl _ w0).alloc (Nat.le_refl _) _).alloc (by simp) _).alloc (by simp;omega) _
 have hz2:w2.heap.size=w0.heap.size+3:=by rw [hw2];simp
 have j0:Is w2 w0.heap.size #[.string s] 9:=by rw [hw2];exact ((Is.new w0 _ _).mono (ai _)).mono (ai _)
 have j1:Is w2 (w0.heap.size+1) #[.string ⟨#[32]⟩] 9:=by rw [hw2];exact (Is.new' _ _ _ _ (by simp)).mono (ai _)
 have j2:Is w2 (w0.heap.size+2) #[.int .i64 0] 3:=by rw [hw2];exact Is.new' _ _ _ _ (by simp)
 replace k0:=k0.mono hB2
 replace k1:=k1.mono hB2
 replace k2:=k2.mono hB2
 have hBw:Below w.heap.size w w2:=ag hB0 hB2;clear SQ hw2 hw0 hB0 hB2;rw [hz0] at *;rw [show w.heap.size+3+1=w.heap.size+4 from rfl,show w.heap.size+3+2=w.heap.size+5 from rfl] at *;clear hz0 w0;have hSW:=H9 4 (by omega) (w.heap.size+4) (w.heap.size+3) (w.heap.size+5) (by omega) (by omega) ys hy0 (fun y:Ch=>aS y.1) h32 HLEN.out w2 (j1.at 0 rfl) (by rw [←HS.out];exact j0.at 0 rfl) (j0.frozen 0) (j2.at 0 rfl);clear j0 j1 j2 h32 hy0;go_wp2_with fail;refine (wpIn_wide (n:=5)).1 ?_;refine lL (F:=Fence.wide) rfl (by omega) (gf:=272) (lb:=#[.pointer (some ⟨w.heap.size+4,0,none⟩),.pointer (some ⟨w.heap.size+3,0,none⟩),.pointer (some ⟨w.heap.size+5,0,none⟩)]) rfl trivial (enters_of Tryz.func272 (by kernel_rfl) rfl)
  hSW (by omega) (by intro b hb;simp at hb;omega) (fun _=>rfl)
  (fun pre W=>∃v,Is W (w.heap.size+2) #[v] 39∧W.ownsRow w2.heap.size aM 1 v pre.length (aN (pre.map (·.1)))∧Is W w.heap.size #[.slice none 0 0] 39∧Is W (w.heap.size+1) #[.bool false] 4∧Below w.heap.size w W∧w2.heap.size≤W.heap.size)
  ?hI ?h0 (fun x=>{ tmps:=#[.string s,undef,.pointer (some ⟨w.heap.size,0,none⟩),.pointer (some ⟨w.heap.size+1,0,none⟩),.pointer (some ⟨w.heap.size+1+1,0,none⟩),.string (tx (aS x.1)),undef,undef,.string s,.func (.func 272) #[] #[.pointer (some ⟨w.heap.size+4,0,none⟩),.pointer (some ⟨w.heap.size+3,0,none⟩),.pointer (some ⟨w.heap.size+5,0,none⟩)],.string (tx (aS x.1)),undef,undef,undef,undef,undef,undef,undef,undef,undef,undef,undef,undef],defers:=[] }) ?assign ?body ?done
 case hI=>
  rintro pre A B row ⟨v,h1,h2,h3,h4,h5,h6⟩ hg hr;have hr':xx (w.heap.size+3) w2.heap.size A row:=hr;exact ⟨v,h1.turn hg hr' (by omega),Et h2 hg hr' (by omega),h3.turn hg hr' (by omega),h4.turn hg hr' (by omega),xy h5 hg hr' (by omega) (by omega) h5.size,Nat.le_trans h6 hg.size⟩
 case h0=>exact ⟨_,k2,World.ownsRow_nil _ _ _ _,k0,k1,hBw,Nat.le_refl _⟩
 case assign=>
  intro l x W K hK
  gi_wp2
  exact hK
 case body=>
  rintro l pre x W ⟨v,h1,h2,h3,h4,h5,h6⟩ hlt;obtain ⟨c,hc⟩:=x;have HX:=ae (ng (w:=W) c hc);have e1:=h1.at 0 rfl;obtain ⟨av,cv,rfl,_,_⟩:=az h2;obtain ⟨m,hm⟩:=af pre.length;have G6:m<1000:=by omega
  have e2:pre.map (·.1)++[c]=(pre++[(⟨c,hc⟩:Ch)]).map (·.1):=by simp
  have e3:m+1=(pre++[(⟨c,hc⟩:Ch)]).length:=by simp [hm]
  have E2:=ae e2;have E3:=ae e3;rw [←hm] at h2 e1 h1;clear e2 e3 hlt hm hSW
  gi_wp2_with (first
   | (refine ⟨trivial,?_⟩;gi_at_call 163;refine (H_ l HX.out).mono ?_;rintro e w3 ⟨rfl,rfl⟩)
   | (gi_at_builtin;refine NB rfl _ _ 39 rfl w2.heap.size aM _ 4 bS (.slice av m cv) m _ rfl h2 (.int .i32 (c:Nat)) rfl rfl (by omega) (by unfold maxLen;omega) _ (Below.refl _ _) h6 ?_;intro v1 w4 o1 hb1 hg1
      obtain ⟨a1,c1,rfl,_,_⟩:=az o1;have g1:=h1.low hb1 (by omega);have g3:=h3.low hb1 (by omega);have g4:=h4.low hb1 (by omega);have e4:=g1.at 0 rfl;have e5:=g1.frozen 0;have ho:=h2.alloc (.cells #[.int .i32 (c:Nat)] aM);have hk:=rE ho hg1
      clear hg1 ho))
  refine ⟨((KeepsOthers.alloc _ _).trans (hk.trans (KeepsOthers.setCell _ _ _))).from _,lK.of_block fun b hb=>?_,_,g1.set 0 _,?_,g3.put (by omega) _,g4.put (by omega) _,aj (h5.trans (hb1.mono (by omega))) (by omega),?_⟩
  ·simp at hb;rw [Below.heap_setCell _ _ _ _ (by simp only;omega)];exact hb1.block b (by omega)
  ·have:=bf o1 (Go.Cd.aP o1 (k:=w.heap.size+1+1) (by omega)) 0 (.slice a1 (m+1) c1);rw [←E3.out,←E2.out,bA];exact this
  ·have:=hb1.size;simp only [World.size_setCell];omega
 case done=>
  rintro D W hD ⟨v,h1,h2,h3,h4,h5,h6⟩ hK;have e0:=h1.at 0 rfl;have e1:=h3.at 0 rfl;have e2:=h4.at 0 rfl;have e3:=h3.frozen 0;have e4:=h4.frozen 0;obtain ⟨av,cv,rfl,_,_⟩:=az h2;have f1:=fun u=>(h4.put (j:=w.heap.size) (o:=0) (by omega) u).at 0 rfl;have f2:=fun u=>(h4.put (j:=w.heap.size) (o:=0) (by omega) u).frozen 0;go_wp2;have n0:(Value.slice av ys.length cv).ownBlock≠some w.heap.size:=Go.Cd.aP h2 (by omega);have n1:(Value.slice av ys.length cv).ownBlock≠some (w.heap.size+1):=Go.Cd.aP h2 (by omega);have q2:=bf (bf h2 n0 0 (.slice av ys.length cv)) n1 0 (.bool true);have q3:=(h3.set 0 (.slice av ys.length cv)).put (j:=w.heap.size+1) (o:=0) (by omega) (.bool true);have q4:=(h4.put (j:=w.heap.size) (o:=0) (by omega) (.slice av ys.length cv)).set 0 (.bool true);have q5:=aj (off:=0) (u:=.bool true) (b:=w.heap.size+1) (aj (off:=0) (u:=.slice av ys.length cv) (b:=w.heap.size) h5 (Nat.le_refl _)) (by omega);have qK:=(Below.heap_setCell (W.setCell ⟨w.heap.size,0,none⟩ (.slice av ys.length cv)) ⟨w.heap.size+1,0,none⟩ (.bool true) D (by simp only;omega)).trans ((Below.heap_setCell W ⟨w.heap.size,0,none⟩ (.slice av ys.length cv) D (by simp only;omega)).trans hK);have r3:=(q3.putObj (o':=.deferred none) qK rfl).at 0 rfl;have r4:=(q4.putObj (o':=.deferred none) qK rfl).at 0 rfl;refine ⟨by simp,.inl ⟨_,_,rfl,run_takeDeferred qK,?_⟩⟩;refine ⟨.tuple #[.slice av ys.length cv,.bool true],by simp [results,Tryz.results213,go_sem,r3,r4],_,rfl,?_,?_⟩
  ·have:=ownsRow_putObj q2 (.deferred none) qK rfl;rw [←HYS.out,List.length_map];exact aW this (by omega)
  ·exact q5.trans (belowK_b (w:=w) (Nat.le_refl _) _ D _ (.deferred none) (by omega) qK rfl rfl)
end Go.Proofs.YtjidohgiigjifaaGreatDoor
end
namespace Go.Proofs.YtjidohgiigjifaaGreatDoor
open Go.RowKit Go.Cd
theorem zI {w:World} (l:List UInt8) (hl:∀b∈l,dQ b) (hs:l.length<1000000) :
 Calls Tryz.prog 156 #[.string (tx l)] w fun e w'=>e=.returned (.bool true)∧w'=w:=by
 obtain ⟨s,hse⟩:=af (tx l);have hsz:s.size=l.length:=by rw [hse,bn]
 obtain ⟨n,hn⟩:=af s.size
 have HB:=ae (show ∀i (h:i<s.size),32≤(s[i]'h).toNat∧(s[i]'h).toNat≤126 from fun i h=>by
  subst hse;rw [JR]
  exact hl _ (List.getElem_mem _))
 rw [←hse];have HN:=ae hn;have Qy:n<1000000:=by omega
 clear hl hse hs hsz;go_enter Tryz.func156,Tryz.ntmps156;go_wp2_with fail;rw [←hn];clear hn;go_loopw [6] (fun iv wr=>∃j:Nat,j≤n∧iv=.int .i64 j∧wr=w) (fun iv _=>n-(intOf iv).toNat)
 case atStart=>exact ⟨0,Nat.zero_le _,rfl,(by first|rfl|trivial)⟩
 case round=>
  obtain ⟨j,hj,rfl,rfl⟩:=hrel;by_cases hjn:j<n
  ·have hjs:j<s.size:=by have:=HN.out;omega
   obtain ⟨h1,h2⟩:=HB.out j hjs;obtain ⟨b,hb⟩:∃b:Nat,b=(s[j]'hjs).toNat:=⟨_,rfl⟩;rw [←hb] at h1 h2;have e0:((s[j]'hjs).toNat:Int)=(b:Int):=by rw [hb]
   have z1:¬(b:Int)<32:=by omega
   have z2:¬(126:Int)<(b:Int):=by omega
   clear hb;go_wp2;go_roundw
   case rel=>exact ⟨j+1,by omega,rfl,(by first|rfl|trivial)⟩
   case measure=>simp [intOf];omega
  ·have Ra:¬(j:Int)<(n:Int):=by omega
   go_wp2;go_ret;exact ⟨rfl,rfl⟩
end Go.Proofs.YtjidohgiigjifaaGreatDoor
section
namespace Go.Cd
open Go.RowKit Go.Lib
abbrev ve:TypeId:=9
theorem Eu:Elem Go.Proofs.Tryz.prog 206 ve (.string ⟨#[]⟩) 16:=⟨rfl,Go.Proofs.Tryz.underlying206,info_parts (by kernel_rfl)⟩
def nD (l:List (List UInt8)):List Value:=l.map fun p=>Value.string (Go.Proofs.YtjidohgiigjifaaGreatDoor.tx p)
@[simp] theorem nG (l:List (List UInt8)):(nD l).length=l.length:=by simp [nD]
theorem vg (l m:List (List UInt8)):nD (l++m)=nD l++nD m:=by simp [nD]
theorem zJ (p:List UInt8):trimSuffix (p++[10]) [10]=p:=by
 unfold trimSuffix hasSuffix;rw [if_pos (by rw [List.isSuffixOf_iff_suffix];exact List.suffix_append p [10])];simp
abbrev Ln:Type:={ p:List UInt8 // (∀b∈p,dQ b)∧p.length≤1000 }
theorem ND:∀(l:List (List UInt8)),(∀p∈l,(∀b∈p,dQ b)∧p.length≤1000)→∃ys:List Ln,ys.map (·.1)=l
 | [],_=>⟨[],rfl⟩
 | p::l,h=>by
   obtain ⟨ys,e⟩:=ND l fun x hx=>h x (List.mem_cons_of_mem _ hx);exact ⟨⟨p,h p (List.mem_cons_self ..)⟩::ys,by rw [List.map_cons,e]⟩
end Go.Cd
namespace Go.Proofs.YtjidohgiigjifaaGreatDoor
open Go.RowKit Go.Cd Go.Shelf
attribute [local go_sem] Oper.semAt_some
theorem pO {w:World} (ls:List (List UInt8)) (hl:∀p∈ls,(∀b∈p,dQ b)∧p.length≤1000) (hn:(bq ls).length<1000000) :
 Calls Tryz.prog 125 #[.string (tx (bq ls))] w fun e w'=>∃v,e=.returned (.tuple #[v,.nilIface])∧w'.ownsRow w.heap.size ve 1 v ls.length (nD ls)∧Below w.heap.size w w':=by
 obtain ⟨ys,hys⟩:=ND ls hl;have kH:bq ls=bq (ys.map fun y=>y.1):=by rw [hys]
 have hyn:ys.length<1000000:=by
  have:∀l:List (List UInt8),l.length≤(bq l).length:=fun l=>by
   induction l with
   | nil=>simp
   | cons p l ih=>rw [kI,List.length_append,List.length_cons,List.length_cons];omega
  have:=this ls;rw [←hys,List.length_map,hys] at this;omega
 have h10:∀y∈ys,(10:UInt8)∉y.1:=fun y _ h=>by
  have:=(y.2.1 10 h).1;simp at this
 rw [kH] at hn ⊢;have HYS:=ae hys;have HLEN:=ae hn;obtain ⟨s,hs⟩:=af (tx (bq (ys.map fun y=>y.1)));rw [←hs];have HS:=ae hs;clear hys kH hs hl hn;have SQ:=ae (fun W=>NA s W);refine jK Tryz.func125 rfl ?_;simp only [Tryz.ntmps125,List.size_toArray,List.length_cons,List.length_nil,Nat.reduceAdd,Nat.reduceSub,Array.replicate_succ,Array.replicate_zero,List.push_toArray,List.append_toArray,List.nil_append,List.cons_append];go_wp2_with fail;obtain ⟨w0,hw0⟩:=af (((w.alloc (.cells #[.slice none 0 0] 206)).alloc (.cells #[.nilIface] 108)).alloc (.cells #[.slice none 0 0] 206));have hz0:w0.heap.size=w.heap.size+3:=by rw [hw0];simp
 have hB0:Below w.heap.size w w0:=by rw [hw0];exact (((Below.refl _ w).alloc (Nat.le_refl _) _).alloc (by simp) _).alloc (by simp;omega) _
 have k0:Is w0 w.heap.size #[.slice none 0 0] 206:=by rw [hw0];exact ((Is.new w _ _).mono (ai _)).mono (ai _)
 have k1:Is w0 (w.heap.size+1) #[.nilIface] 108:=by rw [hw0];exact (Is.new' _ _ _ _ (by simp)).mono (ai _)
 have k2:Is w0 (w.heap.size+2) #[.slice none 0 0] 206:=by rw [hw0];exact Is.new' _ _ _ _ (by simp)
 rw [←hw0];refine (SQ.out _).mono ?_;rintro e w2 ⟨rfl,hw2⟩;have hB2:Below w0.heap.size w0 w2:=by rw [hw2];exact ai _
 have hz2:w2.heap.size=w0.heap.size+1:=by rw [hw2];simp
 have j0:Is w2 w0.heap.size #[.string s] 9:=by rw [hw2];exact Is.new w0 _ _
 replace k0:=k0.mono hB2
 replace k1:=k1.mono hB2
 replace k2:=k2.mono hB2
 have hBw:Below w.heap.size w w2:=ag hB0 hB2;clear SQ hw2 hw0 hB0 hB2;rw [hz0] at *;clear hz0 w0;have hSW:=Rn 4 (by omega) (w.heap.size+3) ys (fun y:Ln=>y.1) h10 HLEN.out w2 (by rw [←HS.out];exact j0.at 0 rfl) (j0.frozen 0);clear j0 h10;go_wp2_with fail;refine (wpIn_wide (n:=5)).1 ?_;refine lL (F:=Fence.wide) rfl (by omega) (gf:=180) (lb:=#[.pointer (some ⟨w.heap.size+3,0,none⟩)]) rfl trivial (enters_of Tryz.func180 (by kernel_rfl) rfl)
  hSW (by omega) (by intro b hb;simp at hb;omega) (fun _=>rfl)
  (fun pre W=>∃v,Is W (w.heap.size+2) #[v] 206∧W.ownsRow w2.heap.size ve 1 v pre.length (nD (pre.map (·.1)))∧Is W w.heap.size #[.slice none 0 0] 206∧Is W (w.heap.size+1) #[.nilIface] 108∧Below w.heap.size w W∧w2.heap.size≤W.heap.size)
  ?hI ?h0 (fun x=>{ tmps:=#[.string s,undef,.pointer (some ⟨w.heap.size,0,none⟩),.pointer (some ⟨w.heap.size+1,0,none⟩),.pointer (some ⟨w.heap.size+1+1,0,none⟩),.string (tx (x.1++[10])),undef,.string s,.func (.func 180) #[] #[.pointer (some ⟨w.heap.size+3,0,none⟩)],.string (tx (x.1++[10])),undef,undef,undef,undef,undef,undef,undef,undef,undef,undef,undef,undef,undef,undef,undef,undef,undef,undef,undef,undef,undef,undef],defers:=[] }) ?assign ?body ?done
 case hI=>
  rintro pre A B row ⟨v,h1,h2,h3,h4,h5,h6⟩ hg hr;have hr':xx (w.heap.size+3) w2.heap.size A row:=hr;exact ⟨v,h1.turn hg hr' (by omega),Et h2 hg hr' (by omega),h3.turn hg hr' (by omega),h4.turn hg hr' (by omega),xy h5 hg hr' (by omega) (by omega) h5.size,Nat.le_trans h6 hg.size⟩
 case h0=>exact ⟨_,k2,World.ownsRow_nil _ _ _ _,k0,k1,hBw,Nat.le_refl _⟩
 case assign=>
  intro l x W K hK
  gi_wp2
  exact hK
 case body=>
  rintro l pre x W ⟨v,h1,h2,h3,h4,h5,h6⟩ hlt;obtain ⟨p,hp,hp2⟩:=x
  have HX:=ae (show Calls Tryz.prog 155 #[.string (tx (p++[10])),.string ⟨#[10]⟩] W fun e w'=>e=.returned (.string (tx p))∧w'=W from by
   have h:=Tryz.strings_TrimSuffix (tx (p++[10])) ⟨#[10]⟩ W (by rw [bn,List.length_append];simp;omega);rw [df,show (⟨#[10]⟩:ByteArray).data.toList=[10] from rfl,zJ] at h
   exact h)
  have HP:=ae (zI (w:=W) p hp (by omega));have e1:=h1.at 0 rfl;obtain ⟨av,cv,rfl,_,_⟩:=az h2;obtain ⟨m,hm⟩:=af pre.length;have G6:m<1000000:=by omega
  have e2:pre.map (·.1)++[p]=(pre++[(⟨p,hp,hp2⟩:Ln)]).map (·.1):=by simp
  have e3:m+1=(pre++[(⟨p,hp,hp2⟩:Ln)]).length:=by simp [hm]
  have E2:=ae e2;have E3:=ae e3;rw [←hm] at h2 e1 h1;have hz:¬1000<(tx p).size:=by rw [bn];omega
  clear e2 e3 hlt hm hSW
  gi_wp2_with (first
   | (refine ⟨trivial,?_⟩;gi_at_call 155;refine (H_ l HX.out).mono ?_;rintro e w3 ⟨rfl,rfl⟩)
   | (refine ⟨trivial,?_⟩;gi_at_call 156;refine (H_ l HP.out).mono ?_;rintro e w3 ⟨rfl,rfl⟩)
   | (gi_at_builtin;refine NB rfl _ _ 206 rfl w2.heap.size ve _ 16 Eu (.slice av m cv) m _ rfl h2 (.string (tx p)) rfl rfl (by omega) (by unfold maxLen;omega) _ (Below.refl _ _) h6 ?_;intro v1 w4 o1 hb1 hg1
      obtain ⟨a1,c1,rfl,_,_⟩:=az o1;have g1:=h1.low hb1 (by omega);have g3:=h3.low hb1 (by omega);have g4:=h4.low hb1 (by omega);have e4:=g1.at 0 rfl;have e5:=g1.frozen 0;have ho:=h2.alloc (.cells #[.string (tx p)] ve);have hk:=rE ho hg1
      clear hg1 ho))
  refine ⟨((KeepsOthers.alloc _ _).trans (hk.trans (KeepsOthers.setCell _ _ _))).from _,lK.of_block fun b hb=>?_,_,g1.set 0 _,?_,g3.put (by omega) _,g4.put (by omega) _,aj (h5.trans (hb1.mono (by omega))) (by omega),?_⟩
  ·simp at hb;rw [Below.heap_setCell _ _ _ _ (by simp only;omega)];exact hb1.block b (by omega)
  ·have:=bf o1 (Go.Cd.aP o1 (k:=w.heap.size+1+1) (by omega)) 0 (.slice a1 (m+1) c1);rw [←E3.out,←E2.out,vg];exact this
  ·have:=hb1.size;simp only [World.size_setCell];omega
 case done=>
  rintro D W hD ⟨v,h1,h2,h3,h4,h5,h6⟩ hK;have e0:=h1.at 0 rfl;have e1:=h3.at 0 rfl;have e2:=h4.at 0 rfl;have e3:=h3.frozen 0;have e4:=h4.frozen 0;obtain ⟨av,cv,rfl,_,_⟩:=az h2;have f1:=fun u=>(h4.put (j:=w.heap.size) (o:=0) (by omega) u).at 0 rfl;have f2:=fun u=>(h4.put (j:=w.heap.size) (o:=0) (by omega) u).frozen 0;go_wp2;have n0:(Value.slice av ys.length cv).ownBlock≠some w.heap.size:=Go.Cd.aP h2 (by omega);have n1:(Value.slice av ys.length cv).ownBlock≠some (w.heap.size+1):=Go.Cd.aP h2 (by omega);have q2:=bf (bf h2 n0 0 (.slice av ys.length cv)) n1 0 .nilIface;have q3:=(h3.set 0 (.slice av ys.length cv)).put (j:=w.heap.size+1) (o:=0) (by omega) .nilIface;have q4:=(h4.put (j:=w.heap.size) (o:=0) (by omega) (.slice av ys.length cv)).set 0 .nilIface;have q5:=aj (off:=0) (u:=.nilIface) (b:=w.heap.size+1) (aj (off:=0) (u:=.slice av ys.length cv) (b:=w.heap.size) h5 (Nat.le_refl _)) (by omega);have qK:=(Below.heap_setCell (W.setCell ⟨w.heap.size,0,none⟩ (.slice av ys.length cv)) ⟨w.heap.size+1,0,none⟩ .nilIface D (by simp only;omega)).trans ((Below.heap_setCell W ⟨w.heap.size,0,none⟩ (.slice av ys.length cv) D (by simp only;omega)).trans hK);have r3:=(q3.putObj (o':=.deferred none) qK rfl).at 0 rfl;have r4:=(q4.putObj (o':=.deferred none) qK rfl).at 0 rfl;refine ⟨by simp,.inl ⟨_,_,rfl,run_takeDeferred qK,?_⟩⟩;refine ⟨.tuple #[.slice av ys.length cv,.nilIface],by simp [results,Tryz.results125,go_sem,r3,r4],_,rfl,?_,?_⟩
  ·have:=ownsRow_putObj q2 (.deferred none) qK rfl;rw [←HYS.out,List.length_map];exact aW this (by omega)
  ·exact q5.trans (belowK_b (w:=w) (Nat.le_refl _) _ D _ (.deferred none) (by omega) qK rfl rfl)
end Go.Proofs.YtjidohgiigjifaaGreatDoor
end
namespace Go.Proofs.YtjidohgiigjifaaGreatDoor
open Go.RowKit Go.Cd Go.Shelf
theorem Ev {w:World} (c:Int) (k n cp:Nat) (a:Option Addr) (h:k≠0∨n≠0) :
 Calls Tryz.prog 160 #[.agg #[.int .i32 c,.int .i64 k,.slice a n cp]] w fun e w'=>e=.returned (.bool false)∧Below w.heap.size w w':=by
 have hb:=ai (w:=w) (.cells #[.int .i32 c,.int .i64 k,.slice a n cp] 164);have k0:=Is.new w #[.int .i32 c,.int .i64 k,.slice a n cp] 164;have e0:=k0.at 0 rfl;have e1:=k0.at 1 rfl;have e2:=k0.at 2 rfl;go_enter Tryz.func160,Tryz.ntmps160;by_cases hk:k=0
 ·have hn:n≠0:=by omega
  subst hk;have z:((n:Int)==0)=false:=by simp;omega
  have z0:((0:Nat):Int)=0:=rfl;go_wp2;go_ret;exact ⟨rfl,hb⟩
 ·have z:((k:Int)==0)=false:=by simp;omega
  go_wp2;go_ret;exact ⟨rfl,hb⟩
theorem KQ:∀(m:List Nat) (_:m≠[]),∃b r,b_ m=b::r∧b≠60
 | [],h=>absurd rfl h
 | c::l,_=>by
   have h1:=(bJ c).1;obtain ⟨b,r,e⟩:∃b r,aS c=b::r:=by
    cases e:aS c with
    | nil=>rw [e] at h1;simp at h1
    | cons b r=>exact ⟨b,r,rfl⟩
   have hb:=(dA c b (by rw [e];simp)).2.2.2.2;cases l with
   | nil=>exact ⟨b,r,e,hb⟩
   | cons d l=>exact ⟨b,r++32::b_ (d::l),by show aS c++32::b_ (d::l)=_;rw [e];rfl,hb⟩
theorem xz {w:World} (m:List Nat) (hm:m.length≤2) (hc:∀c∈m,c<1114112) :
 Calls Tryz.prog 185 #[.string (tx (b_ m))] w fun e w'=>∃v,e=.returned (.tuple #[v,.bool true])∧w'.ownsRow w.heap.size aM 1 v m.length (aN m)∧Below w.heap.size w w':=by
 by_cases h0:m=[]
 ·subst h0;obtain ⟨s,hs⟩:=af (tx (b_ []));have z:s.toList.isEmpty=true:=by rw [hs,Lib.toList_data];rfl
  rw [←hs];clear hs;go_enter Tryz.func185,Tryz.ntmps185;go_wp2
  (try simp only [Exit.inBlock,Exit.then])
  refine bodyPost_ret (by simp [results,Tryz.results185,go_sem];try rfl) rfl ?_;exact ⟨_,rfl,World.ownsRow_nil _ _ _ _,Below.refl _ _⟩
 ·have HX:=ae (zH (w:=w) m h0 hc (by omega));obtain ⟨b,r,hbr,ab8⟩:=KQ m h0;obtain ⟨s,hs⟩:=af (tx (b_ m));rw [←hs] at HX ⊢;have hpos:0<s.size:=by rw [hs,bn,hbr];simp
  have z:s.toList.isEmpty=false:=by rw [hs,Lib.toList_data,df,hbr];rfl
  have z2:(((s[0]'hpos).toNat:Int)==60)=false:=by
   have e1:s[0]'hpos=b:=by
    subst hs;rw [JR];simp only [hbr,List.getElem_cons_zero]
   rw [e1];have:b.toNat≠60:=fun e=>ab8 (by rw [←UInt8.toNat_inj];exact e);simp;omega
  obtain ⟨n,hn⟩:=af m.length;rw [←hn] at HX hm ⊢;clear hs hbr hn;go_enter Tryz.func185,Tryz.ntmps185;go_wp2_with fail;refine HX.out.mono ?_;rintro e w2 ⟨v,rfl,h1,h2⟩;obtain ⟨av,cv,rfl,_,_⟩:=az h1;have z3:((n:Int)≤2)=True:=by simp;omega
  clear HX;go_wp2;go_ret2;exact ⟨_,rfl,h1,h2⟩
structure xA (r:aF):Prop where
 code:r.code<1114112
 cls:r.cls<255
 len:r.map.length≤2
 map:∀c∈r.map,c<1114112
theorem xB {w:World} (hG:bZ w) {nm:List UInt8} (hne:nm≠[]) (r:aF) (hr:xA r) {k:Nat} (hk:Is w k ((eX nm r).map fun l=>Value.string (tx l)).toArray 9) :
 Calls Tryz.prog 158 #[.slice (some ⟨k,0,none⟩) 15 15] w fun e w'=>∃v,e=.returned (.tuple #[.agg #[.int .i32 r.code,.int .i64 r.cls,v],.string ⟨#[]⟩])∧w'.ownsRow w.heap.size aM 1 v r.map.length (aN r.map)∧Below w.heap.size w w':=by
 obtain ⟨r1,r2,r3,r4⟩:=hr;have HX:=ae (fun W=>ng (w:=W) r.code r1);have HN:=ae (fun W (h:bZ W)=>Ef h r.cls r2);have HM:=ae (fun W=>xz (w:=W) r.map r3 r4);have f0:w.cell? ⟨k,0,none⟩=some (.string (tx (aS r.code))):=hk.at 0 rfl;have f1:w.cell? ⟨k,1,none⟩=some (.string (tx nm)):=hk.at 1 rfl;have f3:w.cell? ⟨k,3,none⟩=some (.string (tx (gD r.cls))):=hk.at 3 rfl;have f5:w.cell? ⟨k,5,none⟩=some (.string (tx (b_ r.map))):=hk.at 5 rfl;have hkl:=hk.lt;have z:(tx nm).toList.isEmpty=false:=by rw [Lib.toList_data,df];cases nm with|nil=>exact absurd rfl hne|cons=>rfl
 generalize tx (aS r.code)=s0 at *;clear hne;generalize tx nm=s1 at *;generalize tx (gD r.cls)=s3 at *;generalize tx (b_ r.map)=s5 at *;clear r1 r2 r3 r4 hk;obtain ⟨w0,hw0⟩:=af ((w.alloc (.cells #[.int .i32 0,.int .i64 0,.slice none 0 0] 164)).alloc (.cells #[.int .i32 0,.int .i64 0,.slice none 0 0] 164));have hB0:Below w.heap.size w w0:=by rw [hw0];exact ((Below.refl _ w).alloc (Nat.le_refl _) _).alloc (by simp) _
 have hz0:w0.heap.size=w.heap.size+2:=by rw [hw0];simp
 have k0:Is w0 w.heap.size #[.int .i32 0,.int .i64 0,.slice none 0 0] 164:=by rw [hw0];exact (Is.new w _ _).mono (ai _)
 have k1:Is w0 (w.heap.size+1) #[.int .i32 0,.int .i64 0,.slice none 0 0] 164:=by rw [hw0];exact Is.new' _ _ _ _ (by simp)
 go_enter Tryz.func158,Tryz.ntmps158;go_wp2_with fail;rw [←hw0];clear hw0;refine (HX.out w0).mono ?_;rintro e w2 ⟨rfl,rfl⟩;obtain ⟨w1,hw1⟩:=af (w2.setCell ⟨w.heap.size+1,0,none⟩ (.int .i32 (r.code:Nat)));have hB1:Below w.heap.size w w1:=by rw [hw1];exact aj hB0 (by omega)
 have g1:=aA hB1 f1;have g3:=aA hB1 f3;have e1:=k1.at 0 rfl;have d1:=k1.frozen 0;have j0:Is w1 w.heap.size #[.int .i32 0,.int .i64 0,.slice none 0 0] 164:=by rw [hw1];exact k0.put (by omega) _
 have j1:Is w1 (w.heap.size+1) #[.int .i32 (r.code:Nat),.int .i64 0,.slice none 0 0] 164:=by rw [hw1];exact k1.set 0 _
 have hz1:w1.heap.size=w.heap.size+2:=by rw [hw1,World.size_setCell];exact hz0
 rw [hw1] at g1 g3;go_wp2_with fail;rw [←hw1];clear g1 g3 e1 d1 k0 k1 hB0 hz0 HX;refine (HN.out w1 (hG.mono hB1)).mono ?_;rintro e w3 ⟨rfl,hB3⟩;clear HN hw1;obtain ⟨w4,hw4⟩:=af (w3.setCell ⟨w.heap.size+1,1,none⟩ (.int .i64 (r.cls:Nat)));have hB4:Below w.heap.size w w4:=by rw [hw4];exact aj (hB1.trans (hB3.mono (by omega))) (by omega)
 have g5:=aA hB4 f5;have l0:=j0.mono hB3;have l1:=j1.mono hB3;have e1:=l1.at 1 rfl;have d1:=l1.frozen 1;have m0:Is w4 w.heap.size #[.int .i32 0,.int .i64 0,.slice none 0 0] 164:=by rw [hw4];exact l0.put (by omega) _
 have m1:Is w4 (w.heap.size+1) #[.int .i32 (r.code:Nat),.int .i64 (r.cls:Nat),.slice none 0 0] 164:=by rw [hw4];exact l1.set 1 _
 have Rp:w.heap.size+2≤w4.heap.size:=by rw [hw4,World.size_setCell];have:=hB3.size;omega
 rw [hw4] at g5;go_wp2_with fail;rw [←hw4];clear g5 e1 d1 l0 l1 j0 j1 hB1 hB3 hz1 hw4;refine (HM.out w4).mono ?_;rintro e w5 ⟨v,rfl,h1,h2⟩;have n0:=m0.mono h2;have n1:=m1.mono h2;obtain ⟨av,cv,rfl,_,_⟩:=az h1;have q0:=n1.at 0 rfl;have q1:=n1.at 1 rfl;have q2:=n1.at 2 rfl;have d2:=n1.frozen 2;have r0:=n0.at 0 rfl;have r1:=n0.at 1 rfl;have r2:=n0.at 2 rfl;have s0:=n0.frozen 0;have s1:=n0.frozen 1;have s2:=n0.frozen 2;go_wp2
 (try simp only [Exit.inBlock,Exit.then])
 obtain ⟨w6,wH⟩:=af (w5.setCell ⟨w.heap.size+1,2,none⟩ (.slice av r.map.length cv));have p0:Is w6 w.heap.size #[.int .i32 0,.int .i64 0,.slice none 0 0] 164:=by rw [wH];exact n0.put (by omega) _
 have kZ:Below w.heap.size w w6:=by rw [wH];exact aj (hB4.trans (h2.mono (by omega))) (by omega)
 have hO:=bf h1 (Go.Cd.aP h1 (k:=w.heap.size+1) (by omega)) 2 (.slice av r.map.length cv);rw [←wH] at hO ⊢;have hO2:=bf (bf (bf hO (Go.Cd.aP hO (k:=w.heap.size) (by omega)) 0 (.int .i32 r.code)) (Go.Cd.aP hO (k:=w.heap.size) (by omega)) 1 (.int .i64 r.cls)) (Go.Cd.aP hO (k:=w.heap.size) (by omega)) 2 (.slice av r.map.length cv);have P:=((p0.set 0 (.int .i32 r.code)).set 1 (.int .i64 r.cls)).set 2 (.slice av r.map.length cv);have v0:=P.at 0 rfl;have v1:=P.at 1 rfl;have v2:=P.at 2 rfl;clear q0 q1 q2 r0 r1 r2 s0 s1 s2;refine bodyPost_ret (v:=.tuple #[.agg #[.int .i32 r.code,.int .i64 r.cls,.slice av r.map.length cv],.string ⟨#[]⟩]) (by simp [results,Tryz.results158,go_sem,v0,v1,v2]) rfl ?_;exact ⟨_,rfl,aW hO2 (by omega),aj (aj (aj kZ (Nat.le_refl _)) (Nat.le_refl _)) (Nat.le_refl _)⟩
end Go.Proofs.YtjidohgiigjifaaGreatDoor
namespace Go.Cd
section
open Go.RowKit
structure U3 (B:Nat) (w:World) where
 tw:World
 ext:Below B w tw
section
variable {B : Nat} {P : Program} {ops : Array Oper} {md : Region.Mode} {head : Array Bool}
def KS (B:Nat) (P:Program) (ops:Array Oper) (Q:Exit→Act→World→Prop) (i:Nat) (K:Act→World→Prop) (a:Act) (w:World):Prop:=
 wpOp P ops (QP Q) i (fun a' w'=>Below B w w'∧K a' w') a w
def MZ (B:Nat) (P:Program) (md:Region.Mode) (ops:Array Oper) (head:Array Bool) (Q:Exit→Act→World→Prop) (T:Array Bool→Act→World→Prop):Nat→Array Bool→Act→World→Prop
 | 0,listed,a,w=>gG head listed=true∧T listed a w
 | n+1,listed,a,w=>Region.ready md ops listed≠[]∧
   ∀i∈Region.ready md ops listed,head.getD i false=true∧KS B P ops Q i (MZ B P md ops head Q T n (listed.setIfInBounds i true)) a w
theorem xC {Q:Exit→Act→World→Prop} {t:Nat}:∀(n:Nat) (listed:Array Bool) (a:Act) (w:World),
 MZ B P md ops head Q (fun l a w=>wpAny P md ops Q t l a w) n listed a w→wpAny P md ops Q (n+t) listed a w
 | 0,_,_,_,h=>by simpa using h.2
 | n+1,listed,a,w,h=>by
   rw [Nat.add_right_comm];refine ⟨fun h0=>absurd h0 h.1,fun i hi=>?_⟩;exact wpOp_mono (fun a' w' h'=>xC n _ a' w' h'.2) (wG (h.2 i hi).2)
def dV (B:Nat) (P:Program) (ops:Array Oper) (w:World) (o:Oper) (v:Value) (a:Act):Prop:=
 (Region.wanted o (yielded ops a.tmps)=true∧∀w',Below B w w'→((execOp a.eval o).run P w'=.ok (.value v) w'∨((execOp a.eval o).run P w'=.ok .skip w'∧v=undef)))∨
 (Region.wanted o (yielded ops a.tmps)=false∧v=undef)
theorem dV.mono {w w':World} {o:Oper} {v:Value} {a:Act} (h:dV B P ops w o v a) (hw:Below B w w'):dV B P ops w' o v a:=
 h.imp (fun ⟨h1,h2⟩=>⟨h1,fun w'' hw''=>h2 w'' (hw.trans hw'')⟩) id
theorem dV.of_same {w:World} {o:Oper} {v:Value} {a a':Act} (hy:dV B P ops w o v a) (he:execOp a'.eval o=execOp a.eval o)
 (hw:Region.wanted o (yielded ops a'.tmps)=Region.wanted o (yielded ops a.tmps)):dV B P ops w o v a':=by
 unfold dV at *;rw [he,hw];exact hy
theorem dV.KS {Q:Exit→Act→World→Prop} {w:World} {i:Nat} {o:Oper} {v:Value} {a:Act} (hi:ops[i]? = some o) (hy:dV B P ops w o v a)
 {K:Act→World→Prop} (h:K (a.put o.dst v) w):KS B P ops Q i K a w:=by
 unfold Cd.KS wpOp;simp only [hi];rcases hy with ⟨hw,hv⟩|⟨hw,rfl⟩
 ·have h1:=hv w (Below.refl _ _);clear hv;rcases h1 with h1|⟨h1,rfl⟩
  ·simp only [hw,if_true,Oper.wp,h1,Oper.upon];exact .inl ⟨Below.refl _ _,h⟩
  ·simp only [hw,if_true,Oper.wp,h1,Oper.upon];exact .inl ⟨Below.refl _ _,h⟩
 ·simp only [hw,Bool.false_eq_true,if_false];exact ⟨Below.refl _ _,h⟩
theorem Rq {Q:Exit→Act→World→Prop} {j:Nat} {oi oj:Oper} {v:Value} (hj:ops[j]? = some oj) (hap:oi.apart ops oj=true)
 (hsi:∀cs b,oi.op≠.select cs b) (hsj:∀cs b,oj.op≠.select cs b)
 {K:Act→World→Prop} {a:Act} {w:World}
 (hy:dV B P ops w oi v a) (h:KS B P ops Q j K (a.put oi.dst v) w) :
 KS B P ops Q j (fun a' w'=>dV B P ops w' oi v a'∧K (a'.put oi.dst v) w') a w:=by
 obtain ⟨h1,h2,h3⟩:=Oper.apart_spec hap;have keep:∀(a:Act),dV B P ops w oi v a→∀u,dV B P ops w oi v (a.put oj.dst u):=fun a hy u=>
  hy.of_same (execOp_put oi hsi a oj.dst u h3) (wanted_put oi a oj.dst u h3)
 have keepD:∀d,dV B P ops w oi v { a with defers:=d::a.defers }:=fun d=>hy.of_same rfl rfl;unfold Cd.KS wpOp at *;simp only [hj] at *;rw [wanted_put oj a oi.dst v h1] at h
 split
 ·rename_i hw;simp only [hw,if_true] at h;rcases h with h|⟨hasks,hlets⟩
  case inr=>exact .inr ⟨by unfold Oper.asks at *;rw [execOp_put oj hsj a oi.dst v h1] at hasks;exact hasks,hlets⟩
  refine .inl ?_;unfold Oper.wp at *;rw [execOp_put oj hsj a oi.dst v h1] at h;generalize (execOp a.eval oj).run P w=r at *;cases r with
  | ok n w'=>
    cases n <;> simp only [Oper.upon] at h ⊢
    case value u=>exact ⟨h.1,(keep a hy u).mono h.1,by rw [←Act.put_comm a v u h2];exact h.2⟩
    case skip=>exact ⟨h.1,(keep a hy _).mono h.1,by rw [←Act.put_comm a v undef h2];exact h.2⟩
    case defer d=>
     refine ⟨h.1,(dV.of_same (keepD d) (execOp_put oi hsi _ oj.dst _ h3) (wanted_put oi _ oj.dst _ h3)).mono h.1,?_⟩;rw [←Act.put_comm _ v undef h2,←Act.put_defers];exact h.2
    case enter f args=>
     refine Calls.mono h fun e w'' he=>?_;cases e with
     | returned u=>exact ⟨he.1,(keep a hy u).mono he.1,by rw [←Act.put_comm a v u h2];exact he.2⟩
     | panicked c=>exact he.elim
     | outgrown=>exact he
    case row row args=>exact Rows.mono h fun u w'' he=>⟨he.1,(keep a hy u).mono he.1,by rw [←Act.put_comm a v u h2];exact he.2⟩
  | halt x w'=>
    cases x <;> simp only [Oper.upon] at h ⊢
    case panic u=>exact h.elim
 ·rename_i hw;simp only [hw] at h;exact ⟨h.1,keep a hy _,by rw [←Act.put_comm a v undef h2];exact h.2⟩
theorem NF {Q:Exit→Act→World→Prop} {i:Nat} {a:Act} {w:World} {K K':Act→World→Prop} (h:∀a w,K a w→K' a w)
 (hh:KS B P ops Q i K a w):KS B P ops Q i K' a w:=wpOp_mono (fun _ _ ⟨h1,h2⟩=>⟨h1,h _ _ h2⟩) hh
theorem AQ {Q:Exit→Act→World→Prop} {T:Array Bool→Act→World→Prop} {i:Nat} {oi:Oper} {v:Value} (hi:ops[i]? = some oi) (hsel:∀(j:Nat) (o:Oper) cs b,ops[j]? = some o→o.op≠.select cs b)
 (hhi:head.getD i false=true) :
 ∀(n:Nat) (listed:Array Bool) (a:Act) (w:World),Closed md ops listed→
  (∀j oj,ops[j]? = some oj→j≠i→listed.getD j true=false→(∀e∈oj.after,Region.binds md e=true→e.on≠i)→(head.getD j false=true∧oi.apart ops oj=true)∨waits md ops i ops.size j=true)→
  i∈Region.ready md ops listed→dV B P ops w oi v a→
  MZ B P md ops head Q T n (listed.setIfInBounds i true) (a.put oi.dst v) w→MZ B P md ops head Q T (n+1) listed a w:=by
 intro n;have key:∀(listed:Array Bool),Closed md ops listed→
  (∀j oj,ops[j]? = some oj→j≠i→listed.getD j true=false→(∀e∈oj.after,Region.binds md e=true→e.on≠i)→(head.getD j false=true∧oi.apart ops oj=true)∨waits md ops i ops.size j=true)→
  i∈Region.ready md ops listed→∀j,j∈Region.ready md ops listed→j≠i→∃oj,ops[j]? = some oj∧listed.getD j true=false∧head.getD j false=true∧oi.apart ops oj=true:=by
  intro listed hcl hfree hr j hj hji;obtain ⟨hjun,oj,hoj,hall⟩:=mem_ready.1 hj;have h0:=(mem_ready.1 hr).1;have hi0:listed.getD i false=false:=by
   rcases Nat.lt_or_ge i listed.size with h'|h'
   ·simp [h'] at h0 ⊢;exact h0
   ·simp [Array.getElem?_eq_none h']
  have hnot:∀e∈oj.after,Region.binds md e=true→e.on≠i:=fun e he hb heq=>by
   have h1:=hall e he hb;rw [heq,hi0] at h1;cases h1
  rcases hfree j oj hoj hji hjun hnot with h|h
  ·exact ⟨oj,hoj,hjun,h.1,h.2⟩
  ·exact absurd hall (ik hcl hi0 _ j oj hoj h)
 induction n with
 | zero=>
   intro listed a w hcl hfree hr hy H;refine ⟨fun h=>(by rw [h] at hr;cases hr),fun j hj=>?_⟩;by_cases hji:j=i
   ·subst hji;exact ⟨hhi,hy.KS hi H⟩
   ·obtain ⟨oj,hoj,hjun,hjh,_⟩:=key listed hcl hfree hr j hj hji;have h2:=fP H.1 hjh;rw [getD_set_ne false (Ne.symm hji)] at h2;rcases Nat.lt_or_ge j listed.size with h'|h'
    ·simp [h'] at hjun h2;rw [hjun] at h2;cases h2
    ·simp [Array.getElem?_eq_none h'] at h2
 | succ n ih=>
   intro listed a w hcl hfree hr hy H;refine ⟨fun h=>(by rw [h] at hr;cases hr),fun j hj=>?_⟩;by_cases hji:j=i
   ·subst hji;exact ⟨hhi,hy.KS hi H⟩
   ·obtain ⟨MW,h1⟩:=H.2 j (ready_mono hj hji);obtain ⟨oj,hoj,hjun,_,hap⟩:=key listed hcl hfree hr j hj hji;have h2:=Rq hoj hap (fun cs b=>hsel i oi cs b hi) (fun cs b=>hsel j oj cs b hoj) hy h1;have hfree':∀k ok,ops[k]? = some ok→k≠i→(listed.setIfInBounds j true).getD k true=false→
     (∀e∈ok.after,Region.binds md e=true→e.on≠i)→(head.getD k false=true∧oi.apart ops ok=true)∨waits md ops i ops.size k=true:=fun k ok hk hki hun hno=>by
     refine hfree k ok hk hki ?_ hno;by_cases hjk:j=k
     ·subst hjk;exact hjun
     ·rw [getD_set_ne true hjk] at hun;exact hun
    refine ⟨MW,NF (fun a' w' h3=>ih (listed.setIfInBounds j true) a' w' (hcl.step hj) hfree' (ready_mono hr (Ne.symm hji)) h3.1 ?_) h2⟩;rw [Array.setIfInBounds_comm _ _ hji];exact h3.2
theorem Cg {Q:Exit→Act→World→Prop} {T:Array Bool→Act→World→Prop} (hs:Region.noSelect ops=true):∀(l:List Nat) (n:Nat) (listed:Array Bool) (a:Act) (w:World),Closed md ops listed→
 (f_ ops l&&iJ md ops head l listed)=true→wpQuiet P ops (fun w'=>∃g:U3 B w,w'=g.tw) (fun a'=>MZ B P md ops head Q T n (bI l listed) a' w) (aQ ops l) a→MZ B P md ops head Q T (n+l.length) listed a w
 | [],n,listed,a,w,_,_,h=>h
 | i::l,n,listed,a,w,hcl,hB,h=>by
   simp only [iJ,f_,List.all_cons,Bool.and_eq_true] at hB;obtain ⟨⟨hfi,hfl⟩,⟨⟨hr,hf⟩,hh⟩,hB'⟩:=hB;cases ho:ops[i]? with
   | none=>rw [ho] at hfi;cases hfi
   | some o=>
     rw [ho] at hfi;simp only at hfi;have hp:aQ ops (i::l)=o::aQ ops l:=by simp [aQ,ho]
     rw [hp] at h;have hB2:(f_ ops l&&iJ md ops head l (listed.setIfInBounds i true))=true:=by simp only [f_,Bool.and_eq_true];exact ⟨hfl,hB'⟩
     simp only [wpQuiet] at h;by_cases hw:Region.wanted o (yielded ops a.tmps)=true
     ·rw [if_pos hw] at h;obtain ⟨v,hv,hK⟩:=h;refine AQ ho (Region.noSelect_spec hs) hh (n+l.length) listed a w hcl (eQ ho hf) (by simpa using hr) (.inl ⟨hw,fun w' hw'=>?_⟩)
       (Cg hs l n _ _ w (hcl.step (by simpa using hr)) hB2 hK)
      have h1:=hv w' ⟨⟨w',hw'⟩,rfl⟩;unfold Oper.quietAt at h1;generalize hrun:(execOp a.eval o).run P w'=r at h1;cases r with
      | ok x w1=>
        cases x <;> simp only [Oper.quietUpon] at h1
        case value u=>rw [h1.1,h1.2];exact .inl rfl
        case skip=>rw [h1.1,h1.2];exact .inr ⟨rfl,rfl⟩
        case enter f args=>exact absurd hrun (qV hfi _ _ _ _)
      | halt x w1=>exact h1.elim
     ·rw [if_neg hw] at h;exact AQ ho (Region.noSelect_spec hs) hh (n+l.length) listed a w hcl (eQ ho hf) (by simpa using hr) (.inr ⟨by simpa using hw,rfl⟩)
       (Cg hs l n _ _ w (hcl.step (by simpa using hr)) hB2 h)
theorem lN {Q:Exit→Act→World→Prop} {T:Array Bool→Act→World→Prop} (l:List Nat) (n:Nat) {m:Nat} {listed:Array Bool} {a:Act} {w:World} (hn:m=n+l.length)
 (hB:((Region.noSelect ops&&nZ md ops listed)&&(f_ ops l&&iJ md ops head l listed))=true) (h:wpQuiet P ops (fun w'=>∃g:U3 B w,w'=g.tw) (fun a'=>MZ B P md ops head Q T n (bI l listed) a' w) (aQ ops l) a):MZ B P md ops head Q T m listed a w:=by
 subst hn;rw [Bool.and_eq_true,Bool.and_eq_true] at hB;exact Cg hB.1.1 l n listed a w (gH hB.1.2) hB.2 h
def QB (B:Nat) (Q:Exit→Act→World→Prop) (w:World) (K:Act→World→Prop):Exit→Act→World→Prop
 | .normal,a,w'=>Below B w w'∧K a w'
 | .panic _,_,_=>False
 | e,a,w'=>Q e a w'
theorem Ew {Q:Exit→Act→World→Prop} {K:Act→World→Prop} {i:Nat} {o:Oper} {a:Act} {w:World} (hi:ops[i]? = some o)
 (h:wpList P ops (QB B Q w K) [o] a w):KS B P ops Q i K a w:=by
 unfold Cd.KS wpOp;simp only [hi];unfold wpList at h
 split
 ·rename_i hw;rw [if_pos hw] at h;rcases h with h|⟨h1,h2⟩
  ·refine .inl ?_;unfold Oper.wp at *;generalize (execOp a.eval o).run P w=r at *;cases r with
   | ok n w'=>
     cases n <;> simp only [Oper.upon] at h ⊢
     case enter f args=>
      refine Calls.mono h fun e w'' he=>?_;cases e with
      | returned u=>exact he
      | panicked c=>exact he
      | outgrown=>exact he
     case row row args=>exact Rows.mono h fun u w'' he=>he
     all_goals exact h
   | halt x w'=>cases x <;> simp only [Oper.upon] at h ⊢;exact h
  ·exact .inr ⟨h1,h2⟩
 ·rename_i hw;rw [if_neg hw] at h;exact h
theorem kJ {Q:Exit→Act→World→Prop} {T:Array Bool→Act→World→Prop} {n:Nat} (i:Nat) {o:Oper} {listed:Array Bool} {a:Act} {w:World} (hB:(Region.ready md ops listed==[i]&&head.getD i false)=true) (hi:nth ops.toList i=some o)
 (h:wpList P ops (QB B Q w (MZ B P md ops head Q T n (listed.setIfInBounds i true))) [o] a w):MZ B P md ops head Q T (n+1) listed a w:=by
 simp only [Bool.and_eq_true,beq_iff_eq] at hB;obtain ⟨hr,hh⟩:=hB;refine ⟨by rw [hr];simp,fun j hj=>?_⟩;rw [hr] at hj;obtain rfl:j=i:=by simpa using hj
 exact ⟨hh,Ew (dG hi) h⟩
theorem abh {Q:Exit→Act→World→Prop} {T:Array Bool→Act→World→Prop} {n:Nat} (i k:Nat) {o u:Oper} {listed:Array Bool} {a:Act} {w:World} (hB:(Region.ready md ops listed==[i,k]&&(head.getD i false&&head.getD k false))=true) (hi:nth ops.toList i=some o) (hk:nth ops.toList k=some u)
 (h:wpList P ops (QB B Q w (MZ B P md ops head Q T n (listed.setIfInBounds i true))) [o] a w) (h':wpList P ops (QB B Q w (MZ B P md ops head Q T n (listed.setIfInBounds k true))) [u] a w):MZ B P md ops head Q T (n+1) listed a w:=by
 simp only [Bool.and_eq_true,beq_iff_eq] at hB;obtain ⟨hr,hh⟩:=hB;refine ⟨by rw [hr];simp,fun j hj=>?_⟩;rw [hr] at hj;simp only [List.mem_cons,List.not_mem_nil,or_false] at hj;rcases hj with rfl|rfl
 ·exact ⟨hh.1,Ew (dG hi) h⟩
 ·exact ⟨hh.2,Ew (dG hk) h'⟩
theorem iM {Q:Exit→Act→World→Prop} {w:World} {K:Act→World→Prop} {a:Act} {w':World} (h1:Below B w w') (h2:K a w'):QB B Q w K .normal a w':=⟨h1,h2⟩
theorem Ex {Q:Exit→Act→World→Prop} (l:List Nat) {listed:Array Bool} {a:Act} {w:World} (hB:(gG head listed&&(Region.noSelect ops&&mW md ops l listed))=true)
 (h:wpList P ops (QP Q) (aQ ops l) a w):MZ B P md ops head Q (fun l' a w=>wpAny P md ops Q l.length l' a w) 0 listed a w:=by
 simp only [Bool.and_eq_true] at hB;exact ⟨hB.1,mX _ _ _ _ (eT hB.2.1 l listed a w hB.2.2 h)⟩
theorem rF (B:Nat) {id:Nat} {Q:Exit→Act→World→Prop} {a:Act} {w:World} {l:List Oper} (head:Array Bool) (n t:Nat) (hm:P.follows .mixedOrders=true) (hn:n+t=l.length)
 (h:MZ B P .any l.toArray head Q (fun l' a w=>wpAny P .any l.toArray Q t l' a w) n (Array.replicate l.length false) a w.drew):(Code.region id l.toArray true).wp P Q a w:=by
 refine wp_region_any hm ?_;have:=xC n _ _ _ h;rw [hn] at this;simpa using this
end
theorem U3.keeps {B:Nat} {w:World} {b o:Nat} {v:Value} (h:w.cell? ⟨b,o,none⟩=some v) (hb:b<B):∀g:U3 B w,g.tw.cell? ⟨b,o,none⟩=some v:=
 fun g=>(g.ext.cell (p:=⟨b,o,none⟩) hb).trans h
end
end Go.Cd
section
namespace Go.Cd
open Go.RowKit
theorem Is.same {W:World} {k:Nat} {cs:Array Value} {T:TypeId} (h:Is W k cs T) (o:Nat) {u:Value} (hu:cs[o]? = some u):W.setCell ⟨k,o,none⟩ u=W:=by
 have h1:=h.at_;have hlt:=h.lt;have e:cs.setIfInBounds o u=cs:=by
  apply Array.ext_getElem?;intro i;rw [Array.getElem?_setIfInBounds];by_cases hi:o=i
  ·subst hi;have:=(Array.getElem?_eq_some_iff.1 hu).1;simp [this];exact ((Array.getElem?_eq_some_iff.1 hu).2).symm
  ·simp [hi]
 unfold World.setCell
 have:(W.heap.modify k fun x=>match x with
  | .cells c elem frozen=>.cells (if (⟨k,o,none⟩:Addr).spot.isSome then c else c.setIfInBounds (⟨k,o,none⟩:Addr).off u) elem frozen
  | o=>o)=W.heap:=by
  apply Array.ext_getElem?;intro i;rw [Array.getElem?_modify];by_cases hi:k=i
  ·subst hi;rw [if_pos rfl,h1];simp [e]
  ·rw [if_neg hi]
 exact congrArg (fun h=>({ W with heap:=h }:World)) this
end Go.Cd
namespace Go.Proofs.YtjidohgiigjifaaGreatDoor
open Go.RowKit Go.Cd Go.Shelf
theorem zK {w:World} {p:Nat} (v:Value) (c:Int) (hp:Is w p #[v,.int .i32 c,.string ⟨#[]⟩] 211) (k:Int) (l:Int) (u:Value) :
 Calls Tryz.prog 159 #[.pointer (some ⟨p,0,none⟩),.string ⟨#[88]⟩,.agg #[.int .i32 k,.int .i64 l,u]] w fun e w'=>e=.returned (.bool true)∧Below w.heap.size w w':=by
 have C1:=ae (show ∀W,Calls Tryz.prog 186 #[.string ⟨#[88]⟩,.string ⟨#[44,32,70,105,114,115,116,62]⟩] W fun e w'=>e=.returned (.tuple #[.string ⟨#[88]⟩,.bool false])∧w'=W from fun W=>
  Tryz.strings_CutSuffix ⟨#[88]⟩ ⟨#[44,32,70,105,114,115,116,62]⟩ W (by decide))
 have C2:=ae (show ∀W,Calls Tryz.prog 186 #[.string ⟨#[88]⟩,.string ⟨#[44,32,76,97,115,116,62]⟩] W fun e w'=>e=.returned (.tuple #[.string ⟨#[88]⟩,.bool false])∧w'=W from fun W=>
  Tryz.strings_CutSuffix ⟨#[88]⟩ ⟨#[44,32,76,97,115,116,62]⟩ W (by decide))
 obtain ⟨w1,hw1⟩:=af (w.alloc (.cells #[.int .i32 k,.int .i64 l,u] 164));have hB1:Below w.heap.size w w1:=by rw [hw1];exact ai _
 have p1:=hp.mono hB1;have e1:=p1.at 2 rfl;have d1:=p1.frozen 2;have z:(⟨#[]⟩:ByteArray).toList.isEmpty=true:=by rw [Lib.toList_data];rfl
 have hid:=ae (p1.same 2 (u:=.string ⟨#[]⟩) rfl);go_enter Tryz.func159,Tryz.ntmps159;go_wp2_with fail;rw [←hw1];clear hw1;refine (C1.out w1).mono ?_;rintro e w2 ⟨rfl,rfl⟩;go_wp2_with fail;refine (C2.out _).mono ?_;rintro e w3 ⟨rfl,rfl⟩;go_wp2;go_ret;rw [hid.out];exact ⟨rfl,hB1⟩
theorem xD {P:Program} {W:World} {ops:Array Oper} {rest:List Oper} {o:Oper} {a:Act} {Q:Exit→Act→World→Prop} (hgd:o.guard=none) (s x:Operand) (t:TypeId)
 (ho:o.op=.call { callee:=.builtin .append,args:=#[s,x],argTypes:=#[t,t] })
 (base:Nat) (e:TypeId) (z:Value) (size bytes:Nat) (hE:lF P t e z size bytes) (hs0:0<size) (aaa:bytes≤100000)
 (v:Value) (n:Nat) (xs:List Value) (hs:a.eval s=v) (hown:W.ownsRow base e size v n xs)
 (us:Array Value) (hx:a.eval x=.slice (some ⟨W.heap.size,0,none⟩) 1 1) (Nn:us.size=size) (h1:∀u∈us.toList,u.oneCell'=true)
 (hn:n<1000000) (hbase:base≤W.heap.size)
 (h:∀v' w',w'.ownsRow base e size v' (n+1) (xs++us.toList)→Below base (W.alloc (.cells us e)) w'→(W.alloc (.cells us e)).grownBy w' v.ownBlock→wpList P ops Q rest (a.put o.dst v') w') :
 wpList P ops Q (o::rest) a (W.alloc (.cells us e)):=by
 obtain ⟨hzs,ht,i,hi,hz,hsize,hby⟩:=hE;have hown2:=hown.alloc (.cells us e);have hnews:∀(j:Nat) (u:Value),us.toList[j]? = some u→(W.alloc (.cells us e)).cell? ((⟨W.heap.size,0,none⟩:Addr).add j)=some u:=by
  intro j u hj;have e0:(⟨W.heap.size,0,none⟩:Addr).add j=⟨W.heap.size,j,none⟩:=by unfold Addr.add;split <;> simp_all
  rw [e0];unfold World.cell?;rw [heap_alloc_new];simpa using hj
 have hmax:n+1≤maxLen:=by unfold maxLen;omega
 have hl1:us.toList.length=1*i.size:=by rw [hsize,Nat.one_mul];simpa using Nn
 have hbb:(n+1)*bytes≤140737488355328:=by
  have:(n+1)*bytes≤1000000*100000:=Nat.mul_le_mul (by omega) aaa;omega
 obtain ⟨v',w',hr,h2,h3,_⟩:=run_append_own (P:=P) (W.alloc (.cells us e)) base t o.type e i z size bytes ht hi hz hsize hby hzs hs0 v n xs hown2
  ⟨W.heap.size,0,none⟩ 1 1 us.toList (by rw [hl1,hsize]) hnews h1 hmax hbb (by simp;omega)
 refine Lib.wpList_append_run _ hgd s x _ _ ho v _ hs hx v' w' hr ?_;exact h v' w' h2 ((Below.refl _ _).grown h3 (by simp;omega) (fun k hk=>(hown.lt k hk).1)) h3
abbrev fE:TypeId:=164
theorem Ey:lF Tryz.prog 123 fE (.agg #[.int .i32 0,.int .i64 0,.slice none 0 0]) 3 40:=⟨rfl,Tryz.underlying123,info_parts (by kernel_rfl)⟩
def dB (x:aF×Value):List Value:=[.int .i32 x.1.code,.int .i64 x.1.cls,x.2]
theorem xE (x:aF×Value):(dB x).length=3:=rfl
theorem Sl.U4 {e T:TypeId} {w w':World} {v u:Value} {xs ys:List Value} {base size n:Nat} (h:Sl e w v xs) (ho:w.ownsRow base T size u n ys) (hT:T≠e) (hg:w.grownBy w' u.ownBlock):Sl e w' v xs:=by
 obtain ⟨a,cap,hv,hc,h⟩:=h;refine ⟨a,cap,hv,hc,h.imp id ?_⟩;rintro ⟨b,off,cs,fr,ha,hh,hx⟩;refine ⟨b,off,cs,fr,ha,(hg.block b (block_lt hh) fun e1=>?_).trans hh,hx⟩;rcases ho.2 with ⟨h1,_⟩|⟨g,_,cur,h1,_,h2,_⟩
 ·rw [h1] at e1;cases e1
 ·rw [h1] at e1;cases e1;rw [hh] at h2;cases h2;exact hT rfl
def fH (v:Value):Prop:=∃a n cap,v=.slice a n cap∧(a=none∨∃b off,a=some ⟨b,off,none⟩)
theorem fH.aT {w:World} {base size n:Nat} {e:TypeId} {v:Value} {xs:List Value} (h:w.ownsRow base e size v n xs):fH v:=by
 rcases h.2 with ⟨rfl,_⟩|⟨g,cap,cur,rfl,_⟩
 ·exact ⟨none,0,0,rfl,.inl rfl⟩
 ·exact ⟨_,n,cap,rfl,.inr ⟨g,0,rfl⟩⟩
structure AR (w:World) (p:Nat) (L:List (aF×Value)) (last:Int) (o:List UInt8):Prop where
 cells:∃v,Is w p #[v,.int .i32 last,.string (tx o)] 211∧w.ownsRow (p+1) fE 3 v L.length (L.flatMap dB)
 maps:∀x∈L,Sl aM w x.2 (aN x.1.map)∧fH x.2
theorem Ez {w:World} {p:Nat} (hG:bZ w) {L:List (aF×Value)} {last:Int} (hR:AR w p L last []) (r:aF) (hr:xA r) (hlt:last<r.code) (xG:r.cls≠0∨r.map≠[]) (hch:aX r.code) (hL:L.length<100000) :
 Calls Tryz.prog 127 #[.pointer (some ⟨p,0,none⟩),.string (tx (dL [88] r))] w fun e w'=>e=.returned (.string ⟨#[]⟩)∧Below p w w'∧w.heap.size≤w'.heap.size∧∃v,AR w' p (L++[(r,v)]) r.code []:=by
 obtain ⟨⟨ov,hp,ho⟩,hM⟩:=hR;have hpl:=hp.lt;have hnm:=(mG.row).name;have SP:=ae (pG hG (eX [88] r) rfl (fun q hq h=>(xh hnm.2 hr.cls q hq _ h).2 rfl) (NU hnm.2 hr.cls hr.len));clear hnm;obtain ⟨s,hs⟩:=af (tx (dL [88] r));have hs':tx (bu 59 (eX [88] r))=s:=hs.symm;rw [hs'] at SP;rw [←hs];clear hs hs';have RW:=ae (fun (W:World) (h:bZ W) (k:Nat) (hk:Is W k ((eX [88] r).map fun l=>Value.string (tx l)).toArray 9)=>xB h (by simp) r hr hk);obtain ⟨oa,oc,rfl,_,_⟩:=az ho;have HM:=ae (fun x hx=>(hM x hx).1);have HPV:=ae (fun x hx=>(hM x hx).2);have HO:=ae ho;have hcd:=hr.code;clear hM ho;go_enter Tryz.func127,Tryz.ntmps127;go_wp2_with fail;refine SP.out.mono ?_;rintro e w1 ⟨rfl,hw1⟩;have hB1:Below w.heap.size w w1:=by rw [hw1];exact ai _
 have q1:Is w1 w.heap.size ((eX [88] r).map fun l=>Value.string (tx l)).toArray 9:=by rw [hw1];exact Is.new _ _ _
 have p1:=hp.mono hB1;have hz1:w1.heap.size=w.heap.size+1:=by rw [hw1];simp
 clear hw1 SP hp;go_wp2_with fail;refine (RW.out _ (hG.mono hB1) _ q1).mono ?_;rintro e w2 ⟨mv,rfl,hmv,hB2⟩;have q2:w2.cell? ⟨w.heap.size,1,none⟩=some (.string (tx [88])):=(q1.mono hB2).at 1 rfl;have p2:=p1.mono hB2;have hBw2:=ag hB1 hB2;obtain ⟨ma,mc,rfl,_,_⟩:=az hmv;have hpv:=fH.aT hmv;obtain ⟨mn,G6⟩:=af r.map.length;have ko:=hr.len;rw [←G6] at hmv ko ⊢;have ED:r.cls≠0∨mn≠0:=xG.imp id fun h e=>h (List.length_eq_zero_iff.1 (G6▸e));have HMN:=ae G6;have ab9:=ae hpv;clear hpv;obtain ⟨c,hc⟩:=af r.code;obtain ⟨l,hl⟩:=af r.cls;rw [←hc] at hlt hcd hch ⊢;rw [←hl] at ED ⊢;have HC:=ae hc;have U5:=ae hl;clear G6 hc hl q1 xG p1 RW;obtain ⟨w3,hw3⟩:=af (w2.alloc (.cells #[.int .i32 (c:Nat),.int .i64 (l:Nat),.slice ma mn mc] 164));have hB3:Below w2.heap.size w2 w3:=by rw [hw3];exact ai _
 have b3:Is w3 w2.heap.size #[.int .i32 (c:Nat),.int .i64 (l:Nat),.slice ma mn mc] 164:=by rw [hw3];exact Is.new _ _ _
 have p3:=p2.mono hB3;have q3:=aA hB3 q2;go_upto_region 5 with fail;rw [←hw3];have hBw3:=ag hBw2 hB3;have hX:=hB3;have hz3:w3.heap.size=w2.heap.size+1:=by rw [hw3];simp
 have hz2:=hB2.size;clear hw3 hB3 hBw2;have zl:decide ((c:Int)≤last)=false:=by simp;omega
 have g1:=Gr.cell (ah w3) (b3.at 0 rfl);have g2:=Gr.cell (ah w3) (p3.at 1 rfl);refine aD (Array.replicate 8 true) 8 0 mixed (by rfl) ?_;refine ay [0,1,2,3,4,5,6,7] 0 rfl (by kernel_rfl) ?_
 iterate 8 (refine aC rfl ?_;go_big_quiet_step (rfl))
 refine ak ?_;refine aI [] (by kernel_rfl) ?_;refine tail_nil ?_;clear g1 g2;have b4:=b3.mono (ah w3);have p4:=p3.mono (ah w3);have q4:=aA (ah w3) q3;have hB4:=ag hBw3 (ah w3)
 replace hX:=ag hX (ah w3)
 have Rp:w3.drew.heap.size=w2.heap.size+1:=hz3;generalize w3.drew=w4 at *;go_upto_region 7 with fail;have RG:=ae (fun (W:World) (E:Below w4.heap.size w4 W)=>zK (w:=W) _ _ (p4.mono E) c l (.slice ma mn mc));have g0:=Gr.cell (ah w4) q4;have g1:=Gr.cell (ah w4) (b4.at 0 rfl);have g2:=Gr.cell (ah w4) (b4.at 1 rfl);have g3:=Gr.cell (ah w4) (b4.at 2 rfl);refine aD (Array.replicate 8 true) 8 0 mixed (by rfl) ?_;refine ay [0,1,2,3,4] 3 rfl (by kernel_rfl) ?_
 iterate 5 (refine aC rfl ?_;go_big_quiet_step (rfl))
 refine ak ?_;refine aL 5 (by kernel_rfl) rfl ?_;go_wp2_with fail;refine (RG.out _ (ah w4)).mono ?_;rintro e w5 ⟨rfl,qQ⟩;go_wp2_with fail;refine aH qQ ?_;refine ay [6,7] 0 rfl (by kernel_rfl) ?_
 iterate 2 (refine aC rfl ?_;go_big_quiet_step (rfl))
 refine ak ?_;refine aI [] (by kernel_rfl) ?_;refine tail_nil ?_;have kV:=ag (ah w4) qQ;have b5:=b4.mono kV;have p5:=p4.mono kV;have NG:=ag hB4 kV
 replace hX:=ag hX kV
 have Xe:w2.heap.size+1≤w5.heap.size:=by have:=kV.size;omega
 clear g0 g1 g2 g3 b4 p4 q4 b3 p3 q3 RG qQ kV hz3 Rp hB4 hBw3;have UI:=ae (jF (w:=w5) c (by omega));have hct:decide (aX c)=true:=decide_eq_true hch;rw [hct] at UI;have e0:=b5.at 0 rfl;have d1:=p5.frozen 1;have e1:=p5.at 1 rfl;go_upto_region 12 with (go_at_call 81;refine UI.out.mono ?_;rintro e w6 ⟨rfl,rfl⟩);have hpw:p≠w2.heap.size:=by have:=hB1.size;omega
 obtain ⟨w7,hw7⟩:=af (w6.setCell ⟨p,1,none⟩ (.int .i32 (c:Nat)));rw [←hw7];have b7:Is w7 w2.heap.size #[.int .i32 (c:Nat),.int .i64 (l:Nat),.slice ma mn mc] 164:=by rw [hw7];exact b5.put (Ne.symm hpw) _
 have p7:Is w7 p #[.slice oa L.length oc,.int .i32 (c:Nat),.string ⟨#[]⟩] 211:=by rw [hw7];exact p5.set 1 _
 have hB7:Below p w w7:=by rw [hw7];exact aj (NG.mono (by omega)) (Nat.le_refl _)
 have O5:=aG HO.out NG;have O7:w7.ownsRow (p+1) fE 3 (.slice oa L.length oc) L.length (L.flatMap dB):=by rw [hw7];exact bf O5 (Go.Cd.aP O5 (k:=p) (by omega)) 1 _
 have M7:∀x∈L,Sl aM w7 x.2 (aN x.1.map):=fun x hx=>by rw [hw7];exact ((HM.out x hx).mono NG).put p5.at_ (by decide)
 have V7:Sl aM w7 (.slice ma mn mc) (aN r.map):=by rw [hw7];exact ((Sl.aT hmv).mono hX).put p5.at_ (by decide)
 have hz7:w7.heap.size=w6.heap.size:=by rw [hw7];simp
 have hzw:w.heap.size≤w6.heap.size:=NG.size;have HM7:=ae M7;have HV7:=ae V7;have HO7:=ae O7;clear hw7 hX NG b5 p5 e0 d1 e1 UI O5 O7 M7 V7 hmv p2 hB1 hB2 q2;have PL:=ae (Ev (w:=w7) c l mn mc ma ED);have e0:=b7.at 0 rfl;have e1:=b7.at 1 rfl;have e2:=b7.at 2 rfl;go_upto_region 13 with (go_at_call 160;refine PL.out.mono ?_;rintro e w8 ⟨rfl,U6⟩);clear e0 e1 e2 PL;have b8:=(b7.mono U6).mono (ah w8);have p8:=(p7.mono U6).mono (ah w8);have vk:=ag U6 (ah w8);have g0:=U3.keeps (B:=p+1) (p8.at 0 rfl) (Nat.lt_succ_self p);refine rF (p+1) #[true,true,true,true,true,true,true,true,true,true,false] 10 1 mixed (by rfl) ?_;refine lN [0,1,2,3,4] 5 rfl (by kernel_rfl) ?_
 iterate 5 (refine aC rfl ?_;go_big_quiet_step (rfl))
 refine ak ?_;refine kJ 5 (by kernel_rfl) rfl ?_;have e0:=b8.at 0 rfl;have e1:=b8.at 1 rfl;have e2:=b8.at 2 rfl;go_wp2_with fail;refine iM (Below.refl _ _) ?_;clear e0 e1 e2;refine kJ 6 (by kernel_rfl) rfl ?_;go_wp2_with fail;have hzp:p+1≤w8.drew.heap.size:=Nat.le_trans (by omega) vk.size;refine iM ((ai _).mono hzp) ?_;refine kJ 7 (by kernel_rfl) rfl ?_;refine xD (W:=w8.drew) rfl _ _ 123 rfl (p+1) fE _ 3 40 Ey (by decide) (by decide) (.slice oa L.length oc) L.length (L.flatMap dB) rfl (aG HO7.out vk) _ rfl rfl (by simp [Value.oneCell']) (by omega) hzp ?_;intro v1 w9 o9 sV y9;obtain ⟨na,nc,rfl,_,_⟩:=az o9;go_wp2_with fail;refine iM sV ?_;refine lN [8,9] 0 rfl (by kernel_rfl) ?_
 iterate 2 (refine aC rfl ?_;go_big_quiet_step (rfl))
 refine ak ?_;have p9:=(p8.mono (ai _)).low sV (Nat.lt_succ_self p);have e1:=p9.at 0 rfl;have d1:=p9.frozen 0;refine Ex [10] (by kernel_rfl) ?_;refine tail_cons rfl ?_;go_wp2_with fail;refine tail_nil ?_;go_wp2;go_ret;have EE:=ag vk (ai (w:=w8.drew) (.cells #[.int .i32 (c:Nat),.int .i64 (l:Nat),.slice ma mn mc] fE));have OA:=aG HO7.out EE;have keep:∀{v:Value} {xs:List Value},Sl aM w7 v xs→Sl aM (w9.setCell ⟨p,0,none⟩ (.slice na (L.length+1) nc)) v xs:=fun h=>Go.Cd.Sl.put (Sl.U4 (Go.Cd.Sl.mono h EE) OA (by decide) y9) p9.at_ (by decide);have aca:Below p w (w9.setCell ⟨p,0,none⟩ (.slice na (L.length+1) nc)):=aj ((hB7.trans (EE.mono (by omega))).trans (sV.mono (Nat.le_succ p))) (Nat.le_refl _);refine ⟨rfl,aca,?_,.slice ma mn mc,⟨⟨.slice na (L.length+1) nc,?_,?_⟩,?_⟩⟩
 ·have:=sV.size;have:=vk.size;simp only [World.size_setCell,World.size_alloc] at *;omega
 ·rw [←HC.out];exact p9.set 0 _
 ·have:=bf o9 (Go.Cd.aP o9 (k:=p) (by omega)) 0 (.slice na (L.length+1) nc);rw [List.length_append,List.flatMap_append];have e1:List.flatMap dB [((r,.slice ma mn mc):aF×Value)]=[.int .i32 (c:Nat),.int .i64 (l:Nat),.slice ma mn mc]:=by rw [HC.out,U5.out];rfl
  rw [e1];exact this
 ·intro x hx;rcases List.mem_append.1 hx with hx|hx
  ·exact ⟨keep (HM7.out x hx),HPV.out x hx⟩
  ·rw [List.mem_singleton.1 hx];exact ⟨keep HV7.out,by rw [HMN.out];exact ab9.out⟩
end Go.Proofs.YtjidohgiigjifaaGreatDoor
end
