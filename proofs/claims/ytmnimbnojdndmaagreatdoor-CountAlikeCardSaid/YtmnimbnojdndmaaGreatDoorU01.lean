/- Texts that are alike cost, and count, the same; no condition. -/
import Derived.Lib.Hide
import Derived.Below
import Derived.Calls
import Derived.ChangeArms
import Derived.Deep.Draws
import Derived.Deep.QuietTactic
import Derived.IntWalk
import Derived.Laws.AppendOwn
import Derived.Laws.Bits64
import Derived.Laws.BitsLemmas
import Derived.Laws.Entries
import Derived.Laws.Rows
import Derived.Laws.Sem
import Derived.Laws.Strings
import Derived.Laws.World
import Derived.Lib.AppendZeros
import Derived.Lib.Strings
import Derived.MakeChecks
import Derived.MapKept
import Derived.Maps.Keyed
import Derived.Orders
import Derived.RangeFuncRecord
import GoSem.Core.Value
import Derived.Deep.Quiet
import Derived.Tactics
import Derived.Test.YtmnimbnojdndmaaGreatDoorRows
import Derived.WalkKit
import Derived.WalkSpells
import Derived.WalkLawsBesides
import Derived.BigQuiet
import Derived.Laws.AppendOwnNone
set_option maxRecDepth 100000
set_option maxHeartbeats 6400000
set_option linter.all false
def aa {p:Prop} (h:p):Go.RowKit.Hid p:=h
def ae {a:Sort _} (x:a):∃y,y=x:=⟨x,rfl⟩
def d':=@List.length_append
def gw:=@Nat.le_refl
def gx:=@List.getElem_mem
def gA:=@List.getElem?_eq_getElem
def gC:=@List.mem_singleton
def gE:=@List.take_succ_eq_append_getElem
def gO:=@Go.RowKit.Below.refl
def gR:=@List.mem_append
def gS:=@Nat.le_trans
def gW:=@Nat.zero_le
def hU:=@List.length_cons
def ia:=@List.length_map
def ic:=@List.getD_eq_getElem?_getD
def ie:=@List.take_of_length_le
def im:=@List.length_eq_zero_iff
def ir:=@List.getElem?_eq_some_iff
def iu:=@Go.World.ownsRow_nil
def iz:=@List.drop_eq_getElem_cons
def iJ:=@List.mem_filter
def iR:=@List.flatMap_cons
def iS:=@List.length_take
def i_:=@Go.RowKit.Below.heap_setCell
def jf:=@List.mem_cons
def jj:=@List.flatMap_append
def jn:=@Bool.and_eq_true
def js:=@List.map_append
def jt:=@Array.getElem?_eq_some_iff
def ju:=@Go.Calls.quiet_of_same
def jx:=@List.mem_map
def jz:=@List.length_pos_iff
def j5:=@Go.World.drewN_drewN
def j7:=@List.getElem?_append_right
def j8:=@Go.IntWalk.i64_in
def j9:=@Nat.lt_of_lt_of_le
def j':=@Nat.lt_or_ge
def kc:=@List.append_assoc
def ke:=@List.take_append_drop
def kf:=@Nat.pow_le_pow_right
def kh:=@Nat.zero_add
def ki:=@List.length_nil
def kj:=@List.mem_cons_of_mem
def kl:=@List.mem_append_left
def km:=@List.not_mem_nil
def kn:=@List.getElem?_append_left
def kp:=@Array.getElem?_eq_none
def ks:=@List.nil_append
def kt:=@List.map_cons
def kB:=@Nat.add_sub_cancel_left
def kO:=@List.take_length
def k_:=@List.set_append_right
def ld:=@List.cons_append
def lf:=@Nat.lt_of_le_of_lt
def lj:=@Go.Region.noSelect_spec
def lk:=@List.pairwise_append
def lp:=@List.length_filter_le
def lr:=@List.all_eq_true
def lz:=@List.mem_of_mem_drop
def lA:=@List.mem_of_getElem?
def lB:=@List.mem_iff_getElem
def lE:=@List.append_nil
def lO:=@Go.World.size_setCell
def lP:=@List.mem_flatMap
def lR:=@Bool.or_eq_true
def l3:=@Nat.add_mul
def l4:=@List.getLast?_concat
def me:=@Nat.pow_succ
def mm:=@Array.getElem?_toList
def mu:=@List.mem_of_find?_eq_some
def mw:=@List.map_congr_left
def mx:=@Nat.mod_lt
def my:=@Nat.div_div_eq_div_mul
def mz:=@List.pairwise_cons
def mB:=@List.map_map
def mL:=@Option.some.inj
def mN:=@List.length_set
def mS:=@Nat.mul_comm
def mT:=@List.mem_append_right
def m_:=@Nat.sub_self
def nd:=@Go.World.putObj_heap_other
def nf:=@List.getElem_map
def nh:=@Nat.mul_le_mul_right
def nj:=@List.mem_range
def ns:=@Go.World.size_alloc
def nu:=@Nat.le_of_lt
def nB:=@List.sublist_flatten_of_mem
def nE:=@List.getElem?_map
def nF:=@Go.World.cell?_of_block
def n7:=@List.mem_cons_self
def n8:=@List.filter_append
def oe:=@Array.replicate_zero
def ot:=@Array.replicate_succ
def ox:=@List.foldl_cons
def oy:=@Option.getD_some
def oB:=@Nat.and_two_pow_sub_one_eq_mod
def oE:=@List.foldlM_cons
def oR:=@List.append_toArray
def oS:=@List.eq_nil_of_length_eq_zero
def oT:=@Int.toNat_natCast
def oX:=@List.eq_nil_or_concat
def pd:=@List.sum_cons
def pf:=@List.cons.injEq
def ph:=@Go.Lib.toList_data
def pj:=@Nat.le_succ
def ps:=@List.length_drop
def pt:=@Go.IntKind.wrap_u64
def pw:=@Go.IntKind.wrap_i64
def px:=@Ne.symm
def py:=@List.size_toArray
def pz:=@List.push_toArray
def pA:=@List.Sublist.length_le
def pB:=@Int.tmod_eq_emod_of_nonneg
def pC:=@Go.Act.put_comm
def pD:=@List.getElem?_eq_none
def pH:=@Nat.eq_zero_or_pos
def pN:=@Nat.div_eq_of_lt
def pP:=@Bool.false_eq_true
def pR:=@BitVec.toNat_ofInt
def pS:=@Array.ext_getElem?
def pT:=@Nat.mul_le_mul
def pZ:=@Nat.lt_trichotomy
def p6:=@List.filter_cons_of_pos
def qe:=@List.filter_cons_of_neg
def qk:=@Nat.min_eq_left
def qq:=@List.dropLast_concat_getLast
def qs:=@Array.getElem?_setIfInBounds
def qt:=@List.filter_eq_self
def qu:=@List.drop_eq_nil_of_le
def qK:=@Nat.mul_one
def qS:=@Nat.mul_assoc
def qT:=@List.drop_length
def q_:=@List.length_singleton
def re:=@List.pairwise_iff_getElem
def rh:=@List.mem_or_eq_of_mem_set
def ri:=@List.getLastD_eq_getLast?
def rj:=@Array.getElem?_eq_getElem
def rk:=@Nat.le_succ_of_le
def rl:=@List.mem_of_mem_take
def rm:=@List.foldl_append
def rp:=@List.dropLast_concat
def rB:=@Array.getElem_toList
def rF:=@List.getElem_append_left
def rG:=@Array.setIfInBounds_comm
def rH:=@List.getElem_of_mem
def rI:=@Nat.mod_eq_of_lt
def rK:=@List.pairwise_singleton
def rL:=@List.getLast?_eq_some_getLast
def rN:=@List.set_cons_zero
def rS:=@List.drop_of_length_le
def se:=@Go.Calls.mono
def sf:=@Go.Oper.apart_spec
def sg:=@List.sum_append
def so:=@List.singleton_append
def sq:=@Go.Lib.wpList_append_run
def sr:=@Array.getElem?_modify
def su:=@Nat.one_mul
def sx:=@List.getElem?_set_ne
def sy:=@Bool.or_eq_false_iff
def sA:=@Array.getElem_modify
def sB:=@Nat.lt_succ_self
def sC:=@Nat.le_of_not_lt
def sE:=@Nat.add_zero
def sR:=@List.map_nil
def sS:=@List.flatMap_map
def sT:=@BitVec.toNat_and
def sX:=@List.getLast?_eq_getElem?
def sY:=@Nat.mul_le_mul_left
def s_:=@List.mem_map_of_mem
def td:=@Array.length_toList
def te:=@Nat.add_assoc
def tf:=@List.range_succ
def tg:=@Nat.add_sub_cancel
def th:=@Nat.pow_pos
def ti:=@Nat.mul_add
def tj:=@List.map_id
def tl:=@List.getElem?_cons_succ
def tm:=@Go.Value.slice.injEq
def tp:=@Go.MapKept.run_getObj_map
def tt:=@List.map_set
def tz:=@List.getElem_cons_zero
def tA:=@List.getElem?_set_self
def tB:=@List.filter_eq_nil_iff
def tD:=@List.getElem?_toArray
def tE:=@List.map_toArray
def tG:=@Go.Sem.run_bind'
def tI:=@Nat.lt_irrefl
def tM:=@Nat.div_lt_of_lt_mul
def tR:=@List.getLastD_concat
def tS:=@List.dropLast_subset
def tU:=@Nat.not_lt_zero
def tW:=@Nat.div_le_self
def t_:=@List.nodup_cons
def ue:=@List.find?_some
def ur:=@Bool.eq_iff_iff
def ux:=@List.flatten_append
def uJ:=@Go.ByteArray.toList_eq
def vb:=@Nat.zero_mul
def vd:=@Nat.mul_lt_mul_of_pos_right
def vf:=@Nat.add_right_comm
def vh:=@List.set_cons_succ
def vi:=@List.setIfInBounds_toArray
def vj:=@List.getElem?_take
def vm:=@Int.tmod_lt_of_pos
def vp:=@Go.DataW.trod_int
def vq:=@Go.World.cell?_setCell_same'
def vr:=@List.getLast?_eq_some_iff
def vt:=@List.getElem_append_right
def vu:=@Nat.add_mod
def vA:=@List.take_add_one
def we:=@List.getElem_take
def wg:=@List.flatten_cons
def wj:=@Option.isSome_iff_exists
def wm:=@List.eq_of_mem_replicate
def wt:=@ByteArray.ext
def wv:=@Array.size_setIfInBounds
def xb:=@Go.World.block_lt_of_cell?
def xd:=@List.getElem?_cons_zero
def xf:=@Go.IntKind.wrap_i32
def xi:=@Nat.ne_of_lt
def xj:=@Nat.add_comm
def xm:=@List.getElem_cons_succ
def xo:=@Int.not_lt
def xp:=@Option.map_some
def xr:=@Nat.one_ne_zero
def xt:=@Nat.mod_add_div
def xA:=@Nat.div_lt_self
def xB:=@Nat.div_add_mod
def xF:=@Int.natCast_mul
def xT:=@List.length_replicate
def x3:=@List.countP_le_length
def x4:=@List.concat_eq_append
def x5:=@Nat.add_mul_div_left
def x6:=@List.set_append_left
def x7:=@Bool.false_and
def yd:=@List.getElem_set_ne
def ye:=@List.drop_succ_cons
def yi:=@Nat.pow_succ'
def yk:=@List.map_singleton
def yp:=@List.getElem?_drop
def yq:=@Go.wpList_load_row
def yr:=@Array.any_eq_true'
def yy:=@Option.some.injEq
def yW:=@Nat.lt_trans
def zf:=@Nat.le_of_eq
def zr:=@Go.Maps.Keyed.of_law
def zt:=@List.pairwise_map
def zv:=@List.any_eq_false
def zy:=@Array.all_eq_true_iff_forall_mem
def zE:=@Nat.shiftLeft_eq
def zF:=@List.zipIdx_cons
def zX:=@List.countP_cons
def Ai:=@Int.natCast_ediv
def An:=@Nat.shiftLeft_add_eq_or_of_lt
def As:=@Nat.div_one
def Ax:=@Go.Value.agg.injEq
def AF:=@List.zipIdx_nil
def AG:=@List.getLast?_cons_of_ne_nil
def AI:=@Nat.mod_mul_right_div_self
def AK:=@List.take_take
def AM:=@List.tail_append_of_ne_nil
def AN:=@List.drop_drop
def AS:=@Int.tdiv_eq_ediv_of_nonneg
def A0:=@Int.ofNat_tmod
def A1:=@Bool.and_false
def A2:=@Array.mk.injEq
def A3:=@Go.World.cell?_setCell_other
def A4:=@Go.MakeChecks.laidMetH_plain
namespace Go.Cd
section
open Go.RowKit
def AO (w:World):Below w.heap.size w w:=gO _ _
def af {a b c:World} (h:Below a.heap.size a b) (k:Below b.heap.size b c):Below a.heap.size a c:=h.trans (k.mono h.size)
structure Gr (w:World) where
 tw:World
 ext:Below w.heap.size w tw
section
variable {P : Program} {ops : Array Oper} {md : Region.Mode} {head : Array Bool}
variable {Q:Exit->Act->World->Prop} {i:Nat} {a:Array Bool} {w:World} {ρ:Operand->Value} {o:Oper}
def QP (Q:Exit->Act->World->Prop):Exit->Act->World->Prop
 | .panic _,_,_=>False
 | e,a,w=>Q e a w
def Am {a:Act} {K:Act->World->Prop} (b:wpOp P ops (QP Q) i K a w):wpOp P ops Q i K a w:=by
 unfold wpOp at *
 split
 ·rename_i d;simpa only[d] using b
 rename_i o d;simp only[d] at b
 split
 ·rename_i g;simp only[g,if_true] at b;rcases b with b|⟨j,l⟩
  ·refine .inl ?_;unfold Oper.wp at *;generalize (execOp a.eval o).run P w=r at *;cases r with
   | ok n w'=>
     cases n <;> simp only[Oper.upon] at b⊢
     case enter f args=>
      refine se b λe k h=>?_;cases e with
      | returned u=>exact h
      | panicked c=>exact h.elim
      | outgrown=>exact h
     all_goals exact b
   | halt x w'=>cases x <;> simp only[Oper.upon] at b⊢;exact b.elim
  exact .inr ⟨j,l⟩
 rename_i g;simpa only[g,if_false,pP] using b
def kZ (head listed:Array Bool):Bool:=(List.range head.size).all λi=>!head.getD i false||listed.getD i false
def jH {head:Array Bool} (h:kZ head a=true) (c:head.getD i false=true):a.getD i false=true:=by
 have b:i<head.size:=by
  rcases j' i head.size with h'|h'
  ·exact h'
  simp[kp h'] at c
 have:=lr.1 h i (nj.2 b);rw[c] at this;simpa using this
def Closed (md:Region.Mode) (ops:Array Oper) (listed:Array Bool):Prop:=
 ∀j o,ops[j]? = some o->listed.getD j false=true->∀e∈o.after,Region.binds md e=true->listed.getD e.on false=true
def waits (md:Region.Mode) (ops:Array Oper) (i:Nat):Nat->Nat->Bool
 | 0,_=>false
 | n+1,j=>match ops[j]? with
   | some o=>o.after.any (λe=>Region.binds md e&&e.on==i)||o.after.any (λe=>Region.binds md e&&waits md ops i n e.on)
   | none=>false
def lh (k:Closed md ops a) (l:a.getD i false=false):∀(n j:Nat) (d:Oper),ops[j]? = some d->waits md ops i n j=true->
 ¬∀e∈d.after,Region.binds md e=true->a.getD e.on false=true
 | 0,_,_,_,h=>by cases h
 | n+1,j,d,hj,h=>by
   intro c;simp only[waits,hj,lR] at h;rcases h with h|h
   ·obtain⟨e,g,b⟩:=yr.1 h;simp only[jn,beq_iff_eq] at b;have:=c e g b.1;rw[b.2,l] at this;cases this
   obtain⟨e,g,b⟩:=yr.1 h;simp only[jn] at b;have m:=c e g b.1;cases f:ops[e.on]? with
   | none=>rw[show waits md ops i n e.on=false from by cases n <;> simp[waits,f]] at b;exact absurd b.2 (by simp)
   | some o=>exact lh k l n e.on o f b.2 (k e.on o f m)
def Closed.step (m:Closed md ops a) {j:Nat} (l:j∈Region.ready md ops a):Closed md ops (a.setIfInBounds j true):=by
 intro k o d h e i g;apply getD_set_true;by_cases b:j=k
 ·subst b;obtain⟨_,o',f,c⟩:=mem_ready.1 l;rw[f] at d;cases d;exact c e i g
 rw[getD_set_ne false b] at h;exact m k o d h e i g
def UB (md:Region.Mode) (ops:Array Oper) (head listed:Array Bool) (i:Nat):Bool:=
 match ops[i]? with
 | none=>false
 | some oi=>(List.range ops.size).all λj=>j==i||listed.getD j true||match ops[j]? with
    | some oj=>oj.after.any (λe=>Region.binds md e&&e.on==i)||(head.getD j false&&oi.apart ops oj)||waits md ops i ops.size j
    | none=>true
def oK {m:Oper} (n:ops[i]? = some m) (h:UB md ops head a i=true) (j:Nat) (c:Oper)
 (l:ops[j]? = some c) (f:j≠i) (d:a.getD j true=false) (k:∀e∈c.after,Region.binds md e=true->e.on≠i) :
 (head.getD j false=true/\m.apart ops c=true)\/waits md ops i ops.size j=true:=by
 simp only[UB,n,lr,nj] at h;have b:=h j (jt.1 l).1;simp only[l,lR,beq_iff_eq,f,false_or,d,pP] at b;rcases b with (b|b)|b
 ·obtain⟨e,o,g⟩:=yr.1 b;simp only[jn,beq_iff_eq] at g;exact absurd g.2 (k e o g.1)
 ·exact .inl (by simpa using b)
 exact .inr b
def vM (md:Region.Mode) (ops:Array Oper) (listed:Array Bool):Bool:=
 (List.range ops.size).all λj=>!listed.getD j false||match ops[j]? with
   | some o=>o.after.all λe=>!Region.binds md e||listed.getD e.on false
   | none=>true
def oL (h:vM md ops a=true):Closed md ops a:=by
 intro j o c d e i f;have b:=lr.1 h j (nj.2 (jt.1 c).1);simp only[d,c,Bool.not_true,Bool.false_or] at b;have g:=zy.1 b e i;simpa [f] using g
def tq (md:Region.Mode) (ops:Array Oper) (head:Array Bool):List Nat->Array Bool->Bool
 | [],_=>true
 | i::l,listed=>(Region.ready md ops listed).contains i&&UB md ops head listed i&&head.getD i false&&tq md ops head l (listed.setIfInBounds i true)
def aS:List Nat->Array Bool->Array Bool
 | [],listed=>listed
 | i::l,listed=>aS l (listed.setIfInBounds i true)
def Eo:Op->Bool
 | .move _|.assign _|.pick ..|.load ..|.binOp ..|.unOp ..|.convert ..|.slice ..|.fieldAddr ..|.field ..|.indexAddr ..|.index ..|.extract ..|.build ..|.nilCheck _=>true
 | .call { callee:=.builtin b,.. }=>match b with|.len|.cap|.max|.min=>true|_=>false
 | _=>false
def uj (s:Sem Value) (w:World) (f:FuncId) (args:Array Value) (w':World):(s.bind λx=>Sem.pure (Next.value x)).run P w≠.ok (.enter f args) w':=by
 rw[tG];cases s.run P w with
 | ok x w1=>intro h;cases h
 | halt x w1=>intro h;cases h
def Gs {P:Program} {x:Operand} {dst:Option Tmp} {type:TypeId} {pos:String} {after:Array Edge} {guard:Option (Nat×Bool)} (w:World) (f:FuncId) (args:Array Value) (w':World):(execOp ρ { dst:=dst,op:=.nilCheck x,type:=type,pos:=pos,after:=after,guard:=guard }).run P w≠.ok (.enter f args) w':=by
 simp only[execOp]
 split
 ·intro h;cases h
 ·intro h;cases h
 ·intro h;cases h
 ·split
  ·intro h;cases h
  ·show(Sem.bind _ _).run P w≠_;rw[tG];cases (program:Sem Program).run P w with
   | halt x w1=>intro h;cases h
   | ok p w1=>
     show(Sem.bind _ _).run P w1≠_;rw[tG];cases (nilAhead (p.types.size+Made.depth) _ _ _).run P w1 with
     | halt x w2=>intro h;cases h
     | ok b w2=>
       show Sem.run P (if (b !=some false)=true then _ else _) w2≠_
       split
       ·show(Sem.bind _ _).run P w2≠_;rw[tG];intro h;generalize Sem.run P (unsupported _) w2=r at h;cases r with
        | halt x w3=>cases h
        | ok x w3=>cases h
       intro h;cases h
  intro h;cases h
 intro h;cases h
def Jf (h:Eo o.op=true) (w:World) (f:FuncId) (args:Array Value) (w':World):(execOp ρ o).run P w≠.ok (.enter f args) w':=by
 obtain⟨dst,op,type,pos,after,guard⟩:=o;cases op <;> simp only[Eo,pP] at h
 case move x=>intro h;cases h
 case assign x=>intro h;cases h
 case nilCheck x=>exact Gs _ _ _ _
 case pick c a b=>
  simp only[execOp];cases ρ c <;> first|(intro h;cases h;done)|(intro h;simp[asBool] at h)
 case call c=>
  obtain⟨callee,d,e⟩:=c;cases callee <;> simp only[pP] at h
  case builtin b=>
   cases b <;> simp only[pP] at h
   all_goals exact uj _ _ _ _ _
 all_goals exact uj _ _ _ _ _
def AQ (ops:Array Oper) (l:List Nat):Bool:=l.all λi=>match ops[i]? with|some o=>Eo o.op|none=>false
def bu (ops:Array Oper) (l:List Nat):List Oper:=l.filterMap (ops[·]?)
def nth:List Oper->Nat->Option Oper
 | [],_=>none
 | o::_,0=>some o
 | _::l,i+1=>nth l i
def Gt:∀(l:List Oper) (i:Nat),nth l i=l[i]?
 | [],_=>by simp[nth]
 | _::_,0=>by simp[nth]
 | _::l,i+1=>by simp[nth,Gt l i]
def fM (h:nth ops.toList i=some o):ops[i]? = some o:=by rw[Gt] at h;simpa using h
def aA {C:World->Prop} {K:Act->Prop} {l:List Nat} {a:Act} (b:nth ops.toList i=some o) (h:wpQuiet P ops C K (o::bu ops l) a):wpQuiet P ops C K (bu ops (i::l)) a:=by
 have c:bu ops (i::l)=o::bu ops l:=by simp[bu,fM b]
 rw[c];exact h
def az {C:World->Prop} {K:Act->Prop} {a:Act} (h:K a):wpQuiet P ops C K (bu ops []) a:=h
def tail_cons {l:List Nat} {a:Act} (b:nth ops.toList i=some o) (h:wpList P ops Q (o::bu ops l) a w):wpList P ops Q (bu ops (i::l)) a w:=by
 have c:bu ops (i::l)=o::bu ops l:=by simp[bu,fM b]
 rw[c];exact h
def tail_nil {a:Act} (h:Q .normal a w):wpList P ops (QP Q) (bu ops []) a w:=h
def xE:Op->Bool
 | .move _|.assign _|.pick ..|.extract ..=>true
 | _=>false
def pure_run (h:xE o.op=true):(∃v,∀w,(execOp ρ o).run P w=.ok (.value v) w/\∀e,((execOp ρ o).runT P w e).2=e)\/(∃s,∀w,(execOp ρ o).run P w=.halt (.stuck s) w/\∀e,((execOp ρ o).runT P w e).2=e):=by
 obtain⟨dst,op,type,pos,after,guard⟩:=o;cases op <;> simp only[xE,pP] at h
 case move x=>exact .inl ⟨ρ x,λw=>⟨rfl,λ_=>rfl⟩⟩
 case assign x=>exact .inl ⟨ρ x,λw=>⟨rfl,λ_=>rfl⟩⟩
 case pick c a b=>
  cases d:ρ c
  case bool t=>cases t <;> exact .inl ⟨_,λw=>by constructor;{ simp only[execOp,d];rfl };{ intro e;simp only[execOp,d];rfl }⟩
  all_goals exact .inr ⟨_,λw=>by constructor;{ simp only[execOp,d];rfl };{ intro e;simp only[execOp,d];rfl }⟩
 case extract x ix=>
  cases d:ρ x
  case tuple vs=>
   cases f:vs[ix]? with
   | none=>exact .inr ⟨_,λw=>by constructor;{ simp only[execOp,d,Instr.extract,f];rfl };{ intro e;simp only[execOp,d,Instr.extract,f];rfl }⟩
   | some y=>exact .inl ⟨y,λw=>by constructor;{ simp only[execOp,d,Instr.extract,f];rfl };{ intro e;simp only[execOp,d,Instr.extract,f];rfl }⟩
  all_goals exact .inr ⟨_,λw=>by constructor;{ simp only[execOp,d,Instr.extract];rfl };{ intro e;simp only[execOp,d,Instr.extract];rfl }⟩
def uk (md:Region.Mode) (ops:Array Oper):List Nat->Array Bool->Bool
 | [],listed=>(Region.ready md ops listed).isEmpty
 | i::l,listed=>(Region.ready md ops listed==[i]||((Region.ready md ops listed).contains i&&Region.free md ops listed i&&(match ops[i]? with|some o=>xE o.op|none=>false)))&&uk md ops l (listed.setIfInBounds i true)
def iB (m:Region.noSelect ops=true):∀(l:List Nat) (b:Array Bool) (a:Act) (w:World),
 uk md ops l b=true->wpList P ops (QP Q) (bu ops l) a w->wpAny P md ops (QP Q) l.length b a w
 | [],b,a,w,hB,h=>⟨by simpa [uk] using hB,h⟩
 | i::l,b,a,w,hB,h=>by
   simp only[uk,jn,lR,beq_iff_eq] at hB;obtain⟨k,d⟩:=hB;rcases k with k|⟨⟨k,c⟩,g⟩
   ·refine wpAny_all k (by simp) λj t=>?_;obtain rfl:j=i:=by simpa using t
    have p:j∈Region.ready md ops b:=by rw[k];simp
    obtain⟨_,o,e,_⟩:=mem_ready.1 p;have g:bu ops (j::l)=o::bu ops l:=by simp[bu,e]
    rw[g] at h;unfold wpOp;simp only[e];unfold wpList at h
    split
    ·rename_i f;rw[if_pos f] at h;exact h.imp (Oper.wp_mono λa w h=>iB m l _ a w d h) id
    rename_i f;rw[if_neg f] at h;exact iB m l _ _ w d h
   cases e:ops[i]? with
   | none=>rw[e] at g;cases g
   | some o=>
     rw[e] at g;simp only at g;have r:bu ops (i::l)=o::bu ops l:=by simp[bu,e]
     rw[r] at h;unfold wpList at h;by_cases f:Region.wanted o (yielded ops a.tmps)=true
     ·rw[if_pos f] at h;rcases pure_run (P:=P) (ρ:=a.eval) g with⟨v,n⟩|⟨s,n⟩
      ·refine wpAny_take e m c k (λ_ _ _ h=>h.elim) (.inl ⟨f,λw=>(n w).1⟩) (iB m l _ _ w d ?_);rcases h with h|⟨q,_⟩
       ·unfold Oper.wp at h;rw[(n w).1] at h;exact h
       exfalso;have:=q.1;rw[(n w).2] at this;simp at this
      exfalso;rcases h with h|⟨q,_⟩
      ·unfold Oper.wp at h;rw[(n w).1] at h;exact h
      have:=q.1;rw[(n w).2] at this;simp at this
     rw[if_neg f] at h;exact wpAny_take e m c k (λ_ _ _ h=>h.elim) (.inr ⟨by simpa using f,rfl⟩) (iB m l _ _ w d h)
def vN :∀(n:Nat) (b:Array Bool) (a:Act) (w:World),wpAny P md ops (QP Q) n b a w->wpAny P md ops Q n b a w
 | 0,_,_,_,h=>⟨h.1,h.2⟩
 | n+1,_,_,_,h=>⟨λh0=>h.1 h0,λi c=>wpOp_mono (λa w h=>vN n _ a w h) (Am (h.2 i c))⟩
end
structure KR where
 rel:World->World->Prop
 refl:∀w,rel w w
 trans:∀{a b c},rel a b->rel b c->rel a c
structure vG (R:KR) (w:World) where
 tw:World
 ext:R.rel w tw
def KR.blocks (S:Nat->Prop):KR:=⟨λw w'=>(∀k,S k->w'.heap[k]? = w.heap[k]?)/\w.heap.size<=w'.heap.size,λ_=>⟨λ_ _=>rfl,gw _⟩,λc a=>⟨λk b=>(a.1 k b).trans (c.1 k b),gS c.2 a.2⟩⟩
def vG.keeps {S:Nat->Prop} {w:World} {b o:Nat} {v:Value} (h:w.cell? ⟨b,o,none⟩=some v) (a:S b):∀g:vG (KR.blocks S) w,g.tw.cell? ⟨b,o,none⟩=some v:=
 λg=>by
  have:=g.ext.1 b a;unfold World.cell? at h⊢;rw[this];exact h
def KR.of_below {S:Nat->Prop} {B:Nat} {w w':World} (h:Below B w w') (b:w.heap.size<=w'.heap.size) (a:∀k,S k->k<B):(KR.blocks S).rel w w':=⟨λk c=>h.block k (a k c),b⟩
def KR.bQ {S:Nat->Prop} {w w':World} {row:Option Nat} (h:w.grownBy w' row) (c:w.heap.size<=w'.heap.size) (a:∀k,S k->k<w.heap.size/\row≠some k):(KR.blocks S).rel w w':=
 ⟨λk b=>h.block k (a k b).1 (λe=>(a k b).2 e.symm),c⟩
def M_:Op->Bool
 | .lookup ..=>true
 | o=>Eo o
def QW {P:Program} {ρ:Operand->Value} {o:Oper} (h:M_ o.op=true) (w:World) (f:FuncId) (args:Array Value) (w':World):(execOp ρ o).run P w≠.ok (.enter f args) w':=by
 by_cases a:Eo o.op=true
 ·exact Jf a w f args w'
 obtain⟨dst,op,type,pos,after,guard⟩:=o;cases op <;> simp only[M_,Eo,not_true_eq_false] at h a
 case lookup t m x c=>exact uj _ _ _ _ _
 all_goals first|(exact absurd h a)|(exact absurd h (by simp))
def rJ (ops:Array Oper) (l:List Nat):Bool:=l.all λi=>match ops[i]? with|some o=>M_ o.op|none=>false
section
variable {R : KR} {P : Program} {ops : Array Oper} {md : Region.Mode} {head : Array Bool}
variable {Q:Exit->Act->World->Prop} {w:World} {o:Oper} {v:Value} {a:Act} {i:Nat} {K:Act->World->Prop} {T:Array Bool->Act->World->Prop} {b:Array Bool}
def Na (R:KR) (P:Program) (ops:Array Oper) (Q:Exit->Act->World->Prop) (i:Nat) (K:Act->World->Prop) (a:Act) (w:World):Prop:=
 wpOp P ops (QP Q) i (λb w'=>R.rel w w'/\K b w') a w
def Jg (R:KR) (P:Program) (md:Region.Mode) (ops:Array Oper) (head:Array Bool) (Q:Exit->Act->World->Prop) (T:Array Bool->Act->World->Prop):Nat->Array Bool->Act->World->Prop
 | 0,listed,a,w=>kZ head listed=true/\T listed a w
 | n+1,listed,a,w=>Region.ready md ops listed≠[]/\
   ∀i∈Region.ready md ops listed,head.getD i false=true/\Na R P ops Q i (Jg R P md ops head Q T n (listed.setIfInBounds i true)) a w
def uo {t:Nat}:∀(n:Nat) (b:Array Bool) (a:Act) (w:World),
 Jg R P md ops head Q (λl a w=>wpAny P md ops Q t l a w) n b a w->wpAny P md ops Q (n+t) b a w
 | 0,_,_,_,h=>by simpa using h.2
 | n+1,b,a,w,h=>by
   rw[vf];refine⟨λh0=>absurd h0 h.1,λi e=>?_⟩;exact wpOp_mono (λc w' d=>uo n _ c w' d.2) (Am (h.2 i e).2)
def dZ (R:KR) (P:Program) (ops:Array Oper) (w:World) (o:Oper) (v:Value) (a:Act):Prop:=
 (Region.wanted o (yielded ops a.tmps)=true/\∀w',R.rel w w'->((execOp a.eval o).run P w'=.ok (.value v) w'\/((execOp a.eval o).run P w'=.ok .skip w'/\v=undef)))\/
 (Region.wanted o (yielded ops a.tmps)=false/\v=undef)
def dZ.mono {w':World} (h:dZ R P ops w o v a) (f:R.rel w w'):dZ R P ops w' o v a:=
 h.imp (λ⟨e,d⟩=>⟨e,λc b=>d c (R.trans f b)⟩) id
def dZ.of_same {b:Act} (c:dZ R P ops w o v a) (e:execOp b.eval o=execOp a.eval o)
 (d:Region.wanted o (yielded ops b.tmps)=Region.wanted o (yielded ops a.tmps)):dZ R P ops w o v b:=by
 unfold dZ at *;rw[e,d];exact c
def dZ.Na (f:ops[i]? = some o) (e:dZ R P ops w o v a)
 (h:K (a.put o.dst v) w):Na R P ops Q i K a w:=by
 unfold Cd.Na wpOp;simp only[f];rcases e with⟨c,d⟩|⟨c,rfl⟩
 ·have b:=d w (R.refl _);clear d;rcases b with b|⟨b,rfl⟩
  ·simp only[c,if_true,Oper.wp,b,Oper.upon];exact .inl ⟨R.refl _,h⟩
  simp only[c,if_true,Oper.wp,b,Oper.upon];exact .inl ⟨R.refl _,h⟩
 simp only[c,pP,if_false];exact⟨R.refl _,h⟩
def P9 {j:Nat} {i k:Oper} (F:ops[j]? = some k) (A:i.apart ops k=true)
 (y:∀cs b,i.op≠.select cs b) (t:∀cs b,k.op≠.select cs b)
 
 (o:dZ R P ops w i v a) (h:Na R P ops Q j K (a.put i.dst v) w) :
 Na R P ops Q j (λE w'=>dZ R P ops w' i v E/\K (E.put i.dst v) w') a w:=by
 obtain⟨B,s,z⟩:=sf A;have g:∀(a:Act),dZ R P ops w i v a->∀u,dZ R P ops w i v (a.put k.dst u):=λa o u=>
  o.of_same (execOp_put i y a k.dst u z) (wanted_put i a k.dst u z)
 have p:∀d,dZ R P ops w i v { a with defers:=d::a.defers }:=λd=>o.of_same rfl rfl;unfold Cd.Na wpOp at *;simp only[F] at *;rw[wanted_put k a i.dst v B] at h
 split
 ·rename_i D;simp only[D,if_true] at h;rcases h with h|⟨l,q⟩
  case inr=>exact .inr ⟨by unfold Oper.asks at *;rw[execOp_put k t a i.dst v B] at l;exact l,q⟩
  refine .inl ?_;unfold Oper.wp at *;rw[execOp_put k t a i.dst v B] at h;generalize (execOp a.eval k).run P w=r at *;cases r with
  | ok n w'=>
    cases n <;> simp only[Oper.upon] at h⊢
    case value u=>exact⟨h.1,(g a o u).mono h.1,by rw[<-pC a v u s];exact h.2⟩
    case skip=>exact⟨h.1,(g a o _).mono h.1,by rw[<-pC a v undef s];exact h.2⟩
    case defer d=>
     refine⟨h.1,(dZ.of_same (p d) (execOp_put i y _ k.dst _ z) (wanted_put i _ k.dst _ z)).mono h.1,?_⟩;rw[<-pC _ v undef s,<-Act.put_defers];exact h.2
    case enter f args=>
     refine se h λe C m=>?_;cases e with
     | returned u=>exact⟨m.1,(g a o u).mono m.1,by rw[<-pC a v u s];exact m.2⟩
     | panicked c=>exact m.elim
     | outgrown=>exact m
    case row row args=>exact Rows.mono h λu C m=>⟨m.1,(g a o u).mono m.1,by rw[<-pC a v u s];exact m.2⟩
  | halt x w'=>
    cases x <;> simp only[Oper.upon] at h⊢
    case panic u=>exact h.elim
 rename_i D;simp only[D] at h;exact⟨h.1,g a o _,by rw[<-pC a v undef s];exact h.2⟩
def Jh {b:Act->World->Prop} (h:∀a w,K a w->b a w)
 (c:Na R P ops Q i K a w):Na R P ops Q i b a w:=wpOp_mono (λ_ _ ⟨e,d⟩=>⟨e,h _ _ d⟩) c
def Er {s:Oper} (K:ops[i]? = some s) (u:∀(j:Nat) (o:Oper) cs b,ops[j]? = some o->o.op≠.select cs b)
 (C:head.getD i false=true) :
 ∀(n:Nat) (c:Array Bool) (a:Act) (w:World),Closed md ops c->
  (∀j l,ops[j]? = some l->j≠i->c.getD j true=false->(∀e∈l.after,Region.binds md e=true->e.on≠i)->(head.getD j false=true/\s.apart ops l=true)\/waits md ops i ops.size j=true)->
  i∈Region.ready md ops c->dZ R P ops w s v a->
  Jg R P md ops head Q T n (c.setIfInBounds i true) (a.put s.dst v) w->Jg R P md ops head Q T (n+1) c a w:=by
 intro n;have key:∀(c:Array Bool),Closed md ops c->
  (∀j l,ops[j]? = some l->j≠i->c.getD j true=false->(∀e∈l.after,Region.binds md e=true->e.on≠i)->(head.getD j false=true/\s.apart ops l=true)\/waits md ops i ops.size j=true)->
  i∈Region.ready md ops c->∀j,j∈Region.ready md ops c->j≠i->∃l,ops[j]? = some l/\c.getD j true=false/\head.getD j false=true/\s.apart ops l=true:=by
  intro c p d q j y g;obtain⟨f,l,m,t⟩:=mem_ready.1 y;have h0:=(mem_ready.1 q).1;have E:c.getD i false=false:=by
   rcases j' i c.size with h'|h'
   ·simp[h'] at h0⊢;exact h0
   simp[kp h']
  have D:∀e∈l.after,Region.binds md e=true->e.on≠i:=λe X S N=>by
   have G:=t e X S;rw[N,E] at G;cases G
  rcases d j l m g f D with h|h
  ·exact⟨l,m,f,h.1,h.2⟩
  exact absurd t (lh p E _ j l m h)
 induction n with
 | zero=>
   intro c a w p d q F H;refine⟨λh=>(by rw[h] at q;cases q),λj y=>?_⟩;by_cases g:j=i
   ·subst g;exact⟨C,F.Na K H⟩
   obtain⟨l,m,f,J,_⟩:=key c p d q j y g;have x:=jH H.1 J;rw[getD_set_ne false (px g)] at x;rcases j' j c.size with h'|h'
   ·simp[h'] at f x;rw[f] at x;cases x
   simp[kp h'] at x
 | succ n ih=>
   intro c a w p d q F H;refine⟨λh=>(by rw[h] at q;cases q),λj y=>?_⟩;by_cases g:j=i
   ·subst g;exact⟨C,F.Na K H⟩
   obtain⟨U,G⟩:=H.2 j (ready_mono y g);obtain⟨l,m,f,_,I⟩:=key c p d q j y g;have x:=P9 m I (λcs b=>u i s cs b K) (λcs b=>u j l cs b m) F G;have r:∀k A,ops[k]? = some A->k≠i->(c.setIfInBounds j true).getD k true=false->
    (∀e∈A.after,Region.binds md e=true->e.on≠i)->(head.getD k false=true/\s.apart ops A=true)\/waits md ops i ops.size k=true:=λk A W M z L=>by
    refine d k A W M ?_ L;by_cases B:j=k
    ·subst B;exact f
    rw[getD_set_ne true B] at z;exact z
   refine⟨U,Jh (λV w' O=>ih (c.setIfInBounds j true) V w' (p.step y) r (ready_mono q (px g)) O.1 ?_) x⟩;rw[rG _ _ g];exact O.2
def Gu (m:Region.noSelect ops=true):∀(l:List Nat) (n:Nat) (b:Array Bool) (a:Act) (w:World),Closed md ops b->
 (rJ ops l&&tq md ops head l b)=true->wpQuiet P ops (λw'=>∃g:vG R w,w'=g.tw) (λA=>Jg R P md ops head Q T n (aS l b) A w) (bu ops l) a->Jg R P md ops head Q T (n+l.length) b a w
 | [],n,b,a,w,_,_,h=>h
 | i::l,n,b,a,w,hcl,hB,h=>by
   simp only[tq,rJ,List.all_cons,jn] at hB;obtain⟨⟨c,y⟩,⟨⟨p,hf⟩,z⟩,s⟩:=hB;cases e:ops[i]? with
   | none=>rw[e] at c;cases c
   | some o=>
     rw[e] at c;simp only at c;have C:bu ops (i::l)=o::bu ops l:=by simp[bu,e]
     rw[C] at h;have j:(rJ ops l&&tq md ops head l (b.setIfInBounds i true))=true:=by simp only[rJ,jn];exact⟨y,s⟩
     simp only[wpQuiet] at h;by_cases q:Region.wanted o (yielded ops a.tmps)=true
     ·rw[if_pos q] at h;obtain⟨v,B,D⟩:=h;refine Er e (lj m) z (n+l.length) b a w hcl (oK e hf) (by simpa using p) (.inl ⟨q,λw' t=>?_⟩)
       (Gu m l n _ _ w (hcl.step (by simpa using p)) j D)
      have d:=B w' ⟨⟨w',t⟩,rfl⟩;unfold Oper.quietAt at d;generalize k:(execOp a.eval o).run P w'=r at d;cases r with
      | ok x w1=>
        cases x <;> simp only[Oper.quietUpon] at d
        case value u=>rw[d.1,d.2];exact .inl rfl
        case skip=>rw[d.1,d.2];exact .inr ⟨rfl,rfl⟩
        case enter f args=>exact absurd k (QW c _ _ _ _)
      | halt x w1=>exact d.elim
     rw[if_neg q] at h;exact Er e (lj m) z (n+l.length) b a w hcl (oK e hf) (by simpa using p) (.inr ⟨by simpa using q,rfl⟩)
      (Gu m l n _ _ w (hcl.step (by simpa using p)) j h)
def bZ (l:List Nat) (n:Nat) {m:Nat} 
 (h:wpQuiet P ops (λw'=>∃g:vG R w,w'=g.tw) (λd=>Jg R P md ops head Q T n (aS l b) d w) (bu ops l) a) (e:m=n+l.length:=by rfl) (c:((Region.noSelect ops&&vM md ops b)&&(rJ ops l&&tq md ops head l b))=true:=by kernel_rfl):Jg R P md ops head Q T m b a w:=by
  subst e;rw[jn,jn] at c;exact Gu c.1.1 l n b a w (oL c.1.2) c.2 h
def QR (R:KR) (Q:Exit->Act->World->Prop) (w:World) (K:Act->World->Prop):Exit->Act->World->Prop
 | .normal,a,w'=>R.rel w w'/\K a w'
 | .panic _,_,_=>False
 | e,a,w'=>Q e a w'
def mM (k:ops[i]? = some o)
 (h:wpList P ops (QR R Q w K) [o] a w):Na R P ops Q i K a w:=by
 unfold Cd.Na wpOp;simp only[k];unfold wpList at h
 split
 ·rename_i g;rw[if_pos g] at h;rcases h with h|⟨j,l⟩
  ·refine .inl ?_;unfold Oper.wp at *;generalize (execOp a.eval o).run P w=r at *;cases r with
   | ok n w'=>
     cases n <;> simp only[Oper.upon] at h⊢
     case enter f args=>
      refine se h λe d b=>?_;cases e with
      | returned u=>exact b
      | panicked c=>exact b
      | outgrown=>exact b
     case row row args=>exact Rows.mono h λu d b=>b
     all_goals exact h
   | halt x w'=>cases x <;> simp only[Oper.upon] at h⊢;exact h
  exact .inr ⟨j,l⟩
 rename_i g;rw[if_neg g] at h;exact h
def bN {n:Nat} (i:Nat) 
 (h:wpList P ops (QR R Q w (Jg R P md ops head Q T n (b.setIfInBounds i true))) [o] a w) (e:(Region.ready md ops b==[i]&&head.getD i false)=true:=by kernel_rfl) (g:nth ops.toList i=some o:=by rfl):Jg R P md ops head Q T (n+1) b a w:=by
 simp only[jn,beq_iff_eq] at e;obtain⟨d,f⟩:=e;refine⟨by rw[d];simp,λj c=>?_⟩;rw[d] at c;obtain rfl:j=i:=by simpa using c
 exact⟨f,mM (fM g) h⟩
def P_ {n:Nat} (i k:Nat) {u:Oper} 
 (h:wpList P ops (QR R Q w (Jg R P md ops head Q T n (b.setIfInBounds i true))) [o] a w) (g:wpList P ops (QR R Q w (Jg R P md ops head Q T n (b.setIfInBounds k true))) [u] a w) (f:(Region.ready md ops b==[i,k]&&(head.getD i false&&head.getD k false))=true:=by kernel_rfl) (m:nth ops.toList i=some o:=by rfl) (l:nth ops.toList k=some u:=by rfl):Jg R P md ops head Q T (n+1) b a w:=by
 simp only[jn,beq_iff_eq] at f;obtain⟨e,d⟩:=f;refine⟨by rw[e];simp,λj c=>?_⟩;rw[e] at c;simp only[jf,km,or_false] at c;rcases c with rfl|rfl
 ·exact⟨d.1,mM (fM m) h⟩
 exact⟨d.2,mM (fM l) g⟩
def bK {w':World} (c:R.rel w w') (b:K a w'):QR R Q w K .normal a w':=⟨c,b⟩
def eU (l:List Nat) 
 (h:wpList P ops (QP Q) (bu ops l) a w) (c:(kZ head b&&(Region.noSelect ops&&uk md ops l b))=true:=by kernel_rfl):Jg R P md ops head Q (λl' a w=>wpAny P md ops Q l.length l' a w) 0 b a w:=by
 simp only[jn] at c;exact⟨c.1,vN _ _ _ _ (iB c.2.1 l b a w c.2.2 h)⟩
def dF (R:KR) {b:Nat} {l:List Oper} (head:Array Bool) (n t:Nat) (d:P.follows .mixedOrders=true)
 (h:Jg R P .any l.toArray head Q (λl' a w=>wpAny P .any l.toArray Q t l' a w) n (Array.replicate l.length false) a w.drew) (c:n+t=l.length:=by rfl):(Code.region b l.toArray true).wp P Q a w:=by
 refine wp_region_any d ?_;have:=uo n _ _ _ h;rw[c] at this;simpa using this
end
def KR.E:KR:=⟨λw w'=>Below w.heap.size w w',λ_=>gO _ _,λh k=>af h k⟩
section
variable {P : Program} {ops : Array Oper} {md : Region.Mode} {head : Array Bool}
variable {Q:Exit->Act->World->Prop} {w:World} {K:Act->World->Prop} {a:Act} {T:Array Bool->Act->World->Prop} {o:Oper} {v:Value} {i:Nat} {b:Array Bool}
def xG (P:Program) (ops:Array Oper) (Q:Exit->Act->World->Prop) (i:Nat) (K:Act->World->Prop) (a:Act) (w:World):Prop:=
 wpOp P ops (QP Q) i (λb w'=>Below w.heap.size w w'/\K b w') a w
def QX (P:Program) (md:Region.Mode) (ops:Array Oper) (head:Array Bool) (Q:Exit->Act->World->Prop) (T:Array Bool->Act->World->Prop):Nat->Array Bool->Act->World->Prop
 | 0,listed,a,w=>kZ head listed=true/\T listed a w
 | n+1,listed,a,w=>Region.ready md ops listed≠[]/\
   ∀i∈Region.ready md ops listed,head.getD i false=true/\xG P ops Q i (QX P md ops head Q T n (listed.setIfInBounds i true)) a w
def mP (P:Program) (ops:Array Oper) (w:World) (o:Oper) (v:Value) (a:Act):Prop:=
 (Region.wanted o (yielded ops a.tmps)=true/\∀w',Below w.heap.size w w'->((execOp a.eval o).run P w'=.ok (.value v) w'\/((execOp a.eval o).run P w'=.ok .skip w'/\v=undef)))\/
 (Region.wanted o (yielded ops a.tmps)=false/\v=undef)
def QE (Q:Exit->Act->World->Prop) (w:World) (K:Act->World->Prop):Exit->Act->World->Prop
 | .normal,a,w'=>Below w.heap.size w w'/\K a w'
 | .panic _,_,_=>False
 | e,a,w'=>Q e a w'
def aF {w':World} (c:Below w.heap.size w w') (b:K a w'):QE Q w K .normal a w':=⟨c,b⟩
def xH :∀(n:Nat) (b:Array Bool),QX P md ops head Q T n b=Jg KR.E P md ops head Q T n b
 | 0,_=>rfl
 | n+1,b=>funext λa=>funext λw=>by
   show(_/\∀i∈_,_/\xG P ops Q i (QX P md ops head Q T n _) a w)=(_/\∀i∈_,_/\Na KR.E P ops Q i (Jg KR.E P md ops head Q T n _) a w);simp only[xH n];rfl
def abf (Q:Exit->Act->World->Prop) (w:World) (K:Act->World->Prop):QE Q w K=QR KR.E Q w K:=funext λe=>by cases e <;> rfl
def aeU (w:World):(λw'=>∃g:Gr w,w'=g.tw)=(λw'=>∃g:vG KR.E w,w'=g.tw):=funext λw'=>propext ⟨λ⟨g,h⟩=>⟨⟨g.tw,g.ext⟩,h⟩,λ⟨g,h⟩=>⟨⟨g.tw,g.ext⟩,h⟩⟩
def mP.mono {w':World} (h:mP P ops w o v a) (b:Below w.heap.size w w'):mP P ops w' o v a:=dZ.mono (R:=KR.E) h b
def mP.xG (c:ops[i]? = some o) (b:mP P ops w o v a)
 (h:K (a.put o.dst v) w):xG P ops Q i K a w:=dZ.Na (R:=KR.E) c b h
def YB {j:Nat} {c d:Oper} (k:ops[j]? = some d) (e:c.apart ops d=true)
 (g:∀cs b,c.op≠.select cs b) (f:∀cs b,d.op≠.select cs b)
 
 (l:mP P ops w c v a) (h:xG P ops Q j K (a.put c.dst v) w) :
 xG P ops Q j (λi w'=>mP P ops w' c v i/\K (i.put c.dst v) w') a w:=P9 (R:=KR.E) k e g f l h
def qz {b:Act->World->Prop} (h:∀a w,K a w->b a w)
 (c:xG P ops Q i K a w):xG P ops Q i b a w:=Jh (R:=KR.E) h c
def qA (b:ops[i]? = some o)
 (h:wpList P ops (QE Q w K) [o] a w):xG P ops Q i K a w:=mM (R:=KR.E) b (by rw[<-abf];exact h)
def AR {t:Nat}:∀(n:Nat) (b:Array Bool) (a:Act) (w:World),
 QX P md ops head Q (λl a w=>wpAny P md ops Q t l a w) n b a w->wpAny P md ops Q (n+t) b a w:=λn b a w h=>uo (R:=KR.E) n b a w (by rw[<-xH];exact h)
def ay (l:List Nat) (n:Nat) {m:Nat} 
 (h:wpQuiet P ops (λw'=>∃g:Gr w,w'=g.tw) (λc=>QX P md ops head Q T n (aS l b) c w) (bu ops l) a) (e:m=n+l.length:=by rfl) (d:((Region.noSelect ops&&vM md ops b)&&(rJ ops l&&tq md ops head l b))=true:=by kernel_rfl):QX P md ops head Q T m b a w:=by
  rw[xH];rw[aeU] at h;simp only[xH] at h;exact bZ l n h e d
def aI {n:Nat} (i:Nat) 
 (h:wpList P ops (QE Q w (QX P md ops head Q T n (b.setIfInBounds i true))) [o] a w) (c:(Region.ready md ops b==[i]&&head.getD i false)=true:=by kernel_rfl) (d:nth ops.toList i=some o:=by rfl):QX P md ops head Q T (n+1) b a w:=by
 rw[xH];rw[abf,xH] at h;exact bN i h c d
def aJ (l:List Nat) 
 (h:wpList P ops (QP Q) (bu ops l) a w) (c:(kZ head b&&(Region.noSelect ops&&uk md ops l b))=true:=by kernel_rfl):QX P md ops head Q (λl' a w=>wpAny P md ops Q l.length l' a w) 0 b a w:=by
 simp only[jn] at c;exact⟨c.1,vN _ _ _ _ (iB c.2.1 l b a w c.2.2 h)⟩
def aC {b:Nat} {l:List Oper} (head:Array Bool) (n t:Nat) (d:P.follows .mixedOrders=true)
 (h:QX P .any l.toArray head Q (λl' a w=>wpAny P .any l.toArray Q t l' a w) n (Array.replicate l.length false) a w.drew) (c:n+t=l.length:=by rfl):(Code.region b l.toArray true).wp P Q a w:=by
 refine wp_region_any d ?_;have:=AR n _ _ _ h;rw[c] at this;simpa using this
end
end
variable {b x y:Nat}
def val (b:Nat):List Nat->Nat
 | []=>0
 | d::l=>d+b*val b l
def bY (b:Nat) (x:Nat):List Nat:=
 if _h:x=0\/b<2 then [] else x % b::bY b (x / b)
termination_by x
decreasing_by
 have a:x≠0:=λe=>_h (.inl e);exact xA (by omega) (by omega)
def di (b:Nat):bY b 0=[]:=by unfold bY;simp
def ll (a:2<=b) (c:x≠0):bY b x=x % b::bY b (x / b):=by
 rw[bY];rw[dif_neg (by omega)]
def nT (a:2<=b) (x:Nat):val b (bY b x)=x:=by
 induction x using Nat.strongRecOn with
 | ind x ih=>
   by_cases h:x=0
   ·subst h;rw[di];rfl
   rw[ll a h];show x % b+b*val b (bY b (x / b))=x;rw[ih _ (xA (by omega) (by omega))];exact xt x b
def Gv (a:2<=b) (x:Nat):∀d∈bY b x,d<b:=by
 induction x using Nat.strongRecOn with
 | ind x ih=>
   by_cases h:x=0
   ·subst h;rw[di];simp
   rw[ll a h];intro d hd;rcases jf.1 hd with rfl|hd
   ·exact mx _ (by omega)
   exact ih _ (xA (by omega) (by omega)) d hd
def yS (a:2<=b):bY b x=[]↔x=0:=by
 constructor
 ·intro h;have:=nT a x;rw[h] at this;exact this.symm
 rintro rfl;exact di b
def QY (f:2<=b) (x:Nat):∀d,(bY b x).getLast? = some d->d≠0:=by
 induction x using Nat.strongRecOn with
 | ind x ih=>
   intro d hd;by_cases h:x=0
   ·subst h;rw[di] at hd;simp at hd
   rw[ll f h] at hd;by_cases c:x / b=0
   ·rw[c,di] at hd;simp at hd;have:=xt x b;rw[c] at this;omega
   have a:bY b (x / b)≠[]:=λe=>c ((yS f).1 e);rw[AG a] at hd;exact ih _ (xA (by omega) (by omega)) d hd
def val_append (b:Nat) (l m:List Nat):val b (l++m)=val b l+b ^ l.length*val b m:=by
 induction l with
 | nil=>simp[val]
 | cons d l ih=>
   simp only[ld,val,ih,hU,me];rw[ti,<-qS,mS b (b ^ l.length)];omega
def Et (b n:Nat):val b (List.replicate n 0)=0:=by
 induction n with
 | zero=>rfl
 | succ n ih=>simp[List.replicate_succ,val,ih]
def UC :∀l:List Nat,(∀d∈l,d<b)->val b l<b ^ l.length
 | [],_=>by simp[val]
 | d::l,h=>by
   have:=h d (by simp);have a:=UC l (λx c=>h x (by simp[c]));simp only[val,hU,me]
   calc d+b*val b l<b+b*val b l:=by omega
    _=b*(val b l+1):=by rw[ti];omega
    _<=b*b ^ l.length:=sY _ a
    _=b ^ l.length*b:=mS _ _
def Ji (j:2<=b):∀l:List Nat,(∀d∈l,d<b)->(∀d,l.getLast? = some d->d≠0)->bY b (val b l)=l
 | [],_,_=>di b
 | [d],h,hl=>by
   have h0:d≠0:=hl d rfl;have f:d<b:=h d (by simp);have e:val b [d]=d:=by simp[val]
   rw[e,ll j h0,rI f,pN f,di]
 | d::c::l,h,hl=>by
   have g:=Ji j (c::l) (λx i=>h x (kj _ i)) (λx i=>hl x (by rw[AG (by simp)];exact i));have f:d<b:=h d (by simp);have m:val b (d::c::l)=d+b*val b (c::l):=rfl;have:val b (c::l)≠0:=λe=>by rw[e,di] at g;cases g
   have a:d+b*val b (c::l)≠0:=by
    have:0<b*val b (c::l):=Nat.mul_pos (by omega) (by omega);omega
   rw[m,ll j a,Nat.add_mul_mod_self_left,rI f,x5 _ _ (by omega),pN f,kh,g]
def UD (a:2<=b) (h:bY b x=bY b y):x=y:=by
 rw[<-nT a x,<-nT a y,h]
def Dy (g:2<=b) (l:List Nat) (n:Nat) (c:∀d∈l,d<b) (a:∀d∈l.drop n,d=0) (f:n<=l.length) (h0:n=0\/l[n-1]?≠some 0) :
 bY b (val b l)=l.take n:=by
 have e:l.drop n=List.replicate (l.drop n).length 0:=List.eq_replicate_iff.2 ⟨rfl,a⟩;have h:val b l=val b (l.take n):=by
  conv=>lhs;rw[<-ke n l]
  rw[val_append,e,Et];omega
 rw[h];refine Ji g _ (λd hd=>c d (rl hd)) λd hd=>?_;rw[sX,iS,qk f] at hd;rcases h0 with h0|h0
 ·subst h0;simp at hd
 rcases pH n with h1|h1
 ·subst h1;simp at hd
 rw[vj] at hd
 split at hd
 ·rintro rfl;exact h0 hd
 cases hd
def getElem?_digs (a:2<=b):∀(i x:Nat),((bY b x)[i]?).getD 0=x / b ^ i % b
 | 0,x=>by
   by_cases h:x=0
   ·subst h;simp[di]
   rw[ll a h];simp
 | i+1,x=>by
   by_cases h:x=0
   ·subst h;simp[di]
   rw[ll a h];simp only[tl];rw[getElem?_digs a i (x / b),my,me,mS]
def oJ (b x i:Nat):Nat:=x / b ^ i % b
def xI (a:2<=b) (x i:Nat):oJ b x i<b:=mx _ (by omega)
def UE (a:2<=b) (x i:Nat):((bY b x)[i]?).getD 0=oJ b x i:=getElem?_digs a i x
def sK (x y:Nat):Int:=if x<y then -1 else if y<x then 1 else 0
def vO (x j:Nat):x / b ^ j=b*(x / b ^ (j+1))+oJ b x j:=by
 unfold oJ;rw[me,<-my];exact(xB _ _).symm
def Eu {j:Nat} (h:x / b ^ (j+1)=y / b ^ (j+1)) (hd:oJ b x j<oJ b y j):x<y:=by
 have a:=vO (b:=b) x j;have:=vO (b:=b) y j;rw[h] at a;have:x / b ^ j<y / b ^ j:=by omega
 rcases j' x y with h4|h4
 ·exact h4
 have:=Nat.div_le_div_right (c:=b ^ j) h4;omega
def z_ (b x n:Nat):List Nat:=(List.range n).map (oJ b x)
@[simp] theorem Jj (b x n:Nat):(z_ b x n).length=n:=by simp[z_]
def QZ (b x n:Nat):z_ b x (n+1)=z_ b x n++[oJ b x n]:=by simp[z_,tf]
def YC (a:2<=b) (x n:Nat):∀d∈z_ b x n,d<b:=by
 intro d hd;obtain⟨j,_,rfl⟩:=jx.1 hd;exact xI a x j
def mod_succ (b x n:Nat):x % b ^ (n+1)=x % b ^ n+b ^ n*oJ b x n:=by
 unfold oJ;rw[me,Nat.mod_mul]
def Jk (b x:Nat):∀n,val b (z_ b x n)=x % b ^ n
 | 0=>by simp[z_,val,Nat.mod_one]
 | n+1=>by rw[QZ,val_append,Jk b x n,mod_succ,Jj];simp[val]
def carry (b x y i:Nat):Nat:=(x % b ^ i+y % b ^ i) / b ^ i
def UF (e:2<=b) (x y i:Nat):carry b x y i<=1:=by
 unfold carry;have a:0<b ^ i:=th (by omega);have:=mx x a;have:=mx y a;have:(x % b ^ i+y % b ^ i) / b ^ i<2:=tM (by omega);omega
def carry_zero (b x y:Nat):carry b x y 0=0:=by simp[carry,Nat.mod_one]
def carry_succ (c:2<=b) (x y i:Nat):(oJ b x i+oJ b y i+carry b x y i) / b=carry b x y (i+1):=by
 have a:0<b ^ i:=th (by omega);have e:x % b ^ (i+1)+y % b ^ (i+1)=(x % b ^ i+y % b ^ i)+b ^ i*(oJ b x i+oJ b y i):=by rw[mod_succ,mod_succ,ti];omega
 show _=(x % b ^ (i+1)+y % b ^ (i+1)) / b ^ (i+1);rw[e,me,<-my,x5 _ _ a];show _=(carry b x y i+_) / b;rw[xj]
def YD (f:2<=b) (x y i:Nat):(oJ b x i+oJ b y i+carry b x y i) % b=oJ b (x+y) i:=by
 have a:0<b ^ i:=th (by omega);have e:x+y=(x % b ^ i+y % b ^ i)+b ^ i*(x / b ^ i+y / b ^ i):=by
  have:=xt x (b ^ i);have:=xt y (b ^ i);rw[ti];omega
 have c:(x+y) / b ^ i=carry b x y i+(x / b ^ i+y / b ^ i):=by
  conv=>lhs;rw[e]
  rw[x5 _ _ a];rfl
 unfold oJ;rw[c,xj (carry b x y i),vu (x / b ^ i+y / b ^ i),vu (x / b ^ i) (y / b ^ i)];simp[vu]
def Nb (a:2<=b) {n:Nat} (c:x<b ^ n) (d:y<b ^ n):x+y<b ^ (n+1):=by
 rw[me];have:b ^ n*2<=b ^ n*b:=sY _ a;omega
def Q0 (h:x<y):sK x y=-1:=by simp[sK,h]
def xJ (h:y<x):sK x y=1:=by unfold sK;rw[if_neg (by omega),if_pos h]
def UG (x:Nat):sK x x=0:=by simp[sK]
def cZ (f:2<=b) {n:Nat}:(bY b x).length<=n↔x<b ^ n:=by
 constructor
 ·intro h;have a:=UC (b:=b) (bY b x) (Gv f x);rw[nT f] at a;exact j9 a (kf (by omega) h)
 intro h;rcases j' n (bY b x).length with a|a
 ·exfalso;have g:bY b x≠[]:=by intro e;rw[e] at a;simp at a
  obtain⟨d,hd⟩:∃d,(bY b x).getLast? = some d:=⟨_,rL g⟩;have h0:=QY f x d hd;rw[sX] at hd;have c:=getElem?_digs f ((bY b x).length-1) x;rw[hd] at c;simp only[oy] at c;have i:x / b ^ ((bY b x).length-1)=0:=by
   apply pN;exact j9 h (kf (by omega) (by omega))
  rw[i] at c;simp at c;exact h0 c
 exact a
end Go.Cd
namespace Go.Cd
open Go.RowKit
variable {e T:TypeId} {w w' a:World} {v u:Value} {c:List Value} {b x n cap k o base:Nat} {cs:Array Value} {P:Program} {ops:Array Oper} {rest:List Oper} {Q:Exit->Act->World->Prop}
def Sl (e:TypeId) (w:World) (v:Value) (xs:List Value):Prop:=
 ∃a cap,v=.slice a xs.length cap/\xs.length<=cap/\(xs=[]/\(a=none->cap=0)\/∃b off cs c,a=some ⟨b,off,none⟩/\w.heap[b]? = some (.cells cs e c)/\∀i (h:i<xs.length),cs[off+i]? = some xs[i])
def bG (w:World) (v:Value) (xs:List Value):Prop:=
 ∃a cap,v=.slice a xs.length cap/\xs.length<=cap/\(xs=[]/\(a=none->cap=0)\/∃b off cs e c,a=some ⟨b,off,none⟩/\w.heap[b]? = some (.cells cs e c)/\∀i (h:i<xs.length),cs[off+i]? = some xs[i])
def Sl.any (h:Sl e w v c):bG w v c:=by
 obtain⟨a,cap,g,f,h⟩:=h;exact⟨a,cap,g,f,h.imp id λ⟨b,off,cs,d,r⟩=>⟨b,off,cs,e,d,r⟩⟩
def block_lt {o:Obj} (h:w.heap[b]? = some o):b<w.heap.size:=(jt.1 h).1
def Sl.mono (h:Sl e w v c) (k:Below w.heap.size w w'):Sl e w' v c:=by
 obtain⟨a,cap,l,i,h⟩:=h;refine⟨a,cap,l,i,h.imp id ?_⟩;rintro⟨b,off,cs,f,g,d,j⟩;exact⟨b,off,cs,f,g,by rw[k.block b (block_lt d)];exact d,j⟩
def bG.mono (h:bG w v c) (k:Below w.heap.size w w'):bG w' v c:=by
 obtain⟨a,cap,l,i,h⟩:=h;refine⟨a,cap,l,i,h.imp id ?_⟩;rintro⟨b,off,cs,e,f,g,d,j⟩;exact⟨b,off,cs,e,f,g,by rw[k.block b (block_lt d)];exact d,j⟩
def Sl.nil (e:TypeId) (w:World) (a:Option Addr) (cap:Nat) (h:a=none->cap=0):Sl e w (.slice a 0 cap) []:=⟨a,cap,rfl,gW _,.inl ⟨rfl,h⟩⟩
def bG.out (h:bG w v c):∃a cap,v=.slice a c.length cap/\c.length<=cap/\
 ∀i (d:i<c.length),∃b off,a=some ⟨b,off,none⟩/\b<w.heap.size/\w.cell? ⟨b,off+i,none⟩=some c[i]:=by
 obtain⟨a,cap,l,j,h⟩:=h;refine⟨a,cap,l,j,λi d=>?_⟩;rcases h with h|⟨b,off,cs,e,m,g,f,k⟩
 ·rw[h.1] at d;simp at d
 refine⟨b,off,g,block_lt f,?_⟩;unfold World.cell?;rw[f];simpa using k i d
def Sl.out (h:Sl e w v c):∃a cap,v=.slice a c.length cap/\c.length<=cap/\
 ∀i (d:i<c.length),∃b off,a=some ⟨b,off,none⟩/\b<w.heap.size/\w.cell? ⟨b,off+i,none⟩=some c[i]:=h.any.out
def bG.cases (h:bG w v c):(c=[]/\∃a cap,v=.slice a 0 cap/\(a=none->cap=0))\/
 ∃b off cap,v=.slice (some ⟨b,off,none⟩) c.length cap/\c.length<=cap/\0<c.length/\b<w.heap.size/\∀i (l:i<c.length),w.cell? ⟨b,off+i,none⟩=some c[i]:=by
 obtain⟨a,cap,j,n,h⟩:=h;by_cases g:c=[]
 ·subst g;refine .inl ⟨rfl,?_⟩;rcases h with h|⟨b,off,cs,e,m,f,d,k⟩
  ·exact⟨a,cap,j,h.2⟩
  exact⟨a,cap,j,λe=>by rw[f] at e;cases e⟩
 rcases h with h|⟨b,off,cs,e,m,f,d,k⟩
 ·exact absurd h.1 g
 subst f;refine .inr ⟨b,off,cap,j,n,jz.2 g,block_lt d,λi l=>?_⟩;unfold World.cell?;rw[d];simpa using k i l
def cu (l:List Nat):List Value:=l.map λd:Nat=>Value.int .u32 (d:Int)
def ds (l:List Nat):List Value:=l.map λd:Nat=>Value.int .i64 (d:Int)
@[simp] theorem nU (l:List Nat):(ds l).length=l.length:=by simp[ds]
def oM (l:List Nat) (i:Nat) (h:i<l.length):(ds l)[i]'(by simpa using h)=.int .i64 (l[i]:Nat):=by simp[ds]
def Q3 (l m:List Nat):ds (l++m)=ds l++ds m:=by simp[ds]
def bO (l:List Int):List Value:=l.map λd:Int=>Value.int .i64 d
@[simp] theorem dG (l:List Nat):(cu l).length=l.length:=by simp[cu]
@[simp] theorem fq (l:List Int):(bO l).length=l.length:=by simp[bO]
abbrev nI:TypeId:=109
abbrev bB:TypeId:=3
def B:Nat:=4294967296
def bT (w:World) (v:Value) (x:Nat):Prop:=∃s,v=.agg #[s]/\Sl nI w s (cu (bY B x))
def bT.mono (h:bT w v x) (a:Below w.heap.size w w'):bT w' v x:=by
 obtain⟨s,c,b⟩:=h;exact⟨s,c,b.mono a⟩
def bT.out (h:bT w v x):∃a n cap,v=.agg #[.slice a n cap]/\bT w (.agg #[.slice a n cap]) x:=by
 obtain⟨s,rfl,a,cap,rfl,b⟩:=h;exact⟨a,_,cap,rfl,⟨_,rfl,a,cap,rfl,b⟩⟩
def bT.len {a:Option Addr} (h:bT w (.agg #[.slice a n cap]) x):n=(bY B x).length:=by
 obtain⟨s,b,d,c,rfl,_⟩:=h;simp at b;exact b.2.1
def Sl.put {g:List Value} (h:Sl e w v g) {i:Nat×Nat} (n:w.heap[k]? = some (.cells cs T i)) (p:T≠e) :
 Sl e (w.setCell ⟨k,o,none⟩ u) v g:=by
 obtain⟨a,cap,q,l,h⟩:=h;refine⟨a,cap,q,l,h.imp id ?_⟩;rintro⟨b,off,d,c,j,f,m⟩;refine⟨b,off,d,c,j,?_,m⟩;rw[i_ _ _ _ _ (λe=>?_)]
 ·exact f
 simp only at e;subst e;rw[n] at f;cases f;exact p rfl
def bT.put (h:bT w v x) {a:Nat×Nat} (c:w.heap[k]? = some (.cells cs T a)) (b:T≠nI) :
 bT (w.setCell ⟨k,o,none⟩ u) v x:=by
 obtain⟨s,e,d⟩:=h;exact⟨s,e,d.put c b⟩
def Jl {c:Nat×Nat} (d:w.heap[k]? = some (.cells cs T c)) (b:o<cs.size):(w.setCell ⟨k,o,none⟩ u).cell? ⟨k,o,none⟩=some u:=
 World.cell?_setCell_same (w:=w) (a:=⟨k,o,none⟩) (v:=u) (u:=cs[o]) (by unfold World.cell?;rw[d];simp[b])
def oN {b:World} {a:Option Addr} {c:Value} {e:Nat×Nat} (d:b.heap[k]? = some (.cells #[c] T e)) (g:T≠nI) (f:bT b (.agg #[.slice a n cap]) x) :
 (b.setCell ⟨k,0,none⟩ (.slice a n cap)).cell? ⟨k,0,none⟩=some (.slice a n cap)/\bT (b.setCell ⟨k,0,none⟩ (.slice a n cap)) (.agg #[.slice a n cap]) x:=
 ⟨Jl d (by simp),f.put d g⟩
def dV {a b:Bool} (h:a=b):Ending.returned (.bool a)=.returned (.bool b):=by rw[h]
def Gw {k:IntKind} {a b:Int} (h:a=b):Ending.returned (.int k a)=.returned (.int k b):=by rw[h]
def heap_alloc_new' (w:World) (o:Obj) (k:Nat) (h:k=w.heap.size):(w.alloc o).heap[k]? = some o:=by subst h;exact heap_alloc_new _ _
def Qa (w:World) (o:Obj):(w.alloc o).heap[w.heap.size]? = some o:=heap_alloc_new _ _
def bE:2<=B:=by unfold B;omega
def abg {W:World} (c:Below W.heap.size W a):(∀b o,b<W.heap.size->a.cell? ⟨b,o,none⟩=W.cell? ⟨b,o,none⟩)/\(∀b o,b<W.heap.size->a.frozen? ⟨b,o,none⟩=W.frozen? ⟨b,o,none⟩):=
 ⟨λb o h=>c.cell (p:=⟨b,o,none⟩) h,λb o h=>c.frozen (p:=⟨b,o,none⟩) h⟩
def Sl.aU (h:w.ownsRow base e 1 v n c):Sl e w v c:=by
 obtain⟨a,d⟩:=h;simp only[qK] at a d;rcases d with⟨rfl,rfl⟩|⟨g,cap,b,rfl,o,f,k,m,p,j⟩
 ·obtain rfl:=im.1 a;exact .nil _ _ _ _ (λ_=>rfl)
 refine⟨_,cap,by rw[a],by rw[a];exact k,.inr ⟨g,0,b,(0,0),rfl,f,λi l=>?_⟩⟩;subst j;rw[iS] at l;rw[kh,we,<-mm];exact gA _
def Elem (P:Program) (t e:TypeId) (z:Value) (bytes:Nat):Prop:=
 z.oneCell'=true/\P.underlying t=some (.slice e)/\∃i,P.info? e=some i/\i.zero=some z/\i.size=1/\i.bytes=bytes
def rM (w:World) (e:TypeId):(w.alloc (.cells #[] e)).ownsRow w.heap.size e 1 (.slice (some ⟨w.heap.size,0,none⟩) 0 0) 0 []:=
 ⟨by simp,.inr ⟨w.heap.size,0,#[],rfl,gw _,heap_alloc_new _ _,gw _,gW _,rfl,rfl⟩⟩
def kG {z:Value} (h:z.oneCell'=true):z.cells.size=1:=by
 cases z <;> first|rfl|(simp[Value.oneCell'] at h)
def bR {P:Program} {w:World} {ops:Array Oper} {rest:List Oper} {o:Oper} {a:Act} {Q:Exit->Act->World->Prop} (B:o.guard=none) (s x:Operand) (t:TypeId)
 (J:o.op=.call { callee:=.builtin .append,args:=#[s,x],argTypes:=#[t,t] })
 (base:Nat) (e:TypeId) (z:Value) (d:Nat) (V:Elem P t e z d)
 (v:Value) (n:Nat) (C:List Value) (O:a.eval s=v) (f:w.ownsRow base e 1 v n C)
 (u:Value) (c:List Value) (N:a.eval x=u) (X:bG w u c) (Y:∀u∈c,u.oneCell'=true)
 (D:n+c.length<=maxLen) (g:(n+c.length)*d<=140737488355328) (m:base<=w.heap.size)
 (h:∀v' w',w'.ownsRow base e 1 v' (n+c.length) (C++c)->w.grownBy w' v.ownBlock->wpList P ops Q rest (a.put o.dst v') w'):wpList P ops Q (o::rest) a w:=by
 obtain⟨E,K,i,L,S,l,H⟩:=V;obtain⟨F,cap,rfl,Z,k⟩:=X;cases F with
 | none=>
   have U:c=[]:=by
    rcases k with k|⟨b,off,cs,_,M,r,_⟩
    ·exact k.1
    cases r
   subst U;have q:cap=0:=by
    rcases k with k|⟨b,off,cs,_,M,r,_⟩
    ·exact k.2 rfl
    cases r
   subst q;refine wpList_append_own_none B s x t J base e i 1 K L v n C O f N ?_;exact h v w (by simpa using f) ⟨rfl,rfl,rfl,gw _,λ_ _ _=>rfl⟩
 | some F=>
   refine wpList_append_own w B s x t J base e i z 1 d K L S l H (kG E) (by decide) v n C O f F c.length cap c N (by simp) ?_ Y D g m ?_
   ·intro j y T;obtain⟨p,rfl⟩:=ir.1 T;rcases k with k|⟨b,off,cs,_,M,r,I,G⟩
    ·rw[k.1] at p;simp at p
    cases r;have:=G j p;unfold World.cell? Addr.add;by_cases A:j=0
    ·subst A;simp only[if_true];rw[I];simpa using this
    rw[if_neg A];simp only;rw[I];simpa using this
   intro v' w' R W _;exact h v' w' R W
def aj {B:Nat} {off:Nat} (h:Below B a w) (c:B<=b):Below B a (w.setCell ⟨b,off,none⟩ u):=h.setCell c u
def ah (o:Obj):Below w.heap.size w (w.alloc o):=(gO _ _).alloc (gw _) o
def aO {o:Obj} (h:w'=w.alloc o):Below w.heap.size w w':=by rw[h];exact ah _
def eG {a:Nat} (h:a<b):decide ((a:Int)<(b:Int))=true:=decide_eq_true (by omega)
def gI {a:Nat} (h:b<=a):decide ((a:Int)<(b:Int))=false:=decide_eq_false (by omega)
def ag (w:World):Below w.heap.size w w.drew:=(gO _ _).drew
def aB (E:Below a.heap.size a w) (h:a.cell? ⟨b,o,none⟩=some v):w.cell? ⟨b,o,none⟩=some v:=
 (E.cell (p:=⟨b,o,none⟩) (xb a ⟨b,o,none⟩ h)).trans h
def Gr.cell (E:Below a.heap.size a w) (h:a.cell? ⟨b,o,none⟩=some v):∀g:Gr w,g.tw.cell? ⟨b,o,none⟩=some v:=
 λg=>aB (af E g.ext) h
def dH (o o':Obj):Below w.heap.size w ((w.alloc o).alloc o'):=(ah o).alloc (by simp) o'
def gm (w:World) {o:Oper} {a:Act} 
 (x:o.guard=none) (l c:Operand) (t:TypeId) (h:o.op=Op.makeSlice t l c)
 (base:Nat) (e:TypeId) (z:Value) (b:Nat) (D:Elem P t e z b) (g:z.cells=#[z])
 (j k:IntKind) (L C:Int) (n:Nat) (E:a.eval l=.int j L) (F:a.eval c=.int k C) (H:L=(n:Int)) (u:C=(n:Int)) (r:b*n<=281474976710656) (G:n<=maxLen) (B:base<=w.heap.size)
 (p:∀w',w'.ownsRow base e 1 (.slice (some ⟨w.heap.size,0,none⟩) n n) n (List.replicate n z)->w.grownBy w' none->wpList P ops Q rest (a.put o.dst (.slice (some ⟨w.heap.size,0,none⟩) n n)) w') :
 wpList P ops Q (o::rest) a w:=by
 obtain⟨y,q,i,A,v,d,f⟩:=D;refine wpList_make_full w x l c t h base e i z 1 q A v d j k L C n E F H u (by rw[f];exact r) G B λw' m s=>p w' ?_ s;rw[g,qK,toList_madeCells_one] at m;exact m
def jY {g:Nat} {a:List Value} (h:w.ownsRow base e 1 (.slice (some ⟨g,0,none⟩) n cap) n a) {j:Nat} (b:j<a.length) :
 w.cell? ⟨g,j,none⟩=some a[j]/\w.frozen? ⟨g,j,none⟩=false:=by
 have:a.length=n*1:=h.1;exact⟨by rw[h.cellAt j (by omega)];exact gA b,h.frozenAt j⟩
def aH {a:Nat} (h:w.ownsRow base e a v n c) (k:Below w.heap.size w w'):w'.ownsRow base e a v n c:=by
 obtain⟨j,f⟩:=h;refine⟨j,f.imp id ?_⟩;rintro⟨g,cap,b,l,i,d,r⟩;exact⟨g,cap,b,l,i,by rw[k.block g (block_lt d)];exact d,r⟩
def fO (h:w.grownBy w' none):Below w.heap.size w w':=
 ⟨h.os,h.tape,h.output,h.size,λk a=>h.block k a (by simp)⟩
def rP (w:World) (cs:Array Value) (e:TypeId):bG (w.alloc (.cells cs e)) (.slice (some ⟨w.heap.size,0,none⟩) cs.size cs.size) cs.toList:=
 ⟨_,cs.size,by simp,by simp,.inr ⟨w.heap.size,0,cs,e,(0,0),rfl,heap_alloc_new _ _,λi a=>by
   rw[kh,<-mm];exact gA a⟩⟩
def gp {P:Program} {W:World} {ops:Array Oper} {rest:List Oper} {o:Oper} {a:Act} {Q:Exit->Act->World->Prop} (i:o.guard=none) (s x:Operand) (t:TypeId)
 (r:o.op=.call { callee:=.builtin .append,args:=#[s,x],argTypes:=#[t,t] })
 (base:Nat) (e:TypeId) (z:Value) (b:Nat) (p:Elem P t e z b)
 (v:Value) (n:Nat) (f:List Value) (D:a.eval s=v) (d:W.ownsRow base e 1 v n f)
 (u:Value) (A:a.eval x=.slice (some ⟨W.heap.size,0,none⟩) 1 1) (w:u.oneCell'=true)
 (c:(n+1)*b<=140737488355328) (l:n+1<=maxLen) (j:World) (m:Below base j W) (g:base<=j.heap.size)
 (h:∀v' w',w'.ownsRow base e 1 v' (n+1) (f++[u])->Below base j w'->wpList P ops Q rest (a.put o.dst v') w'):wpList P ops Q (o::rest) a (W.alloc (.cells #[u] e)):=by
 have:=m.size;refine bR i s x t r base e z b p v n f D (d.alloc _) _ [u] A (rP W #[u] e) (by simpa using w) (by simpa using l) (by simpa using c) (by simp;omega) ?_;intro v' w' C B;refine h v' w' (by simpa using C) ((m.alloc (by omega) _).grown B (by simp;omega) ?_);intro k y;exact(d.lt k y).1
def Gx (l:List Nat):∀u∈cu l,u.oneCell'=true:=by
 intro u a;obtain⟨d,_,rfl⟩:=jx.1 a;rfl
def Gy:Elem Go.Proofs.Tryz.prog 42 nI (.int .u32 0) 4:=⟨rfl,Go.Proofs.Tryz.underlying42,info_parts (by kernel_rfl)⟩
def jI:Elem Go.Proofs.Tryz.prog 23 bB (.int .i64 0) 8:=⟨rfl,Go.Proofs.Tryz.underlying23,info_parts (by kernel_rfl)⟩
def mixed:Go.Proofs.Tryz.prog.follows .mixedOrders=true:=by kernel_rfl
end Go.Cd
