/- CedillaProducts: where a text may be cut apart, it has as many texts that are alike as its two parts multiplied; no condition. -/
import Derived.Lib.Hide
import Derived.Deep.Quiet
import Derived.Tactics
import Derived.Below
import Derived.Test.YtmpkfkoficehpaaGreatDoorRows
import Derived.WalkKit
import Derived.WalkSpells
import Derived.WalkLawsBesides
import Derived.BigQuiet
import Derived.Laws.AppendOwnNone
set_option maxRecDepth 100000
set_option maxHeartbeats 6400000
theorem aa {p:Prop} (h:p):Go.RowKit.Hid p:=h
theorem ae {a:Sort _} (x:a):∃y,y=x:=⟨x,rfl⟩
namespace Go.Cd
section
open Go.RowKit
theorem yn (w:World):Below w.heap.size w w:=Below.refl _ _
theorem ah {a b c:World} (h:Below a.heap.size a b) (k:Below b.heap.size b c):Below a.heap.size a c:=h.trans (k.mono h.size)
structure Gr (w:World) where
 tw:World
 ext:Below w.heap.size w tw
section
variable {P : Program} {ops : Array Oper} {md : Region.Mode} {head : Array Bool}
def QP (Q:Exit→Act→World→Prop):Exit→Act→World→Prop
 | .panic _,_,_=>False
 | e,a,w=>Q e a w
theorem qg {Q:Exit→Act→World→Prop} {i:Nat} {a:Act} {w:World} {K:Act→World→Prop} (hh:wpOp P ops (QP Q) i K a w):wpOp P ops Q i K a w:=by
 unfold wpOp at *
 split
 ·rename_i ho;simpa only [ho] using hh
 ·rename_i o ho;simp only [ho] at hh
  split
  ·rename_i hw;simp only [hw,if_true] at hh;rcases hh with hh|⟨h1,h2⟩
   ·refine .inl ?_;unfold Oper.wp at *;generalize (execOp a.eval o).run P w=r at *;cases r with
    | ok n w'=>
      cases n <;> simp only [Oper.upon] at hh ⊢
      case enter f args=>
       refine Calls.mono hh fun e w'' he=>?_;cases e with
       | returned u=>exact he
       | panicked c=>exact he.elim
       | outgrown=>exact he
      all_goals exact hh
    | halt x w'=>cases x <;> simp only [Oper.upon] at hh ⊢;exact hh.elim
   ·exact .inr ⟨h1,h2⟩
  ·rename_i hw;simpa only [hw,if_false,Bool.false_eq_true] using hh
def rH (P:Program) (ops:Array Oper) (Q:Exit→Act→World→Prop) (i:Nat) (K:Act→World→Prop) (a:Act) (w:World):Prop:=
 wpOp P ops (QP Q) i (fun a' w'=>Below w.heap.size w w'∧K a' w') a w
def iE (head listed:Array Bool):Bool:=(List.range head.size).all fun i=>!head.getD i false||listed.getD i false
theorem fw {head listed:Array Bool} (h:iE head listed=true) {i:Nat} (hi:head.getD i false=true):listed.getD i false=true:=by
 have hlt:i<head.size:=by
  rcases Nat.lt_or_ge i head.size with h'|h'
  ·exact h'
  ·simp [Array.getElem?_eq_none h'] at hi
 have:=List.all_eq_true.1 h i (List.mem_range.2 hlt);rw [hi] at this;simpa using this
def JM (P:Program) (md:Region.Mode) (ops:Array Oper) (head:Array Bool) (Q:Exit→Act→World→Prop) (T:Array Bool→Act→World→Prop):Nat→Array Bool→Act→World→Prop
 | 0,listed,a,w=>iE head listed=true∧T listed a w
 | n+1,listed,a,w=>Region.ready md ops listed≠[]∧
   ∀i∈Region.ready md ops listed,head.getD i false=true∧rH P ops Q i (JM P md ops head Q T n (listed.setIfInBounds i true)) a w
theorem rJ {Q:Exit→Act→World→Prop} {t:Nat}:∀(n:Nat) (listed:Array Bool) (a:Act) (w:World),
 JM P md ops head Q (fun l a w=>wpAny P md ops Q t l a w) n listed a w→wpAny P md ops Q (n+t) listed a w
 | 0,_,_,_,h=>by simpa using h.2
 | n+1,listed,a,w,h=>by
   rw [Nat.add_right_comm];refine ⟨fun h0=>absurd h0 h.1,fun i hi=>?_⟩;exact wpOp_mono (fun a' w' h'=>rJ n _ a' w' h'.2) (qg (h.2 i hi).2)
def dW (P:Program) (ops:Array Oper) (w:World) (o:Oper) (v:Value) (a:Act):Prop:=
 (Region.wanted o (yielded ops a.tmps)=true∧∀w',Below w.heap.size w w'→((execOp a.eval o).run P w'=.ok (.value v) w'∨((execOp a.eval o).run P w'=.ok .skip w'∧v=undef)))∨
 (Region.wanted o (yielded ops a.tmps)=false∧v=undef)
theorem dW.mono {w w':World} {o:Oper} {v:Value} {a:Act} (h:dW P ops w o v a) (hw:Below w.heap.size w w'):dW P ops w' o v a:=
 h.imp (fun ⟨h1,h2⟩=>⟨h1,fun w'' hw''=>h2 w'' (ah hw hw'')⟩) id
theorem dW.of_same {w:World} {o:Oper} {v:Value} {a a':Act} (hy:dW P ops w o v a) (he:execOp a'.eval o=execOp a.eval o)
 (hw:Region.wanted o (yielded ops a'.tmps)=Region.wanted o (yielded ops a.tmps)):dW P ops w o v a':=by
 unfold dW at *;rw [he,hw];exact hy
theorem dW.rH {Q:Exit→Act→World→Prop} {w:World} {i:Nat} {o:Oper} {v:Value} {a:Act} (hi:ops[i]? = some o) (hy:dW P ops w o v a)
 {K:Act→World→Prop} (h:K (a.put o.dst v) w):rH P ops Q i K a w:=by
 unfold Cd.rH wpOp;simp only [hi];rcases hy with ⟨hw,hv⟩|⟨hw,rfl⟩
 ·have h1:=hv w (Below.refl _ _);clear hv;rcases h1 with h1|⟨h1,rfl⟩
  ·simp only [hw,if_true,Oper.wp,h1,Oper.upon];exact .inl ⟨Below.refl _ _,h⟩
  ·simp only [hw,if_true,Oper.wp,h1,Oper.upon];exact .inl ⟨Below.refl _ _,h⟩
 ·simp only [hw,Bool.false_eq_true,if_false];exact ⟨Below.refl _ _,h⟩
theorem Mh {Q:Exit→Act→World→Prop} {j:Nat} {oi oj:Oper} {v:Value} (hj:ops[j]? = some oj) (hap:oi.apart ops oj=true)
 (hsi:∀cs b,oi.op≠.select cs b) (hsj:∀cs b,oj.op≠.select cs b)
 {K:Act→World→Prop} {a:Act} {w:World}
 (hy:dW P ops w oi v a) (h:rH P ops Q j K (a.put oi.dst v) w) :
 rH P ops Q j (fun a' w'=>dW P ops w' oi v a'∧K (a'.put oi.dst v) w') a w:=by
 obtain ⟨h1,h2,h3⟩:=Oper.apart_spec hap;have keep:∀(a:Act),dW P ops w oi v a→∀u,dW P ops w oi v (a.put oj.dst u):=fun a hy u=>
  hy.of_same (execOp_put oi hsi a oj.dst u h3) (wanted_put oi a oj.dst u h3)
 have keepD:∀d,dW P ops w oi v { a with defers:=d::a.defers }:=fun d=>hy.of_same rfl rfl;unfold rH wpOp at *;simp only [hj] at *;rw [wanted_put oj a oi.dst v h1] at h
 split
 ·rename_i hw;simp only [hw,if_true] at h;rcases h with h|⟨hasks,hlets⟩
  case inr=>exact .inr ⟨by unfold Oper.asks at *;rw [execOp_put oj hsj a oi.dst v h1] at hasks;exact hasks,hlets⟩
  refine .inl ?_;unfold Oper.wp at *;rw [execOp_put oj hsj a oi.dst v h1] at h;generalize (execOp a.eval oj).run P w=r at *;cases r with
  | ok n w'=>
    cases n <;> simp only [Oper.upon] at h ⊢
    case value u=>exact ⟨h.1,(keep a hy u).mono h.1,by rw [←Act.put_comm a v u h2];exact h.2⟩
    case skip=>exact ⟨h.1,(keep a hy _).mono h.1,by rw [←Act.put_comm a v undef h2];exact h.2⟩
    case defer d=>
     refine ⟨h.1,(dW.of_same (keepD d) (execOp_put oi hsi _ oj.dst _ h3) (wanted_put oi _ oj.dst _ h3)).mono h.1,?_⟩;rw [←Act.put_comm _ v undef h2,←Act.put_defers];exact h.2
    case enter f args=>
     refine Calls.mono h fun e w'' he=>?_;cases e with
     | returned u=>exact ⟨he.1,(keep a hy u).mono he.1,by rw [←Act.put_comm a v u h2];exact he.2⟩
     | panicked c=>exact he.elim
     | outgrown=>exact he
    case row row args=>exact Rows.mono h fun u w'' he=>⟨he.1,(keep a hy u).mono he.1,by rw [←Act.put_comm a v u h2];exact he.2⟩
  | halt x w'=>
    cases x <;> simp only [Oper.upon] at h ⊢
    case panic u=>exact h.elim
 ·rename_i hw;simp only [hw] at h;exact ⟨h.1,keep a hy _,by rw [←Act.put_comm a v undef h2];exact h.2⟩
theorem mG {Q:Exit→Act→World→Prop} {i:Nat} {a:Act} {w:World} {K K':Act→World→Prop} (h:∀a w,K a w→K' a w)
 (hh:rH P ops Q i K a w):rH P ops Q i K' a w:=wpOp_mono (fun _ _ ⟨h1,h2⟩=>⟨h1,h _ _ h2⟩) hh
def Closed (md:Region.Mode) (ops:Array Oper) (listed:Array Bool):Prop:=
 ∀j o,ops[j]? = some o→listed.getD j false=true→∀e∈o.after,Region.binds md e=true→listed.getD e.on false=true
def waits (md:Region.Mode) (ops:Array Oper) (i:Nat):Nat→Nat→Bool
 | 0,_=>false
 | n+1,j=>match ops[j]? with
   | some o=>o.after.any (fun e=>Region.binds md e&&e.on==i)||o.after.any (fun e=>Region.binds md e&&waits md ops i n e.on)
   | none=>false
theorem gM {i:Nat} {listed:Array Bool} (hc:Closed md ops listed) (hi:listed.getD i false=false):∀(n j:Nat) (oj:Oper),ops[j]? = some oj→waits md ops i n j=true→
 ¬∀e∈oj.after,Region.binds md e=true→listed.getD e.on false=true
 | 0,_,_,_,h=>by cases h
 | n+1,j,oj,hj,h=>by
   intro hall;simp only [waits,hj,Bool.or_eq_true] at h;rcases h with h|h
   ·obtain ⟨e,he,hb⟩:=Array.any_eq_true'.1 h;simp only [Bool.and_eq_true,beq_iff_eq] at hb;have:=hall e he hb.1;rw [hb.2,hi] at this;cases this
   ·obtain ⟨e,he,hb⟩:=Array.any_eq_true'.1 h;simp only [Bool.and_eq_true] at hb;have hl:=hall e he hb.1;cases ho:ops[e.on]? with
    | none=>rw [show waits md ops i n e.on=false from by cases n <;> simp [waits,ho]] at hb;exact absurd hb.2 (by simp)
    | some o=>exact gM hc hi n e.on o ho hb.2 (hc e.on o ho hl)
theorem Closed.step {listed:Array Bool} (hc:Closed md ops listed) {j:Nat} (hj:j∈Region.ready md ops listed):Closed md ops (listed.setIfInBounds j true):=by
 intro k o ho hk e he hb;apply getD_set_true;by_cases hkj:j=k
 ·subst hkj;obtain ⟨_,o',ho',hall⟩:=mem_ready.1 hj;rw [ho'] at ho;cases ho;exact hall e he hb
 ·rw [getD_set_ne false hkj] at hk;exact hc k o ho hk e he hb
theorem Bu {Q:Exit→Act→World→Prop} {T:Array Bool→Act→World→Prop} {i:Nat} {oi:Oper} {v:Value} (hi:ops[i]? = some oi) (hsel:∀(j:Nat) (o:Oper) cs b,ops[j]? = some o→o.op≠.select cs b)
 (hhi:head.getD i false=true) :
 ∀(n:Nat) (listed:Array Bool) (a:Act) (w:World),Closed md ops listed→
  (∀j oj,ops[j]? = some oj→j≠i→listed.getD j true=false→(∀e∈oj.after,Region.binds md e=true→e.on≠i)→(head.getD j false=true∧oi.apart ops oj=true)∨waits md ops i ops.size j=true)→
  i∈Region.ready md ops listed→dW P ops w oi v a→
  JM P md ops head Q T n (listed.setIfInBounds i true) (a.put oi.dst v) w→JM P md ops head Q T (n+1) listed a w:=by
 intro n;have key:∀(listed:Array Bool),Closed md ops listed→
  (∀j oj,ops[j]? = some oj→j≠i→listed.getD j true=false→(∀e∈oj.after,Region.binds md e=true→e.on≠i)→(head.getD j false=true∧oi.apart ops oj=true)∨waits md ops i ops.size j=true)→
  i∈Region.ready md ops listed→∀j,j∈Region.ready md ops listed→j≠i→∃oj,ops[j]? = some oj∧listed.getD j true=false∧head.getD j false=true∧oi.apart ops oj=true:=by
  intro listed hcl hfree hr j hj hji;obtain ⟨hjun,oj,hoj,hall⟩:=mem_ready.1 hj;have h0:=(mem_ready.1 hr).1;have hi0:listed.getD i false=false:=by
   rcases Nat.lt_or_ge i listed.size with h'|h'
   ·simp [h'] at h0 ⊢;exact h0
   ·simp [Array.getElem?_eq_none h']
  have hnot:∀e∈oj.after,Region.binds md e=true→e.on≠i:=fun e he hb heq=>by
   have h1:=hall e he hb;rw [heq,hi0] at h1;cases h1
  rcases hfree j oj hoj hji hjun hnot with h|h
  ·exact ⟨oj,hoj,hjun,h.1,h.2⟩
  ·exact absurd hall (gM hcl hi0 _ j oj hoj h)
 induction n with
 | zero=>
   intro listed a w hcl hfree hr hy H;refine ⟨fun h=>(by rw [h] at hr;cases hr),fun j hj=>?_⟩;by_cases hji:j=i
   ·subst hji;exact ⟨hhi,hy.rH hi H⟩
   ·obtain ⟨oj,hoj,hjun,hjh,_⟩:=key listed hcl hfree hr j hj hji;have h2:=fw H.1 hjh;rw [getD_set_ne false (Ne.symm hji)] at h2;rcases Nat.lt_or_ge j listed.size with h'|h'
    ·simp [h'] at hjun h2;rw [hjun] at h2;cases h2
    ·simp [Array.getElem?_eq_none h'] at h2
 | succ n ih=>
   intro listed a w hcl hfree hr hy H;refine ⟨fun h=>(by rw [h] at hr;cases hr),fun j hj=>?_⟩;by_cases hji:j=i
   ·subst hji;exact ⟨hhi,hy.rH hi H⟩
   ·obtain ⟨Mi,h1⟩:=H.2 j (ready_mono hj hji);obtain ⟨oj,hoj,hjun,_,hap⟩:=key listed hcl hfree hr j hj hji;have h2:=Mh hoj hap (fun cs b=>hsel i oi cs b hi) (fun cs b=>hsel j oj cs b hoj) hy h1;have hfree':∀k ok,ops[k]? = some ok→k≠i→(listed.setIfInBounds j true).getD k true=false→
     (∀e∈ok.after,Region.binds md e=true→e.on≠i)→(head.getD k false=true∧oi.apart ops ok=true)∨waits md ops i ops.size k=true:=fun k ok hk hki hun hno=>by
     refine hfree k ok hk hki ?_ hno;by_cases hjk:j=k
     ·subst hjk;exact hjun
     ·rw [getD_set_ne true hjk] at hun;exact hun
    refine ⟨Mi,mG (fun a' w' h3=>ih (listed.setIfInBounds j true) a' w' (hcl.step hj) hfree' (ready_mono hr (Ne.symm hji)) h3.1 ?_) h2⟩;rw [Array.setIfInBounds_comm _ _ hji];exact h3.2
def Qo (md:Region.Mode) (ops:Array Oper) (head listed:Array Bool) (i:Nat):Bool:=
 match ops[i]? with
 | none=>false
 | some oi=>(List.range ops.size).all fun j=>j==i||listed.getD j true||match ops[j]? with
    | some oj=>oj.after.any (fun e=>Region.binds md e&&e.on==i)||(head.getD j false&&oi.apart ops oj)||waits md ops i ops.size j
    | none=>true
theorem fE {i:Nat} {oi:Oper} {listed:Array Bool} (hi:ops[i]? = some oi) (h:Qo md ops head listed i=true) (j:Nat) (oj:Oper)
 (hj:ops[j]? = some oj) (hne:j≠i) (hun:listed.getD j true=false) (hno:∀e∈oj.after,Region.binds md e=true→e.on≠i) :
 (head.getD j false=true∧oi.apart ops oj=true)∨waits md ops i ops.size j=true:=by
 simp only [Qo,hi,List.all_eq_true,List.mem_range] at h;have h1:=h j (Array.getElem?_eq_some_iff.1 hj).1;simp only [hj,Bool.or_eq_true,beq_iff_eq,hne,false_or,hun,Bool.false_eq_true] at h1;rcases h1 with (h1|h1)|h1
 ·obtain ⟨e,he,hb⟩:=Array.any_eq_true'.1 h1;simp only [Bool.and_eq_true,beq_iff_eq] at hb;exact absurd hb.2 (hno e he hb.1)
 ·exact .inl (by simpa using h1)
 ·exact .inr h1
def qh (md:Region.Mode) (ops:Array Oper) (listed:Array Bool):Bool:=
 (List.range ops.size).all fun j=>!listed.getD j false||match ops[j]? with
   | some o=>o.after.all fun e=>!Region.binds md e||listed.getD e.on false
   | none=>true
theorem iF {listed:Array Bool} (h:qh md ops listed=true):Closed md ops listed:=by
 intro j o ho hj e he hb;have h1:=List.all_eq_true.1 h j (List.mem_range.2 (Array.getElem?_eq_some_iff.1 ho).1);simp only [hj,ho,Bool.not_true,Bool.false_or] at h1;have h2:=Array.all_eq_true_iff_forall_mem.1 h1 e he;simpa [hb] using h2
def jk (md:Region.Mode) (ops:Array Oper) (head:Array Bool):List Nat→Array Bool→Bool
 | [],_=>true
 | i::l,listed=>(Region.ready md ops listed).contains i&&Qo md ops head listed i&&head.getD i false&&jk md ops head l (listed.setIfInBounds i true)
def aQ:List Nat→Array Bool→Array Bool
 | [],listed=>listed
 | i::l,listed=>aQ l (listed.setIfInBounds i true)
def Bv:Op→Bool
 | .move _|.assign _|.pick ..|.load ..|.binOp ..|.unOp ..|.convert ..|.slice ..|.fieldAddr ..|.field ..|.indexAddr ..|.index ..|.extract ..|.build ..|.nilCheck _=>true
 | .call { callee:=.builtin b,.. }=>match b with|.len|.cap|.max|.min=>true|_=>false
 | _=>false
theorem rM (s:Sem Value) (w:World) (f:FuncId) (args:Array Value) (w':World):(s.bind fun x=>Sem.pure (Next.value x)).run P w≠.ok (.enter f args) w':=by
 rw [Sem.run_bind'];cases s.run P w with
 | ok x w1=>intro h;cases h
 | halt x w1=>intro h;cases h
theorem Dk {P:Program} {ρ:Operand→Value} {x:Operand} {dst:Option Tmp} {type:TypeId} {pos:String} {after:Array Edge} {guard:Option (Nat×Bool)} (w:World) (f:FuncId) (args:Array Value) (w':World):(execOp ρ { dst:=dst,op:=.nilCheck x,type:=type,pos:=pos,after:=after,guard:=guard }).run P w≠.ok (.enter f args) w':=by
 simp only [execOp]
 split
 ·intro h;cases h
 ·intro h;cases h
 ·intro h;cases h
 ·split
  ·intro h;cases h
  ·show (Sem.bind _ _).run P w≠_;rw [Sem.run_bind'];cases (program:Sem Program).run P w with
   | halt x w1=>intro h;cases h
   | ok p w1=>
     show (Sem.bind _ _).run P w1≠_;rw [Sem.run_bind'];cases (nilAhead (p.types.size+Made.depth) _ _ _).run P w1 with
     | halt x w2=>intro h;cases h
     | ok b w2=>
       show Sem.run P (if (b !=some false)=true then _ else _) w2≠_
       split
       ·show (Sem.bind _ _).run P w2≠_;rw [Sem.run_bind'];intro h;generalize Sem.run P (unsupported _) w2=r at h;cases r with
        | halt x w3=>cases h
        | ok x w3=>cases h
       ·intro h;cases h
  ·intro h;cases h
 ·intro h;cases h
theorem tF {ρ:Operand→Value} {o:Oper} (h:Bv o.op=true) (w:World) (f:FuncId) (args:Array Value) (w':World):(execOp ρ o).run P w≠.ok (.enter f args) w':=by
 obtain ⟨dst,op,type,pos,after,guard⟩:=o;cases op <;> simp only [Bv,Bool.false_eq_true] at h
 case move x=>intro h;cases h
 case assign x=>intro h;cases h
 case nilCheck x=>exact Dk _ _ _ _
 case pick c a b=>
  simp only [execOp];cases ρ c <;> first|(intro h;cases h;done)|(intro h;simp [asBool] at h)
 case call c=>
  obtain ⟨callee,args',ats⟩:=c;cases callee <;> simp only [Bool.false_eq_true] at h
  case builtin b=>
   cases b <;> simp only [Bool.false_eq_true] at h
   all_goals exact rM _ _ _ _ _
 all_goals exact rM _ _ _ _ _
def gN (ops:Array Oper) (l:List Nat):Bool:=l.all fun i=>match ops[i]? with|some o=>Bv o.op|none=>false
def aU (ops:Array Oper) (l:List Nat):List Oper:=l.filterMap (ops[·]?)
theorem Dl {Q:Exit→Act→World→Prop} {T:Array Bool→Act→World→Prop} (hs:Region.noSelect ops=true):∀(l:List Nat) (n:Nat) (listed:Array Bool) (a:Act) (w:World),Closed md ops listed→
 (gN ops l&&jk md ops head l listed)=true→wpQuiet P ops (fun w'=>∃g:Gr w,w'=g.tw) (fun a'=>JM P md ops head Q T n (aQ l listed) a' w) (aU ops l) a→JM P md ops head Q T (n+l.length) listed a w
 | [],n,listed,a,w,_,_,h=>h
 | i::l,n,listed,a,w,hcl,hB,h=>by
   simp only [jk,gN,List.all_cons,Bool.and_eq_true] at hB;obtain ⟨⟨hfi,hfl⟩,⟨⟨hr,hf⟩,hh⟩,hB'⟩:=hB;cases ho:ops[i]? with
   | none=>rw [ho] at hfi;cases hfi
   | some o=>
     rw [ho] at hfi;simp only at hfi;have hp:aU ops (i::l)=o::aU ops l:=by simp [aU,ho]
     rw [hp] at h;have hB2:(gN ops l&&jk md ops head l (listed.setIfInBounds i true))=true:=by simp only [gN,Bool.and_eq_true];exact ⟨hfl,hB'⟩
     simp only [wpQuiet] at h;by_cases hw:Region.wanted o (yielded ops a.tmps)=true
     ·rw [if_pos hw] at h;obtain ⟨v,hv,hK⟩:=h;refine Bu ho (Region.noSelect_spec hs) hh (n+l.length) listed a w hcl (fE ho hf) (by simpa using hr) (.inl ⟨hw,fun w' hw'=>?_⟩)
       (Dl hs l n _ _ w (hcl.step (by simpa using hr)) hB2 hK)
      have h1:=hv w' ⟨⟨w',hw'⟩,rfl⟩;unfold Oper.quietAt at h1;generalize hrun:(execOp a.eval o).run P w'=r at h1;cases r with
      | ok x w1=>
        cases x <;> simp only [Oper.quietUpon] at h1
        case value u=>rw [h1.1,h1.2];exact .inl rfl
        case skip=>rw [h1.1,h1.2];exact .inr ⟨rfl,rfl⟩
        case enter f args=>exact absurd hrun (tF hfi _ _ _ _)
      | halt x w1=>exact h1.elim
     ·rw [if_neg hw] at h;exact Bu ho (Region.noSelect_spec hs) hh (n+l.length) listed a w hcl (fE ho hf) (by simpa using hr) (.inr ⟨by simpa using hw,rfl⟩)
       (Dl hs l n _ _ w (hcl.step (by simpa using hr)) hB2 h)
def nth:List Oper→Nat→Option Oper
 | [],_=>none
 | o::_,0=>some o
 | _::l,i+1=>nth l i
theorem Dm:∀(l:List Oper) (i:Nat),nth l i=l[i]?
 | [],_=>by simp [nth]
 | _::_,0=>by simp [nth]
 | _::l,i+1=>by simp [nth,Dm l i]
theorem dV {i:Nat} {o:Oper} (h:nth ops.toList i=some o):ops[i]? = some o:=by rw [Dm] at h;simpa using h
theorem aB {C:World→Prop} {K:Act→Prop} {i:Nat} {o:Oper} {l:List Nat} {a:Act} (ho:nth ops.toList i=some o) (h:wpQuiet P ops C K (o::aU ops l) a):wpQuiet P ops C K (aU ops (i::l)) a:=by
 have hp:aU ops (i::l)=o::aU ops l:=by simp [aU,dV ho]
 rw [hp];exact h
theorem az {C:World→Prop} {K:Act→Prop} {a:Act} (h:K a):wpQuiet P ops C K (aU ops []) a:=h
theorem tail_cons {Q:Exit→Act→World→Prop} {i:Nat} {o:Oper} {l:List Nat} {a:Act} {w:World} (ho:nth ops.toList i=some o) (h:wpList P ops Q (o::aU ops l) a w):wpList P ops Q (aU ops (i::l)) a w:=by
 have hp:aU ops (i::l)=o::aU ops l:=by simp [aU,dV ho]
 rw [hp];exact h
theorem tail_nil {Q:Exit→Act→World→Prop} {a:Act} {w:World} (h:Q .normal a w):wpList P ops (QP Q) (aU ops []) a w:=h
theorem ay {Q:Exit→Act→World→Prop} {T:Array Bool→Act→World→Prop} (l:List Nat) (n:Nat) {m:Nat} {listed:Array Bool} {a:Act} {w:World} (hn:m=n+l.length)
 (hB:((Region.noSelect ops&&qh md ops listed)&&(gN ops l&&jk md ops head l listed))=true) (h:wpQuiet P ops (fun w'=>∃g:Gr w,w'=g.tw) (fun a'=>JM P md ops head Q T n (aQ l listed) a' w) (aU ops l) a):JM P md ops head Q T m listed a w:=by
 subst hn;rw [Bool.and_eq_true,Bool.and_eq_true] at hB;exact Dl hB.1.1 l n listed a w (iF hB.1.2) hB.2 h
def QE (Q:Exit→Act→World→Prop) (w:World) (K:Act→World→Prop):Exit→Act→World→Prop
 | .normal,a,w'=>Below w.heap.size w w'∧K a w'
 | .panic _,_,_=>False
 | e,a,w'=>Q e a w'
theorem lH {Q:Exit→Act→World→Prop} {K:Act→World→Prop} {i:Nat} {o:Oper} {a:Act} {w:World} (hi:ops[i]? = some o)
 (h:wpList P ops (QE Q w K) [o] a w):rH P ops Q i K a w:=by
 unfold rH wpOp;simp only [hi];unfold wpList at h
 split
 ·rename_i hw;rw [if_pos hw] at h;rcases h with h|⟨h1,h2⟩
  ·refine .inl ?_;unfold Oper.wp at *;generalize (execOp a.eval o).run P w=r at *;cases r with
   | ok n w'=>
     cases n <;> simp only [Oper.upon] at h ⊢
     case enter f args=>
      refine Calls.mono h fun e w'' he=>?_;cases e with
      | returned u=>exact he
      | panicked c=>exact he
      | outgrown=>exact he
     case row row args=>exact Rows.mono h fun u w'' he=>he
     all_goals exact h
   | halt x w'=>cases x <;> simp only [Oper.upon] at h ⊢;exact h
  ·exact .inr ⟨h1,h2⟩
 ·rename_i hw;rw [if_neg hw] at h;exact h
theorem aI {Q:Exit→Act→World→Prop} {T:Array Bool→Act→World→Prop} {n:Nat} (i:Nat) {o:Oper} {listed:Array Bool} {a:Act} {w:World} (hB:(Region.ready md ops listed==[i]&&head.getD i false)=true) (hi:nth ops.toList i=some o)
 (h:wpList P ops (QE Q w (JM P md ops head Q T n (listed.setIfInBounds i true))) [o] a w):JM P md ops head Q T (n+1) listed a w:=by
 simp only [Bool.and_eq_true,beq_iff_eq] at hB;obtain ⟨hr,hh⟩:=hB;refine ⟨by rw [hr];simp,fun j hj=>?_⟩;rw [hr] at hj;obtain rfl:j=i:=by simpa using hj
 exact ⟨hh,lH (dV hi) h⟩
theorem aD {Q:Exit→Act→World→Prop} {w:World} {K:Act→World→Prop} {a:Act} {w':World} (h1:Below w.heap.size w w') (h2:K a w'):QE Q w K .normal a w':=⟨h1,h2⟩
def uY:Op→Bool
 | .move _|.assign _|.pick ..|.extract ..=>true
 | _=>false
theorem pure_run {ρ:Operand→Value} {o:Oper} (h:uY o.op=true):(∃v,∀w,(execOp ρ o).run P w=.ok (.value v) w∧∀es,((execOp ρ o).runT P w es).2=es)∨(∃s,∀w,(execOp ρ o).run P w=.halt (.stuck s) w∧∀es,((execOp ρ o).runT P w es).2=es):=by
 obtain ⟨dst,op,type,pos,after,guard⟩:=o;cases op <;> simp only [uY,Bool.false_eq_true] at h
 case move x=>exact .inl ⟨ρ x,fun w=>⟨rfl,fun _=>rfl⟩⟩
 case assign x=>exact .inl ⟨ρ x,fun w=>⟨rfl,fun _=>rfl⟩⟩
 case pick c a b=>
  cases hc:ρ c
  case bool t=>cases t <;> exact .inl ⟨_,fun w=>by constructor;{ simp only [execOp,hc];rfl };{ intro es;simp only [execOp,hc];rfl }⟩
  all_goals exact .inr ⟨_,fun w=>by constructor;{ simp only [execOp,hc];rfl };{ intro es;simp only [execOp,hc];rfl }⟩
 case extract x ix=>
  cases hc:ρ x
  case tuple vs=>
   cases hv:vs[ix]? with
   | none=>exact .inr ⟨_,fun w=>by constructor;{ simp only [execOp,hc,Instr.extract,hv];rfl };{ intro es;simp only [execOp,hc,Instr.extract,hv];rfl }⟩
   | some y=>exact .inl ⟨y,fun w=>by constructor;{ simp only [execOp,hc,Instr.extract,hv];rfl };{ intro es;simp only [execOp,hc,Instr.extract,hv];rfl }⟩
  all_goals exact .inr ⟨_,fun w=>by constructor;{ simp only [execOp,hc,Instr.extract];rfl };{ intro es;simp only [execOp,hc,Instr.extract];rfl }⟩
def oH (md:Region.Mode) (ops:Array Oper):List Nat→Array Bool→Bool
 | [],listed=>(Region.ready md ops listed).isEmpty
 | i::l,listed=>(Region.ready md ops listed==[i]||((Region.ready md ops listed).contains i&&Region.free md ops listed i&&(match ops[i]? with|some o=>uY o.op|none=>false)))&&oH md ops l (listed.setIfInBounds i true)
theorem fF {Q:Exit→Act→World→Prop} (hs:Region.noSelect ops=true):∀(l:List Nat) (listed:Array Bool) (a:Act) (w:World),
 oH md ops l listed=true→wpList P ops (QP Q) (aU ops l) a w→wpAny P md ops (QP Q) l.length listed a w
 | [],listed,a,w,hB,h=>⟨by simpa [oH] using hB,h⟩
 | i::l,listed,a,w,hB,h=>by
   simp only [oH,Bool.and_eq_true,Bool.or_eq_true,beq_iff_eq] at hB;obtain ⟨hr,hB'⟩:=hB;rcases hr with hr|⟨⟨hr,hfree⟩,hp⟩
   ·refine wpAny_all hr (by simp) fun j hj=>?_;obtain rfl:j=i:=by simpa using hj
    have hj':j∈Region.ready md ops listed:=by rw [hr];simp
    obtain ⟨_,o,ho,_⟩:=mem_ready.1 hj';have hp:aU ops (j::l)=o::aU ops l:=by simp [aU,ho]
    rw [hp] at h;unfold wpOp;simp only [ho];unfold wpList at h
    split
    ·rename_i hw;rw [if_pos hw] at h;exact h.imp (Oper.wp_mono fun a w h=>fF hs l _ a w hB' h) id
    ·rename_i hw;rw [if_neg hw] at h;exact fF hs l _ _ w hB' h
   ·cases ho:ops[i]? with
    | none=>rw [ho] at hp;cases hp
    | some o=>
      rw [ho] at hp;simp only at hp;have hpk:aU ops (i::l)=o::aU ops l:=by simp [aU,ho]
      rw [hpk] at h;unfold wpList at h;by_cases hw:Region.wanted o (yielded ops a.tmps)=true
      ·rw [if_pos hw] at h;rcases pure_run (P:=P) (ρ:=a.eval) hp with ⟨v,hv⟩|⟨s,hv⟩
       ·refine wpAny_take ho hs hfree hr (fun _ _ _ h=>h.elim) (.inl ⟨hw,fun w=>(hv w).1⟩) (fF hs l _ _ w hB' ?_);rcases h with h|⟨h1,_⟩
        ·unfold Oper.wp at h;rw [(hv w).1] at h;exact h
        ·exfalso;have:=h1.1;rw [(hv w).2] at this;simp at this
       ·exfalso;rcases h with h|⟨h1,_⟩
        ·unfold Oper.wp at h;rw [(hv w).1] at h;exact h
        ·have:=h1.1;rw [(hv w).2] at this;simp at this
      ·rw [if_neg hw] at h;exact wpAny_take ho hs hfree hr (fun _ _ _ h=>h.elim) (.inr ⟨by simpa using hw,rfl⟩) (fF hs l _ _ w hB' h)
theorem oI {Q:Exit→Act→World→Prop}:∀(n:Nat) (listed:Array Bool) (a:Act) (w:World),wpAny P md ops (QP Q) n listed a w→wpAny P md ops Q n listed a w
 | 0,_,_,_,h=>⟨h.1,h.2⟩
 | n+1,_,_,_,h=>⟨fun h0=>h.1 h0,fun i hi=>wpOp_mono (fun a w h=>oI n _ a w h) (qg (h.2 i hi))⟩
theorem aJ {Q:Exit→Act→World→Prop} (l:List Nat) {listed:Array Bool} {a:Act} {w:World} (hB:(iE head listed&&(Region.noSelect ops&&oH md ops l listed))=true)
 (h:wpList P ops (QP Q) (aU ops l) a w):JM P md ops head Q (fun l' a w=>wpAny P md ops Q l.length l' a w) 0 listed a w:=by
 simp only [Bool.and_eq_true] at hB;exact ⟨hB.1,oI _ _ _ _ (fF hB.2.1 l listed a w hB.2.2 h)⟩
theorem aF {id:Nat} {Q:Exit→Act→World→Prop} {a:Act} {w:World} {l:List Oper} (head:Array Bool) (n t:Nat) (hm:P.follows .mixedOrders=true) (hn:n+t=l.length)
 (h:JM P .any l.toArray head Q (fun l' a w=>wpAny P .any l.toArray Q t l' a w) n (Array.replicate l.length false) a w.drew):(Code.region id l.toArray true).wp P Q a w:=by
 refine wp_region_any hm ?_;have:=rJ n _ _ _ h;rw [hn] at this;simpa using this
end
end
def val (b:Nat):List Nat→Nat
 | []=>0
 | d::l=>d+b*val b l
def bR (b:Nat) (x:Nat):List Nat:=
 if _h:x=0∨b<2 then [] else x % b::bR b (x / b)
termination_by x
decreasing_by
 have h1:x≠0:=fun e=>_h (.inl e);exact Nat.div_lt_self (by omega) (by omega)
theorem dz (b:Nat):bR b 0=[]:=by unfold bR;simp
theorem kg {b x:Nat} (hb:2≤b) (hx:x≠0):bR b x=x % b::bR b (x / b):=by
 rw [bR];rw [dif_neg (by omega)]
theorem mH {b:Nat} (hb:2≤b) (x:Nat):val b (bR b x)=x:=by
 induction x using Nat.strongRecOn with
 | ind x ih=>
   by_cases h:x=0
   ·subst h;rw [dz];rfl
   ·rw [kg hb h];show x % b+b*val b (bR b (x / b))=x;rw [ih _ (Nat.div_lt_self (by omega) (by omega))];exact Nat.mod_add_div x b
theorem Dn {b:Nat} (hb:2≤b) (x:Nat):∀d∈bR b x,d<b:=by
 induction x using Nat.strongRecOn with
 | ind x ih=>
   by_cases h:x=0
   ·subst h;rw [dz];simp
   ·rw [kg hb h];intro d hd;rcases List.mem_cons.1 hd with rfl|hd
    ·exact Nat.mod_lt _ (by omega)
    ·exact ih _ (Nat.div_lt_self (by omega) (by omega)) d hd
theorem Fw {b x:Nat} (hb:2≤b):bR b x=[]↔x=0:=by
 constructor
 ·intro h;have:=mH hb x;rw [h] at this;exact this.symm
 ·rintro rfl;exact dz b
theorem Nj {b:Nat} (hb:2≤b) (x:Nat):∀d,(bR b x).getLast? = some d→d≠0:=by
 induction x using Nat.strongRecOn with
 | ind x ih=>
   intro d hd;by_cases h:x=0
   ·subst h;rw [dz] at hd;simp at hd
   ·rw [kg hb h] at hd;by_cases h2:x / b=0
    ·rw [h2,dz] at hd;simp at hd;have:=Nat.mod_add_div x b;rw [h2] at this;omega
    ·have hne:bR b (x / b)≠[]:=fun e=>h2 ((Fw hb).1 e);rw [List.getLast?_cons_of_ne_nil hne] at hd;exact ih _ (Nat.div_lt_self (by omega) (by omega)) d hd
theorem val_append (b:Nat) (l m:List Nat):val b (l++m)=val b l+b ^ l.length*val b m:=by
 induction l with
 | nil=>simp [val]
 | cons d l ih=>
   simp only [List.cons_append,val,ih,List.length_cons,Nat.pow_succ];rw [Nat.mul_add,←Nat.mul_assoc,Nat.mul_comm b (b ^ l.length)];omega
theorem Bw (b n:Nat):val b (List.replicate n 0)=0:=by
 induction n with
 | zero=>rfl
 | succ n ih=>simp [List.replicate_succ,val,ih]
theorem Qp {b:Nat}:∀l:List Nat,(∀d∈l,d<b)→val b l<b ^ l.length
 | [],_=>by simp [val]
 | d::l,h=>by
   have h1:=h d (by simp);have h2:=Qp l (fun x hx=>h x (by simp [hx]));simp only [val,List.length_cons,Nat.pow_succ]
   calc d+b*val b l<b+b*val b l:=by omega
    _=b*(val b l+1):=by rw [Nat.mul_add];omega
    _≤b*b ^ l.length:=Nat.mul_le_mul_left _ h2
    _=b ^ l.length*b:=Nat.mul_comm _ _
theorem Fx {b:Nat} (hb:2≤b):∀l:List Nat,(∀d∈l,d<b)→(∀d,l.getLast? = some d→d≠0)→bR b (val b l)=l
 | [],_,_=>dz b
 | [d],h,hl=>by
   have h0:d≠0:=hl d rfl;have h1:d<b:=h d (by simp);have e:val b [d]=d:=by simp [val]
   rw [e,kg hb h0,Nat.mod_eq_of_lt h1,Nat.div_eq_of_lt h1,dz]
 | d::c::l,h,hl=>by
   have ih:=Fx hb (c::l) (fun x hx=>h x (List.mem_cons_of_mem _ hx)) (fun x hx=>hl x (by rw [List.getLast?_cons_of_ne_nil (by simp)];exact hx));have h1:d<b:=h d (by simp);have hv:val b (d::c::l)=d+b*val b (c::l):=rfl;have hne:val b (c::l)≠0:=fun e=>by rw [e,dz] at ih;cases ih
   have hne':d+b*val b (c::l)≠0:=by
    have:0<b*val b (c::l):=Nat.mul_pos (by omega) (by omega);omega
   rw [hv,kg hb hne',Nat.add_mul_mod_self_left,Nat.mod_eq_of_lt h1,Nat.add_mul_div_left _ _ (by omega),Nat.div_eq_of_lt h1,Nat.zero_add,ih]
theorem Qq {b x y:Nat} (hb:2≤b) (h:bR b x=bR b y):x=y:=by
 rw [←mH hb x,←mH hb y,h]
theorem Av {b:Nat} (hb:2≤b) (l:List Nat) (n:Nat) (hl:∀d∈l,d<b) (hz:∀d∈l.drop n,d=0) (hn:n≤l.length) (h0:n=0∨l[n-1]?≠some 0) :
 bR b (val b l)=l.take n:=by
 have e:l.drop n=List.replicate (l.drop n).length 0:=List.eq_replicate_iff.2 ⟨rfl,hz⟩;have hv:val b l=val b (l.take n):=by
  conv=>lhs;rw [←List.take_append_drop n l]
  rw [val_append,e,Bw];omega
 rw [hv];refine Fx hb _ (fun d hd=>hl d (List.mem_of_mem_take hd)) fun d hd=>?_;rw [List.getLast?_eq_getElem?,List.length_take,Nat.min_eq_left hn] at hd;rcases h0 with h0|h0
 ·subst h0;simp at hd
 ·rcases Nat.eq_zero_or_pos n with h1|h1
  ·subst h1;simp at hd
  ·rw [List.getElem?_take] at hd
   split at hd
   ·rintro rfl;exact h0 hd
   ·cases hd
theorem getElem?_digs {b:Nat} (hb:2≤b):∀(i x:Nat),((bR b x)[i]?).getD 0=x / b ^ i % b
 | 0,x=>by
   by_cases h:x=0
   ·subst h;simp [dz]
   ·rw [kg hb h];simp
 | i+1,x=>by
   by_cases h:x=0
   ·subst h;simp [dz]
   ·rw [kg hb h];simp only [List.getElem?_cons_succ];rw [getElem?_digs hb i (x / b),Nat.div_div_eq_div_mul,Nat.pow_succ,Nat.mul_comm]
def oq (b x i:Nat):Nat:=x / b ^ i % b
theorem uZ {b:Nat} (hb:2≤b) (x i:Nat):oq b x i<b:=Nat.mod_lt _ (by omega)
theorem Qr {b:Nat} (hb:2≤b) (x i:Nat):((bR b x)[i]?).getD 0=oq b x i:=getElem?_digs hb i x
def u_ (x y:Nat):Int:=if x<y then -1 else if y<x then 1 else 0
theorem tH {b:Nat} (x j:Nat):x / b ^ j=b*(x / b ^ (j+1))+oq b x j:=by
 unfold oq;rw [Nat.pow_succ,←Nat.div_div_eq_div_mul];exact (Nat.div_add_mod _ _).symm
theorem Bz {b x y j:Nat} (h:x / b ^ (j+1)=y / b ^ (j+1)) (hd:oq b x j<oq b y j):x<y:=by
 have h1:=tH (b:=b) x j;have h2:=tH (b:=b) y j;rw [h] at h1;have h3:x / b ^ j<y / b ^ j:=by omega
 rcases Nat.lt_or_ge x y with h4|h4
 ·exact h4
 ·have:=Nat.div_le_div_right (c:=b ^ j) h4;omega
def xB (b x n:Nat):List Nat:=(List.range n).map (oq b x)
@[simp] theorem Fy (b x n:Nat):(xB b x n).length=n:=by simp [xB]
theorem Nk (b x n:Nat):xB b x (n+1)=xB b x n++[oq b x n]:=by simp [xB,List.range_succ]
theorem Un {b:Nat} (hb:2≤b) (x n:Nat):∀d∈xB b x n,d<b:=by
 intro d hd;obtain ⟨j,_,rfl⟩:=List.mem_map.1 hd;exact uZ hb x j
theorem mod_succ (b x n:Nat):x % b ^ (n+1)=x % b ^ n+b ^ n*oq b x n:=by
 unfold oq;rw [Nat.pow_succ,Nat.mod_mul]
theorem Fz (b x:Nat):∀n,val b (xB b x n)=x % b ^ n
 | 0=>by simp [xB,val,Nat.mod_one]
 | n+1=>by rw [Nk,val_append,Fz b x n,mod_succ,Fy];simp [val]
def carry (b x y i:Nat):Nat:=(x % b ^ i+y % b ^ i) / b ^ i
theorem Qs {b:Nat} (hb:2≤b) (x y i:Nat):carry b x y i≤1:=by
 unfold carry;have hp:0<b ^ i:=Nat.pow_pos (by omega);have h1:=Nat.mod_lt x hp;have h2:=Nat.mod_lt y hp;have:(x % b ^ i+y % b ^ i) / b ^ i<2:=Nat.div_lt_of_lt_mul (by omega);omega
theorem carry_zero (b x y:Nat):carry b x y 0=0:=by simp [carry,Nat.mod_one]
theorem carry_succ {b:Nat} (hb:2≤b) (x y i:Nat):(oq b x i+oq b y i+carry b x y i) / b=carry b x y (i+1):=by
 have hp:0<b ^ i:=Nat.pow_pos (by omega);have e:x % b ^ (i+1)+y % b ^ (i+1)=(x % b ^ i+y % b ^ i)+b ^ i*(oq b x i+oq b y i):=by rw [mod_succ,mod_succ,Nat.mul_add];omega
 show _=(x % b ^ (i+1)+y % b ^ (i+1)) / b ^ (i+1);rw [e,Nat.pow_succ,←Nat.div_div_eq_div_mul,Nat.add_mul_div_left _ _ hp];show _=(carry b x y i+_) / b;rw [Nat.add_comm]
theorem Uo {b:Nat} (hb:2≤b) (x y i:Nat):(oq b x i+oq b y i+carry b x y i) % b=oq b (x+y) i:=by
 have hp:0<b ^ i:=Nat.pow_pos (by omega);have e:x+y=(x % b ^ i+y % b ^ i)+b ^ i*(x / b ^ i+y / b ^ i):=by
  have h1:=Nat.mod_add_div x (b ^ i);have h2:=Nat.mod_add_div y (b ^ i);rw [Nat.mul_add];omega
 have e2:(x+y) / b ^ i=carry b x y i+(x / b ^ i+y / b ^ i):=by
  conv=>lhs;rw [e]
  rw [Nat.add_mul_div_left _ _ hp];rfl
 unfold oq;rw [e2,Nat.add_comm (carry b x y i),Nat.add_mod (x / b ^ i+y / b ^ i),Nat.add_mod (x / b ^ i) (y / b ^ i)];simp [Nat.add_mod]
theorem JN {b:Nat} (hb:2≤b) {x y n:Nat} (hx:x<b ^ n) (hy:y<b ^ n):x+y<b ^ (n+1):=by
 rw [Nat.pow_succ];have:b ^ n*2≤b ^ n*b:=Nat.mul_le_mul_left _ hb;omega
theorem Nl {x y:Nat} (h:x<y):u_ x y=-1:=by simp [u_,h]
theorem BA {x y:Nat} (h:y<x):u_ x y=1:=by unfold u_;rw [if_neg (by omega),if_pos h]
theorem Qt (x:Nat):u_ x x=0:=by simp [u_]
theorem cZ {b:Nat} (hb:2≤b) {x n:Nat}:(bR b x).length≤n↔x<b ^ n:=by
 constructor
 ·intro h;have h1:=Qp (b:=b) (bR b x) (Dn hb x);rw [mH hb] at h1;exact Nat.lt_of_lt_of_le h1 (Nat.pow_le_pow_right (by omega) h)
 ·intro h;rcases Nat.lt_or_ge n (bR b x).length with h1|h1
  ·exfalso;have hne:bR b x≠[]:=by intro e;rw [e] at h1;simp at h1
   obtain ⟨d,hd⟩:∃d,(bR b x).getLast? = some d:=⟨_,List.getLast?_eq_some_getLast hne⟩;have h0:=Nj hb x d hd;rw [List.getLast?_eq_getElem?] at hd;have h2:=getElem?_digs hb ((bR b x).length-1) x;rw [hd] at h2;simp only [Option.getD_some] at h2;have h3:x / b ^ ((bR b x).length-1)=0:=by
    apply Nat.div_eq_of_lt;exact Nat.lt_of_lt_of_le h (Nat.pow_le_pow_right (by omega) (by omega))
   rw [h3] at h2;simp at h2;exact h0 h2
  ·exact h1
end Go.Cd
namespace Go.Cd
open Go.RowKit
def Sl (e:TypeId) (w:World) (v:Value) (xs:List Value):Prop:=
 ∃a cap,v=.slice a xs.length cap∧xs.length≤cap∧(xs=[]∧(a=none→cap=0)∨∃b off cs fr,a=some ⟨b,off,none⟩∧w.heap[b]? = some (.cells cs e fr)∧∀i (h:i<xs.length),cs[off+i]? = some xs[i])
def bB (w:World) (v:Value) (xs:List Value):Prop:=
 ∃a cap,v=.slice a xs.length cap∧xs.length≤cap∧(xs=[]∧(a=none→cap=0)∨∃b off cs e fr,a=some ⟨b,off,none⟩∧w.heap[b]? = some (.cells cs e fr)∧∀i (h:i<xs.length),cs[off+i]? = some xs[i])
theorem Sl.any {e:TypeId} {w:World} {v:Value} {xs:List Value} (h:Sl e w v xs):bB w v xs:=by
 obtain ⟨a,cap,hv,hc,h⟩:=h;exact ⟨a,cap,hv,hc,h.imp id fun ⟨b,off,cs,fr,r⟩=>⟨b,off,cs,e,fr,r⟩⟩
theorem block_lt {w:World} {b:Nat} {o:Obj} (h:w.heap[b]? = some o):b<w.heap.size:=(Array.getElem?_eq_some_iff.1 h).1
theorem Sl.mono {e:TypeId} {w w':World} {v:Value} {xs:List Value} (h:Sl e w v xs) (hb:Below w.heap.size w w'):Sl e w' v xs:=by
 obtain ⟨a,cap,hv,hc,h⟩:=h;refine ⟨a,cap,hv,hc,h.imp id ?_⟩;rintro ⟨b,off,cs,fr,ha,hh,hx⟩;exact ⟨b,off,cs,fr,ha,by rw [hb.block b (block_lt hh)];exact hh,hx⟩
theorem bB.mono {w w':World} {v:Value} {xs:List Value} (h:bB w v xs) (hb:Below w.heap.size w w'):bB w' v xs:=by
 obtain ⟨a,cap,hv,hc,h⟩:=h;refine ⟨a,cap,hv,hc,h.imp id ?_⟩;rintro ⟨b,off,cs,e,fr,ha,hh,hx⟩;exact ⟨b,off,cs,e,fr,ha,by rw [hb.block b (block_lt hh)];exact hh,hx⟩
theorem Sl.nil (e:TypeId) (w:World) (a:Option Addr) (cap:Nat) (h:a=none→cap=0):Sl e w (.slice a 0 cap) []:=⟨a,cap,rfl,Nat.zero_le _,.inl ⟨rfl,h⟩⟩
theorem bB.out {w:World} {v:Value} {xs:List Value} (h:bB w v xs):∃a cap,v=.slice a xs.length cap∧xs.length≤cap∧
 ∀i (hi:i<xs.length),∃b off,a=some ⟨b,off,none⟩∧b<w.heap.size∧w.cell? ⟨b,off+i,none⟩=some xs[i]:=by
 obtain ⟨a,cap,hv,hc,h⟩:=h;refine ⟨a,cap,hv,hc,fun i hi=>?_⟩;rcases h with h|⟨b,off,cs,e,fr,ha,hh,hx⟩
 ·rw [h.1] at hi;simp at hi
 ·refine ⟨b,off,ha,block_lt hh,?_⟩;unfold World.cell?;rw [hh];simpa using hx i hi
theorem Sl.out {e:TypeId} {w:World} {v:Value} {xs:List Value} (h:Sl e w v xs):∃a cap,v=.slice a xs.length cap∧xs.length≤cap∧
 ∀i (hi:i<xs.length),∃b off,a=some ⟨b,off,none⟩∧b<w.heap.size∧w.cell? ⟨b,off+i,none⟩=some xs[i]:=h.any.out
theorem bB.cases {w:World} {v:Value} {xs:List Value} (h:bB w v xs):(xs=[]∧∃a cap,v=.slice a 0 cap∧(a=none→cap=0))∨
 ∃b off cap,v=.slice (some ⟨b,off,none⟩) xs.length cap∧xs.length≤cap∧0<xs.length∧b<w.heap.size∧∀i (hi:i<xs.length),w.cell? ⟨b,off+i,none⟩=some xs[i]:=by
 obtain ⟨a,cap,hv,hc,h⟩:=h;by_cases hn:xs=[]
 ·subst hn;refine .inl ⟨rfl,?_⟩;rcases h with h|⟨b,off,cs,e,fr,ha,hh,hx⟩
  ·exact ⟨a,cap,hv,h.2⟩
  ·exact ⟨a,cap,hv,fun e=>by rw [ha] at e;cases e⟩
 ·rcases h with h|⟨b,off,cs,e,fr,ha,hh,hx⟩
  ·exact absurd h.1 hn
  ·subst ha;refine .inr ⟨b,off,cap,hv,hc,List.length_pos_iff.2 hn,block_lt hh,fun i hi=>?_⟩;unfold World.cell?;rw [hh];simpa using hx i hi
def gD (l:List Nat):List Value:=l.map fun d:Nat=>Value.int .u32 (d:Int)
def ds (l:List Nat):List Value:=l.map fun d:Nat=>Value.int .i64 (d:Int)
@[simp] theorem mI (l:List Nat):(ds l).length=l.length:=by simp [ds]
theorem nC (l:List Nat) (i:Nat) (h:i<l.length):(ds l)[i]'(by simpa using h)=.int .i64 (l[i]:Nat):=by simp [ds]
theorem Nn (l m:List Nat):ds (l++m)=ds l++ds m:=by simp [ds]
def bJ (l:List Int):List Value:=l.map fun d:Int=>Value.int .i64 d
@[simp] theorem dD (l:List Nat):(gD l).length=l.length:=by simp [gD]
@[simp] theorem eT (l:List Int):(bJ l).length=l.length:=by simp [bJ]
abbrev l5:TypeId:=68
abbrev bq:TypeId:=3
def B:Nat:=4294967296
def bO (w:World) (v:Value) (x:Nat):Prop:=∃s,v=.agg #[s]∧Sl l5 w s (gD (bR B x))
theorem bO.mono {w w':World} {v:Value} {x:Nat} (h:bO w v x) (hb:Below w.heap.size w w'):bO w' v x:=by
 obtain ⟨s,hv,hs⟩:=h;exact ⟨s,hv,hs.mono hb⟩
theorem bO.out {w:World} {v:Value} {x:Nat} (h:bO w v x):∃a n cap,v=.agg #[.slice a n cap]∧bO w (.agg #[.slice a n cap]) x:=by
 obtain ⟨s,rfl,a,cap,rfl,hr⟩:=h;exact ⟨a,_,cap,rfl,⟨_,rfl,a,cap,rfl,hr⟩⟩
theorem bO.len {w:World} {a:Option Addr} {n cap x:Nat} (h:bO w (.agg #[.slice a n cap]) x):n=(bR B x).length:=by
 obtain ⟨s,hs,a',cap',rfl,_⟩:=h;simp at hs;exact hs.2.1
theorem Sl.put {e:TypeId} {w:World} {v:Value} {xs:List Value} (h:Sl e w v xs) {k o:Nat} {u:Value} {cs:Array Value} {T:TypeId} {fr:Nat×Nat} (hk:w.heap[k]? = some (.cells cs T fr)) (hT:T≠e) :
 Sl e (w.setCell ⟨k,o,none⟩ u) v xs:=by
 obtain ⟨a,cap,hv,hc,h⟩:=h;refine ⟨a,cap,hv,hc,h.imp id ?_⟩;rintro ⟨b,off,cs',fr',ha,hh,hx⟩;refine ⟨b,off,cs',fr',ha,?_,hx⟩;rw [Below.heap_setCell _ _ _ _ (fun e=>?_)]
 ·exact hh
 ·simp only at e;subst e;rw [hk] at hh;cases hh;exact hT rfl
theorem bO.put {w:World} {v:Value} {x:Nat} (h:bO w v x) {k o:Nat} {u:Value} {cs:Array Value} {T:TypeId} {fr:Nat×Nat} (hk:w.heap[k]? = some (.cells cs T fr)) (hT:T≠l5) :
 bO (w.setCell ⟨k,o,none⟩ u) v x:=by
 obtain ⟨s,hv,hs⟩:=h;exact ⟨s,hv,hs.put hk hT⟩
theorem FB {w:World} {k o:Nat} {u:Value} {cs:Array Value} {T:TypeId} {fr:Nat×Nat} (hk:w.heap[k]? = some (.cells cs T fr)) (ho:o<cs.size):(w.setCell ⟨k,o,none⟩ u).cell? ⟨k,o,none⟩=some u:=
 World.cell?_setCell_same (w:=w) (a:=⟨k,o,none⟩) (v:=u) (u:=cs[o]) (by unfold World.cell?;rw [hk];simp [ho])
theorem nD {w2:World} {k:Nat} {a:Option Addr} {n cap x:Nat} {c:Value} {T:TypeId} {fr:Nat×Nat} (hk:w2.heap[k]? = some (.cells #[c] T fr)) (hT:T≠l5) (hN:bO w2 (.agg #[.slice a n cap]) x) :
 (w2.setCell ⟨k,0,none⟩ (.slice a n cap)).cell? ⟨k,0,none⟩=some (.slice a n cap)∧bO (w2.setCell ⟨k,0,none⟩ (.slice a n cap)) (.agg #[.slice a n cap]) x:=
 ⟨FB hk (by simp),hN.put hk hT⟩
theorem dX {a b:Bool} (h:a=b):Ending.returned (.bool a)=.returned (.bool b):=by rw [h]
theorem Dp {k:IntKind} {a b:Int} (h:a=b):Ending.returned (.int k a)=.returned (.int k b):=by rw [h]
theorem heap_alloc_new' (w:World) (o:Obj) (k:Nat) (h:k=w.heap.size):(w.alloc o).heap[k]? = some o:=by subst h;exact heap_alloc_new _ _
theorem Mj (w:World) (o:Obj):(w.alloc o).heap[w.heap.size]? = some o:=heap_alloc_new _ _
theorem bF:2≤B:=by unfold B;omega
theorem WW {W w1:World} (hb:Below W.heap.size W w1):(∀b o,b<W.heap.size→w1.cell? ⟨b,o,none⟩=W.cell? ⟨b,o,none⟩)∧(∀b o,b<W.heap.size→w1.frozen? ⟨b,o,none⟩=W.frozen? ⟨b,o,none⟩):=
 ⟨fun b o h=>hb.cell (p:=⟨b,o,none⟩) h,fun b o h=>hb.frozen (p:=⟨b,o,none⟩) h⟩
theorem Sl.aW {w:World} {base:Nat} {e:TypeId} {v:Value} {n:Nat} {xs:List Value} (h:w.ownsRow base e 1 v n xs):Sl e w v xs:=by
 obtain ⟨h1,h2⟩:=h;simp only [Nat.mul_one] at h1 h2;rcases h2 with ⟨rfl,rfl⟩|⟨g,cap,cur,rfl,hg,hh,hc,hm,hs,ht⟩
 ·obtain rfl:=List.length_eq_zero_iff.1 h1;exact .nil _ _ _ _ (fun _=>rfl)
 ·refine ⟨_,cap,by rw [h1],by rw [h1];exact hc,.inr ⟨g,0,cur,(0,0),rfl,hh,fun i hi=>?_⟩⟩;subst ht;rw [List.length_take] at hi;rw [Nat.zero_add,List.getElem_take,←Array.getElem?_toList];exact List.getElem?_eq_getElem _
def Elem (P:Program) (t e:TypeId) (z:Value) (bytes:Nat):Prop:=
 z.oneCell'=true∧P.underlying t=some (.slice e)∧∃i,P.info? e=some i∧i.zero=some z∧i.size=1∧i.bytes=bytes
theorem qi (w:World) (e:TypeId):(w.alloc (.cells #[] e)).ownsRow w.heap.size e 1 (.slice (some ⟨w.heap.size,0,none⟩) 0 0) 0 []:=
 ⟨by simp,.inr ⟨w.heap.size,0,#[],rfl,Nat.le_refl _,heap_alloc_new _ _,Nat.le_refl _,Nat.zero_le _,rfl,rfl⟩⟩
theorem jS {z:Value} (h:z.oneCell'=true):z.cells.size=1:=by
 cases z <;> first|rfl|(simp [Value.oneCell'] at h)
theorem bN {P:Program} {w:World} {ops:Array Oper} {rest:List Oper} {o:Oper} {a:Act} {Q:Exit→Act→World→Prop} (hgd:o.guard=none) (s x:Operand) (t:TypeId)
 (ho:o.op=.call { callee:=.builtin .append,args:=#[s,x],argTypes:=#[t,t] })
 (base:Nat) (e:TypeId) (z:Value) (bytes:Nat) (hE:Elem P t e z bytes)
 (v:Value) (n:Nat) (xs:List Value) (hs:a.eval s=v) (hown:w.ownsRow base e 1 v n xs)
 (u:Value) (news:List Value) (hx:a.eval x=u) (hu:bB w u news) (h1:∀u∈news,u.oneCell'=true)
 (h63:n+news.length≤maxLen) (hbytes:(n+news.length)*bytes≤140737488355328) (hbase:base≤w.heap.size)
 (h:∀v' w',w'.ownsRow base e 1 v' (n+news.length) (xs++news)→w.grownBy w' v.ownBlock→wpList P ops Q rest (a.put o.dst v') w'):wpList P ops Q (o::rest) a w:=by
 obtain ⟨hz1,ht,i,hi,hz,hsize,hby⟩:=hE;obtain ⟨ad,cap,rfl,hc,hr⟩:=hu;cases ad with
 | none=>
   have hn:news=[]:=by
    rcases hr with hr|⟨b,off,cs,_,fr,ha,_⟩
    ·exact hr.1
    ·cases ha
   subst hn;have hcap:cap=0:=by
    rcases hr with hr|⟨b,off,cs,_,fr,ha,_⟩
    ·exact hr.2 rfl
    ·cases ha
   subst hcap;refine wpList_append_own_none hgd s x t ho base e i 1 ht hi v n xs hs hown hx ?_;exact h v w (by simpa using hown) ⟨rfl,rfl,rfl,Nat.le_refl _,fun _ _ _=>rfl⟩
 | some ad=>
   refine wpList_append_own w hgd s x t ho base e i z 1 bytes ht hi hz hsize hby (jS hz1) (by decide) v n xs hs hown ad news.length cap news hx (by simp) ?_ h1 h63 hbytes hbase ?_
   ·intro j y hj;obtain ⟨hlt,rfl⟩:=List.getElem?_eq_some_iff.1 hj;rcases hr with hr|⟨b,off,cs,_,fr,ha,hh,hcs⟩
    ·rw [hr.1] at hlt;simp at hlt
    ·cases ha;have:=hcs j hlt;unfold World.cell? Addr.add;by_cases hj0:j=0
     ·subst hj0;simp only [if_true];rw [hh];simpa using this
     ·rw [if_neg hj0];simp only;rw [hh];simpa using this
   ·intro v' w' h2 h3 _;exact h v' w' h2 h3
theorem aj {B:Nat} {a w:World} {b off:Nat} {u:Value} (h:Below B a w) (hb:B≤b):Below B a (w.setCell ⟨b,off,none⟩ u):=h.setCell hb u
theorem af {w:World} (o:Obj):Below w.heap.size w (w.alloc o):=(Below.refl _ _).alloc (Nat.le_refl _) o
theorem ag (w:World):Below w.heap.size w w.drew:=(Below.refl _ _).drew
theorem aA {w0 w:World} (E:Below w0.heap.size w0 w) {b o:Nat} {v:Value} (h:w0.cell? ⟨b,o,none⟩=some v):w.cell? ⟨b,o,none⟩=some v:=
 (E.cell (p:=⟨b,o,none⟩) (World.block_lt_of_cell? w0 ⟨b,o,none⟩ h)).trans h
theorem Gr.cell {w0 w:World} (E:Below w0.heap.size w0 w) {b o:Nat} {v:Value} (h:w0.cell? ⟨b,o,none⟩=some v):∀g:Gr w,g.tw.cell? ⟨b,o,none⟩=some v:=
 fun g=>aA (ah E g.ext) h
theorem ed {w:World} (o o':Obj):Below w.heap.size w ((w.alloc o).alloc o'):=(af o).alloc (by simp) o'
theorem fG {P:Program} (w:World) {ops:Array Oper} {rest:List Oper} {o:Oper} {a:Act} {Q:Exit→Act→World→Prop}
 (hg:o.guard=none) (l c:Operand) (t:TypeId) (hop:o.op=Op.makeSlice t l c)
 (base:Nat) (e:TypeId) (z:Value) (bytes:Nat) (hE:Elem P t e z bytes) (hzc:z.cells=#[z])
 (kl kc:IntKind) (L C:Int) (n:Nat) (hl:a.eval l=.int kl L) (hc:a.eval c=.int kc C) (hL:L=(n:Int)) (hC:C=(n:Int)) (b2:bytes*n≤281474976710656) (b3:n≤maxLen) (b4:base≤w.heap.size)
 (hK:∀w',w'.ownsRow base e 1 (.slice (some ⟨w.heap.size,0,none⟩) n n) n (List.replicate n z)→w.grownBy w' none→wpList P ops Q rest (a.put o.dst (.slice (some ⟨w.heap.size,0,none⟩) n n)) w') :
 wpList P ops Q (o::rest) a w:=by
 obtain ⟨hz1,ht,i,hi,hz,hsize,hby⟩:=hE;refine wpList_make_full w hg l c t hop base e i z 1 ht hi hz hsize kl kc L C n hl hc hL hC (by rw [hby];exact b2) b3 b4 fun w' h1 h2=>hK w' ?_ h2;rw [hzc,Nat.mul_one,toList_madeCells_one] at h1;exact h1
theorem jJ {w:World} {base:Nat} {e:TypeId} {g n cap:Nat} {xs:List Value} (h:w.ownsRow base e 1 (.slice (some ⟨g,0,none⟩) n cap) n xs) {j:Nat} (hj:j<xs.length) :
 w.cell? ⟨g,j,none⟩=some xs[j]∧w.frozen? ⟨g,j,none⟩=false:=by
 have hl:xs.length=n*1:=h.1;exact ⟨by rw [h.cellAt j (by omega)];exact List.getElem?_eq_getElem hj,h.frozenAt j⟩
theorem aG {w w':World} {base:Nat} {e:TypeId} {size:Nat} {v:Value} {n:Nat} {xs:List Value} (h:w.ownsRow base e size v n xs) (hb:Below w.heap.size w w'):w'.ownsRow base e size v n xs:=by
 obtain ⟨h1,h2⟩:=h;refine ⟨h1,h2.imp id ?_⟩;rintro ⟨g,cap,cur,hv,hg,hh,r⟩;exact ⟨g,cap,cur,hv,hg,by rw [hb.block g (block_lt hh)];exact hh,r⟩
theorem fA {w w':World} (h:w.grownBy w' none):Below w.heap.size w w':=
 ⟨h.os,h.tape,h.output,h.size,fun k hk=>h.block k hk (by simp)⟩
theorem qj (w:World) (cs:Array Value) (e:TypeId):bB (w.alloc (.cells cs e)) (.slice (some ⟨w.heap.size,0,none⟩) cs.size cs.size) cs.toList:=
 ⟨_,cs.size,by simp,by simp,.inr ⟨w.heap.size,0,cs,e,(0,0),rfl,heap_alloc_new _ _,fun i hi=>by
   rw [Nat.zero_add,←Array.getElem?_toList];exact List.getElem?_eq_getElem hi⟩⟩
theorem fH {P:Program} {W:World} {ops:Array Oper} {rest:List Oper} {o:Oper} {a:Act} {Q:Exit→Act→World→Prop} (hgd:o.guard=none) (s x:Operand) (t:TypeId)
 (ho:o.op=.call { callee:=.builtin .append,args:=#[s,x],argTypes:=#[t,t] })
 (base:Nat) (e:TypeId) (z:Value) (bytes:Nat) (hE:Elem P t e z bytes)
 (v:Value) (n:Nat) (xs:List Value) (hs:a.eval s=v) (hown:W.ownsRow base e 1 v n xs)
 (u:Value) (hx:a.eval x=.slice (some ⟨W.heap.size,0,none⟩) 1 1) (h1:u.oneCell'=true)
 (hbytes:(n+1)*bytes≤140737488355328) (h63:n+1≤maxLen) (w0:World) (hb:Below base w0 W) (hbase:base≤w0.heap.size)
 (h:∀v' w',w'.ownsRow base e 1 v' (n+1) (xs++[u])→Below base w0 w'→wpList P ops Q rest (a.put o.dst v') w'):wpList P ops Q (o::rest) a (W.alloc (.cells #[u] e)):=by
 have hsz:=hb.size;refine bN hgd s x t ho base e z bytes hE v n xs hs (hown.alloc _) _ [u] hx (qj W #[u] e) (by simpa using h1) (by simpa using h63) (by simpa using hbytes) (by simp;omega) ?_;intro v' w' h2 h3;refine h v' w' (by simpa using h2) ((hb.alloc (by omega) _).grown h3 (by simp;omega) ?_);intro k hk;exact (hown.lt k hk).1
theorem Dq (l:List Nat):∀u∈gD l,u.oneCell'=true:=by
 intro u hu;obtain ⟨d,_,rfl⟩:=List.mem_map.1 hu;rfl
theorem Dr:Elem Go.Proofs.Tryz.prog 34 l5 (.int .u32 0) 4:=⟨rfl,Go.Proofs.Tryz.underlying34,info_parts (by kernel_rfl)⟩
theorem jh:Elem Go.Proofs.Tryz.prog 23 bq (.int .i64 0) 8:=⟨rfl,Go.Proofs.Tryz.underlying23,info_parts (by kernel_rfl)⟩
theorem mixed:Go.Proofs.Tryz.prog.follows .mixedOrders=true:=by kernel_rfl
end Go.Cd
