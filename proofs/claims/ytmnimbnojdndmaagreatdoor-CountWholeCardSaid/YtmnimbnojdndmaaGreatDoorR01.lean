/- One machine of an NFD counts as its units do, multiplied; no condition. -/
import Derived.Lib.Hide
import Derived.Deep.Quiet
import Derived.Tactics
import Derived.Below
import Derived.Test.YtmnimbnojdndmaaGreatDoorRows
import Derived.WalkKit
import Derived.WalkSpells
import Derived.WalkLawsBesides
import Derived.BigQuiet
import Derived.Laws.AppendOwnNone
set_option maxRecDepth 100000
set_option maxHeartbeats 6400000
set_option linter.all false
def aa {p:Prop} (h:p):Go.RowKit.Hid p:=h
def ae {a:Sort _} (x:a):∃y,y=x:=⟨x,rfl⟩
namespace Go.Cd
section
open Go.RowKit
def AO (w:World):Below w.heap.size w w:=Below.refl _ _
def af {a b c:World} (h:Below a.heap.size a b) (k:Below b.heap.size b c):Below a.heap.size a c:=h.trans (k.mono h.size)
structure Gr (w:World) where
 tw:World
 ext:Below w.heap.size w tw
section
variable {P : Program} {ops : Array Oper} {md : Region.Mode} {head : Array Bool}
variable {Q:Exit->Act->World->Prop} {i:Nat} {a:Array Bool} {w:World} {ρ:Operand->Value} {o:Oper}
def QP (Q:Exit->Act->World->Prop):Exit->Act->World->Prop
 | .panic _,_,_=>False
 | e,a,w=>Q e a w
def Am {a:Act} {K:Act->World->Prop} (b:wpOp P ops (QP Q) i K a w):wpOp P ops Q i K a w:=by
 unfold wpOp at *
 split
 ·rename_i h;simpa only[h] using b
 rename_i o h;simp only[h] at b
 split
 ·rename_i g;simp only[g,if_true] at b;rcases b with b|⟨l,j⟩
  ·refine .inl ?_;unfold Oper.wp at *;generalize (execOp a.eval o).run P w=r at *;cases r with
   | ok n w'=>
     cases n <;> simp only[Oper.upon] at b⊢
     case enter f args=>
      refine Calls.mono b λe k d=>?_;cases e with
      | returned u=>exact d
      | panicked c=>exact d.elim
      | outgrown=>exact d
     all_goals exact b
   | halt x w'=>cases x <;> simp only[Oper.upon] at b⊢;exact b.elim
  exact .inr ⟨l,j⟩
 rename_i g;simpa only[g,if_false,Bool.false_eq_true] using b
def kZ (head listed:Array Bool):Bool:=(List.range head.size).all λi=>!head.getD i false||listed.getD i false
def jH {head:Array Bool} (h:kZ head a=true) (c:head.getD i false=true):a.getD i false=true:=by
 have b:i<head.size:=by
  rcases Nat.lt_or_ge i head.size with h'|h'
  ·exact h'
  simp[Array.getElem?_eq_none h'] at c
 have:=List.all_eq_true.1 h i (List.mem_range.2 b);rw[c] at this;simpa using this
def Closed (md:Region.Mode) (ops:Array Oper) (listed:Array Bool):Prop:=
 ∀j o,ops[j]? = some o->listed.getD j false=true->∀e∈o.after,Region.binds md e=true->listed.getD e.on false=true
def waits (md:Region.Mode) (ops:Array Oper) (i:Nat):Nat->Nat->Bool
 | 0,_=>false
 | n+1,j=>match ops[j]? with
   | some o=>o.after.any (λe=>Region.binds md e&&e.on==i)||o.after.any (λe=>Region.binds md e&&waits md ops i n e.on)
   | none=>false
def lh (l:Closed md ops a) (k:a.getD i false=false):∀(n j:Nat) (f:Oper),ops[j]? = some f->waits md ops i n j=true->
 ¬∀e∈f.after,Region.binds md e=true->a.getD e.on false=true
 | 0,_,_,_,h=>by cases h
 | n+1,j,f,hj,h=>by
   intro c;simp only[waits,hj,Bool.or_eq_true] at h;rcases h with h|h
   ·obtain⟨e,d,b⟩:=Array.any_eq_true'.1 h;simp only[Bool.and_eq_true,beq_iff_eq] at b;have:=c e d b.1;rw[b.2,k] at this;cases this
   obtain⟨e,d,b⟩:=Array.any_eq_true'.1 h;simp only[Bool.and_eq_true] at b;have m:=c e d b.1;cases g:ops[e.on]? with
   | none=>rw[show waits md ops i n e.on=false from by cases n <;> simp[waits,g]] at b;exact absurd b.2 (by simp)
   | some o=>exact lh l k n e.on o g b.2 (l e.on o g m)
def Closed.step (m:Closed md ops a) {j:Nat} (l:j∈Region.ready md ops a):Closed md ops (a.setIfInBounds j true):=by
 intro k o f h e g i;apply getD_set_true;by_cases c:j=k
 ·subst c;obtain⟨_,o',d,b⟩:=mem_ready.1 l;rw[d] at f;cases f;exact b e g i
 rw[getD_set_ne false c] at h;exact m k o f h e g i
def UB (md:Region.Mode) (ops:Array Oper) (head listed:Array Bool) (i:Nat):Bool:=
 match ops[i]? with
 | none=>false
 | some oi=>(List.range ops.size).all λj=>j==i||listed.getD j true||match ops[j]? with
    | some oj=>oj.after.any (λe=>Region.binds md e&&e.on==i)||(head.getD j false&&oi.apart ops oj)||waits md ops i ops.size j
    | none=>true
def oK {m:Oper} (o:ops[i]? = some m) (h:UB md ops head a i=true) (j:Nat) (d:Oper)
 (l:ops[j]? = some d) (k:j≠i) (g:a.getD j true=false) (c:∀e∈d.after,Region.binds md e=true->e.on≠i) :
 (head.getD j false=true/\m.apart ops d=true)\/waits md ops i ops.size j=true:=by
 simp only[UB,o,List.all_eq_true,List.mem_range] at h;have b:=h j (Array.getElem?_eq_some_iff.1 l).1;simp only[l,Bool.or_eq_true,beq_iff_eq,k,false_or,g,Bool.false_eq_true] at b;rcases b with (b|b)|b
 ·obtain⟨e,n,f⟩:=Array.any_eq_true'.1 b;simp only[Bool.and_eq_true,beq_iff_eq] at f;exact absurd f.2 (c e n f.1)
 ·exact .inl (by simpa using b)
 exact .inr b
def vM (md:Region.Mode) (ops:Array Oper) (listed:Array Bool):Bool:=
 (List.range ops.size).all λj=>!listed.getD j false||match ops[j]? with
   | some o=>o.after.all λe=>!Region.binds md e||listed.getD e.on false
   | none=>true
def oL (h:vM md ops a=true):Closed md ops a:=by
 intro j o c g e d i;have b:=List.all_eq_true.1 h j (List.mem_range.2 (Array.getElem?_eq_some_iff.1 c).1);simp only[g,c,Bool.not_true,Bool.false_or] at b;have f:=Array.all_eq_true_iff_forall_mem.1 b e d;simpa [i] using f
def tq (md:Region.Mode) (ops:Array Oper) (head:Array Bool):List Nat->Array Bool->Bool
 | [],_=>true
 | i::l,listed=>(Region.ready md ops listed).contains i&&UB md ops head listed i&&head.getD i false&&tq md ops head l (listed.setIfInBounds i true)
def aS:List Nat->Array Bool->Array Bool
 | [],listed=>listed
 | i::l,listed=>aS l (listed.setIfInBounds i true)
def Eo:Op->Bool
 | .move _|.assign _|.pick ..|.load ..|.binOp ..|.unOp ..|.convert ..|.slice ..|.fieldAddr ..|.field ..|.indexAddr ..|.index ..|.extract ..|.build ..|.nilCheck _=>true
 | .call { callee:=.builtin b,.. }=>match b with|.len|.cap|.max|.min=>true|_=>false
 | _=>false
def uj (s:Sem Value) (w:World) (f:FuncId) (args:Array Value) (w':World):(s.bind λx=>Sem.pure (Next.value x)).run P w≠.ok (.enter f args) w':=by
 rw[Sem.run_bind'];cases s.run P w with
 | ok x w1=>intro h;cases h
 | halt x w1=>intro h;cases h
def Gs {P:Program} {x:Operand} {dst:Option Tmp} {type:TypeId} {pos:String} {after:Array Edge} {guard:Option (Nat×Bool)} (w:World) (f:FuncId) (args:Array Value) (w':World):(execOp ρ { dst:=dst,op:=.nilCheck x,type:=type,pos:=pos,after:=after,guard:=guard }).run P w≠.ok (.enter f args) w':=by
 simp only[execOp]
 split
 ·intro h;cases h
 ·intro h;cases h
 ·intro h;cases h
 ·split
  ·intro h;cases h
  ·show(Sem.bind _ _).run P w≠_;rw[Sem.run_bind'];cases (program:Sem Program).run P w with
   | halt x w1=>intro h;cases h
   | ok p w1=>
     show(Sem.bind _ _).run P w1≠_;rw[Sem.run_bind'];cases (nilAhead (p.types.size+Made.depth) _ _ _).run P w1 with
     | halt x w2=>intro h;cases h
     | ok b w2=>
       show Sem.run P (if (b !=some false)=true then _ else _) w2≠_
       split
       ·show(Sem.bind _ _).run P w2≠_;rw[Sem.run_bind'];intro h;generalize Sem.run P (unsupported _) w2=r at h;cases r with
        | halt x w3=>cases h
        | ok x w3=>cases h
       intro h;cases h
  intro h;cases h
 intro h;cases h
def Jf (h:Eo o.op=true) (w:World) (f:FuncId) (args:Array Value) (w':World):(execOp ρ o).run P w≠.ok (.enter f args) w':=by
 obtain⟨dst,op,type,pos,after,guard⟩:=o;cases op <;> simp only[Eo,Bool.false_eq_true] at h
 case move x=>intro h;cases h
 case assign x=>intro h;cases h
 case nilCheck x=>exact Gs _ _ _ _
 case pick c a b=>
  simp only[execOp];cases ρ c <;> first|(intro h;cases h;done)|(intro h;simp[asBool] at h)
 case call c=>
  obtain⟨callee,d,e⟩:=c;cases callee <;> simp only[Bool.false_eq_true] at h
  case builtin b=>
   cases b <;> simp only[Bool.false_eq_true] at h
   all_goals exact uj _ _ _ _ _
 all_goals exact uj _ _ _ _ _
def AQ (ops:Array Oper) (l:List Nat):Bool:=l.all λi=>match ops[i]? with|some o=>Eo o.op|none=>false
def bu (ops:Array Oper) (l:List Nat):List Oper:=l.filterMap (ops[·]?)
def nth:List Oper->Nat->Option Oper
 | [],_=>none
 | o::_,0=>some o
 | _::l,i+1=>nth l i
def Gt:∀(l:List Oper) (i:Nat),nth l i=l[i]?
 | [],_=>by simp[nth]
 | _::_,0=>by simp[nth]
 | _::l,i+1=>by simp[nth,Gt l i]
def fM (h:nth ops.toList i=some o):ops[i]? = some o:=by rw[Gt] at h;simpa using h
def aA {C:World->Prop} {K:Act->Prop} {l:List Nat} {a:Act} (b:nth ops.toList i=some o) (h:wpQuiet P ops C K (o::bu ops l) a):wpQuiet P ops C K (bu ops (i::l)) a:=by
 have c:bu ops (i::l)=o::bu ops l:=by simp[bu,fM b]
 rw[c];exact h
def az {C:World->Prop} {K:Act->Prop} {a:Act} (h:K a):wpQuiet P ops C K (bu ops []) a:=h
def tail_cons {l:List Nat} {a:Act} (b:nth ops.toList i=some o) (h:wpList P ops Q (o::bu ops l) a w):wpList P ops Q (bu ops (i::l)) a w:=by
 have c:bu ops (i::l)=o::bu ops l:=by simp[bu,fM b]
 rw[c];exact h
def tail_nil {a:Act} (h:Q .normal a w):wpList P ops (QP Q) (bu ops []) a w:=h
def xE:Op->Bool
 | .move _|.assign _|.pick ..|.extract ..=>true
 | _=>false
def pure_run (h:xE o.op=true):(∃v,∀w,(execOp ρ o).run P w=.ok (.value v) w/\∀e,((execOp ρ o).runT P w e).2=e)\/(∃s,∀w,(execOp ρ o).run P w=.halt (.stuck s) w/\∀e,((execOp ρ o).runT P w e).2=e):=by
 obtain⟨dst,op,type,pos,after,guard⟩:=o;cases op <;> simp only[xE,Bool.false_eq_true] at h
 case move x=>exact .inl ⟨ρ x,λw=>⟨rfl,λ_=>rfl⟩⟩
 case assign x=>exact .inl ⟨ρ x,λw=>⟨rfl,λ_=>rfl⟩⟩
 case pick c a b=>
  cases d:ρ c
  case bool t=>cases t <;> exact .inl ⟨_,λw=>by constructor;{ simp only[execOp,d];rfl };{ intro e;simp only[execOp,d];rfl }⟩
  all_goals exact .inr ⟨_,λw=>by constructor;{ simp only[execOp,d];rfl };{ intro e;simp only[execOp,d];rfl }⟩
 case extract x ix=>
  cases d:ρ x
  case tuple vs=>
   cases f:vs[ix]? with
   | none=>exact .inr ⟨_,λw=>by constructor;{ simp only[execOp,d,Instr.extract,f];rfl };{ intro e;simp only[execOp,d,Instr.extract,f];rfl }⟩
   | some y=>exact .inl ⟨y,λw=>by constructor;{ simp only[execOp,d,Instr.extract,f];rfl };{ intro e;simp only[execOp,d,Instr.extract,f];rfl }⟩
  all_goals exact .inr ⟨_,λw=>by constructor;{ simp only[execOp,d,Instr.extract];rfl };{ intro e;simp only[execOp,d,Instr.extract];rfl }⟩
def uk (md:Region.Mode) (ops:Array Oper):List Nat->Array Bool->Bool
 | [],listed=>(Region.ready md ops listed).isEmpty
 | i::l,listed=>(Region.ready md ops listed==[i]||((Region.ready md ops listed).contains i&&Region.free md ops listed i&&(match ops[i]? with|some o=>xE o.op|none=>false)))&&uk md ops l (listed.setIfInBounds i true)
def iB (n:Region.noSelect ops=true):∀(l:List Nat) (b:Array Bool) (a:Act) (w:World),
 uk md ops l b=true->wpList P ops (QP Q) (bu ops l) a w->wpAny P md ops (QP Q) l.length b a w
 | [],b,a,w,hB,h=>⟨by simpa [uk] using hB,h⟩
 | i::l,b,a,w,hB,h=>by
   simp only[uk,Bool.and_eq_true,Bool.or_eq_true,beq_iff_eq] at hB;obtain⟨k,d⟩:=hB;rcases k with k|⟨⟨k,c⟩,g⟩
   ·refine wpAny_all k (by simp) λj t=>?_;obtain rfl:j=i:=by simpa using t
    have r:j∈Region.ready md ops b:=by rw[k];simp
    obtain⟨_,o,f,_⟩:=mem_ready.1 r;have g:bu ops (j::l)=o::bu ops l:=by simp[bu,f]
    rw[g] at h;unfold wpOp;simp only[f];unfold wpList at h
    split
    ·rename_i e;rw[if_pos e] at h;exact h.imp (Oper.wp_mono λa w h=>iB n l _ a w d h) id
    rename_i e;rw[if_neg e] at h;exact iB n l _ _ w d h
   cases f:ops[i]? with
   | none=>rw[f] at g;cases g
   | some o=>
     rw[f] at g;simp only at g;have q:bu ops (i::l)=o::bu ops l:=by simp[bu,f]
     rw[q] at h;unfold wpList at h;by_cases e:Region.wanted o (yielded ops a.tmps)=true
     ·rw[if_pos e] at h;rcases pure_run (P:=P) (ρ:=a.eval) g with⟨v,m⟩|⟨s,m⟩
      ·refine wpAny_take f n c k (λ_ _ _ h=>h.elim) (.inl ⟨e,λw=>(m w).1⟩) (iB n l _ _ w d ?_);rcases h with h|⟨p,_⟩
       ·unfold Oper.wp at h;rw[(m w).1] at h;exact h
       exfalso;have:=p.1;rw[(m w).2] at this;simp at this
      exfalso;rcases h with h|⟨p,_⟩
      ·unfold Oper.wp at h;rw[(m w).1] at h;exact h
      have:=p.1;rw[(m w).2] at this;simp at this
     rw[if_neg e] at h;exact wpAny_take f n c k (λ_ _ _ h=>h.elim) (.inr ⟨by simpa using e,rfl⟩) (iB n l _ _ w d h)
def vN :∀(n:Nat) (b:Array Bool) (a:Act) (w:World),wpAny P md ops (QP Q) n b a w->wpAny P md ops Q n b a w
 | 0,_,_,_,h=>⟨h.1,h.2⟩
 | n+1,_,_,_,h=>⟨λh0=>h.1 h0,λi c=>wpOp_mono (λa w h=>vN n _ a w h) (Am (h.2 i c))⟩
end
structure KR where
 rel:World->World->Prop
 refl:∀w,rel w w
 trans:∀{a b c},rel a b->rel b c->rel a c
structure vG (R:KR) (w:World) where
 tw:World
 ext:R.rel w tw
def KR.blocks (S:Nat->Prop):KR:=⟨λw w'=>(∀k,S k->w'.heap[k]? = w.heap[k]?)/\w.heap.size<=w'.heap.size,λ_=>⟨λ_ _=>rfl,Nat.le_refl _⟩,λb c=>⟨λk a=>(c.1 k a).trans (b.1 k a),Nat.le_trans b.2 c.2⟩⟩
def vG.keeps {S:Nat->Prop} {w:World} {b o:Nat} {v:Value} (h:w.cell? ⟨b,o,none⟩=some v) (a:S b):∀g:vG (KR.blocks S) w,g.tw.cell? ⟨b,o,none⟩=some v:=
 λg=>by
  have:=g.ext.1 b a;unfold World.cell? at h⊢;rw[this];exact h
def KR.of_below {S:Nat->Prop} {B:Nat} {w w':World} (h:Below B w w') (b:w.heap.size<=w'.heap.size) (c:∀k,S k->k<B):(KR.blocks S).rel w w':=⟨λk a=>h.block k (c k a),b⟩
def KR.bQ {S:Nat->Prop} {w w':World} {row:Option Nat} (h:w.grownBy w' row) (c:w.heap.size<=w'.heap.size) (b:∀k,S k->k<w.heap.size/\row≠some k):(KR.blocks S).rel w w':=
 ⟨λk a=>h.block k (b k a).1 (λe=>(b k a).2 e.symm),c⟩
def M_:Op->Bool
 | .lookup ..=>true
 | o=>Eo o
def QW {P:Program} {ρ:Operand->Value} {o:Oper} (h:M_ o.op=true) (w:World) (f:FuncId) (args:Array Value) (w':World):(execOp ρ o).run P w≠.ok (.enter f args) w':=by
 by_cases a:Eo o.op=true
 ·exact Jf a w f args w'
 obtain⟨dst,op,type,pos,after,guard⟩:=o;cases op <;> simp only[M_,Eo,not_true_eq_false] at h a
 case lookup t m x c=>exact uj _ _ _ _ _
 all_goals first|(exact absurd h a)|(exact absurd h (by simp))
def rJ (ops:Array Oper) (l:List Nat):Bool:=l.all λi=>match ops[i]? with|some o=>M_ o.op|none=>false
section
variable {R : KR} {P : Program} {ops : Array Oper} {md : Region.Mode} {head : Array Bool}
variable {Q:Exit->Act->World->Prop} {w:World} {o:Oper} {v:Value} {a:Act} {i:Nat} {K:Act->World->Prop} {T:Array Bool->Act->World->Prop} {b:Array Bool}
def Na (R:KR) (P:Program) (ops:Array Oper) (Q:Exit->Act->World->Prop) (i:Nat) (K:Act->World->Prop) (a:Act) (w:World):Prop:=
 wpOp P ops (QP Q) i (λb w'=>R.rel w w'/\K b w') a w
def Jg (R:KR) (P:Program) (md:Region.Mode) (ops:Array Oper) (head:Array Bool) (Q:Exit->Act->World->Prop) (T:Array Bool->Act->World->Prop):Nat->Array Bool->Act->World->Prop
 | 0,listed,a,w=>kZ head listed=true/\T listed a w
 | n+1,listed,a,w=>Region.ready md ops listed≠[]/\
   ∀i∈Region.ready md ops listed,head.getD i false=true/\Na R P ops Q i (Jg R P md ops head Q T n (listed.setIfInBounds i true)) a w
def uo {t:Nat}:∀(n:Nat) (b:Array Bool) (a:Act) (w:World),
 Jg R P md ops head Q (λl a w=>wpAny P md ops Q t l a w) n b a w->wpAny P md ops Q (n+t) b a w
 | 0,_,_,_,h=>by simpa using h.2
 | n+1,b,a,w,h=>by
   rw[Nat.add_right_comm];refine⟨λh0=>absurd h0 h.1,λi c=>?_⟩;exact wpOp_mono (λe w' d=>uo n _ e w' d.2) (Am (h.2 i c).2)
def dZ (R:KR) (P:Program) (ops:Array Oper) (w:World) (o:Oper) (v:Value) (a:Act):Prop:=
 (Region.wanted o (yielded ops a.tmps)=true/\∀w',R.rel w w'->((execOp a.eval o).run P w'=.ok (.value v) w'\/((execOp a.eval o).run P w'=.ok .skip w'/\v=undef)))\/
 (Region.wanted o (yielded ops a.tmps)=false/\v=undef)
def dZ.mono {w':World} (h:dZ R P ops w o v a) (e:R.rel w w'):dZ R P ops w' o v a:=
 h.imp (λ⟨f,d⟩=>⟨f,λc b=>d c (R.trans e b)⟩) id
def dZ.of_same {b:Act} (d:dZ R P ops w o v a) (c:execOp b.eval o=execOp a.eval o)
 (e:Region.wanted o (yielded ops b.tmps)=Region.wanted o (yielded ops a.tmps)):dZ R P ops w o v b:=by
 unfold dZ at *;rw[c,e];exact d
def dZ.Na (e:ops[i]? = some o) (f:dZ R P ops w o v a)
 (h:K (a.put o.dst v) w):Na R P ops Q i K a w:=by
 unfold Cd.Na wpOp;simp only[e];rcases f with⟨c,d⟩|⟨c,rfl⟩
 ·have b:=d w (R.refl _);clear d;rcases b with b|⟨b,rfl⟩
  ·simp only[c,if_true,Oper.wp,b,Oper.upon];exact .inl ⟨R.refl _,h⟩
  simp only[c,if_true,Oper.wp,b,Oper.upon];exact .inl ⟨R.refl _,h⟩
 simp only[c,Bool.false_eq_true,if_false];exact⟨R.refl _,h⟩
def P9 {j:Nat} {i k:Oper} (G:ops[j]? = some k) (B:i.apart ops k=true)
 (t:∀E b,i.op≠.select E b) (y:∀E b,k.op≠.select E b)
 
 (o:dZ R P ops w i v a) (h:Na R P ops Q j K (a.put i.dst v) w) :
 Na R P ops Q j (λF w'=>dZ R P ops w' i v F/\K (F.put i.dst v) w') a w:=by
 obtain⟨D,s,z⟩:=Oper.apart_spec B;have g:∀(a:Act),dZ R P ops w i v a->∀u,dZ R P ops w i v (a.put k.dst u):=λa o u=>
  o.of_same (execOp_put i t a k.dst u z) (wanted_put i a k.dst u z)
 have p:∀d,dZ R P ops w i v { a with defers:=d::a.defers }:=λd=>o.of_same rfl rfl;unfold Cd.Na wpOp at *;simp only[G] at *;rw[wanted_put k a i.dst v D] at h
 split
 ·rename_i A;simp only[A,if_true] at h;rcases h with h|⟨l,q⟩
  case inr=>exact .inr ⟨by unfold Oper.asks at *;rw[execOp_put k y a i.dst v D] at l;exact l,q⟩
  refine .inl ?_;unfold Oper.wp at *;rw[execOp_put k y a i.dst v D] at h;generalize (execOp a.eval k).run P w=r at *;cases r with
  | ok n w'=>
    cases n <;> simp only[Oper.upon] at h⊢
    case value u=>exact⟨h.1,(g a o u).mono h.1,by rw[<-Act.put_comm a v u s];exact h.2⟩
    case skip=>exact⟨h.1,(g a o _).mono h.1,by rw[<-Act.put_comm a v undef s];exact h.2⟩
    case defer d=>
     refine⟨h.1,(dZ.of_same (p d) (execOp_put i t _ k.dst _ z) (wanted_put i _ k.dst _ z)).mono h.1,?_⟩;rw[<-Act.put_comm _ v undef s,<-Act.put_defers];exact h.2
    case enter f args=>
     refine Calls.mono h λe C m=>?_;cases e with
     | returned u=>exact⟨m.1,(g a o u).mono m.1,by rw[<-Act.put_comm a v u s];exact m.2⟩
     | panicked c=>exact m.elim
     | outgrown=>exact m
    case row row args=>exact Rows.mono h λu C m=>⟨m.1,(g a o u).mono m.1,by rw[<-Act.put_comm a v u s];exact m.2⟩
  | halt x w'=>
    cases x <;> simp only[Oper.upon] at h⊢
    case panic u=>exact h.elim
 rename_i A;simp only[A] at h;exact⟨h.1,g a o _,by rw[<-Act.put_comm a v undef s];exact h.2⟩
def Jh {b:Act->World->Prop} (h:∀a w,K a w->b a w)
 (e:Na R P ops Q i K a w):Na R P ops Q i b a w:=wpOp_mono (λ_ _ ⟨c,d⟩=>⟨c,h _ _ d⟩) e
def Er {u:Oper} (O:ops[i]? = some u) (t:∀(j:Nat) (o:Oper) F b,ops[j]? = some o->o.op≠.select F b)
 (B:head.getD i false=true) :
 ∀(n:Nat) (c:Array Bool) (a:Act) (w:World),Closed md ops c->
  (∀j l,ops[j]? = some l->j≠i->c.getD j true=false->(∀e∈l.after,Region.binds md e=true->e.on≠i)->(head.getD j false=true/\u.apart ops l=true)\/waits md ops i ops.size j=true)->
  i∈Region.ready md ops c->dZ R P ops w u v a->
  Jg R P md ops head Q T n (c.setIfInBounds i true) (a.put u.dst v) w->Jg R P md ops head Q T (n+1) c a w:=by
 intro n;have key:∀(c:Array Bool),Closed md ops c->
  (∀j l,ops[j]? = some l->j≠i->c.getD j true=false->(∀e∈l.after,Region.binds md e=true->e.on≠i)->(head.getD j false=true/\u.apart ops l=true)\/waits md ops i ops.size j=true)->
  i∈Region.ready md ops c->∀j,j∈Region.ready md ops c->j≠i->∃l,ops[j]? = some l/\c.getD j true=false/\head.getD j false=true/\u.apart ops l=true:=by
  intro c p d q j y g;obtain⟨f,l,m,s⟩:=mem_ready.1 y;have h0:=(mem_ready.1 q).1;have D:c.getD i false=false:=by
   rcases Nat.lt_or_ge i c.size with h'|h'
   ·simp[h'] at h0⊢;exact h0
   simp[Array.getElem?_eq_none h']
  have C:∀e∈l.after,Region.binds md e=true->e.on≠i:=λe V X K=>by
   have I:=s e V X;rw[K,D] at I;cases I
  rcases d j l m g f C with h|h
  ·exact⟨l,m,f,h.1,h.2⟩
  exact absurd s (lh p D _ j l m h)
 induction n with
 | zero=>
   intro c a w p d q G H;refine⟨λh=>(by rw[h] at q;cases q),λj y=>?_⟩;by_cases g:j=i
   ·subst g;exact⟨B,G.Na O H⟩
   obtain⟨l,m,f,J,_⟩:=key c p d q j y g;have x:=jH H.1 J;rw[getD_set_ne false (Ne.symm g)] at x;rcases Nat.lt_or_ge j c.size with h'|h'
   ·simp[h'] at f x;rw[f] at x;cases x
   simp[Array.getElem?_eq_none h'] at x
 | succ n ih=>
   intro c a w p d q G H;refine⟨λh=>(by rw[h] at q;cases q),λj y=>?_⟩;by_cases g:j=i
   ·subst g;exact⟨B,G.Na O H⟩
   obtain⟨W,I⟩:=H.2 j (ready_mono y g);obtain⟨l,m,f,_,L⟩:=key c p d q j y g;have x:=P9 m L (λF b=>t i u F b O) (λF b=>t j l F b m) G I;have r:∀k A,ops[k]? = some A->k≠i->(c.setIfInBounds j true).getD k true=false->
    (∀e∈A.after,Region.binds md e=true->e.on≠i)->(head.getD k false=true/\u.apart ops A=true)\/waits md ops i ops.size k=true:=λk A U N z M=>by
    refine d k A U N ?_ M;by_cases E:j=k
    ·subst E;exact f
    rw[getD_set_ne true E] at z;exact z
   refine⟨W,Jh (λY w' S=>ih (c.setIfInBounds j true) Y w' (p.step y) r (ready_mono q (Ne.symm g)) S.1 ?_) x⟩;rw[Array.setIfInBounds_comm _ _ g];exact S.2
def Gu (p:Region.noSelect ops=true):∀(l:List Nat) (n:Nat) (b:Array Bool) (a:Act) (w:World),Closed md ops b->
 (rJ ops l&&tq md ops head l b)=true->wpQuiet P ops (λw'=>∃g:vG R w,w'=g.tw) (λD=>Jg R P md ops head Q T n (aS l b) D w) (bu ops l) a->Jg R P md ops head Q T (n+l.length) b a w
 | [],n,b,a,w,_,_,h=>h
 | i::l,n,b,a,w,hcl,hB,h=>by
   simp only[tq,rJ,List.all_cons,Bool.and_eq_true] at hB;obtain⟨⟨c,s⟩,⟨⟨q,hf⟩,z⟩,y⟩:=hB;cases e:ops[i]? with
   | none=>rw[e] at c;cases c
   | some o=>
     rw[e] at c;simp only at c;have C:bu ops (i::l)=o::bu ops l:=by simp[bu,e]
     rw[C] at h;have k:(rJ ops l&&tq md ops head l (b.setIfInBounds i true))=true:=by simp only[rJ,Bool.and_eq_true];exact⟨s,y⟩
     simp only[wpQuiet] at h;by_cases m:Region.wanted o (yielded ops a.tmps)=true
     ·rw[if_pos m] at h;obtain⟨v,B,A⟩:=h;refine Er e (Region.noSelect_spec p) z (n+l.length) b a w hcl (oK e hf) (by simpa using q) (.inl ⟨m,λw' t=>?_⟩)
       (Gu p l n _ _ w (hcl.step (by simpa using q)) k A)
      have d:=B w' ⟨⟨w',t⟩,rfl⟩;unfold Oper.quietAt at d;generalize j:(execOp a.eval o).run P w'=r at d;cases r with
      | ok x w1=>
        cases x <;> simp only[Oper.quietUpon] at d
        case value u=>rw[d.1,d.2];exact .inl rfl
        case skip=>rw[d.1,d.2];exact .inr ⟨rfl,rfl⟩
        case enter f args=>exact absurd j (QW c _ _ _ _)
      | halt x w1=>exact d.elim
     rw[if_neg m] at h;exact Er e (Region.noSelect_spec p) z (n+l.length) b a w hcl (oK e hf) (by simpa using q) (.inr ⟨by simpa using m,rfl⟩)
      (Gu p l n _ _ w (hcl.step (by simpa using q)) k h)
def bZ (l:List Nat) (n:Nat) {m:Nat} 
 (h:wpQuiet P ops (λw'=>∃g:vG R w,w'=g.tw) (λd=>Jg R P md ops head Q T n (aS l b) d w) (bu ops l) a) (e:m=n+l.length:=by rfl) (c:((Region.noSelect ops&&vM md ops b)&&(rJ ops l&&tq md ops head l b))=true:=by kernel_rfl):Jg R P md ops head Q T m b a w:=by
  subst e;rw[Bool.and_eq_true,Bool.and_eq_true] at c;exact Gu c.1.1 l n b a w (oL c.1.2) c.2 h
def QR (R:KR) (Q:Exit->Act->World->Prop) (w:World) (K:Act->World->Prop):Exit->Act->World->Prop
 | .normal,a,w'=>R.rel w w'/\K a w'
 | .panic _,_,_=>False
 | e,a,w'=>Q e a w'
def mM (k:ops[i]? = some o)
 (h:wpList P ops (QR R Q w K) [o] a w):Na R P ops Q i K a w:=by
 unfold Cd.Na wpOp;simp only[k];unfold wpList at h
 split
 ·rename_i d;rw[if_pos d] at h;rcases h with h|⟨l,j⟩
  ·refine .inl ?_;unfold Oper.wp at *;generalize (execOp a.eval o).run P w=r at *;cases r with
   | ok n w'=>
     cases n <;> simp only[Oper.upon] at h⊢
     case enter f args=>
      refine Calls.mono h λe g b=>?_;cases e with
      | returned u=>exact b
      | panicked c=>exact b
      | outgrown=>exact b
     case row row args=>exact Rows.mono h λu g b=>b
     all_goals exact h
   | halt x w'=>cases x <;> simp only[Oper.upon] at h⊢;exact h
  exact .inr ⟨l,j⟩
 rename_i d;rw[if_neg d] at h;exact h
def bN {n:Nat} (i:Nat) 
 (h:wpList P ops (QR R Q w (Jg R P md ops head Q T n (b.setIfInBounds i true))) [o] a w) (d:(Region.ready md ops b==[i]&&head.getD i false)=true:=by kernel_rfl) (f:nth ops.toList i=some o:=by rfl):Jg R P md ops head Q T (n+1) b a w:=by
 simp only[Bool.and_eq_true,beq_iff_eq] at d;obtain⟨e,g⟩:=d;refine⟨by rw[e];simp,λj c=>?_⟩;rw[e] at c;obtain rfl:j=i:=by simpa using c
 exact⟨g,mM (fM f) h⟩
def P_ {n:Nat} (i k:Nat) {u:Oper} 
 (h:wpList P ops (QR R Q w (Jg R P md ops head Q T n (b.setIfInBounds i true))) [o] a w) (m:wpList P ops (QR R Q w (Jg R P md ops head Q T n (b.setIfInBounds k true))) [u] a w) (e:(Region.ready md ops b==[i,k]&&(head.getD i false&&head.getD k false))=true:=by kernel_rfl) (g:nth ops.toList i=some o:=by rfl) (l:nth ops.toList k=some u:=by rfl):Jg R P md ops head Q T (n+1) b a w:=by
 simp only[Bool.and_eq_true,beq_iff_eq] at e;obtain⟨f,d⟩:=e;refine⟨by rw[f];simp,λj c=>?_⟩;rw[f] at c;simp only[List.mem_cons,List.not_mem_nil,or_false] at c;rcases c with rfl|rfl
 ·exact⟨d.1,mM (fM g) h⟩
 exact⟨d.2,mM (fM l) m⟩
def bK {w':World} (b:R.rel w w') (c:K a w'):QR R Q w K .normal a w':=⟨b,c⟩
def eU (l:List Nat) 
 (h:wpList P ops (QP Q) (bu ops l) a w) (c:(kZ head b&&(Region.noSelect ops&&uk md ops l b))=true:=by kernel_rfl):Jg R P md ops head Q (λl' a w=>wpAny P md ops Q l.length l' a w) 0 b a w:=by
 simp only[Bool.and_eq_true] at c;exact⟨c.1,vN _ _ _ _ (iB c.2.1 l b a w c.2.2 h)⟩
def dF (R:KR) {b:Nat} {l:List Oper} (head:Array Bool) (n t:Nat) (c:P.follows .mixedOrders=true)
 (h:Jg R P .any l.toArray head Q (λl' a w=>wpAny P .any l.toArray Q t l' a w) n (Array.replicate l.length false) a w.drew) (d:n+t=l.length:=by rfl):(Code.region b l.toArray true).wp P Q a w:=by
 refine wp_region_any c ?_;have:=uo n _ _ _ h;rw[d] at this;simpa using this
end
def KR.E:KR:=⟨λw w'=>Below w.heap.size w w',λ_=>Below.refl _ _,λh k=>af h k⟩
section
variable {P : Program} {ops : Array Oper} {md : Region.Mode} {head : Array Bool}
variable {Q:Exit->Act->World->Prop} {w:World} {K:Act->World->Prop} {a:Act} {T:Array Bool->Act->World->Prop} {o:Oper} {v:Value} {i:Nat} {b:Array Bool}
def xG (P:Program) (ops:Array Oper) (Q:Exit->Act->World->Prop) (i:Nat) (K:Act->World->Prop) (a:Act) (w:World):Prop:=
 wpOp P ops (QP Q) i (λb w'=>Below w.heap.size w w'/\K b w') a w
def QX (P:Program) (md:Region.Mode) (ops:Array Oper) (head:Array Bool) (Q:Exit->Act->World->Prop) (T:Array Bool->Act->World->Prop):Nat->Array Bool->Act->World->Prop
 | 0,listed,a,w=>kZ head listed=true/\T listed a w
 | n+1,listed,a,w=>Region.ready md ops listed≠[]/\
   ∀i∈Region.ready md ops listed,head.getD i false=true/\xG P ops Q i (QX P md ops head Q T n (listed.setIfInBounds i true)) a w
def mP (P:Program) (ops:Array Oper) (w:World) (o:Oper) (v:Value) (a:Act):Prop:=
 (Region.wanted o (yielded ops a.tmps)=true/\∀w',Below w.heap.size w w'->((execOp a.eval o).run P w'=.ok (.value v) w'\/((execOp a.eval o).run P w'=.ok .skip w'/\v=undef)))\/
 (Region.wanted o (yielded ops a.tmps)=false/\v=undef)
def QE (Q:Exit->Act->World->Prop) (w:World) (K:Act->World->Prop):Exit->Act->World->Prop
 | .normal,a,w'=>Below w.heap.size w w'/\K a w'
 | .panic _,_,_=>False
 | e,a,w'=>Q e a w'
def aF {w':World} (b:Below w.heap.size w w') (c:K a w'):QE Q w K .normal a w':=⟨b,c⟩
def xH :∀(n:Nat) (b:Array Bool),QX P md ops head Q T n b=Jg KR.E P md ops head Q T n b
 | 0,_=>rfl
 | n+1,b=>funext λa=>funext λw=>by
   show(_/\∀i∈_,_/\xG P ops Q i (QX P md ops head Q T n _) a w)=(_/\∀i∈_,_/\Na KR.E P ops Q i (Jg KR.E P md ops head Q T n _) a w);simp only[xH n];rfl
def abf (Q:Exit->Act->World->Prop) (w:World) (K:Act->World->Prop):QE Q w K=QR KR.E Q w K:=funext λe=>by cases e <;> rfl
def aeU (w:World):(λw'=>∃g:Gr w,w'=g.tw)=(λw'=>∃g:vG KR.E w,w'=g.tw):=funext λw'=>propext ⟨λ⟨g,h⟩=>⟨⟨g.tw,g.ext⟩,h⟩,λ⟨g,h⟩=>⟨⟨g.tw,g.ext⟩,h⟩⟩
def mP.mono {w':World} (h:mP P ops w o v a) (b:Below w.heap.size w w'):mP P ops w' o v a:=dZ.mono (R:=KR.E) h b
def mP.xG (b:ops[i]? = some o) (c:mP P ops w o v a)
 (h:K (a.put o.dst v) w):xG P ops Q i K a w:=dZ.Na (R:=KR.E) b c h
def YB {j:Nat} {c f:Oper} (l:ops[j]? = some f) (i:c.apart ops f=true)
 (d:∀g b,c.op≠.select g b) (e:∀g b,f.op≠.select g b)
 
 (m:mP P ops w c v a) (h:xG P ops Q j K (a.put c.dst v) w) :
 xG P ops Q j (λk w'=>mP P ops w' c v k/\K (k.put c.dst v) w') a w:=P9 (R:=KR.E) l i d e m h
def qz {b:Act->World->Prop} (h:∀a w,K a w->b a w)
 (c:xG P ops Q i K a w):xG P ops Q i b a w:=Jh (R:=KR.E) h c
def qA (b:ops[i]? = some o)
 (h:wpList P ops (QE Q w K) [o] a w):xG P ops Q i K a w:=mM (R:=KR.E) b (by rw[<-abf];exact h)
def AR {t:Nat}:∀(n:Nat) (b:Array Bool) (a:Act) (w:World),
 QX P md ops head Q (λl a w=>wpAny P md ops Q t l a w) n b a w->wpAny P md ops Q (n+t) b a w:=λn b a w h=>uo (R:=KR.E) n b a w (by rw[<-xH];exact h)
def ay (l:List Nat) (n:Nat) {m:Nat} 
 (h:wpQuiet P ops (λw'=>∃g:Gr w,w'=g.tw) (λc=>QX P md ops head Q T n (aS l b) c w) (bu ops l) a) (e:m=n+l.length:=by rfl) (d:((Region.noSelect ops&&vM md ops b)&&(rJ ops l&&tq md ops head l b))=true:=by kernel_rfl):QX P md ops head Q T m b a w:=by
  rw[xH];rw[aeU] at h;simp only[xH] at h;exact bZ l n h e d
def aI {n:Nat} (i:Nat) 
 (h:wpList P ops (QE Q w (QX P md ops head Q T n (b.setIfInBounds i true))) [o] a w) (d:(Region.ready md ops b==[i]&&head.getD i false)=true:=by kernel_rfl) (c:nth ops.toList i=some o:=by rfl):QX P md ops head Q T (n+1) b a w:=by
 rw[xH];rw[abf,xH] at h;exact bN i h d c
def aJ (l:List Nat) 
 (h:wpList P ops (QP Q) (bu ops l) a w) (c:(kZ head b&&(Region.noSelect ops&&uk md ops l b))=true:=by kernel_rfl):QX P md ops head Q (λl' a w=>wpAny P md ops Q l.length l' a w) 0 b a w:=by
 simp only[Bool.and_eq_true] at c;exact⟨c.1,vN _ _ _ _ (iB c.2.1 l b a w c.2.2 h)⟩
def aC {b:Nat} {l:List Oper} (head:Array Bool) (n t:Nat) (c:P.follows .mixedOrders=true)
 (h:QX P .any l.toArray head Q (λl' a w=>wpAny P .any l.toArray Q t l' a w) n (Array.replicate l.length false) a w.drew) (d:n+t=l.length:=by rfl):(Code.region b l.toArray true).wp P Q a w:=by
 refine wp_region_any c ?_;have:=AR n _ _ _ h;rw[d] at this;simpa using this
end
end
variable {b x y:Nat}
def val (b:Nat):List Nat->Nat
 | []=>0
 | d::l=>d+b*val b l
def bY (b:Nat) (x:Nat):List Nat:=
 if _h:x=0\/b<2 then [] else x % b::bY b (x / b)
termination_by x
decreasing_by
 have a:x≠0:=λe=>_h (.inl e);exact Nat.div_lt_self (by omega) (by omega)
def di (b:Nat):bY b 0=[]:=by unfold bY;simp
def ll (a:2<=b) (c:x≠0):bY b x=x % b::bY b (x / b):=by
 rw[bY];rw[dif_neg (by omega)]
def nT (a:2<=b) (x:Nat):val b (bY b x)=x:=by
 induction x using Nat.strongRecOn with
 | ind x ih=>
   by_cases h:x=0
   ·subst h;rw[di];rfl
   rw[ll a h];show x % b+b*val b (bY b (x / b))=x;rw[ih _ (Nat.div_lt_self (by omega) (by omega))];exact Nat.mod_add_div x b
def Gv (a:2<=b) (x:Nat):∀d∈bY b x,d<b:=by
 induction x using Nat.strongRecOn with
 | ind x ih=>
   by_cases h:x=0
   ·subst h;rw[di];simp
   rw[ll a h];intro d hd;rcases List.mem_cons.1 hd with rfl|hd
   ·exact Nat.mod_lt _ (by omega)
   exact ih _ (Nat.div_lt_self (by omega) (by omega)) d hd
def yS (a:2<=b):bY b x=[]↔x=0:=by
 constructor
 ·intro h;have:=nT a x;rw[h] at this;exact this.symm
 rintro rfl;exact di b
def QY (f:2<=b) (x:Nat):∀d,(bY b x).getLast? = some d->d≠0:=by
 induction x using Nat.strongRecOn with
 | ind x ih=>
   intro d hd;by_cases h:x=0
   ·subst h;rw[di] at hd;simp at hd
   rw[ll f h] at hd;by_cases c:x / b=0
   ·rw[c,di] at hd;simp at hd;have:=Nat.mod_add_div x b;rw[c] at this;omega
   have a:bY b (x / b)≠[]:=λe=>c ((yS f).1 e);rw[List.getLast?_cons_of_ne_nil a] at hd;exact ih _ (Nat.div_lt_self (by omega) (by omega)) d hd
def val_append (b:Nat) (l m:List Nat):val b (l++m)=val b l+b ^ l.length*val b m:=by
 induction l with
 | nil=>simp[val]
 | cons d l ih=>
   simp only[List.cons_append,val,ih,List.length_cons,Nat.pow_succ];rw[Nat.mul_add,<-Nat.mul_assoc,Nat.mul_comm b (b ^ l.length)];omega
def Et (b n:Nat):val b (List.replicate n 0)=0:=by
 induction n with
 | zero=>rfl
 | succ n ih=>simp[List.replicate_succ,val,ih]
def UC :∀l:List Nat,(∀d∈l,d<b)->val b l<b ^ l.length
 | [],_=>by simp[val]
 | d::l,h=>by
   have:=h d (by simp);have c:=UC l (λx a=>h x (by simp[a]));simp only[val,List.length_cons,Nat.pow_succ]
   calc d+b*val b l<b+b*val b l:=by omega
    _=b*(val b l+1):=by rw[Nat.mul_add];omega
    _<=b*b ^ l.length:=Nat.mul_le_mul_left _ c
    _=b ^ l.length*b:=Nat.mul_comm _ _
def Ji (g:2<=b):∀l:List Nat,(∀d∈l,d<b)->(∀d,l.getLast? = some d->d≠0)->bY b (val b l)=l
 | [],_,_=>di b
 | [d],h,hl=>by
   have h0:d≠0:=hl d rfl;have a:d<b:=h d (by simp);have e:val b [d]=d:=by simp[val]
   rw[e,ll g h0,Nat.mod_eq_of_lt a,Nat.div_eq_of_lt a,di]
 | d::c::l,h,hl=>by
   have i:=Ji g (c::l) (λx j=>h x (List.mem_cons_of_mem _ j)) (λx j=>hl x (by rw[List.getLast?_cons_of_ne_nil (by simp)];exact j));have a:d<b:=h d (by simp);have k:val b (d::c::l)=d+b*val b (c::l):=rfl;have:val b (c::l)≠0:=λe=>by rw[e,di] at i;cases i
   have f:d+b*val b (c::l)≠0:=by
    have:0<b*val b (c::l):=Nat.mul_pos (by omega) (by omega);omega
   rw[k,ll g f,Nat.add_mul_mod_self_left,Nat.mod_eq_of_lt a,Nat.add_mul_div_left _ _ (by omega),Nat.div_eq_of_lt a,Nat.zero_add,i]
def UD (a:2<=b) (h:bY b x=bY b y):x=y:=by
 rw[<-nT a x,<-nT a y,h]
def Dy (f:2<=b) (l:List Nat) (n:Nat) (h:∀d∈l,d<b) (a:∀d∈l.drop n,d=0) (g:n<=l.length) (h0:n=0\/l[n-1]?≠some 0) :
 bY b (val b l)=l.take n:=by
 have e:l.drop n=List.replicate (l.drop n).length 0:=List.eq_replicate_iff.2 ⟨rfl,a⟩;have c:val b l=val b (l.take n):=by
  conv=>lhs;rw[<-List.take_append_drop n l]
  rw[val_append,e,Et];omega
 rw[c];refine Ji f _ (λd hd=>h d (List.mem_of_mem_take hd)) λd hd=>?_;rw[List.getLast?_eq_getElem?,List.length_take,Nat.min_eq_left g] at hd;rcases h0 with h0|h0
 ·subst h0;simp at hd
 rcases Nat.eq_zero_or_pos n with h1|h1
 ·subst h1;simp at hd
 rw[List.getElem?_take] at hd
 split at hd
 ·rintro rfl;exact h0 hd
 cases hd
def getElem?_digs (a:2<=b):∀(i x:Nat),((bY b x)[i]?).getD 0=x / b ^ i % b
 | 0,x=>by
   by_cases h:x=0
   ·subst h;simp[di]
   rw[ll a h];simp
 | i+1,x=>by
   by_cases h:x=0
   ·subst h;simp[di]
   rw[ll a h];simp only[List.getElem?_cons_succ];rw[getElem?_digs a i (x / b),Nat.div_div_eq_div_mul,Nat.pow_succ,Nat.mul_comm]
def oJ (b x i:Nat):Nat:=x / b ^ i % b
def xI (a:2<=b) (x i:Nat):oJ b x i<b:=Nat.mod_lt _ (by omega)
def UE (a:2<=b) (x i:Nat):((bY b x)[i]?).getD 0=oJ b x i:=getElem?_digs a i x
def sK (x y:Nat):Int:=if x<y then -1 else if y<x then 1 else 0
def vO (x j:Nat):x / b ^ j=b*(x / b ^ (j+1))+oJ b x j:=by
 unfold oJ;rw[Nat.pow_succ,<-Nat.div_div_eq_div_mul];exact(Nat.div_add_mod _ _).symm
def Eu {j:Nat} (h:x / b ^ (j+1)=y / b ^ (j+1)) (hd:oJ b x j<oJ b y j):x<y:=by
 have a:=vO (b:=b) x j;have:=vO (b:=b) y j;rw[h] at a;have:x / b ^ j<y / b ^ j:=by omega
 rcases Nat.lt_or_ge x y with h4|h4
 ·exact h4
 have:=Nat.div_le_div_right (c:=b ^ j) h4;omega
def z_ (b x n:Nat):List Nat:=(List.range n).map (oJ b x)
@[simp] theorem Jj (b x n:Nat):(z_ b x n).length=n:=by simp[z_]
def QZ (b x n:Nat):z_ b x (n+1)=z_ b x n++[oJ b x n]:=by simp[z_,List.range_succ]
def YC (a:2<=b) (x n:Nat):∀d∈z_ b x n,d<b:=by
 intro d hd;obtain⟨j,_,rfl⟩:=List.mem_map.1 hd;exact xI a x j
def mod_succ (b x n:Nat):x % b ^ (n+1)=x % b ^ n+b ^ n*oJ b x n:=by
 unfold oJ;rw[Nat.pow_succ,Nat.mod_mul]
def Jk (b x:Nat):∀n,val b (z_ b x n)=x % b ^ n
 | 0=>by simp[z_,val,Nat.mod_one]
 | n+1=>by rw[QZ,val_append,Jk b x n,mod_succ,Jj];simp[val]
def carry (b x y i:Nat):Nat:=(x % b ^ i+y % b ^ i) / b ^ i
def UF (c:2<=b) (x y i:Nat):carry b x y i<=1:=by
 unfold carry;have a:0<b ^ i:=Nat.pow_pos (by omega);have:=Nat.mod_lt x a;have:=Nat.mod_lt y a;have:(x % b ^ i+y % b ^ i) / b ^ i<2:=Nat.div_lt_of_lt_mul (by omega);omega
def carry_zero (b x y:Nat):carry b x y 0=0:=by simp[carry,Nat.mod_one]
def carry_succ (c:2<=b) (x y i:Nat):(oJ b x i+oJ b y i+carry b x y i) / b=carry b x y (i+1):=by
 have a:0<b ^ i:=Nat.pow_pos (by omega);have e:x % b ^ (i+1)+y % b ^ (i+1)=(x % b ^ i+y % b ^ i)+b ^ i*(oJ b x i+oJ b y i):=by rw[mod_succ,mod_succ,Nat.mul_add];omega
 show _=(x % b ^ (i+1)+y % b ^ (i+1)) / b ^ (i+1);rw[e,Nat.pow_succ,<-Nat.div_div_eq_div_mul,Nat.add_mul_div_left _ _ a];show _=(carry b x y i+_) / b;rw[Nat.add_comm]
def YD (f:2<=b) (x y i:Nat):(oJ b x i+oJ b y i+carry b x y i) % b=oJ b (x+y) i:=by
 have a:0<b ^ i:=Nat.pow_pos (by omega);have e:x+y=(x % b ^ i+y % b ^ i)+b ^ i*(x / b ^ i+y / b ^ i):=by
  have:=Nat.mod_add_div x (b ^ i);have:=Nat.mod_add_div y (b ^ i);rw[Nat.mul_add];omega
 have c:(x+y) / b ^ i=carry b x y i+(x / b ^ i+y / b ^ i):=by
  conv=>lhs;rw[e]
  rw[Nat.add_mul_div_left _ _ a];rfl
 unfold oJ;rw[c,Nat.add_comm (carry b x y i),Nat.add_mod (x / b ^ i+y / b ^ i),Nat.add_mod (x / b ^ i) (y / b ^ i)];simp[Nat.add_mod]
def Nb (a:2<=b) {n:Nat} (c:x<b ^ n) (d:y<b ^ n):x+y<b ^ (n+1):=by
 rw[Nat.pow_succ];have:b ^ n*2<=b ^ n*b:=Nat.mul_le_mul_left _ a;omega
def Q0 (h:x<y):sK x y=-1:=by simp[sK,h]
def xJ (h:y<x):sK x y=1:=by unfold sK;rw[if_neg (by omega),if_pos h]
def UG (x:Nat):sK x x=0:=by simp[sK]
def cZ (f:2<=b) {n:Nat}:(bY b x).length<=n↔x<b ^ n:=by
 constructor
 ·intro h;have a:=UC (b:=b) (bY b x) (Gv f x);rw[nT f] at a;exact Nat.lt_of_lt_of_le a (Nat.pow_le_pow_right (by omega) h)
 intro h;rcases Nat.lt_or_ge n (bY b x).length with a|a
 ·exfalso;have g:bY b x≠[]:=by intro e;rw[e] at a;simp at a
  obtain⟨d,hd⟩:∃d,(bY b x).getLast? = some d:=⟨_,List.getLast?_eq_some_getLast g⟩;have h0:=QY f x d hd;rw[List.getLast?_eq_getElem?] at hd;have c:=getElem?_digs f ((bY b x).length-1) x;rw[hd] at c;simp only[Option.getD_some] at c;have i:x / b ^ ((bY b x).length-1)=0:=by
   apply Nat.div_eq_of_lt;exact Nat.lt_of_lt_of_le h (Nat.pow_le_pow_right (by omega) (by omega))
  rw[i] at c;simp at c;exact h0 c
 exact a
end Go.Cd
namespace Go.Cd
open Go.RowKit
variable {e T:TypeId} {w w' a:World} {v u:Value} {c d:List Value} {b x n cap k o base:Nat} {P:Program} {ops:Array Oper} {rest:List Oper} {Q:Exit->Act->World->Prop}
def Sl (e:TypeId) (w:World) (v:Value) (xs:List Value):Prop:=
 ∃a cap,v=.slice a xs.length cap/\xs.length<=cap/\(xs=[]/\(a=none->cap=0)\/∃b off c d,a=some ⟨b,off,none⟩/\w.heap[b]? = some (.cells c e d)/\∀i (h:i<xs.length),c[off+i]? = some xs[i])
def bG (w:World) (v:Value) (xs:List Value):Prop:=
 ∃a cap,v=.slice a xs.length cap/\xs.length<=cap/\(xs=[]/\(a=none->cap=0)\/∃b off c e d,a=some ⟨b,off,none⟩/\w.heap[b]? = some (.cells c e d)/\∀i (h:i<xs.length),c[off+i]? = some xs[i])
def Sl.any (h:Sl e w v c):bG w v c:=by
 obtain⟨a,cap,d,i,h⟩:=h;exact⟨a,cap,d,i,h.imp id λ⟨b,off,g,f,r⟩=>⟨b,off,g,e,f,r⟩⟩
def block_lt {o:Obj} (h:w.heap[b]? = some o):b<w.heap.size:=(Array.getElem?_eq_some_iff.1 h).1
def Sl.mono (h:Sl e w v d) (i:Below w.heap.size w w'):Sl e w' v d:=by
 obtain⟨a,cap,f,l,h⟩:=h;refine⟨a,cap,f,l,h.imp id ?_⟩;rintro⟨b,off,k,j,g,c,m⟩;exact⟨b,off,k,j,g,by rw[i.block b (block_lt c)];exact c,m⟩
def bG.mono (h:bG w v d) (i:Below w.heap.size w w'):bG w' v d:=by
 obtain⟨a,cap,f,l,h⟩:=h;refine⟨a,cap,f,l,h.imp id ?_⟩;rintro⟨b,off,k,e,j,g,c,m⟩;exact⟨b,off,k,e,j,g,by rw[i.block b (block_lt c)];exact c,m⟩
def Sl.nil (e:TypeId) (w:World) (a:Option Addr) (cap:Nat) (h:a=none->cap=0):Sl e w (.slice a 0 cap) []:=⟨a,cap,rfl,Nat.zero_le _,.inl ⟨rfl,h⟩⟩
def bG.out (h:bG w v c):∃a cap,v=.slice a c.length cap/\c.length<=cap/\
 ∀i (d:i<c.length),∃b off,a=some ⟨b,off,none⟩/\b<w.heap.size/\w.cell? ⟨b,off+i,none⟩=some c[i]:=by
 obtain⟨a,cap,g,k,h⟩:=h;refine⟨a,cap,g,k,λi d=>?_⟩;rcases h with h|⟨b,off,n,e,m,j,f,l⟩
 ·rw[h.1] at d;simp at d
 refine⟨b,off,j,block_lt f,?_⟩;unfold World.cell?;rw[f];simpa using l i d
def Sl.out (h:Sl e w v c):∃a cap,v=.slice a c.length cap/\c.length<=cap/\
 ∀i (d:i<c.length),∃b off,a=some ⟨b,off,none⟩/\b<w.heap.size/\w.cell? ⟨b,off+i,none⟩=some c[i]:=h.any.out
def bG.cases (h:bG w v c):(c=[]/\∃a cap,v=.slice a 0 cap/\(a=none->cap=0))\/
 ∃b off cap,v=.slice (some ⟨b,off,none⟩) c.length cap/\c.length<=cap/\0<c.length/\b<w.heap.size/\∀i (k:i<c.length),w.cell? ⟨b,off+i,none⟩=some c[i]:=by
 obtain⟨a,cap,d,o,h⟩:=h;by_cases j:c=[]
 ·subst j;refine .inl ⟨rfl,?_⟩;rcases h with h|⟨b,off,n,e,m,f,g,l⟩
  ·exact⟨a,cap,d,h.2⟩
  exact⟨a,cap,d,λe=>by rw[f] at e;cases e⟩
 rcases h with h|⟨b,off,n,e,m,f,g,l⟩
 ·exact absurd h.1 j
 subst f;refine .inr ⟨b,off,cap,d,o,List.length_pos_iff.2 j,block_lt g,λi k=>?_⟩;unfold World.cell?;rw[g];simpa using l i k
def gY (l:List Nat):List Value:=l.map λd:Nat=>Value.int .u32 (d:Int)
def ds (l:List Nat):List Value:=l.map λd:Nat=>Value.int .i64 (d:Int)
@[simp] theorem nU (l:List Nat):(ds l).length=l.length:=by simp[ds]
def oM (l:List Nat) (i:Nat) (h:i<l.length):(ds l)[i]'(by simpa using h)=.int .i64 (l[i]:Nat):=by simp[ds]
def Q3 (l m:List Nat):ds (l++m)=ds l++ds m:=by simp[ds]
def bO (l:List Int):List Value:=l.map λd:Int=>Value.int .i64 d
@[simp] theorem dG (l:List Nat):(gY l).length=l.length:=by simp[gY]
@[simp] theorem fq (l:List Int):(bO l).length=l.length:=by simp[bO]
abbrev nI:TypeId:=109
abbrev bB:TypeId:=3
def B:Nat:=4294967296
def bT (w:World) (v:Value) (x:Nat):Prop:=∃s,v=.agg #[s]/\Sl nI w s (gY (bY B x))
def bT.mono (h:bT w v x) (a:Below w.heap.size w w'):bT w' v x:=by
 obtain⟨s,b,c⟩:=h;exact⟨s,b,c.mono a⟩
def bT.out (h:bT w v x):∃a n cap,v=.agg #[.slice a n cap]/\bT w (.agg #[.slice a n cap]) x:=by
 obtain⟨s,rfl,a,cap,rfl,b⟩:=h;exact⟨a,_,cap,rfl,⟨_,rfl,a,cap,rfl,b⟩⟩
def bT.len {a:Option Addr} (h:bT w (.agg #[.slice a n cap]) x):n=(bY B x).length:=by
 obtain⟨s,b,d,c,rfl,_⟩:=h;simp at b;exact b.2.1
def Sl.put {g:List Value} (h:Sl e w v g) {p:Array Value} {n:Nat×Nat} (m:w.heap[k]? = some (.cells p T n)) (l:T≠e) :
 Sl e (w.setCell ⟨k,o,none⟩ u) v g:=by
 obtain⟨a,cap,j,q,h⟩:=h;refine⟨a,cap,j,q,h.imp id ?_⟩;rintro⟨b,off,c,d,i,f,r⟩;refine⟨b,off,c,d,i,?_,r⟩;rw[Below.heap_setCell _ _ _ _ (λe=>?_)]
 ·exact f
 simp only at e;subst e;rw[m] at f;cases f;exact l rfl
def bT.put (h:bT w v x) {f:Array Value} {d:Nat×Nat} (c:w.heap[k]? = some (.cells f T d)) (b:T≠nI) :
 bT (w.setCell ⟨k,o,none⟩ u) v x:=by
 obtain⟨s,a,e⟩:=h;exact⟨s,a,e.put c b⟩
def Jl {b:Array Value} {d:Nat×Nat} (c:w.heap[k]? = some (.cells b T d)) (e:o<b.size):(w.setCell ⟨k,o,none⟩ u).cell? ⟨k,o,none⟩=some u:=
 World.cell?_setCell_same (w:=w) (a:=⟨k,o,none⟩) (v:=u) (u:=b[o]) (by unfold World.cell?;rw[c];simp[e])
def oN {b:World} {a:Option Addr} {c:Value} {g:Nat×Nat} (d:b.heap[k]? = some (.cells #[c] T g)) (f:T≠nI) (e:bT b (.agg #[.slice a n cap]) x) :
 (b.setCell ⟨k,0,none⟩ (.slice a n cap)).cell? ⟨k,0,none⟩=some (.slice a n cap)/\bT (b.setCell ⟨k,0,none⟩ (.slice a n cap)) (.agg #[.slice a n cap]) x:=
 ⟨Jl d (by simp),e.put d f⟩
def dV {a b:Bool} (h:a=b):Ending.returned (.bool a)=.returned (.bool b):=by rw[h]
def Gw {k:IntKind} {a b:Int} (h:a=b):Ending.returned (.int k a)=.returned (.int k b):=by rw[h]
def heap_alloc_new' (w:World) (o:Obj) (k:Nat) (h:k=w.heap.size):(w.alloc o).heap[k]? = some o:=by subst h;exact heap_alloc_new _ _
def Qa (w:World) (o:Obj):(w.alloc o).heap[w.heap.size]? = some o:=heap_alloc_new _ _
def bE:2<=B:=by unfold B;omega
def abg {W:World} (c:Below W.heap.size W a):(∀b o,b<W.heap.size->a.cell? ⟨b,o,none⟩=W.cell? ⟨b,o,none⟩)/\(∀b o,b<W.heap.size->a.frozen? ⟨b,o,none⟩=W.frozen? ⟨b,o,none⟩):=
 ⟨λb o h=>c.cell (p:=⟨b,o,none⟩) h,λb o h=>c.frozen (p:=⟨b,o,none⟩) h⟩
def Sl.aU (h:w.ownsRow base e 1 v n d):Sl e w v d:=by
 obtain⟨a,c⟩:=h;simp only[Nat.mul_one] at a c;rcases c with⟨rfl,rfl⟩|⟨g,cap,b,rfl,m,k,l,o,p,j⟩
 ·obtain rfl:=List.length_eq_zero_iff.1 a;exact .nil _ _ _ _ (λ_=>rfl)
 refine⟨_,cap,by rw[a],by rw[a];exact l,.inr ⟨g,0,b,(0,0),rfl,k,λi f=>?_⟩⟩;subst j;rw[List.length_take] at f;rw[Nat.zero_add,List.getElem_take,<-Array.getElem?_toList];exact List.getElem?_eq_getElem _
def Elem (P:Program) (t e:TypeId) (z:Value) (bytes:Nat):Prop:=
 z.oneCell'=true/\P.underlying t=some (.slice e)/\∃i,P.info? e=some i/\i.zero=some z/\i.size=1/\i.bytes=bytes
def rM (w:World) (e:TypeId):(w.alloc (.cells #[] e)).ownsRow w.heap.size e 1 (.slice (some ⟨w.heap.size,0,none⟩) 0 0) 0 []:=
 ⟨by simp,.inr ⟨w.heap.size,0,#[],rfl,Nat.le_refl _,heap_alloc_new _ _,Nat.le_refl _,Nat.zero_le _,rfl,rfl⟩⟩
def kG {z:Value} (h:z.oneCell'=true):z.cells.size=1:=by
 cases z <;> first|rfl|(simp[Value.oneCell'] at h)
def bR {P:Program} {w:World} {ops:Array Oper} {rest:List Oper} {o:Oper} {a:Act} {Q:Exit->Act->World->Prop} (A:o.guard=none) (s x:Operand) (t:TypeId)
 (R:o.op=.call { callee:=.builtin .append,args:=#[s,x],argTypes:=#[t,t] })
 (base:Nat) (e:TypeId) (z:Value) (d:Nat) (T:Elem P t e z d)
 (v:Value) (n:Nat) (C:List Value) (L:a.eval s=v) (f:w.ownsRow base e 1 v n C)
 (u:Value) (c:List Value) (I:a.eval x=u) (X:bG w u c) (Z:∀u∈c,u.oneCell'=true)
 (F:n+c.length<=maxLen) (k:(n+c.length)*d<=140737488355328) (m:base<=w.heap.size)
 (h:∀v' w',w'.ownsRow base e 1 v' (n+c.length) (C++c)->w.grownBy w' v.ownBlock->wpList P ops Q rest (a.put o.dst v') w'):wpList P ops Q (o::rest) a w:=by
 obtain⟨D,M,i,K,V,p,E⟩:=T;obtain⟨H,cap,rfl,hc,g⟩:=X;cases H with
 | none=>
   have U:c=[]:=by
    rcases g with g|⟨b,off,O,_,J,q,_⟩
    ·exact g.1
    cases q
   subst U;have B:cap=0:=by
    rcases g with g|⟨b,off,O,_,J,q,_⟩
    ·exact g.2 rfl
    cases q
   subst B;refine wpList_append_own_none A s x t R base e i 1 M K v n C L f I ?_;exact h v w (by simpa using f) ⟨rfl,rfl,rfl,Nat.le_refl _,λ_ _ _=>rfl⟩
 | some H=>
   refine wpList_append_own w A s x t R base e i z 1 d M K V p E (kG D) (by decide) v n C L f H c.length cap c I (by simp) ?_ Z F k m ?_
   ·intro j y Y;obtain⟨l,rfl⟩:=List.getElem?_eq_some_iff.1 Y;rcases g with g|⟨b,off,O,_,J,q,N,G⟩
    ·rw[g.1] at l;simp at l
    cases q;have:=G j l;unfold World.cell? Addr.add;by_cases r:j=0
    ·subst r;simp only[if_true];rw[N];simpa using this
    rw[if_neg r];simp only;rw[N];simpa using this
   intro v' w' S W _;exact h v' w' S W
def aj {B:Nat} {off:Nat} (h:Below B a w) (c:B<=b):Below B a (w.setCell ⟨b,off,none⟩ u):=h.setCell c u
def ah (o:Obj):Below w.heap.size w (w.alloc o):=(Below.refl _ _).alloc (Nat.le_refl _) o
def aO {o:Obj} (h:w'=w.alloc o):Below w.heap.size w w':=by rw[h];exact ah _
def eG {a:Nat} (h:a<b):decide ((a:Int)<(b:Int))=true:=decide_eq_true (by omega)
def gI {a:Nat} (h:b<=a):decide ((a:Int)<(b:Int))=false:=decide_eq_false (by omega)
def ag (w:World):Below w.heap.size w w.drew:=(Below.refl _ _).drew
def aB (E:Below a.heap.size a w) (h:a.cell? ⟨b,o,none⟩=some v):w.cell? ⟨b,o,none⟩=some v:=
 (E.cell (p:=⟨b,o,none⟩) (World.block_lt_of_cell? a ⟨b,o,none⟩ h)).trans h
def Gr.cell (E:Below a.heap.size a w) (h:a.cell? ⟨b,o,none⟩=some v):∀g:Gr w,g.tw.cell? ⟨b,o,none⟩=some v:=
 λg=>aB (af E g.ext) h
def dH (o o':Obj):Below w.heap.size w ((w.alloc o).alloc o'):=(ah o).alloc (by simp) o'
def gm (w:World) {o:Oper} {a:Act} 
 (q:o.guard=none) (l c:Operand) (t:TypeId) (h:o.op=Op.makeSlice t l c)
 (base:Nat) (e:TypeId) (z:Value) (b:Nat) (s:Elem P t e z b) (g:z.cells=#[z])
 (k j:IntKind) (L C:Int) (n:Nat) (E:a.eval l=.int k L) (D:a.eval c=.int j C) (v:L=(n:Int)) (F:C=(n:Int)) (r:b*n<=281474976710656) (B:n<=maxLen) (x:base<=w.heap.size)
 (u:∀w',w'.ownsRow base e 1 (.slice (some ⟨w.heap.size,0,none⟩) n n) n (List.replicate n z)->w.grownBy w' none->wpList P ops Q rest (a.put o.dst (.slice (some ⟨w.heap.size,0,none⟩) n n)) w') :
 wpList P ops Q (o::rest) a w:=by
 obtain⟨H,G,i,A,y,d,f⟩:=s;refine wpList_make_full w q l c t h base e i z 1 G A y d k j L C n E D v F (by rw[f];exact r) B x λw' m p=>u w' ?_ p;rw[g,Nat.mul_one,toList_madeCells_one] at m;exact m
def jY {g:Nat} {a:List Value} (h:w.ownsRow base e 1 (.slice (some ⟨g,0,none⟩) n cap) n a) {j:Nat} (b:j<a.length) :
 w.cell? ⟨g,j,none⟩=some a[j]/\w.frozen? ⟨g,j,none⟩=false:=by
 have:a.length=n*1:=h.1;exact⟨by rw[h.cellAt j (by omega)];exact List.getElem?_eq_getElem b,h.frozenAt j⟩
def aH {a:Nat} (h:w.ownsRow base e a v n d) (k:Below w.heap.size w w'):w'.ownsRow base e a v n d:=by
 obtain⟨l,f⟩:=h;refine⟨l,f.imp id ?_⟩;rintro⟨g,cap,b,j,i,c,r⟩;exact⟨g,cap,b,j,i,by rw[k.block g (block_lt c)];exact c,r⟩
def fO (h:w.grownBy w' none):Below w.heap.size w w':=
 ⟨h.os,h.tape,h.output,h.size,λk a=>h.block k a (by simp)⟩
def rP (w:World) (a:Array Value) (e:TypeId):bG (w.alloc (.cells a e)) (.slice (some ⟨w.heap.size,0,none⟩) a.size a.size) a.toList:=
 ⟨_,a.size,by simp,by simp,.inr ⟨w.heap.size,0,a,e,(0,0),rfl,heap_alloc_new _ _,λi b=>by
   rw[Nat.zero_add,<-Array.getElem?_toList];exact List.getElem?_eq_getElem b⟩⟩
def gp {P:Program} {W:World} {ops:Array Oper} {rest:List Oper} {o:Oper} {a:Act} {Q:Exit->Act->World->Prop} (j:o.guard=none) (s x:Operand) (t:TypeId)
 (D:o.op=.call { callee:=.builtin .append,args:=#[s,x],argTypes:=#[t,t] })
 (base:Nat) (e:TypeId) (z:Value) (b:Nat) (p:Elem P t e z b)
 (v:Value) (n:Nat) (l:List Value) (A:a.eval s=v) (d:W.ownsRow base e 1 v n l)
 (u:Value) (C:a.eval x=.slice (some ⟨W.heap.size,0,none⟩) 1 1) (B:u.oneCell'=true)
 (c:(n+1)*b<=140737488355328) (i:n+1<=maxLen) (f:World) (m:Below base f W) (g:base<=f.heap.size)
 (h:∀v' w',w'.ownsRow base e 1 v' (n+1) (l++[u])->Below base f w'->wpList P ops Q rest (a.put o.dst v') w'):wpList P ops Q (o::rest) a (W.alloc (.cells #[u] e)):=by
 have:=m.size;refine bR j s x t D base e z b p v n l A (d.alloc _) _ [u] C (rP W #[u] e) (by simpa using B) (by simpa using i) (by simpa using c) (by simp;omega) ?_;intro v' w' q r;refine h v' w' (by simpa using q) ((m.alloc (by omega) _).grown r (by simp;omega) ?_);intro k y;exact(d.lt k y).1
def Gx (l:List Nat):∀u∈gY l,u.oneCell'=true:=by
 intro u a;obtain⟨d,_,rfl⟩:=List.mem_map.1 a;rfl
def Gy:Elem Go.Proofs.Tryz.prog 42 nI (.int .u32 0) 4:=⟨rfl,Go.Proofs.Tryz.underlying42,info_parts (by kernel_rfl)⟩
def jI:Elem Go.Proofs.Tryz.prog 23 bB (.int .i64 0) 8:=⟨rfl,Go.Proofs.Tryz.underlying23,info_parts (by kernel_rfl)⟩
def mixed:Go.Proofs.Tryz.prog.follows .mixedOrders=true:=by kernel_rfl
end Go.Cd
