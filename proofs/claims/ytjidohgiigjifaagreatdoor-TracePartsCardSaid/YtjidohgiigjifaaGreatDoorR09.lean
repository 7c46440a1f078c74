/- TraceParts and TraceWalks: a machine takes a character as those of its full decomposition, one by one; texts that are alike go through it, and of others none; no condition. -/
import Derived.Test.YtjidohgiigjifaaGreatDoorR07
set_option maxRecDepth 100000
set_option maxHeartbeats 6400000
namespace Go.Cd
section
open Go.RowKit
section
variable {P : Program} {ops : Array Oper} {md : Region.Mode} {head : Array Bool}
def EN (P:Program) (md:Region.Mode) (ops:Array Oper) (head:Array Bool) (Q:Exit→Act→World→Prop) (T:Array Bool→Act→World→Prop):Nat→Array Bool→Act→World→Prop
 | 0,listed,a,w=>∀w',Below w.heap.size w w'→gG head listed=true∧T listed a w'
 | n+1,listed,a,w=>∀w',Below w.heap.size w w'→Region.ready md ops listed≠[]∧
   ∀i∈Region.ready md ops listed,head.getD i false=true∧sU P ops Q i (EN P md ops head Q T n (listed.setIfInBounds i true)) a w'
theorem xH {Q:Exit→Act→World→Prop} {T:Array Bool→Act→World→Prop} {n:Nat} {listed:Array Bool} {a:Act} {w w1:World} (hb:Below w.heap.size w w1) (h:EN P md ops head Q T n listed a w):EN P md ops head Q T n listed a w1:=by
 cases n with
 | zero=>exact fun w' hw'=>h w' (ag hb hw')
 | succ n=>exact fun w' hw'=>h w' (ag hb hw')
theorem AX {Q:Exit→Act→World→Prop} {T:Array Bool→Act→World→Prop} {i:Nat} {oi:Oper} {v:Value} (hi:ops[i]? = some oi) (hsel:∀(j:Nat) (o:Oper) cs b,ops[j]? = some o→o.op≠.select cs b)
 (hhi:head.getD i false=true) :
 ∀(n:Nat) (listed:Array Bool) (a:Act) (w:World),Closed md ops listed→
  (∀j oj,ops[j]? = some oj→j≠i→listed.getD j true=false→(∀e∈oj.after,Region.binds md e=true→e.on≠i)→(head.getD j false=true∧oi.apart ops oj=true)∨waits md ops i ops.size j=true)→
  i∈Region.ready md ops listed→dI P ops w oi v a→
  EN P md ops head Q T n (listed.setIfInBounds i true) (a.put oi.dst v) w→EN P md ops head Q T (n+1) listed a w:=by
 intro n;have key:∀(listed:Array Bool),Closed md ops listed→
  (∀j oj,ops[j]? = some oj→j≠i→listed.getD j true=false→(∀e∈oj.after,Region.binds md e=true→e.on≠i)→(head.getD j false=true∧oi.apart ops oj=true)∨waits md ops i ops.size j=true)→
  i∈Region.ready md ops listed→∀j,j∈Region.ready md ops listed→j≠i→∃oj,ops[j]? = some oj∧listed.getD j true=false∧head.getD j false=true∧oi.apart ops oj=true:=by
  intro listed hcl hfree hr j hj hji;obtain ⟨hjun,oj,hoj,hall⟩:=mem_ready.1 hj;have h0:=(mem_ready.1 hr).1;have hi0:listed.getD i false=false:=by
   rcases Nat.lt_or_ge i listed.size with h'|h'
   ·simp [h'] at h0 ⊢;exact h0
   ·simp [Array.getElem?_eq_none h']
  have hnot:∀e∈oj.after,Region.binds md e=true→e.on≠i:=fun e he hb heq=>by
   have h1:=hall e he hb;rw [heq,hi0] at h1;cases h1
  rcases hfree j oj hoj hji hjun hnot with h|h
  ·exact ⟨oj,hoj,hjun,h.1,h.2⟩
  ·exact absurd hall (ik hcl hi0 _ j oj hoj h)
 induction n with
 | zero=>
   intro listed a w hcl hfree hr hy H w' hw';refine ⟨fun h=>(by rw [h] at hr;cases hr),fun j hj=>?_⟩;by_cases hji:j=i
   ·subst hji;exact ⟨hhi,(hy.mono hw').sU hi (xH (n:=0) hw' H)⟩
   ·obtain ⟨oj,hoj,hjun,hjh,_⟩:=key listed hcl hfree hr j hj hji;have h2:=fP (H w (Below.refl _ _)).1 hjh;rw [getD_set_ne false (Ne.symm hji)] at h2;rcases Nat.lt_or_ge j listed.size with h'|h'
    ·simp [h'] at hjun h2;rw [hjun] at h2;cases h2
    ·simp [Array.getElem?_eq_none h'] at h2
 | succ n ih=>
   intro listed a w hcl hfree hr hy H w' hw';refine ⟨fun h=>(by rw [h] at hr;cases hr),fun j hj=>?_⟩;by_cases hji:j=i
   ·subst hji;exact ⟨hhi,(hy.mono hw').sU hi (xH (n:=n+1) hw' H)⟩
   ·obtain ⟨MW,h1⟩:=(H w' hw').2 j (ready_mono hj hji);obtain ⟨oj,hoj,hjun,_,hap⟩:=key listed hcl hfree hr j hj hji;have h2:=JO hoj hap (fun cs b=>hsel i oi cs b hi) (fun cs b=>hsel j oj cs b hoj) (hy.mono hw') h1;have hfree':∀k ok,ops[k]? = some ok→k≠i→(listed.setIfInBounds j true).getD k true=false→
     (∀e∈ok.after,Region.binds md e=true→e.on≠i)→(head.getD k false=true∧oi.apart ops ok=true)∨waits md ops i ops.size k=true:=fun k ok hk hki hun hno=>by
     refine hfree k ok hk hki ?_ hno;by_cases hjk:j=k
     ·subst hjk;exact hjun
     ·rw [getD_set_ne true hjk] at hun;exact hun
    refine ⟨MW,mV (fun a' w'' h3=>ih (listed.setIfInBounds j true) a' w'' (hcl.step hj) hfree' (ready_mono hr (Ne.symm hji)) h3.1 ?_) h2⟩;rw [Array.setIfInBounds_comm _ _ hji];exact h3.2
theorem Cn {Q:Exit→Act→World→Prop} {T:Array Bool→Act→World→Prop} (hs:Region.noSelect ops=true):∀(l:List Nat) (n:Nat) (listed:Array Bool) (a:Act) (w:World),Closed md ops listed→
 (f_ ops l&&iJ md ops head l listed)=true→wpQuiet P ops (fun w'=>∃g:Gr w,w'=g.tw) (fun a'=>EN P md ops head Q T n (bI l listed) a' w) (aQ ops l) a→EN P md ops head Q T (n+l.length) listed a w
 | [],n,listed,a,w,_,_,h=>h
 | i::l,n,listed,a,w,hcl,hB,h=>by
   simp only [iJ,f_,List.all_cons,Bool.and_eq_true] at hB;obtain ⟨⟨hfi,hfl⟩,⟨⟨hr,hf⟩,hh⟩,hB'⟩:=hB;cases ho:ops[i]? with
   | none=>rw [ho] at hfi;cases hfi
   | some o=>
     rw [ho] at hfi;simp only at hfi;have hp:aQ ops (i::l)=o::aQ ops l:=by simp [aQ,ho]
     rw [hp] at h;have hB2:(f_ ops l&&iJ md ops head l (listed.setIfInBounds i true))=true:=by simp only [f_,Bool.and_eq_true];exact ⟨hfl,hB'⟩
     simp only [wpQuiet] at h;by_cases hw:Region.wanted o (yielded ops a.tmps)=true
     ·rw [if_pos hw] at h;obtain ⟨v,hv,hK⟩:=h;refine AX ho (Region.noSelect_spec hs) hh (n+l.length) listed a w hcl (eQ ho hf) (by simpa using hr) (.inl ⟨hw,fun w' hw'=>?_⟩)
       (Cn hs l n _ _ w (hcl.step (by simpa using hr)) hB2 hK)
      have h1:=hv w' ⟨⟨w',hw'⟩,rfl⟩;unfold Oper.quietAt at h1;generalize hrun:(execOp a.eval o).run P w'=r at h1;cases r with
      | ok x w1=>
        cases x <;> simp only [Oper.quietUpon] at h1
        case value u=>rw [h1.1,h1.2];exact .inl rfl
        case skip=>rw [h1.1,h1.2];exact .inr ⟨rfl,rfl⟩
        case enter f args=>exact absurd hrun (qV hfi _ _ _ _)
      | halt x w1=>exact h1.elim
     ·rw [if_neg hw] at h;exact AX ho (Region.noSelect_spec hs) hh (n+l.length) listed a w hcl (eQ ho hf) (by simpa using hr) (.inr ⟨by simpa using hw,rfl⟩)
       (Cn hs l n _ _ w (hcl.step (by simpa using hr)) hB2 h)
theorem rM {Q:Exit→Act→World→Prop} {T:Array Bool→Act→World→Prop} (l:List Nat) (n:Nat) {m:Nat} {listed:Array Bool} {a:Act} {w:World} (hn:m=n+l.length)
 (hB:((Region.noSelect ops&&nZ md ops listed)&&(f_ ops l&&iJ md ops head l listed))=true) (h:wpQuiet P ops (fun w'=>∃g:Gr w,w'=g.tw) (fun a'=>EN P md ops head Q T n (bI l listed) a' w) (aQ ops l) a):EN P md ops head Q T m listed a w:=by
 subst hn;rw [Bool.and_eq_true,Bool.and_eq_true] at hB;exact Cn hB.1.1 l n listed a w (gH hB.1.2) hB.2 h
theorem oD {Q:Exit→Act→World→Prop} {T:Array Bool→Act→World→Prop} {n:Nat} (i:Nat) {o:Oper} {listed:Array Bool} {a:Act} {w:World} (hB:(Region.ready md ops listed==[i]&&head.getD i false)=true) (hi:nth ops.toList i=some o)
 (h:∀w',Below w.heap.size w w'→wpList P ops (QE Q w' (EN P md ops head Q T n (listed.setIfInBounds i true))) [o] a w'):EN P md ops head Q T (n+1) listed a w:=by
 simp only [Bool.and_eq_true,beq_iff_eq] at hB;obtain ⟨hr,hh⟩:=hB;intro w' hw';refine ⟨by rw [hr];simp,fun j hj=>?_⟩;rw [hr] at hj;obtain rfl:j=i:=by simpa using hj
 exact ⟨hh,kz (dG hi) (h w' hw')⟩
def rP (P:Program) (ops:Array Oper) (R:Value→World→Prop) (bk:Value→Nat) (o:Oper) (a:Act) (w:World):Prop:=
 Region.wanted o (yielded ops a.tmps)=true∧∀W,Below w.heap.size w W→∃v W',(execOp a.eval o).run P W=.ok (.value v) W'∧Below W.heap.size W W'∧R v W'∧W.heap.size≤bk v∧bk v<W'.heap.size
theorem rP.mono {R:Value→World→Prop} {bk:Value→Nat} {o:Oper} {a:Act} {w w':World} (h:rP P ops R bk o a w) (hb:Below w.heap.size w w'):rP P ops R bk o a w':=
 ⟨h.1,fun W hW=>h.2 W (ag hb hW)⟩
theorem rP.same {R:Value→World→Prop} {bk:Value→Nat} {o:Oper} {a a':Act} {w:World} (h:rP P ops R bk o a w) (he:execOp a'.eval o=execOp a.eval o)
 (hw:Region.wanted o (yielded ops a'.tmps)=Region.wanted o (yielded ops a.tmps)):rP P ops R bk o a' w:=by
 unfold rP at *;rw [he,hw];exact h
theorem rP.sU {R:Value→World→Prop} {bk:Value→Nat} {Q:Exit→Act→World→Prop} {K:Act→World→Prop} {i:Nat} {o:Oper} {a:Act} {w:World} (hi:ops[i]? = some o) (h:rP P ops R bk o a w)
 (hK:∀v W',Below w.heap.size w W'→R v W'→w.heap.size≤bk v→bk v<W'.heap.size→K (a.put o.dst v) W'):sU P ops Q i K a w:=by
 obtain ⟨hw,h⟩:=h;obtain ⟨v,W',hr,hb,hR,h1,h2⟩:=h w (Below.refl _ _);unfold Cd.sU wpOp;simp only [hi,hw,if_true,Oper.wp,hr,Oper.upon];exact .inl ⟨hb,hK v W' hb hR h1 h2⟩
theorem NP {Q:Exit→Act→World→Prop} {Φ:Act→World→Prop} {j:Nat} {oj:Oper} (hj:ops[j]? = some oj) (hput:∀a w v,Φ a w→Φ (a.put oj.dst v) w)
 (hdef:∀a w d,Φ a w→Φ { a with defers:=d::a.defers } w) (hmono:∀a w w',Below w.heap.size w w'→Φ a w→Φ a w') {K:Act→World→Prop} {a:Act} {w:World} (h:sU P ops Q j K a w) (hΦ:Φ a w) :
 sU P ops Q j (fun a' w'=>Φ a' w'∧K a' w') a w:=by
 unfold sU wpOp at *;simp only [hj] at *
 split
 ·rename_i hw;simp only [hw,if_true] at h;rcases h with h|⟨h1,h2⟩
  case inr=>exact .inr ⟨h1,h2⟩
  refine .inl ?_;unfold Oper.wp at *;generalize (execOp a.eval oj).run P w=r at *;cases r with
  | ok n w'=>
    cases n <;> simp only [Oper.upon] at h ⊢
    case value u=>exact ⟨h.1,hmono _ _ _ h.1 (hput _ _ _ hΦ),h.2⟩
    case skip=>exact ⟨h.1,hmono _ _ _ h.1 (hput _ _ _ hΦ),h.2⟩
    case defer d=>exact ⟨h.1,hmono _ _ _ h.1 (hput _ _ _ (hdef _ _ _ hΦ)),h.2⟩
    case enter f args=>
     refine Calls.mono h fun e w'' he=>?_;cases e with
     | returned u=>exact ⟨he.1,hmono _ _ _ he.1 (hput _ _ _ hΦ),he.2⟩
     | panicked c=>exact he.elim
     | outgrown=>exact he
    case row row args=>exact Rows.mono h fun u w'' he=>⟨he.1,hmono _ _ _ he.1 (hput _ _ _ hΦ),he.2⟩
  | halt x w'=>
    cases x <;> simp only [Oper.upon] at h ⊢
    case panic u=>exact h.elim
 ·rename_i hw;simp only [hw] at h;exact ⟨h.1,hput _ _ _ hΦ,h.2⟩
theorem KZ {Q:Exit→Act→World→Prop} {j:Nat} {oj:Oper} {d:Option Tmp} {v:Value} (hj:ops[j]? = some oj) (hsj:∀cs b,oj.op≠.select cs b)
 (h1:∀t,d=some t→t∉oj.looksAt ops) (h2:∀t,d=some t→oj.dst≠some t) {K:Act→World→Prop} {a:Act} {w:World} (h:sU P ops Q j K a w) :
 sU P ops Q j (fun a' w'=>∃b,a'=b.put d v∧K b w') (a.put d v) w:=by
 unfold sU wpOp at *;simp only [hj] at *;rw [wanted_put oj a d v h1]
 split
 ·rename_i hw;simp only [hw,if_true] at h;rcases h with h|⟨hasks,hlets⟩
  case inr=>exact .inr ⟨by unfold Oper.asks at *;rw [execOp_put oj hsj a d v h1];exact hasks,hlets⟩
  refine .inl ?_;unfold Oper.wp at *;rw [execOp_put oj hsj a d v h1];generalize (execOp a.eval oj).run P w=r at *;cases r with
  | ok n w'=>
    cases n <;> simp only [Oper.upon] at h ⊢
    case value u=>exact ⟨h.1,_,Act.put_comm a v u h2,h.2⟩
    case skip=>exact ⟨h.1,_,Act.put_comm a v undef h2,h.2⟩
    case defer x=>
     refine ⟨h.1,_,?_,h.2⟩;rw [Act.put_defers,Act.put_comm _ v undef h2]
    case enter f args=>
     refine Calls.mono h fun e w'' he=>?_;cases e with
     | returned u=>exact ⟨he.1,_,Act.put_comm a v u h2,he.2⟩
     | panicked c=>exact he.elim
     | outgrown=>exact he
    case row row args=>exact Rows.mono h fun u w'' he=>⟨he.1,_,Act.put_comm a v u h2,he.2⟩
  | halt x w'=>
    cases x <;> simp only [Oper.upon] at h ⊢
    case panic u=>exact h.elim
 ·rename_i hw;simp only [hw] at h;exact ⟨h.1,_,Act.put_comm a v undef h2,h.2⟩
def eZ (ops:Array Oper) (i:Nat):Option Tmp:=(ops[i]?).bind (·.dst)
def jL (ops:Array Oper) (vs:Nat→Value):List Nat→Act→Act
 | [],a=>a
 | i::S,a=>jL ops vs S (a.put (eZ ops i) (vs i))
theorem EO {vs:Nat→Value} {d:Option Tmp} {v:Value}:∀(S:List Nat) (a:Act),(∀i∈S,∀t,d=some t→eZ ops i≠some t)→(jL ops vs S a).put d v=jL ops vs S (a.put d v)
 | [],_,_=>rfl
 | i::S,a,h=>by
   simp only [jL];rw [EO S _ fun k hk=>h k (List.mem_cons_of_mem _ hk),Act.put_comm a (vs i) v];intro t ht;rintro rfl;exact h i (by simp) t rfl ht
def upd (vs:Nat→Value) (j:Nat) (v:Value):Nat→Value:=fun i=>if i=j then v else vs i
theorem xI {vs us:Nat→Value}:∀(S:List Nat) (a:Act),(∀i∈S,vs i=us i)→jL ops vs S a=jL ops us S a
 | [],_,_=>rfl
 | i::S,a,h=>by
   simp only [jL];rw [h i (by simp),xI S _ fun k hk=>h k (List.mem_cons_of_mem _ hk)]
theorem uf {vs:Nat→Value} {p:Nat→Bool} {j:Nat} {v:Value} (Xf:p j=false):∀(S:List Nat) (a:Act),j∈S→S.Nodup→(∀i∈S,i≠j→∀t,eZ ops j=some t→eZ ops i≠some t)→
 (jL ops vs (S.filter p) a).put (eZ ops j) v=jL ops (upd vs j v) (S.filter fun i=>p i||i==j) a
 | [],_,h,_,_=>by cases h
 | i::S,a,hmem,hnd,hd=>by
   rw [List.nodup_cons] at hnd;by_cases hij:i=j
   ·subst hij;have hnot:=hnd.1;have e:S.filter (fun k=>p k||k==i)=S.filter p:=List.filter_congr fun k hk=>by
     have:k≠i:=fun e=>hnot (e▸hk);simp [this]
    rw [List.filter_cons_of_neg (by simp [Xf]),List.filter_cons_of_pos (by simp),e];simp only [jL];have e2:upd vs i v i=v:=by simp [upd]
    rw [e2,EO]
    ·refine xI _ _ fun k hk=>?_;have:k≠i:=fun e=>hnot (e▸(List.mem_filter.1 hk).1);simp [upd,this]
    ·intro k hk;have hkS:=(List.mem_filter.1 hk).1;exact hd k (by simp [hkS]) (fun e=>hnot (e▸hkS))
   ·have hj':j∈S:=by
     rcases List.mem_cons.1 hmem with h|h
     ·exact absurd h.symm hij
     ·exact h
    have hd':∀k∈S,k≠j→∀t,eZ ops j=some t→eZ ops k≠some t:=fun k hk=>hd k (by simp [hk]);cases hp:p i
    ·rw [List.filter_cons_of_neg (by simp [hp]),List.filter_cons_of_neg (by simp [hp,hij])];exact uf Xf S a hj' hnd.2 hd'
    ·rw [List.filter_cons_of_pos hp,List.filter_cons_of_pos (by simp [hp])];simp only [jL];rw [uf Xf S _ hj' hnd.2 hd'];have:upd vs j v i=vs i:=by simp [upd,hij]
     rw [this]
theorem xJ {Q:Exit→Act→World→Prop} {j:Nat} {oj:Oper} {vs:Nat→Value} (hj:ops[j]? = some oj) (hsj:∀cs b,oj.op≠.select cs b):∀(S:List Nat),
 (∀i∈S,(∀t,eZ ops i=some t→t∉oj.looksAt ops)∧∀t,eZ ops i=some t→oj.dst≠some t)→∀{K:Act→World→Prop} {a:Act} {w:World},sU P ops Q j K a w→
 sU P ops Q j (fun a' w'=>∃b,a'=jL ops vs S b∧K b w') (jL ops vs S a) w
 | [],_,_,_,_,h=>mV (fun a' w' h=>⟨a',rfl,h⟩) h
 | i::S,hS,K,a,w,h=>by
   have h1:=KZ (v:=vs i) hj hsj (hS i (by simp)).1 (hS i (by simp)).2 h;have h2:=xJ (vs:=vs) hj hsj S (fun k hk=>hS k (by simp [hk])) h1;exact mV (fun a' w' ⟨b,hb,c,hc,hk⟩=>⟨c,by subst hc;exact hb,hk⟩) h2
def Yf (md:Region.Mode) (ops:Array Oper) (head listed:Array Bool) (S:List Nat):Bool:=
 (Region.noSelect ops&&nZ md ops listed)&&(S.all fun i=>(Region.ready md ops listed).contains i&&head.getD i false&&match ops[i]? with
   | none=>false
   | some oi=>(List.range ops.size).all fun j=>j==i||listed.getD j true||match ops[j]? with
     | some oj=>if head.getD j false then oi.apart ops oj&&oj.apart ops oi else waits md ops i ops.size j
     | none=>true)&&decide S.Nodup
theorem iA:∀(l:List Nat) (listed:Array Bool) (k:Nat) (d:Bool),(bI l listed).getD k d=if k∈l∧k<listed.size then true else listed.getD k d
 | [],_,_,_=>by simp [bI]
 | i::l,listed,k,d=>by
   simp only [bI];rw [iA l];by_cases hk:k=i
   ·subst hk;by_cases hs:k<listed.size
    ·simp [hs]
    ·simp [hs]
   ·have:(listed.setIfInBounds i true).getD k d=listed.getD k d:=getD_set_ne d (Ne.symm hk);rw [this];simp [hk]
theorem iN:∀(l:List Nat) (listed:Array Bool),(bI l listed).size=listed.size
 | [],_=>rfl
 | i::l,listed=>by simp only [bI];rw [iN l];simp
theorem Ig {l l':List Nat} {x y:Array Bool} (hs:x.size=y.size) (h:∀k,k<x.size→((k∈l∨x.getD k false=true)↔(k∈l'∨y.getD k false=true))):bI l x=bI l' y:=by
 apply Array.ext_getElem?;intro k;by_cases hk:k<x.size
 ·have e1:=iA l x k false;have e2:=iA l' y k false;have hk1:k<(bI l x).size:=by rw [iN];exact hk
  have hk2:k<(bI l' y).size:=by rw [iN,←hs];exact hk
  rw [Array.getElem?_eq_getElem hk1,Array.getElem?_eq_getElem hk2];have g1:(bI l x).getD k false=(bI l x)[k]:=by simp [hk1]
  have g2:(bI l' y).getD k false=(bI l' y)[k]:=by simp [hk2]
  rw [←g1,←g2,e1,e2];have h:=h k hk;have hky:k<y.size:=by omega
  simp only [hk,hky,and_true];by_cases a1:k∈l <;> by_cases a2:k∈l' <;> simp only [a1,a2,if_true,if_false,true_or,false_or,true_iff,iff_true] at h ⊢
  ·exact congrArg some h.symm
  ·exact congrArg some h
  ·exact congrArg some (Bool.eq_iff_iff.2 h)
 ·rw [Array.getElem?_eq_none (by rw [iN];omega),Array.getElem?_eq_none (by rw [iN];omega)]
def TMk (ops:Array Oper) (S:List Nat) (R:Nat→Value→World→Prop) (bk:Value→Nat) (N:Nat) (T:Array Bool→Act→World→Prop):Array Bool→Act→World→Prop:=
 fun L a w=>∀vs:Nat→Value,(∀i∈S,R i (vs i) w∧N≤bk (vs i)∧bk (vs i)<w.heap.size)→(∀i∈S,∀k∈S,i≠k→bk (vs i)≠bk (vs k))→T L (jL ops vs S a) w
theorem gp {x:Array Bool} {k:Nat} (h:x.getD k true=false):x.getD k false=false:=by
 rcases Nat.lt_or_ge k x.size with h'|h'
 ·simp [h'] at h ⊢;exact h
 ·simp [Array.getElem?_eq_none h']
theorem AY {vs:Nat→Value} {o:Oper} (hs:∀cs b,o.op≠.select cs b):∀(S:List Nat) (a:Act),(∀i∈S,∀t,eZ ops i=some t→t∉o.looksAt ops)→
 execOp (jL ops vs S a).eval o=execOp a.eval o∧Region.wanted o (yielded ops (jL ops vs S a).tmps)=Region.wanted o (yielded ops a.tmps)
 | [],_,_=>⟨rfl,rfl⟩
 | i::S,a,h=>by
   obtain ⟨h1,h2⟩:=AY (vs:=vs) hs S (a.put (eZ ops i) (vs i)) (fun k hk=>h k (by simp [hk]));simp only [jL];rw [h1,h2,execOp_put o hs a _ _ (h i (by simp)),wanted_put o a _ _ (h i (by simp))];exact ⟨rfl,rfl⟩
theorem vB {p:Nat→Bool} {j:Nat} (Xf:p j=false):∀(S:List Nat),j∈S→S.Nodup→(S.filter fun i=>!(p i||i==j)).length+1=(S.filter fun i=>!p i).length
 | [],h,_=>by cases h
 | i::S,hmem,hnd=>by
   rw [List.nodup_cons] at hnd;by_cases hij:i=j
   ·subst hij;have e:S.filter (fun k=>!(p k||k==i))=S.filter (fun k=>!p k):=List.filter_congr fun k hk=>by
     have:k≠i:=fun e=>hnd.1 (e▸hk);simp [this]
    rw [List.filter_cons_of_neg (by simp),List.filter_cons_of_pos (by simp [Xf]),e];simp
   ·have hj':j∈S:=by
     rcases List.mem_cons.1 hmem with h|h
     ·exact absurd h.symm hij
     ·exact h
    have ih:=vB Xf S hj' hnd.2;cases hp:p i
    ·rw [List.filter_cons_of_pos (by simp [hp,hij]),List.filter_cons_of_pos (by simp [hp])];simp only [List.length_cons];omega
    ·rw [List.filter_cons_of_neg (by simp [hp]),List.filter_cons_of_neg (by simp [hp])];exact ih
theorem Ih {Q:Exit→Act→World→Prop} {T:Array Bool→Act→World→Prop} (S:List Nat) (R:Nat→Value→World→Prop) (bk:Value→Nat) (N:Nat)
 (hRm:∀i v w w',Below w.heap.size w w'→R i v w→R i v w') (hs:Region.noSelect ops=true) (hnd:S.Nodup)
 (hhead:∀i∈S,head.getD i false=true) (L0:Array Bool) (hS0:∀i∈S,L0.getD i true=false)
 (hap:∀i∈S,∃oi,ops[i]? = some oi∧∀j oj,ops[j]? = some oj→j≠i→L0.getD j true=false→(head.getD j false=true∧oi.apart ops oj=true∧oj.apart ops oi=true)∨(head.getD j false=false∧waits md ops i ops.size j=true)) :
 ∀(m n:Nat) (done:Nat→Bool) (vs:Nat→Value) (listed:Array Bool) (a:Act) (w:World),m=n+(S.filter fun i=>!done i).length→Closed md ops listed→
  (∀j,listed.getD j true=false→L0.getD j true=false)→
  (∀i∈S,done i=false→i∈Region.ready md ops listed∧∀oi,ops[i]? = some oi→rP P ops (R i) bk oi a w)→
  (∀i∈S,done i=true→listed.getD i false=true∧R i (vs i) w∧N≤bk (vs i)∧bk (vs i)<w.heap.size)→(∀i∈S,∀k∈S,done i=true→done k=true→i≠k→bk (vs i)≠bk (vs k))→N≤w.heap.size→
  EN P md ops head Q (TMk ops S R bk N T) n (bI (S.filter fun i=>!done i) listed) a w→
  JN P md ops head Q T m listed (jL ops vs (S.filter done) a) w:=by
 intro m
 induction m with
 | zero=>
   intro n done vs listed a w hm hcl hL Ii hdone JW hN H;obtain ⟨rfl,hr⟩:n=0∧(S.filter fun i=>!done i).length=0:=by omega
   have hrn:=List.length_eq_zero_iff.1 hr;rw [hrn] at H;have hall:∀i∈S,done i=true:=fun i hi=>by
    have:=(List.filter_eq_nil_iff.1 hrn) i hi;simpa using this
   obtain ⟨h1,h2⟩:=H w (Below.refl _ _);have hf:S.filter done=S:=List.filter_eq_self.2 hall;rw [hf];exact ⟨h1,h2 vs (fun i hi=>(hdone i hi (hall i hi)).2) (fun i hi k hk=>JW i hi k hk (hall i hi) (hall k hk))⟩
 | succ m ih=>
   intro n done vs listed a w hm hcl hL Ii hdone JW hN H;have Co:∀j,j∈Region.ready md ops listed→j∉S→j∈Region.ready md ops (bI (S.filter fun i=>!done i) listed):=by
    intro j hj JY;rw [mem_ready] at hj ⊢;obtain ⟨h0,o,ho,hall⟩:=hj;refine ⟨?_,o,ho,fun e he hb=>?_⟩
    ·rw [iA,if_neg (fun h=>JY (List.mem_filter.1 h.1).1)];exact h0
    ·rw [iA];split
     ·rfl
     ·exact hall e he hb
   constructor
   ·
    cases hf:S.filter (fun i=>!done i) with
    | cons i l=>
      have hi:i∈S.filter (fun i=>!done i):=by rw [hf];simp
      obtain ⟨NQ,hid⟩:=List.mem_filter.1 hi;have:=(Ii i NQ (by simpa using hid)).1;intro h;rw [h] at this;cases this
    | nil=>
      rw [hf] at hm H;obtain rfl:n=m+1:=by simp at hm;omega
      exact (H w (Below.refl _ _)).1
   ·intro j hj;by_cases JY:j∈S
    ·
     have hjd:done j=false:=by
      cases hd:done j
      ·rfl
      ·have h1:=(hdone j JY hd).1;have h2:=gp (mem_ready.1 hj).1;rw [h1] at h2;cases h2
     refine ⟨hhead j JY,?_⟩;obtain ⟨oj,hoj,acf⟩:=hap j JY;have hMK:=(Ii j JY hjd).2 oj hoj;have Un:eZ ops j=oj.dst:=by simp [eZ,hoj]
     have Ij:∀i∈S,i≠j→(∀t,eZ ops i=some t→t∉oj.looksAt ops)∧(∀t,eZ ops j=some t→eZ ops i≠some t):=by
      intro i hi hij;obtain ⟨oi,hoi,_⟩:=hap i hi;have NR:eZ ops i=oi.dst:=by simp [eZ,hoi]
      rcases acf i oi hoi hij (hS0 i hi) with ⟨_,h,_⟩|⟨h,_⟩
      ·obtain ⟨_,h2,h3⟩:=Oper.apart_spec h;rw [NR,Un];exact ⟨h3,h2⟩
      ·rw [hhead i hi] at h;cases h
     have hex:=AY (vs:=vs) (Region.noSelect_spec hs j oj · · hoj) (S.filter done) a (fun i hi=>(Ij i (List.mem_filter.1 hi).1 (fun e=>by have h:=(List.mem_filter.1 hi).2;rw [e,hjd] at h;cases h)).1);refine rP.sU hoj (hMK.same hex.1 hex.2) fun v W' hb hR h1 h2=>?_;rw [←Un,uf hjd S a JY hnd (fun i hi hij=>(Ij i hi hij).2)];have hjlt:j<listed.size:=by
      have h0:=(mem_ready.1 hj).1;rcases Nat.lt_or_ge j listed.size with h'|h'
      ·exact h'
      ·simp [Array.getElem?_eq_none h'] at h0
     have hvj:upd vs j v j=v:=by simp [upd]
     have hvi:∀i,i≠j→upd vs j v i=vs i:=fun i hi=>by simp [upd,hi]
     refine ih n (fun i=>done i||i==j) (upd vs j v) (listed.setIfInBounds j true) a W' (by have:=vB hjd S JY hnd;omega) (hcl.step hj) ?_ ?_ ?_ ?_ (Nat.le_trans hN hb.size) ?_
     ·intro k hk;by_cases hkj:j=k
      ·subst hkj;simp [hjlt] at hk
      ·rw [getD_set_ne true hkj] at hk;exact hL k hk
     ·intro i hi hid;simp only [Bool.or_eq_false_iff,beq_eq_false_iff_ne] at hid;obtain ⟨g1,g2⟩:=Ii i hi hid.1;exact ⟨ready_mono g1 hid.2,fun oi hoi=>(g2 oi hoi).mono hb⟩
     ·intro i hi hid;by_cases hij:i=j
      ·subst hij;rw [hvj];exact ⟨by simp [hjlt],hR,Nat.le_trans hN h1,h2⟩
      ·simp only [Bool.or_eq_true,beq_iff_eq,hij,or_false] at hid;rw [hvi i hij];obtain ⟨g1,g2,g3,g4⟩:=hdone i hi hid;exact ⟨getD_set_true g1,hRm _ _ _ _ hb g2,g3,Nat.lt_of_lt_of_le g4 hb.size⟩
     ·intro i hi k hk hid hkd hik;by_cases hij:i=j
      ·subst hij;have hki:k≠i:=Ne.symm hik;simp only [Bool.or_eq_true,beq_iff_eq,hki,or_false] at hkd;rw [hvj,hvi k hki];have:=(hdone k hk hkd).2.2.2;omega
      ·simp only [Bool.or_eq_true,beq_iff_eq,hij,or_false] at hid;rw [hvi i hij];by_cases hkj:k=j
       ·subst hkj;rw [hvj];have:=(hdone i hi hid).2.2.2;omega
       ·simp only [Bool.or_eq_true,beq_iff_eq,hkj,or_false] at hkd;rw [hvi k hkj];exact JW i hi k hk hid hkd hik
     ·have e:bI (S.filter fun i=>!(done i||i==j)) (listed.setIfInBounds j true)=bI (S.filter fun i=>!done i) listed:=by
       refine Ig (by simp) fun k hk=>?_;simp only [Array.size_setIfInBounds] at hk;simp only [List.mem_filter];by_cases hkj:k=j
       ·subst hkj;simp [hk,JY,hjd]
       ·rw [getD_set_ne false (Ne.symm hkj)];simp [hkj]
      rw [e];exact xH hb H
    ·
     have hjun:=(mem_ready.1 hj).1;have hGj:∀d,(bI (S.filter fun i=>!done i) listed).getD j d=listed.getD j d:=fun d=>by
      rw [iA,if_neg (fun h=>JY (List.mem_filter.1 h.1).1)]
     cases n with
     | zero=>
       exfalso;obtain ⟨_,oj,hoj,hall⟩:=mem_ready.1 hj;have hH:=(H w (Below.refl _ _)).1;have MW:head.getD j false=false:=by
        cases hh:head.getD j false
        ·rfl
        ·have:=fP hH hh;rw [hGj,gp hjun] at this;cases this
       obtain ⟨i,hi⟩:∃i,i∈S.filter fun i=>!done i:=by
        cases hf:S.filter (fun i=>!done i) with
        | nil=>rw [hf] at hm;simp at hm
        | cons i l=>exact ⟨i,by simp⟩
       obtain ⟨NQ,hid⟩:=List.mem_filter.1 hi;have ach:done i=false:=by simpa using hid
       obtain ⟨oi,hoi,U8⟩:=hap i NQ;have hij:j≠i:=fun e=>JY (e▸NQ);rcases U8 j oj hoj hij (hL j hjun) with ⟨h,_⟩|⟨_,h⟩
       ·rw [MW] at h;cases h
       ·have hi0:=gp (mem_ready.1 (Ii i NQ ach).1).1;exact ik hcl hi0 _ j oj hoj h hall
     | succ n=>
       obtain ⟨MW,hop⟩:=(H w (Below.refl _ _)).2 j (Co j hj JY);refine ⟨MW,?_⟩;obtain ⟨_,oj,hoj,_⟩:=mem_ready.1 hj;have Ij:∀i∈S,(∀t,eZ ops i=some t→t∉oj.looksAt ops)∧(∀t,eZ ops i=some t→oj.dst≠some t)∧∀oi,ops[i]? = some oi→∀t,oj.dst=some t→t∉oi.looksAt ops:=by
        intro i hi;obtain ⟨oi,hoi,U8⟩:=hap i hi;have NR:eZ ops i=oi.dst:=by simp [eZ,hoi]
        rcases U8 j oj hoj (fun e=>JY (e▸hi)) (hL j hjun) with ⟨_,h,_⟩|⟨h,_⟩
        ·obtain ⟨g1,g2,g3⟩:=Oper.apart_spec h;rw [NR];refine ⟨g1,g2,fun oi' Yg=>?_⟩;rw [hoi] at Yg;cases Yg;exact g3
        ·rw [MW] at h;cases h
       have hk:=NP (Φ:=fun a w'=>(∀i∈S,done i=false→∀oi,ops[i]? = some oi→rP P ops (R i) bk oi a w')∧(∀i∈S,done i=true→R i (vs i) w'∧N≤bk (vs i)∧bk (vs i)<w'.heap.size)∧N≤w'.heap.size) hoj
        (fun a w' v h=>⟨fun i hi hid oi hoi=>(h.1 i hi hid oi hoi).same (execOp_put oi (Region.noSelect_spec hs i oi · · hoi) a _ _ ((Ij i hi).2.2 oi hoi)) (wanted_put oi a _ _ ((Ij i hi).2.2 oi hoi)),h.2⟩)
        (fun a w' d h=>⟨fun i hi hid oi hoi=>(h.1 i hi hid oi hoi).same rfl rfl,h.2⟩)
        (fun a w' w'' hb h=>⟨fun i hi hid oi hoi=>(h.1 i hi hid oi hoi).mono hb,fun i hi hid=>⟨hRm _ _ _ _ hb (h.2.1 i hi hid).1,(h.2.1 i hi hid).2.1,Nat.lt_of_lt_of_le (h.2.1 i hi hid).2.2 hb.size⟩,Nat.le_trans h.2.2 hb.size⟩)
        hop ⟨fun i hi hid=>(Ii i hi hid).2,fun i hi hid=>(hdone i hi hid).2,hN⟩
       have hu:=xJ (vs:=vs) hoj (Region.noSelect_spec hs j oj · · hoj) (S.filter done) (fun i hi=>⟨(Ij i (List.mem_filter.1 hi).1).1,(Ij i (List.mem_filter.1 hi).1).2.1⟩) hk;refine mV (fun a' w' h=>?_) hu;obtain ⟨b,rfl,⟨hm1,hm2,hN'⟩,hH⟩:=h;have hjlt:j<listed.size:=by
        rcases Nat.lt_or_ge j listed.size with h'|h'
        ·exact h'
        ·simp [Array.getElem?_eq_none h'] at hjun
       refine ih n done vs (listed.setIfInBounds j true) b w' (by omega) (hcl.step hj) ?_ ?_ ?_ JW hN' ?_
       ·intro k hk;by_cases hkj:j=k
        ·subst hkj;simp [hjlt] at hk
        ·rw [getD_set_ne true hkj] at hk;exact hL k hk
       ·intro i hi hid;exact ⟨ready_mono (Ii i hi hid).1 (fun e=>JY (e▸hi)),hm1 i hi hid⟩
       ·intro i hi hid;exact ⟨getD_set_true (hdone i hi hid).1,hm2 i hi hid⟩
       ·have e:bI (S.filter fun i=>!done i) (listed.setIfInBounds j true)=(bI (S.filter fun i=>!done i) listed).setIfInBounds j true:=by
         have:(bI (S.filter fun i=>!done i) listed).setIfInBounds j true=bI [j] (bI (S.filter fun i=>!done i) listed):=rfl;rw [this];have h2:∀(l:List Nat) (x:Array Bool),bI [j] (bI l x)=bI l (bI [j] x):=by
          intro l
          induction l with
          | nil=>intro x;rfl
          | cons k l ihl=>
            intro x;simp only [bI] at ihl ⊢;rw [ihl];by_cases hkj:k=j
            ·subst hkj;rfl
            ·rw [Array.setIfInBounds_comm _ _ hkj]
         rw [h2];rfl
        rw [e];exact hH
theorem Ik {Q:Exit→Act→World→Prop} {T:Array Bool→Act→World→Prop} (S:List Nat) (R:Nat→Value→World→Prop) (bk:Value→Nat) (n:Nat) {m:Nat} {listed:Array Bool} {a:Act} {w:World} (hm:m=n+S.length)
 (hB:Yf md ops head listed S=true) (hRm:∀i v w w',Below w.heap.size w w'→R i v w→R i v w') (hM:∀i∈S,∀o,nth ops.toList i=some o→rP P ops (R i) bk o a w)
 (h:EN P md ops head Q (TMk ops S R bk w.heap.size T) n (bI S listed) a w):JN P md ops head Q T m listed a w:=by
 simp only [Yf,Bool.and_eq_true,decide_eq_true_eq,List.all_eq_true] at hB;obtain ⟨⟨⟨hs,hcl⟩,hall⟩,hnd⟩:=hB;have Co:∀i∈S,i∈Region.ready md ops listed:=fun i hi=>by have:=(hall i hi).1.1;simpa using this
 have hf:S.filter (fun _=>false)=[]:=by simp
 have ft:S.filter (fun i=>!(fun _=>false) i)=S:=List.filter_eq_self.2 (by simp)
 have:=Ih (P:=P) (head:=head) (Q:=Q) (T:=T) S R bk w.heap.size hRm hs hnd (fun i hi=>(hall i hi).1.2) listed (fun i hi=>(mem_ready.1 (Co i hi)).1) (fun i hi=>by
  have h2:=(hall i hi).2;cases ho:ops[i]? with
  | none=>rw [ho] at h2;cases h2
  | some oi=>
    rw [ho] at h2;refine ⟨oi,rfl,fun j oj hj hji hun=>?_⟩;simp only [List.all_eq_true,List.mem_range] at h2;have h3:=h2 j (Array.getElem?_eq_some_iff.1 hj).1;simp only [hj,Bool.or_eq_true,beq_iff_eq,hji,false_or,hun,Bool.false_eq_true] at h3
    split at h3
    ·rename_i hh;simp only [Bool.and_eq_true] at h3;exact .inl ⟨hh,h3⟩
    ·rename_i hh
     exact .inr ⟨by simpa using hh,h3⟩) m n (fun _=>false) (fun _=>undef) listed a w (by rw [ft];exact hm) (gH hcl) (fun j hj=>hj)
  (fun i hi _=>⟨Co i hi,fun oi hoi=>hM i hi oi (by rw [Hg];simpa using hoi)⟩) (fun i _ h=>by cases h) (fun i _ k _ h=>by cases h) (Nat.le_refl _) (by rw [ft];exact h)
 rw [hf] at this;exact this
theorem rQ {Q:Exit→Act→World→Prop} {S:List Nat} {R:Nat→Value→World→Prop} {bk:Value→Nat} {N:Nat} (l:List Nat) {listed:Array Bool} {a:Act} {w:World} (hB:(gG head listed&&(Region.noSelect ops&&mW md ops l listed))=true)
 (h:∀w',Below w.heap.size w w'→∀vs:Nat→Value,(∀i∈S,R i (vs i) w'∧N≤bk (vs i)∧bk (vs i)<w'.heap.size)→(∀i∈S,∀k∈S,i≠k→bk (vs i)≠bk (vs k))→wpList P ops (QP Q) (aQ ops l) (jL ops vs S a) w') :
 EN P md ops head Q (TMk ops S R bk N (fun l' a w=>wpAny P md ops Q l.length l' a w)) 0 listed a w:=by
 simp only [Bool.and_eq_true] at hB;exact fun w' hw'=>⟨hB.1,fun vs h1 h2=>mX _ _ _ _ (eT hB.2.1 l listed _ w' hB.2.2 (h w' hw' vs h1 h2))⟩
theorem AZ:∀(l:List Nat) (os:List Oper),l.map (nth ops.toList)=os.map some→aQ ops l=os
 | [],[],_=>rfl
 | [],_::_,h=>by cases h
 | _::_,[],h=>by cases h
 | i::l,o::os,h=>by
   simp only [List.map_cons,List.cons.injEq] at h;have h1:aQ ops (i::l)=o::aQ ops l:=by simp [aQ,dG h.1]
   rw [h1,AZ l os h.2]
theorem ug {Q:Exit→Act→World→Prop} {a:Act} {w:World}:∀{l:List Nat} {os:List Oper},l.map (nth ops.toList)=os.map some→wpList P ops Q os a w→wpList P ops Q (aQ ops l) a w:=by
 intro l os h hw;have e:=AZ l os h;rw [e];exact hw
theorem uh {Q:Exit→Act→World→Prop} {a:Act} {w:World} (h:Q .normal a w):QP Q .normal a w:=h
end
end
end Go.Cd
namespace Go.Proofs.YtjidohgiigjifaaGreatDoor
open Go.RowKit Go.Cd
theorem xK {M:Nat→List Nat} {l:List Nat}:anyM M l=false↔oZ M l:=by
 unfold anyM oZ;rw [List.any_eq_false];constructor
 ·intro h x hx;have:=h x hx;simpa using this
 ·intro h x hx;simp [h x hx]
theorem NS {c x:Nat} (hc:c<1114112) (h:x∈cO c):x<1114112:=by
 unfold cO at h
 split at h
 ·rename_i h4;have:=lX.1 h4;have h2:(c-44032) % 588 / 28<21:=by omega
  have h1:(c-44032) / 588<19:=by omega
  generalize (c-44032) % 588 / 28=p at *;generalize (c-44032) / 588=q at *;simp only [List.mem_cons,List.not_mem_nil,or_false] at h;rcases h with rfl|rfl <;> omega
 ·split at h
  ·have h3:=Nat.mod_lt (c-44032) (show 28 > 0 by decide);generalize (c-44032) % 28=p at *;simp only [List.mem_cons,List.not_mem_nil,or_false] at h;rcases h with rfl|rfl <;> omega
  ·simp at h
theorem EP {T:List aF} (hT:∀r∈T,∀x∈r.map,x<1114112) {c x:Nat} (hc:c<1114112) (h:x∈mapOf T c):x<1114112:=by
 unfold mapOf at h
 split at h
 ·unfold bF at h;cases hr:rowOf T c with
  | none=>rw [hr] at h;simp at h
  | some r=>rw [hr] at h;exact hT r (List.mem_of_find?_eq_some hr) x h
 ·exact NS hc h
theorem NT {T:List aF} (hT:∀r∈T,∀x∈r.map,x<1114112) {l:List Nat} (hl:∀x∈l,x<1114112):∀x∈bX (mapOf T) l,x<1114112:=by
 intro x hx;unfold bX at hx;obtain ⟨c,hc,hx⟩:=List.mem_flatMap.1 hx
 split at hx
 ·rw [List.mem_singleton.1 hx];exact hl c hc
 ·exact EP hT (hl c hc) hx
instance (T:List aF) (c:Nat):Decidable (eO T c):=by unfold eO oZ;exact inferInstance
theorem Il {T:List aF} {c i:Nat} (hi:i≤T.length+3) (h:32<(steps (mapOf T) i [c]).length):¬eO T c:=by
 rintro ⟨_,h2⟩;rw [h_,show T.length+3=i+(T.length+3-i) by omega,tC] at h2;have:=tF (mapOf T) (T.length+3-i) (steps (mapOf T) i [c]);omega
theorem ER {T:List aF} {c:Nat} (h:32<(bX (mapOf T) (steps (mapOf T) (T.length+3) [c])).length) (hl:(steps (mapOf T) (T.length+3) [c]).length≤32):¬eO T c:=by
 rintro ⟨h1,_⟩;rw [h_] at h1;rw [mQ h1] at h;omega
theorem rR {w:World} {v:Value} {T:List aF} {X:List Nat} (h:iw w v T X) (c:Nat) (hc:c<1114112) (hT:∀r∈T,∀x∈r.map,x<1114112) (DY:∀r∈T,r.map.length≤4) (hmax:T.length<1000000) :
 Calls Tryz.prog 31 #[v,.int .i64 c] w fun e w'=>∃r,e=.returned (.tuple #[r,.bool (decide (eO T c))])∧(eO T c→bD w' r (ints (aK T c)))∧Below w.heap.size w w':=by
 have HT:=ae h;obtain ⟨r,x,rfl,⟨a,cap,rfl,_⟩,h2⟩:=h;obtain ⟨ax,cx,rfl,_,_⟩:=Go.Cd.bD.out h2;obtain ⟨nt,hnt⟩:∃n,n=T.length:=⟨_,rfl⟩;obtain ⟨nx,hnx⟩:∃n,n=(ints X).length:=⟨_,rfl⟩;rw [←hnt,←hnx] at HT ⊢;have qR:=ae hnt;have hmt:nt<1000000:=by omega
 have hb:=ai (w:=w) (.cells #[.slice a nt cap,.slice ax nx cx] 25);have d0:(w.alloc (.cells #[.slice a nt cap,.slice ax nx cx] 25)).cell? ⟨w.heap.size,0,none⟩=some (.slice a nt cap):=by unfold World.cell?;rw [heap_alloc_new];rfl
 have d1:(w.alloc (.cells #[.slice a nt cap,.slice ax nx cx] 25)).cell? ⟨w.heap.size,1,none⟩=some (.slice ax nx cx):=by unfold World.cell?;rw [heap_alloc_new];rfl
 obtain ⟨W0,hW⟩:=af (w.alloc (.cells #[.slice a nt cap,.slice ax nx cx] 25));rw [←hW] at hb d0 d1;obtain ⟨W1,hW1⟩:=af (W0.alloc (.cells #[.int .i64 c] aU));have hb1:Below W0.heap.size W0 W1:=by subst hW1;exact ai _
 have s1:bD W1 (.slice (some ⟨w.heap.size+1,0,none⟩) 1 1) (ints [c]):=by
  subst hW1;have:=lY W0 #[.int .i64 c] aU;rw [show W0.heap.size=w.heap.size+1 by rw [hW];simp] at this;exact this
 rw [hW] at hW1;obtain ⟨P,hP⟩:=af (decide (eO T c));have HP:=ae hP;rw [←hP];have hw1:=hb.trans (hb1.mono hb.size);have e0:=aA hb1 d0;have e1:=aA hb1 d1;have HH:=ae hT;clear hW h2 hnt hnx d0 d1 hP hT hmax;go_enter Tryz.func31,Tryz.ntmps31;go_wp2_with fail;rw [←hW1];clear hW1;go_loopw [6,7] (fun lv iv wr=>∃(i:Nat) (L:List Nat),i≤nt+4∧iv=.int .i64 i∧L=steps (mapOf T) i [c]∧L.length≤32∧(∀x∈L,x<1114112)∧(i=nt+4→¬eO T c)∧bD wr lv (ints L)∧Below W1.heap.size W1 wr) (fun _ iv _=>nt+4-(intOf iv).toNat)
 case atStart=>exact ⟨0,[c],Nat.zero_le _,rfl,rfl,by simp,by simpa using hc,fun h=>by omega,s1,Below.refl _ _⟩
 case round=>
  clear s1 hb1;obtain ⟨i,L,hi,rfl,hL,Qw,hLt,hend,hs,hE⟩:=hrel;have dC:=hw1.trans (hE.mono hw1.size);have f0:=aA hE e0;have f1:=aA hE e1;have SP:=ae (BV (HT.out.mono dC) hs hLt DY (by have:=qR.out;omega) (by omega));obtain ⟨nl,hnl⟩:∃n,n=L.length:=⟨_,rfl⟩;obtain ⟨al,cl,rfl,_,_⟩:=bD.kS hs hnl;have HS:=ae hs;have HL:=ae hL;have HE:=ae hend;clear hs hnl hL hend;by_cases hi4:i≤nt+3
  ·go_wp2_with fail;refine SP.out.mono ?_;rintro e w2 ⟨r2,rfl,o2,h2⟩;have hE2:=ag hE h2;have Yh:=hw1.trans (hE2.mono hw1.size);have s2:=(Sl.aT o2).any;cases hA:anyM (mapOf T) L
   ·have hlf:=xK.1 hA;have hfull:aK T c=L:=by rw [HL.out] at hlf ⊢;exact BL (by have:=qR.out;omega) hlf
    have hok:eO T c:=⟨by rw [hfull];exact hlf,by rw [hfull];exact Qw⟩;have E:P=true:=HP.out.trans (decide_eq_true hok);have HF:=ae hfull;subst E;have HS2:=ae (HS.out.mono h2);clear SP o2 s2 hA hlf hok hfull;go_wp2;go_ret2;exact ⟨_,rfl,fun _=>by rw [HF.out];exact HS2.out,Yh⟩
   ·obtain ⟨n2,hn2⟩:∃n,n=(bX (mapOf T) L).length:=⟨_,rfl⟩;obtain ⟨a2,c2,rfl,_,_⟩:=bD.kS s2 hn2;have Yi:=ae hn2;have HS2:=ae s2;have hst:bX (mapOf T) L=steps (mapOf T) (i+1) [c]:=by rw [HL.out,p_]
    have HST:=ae hst;by_cases h32:32<n2
    ·have hno:¬eO T c:=by
      by_cases hi3:i+1≤nt+3
      ·exact Il (i:=i+1) (by have:=qR.out;omega) (by rw [←hst,←hn2];exact h32)
      ·have hie:i=T.length+3:=by have:=qR.out;omega
       rw [hn2,HL.out,hie] at h32;exact ER h32 (by rw [←hie,←HL.out];exact Qw)
     have E:P=false:=HP.out.trans (decide_eq_false hno);have M0:=ae hno;subst E;clear SP o2 s2 hA hn2 hst hno;go_wp2;go_ret2;exact ⟨_,rfl,fun h=>absurd h M0.out,Yh⟩
    ·have hlt2:=ae (NT HH.out hLt);have Uo:i+1=nt+4→¬eO T c:=by
      rintro hi5 ⟨hk1,_⟩;have hie:i=T.length+3:=by have:=qR.out;omega
      rw [h_,←hie,←HL.out] at hk1;rw [xK.2 hk1] at hA;cases hA
     have HE2:=ae Uo;clear SP o2 s2 hA hn2 hst Uo;go_wp2;go_roundw
     case rel=>exact ⟨i+1,bX (mapOf T) L,by omega,rfl,HST.out,by rw [←Yi.out];omega,hlt2.out,HE2.out,HS2.out,hE2⟩
     case measure=>simp [intOf];omega
  ·have hi5:i=nt+4:=by omega
   have M0:=ae (HE.out hi5);have E:P=false:=HP.out.trans (decide_eq_false M0.out);subst E;clear SP;go_wp2;go_ret2;exact ⟨_,rfl,fun h=>absurd h M0.out,dC⟩
end Go.Proofs.YtjidohgiigjifaaGreatDoor
namespace Go.Cd
section
section
variable (K : Nat → Nat)
def jb (c:Nat):List Nat→List Nat
 | []=>[c]
 | d::l=>if 0<K d∧K d<K c then d::jb c l else c::d::l
def iP:List Nat→List Nat
 | []=>[]
 | c::l=>jb K c (iP l)
def swp (a b:Nat):Prop:=0<K b∧K b<K a
def iQ:List Nat→Prop
 | []=>True
 | [_]=>True
 | a::b::l=>¬swp K a b∧iQ (b::l)
theorem A7 {a b:Nat} (h:swp K a b):∀l,jb K a (jb K b l)=jb K b (jb K a l)
 | []=>by
   unfold swp at h;simp only [jb];rw [if_pos h,if_neg (by omega)]
 | d::l=>by
   have ih:=A7 h l;unfold swp at h;by_cases h1:0<K d∧K d<K b
   ·have h2:0<K d∧K d<K a:=by omega
    simp only [jb,if_pos h1,if_pos h2];rw [ih]
   ·by_cases h2:0<K d∧K d<K a
    ·simp only [jb,if_neg h1,if_pos h2,if_pos h]
    ·simp only [jb,if_neg h1,if_neg h2,if_pos h];rw [if_neg (by omega)]
theorem A8 {a b:Nat} (h:swp K a b) (y:List Nat):∀x:List Nat,iP K (x++a::b::y)=iP K (x++b::a::y)
 | []=>A7 K h _
 | c::x=>by
   show jb K c (iP K (x++a::b::y))=jb K c (iP K (x++b::a::y));rw [A8 h y x]
theorem xL:∀{l:List Nat},iQ K l→iP K l=l
 | [],_=>rfl
 | [a],_=>rfl
 | a::b::l,h=>by
   show jb K a (iP K (b::l))=_;rw [xL h.2];simp only [jb];exact if_neg h.1
def EU (a:Nat):List Nat→List Nat
 | []=>[a]
 | b::l=>if 0<K b∧K b<K a then b::EU a l else a::EU b l
def pass:List Nat→List Nat
 | []=>[]
 | a::l=>EU K a l
theorem nJ (a b:Nat) (l:List Nat):EU K a (b::l)=if 0<K b∧K b<K a then b::EU K a l else a::EU K b l:=rfl
theorem Cq:∀(l:List Nat) (a:Nat),(EU K a l).length=l.length+1
 | [],_=>rfl
 | b::l,a=>by
   rw [nJ]
   split
   ·rw [List.length_cons,Cq l];rfl
   ·rw [List.length_cons,Cq l];rfl
theorem NV (l:List Nat):(pass K l).length=l.length:=by
 cases l with
 | nil=>rfl
 | cons a l=>exact Cq K l a
theorem xM:∀(l:List Nat) (a:Nat) (x:List Nat),iP K (x++EU K a l)=iP K (x++a::l)
 | [],_,_=>rfl
 | b::l,a,x=>by
   rw [nJ]
   split
   ·rename_i h;rw [A8 K h l x,show x++b::EU K a l=(x++[b])++EU K a l by simp,xM l a (x++[b])];simp
   ·rw [show x++a::EU K b l=(x++[a])++EU K b l by simp,xM l b (x++[a])];simp
theorem K5 (l:List Nat):iP K (pass K l)=iP K l:=by
 cases l with
 | nil=>rfl
 | cons a l=>exact xM K l a []
def passes:Nat→List Nat→List Nat
 | 0,l=>l
 | n+1,l=>passes n (pass K l)
theorem vC:∀(n:Nat) (l:List Nat),iP K (passes K n l)=iP K l
 | 0,_=>rfl
 | n+1,l=>by show iP K (passes K n (pass K l))=_;rw [vC n,K5]
theorem xN:∀(n:Nat) (l:List Nat),(passes K n l).length=l.length
 | 0,_=>rfl
 | n+1,l=>by show (passes K n (pass K l)).length=_;rw [xN n,NV]
def gt (x:Nat) (l:List Nat):Nat:=l.countP fun y=>decide (K x<K y)
def Ru (n:Nat):List Nat→List Nat→Prop
 | _,[]=>True
 | pre,b::l=>(0<K b→gt K b pre≤n)∧Ru n (if K b=0 then [] else b::pre) l
theorem dW (x y:Nat) (l:List Nat):gt K x (y::l)=gt K x l+if K x<K y then 1 else 0:=by
 unfold gt;rw [List.countP_cons];simp
theorem Cr:∀(l pre:List Nat) (n:Nat),pre.length+l.length≤n→Ru K n pre l
 | [],_,_,_=>trivial
 | b::l,pre,n,h=>by
   simp only [List.length_cons] at h;refine ⟨fun _=>Nat.le_trans List.countP_le_length (by omega),?_⟩
   split
   ·exact Cr l [] n (by simp;omega)
   ·exact Cr l (b::pre) n (by simp;omega)
theorem oF:∀(l:List Nat) (a:Nat) (po pn:List Nat) (n:Nat),
 (K a=0→po=[])→(0<K a→(∀x,gt K x po=gt K x (a::pn))∧gt K a po=0)→Ru K (n+1) po l→Ru K n pn (EU K a l)
 | [],a,po,pn,n,_,h1,_=>by
   refine ⟨fun h0=>?_,trivial⟩;obtain ⟨h2,h3⟩:=h1 h0;have:=h2 a;rw [h3,dW,if_neg (Nat.lt_irrefl _)] at this;omega
 | b::l,a,po,pn,n,h0,h1,hb=>by
   obtain ⟨hb1,hb2⟩:=hb;rw [nJ];by_cases hs:0<K b∧K b<K a
   ·rw [if_pos hs];have ha:0<K a:=by omega
    obtain ⟨h2,h3⟩:=h1 ha;have hb0:¬K b=0:=by omega
    rw [if_neg hb0] at hb2;refine ⟨fun _=>?_,?_⟩
    ·have:=hb1 hs.1;rw [h2 b,dW,if_pos hs.2] at this;omega
    ·rw [if_neg hb0];refine oF l a (b::po) (b::pn) n (fun h=>by omega) (fun _=>⟨fun x=>?_,?_⟩) hb2
     ·rw [dW,h2 x,dW,dW,dW];omega
     ·rw [dW,h3,if_neg (by omega)]
   ·rw [if_neg hs];refine ⟨fun ha=>?_,?_⟩
    ·obtain ⟨h2,h3⟩:=h1 ha;have:=h2 a;rw [h3,dW,if_neg (Nat.lt_irrefl _)] at this;omega
    ·by_cases hb0:K b=0
     ·rw [if_pos hb0] at hb2;exact oF l b [] _ n (fun _=>rfl) (fun h=>by omega) hb2
     ·rw [if_neg hb0] at hb2;by_cases ha0:K a=0
      ·have hpo:=h0 ha0;subst hpo;rw [if_pos ha0];refine oF l b [b] [] n (fun h=>absurd h hb0) (fun _=>⟨fun _=>rfl,?_⟩) hb2;rw [dW,if_neg (Nat.lt_irrefl _)];rfl
      ·obtain ⟨h2,h3⟩:=h1 (by omega);rw [if_neg ha0];refine oF l b (b::po) (a::pn) n (fun h=>absurd h hb0) (fun _=>⟨fun x=>?_,?_⟩) hb2
       ·rw [dW,h2 x,dW,dW,dW]
       ·rw [dW,if_neg (Nat.lt_irrefl _)];have hab:K a≤K b:=by omega
        have hle:gt K b po≤gt K a po:=List.countP_mono_left fun y _ hy=>by
         simp only [decide_eq_true_eq] at hy ⊢;omega
        omega
theorem NY (n:Nat) (l:List Nat) (h:Ru K (n+1) [] l):Ru K n [] (pass K l):=by
 cases l with
 | nil=>trivial
 | cons a l=>
   obtain ⟨_,h2⟩:=h;by_cases ha:K a=0
   ·rw [if_pos ha] at h2;exact oF K l a [] [] n (fun _=>rfl) (fun h=>by omega) h2
   ·rw [if_neg ha] at h2;refine oF K l a [a] [] n (fun h=>absurd h ha) (fun _=>⟨fun _=>rfl,?_⟩) h2;rw [dW,if_neg (Nat.lt_irrefl _)];rfl
theorem xP:∀(n:Nat) (l:List Nat),Ru K n [] l→Ru K 0 [] (passes K n l)
 | 0,_,h=>h
 | n+1,l,h=>xP n (pass K l) (NY K n l h)
theorem A9:∀(l:List Nat) (a:Nat) (pre:List Nat),Ru K 0 (if K a=0 then [] else a::pre) l→iQ K (a::l)
 | [],_,_,_=>trivial
 | b::l,a,pre,h=>by
   obtain ⟨h1,h2⟩:=h;refine ⟨fun hs=>?_,?_⟩
   ·have ha:¬K a=0:=by have:=hs.2;omega
    have:=h1 hs.1;rw [if_neg ha,dW,if_pos hs.2] at this;omega
   ·exact A9 l b _ h2
theorem xQ (l:List Nat):passes K l.length l=iP K l:=by
 have hb:=xP K l.length l (Cr K l [] l.length (by simp));have hin:iQ K (passes K l.length l):=by
  generalize passes K l.length l=m at hb;cases m with
  | nil=>trivial
  | cons a m=>exact A9 K m a [] hb.2
 rw [←xL K hin,vC]
end
end
open Go.Proofs.YtjidohgiigjifaaGreatDoor
theorem EW {c x:Nat} (h:x∈hparts c):0<hk x∧hk x<4:=by
 have hr:(4352≤x∧x<4371)∨(4449≤x∧x<4470)∨(4520≤x∧x<4547):=by
  have h3:=Nat.mod_lt (c-44032) (show 28 > 0 by decide);have h2:(c-44032) % 588 / 28<21:=by omega
  unfold hparts at h;by_cases h4:hk c=4
  ·rw [if_pos h4] at h;have h1:(c-44032) / 588<19:=by rw [lX] at h4;omega
   clear h4;generalize (c-44032) % 588 / 28=v at *;generalize (c-44032) / 588=l at *;simp only [List.mem_cons,List.not_mem_nil,or_false] at h;omega
  ·rw [if_neg h4] at h;by_cases h5:hk c=5
   ·rw [if_pos h5] at h;have h1:(c-44032) / 588<19∧(c-44032) % 28≠0:=by rw [ky] at h5;omega
    clear h4 h5;generalize (c-44032) % 588 / 28=v at *;generalize (c-44032) / 588=l at *;generalize (c-44032) % 28=t at *;simp only [List.mem_cons,List.not_mem_nil,or_false] at h;omega
   ·rw [if_neg h5] at h;simp at h
 unfold hk;rcases hr with h|h|h
 ·rw [if_pos h];omega
 ·rw [if_neg (by omega),if_pos h];omega
 ·rw [if_neg (by omega),if_neg (by omega),if_pos h];omega
theorem NZ {T:List aF} {X:List Nat} (hV:bE T X) {x:Nat} (h:0<hk x):rowOf T x=none:=
 lZ fun r hr e=>by have:=(hV.fine r hr).2.2.2.1;rw [e] at this;omega
theorem Im {T:List aF} {X:List Nat} (hV:bE T X) {x:Nat} (h:0<hk x) (h4:hk x<4):mapOf T x=[]:=by
 unfold mapOf bF;rw [if_pos h4,NZ hV h]
theorem kK {T:List aF} {X:List Nat} (hV:bE T X) (c:Nat):oZ (mapOf T) (hparts c):=fun _ hx=>Im hV (EW hx).1 (EW hx).2
theorem EY (M:Nat→List Nat) (c:Nat) (h:M c≠[]):steps M 1 [c]=M c:=by
 show bX M [c]=M c;unfold bX;rw [List.flatMap_cons,if_neg h];simp
theorem vD {T:List aF} {X:List Nat} (hV:bE T X) {c:Nat} (h:4≤hk c):aK T c=hparts c∧eO T c:=by
 have hm:mapOf T c=cO c:=by unfold mapOf;rw [if_neg (by omega)]
 have hn:cO c≠[]:=fun e=>by have:=tu.1 e;omega
 have hf:aK T c=hparts c:=by
  by_cases h4:hk c=4
  ·have e:cO c=hparts c:=by unfold cO hparts;rw [if_pos h4,if_pos h4]
   have h1:steps (mapOf T) 1 [c]=hparts c:=by rw [EY _ _ (by rw [hm];exact hn),hm,e]
   rw [BL (k:=1) (by omega) (by rw [h1];exact kK hV c),h1]
  ·have h5:hk c=5:=by have:=Ae c;omega
   have h1:steps (mapOf T) 1 [c]=[c-(c-44032) % 28,4519+(c-44032) % 28]:=by
    rw [EY _ _ (by rw [hm];exact hn),hm];unfold cO;rw [if_neg h4,if_pos h5]
   have h6:mapOf T (c-(c-44032) % 28)=[4352+(c-44032) / 588,4449+(c-44032) % 588 / 28]:=by
    unfold mapOf;rw [if_neg (by rw [JL h5];omega),wO h5]
   have h7:mapOf T (4519+(c-44032) % 28)=[]:=kK hV c _ (by unfold hparts;rw [if_neg h4,if_pos h5];simp);have h2:steps (mapOf T) 2 [c]=hparts c:=by
    rw [p_,h1];unfold bX hparts;rw [if_neg h4,if_pos h5,List.flatMap_cons,List.flatMap_cons,if_neg (by rw [h6];simp),if_pos h7,h6];rfl
   rw [BL (k:=2) (by omega) (by rw [h2];exact kK hV c),h2]
 refine ⟨hf,by rw [hf];exact kK hV c,?_⟩;rw [hf];unfold hparts
 split
 ·simp
 split <;> simp
theorem l7 {T:List aF} {X:List Nat} (hV:bE T X) (c:Nat):eO T c:=by
 by_cases h:4≤hk c
 ·exact (vD hV h).2
 ·cases hr:rowOf T c with
  | some r=>
    obtain ⟨h1,h2⟩:=ic hr;rw [←h2];exact hV.full r h1
  | none=>
    have hm:mapOf T c=[]:=by unfold mapOf bF;rw [if_pos (by omega),hr]
    have hf:aK T c=[c]:=g_ hm _;refine ⟨by rw [hf];exact fun x hx=>by rw [List.mem_singleton.1 hx];exact hm,by rw [hf];simp⟩
theorem K6 {T:List aF} {X:List Nat} (hV:bE T X) {c y:Nat} (h:y∈aK T c):aK T y=[y]:=g_ ((l7 hV c).1 y h) _
theorem Rv (T:List aF) (c:Nat):aK T c≠[]:=by
 rw [h_];intro e;have:=tF (mapOf T) (T.length+3) [c];rw [e] at this;simp at this
theorem EZ {c x:Nat} (h:x∈cO c):x<55296:=by
 unfold cO at h
 split at h
 ·rename_i h4;have:=lX.1 h4;have h2:(c-44032) % 588 / 28<21:=by omega
  have h1:(c-44032) / 588<19:=by omega
  generalize (c-44032) % 588 / 28=p at *;generalize (c-44032) / 588=q at *;simp only [List.mem_cons,List.not_mem_nil,or_false] at h;omega
 ·split at h
  ·rename_i h5;have h3:=Nat.mod_lt (c-44032) (show 28 > 0 by decide);have h8:c<55204:=(ky.1 h5).2.1;generalize (c-44032) % 28=p at *;simp only [List.mem_cons,List.not_mem_nil,or_false] at h;omega
  ·simp at h
theorem K7 {T:List aF} {X:List Nat} (hV:bE T X) {c x:Nat} (h:x∈mapOf T c):aX x:=by
 unfold mapOf at h
 split at h
 ·unfold bF at h;cases hr:rowOf T c with
  | none=>rw [hr] at h;simp at h
  | some r=>rw [hr] at h;exact ((hV.fine r (ic hr).1).2.2.2.2 x h).2
 ·have:=EZ h;unfold aX;omega
theorem A_ {T:List aF} {X:List Nat} (hV:bE T X):∀(n:Nat) (l:List Nat),(∀x∈l,aX x)→∀x∈steps (mapOf T) n l,aX x
 | 0,_,h=>h
 | n+1,l,h=>A_ hV n (bX (mapOf T) l) fun x hx=>by
   unfold bX at hx;obtain ⟨c,hc,hx⟩:=List.mem_flatMap.1 hx
   split at hx
   ·rw [List.mem_singleton.1 hx];exact h c hc
   ·exact K7 hV hx
theorem rT {T:List aF} {X:List Nat} (hV:bE T X) {c y:Nat} (hc:aX c) (h:y∈aK T c):aX y:=by
 rw [h_] at h;exact A_ hV _ [c] (fun x hx=>by rw [List.mem_singleton.1 hx];exact hc) y h
theorem iR {T:List aF} {X:List Nat} (hV:bE T X) (c:Nat):(aK T c).length≤32:=(l7 hV c).2
theorem pQ {T:List aF} {X:List Nat} (hV:bE T X) (l:List Nat):(l.flatMap (aK T)).length≤32*l.length:=by
 induction l with
 | nil=>simp
 | cons c l ih=>
   have:=iR hV c;rw [List.flatMap_cons,List.length_append,List.length_cons];omega
def xR (T:List aF) (l:List Nat):List Nat:=iP (aB T) (l.flatMap (aK T))
end Go.Cd
namespace Go.Cd
def xtA:List aF:=[⟨192,0,[65,768]⟩,⟨193,0,[65,769]⟩,⟨194,0,[65,770]⟩,⟨195,0,[65,771]⟩,⟨196,0,[65,776]⟩,⟨197,0,[65,778]⟩,⟨199,0,[67,807]⟩,⟨200,0,[69,768]⟩,⟨201,0,[69,769]⟩,⟨202,0,[69,770]⟩,
 ⟨203,0,[69,776]⟩,⟨209,0,[78,771]⟩,⟨214,0,[79,776]⟩,⟨220,0,[85,776]⟩,⟨224,0,[97,768]⟩,⟨225,0,[97,769]⟩,⟨226,0,[97,770]⟩,⟨228,0,[97,776]⟩,⟨229,0,[97,778]⟩,⟨231,0,[99,807]⟩,
 ⟨233,0,[101,769]⟩,⟨234,0,[101,770]⟩,⟨241,0,[110,771]⟩,⟨244,0,[111,770]⟩,⟨246,0,[111,776]⟩,⟨252,0,[117,776]⟩,⟨258,0,[65,774]⟩,⟨259,0,[97,774]⟩,⟨346,0,[83,769]⟩,⟨347,0,[115,769]⟩,
 ⟨350,0,[83,807]⟩,⟨469,0,[220,772]⟩,⟨471,0,[220,769]⟩,⟨478,0,[196,772]⟩,⟨506,0,[197,769]⟩,⟨768,230,[]⟩,⟨769,230,[]⟩,⟨770,230,[]⟩,⟨771,230,[]⟩,⟨772,230,[]⟩,
 ⟨774,230,[]⟩,⟨775,230,[]⟩,⟨776,230,[]⟩,⟨778,230,[]⟩,⟨787,230,[]⟩,⟨795,216,[]⟩,⟨803,220,[]⟩,⟨807,202,[]⟩,⟨808,202,[]⟩,⟨817,220,[]⟩,
 ⟨824,1,[]⟩,⟨832,230,[768]⟩,⟨833,230,[769]⟩,⟨835,230,[787]⟩,⟨836,230,[776,769]⟩,⟨837,240,[]⟩,⟨884,0,[697]⟩,⟨894,0,[59]⟩,⟨901,0,[168,769]⟩,⟨903,0,[183]⟩,
 ⟨940,0,[945,769]⟩,⟨942,0,[951,769]⟩,⟨1460,14,[]⟩,⟨1463,17,[]⟩,⟨2345,0,[2344,2364]⟩,⟨2353,0,[2352,2364]⟩,⟨2356,0,[2355,2364]⟩,⟨2364,7,[]⟩,⟨2381,9,[]⟩,⟨2392,0,[2325,2364]⟩,
 ⟨2393,0,[2326,2364]⟩,⟨2507,0,[2503,2494]⟩,⟨2508,0,[2503,2519]⟩,⟨3953,129,[]⟩,⟨3954,130,[]⟩,⟨3955,0,[3953,3954]⟩,⟨3956,132,[]⟩,⟨3957,0,[3953,3956]⟩,⟨3958,0,[4018,3968]⟩,⟨3968,130,[]⟩,
 ⟨3969,0,[3953,3968]⟩,⟨7688,0,[199,769]⟩,⟨7690,0,[68,775]⟩,⟨7691,0,[100,775]⟩,⟨7692,0,[68,803]⟩,⟨7693,0,[100,803]⟩,⟨7776,0,[83,775]⟩,⟨7777,0,[115,775]⟩,⟨7778,0,[83,803]⟩,⟨7779,0,[115,803]⟩,
 ⟨7780,0,[346,775]⟩,⟨7781,0,[347,775]⟩,⟨7784,0,[7778,775]⟩,⟨7785,0,[7779,775]⟩,⟨7835,0,[383,775]⟩,⟨7840,0,[65,803]⟩,⟨7841,0,[97,803]⟩,⟨7852,0,[7840,770]⟩,⟨7853,0,[7841,770]⟩,⟨7862,0,[7840,774]⟩,
 ⟨7863,0,[7841,774]⟩,⟨8192,0,[8194]⟩,⟨8193,0,[8195]⟩,⟨8486,0,[937]⟩,⟨8490,0,[75]⟩,⟨8491,0,[197]⟩,⟨8800,0,[61,824]⟩,⟨8814,0,[60,824]⟩,⟨10972,0,[10973,824]⟩,⟨12364,0,[12363,12441]⟩,
 ⟨12400,0,[12399,12441]⟩,⟨12401,0,[12399,12442]⟩,⟨12441,8,[]⟩,⟨12442,8,[]⟩]
def xtB:List aF:=[⟨63744,0,[35912]⟩,⟨64285,0,[1497,1460]⟩,⟨64287,0,[1522,1463]⟩,⟨69786,0,[69785,69818]⟩,⟨69818,7,[]⟩,⟨119134,0,[119127,119141]⟩,⟨119141,216,[]⟩]
def dP:List aF:=xtA++xtB
def Cs:List Nat:=[2392,2393,10972,64285,64287,119134]
instance (r:aF):Decidable (rowFine r):=inferInstanceAs (Decidable (_∧_∧_∧_∧_))
theorem ui:∀{T:List aF},(T.map (·.code)).Pairwise (· < ·)→rising T
 | [],_=>trivial
 | r::T,h=>by
   rw [List.map_cons,List.pairwise_cons] at h;exact ⟨fun q hq=>h.1 _ (List.mem_map_of_mem hq),ui h.2⟩
theorem JZ:∀r∈dP,rowFine r:=by decide +kernel
theorem Rw:rising dP:=ui (by decide +kernel)
theorem Rx:∀r∈dP,eO dP r.code:=by
 have:(dP.all fun r=>(aK dP r.code).all (fun x=>(mapOf dP x).isEmpty)&&decide ((aK dP r.code).length≤32))=true:=by decide +kernel
 intro r hr;have h:=List.all_eq_true.1 this r hr;rw [Bool.and_eq_true,List.all_eq_true] at h;exact ⟨fun x hx=>List.isEmpty_iff.1 (h.1 x hx),of_decide_eq_true h.2⟩
theorem Ry:∀r∈dP,∀q∈dP,r.map.length=2→r.map=q.map→r=q:=by
 have:(dP.all fun r=>r.map.length !=2||dP.all fun q=>!(r.map==q.map)||decide (r=q))=true:=by decide +kernel
 intro r hr q hq h2 he;have h:=List.all_eq_true.1 this r hr;rw [h2] at h;have h1:=List.all_eq_true.1 (show (dP.all fun q=>!(r.map==q.map)||decide (r=q))=true from h) q hq;rw [he] at h1;simpa using h1
theorem xS:bE dP Cs:=⟨JZ,Rw,Rx,fun r hr q hq h2 he _ _=>Ry r hr q hq h2 he⟩
theorem RB:∀r∈dP,r.cls≠0∨r.map≠[]:=by decide +kernel
end Go.Cd
section
namespace Go.Cd
def rU (c:Nat) (nm e:List UInt8):List UInt8:=aS c++[59,60]++nm++[44,32]++e++[62,59,59,48,59,59,59,59,59,59,59,59,59,59,59,10]
end Go.Cd
namespace Go.Proofs.YtjidohgiigjifaaGreatDoor
open Go.RowKit Go.Cd Go.Shelf
theorem vE {w:World} (hG:bZ w) (c:Nat) (hc:c<1114112) (f g:Int) (nm e:List UInt8) (h1:nm.length≤100) (h2:e.length≤100) :
 Calls Tryz.prog 94 #[.agg #[.int .i32 f,.int .i32 g,.string (tx nm)],.int .i32 c,.string (tx e)] w fun e' w'=>e'=.returned (.string (tx (rU c nm e)))∧Below w.heap.size w w':=by
 have HX:=ae (fun (W:World) (E:Below w.heap.size w W)=>qj (hG.mono E) c hc);obtain ⟨w1,hw1⟩:=af (w.alloc (.cells #[.int .i32 f,.int .i32 g,.string (tx nm)] 166));have hb1:Below w.heap.size w w1:=by rw [hw1];exact ai _
 have k1:Is w1 w.heap.size #[.int .i32 f,.int .i32 g,.string (tx nm)] 166:=by rw [hw1];exact Is.new _ _ _
 have hp:tx (aS c)++(⟨#[59,60]⟩:ByteArray)++tx nm++(⟨#[44,32]⟩:ByteArray)++tx e++(⟨#[62,59,59,48,59,59,59,59,59,59,59,59,59,59,59,10]⟩:ByteArray)=tx (rU c nm e):=by
  show tx (aS c)++tx [59,60]++tx nm++tx [44,32]++tx e++tx [62,59,59,48,59,59,59,59,59,59,59,59,59,59,59,10]=_;rw [cZ,cZ,cZ,cZ,cZ];rfl
 have z1:(tx (aS c)).size≤6:=by rw [bn];exact (bJ c).2
 have z2:(tx nm).size≤100:=by rw [bn];exact h1
 have z3:(tx e).size≤100:=by rw [bn];exact h2
 have y1:(⟨#[59,60]⟩:ByteArray).size=2:=rfl;have y2:(⟨#[44,32]⟩:ByteArray).size=2:=rfl;have y3:(⟨#[62,59,59,48,59,59,59,59,59,59,59,59,59,59,59,10]⟩:ByteArray).size=16:=rfl;have HP:=ae hp;generalize tx (aS c)=s1 at *;generalize tx nm=s2 at *;generalize tx e=s3 at *;clear hp h1 h2;go_enter Tryz.func94,Tryz.ntmps94;go_upto_region 1 with fail;rw [←hw1];clear hw1;have g2:=Gr.cell (ah w1) (k1.at 2 rfl);refine aD (Array.replicate 11 true) 11 0 mixed (by rfl) ?_;refine ay [0,3,4,7] 7 rfl (by kernel_rfl) ?_
 iterate 4 (refine aC rfl ?_;go_big_quiet_step (rfl))
 refine ak ?_;refine aL 1 (by kernel_rfl) rfl ?_;go_wp2_with fail;refine (HX.out _ (ag hb1 (ah w1))).mono ?_;rintro e w2 ⟨rfl,h3⟩;go_wp2_with fail;refine aH h3 ?_;refine ay [2,5,6,8,9,10] 0 rfl (by kernel_rfl) ?_
 iterate 6 (refine aC rfl ?_;go_big_quiet_step (first|rfl|(simp only [ByteArray.size_append];omega)))
 refine ak ?_;refine aI [] (by kernel_rfl) ?_;refine tail_nil ?_;go_wp2;go_ret;exact ⟨by rw [←HP.out];rfl,ag (ag hb1 (ah w1)) h3⟩
end Go.Proofs.YtjidohgiigjifaaGreatDoor
end
namespace Go.Cd
open Go.Proofs.YtjidohgiigjifaaGreatDoor
def eu:List (Nat×Nat×List UInt8):=[(44032,55203,[72,97,110,103,117,108,32,83,121,108,108,97,98,108,101]),
 (55296,56191,[78,111,110,32,80,114,105,118,97,116,101,32,85,115,101,32,72,105,103,104,32,83,117,114,114,111,103,97,116,101]),
 (57344,63743,[80,114,105,118,97,116,101,32,85,115,101])]
def Ba (s:Nat×Nat×List UInt8):List UInt8:=rU s.1 s.2.2 [70,105,114,115,116]++rU s.2.1 s.2.2 [76,97,115,116]
def vX:List aF→Nat→List UInt8
 | [],_=>[]
 | r::T,k=>((eu.drop k).takeWhile fun s=>decide (s.1<r.code)).flatMap Ba++((dL [88] r++[10])++vX T (k+((eu.drop k).takeWhile fun s=>decide (s.1<r.code)).length))
theorem N7 {r:aF} {T:List aF} {k:Nat} (hk:k<eu.length) (h:eu[k].1<r.code):vX (r::T) k=Ba eu[k]++vX (r::T) (k+1):=by
 conv=>lhs;unfold vX
 conv=>rhs;unfold vX
 rw [List.drop_eq_getElem_cons hk,List.takeWhile_cons_of_pos (by simpa using h),List.flatMap_cons,List.length_cons,List.append_assoc,Nat.add_assoc,Nat.add_comm 1]
theorem J6 {r:aF} {T:List aF} {k:Nat} (h:∀hk:k<eu.length,¬eu[k].1<r.code):vX (r::T) k=(dL [88] r++[10])++vX T k:=by
 conv=>lhs;unfold vX
 have e:(eu.drop k).takeWhile (fun s=>decide (s.1<r.code))=[]:=by
  by_cases hk:k<eu.length
  ·rw [List.drop_eq_getElem_cons hk,List.takeWhile_cons_of_neg (by simpa using h hk)]
  ·rw [List.drop_of_length_le (by omega)];rfl
 rw [e];rfl
def Uq (s:Nat×Nat×List UInt8):List gm:=[⟨60::s.2.2++uX,⟨s.1,0,[]⟩,60::s.2.2++uX,true⟩,⟨60::s.2.2++Hy,⟨s.2.1,0,[]⟩,[],true⟩]
def Qz:List gm:=xtA.map pF++eu.flatMap Uq++xtB.map pF
theorem RD:lG Qz=dP:=by
 unfold lG Qz dP;rw [List.filter_append,List.filter_append,List.map_append,List.map_append];have h1:∀T:List aF,((T.map pF).filter fun l=>!l.pl).map (·.r)=T:=Az;rw [h1,h1];have h2:((eu.flatMap Uq).filter fun l=>!l.pl)=[]:=rfl;rw [h2];rfl
theorem Ct:vX dP 0=bq (Qz.map gm.t):=by decide +kernel
theorem N8:(bq (Qz.map gm.t)).length<10000:=by decide +kernel
end Go.Cd
