/- Texts that are alike cost, and count, the same; no condition. -/
import Derived.Test.YtmnimbnojdndmaaGreatDoorU02
set_option maxRecDepth 100000
set_option maxHeartbeats 6400000
set_option linter.all false
namespace Go.Cd
section
open Go.RowKit
section
variable {P : Program} {ops : Array Oper} {md : Region.Mode} {head : Array Bool}
variable {Q:Exit->Act->World->Prop} {T:Array Bool->Act->World->Prop} {b:Array Bool} {a:Act} {w:World} {v:Value} {o:Oper} {R:Value->World->Prop} {c:Value->Nat} {K:Act->World->Prop} {j:Nat} {vs:Nat->Value}
def Hm (P:Program) (md:Region.Mode) (ops:Array Oper) (head:Array Bool) (Q:Exit->Act->World->Prop) (T:Array Bool->Act->World->Prop):Nat->Array Bool->Act->World->Prop
 | 0,listed,a,w=>∀w',Below w.heap.size w w'->kZ head listed=true/\T listed a w'
 | n+1,listed,a,w=>∀w',Below w.heap.size w w'->Region.ready md ops listed≠[]/\
   ∀i∈Region.ready md ops listed,head.getD i false=true/\xG P ops Q i (Hm P md ops head Q T n (listed.setIfInBounds i true)) a w'
def aba {n:Nat} {e:World} (d:Below w.heap.size w e) (h:Hm P md ops head Q T n b a w):Hm P md ops head Q T n b a e:=by
 cases n with
 | zero=>exact λw' c=>h w' (af d c)
 | succ n=>exact λw' c=>h w' (af d c)
def FH {i:Nat} {t:Oper} (M:ops[i]? = some t) (x:∀(j:Nat) (o:Oper) cs b,ops[j]? = some o->o.op≠.select cs b)
 (D:head.getD i false=true) :
 ∀(n:Nat) (c:Array Bool) (a:Act) (w:World),Closed md ops c->
  (∀j l,ops[j]? = some l->j≠i->c.getD j true=false->(∀e∈l.after,Region.binds md e=true->e.on≠i)->(head.getD j false=true/\t.apart ops l=true)\/waits md ops i ops.size j=true)->
  i∈Region.ready md ops c->mP P ops w t v a->
  Hm P md ops head Q T n (c.setIfInBounds i true) (a.put t.dst v) w->Hm P md ops head Q T (n+1) c a w:=by
 intro n;have key:∀(c:Array Bool),Closed md ops c->
  (∀j l,ops[j]? = some l->j≠i->c.getD j true=false->(∀e∈l.after,Region.binds md e=true->e.on≠i)->(head.getD j false=true/\t.apart ops l=true)\/waits md ops i ops.size j=true)->
  i∈Region.ready md ops c->∀j,j∈Region.ready md ops c->j≠i->∃l,ops[j]? = some l/\c.getD j true=false/\head.getD j false=true/\t.apart ops l=true:=by
  intro c q d r j z g;obtain⟨f,l,p,u⟩:=mem_ready.1 z;have h0:=(mem_ready.1 r).1;have F:c.getD i false=false:=by
   rcases j' i c.size with h'|h'
   ·simp[h'] at h0⊢;exact h0
   simp[kp h']
  have E:∀e∈l.after,Region.binds md e=true->e.on≠i:=λe Y U R=>by
   have I:=u e Y U;rw[R,F] at I;cases I
  rcases d j l p g f E with h|h
  ·exact⟨l,p,f,h.1,h.2⟩
  exact absurd u (lh q F _ j l p h)
 induction n with
 | zero=>
   intro c a w q d r G H w' m;refine⟨λh=>(by rw[h] at r;cases r),λj z=>?_⟩;by_cases g:j=i
   ·subst g;exact⟨D,(G.mono m).xG M (aba (n:=0) m H)⟩
   obtain⟨l,p,f,L,_⟩:=key c q d r j z g;have y:=jH (H w (gO _ _)).1 L;rw[getD_set_ne false (px g)] at y;rcases j' j c.size with h'|h'
   ·simp[h'] at f y;rw[f] at y;cases y
   simp[kp h'] at y
 | succ n ih=>
   intro c a w q d r G H w' m;refine⟨λh=>(by rw[h] at r;cases r),λj z=>?_⟩;by_cases g:j=i
   ·subst g;exact⟨D,(G.mono m).xG M (aba (n:=n+1) m H)⟩
   obtain⟨V,I⟩:=(H w' m).2 j (ready_mono z g);obtain⟨l,p,f,_,J⟩:=key c q d r j z g;have y:=YB p J (λcs b=>x i t cs b M) (λcs b=>x j l cs b p) (G.mono m) I;have s:∀k B,ops[k]? = some B->k≠i->(c.setIfInBounds j true).getD k true=false->
    (∀e∈B.after,Region.binds md e=true->e.on≠i)->(head.getD k false=true/\t.apart ops B=true)\/waits md ops i ops.size k=true:=λk B X O A N=>by
    refine d k B X O ?_ N;by_cases C:j=k
    ·subst C;exact f
    rw[getD_set_ne true C] at A;exact A
   refine⟨V,qz (λW K S=>ih (c.setIfInBounds j true) W K (q.step z) s (ready_mono r (px g)) S.1 ?_) y⟩;rw[rG _ _ g];exact S.2
def Ho (m:Region.noSelect ops=true):∀(l:List Nat) (n:Nat) (b:Array Bool) (a:Act) (w:World),Closed md ops b->
 (AQ ops l&&tq md ops head l b)=true->wpQuiet P ops (λw'=>∃g:Gr w,w'=g.tw) (λA=>Hm P md ops head Q T n (aS l b) A w) (bu ops l) a->Hm P md ops head Q T (n+l.length) b a w
 | [],n,b,a,w,_,_,h=>h
 | i::l,n,b,a,w,hcl,hB,h=>by
   simp only[tq,AQ,List.all_cons,jn] at hB;obtain⟨⟨c,y⟩,⟨⟨p,hf⟩,z⟩,s⟩:=hB;cases e:ops[i]? with
   | none=>rw[e] at c;cases c
   | some o=>
     rw[e] at c;simp only at c;have C:bu ops (i::l)=o::bu ops l:=by simp[bu,e]
     rw[C] at h;have j:(AQ ops l&&tq md ops head l (b.setIfInBounds i true))=true:=by simp only[AQ,jn];exact⟨y,s⟩
     simp only[wpQuiet] at h;by_cases q:Region.wanted o (yielded ops a.tmps)=true
     ·rw[if_pos q] at h;obtain⟨v,B,D⟩:=h;refine FH e (lj m) z (n+l.length) b a w hcl (oK e hf) (by simpa using p) (.inl ⟨q,λw' t=>?_⟩)
       (Ho m l n _ _ w (hcl.step (by simpa using p)) j D)
      have d:=B w' ⟨⟨w',t⟩,rfl⟩;unfold Oper.quietAt at d;generalize k:(execOp a.eval o).run P w'=r at d;cases r with
      | ok x w1=>
        cases x <;> simp only[Oper.quietUpon] at d
        case value u=>rw[d.1,d.2];exact .inl rfl
        case skip=>rw[d.1,d.2];exact .inr ⟨rfl,rfl⟩
        case enter f args=>exact absurd k (Jf c _ _ _ _)
      | halt x w1=>exact d.elim
     rw[if_neg q] at h;exact FH e (lj m) z (n+l.length) b a w hcl (oK e hf) (by simpa using p) (.inr ⟨by simpa using q,rfl⟩)
      (Ho m l n _ _ w (hcl.step (by simpa using p)) j h)
def oC (l:List Nat) (n:Nat) {m:Nat} 
 (h:wpQuiet P ops (λw'=>∃g:Gr w,w'=g.tw) (λd=>Hm P md ops head Q T n (aS l b) d w) (bu ops l) a) (e:m=n+l.length:=by rfl) (c:((Region.noSelect ops&&vM md ops b)&&(AQ ops l&&tq md ops head l b))=true:=by kernel_rfl):Hm P md ops head Q T m b a w:=by
  subst e;rw[jn,jn] at c;exact Ho c.1.1 l n b a w (oL c.1.2) c.2 h
def pI {n:Nat} (i:Nat) 
 (h:∀w',Below w.heap.size w w'->wpList P ops (QE Q w' (Hm P md ops head Q T n (b.setIfInBounds i true))) [o] a w') (f:(Region.ready md ops b==[i]&&head.getD i false)=true:=by kernel_rfl) (k:nth ops.toList i=some o:=by rfl):Hm P md ops head Q T (n+1) b a w:=by
 simp only[jn,beq_iff_eq] at f;obtain⟨e,g⟩:=f;intro w' c;refine⟨by rw[e];simp,λj d=>?_⟩;rw[e] at d;obtain rfl:j=i:=by simpa using d
 exact⟨g,qA (fM k) (h w' c)⟩
def mI (P:Program) (ops:Array Oper) (R:Value->World->Prop) (bk:Value->Nat) (o:Oper) (a:Act) (w:World):Prop:=
 Region.wanted o (yielded ops a.tmps)=true/\∀W,Below w.heap.size w W->∃v b,(execOp a.eval o).run P W=.ok (.value v) b/\Below W.heap.size W b/\R v b/\W.heap.size<=bk v/\bk v<b.heap.size
def mI.mono {b:Value->Nat} {w':World} (h:mI P ops R b o a w) (c:Below w.heap.size w w'):mI P ops R b o a w':=
 ⟨h.1,λW d=>h.2 W (af c d)⟩
def mI.same {b:Act} (h:mI P ops R c o a w) (e:execOp b.eval o=execOp a.eval o)
 (d:Region.wanted o (yielded ops b.tmps)=Region.wanted o (yielded ops a.tmps)):mI P ops R c o b w:=by
 unfold mI at *;rw[e,d];exact h
def mI.xG {i:Nat} (j:ops[i]? = some o) (h:mI P ops R c o a w)
 (f:∀v b,Below w.heap.size w b->R v b->w.heap.size<=c v->c v<b.heap.size->K (a.put o.dst v) b):xG P ops Q i K a w:=by
 obtain⟨m,h⟩:=h;obtain⟨v,b,k,d,g,e,l⟩:=h w (gO _ _);unfold Cd.xG wpOp;simp only[j,m,if_true,Oper.wp,k,Oper.upon];exact .inl ⟨d,f v b d g e l⟩
def K6 {Q:Exit->Act->World->Prop} {Φ:Act->World->Prop} {m:Oper} (s:ops[j]? = some m) (g:∀a w v,Φ a w->Φ (a.put m.dst v) w)
 (l:∀a w d,Φ a w->Φ { a with defers:=d::a.defers } w) (b:∀a w w',Below w.heap.size w w'->Φ a w->Φ a w') (h:xG P ops Q j K a w) (i:Φ a w) :
 xG P ops Q j (λq w'=>Φ q w'/\K q w') a w:=by
 unfold xG wpOp at *;simp only[s] at *
 split
 ·rename_i p;simp only[p,if_true] at h;rcases h with h|⟨t,y⟩
  case inr=>exact .inr ⟨t,y⟩
  refine .inl ?_;unfold Oper.wp at *;generalize (execOp a.eval m).run P w=r at *;cases r with
  | ok n w'=>
    cases n <;> simp only[Oper.upon] at h⊢
    case value u=>exact⟨h.1,b _ _ _ h.1 (g _ _ _ i),h.2⟩
    case skip=>exact⟨h.1,b _ _ _ h.1 (g _ _ _ i),h.2⟩
    case defer d=>exact⟨h.1,b _ _ _ h.1 (g _ _ _ (l _ _ _ i)),h.2⟩
    case enter f args=>
     refine se h λe o k=>?_;cases e with
     | returned u=>exact⟨k.1,b _ _ _ k.1 (g _ _ _ i),k.2⟩
     | panicked c=>exact k.elim
     | outgrown=>exact k
    case row row args=>exact Rows.mono h λu o k=>⟨k.1,b _ _ _ k.1 (g _ _ _ i),k.2⟩
  | halt x w'=>
    cases x <;> simp only[Oper.upon] at h⊢
    case panic u=>exact h.elim
 rename_i p;simp only[p] at h;exact⟨h.1,g _ _ _ i,h.2⟩
def SB {g:Oper} {d:Option Tmp} (z:ops[j]? = some g) (o:∀cs b,g.op≠.select cs b)
 (p:∀t,d=some t->t∉g.looksAt ops) (m:∀t,d=some t->g.dst≠some t) (h:xG P ops Q j K a w) :
 xG P ops Q j (λy w'=>∃b,y=b.put d v/\K b w') (a.put d v) w:=by
 unfold xG wpOp at *;simp only[z] at *;rw[wanted_put g a d v p]
 split
 ·rename_i s;simp only[s,if_true] at h;rcases h with h|⟨i,k⟩
  case inr=>exact .inr ⟨by unfold Oper.asks at *;rw[execOp_put g o a d v p];exact i,k⟩
  refine .inl ?_;unfold Oper.wp at *;rw[execOp_put g o a d v p];generalize (execOp a.eval g).run P w=r at *;cases r with
  | ok n w'=>
    cases n <;> simp only[Oper.upon] at h⊢
    case value u=>exact⟨h.1,_,pC a v u m,h.2⟩
    case skip=>exact⟨h.1,_,pC a v undef m,h.2⟩
    case defer x=>
     refine⟨h.1,_,?_,h.2⟩;rw[Act.put_defers,pC _ v undef m]
    case enter f args=>
     refine se h λe q l=>?_;cases e with
     | returned u=>exact⟨l.1,_,pC a v u m,l.2⟩
     | panicked c=>exact l.elim
     | outgrown=>exact l
    case row row args=>exact Rows.mono h λu q l=>⟨l.1,_,pC a v u m,l.2⟩
  | halt x w'=>
    cases x <;> simp only[Oper.upon] at h⊢
    case panic u=>exact h.elim
 rename_i s;simp only[s] at h;exact⟨h.1,_,pC a v undef m,h.2⟩
def bL (ops:Array Oper) (i:Nat):Option Tmp:=(ops[i]?).bind (·.dst)
def dK (ops:Array Oper) (vs:Nat->Value):List Nat->Act->Act
 | [],a=>a
 | i::S,a=>dK ops vs S (a.put (bL ops i) (vs i))
def wT {d:Option Tmp} :∀(S:List Nat) (a:Act),(∀i∈S,∀t,d=some t->bL ops i≠some t)->(dK ops vs S a).put d v=dK ops vs S (a.put d v)
 | [],_,_=>rfl
 | i::S,a,h=>by
   simp only[dK];rw[wT S _ λk c=>h k (kj _ c),pC a (vs i) v];intro t b;rintro rfl;exact h i (by simp) t rfl b
def upd (vs:Nat->Value) (j:Nat) (v:Value):Nat->Value:=λi=>if i=j then v else vs i
def pJ {us:Nat->Value}:∀(S:List Nat) (a:Act),(∀i∈S,vs i=us i)->dK ops vs S a=dK ops us S a
 | [],_,_=>rfl
 | i::S,a,h=>by
   simp only[dK];rw[h i (by simp),pJ S _ λk b=>h k (kj _ b)]
def oD {p:Nat->Bool} (d:p j=false):∀(S:List Nat) (a:Act),j∈S->S.Nodup->(∀i∈S,i≠j->∀t,bL ops j=some t->bL ops i≠some t)->
 (dK ops vs (S.filter p) a).put (bL ops j) v=dK ops (upd vs j v) (S.filter λi=>p i||i==j) a
 | [],_,h,_,_=>by cases h
 | i::S,a,hmem,hnd,hd=>by
   rw[t_] at hnd;by_cases c:i=j
   ·subst c;have b:=hnd.1;have e:S.filter (λk=>p k||k==i)=S.filter p:=List.filter_congr λk f=>by
     have:k≠i:=λe=>b (e▸f);simp[this]
    rw[qe (by simp[d]),p6 (by simp),e];simp only[dK];have o:upd vs i v i=v:=by simp[upd]
    rw[o,wT]
    ·refine pJ _ _ λk f=>?_;have:k≠i:=λe=>b (e▸(iJ.1 f).1);simp[upd,this]
    intro k f;have m:=(iJ.1 f).1;exact hd k (by simp[m]) (λe=>b (e▸m))
   have g:j∈S:=by
    rcases jf.1 hmem with h|h
    ·exact absurd h.symm c
    exact h
   have l:∀k∈S,k≠j->∀t,bL ops j=some t->bL ops k≠some t:=λk f=>hd k (by simp[f]);cases n:p i
   ·rw[qe (by simp[n]),qe (by simp[n,c])];exact oD d S a g hnd.2 l
   rw[p6 n,p6 (by simp[n])];simp only[dK];rw[oD d S _ g hnd.2 l];have:upd vs j v i=vs i:=by simp[upd,c]
   rw[this]
def uM {f:Oper} {vs:Nat->Value} (l:ops[j]? = some f) (d:∀cs b,f.op≠.select cs b):∀(S:List Nat),
 (∀i∈S,(∀t,bL ops i=some t->t∉f.looksAt ops)/\∀t,bL ops i=some t->f.dst≠some t)->∀{K:Act->World->Prop} {a:Act} {w:World},xG P ops Q j K a w->
 xG P ops Q j (λe w'=>∃b,e=dK ops vs S b/\K b w') (dK ops vs S a) w
 | [],_,_,_,_,h=>qz (λe w' h=>⟨e,rfl,h⟩) h
 | i::S,hS,K,a,w,h=>by
   have m:=SB (v:=vs i) l d (hS i (by simp)).1 (hS i (by simp)).2 h;have p:=uM (vs:=vs) l d S (λk g=>hS k (by simp[g])) m;exact qz (λe w' ⟨b,o,c,n,g⟩=>⟨c,by subst n;exact o,g⟩) p
def afI (md:Region.Mode) (ops:Array Oper) (head listed:Array Bool) (S:List Nat):Bool:=
 (Region.noSelect ops&&vM md ops listed)&&(S.all λi=>(Region.ready md ops listed).contains i&&head.getD i false&&match ops[i]? with
   | none=>false
   | some oi=>(List.range ops.size).all λj=>j==i||listed.getD j true||match ops[j]? with
     | some oj=>if head.getD j false then oi.apart ops oj&&oj.apart ops oi else waits md ops i ops.size j
     | none=>true)&&decide S.Nodup
def dN:∀(l:List Nat) (a:Array Bool) (k:Nat) (d:Bool),(aS l a).getD k d=if k∈l/\k<a.size then true else a.getD k d
 | [],_,_,_=>by simp[aS]
 | i::l,a,k,d=>by
   simp only[aS];rw[dN l];by_cases b:k=i
   ·subst b;by_cases c:k<a.size
    ·simp[c]
    simp[c]
   have:(a.setIfInBounds i true).getD k d=a.getD k d:=getD_set_ne d (px b);rw[this];simp[b]
def jU:∀(l:List Nat) (a:Array Bool),(aS l a).size=a.size
 | [],_=>rfl
 | i::l,a=>by simp only[aS];rw[jU l];simp
def uN {l l':List Nat} {x y:Array Bool} (n:x.size=y.size) (h:∀k,k<x.size->((k∈l\/x.getD k false=true)↔(k∈l'\/y.getD k false=true))):aS l x=aS l' y:=by
 apply pS;intro k;by_cases c:k<x.size
 ·have g:=dN l x k false;have m:=dN l' y k false;have b:k<(aS l x).size:=by rw[jU];exact c
  have a:k<(aS l' y).size:=by rw[jU,<-n];exact c
  rw[rj b,rj a];have f:(aS l x).getD k false=(aS l x)[k]:=by simp[b]
  have e:(aS l' y).getD k false=(aS l' y)[k]:=by simp[a]
  rw[<-f,<-e,g,m];have h:=h k c;have d:k<y.size:=by omega
  simp only[c,d,and_true];by_cases j:k∈l <;> by_cases i:k∈l' <;> simp only[j,i,if_true,if_false,true_or,false_or,true_iff,iff_true] at h⊢
  ·exact congrArg some h.symm
  ·exact congrArg some h
  exact congrArg some (ur.2 h)
 rw[kp (by rw[jU];omega),kp (by rw[jU];omega)]
def TMk (ops:Array Oper) (S:List Nat) (R:Nat->Value->World->Prop) (bk:Value->Nat) (N:Nat) (T:Array Bool->Act->World->Prop):Array Bool->Act->World->Prop:=
 λL a w=>∀vs:Nat->Value,(∀i∈S,R i (vs i) w/\N<=bk (vs i)/\bk (vs i)<w.heap.size)->(∀i∈S,∀k∈S,i≠k->bk (vs i)≠bk (vs k))->T L (dK ops vs S a) w
def cO {x:Array Bool} {k:Nat} (h:x.getD k true=false):x.getD k false=false:=by
 rcases j' k x.size with h'|h'
 ·simp[h'] at h⊢;exact h
 simp[kp h']
def iN {vs:Nat->Value} (c:∀cs b,o.op≠.select cs b):∀(S:List Nat) (a:Act),(∀i∈S,∀t,bL ops i=some t->t∉o.looksAt ops)->
 execOp (dK ops vs S a).eval o=execOp a.eval o/\Region.wanted o (yielded ops (dK ops vs S a).tmps)=Region.wanted o (yielded ops a.tmps)
 | [],_,_=>⟨rfl,rfl⟩
 | i::S,a,h=>by
   obtain⟨f,d⟩:=iN (vs:=vs) c S (a.put (bL ops i) (vs i)) (λk e=>h k (by simp[e]));simp only[dK];rw[f,d,execOp_put o c a _ _ (h i (by simp)),wanted_put o a _ _ (h i (by simp))];exact⟨rfl,rfl⟩
def nA {p:Nat->Bool} (b:p j=false):∀(S:List Nat),j∈S->S.Nodup->(S.filter λi=>!(p i||i==j)).length+1=(S.filter λi=>!p i).length
 | [],h,_=>by cases h
 | i::S,hmem,hnd=>by
   rw[t_] at hnd;by_cases a:i=j
   ·subst a;have e:S.filter (λk=>!(p k||k==i))=S.filter (λk=>!p k):=List.filter_congr λk g=>by
     have:k≠i:=λe=>hnd.1 (e▸g);simp[this]
    rw[qe (by simp),p6 (by simp[b]),e];simp
   have d:j∈S:=by
    rcases jf.1 hmem with h|h
    ·exact absurd h.symm a
    exact h
   have f:=nA b S d hnd.2;cases c:p i
   ·rw[p6 (by simp[c,a]),p6 (by simp[c])];simp only[hU];omega
   rw[qe (by simp[c]),qe (by simp[c])];exact f
def Od (S:List Nat) (R:Nat->Value->World->Prop) (U:Value->Nat) (N:Nat)
 (K7:∀i v w w',Below w.heap.size w w'->R i v w->R i v w') (hs:Region.noSelect ops=true) (ab:S.Nodup)
 (I:∀i∈S,head.getD i false=true) (L0:Array Bool) (al:∀i∈S,L0.getD i true=false)
 (L:∀i∈S,∃s,ops[i]? = some s/\∀j B,ops[j]? = some B->j≠i->L0.getD j true=false->(head.getD j false=true/\s.apart ops B=true/\B.apart ops s=true)\/(head.getD j false=false/\waits md ops i ops.size j=true)) :
 ∀(m n:Nat) (done:Nat->Bool) (vs:Nat->Value) (c:Array Bool) (a:Act) (w:World),m=n+(S.filter λi=>!done i).length->Closed md ops c->
  (∀j,c.getD j true=false->L0.getD j true=false)->
  (∀i∈S,done i=false->i∈Region.ready md ops c/\∀s,ops[i]? = some s->mI P ops (R i) U s a w)->
  (∀i∈S,done i=true->c.getD i false=true/\R i (vs i) w/\N<=U (vs i)/\U (vs i)<w.heap.size)->(∀i∈S,∀k∈S,done i=true->done k=true->i≠k->U (vs i)≠U (vs k))->N<=w.heap.size->
  Hm P md ops head Q (TMk ops S R U N T) n (aS (S.filter λi=>!done i) c) a w->
  QX P md ops head Q T m c (dK ops vs (S.filter done) a) w:=by
 intro m
 induction m with
 | zero=>
   intro n done vs c a w hm M hL X p jV hN H;obtain⟨rfl,hr⟩:n=0/\(S.filter λi=>!done i).length=0:=by omega
   have aa:=im.1 hr;rw[aa] at H;have y:∀i∈S,done i=true:=λi g=>by
    have:=(tB.1 aa) i g;simpa using this
   obtain⟨h1,K⟩:=H w (gO _ _);have hf:S.filter done=S:=qt.2 y;rw[hf];exact⟨h1,K vs (λi g=>(p i g (y i g)).2) (λi g k A=>jV i g k A (y i g) (y k A))⟩
 | succ m ih=>
   intro n done vs c a w hm M hL X p jV hN H;have yx:∀j,j∈Region.ready md ops c->j∉S->j∈Region.ready md ops (aS (S.filter λi=>!done i) c):=by
    intro j G E;rw[mem_ready] at G⊢;obtain⟨h0,o,ho,y⟩:=G;refine⟨?_,o,ho,λe he F=>?_⟩
    ·rw[dN,if_neg (λh=>E (iJ.1 h.1).1)];exact h0
    rw[dN];split
    ·rfl
    exact y e he F
   constructor
   ·
    cases hf:S.filter (λi=>!done i) with
    | cons i l=>
      have g:i∈S.filter (λi=>!done i):=by rw[hf];simp
      obtain⟨Z,f⟩:=iJ.1 g;have:=(X i Z (by simpa using f)).1;intro h;rw[h] at this;cases this
    | nil=>
      rw[hf] at hm H;obtain rfl:n=m+1:=by simp at hm;omega
      exact(H w (gO _ _)).1
   intro j G;by_cases E:j∈S
   ·
    have J:done j=false:=by
     cases hd:done j
     ·rfl
     have h1:=(p j E hd).1;have K:=cO (mem_ready.1 G).1;rw[h1] at K;cases K
    refine⟨I j E,?_⟩;obtain⟨B,z,VN⟩:=L j E;have af:=(X j E J).2 B z;have zP:bL ops j=B.dst:=by simp[bL,z]
    have V:∀i∈S,i≠j->(∀t,bL ops i=some t->t∉B.looksAt ops)/\(∀t,bL ops j=some t->bL ops i≠some t):=by
     intro i g u;obtain⟨s,q,_⟩:=L i g;have VO:bL ops i=s.dst:=by simp[bL,q]
     rcases VN i s q u (al i g) with⟨_,h,_⟩|⟨h,_⟩
     ·obtain⟨_,K,h3⟩:=sf h;rw[VO,zP];exact⟨h3,K⟩
     rw[I i g] at h;cases h
    have ae:=iN (vs:=vs) (lj hs j B · · z) (S.filter done) a (λi g=>(V i (iJ.1 g).1 (λe=>by have h:=(iJ.1 g).2;rw[e,J] at h;cases h)).1);refine mI.xG z (af.same ae.1 ae.2) λv W' F hR h1 K=>?_;rw[<-zP,oD J S a E ab (λi g u=>(V i g u).2)];have C:j<c.size:=by
     have h0:=(mem_ready.1 G).1;rcases j' j c.size with h'|h'
     ·exact h'
     simp[kp h'] at h0
    have VP:upd vs j v j=v:=by simp[upd]
    have Jd:∀i,i≠j->upd vs j v i=vs i:=λi g=>by simp[upd,g]
    refine ih n (λi=>done i||i==j) (upd vs j v) (c.setIfInBounds j true) a W' (by have:=nA J S E ab;omega) (M.step G) ?_ ?_ ?_ ?_ (gS hN F.size) ?_
    ·intro k A;by_cases r:j=k
     ·subst r;simp[C] at A
     rw[getD_set_ne true r] at A;exact hL k A
    ·intro i g f;simp only[sy,beq_eq_false_iff_ne] at f;obtain⟨Y,g2⟩:=X i g f.1;exact⟨ready_mono Y f.2,λs q=>(g2 s q).mono F⟩
    ·intro i g f;by_cases u:i=j
     ·subst u;rw[VP];exact⟨by simp[C],hR,gS hN h1,K⟩
     simp only[lR,beq_iff_eq,u,or_false] at f;rw[Jd i u];obtain⟨Y,g2,g3,g4⟩:=p i g f;exact⟨getD_set_true Y,K7 _ _ _ _ F g2,g3,j9 g4 F.size⟩
    ·intro i g k A f O ad;by_cases u:i=j
     ·subst u;have ac:k≠i:=px ad;simp only[lR,beq_iff_eq,ac,or_false] at O;rw[VP,Jd k ac];have:=(p k A O).2.2.2;omega
     simp only[lR,beq_iff_eq,u,or_false] at f;rw[Jd i u];by_cases r:k=j
     ·subst r;rw[VP];have:=(p i g f).2.2.2;omega
     simp only[lR,beq_iff_eq,r,or_false] at O;rw[Jd k r];exact jV i g k A f O ad
    have e:aS (S.filter λi=>!(done i||i==j)) (c.setIfInBounds j true)=aS (S.filter λi=>!done i) c:=by
     refine uN (by simp) λk A=>?_;simp only[wv] at A;simp only[iJ];by_cases r:k=j
     ·subst r;simp[A,E,J]
     rw[getD_set_ne false (px r)];simp[r]
    rw[e];exact aba F H
   ·
    have D:=(mem_ready.1 G).1;have am:∀d,(aS (S.filter λi=>!done i) c).getD j d=c.getD j d:=λd=>by
     rw[dN,if_neg (λh=>E (iJ.1 h.1).1)]
    cases n with
    | zero=>
      exfalso;obtain⟨_,B,z,y⟩:=mem_ready.1 G;have hH:=(H w (gO _ _)).1;have Ye:head.getD j false=false:=by
       cases hh:head.getD j false
       ·rfl
       have:=jH hH hh;rw[am,cO D] at this;cases this
      obtain⟨i,g⟩:∃i,i∈S.filter λi=>!done i:=by
       cases hf:S.filter (λi=>!done i) with
       | nil=>rw[hf] at hm;simp at hm
       | cons i l=>exact⟨i,by simp⟩
      obtain⟨Z,f⟩:=iJ.1 g;have ai:done i=false:=by simpa using f
      obtain⟨s,q,W⟩:=L i Z;have u:j≠i:=λe=>E (e▸Z);rcases W j B z u (hL j D) with⟨h,_⟩|⟨_,h⟩
      ·rw[Ye] at h;cases h
      have an:=cO (mem_ready.1 (X i Z ai).1).1;exact lh M an _ j B z h y
    | succ n=>
      obtain⟨Ye,aj⟩:=(H w (gO _ _)).2 j (yx j G E);refine⟨Ye,?_⟩;obtain⟨_,B,z,_⟩:=mem_ready.1 G;have V:∀i∈S,(∀t,bL ops i=some t->t∉B.looksAt ops)/\(∀t,bL ops i=some t->B.dst≠some t)/\∀s,ops[i]? = some s->∀t,B.dst=some t->t∉s.looksAt ops:=by
       intro i g;obtain⟨s,q,W⟩:=L i g;have VO:bL ops i=s.dst:=by simp[bL,q]
       rcases W j B z (λe=>E (e▸g)) (hL j D) with⟨_,h,_⟩|⟨h,_⟩
       ·obtain⟨Y,g2,g3⟩:=sf h;rw[VO];refine⟨Y,g2,λap yz=>?_⟩;rw[q] at yz;cases yz;exact g3
       rw[Ye] at h;cases h
      have A:=K6 (Φ:=λa w'=>(∀i∈S,done i=false->∀s,ops[i]? = some s->mI P ops (R i) U s a w')/\(∀i∈S,done i=true->R i (vs i) w'/\N<=U (vs i)/\U (vs i)<w'.heap.size)/\N<=w'.heap.size) z
       (λa w' v h=>⟨λi g f s q=>(h.1 i g f s q).same (execOp_put s (lj hs i s · · q) a _ _ ((V i g).2.2 s q)) (wanted_put s a _ _ ((V i g).2.2 s q)),h.2⟩)
       (λa w' d h=>⟨λi g f s q=>(h.1 i g f s q).same rfl rfl,h.2⟩)
       (λa w' ao F h=>⟨λi g f s q=>(h.1 i g f s q).mono F,λi g f=>⟨K7 _ _ _ _ F (h.2.1 i g f).1,(h.2.1 i g f).2.1,j9 (h.2.1 i g f).2.2 F.size⟩,gS h.2.2 F.size⟩)
       aj ⟨λi g f=>(X i g f).2,λi g f=>(p i g f).2,hN⟩
      have hu:=uM (vs:=vs) z (lj hs j B · · z) (S.filter done) (λi g=>⟨(V i (iJ.1 g).1).1,(V i (iJ.1 g).1).2.1⟩) A;refine qz (λa' w' h=>?_) hu;obtain⟨b,rfl,⟨ag,ak,ah⟩,hH⟩:=h;have C:j<c.size:=by
       rcases j' j c.size with h'|h'
       ·exact h'
       simp[kp h'] at D
      refine ih n done vs (c.setIfInBounds j true) b w' (by omega) (M.step G) ?_ ?_ ?_ jV ah ?_
      ·intro k A;by_cases r:j=k
       ·subst r;simp[C] at A
       rw[getD_set_ne true r] at A;exact hL k A
      ·intro i g f;exact⟨ready_mono (X i g f).1 (λe=>E (e▸g)),ag i g f⟩
      ·intro i g f;exact⟨getD_set_true (p i g f).1,ak i g f⟩
      have e:aS (S.filter λi=>!done i) (c.setIfInBounds j true)=(aS (S.filter λi=>!done i) c).setIfInBounds j true:=by
       have:(aS (S.filter λi=>!done i) c).setIfInBounds j true=aS [j] (aS (S.filter λi=>!done i) c):=rfl;rw[this];have K:∀(l:List Nat) (x:Array Bool),aS [j] (aS l x)=aS l (aS [j] x):=by
        intro l
        induction l with
        | nil=>intro x;rfl
        | cons k l ihl=>
          intro x;simp only[aS] at ihl⊢;rw[ihl];by_cases r:k=j
          ·subst r;rfl
          rw[rG _ _ r]
       rw[K];rfl
      rw[e];exact hH
def Oe (S:List Nat) (R:Nat->Value->World->Prop) (x:Value->Nat) (n:Nat) {m:Nat} (E:m=n+S.length)
 (z:afI md ops head b S=true) (D:∀i v w w',Below w.heap.size w w'->R i v w->R i v w') (C:∀i∈S,∀o,nth ops.toList i=some o->mI P ops (R i) x o a w)
 (h:Hm P md ops head Q (TMk ops S R x w.heap.size T) n (aS S b) a w):QX P md ops head Q T m b a w:=by
 simp only[afI,jn,decide_eq_true_eq,lr] at z;obtain⟨⟨⟨F,s⟩,c⟩,u⟩:=z;have A:∀i∈S,i∈Region.ready md ops b:=λi d=>by have:=(c i d).1.1;simpa using this
 have hf:S.filter (λ_=>false)=[]:=by simp
 have B:S.filter (λi=>!(λ_=>false) i)=S:=qt.2 (by simp)
 have:=Od (P:=P) (head:=head) (Q:=Q) (T:=T) S R x w.heap.size D F u (λi d=>(c i d).1.2) b (λi d=>(mem_ready.1 (A i d)).1) (λi d=>by
  have e:=(c i d).2;cases y:ops[i]? with
  | none=>rw[y] at e;cases e
  | some l=>
    rw[y] at e;refine⟨l,rfl,λj G g r q=>?_⟩;simp only[lr,nj] at e;have f:=e j (jt.1 g).1;simp only[g,lR,beq_iff_eq,r,false_or,q,pP] at f
    split at f
    ·rename_i p;simp only[jn] at f;exact .inl ⟨p,f⟩
    rename_i p
    exact .inr ⟨by simpa using p,f⟩) m n (λ_=>false) (λ_=>undef) b a w (by rw[B];exact E) (oL s) (λj g=>g)
  (λi d _=>⟨A i d,λl t=>C i d l (by rw[Gt];simpa using t)⟩) (λi _ h=>by cases h) (λi _ k _ h=>by cases h) (gw _) (by rw[B];exact h)
 rw[hf] at this;exact this
def aa3 {S:List Nat} {R:Nat->Value->World->Prop} {N:Nat} (l:List Nat) 
 (h:∀w',Below w.heap.size w w'->∀vs:Nat->Value,(∀i∈S,R i (vs i) w'/\N<=c (vs i)/\c (vs i)<w'.heap.size)->(∀i∈S,∀k∈S,i≠k->c (vs i)≠c (vs k))->wpList P ops (QP Q) (bu ops l) (dK ops vs S a) w') (d:(kZ head b&&(Region.noSelect ops&&uk md ops l b))=true:=by kernel_rfl) :
 Hm P md ops head Q (TMk ops S R c N (λl' a w=>wpAny P md ops Q l.length l' a w)) 0 b a w:=by
 simp only[jn] at d;exact λw' e=>⟨d.1,λvs f g=>vN _ _ _ _ (iB d.2.1 l b _ w' d.2.2 (h w' e vs f g))⟩
def FJ:∀(l:List Nat) (os:List Oper),l.map (nth ops.toList)=os.map some->bu ops l=os
 | [],[],_=>rfl
 | [],_::_,h=>by cases h
 | _::_,[],h=>by cases h
 | i::l,o::os,h=>by
   simp only[kt,pf] at h;have a:bu ops (i::l)=o::bu ops l:=by simp[bu,fM h.1]
   rw[a,FJ l os h.2]
def uO :∀{l:List Nat} {os:List Oper},l.map (nth ops.toList)=os.map some->wpList P ops Q os a w->wpList P ops Q (bu ops l) a w:=by
 intro l os h b;have e:=FJ l os h;rw[e];exact b
def uP (h:Q .normal a w):QP Q .normal a w:=h
end
end
open Go.RowKit
def FK {w:World} {k:Nat} {c u:Value} {T:TypeId} {a:Nat×Nat} (h:w.heap[k]? = some (.cells #[c] T a)):(w.setCell ⟨k,0,none⟩ u).heap[k]? = some (.cells #[u] T a):=by
 simp only[World.setCell,sr,if_pos,h];simp
def rq:Value->Nat
 | .pointer (some a)=>a.block
 | .slice (some a) _ _=>a.block
 | _=>0
def wU {P:Program} {ops:Array Oper} {o:Oper} {a:Act} {w:World} {T:TypeId} {cs:Array Value} (c:o.guard=none) (b:o.op=.alloc T)
 (d:∀W,(Instr.alloc T true (.tuple #[])).run P W=.ok (.pointer (some ⟨W.heap.size,0,none⟩)) (W.alloc (.cells cs T))) :
 mI P ops (λv W=>∃k,v=.pointer (some ⟨k,0,none⟩)/\W.heap[k]? = some (.cells cs T)) rq o a w:=by
 refine⟨by simp[Region.wanted,c],λW e=>⟨_,_,?_,ah _,⟨W.heap.size,rfl,heap_alloc_new' _ _ _ rfl⟩,gw _,?_⟩⟩
 ·have:execOp a.eval o=(do pure (.value (<-Instr.alloc T true (.tuple #[])))):=by simp only[execOp,b]
  rw[this];show(Sem.bind _ _).run P W=_;rw[tG,d W];rfl
 simp[rq]
def ru {ops:Array Oper} {vs:Nat->Value} {i:Nat} {a:Act} {d:Option Tmp} (h:bL ops i=d):dK ops vs [i] a=a.put d (vs i):=by subst h;rfl
def wV {w w':World} {v:Value} {o:Obj} (b:Below w.heap.size w w') (h:∃k,v=.pointer (some ⟨k,0,none⟩)/\w.heap[k]? = some o):∃k,v=.pointer (some ⟨k,0,none⟩)/\w'.heap[k]? = some o:=by
 obtain⟨k,c,a⟩:=h;exact⟨k,c,(b.block k (block_lt a)).trans a⟩
section
open Go.RowKit
section
variable {P : Program} {ops : Array Oper} {md : Region.Mode} {head : Array Bool}
variable {vs us:Nat->Value} {a:Act} {Q:Exit->Act->World->Prop} {K:Act->World->Prop} {w:World}
def yA :∀(E:List Nat) (e:Nat) (a:Act),dK ops vs (E++[e]) a=(dK ops vs E a).put (bL ops e) (vs e)
 | [],_,_=>rfl
 | i::E,e,a=>by simp only[ld,dK];exact yA E e _
def ry:∀(E:List Nat) (e:Nat) (L:Array Bool),aS (E++[e]) L=(aS E L).setIfInBounds e true
 | [],_,_=>rfl
 | i::E,e,L=>by simp only[ld,aS];exact ry E e _
def uQ (P:Program) (o:Oper) (a:Act) (v:Value):Prop:=∀w,(execOp a.eval o).run P w=.ok (.value v) w/\∀b,((execOp a.eval o).runT P w b).2=b
inductive Early (P:Program) (md:Region.Mode) (ops:Array Oper) (L:Array Bool) (a:Act) (us:Nat->Value):List Nat->Prop
 | nil:Early P md ops L a us []
 | snoc (E:List Nat) (e:Nat) (o:Oper):Early P md ops L a us E->ops[e]? = some o->o.guard=none->e∈Region.ready md ops (aS E L)->uQ P o (dK ops us E a) (us e)->Early P md ops L a us (E++[e])
def K_ {L:Array Bool} {b:Nat->Value} {E:List Nat} (h:Early P md ops L a us E):(∀k∈E,us k=b k)->Early P md ops L a b E:=by
 induction h with
 | nil=>intro _;exact .nil
 | snoc E e o hE ho hg hr hp ih=>
   intro c;refine .snoc E e o (ih λk d=>c k (by simp[d])) ho hg hr ?_;rw[<-c e (by simp),<-pJ E a (λk d=>c k (by simp[d]))];exact hp
def FL {i:Nat} {o:Oper} {v:Value} (d:ops[i]? = some o) (c:o.guard=none) (b:uQ P o a v):wpOp P ops Q i K a w↔K (a.put o.dst v) w:=by
 have e:Region.wanted o (yielded ops a.tmps)=true:=by simp[Region.wanted,c]
 unfold wpOp;simp only[d,e,if_true,Oper.wp,(b w).1,Oper.upon];constructor
 ·rintro (h|⟨h,_⟩)
  ·exact h
  exfalso;have:=h.1;rw[(b w).2] at this;simp at this
 exact .inl
def yB {L:Array Bool} {S:List Nat} (q:Region.noSelect ops=true) :
 ∀{E:List Nat},Early P md ops L a us E->(∀e∈E,∀o,ops[e]? = some o->∀i∈S,(∀t,bL ops i=some t->t∉o.looksAt ops)/\∀t,o.dst=some t->bL ops i≠some t)->
 ∀t,wpAny P md ops Q (t+E.length) L (dK ops vs S a) w->wpAny P md ops Q t (aS E L) (dK ops vs S (dK ops us E a)) w:=by
 intro E l
 induction l with
 | nil=>intro _ t h;exact h
 | snoc E e o l ho hg hr hp ih=>
   intro b t h;have m:=ih (λk p=>b k (by simp[p])) (t+1) (by rw[d'] at h;simp only[hU,ki] at h;rw[vf];exact h);have j:=m.2 e hr;have c:=b e (by simp) o ho;have d:=iN (vs:=vs) (lj q e o · · ho) S (dK ops us E a) (λi f=>(c i f).1);have g:uQ P o (dK ops vs S (dK ops us E a)) (us e):=by unfold uQ;rw[d.1];exact hp
   rw[FL ho hg g] at j;have hd:bL ops e=o.dst:=by simp[bL,ho]
   rw[wT S _ (λi f t n=>(c i f).2 t n)] at j;rw[ry,yA,hd];exact j
def VQ {R:Nat->Value->World->Prop} {m:Value->Nat} (y:∀i v w w',Below w.heap.size w w'->R i v w->R i v w'):∀(c:List Nat) (vs:Nat->Value) (w:World),c.Nodup->
 (∀i∈c,∃p,ops[i]? = some p/\mI P ops (R i) m p a w)->
 ∃(b:Nat->Value) (W:World),Below w.heap.size w W/\(∀k,k∉c->b k=vs k)/\(∀i∈c,R i (b i) W/\w.heap.size<=m (b i)/\m (b i)<W.heap.size)/\∀i∈c,∀k∈c,i≠k->m (b i)≠m (b k)
 | [],vs,w,_,_=>⟨vs,w,gO _ _,λ_ _=>rfl,λ_ h=>absurd h (by simp),λ_ h=>absurd h (by simp)⟩
 | i::c,vs,w,hnd,h=>by
   rw[t_] at hnd;obtain⟨p,E,r⟩:=h i (by simp);obtain⟨v,C,_,d,o,G,A⟩:=r.2 w (gO _ _)
   obtain⟨b,W,s,n,g,hd⟩:=VQ y c (upd vs i v) C hnd.2 (λk n=>by
    obtain⟨D,u,g⟩:=h k (by simp[n])
    exact⟨D,u,g.mono d⟩)
   have x:b i=v:=by rw[n i hnd.1];simp[upd]
   refine⟨b,W,af d s,λk f=>?_,λk e=>?_,λk t l q j=>?_⟩
   ·simp only[jf,not_or] at f;rw[n k f.2];simp[upd,f.1]
   ·rcases jf.1 e with rfl|e
    ·rw[x];exact⟨y _ _ _ _ s o,G,j9 A s.size⟩
    obtain⟨z,F,B⟩:=g k e;exact⟨z,gS d.size F,B⟩
   rcases jf.1 t with e1|hk2 <;> rcases jf.1 q with e2|hl2
   ·exact absurd (e1.trans e2.symm) j
   ·subst e1;rw[x];have:=(g l hl2).2.1;omega
   ·subst e2;rw[x];have:=(g k hk2).2.1;omega
   exact hd k hk2 l hl2 j
def SC (S:List Nat) (R:Nat->Value->World->Prop) (bk:Value->Nat) (N t:Nat) (K7:∀i v w w',Below w.heap.size w w'->R i v w->R i v w') (hs:Region.noSelect ops=true) (ac:S.Nodup)
 (X:List Nat) (L:Array Bool) (a:Act)
 (hX:∀x∈X,x∉S/\∀o,ops[x]? = some o->xE o.op=true/\o.guard=none/\∀i∈S,(∀t,bL ops i=some t->t∉o.looksAt ops)/\(∀t,o.dst=some t->bL ops i≠some t)/\∀C,ops[i]? = some C->∀t,o.dst=some t->t∉C.looksAt ops)
 (hW:∀j u,ops[j]? = some u->j∉S->j∉X->L.getD j true=false->∀i∈S,waits md ops i ops.size j=true)
 (hM:∀i∈S,∃C,ops[i]? = some C/\∀k∈S,k≠i->(∀t,bL ops k=some t->t∉C.looksAt ops)/\∀t,C.dst=some t->bL ops k≠some t) :
 ∀(m:Nat) (done:Nat->Bool) (vs us:Nat->Value) (E:List Nat) (b:Array Bool) (w:World),m=(S.filter λi=>!done i).length+(t-E.length)->Closed md ops b->
  aS (S.filter λi=>!done i) b=aS E L->
  (∀i∈S,done i=false->i∈Region.ready md ops b/\∀C,ops[i]? = some C->mI P ops (R i) bk C a w)->
  (∀i∈S,done i=true->b.getD i false=true/\R i (vs i) w/\N<=bk (vs i)/\bk (vs i)<w.heap.size)->(∀i∈S,∀k∈S,done i=true->done k=true->i≠k->bk (vs i)≠bk (vs k))->N<=w.heap.size->
  Early P md ops L a us E->(∀e∈E,e∈X)->E.length<=t->
  (∀w',Below w.heap.size w w'->TMk ops S R bk N (λL a w=>wpAny P md ops Q t L a w) L a w')->
  wpAny P md ops Q m b (dK ops vs (S.filter done) (dK ops us E a)) w:=by
 have ab:∀{E:List Nat},(∀e∈E,e∈X)->∀e∈E,∀o,ops[e]? = some o->∀i∈S,(∀t,bL ops i=some t->t∉o.looksAt ops)/\∀t,o.dst=some t->bL ops i≠some t:=
  λZ e he o ho i c=>⟨((hX e (Z e he)).2 o ho).2.2 i c |>.1,((hX e (Z e he)).2 o ho).2.2 i c |>.2.1⟩
 intro m
 induction m with
 | zero=>
   intro done vs us E b w hm Y W lX f jV hN Z B Zw hT;have av:(S.filter λi=>!done i).length=0:=by omega
   have ak:=im.1 av;have n:∀i∈S,done i=true:=λi c=>by simpa using (tB.1 ak) i c
   rw[ak] at W;have aa:b=aS E L:=W;rw[aa,qt.2 n];refine yB hs Z (ab B) 0 ?_;rw[show 0+E.length=t from by omega];exact hT w (gO _ _) vs (λi c=>(f i c (n i c)).2) (λi c k y=>jV i c k y (n i c) (n k y))
 | succ m ih=>
   intro done vs us E b w hm Y W lX f jV hN Z B Zw hT;cases VR:S.filter (λi=>!done i) with
   | nil=>
     have n:∀i∈S,done i=true:=λi c=>by simpa using (tB.1 VR) i c
     rw[VR] at W hm;have aa:b=aS E L:=W;rw[aa,qt.2 n];refine yB hs Z (ab B) (m+1) ?_;rw[show m+1+E.length=t from by simp at hm;omega];exact hT w (gO _ _) vs (λi c=>(f i c (n i c)).2) (λi c k y=>jV i c k y (n i c) (n k y))
   | cons i0 ap6=>
     have aH:i0∈S.filter (λi=>!done i):=by rw[VR];simp
     obtain⟨ag,Zx⟩:=iJ.1 aH;have Zx:done i0=false:=by simpa using Zx
     obtain⟨O,W',ae,G,ad,az⟩:=VQ (P:=P) (ops:=ops) (a:=a) K7 (S.filter λi=>!done i) vs w (ac.filter _) (λi c=>by
      obtain⟨M8,d⟩:=iJ.1 c;obtain⟨C,T,_⟩:=hM i M8
      exact⟨C,T,(lX i M8 (by simpa using d)).2 C T⟩)
     have z:wpAny P md ops Q (t-E.length) (aS E L) (dK ops O S (dK ops us E a)) W':=by
      refine yB hs Z (ab B) _ ?_;rw[Nat.sub_add_cancel Zw];refine hT W' ae O (λi c=>?_) (λi c k y I=>?_)
      ·cases d:done i
       ·obtain⟨F,D,g3⟩:=ad i (iJ.2 ⟨c,by simp[d]⟩);exact⟨F,gS hN D,g3⟩
       rw[G i (λh=>by have:=(iJ.1 h).2;simp[d] at this)];obtain⟨_,F,D,g3⟩:=f i c d;exact⟨K7 _ _ _ _ ae F,D,j9 g3 ae.size⟩
      cases d:done i <;> cases p:done k
      ·exact az i (iJ.2 ⟨c,by simp[d]⟩) k (iJ.2 ⟨y,by simp[p]⟩) I
      ·rw[G k (λh=>by have:=(iJ.1 h).2;simp[p] at this)];have:=(ad i (iJ.2 ⟨c,by simp[d]⟩)).2.1;have:=(f k y p).2.2.2;omega
      ·rw[G i (λh=>by have:=(iJ.1 h).2;simp[d] at this)];have:=(ad k (iJ.2 ⟨y,by simp[p]⟩)).2.1;have:=(f i c d).2.2.2;omega
      rw[G i (λh=>by have:=(iJ.1 h).2;simp[d] at this),G k (λh=>by have:=(iJ.1 h).2;simp[p] at this)];exact jV i c k y d p I
     refine⟨λh=>(by have:=(lX i0 ag Zx).1;rw[h] at this;cases this),λj hj=>?_⟩;obtain⟨A,u,g,an⟩:=mem_ready.1 hj;have ah:j<b.size:=by
      rcases j' j b.size with h'|h'
      ·exact h'
      simp[kp h'] at A
     by_cases J:j∈S
     ·
      have H:done j=false:=by
       cases hd:done j
       ·rfl
       have h1:=(f j J hd).1;have M:=cO A;rw[h1] at M;cases M
      have aA:=(lX j J H).2 u g;have zP:bL ops j=u.dst:=by simp[bL,g]
      have qw:∀i∈S,i≠j->(∀t,bL ops i=some t->t∉u.looksAt ops)/\(∀t,bL ops j=some t->bL ops i≠some t):=by
       intro i c q;obtain⟨aI,VS,h⟩:=hM j J;rw[g] at VS;cases VS;rw[zP];exact h i c q
      have ap:=iN (vs:=us) (lj hs j u · · g) E a (λe he t ht=>by
       cases ho:ops[e]? with
       | none=>exact absurd ht (by unfold bL;rw[ho];exact λh=>by cases h)
       | some o=>
         have hd:bL ops e=o.dst:=by simp[bL,ho]
         rw[hd] at ht
         exact(((hX e (B e he)).2 o ho).2.2 j J).2.2 u g t ht)
      have ar:=iN (vs:=vs) (lj hs j u · · g) (S.filter done) (dK ops us E a) (λi c=>(qw i (iJ.1 c).1 (λe=>by have h:=(iJ.1 c).2;rw[e,H] at h;cases h)).1);have au:mI P ops (R j) bk u (dK ops vs (S.filter done) (dK ops us E a)) w:=(aA.same ap.1 ap.2).same ar.1 ar.2;refine wpOp_mono (λ_ _ h=>h.2) (Am (Q:=Q) (mI.xG (Q:=Q) (K:=λa w=>wpAny P md ops Q m (b.setIfInBounds j true) a w) g au λv W1 hb hR h1 M=>?_));rw[<-zP,oD H S _ J ac (λi c q=>(qw i c q).2)];have VP:upd vs j v j=v:=by simp[upd]
      have Jd:∀i,i≠j->upd vs j v i=vs i:=λi c=>by simp[upd,c]
      refine ih (λi=>done i||i==j) (upd vs j v) us E (b.setIfInBounds j true) W1 (by have:=nA H S J ac;omega) (Y.step hj) ?_ ?_ ?_ ?_ (gS hN hb.size) Z B Zw (λw' aw=>hT w' (af hb aw))
      ·rw[<-W];refine uN (by simp) λk y=>?_;simp only[wv] at y;simp only[iJ];by_cases r:k=j
       ·subst r;simp[y,J,H]
       rw[getD_set_ne false (px r)];simp[r]
      ·intro i c d;simp only[sy,beq_eq_false_iff_ne] at d;obtain⟨F,D⟩:=lX i c d.1;exact⟨ready_mono F d.2,λC T=>(D C T).mono hb⟩
      ·intro i c d;by_cases q:i=j
       ·subst q;rw[VP];exact⟨by simp[ah],hR,gS hN h1,M⟩
       simp only[lR,beq_iff_eq,q,or_false] at d;rw[Jd i q];obtain⟨F,D,g3,g4⟩:=f i c d;exact⟨getD_set_true F,K7 _ _ _ _ hb D,g3,j9 g4 hb.size⟩
      intro i c k y d p I;by_cases q:i=j
      ·subst q;have aq:k≠i:=px I;simp only[lR,beq_iff_eq,aq,or_false] at p;rw[VP,Jd k aq];have:=(f k y p).2.2.2;omega
      simp only[lR,beq_iff_eq,q,or_false] at d;rw[Jd i q];by_cases r:k=j
      ·subst r;rw[VP];have:=(f i c d).2.2.2;omega
      simp only[lR,beq_iff_eq,r,or_false] at p;rw[Jd k r];exact jV i c k y d p I
     ·
      have Qr:(aS E L).getD j true=b.getD j true:=by
       rw[<-W,dN,if_neg (λh=>J (iJ.1 h.1).1)]
      have aF:L.getD j true=false:=by
       rw[A,dN] at Qr
       split at Qr
       ·cases Qr
       exact Qr
      have Og:j∈X:=Classical.byContradiction λOg=>by
       have h0:=cO (mem_ready.1 (lX i0 ag Zx).1).1;exact lh Y h0 _ j u g (hW j u g J Og aF i0 ag) an
      obtain⟨_,aE⟩:=hX j Og;obtain⟨aB,hg,VN⟩:=aE u g;have U:j∈Region.ready md ops (aS E L):=by
       rw[mem_ready];refine⟨by rw[Qr];exact A,u,g,λe he hb=>?_⟩;rw[<-W,dN]
       split
       ·rfl
       exact an e he hb
      have aG:=iN (vs:=vs) (lj hs j u · · g) (S.filter done) (dK ops us E a) (λi c=>(VN i (iJ.1 c).1).1);have aj:=iN (vs:=O) (lj hs j u · · g) S (dK ops us E a) (λi c=>(VN i c).1);obtain⟨s,ax⟩:∃s,t-E.length=s+1:=by
       rcases pH (t-E.length) with h|h
       ·exfalso;rw[h] at z;have:=z.1;rw[this] at U;cases U
       exact⟨t-E.length-1,by omega⟩
      rw[ax] at z;have V:=z.2 j U;rcases pure_run (P:=P) (ρ:=(dK ops us E a).eval) aB with⟨v,hv⟩|⟨x,hv⟩
      ·have ai:uQ P u (dK ops us E a) v:=hv;have aC:uQ P u (dK ops vs (S.filter done) (dK ops us E a)) v:=by unfold uQ;rw[aG.1];exact ai
       rw[FL g hg aC];have ay:bL ops j=u.dst:=by simp[bL,g]
       have ao:j∉E:=λh=>by
        have M:(aS E L).getD j true=true:=by
         rw[dN]
         split
         ·rfl
         rename_i hn;rcases j' j L.size with h'|h'
         ·exact absurd ⟨h,h'⟩ hn
         simp[kp h']
        rw[Qr,A] at M;cases M
       have al:dK ops us E a=dK ops (upd us j v) E a:=pJ _ _ λk y=>by
        have:k≠j:=λe=>ao (e▸y);simp[upd,this]
       have aD:Early P md ops L a (upd us j v) E:=K_ Z λk y=>by
        have:k≠j:=λe=>ao (e▸y);simp[upd,this]
       have am:upd us j v j=v:=by simp[upd]
       rw[wT (S.filter done) _ (λi c t ht=>(VN i (iJ.1 c).1).2.1 t ht),al];have e1:((dK ops (upd us j v) E a).put u.dst v)=dK ops (upd us j v) (E++[j]) a:=by rw[yA,ay,am]
       rw[e1];refine ih done vs (upd us j v) (E++[j]) (b.setIfInBounds j true) w (by simp;omega) (Y.step hj) ?_ ?_ ?_ jV hN (.snoc E j u aD g hg U (by rw[am,<-al];exact ai)) ?_ (by simp;omega) hT
       ·rw[ry,<-W];have M:∀(l:List Nat) (x:Array Bool),aS [j] (aS l x)=aS l (aS [j] x):=by
         intro l
         induction l with
         | nil=>intro x;rfl
         | cons k l ihl=>
           intro x;simp only[aS] at ihl⊢;rw[ihl];by_cases r:k=j
           ·subst r;rfl
           rw[rG _ _ r]
        exact(M _ _).symm
       ·intro i c d;obtain⟨F,D⟩:=lX i c d;exact⟨ready_mono F (λe=>J (e▸c)),D⟩
       ·intro i c d;obtain⟨F,D⟩:=f i c d;exact⟨getD_set_true F,D⟩
       intro e he;rcases gR.1 he with h|h
       ·exact B e h
       rw[gC.1 h];exact Og
      exfalso;have hw:Region.wanted u (yielded ops (dK ops O S (dK ops us E a)).tmps)=true:=by simp[Region.wanted,hg]
      unfold wpOp at V;simp only[g,hw,if_true,Oper.wp] at V;rw[aj.1] at V;rcases V with h|⟨h,_⟩
      ·rw[(hv W').1] at h;exact h
      have:=h.1;rw[aj.1,(hv W').2] at this;simp at this
def Qs {j:Nat} (h:xG P ops Q j K a w):wpOp P ops Q j K a w:=wpOp_mono (λ_ _ h=>h.2) (Am h)
def Hq (S:List Nat) (R:Nat->Value->World->Prop) (F:Value->Nat) (N t:Nat) (K7:∀i v w w',Below w.heap.size w w'->R i v w->R i v w') (hs:Region.noSelect ops=true) (V:S.Nodup)
 (X:List Nat)
 (hX:∀x∈X,x∉S/\∀o,ops[x]? = some o->xE o.op=true/\o.guard=none/\∀i∈S,(∀t,bL ops i=some t->t∉o.looksAt ops)/\(∀t,o.dst=some t->bL ops i≠some t)/\∀q,ops[i]? = some q->∀t,o.dst=some t->t∉q.looksAt ops)
 (hW:∀j A,ops[j]? = some A->j∉S->j∉X->head.getD j false=false->∀i∈S,waits md ops i ops.size j=true)
 (hH:∀j A,ops[j]? = some A->j∉S->head.getD j false=true->∀i∈S,(∀t,bL ops i=some t->t∉A.looksAt ops)/\(∀t,bL ops i=some t->A.dst≠some t)/\∀q,ops[i]? = some q->∀t,A.dst=some t->t∉q.looksAt ops)
 (hM:∀i∈S,∃q,ops[i]? = some q/\∀k∈S,k≠i->(∀t,bL ops k=some t->t∉q.looksAt ops)/\∀t,q.dst=some t->bL ops k≠some t) :
 ∀(m n:Nat) (done:Nat->Bool) (vs:Nat->Value) (c:Array Bool) (a:Act) (w:World),m=n+(S.filter λi=>!done i).length->Closed md ops c->
  (∀i∈S,done i=false->i∈Region.ready md ops c/\∀q,ops[i]? = some q->mI P ops (R i) F q a w)->
  (∀i∈S,done i=true->c.getD i false=true/\R i (vs i) w/\N<=F (vs i)/\F (vs i)<w.heap.size)->(∀i∈S,∀k∈S,done i=true->done k=true->i≠k->F (vs i)≠F (vs k))->N<=w.heap.size->
  Hm P md ops head Q (TMk ops S R F N (λL a w=>wpAny P md ops Q t L a w)) n (aS (S.filter λi=>!done i) c) a w->
  wpAny P md ops Q (m+t) c (dK ops vs (S.filter done) a) w:=by
 intro m
 induction m with
 | zero=>
   intro n done vs c a w hm J W p jV hN H;obtain⟨rfl,hr⟩:n=0/\(S.filter λi=>!done i).length=0:=by omega
   have Z:=im.1 hr;rw[Z] at H;have y:∀i∈S,done i=true:=λi g=>by simpa using (tB.1 Z) i g
   obtain⟨_,O⟩:=H w (gO _ _);rw[qt.2 y,kh];exact O vs (λi g=>(p i g (y i g)).2) (λi g k E=>jV i g k E (y i g) (y k E))
 | succ m ih=>
   intro n done vs c a w hm J W p jV hN H;cases n with
   | zero=>
     have ad:=(H w (gO _ _)).1;have:=SC (P:=P) (Q:=Q) S R F N t K7 hs V X (aS (S.filter λi=>!done i) c) a hX
      (λj A G B Og ag=>hW j A G B Og (by
        cases hh:head.getD j false
        ·rfl
        have:=jH ad hh
        rw[cO ag] at this;cases this)) hM (m+1+t) done vs vs [] c w (by simp;omega) J rfl W p jV hN .nil (λe he=>by cases he) (gW _)
      (λw' ae=>(H w' ae).2)
     exact this
   | succ n=>
     have yx:∀j,j∈Region.ready md ops c->j∉S->j∈Region.ready md ops (aS (S.filter λi=>!done i) c):=by
      intro j G B;rw[mem_ready] at G⊢;obtain⟨h0,o,ho,y⟩:=G;refine⟨?_,o,ho,λe he C=>?_⟩
      ·rw[dN,if_neg (λh=>B (iJ.1 h.1).1)];exact h0
      rw[dN];split
      ·rfl
      exact y e he C
     rw[vf];constructor
     ·intro T;cases hf:S.filter (λi=>!done i) with
      | cons i l=>
        have g:i∈S.filter (λi=>!done i):=by rw[hf];simp
        obtain⟨M8,f⟩:=iJ.1 g;have:=(W i M8 (by simpa using f)).1;rw[T] at this;cases this
      | nil=>
        rw[hf] at H;exact absurd T (H w (gO _ _)).1
     intro j G;obtain⟨M,A,z,_⟩:=mem_ready.1 G;have Y:j<c.size:=by
      rcases j' j c.size with h'|h'
      ·exact h'
      simp[kp h'] at M
     by_cases B:j∈S
     ·have D:done j=false:=by
       cases hd:done j
       ·rfl
       have h1:=(p j B hd).1;have O:=cO M;rw[h1] at O;cases O
      have af:=(W j B D).2 A z;have zP:bL ops j=A.dst:=by simp[bL,z]
      have U:∀i∈S,i≠j->(∀t,bL ops i=some t->t∉A.looksAt ops)/\(∀t,bL ops j=some t->bL ops i≠some t):=by
       intro i g r;obtain⟨an,VS,h⟩:=hM j B;rw[z] at VS;cases VS;rw[zP];exact h i g r
      have ac:=iN (vs:=vs) (lj hs j A · · z) (S.filter done) a (λi g=>(U i (iJ.1 g).1 (λe=>by have h:=(iJ.1 g).2;rw[e,D] at h;cases h)).1);refine Qs (mI.xG (Q:=Q) (K:=λa w=>wpAny P md ops Q (m+t) (c.setIfInBounds j true) a w) z (af.same ac.1 ac.2) λv W' C hR h1 O=>?_);rw[<-zP,oD D S a B V (λi g r=>(U i g r).2)];have VP:upd vs j v j=v:=by simp[upd]
      have Jd:∀i,i≠j->upd vs j v i=vs i:=λi g=>by simp[upd,g]
      refine ih (n+1) (λi=>done i||i==j) (upd vs j v) (c.setIfInBounds j true) a W' (by have:=nA D S B V;omega) (J.step G) ?_ ?_ ?_ (gS hN C.size) ?_
      ·intro i g f;simp only[sy,beq_eq_false_iff_ne] at f;obtain⟨g1,g2⟩:=W i g f.1;exact⟨ready_mono g1 f.2,λq u=>(g2 q u).mono C⟩
      ·intro i g f;by_cases r:i=j
       ·subst r;rw[VP];exact⟨by simp[Y],hR,gS hN h1,O⟩
       simp only[lR,beq_iff_eq,r,or_false] at f;rw[Jd i r];obtain⟨g1,g2,g3,g4⟩:=p i g f;exact⟨getD_set_true g1,K7 _ _ _ _ C g2,g3,j9 g4 C.size⟩
      ·intro i g k E f I ab;by_cases r:i=j
       ·subst r;have aa:k≠i:=px ab;simp only[lR,beq_iff_eq,aa,or_false] at I;rw[VP,Jd k aa];have:=(p k E I).2.2.2;omega
       simp only[lR,beq_iff_eq,r,or_false] at f;rw[Jd i r];by_cases s:k=j
       ·subst s;rw[VP];have:=(p i g f).2.2.2;omega
       simp only[lR,beq_iff_eq,s,or_false] at I;rw[Jd k s];exact jV i g k E f I ab
      have e:aS (S.filter λi=>!(done i||i==j)) (c.setIfInBounds j true)=aS (S.filter λi=>!done i) c:=by
       refine uN (by simp) λk E=>?_;simp only[wv] at E;simp only[iJ];by_cases s:k=j
       ·subst s;simp[E,B,D]
       rw[getD_set_ne false (px s)];simp[s]
      rw[e];exact aba (n:=n+1) C H
     obtain⟨Ye,ak⟩:=(H w (gO _ _)).2 j (yx j G B);have U:=hH j A z B Ye;have E:=K6 (Φ:=λa w'=>(∀i∈S,done i=false->∀q,ops[i]? = some q->mI P ops (R i) F q a w')/\(∀i∈S,done i=true->R i (vs i) w'/\N<=F (vs i)/\F (vs i)<w'.heap.size)/\N<=w'.heap.size) z
      (λa w' v h=>⟨λi g f q u=>(h.1 i g f q u).same (execOp_put q (lj hs i q · · u) a _ _ ((U i g).2.2 q u)) (wanted_put q a _ _ ((U i g).2.2 q u)),h.2⟩)
      (λa w' d h=>⟨λi g f q u=>(h.1 i g f q u).same rfl rfl,h.2⟩)
      (λa w' am C h=>⟨λi g f q u=>(h.1 i g f q u).mono C,λi g f=>⟨K7 _ _ _ _ C (h.2.1 i g f).1,(h.2.1 i g f).2.1,j9 (h.2.1 i g f).2.2 C.size⟩,gS h.2.2 C.size⟩)
      ak ⟨λi g f=>(W i g f).2,λi g f=>(p i g f).2,hN⟩
     have hu:=uM (vs:=vs) z (lj hs j A · · z) (S.filter done) (λi g=>⟨(U i (iJ.1 g).1).1,(U i (iJ.1 g).1).2.1⟩) E;refine Qs (qz (λa' w' h=>?_) hu);obtain⟨b,rfl,⟨ah,al,aj⟩,ai⟩:=h;refine ih n done vs (c.setIfInBounds j true) b w' (by omega) (J.step G) ?_ ?_ jV aj ?_
     ·intro i g f;exact⟨ready_mono (W i g f).1 (λe=>B (e▸g)),ah i g f⟩
     ·intro i g f;exact⟨getD_set_true (p i g f).1,al i g f⟩
     have e:aS (S.filter λi=>!done i) (c.setIfInBounds j true)=(aS (S.filter λi=>!done i) c).setIfInBounds j true:=by
      have:(aS (S.filter λi=>!done i) c).setIfInBounds j true=aS [j] (aS (S.filter λi=>!done i) c):=rfl;rw[this];have O:∀(l:List Nat) (x:Array Bool),aS [j] (aS l x)=aS l (aS [j] x):=by
       intro l
       induction l with
       | nil=>intro x;rfl
       | cons k l ihl=>
         intro x;simp only[aS] at ihl⊢;rw[ihl];by_cases s:k=j
         ·subst s;rfl
         rw[rG _ _ s]
      rw[O];rfl
     rw[e];exact ai
def abz (md:Region.Mode) (ops:Array Oper) (head:Array Bool) (S X:List Nat):Bool:=
 Region.noSelect ops&&decide S.Nodup&&(S.all λi=>match ops[i]? with
  | none=>false
  | some oi=>oi.after.all (λe=>!Region.binds md e)&&(List.range ops.size).all λj=>j==i||match ops[j]? with
    | some oj=>if S.contains j||X.contains j||head.getD j false then oi.apart ops oj&&oj.apart ops oi else waits md ops i ops.size j
    | none=>true)&&(X.all λx=>!S.contains x&&match ops[x]? with
  | none=>true
  | some o=>xE o.op&&o.guard.isNone)
def La {id:Nat} {l:List Oper} (head:Array Bool) (S X:List Nat) (R:Nat->Value->World->Prop) (V:Value->Nat) (n t:Nat) (hm:P.follows .mixedOrders=true) (hn:n+S.length+t=l.length)
 (W:abz .any l.toArray head S X=true) (K7:∀i v w w',Below w.heap.size w w'->R i v w->R i v w') (J:∀i∈S,∀o,nth l i=some o->mI P l.toArray (R i) V o a w.drew)
 (h:Hm P .any l.toArray head Q (TMk l.toArray S R V w.drew.heap.size (λl' a w=>wpAny P .any l.toArray Q t l' a w)) n (aS S (Array.replicate l.length false)) a w.drew):(Code.region id l.toArray true).wp P Q a w:=by
 refine wp_region_any hm ?_;simp only[abz,jn,decide_eq_true_eq,lr] at W;obtain⟨⟨⟨hs,M⟩,hS⟩,hX⟩:=W;have q:∀i∈S,∃c,l.toArray[i]? = some c/\(∀e∈c.after,Region.binds .any e=false)/\∀j g,l.toArray[j]? = some g->j≠i->
  (if S.contains j||X.contains j||head.getD j false then c.apart l.toArray g&&g.apart l.toArray c else waits .any l.toArray i l.toArray.size j)=true:=by
  intro i f;have p:=hS i f;cases y:l.toArray[i]? with
  | none=>rw[y] at p;cases p
  | some c=>
    rw[y] at p;simp only[jn,zy,lr,nj] at p;refine⟨c,rfl,λe L=>by simpa using p.1 e L,λj g m u=>?_⟩;have A:=p.2 j (jt.1 m).1;simp only[m,lR,beq_iff_eq,u,false_or] at A;simpa using A
 have d:∀i∈S,∀j g,l.toArray[j]? = some g->j≠i->(j∈S\/j∈X\/head.getD j false=true)->∃c,l.toArray[i]? = some c/\c.apart l.toArray g=true/\g.apart l.toArray c=true:=by
  intro i f j g m u hc;obtain⟨c,b,_,A⟩:=q i f;have z:=A j g m u;rw[if_pos (by rcases hc with h|h|h <;> simp[h])] at z;simp only[jn] at z;exact⟨c,b,z⟩
 have hf:S.filter (λ_=>false)=[]:=by simp
 have Y:S.filter (λi=>!(λ_=>false) i)=S:=qt.2 (by simp);have:=Hq (P:=P) (ops:=l.toArray) (md:=.any) (head:=head) (Q:=Q) S R V w.drew.heap.size t K7 hs M X
  (λx hx=>by
    have U:=hX x hx;refine⟨by simpa using U.1,λo y=>?_⟩;have p:=U.2;rw[y] at p;simp only[jn,Option.isNone_iff_eq_none] at p;refine⟨p.1,p.2,λi f=>?_⟩;have K:x≠i:=λe=>by have:=U.1;simp at this;exact this (e▸f)
    obtain⟨c,b,B,N⟩:=d i f x o y K (.inr (.inl hx));obtain⟨H,F,C⟩:=sf B;obtain⟨b1,b2,b3⟩:=sf N;have hd:bL l.toArray i=c.dst:=by simp[bL,b]
    rw[hd]
    exact⟨H,b2,λs r=>by rw[b] at r;cases r;exact C⟩)
  (λj g m G Og I i f=>by
    obtain⟨c,b,_,A⟩:=q i f;have z:=A j g m (λe=>G (e▸f));rw[if_neg (by simp[G,Og];simpa using I)] at z
    exact z)
  (λj g m G I i f=>by
    obtain⟨c,b,B,N⟩:=d i f j g m (λe=>G (e▸f)) (.inr (.inr I));obtain⟨H,F,C⟩:=sf B;have hd:bL l.toArray i=c.dst:=by simp[bL,b]
    rw[hd]
    exact⟨H,F,λs r=>by rw[b] at r;cases r;exact C⟩)
  (λi f=>by
    obtain⟨c,b,_,_⟩:=q i f;refine⟨c,b,λk hk T=>?_⟩;obtain⟨ok,E,_,_⟩:=q k hk;obtain⟨s,r,B,N⟩:=d i f k ok E T (.inl hk);rw[b] at r;cases r;obtain⟨H,F,C⟩:=sf B;have hd:bL l.toArray k=ok.dst:=by simp[bL,E]
    rw[hd]
    exact⟨C,F⟩)
  (n+S.length) n (λ_=>false) (λ_=>undef) (Array.replicate l.length false) a w.drew (by rw[Y]) (λj o y m=>by simp[Array.getElem?_replicate] at m;split at m <;> simp at m)
  (λi f _=>by
    obtain⟨c,b,D,_⟩:=q i f;have O:i<l.length:=by have:=(jt.1 b).1;simpa using this
    refine⟨?_,λs r=>J i f s (by rw[Gt];simpa using r)⟩;rw[mem_ready]
    exact⟨by simp[O],c,b,λe L Z=>by rw[D e L] at Z;cases Z⟩)
  (λi _ h=>by cases h) (λi _ k _ h=>by cases h) (gw _) (by rw[Y];exact h)
 rw[hf,hn] at this;simpa [dK] using this
end
end
end Go.Cd
namespace Go.Proofs.YtmnimbnojdndmaaGreatDoor
open Go.RowKit Go.Cd _root_.Go.Proofs.Tryz
variable {w:World} {v:Value} {l:List Int}
def bG.nN (h:bG w v (bO l)):∃a cap,v=.slice a l.length cap/\l.length<=cap/\∀i (d:i<l.length),∃b off,a=some ⟨b,off,none⟩/\b<w.heap.size/\w.cell? ⟨b,off+i,none⟩=some (.int .i64 l[i]):=by
 obtain⟨a,cap,k,c,f⟩:=bG.out h;refine⟨a,cap,by rw[k,fq],by rw[fq] at c;exact c,λi d=>?_⟩;obtain⟨b,off,e,j,g⟩:=f i (by rw[fq];exact d);exact⟨b,off,e,j,by rw[g];simp[bO]⟩
def Zy (w:World) (b:Int):Calls prog 126 #[.int .i64 b] w λe w'=>e=.returned (.bool (decide (b<1)))/\w'=w:=by
 go_enter func126,ntmps126;go_wp2;go_ret;exact⟨rfl,rfl⟩
def Hr (h:bG w v (bO l)) (x:l.length<1099511627776) :
 Calls prog 167 #[v,.func (.func 126) #[] #[]] w λe w'=>∃r:Int,e=.returned (.int .i64 r)/\(0<=r↔∃b∈l,b<1)/\Below w.heap.size w w':=by
 obtain⟨I,H,rfl,_,g⟩:=bG.nN h;have E:=aa g;clear h g;go_enter func167,ntmps167;go_wp2_with fail;go_loopw [8] (λi wr=>∃j:Nat,j<=l.length/\i=.int .i64 j/\(∀t (a:t<l.length),t<j->1<=l[t])/\Below w.heap.size w wr)
  (λi _=>l.length-(intOf i).toNat)
 case atStart=>exact⟨0,gW _,rfl,λ_ _ h=>by omega,gO _ _⟩
 case round=>
  obtain⟨j,F,rfl,k,n⟩:=hrel;have y:=aa k;clear k;by_cases q:j<l.length
  ·obtain⟨C,s,rfl,o,m⟩:=E.out j q;have m:=(n.cell (p:=⟨C,s+j,none⟩) o).trans m;have z:=aa (show ∃b∈l,b=l[j] from ⟨_,gx _,rfl⟩);have B:=aa (show ∀t (a:t<l.length),t=j->l[t]=l[j] from λt a e=>by subst e;rfl);generalize l[j]=b at *;go_wp2_with fail;refine(Zy wr b).mono ?_;rintro e G⟨rfl,rfl⟩;by_cases f:b<1
   ·have d:decide (b<1)=true:=decide_eq_true f;rw[d];go_wp2;go_ret;obtain⟨c,D,rfl⟩:=z.out;exact⟨j,rfl,⟨λ_=>⟨c,D,f⟩,λ_=>by omega⟩,n⟩
   have d:decide (b<1)=false:=decide_eq_false f;rw[d];go_wp2;go_roundw
   case rel=>
    refine⟨j+1,by omega,rfl,λt a A=>?_,n⟩;by_cases u:t=j
    ·rw[B.out t a u];exact f
    exact y.out t a (by omega)
   case measure=>simp[intOf];omega
  obtain rfl:j=l.length:=by omega
  go_wp2;go_ret;refine⟨-1,rfl,⟨λh=>by omega,λ⟨b,f,J⟩=>?_⟩,n⟩;obtain⟨t,a,rfl⟩:=rH f;have:=y.out t a a;omega
def Af (h:bG w v (bO l)) (a:l.length<1099511627776) :
 Calls prog 125 #[v,.func (.func 126) #[] #[]] w λe w'=>e=.returned (.bool (l.any λb=>decide (b<1)))/\Below w.heap.size w w':=by
 obtain⟨n,m,j,_,_⟩:=bG.nN h;subst j;have f:=aa (Hr h a);have key:∀r:Int,(0<=r↔∃b∈l,b<1)->decide (0<=r)=l.any λb=>decide (b<1):=λr c=>by
  rw[ur,decide_eq_true_iff,c];simp
 have d:=aa key;clear key h;go_enter func125,ntmps125;go_wp2_with fail;refine f.out.mono ?_;rintro e k⟨r,rfl,c,g⟩;have i:=aa c;clear c;go_wp2;go_ret;exact⟨dV (d.out r i.out),g⟩
def FM (h:bG w v (bO l)) (g:l.length<1099511627776) :
 Calls prog 103 #[v] w λe w'=>∃r,e=.returned r/\w'.ownsRow w.heap.size bB 1 r l.length (bO l)/\Below w.heap.size w w':=by
 rcases h.cases with⟨k,a,cap,rfl,h0⟩|⟨b,off,cap,rfl,o,n,d,m⟩
 ·have i:l=[]:=by simpa [bO] using k
  subst i;cases a with
  | none=>
    refine(Tryz.slices_Clone_int_nil 0 cap w).mono ?_;rintro e w'⟨rfl,rfl⟩;exact⟨_,rfl,iu _ _ _ _,gO _ _⟩
  | some a=>
    refine(Tryz.slices_Clone_int_zero a cap w).mono ?_;rintro e w'⟨r,rfl,c,_,d⟩;exact⟨r,rfl,c,d⟩
 rw[fq] at *;refine(Tryz.slices_Clone_int b off l.length cap l w (gw _) (by omega) (λj f=>?_)).mono ?_
 ·rw[m j (by rw[fq];exact f)];simp[bO,f]
 rintro e w'⟨r,rfl,c,_,d⟩;rw[kO] at c;exact⟨r,rfl,c,d⟩
end Go.Proofs.YtmnimbnojdndmaaGreatDoor
