/- One machine of an NFD counts as its units do, multiplied; no condition. -/
import Derived.Test.YtmnimbnojdndmaaGreatDoorR02
set_option maxRecDepth 100000
set_option maxHeartbeats 6400000
set_option linter.all false
namespace Go.Cd
section
open Go.RowKit
section
variable {P : Program} {ops : Array Oper} {md : Region.Mode} {head : Array Bool}
variable {Q:Exit->Act->World->Prop} {T:Array Bool->Act->World->Prop} {b:Array Bool} {a:Act} {w:World} {v:Value} {o:Oper} {R:Value->World->Prop} {c:Value->Nat} {K:Act->World->Prop} {j:Nat} {vs:Nat->Value}
def Hm (P:Program) (md:Region.Mode) (ops:Array Oper) (head:Array Bool) (Q:Exit->Act->World->Prop) (T:Array Bool->Act->World->Prop):Nat->Array Bool->Act->World->Prop
 | 0,listed,a,w=>∀w',Below w.heap.size w w'->kZ head listed=true/\T listed a w'
 | n+1,listed,a,w=>∀w',Below w.heap.size w w'->Region.ready md ops listed≠[]/\
   ∀i∈Region.ready md ops listed,head.getD i false=true/\xG P ops Q i (Hm P md ops head Q T n (listed.setIfInBounds i true)) a w'
def wS {n:Nat} {e:World} (d:Below w.heap.size w e) (h:Hm P md ops head Q T n b a w):Hm P md ops head Q T n b a e:=by
 cases n with
 | zero=>exact λw' c=>h w' (af d c)
 | succ n=>exact λw' c=>h w' (af d c)
def FH {i:Nat} {x:Oper} (S:ops[i]? = some x) (u:∀(j:Nat) (o:Oper) G b,ops[j]? = some o->o.op≠.select G b)
 (C:head.getD i false=true) :
 ∀(n:Nat) (c:Array Bool) (a:Act) (w:World),Closed md ops c->
  (∀j l,ops[j]? = some l->j≠i->c.getD j true=false->(∀e∈l.after,Region.binds md e=true->e.on≠i)->(head.getD j false=true/\x.apart ops l=true)\/waits md ops i ops.size j=true)->
  i∈Region.ready md ops c->mP P ops w x v a->
  Hm P md ops head Q T n (c.setIfInBounds i true) (a.put x.dst v) w->Hm P md ops head Q T (n+1) c a w:=by
 intro n;have key:∀(c:Array Bool),Closed md ops c->
  (∀j l,ops[j]? = some l->j≠i->c.getD j true=false->(∀e∈l.after,Region.binds md e=true->e.on≠i)->(head.getD j false=true/\x.apart ops l=true)\/waits md ops i ops.size j=true)->
  i∈Region.ready md ops c->∀j,j∈Region.ready md ops c->j≠i->∃l,ops[j]? = some l/\c.getD j true=false/\head.getD j false=true/\x.apart ops l=true:=by
  intro c q d r j z g;obtain⟨f,l,m,t⟩:=mem_ready.1 z;have h0:=(mem_ready.1 r).1;have E:c.getD i false=false:=by
   rcases Nat.lt_or_ge i c.size with h'|h'
   ·simp[h'] at h0⊢;exact h0
   simp[Array.getElem?_eq_none h']
  have D:∀e∈l.after,Region.binds md e=true->e.on≠i:=λe W Y L=>by
   have J:=t e W Y;rw[L,E] at J;cases J
  rcases d j l m g f D with h|h
  ·exact⟨l,m,f,h.1,h.2⟩
  exact absurd t (lh q E _ j l m h)
 induction n with
 | zero=>
   intro c a w q d r I H w' p;refine⟨λh=>(by rw[h] at r;cases r),λj z=>?_⟩;by_cases g:j=i
   ·subst g;exact⟨C,(I.mono p).xG S (wS (n:=0) p H)⟩
   obtain⟨l,m,f,K,_⟩:=key c q d r j z g;have y:=jH (H w (Below.refl _ _)).1 K;rw[getD_set_ne false (Ne.symm g)] at y;rcases Nat.lt_or_ge j c.size with h'|h'
   ·simp[h'] at f y;rw[f] at y;cases y
   simp[Array.getElem?_eq_none h'] at y
 | succ n ih=>
   intro c a w q d r I H w' p;refine⟨λh=>(by rw[h] at r;cases r),λj z=>?_⟩;by_cases g:j=i
   ·subst g;exact⟨C,(I.mono p).xG S (wS (n:=n+1) p H)⟩
   obtain⟨X,J⟩:=(H w' p).2 j (ready_mono z g);obtain⟨l,m,f,_,M⟩:=key c q d r j z g;have y:=YB m M (λG b=>u i x G b S) (λG b=>u j l G b m) (I.mono p) J;have s:∀k B,ops[k]? = some B->k≠i->(c.setIfInBounds j true).getD k true=false->
    (∀e∈B.after,Region.binds md e=true->e.on≠i)->(head.getD k false=true/\x.apart ops B=true)\/waits md ops i ops.size k=true:=λk B V R A N=>by
    refine d k B V R ?_ N;by_cases F:j=k
    ·subst F;exact f
    rw[getD_set_ne true F] at A;exact A
   refine⟨X,qz (λZ O U=>ih (c.setIfInBounds j true) Z O (q.step z) s (ready_mono r (Ne.symm g)) U.1 ?_) y⟩;rw[Array.setIfInBounds_comm _ _ g];exact U.2
def Ho (p:Region.noSelect ops=true):∀(l:List Nat) (n:Nat) (b:Array Bool) (a:Act) (w:World),Closed md ops b->
 (AQ ops l&&tq md ops head l b)=true->wpQuiet P ops (λw'=>∃g:Gr w,w'=g.tw) (λD=>Hm P md ops head Q T n (aS l b) D w) (bu ops l) a->Hm P md ops head Q T (n+l.length) b a w
 | [],n,b,a,w,_,_,h=>h
 | i::l,n,b,a,w,hcl,hB,h=>by
   simp only[tq,AQ,List.all_cons,Bool.and_eq_true] at hB;obtain⟨⟨c,s⟩,⟨⟨q,hf⟩,z⟩,y⟩:=hB;cases e:ops[i]? with
   | none=>rw[e] at c;cases c
   | some o=>
     rw[e] at c;simp only at c;have C:bu ops (i::l)=o::bu ops l:=by simp[bu,e]
     rw[C] at h;have k:(AQ ops l&&tq md ops head l (b.setIfInBounds i true))=true:=by simp only[AQ,Bool.and_eq_true];exact⟨s,y⟩
     simp only[wpQuiet] at h;by_cases m:Region.wanted o (yielded ops a.tmps)=true
     ·rw[if_pos m] at h;obtain⟨v,B,A⟩:=h;refine FH e (Region.noSelect_spec p) z (n+l.length) b a w hcl (oK e hf) (by simpa using q) (.inl ⟨m,λw' t=>?_⟩)
       (Ho p l n _ _ w (hcl.step (by simpa using q)) k A)
      have d:=B w' ⟨⟨w',t⟩,rfl⟩;unfold Oper.quietAt at d;generalize j:(execOp a.eval o).run P w'=r at d;cases r with
      | ok x w1=>
        cases x <;> simp only[Oper.quietUpon] at d
        case value u=>rw[d.1,d.2];exact .inl rfl
        case skip=>rw[d.1,d.2];exact .inr ⟨rfl,rfl⟩
        case enter f args=>exact absurd j (Jf c _ _ _ _)
      | halt x w1=>exact d.elim
     rw[if_neg m] at h;exact FH e (Region.noSelect_spec p) z (n+l.length) b a w hcl (oK e hf) (by simpa using q) (.inr ⟨by simpa using m,rfl⟩)
      (Ho p l n _ _ w (hcl.step (by simpa using q)) k h)
def oC (l:List Nat) (n:Nat) {m:Nat} 
 (h:wpQuiet P ops (λw'=>∃g:Gr w,w'=g.tw) (λd=>Hm P md ops head Q T n (aS l b) d w) (bu ops l) a) (e:m=n+l.length:=by rfl) (c:((Region.noSelect ops&&vM md ops b)&&(AQ ops l&&tq md ops head l b))=true:=by kernel_rfl):Hm P md ops head Q T m b a w:=by
  subst e;rw[Bool.and_eq_true,Bool.and_eq_true] at c;exact Ho c.1.1 l n b a w (oL c.1.2) c.2 h
def pI {n:Nat} (i:Nat) 
 (h:∀w',Below w.heap.size w w'->wpList P ops (QE Q w' (Hm P md ops head Q T n (b.setIfInBounds i true))) [o] a w') (e:(Region.ready md ops b==[i]&&head.getD i false)=true:=by kernel_rfl) (g:nth ops.toList i=some o:=by rfl):Hm P md ops head Q T (n+1) b a w:=by
 simp only[Bool.and_eq_true,beq_iff_eq] at e;obtain⟨f,k⟩:=e;intro w' c;refine⟨by rw[f];simp,λj d=>?_⟩;rw[f] at d;obtain rfl:j=i:=by simpa using d
 exact⟨k,qA (fM g) (h w' c)⟩
def mI (P:Program) (ops:Array Oper) (R:Value->World->Prop) (bk:Value->Nat) (o:Oper) (a:Act) (w:World):Prop:=
 Region.wanted o (yielded ops a.tmps)=true/\∀W,Below w.heap.size w W->∃v b,(execOp a.eval o).run P W=.ok (.value v) b/\Below W.heap.size W b/\R v b/\W.heap.size<=bk v/\bk v<b.heap.size
def mI.mono {b:Value->Nat} {w':World} (h:mI P ops R b o a w) (c:Below w.heap.size w w'):mI P ops R b o a w':=
 ⟨h.1,λW d=>h.2 W (af c d)⟩
def mI.same {b:Act} (h:mI P ops R c o a w) (d:execOp b.eval o=execOp a.eval o)
 (e:Region.wanted o (yielded ops b.tmps)=Region.wanted o (yielded ops a.tmps)):mI P ops R c o b w:=by
 unfold mI at *;rw[d,e];exact h
def mI.xG {i:Nat} (g:ops[i]? = some o) (h:mI P ops R c o a w)
 (e:∀v b,Below w.heap.size w b->R v b->w.heap.size<=c v->c v<b.heap.size->K (a.put o.dst v) b):xG P ops Q i K a w:=by
 obtain⟨j,h⟩:=h;obtain⟨v,b,m,d,l,k,f⟩:=h w (Below.refl _ _);unfold Cd.xG wpOp;simp only[g,j,if_true,Oper.wp,m,Oper.upon];exact .inl ⟨d,e v b d l k f⟩
def K6 {Q:Exit->Act->World->Prop} {Φ:Act->World->Prop} (t:ops[j]? = some o) (g:∀a w v,Φ a w->Φ (a.put o.dst v) w)
 (l:∀a w d,Φ a w->Φ { a with defers:=d::a.defers } w) (b:∀a w w',Below w.heap.size w w'->Φ a w->Φ a w') (h:xG P ops Q j K a w) (i:Φ a w) :
 xG P ops Q j (λq w'=>Φ q w'/\K q w') a w:=by
 unfold xG wpOp at *;simp only[t] at *
 split
 ·rename_i m;simp only[m,if_true] at h;rcases h with h|⟨y,s⟩
  case inr=>exact .inr ⟨y,s⟩
  refine .inl ?_;unfold Oper.wp at *;generalize (execOp a.eval o).run P w=r at *;cases r with
  | ok n w'=>
    cases n <;> simp only[Oper.upon] at h⊢
    case value u=>exact⟨h.1,b _ _ _ h.1 (g _ _ _ i),h.2⟩
    case skip=>exact⟨h.1,b _ _ _ h.1 (g _ _ _ i),h.2⟩
    case defer d=>exact⟨h.1,b _ _ _ h.1 (g _ _ _ (l _ _ _ i)),h.2⟩
    case enter f args=>
     refine Calls.mono h λe p k=>?_;cases e with
     | returned u=>exact⟨k.1,b _ _ _ k.1 (g _ _ _ i),k.2⟩
     | panicked c=>exact k.elim
     | outgrown=>exact k
    case row row args=>exact Rows.mono h λu p k=>⟨k.1,b _ _ _ k.1 (g _ _ _ i),k.2⟩
  | halt x w'=>
    cases x <;> simp only[Oper.upon] at h⊢
    case panic u=>exact h.elim
 rename_i m;simp only[m] at h;exact⟨h.1,g _ _ _ i,h.2⟩
def SB {g:Oper} {d:Option Tmp} (y:ops[j]? = some g) (o:∀z b,g.op≠.select z b)
 (s:∀t,d=some t->t∉g.looksAt ops) (m:∀t,d=some t->g.dst≠some t) (h:xG P ops Q j K a w) :
 xG P ops Q j (λA w'=>∃b,A=b.put d v/\K b w') (a.put d v) w:=by
 unfold xG wpOp at *;simp only[y] at *;rw[wanted_put g a d v s]
 split
 ·rename_i p;simp only[p,if_true] at h;rcases h with h|⟨i,l⟩
  case inr=>exact .inr ⟨by unfold Oper.asks at *;rw[execOp_put g o a d v s];exact i,l⟩
  refine .inl ?_;unfold Oper.wp at *;rw[execOp_put g o a d v s];generalize (execOp a.eval g).run P w=r at *;cases r with
  | ok n w'=>
    cases n <;> simp only[Oper.upon] at h⊢
    case value u=>exact⟨h.1,_,Act.put_comm a v u m,h.2⟩
    case skip=>exact⟨h.1,_,Act.put_comm a v undef m,h.2⟩
    case defer x=>
     refine⟨h.1,_,?_,h.2⟩;rw[Act.put_defers,Act.put_comm _ v undef m]
    case enter f args=>
     refine Calls.mono h λe q k=>?_;cases e with
     | returned u=>exact⟨k.1,_,Act.put_comm a v u m,k.2⟩
     | panicked c=>exact k.elim
     | outgrown=>exact k
    case row row args=>exact Rows.mono h λu q k=>⟨k.1,_,Act.put_comm a v u m,k.2⟩
  | halt x w'=>
    cases x <;> simp only[Oper.upon] at h⊢
    case panic u=>exact h.elim
 rename_i p;simp only[p] at h;exact⟨h.1,_,Act.put_comm a v undef m,h.2⟩
def bL (ops:Array Oper) (i:Nat):Option Tmp:=(ops[i]?).bind (·.dst)
def dK (ops:Array Oper) (vs:Nat->Value):List Nat->Act->Act
 | [],a=>a
 | i::S,a=>dK ops vs S (a.put (bL ops i) (vs i))
def wT {d:Option Tmp} :∀(S:List Nat) (a:Act),(∀i∈S,∀t,d=some t->bL ops i≠some t)->(dK ops vs S a).put d v=dK ops vs S (a.put d v)
 | [],_,_=>rfl
 | i::S,a,h=>by
   simp only[dK];rw[wT S _ λk b=>h k (List.mem_cons_of_mem _ b),Act.put_comm a (vs i) v];intro t c;rintro rfl;exact h i (by simp) t rfl c
def upd (vs:Nat->Value) (j:Nat) (v:Value):Nat->Value:=λi=>if i=j then v else vs i
def pJ {us:Nat->Value}:∀(S:List Nat) (a:Act),(∀i∈S,vs i=us i)->dK ops vs S a=dK ops us S a
 | [],_,_=>rfl
 | i::S,a,h=>by
   simp only[dK];rw[h i (by simp),pJ S _ λk b=>h k (List.mem_cons_of_mem _ b)]
def oD {p:Nat->Bool} (f:p j=false):∀(S:List Nat) (a:Act),j∈S->S.Nodup->(∀i∈S,i≠j->∀t,bL ops j=some t->bL ops i≠some t)->
 (dK ops vs (S.filter p) a).put (bL ops j) v=dK ops (upd vs j v) (S.filter λi=>p i||i==j) a
 | [],_,h,_,_=>by cases h
 | i::S,a,hmem,hnd,hd=>by
   rw[List.nodup_cons] at hnd;by_cases c:i=j
   ·subst c;have b:=hnd.1;have e:S.filter (λk=>p k||k==i)=S.filter p:=List.filter_congr λk d=>by
     have:k≠i:=λe=>b (e▸d);simp[this]
    rw[List.filter_cons_of_neg (by simp[f]),List.filter_cons_of_pos (by simp),e];simp only[dK];have o:upd vs i v i=v:=by simp[upd]
    rw[o,wT]
    ·refine pJ _ _ λk d=>?_;have:k≠i:=λe=>b (e▸(List.mem_filter.1 d).1);simp[upd,this]
    intro k d;have g:=(List.mem_filter.1 d).1;exact hd k (by simp[g]) (λe=>b (e▸g))
   have m:j∈S:=by
    rcases List.mem_cons.1 hmem with h|h
    ·exact absurd h.symm c
    exact h
   have l:∀k∈S,k≠j->∀t,bL ops j=some t->bL ops k≠some t:=λk d=>hd k (by simp[d]);cases n:p i
   ·rw[List.filter_cons_of_neg (by simp[n]),List.filter_cons_of_neg (by simp[n,c])];exact oD f S a m hnd.2 l
   rw[List.filter_cons_of_pos n,List.filter_cons_of_pos (by simp[n])];simp only[dK];rw[oD f S _ m hnd.2 l];have:upd vs j v i=vs i:=by simp[upd,c]
   rw[this]
def uM {f:Oper} {vs:Nat->Value} (l:ops[j]? = some f) (d:∀p b,f.op≠.select p b):∀(S:List Nat),
 (∀i∈S,(∀t,bL ops i=some t->t∉f.looksAt ops)/\∀t,bL ops i=some t->f.dst≠some t)->∀{K:Act->World->Prop} {a:Act} {w:World},xG P ops Q j K a w->
 xG P ops Q j (λe w'=>∃b,e=dK ops vs S b/\K b w') (dK ops vs S a) w
 | [],_,_,_,_,h=>qz (λe w' h=>⟨e,rfl,h⟩) h
 | i::S,hS,K,a,w,h=>by
   have o:=SB (v:=vs i) l d (hS i (by simp)).1 (hS i (by simp)).2 h;have m:=uM (vs:=vs) l d S (λk g=>hS k (by simp[g])) o;exact qz (λe w' ⟨b,n,c,q,g⟩=>⟨c,by subst q;exact n,g⟩) m
def afI (md:Region.Mode) (ops:Array Oper) (head listed:Array Bool) (S:List Nat):Bool:=
 (Region.noSelect ops&&vM md ops listed)&&(S.all λi=>(Region.ready md ops listed).contains i&&head.getD i false&&match ops[i]? with
   | none=>false
   | some oi=>(List.range ops.size).all λj=>j==i||listed.getD j true||match ops[j]? with
     | some oj=>if head.getD j false then oi.apart ops oj&&oj.apart ops oi else waits md ops i ops.size j
     | none=>true)&&decide S.Nodup
def dN:∀(l:List Nat) (a:Array Bool) (k:Nat) (d:Bool),(aS l a).getD k d=if k∈l/\k<a.size then true else a.getD k d
 | [],_,_,_=>by simp[aS]
 | i::l,a,k,d=>by
   simp only[aS];rw[dN l];by_cases b:k=i
   ·subst b;by_cases c:k<a.size
    ·simp[c]
    simp[c]
   have:(a.setIfInBounds i true).getD k d=a.getD k d:=getD_set_ne d (Ne.symm b);rw[this];simp[b]
def jU:∀(l:List Nat) (a:Array Bool),(aS l a).size=a.size
 | [],_=>rfl
 | i::l,a=>by simp only[aS];rw[jU l];simp
def uN {l l':List Nat} {x y:Array Bool} (i:x.size=y.size) (h:∀k,k<x.size->((k∈l\/x.getD k false=true)↔(k∈l'\/y.getD k false=true))):aS l x=aS l' y:=by
 apply Array.ext_getElem?;intro k;by_cases c:k<x.size
 ·have g:=dN l x k false;have m:=dN l' y k false;have b:k<(aS l x).size:=by rw[jU];exact c
  have a:k<(aS l' y).size:=by rw[jU,<-i];exact c
  rw[Array.getElem?_eq_getElem b,Array.getElem?_eq_getElem a];have j:(aS l x).getD k false=(aS l x)[k]:=by simp[b]
  have n:(aS l' y).getD k false=(aS l' y)[k]:=by simp[a]
  rw[<-j,<-n,g,m];have h:=h k c;have d:k<y.size:=by omega
  simp only[c,d,and_true];by_cases e:k∈l <;> by_cases f:k∈l' <;> simp only[e,f,if_true,if_false,true_or,false_or,true_iff,iff_true] at h⊢
  ·exact congrArg some h.symm
  ·exact congrArg some h
  exact congrArg some (Bool.eq_iff_iff.2 h)
 rw[Array.getElem?_eq_none (by rw[jU];omega),Array.getElem?_eq_none (by rw[jU];omega)]
def TMk (ops:Array Oper) (S:List Nat) (R:Nat->Value->World->Prop) (bk:Value->Nat) (N:Nat) (T:Array Bool->Act->World->Prop):Array Bool->Act->World->Prop:=
 λL a w=>∀vs:Nat->Value,(∀i∈S,R i (vs i) w/\N<=bk (vs i)/\bk (vs i)<w.heap.size)->(∀i∈S,∀k∈S,i≠k->bk (vs i)≠bk (vs k))->T L (dK ops vs S a) w
def cO {x:Array Bool} {k:Nat} (h:x.getD k true=false):x.getD k false=false:=by
 rcases Nat.lt_or_ge k x.size with h'|h'
 ·simp[h'] at h⊢;exact h
 simp[Array.getElem?_eq_none h']
def iN {vs:Nat->Value} (c:∀g b,o.op≠.select g b):∀(S:List Nat) (a:Act),(∀i∈S,∀t,bL ops i=some t->t∉o.looksAt ops)->
 execOp (dK ops vs S a).eval o=execOp a.eval o/\Region.wanted o (yielded ops (dK ops vs S a).tmps)=Region.wanted o (yielded ops a.tmps)
 | [],_,_=>⟨rfl,rfl⟩
 | i::S,a,h=>by
   obtain⟨f,d⟩:=iN (vs:=vs) c S (a.put (bL ops i) (vs i)) (λk e=>h k (by simp[e]));simp only[dK];rw[f,d,execOp_put o c a _ _ (h i (by simp)),wanted_put o a _ _ (h i (by simp))];exact⟨rfl,rfl⟩
def nA {p:Nat->Bool} (b:p j=false):∀(S:List Nat),j∈S->S.Nodup->(S.filter λi=>!(p i||i==j)).length+1=(S.filter λi=>!p i).length
 | [],h,_=>by cases h
 | i::S,hmem,hnd=>by
   rw[List.nodup_cons] at hnd;by_cases a:i=j
   ·subst a;have e:S.filter (λk=>!(p k||k==i))=S.filter (λk=>!p k):=List.filter_congr λk f=>by
     have:k≠i:=λe=>hnd.1 (e▸f);simp[this]
    rw[List.filter_cons_of_neg (by simp),List.filter_cons_of_pos (by simp[b]),e];simp
   have d:j∈S:=by
    rcases List.mem_cons.1 hmem with h|h
    ·exact absurd h.symm a
    exact h
   have g:=nA b S d hnd.2;cases c:p i
   ·rw[List.filter_cons_of_pos (by simp[c,a]),List.filter_cons_of_pos (by simp[c])];simp only[List.length_cons];omega
   rw[List.filter_cons_of_neg (by simp[c]),List.filter_cons_of_neg (by simp[c])];exact g
def Od (S:List Nat) (R:Nat->Value->World->Prop) (U:Value->Nat) (N:Nat)
 (K7:∀i v w w',Below w.heap.size w w'->R i v w->R i v w') (hs:Region.noSelect ops=true) (ac:S.Nodup)
 (I:∀i∈S,head.getD i false=true) (L0:Array Bool) (ae:∀i∈S,L0.getD i true=false)
 (L:∀i∈S,∃s,ops[i]? = some s/\∀j B,ops[j]? = some B->j≠i->L0.getD j true=false->(head.getD j false=true/\s.apart ops B=true/\B.apart ops s=true)\/(head.getD j false=false/\waits md ops i ops.size j=true)) :
 ∀(m n:Nat) (done:Nat->Bool) (vs:Nat->Value) (c:Array Bool) (a:Act) (w:World),m=n+(S.filter λi=>!done i).length->Closed md ops c->
  (∀j,c.getD j true=false->L0.getD j true=false)->
  (∀i∈S,done i=false->i∈Region.ready md ops c/\∀s,ops[i]? = some s->mI P ops (R i) U s a w)->
  (∀i∈S,done i=true->c.getD i false=true/\R i (vs i) w/\N<=U (vs i)/\U (vs i)<w.heap.size)->(∀i∈S,∀k∈S,done i=true->done k=true->i≠k->U (vs i)≠U (vs k))->N<=w.heap.size->
  Hm P md ops head Q (TMk ops S R U N T) n (aS (S.filter λi=>!done i) c) a w->
  QX P md ops head Q T m c (dK ops vs (S.filter done) a) w:=by
 intro m
 induction m with
 | zero=>
   intro n done vs c a w hm O hL X p jV hN H;obtain⟨rfl,hr⟩:n=0/\(S.filter λi=>!done i).length=0:=by omega
   have ab:=List.length_eq_zero_iff.1 hr;rw[ab] at H;have y:∀i∈S,done i=true:=λi g=>by
    have:=(List.filter_eq_nil_iff.1 ab) i g;simpa using this
   obtain⟨h1,K⟩:=H w (Below.refl _ _);have hf:S.filter done=S:=List.filter_eq_self.2 y;rw[hf];exact⟨h1,K vs (λi g=>(p i g (y i g)).2) (λi g k A=>jV i g k A (y i g) (y k A))⟩
 | succ m ih=>
   intro n done vs c a w hm O hL X p jV hN H;have yx:∀j,j∈Region.ready md ops c->j∉S->j∈Region.ready md ops (aS (S.filter λi=>!done i) c):=by
    intro j J D;rw[mem_ready] at J⊢;obtain⟨h0,o,ho,y⟩:=J;refine⟨?_,o,ho,λe he F=>?_⟩
    ·rw[dN,if_neg (λh=>D (List.mem_filter.1 h.1).1)];exact h0
    rw[dN];split
    ·rfl
    exact y e he F
   constructor
   ·
    cases hf:S.filter (λi=>!done i) with
    | cons i l=>
      have g:i∈S.filter (λi=>!done i):=by rw[hf];simp
      obtain⟨M8,f⟩:=List.mem_filter.1 g;have:=(X i M8 (by simpa using f)).1;intro h;rw[h] at this;cases this
    | nil=>
      rw[hf] at hm H;obtain rfl:n=m+1:=by simp at hm;omega
      exact(H w (Below.refl _ _)).1
   intro j J;by_cases D:j∈S
   ·
    have G:done j=false:=by
     cases hd:done j
     ·rfl
     have h1:=(p j D hd).1;have K:=cO (mem_ready.1 J).1;rw[h1] at K;cases K
    refine⟨I j D,?_⟩;obtain⟨B,z,VN⟩:=L j D;have ad:=(X j D G).2 B z;have zP:bL ops j=B.dst:=by simp[bL,z]
    have W:∀i∈S,i≠j->(∀t,bL ops i=some t->t∉B.looksAt ops)/\(∀t,bL ops j=some t->bL ops i≠some t):=by
     intro i g u;obtain⟨s,q,_⟩:=L i g;have VO:bL ops i=s.dst:=by simp[bL,q]
     rcases VN i s q u (ae i g) with⟨_,h,_⟩|⟨h,_⟩
     ·obtain⟨_,K,h3⟩:=Oper.apart_spec h;rw[VO,zP];exact⟨h3,K⟩
     rw[I i g] at h;cases h
    have Y:=iN (vs:=vs) (Region.noSelect_spec hs j B · · z) (S.filter done) a (λi g=>(W i (List.mem_filter.1 g).1 (λe=>by have h:=(List.mem_filter.1 g).2;rw[e,G] at h;cases h)).1);refine mI.xG z (ad.same Y.1 Y.2) λv W' F hR h1 K=>?_;rw[<-zP,oD G S a D ac (λi g u=>(W i g u).2)];have C:j<c.size:=by
     have h0:=(mem_ready.1 J).1;rcases Nat.lt_or_ge j c.size with h'|h'
     ·exact h'
     simp[Array.getElem?_eq_none h'] at h0
    have VP:upd vs j v j=v:=by simp[upd]
    have Jd:∀i,i≠j->upd vs j v i=vs i:=λi g=>by simp[upd,g]
    refine ih n (λi=>done i||i==j) (upd vs j v) (c.setIfInBounds j true) a W' (by have:=nA G S D ac;omega) (O.step J) ?_ ?_ ?_ ?_ (Nat.le_trans hN F.size) ?_
    ·intro k A;by_cases r:j=k
     ·subst r;simp[C] at A
     rw[getD_set_ne true r] at A;exact hL k A
    ·intro i g f;simp only[Bool.or_eq_false_iff,beq_eq_false_iff_ne] at f;obtain⟨g1,g2⟩:=X i g f.1;exact⟨ready_mono g1 f.2,λs q=>(g2 s q).mono F⟩
    ·intro i g f;by_cases u:i=j
     ·subst u;rw[VP];exact⟨by simp[C],hR,Nat.le_trans hN h1,K⟩
     simp only[Bool.or_eq_true,beq_iff_eq,u,or_false] at f;rw[Jd i u];obtain⟨g1,g2,g3,g4⟩:=p i g f;exact⟨getD_set_true g1,K7 _ _ _ _ F g2,g3,Nat.lt_of_lt_of_le g4 F.size⟩
    ·intro i g k A f M Z;by_cases u:i=j
     ·subst u;have aa:k≠i:=Ne.symm Z;simp only[Bool.or_eq_true,beq_iff_eq,aa,or_false] at M;rw[VP,Jd k aa];have:=(p k A M).2.2.2;omega
     simp only[Bool.or_eq_true,beq_iff_eq,u,or_false] at f;rw[Jd i u];by_cases r:k=j
     ·subst r;rw[VP];have:=(p i g f).2.2.2;omega
     simp only[Bool.or_eq_true,beq_iff_eq,r,or_false] at M;rw[Jd k r];exact jV i g k A f M Z
    have e:aS (S.filter λi=>!(done i||i==j)) (c.setIfInBounds j true)=aS (S.filter λi=>!done i) c:=by
     refine uN (by simp) λk A=>?_;simp only[Array.size_setIfInBounds] at A;simp only[List.mem_filter];by_cases r:k=j
     ·subst r;simp[A,D,G]
     rw[getD_set_ne false (Ne.symm r)];simp[r]
    rw[e];exact wS F H
   ·
    have E:=(mem_ready.1 J).1;have ag:∀d,(aS (S.filter λi=>!done i) c).getD j d=c.getD j d:=λd=>by
     rw[dN,if_neg (λh=>D (List.mem_filter.1 h.1).1)]
    cases n with
    | zero=>
      exfalso;obtain⟨_,B,z,y⟩:=mem_ready.1 J;have hH:=(H w (Below.refl _ _)).1;have Ye:head.getD j false=false:=by
       cases hh:head.getD j false
       ·rfl
       have:=jH hH hh;rw[ag,cO E] at this;cases this
      obtain⟨i,g⟩:∃i,i∈S.filter λi=>!done i:=by
       cases hf:S.filter (λi=>!done i) with
       | nil=>rw[hf] at hm;simp at hm
       | cons i l=>exact⟨i,by simp⟩
      obtain⟨M8,f⟩:=List.mem_filter.1 g;have ak:done i=false:=by simpa using f
      obtain⟨s,q,V⟩:=L i M8;have u:j≠i:=λe=>D (e▸M8);rcases V j B z u (hL j E) with⟨h,_⟩|⟨_,h⟩
      ·rw[Ye] at h;cases h
      have af:=cO (mem_ready.1 (X i M8 ak).1).1;exact lh O af _ j B z h y
    | succ n=>
      obtain⟨Ye,ah⟩:=(H w (Below.refl _ _)).2 j (yx j J D);refine⟨Ye,?_⟩;obtain⟨_,B,z,_⟩:=mem_ready.1 J;have W:∀i∈S,(∀t,bL ops i=some t->t∉B.looksAt ops)/\(∀t,bL ops i=some t->B.dst≠some t)/\∀s,ops[i]? = some s->∀t,B.dst=some t->t∉s.looksAt ops:=by
       intro i g;obtain⟨s,q,V⟩:=L i g;have VO:bL ops i=s.dst:=by simp[bL,q]
       rcases V j B z (λe=>D (e▸g)) (hL j E) with⟨_,h,_⟩|⟨h,_⟩
       ·obtain⟨g1,g2,g3⟩:=Oper.apart_spec h;rw[VO];refine⟨g1,g2,λam yz=>?_⟩;rw[q] at yz;cases yz;exact g3
       rw[Ye] at h;cases h
      have A:=K6 (Φ:=λa w'=>(∀i∈S,done i=false->∀s,ops[i]? = some s->mI P ops (R i) U s a w')/\(∀i∈S,done i=true->R i (vs i) w'/\N<=U (vs i)/\U (vs i)<w'.heap.size)/\N<=w'.heap.size) z
       (λa w' v h=>⟨λi g f s q=>(h.1 i g f s q).same (execOp_put s (Region.noSelect_spec hs i s · · q) a _ _ ((W i g).2.2 s q)) (wanted_put s a _ _ ((W i g).2.2 s q)),h.2⟩)
       (λa w' d h=>⟨λi g f s q=>(h.1 i g f s q).same rfl rfl,h.2⟩)
       (λa w' an F h=>⟨λi g f s q=>(h.1 i g f s q).mono F,λi g f=>⟨K7 _ _ _ _ F (h.2.1 i g f).1,(h.2.1 i g f).2.1,Nat.lt_of_lt_of_le (h.2.1 i g f).2.2 F.size⟩,Nat.le_trans h.2.2 F.size⟩)
       ah ⟨λi g f=>(X i g f).2,λi g f=>(p i g f).2,hN⟩
      have hu:=uM (vs:=vs) z (Region.noSelect_spec hs j B · · z) (S.filter done) (λi g=>⟨(W i (List.mem_filter.1 g).1).1,(W i (List.mem_filter.1 g).1).2.1⟩) A;refine qz (λa' w' h=>?_) hu;obtain⟨b,rfl,⟨al,aj,ai⟩,hH⟩:=h;have C:j<c.size:=by
       rcases Nat.lt_or_ge j c.size with h'|h'
       ·exact h'
       simp[Array.getElem?_eq_none h'] at E
      refine ih n done vs (c.setIfInBounds j true) b w' (by omega) (O.step J) ?_ ?_ ?_ jV ai ?_
      ·intro k A;by_cases r:j=k
       ·subst r;simp[C] at A
       rw[getD_set_ne true r] at A;exact hL k A
      ·intro i g f;exact⟨ready_mono (X i g f).1 (λe=>D (e▸g)),al i g f⟩
      ·intro i g f;exact⟨getD_set_true (p i g f).1,aj i g f⟩
      have e:aS (S.filter λi=>!done i) (c.setIfInBounds j true)=(aS (S.filter λi=>!done i) c).setIfInBounds j true:=by
       have:(aS (S.filter λi=>!done i) c).setIfInBounds j true=aS [j] (aS (S.filter λi=>!done i) c):=rfl;rw[this];have K:∀(l:List Nat) (x:Array Bool),aS [j] (aS l x)=aS l (aS [j] x):=by
        intro l
        induction l with
        | nil=>intro x;rfl
        | cons k l ihl=>
          intro x;simp only[aS] at ihl⊢;rw[ihl];by_cases r:k=j
          ·subst r;rfl
          rw[Array.setIfInBounds_comm _ _ r]
       rw[K];rfl
      rw[e];exact hH
def Oe (S:List Nat) (R:Nat->Value->World->Prop) (r:Value->Nat) (n:Nat) {m:Nat} (C:m=n+S.length)
 (y:afI md ops head b S=true) (D:∀i v w w',Below w.heap.size w w'->R i v w->R i v w') (E:∀i∈S,∀o,nth ops.toList i=some o->mI P ops (R i) r o a w)
 (h:Hm P md ops head Q (TMk ops S R r w.heap.size T) n (aS S b) a w):QX P md ops head Q T m b a w:=by
 simp only[afI,Bool.and_eq_true,decide_eq_true_eq,List.all_eq_true] at y;obtain⟨⟨⟨F,q⟩,c⟩,s⟩:=y;have A:∀i∈S,i∈Region.ready md ops b:=λi d=>by have:=(c i d).1.1;simpa using this
 have hf:S.filter (λ_=>false)=[]:=by simp
 have z:S.filter (λi=>!(λ_=>false) i)=S:=List.filter_eq_self.2 (by simp)
 have:=Od (P:=P) (head:=head) (Q:=Q) (T:=T) S R r w.heap.size D F s (λi d=>(c i d).1.2) b (λi d=>(mem_ready.1 (A i d)).1) (λi d=>by
  have e:=(c i d).2;cases B:ops[i]? with
  | none=>rw[B] at e;cases e
  | some p=>
    rw[B] at e;refine⟨p,rfl,λj G g u l=>?_⟩;simp only[List.all_eq_true,List.mem_range] at e;have f:=e j (Array.getElem?_eq_some_iff.1 g).1;simp only[g,Bool.or_eq_true,beq_iff_eq,u,false_or,l,Bool.false_eq_true] at f
    split at f
    ·rename_i t;simp only[Bool.and_eq_true] at f;exact .inl ⟨t,f⟩
    rename_i t
    exact .inr ⟨by simpa using t,f⟩) m n (λ_=>false) (λ_=>undef) b a w (by rw[z];exact C) (oL q) (λj g=>g)
  (λi d _=>⟨A i d,λp x=>E i d p (by rw[Gt];simpa using x)⟩) (λi _ h=>by cases h) (λi _ k _ h=>by cases h) (Nat.le_refl _) (by rw[z];exact h)
 rw[hf] at this;exact this
def rf {S:List Nat} {R:Nat->Value->World->Prop} {N:Nat} (l:List Nat) 
 (h:∀w',Below w.heap.size w w'->∀vs:Nat->Value,(∀i∈S,R i (vs i) w'/\N<=c (vs i)/\c (vs i)<w'.heap.size)->(∀i∈S,∀k∈S,i≠k->c (vs i)≠c (vs k))->wpList P ops (QP Q) (bu ops l) (dK ops vs S a) w') (d:(kZ head b&&(Region.noSelect ops&&uk md ops l b))=true:=by kernel_rfl) :
 Hm P md ops head Q (TMk ops S R c N (λl' a w=>wpAny P md ops Q l.length l' a w)) 0 b a w:=by
 simp only[Bool.and_eq_true] at d;exact λw' e=>⟨d.1,λvs g f=>vN _ _ _ _ (iB d.2.1 l b _ w' d.2.2 (h w' e vs g f))⟩
def FJ:∀(l:List Nat) (os:List Oper),l.map (nth ops.toList)=os.map some->bu ops l=os
 | [],[],_=>rfl
 | [],_::_,h=>by cases h
 | _::_,[],h=>by cases h
 | i::l,o::os,h=>by
   simp only[List.map_cons,List.cons.injEq] at h;have a:bu ops (i::l)=o::bu ops l:=by simp[bu,fM h.1]
   rw[a,FJ l os h.2]
def uO :∀{l:List Nat} {os:List Oper},l.map (nth ops.toList)=os.map some->wpList P ops Q os a w->wpList P ops Q (bu ops l) a w:=by
 intro l os h b;have e:=FJ l os h;rw[e];exact b
def uP (h:Q .normal a w):QP Q .normal a w:=h
end
end
open Go.RowKit
def FK {w:World} {k:Nat} {c u:Value} {T:TypeId} {a:Nat×Nat} (h:w.heap[k]? = some (.cells #[c] T a)):(w.setCell ⟨k,0,none⟩ u).heap[k]? = some (.cells #[u] T a):=by
 simp only[World.setCell,Array.getElem?_modify,if_pos,h];simp
def rq:Value->Nat
 | .pointer (some a)=>a.block
 | .slice (some a) _ _=>a.block
 | _=>0
def wU {P:Program} {ops:Array Oper} {o:Oper} {a:Act} {w:World} {T:TypeId} {b:Array Value} (d:o.guard=none) (e:o.op=.alloc T)
 (c:∀W,(Instr.alloc T true (.tuple #[])).run P W=.ok (.pointer (some ⟨W.heap.size,0,none⟩)) (W.alloc (.cells b T))) :
 mI P ops (λv W=>∃k,v=.pointer (some ⟨k,0,none⟩)/\W.heap[k]? = some (.cells b T)) rq o a w:=by
 refine⟨by simp[Region.wanted,d],λW f=>⟨_,_,?_,ah _,⟨W.heap.size,rfl,heap_alloc_new' _ _ _ rfl⟩,Nat.le_refl _,?_⟩⟩
 ·have:execOp a.eval o=(do pure (.value (<-Instr.alloc T true (.tuple #[])))):=by simp only[execOp,e]
  rw[this];show(Sem.bind _ _).run P W=_;rw[Sem.run_bind',c W];rfl
 simp[rq]
def ru {ops:Array Oper} {vs:Nat->Value} {i:Nat} {a:Act} {d:Option Tmp} (h:bL ops i=d):dK ops vs [i] a=a.put d (vs i):=by subst h;rfl
def wV {w w':World} {v:Value} {o:Obj} (b:Below w.heap.size w w') (h:∃k,v=.pointer (some ⟨k,0,none⟩)/\w.heap[k]? = some o):∃k,v=.pointer (some ⟨k,0,none⟩)/\w'.heap[k]? = some o:=by
 obtain⟨k,c,a⟩:=h;exact⟨k,c,(b.block k (block_lt a)).trans a⟩
section
open Go.RowKit
section
variable {P : Program} {ops : Array Oper} {md : Region.Mode} {head : Array Bool}
variable {vs us:Nat->Value} {a:Act} {Q:Exit->Act->World->Prop} {K:Act->World->Prop} {w:World}
def yA :∀(E:List Nat) (e:Nat) (a:Act),dK ops vs (E++[e]) a=(dK ops vs E a).put (bL ops e) (vs e)
 | [],_,_=>rfl
 | i::E,e,a=>by simp only[List.cons_append,dK];exact yA E e _
def ry:∀(E:List Nat) (e:Nat) (L:Array Bool),aS (E++[e]) L=(aS E L).setIfInBounds e true
 | [],_,_=>rfl
 | i::E,e,L=>by simp only[List.cons_append,aS];exact ry E e _
def uQ (P:Program) (o:Oper) (a:Act) (v:Value):Prop:=∀w,(execOp a.eval o).run P w=.ok (.value v) w/\∀b,((execOp a.eval o).runT P w b).2=b
inductive Early (P:Program) (md:Region.Mode) (ops:Array Oper) (L:Array Bool) (a:Act) (us:Nat->Value):List Nat->Prop
 | nil:Early P md ops L a us []
 | snoc (E:List Nat) (e:Nat) (o:Oper):Early P md ops L a us E->ops[e]? = some o->o.guard=none->e∈Region.ready md ops (aS E L)->uQ P o (dK ops us E a) (us e)->Early P md ops L a us (E++[e])
def K_ {L:Array Bool} {b:Nat->Value} {E:List Nat} (h:Early P md ops L a us E):(∀k∈E,us k=b k)->Early P md ops L a b E:=by
 induction h with
 | nil=>intro _;exact .nil
 | snoc E e o hE ho hg hr hp ih=>
   intro d;refine .snoc E e o (ih λk c=>d k (by simp[c])) ho hg hr ?_;rw[<-d e (by simp),<-pJ E a (λk c=>d k (by simp[c]))];exact hp
def FL {i:Nat} {o:Oper} {v:Value} (c:ops[i]? = some o) (d:o.guard=none) (b:uQ P o a v):wpOp P ops Q i K a w↔K (a.put o.dst v) w:=by
 have e:Region.wanted o (yielded ops a.tmps)=true:=by simp[Region.wanted,d]
 unfold wpOp;simp only[c,e,if_true,Oper.wp,(b w).1,Oper.upon];constructor
 ·rintro (h|⟨h,_⟩)
  ·exact h
  exfalso;have:=h.1;rw[(b w).2] at this;simp at this
 exact .inl
def yB {L:Array Bool} {S:List Nat} (p:Region.noSelect ops=true) :
 ∀{E:List Nat},Early P md ops L a us E->(∀e∈E,∀o,ops[e]? = some o->∀i∈S,(∀t,bL ops i=some t->t∉o.looksAt ops)/\∀t,o.dst=some t->bL ops i≠some t)->
 ∀t,wpAny P md ops Q (t+E.length) L (dK ops vs S a) w->wpAny P md ops Q t (aS E L) (dK ops vs S (dK ops us E a)) w:=by
 intro E l
 induction l with
 | nil=>intro _ t h;exact h
 | snoc E e o l ho hg hr hp ih=>
   intro c t h;have q:=ih (λk n=>c k (by simp[n])) (t+1) (by rw[List.length_append] at h;simp only[List.length_cons,List.length_nil] at h;rw[Nat.add_right_comm];exact h);have d:=q.2 e hr;have b:=c e (by simp) o ho;have j:=iN (vs:=vs) (Region.noSelect_spec p e o · · ho) S (dK ops us E a) (λi f=>(b i f).1);have g:uQ P o (dK ops vs S (dK ops us E a)) (us e):=by unfold uQ;rw[j.1];exact hp
   rw[FL ho hg g] at d;have hd:bL ops e=o.dst:=by simp[bL,ho]
   rw[wT S _ (λi f t m=>(b i f).2 t m)] at d;rw[ry,yA,hd];exact d
def VQ {R:Nat->Value->World->Prop} {m:Value->Nat} (y:∀i v w w',Below w.heap.size w w'->R i v w->R i v w'):∀(c:List Nat) (vs:Nat->Value) (w:World),c.Nodup->
 (∀i∈c,∃u,ops[i]? = some u/\mI P ops (R i) m u a w)->
 ∃(b:Nat->Value) (W:World),Below w.heap.size w W/\(∀k,k∉c->b k=vs k)/\(∀i∈c,R i (b i) W/\w.heap.size<=m (b i)/\m (b i)<W.heap.size)/\∀i∈c,∀k∈c,i≠k->m (b i)≠m (b k)
 | [],vs,w,_,_=>⟨vs,w,Below.refl _ _,λ_ _=>rfl,λ_ h=>absurd h (by simp),λ_ h=>absurd h (by simp)⟩
 | i::c,vs,w,hnd,h=>by
   rw[List.nodup_cons] at hnd;obtain⟨u,F,q⟩:=h i (by simp);obtain⟨v,C,_,f,p,E,z⟩:=q.2 w (Below.refl _ _)
   obtain⟨b,W,s,n,g,hd⟩:=VQ y c (upd vs i v) C hnd.2 (λk n=>by
    obtain⟨A,o,g⟩:=h k (by simp[n])
    exact⟨A,o,g.mono f⟩)
   have t:b i=v:=by rw[n i hnd.1];simp[upd]
   refine⟨b,W,af f s,λk d=>?_,λk e=>?_,λk x l r j=>?_⟩
   ·simp only[List.mem_cons,not_or] at d;rw[n k d.2];simp[upd,d.1]
   ·rcases List.mem_cons.1 e with rfl|e
    ·rw[t];exact⟨y _ _ _ _ s p,E,Nat.lt_of_lt_of_le z s.size⟩
    obtain⟨B,G,D⟩:=g k e;exact⟨B,Nat.le_trans f.size G,D⟩
   rcases List.mem_cons.1 x with e1|hk2 <;> rcases List.mem_cons.1 r with e2|hl2
   ·exact absurd (e1.trans e2.symm) j
   ·subst e1;rw[t];have:=(g l hl2).2.1;omega
   ·subst e2;rw[t];have:=(g k hk2).2.1;omega
   exact hd k hk2 l hl2 j
def SC (S:List Nat) (R:Nat->Value->World->Prop) (bk:Value->Nat) (N t:Nat) (K7:∀i v w w',Below w.heap.size w w'->R i v w->R i v w') (hs:Region.noSelect ops=true) (ab:S.Nodup)
 (X:List Nat) (L:Array Bool) (a:Act)
 (hX:∀x∈X,x∉S/\∀o,ops[x]? = some o->xE o.op=true/\o.guard=none/\∀i∈S,(∀t,bL ops i=some t->t∉o.looksAt ops)/\(∀t,o.dst=some t->bL ops i≠some t)/\∀C,ops[i]? = some C->∀t,o.dst=some t->t∉C.looksAt ops)
 (hW:∀j r,ops[j]? = some r->j∉S->j∉X->L.getD j true=false->∀i∈S,waits md ops i ops.size j=true)
 (hM:∀i∈S,∃C,ops[i]? = some C/\∀k∈S,k≠i->(∀t,bL ops k=some t->t∉C.looksAt ops)/\∀t,C.dst=some t->bL ops k≠some t) :
 ∀(m:Nat) (done:Nat->Bool) (vs us:Nat->Value) (E:List Nat) (b:Array Bool) (w:World),m=(S.filter λi=>!done i).length+(t-E.length)->Closed md ops b->
  aS (S.filter λi=>!done i) b=aS E L->
  (∀i∈S,done i=false->i∈Region.ready md ops b/\∀C,ops[i]? = some C->mI P ops (R i) bk C a w)->
  (∀i∈S,done i=true->b.getD i false=true/\R i (vs i) w/\N<=bk (vs i)/\bk (vs i)<w.heap.size)->(∀i∈S,∀k∈S,done i=true->done k=true->i≠k->bk (vs i)≠bk (vs k))->N<=w.heap.size->
  Early P md ops L a us E->(∀e∈E,e∈X)->E.length<=t->
  (∀w',Below w.heap.size w w'->TMk ops S R bk N (λL a w=>wpAny P md ops Q t L a w) L a w')->
  wpAny P md ops Q m b (dK ops vs (S.filter done) (dK ops us E a)) w:=by
 have ac:∀{E:List Nat},(∀e∈E,e∈X)->∀e∈E,∀o,ops[e]? = some o->∀i∈S,(∀t,bL ops i=some t->t∉o.looksAt ops)/\∀t,o.dst=some t->bL ops i≠some t:=
  λT e he o ho i d=>⟨((hX e (T e he)).2 o ho).2.2 i d |>.1,((hX e (T e he)).2 o ho).2.2 i d |>.2.1⟩
 intro m
 induction m with
 | zero=>
   intro done vs us E b w hm V U lX f jV hN T B Zw hT;have ax:(S.filter λi=>!done i).length=0:=by omega
   have ar:=List.length_eq_zero_iff.1 ax;have n:∀i∈S,done i=true:=λi d=>by simpa using (List.filter_eq_nil_iff.1 ar) i d
   rw[ar] at U;have ag:b=aS E L:=U;rw[ag,List.filter_eq_self.2 n];refine yB hs T (ac B) 0 ?_;rw[show 0+E.length=t from by omega];exact hT w (Below.refl _ _) vs (λi d=>(f i d (n i d)).2) (λi d k y=>jV i d k y (n i d) (n k y))
 | succ m ih=>
   intro done vs us E b w hm V U lX f jV hN T B Zw hT;cases VR:S.filter (λi=>!done i) with
   | nil=>
     have n:∀i∈S,done i=true:=λi d=>by simpa using (List.filter_eq_nil_iff.1 VR) i d
     rw[VR] at U hm;have ag:b=aS E L:=U;rw[ag,List.filter_eq_self.2 n];refine yB hs T (ac B) (m+1) ?_;rw[show m+1+E.length=t from by simp at hm;omega];exact hT w (Below.refl _ _) vs (λi d=>(f i d (n i d)).2) (λi d k y=>jV i d k y (n i d) (n k y))
   | cons i0 ap6=>
     have aE:i0∈S.filter (λi=>!done i):=by rw[VR];simp
     obtain⟨aa,Zx⟩:=List.mem_filter.1 aE;have Zx:done i0=false:=by simpa using Zx
     obtain⟨O,W',ae,D,ad,aC⟩:=VQ (P:=P) (ops:=ops) (a:=a) K7 (S.filter λi=>!done i) vs w (ab.filter _) (λi d=>by
      obtain⟨M8,c⟩:=List.mem_filter.1 d;obtain⟨C,W,_⟩:=hM i M8
      exact⟨C,W,(lX i M8 (by simpa using c)).2 C W⟩)
     have z:wpAny P md ops Q (t-E.length) (aS E L) (dK ops O S (dK ops us E a)) W':=by
      refine yB hs T (ac B) _ ?_;rw[Nat.sub_add_cancel Zw];refine hT W' ae O (λi d=>?_) (λi d k y H=>?_)
      ·cases c:done i
       ·obtain⟨I,F,g3⟩:=ad i (List.mem_filter.2 ⟨d,by simp[c]⟩);exact⟨I,Nat.le_trans hN F,g3⟩
       rw[D i (λh=>by have:=(List.mem_filter.1 h).2;simp[c] at this)];obtain⟨_,I,F,g3⟩:=f i d c;exact⟨K7 _ _ _ _ ae I,F,Nat.lt_of_lt_of_le g3 ae.size⟩
      cases c:done i <;> cases p:done k
      ·exact aC i (List.mem_filter.2 ⟨d,by simp[c]⟩) k (List.mem_filter.2 ⟨y,by simp[p]⟩) H
      ·rw[D k (λh=>by have:=(List.mem_filter.1 h).2;simp[p] at this)];have:=(ad i (List.mem_filter.2 ⟨d,by simp[c]⟩)).2.1;have:=(f k y p).2.2.2;omega
      ·rw[D i (λh=>by have:=(List.mem_filter.1 h).2;simp[c] at this)];have:=(ad k (List.mem_filter.2 ⟨y,by simp[p]⟩)).2.1;have:=(f i d c).2.2.2;omega
      rw[D i (λh=>by have:=(List.mem_filter.1 h).2;simp[c] at this),D k (λh=>by have:=(List.mem_filter.1 h).2;simp[p] at this)];exact jV i d k y c p H
     refine⟨λh=>(by have:=(lX i0 aa Zx).1;rw[h] at this;cases this),λj hj=>?_⟩;obtain⟨A,r,g,ao⟩:=mem_ready.1 hj;have al:j<b.size:=by
      rcases Nat.lt_or_ge j b.size with h'|h'
      ·exact h'
      simp[Array.getElem?_eq_none h'] at A
     by_cases J:j∈S
     ·
      have G:done j=false:=by
       cases hd:done j
       ·rfl
       have h1:=(f j J hd).1;have Z:=cO A;rw[h1] at Z;cases Z
      have aA:=(lX j J G).2 r g;have zP:bL ops j=r.dst:=by simp[bL,g]
      have qw:∀i∈S,i≠j->(∀t,bL ops i=some t->t∉r.looksAt ops)/\(∀t,bL ops j=some t->bL ops i≠some t):=by
       intro i d q;obtain⟨aI,VS,h⟩:=hM j J;rw[g] at VS;cases VS;rw[zP];exact h i d q
      have ap:=iN (vs:=us) (Region.noSelect_spec hs j r · · g) E a (λe he t ht=>by
       cases ho:ops[e]? with
       | none=>exact absurd ht (by unfold bL;rw[ho];exact λh=>by cases h)
       | some o=>
         have hd:bL ops e=o.dst:=by simp[bL,ho]
         rw[hd] at ht
         exact(((hX e (B e he)).2 o ho).2.2 j J).2.2 r g t ht)
      have ah:=iN (vs:=vs) (Region.noSelect_spec hs j r · · g) (S.filter done) (dK ops us E a) (λi d=>(qw i (List.mem_filter.1 d).1 (λe=>by have h:=(List.mem_filter.1 d).2;rw[e,G] at h;cases h)).1);have aw:mI P ops (R j) bk r (dK ops vs (S.filter done) (dK ops us E a)) w:=(aA.same ap.1 ap.2).same ah.1 ah.2;refine wpOp_mono (λ_ _ h=>h.2) (Am (Q:=Q) (mI.xG (Q:=Q) (K:=λa w=>wpAny P md ops Q m (b.setIfInBounds j true) a w) g aw λv W1 hb hR h1 Z=>?_));rw[<-zP,oD G S _ J ab (λi d q=>(qw i d q).2)];have VP:upd vs j v j=v:=by simp[upd]
      have Jd:∀i,i≠j->upd vs j v i=vs i:=λi d=>by simp[upd,d]
      refine ih (λi=>done i||i==j) (upd vs j v) us E (b.setIfInBounds j true) W1 (by have:=nA G S J ab;omega) (V.step hj) ?_ ?_ ?_ ?_ (Nat.le_trans hN hb.size) T B Zw (λw' aG=>hT w' (af hb aG))
      ·rw[<-U];refine uN (by simp) λk y=>?_;simp only[Array.size_setIfInBounds] at y;simp only[List.mem_filter];by_cases u:k=j
       ·subst u;simp[y,J,G]
       rw[getD_set_ne false (Ne.symm u)];simp[u]
      ·intro i d c;simp only[Bool.or_eq_false_iff,beq_eq_false_iff_ne] at c;obtain⟨I,F⟩:=lX i d c.1;exact⟨ready_mono I c.2,λC W=>(F C W).mono hb⟩
      ·intro i d c;by_cases q:i=j
       ·subst q;rw[VP];exact⟨by simp[al],hR,Nat.le_trans hN h1,Z⟩
       simp only[Bool.or_eq_true,beq_iff_eq,q,or_false] at c;rw[Jd i q];obtain⟨I,F,g3,g4⟩:=f i d c;exact⟨getD_set_true I,K7 _ _ _ _ hb F,g3,Nat.lt_of_lt_of_le g4 hb.size⟩
      intro i d k y c p H;by_cases q:i=j
      ·subst q;have am:k≠i:=Ne.symm H;simp only[Bool.or_eq_true,beq_iff_eq,am,or_false] at p;rw[VP,Jd k am];have:=(f k y p).2.2.2;omega
      simp only[Bool.or_eq_true,beq_iff_eq,q,or_false] at c;rw[Jd i q];by_cases u:k=j
      ·subst u;rw[VP];have:=(f i d c).2.2.2;omega
      simp only[Bool.or_eq_true,beq_iff_eq,u,or_false] at p;rw[Jd k u];exact jV i d k y c p H
     ·
      have Qr:(aS E L).getD j true=b.getD j true:=by
       rw[<-U,dN,if_neg (λh=>J (List.mem_filter.1 h.1).1)]
      have ay:L.getD j true=false:=by
       rw[A,dN] at Qr
       split at Qr
       ·cases Qr
       exact Qr
      have Og:j∈X:=Classical.byContradiction λOg=>by
       have h0:=cO (mem_ready.1 (lX i0 aa Zx).1).1;exact lh V h0 _ j r g (hW j r g J Og ay i0 aa) ao
      obtain⟨_,aB⟩:=hX j Og;obtain⟨aH,hg,VN⟩:=aB r g;have M:j∈Region.ready md ops (aS E L):=by
       rw[mem_ready];refine⟨by rw[Qr];exact A,r,g,λe he hb=>?_⟩;rw[<-U,dN]
       split
       ·rfl
       exact ao e he hb
      have au:=iN (vs:=vs) (Region.noSelect_spec hs j r · · g) (S.filter done) (dK ops us E a) (λi d=>(VN i (List.mem_filter.1 d).1).1);have ak:=iN (vs:=O) (Region.noSelect_spec hs j r · · g) S (dK ops us E a) (λi d=>(VN i d).1);obtain⟨s,az⟩:∃s,t-E.length=s+1:=by
       rcases Nat.eq_zero_or_pos (t-E.length) with h|h
       ·exfalso;rw[h] at z;have:=z.1;rw[this] at M;cases M
       exact⟨t-E.length-1,by omega⟩
      rw[az] at z;have Y:=z.2 j M;rcases pure_run (P:=P) (ρ:=(dK ops us E a).eval) aH with⟨v,hv⟩|⟨x,hv⟩
      ·have ai:uQ P r (dK ops us E a) v:=hv;have aF:uQ P r (dK ops vs (S.filter done) (dK ops us E a)) v:=by unfold uQ;rw[au.1];exact ai
       rw[FL g hg aF];have aD:bL ops j=r.dst:=by simp[bL,g]
       have aj:j∉E:=λh=>by
        have Z:(aS E L).getD j true=true:=by
         rw[dN]
         split
         ·rfl
         rename_i hn;rcases Nat.lt_or_ge j L.size with h'|h'
         ·exact absurd ⟨h,h'⟩ hn
         simp[Array.getElem?_eq_none h']
        rw[Qr,A] at Z;cases Z
       have aq:dK ops us E a=dK ops (upd us j v) E a:=pJ _ _ λk y=>by
        have:k≠j:=λe=>aj (e▸y);simp[upd,this]
       have av:Early P md ops L a (upd us j v) E:=K_ T λk y=>by
        have:k≠j:=λe=>aj (e▸y);simp[upd,this]
       have an:upd us j v j=v:=by simp[upd]
       rw[wT (S.filter done) _ (λi d t ht=>(VN i (List.mem_filter.1 d).1).2.1 t ht),aq];have e1:((dK ops (upd us j v) E a).put r.dst v)=dK ops (upd us j v) (E++[j]) a:=by rw[yA,aD,an]
       rw[e1];refine ih done vs (upd us j v) (E++[j]) (b.setIfInBounds j true) w (by simp;omega) (V.step hj) ?_ ?_ ?_ jV hN (.snoc E j r av g hg M (by rw[an,<-aq];exact ai)) ?_ (by simp;omega) hT
       ·rw[ry,<-U];have Z:∀(l:List Nat) (x:Array Bool),aS [j] (aS l x)=aS l (aS [j] x):=by
         intro l
         induction l with
         | nil=>intro x;rfl
         | cons k l ihl=>
           intro x;simp only[aS] at ihl⊢;rw[ihl];by_cases u:k=j
           ·subst u;rfl
           rw[Array.setIfInBounds_comm _ _ u]
        exact(Z _ _).symm
       ·intro i d c;obtain⟨I,F⟩:=lX i d c;exact⟨ready_mono I (λe=>J (e▸d)),F⟩
       ·intro i d c;obtain⟨I,F⟩:=f i d c;exact⟨getD_set_true I,F⟩
       intro e he;rcases List.mem_append.1 he with h|h
       ·exact B e h
       rw[List.mem_singleton.1 h];exact Og
      exfalso;have hw:Region.wanted r (yielded ops (dK ops O S (dK ops us E a)).tmps)=true:=by simp[Region.wanted,hg]
      unfold wpOp at Y;simp only[g,hw,if_true,Oper.wp] at Y;rw[ak.1] at Y;rcases Y with h|⟨h,_⟩
      ·rw[(hv W').1] at h;exact h
      have:=h.1;rw[ak.1,(hv W').2] at this;simp at this
def Qs {j:Nat} (h:xG P ops Q j K a w):wpOp P ops Q j K a w:=wpOp_mono (λ_ _ h=>h.2) (Am h)
def Hq (S:List Nat) (R:Nat->Value->World->Prop) (F:Value->Nat) (N t:Nat) (K7:∀i v w w',Below w.heap.size w w'->R i v w->R i v w') (hs:Region.noSelect ops=true) (W:S.Nodup)
 (X:List Nat)
 (hX:∀x∈X,x∉S/\∀o,ops[x]? = some o->xE o.op=true/\o.guard=none/\∀i∈S,(∀t,bL ops i=some t->t∉o.looksAt ops)/\(∀t,o.dst=some t->bL ops i≠some t)/\∀q,ops[i]? = some q->∀t,o.dst=some t->t∉q.looksAt ops)
 (hW:∀j A,ops[j]? = some A->j∉S->j∉X->head.getD j false=false->∀i∈S,waits md ops i ops.size j=true)
 (hH:∀j A,ops[j]? = some A->j∉S->head.getD j false=true->∀i∈S,(∀t,bL ops i=some t->t∉A.looksAt ops)/\(∀t,bL ops i=some t->A.dst≠some t)/\∀q,ops[i]? = some q->∀t,A.dst=some t->t∉q.looksAt ops)
 (hM:∀i∈S,∃q,ops[i]? = some q/\∀k∈S,k≠i->(∀t,bL ops k=some t->t∉q.looksAt ops)/\∀t,q.dst=some t->bL ops k≠some t) :
 ∀(m n:Nat) (done:Nat->Bool) (vs:Nat->Value) (c:Array Bool) (a:Act) (w:World),m=n+(S.filter λi=>!done i).length->Closed md ops c->
  (∀i∈S,done i=false->i∈Region.ready md ops c/\∀q,ops[i]? = some q->mI P ops (R i) F q a w)->
  (∀i∈S,done i=true->c.getD i false=true/\R i (vs i) w/\N<=F (vs i)/\F (vs i)<w.heap.size)->(∀i∈S,∀k∈S,done i=true->done k=true->i≠k->F (vs i)≠F (vs k))->N<=w.heap.size->
  Hm P md ops head Q (TMk ops S R F N (λL a w=>wpAny P md ops Q t L a w)) n (aS (S.filter λi=>!done i) c) a w->
  wpAny P md ops Q (m+t) c (dK ops vs (S.filter done) a) w:=by
 intro m
 induction m with
 | zero=>
   intro n done vs c a w hm I V p jV hN H;obtain⟨rfl,hr⟩:n=0/\(S.filter λi=>!done i).length=0:=by omega
   have ac:=List.length_eq_zero_iff.1 hr;rw[ac] at H;have y:∀i∈S,done i=true:=λi g=>by simpa using (List.filter_eq_nil_iff.1 ac) i g
   obtain⟨_,M⟩:=H w (Below.refl _ _);rw[List.filter_eq_self.2 y,Nat.zero_add];exact M vs (λi g=>(p i g (y i g)).2) (λi g k E=>jV i g k E (y i g) (y k E))
 | succ m ih=>
   intro n done vs c a w hm I V p jV hN H;cases n with
   | zero=>
     have ah:=(H w (Below.refl _ _)).1;have:=SC (P:=P) (Q:=Q) S R F N t K7 hs W X (aS (S.filter λi=>!done i) c) a hX
      (λj A J B Og ae=>hW j A J B Og (by
        cases hh:head.getD j false
        ·rfl
        have:=jH ah hh
        rw[cO ae] at this;cases this)) hM (m+1+t) done vs vs [] c w (by simp;omega) I rfl V p jV hN .nil (λe he=>by cases he) (Nat.zero_le _)
      (λw' af=>(H w' af).2)
     exact this
   | succ n=>
     have yx:∀j,j∈Region.ready md ops c->j∉S->j∈Region.ready md ops (aS (S.filter λi=>!done i) c):=by
      intro j J B;rw[mem_ready] at J⊢;obtain⟨h0,o,ho,y⟩:=J;refine⟨?_,o,ho,λe he C=>?_⟩
      ·rw[dN,if_neg (λh=>B (List.mem_filter.1 h.1).1)];exact h0
      rw[dN];split
      ·rfl
      exact y e he C
     rw[Nat.add_right_comm];constructor
     ·intro T;cases hf:S.filter (λi=>!done i) with
      | cons i l=>
        have g:i∈S.filter (λi=>!done i):=by rw[hf];simp
        obtain⟨M8,f⟩:=List.mem_filter.1 g;have:=(V i M8 (by simpa using f)).1;rw[T] at this;cases this
      | nil=>
        rw[hf] at H;exact absurd T (H w (Below.refl _ _)).1
     intro j J;obtain⟨O,A,z,_⟩:=mem_ready.1 J;have aa:j<c.size:=by
      rcases Nat.lt_or_ge j c.size with h'|h'
      ·exact h'
      simp[Array.getElem?_eq_none h'] at O
     by_cases B:j∈S
     ·have D:done j=false:=by
       cases hd:done j
       ·rfl
       have h1:=(p j B hd).1;have M:=cO O;rw[h1] at M;cases M
      have ad:=(V j B D).2 A z;have zP:bL ops j=A.dst:=by simp[bL,z]
      have U:∀i∈S,i≠j->(∀t,bL ops i=some t->t∉A.looksAt ops)/\(∀t,bL ops j=some t->bL ops i≠some t):=by
       intro i g r;obtain⟨an,VS,h⟩:=hM j B;rw[z] at VS;cases VS;rw[zP];exact h i g r
      have Y:=iN (vs:=vs) (Region.noSelect_spec hs j A · · z) (S.filter done) a (λi g=>(U i (List.mem_filter.1 g).1 (λe=>by have h:=(List.mem_filter.1 g).2;rw[e,D] at h;cases h)).1);refine Qs (mI.xG (Q:=Q) (K:=λa w=>wpAny P md ops Q (m+t) (c.setIfInBounds j true) a w) z (ad.same Y.1 Y.2) λv W' C hR h1 M=>?_);rw[<-zP,oD D S a B W (λi g r=>(U i g r).2)];have VP:upd vs j v j=v:=by simp[upd]
      have Jd:∀i,i≠j->upd vs j v i=vs i:=λi g=>by simp[upd,g]
      refine ih (n+1) (λi=>done i||i==j) (upd vs j v) (c.setIfInBounds j true) a W' (by have:=nA D S B W;omega) (I.step J) ?_ ?_ ?_ (Nat.le_trans hN C.size) ?_
      ·intro i g f;simp only[Bool.or_eq_false_iff,beq_eq_false_iff_ne] at f;obtain⟨g1,g2⟩:=V i g f.1;exact⟨ready_mono g1 f.2,λq u=>(g2 q u).mono C⟩
      ·intro i g f;by_cases r:i=j
       ·subst r;rw[VP];exact⟨by simp[aa],hR,Nat.le_trans hN h1,M⟩
       simp only[Bool.or_eq_true,beq_iff_eq,r,or_false] at f;rw[Jd i r];obtain⟨g1,g2,g3,g4⟩:=p i g f;exact⟨getD_set_true g1,K7 _ _ _ _ C g2,g3,Nat.lt_of_lt_of_le g4 C.size⟩
      ·intro i g k E f G Z;by_cases r:i=j
       ·subst r;have ab:k≠i:=Ne.symm Z;simp only[Bool.or_eq_true,beq_iff_eq,ab,or_false] at G;rw[VP,Jd k ab];have:=(p k E G).2.2.2;omega
       simp only[Bool.or_eq_true,beq_iff_eq,r,or_false] at f;rw[Jd i r];by_cases s:k=j
       ·subst s;rw[VP];have:=(p i g f).2.2.2;omega
       simp only[Bool.or_eq_true,beq_iff_eq,s,or_false] at G;rw[Jd k s];exact jV i g k E f G Z
      have e:aS (S.filter λi=>!(done i||i==j)) (c.setIfInBounds j true)=aS (S.filter λi=>!done i) c:=by
       refine uN (by simp) λk E=>?_;simp only[Array.size_setIfInBounds] at E;simp only[List.mem_filter];by_cases s:k=j
       ·subst s;simp[E,B,D]
       rw[getD_set_ne false (Ne.symm s)];simp[s]
      rw[e];exact wS (n:=n+1) C H
     obtain⟨Ye,ag⟩:=(H w (Below.refl _ _)).2 j (yx j J B);have U:=hH j A z B Ye;have E:=K6 (Φ:=λa w'=>(∀i∈S,done i=false->∀q,ops[i]? = some q->mI P ops (R i) F q a w')/\(∀i∈S,done i=true->R i (vs i) w'/\N<=F (vs i)/\F (vs i)<w'.heap.size)/\N<=w'.heap.size) z
      (λa w' v h=>⟨λi g f q u=>(h.1 i g f q u).same (execOp_put q (Region.noSelect_spec hs i q · · u) a _ _ ((U i g).2.2 q u)) (wanted_put q a _ _ ((U i g).2.2 q u)),h.2⟩)
      (λa w' d h=>⟨λi g f q u=>(h.1 i g f q u).same rfl rfl,h.2⟩)
      (λa w' am C h=>⟨λi g f q u=>(h.1 i g f q u).mono C,λi g f=>⟨K7 _ _ _ _ C (h.2.1 i g f).1,(h.2.1 i g f).2.1,Nat.lt_of_lt_of_le (h.2.1 i g f).2.2 C.size⟩,Nat.le_trans h.2.2 C.size⟩)
      ag ⟨λi g f=>(V i g f).2,λi g f=>(p i g f).2,hN⟩
     have hu:=uM (vs:=vs) z (Region.noSelect_spec hs j A · · z) (S.filter done) (λi g=>⟨(U i (List.mem_filter.1 g).1).1,(U i (List.mem_filter.1 g).1).2.1⟩) E;refine Qs (qz (λa' w' h=>?_) hu);obtain⟨b,rfl,⟨al,ak,aj⟩,ai⟩:=h;refine ih n done vs (c.setIfInBounds j true) b w' (by omega) (I.step J) ?_ ?_ jV aj ?_
     ·intro i g f;exact⟨ready_mono (V i g f).1 (λe=>B (e▸g)),al i g f⟩
     ·intro i g f;exact⟨getD_set_true (p i g f).1,ak i g f⟩
     have e:aS (S.filter λi=>!done i) (c.setIfInBounds j true)=(aS (S.filter λi=>!done i) c).setIfInBounds j true:=by
      have:(aS (S.filter λi=>!done i) c).setIfInBounds j true=aS [j] (aS (S.filter λi=>!done i) c):=rfl;rw[this];have M:∀(l:List Nat) (x:Array Bool),aS [j] (aS l x)=aS l (aS [j] x):=by
       intro l
       induction l with
       | nil=>intro x;rfl
       | cons k l ihl=>
         intro x;simp only[aS] at ihl⊢;rw[ihl];by_cases s:k=j
         ·subst s;rfl
         rw[Array.setIfInBounds_comm _ _ s]
      rw[M];rfl
     rw[e];exact ai
def abz (md:Region.Mode) (ops:Array Oper) (head:Array Bool) (S X:List Nat):Bool:=
 Region.noSelect ops&&decide S.Nodup&&(S.all λi=>match ops[i]? with
  | none=>false
  | some oi=>oi.after.all (λe=>!Region.binds md e)&&(List.range ops.size).all λj=>j==i||match ops[j]? with
    | some oj=>if S.contains j||X.contains j||head.getD j false then oi.apart ops oj&&oj.apart ops oi else waits md ops i ops.size j
    | none=>true)&&(X.all λx=>!S.contains x&&match ops[x]? with
  | none=>true
  | some o=>xE o.op&&o.guard.isNone)
def La {id:Nat} {l:List Oper} (head:Array Bool) (S X:List Nat) (R:Nat->Value->World->Prop) (N:Value->Nat) (n t:Nat) (hm:P.follows .mixedOrders=true) (hn:n+S.length+t=l.length)
 (hB:abz .any l.toArray head S X=true) (K7:∀i v w w',Below w.heap.size w w'->R i v w->R i v w') (J:∀i∈S,∀o,nth l i=some o->mI P l.toArray (R i) N o a w.drew)
 (h:Hm P .any l.toArray head Q (TMk l.toArray S R N w.drew.heap.size (λl' a w=>wpAny P .any l.toArray Q t l' a w)) n (aS S (Array.replicate l.length false)) a w.drew):(Code.region id l.toArray true).wp P Q a w:=by
 refine wp_region_any hm ?_;simp only[abz,Bool.and_eq_true,decide_eq_true_eq,List.all_eq_true] at hB;obtain⟨⟨⟨hs,T⟩,hS⟩,hX⟩:=hB;have q:∀i∈S,∃c,l.toArray[i]? = some c/\(∀e∈c.after,Region.binds .any e=false)/\∀j g,l.toArray[j]? = some g->j≠i->
  (if S.contains j||X.contains j||head.getD j false then c.apart l.toArray g&&g.apart l.toArray c else waits .any l.toArray i l.toArray.size j)=true:=by
  intro i f;have p:=hS i f;cases A:l.toArray[i]? with
  | none=>rw[A] at p;cases p
  | some c=>
    rw[A] at p;simp only[Bool.and_eq_true,Array.all_eq_true_iff_forall_mem,List.all_eq_true,List.mem_range] at p;refine⟨c,rfl,λe K=>by simpa using p.1 e K,λj g m u=>?_⟩;have y:=p.2 j (Array.getElem?_eq_some_iff.1 m).1;simp only[m,Bool.or_eq_true,beq_iff_eq,u,false_or] at y;simpa using y
 have d:∀i∈S,∀j g,l.toArray[j]? = some g->j≠i->(j∈S\/j∈X\/head.getD j false=true)->∃c,l.toArray[i]? = some c/\c.apart l.toArray g=true/\g.apart l.toArray c=true:=by
  intro i f j g m u hc;obtain⟨c,b,_,y⟩:=q i f;have z:=y j g m u;rw[if_pos (by rcases hc with h|h|h <;> simp[h])] at z;simp only[Bool.and_eq_true] at z;exact⟨c,b,z⟩
 have hf:S.filter (λ_=>false)=[]:=by simp
 have Z:S.filter (λi=>!(λ_=>false) i)=S:=List.filter_eq_self.2 (by simp);have:=Hq (P:=P) (ops:=l.toArray) (md:=.any) (head:=head) (Q:=Q) S R N w.drew.heap.size t K7 hs T X
  (λx hx=>by
    have O:=hX x hx;refine⟨by simpa using O.1,λo A=>?_⟩;have p:=O.2;rw[A] at p;simp only[Bool.and_eq_true,Option.isNone_iff_eq_none] at p;refine⟨p.1,p.2,λi f=>?_⟩;have M:x≠i:=λe=>by have:=O.1;simp at this;exact this (e▸f)
    obtain⟨c,b,E,V⟩:=d i f x o A M (.inr (.inl hx));obtain⟨G,H,D⟩:=Oper.apart_spec E;obtain⟨b1,b2,b3⟩:=Oper.apart_spec V;have hd:bL l.toArray i=c.dst:=by simp[bL,b]
    rw[hd]
    exact⟨G,b2,λs r=>by rw[b] at r;cases r;exact D⟩)
  (λj g m F Og U i f=>by
    obtain⟨c,b,_,y⟩:=q i f;have z:=y j g m (λe=>F (e▸f));rw[if_neg (by simp[F,Og];simpa using U)] at z
    exact z)
  (λj g m F U i f=>by
    obtain⟨c,b,E,V⟩:=d i f j g m (λe=>F (e▸f)) (.inr (.inr U));obtain⟨G,H,D⟩:=Oper.apart_spec E;have hd:bL l.toArray i=c.dst:=by simp[bL,b]
    rw[hd]
    exact⟨G,H,λs r=>by rw[b] at r;cases r;exact D⟩)
  (λi f=>by
    obtain⟨c,b,_,_⟩:=q i f;refine⟨c,b,λk W L=>?_⟩;obtain⟨Y,C,_,_⟩:=q k W;obtain⟨s,r,E,V⟩:=d i f k Y C L (.inl W);rw[b] at r;cases r;obtain⟨G,H,D⟩:=Oper.apart_spec E;have hd:bL l.toArray k=Y.dst:=by simp[bL,C]
    rw[hd]
    exact⟨D,H⟩)
  (n+S.length) n (λ_=>false) (λ_=>undef) (Array.replicate l.length false) a w.drew (by rw[Z]) (λj o A m=>by simp[Array.getElem?_replicate] at m;split at m <;> simp at m)
  (λi f _=>by
    obtain⟨c,b,B,_⟩:=q i f;have I:i<l.length:=by have:=(Array.getElem?_eq_some_iff.1 b).1;simpa using this
    refine⟨?_,λs r=>J i f s (by rw[Gt];simpa using r)⟩;rw[mem_ready]
    exact⟨by simp[I],c,b,λe K hb=>by rw[B e K] at hb;cases hb⟩)
  (λi _ h=>by cases h) (λi _ k _ h=>by cases h) (Nat.le_refl _) (by rw[Z];exact h)
 rw[hf,hn] at this;simpa [dK] using this
end
end
end Go.Cd
namespace Go.Proofs.YtmnimbnojdndmaaGreatDoor
open Go.RowKit Go.Cd _root_.Go.Proofs.Tryz
variable {w:World} {v:Value} {l:List Int}
def bG.nN (h:bG w v (bO l)):∃a cap,v=.slice a l.length cap/\l.length<=cap/\∀i (c:i<l.length),∃b off,a=some ⟨b,off,none⟩/\b<w.heap.size/\w.cell? ⟨b,off+i,none⟩=some (.int .i64 l[i]):=by
 obtain⟨a,cap,f,d,k⟩:=bG.out h;refine⟨a,cap,by rw[f,fq],by rw[fq] at d;exact d,λi c=>?_⟩;obtain⟨b,off,j,e,g⟩:=k i (by rw[fq];exact c);exact⟨b,off,j,e,by rw[g];simp[bO]⟩
def Zy (w:World) (b:Int):Calls prog 126 #[.int .i64 b] w λe w'=>e=.returned (.bool (decide (b<1)))/\w'=w:=by
 go_enter func126,ntmps126;go_wp2;go_ret;exact⟨rfl,rfl⟩
def Hr (h:bG w v (bO l)) (y:l.length<1099511627776) :
 Calls prog 167 #[v,.func (.func 126) #[] #[]] w λe w'=>∃r:Int,e=.returned (.int .i64 r)/\(0<=r↔∃b∈l,b<1)/\Below w.heap.size w w':=by
 obtain⟨H,F,rfl,_,k⟩:=bG.nN h;have E:=aa k;clear h k;go_enter func167,ntmps167;go_wp2_with fail;go_loopw [8] (λi wr=>∃j:Nat,j<=l.length/\i=.int .i64 j/\(∀t (a:t<l.length),t<j->1<=l[t])/\Below w.heap.size w wr)
  (λi _=>l.length-(intOf i).toNat)
 case atStart=>exact⟨0,Nat.zero_le _,rfl,λ_ _ h=>by omega,Below.refl _ _⟩
 case round=>
  obtain⟨j,I,rfl,g,n⟩:=hrel;have x:=aa g;clear g;by_cases u:j<l.length
  ·obtain⟨B,o,rfl,q,m⟩:=E.out j u;have m:=(n.cell (p:=⟨B,o+j,none⟩) q).trans m;have A:=aa (show ∃b∈l,b=l[j] from ⟨_,List.getElem_mem _,rfl⟩);have C:=aa (show ∀t (a:t<l.length),t=j->l[t]=l[j] from λt a e=>by subst e;rfl);generalize l[j]=b at *;go_wp2_with fail;refine(Zy wr b).mono ?_;rintro e G⟨rfl,rfl⟩;by_cases f:b<1
   ·have d:decide (b<1)=true:=decide_eq_true f;rw[d];go_wp2;go_ret;obtain⟨c,D,rfl⟩:=A.out;exact⟨j,rfl,⟨λ_=>⟨c,D,f⟩,λ_=>by omega⟩,n⟩
   have d:decide (b<1)=false:=decide_eq_false f;rw[d];go_wp2;go_roundw
   case rel=>
    refine⟨j+1,by omega,rfl,λt a z=>?_,n⟩;by_cases s:t=j
    ·rw[C.out t a s];exact f
    exact x.out t a (by omega)
   case measure=>simp[intOf];omega
  obtain rfl:j=l.length:=by omega
  go_wp2;go_ret;refine⟨-1,rfl,⟨λh=>by omega,λ⟨b,f,J⟩=>?_⟩,n⟩;obtain⟨t,a,rfl⟩:=List.getElem_of_mem f;have:=x.out t a a;omega
def Af (h:bG w v (bO l)) (a:l.length<1099511627776) :
 Calls prog 125 #[v,.func (.func 126) #[] #[]] w λe w'=>e=.returned (.bool (l.any λb=>decide (b<1)))/\Below w.heap.size w w':=by
 obtain⟨n,k,i,_,_⟩:=bG.nN h;subst i;have g:=aa (Hr h a);have key:∀r:Int,(0<=r↔∃b∈l,b<1)->decide (0<=r)=l.any λb=>decide (b<1):=λr c=>by
  rw[Bool.eq_iff_iff,decide_eq_true_iff,c];simp
 have d:=aa key;clear key h;go_enter func125,ntmps125;go_wp2_with fail;refine g.out.mono ?_;rintro e m⟨r,rfl,c,j⟩;have f:=aa c;clear c;go_wp2;go_ret;exact⟨dV (d.out r f.out),j⟩
def FM (h:bG w v (bO l)) (g:l.length<1099511627776) :
 Calls prog 103 #[v] w λe w'=>∃r,e=.returned r/\w'.ownsRow w.heap.size bB 1 r l.length (bO l)/\Below w.heap.size w w':=by
 rcases h.cases with⟨i,a,cap,rfl,h0⟩|⟨b,off,cap,rfl,o,n,c,m⟩
 ·have k:l=[]:=by simpa [bO] using i
  subst k;cases a with
  | none=>
    refine(Tryz.slices_Clone_int_nil 0 cap w).mono ?_;rintro e w'⟨rfl,rfl⟩;exact⟨_,rfl,World.ownsRow_nil _ _ _ _,Below.refl _ _⟩
  | some a=>
    refine(Tryz.slices_Clone_int_zero a cap w).mono ?_;rintro e w'⟨r,rfl,d,_,c⟩;exact⟨r,rfl,d,c⟩
 rw[fq] at *;refine(Tryz.slices_Clone_int b off l.length cap l w (Nat.le_refl _) (by omega) (λj f=>?_)).mono ?_
 ·rw[m j (by rw[fq];exact f)];simp[bO,f]
 rintro e w'⟨r,rfl,d,_,c⟩;rw[List.take_length] at d;exact⟨r,rfl,d,c⟩
end Go.Proofs.YtmnimbnojdndmaaGreatDoor
