/- One machine of an NFD counts as its units do, multiplied; no condition. -/
import Derived.Test.YtmnimbnojdndmaaGreatDoorR08
import Derived.Maps.Keyed
import Derived.DeepKeys5
import Derived.Great.BuildSlice
import Derived.Great.Ranges
set_option maxRecDepth 100000
set_option maxHeartbeats 6400000
set_option linter.all false
namespace Go.Cd
section
open Go.RowKit
variable {P : Program} {k : TypeId}
variable {w:World} {r:Nat} {G:Value->Value->Prop} {x:Value} {elem:TypeId} {ops:Array Oper} {rest:List Oper} {Q:Exit->Act->World->Prop}
def iF (P:Program) (k:TypeId) (x:Value):Prop:=∃l,keyOf P k x=some l
def dE (P:Program) (k:TypeId) (w:World) (r:Nat) (G:Value->Value->Prop):Prop:=
 ∃(es:Array MapEntry) (ck:Nat),w.heap[r]? = some (.map es ck)∧(∀e∈es.toList,iF P k e.key)∧(∀(i j:Nat) (e e':MapEntry),es[i]? = some e->es[j]? = some e'->e.key=e'.key->i=j)∧∀x v,G x v↔∃e∈es.toList,e.key=x∧e.val=v
theorem dE.block {w':World} (h:dE P k w r G) (hb:w'.heap[r]? = w.heap[r]?):dE P k w' r G:=by
 obtain ⟨es,ck,h1,h2⟩:=h;exact ⟨es,ck,hb.trans h1,h2⟩
theorem dE.lt (h:dE P k w r G):r<w.heap.size:=by
 obtain ⟨es,ck,h1,_⟩:=h;exact (Array.getElem?_eq_some_iff.1 h1).1
theorem dE.mono {w':World} (h:dE P k w r G) (hb:Below w.heap.size w w'):dE P k w' r G:=h.block (hb.block r h.lt)
theorem dE.new (w:World) (ck:Nat):dE P k (w.alloc (.map #[] ck)) w.heap.size (fun _ _=>False):=
 ⟨#[],ck,heap_alloc_new _ _,by simp,by simp,by simp⟩
theorem dE.one (h:dE P k w r G) {u v:Value} (h1:G x u) (h2:G x v):u=v:=by
 obtain ⟨es,ck,_,_,h3,h4⟩:=h;obtain ⟨e,he,e1,e2⟩:=(h4 x u).1 h1;obtain ⟨e',he',Vh,e2'⟩:=(h4 x v).1 h2;obtain ⟨i,hi,ei⟩:=List.mem_iff_getElem.1 he;obtain ⟨j,hj,ej⟩:=List.mem_iff_getElem.1 he';have a1:es[i]? = some e:=by rw [<-Array.getElem?_toList,List.getElem?_eq_getElem hi,ei]
 have a2:es[j]? = some e':=by rw [<-Array.getElem?_toList,List.getElem?_eq_getElem hj,ej]
 have:=h3 i j e e' a1 a2 (e1.trans Vh.symm);subst this;rw [a1] at a2;cases a2;exact e2.symm.trans e2'
theorem dE.find (K:Maps.Keyed P k) {W:World} {es:Array MapEntry} (h2:∀e∈es.toList,iF P k e.key) (h4:∀x v,G x v↔∃e∈es.toList,e.key=x∧e.val=v) (hx:iF P k x) :
 ((Instr.findKey k x es.toList).run P W=.ok none W∧∀v,¬G x v)∨∃j e,(Instr.findKey k x es.toList).run P W=.ok (some (j,e.val)) W∧es[j]? = some e∧e.key=x∧G x e.val:=by
 obtain ⟨l,hl⟩:=hx;rcases K.find W hl es.toList h2 with ⟨h5,h6⟩|⟨j,e,h5,h6,h7⟩
 ·refine .inl ⟨h5,fun v hg=>?_⟩;obtain ⟨e,he,e1,_⟩:=(h4 x v).1 hg;exact h6 e he e1
 ·refine .inr ⟨j,e,h5,by rw [<-Array.getElem?_toList];exact h6,h7,(h4 x e.val).2 ⟨e,List.mem_of_getElem? h6,h7,rfl⟩⟩
theorem qU (K:Maps.Keyed P k) {t:TypeId} (ht:P.underlying t=some (.map k elem)) (h:dE P k w r G) (hx:iF P k x) {z:Value} (hz:(zeroValue elem).run P w=.ok z w) (c:Bool) :
 ((Instr.lookup t (.map (some r)) x c).run P w=.ok (if c then .tuple #[z,.bool false] else z) w∧∀v,¬G x v)∨∃v,(Instr.lookup t (.map (some r)) x c).run P w=.ok (if c then .tuple #[v,.bool true] else v) w∧G x v:=by
 obtain ⟨es,ck,h1,h2,h3,h4⟩:=h;obtain ⟨l,hl⟩:=id hx;rcases dE.find K (W:=w) h2 h4 hx with ⟨h5,h6⟩|⟨j,e,h5,h6,h7,h8⟩
 ·exact .inl ⟨by simp [Instr.lookup,run_underlying ht,MapKept.run_getObj_map h1,K.check w _ hl,h5,hz,Result.andThen],h6⟩
 ·exact .inr ⟨e.val,by simp [Instr.lookup,run_underlying ht,MapKept.run_getObj_map h1,K.check w _ hl,h5,Result.andThen],h8⟩
def Ad (G:Value->Value->Prop) (x v:Value):Value->Value->Prop:=fun y u=>(y=x∧u=v)∨(y≠x∧G y u)
theorem Kh (K:Maps.Keyed P k) {t:TypeId} (ht:P.underlying t=some (.map k elem)) (h:dE P k w r G) (hx:iF P k x) (v:Value) :
 ∃w',(Instr.mapUpdate t (.map (some r)) x v).run P w=.ok () w'∧dE P k w' r (Ad G x v)∧w.grownBy w' (some r):=by
 obtain ⟨es,ck,h1,h2,h3,h4⟩:=h;have hlt:r<w.heap.size:=(Array.getElem?_eq_some_iff.1 h1).1;obtain ⟨l,hl⟩:=id hx;have hset:∀o:Obj,({ w with heap:=w.heap.setIfInBounds r o }:World).heap[r]? = some o:=fun o=>by simp [hlt]
 have hgr:∀o:Obj,w.grownBy { w with heap:=w.heap.setIfInBounds r o } (some r):=fun o=>⟨rfl,rfl,rfl,by simp,fun j _ hj=>by
  have:r≠j:=fun e=>hj (by rw [e])
  simp [this]⟩
 rcases dE.find K (W:=w) h2 h4 hx with ⟨h5,h6⟩|⟨j,e,h5,h6,h7,h8⟩
 ·refine ⟨_,by simp [Instr.mapUpdate,run_underlying ht,MapKept.run_getObj_map h1,K.check w _ hl,h5,MapKept.run_setObj_map _ h1,Result.andThen];rfl,⟨_,_,hset _,?_,?_,?_⟩,hgr _⟩
  ·intro e he;rw [Array.toList_push] at he;rcases List.mem_append.1 he with he|he
   ·exact h2 e he
   ·rw [List.mem_singleton.1 he];exact hx
  ·intro i j e e' hi hj he;have hno:∀e∈es.toList,e.key≠x:=fun e he hk=>h6 e.val ((h4 x e.val).2 ⟨e,he,hk,rfl⟩);rw [Array.getElem?_push] at hi hj
   split at hi <;> split at hj
   ·omega
   ·cases hi;exact absurd he.symm (hno e' (by rw [<-Array.getElem?_toList] at hj;exact List.mem_of_getElem? hj))
   ·cases hj;exact absurd he (hno e (by rw [<-Array.getElem?_toList] at hi;exact List.mem_of_getElem? hi))
   ·exact h3 i j e e' hi hj he
  ·intro y u;unfold Ad;rw [Array.toList_push];constructor
   ·rintro (⟨rfl,rfl⟩|⟨hy,hg⟩)
    ·exact ⟨{ key:=y,val:=u,born:=ck },by simp,rfl,rfl⟩
    ·obtain ⟨e,he,e1,e2⟩:=(h4 y u).1 hg;exact ⟨e,by simp [he],e1,e2⟩
   ·rintro ⟨e,he,e1,e2⟩;rcases List.mem_append.1 he with he|he
    ·have hg:=(h4 y u).2 ⟨e,he,e1,e2⟩;refine .inr ⟨fun e3=>?_,hg⟩;subst e3;exact h6 u hg
    ·rw [List.mem_singleton.1 he] at e1 e2;exact .inl ⟨e1.symm,e2.symm⟩
 ·have hj:j<es.size:=(Array.getElem?_eq_some_iff.1 h6).1;have hst:=K.stays w hl;refine ⟨_,by simp [Instr.mapUpdate,run_underlying ht,MapKept.run_getObj_map h1,K.check w _ hl,h5,h6,h7,hst,MapKept.run_setObj_map _ h1,Result.andThen];rfl,⟨_,_,hset _,?_,?_,?_⟩,hgr _⟩
  ·intro e' he;obtain ⟨i,hi,rfl⟩:=List.mem_iff_getElem.1 he;rw [Array.length_toList,Array.size_modify] at hi;rw [Array.getElem_toList,Array.getElem_modify]
   split
   ·exact hx
   ·exact h2 _ (by simp)
  ·intro i i' e1 e2 hi hi' he;rw [Array.getElem?_modify] at hi hi';have key:∀(m:Nat) (y:MapEntry),(if j=m then (es[m]?).map fun e=>{ e with key:=x,val:=v } else es[m]?)=some y->∃y0,es[m]? = some y0∧y0.key=y.key:=by
    intro m y hy
    split at hy
    ·rename_i hm;subst hm;rw [h6] at hy;cases hy;exact ⟨e,h6,h7⟩
    ·exact ⟨y,hy,rfl⟩
   obtain ⟨y1,a1,b1⟩:=key i e1 hi;obtain ⟨y2,a2,b2⟩:=key i' e2 hi';exact h3 i i' y1 y2 a1 a2 (b1.trans (he.trans b2.symm))
  ·intro y u;unfold Ad;constructor
   ·rintro (⟨rfl,rfl⟩|⟨hy,hg⟩)
    ·refine ⟨{ e with key:=y,val:=u },?_,rfl,rfl⟩;refine List.mem_iff_getElem.2 ⟨j,by simp [hj],?_⟩;rw [Array.getElem_toList,Array.getElem_modify,if_pos rfl];congr 1;exact (Array.getElem?_eq_some_iff.1 h6).2▸rfl
    ·obtain ⟨e',he,e1,e2⟩:=(h4 y u).1 hg;obtain ⟨i,hi,rfl⟩:=List.mem_iff_getElem.1 he;have hij:j≠i:=fun h=>by
      subst h;have:=(Array.getElem?_eq_some_iff.1 h6).2;rw [Array.getElem_toList,this,h7] at e1;exact hy e1.symm
     refine ⟨_,List.mem_iff_getElem.2 ⟨i,by simpa using hi,rfl⟩,?_,?_⟩
     ·rw [Array.getElem_toList,Array.getElem_modify,if_neg hij];simpa using e1
     ·rw [Array.getElem_toList,Array.getElem_modify,if_neg hij];simpa using e2
   ·rintro ⟨e',he,e1,e2⟩;obtain ⟨i,hi,rfl⟩:=List.mem_iff_getElem.1 he;rw [Array.length_toList,Array.size_modify] at hi;rw [Array.getElem_toList,Array.getElem_modify] at e1 e2;by_cases hij:j=i
    ·rw [if_pos hij] at e1 e2;exact .inl ⟨e1.symm,e2.symm⟩
    ·rw [if_neg hij] at e1 e2;refine .inr ⟨fun h=>hij ?_,(h4 y u).2 ⟨es[i],by simp,e1,e2⟩⟩;exact h3 j i e es[i] h6 (Array.getElem?_eq_getElem hi) (h7.trans (h.symm.trans e1.symm))
theorem iL {o:Oper} {a:Act} (hg:o.guard=none) (m x:Operand) (t elem:TypeId) (c:Bool) (ho:o.op=Op.lookup t m x c)
 (K:Maps.Keyed P k) (ht:P.underlying t=some (.map k elem)) (h:dE P k w r G) (hm:a.eval m=.map (some r)) {xv:Value} (hx:a.eval x=xv) (hk:iF P k xv) {z:Value} (hz:(zeroValue elem).run P w=.ok z w)
 (h1:(∀v,¬G xv v)->wpList P ops Q rest (a.put o.dst (if c then .tuple #[z,.bool false] else z)) w) (h2:∀v,G xv v->wpList P ops Q rest (a.put o.dst (if c then .tuple #[v,.bool true] else v)) w):wpList P ops Q (o::rest) a w:=by
 refine wpList_plain hg fun K' hK'=>?_;rcases qU K ht h hk hz c with ⟨hr,hn⟩|⟨v,hr,hv⟩
 ·unfold Oper.wp;simp [execOp,ho,hm,hx,hr,Result.andThen];exact hK' _ _ (h1 hn)
 ·unfold Oper.wp;simp [execOp,ho,hm,hx,hr,Result.andThen];exact hK' _ _ (h2 v hv)
theorem jQ {o:Oper} {a:Act} (hg:o.guard=none) (m x v:Operand) (t elem:TypeId) (ho:o.op=Op.mapUpdate t m x v)
 (K:Maps.Keyed P k) (ht:P.underlying t=some (.map k elem)) (h:dE P k w r G) (hm:a.eval m=.map (some r)) {xv vv:Value} (hx:a.eval x=xv) (hv:a.eval v=vv) (hk:iF P k xv)
 (h1:∀w',dE P k w' r (Ad G xv vv)->w.grownBy w' (some r)->wpList P ops Q rest (a.put o.dst undef) w'):wpList P ops Q (o::rest) a w:=by
 refine wpList_plain hg fun K' hK'=>?_;obtain ⟨w',hr,r1,r2⟩:=Kh K ht h hk vv;unfold Oper.wp;simp [execOp,ho,hm,hx,hv,hr,Result.andThen];exact hK' _ _ (h1 w' r1 r2)
theorem mapM_some {α β:Type} {f:α->Option β}:∀(l:List α),(∀x∈l,∃y,f x=some y)->∃ys,l.mapM f=some ys
 | [],_=>⟨[],rfl⟩
 | a::l,h=>by
   obtain ⟨y,hy⟩:=h a (by simp);obtain ⟨ys,hys⟩:=mapM_some l fun x hx=>h x (by simp [hx]);exact ⟨y::ys,by simp [List.mapM_cons,hy,hys]⟩
theorem Qi {k e:TypeId} {n:Nat} {q:IntKind} (hk:P.underlying k=some (.array n e)) (he:P.underlying e=some (.int q)) (h1:P.cellsOf e=1) (hn:P.cellsOf k=n) (hkt:P.keyType k=true) {m:Nat} (hm:P.types.size=m+1) (cs:Array Value) (hcs:cs.size=n)
 (hall:∀i,i<n->∃x,cs[i]? = some (.int q x)∧(Lit.int q x).wf=true):iF P k (.agg cs):=by
 have hl:cs.toList.length=n:=by simpa using hcs
 have hmm:∃ys,(List.range n).mapM (fun i=>P.keyLits (m+1) e ((cs.toList.drop (i*1)).take 1))=some ys:=by
  refine mapM_some _ fun i hi=>?_;obtain ⟨x,hx,hw⟩:=hall i (List.mem_range.1 hi);refine ⟨[.int q x],?_⟩;have hi':i<cs.toList.length:=by rw [hl];exact List.mem_range.1 hi
  have e1:(cs.toList.drop (i*1)).take 1=[.int q x]:=by
   rw [Nat.mul_one,List.drop_eq_getElem_cons hi'];have:=(Array.getElem?_eq_some_iff.1 hx).2;simp [this]
  rw [e1];unfold Program.keyLits;simp [he,hw]
 obtain ⟨ys,hys⟩:=hmm;refine ⟨.string (keyBytes ys.flatten),?_⟩;unfold keyOf;have hf:Value.formed P k (.agg cs)=true:=by simp [Value.formed,hk,hcs,hn]
 have hkl:P.keyLits (P.types.size+1) k cs.toList=some ys.flatten:=by
  rw [hm]
  conv=>lhs;unfold Program.keyLits
  simp only [hk];rw [if_pos (by rw [hl,hn]),h1,hys];rfl
 simp only [hk];rw [hkt,hf];simp only [Bool.and_self,if_true];show (P.keyLits (P.types.size+1) k cs.toList).map _=_;rw [hkl];rfl
end
end Go.Cd
namespace Go.Proofs.YtmnimbnojdndmaaGreatDoor
open Go.RowKit Go.Cd _root_.Go.Proofs.Tryz
variable {T:List aG} {X:List Nat} {w:World}
def Vi:laidOutB prog=true:=by kernel_rfl
def Fj:Maps.Keyed prog 311:=Maps.Keyed.of_law (deep_law_laid Vi (m:=4) (by decide) (of_decide_eq_true (by kernel_rfl)) (by kernel_rfl) (by kernel_rfl))
def uF:Maps.Keyed prog 213:=Maps.Keyed.of_law (deep_law_laid Vi (m:=4) (by decide) (of_decide_eq_true (by kernel_rfl)) (by kernel_rfl) (by kernel_rfl))
def NM:Maps.Keyed prog 262:=Maps.Keyed.of_law (deep_law_laid Vi (m:=4) (by decide) (of_decide_eq_true (by kernel_rfl)) (by kernel_rfl) (by kernel_rfl))
def Ry:Maps.Keyed prog 21:=Maps.int_keyed underlying21
def RB {a b:Nat} (d:a<1114112) (g:b<1114112):iF prog 311 (.agg #[.int .i32 a,.int .i32 b]):=by
 refine Qi (P:=prog) (k:=311) (e:=21) (n:=2) (q:=.i32) underlying311 underlying21 (by kernel_rfl) (by kernel_rfl) (by kernel_rfl) (m:=prog.types.size-1) (by kernel_rfl) #[.int .i32 a,.int .i32 b] rfl ?_;intro i j;have c:∀x:Nat,x<1114112->(Lit.int .i32 (x:Int)).wf=true:=λx l=>by
  have f:IntKind.i32.min=-2147483648:=by decide
  have h:IntKind.i32.max=2147483647:=by decide
  simp only[Lit.wf,f,h,Bool.and_eq_true,decide_eq_true_eq];omega
 rcases i with _|_|i
 ·exact⟨a,rfl,c a d⟩
 ·exact⟨b,rfl,c b g⟩
 omega
def tX (h:aY T X) (c:T.length<40000):iX T:=
 ⟨h.rise,λr a=>(h.fine r a).1.1,λr a=>(h.fine r a).2.2.1,λr a x b=>((h.fine r a).2.2.2.2 x b).2.1,c⟩
def tY (q:aG):Value:=.agg #[.int .i32 (q.map.getD 0 0:Nat),.int .i32 (q.map.getD 1 0:Nat)]
def Fp (b:aY T X) {q:aG} (d:q∈T) (h:qi T X q):Prim T X q.code:=by
 obtain⟨i,a,rfl⟩:=List.mem_iff_getElem.1 d;have e:rowOf T T[i].code=some T[i]:=Fg a (λt c h=>jy b.rise t i c a h) rfl;exact(Kg (by have:=(b.fine _ (List.getElem_mem a)).2.2.2.1;omega) e).2 h
def Ki (h:aY T X) {i j:Nat} (l:i<T.length) (k:j<T.length) (m:i<j) (o:qi T X T[i]) (n:qi T X T[j]):tY T[i]≠tY T[j]:=by
 intro e;have p:=Fp h (List.getElem_mem l) o;have u:=Fp h (List.getElem_mem k) n;obtain⟨_,a,b,f,_⟩:=o;obtain⟨_,c,d,g,_⟩:=n;unfold tY at e;rw[f,g] at e;simp at e;have s:a=c:=by omega
 have t:b=d:=by omega
 have q:T[i].map=T[j].map:=by rw[f,g,s,t]
 have:=h.pair _ (List.getElem_mem l) _ (List.getElem_mem k) (by rw[f];rfl) q p u;have r:=jy h.rise i j l k m;rw[this] at r;omega
def NQ {v:Value} (h:qQ w v T X) (hV:aY T X) (hl:T.length<40000) (hX:X.length<10000) :
 Calls prog 152 #[v] w λe w'=>e=.returned .nilIface/\Below w.heap.size w w':=by
 have hF:=tX hV hl;have an:=aa h;obtain⟨rv,xv,he,Y,_⟩:=id h;obtain⟨ra,l,rc,xa,nx,xc,rfl⟩:=h.shape;have aL:rv=.slice ra l rc:=by
  injection he with he;have:=congrArg (λs:Array Value=>s[0]?) he;simpa using this.symm
 subst aL;obtain⟨av,a7,ag,_,hx⟩:=Y;have az:l=T.length:=by injection ag
 have a1:av=ra:=by injection ag with A;exact A.symm
 subst a1;have HX:=aa hx;have vI:=aa az;have HV:=aa hV;have HF:=aa hF;have a3:l<40000:=by omega
 obtain⟨w1,K⟩:=ae (w.alloc (.cells #[.slice av l rc,.slice xa nx xc] 150));have k1:=Is.nw K;have aW:=aO K;have a9:w1.heap.size=w.heap.size+1:=by rw[K];simp
 have t:=k1.at 0 rfl;clear h he ag hx az hV hF hl;go_enter func152,ntmps152;go_wp2_with fail;rw[<-K];clear K;go_loopw [3,20] (λlv F wr=>∃j:Nat,j<=l/\F=.int .i64 j/\lv=.int .i32 (wC T j)/\Below w1.heap.size w1 wr) (λ_ F _=>l-(intOf F).toNat)
 case atStart=>exact⟨0,Nat.zero_le _,rfl,rfl,Below.refl _ _⟩
 case round=>
  clear t;obtain⟨j,hj,rfl,rfl,o⟩:=hrel;have n:=af aW o;by_cases N:j<l
  ·have V:=eG (show j<l by omega);have c:j<T.length:=by have:=vI.out;omega
   obtain⟨b,off,m,rfl,_,E,B,C,hm,p⟩:=HX.out j c;have E:=aB n E;have B:=aB n B;have C:=aB n C;have lQ:=HV.out.fine _ (List.getElem_mem c);have ap:=J9 HV.out.rise j c;have Yh:=aa (uE c);obtain⟨w3,a⟩:=ae (wr.alloc (.cells #[.int .i32 T[j].code,.int .i64 T[j].cls,m] 196));have z:=Is.nw a;have d:=aO a;have RW:=aa (Vg (w:=w3) T[j] lQ (wC T j) ap ((hm.mono n).mono d));generalize wC T j=lc at *;obtain⟨am,nm,cm,rfl,_⟩:=p;generalize T[j]=q at *;have t:=z.at 0 rfl;have A:=z.at 1 rfl;have L:=z.at 2 rfl;rw[a] at t A L;have z2:(⟨#[]⟩:ByteArray).toList.isEmpty=true:=by rw[Lib.toList_data];rfl
   clear lQ hm ap;go_wp2_with fail;rw[<-a];refine RW.out.mono ?_;rintro e w4⟨rfl,g⟩;have k4:=z.mono g;have f0:=k4.at 0 rfl;clear t A L a RW E B C;go_wp2_with fail;go_roundw
   case rel=>exact⟨j+1,by omega,by simp,by rw[Yh.out],af (af o d) g⟩
   case measure=>simp[intOf];omega
  have V:=gI (show l<=j by omega);have M:=k1.mono o;have t:=M.at 0 rfl;have aP:=aa M;clear M;go_wp2_with fail;clear t hj N V;obtain⟨wA,aN⟩:=ae wr;subst aN;have MZ:=n;have a8:=aa o;clear n o;go_loopw [37] (λF wr=>∃j:Nat,j<=l/\F=.int .i64 j/\Below wA.heap.size wA wr) (λF _=>l-(intOf F).toNat)
  case atStart=>exact⟨0,Nat.zero_le _,rfl,Below.refl _ _⟩
  case round=>
   obtain⟨j,hj,rfl,o⟩:=hrel;have n:=af MZ o;have M:=aP.out.mono o;by_cases N:j<l
   ·have V:=eG (show j<l by omega);have c:j<T.length:=by have:=vI.out;omega
    obtain⟨b,off,m,rfl,_,E,B,C,hm,p⟩:=HX.out j c;have E:=aB n E;have B:=aB n B;have C:=aB n C;have f:=List.getElem_mem c;have H:=HF.out.code _ f;have W:=HV.out.full _ f;obtain⟨w3,a⟩:=ae (wr.alloc (.cells #[.int .i32 T[j].code,.int .i64 T[j].cls,m] 196));have z:=Is.nw a;have d:=aO a;have lH:=af n d;have EX:=aa (zG an.out HF.out (T.length+3) 0 T[j].code w3 w3.heap.size [] (.slice none 0 0) (by omega) H W.1 (by rw[List.length_nil,Nat.zero_add];exact W.2) lH lH.size (Nat.le_refl _) (World.ownsRow_nil _ _ _ _));obtain⟨am,nm,cm,rfl,_⟩:=p;generalize T[j]=q at *;have D:=M.mono d;have t:=z.at 0 rfl;have A:=z.at 1 rfl;have L:=z.at 2 rfl;have e3:=D.at 0 rfl;have e4:=D.at 1 rfl;rw[a] at t A L e3 e4;clear hm W f H;go_wp2_with fail;rw[<-a];refine EX.out.mono ?_;rintro e w4⟨r,rfl,ho,aC,_⟩;have g:=fO aC;obtain⟨ar,cr,rfl,_,_⟩:=ak ho;clear t A L e3 e4 a EX E B C ho aC;go_wp2_with fail;go_roundw
    case rel=>exact⟨j+1,by omega,by simp,af (af o d) g⟩
    case measure=>simp[intOf];omega
   have V:=gI (show l<=j by omega);have t:=M.at 0 rfl;have au:=aa M;clear M;have aS:(Instr.makeMap 309 none).run prog wr=.ok (.map (some wr.heap.size)) (wr.alloc (.map #[] 0)):=rfl;have A:=(au.out.mono (ah (.map #[] 0))).at 0 rfl;go_wp2_with fail;clear t A aS hj N V;obtain⟨wB,aV⟩:=ae wr;subst aV;have Vj:=n;clear n o;go_loopw [56] (λF wr=>∃j:Nat,j<=l/\F=.int .i64 j/\(∃G,dE prog 311 wr wB.heap.size G/\∀x u,G x u->∃(i:Nat) (Q:i<T.length),i<j/\qi T X T[i]/\x=tY T[i])/\Below wB.heap.size wB wr) (λF _=>l-(intOf F).toNat)
   case atStart=>exact⟨0,Nat.zero_le _,rfl,⟨_,dE.new wB 0,λx u h=>h.elim⟩,ah _⟩
   case round=>
    obtain⟨j,hj,rfl,⟨G,hG,ao⟩,o⟩:=hrel;have n:=af Vj o;have M:=au.out.mono o;have ai:=aa ao;clear ao;by_cases N:j<l
    ·have V:=eG (show j<l by omega);have c:j<T.length:=by have:=vI.out;omega
     obtain⟨b,off,m,rfl,_,E,B,C,hm,p⟩:=HX.out j c;have E:=aB n E;have B:=aB n B;have C:=aB n C;have f:=List.getElem_mem c;have H:=HF.out.code _ f;have ad:=HF.out.acd _ f;obtain⟨w3,a⟩:=ae (wr.alloc (.cells #[.int .i32 T[j].code,.int .i64 T[j].cls,m] 196));have z:=Is.nw a;have d:=aO a;have lH:=af n d;have U:=(hm.mono lH);have CO:=aa (qR (an.out.mono lH) HF.out hX T[j] H ad U)
     have aI:=aa (show ∀(u:Value),qi T X T[j]->¬G (tY T[j]) u from λu hc R=>by
      obtain⟨i,Q,ab,h1,h2⟩:=ai.out _ _ R
      exact Ki HV.out Q c ab h1 hc h2.symm)
     have aR:=aa (show ∀(u:Value),qi T X T[j]->∀x y,Ad G (tY T[j]) u x y->∃(i:Nat) (Q:i<T.length),i<j+1/\qi T X T[i]/\x=tY T[i] from λu hc x y aQ=>by
      rcases aQ with⟨rfl,_⟩|⟨_,R⟩
      ·exact⟨j,c,by omega,hc,rfl⟩
      obtain⟨i,Q,ab,h1,h2⟩:=ai.out _ _ R
      exact⟨i,Q,by omega,h1,h2⟩)
     have aM:=aa (show ∀x u,G x u->∃(i:Nat) (Q:i<T.length),i<j+1/\qi T X T[i]/\x=tY T[i] from λx u R=>by
      obtain⟨i,Q,ab,h1,h2⟩:=ai.out _ _ R
      exact⟨i,Q,by omega,h1,h2⟩)
     obtain⟨am,nm,cm,rfl,p⟩:=p;have ay:=aa ad;generalize T[j]=q at *;have D:=M.mono d;have aq:=hG.mono d;have t:=z.at 0 rfl;have A:=z.at 1 rfl;have L:=z.at 2 rfl;have e3:=D.at 0 rfl;have e4:=D.at 1 rfl;rw[a] at t A L e3 e4;have aK:=aa U;have a6:=aa p;clear hm f H ad U hG p;go_wp2_with fail;rw[<-a];refine CO.out.mono ?_;rintro e w4⟨bb,rfl,Z,g⟩;clear t A L e3 e4 a CO E B C;have ac:=aq.mono g;have k4:=z.mono g;clear aq;cases bb with
     | false=>
       clear Z;go_wp2_with fail;go_roundw
       case rel=>exact⟨j+1,by omega,by simp,⟨G,ac,aM.out⟩,o.trans ((af d g).mono o.size)⟩
       case measure=>simp[intOf];omega
     | true=>
       have J:=Z.1 rfl;have HC:=aa J;obtain⟨_,pa,pb,I,_⟩:=J;have JF:=aK.out.mono g;rw[I] at JF;obtain⟨a2,aH,aU,_,aj⟩:=bG.nN JF.any rfl;injection aU with h1 h2 h3;subst h1;subst h2;obtain⟨bm,P,rfl,_,al⟩:=aj 0 (by simp);obtain⟨a4,a5,aX,_,aT⟩:=aj 1 (by simp);cases aX;rw[Nat.add_zero] at al;have aE:pa<1114112:=ay.out pa (by rw[I];simp);have aJ:pb<1114112:=ay.out pb (by rw[I];simp);have aD:tY q=.agg #[.int .i32 (pa:Nat),.int .i32 (pb:Nat)]:=by unfold tY;rw[I];rfl
       have aw:=aa aD;have L:=k4.at 2 rfl;clear Z I JF aj aD;have a0:(Instr.arrayAt 311 (.slice (some ⟨bm,P,none⟩) 2 aH)).run prog w4=.ok (.pointer (some ⟨bm,P,none⟩)) w4:=by
        simp[Instr.arrayAt,run_underlying underlying311,Result.andThen]
       obtain⟨w5,vJ⟩:=ae (w4.alloc (.cells #[.int .i32 (pa:Nat),.int .i32 (pb:Nat)] 311));have k5:=Is.nw vJ;have S:=aO vJ;go_upto_region 23 with fail;rw[<-vJ];have aA:=ac.mono S;have aF:=k4.mono S;have g0:=k5.at 0 rfl;have g1:=k5.at 1 rfl;have g2:=aF.at 0 rfl;have O:=RB aE aJ;clear vJ a0 al aT L ac k4;have ax:=af (af d g) S
       go_wp2_with (first
        | (refine iL rfl _ _ 309 21 true rfl Fj underlying309 aA rfl rfl O (zeroValue21 w5) ?_ ?_)
        | fail)
       ·intro _
        go_wp2_with (first
         | (refine jQ rfl _ _ _ 309 21 rfl Fj underlying309 aA rfl rfl rfl O ?_;intro w6 aZ M4)
         | fail)
        go_roundw
        case rel=>
         have mF:Below wB.heap.size wB w6:=(o.trans (ax.mono o.size)).grown M4 (by have:=o.size;have:=ax.size;omega) λk hk=>by cases hk;exact Nat.le_refl _
         refine⟨j+1,by omega,by simp,⟨_,aZ,?_⟩,mF⟩;rw[<-aw.out];exact aR.out _ HC.out
        case measure=>simp[intOf];omega
       intro u R;rw[<-aw.out] at R;exact absurd R (aI.out u HC.out)
    have V:=gI (show l<=j by omega);go_wp2;go_ret;exact⟨rfl,n⟩
def Qj (c:Nat) (a:c<1114112):Calls prog 123 #[.int .i32 c] w λe w'=>e=.returned (.bool true)/\w'=w:=by
 have:decide ((0:Int)<=(c:Int))=true:=by simp
 have:decide ((c:Int)<=1114111)=true:=by simp;omega
 go_enter func123,ntmps123;go_wp2;go_ret;exact⟨rfl,rfl⟩
structure lS (w:World) (p:Nat) (f:Nat->Nat):Prop where
 out:∃(idx:Nat->Nat) (nb B cap:Nat),p<w.heap.size/\B<w.heap.size/\nb<=cap/\nb<65536/\w.cell? ⟨p,4352,none⟩=some (.slice (some ⟨B,0,none⟩) nb cap)/\(∀n,n<4352->idx n<nb/\w.cell? ⟨p,n,none⟩=some (.int .u16 (idx n)))/\
  (∀c,c<1114112->f c<65536/\w.cell? ⟨B,idx (c / 256)*256+c % 256,none⟩=some (.int .u16 (f c)))
def lS.mono {w':World} {p:Nat} {f:Nat->Nat} (h:lS w p f) (a:Below w.heap.size w w'):lS w' p f:=by
 obtain⟨d,q,B,cap,o,k,l,b,m,j,e⟩:=h;exact⟨d,q,B,cap,Nat.lt_of_lt_of_le o a.size,Nat.lt_of_lt_of_le k a.size,l,b,aB a m,λn g=>⟨(j n g).1,aB a (j n g).2⟩,λc i=>⟨(e c i).1,aB a (e c i).2⟩⟩
def Fq (n:Nat) (b:n<2147483648):bits .and .i32 (n:Int) 255=((n % 256:Nat):Int):=by
 have a:(BitVec.ofInt 32 255).toNat=2 ^ 8-1:=by decide
 have key:(BitVec.ofInt 32 n &&& BitVec.ofInt 32 255).toNat=((n:Int) % ((2 ^ 32:Nat):Int)).toNat % 2 ^ 8:=by
  rw[BitVec.toNat_and,BitVec.toNat_ofInt,a,Nat.and_two_pow_sub_one_eq_mod]
 show IntKind.i32.wrap ((BitVec.ofInt 32 n &&& BitVec.ofInt 32 255).toNat:Nat)=_;rw[key,IntKind.wrap_i32];omega
def BC {p:Nat} {f:Nat->Nat} (h:lS w p f) (c:Nat) (m:c<1114112) :
 Calls prog 80 #[.pointer (some ⟨p,0,none⟩),.int .i32 c] w λe w'=>e=.returned (.int .u16 (f c))/\Below w.heap.size w w':=by
 obtain⟨d,z,B,cap,G,y,E,s,q,o,g⟩:=h;have x:=aa (Qj (w:=w) c m);obtain⟨t,b⟩:=o (c / 256) (by omega);obtain⟨_,a⟩:=g c m;have r:=Fq c (by omega);have hd:((c:Int) / 256)=((c / 256:Nat):Int):=by omega
 obtain⟨n,l⟩:=ae (c / 256);obtain⟨k,j⟩:=ae (c % 256);have:n<4352:=by omega
 have:k<256:=by omega
 rw[<-l] at t b a hd;rw[<-j] at a r;generalize d n=i at *;generalize f c=fc at *;have:=Gr.cell (ag w) q;have:=Gr.cell (ag w) b;have:=Gr.cell (ag w) a;have:i<65536:=by omega
 clear o g l j q b a;go_enter func80,ntmps80;go_upto_region 3 with (go_at_call 123;refine x.out.mono ?_;rintro e A⟨rfl,rfl⟩);refine aC (Array.replicate 17 true) 17 0 mixed ?_;refine ay [0,1,2,3,4,5,6,7,8,9,10,11,12,13,14,15,16] 0 ?_
 iterate 17 (refine aA rfl ?_;go_big_quiet_step (rfl))
 refine az ?_;refine aJ [] ?_;refine tail_nil ?_;go_wp2;go_ret;exact⟨rfl,ag _⟩
end Go.Proofs.YtmnimbnojdndmaaGreatDoor
namespace Go.Cd
open Go.RowKit
def NR {P:Program} {k:TypeId} {S:Nat->Prop} {w:World} {o:Oper} {a:Act} {next:Act->Prop} (m x:Operand) (t d:TypeId) (D:o.op=Op.lookup t m x false)
 (K:Maps.Keyed P k) (n:P.underlying t=some (.map k d)) {r:Nat} {G:Value->Value->Prop} (h:dE P k w r G) (A:S r) (y:a.eval m=.map (some r)) {xv:Value} (C:a.eval x=xv) (l:iF P k xv) {z:Value} (j:∀w,(zeroValue d).run P w=.ok z w)
 (B:(∀v,¬G xv v)->next (a.put o.dst z)) (s:∀v,G xv v->next (a.put o.dst v)):o.quiet P a (λw'=>∃g:vG (KR.blocks S) w,w'=g.tw) next:=by
 have key:∀v,(Instr.lookup t (.map (some r)) xv false).run P w=.ok v w->∀w',(∃g:vG (KR.blocks S) w,w'=g.tw)->o.quietAt P a (λw'=>∃g:vG (KR.blocks S) w,w'=g.tw) w' v:=by
  rintro v c w'⟨g,rfl⟩;have q:dE P k g.tw r G:=h.block (g.ext.1 r A);have p:(Instr.lookup t (.map (some r)) xv false).run P g.tw=.ok v g.tw:=by
   rcases qU K n h l (j w) false with⟨e,b⟩|⟨u,e,b⟩
   ·rw[e] at c;rcases qU K n q l (j g.tw) false with⟨i,f⟩|⟨u2,i,f⟩
    ·injection c with c _;rw[i,<-c]
    exact absurd f (b u2)
   rw[e] at c;rcases qU K n q l (j g.tw) false with⟨i,f⟩|⟨u2,i,f⟩
   ·exact absurd b (f u)
   injection c with c _;rw[i,<-c,h.one b f]
  unfold Oper.quietAt;simp only[execOp,D,y,C,Sem.run_bind,p,Result.andThen,Sem.run_pure];exact⟨rfl,rfl⟩
 rcases qU K n h l (j w) false with⟨e,b⟩|⟨u,e,b⟩
 ·exact⟨z,key _ e,B b⟩
 exact⟨u,key _ e,s u b⟩
end Go.Cd
namespace Go.Proofs.YtmnimbnojdndmaaGreatDoor
open Go.RowKit Go.Cd _root_.Go.Proofs.Tryz
variable {L:List (Nat×Nat)} {k n M r b p base:Nat} {a:Nat->Option Nat} {v:Value} {w w':World} {f:Nat->Nat} {P:Program} {G:Value->Value->Prop} {ops:Array Oper} {rest:List Oper} {o:Oper} {Q:Exit->Act->World->Prop} {Bs:List (Nat->Nat)}
def uG (f:Nat->Nat) (c v:Nat):Nat->Nat:=λx=>if x=c then v else f x
def rZ (f:Nat->Nat) (c v:Nat):uG f c v c=v:=by simp[uG]
def iG (f:Nat->Nat) {c x:Nat} (v:Nat) (h:x≠c):uG f c v x=f x:=by simp[uG,h]
def iZ (L:List (Nat×Nat)):Nat->Nat:=L.foldl (λf x=>uG f x.1 x.2) λ_=>0
def NS (L:List (Nat×Nat)) (x:Nat×Nat):iZ (L++[x])=uG (iZ L) x.1 x.2:=by simp[iZ,List.foldl_append]
def Kj (h:∀x∈L,x.2<65536) (c:Nat):iZ L c<65536:=by
 have key:∀(L:List (Nat×Nat)) (f:Nat->Nat),(∀c,f c<65536)->(∀x∈L,x.2<65536)->∀c,(L.foldl (λf x=>uG f x.1 x.2) f) c<65536:=by
  intro L
  induction L with
  | nil=>intro f hf _ c;exact hf c
  | cons x L ih=>
    intro f hf a c;refine ih _ (λc=>?_) (λy b=>a y (by simp[b])) c;show(if c=x.1 then x.2 else f c)<65536
    split
    ·exact a x (by simp)
    exact hf c
 exact key L _ (λ_=>by simp) h c
def dw (f:Nat->Nat) (n:Nat):Array Value:=((List.range 256).map λk=>Value.int .u16 (f (n*256+k):Nat)).toArray
def fA (f:Nat->Nat) (n:Nat):(dw f n).size=256:=by simp[dw]
def fJ (f:Nat->Nat) (n:Nat) (h:k<256):(dw f n)[k]? = some (.int .u16 (f (n*256+k):Nat)):=by simp[dw,h]
def jB (f:Nat->Nat) (n:Nat) (h:256<=k):(dw f n)[k]? = none:=Array.getElem?_eq_none (by rw[fA];exact h)
def RD (f:Nat->Nat) (n k v:Nat) (h:k<256):(dw f n).setIfInBounds k (.int .u16 (v:Nat))=dw (uG f (n*256+k) v) n:=by
 apply Array.ext_getElem?;intro i;rw[Array.getElem?_setIfInBounds,fA];by_cases a:i<256
 ·rw[fJ _ _ a,fJ _ _ a];by_cases b:k=i
  ·subst b;rw[if_pos rfl,if_pos a,rZ]
  rw[if_neg b,iG _ _ (by omega)]
 rw[jB _ _ (by omega),jB _ _ (by omega)];rw[if_neg (by omega)]
def Kk (f:Nat->Nat) (n m k v:Nat) (h:k<256) (b:n≠m):dw (uG f (m*256+k) v) n=dw f n:=by
 apply Array.ext_getElem?;intro i;by_cases a:i<256
 ·rw[fJ _ _ a,fJ _ _ a,iG _ _ (by omega)]
 rw[jB _ _ (by omega),jB _ _ (by omega)]
def pg (f:Nat->Nat) (n:Nat) (h:∀k,k<256->f (n*256+k)=0):dw f n=zeroCells213:=by
 have e:dw f n=dw (λ_=>0) 0:=by
  apply Array.ext_getElem?;intro i;by_cases a:i<256
  ·rw[fJ _ _ a,fJ _ _ a,h i a]
  rw[jB _ _ (by omega),jB _ _ (by omega)]
 exact e.trans (by kernel_rfl)
def jR:Maps.Keyed prog 21:=Ry
def G7 (blk:Nat->Option Nat) (x v:Value):Prop:=∃(n b:Nat),blk n=some b/\x=.int .i32 n/\v=.pointer (some ⟨b,0,none⟩)
def r9 (h:G7 a (.int .i32 n) v):∃b,a n=some b/\v=.pointer (some ⟨b,0,none⟩):=by
 obtain⟨m,b,e,c,d⟩:=h;injection c with _ c;have:n=m:=by omega
 subst this;exact⟨b,e,d⟩
def r_ (h:∀v,¬G7 a (.int .i32 n) v):a n=none:=by
 cases c:a n with
 | none=>rfl
 | some b=>exact absurd ⟨n,b,c,rfl,rfl⟩ (h _)
structure wF (w:World) (M:Nat) (f:Nat->Nat) (blk:Nat->Option Nat):Prop where
 map:dE prog 21 w M (G7 blk)
 is:∀n b,blk n=some b->n<4352/\M<b/\Is w b (dw f n) 213
 inj:∀n m b,blk n=some b->blk m=some b->n=m
 no:∀n,blk n=none->∀k,k<256->f (n*256+k)=0
def wF.mono (h:wF w M f a) (d:Below w.heap.size w w'):wF w' M f a:=
 ⟨h.map.mono d,λn b c=>⟨(h.is n b c).1,(h.is n b c).2.1,(h.is n b c).2.2.mono d⟩,h.inj,h.no⟩
def wF.new (w:World):wF (w.alloc (.map #[] 0)) w.heap.size (λ_=>0) λ_=>none:=by
 have h0:=dE.new (P:=prog) (k:=21) w 0;have e:(λ(_ _:Value)=>False)=G7 λ_=>none:=by
  funext x v;simp[G7]
 exact⟨e▸h0,(λ_ _ h=>nomatch h),(λ_ _ _ h=>nomatch h),(λ_ _ _ _=>rfl)⟩
def Ap (n:Nat) (h:n<2147483648):iF prog 21 (.int .i32 n):=by
 refine⟨_,Maps.keyOf_int_mk underlying21 ?_⟩;have b:IntKind.i32.min=-2147483648:=by decide
 have a:IntKind.i32.max=2147483647:=by decide
 simp only[Lit.wf,b,a,Bool.and_eq_true,decide_eq_true_eq];omega
def oq {k:TypeId} {row:Option Nat} (h:dE P k w r G) (b:w.grownBy w' row) (a:row≠some r):dE P k w' r G:=
 h.block (b.block r h.lt λe=>a e.symm)
def wF.put {d:Nat->Option Nat} (h:wF w M f d) (i:d n=some b) {v:Nat} (o:k<256):wF (w.setCell ⟨b,k,none⟩ (.int .u16 (v:Nat))) M (uG f (n*256+k) v) d:=by
 refine⟨oq h.map (bX _ _ _ _) (λe=>?_),λm c a=>?_,h.inj,λm a j q=>?_⟩
 ·have:=(h.is n b i).2.1;cases e;omega
 ·obtain⟨r,p,l⟩:=h.is m c a;refine⟨r,p,?_⟩;by_cases g:m=n
  ·subst g;rw[i] at a;cases a;rw[<-RD _ _ _ _ o];exact l.set k _
  rw[Kk _ _ _ _ _ o g];exact l.put (λe=>g (h.inj m n c a (e▸i))) _
 have g:m≠n:=λe=>by rw[e,i] at a;cases a
 rw[iG _ _ (by omega)];exact h.no m a j q
def wF.add (h:wF w M f a) (r:a n=none) (k:n<4352)
 (g:dE prog 21 w' M (Ad (G7 a) (.int .i32 n) (.pointer (some ⟨w.heap.size,0,none⟩))))
 (j:(w.alloc (.cells zeroCells213 213)).grownBy w' (some M)):wF w' M f λm=>if m=n then some w.heap.size else a m:=by
 have q:=h.map.lt;have e:Ad (G7 a) (.int .i32 n) (.pointer (some ⟨w.heap.size,0,none⟩))=G7 λm=>if m=n then some w.heap.size else a m:=by
  funext x v;apply propext;constructor
  ·rintro (⟨rfl,rfl⟩|⟨s,m,b,c,rfl,rfl⟩)
   ·exact⟨n,w.heap.size,if_pos rfl,rfl,rfl⟩
   exact⟨m,b,(if_neg (λe=>s (by rw[e]))).trans c,rfl,rfl⟩
  rintro⟨m,b,c,rfl,rfl⟩;simp only at c
  split at c
  ·rename_i e;subst e;cases c;exact .inl ⟨rfl,rfl⟩
  rename_i e;refine .inr ⟨λp=>e ?_,m,b,c,rfl,rfl⟩;injection p with _ e2;omega
 refine⟨e▸g,λm b i=>?_,λm o b c d=>?_,λm g=>?_⟩
 ·split at i
  ·rename_i e;subst e;cases i;refine⟨k,q,?_⟩;rw[pg f m (h.no m r)];exact(Is.new w zeroCells213 213).grown j (λe=>by cases e;omega)
  obtain⟨c,d,l⟩:=h.is m b i;exact⟨c,d,(l.mono (ah _)).grown j (λe=>by cases e;omega)⟩
 ·split at c <;> split at d
  ·omega
  ·cases c;have:=(h.is o _ d).2.2.lt;omega
  ·cases d;have:=(h.is m _ c).2.2.lt;omega
  exact h.inj _ _ _ c d
 split at g
 ·cases g
 exact h.no m g
def x8:mV prog 215 213 (.agg zeroCells213) 256 512:=⟨(by kernel_rfl),underlying215,info_parts (by kernel_rfl)⟩
def DU (f:Nat->Nat) (v:Value):Array Value:=(((List.range 4352).map λk=>Value.int .u16 (f k:Nat))++[v]).toArray
def wG (f:Nat->Nat) (v:Value):(DU f v).size=4353:=by simp[DU]
def uH (f:Nat->Nat) (v:Value) (h:k<4352):(DU f v)[k]? = some (.int .u16 (f k:Nat)):=by
 unfold DU;rw[List.getElem?_toArray,List.getElem?_append_left (by simp;exact h)];simp[h]
def lT (f:Nat->Nat) (v:Value):(DU f v)[4352]? = some v:=by
 unfold DU;rw[List.getElem?_toArray,List.getElem?_append_right (by simp)];simp
def wH (f:Nat->Nat) (v:Value) (h:4353<=k):(DU f v)[k]? = none:=Array.getElem?_eq_none (by rw[wG];exact h)
def Y8 (f:Nat->Nat) (v:Value) (k u:Nat) (h:k<4352):(DU f v).setIfInBounds k (.int .u16 (u:Nat))=DU (uG f k u) v:=by
 apply Array.ext_getElem?;intro i;rw[Array.getElem?_setIfInBounds,wG];rcases Nat.lt_trichotomy i 4352 with hi|rfl|hi
 ·rw[uH _ _ hi,uH _ _ hi];by_cases a:k=i
  ·subst a;rw[if_pos rfl,if_pos (by omega),rZ]
  rw[if_neg a,iG _ _ (by omega)]
 ·rw[lT,lT,if_neg (by omega)]
 rw[wH _ _ (by omega),wH _ _ (by omega),if_neg (by omega)]
def Qk (f:Nat->Nat) (v v':Value):(DU f v).setIfInBounds 4352 v'=DU f v':=by
 apply Array.ext_getElem?;intro i;rw[Array.getElem?_setIfInBounds,wG];rcases Nat.lt_trichotomy i 4352 with hi|rfl|hi
 ·rw[uH _ _ hi,uH _ _ hi,if_neg (by omega)]
 ·rw[if_pos rfl,if_pos (by omega),lT]
 rw[wH _ _ (by omega),wH _ _ (by omega),if_neg (by omega)]
def RF:zeroCells217=DU (λ_=>0) (.slice none 0 0):=by kernel_rfl
def zH (a:Option Addr) (n c:Nat):prog.built 217 [(1,.slice a n c)]=some (DU (λ_=>0) (.slice a n c)):=by
 obtain⟨i,g,d,_⟩:∃i,prog.info? 217=some i/\i.zero=some (.agg zeroCells217)/\i.size=4353/\i.bytes=8728:=info_parts (by kernel_rfl);have e:∀b:Array Field,prog.underlying 217=some (.struct b)->b.toList.mapM (λf=>(prog.info? f.type).map λi=>(f.offset,i.size))=some [(0,4352),(4352,1)]:=by
  intro b h;rw[underlying217] at h;cases h
  kernel_rfl
 unfold Program.built;rw[g,underlying217];simp only[d,e _ underlying217];rw[RF];rw[<-Qk (λ_=>0) (.slice none 0 0) (.slice a n c)];simp[Instr.fill,Value.cells,wG]
def tZ {a:Act} (k:o.guard=none) (t e:TypeId) (x:Operand) (y:o.op=.buildSlice t 1 #[(0,x)])
 {d:Nat} {z:Value} (j:mV P t e z b d) (f:0<b) (n:b<=16777216) (us:Array Value) (v:a.eval x=.agg us) (u:us.size=b)
 (h:wpList P ops Q rest (a.put o.dst (.slice (some ⟨w.heap.size,0,none⟩) 1 1)) (w.alloc (.cells us e))):wpList P ops Q (o::rest) a w:=by
 obtain⟨r,q,i,m,g,c,l⟩:=j;refine Go.wpList_buildSlice k t e 1 #[(0,x)] y us i z q m g (by rw[c];omega) (by rw[c];omega) ?_ h;have:=Go.Great.fill_whole (s:=b) f [.agg us] ((Array.range (1*b)).map (z.cells[· % z.cells.size]!)) (by simp[Value.cells,u]) (by simp);simp only[c];have p:((#[(0,x)]:Array (Nat×Operand)).map λ(i,x)=>(i,a.eval x)).toList=(([.agg us]:List Value).zipIdx 0).map λx=>(x.2,x.1):=by simp[v]
 rw[p,this];simp[Value.cells]
def DV {k:TypeId} {a:Act} (e:o.guard=none) (m x v:Operand) (t b:TypeId) (d:o.op=Op.insert t m x v)
 (K:Maps.Keyed P k) (j:P.underlying t=some (.map k b)) (h:dE P k w r G) (f:a.eval m=.map (some r)) {xv vv:Value} (p:a.eval x=xv) (i:a.eval v=vv) (l:iF P k xv)
 (n:∀w',dE P k w' r (Ad G xv vv)->w.grownBy w' (some r)->wpList P ops Q rest (a.put o.dst undef) w'):wpList P ops Q (o::rest) a w:=by
 refine wpList_plain e λu c=>?_;obtain⟨w',q,s,g⟩:=Kh K j h l vv;unfold Oper.wp;simp[execOp,d,f,p,i,q,Result.andThen];exact c _ _ (n w' s g)
def Fs (hf:∀c,f c<65536) (n:Nat):iF prog 213 (.agg (dw f n)):=by
 refine Qi (P:=prog) (k:=213) (e:=145) (n:=256) (q:=.u16) underlying213 underlying145 (by kernel_rfl) (by kernel_rfl) (by kernel_rfl) (m:=prog.types.size-1) (by kernel_rfl) (dw f n) (fA _ _) ?_;intro i a;refine⟨_,fJ f n a,?_⟩;have d:IntKind.u16.min=0:=by decide
 have b:IntKind.u16.max=65535:=by decide
 have:=hf (n*256+i);simp only[Lit.wf,d,b,Bool.and_eq_true,decide_eq_true_eq];omega
def zI (f:Nat->Nat) (n:Nat):dw f n=dw (λx=>f (n*256+x)) 0:=by simp[dw]
def RH {g:Nat->Nat} {m:Nat} (h:dw f n=dw g m) (b:k<256):f (n*256+k)=g (m*256+k):=by
 have a:=fJ f n b;rw[h,fJ g m b] at a;injection a with a;injection a with _ a;omega
def NT (f:Nat->Nat) (n:Nat):∀u∈(dw f n).toList,u.oneCell'=true:=by
 intro u a;simp[dw] at a;obtain⟨k,_,rfl⟩:=a;rfl
def x9 (g:Nat->Nat):List Value:=(dw g 0).toList
def Kl (g:Nat->Nat):(x9 g).length=256:=by simp[x9,fA]
def wI {a:Act} (f:o.guard=none) (x:Operand) (g:o.op=.build 217 #[(1,x)])
 (b:Option Addr) (n c:Nat) (d:a.eval x=.slice b n c)
 (h:wpList prog ops Q rest (a.put o.dst (.agg (DU (λ_=>0) (.slice b n c)))) w):wpList prog ops Q (o::rest) a w:=by
 have e:((#[(1,x)]:Array (Nat×Operand)).map λ(i,x)=>(i,a.eval x)).toList=[(1,.slice b n c)]:=by simp[d]
 refine Go.wpList_build f 217 #[(1,x)] g ?_ ?_
 ·rw[e,zH];rfl
 rw[e,zH];exact h
structure wJ (w:World) (p mp base:Nat) (f:Nat->Nat) (n:Nat) (idx:Nat->Nat) (Bs:List (Nat->Nat)) (v:Value):Prop where
 is:Is w p (DU idx v) 217
 own:w.ownsRow base 213 256 v Bs.length (Bs.flatMap x9)
 map:∃G,dE prog 213 w mp G/\∀x u,G x u->∃(i:Nat) (g:Nat->Nat),Bs[i]? = some g/\x=.agg (dw g 0)/\u=.int .i64 i
 one:∃g,Bs[0]? = some g/\∀k,k<256->g k=0
 lo:∀m,m<n->∃g,Bs[idx m]? = some g/\∀k,k<256->g k=f (m*256+k)
 hi:∀m,n<=m->idx m=0
def wJ.skip {a:Nat->Nat} (h:wJ w p b base f n a Bs v) (d:∀k,k<256->f (n*256+k)=0):wJ w p b base f (n+1) a Bs v:=by
 refine⟨h.is,h.own,h.map,h.one,λm j=>?_,λm j=>h.hi m (by omega)⟩;by_cases e:m=n
 ·subst e;obtain⟨g,l,i⟩:=h.one;rw[h.hi m (Nat.le_refl _)];exact⟨g,l,λk c=>(i k c).trans (d k c).symm⟩
 exact h.lo m (by omega)
def wJ.lay {a:Nat->Nat} (h:wJ w p b base f n a Bs v) (s:n<4352) {i:Nat} {g:Nat->Nat} (o:Bs[i]? = some g) (d:∀k,k<256->g k=f (n*256+k))
 (q:v.ownBlock≠some p) (c:b≠p):wJ (w.setCell ⟨p,n,none⟩ (.int .u16 (i:Nat))) p b base f (n+1) (uG a n i) Bs v:=by
 refine⟨?_,bn h.own q _ _,?_,h.one,λm l=>?_,λm l=>?_⟩
 ·rw[<-Y8 _ _ _ _ s];exact h.is.set _ _
 ·obtain⟨G,r,j⟩:=h.map;exact⟨G,oq r (bX _ _ _ _) (λe=>by injection e with e;exact c e.symm),j⟩
 ·by_cases e:m=n
  ·subst e;rw[rZ];exact⟨g,o,d⟩
  rw[iG a i e];exact h.lo m (by omega)
 rw[iG _ _ (by omega)];exact h.hi m (by omega)
def Km {k:TypeId} {a:Nat} {e:TypeId} {j:List Value} (h:dE P k w r G) (l:w.ownsRow base e a v n j):v.ownBlock≠some r:=by
 intro b;obtain⟨m,o,f,_⟩:=h;rcases l.2 with⟨c,_⟩|⟨g,_,i,c,_,d,_⟩
 ·rw[c] at b;cases b
 rw[c] at b;cases b;rw[f] at d;cases d
def wJ.more {w4 w5 o:World} {a:Nat->Nat} {v':Value} (h:wJ w p b base f n a Bs v) 
 (D:dE prog 213 w4 b G) (A:∀x u,G x u->∃(i:Nat) (g:Nat->Nat),(Bs++[λx=>f (n*256+x)])[i]? = some g/\x=.agg (dw g 0)/\u=.int .i64 i)
 (C:w.grownBy w4 (some b)) (j:p≠b) (c:v.ownBlock≠some b) (l:Below w4.heap.size w4 w5)
 (F:o.ownsRow base 213 256 v' (Bs.length+1) (Bs.flatMap x9++(dw f n).toList)) (B:w5.grownBy o v.ownBlock) (s:v'.ownBlock≠some p) :
 wJ (o.setCell ⟨p,4352,none⟩ v') p b base f n a (Bs++[λx=>f (n*256+x)]) v':=by
 have d:Is w4 p (DU a v) 217:=h.is.grown C (λe=>j (by injection e with e;exact e.symm));have y:=h.own.kept C (.inr λe=>c e);have r:=aH y l;have z:Is o p (DU a v) 217:=(d.mono l).grown B ((d.mono l).other r (by decide));have t:=oq (D.mono l) B c;refine⟨?_,?_,⟨G,oq t (bX _ _ _ _) (λe=>j (by injection e)),A⟩,?_,λm E=>?_,h.hi⟩
 ·rw[<-Qk a v v'];exact z.set 4352 _
 ·have:=bn F s 4352 v';rw[List.length_append,List.flatMap_append];have H:List.flatMap x9 [λx=>f (n*256+x)]=(dw f n).toList:=by
   rw[zI f n];simp[x9]
  rw[H];exact this
 ·obtain⟨g,k,q⟩:=h.one;exact⟨g,by rw[List.getElem?_append_left (List.getElem?_eq_some_iff.1 k).1];exact k,q⟩
 obtain⟨g,k,q⟩:=h.lo m E;exact⟨g,by rw[List.getElem?_append_left (List.getElem?_eq_some_iff.1 k).1];exact k,q⟩
def wJ.pages {t:Nat} {d:Nat->Nat} (h:wJ w p t base f 4352 d Bs v) (k:Bs.length<=4353) (hf:∀c,f c<65536):lS w p f:=by
 obtain⟨y,e,_⟩:=h.one;obtain⟨e,_⟩:=List.getElem?_eq_some_iff.1 e;obtain⟨g,cap,j,m,o,_,_⟩:=dC (f:=x9) Kl rfl h.own e;refine⟨d,Bs.length,g,cap,h.is.lt,o,m,by omega,?_,λn l=>⟨?_,h.is.at n (uH _ _ l)⟩,λc m=>⟨hf c,?_⟩⟩
 ·rw[<-j];exact h.is.at 4352 (lT _ _)
 ·obtain⟨_,b,_⟩:=h.lo n l;exact(List.getElem?_eq_some_iff.1 b).1
 obtain⟨q,b,s⟩:=h.lo (c / 256) (by omega);obtain⟨b,u⟩:=List.getElem?_eq_some_iff.1 b;obtain⟨z,i,a,_,_,_,x⟩:=dC (f:=x9) Kl rfl h.own b;rw[j] at a;injection a with e1 _ _;injection e1 with e1;injection e1 with e1 _ _;subst e1;obtain⟨r,_⟩:=x (c % 256) (Nat.mod_lt _ (by decide));rw[r,u];show(dw q 0).toList[c % 256]? = _;rw[Array.getElem?_toList,fJ _ _ (Nat.mod_lt _ (by decide)),Nat.zero_mul,Nat.zero_add,s _ (Nat.mod_lt _ (by decide))];have:c / 256*256+c % 256=c:=by omega
 rw[this]
def cellC (x:Nat×Nat):List Value:=[.int .i32 x.1,.int .u16 x.2]
def RI (x:Nat×Nat):(cellC x).length=2:=rfl
def Kn (hv:w.ownsRow base 260 2 v L.length (L.flatMap cellC)) (hL:∀x∈L,x.1<1114112/\x.2<65536) (hn:L.length<100000) :
 Calls prog 156 #[v] w λe w'=>∃p,e=.returned (.pointer (some ⟨p,0,none⟩))/\lS w' p (iZ L)/\Below w.heap.size w w':=by
 have HL:=aa hL;obtain⟨nt,au⟩:=ae L.length;have vI:=aa au;have HX:=aa (λ(j:Nat) (hj:j<L.length)=>dC (hf:=RI) rfl hv hj);obtain⟨va,vc,rfl,_,_⟩:=ak hv;have Q:(Instr.makeMap 314 none).run prog w=.ok (.map (some w.heap.size)) (w.alloc (.map #[] 0)):=rfl;rw[<-au] at hn⊢;clear hv hL au;go_enter func156,ntmps156;go_wp2_with fail;clear Q;have R0:=wF.new w;have aM:Below w.heap.size w (w.alloc (.map #[] 0)):=ah _;have a9:(w.alloc (.map #[] 0)).heap.size=w.heap.size+1:=by simp
 generalize w.alloc (.map #[] 0)=w1 at *;go_loopw [16] (λiv wr=>∃j:Nat,j<=nt/\iv=.int .i64 j/\(∃U,wF wr w.heap.size (iZ (L.take j)) U)/\Below w.heap.size w wr) (λiv _=>nt-(intOf iv).toNat)
 case atStart=>exact⟨0,Nat.zero_le _,rfl,⟨_,R0⟩,aM⟩
 case round=>
  clear R0 aM a9;obtain⟨j,hj,rfl,⟨U,E⟩,hE⟩:=hrel;by_cases bn:j<nt
  ·have zj:=eG (show j<nt by omega);have ad:j<L.length:=by have:=vI.out;omega
   obtain⟨g,cap,Y,_,aU,_,hx⟩:=HX.out j ad;injection Y with Y _ a8;subst Y;subst a8;have hc:=HL.out _ (List.getElem_mem ad);have c0:wr.cell? ⟨g,j*2,none⟩=some (.int .i32 (L[j].1:Nat)):=aB hE ((hx 0 (by omega)).1.trans rfl);have c1:wr.cell? ⟨g,j*2+1,none⟩=some (.int .u16 (L[j].2:Nat)):=aB hE ((hx 1 (by omega)).1.trans rfl);have HS:=aa (show iZ (L.take (j+1))=uG (iZ (L.take j)) (L[j].1) (L[j].2) by rw[List.take_succ_eq_append_getElem ad,NS]);clear hx aU;generalize L[j]=q at *;obtain⟨c,u⟩:=q;simp only at c0 c1 hc HS;obtain⟨aW,bh⟩:=hc;obtain⟨w3,R⟩:=ae (wr.alloc (.cells #[.int .i32 (c:Nat),.int .u16 (u:Nat)] 260));have k3:=Is.nw R;have ao:=aO R;have e0:=k3.at 0 rfl;have e1:=k3.at 1 rfl;have IN:=aa (Qj (w:=w3) c aW);have hm:=Fq c (by omega);have hd:((c:Int) / 256)=((c / 256:Nat):Int):=by omega
   have bm:=Nat.div_add_mod c 256;have Q:=Nat.mod_lt c (show 0<256 by decide);generalize c / 256=n at *;generalize c % 256=k at *;have C:n<4352:=by omega
   have R3:=E.mono ao;have s:=Ap n (by omega);have Z:=zeroValue315 w3;have bi:=E.map.lt;clear E;go_upto_region 5 with fail;rw[<-R];clear R c0 c1
   go_wp2_with (first
    | (go_at_call 123;refine IN.out.mono ?_;rintro e w4⟨rfl,rfl⟩)
    | (refine iL rfl _ _ 314 315 false rfl jR underlying314 R3.map rfl rfl s Z ?_ ?_)
    | fail)
   ·intro d
    replace d:=r_ d
    obtain⟨wb,l⟩:=ae (w4.alloc (.cells zeroCells213 213));have Rb:dE prog 21 wb w.heap.size (G7 U):=by rw[l];exact R3.map.mono (ah _)
    have o:wb.heap.size=w4.heap.size+1:=by rw[l];simp
    go_wp2_with (first
     | (rw[<-l];refine jQ (xv:=.int .i32 n) (vv:=.pointer (some ⟨w4.heap.size,0,none⟩)) rfl _ _ _ 314 315 rfl jR underlying314 Rb rfl rfl rfl s ?_;intro w5 K r)
     | fail)
    have ac:Below w4.heap.size w4 wb:=by rw[l];exact ah _
    have Y9:=R3.map.lt;obtain⟨Y_,H,R5⟩:∃Y_:Nat->Option Nat,Y_ n=some w4.heap.size/\wF w5 w.heap.size (iZ (L.take j)) Y_:=⟨_,if_pos rfl,R3.add d C K (l▸r)⟩;have lN:Below w.heap.size w w4:=af hE ao;have jP:Below w.heap.size w w5:=(lN.trans (ac.mono lN.size)).grown r (Nat.le_trans lN.size ac.size) (λk t=>by injection t with t;omega);have k5:Is w5 wr.heap.size #[.int .i32 (c:Nat),.int .u16 (u:Nat)] 260:=(k3.mono ac).grown r (λe=>by injection e with e;have:=hE.size;omega);obtain⟨_,aX,M⟩:=R5.is n _ H;clear l K r Rb;clear e0 e1 Z IN;go_upto_region 9 with fail;simp only[Act.put];have bp:=k5.mono (ag w5);have I:=M.mono (ag w5);have Rd:=R5.mono (ag w5);have g0:=k5.gd 0 rfl;have g1:=k5.gd 1 rfl;refine aC #[true,true,true,true,true,true,true,true,true,true,false] 10 1 mixed ?_;refine ay [0,1,3,4,5,6,7] 3 ?_
    iterate 7 (refine aA rfl ?_;go_big_quiet_step (rfl))
    refine az ?_;refine aI 2 ?_;refine iL rfl _ _ 314 315 false rfl jR underlying314 Rd.map rfl rfl s (zeroValue315 _) (λd=>absurd (r_ d) (by rw[H];simp)) ?_;intro pv a;obtain⟨b',J,rfl⟩:=r9 a;rw[H] at J;cases J;clear a;go_wp2_with fail;refine aF (Below.refl _ _) ?_;refine ay [8,9] 0 ?_
    iterate 2 (refine aA rfl ?_;go_big_quiet_step (rfl))
    refine az ?_;refine aJ [10] ?_;have d9:=I.frozen k;have e9:=I.at k (fJ _ _ (by omega));refine tail_cons rfl ?_;go_wp2_with fail;refine tail_nil ?_;go_wp2;go_roundw
    case rel=>
     refine⟨j+1,by omega,by simp,⟨Y_,?_⟩,?_⟩
     ·rw[HS.out,show c=n*256+k by omega];exact Rd.put H (by omega)
     exact aj ((jP.trans ((ag w5).mono jP.size))) (by omega)
    case measure=>simp[intOf];omega
   intro pv a;obtain⟨b,H,rfl⟩:=r9 a;clear a;obtain⟨_,aX,M⟩:=R3.is n b H;have lN:Below w.heap.size w w4:=af hE ao;clear e0 e1 Z IN;go_upto_region 9 with fail;have bf:=k3.mono (ag w4);have I:=M.mono (ag w4);have Rd:=R3.mono (ag w4);have g0:=k3.gd 0 rfl;have g1:=k3.gd 1 rfl;refine aC #[true,true,true,true,true,true,true,true,true,true,false] 10 1 mixed ?_;refine ay [0,1,3,4,5,6,7] 3 ?_
   iterate 7 (refine aA rfl ?_;go_big_quiet_step (rfl))
   refine az ?_;refine aI 2 ?_;refine iL rfl _ _ 314 315 false rfl jR underlying314 Rd.map rfl rfl s (zeroValue315 _) (λd=>absurd (r_ d) (by rw[H];simp)) ?_;intro pv a;obtain⟨b',J,rfl⟩:=r9 a;rw[H] at J;cases J;clear a;go_wp2_with fail;refine aF (Below.refl _ _) ?_;refine ay [8,9] 0 ?_
   iterate 2 (refine aA rfl ?_;go_big_quiet_step (rfl))
   refine az ?_;refine aJ [10] ?_;have d9:=I.frozen k;have e9:=I.at k (fJ _ _ (by omega));refine tail_cons rfl ?_;go_wp2_with fail;refine tail_nil ?_;go_wp2;go_roundw
   case rel=>
    refine⟨j+1,by omega,by simp,⟨U,?_⟩,?_⟩
    ·rw[HS.out,show c=n*256+k by omega];exact Rd.put H (by omega)
    exact aj ((lN.trans ((ag w4).mono lN.size))) (by omega)
   case measure=>simp[intOf];omega
  have zj:=gI (show nt<=j by omega);have hf:=Kj (L:=L) λx hx=>(HL.out x hx).2;have aN:L.take j=L:=by rw[List.take_of_length_le];have:=vI.out;omega
  rw[aN] at E;have HF:=aa (show ∃f,f=iZ L from ⟨_,rfl⟩);obtain⟨f,an⟩:=HF.out;rw[<-an] at hf E;have aZ:=aa an;clear an HF aN;have HR:=aa E;have hM:=E.map.lt;obtain⟨B,hB⟩:=ae wr.heap.size;obtain⟨wa,RJ⟩:=ae (wr.alloc (.cells zeroCells213 213));have z:wa.heap.size=B+1:=by rw[RJ];simp[hB]
  have aG:Below B wr wa:=by rw[RJ,hB];exact ah _
  have ka:Is wa B zeroCells213 213:=by rw[RJ,hB];exact Is.new _ _ _
  obtain⟨wb,l⟩:=ae (wa.alloc (.cells (DU (λ_=>0) (.slice (some ⟨B,0,none⟩) 1 1)) 217));have o:wb.heap.size=B+2:=by rw[l];simp[z]
  have ap:Below (B+1) wa wb:=by rw[l,<-z];exact ah _
  have M:Is wb (B+1) (DU (λ_=>0) (.slice (some ⟨B,0,none⟩) 1 1)) 217:=by rw[l,<-z];exact Is.new _ _ _
  obtain⟨wc,D⟩:=ae (wb.alloc (.map #[] 0));have P:wc.heap.size=B+3:=by rw[D];simp[o]
  have Ql:Below (B+2) wb wc:=by rw[D,<-o];exact ah _
  have mc:dE prog 213 wc (B+2) λ_ _=>False:=by rw[D,<-o];exact dE.new _ _
  have Q:(Instr.makeMap 316 none).run prog wb=.ok (.map (some (B+2))) wc:=by rw[D,<-o];rfl
  have ai:=Fs (f:=λ_=>0) (λ_=>by decide) 0;rw[pg _ _ (λ_ _=>rfl)] at ai;have aP:=aa RJ;have aS:=aa l;have a0:=aa D;have HB:=aa hB;have ar:=aa z;have aE:=aa o;have NU:=aa P;clear E RJ l D hB z o P
  go_wp2_with (first
   | (refine tZ rfl 215 213 _ rfl x8 (by decide) (by decide) zeroCells213 rfl (by kernel_rfl) ?_;rw[<-aP.out,<-HB.out])
   | (refine wI rfl _ rfl (some ⟨B,0,none⟩) 1 1 rfl ?_)
   | (refine Go.Great.wpList_boxTo rfl 217 _ rfl _ rfl (B+1) ar.out (DU (λ_=>0) (.slice (some ⟨B,0,none⟩) 1 1)) rfl ?_;rw[<-aS.out])
   | (refine DV (xv:=.agg zeroCells213) (vv:=.int .i64 0) rfl _ _ _ 316 3 rfl uF underlying316 mc rfl rfl rfl ai ?_;intro wd ax T)
   | fail)
  have A:(zeroCells213).size=256:=by kernel_rfl
  have oa:wa.ownsRow B 213 256 (.slice (some ⟨B,0,none⟩) 1 1) 1 ([λ_=>0].flatMap x9):=by
   have e:[λ_=>0].flatMap x9=(zeroCells213).toList:=by
    simp only[List.flatMap_cons,List.flatMap_nil,List.append_nil,x9];rw[pg _ _ (λ_ _=>rfl)]
   rw[e];exact⟨by rw[Array.length_toList,A],.inr ⟨B,1,_,rfl,Nat.le_refl _,ka.at_,Nat.le_refl _,by decide,by rw[A],by rw[List.take_of_length_le];simp[A]⟩⟩
  have Vk:B=wr.heap.size:=HB.out;have z:=ar.out;have o:=aE.out;have P:=NU.out;have ob:=aH oa (z▸ap);have oc:=aH ob (o▸Ql);have od:wd.ownsRow B 213 256 (.slice (some ⟨B,0,none⟩) 1 1) 1 ([λ_=>0].flatMap x9):=oc.kept T (.inr (λe=>by simp[Value.ownBlock] at e));have kd:Is wd (B+1) (DU (λ_=>0) (.slice (some ⟨B,0,none⟩) 1 1)) 217:=(M.mono (o▸Ql)).grown T (λe=>by injection e with e;omega);have Za:Below B wr wd:=((aG.trans (ap.mono (by omega))).trans (Ql.mono (by omega))).grown T (by omega) (λk t=>by injection t with t;omega);have y:wJ wd (B+1) (B+2) B f 0 (λ_=>0) [λ_=>0] (.slice (some ⟨B,0,none⟩) 1 1):=by
   refine⟨kd,od,⟨_,ax,?_⟩,⟨_,rfl,λ_ _=>rfl⟩,λm hm=>by omega,λ_ _=>rfl⟩;rintro x u (⟨rfl,rfl⟩|⟨_,h⟩)
   ·exact⟨0,_,rfl,by rw[pg _ _ (λ_ _=>rfl)],rfl⟩
   exact h.elim
  have a1:B<=wd.heap.size:=by have:=Za.size;omega
  clear ax T kd od oc ob oa A Q ai mc M ka aG ap Ql P o z aP aS a0 ar aE NU;obtain⟨wE,a_⟩:=ae wr;subst a_;have bo:w.heap.size<B:=by omega
  clear Vk;go_loopw [53] (λiv wn=>∃n:Nat,n<=4352/\iv=.int .i64 n/\(∃al Bs v,wJ wn (B+1) (B+2) B f n al Bs v/\Bs.length<=n+1)/\Below B wE wn) (λiv _=>4352-(intOf iv).toNat)
  case atStart=>exact⟨0,Nat.zero_le _,rfl,⟨_,_,_,y,by simp⟩,Za⟩
  case round=>
   clear y Za a1;obtain⟨n,rW,rfl,⟨al,Bs,v,y,X⟩,NV⟩:=hrel;by_cases C:n<4352
   ·have zn:decide ((n:Int)<4352)=true:=by simp;omega
    have E:=HR.out.mono (HB.out▸NV);have s:=Ap n (by omega)
    go_wp2_with (first
     | (refine iL rfl _ _ 314 315 false rfl jR underlying314 E.map rfl rfl s (zeroValue315 _) ?_ ?_)
     | fail)
    ·intro d
     replace d:=r_ d
     have aq:=y.skip (E.no n d);go_wp2_with fail;go_roundw
     case rel=>exact⟨n+1,by omega,by simp,⟨_,_,_,aq,by omega⟩,NV⟩
     case measure=>simp[intOf];omega
    intro pv a;obtain⟨b,H,rfl⟩:=r9 a;clear a;obtain⟨_,_,M⟩:=E.is n b H;have bk:b<B:=by have:=(HR.out.is n b H).2.2.lt;have:=HB.out;omega
    have aw:=Fs hf n;obtain⟨G,hG,aR⟩:=y.map;have aL:=aa aR;clear aR
    go_wp2_with (first
     | (refine Go.wpList_load_row rfl 213 _ rfl b rfl 213 (dw f n) (0,0) _ M.at_ underlying213 rfl (by rw[fA];kernel_rfl) ?_)
     | (refine iL rfl _ _ 316 3 true rfl uF underlying316 hG rfl rfl aw (zeroValue3 _) ?_ ?_)
     | fail)
    ·intro d;obtain⟨a2,aY,a7,_,_⟩:=ak y.own;subst a7;have Q6:=aa y.own.1;obtain⟨N,F⟩:=ae Bs.length;have Zb:=aa F;have e0:=y.is.at 4352 (lT _ _);rw[<-F] at e0 X;clear F Q6
     go_wp2_with (first
      | (refine Go.wpList_load_row rfl 213 _ rfl b rfl 213 (dw f n) (0,0) _ M.at_ underlying213 rfl (by rw[fA];kernel_rfl) ?_)
      | (refine jQ (xv:=.agg (dw f n)) (vv:=.int .i64 N) rfl _ _ _ 316 3 rfl uF underlying316 hG rfl rfl rfl aw ?_;intro w5 K r)
      | fail)
     simp only[Act.put];have F:=Zb.out;have ho:=y.own;have hi:=y.is;rw[<-F] at ho hi;have av:=Km hG ho;have V:=hi.other ho (by decide);have k5:=hi.grown r (λe=>by injection e with e;omega);have a4:=ho.kept r (.inr av);have bc:=M.grown r (λe=>by injection e with e;omega);have aV:B+2<=w5.heap.size:=by have:=k5.lt;omega
     have k6:=k5.mono (ag w5);have Us:=aH a4 (ag w5);have aT:=bc.mono (ag w5);have bl:B+2<=w5.drew.heap.size:=aV;have g0:=vG.keeps (S:=λk=>k=B+1\/k<B) (k6.at 4352 (lT _ _)) (.inl rfl);have HN:=aa y;have bb:=aa K;have aD:=aa r;clear F y hG E e0 K r;refine dF (KR.blocks λk=>k=B+1\/k<B) #[true,true,true,true,true,true,true,true,true,true,true,true,false] 12 1 mixed ?_;refine bZ [0,1,2,3,4,5,6] 5 ?_
     iterate 7 (refine aA rfl ?_;go_big_quiet_step (rfl))
     refine az ?_;refine bN 7 ?_;refine Go.wpList_load_row rfl 213 _ rfl b rfl 213 (dw f n) (0,0) _ aT.at_ underlying213 rfl (by rw[fA];kernel_rfl) ?_;go_wp2_with fail;refine bK (KR.refl _ _) ?_;refine bN 8 ?_;refine tZ rfl 215 213 _ rfl x8 (by decide) (by decide) (dw f n) rfl (fA _ _) ?_;go_wp2_with fail;refine bK (KR.of_below (ah _) (by simp) (λk t=>by rcases t with rfl|t <;> omega)) ?_;refine bN 9 ?_;refine Bt (W:=w5.drew) rfl _ _ 215 rfl B 213 _ 256 512 x8 (by decide) (by decide) (.slice a2 N aY) N (Bs.flatMap x9) rfl Us (dw f n) rfl (fA _ _) (NT _ _) (by omega) (by omega) ?_;intro v1 w9 o9 o_ Dw;obtain⟨na,nc,rfl,_,_⟩:=ak o9;go_wp2_with fail;have k7:=k6.mono (ah (.cells (dw f n) 213));have a3:=aH Us (ah (.cells (dw f n) 213));have k9:=k7.grown Dw V;have bd:B+2<=w9.heap.size:=k9.lt;refine bK (KR.bQ (w:=w5.drew.alloc (.cells (dw f n) 213)) Dw Dw.size (λk t=>?_)) ?_
     ·rcases t with rfl|t
      ·exact⟨k7.lt,V⟩
      exact⟨by simp;omega,Go.Cd.aQ ho t⟩
     refine bZ [10,11] 0 ?_
     iterate 2 (refine aA rfl ?_;go_big_quiet_step (rfl))
     refine az ?_;have e9:=k9.at 4352 (lT _ _);have d9:=k9.frozen 4352;refine eU [12] ?_;refine tail_cons rfl ?_;go_wp2_with fail;refine tail_nil ?_;have NY:wJ (w9.setCell ⟨B+1,4352,none⟩ (.slice na (N+1) nc)) (B+1) (B+2) B f n al (Bs++[λx=>f (n*256+x)]) (.slice na (N+1) nc):=by
      have a5:=k9.other o9 (by decide);refine HN.out.more (w4:=w5) (w5:=w5.drew.alloc (.cells (dw f n) 213)) bb.out ?_ aD.out (by omega) (Zb.out▸av) ((ag w5).alloc (Nat.le_refl _) _) (Zb.out▸o9) (Zb.out▸Dw) a5;rintro x u (⟨rfl,rfl⟩|⟨_,hx⟩)
      ·refine⟨N,_,?_,by rw[zI],rfl⟩;rw[Zb.out,List.getElem?_append_right (Nat.le_refl _)];simp
      obtain⟨i,g,h1,h2⟩:=aL.out _ _ hx;exact⟨i,g,by rw[List.getElem?_append_left (List.getElem?_eq_some_iff.1 h1).1];exact h1,h2⟩
     have Ko:Below B wE (w9.setCell ⟨B+1,4352,none⟩ (.slice na (N+1) nc)):=by
      refine aj (((NV.grown aD.out (by have:=NV.size;have:=HB.out;omega) (λk t=>by injection t with t;omega)).trans (((ag w5).mono (by omega)).alloc (by omega) _)).grown Dw (by simp;omega) (λk t=>(ho.lt k t).1)) (by omega)
     obtain⟨wf,am⟩:=ae (w9.setCell ⟨B+1,4352,none⟩ (.slice na (N+1) nc));rw[<-am] at NY Ko;have aK:=NY.own;have ab:(Bs++[λx=>f (n*256+x)])[N]? = some (λx=>f (n*256+x)):=by
      rw[Zb.out,List.getElem?_append_right (Nat.le_refl _)];simp
     have a6:=aa (NY.lay C ab (λ_ _=>rfl) (NY.is.other aK (by decide)) (by omega));have bj:=NY.is.at n (uH _ _ C);have bg:=NY.is.frozen n;rw[<-am];clear e9 d9 am NY aK k9 Dw o9 k7 a3;go_wp2_with fail;go_roundw
     case rel=>exact⟨n+1,by omega,by simp,⟨_,_,_,a6.out,by rw[List.length_append,<-Zb.out];simp;omega⟩,aj Ko (by omega)⟩
     case measure=>simp[intOf];omega
    intro pv a;obtain⟨i,g,hi,O,rfl⟩:=aL.out _ _ a;have be:=(List.getElem?_eq_some_iff.1 hi).1;have Zc:i<65536:=by omega
    have ba:=aa (λk (t:k<256)=>show g k=f (n*256+k) from by
     injection O with O;have:=RH O t;rw[Nat.zero_mul,Nat.zero_add] at this
     exact this.symm)
    have e9:=y.is.at n (uH _ _ C);have d9:=y.is.frozen n;have V:=y.is.other y.own (by decide);have aq:=aa (y.lay C hi ba.out V (by omega));clear a O;go_wp2_with fail;go_roundw
    case rel=>exact⟨n+1,by omega,by simp,⟨_,_,_,aq.out,by omega⟩,aj NV (by omega)⟩
    case measure=>simp[intOf];omega
   have zn:decide ((n:Int)<4352)=false:=by simp;omega
   obtain rfl:n=4352:=by omega
   have hP:=y.pages X hf;rw[aZ.out] at hP;go_wp2_with fail;go_ret;exact⟨B+1,rfl,hP,hE.trans (NV.mono (by omega))⟩
end Go.Proofs.YtmnimbnojdndmaaGreatDoor
