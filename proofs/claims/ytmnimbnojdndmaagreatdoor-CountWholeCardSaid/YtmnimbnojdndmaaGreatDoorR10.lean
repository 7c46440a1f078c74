/- One machine of an NFD counts as its units do, multiplied; no condition. -/
import Derived.Test.YtmnimbnojdndmaaGreatDoorR09
set_option maxRecDepth 100000
set_option maxHeartbeats 6400000
set_option linter.all false
namespace Go.Proofs.YtmnimbnojdndmaaGreatDoor
open Go.RowKit Go.Cd
def jS {w w':World} {base a n:Nat} {e:TypeId} {v:Value} {d:List Value} (h:w.ownsRow base e a v n d) (j:∀k,v.ownBlock=some k->w'.heap[k]? = w.heap[k]?):w'.ownsRow base e a v n d:=by
 obtain⟨l,f⟩:=h;refine⟨l,f.imp id ?_⟩;rintro⟨g,cap,b,c,i,m,r⟩;exact⟨g,cap,b,c,i,(j g (by rw[c];rfl)).trans m,r⟩
def mZ (w:World) (k:Nat) (T:TypeId):Prop:=∃a,w.heap[k]? = some (.cells a T)
def mZ.one {w:World} {k:Nat} {T b:TypeId} (h:mZ w k T) (e:mZ w k b):T=b:=by
 obtain⟨f,d⟩:=h;obtain⟨c,a⟩:=e;rw[d] at a;injection a with a;injection a
def bV {w:World} {base a n:Nat} {e:TypeId} {v:Value} {i:List Value} (h:w.ownsRow base e a v n i) {k:Nat} (b:v.ownBlock=some k):mZ w k e:=by
 rcases h.2 with⟨c,_⟩|⟨g,_,d,c,_,f,_⟩
 ·rw[c] at b;cases b
 rw[c] at b;cases b;exact⟨d,f⟩
abbrev ig:=Nat->Option Nat
def Ut (W:World) (Z:ig):Prop:=∀k,Z k≠none->k<W.heap.size/\mZ W k aN
def si (W:World) (B:Nat) (Z:ig) (o:Nat) (v:Value) (l:List Nat):Prop:=W.ownsRow B aN 1 v l.length (aM l)/\∀k,v.ownBlock=some k->Z k=some o
structure vK (W:World) (Z:ig) (o:Nat) (W':World) (Z':ig):Prop where
 os:W'.os=W.os
 tape:W'.tape=W.tape
 output:W'.output=W.output
 size:W.heap.size<=W'.heap.size
 keep:∀k,k<W.heap.size->Z k≠some o->W'.heap[k]? = W.heap[k]?
 sub:∀k,k<W.heap.size->Z k≠some o->Z' k=Z k
 z:Ut W' Z'
def si.nil (W:World) (B:Nat) (Z:ig) (o:Nat):si W B Z o (.slice none 0 0) []:=⟨World.ownsRow_nil _ _ _ _,λk h=>by simp[Value.ownBlock] at h⟩
def Ut.lt {W:World} {Z:ig} (h:Ut W Z) {k o:Nat} (a:Z k=some o):k<W.heap.size:=(h k (by rw[a];simp)).1
def Ut.mono {W a:World} {Z:ig} (h:Ut W Z) (g:W.heap.size<=a.heap.size) (d:∀k,Z k≠none->a.heap[k]? = W.heap[k]?):Ut a Z:=λk b=>by
 obtain⟨f,e,c⟩:=h k b;exact⟨by omega,e,(d k b).trans c⟩
def si.mono {W a:World} {B:Nat} {Z:ig} {o:Nat} {v:Value} {l:List Nat} (h:si W B Z o v l) (b:∀k,Z k≠none->a.heap[k]? = W.heap[k]?):si a B Z o v l:=
 ⟨jS h.1 λk c=>b k (by rw[h.2 k c];simp),h.2⟩
def vK.other {W c:World} {Z d:ig} {o:Nat} (h:vK W Z o c d) {o' B:Nat} (f:o'≠o) {v:Value} {l:List Nat} (a:si W B Z o' v l):si c B d o' v l:=by
 refine⟨jS a.1 λk b=>h.keep k (a.1.lt k b).2 λe=>f ?_,λk b=>?_⟩
 ·rw[a.2 k b] at e;injection e
 rw[h.sub k (a.1.lt k b).2 λe=>f (by rw[a.2 k b] at e;injection e)];exact a.2 k b
def vK.free {W f:World} {Z g:ig} {o:Nat} (h:vK W Z o f g) {B n a:Nat} {e:TypeId} {v:Value} {i:List Value} (d:W.ownsRow B e a v n i) (c:∀k,v.ownBlock=some k->Z k=none):f.ownsRow B e a v n i/\∀k,v.ownBlock=some k->g k=none:=by
 refine⟨jS d λk b=>h.keep k (d.lt k b).2 λe=>?_,λk b=>?_⟩
 ·rw[c k b] at e;cases e
 rw[h.sub k (d.lt k b).2 λe=>(by rw[c k b] at e;cases e)];exact c k b
def vK.below {W a:World} {Z c:ig} {o:Nat} (h:vK W Z o a c) {B:Nat} (b:∀k,Z k≠none->B<=k) (f:B<=W.heap.size):Below B W a:=
 ⟨h.os,h.tape,h.output,h.size,λk d=>h.keep k (by omega) λe=>by have:=b k (by rw[e];simp);omega⟩
def vK.ja {W d:World} {Z:ig} {o B:Nat} {v v':Value} {l l':List Nat} (r:Ut W Z) (m:si W B Z o v l) (i:d.ownsRow B aN 1 v' l'.length (aM l')) (b:W.grownBy d v.ownBlock) (h:kK W v v') :
 ∃n,vK W Z o d n/\si d B n o v' l':=by
 refine⟨λk=>if v'.ownBlock=some k then some o else if v.ownBlock=some k then none else Z k,⟨b.os,b.tape,b.output,b.size,λk a f=>b.block k a λe=>f (m.2 k e.symm),λk a f=>?_,λk a=>?_⟩,i,λk a=>by simp[a]⟩
 ·have c:v.ownBlock≠some k:=λe=>f (m.2 k e);have s:v'.ownBlock≠some k:=λe=>by
   rcases h with h|⟨t,g,j⟩
   ·exact c (h▸e)
   rw[g] at e;injection e with e;omega
  simp[s,c]
 by_cases e:v'.ownBlock=some k
 ·exact⟨(i.lt k e).2,bV i e⟩
 simp only[if_neg e] at a;by_cases c:v.ownBlock=some k
 ·simp[c] at a
 simp only[if_neg c] at a;obtain⟨g,q,j⟩:=r k a;have:=b.size;exact⟨by omega,q,(b.block k g λp=>c p.symm).trans j⟩
def ng {P:Program} {W:World} {ops:Array Oper} {rest:List Oper} {o:Oper} {a:Act} {Q:Exit->Act->World->Prop} (N:o.guard=none) (s x:Operand) (t:TypeId)
 (ho:o.op=.call { callee:=.builtin .append,args:=#[s,x],argTypes:=#[t,t] })
 (base:Nat) (e:TypeId) (z:Value) (b:Nat) (Z:Elem P t e z b) (U:b<=100000)
 {v:Value} {n:Nat} {G:List Value} (hs:a.eval s=v) (f:W.ownsRow base e 1 v n G) (y:base<=W.heap.size)
 (us:List Value) (V:∀u∈us,u.oneCell'=true) (p:Addr) (m c:Nat) (hm:m=us.length) (Y:a.eval x=.slice (some p) m c) (E:∀j u,us[j]? = some u->W.cell? (p.add j)=some u) (hn:n+m<1000000)
 (h:∀v' I,I.ownsRow base e 1 v' (n+m) (G++us)->W.grownBy I v.ownBlock->kK W v v'->wpList P ops Q rest (a.put o.dst v') I):wpList P ops Q (o::rest) a W:=by
 obtain⟨J,B,i,A,L,d,r⟩:=Z;have H:us.length=m*i.size:=by rw[d];omega
 have M:us.length=m*1:=by omega
 have K:(n+m)*b<=140737488355328:=by
  have:(n+m)*b<=1000000*100000:=Nat.mul_le_mul (by omega) U;omega
 obtain⟨v',w',l,X,h3,_⟩:=run_append_own (P:=P) W base t o.type e i z 1 b B A L d r (kG J) (by decide) v n G f p m c us M E V (by unfold maxLen;omega) K y;refine Lib.wpList_append_run _ N s x _ _ ho v _ hs Y v' w' l (h v' w' X h3 ?_);rcases Nat.eq_zero_or_pos m with hm0|hm0
 ·have R:us=[]:=List.length_eq_zero_iff.1 (by omega);subst R;subst hm0;have k:(Builtin.append_ #[t,t] o.type #[v,.slice (some p) 0 c]).run P W=.ok v W:=by
   rcases f.2 with⟨rfl,rfl⟩|⟨g,cap,C,rfl,O,T,F,S,D,q⟩
   ·simp[Builtin.append_,run_underlying B,sizeOf,typeInfo,A,Builtin.lenOf,run_firstCells_some (P:=P) W i.size 0 p 0 c [] H E]
   simp[Builtin.append_,run_underlying B,sizeOf,typeInfo,A,Builtin.lenOf,F,Builtin.firstCells,loadCells,loadCellsFrom,storeCells]
  rw[k] at l;injection l with e1 _;subst e1;exact .inl rfl
 rcases f.2 with⟨rfl,rfl⟩|⟨g,cap,C,rfl,O,T,F,S,D,q⟩
 ·have k:=run_append_nil (P:=P) W t o.type e i z B A L p m c us H E hm0 (by omega) (by rw[r];have:=Nat.mul_le_mul (show m<=1000000 by omega) U;omega);rw[k] at l;injection l with e1 _;subst e1;exact .inr ⟨_,rfl,Nat.le_refl _⟩
 by_cases w:n+m<=cap
 ·have k:=run_append_room (P:=P) W t o.type e i B A g n cap C T p m c us H E V w (by rw[d,D];omega);rw[k] at l;injection l with e1 _;subst e1;exact .inl rfl
 have k:=run_append_grow (P:=P) W t o.type e i z B A L ⟨g,0,none⟩ n cap G (by rw[d];exact f.1) (f.cells (g:=g) rfl) p m c us H E (by omega) (by omega) (growslice_fits (by omega) (by rw[r];omega));rw[k] at l;injection l with e1 _;subst e1;exact .inr ⟨_,rfl,Nat.le_refl _⟩
section
open Go.RowKit Go.Cd _root_.Go.Proofs.Tryz
def dS {W a:World} {k:Nat} {b:Array Value} {T:TypeId} (h:Is W k b T) (c:a.heap[k]? = W.heap[k]?):Is a k b T:=⟨c.trans h.at_⟩
def dz {w:World} {base n:Nat} {e:TypeId} {v:Value} {d:List Value} (h:w.ownsRow base e 1 v n d) (o:0<n):∃g cap,v=.slice (some ⟨g,0,none⟩) n cap/\n<=cap/\base<=g/\g<w.heap.size/\mZ w g e/\∀i u,d[i]? = some u->w.cell? ⟨g,i,none⟩=some u:=by
 rcases h.2 with⟨_,h0⟩|⟨g,cap,c,rfl,j,a,k,l,m,f⟩
 ·omega
 refine⟨g,cap,rfl,k,j,block_lt a,⟨c,a⟩,λi u b=>?_⟩;unfold World.cell?;rw[a,<-f,List.getElem?_take] at *
 split at b
 ·simpa using b
 cases b
def BD {P:Program} {ops:Array Oper} {C:World->Prop} {K:Act->Prop} {o:Oper} {rest:List Oper} {a:Act} (b:o.guard=none) (h:o.quiet P a C (wpQuiet P ops C K rest)):wpQuiet P ops C K (o::rest) a:=by
 have c:Region.wanted o (yielded ops a.tmps)=true:=by simp[Region.wanted,b]
 simp only[wpQuiet];rw[if_pos c];exact h
def zJ {P:Program} {k:TypeId} {S:Nat->Prop} {w:World} {o:Oper} {a:Act} {next:Act->Prop} (m x:Operand) (t b:TypeId) (y:o.op=Op.lookup t m x false)
 (K:Maps.Keyed P k) (n:P.underlying t=some (.map k b)) {r:Nat} {G:Value->Value->Prop} (h:dE P k w r G) (p:S r) (l:a.eval m=.map (some r)) {xv:Value} (s:a.eval x=xv) (q:iF P k xv) {z:Value} (j:∀w,(zeroValue b).run P w=.ok z w)
 (u:Value) (f:((∀v,¬G xv v)/\u=z)\/G xv u) (i:next (a.put o.dst u)):o.quiet P a (λw'=>∃g:vG (KR.blocks S) w,w'=g.tw) next:=by
 refine NR m x t b y K n h p l s q j (λc=>?_) (λv e=>?_)
 ·rcases f with⟨_,rfl⟩|d
  ·exact i
  exact absurd d (c u)
 rcases f with⟨c,_⟩|d
 ·exact absurd e (c v)
 rw[h.one e d];exact i
def RN {a b:Nat} (l:a<1114112) (n:b<1114112):iF prog 262 (.agg #[.int .i32 a,.int .i32 b]):=by
 have k:∀x:Nat,x<1114112->(Lit.int .i32 (x:Int)).wf=true:=λx i=>by
  have m:IntKind.i32.min=-2147483648:=by decide
  have o:IntKind.i32.max=2147483647:=by decide
  simp only[Lit.wf,m,o,Bool.and_eq_true,decide_eq_true_eq];omega
 have h:∀(d x:Nat),x<1114112->prog.keyLits (d+1) 21 [.int .i32 (x:Nat)]=some [.int .i32 (x:Nat)]:=λd x i=>by
  unfold Program.keyLits;simp[underlying21,k x i]
 have e:prog.cellsOf 21=1:=by kernel_rfl
 have c:prog.cellsOf 262=2:=by kernel_rfl
 have j:prog.types.size+1=(prog.types.size-1)+1+1:=by
  have:prog.types.size=(prog.types.size-1)+1:=by kernel_rfl
  omega
 have f:prog.keyLits (prog.types.size+1) 262 [.int .i32 (a:Nat),.int .i32 (b:Nat)]=some [.int .i32 (a:Nat),.int .i32 (b:Nat)]:=by
  rw[j]
  conv=>lhs;unfold Program.keyLits
  simp[underlying262,e,c,h _ _ l,h _ _ n]
 have hf:Value.formed prog 262 (.agg #[.int .i32 (a:Nat),.int .i32 (b:Nat)])=true:=by simp[Value.formed,underlying262,c]
 have g:prog.keyType 262=true:=by kernel_rfl
 refine⟨.string (keyBytes [.int .i32 (a:Nat),.int .i32 (b:Nat)]),?_⟩;unfold keyOf;simp only[underlying262,g,hf,Bool.and_self,if_true];show(prog.keyLits _ _ [.int .i32 (a:Nat),.int .i32 (b:Nat)]).map _=_;rw[f];rfl
def iA {W:World} {k:Nat} {a:Array Value} {T:TypeId} (h:Is W k a T):mZ W k T:=⟨a,h.at_⟩
def ou {P:Program} {b:TypeId} {w:World} {r:Nat} {G:Value->Value->Prop} (h:dE P b w r G) {T:TypeId} (d:mZ w r T):False:=by
 obtain⟨e,g,c,_⟩:=h;obtain⟨f,a⟩:=d;rw[c] at a;cases a
def Kq:mV prog 257 260 (.agg #[.int .i32 0,.int .u16 0]) 2 8:=⟨rfl,underlying257,info_parts (by kernel_rfl)⟩
def Zd:mV prog 152 178 (.agg #[.slice none 0 0,.slice none 0 0,.bool false]) 3 56:=⟨rfl,underlying152,info_parts (by kernel_rfl)⟩
abbrev eB:=Nat×Value×Value×Bool
def Kr (x:eB):List Value:=[x.2.1,x.2.2.1,.bool x.2.2.2]
def Vl (x:eB):(Kr x).length=3:=rfl
def sP (E:List eB):List (Nat×Nat):=E.zipIdx.map λx=>(x.1.1,x.2+1)
def Kt (E:List eB):(sP E).length=E.length:=by simp[sP]
def RQ (E:List eB) (x:eB):sP (E++[x])=sP E++[(x.1,E.length+1)]:=by simp[sP,List.zipIdx_append]
def BF (T:List aG):List (Nat×Nat):=T.map λr=>(r.code,r.cls)
def Ku (T:List aG):(BF T).length=T.length:=by simp[BF]
def mapped (T:List aG):List aG:=T.filter λr=>!r.map.isEmpty
structure bJ (w w':World) (t:TypeId):Prop where
 size:w.heap.size<=w'.heap.size
 keep:∀k,k<w.heap.size->¬mZ w k t->w'.heap[k]? = w.heap[k]?
def bJ.bQ {w w':World} {base a n:Nat} {e:TypeId} {v:Value} {g:List Value} (h:w.ownsRow base e a v n g) (b:w.grownBy w' v.ownBlock):bJ w w' e:=
 ⟨b.size,λk d f=>b.block k d λc=>f (bV h c.symm)⟩
def bJ.put {w:World} {p o:Nat} {b:Array Value} {t:TypeId} (h:Is w p b t) (u:Value):bJ w (w.setCell ⟨p,o,none⟩ u) t:=
 ⟨by simp,λk _ a=>(bX w p o u).block k (by assumption) λe=>a (by cases e;exact iA h)⟩
def bJ.own {w w':World} {t:TypeId} (g:bJ w w' t) {base a n:Nat} {e:TypeId} {v:Value} {d:List Value} (h:w.ownsRow base e a v n d) (b:e≠t):w'.ownsRow base e a v n d:=
 jS h λk c=>g.keep k (h.lt k c).2 λf=>b ((bV h c).one f)
def bJ.is {w w':World} {t:TypeId} (d:bJ w w' t) {k:Nat} {b:Array Value} {T:TypeId} (h:Is w k b T) (a:T≠t):Is w' k b T:=
 dS h (d.keep k h.lt λc=>a ((iA h).one c))
def bJ.map {w w':World} {t:TypeId} (b:bJ w w' t) {P:Program} {a:TypeId} {r:Nat} {G:Value->Value->Prop} (h:dE P a w r G):dE P a w' r G:=
 h.block (b.keep r h.lt λc=>ou h c)
def bJ.z {w w':World} {t:TypeId} (d:bJ w w' t) {Z:ig} (h:Ut w Z) (a:aN≠t):∀k,Z k≠none->w'.heap[k]? = w.heap[k]?:=
 λk b=>d.keep k (h k b).1 λc=>a ((h k b).2.one c)
def vK.iQ {W a:World} {Z f:ig} {o:Nat} (h:vK W Z o a f) (b:Ut W Z):bJ W a aN:=
 ⟨h.size,λk c e=>h.keep k c λd=>e (b k (by rw[d];simp)).2⟩
def Vm (x:aG×Value):List Value:=[.int .i32 x.1.code,.int .i64 x.1.cls,x.2]
def ik (w:World) (Z:ig) (v:Value) (l:List Nat):Prop:=w.ownsRow 0 aN 1 v l.length (aM l)/\∀k,v.ownBlock=some k->Z k=none
def ik.ext {w w':World} {Z:ig} {v:Value} {l:List Nat} (h:ik w Z v l) (a:Below w.heap.size w w'):ik w' Z v l:=⟨aH h.1 a,h.2⟩
def ik.iQ {w w':World} {Z:ig} {v:Value} {l:List Nat} {t:TypeId} (h:ik w Z v l) (b:bJ w w' t) (a:aN≠t):ik w' Z v l:=⟨b.own h.1 a,h.2⟩
def ik.push {w w':World} {Z a:ig} {o:Nat} {v:Value} {l:List Nat} (h:ik w Z v l) (b:vK w Z o w' a):ik w' a v l:=b.free h.1 h.2
def BH (T:List aG) (E:List eB):List Nat:=E.flatMap λx=>(aD T x.1).drop 1
def Kv (E:List eB):List Nat:=E.map (·.1)
def DW (T:List aG) (E:List eB):List Nat:=(E.filter (·.2.2.2)).map λx=>(bP T x.1).getD 1 0
def wK (T:List aG) (E:List eB) (c:Nat):List Nat:=(E.filter λx=>(aD T x.1).head? == some c).map (·.1)
def abq (l:List Nat):Value:=.agg #[.int .i32 (l.getD 0 0:Nat),.int .i32 (l.getD 1 0:Nat)]
def zK (T:List aG) (E:List eB):Value->Value->Prop:=E.foldl (λG x=>if x.2.2.2 then Ad G (abq (bP T x.1)) (.int .i32 (x.1:Nat)) else G) λ_ _=>False
def RS (T:List aG) (E:List eB) (x:eB):BH T (E++[x])=BH T E++(aD T x.1).drop 1:=by simp[BH]
def RV (E:List eB) (x:eB):Kv (E++[x])=Kv E++[x.1]:=by simp[Kv]
def Vn (T:List aG) (E:List eB) (x:eB) (h:x.2.2.2=true):DW T (E++[x])=DW T E++[(bP T x.1).getD 1 0]:=by simp[DW,List.filter_append,h]
def Ze (T:List aG) (E:List eB) (x:eB) (h:x.2.2.2=false):DW T (E++[x])=DW T E:=by simp[DW,List.filter_append,h]
def RX (T:List aG) (E:List eB) (x:eB) (h:x.2.2.2=true):zK T (E++[x])=Ad (zK T E) (abq (bP T x.1)) (.int .i32 (x.1:Nat)):=by simp[zK,h]
def Vo (T:List aG) (E:List eB) (x:eB) (h:x.2.2.2=false):zK T (E++[x])=zK T E:=by simp[zK,h]
def RY (T:List aG) (E:List eB) (x:eB) (a:Nat) (h:(aD T x.1).head? = some a):wK T (E++[x])=λc=>if c=a then wK T E a++[x.1] else wK T E c:=by
 funext c;unfold wK;rw[List.filter_append,List.map_append];by_cases e:c=a
 ·subst e;simp[h]
 rw[if_neg e];simp[h,Ne.symm e]
def BI {T:List aG} (h:∀c,(aD T c).length<=32):∀E:List eB,(BH T E).length<=31*E.length
 | []=>Nat.le_refl _
 | x::E=>by
   have a:=BI h E;have:=h x.1;unfold BH at a⊢;rw[List.flatMap_cons,List.length_append,List.length_drop,List.length_cons];omega
def Kw (T:List aG) (E:List eB):(DW T E).length<=E.length:=by
 unfold DW;rw[List.length_map];exact List.length_filter_le _ _
def Vp (T:List aG) (E:List eB) (c:Nat):(wK T E c).length<=E.length:=by
 unfold wK;rw[List.length_map];exact List.length_filter_le _ _
structure NZ (T:List aG) (E:List eB) (l8 l9 l10:List Nat) (bg:Nat->List Nat) (jg:Value->Value->Prop):Prop where
 i8:l8=BH T E
 i9:l9=DW T E
 i10:l10=Kv E
 ib:bg=wK T E
 ij:jg=zK T E
def NZ.nil (T:List aG):NZ T [] [] [] [] (λ_=>[]) (λ_ _=>False):=⟨rfl,rfl,rfl,rfl,rfl⟩
structure lU (T:List aG) (X:List Nat) (B p bM jM:Nat) (w:World) (jr jc je:Nat) (l8 l9 l10:List Nat) (bg:Nat->List Nat) (jg:Value->Value->Prop) (v6 v7 v8 v9 v10:Value) (rv xv ev:Value) (Z:ig) (E Ep:List eB):Prop where
 is:Is w p #[rv,xv,.pointer none,.pointer none,ev,.map (some bM),.map (some jM),.slice none 0 0,.slice none 0 0,.slice none 0 0] 156
 rows:∃R:List (aG×Value),R.map (·.1)=T.take jr/\w.ownsRow B h_ 3 rv jr (R.flatMap Vm)/\∀x∈R,ik w Z x.2 x.1.map
 qp:w.ownsRow B 178 3 ev E.length (E.flatMap Kr)
 mG:E.map (·.1)=(mapped (T.take je)).map (·.code)
 full:∀x∈E,ik w Z x.2.2.1 (aD T x.1)
 maps:∀x∈E,ik w Z x.2.1 (bP T x.1)
 qV:∀x∈E,x.2.2.2=true↔Prim T X x.1
 cls:w.ownsRow B 260 2 v6 jc ((BF (T.take jc)).flatMap cellC)
 Uu:w.ownsRow B 260 2 v7 Ep.length ((sP Ep).flatMap cellC)
 Vq:za v6 v7
 low:B<=p/\B<=bM/\B<=jM
 zb:∀k,Z k≠none->B<=k
 wk:Ut w Z
 w8:si w B Z 0 v8 l8
 w9:si w B Z 1 v9 l9
 zL:si w B Z 2 v10 l10
 bm:∃G,dE prog 21 w bM G/\(∀x u,G x u->∃c:Nat,x=.int .i32 c/\si w B Z (c+3) u (bg c))/\∀c:Nat,(∀u,¬G (.int .i32 c) u)->bg c=[]
 jm:dE prog 262 w jM jg
section
variable {T : List aG} {X : List Nat} {B p bM jM : Nat} {w w' : World} {jr jc je : Nat} {l8 l9 l10 : List Nat} {bg : Nat -> List Nat} {jg : Value -> Value -> Prop} {v6 v7 v8 v9 v10 rv xv ev : Value} {Z : ig} {E Ep : List eB}
def lU.fresh (h:lU T X B p bM jM w jr jc je l8 l9 l10 bg jg v6 v7 v8 v9 v10 rv xv ev Z E Ep) {k:Nat} (a:w.heap.size<=k):Z k=none:=by
 cases e:Z k with
 | none=>rfl
 | some o=>have:=h.wk.lt e;omega
def lU.mono (h:lU T X B p bM jM w jr jc je l8 l9 l10 bg jg v6 v7 v8 v9 v10 rv xv ev Z E Ep) (a:Below w.heap.size w w'):lU T X B p bM jM w' jr jc je l8 l9 l10 bg jg v6 v7 v8 v9 v10 rv xv ev Z E Ep:=by
 have b:∀k,Z k≠none->w'.heap[k]? = w.heap[k]?:=λk m=>a.block k (h.wk k m).1;obtain⟨R,q,i,l⟩:=h.rows;obtain⟨G,n,o,f⟩:=h.bm
 exact⟨h.is.mono a,⟨R,q,aH i a,λx d=>(l x d).ext a⟩,aH h.qp a,h.mG,λx d=>(h.full x d).ext a,λx d=>(h.maps x d).ext a,h.qV,aH h.cls a,aH h.Uu a,h.Vq,h.low,h.zb,h.wk.mono a.size b,h.w8.mono b,h.w9.mono b,h.zL.mono b,
  ⟨G,n.mono a,λx u g=>by obtain⟨c,e,j⟩:=o x u g;exact⟨c,e,j.mono b⟩,f⟩,h.jm.mono a⟩
def lU.Vr (h:lU T X B p bM jM w jr jc je l8 l9 l10 bg jg v6 v7 v8 v9 v10 rv xv ev Z E Ep) {d:Value} {R:List (aG×Value)} (v:R.map (·.1)=T.take jr) (C:w.ownsRow B h_ 3 rv jr (R.flatMap Vm)) (A:∀x∈R,ik w Z x.2 x.1.map) {q:aG} (s:T[jr]? = some q) {l:Value} (n:ik w Z l q.map)
 (F:w'.ownsRow B h_ 3 d (jr+1) (R.flatMap Vm++Vm (q,l))) (k:w.grownBy w' rv.ownBlock) :
 lU T X B p bM jM (w'.setCell ⟨p,0,none⟩ d) (jr+1) jc je l8 l9 l10 bg jg v6 v7 v8 v9 v10 d xv ev Z E Ep:=by
 have a:=bJ.bQ C k;have m:=a.is h.is (by decide);have b:=bJ.put (o:=0) m d;have i:=a.z h.wk (by decide);have g:=h.wk.mono a.size i;have j:=b.z g (by decide);obtain⟨G,t,D,y⟩:=h.bm
 refine⟨m.set 0 d,⟨R++[(q,l)],by rw[List.map_append,v,List.take_add_one,s];rfl,?_,λx f=>?_⟩,b.own (a.own h.qp (by decide)) (by decide),h.mG,λx f=>((h.full x f).iQ a (by decide)).iQ b (by decide),λx f=>((h.maps x f).iQ a (by decide)).iQ b (by decide),h.qV,
  b.own (a.own h.cls (by decide)) (by decide),b.own (a.own h.Uu (by decide)) (by decide),h.Vq,h.low,h.zb,
  g.mono b.size j,(h.w8.mono i).mono j,(h.w9.mono i).mono j,(h.zL.mono i).mono j,⟨G,b.map (a.map t),λx u k=>by obtain⟨c,e,r⟩:=D x u k;exact⟨c,e,(r.mono i).mono j⟩,y⟩,b.map (a.map h.jm)⟩
 ·rw[List.flatMap_append];exact b.own (by simpa using F) (by decide)
 rcases List.mem_append.1 f with f|f
 ·exact((A x f).iQ a (by decide)).iQ b (by decide)
 rw[List.mem_singleton.1 f];exact(n.iQ a (by decide)).iQ b (by decide)
def lU.Zf (h:lU T X B p bM jM w jr jc je l8 l9 l10 bg jg v6 v7 v8 v9 v10 rv xv ev Z E Ep) {b:Value} (t:w'.ownsRow B 260 2 b (jc+1) ((BF (T.take (jc+1))).flatMap cellC)) (g:w.grownBy w' v6.ownBlock) (r:kK w v6 b) :
 lU T X B p bM jM w' jr (jc+1) je l8 l9 l10 bg jg b v7 v8 v9 v10 rv xv ev Z E Ep:=by
 obtain⟨R,n,j,m⟩:=h.rows;have a:=bJ.bQ h.cls g;have d:=a.z h.wk (by decide);obtain⟨G,q,s,i⟩:=h.bm
 exact⟨a.is h.is (by decide),⟨R,n,a.own j (by decide),λx f=>(m x f).iQ a (by decide)⟩,a.own h.qp (by decide),h.mG,λx f=>(h.full x f).iQ a (by decide),λx f=>(h.maps x f).iQ a (by decide),h.qV,t,h.Vq.symm.stays h.Uu g,(h.Vq.symm.push (λk o=>(h.Uu.lt k o).2) r).symm,h.low,h.zb,
  h.wk.mono a.size d,h.w8.mono d,h.w9.mono d,h.zL.mono d,⟨G,a.map q,λx u g=>by obtain⟨c,e,l⟩:=s x u g;exact⟨c,e,l.mono d⟩,i⟩,a.map h.jm⟩
def lU.Zg (h:lU T X B p bM jM w jr jc je l8 l9 l10 bg jg v6 v7 v8 v9 v10 rv xv ev Z E Ep) {b:Value} {Ep':List eB} (t:w'.ownsRow B 260 2 b Ep'.length ((sP Ep').flatMap cellC)) (g:w.grownBy w' v7.ownBlock) (r:kK w v7 b) :
 lU T X B p bM jM w' jr jc je l8 l9 l10 bg jg v6 b v8 v9 v10 rv xv ev Z E Ep':=by
 obtain⟨R,n,j,m⟩:=h.rows;have a:=bJ.bQ h.Uu g;have d:=a.z h.wk (by decide);obtain⟨G,q,s,i⟩:=h.bm
 exact⟨a.is h.is (by decide),⟨R,n,a.own j (by decide),λx f=>(m x f).iQ a (by decide)⟩,a.own h.qp (by decide),h.mG,λx f=>(h.full x f).iQ a (by decide),λx f=>(h.maps x f).iQ a (by decide),h.qV,h.Vq.stays h.cls g,t,h.Vq.push (λk o=>(h.cls.lt k o).2) r,h.low,h.zb,
  h.wk.mono a.size d,h.w8.mono d,h.w9.mono d,h.zL.mono d,⟨G,a.map q,λx u g=>by obtain⟨c,e,l⟩:=s x u g;exact⟨c,e,l.mono d⟩,i⟩,a.map h.jm⟩
def lU.Vs (h:lU T X B p bM jM w jr jc je l8 l9 l10 bg jg v6 v7 v8 v9 v10 rv xv ev Z E Ep) {ev':Value} {x:eB} {je':Nat} (H:w'.ownsRow B 178 3 ev' (E.length+1) (E.flatMap Kr++Kr x)) (j:w.grownBy w' ev.ownBlock)
 (hf:ik w Z x.2.2.1 (aD T x.1)) (n:ik w Z x.2.1 (bP T x.1)) (s:x.2.2.2=true↔Prim T X x.1) (v:(E++[x]).map (·.1)=(mapped (T.take je')).map (·.code)) :
 lU T X B p bM jM (w'.setCell ⟨p,4,none⟩ ev') jr jc je' l8 l9 l10 bg jg v6 v7 v8 v9 v10 rv xv ev' Z (E++[x]) Ep:=by
 obtain⟨R,t,D,C⟩:=h.rows;have b:=bJ.bQ h.qp j;have k:=b.is h.is (by decide);have d:=bJ.put (o:=4) k ev';have g:=b.z h.wk (by decide);have f:=h.wk.mono b.size g;have i:=d.z f (by decide);obtain⟨G,r,F,A⟩:=h.bm;have m:w'.ownsRow B 178 3 ev' (E++[x]).length ((E++[x]).flatMap Kr):=by
  rw[List.length_append,List.flatMap_append];simpa using H
 refine⟨k.set 4 ev',⟨R,t,d.own (b.own D (by decide)) (by decide),λx l=>((C x l).iQ b (by decide)).iQ d (by decide)⟩,d.own m (by decide),v,λy a=>?_,λy a=>?_,λy a=>?_,d.own (b.own h.cls (by decide)) (by decide),d.own (b.own h.Uu (by decide)) (by decide),h.Vq,h.low,h.zb,
  f.mono d.size i,(h.w8.mono g).mono i,(h.w9.mono g).mono i,(h.zL.mono g).mono i,⟨G,d.map (b.map r),λx u j=>by obtain⟨c,e,q⟩:=F x u j;exact⟨c,e,(q.mono g).mono i⟩,A⟩,d.map (b.map h.jm)⟩
 ·rcases List.mem_append.1 a with a|a
  ·exact((h.full y a).iQ b (by decide)).iQ d (by decide)
  rw[List.mem_singleton.1 a];exact(hf.iQ b (by decide)).iQ d (by decide)
 ·rcases List.mem_append.1 a with a|a
  ·exact((h.maps y a).iQ b (by decide)).iQ d (by decide)
  rw[List.mem_singleton.1 a];exact(n.iQ b (by decide)).iQ d (by decide)
 rcases List.mem_append.1 a with a|a
 ·exact h.qV y a
 rw[List.mem_singleton.1 a];exact s
def lU.Vt (h:lU T X B p bM jM w jr jc je l8 l9 l10 bg jg v6 v7 v8 v9 v10 rv xv ev Z E Ep) {d:ig} {o:Nat} (b:vK w Z o w' d) {i m n:List Nat} {g q j:Value}
 (v:si w' B d 0 g i) (A:si w' B d 1 q m) (r:si w' B d 2 j n) (H:∀(c:Nat) (u:Value) (l:List Nat),si w B Z (c+3) u l->si w' B d (c+3) u l) :
 lU T X B p bM jM w' jr jc je i m n bg jg v6 v7 g q j rv xv ev d E Ep:=by
 have:B<=w.heap.size:=by have:=h.is.lt;have:=h.low.1;omega
 obtain⟨R,F,K,J⟩:=h.rows;obtain⟨G,D,L,I⟩:=h.bm;have a:=b.iQ h.wk
 refine⟨a.is h.is (by decide),⟨R,F,a.own K (by decide),λx f=>(J x f).push b⟩,a.own h.qp (by decide),h.mG,λx f=>(h.full x f).push b,λx f=>(h.maps x f).push b,h.qV,a.own h.cls (by decide),a.own h.Uu (by decide),h.Vq,h.low,λk t=>?_,b.z,v,A,r,
  ⟨G,a.map D,λx u y=>by obtain⟨c,e,C⟩:=L x u y;exact⟨c,e,H c u _ C⟩,I⟩,a.map h.jm⟩
 by_cases s:k<w.heap.size
 ·by_cases e:Z k=some o
  ·exact h.zb k (by rw[e];simp)
  rw[b.sub k s e] at t;exact h.zb k t
 omega
def lU.Qm (h:lU T X B p bM jM w jr jc je l8 l9 l10 bg jg v6 v7 v8 v9 v10 rv xv ev Z E Ep) {b:ig} (a:vK w Z 0 w' b) {l:List Nat} {v:Value} (d:si w' B b 0 v l) :
 lU T X B p bM jM w' jr jc je l l9 l10 bg jg v6 v7 v v9 v10 rv xv ev b E Ep:=h.Vt a d (a.other (by decide) h.w9) (a.other (by decide) h.zL) λc u l e=>a.other (by omega) e
def lU.afo (h:lU T X B p bM jM w jr jc je l8 l9 l10 bg jg v6 v7 v8 v9 v10 rv xv ev Z E Ep) {b:ig} (a:vK w Z 1 w' b) {l:List Nat} {v:Value} (d:si w' B b 1 v l) :
 lU T X B p bM jM w' jr jc je l8 l l10 bg jg v6 v7 v8 v v10 rv xv ev b E Ep:=h.Vt a (a.other (by decide) h.w8) d (a.other (by decide) h.zL) λc u l e=>a.other (by omega) e
def lU.G8 (h:lU T X B p bM jM w jr jc je l8 l9 l10 bg jg v6 v7 v8 v9 v10 rv xv ev Z E Ep) {b:ig} (a:vK w Z 2 w' b) {l:List Nat} {v:Value} (d:si w' B b 2 v l) :
 lU T X B p bM jM w' jr jc je l8 l9 l bg jg v6 v7 v8 v9 v rv xv ev b E Ep:=h.Vt a (a.other (by decide) h.w8) (a.other (by decide) h.w9) d λc u l e=>a.other (by omega) e
def lU.afp (h:lU T X B p bM jM w jr jc je l8 l9 l10 bg jg v6 v7 v8 v9 v10 rv xv ev Z E Ep) {je':Nat} (a:E.map (·.1)=(mapped (T.take je')).map (·.code)):lU T X B p bM jM w jr jc je' l8 l9 l10 bg jg v6 v7 v8 v9 v10 rv xv ev Z E Ep:=
 ⟨h.is,h.rows,h.qp,a,h.full,h.maps,h.qV,h.cls,h.Uu,h.Vq,h.low,h.zb,h.wk,h.w8,h.w9,h.zL,h.bm,h.jm⟩
structure afq (T:List aG) (X:List Nat) (B p bM jM:Nat) (w:World) (jr jc je:Nat) (l8 l9 l10:List Nat) (bg:Nat->List Nat) (jg:Value->Value->Prop) (v6 v7 v8 v9 v10:Value) (rv xv ev:Value) (Z:ig) (E Ep:List eB) (G:Value->Value->Prop) (c0:Nat) (l:List Nat) (v:Value):Prop where
 map:dE prog 21 w bM G
 row:si w B Z (c0+3) v l
 st:∀w2,dE prog 21 w2 bM (Ad G (.int .i32 c0) v)->w.grownBy w2 (some bM)->bM≠jM->lU T X B p bM jM w2 jr jc je l8 l9 l10 (λc=>if c=c0 then l else bg c) jg v6 v7 v8 v9 v10 rv xv ev Z E Ep
def lU.pushB (h:lU T X B p bM jM w jr jc je l8 l9 l10 bg jg v6 v7 v8 v9 v10 rv xv ev Z E Ep) {s:ig} {o:Nat} (a:vK w Z (o+3) w' s) {l:List Nat} {v:Value} (I:si w' B s (o+3) v l) {G:Value->Value->Prop}
 (J:dE prog 21 w bM G) (Q:∀x u,G x u->∃c:Nat,x=.int .i32 c/\si w B Z (c+3) u (bg c)) (M:∀c:Nat,(∀u,¬G (.int .i32 c) u)->bg c=[]) :
 afq T X B p bM jM w' jr jc je l8 l9 l10 bg jg v6 v7 v8 v9 v10 rv xv ev s E Ep G o l v:=by
 have:B<=w.heap.size:=by have:=h.is.lt;have:=h.low.1;omega
 have b:=a.iQ h.wk;obtain⟨R,L,P,N⟩:=h.rows;refine⟨b.map J,I,λy O H F=>?_⟩;have i:∀k t,mZ w' k t->k<w'.heap.size->y.heap[k]? = w'.heap[k]?:=λk t i q=>H.block k q λe=>by
  injection e with e;subst e;exact ou (b.map J) i
 have f:∀{base j n:Nat} {e:TypeId} {v:Value} {K:List Value},w'.ownsRow base e j v n K->y.ownsRow base e j v n K:=λf=>jS f λk d=>i k _ (bV f d) (f.lt k d).2;have hf:∀{v:Value} {l:List Nat},ik w' s v l->ik y s v l:=λhf=>⟨f hf.1,hf.2⟩;have r:∀k,s k≠none->y.heap[k]? = w'.heap[k]?:=λk d=>i k _ (a.z k d).2 (a.z k d).1;have C:=b.is h.is (by decide)
 refine⟨dS C (i p _ (iA C) C.lt),⟨R,L,f (b.own P (by decide)),λx m=>hf ((N x m).push a)⟩,f (b.own h.qp (by decide)),h.mG,λx m=>hf ((h.full x m).push a),λx m=>hf ((h.maps x m).push a),h.qV,f (b.own h.cls (by decide)),f (b.own h.Uu (by decide)),h.Vq,h.low,λk i=>?_,a.z.mono H.size r,
  (a.other (by omega) h.w8).mono r,(a.other (by omega) h.w9).mono r,(a.other (by omega) h.zL).mono r,⟨_,O,λx u A=>?_,λc b=>?_⟩,(b.map h.jm).block (H.block jM (b.map h.jm).lt λe=>by injection e with e;exact F e.symm)⟩
 ·by_cases q:k<w.heap.size
  ·by_cases e:Z k=some (o+3)
   ·exact h.zb k (by rw[e];simp)
   rw[a.sub k q e] at i;exact h.zb k i
  omega
 ·rcases A with⟨rfl,rfl⟩|⟨m,A⟩
  ·exact⟨o,rfl,by simp only[if_true];exact I.mono r⟩
  obtain⟨c,rfl,D⟩:=Q x u A;have g:c≠o:=λe=>m (by rw[e]);exact⟨c,rfl,by simp only[if_neg g];exact(a.other (by omega) D).mono r⟩
 have g:c≠o:=λe=>b v (.inl ⟨by rw[e],rfl⟩);simp only[if_neg g];exact M c λu D=>b u (.inr ⟨λe=>g (by injection e with _ e;omega),D⟩)
def lU.ajE (h:lU T X B p bM jM w jr jc je l8 l9 l10 bg jg v6 v7 v8 v9 v10 rv xv ev Z E Ep) (o:bM≠jM) {G:Value->Value->Prop} (y:dE prog 262 w' jM G) (j:w.grownBy w' (some jM)) :
 lU T X B p bM jM w' jr jc je l8 l9 l10 bg G v6 v7 v8 v9 v10 rv xv ev Z E Ep:=by
 obtain⟨R,C,H,F⟩:=h.rows;obtain⟨z,r,I,D⟩:=h.bm;have f:∀k t,mZ w k t->k<w.heap.size->w'.heap[k]? = w.heap[k]?:=λk t f q=>j.block k q λe=>by
  injection e with e;subst e;exact ou h.jm f
 have b:∀{base d n:Nat} {e:TypeId} {v:Value} {s:List Value},w.ownsRow base e d v n s->w'.ownsRow base e d v n s:=λb=>jS b λk a=>f k _ (bV b a) (b.lt k a).2;have hf:∀{v:Value} {l:List Nat},ik w Z v l->ik w' Z v l:=λhf=>⟨b hf.1,hf.2⟩;have i:∀k,Z k≠none->w'.heap[k]? = w.heap[k]?:=λk a=>f k _ (h.wk k a).2 (h.wk k a).1
 exact⟨dS h.is (f p _ (iA h.is) h.is.lt),⟨R,C,b H,λx g=>hf (F x g)⟩,b h.qp,h.mG,λx g=>hf (h.full x g),λx g=>hf (h.maps x g),h.qV,b h.cls,b h.Uu,h.Vq,h.low,h.zb,h.wk.mono j.size i,h.w8.mono i,h.w9.mono i,h.zL.mono i,
  ⟨z,r.block (j.block bM r.lt λe=>by injection e with e;exact o e),λx u m=>by obtain⟨c,e,A⟩:=I x u m;exact⟨c,e,A.mono i⟩,D⟩,y⟩
end
def Zh {w:World} (c:Int) (k n d:Nat) (a:Option Addr) (h:k≠0\/n≠0) :
 Calls prog 153 #[.agg #[.int .i32 c,.int .i64 k,.slice a n d]] w λe w'=>e=.returned (.bool true)/\Below w.heap.size w w':=by
 have f:=ah (w:=w) (.cells #[.int .i32 c,.int .i64 k,.slice a n d] 196);have b:=Is.new w #[.int .i32 c,.int .i64 k,.slice a n d] 196;have:=b.at 0 rfl;have:=b.at 1 rfl;have:=b.at 2 rfl;go_enter func153,ntmps153;by_cases g:k=0
 ·have:n≠0:=by omega
  subst g;have z:decide (0<n)=true:=by simp;omega
  have:((0:Nat):Int)=0:=rfl;go_wp2;go_ret;exact⟨by simp,f⟩
 have z:decide (0<k)=true:=by simp;omega
 go_wp2;go_ret;exact⟨rfl,f⟩
end
section
open Go.RowKit Go.Cd
def lS.put {w:World} {p k o:Nat} {f:Nat->Nat} {x:Array Value} {T:TypeId} (h:lS w p f) (m:Is w k x T) (F:x.size<=100) (u:Value):lS (w.setCell ⟨k,o,none⟩ u) p f:=by
 obtain⟨j,z,B,cap,E,y,C,i,l,v,g⟩:=h;have r:p≠k:=λe=>by
  subst e;rw[m.cell] at l;have:=(Array.getElem?_eq_some_iff.1 l).1;omega
 have A:B≠k:=λe=>by
  subst e;have q:=(g 255 (by decide)).2;rw[m.cell] at q;have:=(Array.getElem?_eq_some_iff.1 q).1;omega
 have d:∀b,b≠k->∀o',(w.setCell ⟨k,o,none⟩ u).cell? ⟨b,o',none⟩=w.cell? ⟨b,o',none⟩:=λb D o'=>World.cell?_of_block (a:=⟨b,o',none⟩) (Below.heap_setCell _ _ _ _ (by simp only;exact λe=>D e));exact⟨j,z,B,cap,by simpa using E,by simpa using y,C,i,(d p r _).trans l,λn s=>⟨(v n s).1,(d p r _).trans (v n s).2⟩,λc t=>⟨(g c t).1,(d B A _).trans (g c t).2⟩⟩
def DX (w:World) (v:Value) (l:List Nat):Prop:=w.ownsRow 0 aN 1 v (lC (gu l)).length (aM (lC (gu l)))
structure DY (T:List aG) (X:List Nat) (E:List eB) (w:World) (p:Nat) (rv xv ev:Value) (bM jM:Nat) (cp pp iv sv mv:Value):Prop where
 is:Is w p #[rv,xv,cp,pp,ev,.map (some bM),.map (some jM),iv,sv,mv] 156
 rows:∃R:List (aG×Value),R.map (·.1)=T/\w.ownsRow 0 h_ 3 rv T.length (R.flatMap Vm)/\∀x∈R,w.ownsRow 0 aN 1 x.2 x.1.map.length (aM x.1.map)
 qp:w.ownsRow 0 178 3 ev E.length (E.flatMap Kr)
 mG:E.map (·.1)=(mapped T).map (·.code)
 full:∀x∈E,w.ownsRow 0 aN 1 x.2.2.1 (aD T x.1).length (aM (aD T x.1))
 maps:∀x∈E,w.ownsRow 0 aN 1 x.2.1 (bP T x.1).length (aM (bP T x.1))
 qV:∀x∈E,x.2.2.2=true↔Prim T X x.1
 bm:∃G,dE Tryz.prog 21 w bM G/\(∀x u,G x u->∃c:Nat,x=.int .i32 c/\w.ownsRow 0 aN 1 u (wK T E c).length (aM (wK T E c)))/\∀c:Nat,(∀u,¬G (.int .i32 c) u)->wK T E c=[]
 jm:dE Tryz.prog 262 w jM (zK T E)
section
variable {T : List aG} {X : List Nat} {E : List eB} {w w' : World} {p bM jM : Nat} {rv xv ev cp pp iv sv mv : Value}
def DY.mono (h:DY T X E w p rv xv ev bM jM cp pp iv sv mv) (a:Below w.heap.size w w'):DY T X E w' p rv xv ev bM jM cp pp iv sv mv:=by
 obtain⟨R,m,g,j⟩:=h.rows;obtain⟨G,k,l,d⟩:=h.bm
 exact⟨h.is.mono a,⟨R,m,aH g a,λx b=>aH (j x b) a⟩,aH h.qp a,h.mG,λx b=>aH (h.full x b) a,λx b=>aH (h.maps x b) a,h.qV,
  ⟨G,k.mono a,λx u f=>by obtain⟨c,e,i⟩:=l x u f;exact⟨c,e,aH i a⟩,d⟩,h.jm.mono a⟩
def DY.put (h:DY T X E w p rv xv ev bM jM cp pp iv sv mv) (o:Nat) (u:Value) {j b d g f:Value}
 (l:(#[rv,xv,cp,pp,ev,.map (some bM),.map (some jM),iv,sv,mv]:Array Value).setIfInBounds o u=#[rv,xv,j,b,ev,.map (some bM),.map (some jM),d,g,f]):DY T X E (w.setCell ⟨p,o,none⟩ u) p rv xv ev bM jM j b d g f:=by
 have a:=bJ.put (o:=o) h.is u;obtain⟨R,v,n,r⟩:=h.rows;obtain⟨G,t,s,k⟩:=h.bm
 exact⟨l▸h.is.set o u,⟨R,v,a.own n (by decide),λx i=>a.own (r x i) (by decide)⟩,a.own h.qp (by decide),h.mG,λx i=>a.own (h.full x i) (by decide),λx i=>a.own (h.maps x i) (by decide),h.qV,
  ⟨G,a.map t,λx u m=>by obtain⟨c,e,q⟩:=s x u m;exact⟨c,e,a.own q (by decide)⟩,k⟩,a.map h.jm⟩
def DX.put {l:List Nat} {v:Value} (h:DX w v l) {b:Array Value} (a:Is w p b 156) (o:Nat) (u:Value):DX (w.setCell ⟨p,o,none⟩ u) v l:=(bJ.put (o:=o) a u).own h (by decide)
def DX.mono {l:List Nat} {v:Value} (h:DX w v l) (a:Below w.heap.size w w'):DX w' v l:=aH h a
end
def DY.of {T:List aG} {X:List Nat} {B p f n:Nat} {w:World} {o i b:List Nat} {k:Nat->List Nat} {g:Value->Value->Prop} {v z A t d r xv j:Value} {Z:ig} {E:List eB}
 (h:lU T X B p f n w T.length T.length T.length o i b k g v z A t d r xv j Z E E) (l:NZ T E o i b k g):DY T X E w p r xv j f n (.pointer none) (.pointer none) (.slice none 0 0) (.slice none 0 0) (.slice none 0 0):=by
 have s:T.take T.length=T:=List.take_length;obtain⟨R,F,I,H⟩:=h.rows;obtain⟨G,D,q,m⟩:=h.bm;rw[l.ib] at q m
 exact⟨h.is,⟨R,by rw[F,s],aT I (Nat.zero_le _),λx a=>(H x a).1⟩,aT h.qp (Nat.zero_le _),by rw[h.mG,s],λx a=>(h.full x a).1,λx a=>(h.maps x a).1,h.qV,
  ⟨G,D,λx u y=>by obtain⟨c,e,C⟩:=q x u y;exact⟨c,e,aT C.1 (Nat.zero_le _)⟩,m⟩,by rw[<-l.ij];exact h.jm⟩
def cK (w:World) (p:Nat) (T:List aG) (X:List Nat):Prop:=
 ∃E h xv i g f e b c d a,DY T X E w p h xv i g f (.pointer (some ⟨e,0,none⟩)) (.pointer (some ⟨b,0,none⟩)) c d a/\lS w e (iZ (BF T))/\lS w b (iZ (sP E))/\
  DX w c (BH T E)/\DX w d (DW T E)/\DX w a (Kv E)/\bG w xv (aM (kE X))
def cK.mono {w w':World} {p:Nat} {T:List aG} {X:List Nat} (h:cK w p T X) (a:Below w.heap.size w w'):cK w' p T X:=by
 obtain⟨E,k,xv,l,j,d,r,b,o,q,e,n,c,g,i,s,f,m⟩:=h;exact⟨E,k,xv,l,j,d,r,b,o,q,e,n.mono a,c.mono a,g.mono a,i.mono a,s.mono a,f.mono a,m.mono a⟩
end
end Go.Proofs.YtmnimbnojdndmaaGreatDoor
namespace Go.Cd
section
section
variable (K : Nat -> Nat)
def j_ (c:Nat):List Nat->List Nat
 | []=>[c]
 | d::l=>if 0<K d/\K d<K c then d::j_ c l else c::d::l
def gL:List Nat->List Nat
 | []=>[]
 | c::l=>j_ K c (gL l)
def swp (a b:Nat):Prop:=0<K b/\K b<K a
def dJ:List Nat->Prop
 | []=>True
 | [_]=>True
 | a::b::l=>¬swp K a b/\dJ (b::l)
def Fu {a b:Nat} (h:swp K a b):∀l,j_ K a (j_ K b l)=j_ K b (j_ K a l)
 | []=>by
   unfold swp at h;simp only[j_];rw[if_pos h,if_neg (by omega)]
 | d::l=>by
   have f:=Fu h l;unfold swp at h;by_cases e:0<K d/\K d<K b
   ·have c:0<K d/\K d<K a:=by omega
    simp only[j_,if_pos e,if_pos c];rw[f]
   by_cases c:0<K d/\K d<K a
   ·simp only[j_,if_neg e,if_pos c,if_pos h]
   simp only[j_,if_neg e,if_neg c,if_pos h];rw[if_neg (by omega)]
def x_ {a b:Nat} (h:swp K a b) (y:List Nat):∀x:List Nat,gL K (x++a::b::y)=gL K (x++b::a::y)
 | []=>Fu K h _
 | c::x=>by
   show j_ K c (gL K (x++a::b::y))=j_ K c (gL K (x++b::a::y));rw[x_ h y x]
def uI:∀{l:List Nat},dJ K l->gL K l=l
 | [],_=>rfl
 | [a],_=>rfl
 | a::b::l,h=>by
   show j_ K a (gL K (b::l))=_;rw[uI h.2];simp only[j_];exact if_neg h.1
def Ky (a:Nat):List Nat->List Nat
 | []=>[a]
 | b::l=>if 0<K b/\K b<K a then b::Ky a l else a::Ky b l
def pass:List Nat->List Nat
 | []=>[]
 | a::l=>Ky K a l
def qW (a b:Nat) (l:List Nat):Ky K a (b::l)=if 0<K b/\K b<K a then b::Ky K a l else a::Ky K b l:=rfl
def G9:∀(l:List Nat) (a:Nat),(Ky K a l).length=l.length+1
 | [],_=>rfl
 | b::l,a=>by
   rw[qW]
   split
   ·rw[List.length_cons,G9 l];rfl
   rw[List.length_cons,G9 l];rfl
def Vu (l:List Nat):(pass K l).length=l.length:=by
 cases l with
 | nil=>rfl
 | cons a l=>exact G9 K l a
def BJ:∀(l:List Nat) (a:Nat) (x:List Nat),gL K (x++Ky K a l)=gL K (x++a::l)
 | [],_,_=>rfl
 | b::l,a,x=>by
   rw[qW]
   split
   ·rename_i h;rw[x_ K h l x,show x++b::Ky K a l=(x++[b])++Ky K a l by simp,BJ l a (x++[b])];simp
   rw[show x++a::Ky K b l=(x++[a])++Ky K b l by simp,BJ l b (x++[a])];simp
def RZ (l:List Nat):gL K (pass K l)=gL K l:=by
 cases l with
 | nil=>rfl
 | cons a l=>exact BJ K l a []
def passes:Nat->List Nat->List Nat
 | 0,l=>l
 | n+1,l=>passes n (pass K l)
def zM:∀(n:Nat) (l:List Nat),gL K (passes K n l)=gL K l
 | 0,_=>rfl
 | n+1,l=>by show gL K (passes K n (pass K l))=_;rw[zM n,RZ]
def BK:∀(n:Nat) (l:List Nat),(passes K n l).length=l.length
 | 0,_=>rfl
 | n+1,l=>by show(passes K n (pass K l)).length=_;rw[BK n,Vu]
def gt (x:Nat) (l:List Nat):Nat:=l.countP λy=>decide (K x<K y)
def Zi (n:Nat):List Nat->List Nat->Prop
 | _,[]=>True
 | pre,b::l=>(0<K b->gt K b pre<=n)/\Zi n (if K b=0 then [] else b::pre) l
def eT (x y:Nat) (l:List Nat):gt K x (y::l)=gt K x l+if K x<K y then 1 else 0:=by
 unfold gt;rw[List.countP_cons];simp
def G_:∀(l a:List Nat) (n:Nat),a.length+l.length<=n->Zi K n a l
 | [],_,_,_=>trivial
 | b::l,a,n,h=>by
   simp only[List.length_cons] at h;refine⟨λ_=>Nat.le_trans List.countP_le_length (by omega),?_⟩
   split
   ·exact G_ l [] n (by simp;omega)
   exact G_ l (b::a) n (by simp;omega)
def sj:∀(l:List Nat) (a:Nat) (e j:List Nat) (n:Nat),
 (K a=0->e=[])->(0<K a->(∀x,gt K x e=gt K x (a::j))/\gt K a e=0)->Zi K (n+1) e l->Zi K n j (Ky K a l)
 | [],a,e,j,n,_,h1,_=>by
   refine⟨λh0=>?_,trivial⟩;obtain⟨f,i⟩:=h1 h0;have:=f a;rw[i,eT,if_neg (Nat.lt_irrefl _)] at this;omega
 | b::l,a,e,j,n,h0,h1,hb=>by
   obtain⟨o,c⟩:=hb;rw[qW];by_cases k:0<K b/\K b<K a
   ·rw[if_pos k];have m:0<K a:=by omega
    obtain⟨f,i⟩:=h1 m;have d:¬K b=0:=by omega
    rw[if_neg d] at c;refine⟨λ_=>?_,?_⟩
    ·have:=o k.1;rw[f b,eT,if_pos k.2] at this;omega
    rw[if_neg d];refine sj l a (b::e) (b::j) n (λh=>by omega) (λ_=>⟨λx=>?_,?_⟩) c
    ·rw[eT,f x,eT,eT,eT];omega
    rw[eT,i,if_neg (by omega)]
   rw[if_neg k];refine⟨λm=>?_,?_⟩
   ·obtain⟨f,i⟩:=h1 m;have:=f a;rw[i,eT,if_neg (Nat.lt_irrefl _)] at this;omega
   by_cases d:K b=0
   ·rw[if_pos d] at c;exact sj l b [] _ n (λ_=>rfl) (λh=>by omega) c
   rw[if_neg d] at c;by_cases g:K a=0
   ·have p:=h0 g;subst p;rw[if_pos g];refine sj l b [b] [] n (λh=>absurd h d) (λ_=>⟨λ_=>rfl,?_⟩) c;rw[eT,if_neg (Nat.lt_irrefl _)];rfl
   obtain⟨f,i⟩:=h1 (by omega);rw[if_neg g];refine sj l b (b::e) (a::j) n (λh=>absurd h d) (λ_=>⟨λx=>?_,?_⟩) c
   ·rw[eT,f x,eT,eT,eT]
   rw[eT,if_neg (Nat.lt_irrefl _)];have q:K a<=K b:=by omega
   have s:gt K b e<=gt K a e:=List.countP_mono_left λy _ r=>by
    simp only[decide_eq_true_eq] at r⊢;omega
   omega
def Vv (n:Nat) (l:List Nat) (h:Zi K (n+1) [] l):Zi K n [] (pass K l):=by
 cases l with
 | nil=>trivial
 | cons a l=>
   obtain⟨_,b⟩:=h;by_cases c:K a=0
   ·rw[if_pos c] at b;exact sj K l a [] [] n (λ_=>rfl) (λh=>by omega) b
   rw[if_neg c] at b;refine sj K l a [a] [] n (λh=>absurd h c) (λ_=>⟨λ_=>rfl,?_⟩) b;rw[eT,if_neg (Nat.lt_irrefl _)];rfl
def BL:∀(n:Nat) (l:List Nat),Zi K n [] l->Zi K 0 [] (passes K n l)
 | 0,_,h=>h
 | n+1,l,h=>BL n (pass K l) (Vv K n l h)
def Fv:∀(l:List Nat) (a:Nat) (c:List Nat),Zi K 0 (if K a=0 then [] else a::c) l->dJ K (a::l)
 | [],_,_,_=>trivial
 | b::l,a,c,h=>by
   obtain⟨g,e⟩:=h;refine⟨λd=>?_,?_⟩
   ·have f:¬K a=0:=by have:=d.2;omega
    have:=g d.1;rw[if_neg f,eT,if_pos d.2] at this;omega
   exact Fv l b _ e
def BM (l:List Nat):passes K l.length l=gL K l:=by
 have c:=BL K l.length l (G_ K l [] l.length (by simp));have b:dJ K (passes K l.length l):=by
  generalize passes K l.length l=m at c;cases m with
  | nil=>trivial
  | cons a m=>exact Fv K m a [] c.2
 rw[<-uI K b,zM]
end
end
open Go.Proofs.YtmnimbnojdndmaaGreatDoor
def Kz {c x:Nat} (h:x∈hparts c):0<hk x/\hk x<4:=by
 have e:(4352<=x/\x<4371)\/(4449<=x/\x<4470)\/(4520<=x/\x<4547):=by
  have:=Nat.mod_lt (c-44032) (show 28 > 0 by decide);have:(c-44032) % 588 / 28<21:=by omega
  unfold hparts at h;by_cases a:hk c=4
  ·rw[if_pos a] at h;have d:(c-44032) / 588<19:=by rw[oQ] at a;omega
   clear a;generalize (c-44032) % 588 / 28=v at *;generalize (c-44032) / 588=l at *;simp only[List.mem_cons,List.not_mem_nil,or_false] at h;omega
  rw[if_neg a] at h;by_cases b:hk c=5
  ·rw[if_pos b] at h;have d:(c-44032) / 588<19/\(c-44032) % 28≠0:=by rw[kI] at b;omega
   clear a b;generalize (c-44032) % 588 / 28=v at *;generalize (c-44032) / 588=l at *;generalize (c-44032) % 28=t at *;simp only[List.mem_cons,List.not_mem_nil,or_false] at h;omega
  rw[if_neg b] at h;simp at h
 unfold hk;rcases e with h|h|h
 ·rw[if_pos h];omega
 ·rw[if_neg (by omega),if_pos h];omega
 rw[if_neg (by omega),if_neg (by omega),if_pos h];omega
def Vw {T:List aG} {X:List Nat} (b:aY T X) {x:Nat} (h:0<hk x):rowOf T x=none:=
 oV λr a e=>by have:=(b.fine r a).2.2.2.1;rw[e] at this;omega
def N7 {T:List aG} {X:List Nat} (b:aY T X) {x:Nat} (h:0<hk x) (a:hk x<4):mapOf T x=[]:=by
 unfold mapOf bP;rw[if_pos a,Vw b h]
def ni {T:List aG} {X:List Nat} (b:aY T X) (c:Nat):tJ (mapOf T) (hparts c):=λx a=>N7 b (Kz a).1 (Kz a).2
def KA (M:Nat->List Nat) (c:Nat) (h:M c≠[]):steps M 1 [c]=M c:=by
 show dm M [c]=M c;unfold dm;rw[List.flatMap_cons,if_neg h];simp
def qX {T:List aG} {X:List Nat} (g:aY T X) {c:Nat} (h:4<=hk c):aD T c=hparts c/\fQ T c:=by
 have d:mapOf T c=dI c:=by unfold mapOf;rw[if_neg (by omega)]
 have l:dI c≠[]:=λe=>by have:=xS.1 e;omega
 have hf:aD T c=hparts c:=by
  by_cases a:hk c=4
  ·have e:dI c=hparts c:=by unfold dI hparts;rw[if_pos a,if_pos a]
   have f:steps (mapOf T) 1 [c]=hparts c:=by rw[KA _ _ (by rw[d];exact l),d,e]
   rw[GK (k:=1) (by omega) (by rw[f];exact ni g c),f]
  have b:hk c=5:=by have:=vU c;omega
  have f:steps (mapOf T) 1 [c]=[c-(c-44032) % 28,4519+(c-44032) % 28]:=by
   rw[KA _ _ (by rw[d];exact l),d];unfold dI;rw[if_neg a,if_pos b]
  have j:mapOf T (c-(c-44032) % 28)=[4352+(c-44032) / 588,4449+(c-44032) % 588 / 28]:=by
   unfold mapOf;rw[if_neg (by rw[Qc b];omega),A8 b]
  have m:mapOf T (4519+(c-44032) % 28)=[]:=ni g c _ (by unfold hparts;rw[if_neg a,if_pos b];simp);have i:steps (mapOf T) 2 [c]=hparts c:=by
   rw[uz,f];unfold dm hparts;rw[if_neg a,if_pos b,List.flatMap_cons,List.flatMap_cons,if_neg (by rw[j];simp),if_pos m,j];rfl
  rw[GK (k:=2) (by omega) (by rw[i];exact ni g c),i]
 refine⟨hf,by rw[hf];exact ni g c,?_⟩;rw[hf];unfold hparts
 split
 ·simp
 split <;> simp
def pE {T:List aG} {X:List Nat} (b:aY T X) (c:Nat):fQ T c:=by
 by_cases h:4<=hk c
 ·exact(qX b h).2
 cases d:rowOf T c with
 | some r=>
   obtain⟨f,e⟩:=gy d;rw[<-e];exact b.full r f
 | none=>
   have a:mapOf T c=[]:=by unfold mapOf bP;rw[if_pos (by omega),d]
   have hf:aD T c=[c]:=iK a _;refine⟨by rw[hf];exact λx g=>by rw[List.mem_singleton.1 g];exact a,by rw[hf];simp⟩
def R7 {T:List aG} {X:List Nat} (a:aY T X) {c y:Nat} (h:y∈aD T c):aD T y=[y]:=iK ((pE a c).1 y h) _
def pF (T:List aG) (c:Nat):aD T c≠[]:=by
 rw[jo];intro e;have:=xV (mapOf T) (T.length+3) [c];rw[e] at this;simp at this
def KC {c x:Nat} (h:x∈dI c):x<55296:=by
 unfold dI at h
 split at h
 ·rename_i a;have:=oQ.1 a;have:(c-44032) % 588 / 28<21:=by omega
  have:(c-44032) / 588<19:=by omega
  generalize (c-44032) % 588 / 28=p at *;generalize (c-44032) / 588=q at *;simp only[List.mem_cons,List.not_mem_nil,or_false] at h;omega
 split at h
 ·rename_i b;have:=Nat.mod_lt (c-44032) (show 28 > 0 by decide);have:c<55204:=(kI.1 b).2.1;generalize (c-44032) % 28=p at *;simp only[List.mem_cons,List.not_mem_nil,or_false] at h;omega
 simp at h
def R8 {T:List aG} {X:List Nat} (b:aY T X) {c x:Nat} (h:x∈mapOf T c):aP x:=by
 unfold mapOf at h
 split at h
 ·unfold bP at h;cases a:rowOf T c with
  | none=>rw[a] at h;simp at h
  | some r=>rw[a] at h;exact((b.fine r (gy a).1).2.2.2.2 x h).2
 have:=KC h;unfold aP;omega
def Fw {T:List aG} {X:List Nat} (b:aY T X):∀(n:Nat) (l:List Nat),(∀x∈l,aP x)->∀x∈steps (mapOf T) n l,aP x
 | 0,_,h=>h
 | n+1,l,h=>Fw b n (dm (mapOf T) l) λx a=>by
   unfold dm at a;obtain⟨c,d,a⟩:=List.mem_flatMap.1 a
   split at a
   ·rw[List.mem_singleton.1 a];exact h c d
   exact R8 b a
def ow {T:List aG} {X:List Nat} (d:aY T X) {c y:Nat} (a:aP c) (h:y∈aD T c):aP y:=by
 rw[jo] at h;exact Fw d _ [c] (λx b=>by rw[List.mem_singleton.1 b];exact a) y h
def il {T:List aG} {X:List Nat} (a:aY T X) (c:Nat):(aD T c).length<=32:=(pE a c).2
def jJ {T:List aG} {X:List Nat} (a:aY T X) (l:List Nat):(l.flatMap (aD T)).length<=32*l.length:=by
 induction l with
 | nil=>simp
 | cons c l ih=>
   have:=il a c;rw[List.flatMap_cons,List.length_append,List.length_cons];omega
def gQ (T:List aG) (l:List Nat):List Nat:=gL (ai T) (l.flatMap (aD T))
end Go.Cd
namespace Go.Proofs.YtmnimbnojdndmaaGreatDoor
open Go.RowKit Go.Cd _root_.Go.Proofs.Tryz
def Ha {c:Nat}:∀(L:List (Nat×Nat)) (f:Nat->Nat),(∀x∈L,x.1≠c)->(L.foldl (λf x=>uG f x.1 x.2) f) c=f c
 | [],_,_=>rfl
 | x::L,f,h=>by
   rw[List.foldl_cons,Ha L _ λy a=>h y (by simp[a])];exact iG _ _ (Ne.symm (h x (by simp)))
def KD {c v:Nat}:∀(L:List (Nat×Nat)) (f:Nat->Nat),(L.map (·.1)).Nodup->(c,v)∈L->(L.foldl (λf x=>uG f x.1 x.2) f) c=v
 | [],_,_,h=>by cases h
 | x::L,f,hn,h=>by
   rw[List.map_cons,List.nodup_cons] at hn;rw[List.foldl_cons];rcases List.mem_cons.1 h with rfl|h
   ·rw[Ha L _ λy a e=>hn.1 (List.mem_map.2 ⟨y,a,e⟩)];exact rZ _ _ _
   exact KD L _ hn.2 h
def KE {L:List (Nat×Nat)} {c:Nat} (h:∀x∈L,x.1≠c):iZ L c=0:=Ha L _ h
def Fx {L:List (Nat×Nat)} {c v:Nat} (a:(L.map (·.1)).Nodup) (h:(c,v)∈L):iZ L c=v:=KD L _ a h
def wL {T:List aG} (h:rising T):(T.map (·.code)).Nodup:=by
 rw[List.Nodup,List.pairwise_map,List.pairwise_iff_getElem];intro i j b c a;exact Nat.ne_of_lt (rU h b c a)
def Fy {T:List aG} (h:rising T) (c:Nat):iZ (BF T) c=ai T c:=by
 have d:((BF T).map (·.1)).Nodup:=by
  have:(BF T).map (·.1)=T.map (·.code):=by simp[BF]
  rw[this];exact wL h
 unfold ai;cases e:rowOf T c with
 | none=>
   refine KE λx g=>?_;obtain⟨r,i,rfl⟩:=List.mem_map.1 g;intro f;rw[<-(show r.code=c from f),kS h i] at e;cases e
 | some r=>
   obtain⟨b,a⟩:=gy e;exact Fx d (List.mem_map.2 ⟨r,b,by rw[a]⟩)
def KF {T:List aG} {E:List eB} (h:rising T) (k:E.map (·.1)=(mapped T).map (·.code)) (c:Nat) :
 (∃i,∃m:i<E.length,E[i].1=c/\iZ (sP E) c=i+1/\∃r∈T,r.code=c/\r.map≠[])\/(iZ (sP E) c=0/\bP T c=[]/\∀x∈E,x.1≠c):=by
 have u:(E.map (·.1)).Nodup:=by
  rw[k];exact((wL h).sublist ((List.filter_sublist).map _))
 have o:((sP E).map (·.1)).Nodup:=by
  have:(sP E).map (·.1)=E.map (·.1):=by
   unfold sP;rw[List.map_map];have:(λx:eB×Nat=>x.1.1)=(λy:eB=>y.1) ∘ Prod.fst:=rfl;show E.zipIdx.map (λx=>x.1.1)=_;rw[this,<-List.map_map,List.zipIdx_map_fst]
  rw[this];exact u
 by_cases d:∃x∈E,x.1=c
 ·obtain⟨x,d,rfl⟩:=d;obtain⟨i,m,rfl⟩:=List.mem_iff_getElem.1 d;have g:E[i].1∈E.map (·.1):=List.mem_map_of_mem d;rw[k] at g;obtain⟨r,p,e⟩:=List.mem_map.1 g;obtain⟨j,f⟩:=List.mem_filter.1 p;refine .inl ⟨i,m,rfl,Fx o (List.mem_map.2 ⟨(E[i],i),?_,rfl⟩),r,j,e,by simpa using f⟩;rw[List.mem_zipIdx_iff_getElem?];exact List.getElem?_eq_getElem m
 have b:∀x∈E,x.1≠c:=λx j f=>d ⟨x,j,f⟩;refine .inr ⟨KE λy t=>?_,?_,b⟩
 ·obtain⟨z,s,rfl⟩:=List.mem_map.1 t;have n:=List.mem_zipIdx s;exact b z.1 (by rw[n.2.2];exact List.getElem_mem _)
 unfold bP;cases e:rowOf T c with
 | none=>rfl
 | some r=>
   obtain⟨j,f⟩:=gy e;cases q:r.map with
   | nil=>exact q
   | cons a l=>
     exfalso;have p:r∈mapped T:=List.mem_filter.2 ⟨j,by simp[q]⟩;have g:r.code∈(mapped T).map (·.code):=List.mem_map_of_mem p;rw[<-k] at g;obtain⟨x,d,v⟩:=List.mem_map.1 g;exact b x d (v.trans f)
def iM {w:World} {p:Nat} {T:List aG} {X:List Nat} (h:cK w p T X) (a:aY T X) (c:Nat) (n:c<1114112) :
 Calls prog 38 #[.pointer (some ⟨p,0,none⟩),.int .i32 c] w λe w'=>e=.returned (.int .i64 (ai T c))/\Below w.heap.size w w':=by
 obtain⟨E,B,xv,v,o,A,u,q,y,z,s,j,g,_⟩:=h;have b:=aa (BC g c n);rw[Fy a.rise] at b;have f:ai T c<65536:=by
  rw[<-Fy a.rise];refine Kj (λx l=>?_) c;obtain⟨r,m,e⟩:=List.mem_map.1 l;have:=(a.fine r m).2.1;rw[<-e];exact Nat.lt_trans this (by decide)
 have C:=j.is.at 2 rfl;obtain⟨k,i⟩:=ae (ai T c);rw[<-i] at b f⊢;clear j g i;go_enter func38,ntmps38;go_wp2_with (go_at_call 80;refine b.out.mono ?_;rintro e t⟨rfl,d⟩);go_ret;exact⟨rfl,d⟩
def BO {w:World} {p:Nat} {T:List aG} {X:List Nat} (h:cK w p T X) (m:aY T X) (c:Nat) (z:c<1114112) (g:bP T c=[]) :
 Calls prog 101 #[.pointer (some ⟨p,0,none⟩),.int .i32 c] w λe w'=>e=.returned (.tuple #[.agg #[.slice none 0 0,.slice none 0 0,.bool false],.bool false])/\Below w.heap.size w w':=by
 obtain⟨E,V,xv,O,D,S,M,H,Q,R,I,k,s,n,_⟩:=h;have h0:iZ (sP E) c=0:=by
  rcases KF m.rise k.mG c with⟨i,N,e,_,r,y,A,t⟩|⟨B,_⟩
  ·unfold bP at g;rw[<-A,kS m.rise y] at g;exact absurd g t
  exact B
 have b:=ah (w:=w) (.cells #[.slice none 0 0,.slice none 0 0,.bool false] 178);have l:=Is.new w #[.slice none 0 0,.slice none 0 0,.bool false] 178;have o:=aa (BC (n.mono b) c z);rw[h0] at o;have:=(k.is.mono b).at 3 rfl;clear k s n h0 g;go_enter func101,ntmps101;go_wp2_with fail;refine o.out.mono ?_;rintro e L⟨rfl,d⟩;have a:=l.mono d;have:=a.at 0 rfl;have:=a.at 1 rfl;have:=a.at 2 rfl;have:=a.frozen 0;have:=a.frozen 1;have:=a.frozen 2;have j:=((a.set 0 (.slice none 0 0)).set 1 (.slice none 0 0)).set 2 (.bool false);have q:=j.at 0 rfl;have x:=j.at 1 rfl;have C:=j.at 2 rfl;have f:=aj (off:=2) (u:=.bool false) (aj (off:=1) (u:=.slice none 0 0) (aj (off:=0) (u:=.slice none 0 0) (af b d) (Nat.le_refl w.heap.size)) (Nat.le_refl w.heap.size)) (Nat.le_refl w.heap.size);clear l a j;go_wp2_with fail;exact bodyPost_ret (v:=.tuple #[.agg #[.slice none 0 0,.slice none 0 0,.bool false],.bool false]) (by simp[results,results101,go_sem,q,x,C]) rfl ⟨rfl,f⟩
structure afr (w:World) (T:List aG) (X:List Nat) (c:Nat) (x:eB):Prop where
 full:w.ownsRow 0 aN 1 x.2.2.1 (aD T c).length (aM (aD T c))
 maps:w.ownsRow 0 aN 1 x.2.1 (bP T c).length (aM (bP T c))
 qV:x.2.2.2=true↔Prim T X c
def zN {w:World} {p:Nat} {T:List aG} {X:List Nat} (h:cK w p T X) (hV:aY T X) (hl:T.length<1000) (c:Nat) (hc:c<1114112) (hm:bP T c≠[]) :
 Calls prog 101 #[.pointer (some ⟨p,0,none⟩),.int .i32 c] w λe w'=>∃q B r y F s b,e=.returned (.tuple #[.agg #[.slice q B r,.slice y F s,.bool b],.bool true])/\afr w T X c (c,.slice q B r,.slice y F s,b)/\Below w.heap.size w w':=by
 obtain⟨E,rv,xv,ev,bM,jM,cp,pp,iv,sv,mv,o,h2,h3,_⟩:=h;obtain⟨i,D,A,h0⟩:∃i,∃D:i<E.length,E[i].1=c/\iZ (sP E) c=i+1:=by
  rcases KF hV.rise o.mG c with⟨i,D,e,O,_⟩|⟨_,h4,_⟩
  ·exact⟨i,D,e,O⟩
  exact absurd h4 hm
 have yf:E.length<1000:=by
  have:=congrArg List.length o.mG;rw[List.length_map,List.length_map] at this;rw[this];exact Nat.lt_of_le_of_lt (List.length_filter_le _ _) hl
 have C:=ah (w:=w) (.cells #[.slice none 0 0,.slice none 0 0,.bool false] 178);have k0:=Is.new w #[.slice none 0 0,.slice none 0 0,.bool false] 178;have R:=aa (BC (h3.mono C) c hc);rw[h0] at R;have P:=List.getElem_mem D;have J:=o.full _ P;have K:=o.maps _ P;have Q:=o.qV _ P;obtain⟨g,cap,rfl,N,hg,_,a⟩:=dC (f:=Kr) Vl rfl o.qp D;obtain⟨x,Y⟩:=ae (E[i]);rw[<-Y] at a J K Q A;rw[A] at J K Q;obtain⟨q,r,W,_,_⟩:=ak K;obtain⟨y,s,O,_,_⟩:=ak J;rw[W] at K;rw[O] at J;have d:afr w T X c (c,.slice q (bP T c).length r,.slice y (aD T c).length s,x.2.2.2):=⟨J,K,Q⟩;have U:=(a 0 (by decide)).1;have k:=(a 1 (by decide)).1;have l:=(a 2 (by decide)).1;simp only[Kr,List.getElem?_cons_zero,List.getElem?_cons_succ,W,O,Nat.add_zero] at U k l;obtain⟨B,I⟩:∃n,n=(bP T c).length:=⟨_,rfl⟩;obtain⟨F,G⟩:∃n,n=(aD T c).length:=⟨_,rfl⟩;obtain⟨b,V⟩:=ae x.2.2.2;obtain⟨nE,m⟩:∃n,n=E.length:=⟨_,rfl⟩;rw[<-I,<-G,<-V] at d;rw[<-I] at U;rw[<-G] at k;rw[<-V] at l;have R9:=aa d;have Z:=(o.is.mono C).at 3 rfl;have ac:i<nE:=by rw[m];exact D
 have ad:nE<1000:=by rw[m];exact yf
 have w1:IntKind.u16.wrap (((i+1:Nat):Int)-1)=(i:Int):=by rw[IntKind.wrap_u16];omega
 have H:=o.is;have z:(((i+1:Nat):Int)==0)=false:=by simp;omega
 rw[<-m] at H N Z;clear o h2 h3 h0 hm P J K Q Y a A W O I G V d m yf D;obtain⟨j,hj⟩:=ae (i+1);rw[<-hj] at R w1 z;have ab:j<65536:=by omega
 clear hj;go_enter func101,ntmps101;go_wp2_with fail;refine R.out.mono ?_;rintro e w6⟨rfl,M⟩;have L:=af C M;have t:=k0.mono M;have f0:=t.at 0 rfl;have f1:=t.at 1 rfl;have f2:=t.at 2 rfl;have q0:=t.frozen 0;have q1:=t.frozen 1;have q2:=t.frozen 2;have e4:=(H.mono L).at 4 rfl;have d0:=aB L U;have d1:=aB L k;have d2:=aB L l;have S:=((t.set 0 (.slice q B r)).set 1 (.slice y F s)).set 2 (.bool b);have g0:=S.at 0 rfl;have g1:=S.at 1 rfl;have g2:=S.at 2 rfl;have d:=aa (aj (off:=2) (u:=.bool b) (aj (off:=1) (u:=.slice y F s) (aj (off:=0) (u:=.slice q B r) L (Nat.le_refl w.heap.size)) (Nat.le_refl w.heap.size)) (Nat.le_refl w.heap.size));clear k0 t S U k l H Z R;go_wp2_with fail;exact bodyPost_ret (v:=.tuple #[.agg #[.slice q B r,.slice y F s,.bool b],.bool true]) (by simp[results,results101,go_sem,g0,g1,g2]) rfl ⟨q,B,r,y,F,s,b,rfl,R9.out,d.out⟩
def pG {w:World} {p:Nat} {T:List aG} {X:List Nat} (h:cK w p T X) (t:aY T X) (S:T.length<1000) (c:Nat) (G:c<1114112) :
 Calls prog 67 #[.pointer (some ⟨p,0,none⟩),.int .i32 c] w λe w'=>∃r,e=.returned r/\w'.ownsRow w.heap.size aN 1 r (aD T c).length (aM (aD T c))/\Below w.heap.size w w':=by
 have g:=aa (Ng (w:=w) c G);by_cases U:4<=hk c
 ·have hf:=(qX t U).1;have i:hparts c≠[]:=λe=>by have:=iC.1 e;omega
  have j:=List.length_pos_iff.2 i;rw[hf];obtain⟨n,m⟩:=ae ((hparts c).length);obtain⟨l,q⟩:=ae (aM (hparts c));rw[<-m] at j g⊢;rw[<-q] at g⊢;clear m q hf i h;go_enter func67,ntmps67;go_wp2_with fail;refine g.out.mono ?_;rintro e u⟨r,rfl,f,d⟩;obtain⟨a,cap,rfl,_,_⟩:=ak f;have:decide (0<n)=true:=by simp;omega
  have R:=aa f;clear f;go_wp2_with fail;go_ret;exact⟨_,rfl,R.out,d⟩
 have i:hparts c=[]:=iC.2 (by omega);rw[i] at g;by_cases k:bP T c=[]
 ·have hf:aD T c=[c]:=by
   unfold aD;exact iK (by unfold mapOf;rw[if_pos (by omega),k]) _
  rw[hf];have y:=aa (λ(W:World) (E:Below w.heap.size w W)=>BO (h.mono E) t c G k);clear hf h k i;go_enter func67,ntmps67;go_wp2_with fail;refine g.out.mono ?_;rintro e u⟨r,rfl,f,d⟩;obtain⟨a,cap,rfl,_,_⟩:=ak f;simp only[List.length_nil];clear f;go_wp2_with fail;refine(y.out u d).mono ?_;rintro e o⟨rfl,v⟩;have x:=af d v;go_wp2_with fail;go_ret;have f:=mU (o.alloc (.cells #[.slice none 0 0,.slice none 0 0,.bool false] 178)) #[.int .i32 (c:Nat)] aN 1 rfl (by decide);have L:=x.size;rw[World.size_alloc] at f;exact⟨_,rfl,aT f (by omega),af x (dH _ _)⟩
 have y:=aa (λ(W:World) (E:Below w.heap.size w W)=>zN (h.mono E) t S c G k);have N:=aa (il t c);clear h k i;go_enter func67,ntmps67;go_wp2_with fail;refine g.out.mono ?_;rintro e u⟨r,rfl,f,d⟩;obtain⟨a,cap,rfl,_,_⟩:=ak f;simp only[List.length_nil];clear f;go_wp2_with fail;refine(y.out u d).mono ?_;rintro e o⟨A,B,C,I,F,D,b,rfl,H,v⟩;have x:=af d v;have P:=Is.new o #[.slice A B C,.slice I F D,.bool b] 178;have:=P.at 1 rfl;have J:=ah (w:=o) (.cells #[.slice A B C,.slice I F D,.bool b] 178);have Q:=aa (kX (w:=o.alloc (.cells #[.slice A B C,.slice I F D,.bool b] 178)) (aD T c) ((Sl.aU H.full).mono (af v J)) (fU.aU H.full) (by have:=N.out;omega));have s:=af x J;have L:=s.size;clear H;go_wp2_with fail;refine Q.out.mono ?_;rintro e Y⟨r,rfl,K,M⟩;have O:=aa K;clear K;go_wp2_with fail;go_ret;exact⟨_,rfl,aT O.out L,af s M⟩
end Go.Proofs.YtmnimbnojdndmaaGreatDoor
