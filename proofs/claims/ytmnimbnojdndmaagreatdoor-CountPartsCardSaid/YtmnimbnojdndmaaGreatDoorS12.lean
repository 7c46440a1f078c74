/- State by state it is added up what is possible; no condition. -/
import Derived.Test.YtmnimbnojdndmaaGreatDoorS11
set_option maxRecDepth 100000
set_option maxHeartbeats 6400000
set_option linter.all false
namespace Go.Proofs.YtmnimbnojdndmaaGreatDoor
section
open Go.RowKit Go.Cd _root_.Go.Proofs.Tryz
variable {W w w':World} {k base n r a o:Nat} {T e t:TypeId} {v:Value} {P:Program} {G:Value->Value->Prop} {Z:ig} {l:List Nat}
def dS {a:World} {b:Array Value} (h:Is W k b T) (c:a.heap[k]? = W.heap[k]?):Is a k b T:=⟨c.trans h.at_⟩
def dz {d:List Value} (h:w.ownsRow base e 1 v n d) (m:0<n):∃g cap,v=.slice (some ⟨g,0,none⟩) n cap/\n<=cap/\base<=g/\g<w.heap.size/\mZ w g e/\∀i u,d[i]? = some u->w.cell? ⟨g,i,none⟩=some u:=by
 rcases h.2 with⟨_,h0⟩|⟨g,cap,c,rfl,k,a,f,l,o,j⟩
 ·omega
 refine⟨g,cap,rfl,f,k,block_lt a,⟨c,a⟩,λi u b=>?_⟩;unfold World.cell?;rw[a,<-j,vi] at *
 split at b
 ·simpa using b
 cases b
def BD {ops:Array Oper} {C:World->Prop} {K:Act->Prop} {o:Oper} {rest:List Oper} {a:Act} (b:o.guard=none) (h:o.quiet P a C (wpQuiet P ops C K rest)):wpQuiet P ops C K (o::rest) a:=by
 have c:Region.wanted o (yielded ops a.tmps)=true:=by simp[Region.wanted,b]
 simp only[wpQuiet];rw[if_pos c];exact h
def zJ {k:TypeId} {S:Nat->Prop} {o:Oper} {a:Act} {next:Act->Prop} (m x:Operand) (t b:TypeId) (p:o.op=Op.lookup t m x false)
 (K:Maps.Keyed P k) (s:P.underlying t=some (.map k b)) (h:dE P k w r G) (y:S r) (l:a.eval m=.map (some r)) {xv:Value} (j:a.eval x=xv) (q:iF P k xv) {z:Value} (n:∀w,(zeroValue b).run P w=.ok z w)
 (u:Value) (f:((∀v,¬G xv v)/\u=z)\/G xv u) (e:next (a.put o.dst u)):o.quiet P a (λw'=>∃g:vG (KR.blocks S) w,w'=g.tw) next:=by
 refine NR m x t b p K s h y l j q n (λc=>?_) (λv i=>?_)
 ·rcases f with⟨_,rfl⟩|d
  ·exact e
  exact absurd d (c u)
 rcases f with⟨c,_⟩|d
 ·exact absurd i (c v)
 rw[h.one i d];exact e
def RN {b:Nat} (o:a<1114112) (n:b<1114112):iF prog 262 (.agg #[.int .i32 a,.int .i32 b]):=by
 have j:∀x:Nat,x<1114112->(Lit.int .i32 (x:Int)).wf=true:=λx h=>by
  have l:IntKind.i32.min=-2147483648:=by decide
  have m:IntKind.i32.max=2147483647:=by decide
  simp only[Lit.wf,l,m,js,decide_eq_true_eq];omega
 have i:∀(d x:Nat),x<1114112->prog.keyLits (d+1) 21 [.int .i32 (x:Nat)]=some [.int .i32 (x:Nat)]:=λd x h=>by
  unfold Program.keyLits;simp[underlying21,j x h]
 have e:prog.cellsOf 21=1:=by kernel_rfl
 have c:prog.cellsOf 262=2:=by kernel_rfl
 have k:prog.types.size+1=(prog.types.size-1)+1+1:=by
  have:prog.types.size=(prog.types.size-1)+1:=by kernel_rfl
  omega
 have f:prog.keyLits (prog.types.size+1) 262 [.int .i32 (a:Nat),.int .i32 (b:Nat)]=some [.int .i32 (a:Nat),.int .i32 (b:Nat)]:=by
  rw[k]
  conv=>lhs;unfold Program.keyLits
  simp[underlying262,e,c,i _ _ o,i _ _ n]
 have hf:Value.formed prog 262 (.agg #[.int .i32 (a:Nat),.int .i32 (b:Nat)])=true:=by simp[Value.formed,underlying262,c]
 have g:prog.keyType 262=true:=by kernel_rfl
 refine⟨.string (keyBytes [.int .i32 (a:Nat),.int .i32 (b:Nat)]),?_⟩;unfold keyOf;simp only[underlying262,g,hf,Bool.and_self,if_true];show(prog.keyLits _ _ [.int .i32 (a:Nat),.int .i32 (b:Nat)]).map _=_;rw[f];rfl
def iA {a:Array Value} (h:Is W k a T):mZ W k T:=⟨a,h.at_⟩
def ou {d:TypeId} (h:dE P d w r G) (c:mZ w r T):False:=by
 obtain⟨e,g,b,_⟩:=h;obtain⟨f,a⟩:=c;rw[b] at a;cases a
def Kq:mV prog 257 260 (.agg #[.int .i32 0,.int .u16 0]) 2 8:=⟨rfl,underlying257,info_parts (by kernel_rfl)⟩
def Zd:mV prog 152 178 (.agg #[.slice none 0 0,.slice none 0 0,.bool false]) 3 56:=⟨rfl,underlying152,info_parts (by kernel_rfl)⟩
abbrev eB:=Nat×Value×Value×Bool
def Kr (x:eB):List Value:=[x.2.1,x.2.2.1,.bool x.2.2.2]
def Vl (x:eB):(Kr x).length=3:=rfl
def sP (E:List eB):List (Nat×Nat):=E.zipIdx.map λx=>(x.1.1,x.2+1)
def Kt (E:List eB):(sP E).length=E.length:=by simp[sP]
def RQ (E:List eB) (x:eB):sP (E++[x])=sP E++[(x.1,E.length+1)]:=by simp[sP,List.zipIdx_append]
def BF (T:List aG):List (Nat×Nat):=T.map λr=>(r.code,r.cls)
def Ku (T:List aG):(BF T).length=T.length:=by simp[BF]
def mapped (T:List aG):List aG:=T.filter λr=>!r.map.isEmpty
structure bJ (w w':World) (t:TypeId):Prop where
 size:w.heap.size<=w'.heap.size
 keep:∀k,k<w.heap.size->¬mZ w k t->w'.heap[k]? = w.heap[k]?
def bJ.bQ {d:List Value} (g:w.ownsRow base e a v n d) (b:w.grownBy w' v.ownBlock):bJ w w' e:=
 ⟨b.size,λk h c=>b.block k h λf=>c (bV g f.symm)⟩
def bJ.put {p:Nat} {a:Array Value} (h:Is w p a t) (u:Value):bJ w (w.setCell ⟨p,o,none⟩ u) t:=
 ⟨by simp,λk _ b=>(bX w p o u).block k (by assumption) λe=>b (by cases e;exact iA h)⟩
def bJ.own (g:bJ w w' t) {c:List Value} (h:w.ownsRow base e a v n c) (b:e≠t):w'.ownsRow base e a v n c:=
 aad h λk d=>g.keep k (h.lt k d).2 λf=>b ((bV h d).one f)
def bJ.is (d:bJ w w' t) {b:Array Value} (h:Is w k b T) (a:T≠t):Is w' k b T:=
 dS h (d.keep k h.lt λc=>a ((iA h).one c))
def bJ.map (c:bJ w w' t) {a:TypeId} (h:dE P a w r G):dE P a w' r G:=
 h.block (c.keep r h.lt λb=>ou h b)
def bJ.z (d:bJ w w' t) (h:Ut w Z) (a:aN≠t):∀k,Z k≠none->w'.heap[k]? = w.heap[k]?:=
 λk b=>d.keep k (h k b).1 λc=>a ((h k b).2.one c)
def vK.iQ {a:World} {b:ig} (h:vK W Z o a b) (e:Ut W Z):bJ W a aN:=
 ⟨h.size,λk f d=>h.keep k f λc=>d (e k (by rw[c];simp)).2⟩
def Vm (x:aG×Value):List Value:=[.int .i32 x.1.code,.int .i64 x.1.cls,x.2]
def ik (w:World) (Z:ig) (v:Value) (l:List Nat):Prop:=w.ownsRow 0 aN 1 v l.length (aM l)/\∀k,v.ownBlock=some k->Z k=none
def ik.ext (h:ik w Z v l) (a:Below w.heap.size w w'):ik w' Z v l:=⟨aH h.1 a,h.2⟩
def ik.iQ (h:ik w Z v l) (b:bJ w w' t) (a:aN≠t):ik w' Z v l:=⟨b.own h.1 a,h.2⟩
def ik.push {a:ig} (h:ik w Z v l) (b:vK w Z o w' a):ik w' a v l:=b.free h.1 h.2
def BH (T:List aG) (E:List eB):List Nat:=E.flatMap λx=>(aD T x.1).drop 1
def Kv (E:List eB):List Nat:=E.map (·.1)
def DW (T:List aG) (E:List eB):List Nat:=(E.filter (·.2.2.2)).map λx=>(bP T x.1).getD 1 0
def wK (T:List aG) (E:List eB) (c:Nat):List Nat:=(E.filter λx=>(aD T x.1).head? == some c).map (·.1)
def abq (l:List Nat):Value:=.agg #[.int .i32 (l.getD 0 0:Nat),.int .i32 (l.getD 1 0:Nat)]
def zK (T:List aG) (E:List eB):Value->Value->Prop:=E.foldl (λG x=>if x.2.2.2 then Ad G (abq (bP T x.1)) (.int .i32 (x.1:Nat)) else G) λ_ _=>False
def RS (T:List aG) (E:List eB) (x:eB):BH T (E++[x])=BH T E++(aD T x.1).drop 1:=by simp[BH]
def RV (E:List eB) (x:eB):Kv (E++[x])=Kv E++[x.1]:=by simp[Kv]
def Vn (T:List aG) (E:List eB) (x:eB) (h:x.2.2.2=true):DW T (E++[x])=DW T E++[(bP T x.1).getD 1 0]:=by simp[DW,n7,h]
def Ze (T:List aG) (E:List eB) (x:eB) (h:x.2.2.2=false):DW T (E++[x])=DW T E:=by simp[DW,n7,h]
def RX (T:List aG) (E:List eB) (x:eB) (h:x.2.2.2=true):zK T (E++[x])=Ad (zK T E) (abq (bP T x.1)) (.int .i32 (x.1:Nat)):=by simp[zK,h]
def Vo (T:List aG) (E:List eB) (x:eB) (h:x.2.2.2=false):zK T (E++[x])=zK T E:=by simp[zK,h]
def RY (T:List aG) (E:List eB) (x:eB) (a:Nat) (h:(aD T x.1).head? = some a):wK T (E++[x])=λc=>if c=a then wK T E a++[x.1] else wK T E c:=by
 funext c;unfold wK;rw[n7,j5];by_cases e:c=a
 ·subst e;simp[h]
 rw[if_neg e];simp[h,pr e]
def BI {T:List aG} (h:∀c,(aD T c).length<=32):∀E:List eB,(BH T E).length<=31*E.length
 | []=>d' _
 | x::E=>by
   have a:=BI h E;have:=h x.1;unfold BH at a⊢;rw[jx,gn,rK,im];omega
def Kw (T:List aG) (E:List eB):(DW T E).length<=E.length:=by
 unfold DW;rw[iz];exact lr _ _
def Vp (T:List aG) (E:List eB) (c:Nat):(wK T E c).length<=E.length:=by
 unfold wK;rw[iz];exact lr _ _
structure NZ (T:List aG) (E:List eB) (l8 l9 l10:List Nat) (bg:Nat->List Nat) (jg:Value->Value->Prop):Prop where
 i8:l8=BH T E
 i9:l9=DW T E
 i10:l10=Kv E
 ib:bg=wK T E
 ij:jg=zK T E
def NZ.nil (T:List aG):NZ T [] [] [] [] (λ_=>[]) (λ_ _=>False):=⟨rfl,rfl,rfl,rfl,rfl⟩
structure lU (T:List aG) (X:List Nat) (B p bM jM:Nat) (w:World) (jr jc je:Nat) (l8 l9 l10:List Nat) (bg:Nat->List Nat) (jg:Value->Value->Prop) (v6 v7 v8 v9 v10:Value) (rv xv ev:Value) (Z:ig) (E Ep:List eB):Prop where
 is:Is w p #[rv,xv,.pointer none,.pointer none,ev,.map (some bM),.map (some jM),.slice none 0 0,.slice none 0 0,.slice none 0 0] 156
 rows:∃R:List (aG×Value),R.map (·.1)=T.take jr/\w.ownsRow B h_ 3 rv jr (R.flatMap Vm)/\∀x∈R,ik w Z x.2 x.1.map
 qp:w.ownsRow B 178 3 ev E.length (E.flatMap Kr)
 mG:E.map (·.1)=(mapped (T.take je)).map (·.code)
 full:∀x∈E,ik w Z x.2.2.1 (aD T x.1)
 maps:∀x∈E,ik w Z x.2.1 (bP T x.1)
 qV:∀x∈E,x.2.2.2=true↔Prim T X x.1
 cls:w.ownsRow B 260 2 v6 jc ((BF (T.take jc)).flatMap cellC)
 Uu:w.ownsRow B 260 2 v7 Ep.length ((sP Ep).flatMap cellC)
 Vq:Apt v6 v7
 low:B<=p/\B<=bM/\B<=jM
 zb:∀k,Z k≠none->B<=k
 wk:Ut w Z
 w8:si w B Z 0 v8 l8
 w9:si w B Z 1 v9 l9
 zL:si w B Z 2 v10 l10
 bm:∃G,dE prog 21 w bM G/\(∀x u,G x u->∃c:Nat,x=.int .i32 c/\si w B Z (c+3) u (bg c))/\∀c:Nat,(∀u,¬G (.int .i32 c) u)->bg c=[]
 jm:dE prog 262 w jM jg
section
variable {T : List aG} {X : List Nat} {B p bM jM : Nat} {w w' : World} {jr jc je : Nat} {l8 l9 l10 : List Nat} {bg : Nat -> List Nat} {jg : Value -> Value -> Prop} {v6 v7 v8 v9 v10 rv xv ev : Value} {Z : ig} {E Ep : List eB}
variable {b:ig} {l:List Nat} {v:Value} {G:Value->Value->Prop}
def lU.fresh (h:lU T X B p bM jM w jr jc je l8 l9 l10 bg jg v6 v7 v8 v9 v10 rv xv ev Z E Ep) {k:Nat} (a:w.heap.size<=k):Z k=none:=by
 cases e:Z k with
 | none=>rfl
 | some o=>have:=h.wk.lt e;omega
def lU.mono (h:lU T X B p bM jM w jr jc je l8 l9 l10 bg jg v6 v7 v8 v9 v10 rv xv ev Z E Ep) (a:Below w.heap.size w w'):lU T X B p bM jM w' jr jc je l8 l9 l10 bg jg v6 v7 v8 v9 v10 rv xv ev Z E Ep:=by
 have d:∀k,Z k≠none->w'.heap[k]? = w.heap[k]?:=λk n=>a.block k (h.wk k n).1;obtain⟨R,g,o,f⟩:=h.rows;obtain⟨G,l,i,q⟩:=h.bm
 exact⟨h.is.mono a,⟨R,g,aH o a,λx b=>(f x b).ext a⟩,aH h.qp a,h.mG,λx b=>(h.full x b).ext a,λx b=>(h.maps x b).ext a,h.qV,aH h.cls a,aH h.Uu a,h.Vq,h.low,h.zb,h.wk.mono a.size d,h.w8.mono d,h.w9.mono d,h.zL.mono d,
  ⟨G,l.mono a,λx u j=>by obtain⟨c,e,m⟩:=i x u j;exact⟨c,e,m.mono d⟩,q⟩,h.jm.mono a⟩
def lU.Vr (h:lU T X B p bM jM w jr jc je l8 l9 l10 bg jg v6 v7 v8 v9 v10 rv xv ev Z E Ep) {d:Value} {R:List (aG×Value)} (n:R.map (·.1)=T.take jr) (r:w.ownsRow B h_ 3 rv jr (R.flatMap Vm)) (y:∀x∈R,ik w Z x.2 x.1.map) {q:aG} (A:T[jr]? = some q) {l:Value} (D:ik w Z l q.map)
 (v:w'.ownsRow B h_ 3 d (jr+1) (R.flatMap Vm++Vm (q,l))) (k:w.grownBy w' rv.ownBlock) :
 lU T X B p bM jM (w'.setCell ⟨p,0,none⟩ d) (jr+1) jc je l8 l9 l10 bg jg v6 v7 v8 v9 v10 d xv ev Z E Ep:=by
 have a:=bJ.bQ r k;have m:=a.is h.is (by decide);have b:=bJ.put (o:=0) m d;have i:=a.z h.wk (by decide);have j:=h.wk.mono a.size i;have g:=b.z j (by decide);obtain⟨G,C,t,s⟩:=h.bm
 refine⟨m.set 0 d,⟨R++[(q,l)],by rw[j5,n,vt,A];rfl,?_,λx f=>?_⟩,b.own (a.own h.qp (by decide)) (by decide),h.mG,λx f=>((h.full x f).iQ a (by decide)).iQ b (by decide),λx f=>((h.maps x f).iQ a (by decide)).iQ b (by decide),h.qV,
  b.own (a.own h.cls (by decide)) (by decide),b.own (a.own h.Uu (by decide)) (by decide),h.Vq,h.low,h.zb,
  j.mono b.size g,(h.w8.mono i).mono g,(h.w9.mono i).mono g,(h.zL.mono i).mono g,⟨G,b.map (a.map C),λx u k=>by obtain⟨c,e,F⟩:=t x u k;exact⟨c,e,(F.mono i).mono g⟩,s⟩,b.map (a.map h.jm)⟩
 ·rw[j7];exact b.own (by simpa using v) (by decide)
 rcases ie.1 f with f|f
 ·exact((y x f).iQ a (by decide)).iQ b (by decide)
 rw[gE.1 f];exact(D.iQ a (by decide)).iQ b (by decide)
def lU.Zf (h:lU T X B p bM jM w jr jc je l8 l9 l10 bg jg v6 v7 v8 v9 v10 rv xv ev Z E Ep) {b:Value} (n:w'.ownsRow B 260 2 b (jc+1) ((BF (T.take (jc+1))).flatMap cellC)) (g:w.grownBy w' v6.ownBlock) (q:kK w v6 b) :
 lU T X B p bM jM w' jr (jc+1) je l8 l9 l10 bg jg b v7 v8 v9 v10 rv xv ev Z E Ep:=by
 obtain⟨R,j,r,i⟩:=h.rows;have a:=bJ.bQ h.cls g;have d:=a.z h.wk (by decide);obtain⟨G,m,l,t⟩:=h.bm
 exact⟨a.is h.is (by decide),⟨R,j,a.own r (by decide),λx f=>(i x f).iQ a (by decide)⟩,a.own h.qp (by decide),h.mG,λx f=>(h.full x f).iQ a (by decide),λx f=>(h.maps x f).iQ a (by decide),h.qV,n,h.Vq.symm.stays h.Uu g,(h.Vq.symm.push (λk s=>(h.Uu.lt k s).2) q).symm,h.low,h.zb,
  h.wk.mono a.size d,h.w8.mono d,h.w9.mono d,h.zL.mono d,⟨G,a.map m,λx u g=>by obtain⟨c,e,o⟩:=l x u g;exact⟨c,e,o.mono d⟩,t⟩,a.map h.jm⟩
def lU.Zg (h:lU T X B p bM jM w jr jc je l8 l9 l10 bg jg v6 v7 v8 v9 v10 rv xv ev Z E Ep) {b:Value} {Ep':List eB} (n:w'.ownsRow B 260 2 b Ep'.length ((sP Ep').flatMap cellC)) (g:w.grownBy w' v7.ownBlock) (q:kK w v7 b) :
 lU T X B p bM jM w' jr jc je l8 l9 l10 bg jg v6 b v8 v9 v10 rv xv ev Z E Ep':=by
 obtain⟨R,j,r,i⟩:=h.rows;have a:=bJ.bQ h.Uu g;have d:=a.z h.wk (by decide);obtain⟨G,m,l,t⟩:=h.bm
 exact⟨a.is h.is (by decide),⟨R,j,a.own r (by decide),λx f=>(i x f).iQ a (by decide)⟩,a.own h.qp (by decide),h.mG,λx f=>(h.full x f).iQ a (by decide),λx f=>(h.maps x f).iQ a (by decide),h.qV,h.Vq.stays h.cls g,n,h.Vq.push (λk s=>(h.cls.lt k s).2) q,h.low,h.zb,
  h.wk.mono a.size d,h.w8.mono d,h.w9.mono d,h.zL.mono d,⟨G,a.map m,λx u g=>by obtain⟨c,e,o⟩:=l x u g;exact⟨c,e,o.mono d⟩,t⟩,a.map h.jm⟩
def lU.Vs (h:lU T X B p bM jM w jr jc je l8 l9 l10 bg jg v6 v7 v8 v9 v10 rv xv ev Z E Ep) {ev':Value} {x:eB} {je':Nat} (v:w'.ownsRow B 178 3 ev' (E.length+1) (E.flatMap Kr++Kr x)) (j:w.grownBy w' ev.ownBlock)
 (hf:ik w Z x.2.2.1 (aD T x.1)) (D:ik w Z x.2.1 (bP T x.1)) (F:x.2.2.2=true↔Prim T X x.1) (n:(E++[x]).map (·.1)=(mapped (T.take je')).map (·.code)) :
 lU T X B p bM jM (w'.setCell ⟨p,4,none⟩ ev') jr jc je' l8 l9 l10 bg jg v6 v7 v8 v9 v10 rv xv ev' Z (E++[x]) Ep:=by
 obtain⟨R,l,q,A⟩:=h.rows;have b:=bJ.bQ h.qp j;have k:=b.is h.is (by decide);have d:=bJ.put (o:=4) k ev';have g:=b.z h.wk (by decide);have i:=h.wk.mono b.size g;have f:=d.z i (by decide);obtain⟨G,C,s,r⟩:=h.bm;have t:w'.ownsRow B 178 3 ev' (E++[x]).length ((E++[x]).flatMap Kr):=by
  rw[gn,j7];simpa using v
 refine⟨k.set 4 ev',⟨R,l,d.own (b.own q (by decide)) (by decide),λx m=>((A x m).iQ b (by decide)).iQ d (by decide)⟩,d.own t (by decide),n,λy a=>?_,λy a=>?_,λy a=>?_,d.own (b.own h.cls (by decide)) (by decide),d.own (b.own h.Uu (by decide)) (by decide),h.Vq,h.low,h.zb,
  i.mono d.size f,(h.w8.mono g).mono f,(h.w9.mono g).mono f,(h.zL.mono g).mono f,⟨G,d.map (b.map C),λx u j=>by obtain⟨c,e,H⟩:=s x u j;exact⟨c,e,(H.mono g).mono f⟩,r⟩,d.map (b.map h.jm)⟩
 ·rcases ie.1 a with a|a
  ·exact((h.full y a).iQ b (by decide)).iQ d (by decide)
  rw[gE.1 a];exact(hf.iQ b (by decide)).iQ d (by decide)
 ·rcases ie.1 a with a|a
  ·exact((h.maps y a).iQ b (by decide)).iQ d (by decide)
  rw[gE.1 a];exact(D.iQ b (by decide)).iQ d (by decide)
 rcases ie.1 a with a|a
 ·exact h.qV y a
 rw[gE.1 a];exact F
def lU.Vt (h:lU T X B p bM jM w jr jc je l8 l9 l10 bg jg v6 v7 v8 v9 v10 rv xv ev Z E Ep) {o:Nat} (d:vK w Z o w' b) {j i g:List Nat} {n q m:Value}
 (C:si w' B b 0 n j) (I:si w' B b 1 q i) (s:si w' B b 2 m g) (A:∀(c:Nat) (u:Value) (l:List Nat),si w B Z (c+3) u l->si w' B b (c+3) u l) :
 lU T X B p bM jM w' jr jc je j i g bg jg v6 v7 n q m rv xv ev b E Ep:=by
 have:B<=w.heap.size:=by have:=h.is.lt;have:=h.low.1;omega
 obtain⟨R,v,D,J⟩:=h.rows;obtain⟨G,K,H,F⟩:=h.bm;have a:=d.iQ h.wk
 refine⟨a.is h.is (by decide),⟨R,v,a.own D (by decide),λx f=>(J x f).push d⟩,a.own h.qp (by decide),h.mG,λx f=>(h.full x f).push d,λx f=>(h.maps x f).push d,h.qV,a.own h.cls (by decide),a.own h.Uu (by decide),h.Vq,h.low,λk t=>?_,d.z,C,I,s,
  ⟨G,a.map K,λx u y=>by obtain⟨c,e,L⟩:=H x u y;exact⟨c,e,A c u _ L⟩,F⟩,a.map h.jm⟩
 by_cases r:k<w.heap.size
 ·by_cases e:Z k=some o
  ·exact h.zb k (by rw[e];simp)
  rw[d.sub k r e] at t;exact h.zb k t
 omega
def lU.Qm (h:lU T X B p bM jM w jr jc je l8 l9 l10 bg jg v6 v7 v8 v9 v10 rv xv ev Z E Ep) (a:vK w Z 0 w' b) (d:si w' B b 0 v l) :
 lU T X B p bM jM w' jr jc je l l9 l10 bg jg v6 v7 v v9 v10 rv xv ev b E Ep:=h.Vt a d (a.other (by decide) h.w9) (a.other (by decide) h.zL) λc u l e=>a.other (by omega) e
def lU.afo (h:lU T X B p bM jM w jr jc je l8 l9 l10 bg jg v6 v7 v8 v9 v10 rv xv ev Z E Ep) (a:vK w Z 1 w' b) (d:si w' B b 1 v l) :
 lU T X B p bM jM w' jr jc je l8 l l10 bg jg v6 v7 v8 v v10 rv xv ev b E Ep:=h.Vt a (a.other (by decide) h.w8) d (a.other (by decide) h.zL) λc u l e=>a.other (by omega) e
def lU.G8 (h:lU T X B p bM jM w jr jc je l8 l9 l10 bg jg v6 v7 v8 v9 v10 rv xv ev Z E Ep) (a:vK w Z 2 w' b) (d:si w' B b 2 v l) :
 lU T X B p bM jM w' jr jc je l8 l9 l bg jg v6 v7 v8 v9 v rv xv ev b E Ep:=h.Vt a (a.other (by decide) h.w8) (a.other (by decide) h.w9) d λc u l e=>a.other (by omega) e
def lU.afp (h:lU T X B p bM jM w jr jc je l8 l9 l10 bg jg v6 v7 v8 v9 v10 rv xv ev Z E Ep) {je':Nat} (a:E.map (·.1)=(mapped (T.take je')).map (·.code)):lU T X B p bM jM w jr jc je' l8 l9 l10 bg jg v6 v7 v8 v9 v10 rv xv ev Z E Ep:=
 ⟨h.is,h.rows,h.qp,a,h.full,h.maps,h.qV,h.cls,h.Uu,h.Vq,h.low,h.zb,h.wk,h.w8,h.w9,h.zL,h.bm,h.jm⟩
structure afq (T:List aG) (X:List Nat) (B p bM jM:Nat) (w:World) (jr jc je:Nat) (l8 l9 l10:List Nat) (bg:Nat->List Nat) (jg:Value->Value->Prop) (v6 v7 v8 v9 v10:Value) (rv xv ev:Value) (Z:ig) (E Ep:List eB) (G:Value->Value->Prop) (c0:Nat) (l:List Nat) (v:Value):Prop where
 map:dE prog 21 w bM G
 row:si w B Z (c0+3) v l
 st:∀w2,dE prog 21 w2 bM (Ad G (.int .i32 c0) v)->w.grownBy w2 (some bM)->bM≠jM->lU T X B p bM jM w2 jr jc je l8 l9 l10 (λc=>if c=c0 then l else bg c) jg v6 v7 v8 v9 v10 rv xv ev Z E Ep
def lU.pushB (h:lU T X B p bM jM w jr jc je l8 l9 l10 bg jg v6 v7 v8 v9 v10 rv xv ev Z E Ep) {s:ig} {q:Nat} (a:vK w Z (q+3) w' s) (K:si w' B s (q+3) v l) 
 (J:dE prog 21 w bM G) (O:∀x u,G x u->∃c:Nat,x=.int .i32 c/\si w B Z (c+3) u (bg c)) (N:∀c:Nat,(∀u,¬G (.int .i32 c) u)->bg c=[]) :
 afq T X B p bM jM w' jr jc je l8 l9 l10 bg jg v6 v7 v8 v9 v10 rv xv ev s E Ep G q l v:=by
 have:B<=w.heap.size:=by have:=h.is.lt;have:=h.low.1;omega
 have b:=a.iQ h.wk;obtain⟨R,L,M,Q⟩:=h.rows;refine⟨b.map J,K,λy P C H=>?_⟩;have j:∀k t,mZ w' k t->k<w'.heap.size->y.heap[k]? = w'.heap[k]?:=λk t j o=>C.block k o λe=>by
  injection e with e;subst e;exact ou (b.map J) j
 have f:∀{base i n:Nat} {e:TypeId} {v:Value} {I:List Value},w'.ownsRow base e i v n I->y.ownsRow base e i v n I:=λf=>aad f λk d=>j k _ (bV f d) (f.lt k d).2;have hf:∀{v:Value} {l:List Nat},ik w' s v l->ik y s v l:=λhf=>⟨f hf.1,hf.2⟩;have r:∀k,s k≠none->y.heap[k]? = w'.heap[k]?:=λk d=>j k _ (a.z k d).2 (a.z k d).1;have F:=b.is h.is (by decide)
 refine⟨dS F (j p _ (iA F) F.lt),⟨R,L,f (b.own M (by decide)),λx m=>hf ((Q x m).push a)⟩,f (b.own h.qp (by decide)),h.mG,λx m=>hf ((h.full x m).push a),λx m=>hf ((h.maps x m).push a),h.qV,f (b.own h.cls (by decide)),f (b.own h.Uu (by decide)),h.Vq,h.low,λk j=>?_,a.z.mono C.size r,
  (a.other (by omega) h.w8).mono r,(a.other (by omega) h.w9).mono r,(a.other (by omega) h.zL).mono r,⟨_,P,λx u A=>?_,λc b=>?_⟩,(b.map h.jm).block (C.block jM (b.map h.jm).lt λe=>by injection e with e;exact H e.symm)⟩
 ·by_cases o:k<w.heap.size
  ·by_cases e:Z k=some (q+3)
   ·exact h.zb k (by rw[e];simp)
   rw[a.sub k o e] at j;exact h.zb k j
  omega
 ·rcases A with⟨rfl,rfl⟩|⟨m,A⟩
  ·exact⟨q,rfl,by simp only[if_true];exact K.mono r⟩
  obtain⟨c,rfl,D⟩:=O x u A;have g:c≠q:=λe=>m (by rw[e]);exact⟨c,rfl,by simp only[if_neg g];exact(a.other (by omega) D).mono r⟩
 have g:c≠q:=λe=>b v (.inl ⟨by rw[e],rfl⟩);simp only[if_neg g];exact N c λu D=>b u (.inr ⟨λe=>g (by injection e with _ e;omega),D⟩)
def lU.ajE (h:lU T X B p bM jM w jr jc je l8 l9 l10 bg jg v6 v7 v8 v9 v10 rv xv ev Z E Ep) (q:bM≠jM) (A:dE prog 262 w' jM G) (j:w.grownBy w' (some jM)) :
 lU T X B p bM jM w' jr jc je l8 l9 l10 bg G v6 v7 v8 v9 v10 rv xv ev Z E Ep:=by
 obtain⟨R,y,C,H⟩:=h.rows;obtain⟨z,s,F,D⟩:=h.bm;have i:∀k t,mZ w k t->k<w.heap.size->w'.heap[k]? = w.heap[k]?:=λk t i o=>j.block k o λe=>by
  injection e with e;subst e;exact ou h.jm i
 have b:∀{base d n:Nat} {e:TypeId} {v:Value} {r:List Value},w.ownsRow base e d v n r->w'.ownsRow base e d v n r:=λb=>aad b λk a=>i k _ (bV b a) (b.lt k a).2;have hf:∀{v:Value} {l:List Nat},ik w Z v l->ik w' Z v l:=λhf=>⟨b hf.1,hf.2⟩;have g:∀k,Z k≠none->w'.heap[k]? = w.heap[k]?:=λk a=>i k _ (h.wk k a).2 (h.wk k a).1
 exact⟨dS h.is (i p _ (iA h.is) h.is.lt),⟨R,y,b C,λx f=>hf (H x f)⟩,b h.qp,h.mG,λx f=>hf (h.full x f),λx f=>hf (h.maps x f),h.qV,b h.cls,b h.Uu,h.Vq,h.low,h.zb,h.wk.mono j.size g,h.w8.mono g,h.w9.mono g,h.zL.mono g,
  ⟨z,s.block (j.block bM s.lt λe=>by injection e with e;exact q e),λx u m=>by obtain⟨c,e,I⟩:=F x u m;exact⟨c,e,I.mono g⟩,D⟩,A⟩
end
def Zh {w:World} (c:Int) (k n d:Nat) (a:Option Addr) (h:k≠0\/n≠0) :
 Calls prog 153 #[.agg #[.int .i32 c,.int .i64 k,.slice a n d]] w λe w'=>e=.returned (.bool true)/\Below w.heap.size w w':=by
 have f:=ah (w:=w) (.cells #[.int .i32 c,.int .i64 k,.slice a n d] 196);have b:=Is.new w #[.int .i32 c,.int .i64 k,.slice a n d] 196;have:=b.at 0 rfl;have:=b.at 1 rfl;have:=b.at 2 rfl;go_enter func153,ntmps153;by_cases g:k=0
 ·have:n≠0:=by omega
  subst g;have z:decide (0<n)=true:=by simp;omega
  have:((0:Nat):Int)=0:=rfl;go_wp2;go_ret;exact⟨by simp,f⟩
 have z:decide (0<k)=true:=by simp;omega
 go_wp2;go_ret;exact⟨rfl,f⟩
end
section
open Go.RowKit Go.Cd
def lS.put {w:World} {p k o:Nat} {f:Nat->Nat} {m:Array Value} {T:TypeId} (h:lS w p f) (q:Is w k m T) (F:m.size<=100) (u:Value):lS (w.setCell ⟨k,o,none⟩ u) p f:=by
 obtain⟨i,D,B,cap,y,E,z,j,l,t,g⟩:=h;have v:p≠k:=λe=>by
  subst e;rw[q.cell] at l;have:=(ju.1 l).1;omega
 have C:B≠k:=λe=>by
  subst e;have x:=(g 255 (by decide)).2;rw[q.cell] at x;have:=(ju.1 x).1;omega
 have d:∀b,b≠k->∀o',(w.setCell ⟨k,o,none⟩ u).cell? ⟨b,o',none⟩=w.cell? ⟨b,o',none⟩:=λb A o'=>nB (a:=⟨b,o',none⟩) (jj _ _ _ _ (by simp only;exact λe=>A e));exact⟨i,D,B,cap,by simpa using y,by simpa using E,z,j,(d p v _).trans l,λn r=>⟨(t n r).1,(d p v _).trans (t n r).2⟩,λc s=>⟨(g c s).1,(d B C _).trans (g c s).2⟩⟩
def DX (w:World) (v:Value) (l:List Nat):Prop:=w.ownsRow 0 aN 1 v (lC (gu l)).length (aM (lC (gu l)))
structure DY (T:List aG) (X:List Nat) (E:List eB) (w:World) (p:Nat) (rv xv ev:Value) (bM jM:Nat) (cp pp iv sv mv:Value):Prop where
 is:Is w p #[rv,xv,cp,pp,ev,.map (some bM),.map (some jM),iv,sv,mv] 156
 rows:∃R:List (aG×Value),R.map (·.1)=T/\w.ownsRow 0 h_ 3 rv T.length (R.flatMap Vm)/\∀x∈R,w.ownsRow 0 aN 1 x.2 x.1.map.length (aM x.1.map)
 qp:w.ownsRow 0 178 3 ev E.length (E.flatMap Kr)
 mG:E.map (·.1)=(mapped T).map (·.code)
 full:∀x∈E,w.ownsRow 0 aN 1 x.2.2.1 (aD T x.1).length (aM (aD T x.1))
 maps:∀x∈E,w.ownsRow 0 aN 1 x.2.1 (bP T x.1).length (aM (bP T x.1))
 qV:∀x∈E,x.2.2.2=true↔Prim T X x.1
 bm:∃G,dE Tryz.prog 21 w bM G/\(∀x u,G x u->∃c:Nat,x=.int .i32 c/\w.ownsRow 0 aN 1 u (wK T E c).length (aM (wK T E c)))/\∀c:Nat,(∀u,¬G (.int .i32 c) u)->wK T E c=[]
 jm:dE Tryz.prog 262 w jM (zK T E)
section
variable {T : List aG} {X : List Nat} {E : List eB} {w w' : World} {p bM jM : Nat} {rv xv ev cp pp iv sv mv : Value}
def DY.mono (h:DY T X E w p rv xv ev bM jM cp pp iv sv mv) (a:Below w.heap.size w w'):DY T X E w' p rv xv ev bM jM cp pp iv sv mv:=by
 obtain⟨R,f,l,d⟩:=h.rows;obtain⟨G,j,g,m⟩:=h.bm
 exact⟨h.is.mono a,⟨R,f,aH l a,λx b=>aH (d x b) a⟩,aH h.qp a,h.mG,λx b=>aH (h.full x b) a,λx b=>aH (h.maps x b) a,h.qV,
  ⟨G,j.mono a,λx u i=>by obtain⟨c,e,k⟩:=g x u i;exact⟨c,e,aH k a⟩,m⟩,h.jm.mono a⟩
def DY.put (h:DY T X E w p rv xv ev bM jM cp pp iv sv mv) (o:Nat) (u:Value) {j g b d i:Value}
 (n:(#[rv,xv,cp,pp,ev,.map (some bM),.map (some jM),iv,sv,mv]:Array Value).setIfInBounds o u=#[rv,xv,j,g,ev,.map (some bM),.map (some jM),b,d,i]):DY T X E (w.setCell ⟨p,o,none⟩ u) p rv xv ev bM jM j g b d i:=by
 have a:=bJ.put (o:=o) h.is u;obtain⟨R,l,t,k⟩:=h.rows;obtain⟨G,r,m,v⟩:=h.bm
 exact⟨n▸h.is.set o u,⟨R,l,a.own t (by decide),λx f=>a.own (k x f) (by decide)⟩,a.own h.qp (by decide),h.mG,λx f=>a.own (h.full x f) (by decide),λx f=>a.own (h.maps x f) (by decide),h.qV,
  ⟨G,a.map r,λx u q=>by obtain⟨c,e,s⟩:=m x u q;exact⟨c,e,a.own s (by decide)⟩,v⟩,a.map h.jm⟩
def DX.put {l:List Nat} {v:Value} (h:DX w v l) {a:Array Value} (b:Is w p a 156) (o:Nat) (u:Value):DX (w.setCell ⟨p,o,none⟩ u) v l:=(bJ.put (o:=o) b u).own h (by decide)
def DX.mono {l:List Nat} {v:Value} (h:DX w v l) (a:Below w.heap.size w w'):DX w' v l:=aH h a
end
def DY.of {T:List aG} {X:List Nat} {B p m o:Nat} {w:World} {g k a:List Nat} {q:Nat->List Nat} {f:Value->Value->Prop} {t A F D d i xv r:Value} {Z:ig} {E:List eB}
 (h:lU T X B p m o w T.length T.length T.length g k a q f t A F D d i xv r Z E E) (n:NZ T E g k a q f):DY T X E w p i xv r m o (.pointer none) (.pointer none) (.slice none 0 0) (.slice none 0 0) (.slice none 0 0):=by
 have s:T.take T.length=T:=lB;obtain⟨R,v,z,C⟩:=h.rows;obtain⟨G,H,l,j⟩:=h.bm;rw[n.ib] at l j
 exact⟨h.is,⟨R,by rw[v,s],aT z (ic _),λx b=>(C x b).1⟩,aT h.qp (ic _),by rw[h.mG,s],λx b=>(h.full x b).1,λx b=>(h.maps x b).1,h.qV,
  ⟨G,H,λx u y=>by obtain⟨c,e,I⟩:=l x u y;exact⟨c,e,aT I.1 (ic _)⟩,j⟩,by rw[<-n.ij];exact h.jm⟩
def cK (w:World) (p:Nat) (T:List aG) (X:List Nat):Prop:=
 ∃E h xv f g i a e b d c,DY T X E w p h xv f g i (.pointer (some ⟨a,0,none⟩)) (.pointer (some ⟨e,0,none⟩)) b d c/\lS w a (iZ (BF T))/\lS w e (iZ (sP E))/\
  DX w b (BH T E)/\DX w d (DW T E)/\DX w c (Kv E)/\bG w xv (aM (kE X))
def cK.mono {w w':World} {p:Nat} {T:List aG} {X:List Nat} (h:cK w p T X) (a:Below w.heap.size w w'):cK w' p T X:=by
 obtain⟨E,o,xv,i,j,s,d,c,e,r,k,b,q,g,m,f,l,n⟩:=h;exact⟨E,o,xv,i,j,s,d,c,e,r,k,b.mono a,q.mono a,g.mono a,m.mono a,f.mono a,l.mono a,n.mono a⟩
end
end Go.Proofs.YtmnimbnojdndmaaGreatDoor
namespace Go.Cd
open Go.RowKit
def FK {w:World} {k:Nat} {c u:Value} {T:TypeId} {a:Nat×Nat} (h:w.heap[k]? = some (.cells #[c] T a)):(w.setCell ⟨k,0,none⟩ u).heap[k]? = some (.cells #[u] T a):=by
 simp only[World.setCell,sq,if_pos,h];simp
def rq:Value->Nat
 | .pointer (some a)=>a.block
 | .slice (some a) _ _=>a.block
 | _=>0
def wU {P:Program} {ops:Array Oper} {o:Oper} {a:Act} {w:World} {T:TypeId} {b:Array Value} (c:o.guard=none) (e:o.op=.alloc T)
 (d:∀W,(Instr.alloc T true (.tuple #[])).run P W=.ok (.pointer (some ⟨W.heap.size,0,none⟩)) (W.alloc (.cells b T))) :
 mI P ops (λv W=>∃k,v=.pointer (some ⟨k,0,none⟩)/\W.heap[k]? = some (.cells b T)) rq o a w:=by
 refine⟨by simp[Region.wanted,c],λW f=>⟨_,_,?_,ah _,⟨W.heap.size,rfl,heap_alloc_new' _ _ _ rfl⟩,d' _,?_⟩⟩
 ·have:execOp a.eval o=(do pure (.value (<-Instr.alloc T true (.tuple #[])))):=by simp only[execOp,e]
  rw[this];show(Sem.bind _ _).run P W=_;rw[tt,d W];rfl
 simp[rq]
def ru {ops:Array Oper} {vs:Nat->Value} {i:Nat} {a:Act} {d:Option Tmp} (h:bL ops i=d):dK ops vs [i] a=a.put d (vs i):=by subst h;rfl
def wV {w w':World} {v:Value} {o:Obj} (c:Below w.heap.size w w') (h:∃k,v=.pointer (some ⟨k,0,none⟩)/\w.heap[k]? = some o):∃k,v=.pointer (some ⟨k,0,none⟩)/\w'.heap[k]? = some o:=by
 obtain⟨k,b,a⟩:=h;exact⟨k,b,(c.block k (block_lt a)).trans a⟩
end Go.Cd
