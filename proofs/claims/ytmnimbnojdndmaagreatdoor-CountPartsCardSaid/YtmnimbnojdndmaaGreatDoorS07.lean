/- State by state it is added up what is possible; no condition. -/
import Derived.Test.YtmnimbnojdndmaaGreatDoorS06
import Derived.Maps.AppendAt
set_option maxRecDepth 100000
set_option maxHeartbeats 6400000
set_option linter.all false
namespace Go.Proofs.YtmnimbnojdndmaaGreatDoor
section
open Go.RowKit Go.Cd Go.Shelf _root_.Go.Proofs.Tryz
attribute [local go_sem] Oper.semAt_some
def mY (p:List UInt8) (l:List (List UInt8)):bA (p::l)=p++10::bA l:=by simp[bA]
def qL:∀(l:List (List UInt8)) (k:Nat),(bA (l.drop k)).length<=(bA l).length
 | l,0=>by simp
 | [],k+1=>by simp
 | p::l,k+1=>by
   have:=qL l k;rw[mY,gn,im];simp only[yd];omega
def Y4 (m:Nat) (hm:1<=m) (Bs:Nat) {α:Type} (a:List α) (val:α->List UInt8) (O:∀y∈a,(10:UInt8)∉val y) (V:(bA (a.map val)).length<1000000)
 (w:World) (b:w.cell? ⟨Bs,0,none⟩=some (.string (tx (bA (a.map val))))) (fs:w.frozen? ⟨Bs,0,none⟩=false) :
 GH Fence.wide m prog 209 #[.pointer (some ⟨Bs,0,none⟩)] (λx=>#[.string (tx (val x++[10]))]) [Bs] Bs a w:=by
 intro l J W T U P h0;have c:W.frozen? ⟨Bs,0,none⟩=false:=(T.frozen (p:=⟨Bs,0,none⟩) (wt w ⟨Bs,0,none⟩ b)).trans fs
 replace b:=aB T b
 refine callsIn_of_wp func209 rfl trivial ?_ rfl;simp only[ntmps209,ps,im,kp,Nat.reduceAdd,Nat.reduceSub,oe,n8,pt,oE,lf,lz]
 gi_wp2_with fail
 gi_loopw [4] (λiv wr=>∃k:Nat,k<=a.length/\J (a.take k) wr/\wr.cell? ⟨Bs,0,none⟩=some (.string (tx (bA ((a.drop k).map val))))/\wr.frozen? ⟨Bs,0,none⟩=false) (λiv wr=>vZ wr Bs)
 case atStart=>exact⟨0,ic _,h0,b,c⟩
 case round=>
  clear b c h0;obtain⟨k,hk,A,b,c⟩:=hrel;by_cases o:k=a.length
  ·have f:a.take k=a:=iu (by omega);rw[rS (by omega)] at b
   replace b:wr.cell? ⟨Bs,0,none⟩=some (.string ⟨#[]⟩):=b
   rw[f] at A;have HJ:=aa A;clear A f o
   gi_wp2
   refine bodyPost_end (results_none rfl _ _ _) rfl ?_;exact⟨⟨_,rfl⟩,HJ.out⟩
  have q:k<a.length:=by omega
  obtain⟨y,d⟩:=ae (a[k]);have C:y∈a:=by rw[d];exact gw q
  have hd:a.drop k=y::a.drop (k+1):=by rw[d];exact jf q
  have Y:a.take (k+1)=a.take k++[y]:=by rw[d];exact gR q
  have h3:=O y C;obtain⟨R,s⟩:=ae (bA ((a.drop (k+1)).map val));have M:bA ((a.drop k).map val)=val y++10::R:=by rw[s,hd,lj,mY]
  rw[M] at b
  have X:=aa (show Calls prog 210 #[.string (tx (val y++10::R)),.int .u8 10] wr λe w'=>e=.returned (.int .i64 ((val y).length:Nat))/\w'=wr from by
   have h:=Tryz.strings_IndexByte (tx (val y++10::R)) 10 wr;rw[dM,show((10:Int)).toNat.toUInt8=10 from rfl,lL 10 _ _ h3] at h
   exact h)
  have j:(tx (val y++10::R)).size=(val y).length+1+R.length:=by rw[aX,gn,im];omega
  have S:=aa (show(tx (val y++10::R)).extract 0 ((val y).length+1)=tx (val y++[10]) from by
   have:=JP (val y++[10]) R;rw[kl,gn] at this
   exact this)
  have F:=aa (show(tx (val y++10::R)).extract ((val y).length+1) ((val y).length+1+R.length)=tx R from by
   have:=Nt (val y++[10]) R ((val y).length+1) (by simp)
   rwa [kl] at this)
  have Y0:=aa s;obtain⟨v,Z⟩:=ae ((val y).length);rw[<-Z] at X j S F;have ab:v+1+R.length<1000000:=by
   have h1:=qL (a.map val) k;rw[<-List.map_drop,M,<-aX,j] at h1;omega
  have Q:0<(tx (val y++10::R)).size:=by omega
  have D:=aa b;have N:=aa A;have K:=aa Y;have g1:=Gr.cell (ag wr) b;clear M hd Y d s Z A
  gi_wp2_with (refine⟨trivial,?_⟩;gi_at_call 210;refine(callsIn_wide.2 X.out).mono ?_;rintro e u⟨rfl,rfl⟩)
  refine(wpIn_wide (n:=m)).2 ?_;refine aC #[true,true,true,true,true,true,true,true,true,false] 9 1 mixed ?_;refine ay [0,1,2,3,4,5,6,7,8] 0 ?_
  iterate 9 (refine aA rfl ?_;go_big_quiet_step (rfl))
  refine az ?_;refine aJ [9] ?_;refine tail_cons rfl ?_;go_wp2_with fail;refine tail_nil ?_;rw[S.out,F.out];have G:J (a.take k) (u.setCell ⟨Bs,0,none⟩ (.string (tx R))).drew:=U _ _ _ none (U _ _ _ _ N.out (bX u Bs 0 _) (λr e=>by cases e;rfl)) ⟨rfl,rfl,rfl,d' _,λ_ _ _=>rfl⟩ (λr e=>by cases e);obtain⟨fn,tmps,assign,body,hy,H⟩:=P (a.take k) y _ G (by rw[jn];omega);rw[<-K.out] at H;have t:(u.setCell ⟨Bs,0,none⟩ (.string (tx R))).drew.cell? ⟨Bs,0,none⟩=some (.string (tx R)):=vm _ _ _ (by rw[D.out];rfl);have g:(u.setCell ⟨Bs,0,none⟩ (.string (tx R))).drew.frozen? ⟨Bs,0,none⟩=false:=(World.frozen?_setCell ..).trans c;obtain⟨Ws,B⟩:=ae ((u.setCell ⟨Bs,0,none⟩ (.string (tx R))).drew);rw[<-B] at hy H t g⊢;have HR:=aa H;have YT:=aa (show vZ u Bs=v+1+R.length from by unfold vZ;rw[D.out];exact j);clear B G H P g1 b c
  gi_wp2
  refine HR.out.mono ?_;rintro e W3⟨rfl,z,i⟩;have E:=(i Bs (by simp)).1.trans t;have I:=(i Bs (by simp)).2.trans g;have L:=aa z;clear i z t g hy
  gi_wp2
  go_roundw
  case rel=>exact⟨k+1,by omega,L.out,by rw[<-Y0.out];exact E,I⟩
  case measure=>
   have e1:vZ W3 Bs=R.length:=by unfold vZ;rw[E];exact aX _
   rw[e1,YT.out];omega
def U1 (s:ByteArray) (w:World) :
 Calls prog 179 #[.string s] w λe w'=>e=.returned (.func (.func 209) #[] #[.pointer (some ⟨w.heap.size,0,none⟩)])/\w'=w.alloc (.cells #[.string s] 9):=by
 go_enter func179,ntmps179;go_wp2;go_ret;exact⟨rfl,rfl⟩
def JQ (s p:ByteArray) (w:World) :
 Calls prog 293 #[.string s,.string p,.int .i64 0] w λe w'=>e=.returned (.func (.func 305) #[] #[.pointer (some ⟨w.heap.size+1,0,none⟩),.pointer (some ⟨w.heap.size,0,none⟩),.pointer (some ⟨w.heap.size+2,0,none⟩)])/\w'=((w.alloc (.cells #[.string s] 9)).alloc (.cells #[.string p] 9)).alloc (.cells #[.int .i64 0] 3):=by
 go_enter func293,ntmps293;go_wp2;go_ret;exact⟨rfl,rfl⟩
def GQ (s p:ByteArray) (w:World) :
 Calls prog 272 #[.string s,.string p] w λe w'=>e=.returned (.func (.func 305) #[] #[.pointer (some ⟨w.heap.size+1,0,none⟩),.pointer (some ⟨w.heap.size,0,none⟩),.pointer (some ⟨w.heap.size+2,0,none⟩)])/\w'=((w.alloc (.cells #[.string s] 9)).alloc (.cells #[.string p] 9)).alloc (.cells #[.int .i64 0] 3):=by
 have a:=aa (JQ s p w);go_enter func272,ntmps272;go_wp2_with fail;refine a.out.mono ?_;rintro e b⟨rfl,rfl⟩;go_wp2;go_ret;exact⟨rfl,rfl⟩
end
open Go.RowKit Go.Cd Go.Shelf
variable {α:Type} {p q base a n:Nat} {A B:World} {e:TypeId} {v:Value} {row:Option Nat}
def mE (el:Nat->α) (n k:Nat):List α:=(List.range k).map λt=>el (n-1-t)
def aaV (a:Nat->α) (n k:Nat):mE a n (k+1)=mE a n k++[a (n-1-k)]:=by simp[mE,s_]
def zu (a:Nat->α) (n k:Nat):(mE a n k).length=k:=by simp[mE]
def lM (p q:Nat) (A B:World):Prop:=B.heap[p]? = A.heap[p]?/\B.heap[q]? = A.heap[q]?
def lM.refl (p q:Nat) (A:World):lM p q A A:=⟨rfl,rfl⟩
def lM.trans {C:World} (h:lM p q A B) (k:lM p q B C):lM p q A C:=⟨k.1.trans h.1,k.2.trans h.2⟩
def lM.cellP (h:lM p q A B) (o:Nat):B.cell? ⟨p,o,none⟩=A.cell? ⟨p,o,none⟩:=nB h.1
def lM.ae8 (h:lM p q A B) (o:Nat):B.cell? ⟨q,o,none⟩=A.cell? ⟨q,o,none⟩:=nB h.2
def iW {P:Program} {f:FuncId} {a:Func} {c:Code} {args:Array Value} {w:World} {R:Ending->World->Prop} (hf:P.funcs[f]? = some a) (b:a.body=some c)
 (h:c.wp P (bodyPostM Fence.wide 5 P a R) { tmps:=args++Array.replicate (a.ntmps-args.size) undef,defers:=[] } w):Calls P f args w R:=
 (callsIn_wide (n:=5)).1 (callsIn_of_wp_marks hf b trivial (wpIn_wide.2 h) rfl)
def own_ne {W:World} {f:List Value} (h:W.ownsRow base e a v n f) {k:Nat} {i:Array Value} {T:TypeId} {d:Nat×Nat} (j:W.heap[k]? = some (.cells i T d)) (g:T≠e):v.ownBlock≠some k:=by
 intro b;rcases h.2 with⟨h,_⟩|⟨m,_,l,h,_,c,_⟩
 ·rw[h] at b;cases b
 rw[h] at b;cases b;rw[j] at c;cases c;exact g rfl
def oh (f:A.grownBy B row) (g:∀r,row=some r->∃o:Obj,A.heap[r]? = some o/\o.isCells=false) {k:Nat} {b:Array Value} {T:TypeId} {a:Nat×Nat} (h:A.heap[k]? = some (.cells b T a)):B.heap[k]? = some (.cells b T a):=by
 refine(f.block k (block_lt h) (λe=>?_)).trans h;obtain⟨o,c,d⟩:=g k e.symm;rw[h] at c;cases c;cases d
def U2 (f:A.grownBy B row) (i:∀r,row=some r->∃o:Obj,A.heap[r]? = some o/\o.isCells=false) {c:List Value} (h:A.ownsRow base e a v n c):B.ownsRow base e a v n c:=by
 obtain⟨d,l⟩:=h;refine⟨d,l.imp id ?_⟩;rintro⟨g,cap,b,k,m,j,r⟩;exact⟨g,cap,b,k,m,oh f i j,r⟩
def oo {w:World} {b:Nat} {d:List Value} (h:w.ownsRow base e b v n d) (l:a<=base):w.ownsRow a e b v n d:=by
 obtain⟨f,k⟩:=h;refine⟨f,k.imp id ?_⟩;rintro⟨g,cap,c,j,i,r⟩;exact⟨g,cap,c,j,ia l i,r⟩
end Go.Proofs.YtmnimbnojdndmaaGreatDoor
section
namespace Go.Cd
open Go.RowKit
variable {W A B:World} {n Bs L:Nat} {row:Option Nat}
def abT {F:Fence} {A:Nat} {P:Program} {W:World} {ops:Array Oper} {rest:List Oper} {o:Oper} {a:Act} {Q:Exit->Act->World->Prop} (j:o.guard=none) (s x:Operand) (t:TypeId)
 (I:o.op=.call { callee:=.builtin .append,args:=#[s,x],argTypes:=#[t,t] })
 (base:Nat) (e:TypeId) (z:Value) (b:Nat) (B:Elem P t e z b)
 (v:Value) (n:Nat) (q:List Value) (K:a.eval s=v) (d:W.ownsRow base e 1 v n q)
 (u:Value) (D:a.eval x=.slice (some ⟨W.heap.size,0,none⟩) 1 1) (C:u.oneCell'=true)
 (c:(n+1)*b<=140737488355328) (g:n+1<=maxLen) (m:World) (y:Below base m W) (l:base<=m.heap.size)
 (h:∀v' w',w'.ownsRow base e 1 v' (n+1) (q++[u])->Below base m w'->(W.alloc (.cells #[u] e)).grownBy w' v.ownBlock->wpListIn F A P ops Q rest (a.put o.dst v') w'):wpListIn F A P ops Q (o::rest) a (W.alloc (.cells #[u] e)):=by
 have:=y.size;obtain⟨p,M,i,J,E,f,r⟩:=B;refine wpListIn_append_own _ j s x t I base e i z 1 b M J E f r (kG p) (by decide) v n q K (d.alloc _) ⟨W.heap.size,0,none⟩ 1 1 [u] D (by simp) (cell_one_new _ _ _) (by simpa using C) g c (by simp;omega) ?_;intro v' w' L w _;refine h v' w' L ((y.alloc (by omega) _).grown w (by simp;omega) ?_) w;intro k G;exact(d.lt k G).1
def NB {P:Program} {f:FuncId} {args:Array Value} {w:World} {R:Ending->World->Prop} (l:Nat) (h:Calls P f args w R):CallsIn (Fence.wide.inRound l) n P f args w R:=(callsIn_wide (n:=n)).2 h
def Bj (Bs L:Nat) (A:World) (row:Option Nat):Prop:=∀r,row=some r->r=Bs\/(L<=r/\∃o:Obj,A.heap[r]? = some o/\o.isCells=false)
def Is.turn {k:Nat} {a:Array Value} {T:TypeId} (h:Is A k a T) (f:A.grownBy B row) (g:Bj Bs L A row) (i:k≠Bs):Is B k a T:=
 h.grown f λe=>by
  rcases g k e with c|⟨_,o,b,d⟩
  ·exact i c
  rw[h.at_] at b;cases b;cases d
def JR {base a:Nat} {e:TypeId} {v:Value} {c:List Value} (h:A.ownsRow base e a v n c) (j:A.grownBy B row) (k:Bj Bs L A row) (q:Bs<base):B.ownsRow base e a v n c:=by
 refine h.kept j ?_;rcases h.2 with⟨rfl,_⟩|⟨g,cap,m,rfl,i,b,_⟩
 ·exact .inl rfl
 refine .inr λl=>?_;rcases k g (by simpa [Value.ownBlock] using l.symm) with p|⟨_,o,d,f⟩
 ·omega
 rw[b] at d;cases d;cases f
def Bn {w:World} {m:Nat} (h:Below m w A) (a:A.grownBy B row) (b:Bj Bs L A row) (f:m<=Bs) (g:m<=L) (e:m<=A.heap.size):Below m w B:=
 h.grown a e λk d=>by rcases b k d with c|⟨c,_⟩ <;> omega
def Is.putObj {k D:Nat} {b:Array Value} {T:TypeId} {o o':Obj} (h:Is W k b T) (a:W.heap[D]? = some o) (c:o.isCells=false):Is (W.putObj D o') k b T:=
 h.grown (grownBy_putObj' W D o') λe=>by cases e;rw[h.at_] at a;cases a;cases c
def v_ {d:World} {base a:Nat} {e:TypeId} {v:Value} {k:List Value} (h:W.ownsRow base e a v n k) (i:W.grownBy d v.ownBlock):KeepsOthers W d:=
 KeepsOthers.of_grownBy i λj o f c=>by
  rcases h.2 with⟨rfl,_⟩|⟨g,cap,l,rfl,_,b,_⟩
  ·simp[Value.ownBlock] at f
  obtain rfl:g=j:=by simpa [Value.ownBlock] using f
  rw[b] at c;cases c;rfl
end Go.Cd
namespace Go.Proofs.YtmnimbnojdndmaaGreatDoor
open Go.RowKit Go.Cd Go.Shelf
attribute [local go_sem] Oper.semAt_some
abbrev Ch:Type:={ c:Nat // c<1114112 }
def U4:∀(l:List Nat),(∀c∈l,c<1114112)->∃a:List Ch,a.map (·.1)=l
 | [],_=>⟨[],rfl⟩
 | c::l,h=>by
   obtain⟨a,e⟩:=U4 l λx b=>h x (kq _ b);exact⟨⟨c,h c (nF ..)⟩::a,by rw[lj,e]⟩
def n_:∀(l:List Nat),(∀c∈l,c<1114112)->(dD l).length<=l.length*7
 | [],_=>by simp[dD]
 | [c],h=>by
   have:=(bU c).2;show(aV c).length<=_;simp;omega
 | c::d::l,h=>by
   have:=n_ (d::l) λx a=>h x (kq _ a);have:=(bU c).2;show(aV c++32::dD (d::l)).length<=_;simp only[gn,im] at *;omega
def DK {w:World} (l:List Nat) (h0:l≠[]) (hl:∀c∈l,c<1114112) (hn:l.length<1000) :
 Calls Tryz.prog 244 #[.string (tx (dD l))] w λe w'=>∃v,e=.returned (.tuple #[v,.bool true])/\w'.ownsRow w.heap.size aN 1 v l.length (aM l)/\Below w.heap.size w w':=by
 obtain⟨d,C⟩:=U4 l hl;have mX:dD l=bH 32 (d.map λy=>aV y.1):=by rw[rV,<-C,m5];rfl
 have I:(bH 32 (d.map λy=>aV y.1)).length<1000000:=by
  rw[<-mX];have:=n_ l hl;omega
 have S:d≠[]:=by rintro rfl;exact h0 (by rw[<-C];rfl)
 have ag:d.length<1000:=by rw[<-C,iz] at hn;exact hn
 have T:∀y∈d,(32:UInt8)∉aV y.1:=λy _ h=>(dX y.1 _ h).2.2.1 rfl;rw[mX];have ac:=aa C;have V:=aa I;obtain⟨s,Z⟩:=ae (tx (bH 32 (d.map λy=>aV y.1)));rw[<-Z];have HS:=aa Z;clear C I mX Z h0 hl hn;have SQ:=aa (λW=>GQ s ⟨#[32]⟩ W);refine iW Tryz.func244 rfl ?_;simp only[Tryz.ntmps244,ps,im,kp,Nat.reduceAdd,Nat.reduceSub,oe,n8,pt,oE,lf,lz];go_wp2_with fail;obtain⟨g,f⟩:=ae (((w.alloc (.cells #[.slice none 0 0] 35)).alloc (.cells #[.bool false] 4)).alloc (.cells #[.slice none 0 0] 35));have U:g.heap.size=w.heap.size+3:=by rw[f];simp
 have P:Below w.heap.size w g:=by rw[f];exact(((gS _ w).alloc (d' _) _).alloc (by simp) _).alloc (by simp;omega) _
 have Y:Is g w.heap.size #[.slice none 0 0] 35:=by rw[f];exact((Is.new w _ _).mono (ah _)).mono (ah _)
 have k1:Is g (w.heap.size+1) #[.bool false] 4:=by rw[f];exact(Is.new' _ _ _ _ (by simp)).mono (ah _)
 have k2:Is g (w.heap.size+2) #[.slice none 0 0] 35:=by rw[f];exact Is.new' _ _ _ _ (by simp)
 rw[<-f];refine(SQ.out _).mono ?_;rintro e G⟨rfl,i⟩;have z:Below g.heap.size g G:=by rw[i];exact(((gS _ g).alloc (d' _) _).alloc (by simp) _).alloc (by simp;omega) _
 have ai:G.heap.size=g.heap.size+3:=by rw[i];simp
 have j0:Is G g.heap.size #[.string s] 9:=by rw[i];exact((Is.new g _ _).mono (ah _)).mono (ah _)
 have j1:Is G (g.heap.size+1) #[.string ⟨#[32]⟩] 9:=by rw[i];exact(Is.new' _ _ _ _ (by simp)).mono (ah _)
 have j2:Is G (g.heap.size+2) #[.int .i64 0] 3:=by rw[i];exact Is.new' _ _ _ _ (by simp)
 replace Y:=Y.mono z
 replace k1:=k1.mono z
 replace k2:=k2.mono z
 have ab:Below w.heap.size w G:=af P z;clear SQ i f P z;rw[U] at *;rw[show w.heap.size+3+1=w.heap.size+4 from rfl,show w.heap.size+3+2=w.heap.size+5 from rfl] at *;clear U g;have R:=NA 4 (by omega) (w.heap.size+4) (w.heap.size+3) (w.heap.size+5) (by omega) (by omega) d S (λy:Ch=>aV y.1) T V.out G (j1.at 0 rfl) (by rw[<-HS.out];exact j0.at 0 rfl) (j0.frozen 0) (j2.at 0 rfl);clear j0 j1 j2 T S;go_wp2_with fail;refine(wpIn_wide (n:=5)).1 ?_;refine nY (F:=Fence.wide) rfl (by omega) (gf:=305) (lb:=#[.pointer (some ⟨w.heap.size+4,0,none⟩),.pointer (some ⟨w.heap.size+3,0,none⟩),.pointer (some ⟨w.heap.size+5,0,none⟩)]) rfl trivial (enters_of Tryz.func305 (by kernel_rfl) rfl)
  R (by omega) (by intro b hb;simp at hb;omega) (λ_=>rfl)
  (λa W=>∃v,Is W (w.heap.size+2) #[v] 35/\W.ownsRow G.heap.size aN 1 v a.length (aM (a.map (·.1)))/\Is W w.heap.size #[.slice none 0 0] 35/\Is W (w.heap.size+1) #[.bool false] 4/\Below w.heap.size w W/\G.heap.size<=W.heap.size)
  ?hI ?h0 (λx=>{ tmps:=#[.string s,undef,.pointer (some ⟨w.heap.size,0,none⟩),.pointer (some ⟨w.heap.size+1,0,none⟩),.pointer (some ⟨w.heap.size+1+1,0,none⟩),.string (tx (aV x.1)),undef,undef,.string s,.func (.func 305) #[] #[.pointer (some ⟨w.heap.size+4,0,none⟩),.pointer (some ⟨w.heap.size+3,0,none⟩),.pointer (some ⟨w.heap.size+5,0,none⟩)],.string (tx (aV x.1)),undef,undef,undef,undef,undef,undef,undef,undef,undef,undef,undef,undef],defers:=[] }) ?assign ?body ?done
 case hI=>
  rintro a A B row⟨v,L,t,J,H,N,X⟩ M hr;have E:Bj (w.heap.size+3) G.heap.size A row:=hr;exact⟨v,L.turn M E (by omega),JR t M E (by omega),J.turn M E (by omega),H.turn M E (by omega),Bn N M E (by omega) (by omega) N.size,ia X M.size⟩
 case h0=>exact⟨_,k2,iS _ _ _ _,Y,k1,ab,d' _⟩
 case assign=>
  intro l x W K hK
  gi_wp2
  exact hK
 case body=>
  rintro l a x W⟨v,L,t,J,H,N,X⟩ ad;obtain⟨c,hc⟩:=x;have HX:=aa (qJ (w:=W) c hc);have e1:=L.at 0 rfl;obtain⟨r,q,rfl,_,_⟩:=ak t;obtain⟨m,hm⟩:=ae a.length;have Ja:m<1000:=by omega
  have e2:a.map (·.1)++[c]=(a++[(⟨c,hc⟩:Ch)]).map (·.1):=by simp
  have e3:m+1=(a++[(⟨c,hc⟩:Ch)]).length:=by simp[hm]
  have E2:=aa e2;have E3:=aa e3;rw[<-hm] at t e1 L;clear e2 e3 ad hm R
  gi_wp2_with (first
   | (refine⟨trivial,?_⟩;gi_at_call 188;refine(NB l HX.out).mono ?_;rintro e w3⟨rfl,rfl⟩)
   | (gi_at_builtin;refine abT rfl _ _ 35 rfl G.heap.size aN _ 4 bW (.slice r m q) m _ rfl t (.int .i32 (c:Nat)) rfl rfl (by omega) (by unfold maxLen;omega) _ (gS _ _) X ?_;intro v1 w4 o1 p Q
      obtain⟨a1,c1,rfl,_,_⟩:=ak o1;have g1:=L.low p (by omega);have g3:=J.low p (by omega);have g4:=H.low p (by omega);have e4:=g1.at 0 rfl;have e5:=g1.frozen 0;have ho:=t.alloc (.cells #[.int .i32 (c:Nat)] aN);have hk:=v_ ho Q
      clear Q ho))
  refine⟨((KeepsOthers.alloc _ _).trans (hk.trans (KeepsOthers.setCell _ _ _))).from _,nX.of_block λb hb=>?_,_,g1.set 0 _,?_,g3.put (by omega) _,g4.put (by omega) _,aj (N.trans (p.mono (by omega))) (by omega),?_⟩
  ·simp at hb;rw[jj _ _ _ _ (by simp only;omega)];exact p.block b (by omega)
  ·have:=bn o1 (Go.Cd.aQ o1 (k:=w.heap.size+1+1) (by omega)) 0 (.slice a1 (m+1) c1);rw[<-E3.out,<-E2.out,a_];exact this
  have:=p.size;simp only[mn];omega
 case done=>
  rintro D W hD⟨v,L,t,J,H,N,X⟩ hK;have e0:=L.at 0 rfl;have e1:=J.at 0 rfl;have e2:=H.at 0 rfl;have e3:=J.frozen 0;have e4:=H.frozen 0;obtain⟨r,q,rfl,_,_⟩:=ak t;have f1:=λu=>(H.put (j:=w.heap.size) (o:=0) (by omega) u).at 0 rfl;have f2:=λu=>(H.put (j:=w.heap.size) (o:=0) (by omega) u).frozen 0;go_wp2;have n0:(Value.slice r d.length q).ownBlock≠some w.heap.size:=Go.Cd.aQ t (by omega);have n1:(Value.slice r d.length q).ownBlock≠some (w.heap.size+1):=Go.Cd.aQ t (by omega);have q2:=bn (bn t n0 0 (.slice r d.length q)) n1 0 (.bool true);have q3:=(J.set 0 (.slice r d.length q)).put (j:=w.heap.size+1) (o:=0) (by omega) (.bool true);have q4:=(H.put (j:=w.heap.size) (o:=0) (by omega) (.slice r d.length q)).set 0 (.bool true);have q5:=aj (off:=0) (u:=.bool true) (b:=w.heap.size+1) (aj (off:=0) (u:=.slice r d.length q) (b:=w.heap.size) N (d' _)) (by omega);have O:=(jj (W.setCell ⟨w.heap.size,0,none⟩ (.slice r d.length q)) ⟨w.heap.size+1,0,none⟩ (.bool true) D (by simp only;omega)).trans ((jj W ⟨w.heap.size,0,none⟩ (.slice r d.length q) D (by simp only;omega)).trans hK);have r3:=(q3.putObj (o':=.deferred none) O rfl).at 0 rfl;have r4:=(q4.putObj (o':=.deferred none) O rfl).at 0 rfl;refine⟨by simp,.inl ⟨_,_,rfl,run_takeDeferred O,?_⟩⟩;refine⟨.tuple #[.slice r d.length q,.bool true],by simp[results,Tryz.results244,go_sem,r3,r4],_,rfl,?_,?_⟩
  ·have:=ownsRow_putObj q2 (.deferred none) O rfl;rw[<-ac.out,iz];exact aT this (by omega)
  exact q5.trans (belowK_b (w:=w) (d' _) _ D _ (.deferred none) (by omega) O rfl rfl)
end Go.Proofs.YtmnimbnojdndmaaGreatDoor
end
namespace Go.Proofs.YtmnimbnojdndmaaGreatDoor
open Go.RowKit Go.Cd _root_.Go.Proofs.Tryz
def DL {w:World} (l:List UInt8) (m:∀b∈l,eH b) (r:l.length<1000000) :
 Calls prog 181 #[.string (tx l)] w λe w'=>e=.returned (.bool true)/\w'=w:=by
 obtain⟨s,a⟩:=ae (tx l);have g:s.size=l.length:=by rw[a,aX]
 obtain⟨n,k⟩:=ae s.size
 have p:=aa (show ∀i (h:i<s.size),32<=(s[i]'h).toNat/\(s[i]'h).toNat<=126 from λi h=>by
  subst a;rw[EW]
  exact m _ (gw _))
 rw[<-a];have q:=aa k;have:n<1000000:=by omega
 clear m a r g;go_enter func181,ntmps181;go_wp2_with fail;rw[<-k];clear k;go_loopw [6] (λd wr=>∃j:Nat,j<=n/\d=.int .i64 j/\wr=w) (λd _=>n-(intOf d).toNat)
 case atStart=>exact⟨0,ic _,rfl,(by first|rfl|trivial)⟩
 case round=>
  obtain⟨j,B,rfl,rfl⟩:=hrel;by_cases u:j<n
  ·have c:j<s.size:=by have:=q.out;omega
   obtain⟨o,t⟩:=p.out j c;obtain⟨b,f⟩:∃b:Nat,b=(s[j]'c).toNat:=⟨_,rfl⟩;rw[<-f] at o t;have:((s[j]'c).toNat:Int)=(b:Int):=by rw[f]
   have:¬(b:Int)<32:=by omega
   have:¬(126:Int)<(b:Int):=by omega
   clear f;go_wp2;go_roundw
   case rel=>exact⟨j+1,by omega,rfl,(by first|rfl|trivial)⟩
   case measure=>simp[intOf];omega
  have:¬(j:Int)<(n:Int):=by omega
  go_wp2;go_ret;exact⟨rfl,rfl⟩
end Go.Proofs.YtmnimbnojdndmaaGreatDoor
section
namespace Go.Cd
open Go.RowKit Go.Lib
abbrev zw:TypeId:=9
def JS:Elem Go.Proofs.Tryz.prog 242 zw (.string ⟨#[]⟩) 16:=⟨rfl,Go.Proofs.Tryz.underlying242,info_parts (by kernel_rfl)⟩
def qM (l:List (List UInt8)):List Value:=l.map λp=>Value.string (Go.Proofs.YtmnimbnojdndmaaGreatDoor.tx p)
@[simp] theorem qN (l:List (List UInt8)):(qM l).length=l.length:=by simp[qM]
def zA (l m:List (List UInt8)):qM (l++m)=qM l++qM m:=by simp[qM]
def DN (p:List UInt8):trimSuffix (p++[10]) [10]=p:=by
 unfold trimSuffix hasSuffix;rw[if_pos (by rw[List.isSuffixOf_iff_suffix];exact List.suffix_append p [10])];simp
abbrev Ln:Type:={ p:List UInt8 // (∀b∈p,eH b)/\p.length<=1000 }
def U5:∀(l:List (List UInt8)),(∀p∈l,(∀b∈p,eH b)/\p.length<=1000)->∃a:List Ln,a.map (·.1)=l
 | [],_=>⟨[],rfl⟩
 | p::l,h=>by
   obtain⟨a,e⟩:=U5 l λx c=>h x (kq _ c);exact⟨⟨p,h p (nF ..)⟩::a,by rw[lj,e]⟩
end Go.Cd
namespace Go.Proofs.YtmnimbnojdndmaaGreatDoor
open Go.RowKit Go.Cd Go.Shelf
attribute [local go_sem] Oper.semAt_some
def tT {w:World} (H:List (List UInt8)) (hl:∀p∈H,(∀b∈p,eH b)/\p.length<=1000) (hn:(bA H).length<1000000) :
 Calls Tryz.prog 147 #[.string (tx (bA H))] w λe w'=>∃v,e=.returned (.tuple #[v,.nilIface])/\w'.ownsRow w.heap.size zw 1 v H.length (qM H)/\Below w.heap.size w w':=by
 obtain⟨d,t⟩:=U5 H hl;have mX:bA H=bA (d.map λy=>y.1):=by rw[t]
 have ag:d.length<1000000:=by
  have:∀l:List (List UInt8),l.length<=(bA l).length:=λl=>by
   induction l with
   | nil=>simp
   | cons p l ih=>rw[mY,gn,im,im];omega
  have:=this H;rw[<-t,iz,t] at this;omega
 have V:∀y∈d,(10:UInt8)∉y.1:=λy _ h=>by
  have:=(y.2.1 10 h).1;simp at this
 rw[mX] at hn⊢;have ac:=aa t;have T:=aa hn;obtain⟨s,Z⟩:=ae (tx (bA (d.map λy=>y.1)));rw[<-Z];have HS:=aa Z;clear t mX Z hl hn;have SQ:=aa (λW=>U1 s W);refine iW Tryz.func147 rfl ?_;simp only[Tryz.ntmps147,ps,im,kp,Nat.reduceAdd,Nat.reduceSub,oe,n8,pt,oE,lf,lz];go_wp2_with fail;obtain⟨G,c⟩:=ae (((w.alloc (.cells #[.slice none 0 0] 242)).alloc (.cells #[.nilIface] 134)).alloc (.cells #[.slice none 0 0] 242));have S:G.heap.size=w.heap.size+3:=by rw[c];simp
 have P:Below w.heap.size w G:=by rw[c];exact(((gS _ w).alloc (d' _) _).alloc (by simp) _).alloc (by simp;omega) _
 have Y:Is G w.heap.size #[.slice none 0 0] 242:=by rw[c];exact((Is.new w _ _).mono (ah _)).mono (ah _)
 have k1:Is G (w.heap.size+1) #[.nilIface] 134:=by rw[c];exact(Is.new' _ _ _ _ (by simp)).mono (ah _)
 have k2:Is G (w.heap.size+2) #[.slice none 0 0] 242:=by rw[c];exact Is.new' _ _ _ _ (by simp)
 rw[<-c];refine(SQ.out _).mono ?_;rintro e I⟨rfl,C⟩;have r:=aO C;have ai:I.heap.size=G.heap.size+1:=by rw[C];simp
 have j0:Is I G.heap.size #[.string s] 9:=by rw[C];exact Is.new G _ _
 replace Y:=Y.mono r
 replace k1:=k1.mono r
 replace k2:=k2.mono r
 have ab:Below w.heap.size w I:=af P r;clear SQ C c P r;rw[S] at *;clear S G;have R:=Y4 4 (by omega) (w.heap.size+3) d (λy:Ln=>y.1) V T.out I (by rw[<-HS.out];exact j0.at 0 rfl) (j0.frozen 0);clear j0 V;go_wp2_with fail;refine(wpIn_wide (n:=5)).1 ?_;refine nY (F:=Fence.wide) rfl (by omega) (gf:=209) (lb:=#[.pointer (some ⟨w.heap.size+3,0,none⟩)]) rfl trivial (enters_of Tryz.func209 (by kernel_rfl) rfl)
  R (by omega) (by intro b hb;simp at hb;omega) (λ_=>rfl)
  (λa W=>∃v,Is W (w.heap.size+2) #[v] 242/\W.ownsRow I.heap.size zw 1 v a.length (qM (a.map (·.1)))/\Is W w.heap.size #[.slice none 0 0] 242/\Is W (w.heap.size+1) #[.nilIface] 134/\Below w.heap.size w W/\I.heap.size<=W.heap.size)
  ?hI ?h0 (λx=>{ tmps:=#[.string s,undef,.pointer (some ⟨w.heap.size,0,none⟩),.pointer (some ⟨w.heap.size+1,0,none⟩),.pointer (some ⟨w.heap.size+1+1,0,none⟩),.string (tx (x.1++[10])),undef,.string s,.func (.func 209) #[] #[.pointer (some ⟨w.heap.size+3,0,none⟩)],.string (tx (x.1++[10])),undef,undef,undef,undef,undef,undef,undef,undef,undef,undef,undef,undef,undef,undef,undef,undef,undef,undef,undef,undef,undef,undef],defers:=[] }) ?assign ?body ?done
 case hI=>
  rintro a A B row⟨v,L,q,J,E,N,X⟩ M hr;have z:Bj (w.heap.size+3) I.heap.size A row:=hr;exact⟨v,L.turn M z (by omega),JR q M z (by omega),J.turn M z (by omega),E.turn M z (by omega),Bn N M z (by omega) (by omega) N.size,ia X M.size⟩
 case h0=>exact⟨_,k2,iS _ _ _ _,Y,k1,ab,d' _⟩
 case assign=>
  intro l x W K hK
  gi_wp2
  exact hK
 case body=>
  rintro l a x W⟨v,L,q,J,E,N,X⟩ ad;obtain⟨p,hp,U⟩:=x
  have HX:=aa (show Calls Tryz.prog 180 #[.string (tx (p++[10])),.string ⟨#[10]⟩] W λe w'=>e=.returned (.string (tx p))/\w'=W from by
   have h:=Tryz.strings_TrimSuffix (tx (p++[10])) ⟨#[10]⟩ W (by rw[aX,gn];simp;omega);rw[dM,show(⟨#[10]⟩:ByteArray).data.toList=[10] from rfl,DN] at h
   exact h)
  have HP:=aa (DL (w:=W) p hp (by omega));have e1:=L.at 0 rfl;obtain⟨i,g,rfl,_,_⟩:=ak q;obtain⟨m,hm⟩:=ae a.length;have Ja:m<1000000:=by omega
  have e2:a.map (·.1)++[p]=(a++[(⟨p,hp,U⟩:Ln)]).map (·.1):=by simp
  have e3:m+1=(a++[(⟨p,hp,U⟩:Ln)]).length:=by simp[hm]
  have E2:=aa e2;have E3:=aa e3;rw[<-hm] at q e1 L;have hz:¬1000<(tx p).size:=by rw[aX];omega
  clear e2 e3 ad hm R
  gi_wp2_with (first
   | (refine⟨trivial,?_⟩;gi_at_call 180;refine(NB l HX.out).mono ?_;rintro e w3⟨rfl,rfl⟩)
   | (refine⟨trivial,?_⟩;gi_at_call 181;refine(NB l HP.out).mono ?_;rintro e w3⟨rfl,rfl⟩)
   | (gi_at_builtin;refine abT rfl _ _ 242 rfl I.heap.size zw _ 16 JS (.slice i m g) m _ rfl q (.string (tx p)) rfl rfl (by omega) (by unfold maxLen;omega) _ (gS _ _) X ?_;intro v1 w4 o1 f Q
      obtain⟨a1,c1,rfl,_,_⟩:=ak o1;have g1:=L.low f (by omega);have g3:=J.low f (by omega);have g4:=E.low f (by omega);have e4:=g1.at 0 rfl;have e5:=g1.frozen 0;have ho:=q.alloc (.cells #[.string (tx p)] zw);have hk:=v_ ho Q
      clear Q ho))
  refine⟨((KeepsOthers.alloc _ _).trans (hk.trans (KeepsOthers.setCell _ _ _))).from _,nX.of_block λb hb=>?_,_,g1.set 0 _,?_,g3.put (by omega) _,g4.put (by omega) _,aj (N.trans (f.mono (by omega))) (by omega),?_⟩
  ·simp at hb;rw[jj _ _ _ _ (by simp only;omega)];exact f.block b (by omega)
  ·have:=bn o1 (Go.Cd.aQ o1 (k:=w.heap.size+1+1) (by omega)) 0 (.slice a1 (m+1) c1);rw[<-E3.out,<-E2.out,zA];exact this
  have:=f.size;simp only[mn];omega
 case done=>
  rintro D W hD⟨v,L,q,J,E,N,X⟩ hK;have e0:=L.at 0 rfl;have e1:=J.at 0 rfl;have e2:=E.at 0 rfl;have e3:=J.frozen 0;have e4:=E.frozen 0;obtain⟨i,g,rfl,_,_⟩:=ak q;have f1:=λu=>(E.put (j:=w.heap.size) (o:=0) (by omega) u).at 0 rfl;have f2:=λu=>(E.put (j:=w.heap.size) (o:=0) (by omega) u).frozen 0;go_wp2;have n0:(Value.slice i d.length g).ownBlock≠some w.heap.size:=Go.Cd.aQ q (by omega);have n1:(Value.slice i d.length g).ownBlock≠some (w.heap.size+1):=Go.Cd.aQ q (by omega);have q2:=bn (bn q n0 0 (.slice i d.length g)) n1 0 .nilIface;have q3:=(J.set 0 (.slice i d.length g)).put (j:=w.heap.size+1) (o:=0) (by omega) .nilIface;have q4:=(E.put (j:=w.heap.size) (o:=0) (by omega) (.slice i d.length g)).set 0 .nilIface;have q5:=aj (off:=0) (u:=.nilIface) (b:=w.heap.size+1) (aj (off:=0) (u:=.slice i d.length g) (b:=w.heap.size) N (d' _)) (by omega);have O:=(jj (W.setCell ⟨w.heap.size,0,none⟩ (.slice i d.length g)) ⟨w.heap.size+1,0,none⟩ .nilIface D (by simp only;omega)).trans ((jj W ⟨w.heap.size,0,none⟩ (.slice i d.length g) D (by simp only;omega)).trans hK);have r3:=(q3.putObj (o':=.deferred none) O rfl).at 0 rfl;have r4:=(q4.putObj (o':=.deferred none) O rfl).at 0 rfl;refine⟨by simp,.inl ⟨_,_,rfl,run_takeDeferred O,?_⟩⟩;refine⟨.tuple #[.slice i d.length g,.nilIface],by simp[results,Tryz.results147,go_sem,r3,r4],_,rfl,?_,?_⟩
  ·have:=ownsRow_putObj q2 (.deferred none) O rfl;rw[<-ac.out,iz];exact aT this (by omega)
  exact q5.trans (belowK_b (w:=w) (d' _) _ D _ (.deferred none) (by omega) O rfl rfl)
end Go.Proofs.YtmnimbnojdndmaaGreatDoor
end
namespace Go.Proofs.YtmnimbnojdndmaaGreatDoor
open Go.RowKit Go.Cd Go.Shelf _root_.Go.Proofs.Tryz
def JU {w:World} (c:Int) (k n d:Nat) (a:Option Addr) (h:k≠0\/n≠0) :
 Calls prog 185 #[.agg #[.int .i32 c,.int .i64 k,.slice a n d]] w λe w'=>e=.returned (.bool false)/\Below w.heap.size w w':=by
 have f:=ah (w:=w) (.cells #[.int .i32 c,.int .i64 k,.slice a n d] 196);have b:=Is.new w #[.int .i32 c,.int .i64 k,.slice a n d] 196;have:=b.at 0 rfl;have:=b.at 1 rfl;have:=b.at 2 rfl;go_enter func185,ntmps185;by_cases g:k=0
 ·have:n≠0:=by omega
  subst g;have z:((n:Int)==0)=false:=by simp;omega
  have:((0:Nat):Int)=0:=rfl;go_wp2;go_ret;exact⟨rfl,f⟩
 have z:((k:Int)==0)=false:=by simp;omega
 go_wp2;go_ret;exact⟨rfl,f⟩
def Rk:∀(m:List Nat) (h0:m≠[]),∃b r,dD m=b::r/\b≠60
 | [],h=>absurd rfl h
 | c::l,_=>by
   have a:=(bU c).1;obtain⟨b,r,e⟩:∃b r,aV c=b::r:=by
    cases e:aV c with
    | nil=>rw[e] at a;simp at a
    | cons b r=>exact⟨b,r,rfl⟩
   have f:=(dX c b (by rw[e];simp)).2.2.2.2;cases l with
   | nil=>exact⟨b,r,e,f⟩
   | cons d l=>exact⟨b,r++32::dD (d::l),by show aV c++32::dD (d::l)=_;rw[e];rfl,f⟩
def Bo {w:World} (m:List Nat) (o:m.length<=2) (k:∀c∈m,c<1114112) :
 Calls prog 214 #[.string (tx (dD m))] w λe w'=>∃v,e=.returned (.tuple #[v,.bool true])/\w'.ownsRow w.heap.size aN 1 v m.length (aM m)/\Below w.heap.size w w':=by
 by_cases h0:m=[]
 ·subst h0;obtain⟨s,d⟩:=ae (tx (dD []));have z:s.toList.isEmpty=true:=by rw[d,pd];rfl
  rw[<-d];clear d;go_enter func214,ntmps214;go_wp2
  (try simp only[Exit.inBlock,Exit.then])
  refine bodyPost_ret (by simp[results,results214,go_sem];try rfl) rfl ?_;exact⟨_,rfl,iS _ _ _ _,gS _ _⟩
 have g:=aa (DK (w:=w) m h0 k (by omega));obtain⟨b,r,a,h⟩:=Rk m h0;obtain⟨s,d⟩:=ae (tx (dD m));rw[<-d] at g⊢;have f:0<s.size:=by rw[d,aX,a];simp
 have z:s.toList.isEmpty=false:=by rw[d,pd,dM,a];rfl
 have:(((s[0]'f).toNat:Int)==60)=false:=by
  have l:s[0]'f=b:=by
   subst d;rw[EW];simp only[a,ti]
  rw[l];have:b.toNat≠60:=λe=>h (by rw[<-UInt8.toNat_inj];exact e);simp;omega
 obtain⟨n,j⟩:=ae m.length;rw[<-j] at g o⊢;clear d a j;go_enter func214,ntmps214;go_wp2_with fail;refine g.out.mono ?_;rintro e y⟨v,rfl,i,p⟩;obtain⟨x,t,rfl,_,_⟩:=ak i;have:((n:Int)<=2)=True:=by simp;omega
 clear g;go_wp2;go_ret2;exact⟨_,rfl,i,p⟩
structure Bq (r:aG):Prop where
 code:r.code<1114112
 cls:r.cls<255
 len:r.map.length<=2
 map:∀c∈r.map,c<1114112
def Br {w:World} (hG:dL w) {nm:List UInt8} (q:nm≠[]) (r:aG) (hr:Bq r) {k:Nat} (i:Is w k ((gz nm r).map λl=>Value.string (tx l)).toArray 9) :
 Calls prog 183 #[.slice (some ⟨k,0,none⟩) 15 15] w λe w'=>∃v,e=.returned (.tuple #[.agg #[.int .i32 r.code,.int .i64 r.cls,v],.string ⟨#[]⟩])/\w'.ownsRow w.heap.size aN 1 v r.map.length (aM r.map)/\Below w.heap.size w w':=by
 obtain⟨x,A,U,T⟩:=hr;have X:=aa (λW=>qJ (w:=W) r.code x);have R:=aa (λW (h:dL W)=>JO h r.cls A);have HM:=aa (λW=>Bo (w:=W) r.map U T);have:w.cell? ⟨k,0,none⟩=some (.string (tx (aV r.code))):=i.at 0 rfl;have f1:w.cell? ⟨k,1,none⟩=some (.string (tx nm)):=i.at 1 rfl;have f3:w.cell? ⟨k,3,none⟩=some (.string (tx (iP r.cls))):=i.at 3 rfl;have f5:w.cell? ⟨k,5,none⟩=some (.string (tx (dD r.map))):=i.at 5 rfl;have:=i.lt;have:(tx nm).toList.isEmpty=false:=by rw[pd,dM];cases nm with|nil=>exact absurd rfl q|cons=>rfl
 generalize tx (aV r.code)=s0 at *;clear q;generalize tx nm=s1 at *;generalize tx (iP r.cls)=s3 at *;generalize tx (dD r.map)=s5 at *;clear x A U T i;obtain⟨p,c⟩:=ae ((w.alloc (.cells #[.int .i32 0,.int .i64 0,.slice none 0 0] 196)).alloc (.cells #[.int .i32 0,.int .i64 0,.slice none 0 0] 196));have t:Below w.heap.size w p:=by rw[c];exact((gS _ w).alloc (d' _) _).alloc (by simp) _
 have s:p.heap.size=w.heap.size+2:=by rw[c];simp
 have O:Is p w.heap.size #[.int .i32 0,.int .i64 0,.slice none 0 0] 196:=by rw[c];exact(Is.new w _ _).mono (ah _)
 have y:Is p (w.heap.size+1) #[.int .i32 0,.int .i64 0,.slice none 0 0] 196:=by rw[c];exact Is.new' _ _ _ _ (by simp)
 go_enter func183,ntmps183;go_wp2_with fail;rw[<-c];clear c;refine(X.out p).mono ?_;rintro e w2⟨rfl,rfl⟩;obtain⟨u,b⟩:=ae (w2.setCell ⟨w.heap.size+1,0,none⟩ (.int .i32 (r.code:Nat)));have f:Below w.heap.size w u:=by rw[b];exact aj t (by omega)
 have V:=aB f f1;have N:=aB f f3;have H:=y.at 0 rfl;have G:=y.frozen 0;have M:Is u w.heap.size #[.int .i32 0,.int .i64 0,.slice none 0 0] 196:=by rw[b];exact O.put (by omega) _
 have Q:Is u (w.heap.size+1) #[.int .i32 (r.code:Nat),.int .i64 0,.slice none 0 0] 196:=by rw[b];exact y.set 0 _
 have I:u.heap.size=w.heap.size+2:=by rw[b,mn];exact s
 rw[b] at V N;go_wp2_with fail;rw[<-b];clear V N H G O y t s X;refine(R.out u (hG.mono f)).mono ?_;rintro e Z⟨rfl,d⟩;clear R b;obtain⟨w4,a⟩:=ae (Z.setCell ⟨w.heap.size+1,1,none⟩ (.int .i64 (r.cls:Nat)));have o:Below w.heap.size w w4:=by rw[a];exact aj (f.trans (d.mono (by omega))) (by omega)
 have L:=aB o f5;have K:=M.mono d;have B:=Q.mono d;have H:=B.at 1 rfl;have G:=B.frozen 1;have m0:Is w4 w.heap.size #[.int .i32 0,.int .i64 0,.slice none 0 0] 196:=by rw[a];exact K.put (by omega) _
 have m1:Is w4 (w.heap.size+1) #[.int .i32 (r.code:Nat),.int .i64 (r.cls:Nat),.slice none 0 0] 196:=by rw[a];exact B.set 1 _
 have:w.heap.size+2<=w4.heap.size:=by rw[a,mn];have:=d.size;omega
 rw[a] at L;go_wp2_with fail;rw[<-a];clear L H G K B M Q f d I a;refine(HM.out w4).mono ?_;rintro e w5⟨v,rfl,D,J⟩;have g:=m0.mono J;have C:=m1.mono J;obtain⟨m,j,rfl,_,_⟩:=ak D;have q0:=C.at 0 rfl;have q1:=C.at 1 rfl;have q2:=C.at 2 rfl;have:=C.frozen 2;have Y:=g.at 0 rfl;have x:=g.at 1 rfl;have A:=g.at 2 rfl;have s0:=g.frozen 0;have s1:=g.frozen 1;have s2:=g.frozen 2;go_wp2
 (try simp only[Exit.inBlock,Exit.then])
 obtain⟨S,E⟩:=ae (w5.setCell ⟨w.heap.size+1,2,none⟩ (.slice m r.map.length j));have p0:Is S w.heap.size #[.int .i32 0,.int .i64 0,.slice none 0 0] 196:=by rw[E];exact g.put (by omega) _
 have mF:Below w.heap.size w S:=by rw[E];exact aj (o.trans (J.mono (by omega))) (by omega)
 have n:=bn D (Go.Cd.aQ D (k:=w.heap.size+1) (by omega)) 2 (.slice m r.map.length j);rw[<-E] at n⊢;have F:=bn (bn (bn n (Go.Cd.aQ n (k:=w.heap.size) (by omega)) 0 (.int .i32 r.code)) (Go.Cd.aQ n (k:=w.heap.size) (by omega)) 1 (.int .i64 r.cls)) (Go.Cd.aQ n (k:=w.heap.size) (by omega)) 2 (.slice m r.map.length j);have P:=((p0.set 0 (.int .i32 r.code)).set 1 (.int .i64 r.cls)).set 2 (.slice m r.map.length j);have v0:=P.at 0 rfl;have v1:=P.at 1 rfl;have v2:=P.at 2 rfl;clear q0 q1 q2 Y x A s0 s1 s2;refine bodyPost_ret (v:=.tuple #[.agg #[.int .i32 r.code,.int .i64 r.cls,.slice m r.map.length j],.string ⟨#[]⟩]) (by simp[results,results183,go_sem,v0,v1,v2]) rfl ?_;exact⟨_,rfl,aT F (by omega),aj (aj (aj mF (d' _)) (d' _)) (d' _)⟩
end Go.Proofs.YtmnimbnojdndmaaGreatDoor
namespace Go.Cd
open Go.RowKit
def KR.B (B:Nat):KR:=⟨λw w'=>Below B w w',λ_=>gS _ _,λh k=>h.trans k⟩
abbrev GrB (B:Nat) (w:World):=vG (KR.B B) w
def aaa {B:Nat} {Q:Exit->Act->World->Prop} {w:World} {K:Act->World->Prop} {a:Act} {w':World} (c:Below B w w') (b:K a w'):QR (KR.B B) Q w K .normal a w':=⟨c,b⟩
def GrB.keeps {B:Nat} {w:World} {b o:Nat} {v:Value} (h:w.cell? ⟨b,o,none⟩=some v) (a:b<B):∀g:GrB B w,g.tw.cell? ⟨b,o,none⟩=some v:=
 λg=>((show Below B w g.tw from g.ext).cell (p:=⟨b,o,none⟩) a).trans h
end Go.Cd
section
namespace Go.Cd
open Go.RowKit
theorem Is.same {W:World} {k:Nat} {cs:Array Value} {T:TypeId} (h:Is W k cs T) (o:Nat) {u:Value} (hu:cs[o]? = some u):W.setCell ⟨k,o,none⟩ u=W:=by
 have h1:=h.at_;have hlt:=h.lt;have e:cs.setIfInBounds o u=cs:=by
  apply Array.ext_getElem?;intro i;rw [Array.getElem?_setIfInBounds];by_cases hi:o=i
  ·subst hi;have:=(Array.getElem?_eq_some_iff.1 hu).1;simp [this];exact ((Array.getElem?_eq_some_iff.1 hu).2).symm
  ·simp [hi]
 unfold World.setCell
 have:(W.heap.modify k fun x=>match x with
  | .cells c elem frozen=>.cells (if (⟨k,o,none⟩:Addr).spot.isSome then c else c.setIfInBounds (⟨k,o,none⟩:Addr).off u) elem frozen
  | o=>o)=W.heap:=by
  apply Array.ext_getElem?;intro i;rw [Array.getElem?_modify];by_cases hi:k=i
  ·subst hi;rw [if_pos rfl,h1];simp [e]
  ·rw [if_neg hi]
 exact congrArg (fun h=>({ W with heap:=h }:World)) this
end Go.Cd
namespace Go.Proofs.YtmnimbnojdndmaaGreatDoor
open Go.RowKit Go.Cd Go.Shelf
theorem DR {w:World} {p:Nat} (v:Value) (c:Int) (hp:Is w p #[v,.int .i32 c,.string ⟨#[]⟩] 247) (k:Int) (l:Int) (u:Value) :
 Calls Tryz.prog 184 #[.pointer (some ⟨p,0,none⟩),.string ⟨#[88]⟩,.agg #[.int .i32 k,.int .i64 l,u]] w fun e w'=>e=.returned (.bool true)∧Below w.heap.size w w':=by
 have C1:=aa (show ∀W,Calls Tryz.prog 215 #[.string ⟨#[88]⟩,.string ⟨#[44,32,70,105,114,115,116,62]⟩] W fun e w'=>e=.returned (.tuple #[.string ⟨#[88]⟩,.bool false])∧w'=W from fun W=>
  Tryz.strings_CutSuffix ⟨#[88]⟩ ⟨#[44,32,70,105,114,115,116,62]⟩ W (by decide))
 have C2:=aa (show ∀W,Calls Tryz.prog 215 #[.string ⟨#[88]⟩,.string ⟨#[44,32,76,97,115,116,62]⟩] W fun e w'=>e=.returned (.tuple #[.string ⟨#[88]⟩,.bool false])∧w'=W from fun W=>
  Tryz.strings_CutSuffix ⟨#[88]⟩ ⟨#[44,32,76,97,115,116,62]⟩ W (by decide))
 obtain ⟨w1,hw1⟩:=ae (w.alloc (.cells #[.int .i32 k,.int .i64 l,u] 196));have hB1:=aO hw1;have p1:=hp.mono hB1;have e1:=p1.at 2 rfl;have d1:=p1.frozen 2;have z:(⟨#[]⟩:ByteArray).toList.isEmpty=true:=by rw [Lib.toList_data];rfl
 have hid:=aa (p1.same 2 (u:=.string ⟨#[]⟩) rfl);go_enter Tryz.func184,Tryz.ntmps184;go_wp2_with fail;rw [<-hw1];clear hw1;refine (C1.out w1).mono ?_;rintro e w2 ⟨rfl,rfl⟩;go_wp2_with fail;refine (C2.out _).mono ?_;rintro e w3 ⟨rfl,rfl⟩;go_wp2;go_ret;rw [hid.out];exact ⟨rfl,hB1⟩
theorem Bt {P:Program} {W:World} {ops:Array Oper} {rest:List Oper} {o:Oper} {a:Act} {Q:Exit->Act->World->Prop} (hgd:o.guard=none) (s x:Operand) (t:TypeId)
 (ho:o.op=.call { callee:=.builtin .append,args:=#[s,x],argTypes:=#[t,t] })
 (base:Nat) (e:TypeId) (z:Value) (size bytes:Nat) (hE:mV P t e z size bytes) (hs0:0<size) (sO:bytes<=100000)
 (v:Value) (n:Nat) (xs:List Value) (hs:a.eval s=v) (hown:W.ownsRow base e size v n xs)
 (us:Array Value) (hx:a.eval x=.slice (some ⟨W.heap.size,0,none⟩) 1 1) (ze:us.size=size) (h1:∀u∈us.toList,u.oneCell'=true)
 (hn:n<1000000) (hbase:base<=W.heap.size)
 (h:∀v' w',w'.ownsRow base e size v' (n+1) (xs++us.toList)->Below base (W.alloc (.cells us e)) w'->(W.alloc (.cells us e)).grownBy w' v.ownBlock->wpList P ops Q rest (a.put o.dst v') w') :
 wpList P ops Q (o::rest) a (W.alloc (.cells us e)):=by
 obtain ⟨hzs,ht,i,hi,hz,hsize,hby⟩:=hE;have hown2:=hown.alloc (.cells us e);have hnews:∀(j:Nat) (u:Value),us.toList[j]? = some u->(W.alloc (.cells us e)).cell? ((⟨W.heap.size,0,none⟩:Addr).add j)=some u:=by
  intro j u hj;have e0:(⟨W.heap.size,0,none⟩:Addr).add j=⟨W.heap.size,j,none⟩:=by unfold Addr.add;split <;> simp_all
  rw [e0];unfold World.cell?;rw [heap_alloc_new];simpa using hj
 have hmax:n+1<=maxLen:=by unfold maxLen;omega
 have hl1:us.toList.length=1*i.size:=by rw [hsize,Nat.one_mul];simpa using ze
 have hbb:(n+1)*bytes<=140737488355328:=by
  have:(n+1)*bytes<=1000000*100000:=Nat.mul_le_mul (by omega) sO;omega
 obtain ⟨v',w',hr,h2,h3,_⟩:=run_append_own (P:=P) (W.alloc (.cells us e)) base t o.type e i z size bytes ht hi hz hsize hby hzs hs0 v n xs hown2
  ⟨W.heap.size,0,none⟩ 1 1 us.toList (by rw [hl1,hsize]) hnews h1 hmax hbb (by simp;omega)
 refine Lib.wpList_append_run _ hgd s x _ _ ho v _ hs hx v' w' hr ?_;exact h v' w' h2 ((Below.refl _ _).grown h3 (by simp;omega) (fun k hk=>(hown.lt k hk).1)) h3
abbrev h_:TypeId:=196
theorem JV:mV Tryz.prog 146 h_ (.agg #[.int .i32 0,.int .i64 0,.slice none 0 0]) 3 40:=⟨rfl,Tryz.underlying146,info_parts (by kernel_rfl)⟩
def dY (x:aG×Value):List Value:=[.int .i32 x.1.code,.int .i64 x.1.cls,x.2]
theorem Bu (x:aG×Value):(dY x).length=3:=rfl
theorem Sl.ab_ {e T:TypeId} {w w':World} {v u:Value} {xs ys:List Value} {base size n:Nat} (h:Sl e w v xs) (ho:w.ownsRow base T size u n ys) (hT:T≠e) (hg:w.grownBy w' u.ownBlock):Sl e w' v xs:=by
 obtain ⟨a,cap,hv,hc,h⟩:=h;refine ⟨a,cap,hv,hc,h.imp id ?_⟩;rintro ⟨b,off,cs,fr,ha,hh,hx⟩;refine ⟨b,off,cs,fr,ha,(hg.block b (block_lt hh) fun e1=>?_).trans hh,hx⟩;rcases ho.2 with ⟨h1,_⟩|⟨g,_,cur,h1,_,h2,_⟩
 ·rw [h1] at e1;cases e1
 ·rw [h1] at e1;cases e1;rw [hh] at h2;cases h2;exact hT rfl
def fU (v:Value):Prop:=∃a n cap,v=.slice a n cap∧(a=none∨∃b off,a=some ⟨b,off,none⟩)
theorem fU.aU {w:World} {base size n:Nat} {e:TypeId} {v:Value} {xs:List Value} (h:w.ownsRow base e size v n xs):fU v:=by
 rcases h.2 with ⟨rfl,_⟩|⟨g,cap,cur,rfl,_⟩
 ·exact ⟨none,0,0,rfl,.inl rfl⟩
 ·exact ⟨_,n,cap,rfl,.inr ⟨g,0,rfl⟩⟩
structure Fb (w:World) (p:Nat) (L:List (aG×Value)) (last:Int) (o:List UInt8):Prop where
 cells:∃v,Is w p #[v,.int .i32 last,.string (tx o)] 247∧w.ownsRow (p+1) h_ 3 v L.length (L.flatMap dY)
 maps:∀x∈L,Sl aN w x.2 (aM x.1.map)∧fU x.2
theorem JW {w:World} {p:Nat} (hG:dL w) {L:List (aG×Value)} {last:Int} (hR:Fb w p L last []) (r:aG) (hr:Bq r) (hlt:last<r.code) (Bv:r.cls≠0∨r.map≠[]) (hch:aP r.code) (hL:L.length<100000) :
 Calls Tryz.prog 149 #[.pointer (some ⟨p,0,none⟩),.string (tx (eu [88] r))] w fun e w'=>e=.returned (.string ⟨#[]⟩)∧Below p w w'∧w.heap.size<=w'.heap.size∧∃v,Fb w' p (L++[(r,v)]) r.code []:=by
 obtain ⟨⟨ov,hp,ho⟩,hM⟩:=hR;have hpl:=hp.lt;have hnm:=(qg.row).name;have SP:=aa (tN hG (gz [88] r) rfl (fun q hq h=>(Bh hnm.2 hr.cls q hq _ h).2 rfl) (kU hnm.2 hr.cls hr.len));clear hnm;obtain ⟨s,hs⟩:=ae (tx (eu [88] r));have hs':tx (bH 59 (gz [88] r))=s:=hs.symm;rw [hs'] at SP;rw [<-hs];clear hs hs';have RW:=aa (fun (W:World) (h:dL W) (k:Nat) (hk:Is W k ((gz [88] r).map fun l=>Value.string (tx l)).toArray 9)=>Br h (by simp) r hr hk);obtain ⟨oa,oc,rfl,_,_⟩:=ak ho;have HM:=aa (fun x hx=>(hM x hx).1);have HPV:=aa (fun x hx=>(hM x hx).2);have HO:=aa ho;have hcd:=hr.code;clear hM ho;go_enter Tryz.func149,Tryz.ntmps149;go_wp2_with fail;refine SP.out.mono ?_;rintro e w1 ⟨rfl,hw1⟩;have hB1:=aO hw1;have q1:Is w1 w.heap.size ((gz [88] r).map fun l=>Value.string (tx l)).toArray 9:=by rw [hw1];exact Is.new _ _ _
 have p1:=hp.mono hB1;have hz1:w1.heap.size=w.heap.size+1:=by rw [hw1];simp
 clear hw1 SP hp;go_wp2_with fail;refine (RW.out _ (hG.mono hB1) _ q1).mono ?_;rintro e w2 ⟨mv,rfl,hmv,hB2⟩;have q2:w2.cell? ⟨w.heap.size,1,none⟩=some (.string (tx [88])):=(q1.mono hB2).at 1 rfl;have p2:=p1.mono hB2;have hBw2:=af hB1 hB2;obtain ⟨ma,mc,rfl,_,_⟩:=ak hmv;have hpv:=fU.aU hmv;obtain ⟨mn,Ja⟩:=ae r.map.length;have kz:=hr.len;rw [<-Ja] at hmv kz ⊢;have JY:r.cls≠0∨mn≠0:=Bv.imp id fun h e=>h (List.length_eq_zero_iff.1 (Ja▸e));have HMN:=aa Ja;have ajj:=aa hpv;clear hpv;obtain ⟨c,hc⟩:=ae r.code;obtain ⟨l,hl⟩:=ae r.cls;rw [<-hc] at hlt hcd hch ⊢;rw [<-hl] at JY ⊢;have HC:=aa hc;have Yh:=aa hl;clear Ja hc hl q1 Bv p1 RW;obtain ⟨w3,hw3⟩:=ae (w2.alloc (.cells #[.int .i32 (c:Nat),.int .i64 (l:Nat),.slice ma mn mc] 196));have hB3:=aO hw3;have b3:=Is.nw hw3;have p3:=p2.mono hB3;have q3:=aB hB3 q2;go_upto_region 5 with fail;rw [<-hw3];have hBw3:=af hBw2 hB3;have hX:=hB3;have hz3:w3.heap.size=w2.heap.size+1:=by rw [hw3];simp
 have hz2:=hB2.size;clear hw3 hB3 hBw2;have zl:decide ((c:Int)<=last)=false:=by simp;omega
 have g1:=b3.gd 0 rfl;have g2:=p3.gd 1 rfl;refine aC (Array.replicate 8 true) 8 0 mixed ?_;refine ay [0,1,2,3,4,5,6,7] 0 ?_
 iterate 8 (refine aA rfl ?_;go_big_quiet_step (rfl))
 refine az ?_;refine aJ [] ?_;refine tail_nil ?_;clear g1 g2;have b4:=b3.mono (ag w3);have p4:=p3.mono (ag w3);have q4:=aB (ag w3) q3;have hB4:=af hBw3 (ag w3)
 replace hX:=af hX (ag w3)
 have Y5:w3.drew.heap.size=w2.heap.size+1:=hz3;generalize w3.drew=w4 at *;go_upto_region 7 with fail;have RG:=aa (fun (W:World) (E:Below w4.heap.size w4 W)=>DR (w:=W) _ _ (p4.mono E) c l (.slice ma mn mc));have g0:=Gr.cell (ag w4) q4;have g1:=b4.gd 0 rfl;have g2:=b4.gd 1 rfl;have g3:=b4.gd 2 rfl;refine aC (Array.replicate 8 true) 8 0 mixed ?_;refine ay [0,1,2,3,4] 3 ?_
 iterate 5 (refine aA rfl ?_;go_big_quiet_step (rfl))
 refine az ?_;refine aI 5 ?_;go_wp2_with fail;refine (RG.out _ (ag w4)).mono ?_;rintro e w5 ⟨rfl,rX⟩;go_wp2_with fail;refine aF rX ?_;refine ay [6,7] 0 ?_
 iterate 2 (refine aA rfl ?_;go_big_quiet_step (rfl))
 refine az ?_;refine aJ [] ?_;refine tail_nil ?_;have jP:=af (ag w4) rX;have b5:=b4.mono jP;have p5:=p4.mono jP;have U6:=af hB4 jP
 replace hX:=af hX jP
 have hz5:w2.heap.size+1<=w5.heap.size:=by have:=jP.size;omega
 clear g0 g1 g2 g3 b4 p4 q4 b3 p3 q3 RG rX jP hz3 Y5 hB4 hBw3;have UI:=aa (gZ (w:=w5) c (by omega));have hct:decide (aP c)=true:=decide_eq_true hch;rw [hct] at UI;have e0:=b5.at 0 rfl;have d1:=p5.frozen 1;have e1:=p5.at 1 rfl;go_upto_region 12 with (go_at_call 96;refine UI.out.mono ?_;rintro e w6 ⟨rfl,rfl⟩);have hpw:p≠w2.heap.size:=by have:=hB1.size;omega
 obtain ⟨w7,hw7⟩:=ae (w6.setCell ⟨p,1,none⟩ (.int .i32 (c:Nat)));rw [<-hw7];have b7:Is w7 w2.heap.size #[.int .i32 (c:Nat),.int .i64 (l:Nat),.slice ma mn mc] 196:=by rw [hw7];exact b5.put (Ne.symm hpw) _
 have p7:Is w7 p #[.slice oa L.length oc,.int .i32 (c:Nat),.string ⟨#[]⟩] 247:=by rw [hw7];exact p5.set 1 _
 have hB7:Below p w w7:=by rw [hw7];exact aj (U6.mono (by omega)) (Nat.le_refl _)
 have O5:=aH HO.out U6;have O7:w7.ownsRow (p+1) h_ 3 (.slice oa L.length oc) L.length (L.flatMap dY):=by rw [hw7];exact bn O5 (Go.Cd.aQ O5 (k:=p) (by omega)) 1 _
 have M7:∀x∈L,Sl aN w7 x.2 (aM x.1.map):=fun x hx=>by rw [hw7];exact ((HM.out x hx).mono U6).put p5.at_ (by decide)
 have V7:Sl aN w7 (.slice ma mn mc) (aM r.map):=by rw [hw7];exact ((Sl.aU hmv).mono hX).put p5.at_ (by decide)
 have hz7:w7.heap.size=w6.heap.size:=by rw [hw7];simp
 have hzw:w.heap.size<=w6.heap.size:=U6.size;have HM7:=aa M7;have HV7:=aa V7;have HO7:=aa O7;clear hw7 hX U6 b5 p5 e0 d1 e1 UI O5 O7 M7 V7 hmv p2 hB1 hB2 q2;have PL:=aa (JU (w:=w7) c l mn mc ma JY);have e0:=b7.at 0 rfl;have e1:=b7.at 1 rfl;have e2:=b7.at 2 rfl;go_upto_region 13 with (go_at_call 185;refine PL.out.mono ?_;rintro e w8 ⟨rfl,hB8⟩);clear e0 e1 e2 PL;have b8:=(b7.mono hB8).mono (ag w8);have p8:=(p7.mono hB8).mono (ag w8);have kL:=af hB8 (ag w8);have g0:=GrB.keeps (B:=p+1) (p8.at 0 rfl) (Nat.lt_succ_self p);refine dF (KR.B (p+1)) #[true,true,true,true,true,true,true,true,true,true,false] 10 1 mixed ?_;refine bZ [0,1,2,3,4] 5 ?_
 iterate 5 (refine aA rfl ?_;go_big_quiet_step (rfl))
 refine az ?_;refine bN 5 ?_;have e0:=b8.at 0 rfl;have e1:=b8.at 1 rfl;have e2:=b8.at 2 rfl;go_wp2_with fail;refine aaa (Below.refl _ _) ?_;clear e0 e1 e2;refine bN 6 ?_;go_wp2_with fail;have hzp:p+1<=w8.drew.heap.size:=Nat.le_trans (by omega) kL.size;refine aaa ((ah _).mono hzp) ?_;refine bN 7 ?_;refine Bt (W:=w8.drew) rfl _ _ 146 rfl (p+1) h_ _ 3 40 JV (by decide) (by decide) (.slice oa L.length oc) L.length (L.flatMap dY) rfl (aH HO7.out kL) _ rfl rfl (by simp [Value.oneCell']) (by omega) hzp ?_;intro v1 w9 o9 o_ Dw;obtain ⟨na,nc,rfl,_,_⟩:=ak o9;go_wp2_with fail;refine aaa o_ ?_;refine bZ [8,9] 0 ?_
 iterate 2 (refine aA rfl ?_;go_big_quiet_step (rfl))
 refine az ?_;have p9:=(p8.mono (ah _)).low o_ (Nat.lt_succ_self p);have e1:=p9.at 0 rfl;have d1:=p9.frozen 0;refine eU [10] ?_;refine tail_cons rfl ?_;go_wp2_with fail;refine tail_nil ?_;go_wp2;go_ret;have MZ:=af kL (ah (w:=w8.drew) (.cells #[.int .i32 (c:Nat),.int .i64 (l:Nat),.slice ma mn mc] h_));have OA:=aH HO7.out MZ;have keep:∀{v:Value} {xs:List Value},Sl aN w7 v xs->Sl aN (w9.setCell ⟨p,0,none⟩ (.slice na (L.length+1) nc)) v xs:=fun h=>Go.Cd.Sl.put (Sl.ab_ (Go.Cd.Sl.mono h MZ) OA (by decide) Dw) p9.at_ (by decide);have Y6:Below p w (w9.setCell ⟨p,0,none⟩ (.slice na (L.length+1) nc)):=aj ((hB7.trans (MZ.mono (by omega))).trans (o_.mono (Nat.le_succ p))) (Nat.le_refl _);refine ⟨rfl,Y6,?_,.slice ma mn mc,⟨⟨.slice na (L.length+1) nc,?_,?_⟩,?_⟩⟩
 ·have:=o_.size;have:=kL.size;simp only [World.size_setCell,World.size_alloc] at *;omega
 ·rw [<-HC.out];exact p9.set 0 _
 ·have:=bn o9 (Go.Cd.aQ o9 (k:=p) (by omega)) 0 (.slice na (L.length+1) nc);rw [List.length_append,List.flatMap_append];have e1:List.flatMap dY [((r,.slice ma mn mc):aG×Value)]=[.int .i32 (c:Nat),.int .i64 (l:Nat),.slice ma mn mc]:=by rw [HC.out,Yh.out];rfl
  rw [e1];exact this
 ·intro x hx;rcases List.mem_append.1 hx with hx|hx
  ·exact ⟨keep (HM7.out x hx),HPV.out x hx⟩
  ·rw [List.mem_singleton.1 hx];exact ⟨keep HV7.out,by rw [HMN.out];exact ajj.out⟩
end Go.Proofs.YtmnimbnojdndmaaGreatDoor
end
namespace Go.Proofs.YtmnimbnojdndmaaGreatDoor
section
open Go.RowKit Go.Cd Go.Sort _root_.Go.Proofs.Tryz
section
variable {α : Type} [Inhabited α] (enc : α -> Value)
variable {w:World} {g n:Nat} {e:TypeId} {os:Array Obj}
def Fe {a:Array Value} {ss:List α} (d:w.heap[g]? = some (.cells a e (0,0))) (h:a.toList.take ss.length=ss.map enc):Holds enc w g 0 ss.toArray:=by
 intro j f;have b:j<ss.length:=by simpa using f
 refine⟨?_,by simp[World.frozen?,d]⟩;have c:(a.toList.take ss.length)[j]? = (ss.map enc)[j]?:=by rw[h]
 rw[List.getElem?_take_of_lt b] at c;simp only[World.cell?,d,k_];simpa [b] using c
def heap_put {a:Array Value} {c:Nat×Nat} (d:Array α) (b:w.heap[g]? = some (.cells a e c)) :
 (grow (putRow enc (Sort.ahead w n) g 0 d) os).heap[g]? = some (.cells (putCells enc 0 d a) e c):=by
 have f:g<w.heap.size:=(ju.1 b).1;rw[heap_grow_old _ _ (by simpa using f)];simp[putRow,mapBlock,Sort.ahead,sq,b,onCells]
def zB (d:Array α):w.grownBy (grow (putRow enc (Sort.ahead w n) g 0 d) os) (some g):=by
 refine⟨rfl,rfl,rfl,by simp,λk b a=>?_⟩;rw[heap_grow_old _ _ (by simpa using b)];have:g≠k:=λe=>a (by rw[e]);simp[putRow,mapBlock,Sort.ahead,sq,this]
def U8 (a:Array Value) (ts:List α) (h:ts.length<=a.size):(putCells enc 0 ts.toArray a).toList.take ts.length=ts.map enc:=by
 apply List.ext_getElem?;intro j;by_cases b:j<ts.length
 ·rw[List.getElem?_take_of_lt b,mz];simp[putCells,b,show j<a.size by omega]
 rw[List.getElem?_take_eq_none (by omega),pA (by simp;omega)]
def zC {base cap:Nat} {b:Array Value} {ts us:List α} (a:base<=g) (j:w.heap[g]? = some (.cells b e (0,0)))
 (d:(ts++us).length<=cap) (i:cap<=maxLen) (f:b.size=cap*1) :
 (grow (putRow enc (Sort.ahead w n) g 0 (ts++us).toArray) os).ownsRow base e 1 (.slice (some ⟨g,0,none⟩) ts.length cap) ts.length (ts.map enc):=by
 have h:ts.length<=cap:=by simp at d;omega
 refine⟨by simp,.inr ⟨g,cap,_,rfl,a,heap_put enc _ j,h,i,by simp[putCells,f],?_⟩⟩;have:=U8 enc b (ts++us) (by omega);rw[qt];have c:=congrArg (List.take ts.length) this;rw[AC,pZ (by simp)] at c;rw[c];simp
end
def JZ (d:Nat):Value:=.int .i32 d
def U9 (l:List Nat):aM l=l.map JZ:=rfl
def Ff (l:List Nat):aM l=(l.map λd:Nat=>(d:Int)).map (Value.int .i32):=by rw[m5];rfl
def Rl (l:List Nat):((l.map λd:Nat=>(d:Int)).mergeSort λx y=>decide (x<=y))=(b_ l).map λd:Nat=>(d:Int):=by
 unfold b_;refine(List.map_mergeSort ?_).symm;intro a _ b _;simp
def wh {w:World} {base:Nat} {v:Value} (l:List Nat) (f:w.ownsRow base aN 1 v l.length (aM l)) (s:l.length<1000000) :
 Calls prog 66 #[v] w λe w'=>e=.returned (.tuple #[])/\w'.ownsRow base aN 1 v l.length (aM (b_ l))/\w.grownBy w' v.ownBlock:=by
 rcases f.2 with⟨rfl,h0⟩|⟨g,cap,r,rfl,q,b,j,k,p,i⟩
 ·have o:l=[]:=iJ.1 h0;subst o;refine(Ab none 0 w).mono ?_;rintro e w'⟨a,rfl⟩;exact⟨a,by rw[show b_ []=[] from by simp[b_]];exact f,⟨rfl,rfl,rfl,d' _,λ_ _ _=>rfl⟩⟩
 rw[qt,Ff] at i;have m:=Fe (Value.int .i32) (ss:=l.map λd:Nat=>(d:Int)) b (by simpa using i);have h:=uw g 0 cap (l.map λd:Nat=>(d:Int)) w m (block_lt b) (by simp;omega);rw[iz] at h;refine h.mono ?_;rintro e w'⟨a,n,os,rfl⟩;refine⟨a,?_,zB _ _⟩;rw[Rl,Ff];have c:((b_ l).map λd:Nat=>(d:Int)).length=l.length:=by rw[iz,fP]
 have:=zC (Value.int .i32) (w:=w) (base:=base) (n:=n) (os:=os) (ts:=(b_ l).map λd:Nat=>(d:Int)) (us:=[]) q b (by rw[me,c];exact j) k p;rw[me,c] at this;exact this
def ae_ (P:Program) (T:TypeId):EqlAt P T JZ (λx y=>decide (x=y)):=⟨λx y w=>by
 have:=(EqlAt.intD P T .i32).1 (x:Int) (y:Int) w;refine this.trans ?_;dsimp only
 rw[show decide ((x:Int)=(y:Int))=decide (x=y) from decide_eq_decide.2 (by omega)],λop a b x y w=>(EqlAt.intD P T .i32).2 op a b (x:Int) (y:Int) w⟩
def ajl (P:Program) (T:TypeId):NeqAt P T JZ (λx y=>decide (x=y)):=⟨λx y w=>by
 have:=(NeqAt.intD P T .i32).1 (x:Int) (y:Int) w;refine this.trans ?_;dsimp only
 rw[show decide ((x:Int)=(y:Int))=decide (x=y) from decide_eq_decide.2 (by omega)],λop a b x y w=>(NeqAt.intD P T .i32).2 op a b (x:Int) (y:Int) w⟩
def J6 {w:World} {base:Nat} {v:Value} (l:List Nat) (k:w.ownsRow base aN 1 v l.length (aM l)) (s:l.length<1000000) (h0:l≠[]) :
 Calls prog 162 #[v] w λe w'=>∃r,e=.returned r/\w'.ownsRow base aN 1 r (Ew l).length (aM (Ew l))/\w.grownBy w' v.ownBlock:=by
 rcases k.2 with⟨rfl,c⟩|⟨g,cap,p,rfl,o,a,d,i,m,b⟩
 ·exact absurd (iJ.1 c) h0
 rw[qt,U9] at b;have j:=Fe JZ (ss:=l) a b;have h:=AnyE.slices_Compact Tryz.GG JZ (λ_=>rfl) (ae_ _ _) (ajl _ _) 0 (λw=>zeroValue21 w) g 0 cap l.toArray w j (by simp;omega) (by simpa using d);refine se (h:Calls prog 162 #[.slice (some ⟨g,0,none⟩) l.length cap] w _) ?_;rintro e w'⟨f,q,rfl⟩;refine⟨_,f,?_,?_⟩
 ·have:=zC JZ (w:=w) (base:=base) (n:=q) (os:=#[]) (ts:=Lib.compactUpTo l.toArray l.toArray.size) (us:=List.replicate (l.toArray.size-(Lib.compactUpTo l.toArray l.toArray.size).length) 0) o a (by
   have:=Jy l.toArray l.toArray.size
   simp at this⊢;omega) i m
  rw[grow_empty] at this;exact this
 have:=zB JZ (w:=w) (g:=g) (n:=q) (os:=#[]) (Lib.compactUpTo l.toArray l.toArray.size++List.replicate (l.toArray.size-(Lib.compactUpTo l.toArray l.toArray.size).length) 0).toArray;rw[grow_empty] at this;exact this
def kX {w:World} {v:Value} (l:List Nat) (C:Sl aN w v (aM l)) (B:fU v) (F:l.length<1000000) :
 Calls prog 102 #[v] w λe w'=>∃r,e=.returned r/\w'.ownsRow w.heap.size aN 1 r l.length (aM l)/\Below w.heap.size w w':=by
 obtain⟨a,cap,rfl,G,g⟩:=C.out;rw[bF] at *;obtain⟨H,E,k,d,s⟩:=B;cases d;rcases s with rfl|⟨b,off,rfl⟩
 ·have h0:l=[]:=by
   rcases l with _|⟨x,l⟩
   ·rfl
   obtain⟨b,off,h,_⟩:=g 0 (by simp);cases h
  subst h0;refine se (AnyE.slices_Clone_nil Tryz.AY 0 cap w:Calls prog 102 #[.slice none 0 cap] w _) ?_;rintro e w'⟨d,rfl⟩;exact⟨_,d,iS _ _ _ _,gS _ _⟩
 obtain⟨_,_,i,z,q,c,f⟩:=bW;refine se (AnyE.slices_Clone Tryz.AY i (.int .i32 0) 1 4 z q c f rfl (by decide) (λw=>sizeOf21 w) b off l.length cap (aM l) w (by simp) (by unfold maxLen;omega) (by omega) ?_ (gJ l):Calls prog 102 #[.slice (some ⟨b,off,none⟩) l.length cap] w _) ?_
 ·intro j u m;have A:=(iR.1 m).1;obtain⟨D,n,o,_,p⟩:=g j (by simpa using A);cases o;rw[p];have:=(iR.1 m).2;rw[this]
 rintro e w'⟨r,d,y,_,t⟩;exact⟨r,d,y,t⟩
end
end Go.Proofs.YtmnimbnojdndmaaGreatDoor
