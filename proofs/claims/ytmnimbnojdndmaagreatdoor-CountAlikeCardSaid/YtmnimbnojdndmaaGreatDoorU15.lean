/- Texts that are alike cost, and count, the same; no condition. -/
import Derived.Test.YtmnimbnojdndmaaGreatDoorU14
import Derived.Test.YtmnimbnojdndmaaGreatDoorU12
import Derived.Laws.BitsAllLaws
set_option maxRecDepth 100000
set_option maxHeartbeats 6400000
set_option linter.all false
namespace Go.Proofs.YtmnimbnojdndmaaGreatDoor
open Go.RowKit Go.Cd _root_.Go.Proofs.Tryz
variable {w:World} {v u:Value} {x:Nat}
def Cg (l:List Nat) (i d:Nat):(cu l).set i (.int .u32 d)=cu (l.set i d):=by simp[cu,tt]
def VZ (f:Nat->Nat) (i k:Nat):((List.range i).map f++List.replicate (k+1) 0).set i (f i)=(List.range (i+1)).map f++List.replicate k 0:=by
 rw[tf,js,k_ _ _ (by simp)];simp[List.replicate_succ]
def Oo {y:Nat} (h:bT w v x) (k:bT w u y) (hx:(bY B x).length<549755813888) (hy:(bY B y).length<549755813888) :
 Calls prog 26 #[v,u] w λe w'=>∃r,e=.returned r/\bT w' r (x+y)/\Below w.heap.size w w':=by
 obtain⟨a,n,cap,rfl,h⟩:=h.out;obtain⟨a2,F,N,rfl,k⟩:=k.out;have hn:=h.len;have P:=k.len;rw[<-hn] at hx;rw[<-P] at hy;have HX:=aa h;have HY:=aa k;obtain⟨M,hM,ao,an,am⟩:∃M:Nat,(if n<F then (F:Int) else (n:Int))=(M:Int)/\n<=M/\F<=M/\M<=n+F:=by
  by_cases G:n<F
  ·exact⟨F,by rw[if_pos G],by omega,by omega,by omega⟩
  exact⟨n,by rw[if_neg G],by omega,by omega,by omega⟩
 have A:x+y<B ^ (M+1):=Nb bE ((cZ bE).1 (by omega)) ((cZ bE).1 (by omega));have HS:=aa A;clear hn P h k A;go_enter func26,ntmps26;go_wp2_with (at_make;refine gm _ rfl _ _ 42 rfl (w.heap.size+3) nI _ 4 Gy rfl .i64 .i64 _ _ (M+1) rfl rfl (by omega) (by omega) (by omega) (by unfold maxLen;omega) (by simp) ?_;intro D f s);have o:=fO s;have ae:D.cell? ⟨w.heap.size,0,none⟩=some (.slice a n cap):=aB o (by go_simp);have Z:D.cell? ⟨w.heap.size+1,0,none⟩=some (.slice a2 F N):=aB o (by go_simp);have L:D.heap[w.heap.size+1+1]? = some (.cells #[.slice none 0 0] 44):=(o.block _ (by simp)).trans (heap_alloc_new' _ _ _ (by simp));have Q:Below w.heap.size w D:=(((ah _).alloc (by simp) _).alloc (by simp;omega) _).trans (o.mono (by simp;omega));have ap:w.heap.size+3<=D.heap.size:=by have:=o.size;simpa using this
 have HK:=aa L;clear s o L;go_loopw [7,22] (λc i wr=>∃k:Nat,k<=M+1/\i=.int .i64 k/\c=.int .u64 (carry B x y k:Nat)/\wr.ownsRow (w.heap.size+3) nI 1 (.slice (some ⟨w.heap.size+1+1+1,0,none⟩) (M+1) (M+1)) (M+1) (cu (z_ B (x+y) k++List.replicate (M+1-k) 0))/\Below (w.heap.size+3) D wr)
  (λ_ i _=>M+1-(intOf i).toNat)
 case atStart=>exact⟨0,by omega,rfl,by rw[carry_zero];rfl,by simpa [cu,z_] using f,gO _ _⟩
 case round=>
  obtain⟨k,R,rfl,rfl,f,z⟩:=hrel;have t:Below w.heap.size w wr:=Q.trans (z.mono (by omega));by_cases G:k<M+1
  ·have U:=λ(W:World) (E:Below w.heap.size w W)=>sw (HX.out.mono E) k;have S:=λ(W:World) (E:Below w.heap.size w W)=>sw (HY.out.mono E) k;have l:=carry_succ bE x y k;have q:=YD bE x y k;have ac:=UF bE x y k;have J:=xI bE x k;have K:=xI bE y k;generalize oJ B x k=dx at U S l q J;generalize oJ B y k=dy at U S l q K;generalize carry B x y k=c at l q ac⊢;have L1:=aa U;have L2:=aa S;have Y:=aa l;have ai:=aa q;unfold B at J K;clear U S l q;have hd:=aa f;clear f;go_wp2_with fail;refine aC (Array.replicate 10 true) 10 0 mixed ?_;have ab:=Gr.cell (ag wr) ((z.cell (p:=⟨w.heap.size,0,none⟩) (by simp)).trans ae);have ak:=Gr.cell (ag wr) ((z.cell (p:=⟨w.heap.size+1,0,none⟩) (by simp)).trans Z);refine ay [0,1,3,4,7] 5 ?_
   repeat (refine aA rfl ?_;go_big_quiet_step (rfl))
   refine az ?_;clear ab ak;refine aI 2 ?_;go_wp2_with fail;refine(L1.out _ (af t (ag _))).mono ?_;rintro e T⟨rfl,g⟩;go_wp2_with fail;refine aF g ?_;refine aI 5 ?_;go_wp2_with fail;refine(L2.out _ (af t (af (ag _) g))).mono ?_;rintro e w3⟨rfl,H⟩;go_wp2_with fail;refine aF H ?_;refine ay [6,8,9] 0 ?_
   repeat (refine aA rfl ?_;go_big_quiet_step (rfl))
   refine az ?_;refine aJ [] ?_;refine tail_nil ?_;have hE:=af (ag wr) (af g H);have m:=aH hd.out hE;obtain⟨C,X⟩:=jY m (j:=k) (by simp;omega);have O:=(m.stored k (.int .u32 (oJ B (x+y) k:Nat))).1;have al:Below (w.heap.size+3) D (w3.setCell ⟨w.heap.size+1+1+1,k,none⟩ (.int .u32 (oJ B (x+y) k:Nat))):=aj (z.trans (hE.mono (by have:=z.size;omega))) (by omega);have ad:=aa O;clear g H hE m O;go_wp2;go_roundw
   case rel=>
    have e1:((dx:Int)+dy+c) / 4294967296=(carry B x y (k+1):Nat):=by have:=Y.out;unfold B at this⊢;omega
    have e2:((dx:Int)+dy+c) % 4294967296=(oJ B (x+y) k:Nat):=by have:=ai.out;unfold B at this⊢;omega
    rw[e1,e2];refine⟨k+1,by omega,rfl,rfl,?_,al⟩;have V:=ad.out;rw[Cg,show M+1-k=(M+1-(k+1))+1 from by omega] at V;unfold z_ at V⊢;rw[VZ] at V;exact V
   case measure=>simp[intOf];omega
  go_wp2_with fail;obtain rfl:k=M+1:=by omega
  have hl:∀d∈z_ B (x+y) (M+1),d<B:=YC bE _ _;rw[m_,List.replicate_zero,lE] at f;refine(H8 (Sl.aU f) hl (by simp;omega)).mono ?_;rintro e T⟨r2,rfl,I,g⟩;rw[Jk,rI HS.out] at I;obtain⟨a3,n3,rz,rfl,hN⟩:=I.out;have R:T.heap[w.heap.size+1+1]? = some (.cells #[.slice none 0 0] 44):=(g.block (w.heap.size+1+1) (by have:=z.size;omega)).trans ((z.block (w.heap.size+1+1) (by omega)).trans HK.out);obtain⟨l,hR⟩:=oN R (by decide) hN;have hB:=aj (off:=0) (u:=.slice a3 n3 rz) (af t g) (b:=w.heap.size+1+1) (by omega);have C:T.cell? ⟨w.heap.size+1+1,0,none⟩=some (.slice none 0 0):=by unfold World.cell?;rw[R];rfl
  have X:T.frozen? ⟨w.heap.size+1+1,0,none⟩=false:=by unfold World.frozen?;rw[R];rfl
  clear R g I hN f z t Q;go_wp2;exact bodyPost_ret (v:=.agg #[.slice a3 n3 rz]) (by simp[results,results26,go_sem,l]) rfl ⟨_,rfl,hR,hB⟩
def V3 {l m:List Nat} (h:Sl nI w v (cu l)) (k:Sl nI w u (cu m)) (r:l.length<1099511627776) :
 Calls prog 51 #[v,u] w λe w'=>e=.returned (.bool (decide (l=m)))/\Below w.heap.size w w':=by
 obtain⟨a,cap,rfl,U,K⟩:=h.out;obtain⟨O,J,rfl,G,D⟩:=k.out;simp only[dG] at *;clear h k;by_cases f:l.length=m.length
 ·have g:∀i (I:i<l.length) (Q:i<m.length),∃b off q z,a=some ⟨b,off,none⟩/\O=some ⟨q,z,none⟩/\w.cell? ⟨b,off+i,none⟩=some (.int .u32 (l[i]:Nat))/\w.cell? ⟨q,z+i,none⟩=some (.int .u32 (m[i]:Nat)):=λi I Q=>by
   obtain⟨b,off,S,_,C⟩:=K i I;obtain⟨q,z,F,_,s⟩:=D i (by omega);rw[gP _ _ I] at C;rw[gP _ _ (by omega)] at s;exact⟨b,off,q,z,S,F,C,s⟩
  have H:=aa g;have c:=aa f;obtain⟨n,E⟩:=ae l.length;have j:=aa E;rw[<-f,<-E];rw[<-E] at r;clear g K D f E U G;go_enter func51,ntmps51;go_wp2_with fail;go_loopw [13] (λi wr=>∃k:Nat,k<=n/\i=.int .i64 k/\l.take k=m.take k/\Below w.heap.size w wr) (λi _=>n-(intOf i).toNat)
  case atStart=>exact⟨0,by omega,rfl,rfl,gO _ _⟩
  case round=>
   obtain⟨k,X,rfl,B,x⟩:=hrel;have M:=aa B;clear B;by_cases T:k<n
   ·obtain⟨b,off,q,z,rfl,rfl,C,s⟩:=H.out k (by have:=j.out;omega) (by have:=j.out;have:=c.out;omega);obtain⟨d,hd⟩:∃d,d=l[k]'(by have:=j.out;omega):=⟨_,rfl⟩;obtain⟨N,o⟩:∃d,d=m[k]'(by have:=j.out;have:=c.out;omega):=⟨_,rfl⟩;rw[<-hd] at C;rw[<-o] at s;have L:=aa hd;have y:=aa o;have R:=Gr.cell (af x (ag wr)) C;have V:=Gr.cell (af x (ag wr)) s;clear hd o;go_wp2_with fail;refine aC (Array.replicate 9 true) 9 0 mixed ?_;refine ay [0,1,2,3,4,5,6,7,8] 0 ?_
    repeat (refine aA rfl ?_;go_big_quiet_step (rfl))
    refine az ?_;refine aJ [] ?_;refine tail_nil ?_;by_cases A:d=N
    ·subst A;go_wp2;go_roundw
     case rel=>
      refine⟨k+1,by omega,rfl,?_,af x (ag wr)⟩;rw[gE (by have:=j.out;omega),gE (by have:=j.out;have:=c.out;omega),M.out,<-L.out,<-y.out]
     case measure=>simp[intOf];omega
    have P:((d:Int)==N)=false:=by simp;omega
    have p:¬l=m:=λe=>A (by rw[L.out,y.out];subst e;rfl);have t:=aa (decide_eq_false p);go_wp2;go_ret;exact⟨dV t.out.symm,af x (ag wr)⟩
   obtain rfl:k=n:=by omega
   have W:l=m:=by
    have:=M.out;rw[ie (by rw[j.out];exact gw _),ie (by rw[j.out,c.out];exact gw _)] at this;exact this
   have t:=aa (decide_eq_true W);go_wp2;go_ret;exact⟨dV t.out.symm,x⟩
 have p:¬l=m:=λe=>f (by rw[e]);have t:=aa (decide_eq_false p);rw[t.out];have P:((l.length:Int)==m.length)=false:=by simp;omega
 go_enter func51,ntmps51;go_wp2;go_ret;exact⟨rfl,gO _ _⟩
def bT.sl {s:Value} (h:bT w (.agg #[s]) x):Sl nI w s (cu (bY B x)):=by
 obtain⟨b,a,h⟩:=h;simp at a;rw[a];exact h
def H9 {y:Nat} (h:bT w v x) (k:bT w u y) (g:(bY B x).length<1099511627776) :
 Calls prog 17 #[v,u] w λe w'=>e=.returned (.bool (decide (x=y)))/\Below w.heap.size w w':=by
 obtain⟨a,n,cap,rfl,h⟩:=h.out;obtain⟨i,j,c,rfl,k⟩:=k.out;have b:=λ(W:World) (E:Below w.heap.size w W)=>V3 ((bT.sl h).mono E) ((bT.sl k).mono E) g;have hd:decide (bY B x=bY B y)=decide (x=y):=by
  rw[decide_eq_decide];exact⟨λe=>UD bE e,λe=>by rw[e]⟩
 rw[hd] at b;have d:=aa b;clear b hd h k;go_enter func17,ntmps17;go_wp2_with fail;refine(d.out _ (dH _ _)).mono ?_;rintro e l⟨rfl,f⟩;go_wp2;go_ret;exact⟨rfl,af (dH _ _) f⟩
end Go.Proofs.YtmnimbnojdndmaaGreatDoor
namespace Go.Cd
open Go.RowKit
def iw (z:Value) (k:Nat):Builtin.zeroCells #[z] k=(List.replicate k z).toArray:=by
 apply Array.ext
 ·simp[Builtin.zeroCells]
 intro i b a;simp[Builtin.zeroCells];rw[Nat.mod_one];simp
def rA {P:Program} (w:World) (base:Nat) (t M V e:TypeId) (i:TypeInfo) (z:Value) (kq T:IntKind) (r:Nat) (E:P.underlying t=some (.slice e)) (o:P.underlying M=some (.int T))
 (I:P.info? e=some i) (R:i.zero=some z) (d:i.size=1) (W:i.bytes=r) (C:z.cells=#[z]) (S:z.oneCell'=true)
 (v:Value) (n:Nat) (m:List Value) (a:w.ownsRow base e 1 v n m) (k:Nat)
 (N:n+k<=maxLen) (f:(n+k)*r<=140737488355328) (y:base<=w.heap.size) :
 ∃v' w',(Builtin.append_ #[t,M] V #[v,.int kq k]).run P w=.ok v' w'/\w'.ownsRow base e 1 v' (n+k) (m++List.replicate k z)/\w.grownBy w' v.ownBlock:=by
 subst W
 have hm:maxLen<=9223372036854775807:=by decide
 have hw:IntKind.i64.wrap (k:Int)=k:=by rw[pw];omega
 have aa:k*i.bytes<=140737488355328:=gS (nh _ (by omega)) f;have c:(m++List.replicate k z).length=(n+k)*1:=by have:=a.1;simp at this⊢;exact this
 have p:∀(b:Nat),b<n+k->∀(row:Option Nat),
  (w.drew.alloc (.cells (m.toArray++(List.replicate k z).toArray++(List.replicate (grownCap w (n+k) b e-(n+k)) z).toArray) e)).ownsRow base e 1
    (.slice (some ⟨w.heap.size,0,none⟩) (n+k) (grownCap w (n+k) b e)) (n+k) (m++List.replicate k z)/\
  w.grownBy (w.drew.alloc (.cells (m.toArray++(List.replicate k z).toArray++(List.replicate (grownCap w (n+k) b e-(n+k)) z).toArray) e)) row:=by
  intro b ho row;have X:=grownCap_ge w (n+k) b e;have A:grownCap w (n+k) b e<=maxLen:=grownCap_le_maxLen w (n+k) b e N;have Z:=a.1;refine⟨⟨c,.inr ⟨w.heap.size,_,_,rfl,y,heap_alloc_new w.drew _,X,A,?_,?_⟩⟩,⟨rfl,rfl,rfl,by simp,λj Q _=>Below.heap_alloc w.drew _ j Q⟩⟩
  ·simp at Z⊢;omega
  show List.take ((n+k)*1) ((m.toArray++(List.replicate k z).toArray++(List.replicate (grownCap w (n+k) b e-(n+k)) z).toArray).toList)=_;rw[Array.toList_append,Array.toList_append,<-c];exact List.take_left
 have H:IntKind.i64.wrap 0=0:=by decide
 have J:¬((k:Int)<0):=by omega
 have K:¬(281474976710656<(k:Int)*(i.bytes:Int)):=by rw[<-xF];omega
 rcases a.2 with⟨rfl,rfl⟩|⟨g,cap,x,rfl,O,hg,Y,A,U,B⟩
 ·have Z:m=[]:=oS (by simpa using a.1);subst Z;by_cases h0:k=0
  ·subst h0;refine⟨.slice none 0 0,w,?_,iu w base e 1,⟨rfl,rfl,rfl,gw _,λ_ _ _=>rfl⟩⟩;simp[Builtin.append_,run_underlying E,run_underlying o,sizeOf,typeInfo,I,asInt,asIntOf,H]
  have G:=Lib.run_append_nil_zeros (P:=P) w t M V e i z kq T E o I R k (by omega) (by omega) (by omega) (by omega);rw[C,iw,iw] at G;have l:=p 0 (by omega) (Value.ownBlock (.slice none 0 0));simp only[kh,ks,Array.empty_append] at l⊢;exact⟨_,_,G,l.1,l.2⟩
 by_cases s:n+k<=cap
 ·have q:=run_storeCells_at P g n e (List.replicate k z) 0 x w hg (by simp;omega) (by intro u hu;rw[(List.mem_replicate.1 hu).2];exact S);simp only[sE] at q;refine⟨.slice (some ⟨g,0,none⟩) (n+k) cap,w.setRow g (x.toList.take n++List.replicate k z++x.toList.drop (n+(List.replicate k z).length)).toArray,?_,⟨c,.inr ⟨g,cap,_,rfl,O,setRow_heap w g x _ e _ hg,s,A,?_,?_⟩⟩,⟨rfl,rfl,rfl,by simp,λj _ Q=>setRow_other w g j _ (λe=>Q (by simp[Value.ownBlock,e]))⟩⟩
  ·by_cases h0:k=0
   ·subst h0;simp[Builtin.append_,run_underlying E,run_underlying o,sizeOf,typeInfo,I,asInt,asIntOf,H,Y,d,Addr.add_lit] at q⊢;rw[q];rfl
   simp[Builtin.append_,run_underlying E,run_underlying o,sizeOf,typeInfo,zeroValue,I,R,asInt,asIntOf,hw,s,J,K,d,h0,C,iw,Addr.add_lit];simp at q;rw[q];rfl
  ·simp;simp at U;omega
  have F:=B;simp only[qK] at F c⊢;rw[F,<-c];exact List.take_left
 have D:∀j u,m[j]? = some u->w.cell? ((⟨g,0,none⟩:Addr).add j)=some u:=a.cells (g:=g) rfl;have L:=run_firstCells_some (P:=P) w.drew i.size n ⟨g,0,none⟩ n cap m (by rw[d];exact a.1) (λj u h=>D j u h);have h0:0<k:=by omega
 have G:=Lib.run_append_grow_zeros (P:=P) w t M V e i z kq T E o I R (some ⟨g,0,none⟩) n cap m L k h0 (by omega) (by omega) (by omega) (by omega) (growslice_fits (by omega) f);rw[C,iw,iw] at G;have l:=p cap (by omega) (Value.ownBlock (.slice (some ⟨g,0,none⟩) n cap));exact⟨_,_,G,l.1,l.2⟩
def sU {P:Program} {w:World} {ops:Array Oper} {rest:List Oper} {o:Oper} {a:Act} {Q:Exit->Act->World->Prop} (u:o.guard=none) (s x:Operand) (t j:TypeId)
 (C:o.op=.call { callee:=.builtin .append,args:=#[s,x],argTypes:=#[t,j] }) (A B:IntKind) (m:P.underlying j=some (.int B))
 (base:Nat) (e:TypeId) (z:Value) (b:Nat) (H:Elem P t e z b) (y:z.cells=#[z])
 (v:Value) (n:Nat) (l:List Value) (L:a.eval s=v) (g:w.ownsRow base e 1 v n l) (k:Nat) (J:a.eval x=.int A k)
 (p:n+k<=maxLen) (c:(n+k)*b<=140737488355328) (f:base<=w.heap.size)
 (h:∀v' w',w'.ownsRow base e 1 v' (n+k) (l++List.replicate k z)->w.grownBy w' v.ownBlock->wpList P ops Q rest (a.put o.dst v') w'):wpList P ops Q (o::rest) a w:=by
 obtain⟨q,D,i,G,F,d,r⟩:=H;obtain⟨v',w',K,I,E⟩:=rA (P:=P) w base t j o.type e i z A B b D m G F d r y q v n l g k p c f;exact sq w u s x t j C v (.int A k) L J v' w' K (h v' w' I E)
end Go.Cd
namespace Go.Proofs.YtmnimbnojdndmaaGreatDoor
open Go.RowKit Go.Cd _root_.Go.Proofs.Tryz
variable {w:World} {v:Value} {l:List Nat} {x:Nat}
def H_ (b:Nat):∀(l:List Nat) (j v:Nat),j<l.length->val b (l.set j v)+l[j]?.getD 0*b ^ j=val b l+v*b ^ j
 | [],_,_,h=>by simp at h
 | d::l,0,v,_=>by simp[val];omega
 | d::l,j+1,v,h=>by
   have:=H_ b l j v (by simpa using h);simp only[vh,val,tl,me];have e:∀p q:Nat,p*(q*b)=b*(p*q):=λp q=>by rw[<-qS,mS]
   rw[e,e,te,te,<-ti,<-ti,this]
def ug (b:Nat) (l:List Nat) (j:Nat) (h:j<l.length):val b (l.take (j+1))=val b (l.take j)+l[j]*b ^ j:=by
 rw[gE h,val_append];simp[val,qk (nu h),mS]
def Sl.afX (h:Sl nI w v (cu l)):∃a cap,v=.slice a l.length cap/\l.length<=cap/\∀i (c:i<l.length),∃b off,a=some ⟨b,off,none⟩/\b<w.heap.size/\w.cell? ⟨b,off+i,none⟩=some (.int .u32 (l[i]:Nat)):=by
 obtain⟨a,cap,k,d,g⟩:=Sl.out h;refine⟨a,cap,by rw[k,dG],by rw[dG] at d;exact d,λi c=>?_⟩;obtain⟨b,off,f,j,e⟩:=g i (by rw[dG];exact c);rw[gP _ _ c] at e;exact⟨b,off,f,j,e⟩
def V4 {p q o c:Nat} (a:p<4294967296) (b:q<4294967296) (e:o<4294967296) (f:c<4294967296):p*q+o+c<18446744073709551616:=by
 have:p*q<=4294967295*4294967295:=pT (by omega) (by omega);omega
def ZM {b vs vl A PV W s1 s0 pq o cc:Nat} (e:vs+o*W=vl+s0*W) (f:vl+cc*W=A+PV) (d:b*s1+s0=pq+o+cc):vs+s1*(W*b)=A+(PV+pq*W):=by
 have c:(b*s1+s0)*W=(pq+o+cc)*W:=by rw[d]
 rw[l3,l3,l3] at c;have a:s1*(W*b)=b*s1*W:=by rw[mS W b,<-qS,mS s1 b]
 rw[a];omega
def getD_set_ne {i j v:Nat} (h:i≠j):(l.set i v)[j]?.getD 0=l[j]?.getD 0:=by rw[sx h]
def uh {i v b:Nat} (a:∀d∈l,d<b) (c:v<b):∀d∈l.set i v,d<b:=λd hd=>by
 rcases rh hd with h|rfl
 ·exact a d h
 exact c
def V5 {u:Value} {y:Nat} (h:bT w v x) (k:bT w u y) (hx:(bY B x).length<274877906944) (hy:(bY B y).length<274877906944) :
 Calls prog 27 #[v,u] w λe w'=>∃r,e=.returned r/\bT w' r (x*y)/\Below w.heap.size w w':=by
 obtain⟨a,n,cap,rfl,h⟩:=h.out;obtain⟨R,P,f,rfl,k⟩:=k.out;have hb:=(ah (w:=w) (.cells #[.slice a n cap] 44)).alloc (by simp) (.cells #[.slice R P f] 44) |>.alloc (by simp;omega) (.cells #[.slice none 0 0] 44);have c1:(((w.alloc (.cells #[.slice a n cap] 44)).alloc (.cells #[.slice R P f] 44)).alloc (.cells #[.slice none 0 0] 44)).cell? ⟨w.heap.size,0,none⟩=some (.slice a n cap):=by go_simp
 have c2:(((w.alloc (.cells #[.slice a n cap] 44)).alloc (.cells #[.slice R P f] 44)).alloc (.cells #[.slice none 0 0] 44)).cell? ⟨w.heap.size+1,0,none⟩=some (.slice R P f):=by go_simp
 have c3:(((w.alloc (.cells #[.slice a n cap] 44)).alloc (.cells #[.slice R P f] 44)).alloc (.cells #[.slice none 0 0] 44)).heap[w.heap.size+1+1]? = some (.cells #[.slice none 0 0] 44):=heap_alloc_new' _ _ _ (by simp);have N1:=h.mono hb;have N2:=k.mono hb;have L1:=aa (λ(W:World) (E:Below _ _ W)=>zR (N1.mono E) (by omega));have L2:=aa (λ(W:World) (E:Below _ _ W)=>zR (N2.mono E) (by omega));have T0:=AO (((w.alloc (.cells #[.slice a n cap] 44)).alloc (.cells #[.slice R P f] 44)).alloc (.cells #[.slice none 0 0] 44));have vx:=nT bE x;have vy:=nT bE y;have lx:=Gv bE x;have ly:=Gv bE y;generalize bY B x=X at *;generalize bY B y=Y at *;have VX:=aa vx;have VY:=aa vy;have LX:=aa lx;have LY:=aa ly;have s3:(((w.alloc (.cells #[.slice a n cap] 44)).alloc (.cells #[.slice R P f] 44)).alloc (.cells #[.slice none 0 0] 44)).heap.size=w.heap.size+3:=by simp
 have HB:=aa hb;clear h k N1 N2 vx vy lx ly hb;go_enter func27,ntmps27;go_wp2_with fail;refine aC (Array.replicate 6 true) 6 0 mixed ?_;have SE:=af T0 (ag _);have N:=Gr.cell SE c1;have L:=Gr.cell SE c2;refine ay [0,2] 4 ?_
 iterate 2 (refine aA rfl ?_;go_big_quiet_step (rfl))
 refine az ?_;clear N L;refine aI 1 ?_;go_wp2_with fail;refine(L1.out _ SE).mono ?_;rintro e aK⟨r1,rfl,o1,SF⟩;go_wp2_with fail;refine aF SF ?_;have Uv:=af SE SF;refine aI 3 ?_;go_wp2_with fail;refine(L2.out _ Uv).mono ?_;rintro e C⟨r2,rfl,o2,Z⟩;go_wp2_with fail;refine aF Z ?_;have Yo:=af Uv Z;have N:=Gr.cell Yo c1;have L:=Gr.cell Yo c2;refine ay [4,5] 0 ?_
 iterate 2 (refine aA rfl ?_;go_big_quiet_step (rfl))
 refine az ?_;clear N L;refine aJ [] ?_;refine tail_nil ?_;have S1:=(Sl.aU o1).mono Z;have S2:=Sl.aU o2;have D:=Yo;obtain⟨x1,Ao,rfl,_,ap⟩:=Sl.afX S1;obtain⟨x2,aL,rfl,_,ad⟩:=Sl.afX S2;have z3:C.heap[w.heap.size+1+1]? = some (.cells #[.slice none 0 0] 44):=(D.block _ (by rw[s3];omega)).trans c3;have zs:w.heap.size+3<=C.heap.size:=by have:=D.size;rw[s3] at this;exact this
 have U:Below w.heap.size w C:=HB.out.trans (D.mono (by rw[s3];omega));have mH:=aa ap;have Jc:=aa ad;have Z3:=aa z3;clear o1 o2 S1 S2 ap ad c1 c2 c3 Yo SF Z L1 L2 T0 s3 z3 D HB;have Z:=U;go_wp2_with (at_make;refine gm _ rfl _ _ 42 rfl C.heap.size nI _ 4 Gy rfl .i64 .i64 _ _ (X.length+Y.length) rfl rfl (by omega) (by omega) (by omega) (by unfold maxLen;omega) (by simp) ?_;intro w3 ar F);have ax:=fO F;clear F
 go_loopw [26] (λi wr=>∃(j:Nat) (l:List Nat),j<=X.length/\i=.int .i64 j/\l.length=X.length+Y.length/\(∀d∈l,d<B)/\(∀t,j+Y.length<=t->l[t]?.getD 0=0)/\val B l=val B (X.take j)*y/\
  wr.ownsRow C.heap.size nI 1 (.slice (some ⟨C.heap.size,0,none⟩) (X.length+Y.length) (X.length+Y.length)) (X.length+Y.length) (cu l)/\Below C.heap.size C wr)
  (λi _=>X.length-(intOf i).toNat)
 case atStart=>
  refine⟨0,List.replicate (X.length+Y.length) 0,gW _,rfl,by simp,?_,?_,by simp[Et,val],by simpa [cu] using ar,ax⟩
  ·intro d hd;rw[(List.mem_replicate.1 hd).2];decide
  intro t _;rw[List.getElem?_replicate];split <;> rfl
 case round=>
  obtain⟨j,l,hj,rfl,hl,G,V,hv,hO,D⟩:=hrel;by_cases Og:j<X.length
  ·obtain⟨b1,av,rfl,aH,O⟩:=mH.out j Og;have O:=(D.cell (p:=⟨b1,av+j,none⟩) aH).trans O;have hp:X[j]<B:=LX.out _ (gx _);have HV:=aa hv;have Qo:=aa G;have HZ:=aa V;generalize hP:X[j]=p at *;have au:=aa hP;clear hv G V hP;go_wp2_with fail
   go_loopw [10,33] (λc k ai=>∃(cc t:Nat) (l:List Nat),t<=Y.length/\k=.int .i64 t/\c=.int .u64 cc/\cc<B/\l.length=X.length+Y.length/\(∀d∈l,d<B)/\(∀s,j+Y.length<=s->l[s]?.getD 0=0)/\
    val B l+cc*B ^ (j+t)=val B (X.take j)*y+p*B ^ j*val B (Y.take t)/\
    ai.ownsRow C.heap.size nI 1 (.slice (some ⟨C.heap.size,0,none⟩) (X.length+Y.length) (X.length+Y.length)) (X.length+Y.length) (cu l)/\Below C.heap.size C ai)
    (λ_ k _=>Y.length-(intOf k).toNat)
   case atStart=>
    exact⟨0,0,l,gW _,rfl,rfl,by decide,hl,Qo.out,HZ.out,by simp[val];exact HV.out,hO,D⟩
   case round=>
    clear HV Qo HZ hO D O;obtain⟨cc,t,I,ht,rfl,rfl,H,aq,J,ab,ao,m,Q⟩:=hrel;have Yg:=aa ao;have K:=aa J;have M:=aa ab;clear ao J ab;by_cases al:t<Y.length
    ·obtain⟨b2,Lf,rfl,aB,am⟩:=Jc.out t al;have am:=(Q.cell (p:=⟨b2,Lf+t,none⟩) aB).trans am;have hq:Y[t]<B:=LY.out _ (gx _);obtain⟨g,ae⟩:=jY m (j:=j+t) (by simp;omega);rw[gP _ _ (by omega)] at g;have ho:I[j+t]<B:=K.out _ (gx _);have HS:=aa (λ(u:Value)=>(m.stored (j+t) u).1);generalize hQ:Y[t]=q at *;generalize an:I[j+t]=o at *;have HQ:=aa hQ;have aw:=aa an;have hs:=V4 (p:=p) (q:=q) (o:=o) (c:=cc) (by unfold B at hp;exact hp) (by unfold B at hq;exact hq) (by unfold B at ho;exact ho) (by unfold B at H;exact H);clear hQ an m;go_wp2;go_roundw
     case rel=>
      have w1:IntKind.u64.wrap (p:Int)=p:=by rw[pt];unfold B at hp;omega
      have w2:IntKind.u64.wrap (q:Int)=q:=by rw[pt];unfold B at hq;omega
      have e0:IntKind.u64.wrap (IntKind.u64.wrap (IntKind.u64.wrap (IntKind.u64.wrap ↑p*IntKind.u64.wrap ↑q)+↑o)+↑cc)=((p*q+o+cc:Nat):Int):=by
       rw[w1,w2,<-xF];generalize p*q=pq at hs;rw[pt,pt,pt];omega
      rw[e0];have e3:=ZM (b:=B) (vs:=val B (I.set (j+t) ((p*q+o+cc) % B))) (vl:=val B I) (A:=val B (X.take j)*y) (PV:=p*B ^ j*val B (Y.take t)) (W:=B ^ (j+t)) (s1:=(p*q+o+cc) / B) (s0:=(p*q+o+cc) % B) (pq:=p*q) (o:=o) (cc:=cc)
       (by have:=H_ B I (j+t) ((p*q+o+cc) % B) (by omega);rw[gA (by omega)] at this;simp only[oy] at this;rw[aw.out] at this;exact this)
       Yg.out (xB _ _)
      have e4:=ug B Y t al;rw[HQ.out] at e4;have e5:p*B ^ j*val B (Y.take (t+1))=p*B ^ j*val B (Y.take t)+p*q*B ^ (j+t):=by
       rw[e4,ti,Nat.pow_add];congr 1;rw[qS,qS,Nat.mul_left_comm (B ^ j)]
      have aG:(p*q+o+cc) / B<B:=tM (by unfold B;omega);have aD:(p*q+o+cc) % B<B:=mx _ (by decide);generalize p*q+o+cc=s at *;have e1:((s:Nat):Int) / 4294967296=((s / B:Nat):Int):=by unfold B;omega
      rw[e1];refine⟨s / B,t+1,I.set (j+t) (s % B),by omega,rfl,rfl,aG,by simp;exact aq,uh K.out aD,λz V=>?_,?_,?_,?_⟩
      ·rw[getD_set_ne (by omega)];exact M.out z V
      ·rw[e5,show j+(t+1)=(j+t)+1 from by omega,me];exact e3
      ·have e6:(s:Int) % 4294967296=((s % B:Nat):Int):=by unfold B;omega
       rw[e6,<-Cg];exact HS.out _
      exact aj Q (gw _)
     case measure=>simp[intOf];omega
    obtain rfl:t=Y.length:=by omega
    have e1:B ^ (j+Y.length)=B ^ (j+Y.length):=rfl;obtain⟨g,ae⟩:=jY m (j:=j+Y.length) (by simp;omega);rw[gP _ _ (by omega)] at g;have HS:=aa (λ(u:Value)=>(m.stored (j+Y.length) u).1);clear m;go_wp2;go_roundw
    case rel=>
     have ac:=H_ B I (j+Y.length) cc (by omega);rw[M.out _ (gw _),vb,sE,Yg.out,kO,VY.out] at ac;have e4:=ug B X j Og;rw[au.out] at e4;refine⟨j+1,I.set (j+Y.length) cc,by omega,rfl,by simp;exact aq,uh K.out H,λz V=>?_,?_,?_,?_⟩
     ·rw[getD_set_ne (by omega)];exact M.out z (by omega)
     ·rw[ac,e4,l3]
     ·rw[show(cc:Int) % 4294967296=cc from by unfold B at H;omega,<-Cg];exact HS.out _
     exact aj Q (gw _)
    case measure=>simp[intOf];omega
  obtain rfl:j=X.length:=by omega
  rw[kO,VX.out] at hv;go_wp2_with fail;refine(VW (Sl.aU hO) G (by omega)).mono ?_;rintro e w4⟨r4,rfl,S,T⟩;rw[hv] at S;obtain⟨a3,n3,rz,rfl,hN⟩:=S.out;have ak:=af (U.trans (D.mono (by omega))) T;have hk:w4.heap[w.heap.size+1+1]? = some (.cells #[.slice none 0 0] 44):=(T.block _ (by have:=D.size;omega)).trans ((D.block _ (by omega)).trans Z3.out);obtain⟨aE,hR⟩:=oN hk (by decide) hN;have hB:=aj (off:=0) (u:=.slice a3 n3 rz) ak (b:=w.heap.size+1+1) (by omega);have g:w4.cell? ⟨w.heap.size+1+1,0,none⟩=some (.slice none 0 0):=by unfold World.cell?;rw[hk];rfl
  have ae:w4.frozen? ⟨w.heap.size+1+1,0,none⟩=false:=by unfold World.frozen?;rw[hk];rfl
  clear hk T S hN hO D U ak hv G V;go_wp2;exact bodyPost_ret (v:=.agg #[.slice a3 n3 rz]) (by simp[results,results27,go_sem,aE]) rfl ⟨_,rfl,hR,hB⟩
def V6 (a b:Nat) (c:a<4294967296) (d:b<4294967296):bits .or .u64 ((a:Int)*4294967296) b=(a:Int)*4294967296+b:=by
 have e:(a:Int)*4294967296=((a * 4294967296:Nat):Int):=by omega
 rw[e,u64_or_nat _ _ (by omega) (by omega)];have:a * 4294967296 ||| b=a * 4294967296+b:=by
  have:=An (i:=32) (a:=a) (b:=b) (by omega);rw[zE] at this;exact this.symm
 rw[this];omega
def ZN {a b:Int} {t:Bool} (h:a=b):Ending.returned (.tuple #[.int .u64 a,.bool t])=.returned (.tuple #[.int .u64 b,.bool t]):=by rw[h]
def Oq (h:bT w v x) (d:(bY B x).length<1099511627776) (b:18446744073709551616<=x) :
 Calls prog 23 #[v] w λe w'=>e=.returned (.tuple #[.int .u64 0,.bool false])/\Below w.heap.size w w':=by
 obtain⟨a,n,cap,rfl,h⟩:=h.out;have c:=h.len;have f:2<n:=by
  rcases j' 2 n with h1|h1
  ·exact h1
  have:=(cZ bE).1 (show(bY B x).length<=2 by omega);unfold B at this;omega
 rw[<-c] at d;clear h c b;go_enter func23,ntmps23;go_wp2;go_ret2;exact⟨rfl,ah _⟩
def FP (h:bT w v x) (q:x<18446744073709551616) :
 Calls prog 23 #[v] w λe w'=>e=.returned (.tuple #[.int .u64 x,.bool true])/\Below w.heap.size w w':=by
 obtain⟨a,n,cap,rfl,h⟩:=h.out;have l:=h.len;have:n<=2:=by
  rw[l];exact(cZ bE).2 (by unfold B;omega)
 have f:=λ(W:World) (E:Below w.heap.size w W)=>sw (h.mono E) 1;have g:=λ(W:World) (E:Below w.heap.size w W)=>sw (h.mono E) 0;have c:oJ B x 1*B+oJ B x 0=x:=by unfold oJ B;omega
 have k:=xI bE x 1;have i:=xI bE x 0;generalize oJ B x 1=d1 at f c k;generalize oJ B x 0=d0 at g c i;unfold B at c k i;have p:=aa c;have m:=aa f;have o:=aa g;clear h l q c f g;go_enter func23,ntmps23;go_wp2_with fail;have j:(w.alloc (.cells #[.slice a n cap] 44)).cell? ⟨w.heap.size,0,none⟩=some (.slice a n cap):=by go_simp
 refine aC (Array.replicate 8 true) 8 0 mixed ?_;have:=Gr.cell (ag (w.alloc (.cells #[.slice a n cap] 44))) j;refine ay [0,3] 6 ?_
 repeat (refine aA rfl ?_;go_big_quiet_step (rfl))
 refine az ?_;refine aI 1 ?_;go_wp2_with fail;refine(m.out _ (af (ah _) (ag _))).mono ?_;rintro e r⟨rfl,b⟩;go_wp2_with fail;refine aF b ?_;refine ay [2] 4 ?_
 repeat (refine aA rfl ?_;go_big_quiet_step (rfl))
 refine az ?_;refine aI 4 ?_;go_wp2_with fail;refine(o.out _ (af (af (ah _) (ag _)) b)).mono ?_;rintro e t⟨rfl,d⟩;go_wp2_with fail;refine aF d ?_;refine ay [5,6,7] 0 ?_
 repeat (refine aA rfl ?_;go_big_quiet_step (rfl))
 refine az ?_;refine aJ [] ?_;refine tail_nil ?_;go_wp2;go_ret2;have c:bits BinOp.or IntKind.u64 ((d1:Int)*4294967296) d0=x:=by rw[V6 d1 d0 k i];have:=p.out;omega
 exact⟨ZN c,af (ah _) (af (ag _) (af b d))⟩
def abE (w:World) (v:Value) (xs:List Nat):Prop:=
 ∃a cap,v=.slice a xs.length cap/\∀i (f:i<xs.length),∃b off c e d,a=some ⟨b,off,none⟩/\b<w.heap.size/\w.cell? ⟨b,off+i,none⟩=some (.slice c e d)/\bT w (.agg #[.slice c e d]) xs[i]
def dU (xs:List Nat):Nat:=xs.foldl (·*·) 1
def pM (a:List Nat) (k:Nat) (h:k<a.length):dU (a.take (k+1))=dU (a.take k)*a[k]:=by
 unfold dU;rw[gE h,rm];rfl
def SK {f:List Nat} (h:abE w v f) (U:f.length<1099511627776) (Z:∀k,k<=f.length->(bY B (dU (f.take k))).length<274877906944) (hx:∀x∈f,(bY B x).length<274877906944) :
 Calls prog 49 #[v] w λe w'=>∃r,e=.returned r/\bT w' r (dU f)/\Below w.heap.size w w':=by
 obtain⟨a,cap,rfl,q⟩:=h;have P:=aa q;have HL:=aa Z;have HX:=aa hx;clear q Z hx;have V:=ah (w:=w) (.cells #[.slice none 0 0] 44);have D:(w.alloc (.cells #[.slice none 0 0] 44)).heap[w.heap.size]? = some (.cells #[.slice none 0 0] 44):=heap_alloc_new' _ _ _ rfl;go_enter func49,ntmps49;go_wp2_with fail;refine(uf 1 (by omega) _).mono ?_;rintro e d⟨r3,rfl,H,N⟩;obtain⟨o,z,n,rfl,H⟩:=H.out;have E3:=af V N;have D:=(N.block _ (by simp)).trans D;have W:(d.alloc (.cells #[.slice o z n] 44)).heap[d.heap.size]? = some (.cells #[.slice o z n] 44):=heap_alloc_new' _ _ _ rfl;have Y:=H.mono (ah (.cells #[.slice o z n] 44));have X:=ah (w:=d) (.cells #[.slice o z n] 44);have O:w.heap.size<d.heap.size:=by have:=N.size;simp at this;omega
 have Z0:=aa D;clear H N V D;go_wp2_with fail;go_loopw [9] (λi wr=>∃(j:Nat) (g:Option Addr) (l c:Nat),j<=f.length/\i=.int .i64 j/\wr.heap[d.heap.size]? = some (.cells #[.slice g l c] 44)/\bT wr (.agg #[.slice g l c]) (dU (f.take j))/\Below d.heap.size d wr)
  (λi _=>f.length-(intOf i).toNat)
 case atStart=>exact⟨0,o,z,n,gW _,rfl,W,Y,X⟩
 case round=>
  clear W Y X;obtain⟨j,g,l,c,hj,rfl,F,s,A⟩:=hrel;have S:=A.size;have R:=af E3 A;by_cases m:j<f.length
  ·obtain⟨b,off,a1,n1,c1,rfl,hb,hc,I⟩:=P.out j m;have hc:=aB R hc;have I:=I.mono R;have M:=ah (w:=wr) (.cells #[.slice a1 n1 c1] 44);have C:=(M.block _ (block_lt F)).trans F;have ae:(wr.alloc (.cells #[.slice a1 n1 c1] 44)).cell? ⟨d.heap.size,0,none⟩=some (.slice g l c):=by unfold World.cell?;rw[C];rfl
   have T:=s.mono M;have y:=I.mono M;have hM:=aa (V5 T y (by have:=HL.out j (by omega);omega) (by have:=HX.out _ (gx m);omega));have HP:=aa (pM f j m);clear s T I y;go_wp2_with fail;refine hM.out.mono ?_;rintro e p⟨r7,rfl,K,Q⟩;obtain⟨E,L,J,rfl,K⟩:=K.out;have t:=(Q.block _ (block_lt C)).trans C;have ag:p.cell? ⟨d.heap.size,0,none⟩=some (.slice g l c):=by unfold World.cell?;rw[t];rfl
   have ad:p.frozen? ⟨d.heap.size,0,none⟩=false:=by unfold World.frozen?;rw[t];rfl
   obtain⟨c9,n9⟩:=oN t (by decide) K;have z9:(p.setCell ⟨d.heap.size,0,none⟩ (.slice E L J)).heap[d.heap.size]? = some (.cells #[.slice E L J] 44):=heap_setCell_same p d.heap.size 0 _ _ _ t;have b9:Below d.heap.size d (p.setCell ⟨d.heap.size,0,none⟩ (.slice E L J)):=aj (A.trans ((af M Q).mono S)) (gw _);clear t K Q C;go_wp2;go_roundw
   case rel=>exact⟨j+1,E,L,J,by omega,rfl,z9,by rw[HP.out];exact n9,b9⟩
   case measure=>simp[intOf];omega
  obtain rfl:j=f.length:=by omega
  rw[kO] at s;have G:=(A.block _ O).trans Z0.out;have Ot:wr.cell? ⟨d.heap.size,0,none⟩=some (.slice g l c):=by unfold World.cell?;rw[F];rfl
  have ac:wr.cell? ⟨w.heap.size,0,none⟩=some (.slice none 0 0):=by unfold World.cell?;rw[G];rfl
  have ab:wr.frozen? ⟨w.heap.size,0,none⟩=false:=by unfold World.frozen?;rw[G];rfl
  obtain⟨q1,N9⟩:=oN G (by decide) s;have ZI:=aj (off:=0) (u:=.slice g l c) (b:=w.heap.size) R (gw _);clear G s F;go_wp2;exact bodyPost_ret (v:=.agg #[.slice g l c]) (by simp[results,results49,go_sem,q1]) rfl ⟨_,rfl,N9,ZI⟩
def Ou {l:List Int} (h:bG w v (bO l)) (ab:l.length<1099511627776) (m:∀d∈l,d<9223372036854775808) (hl:∀k,k<=l.length->(bY B (dU ((D7 l).take k))).length<274877906944) :
 Calls prog 42 #[v] w λe w'=>∃r,e=.returned r/\bT w' r (dU (D7 l))/\Below w.heap.size w w':=by
 obtain⟨x1,Ao,rfl,_,y⟩:=bG.nN h;have mH:=aa y;have HL:=aa hl;have Q:=aa m;clear h y hl m;have Y:=ah (w:=w) (.cells #[.slice none 0 0] 44);have D:(w.alloc (.cells #[.slice none 0 0] 44)).heap[w.heap.size]? = some (.cells #[.slice none 0 0] 44):=heap_alloc_new' _ _ _ rfl;go_enter func42,ntmps42;go_wp2_with fail;refine(uf 1 (by omega) _).mono ?_;rintro e c⟨r3,rfl,G,L⟩;obtain⟨t,z,p,rfl,G⟩:=G.out;have E3:=af Y L;have D:=(L.block _ (by simp)).trans D;have z3:(c.alloc (.cells #[.slice t z p] 44)).heap[c.heap.size]? = some (.cells #[.slice t z p] 44):=heap_alloc_new' _ _ _ rfl;have n4:=G.mono (ah (.cells #[.slice t z p] 44));have b4:=ah (w:=c) (.cells #[.slice t z p] 44);have N:w.heap.size<c.heap.size:=by have:=L.size;simp at this;omega
 have Z0:=aa D;clear G L Y D;go_wp2_with fail;go_loopw [9] (λi wr=>∃(j:Nat) (o:Option Addr) (g a:Nat),j<=l.length/\i=.int .i64 j/\wr.heap[c.heap.size]? = some (.cells #[.slice o g a] 44)/\bT wr (.agg #[.slice o g a]) (dU ((D7 l).take j))/\Below c.heap.size c wr)
  (λi _=>l.length-(intOf i).toNat)
 case atStart=>exact⟨0,t,z,p,gW _,rfl,z3,n4,b4⟩
 case round=>
  clear z3 n4 b4;obtain⟨j,o,g,a,hj,rfl,x,F,I⟩:=hrel;have W:=I.size;have E5:=af E3 I;by_cases f:j<l.length
  ·obtain⟨b,off,rfl,hb,hc⟩:=mH.out j f;have hc:=aB E5 hc;have P:=Q.out _ (gx f);have M:=aa (pM (D7 l) j (by simpa using f));have A:(D7 l)[j]'(by simpa using f)=l[j].toNat:=by simp[D7]
   rw[A] at M;clear A;generalize l[j]=d at *;obtain⟨n,U⟩:=ae d.toNat;rw[<-U] at M;have ad:max d 0=(n:Int):=by omega
   have am:IntKind.u64.wrap (n:Int)=(n:Int):=by rw[pt];omega
   have O:n<18446744073709551616:=by omega
   have hO:=aa (uf n O);have Ot:wr.cell? ⟨c.heap.size,0,none⟩=some (.slice o g a):=by unfold World.cell?;rw[x];rfl
   have T0:=AO wr;have S:=aa (HL.out j hj);have T:=aa (show(bY B n).length<=2 from (cZ bE).2 (by unfold B;omega));have nR:=aa U;clear U P;go_wp2_with fail;refine aC #[true,true,true,true,true,true,false] 6 1 mixed ?_;have SE:=af T0 (ag _);have R:=Gr.cell SE Ot;refine ay [0,1,2,3] 2 ?_
   iterate 4 (refine aA rfl ?_;go_big_quiet_step (rfl))
   refine az ?_;clear R;refine aI 4 ?_;go_wp2_with fail;refine(hO.out _).mono ?_;rintro e al⟨r1,rfl,p1,SF⟩;go_wp2_with fail;refine aF SF ?_;have Z:=af SE SF;refine aI 5 ?_;go_wp2_with fail;refine(V5 (F.mono Z) p1 (by have:=S.out;omega) (by have:=T.out;omega)).mono ?_;rintro e q⟨r7,rfl,K,X⟩;obtain⟨E,J,H,rfl,K⟩:=K.out;go_wp2_with fail;refine aF X ?_;have V:=af Z X;have s:=(V.block _ (block_lt x)).trans x;have ai:q.frozen? ⟨c.heap.size,0,none⟩=false:=by unfold World.frozen?;rw[s];rfl
   obtain⟨c9,n9⟩:=oN s (by decide) K;have z9:(q.setCell ⟨c.heap.size,0,none⟩ (.slice E J H)).heap[c.heap.size]? = some (.cells #[.slice E J H] 44):=heap_setCell_same q c.heap.size 0 _ _ _ s;have b9:Below c.heap.size c (q.setCell ⟨c.heap.size,0,none⟩ (.slice E J H)):=aj (I.trans (V.mono W)) (gw _);have an:q.cell? ⟨c.heap.size,0,none⟩=some (.slice o g a):=by unfold World.cell?;rw[s];rfl
   clear s K V;refine aJ [6] ?_;refine tail_cons rfl ?_;go_wp2_with fail;refine tail_nil ?_;go_wp2;go_roundw
   case rel=>exact⟨j+1,E,J,H,by omega,rfl,z9,by rw[M.out];exact n9,b9⟩
   case measure=>simp[intOf];omega
  obtain rfl:j=l.length:=by omega
  rw[ie (by simp)] at F;have C:=(I.block _ N).trans Z0.out;have Ot:wr.cell? ⟨c.heap.size,0,none⟩=some (.slice o g a):=by unfold World.cell?;rw[x];rfl
  have ak:wr.cell? ⟨w.heap.size,0,none⟩=some (.slice none 0 0):=by unfold World.cell?;rw[C];rfl
  have ac:wr.frozen? ⟨w.heap.size,0,none⟩=false:=by unfold World.frozen?;rw[C];rfl
  obtain⟨q1,N9⟩:=oN C (by decide) F;have ZI:=aj (off:=0) (u:=.slice o g a) (b:=w.heap.size) E5 (gw _);clear C F x;go_wp2;exact bodyPost_ret (v:=.agg #[.slice o g a]) (by simp[results,results42,go_sem,q1]) rfl ⟨_,rfl,N9,ZI⟩
end Go.Proofs.YtmnimbnojdndmaaGreatDoor
namespace Go.Proofs.YtmnimbnojdndmaaGreatDoor
open Go.RowKit Go.Cd
variable {K:Nat->Nat} {l:List Nat} {j:Nat}
def d_.sp (x:d_):Nat×List Nat:=(x.1,x.2.2)
def cB.sp (r:cB):bS:=(r.1,r.2.2.map d_.sp)
structure gD (K:Nat->Nat) (l:List Nat) (j:Nat) (c:cB):Prop where
 rise:c.2.2.Pairwise λa b=>a.1<b.1
 small:∀x∈c.2.2,x.1<1000000
 last:∀x,c.2.2.getLast? = some x->∃(i:Nat) (hi:i<l.length),j=i+1/\x.1=K l[i]
 len:c.2.2.length<=j
 marks:∀x∈c.2.2,x.2.2.length<=j
def gD.le {c:cB} (h:gD K l j c):∀x∈c.2.2,∀z,c.2.2.getLast? = some z->x.1<=z.1:=by
 intro x a z b;have d:c.2.2≠[]:=λe=>by rw[e] at a;cases a
 obtain⟨q,y,e⟩:∃q y,c.2.2=q++[y]:=⟨c.2.2.dropLast,c.2.2.getLast d,(qq d).symm⟩;have f:=h.rise;rw[e] at a b f;rw[l4] at b;cases b;rcases gR.1 a with a|a
 ·exact nu ((lk.1 f).2.2 x a z (by simp))
 rw[gC.1 a];exact gw _
def gD.find {c:cB} (h:gD K l j c) (s:dJ K l) (F:j<l.length) (h0:K l[j]≠0) {k:Nat} {b:Bool} (hf:abr (c.2.2.map λx=>(x.1,x.2.1)) (K l[j]) k b) :
 (b=false/\k=c.2.2.length/\∀x∈c.2.2,x.1<K l[j])\/(b=true/\∃q y,c.2.2=q++[y]/\y.1=K l[j]/\k=q.length):=by
 obtain⟨t,w,r,p⟩:=hf;rw[ia] at t;simp only[ia,nf] at w r p;by_cases g:c.2.2=[]
 ·left;have I:k=0:=by rw[g] at t;simpa using t
  refine⟨?_,by rw[g];simpa using I,by rw[g];simp⟩;cases b with
  | false=>rfl
  | true=>
    obtain⟨a,_⟩:=p.1 rfl;rw[g] at a;simp at a
 obtain⟨q,y,e⟩:∃q y,c.2.2=q++[y]:=⟨c.2.2.dropLast,c.2.2.getLast g,(qq g).symm⟩;have o:c.2.2.getLast? = some y:=by rw[e,l4]
 obtain⟨i,J,u,G⟩:=h.last y o;subst u;have D:y.1<=K l[i+1]:=by
  rcases KN s F with a|a
  ·exact absurd a h0
  rw[G];exact a
 have A:c.2.2.length=q.length+1:=by rw[e];simp
 have f:∀(C:q.length<c.2.2.length),c.2.2[q.length]=y:=λC=>by simp[e]
 by_cases n:y.1=K l[i+1]
 ·right;have B:k<=q.length:=by
   rcases j' q.length k with a|a
   ·have:=w q.length (by omega) a;rw[f] at this;omega
   exact a
  have m:k=q.length:=by
   rcases j' k q.length with a|a
   ·exfalso;have E:=r k (by omega) (gw _);have z:=(re.1 h.rise) k q.length (by omega) (by omega) a;rw[f] at z;omega
   omega
  refine⟨p.2 ⟨by omega,?_⟩,q,y,e,n,m⟩;subst m;rw[f];exact n
 left;have d:∀x∈c.2.2,x.1<K l[i+1]:=λx H=>by
  have:=h.le x H y o;omega
 have v:k=c.2.2.length:=by
  rcases j' k c.2.2.length with a|a
  ·have E:=r k a (gw _);have z:=d _ (gx a);omega
  omega
 refine⟨?_,v,d⟩;cases b with
 | false=>rfl
 | true=>
   obtain⟨a,_⟩:=p.1 rfl;omega
def gD.nil (K:Nat->Nat) (l:List Nat) (j h:Nat) (v:Value):gD K l j (h,v,[]):=⟨List.Pairwise.nil,by simp,by simp,by simp,by simp⟩
def gD.new {c:cB} (h:gD K l j c) (f:j<l.length) (k:K l[j]<1000000) (e:∀x∈c.2.2,x.1<K l[j]) (v v':Value) (m:Nat):gD K l (j+1) (c.1,v,c.2.2++[(K l[j],v',[m])]):=by
 refine⟨lk.2 ⟨h.rise,by simp,λa g b i=>?_⟩,λx d=>?_,λx d=>?_,by have:=h.len;simp;omega,λx d=>?_⟩
 ·rw[gC.1 i];exact e a g
 ·rcases gR.1 d with d|d
  ·exact h.small x d
  rw[gC.1 d];exact k
 ·rw[l4] at d;cases d;exact⟨j,f,rfl,rfl⟩
 rcases gR.1 d with d|d
 ·exact rk (h.marks x d)
 rw[gC.1 d];simp
def gD.more {hd:Nat} {v:Value} {q:List d_} {y:d_} (h:gD K l j (hd,v,q++[y])) (e:j<l.length) (f:y.1=K l[j]) (v':Value) (m:Nat):gD K l (j+1) (hd,v,q++[(y.1,v',y.2.2++[m])]):=by
 have d:=lk.1 h.rise;refine⟨lk.2 ⟨d.1,by simp,λa g b i=>?_⟩,λx c=>?_,λx c=>?_,by have:=h.len;simp at this⊢;omega,λx c=>?_⟩
 ·rw[gC.1 i];exact d.2.2 a g y (by simp)
 ·rcases gR.1 c with c|c
  ·exact h.small x (by simp[c])
  rw[gC.1 c];exact h.small y (by simp)
 ·rw[l4] at c;cases c;exact⟨j,e,rfl,f⟩
 rcases gR.1 c with c|c
 ·exact rk (h.marks x (by simp[c]))
 rw[gC.1 c];have:=h.marks y (by simp);simp;omega
section
open Go.RowKit Go.Cd
def Lg (bs:List Nat):D7 (bs.map λb:Nat=>(b:Int))=bs:=by
 unfold D7;rw[mB];exact(mw λ_ _=>rfl).trans (tj _)
def Lh {a:List Nat} (h:∀x∈a,x<B):∀k,k<=a.length->dU (a.take k)<B ^ k\/k=0/\dU (a.take k)=1:=by
 intro k
 induction k with
 | zero=>intro _;exact .inr ⟨rfl,by simp[dU]⟩
 | succ k ih=>
   intro d;left;rw[pM a k (by omega),me];have c:=h _ (gx (show k<a.length by omega));rcases ih (by omega) with b|⟨h0,b⟩
   ·exact Nat.mul_lt_mul'' b c
   subst h0;rw[b];simpa using c
def Ci {a:List Nat} (h:∀x∈a,x<B) (k:Nat) (c:k<=a.length):(bY B (dU (a.take k))).length<=k+1:=by
 rw[cZ bE];rcases Lh h k c with b|⟨h0,b⟩
 ·exact j9 b (kf (by decide) (by omega))
 subst h0;rw[b];unfold B;decide
def V8 (r:cB):Nat:=dU (gT r.2.2)
def gF (Rs:List cB):Nat:=(Rs.map V8).sum
def yC {Rs:List cB} {j:Nat} (a:j<Rs.length):gF (Rs.take (j+1))=gF (Rs.take j)+V8 Rs[j]:=by
 unfold gF;rw[gE a,js,sg];simp
def Cj (Rs:List cB):Prop:=Rs.length<10000/\∀r∈Rs,r.2.2.length<10000/\∀x∈r.2.2,x.2.2.length<10000
def uS {r:cB} (h:∀x∈r.2.2,x.2.2.length<10000):∀b∈gT r.2.2,b<B:=λb c=>by
 obtain⟨x,a,rfl⟩:=jx.1 c;have:=h x a;unfold B;omega
def ZP {r:cB} (c:r.2.2.length<10000) (h:∀x∈r.2.2,x.2.2.length<10000) {n:Nat} (b:10001<=n):V8 r<B ^ n:=by
 have a:=Ci (uS h) (gT r.2.2).length (gw _);rw[kO,cZ bE,BZ] at a;exact j9 a (kf (by decide) (by omega))
def Ib {Rs:List cB} (h:Cj Rs) {j:Nat} (b:j<=Rs.length):(bY B (gF (Rs.take j))).length<=20002:=by
 obtain⟨k,d⟩:=ae 20002;rw[<-d,cZ bE];obtain⟨n,e⟩:=ae 10001;have key:∀j,j<=Rs.length->gF (Rs.take j)<=j*B ^ n:=λj=>by
  induction j with
  | zero=>intro _;simp[gF]
  | succ j ih=>
    intro b;rw[yC (by omega),l3,su];have a:=h.2 _ (gx (show j<Rs.length by omega));exact Nat.add_le_add (ih (by omega)) (nu (ZP a.1 a.2 (by omega)))
 have a:=key j b;have c:j*B ^ n<B*B ^ n:=vd (by have:=h.1;unfold B;omega) (th (by decide));rw[<-yi] at c;exact j9 (lf a c) (kf (by decide) (by omega))
structure D8 (w:World) (B N p:Nat) (dv rs iT:Value) (small:Bool) (Rs:List cB):Prop where
 is:Is w p #[dv,rs,iT,.bool small] 84
 runs:w.ownsRow B eX 6 rs Rs.length (Rs.flatMap lV)
 Ae:∀r∈Rs,wM w N r
 low:B<=p
 hi:p<N/\N<=w.heap.size
section
variable {w w' : World} {B N p : Nat} {dv rs iT : Value} {small : Bool} {Rs : List cB}
def D8.ext (h:D8 w B N p dv rs iT small Rs) (a:Below w.heap.size w w'):D8 w' B N p dv rs iT small Rs:=
 ⟨h.is.mono a,aH h.runs a,λr b=>(h.Ae r b).keep (.of_below (a.mono h.hi.2) a.size) (.of_below (a.mono h.hi.2) a.size),h.low,h.hi.1,gS h.hi.2 a.size⟩
def D8.put (h:D8 w B N p dv rs iT small Rs) (o:Nat) (u:Value) {acT:Value} {Ov:Bool} (a:(#[dv,rs,iT,.bool small]:Array Value).setIfInBounds o u=#[dv,rs,acT,.bool Ov]):D8 (w.setCell ⟨p,o,none⟩ u) B N p dv rs acT Ov Rs:=by
 have c:=bJ.put (o:=o) h.is u;exact⟨a▸h.is.set o u,c.own h.runs (by decide),λr b=>(h.Ae r b).keep (.fV c (by decide) N h.hi.2) (.fV c (by decide) N h.hi.2),h.low,h.hi.1,by simpa using h.hi.2⟩
end
def Jb.made {w:World} {B p:Nat} {d b:Value} {Rs:List cB} {c:cB} {F G:Nat} (h:Jb w B p d b Rs c F G):D8 w B w.heap.size p d b (.slice none 0 0) false (Rs++[c]):=by
 refine⟨h.is,by rw[d'];exact h.runs,λr a=>?_,h.low,h.is.lt,gw _⟩;rcases gR.1 a with a|a
 ·exact(h.Ae r a).le (gS h.cur.fg h.cur.gs)
 rw[gC.1 a];exact h.cur.Ae
def V9 {n c k:Nat} {Ls:List (Nat×List Nat)} (h:Ls.length<=k) (d:∀x∈Ls,x.2.length<=k):(sQ n c Ls).length<=k+1/\∀x∈sQ n c Ls,x.2.length<=k+1:=by
 have b:(Ls++[(n,[c])]).length<=k+1/\∀x∈Ls++[(n,[c])],x.2.length<=k+1:=by
  refine⟨by simp;omega,λx a=>?_⟩;rcases gR.1 a with a|a
  ·have:=d x a;omega
  rw[gC.1 a];simp
 rcases oX Ls with e|⟨q,y,e⟩
 ·subst e;rw[abj (by simp)];exact b
 have f:Ls=q++[y]:=by simpa using e
 by_cases g:y.1=n
 ·subst f;rw[show y=(y.1,y.2) from rfl,yh g];refine⟨by simpa using rk h,λx a=>?_⟩;rcases gR.1 a with a|a
  ·have:=d x (by simp[a]);omega
  rw[gC.1 a];have:=d y (by simp);simp;omega
 rw[abj (λx a=>by rw[f,l4] at a;injection a with a;rw[<-a];exact g)];exact b
def SN (k:Nat) (rs:List bS):Prop:=rs≠[]/\rs.length<=k+1/\∀r∈rs,r.2.length<=k/\∀x∈r.2,x.2.length<=k
def V_ {K:Nat->Nat} {b:List bS} {c k:Nat} (h:SN k b):SN (k+1) (BU K b c):=by
 obtain⟨h0,j,d⟩:=h;by_cases g:K c=0
 ·rw[BV g];refine⟨by simp,by simp;omega,λr a=>?_⟩;rcases gR.1 a with a|a
  ·exact⟨rk (d r a).1,λx f=>rk ((d r a).2 x f)⟩
  rw[gC.1 a];exact⟨gW _,by simp⟩
 rcases oX b with e|⟨q,y,e⟩
 ·exact absurd e h0
 have i:b=q++[y]:=by simpa using e
 subst i;rw[yj g];refine⟨by simp,by simp at j⊢;omega,λr a=>?_⟩;rcases gR.1 a with a|a
 ·have:=d r (by simp[a]);exact⟨rk this.1,λx f=>rk (this.2 x f)⟩
 rw[gC.1 a];have:=d y (by simp);exact V9 this.1 this.2
def fD (K:Nat->Nat) (l:List Nat):SN l.length (bq K l):=by
 have key:∀(l:List Nat) k a,SN k a->SN (k+l.length) (l.foldl (BU K) a):=λl=>by
  induction l with
  | nil=>intro k a h;exact h
  | cons c l ih=>
    intro k a h;have:=ih (k+1) _ (V_ (K:=K) (c:=c) h);rw[hU,show k+(l.length+1)=k+1+l.length by omega];exact this
 have:=key l 0 [(0,[])] ⟨by simp,by simp,λr b=>by rw[gC.1 b];exact⟨gw _,by simp⟩⟩;rw[kh] at this;exact this
def Cj.of {Rs:List cB} {k:Nat} (h:SN k (Rs.map cB.sp)) (e:k<9000):Cj Rs:=by
 obtain⟨_,a,d⟩:=h;refine⟨by rw[ia] at a;omega,λr c=>?_⟩;have:=d _ (jx.2 ⟨r,c,rfl⟩);refine⟨by have:=this.1;simp[cB.sp] at this;omega,λx b=>?_⟩;have:=this.2 _ (jx.2 ⟨x,b,rfl⟩);simp[d_.sp] at this;omega
end
section
open Go.RowKit Go.Cd
def We {α:Type} (f:α->List Value) (m:Nat) (hf:∀a,(f a).length=m):∀(l:List α) (i:Nat) (c:i<l.length) (b:α) (j:Nat) (u:Value),j<m->(f l[i]).set j u=f b->(l.flatMap f).set (i*m+j) u=(l.set i b).flatMap f
 | [],i,c,_,_,_,_,_=>absurd c (by simp)
 | a::l,0,_,b,j,u,hj,he=>by
   simp only[iR,vb,kh,rN];rw[x6 _ _ (by rw[hf];exact hj)];rw[show(f a).set j u=f b from he]
 | a::l,i+1,c,b,j,u,hj,he=>by
   simp only[iR,vh];rw[k_ (h:=by rw[hf,l3];omega),hf,show(i+1)*m+j-m=i*m+j by rw[l3];omega];rw[We f m hf l i (by simpa using c) b j u hj (by simpa using he)]
def jE.iQ {w w':World} {t:TypeId} {v:Value} {bs:List Nat} (h:jE w v bs) (o:bJ w w' t) (g:bB≠t):jE w' v bs:=by
 obtain⟨s1,s2,j,n,p⟩:=h;have key:∀{s:Value} {e:List Value},Sl bB w s e->Sl bB w' s e:=by
  rintro s e⟨a,cap,j,d,i⟩;refine⟨a,cap,j,d,i.imp id ?_⟩;rintro⟨b,off,cs,k,m,f,i⟩;refine⟨b,off,cs,k,m,(o.keep b (block_lt f) ?_).trans f,i⟩;rintro⟨l,c⟩;rw[f] at c;injection c with c;injection c with _ c _;exact g c
 exact⟨s1,s2,j,key n,key p⟩
def Li (bs:List Nat):aW bs=dU bs:=by
 have key:∀(bs:List Nat) a,bs.foldl (·*·) a=a * aW bs:=λbs=>by
  induction bs with
  | nil=>intro a;simp[aW]
  | cons b bs ih=>intro a;rw[ox,ih,aW,qS]
 unfold dU;rw[key,su]
abbrev qx:=cB×(Value×Value×Int)×Int
def nC (x:qx):List Value:=[.int .i32 x.1.1,x.1.2.1,x.2.1.1,x.2.1.2.1,.int .i64 x.2.1.2.2,.int .i64 x.2.2]
def yD (x:qx):(nC x).length=6:=rfl
def Wh (x:qx):Value:=.agg #[x.2.1.1,x.2.1.2.1,.int .i64 x.2.1.2.2]
def Ic (r:cB):qx:=(r,(.slice none 0 0,.slice none 0 0,0),0)
def Lj (Rs:List cB):(Rs.map Ic).flatMap nC=Rs.flatMap lV:=by rw[sS];rfl
def FQ (v:Value):Prop:=∃a n c,v=.slice a n c
def FQ.mk {a:Option Addr} {n c:Nat}:FQ (.slice a n c):=⟨_,_,_,rfl⟩
structure kg (w:World) (B N p:Nat) (dv rs iT:Value) (small:Bool) (Es:List qx) (i:Nat):Prop where
 is:Is w p #[dv,rs,iT,.bool small] 84
 runs:w.ownsRow B eX 6 rs Es.length (Es.flatMap nC)
 Ae:∀e∈Es,wM w N e.1
 low:B<=p
 hi:p<N/\N<=w.heap.size
 shp:∀e∈Es,FQ e.2.1.1/\FQ e.2.1.2.1
 ZQ:∀k (hk:k<Es.length),k<i->jE w (Wh Es[k]) (gT Es[k].1.2.2)/\Es[k].2.2=(gF ((Es.map (·.1)).take k):Nat)
section
variable {w w' : World} {B N p : Nat} {dv rs iT : Value} {small : Bool} {Es : List qx} {i : Nat}
variable {g n c:Nat} {A D:List qx}
def kg.of {Rs:List cB} (h:D8 w B N p dv rs iT small Rs):kg w B N p dv rs iT small (Rs.map Ic) 0:=
 ⟨h.is,by rw[Lj,ia];exact h.runs,λe a=>by obtain⟨r,b,rfl⟩:=jx.1 a;exact h.Ae r b,h.low,h.hi,λe a=>by obtain⟨r,_,rfl⟩:=jx.1 a;exact⟨FQ.mk,FQ.mk⟩,λ_ _ h=>absurd h (by simp)⟩
def kg.ext (h:kg w B N p dv rs iT small Es i) (a:Below w.heap.size w w'):kg w' B N p dv rs iT small Es i:=
 ⟨h.is.mono a,aH h.runs a,λr d=>(h.Ae r d).keep (.of_below (a.mono h.hi.2) a.size) (.of_below (a.mono h.hi.2) a.size),h.low,⟨h.hi.1,gS h.hi.2 a.size⟩,h.shp,λk c b=>⟨(h.ZQ k c b).1.mono a,(h.ZQ k c b).2⟩⟩
def kg.store (h:kg w B N p dv (.slice (some ⟨g,0,none⟩) n c) iT small Es i) (r:i<Es.length) (b:qx) (j:Nat) (u:Value) (x:j<6) (A:(nC Es[i]).set j u=nC b) (v:b.1=Es[i].1) (q:FQ b.2.1.1/\FQ b.2.1.2.1) :
 kg (w.setCell ⟨g,i*6+j,none⟩ u) B N p dv (.slice (some ⟨g,0,none⟩) n c) iT small (Es.set i b) i:=by
 obtain⟨cs,t⟩:=bV h.runs (k:=g) rfl;have l:=bJ.put (o:=i*6+j) (⟨t⟩:Is w g cs eX) u;have f:(Es.set i b).map (·.1)=Es.map (·.1):=by
  rw[tt,v];have:Es[i].1=(Es.map (·.1))[i]'(by simpa using r):=by simp
  rw[this,List.set_getElem_self]
 refine⟨l.is h.is (by decide),?_,λe d=>?_,h.low,⟨h.hi.1,by simpa using h.hi.2⟩,λe d=>?_,λk s m=>?_⟩
 ·have y:n=Es.length:=by
   obtain⟨_,_,e,_⟩:=ak h.runs;injection e with _ e _
  subst y;have:=h.runs.stored (i*6+j) u;rw[We nC 6 yD Es i r b j u x A] at this;rw[mN];exact this.1
 ·have:wM w N e.1:=by
   rcases rh d with a|a
   ·exact h.Ae e a
   rw[a,v];exact h.Ae _ (gx r)
  exact this.keep (.fV l (by decide) N h.hi.2) (.fV l (by decide) N h.hi.2)
 ·rcases rh d with a|a
  ·exact h.shp e a
  rw[a];exact q
 rw[mN] at s;have a:=h.ZQ k s m;rw[f];have z:(Es.set i b)[k]'(by rw[mN];exact s)=Es[k]:=yd (by omega) _;rw[z];exact⟨a.1.iQ l (by decide),a.2⟩
def kg.more (h:kg w B N p dv rs iT small Es i) (e:i<Es.length) (b:jE w (Wh Es[i]) (gT Es[i].1.2.2)) (d:Es[i].2.2=(gF ((Es.map (·.1)).take i):Nat)):kg w B N p dv rs iT small Es (i+1):=
 ⟨h.is,h.runs,h.Ae,h.low,h.hi,h.shp,λk c a=>by
   rcases Nat.lt_succ_iff_lt_or_eq.1 a with h3|rfl
   ·exact h.ZQ k c h3
   exact⟨b,d⟩⟩
def kg.Ie {x:qx} (h:kg w B N p dv (.slice (some ⟨g,0,none⟩) n c) iT small (A++x::D) i) (l:A.length=i) (a:qx) (j:Nat) (u:Value) (e:j<6) (m:(nC x).set j u=nC a) (f:a.1=x.1) (b:FQ a.2.1.1/\FQ a.2.1.2.1) {o:Nat} (k:o=i*6+j) :
 kg (w.setCell ⟨g,o,none⟩ u) B N p dv (.slice (some ⟨g,0,none⟩) n c) iT small (A++a::D) i:=by
 subst k;subst l;have d:(A++x::D)[A.length]'(by simp)=x:=by simp
 have:=h.store (by simp) a j u e (by rw[d];exact m) (by rw[d];exact f) b;rw[k_ (h:=gw _),m_,rN] at this;exact this
def kg.cells (h:kg w B N p dv (.slice (some ⟨g,0,none⟩) n c) iT small Es i) {k:Nat} (b:k<Es.length) :
 ∀j<6,w.cell? ⟨g,k*6+j,none⟩=(nC Es[k])[j]?/\w.frozen? ⟨g,k*6+j,none⟩=false:=by
 obtain⟨d,l,e,_,_,_,a⟩:=dC (f:=nC) yD rfl h.runs b;injection e with e _ _;injection e with e;injection e with e;subst e;exact a
def kg.yE {x:qx} (h:kg w B N p dv (.slice (some ⟨g,0,none⟩) n c) iT small (A++x::D) i) (b:A.length=i) :
 ∀j<6,w.cell? ⟨g,i*6+j,none⟩=(nC x)[j]?/\w.frozen? ⟨g,i*6+j,none⟩=false:=by
 subst b;have a:(A++x::D)[A.length]'(by simp)=x:=by simp
 have:=h.cells (k:=A.length) (by simp);rw[a] at this;exact this
def kg.af0 {x:qx} (h:kg w B N p dv rs iT small (A++x::D) i) (c:A.length=i) (d:jE w (Wh x) (gT x.1.2.2)) (b:x.2.2=(gF (A.map (·.1)):Nat)):kg w B N p dv rs iT small (A++x::D) (i+1):=by
 subst c;have a:(A++x::D)[A.length]'(by simp)=x:=by simp
 refine h.more (by simp) (by rw[a];exact d) ?_;rw[a,js,List.take_append_of_le_length (by simp),ie (by simp)];exact b
end
end
end Go.Proofs.YtmnimbnojdndmaaGreatDoor
