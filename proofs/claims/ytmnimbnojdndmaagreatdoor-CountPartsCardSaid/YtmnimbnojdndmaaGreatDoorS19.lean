/- State by state it is added up what is possible; no condition. -/
import Derived.Test.YtmnimbnojdndmaaGreatDoorS18
import Derived.Laws.BitsAllLaws
set_option maxRecDepth 100000
set_option maxHeartbeats 6400000
set_option linter.all false
namespace Go.Proofs.YtmnimbnojdndmaaGreatDoor
open Go.RowKit Go.Cd _root_.Go.Proofs.Tryz
def V3 {w:World} {v u:Value} {l m:List Nat} (h:Sl nI w v (cu l)) (k:Sl nI w u (cu m)) (y:l.length<1099511627776) :
 Calls prog 51 #[v,u] w λe w'=>e=.returned (.bool (decide (l=m)))/\Below w.heap.size w w':=by
 obtain⟨a,cap,rfl,U,M⟩:=h.out;obtain⟨W,N,rfl,G,r⟩:=k.out;simp only[dG] at *;clear h k;by_cases f:l.length=m.length
 ·have g:∀i (H:i<l.length) (V:i<m.length),∃b off B A,a=some ⟨b,off,none⟩/\W=some ⟨B,A,none⟩/\w.cell? ⟨b,off+i,none⟩=some (.int .u32 (l[i]:Nat))/\w.cell? ⟨B,A+i,none⟩=some (.int .u32 (m[i]:Nat)):=λi H V=>by
   obtain⟨b,off,P,_,q⟩:=M i H;obtain⟨B,A,I,_,C⟩:=r i (by omega);rw[gP _ _ H] at q;rw[gP _ _ (by omega)] at C;exact⟨b,off,B,A,P,I,q,C⟩
  have F:=aa g;have c:=aa f;obtain⟨n,E⟩:=ae l.length;have j:=aa E;rw[<-f,<-E];rw[<-E] at y;clear g M r f E U G;go_enter func51,ntmps51;go_wp2_with fail;go_loopw [13] (λi wr=>∃k:Nat,k<=n/\i=.int .i64 k/\l.take k=m.take k/\Below w.heap.size w wr) (λi _=>n-(intOf i).toNat)
  case atStart=>exact⟨0,by omega,rfl,rfl,gS _ _⟩
  case round=>
   obtain⟨k,X,rfl,t,x⟩:=hrel;have K:=aa t;clear t;by_cases S:k<n
   ·obtain⟨b,off,B,A,rfl,rfl,q,C⟩:=F.out k (by have:=j.out;omega) (by have:=j.out;have:=c.out;omega);obtain⟨d,hd⟩:∃d,d=l[k]'(by have:=j.out;omega):=⟨_,rfl⟩;obtain⟨J,o⟩:∃d,d=m[k]'(by have:=j.out;have:=c.out;omega):=⟨_,rfl⟩;rw[<-hd] at q;rw[<-o] at C;have L:=aa hd;have z:=aa o;have Q:=Gr.cell (af x (ag wr)) q;have T:=Gr.cell (af x (ag wr)) C;clear hd o;go_wp2_with fail;refine aC (Array.replicate 9 true) 9 0 mixed ?_;refine ay [0,1,2,3,4,5,6,7,8] 0 ?_
    repeat (refine aA rfl ?_;go_big_quiet_step (rfl))
    refine az ?_;refine aJ [] ?_;refine tail_nil ?_;by_cases D:d=J
    ·subst D;go_wp2;go_roundw
     case rel=>
      refine⟨k+1,by omega,rfl,?_,af x (ag wr)⟩;rw[gR (by have:=j.out;omega),gR (by have:=j.out;have:=c.out;omega),K.out,<-L.out,<-z.out]
     case measure=>simp[intOf];omega
    have O:((d:Int)==J)=false:=by simp;omega
    have p:¬l=m:=λe=>D (by rw[L.out,z.out];subst e;rfl);have s:=aa (decide_eq_false p);go_wp2;go_ret;exact⟨dV s.out.symm,af x (ag wr)⟩
   obtain rfl:k=n:=by omega
   have R:l=m:=by
    have:=K.out;rw[iu (by rw[j.out];exact d' _),iu (by rw[j.out,c.out];exact d' _)] at this;exact this
   have s:=aa (decide_eq_true R);go_wp2;go_ret;exact⟨dV s.out.symm,x⟩
 have p:¬l=m:=λe=>f (by rw[e]);have s:=aa (decide_eq_false p);rw[s.out];have O:((l.length:Int)==m.length)=false:=by simp;omega
 go_enter func51,ntmps51;go_wp2;go_ret;exact⟨rfl,gS _ _⟩
def bT.sl {w:World} {s:Value} {x:Nat} (h:bT w (.agg #[s]) x):Sl nI w s (cu (bY B x)):=by
 obtain⟨b,a,h⟩:=h;simp at a;rw[a];exact h
def H9 {w:World} {v u:Value} {x y:Nat} (h:bT w v x) (k:bT w u y) (f:(bY B x).length<1099511627776) :
 Calls prog 17 #[v,u] w λe w'=>e=.returned (.bool (decide (x=y)))/\Below w.heap.size w w':=by
 obtain⟨a,n,cap,rfl,h⟩:=h.out;obtain⟨j,l,c,rfl,k⟩:=k.out;have b:=λ(W:World) (E:Below w.heap.size w W)=>V3 ((bT.sl h).mono E) ((bT.sl k).mono E) f;have hd:decide (bY B x=bY B y)=decide (x=y):=by
  rw[decide_eq_decide];exact⟨λe=>UD bE e,λe=>by rw[e]⟩
 rw[hd] at b;have d:=aa b;clear b hd h k;go_enter func17,ntmps17;go_wp2_with fail;refine(d.out _ (dH _ _)).mono ?_;rintro e i⟨rfl,g⟩;go_wp2;go_ret;exact⟨rfl,af (dH _ _) g⟩
end Go.Proofs.YtmnimbnojdndmaaGreatDoor
namespace Go.Cd
open Go.RowKit
def iw (z:Value) (k:Nat):Builtin.zeroCells #[z] k=(List.replicate k z).toArray:=by
 apply Array.ext
 ·simp[Builtin.zeroCells]
 intro i b a;simp[Builtin.zeroCells];rw[Nat.mod_one];simp
def rA {P:Program} (w:World) (base:Nat) (t M N e:TypeId) (i:TypeInfo) (z:Value) (X U:IntKind) (o:Nat) (L:P.underlying t=some (.slice e)) (r:P.underlying M=some (.int U))
 (H:P.info? e=some i) (T:i.zero=some z) (d:i.size=1) (aa:i.bytes=o) (y:z.cells=#[z]) (Y:z.oneCell'=true)
 (v:Value) (n:Nat) (p:List Value) (a:w.ownsRow base e 1 v n p) (k:Nat)
 (R:n+k<=maxLen) (f:(n+k)*o<=140737488355328) (A:base<=w.heap.size) :
 ∃v' w',(Builtin.append_ #[t,M] N #[v,.int X k]).run P w=.ok v' w'/\w'.ownsRow base e 1 v' (n+k) (p++List.replicate k z)/\w.grownBy w' v.ownBlock:=by
 subst aa
 have hm:maxLen<=9223372036854775807:=by decide
 have hw:IntKind.i64.wrap (k:Int)=k:=by rw[ph];omega
 have ab:k*i.bytes<=140737488355328:=ia (m9 _ (by omega)) f;have c:(p++List.replicate k z).length=(n+k)*1:=by have:=a.1;simp at this⊢;exact this
 have q:∀(b:Nat),b<n+k->∀(row:Option Nat),
  (w.drew.alloc (.cells (p.toArray++(List.replicate k z).toArray++(List.replicate (grownCap w (n+k) b e-(n+k)) z).toArray) e)).ownsRow base e 1
    (.slice (some ⟨w.heap.size,0,none⟩) (n+k) (grownCap w (n+k) b e)) (n+k) (p++List.replicate k z)/\
  w.grownBy (w.drew.alloc (.cells (p.toArray++(List.replicate k z).toArray++(List.replicate (grownCap w (n+k) b e-(n+k)) z).toArray) e)) row:=by
  intro b ho row;have W:=grownCap_ge w (n+k) b e;have D:grownCap w (n+k) b e<=maxLen:=grownCap_le_maxLen w (n+k) b e R;have S:=a.1;refine⟨⟨c,.inr ⟨w.heap.size,_,_,rfl,A,heap_alloc_new w.drew _,W,D,?_,?_⟩⟩,⟨rfl,rfl,rfl,by simp,λj Z _=>Below.heap_alloc w.drew _ j Z⟩⟩
  ·simp at S⊢;omega
  show List.take ((n+k)*1) ((p.toArray++(List.replicate k z).toArray++(List.replicate (grownCap w (n+k) b e-(n+k)) z).toArray).toList)=_;rw[Array.toList_append,Array.toList_append,<-c];exact List.take_left
 have E:IntKind.i64.wrap 0=0:=by decide
 have G:¬((k:Int)<0):=by omega
 have I:¬(281474976710656<(k:Int)*(i.bytes:Int)):=by rw[<-xB];omega
 rcases a.2 with⟨rfl,rfl⟩|⟨g,cap,x,rfl,O,hg,Q,D,V,B⟩
 ·have S:p=[]:=tG (by simpa using a.1);subst S;by_cases h0:k=0
  ·subst h0;refine⟨.slice none 0 0,w,?_,iS w base e 1,⟨rfl,rfl,rfl,d' _,λ_ _ _=>rfl⟩⟩;simp[Builtin.append_,run_underlying L,run_underlying r,sizeOf,typeInfo,H,asInt,asIntOf,E]
  have J:=Lib.run_append_nil_zeros (P:=P) w t M N e i z X U L r H T k (by omega) (by omega) (by omega) (by omega);rw[y,iw,iw] at J;have l:=q 0 (by omega) (Value.ownBlock (.slice none 0 0));simp only[k_,lf,Array.empty_append] at l⊢;exact⟨_,_,J,l.1,l.2⟩
 by_cases s:n+k<=cap
 ·have m:=run_storeCells_at P g n e (List.replicate k z) 0 x w hg (by simp;omega) (by intro u hu;rw[(List.mem_replicate.1 hu).2];exact Y);simp only[sC] at m;refine⟨.slice (some ⟨g,0,none⟩) (n+k) cap,w.setRow g (x.toList.take n++List.replicate k z++x.toList.drop (n+(List.replicate k z).length)).toArray,?_,⟨c,.inr ⟨g,cap,_,rfl,O,setRow_heap w g x _ e _ hg,s,D,?_,?_⟩⟩,⟨rfl,rfl,rfl,by simp,λj _ Z=>setRow_other w g j _ (λe=>Z (by simp[Value.ownBlock,e]))⟩⟩
  ·by_cases h0:k=0
   ·subst h0;simp[Builtin.append_,run_underlying L,run_underlying r,sizeOf,typeInfo,H,asInt,asIntOf,E,Q,d,Addr.add_lit] at m⊢;rw[m];rfl
   simp[Builtin.append_,run_underlying L,run_underlying r,sizeOf,typeInfo,zeroValue,H,T,asInt,asIntOf,hw,s,G,I,d,h0,y,iw,Addr.add_lit];simp at m;rw[m];rfl
  ·simp;simp at V;omega
  have K:=B;simp only[qt] at K c⊢;rw[K,<-c];exact List.take_left
 have C:∀j u,p[j]? = some u->w.cell? ((⟨g,0,none⟩:Addr).add j)=some u:=a.cells (g:=g) rfl;have F:=run_firstCells_some (P:=P) w.drew i.size n ⟨g,0,none⟩ n cap p (by rw[d];exact a.1) (λj u h=>C j u h);have h0:0<k:=by omega
 have J:=Lib.run_append_grow_zeros (P:=P) w t M N e i z X U L r H T (some ⟨g,0,none⟩) n cap p F k h0 (by omega) (by omega) (by omega) (by omega) (growslice_fits (by omega) f);rw[y,iw,iw] at J;have l:=q cap (by omega) (Value.ownBlock (.slice (some ⟨g,0,none⟩) n cap));exact⟨_,_,J,l.1,l.2⟩
def sU {P:Program} {w:World} {ops:Array Oper} {rest:List Oper} {o:Oper} {a:Act} {Q:Exit->Act->World->Prop} (q:o.guard=none) (s x:Operand) (t j:TypeId)
 (G:o.op=.call { callee:=.builtin .append,args:=#[s,x],argTypes:=#[t,j] }) (p B:IntKind) (A:P.underlying j=some (.int B))
 (base:Nat) (e:TypeId) (z:Value) (b:Nat) (C:Elem P t e z b) (l:z.cells=#[z])
 (v:Value) (n:Nat) (u:List Value) (I:a.eval s=v) (g:w.ownsRow base e 1 v n u) (k:Nat) (E:a.eval x=.int p k)
 (m:n+k<=maxLen) (c:(n+k)*b<=140737488355328) (f:base<=w.heap.size)
 (h:∀v' w',w'.ownsRow base e 1 v' (n+k) (u++List.replicate k z)->w.grownBy w' v.ownBlock->wpList P ops Q rest (a.put o.dst v') w'):wpList P ops Q (o::rest) a w:=by
 obtain⟨r,L,i,H,F,d,y⟩:=C;obtain⟨v',w',K,D,J⟩:=rA (P:=P) w base t j o.type e i z p B b L A H F d y l r v n u g k m c f;exact so w q s x t j G v (.int p k) I E v' w' K (h v' w' D J)
end Go.Cd
namespace Go.Proofs.YtmnimbnojdndmaaGreatDoor
open Go.RowKit Go.Cd _root_.Go.Proofs.Tryz
variable {w:World} {v:Value} {l:List Nat}
def H_ (b:Nat):∀(l:List Nat) (j v:Nat),j<l.length->val b (l.set j v)+l[j]?.getD 0*b ^ j=val b l+v*b ^ j
 | [],_,_,h=>by simp at h
 | d::l,0,v,_=>by simp[val];omega
 | d::l,j+1,v,h=>by
   have:=H_ b l j v (by simpa using h);simp only[vf,val,tf,my];have e:∀p q:Nat,p*(q*b)=b*(p*q):=λp q=>by rw[<-qu,m_]
   rw[e,e,tA,tA,<-td,<-td,this]
def ug (b:Nat) (l:List Nat) (j:Nat) (h:j<l.length):val b (l.take (j+1))=val b (l.take j)+l[j]*b ^ j:=by
 rw[gR h,val_append];simp[val,pZ (oT h),m_]
def Sl.afX (h:Sl nI w v (cu l)):∃a cap,v=.slice a l.length cap/\l.length<=cap/\∀i (c:i<l.length),∃b off,a=some ⟨b,off,none⟩/\b<w.heap.size/\w.cell? ⟨b,off+i,none⟩=some (.int .u32 (l[i]:Nat)):=by
 obtain⟨a,cap,j,d,g⟩:=Sl.out h;refine⟨a,cap,by rw[j,dG],by rw[dG] at d;exact d,λi c=>?_⟩;obtain⟨b,off,f,k,e⟩:=g i (by rw[dG];exact c);rw[gP _ _ c] at e;exact⟨b,off,f,k,e⟩
def V4 {p q o c:Nat} (e:p<4294967296) (d:q<4294967296) (f:o<4294967296) (b:c<4294967296):p*q+o+c<18446744073709551616:=by
 have:p*q<=4294967295*4294967295:=pP (by omega) (by omega);omega
def ZM {b vs vl A PV W s1 s0 pq o cc:Nat} (e:vs+o*W=vl+s0*W) (f:vl+cc*W=A+PV) (c:b*s1+s0=pq+o+cc):vs+s1*(W*b)=A+(PV+pq*W):=by
 have d:(b*s1+s0)*W=(pq+o+cc)*W:=by rw[c]
 rw[mw,mw,mw] at d;have a:s1*(W*b)=b*s1*W:=by rw[m_ W b,<-qu,m_ s1 b]
 rw[a];omega
def getD_set_ne {i j v:Nat} (h:i≠j):(l.set i v)[j]?.getD 0=l[j]?.getD 0:=by rw[su h]
def uh {i v b:Nat} (c:∀d∈l,d<b) (a:v<b):∀d∈l.set i v,d<b:=λd hd=>by
 rcases q_ hd with h|rfl
 ·exact c d h
 exact a
def V5 {u:Value} {x y:Nat} (h:bT w v x) (k:bT w u y) (hx:(bY B x).length<274877906944) (hy:(bY B y).length<274877906944) :
 Calls prog 27 #[v,u] w λe w'=>∃r,e=.returned r/\bT w' r (x*y)/\Below w.heap.size w w':=by
 obtain⟨a,n,cap,rfl,h⟩:=h.out;obtain⟨U,P,f,rfl,k⟩:=k.out;have hb:=(ah (w:=w) (.cells #[.slice a n cap] 44)).alloc (by simp) (.cells #[.slice U P f] 44) |>.alloc (by simp;omega) (.cells #[.slice none 0 0] 44);have c1:(((w.alloc (.cells #[.slice a n cap] 44)).alloc (.cells #[.slice U P f] 44)).alloc (.cells #[.slice none 0 0] 44)).cell? ⟨w.heap.size,0,none⟩=some (.slice a n cap):=by go_simp
 have c2:(((w.alloc (.cells #[.slice a n cap] 44)).alloc (.cells #[.slice U P f] 44)).alloc (.cells #[.slice none 0 0] 44)).cell? ⟨w.heap.size+1,0,none⟩=some (.slice U P f):=by go_simp
 have c3:(((w.alloc (.cells #[.slice a n cap] 44)).alloc (.cells #[.slice U P f] 44)).alloc (.cells #[.slice none 0 0] 44)).heap[w.heap.size+1+1]? = some (.cells #[.slice none 0 0] 44):=heap_alloc_new' _ _ _ (by simp);have N1:=h.mono hb;have N2:=k.mono hb;have L1:=aa (λ(W:World) (E:Below _ _ W)=>zR (N1.mono E) (by omega));have L2:=aa (λ(W:World) (E:Below _ _ W)=>zR (N2.mono E) (by omega));have T0:=AO (((w.alloc (.cells #[.slice a n cap] 44)).alloc (.cells #[.slice U P f] 44)).alloc (.cells #[.slice none 0 0] 44));have vx:=nT bE x;have vy:=nT bE y;have lx:=Gv bE x;have ly:=Gv bE y;generalize bY B x=X at *;generalize bY B y=Y at *;have VX:=aa vx;have VY:=aa vy;have LX:=aa lx;have LY:=aa ly;have s3:(((w.alloc (.cells #[.slice a n cap] 44)).alloc (.cells #[.slice U P f] 44)).alloc (.cells #[.slice none 0 0] 44)).heap.size=w.heap.size+3:=by simp
 have HB:=aa hb;clear h k N1 N2 vx vy lx ly hb;go_enter func27,ntmps27;go_wp2_with fail;refine aC (Array.replicate 6 true) 6 0 mixed ?_;have SE:=af T0 (ag _);have N:=Gr.cell SE c1;have O:=Gr.cell SE c2;refine ay [0,2] 4 ?_
 iterate 2 (refine aA rfl ?_;go_big_quiet_step (rfl))
 refine az ?_;clear N O;refine aI 1 ?_;go_wp2_with fail;refine(L1.out _ SE).mono ?_;rintro e aK⟨r1,rfl,o1,SF⟩;go_wp2_with fail;refine aF SF ?_;have Uv:=af SE SF;refine aI 3 ?_;go_wp2_with fail;refine(L2.out _ Uv).mono ?_;rintro e D⟨r2,rfl,o2,FN⟩;go_wp2_with fail;refine aF FN ?_;have Yo:=af Uv FN;have N:=Gr.cell Yo c1;have O:=Gr.cell Yo c2;refine ay [4,5] 0 ?_
 iterate 2 (refine aA rfl ?_;go_big_quiet_step (rfl))
 refine az ?_;clear N O;refine aJ [] ?_;refine tail_nil ?_;have S1:=(Sl.aU o1).mono FN;have S2:=Sl.aU o2;have C:=Yo;obtain⟨x1,Ao,rfl,_,ae⟩:=Sl.afX S1;obtain⟨x2,aH,rfl,_,ad⟩:=Sl.afX S2;have z3:D.heap[w.heap.size+1+1]? = some (.cells #[.slice none 0 0] 44):=(C.block _ (by rw[s3];omega)).trans c3;have zs:w.heap.size+3<=D.heap.size:=by have:=C.size;rw[s3] at this;exact this
 have S:Below w.heap.size w D:=HB.out.trans (C.mono (by rw[s3];omega));have mH:=aa ae;have Jc:=aa ad;have Z3:=aa z3;clear o1 o2 S1 S2 ae ad c1 c2 c3 Yo SF FN L1 L2 T0 s3 z3 C HB;have FN:=S;go_wp2_with (at_make;refine gm _ rfl _ _ 42 rfl D.heap.size nI _ 4 Gy rfl .i64 .i64 _ _ (X.length+Y.length) rfl rfl (by omega) (by omega) (by omega) (by unfold maxLen;omega) (by simp) ?_;intro w3 ap F);have aD:=fO F;clear F
 go_loopw [26] (λi wr=>∃(j:Nat) (l:List Nat),j<=X.length/\i=.int .i64 j/\l.length=X.length+Y.length/\(∀d∈l,d<B)/\(∀t,j+Y.length<=t->l[t]?.getD 0=0)/\val B l=val B (X.take j)*y/\
  wr.ownsRow D.heap.size nI 1 (.slice (some ⟨D.heap.size,0,none⟩) (X.length+Y.length) (X.length+Y.length)) (X.length+Y.length) (cu l)/\Below D.heap.size D wr)
  (λi _=>X.length-(intOf i).toNat)
 case atStart=>
  refine⟨0,List.replicate (X.length+Y.length) 0,ic _,rfl,by simp,?_,?_,by simp[Et,val],by simpa [cu] using ap,aD⟩
  ·intro d hd;rw[(List.mem_replicate.1 hd).2];decide
  intro t _;rw[List.getElem?_replicate];split <;> rfl
 case round=>
  obtain⟨j,l,hj,rfl,hl,H,V,hv,hO,C⟩:=hrel;by_cases Og:j<X.length
  ·obtain⟨b1,aw,rfl,aG,Q⟩:=mH.out j Og;have Q:=(C.cell (p:=⟨b1,aw+j,none⟩) aG).trans Q;have hp:X[j]<B:=LX.out _ (gw _);have HV:=aa hv;have Qo:=aa H;have HZ:=aa V;generalize hP:X[j]=p at *;have av:=aa hP;clear hv H V hP;go_wp2_with fail
   go_loopw [10,33] (λc k al=>∃(cc t:Nat) (l:List Nat),t<=Y.length/\k=.int .i64 t/\c=.int .u64 cc/\cc<B/\l.length=X.length+Y.length/\(∀d∈l,d<B)/\(∀s,j+Y.length<=s->l[s]?.getD 0=0)/\
    val B l+cc*B ^ (j+t)=val B (X.take j)*y+p*B ^ j*val B (Y.take t)/\
    al.ownsRow D.heap.size nI 1 (.slice (some ⟨D.heap.size,0,none⟩) (X.length+Y.length) (X.length+Y.length)) (X.length+Y.length) (cu l)/\Below D.heap.size D al)
    (λ_ k _=>Y.length-(intOf k).toNat)
   case atStart=>
    exact⟨0,0,l,ic _,rfl,rfl,by decide,hl,Qo.out,HZ.out,by simp[val];exact HV.out,hO,C⟩
   case round=>
    clear HV Qo HZ hO C Q;obtain⟨cc,t,I,ht,rfl,rfl,G,ac,J,ab,ak,m,R⟩:=hrel;have Yg:=aa ak;have K:=aa J;have T:=aa ab;clear ak J ab;by_cases aq:t<Y.length
    ·obtain⟨b2,Lf,rfl,ax,am⟩:=Jc.out t aq;have am:=(R.cell (p:=⟨b2,Lf+t,none⟩) ax).trans am;have hq:Y[t]<B:=LY.out _ (gw _);obtain⟨g,ao⟩:=jY m (j:=j+t) (by simp;omega);rw[gP _ _ (by omega)] at g;have ho:I[j+t]<B:=K.out _ (gw _);have HS:=aa (λ(u:Value)=>(m.stored (j+t) u).1);generalize hQ:Y[t]=q at *;generalize Z:I[j+t]=o at *;have HQ:=aa hQ;have au:=aa Z;have hs:=V4 (p:=p) (q:=q) (o:=o) (c:=cc) (by unfold B at hp;exact hp) (by unfold B at hq;exact hq) (by unfold B at ho;exact ho) (by unfold B at G;exact G);clear hQ Z m;go_wp2;go_roundw
     case rel=>
      have w1:IntKind.u64.wrap (p:Int)=p:=by rw[pf];unfold B at hp;omega
      have w2:IntKind.u64.wrap (q:Int)=q:=by rw[pf];unfold B at hq;omega
      have e0:IntKind.u64.wrap (IntKind.u64.wrap (IntKind.u64.wrap (IntKind.u64.wrap ↑p*IntKind.u64.wrap ↑q)+↑o)+↑cc)=((p*q+o+cc:Nat):Int):=by
       rw[w1,w2,<-xB];generalize p*q=pq at hs;rw[pf,pf,pf];omega
      rw[e0];have e3:=ZM (b:=B) (vs:=val B (I.set (j+t) ((p*q+o+cc) % B))) (vl:=val B I) (A:=val B (X.take j)*y) (PV:=p*B ^ j*val B (Y.take t)) (W:=B ^ (j+t)) (s1:=(p*q+o+cc) / B) (s0:=(p*q+o+cc) % B) (pq:=p*q) (o:=o) (cc:=cc)
       (by have:=H_ B I (j+t) ((p*q+o+cc) % B) (by omega);rw[gx (by omega)] at this;simp only[ox] at this;rw[au.out] at this;exact this)
       Yg.out (xA _ _)
      have e4:=ug B Y t aq;rw[HQ.out] at e4;have e5:p*B ^ j*val B (Y.take (t+1))=p*B ^ j*val B (Y.take t)+p*q*B ^ (j+t):=by
       rw[e4,td,Nat.pow_add];congr 1;rw[qu,qu,Nat.mul_left_comm (B ^ j)]
      have aE:(p*q+o+cc) / B<B:=tD (by unfold B;omega);have aB:(p*q+o+cc) % B<B:=mS _ (by decide);generalize p*q+o+cc=s at *;have e1:((s:Nat):Int) / 4294967296=((s / B:Nat):Int):=by unfold B;omega
      rw[e1];refine⟨s / B,t+1,I.set (j+t) (s % B),by omega,rfl,rfl,aE,by simp;exact ac,uh K.out aB,λz V=>?_,?_,?_,?_⟩
      ·rw[getD_set_ne (by omega)];exact T.out z V
      ·rw[e5,show j+(t+1)=(j+t)+1 from by omega,my];exact e3
      ·have e6:(s:Int) % 4294967296=((s % B:Nat):Int):=by unfold B;omega
       rw[e6,<-Cg];exact HS.out _
      exact aj R (d' _)
     case measure=>simp[intOf];omega
    obtain rfl:t=Y.length:=by omega
    have e1:B ^ (j+Y.length)=B ^ (j+Y.length):=rfl;obtain⟨g,ao⟩:=jY m (j:=j+Y.length) (by simp;omega);rw[gP _ _ (by omega)] at g;have HS:=aa (λ(u:Value)=>(m.stored (j+Y.length) u).1);clear m;go_wp2;go_roundw
    case rel=>
     have an:=H_ B I (j+Y.length) cc (by omega);rw[T.out _ (d' _),ur,sC,Yg.out,lB,VY.out] at an;have e4:=ug B X j Og;rw[av.out] at e4;refine⟨j+1,I.set (j+Y.length) cc,by omega,rfl,by simp;exact ac,uh K.out G,λz V=>?_,?_,?_,?_⟩
     ·rw[getD_set_ne (by omega)];exact T.out z (by omega)
     ·rw[an,e4,mw]
     ·rw[show(cc:Int) % 4294967296=cc from by unfold B at G;omega,<-Cg];exact HS.out _
     exact aj R (d' _)
    case measure=>simp[intOf];omega
  obtain rfl:j=X.length:=by omega
  rw[lB,VX.out] at hv;go_wp2_with fail;refine(VW (Sl.aU hO) H (by omega)).mono ?_;rintro e w4⟨r4,rfl,M,L⟩;rw[hv] at M;obtain⟨a3,n3,rz,rfl,hN⟩:=M.out;have ai:=af (S.trans (C.mono (by omega))) L;have hk:w4.heap[w.heap.size+1+1]? = some (.cells #[.slice none 0 0] 44):=(L.block _ (by have:=C.size;omega)).trans ((C.block _ (by omega)).trans Z3.out);obtain⟨ar,hR⟩:=oN hk (by decide) hN;have hB:=aj (off:=0) (u:=.slice a3 n3 rz) ai (b:=w.heap.size+1+1) (by omega);have g:w4.cell? ⟨w.heap.size+1+1,0,none⟩=some (.slice none 0 0):=by unfold World.cell?;rw[hk];rfl
  have ao:w4.frozen? ⟨w.heap.size+1+1,0,none⟩=false:=by unfold World.frozen?;rw[hk];rfl
  clear hk L M hN hO C S ai hv H V;go_wp2;exact bodyPost_ret (v:=.agg #[.slice a3 n3 rz]) (by simp[results,results27,go_sem,ar]) rfl ⟨_,rfl,hR,hB⟩
def V6 (a b:Nat) (d:a<4294967296) (c:b<4294967296):bits .or .u64 ((a:Int)*4294967296) b=(a:Int)*4294967296+b:=by
 have e:(a:Int)*4294967296=((a * 4294967296:Nat):Int):=by omega
 rw[e,u64_or_nat _ _ (by omega) (by omega)];have:a * 4294967296 ||| b=a * 4294967296+b:=by
  have:=zF (i:=32) (a:=a) (b:=b) (by omega);rw[zt] at this;exact this.symm
 rw[this];omega
def ZN {a b:Int} {t:Bool} (h:a=b):Ending.returned (.tuple #[.int .u64 a,.bool t])=.returned (.tuple #[.int .u64 b,.bool t]):=by rw[h]
def FP {x:Nat} (h:bT w v x) (p:x<18446744073709551616) :
 Calls prog 23 #[v] w λe w'=>e=.returned (.tuple #[.int .u64 x,.bool true])/\Below w.heap.size w w':=by
 obtain⟨a,n,cap,rfl,h⟩:=h.out;have l:=h.len;have:n<=2:=by
  rw[l];exact(cZ bE).2 (by unfold B;omega)
 have g:=λ(W:World) (E:Below w.heap.size w W)=>sw (h.mono E) 1;have k:=λ(W:World) (E:Below w.heap.size w W)=>sw (h.mono E) 0;have c:oJ B x 1*B+oJ B x 0=x:=by unfold oJ B;omega
 have f:=xI bE x 1;have i:=xI bE x 0;generalize oJ B x 1=d1 at g c f;generalize oJ B x 0=d0 at k c i;unfold B at c f i;have q:=aa c;have m:=aa g;have o:=aa k;clear h l p c g k;go_enter func23,ntmps23;go_wp2_with fail;have j:(w.alloc (.cells #[.slice a n cap] 44)).cell? ⟨w.heap.size,0,none⟩=some (.slice a n cap):=by go_simp
 refine aC (Array.replicate 8 true) 8 0 mixed ?_;have:=Gr.cell (ag (w.alloc (.cells #[.slice a n cap] 44))) j;refine ay [0,3] 6 ?_
 repeat (refine aA rfl ?_;go_big_quiet_step (rfl))
 refine az ?_;refine aI 1 ?_;go_wp2_with fail;refine(m.out _ (af (ah _) (ag _))).mono ?_;rintro e t⟨rfl,b⟩;go_wp2_with fail;refine aF b ?_;refine ay [2] 4 ?_
 repeat (refine aA rfl ?_;go_big_quiet_step (rfl))
 refine az ?_;refine aI 4 ?_;go_wp2_with fail;refine(o.out _ (af (af (ah _) (ag _)) b)).mono ?_;rintro e s⟨rfl,d⟩;go_wp2_with fail;refine aF d ?_;refine ay [5,6,7] 0 ?_
 repeat (refine aA rfl ?_;go_big_quiet_step (rfl))
 refine az ?_;refine aJ [] ?_;refine tail_nil ?_;go_wp2;go_ret2;have c:bits BinOp.or IntKind.u64 ((d1:Int)*4294967296) d0=x:=by rw[V6 d1 d0 f i];have:=q.out;omega
 exact⟨ZN c,af (ah _) (af (ag _) (af b d))⟩
def abE (w:World) (v:Value) (xs:List Nat):Prop:=
 ∃a cap,v=.slice a xs.length cap/\∀i (f:i<xs.length),∃b off d e c,a=some ⟨b,off,none⟩/\b<w.heap.size/\w.cell? ⟨b,off+i,none⟩=some (.slice d e c)/\bT w (.agg #[.slice d e c]) xs[i]
def dU (xs:List Nat):Nat:=xs.foldl (·*·) 1
def pM (a:List Nat) (k:Nat) (h:k<a.length):dU (a.take (k+1))=dU (a.take k)*a[k]:=by
 unfold dU;rw[gR h,rk];rfl
def SK {f:List Nat} (h:abE w v f) (Y:f.length<1099511627776) (Z:∀k,k<=f.length->(bY B (dU (f.take k))).length<274877906944) (X:∀x∈f,(bY B x).length<274877906944) :
 Calls prog 49 #[v] w λe w'=>∃r,e=.returned r/\bT w' r (dU f)/\Below w.heap.size w w':=by
 obtain⟨a,cap,rfl,t⟩:=h;have S:=aa t;have HL:=aa Z;have HX:=aa X;clear t Z X;have W:=ah (w:=w) (.cells #[.slice none 0 0] 44);have L:(w.alloc (.cells #[.slice none 0 0] 44)).heap[w.heap.size]? = some (.cells #[.slice none 0 0] 44):=heap_alloc_new' _ _ _ rfl;go_enter func49,ntmps49;go_wp2_with fail;refine(uf 1 (by omega) _).mono ?_;rintro e d⟨r3,rfl,H,J⟩;obtain⟨q,z,p,rfl,H⟩:=H.out;have E3:=af W J;have L:=(J.block _ (by simp)).trans L;have U:(d.alloc (.cells #[.slice q z p] 44)).heap[d.heap.size]? = some (.cells #[.slice q z p] 44):=heap_alloc_new' _ _ _ rfl;have V:=H.mono (ah (.cells #[.slice q z p] 44));have T:=ah (w:=d) (.cells #[.slice q z p] 44);have R:w.heap.size<d.heap.size:=by have:=J.size;simp at this;omega
 have Z0:=aa L;clear H J W L;go_wp2_with fail;go_loopw [9] (λi wr=>∃(j:Nat) (g:Option Addr) (l c:Nat),j<=f.length/\i=.int .i64 j/\wr.heap[d.heap.size]? = some (.cells #[.slice g l c] 44)/\bT wr (.agg #[.slice g l c]) (dU (f.take j))/\Below d.heap.size d wr)
  (λi _=>f.length-(intOf i).toNat)
 case atStart=>exact⟨0,q,z,p,ic _,rfl,U,V,T⟩
 case round=>
  clear U V T;obtain⟨j,g,l,c,hj,rfl,E,y,F⟩:=hrel;have P:=F.size;have O:=af E3 F;by_cases m:j<f.length
  ·obtain⟨b,off,a1,n1,c1,rfl,hb,hc,A⟩:=S.out j m;have hc:=aB O hc;have A:=A.mono O;have N:=ah (w:=wr) (.cells #[.slice a1 n1 c1] 44);have K:=(N.block _ (block_lt E)).trans E;have ag:(wr.alloc (.cells #[.slice a1 n1 c1] 44)).cell? ⟨d.heap.size,0,none⟩=some (.slice g l c):=by unfold World.cell?;rw[K];rfl
   have n6:=y.mono N;have n:=A.mono N;have hM:=aa (V5 n6 n (by have:=HL.out j (by omega);omega) (by have:=HX.out _ (gw m);omega));have HP:=aa (pM f j m);clear y n6 A n;go_wp2_with fail;refine hM.out.mono ?_;rintro e s⟨r7,rfl,I,Q⟩;obtain⟨G,C,M,rfl,I⟩:=I.out;have o:=(Q.block _ (block_lt K)).trans K;have ac:s.cell? ⟨d.heap.size,0,none⟩=some (.slice g l c):=by unfold World.cell?;rw[o];rfl
   have ad:s.frozen? ⟨d.heap.size,0,none⟩=false:=by unfold World.frozen?;rw[o];rfl
   obtain⟨c9,n9⟩:=oN o (by decide) I;have z9:(s.setCell ⟨d.heap.size,0,none⟩ (.slice G C M)).heap[d.heap.size]? = some (.cells #[.slice G C M] 44):=heap_setCell_same s d.heap.size 0 _ _ _ o;have b9:Below d.heap.size d (s.setCell ⟨d.heap.size,0,none⟩ (.slice G C M)):=aj (F.trans ((af N Q).mono P)) (d' _);clear o I Q K;go_wp2;go_roundw
   case rel=>exact⟨j+1,G,C,M,by omega,rfl,z9,by rw[HP.out];exact n9,b9⟩
   case measure=>simp[intOf];omega
  obtain rfl:j=f.length:=by omega
  rw[lB] at y;have D:=(F.block _ R).trans Z0.out;have Ot:wr.cell? ⟨d.heap.size,0,none⟩=some (.slice g l c):=by unfold World.cell?;rw[E];rfl
  have ab:wr.cell? ⟨w.heap.size,0,none⟩=some (.slice none 0 0):=by unfold World.cell?;rw[D];rfl
  have ae:wr.frozen? ⟨w.heap.size,0,none⟩=false:=by unfold World.frozen?;rw[D];rfl
  obtain⟨q1,N9⟩:=oN D (by decide) y;have ZI:=aj (off:=0) (u:=.slice g l c) (b:=w.heap.size) O (d' _);clear D y E;go_wp2;exact bodyPost_ret (v:=.agg #[.slice g l c]) (by simp[results,results49,go_sem,q1]) rfl ⟨_,rfl,N9,ZI⟩
def Ou {l:List Int} (h:bG w v (bO l)) (Z:l.length<1099511627776) (g:∀d∈l,d<9223372036854775808) (hl:∀k,k<=l.length->(bY B (dU ((D7 l).take k))).length<274877906944) :
 Calls prog 42 #[v] w λe w'=>∃r,e=.returned r/\bT w' r (dU (D7 l))/\Below w.heap.size w w':=by
 obtain⟨x1,Ao,rfl,_,x⟩:=bG.nN h;have mH:=aa x;have HL:=aa hl;have U:=aa g;clear h x hl g;have Y:=ah (w:=w) (.cells #[.slice none 0 0] 44);have C:(w.alloc (.cells #[.slice none 0 0] 44)).heap[w.heap.size]? = some (.cells #[.slice none 0 0] 44):=heap_alloc_new' _ _ _ rfl;go_enter func42,ntmps42;go_wp2_with fail;refine(uf 1 (by omega) _).mono ?_;rintro e c⟨r3,rfl,K,L⟩;obtain⟨s,A,z,rfl,K⟩:=K.out;have E3:=af Y L;have C:=(L.block _ (by simp)).trans C;have z3:(c.alloc (.cells #[.slice s A z] 44)).heap[c.heap.size]? = some (.cells #[.slice s A z] 44):=heap_alloc_new' _ _ _ rfl;have n4:=K.mono (ah (.cells #[.slice s A z] 44));have b4:=ah (w:=c) (.cells #[.slice s A z] 44);have O:w.heap.size<c.heap.size:=by have:=L.size;simp at this;omega
 have Z0:=aa C;clear K L Y C;go_wp2_with fail;go_loopw [9] (λi wr=>∃(j:Nat) (m:Option Addr) (o a:Nat),j<=l.length/\i=.int .i64 j/\wr.heap[c.heap.size]? = some (.cells #[.slice m o a] 44)/\bT wr (.agg #[.slice m o a]) (dU ((D7 l).take j))/\Below c.heap.size c wr)
  (λi _=>l.length-(intOf i).toNat)
 case atStart=>exact⟨0,s,A,z,ic _,rfl,z3,n4,b4⟩
 case round=>
  clear z3 n4 b4;obtain⟨j,m,o,a,hj,rfl,q,E,H⟩:=hrel;have M:=H.size;have X:=af E3 H;by_cases f:j<l.length
  ·obtain⟨b,off,rfl,hb,hc⟩:=mH.out j f;have hc:=aB X hc;have W:=U.out _ (gw f);have R:=aa (pM (D7 l) j (by simpa using f));have p:(D7 l)[j]'(by simpa using f)=l[j].toNat:=by simp[D7]
   rw[p] at R;clear p;generalize l[j]=d at *;obtain⟨n,T⟩:=ae d.toNat;rw[<-T] at R;have ab:max d 0=(n:Int):=by omega
   have ac:IntKind.u64.wrap (n:Int)=(n:Int):=by rw[pf];omega
   have S:n<18446744073709551616:=by omega
   have hO:=aa (uf n S);have Ot:wr.cell? ⟨c.heap.size,0,none⟩=some (.slice m o a):=by unfold World.cell?;rw[q];rfl
   have T0:=AO wr;have V:=aa (HL.out j hj);have P:=aa (show(bY B n).length<=2 from (cZ bE).2 (by unfold B;omega));have nR:=aa T;clear T W;go_wp2_with fail;refine aC #[true,true,true,true,true,true,false] 6 1 mixed ?_;have SE:=af T0 (ag _);have Q:=Gr.cell SE Ot;refine ay [0,1,2,3] 2 ?_
   iterate 4 (refine aA rfl ?_;go_big_quiet_step (rfl))
   refine az ?_;clear Q;refine aI 4 ?_;go_wp2_with fail;refine(hO.out _).mono ?_;rintro e al⟨r1,rfl,p1,SF⟩;go_wp2_with fail;refine aF SF ?_;have Uv:=af SE SF;refine aI 5 ?_;go_wp2_with fail;refine(V5 (E.mono Uv) p1 (by have:=V.out;omega) (by have:=P.out;omega)).mono ?_;rintro e t⟨r7,rfl,J,FN⟩;obtain⟨I,F,D,rfl,J⟩:=J.out;go_wp2_with fail;refine aF FN ?_;have N:=af Uv FN;have y:=(N.block _ (block_lt q)).trans q;have am:t.frozen? ⟨c.heap.size,0,none⟩=false:=by unfold World.frozen?;rw[y];rfl
   obtain⟨c9,n9⟩:=oN y (by decide) J;have z9:(t.setCell ⟨c.heap.size,0,none⟩ (.slice I F D)).heap[c.heap.size]? = some (.cells #[.slice I F D] 44):=heap_setCell_same t c.heap.size 0 _ _ _ y;have b9:Below c.heap.size c (t.setCell ⟨c.heap.size,0,none⟩ (.slice I F D)):=aj (H.trans (N.mono M)) (d' _);have ai:t.cell? ⟨c.heap.size,0,none⟩=some (.slice m o a):=by unfold World.cell?;rw[y];rfl
   clear y J N;refine aJ [6] ?_;refine tail_cons rfl ?_;go_wp2_with fail;refine tail_nil ?_;go_wp2;go_roundw
   case rel=>exact⟨j+1,I,F,D,by omega,rfl,z9,by rw[R.out];exact n9,b9⟩
   case measure=>simp[intOf];omega
  obtain rfl:j=l.length:=by omega
  rw[iu (by simp)] at E;have G:=(H.block _ O).trans Z0.out;have Ot:wr.cell? ⟨c.heap.size,0,none⟩=some (.slice m o a):=by unfold World.cell?;rw[q];rfl
  have ad:wr.cell? ⟨w.heap.size,0,none⟩=some (.slice none 0 0):=by unfold World.cell?;rw[G];rfl
  have ak:wr.frozen? ⟨w.heap.size,0,none⟩=false:=by unfold World.frozen?;rw[G];rfl
  obtain⟨q1,N9⟩:=oN G (by decide) E;have ZI:=aj (off:=0) (u:=.slice m o a) (b:=w.heap.size) X (d' _);clear G E q;go_wp2;exact bodyPost_ret (v:=.agg #[.slice m o a]) (by simp[results,results42,go_sem,q1]) rfl ⟨_,rfl,N9,ZI⟩
end Go.Proofs.YtmnimbnojdndmaaGreatDoor
namespace Go.Proofs.YtmnimbnojdndmaaGreatDoor
open Go.RowKit Go.Cd
variable {K:Nat->Nat} {l:List Nat} {j:Nat}
def d_.sp (x:d_):Nat×List Nat:=(x.1,x.2.2)
def cB.sp (r:cB):bS:=(r.1,r.2.2.map d_.sp)
structure gD (K:Nat->Nat) (l:List Nat) (j:Nat) (c:cB):Prop where
 rise:c.2.2.Pairwise λa b=>a.1<b.1
 small:∀x∈c.2.2,x.1<1000000
 last:∀x,c.2.2.getLast? = some x->∃(i:Nat) (hi:i<l.length),j=i+1/\x.1=K l[i]
 len:c.2.2.length<=j
 marks:∀x∈c.2.2,x.2.2.length<=j
def gD.le {c:cB} (h:gD K l j c):∀x∈c.2.2,∀z,c.2.2.getLast? = some z->x.1<=z.1:=by
 intro x a z b;have f:c.2.2≠[]:=λe=>by rw[e] at a;cases a
 obtain⟨q,y,e⟩:∃q y,c.2.2=q++[y]:=⟨c.2.2.dropLast,c.2.2.getLast f,(p6 f).symm⟩;have d:=h.rise;rw[e] at a b d;rw[mx] at b;cases b;rcases ie.1 a with a|a
 ·exact oT ((lE.1 d).2.2 x a z (by simp))
 rw[gE.1 a];exact d' _
def gD.find {c:cB} (h:gD K l j c) (u:dJ K l) (F:j<l.length) (h0:K l[j]≠0) {k:Nat} {b:Bool} (hf:abr (c.2.2.map λx=>(x.1,x.2.1)) (K l[j]) k b) :
 (b=false/\k=c.2.2.length/\∀x∈c.2.2,x.1<K l[j])\/(b=true/\∃q y,c.2.2=q++[y]/\y.1=K l[j]/\k=q.length):=by
 obtain⟨s,z,r,p⟩:=hf;rw[iz] at s;simp only[iz,m8] at z r p;by_cases g:c.2.2=[]
 ·left;have C:k=0:=by rw[g] at s;simpa using s
  refine⟨?_,by rw[g];simpa using C,by rw[g];simp⟩;cases b with
  | false=>rfl
  | true=>
    obtain⟨a,_⟩:=p.1 rfl;rw[g] at a;simp at a
 obtain⟨q,y,e⟩:∃q y,c.2.2=q++[y]:=⟨c.2.2.dropLast,c.2.2.getLast g,(p6 g).symm⟩;have o:c.2.2.getLast? = some y:=by rw[e,mx]
 obtain⟨i,J,v,I⟩:=h.last y o;subst v;have G:y.1<=K l[i+1]:=by
  rcases KN u F with a|a
  ·exact absurd a h0
  rw[I];exact a
 have A:c.2.2.length=q.length+1:=by rw[e];simp
 have f:∀(H:q.length<c.2.2.length),c.2.2[q.length]=y:=λH=>by simp[e]
 by_cases n:y.1=K l[i+1]
 ·right;have D:k<=q.length:=by
   rcases ki q.length k with a|a
   ·have:=z q.length (by omega) a;rw[f] at this;omega
   exact a
  have m:k=q.length:=by
   rcases ki k q.length with a|a
   ·exfalso;have E:=r k (by omega) (d' _);have w:=(qT.1 h.rise) k q.length (by omega) (by omega) a;rw[f] at w;omega
   omega
  refine⟨p.2 ⟨by omega,?_⟩,q,y,e,n,m⟩;subst m;rw[f];exact n
 left;have d:∀x∈c.2.2,x.1<K l[i+1]:=λx B=>by
  have:=h.le x B y o;omega
 have t:k=c.2.2.length:=by
  rcases ki k c.2.2.length with a|a
  ·have E:=r k a (d' _);have w:=d _ (gw a);omega
  omega
 refine⟨?_,t,d⟩;cases b with
 | false=>rfl
 | true=>
   obtain⟨a,_⟩:=p.1 rfl;omega
def gD.nil (K:Nat->Nat) (l:List Nat) (j h:Nat) (v:Value):gD K l j (h,v,[]):=⟨List.Pairwise.nil,by simp,by simp,by simp,by simp⟩
def gD.new {c:cB} (h:gD K l j c) (f:j<l.length) (g:K l[j]<1000000) (e:∀x∈c.2.2,x.1<K l[j]) (v v':Value) (m:Nat):gD K l (j+1) (c.1,v,c.2.2++[(K l[j],v',[m])]):=by
 refine⟨lE.2 ⟨h.rise,by simp,λa k b i=>?_⟩,λx d=>?_,λx d=>?_,by have:=h.len;simp;omega,λx d=>?_⟩
 ·rw[gE.1 i];exact e a k
 ·rcases ie.1 d with d|d
  ·exact h.small x d
  rw[gE.1 d];exact g
 ·rw[mx] at d;cases d;exact⟨j,f,rfl,rfl⟩
 rcases ie.1 d with d|d
 ·exact ri (h.marks x d)
 rw[gE.1 d];simp
def gD.more {hd:Nat} {v:Value} {q:List d_} {y:d_} (h:gD K l j (hd,v,q++[y])) (e:j<l.length) (f:y.1=K l[j]) (v':Value) (m:Nat):gD K l (j+1) (hd,v,q++[(y.1,v',y.2.2++[m])]):=by
 have d:=lE.1 h.rise;refine⟨lE.2 ⟨d.1,by simp,λa i b g=>?_⟩,λx c=>?_,λx c=>?_,by have:=h.len;simp at this⊢;omega,λx c=>?_⟩
 ·rw[gE.1 g];exact d.2.2 a i y (by simp)
 ·rcases ie.1 c with c|c
  ·exact h.small x (by simp[c])
  rw[gE.1 c];exact h.small y (by simp)
 ·rw[mx] at c;cases c;exact⟨j,e,rfl,f⟩
 rcases ie.1 c with c|c
 ·exact ri (h.marks x (by simp[c]))
 rw[gE.1 c];have:=h.marks y (by simp);simp;omega
section
open Go.RowKit Go.Cd
def Lg (bs:List Nat):D7 (bs.map λb:Nat=>(b:Int))=bs:=by
 unfold D7;rw[m5];exact(mL λ_ _=>rfl).trans (te _)
def Lh {a:List Nat} (h:∀x∈a,x<B):∀k,k<=a.length->dU (a.take k)<B ^ k\/k=0/\dU (a.take k)=1:=by
 intro k
 induction k with
 | zero=>intro _;exact .inr ⟨rfl,by simp[dU]⟩
 | succ k ih=>
   intro d;left;rw[pM a k (by omega),my];have c:=h _ (gw (show k<a.length by omega));rcases ih (by omega) with b|⟨h0,b⟩
   ·exact Nat.mul_lt_mul'' b c
   subst h0;rw[b];simpa using c
def Ci {a:List Nat} (h:∀x∈a,x<B) (k:Nat) (c:k<=a.length):(bY B (dU (a.take k))).length<=k+1:=by
 rw[cZ bE];rcases Lh h k c with b|⟨h0,b⟩
 ·exact kh b (kj (by decide) (by omega))
 subst h0;rw[b];unfold B;decide
def V8 (r:cB):Nat:=dU (gT r.2.2)
def gF (Rs:List cB):Nat:=(Rs.map V8).sum
def yC {Rs:List cB} {j:Nat} (a:j<Rs.length):gF (Rs.take (j+1))=gF (Rs.take j)+V8 Rs[j]:=by
 unfold gF;rw[gR a,j5,sg];simp
def Cj (Rs:List cB):Prop:=Rs.length<10000/\∀r∈Rs,r.2.2.length<10000/\∀x∈r.2.2,x.2.2.length<10000
def uS {r:cB} (h:∀x∈r.2.2,x.2.2.length<10000):∀b∈gT r.2.2,b<B:=λb a=>by
 obtain⟨x,c,rfl⟩:=j8.1 a;have:=h x c;unfold B;omega
def ZP {r:cB} (b:r.2.2.length<10000) (h:∀x∈r.2.2,x.2.2.length<10000) {n:Nat} (c:10001<=n):V8 r<B ^ n:=by
 have a:=Ci (uS h) (gT r.2.2).length (d' _);rw[lB,cZ bE,BZ] at a;exact kh a (kj (by decide) (by omega))
def Ib {Rs:List cB} (h:Cj Rs) {j:Nat} (b:j<=Rs.length):(bY B (gF (Rs.take j))).length<=20002:=by
 obtain⟨k,d⟩:=ae 20002;rw[<-d,cZ bE];obtain⟨n,e⟩:=ae 10001;have key:∀j,j<=Rs.length->gF (Rs.take j)<=j*B ^ n:=λj=>by
  induction j with
  | zero=>intro _;simp[gF]
  | succ j ih=>
    intro b;rw[yC (by omega),mw,sr];have a:=h.2 _ (gw (show j<Rs.length by omega));exact Nat.add_le_add (ih (by omega)) (oT (ZP a.1 a.2 (by omega)))
 have a:=key j b;have c:j*B ^ n<B*B ^ n:=ux (by have:=h.1;unfold B;omega) (tc (by decide));rw[<-ye] at c;exact kh (lp a c) (kj (by decide) (by omega))
structure D8 (w:World) (B N p:Nat) (dv rs iT:Value) (small:Bool) (Rs:List cB):Prop where
 is:Is w p #[dv,rs,iT,.bool small] 84
 runs:w.ownsRow B eX 6 rs Rs.length (Rs.flatMap lV)
 Ae:∀r∈Rs,wM w N r
 low:B<=p
 hi:p<N/\N<=w.heap.size
section
variable {w w' : World} {B N p : Nat} {dv rs iT : Value} {small : Bool} {Rs : List cB}
def D8.ext (h:D8 w B N p dv rs iT small Rs) (a:Below w.heap.size w w'):D8 w' B N p dv rs iT small Rs:=
 ⟨h.is.mono a,aH h.runs a,λr b=>(h.Ae r b).keep (.of_below (a.mono h.hi.2) a.size) (.of_below (a.mono h.hi.2) a.size),h.low,h.hi.1,ia h.hi.2 a.size⟩
def D8.put (h:D8 w B N p dv rs iT small Rs) (o:Nat) (u:Value) {acT:Value} {Ov:Bool} (b:(#[dv,rs,iT,.bool small]:Array Value).setIfInBounds o u=#[dv,rs,acT,.bool Ov]):D8 (w.setCell ⟨p,o,none⟩ u) B N p dv rs acT Ov Rs:=by
 have c:=bJ.put (o:=o) h.is u;exact⟨b▸h.is.set o u,c.own h.runs (by decide),λr a=>(h.Ae r a).keep (.fV c (by decide) N h.hi.2) (.fV c (by decide) N h.hi.2),h.low,h.hi.1,by simpa using h.hi.2⟩
end
def Jb.made {w:World} {B p:Nat} {b d:Value} {Rs:List cB} {c:cB} {F G:Nat} (h:Jb w B p b d Rs c F G):D8 w B w.heap.size p b d (.slice none 0 0) false (Rs++[c]):=by
 refine⟨h.is,by rw[gn];exact h.runs,λr a=>?_,h.low,h.is.lt,d' _⟩;rcases ie.1 a with a|a
 ·exact(h.Ae r a).le (ia h.cur.fg h.cur.gs)
 rw[gE.1 a];exact h.cur.Ae
def V9 {n c k:Nat} {Ls:List (Nat×List Nat)} (h:Ls.length<=k) (d:∀x∈Ls,x.2.length<=k):(sQ n c Ls).length<=k+1/\∀x∈sQ n c Ls,x.2.length<=k+1:=by
 have b:(Ls++[(n,[c])]).length<=k+1/\∀x∈Ls++[(n,[c])],x.2.length<=k+1:=by
  refine⟨by simp;omega,λx a=>?_⟩;rcases ie.1 a with a|a
  ·have:=d x a;omega
  rw[gE.1 a];simp
 rcases oR Ls with e|⟨q,y,e⟩
 ·subst e;rw[abj (by simp)];exact b
 have f:Ls=q++[y]:=by simpa using e
 by_cases g:y.1=n
 ·subst f;rw[show y=(y.1,y.2) from rfl,yh g];refine⟨by simpa using ri h,λx a=>?_⟩;rcases ie.1 a with a|a
  ·have:=d x (by simp[a]);omega
  rw[gE.1 a];have:=d y (by simp);simp;omega
 rw[abj (λx a=>by rw[f,mx] at a;injection a with a;rw[<-a];exact g)];exact b
def SN (k:Nat) (rs:List bS):Prop:=rs≠[]/\rs.length<=k+1/\∀r∈rs,r.2.length<=k/\∀x∈r.2,x.2.length<=k
def V_ {K:Nat->Nat} {d:List bS} {c k:Nat} (h:SN k d):SN (k+1) (BU K d c):=by
 obtain⟨h0,i,b⟩:=h;by_cases g:K c=0
 ·rw[BV g];refine⟨by simp,by simp;omega,λr a=>?_⟩;rcases ie.1 a with a|a
  ·exact⟨ri (b r a).1,λx f=>ri ((b r a).2 x f)⟩
  rw[gE.1 a];exact⟨ic _,by simp⟩
 rcases oR d with e|⟨q,y,e⟩
 ·exact absurd e h0
 have j:d=q++[y]:=by simpa using e
 subst j;rw[yj g];refine⟨by simp,by simp at i⊢;omega,λr a=>?_⟩;rcases ie.1 a with a|a
 ·have:=b r (by simp[a]);exact⟨ri this.1,λx f=>ri (this.2 x f)⟩
 rw[gE.1 a];have:=b y (by simp);exact V9 this.1 this.2
def fD (K:Nat->Nat) (l:List Nat):SN l.length (bq K l):=by
 have key:∀(l:List Nat) k a,SN k a->SN (k+l.length) (l.foldl (BU K) a):=λl=>by
  induction l with
  | nil=>intro k a h;exact h
  | cons c l ih=>
    intro k a h;have:=ih (k+1) _ (V_ (K:=K) (c:=c) h);rw[im,show k+(l.length+1)=k+1+l.length by omega];exact this
 have:=key l 0 [(0,[])] ⟨by simp,by simp,λr b=>by rw[gE.1 b];exact⟨d' _,by simp⟩⟩;rw[k_] at this;exact this
def Cj.of {Rs:List cB} {k:Nat} (h:SN k (Rs.map cB.sp)) (e:k<9000):Cj Rs:=by
 obtain⟨_,a,d⟩:=h;refine⟨by rw[iz] at a;omega,λr b=>?_⟩;have:=d _ (j8.2 ⟨r,b,rfl⟩);refine⟨by have:=this.1;simp[cB.sp] at this;omega,λx c=>?_⟩;have:=this.2 _ (j8.2 ⟨x,c,rfl⟩);simp[d_.sp] at this;omega
end
section
open Go.RowKit Go.Cd
def We {α:Type} (f:α->List Value) (m:Nat) (hf:∀a,(f a).length=m):∀(l:List α) (i:Nat) (c:i<l.length) (b:α) (j:Nat) (u:Value),j<m->(f l[i]).set j u=f b->(l.flatMap f).set (i*m+j) u=(l.set i b).flatMap f
 | [],i,c,_,_,_,_,_=>absurd c (by simp)
 | a::l,0,_,b,j,u,hj,he=>by
   simp only[jx,ur,k_,rN];rw[x5 _ _ (by rw[hf];exact hj)];rw[show(f a).set j u=f b from he]
 | a::l,i+1,c,b,j,u,hj,he=>by
   simp only[jx,vf];rw[mm (h:=by rw[hf,mw];omega),hf,show(i+1)*m+j-m=i*m+j by rw[mw];omega];rw[We f m hf l i (by simpa using c) b j u hj (by simpa using he)]
def jE.iQ {w w':World} {t:TypeId} {v:Value} {bs:List Nat} (h:jE w v bs) (m:bJ w w' t) (j:bB≠t):jE w' v bs:=by
 obtain⟨s1,s2,i,l,p⟩:=h;have key:∀{s:Value} {e:List Value},Sl bB w s e->Sl bB w' s e:=by
  rintro s e⟨a,cap,i,d,f⟩;refine⟨a,cap,i,d,f.imp id ?_⟩;rintro⟨b,off,o,n,q,g,f⟩;refine⟨b,off,o,n,q,(m.keep b (block_lt g) ?_).trans g,f⟩;rintro⟨k,c⟩;rw[g] at c;injection c with c;injection c with _ c _;exact j c
 exact⟨s1,s2,i,key l,key p⟩
def Li (bs:List Nat):aW bs=dU bs:=by
 have key:∀(bs:List Nat) a,bs.foldl (·*·) a=a * aW bs:=λbs=>by
  induction bs with
  | nil=>intro a;simp[aW]
  | cons b bs ih=>intro a;rw[ot,ih,aW,qu]
 unfold dU;rw[key,sr]
abbrev qx:=cB×(Value×Value×Int)×Int
def nC (x:qx):List Value:=[.int .i32 x.1.1,x.1.2.1,x.2.1.1,x.2.1.2.1,.int .i64 x.2.1.2.2,.int .i64 x.2.2]
def yD (x:qx):(nC x).length=6:=rfl
def Wh (x:qx):Value:=.agg #[x.2.1.1,x.2.1.2.1,.int .i64 x.2.1.2.2]
def Ic (r:cB):qx:=(r,(.slice none 0 0,.slice none 0 0,0),0)
def Lj (Rs:List cB):(Rs.map Ic).flatMap nC=Rs.flatMap lV:=by rw[sO];rfl
def FQ (v:Value):Prop:=∃a n c,v=.slice a n c
def FQ.mk {a:Option Addr} {n c:Nat}:FQ (.slice a n c):=⟨_,_,_,rfl⟩
structure kg (w:World) (B N p:Nat) (dv rs iT:Value) (small:Bool) (Es:List qx) (i:Nat):Prop where
 is:Is w p #[dv,rs,iT,.bool small] 84
 runs:w.ownsRow B eX 6 rs Es.length (Es.flatMap nC)
 Ae:∀e∈Es,wM w N e.1
 low:B<=p
 hi:p<N/\N<=w.heap.size
 shp:∀e∈Es,FQ e.2.1.1/\FQ e.2.1.2.1
 ZQ:∀k (hk:k<Es.length),k<i->jE w (Wh Es[k]) (gT Es[k].1.2.2)/\Es[k].2.2=(gF ((Es.map (·.1)).take k):Nat)
section
variable {w w' : World} {B N p : Nat} {dv rs iT : Value} {small : Bool} {Es : List qx} {i : Nat}
variable {g n c:Nat} {A D:List qx}
def kg.of {Rs:List cB} (h:D8 w B N p dv rs iT small Rs):kg w B N p dv rs iT small (Rs.map Ic) 0:=
 ⟨h.is,by rw[Lj,iz];exact h.runs,λe a=>by obtain⟨r,b,rfl⟩:=j8.1 a;exact h.Ae r b,h.low,h.hi,λe a=>by obtain⟨r,_,rfl⟩:=j8.1 a;exact⟨FQ.mk,FQ.mk⟩,λ_ _ h=>absurd h (by simp)⟩
def kg.ext (h:kg w B N p dv rs iT small Es i) (a:Below w.heap.size w w'):kg w' B N p dv rs iT small Es i:=
 ⟨h.is.mono a,aH h.runs a,λr d=>(h.Ae r d).keep (.of_below (a.mono h.hi.2) a.size) (.of_below (a.mono h.hi.2) a.size),h.low,⟨h.hi.1,ia h.hi.2 a.size⟩,h.shp,λk c b=>⟨(h.ZQ k c b).1.mono a,(h.ZQ k c b).2⟩⟩
def kg.store (h:kg w B N p dv (.slice (some ⟨g,0,none⟩) n c) iT small Es i) (r:i<Es.length) (b:qx) (j:Nat) (u:Value) (x:j<6) (y:(nC Es[i]).set j u=nC b) (v:b.1=Es[i].1) (q:FQ b.2.1.1/\FQ b.2.1.2.1) :
 kg (w.setCell ⟨g,i*6+j,none⟩ u) B N p dv (.slice (some ⟨g,0,none⟩) n c) iT small (Es.set i b) i:=by
 obtain⟨z,t⟩:=bV h.runs (k:=g) rfl;have l:=bJ.put (o:=i*6+j) (⟨t⟩:Is w g z eX) u;have f:(Es.set i b).map (·.1)=Es.map (·.1):=by
  rw[th,v];have:Es[i].1=(Es.map (·.1))[i]'(by simpa using r):=by simp
  rw[this,List.set_getElem_self]
 refine⟨l.is h.is (by decide),?_,λe d=>?_,h.low,⟨h.hi.1,by simpa using h.hi.2⟩,λe d=>?_,λk s m=>?_⟩
 ·have A:n=Es.length:=by
   obtain⟨_,_,e,_⟩:=ak h.runs;injection e with _ e _
  subst A;have:=h.runs.stored (i*6+j) u;rw[We nC 6 yD Es i r b j u x y] at this;rw[m7];exact this.1
 ·have:wM w N e.1:=by
   rcases q_ d with a|a
   ·exact h.Ae e a
   rw[a,v];exact h.Ae _ (gw r)
  exact this.keep (.fV l (by decide) N h.hi.2) (.fV l (by decide) N h.hi.2)
 ·rcases q_ d with a|a
  ·exact h.shp e a
  rw[a];exact q
 rw[m7] at s;have a:=h.ZQ k s m;rw[f];have C:(Es.set i b)[k]'(by rw[m7];exact s)=Es[k]:=x7 (by omega) _;rw[C];exact⟨a.1.iQ l (by decide),a.2⟩
def kg.more (h:kg w B N p dv rs iT small Es i) (e:i<Es.length) (b:jE w (Wh Es[i]) (gT Es[i].1.2.2)) (d:Es[i].2.2=(gF ((Es.map (·.1)).take i):Nat)):kg w B N p dv rs iT small Es (i+1):=
 ⟨h.is,h.runs,h.Ae,h.low,h.hi,h.shp,λk c a=>by
   rcases Nat.lt_succ_iff_lt_or_eq.1 a with h3|rfl
   ·exact h.ZQ k c h3
   exact⟨b,d⟩⟩
def kg.Ie {x:qx} (h:kg w B N p dv (.slice (some ⟨g,0,none⟩) n c) iT small (A++x::D) i) (m:A.length=i) (a:qx) (j:Nat) (u:Value) (f:j<6) (k:(nC x).set j u=nC a) (e:a.1=x.1) (b:FQ a.2.1.1/\FQ a.2.1.2.1) {o:Nat} (l:o=i*6+j) :
 kg (w.setCell ⟨g,o,none⟩ u) B N p dv (.slice (some ⟨g,0,none⟩) n c) iT small (A++a::D) i:=by
 subst l;subst m;have d:(A++x::D)[A.length]'(by simp)=x:=by simp
 have:=h.store (by simp) a j u f (by rw[d];exact k) (by rw[d];exact e) b;rw[mm (h:=d' _),ns,rN] at this;exact this
def kg.cells (h:kg w B N p dv (.slice (some ⟨g,0,none⟩) n c) iT small Es i) {k:Nat} (b:k<Es.length) :
 ∀j<6,w.cell? ⟨g,k*6+j,none⟩=(nC Es[k])[j]?/\w.frozen? ⟨g,k*6+j,none⟩=false:=by
 obtain⟨l,d,e,_,_,_,a⟩:=dC (f:=nC) yD rfl h.runs b;injection e with e _ _;injection e with e;injection e with e;subst e;exact a
def kg.yE {x:qx} (h:kg w B N p dv (.slice (some ⟨g,0,none⟩) n c) iT small (A++x::D) i) (b:A.length=i) :
 ∀j<6,w.cell? ⟨g,i*6+j,none⟩=(nC x)[j]?/\w.frozen? ⟨g,i*6+j,none⟩=false:=by
 subst b;have a:(A++x::D)[A.length]'(by simp)=x:=by simp
 have:=h.cells (k:=A.length) (by simp);rw[a] at this;exact this
def kg.af0 {x:qx} (h:kg w B N p dv rs iT small (A++x::D) i) (d:A.length=i) (c:jE w (Wh x) (gT x.1.2.2)) (b:x.2.2=(gF (A.map (·.1)):Nat)):kg w B N p dv rs iT small (A++x::D) (i+1):=by
 subst d;have a:(A++x::D)[A.length]'(by simp)=x:=by simp
 refine h.more (by simp) (by rw[a];exact c) ?_;rw[a,j5,List.take_append_of_le_length (by simp),iu (by simp)];exact b
end
end
end Go.Proofs.YtmnimbnojdndmaaGreatDoor
namespace Go.Proofs.YtmnimbnojdndmaaGreatDoor
open Go.RowKit Go.Cd _root_.Go.Proofs.Tryz
def ZR (Rs:List cB) (j:Nat):gF (Rs.take j)<=gF Rs:=by
 have:gF Rs=gF (Rs.take j)+gF (Rs.drop j):=by unfold gF;rw[<-sg,<-j5,km]
 omega
def Ll (Ls:List d_):∀b∈gT Ls,1<=b:=λb a=>by
 obtain⟨x,_,rfl⟩:=j8.1 a;omega
def bJ.trans {a b c:World} {t:TypeId} (h:bJ a b t) (k:bJ b c t):bJ a c t:=
 ⟨ia h.size k.size,λi f e=>by
   have d:=h.keep i f e;refine(k.keep i (kh f h.size) ?_).trans d;rintro⟨g,j⟩
   exact e ⟨g,d▸j⟩⟩
def bJ.of_below {a b:World} (t:TypeId) (h:Below a.heap.size a b):bJ a b t:=⟨h.size,λi c _=>h.block i c⟩
def bT.iQ {w w':World} {t:TypeId} {v:Value} {x:Nat} (h:bT w v x) (j:bJ w w' t) (g:nI≠t):bT w' v x:=by
 obtain⟨s,m,a,cap,n,d,e⟩:=h;refine⟨s,m,a,cap,n,d,e.imp id ?_⟩;rintro⟨b,off,l,k,o,f,e⟩;refine⟨b,off,l,k,o,(j.keep b (block_lt f) ?_).trans f,e⟩;rintro⟨i,c⟩;rw[f] at c;injection c with c;injection c with _ c _;exact g c
def Lm {w:World} {B N p g s rc:Nat} {dv iT:Value} {a:Bool} {Rs:List cB} (h:D8 w B N p dv (.slice (some ⟨g,0,none⟩) s rc) iT a Rs) (hf:Cj Rs) (hs:a=true->gF Rs<=16384) (t:B<=g) :
 Calls prog 44 #[.pointer (some ⟨p,0,none⟩)] w λe w'=>e=.returned (.tuple #[])/\∃Es,Es.map (·.1)=Rs/\kg w' B N p dv (.slice (some ⟨g,0,none⟩) s rc) iT a Es (if a=true then Es.length else 0)/\Below B w w'/\bJ w w' eX:=by
 have i1:=h.is;have e1:=i1.at 1 rfl;have e3:=i1.at 3 rfl;have U:s=Rs.length:=by
  obtain⟨_,_,e,_⟩:=ak h.runs;injection e with _ e _
 have HM:=aa (kg.of h);have Yq:=aa U;have aE:s<10000:=by rw[U];exact hf.1
 have HF:=aa hf;have au:B<=w.heap.size:=by have:=h.low;have:=h.hi;omega
 clear h hf U i1;go_enter func44,ntmps44;cases a with
 | false=>
   go_wp2_with fail;exact bodyPost_ret (results_none rfl _ _ _) rfl ⟨rfl,_,by rw[m5];exact te _,HM.out,gS _ _,.of_below _ (gS _ _)⟩
 | true=>
   have HS:=aa (hs rfl);clear hs;go_wp2_with fail;go_loopw [2,3,4,15] (λfv _ _ iv wr=>∃i:Nat,i<=s/\iv=.int .i64 i/\fv=.int .i64 (gF (Rs.take i):Nat)/\(∃A:List qx,A.map (·.1)=Rs.take i/\kg wr B N p dv (.slice (some ⟨g,0,none⟩) s rc) iT true (A++(Rs.drop i).map Ic) i)/\Below B w wr/\bJ w wr eX) (λ_ _ _ iv _=>s-(intOf iv).toNat)
   case atStart=>exact⟨0,ic _,rfl,rfl,⟨[],rfl,HM.out⟩,gS _ _,.of_below _ (gS _ _)⟩
   case round=>
    obtain⟨i,hi,rfl,rfl,⟨A,V,v⟩,hE,hC⟩:=hrel;have DZ:A.length=i:=by
     have:=congrArg List.length V;rw[iz,jn,<-Yq.out] at this;omega
    by_cases aN:i<s
    ·have zi:=eG (show i<s by omega);have z:i<Rs.length:=by have:=Yq.out;omega
     have L:Rs.drop i=Rs[i]::Rs.drop (i+1):=jf z;have O:Rs.take (i+1)=Rs.take i++[Rs[i]]:=gR z;have sV:=HF.out.2 _ (gw z);have j:=yC z;have ah:=ia (ZR Rs (i+1)) HS.out;obtain⟨r,hr⟩:=ae (Rs[i]);rw[<-hr] at L O sV j;rw[L,lj] at v;have I:=v.yE DZ;have H:wM wr N r:=v.Ae (Ic r) (by simp);obtain⟨hd,lv,Ls⟩:=r;obtain⟨la,lc,J,_,_⟩:=ak H.1.1;simp only at J;obtain⟨ln,T⟩:=ae Ls.length;rw[<-T] at J;subst J;have c0:wr.cell? ⟨g,i*6,none⟩=some (.int .i32 hd):=(I 0 (by decide)).1;have c1:wr.cell? ⟨g,i*6+1,none⟩=some (.slice la ln lc):=(I 1 (by decide)).1;have c2:wr.cell? ⟨g,i*6+2,none⟩=some (.slice none 0 0):=(I 2 (by decide)).1;have c3:wr.cell? ⟨g,i*6+3,none⟩=some (.slice none 0 0):=(I 3 (by decide)).1;have c4:wr.cell? ⟨g,i*6+4,none⟩=some (.int .i64 0):=(I 4 (by decide)).1;have c5:wr.cell? ⟨g,i*6+5,none⟩=some (.int .i64 0):=(I 5 (by decide)).1;have Vh:wr.cell? ⟨p,1,none⟩=some (.slice (some ⟨g,0,none⟩) s rc):=v.is.at 1 rfl;have av:=aa (B_ (w:=wr) (F:=N) (hd:=hd) (la:=la) (ln:=ln) (lc:=lc) (Ls:=Ls) H sV.1 sV.2 none none 0 0 0 0 0 0);have KO:=aa v;have ac:=aa sV;have Re:=aa j;have BA:=aa T;have ap:=aa O;have HA:=aa V;have q:=aa DZ;clear I H sV j hr v T L O V DZ e1 e3;go_wp2_with fail;refine av.out.mono ?_;rintro e w3⟨bv,rfl,x,W⟩;go_wp2_with fail;have ab:=BZ Ls;have aH:ln<10000:=by rw[BA.out];exact ac.out.1
     rw[<-BA.out] at ab x;have ar:=uS (r:=(hd,.slice la ln lc,Ls)) ac.out.2;have ha:bG w3 bv (ds (gT Ls)):=by
      rw[<-ab,<-show(ds (gT Ls)).length=(gT Ls).length by simp[ds]] at x;exact(Sl.aU x).any
     have NW:=ZF ha (by omega) (Ll Ls) (λb hb=>by have:=ar b hb;unfold Go.Cd.B at this;omega);refine NW.mono ?_;rintro e w4⟨rv,e0,rfl,X,ad⟩;have ay:V8 (hd,.slice la ln lc,Ls)=aW (gT Ls):=(Li _).symm;have j:=Re.out;rw[ay] at j;rw[j] at ah;have ao:e0=0/\jE w4 rv (gT Ls):=by
      rcases ad with⟨_,h2,h3⟩|⟨h1,_⟩
      ·exact⟨h2,h3⟩
      omega
     obtain⟨rfl,D⟩:=ao;obtain⟨s1,s2,rfl,am,ag⟩:=id D;obtain⟨f,d,rfl,_,_⟩:=am.out;obtain⟨l,n,rfl,_,_⟩:=ag.out;have E:Below wr.heap.size wr w4:=af W X;have an:B<=wr.heap.size:=by have:=KO.out.low;have:=KO.out.hi;omega
     have lN:=hE.trans (E.mono an);have Y9:=KO.out.ext E;obtain⟨P,hP⟩:=ae (aW (gT Ls));obtain⟨F,Y⟩:=ae (gF (Rs.take i));obtain⟨c,Q⟩:=ae ((ds (gT Ls)).length);obtain⟨m,R⟩:=ae ((ds (weights (gT Ls))).length);rw[<-hP,<-Q,<-R] at D;rw[<-hP,<-Y] at j ah;rw[<-hP,<-Q,<-R,<-Y];have k4:=Y9.yE q.out;have Yr:=Y9.Ie q.out ((hd,.slice la ln lc,Ls),(.slice f c d,.slice none 0 0,0),0) 2 (.slice f c d) (by decide) rfl rfl ⟨FQ.mk,FQ.mk⟩ (o:=i*6+2) rfl;have k5:=Yr.yE q.out;have C:=Yr.Ie q.out ((hd,.slice la ln lc,Ls),(.slice f c d,.slice l m n,0),0) 3 (.slice l m n) (by decide) rfl rfl ⟨FQ.mk,FQ.mk⟩ (o:=i*6+2+1) rfl;have k6:=C.yE q.out;have y:=C.Ie q.out ((hd,.slice la ln lc,Ls),(.slice f c d,.slice l m n,P),0) 4 (.int .i64 P) (by decide) rfl rfl ⟨FQ.mk,FQ.mk⟩ (o:=i*6+2+2) rfl;have k7:=y.yE q.out;have S:=y.Ie q.out ((hd,.slice la ln lc,Ls),(.slice f c d,.slice l m n,P),F) 5 (.int .i64 F) (by decide) rfl rfl ⟨FQ.mk,FQ.mk⟩ (o:=i*6+5) rfl;have k8:=S.yE q.out;have t1:=bJ.put (o:=i*6+2) (⟨(bV Y9.runs (k:=g) rfl).choose_spec⟩:Is w4 g _ eX) (.slice f c d);have t2:=bJ.put (o:=i*6+2+1) (⟨(bV Yr.runs (k:=g) rfl).choose_spec⟩:Is _ g _ eX) (.slice l m n);have t3:=bJ.put (o:=i*6+2+2) (⟨(bV C.runs (k:=g) rfl).choose_spec⟩:Is _ g _ eX) (.int .i64 P);have t4:=bJ.put (o:=i*6+5) (⟨(bV y.runs (k:=g) rfl).choose_spec⟩:Is _ g _ eX) (.int .i64 F);have aw:=aa (hC.trans ((bJ.of_below eX E).trans (t1.trans (t2.trans (t3.trans t4)))));have M:=(((D.iQ t1 (by decide)).iQ t2 (by decide)).iQ t3 (by decide)).iQ t4 (by decide);clear t1 t2 t3 t4 hC;have Z:=S.af0 q.out M (by rw[HA.out,Y]);have kL:Below B w _:=aj (aj (aj (aj lN (b:=g) (off:=i*6+2) (u:=.slice f c d) t) (b:=g) (off:=i*6+2+1) (u:=.slice l m n) t) (b:=g) (off:=i*6+2+2) (u:=.int .i64 P) t) (b:=g) (off:=i*6+5) (u:=.int .i64 F) t;have aK:w4.cell? ⟨g,i*6+2,none⟩=some (.slice none 0 0):=(k4 2 (by decide)).1;have aI:w4.frozen? ⟨g,i*6+2,none⟩=false:=(k4 2 (by decide)).2;have az:(w4.setCell ⟨g,i*6+2,none⟩ (.slice f c d)).cell? ⟨g,i*6+2+1,none⟩=some (.slice none 0 0):=(k5 3 (by decide)).1;have aA:(w4.setCell ⟨g,i*6+2,none⟩ (.slice f c d)).frozen? ⟨g,i*6+2+1,none⟩=false:=(k5 3 (by decide)).2;have aM:((w4.setCell ⟨g,i*6+2,none⟩ (.slice f c d)).setCell ⟨g,i*6+2+1,none⟩ (.slice l m n)).cell? ⟨g,i*6+2+2,none⟩=some (.int .i64 0):=(k6 4 (by decide)).1;have aJ:((w4.setCell ⟨g,i*6+2,none⟩ (.slice f c d)).setCell ⟨g,i*6+2+1,none⟩ (.slice l m n)).frozen? ⟨g,i*6+2+2,none⟩=false:=(k6 4 (by decide)).2;have aF:(((w4.setCell ⟨g,i*6+2,none⟩ (.slice f c d)).setCell ⟨g,i*6+2+1,none⟩ (.slice l m n)).setCell ⟨g,i*6+2+2,none⟩ (.int .i64 P)).cell? ⟨g,i*6+5,none⟩=some (.int .i64 0):=(k7 5 (by decide)).1;have aD:(((w4.setCell ⟨g,i*6+2,none⟩ (.slice f c d)).setCell ⟨g,i*6+2+1,none⟩ (.slice l m n)).setCell ⟨g,i*6+2+2,none⟩ (.int .i64 P)).frozen? ⟨g,i*6+5,none⟩=false:=(k7 5 (by decide)).2;have aC:((((w4.setCell ⟨g,i*6+2,none⟩ (.slice f c d)).setCell ⟨g,i*6+2+1,none⟩ (.slice l m n)).setCell ⟨g,i*6+2+2,none⟩ (.int .i64 P)).setCell ⟨g,i*6+5,none⟩ (.int .i64 F)).cell? ⟨g,i*6+2,none⟩=some (.slice f c d):=(k8 2 (by decide)).1;have aL:((((w4.setCell ⟨g,i*6+2,none⟩ (.slice f c d)).setCell ⟨g,i*6+2+1,none⟩ (.slice l m n)).setCell ⟨g,i*6+2+2,none⟩ (.int .i64 P)).setCell ⟨g,i*6+5,none⟩ (.int .i64 F)).cell? ⟨g,i*6+2+1,none⟩=some (.slice l m n):=(k8 3 (by decide)).1;have aB:((((w4.setCell ⟨g,i*6+2,none⟩ (.slice f c d)).setCell ⟨g,i*6+2+1,none⟩ (.slice l m n)).setCell ⟨g,i*6+2+2,none⟩ (.int .i64 P)).setCell ⟨g,i*6+5,none⟩ (.int .i64 F)).cell? ⟨g,i*6+2+2,none⟩=some (.int .i64 P):=(k8 4 (by decide)).1;have G:=aa Z;have al:=aa kL;have ax:=aa M;have aG:=aa Y;have ai:=aa hP;clear k4 k5 k6 k7 k8 Y9 Yr C y S Z kL D M am ag Y hP ad lN hE E W X x ha NW Q R;go_wp2_with fail;refine(H6 ax.out.weak (Ll Ls) (by rw[<-ai.out];omega)).mono ?_
     rintro e w5⟨rfl,K⟩;rw[<-ai.out];have aq:=G.out.ext K;have Ko:=al.out.trans (K.mono (ia au al.out.size));have e9:IntKind.i64.wrap ((F:Int)+(P:Int))=((F+P:Nat):Int):=by rw[kf _ (by omega)];omega
     go_wp2_with fail;go_roundw
     case rel=>
      refine⟨i+1,by omega,by simp,by rw[j,Int.natCast_add],⟨A++[(((hd,Value.slice la ln lc,Ls),(Value.slice f c d,Value.slice l m n,(P:Int)),(F:Int)):qx)],by rw[j5,HA.out,ap.out];rfl,?_⟩,Ko,aw.out.trans (.of_below _ K)⟩;rw[kl];exact aq
     case measure=>simp[intOf];omega
    have zi:=gI (show s<=i by omega);obtain rfl:i=s:=by omega
    have ht:Rs.take i=Rs:=iu (by rw[Yq.out];exact d' _);have hd:Rs.drop i=[]:=qq (by rw[Yq.out];exact d' _);rw[ht] at V;rw[hd,sE,me] at v;have HA:=aa V;have G:=aa v;have q:=aa DZ;clear V v DZ ht hd e1 e3;go_wp2_with fail
    go_end0
    refine⟨rfl,A,HA.out,?_,hE,hC⟩;simp only[q.out];exact G.out
def dP (w:World) (B p dp:Nat) (K:Nat->Nat) (l:List Nat):Prop:=
 ∃N c b a,(a.map (·.1)).map cB.sp=bq K l/\
  kg w B N p (.pointer (some ⟨dp,0,none⟩)) c b (decide (gF (a.map (·.1))<=16384)) a (if decide (gF (a.map (·.1))<=16384)=true then a.length else 0)/\
  bT w (.agg #[b]) (gF (a.map (·.1)))
end Go.Proofs.YtmnimbnojdndmaaGreatDoor
