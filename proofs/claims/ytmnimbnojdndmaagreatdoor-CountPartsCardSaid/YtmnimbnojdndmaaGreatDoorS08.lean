/- State by state it is added up what is possible; no condition. -/
import Derived.Test.YtmnimbnojdndmaaGreatDoorS07
import Derived.Lib.SlicesSearch
import Derived.Deep.LoopGhost
set_option maxRecDepth 100000
set_option maxHeartbeats 6400000
set_option linter.all false
namespace Go.Proofs.YtmnimbnojdndmaaGreatDoor
open Go.RowKit Go.Lib Go.Cd _root_.Go.Proofs.Tryz
def aa6 (x y:Int) (w:World):Calls prog 141 #[.int .i32 x,.int .i32 y] w λe w'=>e=.returned (.bool (decide (x<y)))/\w'=w:=aK x y w
def qO (x:Int) (w:World):Calls prog 265 #[.int .i32 x] w λe w'=>e=.returned (.bool false)/\w'=w:=by
 go_enter func265,ntmps265;go_wp2;go_ret;exact⟨by simp,rfl⟩
def U_ (a:Option Addr) (n c:Nat) (zs:List Int) (x:Int) (w:World) (u:n<=zs.length) (v:n<4611686018427387904) (l:∀j,j<n->∃b off,a=some ⟨b,off,none⟩/\w.cell? ⟨b,off+j,none⟩=some (.int .i32 (zs.getD j 0))) (C:(zs.take n).Pairwise (·<=·)) :
 Calls prog 239 #[.slice a n c,.int .i32 x] w λe w'=>e=.returned (.tuple #[.int .i64 ((zs.take n).countP (·<x):Nat),.bool ((zs.take n).contains x)])/\∃q,w'=w.drewN q:=by
 have S:Aside (∀a b,a<=b->b<n->zs.getD a 0<=zs.getD b 0):=Lib.sorted_at zs n u C;clear C;go_enter func239,ntmps239;go_wp2
 go_loopg [7,8] n (λg s7 s8 wr=>∃f d q:Nat,s7=.int .i64 f/\s8=.int .i64 d/\f<=d/\d<=n/\d-f<=g/\wr=w.drewN q/\(∀t,t<f->zs.getD t 0<x)/\(∀t,d<=t->t<n->x<=zs.getD t 0))
 case atStart=>exact⟨0,n,0,rfl,rfl,ic _,d' _,by omega,rfl,λt o=>absurd o (tM _),λt p r=>by omega⟩
 case round=>
  obtain⟨f,d,q,rfl,rfl,G,k,J,rfl,p,r⟩:=hrel;have I:Aside ((∀t,t<f->zs.getD t 0<x)/\(∀t,d<=t->t<n->x<=zs.getD t 0)):=⟨p,r⟩;clear p r;by_cases F:f<d
  ·obtain⟨b,off,rfl,D⟩:=l ((f+d) / 2) (by omega);clear l;generalize m:zs.getD ((f+d) / 2) 0=y at D;have Y:Aside (zs.getD ((f+d) / 2) 0=y):=m;clear m;by_cases i:y<x
   ·go_wp2_with (first|(go_at_call 141;refine(aa6 _ _ _).mono ?_;rintro e w'⟨rfl,rfl⟩)|(go_at_call 265;refine(qO _ _).mono ?_;rintro e w'⟨rfl,rfl⟩))
    go_roundg (d-((f+d) / 2+1))
    case measure=>omega
    case rel=>
     refine⟨(f+d) / 2+1,d,_,by rw[show((f:Int)+(d:Int)) / 2+1=(((f+d) / 2+1:Nat):Int) by omega],rfl,by omega,k,d' _,rfl,λt o=>?_,I.out.2⟩;have:=S.out t ((f+d) / 2) (by omega) (by omega);rw[Y.out] at this;omega
   go_wp2_with (first|(go_at_call 141;refine(aa6 _ _ _).mono ?_;rintro e w'⟨rfl,rfl⟩)|(go_at_call 265;refine(qO _ _).mono ?_;rintro e w'⟨rfl,rfl⟩))
   go_roundg ((f+d) / 2-f)
   case measure=>omega
   case rel=>
    refine⟨f,(f+d) / 2,_,rfl,by rw[show((f:Int)+(d:Int)) / 2=(((f+d) / 2:Nat):Int) by omega],by omega,by omega,d' _,rfl,I.out.1,λt o s=>?_⟩;have:=S.out ((f+d) / 2) t o s;rw[Y.out] at this;omega
  have:d=f:=by omega
  subst this;obtain⟨z,B⟩:=Lib.search_end zs n d x u k I.out.1 I.out.2 S.out;have E:Aside ((zs.take n).countP (·<x)=d/\(zs.take n).contains x=decide (d<n/\zs.getD d 0=x)):=⟨z,B⟩;clear z B;by_cases A:d<n
  ·obtain⟨b,off,rfl,H⟩:=l d (by omega);clear l;generalize m:zs.getD d 0=y at H;have Y:Aside (zs.getD d 0=y):=m;clear m;by_cases i:y=x
   ·go_wp2_with (first|(go_at_call 141;refine(aa6 _ _ _).mono ?_;rintro e w'⟨rfl,rfl⟩)|(go_at_call 265;refine(qO _ _).mono ?_;rintro e w'⟨rfl,rfl⟩));go_ret2;refine⟨?_,_,rfl⟩;rw[E.out.1,E.out.2,Y.out,decide_eq_true (show d<n/\y=x from ⟨A,i⟩)]
    first|rfl|simp[*]
   go_wp2_with (first|(go_at_call 141;refine(aa6 _ _ _).mono ?_;rintro e w'⟨rfl,rfl⟩)|(go_at_call 265;refine(qO _ _).mono ?_;rintro e w'⟨rfl,rfl⟩));go_ret2;refine⟨?_,_,rfl⟩;rw[E.out.1,E.out.2,Y.out,decide_eq_false (show ¬(d<n/\y=x) from λh=>i h.2)]
   first|rfl|simp[*]
  clear l;go_wp2_with (first|(go_at_call 141;refine(aa6 _ _ _).mono ?_;rintro e w'⟨rfl,rfl⟩)|(go_at_call 265;refine(qO _ _).mono ?_;rintro e w'⟨rfl,rfl⟩));go_ret2;refine⟨?_,_,rfl⟩;rw[E.out.1,E.out.2,decide_eq_false (show ¬(d<n/\zs.getD d 0=x) from λh=>A h.1)]
  first|rfl|simp[*]
def J7 {w:World} {v:Value} (l:List Nat) (c:Nat) (n:bG w v (aM l)) (s:l.length<1000000) (o:l.Pairwise (· < ·)) :
 Calls prog 239 #[v,.int .i32 c] w λe w'=>e=.returned (.tuple #[.int .i64 (l.countP (·<c):Nat),.bool (l.contains c)])/\Below w.heap.size w w':=by
 obtain⟨a,cap,rfl,_,k⟩:=n.out;rw[bF] at *
 have h:=U_ a l.length cap (l.map λd:Nat=>(d:Int)) (c:Int) w (by simp) (by omega) (λj f=>by
  obtain⟨b,off,g,_,i⟩:=k j (by simpa using f);refine⟨b,off,g,i.trans ?_⟩;rw[dR _ _ f,ir,nu,gx f];rfl) (by
  rw[iu (by simp),y4]
  exact o.imp λh=>by omega)
 rw[iu (by simp)] at h;refine h.mono ?_;rintro e w'⟨rfl,q,rfl⟩;refine⟨?_,⟨rfl,rfl,rfl,d' _,λ_ _=>rfl⟩⟩;have m:(l.map λd:Nat=>(d:Int)).countP (λy=>decide (y<(c:Int)))=l.countP λy=>decide (y<c):=by
  rw[List.countP_map];congr 1;funext y;simp
 have p:(l.map λd:Nat=>(d:Int)).contains (c:Int)=l.contains c:=by
  rw[tW];simp only[List.contains_iff_mem,j8];constructor
  ·rintro⟨a,r,e⟩;obtain rfl:a=c:=by omega
   exact r
  intro h;exact⟨c,h,rfl⟩
 rw[m,p]
def Rm {l:List Nat} (i:l.Pairwise (· < ·)) (c:Nat):places l c=(l.countP λy=>decide (y<c))+if l.contains c=true then 1 else 0:=by
 unfold places
 induction l with
 | nil=>rfl
 | cons a l ih=>
   obtain⟨g,f⟩:=mT.1 i;rw[zy,zy,ih f,List.contains_cons];rcases pR a c with h|h|h
   ·have d:(c==a)=false:=by simp;omega
    have b:decide (a<c)=true:=decide_eq_true h;have e:decide (a<=c)=true:=decide_eq_true (by omega);simp only[d,Bool.false_or,b,e,if_true];omega
   ·subst h;have j:l.contains a=false:=by
     rw[Bool.eq_false_iff];intro h;have:=g a (by simpa using h);omega
    rw[j];simp
   have d:(c==a)=false:=by simp;omega
   have b:decide (a<c)=false:=decide_eq_false (by omega);have e:decide (a<=c)=false:=decide_eq_false (by omega);simp only[d,Bool.false_or,b,e];simp
def NC {w:World} {v:Value} (l:List Nat) (c:Nat) (i:bG w v (aM l)) (p:l.length<1000000) (j:l.Pairwise (· < ·)) :
 Calls prog 207 #[.agg #[v],.int .i32 c] w λe w'=>e=.returned (.int .i64 (places l c))/\Below w.heap.size w w':=by
 have b:=ah (w:=w) (.cells #[v] 148);have m:=Is.new w #[v] 148;have f:=aa (J7 l c (i.mono b) p j);have:=m.at 0 rfl;have d:=aa (Rm j c);obtain⟨a,cap,rfl,_,_⟩:=i.out;rw[bF] at *;have:(l.countP λy=>decide (y<c))<=l.length:=xT;generalize (l.countP λy=>decide (y<c))=k at *;generalize l.length=n at *;clear i j;go_enter func207,ntmps207;cases g:l.contains c with
 | true=>
   rw[g] at f d;clear g;go_wp2_with (go_at_call 239;refine f.out.mono ?_;rintro e o⟨rfl,h⟩);go_ret;rw[d.out];exact⟨by simp,b.trans (h.mono b.size)⟩
 | false=>
   rw[g] at f d;clear g;go_wp2_with (go_at_call 239;refine f.out.mono ?_;rintro e o⟨rfl,h⟩);go_ret;rw[d.out];exact⟨by simp,b.trans (h.mono b.size)⟩
def Rn (n:Nat):bits .and .i64 (n:Int) 1=((n % 2:Nat):Int):=by
 have a:(BitVec.ofInt 64 1).toNat=2 ^ 1-1:=by decide
 have key:(BitVec.ofInt 64 n &&& BitVec.ofInt 64 1).toNat=((n:Int) % ((2 ^ 64:Nat):Int)).toNat % 2 ^ 1:=by
  rw[sR,pH,a,oy]
 show IntKind.i64.wrap ((BitVec.ofInt 64 n &&& BitVec.ofInt 64 1).toNat:Nat)=_;rw[key,ph];omega
def J8 {w:World} {v:Value} (l:List Nat) (c:Nat) (b:bG w v (aM l)) (m:l.length<1000000) (f:l.Pairwise (· < ·)) :
 Calls prog 171 #[.agg #[v],.int .i32 c] w λe w'=>e=.returned (.bool (decide (places l c % 2=1)))/\Below w.heap.size w w':=by
 have d:=ah (w:=w) (.cells #[v] 148);have g:=Is.new w #[v] 148;have j:=aa (NC l c (b.mono d) m f);have:=g.at 0 rfl;have:places l c<=l.length:=xT;obtain⟨a,cap,rfl,_,_⟩:=b.out;rw[bF] at *;generalize places l c=k at *;generalize l.length=n at *;clear b f;go_enter func171,ntmps171;go_wp2_with (go_at_call 207;refine j.out.mono ?_;rintro e p⟨rfl,h⟩);go_ret;refine⟨?_,d.trans (h.mono d.size)⟩;show Ending.returned (Value.bool (bits BinOp.and IntKind.i64 (k:Int) 1==1))=_;rw[Rn];congr 2;rw[tW];simp;omega
end Go.Proofs.YtmnimbnojdndmaaGreatDoor
namespace Go.Proofs.YtmnimbnojdndmaaGreatDoor
open Go.RowKit Go.Cd _root_.Go.Proofs.Tryz
def Va {P:Program} {W:World} {ops:Array Oper} {rest:List Oper} {o:Oper} {a:Act} {Q:Exit->Act->World->Prop} (f:o.guard=none) (s x:Operand) (t:TypeId)
 (A:o.op=.call { callee:=.builtin .append,args:=#[s,x],argTypes:=#[t,t] })
 (base:Nat) (e:TypeId) (z:Value) (b:Nat) (q:Elem P t e z b)
 (v:Value) (n:Nat) (i:List Value) (C:a.eval s=v) (d:W.ownsRow base e 1 v n i)
 (u u2:Value) (y:a.eval x=.slice (some ⟨W.heap.size,0,none⟩) 2 2) (r:u.oneCell'=true) (m:u2.oneCell'=true)
 (c:(n+2)*b<=140737488355328) (j:n+2<=maxLen) (l:World) (p:Below base l W) (g:base<=l.heap.size)
 (h:∀v' w',w'.ownsRow base e 1 v' (n+2) (i++[u,u2])->Below base l w'->wpList P ops Q rest (a.put o.dst v') w'):wpList P ops Q (o::rest) a (W.alloc (.cells #[u,u2] e)):=by
 have:=p.size;refine bR f s x t A base e z b q v n i C (d.alloc _) _ [u,u2] y (rP W #[u,u2] e) (by simp[r,m]) (by simpa using j) (by simpa using c) (by simp;omega) ?_;intro v' w' m w;refine h v' w' (by simpa using m) ((p.alloc (by omega) _).grown w (by simp;omega) ?_);intro k B;exact(d.lt k B).1
def ND {w:World} (a:Option Addr) (cap:Nat) :
 Calls prog 162 #[.slice a 0 cap] w λe w'=>e=.returned (.slice a 0 cap)/\w'=w:=by
 go_enter func162,ntmps162;go_wp2;go_ret;exact⟨rfl,rfl⟩
def GV {w:World} {base:Nat} {v:Value} (l:List Nat) (b:w.ownsRow base aN 1 v l.length (aM l)) (d:l.length<1000000) :
 Calls prog 162 #[v] w λe w'=>∃r,e=.returned r/\w'.ownsRow base aN 1 r (Ew l).length (aM (Ew l))/\w.grownBy w' v.ownBlock:=by
 by_cases h0:l=[]
 ·subst h0;obtain⟨a,cap,rfl,_,_⟩:=ak b;refine(ND a cap).mono ?_;rintro e w'⟨c,rfl⟩;exact⟨_,c,b,⟨rfl,rfl,rfl,d' _,λ_ _ _=>rfl⟩⟩
 exact J6 l b d h0
def last_at {O:List Nat} {c:Nat} (h:0<O.length):O.getLast? = some c↔O[O.length-1]=c:=by
 rw[sS,gx (by omega)];simp
def Vb {O:List Nat} {c:Nat} (h:0<O.length) (b:O[O.length-1]=c):lu O c=O.set (O.length-1) (c+1):=by
 have a:=(last_at h).2 b;unfold lu;rw[if_pos a];obtain⟨p,rfl⟩:=vp.1 a;rw[rl,gn,qS,ta,mm _ _ (d' _)];simp
def uD {w:World} {v:Value} (l:List Nat) (hv:Sl aN w v (aM l)) (hp:fU v) (hc:∀c∈l,aP c) (hl:l.length<100000) :
 Calls prog 115 #[v] w λe w'=>∃r,e=.returned (.agg #[r])/\w'.ownsRow w.heap.size aN 1 r (lC (gu l)).length (aM (lC (gu l)))/\Below w.heap.size w w':=by
 have U:=ah (w:=w) (.cells #[.slice none 0 0] 148);obtain⟨L,d⟩:=ae (w.alloc (.cells #[.slice none 0 0] 148));have k0:=Is.nw d;have an:L.heap.size=w.heap.size+1:=by rw[d];simp
 rw[<-d] at U;have CL:=aa (kX l (hv.mono U) hp (by omega));have Ro:=aa (show ∀c∈gu l,aP c from λc h=>hc c (((lq l).2 c).1 h));have I:=xR l;obtain⟨pa,pn,pc,rfl,_⟩:=id hp;clear hp hv hc;go_enter func115,ntmps115;go_wp2_with fail;rw[<-d];clear d;refine CL.out.mono ?_;rintro e w1⟨r1,rfl,N,H⟩;have ST:=aa (wh l N (by omega));have u:=H;obtain⟨a1,c1,rfl,_,_⟩:=ak N;clear CL;go_wp2_with fail;refine ST.out.mono ?_;rintro e w2⟨rfl,E,F⟩;have y:Below L.heap.size L w2:=u.grown F u.size λk X=>(N.lt k X).1;rw[<-fP l] at E;have CO:=aa (GV (b_ l) E (by rw[fP];omega));rw[fP] at CO E;clear ST N u H F;go_wp2_with fail;refine CO.out.mono ?_;rintro e f⟨r3,rfl,T,G⟩;have i:Below L.heap.size L f:=y.grown G y.size λk X=>(E.lt k X).1;rw[show Ew (b_ l)=gu l from rfl] at T;clear CO E y G;have s3:=(Sl.aU T).any;obtain⟨S,A⟩:=ae (gu l);rw[<-A] at T I Ro s3;have ab:=aa A;clear A;obtain⟨n,Q⟩:=ae S.length;obtain⟨a3,c3,rfl,_,hx⟩:=bG.nN s3 Q;rw[<-Q] at T I;have HX:=aa hx;have HN:=aa Q;have J:=aa (λj=>AZ (S.take j));unfold lC at J;have k3:Is f w.heap.size #[.slice none 0 0] 148:=⟨(i.block w.heap.size (by omega)).trans k0.at_⟩;have ag:w.heap.size+1<=f.heap.size:=by have:=i.size;omega
 have ac:=af U i;clear i U hx Q s3 k0;go_wp2_with fail;go_loopw [4,15] (λov iv wr=>∃j:Nat,j<=n/\iv=.int .i64 j/\wr.ownsRow f.heap.size aN 1 ov ((S.take j).foldl lu []).length (aM ((S.take j).foldl lu []))/\Below f.heap.size f wr) (λ_ iv _=>n-(intOf iv).toNat)
 case atStart=>exact⟨0,ic _,rfl,iS _ _ _ _,gS _ _⟩
 case round=>
  obtain⟨j,hj,rfl,a,p⟩:=hrel;by_cases am:j<n
  ·have zj:=eG (show j<n by omega);have x:j<S.length:=by have:=HN.out;omega
   obtain⟨b,off,rfl,_,K⟩:=HX.out j x;have K:=aB p K;have B:=Ro.out _ (gw x);have HT:=aa (show(S.take (j+1)).foldl lu []=lu ((S.take j).foldl lu []) S[j] by rw[gR x,rk];rfl);have M:=J.out j;rw[jn,pZ (by omega)] at M;generalize S[j]=c at *;generalize (S.take j).foldl lu []=O at *;have ai:=B.1
   have V:=aa (show ∀W,Calls prog 96 #[.int .i32 c] W λe w'=>e=.returned (.bool true)/\w'=W from λW=>by
    have:=gZ (w:=W) c (by omega)
    rwa [decide_eq_true B] at this)
   obtain⟨m,z⟩:=ae O.length;rw[<-z] at a M;clear B;by_cases h0:m=0
   ·have hO:O=[]:=iJ.1 (by omega);subst hO;subst h0;obtain⟨C,t,rfl,_,_⟩:=ak a;clear z
    go_wp2_with (first
     | (go_at_call 96;refine(V.out _).mono ?_;rintro e w5⟨rfl,rfl⟩)
     | (at_builtin;refine Va rfl _ _ 35 rfl f.heap.size aN _ 4 bW (.slice C 0 t) 0 _ rfl a (.int .i32 (c:Nat)) (.int .i32 ((c+1:Nat):Int)) rfl rfl rfl (by omega) (by unfold maxLen;omega) _ (gS _ _) p.size ?_;intro v1 w6 s mF;obtain⟨a6,c6,rfl,_,_⟩:=ak s))
    go_roundw
    case rel=>
     refine⟨j+1,by omega,by simp,?_,p.trans mF⟩;rw[HT.out];exact s
    case measure=>simp[intOf];omega
   obtain⟨k,rfl⟩:∃k,m=k+1:=⟨m-1,by omega⟩;have hz:decide ((0:Int)<((k+1:Nat):Int))=true:=by simp
   obtain⟨g,t,rfl⟩:=ownsRow_succ a;have o:k<O.length:=by omega
   obtain⟨ck,fk⟩:=jY a (j:=k) (by simpa using o);rw[dR _ _ o] at ck;have hd:=(a.lt g rfl).1;have Y:=aa (λ(h:O[k]=c)=>Vb (O:=O) (c:=c) (by omega) (by simpa [<-z] using h))
   have ad:=aa (show O[k]≠c->lu O c=O++[c,c+1] from λh=>by
    unfold lu;rw[if_neg];intro h1;have h2:=(last_at (by omega)).1 h1;simp only[<-z,ta] at h2
    exact h h2)
   have HM:=aa z;by_cases R:O[k]=c
   ·have zq:((O[k]:Int)==(c:Int))=true:=by simp;omega
    generalize O[k]=q at *;obtain⟨s,M4⟩:=a.stored k (.int .i32 ((c+1:Nat):Int));have Z:=aa s;have al:=aa M4;clear z s M4 a o;go_wp2_with (go_at_call 96;refine(V.out _).mono ?_;rintro e w5⟨rfl,rfl⟩);go_roundw
    case rel=>
     refine⟨j+1,by omega,by simp,?_,p.trans (aj (gS _ _) hd)⟩;rw[HT.out,Y.out R,m7,<-HM.out,ta];have:=Z.out;simpa [aM,th] using this
    case measure=>simp[intOf];omega
   have zq:((O[k]:Int)==(c:Int))=false:=by simp;omega
   generalize O[k]=q at *;clear z o
   go_wp2_with (first
    | (go_at_call 96;refine(V.out _).mono ?_;rintro e w5⟨rfl,rfl⟩)
    | (at_builtin;refine Va rfl _ _ 35 rfl f.heap.size aN _ 4 bW (.slice (some ⟨g,0,none⟩) (k+1) t) (k+1) _ rfl a (.int .i32 (c:Nat)) (.int .i32 ((c+1:Nat):Int)) rfl rfl rfl (by omega) (by unfold maxLen;omega) _ (gS _ _) p.size ?_;intro v1 w6 s mF;obtain⟨a6,c6,rfl,_,_⟩:=ak s))
   go_roundw
   case rel=>
    refine⟨j+1,by omega,by simp,?_,p.trans mF⟩;rw[HT.out,ad.out R,gn,<-HM.out,a_];exact s
   case measure=>simp[intOf];omega
  have zj:=gI (show n<=j by omega);obtain rfl:j=n:=by omega
  have hT:S.take j=S:=iu (by have:=HN.out;omega);rw[hT] at a;rw[show S.foldl lu []=lC S from rfl] at a;obtain⟨C,t,rfl,_,_⟩:=ak a;have K3:=k3.mono p;have e0:=K3.at 0 rfl;have f0:=K3.frozen 0;have D:=aa a;clear a hT;go_wp2
  (try simp only[Exit.inBlock,Exit.then])
  have P:=K3.set 0 (.slice C (lC S).length t);have v0:=P.at 0 rfl;refine bodyPost_ret (v:=.agg #[.slice C (lC S).length t]) (by simp[results,results115,go_sem,v0]) rfl ?_;have R:=bn D.out (Go.Cd.aQ D.out (k:=w.heap.size) (by omega)) 0 (.slice C (lC S).length t);rw[<-ab.out];exact⟨_,rfl,aT R (show w.heap.size<=f.heap.size by omega),aj (ac.trans (p.mono (by omega))) (d' _)⟩
end Go.Proofs.YtmnimbnojdndmaaGreatDoor
namespace Go.Proofs.YtmnimbnojdndmaaGreatDoor
open Go.RowKit Go.Cd Go.Shelf
def aa_ (T:List aG):Nat->Int
 | 0=>-1
 | k+1=>match T[k]? with|some r=>(r.code:Int)|none=>-1
def uE {T:List aG} {k:Nat} (h:k<T.length):aa_ T (k+1)=(T[k].code:Nat):=by
 show(match T[k]? with|some r=>(r.code:Int)|none=>-1)=_;rw[gx h]
def jy:∀{T:List aG},rising T->∀(i k:Nat) (b:i<T.length) (a:k<T.length),i<k->T[i].code<T[k].code
 | r::T,h,0,k+1,_,a,_=>h.1 _ (gw (by simpa using a))
 | r::T,h,i+1,k+1,b,a,hlt=>jy h.2 i k (by simpa using b) (by simpa using a) (by omega)
def J9 {T:List aG} (h:rising T) (j:Nat) (a:j<T.length):aa_ T j<(T[j].code:Nat):=by
 cases j with
 | zero=>show(-1:Int)<_;omega
 | succ k=>
   have:=jy h k (k+1) (by omega) a (by omega);rw[uE (by omega)];omega
structure NG (T:List aG):Prop where
 ok:∀r∈T,Bq r
 says:∀r∈T,r.cls≠0\/r.map≠[]
 chr:∀r∈T,aP r.code
 rise:rising T
 len:T.length<40000
end Go.Proofs.YtmnimbnojdndmaaGreatDoor
namespace Go.Proofs.YtmnimbnojdndmaaGreatDoor
open Go.RowKit Go.Cd _root_.Go.Proofs.Tryz
def GX {w:World} {v:Value} (l:List Nat) (c:Nat) (n:bG w v (aM l)) (q:fU v) (r:l.length<1000000) (k:c∉l) :
 Calls prog 189 #[v,.int .i32 c] w λe w'=>e=.returned (.bool false)/\w'=w:=by
 obtain⟨a,cap,rfl,_,g⟩:=bG.nN n rfl;rcases l with _|⟨x,l⟩
 ·exact AnyE.slices_Contains_empty Tryz.tC a cap (.int .i32 c) w
 obtain⟨b,off,rfl,_,_⟩:=g 0 (by simp)
 have h:=AnyE.slices_Contains Tryz.tC JZ (λx y=>decide (x=y)) (ae_ _ _) b off (x::l).length cap (x::l) c w (d' _) (by omega) (λj d=>by
  obtain⟨p,f,i,_,m⟩:=g j d;cases i;rw[m,getElem!_pos (x::l) j d]
  rfl)
 refine se (h:Calls prog 189 #[.slice (some ⟨b,off,none⟩) (x::l).length cap,.int .i32 c] w _) ?_;rintro e w'⟨rfl,rfl⟩;refine⟨?_,rfl⟩;rw[lB];congr 2;rw[zf];intro y o;simp only[decide_eq_true_eq];rintro rfl;exact k o
def J_ {w:World} (c:Nat) (b:aP c) {v:Value} (l:List Nat) (d:bG w v (aM l)) (g:fU v) (m:l.length<1000000) (i:c∉l) :
 Calls prog 151 #[.string (tx (aV c)),v] w λe w'=>e=.returned (.tuple #[.int .i32 c,.string ⟨#[]⟩])/\w'=w:=by
 have k:=aa (qJ (w:=w) c b.1);have f:=aa (gZ (w:=w) c (by have:=b.1;omega));rw[decide_eq_true b] at f;have j:=aa (GX l c d g m i);generalize tx (aV c)=s at *;obtain⟨a,cap,rfl,_,_⟩:=bG.nN d rfl;clear d g i b;go_enter func151,ntmps151
 go_wp2_with (first
  | (go_at_call 188;refine k.out.mono ?_;rintro e h⟨rfl,rfl⟩)
  | (go_at_call 96;refine f.out.mono ?_;rintro e h⟨rfl,rfl⟩)
  | (go_at_call 189;refine j.out.mono ?_;rintro e h⟨rfl,rfl⟩))
 go_ret2;exact⟨rfl,rfl⟩
def rY:∀(l a:List Nat) (x:Nat),x∈dW a l↔x∈l/\x∉a
 | [],a,x=>by simp[dW]
 | c::l,a,x=>by
   unfold dW;have g:=rY l (a++[c]) x;by_cases h:c∈a
   ·rw[if_pos h,g];simp only[ie,jt,kt,or_false];constructor
    ·rintro⟨b,d⟩;exact⟨.inr b,λf=>d (.inl f)⟩
    rintro⟨b|b,d⟩
    ·subst b;exact absurd h d
    exact⟨b,λf=>f.elim d (λe=>by subst e;exact d h)⟩
   rw[if_neg h,jt,g];simp only[ie,jt,kt,or_false];constructor
   ·rintro (b|⟨b,d⟩)
    ·subst b;exact⟨.inl rfl,h⟩
    exact⟨.inr b,λf=>d (.inl f)⟩
   rintro⟨b|b,d⟩
   ·exact .inl b
   by_cases e:x=c
   ·exact .inl e
   exact .inr ⟨b,λf=>f.elim d e⟩
def qP:∀(l a:List Nat),(dW a l).Nodup
 | [],a=>by simp[dW]
 | c::l,a=>by
   unfold dW;by_cases h:c∈a
   ·rw[if_pos h];exact qP l _
   rw[if_neg h,tS];exact⟨λb=>by have:=((rY l (a++[c]) c).1 b).2;simp at this,qP l _⟩
def xY:∀(l a:List Nat),(dW a l).length<=l.length
 | [],a=>by simp[dW]
 | c::l,a=>by
   unfold dW;have:=xY l (a++[c]);by_cases h:c∈a
   ·rw[if_pos h,im];omega
   rw[if_neg h,im,im];omega
def kE (X:List Nat):List Nat:=lC (gu (dW [] X))
def Rp (X:List Nat) (c:Nat):places (kE X) c % 2=1↔c∈X:=by
 unfold kE;rw[JA (lq _).1,(lq _).2,rY];simp
def NH (X:List Nat):(kE X).Pairwise (· < ·):=Ey (lq _).1
def Rq (X:List Nat):(kE X).length<=2*X.length:=by
 have:=AZ (gu (dW [] X));have:=xR (dW [] X);have:=xY X [];unfold kE;omega
def GY {w:World} (hG:dL w) {X:List Nat} (hX:∀c∈X,aP c) (D:X.length<10000) :
 Calls prog 106 #[.string (tx (eP X))] w λe w'=>∃r:Value,e=.returned (.tuple #[.agg #[r],.nilIface])/\w'.ownsRow w.heap.size aN 1 r (kE X).length (aM (kE X))/\Below w.heap.size w w':=by
 obtain⟨Y,u⟩:=ae (dW [] X);have ab:Y.length<10000:=by have:=xY X [];rw[<-u] at this;omega
 have GZ:∀c∈Y,aP c:=λc h=>hX c ((rY X [] c).1 (u▸h)).1;have N:Y.Nodup:=by rw[u];exact qP X []
 have z:kE X=lC (gu Y):=by rw[u];rfl
 have L:eP X=bA (Y.map aV):=by rw[u];rfl
 have H:(bA (Y.map aV)).length<1000000:=by
  have:∀l:List Nat,(bA (l.map aV)).length<=l.length*7:=λl=>by
   induction l with
   | nil=>simp[bA]
   | cons c l ih=>
     rw[lj,mY,gn,im,im];have:=(bU c).2;omega
  have:=this Y;omega
 have V:=aa (λW=>tT (w:=W) (Y.map aV) (by
  intro p hp;obtain⟨c,_,rfl⟩:=j8.1 hp
  exact⟨λb T=>(dX c b T).1,ia (bU c).2 (by decide)⟩) H)
 rw[z,L];obtain⟨s,hs⟩:=ae (tx (bA (Y.map aV)));rw[<-hs] at V⊢;have M5:=aa GZ;have Z:=aa N;clear hs u GZ N z L H hX D;obtain⟨w0,a⟩:=ae (w.alloc (.cells #[.slice none 0 0] 148));have T:=aO a;have k0:=Is.nw a;have ai:w0.heap.size=w.heap.size+1:=by rw[a];simp
 obtain⟨n,Q⟩:=ae Y.length;have A:=aa Q;have C:(Y.map aV).length=n:=by rw[iz,Q]
 rw[<-Q] at ab;clear Q;go_enter func106,ntmps106;go_wp2_with fail;rw[<-a];clear a;refine(V.out w0).mono ?_;rintro e g⟨v1,rfl,O,f⟩;rw[C] at O;obtain⟨a1,c1,rfl,_,_⟩:=ak O
 have HX:=aa (show ∀i (R:i<Y.length),∃b off,a1=some ⟨b,off,none⟩/\b<g.heap.size/\g.cell? ⟨b,off+i,none⟩=some (.string (tx (aV Y[i]))) from λi R=>by
  obtain⟨a',ad,h0,_,hx⟩:=(Sl.aU O).out;have ha:a'=a1:=by injection h0 with e1;exact e1.symm
  subst ha;obtain⟨b,off,S,h2,h3⟩:=hx i (by simpa using R);refine⟨b,off,S,h2,h3.trans ?_⟩
  simp[qM])
 have k1:=k0.mono f;have K:=af T f;have ag:w.heap.size+1<=g.heap.size:=by have:=f.size;omega
 clear V O C k0 T f;go_wp2_with fail;go_loopw [6,22] (λov iv wr=>∃j:Nat,j<=n/\iv=.int .i64 j/\wr.ownsRow g.heap.size aN 1 ov j (aM (Y.take j))/\Below g.heap.size g wr) (λ_ iv _=>n-(intOf iv).toNat)
 case atStart=>exact⟨0,ic _,rfl,iS _ _ _ _,gS _ _⟩
 case round=>
  obtain⟨j,hj,rfl,m,t⟩:=hrel;by_cases ah:j<n
  ·have zj:=eG (show j<n by omega);have d:j<Y.length:=by have:=A.out;omega
   obtain⟨b,off,rfl,_,M⟩:=HX.out j d;have M:=aB t M;have F:=M5.out _ (gw d);have HT:=aa (show Y.take (j+1)=Y.take j++[Y[j]] from gR d);have G:Y[j]∉Y.take j:=λh=>by
    obtain⟨i,R,e⟩:=l4.1 h;rw[y6] at e;rw[jn] at R;exact qT.1 Z.out i j (by omega) d (by omega) e
   have ST:=aa (DI ((hG.mono K).mono t) Y[j]);have EC:=aa (λ(W:World) (v:Value) (h:W.ownsRow g.heap.size aN 1 v j (aM (Y.take j)))=>J_ (w:=W) Y[j] F (Y.take j) (Sl.aU h).any (fU.aU h) (by rw[jn];omega) G);obtain⟨S,h2⟩:=bU Y[j];have z1:(tx (aV Y[j])).toList.isEmpty=false:=by
    rw[pd,dM];cases e:aV Y[j] with
    | nil=>rw[e] at S;simp at S
    | cons x r=>rfl
   have z2:(⟨#[]⟩:ByteArray).toList.isEmpty=true:=by rw[pd];rfl
   generalize Y[j]=c at *;generalize tx (aV c)=sc at *;clear G F;obtain⟨av,cv,rfl,_,_⟩:=ak m;go_wp2_with fail;refine ST.out.mono ?_;rintro e w2⟨rfl,B⟩;have I:=aH m B;have E:=af t B;have ac:=aa (EC.out w2 _ I);clear ST EC m
   go_wp2_with (first
    | (go_at_call 151;refine ac.out.mono ?_;rintro e w3⟨rfl,rfl⟩)
    | (at_builtin;refine f_ rfl _ _ 35 rfl g.heap.size aN _ 4 bW (.slice av j cv) j _ rfl I (.int .i32 (c:Nat)) rfl rfl (by omega) (by unfold maxLen;omega) _ (gS _ _) E.size ?_;intro v1 w6 o6 mF _ _;obtain⟨a6,c6,rfl,_,_⟩:=ak o6))
   go_roundw
   case rel=>
    refine⟨j+1,by omega,by simp,?_,E.trans mF⟩;rw[HT.out,a_];exact o6
   case measure=>simp[intOf];omega
  have zj:=gI (show n<=j by omega);obtain rfl:j=n:=by omega
  rw[iu (by have:=A.out;omega)] at m;obtain⟨av,cv,rfl,_,_⟩:=ak m;have y:=af K t;have o:=Sl.aU m;have q:=fU.aU m;rw[A.out] at o q;have CH:=aa (uD Y o q M5.out (by have:=A.out;omega));rw[<-A.out] at CH;have K1:=k1.mono t;clear m o q;go_wp2_with fail;refine CH.out.mono ?_;rintro e w3⟨r3,rfl,o3,J⟩;have K3:=K1.mono J;obtain⟨U,c3,rfl,_,_⟩:=ak o3;have e0:=K3.at 0 rfl;have f0:=K3.frozen 0;have al:=t.size;have M6:=aa o3;clear o3;go_wp2
  (try simp only[Exit.inBlock,Exit.then])
  have P:=K3.set 0 (.slice U (lC (gu Y)).length c3);have v0:=P.at 0 rfl;refine bodyPost_ret (v:=.tuple #[.agg #[.slice U (lC (gu Y)).length c3],.nilIface]) (by simp[results,results106,go_sem,v0]) rfl ?_;have hq:=bn M6.out (Go.Cd.aQ M6.out (k:=w.heap.size) (by omega)) 0 (.slice U (lC (gu Y)).length c3);exact⟨_,rfl,aT hq (show w.heap.size<=wr.heap.size by omega),aj (y.trans (J.mono y.size)) (d' _)⟩
end Go.Proofs.YtmnimbnojdndmaaGreatDoor
namespace Go.Cd
section
open Go.RowKit
section
variable {P : Program} {ops : Array Oper} {md : Region.Mode} {head : Array Bool}
variable {Q:Exit->Act->World->Prop} {T:Array Bool->Act->World->Prop} {b:Array Bool} {a:Act} {w:World} {v:Value} {o:Oper} {R:Value->World->Prop} {c:Value->Nat} {K:Act->World->Prop} {j:Nat} {vs:Nat->Value}
def Hm (P:Program) (md:Region.Mode) (ops:Array Oper) (head:Array Bool) (Q:Exit->Act->World->Prop) (T:Array Bool->Act->World->Prop):Nat->Array Bool->Act->World->Prop
 | 0,listed,a,w=>∀w',Below w.heap.size w w'->kZ head listed=true/\T listed a w'
 | n+1,listed,a,w=>∀w',Below w.heap.size w w'->Region.ready md ops listed≠[]/\
   ∀i∈Region.ready md ops listed,head.getD i false=true/\xG P ops Q i (Hm P md ops head Q T n (listed.setIfInBounds i true)) a w'
def aba {n:Nat} {e:World} (d:Below w.heap.size w e) (h:Hm P md ops head Q T n b a w):Hm P md ops head Q T n b a e:=by
 cases n with
 | zero=>exact λw' c=>h w' (af d c)
 | succ n=>exact λw' c=>h w' (af d c)
def FH {i:Nat} {x:Oper} (O:ops[i]? = some x) (t:∀(j:Nat) (o:Oper) E b,ops[j]? = some o->o.op≠.select E b)
 (A:head.getD i false=true) :
 ∀(n:Nat) (c:Array Bool) (a:Act) (w:World),Closed md ops c->
  (∀j l,ops[j]? = some l->j≠i->c.getD j true=false->(∀e∈l.after,Region.binds md e=true->e.on≠i)->(head.getD j false=true/\x.apart ops l=true)\/waits md ops i ops.size j=true)->
  i∈Region.ready md ops c->mP P ops w x v a->
  Hm P md ops head Q T n (c.setIfInBounds i true) (a.put x.dst v) w->Hm P md ops head Q T (n+1) c a w:=by
 intro n;have key:∀(c:Array Bool),Closed md ops c->
  (∀j l,ops[j]? = some l->j≠i->c.getD j true=false->(∀e∈l.after,Region.binds md e=true->e.on≠i)->(head.getD j false=true/\x.apart ops l=true)\/waits md ops i ops.size j=true)->
  i∈Region.ready md ops c->∀j,j∈Region.ready md ops c->j≠i->∃l,ops[j]? = some l/\c.getD j true=false/\head.getD j false=true/\x.apart ops l=true:=by
  intro c q d r j z g;obtain⟨f,l,p,u⟩:=mem_ready.1 z;have h0:=(mem_ready.1 r).1;have G:c.getD i false=false:=by
   rcases ki i c.size with h'|h'
   ·simp[h'] at h0⊢;exact h0
   simp[ld h']
  have D:∀e∈l.after,Region.binds md e=true->e.on≠i:=λe X V K=>by
   have I:=u e X V;rw[K,G] at I;cases I
  rcases d j l p g f D with h|h
  ·exact⟨l,p,f,h.1,h.2⟩
  exact absurd u (lh q G _ j l p h)
 induction n with
 | zero=>
   intro c a w q d r J H w' m;refine⟨λh=>(by rw[h] at r;cases r),λj z=>?_⟩;by_cases g:j=i
   ·subst g;exact⟨A,(J.mono m).xG O (aba (n:=0) m H)⟩
   obtain⟨l,p,f,S,_⟩:=key c q d r j z g;have y:=jH (H w (gS _ _)).1 S;rw[getD_set_ne false (pr g)] at y;rcases ki j c.size with h'|h'
   ·simp[h'] at f y;rw[f] at y;cases y
   simp[ld h'] at y
 | succ n ih=>
   intro c a w q d r J H w' m;refine⟨λh=>(by rw[h] at r;cases r),λj z=>?_⟩;by_cases g:j=i
   ·subst g;exact⟨A,(J.mono m).xG O (aba (n:=n+1) m H)⟩
   obtain⟨Y,I⟩:=(H w' m).2 j (ready_mono z g);obtain⟨l,p,f,_,M⟩:=key c q d r j z g;have y:=YB p M (λE b=>t i x E b O) (λE b=>t j l E b p) (J.mono m) I;have s:∀k C,ops[k]? = some C->k≠i->(c.setIfInBounds j true).getD k true=false->
    (∀e∈C.after,Region.binds md e=true->e.on≠i)->(head.getD k false=true/\x.apart ops C=true)\/waits md ops i ops.size k=true:=λk C W L B N=>by
    refine d k C W L ?_ N;by_cases F:j=k
    ·subst F;exact f
    rw[getD_set_ne true F] at B;exact B
   refine⟨Y,qz (λZ R U=>ih (c.setIfInBounds j true) Z R (q.step z) s (ready_mono r (pr g)) U.1 ?_) y⟩;rw[rF _ _ g];exact U.2
def Ho (q:Region.noSelect ops=true):∀(l:List Nat) (n:Nat) (b:Array Bool) (a:Act) (w:World),Closed md ops b->
 (AQ ops l&&tq md ops head l b)=true->wpQuiet P ops (λw'=>∃g:Gr w,w'=g.tw) (λC=>Hm P md ops head Q T n (aS l b) C w) (bu ops l) a->Hm P md ops head Q T (n+l.length) b a w
 | [],n,b,a,w,_,_,h=>h
 | i::l,n,b,a,w,hcl,hB,h=>by
   simp only[tq,AQ,List.all_cons,js] at hB;obtain⟨⟨c,t⟩,⟨⟨p,hf⟩,z⟩,y⟩:=hB;cases e:ops[i]? with
   | none=>rw[e] at c;cases c
   | some o=>
     rw[e] at c;simp only at c;have B:bu ops (i::l)=o::bu ops l:=by simp[bu,e]
     rw[B] at h;have k:(AQ ops l&&tq md ops head l (b.setIfInBounds i true))=true:=by simp only[AQ,js];exact⟨t,y⟩
     simp only[wpQuiet] at h;by_cases m:Region.wanted o (yielded ops a.tmps)=true
     ·rw[if_pos m] at h;obtain⟨v,D,A⟩:=h;refine FH e (lA q) z (n+l.length) b a w hcl (oK e hf) (by simpa using p) (.inl ⟨m,λw' s=>?_⟩)
       (Ho q l n _ _ w (hcl.step (by simpa using p)) k A)
      have d:=D w' ⟨⟨w',s⟩,rfl⟩;unfold Oper.quietAt at d;generalize j:(execOp a.eval o).run P w'=r at d;cases r with
      | ok x w1=>
        cases x <;> simp only[Oper.quietUpon] at d
        case value u=>rw[d.1,d.2];exact .inl rfl
        case skip=>rw[d.1,d.2];exact .inr ⟨rfl,rfl⟩
        case enter f args=>exact absurd j (Jf c _ _ _ _)
      | halt x w1=>exact d.elim
     rw[if_neg m] at h;exact FH e (lA q) z (n+l.length) b a w hcl (oK e hf) (by simpa using p) (.inr ⟨by simpa using m,rfl⟩)
      (Ho q l n _ _ w (hcl.step (by simpa using p)) k h)
def oC (l:List Nat) (n:Nat) {m:Nat} 
 (h:wpQuiet P ops (λw'=>∃g:Gr w,w'=g.tw) (λd=>Hm P md ops head Q T n (aS l b) d w) (bu ops l) a) (e:m=n+l.length:=by rfl) (c:((Region.noSelect ops&&vM md ops b)&&(AQ ops l&&tq md ops head l b))=true:=by kernel_rfl):Hm P md ops head Q T m b a w:=by
  subst e;rw[js,js] at c;exact Ho c.1.1 l n b a w (oL c.1.2) c.2 h
def pI {n:Nat} (i:Nat) 
 (h:∀w',Below w.heap.size w w'->wpList P ops (QE Q w' (Hm P md ops head Q T n (b.setIfInBounds i true))) [o] a w') (f:(Region.ready md ops b==[i]&&head.getD i false)=true:=by kernel_rfl) (k:nth ops.toList i=some o:=by rfl):Hm P md ops head Q T (n+1) b a w:=by
 simp only[js,beq_iff_eq] at f;obtain⟨e,g⟩:=f;intro w' c;refine⟨by rw[e];simp,λj d=>?_⟩;rw[e] at d;obtain rfl:j=i:=by simpa using d
 exact⟨g,qA (fM k) (h w' c)⟩
def mI (P:Program) (ops:Array Oper) (R:Value->World->Prop) (bk:Value->Nat) (o:Oper) (a:Act) (w:World):Prop:=
 Region.wanted o (yielded ops a.tmps)=true/\∀W,Below w.heap.size w W->∃v b,(execOp a.eval o).run P W=.ok (.value v) b/\Below W.heap.size W b/\R v b/\W.heap.size<=bk v/\bk v<b.heap.size
def mI.mono {b:Value->Nat} {w':World} (h:mI P ops R b o a w) (c:Below w.heap.size w w'):mI P ops R b o a w':=
 ⟨h.1,λW d=>h.2 W (af c d)⟩
def mI.same {b:Act} (h:mI P ops R c o a w) (e:execOp b.eval o=execOp a.eval o)
 (d:Region.wanted o (yielded ops b.tmps)=Region.wanted o (yielded ops a.tmps)):mI P ops R c o b w:=by
 unfold mI at *;rw[e,d];exact h
def mI.xG {i:Nat} (l:ops[i]? = some o) (h:mI P ops R c o a w)
 (g:∀v b,Below w.heap.size w b->R v b->w.heap.size<=c v->c v<b.heap.size->K (a.put o.dst v) b):xG P ops Q i K a w:=by
 obtain⟨f,h⟩:=h;obtain⟨v,b,j,d,k,e,m⟩:=h w (gS _ _);unfold Cd.xG wpOp;simp only[l,f,if_true,Oper.wp,j,Oper.upon];exact .inl ⟨d,g v b d k e m⟩
def K6 {Q:Exit->Act->World->Prop} {Φ:Act->World->Prop} (t:ops[j]? = some o) (g:∀a w v,Φ a w->Φ (a.put o.dst v) w)
 (l:∀a w d,Φ a w->Φ { a with defers:=d::a.defers } w) (b:∀a w w',Below w.heap.size w w'->Φ a w->Φ a w') (h:xG P ops Q j K a w) (i:Φ a w) :
 xG P ops Q j (λq w'=>Φ q w'/\K q w') a w:=by
 unfold xG wpOp at *;simp only[t] at *
 split
 ·rename_i m;simp only[m,if_true] at h;rcases h with h|⟨s,y⟩
  case inr=>exact .inr ⟨s,y⟩
  refine .inl ?_;unfold Oper.wp at *;generalize (execOp a.eval o).run P w=r at *;cases r with
  | ok n w'=>
    cases n <;> simp only[Oper.upon] at h⊢
    case value u=>exact⟨h.1,b _ _ _ h.1 (g _ _ _ i),h.2⟩
    case skip=>exact⟨h.1,b _ _ _ h.1 (g _ _ _ i),h.2⟩
    case defer d=>exact⟨h.1,b _ _ _ h.1 (g _ _ _ (l _ _ _ i)),h.2⟩
    case enter f args=>
     refine se h λe p k=>?_;cases e with
     | returned u=>exact⟨k.1,b _ _ _ k.1 (g _ _ _ i),k.2⟩
     | panicked c=>exact k.elim
     | outgrown=>exact k
    case row row args=>exact Rows.mono h λu p k=>⟨k.1,b _ _ _ k.1 (g _ _ _ i),k.2⟩
  | halt x w'=>
    cases x <;> simp only[Oper.upon] at h⊢
    case panic u=>exact h.elim
 rename_i m;simp only[m] at h;exact⟨h.1,g _ _ _ i,h.2⟩
def SB {g:Oper} {d:Option Tmp} (y:ops[j]? = some g) (o:∀z b,g.op≠.select z b)
 (p:∀t,d=some t->t∉g.looksAt ops) (m:∀t,d=some t->g.dst≠some t) (h:xG P ops Q j K a w) :
 xG P ops Q j (λA w'=>∃b,A=b.put d v/\K b w') (a.put d v) w:=by
 unfold xG wpOp at *;simp only[y] at *;rw[wanted_put g a d v p]
 split
 ·rename_i q;simp only[q,if_true] at h;rcases h with h|⟨k,l⟩
  case inr=>exact .inr ⟨by unfold Oper.asks at *;rw[execOp_put g o a d v p];exact k,l⟩
  refine .inl ?_;unfold Oper.wp at *;rw[execOp_put g o a d v p];generalize (execOp a.eval g).run P w=r at *;cases r with
  | ok n w'=>
    cases n <;> simp only[Oper.upon] at h⊢
    case value u=>exact⟨h.1,_,py a v u m,h.2⟩
    case skip=>exact⟨h.1,_,py a v undef m,h.2⟩
    case defer x=>
     refine⟨h.1,_,?_,h.2⟩;rw[Act.put_defers,py _ v undef m]
    case enter f args=>
     refine se h λe s i=>?_;cases e with
     | returned u=>exact⟨i.1,_,py a v u m,i.2⟩
     | panicked c=>exact i.elim
     | outgrown=>exact i
    case row row args=>exact Rows.mono h λu s i=>⟨i.1,_,py a v u m,i.2⟩
  | halt x w'=>
    cases x <;> simp only[Oper.upon] at h⊢
    case panic u=>exact h.elim
 rename_i q;simp only[q] at h;exact⟨h.1,_,py a v undef m,h.2⟩
def bL (ops:Array Oper) (i:Nat):Option Tmp:=(ops[i]?).bind (·.dst)
def dK (ops:Array Oper) (vs:Nat->Value):List Nat->Act->Act
 | [],a=>a
 | i::S,a=>dK ops vs S (a.put (bL ops i) (vs i))
def wT {d:Option Tmp} :∀(S:List Nat) (a:Act),(∀i∈S,∀t,d=some t->bL ops i≠some t)->(dK ops vs S a).put d v=dK ops vs S (a.put d v)
 | [],_,_=>rfl
 | i::S,a,h=>by
   simp only[dK];rw[wT S _ λk c=>h k (kq _ c),py a (vs i) v];intro t b;rintro rfl;exact h i (by simp) t rfl b
def upd (vs:Nat->Value) (j:Nat) (v:Value):Nat->Value:=λi=>if i=j then v else vs i
def pJ {us:Nat->Value}:∀(S:List Nat) (a:Act),(∀i∈S,vs i=us i)->dK ops vs S a=dK ops us S a
 | [],_,_=>rfl
 | i::S,a,h=>by
   simp only[dK];rw[h i (by simp),pJ S _ λk b=>h k (kq _ b)]
def oD {p:Nat->Bool} (d:p j=false):∀(S:List Nat) (a:Act),j∈S->S.Nodup->(∀i∈S,i≠j->∀t,bL ops j=some t->bL ops i≠some t)->
 (dK ops vs (S.filter p) a).put (bL ops j) v=dK ops (upd vs j v) (S.filter λi=>p i||i==j) a
 | [],_,h,_,_=>by cases h
 | i::S,a,hmem,hnd,hd=>by
   rw[tS] at hnd;by_cases c:i=j
   ·subst c;have b:=hnd.1;have e:S.filter (λk=>p k||k==i)=S.filter p:=List.filter_congr λk f=>by
     have:k≠i:=λe=>b (e▸f);simp[this]
    rw[pT (by simp[d]),pS (by simp),e];simp only[dK];have o:upd vs i v i=v:=by simp[upd]
    rw[o,wT]
    ·refine pJ _ _ λk f=>?_;have:k≠i:=λe=>b (e▸(i_.1 f).1);simp[upd,this]
    intro k f;have m:=(i_.1 f).1;exact hd k (by simp[m]) (λe=>b (e▸m))
   have g:j∈S:=by
    rcases jt.1 hmem with h|h
    ·exact absurd h.symm c
    exact h
   have l:∀k∈S,k≠j->∀t,bL ops j=some t->bL ops k≠some t:=λk f=>hd k (by simp[f]);cases n:p i
   ·rw[pT (by simp[n]),pT (by simp[n,c])];exact oD d S a g hnd.2 l
   rw[pS n,pS (by simp[n])];simp only[dK];rw[oD d S _ g hnd.2 l];have:upd vs j v i=vs i:=by simp[upd,c]
   rw[this]
def uM {e:Oper} {vs:Nat->Value} (l:ops[j]? = some e) (d:∀o b,e.op≠.select o b):∀(S:List Nat),
 (∀i∈S,(∀t,bL ops i=some t->t∉e.looksAt ops)/\∀t,bL ops i=some t->e.dst≠some t)->∀{K:Act->World->Prop} {a:Act} {w:World},xG P ops Q j K a w->
 xG P ops Q j (λf w'=>∃b,f=dK ops vs S b/\K b w') (dK ops vs S a) w
 | [],_,_,_,_,h=>qz (λf w' h=>⟨f,rfl,h⟩) h
 | i::S,hS,K,a,w,h=>by
   have m:=SB (v:=vs i) l d (hS i (by simp)).1 (hS i (by simp)).2 h;have p:=uM (vs:=vs) l d S (λk g=>hS k (by simp[g])) m;exact qz (λf w' ⟨b,q,c,n,g⟩=>⟨c,by subst n;exact q,g⟩) p
def afI (md:Region.Mode) (ops:Array Oper) (head listed:Array Bool) (S:List Nat):Bool:=
 (Region.noSelect ops&&vM md ops listed)&&(S.all λi=>(Region.ready md ops listed).contains i&&head.getD i false&&match ops[i]? with
   | none=>false
   | some oi=>(List.range ops.size).all λj=>j==i||listed.getD j true||match ops[j]? with
     | some oj=>if head.getD j false then oi.apart ops oj&&oj.apart ops oi else waits md ops i ops.size j
     | none=>true)&&decide S.Nodup
def dN:∀(l:List Nat) (a:Array Bool) (k:Nat) (d:Bool),(aS l a).getD k d=if k∈l/\k<a.size then true else a.getD k d
 | [],_,_,_=>by simp[aS]
 | i::l,a,k,d=>by
   simp only[aS];rw[dN l];by_cases b:k=i
   ·subst b;by_cases c:k<a.size
    ·simp[c]
    simp[c]
   have:(a.setIfInBounds i true).getD k d=a.getD k d:=getD_set_ne d (pr b);rw[this];simp[b]
def jU:∀(l:List Nat) (a:Array Bool),(aS l a).size=a.size
 | [],_=>rfl
 | i::l,a=>by simp only[aS];rw[jU l];simp
def uN {l l':List Nat} {x y:Array Bool} (m:x.size=y.size) (h:∀k,k<x.size->((k∈l\/x.getD k false=true)↔(k∈l'\/y.getD k false=true))):aS l x=aS l' y:=by
 apply pN;intro k;by_cases c:k<x.size
 ·have j:=dN l x k false;have n:=dN l' y k false;have a:k<(aS l x).size:=by rw[jU];exact c
  have b:k<(aS l' y).size:=by rw[jU,<-m];exact c
  rw[rh a,rh b];have f:(aS l x).getD k false=(aS l x)[k]:=by simp[a]
  have e:(aS l' y).getD k false=(aS l' y)[k]:=by simp[b]
  rw[<-f,<-e,j,n];have h:=h k c;have d:k<y.size:=by omega
  simp only[c,d,and_true];by_cases g:k∈l <;> by_cases i:k∈l' <;> simp only[g,i,if_true,if_false,true_or,false_or,true_iff,iff_true] at h⊢
  ·exact congrArg some h.symm
  ·exact congrArg some h
  exact congrArg some (tW.2 h)
 rw[ld (by rw[jU];omega),ld (by rw[jU];omega)]
def TMk (ops:Array Oper) (S:List Nat) (R:Nat->Value->World->Prop) (bk:Value->Nat) (N:Nat) (T:Array Bool->Act->World->Prop):Array Bool->Act->World->Prop:=
 λL a w=>∀vs:Nat->Value,(∀i∈S,R i (vs i) w/\N<=bk (vs i)/\bk (vs i)<w.heap.size)->(∀i∈S,∀k∈S,i≠k->bk (vs i)≠bk (vs k))->T L (dK ops vs S a) w
def cO {x:Array Bool} {k:Nat} (h:x.getD k true=false):x.getD k false=false:=by
 rcases ki k x.size with h'|h'
 ·simp[h'] at h⊢;exact h
 simp[ld h']
def iN {vs:Nat->Value} (c:∀e b,o.op≠.select e b):∀(S:List Nat) (a:Act),(∀i∈S,∀t,bL ops i=some t->t∉o.looksAt ops)->
 execOp (dK ops vs S a).eval o=execOp a.eval o/\Region.wanted o (yielded ops (dK ops vs S a).tmps)=Region.wanted o (yielded ops a.tmps)
 | [],_,_=>⟨rfl,rfl⟩
 | i::S,a,h=>by
   obtain⟨d,g⟩:=iN (vs:=vs) c S (a.put (bL ops i) (vs i)) (λk f=>h k (by simp[f]));simp only[dK];rw[d,g,execOp_put o c a _ _ (h i (by simp)),wanted_put o a _ _ (h i (by simp))];exact⟨rfl,rfl⟩
def nA {p:Nat->Bool} (b:p j=false):∀(S:List Nat),j∈S->S.Nodup->(S.filter λi=>!(p i||i==j)).length+1=(S.filter λi=>!p i).length
 | [],h,_=>by cases h
 | i::S,hmem,hnd=>by
   rw[tS] at hnd;by_cases a:i=j
   ·subst a;have e:S.filter (λk=>!(p k||k==i))=S.filter (λk=>!p k):=List.filter_congr λk g=>by
     have:k≠i:=λe=>hnd.1 (e▸g);simp[this]
    rw[pT (by simp),pS (by simp[b]),e];simp
   have d:j∈S:=by
    rcases jt.1 hmem with h|h
    ·exact absurd h.symm a
    exact h
   have f:=nA b S d hnd.2;cases c:p i
   ·rw[pS (by simp[c,a]),pS (by simp[c])];simp only[im];omega
   rw[pT (by simp[c]),pT (by simp[c])];exact f
def Od (S:List Nat) (R:Nat->Value->World->Prop) (M:Value->Nat) (N:Nat)
 (K7:∀i v w w',Below w.heap.size w w'->R i v w->R i v w') (hs:Region.noSelect ops=true) (ad:S.Nodup)
 (I:∀i∈S,head.getD i false=true) (L0:Array Bool) (ag:∀i∈S,L0.getD i true=false)
 (O:∀i∈S,∃s,ops[i]? = some s/\∀j B,ops[j]? = some B->j≠i->L0.getD j true=false->(head.getD j false=true/\s.apart ops B=true/\B.apart ops s=true)\/(head.getD j false=false/\waits md ops i ops.size j=true)) :
 ∀(m n:Nat) (done:Nat->Bool) (vs:Nat->Value) (c:Array Bool) (a:Act) (w:World),m=n+(S.filter λi=>!done i).length->Closed md ops c->
  (∀j,c.getD j true=false->L0.getD j true=false)->
  (∀i∈S,done i=false->i∈Region.ready md ops c/\∀s,ops[i]? = some s->mI P ops (R i) M s a w)->
  (∀i∈S,done i=true->c.getD i false=true/\R i (vs i) w/\N<=M (vs i)/\M (vs i)<w.heap.size)->(∀i∈S,∀k∈S,done i=true->done k=true->i≠k->M (vs i)≠M (vs k))->N<=w.heap.size->
  Hm P md ops head Q (TMk ops S R M N T) n (aS (S.filter λi=>!done i) c) a w->
  QX P md ops head Q T m c (dK ops vs (S.filter done) a) w:=by
 intro m
 induction m with
 | zero=>
   intro n done vs c a w hm U hL V q jV hN H;obtain⟨rfl,hr⟩:n=0/\(S.filter λi=>!done i).length=0:=by omega
   have ab:=iJ.1 hr;rw[ab] at H;have y:∀i∈S,done i=true:=λi g=>by
    have:=(tl.1 ab) i g;simpa using this
   obtain⟨Y,K⟩:=H w (gS _ _);have hf:S.filter done=S:=qk.2 y;rw[hf];exact⟨Y,K vs (λi g=>(q i g (y i g)).2) (λi g k A=>jV i g k A (y i g) (y k A))⟩
 | succ m ih=>
   intro n done vs c a w hm U hL V q jV hN H;have yx:∀j,j∈Region.ready md ops c->j∉S->j∈Region.ready md ops (aS (S.filter λi=>!done i) c):=by
    intro j J D;rw[mem_ready] at J⊢;obtain⟨h0,o,ho,y⟩:=J;refine⟨?_,o,ho,λe he F=>?_⟩
    ·rw[dN,if_neg (λh=>D (i_.1 h.1).1)];exact h0
    rw[dN];split
    ·rfl
    exact y e he F
   constructor
   ·
    cases hf:S.filter (λi=>!done i) with
    | cons i l=>
      have g:i∈S.filter (λi=>!done i):=by rw[hf];simp
      obtain⟨M8,f⟩:=i_.1 g;have:=(V i M8 (by simpa using f)).1;intro h;rw[h] at this;cases this
    | nil=>
      rw[hf] at hm H;obtain rfl:n=m+1:=by simp at hm;omega
      exact(H w (gS _ _)).1
   intro j J;by_cases D:j∈S
   ·
    have G:done j=false:=by
     cases hd:done j
     ·rfl
     have Y:=(q j D hd).1;have K:=cO (mem_ready.1 J).1;rw[Y] at K;cases K
    refine⟨I j D,?_⟩;obtain⟨B,z,VN⟩:=O j D;have am:=(V j D G).2 B z;have zP:bL ops j=B.dst:=by simp[bL,z]
    have X:∀i∈S,i≠j->(∀t,bL ops i=some t->t∉B.looksAt ops)/\(∀t,bL ops j=some t->bL ops i≠some t):=by
     intro i g u;obtain⟨s,p,_⟩:=O i g;have VO:bL ops i=s.dst:=by simp[bL,p]
     rcases VN i s p u (ag i g) with⟨_,h,_⟩|⟨h,_⟩
     ·obtain⟨_,K,h3⟩:=sf h;rw[VO,zP];exact⟨h3,K⟩
     rw[I i g] at h;cases h
    have ac:=iN (vs:=vs) (lA hs j B · · z) (S.filter done) a (λi g=>(X i (i_.1 g).1 (λe=>by have h:=(i_.1 g).2;rw[e,G] at h;cases h)).1);refine mI.xG z (am.same ac.1 ac.2) λv W' F hR Y K=>?_;rw[<-zP,oD G S a D ad (λi g u=>(X i g u).2)];have E:j<c.size:=by
     have h0:=(mem_ready.1 J).1;rcases ki j c.size with h'|h'
     ·exact h'
     simp[ld h'] at h0
    have VP:upd vs j v j=v:=by simp[upd]
    have Jd:∀i,i≠j->upd vs j v i=vs i:=λi g=>by simp[upd,g]
    refine ih n (λi=>done i||i==j) (upd vs j v) (c.setIfInBounds j true) a W' (by have:=nA G S D ad;omega) (U.step J) ?_ ?_ ?_ ?_ (ia hN F.size) ?_
    ·intro k A;by_cases r:j=k
     ·subst r;simp[E] at A
     rw[getD_set_ne true r] at A;exact hL k A
    ·intro i g f;simp only[sx,beq_eq_false_iff_ne] at f;obtain⟨g1,g2⟩:=V i g f.1;exact⟨ready_mono g1 f.2,λs p=>(g2 s p).mono F⟩
    ·intro i g f;by_cases u:i=j
     ·subst u;rw[VP];exact⟨by simp[E],hR,ia hN Y,K⟩
     simp only[mu,beq_iff_eq,u,or_false] at f;rw[Jd i u];obtain⟨g1,g2,g3,g4⟩:=q i g f;exact⟨getD_set_true g1,K7 _ _ _ _ F g2,g3,kh g4 F.size⟩
    ·intro i g k A f L Z;by_cases u:i=j
     ·subst u;have aa:k≠i:=pr Z;simp only[mu,beq_iff_eq,aa,or_false] at L;rw[VP,Jd k aa];have:=(q k A L).2.2.2;omega
     simp only[mu,beq_iff_eq,u,or_false] at f;rw[Jd i u];by_cases r:k=j
     ·subst r;rw[VP];have:=(q i g f).2.2.2;omega
     simp only[mu,beq_iff_eq,r,or_false] at L;rw[Jd k r];exact jV i g k A f L Z
    have e:aS (S.filter λi=>!(done i||i==j)) (c.setIfInBounds j true)=aS (S.filter λi=>!done i) c:=by
     refine uN (by simp) λk A=>?_;simp only[wm] at A;simp only[i_];by_cases r:k=j
     ·subst r;simp[A,D,G]
     rw[getD_set_ne false (pr r)];simp[r]
    rw[e];exact aba F H
   ·
    have C:=(mem_ready.1 J).1;have aj:∀d,(aS (S.filter λi=>!done i) c).getD j d=c.getD j d:=λd=>by
     rw[dN,if_neg (λh=>D (i_.1 h.1).1)]
    cases n with
    | zero=>
      exfalso;obtain⟨_,B,z,y⟩:=mem_ready.1 J;have hH:=(H w (gS _ _)).1;have Ye:head.getD j false=false:=by
       cases hh:head.getD j false
       ·rfl
       have:=jH hH hh;rw[aj,cO C] at this;cases this
      obtain⟨i,g⟩:∃i,i∈S.filter λi=>!done i:=by
       cases hf:S.filter (λi=>!done i) with
       | nil=>rw[hf] at hm;simp at hm
       | cons i l=>exact⟨i,by simp⟩
      obtain⟨M8,f⟩:=i_.1 g;have ae:done i=false:=by simpa using f
      obtain⟨s,p,W⟩:=O i M8;have u:j≠i:=λe=>D (e▸M8);rcases W j B z u (hL j C) with⟨h,_⟩|⟨_,h⟩
      ·rw[Ye] at h;cases h
      have al:=cO (mem_ready.1 (V i M8 ae).1).1;exact lh U al _ j B z h y
    | succ n=>
      obtain⟨Ye,ai⟩:=(H w (gS _ _)).2 j (yx j J D);refine⟨Ye,?_⟩;obtain⟨_,B,z,_⟩:=mem_ready.1 J;have X:∀i∈S,(∀t,bL ops i=some t->t∉B.looksAt ops)/\(∀t,bL ops i=some t->B.dst≠some t)/\∀s,ops[i]? = some s->∀t,B.dst=some t->t∉s.looksAt ops:=by
       intro i g;obtain⟨s,p,W⟩:=O i g;have VO:bL ops i=s.dst:=by simp[bL,p]
       rcases W j B z (λe=>D (e▸g)) (hL j C) with⟨_,h,_⟩|⟨h,_⟩
       ·obtain⟨g1,g2,g3⟩:=sf h;rw[VO];refine⟨g1,g2,λan yz=>?_⟩;rw[p] at yz;cases yz;exact g3
       rw[Ye] at h;cases h
      have A:=K6 (Φ:=λa w'=>(∀i∈S,done i=false->∀s,ops[i]? = some s->mI P ops (R i) M s a w')/\(∀i∈S,done i=true->R i (vs i) w'/\N<=M (vs i)/\M (vs i)<w'.heap.size)/\N<=w'.heap.size) z
       (λa w' v h=>⟨λi g f s p=>(h.1 i g f s p).same (execOp_put s (lA hs i s · · p) a _ _ ((X i g).2.2 s p)) (wanted_put s a _ _ ((X i g).2.2 s p)),h.2⟩)
       (λa w' d h=>⟨λi g f s p=>(h.1 i g f s p).same rfl rfl,h.2⟩)
       (λa w' ao F h=>⟨λi g f s p=>(h.1 i g f s p).mono F,λi g f=>⟨K7 _ _ _ _ F (h.2.1 i g f).1,(h.2.1 i g f).2.1,kh (h.2.1 i g f).2.2 F.size⟩,ia h.2.2 F.size⟩)
       ai ⟨λi g f=>(V i g f).2,λi g f=>(q i g f).2,hN⟩
      have hu:=uM (vs:=vs) z (lA hs j B · · z) (S.filter done) (λi g=>⟨(X i (i_.1 g).1).1,(X i (i_.1 g).1).2.1⟩) A;refine qz (λa' w' h=>?_) hu;obtain⟨b,rfl,⟨ah,ak,af⟩,hH⟩:=h;have E:j<c.size:=by
       rcases ki j c.size with h'|h'
       ·exact h'
       simp[ld h'] at C
      refine ih n done vs (c.setIfInBounds j true) b w' (by omega) (U.step J) ?_ ?_ ?_ jV af ?_
      ·intro k A;by_cases r:j=k
       ·subst r;simp[E] at A
       rw[getD_set_ne true r] at A;exact hL k A
      ·intro i g f;exact⟨ready_mono (V i g f).1 (λe=>D (e▸g)),ah i g f⟩
      ·intro i g f;exact⟨getD_set_true (q i g f).1,ak i g f⟩
      have e:aS (S.filter λi=>!done i) (c.setIfInBounds j true)=(aS (S.filter λi=>!done i) c).setIfInBounds j true:=by
       have:(aS (S.filter λi=>!done i) c).setIfInBounds j true=aS [j] (aS (S.filter λi=>!done i) c):=rfl;rw[this];have K:∀(l:List Nat) (x:Array Bool),aS [j] (aS l x)=aS l (aS [j] x):=by
        intro l
        induction l with
        | nil=>intro x;rfl
        | cons k l ihl=>
          intro x;simp only[aS] at ihl⊢;rw[ihl];by_cases r:k=j
          ·subst r;rfl
          rw[rF _ _ r]
       rw[K];rfl
      rw[e];exact hH
def Oe (S:List Nat) (R:Nat->Value->World->Prop) (q:Value->Nat) (n:Nat) {m:Nat} (E:m=n+S.length)
 (y:afI md ops head b S=true) (C:∀i v w w',Below w.heap.size w w'->R i v w->R i v w') (F:∀i∈S,∀o,nth ops.toList i=some o->mI P ops (R i) q o a w)
 (h:Hm P md ops head Q (TMk ops S R q w.heap.size T) n (aS S b) a w):QX P md ops head Q T m b a w:=by
 simp only[afI,js,decide_eq_true_eq,lR] at y;obtain⟨⟨⟨D,s⟩,c⟩,t⟩:=y;have B:∀i∈S,i∈Region.ready md ops b:=λi d=>by have:=(c i d).1.1;simpa using this
 have hf:S.filter (λ_=>false)=[]:=by simp
 have z:S.filter (λi=>!(λ_=>false) i)=S:=qk.2 (by simp)
 have:=Od (P:=P) (head:=head) (Q:=Q) (T:=T) S R q w.heap.size C D t (λi d=>(c i d).1.2) b (λi d=>(mem_ready.1 (B i d)).1) (λi d=>by
  have f:=(c i d).2;cases A:ops[i]? with
  | none=>rw[A] at f;cases f
  | some x=>
    rw[A] at f;refine⟨x,rfl,λj G g r l=>?_⟩;simp only[lR,nf] at f;have e:=f j (ju.1 g).1;simp only[g,mu,beq_iff_eq,r,false_or,l,pD] at e
    split at e
    ·rename_i u;simp only[js] at e;exact .inl ⟨u,e⟩
    rename_i u
    exact .inr ⟨by simpa using u,e⟩) m n (λ_=>false) (λ_=>undef) b a w (by rw[z];exact E) (oL s) (λj g=>g)
  (λi d _=>⟨B i d,λx p=>F i d x (by rw[Gt];simpa using p)⟩) (λi _ h=>by cases h) (λi _ k _ h=>by cases h) (d' _) (by rw[z];exact h)
 rw[hf] at this;exact this
def aa3 {S:List Nat} {R:Nat->Value->World->Prop} {N:Nat} (l:List Nat) 
 (h:∀w',Below w.heap.size w w'->∀vs:Nat->Value,(∀i∈S,R i (vs i) w'/\N<=c (vs i)/\c (vs i)<w'.heap.size)->(∀i∈S,∀k∈S,i≠k->c (vs i)≠c (vs k))->wpList P ops (QP Q) (bu ops l) (dK ops vs S a) w') (d:(kZ head b&&(Region.noSelect ops&&uk md ops l b))=true:=by kernel_rfl) :
 Hm P md ops head Q (TMk ops S R c N (λl' a w=>wpAny P md ops Q l.length l' a w)) 0 b a w:=by
 simp only[js] at d;exact λw' e=>⟨d.1,λvs f g=>vN _ _ _ _ (iB d.2.1 l b _ w' d.2.2 (h w' e vs f g))⟩
def FJ:∀(l:List Nat) (os:List Oper),l.map (nth ops.toList)=os.map some->bu ops l=os
 | [],[],_=>rfl
 | [],_::_,h=>by cases h
 | _::_,[],h=>by cases h
 | i::l,o::os,h=>by
   simp only[lj,oX] at h;have a:bu ops (i::l)=o::bu ops l:=by simp[bu,fM h.1]
   rw[a,FJ l os h.2]
def uO :∀{l:List Nat} {os:List Oper},l.map (nth ops.toList)=os.map some->wpList P ops Q os a w->wpList P ops Q (bu ops l) a w:=by
 intro l os h b;have e:=FJ l os h;rw[e];exact b
def uP (h:Q .normal a w):QP Q .normal a w:=h
end
end
end Go.Cd
namespace Go.Proofs.YtmnimbnojdndmaaGreatDoor
open Go.RowKit Go.Cd _root_.Go.Proofs.Tryz
variable {c:Nat} {T:List aG}
def Bz {M:Nat->List Nat} {l:List Nat}:anyM M l=false↔tJ M l:=by
 unfold anyM tJ;rw[zf];constructor
 ·intro h x a;have:=h x a;simpa using this
 intro h x a;simp[h x a]
def Ve {x:Nat} (d:c<1114112) (h:x∈dI c):x<1114112:=by
 unfold dI at h
 split at h
 ·rename_i a;have:=oQ.1 a;have:(c-44032) % 588 / 28<21:=by omega
  have:(c-44032) / 588<19:=by omega
  generalize (c-44032) % 588 / 28=p at *;generalize (c-44032) / 588=q at *;simp only[jt,kt,or_false] at h;rcases h with rfl|rfl <;> omega
 split at h
 ·have:=mS (c-44032) (show 28 > 0 by decide);generalize (c-44032) % 28=p at *;simp only[jt,kt,or_false] at h;rcases h with rfl|rfl <;> omega
 simp at h
def Kc (b:∀r∈T,∀x∈r.map,x<1114112) {x:Nat} (d:c<1114112) (h:x∈mapOf T c):x<1114112:=by
 unfold mapOf at h
 split at h
 ·unfold bP at h;cases a:rowOf T c with
  | none=>rw[a] at h;simp at h
  | some r=>rw[a] at h;exact b r (mB a) x h
 exact Ve d h
def Vf (e:∀r∈T,∀x∈r.map,x<1114112) {l:List Nat} (d:∀x∈l,x<1114112):∀x∈dm (mapOf T) l,x<1114112:=by
 intro x a;unfold dm at a;obtain⟨c,b,a⟩:=lP.1 a
 split at a
 ·rw[gE.1 a];exact d c b
 exact Kc e (d c b) a
instance (T:List aG) (c:Nat):Decidable (fQ T c):=by unfold fQ tJ;exact inferInstance
def NJ {i:Nat} (b:i<=T.length+3) (h:32<(steps (mapOf T) i [c]).length):¬fQ T c:=by
 rintro⟨_,a⟩;rw[jo,show T.length+3=i+(T.length+3-i) by omega,xU] at a;have:=xV (mapOf T) (T.length+3-i) (steps (mapOf T) i [c]);omega
def Ke (h:32<(dm (mapOf T) (steps (mapOf T) (T.length+3) [c])).length) (b:(steps (mapOf T) (T.length+3) [c]).length<=32):¬fQ T c:=by
 rintro⟨a,_⟩;rw[jo] at a;rw[qF a] at h;omega
def wD {w:World} {v:Value} {X:List Nat} (h:jq w v T X) (c:Nat) (hc:c<1114112) (hT:∀r∈T,∀x∈r.map,x<1114112) (JF:∀r∈T,r.map.length<=4) (z:T.length<1000000) :
 Calls prog 36 #[v,.int .i64 c] w λe w'=>∃r,e=.returned (.tuple #[r,.bool (decide (fQ T c))])/\(fQ T c->bG w' r (ints (aD T c)))/\Below w.heap.size w w':=by
 have HT:=aa h;obtain⟨r,x,rfl,⟨a,cap,rfl,_⟩,D⟩:=h;obtain⟨U,y,rfl,_,_⟩:=Go.Cd.bG.out D;obtain⟨f,s⟩:∃n,n=T.length:=⟨_,rfl⟩;obtain⟨I,R⟩:∃n,n=(ints X).length:=⟨_,rfl⟩;rw[<-s,<-R] at HT⊢;have J:=aa s;have ai:f<1000000:=by omega
 have hb:=ah (w:=w) (.cells #[.slice a f cap,.slice U I y] 25);have d0:(w.alloc (.cells #[.slice a f cap,.slice U I y] 25)).cell? ⟨w.heap.size,0,none⟩=some (.slice a f cap):=by unfold World.cell?;rw[heap_alloc_new];rfl
 have d1:(w.alloc (.cells #[.slice a f cap,.slice U I y] 25)).cell? ⟨w.heap.size,1,none⟩=some (.slice U I y):=by unfold World.cell?;rw[heap_alloc_new];rfl
 obtain⟨A,hW⟩:=ae (w.alloc (.cells #[.slice a f cap,.slice U I y] 25));rw[<-hW] at hb d0 d1;obtain⟨W1,g⟩:=ae (A.alloc (.cells #[.int .i64 c] bB));have m:Below A.heap.size A W1:=by subst g;exact ah _
 have s1:bG W1 (.slice (some ⟨w.heap.size+1,0,none⟩) 1 1) (ints [c]):=by
  subst g;have:=rP A #[.int .i64 c] bB;rw[show A.heap.size=w.heap.size+1 by rw[hW];simp] at this;exact this
 rw[hW] at g;obtain⟨P,hP⟩:=ae (decide (fQ T c));have HP:=aa hP;rw[<-hP];have V:=af hb m;have e0:=aB m d0;have e1:=aB m d1;have HH:=aa hT;clear hW D s R d0 d1 hP hT z;go_enter func36,ntmps36;go_wp2_with fail;rw[<-g];clear g;go_loopw [6,7] (λlv iv wr=>∃(i:Nat) (L:List Nat),i<=f+4/\iv=.int .i64 i/\L=steps (mapOf T) i [c]/\L.length<=32/\(∀x∈L,x<1114112)/\(i=f+4->¬fQ T c)/\bG wr lv (ints L)/\Below W1.heap.size W1 wr) (λ_ iv _=>f+4-(intOf iv).toNat)
 case atStart=>exact⟨0,[c],ic _,rfl,rfl,by simp,by simpa using hc,λh=>by omega,s1,gS _ _⟩
 case round=>
  clear s1 m;obtain⟨i,L,hi,rfl,hL,YS,S,o,Y,W⟩:=hrel;have fT:=af V W;have f0:=aB W e0;have f1:=aB W e1;have K:=aa (GL (HT.out.mono fT) Y S JF (by have:=J.out;omega) (by omega));obtain⟨nl,G⟩:∃n,n=L.length:=⟨_,rfl⟩;obtain⟨al,cl,rfl,_,_⟩:=bG.nO Y G;have HS:=aa Y;have B:=aa hL;have HE:=aa o;clear Y G hL o;by_cases aj:i<=f+3
  ·go_wp2_with fail;refine K.out.mono ?_;rintro e w2⟨r2,rfl,Z,D⟩;have H:=af W D;have O:=af V H;have s2:=(Sl.aU Z).any;cases u:anyM (mapOf T) L
   ·have l:=Bz.1 u;have b:aD T c=L:=by rw[B.out] at l⊢;exact GK (by have:=J.out;omega) l
    have C:fQ T c:=⟨by rw[b];exact l,by rw[b];exact YS⟩;have E:P=true:=HP.out.trans (decide_eq_true C);have HF:=aa b;subst E;have t:=aa (HS.out.mono D);clear K Z s2 u l C b;go_wp2;go_ret2;exact⟨_,rfl,λ_=>by rw[HF.out];exact t.out,O⟩
   obtain⟨n2,d⟩:∃n,n=(dm (mapOf T) L).length:=⟨_,rfl⟩;obtain⟨a2,c2,rfl,_,_⟩:=bG.nO s2 d;have ac:=aa d;have t:=aa s2;have k:dm (mapOf T) L=steps (mapOf T) (i+1) [c]:=by rw[B.out,uz]
   have ad:=aa k;by_cases q:32<n2
   ·have p:¬fQ T c:=by
     by_cases ag:i+1<=f+3
     ·exact NJ (i:=i+1) (by have:=J.out;omega) (by rw[<-k,<-d];exact q)
     have j:i=T.length+3:=by have:=J.out;omega
     rw[d,B.out,j] at q;exact Ke q (by rw[<-j,<-B.out];exact YS)
    have E:P=false:=HP.out.trans (decide_eq_false p);have Ur:=aa p;subst E;clear K Z s2 u d k p;go_wp2;go_ret2;exact⟨_,rfl,λh=>absurd h Ur.out,O⟩
   have N:=aa (Vf HH.out S);have F:i+1=f+4->¬fQ T c:=by
    rintro M⟨Q,_⟩;have j:i=T.length+3:=by have:=J.out;omega
    rw[jo,<-j,<-B.out] at Q;rw[Bz.2 Q] at u;cases u
   have ab:=aa F;clear K Z s2 u d k F;go_wp2;go_roundw
   case rel=>exact⟨i+1,dm (mapOf T) L,by omega,rfl,ad.out,by rw[<-ac.out];omega,N.out,ab.out,t.out,H⟩
   case measure=>simp[intOf];omega
  have M:i=f+4:=by omega
  have Ur:=aa (HE.out M);have E:P=false:=HP.out.trans (decide_eq_false Ur.out);subst E;clear K;go_wp2;go_ret2;exact⟨_,rfl,λh=>absurd h Ur.out,fT⟩
end Go.Proofs.YtmnimbnojdndmaaGreatDoor
