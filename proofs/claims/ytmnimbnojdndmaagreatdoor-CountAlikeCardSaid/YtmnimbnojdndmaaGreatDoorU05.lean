/- Texts that are alike cost, and count, the same; no condition. -/
import Derived.Test.YtmnimbnojdndmaaGreatDoorU04
import Derived.Lib.AppendZerosOnto
set_option maxRecDepth 100000
set_option maxHeartbeats 6400000
set_option linter.all false
namespace Go.Cd
variable {M:Nat->List Nat} {c:Nat}
structure aG where
 code:Nat
 cls:Nat
 map:List Nat
deriving DecidableEq
def rowOf (T:List aG) (c:Nat):Option aG:=T.find? λr=>r.code==c
def ai (T:List aG) (c:Nat):Nat:=match rowOf T c with|some r=>r.cls|none=>0
def bP (T:List aG) (c:Nat):List Nat:=match rowOf T c with|some r=>r.map|none=>[]
def mapOf (T:List aG) (c:Nat):List Nat:=if hk c<4 then bP T c else dI c
def iD (M:Nat->List Nat):Nat->Nat->List Nat
 | 0,c=>[c]
 | n+1,c=>if M c=[] then [c] else (M c).flatMap (iD M n)
def dm (M:Nat->List Nat) (l:List Nat):List Nat:=l.flatMap λc=>if M c=[] then [c] else M c
def tJ (M:Nat->List Nat) (l:List Nat):Prop:=∀x∈l,M x=[]
def iK (h:M c=[]):∀n,iD M n c=[c]
 | 0=>rfl
 | n+1=>by unfold iD;rw[if_pos h]
def EJ (h:¬M c=[]) (n:Nat):iD M (n+1) c=(M c).flatMap (iD M n):=by
 conv=>lhs;unfold iD
 rw[if_neg h]
def Q8 (M:Nat->List Nat) (n:Nat) (l:List Nat):l.flatMap (iD M (n+1))=(dm M l).flatMap (iD M n):=by
 unfold dm;rw[List.flatMap_assoc];congr 1;funext c;by_cases h:M c=[]
 ·rw[if_pos h,iK h,List.flatMap_singleton,iK h]
 rw[if_neg h,EJ h]
def qF {M:Nat->List Nat}:∀{l:List Nat},tJ M l->dm M l=l
 | [],_=>rfl
 | c::l,h=>by
   unfold dm;rw[iR,if_pos (h c (by simp))];have:=qF (M:=M) (l:=l) (λx a=>h x (by simp[a]));unfold dm at this;rw[this];rfl
def EM (M:Nat->List Nat):∀l:List Nat,l.length<=(dm M l).length
 | []=>gw _
 | c::l=>by
   have a:=EM M l;unfold dm at a⊢;rw[iR,d',hU];have:1<=(if M c=[] then [c] else M c).length:=by
    split
    ·simp
    rename_i h;exact jz.2 h
   omega
def steps (M:Nat->List Nat):Nat->List Nat->List Nat
 | 0,l=>l
 | n+1,l=>steps M n (dm M l)
def A_ (M:Nat->List Nat):∀(n:Nat) (l:List Nat),steps M n l=l.flatMap (iD M n)
 | 0,l=>by
   show l=_;have:iD M 0=λc=>[c]:=rfl;rw[this]
   induction l with
   | nil=>rfl
   | cons c l ih=>rw[iR,<-ih];rfl
 | n+1,l=>by
   show steps M n (dm M l)=_;rw[A_ M n,Q8]
def uz (M:Nat->List Nat):∀(n:Nat) (l:List Nat),steps M (n+1) l=dm M (steps M n l)
 | 0,_=>rfl
 | n+1,l=>uz M n (dm M l)
def y7 {l:List Nat} (h:tJ M l):∀n,steps M n l=l
 | 0=>rfl
 | n+1=>by show steps M n (dm M l)=l;rw[qF h];exact y7 h n
def xU (M:Nat->List Nat):∀(n m:Nat) (l:List Nat),steps M (n+m) l=steps M m (steps M n l)
 | 0,m,l=>by rw[kh];rfl
 | n+1,m,l=>by rw[vf];exact xU M n m (dm M l)
def xV (M:Nat->List Nat):∀(n:Nat) (l:List Nat),l.length<=(steps M n l).length
 | 0,_=>gw _
 | n+1,l=>gS (EM M l) (xV M n (dm M l))
def aD (T:List aG) (c:Nat):List Nat:=iD (mapOf T) (T.length+3) c
def fQ (T:List aG) (c:Nat):Prop:=tJ (mapOf T) (aD T c)/\(aD T c).length<=32
def jo (T:List aG) (c:Nat):aD T c=steps (mapOf T) (T.length+3) [c]:=by
 unfold aD;rw[A_];simp
def GK {T:List aG} {k:Nat} (a:k<=T.length+3) (h:tJ (mapOf T) (steps (mapOf T) k [c])):aD T c=steps (mapOf T) k [c]:=by
 rw[jo,show T.length+3=k+(T.length+3-k) by omega,xU,y7 h]
end Go.Cd
namespace Go.Proofs.YtmnimbnojdndmaaGreatDoor
open Go.RowKit Go.Cd _root_.Go.Proofs.Tryz
variable {w w':World} {v:Value} {T:List aG} {X:List Nat}
def y8 (w:World) (v:Value) (T:List aG):Prop:=
 ∃a cap,v=.slice a T.length cap/\T.length<=cap/\∀i (c:i<T.length),∃b off m,a=some ⟨b,off,none⟩/\b<w.heap.size/\
  w.cell? ⟨b,off+i*3,none⟩=some (.int .i64 T[i].code)/\w.cell? ⟨b,off+i*3+1,none⟩=some (.int .i64 T[i].cls)/\w.cell? ⟨b,off+i*3+2,none⟩=some m/\bG w m (ints T[i].map)
def y8.mono (h:y8 w v T) (c:Below w.heap.size w w'):y8 w' v T:=by
 obtain⟨a,cap,o,g,h⟩:=h;refine⟨a,cap,o,g,λi j=>?_⟩;obtain⟨b,off,m,e,d,f,n,l,k⟩:=h i j;exact⟨b,off,m,e,j9 d c.size,aB c f,aB c n,aB c l,k.mono c⟩
def jq (w:World) (v:Value) (T:List aG) (X:List Nat):Prop:=∃r x,v=.agg #[r,x]/\y8 w r T/\bG w x (ints X)
def jq.mono (h:jq w v T X) (a:Below w.heap.size w w'):jq w' v T X:=by
 obtain⟨r,x,c,d,b⟩:=h;exact⟨r,x,c,d.mono a,b.mono a⟩
def oV {c:Nat} (h:∀r∈T,r.code≠c):rowOf T c=none:=List.find?_eq_none.2 λr a=>by simpa using h r a
def Ba {c i:Nat} (d:i<T.length) (h:∀r∈T.take i,r.code≠c) (a:T[i].code=c):rowOf T c=some T[i]:=by
 unfold rowOf;rw[List.find?_eq_some_iff_append];refine⟨by simpa using a,T.take i,T.drop (i+1),?_,λr b=>by simpa using h r b⟩;rw[List.getElem_cons_drop,ke]
def tK (h:jq w v T X) (c:Nat) (g:T.length<1000000) :
 Calls prog 54 #[v,.int .i64 c] w λe w'=>e=.returned (.int .i64 (ai T c))/\Below w.heap.size w w':=by
 obtain⟨r,x,rfl,V,G⟩:=h;obtain⟨a,cap,rfl,_,N⟩:=V;obtain⟨y,s,rfl,_,_⟩:=bG.out G;obtain⟨F,i⟩:∃n,n=(ints X).length:=⟨_,rfl⟩;rw[<-i];obtain⟨n,u⟩:=ae T.length;rw[<-u] at g⊢;have M:=aa u;have Q:=aa N;have l:=ah (w:=w) (.cells #[.slice a n cap,.slice y F s] 25);obtain⟨K,o⟩:=ae (ai T c);have O:=aa o;rw[<-o];have U:(w.alloc (.cells #[.slice a n cap,.slice y F s] 25)).cell? ⟨w.heap.size,0,none⟩=some (.slice a n cap):=by unfold World.cell?;rw[heap_alloc_new];rfl
 obtain⟨I,p⟩:=ae (w.alloc (.cells #[.slice a n cap,.slice y F s] 25));rw[<-p] at l U;clear G N u i o;go_enter func54,ntmps54;go_wp2_with fail;rw[<-p];clear p;go_loopw [10] (λB wr=>∃j:Nat,j<=n/\B=.int .i64 j/\(∀r∈T.take j,r.code≠c)/\Below I.heap.size I wr) (λB _=>n-(intOf B).toNat)
 case atStart=>exact⟨0,gW _,rfl,by simp,gO _ _⟩
 case round=>
  obtain⟨j,Z,rfl,d,A⟩:=hrel;have k:=af l A;by_cases P:j<n
  ·have f:j<T.length:=by have:=M.out;omega
   obtain⟨b,off,m,rfl,Y,H,L,D,J⟩:=Q.out j f;obtain⟨am,cm,rfl,_,_⟩:=bG.out J;generalize (ints T[j].map).length=nm at D;clear J;have H:=aB k H;have L:=aB k L;have D:=aB k D;have S:=aa (Ba f d);have R:=aa (show ∀r,r∈T.take (j+1)↔r∈T.take j\/r=T[j] from λr=>by rw[gE f,gR,gC]);have W:=aa d;generalize T[j]=q at *;clear d;by_cases t:q.code=c
   ·have E:K=q.cls:=O.out.trans (by unfold ai;rw[S.out t]);subst E;subst t;go_wp2;go_ret;exact⟨rfl,l.trans ((af A (ah _)).mono l.size)⟩
   have:((q.code:Int)==c)=false:=by simp;omega
   go_wp2;go_roundw
   case rel=>exact⟨j+1,by omega,rfl,λr C=>by rcases (R.out r).1 C with h|h;exact W.out r h;rw[h];exact t,af A (ah _)⟩
   case measure=>simp[intOf];omega
  obtain rfl:j=n:=by omega
  have E:K=0:=O.out.trans (by unfold ai;rw[oV (λr C=>d r (by rw[M.out,kO];exact C))]);subst E;go_wp2;go_ret;exact⟨rfl,k⟩
def y9 (h:jq w v T X) (c:Nat) (hc:c<1114112) (K:T.length<1000000) :
 Calls prog 53 #[v,.int .i64 c] w λe w'=>∃r,e=.returned r/\bG w' r (ints (mapOf T c))/\Below w.heap.size w w':=by
 obtain⟨r,x,rfl,g,h2⟩:=h;obtain⟨a,cap,rfl,_,hx⟩:=g;obtain⟨Z,U,rfl,_,_⟩:=bG.out h2;obtain⟨nx,L⟩:∃n,n=(ints X).length:=⟨_,rfl⟩;rw[<-L];obtain⟨n,W⟩:=ae T.length;rw[<-W] at K⊢;have HN:=aa W;have HX:=aa hx;have F:=ah (w:=w) (.cells #[.slice a n cap,.slice Z nx U] 25);have O:(w.alloc (.cells #[.slice a n cap,.slice Z nx U] 25)).cell? ⟨w.heap.size,0,none⟩=some (.slice a n cap):=by unfold World.cell?;rw[heap_alloc_new];rfl
 obtain⟨W0,C⟩:=ae (w.alloc (.cells #[.slice a n cap,.slice Z nx U] 25));rw[<-C] at F O;have i:=aa (tH (w:=W0) c hc);obtain⟨M,R⟩:=ae (mapOf T c);have HM:=aa R;rw[<-R];clear h2 hx W L R;by_cases H:hk c<4
 ·have E:=aa (HM.out.trans (by unfold mapOf;rw[if_pos H]):M=bP T c);rw[iC.2 H] at i;clear H;go_enter func53,ntmps53;go_wp2_with fail;rw[<-C];clear C;refine i.out.mono ?_;rintro e u⟨r1,rfl,s,g⟩;have d:=af F g;have d1:=aB g O;obtain⟨a1,P,rfl,_,_⟩:=bG.out (Sl.aU s).any;rw[show(ints []).length=0 from rfl];clear i s g O F;go_wp2_with fail;go_loopw [30] (λiv wr=>∃j:Nat,j<=n/\iv=.int .i64 j/\(∀r∈T.take j,r.code≠c)/\Below u.heap.size u wr) (λiv _=>n-(intOf iv).toNat)
  case atStart=>exact⟨0,gW _,rfl,by simp,gO _ _⟩
  case round=>
   obtain⟨j,hj,rfl,k,hE⟩:=hrel;have B:=af d hE;by_cases ac:j<n
   ·have A:j<T.length:=by have:=HN.out;omega
    obtain⟨b,off,m,rfl,ai,c0,P,c2,N⟩:=HX.out j A;have c0:=aB B c0;have P:=aB B P;have c2:=aB B c2;obtain⟨am,cm,rfl,_,_⟩:=bG.out N;have N:=aa (N.mono B);have HA:=aa (Ba A k);have HS:=aa (show ∀r,r∈T.take (j+1)↔r∈T.take j\/r=T[j] from λr=>by rw[gE A,gR,gC]);have Yf:=aa k;generalize T[j]=q at *;obtain⟨nm,J⟩:=ae ((ints q.map).length);rw[<-J] at N c2;clear k J;by_cases V:q.code=c
    ·have E2:M=q.map:=E.out.trans (by unfold bP;rw[HA.out V]);subst E2;subst V;go_wp2;go_ret;exact⟨_,rfl,N.out.mono (ah _),B.trans ((ah _).mono B.size)⟩
    have z:((q.code:Int)==c)=false:=by simp;omega
    go_wp2;go_roundw
    case rel=>exact⟨j+1,by omega,rfl,λr S=>by rcases (HS.out r).1 S with h|h;exact Yf.out r h;rw[h];exact V,af hE (ah _)⟩
    case measure=>simp[intOf];omega
   obtain rfl:j=n:=by omega
   have E2:M=[]:=E.out.trans (by unfold bP;rw[oV (λr S=>k r (by rw[HN.out,kO];exact S))]);subst E2;go_wp2;go_ret;exact⟨_,rfl,⟨none,0,rfl,gw _,.inl ⟨rfl,λ_=>rfl⟩⟩,B⟩
 have Q:M=dI c:=HM.out.trans (by unfold mapOf;rw[if_neg H]);by_cases I:hk c=5
 ·obtain⟨x,y,z,f⟩:∃x y z,hparts c=[x,y,z]:=by unfold hparts;rw[if_neg (by omega),if_pos I];exact⟨_,_,_,rfl⟩
  have hz:z<4547:=(Ez (by rw[f];simp:z∈hparts c)).1;have Y:dI c=[c-(z-4519),z]/\4519<=z:=by
   unfold hparts at f;rw[if_neg (by omega),if_pos I] at f;simp only[pf] at f;unfold dI;rw[if_neg (by omega),if_pos I,f.2.2.1];have h9:=f.2.2.1;generalize (c-44032) % 28=t at *;have:c-t=c-(z-4519):=by omega
   rw[this];exact⟨rfl,by omega⟩
  have ab:=(kI.1 I).1;have E:=aa (Q.trans Y.1);have ad:=Y.2;rw[f] at i;clear H I Q f Y;go_enter func53,ntmps53;go_wp2_with fail;rw[<-C];clear C;refine i.out.mono ?_;rintro e u⟨r1,rfl,s,g⟩;have d:=af F g;have s1:=(Sl.aU s).any;obtain⟨a1,P,rfl,G,l⟩:=bG.out s1;obtain⟨b1,f1,rfl,_,D⟩:=l 2 (by simp);have D:u.cell? ⟨b1,f1+2,none⟩=some (.int .i64 z):=by rw[D];rfl
  rw[show(ints [x,y,z]).length=3 from rfl] at G⊢;have hg:=Gr.cell (ag u) D;clear i s g O F s1 l;go_wp2_with fail;refine aC (Array.replicate 11 true) 11 0 mixed ?_;refine ay [0,1,2,3,4,5,6,7,8] 2 ?_
  iterate 9 (refine aA rfl ?_;go_big_quiet_step (rfl))
  refine az ?_;refine aI 9 ?_;go_wp2_with fail;refine aF (ah _) ?_;refine ay [10] 0 ?_
  iterate 1 (refine aA rfl ?_;go_big_quiet_step (rfl))
  refine az ?_;refine aJ [] ?_;refine tail_nil ?_;go_wp2;go_ret;refine⟨_,rfl,?_,d.trans ((af (ag u) (ah _)).mono d.size)⟩;rw[E.out];have o:=rP u #[.int .i64 (c-(z-4519):Nat),.int .i64 z] bB;rw[show((c-(z-4519):Nat):Int)=(c:Int)-((z:Int)-4519) by omega] at o;have e3:ints [c-(z-4519),z]=(#[Value.int .i64 ((c:Int)-((z:Int)-4519)),.int .i64 z]:Array Value).toList:=by
   rw[show(c:Int)-((z:Int)-4519)=((c-(z-4519):Nat):Int) by omega];rfl
  rw[e3];exact o.mono (ag _)
 have p:hk c=4:=by have:=vU c;omega
 obtain⟨x,y,f⟩:∃x y,hparts c=[x,y]:=by unfold hparts;rw[if_pos p];exact⟨_,_,rfl⟩
 have E:=aa (Q.trans (show dI c=[x,y] by rw[<-f];unfold hparts dI;rw[if_pos p,if_pos p]));rw[f] at i;clear H I p Q f;go_enter func53,ntmps53;go_wp2_with fail;rw[<-C];clear C;refine i.out.mono ?_;rintro e u⟨r1,rfl,s,g⟩;have d:=af F g;have s1:=(Sl.aU s).any;obtain⟨a1,P,rfl,G,l⟩:=bG.out s1;rw[show(ints [x,y]).length=2 from rfl] at G s1⊢;have S1:=aa s1;clear i s g O F s1 l;go_wp2;go_ret;exact⟨_,rfl,by rw[E.out];exact S1.out,d⟩
def wu (c:Nat):(dI c).length<=2:=by
 unfold dI
 split
 ·exact gw _
 split
 ·exact gw _
 exact gW _
def EP (h:∀r∈T,r.map.length<=4) (c:Nat):(mapOf T c).length<=4:=by
 unfold mapOf
 split
 ·unfold bP;cases a:rowOf T c with
  | none=>exact gW _
  | some r=>exact h r (mu a)
 exact gS (wu c) (by decide)
def Nl (M:Nat->List Nat) (l:List Nat) (x:Nat):dm M (l++[x])=dm M l++if M x=[] then [x] else M x:=by
 unfold dm;rw[jj];simp
def JE {M:Nat->List Nat} {k:Nat} (a:1<=k) (h:∀x,(M x).length<=k):∀l:List Nat,(dm M l).length<=k*l.length
 | []=>gW _
 | c::l=>by
   have b:=JE a h l;unfold dm at b⊢;rw[iR,d',hU,ti];have:(if M c=[] then [c] else M c).length<=k:=by split;exact a;exact h c
   omega
def anyM (M:Nat->List Nat) (l:List Nat):Bool:=l.any λx=>!(M x).isEmpty
def Q9 (M:Nat->List Nat) (l:List Nat) (x:Nat):anyM M (l++[x])=(anyM M l||!(M x).isEmpty):=by unfold anyM;simp
def jN:Elem prog 23 bB (.int .i64 0) 8:=⟨rfl,underlying23,info_parts (by kernel_rfl)⟩
def kJ (l:List Nat):∀u∈ints l,u.oneCell'=true:=by
 intro u a;obtain⟨d,_,rfl⟩:=jx.1 a;rfl
def qG (l m:List Nat):ints (l++m)=ints l++ints m:=by simp[ints]
def bG.nO {l:List Nat} {n:Nat} (h:bG w v (ints l)) (d:n=l.length):∃a cap,v=.slice a n cap/\n<=cap/\
 ∀i (f:i<l.length),∃b off,a=some ⟨b,off,none⟩/\b<w.heap.size/\w.cell? ⟨b,off+i,none⟩=some (.int .i64 (l[i]:Nat)):=by
 subst d;obtain⟨a,cap,rfl,m,g⟩:=Go.Cd.bG.out h;have c:(ints l).length=l.length:=ek _;refine⟨a,cap,by rw[c],by omega,λi f=>?_⟩;obtain⟨b,off,e,k,j⟩:=g i (by omega);exact⟨b,off,e,k,by rw[j];simp[ints]⟩
def aT {B d:Nat} {e:TypeId} {a:Nat} {n:Nat} {c:List Value} (h:w.ownsRow B e a v n c) (k:d<=B):w.ownsRow d e a v n c:=by
 obtain⟨j,f⟩:=h;refine⟨j,f.imp id ?_⟩;rintro⟨g,cap,b,l,i,r⟩;exact⟨g,cap,b,l,gS k i,r⟩
def jq.shape (h:jq w v T X):∃a e cap c f b,v=.agg #[.slice a e cap,.slice c f b]:=by
 obtain⟨r,x,rfl,⟨a,cap,rfl,_⟩,d⟩:=h;obtain⟨c,b,rfl,_,_⟩:=Go.Cd.bG.out d;exact⟨_,_,_,_,_,_,rfl⟩
def GL {u:Value} {L:List Nat} (h:jq w v T X) (hl:bG w u (ints L)) (hL:∀x∈L,x<1114112) (V:∀r∈T,r.map.length<=4) (F:T.length<1000000) (YS:L.length<1000000) :
 Calls prog 79 #[v,u] w λe w'=>∃r,e=.returned (.tuple #[r,.bool (anyM (mapOf T) L)])/\w'.ownsRow w.heap.size bB 1 r (dm (mapOf T) L).length (ints (dm (mapOf T) L))/\Below w.heap.size w w':=by
 have HT:=aa h;obtain⟨a,J,cap,I,K,H,rfl⟩:=h.shape;obtain⟨n,W⟩:=ae L.length;obtain⟨al,cl,rfl,_,Q⟩:=bG.nO hl W;have HN:=aa W;have HX:=aa Q;have HL:=aa hL;have Ja:n<1000000:=by omega
 have Q_:=aa (λl=>JE (M:=mapOf T) (k:=4) (by decide) (EP V) l);have ER:=aa (EP V);have hb:=ah (w:=w) (.cells #[.slice a J cap,.slice I K H] 25);have d0:(w.alloc (.cells #[.slice a J cap,.slice I K H] 25)).cell? ⟨w.heap.size,0,none⟩=some (.slice a J cap):=by unfold World.cell?;rw[heap_alloc_new];rfl
 have d1:(w.alloc (.cells #[.slice a J cap,.slice I K H] 25)).cell? ⟨w.heap.size,1,none⟩=some (.slice I K H):=by unfold World.cell?;rw[heap_alloc_new];rfl
 obtain⟨g,E⟩:=ae (w.alloc (.cells #[.slice a J cap,.slice I K H] 25));rw[<-E] at hb d0 d1;obtain⟨W1,i⟩:=ae (g.alloc (.cells #[] bB));have D:Below g.heap.size g W1:=by subst i;exact ah _
 have o1:W1.ownsRow g.heap.size bB 1 (.slice (some ⟨w.heap.size+1,0,none⟩) 0 0) 0 (ints []):=by
  subst i;have:=rM g bB;rw[show g.heap.size=w.heap.size+1 by rw[E];simp] at this⊢;exact this
 rw[E] at i;have ab:g.heap.size=w.heap.size+1:=by rw[E];simp
 clear E h hl Q W hL V;go_enter func79,ntmps79;go_wp2_with fail;rw[<-i];clear i;go_loopw [6,7,14] (λov sv iv wr=>∃j:Nat,j<=n/\iv=.int .i64 j/\sv=.bool (anyM (mapOf T) (L.take j))/\wr.ownsRow g.heap.size bB 1 ov (dm (mapOf T) (L.take j)).length (ints (dm (mapOf T) (L.take j)))/\Below g.heap.size g wr) (λ_ _ iv _=>n-(intOf iv).toNat)
 case atStart=>exact⟨0,gW _,rfl,rfl,o1,D⟩
 case round=>
  clear o1 D;obtain⟨j,hj,rfl,rfl,R,O⟩:=hrel;have U:=af hb O;by_cases ac:j<n
  ·have o:j<L.length:=by have:=HN.out;omega
   obtain⟨b,off,rfl,ag,hc⟩:=HX.out j o;have hc:=aB U hc;have e0:=aB O d0;have e1:=aB O d1;have Q:=HL.out _ (gx o);have G:=Q_.out (L.take j);rw[iS] at G;have N:=aa (show dm (mapOf T) (L.take (j+1))=_ by rw[gE o,Nl]);have P:=aa (show anyM (mapOf T) (L.take (j+1))=_ by rw[gE o,Q9]);generalize dm (mapOf T) (L.take j)=S at *;generalize anyM (mapOf T) (L.take j)=A at *;generalize L[j]=x at *;have Y:=aa (y9 (HT.out.mono U) x Q F);have kz:=ER.out x;go_wp2_with fail;refine Y.out.mono ?_;rintro e w2⟨r2,rfl,s2,h2⟩;have p:=af O h2;have C:=aH R h2;have S2:=aa s2;generalize mapOf T x=m at *;obtain⟨nm,d⟩:=ae m.length;obtain⟨a2,c2,rfl,_,_⟩:=bG.nO s2 d;have sN:=aa d;by_cases c:m=[]
   ·have h0:nm=0:=by rw[d,c];rfl
    subst h0;have s:=aa (N.out.trans (by rw[if_pos c]):dm (mapOf T) (L.take (j+1))=S++[x]);have B:=aa (P.out.trans (by rw[c];simp):anyM (mapOf T) (L.take (j+1))=A);clear Y s2 d c N P e0 e1;go_wp2_with (at_builtin;refine f_ rfl _ _ 23 rfl g.heap.size bB _ 8 jN _ S.length _ rfl C _ rfl rfl (by omega) (by unfold maxLen;omega) g p (gw _) ?_;intro v' w3 f Z _ _);go_roundw
    case rel=>exact⟨j+1,by omega,rfl,by rw[B.out],by rw[s.out,qG,d'];exact f,Z⟩
    case measure=>simp[intOf];omega
   have h0:¬nm=0:=λh=>c (im.1 (d▸h));have z:((nm:Int)==0)=false:=by simp;omega
   have ad:nm<=4:=by omega
   have s:=aa (N.out.trans (by rw[if_neg c]):dm (mapOf T) (L.take (j+1))=S++m);have B:=aa (P.out.trans (by cases m with|nil=>exact absurd rfl c|cons y m=>simp):anyM (mapOf T) (L.take (j+1))=true);have q:(ints m).length=nm:=by rw[ek,d]
   clear Y s2 d c N P e0 e1;go_wp2_with (at_builtin;refine bR rfl _ _ 23 rfl g.heap.size bB _ 8 jN _ S.length _ rfl C _ (ints m) rfl S2.out (kJ m) (by rw[q];unfold maxLen;omega) (by rw[q];omega) p.size ?_;intro v' w3 f t);have lH:=p.grown t p.size (λk hk=>(C.lt k hk).1);go_roundw
   case rel=>exact⟨j+1,by omega,rfl,by rw[B.out],by rw[s.out,qG,d',<-sN.out,<-q];exact f,lH⟩
   case measure=>simp[intOf];omega
  obtain rfl:j=n:=by omega
  rw[ie (by rw[HN.out];exact gw _)] at R⊢;go_wp2;go_ret2;exact⟨_,rfl,aT R (by omega),U⟩
def tx (l:List UInt8):ByteArray:=⟨l.toArray⟩
def Nn (l:List Nat):str l=tx (l.map UInt8.ofNat):=rfl
def dA (a b:List UInt8):tx a++tx b=tx (a++b):=by
 apply wt;simp[tx,ByteArray.data_append]
def aX (a:List UInt8):(tx a).size=a.length:=by simp[tx,ByteArray.size]
def lI (w:World) (cs:Array Value) (n:Nat) (L:List Nat) (b:cs.size=n) (a:cs.toList=mR L) (h:∀d∈L,d<256) :
 (convert 163 9 (.slice (some ⟨w.heap.size,0,none⟩) n n)).run prog (w.alloc (.cells cs tF))=.ok (.string (str L)) (w.alloc (.cells cs tF)):=by
 subst b;have:=rP w cs tF;rw[a] at this;exact A7 this h
def GM (c:Nat) (k:c<1114112) :
 Calls prog 50 #[.int .i64 c] w λe w'=>e=.returned (.string (tx (lD c)))/\Below w.heap.size w w':=by
 obtain⟨R,f⟩:=ae (tx (lD c));have:=aa f;rw[<-f];by_cases h:c<128
 ·have E:fI c=[c]:=by unfold fI;rw[if_pos h]
  have a:=lI w #[.int .u8 c] 1 [c] rfl (by simp[mR]) (λd hd=>by rw[gC.1 hd];omega);have b:str [c]=R:=by rw[f,lD,E];rfl
  rw[b] at a;have g:=ah (w:=w) (.cells #[.int .u8 c] tF);clear f b E;go_enter func50,ntmps50;go_wp2_with fail;go_ret;exact⟨rfl,g⟩
 by_cases i:c<2048
 ·have E:fI c=[192+c / 64,128+c % 64]:=by unfold fI;rw[if_neg h,if_pos i]
  have a:=lI w #[.int .u8 (192+(c:Int) / 64),.int .u8 (128+(c:Int) % 64)] 2 [192+c / 64,128+c % 64] rfl (by simp[mR]) (λd hd=>by simp only[jf,km,or_false] at hd;omega);have b:str [192+c / 64,128+c % 64]=R:=by rw[f,lD,E];rfl
  rw[b] at a;have g:=ah (w:=w) (.cells #[.int .u8 (192+(c:Int) / 64),.int .u8 (128+(c:Int) % 64)] tF);clear f b E;go_enter func50,ntmps50;go_wp2_with fail;go_ret;exact⟨rfl,g⟩
 by_cases j:c<65536
 ·have E:fI c=[224+c / 4096,128+c / 64 % 64,128+c % 64]:=by unfold fI;rw[if_neg h,if_neg i,if_pos j]
  have a:=lI w #[.int .u8 (224+(c:Int) / 4096),.int .u8 (128+(c:Int) / 64 % 64),.int .u8 (128+(c:Int) % 64)] 3 [224+c / 4096,128+c / 64 % 64,128+c % 64] rfl (by simp[mR]) (λd hd=>by simp only[jf,km,or_false] at hd;omega);have b:str [224+c / 4096,128+c / 64 % 64,128+c % 64]=R:=by rw[f,lD,E];rfl
  rw[b] at a;have g:=ah (w:=w) (.cells #[.int .u8 (224+(c:Int) / 4096),.int .u8 (128+(c:Int) / 64 % 64),.int .u8 (128+(c:Int) % 64)] tF);have n:(c:Int)<65536:=by omega
  have o:(c:Int)<1114112:=by omega
  have l:¬(c:Int)<128:=by omega
  have m:¬(c:Int)<2048:=by omega
  clear f b E k j h i;go_enter func50,ntmps50;go_wp2_with fail;go_ret;exact⟨rfl,g⟩
 have E:fI c=[240+c / 262144,128+c / 4096 % 64,128+c / 64 % 64,128+c % 64]:=by unfold fI;rw[if_neg h,if_neg i,if_neg j]
 have a:=lI w #[.int .u8 (240+(c:Int) / 262144),.int .u8 (128+(c:Int) / 4096 % 64),.int .u8 (128+(c:Int) / 64 % 64),.int .u8 (128+(c:Int) % 64)] 4 [240+c / 262144,128+c / 4096 % 64,128+c / 64 % 64,128+c % 64] rfl (by simp[mR]) (λd hd=>by simp only[jf,km,or_false] at hd;omega);have b:str [240+c / 262144,128+c / 4096 % 64,128+c / 64 % 64,128+c % 64]=R:=by rw[f,lD,E];rfl
 rw[b] at a;have g:=ah (w:=w) (.cells #[.int .u8 (240+(c:Int) / 262144),.int .u8 (128+(c:Int) / 4096 % 64),.int .u8 (128+(c:Int) / 64 % 64),.int .u8 (128+(c:Int) % 64)] tF);have n:¬(c:Int)<65536:=by omega
 have o:(c:Int)<1114112:=by omega
 have l:¬(c:Int)<128:=by omega
 have m:¬(c:Int)<2048:=by omega
 clear f b E k j h i;go_enter func50,ntmps50;go_wp2_with fail;go_ret;exact⟨rfl,g⟩
def DD {L:List Nat} (h:bG w v (ints L)) (m:∀x∈L,x<1114112) (u:L.length<1000000) :
 Calls prog 16 #[v] w λe w'=>e=.returned (.string (tx (dQ L)))/\Below w.heap.size w w':=by
 obtain⟨n,d⟩:=ae L.length;obtain⟨C,F,rfl,_,f⟩:=bG.nO h d;have l:=aa d;have t:=aa f;have o:=aa m;have y:=aa (show ∀j,(tx (dQ (L.take j))).size<=4*j from λj=>by rw[aX];have:=qE (L.take j);rw[iS] at this;omega);have z:=aa (show ∀c,(tx (lD c)).size<=4 from λc=>by rw[aX,jK];exact(oU c).2);rw[<-d] at u;clear h f d m;go_enter func16,ntmps16;go_wp2_with fail;go_loopw [3,8] (λA i wr=>∃j:Nat,j<=n/\i=.int .i64 j/\A=.string (tx (dQ (L.take j)))/\Below w.heap.size w wr) (λ_ i _=>n-(intOf i).toNat)
 case atStart=>exact⟨0,gW _,rfl,rfl,gO _ _⟩
 case round=>
  obtain⟨j,D,rfl,rfl,g⟩:=hrel;by_cases r:j<n
  ·have a:j<L.length:=by have:=l.out;omega
   obtain⟨b,off,rfl,B,k⟩:=t.out j a;have k:=aB g k;have f:=o.out _ (gx a);have s:=aa (show tx (dQ (L.take j))++tx (lD L[j])=tx (dQ (L.take (j+1))) by rw[dA,gE a,JB];simp[dQ]);have s1:=y.out j;have s2:=z.out L[j];generalize L[j]=x at *;have p:=aa (λW=>GM (w:=W) x f);generalize tx (lD x)=U at *;generalize tx (dQ (L.take j))=S at *;have s3:¬9223372036854775807<(S.size:Int)+U.size:=by omega
   have s4:¬9223372036854775807<S.size+U.size:=by omega
   go_wp2_with fail;refine(p.out _).mono ?_;rintro e E⟨rfl,q⟩;go_wp2;go_roundw
   case rel=>exact⟨j+1,by omega,rfl,by rw[s.out],af g q⟩
   case measure=>simp[intOf];omega
  obtain rfl:j=n:=by omega
  rw[ie (by rw[l.out];exact gw _)];go_wp2;go_ret;exact⟨rfl,g⟩
structure dB (w:World):Prop where
 c0:w.cell? ⟨0,0,none⟩=some (.int .u8 0)
 c1:w.cell? ⟨0,1,none⟩=some (.int .u8 127)
 c2:w.cell? ⟨0,2,none⟩=some (.int .i32 0)
 c3:w.cell? ⟨0,3,none⟩=some (.int .u8 192)
 c4:w.cell? ⟨0,4,none⟩=some (.int .u8 31)
 c5:w.cell? ⟨0,5,none⟩=some (.int .i32 128)
 c6:w.cell? ⟨0,6,none⟩=some (.int .u8 224)
 c7:w.cell? ⟨0,7,none⟩=some (.int .u8 15)
 c8:w.cell? ⟨0,8,none⟩=some (.int .i32 2048)
 c9:w.cell? ⟨0,9,none⟩=some (.int .u8 240)
 c10:w.cell? ⟨0,10,none⟩=some (.int .u8 7)
 c11:w.cell? ⟨0,11,none⟩=some (.int .i32 65536)
def dB.mono (h:dB w) (a:Below w.heap.size w w'):dB w':=
 ⟨aB a h.c0,aB a h.c1,aB a h.c2,aB a h.c3,aB a h.c4,aB a h.c5,aB a h.c6,aB a h.c7,aB a h.c8,aB a h.c9,aB a h.c10,aB a h.c11⟩
def qd (b:Nat):Nat:=if b<128 then 1 else if 192<=b/\b<224 then 2 else if 224<=b/\b<240 then 3 else if 240<=b/\b<248 then 4 else 0
def JG:∀b:Nat,b<256->(bits .andNot .u8 (b:Int) 127==0)=decide (qd b=1)/\(bits .andNot .u8 (b:Int) 31==192)=decide (qd b=2)/\(bits .andNot .u8 (b:Int) 15==224)=decide (qd b=3)/\(bits .andNot .u8 (b:Int) 7==240)=decide (qd b=4):=by decide
def UO (b:Nat):qd b<=4:=by
 unfold qd
 repeat' split
 all_goals decide
def Qd (w:World):(Instr.index 226 (.agg #[.int .u8 0,.int .u8 127,.int .i32 0,.int .u8 192,.int .u8 31,.int .i32 128,.int .u8 224,.int .u8 15,.int .i32 2048,.int .u8 240,.int .u8 7,.int .i32 65536]) (.int .i64 0)).run prog w=.ok (.agg #[.int .u8 0,.int .u8 127,.int .i32 0]) w:=by kernel_rfl
def Qe (w:World):(Instr.index 226 (.agg #[.int .u8 0,.int .u8 127,.int .i32 0,.int .u8 192,.int .u8 31,.int .i32 128,.int .u8 224,.int .u8 15,.int .i32 2048,.int .u8 240,.int .u8 7,.int .i32 65536]) (.int .i64 1)).run prog w=.ok (.agg #[.int .u8 192,.int .u8 31,.int .i32 128]) w:=by kernel_rfl
def Qf (w:World):(Instr.index 226 (.agg #[.int .u8 0,.int .u8 127,.int .i32 0,.int .u8 192,.int .u8 31,.int .i32 128,.int .u8 224,.int .u8 15,.int .i32 2048,.int .u8 240,.int .u8 7,.int .i32 65536]) (.int .i64 2)).run prog w=.ok (.agg #[.int .u8 224,.int .u8 15,.int .i32 2048]) w:=by kernel_rfl
def Qg (w:World):(Instr.index 226 (.agg #[.int .u8 0,.int .u8 127,.int .i32 0,.int .u8 192,.int .u8 31,.int .i32 128,.int .u8 224,.int .u8 15,.int .i32 2048,.int .u8 240,.int .u8 7,.int .i32 65536]) (.int .i64 3)).run prog w=.ok (.agg #[.int .u8 240,.int .u8 7,.int .i32 65536]) w:=by kernel_rfl
def oZ (s:dB w) (b:Nat) (D:b<256) :
 Calls prog 130 #[.int .u8 b] w λe w'=>e=.returned (.int .i64 (qd b))/\Below w.heap.size w w':=by
 obtain⟨f,d,a,c⟩:=JG b D;have t:=UO b;have:=aa s;obtain⟨y,u,x,B,A,v,F,G,C,E,p,o⟩:=s;obtain⟨S,m⟩:=ae (qd b);rw[<-m] at f d a c t⊢;clear m;go_enter func130,ntmps130;go_wp2_with fail;clear y u x B A v F G C E p o;go_loopw [6] (λr wr=>∃j:Nat,j<=4/\r=.int .i64 j/\(S=0\/j<S)/\Below w.heap.size w wr) (λr _=>4-(intOf r).toNat)
 case atStart=>exact⟨0,by decide,rfl,by omega,gO _ _⟩
 case round=>
  obtain⟨j,I,rfl,n,g⟩:=hrel;have q:j=0\/j=1\/j=2\/j=3\/j=4:=by omega
  rcases q with rfl|rfl|rfl|rfl|rfl
  ·by_cases h:S=1
   ·have z:(bits .andNot .u8 (b:Int) 127==0)=true:=by rw[f,decide_eq_true h]
    have i:=aa h;clear h f d a c;have l:=Qd wr;go_wp2;go_ret;exact⟨by rw[i.out];rfl,af g (ah _)⟩
   have z:(bits .andNot .u8 (b:Int) 127==0)=false:=by rw[f,decide_eq_false h]
   have k:=aa (show S=0\/1<S by omega);clear h f d a c n;have l:=Qd wr;go_wp2;go_roundw
   case rel=>exact⟨1,by decide,rfl,k.out,af g (ah _)⟩
   case measure=>simp[intOf]
  ·by_cases h:S=2
   ·have z:(bits .andNot .u8 (b:Int) 31==192)=true:=by rw[d,decide_eq_true h]
    have i:=aa h;clear h f d a c;have l:=Qe wr;go_wp2;go_ret;exact⟨by rw[i.out];rfl,af g (ah _)⟩
   have z:(bits .andNot .u8 (b:Int) 31==192)=false:=by rw[d,decide_eq_false h]
   have k:=aa (show S=0\/2<S by omega);clear h f d a c n;have l:=Qe wr;go_wp2;go_roundw
   case rel=>exact⟨2,by decide,rfl,k.out,af g (ah _)⟩
   case measure=>simp[intOf]
  ·by_cases h:S=3
   ·have z:(bits .andNot .u8 (b:Int) 15==224)=true:=by rw[a,decide_eq_true h]
    have i:=aa h;clear h f d a c;have l:=Qf wr;go_wp2;go_ret;exact⟨by rw[i.out];rfl,af g (ah _)⟩
   have z:(bits .andNot .u8 (b:Int) 15==224)=false:=by rw[a,decide_eq_false h]
   have k:=aa (show S=0\/3<S by omega);clear h f d a c n;have l:=Qf wr;go_wp2;go_roundw
   case rel=>exact⟨3,by decide,rfl,k.out,af g (ah _)⟩
   case measure=>simp[intOf]
  ·by_cases h:S=4
   ·have z:(bits .andNot .u8 (b:Int) 7==240)=true:=by rw[c,decide_eq_true h]
    have i:=aa h;clear h f d a c;have l:=Qg wr;go_wp2;go_ret;exact⟨by rw[i.out];rfl,af g (ah _)⟩
   have z:(bits .andNot .u8 (b:Int) 7==240)=false:=by rw[c,decide_eq_false h]
   have k:=aa (show S=0\/4<S by omega);clear h f d a c n;have l:=Qg wr;go_wp2;go_roundw
   case rel=>exact⟨4,by decide,rfl,k.out,af g (ah _)⟩
   case measure=>simp[intOf]
  have i:=aa (show S=0 by omega);clear f d a c n t;go_wp2;go_ret;exact⟨by rw[i.out];rfl,g⟩
def y_ (F:dB w) (c:Nat) (r:aP c) :
 Calls prog 131 #[.int .i32 c] w λe w'=>e=.returned (.int .i64 (fH c))/\w'=w:=by
 have g:=r.1;have u:=aa (λW=>gZ (w:=W) c (by omega));simp only[decide_eq_true r] at u;obtain⟨C,y,A,G,D,K,I,J,L,H,m,B⟩:=F;have b:=oU c;have q:(c:Int)<128↔fH c<=1:=by unfold fH;(repeat' split) <;> omega
 have l:(c:Int)<2048↔fH c<=2:=by unfold fH;(repeat' split) <;> omega
 have p:(c:Int)<65536↔fH c<=3:=by unfold fH;(repeat' split) <;> omega
 obtain⟨S,k⟩:=ae (fH c);rw[<-k] at q l p b⊢;have v:=aa q;have t:=aa l;have s:=aa p;clear k r q l p C y A G D I J H m;go_enter func131,ntmps131;go_wp2_with fail;refine(u.out _).mono ?_;rintro e E⟨rfl,rfl⟩;go_wp2_with fail;go_loopw [3] (λo wr=>∃j:Nat,1<=j/\j<=S/\o=.int .i64 j/\wr=E) (λo _=>4-(intOf o).toNat)
 case atStart=>exact⟨1,by decide,b.1,rfl,(by first|rfl|trivial)⟩
 case round=>
  obtain⟨j,a,f,rfl,rfl⟩:=hrel;have n:j=1\/j=2\/j=3\/j=4:=by omega
  rcases n with rfl|rfl|rfl|rfl
  ·by_cases h:S=1
   ·have z:¬(128:Int)<=(c:Int):=λx=>by have:=v.out.2 (by omega);omega
    have d:=aa h;clear h f b a g;go_wp2;go_ret;exact⟨by rw[d.out];rfl,rfl⟩
   have z:(128:Int)<=(c:Int):=xo.1 λx=>by have:=v.out.1 x;omega
   have i:=aa (show 2<=S by omega);clear h f b a g;go_wp2;go_roundw
   case rel=>exact⟨2,by decide,i.out,rfl,(by first|rfl|trivial)⟩
   case measure=>simp[intOf]
  ·by_cases h:S=2
   ·have z:¬(2048:Int)<=(c:Int):=λx=>by have:=t.out.2 (by omega);omega
    have d:=aa h;clear h f b a g;go_wp2;go_ret;exact⟨by rw[d.out];rfl,rfl⟩
   have z:(2048:Int)<=(c:Int):=xo.1 λx=>by have:=t.out.1 x;omega
   have i:=aa (show 3<=S by omega);clear h f b a g;go_wp2;go_roundw
   case rel=>exact⟨3,by decide,i.out,rfl,(by first|rfl|trivial)⟩
   case measure=>simp[intOf]
  ·by_cases h:S=3
   ·have z:¬(65536:Int)<=(c:Int):=λx=>by have:=s.out.2 (by omega);omega
    have d:=aa h;clear h f b a g;go_wp2;go_ret;exact⟨by rw[d.out];rfl,rfl⟩
   have z:(65536:Int)<=(c:Int):=xo.1 λx=>by have:=s.out.1 x;omega
   have i:=aa (show 4<=S by omega);clear h f b a g;go_wp2;go_roundw
   case rel=>exact⟨4,by decide,i.out,rfl,(by first|rfl|trivial)⟩
   case measure=>simp[intOf]
  have d:=aa (show S=4 by omega);clear f b a;go_wp2;go_ret;exact⟨by rw[d.out];rfl,rfl⟩
def JH (n c:Nat):Nat:=(if n=1 then 0 else if n=2 then 192 else if n=3 then 224 else 240)+c / 64 ^ (n-1)
def uA:∀t:Nat,t<64->(bits .andNot .u8 ((128+t:Nat):Int) 63==128)=true/\bits .andNot .u8 ((128+t:Nat):Int) 63=128/\bits .and .u8 ((128+t:Nat):Int) 63=(t:Int):=by decide
def JI:∀q:Nat,q<128->qd q=1/\bits .and .u8 (q:Int) 127=(q:Int):=by decide
def JJ:∀q:Nat,q<32->qd (192+q)=2/\bits .and .u8 ((192+q:Nat):Int) 31=(q:Int):=by decide
def JK:∀q:Nat,q<16->qd (224+q)=3/\bits .and .u8 ((224+q:Nat):Int) 15=(q:Int):=by decide
def JL:∀q:Nat,q<8->qd (240+q)=4/\bits .and .u8 ((240+q:Nat):Int) 7=(q:Int):=by decide
def EU {s:ByteArray} (h:0<s.size):s.toList.isEmpty=false:=by
 rw[uJ];cases e:s.data.toList with
 | nil=>have:s.size=0:=by show s.data.size=0;rw[<-td,e];rfl
        omega
 | cons a l=>rfl
def Np {x t:Nat} (d:x<33554432) (b:t<64):bits .or .i32 ((x:Int)*64) (t:Int)=((x*64+t:Nat):Int):=by
 have a:(BitVec.ofInt 32 ((x:Int)*64)).toNat=x <<< 6:=by
  rw[pR,zE];have:((x:Int)*64 % ((2 ^ 32:Nat):Int)).toNat=x*64:=by omega
  rw[this]
 have c:(BitVec.ofInt 32 (t:Int)).toNat=t:=by
  rw[pR];omega
 have key:(BitVec.ofInt 32 ((x:Int)*64) ||| BitVec.ofInt 32 (t:Int)).toNat=x*64+t:=by
  rw[BitVec.toNat_or,a,c,<-An (by simpa using b),zE]
 show IntKind.i32.wrap ((BitVec.ofInt 32 ((x:Int)*64) ||| BitVec.ofInt 32 (t:Int)).toNat:Nat)=_;rw[key];rw[xf];omega
def Nq (hH:dB w) (c n:Nat) (hc:aP c) (hn:fH c=n) (s:ByteArray) (ac:n<=s.size) (h0:∀h,(s[0]'h).toNat=JH n c) (hi:∀i,1<=i->i<n->∀h,(s[i]'h).toNat=128+c / 64 ^ (n-1-i) % 64) :
 Calls prog 89 #[.string s] w λe w'=>e=.returned (.tuple #[.int .i32 c,.int .i64 n,.bool true])/\Below w.heap.size w w':=by
 have hw:=oU c;have:=hc.1;have A:=aa hH;have x:0<s.size:=by omega
 have:=EU x;have y:=aa (show ∀W,dB W->Calls prog 131 #[.int .i32 c] W λe w'=>e=.returned (.int .i64 n)/\w'=W from λW h=>by rw[<-hn];exact y_ h c hc);have HI:=aa hi;have Y:∀i,1<=i->i<=n->c / 64 ^ (n-i)<33554432:=λi _ _=>lf (tW _ _) (by omega);have R:=aa Y
 have P:=aa (show ∀i,i<n->c / 64 ^ (n-(i+1))=c / 64 ^ (n-i)*64+c / 64 ^ (n-1-i) % 64 from λi p=>by
  rw[show n-i=(n-(i+1))+1 by omega,me,<-my,show n-1-i=n-(i+1) by omega,Nat.div_add_mod'])
 have YT:=aa (show c / 64 ^ (n-n)=c by rw[m_];simp);have ab:n=1\/n=2\/n=3\/n=4:=by omega
 have Z:(n=1->c<128)/\(n=2->c<2048)/\(n=3->c<65536):=by
  rw[<-hn];unfold fH;refine⟨?_,?_,?_⟩ <;> ((repeat' split) <;> omega)
 clear hi Y hn hw;have a:=h0 x;clear h0;unfold JH at a;rcases ab with rfl|rfl|rfl|rfl
 ·have G:c / 64 ^ (1-1)<128:=by simp only[Nat.reduceSub,Nat.reducePow];omega
  have f:=R.out 1 (by omega) (by omega);have hf:=JI _ G;simp only[Nat.reduceSub,Nat.reducePow,Nat.reduceEqDiff,if_true,if_false,xr,kh,As] at a hf f;obtain⟨V,q⟩:=ae c;rw[<-q] at a hf f;obtain⟨B,z⟩:∃B:Nat,B=V:=⟨_,rfl⟩;have Q:B<256:=by omega
  have F:=aa (λW (h:dB W)=>oZ h B Q);rw[<-z] at a hf;rw[hf.1] at F;have z0:=hf.2;have e0:((s[0]'x).toNat:Int)=(B:Int):=by rw[a]
  have u:=aa (show B=c / 64 ^ (1-1) from z.trans (q.trans (by simp)));have C:=A.out.c1;clear a hf q z G Z;go_enter func89,ntmps89;go_wp2_with fail;refine(F.out _ A.out).mono ?_;rintro e k⟨rfl,b⟩;have S:=aa (A.out.mono b);have C:=aB b C;have zd:decide ((s.size:Int)<1)=false:=by simp;omega
  have y:=aa (show ∀W,dB W->Calls prog 131 #[.int .i32 c] W λe w'=>e=.returned (.int .i64 1)/\w'=W from y.out);go_wp2_with fail;go_quiet (fail);go_wp2_with fail;have O:=aa (show ∀W,Below k.heap.size k W->dB W from λW h=>S.out.mono h);have T:=aa (show Value.int .i32 (B:Int)=.int .i32 ((c / 64 ^ (1-1):Nat):Int) by rw[u.out]);go_loopw [6,7] (λN r wr=>∃i:Nat,1<=i/\i<=1/\N=.int .i32 ((c / 64 ^ (1-i):Nat):Int)/\r=.int .i64 i/\Below k.heap.size k wr) (λ_ r _=>1-(intOf r).toNat)
  case atStart=>exact⟨1,by decide,by decide,T.out,rfl,below_drewN (gO _ _) _⟩
  case round=>
   obtain⟨i,j,p,rfl,rfl,v⟩:=hrel;by_cases l:i<1
   ·omega
   obtain rfl:i=1:=by omega
   have X:=O.out _ v;have d:=YT.out;rw[d];clear d;go_wp2_with fail;refine(y.out _ X).mono ?_;rintro e w4⟨rfl,rfl⟩;go_wp2
   go_ret3
   exact⟨rfl,b.trans (v.mono b.size)⟩
 ·have G:c / 64 ^ (2-1)<32:=by simp only[Nat.reduceSub,Nat.reducePow];omega
  have f:=R.out 1 (by omega) (by omega);have hf:=JJ _ G;simp only[Nat.reduceSub,Nat.reducePow,Nat.reduceEqDiff,if_true,if_false,xr,As] at a hf f;obtain⟨V,q⟩:=ae (c / 64);rw[<-q] at a hf f;obtain⟨B,z⟩:∃B:Nat,B=192+V:=⟨_,rfl⟩;have Q:B<256:=by omega
  have F:=aa (λW (h:dB W)=>oZ h B Q);rw[<-z] at a hf;rw[hf.1] at F;have z0:=hf.2;have e0:((s[0]'x).toNat:Int)=(B:Int):=by rw[a]
  have u:=aa (show V=c / 64 ^ (2-1) from (q.trans (by simp)));have C:=A.out.c4;clear a hf q z G Z;go_enter func89,ntmps89;go_wp2_with fail;refine(F.out _ A.out).mono ?_;rintro e k⟨rfl,b⟩;have S:=aa (A.out.mono b);have C:=aB b C;have zd:decide ((s.size:Int)<2)=false:=by simp;omega
  have y:=aa (show ∀W,dB W->Calls prog 131 #[.int .i32 c] W λe w'=>e=.returned (.int .i64 2)/\w'=W from y.out);go_wp2_with fail;go_quiet (fail);go_wp2_with fail;have O:=aa (show ∀W,Below k.heap.size k W->dB W from λW h=>S.out.mono h);have T:=aa (show Value.int .i32 (V:Int)=.int .i32 ((c / 64 ^ (2-1):Nat):Int) by rw[u.out]);go_loopw [6,7] (λN r wr=>∃i:Nat,1<=i/\i<=2/\N=.int .i32 ((c / 64 ^ (2-i):Nat):Int)/\r=.int .i64 i/\Below k.heap.size k wr) (λ_ r _=>2-(intOf r).toNat)
  case atStart=>exact⟨1,by decide,by decide,T.out,rfl,below_drewN (gO _ _) _⟩
  case round=>
   obtain⟨i,j,p,rfl,rfl,v⟩:=hrel;by_cases l:i<2
   ·have M:=R.out i j p;have g:=aa (P.out i l);have m:i<s.size:=by omega
    have hd:=HI.out i j l m;obtain⟨t,E⟩:=ae (c / 64 ^ (2-1-i) % 64);have o:t<64:=by rw[E];exact mx _ (by decide)
    rw[<-E] at hd g;obtain⟨U,K⟩:=ae (c / 64 ^ (2-i));rw[<-K] at M g⊢;obtain⟨I,H,J⟩:=uA t o;have ho:=Np M o;obtain⟨D,L⟩:∃D:Nat,D=128+t:=⟨_,rfl⟩;rw[<-L] at hd I H J;have ei:((s[i]'m).toNat:Int)=(D:Int):=by rw[hd]
    clear hd E K L;go_wp2;go_roundw
    case rel=>exact⟨i+1,by omega,by omega,by rw[g.out];simp,rfl,v⟩
    case measure=>simp[intOf];omega
   obtain rfl:i=2:=by omega
   have X:=O.out _ v;have d:=YT.out;rw[d];clear d;go_wp2_with fail;refine(y.out _ X).mono ?_;rintro e w4⟨rfl,rfl⟩;go_wp2
   go_ret3
   exact⟨rfl,b.trans (v.mono b.size)⟩
 ·have G:c / 64 ^ (3-1)<16:=by simp only[Nat.reduceSub,Nat.reducePow];omega
  have f:=R.out 1 (by omega) (by omega);have hf:=JK _ G;simp only[Nat.reduceSub,Nat.reducePow,Nat.reduceEqDiff,if_true,if_false,xr,As] at a hf f;obtain⟨V,q⟩:=ae (c / 4096);rw[<-q] at a hf f;obtain⟨B,z⟩:∃B:Nat,B=224+V:=⟨_,rfl⟩;have Q:B<256:=by omega
  have F:=aa (λW (h:dB W)=>oZ h B Q);rw[<-z] at a hf;rw[hf.1] at F;have z0:=hf.2;have e0:((s[0]'x).toNat:Int)=(B:Int):=by rw[a]
  have u:=aa (show V=c / 64 ^ (3-1) from (q.trans (by simp)));have C:=A.out.c7;clear a hf q z G Z;go_enter func89,ntmps89;go_wp2_with fail;refine(F.out _ A.out).mono ?_;rintro e k⟨rfl,b⟩;have S:=aa (A.out.mono b);have C:=aB b C;have zd:decide ((s.size:Int)<3)=false:=by simp;omega
  have y:=aa (show ∀W,dB W->Calls prog 131 #[.int .i32 c] W λe w'=>e=.returned (.int .i64 3)/\w'=W from y.out);go_wp2_with fail;go_quiet (fail);go_wp2_with fail;have O:=aa (show ∀W,Below k.heap.size k W->dB W from λW h=>S.out.mono h);have T:=aa (show Value.int .i32 (V:Int)=.int .i32 ((c / 64 ^ (3-1):Nat):Int) by rw[u.out]);go_loopw [6,7] (λN r wr=>∃i:Nat,1<=i/\i<=3/\N=.int .i32 ((c / 64 ^ (3-i):Nat):Int)/\r=.int .i64 i/\Below k.heap.size k wr) (λ_ r _=>3-(intOf r).toNat)
  case atStart=>exact⟨1,by decide,by decide,T.out,rfl,below_drewN (gO _ _) _⟩
  case round=>
   obtain⟨i,j,p,rfl,rfl,v⟩:=hrel;by_cases l:i<3
   ·have M:=R.out i j p;have g:=aa (P.out i l);have m:i<s.size:=by omega
    have hd:=HI.out i j l m;obtain⟨t,E⟩:=ae (c / 64 ^ (3-1-i) % 64);have o:t<64:=by rw[E];exact mx _ (by decide)
    rw[<-E] at hd g;obtain⟨U,K⟩:=ae (c / 64 ^ (3-i));rw[<-K] at M g⊢;obtain⟨I,H,J⟩:=uA t o;have ho:=Np M o;obtain⟨D,L⟩:∃D:Nat,D=128+t:=⟨_,rfl⟩;rw[<-L] at hd I H J;have ei:((s[i]'m).toNat:Int)=(D:Int):=by rw[hd]
    clear hd E K L;go_wp2;go_roundw
    case rel=>exact⟨i+1,by omega,by omega,by rw[g.out];simp,rfl,v⟩
    case measure=>simp[intOf];omega
   obtain rfl:i=3:=by omega
   have X:=O.out _ v;have d:=YT.out;rw[d];clear d;go_wp2_with fail;refine(y.out _ X).mono ?_;rintro e w4⟨rfl,rfl⟩;go_wp2
   go_ret3
   exact⟨rfl,b.trans (v.mono b.size)⟩
 have G:c / 64 ^ (4-1)<8:=by simp only[Nat.reduceSub,Nat.reducePow];omega
 have f:=R.out 1 (by omega) (by omega);have hf:=JL _ G;simp only[Nat.reduceSub,Nat.reducePow,Nat.reduceEqDiff,if_true,if_false,xr,As] at a hf f;obtain⟨V,q⟩:=ae (c / 262144);rw[<-q] at a hf f;obtain⟨B,z⟩:∃B:Nat,B=240+V:=⟨_,rfl⟩;have Q:B<256:=by omega
 have F:=aa (λW (h:dB W)=>oZ h B Q);rw[<-z] at a hf;rw[hf.1] at F;have z0:=hf.2;have e0:((s[0]'x).toNat:Int)=(B:Int):=by rw[a]
 have u:=aa (show V=c / 64 ^ (4-1) from (q.trans (by simp)));have C:=A.out.c10;clear a hf q z G Z;go_enter func89,ntmps89;go_wp2_with fail;refine(F.out _ A.out).mono ?_;rintro e k⟨rfl,b⟩;have S:=aa (A.out.mono b);have C:=aB b C;have zd:decide ((s.size:Int)<4)=false:=by simp;omega
 have y:=aa (show ∀W,dB W->Calls prog 131 #[.int .i32 c] W λe w'=>e=.returned (.int .i64 4)/\w'=W from y.out);go_wp2_with fail;go_quiet (fail);go_wp2_with fail;have O:=aa (show ∀W,Below k.heap.size k W->dB W from λW h=>S.out.mono h);have T:=aa (show Value.int .i32 (V:Int)=.int .i32 ((c / 64 ^ (4-1):Nat):Int) by rw[u.out]);go_loopw [6,7] (λN r wr=>∃i:Nat,1<=i/\i<=4/\N=.int .i32 ((c / 64 ^ (4-i):Nat):Int)/\r=.int .i64 i/\Below k.heap.size k wr) (λ_ r _=>4-(intOf r).toNat)
 case atStart=>exact⟨1,by decide,by decide,T.out,rfl,below_drewN (gO _ _) _⟩
 case round=>
  obtain⟨i,j,p,rfl,rfl,v⟩:=hrel;by_cases l:i<4
  ·have M:=R.out i j p;have g:=aa (P.out i l);have m:i<s.size:=by omega
   have hd:=HI.out i j l m;obtain⟨t,E⟩:=ae (c / 64 ^ (4-1-i) % 64);have o:t<64:=by rw[E];exact mx _ (by decide)
   rw[<-E] at hd g;obtain⟨U,K⟩:=ae (c / 64 ^ (4-i));rw[<-K] at M g⊢;obtain⟨I,H,J⟩:=uA t o;have ho:=Np M o;obtain⟨D,L⟩:∃D:Nat,D=128+t:=⟨_,rfl⟩;rw[<-L] at hd I H J;have ei:((s[i]'m).toNat:Int)=(D:Int):=by rw[hd]
   clear hd E K L;go_wp2;go_roundw
   case rel=>exact⟨i+1,by omega,by omega,by rw[g.out];simp,rfl,v⟩
   case measure=>simp[intOf];omega
  obtain rfl:i=4:=by omega
  have X:=O.out _ v;have d:=YT.out;rw[d];clear d;go_wp2_with fail;refine(y.out _ X).mono ?_;rintro e w4⟨rfl,rfl⟩;go_wp2
  go_ret3
  exact⟨rfl,b.trans (v.mono b.size)⟩
end Go.Proofs.YtmnimbnojdndmaaGreatDoor
namespace Go.Cd
variable {T:List aG} {r:aG}
def rowFine (r:aG):Prop:=aP r.code/\r.cls<255/\r.map.length<=2/\hk r.code=0/\∀x∈r.map,hk x=0/\aP x
def rising:List aG->Prop
 | []=>True
 | r::T=>(∀q∈T,r.code<q.code)/\rising T
def Prim (T:List aG) (X:List Nat) (c:Nat):Prop:=4<=hk c\/∃a b,mapOf T c=[a,b]/\ai T c=0/\ai T a=0/\c∉X
structure aY (T:List aG) (X:List Nat):Prop where
 fine:∀r∈T,rowFine r
 rise:rising T
 full:∀r∈T,fQ T r.code
 pair:∀r∈T,∀q∈T,r.map.length=2->r.map=q.map->Prim T X r.code->Prim T X q.code->r=q
def DF {l m:List aG}:rising (l++m)↔rising l/\rising m/\∀r∈l,∀q∈m,r.code<q.code:=by
 induction l with
 | nil=>simp[rising]
 | cons a l ih=>
   simp only[ld,rising,ih,gR,jf];constructor
   ·rintro⟨c,g,f,d⟩;refine⟨⟨λq b=>c q (.inl b),g⟩,f,?_⟩;rintro r (rfl|e) q b
    ·exact c q (.inr b)
    exact d r e q b
   rintro⟨⟨c,g⟩,f,d⟩;refine⟨?_,g,f,λr e q b=>d r (.inr e) q b⟩;rintro q (b|b)
   ·exact c q b
   exact d a (.inl rfl) q b
def rU:∀{T:List aG},rising T->∀{i j:Nat} (b:i<T.length) (a:j<T.length),i<j->T[i].code<T[j].code
 | _::T,h,0,j+1,_,a,_=>h.1 _ (gx (by simpa using a))
 | _::T,h,i+1,j+1,b,a,hij=>rU (T:=T) h.2 (by simpa using b) (by simpa using a) (by omega)
def Nr (h:rising T) {q:aG} (d:r∈T) (c:q∈T) (e:r.code=q.code):r=q:=by
 obtain⟨i,b,rfl⟩:=rH d;obtain⟨j,a,rfl⟩:=rH c;rcases pZ i j with h1|rfl|h1
 ·have:=rU h b a h1;omega
 ·rfl
 have:=rU h a b h1;omega
def aaJ (h:rising T) (a:r∈T):rowOf T r.code=some r:=by
 unfold rowOf;cases e:T.find? λq=>q.code==r.code with
 | none=>exact absurd (List.find?_eq_none.1 e r a) (by simp)
 | some q=>
   have c:=mu e;have b:=ue e;rw[Nr h c a (by simpa using b)]
def gy {c:Nat} (h:rowOf T c=some r):r∈T/\r.code=c:=
 ⟨mu h,by simpa using ue h⟩
def Ra (h:rising T) (b:r∈T) (a:hk r.code<4):mapOf T r.code=r.map:=by
 unfold mapOf bP;rw[if_pos a,aaJ h b]
def Bb {X:List Nat} (h:rising T) (e:r∈T) (d:hk r.code<4) (c:Prim T X r.code):r.map.length=2:=by
 rcases c with c|⟨a,b,c,_⟩
 ·omega
 rw[Ra h e d] at c;rw[c];rfl
def aY.nil (X:List Nat):aY [] X:=⟨by simp,trivial,by simp,by simp⟩
end Go.Cd
namespace Go.Proofs.YtmnimbnojdndmaaGreatDoor
open Go.RowKit Go.Cd
variable {u v:Value} {W:World} {base n:Nat} {e:TypeId} {α:Type}
def jW (u v:Value):Prop:=∀k,u.ownBlock=some k->v.ownBlock≠some k
def jW.symm (h:jW u v):jW v u:=λk b a=>h k a b
def YV (v:Value) (n c:Nat):jW (.slice none n c) v:=λk h=>by simp[Value.ownBlock] at h
def kK (W:World) (v v':Value):Prop:=v'.ownBlock=v.ownBlock\/∃k,v'.ownBlock=some k/\W.heap.size<=k
def jW.push {v':Value} (h:jW u v) (d:∀k,u.ownBlock=some k->k<W.heap.size) (b:kK W v v'):jW u v':=by
 intro k c a;rcases b with b|⟨f,e,g⟩
 ·exact h k c (b▸a)
 rw[e] at a;cases a;have:=d k c;omega
def jW.stays {c:World} {a:Nat} {b:List Value} (h:jW u v) (d:W.ownsRow base e a u n b) (f:W.grownBy c v.ownBlock):c.ownsRow base e a u n b:=by
 refine d.kept f ?_;cases g:u.ownBlock with
 | none=>exact .inl rfl
 | some k=>exact .inr λe=>h k g e.symm
def kK.refl (W:World) (v:Value):kK W v v:=.inl rfl
def kK.trans {c:World} {v':Value} (h:kK W u v) (a:kK c v v') (e:W.heap.size<=c.heap.size):kK W u v':=by
 rcases a with a|⟨k,b,d⟩
 ·rcases h with h|⟨k,b,d⟩
  ·exact .inl (a.trans h)
  exact .inr ⟨k,a.trans b,d⟩
 exact .inr ⟨k,b,by omega⟩
def mV (P:Program) (t e:TypeId) (z:Value) (size bytes:Nat):Prop:=
 z.cells.size=size/\P.underlying t=some (.slice e)/\∃i,P.info? e=some i/\i.zero=some z/\i.size=size/\i.bytes=bytes
def Elem.ae2 {P:Program} {t:TypeId} {z:Value} {a:Nat} (h:Elem P t e z a):mV P t e z 1 a:=⟨kG h.1,h.2⟩
def qf {P:Program} {W:World} {ops:Array Oper} {rest:List Oper} {o:Oper} {a:Act} {Q:Exit->Act->World->Prop} (M:o.guard=none) (s x:Operand) (t:TypeId)
 (X:o.op=.call { callee:=.builtin .append,args:=#[s,x],argTypes:=#[t,t] })
 (base:Nat) (e:TypeId) (z:Value) (d b:Nat) (hE:mV P t e z d b) (H:0<d) (ab:d<=1000) (kT:0<b) (S:b<=100000)
 (v:Value) (n:Nat) (C:List Value) (hs:a.eval s=v) (r:W.ownsRow base e d v n C)
 (us:Array Value) (hx:a.eval x=.slice (some ⟨W.heap.size,0,none⟩) 1 1) (ze:us.size=d) (U:∀u∈us.toList,u.oneCell'=true)
 (hn:n<1000000) (O:World) (R:Below base O W) (I:base<=O.heap.size)
 (h:∀v' w',w'.ownsRow base e d v' (n+1) (C++us.toList)->Below base O w'->W.grownBy w' v.ownBlock->kK W v v'->wpList P ops Q rest (a.put o.dst v') w') :
 wpList P ops Q (o::rest) a (W.alloc (.cells us e)):=by
 have:=R.size;obtain⟨F,D,i,E,G,c,y⟩:=hE;have f:=r.alloc (.cells us e);have l:∀(j:Nat) (u:Value),us.toList[j]? = some u->(W.alloc (.cells us e)).cell? ((⟨W.heap.size,0,none⟩:Addr).add j)=some u:=by
  intro j u hj;have e0:(⟨W.heap.size,0,none⟩:Addr).add j=⟨W.heap.size,j,none⟩:=by unfold Addr.add;split <;> simp_all
  rw[e0];unfold World.cell?;rw[heap_alloc_new];simpa using hj
 have A:n+1<=maxLen:=by unfold maxLen;omega
 have m:us.toList.length=1*i.size:=by rw[c,su];simpa using ze
 have N:(n+1)*b<=140737488355328:=by
  have:(n+1)*b<=1000000*100000:=pT (by omega) S;omega
 obtain⟨v',w',w,Y,T,_⟩:=run_append_own (P:=P) (W.alloc (.cells us e)) base t o.type e i z d b D E G c y F H v n C f
  ⟨W.heap.size,0,none⟩ 1 1 us.toList (by rw[m,c]) l U A N (by simp;omega)
 have B:kK W v v':=by
  rcases f.2 with⟨rfl,rfl⟩|⟨g,cap,L,rfl,Z,hg,ac,aa,J,K⟩
  ·have p:=run_append_nil (P:=P) (W.alloc (.cells us e)) t o.type e i z D E G ⟨W.heap.size,0,none⟩ 1 1 us.toList m l (by decide) (by decide) (by rw[y];simpa using gS S (by decide));rw[p] at w;injection w with e1 _;subst e1;exact .inr ⟨_,rfl,by simp⟩
  by_cases q:n+1<=cap
  ·have p:=run_append_room (P:=P) (W.alloc (.cells us e)) t o.type e i D E g n cap L hg ⟨W.heap.size,0,none⟩ 1 1 us.toList m l U q (by
    rw[m,c,J,<-l3];exact nh _ q)
   rw[p] at w;injection w with e1 _;subst e1;exact .inl rfl
  have p:=run_append_grow (P:=P) (W.alloc (.cells us e)) t o.type e i z D E G ⟨g,0,none⟩ n cap C (by rw[c];exact f.1) (f.cells (g:=g) rfl) ⟨W.heap.size,0,none⟩ 1 1 us.toList m l (by omega) (by omega) (growslice_fits (by omega) (by rw[y];omega));rw[p] at w;injection w with e1 _;subst e1;exact .inr ⟨_,rfl,by simp⟩
 refine sq _ M s x _ _ X v _ hs hx v' w' w ?_;refine h v' w' Y ((R.alloc (by omega) _).grown T (by simp;omega) (λk hk=>(r.lt k hk).1)) ?_ B;have ha:=World.grownBy_alloc W (.cells us e) v.ownBlock;exact ha.trans T
def vV {β:Type} (f:α->List β) (n:Nat) (hf:∀a,(f a).length=n):∀(l:List α) (i:Nat) (b:i<l.length) (k:Nat),k<n->(l.flatMap f)[i*n+k]? = (f l[i])[k]?
 | a::l,0,_,k,hk=>by
   rw[iR,vb,kh,kn (by rw[hf];exact hk)];rfl
 | a::l,i+1,b,k,hk=>by
   rw[iR,j7 (by rw[hf,l3];omega),hf];have c:=vV f n hf l i (by simpa using b) k hk;rw[show(i+1)*n+k-n=i*n+k by rw[l3];omega,c];rfl
def vW {β:Type} (f:α->List β) (n:Nat) (hf:∀a,(f a).length=n) (l:List α):(l.flatMap f).length=l.length*n:=by
 induction l with
 | nil=>simp
 | cons a l ih=>rw[iR,d',hf,ih,hU,l3];omega
def dC {w:World} {b:Nat} {l:List α} {f:α->List Value} (hf:∀a,(f a).length=b) (t:n=l.length) (h:w.ownsRow base e b v n (l.flatMap f)) {i:Nat} (p:i<l.length) :
 ∃g cap,v=.slice (some ⟨g,0,none⟩) n cap/\n<=cap/\g<w.heap.size/\base<=g/\∀k,k<b->w.cell? ⟨g,i*b+k,none⟩=(f l[i])[k]?/\w.frozen? ⟨g,i*b+k,none⟩=false:=by
 rcases h.2 with⟨_,h0⟩|⟨g,cap,j,rfl,q,d,o,s,u,m⟩
 ·omega
 refine⟨g,cap,rfl,o,block_lt d,q,λk r=>⟨?_,?_⟩⟩
 ·have c:i*b+k<n*b:=by
   have:(i+1)*b<=n*b:=nh _ (by omega);rw[l3] at this;omega
  rw[<-vV f b hf l i p k r,<-m,vj,if_pos c];unfold World.cell?;rw[d];simp
 unfold World.frozen?;rw[d];simp
def ak {w:World} {b:Nat} {d:List Value} (h:w.ownsRow base e b v n d):∃a cap,v=.slice a n cap/\n<=cap/\(a=none->cap=0):=by
 rcases h.2 with⟨rfl,rfl⟩|⟨g,cap,f,rfl,_,_,c,_⟩
 ·exact⟨none,0,rfl,gw _,λ_=>rfl⟩
 exact⟨_,cap,rfl,c,λe=>by cases e⟩
end Go.Proofs.YtmnimbnojdndmaaGreatDoor
namespace Go.Cd
open Go.RowKit
variable {W a:World} {k B n s:Nat} {cs:Array Value} {T e:TypeId} {v:Value} {b:List Value}
structure Is (W:World) (k:Nat) (cs:Array Value) (T:TypeId):Prop where
 at_:W.heap[k]? = some (.cells cs T)
def Is.new (w:World) (cs:Array Value) (T:TypeId):Is (w.alloc (.cells cs T)) w.heap.size cs T:=⟨heap_alloc_new _ _⟩
def Is.new' (w:World) (cs:Array Value) (T:TypeId) (k:Nat) (h:k=w.heap.size):Is (w.alloc (.cells cs T)) k cs T:=by subst h;exact Is.new _ _ _
def Is.lt (h:Is W k cs T):k<W.heap.size:=block_lt h.at_
def Is.cell (h:Is W k cs T) (o:Nat):W.cell? ⟨k,o,none⟩=cs[o]?:=by
 unfold World.cell?;rw[h.at_];rfl
def Is.at (h:Is W k cs T) (o:Nat) {u:Value} (a:cs[o]? = some u):W.cell? ⟨k,o,none⟩=some u:=(h.cell o).trans a
def Is.frozen (h:Is W k cs T) (o:Nat):W.frozen? ⟨k,o,none⟩=false:=by
 unfold World.frozen?;rw[h.at_];simp
def Is.set (h:Is W k cs T) (o:Nat) (u:Value):Is (W.setCell ⟨k,o,none⟩ u) k (cs.setIfInBounds o u) T:=⟨heap_setCell_same W k o _ _ _ h.at_⟩
def Is.put (h:Is W k cs T) {j o:Nat} (a:k≠j) (u:Value):Is (W.setCell ⟨j,o,none⟩ u) k cs T:=⟨(i_ _ _ _ _ (by simp only;omega)).trans h.at_⟩
def Is.nw {w w':World} (h:w'=w.alloc (.cells cs T)):Is w' w.heap.size cs T:=by rw[h];exact Is.new _ _ _
def Is.gd {w:World} {b:Nat} (k:Is w b cs T) (o:Nat) (h:cs[o]? = some v):∀g:Gr w.drew,g.tw.cell? ⟨b,o,none⟩=some v:=Gr.cell (ag w) (k.at o h)
def Is.mono (h:Is W k cs T) (b:Below W.heap.size W a):Is a k cs T:=⟨(b.block k h.lt).trans h.at_⟩
def Is.grown {row:Option Nat} (h:Is W k cs T) (b:W.grownBy a row) (c:row≠some k):Is a k cs T:=⟨(b.block k h.lt (λe=>c e.symm)).trans h.at_⟩
def Is.keep (h:Is W k cs T) (f:W.ownsRow B e s v n b) (c:W.grownBy a v.ownBlock) (g:k<B):Is a k cs T:=
 h.grown c (λd=>by have:=(f.lt k d).1;omega)
def Is.other {d:List Value} (h:Is W k cs T) (i:W.ownsRow B e s v n d) (j:e≠T):v.ownBlock≠some k:=by
 intro a;rcases i.2 with⟨b,_⟩|⟨g,_,f,b,_,c,_⟩
 ·rw[b] at a;cases a
 rw[b] at a;cases a;rw[h.at_] at c;cases c;exact j rfl
def bX (W:World) (k o:Nat) (u:Value):W.grownBy (W.setCell ⟨k,o,none⟩ u) (some k):=
 ⟨rfl,rfl,rfl,by simp,λj _ a=>heap_setCell_other W ⟨k,o,none⟩ j u (λe=>a (by simp[e]))⟩
def bn {a:List Value} (b:W.ownsRow B e s v n a) (c:v.ownBlock≠some k) (o:Nat) (u:Value):(W.setCell ⟨k,o,none⟩ u).ownsRow B e s v n a:=
 b.kept (bX W k o u) (.inr c)
def aQ (a:W.ownsRow B e s v n b) (d:k<B):v.ownBlock≠some k:=λc=>by have:=(a.lt k c).1;omega
def UR (a:W.ownsRow B e s v n b) (d:W.heap.size<=k):v.ownBlock≠some k:=λc=>by have:=(a.lt k c).2;omega
def Is.low (h:Is W k cs T) (b:Below B W a) (c:k<B):Is a k cs T:=⟨(b.block k c).trans h.at_⟩
end Go.Cd
namespace Go.Proofs.YtmnimbnojdndmaaGreatDoor
open Go.RowKit Go.Cd _root_.Go.Proofs.Tryz
def EW (l:List UInt8) (i:Nat) (h:i<(tx l).size):(tx l)[i]'h=l[i]'(by rwa [aX] at h):=by
 show(tx l).data[i]=_;simp[tx]
def UT (c:Nat) (a:c<1114112) (r:List UInt8) (h):((tx (lD c++r))[0]'h).toNat=JH (fH c) c:=by
 rw[EW,rF (by rw[jK];have:=(oU c).1;omega)];unfold lD;rw[nf,toNat_ofNat (GI a _ (gx _))];have:(fI c).length=fH c:=A9 c;have key:(fI c)[0]? = some (JH (fH c) c):=by
  unfold fI JH fH
  split
  ·simp
  split
  ·simp
  split
  ·simp
  simp
 exact mL ((gA _).symm.trans key)
def UU (c:Nat) (f:c<1114112) (r:List UInt8) (i:Nat) (g:1<=i) (d:i<fH c) (h):((tx (lD c++r))[i]'h).toNat=128+c / 64 ^ (fH c-1-i) % 64:=by
 rw[EW,rF (by rw[jK];exact d)];unfold lD;rw[nf,toNat_ofNat (GI f _ (gx _))];have key:(fI c)[i]? = some (128+c / 64 ^ (fH c-1-i) % 64):=by
  unfold fI;unfold fH at d⊢
  split at d
  ·omega
  rename_i e;rw[if_neg e,if_neg e]
  split at d
  ·rename_i b;obtain rfl:i=1:=by omega
   rw[if_pos b,if_pos b];simp
  rename_i b;rw[if_neg b,if_neg b]
  split at d
  ·rename_i a;rw[if_pos a,if_pos a];have:i=1\/i=2:=by omega
   rcases this with rfl|rfl <;> simp
  rename_i a;rw[if_neg a,if_neg a];have:i=1\/i=2\/i=3:=by omega
  rcases this with rfl|rfl|rfl <;> simp
 exact mL ((gA _).symm.trans key)
def Ns {w:World} (b:dB w) (c:Nat) (a:aP c) (r:List UInt8) :
 Calls prog 89 #[.string (tx (lD c++r))] w λe w'=>e=.returned (.tuple #[.int .i32 c,.int .i64 (fH c),.bool true])/\Below w.heap.size w w':=
 Nq b c (fH c) a rfl _ (by rw[aX,d',jK];omega) (UT c a.1 r) (λi f d=>UU c a.1 r i f d)
def Nt (a b:List UInt8) (n:Nat) (h:a.length=n):(tx (a++b)).extract n (n+b.length)=tx b:=by
 subst h;apply wt;rw[ByteArray.data_extract];apply Array.ext';simp[tx]
def ae3:Value->Nat
 | .string s=>s.size
 | _=>0
def vX {w:World} (H:dB w) (L:List Nat) (B:∀x∈L,aP x) (N:L.length<1000000) :
 Calls prog 57 #[.string (tx (dQ L))] w λe w'=>∃r,e=.returned (.tuple #[r,.int .i64 0])/\w'.ownsRow w.heap.size aN 1 r L.length (aM L)/\Below w.heap.size w w':=by
 have J:=aa H;have E:=aa B;obtain⟨n,l⟩:=ae L.length;rw[<-l] at N;have g:=aa l;have O:=aa (show ∀j,(tx (dQ (L.drop j))).size<=4000000 from λj=>by rw[aX];have:=qE (L.drop j);rw[ps] at this;omega);clear B l;go_enter func57,ntmps57;go_wp2_with fail;go_loopw [0,4] (λu M wr=>∃j:Nat,j<=n/\u=.string (tx (dQ (L.drop j)))/\wr.ownsRow w.heap.size aN 1 M j (aM (L.take j))/\Below w.heap.size w wr) (λu _ _=>ae3 u)
 case atStart=>exact⟨0,gW _,rfl,iu _ _ _ _,gO _ _⟩
 case round=>
  obtain⟨j,T,rfl,c,o⟩:=hrel;obtain⟨V,K,rfl,_,_⟩:=ak c;by_cases G:j<n
  ·have b:j<L.length:=by have:=g.out;omega
   have t:=E.out _ (gx b);have z:dQ (L.drop j)=lD L[j]++dQ (L.drop (j+1)):=by rw[iz b,EE]
   have I:=aa (show L.take (j+1)=L.take j++[L[j]] from gE b);have p:=O.out j;rw[z] at p⊢;have C:=J.out.mono o;generalize L[j]=x at *;have P:=(oU x).1;have F:=aa (λW (h:dB W)=>Ns h x t (dQ (L.drop (j+1))));have zs:=EU (s:=tx (lD x++dQ (L.drop (j+1)))) (by rw[aX,d',jK];omega);have i:(tx (lD x++dQ (L.drop (j+1)))).size=fH x+(dQ (L.drop (j+1))).length:=by rw[aX,d',jK]
   generalize f:fH x=wx at *;have D:=t.1;have d:=aa (Nt (lD x) (dQ (L.drop (j+1))) wx (f▸jK x));have k:=aa c;clear c t z f;go_wp2_with fail;refine(F.out _ C).mono ?_;rintro e U⟨rfl,y⟩;have q:=af o y;have v:=aa (aH k.out y);go_wp2_with (at_builtin;refine f_ rfl _ _ 35 rfl w.heap.size aN _ 4 bW _ j _ rfl v.out _ rfl rfl (by omega) (by unfold maxLen;omega) w q (gw _) ?_;intro v' R a m _ _;obtain⟨Q,S,rfl,_,_⟩:=ak a);go_roundw
   case rel=>exact⟨j+1,by omega,by rw[d.out],by rw[I.out,a_];exact a,m⟩
   case measure=>
    rw[d.out];show(tx (dQ (L.drop (j+1)))).size<(tx (lD x++dQ (L.drop (j+1)))).size;rw[i,aX];omega
  obtain rfl:n=j:=by omega
  have A:tx (dQ (L.drop n))=⟨#[]⟩:=by rw[rS (by rw[g.out];exact gw _)];rfl
  rw[A];have zs:(⟨#[]⟩:ByteArray).toList.isEmpty=true:=by rw[uJ];rfl
  rw[ie (by rw[g.out];exact gw _)] at c;have k:=aa c;clear c A;go_wp2;go_ret2;exact⟨_,rfl,by rw[<-g.out];exact k.out,o⟩
end Go.Proofs.YtmnimbnojdndmaaGreatDoor
