/- Texts that are alike cost, and count, the same; no condition. -/
import Derived.Test.YtmnimbnojdndmaaGreatDoorU07
import Derived.DeepKeys5
set_option maxRecDepth 100000
set_option maxHeartbeats 6400000
set_option linter.all false
namespace Go.Proofs.YtmnimbnojdndmaaGreatDoor
open Go.RowKit Go.Cd _root_.Go.Proofs.Tryz
variable {w:World} {v:Value} {T:List aG} {X:List Nat} {c:Nat}
structure iX (T:List aG):Prop where
 rise:rising T
 code:∀r∈T,r.code<1114112
 map:∀r∈T,r.map.length<=2
 acd:∀r∈T,∀x∈r.map,x<1114112
 len:T.length<40000
def xZ (h:qQ w v T X) (y:iX T) (c:Nat) (hc:c<1114112) :
 Calls prog 194 #[v,.int .i32 c] w λe w'=>∃m,e=.returned (.tuple #[.agg #[.int .i32 (nP T c).code,.int .i64 (nP T c).cls,m],.bool (rowOf T c).isSome])/\Sl aN w' m (aM (nP T c).map)/\fU m/\Below w.heap.size w w':=by
 obtain⟨r,x,rfl,U,h2⟩:=h;obtain⟨ra,Vd,rfl,_,hx⟩:=id U;obtain⟨nx,C⟩:∃n,n=(kE X).length:=⟨_,rfl⟩;obtain⟨xa,xc,rfl,_,_⟩:=bG.nN h2 C;clear C;obtain⟨w1,g⟩:=ae (w.alloc (.cells #[.slice ra T.length Vd,.slice xa nx xc] 150));have Y:=Is.nw g;have u:=aO g;obtain⟨w2,d⟩:=ae (w1.alloc (.cells #[.int .i32 0,.int .i64 0,.slice none 0 0] 196));have o:=aO d;have Z:=Y.mono o;have l2:=Is.nw d;have z:w1.heap.size=w.heap.size+1:=by rw[g];simp
 rw[z] at l2;have L:=af u o;have J:=aa (acb (U.mono L) y.rise y.code (by have:=y.len;omega) c hc);have HX:=aa hx;have:w2.heap.size=w.heap.size+2:=by rw[d,ns,z]
 have e0:=Z.at 0 rfl;have a:nP T c=(rowOf T c).getD ⟨0,0,[]⟩:=rfl;have j:=aa a;rw[g] at d;clear hx U h2 Y u o g a;go_enter func194,ntmps194;go_wp2_with fail;rw[<-d];clear d;refine J.out.mono ?_;rintro e w3⟨k,rfl,G,l⟩;have k3:=Z.mono l;have f:=l2.mono l;have e0:=k3.at 0 rfl;have:=f.at 0 rfl;have:=f.at 1 rfl;have:=f.at 2 rfl;have:=f.frozen 0;have:=f.frozen 1;have:=f.frozen 2;cases s:rowOf T c with
 | none=>
   have a:=j.out;rw[s] at a;have Q:=aa s;have D:=aa a;clear s G J a j y;go_wp2
   (try simp only[Exit.inBlock,Exit.then])
   have P:=((f.set 0 (.int .i32 0)).set 1 (.int .i64 0)).set 2 (.slice none 0 0);have M:=P.at 0 rfl;have I:=P.at 1 rfl;have S:=P.at 2 rfl;refine bodyPost_ret (v:=.tuple #[.agg #[.int .i32 0,.int .i64 0,.slice none 0 0],.bool false]) (by simp[results,results194,go_sem,M,I,S]) rfl ?_;have hB:=af L l;refine⟨.slice none 0 0,?_,?_,⟨none,0,0,rfl,.inl rfl⟩,aj (aj (aj hB (by omega)) (by omega)) (by omega)⟩
   ·rw[D.out,Q.out];rfl
   rw[D.out];exact Sl.nil _ _ _ _ (λ_=>rfl)
 | some q=>
   have a:=j.out;rw[s] at a G;have Q:=aa s;have hq:some q=T[k]?:=G rfl;obtain⟨R,E⟩:=ir.1 hq.symm;obtain⟨b,off,m,rfl,ac,K,V,c2,N,i⟩:=HX.out k R;rw[E] at K V N;have t:=af L l;have K:=aB t K;have V:=aB t V;have c2:=aB t c2;have B:=N.mono t;obtain⟨F,nm,H,rfl,i⟩:=i;have D:=aa a;have Rt:=aa B;have O:=aa i;clear s G J a j y hq E N B i;have p:=D.out;simp only[oy] at p;have A:=aa p;clear p D;go_wp2
   (try simp only[Exit.inBlock,Exit.then])
   have P:=((f.set 0 (.int .i32 (q.code:Nat))).set 1 (.int .i64 (q.cls:Nat))).set 2 (.slice F nm H);have M:=P.at 0 rfl;have I:=P.at 1 rfl;have S:=P.at 2 rfl;refine bodyPost_ret (v:=.tuple #[.agg #[.int .i32 (q.code:Nat),.int .i64 (q.cls:Nat),.slice F nm H],.bool true]) (by simp[results,results194,go_sem,M,I,S]) rfl ?_;have W:196≠aN:=by decide
   refine⟨.slice F nm H,?_,?_,⟨F,nm,H,rfl,O.out⟩,aj (aj (aj t (by omega)) (by omega)) (by omega)⟩
   ·rw[A.out,Q.out];rfl
   rw[A.out];exact((Rt.out.put f.at_ W).put (f.set 0 _).at_ W).put ((f.set 0 _).set 1 _).at_ W
def qQ.shape (h:qQ w v T X):∃j i d g f e,v=.agg #[.slice j i d,.slice g f e]:=by
 obtain⟨r,x,rfl,⟨a,cap,rfl,_⟩,k⟩:=h;obtain⟨b,c,rfl,_⟩:=bG.out k;exact⟨_,_,_,_,_,_,rfl⟩
def NI (h:qQ w v T X) (j:iX T) (c:Nat) (y:c<1114112) :
 Calls prog 226 #[v,.int .i32 c] w λe w'=>e=.returned (.int .i64 (ai T c))/\Below w.heap.size w w':=by
 obtain⟨t,s,o,x,z,q,rfl⟩:=h.shape;obtain⟨B,a⟩:=ae (w.alloc (.cells #[.slice t s o,.slice x z q] 150));have g:=Is.nw a;have b:=aO a;have i:=aa (xZ (h.mono b) j c y);have u:=g.at 0 rfl;have r:=g.at 1 rfl;rw[G5];clear h j;go_enter func226,ntmps226;go_wp2_with fail;rw[<-a];clear a;refine i.out.mono ?_;rintro e k⟨m,rfl,_,⟨l,nm,n,rfl,_⟩,d⟩;have f:=ah (w:=k) (.cells #[.int .i32 (nP T c).code,.int .i64 (nP T c).cls,.slice l nm n] 196);have p:=Is.new k #[.int .i32 (nP T c).code,.int .i64 (nP T c).cls,.slice l nm n] 196;have:=p.at 1 rfl;clear i u r;go_wp2;go_ret;exact⟨rfl,b.trans ((af d f).mono b.size)⟩
def Fh (h:4<=hk c):∃a b,dI c=[a,b]:=by
 have d:dI c≠[]:=λe=>by have:=xS.1 e;omega
 unfold dI at *;by_cases g:hk c=4
 ·exact⟨_,_,if_pos g⟩
 rw[if_neg g] at d⊢;by_cases f:hk c=5
 ·exact⟨_,_,if_pos f⟩
 rw[if_neg f] at d;exact absurd rfl d
def Ru (h:hk c<4):mapOf T c=(nP T c).map:=by
 unfold mapOf bP nP;rw[if_pos h];cases rowOf T c <;> rfl
def Kb (h:qQ w v T X) (p:iX T) (c:Nat) (z:c<1114112) :
 Calls prog 225 #[v,.int .i32 c] w λe w'=>∃r,e=.returned r/\w'.ownsRow w.heap.size aN 1 r (mapOf T c).length (aM (mapOf T c))/\Below w.heap.size w w':=by
 obtain⟨P,O,F,R,U,L,rfl⟩:=h.shape;obtain⟨l,d⟩:=ae (w.alloc (.cells #[.slice P O F,.slice R U L] 150));have s:=Is.nw d;have f:=aO d;have y:l.heap.size=w.heap.size+1:=by rw[d];simp
 by_cases H:4<=hk c
 ·obtain⟨a,b,i⟩:=Fh H;have x:=aa (lF (w:=l) z i);have n:mapOf T c=[a,b]:=by unfold mapOf;rw[if_neg (by omega),i]
  rw[n];have E:=mU l #[.int .i32 (a:Nat),.int .i32 (b:Nat)] aN 2 rfl (by decide);rw[y] at E;have t:=ah (w:=l) (.cells #[.int .i32 a,.int .i32 b] aN);clear n i h p s;go_enter func225,ntmps225;go_wp2_with fail;rw[<-d];clear d;refine x.out.mono ?_;rintro e B⟨rfl,rfl⟩;go_wp2;go_ret;exact⟨_,rfl,aT E (by omega),f.trans (t.mono f.size)⟩
 have A:=aa (xZ (h.mono f) p c z);have x:=aa (rR (w:=l) z (by omega));have I:(nP T c).map.length<1000000:=by
  unfold nP;cases S:rowOf T c with
  | none=>simp
  | some q=>
    have:=p.map q (mu S);simp only[oy];omega
 rw[Ru (by omega)];generalize nP T c=q at *;have Q:=s.at 0 rfl;have N:=s.at 1 rfl;clear h p;go_enter func225,ntmps225;go_wp2_with fail;rw[<-d];clear d;refine x.out.mono ?_;rintro e B⟨⟨a,b,rfl⟩,rfl⟩;go_wp2_with fail;refine A.out.mono ?_;rintro e G⟨m,rfl,n,k,o⟩;obtain⟨w4,g⟩:=ae (G.alloc (.cells #[.int .i32 q.code,.int .i64 q.cls,m] 196));have j:=aO g;have J:=Is.nw g;have C:=aa (kX q.map (n.mono j) k I);obtain⟨Z,nm,cm,rfl,_⟩:=k;have D:=J.at 2 rfl;clear A Q N n;rw[g] at D;go_wp2_with fail;rw[<-g];refine C.out.mono ?_;rintro e w5⟨r,rfl,u,M⟩;have:B.heap.size<=w4.heap.size:=gS o.size j.size;obtain⟨V,Y,rfl,_,_⟩:=ak u;clear D g C;have K:=aa u;clear u;go_wp2;go_ret;exact⟨_,rfl,aT K.out (by omega),f.trans ((af (af o j) M).mono f.size)⟩
def Bz {M:Nat->List Nat} {l:List Nat}:anyM M l=false↔tJ M l:=by
 unfold anyM tJ;rw[zv];constructor
 ·intro h x a;have:=h x a;simpa using this
 intro h x a;simp[h x a]
def Ve {x:Nat} (d:c<1114112) (h:x∈dI c):x<1114112:=by
 unfold dI at h
 split at h
 ·rename_i a;have:=oQ.1 a;have:(c-44032) % 588 / 28<21:=by omega
  have:(c-44032) / 588<19:=by omega
  generalize (c-44032) % 588 / 28=p at *;generalize (c-44032) / 588=q at *;simp only[jf,km,or_false] at h;rcases h with rfl|rfl <;> omega
 split at h
 ·have:=mx (c-44032) (show 28 > 0 by decide);generalize (c-44032) % 28=p at *;simp only[jf,km,or_false] at h;rcases h with rfl|rfl <;> omega
 simp at h
def Kc (d:∀r∈T,∀x∈r.map,x<1114112) {x:Nat} (b:c<1114112) (h:x∈mapOf T c):x<1114112:=by
 unfold mapOf at h
 split at h
 ·unfold bP at h;cases a:rowOf T c with
  | none=>rw[a] at h;simp at h
  | some r=>rw[a] at h;exact d r (mu a) x h
 exact Ve b h
def Vf (e:∀r∈T,∀x∈r.map,x<1114112) {l:List Nat} (d:∀x∈l,x<1114112):∀x∈dm (mapOf T) l,x<1114112:=by
 intro x a;unfold dm at a;obtain⟨c,b,a⟩:=lP.1 a
 split at a
 ·rw[gC.1 a];exact d c b
 exact Kc e (d c b) a
instance (T:List aG) (c:Nat):Decidable (fQ T c):=by unfold fQ tJ;exact inferInstance
def NJ {i:Nat} (b:i<=T.length+3) (h:32<(steps (mapOf T) i [c]).length):¬fQ T c:=by
 rintro⟨_,a⟩;rw[jo,show T.length+3=i+(T.length+3-i) by omega,xU] at a;have:=xV (mapOf T) (T.length+3-i) (steps (mapOf T) i [c]);omega
def Ke (h:32<(dm (mapOf T) (steps (mapOf T) (T.length+3) [c])).length) (b:(steps (mapOf T) (T.length+3) [c]).length<=32):¬fQ T c:=by
 rintro⟨a,_⟩;rw[jo] at a;rw[qF a] at h;omega
def wD (h:jq w v T X) (c:Nat) (hc:c<1114112) (hT:∀r∈T,∀x∈r.map,x<1114112) (JF:∀r∈T,r.map.length<=4) (H:T.length<1000000) :
 Calls prog 36 #[v,.int .i64 c] w λe w'=>∃r,e=.returned (.tuple #[r,.bool (decide (fQ T c))])/\(fQ T c->bG w' r (ints (aD T c)))/\Below w.heap.size w w':=by
 have HT:=aa h;obtain⟨r,x,rfl,⟨a,cap,rfl,_⟩,y⟩:=h;obtain⟨z,J,rfl,_,_⟩:=Go.Cd.bG.out y;obtain⟨d,p⟩:∃n,n=T.length:=⟨_,rfl⟩;obtain⟨O,B⟩:∃n,n=(ints X).length:=⟨_,rfl⟩;rw[<-p,<-B] at HT⊢;have F:=aa p;have ag:d<1000000:=by omega
 have hb:=ah (w:=w) (.cells #[.slice a d cap,.slice z O J] 25);have d0:(w.alloc (.cells #[.slice a d cap,.slice z O J] 25)).cell? ⟨w.heap.size,0,none⟩=some (.slice a d cap):=by unfold World.cell?;rw[heap_alloc_new];rfl
 have d1:(w.alloc (.cells #[.slice a d cap,.slice z O J] 25)).cell? ⟨w.heap.size,1,none⟩=some (.slice z O J):=by unfold World.cell?;rw[heap_alloc_new];rfl
 obtain⟨A,Z⟩:=ae (w.alloc (.cells #[.slice a d cap,.slice z O J] 25));rw[<-Z] at hb d0 d1;obtain⟨W1,g⟩:=ae (A.alloc (.cells #[.int .i64 c] bB));have m:Below A.heap.size A W1:=by subst g;exact ah _
 have s1:bG W1 (.slice (some ⟨w.heap.size+1,0,none⟩) 1 1) (ints [c]):=by
  subst g;have:=rP A #[.int .i64 c] bB;rw[show A.heap.size=w.heap.size+1 by rw[Z];simp] at this;exact this
 rw[Z] at g;obtain⟨P,hP⟩:=ae (decide (fQ T c));have HP:=aa hP;rw[<-hP];have V:=af hb m;have e0:=aB m d0;have e1:=aB m d1;have HH:=aa hT;clear Z y p B d0 d1 hP hT H;go_enter func36,ntmps36;go_wp2_with fail;rw[<-g];clear g;go_loopw [6,7] (λlv iv wr=>∃(i:Nat) (L:List Nat),i<=d+4/\iv=.int .i64 i/\L=steps (mapOf T) i [c]/\L.length<=32/\(∀x∈L,x<1114112)/\(i=d+4->¬fQ T c)/\bG wr lv (ints L)/\Below W1.heap.size W1 wr) (λ_ iv _=>d+4-(intOf iv).toNat)
 case atStart=>exact⟨0,[c],gW _,rfl,rfl,by simp,by simpa using hc,λh=>by omega,s1,gO _ _⟩
 case round=>
  clear s1 m;obtain⟨i,L,hi,rfl,hL,YS,Q,o,hs,hE⟩:=hrel;have fT:=af V hE;have f0:=aB hE e0;have f1:=aB hE e1;have G:=aa (GL (HT.out.mono fT) hs Q JF (by have:=F.out;omega) (by omega));obtain⟨nl,M⟩:∃n,n=L.length:=⟨_,rfl⟩;obtain⟨al,cl,rfl,_,_⟩:=bG.nO hs M;have HS:=aa hs;have D:=aa hL;have HE:=aa o;clear hs M hL o;by_cases ai:i<=d+3
  ·go_wp2_with fail;refine G.out.mono ?_;rintro e w2⟨r2,rfl,W,y⟩;have N:=af hE y;have K:=af V N;have s2:=(Sl.aU W).any;cases u:anyM (mapOf T) L
   ·have l:=Bz.1 u;have b:aD T c=L:=by rw[D.out] at l⊢;exact GK (by have:=F.out;omega) l
    have S:fQ T c:=⟨by rw[b];exact l,by rw[b];exact YS⟩;have E:P=true:=HP.out.trans (decide_eq_true S);have HF:=aa b;subst E;have q:=aa (HS.out.mono y);clear G W s2 u l S b;go_wp2;go_ret2;exact⟨_,rfl,λ_=>by rw[HF.out];exact q.out,K⟩
   obtain⟨n2,f⟩:∃n,n=(dm (mapOf T) L).length:=⟨_,rfl⟩;obtain⟨a2,c2,rfl,_,_⟩:=bG.nO s2 f;have ad:=aa f;have q:=aa s2;have k:dm (mapOf T) L=steps (mapOf T) (i+1) [c]:=by rw[D.out,uz]
   have ab:=aa k;by_cases t:32<n2
   ·have s:¬fQ T c:=by
     by_cases aj:i+1<=d+3
     ·exact NJ (i:=i+1) (by have:=F.out;omega) (by rw[<-k,<-f];exact t)
     have j:i=T.length+3:=by have:=F.out;omega
     rw[f,D.out,j] at t;exact Ke t (by rw[<-j,<-D.out];exact YS)
    have E:P=false:=HP.out.trans (decide_eq_false s);have Y:=aa s;subst E;clear G W s2 u f k s;go_wp2;go_ret2;exact⟨_,rfl,λh=>absurd h Y.out,K⟩
   have U:=aa (Vf HH.out Q);have C:i+1=d+4->¬fQ T c:=by
    rintro I⟨R,_⟩;have j:i=T.length+3:=by have:=F.out;omega
    rw[jo,<-j,<-D.out] at R;rw[Bz.2 R] at u;cases u
   have ac:=aa C;clear G W s2 u f k C;go_wp2;go_roundw
   case rel=>exact⟨i+1,dm (mapOf T) L,by omega,rfl,ab.out,by rw[<-ad.out];omega,U.out,ac.out,q.out,N⟩
   case measure=>simp[intOf];omega
  have I:i=d+4:=by omega
  have Y:=aa (HE.out I);have E:P=false:=HP.out.trans (decide_eq_false Y.out);subst E;clear G;go_wp2;go_ret2;exact⟨_,rfl,λh=>absurd h Y.out,fT⟩
def Rv {A B C:World} {u:Value} (a:A.grownBy B u.ownBlock) (d:kK A u v) (c:B.grownBy C v.ownBlock):A.grownBy C u.ownBlock:=by
 refine⟨c.os.trans a.os,c.tape.trans a.tape,c.output.trans a.output,gS a.size c.size,λk f b=>?_⟩;refine(c.block k (j9 f a.size) λe=>?_).trans (a.block k f b);rcases d with d|⟨i,g,h⟩
 ·exact b (e.trans d)
 rw[g] at e;cases e;omega
def NK (h:∀r∈T,r.map.length<=2) (c:Nat):(mapOf T c).length<=2:=by
 unfold mapOf
 split
 ·unfold bP;cases a:rowOf T c with
  | none=>simp
  | some r=>exact h r (mu a)
 exact wu c
def tV {p:World} (h:qQ p v T X) (J:iX T) (m:Nat) (c:Nat) (w:World) (base:Nat) (b:List Nat) (o:Value) (hc:c<1114112)
 (z:mapOf T c=[]) (P:b.length<32) (S:Below p.heap.size p w) (ab:p.heap.size<=base) (L:base<=w.heap.size) (q:w.ownsRow base aN 1 o b.length (aM b)) :
 Calls prog 192 #[v,o,.int .i32 c,.int .i64 m] w λe w'=>∃r,e=.returned (.tuple #[r,.bool true])/\w'.ownsRow base aN 1 r (b++[c]).length (aM (b++[c]))/\w.grownBy w' o.ownBlock/\kK w o r:=by
 have G:=h.mono S;obtain⟨Y,F,H,xa,nx,U,rfl⟩:=h.shape;have l:F=T.length:=by
  obtain⟨r,x,A,⟨a,cap,M,_⟩,_⟩:=h;subst M;injection A with A;have:=congrArg (λs:Array Value=>s[0]?) A;simp at this;exact this.2.1
 have vI:=aa l;clear l;obtain⟨R,g⟩:=ae (w.alloc (.cells #[.slice Y F H,.slice xa nx U] 150));have n:=Is.nw g;have j:=aO g;have N:R.heap.size=w.heap.size+1:=by rw[g];simp
 have E:=aa (Kb (G.mono j) J c hc);have e0:=n.at 0 rfl;have V:=n.at 1 rfl;obtain⟨K,I,rfl,_,_⟩:=ak q;go_enter func192,ntmps192;go_wp2_with fail;rw[<-g];refine E.out.mono ?_;rintro e u⟨mv,rfl,B,i⟩;have k2:=n.mono i;have d:=af j i;have C:=aH q d;have Q:w.heap.size+1<=u.heap.size:=by have:=i.size;omega
 clear e0 V g E n q G;rw[z] at B;obtain⟨ma,mc,rfl,_,_⟩:=ak B;have zl:decide ((b.length:Int)<32)=true:=by simp;omega
 clear B;go_wp2_with (at_builtin;go_loud (refine qf (W:=u) rfl _ _ 35 rfl base aN _ 1 4 (Elem.ae2 bW) (by decide) (by decide) (by decide) (by decide) (.slice K b.length I) b.length (aM b) rfl C _ rfl rfl (by simp[Value.oneCell']) (by omega) u (gO _ _) (by omega) ?_);intro v1 w3 D Z f t;obtain⟨a1,Ao,rfl,_,_⟩:=ak D);go_ret2;refine⟨_,rfl,?_,?_,?_⟩
 ·rw[a_];exact D
 ·refine⟨f.os.trans d.os,f.tape.trans d.tape,f.output.trans d.output,gS d.size f.size,λk hk y=>(f.block k (by omega) y).trans (d.block k hk)⟩
 rcases t with O|⟨k,h1,h2⟩
 ·exact .inl O
 exact .inr ⟨k,h1,by omega⟩
def zG {Q:World} (h:qQ Q v T X) (P:iX T):∀(f d:Nat) (c:Nat) (w:World) (base:Nat) (b:List Nat) (C:Value),d+f=T.length+3->c<1114112->
 tJ (mapOf T) (iD (mapOf T) f c)->b.length+(iD (mapOf T) f c).length<=32->Below Q.heap.size Q w->Q.heap.size<=base->base<=w.heap.size->w.ownsRow base aN 1 C b.length (aM b)->
 Calls prog 192 #[v,C,.int .i32 c,.int .i64 d] w λe w'=>∃r,e=.returned (.tuple #[r,.bool true])/\w'.ownsRow base aN 1 r (b++iD (mapOf T) f c).length (aM (b++iD (mapOf T) f c))/\w.grownBy w' C.ownBlock/\kK w C r:=by
 intro f
 induction f with
 | zero=>
   intro d c w base b C ai hc q i J t I F;have l:mapOf T c=[]:=q c (by simp[iD]);rw[iK l] at i⊢;exact tV h P d c w base b C hc l (by simp at i;omega) J t I F
 | succ f ih=>
   intro d c w base b C ai hc q i J t I F;by_cases l:mapOf T c=[]
   ·rw[iK l] at i⊢;exact tV h P d c w base b C hc l (by simp at i;omega) J t I F
   rw[EJ l] at q i⊢;have aF:=aa h;have an:=NK P.map c;have Y7:=aa (λx (L:x∈mapOf T c)=>Kc P.acd hc L);have hT:=h.mono J;obtain⟨ra,nt,rc,xa,nx,xc,rfl⟩:=h.shape;have U:nt=T.length:=by
    obtain⟨r,x,M,⟨a,cap,hr,_⟩,_⟩:=h;subst hr;injection M with M;have:=congrArg (λs:Array Value=>s[0]?) M;simp at this;exact this.2.1
   have vI:=aa U;clear U;obtain⟨w1,y⟩:=ae (w.alloc (.cells #[.slice ra nt rc,.slice xa nx xc] 150));have k1:=Is.nw y;have ad:=aO y;have aI:w1.heap.size=w.heap.size+1:=by rw[y];simp
   have MP:=aa (Kb (hT.mono ad) P c hc);have V:=k1.at 0 rfl;have e1:=k1.at 1 rfl;obtain⟨Y,W,rfl,_,_⟩:=ak F;go_enter func192,ntmps192;go_wp2_with fail;rw[<-y];refine MP.out.mono ?_;rintro e w2⟨mv,rfl,hm,G⟩;have k2:=k1.mono G;have o:=af ad G;have D:=aH F o;have aC:w.heap.size+1<=w2.heap.size:=by have:=G.size;omega
   have ar:0<(mapOf T c).length:=jz.2 l;have ap:=aa ih;have al:=aa (λk (H:(Value.slice Y b.length W).ownBlock=some k)=>F.lt k H);clear V e1 y MP k1 F hT l ih;generalize ag:mapOf T c=m at *;have aA:=aa ag;have aL:nt<40000:=by have:=vI.out;have:=P.len;omega
   clear ag;obtain⟨n,hn⟩:=ae m.length;obtain⟨ma,mc,rfl,_,_⟩:=ak hm;have HN:=aa hn;have am:=aa q;have BA:=aa i;have HM:=aa hm;have V:=k2.at 0 rfl;have zd:decide ((nt:Int)+2<(d:Int))=false:=by have:=vI.out;simp;omega
   rw[<-hn] at ar an⊢;clear hn q i hm;have zn:((n:Int)==0)=false:=by simp;omega
   go_wp2_with fail;have Yi:=aa D;go_loopw [1,36] (λuv iv wr=>∃j:Nat,j<=n/\iv=.int .i64 j/\wr.ownsRow base aN 1 uv (b++(m.take j).flatMap (iD (mapOf T) f)).length (aM (b++(m.take j).flatMap (iD (mapOf T) f)))/\w2.grownBy wr (Value.slice Y b.length W).ownBlock/\kK w2 (.slice Y b.length W) uv) (λ_ iv _=>n-(intOf iv).toNat)
   case atStart=>exact⟨0,gW _,rfl,by simpa using D,⟨rfl,rfl,rfl,gw _,λ_ _ _=>rfl⟩,kK.refl _ _⟩
   case round=>
    clear V zd D;obtain⟨j,hj,rfl,g,z,hN⟩:=hrel;have K:∀k,(Value.slice Y b.length W).ownBlock=some k->base<=k/\k<w.heap.size:=λk H=>al.out k H;have kr:=k2.grown z (λe=>by have:=(K _ e).2;omega);have ax:Below Q.heap.size Q wr:=(J.trans (o.mono J.size)).grown z (by have:=J.size;omega) λk H=>gS t (K k H).1;have aq:=z.size;by_cases aB:j<n
    ·obtain⟨ua,uc,rfl,_,_⟩:=ak g;have zj:=eG (show j<n by omega);have A:j<m.length:=by have:=HN.out;omega
     have ab:=jW.stays (u:=.slice ma m.length mc) (v:=.slice Y b.length W) (λk N h2=>by have:=(HM.out.lt k N).1;have:=(K k h2).2;omega) HM.out z;obtain⟨a',c',M,_,L⟩:=bG.nN (Sl.aU ab).any rfl;obtain⟨bm,off,ac,_,az⟩:=L j A;have ao:ma=some ⟨bm,off,none⟩:=by injection M with e1;rw[e1];exact ac
     subst ao;have p:=gx A;have V:=kr.at 0 rfl;have e1:=kr.at 1 rfl;have Z:m.take (j+1)=m.take j++[m[j]]:=gE A;have B:(b++(m.take j).flatMap (iD (mapOf T) f)).length+(iD (mapOf T) f m[j]).length<=32:=by
      have N:=BA.out;have h2:m.flatMap (iD (mapOf T) f)=(m.take j).flatMap (iD (mapOf T) f)++(iD (mapOf T) f m[j]++(m.drop (j+1)).flatMap (iD (mapOf T) f)):=by
       conv=>lhs;rw[<-ke j m,iz A]
       rw[jj,iR]
      rw[h2] at N;simp only[d'] at N⊢;omega
     have R:tJ (mapOf T) (iD (mapOf T) f m[j]):=λx L=>am.out x (lP.2 ⟨_,p,L⟩);have E:=ap.out (d+1) m[j] wr base _ _ (by omega) (Y7.out _ p) R B ax t (by omega) g;rw[show((d+1:Nat):Int)=(d:Int)+1 from by omega] at E;have HR:=aa E;have aD:d<50000:=by have:=vI.out;omega
     clear E;have ay:=aa (show b++(m.take (j+1)).flatMap (iD (mapOf T) f)=(b++(m.take j).flatMap (iD (mapOf T) f))++iD (mapOf T) f m[j] by rw[Z,jj,kc];simp);clear L ab B R p Z M ac;generalize m[j]=cj at *;generalize b++(m.take j).flatMap (iD (mapOf T) f)=O at *;have aK:=aa g;clear g;go_wp2_with fail;refine HR.out.mono ?_;rintro e w5⟨r,rfl,o5,au,aw⟩;rw[d'] at o5;obtain⟨aE,aJ,rfl,_,_⟩:=ak o5;clear HR az V e1;go_wp2_with fail;go_roundw
     case rel=>
      refine⟨j+1,by omega,by simp,?_,Rv z hN au,kK.trans hN aw aq⟩;rw[ay.out,d'];exact o5
     case measure=>simp[intOf];omega
    have zj:=gI (show n<=j by omega);obtain rfl:j=n:=by omega
    have S:m.take j=m:=ie (by have:=HN.out;omega);rw[S] at g;generalize hO:b++m.flatMap (iD (mapOf T) f)=O at g;have av:=aa hO;clear hO;obtain⟨ua,uc,rfl,_,_⟩:=ak g;have ah:=aa g;clear g S;go_wp2;go_ret2;rw[aA.out,av.out];refine⟨_,rfl,ah.out,?_,?_⟩
    ·exact⟨z.os.trans o.os,z.tape.trans o.tape,z.output.trans o.output,gS o.size z.size,λk H aj=>(z.block k (by omega) aj).trans (o.block k H)⟩
    rcases hN with hn|⟨k,N,h2⟩
    ·exact .inl hn
    exact .inr ⟨k,N,by omega⟩
def Rw (h:qQ w v T X) (k:iX T) (c:Nat) (y:c<1114112) (f:fQ T c) :
 Calls prog 154 #[v,.int .i32 c] w λe w'=>∃r,e=.returned r/\w'.ownsRow w.heap.size aN 1 r (aD T c).length (aM (aD T c))/\Below w.heap.size w w':=by
 obtain⟨u,t,m,x,z,s,rfl⟩:=h.shape;obtain⟨l,b⟩:=ae (w.alloc (.cells #[.slice u t m,.slice x z s] 150));have j:=Is.nw b;have d:=aO b;have:l.heap.size=w.heap.size+1:=by rw[b];simp
 have i:=aa (zG h k (T.length+3) 0 c l w.heap.size [] (.slice none 0 0) (by omega) y f.1 (by rw[ki,kh];exact f.2) d (gw _) d.size (iu _ _ _ _));rw[ks,show iD (mapOf T) (T.length+3) c=aD T c from rfl] at i;have:=j.at 0 rfl;have:=j.at 1 rfl;clear h k f;go_enter func154,ntmps154;go_wp2_with fail;rw[<-b];clear b;refine i.out.mono ?_;rintro e A⟨r,rfl,g,p,_⟩;have n:=fO p;obtain⟨a,B,rfl,_,_⟩:=ak g;have o:=aa g;clear g i;go_wp2;go_ret;exact⟨_,rfl,o.out,d.trans (n.mono d.size)⟩
def qi (T:List aG) (X:List Nat) (q:aG):Prop:=q.cls=0/\∃a b,q.map=[a,b]/\ai T a=0/\q.code∉X
def qR (h:qQ w v T X) (hF:iX T) (hX:X.length<10000) (q:aG) (hq:q.code<1114112) (t:∀x∈q.map,x<1114112) {m:Value} (hm:Sl aN w m (aM q.map)) :
 Calls prog 193 #[v,.agg #[.int .i32 q.code,.int .i64 q.cls,m]] w λe w'=>∃b:Bool,e=.returned (.bool b)/\(b=true↔qi T X q)/\Below w.heap.size w w':=by
 have hT:=aa h;obtain⟨rv,xv,G,_,y⟩:=id h;obtain⟨ra,nt,S,O,R,N,rfl⟩:=h.shape;have M:xv=.slice O R N:=by
  injection G with G;have:=congrArg (λs:Array Value=>s[1]?) G;simpa using this.symm
 subst M;obtain⟨n,K⟩:=ae q.map.length;obtain⟨ma,V,rfl,_,hx⟩:=bG.nN hm.any K;obtain⟨f,g⟩:=ae ((w.alloc (.cells #[.slice ra nt S,.slice O R N] 150)).alloc (.cells #[.int .i32 q.code,.int .i64 q.cls,.slice ma n V] 196));have C:Is f w.heap.size #[.slice ra nt S,.slice O R N] 150:=by rw[g];exact(Is.new _ _ _).mono (ah _)
 have z:Is f (w.heap.size+1) #[.int .i32 q.code,.int .i64 q.cls,.slice ma n V] 196:=by rw[g];exact Is.new' _ _ _ _ (by simp)
 have d:Below w.heap.size w f:=by rw[g];exact((gO _ w).alloc (gw _) _).alloc (by simp) _
 have HS:=aa (λ(W:World) (E:Below f.heap.size f W)=>J8 (w:=W) (kE X) q.code ((y.mono d).mono E) (by have:=Rq X;omega) (NH X));have o:=Rp X q.code;generalize places (kE X) q.code=pl at *;have H:=aa o;have HX:=aa hx;have F:=aa K;have Q:=aa t;have g0:=z.gd 0 rfl;have g1:=z.gd 1 rfl;have g2:=z.gd 2 rfl;have g3:=C.gd 0 rfl;have g4:=C.gd 1 rfl;have k:=aa (show qi T X q↔(q.cls=0/\∃a b,q.map=[a,b]/\ai T a=0/\q.code∉X) from Iff.rfl);clear y G hm hx K t o h;go_enter func193,ntmps193;go_wp2_with fail;rw[<-g];clear g;by_cases h1:q.cls=0
 ·have z1:((q.cls:Int)==0)=true:=by simp;omega
  by_cases U:n=2
  ·have z2:((n:Int)==2)=true:=by simp;omega
   obtain⟨a,b,j⟩:∃a b,q.map=[a,b]:=by
    have:=F.out;rcases hq':q.map with _|⟨a,_|⟨b,_|⟨c,l⟩⟩⟩
    ·rw[hq'] at this;simp at this;omega
    ·rw[hq'] at this;simp at this;omega
    ·exact⟨a,b,rfl⟩
    rw[hq'] at this;simp at this;omega
   obtain⟨mb,off,rfl,_,B⟩:=HX.out 0 (by have:=F.out;omega);have Y:q.map[0]'(by have:=F.out;omega)=a:=by simp[j]
   rw[Y,sE] at B;have g7:=Gr.cell (ag f) (aB d B);have ha:a<1114112:=Q.out a (by rw[j];simp);have D:=aa (λ(W:World) (E:Below f.heap.size f W)=>NI ((hT.out.mono d).mono E) hF a ha);have u:=aa j;clear j Y HX;subst U;by_cases A:ai T a=0
   ·rw[A] at D;have I:=aa A;clear A;refine aC (Array.replicate 27 true) 27 0 mixed ?_;refine ay [0,1,2,3,4,5,6,7,8,9,10,11,12,13,14] 12 ?_;refine bC ?_
    iterate 15 (refine aZ rfl ?_)
    refine bD ?_
    iterate 15 (go_big_quiet_step (rfl))
    refine az ?_;refine aI 15 ?_;go_wp2_with fail;refine(D.out _ (ag _)).mono ?_;rintro e w4⟨rfl,i⟩;go_wp2_with fail;refine aF i ?_;have p:=af (ag f) i;have J:=C.mono p;have L:=z.mono p;have g5:=Gr.cell (gO _ _) (J.at 1 rfl);have g6:=Gr.cell (gO _ _) (L.at 0 rfl);refine ay [16,17,18,19,20,21,22] 4 ?_;refine bC ?_
    iterate 7 (refine aZ rfl ?_)
    refine bD ?_
    iterate 7 (go_big_quiet_step (rfl))
    refine az ?_;refine aI 23 ?_;go_wp2_with fail;refine(HS.out _ p).mono ?_;rintro e w5⟨rfl,rX⟩;go_wp2_with fail;refine aF rX ?_;refine ay [24,25,26] 0 ?_;refine bC ?_
    iterate 3 (refine aZ rfl ?_)
    refine bD ?_
    iterate 3 (go_big_quiet_step (rfl))
    refine az ?_;refine aJ [] ?_;refine tail_nil ?_;go_wp2;go_ret;refine⟨_,rfl,?_,d.trans ((af p rX).mono d.size)⟩;rw[k.out];have Z:=H.out;constructor
    ·intro hd;refine⟨h1,a,b,u.out,I.out,λP=>?_⟩;have:=Z.2 P;simp[this] at hd
    rintro⟨_,_,_,_,_,P⟩;have:¬pl % 2=1:=λe=>P (Z.1 e);simp[this]
   have z3:((ai T a:Int)==0)=false:=by simp;omega
   have I:=aa A;generalize ai T a=ka at D z3;clear A;refine aC (Array.replicate 27 true) 27 0 mixed ?_;refine ay [0,1,2,3,4,5,6,7,8,9,10,11,12,13,14] 12 ?_;refine bC ?_
   iterate 15 (refine aZ rfl ?_)
   refine bD ?_
   iterate 15 (go_big_quiet_step (rfl))
   refine az ?_;refine aI 15 ?_;go_wp2_with fail;refine(D.out _ (ag _)).mono ?_;rintro e w4⟨rfl,i⟩;go_wp2_with fail;refine aF i ?_;have p:=af (ag f) i;have J:=C.mono p;have L:=z.mono p;have g5:=Gr.cell (gO _ _) (J.at 1 rfl);have g6:=Gr.cell (gO _ _) (L.at 0 rfl);refine ay [16,17,18,19,20,21,22] 4 ?_;refine bC ?_
   iterate 7 (refine aZ rfl ?_)
   refine bD ?_
   iterate 7 (go_big_quiet_step (rfl))
   refine az ?_;refine aI 23 ?_;go_wp2_with fail;refine aF (gO _ _) ?_;refine ay [24,25,26] 0 ?_;refine bC ?_
   iterate 3 (refine aZ rfl ?_)
   refine bD ?_
   iterate 3 (go_big_quiet_step (rfl))
   refine az ?_;refine aJ [] ?_;refine tail_nil ?_;go_wp2;go_ret;refine⟨_,rfl,?_,d.trans (p.mono d.size)⟩;rw[k.out];constructor
   ·intro hd;cases hd
   rintro⟨_,a',b',r,h7,_⟩;rw[u.out] at r;cases r;exact absurd h7 I.out
  have z2:((n:Int)==2)=false:=by simp;omega
  refine aC (Array.replicate 27 true) 27 0 mixed ?_;refine ay [0,1,2,3,4,5,6,7,8,9,10,11,12,13,14] 12 ?_;refine bC ?_
  iterate 15 (refine aZ rfl ?_)
  refine bD ?_
  iterate 15 (go_big_quiet_step (rfl))
  refine az ?_;refine aI 15 ?_;go_wp2_with fail;refine aF (gO _ _) ?_;refine ay [16,17,18,19,20,21,22] 4 ?_;refine bC ?_
  iterate 7 (refine aZ rfl ?_)
  refine bD ?_
  iterate 7 (go_big_quiet_step (rfl))
  refine az ?_;refine aI 23 ?_;go_wp2_with fail;refine aF (gO _ _) ?_;refine ay [24,25,26] 0 ?_;refine bC ?_
  iterate 3 (refine aZ rfl ?_)
  refine bD ?_
  iterate 3 (go_big_quiet_step (rfl))
  refine az ?_;refine aJ [] ?_;refine tail_nil ?_;go_wp2;go_ret;refine⟨_,rfl,?_,d.trans ((ag f).mono d.size)⟩;rw[k.out];constructor
  ·intro hd;cases hd
  rintro⟨_,a',b',r,_⟩;have:=F.out;rw[r] at this;exact absurd this U
 have z1:((q.cls:Int)==0)=false:=by simp;omega
 refine aC (Array.replicate 27 true) 27 0 mixed ?_;refine ay [0,1,2,3,4,5,6,7,8,9,10,11,12,13,14] 12 ?_;refine bC ?_
 iterate 15 (refine aZ rfl ?_)
 refine bD ?_
 iterate 15 (go_big_quiet_step (rfl))
 refine az ?_;refine aI 15 ?_;go_wp2_with fail;refine aF (gO _ _) ?_;refine ay [16,17,18,19,20,21,22] 4 ?_;refine bC ?_
 iterate 7 (refine aZ rfl ?_)
 refine bD ?_
 iterate 7 (go_big_quiet_step (rfl))
 refine az ?_;refine aI 23 ?_;go_wp2_with fail;refine aF (gO _ _) ?_;refine ay [24,25,26] 0 ?_;refine bC ?_
 iterate 3 (refine aZ rfl ?_)
 refine bD ?_
 iterate 3 (go_big_quiet_step (rfl))
 refine az ?_;refine aJ [] ?_;refine tail_nil ?_;go_wp2;go_ret;refine⟨_,rfl,?_,d.trans ((ag f).mono d.size)⟩;rw[k.out];constructor
 ·intro hd;cases hd
 rintro⟨r,_⟩;exact absurd r h1
def BB {q:aG} (h:rowOf T c=some q):q∈T/\q.code=c:=by
 refine⟨mu h,?_⟩;have:=ue h;simpa using this
def Kg {q:aG} (l:hk c<4) (h:rowOf T c=some q):Prim T X c↔qi T X q:=by
 have k:=(BB h).2;have j:mapOf T c=q.map:=by unfold mapOf bP;rw[if_pos l,h]
 have e:ai T c=q.cls:=by unfold ai;rw[h]
 unfold Prim qi;rw[j,e,k];constructor
 ·rintro (d|⟨a,b,f,i,g,d⟩)
  ·omega
  exact⟨i,a,b,f,g,d⟩
 rintro⟨i,a,b,f,g,d⟩;exact .inr ⟨a,b,f,i,g,d⟩
def Rx (e:hk c<4) (h:rowOf T c=none):¬Prim T X c:=by
 have f:mapOf T c=[]:=by unfold mapOf bP;rw[if_pos e,h]
 unfold Prim;rw[f];rintro (g|⟨a,b,d,_⟩)
 ·omega
 cases d
def G6 (h:qQ w v T X) (p:iX T) (hX:X.length<10000) (c:Nat) (G:c<1114112) :
 Calls prog 155 #[v,.int .i32 c] w λe w'=>∃b:Bool,e=.returned (.bool b)/\(b=true↔Prim T X c)/\Below w.heap.size w w':=by
 obtain⟨ra,Z,P,xa,nx,W,rfl⟩:=h.shape;obtain⟨B,g⟩:=ae (w.alloc (.cells #[.slice ra Z P,.slice xa nx W] 150));have s:=Is.nw g;have d:=aO g;have:B.heap.size=w.heap.size+1:=by rw[g];simp
 by_cases I:4<=hk c
 ·obtain⟨a,b,r⟩:=Fh I;have A:=aa (lF (w:=B) G r);clear r h p s;go_enter func155,ntmps155;go_wp2_with fail;rw[<-g];clear g;refine A.out.mono ?_;rintro e S⟨rfl,rfl⟩;go_wp2;go_ret;exact⟨true,rfl,⟨λ_=>.inl I,λ_=>rfl⟩,d⟩
 have y:=aa (xZ (h.mono d) p c G);have A:=aa (rR (w:=B) G (by omega));have E:=aa (h.mono d);have O:=s.at 0 rfl;have M:=s.at 1 rfl;clear h;go_enter func155,ntmps155;go_wp2_with fail;rw[<-g];clear g;refine A.out.mono ?_;rintro e S⟨⟨a,b,rfl⟩,rfl⟩;go_wp2_with fail;refine y.out.mono ?_;rintro e R⟨m,rfl,u,z,l⟩;obtain⟨w4,f⟩:=ae (R.alloc (.cells #[.int .i32 (nP T c).code,.int .i64 (nP T c).cls,m] 196));have i:=aO f;have n:=Is.nw f;have t:=(s.mono l).mono i;obtain⟨am,nm,cm,rfl,_⟩:=z;have C:=af l i;cases k:rowOf T c with
 | none=>
   have o:nP T c=⟨0,0,[]⟩:=by unfold nP;rw[k];rfl
   have V:=aa (Rx (X:=X) (by omega) k);rw[o];clear o k y O M u n t C i f;go_wp2;go_ret;exact⟨false,rfl,⟨λh=>(by cases h),λh=>absurd h V.out⟩,d.trans ((af l (ah _)).mono d.size)⟩
 | some q=>
   have o:nP T c=q:=by unfold nP;rw[k];rfl
   have F:=aa (Kg (X:=X) (by omega) k);have j:=(BB k).1;rw[o] at f n u;rw[o];have Q:=aa (qR (E.out.mono C) p hX q (p.code q j) (λx hx=>p.acd q j x hx) (u.mono i));have L:=n.at 0 rfl;have N:=n.at 1 rfl;have K:=n.at 2 rfl;have H:=t.at 0 rfl;have J:=t.at 1 rfl;rw[f] at L N K H J;clear o k y O M u n t j;go_wp2_with fail;rw[<-f];refine Q.out.mono ?_;rintro e w5⟨bb,rfl,D,Y⟩;clear L N K H J f;go_wp2;go_ret;exact⟨bb,rfl,D.trans F.out.symm,d.trans ((af C Y).mono d.size)⟩
def Vg (q:aG) (I:Go.Cd.rowFine q) (a:Int) (O:a<q.code) {m:Value} (z:Sl aN w m (aM q.map)) :
 Calls prog 190 #[.agg #[.int .i32 q.code,.int .i64 q.cls,m],.int .i32 a] w λe w'=>e=.returned (.string ⟨#[]⟩)/\Below w.heap.size w w':=by
 obtain⟨p,R,N,t,y⟩:=I;obtain⟨n,o⟩:=ae q.map.length;obtain⟨M,F,rfl,_,C⟩:=bG.nN z.any o;obtain⟨K,d⟩:=ae (w.alloc (.cells #[.int .i32 q.code,.int .i64 q.cls,.slice M n F] 196));have r:=Is.nw d;have f:=aO d;have u:=aa (rQ (w:=K) q.code p.1);rw[t] at u;have A:=aa (λW=>gZ (w:=W) q.code (by have:=p.1;omega));rw[decide_eq_true p] at A;have L:=aa C;have P:=aa o;have D:=aa y;rw[<-o] at N;have:=r.at 0 rfl;have:=r.at 1 rfl;have:=r.at 2 rfl;clear t y z C o;generalize q.code=c at *;generalize q.cls=l at *;clear p;go_enter func190,ntmps190;go_wp2_with fail;rw[<-d];clear d;refine u.out.mono ?_;rintro e H⟨rfl,rfl⟩;go_wp2_with fail;go_loopw [5,6,16] (λs5 s6 s wr=>∃j:Nat,j<=n/\s=.int .i64 j/\s5=.bool false/\s6=.bool false/\wr=H) (λ_ _ s _=>n-(intOf s).toNat)
 case atStart=>exact⟨0,gW _,rfl,rfl,rfl,rfl⟩
 case round=>
  obtain⟨j,T,rfl,rfl,rfl,rfl⟩:=hrel;by_cases G:j<n
  ·have J:=eG (show j<n by omega);have g:j<q.map.length:=by have:=P.out;omega
   obtain⟨b,off,rfl,_,i⟩:=L.out j g;have i:=aB f i;obtain⟨v,k⟩:=D.out _ (gx g);generalize q.map[j]=x at *;have B:=aa (rQ (w:=wr) x k.1);rw[v] at B;have h:=aa (gZ (w:=wr) x (by have:=k.1;omega));rw[decide_eq_true k] at h;clear v k;go_wp2_with fail;refine B.out.mono ?_;rintro e E⟨rfl,rfl⟩;go_wp2_with fail;refine h.out.mono ?_;rintro e w4⟨rfl,rfl⟩;go_wp2_with fail;go_roundw
   case rel=>exact⟨j+1,by omega,by simp,by simp⟩
   case measure=>simp[intOf];omega
  have J:=gI (show n<=j by omega);have:decide ((c:Int)<=a)=false:=by simp;omega
  have:decide ((l:Int)<0)=false:=decide_eq_false (by omega);have:decide ((254:Int)<(l:Int))=false:=decide_eq_false (by omega);have:decide ((2:Int)<(n:Int))=false:=decide_eq_false (by omega);go_wp2_with (go_at_call 96;refine(A.out _).mono ?_;rintro e E⟨rfl,rfl⟩);go_ret;exact⟨rfl,f⟩
end Go.Proofs.YtmnimbnojdndmaaGreatDoor
namespace Go.Cd
section
open Go.RowKit
variable {P : Program} {k : TypeId}
variable {w:World} {r:Nat} {G:Value->Value->Prop} {x:Value} {elem:TypeId} {ops:Array Oper} {rest:List Oper} {Q:Exit->Act->World->Prop}
def iF (P:Program) (k:TypeId) (x:Value):Prop:=∃l,keyOf P k x=some l
def dE (P:Program) (k:TypeId) (w:World) (r:Nat) (G:Value->Value->Prop):Prop:=
 ∃(es:Array MapEntry) (ck:Nat),w.heap[r]? = some (.map es ck)∧(∀e∈es.toList,iF P k e.key)∧(∀(i j:Nat) (e e':MapEntry),es[i]? = some e->es[j]? = some e'->e.key=e'.key->i=j)∧∀x v,G x v↔∃e∈es.toList,e.key=x∧e.val=v
theorem dE.block {w':World} (h:dE P k w r G) (hb:w'.heap[r]? = w.heap[r]?):dE P k w' r G:=by
 obtain ⟨es,ck,h1,h2⟩:=h;exact ⟨es,ck,hb.trans h1,h2⟩
theorem dE.lt (h:dE P k w r G):r<w.heap.size:=by
 obtain ⟨es,ck,h1,_⟩:=h;exact (jt.1 h1).1
theorem dE.mono {w':World} (h:dE P k w r G) (hb:Below w.heap.size w w'):dE P k w' r G:=h.block (hb.block r h.lt)
theorem dE.new (w:World) (ck:Nat):dE P k (w.alloc (.map #[] ck)) w.heap.size (fun _ _=>False):=
 ⟨#[],ck,heap_alloc_new _ _,by simp,by simp,by simp⟩
theorem dE.one (h:dE P k w r G) {u v:Value} (h1:G x u) (h2:G x v):u=v:=by
 obtain ⟨es,ck,_,_,h3,h4⟩:=h;obtain ⟨e,he,e1,e2⟩:=(h4 x u).1 h1;obtain ⟨e',he',Vh,e2'⟩:=(h4 x v).1 h2;obtain ⟨i,hi,ei⟩:=lB.1 he;obtain ⟨j,hj,ej⟩:=lB.1 he';have a1:es[i]? = some e:=by rw [<-mm,gA hi,ei]
 have a2:es[j]? = some e':=by rw [<-mm,gA hj,ej]
 have:=h3 i j e e' a1 a2 (e1.trans Vh.symm);subst this;rw [a1] at a2;cases a2;exact e2.symm.trans e2'
theorem dE.find (K:Maps.Keyed P k) {W:World} {es:Array MapEntry} (h2:∀e∈es.toList,iF P k e.key) (h4:∀x v,G x v↔∃e∈es.toList,e.key=x∧e.val=v) (hx:iF P k x) :
 ((Instr.findKey k x es.toList).run P W=.ok none W∧∀v,¬G x v)∨∃j e,(Instr.findKey k x es.toList).run P W=.ok (some (j,e.val)) W∧es[j]? = some e∧e.key=x∧G x e.val:=by
 obtain ⟨l,hl⟩:=hx;rcases K.find W hl es.toList h2 with ⟨h5,h6⟩|⟨j,e,h5,h6,h7⟩
 ·refine .inl ⟨h5,fun v hg=>?_⟩;obtain ⟨e,he,e1,_⟩:=(h4 x v).1 hg;exact h6 e he e1
 ·refine .inr ⟨j,e,h5,by rw [<-mm];exact h6,h7,(h4 x e.val).2 ⟨e,lA h6,h7,rfl⟩⟩
theorem qU (K:Maps.Keyed P k) {t:TypeId} (ht:P.underlying t=some (.map k elem)) (h:dE P k w r G) (hx:iF P k x) {z:Value} (hz:(zeroValue elem).run P w=.ok z w) (c:Bool) :
 ((Instr.lookup t (.map (some r)) x c).run P w=.ok (if c then .tuple #[z,.bool false] else z) w∧∀v,¬G x v)∨∃v,(Instr.lookup t (.map (some r)) x c).run P w=.ok (if c then .tuple #[v,.bool true] else v) w∧G x v:=by
 obtain ⟨es,ck,h1,h2,h3,h4⟩:=h;obtain ⟨l,hl⟩:=id hx;rcases dE.find K (W:=w) h2 h4 hx with ⟨h5,h6⟩|⟨j,e,h5,h6,h7,h8⟩
 ·exact .inl ⟨by simp [Instr.lookup,run_underlying ht,tp h1,K.check w _ hl,h5,hz,Result.andThen],h6⟩
 ·exact .inr ⟨e.val,by simp [Instr.lookup,run_underlying ht,tp h1,K.check w _ hl,h5,Result.andThen],h8⟩
def Ad (G:Value->Value->Prop) (x v:Value):Value->Value->Prop:=fun y u=>(y=x∧u=v)∨(y≠x∧G y u)
theorem Kh (K:Maps.Keyed P k) {t:TypeId} (ht:P.underlying t=some (.map k elem)) (h:dE P k w r G) (hx:iF P k x) (v:Value) :
 ∃w',(Instr.mapUpdate t (.map (some r)) x v).run P w=.ok () w'∧dE P k w' r (Ad G x v)∧w.grownBy w' (some r):=by
 obtain ⟨es,ck,h1,h2,h3,h4⟩:=h;have hlt:r<w.heap.size:=(jt.1 h1).1;obtain ⟨l,hl⟩:=id hx;have hset:∀o:Obj,({ w with heap:=w.heap.setIfInBounds r o }:World).heap[r]? = some o:=fun o=>by simp [hlt]
 have hgr:∀o:Obj,w.grownBy { w with heap:=w.heap.setIfInBounds r o } (some r):=fun o=>⟨rfl,rfl,rfl,by simp,fun j _ hj=>by
  have:r≠j:=fun e=>hj (by rw [e])
  simp [this]⟩
 rcases dE.find K (W:=w) h2 h4 hx with ⟨h5,h6⟩|⟨j,e,h5,h6,h7,h8⟩
 ·refine ⟨_,by simp [Instr.mapUpdate,run_underlying ht,tp h1,K.check w _ hl,h5,MapKept.run_setObj_map _ h1,Result.andThen];rfl,⟨_,_,hset _,?_,?_,?_⟩,hgr _⟩
  ·intro e he;rw [Array.toList_push] at he;rcases gR.1 he with he|he
   ·exact h2 e he
   ·rw [gC.1 he];exact hx
  ·intro i j e e' hi hj he;have hno:∀e∈es.toList,e.key≠x:=fun e he hk=>h6 e.val ((h4 x e.val).2 ⟨e,he,hk,rfl⟩);rw [Array.getElem?_push] at hi hj
   split at hi <;> split at hj
   ·omega
   ·cases hi;exact absurd he.symm (hno e' (by rw [<-mm] at hj;exact lA hj))
   ·cases hj;exact absurd he (hno e (by rw [<-mm] at hi;exact lA hi))
   ·exact h3 i j e e' hi hj he
  ·intro y u;unfold Ad;rw [Array.toList_push];constructor
   ·rintro (⟨rfl,rfl⟩|⟨hy,hg⟩)
    ·exact ⟨{ key:=y,val:=u,born:=ck },by simp,rfl,rfl⟩
    ·obtain ⟨e,he,e1,e2⟩:=(h4 y u).1 hg;exact ⟨e,by simp [he],e1,e2⟩
   ·rintro ⟨e,he,e1,e2⟩;rcases gR.1 he with he|he
    ·have hg:=(h4 y u).2 ⟨e,he,e1,e2⟩;refine .inr ⟨fun e3=>?_,hg⟩;subst e3;exact h6 u hg
    ·rw [gC.1 he] at e1 e2;exact .inl ⟨e1.symm,e2.symm⟩
 ·have hj:j<es.size:=(jt.1 h6).1;have hst:=K.stays w hl;refine ⟨_,by simp [Instr.mapUpdate,run_underlying ht,tp h1,K.check w _ hl,h5,h6,h7,hst,MapKept.run_setObj_map _ h1,Result.andThen];rfl,⟨_,_,hset _,?_,?_,?_⟩,hgr _⟩
  ·intro e' he;obtain ⟨i,hi,rfl⟩:=lB.1 he;rw [td,Array.size_modify] at hi;rw [rB,sA]
   split
   ·exact hx
   ·exact h2 _ (by simp)
  ·intro i i' e1 e2 hi hi' he;rw [sr] at hi hi';have key:∀(m:Nat) (y:MapEntry),(if j=m then (es[m]?).map fun e=>{ e with key:=x,val:=v } else es[m]?)=some y->∃y0,es[m]? = some y0∧y0.key=y.key:=by
    intro m y hy
    split at hy
    ·rename_i hm;subst hm;rw [h6] at hy;cases hy;exact ⟨e,h6,h7⟩
    ·exact ⟨y,hy,rfl⟩
   obtain ⟨y1,a1,b1⟩:=key i e1 hi;obtain ⟨y2,a2,b2⟩:=key i' e2 hi';exact h3 i i' y1 y2 a1 a2 (b1.trans (he.trans b2.symm))
  ·intro y u;unfold Ad;constructor
   ·rintro (⟨rfl,rfl⟩|⟨hy,hg⟩)
    ·refine ⟨{ e with key:=y,val:=u },?_,rfl,rfl⟩;refine lB.2 ⟨j,by simp [hj],?_⟩;rw [rB,sA,if_pos rfl];congr 1;exact (jt.1 h6).2▸rfl
    ·obtain ⟨e',he,e1,e2⟩:=(h4 y u).1 hg;obtain ⟨i,hi,rfl⟩:=lB.1 he;have hij:j≠i:=fun h=>by
      subst h;have:=(jt.1 h6).2;rw [rB,this,h7] at e1;exact hy e1.symm
     refine ⟨_,lB.2 ⟨i,by simpa using hi,rfl⟩,?_,?_⟩
     ·rw [rB,sA,if_neg hij];simpa using e1
     ·rw [rB,sA,if_neg hij];simpa using e2
   ·rintro ⟨e',he,e1,e2⟩;obtain ⟨i,hi,rfl⟩:=lB.1 he;rw [td,Array.size_modify] at hi;rw [rB,sA] at e1 e2;by_cases hij:j=i
    ·rw [if_pos hij] at e1 e2;exact .inl ⟨e1.symm,e2.symm⟩
    ·rw [if_neg hij] at e1 e2;refine .inr ⟨fun h=>hij ?_,(h4 y u).2 ⟨es[i],by simp,e1,e2⟩⟩;exact h3 j i e es[i] h6 (rj hi) (h7.trans (h.symm.trans e1.symm))
theorem iL {o:Oper} {a:Act} (hg:o.guard=none) (m x:Operand) (t elem:TypeId) (c:Bool) (ho:o.op=Op.lookup t m x c)
 (K:Maps.Keyed P k) (ht:P.underlying t=some (.map k elem)) (h:dE P k w r G) (hm:a.eval m=.map (some r)) {xv:Value} (hx:a.eval x=xv) (hk:iF P k xv) {z:Value} (hz:(zeroValue elem).run P w=.ok z w)
 (h1:(∀v,¬G xv v)->wpList P ops Q rest (a.put o.dst (if c then .tuple #[z,.bool false] else z)) w) (h2:∀v,G xv v->wpList P ops Q rest (a.put o.dst (if c then .tuple #[v,.bool true] else v)) w):wpList P ops Q (o::rest) a w:=by
 refine wpList_plain hg fun K' hK'=>?_;rcases qU K ht h hk hz c with ⟨hr,hn⟩|⟨v,hr,hv⟩
 ·unfold Oper.wp;simp [execOp,ho,hm,hx,hr,Result.andThen];exact hK' _ _ (h1 hn)
 ·unfold Oper.wp;simp [execOp,ho,hm,hx,hr,Result.andThen];exact hK' _ _ (h2 v hv)
theorem jQ {o:Oper} {a:Act} (hg:o.guard=none) (m x v:Operand) (t elem:TypeId) (ho:o.op=Op.mapUpdate t m x v)
 (K:Maps.Keyed P k) (ht:P.underlying t=some (.map k elem)) (h:dE P k w r G) (hm:a.eval m=.map (some r)) {xv vv:Value} (hx:a.eval x=xv) (hv:a.eval v=vv) (hk:iF P k xv)
 (h1:∀w',dE P k w' r (Ad G xv vv)->w.grownBy w' (some r)->wpList P ops Q rest (a.put o.dst undef) w'):wpList P ops Q (o::rest) a w:=by
 refine wpList_plain hg fun K' hK'=>?_;obtain ⟨w',hr,r1,r2⟩:=Kh K ht h hk vv;unfold Oper.wp;simp [execOp,ho,hm,hx,hv,hr,Result.andThen];exact hK' _ _ (h1 w' r1 r2)
theorem mapM_some {α β:Type} {f:α->Option β}:∀(l:List α),(∀x∈l,∃y,f x=some y)->∃ys,l.mapM f=some ys
 | [],_=>⟨[],rfl⟩
 | a::l,h=>by
   obtain ⟨y,hy⟩:=h a (by simp);obtain ⟨ys,hys⟩:=mapM_some l fun x hx=>h x (by simp [hx]);exact ⟨y::ys,by simp [List.mapM_cons,hy,hys]⟩
theorem Qi {k e:TypeId} {n:Nat} {q:IntKind} (hk:P.underlying k=some (.array n e)) (he:P.underlying e=some (.int q)) (h1:P.cellsOf e=1) (hn:P.cellsOf k=n) (hkt:P.keyType k=true) {m:Nat} (hm:P.types.size=m+1) (cs:Array Value) (hcs:cs.size=n)
 (hall:∀i,i<n->∃x,cs[i]? = some (.int q x)∧(Lit.int q x).wf=true):iF P k (.agg cs):=by
 have hl:cs.toList.length=n:=by simpa using hcs
 have hmm:∃ys,(List.range n).mapM (fun i=>P.keyLits (m+1) e ((cs.toList.drop (i*1)).take 1))=some ys:=by
  refine mapM_some _ fun i hi=>?_;obtain ⟨x,hx,hw⟩:=hall i (nj.1 hi);refine ⟨[.int q x],?_⟩;have hi':i<cs.toList.length:=by rw [hl];exact nj.1 hi
  have e1:(cs.toList.drop (i*1)).take 1=[.int q x]:=by
   rw [qK,iz hi'];have:=(jt.1 hx).2;simp [this]
  rw [e1];unfold Program.keyLits;simp [he,hw]
 obtain ⟨ys,hys⟩:=hmm;refine ⟨.string (keyBytes ys.flatten),?_⟩;unfold keyOf;have hf:Value.formed P k (.agg cs)=true:=by simp [Value.formed,hk,hcs,hn]
 have hkl:P.keyLits (P.types.size+1) k cs.toList=some ys.flatten:=by
  rw [hm]
  conv=>lhs;unfold Program.keyLits
  simp only [hk];rw [if_pos (by rw [hl,hn]),h1,hys];rfl
 simp only [hk];rw [hkt,hf];simp only [Bool.and_self,if_true];show (P.keyLits (P.types.size+1) k cs.toList).map _=_;rw [hkl];rfl
end
end Go.Cd
namespace Go.Proofs.YtmnimbnojdndmaaGreatDoor
open Go.RowKit Go.Cd _root_.Go.Proofs.Tryz
variable {T:List aG} {X:List Nat} {w:World}
def Vi:laidOutB prog=true:=by kernel_rfl
def Fj:Maps.Keyed prog 311:=zr (deep_law_laid Vi (m:=4) (by decide) (of_decide_eq_true (by kernel_rfl)) (by kernel_rfl) (by kernel_rfl))
def uF:Maps.Keyed prog 213:=zr (deep_law_laid Vi (m:=4) (by decide) (of_decide_eq_true (by kernel_rfl)) (by kernel_rfl) (by kernel_rfl))
def NM:Maps.Keyed prog 262:=zr (deep_law_laid Vi (m:=4) (by decide) (of_decide_eq_true (by kernel_rfl)) (by kernel_rfl) (by kernel_rfl))
def Ry:Maps.Keyed prog 21:=Maps.int_keyed underlying21
def RB {a b:Nat} (d:a<1114112) (g:b<1114112):iF prog 311 (.agg #[.int .i32 a,.int .i32 b]):=by
 refine Qi (P:=prog) (k:=311) (e:=21) (n:=2) (q:=.i32) underlying311 underlying21 (by kernel_rfl) (by kernel_rfl) (by kernel_rfl) (m:=prog.types.size-1) (by kernel_rfl) #[.int .i32 a,.int .i32 b] rfl ?_;intro i l;have c:∀x:Nat,x<1114112->(Lit.int .i32 (x:Int)).wf=true:=λx j=>by
  have f:IntKind.i32.min=-2147483648:=by decide
  have h:IntKind.i32.max=2147483647:=by decide
  simp only[Lit.wf,f,h,jn,decide_eq_true_eq];omega
 rcases i with _|_|i
 ·exact⟨a,rfl,c a d⟩
 ·exact⟨b,rfl,c b g⟩
 omega
def tX (h:aY T X) (b:T.length<40000):iX T:=
 ⟨h.rise,λr a=>(h.fine r a).1.1,λr a=>(h.fine r a).2.2.1,λr a x c=>((h.fine r a).2.2.2.2 x c).2.1,b⟩
def tY (q:aG):Value:=.agg #[.int .i32 (q.map.getD 0 0:Nat),.int .i32 (q.map.getD 1 0:Nat)]
def Fp (b:aY T X) {q:aG} (c:q∈T) (h:qi T X q):Prim T X q.code:=by
 obtain⟨i,a,rfl⟩:=lB.1 c;have e:rowOf T T[i].code=some T[i]:=Fg a (λt d h=>jy b.rise t i d a h) rfl;exact(Kg (by have:=(b.fine _ (gx a)).2.2.2.1;omega) e).2 h
def Ki (h:aY T X) {i j:Nat} (m:i<T.length) (k:j<T.length) (l:i<j) (n:qi T X T[i]) (o:qi T X T[j]):tY T[i]≠tY T[j]:=by
 intro e;have u:=Fp h (gx m) n;have s:=Fp h (gx k) o;obtain⟨_,a,b,f,_⟩:=n;obtain⟨_,c,d,g,_⟩:=o;unfold tY at e;rw[f,g] at e;simp at e;have q:a=c:=by omega
 have r:b=d:=by omega
 have p:T[i].map=T[j].map:=by rw[f,g,q,r]
 have:=h.pair _ (gx m) _ (gx k) (by rw[f];rfl) p u s;have t:=jy h.rise i j m k l;rw[this] at t;omega
def NQ {v:Value} (h:qQ w v T X) (hV:aY T X) (hl:T.length<40000) (hX:X.length<10000) :
 Calls prog 152 #[v] w λe w'=>e=.returned .nilIface/\Below w.heap.size w w':=by
 have hF:=tX hV hl;have aw:=aa h;obtain⟨rv,xv,he,ac,_⟩:=id h;obtain⟨ra,n,rc,xa,nx,xc,rfl⟩:=h.shape;have a2:rv=.slice ra n rc:=by
  injection he with he;have:=congrArg (λs:Array Value=>s[0]?) he;simpa using this.symm
 subst a2;obtain⟨aC,a5,V,_,hx⟩:=ac;have au:n=T.length:=by injection V
 have aH:aC=ra:=by injection V with A;exact A.symm
 subst aH;have HX:=aa hx;have vI:=aa au;have HV:=aa hV;have HF:=aa hF;have a_:n<40000:=by omega
 obtain⟨w1,K⟩:=ae (w.alloc (.cells #[.slice aC n rc,.slice xa nx xc] 150));have k1:=Is.nw K;have aW:=aO K;have a7:w1.heap.size=w.heap.size+1:=by rw[K];simp
 have t:=k1.at 0 rfl;clear h he V hx au hV hF hl;go_enter func152,ntmps152;go_wp2_with fail;rw[<-K];clear K;go_loopw [3,20] (λlv F wr=>∃j:Nat,j<=n/\F=.int .i64 j/\lv=.int .i32 (aa_ T j)/\Below w1.heap.size w1 wr) (λ_ F _=>n-(intOf F).toNat)
 case atStart=>exact⟨0,gW _,rfl,rfl,gO _ _⟩
 case round=>
  clear t;obtain⟨j,hj,rfl,rfl,o⟩:=hrel;have l:=af aW o;by_cases N:j<n
  ·have U:=eG (show j<n by omega);have d:j<T.length:=by have:=vI.out;omega
   obtain⟨b,off,m,rfl,_,I,C,D,Y,p⟩:=HX.out j d;have I:=aB l I;have C:=aB l C;have D:=aB l D;have lQ:=HV.out.fine _ (gx d);have ay:=J9 HV.out.rise j d;have Yh:=aa (uE d);obtain⟨w3,a⟩:=ae (wr.alloc (.cells #[.int .i32 T[j].code,.int .i64 T[j].cls,m] 196));have z:=Is.nw a;have c:=aO a;have RW:=aa (Vg (w:=w3) T[j] lQ (aa_ T j) ay ((Y.mono l).mono c));generalize aa_ T j=lc at *;obtain⟨am,nm,cm,rfl,_⟩:=p;generalize T[j]=q at *;have t:=z.at 0 rfl;have A:=z.at 1 rfl;have M:=z.at 2 rfl;rw[a] at t A M;have z2:(⟨#[]⟩:ByteArray).toList.isEmpty=true:=by rw[ph];rfl
   clear lQ Y ay;go_wp2_with fail;rw[<-a];refine RW.out.mono ?_;rintro e w4⟨rfl,g⟩;have k4:=z.mono g;have f0:=k4.at 0 rfl;clear t A M a RW I C D;go_wp2_with fail;go_roundw
   case rel=>exact⟨j+1,by omega,by simp,by rw[Yh.out],af (af o c) g⟩
   case measure=>simp[intOf];omega
  have U:=gI (show n<=j by omega);have L:=k1.mono o;have t:=L.at 0 rfl;have aM:=aa L;clear L;go_wp2_with fail;clear t hj N U;obtain⟨wA,a1⟩:=ae wr;subst a1;have MZ:=l;have a6:=aa o;clear l o;go_loopw [37] (λF wr=>∃j:Nat,j<=n/\F=.int .i64 j/\Below wA.heap.size wA wr) (λF _=>n-(intOf F).toNat)
  case atStart=>exact⟨0,gW _,rfl,gO _ _⟩
  case round=>
   obtain⟨j,hj,rfl,o⟩:=hrel;have l:=af MZ o;have L:=aM.out.mono o;by_cases N:j<n
   ·have U:=eG (show j<n by omega);have d:j<T.length:=by have:=vI.out;omega
    obtain⟨b,off,m,rfl,_,I,C,D,Y,p⟩:=HX.out j d;have I:=aB l I;have C:=aB l C;have D:=aB l D;have f:=gx d;have J:=HF.out.code _ f;have aj:=HV.out.full _ f;obtain⟨w3,a⟩:=ae (wr.alloc (.cells #[.int .i32 T[j].code,.int .i64 T[j].cls,m] 196));have z:=Is.nw a;have c:=aO a;have lH:=af l c;have EX:=aa (zG aw.out HF.out (T.length+3) 0 T[j].code w3 w3.heap.size [] (.slice none 0 0) (by omega) J aj.1 (by rw[ki,kh];exact aj.2) lH lH.size (gw _) (iu _ _ _ _));obtain⟨am,nm,cm,rfl,_⟩:=p;generalize T[j]=q at *;have B:=L.mono c;have t:=z.at 0 rfl;have A:=z.at 1 rfl;have M:=z.at 2 rfl;have e3:=B.at 0 rfl;have e4:=B.at 1 rfl;rw[a] at t A M e3 e4;clear Y aj f J;go_wp2_with fail;rw[<-a];refine EX.out.mono ?_;rintro e w4⟨r,rfl,ho,aE,_⟩;have g:=fO aE;obtain⟨ar,cr,rfl,_,_⟩:=ak ho;clear t A M e3 e4 a EX I C D ho aE;go_wp2_with fail;go_roundw
    case rel=>exact⟨j+1,by omega,by simp,af (af o c) g⟩
    case measure=>simp[intOf];omega
   have U:=gI (show n<=j by omega);have t:=L.at 0 rfl;have ax:=aa L;clear L;have aT:(Instr.makeMap 309 none).run prog wr=.ok (.map (some wr.heap.size)) (wr.alloc (.map #[] 0)):=rfl;have A:=(ax.out.mono (ah (.map #[] 0))).at 0 rfl;go_wp2_with fail;clear t A aT hj N U;obtain⟨wB,aK⟩:=ae wr;subst aK;have Vj:=l;clear l o;go_loopw [56] (λF wr=>∃j:Nat,j<=n/\F=.int .i64 j/\(∃G,dE prog 311 wr wB.heap.size G/\∀x u,G x u->∃(i:Nat) (P:i<T.length),i<j/\qi T X T[i]/\x=tY T[i])/\Below wB.heap.size wB wr) (λF _=>n-(intOf F).toNat)
   case atStart=>exact⟨0,gW _,rfl,⟨_,dE.new wB 0,λx u h=>h.elim⟩,ah _⟩
   case round=>
    obtain⟨j,hj,rfl,⟨G,hG,aA⟩,o⟩:=hrel;have l:=af Vj o;have L:=ax.out.mono o;have al:=aa aA;clear aA;by_cases N:j<n
    ·have U:=eG (show j<n by omega);have d:j<T.length:=by have:=vI.out;omega
     obtain⟨b,off,m,rfl,_,I,C,D,Y,p⟩:=HX.out j d;have I:=aB l I;have C:=aB l C;have D:=aB l D;have f:=gx d;have J:=HF.out.code _ f;have an:=HF.out.acd _ f;obtain⟨w3,a⟩:=ae (wr.alloc (.cells #[.int .i32 T[j].code,.int .i64 T[j].cls,m] 196));have z:=Is.nw a;have c:=aO a;have lH:=af l c;have ad:=(Y.mono lH);have CO:=aa (qR (aw.out.mono lH) HF.out hX T[j] J an ad)
     have aS:=aa (show ∀(u:Value),qi T X T[j]->¬G (tY T[j]) u from λu hc O=>by
      obtain⟨i,P,ai,h1,S⟩:=al.out _ _ O
      exact Ki HV.out P d ai h1 hc S.symm)
     have aN:=aa (show ∀(u:Value),qi T X T[j]->∀x y,Ad G (tY T[j]) u x y->∃(i:Nat) (P:i<T.length),i<j+1/\qi T X T[i]/\x=tY T[i] from λu hc x y aP=>by
      rcases aP with⟨rfl,_⟩|⟨_,O⟩
      ·exact⟨j,d,by omega,hc,rfl⟩
      obtain⟨i,P,ai,h1,S⟩:=al.out _ _ O
      exact⟨i,P,by omega,h1,S⟩)
     have aU:=aa (show ∀x u,G x u->∃(i:Nat) (P:i<T.length),i<j+1/\qi T X T[i]/\x=tY T[i] from λx u O=>by
      obtain⟨i,P,ai,h1,S⟩:=al.out _ _ O
      exact⟨i,P,by omega,h1,S⟩)
     obtain⟨am,nm,cm,rfl,p⟩:=p;have az:=aa an;generalize T[j]=q at *;have B:=L.mono c;have ap:=hG.mono c;have t:=z.at 0 rfl;have A:=z.at 1 rfl;have M:=z.at 2 rfl;have e3:=B.at 0 rfl;have e4:=B.at 1 rfl;rw[a] at t A M e3 e4;have aL:=aa ad;have ba:=aa p;clear Y f J an ad hG p;go_wp2_with fail;rw[<-a];refine CO.out.mono ?_;rintro e w4⟨bb,rfl,ag,g⟩;clear t A M e3 e4 a CO I C D;have Z:=ap.mono g;have k4:=z.mono g;clear ap;cases bb with
     | false=>
       clear ag;go_wp2_with fail;go_roundw
       case rel=>exact⟨j+1,by omega,by simp,⟨G,Z,aU.out⟩,o.trans ((af c g).mono o.size)⟩
       case measure=>simp[intOf];omega
     | true=>
       have H:=ag.1 rfl;have HC:=aa H;obtain⟨_,pa,pb,E,_⟩:=H;have JF:=aL.out.mono g;rw[E] at JF;obtain⟨a9,aZ,aI,_,ab⟩:=bG.nN JF.any rfl;injection aI with h1 S h3;subst h1;subst S;obtain⟨bm,Q,rfl,_,ao⟩:=ab 0 (by simp);obtain⟨a4,a8,aJ,_,aR⟩:=ab 1 (by simp);cases aJ;rw[sE] at ao;have a3:pa<1114112:=az.out pa (by rw[E];simp);have aV:pb<1114112:=az.out pb (by rw[E];simp);have aD:tY q=.agg #[.int .i32 (pa:Nat),.int .i32 (pb:Nat)]:=by unfold tY;rw[E];rfl
       have aF:=aa aD;have M:=k4.at 2 rfl;clear ag E JF ab aD;have aX:(Instr.arrayAt 311 (.slice (some ⟨bm,Q,none⟩) 2 aZ)).run prog w4=.ok (.pointer (some ⟨bm,Q,none⟩)) w4:=by
        simp[Instr.arrayAt,run_underlying underlying311,Result.andThen]
       obtain⟨w5,vJ⟩:=ae (w4.alloc (.cells #[.int .i32 (pa:Nat),.int .i32 (pb:Nat)] 311));have k5:=Is.nw vJ;have W:=aO vJ;go_upto_region 23 with fail;rw[<-vJ];have aq:=Z.mono W;have a0:=k4.mono W;have g0:=k5.at 0 rfl;have g1:=k5.at 1 rfl;have g2:=a0.at 0 rfl;have R:=RB a3 aV;clear vJ aX ao aR M Z k4;have av:=af (af c g) W
       go_wp2_with (first
        | (refine iL rfl _ _ 309 21 true rfl Fj underlying309 aq rfl rfl R (zeroValue21 w5) ?_ ?_)
        | fail)
       ·intro _
        go_wp2_with (first
         | (refine jQ rfl _ _ _ 309 21 rfl Fj underlying309 aq rfl rfl rfl R ?_;intro w6 aQ M4)
         | fail)
        go_roundw
        case rel=>
         have mF:Below wB.heap.size wB w6:=(o.trans (av.mono o.size)).grown M4 (by have:=o.size;have:=av.size;omega) λk hk=>by cases hk;exact gw _
         refine⟨j+1,by omega,by simp,⟨_,aQ,?_⟩,mF⟩;rw[<-aF.out];exact aN.out _ HC.out
        case measure=>simp[intOf];omega
       intro u O;rw[<-aF.out] at O;exact absurd O (aS.out u HC.out)
    have U:=gI (show n<=j by omega);go_wp2;go_ret;exact⟨rfl,l⟩
def Qj (c:Nat) (a:c<1114112):Calls prog 123 #[.int .i32 c] w λe w'=>e=.returned (.bool true)/\w'=w:=by
 have:decide ((0:Int)<=(c:Int))=true:=by simp
 have:decide ((c:Int)<=1114111)=true:=by simp;omega
 go_enter func123,ntmps123;go_wp2;go_ret;exact⟨rfl,rfl⟩
structure lS (w:World) (p:Nat) (f:Nat->Nat):Prop where
 out:∃(idx:Nat->Nat) (nb B cap:Nat),p<w.heap.size/\B<w.heap.size/\nb<=cap/\nb<65536/\w.cell? ⟨p,4352,none⟩=some (.slice (some ⟨B,0,none⟩) nb cap)/\(∀n,n<4352->idx n<nb/\w.cell? ⟨p,n,none⟩=some (.int .u16 (idx n)))/\
  (∀c,c<1114112->f c<65536/\w.cell? ⟨B,idx (c / 256)*256+c % 256,none⟩=some (.int .u16 (f c)))
def lS.mono {w':World} {p:Nat} {f:Nat->Nat} (h:lS w p f) (a:Below w.heap.size w w'):lS w' p f:=by
 obtain⟨b,m,B,cap,l,k,q,d,o,e,j⟩:=h;exact⟨b,m,B,cap,j9 l a.size,j9 k a.size,q,d,aB a o,λn g=>⟨(e n g).1,aB a (e n g).2⟩,λc i=>⟨(j c i).1,aB a (j c i).2⟩⟩
def Fq (n:Nat) (b:n<2147483648):bits .and .i32 (n:Int) 255=((n % 256:Nat):Int):=by
 have a:(BitVec.ofInt 32 255).toNat=2 ^ 8-1:=by decide
 have key:(BitVec.ofInt 32 n &&& BitVec.ofInt 32 255).toNat=((n:Int) % ((2 ^ 32:Nat):Int)).toNat % 2 ^ 8:=by
  rw[sT,pR,a,oB]
 show IntKind.i32.wrap ((BitVec.ofInt 32 n &&& BitVec.ofInt 32 255).toNat:Nat)=_;rw[key,xf];omega
def BC {p:Nat} {f:Nat->Nat} (h:lS w p f) (c:Nat) (o:c<1114112) :
 Calls prog 80 #[.pointer (some ⟨p,0,none⟩),.int .i32 c] w λe w'=>e=.returned (.int .u16 (f c))/\Below w.heap.size w w':=by
 obtain⟨b,C,B,cap,H,z,F,x,g,m,l⟩:=h;have t:=aa (Qj (w:=w) c o);obtain⟨s,d⟩:=m (c / 256) (by omega);obtain⟨_,a⟩:=l c o;have v:=Fq c (by omega);have hd:((c:Int) / 256)=((c / 256:Nat):Int):=by omega
 obtain⟨n,j⟩:=ae (c / 256);obtain⟨k,q⟩:=ae (c % 256);have:n<4352:=by omega
 have:k<256:=by omega
 rw[<-j] at s d a hd;rw[<-q] at a v;generalize b n=i at *;generalize f c=fc at *;have:=Gr.cell (ag w) g;have:=Gr.cell (ag w) d;have:=Gr.cell (ag w) a;have:i<65536:=by omega
 clear m l j q g d a;go_enter func80,ntmps80;go_upto_region 3 with (go_at_call 123;refine t.out.mono ?_;rintro e A⟨rfl,rfl⟩);refine aC (Array.replicate 17 true) 17 0 mixed ?_;refine ay [0,1,2,3,4,5,6,7,8,9,10,11,12,13,14,15,16] 0 ?_
 iterate 17 (refine aA rfl ?_;go_big_quiet_step (rfl))
 refine az ?_;refine aJ [] ?_;refine tail_nil ?_;go_wp2;go_ret;exact⟨rfl,ag _⟩
end Go.Proofs.YtmnimbnojdndmaaGreatDoor
namespace Go.Cd
open Go.RowKit
def NR {P:Program} {k:TypeId} {S:Nat->Prop} {w:World} {o:Oper} {a:Act} {next:Act->Prop} (m x:Operand) (t b:TypeId) (B:o.op=Op.lookup t m x false)
 (K:Maps.Keyed P k) (l:P.underlying t=some (.map k b)) {r:Nat} {G:Value->Value->Prop} (h:dE P k w r G) (y:S r) (s:a.eval m=.map (some r)) {xv:Value} (C:a.eval x=xv) (n:iF P k xv) {z:Value} (j:∀w,(zeroValue b).run P w=.ok z w)
 (A:(∀v,¬G xv v)->next (a.put o.dst z)) (D:∀v,G xv v->next (a.put o.dst v)):o.quiet P a (λw'=>∃g:vG (KR.blocks S) w,w'=g.tw) next:=by
 have key:∀v,(Instr.lookup t (.map (some r)) xv false).run P w=.ok v w->∀w',(∃g:vG (KR.blocks S) w,w'=g.tw)->o.quietAt P a (λw'=>∃g:vG (KR.blocks S) w,w'=g.tw) w' v:=by
  rintro v d w'⟨g,rfl⟩;have q:dE P k g.tw r G:=h.block (g.ext.1 r y);have p:(Instr.lookup t (.map (some r)) xv false).run P g.tw=.ok v g.tw:=by
   rcases qU K l h n (j w) false with⟨e,c⟩|⟨u,e,c⟩
   ·rw[e] at d;rcases qU K l q n (j g.tw) false with⟨i,f⟩|⟨u2,i,f⟩
    ·injection d with d _;rw[i,<-d]
    exact absurd f (c u2)
   rw[e] at d;rcases qU K l q n (j g.tw) false with⟨i,f⟩|⟨u2,i,f⟩
   ·exact absurd c (f u)
   injection d with d _;rw[i,<-d,h.one c f]
  unfold Oper.quietAt;simp only[execOp,B,s,C,Sem.run_bind,p,Result.andThen,Sem.run_pure];exact⟨rfl,rfl⟩
 rcases qU K l h n (j w) false with⟨e,c⟩|⟨u,e,c⟩
 ·exact⟨z,key _ e,A c⟩
 exact⟨u,key _ e,D u c⟩
end Go.Cd
