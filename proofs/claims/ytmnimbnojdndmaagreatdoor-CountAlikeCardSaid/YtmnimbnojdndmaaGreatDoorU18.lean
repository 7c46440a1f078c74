/- Texts that are alike cost, and count, the same; no condition. -/
import Derived.Test.YtmnimbnojdndmaaGreatDoorU17
import Derived.OrdersIn
set_option maxRecDepth 100000
set_option maxHeartbeats 6400000
set_option linter.all false
namespace Go.Proofs.YtmnimbnojdndmaaGreatDoor
open Go.RowKit Go.Cd _root_.Go.Proofs.Tryz
variable {T:List aG} {w:World} {p n c x i B dp g:Nat} {X l:List Nat} {G:Nat->List Nat} {v:Value} {s:eZ} {K:Nat->Nat}
def bgU (T:List aG) (c:Nat):List Nat:=(((mapped T).map (·.code)).filter λx=>(aD T x).head? == some c)++gK c++if uX T c=true then [c] else []
def uY (T:List aG) (c:Nat):List Nat:=b_ (bgU T c)
def OM {E:List eB} (h:E.map (·.1)=(mapped T).map (·.code)) (c:Nat):wK T E c=((mapped T).map (·.code)).filter λx=>(aD T x).head? == some c:=by
 rw[<-h];unfold wK;rw[List.filter_map];rfl
def zU (c:Nat):(gK c).length<=1000:=by
 unfold gK
 split
 ·simp
 first
 | (split <;> simp)
 | simp
def Il (h:cK w p T X) (hV:aY T X) (hl:T.length<1000) (c:Nat) (R:aP c) :
 Calls prog 65 #[.pointer (some ⟨p,0,none⟩),.int .i32 c] w λe w'=>∃r,e=.returned r/\w'.ownsRow w.heap.size aN 1 r (uY T c).length (aM (uY T c))/\Below w.heap.size w w':=by
 have h':=h;obtain⟨E,rv,xv,ev,J,jM,cp,pp,iv,sv,mv,h1,h2,h3,_⟩:=h;obtain⟨G,hG,Y,P⟩:=h1.bm;obtain⟨a,j⟩:=ae (((mapped T).map (·.code)).filter λx=>(aD T x).head? == some c);have t:wK T E c=a:=by rw[j];exact OM h1.mG c
 obtain⟨M,q,LC⟩:∃M,bG w M (aM a)/\(((∀v,¬G (.int .i32 c) v)/\M=.slice none 0 0)\/G (.int .i32 c) M):=by
  by_cases hg:∃v,G (.int .i32 c) v
  ·obtain⟨v,hv⟩:=hg;obtain⟨c2,e,hw⟩:=Y _ _ hv;have:c2=c:=by injection e with _ e;omega
   subst this;rw[t,<-bF] at hw;exact⟨v,(Sl.aU hw).any,.inr hv⟩
  have Z:∀u,¬G (.int .i32 c) u:=λu hu=>hg ⟨u,hu⟩;have:=P c Z;rw[t] at this;rw[this];exact⟨_,⟨none,0,rfl,gw _,.inl ⟨rfl,λ_=>rfl⟩⟩,.inl ⟨Z,rfl⟩⟩
 have ay:a.length<1000:=by
  rw[j];refine lf (lp _ _) ?_;rw[ia];exact lf (lp _ _) hl
 obtain⟨o,l,ao,_,_⟩:=bG.out q;subst ao;obtain⟨M,ai⟩:=ae (Value.slice o (aM a).length l);obtain⟨s,Q⟩:=ae ((aM a).length);rw[<-Q] at q LC;clear ai M Q;have m:=Ap c (by have:=R.1;omega);have hz:=λW=>zeroValue35 W;have y:=aa (λ(W:World)=>JD (w:=W) c R.1);have ab:=zU c;have IS:=aa (λ(W:World)=>gZ (w:=W) c (by have:=R.1;omega));rw[decide_eq_true R] at IS;have PL:=aa (λ(W:World) (E:Below w.heap.size w W)=>LB (h'.mono E) hV hl c R.1);obtain⟨H,hH⟩:=ae (gK c);obtain⟨pb,I⟩:=ae (uX T c);rw[<-hH] at y ab;rw[<-I] at PL;have hR:uY T c=b_ (a++H++if pb=true then [c] else []):=by unfold uY bgU;rw[j,hH,I]
 rw[hR];have i1:=h1.is;have av:J<w.heap.size:=hG.lt;have g0:=vG.keeps (S:=λk=>k=p\/k=J) ((i1.mono (ag w)).at 5 rfl) (.inl rfl);have O:=hG.mono (ag w);have ar:=i1.lt;clear h1 h2 h3 Y P t hH I hR j h' hG i1;go_enter func65,ntmps65;go_wp2_with fail;refine dF (KR.blocks λk=>k=p\/k=J) (Array.replicate 11 true) 11 0 mixed ?_;refine bZ [0,1,2,3,4,5,6] 4 ?_
 iterate 5 (refine aA rfl ?_;go_big_quiet_step (rfl))
 refine aA rfl ?_;refine BD rfl ?_;refine zJ _ _ 153 35 rfl jR underlying153 O (.inr rfl) rfl rfl m hz (.slice o s l) LC ?_;simp only[Act.put,vi,vh,rN]
 iterate 1 (refine aA rfl ?_;go_big_quiet_step (rfl))
 refine az ?_;refine bN 7 ?_;go_wp2_with fail;refine(y.out w.drew).mono ?_;rintro e B⟨r1,rfl,o1,g⟩;obtain⟨F,D,rfl,_,_⟩:=ak o1;have an:=g.size;have au:w.drew.heap.size=w.heap.size:=rfl;go_wp2_with fail;refine bK (KR.of_below g g.size (λk (f:k=p\/k=J)=>by rcases f with rfl|rfl <;> omega)) ?_;refine bN 8 ?_;go_wp2_with fail;have d:=ah (w:=B) (.cells #[.slice o s l,.slice F H.length D] 35);refine bK (KR.of_below d d.size (λk (f:k=p\/k=J)=>by rcases f with rfl|rfl <;> omega)) ?_;have V:Below w.heap.size w (B.alloc (.cells #[.slice o s l,.slice F H.length D] 35)):=((ag w).trans g).trans (d.mono an);have i2:=Is.new B #[.slice o s l,.slice F H.length D] 35;have U:bG B (.slice F H.length D) (aM H):=(Sl.aU o1).any
 have CC:=aa (OL (w:=B.alloc (.cells #[.slice o s l,.slice F H.length D] 35)) (b:=B.heap.size) (n:=2) (c:=2) (Ls:=[a,H]) (vs:=[.slice o s l,.slice F H.length D]) rfl rfl (λk f aw=>by
  rcases k with _|_|k
  ·exact⟨i2.at 0 rfl,q.mono V⟩
  ·exact⟨i2.at 1 rfl,U.mono d⟩
  exact absurd f (by simp)) (by simp;omega) (by decide))
 rw[show [a,H].flatten=a++H by simp] at CC;refine bN 9 ?_;go_wp2_with fail;refine CC.out.mono ?_;rintro e w3⟨r3,rfl,K,i⟩;obtain⟨a3,c3,rfl,_,_⟩:=ak K;rw[d'] at K⊢;go_wp2_with fail;refine bK (KR.of_below i i.size (λk (f:k=p\/k=J)=>by simp;rcases f with rfl|rfl <;> omega)) ?_;refine bZ [10] 0 ?_
 iterate 1 (refine aA rfl ?_;go_big_quiet_step (rfl))
 refine az ?_;refine eU [] ?_;refine tail_nil ?_;have C:Below w.heap.size w w3:=V.trans (i.mono (by simp;omega));have K:=aT K (show w.heap.size<=(B.alloc (.cells #[.slice o s l,.slice F H.length D] 35)).heap.size by simp;omega);have ap:=aa (IS.out w3);have af:=aa (PL.out w3 C);have O3:=aa K;have al:=C.size;have ad:(a++H).length<2000:=by rw[d'];omega
 clear CC y IS PL U i2 o1 g d i LC O g0 m hz K;go_wp2_with fail;refine ap.out.mono ?_;rintro e w4⟨rfl,rfl⟩;go_wp2_with fail;refine af.out.mono ?_;rintro e w5⟨rfl,A⟩;have rX:=C.trans (A.mono al);have aq:=rX.size;obtain⟨L,hL⟩:=ae (a++H);rw[<-hL] at O3 ad;have HL:=aa hL;have o5:=aH O3.out A;have ax:=A.size;clear hL;have aj:a.length+H.length=L.length:=by rw[HL.out,d']
 rw[aj] at o5⊢;cases pb with
 | false=>
   have SO:=aa (wh L o5 (by omega));clear O3 o5;go_wp2_with fail;refine SO.out.mono ?_;rintro e w6⟨rfl,z,M4⟩;have mF:=rX.grown M4 aq (λk f=>(z.lt k f).1);have O6:=aa z;clear SO z M4;go_wp2;go_ret;refine⟨_,rfl,?_,mF⟩;rw[<-HL.out,fP];exact O6.out
 | true=>
   go_wp2_with (at_builtin;refine gp rfl _ _ 35 rfl w.heap.size aN _ 4 bW _ L.length _ rfl o5 _ rfl rfl (by omega) (by unfold maxLen;omega) w rX (gw _) ?_;intro v' w6 z mF);rw[show aM L++[.int .i32 (c:Nat)]=aM (L++[c]) by rw[a_];rfl,show L.length+1=(L++[c]).length by simp] at z;have SO:=aa (wh (L++[c]) z (by simp;omega));have ac:=mF.size;clear O3 o5 z;go_wp2_with fail;refine SO.out.mono ?_;rintro e w7⟨rfl,o7,N⟩;have am:=mF.grown N ac (λk f=>(o7.lt k f).1);have O7:=aa o7;clear SO o7 N;go_wp2;go_ret;refine⟨_,rfl,?_,am⟩;rw[<-kc,<-HL.out,fP];exact O7.out
def aab (rs:List bS):Prop:=∀r∈rs,aP r.1/\∀x∈r.2,∀y∈x.2,aP y
def Ww {Ls:List (Nat×List Nat)} (e:aP c) (h:∀x∈Ls,∀y∈x.2,aP y):∀x∈sQ n c Ls,∀y∈x.2,aP y:=by
 unfold sQ
 split
 ·rename_i m l d;have f:(m,l)∈Ls:=List.mem_of_getLast? d
  split
  ·intro x a y b;rcases gR.1 a with a|a
   ·exact h x (tS _ a) y b
   rw[gC.1 a] at b;rcases gR.1 b with b|b
   ·exact h _ f y b
   rw[gC.1 b];exact e
  intro x a y b;rcases gR.1 a with a|a
  ·exact h x a y b
  rw[gC.1 a] at b;rw[gC.1 b];exact e
 intro x a y b;rcases gR.1 a with a|a
 ·exact h x a y b
 rw[gC.1 a] at b;rw[gC.1 b];exact e
def uZ:aP 0:=by decide
def Qy (K:Nat->Nat) (i:∀c∈l,aP c):aab (bq K l):=by
 have key:∀(l:List Nat) (d:List bS),(∀c∈l,aP c)->aab d->aab (l.foldl (BU K) d):=λl=>by
  induction l with
  | nil=>intro d _ h;exact h
  | cons c l ih=>
    intro d f h;refine ih _ (λy g=>f y (.tail _ g)) ?_;have h0:=f c (.head _);unfold BU
    split
    ·intro r a;rcases gR.1 a with a|a
     ·exact h r a
     rw[gC.1 a];exact⟨h0,by simp⟩
    have b:aP (d.getLastD (0,[])).1/\∀x∈(d.getLastD (0,[])).2,∀y∈x.2,aP y:=by
     rcases oX d with e|⟨q,z,e⟩
     ·subst e;exact⟨uZ,by simp⟩
     have e:d=q++[z]:=by simpa using e
     rw[e,tR];exact h z (by rw[e];simp)
    intro r a;rcases gR.1 a with a|a
    ·exact h r (tS _ a)
    rw[gC.1 a];exact⟨b.1,Ww h0 b.2⟩
 refine key l _ i λr a=>?_;rw[gC.1 a];exact⟨uZ,by simp⟩
def Cv {R:List bS} (h:aab R) (s:eZ):∀x∈ko R s,aP x:=by
 have b:∀k,aP (aL R k).1/\∀x∈(aL R k).2,∀y∈x.2,aP y:=λk=>by
  unfold aL;rw[ic];by_cases j:k<R.length
  ·rw[gA j];exact h _ (gx j)
  rw[pD (by omega)];exact⟨uZ,by simp⟩
 have f:∀(ms:List Nat) (L:List (Nat×List Nat)) (n:Nat),(∀x∈L,∀y∈x.2,aP y)->∀x∈au ms L n,aP x:=λms L n l x c=>by
  obtain⟨i,_,d⟩:=lP.1 c;unfold lZ at d
  split at d
  ·rename_i a;rw[gC.1 d];by_cases g:i<L.length
   ·have e:L.getD i (0,[])=L[i]:=by rw[ic,gA g];rfl
    rw[e] at a⊢;rw[ic,gA a];exact l _ (gx g) _ (gx a)
   have e:L.getD i (0,[])=(0,[]):=by rw[ic,pD (by omega)];rfl
   rw[e] at a;exact absurd a (by simp)
  cases d
 intro x c;unfold ko at c
 split at c
 ·split at c
  ·rw[gC.1 c];exact(b _).1
  cases c
 exact f _ _ _ (b _).2 x c
def aac (h:T.length<1000) (c:Nat):(bgU T c).length<=2000:=by
 have:=zU c;have:(((mapped T).map (·.code)).filter λx=>(aD T x).head? == some c).length<=T.length:=by
  refine gS (lp _ _) ?_;rw[ia];exact lp _ _
 unfold bgU;rw[d',d']
 split
 ·simp;omega
 simp;omega
def Qz (h:T.length<1000) (c:Nat):(uY T c).length<=2000:=by unfold uY;rw[fP];exact aac h c
def LF (h:x∈gK c) (d:aP c):aP x:=by
 unfold gK at h
 split at h
 ·rename_i b;have:=UM.1 b;obtain⟨i,a,rfl⟩:=jx.1 h;have:=nj.1 a;unfold aP;omega
 cases h
def QA (e:aY T X) (b:aP c):∀x∈uY T c,aP x:=by
 intro x a;rw[uY,xQ] at a;unfold bgU at a;rcases gR.1 a with a|a
 ·rcases gR.1 a with a|a
  ·obtain⟨r,d,rfl⟩:=jx.1 (iJ.1 a).1;exact(e.fine r (iJ.1 d).1).1
  exact LF a b
 split at a
 ·rw[gC.1 a];exact b
 cases a
def FY.form {e:Ending} {o:Option eZ} (h:FY e w o):∃k a m c,e=.returned (.tuple #[.agg #[.int .i64 k,.slice a m c],.bool o.isSome]):=by
 cases o with
 | none=>exact⟨_,_,_,_,h⟩
 | some s=>
   obtain⟨v,rfl,d,rfl,b⟩:=h;obtain⟨a,c,rfl,_,_⟩:=bG.out b.any;exact⟨_,_,_,_,rfl⟩
def OQ (a:i<l.length):(l.take (i+1)).flatMap G=(l.take i).flatMap G++G l[i]:=by
 rw[gE a,jj];simp
def sD {b:Nat} (a:∀x,(G x).length<=b):∀l:List Nat,(l.flatMap G).length<=l.length*b
 | []=>by simp
 | x::l=>by
   have:=sD a l;have:=a x;rw[iR,d',hU,Nat.succ_mul];omega
def Te {q:Nat->Bool} {j:Nat} (a:j<l.length):(l.take (j+1)).filter q=(l.take j).filter q++if q l[j]=true then [l[j]] else []:=by
 rw[gE a,n8];congr 1;cases h:q l[j] <;> simp[h]
def Im (hD:cK w dp T X) (hV:aY T X) (zT:T.length<1000) (h:dP w B p dp (ai T) l) (hl:l.length<400) (bj:∀c∈l,aP c) (hs:AA w v s) (ho:eQ (bq (ai T) l) s) :
 Calls prog 30 #[.pointer (some ⟨p,0,none⟩),v] w λe w'=>∃r,e=.returned r/\w'.ownsRow w.heap.size aN 1 r (b_ (pO (ai T) (aD T) (uY T) (bq (ai T) l) s)).length (aM (b_ (pO (ai T) (aD T) (uY T) (bq (ai T) l) s)))/\Below w.heap.size w w':=by
 obtain⟨g,rc,iT,bf,Es,hR⟩:=h.read;obtain⟨sv,rfl,al⟩:=id hs;obtain⟨sa,sc,rfl,_,_⟩:=bG.out al.any;obtain⟨m,hm⟩:=ae ((bO (nz s.2)).length);rw[<-hm] at hs al⊢;have N:=ah (w:=w) (.cells #[.int .i64 (s.1:Nat),.slice sa m sc] 54);have ap:=Cv (Qy (ai T) bj) s;have a3:=Cr (bq (ai T) l) s;have V:=(fD (ai T) l).2.2 _ (show aL (bq (ai T) l) s.1∈bq (ai T) l by rw[df ho.lt];exact gx _);have FI:=aa (OJ (h.mono N) (by omega) (hs.mono N) ho);have BG:=aa (λ(W:World) (E:Below w.heap.size w W) (c:Nat) (R:aP c)=>Il (hD.mono E) hV zT c R);have ST:=aa (λ(W:World) (E:Below w.heap.size w W) (c:Nat) (R:aP c)=>FZ (hD.mono E) hV zT (h.mono E) (by omega) (hs.mono E) ho c R);have an:=λ(c:Nat) (R:aP c)=>QA hV R;have M:=λc=>Qz zT c;have hO:pO (ai T) (aD T) (uY T) (bq (ai T) l) s=(ko (bq (ai T) l) s).flatMap λx=>(uY T x).filter λc=>(fw (ai T) (aD T) (bq (ai T) l) s c).isSome:=rfl;rw[hO];obtain⟨F,hF⟩:=ae (ko (bq (ai T) l) s);obtain⟨q,hq⟩:∃q:Nat->Bool,q=λc=>(fw (ai T) (aD T) (bq (ai T) l) s c).isSome:=⟨_,rfl⟩;obtain⟨A,ao⟩:=ae (uY T);rw[<-hF] at ap a3 FI;rw[<-hF,<-hq,<-ao];rw[<-ao] at an M BG;have aF:∀(W:World) (E:Below w.heap.size w W) (c:Nat) (R:aP c),Calls prog 31 #[.pointer (some ⟨p,0,none⟩),.agg #[.int .i64 (s.1:Nat),.slice sa m sc],.int .i32 c] W λe w'=>(∃k a m c',e=.returned (.tuple #[.agg #[.int .i64 k,.slice a m c'],.bool (q c)]))/\Below W.heap.size W w':=λW E c R=>(ST.out W E c R).mono λe w' ⟨h1,h2⟩=>⟨by rw[hq];exact h1.form,h2⟩;have av:=aa aF;have a6:=aa an;have bg:=aa ap;have bk:=hR.is;have a0:F.length<=401:=by have:=V.1;omega
 obtain⟨G,hG⟩:∃G:Nat->List Nat,G=λx=>(A x).filter q:=⟨_,rfl⟩;have Qq:∀x,(G x).length<=2000:=λx=>by rw[hG];exact gS (lp _ _) (M x)
 have HG:=aa hG;have az:=aa Qq;have a8:=aa M;rw[<-hG];obtain⟨k,L⟩:=ae s.1;rw[<-L] at N FI av⊢;clear h hR al hs hm hF hq ao hO ST aF ap a3 an M V hG Qq hD ho L;go_enter func30,ntmps30;go_wp2_with fail;refine FI.out.mono ?_;rintro e K⟨r1,rfl,o1,aO⟩;have C:=af N aO;have D:=C.size;have k0:Is K w.heap.size #[.int .i64 (k:Nat),.slice sa m sc] 54:=(Is.new w _ _).mono aO;obtain⟨n,hn⟩:=ae F.length;have aZ:=(Sl.aU o1).any;obtain⟨a1,c1,rfl,_,hx⟩:=Go.Proofs.YtmnimbnojdndmaaGreatDoor.bG.Hl aZ hn;have HX:=aa hx;have HN:=aa hn;have:n<=401:=by rw[hn];exact a0
 clear o1 aZ hx hn FI a0;go_wp2_with fail;go_loopw [5,7,9,10,11,16,27] (λo _ _ _ _ iv _ wr=>∃i:Nat,i<=n/\iv=.int .i64 i/\wr.ownsRow K.heap.size aN 1 o ((F.take i).flatMap G).length (aM ((F.take i).flatMap G))/\Below K.heap.size K wr) (λ_ _ _ _ _ iv _ _=>n-(intOf iv).toNat)
 case atStart=>exact⟨0,gW _,rfl,iu _ _ _ _,gO _ _⟩
 case round=>
  obtain⟨i,hi,rfl,d,hE⟩:=hrel;by_cases bo:i<n
  ·have zi:=eG (show i<n by omega);have ad:i<F.length:=by have:=HN.out;omega
   obtain⟨b,off,rfl,_,c0⟩:=HX.out i ad;have c0:=aB hE c0;have f:=OQ (G:=G) ad;have J:=sD az.out (F.take i);rw[iS,qk (by omega)] at J;have Y:=bg.out _ (gx ad);obtain⟨x,hx⟩:=ae (F[i]);obtain⟨P,hP⟩:=ae ((F.take i).flatMap G);rw[<-hx] at c0 f Y;rw[<-hP] at f J d;have bl:=aa f;have I:=C.trans (hE.mono D);have Je:=I.size;have aC:=aa (BG.out wr I x Y);have aE:=a6.out x Y;have aW:=a8.out x;have p0:=(bk.mono I).at 0 rfl;clear f hx hP;go_wp2_with fail;refine aC.out.mono ?_;rintro e w2⟨r2,rfl,o2,ag⟩;have bh:=af hE ag;have:=I.trans (ag.mono Je);obtain⟨z,H⟩:=ae ((A x).length);have U:=(Sl.aU o2).any;obtain⟨a2,c2,rfl,_,au⟩:=Go.Proofs.YtmnimbnojdndmaaGreatDoor.bG.Hl U H;have:=aa au;have aK:=aa H;have a4:=aa aE;have am:=aH d ag;have:z<=2000:=by rw[H];exact aW
   have bb:w2.ownsRow K.heap.size aN 1 (.slice a2 z c2) z (aM (A x)):=aT (H▸o2) hE.size;have be:jW (.slice a2 z c2) u5:=λk L bd=>by
    have h1:=(o2.lt k L).1;have h2:=(d.lt k bd).2;omega
   clear o2 U au H aE aC p0 aW d;go_wp2_with fail;go_loopw [5,9,10,11,27] (λo _ _ _ jv wr=>∃j:Nat,j<=z/\jv=.int .i64 j/\wr.ownsRow K.heap.size aN 1 o (P++((A x).take j).filter q).length (aM (P++((A x).take j).filter q))/\Below K.heap.size K wr/\wr.ownsRow K.heap.size aN 1 (.slice a2 z c2) z (aM (A x))/\jW (.slice a2 z c2) o) (λ_ _ _ _ jv _=>z-(intOf jv).toNat)
   case atStart=>exact⟨0,gW _,rfl,by rw[List.take_zero,List.filter_nil,lE];exact am,bh,bb,be⟩
   case round=>
    obtain⟨j,hj,rfl,t,Zw,Z,aQ⟩:=hrel;by_cases bn:j<z
    ·have zj:=eG (show j<z by omega);have O:j<(A x).length:=by have:=aK.out;omega
     obtain⟨b2,bm,aj,_,_,_,_,aJ⟩:=dz Z (show 0<z by omega);injection aj with aj _ bc;subst aj bc;have d0:=aJ j (.int .i32 ((A x)[j]:Nat)) (by rw[gA (by rw[bF];exact O),dR _ _ O]);clear aJ;have f:=Te (q:=q) O;have ax:=a4.out _ (gx O);have aI:=lp q ((A x).take j);rw[iS,qk (by omega)] at aI;obtain⟨y,hy⟩:=ae ((A x)[j]);obtain⟨S,hS⟩:=ae (((A x).take j).filter q);rw[<-hy] at d0 f ax;rw[<-hS] at f t aI;have ay:=aa f;have aS:=C.trans (Zw.mono D);have:=aS.size;have aw:=aa (av.out wr aS y ax);have e0:=(k0.mono Zw).at 0 rfl;have e1:=(k0.mono Zw).at 1 rfl;have a7:(P++S).length<900000:=by rw[d'];omega
     obtain⟨Q,hQ⟩:=ae (P++S);rw[<-hQ] at t a7;have HQ:=aa hQ;clear f hy hS hQ;go_wp2_with fail;refine aw.out.mono ?_;rintro e w6⟨⟨k',a',m',c',rfl⟩,ab⟩;have ji:=af Zw ab;have aq:=ah (w:=w6) (.cells #[.int .i64 k',.slice a' m' c'] 54);have uK:=af ji aq;have aR:=aH (aH Z ab) aq;have ak:=aa aQ;have ar:=aH (aH t ab) aq;obtain⟨qy,ac⟩:=ae (q y);rw[<-ac];have aA:=aa ac;clear aw e0 e1 t ac ji Z aQ;cases qy with
     | true=>
       have aV:=aH ar (ah (.cells #[.int .i32 (y:Nat)] aN));have aX:=aa (aH aR (ah (.cells #[.int .i32 (y:Nat)] aN)));have kL:=aa (uK.trans ((ah (.cells #[.int .i32 (y:Nat)] aN)).mono uK.size));have ba:=kL.out.size;simp only[ns] at ba;have bi:=uK.size;simp only[ns] at bi;go_wp2_with (at_builtin;refine ng rfl _ _ 35 rfl K.heap.size aN (.int .i32 0) 4 bW (by decide) rfl aV (by simp;omega) [.int .i32 (y:Nat)] (by simp[Value.oneCell']) ⟨w6.heap.size+1,0,none⟩ 1 1 rfl rfl (λi u hi=>by rcases i with _|i;cases hi;exact(Is.new' (w6.alloc (.cells #[.int .i64 k',.slice a' m' c'] 54)) #[.int .i32 (y:Nat)] aN (w6.heap.size+1) (by simp)).at 0 rfl;cases hi) (by omega) ?_;intro v' w8 o8 OT a9);go_roundw
       case rel=>
        refine⟨j+1,by omega,by simp,?_,kL.out.grown OT (by simp;omega) (λk L=>(aV.lt k L).1),jW.stays ak.out aX.out OT,ak.out.push (λk L=>(aX.out.lt k L).2) a9⟩;rw[ay.out,<-aA.out,if_pos rfl,<-kc,<-HQ.out,a_,d'];exact o8
       case measure=>simp[intOf];omega
     | false=>
       go_wp2_with fail;go_roundw
       case rel=>
        refine⟨j+1,by omega,by simp,?_,uK,aR,ak.out⟩;rw[ay.out,<-aA.out,if_neg (by simp),lE,<-HQ.out];exact ar
       case measure=>simp[intOf];omega
    have zj:=gI (show z<=j by omega);obtain rfl:j=z:=by omega
    have ht:(A x).take j=A x:=ie (by rw[<-aK.out];exact gw _);rw[ht] at t;have a5:=aa t;clear t ht;go_wp2_with fail;go_roundw
    case rel=>
     refine⟨i+1,by omega,by simp,?_,Zw⟩;rw[bl.out,HG.out];exact a5.out
    case measure=>simp[intOf];omega
  have zi:=gI (show n<=i by omega);obtain rfl:i=n:=by omega
  have ht:F.take i=F:=ie (by rw[<-HN.out];exact gw _);rw[ht] at d;have J:=sD az.out F;rw[<-HN.out] at J;obtain⟨P,hP⟩:=ae (F.flatMap G);rw[<-hP] at d J;have SO:=aa (wh P d (by omega));have HP:=aa hP;have I:=C.trans (hE.mono D);clear d ht hP;go_wp2_with fail;refine SO.out.mono ?_;rintro e w6⟨rfl,o6,M4⟩;have mF:=hE.grown M4 hE.size (λk L=>(o6.lt k L).1);have O6:=aa (aT o6 D);clear SO o6 M4;go_wp2;go_ret;rw[<-HP.out,fP];exact⟨_,rfl,O6.out,C.trans (mF.mono D)⟩
def OU {bs:List Nat} (h:gB w v bs) (f:∀b∈bs,1<=b) (l:aW bs<=1073741824) (Q:bs.length<1099511627776) (i:Int) :
 Calls prog 63 #[v,.int .i64 i] w λe w'=>∃r,e=.returned (.tuple #[r,.bool (decide (0<=i/\i<(aW bs:Nat)))])/\Below w.heap.size w w'/\
  (0<=i/\i<(aW bs:Nat)->w'.ownsRow w.heap.size bB 1 r bs.length (ds (Cn bs i.toNat)))/\(¬(0<=i/\i<(aW bs:Nat))->r=.slice none 0 0):=by
 have z:=h;obtain⟨J,L,B,D,rfl,_⟩:=h.out;have G:=ah (w:=w) (.cells #[.slice J bs.length L,.slice B bs.length D,.int .i64 (aW bs:Nat)] dh);have P:qj (w.alloc (.cells #[.slice J bs.length L,.slice B bs.length D,.int .i64 (aW bs:Nat)] dh)) w.heap.size (.slice J bs.length L) (.slice B bs.length D) (.int .i64 (aW bs:Nat)) dh:=⟨heap_alloc_new' _ _ _ rfl⟩;obtain⟨e0,e1,e2⟩:=P.cell;have x:=aa (aga (z.mono G) f l i);have X:=aa (λ(W:World) (E:Below w.heap.size w W) (n j:Nat) (F:n<aW bs) (S:j<bs.length)=>Wo (z.mono E) f l F S);clear h z f;by_cases g:0<=i/\i<(aW bs:Nat)
 ·obtain⟨n,rfl⟩:∃n:Nat,i=n:=⟨i.toNat,by omega⟩;have F:n<aW bs:=by omega
  have a:decide (0<=(n:Int)/\(n:Int)<(aW bs:Nat))=true:=decide_eq_true g;rw[a] at x⊢;have H:=aa g;have t:=aa (uT bs n);clear a g;go_enter func63,ntmps63;go_wp2_with fail;refine x.out.mono ?_;rintro e s⟨rfl,u⟩;have O:=P.mono u;have c:=af G u;obtain⟨f0,f1,f2⟩:=O.cell;go_wp2_with fail;have:=c.size;go_loopw [6,15] (λo i wr=>∃k:Nat,k<=bs.length/\i=.int .i64 k/\wr.ownsRow s.heap.size bB 1 o k (ds ((Cn bs n).take k))/\Below s.heap.size s wr)
   (λ_ i _=>bs.length-(intOf i).toNat)
  case atStart=>exact⟨0,gW _,rfl,⟨by simp[ds],.inl (by simp)⟩,gO _ _⟩
  case round=>
   obtain⟨k,hk,rfl,C,y⟩:=hrel;obtain⟨U,R,Z⟩:=(O.mono y).cell;by_cases q:k<bs.length
   ·have V:=aa (gE (show k<(Cn bs n).length by rw[t.out];exact q));have A:=aa (X.out wr (c.trans (y.mono c.size)) n k F q);generalize (Cn bs n)[k]'(by rw[t.out];exact q)=d at *;go_wp2_with fail;refine A.out.mono ?_;rintro e w4⟨rfl,N⟩;have M:=aH C N;have T:=af y N;clear U R Z;go_wp2_with (at_builtin;refine gp rfl _ _ 23 rfl s.heap.size bB _ 8 jI _ k _ rfl M _ rfl rfl (by omega) (by unfold maxLen;omega) s T (gw _) ?_;intro v' w' m I);go_roundw
    case rel=>exact⟨k+1,by omega,rfl,by rw[V.out];simpa [ds] using m,I⟩
    case measure=>simp[intOf];omega
   obtain rfl:k=bs.length:=by omega
   go_wp2;go_ret2;have p:(Cn bs n).take bs.length=Cn bs n:=ie (by simp);rw[p] at C;refine⟨_,rfl,c.trans (y.mono c.size),λ_=>?_,λK=>absurd H.out K⟩;rw[oT];exact aT C c.size
 have a:decide (0<=i/\i<(aW bs:Nat))=false:=decide_eq_false g;rw[a] at x⊢;clear a;go_enter func63,ntmps63;go_wp2_with fail;refine x.out.mono ?_;rintro e s⟨rfl,u⟩;go_wp2;go_ret2;exact⟨_,rfl,af G u,λK=>absurd K g,λ_=>rfl⟩
def OW (h:dP w B p dp K l) (hl:l.length<9000) (d:dO (bq K l)<=16384) (L:AA w v s) (j:eQ (bq K l) s) :
 Calls prog 52 #[.pointer (some ⟨p,0,none⟩),v] w λe w'=>e=.returned (.tuple #[.int .i64 (fK (bq K l) s:Nat),.bool true])/\Below w.heap.size w w':=by
 obtain⟨k,ms⟩:=s;have Q:=fD K l;obtain⟨g,rc,iT,X,Es,O⟩:=h.read;obtain⟨sv,rfl,b⟩:=id L;obtain⟨sa,sc,rfl,_,_⟩:=bG.out b.any;obtain⟨m,hm⟩:=ae ((bO (nz ms)).length);dsimp only at L b⊢;rw[<-hm] at L b⊢;have u:=ah (w:=w) (.cells #[.int .i64 (k:Nat),.slice sa m sc] 54);have N:=aa (rD (h.mono u) hl (L.mono u) j);have c:=Q.2.2 _ (show aL (bq K l) k∈bq K l by rw[df j.lt];exact gx _);have V:aW (kM (aL (bq K l) k))<=16384:=by
  have hk:k<(bq K l).length:=j.lt;rw[<-uV,df hk];have h1:=aae hk;have:=gG (bq K l) (k+1);omega
 have H:=aa (λ(W:World) (E:Below w.heap.size w W) (rv:Value) (hr:gB W rv (kM (aL (bq K l) k)))=>VT hr (b.any.mono E) (by omega) (pQ _) (by have h1:ms.length=(aL (bq K l) k).2.length:=j.len;rw[jF,h1];have:=c.1;omega) (by rw[eO];have:=c.1;omega));have t:=j.vld;dsimp only at t;simp only[t,if_true] at H;have r:=nD j;have a:fK (bq K l) (k,ms)=dO ((bq K l).take k)+gU (kM (aL (bq K l) k)) (nz ms) (kM (aL (bq K l) k)).length:=rfl;dsimp only at N;have G:=O.le;rw[decide_eq_true d] at G;subst G;obtain⟨R,F⟩:=ae (bq K l);simp only[<-F] at Q O N j a r H d⊢;obtain⟨ac,D⟩:=ae (gU (kM (aL R k)) (nz ms) (kM (aL R k)).length);obtain⟨P,o⟩:=ae (dO (R.take k));obtain⟨ix,C⟩:=ae (fK R (k,ms));rw[<-C] at a r⊢;rw[<-D] at a H;rw[<-o] at a;have:ix<16384:=by omega
 have T:=aa o;have ag:=O.is;have S:=aa d;clear h O b L hm Q c D o C F j t V r d;go_enter func52,ntmps52;go_wp2_with fail;refine N.out.mono ?_;rintro e w1⟨rv,rfl,hW,A⟩;obtain⟨la,lc,x1,m1,y1,x2,m2,y2,z,f,rfl,hL,Y⟩:=id hW;obtain⟨J,hf⟩:=Y S.out;have ad:f=(P:Int):=by rw[hf,T.out]
 clear hf;subst ad;obtain⟨n,hn⟩:=ae ((aL R k).2.length);obtain⟨hd,y⟩:=ae ((aL R k).1);rw[<-hn,<-y];have Z:=af u A;have M:=(Is.new w #[.int .i64 (k:Nat),.slice sa m sc] 54).mono A;have q:=ah (w:=w1) (.cells #[.int .i32 hd,.slice la n lc,.slice x1 m1 y1,.slice x2 m2 y2,.int .i64 z,.int .i64 P] eX);have x:=Is.new w1 #[.int .i32 hd,.slice la n lc,.slice x1 m1 y1,.slice x2 m2 y2,.int .i64 z,.int .i64 P] eX;have i:=af Z q;have M:=M.mono q;have:=M.at 1 rfl;have:=x.at 2 rfl;have:=x.at 3 rfl;have:=x.at 4 rfl;have:=(ag.mono i).at 3 rfl;have U:=aa (H.out _ i _ (J.mono q));have K2:=aa x;clear hL hn y N hW J H M x;go_wp2_with fail;refine U.out.mono ?_;rintro e w3⟨rfl,I⟩;have:=(K2.out.mono I).at 5 rfl;have w9:wrap64 ((P:Int)+(ac:Int))=(ix:Int):=by rw[a];unfold wrap64;omega
 have ab:=aa w9;clear a w9;go_wp2;go_ret2;exact⟨by first|rfl|(rw[<-ab.out];rfl),i.trans (I.mono i.size)⟩
def OX (h:dP w B p dp K l) (hl:l.length<9000) (I:dO (bq K l)<=16384) (aZ:i<16384) :
 Calls prog 29 #[.pointer (some ⟨p,0,none⟩),.int .i64 i] w λe w'=>∃v,e=.returned (.tuple #[v,.bool (decide (i<dO (bq K l)))])/\(i<dO (bq K l)->AA w' v (sW (bq K l) i))/\(¬i<dO (bq K l)->v=.agg #[.int .i64 0,.slice none 0 0])/\Below w.heap.size w w':=by
 have hF:=fD K l;obtain⟨g,rc,iT,aJ,Es,hR⟩:=h.read;have x:=hR.le;rw[decide_eq_true I] at x;subst x;obtain⟨R,ao⟩:=ae (bq K l);simp only[<-ao] at hF hR I⊢;have ar:∀k (a:k<R.length),∃la lc S U T N Q O z,(∀j<6,w.cell? ⟨g,k*6+j,none⟩=[Value.int .i32 (aL R k).1,.slice la (aL R k).2.length lc,.slice S U T,.slice N Q O,.int .i64 z,.int .i64 (dO (R.take k):Nat)][j]?)/\gB w (.agg #[.slice S U T,.slice N Q O,.int .i64 z]) (kM (aL R k)):=λk a=>by
  obtain⟨la,lc,S,U,T,N,Q,O,z,f,C,_,hW⟩:=hR.at_ a;obtain⟨aV,SX,aY,a0,aR,a3,aX,aS,z',f',he,_,aH⟩:=hW;obtain⟨A,hf⟩:=aH I;simp only[Ax,A2,pf,and_true,Value.int.injEq,true_and,tm] at he;obtain⟨_,⟨rfl,rfl,rfl⟩,⟨rfl,rfl,rfl⟩,rfl,rfl⟩:=he;subst hf;exact⟨la,lc,S,U,T,N,Q,O,z,C,A⟩
 have D:∀k (a:k<R.length),dO (R.take (k+1))=dO (R.take k)+aW (kM (aL R k))/\aW (kM (aL R k))<=16384/\dO (R.take k)<=16384:=λk a=>by
  have h1:=aae a;have h2:=gG R (k+1);rw[<-uV,df a];omega
 have ac:∀k (a:k<R.length),(kM (aL R k)).length<9000:=λk a=>by
  rw[eO,df a];have:=(hF.2.2 _ (gx a)).1;omega
 have t:∀k (a:k<R.length),dO (R.take k)<=i->i-dO (R.take k)<aW (kM (aL R k))->sW R i=(k,Cn (kM (aL R k)) (i-dO (R.take k))):=λk a h1 h2=>by
  rw[df a] at h2⊢;exact Wp a h1 (by rw[uV];exact h2)
 have SZ:=aa (λ(W:World) (rv:Value) (k:Nat) (a:k<R.length) (A:gB W rv (kM (aL R k)))=>H6 A (pQ _) (gS (D k a).2.1 (by decide)));have DG:=aa (λ(W:World) (rv:Value) (k:Nat) (a:k<R.length) (A:gB W rv (kM (aL R k))) (n:Nat)=>OU A (pQ _) (gS (D k a).2.1 (by decide)) (by have:=ac k a;omega) (n:Int));obtain⟨X,y⟩:=ae R.length;have:X<10000:=by rw[y];have:=hF.2.1;omega
 have ag:=hR.is;rw[<-y] at ag;have aN:=aa (show dO (R.take X)=dO R by rw[y,kO]);have aE:=aa (gG R);have aP:=aa ar;have aC:=aa D;have Y:=aa t;have aD:=aa ac;have Yq:=aa y;have L:=ah (w:=w) (.cells #[.int .i64 0,.slice none 0 0] 54);have k0:=Is.new w #[.int .i64 0,.slice none 0 0] 54;have:=(ag.mono L).at 1 rfl;have:=(ag.mono L).at 3 rfl;have:w.heap.size+1<=(w.alloc (.cells #[.int .i64 0,.slice none 0 0] 54)).heap.size:=by simp
 clear h hF hR ao ar D t ac y I;go_enter func29,ntmps29;go_wp2_with fail;generalize w.alloc (.cells #[.int .i64 0,.slice none 0 0] 54)=w0 at *;go_loopw [6,7,8,26] (λ_ _ _ kv wr=>∃k:Nat,k<=X/\kv=.int .i64 k/\dO (R.take k)<=i/\Below w0.heap.size w0 wr) (λ_ _ _ kv _=>X-(intOf kv).toNat)
 case atStart=>exact⟨0,gW _,rfl,by simp[dO],gO _ _⟩
 case round=>
  obtain⟨k,a,rfl,x,hE⟩:=hrel;by_cases a1:k<X
  ·have d:k<R.length:=by have:=Yq.out;omega
   have zk:=eG (show k<X by omega);have H:=af L hE;obtain⟨la,lc,S,U,T,N,Q,O,z,C,Z⟩:=aP.out k d;obtain⟨s,an,aQ⟩:=aC.out k d;have Wx:=aa (Y.out k d x);obtain⟨fr,ab⟩:=ae (dO (R.take k));obtain⟨hd,ai⟩:=ae ((aL R k).1);obtain⟨n,hn⟩:=ae ((aL R k).2.length);have aK:=SZ.out;obtain⟨bs,aA⟩:=ae (kM (aL R k));have aO:=aD.out k d;have F:=aa (λ(W:World) (E:Below w.heap.size w W)=>SZ.out W _ k d (Z.mono E));have J:=aa (λ(W:World) (E:Below w.heap.size w W) (q:Nat)=>DG.out W _ k d (Z.mono E) q);rw[<-ab,<-ai,<-hn] at C;rw[<-ab] at x s aQ Wx;rw[<-aA] at s an F J Wx aO;obtain⟨P,hP⟩:=ae (aW bs);rw[<-hP] at s an F J Wx;have aq:=aa s;have d0:w.cell? ⟨g,k*6,none⟩=some (.int .i32 hd):=C 0 (by decide);have d1:w.cell? ⟨g,k*6+1,none⟩=some (.slice la n lc):=C 1 (by decide);have d2:w.cell? ⟨g,k*6+2,none⟩=some (.slice S U T):=C 2 (by decide);have d3:w.cell? ⟨g,k*6+3,none⟩=some (.slice N Q O):=C 3 (by decide);have d4:w.cell? ⟨g,k*6+4,none⟩=some (.int .i64 z):=C 4 (by decide);have d5:w.cell? ⟨g,k*6+5,none⟩=some (.int .i64 fr):=C 5 (by decide);have d0:=aB H d0;have d1:=aB H d1;have d2:=aB H d2;have d3:=aB H d3;have d4:=aB H d4;have d5:=aB H d5;have az:=ah (w:=wr) (.cells #[.int .i32 hd,.slice la n lc,.slice S U T,.slice N Q O,.int .i64 z,.int .i64 fr] eX);have k2:=Is.new wr #[.int .i32 hd,.slice la n lc,.slice S U T,.slice N Q O,.int .i64 z,.int .i64 fr] eX;have b2:=k2.at 2 rfl;have b3:=k2.at 3 rfl;have b4:=k2.at 4 rfl;have b5:=k2.at 5 rfl;have NV:=af hE az;have aw:=af H az;have ax:=aa (F.out _ aw);obtain⟨q,hq⟩:=ae (i-fr);rw[<-hq] at Wx;have wq:wrap64 ((i:Int)-(fr:Int))=(q:Int):=by unfold wrap64;omega
   have aF:(i:Int)-(fr:Int)=(q:Int):=by omega
   have K2:=aa k2;have:q<=i:=by omega
   clear C Z ab ai hn aA hP aK s k2;go_wp2_with fail;rw[<-hq];have HQ:=aa hq;clear hq;refine ax.out.mono ?_;rintro e w4⟨rfl,ad⟩;have lN:=af aw ad;have am:=af NV ad;have k4:=K2.out.mono ad;have:=k4.at 2 rfl;have:=k4.at 3 rfl;have:=k4.at 4 rfl;have av:=aa (J.out w4 lN q);clear F ax J b2 b3 b4 b5 d0 d1 d2 d3 d4 d5 k4 wq aF;by_cases aI:q<P
   ·have zq:=eG (show q<P by omega);have t:=Wx.out aI;have Y:=aa t;have V:=aa (show i<dO R by have h1:=aq.out;have h2:=aE.out (k+1);have:=HQ.out;omega);have M:decide (0<=(q:Int)/\(q:Int)<(P:Int))=true:=decide_eq_true ⟨by omega,by omega⟩;rw[M] at av;clear t M;go_wp2_with fail;refine av.out.mono ?_;rintro e w5⟨r,rfl,ap,al,_⟩;have A:=al ⟨by omega,by omega⟩;rw[oT] at A;obtain⟨ra,G,rfl,_,_⟩:=ak A;obtain⟨nb,au⟩:=ae bs.length;rw[<-au] at A⊢;have aM:=af am ap;have aG:=af lN ap;have c:=k0.mono aM;have f0:=c.at 0 rfl;have f1:=c.at 1 rfl;have q0:=c.frozen 0;have q1:=c.frozen 1;have v0:=(c.set 0 (.int .i64 (k:Nat))).set 1 (.slice ra nb G);have g0:=v0.at 0 rfl;have g1:=v0.at 1 rfl;have o9:=aa (((bJ.put (o:=0) c (.int .i64 (k:Nat))).trans (bJ.put (o:=1) (c.set 0 (.int .i64 (k:Nat))) (.slice ra nb G))).own A (by decide));have m:=aa (aj (off:=1) (u:=.slice ra nb G) (b:=w.heap.size) (aj (off:=0) (u:=.int .i64 (k:Nat)) (b:=w.heap.size) aG (gw _)) (gw _));clear al A au c v0;go_wp2_with fail;refine bodyPost_ret (v:=.tuple #[.agg #[.int .i64 (k:Nat),.slice ra nb G],.bool true]) (by simp[results,results29,go_sem,g0,g1]) rfl ⟨_,by rw[decide_eq_true V.out],λ_=>?_,λh=>absurd V.out h,m.out⟩;rw[Y.out];refine⟨_,rfl,?_⟩;rw[Z8];exact Sl.aU o9.out
   have zq:=gI (show P<=q by omega);go_wp2_with fail;go_roundw
   case rel=>exact⟨k+1,by omega,by simp,by rw[aq.out];have:=HQ.out;omega,am⟩
   case measure=>simp[intOf];omega
  obtain rfl:k=X:=by omega
  have zk:=gI (show k<=k by omega);have ay:=aa (show ¬i<dO R by have:=aN.out;omega);have H:=af L hE;have c:=k0.mono hE;have f0:=c.at 0 rfl;have f1:=c.at 1 rfl;have q0:=c.frozen 0;have q1:=c.frozen 1;have v0:=(c.set 0 (.int .i64 0)).set 1 (.slice none 0 0);have g0:=v0.at 0 rfl;have g1:=v0.at 1 rfl;have m:=aa (aj (off:=1) (u:=.slice none 0 0) (b:=w.heap.size) (aj (off:=0) (u:=.int .i64 0) (b:=w.heap.size) H (gw _)) (gw _));clear c v0;go_wp2_with fail;exact bodyPost_ret (v:=.tuple #[.agg #[.int .i64 0,.slice none 0 0],.bool false]) (by simp[results,results29,go_sem,g0,g1]) rfl ⟨_,by rw[decide_eq_false ay.out],λh=>absurd h ay.out,λ_=>rfl,m.out⟩
abbrev eD:TypeId:=44
abbrev QB:TypeId:=102
structure jX (w:World) (B pp g mp:Nat) (xs:List Nat):Prop where
 is:Is w pp #[.pointer (some ⟨mp,0,none⟩),.slice (some ⟨g,0,none⟩) xs.length xs.length] QB
 row:∃vals:List Value,w.ownsRow B eD 1 (.slice (some ⟨g,0,none⟩) xs.length xs.length) xs.length vals/\∀k (hk:k<xs.length),∃a n c,vals[k]? = some (.slice a n c)/\bT w (.agg #[.slice a n c]) xs[k]
def jX.mono {w':World} {f:Nat} {e:List Nat} (h:jX w B f g i e) (d:Below w.heap.size w w'):jX w' B f g i e:=by
 obtain⟨l,b,q,p⟩:=h;refine⟨l.mono d,b,aH q d,λk o=>?_⟩;obtain⟨a,n,c,m,j⟩:=p k o;exact⟨a,n,c,m,j.mono d⟩
def jX.at_ {l:Nat} {b:List Nat} (h:jX w B i g l b) {k:Nat} (o:k<b.length):∃a n c,w.cell? ⟨g,k,none⟩=some (.slice a n c)/\bT w (.agg #[.slice a n c]) b[k]:=by
 obtain⟨r,e,q,p⟩:=h;obtain⟨a,n,c,m,f⟩:=p k o;obtain⟨_,_,d,_,_,_,_,j⟩:=dz q (by omega);injection d with d _ _;cases d;exact⟨a,n,c,j _ _ m,f⟩
def aag {mp PB X:Nat} (h:dP w B mp dp K l) (hl:l.length<9000) (j:dO (bq K l)<=16384) {i:List Nat} (U:jX w PB X g mp i) (q:i.length=dO (bq K l)) (Q:AA w v s) (R:eQ (bq K l) s) :
 Calls prog 19 #[.pointer (some ⟨X,0,none⟩),v] w λe w'=>∃r,e=.returned r/\bT w' r (i.getD (fK (bq K l) s) 0)/\Below w.heap.size w w':=by
 obtain⟨sv,rfl,n⟩:=id Q;obtain⟨M,O,rfl,_,_⟩:=bG.out n.any;obtain⟨m,Z⟩:=ae ((bO (nz s.2)).length);rw[<-Z] at Q n⊢;have c:=dH (w:=w) (.cells #[.int .i64 (s.1:Nat),.slice M m O] 54) (.cells #[.slice none 0 0] eD);have a:=nD R;rw[<-q] at a;obtain⟨L,P,J,p,t⟩:=U.at_ a;have f:i.getD (fK (bq K l) s) 0=i[fK (bq K l) s]:=by rw[ic,gA a];rfl
 rw[f];have N:=aa (λ(W:World) (E:Below w.heap.size w W)=>OW (h.mono E) hl j (Q.mono E) R);obtain⟨x,hx⟩:=ae (i[fK (bq K l) s]);obtain⟨ix,D⟩:=ae (fK (bq K l) s);rw[<-hx] at t⊢;simp only[<-D] at N p a;obtain⟨nx,y⟩:=ae i.length;have z:=U.is;rw[<-y] at z a;have:nx<=16384:=by rw[y,q];exact j
 obtain⟨k,hk⟩:=ae s.1;rw[<-hk] at c N⊢;have S:Is _ w.heap.size #[.int .i64 (k:Nat),.slice M m O] 54:=(Is.new w _ _).mono (ah (.cells #[.slice none 0 0] eD));have V:Is _ (w.heap.size+1) #[.slice none 0 0] eD:=Is.new' (w.alloc (.cells #[.int .i64 (k:Nat),.slice M m O] 54)) _ _ _ (by simp);clear h U n Q Z hx D y R hk f j q;go_enter func19,ntmps19;go_wp2_with fail;generalize (w.alloc (.cells #[.int .i64 (k:Nat),.slice M m O] 54)).alloc (.cells #[.slice none 0 0] eD)=w0 at *;have A:=c.size;have T:=c.trans ((ag w0).mono A);have C:=aa (N.out w0.drew T);have e0:=S.gd 0 rfl;have e1:=S.gd 1 rfl;have p0:=Gr.cell (ag w0) ((z.mono c).at 0 rfl);refine aC (Array.replicate 11 true) 11 0 mixed ?_;refine ay [0,1,2,3,4] 6 ?_
 iterate 5 (refine aA rfl ?_;go_big_quiet_step (rfl))
 refine az ?_;refine aI 5 ?_;go_wp2_with fail;refine C.out.mono ?_;rintro e w3⟨rfl,G⟩;go_wp2_with fail;refine aF G ?_;refine ay [6,7,8,9,10] 0 ?_
 iterate 5 (refine aA rfl ?_;go_big_quiet_step (rfl))
 refine az ?_;refine aJ [] ?_;refine tail_nil ?_;have I:=(ag w0).trans G;have d:=c.trans (I.mono A);have:=d.size;have F:=V.mono I;have:=(z.mono d).at 1 rfl;have:=aB d p;have:=F.at 0 rfl;have:=F.frozen 0;have Y:=F.set 0 (.slice L P J);have g0:=Y.at 0 rfl;have hN:=aa (bT.iQ (t.mono d) (bJ.put (o:=0) F (.slice L P J)) (by decide));have H:=aa (aj (off:=0) (u:=.slice L P J) (b:=w.heap.size+1) d (by omega));clear N C e0 e1 p0 F Y t p S V;go_wp2_with fail;exact bodyPost_ret (v:=.agg #[.slice L P J]) (by simp[results,results19,go_sem,g0]) rfl ⟨_,rfl,hN.out,H.out⟩
def Tf (R:List bS) (nS:eZ->Nat->Option eZ) (xs:List Nat) (s:eZ) (c:Nat):Nat:=match nS s c with|some s'=>xs.getD (fK R s') 0|none=>0
def aah {R:List bS} {nS:eZ->Nat->Option eZ} {a:List Nat} {P:Nat} (h:∀x∈a,x<=P) (s:eZ) (c:Nat):Tf R nS a s c<=P:=by
 unfold Tf
 split
 ·rename_i d _;rw[ic];by_cases b:fK R d<a.length
  ·rw[gA b];exact h _ (gx b)
  rw[pD (by omega)];exact gW _
 exact gW _
def sF (h:x<=1000000*Go.Cd.B ^ n):(bY Go.Cd.B x).length<=n+1:=by
 rw[cZ bE,yi];exact lf h (vd (by unfold Go.Cd.B;decide) (th (by unfold Go.Cd.B;decide)))
def l5 (h:x<=Go.Cd.B ^ n):(bY Go.Cd.B x).length<=n+1:=sF (gS h (Nat.le_mul_of_pos_left _ (by decide)))
def Cw {M:Nat} (h:x<=Go.Cd.B ^ c) (a:c<=M):(bY Go.Cd.B x).length<=M+1:=l5 (gS h (kf (by unfold Go.Cd.B;decide) a))
def tP:Nat:=16384
def Wy {f:Nat->Nat} {j:Nat} (a:j<l.length):((l.take (j+1)).map f).sum=((l.take j).map f).sum+f l[j]:=by
 rw[gE a,js,sg];simp
def Cx (b:T.length<1000) (c:l.length<400) (a:eQ (bq K l) s) (F:Nat->List Nat):(b_ (pO K F (uY T) (bq K l) s)).length<=802000:=by
 rw[fP];have:=Cr (bq K l) s;have:=((fD K l).2.2 _ (show aL (bq K l) s.1∈bq K l by rw[df a.lt];exact gx _)).1;refine gS (sD (λx=>gS (lp _ _) (Qz b x)) _) ?_;omega
def Tg {MB mp PB pp:Nat} (hD:cK w dp T X) (hV:aY T X) (zT:T.length<1000) (h:dP w MB mp dp (ai T) l) (hl:l.length<400) (bx:∀c∈l,aP c) (bl:dO (bq (ai T) l)<=16384) {xs:List Nat} (hp:jX w PB pp g mp xs) (bu:xs.length=dO (bq (ai T) l)) (a5:∀x∈xs,x<=Go.Cd.B ^ tP) (hi:i<dO (bq (ai T) l)) :
 Calls prog 46 #[.pointer (some ⟨pp,0,none⟩),.int .i64 i] w λe w'=>∃r,e=.returned r/\bT w' r (jk (bq (ai T) l) (λs=>b_ (pO (ai T) (aD T) (uY T) (bq (ai T) l) s)) (fw (ai T) (aD T) (bq (ai T) l)) xs i)/\Below w.heap.size w w':=by
 have aW:=ah (w:=w) (.cells #[.slice none 0 0] eD);have D:=uW hi
 have SA:=aa ((OX (h.mono aW) (by omega) bl (show i<16384 by omega)).mono (R':=λe w'=>∃v,e=.returned (.tuple #[v,.bool true])/\AA w' v (sW (bq (ai T) l) i)/\Below (w.alloc (.cells #[.slice none 0 0] eD)).heap.size (w.alloc (.cells #[.slice none 0 0] eD)) w') (by
  rintro e w'⟨v,rfl,h1,_,h3⟩
  exact⟨v,by rw[decide_eq_true hi],h1 hi,h3⟩))
 have bd:jk (bq (ai T) l) (λs=>b_ (pO (ai T) (aD T) (uY T) (bq (ai T) l) s)) (fw (ai T) (aD T) (bq (ai T) l)) xs i=if Co (bq (ai T) l) (sW (bq (ai T) l) i)=true then 1 else ((b_ (pO (ai T) (aD T) (uY T) (bq (ai T) l) (sW (bq (ai T) l) i))).map (Tf (bq (ai T) l) (fw (ai T) (aD T) (bq (ai T) l)) xs (sW (bq (ai T) l) i))).sum:=rfl;rw[bd];obtain⟨s,hs⟩:=ae (sW (bq (ai T) l) i);rw[<-hs] at D SA⊢;have OV:=aa (λ(W:World) (E:Below w.heap.size w W) (u:Value) (hu:AA W u s)=>Tc (h.mono E) (by omega) hu D);have OP:=aa (λ(W:World) (E:Below w.heap.size w W) (u:Value) (hu:AA W u s)=>Im (hD.mono E) hV zT (h.mono E) hl bx hu D);have ST:=aa (λ(W:World) (E:Below w.heap.size w W) (u:Value) (hu:AA W u s) (c:Nat) (hc:aP c)=>FZ (hD.mono E) hV zT (h.mono E) (by omega) hu D c hc);have AT:=aa (λ(W:World) (E:Below w.heap.size w W) (u:Value) (p:eZ) (hu:AA W u p) (bM:eQ (bq (ai T) l) p)=>aag (h.mono E) (by omega) bl (hp.mono E) bu hu bM);have a8:∀(c:Nat) (p:eZ),fw (ai T) (aD T) (bq (ai T) l) s c=some p->eQ (bq (ai T) l) p:=λc p h=>Cq D h;have a4:∀c∈b_ (pO (ai T) (aD T) (uY T) (bq (ai T) l) s),aP c/\∃p,fw (ai T) (aD T) (bq (ai T) l) s c=some p:=λc hc=>by
  rw[xQ] at hc;obtain⟨x,hx,hc⟩:=lP.1 hc;have h1:=iJ.1 hc;exact⟨QA hV (Cv (Qy (ai T) bx) s x hx) c h1.1,wj.1 h1.2⟩
 have bw:=Cx zT hl D (aD T);have aR:=λc=>aah (R:=bq (ai T) l) (nS:=fw (ai T) (aD T) (bq (ai T) l)) a5 s c;have aB:∀c p,fw (ai T) (aD T) (bq (ai T) l) s c=some p->Tf (bq (ai T) l) (fw (ai T) (aD T) (bq (ai T) l)) xs s c=xs.getD (fK (bq (ai T) l) p) 0:=λc p h=>by unfold Tf;rw[h]
 obtain⟨O,hO⟩:=ae (b_ (pO (ai T) (aD T) (uY T) (bq (ai T) l) s));obtain⟨ov,bz⟩:=ae (Co (bq (ai T) l) s);obtain⟨f,hf⟩:=ae (Tf (bq (ai T) l) (fw (ai T) (aD T) (bq (ai T) l)) xs s);simp only[<-hO,<-bz,<-hf] at OV OP a4 bw aR aB⊢;have bI:=aa a8;have wN:=aa a4;have Ow:=aa aR;have bZ:=aa aB;have:=aa a5;have au:=hp.is;have k0:=Is.new w #[.slice none 0 0] eD;have bH:=(au.mono aW).at 0 rfl;obtain⟨a6,V⟩:=ae (if ov=true then 1 else (O.map f).sum);rw[<-V];have rE:=aa V;have:w.heap.size+1<=(w.alloc (.cells #[.slice none 0 0] eD)).heap.size:=by simp
 clear hD h hp bu a5 hi D bd hs a8 a4 aR aB hO bz hf V;go_enter func46,ntmps46;go_wp2_with fail;refine SA.out.mono ?_;rintro e w1⟨v1,rfl,aw,aZ⟩;generalize w.alloc (.cells #[.slice none 0 0] eD)=w0 at *;have bC:=af aW aZ;have k0:=k0.mono aZ;obtain⟨sv,rfl,bt⟩:=id aw;obtain⟨sa,sc,rfl,_,_⟩:=bG.out bt.any;obtain⟨m,hm⟩:=ae ((bO (nz s.2)).length);obtain⟨k,hk⟩:=ae s.1;rw[<-hm,<-hk] at aw⊢;have al:=ah (w:=w1) (.cells #[.int .i64 (k:Nat),.slice sa m sc] 54);have Z:=Is.new w1 #[.int .i64 (k:Nat),.slice sa m sc] 54;have U:=af bC al;have:=aZ.size;clear SA bt hm hk bH;go_wp2_with fail;obtain⟨w2,aS⟩:=ae (w1.alloc (.cells #[.int .i64 (k:Nat),.slice sa m sc] 54));rw[<-aS] at al Z U⊢;have:w1.heap.size+1<=w2.heap.size:=by rw[aS];simp
 clear aS;have a_:=aw.mono al;have k0:=k0.mono al;have br:=U.size;have ax:=U.trans ((ag w2).mono br);have a7:=aa (OV.out w2.drew ax _ (a_.mono (ag w2)));have p0:=Gr.cell (ag w2) ((au.mono U).at 0 rfl);have e0:=Z.gd 0 rfl;have e1:=Z.gd 1 rfl;refine aC (Array.replicate 6 true) 6 0 mixed ?_;refine ay [0,1,2,3,4] 1 ?_
 iterate 5 (refine aA rfl ?_;go_big_quiet_step (rfl))
 refine az ?_;refine aI 5 ?_;go_wp2_with fail;refine a7.out.mono ?_;rintro e C⟨rfl,bk⟩;go_wp2_with fail;refine aF bk ?_;refine aJ [] ?_;refine tail_nil ?_;have I:=(ag w2).trans bk;have P:=U.trans (I.mono br);have k0:=k0.mono I;have Z:=Z.mono I;have bj:=a_.mono I;have ad:=P.size;have:=I.size;clear OV a7 p0 e0 e1;cases ov with
 | true=>
   have Q:a6=1:=rE.out;have aK:=aa Q;clear Q;go_wp2_with fail;refine(uf 1 (by decide) C).mono ?_;rintro e w4⟨r4,rfl,ac,A⟩;obtain⟨ua,un,uc,rfl,ac⟩:=ac.out;have K:=k0.mono A;have f0:=K.at 0 rfl;have q0:=K.frozen 0;have v0:=K.set 0 (.slice ua un uc);have g0:=v0.at 0 rfl;have G:=P.trans (A.mono ad);have hN:=aa (bT.iQ ac (bJ.put (o:=0) K (.slice ua un uc)) (by decide));have L:=aa (aj (off:=0) (u:=.slice ua un uc) (b:=w.heap.size) G (gw _));clear K v0 ac;go_wp2_with fail;refine bodyPost_ret (v:=.agg #[.slice ua un uc]) (by simp[results,results46,go_sem,g0]) rfl ⟨_,rfl,?_,L.out⟩;rw[aK.out];exact hN.out
 | false=>
   have Q:a6=(O.map f).sum:=by rw[rE.out];exact if_neg (by simp)
   have aK:=aa Q;clear Q;have A:=ah (w:=C) (.cells #[.slice none 0 0] eD);have kA:=Is.new C #[.slice none 0 0] eD;have G:=P.trans (A.mono ad);have bD:=Z;have bP:=bj;have Z:=Z.mono A;have bX:=bj.mono A;have aO:bT (C.alloc (.cells #[.slice none 0 0] eD)) (.agg #[.slice none 0 0]) 0:=⟨_,rfl,by rw[di];exact .nil _ _ _ _ (λ_=>rfl)⟩;have:C.heap.size+1<=(C.alloc (.cells #[.slice none 0 0] eD)).heap.size:=by simp
   go_wp2_with fail;generalize C.alloc (.cells #[.slice none 0 0] eD)=w4 at *;have bp:=G.size;have ax:=G.trans ((ag w4).mono bp);have bs:=aa (OP.out w4.drew ax _ (bX.mono (ag w4)));have p0:=Gr.cell (ag w4) ((au.mono G).at 0 rfl);have e0:=Z.gd 0 rfl;have e1:=Z.gd 1 rfl;refine aC (Array.replicate 8 true) 8 0 mixed ?_;refine ay [0,1,2,3,4,7] 2 ?_
   iterate 6 (refine aA rfl ?_;go_big_quiet_step (rfl))
   refine az ?_;refine aI 5 ?_;go_wp2_with fail;refine bs.out.mono ?_;rintro e w5⟨ro,rfl,oO,bf⟩;obtain⟨n,hn⟩:=ae O.length;rw[<-hn] at oO bw;have HN:=aa hn;clear hn;obtain⟨a1,c1,rfl,_,_⟩:=ak oO;go_wp2_with fail;refine aF bf ?_;refine ay [6] 0 ?_
   iterate 1 (refine aA rfl ?_;go_big_quiet_step (rfl))
   refine az ?_;refine aJ [] ?_;refine tail_nil ?_;have ab:=(ag w4).trans bf;have:=G.trans (ab.mono bp);have bm:=af A ab;have kA:=kA.mono ab;have aO:=aO.mono ab;have:Below C.heap.size C w5:=bm;have oO:=aT oO (show C.heap.size<=w4.drew.heap.size from A.size);have OO:=aa oO;clear OP bs p0 e0 e1 oO;go_wp2_with fail;go_loopw [9,10,11,35] (λ_ _ _ jv wr=>∃j:Nat,j<=n/\jv=.int .i64 j/\(∃a q c,Is wr C.heap.size #[.slice a q c] eD/\bT wr (.agg #[.slice a q c]) ((O.take j).map f).sum)/\wr.ownsRow C.heap.size aN 1 (.slice a1 n c1) n (aM O)/\Below C.heap.size C wr) (λ_ _ _ jv _=>n-(intOf jv).toNat)
   case atStart=>exact⟨0,gW _,rfl,⟨_,_,_,kA,aO⟩,OO.out,bm⟩
   case round=>
    obtain⟨j,hj,rfl,⟨qa,qn,qc,jA,Ti⟩,J,hE⟩:=hrel;have ji:=P.trans (hE.mono ad);have Je:=ji.size;have bW:=hE.size;by_cases b2:j<n
    ·have zj:=eG (show j<n by omega);obtain⟨rb,Vd,he,_,_,_,_,F⟩:=dz J (show 0<n by omega);injection he with bE _ bS;subst bE bS;have an:j<O.length:=by have:=HN.out;omega
     have cy:=F j (.int .i32 (O[j]:Nat)) (by rw[gA (by rw[bF];exact an),dR _ _ an]);obtain⟨be,p,am⟩:=wN.out _ (gx an);have z:=Wy (f:=f) an;have aQ:((O.take j).map f).sum<=1000000*Go.Cd.B ^ tP:=by
      refine gS (Ij f (Go.Cd.B ^ tP) (O.take j) λc _=>Ow.out c) (nh _ ?_);rw[iS];omega
     have aX:=bZ.out _ _ am;have ao:f O[j]<=Go.Cd.B ^ tP:=Ow.out _;obtain⟨y,hy⟩:=ae (O[j]);rw[<-hy] at cy be am z aX ao;obtain⟨S,hS⟩:=ae (((O.take j).map f).sum);rw[<-hS] at Ti z aQ;obtain⟨t,ht⟩:=ae (f y);rw[<-ht] at z aX ao;have:(bY Go.Cd.B S).length<=16385:=sF (n:=tP) aQ;have:(bY Go.Cd.B t).length<=16385:=l5 (n:=tP) ao;have u_:=aa z;have aE:=bD.mono hE;have bb:=bP.mono hE;clear F hy hS ht z aQ ao;go_wp2_with fail;have e0:=aE.gd 0 rfl;have e1:=aE.gd 1 rfl;have p0:=Gr.cell (ag wr) ((au.mono ji).at 0 rfl);refine La #[true,true,true,true,true,true,true,true,false,false,false,false,false] [10] [8,9] (λ_ v W=>∃k,v=.pointer (some ⟨k,0,none⟩)/\W.heap[k]? = some (.cells #[.int .i64 0,.slice none 0 0] 54)) rq 8 4 mixed (by rfl) (by kernel_rfl) (λ_ _ _ _ hb h=>wV hb h) ?_ ?_
     ·intro i hi o ho;simp only[jf,km,or_false] at hi;subst hi;cases ho;exact wU rfl rfl (λW=>by go_simp)
     refine oC [0,1,2,3,4,5] 2 ?_
     iterate 6 (refine aA rfl ?_;go_big_quiet_step (rfl))
     refine az ?_;refine pI 6 ?_;intro wa RJ;have H:=(ag wr).trans RJ;have av:=ji.trans (H.mono Je);have bR:=av.size;go_wp2_with fail;refine(ST.out wa av _ (bb.mono H) y be).mono ?_;rintro e wc⟨bh,ap⟩;rw[am] at bh;obtain⟨v2,rfl,ar⟩:=bh;obtain⟨b8,rfl,Tj⟩:=id ar;obtain⟨a2,c2,rfl,_,_⟩:=bG.out Tj.any;obtain⟨m2,ba⟩:=ae ((bO (nz p.2)).length);obtain⟨kk,bv⟩:=ae p.1;rw[<-ba,<-bv] at ar⊢;clear Tj ba bv;go_wp2_with fail;refine aF ap ?_;refine oC [7] 0 ?_;refine aA rfl ?_;go_big_quiet_step (rfl);refine az ?_;refine aa3 [8,9,11,12] ?_;intro W Wb us hR hD;obtain⟨⟨Y,hv,hh⟩,aq,aU⟩:=hR 10 (by simp);rw[hv] at aq aU;simp only[rq] at aq aU;rw[ru (d:=some 10) rfl,hv];have:wr.heap.size<=Y:=aq;have N:Below wr.heap.size wr W:=H.trans ((ap.trans (Wb.mono ap.size)).mono H.size);have iY:Is W Y #[.int .i64 0,.slice none 0 0] 54:=⟨hh⟩;have a0:=iY.at 0 rfl;have bK:=iY.at 1 rfl;have b0:=iY.frozen 0;have b1:=iY.frozen 1;have ch:=(bJ.put (o:=0) iY (.int .i64 (kk:Nat))).trans (bJ.put (o:=1) (iY.set 0 (.int .i64 (kk:Nat))) (.slice a2 m2 c2));have M:=aa ((iY.set 0 (.int .i64 (kk:Nat))).set 1 (.slice a2 m2 c2));have bc:=aa (Qu.OC (ar.mono Wb) ch (by decide));have bi:=aa (ch.is (jA.mono N) (by decide));have bQ:=aa (bT.iQ (Ti.mono N) ch (by decide));have bN:=aa (ch.own (aH J N) (by decide));have:C.heap.size<wr.heap.size:=jA.lt;have bg:=aa (aj (off:=1) (u:=.slice a2 m2 c2) (b:=Y) (aj (off:=0) (u:=.int .i64 (kk:Nat)) (b:=Y) (hE.trans (N.mono bW)) (by omega)) (by omega));clear iY ch hR hD e0 e1 p0 hv hh aq aU RJ H av bR ap Wb ar N Ti J aE bb cy;refine uO (os:=[_,_,_,_]) rfl ?_;go_wp2_with fail;refine uP ?_;clear a0 bK b0 b1;generalize (W.setCell ⟨Y,0,none⟩ (.int .i64 (kk:Nat))).setCell ⟨Y,1,none⟩ (.slice a2 m2 c2)=w6 at *;have M:=M.out;have aL:=bi.out;have a3:=bg.out;have bo:=P.trans (a3.mono ad);have bB:=bo.size;have bn:=aa (AT.out w6.drew (bo.trans ((ag w6).mono bB)) _ p (bc.out.mono (ag w6)) (bI.out y p am));rw[<-aX] at bn;have e0:=aL.gd 0 rfl;have e1:=M.gd 0 rfl;have e2:=M.gd 1 rfl;clear bc bi bg;go_wp2_with fail;refine aC #[true,true,true,true,true,false] 5 1 mixed ?_;refine ay [0,1,2] 2 ?_
     iterate 3 (refine aA rfl ?_;go_big_quiet_step (rfl))
     refine az ?_;refine aI 3 ?_;go_wp2_with fail;refine bn.out.mono ?_;rintro e w7⟨r7,rfl,OZ,jh⟩;have a9:=(ag w6).trans jh;go_wp2_with fail;refine aF jh ?_;refine aI 4 ?_;go_wp2_with fail;refine(Oo (bQ.out.mono a9) OZ (by omega) (by omega)).mono ?_;rintro e w8⟨r8,rfl,O4,iH⟩;obtain⟨ua,un,uc,rfl,O4⟩:=O4.out;have aV:=af a9 iH;go_wp2_with fail;refine aF iH ?_;have Wz:=aL.mono aV;have f0:=Wz.at 0 rfl;have q0:=Wz.frozen 0;have bA:=a3.size;have bU:=aa (Wz.set 0 (.slice ua un uc));have ch:=bJ.put (o:=0) Wz (.slice ua un uc);have bV:=aa (bT.iQ O4 ch (by decide));have bL:=aa (ch.own (aH bN.out aV) (by decide));have yf:=aa (aj (off:=0) (u:=.slice ua un uc) (b:=C.heap.size) (a3.trans (aV.mono bA)) (gw _));clear ch Wz O4 OZ aL M e0 e1 e2 jh iH;refine aJ [5] ?_;refine tail_cons rfl ?_;go_wp2_with fail;refine tail_nil ?_;go_wp2_with fail;go_roundw
     case rel=>exact⟨j+1,by omega,by simp,⟨_,_,_,bU.out,by rw[u_.out];exact bV.out⟩,bL.out,yf.out⟩
     case measure=>simp[intOf];omega
    have zj:=gI (show n<=j by omega);obtain rfl:j=n:=by omega
    have ht:O.take j=O:=ie (by rw[<-HN.out];exact gw _);rw[ht,<-aK.out] at Ti;have:=jA.at 0 rfl;have K:=k0.mono hE;have f0:=K.at 0 rfl;have q0:=K.frozen 0;have v0:=K.set 0 (.slice qa qn qc);have g0:=v0.at 0 rfl;have hN:=aa (bT.iQ Ti (bJ.put (o:=0) K (.slice qa qn qc)) (by decide));have L:=aa (aj (off:=0) (u:=.slice qa qn qc) (b:=w.heap.size) ji (gw _));clear K v0 Ti ht;go_wp2_with fail;exact bodyPost_ret (v:=.agg #[.slice qa qn qc]) (by simp[results,results46,go_sem,g0]) rfl ⟨_,rfl,hN.out,L.out⟩
end Go.Proofs.YtmnimbnojdndmaaGreatDoor
namespace Go.Cd
section
open Go.RowKit
section
variable {l n : Nat} {P : Program} {ops : Array Oper} {Q : Exit -> Act -> World -> Prop} {md : Region.Mode}
def aaj {o:Oper} {a:Act} {K:Act->World->Prop} {r:Result Next} (h:o.upon P a K Q r):o.uponIn (Fence.wide.inRound l) n P a K Q r:=by
 have hd:(Fence.wide.inRound l).depth.isSome=true->1<=n:=λh=>by cases h
 cases r with
 | ok x w'=>
   cases x with
   | value v=>exact h
   | skip=>exact h
   | defer d=>exact h
   | enter f args=>exact⟨hd,(callsIn_wide (n:=n-1)).2 h⟩
   | row row args=>exact⟨hd,λc cs _=>by
      obtain⟨v,e,g,b⟩:=h c cs
      exact⟨v,e,g,stepsIn_wide.2 b⟩⟩
   | _=>exact absurd h (by simp[Oper.upon])
 | halt x w'=>cases x <;> exact h
def aak {i:Nat} {K:Act->World->Prop} {a:Act} {w:World} (hd:∀(i:Nat) (o:Oper),ops[i]? = some o->∀c,o.op≠.defer c) (e:¬LetsOut Q) (h:wpOp P ops Q i K a w):wpOpIn (Fence.wide.inRound l) n P ops Q i K a w:=by
 unfold wpOp at h;unfold wpOpIn;cases b:ops[i]? with
 | none=>rw[b] at h;exact h
 | some o=>
   rw[b] at h;simp only at h⊢;by_cases d:Region.wanted o (yielded ops a.tmps)=true
   ·rw[if_pos d] at h⊢;rcases h with h|h
    ·refine⟨λ_ _=>trivial,?_⟩;have:Oper.semAt (Fence.wide.inRound l).round a.eval o=execOp a.eval o:=Oper.semAt_some l _ _ (hd i o b);rw[this];exact aaj h
    exact absurd h.2 e
   rw[if_neg d] at h⊢;exact⟨λ_ _=>trivial,h⟩
def LG (hd:∀(i:Nat) (o:Oper),ops[i]? = some o->∀c,o.op≠.defer c) (e:¬LetsOut Q):∀(d:Nat) (b:Array Bool) (a:Act) (w:World),wpAny P md ops Q d b a w->wpAnyIn (Fence.wide.inRound l) n P md ops Q d b a w
 | 0,_,_,_,h=>h
 | d+1,b,a,w,h=>⟨h.1,λi f=>wpOpIn_mono (λa w=>LG hd e d _ a w) (aak hd e (h.2 i f))⟩
end
def abM:Op->Bool
 | .defer _=>false
 | _=>true
def Tk {os:List Oper} (h:os.all (λo=>abM o.op)=true) (i:Nat) (o:Oper) (a:os.toArray[i]? = some o) (c:Call):o.op≠.defer c:=λe=>by
 have b:o∈os:=by
  rw[tD] at a;exact lA a
 have:=lr.1 h o b;rw[e] at this;cases this
def D_ {l n:Nat} {P:Program} {b:Nat} {Q:Exit->Act->World->Prop} {a:Act} {w:World} {os:List Oper} (head:Array Bool) (k t:Nat) (e:P.follows .mixedOrders=true) (d:k+t=os.length)
 (hd:os.all (λo=>abM o.op)=true) (c:¬LetsOut Q)
 (h:QX P .any os.toArray head Q (λl' a w=>wpAny P .any os.toArray Q t l' a w) k (Array.replicate os.length false) a w.drew):(Code.region b os.toArray true).wpIn (Fence.wide.inRound l) n P Q a w:=by
 refine wpIn_region_any e ?_;refine LG (Tk hd) c _ _ _ _ ?_;have:=AR k _ _ _ h;rw[d] at this;simpa using this
def KeepsOthers.of_below {A B:World} (h:Below A.heap.size A B):KeepsOthers A B:=⟨h.size,λk _ a _=>(h.block k (jt.1 a).1).trans a⟩
end
end Go.Cd
namespace Go.Proofs.YtmnimbnojdndmaaGreatDoor
section
open Go.RowKit Go.Cd Go.Shelf _root_.Go.Proofs.Tryz
attribute [local go_sem] Oper.semAt_some
structure ui (Bs b n:Nat) (A B:World):Prop where
 box:B.cell? ⟨Bs,0,none⟩=A.cell? ⟨Bs,0,none⟩
 row:∀j,j<n->(∃a m c,A.cell? ⟨b,j,none⟩=some (.slice a m c))->∃a m c,B.cell? ⟨b,j,none⟩=some (.slice a m c)
def ui.refl (Bs b n:Nat) (A:World):ui Bs b n A A:=⟨rfl,λ_ _ h=>h⟩
def ui.trans {Bs b n:Nat} {A B C:World} (h:ui Bs b n A B) (k:ui Bs b n B C):ui Bs b n A C:=⟨k.box.trans h.box,λj a c=>k.row j a (h.row j a c)⟩
abbrev BN (n:Nat):Type:={ x:Nat×Value // x.1<n }
def adi (F:Fence) (m:Nat) (G:F.fn 84) (w:F.round=none) (U:1<=m) (l Bs b n cap:Nat) (A:n<1099511627776) (J B:List (BN n)->World->Prop)
 (Q:∀d x W,J d W->d.length<n->YieldAt F (m-1) prog l #[.int .i64 (x.1.1:Nat),x.1.2] W λe o=>
   (e=.returned (.bool true)/\J (d++[x]) o/\ui Bs b n W o)\/(e=.returned (.bool false)/\B (d++[x]) o))
 (W:World) (M:W.cell? ⟨Bs,0,none⟩=some (.slice (some ⟨b,0,none⟩) n cap)) (S:∀j,j<n->∃a m c,W.cell? ⟨b,j,none⟩=some (.slice a m c)) (h0:J [] W) :
 CallsIn F m prog 84 #[.func (.yield l) #[] #[],.pointer (some ⟨Bs,0,none⟩)] W λe o=>(∃v,e=.returned v)/\
  ((∃C:List (BN n),C.map (λx=>x.1.1)=mE id n n/\J C o)\/(∃d:List (BN n),True/\B d o)):=by
 refine callsIn_of_wp func84 rfl G ?_ w;simp only[ntmps84,py,hU,ki,Nat.reduceAdd,Nat.reduceSub,ot,oe,pz,oR,ks,ld]
 gi_wp2
 gi_loopw [3] (λi wr=>∃(k:Nat) (d:List (BN n)),k<=n/\i=.int .i64 ((n:Int)-1-(k:Int))/\d.map (λx=>x.1.1)=mE id n k/\J d wr/\ui Bs b n W wr)
  (λi _=>(intOf i+1).toNat)
 case atStart=>exact⟨0,[],gW _,by simp,by simp[mE],h0,ui.refl _ _ _ _⟩
 case round=>
  obtain⟨k,d,Y,rfl,f,q,h⟩:=hrel;have u:=h.box.trans M;have I:d.length=k:=by have:=congrArg List.length f;simpa [zu] using this
  by_cases O:k<n
  ·obtain⟨i,D⟩:∃i:Nat,(n:Int)-1-(k:Int)=(i:Int):=⟨n-1-k,by omega⟩;have g:i<n:=by omega
   have s:n-1-k=i:=by omega
   obtain⟨R,P,L,N⟩:=h.row i g (S i g);obtain⟨T,tmps,assign,body,V,K⟩:=Q _ (⟨(i,.agg #[.slice R P L]),g⟩:BN n) wr q (by omega);have z:=aa f;have r:=aa s;rw[D];clear D f s
   gi_wp2
   refine K.mono ?_;rintro e X (⟨rfl,y,t⟩|⟨rfl,p⟩)
   ·have E:=t.box.trans u
    gi_wp2
    go_roundw
    case rel=>exact⟨k+1,_,by omega,congrArg (Value.int .i64) (by have:=r.out;omega),by rw[aaV,r.out,js,z.out];rfl,y,h.trans t⟩
    case measure=>simp[intOf]
   gi_wp2
   refine bodyPost_ret (results_none rfl _ _ _) rfl ?_;exact⟨⟨_,rfl⟩,.inr ⟨_,trivial,p⟩⟩
  obtain rfl:k=n:=by omega
  have H:(k:Int)-1-(k:Int)=-1:=by omega
  rw[H]
  gi_wp2
  go_end0
  exact⟨⟨_,rfl⟩,.inl ⟨_,f,q⟩⟩
def Io (v:Value) (w:World) (b:∃a n cap,v=.slice a n cap) :
 Calls prog 45 #[v] w λe w'=>e=.returned (.func (.func 84) #[] #[.pointer (some ⟨w.heap.size,0,none⟩)])/\w'=w.alloc (.cells #[v] 100):=by
 obtain⟨a,n,cap,rfl⟩:=b;go_enter func45,ntmps45;go_wp2;go_ret;exact⟨rfl,rfl⟩
def LH (F:Fence) (m:Nat) (t:F.fn 84) (f:F.round=none) (o:1<=m) (Bs b n cap:Nat) (e:n<1099511627776) (w:World) (r:Bs<w.heap.size) (u:b<w.heap.size)
 (d:w.cell? ⟨Bs,0,none⟩=some (.slice (some ⟨b,0,none⟩) n cap)) (s:∀j,j<n->∃a m c,w.cell? ⟨b,j,none⟩=some (.slice a m c)) :
 SeqStopsK F m prog 84 #[.pointer (some ⟨Bs,0,none⟩)] (λx:BN n=>#[.int .i64 (x.1.1:Nat),x.1.2]) (ui Bs b n) (λv=>v.map (λx=>x.1.1)=mE id n n) (λ_=>True) n w:=λl J i W g _ _ q h0=>
 adi F m t f o l Bs b n cap e J i q W ((g.cell (p:=⟨Bs,0,none⟩) r).trans d) (λj k=>by
  obtain⟨a,m,c,h⟩:=s j k
  exact⟨a,m,c,(g.cell (p:=⟨b,j,none⟩) u).trans h⟩) h0
end
section
open Go.RowKit Go.Cd Go.Shelf _root_.Go.Proofs.Tryz
attribute [local go_sem] Oper.semAt_some
def abN:mV prog 100 eD (.agg #[.slice none 0 0]) 1 24:=⟨rfl,underlying100,info_parts (by kernel_rfl)⟩
def Ag {w:World} {ops:Array Oper} {rest:List Oper} {o:Oper} {a:Act} {Q:Exit->Act->World->Prop} (s:o.guard=none) (l c:Operand) (e:o.op=Op.makeSlice 100 l c) (base:Nat)
 (f g:IntKind) (L C:Int) (n:Nat) (v:a.eval l=.int f L) (x:a.eval c=.int g C) (y:L=(n:Int)) (q:C=(n:Int)) (z:n<1000000) (u:base<=w.heap.size)
 (k:∀w',w'.ownsRow base eD 1 (.slice (some ⟨w.heap.size,0,none⟩) n n) n (List.replicate n (.slice none 0 0))->w.grownBy w' none->wpList prog ops Q rest (a.put o.dst (.slice (some ⟨w.heap.size,0,none⟩) n n)) w') :
 wpList prog ops Q (o::rest) a w:=by
 obtain⟨j,m,i,t,r,b,d⟩:=abN;refine wpList_make_full w s l c _ e base eD i _ 1 m t r b f g L C n v x y q (by rw[d];omega) (by unfold maxLen;omega) u λw' h p=>k w' ?_ p;rw[show(Value.agg #[.slice none 0 0]).cells=#[.slice none 0 0] from rfl,qK,toList_madeCells_one] at h;exact h
def pU (fr:List Nat->Nat->Nat) (n:Nat) (is:List Nat):List Nat:=is.foldl (λt i=>t.set i (fr t i)) (List.replicate n 0)
def LJ (b:List Nat->Nat->Nat) (n:Nat) (a:List Nat):(pU b n a).length=n:=by
 have:∀(a:List Nat) (t:List Nat),(a.foldl (λt i=>t.set i (b t i)) t).length=t.length:=λa=>by
  induction a with
  | nil=>intro t;rfl
  | cons i a ih=>intro t;rw[ox,ih,mN]
 unfold pU;rw[this,xT]
def F4 (a:List Nat->Nat->Nat) (n:Nat) (b:List Nat) (i:Nat):pU a n (b++[i])=(pU a n b).set i (a (pU a n b) i):=by
 unfold pU;rw[rm];rfl
def F5 (R:List bS) (opt:eZ->List Nat) (nS:eZ->Nat->Option eZ) (n:Nat):∀k,pU (jk R opt nS) n (mE id n k)=jl R opt nS n k
 | 0=>by simp[pU,mE,jl]
 | k+1=>by rw[aaV,F4,F5 R opt nS n k];rfl
def bT.QC {A B:World} {row:Option Nat} (i:A.grownBy B row) (k:∀r,row=some r->∃o:Obj,A.heap[r]? = some o/\o.isCells=false) {v:Value} {x:Nat} (h:bT A v x):bT B v x:=by
 obtain⟨s,l,a,cap,f,c,d⟩:=h;refine⟨s,l,a,cap,f,c,d.imp id ?_⟩;rintro⟨b,off,cs,e,j,g,d⟩;exact⟨b,off,cs,e,j,oh i k g,d⟩
def jX.QC {A B:World} {row:Option Nat} (e:A.grownBy B row) (d:∀r,row=some r->∃o:Obj,A.heap[r]? = some o/\o.isCells=false) {j i g l:Nat} {f:List Nat} (h:jX A j i g l f):jX B j i g l f:=by
 obtain⟨p,b,u,t⟩:=h;refine⟨⟨oh e d p.at_⟩,b,U2 e d u,λk s=>?_⟩;obtain⟨a,n,c,q,m⟩:=t k s;exact⟨a,n,c,q,bT.QC e d m⟩
def jX.store {w:World} {m l g p:Nat} {d:List Nat} (h:jX w m l g p d) {i:Nat} (C:i<d.length) {a:Option Addr} {n c x:Nat} (B:bT w (.agg #[.slice a n c]) x):jX (w.setCell ⟨g,i,none⟩ (.slice a n c)) m l g p (d.set i x):=by
 obtain⟨A,b,e,z⟩:=h;obtain⟨o,u⟩:=e.stored i (.slice a n c);have j:=bJ.bQ e u;have:b.length=d.length:=by have:=e.1;omega
 refine⟨by rw[mN];exact j.is A (by decide),b.set i (.slice a n c),by rw[mN];exact o,λk q=>?_⟩;rw[mN] at q;by_cases f:k=i
 ·subst f;refine⟨a,n,c,by rw[tA (by omega)],?_⟩;rw[List.getElem_set_self];exact bT.iQ B j (by decide)
 obtain⟨v,s,r,t,y⟩:=z k q;refine⟨v,s,r,by rw[sx (by omega)];exact t,?_⟩;rw[yd (by omega)];exact bT.iQ y j (by decide)
def jX.frozen {w:World} {f d g e:Nat} {a:List Nat} (h:jX w f d g e a) {i:Nat} (l:i<a.length):w.frozen? ⟨g,i,none⟩=false:=by
 obtain⟨k,c,b,m⟩:=h;exact(jY b (j:=i) (by have:=b.1;omega)).2
end
end Go.Proofs.YtmnimbnojdndmaaGreatDoor
