/- State by state it is added up what is possible; no condition. -/
import Derived.Test.YtmnimbnojdndmaaGreatDoorS27
import Derived.OpenShut
import Derived.DataShut
import Derived.Deep.Slices
import Derived.Deep.Strs
import Derived.SizedLaws
import Derived.Lib.LaidTab
import Derived.Lib.LaidU8
import Derived.ShapedOpen
set_option maxRecDepth 100000
set_option maxHeartbeats 6400000
set_option linter.all false
namespace Go.Proofs.YtmnimbnojdndmaaGreatDoor
open Go.RowKit Go.Cd _root_.Go.Proofs.Tryz
def ab2 {T:List aG} (a:T.length<1000) {u:List Nat} (b:u.length<400):∀x∈l6 T u,x<=Go.Cd.B ^ dO (bq (ai T) u):=
 Lx (R:=bq (ai T) u) (opt:=λs=>b_ (pO (ai T) (aD T) (uY T) (bq (ai T) u) s)) (nS:=fw (ai T) (aD T) (bq (ai T) u)) (M:=Go.Cd.B) (by unfold Go.Cd.B;decide)
  (λi c=>ia (Cx a b (uW c) _) (by unfold Go.Cd.B;decide)) _ (d' _)
def prT (T:List aG) (us:List (List Nat)) (j:Nat):Nat:=dU ((us.map λu=>(l6 T u).getD 0 0).take j)
def ab5 {T:List aG} {us:List (List Nat)} {j:Nat} (a:j<us.length):prT T us (j+1)=prT T us j*(l6 T us[j]).getD 0 0:=by
 unfold prT;rw[pM _ j (by simpa using a),m8]
def abp {w:World} (hG:nk w) {v:Value} {T0:List gX} {X0 pk mr:List Int} (h:Gq w v T0 X0 pk mr) (eW:mr.length<281474976710656) :
 Calls prog 5 #[v] w λe w'=>e=.returned (.bool true)/\Below w.heap.size w w':=by
 obtain⟨r0,x0,pv,mv,rfl,hT,hp,hm⟩:=id h;obtain⟨f4,f2,he,dN,ax⟩:=id hT;simp only[Ai,AM,oX,and_true] at he;obtain⟨rfl,rfl⟩:=he;obtain⟨ra,nt,rc,rfl⟩:∃a n c,r0=.slice a n c:=by obtain⟨a,cap,rfl,_⟩:=dN;exact⟨_,_,_,rfl⟩
 obtain⟨xa,nx,xc,rfl⟩:∃a n c,x0=.slice a n c:=by obtain⟨a,cap,rfl,_⟩:=ax.out;exact⟨_,_,_,rfl⟩
 obtain⟨pa,np,pc,rfl⟩:∃a n c,pv=.slice a n c:=by obtain⟨a,cap,rfl,_⟩:=hp.out;exact⟨_,_,_,rfl⟩
 obtain⟨ma,nm,mc,rfl⟩:∃a n c,mv=.slice a n c:=by obtain⟨a,cap,rfl,_⟩:=hm.out;exact⟨_,_,_,rfl⟩
 obtain⟨w0,bC⟩:=ae (w.alloc (.cells #[.slice ra nt rc,.slice xa nx xc,.slice pa np pc,.slice ma nm mc] 27));have cT:=aO bC;have k0:=Is.nw bC;have AW:=aa (PQ (hG.mono cT));have MD:=aa (λ(W:World) (E:Below w.heap.size w W)=>aa9 (hG.mono E).acp (h.mono E) eW 6 (by decide));have HG:=aa hG;clear hG h hT dN ax hp hm eW;go_enter func5,ntmps5;go_wp2_with fail;rw[<-bC];clear bC;refine AW.out.mono ?_;rintro e wa⟨rfl,WQ⟩;have k1:=k0.mono WQ;have co:=af cT WQ;have e0:=k1.at 0 rfl;have e1:=k1.at 1 rfl;have e2:=k1.at 2 rfl;have e3:=k1.at 3 rfl;clear AW k0 cT WQ;go_wp2_with fail;refine(MD.out wa co).mono ?_;rintro e w1⟨p,r,T,X,lv,L,rfl,hD,cf,hF,cF,YS,P,ei⟩;obtain⟨rr,rx,rfl,⟨a1,c1,rfl,_,fE⟩,ew⟩:=id cf;obtain⟨a2,n2,c2,rfl⟩:∃a n c,rx=.slice a n c:=by obtain⟨a,c,h,_⟩:=bG.out ew;exact⟨_,_,_,h⟩
 obtain⟨a3,n3,c3,rfl⟩:∃a n c,lv=.slice a n c:=by obtain⟨a,c,h,_⟩:=bG.out cF;exact⟨_,_,_,h⟩
 have hV:=hF.valid;have zT:T.length<1000:=by have:=hF.len;omega
 have aR:(gQ T L).length<400:=by
  have h1:=jJ hV L;rw[wR];omega
 have eb:=af co ei;obtain⟨n,hn⟩:=ae T.length;rw[<-hn] at cf⊢;obtain⟨w2,b8⟩:=ae (w1.alloc (.cells #[.slice a1 n c1,.slice a2 n2 c2] 25));have NP:=aO b8;have t2:=Is.nw b8;have aL:=af eb NP;have eo:=cf.mono NP;have aX:=hD.mono NP;have cI:=cF.mono NP;clear hn;have cd:=aa (λ(W:World) (E:Below w2.heap.size w2 W)=>Em (eo.mono E) hV (cI.mono E) P (by omega) (by omega));have EN:=aa (DD cI (λx hx=>(P x hx).1) (by omega));have UN:=aa (λ(W:World) (E:Below w2.heap.size w2 W)=>Pg (HG.out.mono (af aL E)) (by have:=E.size;have:=t2.lt;omega) (aX.mono E) hV zT L P aR);have PL:=aa (λ(W:World) (E:Below w2.heap.size w2 W)=>Ph (HG.out.mono (af aL E)) (by have:=E.size;have:=t2.lt;omega) (aX.mono E) hV zT L P aR 16384 (by decide));have OF:=aa (λ(W:World) (E:Below w2.heap.size w2 W)=>QI (HG.out.mono (af aL E)) (aX.mono E) hV zT L P aR 16384 (by decide));have CO:=aa (λ(W:World) (E:Below w2.heap.size w2 W)=>abx (HG.out.mono (af aL E)) (aX.mono E) hV zT L P aR);have HC:=aa (qZ hV P);have hW:=nG.of hV L;have dS:=aa aX;have HV:=aa hV;obtain⟨U,hU⟩:=ae (gQ T L);simp only[<-hU,Nat.min_self] at cd UN PL OF CO aR HC hW;have aZ:∀u∈bf (kF T) U,u.length<400/\nG T u/\∀c∈u,aP c:=λu G=>by
  have h1:u.length<=(bf (kF T) U).flatten.length:=qs (pj G);rw[gH] at h1;exact⟨by omega,WW hW G,λc h=>HC.out c (sH G c h)⟩
 have cO:(bf (kF T) U).length<=U.length:=by simpa [bf] using oH (ap:=kF T) U []
 have b1:U.length=0->(bf (kF T) U).length=0:=λh=>by omega
 have b3:=λ(u:List Nat) (G:u∈bf (kF T) U)=>Gb (K:=ai T) G;have c7:=λj=>L9 (K:=ai T) (us:=bf (kF T) U) (λu G=>uJ (aZ u G).1 (by decide)) (by omega) j;have bP:∀k,eF (ai T) ((bf (kF T) U).take k)<=eF (ai T) (bf (kF T) U):=Ec _ _;have cC:∀k,k<=(bf (kF T) U).length->prT T (bf (kF T) U) k<=Go.Cd.B ^ eF (ai T) ((bf (kF T) U).take k):=QG zT (λu G=>(aZ u G).1);have aQ:∀u∈bf (kF T) U,(l6 T u).getD 0 0<=Go.Cd.B ^ dO (bq (ai T) u):=λu G=>Iz zT (aZ u G).1;obtain⟨us,ze⟩:=ae (bf (kF T) U);simp only[<-ze] at UN PL OF CO aZ cO b1 b3 c7 bP cC aQ;obtain⟨ad,Ma⟩:=ae (eF (ai T) us);simp only[<-Ma] at PL OF CO b3 bP;obtain⟨n,hn⟩:=ae us.length;obtain⟨Un,bZ⟩:=ae U.length;rw[<-hn,<-bZ] at cO b1;rw[<-bZ] at aR;simp only[<-bZ] at cd;have HN:=aa hn;have eL:=aa aZ;have e6:=aa b3;have dM:=aa c7;have d7:=aa bP;have eV:=aa cC;have f3:=aa aQ;have dX:=aa Ma;have ev:=aa zT;obtain⟨s,hs⟩:=ae (tx (dQ L));rw[<-hs] at EN;simp only[<-hs] at UN PL OF CO;clear hD cf hF P fE ew hV k1 e0 e1 e2 e3 co ei eb NP MD zT cF eo cI hU hW aZ b3 c7 bP cC aQ ze Ma hn bZ hs HG aX;go_wp2_with fail;rw[<-b8];obtain⟨tb,aQ⟩:=ae w1.heap.size;rw[<-aQ] at t2⊢;clear b8 aQ;refine EN.out.mono ?_;rintro e w3⟨rfl,cQ⟩;have U3:=aa (UN.out w3 cQ);clear EN UN;go_wp2_with fail;refine U3.out.mono ?_;rintro e w4⟨v4,rfl,hM,dH⟩;have du:=af cQ dH;obtain⟨a4,c4,rfl,aw⟩:=id hM;rw[<-HN.out];have P4:=aa (PL.out w4 du);have dK:=aa hM;clear U3 PL hM aw cQ dH;go_wp2_with fail;refine P4.out.mono ?_;rintro e w5⟨cR,ej,eu⟩;have cb:=af du cR;have Yr:=aa (dK.out.mono cR);obtain⟨d,pa,pn,pc,rfl,bw⟩:∃(d:Int) (pa:Option Addr) (pn pc:Nat),e=.returned (.tuple #[.slice pa pn pc,.int .i64 d])/\((ad<=16384/\d=0/\ak3 w5 (.slice pa pn pc) p T us)\/(¬ad<=16384/\d=9/\pn=0)):=by
  by_cases h:ad<=16384
  ·obtain⟨v,rfl,hp⟩:=ej h;obtain⟨a,c,rfl,hq⟩:=id hp;exact⟨0,a,_,c,rfl,.inl ⟨h,rfl,hp⟩⟩
  exact⟨9,none,0,0,eu h,.inr ⟨h,rfl,rfl⟩⟩
 have cM:=aa bw;have O5:=aa (OF.out w5 cb);clear P4 dK ej eu bw OF du;go_wp2_with fail;refine O5.out.mono ?_;rintro e w6⟨dr,eg,eS⟩;obtain⟨q0,an,ac,rfl,C⟩:∃(q0:Option Addr) (an ac:Nat),e=.returned (.tuple #[.agg #[.slice q0 an ac],.int .i64 d])/\(ad<=16384->bT w6 (.agg #[.slice q0 an ac]) (aaw T us)):=by
  rcases cM.out with⟨h,rfl,_⟩|⟨h,rfl,_⟩
  ·obtain⟨r,rfl,hN⟩:=eg h;obtain⟨a,m,c,rfl,hN⟩:=hN.out;exact⟨a,m,c,rfl,λ_=>hN⟩
  exact⟨none,0,0,eS h,λh'=>absurd h' h⟩
 have fO:=af cb dr;obtain⟨w7,cg⟩:=ae (w6.alloc (.cells #[.slice q0 an ac] eD));have jh:=aO cg;have k7:=Is.nw cg;have de:=af dr jh;have dx:=af cb de;have eB:=aa (λh=>(C h).mono jh);have C7:=aa (CO.out w7 dx);clear O5 eg eS C CO fO dr jh;go_wp2_with fail;rw[<-cg];obtain⟨gA,d5⟩:=ae w6.heap.size;rw[<-d5] at k7⊢;clear cg d5;refine C7.out.mono ?_;rintro e w8⟨r8,rfl,hK,iH⟩;obtain⟨ka,kn,kc,rfl,hK⟩:=hK.out;obtain⟨A,a6⟩:=ae (w8.alloc (.cells #[.slice ka kn kc] eD));have kT:=aO a6;have k9:=Is.nw a6;have bl:=af iH kT;have cP:=af de bl;have aW:=af dx bl;have o_:=af aL aW;have kA:=k7.mono bl;have tB:=t2.mono aW;have bV:=aa (λh=>(eB.out h).mono bl);have HK:=aa (hK.mono kT);have dC:=aa (Yr.out.mono cP);have bX:=aa (show(ad<=16384/\d=0/\ak3 A (.slice pa pn pc) p T us)\/(¬ad<=16384/\d=9/\pn=0) from cM.out.imp (λh=>⟨h.1,h.2.1,h.2.2.mono cP⟩) id);have fC:=aa (dS.out.mono aW);have fy:=aa (λ(W:World) (E:Below A.heap.size A W)=>cd.out W (aW.trans (E.mono aW.size)));have zg:(d==d)=true:=beq_self_eq_true _;have d4:(d !=d)=false:=by rw[bne,zg];rfl
 clear C7 hK iH kT k7 t2 eB Yr cM dS cd bl cP aW dx de cb cR aL;go_wp2_with fail;rw[<-a6];obtain⟨gC,ds⟩:=ae w8.heap.size;rw[<-ds] at k9⊢;have eR:gC+1=A.heap.size:=by rw[ds,a6];simp
 rw[eR];clear a6 ds eR;have fX:=o_.size;obtain⟨wS,b0⟩:=ae (A.alloc (.cells #[.slice none 0 0] eD));have dD:=aO b0;have kS:=Is.nw b0;have a7:bT wS (.agg #[.slice none 0 0]) 0:=⟨_,rfl,by rw[di];exact .nil _ _ _ _ (λ_=>rfl)⟩;rw[<-b0];clear b0;go_loopw [18,81] (λ_ jv wr=>∃j:Nat,j<=n/\jv=.int .i64 j/\(∃qa qn qc,Is wr A.heap.size #[.slice qa qn qc] eD/\bT wr (.agg #[.slice qa qn qc]) (eF (ai T) (us.take j)))/\Below A.heap.size A wr) (λ_ jv _=>n-(intOf jv).toNat)
 case atStart=>exact⟨0,ic _,rfl,⟨_,_,_,kS,a7⟩,dD⟩
 case round=>
  clear kS dD a7;obtain⟨j,hj,rfl,⟨qa,qn,qc,jS,Ti⟩,hE⟩:=hrel;have Je:=hE.size;by_cases fA:j<n
  ·have zj:=eG (show j<n by omega);have Y:j<us.length:=by have:=HN.out;omega
   obtain⟨a',c',ct,aw⟩:=dC.out;injection ct with J _ ao;subst J ao;obtain⟨b,off,mp,MB,rfl,c0,hM⟩:=aw j Y;have c0:=aB hE c0;have hM:=hM.mono hE;have ci:=CS (K:=ai T) Y;have cD:=dM.out j;have ft:(bY Go.Cd.B (dO (bq (ai T) us[j]))).length<=20003:=l5 (n:=tQ) (sI (uJ (eL.out _ (gw Y)).1 (by decide)));obtain⟨u,G⟩:=ae (us[j]);rw[<-G] at hM ci ft;obtain⟨S,hS⟩:=ae (eF (ai T) (us.take j));rw[<-hS] at Ti ci cD;have SZ:=aa (oG (hM.mono (ag wr)));have fv:=aa ci;have e0:=jS.gd 0 rfl;clear hM ci G hS aw;go_wp2_with fail;refine aC #[true,true,true,true,false] 4 1 mixed ?_;refine ay [0,1] 2 ?_
   iterate 2 (refine aA rfl ?_;go_big_quiet_step (rfl))
   refine az ?_;refine aI 2 ?_;go_wp2_with fail;refine SZ.out.mono ?_;rintro e wc⟨r7,rfl,OZ,jh⟩;have eX:=(ag wr).trans jh;go_wp2_with fail;refine aF jh ?_;refine aI 3 ?_;go_wp2_with fail;refine(Oo (Ti.mono eX) OZ (by omega) (by omega)).mono ?_;rintro e wd⟨rd,rfl,l,D⟩;obtain⟨ua,un,uc,rfl,l⟩:=l.out;have dW:=af eX D;go_wp2_with fail;refine aF D ?_;have ba:=jS.mono dW;have f0:=ba.at 0 rfl;have q0:=ba.frozen 0;have fc:=aa (ba.set 0 (.slice ua un uc));have cY:=aa (bT.iQ l (bJ.put (o:=0) ba (.slice ua un uc)) (by decide));have yf:=aa (aj (off:=0) (u:=.slice ua un uc) (b:=A.heap.size) (hE.trans (dW.mono Je)) (d' _));clear ba l OZ Ti jS e0 jh D;refine aJ [4] ?_;refine tail_cons rfl ?_;go_wp2_with fail;refine tail_nil ?_;go_wp2_with fail;go_roundw
   case rel=>exact⟨j+1,by omega,by simp,⟨_,_,_,fc.out,by rw[fv.out];exact cY.out⟩,yf.out⟩
   case measure=>simp[intOf];omega
  have zj:=gI (show n<=j by omega);obtain rfl:n=j:=by omega
  have ht:us.take n=us:=iu (by rw[<-HN.out];exact d' _);have cD:=dM.out n;rw[ht,<-dX.out] at Ti cD;have e0:=jS.at 0 rfl;have e1:=(k9.mono hE).at 0 rfl;have H:=aa (H9 Ti (HK.out.mono hE) (by omega));rw[decide_eq_true rfl] at H;have t9:=tB.mono hE;clear Ti ht jS;go_wp2_with fail;refine H.out.mono ?_;rintro e wa⟨rfl,WQ⟩;have da:=hE.trans (WQ.mono Je);have C9:=aa (fy.out wa da);have t9:=t9.mono WQ;have d0:=t9.at 0 rfl;have d1:=t9.at 1 rfl;clear H e0 e1 hE WQ;go_wp2_with fail;refine C9.out.mono ?_;rintro e wb⟨r,rfl,hr,dI⟩;obtain⟨ra,rc,rfl,_,_⟩:=ak hr;have bt:=af da dI;clear hr C9 da dI t9 d0 d1;by_cases fP:Un=0
  ·have e_:n=0:=b1 fP;subst e_;have zl:((Un:Int)==0)=true:=beq_iff_eq.2 (by omega);have ze:us=[]:=iJ.1 HN.out.symm;have fi:ad=0:=by rw[dX.out,ze];rfl
   have C:=aa ((bV.out (by omega)).mono bt);have et:aaw T us=1:=by rw[ze];rfl
   rw[et] at C;rcases bX.out with⟨hc,rfl,hP⟩|⟨hc,rfl,d2⟩
   ·obtain⟨a5,c5,dy,_⟩:=hP;injection dy with J au ao;obtain rfl:pn=0:=au.trans (by rw[ze];rfl);clear au;clear J ao ze fi et zg d4 b1 cO bX bV;go_wp2_with fail;refine(uf 1 (by decide) wb).mono ?_;rintro e wd⟨rd,rfl,l,D⟩;obtain⟨oa,on,oc,rfl,l⟩:=l.out;have Za:=af bt D;obtain⟨wO,I⟩:=ae (wd.alloc (.cells #[.slice oa on oc] eD));have aq:=aO I;have kO:=Is.nw I;have cH:=af Za aq;have H:=aa (H9 (l.mono aq) (C.out.mono (D.trans (aq.mono D.size))) (lp (l5 (n:=1) (by decide)) (by decide)));rw[decide_eq_true rfl] at H;have e0:=kO.at 0 rfl;have e1:=(kA.mono cH).at 0 rfl;go_wp2_with fail;rw[<-I];obtain⟨gO,a0⟩:=ae wd.heap.size;rw[<-a0] at kO e0⊢;clear I a0;go_loopw [20,21,22,23,24,25,26,28,29,30,123] (λ_ _ _ _ _ _ _ _ _ _ iv wr=>iv=.int .i64 0/\wr=wO) (λ_ _ _ _ _ _ _ _ _ _ _ _=>0)
    case atStart=>exact⟨rfl,rfl⟩
    case round=>
     obtain⟨rfl,rfl⟩:=hrel;go_wp2_with fail;refine H.out.mono ?_;rintro e wz⟨rfl,cu⟩;go_wp2;go_ret;exact⟨rfl,af o_ (cH.trans (cu.mono cH.size))⟩
   exfalso;omega
  have zl:((Un:Int)==0)=false:=beq_eq_false_iff_ne.2 (by omega);rcases bX.out with⟨hc,rfl,hP⟩|⟨hc,rfl,d2⟩
  ·obtain⟨a5,c5,dy,eq⟩:=hP;injection dy with J au ao;rw[<-HN.out] at au;subst J ao;obtain rfl:n=pn:=au.symm;have fp:=aa eq;have C:=aa (bV.out hc);have zn:((n:Int) !=(n:Int))=false:=by simp
   clear eq bV bX zg d4;go_wp2_with fail;refine(uf 1 (by decide) wb).mono ?_;rintro e wd⟨rd,rfl,l,D⟩;obtain⟨oa,on,oc,rfl,l⟩:=l.out;have Za:=af bt D;obtain⟨wO,I⟩:=ae (wd.alloc (.cells #[.slice oa on oc] eD));have aq:=aO I;have kO:=Is.nw I;have eh:bT wO (.agg #[.slice oa on oc]) (prT T us 0):=l.mono aq;clear l D bt;go_wp2_with fail;rw[<-I];obtain⟨gO,a0⟩:=ae wd.heap.size;have ff:wd.heap.size<=gO:=vb a0.symm;rw[<-a0] at kO⊢;clear I a0;have dV:=Za.size;go_loopw [20,21,22,23,24,25,26,28,29,30,123] (λ_ _ _ _ _ _ _ _ _ _ iv wr=>∃i:Nat,i<=n/\iv=.int .i64 i/\(∃qa qn qc,Is wr gO #[.slice qa qn qc] eD/\bT wr (.agg #[.slice qa qn qc]) (prT T us i))/\Below wd.heap.size wd wr) (λ_ _ _ _ _ _ _ _ _ _ iv _=>n-(intOf iv).toNat)
   case atStart=>exact⟨0,ic _,rfl,⟨_,_,_,kO,eh⟩,aq⟩
   case round=>
    clear kO eh aq;obtain⟨i,hi,rfl,⟨qa,qn,qc,jO,bc⟩,hE⟩:=hrel;have yf:=Za.trans (hE.mono dV);have Je:=yf.size;have ek:=hE.size;by_cases f_:i<n
    ·have zi:=eG (show i<n by omega);have b4:i<us.length:=by have:=HN.out;omega
     obtain⟨b,off,pp,g,f5,PB,MB,rfl,c0,c6,ed⟩:=fp.out i b4;obtain⟨a',c',ct,aw⟩:=dC.out;injection ct with J _ ao;subst J ao;obtain⟨b',fU,mp,f7,rfl,c1,cU⟩:=aw i b4;have c0:=aB yf c0;have c1:=aB yf c1;have c9:=gw b4;obtain⟨cv,cA,eK⟩:=eL.out _ c9;have br:=ia (e6.out _ c9) hc;have dk:=ab5 (T:=T) b4;have fg:(bY Go.Cd.B (prT T us i)).length<=16385:=Cw (eV.out i (by omega)) (ia (d7.out i) hc);have HX:=aa (acv fC.out HV.out ev.out cU cA eK (by omega));have AL:=aa (λ(W:World) (E:Below A.heap.size A W)=>L8 (c6.mono E) (by rw[w_];exact QH _ _) (by rw[w_];exact br));have AT:=aa (λ(W:World) (E:Below A.heap.size A W) (v:Value) (s:eZ) (hv:AA W v s) (ho:eQ (bq (ai T) us[i]) s)=>aag (ed.mono E) (by omega) br (c6.mono E) (w_ T us[i]) hv ho);have SA:=aa (λ(W:World) (E:Below A.heap.size A W) (k:Nat) (hk:k<40)=>OX (cU.mono E) (by omega) br (show k<16384 by omega));have ca:∀x∈l6 T us[i],x<=Go.Cd.B ^ tP:=λx hx=>ia (ab2 ev.out cv x hx) (kj (by unfold Go.Cd.B;decide) br);have bS:∀k,(bY Go.Cd.B ((l6 T us[i]).getD k 0)).length<=16385:=λk=>by
      refine l5 (n:=tP) ?_;rw[ir];cases e:(l6 T us[i])[k]? with
      | none=>exact ic _
      | some x=>exact ca x (lO e)
     have z:∀k,k<dO (bq (ai T) us[i])->(l6 T us[i]).getD k 0=if Co (bq (ai T) us[i]) (sW (bq (ai T) us[i]) k)=true then 1 else (((λs=>b_ (pO (ai T) (aD T) (uY T) (bq (ai T) us[i]) s)) (sW (bq (ai T) us[i]) k)).map (Tf (bq (ai T) us[i]) (λs c=>(aD T c).foldlM (iy (ai T) (bq (ai T) us[i])) s) (l6 T us[i]) (sW (bq (ai T) us[i]) k))).sum:=λk hk=>CJ hk;have aG:∀k,k<dO (bq (ai T) us[i])->0<(l6 T us[i]).getD k 0:=λk hk=>abZ HV.out cA hk;have dq:∀k,k<dO (bq (ai T) us[i])->fK (bq (ai T) us[i]) (sW (bq (ai T) us[i]) k)=k/\eQ (bq (ai T) us[i]) (sW (bq (ai T) us[i]) k):=λk hk=>⟨Pb hk,uW hk⟩;have dm:=adl (bq (ai T) us[i]);have cB:=aa cv;generalize (us[i].length<400)=sm at HX cB;generalize (λs=>b_ (pO (ai T) (aD T) (uY T) (bq (ai T) us[i]) s))=O at HX z;generalize iy (ai T) (bq (ai T) us[i])=tk at HX z;generalize bq (ai T) us[i]=R at HX AT SA z aG dq dm;generalize l6 T us[i]=xs at AL AT ca bS z aG dk;generalize aD T=F at HX z;obtain⟨st,cs⟩:∃st:eZ->Nat->Option eZ,st=λs c=>(F c).foldlM tk s:=⟨_,rfl⟩;simp only[<-cs] at z;have fD:=aa cs;have fH:=aa z;have D5:=aa aG;have fz:=aa dq;have fJ:=aa ca;have fR:=aa bS;have dc:=aa dk;have fI:=bS 0;obtain⟨x0,ax⟩:=ae (xs.getD 0 0);rw[<-ax] at fI dc;simp only[<-ax] at AL
     have dZ:=aa (λ(W:World) (E:Below A.heap.size A W) (v:Value) (hv:AA W v (s0 R))=>(show Calls prog 19 #[.pointer (some ⟨pp,0,none⟩),v] W λe w'=>∃r,e=.returned r/\bT w' r x0/\Below W.heap.size W w' from by
      have:=AT.out W E v (s0 R) hv HX.out.sok;rw[dm,<-ax] at this
      exact this))
     clear aw c6 ed cU c9 cv cA eK br dk ca bS z aG dq dm cs ax;go_wp2_with fail;have e0:=jO.gd 0 rfl;have dU:=yf.trans ((ag wr).mono Je);refine aC #[true,true,true,true,false] 4 1 mixed ?_;refine ay [0,1] 2 ?_
     iterate 2 (refine aA rfl ?_;go_big_quiet_step (rfl))
     refine az ?_;refine aI 2 ?_;go_wp2_with fail;refine(AL.out _ dU).mono ?_;rintro e f6⟨r1,rfl,dG,bu⟩;have bD:=(ag wr).trans bu;go_wp2_with fail;refine aF bu ?_;refine aI 3 ?_;go_wp2_with fail;refine(V5 (bc.mono bD) dG (by omega) (by omega)).mono ?_;rintro e fr⟨r2,rfl,bI,bh⟩;obtain⟨ua,un,uc,rfl,bI⟩:=bI.out;have c_:=bD.trans (bh.mono bD.size);go_wp2_with fail;refine aF bh ?_;have bx:=jO.mono c_;have f0:=bx.at 0 rfl;have q0:=bx.frozen 0;have eE:=bx.set 0 (.slice ua un uc);have cZ:=bT.iQ bI (bJ.put (o:=0) bx (.slice ua un uc)) (by decide);rw[<-dc.out] at cZ;have lH:=aj (off:=0) (u:=.slice ua un uc) (b:=gO) (hE.trans (c_.mono ek)) ff;have M6:=aa eE;have dJ:=aa cZ;have eM:=aa lH;clear bx eE cZ lH bI dG bc jO e0 bu bh bD c_ dU;refine aJ [4] ?_;refine tail_cons rfl ?_;go_wp2_with fail;refine tail_nil ?_;clear f0 q0;generalize fr.setCell ⟨gO,0,none⟩ (.slice ua un uc)=w3' at *;have lH:=eM.out;have bK:=Za.trans (lH.mono dV);clear hE yf Je ek dc fg c0 c1 eM;go_wp2_with fail;refine(AL.out w3' bK).mono ?_;rintro e e8⟨r4,rfl,b7,b9⟩;obtain⟨xa,xn,xc,rfl,b7⟩:=b7.out;have b5:=bK.trans (b9.mono bK.size);go_wp2_with fail;refine(HX.out.start e8 b5).mono ?_;rintro e fd⟨v5,rfl,cG,bH⟩;have bN:=b5.trans (bH.mono b5.size);have A5:=aa (dZ.out fd bN v5 cG);obtain⟨fa,rfl,dE⟩:=id cG;obtain⟨y1,y2,y3,rfl⟩:∃a n c,fa=.slice a n c:=by obtain⟨a,cap,h,_⟩:=dE;exact⟨_,_,_,h⟩
     clear cG dE;go_wp2_with fail;refine A5.out.mono ?_;rintro e fY⟨r6,rfl,eC,cm⟩;have bQ:=bH.trans (cm.mono bH.size);have H:=aa (H9 (b7.mono bQ) eC (by omega));rw[decide_eq_true rfl] at H;have dY:=bN.trans (cm.mono bN.size);clear A5 b7 eC;go_wp2_with fail;refine H.out.mono ?_;rintro e wC⟨rfl,cw⟩;have bv:=af dY cw;have bR:=b9.trans ((bQ.trans (cw.mono bQ.size)).mono b9.size);have eU:=aa (M6.out.mono bR);have el:=aa (dJ.out.mono bR);have ce:=aa (lH.trans (bR.mono lH.size));clear H AL dZ bQ b5 bN dY b9 bH cm cw bR M6 dJ lH bK;go_wp2_with fail;go_loopw [23,24,25,26,28,29,30,144] (λ_ _ _ _ _ _ _ kv wr=>∃k:Nat,k<=40/\kv=.int .i64 k/\Below wC.heap.size wC wr) (λ_ _ _ _ _ _ _ kv _=>40-(intOf kv).toNat)
     case atStart=>exact⟨0,ic _,rfl,gS _ _⟩
     case round=>
      obtain⟨k,hk,rfl,hF⟩:=hrel;have e7:=af bv hF;have fn:=hF.size;by_cases fQ:k<40
      ·have zk:decide ((k:Int)<40)=true:=decide_eq_true (by omega);go_wp2_with fail;refine(SA.out wr e7 k fQ).mono ?_;rintro e w7⟨v7,rfl,Po,cL,jh⟩;have dh:=hF.trans (jh.mono fn);by_cases al:k<dO R
       ·have ck:=decide_eq_true al;have a9:=Po al;have bg:=fH.out k al;obtain⟨cp,V⟩:=fz.out k al;have fB:=D5.out k al;have fe:=fR.out k;rw[ck];obtain⟨s,hs⟩:=ae (sW R k);rw[<-hs] at a9 bg cp V;obtain⟨sv,rfl,ex⟩:=id a9;obtain⟨sa,m,sc,rfl⟩:∃a n c,sv=.slice a n c:=by obtain⟨a,cap,h,_⟩:=ex;exact⟨_,_,_,h⟩
        have OP:=aa (λ(W:World) (E:Below A.heap.size A W) (u:Value) (G:AA W u s)=>HX.out.opts cB.out W E u s G V);have OV:=aa (λ(W:World) (E:Below A.heap.size A W) (u:Value) (G:AA W u s)=>HX.out.over W E u s G V);have SP:=aa (λ(W:World) (E:Below A.heap.size A W) (u:Value) (G:AA W u s) (c:Nat) (hc:aP c)=>HX.out.step W E u s G V c hc)
        have db:=aa (λ(W:World) (E:Below A.heap.size A W) (v:Value) (hv:AA W v s)=>(show Calls prog 19 #[.pointer (some ⟨pp,0,none⟩),v] W λe w'=>∃r,e=.returned r/\bT w' r (xs.getD k 0)/\Below W.heap.size W w' from by
         have:=AT.out W E v s hv V;rw[cp] at this
         exact this))
        have df:∀c∈O s,aP c/\∃s1,(F c).foldlM tk s=some s1/\eQ R s1:=λc hc=>by
         obtain⟨s1,h1⟩:=HX.out.ost hc;exact⟨HX.out.och hc,s1,h1,Lu (λ_ _ _ h e=>HX.out.ok h e) (F c) s s1 V h1⟩
        have ee:=HX.out.ole cB.out V;have cJ:=λc=>aah (R:=R) (nS:=st) fJ.out s c;have dB:∀c s',(F c).foldlM tk s=some s'->Tf R st xs s c=xs.getD (fK R s') 0:=λc s' h=>by
         unfold Tf;rw[fD.out];simp only[h]
        obtain⟨f,hf⟩:=ae (Tf R st xs s);obtain⟨L4,eH⟩:=ae (O s);obtain⟨ov,ec⟩:=ae (Co R s);simp only[<-hf,<-eH,<-ec] at OP OV df ee cJ dB bg;obtain⟨bA,cl⟩:=ae (xs.getD k 0);simp only[<-cl] at db bg fB fe;obtain⟨n4,dg⟩:=ae L4.length;rw[<-dg] at ee;have cK:=aa dg;have fG:=aa df;have Ow:=aa cJ;have fM:=aa dB;have fx:=aa bg;obtain⟨k1,ef⟩:=ae s.1;rw[<-ef] at a9⊢;obtain⟨wY,ab⟩:=ae (w7.alloc (.cells #[.int .i64 (k1:Nat),.slice sa m sc] 54));have eO:=aO ab;have kY:=Is.nw ab;have Z:=af dh eO;have bn:=a9.mono eO;have bO:w7.heap.size+1=wY.heap.size:=by rw[ab];simp
        obtain⟨wW,am⟩:=ae (wY.alloc (.cells #[.slice none 0 0] eD));have bp:=aO am;have kW:=Is.nw am;have e9:=af Z bp;have fT:=af bv e9;have eI:=bn.mono bp;have a7:bT wW (.agg #[.slice none 0 0]) ((L4.take 0).map f).sum:=⟨_,rfl,by rw[show((L4.take 0).map f).sum=0 from rfl,di];exact .nil _ _ _ _ (λ_=>rfl)⟩;have bM:=kY.mono bp;have y0:=bM.at 0 rfl;have aY:=bM.at 1 rfl;have es:=aa (OP.out wW fT _ eI);clear Po cL a9 ex hs cp V bg df cJ dB hf eH ec cl dg ef OP eI ck;obtain⟨gY,bj⟩:=ae w7.heap.size;have eJ:=aa bO;have dd:=aa bj;have cS:=aa ab;have eA:=aa am;rw[<-bj] at kY bM y0 aY;clear bO ab am bj;go_wp2_with fail;rw[<-cS.out,<-dd.out];go_wp2_with fail;have bj:=dd.out;have ab:=cS.out;have am:=eA.out;have bO:=eJ.out;rw[<-am];obtain⟨gW,cx⟩:=ae wY.heap.size;have d9:wY.heap.size<=gW:=vb cx.symm;have e4:gY≠gW:=by omega
        rw[<-cx] at kW;rw[show gY+1=gW by omega];clear ab bj am cx bO eJ dd cS eA;refine es.out.mono ?_;rintro e w8⟨r8,rfl,o8,iH⟩;rw[<-cK.out] at o8;obtain⟨a8,c8,rfl,_,_⟩:=ak o8;have eP:=af bp iH;have ep:=kW.mono iH;have O4:=a7.mono iH;have O8:=aa (aT o8 (show wY.heap.size<=wW.heap.size from bp.size));clear es o8 y0 aY kW a7 bM;go_wp2_with fail;go_loopw [28,29,30,159] (λ_ _ _ jv wr=>∃j:Nat,j<=n4/\jv=.int .i64 j/\(∃a q c,Is wr gW #[.slice a q c] eD/\bT wr (.agg #[.slice a q c]) ((L4.take j).map f).sum)/\wr.ownsRow wY.heap.size aN 1 (.slice a8 n4 c8) n4 (aM L4)/\Below wY.heap.size wY wr) (λ_ _ _ jv _=>n4-(intOf jv).toNat)
        case atStart=>exact⟨0,ic _,rfl,⟨_,_,_,ep,O4⟩,O8.out,eP⟩
        case round=>
         clear ep O4 eP;obtain⟨j,hj,rfl,⟨f1,f8,fZ,jW,Ti⟩,aE,hG⟩:=hrel;have fs:=af Z hG;have aU:=af bv fs;have dA:=aU.size;have cV:=hG.size;have aS:=kY.mono hG;by_cases fA:j<n4
         ·have zj:=eG (show j<n4 by omega);obtain⟨rb,Vd,he,_,_,_,_,aK⟩:=dz aE (show 0<n4 by omega);injection he with J _ au;subst J au;have Y:j<L4.length:=by have:=cK.out;omega
          have cy:=aK j (.int .i32 (L4[j]:Nat)) (by rw[gx (by rw[bF];exact Y),dR _ _ Y]);obtain⟨d_,s',bE,dF⟩:=fG.out _ (gw Y);have M:=Wy (f:=f) Y;have cz:((L4.take j).map f).sum<=1000000*Go.Cd.B ^ tP:=by
           refine ia (Ij f (Go.Cd.B ^ tP) (L4.take j) λc _=>Ow.out c) (m9 _ ?_);rw[jn];omega
          have bL:=fM.out _ _ bE;have bU:f L4[j]<=Go.Cd.B ^ tP:=Ow.out _;obtain⟨y,hy⟩:=ae (L4[j]);rw[<-hy] at cy d_ bE M bL bU;obtain⟨S,hS⟩:=ae (((L4.take j).map f).sum);rw[<-hS] at Ti M cz;obtain⟨t,ht⟩:=ae (f y);rw[<-ht] at M bL bU;have f9:(bY Go.Cd.B S).length<=16385:=sF (n:=tP) cz;have fW:(bY Go.Cd.B t).length<=16385:=l5 (n:=tP) bU;have u_:=aa M;have y0:=aS.at 0 rfl;have aY:=aS.at 1 rfl;have dp:=aa (SP.out wr aU _ (bn.mono hG) y d_);rw[bE] at dp;clear aK hy hS ht M cz bU bE;go_wp2_with fail;refine dp.out.mono ?_;rintro e wc⟨⟨v2,rfl,cj⟩,ea⟩;obtain⟨fu,rfl,d8⟩:=id cj;obtain⟨fl,m2,fq,rfl⟩:∃a n c,fu=.slice a n c:=by obtain⟨a,cap,h,_⟩:=d8;exact⟨_,_,_,h⟩
          obtain⟨kk,d6⟩:=ae s'.1;rw[<-d6] at cj⊢;obtain⟨wN,bW⟩:=ae (wc.alloc (.cells #[.int .i64 (kk:Nat),.slice fl m2 fq] 54));have ey:=aO bW;have kN:=Is.nw bW;have bz:=af ea ey;have ez:=hG.trans (bz.mono cV);have dL:=aU.trans (bz.mono dA);have dn:=jW.mono bz;have nR:=aa ((Ti.mono bz).mono (ag wN));have e5:=aa (aH aE bz);have eN:=aa (AT.out wN.drew (dL.trans ((ag wN).mono dL.size)) _ s' ((cj.mono ey).mono (ag wN)) dF);rw[<-bL] at eN;clear cj d8 d6 ea Ti aE jW dp y0 aY cy dF bL;go_wp2_with fail;rw[<-bW];obtain⟨gN,er⟩:=ae wc.heap.size;rw[<-er] at kN⊢;clear bW er;have e0:=dn.gd 0 rfl;have e1:=kN.gd 0 rfl;have e2:=kN.gd 1 rfl;refine aC #[true,true,true,true,true,false] 5 1 mixed ?_;refine ay [0,1,2] 2 ?_
          iterate 3 (refine aA rfl ?_;go_big_quiet_step (rfl))
          refine az ?_;refine aI 3 ?_;go_wp2_with fail;refine eN.out.mono ?_;rintro e wf⟨rf,rfl,dP,bB⟩;have fN:=(ag wN).trans bB;go_wp2_with fail;refine aF bB ?_;refine aI 4 ?_;go_wp2_with fail;refine(Oo (nR.out.mono bB) dP (by omega) (by omega)).mono ?_;rintro e wg⟨rg,rfl,b6,dw⟩;obtain⟨dv,cN,cW,rfl,b6⟩:=b6.out;have dl:=af fN dw;go_wp2_with fail;refine aF dw ?_;have bd:=dn.mono dl;have f0:=bd.at 0 rfl;have q0:=bd.frozen 0;have fh:=aa (bd.set 0 (.slice dv cN cW));have ch:=bJ.put (o:=0) bd (.slice dv cN cW);have cY:=aa (bT.iQ b6 ch (by decide));have fm:=aa (ch.own (aH e5.out dl) (by decide));have fj:=aa (aj (off:=0) (u:=.slice dv cN cW) (b:=gW) (ez.trans (dl.mono ez.size)) d9);clear ch bd b6 dP dn kN e0 e1 e2 bB dw;refine aJ [5] ?_;refine tail_cons rfl ?_;go_wp2_with fail;refine tail_nil ?_;go_wp2_with fail;go_roundw
          case rel=>exact⟨j+1,by omega,by simp,⟨_,_,_,fh.out,by rw[u_.out];exact cY.out⟩,fm.out,fj.out⟩
          case measure=>simp[intOf];omega
         have zj:=gI (show n4<=j by omega);obtain rfl:j=n4:=by omega
         have ht:L4.take j=L4:=iu (by rw[<-cK.out];exact d' _);rw[ht] at Ti;have y0:=aS.at 0 rfl;have aY:=aS.at 1 rfl;have dT:=aa (OV.out wr aU _ (bn.mono hG));clear ht aE;have Q:=fx.out;cases ov with
         | false=>
           have Q:bA=(L4.map f).sum:=Q.trans (if_neg (by simp));rw[<-Q] at Ti;clear Q;have fo:=aa Ti;clear Ti;go_wp2_with fail;refine dT.out.mono ?_;rintro e wv⟨rfl,bb⟩;have a_:=jW.mono bb;have bk:=aS.mono bb;have aV:=aa (fo.out.mono bb);have bs:=aU.trans (bb.mono dA);have N:=hG.trans (bb.mono cV);have cr:=aa (db.out wv.drew (bs.trans ((ag wv).mono bs.size)) _ ((bn.mono N).mono (ag wv)));have e0:=a_.gd 0 rfl;have e1:=bk.gd 0 rfl;have e2:=bk.gd 1 rfl;go_wp2_with fail;refine aC (Array.replicate 10 true) 10 0 mixed ?_;refine ay [0,1,2] 7 ?_
           iterate 3 (refine aA rfl ?_;go_big_quiet_step (rfl))
           refine az ?_;refine aI 3 ?_;go_wp2_with fail;refine cr.out.mono ?_;rintro e wp⟨rp,rfl,dt,av⟩;go_wp2_with fail;refine aF av ?_;have H:=aa (H9 ((aV.out.mono (ag wv)).mono av) dt (by omega));rw[decide_eq_true rfl] at H;refine aI 4 ?_;go_wp2_with fail;refine H.out.mono ?_;rintro e wq⟨rfl,bo⟩;have ar:=af av bo;go_wp2_with fail;refine aF bo ?_;have fw:=Gr.cell ((ag wv).trans ar) (a_.at 0 rfl);refine ay [5,6,7] 2 ?_
           iterate 3 (refine aA rfl ?_;go_big_quiet_step (rfl))
           refine az ?_;have ZE:=aa (ZL ((aV.out.mono (ag wv)).mono ar));rw[show(bA==0)=false from beq_eq_false_iff_ne.2 (by omega)] at ZE;refine aI 8 ?_;go_wp2_with fail;refine ZE.out.mono ?_;rintro e wx⟨rfl,bi⟩;have cX:=af ar bi;go_wp2_with fail;refine aF bi ?_;refine ay [9] 0 ?_
           iterate 1 (refine aA rfl ?_;go_big_quiet_step (rfl))
           refine az ?_;refine aJ [] ?_;refine tail_nil ?_;have cn:=(ag wv).trans cX;have cq:=Z.trans ((N.trans (cn.mono N.size)).mono Z.size);go_wp2_with fail;go_roundw
           case rel=>exact⟨k+1,by omega,by simp,cq⟩
           case measure=>simp[intOf];omega
         | true=>
           have Q:bA=1:=Q.trans (if_pos rfl);have fL:=aa Q;clear Q Ti;go_wp2_with fail;refine dT.out.mono ?_;rintro e wu⟨rfl,cc⟩;have fV:=aU.trans (cc.mono dA);have em:=hG.trans (cc.mono cV);have d3:=jW.mono cc;have eY:=aS.mono cc;go_wp2_with fail;refine(uf 1 (by decide) wu).mono ?_;rintro e wo⟨ro,rfl,b2,dj⟩;obtain⟨za,bm,zc,rfl,b2⟩:=b2.out;have be:=d3.mono dj;have en:=eY.mono dj;have f0:=be.at 0 rfl;have q0:=be.frozen 0;have fF:=aa (be.set 0 (.slice za bm zc));have ch:=bJ.put (o:=0) be (.slice za bm zc);have aV:=aa (bT.iQ b2 ch (by decide));rw[<-fL.out] at aV;have fk:=aa (en.put (show gY≠gW from e4) (o:=0) (.slice za bm zc));have fb:=aa (aj (off:=0) (u:=.slice za bm zc) (b:=gW) (em.trans (dj.mono em.size)) d9);clear ch b2 be en d3 eY y0 aY;go_wp2_with fail;clear f0 q0;generalize wo.setCell ⟨gW,0,none⟩ (.slice za bm zc)=wv at *;have a_:=fF.out;have bk:=fk.out;have N:=fb.out;have bs:=bv.trans ((Z.trans (N.mono Z.size)).mono bv.size);have cr:=aa (db.out wv.drew (bs.trans ((ag wv).mono bs.size)) _ ((bn.mono N).mono (ag wv)));have e0:=a_.gd 0 rfl;have e1:=bk.gd 0 rfl;have e2:=bk.gd 1 rfl;go_wp2_with fail;refine aC (Array.replicate 10 true) 10 0 mixed ?_;refine ay [0,1,2] 7 ?_
           iterate 3 (refine aA rfl ?_;go_big_quiet_step (rfl))
           refine az ?_;refine aI 3 ?_;go_wp2_with fail;refine cr.out.mono ?_;rintro e wp⟨rp,rfl,dt,av⟩;go_wp2_with fail;refine aF av ?_;have H:=aa (H9 ((aV.out.mono (ag wv)).mono av) dt (by omega));rw[decide_eq_true rfl] at H;refine aI 4 ?_;go_wp2_with fail;refine H.out.mono ?_;rintro e wq⟨rfl,bo⟩;have ar:=af av bo;go_wp2_with fail;refine aF bo ?_;have fw:=Gr.cell ((ag wv).trans ar) (a_.at 0 rfl);refine ay [5,6,7] 2 ?_
           iterate 3 (refine aA rfl ?_;go_big_quiet_step (rfl))
           refine az ?_;have ZE:=aa (ZL ((aV.out.mono (ag wv)).mono ar));rw[show(bA==0)=false from beq_eq_false_iff_ne.2 (by omega)] at ZE;refine aI 8 ?_;go_wp2_with fail;refine ZE.out.mono ?_;rintro e wx⟨rfl,bi⟩;have cX:=af ar bi;go_wp2_with fail;refine aF bi ?_;refine ay [9] 0 ?_
           iterate 1 (refine aA rfl ?_;go_big_quiet_step (rfl))
           refine az ?_;refine aJ [] ?_;refine tail_nil ?_;have cn:=(ag wv).trans cX;have cq:=Z.trans ((N.trans (cn.mono N.size)).mono Z.size);go_wp2_with fail;go_roundw
           case rel=>exact⟨k+1,by omega,by simp,cq⟩
           case measure=>simp[intOf];omega
       have ck:=decide_eq_false al;have hv:=cL al;subst hv;rw[ck];clear Po cL;go_wp2_with fail;have cE:=dh.trans ((ah (w:=w7) (.cells #[.int .i64 0,.slice none 0 0] 54)).mono dh.size);go_roundw
       case rel=>exact⟨i+1,by omega,by simp,⟨_,_,_,eU.out.mono cE,el.out.mono cE⟩,ce.out.trans (cE.mono ce.out.size)⟩
       case measure=>simp[intOf];omega
      have zk:decide ((k:Int)<40)=false:=decide_eq_false (by omega);go_wp2_with fail;go_roundw
      case rel=>exact⟨i+1,by omega,by simp,⟨_,_,_,eU.out.mono hF,el.out.mono hF⟩,ce.out.trans (hF.mono ce.out.size)⟩
      case measure=>simp[intOf];omega
    have zi:=gI (show n<=i by omega);obtain rfl:n=i:=by omega
    have eT:prT T us n=aaw T us:=by
     unfold prT aaw;rw[iu (by rw[iz,<-HN.out];exact d' _)]
    have fS:(bY Go.Cd.B (prT T us n)).length<=16385:=Cw (eV.out n (by have:=HN.out;omega)) (ia (d7.out n) hc);rw[eT] at bc fS;have e0:=jO.at 0 rfl;have e1:=(kA.mono yf).at 0 rfl;have H:=aa (H9 bc (C.out.mono yf) (by omega));rw[decide_eq_true rfl] at H;clear bc eT;go_wp2_with fail;refine H.out.mono ?_;rintro e wz⟨rfl,cu⟩;go_wp2;go_ret;exact⟨rfl,af o_ (yf.trans (cu.mono Je))⟩
  subst d2;go_wp2_with fail;go_ret;exact⟨rfl,af o_ bt⟩
end Go.Proofs.YtmnimbnojdndmaaGreatDoor
namespace Go.Cd
open Go.RowKit
def Um {k:IntKind} {w:World} {a:Option Addr} {len cap:Nat} {zs:List Int}
 (h:(a=none/\len=0/\cap=0/\zs=[])\/∃x,a=some x/\len<=cap/\cap<=maxLen/\zs.length=cap/\(∀i,i<zs.length->w.cell? (x.add i)=some (.int k (zs.getD i 0)))/\∀n∈zs,(Lit.int k n).wf=true) :
 bG w (.slice a len cap) ((zs.take len).map (Value.int k))/\len<=maxLen/\(zs.take len).length=len/\∀n∈zs,(Lit.int k n).wf=true:=by
 rcases h with⟨rfl,rfl,rfl,rfl⟩|⟨x,rfl,u,y,C,g,q⟩
 ·exact⟨⟨none,0,rfl,d' _,.inl ⟨rfl,λ_=>rfl⟩⟩,ic _,rfl,by simp⟩
 have d:((zs.take len).map (Value.int k)).length=len:=by simp;omega
 refine⟨⟨some x,cap,by rw[d],by rw[d];exact u,?_⟩,by omega,by simp;omega,q⟩;by_cases h0:len=0
 ·subst h0;exact .inl ⟨by simp,λe=>by cases e⟩
 right;have l:=g 0 (by omega);have B:x.add 0=x:=by unfold Addr.add;simp
 rw[B] at l;unfold World.cell? at l
 split at l
 ·rename_i c e f t;have r:x.spot.isSome=false:=by
   cases r:x.spot.isSome with
   | false=>rfl
   | true=>simp[r] at l
  have m:x=⟨x.block,x.off,none⟩:=by
   cases x with
   | mk b o s=>cases s with
     | none=>rfl
     | some s=>simp at r
  refine⟨x.block,x.off,c,e,f,by rw[<-m],t,λi v=>?_⟩;rw[d] at v;have j:=g i (by omega);rw[m] at j;unfold World.cell? Addr.add at j;have z:zs.getD i 0=zs[i]'(by omega):=by rw[ir,gx (by omega)];rfl
  rw[z] at j;have A:((zs.take len).map (Value.int k))[i]'(by rw[d];exact v)=.int k (zs[i]'(by omega)):=by simp
  rw[A];by_cases p:i=0
  ·subst p;simp only[if_true] at j;rw[t] at j;simpa using j
  rw[if_neg p] at j;simp only at j;rw[t] at j;simpa using j
 simp at l
def P8 {w:World} {a:Option Addr} {len cap:Nat} {zs:List Int}
 (h:(a=none/\len=0/\cap=0/\zs=[])\/∃x,a=some x/\len<=cap/\cap<=maxLen/\zs.length=cap/\(∀i,i<zs.length->w.cell? (x.add i)=some (.int .i64 (zs.getD i 0)))/\∀n∈zs,(Lit.int .i64 n).wf=true) :
 ∃l:List Int,bG w (.slice a len cap) (bO l)/\l.length=len/\len<=maxLen/\∀d∈l,-9223372036854775808<=d/\d<=9223372036854775807:=by
 obtain⟨b,g,c,e⟩:=Um h;refine⟨_,b,c,g,λn f=>?_⟩;have:=e n (rj f);simp[Lit.wf,IntKind.min,IntKind.max,IntKind.bits,IntKind.signed] at this;omega
end Go.Cd
namespace Go.Proofs.YtmnimbnojdndmaaGreatDoor
section
open Go.RowKit Go.Cd Go.ChangeShapes Go.WideShapes Go.Deep _root_.Go.Proofs.Tryz
def abe {w:World} {b o:Nat} {v:Value} (h:w.cell? ⟨b,o,none⟩=some v):b<w.heap.size:=by
 rcases ki b w.heap.size with h1|h1
 ·exact h1
 unfold World.cell? at h;rw[ld h1] at h;cases h
section
variable {H : Type} {enc : TypeId × Value -> H} {w : World} {base : Nat} {held : Bool}
def sJ {c:Nat} {g:List Value} {x:DataW H×List MemPlace} (h:DataW.trod enc prog w base (λ_=>true) held c 23 g=some x) :
 ∃a len cap l,g=[.slice a len cap]/\bG w (.slice a len cap) (bO l)/\l.length=len/\((x.1=.nil/\len=0)\/∃f m,x.1=.slice f m/\f.length=len):=by
 rcases open_ints underlying23 underlying3 (by kernel_rfl) h with⟨rfl,rfl⟩|⟨a,len,cap,zs,rfl,_,k,j,i,rfl,b,e⟩
 ·exact⟨none,0,0,[],rfl,⟨none,0,rfl,d' _,.inl ⟨rfl,λ_=>rfl⟩⟩,rfl,.inl ⟨rfl,rfl⟩⟩
 obtain⟨l,o,d,_,_⟩:=P8 (w:=w) (a:=some a) (len:=len) (cap:=cap) (zs:=zs) (.inr ⟨a,rfl,k,j,by simpa using i,b,e⟩);refine⟨_,_,_,l,rfl,o,d,.inr ⟨_,_,rfl,?_⟩⟩;have:zs.length=cap:=by simpa using i
 simp[lits,jn];omega
instance:Inhabited gX:=⟨⟨0,0,[]⟩⟩
def abJ {t:Nat} {F:List Value} {x:DataW H×List MemPlace} (h:DataW.trod enc prog w base (λ_=>true) held t 22 F=some x) :
 ∃a len cap T,F=[.slice a len cap]/\MH w (.slice a len cap) T:=by
 rcases open_slice underlying22 h with⟨rfl,_⟩|⟨a,len,cap,m,n,D,Z,rfl,_,P,Y,y,_,s⟩
 ·exact⟨none,0,0,[],rfl,none,0,rfl,d' _,λi u=>absurd u (tM _)⟩
 simp only[if_true] at y;subst y;have G:prog.cellsOf 78=3:=by kernel_rfl
 have e:0<len->a.spot=none:=λh0=>by
  obtain⟨q,d,_⟩:=s 0 (by omega);rw[G] at d;obtain⟨_,j,c⟩:=World.cells?_some d;have g:=c 0 (by omega);rw[gx (by omega)] at g;have:=World.cell?_spot g;rw[add_add] at this;simpa [Addr.add] using this
 obtain⟨f,hf⟩:=choose_lt (n:=len) (p:=λi (r:gX)=>∃b off A,a=⟨b,off,none⟩/\b<w.heap.size/\w.cell? ⟨b,off+i*3,none⟩=some (.int .i64 r.code)/\w.cell? ⟨b,off+i*3+1,none⟩=some (.int .i64 r.cls)/\w.cell? ⟨b,off+i*3+2,none⟩=some A/\bG w A (bO r.map)) (λi u=>by
  obtain⟨q,d,C⟩:=s i (by omega);rw[G] at d;obtain⟨_,j,c⟩:=World.cells?_some d;obtain⟨N,K,R,k,_,_,h0,o,v⟩:=trod_struct3 underlying78 C
  match q,j with
  | [c0,c1,c2],_=>
    have h0:DataW.trod enc prog w base (λ_=>true) held k 3 [c0]=some N:=h0;have o:DataW.trod enc prog w base (λ_=>true) held k 3 [c1]=some K:=o;have v:DataW.trod enc prog w base (λ_=>true) held k 23 [c2]=some R:=v;obtain⟨U,O,_,_⟩:=vj underlying3 h0;obtain⟨I,Q,_,_⟩:=vj underlying3 o;obtain⟨X,W,V,l,S,L,_,_⟩:=sJ v;cases O;cases Q;cases S;have z:=c 0 (by omega);have E:=c 1 (by omega);have B:=c 2 (by omega);rw[add_add] at z E B;obtain⟨b,off,rfl⟩:∃b off,a=⟨b,off,none⟩:=⟨a.block,a.off,by have e:=e (by omega);cases a;simp at e;subst e;rfl⟩;rw[add_plain] at z E B;refine⟨⟨U,I,l⟩,b,off,_,rfl,abe z,?_,?_,?_,L⟩
    ·simpa using z
    ·simpa [tA] using E
    simpa [tA] using B)
 refine⟨some a,len,m,(List.range len).map f,rfl,some a,m,by simp,by simpa using P,λi u=>?_⟩;simp at u;obtain⟨b,off,A,rfl,M,h0,o,v,J⟩:=hf i u;exact⟨b,off,A,rfl,M,by simpa using h0,by simpa using o,v,by simpa using J⟩
def Uo {v:Value} {d:DataW H} {z:List MemPlace} (U:∃a,v=.agg a/\a.size=prog.cellsOf 27) (h:DataW.Trod enc prog w base (λ_=>true) held 27 v d z) (q:∀n∈d.weights prog 27,n<=reachBytes) :
 ∃T X x m,Gq w v T X x m/\m.length<281474976710656:=by
 obtain⟨a,rfl,e⟩:=U;obtain⟨i,h⟩:=h;have h:DataW.trod enc prog w base (λ_=>true) held i 27 a.toList=some (d,z):=h;obtain⟨A,y,B,n,hd,hl,h0,o,s⟩:=trod_struct3 underlying27 h;have N:prog.cellsOf 27=4:=by kernel_rfl
 rw[N] at e;obtain⟨c,b,l,f,rfl⟩:∃c b l f,a=#[c,b,l,f]:=by
  match a,e with
  | ⟨[c,b,l,f]⟩,_=>exact⟨c,b,l,f,rfl⟩
 have h0:DataW.trod enc prog w base (λ_=>true) held n 25 [c,b]=some A:=h0;have o:DataW.trod enc prog w base (λ_=>true) held n 23 [l]=some y:=o;have s:DataW.trod enc prog w base (λ_=>true) held n 23 [f]=some B:=s;obtain⟨O,M,k,_,_,p,u⟩:=trod_struct2 underlying25 h0;have p:DataW.trod enc prog w base (λ_=>true) held k 22 [c]=some O:=p;have u:DataW.trod enc prog w base (λ_=>true) held k 23 [b]=some M:=u;obtain⟨a0,W,p0,T,F,P⟩:=abJ p;obtain⟨a1,n1,Z,X,J,L,_,_⟩:=sJ u;obtain⟨a2,n2,Y,x,K,Q,_,_⟩:=sJ o;obtain⟨a3,n3,p3,m,R,S,kz,r⟩:=sJ s;cases F;cases J;cases K;cases R;refine⟨T,X,x,m,⟨_,_,_,_,rfl,⟨_,_,rfl,P,L⟩,Q,S⟩,?_⟩;rcases r with⟨_,h0⟩|⟨I,C,V,E⟩
 ·omega
 have D:prog.bytesOf 3=8:=by kernel_rfl
 have G:d=.agg [A.1,y.1,B.1]:=congrArg Prod.fst hd
 have g:=q ((I.length+C.length)*prog.bytesOf 3) (by
  rw[G,DataW.weights,underlying27]
  exact DataW.weights_mem_each (j:=2) (t:=23) rfl (by simp[V];rfl) _ (by simp[DataW.weights,underlying23]))
 rw[D] at g;unfold reachBytes at g;omega
end
end
open Go.RowKit Go.Cd Go.ChangeShapes Go.WideShapes Go.Deep _root_.Go.Proofs.Tryz
def ab6:List Int:=[0,1,56,2,57,49,28,3,61,58,42,50,38,29,17,4,62,47,59,36,45,43,51,22,53,39,33,30,24,18,12,5,63,55,48,27,60,41,37,16,46,35,44,21,52,32,23,11,54,26,40,15,34,20,31,10,25,14,19,9,13,8,7,6]
theorem MX {w:World} (hd:Lib.VarReads prog w "math/bits.deBruijn64tab" (Lib.tabData .u8 ab6)) (hp:Lib.VarReads prog w "internal/strconv.uint64pow10" (Lib.tabData .u64 Lib.pow10Tab)) (hs:w.ShapedOpen prog):dL w:=by
 refine ⟨?_,?_,?_⟩
 ·exact Go.Proofs.cell_of_shapedOpen_int (zero:=#[.int .i64 0]) (t:=3) hs (of_decide_eq_true (by kernel_rfl)) (by kernel_rfl) rfl (by kernel_rfl) (by kernel_rfl) underlying3
 ·obtain ⟨g,t,cs,fuel,p,hg,hty,hv,htr⟩:=hp;have h6:(prog.globalNamed "internal/strconv.uint64pow10").bind (fun g=>(prog.globals[g]?).map (·.type))=some 382:=by kernel_rfl
  rw [hg,Option.bind_some,hty] at h6;obtain rfl:t=382:=m6 h6;have e:=Lib.cells_of_tab underlying382 underlying47 (by kernel_rfl) (by kernel_rfl) htr;unfold Lib.TabIs;rw [hv,<-e]
 ·obtain ⟨g,t,cs,fuel,p,hg,hty,hv,htr⟩:=hd;obtain rfl:g=9:=m6 (hg.symm.trans (by kernel_rfl));obtain rfl:t=409:=m6 (hty.symm.trans (by kernel_rfl));have e:=Lib.cells_of_tab underlying409 underlying5 (by kernel_rfl) (by kernel_rfl) htr;have hc:=World.var?_cell hg hv 15;rw [hc,<-mz,e];rfl
def Du (a b c:Int):DataW Unit:=.agg [.lit (.int .u8 a),.lit (.int .u8 b),.lit (.int .i32 c)]
def Yc:DataW Unit:=.agg [Du 0 127 0,Du 192 31 128,Du 224 15 2048,Du 240 7 65536]
def AJ {w:World} {f i:Nat} {t:Array Value} {z:List (DataW Unit)} {p:List MemPlace} {a b c:Int} (v:∀i,w.cell? ⟨0,i,none⟩=t[i]?)
 (h:DataW.trod (λ_=>()) prog w 0 (λ_=>true) false f 226 t.toList=some (.agg z,p)) (K:i<4) (hd:z[i]? = some (Du a b c)) :
 w.cell? ⟨0,i*3,none⟩=some (.int .u8 a)/\w.cell? ⟨0,i*3+1,none⟩=some (.int .u8 b)/\w.cell? ⟨0,i*3+2,none⟩=some (.int .i32 c):=by
 obtain⟨r,d,q,o,j⟩:=Lib.array_elem underlying226 h i K;obtain rfl:d=Du a b c:=m6 (o.symm.trans hd);have x:prog.cellsOf 225=3:=by kernel_rfl
 rw[x] at j;obtain⟨B,A,J,n,e,y,h0,m,u⟩:=trod_struct3 underlying225 j;rw[x] at y;generalize s:(t.toList.drop (i*3)).take 3=l at *
 match l,y with
 | [c0,c1,c2],_=>
   have h0:DataW.trod (λ_=>()) prog w 0 (λ_=>true) false n 5 [c0]=some B:=h0;have m:DataW.trod (λ_=>()) prog w 0 (λ_=>true) false n 5 [c1]=some A:=m;have u:DataW.trod (λ_=>()) prog w 0 (λ_=>true) false n 21 [c2]=some J:=u;obtain⟨P,C,G,_⟩:=vj underlying5 h0;obtain⟨O,I,D,_⟩:=vj underlying5 m;obtain⟨N,L,H,_⟩:=vj underlying21 u;have e:=congrArg Prod.fst e;rw[G,D,H] at e;simp only[Du,DataW.agg.injEq,oX,DataW.lit.injEq,Lit.int.injEq,true_and,and_true] at e;obtain⟨rfl,rfl,rfl⟩:=e;cases C;cases I;cases L;have g:=λk:Nat=>congrArg (λl:List Value=>l[k]?) s;simp only[vi,yk] at g;have E:=g 0;have M:=g 1;have F:=g 2;refine⟨?_,?_,?_⟩
   ·rw[v];simpa using E
   ·rw[v];simpa using M
   rw[v];simpa using F
theorem I8 {w:World} (hh:Lib.VarReads prog w "cedilla/utf.heads" Yc):dB w:=by
 obtain ⟨g,t,cs,fuel,p,hg,hty,hv,htr⟩:=hh;obtain rfl:g=0:=m6 (hg.symm.trans (by kernel_rfl));obtain rfl:t=226:=m6 (hty.symm.trans (by kernel_rfl));have hc:=fun i=>World.var?_cell hg hv i;have h0:=AJ (i:=0) hc htr (by decide) rfl;have h1:=AJ (i:=1) hc htr (by decide) rfl;have h2:=AJ (i:=2) hc htr (by decide) rfl;have h3:=AJ (i:=3) hc htr (by decide) rfl;exact ⟨h0.1,h0.2.1,h0.2.2,h1.1,h1.2.1,h1.2.2,h2.1,h2.2.1,h2.2.2,h3.1,h3.2.1,h3.2.2⟩
theorem I_ {w:World} (hh:Lib.VarReads prog w "cedilla/utf.heads" Yc) (hd:Lib.VarReads prog w "math/bits.deBruijn64tab" (Lib.tabData .u8 ab6)) (hp:Lib.VarReads prog w "internal/strconv.uint64pow10" (Lib.tabData .u64 Lib.pow10Tab)) (hs:w.ShapedOpen prog):nk w:=⟨MX hd hp hs,I8 hh⟩
end Go.Proofs.YtmnimbnojdndmaaGreatDoor
