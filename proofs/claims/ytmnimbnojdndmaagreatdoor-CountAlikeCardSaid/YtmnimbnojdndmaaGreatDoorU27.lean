/- Texts that are alike cost, and count, the same; no condition. -/
import Derived.Test.YtmnimbnojdndmaaGreatDoorU26
import Derived.OpenShut
import Derived.DataShut
import Derived.Deep.Slices
import Derived.Deep.Strs
import Derived.SizedLaws
import Derived.Lib.LaidTab
import Derived.Lib.LaidU8
import Derived.ShapedOpen
set_option maxRecDepth 100000
set_option maxHeartbeats 6400000
set_option linter.all false
namespace Go.Proofs.YtmnimbnojdndmaaGreatDoor
open Go.RowKit Go.Cd _root_.Go.Proofs.Tryz
def ab1 (i:Int) {S:Nat} (h:1<=S) (c:S<=281474976710656):∃A:Nat,A<S/\(wrap64 (i.tmod (S:Int)+(S:Int))).tmod (S:Int)=(A:Int):=by
 have d:-(S:Int)<i.tmod (S:Int):=Int.neg_lt_of_neg_lt (by have:=vm (-i) (show(0:Int)<(S:Int) by omega);rw[Int.neg_tmod] at this;exact this);have e:i.tmod (S:Int)<(S:Int):=vm i (by omega);generalize i.tmod (S:Int)=q at *;obtain⟨m,a⟩:∃m:Nat,q+(S:Int)=(m:Int):=⟨(q+(S:Int)).toNat,by omega⟩;have b:wrap64 (q+(S:Int))=(m:Int):=by rw[a];unfold wrap64;omega
 rw[b,<-A0];exact⟨m % S,mx _ h,rfl⟩
def Gq (w:World) (v:Value) (T:List gX) (X:List Int) (pk mr:List Int):Prop:=∃r x p m,v=.agg #[r,x,p,m]/\PT w (.agg #[r,x]) T X/\bG w p (bO pk)/\bG w m (bO mr)
def Gq.mono {w w':World} {v:Value} {T:List gX} {X b c:List Int} (h:Gq w v T X b c) (a:Below w.heap.size w w'):Gq w' v T X b c:=by
 obtain⟨r,x,p,m,g,d,f,e⟩:=h;exact⟨r,x,p,m,g,d.mono a,f.mono a,e.mono a⟩
def aa9 {w:World} (hG:dL w) {v:Value} {T0:List gX} {X0 pk mr:List Int} (h:Gq w v T0 X0 pk mr) (b0:mr.length<281474976710656) (d:Nat) (b3:d<=100) :
 Calls prog 7 #[v,.int .i64 d] w λe w'=>∃p r T X lv L,e=.returned (.tuple #[.pointer (some ⟨p,0,none⟩),r,lv,.bool true])/\cK w' p T X/\jq w' r T X/\P5 T X/\bG w' lv (ints L)/\L.length<=d/\(∀c∈L,aP c)/\Below w.heap.size w w':=by
 obtain⟨r0,x0,pv,mv,rfl,hT,hp,hm⟩:=h;obtain⟨b6,b7,he,a6,B⟩:=id hT;simp only[Ax,A2,pf,and_true] at he;obtain⟨rfl,rfl⟩:=he;obtain⟨ra,nt,rc,rfl⟩:∃a n c,r0=.slice a n c:=by obtain⟨a,cap,rfl,_⟩:=a6;exact⟨_,_,_,rfl⟩
 obtain⟨xa,nx,xc,rfl⟩:∃a n c,x0=.slice a n c:=by obtain⟨a,cap,rfl,_⟩:=B.out;exact⟨_,_,_,rfl⟩
 obtain⟨np,Ux⟩:=ae pk.length;obtain⟨nm,aM⟩:=ae mr.length;obtain⟨pa,pc,rfl,_,a8⟩:=Go.Proofs.YtmnimbnojdndmaaGreatDoor.bG.MI hp Ux;obtain⟨ma,mc,rfl,_,a0⟩:=Go.Proofs.YtmnimbnojdndmaaGreatDoor.bG.MI hm aM;obtain⟨w0,J⟩:=ae ((w.alloc (.cells #[.slice ra nt rc,.slice xa nx xc,.slice pa np pc,.slice ma nm mc] 27)).alloc (.cells #[.slice none 0 0,.slice none 0 0] 25));have aR:Below w.heap.size w w0:=by rw[J];exact dH _ _
 have k0:Is w0 w.heap.size #[.slice ra nt rc,.slice xa nx xc,.slice pa np pc,.slice ma nm mc] 27:=by rw[J];exact(Is.new _ _ _).mono (ah _)
 have k1:Is w0 (w.heap.size+1) #[.slice none 0 0,.slice none 0 0] 25:=by rw[J];exact Is.new' _ _ _ _ (by simp)
 have LD:=aa (Ul (hG.mono aR) (hT.mono aR));have e0:=k0.at 0 rfl;have e1:=k0.at 1 rfl;have HP:=aa a8;have HM:=aa a0;have Yj:=aa Ux;have sN:=aa aM;have bC:w.heap.size+2<=w0.heap.size:=by rw[J];simp
 clear hG hT a6 B hp hm Ux aM a8 a0;go_enter func7,ntmps7;go_wp2_with fail;rw[<-J];clear J;refine LD.out.mono ?_;rintro e w1⟨p,r,T,X,rfl,hD,aq,hF,av⟩;obtain⟨rr,rx,rfl,⟨C,E,rfl,_,bk⟩,a4⟩:=id aq;obtain⟨U,R,V,rfl⟩:∃a n c,rx=.slice a n c:=by obtain⟨a,c,h,_⟩:=bG.out a4;exact⟨_,_,_,h⟩
 obtain⟨n,hn⟩:=ae T.length;rw[<-hn] at aq⊢;have bU:n<=20:=by rw[hn];exact hF.len
 have a3:=af aR av;have bw:=a3.size;have k0:=k0.mono av;have k1:=k1.mono av;obtain⟨I,K⟩:=ae (w1.alloc (.cells #[.slice C n E,.slice U R V] 25));have NP:=aO K;have k9:=Is.nw K;have bd:=a3.trans (NP.mono bw);have k0:=k0.mono NP;have k1:=k1.mono NP;have bH:=bd.size;have Z_:=NP.size;have aY:I.heap.size=w1.heap.size+1:=by rw[K];simp
 have b1:w.heap.size+2<=w1.heap.size:=gS bC av.size;have b9:=k9.lt;have HD:=aa hD;have bn:=aa aq;have HF:=aa hF;have HN:=aa hn;have bm:=aa bk;have Tq:=ah (w:=I) (.cells #[.int .i64 65,.int .i64 97,.int .i64 768,.int .i64 4352,.int .i64 4449,.int .i64 4520,.int .i64 44032,.int .i64 44033] bB);have aZ:=mU I #[.int .i64 65,.int .i64 97,.int .i64 768,.int .i64 4352,.int .i64 4449,.int .i64 4520,.int .i64 44032,.int .i64 44033] bB 8 rfl (by decide);have bc:=(k9.mono Tq).at 0 rfl;rw[K] at bc;clear hD aq hF hn bk LD a4 e0 e1;go_wp2_with fail;rw[<-K] at bc⊢;clear K;generalize I.alloc (.cells #[.int .i64 65,.int .i64 97,.int .i64 768,.int .i64 4352,.int .i64 4449,.int .i64 4520,.int .i64 44032,.int .i64 44033] bB)=w3 at *;have bf:w3.ownsRow I.heap.size bB 1 (.slice (some ⟨w1.heap.size+1,0,none⟩) 8 8) 8 [.int .i64 65,.int .i64 97,.int .i64 768,.int .i64 4352,.int .i64 4449,.int .i64 4520,.int .i64 44032,.int .i64 44033]:=by rw[<-aY];exact aZ
 go_loopw [10,12,29] (λo _ jv wr=>∃j:Nat,j<=n/\jv=.int .i64 j/\(∃L:List Nat,wr.ownsRow I.heap.size bB 1 o L.length (ints L)/\8<=L.length/\L.length<=8+3*j/\∀c∈L,aP c)/\Below I.heap.size I wr) (λ_ _ jv _=>n-(intOf jv).toNat)
 case atStart=>
  refine⟨0,gW _,rfl,⟨[65,97,768,4352,4449,4520,44032,44033],by simpa [ints] using bf,by simp,by simp,?_⟩,Tq⟩;decide
 case round=>
  obtain⟨j,hj,rfl,⟨L,g,bq,Qr,aV⟩,hE⟩:=hrel;have ji:=bd.trans (hE.mono bH);have Je:=ji.size;have bb:=hE.size;have G:=NP.trans (hE.mono Z_);by_cases bX:j<n
  ·have zj:=eG (show j<n by omega);have bh:j<T.length:=by have:=HN.out;omega
   obtain⟨b,off,m,rfl,_,d0,d1,d2,hm⟩:=bm.out j bh;have l:=(HF.out.valid.fine T[j] (gx bh));obtain⟨q,hq⟩:=ae (T[j]);rw[<-hq] at d0 d1 hm l;obtain⟨am,cm,rfl,_,_⟩:=bG.out hm;have ao:(ints q.map).length=q.map.length:=by simp[ints]
   rw[ao] at d2 hm;obtain⟨nq,aK⟩:=ae q.map.length;rw[<-aK] at d2 hm;obtain⟨H,aW⟩:=ae q.code;obtain⟨cl,bi⟩:=ae q.cls;rw[<-aW] at d0;rw[<-bi] at d1;have d0:=aB G d0;have d1:=aB G d1;have d2:=aB G d2;have aE:=aa aK;have br:=aa aW;have Yu:=aa l;clear hq aK aW bi l;go_wp2_with fail;have aX:=ah (w:=wr) (.cells #[.int .i64 (H:Nat),.int .i64 (cl:Nat),.slice am nq cm] 78);have kA:Is _ wr.heap.size #[.int .i64 (H:Nat),.int .i64 (cl:Nat),.slice am nq cm] 78:=Is.new wr _ _;have bg:=aH g aX;have NV:=hE.trans (aX.mono bb);have aT:=af G aX;have DZ:=kA.lt;have b_:I.heap.size<=wr.heap.size:=bb;generalize wr.alloc (.cells #[.int .i64 (H:Nat),.int .i64 (cl:Nat),.slice am nq cm] 78)=wl at *;have bj:=aH bg (ag wl);have ar:=kA.mono (ag wl);have g0:=vG.keeps (S:=λk=>k=wr.heap.size) (ar.at 0 rfl) rfl;have g2:=vG.keeps (S:=λk=>k=wr.heap.size) (ar.at 2 rfl) rfl;refine dF (KR.blocks λk=>k=wr.heap.size) (Array.replicate 9 true) 9 0 mixed ?_;refine bZ [0,1,2,5,6] 4 ?_
   iterate 5 (refine aA rfl ?_;go_big_quiet_step (rfl))
   refine az ?_;have Q:=ah (w:=wl.drew) (.cells #[.int .i64 (H:Nat)] bB);have an:=ar.mono Q;have f:=aH bj Q;have lN:Below I.heap.size I (wl.drew.alloc (.cells #[.int .i64 (H:Nat)] bB)):=(NV.trans ((ag wl).mono NV.size)).trans (Q.mono NV.size);have a7:Below w1.heap.size w1 (wl.drew.alloc (.cells #[.int .i64 (H:Nat)] bB)):=(aT.trans ((ag wl).mono aT.size)).trans (Q.mono aT.size);refine bN 3 ?_;go_wp2_with fail;refine bK (KR.of_below Q Q.size (λk (Z:k=wr.heap.size)=>by subst Z;exact DZ)) ?_;refine bN 4 ?_
   refine ng (W:=wl.drew.alloc (.cells #[.int .i64 (H:Nat)] bB)) rfl _ _ 23 rfl I.heap.size bB (.int .i64 0) 8 jI (by decide) rfl f (by have:=lN.size;exact this) [.int .i64 (H:Nat)] (by simp[Value.oneCell']) ⟨wl.drew.heap.size,0,none⟩ 1 1 rfl rfl (λi u hi=>by
    rcases i with _|i
    ·cases hi;exact(Is.new wl.drew _ bB).at 0 rfl
    cases hi) (by omega) ?_
   intro v5 w5 o5 N bv;have bx:=an.other f (by decide);have au:=(bJ.bQ f N).is an (by decide);have jP:=lN.grown N lN.size (λk Z=>(f.lt k Z).1);have bA:=a7.grown N (by have:=a7.size;exact this) (λk Z=>by have:=(f.lt k Z).1;omega);go_wp2_with fail;refine bK (KR.bQ (w:=wl.drew.alloc (.cells #[.int .i64 (H:Nat)] bB)) N N.size (λk (Z:k=wr.heap.size)=>by subst Z;exact⟨an.lt,bx⟩)) ?_;refine bN 7 ?_;have bW:nq<=2:=by rw[aE.out];exact Yu.out.2.2.1
   have bF:=au.other o5 (by decide);refine bR rfl _ _ 23 rfl I.heap.size bB (.int .i64 0) 8 jI _ _ _ rfl o5 _ (ints q.map) rfl (hm.mono bA) (λu hu=>by obtain⟨y,_,rfl⟩:=jx.1 hu;rfl) (by rw[ao,<-aE.out];unfold maxLen;omega) (by rw[ao,<-aE.out];omega) jP.size ?_;intro v6 w6 o6 M4;have bt:=jP.grown M4 jP.size (λk Z=>(o5.lt k Z).1);have bS:=(bJ.bQ o5 M4).is au (by decide);have O6:=aa o6;go_wp2_with fail;refine bK (KR.bQ (w:=w5) M4 M4.size (λk (Z:k=wr.heap.size)=>by subst Z;exact⟨au.lt,bF⟩)) ?_;refine bZ [8] 0 ?_
   iterate 1 (refine aA rfl ?_;go_big_quiet_step (rfl))
   refine az ?_;refine eU [] ?_;refine tail_nil ?_;clear o6 o5 M4 N bv g0 g2 kA ar an au bS g bg bj f d0 d1 d2;go_wp2_with fail;go_roundw
   case rel=>
    refine⟨j+1,by omega,by simp,⟨L++[H]++q.map,?_,?_,?_,?_⟩,bt⟩
    ·have:=O6.out;rw[ao] at this;have e1:ints (L++[H]++q.map)=ints L++[.int .i64 (H:Nat)]++ints q.map:=by simp[ints]
     have e2:(L++[H]++q.map).length=L.length+1+q.map.length:=by simp;omega
     rw[e1,e2];exact this
    ·simp;omega
    ·rw[d',d',<-aE.out];simp;omega
    intro c D;rcases gR.1 D with D|D
    ·rcases gR.1 D with D|D
     ·exact aV c D
     rw[gC.1 D,br.out];exact Yu.out.1
    exact(Yu.out.2.2.2.2 c D).2
   case measure=>simp[intOf];omega
  have zj:=gI (show n<=j by omega);obtain rfl:j=n:=by omega
  obtain⟨oa,oc,rfl,_,_⟩:=ak g;have bM:=k0.mono hE;have bu:=k1.mono hE;have bT:=k9.mono hE;obtain⟨nl,aQ⟩:=ae L.length;rw[<-aQ] at g bq Qr⊢;have Yn:=aa aQ;have Yh:=aa aV;have bE:=aa g;clear aV g aQ k0 k1 k9 aZ bf Tq;rename World=>wA;go_wp2_with fail;go_loopw [13,14,15] (λlv iv _ ba=>∃i:Nat,i<=np/\i<=d/\iv=.int .i64 i/\(∃M:List Nat,ba.ownsRow wA.heap.size bB 1 lv M.length (ints M)/\M.length=i/\∀c∈M,aP c)/\Below wA.heap.size wA ba) (λ_ iv _ _=>d-(intOf iv).toNat)
  case atStart=>exact⟨0,gW _,gW _,rfl,⟨[],iu _ _ _ _,rfl,by simp⟩,gO _ _⟩
  case round=>
   obtain⟨i,hi,cb,rfl,⟨M,t,Y,ax⟩,MZ⟩:=hrel;have ac:=ji.trans (MZ.mono Je);have b5:=ac.size;have aN:=bM.mono MZ;have t2:=aN.at 2 rfl;have t3:=aN.at 3 rfl;have bP:=MZ.size;by_cases aw:i<np/\i<d
   ·obtain⟨bl,b8⟩:=aw;have zi:=eG (show i<np by omega);have zm:=eG (show i<d by omega);have bp:i<pk.length:=by have:=Yj.out;omega
    obtain⟨pb,po,rfl,_,p0⟩:=HP.out i bp;have p0:=aB ac p0;obtain⟨x,hx⟩:=ae (pk[i]);rw[<-hx] at p0;have Y7:=aa ax;have ER:=aa Y;have be:=aa t;clear hx ax Y;by_cases a5:x<0/\0<nm
    ·obtain⟨B,ca⟩:=a5;have zx:decide (x<0)=true:=decide_eq_true B;have zn:decide ((0:Int)<(nm:Int))=true:=decide_eq_true (by omega);have bL:nm<=281474976710656:=by rw[sN.out];omega
     obtain⟨A,hA,a9⟩:=ab1 x (S:=nm) (by omega) bL;obtain⟨mb,mo,rfl,_,m0⟩:=HM.out A (by rw[<-sN.out];exact hA);have m0:=aB ac m0;obtain⟨y,s⟩:∃y,y=mr[A]'(by rw[<-sN.out];exact hA):=⟨_,rfl⟩;rw[<-s] at m0;clear s;go_wp2_with fail;have G3:=Gr.cell (ag wr) t3;have G4:=Gr.cell (ag wr) m0;have b2:((nm:Int)==0)=false:=beq_eq_false_iff_ne.2 (by omega);refine aC #[true,true,true,true,true,true,true,true,true,true,true,true,true,true,true,true,true,true,true,true,true,false,false] 21 2 mixed ?_;refine ay [0,1,2,3,4,5,6,7,8,9,10,11,12,13,14,15,16,17] 3 ?_
     iterate 18 (refine aA rfl ?_;go_big_quiet_step (rfl))
     refine az ?_;refine aI 18 ?_;go_wp2_with fail;refine(jL (w:=wr.drew) y).mono ?_;rintro e w7⟨rfl,rfl⟩;have z:=rT (x:=(y % 2097152).toNat);obtain⟨c,D⟩:=ae (lG (y % 2097152).toNat);rw[<-D] at z⊢;have Uq:=z.1;have al:=aa z;clear D z;go_wp2_with fail;refine aF (gO _ _) ?_;refine ay [19] 1 ?_
     iterate 1 (refine aA rfl ?_;go_big_quiet_step (rfl))
     refine az ?_;refine aI 20 ?_;go_wp2_with fail;refine aF (ah _) ?_;have bo:=aH t (ag wr);have Za:=MZ.trans ((ag wr).mono bP);have bI:M.length<=100:=by have:=ER.out;omega
     clear t2 t3 G3 G4 p0 m0 aN t;refine aJ [21,22] ?_;refine tail_cons rfl ?_;refine gp rfl _ _ 23 rfl wA.heap.size bB (.int .i64 0) 8 jI _ M.length _ rfl bo (.int .i64 (c:Nat)) rfl rfl (by omega) (by unfold maxLen;omega) wA Za (gw _) ?_;intro v' w6 o6 mF;have O6:=aa o6;clear o6;refine tail_cons rfl ?_;go_wp2_with fail;refine tail_nil ?_;go_wp2_with fail;go_roundw
     case rel=>
      refine⟨i+1,by omega,by omega,by simp,⟨M++[c],?_,by rw[d',ER.out];rfl,λy s=>?_⟩,mF⟩
      ·rw[show ints (M++[c])=ints M++[.int .i64 (c:Nat)] by simp[ints],show(M++[c]).length=M.length+1 by simp];exact O6.out
      rcases gR.1 s with s|s
      ·exact Y7.out y s
      rw[gC.1 s];exact al.out
     case measure=>simp[intOf];omega
    have bO:nl<=281474976710656:=by omega
    obtain⟨A,hA,a9⟩:=ab1 x (S:=nl) (by omega) bO;have DZ:A<L.length:=by rw[<-Yn.out];exact hA
    obtain⟨lb,bV,he,_,_,_,_,F⟩:=dz bE.out (show 0<nl by omega);injection he with bs _ bz;subst bs bz;have m0:=aB MZ (F A (.int .i64 (L[A]:Nat)) (by simp[ints,DZ]));have z:=Yh.out _ (gx DZ);obtain⟨c,D⟩:=ae (L[A]);rw[<-D] at m0 z;have al:=aa z;have bI:M.length<=100:=by have:=ER.out;omega
    have b4:((nl:Int)==0)=false:=beq_eq_false_iff_ne.2 (by omega);clear D z F;by_cases B:x<0
    ·have zx:decide (x<0)=true:=decide_eq_true B;have zn:decide ((0:Int)<(nm:Int))=false:=decide_eq_false (λh=>a5 ⟨B,by omega⟩);go_wp2_with (at_builtin;refine gp rfl _ _ 23 rfl wA.heap.size bB (.int .i64 0) 8 jI _ M.length _ rfl t (.int .i64 (c:Nat)) rfl rfl (by omega) (by unfold maxLen;omega) wA MZ (gw _) ?_;intro v' w6 o6 mF);go_roundw
     case rel=>
      refine⟨i+1,by omega,by omega,by simp,⟨M++[c],?_,by rw[d',ER.out];rfl,λy s=>?_⟩,mF⟩
      ·rw[show ints (M++[c])=ints M++[.int .i64 (c:Nat)] by simp[ints],show(M++[c]).length=M.length+1 by simp];exact o6
      rcases gR.1 s with s|s
      ·exact Y7.out y s
      rw[gC.1 s];exact al.out
     case measure=>simp[intOf];omega
    have zx:decide (x<0)=false:=decide_eq_false B;rw[pB (show 0<=x by omega)] at a9;go_wp2_with (at_builtin;refine gp rfl _ _ 23 rfl wA.heap.size bB (.int .i64 0) 8 jI _ M.length _ rfl t (.int .i64 (c:Nat)) rfl rfl (by omega) (by unfold maxLen;omega) wA MZ (gw _) ?_;intro v' w6 o6 mF);go_roundw
    case rel=>
     refine⟨i+1,by omega,by omega,by simp,⟨M++[c],?_,by rw[d',ER.out];rfl,λy s=>?_⟩,mF⟩
     ·rw[show ints (M++[c])=ints M++[.int .i64 (c:Nat)] by simp[ints],show(M++[c]).length=M.length+1 by simp];exact o6
     rcases gR.1 s with s|s
     ·exact Y7.out y s
     rw[gC.1 s];exact al.out
    case measure=>simp[intOf];omega
   have a_:(decide ((i:Int)<(np:Int))&&decide ((i:Int)<(d:Int)))=false:=by
    rcases Decidable.not_and_iff_or_not.1 aw with h|h
    ·rw[decide_eq_false (show ¬((i:Int)<(np:Int)) by omega)];rfl
    rw[decide_eq_false (show ¬((i:Int)<(d:Int)) by omega),A1]
   obtain⟨ad,ab,rfl,_,_⟩:=ak t;obtain⟨nM,aG⟩:=ae M.length;rw[<-aG] at t Y⊢;have bD:=aa aG;have be:=aa t;have Y7:=aa ax;have ER:=aa Y;have aS:=bT.mono MZ;have O:=bu.mono MZ;have j0:=aS.at 0 rfl;have j1:=aS.at 1 rfl;have bY:w.heap.size+2<=wA.heap.size:=by omega
   clear aG t ax Y;have P:=O;have f0:=P.at 0 rfl;have f1:=P.at 1 rfl;have q0:=P.frozen 0;have q1:=P.frozen 1;have v0:=(P.set 0 (.slice C j E)).set 1 (.slice U R V);have g0:=v0.at 0 rfl;have g1:=v0.at 1 rfl;have l:=(aj (off:=1) (u:=.slice U R V) (b:=w.heap.size+1) (aj (off:=0) (u:=.slice C j E) (b:=w.heap.size+1) ac (by omega)) (by omega)).trans ((ag _).mono (by simp;omega));have aL:=(G.trans (MZ.mono G.size));have ai:Al wr (w.heap.size+1):=⟨_,_,O,by intro u hu;simp at hu;exact⟨none,0,0,hu⟩⟩
   have ap:Al (wr.setCell ⟨w.heap.size+1,0,none⟩ (.slice C j E)) (w.heap.size+1):=⟨_,_,O.set 0 (.slice C j E),by
    intro u hu;simp at hu
    rcases hu with rfl|rfl <;> exact⟨_,_,_,rfl⟩⟩
   have aD:∃p' r' T' X' Sa L',Ending.returned (.tuple #[.pointer (some ⟨p,0,none⟩),.agg #[.slice C j E,.slice U R V],.slice ad nM ab,.bool true])=.returned (.tuple #[.pointer (some ⟨p',0,none⟩),r',Sa,.bool true])/\cK (((wr.setCell ⟨w.heap.size+1,0,none⟩ (.slice C j E)).setCell ⟨w.heap.size+1,1,none⟩ (.slice U R V)).drew) p' T' X'/\jq (((wr.setCell ⟨w.heap.size+1,0,none⟩ (.slice C j E)).setCell ⟨w.heap.size+1,1,none⟩ (.slice U R V)).drew) r' T' X'/\P5 T' X'/\bG (((wr.setCell ⟨w.heap.size+1,0,none⟩ (.slice C j E)).setCell ⟨w.heap.size+1,1,none⟩ (.slice U R V)).drew) Sa (ints L')/\L'.length<=d/\(∀c∈L',aP c)/\Below w.heap.size w (((wr.setCell ⟨w.heap.size+1,0,none⟩ (.slice C j E)).setCell ⟨w.heap.size+1,1,none⟩ (.slice U R V)).drew):=by
    refine⟨p,.agg #[.slice C j E,.slice U R V],T,X,.slice ad nM ab,M,rfl,?_,?_,HF.out,?_,by have:=ER.out;have:=bD.out;omega,Y7.out,l⟩
    ·exact(((HD.out.mono aL).put O ai (show 2<=100 by omega) (by decide) (by decide) (by decide) (by decide) 0 _).put (O.set 0 (.slice C j E)) ap (show 2<=100 by omega) (by decide) (by decide) (by decide) (by decide) 1 _).mono (ag _)
    ·exact(((bn.out.mono aL).Dt ai 0 _).Dt ap 1 _).mono (ag _)
    have hm:=(Sl.aU (aH be.out (gO _ wr))).any;exact(Go.Proofs.YtmnimbnojdndmaaGreatDoor.bG.Dt (Go.Proofs.YtmnimbnojdndmaaGreatDoor.bG.Dt hm ai 0 (.slice C j E)) ap 1 (.slice U R V)).mono (ag _)
   have aD:=aa aD;clear v0 P l aL ai ap O aS a_;by_cases bl:i<np
   ·have zi:=eG (show i<np by omega);have LA:i=d:=by omega
    have zm:=gI (show d<=i by omega);clear aw;subst LA;go_wp2_with fail;go_region;go_wp2_with fail;exact bodyPost_ret (v:=.tuple #[.pointer (some ⟨p,0,none⟩),.agg #[.slice C j E,.slice U R V],.slice ad nM ab,.bool true]) (by simp[results,results7,go_sem,g0,g1]) rfl aD.out
   have zi:=gI (show np<=i by omega);clear aw;go_wp2_with fail;go_region;go_wp2_with fail;exact bodyPost_ret (v:=.tuple #[.pointer (some ⟨p,0,none⟩),.agg #[.slice C j E,.slice U R V],.slice ad nM ab,.bool true]) (by simp[results,results7,go_sem,g0,g1]) rfl aD.out
def rf {w:World} (hG:nk w) {v:Value} {T0:List gX} {X0 pk mr:List Int} (h:Gq w v T0 X0 pk mr) (a_:mr.length<281474976710656) {tv:Value} {ts:List Int} (ht:bG w tv (bO ts)) (b:Int) (bi:(Lit.int .i64 b).wf=true) :
 Calls prog 4 #[v,tv,.int .i64 b] w λe w'=>e=.returned (.bool true)/\Below w.heap.size w w':=by
 obtain⟨r0,x0,pv,mv,rfl,hT,hp,hm⟩:=id h;obtain⟨bD,bE,he,a5,bn⟩:=id hT;simp only[Ax,A2,pf,and_true] at he;obtain⟨rfl,rfl⟩:=he;obtain⟨ra,nt,rc,rfl⟩:∃a n c,r0=.slice a n c:=by obtain⟨a,cap,rfl,_⟩:=a5;exact⟨_,_,_,rfl⟩
 obtain⟨xa,nx,xc,rfl⟩:∃a n c,x0=.slice a n c:=by obtain⟨a,cap,rfl,_⟩:=bn.out;exact⟨_,_,_,rfl⟩
 obtain⟨pa,np,pc,rfl⟩:∃a n c,pv=.slice a n c:=by obtain⟨a,cap,rfl,_⟩:=hp.out;exact⟨_,_,_,rfl⟩
 obtain⟨ma,nm,mc,rfl⟩:∃a n c,mv=.slice a n c:=by obtain⟨a,cap,rfl,_⟩:=hm.out;exact⟨_,_,_,rfl⟩
 obtain⟨w0,A⟩:=ae (w.alloc (.cells #[.slice ra nt rc,.slice xa nx xc,.slice pa np pc,.slice ma nm mc] 27));have aw:=aO A;have k0:=Is.nw A;have AW:=aa (PQ (hG.mono aw));have MD:=aa (λ(W:World) (E:Below w.heap.size w W)=>aa9 (hG.mono E).acp (h.mono E) a_ 9 (by decide));have HG:=aa hG;obtain⟨ta,tn,tc,rfl⟩:∃a n c,tv=.slice a n c:=by obtain⟨a,c,h,_⟩:=bG.out ht;exact⟨_,_,_,h⟩
 have HT:=aa ht;have bx:b<9223372036854775808:=by
  have:IntKind.i64.min<=b/\b<=9223372036854775807:=by simpa [Lit.wf] using bi
  omega
 clear ht bi;clear hG h hT a5 bn hp hm a_;go_enter func4,ntmps4;go_wp2_with fail;rw[<-A];clear A;refine AW.out.mono ?_;rintro e wa⟨rfl,WQ⟩;have k1:=k0.mono WQ;have au:=af aw WQ;have e0:=k1.at 0 rfl;have e1:=k1.at 1 rfl;have e2:=k1.at 2 rfl;have e3:=k1.at 3 rfl;clear AW k0 aw WQ;go_wp2_with fail;refine(MD.out wa au).mono ?_;rintro e w1⟨p,r,T,X,lv,L,rfl,hD,D,hF,V,YS,P,bj⟩;obtain⟨rr,rx,rfl,⟨a1,c1,rfl,_,bv⟩,a0⟩:=id D;obtain⟨a2,n2,c2,rfl⟩:∃a n c,rx=.slice a n c:=by obtain⟨a,c,h,_⟩:=bG.out a0;exact⟨_,_,_,h⟩
 obtain⟨a3,n3,c3,rfl⟩:∃a n c,lv=.slice a n c:=by obtain⟨a,c,h,_⟩:=bG.out V;exact⟨_,_,_,h⟩
 have hV:=hF.valid;have zT:T.length<1000:=by have:=hF.len;omega
 have G:(gQ T L).length<400:=by
  have j:=jJ hV L;rw[wR];omega
 have aY:=af au bj;obtain⟨n,hn⟩:=ae T.length;rw[<-hn] at D⊢;obtain⟨g,F⟩:=ae (w1.alloc (.cells #[.slice a1 n c1,.slice a2 n2 c2] 25));have y:=aO F;have t2:=Is.nw F;have I:=af aY y;have aZ:=D.mono y;have aB:=hD.mono y;have aE:=V.mono y;have bp:(gQ T L).length<1000:=by omega
 have TU:=aa (λ(W:World) (E:Below g.heap.size g W)=>abU (aZ.mono E) hV (aE.mono E) P bp (HT.out.mono (af I E)) zT);have EN:=aa (λ(W:World) (E:Below g.heap.size g W)=>DD (aE.mono E) (λx hx=>(P x hx).1) (by omega));have EO:=aa (λ(W:World) (u:Value) (O:List Nat) (hu:bG W u (ints O)) (N:∀c∈O,aP c) (hn:O.length<1000000)=>DD hu (λx hx=>(N x hx).1) hn);obtain⟨U,R⟩:=ae (gQ T L);have Q:∀O:List Nat,gQ T O=U->O.length<400:=λO N=>by
  have key:∀l:List Nat,l.length<=(l.flatMap (aD T)).length:=λl=>by
   induction l with
   | nil=>simp
   | cons c l ih=>
     rw[iR,d',hU];have:=jz.2 (pF T c);omega
  have j:=key O;rw[<-wR,N,R] at j;omega
 obtain⟨d,Ma⟩:=ae (eF (ai T) (bf (kF T) U))
 have CO:=aa (λ(W:World) (E:Below g.heap.size g W) (O:List Nat) (N:∀c∈O,aP c) (hn:gQ T O=U)=>(show Calls prog 22 #[.pointer (some ⟨p,0,none⟩),.string (tx (dQ O))] W λe w'=>∃r,e=.returned (.tuple #[r,.int .i64 0])/\bT w' r d/\Below W.heap.size W w' from by
  rw[Ma,<-hn]
  exact abx (HG.out.mono (af I E)) (aB.mono E) hV zT O N (by rw[hn,R];exact G)))
 have bA:(bY Go.Cd.B d).length<=20003:=by
  have bs:∀u∈bf (kF T) U,u.length<9000:=λu hu=>by
   have j:u.length<=(bf (kF T) U).flatten.length:=pA (nB hu);rw[gH] at j;rw[R] at j;omega
  have bF:(bf (kF T) U).length<=U.length:=by simpa [bf] using oH (ap:=kF T) U []
  have bH:U.length<400:=by rw[R];exact G
  have:=L9 (K:=ai T) (us:=bf (kF T) U) bs (by omega) (bf (kF T) U).length;rw[kO] at this;rw[Ma];exact this
 obtain⟨i,m,k,bz,bm⟩:=acs (HG.out.mono I) aB hV zT L R.symm (by rw[R];exact G) Ma b bx;have OF:=aa bm;have bc:=aa k;have Yh:=aa P;have BA:=aa Q;have H:=aa R;clear hD D hF P bv a0 hn hV k1 e0 e1 e2 e3 au bj aY y MD zT V aB aZ aE G bp Ma bm k Q HG HT R;obtain⟨sL,a7⟩:=ae (tx (dQ L));have ad:=aa a7;clear a7;go_wp2_with fail;rw[<-F];obtain⟨tb,ba⟩:=ae w1.heap.size;rw[<-ba] at t2⊢;clear F ba;have e0:=t2.gd 0 rfl;have e1:=t2.gd 1 rfl;refine aC (Array.replicate 9 true) 9 0 mixed ?_;refine ay [0,2,3,4] 5 ?_
 iterate 4 (refine aA rfl ?_;go_big_quiet_step (rfl))
 refine az ?_;refine aI 1 ?_;go_wp2_with fail;refine(EN.out _ (ag g)).mono ?_;rintro e w3⟨rfl,aq⟩;have Z:=(ag g).trans aq;rw[<-ad.out];go_wp2_with fail;refine aF aq ?_;refine aI 5 ?_;go_wp2_with fail;refine(TU.out w3 Z).mono ?_;rintro e w4⟨u4,O,rfl,N,an,s,aL⟩;have bh:=af Z aL;have s:=s.trans H.out.symm;have bk:=aa (EO.out w4 u4 O (Sl.aU N).any an (by have:=BA.out O s;omega));have wN:=aa an;have ab:=aa s;obtain⟨oa,oc,rfl,_,_⟩:=ak N;clear N an s TU EN EO;go_wp2_with fail;refine aF aL ?_;refine aI 6 ?_;go_wp2_with fail;refine bk.out.mono ?_;rintro e w5⟨rfl,am⟩;have ac:=af bh am;have CA:=aa (CO.out w5 ac L Yh.out H.out.symm);have CB:=aa (λ(W:World) (E:Below g.heap.size g W)=>CO.out W E O wN.out ab.out);have OA:=aa (λ(W:World) (E:Below g.heap.size g W)=>OF.out W E L Yh.out H.out.symm);have OB:=aa (λ(W:World) (E:Below g.heap.size g W)=>OF.out W E O wN.out ab.out);obtain⟨sO,a4⟩:=ae (tx (dQ O));rw[<-ad.out] at CA OA;rw[<-a4] at CB OB⊢;clear OF CO bk wN ab Yh BA H a4 ad;go_wp2_with fail;refine aF am ?_;refine ay [7,8] 0 ?_
 iterate 2 (refine aA rfl ?_;go_big_quiet_step (rfl))
 refine az ?_;refine aJ [] ?_;refine tail_nil ?_;clear e0 e1 t2 aq Z aL bh am;go_wp2_with fail;refine CA.out.mono ?_;rintro e w6⟨r6,rfl,hP,a8⟩;obtain⟨pa,pn,pc,rfl,hP⟩:=hP.out;have a6:=af ac a8;obtain⟨w7,M⟩:=ae (w6.alloc (.cells #[.slice pa pn pc] eD));have jh:=aO M;have k7:=Is.nw M;have ao:=af a6 jh;have HP:=aa (hP.mono jh);have aW:=aa M;clear CA hP a8 a6 ac jh M;go_wp2_with fail;rw[<-aW.out];obtain⟨g7,aQ⟩:=ae w6.heap.size;rw[<-aQ] at k7⊢;clear aW aQ;refine(CB.out w7 ao).mono ?_;rintro e w8⟨r8,rfl,hQ,iH⟩;obtain⟨qa,qn,qc,rfl,hQ⟩:=hQ.out;have kT:=ah (w:=w8) (.cells #[.slice qa qn qc] eD);have k9:=Is.new w8 #[.slice qa qn qc] eD;have C:=af iH kT;have aV:=af ao C;have aG:=aa (HP.out.mono C);have SM:=aa (H9 aG.out (hQ.mono kT) (by omega));rw[decide_eq_true rfl] at SM;have ax:=k7.mono C;have e0:=ax.at 0 rfl;have e1:=k9.at 0 rfl;clear CB hQ iH kT k7 k9 HP ao;go_wp2_with fail;refine SM.out.mono ?_;rintro e zL⟨rfl,jO⟩;have al:=af aV jO;have aN:=ax.mono jO;have be:=aa (aG.out.mono jO);clear SM e0 e1 ax aG C aV jO;go_wp2_with fail;refine(OA.out zL al).mono ?_;rintro e FT⟨ma,mn,mc,rfl,hM,aX⟩;obtain⟨xw,TM⟩:=ae (FT.alloc (.cells #[.slice ma mn mc] eD));have y:=aO TM;have aH:=Is.nw TM;have Yb:=af aX y;have av:=af al Yb;have aT:=aN.mono Yb;have bd:=aa (be.out.mono Yb);have HM:=aa (hM.mono y);have br:=aa TM;clear OA hM aX y aN be al Yb TM;go_wp2_with fail;rw[<-br.out];obtain⟨bB,TL⟩:=ae FT.heap.size;rw[<-TL] at aH⊢;clear br TL;refine(OB.out xw av).mono ?_;rintro e Ck⟨na,nn,nc,rfl,hN,bl⟩;have aj:=ah (w:=Ck) (.cells #[.slice na nn nc] eD);have a9:=Is.new Ck #[.slice na nn nc] eD;have xn:=af bl aj;have bg:=af av xn;have bq:=aT.mono xn;have aM:=aH.mono xn;have aR:=aa (bd.out.mono xn);have ar:=aa (HM.out.mono xn);have SM:=aa (H9 ar.out (hN.mono aj) (by omega));rw[decide_eq_true rfl] at SM;have e0:=aM.at 0 rfl;have e1:=a9.at 0 rfl;have zg:(i==i)=true:=beq_self_eq_true _;have bw:(i !=i)=false:=by rw[bne,zg];rfl
 clear OB hN bl aj aT aH a9 bd HM av xn;go_wp2_with fail;refine SM.out.mono ?_;rintro e bC⟨rfl,Di⟩;have aS:=af bg Di;have bb:=af I aS;have aK:=bq.mono Di;have J:=aM.mono Di;have t:=aa (ar.out.mono Di);have c0:=aK.at 0 rfl;have z:=aa (aR.out.mono Di);clear SM e0 e1 bq aM ar aR bg Di zg bw aS;by_cases bu:d<18446744073709551616
 ·have UI:=aa (FP z.out bu);clear z;go_wp2_with fail;refine UI.out.mono ?_;rintro e bt⟨rfl,Y⟩;have f:=af bb Y;have d0:=(J.mono Y).at 0 rfl;have S:=aa (ZL (t.out.mono Y));clear UI J aK t c0;rcases bc.out with⟨j,rfl,rfl⟩|⟨j,h2,rfl,h3⟩|⟨j,h2,rfl,rfl⟩
  ·have zb:decide (b<0)=true:=decide_eq_true j;go_wp2_with fail;refine S.out.mono ?_;rintro e q⟨rfl,o⟩;go_wp2;go_ret;exact⟨rfl,af f o⟩
  ·have zb:decide (b<0)=false:=decide_eq_false (by omega);have hw:IntKind.u64.wrap b=b:=by unfold IntKind.wrap;simp[IntKind.bits,IntKind.signed];omega
   have z1:decide (b<(d:Int))=false:=decide_eq_false (by omega);have z2:decide ((16384:Int)<(d:Int))=false:=decide_eq_false (by omega);have z3:(m==0)=false:=beq_eq_false_iff_ne.2 (by omega);rw[z3] at S;go_wp2_with fail;refine S.out.mono ?_;rintro e q⟨rfl,o⟩;go_wp2;go_ret;exact⟨rfl,af f o⟩
  have zb:decide (b<0)=false:=decide_eq_false (by omega);have hw:IntKind.u64.wrap b=b:=by unfold IntKind.wrap;simp[IntKind.bits,IntKind.signed];omega
  by_cases bo:b<(d:Int)
  ·have z1:decide (b<(d:Int))=true:=decide_eq_true bo;go_wp2_with fail;refine S.out.mono ?_;rintro e q⟨rfl,o⟩;go_wp2;go_ret;exact⟨rfl,af f o⟩
  have z1:decide (b<(d:Int))=false:=decide_eq_false bo;have z2:decide ((16384:Int)<(d:Int))=true:=decide_eq_true (by omega);go_wp2_with fail;refine S.out.mono ?_;rintro e q⟨rfl,o⟩;go_wp2;go_ret;exact⟨rfl,af f o⟩
 have UI:=aa (Oq z.out (by omega) (by omega));clear z;go_wp2_with fail;refine UI.out.mono ?_;rintro e bt⟨rfl,Y⟩;have f:=af bb Y;have d0:=(J.mono Y).at 0 rfl;have S:=aa (ZL (t.out.mono Y));clear UI J aK t c0;rcases bc.out with⟨j,rfl,rfl⟩|⟨j,h2,rfl,h3⟩|⟨j,h2,rfl,rfl⟩
 ·have zb:decide (b<0)=true:=decide_eq_true j;go_wp2_with fail;refine S.out.mono ?_;rintro e q⟨rfl,o⟩;go_wp2;go_ret;exact⟨rfl,af f o⟩
 ·exfalso;omega
 have zb:decide (b<0)=false:=decide_eq_false (by omega);go_wp2_with fail;refine S.out.mono ?_;rintro e q⟨rfl,o⟩;go_wp2;go_ret;exact⟨rfl,af f o⟩
end Go.Proofs.YtmnimbnojdndmaaGreatDoor
namespace Go.Cd
open Go.RowKit
def Um {k:IntKind} {w:World} {a:Option Addr} {len cap:Nat} {zs:List Int}
 (h:(a=none/\len=0/\cap=0/\zs=[])\/∃x,a=some x/\len<=cap/\cap<=maxLen/\zs.length=cap/\(∀i,i<zs.length->w.cell? (x.add i)=some (.int k (zs.getD i 0)))/\∀n∈zs,(Lit.int k n).wf=true) :
 bG w (.slice a len cap) ((zs.take len).map (Value.int k))/\len<=maxLen/\(zs.take len).length=len/\∀n∈zs,(Lit.int k n).wf=true:=by
 rcases h with⟨rfl,rfl,rfl,rfl⟩|⟨x,rfl,q,z,C,g,r⟩
 ·exact⟨⟨none,0,rfl,gw _,.inl ⟨rfl,λ_=>rfl⟩⟩,gW _,rfl,by simp⟩
 have d:((zs.take len).map (Value.int k)).length=len:=by simp;omega
 refine⟨⟨some x,cap,by rw[d],by rw[d];exact q,?_⟩,by omega,by simp;omega,r⟩;by_cases h0:len=0
 ·subst h0;exact .inl ⟨by simp,λe=>by cases e⟩
 right;have l:=g 0 (by omega);have B:x.add 0=x:=by unfold Addr.add;simp
 rw[B] at l;unfold World.cell? at l
 split at l
 ·rename_i c e f t;have u:x.spot.isSome=false:=by
   cases u:x.spot.isSome with
   | false=>rfl
   | true=>simp[u] at l
  have m:x=⟨x.block,x.off,none⟩:=by
   cases x with
   | mk b o s=>cases s with
     | none=>rfl
     | some s=>simp at u
  refine⟨x.block,x.off,c,e,f,by rw[<-m],t,λi v=>?_⟩;rw[d] at v;have j:=g i (by omega);rw[m] at j;unfold World.cell? Addr.add at j;have A:zs.getD i 0=zs[i]'(by omega):=by rw[ic,gA (by omega)];rfl
  rw[A] at j;have y:((zs.take len).map (Value.int k))[i]'(by rw[d];exact v)=.int k (zs[i]'(by omega)):=by simp
  rw[y];by_cases p:i=0
  ·subst p;simp only[if_true] at j;rw[t] at j;simpa using j
  rw[if_neg p] at j;simp only at j;rw[t] at j;simpa using j
 simp at l
def P8 {w:World} {a:Option Addr} {len cap:Nat} {zs:List Int}
 (h:(a=none/\len=0/\cap=0/\zs=[])\/∃x,a=some x/\len<=cap/\cap<=maxLen/\zs.length=cap/\(∀i,i<zs.length->w.cell? (x.add i)=some (.int .i64 (zs.getD i 0)))/\∀n∈zs,(Lit.int .i64 n).wf=true) :
 ∃l:List Int,bG w (.slice a len cap) (bO l)/\l.length=len/\len<=maxLen/\∀d∈l,-9223372036854775808<=d/\d<=9223372036854775807:=by
 obtain⟨c,g,f,e⟩:=Um h;refine⟨_,c,f,g,λn b=>?_⟩;have:=e n (rl b);simp[Lit.wf,IntKind.min,IntKind.max,IntKind.bits,IntKind.signed] at this;omega
end Go.Cd
namespace Go.Proofs.YtmnimbnojdndmaaGreatDoor
section
open Go.RowKit Go.Cd Go.ChangeShapes Go.WideShapes Go.Deep _root_.Go.Proofs.Tryz
def abe {w:World} {b o:Nat} {v:Value} (h:w.cell? ⟨b,o,none⟩=some v):b<w.heap.size:=by
 rcases j' b w.heap.size with h1|h1
 ·exact h1
 unfold World.cell? at h;rw[kp h1] at h;cases h
section
variable {H : Type} {enc : TypeId × Value -> H} {w : World} {base : Nat} {held : Bool}
def sJ {c:Nat} {cs:List Value} {x:DataW H×List MemPlace} (h:DataW.trod enc prog w base (λ_=>true) held c 23 cs=some x) :
 ∃a len cap l,cs=[.slice a len cap]/\bG w (.slice a len cap) (bO l)/\l.length=len/\((x.1=.nil/\len=0)\/∃f i,x.1=.slice f i/\f.length=len):=by
 rcases open_ints underlying23 underlying3 (by kernel_rfl) h with⟨rfl,rfl⟩|⟨a,len,cap,zs,rfl,_,m,j,g,rfl,b,d⟩
 ·exact⟨none,0,0,[],rfl,⟨none,0,rfl,gw _,.inl ⟨rfl,λ_=>rfl⟩⟩,rfl,.inl ⟨rfl,rfl⟩⟩
 obtain⟨l,k,e,_,_⟩:=P8 (w:=w) (a:=some a) (len:=len) (cap:=cap) (zs:=zs) (.inr ⟨a,rfl,m,j,by simpa using g,b,d⟩);refine⟨_,_,_,l,rfl,k,e,.inr ⟨_,_,rfl,?_⟩⟩;have:zs.length=cap:=by simpa using g
 simp[lits,iS];omega
instance:Inhabited gX:=⟨⟨0,0,[]⟩⟩
def abJ {u:Nat} {cs:List Value} {x:DataW H×List MemPlace} (h:DataW.trod enc prog w base (λ_=>true) held u 22 cs=some x) :
 ∃a len cap T,cs=[.slice a len cap]/\MH w (.slice a len cap) T:=by
 rcases open_slice underlying22 h with⟨rfl,_⟩|⟨a,len,cap,m,n,D,U,rfl,_,L,W,y,_,o⟩
 ·exact⟨none,0,0,[],rfl,none,0,rfl,gw _,λi t=>absurd t (tU _)⟩
 simp only[if_true] at y;subst y;have F:prog.cellsOf 78=3:=by kernel_rfl
 have e:0<len->a.spot=none:=λh0=>by
  obtain⟨s,d,_⟩:=o 0 (by omega);rw[F] at d;obtain⟨_,j,c⟩:=World.cells?_some d;have g:=c 0 (by omega);rw[gA (by omega)] at g;have:=World.cell?_spot g;rw[add_add] at this;simpa [Addr.add] using this
 obtain⟨f,hf⟩:=choose_lt (n:=len) (p:=λi (r:gX)=>∃b off z,a=⟨b,off,none⟩/\b<w.heap.size/\w.cell? ⟨b,off+i*3,none⟩=some (.int .i64 r.code)/\w.cell? ⟨b,off+i*3+1,none⟩=some (.int .i64 r.cls)/\w.cell? ⟨b,off+i*3+2,none⟩=some z/\bG w z (bO r.map)) (λi t=>by
  obtain⟨s,d,B⟩:=o i (by omega);rw[F] at d;obtain⟨_,j,c⟩:=World.cells?_some d;obtain⟨J,R,M,k,_,_,h0,v,q⟩:=trod_struct3 underlying78 B
  match s,j with
  | [c0,c1,c2],_=>
    have h0:DataW.trod enc prog w base (λ_=>true) held k 3 [c0]=some J:=h0;have v:DataW.trod enc prog w base (λ_=>true) held k 3 [c1]=some R:=v;have q:DataW.trod enc prog w base (λ_=>true) held k 23 [c2]=some M:=q;obtain⟨G,Q,_,_⟩:=vp underlying3 h0;obtain⟨P,N,_,_⟩:=vp underlying3 v;obtain⟨X,V,Y,l,S,K,_,_⟩:=sJ q;cases Q;cases N;cases S;have A:=c 0 (by omega);have C:=c 1 (by omega);have E:=c 2 (by omega);rw[add_add] at A C E;obtain⟨b,off,rfl⟩:∃b off,a=⟨b,off,none⟩:=⟨a.block,a.off,by have e:=e (by omega);cases a;simp at e;subst e;rfl⟩;rw[add_plain] at A C E;refine⟨⟨G,P,l⟩,b,off,_,rfl,abe A,?_,?_,?_,K⟩
    ·simpa using A
    ·simpa [te] using C
    simpa [te] using E)
 refine⟨some a,len,m,(List.range len).map f,rfl,some a,m,by simp,by simpa using L,λi t=>?_⟩;simp at t;obtain⟨b,off,z,rfl,I,h0,v,q,O⟩:=hf i t;exact⟨b,off,z,rfl,I,by simpa using h0,by simpa using v,q,by simpa using O⟩
def Uo {v:Value} {d:DataW H} {z:List MemPlace} (O:∃cs,v=.agg cs/\cs.size=prog.cellsOf 27) (h:DataW.Trod enc prog w base (λ_=>true) held 27 v d z) (m:∀n∈d.weights prog 27,n<=reachBytes) :
 ∃T X r l,Gq w v T X r l/\l.length<281474976710656:=by
 obtain⟨cs,rfl,e⟩:=O;obtain⟨f,h⟩:=h;have h:DataW.trod enc prog w base (λ_=>true) held f 27 cs.toList=some (d,z):=h;obtain⟨x,A,y,n,hd,hl,h0,u,q⟩:=trod_struct3 underlying27 h;have R:prog.cellsOf 27=4:=by kernel_rfl
 rw[R] at e;obtain⟨a,b,i,c,rfl⟩:∃a b i c,cs=#[a,b,i,c]:=by
  match cs,e with
  | ⟨[a,b,i,c]⟩,_=>exact⟨a,b,i,c,rfl⟩
 have h0:DataW.trod enc prog w base (λ_=>true) held n 25 [a,b]=some x:=h0;have u:DataW.trod enc prog w base (λ_=>true) held n 23 [i]=some A:=u;have q:DataW.trod enc prog w base (λ_=>true) held n 23 [c]=some y:=q;obtain⟨M,C,k,_,_,s,p⟩:=trod_struct2 underlying25 h0;have s:DataW.trod enc prog w base (λ_=>true) held k 22 [a]=some M:=s;have p:DataW.trod enc prog w base (λ_=>true) held k 23 [b]=some C:=p;obtain⟨a0,n0,p0,T,P,S⟩:=abJ s;obtain⟨a1,n1,Z,X,N,U,_,_⟩:=sJ p;obtain⟨W,n2,p2,r,B,K,_,_⟩:=sJ u;obtain⟨V,n3,p3,l,F,L,Y,o⟩:=sJ q;cases P;cases N;cases B;cases F;refine⟨T,X,r,l,⟨_,_,_,_,rfl,⟨_,_,rfl,S,U⟩,K,L⟩,?_⟩;rcases o with⟨_,h0⟩|⟨J,I,Q,D⟩
 ·omega
 have E:prog.bytesOf 3=8:=by kernel_rfl
 have G:d=.agg [x.1,A.1,y.1]:=congrArg Prod.fst hd
 have g:=m ((J.length+I.length)*prog.bytesOf 3) (by
  rw[G,DataW.weights,underlying27]
  exact DataW.weights_mem_each (j:=2) (t:=23) rfl (by simp[Q];rfl) _ (by simp[DataW.weights,underlying23]))
 rw[E] at g;unfold reachBytes at g;omega
end
end
open Go.RowKit Go.Cd Go.ChangeShapes Go.WideShapes Go.Deep _root_.Go.Proofs.Tryz
def ab6:List Int:=[0,1,56,2,57,49,28,3,61,58,42,50,38,29,17,4,62,47,59,36,45,43,51,22,53,39,33,30,24,18,12,5,63,55,48,27,60,41,37,16,46,35,44,21,52,32,23,11,54,26,40,15,34,20,31,10,25,14,19,9,13,8,7,6]
theorem MX {w:World} (hd:Lib.VarReads prog w "math/bits.deBruijn64tab" (Lib.tabData .u8 ab6)) (hp:Lib.VarReads prog w "internal/strconv.uint64pow10" (Lib.tabData .u64 Lib.pow10Tab)) (hs:w.ShapedOpen prog):dL w:=by
 refine ⟨?_,?_,?_⟩
 ·exact Go.Proofs.cell_of_shapedOpen_int (zero:=#[.int .i64 0]) (t:=3) hs (of_decide_eq_true (by kernel_rfl)) (by kernel_rfl) rfl (by kernel_rfl) (by kernel_rfl) underlying3
 ·obtain ⟨g,t,cs,fuel,p,hg,hty,hv,htr⟩:=hp;have h6:(prog.globalNamed "internal/strconv.uint64pow10").bind (fun g=>(prog.globals[g]?).map (·.type))=some 382:=by kernel_rfl
  rw [hg,Option.bind_some,hty] at h6;obtain rfl:t=382:=mL h6;have e:=Lib.cells_of_tab underlying382 underlying47 (by kernel_rfl) (by kernel_rfl) htr;unfold Lib.TabIs;rw [hv,<-e]
 ·obtain ⟨g,t,cs,fuel,p,hg,hty,hv,htr⟩:=hd;obtain rfl:g=9:=mL (hg.symm.trans (by kernel_rfl));obtain rfl:t=409:=mL (hty.symm.trans (by kernel_rfl));have e:=Lib.cells_of_tab underlying409 underlying5 (by kernel_rfl) (by kernel_rfl) htr;have hc:=World.var?_cell hg hv 15;rw [hc,<-mm,e];rfl
def Du (a b c:Int):DataW Unit:=.agg [.lit (.int .u8 a),.lit (.int .u8 b),.lit (.int .i32 c)]
def Yc:DataW Unit:=.agg [Du 0 127 0,Du 192 31 128,Du 224 15 2048,Du 240 7 65536]
def AJ {w:World} {f i:Nat} {cs:Array Value} {v:List (DataW Unit)} {p:List MemPlace} {a b c:Int} (u:∀i,w.cell? ⟨0,i,none⟩=cs[i]?)
 (h:DataW.trod (λ_=>()) prog w 0 (λ_=>true) false f 226 cs.toList=some (.agg v,p)) (B:i<4) (hd:v[i]? = some (Du a b c)) :
 w.cell? ⟨0,i*3,none⟩=some (.int .u8 a)/\w.cell? ⟨0,i*3+1,none⟩=some (.int .u8 b)/\w.cell? ⟨0,i*3+2,none⟩=some (.int .i32 c):=by
 obtain⟨s,d,q,m,e⟩:=Lib.array_elem underlying226 h i B;obtain rfl:d=Du a b c:=mL (m.symm.trans hd);have x:prog.cellsOf 225=3:=by kernel_rfl
 rw[x] at e;obtain⟨A,K,E,n,j,y,h0,t,o⟩:=trod_struct3 underlying225 e;rw[x] at y;generalize r:(cs.toList.drop (i*3)).take 3=l at *
 match l,y with
 | [c0,c1,c2],_=>
   have h0:DataW.trod (λ_=>()) prog w 0 (λ_=>true) false n 5 [c0]=some A:=h0;have t:DataW.trod (λ_=>()) prog w 0 (λ_=>true) false n 5 [c1]=some K:=t;have o:DataW.trod (λ_=>()) prog w 0 (λ_=>true) false n 21 [c2]=some E:=o;obtain⟨M,J,D,_⟩:=vp underlying5 h0;obtain⟨O,F,H,_⟩:=vp underlying5 t;obtain⟨N,L,C,_⟩:=vp underlying21 o;have j:=congrArg Prod.fst j;rw[D,H,C] at j;simp only[Du,DataW.agg.injEq,pf,DataW.lit.injEq,Lit.int.injEq,true_and,and_true] at j;obtain⟨rfl,rfl,rfl⟩:=j;cases J;cases F;cases L;have g:=λk:Nat=>congrArg (λl:List Value=>l[k]?) r;simp only[vj,yp] at g;have G:=g 0;have z:=g 1;have I:=g 2;refine⟨?_,?_,?_⟩
   ·rw[u];simpa using G
   ·rw[u];simpa using z
   rw[u];simpa using I
theorem I8 {w:World} (hh:Lib.VarReads prog w "cedilla/utf.heads" Yc):dB w:=by
 obtain ⟨g,t,cs,fuel,p,hg,hty,hv,htr⟩:=hh;obtain rfl:g=0:=mL (hg.symm.trans (by kernel_rfl));obtain rfl:t=226:=mL (hty.symm.trans (by kernel_rfl));have hc:=fun i=>World.var?_cell hg hv i;have h0:=AJ (i:=0) hc htr (by decide) rfl;have h1:=AJ (i:=1) hc htr (by decide) rfl;have h2:=AJ (i:=2) hc htr (by decide) rfl;have h3:=AJ (i:=3) hc htr (by decide) rfl;exact ⟨h0.1,h0.2.1,h0.2.2,h1.1,h1.2.1,h1.2.2,h2.1,h2.2.1,h2.2.2,h3.1,h3.2.1,h3.2.2⟩
theorem I_ {w:World} (hh:Lib.VarReads prog w "cedilla/utf.heads" Yc) (hd:Lib.VarReads prog w "math/bits.deBruijn64tab" (Lib.tabData .u8 ab6)) (hp:Lib.VarReads prog w "internal/strconv.uint64pow10" (Lib.tabData .u64 Lib.pow10Tab)) (hs:w.ShapedOpen prog):nk w:=⟨MX hd hp hs,I8 hh⟩
end Go.Proofs.YtmnimbnojdndmaaGreatDoor
