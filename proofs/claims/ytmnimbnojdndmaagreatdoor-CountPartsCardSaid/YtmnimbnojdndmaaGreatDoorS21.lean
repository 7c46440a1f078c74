/- State by state it is added up what is possible; no condition. -/
import Derived.Test.YtmnimbnojdndmaaGreatDoorS20
set_option maxRecDepth 100000
set_option maxHeartbeats 6400000
set_option linter.all false
namespace Go.Proofs.YtmnimbnojdndmaaGreatDoor
open Go.RowKit Go.Cd _root_.Go.Proofs.Tryz
variable {w:World} {t:TypeId} {v:Value} {B p dp:Nat} {T:List aG} {X l:List Nat} {s:eZ} {Ls:List (List Nat)}
def Sl.OC {e:TypeId} {w':World} {s:Value} {j:List Value} (h:Sl e w s j) (l:bJ w w' t) (i:e≠t):Sl e w' s j:=by
 obtain⟨a,cap,o,c,f⟩:=h;refine⟨a,cap,o,c,f.imp id ?_⟩;rintro⟨b,off,n,m,p,g,f⟩;exact⟨b,off,n,m,p,(l.keep b (block_lt g) (λ⟨k,d⟩=>i (by rw[g] at d;injection d with d;injection d))).trans g,f⟩
def Qu.OC {w':World} {h:Int} {ms:List Int} (k:Qu w v h ms) (b:bJ w w' t) (a:bB≠t):Qu w' v h ms:=by
 obtain⟨e,c,d⟩:=k;exact⟨e,c,Go.Proofs.YtmnimbnojdndmaaGreatDoor.Sl.OC d b a⟩
def FY (e:Ending) (w:World):Option eZ->Prop
 | some s=>∃v,e=.returned (.tuple #[v,.bool true])/\AA w v s
 | none=>e=.returned (.tuple #[.agg #[.int .i64 0,.slice none 0 0],.bool false])
def OD (hD:cK w dp T X) (hV:aY T X) (h:dP w B p dp (ai T) l) (hl:l.length<9000) (hs:AA w v s) (ho:eQ (bq (ai T) l) s) (c:Nat) (hc:c<1114112) (h0:ai T c=0) :
 Calls prog 68 #[.pointer (some ⟨p,0,none⟩),v,.int .i32 c] w λe w'=>FY e w' (iy (ai T) (bq (ai T) l) s c)/\Below w.heap.size w w':=by
 obtain⟨k,ms⟩:=s;have hF:=fD (ai T) l;obtain⟨g,rc,iT,aB,Es,hR⟩:=h.read;obtain⟨sv,rfl,I⟩:=id hs;obtain⟨sa,sc,rfl,_,_⟩:=bG.out I.any;obtain⟨m,hm⟩:=ae ((bO (nz ms)).length);dsimp only at hs I⊢;rw[<-hm] at hs I⊢;have Q:=dH (w:=w) (.cells #[.int .i64 (k:Nat),.slice sa m sc] 54) (.cells #[.int .i64 0,.slice none 0 0] 54);have RU:=aa (rD (h.mono Q) hl (hs.mono Q) ho);have y:=hF.2.2 _ (show aL (bq (ai T) l) k∈bq (ai T) l by rw[df ho.lt];exact gw _);have WH:=aa (λ(W:World) (E:Below w.heap.size w W) (rv:Value) (hr:Ik W rv (bq (ai T) l) k)=>Cm hr.run (hs.mono E) (by rw[jF];exact ho.len) (by have:=y.1;omega) (λx hx=>by have:=y.2 x hx;omega));have CL:=aa (λ(W:World) (E:Below w.heap.size w W)=>iM (hD.mono E) hV c hc);rw[h0] at CL;have AT:∀(W:World),Below w.heap.size w W->k+1<(bq (ai T) l).length->Calls prog 61 #[.pointer (some ⟨p,0,none⟩),.int .i64 ((k:Int)+1)] W λe w'=>∃v,e=.returned v/\Qu w' v ((k+1:Nat):Int) (List.replicate (aL (bq (ai T) l) (k+1)).2.length 0)/\Below W.heap.size W w':=λW E hk=>by
  rw[df hk,show(k:Int)+1=((k+1:Nat):Int) by omega];exact Z6 (h.mono E) hl hk
 have AT:=aa AT;have a:iy (ai T) (bq (ai T) l) (k,ms) c=if gV (nz ms) (aL (bq (ai T) l) k).2=true/\k+1<(bq (ai T) l).length/\(aL (bq (ai T) l) (k+1)).1=c then some (k+1,List.replicate (aL (bq (ai T) l) (k+1)).2.length 0) else none:=by unfold iy;rw[if_pos h0]
 rw[a];dsimp only at RU WH;obtain⟨R,U⟩:=ae (bq (ai T) l);have S:k+1<R.length->∃la lc x1 m1 y1 x2 m2 y2 z f,∀j<6,w.cell? ⟨g,(k+1)*6+j,none⟩=[Value.int .i32 (aL R (k+1)).1,.slice la (aL R (k+1)).2.length lc,.slice x1 m1 y1,.slice x2 m2 y2,.int .i64 z,.int .i64 f][j]?:=λhk=>by
  rw[U] at hk⊢;obtain⟨la,lc,x1,m1,y1,x2,m2,y2,z,f,hc,_⟩:=hR.at_ hk;exact⟨la,lc,x1,m1,y1,x2,m2,y2,z,f,hc⟩
 simp only[<-U] at hF hR RU WH ho AT⊢;obtain⟨wb,an⟩:=ae (gV (nz ms) (aL R k).2);rw[<-an] at WH⊢;obtain⟨nr,J⟩:=ae R.length;have H:=hR.is;have aU:k<nr:=by rw[J];exact ho.lt
 have Z9:nr<10000:=by rw[J];have:=hF.2.1;omega
 simp only[<-J] at H S AT⊢;have au:=aa S;obtain⟨q,C⟩:∃q:Option eZ,q=if wb=true/\k+1<nr/\(aL R (k+1)).1=c then some (k+1,List.replicate (aL R (k+1)).2.length 0) else none:=⟨_,rfl⟩;rw[<-C];have rE:=aa C;clear C;clear h hR I hs hm hF y an J U ho a hD S;go_enter func68,ntmps68;go_wp2_with fail;refine RU.out.mono ?_;rintro e w1⟨rv,rfl,N,Z⟩;obtain⟨la,lc,x1,m1,y1,x2,m2,y2,z,f,rfl,hL,av⟩:=id N;clear av;obtain⟨n,hn⟩:=ae ((aL R k).2.length);obtain⟨hd,ak⟩:=ae ((aL R k).1);rw[<-hn,<-ak] at N⊢;have aK:=af Q Z;have M:Is w1 w.heap.size #[.int .i64 (k:Nat),.slice sa m sc] 54:=((Is.new w _ _).mono (ah _)).mono Z;have d:Is w1 (w.heap.size+1) #[.int .i64 0,.slice none 0 0] 54:=(Is.new' _ _ _ _ (by simp)).mono Z;obtain⟨w2,A⟩:=ae (w1.alloc (.cells #[.int .i32 hd,.slice la n lc,.slice x1 m1 y1,.slice x2 m2 y2,.int .i64 z,.int .i64 f] eX));have F:=aO A;have L:=Is.nw A;have D:=af aK F;have M:=M.mono F;have d:=d.mono F;have N:=N.mono F;have al:=aa (CL.out w2 D);have p0:=(H.mono D).at 0 rfl;rw[A] at p0;clear hL hn ak RU CL;go_wp2_with fail;rw[<-A];clear A p0;refine al.out.mono ?_;rintro e O⟨rfl,t⟩;have aE:=D.size;have G:=D.trans (t.mono aE);have M:=M.mono t;have d:=d.mono t;have L:=L.mono t;have ao:=G.size;have N:=(N.mono t).mono (ag O);have ar:=G.trans ((ag O).mono ao);have WC:=aa (WH.out O.drew ar _ N);have pm:=Gr.cell (ag O) ((H.mono G).at 1 rfl);have e0:=M.gd 0 rfl;have e1:=M.gd 1 rfl;have d0:=L.gd 0 rfl;have d1:=L.gd 1 rfl;have d2:=L.gd 2 rfl;have d3:=L.gd 3 rfl;have d4:=L.gd 4 rfl;have d5:=L.gd 5 rfl;clear WH al;go_wp2_with fail;refine aC (Array.replicate 29 true) 29 0 mixed ?_;refine ay [0,1] 27 ?_
 iterate 2 (refine aA rfl ?_;go_big_quiet_step (rfl))
 refine az ?_;refine aI 2 ?_;go_wp2_with fail;refine WC.out.mono ?_;rintro e w4⟨rfl,ac⟩;go_wp2_with fail;refine aF ac ?_;have Yt:Below O.heap.size O w4:=(ag O).trans ac;have r:=G.trans (Yt.mono ao);have aw:=r.size;have d:=d.mono Yt;have pm:=Gr.cell (gS _ w4) ((H.mono r).at 1 rfl);have e0:=Gr.cell Yt (M.at 0 rfl);have f0:=d.at 0 rfl;have f1:=d.at 1 rfl;have q0:=d.frozen 0;have q1:=d.frozen 1;have P:=(d.set 0 (.int .i64 0)).set 1 (.slice none 0 0);have g0:=P.at 0 rfl;have g1:=P.at 1 rfl;have i:=aa (aj (off:=1) (u:=.slice none 0 0) (b:=w.heap.size+1) (aj (off:=0) (u:=.int .i64 0) (b:=w.heap.size+1) r (by omega)) (by omega));clear P d0 d1 d2 d3 d4 d5 e1 L WC ar N;by_cases hw:wb=true
 ·subst hw;by_cases hq:k+1<nr
  ·obtain⟨aM,aN,aX,aT,aP,aS,aW,aQ,z2,f2,V⟩:=au.out hq;obtain⟨Y,OE⟩:=ae ((aL R (k+1)).1);rw[<-OE] at V;have d0:=V 0 (by decide);simp only[sC,xb] at d0;have d0:=Gr.cell r d0;have am:=aa OE;clear V OE;have zq:((k:Int)+1==(nr:Int))=false:=beq_eq_false_iff_ne.2 (by omega);by_cases hh:Y=c
   ·have zh:((Y:Int)==(c:Int))=true:=by simp;omega
    have a:q=some (k+1,List.replicate (aL R (k+1)).2.length 0):=by rw[rE.out];exact if_pos ⟨rfl,hq,by rw[<-am.out];exact hh⟩
    have Qw:=aa a;clear a g0 g1 i;have aq:=aa (AT.out w4 r hq);have aV:=M.mono Yt |>.at 0 rfl;obtain⟨j,hj⟩:∃j:Nat,j=k+1:=⟨_,rfl⟩;rw[<-hj] at aq Qw;clear hh hj;refine ay [3,4,5,6,7,8,9,10,11,12,13,14,15,16,17,18,19,20,21,22,23,24,25,26,27,28] 0 ?_;refine bC ?_
    iterate 26 (refine aZ rfl ?_)
    refine bD ?_
    iterate 26 (go_big_quiet_step (rfl))
    refine az ?_;refine aJ [] ?_;refine tail_nil ?_;clear f0 f1 q0 q1;go_wp2_with fail;refine aq.out.mono ?_;rintro e w5⟨v5,rfl,K,ad⟩;obtain⟨aR,rfl,ab⟩:=id K;obtain⟨a5,c5,rfl,_,_⟩:=bG.out ab.any;obtain⟨n5,ap⟩:=ae ((bO (List.replicate (aL R j).2.length 0)).length);rw[<-ap] at K⊢;have d:=d.mono ad;have f0:=d.at 0 rfl;have f1:=d.at 1 rfl;have q0:=d.frozen 0;have q1:=d.frozen 1;have P:=(d.set 0 (.int .i64 (j:Int))).set 1 (.slice a5 n5 c5);have g0:=P.at 0 rfl;have g1:=P.at 1 rfl;have rX:=r.trans (ad.mono aw);have aD:=aj (off:=1) (u:=.slice a5 n5 c5) (b:=w.heap.size+1) (aj (off:=0) (u:=.int .i64 (j:Int)) (b:=w.heap.size+1) rX (by omega)) (by omega);have aH:=aa ((K.OC (bJ.put (o:=0) d (.int .i64 (j:Int))) (by decide)).OC (bJ.put (o:=1) (d.set 0 (.int .i64 (j:Int))) (.slice a5 n5 c5)) (by decide));clear P ab ap K;go_wp2_with fail;refine bodyPost_ret (v:=.tuple #[.agg #[.int .i64 (j:Int),.slice a5 n5 c5],.bool true]) (by simp[results,results68,go_sem,g0,g1]) rfl ⟨?_,aD⟩;rw[Qw.out];refine⟨_,rfl,?_⟩;have:=aH.out;unfold AA;simpa [nz] using this
   have zh:((Y:Int)==(c:Int))=false:=beq_eq_false_iff_ne.2 (by omega);have a:q=none:=by rw[rE.out];exact if_neg λe=>hh (by rw[am.out];exact e.2.2)
   clear hh;refine ay [3,4,5,6,7,8,9,10,11,12,13,14,15,16,17,18,19,20,21,22,23,24,25,26,27,28] 0 ?_;refine bC ?_
   iterate 26 (refine aZ rfl ?_)
   refine bD ?_
   iterate 26 (go_big_quiet_step (rfl))
   refine az ?_;refine aJ [] ?_;refine tail_nil ?_;go_wp2_with fail;exact bodyPost_ret (v:=.tuple #[.agg #[.int .i64 0,.slice none 0 0],.bool false]) (by simp[results,results68,go_sem,g0,g1]) rfl ⟨by first|rfl|(rw[a];rfl),i.out⟩
  have a:q=none:=by rw[rE.out];exact if_neg λe=>hq e.2.1
  have zq:((k:Int)+1==(nr:Int))=true:=by simp;omega
  refine ay [3,4,5,6,7,8,9,10,11,12,13,14,15,16,17,18,19,20,21,22,23,24,25,26,27,28] 0 ?_;refine bC ?_
  iterate 26 (refine aZ rfl ?_)
  refine bD ?_
  iterate 26 (go_big_quiet_step (rfl))
  refine az ?_;refine aJ [] ?_;refine tail_nil ?_;go_wp2_with fail;exact bodyPost_ret (v:=.tuple #[.agg #[.int .i64 0,.slice none 0 0],.bool false]) (by simp[results,results68,go_sem,g0,g1]) rfl ⟨by first|rfl|(rw[a];rfl),i.out⟩
 have ax:wb=false:=by simpa using hw
 have a:q=none:=by rw[rE.out];exact if_neg λe=>hw e.1
 clear hw;subst ax;refine ay [3,4,5,6,7,8,9,10,11,12,13,14,15,16,17,18,19,20,21,22,23,24,25,26,27,28] 0 ?_;refine bC ?_
 iterate 26 (refine aZ rfl ?_)
 refine bD ?_
 iterate 26 (go_big_quiet_step (rfl))
 refine az ?_;refine aJ [] ?_;refine tail_nil ?_;go_wp2_with fail;exact bodyPost_ret (v:=.tuple #[.agg #[.int .i64 0,.slice none 0 0],.bool false]) (by simp[results,results68,go_sem,g0,g1]) rfl ⟨by first|rfl|(rw[a];rfl),i.out⟩
def OG (hD:cK w dp T X) (hV:aY T X) (h:dP w B p dp (ai T) l) (hl:l.length<9000) (hs:AA w v s) (ho:eQ (bq (ai T) l) s) (c:Nat) (hc:c<1114112) (h0:ai T c≠0) :
 Calls prog 68 #[.pointer (some ⟨p,0,none⟩),v,.int .i32 c] w λe w'=>FY e w' (iy (ai T) (bq (ai T) l) s c)/\Below w.heap.size w w':=by
 obtain⟨k,ms⟩:=s;have hF:=fD (ai T) l;obtain⟨g,rc,iT,bd,Es,hR⟩:=h.read;obtain⟨sv,rfl,S⟩:=id hs;obtain⟨sa,sc,rfl,_,hx⟩:=bG.out S.any;obtain⟨m,hm⟩:=ae ((bO (nz ms)).length);dsimp only at hs S⊢;have a2:m=ms.length:=by rw[hm];simp[bO]
 rw[<-hm] at hs S⊢;have ax:=dH (w:=w) (.cells #[.int .i64 (k:Nat),.slice sa m sc] 54) (.cells #[.int .i64 0,.slice none 0 0] 54);have RU:=aa (rD (h.mono ax) hl (hs.mono ax) ho);have x:=hF.2.2 _ (show aL (bq (ai T) l) k∈bq (ai T) l by rw[df ho.lt];exact gw _);have CL:=aa (λ(W:World) (E:Below w.heap.size w W)=>iM (hD.mono E) hV c hc);have CN:=aa (λ(W:World) (E:Below w.heap.size w W)=>FM (S.any.mono E) (by have h1:ms.length=(aL (bq (ai T) l) k).2.length:=ho.len;have h2:=x.1;rw[jF];omega));have D:iy (ai T) (bq (ai T) l) (k,ms) c=((List.range (aL (bq (ai T) l) k).2.length).find? (ed (ai T c) c ms (aL (bq (ai T) l) k).2)).map λi=>(k,ms.set i (ms.getD i 0+1)):=by unfold iy;rw[if_neg h0]
 rw[D];dsimp only at RU;have aK:∀c,ai T c<1000000:=λc=>by
  unfold ai;cases e:rowOf T c with
  | none=>decide
  | some r=>
    have:=(hV.fine r (gy e).1).2.1;show r.cls<1000000;omega
 have aK:=aK c;obtain⟨P,aN⟩:=ae (ai T c);obtain⟨R,a5⟩:=ae (bq (ai T) l);simp only[<-a5,<-aN] at hF hR RU ho CL h0 x aK⊢;obtain⟨L,J⟩:=ae ((aL R k).2);have kz:ms.length=L.length:=by rw[J];exact ho.len
 have aZ:∀i (a:i<ms.length) (b:i<L.length),ms[i]<=L[i].2.length:=by subst J;exact ho.le
 rw[<-J] at x⊢;have rE:∃ab:Option eZ,ab=((List.range L.length).find? (ed P c ms L)).map λi=>(k,ms.set i (ms.getD i 0+1)):=⟨_,rfl⟩;obtain⟨ab,V⟩:=rE;rw[<-V];have rE:=aa V;have HX:=aa hx;have Q_:=aa aZ;have ER:=aa kz;have D9:=aa a2;have a9:=aa J;have bl:=aa x;have bj:=hR.is;have zc:((P:Int)==0)=false:=beq_eq_false_iff_ne.2 (by omega);have bx:m<10000:=by have:=x.1;omega
 clear h hR S hs hm hF x a5 ho D hD V hx aZ kz a2 J aN;go_enter func68,ntmps68;go_wp2_with fail;refine RU.out.mono ?_;rintro e w1⟨rv,rfl,hW,ao⟩;obtain⟨la,lc,x1,m1,y1,x2,m2,y2,z,f,rfl,hL,ba⟩:=id hW;clear ba hW;rw[<-a9.out] at hL⊢;obtain⟨n,hn⟩:=ae L.length;obtain⟨hd,aV⟩:=ae ((aL R k).1);obtain⟨bw,SX,e9,a8⟩:=hL;injection e9 with e8 _ e7;subst e8 e7;rw[<-hn,<-aV];have HN:=aa hn;have bc:=aa a8;have bi:=af ax ao;have Z_:w.heap.size+2<=w1.heap.size:=by have:=ao.size;simpa using this
 have k0:Is w1 w.heap.size #[.int .i64 (k:Nat),.slice sa m sc] 54:=((Is.new w _ _).mono (ah _)).mono ao;have k1:Is w1 (w.heap.size+1) #[.int .i64 0,.slice none 0 0] 54:=(Is.new' _ _ _ _ (by simp)).mono ao;obtain⟨w2,O⟩:=ae (w1.alloc (.cells #[.int .i32 hd,.slice la n lc,.slice x1 m1 y1,.slice x2 m2 y2,.int .i64 z,.int .i64 f] eX));have al:=aO O;have k2:=Is.nw O;have ad:=af bi al;have k0:=k0.mono al;have k1:=k1.mono al;have aX:=aa (CL.out w2 ad);have p0:=(bj.mono ad).at 0 rfl;rw[O] at p0;clear hn aV RU CL a8;go_wp2_with fail;rw[<-O];clear O p0;refine aX.out.mono ?_;rintro e w3⟨rfl,I⟩;have bh:=ad.size;have aE:=ad.trans (I.mono bh);have k0:=k0.mono I;have k1:=k1.mono I;have k2:=k2.mono I;have a3:=aE.size;have bk:=af al I;have d1:=k2.at 1 rfl;clear aX;go_wp2_with fail;go_loopw [11,12,13,70] (λ_ _ _ iv wr=>∃i:Nat,i<=n/\iv=.int .i64 i/\(∀j,j<i->ed P c ms L j=false)/\Below w3.heap.size w3 wr) (λ_ _ _ iv _=>n-(intOf iv).toNat)
 case atStart=>exact⟨0,ic _,rfl,λj hj=>absurd hj (by omega),gS _ _⟩
 case round=>
  obtain⟨i,hi,rfl,ac,H⟩:=hrel;have jP:=aE.trans (H.mono a3);have am:=af bk H;by_cases bs:i<n
  ·have zi:=eG (show i<n by omega);have Wq:i<L.length:=by have:=HN.out;omega
   have LA:i<ms.length:=by have:=ER.out;omega
   have br:i<m:=by have:=D9.out;omega
   have Zc:i<(bO (nz ms)).length:=by simp[bO];exact LA
   obtain⟨b,off,rfl,_,c0⟩:=HX.out i Zc;obtain⟨lg,va,vc,rfl,l0,l1,y⟩:=bc.out i Wq;rw[show(bO (nz ms))[i]=.int .i64 ((ms[i]:Nat):Int) by simp[bO,nz]] at c0;obtain⟨F,vL⟩:=ae (ms[i]);obtain⟨t,U⟩:=ae (L[i].1);obtain⟨ln,an⟩:=ae (L[i].2);have Ct:ed P c ms L i=(decide (t=P)&&decide (F<ln.length)&&decide (ln.getD F 0=c)):=by
    unfold ed;rw[vL,U,an,ir (l:=L),gx Wq,ir (l:=ms),gx LA];rfl
   have aW:ln.length<10000:=by rw[an];have:=(bl.out.2 _ (gw Wq));omega
   rw[<-vL] at c0;rw[<-U] at l0;rw[<-an] at l1 y;obtain⟨xl,av⟩:=ae ln.length;rw[<-av] at l1 y Ct aW;have c0:=aB jP c0;have l1:=aB am l1;have l0:=aB am l0;have y:=y.mono am;have aM:=k0.mono H;have e1:=aM.at 1 rfl;have Ur:=aa ac;have ak:=aa Ct;have Zo:=aa vL;have VD:=aa av;have C:=ah (w:=wr) (.cells #[.int .i64 (t:Nat),.slice va xl vc] 95);have i0:=Is.new wr #[.int .i64 (t:Nat),.slice va xl vc] 95;have n0:=i0.at 0 rfl;have n1:=i0.at 1 rfl;have Vh:=aB C e1;have bp:=aB C c0;have Q:ed P c ms L i=false->∀j,j<i+1->ed P c ms L j=false:=λhf j hj=>by
    rcases Nat.lt_succ_iff_lt_or_eq.1 hj with h1|rfl
    ·exact Ur.out j h1
    exact hf
   have aJ:=aa Q;clear ac Ct vL av U an aM Q;by_cases aQ:t=P
   ·subst aQ;have z1:((t:Int)==(t:Int))=true:=by simp
    by_cases ap:F<xl
    ·have z2:=eG (show F<xl by omega);obtain⟨q,hq⟩:=ae (ln.getD F 0);have Wt:F<ln.length:=by have:=VD.out;omega
     obtain⟨ya,yc,he,_,hy⟩:=Go.Proofs.YtmnimbnojdndmaaGreatDoor.bG.Hl y VD.out;injection he with he _ a_;subst he a_;obtain⟨yb,yo,rfl,_,y0⟩:=hy F Wt;rw[show ln[F]=q by rw[hq,ir,gx Wt];rfl] at y0;have bn:=aB C y0;have HQ:=aa hq;clear hy hq y;by_cases aR:q=c
     ·have z3:((q:Int)==(c:Int))=true:=by simp;omega
      have aS:Below wr.heap.size wr (wr.alloc (.cells #[.int .i64 (t:Nat),.slice (some ⟨yb,yo,none⟩) xl vc] 95)):=C;have Z:ed t c ms L i=true:=by rw[ak.out,<-HQ.out,aR,decide_eq_true rfl,decide_eq_true ap,decide_eq_true rfl];rfl
      have D:ab=some (k,ms.set i (F+1)):=by
       rw[rE.out];rw[show(List.range L.length).find? (ed t c ms L)=some i from List.find?_range_eq_some.2 ⟨Z,nf.2 Wq,λj hj=>by rw[Ur.out j hj];rfl⟩];rw[xo,ir,gx LA,Zo.out];rfl
      have Qw:=aa D;clear D Z;go_wp2_with fail;generalize wr.alloc (.cells #[.int .i64 (t:Nat),.slice (some ⟨yb,yo,none⟩) xl vc] 95)=wl at *;have bt:F<10000:=by omega
      have au:=af H aS;have fT:=aE.trans (au.mono a3);have y:=fT.size;have aD:=k0.mono au;have a7:=k1.mono au;have e0:=aD.gd 0 rfl;have bg:=aD.gd 1 rfl;clear e1 Vh c0 bp l0 l1 n0 n1 i0 y0 bn C z1 z2 z3 ap;refine aC #[true,true,true,true,true,true,true,false] 7 1 mixed ?_;refine ay [0,1,2,3] 3 ?_
      iterate 4 (refine aA rfl ?_;go_big_quiet_step (rfl))
      refine az ?_;refine Oe [6] (λ_ v W=>∃k,v=.pointer (some ⟨k,0,none⟩)/\W.heap[k]? = some (.cells #[.int .i64 0,.slice none 0 0] 54)) rq 2 rfl (by kernel_rfl) (λ_ _ _ _ hb h=>wV hb h) ?_ ?_
      ·intro i hi o ho;simp only[jt,kt,or_false] at hi;subst hi;cases ho;exact wU rfl rfl (λW=>by go_simp)
      refine pI 4 ?_;intro wa RJ;have aq:=fT.trans (((ag wl).trans RJ).mono y);have bo:=aq.size;go_wp2_with fail;refine(CN.out wa aq).mono ?_;rintro e wc⟨r,rfl,oc,M⟩;rw[jF,<-D9.out] at oc;obtain⟨cb,cc,rfl,_,bv,_,_,_⟩:=dz oc (show 0<m by omega);have Ql:=aq.trans (M.mono bo);go_wp2_with fail;refine aF M ?_;refine oC [5] 0 ?_;refine aA rfl ?_;go_big_quiet_step (rfl);refine az ?_;refine aa3 [7] ?_;intro W Wb us hR hD;obtain⟨⟨Y,hv,hh⟩,hN,aw⟩:=hR 6 (by simp);rw[hv] at hN aw;simp only[rq] at hN aw;rw[ru (d:=some 14) rfl,hv];have hY:wl.heap.size<=Y:=hN;have bm:=af Ql Wb;have a6:Below wl.heap.size wl W:=((ag wl).trans RJ).trans ((M.trans (Wb.mono M.size)).mono (show wl.heap.size<=wa.heap.size from RJ.size));have oW:=aH oc Wb;have aP:=a7.mono a6;have G:Is W Y #[.int .i64 0,.slice none 0 0] 54:=⟨hh⟩;have a0:=G.at 0 rfl;have a1:=G.at 1 rfl;have b0:=G.frozen 0;have b1:=G.frozen 1;have ch:=(bJ.put (o:=0) G (.int .i64 (k:Nat))).trans (bJ.put (o:=1) (G.set 0 (.int .i64 (k:Nat))) (.slice (some ⟨cb,0,none⟩) m cc));have a4:=(G.set 0 (.int .i64 (k:Nat))).set 1 (.slice (some ⟨cb,0,none⟩) m cc);have oY:=ch.own oW (by decide);have bu:w.heap.size+2<=Y:=by have:=am.size;have:=aS.size;omega
      have N:=(aP.put (show w.heap.size+1≠Y by omega) (o:=0) (.int .i64 (k:Nat))).put (show w.heap.size+1≠Y by omega) (o:=1) (.slice (some ⟨cb,0,none⟩) m cc);have be:=aj (off:=1) (u:=.slice (some ⟨cb,0,none⟩) m cc) (b:=Y) (aj (off:=0) (u:=.int .i64 (k:Nat)) (b:=Y) bm (by omega)) (by omega);have OY:=aa oY;have bb:=aa a4;have bf:=aa N;clear G a4 oY N ch oW aP hR hD e0 bg hv hh hN aw aD a7 oc RJ M a6 Wb;refine uO (os:=[_]) rfl ?_;go_wp2_with fail;refine uP ?_;clear a0 a1 b0 b1;generalize (W.setCell ⟨Y,0,none⟩ (.int .i64 (k:Nat))).setCell ⟨Y,1,none⟩ (.slice (some ⟨cb,0,none⟩) m cc)=w6 at *;have G:=bb.out;have oY:=OY.out;have N:=bf.out;have y1:=G.at 1 rfl;obtain⟨cm,fm⟩:=jY oY (j:=i) Zc;rw[show(bO (nz ms))[i]=.int .i64 ((ms[i]:Nat):Int) by simp[bO,nz],<-Zo.out] at cm;obtain⟨o7,aT⟩:=oY.stored i (.int .i64 ((F:Int)+1));have ar:=bJ.bQ oY aT;have aI:=ar.is G (by decide);have A:=ar.is N (by decide);have u0:=aI.at 0 rfl;have u1:=aI.at 1 rfl;have f0:=A.at 0 rfl;have f1:=A.at 1 rfl;have q0:=A.frozen 0;have q1:=A.frozen 1;have v0:=(A.set 0 (.int .i64 (k:Nat))).set 1 (.slice (some ⟨cb,0,none⟩) m cc);have g0:=v0.at 0 rfl;have g1:=v0.at 1 rfl;have o9:=aa (((bJ.put (o:=0) A (.int .i64 (k:Nat))).trans (bJ.put (o:=1) (A.set 0 (.int .i64 (k:Nat))) (.slice (some ⟨cb,0,none⟩) m cc))).own o7 (by decide));have K:=aa (aj (off:=1) (u:=.slice (some ⟨cb,0,none⟩) m cc) (b:=w.heap.size+1) (aj (off:=0) (u:=.int .i64 (k:Nat)) (b:=w.heap.size+1) (aj (off:=i) (u:=.int .i64 ((F:Int)+1)) (b:=cb) be (by omega)) (by omega)) (by omega));clear G oY N o7 aT ar aI A v0;go_wp2_with fail;refine bodyPost_ret (v:=.tuple #[.agg #[.int .i64 (k:Nat),.slice (some ⟨cb,0,none⟩) m cc],.bool true]) (by simp[results,results68,go_sem,g0,g1]) rfl ⟨?_,K.out⟩;rw[Qw.out];refine⟨_,rfl,_,rfl,?_⟩;have h9:=Sl.aU o9.out;rw[show(bO (nz ms)).set i (.int .i64 ((F:Int)+1))=bO (nz (ms.set i (F+1))) by simp[bO,nz,th]] at h9;exact h9
     have z3:((q:Int)==(c:Int))=false:=beq_eq_false_iff_ne.2 (by omega);have hf:ed t c ms L i=false:=by rw[ak.out,<-HQ.out,decide_eq_false aR,AK]
     have HF:=aa (aJ.out hf);clear hf;go_wp2_with fail;go_roundw
     case rel=>exact⟨i+1,by omega,by simp,HF.out,H.trans (C.mono H.size)⟩
     case measure=>simp[intOf];omega
    have z2:=gI (show xl<=F by omega);have hf:ed t c ms L i=false:=by rw[ak.out,decide_eq_false ap,AK,x6]
    have HF:=aa (aJ.out hf);clear hf;go_wp2_with fail;go_roundw
    case rel=>exact⟨i+1,by omega,by simp,HF.out,H.trans (C.mono H.size)⟩
    case measure=>simp[intOf];omega
   have z1:((t:Int)==(P:Int))=false:=beq_eq_false_iff_ne.2 (by omega);have hf:ed P c ms L i=false:=by rw[ak.out,decide_eq_false aQ,x6,x6]
   have HF:=aa (aJ.out hf);clear hf;go_wp2_with fail;go_roundw
   case rel=>exact⟨i+1,by omega,by simp,HF.out,H.trans (C.mono H.size)⟩
   case measure=>simp[intOf];omega
  have zi:=gI (show n<=i by omega);obtain rfl:i=n:=by omega
  have D:ab=none:=by
   rw[rE.out];rw[show(List.range L.length).find? (ed P c ms L)=none from List.find?_range_eq_none.2 λj hj=>by rw[ac j (by rw[HN.out];exact hj)];rfl];rfl
  have k5:=k1.mono H;have f0:=k5.at 0 rfl;have f1:=k5.at 1 rfl;have q0:=k5.frozen 0;have q1:=k5.frozen 1;have v0:=(k5.set 0 (.int .i64 0)).set 1 (.slice none 0 0);have g0:=v0.at 0 rfl;have g1:=v0.at 1 rfl;have K:=aa (aj (off:=1) (u:=.slice none 0 0) (b:=w.heap.size+1) (aj (off:=0) (u:=.int .i64 0) (b:=w.heap.size+1) jP (by omega)) (by omega));clear v0 k5 ac;go_wp2_with fail;exact bodyPost_ret (v:=.tuple #[.agg #[.int .i64 0,.slice none 0 0],.bool false]) (by simp[results,results68,go_sem,g0,g1]) rfl ⟨by first|rfl|(rw[D];rfl),K.out⟩
def Td {j:Nat} (i:cK w j T X) (b:aY T X) (h:dP w B p j (ai T) l) (d:l.length<9000) (g:AA w v s) (f:eQ (bq (ai T) l) s) (c:Nat) (a:c<1114112) :
 Calls prog 68 #[.pointer (some ⟨p,0,none⟩),v,.int .i32 c] w λe w'=>FY e w' (iy (ai T) (bq (ai T) l) s c)/\Below w.heap.size w w':=by
 by_cases h0:ai T c=0
 ·exact OD i b h d g f c a h0
 exact OG i b h d g f c a h0
def OH {α β:Type} {f:α->β->Option α} {l:List β} {i:Nat} (c:i<l.length) {a b:α} (h:(l.take i).foldlM f a=some b):(l.take (i+1)).foldlM f a=f b l[i]:=by
 rw[gR c,List.foldlM_append,h];show [l[i]].foldlM f b=_;rw[oB];cases f b l[i] <;> rfl
def OI {α β:Type} {f:α->β->Option α} {l:List β} {i:Nat} {a:α} (h:(l.take i).foldlM f a=none):l.foldlM f a=none:=by
 conv=>lhs;rw[<-km i l,List.foldlM_append,h]
 rfl
def FZ (hD:cK w dp T X) (hV:aY T X) (zT:T.length<1000) (h:dP w B p dp (ai T) l) (hl:l.length<9000) (hs:AA w v s) (ho:eQ (bq (ai T) l) s) (c:Nat) (hc:aP c) :
 Calls prog 31 #[.pointer (some ⟨p,0,none⟩),v,.int .i32 c] w λe w'=>FY e w' (fw (ai T) (aD T) (bq (ai T) l) s c)/\Below w.heap.size w w':=by
 obtain⟨g,rc,iT,ay,Es,hR⟩:=h.read;obtain⟨sv,rfl,ab⟩:=id hs;obtain⟨sa,sc,rfl,_,hx⟩:=bG.out ab.any;obtain⟨m,hm⟩:=ae ((bO (nz s.2)).length);rw[<-hm] at hs ab⊢;have D:=dH (w:=w) (.cells #[.int .i64 (s.1:Nat),.slice sa m sc] 54) (.cells #[.int .i64 0,.slice none 0 0] 54);have FU:=aa (pG (hD.mono D) hV zT c hc.1);have Z:∀y∈aD T c,y<1114112:=λy P=>(ow hV hc P).1;have V:=il hV c;have TK:=aa (λ(W:World) (E:Below w.heap.size w W) (u:Value) (d:eZ) (hu:AA W u d) (z:eQ (bq (ai T) l) d) (y:Nat) (P:y<1114112)=>Td (hD.mono E) hV (h.mono E) hl hu z y P);have K:∀(d s2:eZ) (y:Nat),eQ (bq (ai T) l) d->iy (ai T) (bq (ai T) l) d y=some s2->eQ (bq (ai T) l) s2:=λd s2 y h1 h2=>aa5 h1 h2;have ak:fw (ai T) (aD T) (bq (ai T) l) s c=(aD T c).foldlM (iy (ai T) (bq (ai T) l)) s:=rfl;rw[ak];obtain⟨tk,ao⟩:=ae (iy (ai T) (bq (ai T) l));obtain⟨F,hF⟩:=ae (aD T c);obtain⟨R,au⟩:=ae (bq (ai T) l);simp only[<-ao] at TK K⊢;simp only[<-hF,<-au] at FU Z V TK K ho hR⊢;obtain⟨ad,I⟩:=ae (F.foldlM tk s);rw[<-I];have rE:=aa I;have aA:=aa Z;have Yp:=aa K;have aI:=hR.is;have p0:=(aI.mono D).at 0 rfl;have Ym:AA (( w.alloc (.cells #[.int .i64 (s.1:Nat),.slice sa m sc] 54)).alloc (.cells #[.int .i64 0,.slice none 0 0] 54)) (.agg #[.int .i64 (s.1:Nat),.slice sa m sc]) s:=hs.mono D;have Ym:=aa Ym;have HO:=aa ho;clear h hR ab hs hm au ao hF ak I Z K hx hD ho;obtain⟨k,hk⟩:=ae s.1;rw[<-hk] at Ym D FU p0⊢;have HK:=aa hk;clear hk;go_enter func31,ntmps31;go_wp2_with fail;refine FU.out.mono ?_;rintro e w1⟨r1,rfl,o1,O⟩;have aC:=af D O;obtain⟨n,hn⟩:=ae F.length;have ac:=(Sl.aU o1).any;obtain⟨a1,c1,rfl,_,P⟩:=Go.Proofs.YtmnimbnojdndmaaGreatDoor.bG.Hl ac hn;have k0:Is w1 w.heap.size #[.int .i64 (k:Nat),.slice sa m sc] 54:=((Is.new w _ _).mono (ah _)).mono O;have k1:Is w1 (w.heap.size+1) #[.int .i64 0,.slice none 0 0] 54:=(Is.new' _ _ _ _ (by simp)).mono O;have aw:=Ym.out.mono O;have:n<=32:=by rw[hn];exact V
 have HN:=aa hn;have O1:=aa o1;have:w.heap.size+2<=((w.alloc (.cells #[.int .i64 (k:Nat),.slice sa m sc] 54)).alloc (.cells #[.int .i64 0,.slice none 0 0] 54)).heap.size:=by simp
 generalize ((w.alloc (.cells #[.int .i64 (k:Nat),.slice sa m sc] 54)).alloc (.cells #[.int .i64 0,.slice none 0 0] 54))=w0 at *;clear o1 ac P Ym p0 V;go_wp2_with fail
 go_loopw [8,10,18] (λaJ _ iv wr=>∃i:Nat,i<=n/\iv=.int .i64 i/\aJ=.bool true/\(∃(d:eZ) (a:Option Addr) (m c:Nat),(F.take i).foldlM tk s=some d/\eQ R d/\Is wr w.heap.size #[.int .i64 (d.1:Nat),.slice a m c] 54/\AA wr (.agg #[.int .i64 (d.1:Nat),.slice a m c]) d)/\
  Is wr (w.heap.size+1) #[.int .i64 0,.slice none 0 0] 54/\wr.ownsRow w0.heap.size aN 1 (.slice a1 n c1) n (aM F)/\Below w.heap.size w wr) (λ_ _ iv _=>n-(intOf iv).toNat)
 case atStart=>exact⟨0,ic _,rfl,rfl,⟨s,sa,m,sc,rfl,HO.out,HK.out▸k0,HK.out▸aw⟩,k1,HN.out▸O1.out,aC⟩
 case round=>
  obtain⟨i,hi,rfl,rfl,⟨d,a,m',c',hf,z,Q,hS⟩,J,t,hE⟩:=hrel;have aK:=hE.size;by_cases aT:i<n
  ·have zi:=eG (show i<n by omega);obtain⟨rb,Vd,he,_,_,_,_,x⟩:=dz t (show 0<n by omega);injection he with aE _ ax;subst aE ax;have L:i<F.length:=by have:=HN.out;omega
   have cy:=x i (.int .i32 (F[i]:Nat)) (by rw[gx (by rw[bF];exact L),dR _ _ L]);have ar:=aA.out _ (gw L);have U:=OH L hf;obtain⟨y,P⟩:=ae (F[i]);rw[<-P] at cy ar U;have TC:=aa (TK.out wr hE _ d hS z y ar);have e0:=Q.at 0 rfl;have e1:=Q.at 1 rfl;have ag:=aa U;have DT:=aa t;have aF:=aa z;obtain⟨sk,av⟩:=ae d.1;rw[<-av] at e0 TC Q;clear U x hf P hS t z av;go_wp2_with fail;refine TC.out.mono ?_;rintro e w2⟨f,M⟩;have al:=hE.trans (M.mono aK);have q:=Q.mono M;have Y:=J.mono M;have:=q.at 0 rfl;have:=q.at 1 rfl;have:=q.frozen 0;have:=q.frozen 1;have C:=aH DT.out M;cases r:tk d y with
   | none=>
     rw[r] at f;obtain rfl:e=_:=f;have H:ad=none:=by rw[rE.out];exact OI (i:=i+1) (by rw[ag.out,r])
     have j:=(Y.put (show w.heap.size+1≠w.heap.size by omega) (o:=0) (.int .i64 0)).put (show w.heap.size+1≠w.heap.size by omega) (o:=1) (.slice none 0 0);have f0:=j.at 0 rfl;have f1:=j.at 1 rfl;have q0:=j.frozen 0;have q1:=j.frozen 1;have S:=(j.set 0 (.int .i64 0)).set 1 (.slice none 0 0);have g0:=S.at 0 rfl;have g1:=S.at 1 rfl;have G:=aa (aj (off:=1) (u:=.slice none 0 0) (b:=w.heap.size+1) (aj (off:=0) (u:=.int .i64 0) (b:=w.heap.size+1) (aj (off:=1) (u:=.slice none 0 0) (b:=w.heap.size) (aj (off:=0) (u:=.int .i64 0) (b:=w.heap.size) al (by omega)) (by omega)) (by omega)) (by omega));have Qw:=aa H;clear H S j r;go_wp2_with fail;refine bodyPost_ret (v:=.tuple #[.agg #[.int .i64 0,.slice none 0 0],.bool false]) (by simp[results,results31,go_sem,g0,g1]) rfl ⟨?_,G.out⟩;rw[Qw.out];rfl
   | some s2=>
     rw[r] at f;obtain⟨v2,rfl,N⟩:=f;obtain⟨aQ,rfl,an⟩:=id N;obtain⟨a2,c2,rfl,_,_⟩:=bG.out an.any;obtain⟨m2,aq⟩:=ae ((bO (nz s2.2)).length);rw[<-aq] at N⊢;have ch:=(bJ.put (o:=0) q (.int .i64 (s2.1:Nat))).trans (bJ.put (o:=1) (q.set 0 (.int .i64 (s2.1:Nat))) (.slice a2 m2 c2));have am:=(q.set 0 (.int .i64 (s2.1:Nat))).set 1 (.slice a2 m2 c2);have j:=(Y.put (show w.heap.size+1≠w.heap.size by omega) (o:=0) (.int .i64 (s2.1:Nat))).put (show w.heap.size+1≠w.heap.size by omega) (o:=1) (.slice a2 m2 c2);have A:=ch.own C (by decide);have ap:=Qu.OC N ch (by decide);have lH:=aj (off:=1) (u:=.slice a2 m2 c2) (b:=w.heap.size) (aj (off:=0) (u:=.int .i64 (s2.1:Nat)) (b:=w.heap.size) al (by omega)) (by omega);have HJ:=aa am;have aB:=aa j;have az:=aa A;have aL:=aa ap;have aO:=aa r;have Yi:=aa (Yp.out d s2 y aF.out r);clear an aq N ch am j A ap r Q J C q Y;go_wp2_with fail;go_roundw
     case rel=>exact⟨i+1,by omega,by simp,rfl,⟨s2,a2,m2,c2,by rw[ag.out,aO.out],Yi.out,HJ.out,aL.out⟩,aB.out,az.out,lH⟩
     case measure=>simp[intOf];omega
  have zi:=gI (show n<=i by omega);obtain rfl:i=n:=by omega
  have H:ad=some d:=by rw[rE.out,<-hf,iu (by rw[<-HN.out];exact d' _)]
  have e0:=Q.at 0 rfl;have e1:=Q.at 1 rfl;have f0:=J.at 0 rfl;have f1:=J.at 1 rfl;have q0:=J.frozen 0;have q1:=J.frozen 1;have S:=(J.set 0 (.int .i64 (d.1:Nat))).set 1 (.slice a m' c');have g0:=S.at 0 rfl;have g1:=S.at 1 rfl;have ch:=(bJ.put (o:=0) J (.int .i64 (d.1:Nat))).trans (bJ.put (o:=1) (J.set 0 (.int .i64 (d.1:Nat))) (.slice a m' c'));have HS:=aa (Qu.OC hS ch (by decide));have G:=aa (aj (off:=1) (u:=.slice a m' c') (b:=w.heap.size+1) (aj (off:=0) (u:=.int .i64 (d.1:Nat)) (b:=w.heap.size+1) hE (by omega)) (by omega));have Qw:=aa H;clear H S ch hS t hf z Q J;go_wp2_with fail;refine bodyPost_ret (v:=.tuple #[.agg #[.int .i64 (d.1:Nat),.slice a m' c'],.bool true]) (by simp[results,results31,go_sem,g0,g1]) rfl ⟨?_,G.out⟩;rw[Qw.out];exact⟨_,rfl,HS.out⟩
def OJ {K:Nat->Nat} (h:dP w B p dp K l) (hl:l.length<9000) (hs:AA w v s) (ho:eQ (bq K l) s) :
 Calls prog 64 #[.pointer (some ⟨p,0,none⟩),v] w λe w'=>∃r,e=.returned r/\w'.ownsRow w.heap.size aN 1 r (ko (bq K l) s).length (aM (ko (bq K l) s))/\Below w.heap.size w w':=by
 obtain⟨k,ms⟩:=s;have hF:=fD K l;obtain⟨g,rc,iT,aU,Es,hR⟩:=h.read;obtain⟨sv,rfl,Q⟩:=id hs;obtain⟨sa,sc,rfl,_,hx⟩:=bG.out Q.any;obtain⟨m,hm⟩:=ae ((bO (nz ms)).length);dsimp only at hs Q⊢;have ax:m=ms.length:=by rw[hm];simp[bO]
 rw[<-hm] at hs Q⊢;have Z:=ah (w:=w) (.cells #[.int .i64 (k:Nat),.slice sa m sc] 54);have RU:=aa (rD (h.mono Z) hl (hs.mono Z) ho);have d:=hF.2.2 _ (show aL (bq K l) k∈bq K l by rw[df ho.lt];exact gw _);dsimp only at RU;obtain⟨R,ad⟩:=ae (bq K l);have ab:k+1<R.length->∃la lc x1 m1 y1 x2 m2 y2 z f,∀j<6,w.cell? ⟨g,(k+1)*6+j,none⟩=[Value.int .i32 (aL R (k+1)).1,.slice la (aL R (k+1)).2.length lc,.slice x1 m1 y1,.slice x2 m2 y2,.int .i64 z,.int .i64 f][j]?:=λhk=>by
  rw[ad] at hk⊢;obtain⟨la,lc,x1,m1,y1,x2,m2,y2,z,f,hc,_⟩:=hR.at_ hk;exact⟨la,lc,x1,m1,y1,x2,m2,y2,z,f,hc⟩
 simp only[<-ad] at hF hR RU ho d⊢;obtain⟨L,y⟩:=ae ((aL R k).2);have kz:ms.length=L.length:=by rw[y];exact ho.len
 rw[<-y] at d;obtain⟨nr,G⟩:=ae R.length;have bd:k<nr:=by rw[G];exact ho.lt
 have Z9:nr<10000:=by rw[G];have:=hF.2.1;omega
 have ai:=hR.is;simp only[<-G] at ai ab;obtain⟨H,c⟩:=ae (ko R (k,ms));rw[<-c];have C:H=if au ms L L.length=[] then (if k+1<nr then [(aL R (k+1)).1] else []) else au ms L L.length:=by rw[c,G,y];rfl
 have rE:=aa C;have aQ:=aa ab;have HX:=aa hx;have ER:=aa kz;have D9:=aa ax;have aK:=aa y;have a0:=aa d;have bg:m<10000:=by have:=d.1;omega
 clear h hR Q hs hm hF d ad ho c C hx kz ax y G ab;go_enter func64,ntmps64;go_wp2_with fail;refine RU.out.mono ?_;rintro e w1⟨rv,rfl,hW,al⟩;obtain⟨la,lc,x1,m1,y1,x2,m2,y2,z,f,rfl,hL,aR⟩:=id hW;clear aR hW;rw[<-aK.out] at hL⊢;obtain⟨n,hn⟩:=ae L.length;obtain⟨hd,ap⟩:=ae ((aL R k).1);obtain⟨bb,SX,e9,aG⟩:=hL;injection e9 with e8 _ e7;subst e8 e7;rw[<-hn,<-ap];have HN:=aa hn;have aS:=aa aG;have rW:n<10000:=by have:=ER.out;have:=D9.out;omega
 have aY:=af Z al;have Z_:w.heap.size+1<=w1.heap.size:=by have:=al.size;simpa using this
 have k0:Is w1 w.heap.size #[.int .i64 (k:Nat),.slice sa m sc] 54:=(Is.new w _ _).mono al;obtain⟨w2,M⟩:=ae (w1.alloc (.cells #[.int .i32 hd,.slice la n lc,.slice x1 m1 y1,.slice x2 m2 y2,.int .i64 z,.int .i64 f] eX));have J:=aO M;have k2:=Is.nw M;have V:=af aY J;have D:=V.size;have k0:=k0.mono J;have d1:=k2.at 1 rfl;rw[M] at d1;clear hn ap RU aG;go_wp2_with fail;rw[<-M];clear d1;have a1:=J.size;go_loopw [7,8,9,10,22] (λo _ _ _ iv wr=>∃i:Nat,i<=n/\iv=.int .i64 i/\wr.ownsRow w2.heap.size aN 1 o (au ms L i).length (aM (au ms L i))/\Below w2.heap.size w2 wr) (λ_ _ _ _ iv _=>n-(intOf iv).toNat)
 case atStart=>exact⟨0,ic _,rfl,iS _ _ _ _,gS _ _⟩
 case round=>
  obtain⟨i,hi,rfl,a,T⟩:=hrel;have jP:=V.trans (T.mono D);have ac:=J.trans (T.mono a1);by_cases a7:i<n
  ·have zi:=eG (show i<n by omega);have Wq:i<L.length:=by have:=HN.out;omega
   have LA:i<ms.length:=by have:=ER.out;omega
   have a5:i<m:=by have:=D9.out;omega
   have Zc:i<(bO (nz ms)).length:=by simp[bO];exact LA
   obtain⟨b,off,rfl,_,c0⟩:=HX.out i Zc;obtain⟨lg,va,vc,rfl,l0,l1,x⟩:=aS.out i Wq;rw[show(bO (nz ms))[i]=.int .i64 ((ms[i]:Nat):Int) by simp[bO,nz]] at c0;obtain⟨O,vL⟩:=ae (ms[i]);obtain⟨aw,U⟩:=ae (L[i].1);obtain⟨ln,N⟩:=ae (L[i].2);have Ct:lZ ms L i=if O<ln.length then [ln.getD O 0] else []:=by
    unfold lZ;rw[vL,N,ir (l:=L),gx Wq,ir (l:=ms),gx LA];rfl
   have ar:ln.length<10000:=by rw[N];have:=(a0.out.2 _ (gw Wq));omega
   rw[<-vL] at c0;rw[<-U] at l0;rw[<-N] at l1 x;obtain⟨xl,X⟩:=ae ln.length;rw[<-X] at l1 x Ct ar;have u:=zS ms L i;have I:=uU ms L i;obtain⟨P,hP⟩:=ae (au ms L i);rw[<-hP] at a u I;have c0:=aB jP c0;have l1:=aB ac l1;have l0:=aB ac l0;have x:=x.mono ac;have am:=k0.mono T;have e1:=am.at 1 rfl;have aq:=aa Ct;have ao:=aa u;have VD:=aa X;have E:=ah (w:=wr) (.cells #[.int .i64 (aw:Nat),.slice va xl vc] 95);have i0:=Is.new wr #[.int .i64 (aw:Nat),.slice va xl vc] 95;have n0:=i0.at 0 rfl;have n1:=i0.at 1 rfl;have Vh:=aB E e1;have be:=aB E c0;have d1:=aB T (k2.at 1 rfl);have F:=aH a E;have NV:=af T E;clear Ct vL X U N am u hP;by_cases an:O<xl
   ·have z2:=eG (show O<xl by omega);obtain⟨q,hq⟩:=ae (ln.getD O 0);have Wt:O<ln.length:=by have:=VD.out;omega
    obtain⟨ya,yc,he,_,hy⟩:=Go.Proofs.YtmnimbnojdndmaaGreatDoor.bG.Hl x VD.out;injection he with he _ aP;subst he aP;obtain⟨yb,yo,rfl,_,y0⟩:=hy O Wt;rw[show ln[O]=q by rw[hq,ir,gx Wt];rfl] at y0;have bc:=aB E y0;have A:lZ ms L i=[q]:=by rw[aq.out,if_pos an,hq]
    have Y:=aa A;clear hy hq x A;go_wp2_with (at_builtin;refine gp rfl _ _ 35 rfl w2.heap.size aN _ 4 bW _ P.length _ rfl F _ (by show Value.slice (some ⟨wr.heap.size+1,0,none⟩) 1 1=_;simp) rfl (by omega) (by unfold maxLen;omega) w2 NV (d' _) ?_;intro v' w6 o6 mF);go_roundw
    case rel=>
     refine⟨i+1,by omega,by simp,?_,mF⟩;rw[ao.out,Y.out,gn,a_];exact o6
    case measure=>simp[intOf];omega
   have z2:=gI (show xl<=O by omega);have A:lZ ms L i=[]:=by rw[aq.out,if_neg an]
   have Y:=aa A;clear A;go_wp2_with fail;go_roundw
   case rel=>
    refine⟨i+1,by omega,by simp,?_,NV⟩;rw[ao.out,Y.out,me];exact F
   case measure=>simp[intOf];omega
  have zi:=gI (show n<=i by omega);obtain rfl:i=n:=by omega
  have I:=uU ms L i;have c:=rE.out;rw[<-HN.out] at c;obtain⟨P,hP⟩:=ae (au ms L i);rw[<-hP] at a c I;obtain⟨oa,oc,rfl,_,_⟩:=ak a;obtain⟨np,Ux⟩:=ae P.length;rw[<-Ux] at a I⊢;have W:=aa c;have Yj:=aa Ux;have Je:=jP.size;have pm:=Gr.cell (ag wr) ((ai.mono jP).at 1 rfl);have e0:=Gr.cell (ag wr) ((k0.mono T).at 0 rfl);clear c hP Ux;go_wp2_with fail;by_cases hp:np=0
  ·have zp:((np:Int)==0)=true:=by simp;omega
   have aE:P=[]:=iJ.1 (by rw[<-Yj.out];exact hp);have S:=aa aE;clear aE;by_cases hq:k+1<nr
   ·have zq:decide ((k:Int)+1<(nr:Int))=true:=decide_eq_true (by omega);obtain⟨a3,a4,bh,ba,a6,a9,bf,a8,z2,f2,aj⟩:=aQ.out hq;obtain⟨a2,OE⟩:=ae ((aL R (k+1)).1);rw[<-OE] at aj;have d0:=aj 0 (by decide);simp only[sC,xb] at d0;have aX:=aH a (ag wr);have Za:=af T (ag wr);have av:=jP.trans ((ag wr).mono Je);have aV:=(k0.mono T).mono (ag wr);have t:H=[a2]:=by rw[W.out,if_pos S.out,if_pos hq,OE]
    have Qw:=aa t;subst hp;clear aj OE t;refine aC (Array.replicate 14 true) 14 0 mixed ?_;refine ay [0,1,2,3,4,5,6,7,8,9,10,11,12,13] 0 ?_;refine bC ?_
    iterate 14 (refine aZ rfl ?_)
    refine bD ?_
    iterate 14 (go_big_quiet_step (rfl))
    refine az ?_;refine aJ [] ?_;refine tail_nil ?_;go_wp2_with fail;have pm:=Gr.cell (ag wr.drew) ((ai.mono av).at 1 rfl);have e0:=Gr.cell (ag wr.drew) (aV.at 0 rfl);have d0:=Gr.cell (ag wr.drew) (aB av d0);have aW:=af Za (ag wr.drew);have aD:=aH aX (ag wr.drew);rw[S.out] at aD;refine aC #[true,true,true,true,true,true,true,true,true,true,true,true,false,false] 12 2 mixed ?_;refine ay [0,1,2,3,4,5,6,7,8,9,10] 1 ?_
    iterate 11 (refine aA rfl ?_;go_big_quiet_step (rfl))
    refine az ?_;refine aI 11 ?_;go_wp2_with fail;refine aF (ah _) ?_;refine aJ [12,13] ?_;refine tail_cons rfl ?_;refine gp rfl _ _ 35 rfl w2.heap.size aN _ 4 bW _ 0 _ rfl aD _ rfl rfl (by omega) (by unfold maxLen;omega) w2 aW (d' _) ?_;intro v' w6 o6 mF;refine tail_cons rfl ?_;go_wp2_with fail;refine tail_nil ?_;go_wp2;go_ret;rw[Qw.out];exact⟨_,rfl,aT o6 D,V.trans (mF.mono D)⟩
   have zq:decide ((k:Int)+1<(nr:Int))=false:=decide_eq_false (by omega);have t:H=[]:=by rw[W.out,if_pos S.out,if_neg hq]
   have Qw:=aa t;clear t;refine aC (Array.replicate 14 true) 14 0 mixed ?_;refine ay [0,1,2,3,4,5,6,7,8,9,10,11,12,13] 0 ?_;refine bC ?_
   iterate 14 (refine aZ rfl ?_)
   refine bD ?_
   iterate 14 (go_big_quiet_step (rfl))
   refine az ?_;refine aJ [] ?_;refine tail_nil ?_;go_wp2_with fail;go_ret;rw[Qw.out];refine⟨_,rfl,?_,jP.trans ((ag wr).mono Je)⟩;have:=aT (aH a (ag wr)) D;rw[S.out,hp] at this;subst hp;exact this
  have zp:((np:Int)==0)=false:=beq_eq_false_iff_ne.2 (by omega);have t:H=P:=by rw[W.out,if_neg λe=>hp (by rw[Yj.out,e];rfl)]
  have Qw:=aa t;clear t;refine aC (Array.replicate 14 true) 14 0 mixed ?_;refine ay [0,1,2,3,4,5,6,7,8,9,10,11,12,13] 0 ?_;refine bC ?_
  iterate 14 (refine aZ rfl ?_)
  refine bD ?_
  iterate 14 (go_big_quiet_step (rfl))
  refine az ?_;refine aJ [] ?_;refine tail_nil ?_;go_wp2_with fail;go_ret;rw[Qw.out];refine⟨_,rfl,?_,jP.trans ((ag wr).mono Je)⟩;have:=aT (aH a (ag wr)) D;rw[Yj.out] at this;rw[Yj.out];exact this
def Wu {base e:Nat} {n:Nat} {c:List Value} (h:w.ownsRow base t e v n c):∃a cap,v=.slice a n cap/\w.ownsRow base t e (.slice a 0 cap) 0 []:=by
 rcases h.2 with⟨rfl,h0⟩|⟨g,cap,b,rfl,j,d,k,f,i,l⟩
 ·subst h0;exact⟨_,_,rfl,by simp,.inl ⟨rfl,rfl⟩⟩
 exact⟨_,_,rfl,by simp,.inr ⟨g,cap,b,rfl,j,d,ic _,f,i,by simp⟩⟩
def Wv (n:Nat) (l:n<1000000) :
 Calls prog 133 #[.slice none 0 0,.int .i64 n] w λe w'=>∃r,e=.returned r/\w'.ownsRow w.heap.size aN 1 r 0 []/\Below w.heap.size w w':=by
 have:decide ((n:Int)<0)=false:=decide_eq_false (by omega);by_cases h0:n=0
 ·have d:decide ((0:Int)<(n:Int))=false:=decide_eq_false (by omega);go_enter func133,ntmps133;go_wp2;go_ret;exact⟨_,rfl,iS _ _ _ _,gS _ _⟩
 have d:decide ((0:Int)<(n:Int))=true:=decide_eq_true (by omega);go_enter func133,ntmps133
 go_wp2_with (
  at_builtin
  refine sU rfl _ _ 35 3 rfl .i64 .i64 underlying3 w.heap.size aN _ 4 bW rfl (.slice none 0 0) 0 [] rfl (iS _ _ _ _) n rfl (by unfold maxLen;omega) (by omega) (d' _) ?_;intro m i c a;obtain⟨j,o,rfl,f⟩:=Wu c;rw[k_] at *;have b:=aa (gS w.heap.size w |>.grown a (d' _) (λk g=>by cases g))
  clear c a)
 go_ret;exact⟨_,rfl,f,b.out⟩
theorem Cu {j:Nat} (hj:j<Ls.length):(Ls.take (j+1)).flatten=(Ls.take j).flatten++Ls[j]:=by
 rw [gR hj,t_];simp
theorem Qx (Ls:List (List Nat)) (j:Nat):(Ls.take j).flatten.length<=Ls.flatten.length:=by
 conv=>rhs;rw [<-km j Ls,t_,gn]
 omega
theorem OL {b n c:Nat} {vs:List Value} (hn:n=Ls.length) (hvs:vs.length=n) (hc:∀k (hk:k<Ls.length) (hk':k<vs.length),w.cell? ⟨b,k,none⟩=some vs[k]∧bG w vs[k] (aM Ls[k])) (hsm:Ls.flatten.length<1000000) (rW:n<1000) :
 Calls prog 94 #[.slice (some ⟨b,0,none⟩) n c] w fun e w'=>∃r,e=.returned r∧w'.ownsRow w.heap.size aN 1 r Ls.flatten.length (aM Ls.flatten)∧Below w.heap.size w w':=by
 have HC:=aa hc;have HN:=aa hn;have HV:=aa hvs;have HSM:=aa hsm;clear hc hn hvs hsm;go_enter func94,ntmps94;go_wp2_with fail;go_loopw [3,5,11] (fun sz _ iv wr=>∃j:Nat,j<=n∧iv=.int .i64 j∧sz=.int .i64 ((Ls.take j).flatten.length:Nat)∧Below w.heap.size w wr) (fun _ _ iv _=>n-(intOf iv).toNat)
 case atStart=>exact ⟨0,ic _,rfl,rfl,gS _ _⟩
 case round=>
  obtain ⟨j,hj,rfl,rfl,hE0⟩:=hrel;by_cases hjn:j<n
  ·have zj:=eG (show j<n by omega);have hjl:j<Ls.length:=by have:=HN.out;omega
   have hjv:j<vs.length:=by have:=HV.out;omega
   obtain ⟨c0,hs⟩:=HC.out j hjl hjv;obtain ⟨x,hx⟩:=ae (vs[j]);rw [<-hx] at c0 hs;have c0:=aB hE0 c0;obtain ⟨a1,c1,rfl,_,_⟩:=bG.out hs;rw [bF] at c0;have h1:=Cu hjl;have h2:=Qx Ls (j+1);obtain ⟨q,hq⟩:=ae ((Ls.take j).flatten.length);obtain ⟨q2,hq2⟩:∃q,q=Ls[j].length:=⟨_,rfl⟩;have h3:(Ls.take (j+1)).flatten.length=q+q2:=by rw [h1,gn,hq,hq2]
   have hq9:q+q2<1000000:=by rw [<-h3];exact lp h2 HSM.out
   rw [<-hq];rw [<-hq2] at c0;have z2:decide ((q:Int)+(q2:Int)<0)=false:=decide_eq_false (by omega);have H3:=aa h3;clear h1 h2 h3 hs hx hq hq2;go_wp2_with fail;go_roundw
   case rel=>exact ⟨j+1,by omega,by simp,by rw [H3.out];simp,hE0⟩
   case measure=>simp [intOf];omega
  ·have zj:=gI (show n<=j by omega);obtain rfl:j=n:=by omega
   have ht:Ls.take j=Ls:=iu (by rw [<-HN.out];exact d' _);rw [ht];obtain ⟨N,hN⟩:=ae Ls.flatten.length;rw [<-hN];have GR:=aa (Wv (w:=wr) N (by rw [hN];exact HSM.out));have nR:=aa hN;clear ht hN;go_wp2_with fail;refine GR.out.mono ?_;rintro e w1 ⟨r0,rfl,o0,hb1⟩;have hs1:=hb1.size;have hs0:=hE0.size;have hb1:=hE0.trans (hb1.mono hs0);have o0:=aT o0 hs0;go_wp2_with fail;go_loopw [6,8,27] (fun r _ iv wr=>∃i:Nat,i<=j∧iv=.int .i64 i∧wr.ownsRow w.heap.size aN 1 r (Ls.take i).flatten.length (aM (Ls.take i).flatten)∧Below w.heap.size w wr) (fun _ _ iv _=>j-(intOf iv).toNat)
   case atStart=>exact ⟨0,ic _,rfl,o0,hb1⟩
   case round=>
    obtain ⟨i,hi,rfl,hr,hE⟩:=hrel;by_cases hij:i<j
    ·have zi:=eG (show i<j by omega);have hil:i<Ls.length:=by have:=HN.out;omega
     have hiv:i<vs.length:=by have:=HV.out;omega
     obtain ⟨c0,hs⟩:=HC.out i hil hiv;obtain ⟨x,hx⟩:=ae (vs[i]);rw [<-hx] at c0 hs;have c0:=aB hE c0;have hs:=hs.mono hE;have h1:=Cu hil;have h2:=Qx Ls (i+1);obtain ⟨P,hP⟩:=ae ((Ls.take i).flatten);obtain ⟨L,hL⟩:=ae (Ls[i]);rw [<-hP] at hr h1;rw [<-hL] at hs h1;have hq9:P.length+L.length<1000000:=by
      have:=HSM.out;rw [h1,gn] at h2;omega
     have H1:=aa h1;have hE1:=hE.size;clear h1 h2 hx hP hL
     go_wp2_with (
      refine bR rfl _ _ 35 rfl w.heap.size aN (.int .i32 0) 4 bW _ _ _ rfl hr _ (aM L) rfl hs (by simp [aM,Value.oneCell']) (by rw [bF];unfold maxLen;omega) (by rw [bF];omega) (by omega) ?_
      intro v2 w2 o2 hg2)
     go_roundw
     case rel=>
      refine ⟨i+1,by omega,by simp,?_,hE.grown hg2 (by omega) (fun k hk=>(hr.lt k hk).1)⟩;rw [H1.out,gn,a_];rw [bF] at o2;exact o2
     case measure=>simp [intOf];omega
    ·have zi:=gI (show j<=i by omega);obtain rfl:i=j:=by omega
     have ht:Ls.take i=Ls:=iu (by rw [<-HN.out];exact d' _);rw [ht,<-nR.out] at hr;have HR:=aa hr;clear hr ht;go_wp2;go_ret;exact ⟨_,rfl,by rw [nR.out] at HR;exact HR.out,hE⟩
def uX (T:List aG) (c:Nat):Bool:=decide (bP T c=[])&&decide (hk c<4)
theorem LB (h:cK w p T X) (hV:aY T X) (hl:T.length<1000) (c:Nat) (hc:c<1114112) :
 Calls prog 97 #[.pointer (some ⟨p,0,none⟩),.int .i32 c] w fun e w'=>e=.returned (.bool (uX T c))∧Below w.heap.size w w':=by
 by_cases hm:bP T c=[]
 ·have FI:=aa (BO h hV c hc hm);have HG:=aa (fun (W:World)=>rQ (w:=W) c hc);have hp:uX T c=decide (hk c<4):=by unfold uX;rw [decide_eq_true hm,Bool.true_and]
  rw [hp];obtain ⟨k,hk⟩:=ae (hk c);rw [<-hk] at HG ⊢;have hd:decide (k<4)=decide ((k:Int)<4):=by rw [decide_eq_decide];omega
  rw [hd];clear h hm hp hk hd;go_enter func97,ntmps97;go_wp2_with fail;refine FI.out.mono ?_;rintro e w1 ⟨rfl,hb1⟩;go_wp2_with fail;refine (HG.out _).mono ?_;rintro e w2 ⟨rfl,rfl⟩;go_wp2;go_ret;exact ⟨rfl,hb1.alloc hb1.size _⟩
 ·have FI:=aa (zN h hV hl c hc hm);have hp:uX T c=false:=by unfold uX;rw [decide_eq_false hm,x6]
  rw [hp];clear h hm hp;go_enter func97,ntmps97;go_wp2_with fail;refine FI.out.mono ?_;rintro e w1 ⟨a1,n1,c1,a2,n2,c2,b,rfl,_,hb1⟩;go_wp2;go_ret;exact ⟨rfl,hb1.alloc hb1.size _⟩
def bgU (T:List aG) (c:Nat):List Nat:=(((mapped T).map (·.code)).filter λx=>(aD T x).head? == some c)++gK c++if uX T c=true then [c] else []
def uY (T:List aG) (c:Nat):List Nat:=b_ (bgU T c)
def OM {E:List eB} (h:E.map (·.1)=(mapped T).map (·.code)) (c:Nat):wK T E c=((mapped T).map (·.code)).filter λx=>(aD T x).head? == some c:=by
 rw[<-h];unfold wK;rw[List.filter_map];rfl
def zU (c:Nat):(gK c).length<=1000:=by
 unfold gK
 split
 ·simp
 first
 | (split <;> simp)
 | simp
def Il (h:cK w p T X) (hV:aY T X) (hl:T.length<1000) (c:Nat) (Q:aP c) :
 Calls prog 65 #[.pointer (some ⟨p,0,none⟩),.int .i32 c] w λe w'=>∃r,e=.returned r/\w'.ownsRow w.heap.size aN 1 r (uY T c).length (aM (uY T c))/\Below w.heap.size w w':=by
 have h':=h;obtain⟨E,rv,xv,ev,J,jM,cp,pp,iv,sv,mv,h1,h2,h3,_⟩:=h;obtain⟨G,hG,V,O⟩:=h1.bm;obtain⟨a,j⟩:=ae (((mapped T).map (·.code)).filter λx=>(aD T x).head? == some c);have I:wK T E c=a:=by rw[j];exact OM h1.mG c
 obtain⟨M,B,LC⟩:∃M,bG w M (aM a)/\(((∀v,¬G (.int .i32 c) v)/\M=.slice none 0 0)\/G (.int .i32 c) M):=by
  by_cases hg:∃v,G (.int .i32 c) v
  ·obtain⟨v,hv⟩:=hg;obtain⟨c2,e,hw⟩:=V _ _ hv;have:c2=c:=by injection e with _ e;omega
   subst this;rw[I,<-bF] at hw;exact⟨v,(Sl.aU hw).any,.inr hv⟩
  have N:∀u,¬G (.int .i32 c) u:=λu hu=>hg ⟨u,hu⟩;have:=O c N;rw[I] at this;rw[this];exact⟨_,⟨none,0,rfl,d' _,.inl ⟨rfl,λ_=>rfl⟩⟩,.inl ⟨N,rfl⟩⟩
 have aC:a.length<1000:=by
  rw[j];refine lp (lr _ _) ?_;rw[iz];exact lp (lr _ _) hl
 obtain⟨m,o,ar,_,_⟩:=bG.out B;subst ar;obtain⟨M,ap⟩:=ae (Value.slice m (aM a).length o);obtain⟨q,ac⟩:=ae ((aM a).length);rw[<-ac] at B LC;clear ap M ac;have l:=Ap c (by have:=Q.1;omega);have hz:=λW=>zeroValue35 W;have D:=aa (λ(W:World)=>JD (w:=W) c Q.1);have al:=zU c;have IS:=aa (λ(W:World)=>gZ (w:=W) c (by have:=Q.1;omega));rw[decide_eq_true Q] at IS;have PL:=aa (λ(W:World) (E:Below w.heap.size w W)=>LB (h'.mono E) hV hl c Q.1);obtain⟨H,hH⟩:=ae (gK c);obtain⟨pb,z⟩:=ae (uX T c);rw[<-hH] at D al;rw[<-z] at PL;have hR:uY T c=b_ (a++H++if pb=true then [c] else []):=by unfold uY bgU;rw[j,hH,z]
 rw[hR];have i1:=h1.is;have aB:J<w.heap.size:=hG.lt;have g0:=vG.keeps (S:=λk=>k=p\/k=J) ((i1.mono (ag w)).at 5 rfl) (.inl rfl);have Z:=hG.mono (ag w);have av:=i1.lt;clear h1 h2 h3 V O I hH z hR j h' hG i1;go_enter func65,ntmps65;go_wp2_with fail;refine dF (KR.blocks λk=>k=p\/k=J) (Array.replicate 11 true) 11 0 mixed ?_;refine bZ [0,1,2,3,4,5,6] 4 ?_
 iterate 5 (refine aA rfl ?_;go_big_quiet_step (rfl))
 refine aA rfl ?_;refine BD rfl ?_;refine zJ _ _ 153 35 rfl jR underlying153 Z (.inr rfl) rfl rfl l hz (.slice m q o) LC ?_;simp only[Act.put,vh,vf,rN]
 iterate 1 (refine aA rfl ?_;go_big_quiet_step (rfl))
 refine az ?_;refine bN 7 ?_;go_wp2_with fail;refine(D.out w.drew).mono ?_;rintro e s⟨r1,rfl,o1,g⟩;obtain⟨t,C,rfl,_,_⟩:=ak o1;have aq:=g.size;have ay:w.drew.heap.size=w.heap.size:=rfl;go_wp2_with fail;refine bK (KR.of_below g g.size (λk (d:k=p\/k=J)=>by rcases d with rfl|rfl <;> omega)) ?_;refine bN 8 ?_;go_wp2_with fail;have f:=ah (w:=s) (.cells #[.slice m q o,.slice t H.length C] 35);refine bK (KR.of_below f f.size (λk (d:k=p\/k=J)=>by rcases d with rfl|rfl <;> omega)) ?_;have P:Below w.heap.size w (s.alloc (.cells #[.slice m q o,.slice t H.length C] 35)):=((ag w).trans g).trans (f.mono aq);have i2:=Is.new s #[.slice m q o,.slice t H.length C] 35;have ab:bG s (.slice t H.length C) (aM H):=(Sl.aU o1).any
 have CC:=aa (OL (w:=s.alloc (.cells #[.slice m q o,.slice t H.length C] 35)) (b:=s.heap.size) (n:=2) (c:=2) (Ls:=[a,H]) (vs:=[.slice m q o,.slice t H.length C]) rfl rfl (λk d aw=>by
  rcases k with _|_|k
  ·exact⟨i2.at 0 rfl,B.mono P⟩
  ·exact⟨i2.at 1 rfl,ab.mono f⟩
  exact absurd d (by simp)) (by simp;omega) (by decide))
 rw[show [a,H].flatten=a++H by simp] at CC;refine bN 9 ?_;go_wp2_with fail;refine CC.out.mono ?_;rintro e w3⟨r3,rfl,K,i⟩;obtain⟨a3,c3,rfl,_,_⟩:=ak K;rw[gn] at K⊢;go_wp2_with fail;refine bK (KR.of_below i i.size (λk (d:k=p\/k=J)=>by simp;rcases d with rfl|rfl <;> omega)) ?_;refine bZ [10] 0 ?_
 iterate 1 (refine aA rfl ?_;go_big_quiet_step (rfl))
 refine az ?_;refine eU [] ?_;refine tail_nil ?_;have F:Below w.heap.size w w3:=P.trans (i.mono (by simp;omega));have K:=aT K (show w.heap.size<=(s.alloc (.cells #[.slice m q o,.slice t H.length C] 35)).heap.size by simp;omega);have au:=aa (IS.out w3);have ai:=aa (PL.out w3 F);have O3:=aa K;have an:=F.size;have af:(a++H).length<2000:=by rw[gn];omega
 clear CC D IS PL ab i2 o1 g f i LC Z g0 l hz K;go_wp2_with fail;refine au.out.mono ?_;rintro e w4⟨rfl,rfl⟩;go_wp2_with fail;refine ai.out.mono ?_;rintro e w5⟨rfl,A⟩;have rX:=F.trans (A.mono an);have ad:=rX.size;obtain⟨L,hL⟩:=ae (a++H);rw[<-hL] at O3 af;have HL:=aa hL;have Y:=aH O3.out A;have ax:=A.size;clear hL;have ao:a.length+H.length=L.length:=by rw[HL.out,gn]
 rw[ao] at Y⊢;cases pb with
 | false=>
   have U:=aa (wh L Y (by omega));clear O3 Y;go_wp2_with fail;refine U.out.mono ?_;rintro e w6⟨rfl,y,M4⟩;have mF:=rX.grown M4 ad (λk d=>(y.lt k d).1);have O6:=aa y;clear U y M4;go_wp2;go_ret;refine⟨_,rfl,?_,mF⟩;rw[<-HL.out,fP];exact O6.out
 | true=>
   go_wp2_with (at_builtin;refine gp rfl _ _ 35 rfl w.heap.size aN _ 4 bW _ L.length _ rfl Y _ rfl rfl (by omega) (by unfold maxLen;omega) w rX (d' _) ?_;intro v' w6 y mF);rw[show aM L++[.int .i32 (c:Nat)]=aM (L++[c]) by rw[a_];rfl,show L.length+1=(L++[c]).length by simp] at y;have U:=aa (wh (L++[c]) y (by simp;omega));have aj:=mF.size;clear O3 Y y;go_wp2_with fail;refine U.out.mono ?_;rintro e w7⟨rfl,o7,R⟩;have am:=mF.grown R aj (λk d=>(o7.lt k d).1);have O7:=aa o7;clear U o7 R;go_wp2;go_ret;refine⟨_,rfl,?_,am⟩;rw[<-kl,<-HL.out,fP];exact O7.out
end Go.Proofs.YtmnimbnojdndmaaGreatDoor
