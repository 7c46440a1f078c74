/- State by state it is added up what is possible; no condition. -/
import Derived.Test.YtmnimbnojdndmaaGreatDoorS12
import Derived.Deep.CutRange
set_option maxRecDepth 100000
set_option maxHeartbeats 6400000
set_option linter.all false
namespace Go.Proofs.YtmnimbnojdndmaaGreatDoor
open Go.RowKit Go.Cd _root_.Go.Proofs.Tryz
def addr_add (F o i:Nat):(⟨F,o,none⟩:Addr).add i=⟨F,o+i,none⟩:=by unfold Addr.add;split <;> simp_all
def vK.kept {W b:World} {Z c:ig} {o:Nat} (g:vK W Z o b c) (f:Ut W Z) {k:Nat} {d:Array Value} {T:TypeId} (h:Is W k d T) (a:aN≠T):b.heap[k]? = W.heap[k]?:=
 g.keep k h.lt λe=>a ((f k (by rw[e];simp)).2.one (iA h))
def Xj {w:World} {v:Value} {T:List aG} {X:List Nat} (h:qQ w v T X) (hV:aY T X) (hS:∀r∈T,r.cls≠0\/r.map≠[]) (hl:T.length<1000) (hX:X.length<10000) :
 Calls prog 107 #[v] w λe w'=>∃p,e=.returned (.tuple #[.pointer (some ⟨p,0,none⟩),.nilIface])/\cK w' p T X/\Below w.heap.size w w':=by
 have hF:=tX hV (by omega);have cO:=aa h;obtain⟨rv,xv,he,cz,_⟩:=id h;obtain⟨ra,nt,rc,xa,nx,xc,rfl⟩:=h.shape;have fo:rv=.slice ra nt rc:=by
  injection he with he;have:=congrArg (λa:Array Value=>a.getD 0 undef) he;simpa using this.symm
 subst fo;obtain⟨a',fL,e5,_,hx⟩:=cz;injection e5 with e1 e2 e3;subst e1;subst e3;have vI:=aa e2;have HX:=aa hx;have HV:=aa hV;have HF:=aa hF;have HS:=aa hS;have CK:=aa (λ(W:World) (E:Below w.heap.size w W)=>NQ (h.mono E) hV (by omega) hX);rw[<-e2] at hl;obtain⟨w1,b4⟩:=ae (w.alloc (.cells #[.slice ra nt rc,.slice xa nx xc] 150));have k1:=Is.nw b4;have aZ:=aO b4;have e0:=k1.at 0 rfl;have e1:=k1.at 1 rfl;clear h he hx hV hF hS e2;go_enter func107,ntmps107;go_wp2_with fail;rw[<-b4];clear b4;refine(CK.out w1 aZ).mono ?_;rintro e w2⟨rfl,a3⟩;have k2:=k1.mono a3;have co:=af aZ a3;clear e0 e1 CK;have eW:∀W,(Instr.makeMap 153 none).run prog W=.ok (.map (some W.heap.size)) (W.alloc (.map #[] 0)):=λ_=>rfl;have eX:∀W,(Instr.makeMap 154 none).run prog W=.ok (.map (some W.heap.size)) (W.alloc (.map #[] 0)):=λ_=>rfl;obtain⟨B,hB⟩:=ae w2.heap.size;obtain⟨w3,av⟩:=ae (((w2.alloc (.map #[] 0)).alloc (.map #[] 0)).alloc (.cells #[.slice none 0 0,.slice none 0 0,.pointer none,.pointer none,.slice none 0 0,.map (some w2.heap.size),.map (some (w2.heap.size+1)),.slice none 0 0,.slice none 0 0,.slice none 0 0] 156));have b8:Below w2.heap.size w2 w3:=by
  rw[av];exact af (af (ah _) (ah _)) (ah _)
 have m3:dE prog 21 w3 B λ_ _=>False:=by
  rw[av,hB];exact((dE.new w2 0).mono (ah _)).mono (ah _)
 have m4:dE prog 262 w3 (B+1) λ_ _=>False:=by
  rw[av,hB];have:=dE.new (P:=prog) (k:=262) (w2.alloc (.map #[] 0)) 0;rw[nh] at this;exact this.mono (ah _)
 have p3:Is w3 (B+2) #[.slice none 0 0,.slice none 0 0,.pointer none,.pointer none,.slice none 0 0,.map (some B),.map (some (B+1)),.slice none 0 0,.slice none 0 0,.slice none 0 0] 156:=by
  rw[av,hB];exact Is.new' _ _ _ _ (by simp)
 have k3:=k2.mono b8;have el:w3.heap.size=B+3:=by rw[av,hB];simp
 have dX:Below B w2 w3:=by rw[hB];exact b8
 have b3:w.heap.size<=B:=by rw[hB];exact co.size
 have fe:w.heap.size<B:=by rw[hB];exact k2.lt
 go_upto_region 5 with fail;rw[<-av];rw[<-hB];obtain⟨p,hp⟩:=ae (B+2);obtain⟨jM,bE⟩:=ae (B+1);rw[show B+1+1=p from by omega,<-bE];rw[<-hp,<-bE] at p3;rw[<-bE] at m4;have gj:B<p/\B<jM/\jM≠p/\p<B+3/\jM<B+3:=by omega
 have HB:=aa hB;clear av hB b8 k2 eW eX hp bE;have e0:=k3.at 1 rfl;have e1:=p3.at 1 rfl;have d1:=p3.frozen 1;obtain⟨w4,aL⟩:=ae (w3.setCell ⟨p,1,none⟩ (.slice xa nx xc));have p4:Is w4 p #[.slice none 0 0,.slice xa nx xc,.pointer none,.pointer none,.slice none 0 0,.map (some B),.map (some jM),.slice none 0 0,.slice none 0 0,.slice none 0 0] 156:=by rw[aL];exact p3.set 1 _
 have k4:Is w4 w.heap.size #[.slice ra nt rc,.slice xa nx xc] 150:=by rw[aL];exact k3.put (by omega) _
 have eY:=m3;have Y5:w4.heap.size=B+3:=by rw[aL,<-el];simp
 have cL:Below w.heap.size w w4:=by rw[aL];exact aj (co.trans (dX.mono b3)) (by omega)
 have hO:lU T X B p B jM w4 0 0 0 [] [] [] (λ_=>[]) (λ_ _=>False) (.slice none 0 0) (.slice none 0 0) (.slice none 0 0) (.slice none 0 0) (.slice none 0 0) (.slice none 0 0) (.slice xa nx xc) (.slice none 0 0) (λ_=>none) [] []:=by
  have g:=bX w3 p 1 (.slice xa nx xc);rw[<-aL] at g
  exact⟨p4,⟨[],rfl,iS _ _ _ _,by simp⟩,iS _ _ _ _,rfl,by simp,by simp,by simp,iS _ _ _ _,iS _ _ _ _,YV _ _ _,by omega,λ_ h=>absurd rfl h,λ_ h=>absurd rfl h,si.nil _ _ _ _,si.nil _ _ _ _,si.nil _ _ _ _,
   ⟨_,oq m3 g (λe=>by injection e with e;omega),λ_ _ h=>h.elim,λ_ _=>rfl⟩,oq m4 g (λe=>by injection e with e;omega)⟩
 go_upto_region 6 with fail;rw[<-aL];clear aL e0 e1 d1 p3 k3 m3 m4 eY p4 dX co;have e0:=k4.at 0 rfl;go_wp2_with fail;clear e0;go_loopw [6,7,8,9,10,33] (λs6 s7 s8 s9 s10 iv wr=>∃j:Nat,j<=nt/\iv=.int .i64 j/\(∃rv ev Z E l8 l9 D bg jg,lU T X B p B jM wr j j j l8 l9 D bg jg s6 s7 s8 s9 s10 rv (.slice xa nx xc) ev Z E E/\NZ T E l8 l9 D bg jg)/\Below B w4 wr) (λ_ _ _ _ _ iv _=>nt-(intOf iv).toNat)
 case atStart=>exact⟨0,ic _,rfl,⟨_,_,_,_,_,_,_,_,_,hO,NZ.nil T⟩,gS _ _⟩
 case round=>
  clear hO;obtain⟨j,hj,rfl,⟨rv,ev,Z,E,l8,l9,D,bg,jg,hO,s⟩,hE⟩:=hrel;have d7:E.length<=j:=by
   have:=congrArg List.length hO.mG;rw[iz,iz] at this;rw[this];exact ia (lr _ _) (by rw[jn];omega)
  have u_:=aa s;have a6:=aa d7;clear s d7;by_cases ga:j<nt
  ·have zj:=eG (show j<nt by omega);have an:j<T.length:=by have:=vI.out;omega
   have fT:=cL.trans (hE.mono b3);obtain⟨b,off,m,rfl,_,N,c1,c2,hm,bI⟩:=HX.out j an;have N:=aB fT N;have c1:=aB fT c1;have c2:=aB fT c2;have ac:=gw an;have lQ:=HV.out.fine _ ac;have Bv:=HS.out _ ac;have HQ:=aa (show ∃q,q=T[j] from ⟨_,rfl⟩);obtain⟨q,hq⟩:=HQ.out;rw[<-hq] at N c1 hm lQ Bv;have ar:=aa hq;clear HQ hq ac;obtain⟨am,nm,cm,rfl,bI⟩:=bI;have dc:=hm.mono fT;have cu:nm=q.map.length:=by
    obtain⟨_,_,e,_⟩:=hm;injection e with _ e _;rw[bF] at e;exact e
   have TJ:nm<=2:=by have:=lQ.2.2.1;omega
   have sN:=aa cu;have JY:q.cls≠0\/nm≠0:=Bv.imp id λh e=>h (iJ.1 (cu▸e));have fM:q.cls<255:=lQ.2.1;have M:q.code<1114112:=lQ.1.1;have Yu:=aa lQ;have e_:=aa dc;have fG:=aa hm;have ed:=aa bI;obtain⟨w5,vJ⟩:=ae (wr.alloc (.cells #[.int .i32 q.code,.int .i64 q.cls,.slice am nm cm] 196));have k5:=Is.nw vJ;have bb:=aO vJ;have jP:Below B w4 w5:=hE.trans (bb.mono (by have:=hE.size;omega));have cX:=hO.mono bb;have fD:w5.heap.size=wr.heap.size+1:=by rw[vJ];simp
   have SY:=aa (Zh (w:=w5) q.code q.cls nm cm am JY);obtain⟨A,hA⟩:=ae wr.heap.size;rw[<-hA] at k5 fD;have e0:=k5.at 0 rfl;have e1:=k5.at 1 rfl;have e2:=k5.at 2 rfl;have fS:p<A:=by have:=hO.is.lt;omega
   have dl:=aa (show ∀k,rv.ownBlock=some k->k<A from λk f=>by
    obtain⟨_,_,hr,_⟩:=hO.rows;have:=(hr.lt k f).2
    omega)
   clear hO Bv JY cu hm dc bI lQ;go_upto_region 11 with fail;rw[<-vJ,<-hA];clear vJ hA N c1 c2;go_upto_region 12 with (go_at_call 153;refine SY.out.mono ?_;rintro e w6⟨rfl,aQ⟩);clear e0 e1 e2 SY;have k6:=k5.mono aQ;have dW:=cX.mono aQ;have ji:Below B w4 w6:=jP.trans (aQ.mono (by omega));go_cut [33] from 33 to 161 (λiv I=>iv=.int .i64 j/\(∃aK,lU T X B p B jM I (j+1) j j l8 l9 D bg jg u6 u7 u8 u9 u10 aK (.slice xa nx xc) ev Z E E)/\Is I A #[.int .i32 q.code,.int .i64 q.cls,.slice am nm cm] 196/\Below B w4 I)
   case first=>
    have gg:A<w6.heap.size:=k6.lt;have k7:=k6.mono (ag w6);have a2:=dW.mono (ag w6);have CL:=aa (λ(W:World) (E:Below w6.heap.size w6 W)=>kX (w:=W) q.map (((e_.out.mono (bb.trans (aQ.mono bb.size))).mono E)) ⟨_,_,_,rfl,ed.out⟩ (by have:=sN.out;omega));rw[<-sN.out] at CL;obtain⟨R,_,hr,_⟩:=a2.rows;obtain⟨r1,r2,rfl,_,_⟩:=ak hr;have g0:=vG.keeps (S:=λk=>k=p\/k=A) (a2.is.at 0 rfl) (.inl rfl);have g1:=vG.keeps (S:=λk=>k=p\/k=A) (k7.at 0 rfl) (.inr rfl);have g2:=vG.keeps (S:=λk=>k=p\/k=A) (k7.at 1 rfl) (.inr rfl);have g3:=vG.keeps (S:=λk=>k=p\/k=A) (k7.at 2 rfl) (.inr rfl);refine dF (KR.blocks λk=>k=p\/k=A) #[true,true,true,true,true,true,true,true,true,true,true,true,true,true,true,true,true,true,true,false] 19 1 mixed ?_;refine bZ [0,1,2,3,4,5,6,7,8,9,10,11] 7 ?_
    iterate 12 (refine aA rfl ?_;go_big_quiet_step (rfl))
    refine az ?_;refine bN 12 ?_;go_wp2_with fail;refine(CL.out w6.drew (ag w6)).mono ?_;rintro e w8⟨cv,rfl,cb,iH⟩;have bc:=a2.mono iH;have k8:=k7.mono iH;obtain⟨ca,cc,rfl,_,_⟩:=ak cb;go_wp2_with fail;refine bK (KR.of_below iH iH.size (λk f=>by have:=a2.is.lt;have:=k7.lt;rcases f with rfl|rfl <;> omega)) ?_;refine bZ [13] 5 ?_
    iterate 1 (refine aA rfl ?_;go_big_quiet_step (rfl))
    refine az ?_;refine bN 14 ?_;go_wp2_with fail;refine bK (KR.of_below (ah _) (by simp) (λk f=>by have:=bc.is.lt;have:=k8.lt;rcases f with rfl|rfl <;> omega)) ?_;obtain⟨R,eH,dh,fd⟩:=bc.rows;refine bN 15 ?_;refine Bt (W:=w8) rfl _ _ 146 rfl B h_ _ 3 40 JV (by decide) (by decide) (.slice r1 j r2) j _ rfl dh _ rfl rfl (by simp[Value.oneCell']) (by omega) (by have:=bc.is.lt;omega) ?_;intro v1 w9 o9 o_ Dw;obtain⟨s1,s2,rfl,_,_⟩:=ak o9;have kT:=ah (w:=w8) (.cells #[.int .i32 q.code,.int .i64 q.cls,.slice ca nm cc] 196);have a9:=bc.mono kT;have k9:=k8.mono kT;have bU:=aH dh kT;have dZ:(Value.slice r1 j r2).ownBlock≠some A:=λe=>absurd (dl.out A e) (tz A);have fH:=k9.grown Dw dZ;have cg:ik (w8.alloc (.cells #[.int .i32 q.code,.int .i64 q.cls,.slice ca nm cc] 196)) Z (.slice ca nm cc) q.map:=by
     refine⟨?_,λk f=>a2.fresh (cb.lt k f).1⟩;have:=aT (aH cb kT) (ic _);rw[<-sN.out];exact this
    have Mx:=a9.Vr eH bU (λx hx=>(fd x hx).ext kT) (q:=q) (by rw[ar.out];exact gx an) cg o9 Dw;have dI:=(bJ.bQ bU Dw).is a9.is (by decide);go_wp2_with fail;refine bK (KR.bQ (w:=w8.alloc (.cells #[.int .i32 q.code,.int .i64 q.cls,.slice ca nm cc] 196)) Dw Dw.size (λk f=>?_)) ?_
    ·rcases f with rfl|rfl
     ·exact⟨a9.is.lt,a9.is.other bU (by decide)⟩
     exact⟨k9.lt,dZ⟩
    refine bZ [16,17,18] 0 ?_
    iterate 3 (refine aA rfl ?_;go_big_quiet_step (rfl))
    refine az ?_;have e0:=dI.at 0 rfl;have d0:=dI.frozen 0;refine eU [19] ?_;refine tail_cons rfl ?_;go_wp2_with fail;refine tail_nil ?_;have kL:Below B w4 w8:=(ji.trans ((ag w6).mono (by omega))).trans (iH.mono (by have:=a2.is.lt;omega));have Xk:Below B w4 (w9.setCell ⟨p,0,none⟩ (.slice s1 (j+1) s2)):=aj ((kL.trans (kT.mono (by have:=bc.is.lt;omega))).grown Dw (by have:=a9.is.lt;omega) (λk f=>(bU.lt k f).1)) (by omega);have al:=fH.put (show A≠p by omega) (o:=0) (.slice s1 (j+1) s2);obtain⟨FT,ez⟩:=ae (w9.setCell ⟨p,0,none⟩ (.slice s1 (j+1) s2));rw[<-ez] at Xk al Mx⊢;go_wp2_with fail;go_meet;exact⟨rfl,⟨_,Mx⟩,al,Xk⟩
   case rest=>
    clear k5 k6 cX dW jP ji bb aQ dl;obtain⟨rfl,⟨aK,Mx⟩,al,Xk⟩:=hcut;have fW:A≠p:=by omega
    have e0:=al.at 0 rfl;have e1:=al.at 1 rfl;have e2:=al.at 2 rfl;have fb:=al.lt;have Yx:B<=wc.heap.size:=by omega
    go_upto_region 13 with fail;go_cut [6,33] from 33 to 161 (λs6 iv I=>iv=.int .i64 j/\lU T X B p B jM I (j+1) (j+1) j l8 l9 D bg jg s6 u7 u8 u9 u10 aK (.slice xa nx xc) ev Z E E/\Is I A #[.int .i32 q.code,.int .i64 q.cls,.slice am nm cm] 196/\Below B w4 I)
    case first=>
     go_wp2_with (refine qf (W:=wc) rfl _ _ 257 rfl B 260 _ 2 8 Kq (by decide) (by decide) (by decide) (by decide) u6 j _ rfl Mx.cls _ rfl rfl (by simp[Value.oneCell']) (by omega) wc (gS _ _) Yx ?_;intro v1 xw fE fY TL ek)
     have Eg:=Mx.Zf (by
      rw[gR an,<-ar.out,BF,j5,j7]
      exact fE) TL ek
     have au:=al.grown TL (λe=>absurd ((bV Mx.cls e).one (iA al)) (by decide));have Ig:Below B w4 xw:=Xk.grown TL Yx (λk f=>(Mx.cls.lt k f).1);go_wp2_with fail;go_meet;exact⟨rfl,Eg,au,Ig⟩
    case rest=>
     clear e0 e1 e2 al Mx Xk fb Yx;obtain⟨xw,TM⟩:=ae wc;subst TM;obtain⟨rfl,Eg,au,Ig⟩:=hcut;obtain⟨v1,bh⟩:=ae u6;subst bh;have e2:=au.at 2 rfl;by_cases dT:nm=0
     ·subst dT;have cn:q.map=[]:=iJ.1 sN.out.symm;have dy:E.map (·.1)=(mapped (T.take (j+1))).map (·.code):=by
       rw[gR an,<-ar.out,mapped,n7,Eg.mG,mapped];simp[cn]
      have Xl:=aa (Eg.afp dy);clear Eg dy cn;go_wp2_with fail;go_roundw
      case rel=>exact⟨j+1,by omega,by simp,⟨_,_,Z,E,_,_,_,_,_,Xl.out,u_.out⟩,Ig⟩
      case measure=>simp[intOf];omega
     have gl:((nm:Int)==0)=false:=by simp;omega
     go_upto_region 15 with fail;go_cut [13,33] from 33 to 161 (λs13 iv I=>∃C U AB fa O t Y,s13=.pointer (some ⟨C,0,none⟩)/\iv=.int .i64 j/\Is I C #[.slice U nm AB,.slice fa t O,.bool Y] 178/\(Y=true↔Prim T X q.code)/\I.ownsRow xw.heap.size aN 1 (.slice U nm AB) nm (aM q.map)/\t=(aD T q.code).length/\I.ownsRow xw.heap.size aN 1 (.slice fa t O) t (aM (aD T q.code))/\Below xw.heap.size xw I/\xw.heap.size<=C)
     case first=>
      have TP:=cL.trans (Ig.mono b3);have a7:q∈T:=by rw[ar.out];exact gw an
      have CL:=aa (λ(W:World) (E:Below xw.heap.size xw W)=>kX (w:=W) q.map (fG.out.mono (TP.trans (E.mono TP.size))) ⟨_,_,_,rfl,ed.out⟩ (by have:=sN.out;omega));have FU:=aa (λ(W:World) (E:Below xw.heap.size xw W)=>Rw (cO.out.mono (TP.trans (E.mono TP.size))) HF.out q.code M (HV.out.full q a7));have PR:=aa (λ(W:World) (E:Below xw.heap.size xw W)=>G6 (cO.out.mono (TP.trans (E.mono TP.size))) HF.out hX q.code M);rw[<-sN.out] at CL;have Vx:=aa (il HV.out q.code);have dN:=k4.low Ig fe;have e0:=au.at 0 rfl;have e3:=dN.at 0 rfl;have e4:=dN.at 1 rfl;refine aC #[true,true,true,true,true,true,true,true,true,true,true,true,true,false] 13 1 mixed ?_;have TQ:=ag xw;have dP:=Gr.cell TQ e0;have eu:=Gr.cell TQ e2;have fr:=Gr.cell TQ e3;have eP:=Gr.cell TQ e4;refine ay [0,1,3,4,5,7,8,9] 5 ?_
      iterate 8 (refine aA rfl ?_;go_big_quiet_step (rfl))
      refine az ?_;refine Oe [12] (λ_ v W=>∃k,v=.pointer (some ⟨k,0,none⟩)/\W.heap[k]? = some (.cells #[.slice none 0 0,.slice none 0 0,.bool false] 178)) rq 4 rfl (by kernel_rfl) (λ_ _ _ _ hb h=>wV hb h) ?_ ?_
      ·intro i J o ho;simp only[jt,kt,or_false] at J;subst J;cases ho;exact wU rfl rfl (λW=>by go_simp)
      refine pI 2 ?_;intro eQ du;have bY:=af TQ du;go_wp2_with fail;refine(CL.out _ bY).mono ?_;rintro e gf⟨f7,rfl,ce,ch⟩;obtain⟨U,AB,rfl,_,_⟩:=ak ce;go_wp2_with fail;refine aF ch ?_;have d5:=af bY ch;have dG:=aa (aT ce (show xw.heap.size<=eQ.heap.size from bY.size));clear ce;refine pI 6 ?_;intro fJ cy;have bA:=af d5 cy;go_wp2_with fail;refine(FU.out _ bA).mono ?_;rintro e f8⟨fv,rfl,bM,bS⟩;obtain⟨t,a1⟩:=ae ((aD T q.code).length);have yO:=aa a1;have ef:=aa (aT bM (show xw.heap.size<=fJ.heap.size from bA.size));rw[<-a1] at bM;obtain⟨fa,O,rfl,_,_⟩:=ak bM;clear a1 bM;go_wp2_with fail;refine aF bS ?_;have c6:=af bA bS;refine pI 10 ?_;intro gc bp;have cD:=af c6 bp;go_wp2_with fail;refine(PR.out _ cD).mono ?_;rintro e f5⟨Y,rfl,a8,ba⟩;go_wp2_with fail;refine aF ba ?_;have cZ:=af cD ba;have bC:=aa a8;clear a8;refine oC [11] 0 ?_
      iterate 1 (refine aA rfl ?_;go_big_quiet_step (rfl))
      refine az ?_;refine aa3 [13] ?_;intro W Wb vs hR hD;have WE:=af cZ Wb;obtain⟨⟨C,bh,dn⟩,br,aZ⟩:=hR 12 (by simp);rw[bh] at br aZ;simp only[rq] at br aZ;rw[ru (d:=some 13) rfl,bh];have kC:Is W C #[.slice none 0 0,.slice none 0 0,.bool false] 178:=⟨dn⟩;have bk:xw.heap.size<=C:=br;have D9:=aa (aH dG.out (af (af (af (af cy bS) bp) ba) Wb));have eb:=aa (aH ef.out (af (af bp ba) Wb));clear bh dn hR hD br aZ bY d5 bA c6 cD cZ ch du bS cy ba bp TQ dG ef e0 e2 e3 e4 dP eu fr eP CL FU PR;have f0:=kC.at 0 rfl;have f1:=kC.at 1 rfl;have f2:=kC.at 2 rfl;have q0:=kC.frozen 0;have q1:=kC.frozen 1;have q2:=kC.frozen 2;refine tail_cons rfl ?_;go_wp2_with fail;refine tail_nil ?_;obtain⟨Ck,Px⟩:=ae (((W.setCell ⟨C,0,none⟩ (.slice U nm AB)).setCell ⟨C,1,none⟩ (.slice fa t O)).setCell ⟨C,2,none⟩ (.bool Y));have bD:Is Ck C #[.slice U nm AB,.slice fa t O,.bool Y] 178:=by rw[Px];exact((kC.set 0 _).set 1 _).set 2 _
      have aS:Below xw.heap.size xw Ck:=by rw[Px];exact aj (aj (aj WE bk) bk) bk
      have tr:∀{e:TypeId} {base n:Nat} {v:Value} {xs:List Value},e≠178->W.ownsRow base e 1 v n xs->Ck.ownsRow base e 1 v n xs:=by
       intro e base n v xs aq ho;rw[Px];have c1:=bJ.put (o:=0) kC (.slice U nm AB);have c2:=bJ.put (o:=1) (kC.set 0 (.slice U nm AB)) (.slice fa t O);have c3:=bJ.put (o:=2) ((kC.set 0 (.slice U nm AB)).set 1 (.slice fa t O)) (.bool Y);exact c3.own (c2.own (c1.own ho aq) aq) aq
      have Xm:=aa (tr (by decide) D9.out);have bR:=aa (tr (by decide) eb.out);rw[<-Px];clear Px tr f0 f1 f2 q0 q1 q2 kC WE Wb D9 eb;go_wp2_with fail;go_meet;exact⟨C,U,AB,fa,O,t,Y,rfl,rfl,bD,bC.out,Xm.out,yO.out,yO.out▸bR.out,aS,bk⟩
     case rest=>
      obtain⟨C,U,AB,fa,O,t,Y,rfl,rfl,bD,a8,d8,a1,dU,aS,bk⟩:=hcut;have bC:=aa a8;have Xm:=aa d8;have yO:=aa a1;have bR:=aa dU;obtain⟨Ck,Px⟩:=ae wc;subst Px;have b_:=au.mono aS;have Xl:=Eg.mono aS;have ZZ:Below B w4 Ck:=Ig.trans (aS.mono (by have:=au.lt;omega));have Sj:=au.lt;clear a8 d8 a1 dU;have HZ:=aa (show ∀k,(Value.slice fa t O).ownBlock=some k->Z k=none from λk f=>Eg.fresh (bR.out.lt k f).1);have fq:=aa (show ∀k,(Value.slice U nm AB).ownBlock=some k->Z k=none from λk f=>Eg.fresh (Xm.out.lt k f).1);have cT:=aa (show ∀k,ev.ownBlock=some k->k<xw.heap.size from λk f=>(Eg.qp.lt k f).2);clear au Eg Ig aS e2;go_upto_region 16 with fail;obtain⟨ne,aq⟩:=ae E.length;have Yf:=aa aq;have he:=Xl.qp;rw[<-aq] at he;obtain⟨ea,ec,rfl,_,_⟩:=ak he;have fh:ne<=j:=by rw[aq];exact a6.out
      clear aq he;go_cut [33] from 33 to 161 (λiv I=>iv=.int .i64 j/\(∃s1 s2,lU T X B p B jM I (j+1) (j+1) (j+1) l8 l9 D bg jg v1 u7 u8 u9 u10 aK (.slice xa nx xc) (.slice s1 (ne+1) s2) Z (E++[(q.code,Value.slice U nm AB,Value.slice fa t O,Y)]) E)/\Is I A #[.int .i32 q.code,.int .i64 q.cls,.slice am nm cm] 196/\Is I C #[.slice U nm AB,.slice fa t O,.bool Y] 178/\Below B w4 I)
      case first=>
       have gb:=b_.lt;have dg:=b_.mono (ag Ck);have Xn:=bD.mono (ag Ck);have TS:=Xl.mono (ag Ck);have g0:=vG.keeps (S:=λk=>k=p\/k=C) (TS.is.at 4 rfl) (.inl rfl);have g1:=vG.keeps (S:=λk=>k=p\/k=C) (Xn.at 0 rfl) (.inr rfl);have g2:=vG.keeps (S:=λk=>k=p\/k=C) (Xn.at 1 rfl) (.inr rfl);have g3:=vG.keeps (S:=λk=>k=p\/k=C) (Xn.at 2 rfl) (.inr rfl);refine dF (KR.blocks λk=>k=p\/k=C) #[true,true,true,true,true,true,true,true,true,true,false] 10 1 mixed ?_;refine bZ [0,1,2,3,4,5] 4 ?_
       iterate 6 (refine aA rfl ?_;go_big_quiet_step (rfl))
       refine az ?_;refine bN 6 ?_;go_wp2_with fail;refine bK (KR.of_below (ah _) (by simp) (λk f=>by have:=TS.is.lt;have:=Xn.lt;rcases f with rfl|rfl <;> omega)) ?_;have cR:=TS.qp;rw[<-Yf.out] at cR;refine bN 7 ?_;refine Bt (W:=Ck.drew) rfl _ _ 152 rfl B 178 _ 3 56 Zd (by decide) (by decide) (.slice ea ne ec) ne _ rfl cR _ rfl rfl (by simp[Value.oneCell']) (by omega) (by have:=TS.is.lt;omega) ?_;intro fN eZ dk fO Py;obtain⟨s1,s2,rfl,_,_⟩:=ak dk;have Di:=ah (w:=Ck.drew) (.cells #[.slice U nm AB,.slice fa t O,.bool Y] 178);have TT:=TS.mono Di;have bG:=aH cR Di;have c9:=Xn.mono Di;have c7:(Value.slice ea ne ec).ownBlock≠some C:=λe=>by have:=cT.out C e;omega
       have et:(E++[(q.code,Value.slice U nm AB,Value.slice fa t O,Y)]).map (·.1)=(mapped (T.take (j+1))).map (·.code):=by
        rw[gR an,<-ar.out,mapped,n7,j5,j5,TT.mG,mapped];have:q.map≠[]:=λe=>dT (by rw[sN.out,e];rfl);simp[this]
       have cH:(Ck.drew.alloc (.cells #[.slice U nm AB,.slice fa t O,.bool Y] 178)).ownsRow 0 aN 1 (.slice fa t O) (aD T q.code).length (aM (aD T q.code)):=by
        have:=aT (aH (aH bR.out (ag Ck)) Di) (ic _);rw[<-yO.out];exact this
       have eK:(Ck.drew.alloc (.cells #[.slice U nm AB,.slice fa t O,.bool Y] 178)).ownsRow 0 aN 1 (.slice U nm AB) (bP T q.code).length (aM (bP T q.code)):=by
        have e1:bP T q.code=q.map:=by unfold bP;rw[aaJ HV.out.rise (by rw[ar.out];exact gw an)]
        rw[e1,<-sN.out];exact aT (aH (aH Xm.out (ag Ck)) Di) (ic _)
       have TU:=TT.Vs (ev':=.slice s1 (ne+1) s2) (x:=(q.code,Value.slice U nm AB,Value.slice fa t O,Y)) (je':=j+1) (by rw[<-Yf.out];exact dk) Py ⟨cH,HZ.out⟩ ⟨eK,fq.out⟩ bC.out et;have cF:=(bJ.bQ bG Py).is TT.is (by decide);have Xo:=c9.grown Py c7;have aX:=(dg.mono Di).grown Py (λe=>absurd ((bV bG e).one (iA (dg.mono Di))) (by decide));have bH:Below B w4 (eZ.setCell ⟨p,4,none⟩ (.slice s1 (ne+1) s2)):=aj (((ZZ.trans ((ag Ck).mono (by omega))).trans (Di.mono (by have:=TS.is.lt;omega))).grown Py (by have:=TT.is.lt;omega) (λk f=>(bG.lt k f).1)) (by omega);have cc:=bJ.put (o:=4) cF (.slice s1 (ne+1) s2);have fy:=cc.is Xo (by decide);have eS:=cc.is aX (by decide);go_wp2_with fail;refine bK (KR.bQ (w:=Ck.drew.alloc (.cells #[.slice U nm AB,.slice fa t O,.bool Y] 178)) Py Py.size (λk f=>?_)) ?_
       ·rcases f with rfl|rfl
        ·exact⟨TT.is.lt,TT.is.other bG (by decide)⟩
        exact⟨c9.lt,c7⟩
       refine bZ [8,9] 0 ?_
       iterate 2 (refine aA rfl ?_;go_big_quiet_step (rfl))
       refine az ?_;have e4:=cF.at 4 rfl;have d4:=cF.frozen 4;refine eU [10] ?_;refine tail_cons rfl ?_;go_wp2_with fail;refine tail_nil ?_;go_wp2_with fail;go_meet;exact⟨rfl,⟨s1,s2,TU⟩,eS,fy,bH⟩
      case rest=>
       clear b_ bD Xl ZZ Xm cT;obtain⟨bn,dA⟩:=ae wc;subst dA;obtain⟨rfl,⟨s1,s2,TU⟩,aX,Xo,bH⟩:=hcut;obtain⟨n1,cw⟩:=ae (ne+1);obtain⟨x,hx⟩:∃x:eB,x=(q.code,Value.slice U nm AB,Value.slice fa t O,Y):=⟨_,rfl⟩;rw[<-cw,<-hx] at TU;have mH:=aa hx;have cf:=aa cw;have gh:n1<65536:=by omega
       have gm:ne<100000:=by omega
       have Yx:p<A/\A<bn.heap.size/\C<bn.heap.size:=⟨by omega,aX.lt,Xo.lt⟩;clear hx cw fh;go_upto_region 17 with fail;go_cut [7,33] from 33 to 161 (λs7 iv I=>iv=.int .i64 j/\lU T X B p B jM I (j+1) (j+1) (j+1) l8 l9 D bg jg v1 s7 u8 u9 u10 aK (.slice xa nx xc) (.slice s1 n1 s2) Z (E++[x]) (E++[x])/\Is I A #[.int .i32 q.code,.int .i64 q.cls,.slice am nm cm] 196/\Is I C #[.slice U nm AB,.slice fa t O,.bool Y] 178/\Below B w4 I)
       case first=>
        have TQ:=ag bn;have dP:=Gr.cell TQ (aX.at 0 rfl);have ge:=Gr.cell TQ (TU.is.at 4 rfl);refine aC #[true,true,true,true,true,true,true,true,true,true,true,false,false] 11 2 mixed ?_;refine ay [0,1,2,3,4,5,6,7,8,9] 1 ?_
        iterate 10 (refine aA rfl ?_;go_big_quiet_step (rfl))
        refine az ?_;refine aI 10 ?_;go_wp2_with fail;refine aF (ah _) ?_;have d6:=TU.mono TQ;have ho:=d6.Uu;rw[<-Yf.out] at ho;refine aJ [11,12] ?_;refine tail_cons rfl ?_;refine qf (W:=bn.drew) rfl _ _ 257 rfl B 260 _ 2 8 Kq (by decide) (by decide) (by decide) (by decide) u7 ne _ rfl ho #[.int .i32 (q.code:Nat),.int .u16 (n1:Nat)] rfl rfl (by simp[Value.oneCell']) (by omega) bn.drew (gS _ _) (by simp;omega) ?_;intro v7 Aj fm f9 cl ff
        have TV:=d6.Zg (Ep':=E++[x]) (by
         rw[RQ,j7,gn,<-Yf.out,mH.out,<-cf.out];rw[cf.out];have e:List.flatMap cellC [(q.code,n1)]=[.int .i32 (q.code:Nat),.int .u16 (n1:Nat)]:=rfl;rw[<-cf.out,e]
         exact fm) cl ff
        have c1:=bJ.bQ ho cl;have bL:Below B w4 Aj:=(bH.trans (TQ.mono (by omega))).grown cl (by simp;omega) (λk f=>(ho.lt k f).1);refine tail_cons rfl ?_;go_wp2_with fail;refine tail_nil ?_;go_wp2_with fail;go_meet;exact⟨rfl,TV,c1.is (aX.mono TQ) (by decide),c1.is (Xo.mono TQ) (by decide),bL⟩
       case rest=>
        clear TU aX Xo bH;obtain⟨Aj,eF⟩:=ae wc;subst eF;obtain⟨v7,fx⟩:=ae u7;subst fx;obtain⟨rfl,TV,bu,bx,bL⟩:=hcut;have Yx:p<A/\A<Aj.heap.size/\C<Aj.heap.size:=⟨by omega,bu.lt,bx.lt⟩;have cr:=aa (pF T q.code);have dd:x.2.2.1=.slice fa t O/\x.1=q.code:=by rw[mH.out];exact⟨rfl,rfl⟩
        have Uz:=aa dd;clear dd;obtain⟨F,eq,fB,N,YT,dr,dx⟩:∃F,fa=some ⟨F,0,none⟩/\F<Aj.heap.size/\∃N,Hid (aP N/\(aD T q.code).head? = some N)/\Hid (mZ Aj F aN/\Z F=none)/\Aj.cell? ⟨F,0,none⟩=some (.int .i32 (N:Nat)):=by
         obtain⟨f1,f2⟩:=TV.full x (by simp);rw[Uz.out.1,Uz.out.2,<-yO.out] at f1;rw[Uz.out.1] at f2;have b7:0<t:=by rw[yO.out];exact ke.2 cr.out
         obtain⟨F,cap,e,_,_,hl,hc,Q⟩:=dz f1 b7;injection e with e1 e2 e3;have aw:0<(aD T q.code).length:=yO.out▸b7;refine⟨F,e1,hl,(aD T q.code)[0],aa ⟨ow HV.out Yu.out.1 (gw aw),by rw[List.head?_eq_getElem?];exact gx aw⟩,aa ⟨hc,f2 F (by rw[e1];rfl)⟩,Q 0 _ ?_⟩;rw[gx (by simpa using aw),dR]
        subst eq;go_upto_region 18 with fail;go_cut [33] from 33 to 161 (λiv I=>iv=.int .i64 j/\(∃Z',lU T X B p B jM I (j+1) (j+1) (j+1) l8 l9 D (λc=>if c=N then bg N++[q.code] else bg c) jg v1 v7 u8 u9 u10 aK (.slice xa nx xc) (.slice s1 n1 s2) Z' (E++[x]) (E++[x]))/\Is I A #[.int .i32 q.code,.int .i64 q.cls,.slice am nm cm] 196/\Is I C #[.slice U nm AB,.slice (some ⟨F,0,none⟩) t O,.bool Y] 178/\Below B w4 I)
        case first=>
         have fX:N<1114112:=YT.out.1.1;have aR:=Ap N (by omega);have TW:=TV.mono (ag Aj);obtain⟨G,hG,cs,cd⟩:=TW.bm;obtain⟨uv,er,LC⟩:∃uv,si Aj.drew B Z (N+3) uv (bg N)/\(((∀v,¬G (.int .i32 N) v)/\uv=.slice none 0 0)\/G (.int .i32 N) uv):=by
          by_cases hg:∃v,G (.int .i32 N) v
          ·obtain⟨v,hv⟩:=hg;obtain⟨c,e,hw⟩:=cs _ _ hv;have:c=N:=by injection e with _ e;omega
           subst this;exact⟨v,hw,.inr hv⟩
          have dm:∀u,¬G (.int .i32 N) u:=λu hu=>hg ⟨u,hu⟩;exact⟨_,by rw[cd N dm];exact si.nil _ _ _ _,.inl ⟨dm,rfl⟩⟩
         have eV:=aa cs;have fK:=aa cd;have fZ:(bg N).length<=j:=by rw[u_.out.ib];exact ia (Vp _ _ _) a6.out
         have hz:=λW=>zeroValue35 W;have eJ:=aB (ag Aj) dx;have g0:=vG.keeps (S:=λk=>k=p\/k=A\/k=C\/k=F\/k=B) (TW.is.at 5 rfl) (.inl rfl);have g1:=vG.keeps (S:=λk=>k=p\/k=A\/k=C\/k=F\/k=B) ((bu.mono (ag Aj)).at 0 rfl) (.inr (.inl rfl));have g2:=vG.keeps (S:=λk=>k=p\/k=A\/k=C\/k=F\/k=B) ((bx.mono (ag Aj)).at 1 rfl) (.inr (.inr (.inl rfl)));have g3:=vG.keeps (S:=λk=>k=p\/k=A\/k=C\/k=F\/k=B) eJ (.inr (.inr (.inr (.inl rfl))));have eg:0<t:=by rw[yO.out];exact ke.2 cr.out
         clear cs cd;refine dF (KR.blocks λk=>k=p\/k=A\/k=C\/k=F\/k=B) #[true,true,true,true,true,true,true,true,true,true,true,true,true,true,true,true,true,true,true,true,true,false] 21 1 mixed ?_;refine bZ [0,1,2,3,4,5,6,7,8,9,10,11,12,13,14,15,16,17,18] 2 ?_
         iterate 16 (refine aA rfl ?_;go_big_quiet_step (rfl))
         refine aA rfl ?_;refine BD rfl ?_;refine zJ _ _ 153 35 rfl jR underlying153 hG (.inr (.inr (.inr (.inr rfl)))) rfl rfl aR hz uv LC ?_;simp only[Act.put,vh,vf,rN]
         iterate 2 (refine aA rfl ?_;go_big_quiet_step (rfl))
         refine az ?_;have Eh:=ah (w:=Aj.drew) (.cells #[.int .i32 (q.code:Nat)] aN);have Pz:=TW.mono Eh;have ds:=(bu.mono (ag Aj)).mono Eh;have ee:=(bx.mono (ag Aj)).mono Eh;have dH:Below B w4 (Aj.drew.alloc (.cells #[.int .i32 (q.code:Nat)] aN)):=(bL.trans ((ag Aj).mono (by omega))).trans (Eh.mono (by simp;omega));have dt:si (Aj.drew.alloc (.cells #[.int .i32 (q.code:Nat)] aN)) B Z (N+3) uv (bg N):=er.mono λk f=>Eh.block k (TW.wk k f).1;refine bN 19 ?_;go_wp2_with fail;refine bK (KR.of_below Eh Eh.size (λk f=>by have:=TW.is.lt;have:Aj.drew.heap.size=Aj.heap.size:=rfl;rcases f with rfl|rfl|rfl|rfl|rfl <;> omega)) ?_;refine bN 20 ?_;refine ng (W:=Aj.drew.alloc (.cells #[.int .i32 (q.code:Nat)] aN)) rfl _ _ 35 rfl B aN (.int .i32 0) 4 bW (by decide) (v:=uv) rfl dt.1 (by simp;omega) [.int .i32 (q.code:Nat)] (by simp[Value.oneCell']) ⟨Aj.drew.heap.size,0,none⟩ 1 1 rfl rfl (λi u J=>?_) (by omega) ?_
         ·rcases i with _|i
          ·cases J;exact(Is.new Aj.drew _ aN).at 0 rfl
          cases J
         intro en fi df dM c8;obtain⟨Z',hS,eO⟩:=vK.ja (l':=bg N++[q.code]) Pz.wk dt (by rw[a_,gn];exact df) dM c8
         have hH:=Pz.pushB hS eO (hG.mono Eh) (λx u hx=>by
          obtain⟨c,e,hw⟩:=eV.out x u hx
          exact⟨c,e,hw.mono λk f=>Eh.block k (TW.wk k f).1⟩) fK.out
         have c_:=hS.iQ Pz.wk;have cB:=c_.is ds (by decide);have ei:=c_.is ee (by decide);have ex:Below B w4 fi:=dH.trans (hS.below Pz.zb (by simp;omega));have HH:=aa hH;have fR:=aa hS;clear hH df dM c8;go_wp2_with fail;refine bK ⟨λk f=>hS.keep k (by have:=Pz.is.lt;simp;rcases f with rfl|rfl|rfl|rfl|rfl <;> omega) (λhz=>?_),hS.size⟩ ?_
         ·have bo:=(Pz.wk k (by rw[hz];simp)).2;rcases f with rfl|rfl|rfl|rfl|rfl
          ·exact absurd (bo.one (iA Pz.is)) (by decide)
          ·exact absurd (bo.one (iA ds)) (by decide)
          ·exact absurd (bo.one (iA ee)) (by decide)
          ·rw[dr.out.2] at hz;cases hz
          exact ou (hG.mono Eh) bo
         refine eU [21] ?_;refine tail_cons rfl ?_;refine jQ (xv:=.int .i32 N) (vv:=en) rfl _ _ _ 153 35 rfl jR underlying153 HH.out.map rfl rfl rfl aR ?_;intro H ft bz;have Xp:=HH.out.st H ft bz (by omega);have be:=dS cB (bz.block A cB.lt (λe=>by injection e with e;omega));have Xq:=dS ei (bz.block C ei.lt (λe=>by injection e with e;have:=TV.low;omega));have bT:Below B w4 H:=ex.grown bz (by have:=cB.lt;omega) (λk f=>by injection f with f;omega);go_wp2_with fail;refine tail_nil ?_;go_wp2_with fail;go_meet;exact⟨rfl,⟨_,Xp⟩,be,Xq,bT⟩
        case rest=>
         clear TV bu bx bL dx fB dr;obtain⟨H,fp⟩:=ae wc;subst fp;obtain⟨rfl,⟨Z2,Xp⟩,be,Xq,bT⟩:=hcut;have Yx:p<A/\A<H.heap.size/\C<H.heap.size:=⟨by omega,be.lt,Xq.lt⟩;obtain⟨aV,cN⟩:∃aV:Nat->List Nat,aV=λc=>if c=N then bg N++[q.code] else bg c:=⟨_,rfl⟩;rw[<-cN] at Xp;have eT:=aa cN;clear cN;go_upto_region 19 with fail;go_cut [8,10,33] from 33 to 161 (λs8 s10 iv I=>iv=.int .i64 j/\(∃Z',lU T X B p B jM I (j+1) (j+1) (j+1) (l8++(aD T q.code).drop 1) l9 (D++[q.code]) aV jg v1 v7 s8 u9 s10 aK (.slice xa nx xc) (.slice s1 n1 s2) Z' (E++[x]) (E++[x]))/\Is I A #[.int .i32 q.code,.int .i64 q.cls,.slice am nm cm] 196/\Is I C #[.slice U nm AB,.slice (some ⟨F,0,none⟩) t O,.bool Y] 178/\Below B w4 I)
         case first=>
          have eg:0<t:=by rw[yO.out];exact ke.2 cr.out
          have pY:=Xp.mono (ag H);have aE:=be.mono (ag H);have PD:=Xq.mono (ag H);have g1:=vG.keeps (S:=λk=>k=A\/k=C) (aE.at 0 rfl) (.inl rfl);have g2:=vG.keeps (S:=λk=>k=A\/k=C) (PD.at 1 rfl) (.inr rfl);obtain⟨fQ,ej⟩:t<=O/\Hid (∀i u,(aM (aD T q.code))[i]? = some u->H.drew.cell? ⟨F,i,none⟩=some u):=by
           obtain⟨f1,f2⟩:=pY.full x (by simp);rw[Uz.out.1,Uz.out.2,<-yO.out] at f1;obtain⟨F',cap,e,hc,_,_,_,Q⟩:=dz f1 eg;injection e with e1 _ e3;injection e1 with e1;injection e1 with e1;subst e1;subst e3;exact⟨hc,aa Q⟩
          have f3:l8.length<=31*j:=by rw[u_.out.i8];exact ia (BI (λc=>il HV.out c) E) (sT _ a6.out)
          have f_:D.length<=j:=by rw[u_.out.i10];unfold Kv;rw[iz];exact a6.out
          have gk:t<=32:=by rw[yO.out];exact il HV.out _
          have a4:=aa (show(aM ((aD T q.code).drop 1)).length=t-1 from by rw[bF,rK,<-yO.out]);have b1:=aa (show(l8++(aD T q.code).drop 1).length=l8.length+(t-1) from by rw[gn,rK,<-yO.out]);have bq:Below B w4 H.drew:=bT.trans ((ag H).mono (by omega));by_cases fg:O=1
          ·subst fg;obtain rfl:t=1:=by omega
           refine dF (KR.blocks λk=>k=A\/k=C) #[true,true,true,true,true,true,true,true,true,true,false,false] 10 2 mixed ?_;refine bZ [0,1,2,3,5,6,7] 3 ?_
           iterate 7 (refine aA rfl ?_;go_big_quiet_step (rfl))
           refine az ?_;refine P_ 4 8 ?_ ?_
           ·refine ng (W:=H.drew) rfl _ _ 35 rfl B aN (.int .i32 0) 4 bW (by decide) (v:=u8) rfl pY.w8.1 (by simp;omega) (aM ((aD T q.code).drop 1)) (gJ _) ⟨F,0,none⟩ 0 0 a4.out.symm rfl (λi u J=>absurd (iR.1 J).1 (by have:=a4.out;omega)) (by omega) ?_;intro eD PE bd Xr Xt;obtain⟨Z3,Dj,bf⟩:=vK.ja (l':=l8++(aD T q.code).drop 1) pY.wk pY.w8 (by rw[b1.out,a_];exact bd) Xr Xt;have p_:=pY.Qm Dj bf;have kA:=Dj.kept pY.wk aE (by decide);have kC:=Dj.kept pY.wk PD (by decide);have ap:=dS aE kA;have IM:=dS PD kC;have PG:Below B w4 PE:=bq.trans (Dj.below pY.zb (by simp;omega));have Xu:=Dj.size;have fs:H.heap.size<=PE.heap.size:=Xu;clear bd Xr Xt;go_wp2_with fail;refine bK ⟨λk f=>f.elim (λh=>by rw[h];exact kA) (λh=>by rw[h];exact kC),Xu⟩ ?_;have yP:=ah (w:=PE) (.cells #[.int .i32 (q.code:Nat)] aN);have K:=p_.mono yP;have ad:=ap.mono yP;have Dk:=IM.mono yP;have PH:Below B w4 (PE.alloc (.cells #[.int .i32 (q.code:Nat)] aN)):=PG.trans (yP.mono (by omega));refine bN 8 ?_;go_wp2_with fail;refine bK (KR.of_below yP yP.size (λk f=>by rcases f with rfl|rfl <;> omega)) ?_;refine bN 9 ?_;refine ng (W:=PE.alloc (.cells #[.int .i32 (q.code:Nat)] aN)) rfl _ _ 35 rfl B aN (.int .i32 0) 4 bW (by decide) (v:=u10) rfl K.zL.1 (by simp;omega) [.int .i32 (q.code:Nat)] (by simp[Value.oneCell']) ⟨PE.heap.size,0,none⟩ 1 1 rfl rfl (λi u J=>?_) (by omega) ?_
            ·rcases i with _|i
             ·cases J;exact(Is.new PE _ aN).at 0 rfl
             cases J
            intro cJ V Xv Dl Dm;obtain⟨Z4,mg,PI⟩:=vK.ja (l':=D++[q.code]) K.wk K.zL (by rw[a_,gn];exact Xv) Dl Dm;have xx:=K.G8 mg PI;have ab:=mg.kept K.wk ad (by decide);have Xw:=mg.kept K.wk Dk (by decide);have ai:=dS ad ab;have vD:=dS Dk Xw;have Dn:Below B w4 V:=PH.trans (mg.below K.zb (by simp;omega));have PK:=mg.size;clear Xv Dl Dm;go_wp2_with fail;refine bK ⟨λk f=>f.elim (λh=>by rw[h];exact ab) (λh=>by rw[h];exact Xw),PK⟩ ?_;refine eU [10,11] ?_;refine tail_cons rfl ?_;go_wp2_with fail;refine tail_nil ?_;go_wp2_with fail;go_meet;exact⟨rfl,⟨Z4,xx⟩,ai,vD,Dn⟩
           go_wp2_with fail;have xy:=ah (w:=H.drew) (.cells #[.int .i32 (q.code:Nat)] aN);have p_:=pY.mono xy;have ap:=aE.mono xy;have IM:=PD.mono xy;have PG:Below B w4 (H.drew.alloc (.cells #[.int .i32 (q.code:Nat)] aN)):=bq.trans (xy.mono (by show B<=H.heap.size;omega));refine bK (KR.of_below xy xy.size (λk f=>by rcases f with rfl|rfl <;> (show _<H.heap.size;omega))) ?_;have kN:=Is.new H.drew #[.int .i32 (q.code:Nat)] aN;have b9:=aa (pY.fresh (d' H.drew.heap.size));refine bN 4 ?_;refine ng (W:=H.drew.alloc (.cells #[.int .i32 (q.code:Nat)] aN)) rfl _ _ 35 rfl B aN (.int .i32 0) 4 bW (by decide) (v:=u8) rfl p_.w8.1 (by simp;omega) (aM ((aD T q.code).drop 1)) (gJ _) ⟨F,0,none⟩ 0 0 a4.out.symm rfl (λi u J=>absurd (iR.1 J).1 (by have:=a4.out;omega)) (by omega) ?_;intro eR ax bl Xx Xy;obtain⟨Z3,yQ,bj⟩:=vK.ja (l':=l8++(aD T q.code).drop 1) p_.wk p_.w8 (by rw[b1.out,a_];exact bl) Xx Xy;have K:=p_.Qm yQ bj;have kA:=yQ.kept p_.wk ap (by decide);have kC:=yQ.kept p_.wk IM (by decide);have ad:=dS ap kA;have Dk:=dS IM kC;have cj:=dS kN (yQ.keep _ kN.lt (by rw[b9.out];simp));have PH:Below B w4 ax:=PG.trans (yQ.below p_.zb (by simp;omega));have Xz:=yQ.size;have fu:H.heap.size+1<=ax.heap.size:=by simpa using Xz
           clear bl Xx Xy;go_wp2_with fail;refine bK ⟨λk f=>f.elim (λh=>by rw[h];exact kA) (λh=>by rw[h];exact kC),Xz⟩ ?_;refine bN 9 ?_;refine ng (W:=ax) rfl _ _ 35 rfl B aN (.int .i32 0) 4 bW (by decide) (v:=u10) rfl K.zL.1 (by omega) [.int .i32 (q.code:Nat)] (by simp[Value.oneCell']) ⟨H.drew.heap.size,0,none⟩ 1 1 rfl rfl (λi u J=>?_) (by omega) ?_
           ·rcases i with _|i
            ·cases J;exact cj.at 0 rfl
            cases J
           intro cJ V Xv Dl Dm;obtain⟨Z4,mg,PI⟩:=vK.ja (l':=D++[q.code]) K.wk K.zL (by rw[a_,gn];exact Xv) Dl Dm;have xx:=K.G8 mg PI;have ab:=mg.kept K.wk ad (by decide);have Xw:=mg.kept K.wk Dk (by decide);have ai:=dS ad ab;have vD:=dS Dk Xw;have Dn:Below B w4 V:=PH.trans (mg.below K.zb (by omega));have PK:=mg.size;clear Xv Dl Dm;go_wp2_with fail;refine bK ⟨λk f=>f.elim (λh=>by rw[h];exact ab) (λh=>by rw[h];exact Xw),PK⟩ ?_;refine eU [10,11] ?_;refine tail_cons rfl ?_;go_wp2_with fail;refine tail_nil ?_;go_wp2_with fail;go_meet;exact⟨rfl,⟨Z4,xx⟩,ai,vD,Dn⟩
          refine dF (KR.blocks λk=>k=A\/k=C) #[true,true,true,true,true,true,true,true,true,true,false,false] 10 2 mixed ?_;refine bZ [0,1,2,3,5,6,7] 3 ?_
          iterate 7 (refine aA rfl ?_;go_big_quiet_step (rfl))
          refine az ?_;refine P_ 4 8 ?_ ?_
          ·refine ng (W:=H.drew) rfl _ _ 35 rfl B aN (.int .i32 0) 4 bW (by decide) (v:=u8) rfl pY.w8.1 (by simp;omega) (aM ((aD T q.code).drop 1)) (gJ _) ⟨F,1,none⟩ (t-1) (O-1) a4.out.symm rfl (λi u J=>by
            have e0:=addr_add F 1 i;rw[e0]
            exact ej.out (1+i) u (by rw[<-J,EG,yk])) (by omega) ?_
           intro eD PE bd Xr Xt;obtain⟨Z3,Dj,bf⟩:=vK.ja (l':=l8++(aD T q.code).drop 1) pY.wk pY.w8 (by rw[b1.out,a_];exact bd) Xr Xt;have p_:=pY.Qm Dj bf;have kA:=Dj.kept pY.wk aE (by decide);have kC:=Dj.kept pY.wk PD (by decide);have ap:=dS aE kA;have IM:=dS PD kC;have PG:Below B w4 PE:=bq.trans (Dj.below pY.zb (by simp;omega));have Xu:=Dj.size;have fs:H.heap.size<=PE.heap.size:=Xu;clear bd Xr Xt;go_wp2_with fail;refine bK ⟨λk f=>f.elim (λh=>by rw[h];exact kA) (λh=>by rw[h];exact kC),Xu⟩ ?_;have yP:=ah (w:=PE) (.cells #[.int .i32 (q.code:Nat)] aN);have K:=p_.mono yP;have ad:=ap.mono yP;have Dk:=IM.mono yP;have PH:Below B w4 (PE.alloc (.cells #[.int .i32 (q.code:Nat)] aN)):=PG.trans (yP.mono (by omega));refine bN 8 ?_;go_wp2_with fail;refine bK (KR.of_below yP yP.size (λk f=>by rcases f with rfl|rfl <;> omega)) ?_;refine bN 9 ?_;refine ng (W:=PE.alloc (.cells #[.int .i32 (q.code:Nat)] aN)) rfl _ _ 35 rfl B aN (.int .i32 0) 4 bW (by decide) (v:=u10) rfl K.zL.1 (by simp;omega) [.int .i32 (q.code:Nat)] (by simp[Value.oneCell']) ⟨PE.heap.size,0,none⟩ 1 1 rfl rfl (λi u J=>?_) (by omega) ?_
           ·rcases i with _|i
            ·cases J;exact(Is.new PE _ aN).at 0 rfl
            cases J
           intro cJ V Xv Dl Dm;obtain⟨Z4,mg,PI⟩:=vK.ja (l':=D++[q.code]) K.wk K.zL (by rw[a_,gn];exact Xv) Dl Dm;have xx:=K.G8 mg PI;have ab:=mg.kept K.wk ad (by decide);have Xw:=mg.kept K.wk Dk (by decide);have ai:=dS ad ab;have vD:=dS Dk Xw;have Dn:Below B w4 V:=PH.trans (mg.below K.zb (by simp;omega));have PK:=mg.size;clear Xv Dl Dm;go_wp2_with fail;refine bK ⟨λk f=>f.elim (λh=>by rw[h];exact ab) (λh=>by rw[h];exact Xw),PK⟩ ?_;refine eU [10,11] ?_;refine tail_cons rfl ?_;go_wp2_with fail;refine tail_nil ?_;go_wp2_with fail;go_meet;exact⟨rfl,⟨Z4,xx⟩,ai,vD,Dn⟩
          go_wp2_with fail;have xy:=ah (w:=H.drew) (.cells #[.int .i32 (q.code:Nat)] aN);have p_:=pY.mono xy;have ap:=aE.mono xy;have IM:=PD.mono xy;have PG:Below B w4 (H.drew.alloc (.cells #[.int .i32 (q.code:Nat)] aN)):=bq.trans (xy.mono (by show B<=H.heap.size;omega));refine bK (KR.of_below xy xy.size (λk f=>by rcases f with rfl|rfl <;> (show _<H.heap.size;omega))) ?_;have kN:=Is.new H.drew #[.int .i32 (q.code:Nat)] aN;have b9:=aa (pY.fresh (d' H.drew.heap.size));refine bN 4 ?_
          refine ng (W:=H.drew.alloc (.cells #[.int .i32 (q.code:Nat)] aN)) rfl _ _ 35 rfl B aN (.int .i32 0) 4 bW (by decide) (v:=u8) rfl p_.w8.1 (by simp;omega) (aM ((aD T q.code).drop 1)) (gJ _) ⟨F,1,none⟩ (t-1) (O-1) a4.out.symm rfl (λi u J=>by
           have e0:=addr_add F 1 i;rw[e0]
           exact aB xy (ej.out (1+i) u (by rw[<-J,EG,yk]))) (by omega) ?_
          intro eR ax bl Xx Xy;obtain⟨Z3,yQ,bj⟩:=vK.ja (l':=l8++(aD T q.code).drop 1) p_.wk p_.w8 (by rw[b1.out,a_];exact bl) Xx Xy;have K:=p_.Qm yQ bj;have kA:=yQ.kept p_.wk ap (by decide);have kC:=yQ.kept p_.wk IM (by decide);have ad:=dS ap kA;have Dk:=dS IM kC;have cj:=dS kN (yQ.keep _ kN.lt (by rw[b9.out];simp));have PH:Below B w4 ax:=PG.trans (yQ.below p_.zb (by simp;omega));have Xz:=yQ.size;have fu:H.heap.size+1<=ax.heap.size:=by simpa using Xz
          clear bl Xx Xy;go_wp2_with fail;refine bK ⟨λk f=>f.elim (λh=>by rw[h];exact kA) (λh=>by rw[h];exact kC),Xz⟩ ?_;refine bN 9 ?_;refine ng (W:=ax) rfl _ _ 35 rfl B aN (.int .i32 0) 4 bW (by decide) (v:=u10) rfl K.zL.1 (by omega) [.int .i32 (q.code:Nat)] (by simp[Value.oneCell']) ⟨H.drew.heap.size,0,none⟩ 1 1 rfl rfl (λi u J=>?_) (by omega) ?_
          ·rcases i with _|i
           ·cases J;exact cj.at 0 rfl
           cases J
          intro cJ V Xv Dl Dm;obtain⟨Z4,mg,PI⟩:=vK.ja (l':=D++[q.code]) K.wk K.zL (by rw[a_,gn];exact Xv) Dl Dm;have xx:=K.G8 mg PI;have ab:=mg.kept K.wk ad (by decide);have Xw:=mg.kept K.wk Dk (by decide);have ai:=dS ad ab;have vD:=dS Dk Xw;have Dn:Below B w4 V:=PH.trans (mg.below K.zb (by omega));have PK:=mg.size;clear Xv Dl Dm;go_wp2_with fail;refine bK ⟨λk f=>f.elim (λh=>by rw[h];exact ab) (λh=>by rw[h];exact Xw),PK⟩ ?_;refine eU [10,11] ?_;refine tail_cons rfl ?_;go_wp2_with fail;refine tail_nil ?_;go_wp2_with fail;go_meet;exact⟨rfl,⟨Z4,xx⟩,ai,vD,Dn⟩
         case rest=>
          clear Xp be Xq bT Yx;obtain⟨V,eM⟩:=ae wc;subst eM;obtain⟨v8,fl⟩:=ae u8;subst fl;obtain⟨fP,ew⟩:=ae u10;subst ew;obtain⟨rfl,⟨Z3,xx⟩,ai,vD,Dn⟩:=hcut;have Yx:p<A/\A<V.heap.size/\C<V.heap.size:=⟨by omega,ai.lt,vD.lt⟩;have dY:=aa (show l8++(aD T q.code).drop 1=BH T (E++[x]) from by rw[RS,<-u_.out.i8,Uz.out.2]);have dw:=aa (show D++[q.code]=Kv (E++[x]) from by rw[RV,<-u_.out.i10,Uz.out.2]);have cY:=aa (show aV=wK T (E++[x]) from by rw[eT.out,RY T E x N (by rw[Uz.out.2];exact YT.out.2),<-u_.out.ib,Uz.out.2]);have a5:x.2.2.2=Y:=by rw[mH.out]
          have e2:=vD.at 2 rfl;rcases (show Y=false\/Y=true from by cases Y <;> simp) with hpf|hpt
          ·subst hpf;have XA:=aa (show NZ T (E++[x]) (l8++(aD T q.code).drop 1) l9 (D++[q.code]) aV jg from ⟨dY.out,by rw[Ze T E x a5];exact u_.out.i9,dw.out,cY.out,by rw[Vo T E x a5];exact u_.out.ij⟩);have ey:=aa xx;clear xx a5;go_wp2_with fail;go_roundw
           case rel=>exact⟨j+1,by omega,by simp,⟨_,_,Z3,E++[x],_,_,_,_,_,ey.out,XA.out⟩,Dn⟩
           case measure=>simp[intOf];omega
          subst hpt;obtain⟨a0,b0,bi⟩:∃a0 b0,q.map=[a0,b0]:=by
           have a7:q∈T:=by rw[ar.out];exact gw an
           have dp:=Bb HV.out.rise a7 (by rw[Yu.out.2.2.2.1];decide) (bC.out.1 rfl)
           match cn:q.map,dp with
           | [a0,b0],_=>exact⟨a0,b0,rfl⟩
          have eo:nm=2:=by rw[sN.out,bi];rfl
          subst eo;have aW:bP T q.code=[a0,b0]:=by
           have a7:q∈T:=by rw[ar.out];exact gw an
           unfold bP;rw[aaJ HV.out.rise a7];exact bi
          have VJ:aP a0/\aP b0:=⟨(Yu.out.2.2.2.2 a0 (by rw[bi];simp)).2,(Yu.out.2.2.2.2 b0 (by rw[bi];simp)).2⟩;have Ro:=aa VJ
          have XA:=aa (show NZ T (E++[x]) (l8++(aD T q.code).drop 1) (l9++[b0]) (D++[q.code]) aV (Ad jg (.agg #[.int .i32 (a0:Nat),.int .i32 (b0:Nat)]) (.int .i32 (q.code:Nat))) from
           ⟨dY.out,by rw[Vn T E x a5,<-u_.out.i9,Uz.out.2,aW];rfl,dw.out,cY.out,by rw[RX T E x a5,<-u_.out.ij,Uz.out.2,aW];rfl⟩)
          obtain⟨Mb,fw,m0,m1,dK⟩:∃Mb,U=some ⟨Mb,0,none⟩/\V.cell? ⟨Mb,0,none⟩=some (.int .i32 (a0:Nat))/\V.cell? ⟨Mb,1,none⟩=some (.int .i32 (b0:Nat))/\Mb<V.heap.size:=by
           obtain⟨f1,_⟩:=xx.maps x (by simp);rw[Uz.out.2,aW,mH.out] at f1;obtain⟨g,cap,e,_,_,hl,_,Q⟩:=dz f1 (by show 0<2;omega);injection e with e1 _ _;exact⟨g,e1,Q 0 _ rfl,Q 1 _ rfl,hl⟩
          subst fw;have f6:l9.length<=j:=by rw[u_.out.i9];exact ia (Kw T E) a6.out
          clear a5 bi aW VJ;go_upto_region 21 with fail;have XB:=xx.mono (ag V);have g0:=Gr.cell (ag V) (xx.is.at 6 rfl);have g1:=ai.gd 0 rfl;have g2:=vD.gd 0 rfl;have g3:=Gr.cell (ag V) m0;have g4:=Gr.cell (ag V) m1;have aR:=RN Ro.out.1.1 Ro.out.2.1;refine aC #[true,true,true,true,true,true,true,true,true,true,true,true,true,true,true,false] 15 1 mixed ?_;refine ay [0,1,2,3,4,5,6,7,8,9,10,11,12,13,14] 0 ?_
          iterate 15 (refine aA rfl ?_;go_big_quiet_step (rfl))
          refine az ?_;refine aJ [15] ?_;refine tail_cons rfl ?_;refine jQ (xv:=.agg #[.int .i32 (a0:Nat),.int .i32 (b0:Nat)]) (vv:=.int .i32 (q.code:Nat)) rfl _ _ _ 154 21 rfl NM underlying154 XB.jm rfl rfl rfl aR ?_;intro ao d_ XC;have ct:=XB.ajE (by omega) d_ XC;have eN:=dS (vD.mono (ag V)) (XC.block C (vD.mono (ag V)).lt (λe=>by injection e with e;exact ou (P:=prog) XB.jm (e▸iA (vD.mono (ag V)))));have f4:ao.cell? ⟨Mb,1,none⟩=some (.int .i32 (b0:Nat)):=by
           have hm:=aB (ag V) m1
           have hb:ao.heap[Mb]? = V.drew.heap[Mb]?:=XC.block Mb dK (λe=>by
            injection e with e;obtain⟨es,ck,h1,_⟩:=XB.jm;rw[<-e] at h1;unfold World.cell? at hm;rw[h1] at hm
            cases hm)
           exact(nB (a:=⟨Mb,1,none⟩) hb).trans hm
          have fz:Below B w4 ao:=(Dn.trans ((ag V).mono (by omega))).grown XC (by show B<=V.heap.size;omega) (λk f=>by injection f with f;omega);go_wp2_with fail;refine tail_nil ?_;clear xx ai vD Dn m0 m1 dK XB g0 g1 g2 g3 g4 d_ XC;have e0:=eN.at 0 rfl;have Yx:B<=ao.heap.size:=by have:=ct.is.lt;omega
          obtain⟨v9,eC⟩:=ae u9;subst eC;have c4:=ah (w:=ao) (.cells #[.int .i32 (b0:Nat)] aN);have TY:=ct.mono c4;have fA:Below B w4 (ao.alloc (.cells #[.int .i32 (b0:Nat)] aN)):=fz.trans (c4.mono Yx);go_wp2_with (refine ng (W:=ao.alloc (.cells #[.int .i32 (b0:Nat)] aN)) rfl _ _ 35 rfl B aN (.int .i32 0) 4 bW (by decide) (v:=v9) rfl TY.w9.1 (by simp;omega) [.int .i32 (b0:Nat)] (by simp[Value.oneCell']) ⟨ao.heap.size,0,none⟩ 1 1 rfl rfl (λi u J=>(match i,J with|0,J=>(by cases J;exact(Is.new ao _ aN).at 0 rfl)|i+1,J=>(by cases J))) (by omega) ?_;intro gi e6 dO dv dQ);obtain⟨Z5,cS,d3⟩:=vK.ja (l':=l9++[b0]) TY.wk TY.w9 (by rw[a_,gn];exact dO) dv dQ;have eE:=aa (TY.afo cS d3);have fI:Below B w4 e6:=fA.trans (cS.below TY.zb (by simp;omega));clear ct TY dO dv dQ cS d3;go_wp2_with fail;go_roundw
          case rel=>exact⟨j+1,by omega,by simp,⟨_,_,Z5,E++[x],_,_,_,_,_,eE.out,XA.out⟩,fI⟩
          case measure=>simp[intOf];omega
  have zj:=gI (show nt<=j by omega);obtain rfl:nt=j:=by omega
  have ci:=vI.out;have ht:T.take nt=T:=iu (by omega);have s:=u_.out;have fC:E.length=(mapped T).length:=by have:=congrArg List.length hO.mG;rw[ht,iz,iz] at this;exact this
  have yf:E.length<1000:=by have:=a6.out;omega
  have ac:∀x∈E,∃r∈T,x.1=r.code:=λx hx=>by
   have h1:x.1∈E.map (·.1):=sX hx;rw[hO.mG,ht] at h1;obtain⟨r,hr,e⟩:=j8.1 h1;exact⟨r,(i_.1 hr).1,e.symm⟩
  have M:∀x∈E,aP x.1:=λx hx=>by
   obtain⟨r,hr,e⟩:=ac x hx;rw[e];exact(HV.out.fine r hr).1
  have dq:=aa (λ(W:World) (h:Below wr.heap.size wr W)=>Kn (w:=W) (v:=u6) (L:=BF T) (base:=B) (by
   have h1:=aH hO.cls h;rw[ht] at h1;rw[Ku,<-ci];exact h1) (λy hy=>by
   obtain⟨r,hr,rfl⟩:=j8.1 hy;have:=HV.out.fine r hr
   exact⟨this.1.1,by have:=this.2.1;show r.cls<65536;omega⟩) (by rw[Ku];omega))
  have db:=aa (λ(W:World) (h:Below wr.heap.size wr W)=>Kn (w:=W) (v:=u7) (L:=sP E) (base:=B) (by
   have h1:=aH hO.Uu h;rw[Kt];exact h1) (λy hy=>by
   obtain⟨z,hz,rfl⟩:=j8.1 hy;have fj:=List.mem_zipIdx hz
   exact⟨(M z.1 (by rw[fj.2.2];exact gw _)).1,by show z.2+1<65536;omega⟩) (by rw[Kt];omega))
  have CH:∀(v:Value) (o:Nat) (l:List Nat),si wr B Z o v l->(∀c∈l,aP c)->l.length<100000->Hid (∀W,Below B wr W->B<=wr.heap.size->(∀k,Z k≠none->W.heap[k]? = wr.heap[k]?)->Calls prog 115 #[v] W λe w'=>∃ra rn rc,e=.returned (.agg #[.slice ra rn rc])/\DX w' (.slice ra rn rc) l/\Below W.heap.size W w'):=λv o l hv hc hl=>aa λW _ _ f=>by
   have h1:=hv.mono f;refine(uD l (Sl.aU h1.1) (fU.aU h1.1) hc hl).mono ?_;rintro e w'⟨r,he,ho,hb⟩;obtain⟨a,c,rfl,_,_⟩:=ak ho;exact⟨a,_,c,he,aT ho (ic _),hb⟩
  have C8:=CH _ _ _ hO.w8 (λc hc=>by
   rw[s.i8] at hc;obtain⟨x,hx,hc⟩:=lP.1 hc
   exact ow HV.out (M x hx) (l3 hc)) (by rw[s.i8];have:=BI (λc=>il HV.out c) E;omega)
  have C9:=CH _ _ _ hO.w9 (λc hc=>by
   rw[s.i9] at hc;obtain⟨x,hx,rfl⟩:=j8.1 hc;obtain⟨hx,hp⟩:=i_.1 hx;obtain⟨r,hr,e⟩:=ac x hx;have eh:=(hO.qV x hx).1 hp;rw[e] at eh;have dV:=HV.out.fine r hr;have dp:=Bb HV.out.rise hr (by rw[dV.2.2.2.1];decide) eh;have aW:bP T x.1=r.map:=by unfold bP;rw[e,aaJ HV.out.rise hr]
   rw[aW,ir,gx (show 1<r.map.length by omega)]
   exact(dV.2.2.2.2 _ (gw _)).2) (by rw[s.i9];have:=Kw T E;omega)
  have da:=CH _ _ _ hO.zL (λc hc=>by
   rw[s.i10] at hc;obtain⟨x,hx,rfl⟩:=j8.1 hc
   exact M x hx) (by rw[s.i10];unfold Kv;rw[iz];omega)
  have bt:=aa (show ∀k,Z k≠none->mZ wr k aN/\k<wr.heap.size from λk f=>⟨(hO.wk k f).2,(hO.wk k f).1⟩);have hD:=DY.of (X:=X) (T:=T) (by rw[<-ci];exact hO) s;have fV:=hO.is.lt;have cU:=hO.low.1;have cI:=aa s;have em:=aa (iA hO.is);have dC:∀(W:World),(Below wr.heap.size wr W)->∀k,Z k≠none->W.heap[k]? = wr.heap[k]?:=λW h k f=>h.block k (bt.out k f).2;have eA:=aa dC;have HT:=aa cO.out;clear hO s fC ac M CH ht dC ci;go_wp2_with fail;refine(dq.out wr (gS _ _)).mono ?_;rintro e fF⟨cp,rfl,b5,bw⟩;go_wp2_with fail;refine(db.out fF bw).mono ?_;rintro e eL⟨pp,rfl,Nh,bB⟩;have cx:=(hD.mono bw).mono bB;have b5:=b5.mono bB;have a3:=af bw bB;have cV:=eA.out _ a3;have s2:=a3.size;clear bw bB dq db hD;have i2:=cx.is;have q2:=i2.frozen 2;have q3:=i2.frozen 3;have e2:=i2.at 2 rfl;have e3:=i2.at 3 rfl;obtain⟨bs,T9⟩:=ae ((eL.setCell ⟨p,2,none⟩ (.pointer (some ⟨cp,0,none⟩))).setCell ⟨p,3,none⟩ (.pointer (some ⟨pp,0,none⟩)));have cq:=(cx.put 2 (.pointer (some ⟨cp,0,none⟩)) rfl).put 3 (.pointer (some ⟨pp,0,none⟩)) rfl;have cE:=i2.set 2 (.pointer (some ⟨cp,0,none⟩));have cP:=(b5.put i2 (show 10<=100 by omega) (o:=2) (.pointer (some ⟨cp,0,none⟩))).put cE (show 10<=100 by omega) (o:=3) (.pointer (some ⟨pp,0,none⟩));have cQ:=(Nh.put i2 (show 10<=100 by omega) (o:=2) (.pointer (some ⟨cp,0,none⟩))).put cE (show 10<=100 by omega) (o:=3) (.pointer (some ⟨pp,0,none⟩));have bO:Below B wr bs:=by rw[T9];exact aj (aj (a3.mono (by omega)) cU) cU
  have d9:∀k,Z k≠none->bs.heap[k]? = wr.heap[k]?:=λk f=>by
   have de:k≠p:=λe=>by
    have h1:=(bt.out k f).1;rw[e] at h1;exact absurd (h1.one em.out) (by decide)
   rw[T9,heap_setCell_other _ ⟨p,3,none⟩ k _ (λe=>de (e.symm▸rfl)),heap_setCell_other _ ⟨p,2,none⟩ k _ (λe=>de (e.symm▸rfl))];exact cV k f
  have s3:wr.heap.size<=bs.heap.size:=by rw[T9];simpa using s2
  rw[<-T9] at cq cP cQ;clear cx b5 Nh cE cV;go_wp2_with fail;rw[<-T9];have cA:=aa d9;clear T9 i2 q2 q3 e2 e3 d9;refine(C8.out bs bO (by omega) cA.out).mono ?_;rintro e eI⟨XD,XE,XF,rfl,cW,CP⟩;go_wp2_with fail;refine(C9.out eI (bO.trans (CP.mono (by omega))) (by omega) (λk f=>(CP.block k (by have:=(bt.out k f).2;omega)).trans (cA.out k f))).mono ?_;rintro e ep⟨XG,XH,XI,rfl,d2,cC⟩;have MC:=af CP cC;go_wp2_with fail;refine(da.out ep (bO.trans (MC.mono (by omega))) (by omega) (λk f=>(MC.block k (by have:=(bt.out k f).2;omega)).trans (cA.out k f))).mono ?_;rintro e bv⟨Yy,Yz,YA,rfl,dB,b2⟩;have XJ:=af MC b2;have cM:=cq.mono XJ;have dD:=cP.mono XJ;have di:=cQ.mono XJ;have dL:=cW.mono (af cC b2);have c5:=d2.mono b2;have aQ:Below B wr bv:=bO.trans (XJ.mono (by omega));clear cq cP cQ cW d2 CP cC b2 MC XJ C8 C9 da;have i6:=cM.is;have q7:=i6.frozen 7;have q8:=i6.frozen 8;have q9:=i6.frozen 9;have e7:=i6.at 7 rfl;have e8:=i6.at 8 rfl;have e9:=i6.at 9 rfl;have b6:cK (((bv.setCell ⟨p,7,none⟩ (.slice XD XE XF)).setCell ⟨p,8,none⟩ (.slice XG XH XI)).setCell ⟨p,9,none⟩ (.slice Yy Yz YA)) p T X/\Below w.heap.size w (((bv.setCell ⟨p,7,none⟩ (.slice XD XE XF)).setCell ⟨p,8,none⟩ (.slice XG XH XI)).setCell ⟨p,9,none⟩ (.slice Yy Yz YA)):=by
   have dJ:Below w.heap.size w (((bv.setCell ⟨p,7,none⟩ (.slice XD XE XF)).setCell ⟨p,8,none⟩ (.slice XG XH XI)).setCell ⟨p,9,none⟩ (.slice Yy Yz YA)):=aj (aj (aj (cL.trans ((hE.trans aQ).mono b3)) (by omega)) (by omega)) (by omega);have i7:=i6.set 7 (.slice XD XE XF);have i8:=i7.set 8 (.slice XG XH XI);obtain⟨_,x',cG,_,dj⟩:=HT.mono dJ;injection cG with cG;have fk:Value.slice xa nx xc=x':=by
    have:=congrArg (λa:Array Value=>a.getD 1 undef) cG;simpa using this
   rw[<-fk] at dj;refine⟨⟨E,rv,.slice xa nx xc,ev,B,jM,cp,pp,.slice XD XE XF,.slice XG XH XI,.slice Yy Yz YA,((cM.put 7 (.slice XD XE XF) rfl).put 8 (.slice XG XH XI) rfl).put 9 (.slice Yy Yz YA) rfl,((dD.put i6 (show 10<=100 by omega) (o:=7) (.slice XD XE XF)).put i7 (show 10<=100 by omega) (o:=8) (.slice XG XH XI)).put i8 (show 10<=100 by omega) (o:=9) (.slice Yy Yz YA),((di.put i6 (show 10<=100 by omega) (o:=7) (.slice XD XE XF)).put i7 (show 10<=100 by omega) (o:=8) (.slice XG XH XI)).put i8 (show 10<=100 by omega) (o:=9) (.slice Yy Yz YA),?_,?_,?_,dj⟩,dJ⟩
   ·rw[<-cI.out.i8];exact((dL.put i6 7 (.slice XD XE XF)).put i7 8 (.slice XG XH XI)).put i8 9 (.slice Yy Yz YA)
   ·rw[<-cI.out.i9];exact((c5.put i6 7 (.slice XD XE XF)).put i7 8 (.slice XG XH XI)).put i8 9 (.slice Yy Yz YA)
   rw[<-cI.out.i10];exact((dB.put i6 7 (.slice XD XE XF)).put i7 8 (.slice XG XH XI)).put i8 9 (.slice Yy Yz YA)
  have R9:=aa b6;clear b6 cM dD di dL c5 dB i6;go_wp2_with fail;go_ret2;exact⟨p,rfl,R9.out.1,R9.out.2⟩
end Go.Proofs.YtmnimbnojdndmaaGreatDoor
