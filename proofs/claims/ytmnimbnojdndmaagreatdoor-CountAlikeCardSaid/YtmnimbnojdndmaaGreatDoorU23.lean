/- Texts that are alike cost, and count, the same; no condition. -/
import Derived.Test.YtmnimbnojdndmaaGreatDoorU10
import Derived.Test.YtmnimbnojdndmaaGreatDoorU13
import Derived.Deep.CutRange
set_option maxRecDepth 100000
set_option maxHeartbeats 6400000
set_option linter.all false
namespace Go.Proofs.YtmnimbnojdndmaaGreatDoor
open Go.RowKit Go.Cd _root_.Go.Proofs.Tryz
def addr_add (F o i:Nat):(⟨F,o,none⟩:Addr).add i=⟨F,o+i,none⟩:=by unfold Addr.add;split <;> simp_all
def vK.kept {W b:World} {Z f:ig} {o:Nat} (d:vK W Z o b f) (c:Ut W Z) {k:Nat} {cs:Array Value} {T:TypeId} (h:Is W k cs T) (a:aN≠T):b.heap[k]? = W.heap[k]?:=
 d.keep k h.lt λe=>a ((c k (by rw[e];simp)).2.one (iA h))
def Xj {w:World} {v:Value} {T:List aG} {X:List Nat} (h:qQ w v T X) (hV:aY T X) (hS:∀r∈T,r.cls≠0\/r.map≠[]) (hl:T.length<1000) (hX:X.length<10000) :
 Calls prog 107 #[v] w λe w'=>∃p,e=.returned (.tuple #[.pointer (some ⟨p,0,none⟩),.nilIface])/\cK w' p T X/\Below w.heap.size w w':=by
 have hF:=tX hV (by omega);have ch:=aa h;obtain⟨rv,xv,he,cx,_⟩:=id h;obtain⟨ra,nt,rc,xa,nx,xc,rfl⟩:=h.shape;have eM:rv=.slice ra nt rc:=by
  injection he with he;have:=congrArg (λa:Array Value=>a.getD 0 undef) he;simpa using this.symm
 subst eM;obtain⟨a',fM,fy,_,hx⟩:=cx;injection fy with e1 e2 e3;subst e1;subst e3;have vI:=aa e2;have HX:=aa hx;have HV:=aa hV;have HF:=aa hF;have HS:=aa hS;have CK:=aa (λ(W:World) (E:Below w.heap.size w W)=>NQ (h.mono E) hV (by omega) hX);rw[<-e2] at hl;obtain⟨w1,b6⟩:=ae (w.alloc (.cells #[.slice ra nt rc,.slice xa nx xc] 150));have k1:=Is.nw b6;have a7:=aO b6;have e0:=k1.at 0 rfl;have e1:=k1.at 1 rfl;clear h he hx hV hF hS e2;go_enter func107,ntmps107;go_wp2_with fail;rw[<-b6];clear b6;refine(CK.out w1 a7).mono ?_;rintro e w2⟨rfl,a6⟩;have k2:=k1.mono a6;have cI:=af a7 a6;clear e0 e1 CK;have ey:∀W,(Instr.makeMap 153 none).run prog W=.ok (.map (some W.heap.size)) (W.alloc (.map #[] 0)):=λ_=>rfl;have eq:∀W,(Instr.makeMap 154 none).run prog W=.ok (.map (some W.heap.size)) (W.alloc (.map #[] 0)):=λ_=>rfl;obtain⟨B,hB⟩:=ae w2.heap.size;obtain⟨w3,aK⟩:=ae (((w2.alloc (.map #[] 0)).alloc (.map #[] 0)).alloc (.cells #[.slice none 0 0,.slice none 0 0,.pointer none,.pointer none,.slice none 0 0,.map (some w2.heap.size),.map (some (w2.heap.size+1)),.slice none 0 0,.slice none 0 0,.slice none 0 0] 156));have ce:Below w2.heap.size w2 w3:=by
  rw[aK];exact af (af (ah _) (ah _)) (ah _)
 have m3:dE prog 21 w3 B λ_ _=>False:=by
  rw[aK,hB];exact((dE.new w2 0).mono (ah _)).mono (ah _)
 have m4:dE prog 262 w3 (B+1) λ_ _=>False:=by
  rw[aK,hB];have:=dE.new (P:=prog) (k:=262) (w2.alloc (.map #[] 0)) 0;rw[ns] at this;exact this.mono (ah _)
 have p3:Is w3 (B+2) #[.slice none 0 0,.slice none 0 0,.pointer none,.pointer none,.slice none 0 0,.map (some B),.map (some (B+1)),.slice none 0 0,.slice none 0 0,.slice none 0 0] 156:=by
  rw[aK,hB];exact Is.new' _ _ _ _ (by simp)
 have k3:=k2.mono ce;have fu:w3.heap.size=B+3:=by rw[aK,hB];simp
 have c5:Below B w2 w3:=by rw[hB];exact ce
 have bz:w.heap.size<=B:=by rw[hB];exact cI.size
 have eR:w.heap.size<B:=by rw[hB];exact k2.lt
 go_upto_region 5 with fail;rw[<-aK];rw[<-hB];obtain⟨p,hp⟩:=ae (B+2);obtain⟨jM,bu⟩:=ae (B+1);rw[show B+1+1=p from by omega,<-bu];rw[<-hp,<-bu] at p3;rw[<-bu] at m4;have fZ:B<p/\B<jM/\jM≠p/\p<B+3/\jM<B+3:=by omega
 have HB:=aa hB;clear aK hB ce k2 ey eq hp bu;have e0:=k3.at 1 rfl;have e1:=p3.at 1 rfl;have d1:=p3.frozen 1;obtain⟨w4,ax⟩:=ae (w3.setCell ⟨p,1,none⟩ (.slice xa nx xc));have p4:Is w4 p #[.slice none 0 0,.slice xa nx xc,.pointer none,.pointer none,.slice none 0 0,.map (some B),.map (some jM),.slice none 0 0,.slice none 0 0,.slice none 0 0] 156:=by rw[ax];exact p3.set 1 _
 have k4:Is w4 w.heap.size #[.slice ra nt rc,.slice xa nx xc] 150:=by rw[ax];exact k3.put (by omega) _
 have e5:=m3;have Y5:w4.heap.size=B+3:=by rw[ax,<-fu];simp
 have cb:Below w.heap.size w w4:=by rw[ax];exact aj (cI.trans (c5.mono bz)) (by omega)
 have hO:lU T X B p B jM w4 0 0 0 [] [] [] (λ_=>[]) (λ_ _=>False) (.slice none 0 0) (.slice none 0 0) (.slice none 0 0) (.slice none 0 0) (.slice none 0 0) (.slice none 0 0) (.slice xa nx xc) (.slice none 0 0) (λ_=>none) [] []:=by
  have g:=bX w3 p 1 (.slice xa nx xc);rw[<-ax] at g
  exact⟨p4,⟨[],rfl,iu _ _ _ _,by simp⟩,iu _ _ _ _,rfl,by simp,by simp,by simp,iu _ _ _ _,iu _ _ _ _,YV _ _ _,by omega,λ_ h=>absurd rfl h,λ_ h=>absurd rfl h,si.nil _ _ _ _,si.nil _ _ _ _,si.nil _ _ _ _,
   ⟨_,oq m3 g (λe=>by injection e with e;omega),λ_ _ h=>h.elim,λ_ _=>rfl⟩,oq m4 g (λe=>by injection e with e;omega)⟩
 go_upto_region 6 with fail;rw[<-ax];clear ax e0 e1 d1 p3 k3 m3 m4 e5 p4 c5 cI;have e0:=k4.at 0 rfl;go_wp2_with fail;clear e0;go_loopw [6,7,8,9,10,33] (λs6 s7 s8 s9 s10 iv wr=>∃j:Nat,j<=nt/\iv=.int .i64 j/\(∃rv ev Z E l8 l9 D bg jg,lU T X B p B jM wr j j j l8 l9 D bg jg s6 s7 s8 s9 s10 rv (.slice xa nx xc) ev Z E E/\NZ T E l8 l9 D bg jg)/\Below B w4 wr) (λ_ _ _ _ _ iv _=>nt-(intOf iv).toNat)
 case atStart=>exact⟨0,gW _,rfl,⟨_,_,_,_,_,_,_,_,_,hO,NZ.nil T⟩,gO _ _⟩
 case round=>
  clear hO;obtain⟨j,hj,rfl,⟨rv,ev,Z,E,l8,l9,D,bg,jg,hO,s⟩,hE⟩:=hrel;have dZ:E.length<=j:=by
   have:=congrArg List.length hO.mG;rw[ia,ia] at this;rw[this];exact gS (lp _ _) (by rw[iS];omega)
  have u_:=aa s;have aV:=aa dZ;clear s dZ;by_cases gi:j<nt
  ·have zj:=eG (show j<nt by omega);have an:j<T.length:=by have:=vI.out;omega
   have fT:=cb.trans (hE.mono bz);obtain⟨b,off,m,rfl,_,N,c1,c2,hm,bT⟩:=HX.out j an;have N:=aB fT N;have c1:=aB fT c1;have c2:=aB fT c2;have ac:=gx an;have lQ:=HV.out.fine _ ac;have Bv:=HS.out _ ac;have HQ:=aa (show ∃q,q=T[j] from ⟨_,rfl⟩);obtain⟨q,hq⟩:=HQ.out;rw[<-hq] at N c1 hm lQ Bv;have au:=aa hq;clear HQ hq ac;obtain⟨am,nm,cm,rfl,bT⟩:=bT;have df:=hm.mono fT;have cu:nm=q.map.length:=by
    obtain⟨_,_,e,_⟩:=hm;injection e with _ e _;rw[bF] at e;exact e
   have TJ:nm<=2:=by have:=lQ.2.2.1;omega
   have sN:=aa cu;have JY:q.cls≠0\/nm≠0:=Bv.imp id λh e=>h (im.1 (cu▸e));have fN:q.cls<255:=lQ.2.1;have J:q.code<1114112:=lQ.1.1;have Yu:=aa lQ;have ff:=aa df;have ep:=aa hm;have dB:=aa bT;obtain⟨w5,vJ⟩:=ae (wr.alloc (.cells #[.int .i32 q.code,.int .i64 q.cls,.slice am nm cm] 196));have k5:=Is.nw vJ;have bj:=aO vJ;have jP:Below B w4 w5:=hE.trans (bj.mono (by have:=hE.size;omega));have c8:=hO.mono bj;have fE:w5.heap.size=wr.heap.size+1:=by rw[vJ];simp
   have SY:=aa (Zh (w:=w5) q.code q.cls nm cm am JY);obtain⟨A,hA⟩:=ae wr.heap.size;rw[<-hA] at k5 fE;have e0:=k5.at 0 rfl;have e1:=k5.at 1 rfl;have e2:=k5.at 2 rfl;have f6:p<A:=by have:=hO.is.lt;omega
   have ee:=aa (show ∀k,rv.ownBlock=some k->k<A from λk f=>by
    obtain⟨_,_,hr,_⟩:=hO.rows;have:=(hr.lt k f).2
    omega)
   clear hO Bv JY cu hm df bT lQ;go_upto_region 11 with fail;rw[<-vJ,<-hA];clear vJ hA N c1 c2;go_upto_region 12 with (go_at_call 153;refine SY.out.mono ?_;rintro e w6⟨rfl,aQ⟩);clear e0 e1 e2 SY;have k6:=k5.mono aQ;have dk:=c8.mono aQ;have ji:Below B w4 w6:=jP.trans (aQ.mono (by omega));go_cut [33] from 33 to 161 (λiv I=>iv=.int .i64 j/\(∃av,lU T X B p B jM I (j+1) j j l8 l9 D bg jg u6 u7 u8 u9 u10 av (.slice xa nx xc) ev Z E E)/\Is I A #[.int .i32 q.code,.int .i64 q.cls,.slice am nm cm] 196/\Below B w4 I)
   case first=>
    have ge:A<w6.heap.size:=k6.lt;have k7:=k6.mono (ag w6);have a2:=dk.mono (ag w6);have CL:=aa (λ(W:World) (E:Below w6.heap.size w6 W)=>kX (w:=W) q.map (((ff.out.mono (bj.trans (aQ.mono bj.size))).mono E)) ⟨_,_,_,rfl,dB.out⟩ (by have:=sN.out;omega));rw[<-sN.out] at CL;obtain⟨R,_,hr,_⟩:=a2.rows;obtain⟨r1,r2,rfl,_,_⟩:=ak hr;have g0:=vG.keeps (S:=λk=>k=p\/k=A) (a2.is.at 0 rfl) (.inl rfl);have g1:=vG.keeps (S:=λk=>k=p\/k=A) (k7.at 0 rfl) (.inr rfl);have g2:=vG.keeps (S:=λk=>k=p\/k=A) (k7.at 1 rfl) (.inr rfl);have g3:=vG.keeps (S:=λk=>k=p\/k=A) (k7.at 2 rfl) (.inr rfl);refine dF (KR.blocks λk=>k=p\/k=A) #[true,true,true,true,true,true,true,true,true,true,true,true,true,true,true,true,true,true,true,false] 19 1 mixed ?_;refine bZ [0,1,2,3,4,5,6,7,8,9,10,11] 7 ?_
    iterate 12 (refine aA rfl ?_;go_big_quiet_step (rfl))
    refine az ?_;refine bN 12 ?_;go_wp2_with fail;refine(CL.out w6.drew (ag w6)).mono ?_;rintro e w8⟨cv,rfl,cJ,iH⟩;have bb:=a2.mono iH;have k8:=k7.mono iH;obtain⟨ca,cc,rfl,_,_⟩:=ak cJ;go_wp2_with fail;refine bK (KR.of_below iH iH.size (λk f=>by have:=a2.is.lt;have:=k7.lt;rcases f with rfl|rfl <;> omega)) ?_;refine bZ [13] 5 ?_
    iterate 1 (refine aA rfl ?_;go_big_quiet_step (rfl))
    refine az ?_;refine bN 14 ?_;go_wp2_with fail;refine bK (KR.of_below (ah _) (by simp) (λk f=>by have:=bb.is.lt;have:=k8.lt;rcases f with rfl|rfl <;> omega)) ?_;obtain⟨R,eE,dA,eu⟩:=bb.rows;refine bN 15 ?_;refine Bt (W:=w8) rfl _ _ 146 rfl B h_ _ 3 40 JV (by decide) (by decide) (.slice r1 j r2) j _ rfl dA _ rfl rfl (by simp[Value.oneCell']) (by omega) (by have:=bb.is.lt;omega) ?_;intro v1 w9 o9 o_ Dw;obtain⟨s1,s2,rfl,_,_⟩:=ak o9;have kT:=ah (w:=w8) (.cells #[.int .i32 q.code,.int .i64 q.cls,.slice ca nm cc] 196);have bh:=bb.mono kT;have k9:=k8.mono kT;have b5:=aH dA kT;have dV:(Value.slice r1 j r2).ownBlock≠some A:=λe=>absurd (ee.out A e) (tI A);have fb:=k9.grown Dw dV;have cQ:ik (w8.alloc (.cells #[.int .i32 q.code,.int .i64 q.cls,.slice ca nm cc] 196)) Z (.slice ca nm cc) q.map:=by
     refine⟨?_,λk f=>a2.fresh (cJ.lt k f).1⟩;have:=aT (aH cJ kT) (gW _);rw[<-sN.out];exact this
    have Mx:=bh.Vr eE b5 (λx hx=>(eu x hx).ext kT) (q:=q) (by rw[au.out];exact gA an) cQ o9 Dw;have dJ:=(bJ.bQ b5 Dw).is bh.is (by decide);go_wp2_with fail;refine bK (KR.bQ (w:=w8.alloc (.cells #[.int .i32 q.code,.int .i64 q.cls,.slice ca nm cc] 196)) Dw Dw.size (λk f=>?_)) ?_
    ·rcases f with rfl|rfl
     ·exact⟨bh.is.lt,bh.is.other b5 (by decide)⟩
     exact⟨k9.lt,dV⟩
    refine bZ [16,17,18] 0 ?_
    iterate 3 (refine aA rfl ?_;go_big_quiet_step (rfl))
    refine az ?_;have e0:=dJ.at 0 rfl;have d0:=dJ.frozen 0;refine eU [19] ?_;refine tail_cons rfl ?_;go_wp2_with fail;refine tail_nil ?_;have kL:Below B w4 w8:=(ji.trans ((ag w6).mono (by omega))).trans (iH.mono (by have:=a2.is.lt;omega));have Xk:Below B w4 (w9.setCell ⟨p,0,none⟩ (.slice s1 (j+1) s2)):=aj ((kL.trans (kT.mono (by have:=bb.is.lt;omega))).grown Dw (by have:=bh.is.lt;omega) (λk f=>(b5.lt k f).1)) (by omega);have al:=fb.put (show A≠p by omega) (o:=0) (.slice s1 (j+1) s2);obtain⟨FT,fl⟩:=ae (w9.setCell ⟨p,0,none⟩ (.slice s1 (j+1) s2));rw[<-fl] at Xk al Mx⊢;go_wp2_with fail;go_meet;exact⟨rfl,⟨_,Mx⟩,al,Xk⟩
   case rest=>
    clear k5 k6 c8 dk jP ji bj aQ ee;obtain⟨rfl,⟨av,Mx⟩,al,Xk⟩:=hcut;have fX:A≠p:=by omega
    have e0:=al.at 0 rfl;have e1:=al.at 1 rfl;have e2:=al.at 2 rfl;have fe:=al.lt;have Yx:B<=wc.heap.size:=by omega
    go_upto_region 13 with fail;go_cut [6,33] from 33 to 161 (λs6 iv I=>iv=.int .i64 j/\lU T X B p B jM I (j+1) (j+1) j l8 l9 D bg jg s6 u7 u8 u9 u10 av (.slice xa nx xc) ev Z E E/\Is I A #[.int .i32 q.code,.int .i64 q.cls,.slice am nm cm] 196/\Below B w4 I)
    case first=>
     go_wp2_with (refine qf (W:=wc) rfl _ _ 257 rfl B 260 _ 2 8 Kq (by decide) (by decide) (by decide) (by decide) u6 j _ rfl Mx.cls _ rfl rfl (by simp[Value.oneCell']) (by omega) wc (gO _ _) Yx ?_;intro v1 xw eS gn TL fK)
     have Eg:=Mx.Zf (by
      rw[gE an,<-au.out,BF,js,jj]
      exact eS) TL fK
     have ar:=al.grown TL (λe=>absurd ((bV Mx.cls e).one (iA al)) (by decide));have Ig:Below B w4 xw:=Xk.grown TL Yx (λk f=>(Mx.cls.lt k f).1);go_wp2_with fail;go_meet;exact⟨rfl,Eg,ar,Ig⟩
    case rest=>
     clear e0 e1 e2 al Mx Xk fe Yx;obtain⟨xw,TM⟩:=ae wc;subst TM;obtain⟨rfl,Eg,ar,Ig⟩:=hcut;obtain⟨v1,ba⟩:=ae u6;subst ba;have e2:=ar.at 2 rfl;by_cases dg:nm=0
     ·subst dg;have cg:q.map=[]:=im.1 sN.out.symm;have eh:E.map (·.1)=(mapped (T.take (j+1))).map (·.code):=by
       rw[gE an,<-au.out,mapped,n8,Eg.mG,mapped];simp[cg]
      have Xl:=aa (Eg.afp eh);clear Eg eh cg;go_wp2_with fail;go_roundw
      case rel=>exact⟨j+1,by omega,by simp,⟨_,_,Z,E,_,_,_,_,_,Xl.out,u_.out⟩,Ig⟩
      case measure=>simp[intOf];omega
     have f8:((nm:Int)==0)=false:=by simp;omega
     go_upto_region 15 with fail;go_cut [13,33] from 33 to 161 (λs13 iv I=>∃C U AB fa O t Y,s13=.pointer (some ⟨C,0,none⟩)/\iv=.int .i64 j/\Is I C #[.slice U nm AB,.slice fa t O,.bool Y] 178/\(Y=true↔Prim T X q.code)/\I.ownsRow xw.heap.size aN 1 (.slice U nm AB) nm (aM q.map)/\t=(aD T q.code).length/\I.ownsRow xw.heap.size aN 1 (.slice fa t O) t (aM (aD T q.code))/\Below xw.heap.size xw I/\xw.heap.size<=C)
     case first=>
      have TP:=cb.trans (Ig.mono bz);have bf:q∈T:=by rw[au.out];exact gx an
      have CL:=aa (λ(W:World) (E:Below xw.heap.size xw W)=>kX (w:=W) q.map (ep.out.mono (TP.trans (E.mono TP.size))) ⟨_,_,_,rfl,dB.out⟩ (by have:=sN.out;omega));have FU:=aa (λ(W:World) (E:Below xw.heap.size xw W)=>Rw (ch.out.mono (TP.trans (E.mono TP.size))) HF.out q.code J (HV.out.full q bf));have PR:=aa (λ(W:World) (E:Below xw.heap.size xw W)=>G6 (ch.out.mono (TP.trans (E.mono TP.size))) HF.out hX q.code J);rw[<-sN.out] at CL;have Vx:=aa (il HV.out q.code);have cX:=k4.low Ig eR;have e0:=ar.at 0 rfl;have e3:=cX.at 0 rfl;have e4:=cX.at 1 rfl;refine aC #[true,true,true,true,true,true,true,true,true,true,true,true,true,false] 13 1 mixed ?_;have TQ:=ag xw;have cW:=Gr.cell TQ e0;have ex:=Gr.cell TQ e2;have fJ:=Gr.cell TQ e3;have eH:=Gr.cell TQ e4;refine ay [0,1,3,4,5,7,8,9] 5 ?_
      iterate 8 (refine aA rfl ?_;go_big_quiet_step (rfl))
      refine az ?_;refine Oe [12] (λ_ v W=>∃k,v=.pointer (some ⟨k,0,none⟩)/\W.heap[k]? = some (.cells #[.slice none 0 0,.slice none 0 0,.bool false] 178)) rq 4 rfl (by kernel_rfl) (λ_ _ _ _ hb h=>wV hb h) ?_ ?_
      ·intro i K o ho;simp only[jf,km,or_false] at K;subst K;cases ho;exact wU rfl rfl (λW=>by go_simp)
      refine pI 2 ?_;intro fq ej;have bH:=af TQ ej;go_wp2_with fail;refine(CL.out _ bH).mono ?_;rintro e f7⟨f9,rfl,cS,cf⟩;obtain⟨U,AB,rfl,_,_⟩:=ak cS;go_wp2_with fail;refine aF cf ?_;have c6:=af bH cf;have d7:=aa (aT cS (show xw.heap.size<=fq.heap.size from bH.size));clear cS;refine pI 6 ?_;intro eQ cd;have b1:=af c6 cd;go_wp2_with fail;refine(FU.out _ b1).mono ?_;rintro e ga⟨fv,rfl,bM,b2⟩;obtain⟨t,a3⟩:=ae ((aD T q.code).length);have yO:=aa a3;have dv:=aa (aT bM (show xw.heap.size<=eQ.heap.size from b1.size));rw[<-a3] at bM;obtain⟨fa,O,rfl,_,_⟩:=ak bM;clear a3 bM;go_wp2_with fail;refine aF b2 ?_;have du:=af b1 b2;refine pI 10 ?_;intro fP b4;have cj:=af du b4;go_wp2_with fail;refine(PR.out _ cj).mono ?_;rintro e gj⟨Y,rfl,bo,bi⟩;go_wp2_with fail;refine aF bi ?_;have dY:=af cj bi;have bD:=aa bo;clear bo;refine oC [11] 0 ?_
      iterate 1 (refine aA rfl ?_;go_big_quiet_step (rfl))
      refine az ?_;refine aa3 [13] ?_;intro W Wb vs hR hD;have WE:=af dY Wb;obtain⟨⟨C,ba,d_⟩,bp,a7⟩:=hR 12 (by simp);rw[ba] at bp a7;simp only[rq] at bp a7;rw[ru (d:=some 13) rfl,ba];have kC:Is W C #[.slice none 0 0,.slice none 0 0,.bool false] 178:=⟨d_⟩;have bn:xw.heap.size<=C:=bp;have D9:=aa (aH d7.out (af (af (af (af cd b2) b4) bi) Wb));have dI:=aa (aH dv.out (af (af b4 bi) Wb));clear ba d_ hR hD bp a7 bH c6 b1 du cj dY cf ej b2 cd bi b4 TQ d7 dv e0 e2 e3 e4 cW ex fJ eH CL FU PR;have f0:=kC.at 0 rfl;have f1:=kC.at 1 rfl;have f2:=kC.at 2 rfl;have q0:=kC.frozen 0;have q1:=kC.frozen 1;have q2:=kC.frozen 2;refine tail_cons rfl ?_;go_wp2_with fail;refine tail_nil ?_;obtain⟨Ck,Px⟩:=ae (((W.setCell ⟨C,0,none⟩ (.slice U nm AB)).setCell ⟨C,1,none⟩ (.slice fa t O)).setCell ⟨C,2,none⟩ (.bool Y));have bR:Is Ck C #[.slice U nm AB,.slice fa t O,.bool Y] 178:=by rw[Px];exact((kC.set 0 _).set 1 _).set 2 _
      have a1:Below xw.heap.size xw Ck:=by rw[Px];exact aj (aj (aj WE bn) bn) bn
      have tr:∀{e:TypeId} {base n:Nat} {v:Value} {xs:List Value},e≠178->W.ownsRow base e 1 v n xs->Ck.ownsRow base e 1 v n xs:=by
       intro e base n v xs aq ho;rw[Px];have c1:=bJ.put (o:=0) kC (.slice U nm AB);have c2:=bJ.put (o:=1) (kC.set 0 (.slice U nm AB)) (.slice fa t O);have c3:=bJ.put (o:=2) ((kC.set 0 (.slice U nm AB)).set 1 (.slice fa t O)) (.bool Y);exact c3.own (c2.own (c1.own ho aq) aq) aq
      have Xm:=aa (tr (by decide) D9.out);have bI:=aa (tr (by decide) dI.out);rw[<-Px];clear Px tr f0 f1 f2 q0 q1 q2 kC WE Wb D9 dI;go_wp2_with fail;go_meet;exact⟨C,U,AB,fa,O,t,Y,rfl,rfl,bR,bD.out,Xm.out,yO.out,yO.out▸bI.out,a1,bn⟩
     case rest=>
      obtain⟨C,U,AB,fa,O,t,Y,rfl,rfl,bR,bo,dG,a3,dP,a1,bn⟩:=hcut;have bD:=aa bo;have Xm:=aa dG;have yO:=aa a3;have bI:=aa dP;obtain⟨Ck,Px⟩:=ae wc;subst Px;have b_:=ar.mono a1;have Xl:=Eg.mono a1;have ZZ:Below B w4 Ck:=Ig.trans (a1.mono (by have:=ar.lt;omega));have Sj:=ar.lt;clear bo dG a3 dP;have HZ:=aa (show ∀k,(Value.slice fa t O).ownBlock=some k->Z k=none from λk f=>Eg.fresh (bI.out.lt k f).1);have fw:=aa (show ∀k,(Value.slice U nm AB).ownBlock=some k->Z k=none from λk f=>Eg.fresh (Xm.out.lt k f).1);have c9:=aa (show ∀k,ev.ownBlock=some k->k<xw.heap.size from λk f=>(Eg.qp.lt k f).2);clear ar Eg Ig a1 e2;go_upto_region 16 with fail;obtain⟨ne,aq⟩:=ae E.length;have Yf:=aa aq;have he:=Xl.qp;rw[<-aq] at he;obtain⟨ea,ec,rfl,_,_⟩:=ak he;have fB:ne<=j:=by rw[aq];exact aV.out
      clear aq he;go_cut [33] from 33 to 161 (λiv I=>iv=.int .i64 j/\(∃s1 s2,lU T X B p B jM I (j+1) (j+1) (j+1) l8 l9 D bg jg v1 u7 u8 u9 u10 av (.slice xa nx xc) (.slice s1 (ne+1) s2) Z (E++[(q.code,Value.slice U nm AB,Value.slice fa t O,Y)]) E)/\Is I A #[.int .i32 q.code,.int .i64 q.cls,.slice am nm cm] 196/\Is I C #[.slice U nm AB,.slice fa t O,.bool Y] 178/\Below B w4 I)
      case first=>
       have fW:=b_.lt;have dN:=b_.mono (ag Ck);have Xn:=bR.mono (ag Ck);have TS:=Xl.mono (ag Ck);have g0:=vG.keeps (S:=λk=>k=p\/k=C) (TS.is.at 4 rfl) (.inl rfl);have g1:=vG.keeps (S:=λk=>k=p\/k=C) (Xn.at 0 rfl) (.inr rfl);have g2:=vG.keeps (S:=λk=>k=p\/k=C) (Xn.at 1 rfl) (.inr rfl);have g3:=vG.keeps (S:=λk=>k=p\/k=C) (Xn.at 2 rfl) (.inr rfl);refine dF (KR.blocks λk=>k=p\/k=C) #[true,true,true,true,true,true,true,true,true,true,false] 10 1 mixed ?_;refine bZ [0,1,2,3,4,5] 4 ?_
       iterate 6 (refine aA rfl ?_;go_big_quiet_step (rfl))
       refine az ?_;refine bN 6 ?_;go_wp2_with fail;refine bK (KR.of_below (ah _) (by simp) (λk f=>by have:=TS.is.lt;have:=Xn.lt;rcases f with rfl|rfl <;> omega)) ?_;have ci:=TS.qp;rw[<-Yf.out] at ci;refine bN 7 ?_;refine Bt (W:=Ck.drew) rfl _ _ 152 rfl B 178 _ 3 56 Zd (by decide) (by decide) (.slice ea ne ec) ne _ rfl ci _ rfl rfl (by simp[Value.oneCell']) (by omega) (by have:=TS.is.lt;omega) ?_;intro fV fG d2 f5 Py;obtain⟨s1,s2,rfl,_,_⟩:=ak d2;have Di:=ah (w:=Ck.drew) (.cells #[.slice U nm AB,.slice fa t O,.bool Y] 178);have TT:=TS.mono Di;have bt:=aH ci Di;have d8:=Xn.mono Di;have dD:(Value.slice ea ne ec).ownBlock≠some C:=λe=>by have:=c9.out C e;omega
       have en:(E++[(q.code,Value.slice U nm AB,Value.slice fa t O,Y)]).map (·.1)=(mapped (T.take (j+1))).map (·.code):=by
        rw[gE an,<-au.out,mapped,n8,js,js,TT.mG,mapped];have:q.map≠[]:=λe=>dg (by rw[sN.out,e];rfl);simp[this]
       have cD:(Ck.drew.alloc (.cells #[.slice U nm AB,.slice fa t O,.bool Y] 178)).ownsRow 0 aN 1 (.slice fa t O) (aD T q.code).length (aM (aD T q.code)):=by
        have:=aT (aH (aH bI.out (ag Ck)) Di) (gW _);rw[<-yO.out];exact this
       have el:(Ck.drew.alloc (.cells #[.slice U nm AB,.slice fa t O,.bool Y] 178)).ownsRow 0 aN 1 (.slice U nm AB) (bP T q.code).length (aM (bP T q.code)):=by
        have e1:bP T q.code=q.map:=by unfold bP;rw[aaJ HV.out.rise (by rw[au.out];exact gx an)]
        rw[e1,<-sN.out];exact aT (aH (aH Xm.out (ag Ck)) Di) (gW _)
       have a5:=TT.Vs (ev':=.slice s1 (ne+1) s2) (x:=(q.code,Value.slice U nm AB,Value.slice fa t O,Y)) (je':=j+1) (by rw[<-Yf.out];exact d2) Py ⟨cD,HZ.out⟩ ⟨el,fw.out⟩ bD.out en;have cz:=(bJ.bQ bt Py).is TT.is (by decide);have Xo:=d8.grown Py dD;have aW:=(dN.mono Di).grown Py (λe=>absurd ((bV bt e).one (iA (dN.mono Di))) (by decide));have bs:Below B w4 (fG.setCell ⟨p,4,none⟩ (.slice s1 (ne+1) s2)):=aj (((ZZ.trans ((ag Ck).mono (by omega))).trans (Di.mono (by have:=TS.is.lt;omega))).grown Py (by have:=TT.is.lt;omega) (λk f=>(bt.lt k f).1)) (by omega);have cc:=bJ.put (o:=4) cz (.slice s1 (ne+1) s2);have fg:=cc.is Xo (by decide);have eW:=cc.is aW (by decide);go_wp2_with fail;refine bK (KR.bQ (w:=Ck.drew.alloc (.cells #[.slice U nm AB,.slice fa t O,.bool Y] 178)) Py Py.size (λk f=>?_)) ?_
       ·rcases f with rfl|rfl
        ·exact⟨TT.is.lt,TT.is.other bt (by decide)⟩
        exact⟨d8.lt,dD⟩
       refine bZ [8,9] 0 ?_
       iterate 2 (refine aA rfl ?_;go_big_quiet_step (rfl))
       refine az ?_;have e4:=cz.at 4 rfl;have d4:=cz.frozen 4;refine eU [10] ?_;refine tail_cons rfl ?_;go_wp2_with fail;refine tail_nil ?_;go_wp2_with fail;go_meet;exact⟨rfl,⟨s1,s2,a5⟩,eW,fg,bs⟩
      case rest=>
       clear b_ bR Xl ZZ Xm c9;obtain⟨a8,dr⟩:=ae wc;subst dr;obtain⟨rfl,⟨s1,s2,a5⟩,aW,Xo,bs⟩:=hcut;obtain⟨n1,cA⟩:=ae (ne+1);obtain⟨x,hx⟩:∃x:eB,x=(q.code,Value.slice U nm AB,Value.slice fa t O,Y):=⟨_,rfl⟩;rw[<-cA,<-hx] at a5;have mH:=aa hx;have cO:=aa cA;have gl:n1<65536:=by omega
       have gk:ne<100000:=by omega
       have Yx:p<A/\A<a8.heap.size/\C<a8.heap.size:=⟨by omega,aW.lt,Xo.lt⟩;clear hx cA fB;go_upto_region 17 with fail;go_cut [7,33] from 33 to 161 (λs7 iv I=>iv=.int .i64 j/\lU T X B p B jM I (j+1) (j+1) (j+1) l8 l9 D bg jg v1 s7 u8 u9 u10 av (.slice xa nx xc) (.slice s1 n1 s2) Z (E++[x]) (E++[x])/\Is I A #[.int .i32 q.code,.int .i64 q.cls,.slice am nm cm] 196/\Is I C #[.slice U nm AB,.slice fa t O,.bool Y] 178/\Below B w4 I)
       case first=>
        have TQ:=ag a8;have cW:=Gr.cell TQ (aW.at 0 rfl);have fQ:=Gr.cell TQ (a5.is.at 4 rfl);refine aC #[true,true,true,true,true,true,true,true,true,true,true,false,false] 11 2 mixed ?_;refine ay [0,1,2,3,4,5,6,7,8,9] 1 ?_
        iterate 10 (refine aA rfl ?_;go_big_quiet_step (rfl))
        refine az ?_;refine aI 10 ?_;go_wp2_with fail;refine aF (ah _) ?_;have dw:=a5.mono TQ;have ho:=dw.Uu;rw[<-Yf.out] at ho;refine aJ [11,12] ?_;refine tail_cons rfl ?_;refine qf (W:=a8.drew) rfl _ _ 257 rfl B 260 _ 2 8 Kq (by decide) (by decide) (by decide) (by decide) u7 ne _ rfl ho #[.int .i32 (q.code:Nat),.int .u16 (n1:Nat)] rfl rfl (by simp[Value.oneCell']) (by omega) a8.drew (gO _ _) (by simp;omega) ?_;intro v7 Aj eT fY cy ez
        have TV:=dw.Zg (Ep':=E++[x]) (by
         rw[RQ,jj,d',<-Yf.out,mH.out,<-cO.out];rw[cO.out];have e:List.flatMap cellC [(q.code,n1)]=[.int .i32 (q.code:Nat),.int .u16 (n1:Nat)]:=rfl;rw[<-cO.out,e]
         exact eT) cy ez
        have c1:=bJ.bQ ho cy;have bA:Below B w4 Aj:=(bs.trans (TQ.mono (by omega))).grown cy (by simp;omega) (λk f=>(ho.lt k f).1);refine tail_cons rfl ?_;go_wp2_with fail;refine tail_nil ?_;go_wp2_with fail;go_meet;exact⟨rfl,TV,c1.is (aW.mono TQ) (by decide),c1.is (Xo.mono TQ) (by decide),bA⟩
       case rest=>
        clear a5 aW Xo bs;obtain⟨Aj,fx⟩:=ae wc;subst fx;obtain⟨v7,eO⟩:=ae u7;subst eO;obtain⟨rfl,TV,bS,b3,bA⟩:=hcut;have Yx:p<A/\A<Aj.heap.size/\C<Aj.heap.size:=⟨by omega,bS.lt,b3.lt⟩;have cH:=aa (pF T q.code);have dU:x.2.2.1=.slice fa t O/\x.1=q.code:=by rw[mH.out];exact⟨rfl,rfl⟩
        have Uz:=aa dU;clear dU;obtain⟨F,eN,eA,N,YT,ek,dM⟩:∃F,fa=some ⟨F,0,none⟩/\F<Aj.heap.size/\∃N,Hid (aP N/\(aD T q.code).head? = some N)/\Hid (mZ Aj F aN/\Z F=none)/\Aj.cell? ⟨F,0,none⟩=some (.int .i32 (N:Nat)):=by
         obtain⟨f1,f2⟩:=TV.full x (by simp);rw[Uz.out.1,Uz.out.2,<-yO.out] at f1;rw[Uz.out.1] at f2;have b8:0<t:=by rw[yO.out];exact jz.2 cH.out
         obtain⟨F,cap,e,_,_,hl,hc,Q⟩:=dz f1 b8;injection e with e1 e2 e3;have aw:0<(aD T q.code).length:=yO.out▸b8;refine⟨F,e1,hl,(aD T q.code)[0],aa ⟨ow HV.out Yu.out.1 (gx aw),by rw[List.head?_eq_getElem?];exact gA aw⟩,aa ⟨hc,f2 F (by rw[e1];rfl)⟩,Q 0 _ ?_⟩;rw[gA (by simpa using aw),dR]
        subst eN;go_upto_region 18 with fail;go_cut [33] from 33 to 161 (λiv I=>iv=.int .i64 j/\(∃Z',lU T X B p B jM I (j+1) (j+1) (j+1) l8 l9 D (λc=>if c=N then bg N++[q.code] else bg c) jg v1 v7 u8 u9 u10 av (.slice xa nx xc) (.slice s1 n1 s2) Z' (E++[x]) (E++[x]))/\Is I A #[.int .i32 q.code,.int .i64 q.cls,.slice am nm cm] 196/\Is I C #[.slice U nm AB,.slice (some ⟨F,0,none⟩) t O,.bool Y] 178/\Below B w4 I)
        case first=>
         have gf:N<1114112:=YT.out.1.1;have aR:=Ap N (by omega);have TW:=TV.mono (ag Aj);obtain⟨G,hG,cl,cq⟩:=TW.bm;obtain⟨uv,fd,LC⟩:∃uv,si Aj.drew B Z (N+3) uv (bg N)/\(((∀v,¬G (.int .i32 N) v)/\uv=.slice none 0 0)\/G (.int .i32 N) uv):=by
          by_cases hg:∃v,G (.int .i32 N) v
          ·obtain⟨v,hv⟩:=hg;obtain⟨c,e,hw⟩:=cl _ _ hv;have:c=N:=by injection e with _ e;omega
           subst this;exact⟨v,hw,.inr hv⟩
          have dc:∀u,¬G (.int .i32 N) u:=λu hu=>hg ⟨u,hu⟩;exact⟨_,by rw[cq N dc];exact si.nil _ _ _ _,.inl ⟨dc,rfl⟩⟩
         have fC:=aa cl;have fL:=aa cq;have gc:(bg N).length<=j:=by rw[u_.out.ib];exact gS (Vp _ _ _) aV.out
         have hz:=λW=>zeroValue35 W;have eV:=aB (ag Aj) dM;have g0:=vG.keeps (S:=λk=>k=p\/k=A\/k=C\/k=F\/k=B) (TW.is.at 5 rfl) (.inl rfl);have g1:=vG.keeps (S:=λk=>k=p\/k=A\/k=C\/k=F\/k=B) ((bS.mono (ag Aj)).at 0 rfl) (.inr (.inl rfl));have g2:=vG.keeps (S:=λk=>k=p\/k=A\/k=C\/k=F\/k=B) ((b3.mono (ag Aj)).at 1 rfl) (.inr (.inr (.inl rfl)));have g3:=vG.keeps (S:=λk=>k=p\/k=A\/k=C\/k=F\/k=B) eV (.inr (.inr (.inr (.inl rfl))));have c_:0<t:=by rw[yO.out];exact jz.2 cH.out
         clear cl cq;refine dF (KR.blocks λk=>k=p\/k=A\/k=C\/k=F\/k=B) #[true,true,true,true,true,true,true,true,true,true,true,true,true,true,true,true,true,true,true,true,true,false] 21 1 mixed ?_;refine bZ [0,1,2,3,4,5,6,7,8,9,10,11,12,13,14,15,16,17,18] 2 ?_
         iterate 16 (refine aA rfl ?_;go_big_quiet_step (rfl))
         refine aA rfl ?_;refine BD rfl ?_;refine zJ _ _ 153 35 rfl jR underlying153 hG (.inr (.inr (.inr (.inr rfl)))) rfl rfl aR hz uv LC ?_;simp only[Act.put,vi,vh,rN]
         iterate 2 (refine aA rfl ?_;go_big_quiet_step (rfl))
         refine az ?_;have Eh:=ah (w:=Aj.drew) (.cells #[.int .i32 (q.code:Nat)] aN);have Pz:=TW.mono Eh;have ds:=(bS.mono (ag Aj)).mono Eh;have d6:=(b3.mono (ag Aj)).mono Eh;have dT:Below B w4 (Aj.drew.alloc (.cells #[.int .i32 (q.code:Nat)] aN)):=(bA.trans ((ag Aj).mono (by omega))).trans (Eh.mono (by simp;omega));have dp:si (Aj.drew.alloc (.cells #[.int .i32 (q.code:Nat)] aN)) B Z (N+3) uv (bg N):=fd.mono λk f=>Eh.block k (TW.wk k f).1;refine bN 19 ?_;go_wp2_with fail;refine bK (KR.of_below Eh Eh.size (λk f=>by have:=TW.is.lt;have:Aj.drew.heap.size=Aj.heap.size:=rfl;rcases f with rfl|rfl|rfl|rfl|rfl <;> omega)) ?_;refine bN 20 ?_;refine ng (W:=Aj.drew.alloc (.cells #[.int .i32 (q.code:Nat)] aN)) rfl _ _ 35 rfl B aN (.int .i32 0) 4 bW (by decide) (v:=uv) rfl dp.1 (by simp;omega) [.int .i32 (q.code:Nat)] (by simp[Value.oneCell']) ⟨Aj.drew.heap.size,0,none⟩ 1 1 rfl rfl (λi u K=>?_) (by omega) ?_
         ·rcases i with _|i
          ·cases K;exact(Is.new Aj.drew _ aN).at 0 rfl
          cases K
         intro fD eJ eg di dx;obtain⟨Z',hS,eK⟩:=vK.ja (l':=bg N++[q.code]) Pz.wk dp (by rw[a_,d'];exact eg) di dx
         have hH:=Pz.pushB hS eK (hG.mono Eh) (λx u hx=>by
          obtain⟨c,e,hw⟩:=fC.out x u hx
          exact⟨c,e,hw.mono λk f=>Eh.block k (TW.wk k f).1⟩) fL.out
         have dX:=hS.iQ Pz.wk;have cM:=dX.is ds (by decide);have db:=dX.is d6 (by decide);have fz:Below B w4 eJ:=dT.trans (hS.below Pz.zb (by simp;omega));have HH:=aa hH;have fO:=aa hS;clear hH eg di dx;go_wp2_with fail;refine bK ⟨λk f=>hS.keep k (by have:=Pz.is.lt;simp;rcases f with rfl|rfl|rfl|rfl|rfl <;> omega) (λhz=>?_),hS.size⟩ ?_
         ·have bU:=(Pz.wk k (by rw[hz];simp)).2;rcases f with rfl|rfl|rfl|rfl|rfl
          ·exact absurd (bU.one (iA Pz.is)) (by decide)
          ·exact absurd (bU.one (iA ds)) (by decide)
          ·exact absurd (bU.one (iA d6)) (by decide)
          ·rw[ek.out.2] at hz;cases hz
          exact ou (hG.mono Eh) bU
         refine eU [21] ?_;refine tail_cons rfl ?_;refine jQ (xv:=.int .i32 N) (vv:=fD) rfl _ _ _ 153 35 rfl jR underlying153 HH.out.map rfl rfl rfl aR ?_;intro H fA bY;have Xp:=HH.out.st H fA bY (by omega);have a9:=dS cM (bY.block A cM.lt (λe=>by injection e with e;omega));have Xq:=dS db (bY.block C db.lt (λe=>by injection e with e;have:=TV.low;omega));have bv:Below B w4 H:=fz.grown bY (by have:=cM.lt;omega) (λk f=>by injection f with f;omega);go_wp2_with fail;refine tail_nil ?_;go_wp2_with fail;go_meet;exact⟨rfl,⟨_,Xp⟩,a9,Xq,bv⟩
        case rest=>
         clear TV bS b3 bA dM eA ek;obtain⟨H,fr⟩:=ae wc;subst fr;obtain⟨rfl,⟨Z2,Xp⟩,a9,Xq,bv⟩:=hcut;have Yx:p<A/\A<H.heap.size/\C<H.heap.size:=⟨by omega,a9.lt,Xq.lt⟩;obtain⟨aZ,cT⟩:∃aZ:Nat->List Nat,aZ=λc=>if c=N then bg N++[q.code] else bg c:=⟨_,rfl⟩;rw[<-cT] at Xp;have fp:=aa cT;clear cT;go_upto_region 19 with fail;go_cut [8,10,33] from 33 to 161 (λs8 s10 iv I=>iv=.int .i64 j/\(∃Z',lU T X B p B jM I (j+1) (j+1) (j+1) (l8++(aD T q.code).drop 1) l9 (D++[q.code]) aZ jg v1 v7 s8 u9 s10 av (.slice xa nx xc) (.slice s1 n1 s2) Z' (E++[x]) (E++[x]))/\Is I A #[.int .i32 q.code,.int .i64 q.cls,.slice am nm cm] 196/\Is I C #[.slice U nm AB,.slice (some ⟨F,0,none⟩) t O,.bool Y] 178/\Below B w4 I)
         case first=>
          have c_:0<t:=by rw[yO.out];exact jz.2 cH.out
          have pY:=Xp.mono (ag H);have aE:=a9.mono (ag H);have PD:=Xq.mono (ag H);have g1:=vG.keeps (S:=λk=>k=A\/k=C) (aE.at 0 rfl) (.inl rfl);have g2:=vG.keeps (S:=λk=>k=A\/k=C) (PD.at 1 rfl) (.inr rfl);obtain⟨fR,ef⟩:t<=O/\Hid (∀i u,(aM (aD T q.code))[i]? = some u->H.drew.cell? ⟨F,i,none⟩=some u):=by
           obtain⟨f1,f2⟩:=pY.full x (by simp);rw[Uz.out.1,Uz.out.2,<-yO.out] at f1;obtain⟨F',cap,e,hc,_,_,_,Q⟩:=dz f1 c_;injection e with e1 _ e3;injection e1 with e1;injection e1 with e1;subst e1;subst e3;exact⟨hc,aa Q⟩
          have f3:l8.length<=31*j:=by rw[u_.out.i8];exact gS (BI (λc=>il HV.out c) E) (sY _ aV.out)
          have fS:D.length<=j:=by rw[u_.out.i10];unfold Kv;rw[ia];exact aV.out
          have gb:t<=32:=by rw[yO.out];exact il HV.out _
          have aS:=aa (show(aM ((aD T q.code).drop 1)).length=t-1 from by rw[bF,ps,<-yO.out]);have bC:=aa (show(l8++(aD T q.code).drop 1).length=l8.length+(t-1) from by rw[d',ps,<-yO.out]);have bG:Below B w4 H.drew:=bv.trans ((ag H).mono (by omega));by_cases fF:O=1
          ·subst fF;obtain rfl:t=1:=by omega
           refine dF (KR.blocks λk=>k=A\/k=C) #[true,true,true,true,true,true,true,true,true,true,false,false] 10 2 mixed ?_;refine bZ [0,1,2,3,5,6,7] 3 ?_
           iterate 7 (refine aA rfl ?_;go_big_quiet_step (rfl))
           refine az ?_;refine P_ 4 8 ?_ ?_
           ·refine ng (W:=H.drew) rfl _ _ 35 rfl B aN (.int .i32 0) 4 bW (by decide) (v:=u8) rfl pY.w8.1 (by simp;omega) (aM ((aD T q.code).drop 1)) (gJ _) ⟨F,0,none⟩ 0 0 aS.out.symm rfl (λi u K=>absurd (ir.1 K).1 (by have:=aS.out;omega)) (by omega) ?_;intro ew PE bc Xr Xt;obtain⟨Z3,Dj,bk⟩:=vK.ja (l':=l8++(aD T q.code).drop 1) pY.wk pY.w8 (by rw[bC.out,a_];exact bc) Xr Xt;have p_:=pY.Qm Dj bk;have kA:=Dj.kept pY.wk aE (by decide);have kC:=Dj.kept pY.wk PD (by decide);have ap:=dS aE kA;have IM:=dS PD kC;have PG:Below B w4 PE:=bG.trans (Dj.below pY.zb (by simp;omega));have Xu:=Dj.size;have fm:H.heap.size<=PE.heap.size:=Xu;clear bc Xr Xt;go_wp2_with fail;refine bK ⟨λk f=>f.elim (λh=>by rw[h];exact kA) (λh=>by rw[h];exact kC),Xu⟩ ?_;have yP:=ah (w:=PE) (.cells #[.int .i32 (q.code:Nat)] aN);have M:=p_.mono yP;have ad:=ap.mono yP;have Dk:=IM.mono yP;have PH:Below B w4 (PE.alloc (.cells #[.int .i32 (q.code:Nat)] aN)):=PG.trans (yP.mono (by omega));refine bN 8 ?_;go_wp2_with fail;refine bK (KR.of_below yP yP.size (λk f=>by rcases f with rfl|rfl <;> omega)) ?_;refine bN 9 ?_;refine ng (W:=PE.alloc (.cells #[.int .i32 (q.code:Nat)] aN)) rfl _ _ 35 rfl B aN (.int .i32 0) 4 bW (by decide) (v:=u10) rfl M.zL.1 (by simp;omega) [.int .i32 (q.code:Nat)] (by simp[Value.oneCell']) ⟨PE.heap.size,0,none⟩ 1 1 rfl rfl (λi u K=>?_) (by omega) ?_
            ·rcases i with _|i
             ·cases K;exact(Is.new PE _ aN).at 0 rfl
             cases K
            intro ct V Xv Dl Dm;obtain⟨Z4,mg,PI⟩:=vK.ja (l':=D++[q.code]) M.wk M.zL (by rw[a_,d'];exact Xv) Dl Dm;have xx:=M.G8 mg PI;have ab:=mg.kept M.wk ad (by decide);have Xw:=mg.kept M.wk Dk (by decide);have ai:=dS ad ab;have vD:=dS Dk Xw;have Dn:Below B w4 V:=PH.trans (mg.below M.zb (by simp;omega));have PK:=mg.size;clear Xv Dl Dm;go_wp2_with fail;refine bK ⟨λk f=>f.elim (λh=>by rw[h];exact ab) (λh=>by rw[h];exact Xw),PK⟩ ?_;refine eU [10,11] ?_;refine tail_cons rfl ?_;go_wp2_with fail;refine tail_nil ?_;go_wp2_with fail;go_meet;exact⟨rfl,⟨Z4,xx⟩,ai,vD,Dn⟩
           go_wp2_with fail;have xy:=ah (w:=H.drew) (.cells #[.int .i32 (q.code:Nat)] aN);have p_:=pY.mono xy;have ap:=aE.mono xy;have IM:=PD.mono xy;have PG:Below B w4 (H.drew.alloc (.cells #[.int .i32 (q.code:Nat)] aN)):=bG.trans (xy.mono (by show B<=H.heap.size;omega));refine bK (KR.of_below xy xy.size (λk f=>by rcases f with rfl|rfl <;> (show _<H.heap.size;omega))) ?_;have kN:=Is.new H.drew #[.int .i32 (q.code:Nat)] aN;have b9:=aa (pY.fresh (gw H.drew.heap.size));refine bN 4 ?_;refine ng (W:=H.drew.alloc (.cells #[.int .i32 (q.code:Nat)] aN)) rfl _ _ 35 rfl B aN (.int .i32 0) 4 bW (by decide) (v:=u8) rfl p_.w8.1 (by simp;omega) (aM ((aD T q.code).drop 1)) (gJ _) ⟨F,0,none⟩ 0 0 aS.out.symm rfl (λi u K=>absurd (ir.1 K).1 (by have:=aS.out;omega)) (by omega) ?_;intro e6 aL be Xx Xy;obtain⟨Z3,yQ,bd⟩:=vK.ja (l':=l8++(aD T q.code).drop 1) p_.wk p_.w8 (by rw[bC.out,a_];exact be) Xx Xy;have M:=p_.Qm yQ bd;have kA:=yQ.kept p_.wk ap (by decide);have kC:=yQ.kept p_.wk IM (by decide);have ad:=dS ap kA;have Dk:=dS IM kC;have cB:=dS kN (yQ.keep _ kN.lt (by rw[b9.out];simp));have PH:Below B w4 aL:=PG.trans (yQ.below p_.zb (by simp;omega));have Xz:=yQ.size;have eY:H.heap.size+1<=aL.heap.size:=by simpa using Xz
           clear be Xx Xy;go_wp2_with fail;refine bK ⟨λk f=>f.elim (λh=>by rw[h];exact kA) (λh=>by rw[h];exact kC),Xz⟩ ?_;refine bN 9 ?_;refine ng (W:=aL) rfl _ _ 35 rfl B aN (.int .i32 0) 4 bW (by decide) (v:=u10) rfl M.zL.1 (by omega) [.int .i32 (q.code:Nat)] (by simp[Value.oneCell']) ⟨H.drew.heap.size,0,none⟩ 1 1 rfl rfl (λi u K=>?_) (by omega) ?_
           ·rcases i with _|i
            ·cases K;exact cB.at 0 rfl
            cases K
           intro ct V Xv Dl Dm;obtain⟨Z4,mg,PI⟩:=vK.ja (l':=D++[q.code]) M.wk M.zL (by rw[a_,d'];exact Xv) Dl Dm;have xx:=M.G8 mg PI;have ab:=mg.kept M.wk ad (by decide);have Xw:=mg.kept M.wk Dk (by decide);have ai:=dS ad ab;have vD:=dS Dk Xw;have Dn:Below B w4 V:=PH.trans (mg.below M.zb (by omega));have PK:=mg.size;clear Xv Dl Dm;go_wp2_with fail;refine bK ⟨λk f=>f.elim (λh=>by rw[h];exact ab) (λh=>by rw[h];exact Xw),PK⟩ ?_;refine eU [10,11] ?_;refine tail_cons rfl ?_;go_wp2_with fail;refine tail_nil ?_;go_wp2_with fail;go_meet;exact⟨rfl,⟨Z4,xx⟩,ai,vD,Dn⟩
          refine dF (KR.blocks λk=>k=A\/k=C) #[true,true,true,true,true,true,true,true,true,true,false,false] 10 2 mixed ?_;refine bZ [0,1,2,3,5,6,7] 3 ?_
          iterate 7 (refine aA rfl ?_;go_big_quiet_step (rfl))
          refine az ?_;refine P_ 4 8 ?_ ?_
          ·refine ng (W:=H.drew) rfl _ _ 35 rfl B aN (.int .i32 0) 4 bW (by decide) (v:=u8) rfl pY.w8.1 (by simp;omega) (aM ((aD T q.code).drop 1)) (gJ _) ⟨F,1,none⟩ (t-1) (O-1) aS.out.symm rfl (λi u K=>by
            have e0:=addr_add F 1 i;rw[e0]
            exact ef.out (1+i) u (by rw[<-K,EG,yp])) (by omega) ?_
           intro ew PE bc Xr Xt;obtain⟨Z3,Dj,bk⟩:=vK.ja (l':=l8++(aD T q.code).drop 1) pY.wk pY.w8 (by rw[bC.out,a_];exact bc) Xr Xt;have p_:=pY.Qm Dj bk;have kA:=Dj.kept pY.wk aE (by decide);have kC:=Dj.kept pY.wk PD (by decide);have ap:=dS aE kA;have IM:=dS PD kC;have PG:Below B w4 PE:=bG.trans (Dj.below pY.zb (by simp;omega));have Xu:=Dj.size;have fm:H.heap.size<=PE.heap.size:=Xu;clear bc Xr Xt;go_wp2_with fail;refine bK ⟨λk f=>f.elim (λh=>by rw[h];exact kA) (λh=>by rw[h];exact kC),Xu⟩ ?_;have yP:=ah (w:=PE) (.cells #[.int .i32 (q.code:Nat)] aN);have M:=p_.mono yP;have ad:=ap.mono yP;have Dk:=IM.mono yP;have PH:Below B w4 (PE.alloc (.cells #[.int .i32 (q.code:Nat)] aN)):=PG.trans (yP.mono (by omega));refine bN 8 ?_;go_wp2_with fail;refine bK (KR.of_below yP yP.size (λk f=>by rcases f with rfl|rfl <;> omega)) ?_;refine bN 9 ?_;refine ng (W:=PE.alloc (.cells #[.int .i32 (q.code:Nat)] aN)) rfl _ _ 35 rfl B aN (.int .i32 0) 4 bW (by decide) (v:=u10) rfl M.zL.1 (by simp;omega) [.int .i32 (q.code:Nat)] (by simp[Value.oneCell']) ⟨PE.heap.size,0,none⟩ 1 1 rfl rfl (λi u K=>?_) (by omega) ?_
           ·rcases i with _|i
            ·cases K;exact(Is.new PE _ aN).at 0 rfl
            cases K
           intro ct V Xv Dl Dm;obtain⟨Z4,mg,PI⟩:=vK.ja (l':=D++[q.code]) M.wk M.zL (by rw[a_,d'];exact Xv) Dl Dm;have xx:=M.G8 mg PI;have ab:=mg.kept M.wk ad (by decide);have Xw:=mg.kept M.wk Dk (by decide);have ai:=dS ad ab;have vD:=dS Dk Xw;have Dn:Below B w4 V:=PH.trans (mg.below M.zb (by simp;omega));have PK:=mg.size;clear Xv Dl Dm;go_wp2_with fail;refine bK ⟨λk f=>f.elim (λh=>by rw[h];exact ab) (λh=>by rw[h];exact Xw),PK⟩ ?_;refine eU [10,11] ?_;refine tail_cons rfl ?_;go_wp2_with fail;refine tail_nil ?_;go_wp2_with fail;go_meet;exact⟨rfl,⟨Z4,xx⟩,ai,vD,Dn⟩
          go_wp2_with fail;have xy:=ah (w:=H.drew) (.cells #[.int .i32 (q.code:Nat)] aN);have p_:=pY.mono xy;have ap:=aE.mono xy;have IM:=PD.mono xy;have PG:Below B w4 (H.drew.alloc (.cells #[.int .i32 (q.code:Nat)] aN)):=bG.trans (xy.mono (by show B<=H.heap.size;omega));refine bK (KR.of_below xy xy.size (λk f=>by rcases f with rfl|rfl <;> (show _<H.heap.size;omega))) ?_;have kN:=Is.new H.drew #[.int .i32 (q.code:Nat)] aN;have b9:=aa (pY.fresh (gw H.drew.heap.size));refine bN 4 ?_
          refine ng (W:=H.drew.alloc (.cells #[.int .i32 (q.code:Nat)] aN)) rfl _ _ 35 rfl B aN (.int .i32 0) 4 bW (by decide) (v:=u8) rfl p_.w8.1 (by simp;omega) (aM ((aD T q.code).drop 1)) (gJ _) ⟨F,1,none⟩ (t-1) (O-1) aS.out.symm rfl (λi u K=>by
           have e0:=addr_add F 1 i;rw[e0]
           exact aB xy (ef.out (1+i) u (by rw[<-K,EG,yp]))) (by omega) ?_
          intro e6 aL be Xx Xy;obtain⟨Z3,yQ,bd⟩:=vK.ja (l':=l8++(aD T q.code).drop 1) p_.wk p_.w8 (by rw[bC.out,a_];exact be) Xx Xy;have M:=p_.Qm yQ bd;have kA:=yQ.kept p_.wk ap (by decide);have kC:=yQ.kept p_.wk IM (by decide);have ad:=dS ap kA;have Dk:=dS IM kC;have cB:=dS kN (yQ.keep _ kN.lt (by rw[b9.out];simp));have PH:Below B w4 aL:=PG.trans (yQ.below p_.zb (by simp;omega));have Xz:=yQ.size;have eY:H.heap.size+1<=aL.heap.size:=by simpa using Xz
          clear be Xx Xy;go_wp2_with fail;refine bK ⟨λk f=>f.elim (λh=>by rw[h];exact kA) (λh=>by rw[h];exact kC),Xz⟩ ?_;refine bN 9 ?_;refine ng (W:=aL) rfl _ _ 35 rfl B aN (.int .i32 0) 4 bW (by decide) (v:=u10) rfl M.zL.1 (by omega) [.int .i32 (q.code:Nat)] (by simp[Value.oneCell']) ⟨H.drew.heap.size,0,none⟩ 1 1 rfl rfl (λi u K=>?_) (by omega) ?_
          ·rcases i with _|i
           ·cases K;exact cB.at 0 rfl
           cases K
          intro ct V Xv Dl Dm;obtain⟨Z4,mg,PI⟩:=vK.ja (l':=D++[q.code]) M.wk M.zL (by rw[a_,d'];exact Xv) Dl Dm;have xx:=M.G8 mg PI;have ab:=mg.kept M.wk ad (by decide);have Xw:=mg.kept M.wk Dk (by decide);have ai:=dS ad ab;have vD:=dS Dk Xw;have Dn:Below B w4 V:=PH.trans (mg.below M.zb (by omega));have PK:=mg.size;clear Xv Dl Dm;go_wp2_with fail;refine bK ⟨λk f=>f.elim (λh=>by rw[h];exact ab) (λh=>by rw[h];exact Xw),PK⟩ ?_;refine eU [10,11] ?_;refine tail_cons rfl ?_;go_wp2_with fail;refine tail_nil ?_;go_wp2_with fail;go_meet;exact⟨rfl,⟨Z4,xx⟩,ai,vD,Dn⟩
         case rest=>
          clear Xp a9 Xq bv Yx;obtain⟨V,ft⟩:=ae wc;subst ft;obtain⟨v8,e_⟩:=ae u8;subst e_;obtain⟨f_,eL⟩:=ae u10;subst eL;obtain⟨rfl,⟨Z3,xx⟩,ai,vD,Dn⟩:=hcut;have Yx:p<A/\A<V.heap.size/\C<V.heap.size:=⟨by omega,ai.lt,vD.lt⟩;have dy:=aa (show l8++(aD T q.code).drop 1=BH T (E++[x]) from by rw[RS,<-u_.out.i8,Uz.out.2]);have dd:=aa (show D++[q.code]=Kv (E++[x]) from by rw[RV,<-u_.out.i10,Uz.out.2]);have dW:=aa (show aZ=wK T (E++[x]) from by rw[fp.out,RY T E x N (by rw[Uz.out.2];exact YT.out.2),<-u_.out.ib,Uz.out.2]);have aX:x.2.2.2=Y:=by rw[mH.out]
          have e2:=vD.at 2 rfl;rcases (show Y=false\/Y=true from by cases Y <;> simp) with hpf|hpt
          ·subst hpf;have XA:=aa (show NZ T (E++[x]) (l8++(aD T q.code).drop 1) l9 (D++[q.code]) aZ jg from ⟨dy.out,by rw[Ze T E x aX];exact u_.out.i9,dd.out,dW.out,by rw[Vo T E x aX];exact u_.out.ij⟩);have fo:=aa xx;clear xx aX;go_wp2_with fail;go_roundw
           case rel=>exact⟨j+1,by omega,by simp,⟨_,_,Z3,E++[x],_,_,_,_,_,fo.out,XA.out⟩,Dn⟩
           case measure=>simp[intOf];omega
          subst hpt;obtain⟨a0,b0,bl⟩:∃a0 b0,q.map=[a0,b0]:=by
           have bf:q∈T:=by rw[au.out];exact gx an
           have da:=Bb HV.out.rise bf (by rw[Yu.out.2.2.2.1];decide) (bD.out.1 rfl)
           match cg:q.map,da with
           | [a0,b0],_=>exact⟨a0,b0,rfl⟩
          have eC:nm=2:=by rw[sN.out,bl];rfl
          subst eC;have a4:bP T q.code=[a0,b0]:=by
           have bf:q∈T:=by rw[au.out];exact gx an
           unfold bP;rw[aaJ HV.out.rise bf];exact bl
          have VJ:aP a0/\aP b0:=⟨(Yu.out.2.2.2.2 a0 (by rw[bl];simp)).2,(Yu.out.2.2.2.2 b0 (by rw[bl];simp)).2⟩;have Ro:=aa VJ
          have XA:=aa (show NZ T (E++[x]) (l8++(aD T q.code).drop 1) (l9++[b0]) (D++[q.code]) aZ (Ad jg (.agg #[.int .i32 (a0:Nat),.int .i32 (b0:Nat)]) (.int .i32 (q.code:Nat))) from
           ⟨dy.out,by rw[Vn T E x aX,<-u_.out.i9,Uz.out.2,a4];rfl,dd.out,dW.out,by rw[RX T E x aX,<-u_.out.ij,Uz.out.2,a4];rfl⟩)
          obtain⟨Mb,fj,m0,m1,d9⟩:∃Mb,U=some ⟨Mb,0,none⟩/\V.cell? ⟨Mb,0,none⟩=some (.int .i32 (a0:Nat))/\V.cell? ⟨Mb,1,none⟩=some (.int .i32 (b0:Nat))/\Mb<V.heap.size:=by
           obtain⟨f1,_⟩:=xx.maps x (by simp);rw[Uz.out.2,a4,mH.out] at f1;obtain⟨g,cap,e,_,_,hl,_,Q⟩:=dz f1 (by show 0<2;omega);injection e with e1 _ _;exact⟨g,e1,Q 0 _ rfl,Q 1 _ rfl,hl⟩
          subst fj;have gg:l9.length<=j:=by rw[u_.out.i9];exact gS (Kw T E) aV.out
          clear aX bl a4 VJ;go_upto_region 21 with fail;have XB:=xx.mono (ag V);have g0:=Gr.cell (ag V) (xx.is.at 6 rfl);have g1:=ai.gd 0 rfl;have g2:=vD.gd 0 rfl;have g3:=Gr.cell (ag V) m0;have g4:=Gr.cell (ag V) m1;have aR:=RN Ro.out.1.1 Ro.out.2.1;refine aC #[true,true,true,true,true,true,true,true,true,true,true,true,true,true,true,false] 15 1 mixed ?_;refine ay [0,1,2,3,4,5,6,7,8,9,10,11,12,13,14] 0 ?_
          iterate 15 (refine aA rfl ?_;go_big_quiet_step (rfl))
          refine az ?_;refine aJ [15] ?_;refine tail_cons rfl ?_;refine jQ (xv:=.agg #[.int .i32 (a0:Nat),.int .i32 (b0:Nat)]) (vv:=.int .i32 (q.code:Nat)) rfl _ _ _ 154 21 rfl NM underlying154 XB.jm rfl rfl rfl aR ?_;intro ao dK XC;have cn:=XB.ajE (by omega) dK XC;have fi:=dS (vD.mono (ag V)) (XC.block C (vD.mono (ag V)).lt (λe=>by injection e with e;exact ou (P:=prog) XB.jm (e▸iA (vD.mono (ag V)))));have gh:ao.cell? ⟨Mb,1,none⟩=some (.int .i32 (b0:Nat)):=by
           have hm:=aB (ag V) m1
           have hb:ao.heap[Mb]? = V.drew.heap[Mb]?:=XC.block Mb d9 (λe=>by
            injection e with e;obtain⟨es,ck,h1,_⟩:=XB.jm;rw[<-e] at h1;unfold World.cell? at hm;rw[h1] at hm
            cases hm)
           exact(nF (a:=⟨Mb,1,none⟩) hb).trans hm
          have et:Below B w4 ao:=(Dn.trans ((ag V).mono (by omega))).grown XC (by show B<=V.heap.size;omega) (λk f=>by injection f with f;omega);go_wp2_with fail;refine tail_nil ?_;clear xx ai vD Dn m0 m1 d9 XB g0 g1 g2 g3 g4 dK XC;have e0:=fi.at 0 rfl;have Yx:B<=ao.heap.size:=by have:=cn.is.lt;omega
          obtain⟨v9,fH⟩:=ae u9;subst fH;have dC:=ah (w:=ao) (.cells #[.int .i32 (b0:Nat)] aN);have TY:=cn.mono dC;have fk:Below B w4 (ao.alloc (.cells #[.int .i32 (b0:Nat)] aN)):=et.trans (dC.mono Yx);go_wp2_with (refine ng (W:=ao.alloc (.cells #[.int .i32 (b0:Nat)] aN)) rfl _ _ 35 rfl B aN (.int .i32 0) 4 bW (by decide) (v:=v9) rfl TY.w9.1 (by simp;omega) [.int .i32 (b0:Nat)] (by simp[Value.oneCell']) ⟨ao.heap.size,0,none⟩ 1 1 rfl rfl (λi u K=>(match i,K with|0,K=>(by cases K;exact(Is.new ao _ aN).at 0 rfl)|i+1,K=>(by cases K))) (by omega) ?_;intro gm fs dn dj dQ);obtain⟨Z5,cs,d5⟩:=vK.ja (l':=l9++[b0]) TY.wk TY.w9 (by rw[a_,d'];exact dn) dj dQ;have eZ:=aa (TY.afo cs d5);have er:Below B w4 fs:=fk.trans (cs.below TY.zb (by simp;omega));clear cn TY dn dj dQ cs d5;go_wp2_with fail;go_roundw
          case rel=>exact⟨j+1,by omega,by simp,⟨_,_,Z5,E++[x],_,_,_,_,_,eZ.out,XA.out⟩,er⟩
          case measure=>simp[intOf];omega
  have zj:=gI (show nt<=j by omega);obtain rfl:nt=j:=by omega
  have cN:=vI.out;have ht:T.take nt=T:=ie (by omega);have s:=u_.out;have fI:E.length=(mapped T).length:=by have:=congrArg List.length hO.mG;rw[ht,ia,ia] at this;exact this
  have yf:E.length<1000:=by have:=aV.out;omega
  have ac:∀x∈E,∃r∈T,x.1=r.code:=λx hx=>by
   have h1:x.1∈E.map (·.1):=s_ hx;rw[hO.mG,ht] at h1;obtain⟨r,hr,e⟩:=jx.1 h1;exact⟨r,(iJ.1 hr).1,e.symm⟩
  have J:∀x∈E,aP x.1:=λx hx=>by
   obtain⟨r,hr,e⟩:=ac x hx;rw[e];exact(HV.out.fine r hr).1
  have dl:=aa (λ(W:World) (h:Below wr.heap.size wr W)=>Kn (w:=W) (v:=u6) (L:=BF T) (base:=B) (by
   have h1:=aH hO.cls h;rw[ht] at h1;rw[Ku,<-cN];exact h1) (λy hy=>by
   obtain⟨r,hr,rfl⟩:=jx.1 hy;have:=HV.out.fine r hr
   exact⟨this.1.1,by have:=this.2.1;show r.cls<65536;omega⟩) (by rw[Ku];omega))
  have dt:=aa (λ(W:World) (h:Below wr.heap.size wr W)=>Kn (w:=W) (v:=u7) (L:=sP E) (base:=B) (by
   have h1:=aH hO.Uu h;rw[Kt];exact h1) (λy hy=>by
   obtain⟨z,hz,rfl⟩:=jx.1 hy;have fh:=List.mem_zipIdx hz
   exact⟨(J z.1 (by rw[fh.2.2];exact gx _)).1,by show z.2+1<65536;omega⟩) (by rw[Kt];omega))
  have CH:∀(v:Value) (o:Nat) (l:List Nat),si wr B Z o v l->(∀c∈l,aP c)->l.length<100000->Hid (∀W,Below B wr W->B<=wr.heap.size->(∀k,Z k≠none->W.heap[k]? = wr.heap[k]?)->Calls prog 115 #[v] W λe w'=>∃ra rn rc,e=.returned (.agg #[.slice ra rn rc])/\DX w' (.slice ra rn rc) l/\Below W.heap.size W w'):=λv o l hv hc hl=>aa λW _ _ f=>by
   have h1:=hv.mono f;refine(uD l (Sl.aU h1.1) (fU.aU h1.1) hc hl).mono ?_;rintro e w'⟨r,he,ho,hb⟩;obtain⟨a,c,rfl,_,_⟩:=ak ho;exact⟨a,_,c,he,aT ho (gW _),hb⟩
  have C8:=CH _ _ _ hO.w8 (λc hc=>by
   rw[s.i8] at hc;obtain⟨x,hx,hc⟩:=lP.1 hc
   exact ow HV.out (J x hx) (lz hc)) (by rw[s.i8];have:=BI (λc=>il HV.out c) E;omega)
  have C9:=CH _ _ _ hO.w9 (λc hc=>by
   rw[s.i9] at hc;obtain⟨x,hx,rfl⟩:=jx.1 hc;obtain⟨hx,hp⟩:=iJ.1 hx;obtain⟨r,hr,e⟩:=ac x hx;have dq:=(hO.qV x hx).1 hp;rw[e] at dq;have cZ:=HV.out.fine r hr;have da:=Bb HV.out.rise hr (by rw[cZ.2.2.2.1];decide) dq;have a4:bP T x.1=r.map:=by unfold bP;rw[e,aaJ HV.out.rise hr]
   rw[a4,ic,gA (show 1<r.map.length by omega)]
   exact(cZ.2.2.2.2 _ (gx _)).2) (by rw[s.i9];have:=Kw T E;omega)
  have ed:=CH _ _ _ hO.zL (λc hc=>by
   rw[s.i10] at hc;obtain⟨x,hx,rfl⟩:=jx.1 hc
   exact J x hx) (by rw[s.i10];unfold Kv;rw[ia];omega)
  have bB:=aa (show ∀k,Z k≠none->mZ wr k aN/\k<wr.heap.size from λk f=>⟨(hO.wk k f).2,(hO.wk k f).1⟩);have hD:=DY.of (X:=X) (T:=T) (by rw[<-cN];exact hO) s;have f4:=hO.is.lt;have cY:=hO.low.1;have cE:=aa s;have eF:=aa (iA hO.is);have cV:∀(W:World),(Below wr.heap.size wr W)->∀k,Z k≠none->W.heap[k]? = wr.heap[k]?:=λW h k f=>h.block k (bB.out k f).2;have eP:=aa cV;have HT:=aa ch.out;clear hO s fI ac J CH ht cV cN;go_wp2_with fail;refine(dl.out wr (gO _ _)).mono ?_;rintro e eD⟨cp,rfl,bw,bq⟩;go_wp2_with fail;refine(dt.out eD bq).mono ?_;rintro e em⟨pp,rfl,Nh,bE⟩;have cr:=(hD.mono bq).mono bE;have bw:=bw.mono bE;have a6:=af bq bE;have dH:=eP.out _ a6;have s2:=a6.size;clear bq bE dl dt hD;have i2:=cr.is;have q2:=i2.frozen 2;have q3:=i2.frozen 3;have e2:=i2.at 2 rfl;have e3:=i2.at 3 rfl;obtain⟨bL,T9⟩:=ae ((em.setCell ⟨p,2,none⟩ (.pointer (some ⟨cp,0,none⟩))).setCell ⟨p,3,none⟩ (.pointer (some ⟨pp,0,none⟩)));have cC:=(cr.put 2 (.pointer (some ⟨cp,0,none⟩)) rfl).put 3 (.pointer (some ⟨pp,0,none⟩)) rfl;have cR:=i2.set 2 (.pointer (some ⟨cp,0,none⟩));have co:=(bw.put i2 (show 10<=100 by omega) (o:=2) (.pointer (some ⟨cp,0,none⟩))).put cR (show 10<=100 by omega) (o:=3) (.pointer (some ⟨pp,0,none⟩));have cw:=(Nh.put i2 (show 10<=100 by omega) (o:=2) (.pointer (some ⟨cp,0,none⟩))).put cR (show 10<=100 by omega) (o:=3) (.pointer (some ⟨pp,0,none⟩));have bO:Below B wr bL:=by rw[T9];exact aj (aj (a6.mono (by omega)) cY) cY
  have cU:∀k,Z k≠none->bL.heap[k]? = wr.heap[k]?:=λk f=>by
   have d3:k≠p:=λe=>by
    have h1:=(bB.out k f).1;rw[e] at h1;exact absurd (h1.one eF.out) (by decide)
   rw[T9,heap_setCell_other _ ⟨p,3,none⟩ k _ (λe=>d3 (e.symm▸rfl)),heap_setCell_other _ ⟨p,2,none⟩ k _ (λe=>d3 (e.symm▸rfl))];exact dH k f
  have s3:wr.heap.size<=bL.heap.size:=by rw[T9];simpa using s2
  rw[<-T9] at cC co cw;clear cr bw Nh cR dH;go_wp2_with fail;rw[<-T9];have cG:=aa cU;clear T9 i2 q2 q3 e2 e3 cU;refine(C8.out bL bO (by omega) cG.out).mono ?_;rintro e eI⟨XD,XE,XF,rfl,eb,CP⟩;go_wp2_with fail;refine(C9.out eI (bO.trans (CP.mono (by omega))) (by omega) (λk f=>(CP.block k (by have:=(bB.out k f).2;omega)).trans (cG.out k f))).mono ?_;rintro e eX⟨XG,XH,XI,rfl,ei,cP⟩;have MC:=af CP cP;go_wp2_with fail;refine(ed.out eX (bO.trans (MC.mono (by omega))) (by omega) (λk f=>(MC.block k (by have:=(bB.out k f).2;omega)).trans (cG.out k f))).mono ?_;rintro e bx⟨Yy,Yz,YA,rfl,de,br⟩;have XJ:=af MC br;have cF:=cC.mono XJ;have c7:=co.mono XJ;have dm:=cw.mono XJ;have dh:=eb.mono (af cP br);have dL:=ei.mono br;have aQ:Below B wr bx:=bO.trans (XJ.mono (by omega));clear cC co cw eb ei CP cP br MC XJ C8 C9 ed;have i6:=cF.is;have q7:=i6.frozen 7;have q8:=i6.frozen 8;have q9:=i6.frozen 9;have e7:=i6.at 7 rfl;have e8:=i6.at 8 rfl;have e9:=i6.at 9 rfl;have b7:cK (((bx.setCell ⟨p,7,none⟩ (.slice XD XE XF)).setCell ⟨p,8,none⟩ (.slice XG XH XI)).setCell ⟨p,9,none⟩ (.slice Yy Yz YA)) p T X/\Below w.heap.size w (((bx.setCell ⟨p,7,none⟩ (.slice XD XE XF)).setCell ⟨p,8,none⟩ (.slice XG XH XI)).setCell ⟨p,9,none⟩ (.slice Yy Yz YA)):=by
   have dO:Below w.heap.size w (((bx.setCell ⟨p,7,none⟩ (.slice XD XE XF)).setCell ⟨p,8,none⟩ (.slice XG XH XI)).setCell ⟨p,9,none⟩ (.slice Yy Yz YA)):=aj (aj (aj (cb.trans ((hE.trans aQ).mono bz)) (by omega)) (by omega)) (by omega);have i7:=i6.set 7 (.slice XD XE XF);have i8:=i7.set 8 (.slice XG XH XI);obtain⟨_,x',cL,_,c4⟩:=HT.mono dO;injection cL with cL;have eo:Value.slice xa nx xc=x':=by
    have:=congrArg (λa:Array Value=>a.getD 1 undef) cL;simpa using this
   rw[<-eo] at c4;refine⟨⟨E,rv,.slice xa nx xc,ev,B,jM,cp,pp,.slice XD XE XF,.slice XG XH XI,.slice Yy Yz YA,((cF.put 7 (.slice XD XE XF) rfl).put 8 (.slice XG XH XI) rfl).put 9 (.slice Yy Yz YA) rfl,((c7.put i6 (show 10<=100 by omega) (o:=7) (.slice XD XE XF)).put i7 (show 10<=100 by omega) (o:=8) (.slice XG XH XI)).put i8 (show 10<=100 by omega) (o:=9) (.slice Yy Yz YA),((dm.put i6 (show 10<=100 by omega) (o:=7) (.slice XD XE XF)).put i7 (show 10<=100 by omega) (o:=8) (.slice XG XH XI)).put i8 (show 10<=100 by omega) (o:=9) (.slice Yy Yz YA),?_,?_,?_,c4⟩,dO⟩
   ·rw[<-cE.out.i8];exact((dh.put i6 7 (.slice XD XE XF)).put i7 8 (.slice XG XH XI)).put i8 9 (.slice Yy Yz YA)
   ·rw[<-cE.out.i9];exact((dL.put i6 7 (.slice XD XE XF)).put i7 8 (.slice XG XH XI)).put i8 9 (.slice Yy Yz YA)
   rw[<-cE.out.i10];exact((de.put i6 7 (.slice XD XE XF)).put i7 8 (.slice XG XH XI)).put i8 9 (.slice Yy Yz YA)
  have R9:=aa b7;clear b7 cF c7 dm dh dL de i6;go_wp2_with fail;go_ret2;exact⟨p,rfl,R9.out.1,R9.out.2⟩
end Go.Proofs.YtmnimbnojdndmaaGreatDoor
