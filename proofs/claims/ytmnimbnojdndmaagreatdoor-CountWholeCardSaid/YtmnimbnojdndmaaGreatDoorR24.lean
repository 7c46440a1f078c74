/- One machine of an NFD counts as its units do, multiplied; no condition. -/
import Derived.Test.YtmnimbnojdndmaaGreatDoorR10
import Derived.Test.YtmnimbnojdndmaaGreatDoorR14
import Derived.Deep.CutRange
set_option maxRecDepth 100000
set_option maxHeartbeats 6400000
set_option linter.all false
namespace Go.Proofs.YtmnimbnojdndmaaGreatDoor
open Go.RowKit Go.Cd _root_.Go.Proofs.Tryz
def addr_add (F o i:Nat):(⟨F,o,none⟩:Addr).add i=⟨F,o+i,none⟩:=by unfold Addr.add;split <;> simp_all
def vK.kept {W b:World} {Z g:ig} {o:Nat} (d:vK W Z o b g) (c:Ut W Z) {k:Nat} {f:Array Value} {T:TypeId} (h:Is W k f T) (a:aN≠T):b.heap[k]? = W.heap[k]?:=
 d.keep k h.lt λe=>a ((c k (by rw[e];simp)).2.one (iA h))
def Xj {w:World} {v:Value} {T:List aG} {X:List Nat} (h:qQ w v T X) (hV:aY T X) (hS:∀r∈T,r.cls≠0\/r.map≠[]) (hl:T.length<1000) (hX:X.length<10000) :
 Calls prog 107 #[v] w λe w'=>∃p,e=.returned (.tuple #[.pointer (some ⟨p,0,none⟩),.nilIface])/\cK w' p T X/\Below w.heap.size w w':=by
 have hF:=tX hV (by omega);have b8:=aa h;obtain⟨rv,xv,he,b_,_⟩:=id h;obtain⟨ra,nt,rc,xa,nx,xc,rfl⟩:=h.shape;have fA:rv=.slice ra nt rc:=by
  injection he with he;have:=congrArg (λa:Array Value=>a.getD 0 undef) he;simpa using this.symm
 subst fA;obtain⟨a',fL,eO,_,hx⟩:=b_;injection eO with e1 e2 e3;subst e1;subst e3;have vI:=aa e2;have HX:=aa hx;have HV:=aa hV;have HF:=aa hF;have HS:=aa hS;have CK:=aa (λ(W:World) (E:Below w.heap.size w W)=>NQ (h.mono E) hV (by omega) hX);rw[<-e2] at hl;obtain⟨w1,bA⟩:=ae (w.alloc (.cells #[.slice ra nt rc,.slice xa nx xc] 150));have k1:=Is.nw bA;have a6:=aO bA;have e0:=k1.at 0 rfl;have e1:=k1.at 1 rfl;clear h he hx hV hF hS e2;go_enter func107,ntmps107;go_wp2_with fail;rw[<-bA];clear bA;refine(CK.out w1 a6).mono ?_;rintro e w2⟨rfl,a5⟩;have k2:=k1.mono a5;have cu:=af a6 a5;clear e0 e1 CK;have er:∀W,(Instr.makeMap 153 none).run prog W=.ok (.map (some W.heap.size)) (W.alloc (.map #[] 0)):=λ_=>rfl;have eZ:∀W,(Instr.makeMap 154 none).run prog W=.ok (.map (some W.heap.size)) (W.alloc (.map #[] 0)):=λ_=>rfl;obtain⟨B,hB⟩:=ae w2.heap.size;obtain⟨w3,aw⟩:=ae (((w2.alloc (.map #[] 0)).alloc (.map #[] 0)).alloc (.cells #[.slice none 0 0,.slice none 0 0,.pointer none,.pointer none,.slice none 0 0,.map (some w2.heap.size),.map (some (w2.heap.size+1)),.slice none 0 0,.slice none 0 0,.slice none 0 0] 156));have cN:Below w2.heap.size w2 w3:=by
  rw[aw];exact af (af (ah _) (ah _)) (ah _)
 have m3:dE prog 21 w3 B λ_ _=>False:=by
  rw[aw,hB];exact((dE.new w2 0).mono (ah _)).mono (ah _)
 have m4:dE prog 262 w3 (B+1) λ_ _=>False:=by
  rw[aw,hB];have:=dE.new (P:=prog) (k:=262) (w2.alloc (.map #[] 0)) 0;rw[World.size_alloc] at this;exact this.mono (ah _)
 have p3:Is w3 (B+2) #[.slice none 0 0,.slice none 0 0,.pointer none,.pointer none,.slice none 0 0,.map (some B),.map (some (B+1)),.slice none 0 0,.slice none 0 0,.slice none 0 0] 156:=by
  rw[aw,hB];exact Is.new' _ _ _ _ (by simp)
 have k3:=k2.mono cN;have fH:w3.heap.size=B+3:=by rw[aw,hB];simp
 have dn:Below B w2 w3:=by rw[hB];exact cN
 have bw:w.heap.size<=B:=by rw[hB];exact cu.size
 have eM:w.heap.size<B:=by rw[hB];exact k2.lt
 go_upto_region 5 with fail;rw[<-aw];rw[<-hB];obtain⟨p,hp⟩:=ae (B+2);obtain⟨jM,bI⟩:=ae (B+1);rw[show B+1+1=p from by omega,<-bI];rw[<-hp,<-bI] at p3;rw[<-bI] at m4;have fN:B<p/\B<jM/\jM≠p/\p<B+3/\jM<B+3:=by omega
 have HB:=aa hB;clear aw hB cN k2 er eZ hp bI;have e0:=k3.at 1 rfl;have e1:=p3.at 1 rfl;have d1:=p3.frozen 1;obtain⟨w4,aQ⟩:=ae (w3.setCell ⟨p,1,none⟩ (.slice xa nx xc));have p4:Is w4 p #[.slice none 0 0,.slice xa nx xc,.pointer none,.pointer none,.slice none 0 0,.map (some B),.map (some jM),.slice none 0 0,.slice none 0 0,.slice none 0 0] 156:=by rw[aQ];exact p3.set 1 _
 have k4:Is w4 w.heap.size #[.slice ra nt rc,.slice xa nx xc] 150:=by rw[aQ];exact k3.put (by omega) _
 have ex:=m3;have Y5:w4.heap.size=B+3:=by rw[aQ,<-fH];simp
 have b9:Below w.heap.size w w4:=by rw[aQ];exact aj (cu.trans (dn.mono bw)) (by omega)
 have hO:lU T X B p B jM w4 0 0 0 [] [] [] (λ_=>[]) (λ_ _=>False) (.slice none 0 0) (.slice none 0 0) (.slice none 0 0) (.slice none 0 0) (.slice none 0 0) (.slice none 0 0) (.slice xa nx xc) (.slice none 0 0) (λ_=>none) [] []:=by
  have g:=bX w3 p 1 (.slice xa nx xc);rw[<-aQ] at g
  exact⟨p4,⟨[],rfl,World.ownsRow_nil _ _ _ _,by simp⟩,World.ownsRow_nil _ _ _ _,rfl,by simp,by simp,by simp,World.ownsRow_nil _ _ _ _,World.ownsRow_nil _ _ _ _,YV _ _ _,by omega,λ_ h=>absurd rfl h,λ_ h=>absurd rfl h,si.nil _ _ _ _,si.nil _ _ _ _,si.nil _ _ _ _,
   ⟨_,oq m3 g (λe=>by injection e with e;omega),λ_ _ h=>h.elim,λ_ _=>rfl⟩,oq m4 g (λe=>by injection e with e;omega)⟩
 go_upto_region 6 with fail;rw[<-aQ];clear aQ e0 e1 d1 p3 k3 m3 m4 ex p4 dn cu;have e0:=k4.at 0 rfl;go_wp2_with fail;clear e0;go_loopw [6,7,8,9,10,33] (λs6 s7 s8 s9 s10 iv wr=>∃j:Nat,j<=nt/\iv=.int .i64 j/\(∃rv ev Z E l8 l9 D bg jg,lU T X B p B jM wr j j j l8 l9 D bg jg s6 s7 s8 s9 s10 rv (.slice xa nx xc) ev Z E E/\NZ T E l8 l9 D bg jg)/\Below B w4 wr) (λ_ _ _ _ _ iv _=>nt-(intOf iv).toNat)
 case atStart=>exact⟨0,Nat.zero_le _,rfl,⟨_,_,_,_,_,_,_,_,_,hO,NZ.nil T⟩,Below.refl _ _⟩
 case round=>
  clear hO;obtain⟨j,hj,rfl,⟨rv,ev,Z,E,l8,l9,D,bg,jg,hO,s⟩,hE⟩:=hrel;have dJ:E.length<=j:=by
   have:=congrArg List.length hO.mG;rw[List.length_map,List.length_map] at this;rw[this];exact Nat.le_trans (List.length_filter_le _ _) (by rw[List.length_take];omega)
  have u_:=aa s;have aW:=aa dJ;clear s dJ;by_cases fS:j<nt
  ·have zj:=eG (show j<nt by omega);have an:j<T.length:=by have:=vI.out;omega
   have fT:=b9.trans (hE.mono bw);obtain⟨b,off,m,rfl,_,N,c1,c2,hm,bB⟩:=HX.out j an;have N:=aB fT N;have c1:=aB fT c1;have c2:=aB fT c2;have ab:=List.getElem_mem an;have lQ:=HV.out.fine _ ab;have Bv:=HS.out _ ab;have HQ:=aa (show ∃q,q=T[j] from ⟨_,rfl⟩);obtain⟨q,hq⟩:=HQ.out;rw[<-hq] at N c1 hm lQ Bv;have ar:=aa hq;clear HQ hq ab;obtain⟨am,nm,cm,rfl,bB⟩:=bB;have dV:=hm.mono fT;have cC:nm=q.map.length:=by
    obtain⟨_,_,e,_⟩:=hm;injection e with _ e _;rw[bF] at e;exact e
   have TJ:nm<=2:=by have:=lQ.2.2.1;omega
   have sN:=aa cC;have JY:q.cls≠0\/nm≠0:=Bv.imp id λh e=>h (List.length_eq_zero_iff.1 (cC▸e));have fM:q.cls<255:=lQ.2.1;have K:q.code<1114112:=lQ.1.1;have Yu:=aa lQ;have fm:=aa dV;have fj:=aa hm;have dW:=aa bB;obtain⟨w5,vJ⟩:=ae (wr.alloc (.cells #[.int .i32 q.code,.int .i64 q.cls,.slice am nm cm] 196));have k5:=Is.nw vJ;have be:=aO vJ;have jP:Below B w4 w5:=hE.trans (be.mono (by have:=hE.size;omega));have c9:=hO.mono be;have eK:w5.heap.size=wr.heap.size+1:=by rw[vJ];simp
   have SY:=aa (Zh (w:=w5) q.code q.cls nm cm am JY);obtain⟨A,hA⟩:=ae wr.heap.size;rw[<-hA] at k5 eK;have e0:=k5.at 0 rfl;have e1:=k5.at 1 rfl;have e2:=k5.at 2 rfl;have f3:p<A:=by have:=hO.is.lt;omega
   have di:=aa (show ∀k,rv.ownBlock=some k->k<A from λk f=>by
    obtain⟨_,_,hr,_⟩:=hO.rows;have:=(hr.lt k f).2
    omega)
   clear hO Bv JY cC hm dV bB lQ;go_upto_region 11 with fail;rw[<-vJ,<-hA];clear vJ hA N c1 c2;go_upto_region 12 with (go_at_call 153;refine SY.out.mono ?_;rintro e w6⟨rfl,aL⟩);clear e0 e1 e2 SY;have k6:=k5.mono aL;have dN:=c9.mono aL;have ji:Below B w4 w6:=jP.trans (aL.mono (by omega));go_cut [33] from 33 to 161 (λiv I=>iv=.int .i64 j/\(∃av,lU T X B p B jM I (j+1) j j l8 l9 D bg jg u6 u7 u8 u9 u10 av (.slice xa nx xc) ev Z E E)/\Is I A #[.int .i32 q.code,.int .i64 q.cls,.slice am nm cm] 196/\Below B w4 I)
   case first=>
    have fO:A<w6.heap.size:=k6.lt;have k7:=k6.mono (ag w6);have aZ:=dN.mono (ag w6);have CL:=aa (λ(W:World) (E:Below w6.heap.size w6 W)=>kX (w:=W) q.map (((fm.out.mono (be.trans (aL.mono be.size))).mono E)) ⟨_,_,_,rfl,dW.out⟩ (by have:=sN.out;omega));rw[<-sN.out] at CL;obtain⟨R,_,hr,_⟩:=aZ.rows;obtain⟨r1,r2,rfl,_,_⟩:=ak hr;have g0:=vG.keeps (S:=λk=>k=p\/k=A) (aZ.is.at 0 rfl) (.inl rfl);have g1:=vG.keeps (S:=λk=>k=p\/k=A) (k7.at 0 rfl) (.inr rfl);have g2:=vG.keeps (S:=λk=>k=p\/k=A) (k7.at 1 rfl) (.inr rfl);have g3:=vG.keeps (S:=λk=>k=p\/k=A) (k7.at 2 rfl) (.inr rfl);refine dF (KR.blocks λk=>k=p\/k=A) #[true,true,true,true,true,true,true,true,true,true,true,true,true,true,true,true,true,true,true,false] 19 1 mixed ?_;refine bZ [0,1,2,3,4,5,6,7,8,9,10,11] 7 ?_
    iterate 12 (refine aA rfl ?_;go_big_quiet_step (rfl))
    refine az ?_;refine bN 12 ?_;go_wp2_with fail;refine(CL.out w6.drew (ag w6)).mono ?_;rintro e w8⟨cv,rfl,cL,iH⟩;have bn:=aZ.mono iH;have k8:=k7.mono iH;obtain⟨ca,cc,rfl,_,_⟩:=ak cL;go_wp2_with fail;refine bK (KR.of_below iH iH.size (λk f=>by have:=aZ.is.lt;have:=k7.lt;rcases f with rfl|rfl <;> omega)) ?_;refine bZ [13] 5 ?_
    iterate 1 (refine aA rfl ?_;go_big_quiet_step (rfl))
    refine az ?_;refine bN 14 ?_;go_wp2_with fail;refine bK (KR.of_below (ah _) (by simp) (λk f=>by have:=bn.is.lt;have:=k8.lt;rcases f with rfl|rfl <;> omega)) ?_;obtain⟨R,fz,db,eL⟩:=bn.rows;refine bN 15 ?_;refine Bt (W:=w8) rfl _ _ 146 rfl B h_ _ 3 40 JV (by decide) (by decide) (.slice r1 j r2) j _ rfl db _ rfl rfl (by simp[Value.oneCell']) (by omega) (by have:=bn.is.lt;omega) ?_;intro v1 w9 o9 o_ Dw;obtain⟨s1,s2,rfl,_,_⟩:=ak o9;have kT:=ah (w:=w8) (.cells #[.int .i32 q.code,.int .i64 q.cls,.slice ca nm cc] 196);have bc:=bn.mono kT;have k9:=k8.mono kT;have bL:=aH db kT;have ei:(Value.slice r1 j r2).ownBlock≠some A:=λe=>absurd (di.out A e) (Nat.lt_irrefl A);have fI:=k9.grown Dw ei;have cq:ik (w8.alloc (.cells #[.int .i32 q.code,.int .i64 q.cls,.slice ca nm cc] 196)) Z (.slice ca nm cc) q.map:=by
     refine⟨?_,λk f=>aZ.fresh (cL.lt k f).1⟩;have:=aT (aH cL kT) (Nat.zero_le _);rw[<-sN.out];exact this
    have Mx:=bc.Vr fz bL (λx hx=>(eL x hx).ext kT) (q:=q) (by rw[ar.out];exact List.getElem?_eq_getElem an) cq o9 Dw;have dZ:=(bJ.bQ bL Dw).is bc.is (by decide);go_wp2_with fail;refine bK (KR.bQ (w:=w8.alloc (.cells #[.int .i32 q.code,.int .i64 q.cls,.slice ca nm cc] 196)) Dw Dw.size (λk f=>?_)) ?_
    ·rcases f with rfl|rfl
     ·exact⟨bc.is.lt,bc.is.other bL (by decide)⟩
     exact⟨k9.lt,ei⟩
    refine bZ [16,17,18] 0 ?_
    iterate 3 (refine aA rfl ?_;go_big_quiet_step (rfl))
    refine az ?_;have e0:=dZ.at 0 rfl;have d0:=dZ.frozen 0;refine eU [19] ?_;refine tail_cons rfl ?_;go_wp2_with fail;refine tail_nil ?_;have kL:Below B w4 w8:=(ji.trans ((ag w6).mono (by omega))).trans (iH.mono (by have:=aZ.is.lt;omega));have Xk:Below B w4 (w9.setCell ⟨p,0,none⟩ (.slice s1 (j+1) s2)):=aj ((kL.trans (kT.mono (by have:=bn.is.lt;omega))).grown Dw (by have:=bc.is.lt;omega) (λk f=>(bL.lt k f).1)) (by omega);have al:=fI.put (show A≠p by omega) (o:=0) (.slice s1 (j+1) s2);obtain⟨FT,fw⟩:=ae (w9.setCell ⟨p,0,none⟩ (.slice s1 (j+1) s2));rw[<-fw] at Xk al Mx⊢;go_wp2_with fail;go_meet;exact⟨rfl,⟨_,Mx⟩,al,Xk⟩
   case rest=>
    clear k5 k6 c9 dN jP ji be aL di;obtain⟨rfl,⟨av,Mx⟩,al,Xk⟩:=hcut;have gi:A≠p:=by omega
    have e0:=al.at 0 rfl;have e1:=al.at 1 rfl;have e2:=al.at 2 rfl;have eH:=al.lt;have Yx:B<=wc.heap.size:=by omega
    go_upto_region 13 with fail;go_cut [6,33] from 33 to 161 (λs6 iv I=>iv=.int .i64 j/\lU T X B p B jM I (j+1) (j+1) j l8 l9 D bg jg s6 u7 u8 u9 u10 av (.slice xa nx xc) ev Z E E/\Is I A #[.int .i32 q.code,.int .i64 q.cls,.slice am nm cm] 196/\Below B w4 I)
    case first=>
     go_wp2_with (refine qf (W:=wc) rfl _ _ 257 rfl B 260 _ 2 8 Kq (by decide) (by decide) (by decide) (by decide) u6 j _ rfl Mx.cls _ rfl rfl (by simp[Value.oneCell']) (by omega) wc (Below.refl _ _) Yx ?_;intro v1 xw fy f7 TL eu)
     have Eg:=Mx.Zf (by
      rw[List.take_succ_eq_append_getElem an,<-ar.out,BF,List.map_append,List.flatMap_append]
      exact fy) TL eu
     have aq:=al.grown TL (λe=>absurd ((bV Mx.cls e).one (iA al)) (by decide));have Ig:Below B w4 xw:=Xk.grown TL Yx (λk f=>(Mx.cls.lt k f).1);go_wp2_with fail;go_meet;exact⟨rfl,Eg,aq,Ig⟩
    case rest=>
     clear e0 e1 e2 al Mx Xk eH Yx;obtain⟨xw,TM⟩:=ae wc;subst TM;obtain⟨rfl,Eg,aq,Ig⟩:=hcut;obtain⟨v1,bd⟩:=ae u6;subst bd;have e2:=aq.at 2 rfl;by_cases dj:nm=0
     ·subst dj;have cD:q.map=[]:=List.length_eq_zero_iff.1 sN.out.symm;have c4:E.map (·.1)=(mapped (T.take (j+1))).map (·.code):=by
       rw[List.take_succ_eq_append_getElem an,<-ar.out,mapped,List.filter_append,Eg.mG,mapped];simp[cD]
      have Xl:=aa (Eg.afp c4);clear Eg c4 cD;go_wp2_with fail;go_roundw
      case rel=>exact⟨j+1,by omega,by simp,⟨_,_,Z,E,_,_,_,_,_,Xl.out,u_.out⟩,Ig⟩
      case measure=>simp[intOf];omega
     have f8:((nm:Int)==0)=false:=by simp;omega
     go_upto_region 15 with fail;go_cut [13,33] from 33 to 161 (λs13 iv I=>∃C U V fa O t pb,s13=.pointer (some ⟨C,0,none⟩)/\iv=.int .i64 j/\Is I C #[.slice U nm V,.slice fa t O,.bool pb] 178/\(pb=true↔Prim T X q.code)/\I.ownsRow xw.heap.size aN 1 (.slice U nm V) nm (aM q.map)/\t=(aD T q.code).length/\I.ownsRow xw.heap.size aN 1 (.slice fa t O) t (aM (aD T q.code))/\Below xw.heap.size xw I/\xw.heap.size<=C)
     case first=>
      have TP:=b9.trans (Ig.mono bw);have a8:q∈T:=by rw[ar.out];exact List.getElem_mem an
      have CL:=aa (λ(W:World) (E:Below xw.heap.size xw W)=>kX (w:=W) q.map (fj.out.mono (TP.trans (E.mono TP.size))) ⟨_,_,_,rfl,dW.out⟩ (by have:=sN.out;omega));have FU:=aa (λ(W:World) (E:Below xw.heap.size xw W)=>Rw (b8.out.mono (TP.trans (E.mono TP.size))) HF.out q.code K (HV.out.full q a8));have PR:=aa (λ(W:World) (E:Below xw.heap.size xw W)=>G6 (b8.out.mono (TP.trans (E.mono TP.size))) HF.out hX q.code K);rw[<-sN.out] at CL;have Vx:=aa (il HV.out q.code);have dG:=k4.low Ig eM;have e0:=aq.at 0 rfl;have e3:=dG.at 0 rfl;have e4:=dG.at 1 rfl;refine aC #[true,true,true,true,true,true,true,true,true,true,true,true,true,false] 13 1 mixed ?_;have TQ:=ag xw;have dA:=Gr.cell TQ e0;have eq:=Gr.cell TQ e2;have eJ:=Gr.cell TQ e3;have fJ:=Gr.cell TQ e4;refine ay [0,1,3,4,5,7,8,9] 5 ?_
      iterate 8 (refine aA rfl ?_;go_big_quiet_step (rfl))
      refine az ?_;refine Oe [12] (λ_ v W=>∃k,v=.pointer (some ⟨k,0,none⟩)/\W.heap[k]? = some (.cells #[.slice none 0 0,.slice none 0 0,.bool false] 178)) rq 4 rfl (by kernel_rfl) (λ_ _ _ _ hb h=>wV hb h) ?_ ?_
      ·intro i M o ho;simp only[List.mem_cons,List.not_mem_nil,or_false] at M;subst M;cases ho;exact wU rfl rfl (λW=>by go_simp)
      refine pI 2 ?_;intro fe du;have bG:=af TQ du;go_wp2_with fail;refine(CL.out _ bG).mono ?_;rintro e fP⟨fZ,rfl,cM,cP⟩;obtain⟨U,V,rfl,_,_⟩:=ak cM;go_wp2_with fail;refine aF cP ?_;have dC:=af bG cP;have dv:=aa (aT cM (show xw.heap.size<=fe.heap.size from bG.size));clear cM;refine pI 6 ?_;intro eA cH;have bp:=af dC cH;go_wp2_with fail;refine(FU.out _ bp).mono ?_;rintro e f_⟨fv,rfl,b5,bt⟩;obtain⟨t,a2⟩:=ae ((aD T q.code).length);have yO:=aa a2;have dx:=aa (aT b5 (show xw.heap.size<=eA.heap.size from bp.size));rw[<-a2] at b5;obtain⟨fa,O,rfl,_,_⟩:=ak b5;clear a2 b5;go_wp2_with fail;refine aF bt ?_;have de:=af bp bt;refine pI 10 ?_;intro gc bD;have co:=af de bD;go_wp2_with fail;refine(PR.out _ co).mono ?_;rintro e gk⟨pb,rfl,bl,bi⟩;go_wp2_with fail;refine aF bi ?_;have dk:=af co bi;have bT:=aa bl;clear bl;refine oC [11] 0 ?_
      iterate 1 (refine aA rfl ?_;go_big_quiet_step (rfl))
      refine az ?_;refine rf [13] ?_;intro W Wb vs hR hD;have WE:=af dk Wb;obtain⟨⟨C,bd,cU⟩,b3,a6⟩:=hR 12 (by simp);rw[bd] at b3 a6;simp only[rq] at b3 a6;rw[ru (d:=some 13) rfl,bd];have kC:Is W C #[.slice none 0 0,.slice none 0 0,.bool false] 178:=⟨cU⟩;have bf:xw.heap.size<=C:=b3;have D9:=aa (aH dv.out (af (af (af (af cH bt) bD) bi) Wb));have dq:=aa (aH dx.out (af (af bD bi) Wb));clear bd cU hR hD b3 a6 bG dC bp de co dk cP du bt cH bi bD TQ dv dx e0 e2 e3 e4 dA eq eJ fJ CL FU PR;have f0:=kC.at 0 rfl;have f1:=kC.at 1 rfl;have f2:=kC.at 2 rfl;have q0:=kC.frozen 0;have q1:=kC.frozen 1;have q2:=kC.frozen 2;refine tail_cons rfl ?_;go_wp2_with fail;refine tail_nil ?_;obtain⟨Ck,Px⟩:=ae (((W.setCell ⟨C,0,none⟩ (.slice U nm V)).setCell ⟨C,1,none⟩ (.slice fa t O)).setCell ⟨C,2,none⟩ (.bool pb));have bv:Is Ck C #[.slice U nm V,.slice fa t O,.bool pb] 178:=by rw[Px];exact((kC.set 0 _).set 1 _).set 2 _
      have aX:Below xw.heap.size xw Ck:=by rw[Px];exact aj (aj (aj WE bf) bf) bf
      have tr:∀{e:TypeId} {base n:Nat} {v:Value} {xs:List Value},e≠178->W.ownsRow base e 1 v n xs->Ck.ownsRow base e 1 v n xs:=by
       intro e base n v xs au ho;rw[Px];have c1:=bJ.put (o:=0) kC (.slice U nm V);have c2:=bJ.put (o:=1) (kC.set 0 (.slice U nm V)) (.slice fa t O);have c3:=bJ.put (o:=2) ((kC.set 0 (.slice U nm V)).set 1 (.slice fa t O)) (.bool pb);exact c3.own (c2.own (c1.own ho au) au) au
      have Xm:=aa (tr (by decide) D9.out);have b4:=aa (tr (by decide) dq.out);rw[<-Px];clear Px tr f0 f1 f2 q0 q1 q2 kC WE Wb D9 dq;go_wp2_with fail;go_meet;exact⟨C,U,V,fa,O,t,pb,rfl,rfl,bv,bT.out,Xm.out,yO.out,yO.out▸b4.out,aX,bf⟩
     case rest=>
      obtain⟨C,U,V,fa,O,t,pb,rfl,rfl,bv,bl,d7,a2,cV,aX,bf⟩:=hcut;have bT:=aa bl;have Xm:=aa d7;have yO:=aa a2;have b4:=aa cV;obtain⟨Ck,Px⟩:=ae wc;subst Px;have cb:=aq.mono aX;have Xl:=Eg.mono aX;have ZZ:Below B w4 Ck:=Ig.trans (aX.mono (by have:=aq.lt;omega));have Sj:=aq.lt;clear bl d7 a2 cV;have HZ:=aa (show ∀k,(Value.slice fa t O).ownBlock=some k->Z k=none from λk f=>Eg.fresh (b4.out.lt k f).1);have eo:=aa (show ∀k,(Value.slice U nm V).ownBlock=some k->Z k=none from λk f=>Eg.fresh (Xm.out.lt k f).1);have dP:=aa (show ∀k,ev.ownBlock=some k->k<xw.heap.size from λk f=>(Eg.qp.lt k f).2);clear aq Eg Ig aX e2;go_upto_region 16 with fail;obtain⟨ne,au⟩:=ae E.length;have Yf:=aa au;have he:=Xl.qp;rw[<-au] at he;obtain⟨ea,ec,rfl,_,_⟩:=ak he;have fh:ne<=j:=by rw[au];exact aW.out
      clear au he;go_cut [33] from 33 to 161 (λiv I=>iv=.int .i64 j/\(∃s1 s2,lU T X B p B jM I (j+1) (j+1) (j+1) l8 l9 D bg jg v1 u7 u8 u9 u10 av (.slice xa nx xc) (.slice s1 (ne+1) s2) Z (E++[(q.code,Value.slice U nm V,Value.slice fa t O,pb)]) E)/\Is I A #[.int .i32 q.code,.int .i64 q.cls,.slice am nm cm] 196/\Is I C #[.slice U nm V,.slice fa t O,.bool pb] 178/\Below B w4 I)
      case first=>
       have ge:=cb.lt;have dB:=cb.mono (ag Ck);have Xn:=bv.mono (ag Ck);have TS:=Xl.mono (ag Ck);have g0:=vG.keeps (S:=λk=>k=p\/k=C) (TS.is.at 4 rfl) (.inl rfl);have g1:=vG.keeps (S:=λk=>k=p\/k=C) (Xn.at 0 rfl) (.inr rfl);have g2:=vG.keeps (S:=λk=>k=p\/k=C) (Xn.at 1 rfl) (.inr rfl);have g3:=vG.keeps (S:=λk=>k=p\/k=C) (Xn.at 2 rfl) (.inr rfl);refine dF (KR.blocks λk=>k=p\/k=C) #[true,true,true,true,true,true,true,true,true,true,false] 10 1 mixed ?_;refine bZ [0,1,2,3,4,5] 4 ?_
       iterate 6 (refine aA rfl ?_;go_big_quiet_step (rfl))
       refine az ?_;refine bN 6 ?_;go_wp2_with fail;refine bK (KR.of_below (ah _) (by simp) (λk f=>by have:=TS.is.lt;have:=Xn.lt;rcases f with rfl|rfl <;> omega)) ?_;have cw:=TS.qp;rw[<-Yf.out] at cw;refine bN 7 ?_;refine Bt (W:=Ck.drew) rfl _ _ 152 rfl B 178 _ 3 56 Zd (by decide) (by decide) (.slice ea ne ec) ne _ rfl cw _ rfl rfl (by simp[Value.oneCell']) (by omega) (by have:=TS.is.lt;omega) ?_;intro f4 e_ df gf Py;obtain⟨s1,s2,rfl,_,_⟩:=ak df;have Di:=ah (w:=Ck.drew) (.cells #[.slice U nm V,.slice fa t O,.bool pb] 178);have TT:=TS.mono Di;have bO:=aH cw Di;have ef:=Xn.mono Di;have dp:(Value.slice ea ne ec).ownBlock≠some C:=λe=>by have:=dP.out C e;omega
       have fu:(E++[(q.code,Value.slice U nm V,Value.slice fa t O,pb)]).map (·.1)=(mapped (T.take (j+1))).map (·.code):=by
        rw[List.take_succ_eq_append_getElem an,<-ar.out,mapped,List.filter_append,List.map_append,List.map_append,TT.mG,mapped];have:q.map≠[]:=λe=>dj (by rw[sN.out,e];rfl);simp[this]
       have cO:(Ck.drew.alloc (.cells #[.slice U nm V,.slice fa t O,.bool pb] 178)).ownsRow 0 aN 1 (.slice fa t O) (aD T q.code).length (aM (aD T q.code)):=by
        have:=aT (aH (aH b4.out (ag Ck)) Di) (Nat.zero_le _);rw[<-yO.out];exact this
       have fg:(Ck.drew.alloc (.cells #[.slice U nm V,.slice fa t O,.bool pb] 178)).ownsRow 0 aN 1 (.slice U nm V) (bP T q.code).length (aM (bP T q.code)):=by
        have e1:bP T q.code=q.map:=by unfold bP;rw[kS HV.out.rise (by rw[ar.out];exact List.getElem_mem an)]
        rw[e1,<-sN.out];exact aT (aH (aH Xm.out (ag Ck)) Di) (Nat.zero_le _)
       have TU:=TT.Vs (ev':=.slice s1 (ne+1) s2) (x:=(q.code,Value.slice U nm V,Value.slice fa t O,pb)) (je':=j+1) (by rw[<-Yf.out];exact df) Py ⟨cO,HZ.out⟩ ⟨fg,eo.out⟩ bT.out fu;have cJ:=(bJ.bQ bO Py).is TT.is (by decide);have Xo:=ef.grown Py dp;have aS:=(dB.mono Di).grown Py (λe=>absurd ((bV bO e).one (iA (dB.mono Di))) (by decide));have b1:Below B w4 (e_.setCell ⟨p,4,none⟩ (.slice s1 (ne+1) s2)):=aj (((ZZ.trans ((ag Ck).mono (by omega))).trans (Di.mono (by have:=TS.is.lt;omega))).grown Py (by have:=TT.is.lt;omega) (λk f=>(bO.lt k f).1)) (by omega);have cc:=bJ.put (o:=4) cJ (.slice s1 (ne+1) s2);have el:=cc.is Xo (by decide);have fK:=cc.is aS (by decide);go_wp2_with fail;refine bK (KR.bQ (w:=Ck.drew.alloc (.cells #[.slice U nm V,.slice fa t O,.bool pb] 178)) Py Py.size (λk f=>?_)) ?_
       ·rcases f with rfl|rfl
        ·exact⟨TT.is.lt,TT.is.other bO (by decide)⟩
        exact⟨ef.lt,dp⟩
       refine bZ [8,9] 0 ?_
       iterate 2 (refine aA rfl ?_;go_big_quiet_step (rfl))
       refine az ?_;have e4:=cJ.at 4 rfl;have d4:=cJ.frozen 4;refine eU [10] ?_;refine tail_cons rfl ?_;go_wp2_with fail;refine tail_nil ?_;go_wp2_with fail;go_meet;exact⟨rfl,⟨s1,s2,TU⟩,fK,el,b1⟩
      case rest=>
       clear cb bv Xl ZZ Xm dP;obtain⟨a7,dD⟩:=ae wc;subst dD;obtain⟨rfl,⟨s1,s2,TU⟩,aS,Xo,b1⟩:=hcut;obtain⟨n1,cI⟩:=ae (ne+1);obtain⟨x,hx⟩:∃x:eB,x=(q.code,Value.slice U nm V,Value.slice fa t O,pb):=⟨_,rfl⟩;rw[<-cI,<-hx] at TU;have mH:=aa hx;have cf:=aa cI;have gg:n1<65536:=by omega
       have fW:ne<100000:=by omega
       have Yx:p<A/\A<a7.heap.size/\C<a7.heap.size:=⟨by omega,aS.lt,Xo.lt⟩;clear hx cI fh;go_upto_region 17 with fail;go_cut [7,33] from 33 to 161 (λs7 iv I=>iv=.int .i64 j/\lU T X B p B jM I (j+1) (j+1) (j+1) l8 l9 D bg jg v1 s7 u8 u9 u10 av (.slice xa nx xc) (.slice s1 n1 s2) Z (E++[x]) (E++[x])/\Is I A #[.int .i32 q.code,.int .i64 q.cls,.slice am nm cm] 196/\Is I C #[.slice U nm V,.slice fa t O,.bool pb] 178/\Below B w4 I)
       case first=>
        have TQ:=ag a7;have dA:=Gr.cell TQ (aS.at 0 rfl);have gb:=Gr.cell TQ (TU.is.at 4 rfl);refine aC #[true,true,true,true,true,true,true,true,true,true,true,false,false] 11 2 mixed ?_;refine ay [0,1,2,3,4,5,6,7,8,9] 1 ?_
        iterate 10 (refine aA rfl ?_;go_big_quiet_step (rfl))
        refine az ?_;refine aI 10 ?_;go_wp2_with fail;refine aF (ah _) ?_;have d3:=TU.mono TQ;have ho:=d3.Uu;rw[<-Yf.out] at ho;refine aJ [11,12] ?_;refine tail_cons rfl ?_;refine qf (W:=a7.drew) rfl _ _ 257 rfl B 260 _ 2 8 Kq (by decide) (by decide) (by decide) (by decide) u7 ne _ rfl ho #[.int .i32 (q.code:Nat),.int .u16 (n1:Nat)] rfl rfl (by simp[Value.oneCell']) (by omega) a7.drew (Below.refl _ _) (by simp;omega) ?_;intro v7 Aj em f5 cd fx
        have TV:=d3.Zg (Ep':=E++[x]) (by
         rw[RQ,List.flatMap_append,List.length_append,<-Yf.out,mH.out,<-cf.out];rw[cf.out];have e:List.flatMap cellC [(q.code,n1)]=[.int .i32 (q.code:Nat),.int .u16 (n1:Nat)]:=rfl;rw[<-cf.out,e]
         exact em) cd fx
        have c1:=bJ.bQ ho cd;have bq:Below B w4 Aj:=(b1.trans (TQ.mono (by omega))).grown cd (by simp;omega) (λk f=>(ho.lt k f).1);refine tail_cons rfl ?_;go_wp2_with fail;refine tail_nil ?_;go_wp2_with fail;go_meet;exact⟨rfl,TV,c1.is (aS.mono TQ) (by decide),c1.is (Xo.mono TQ) (by decide),bq⟩
       case rest=>
        clear TU aS Xo b1;obtain⟨Aj,eC⟩:=ae wc;subst eC;obtain⟨v7,fB⟩:=ae u7;subst fB;obtain⟨rfl,TV,br,bC,bq⟩:=hcut;have Yx:p<A/\A<Aj.heap.size/\C<Aj.heap.size:=⟨by omega,br.lt,bC.lt⟩;have cS:=aa (pF T q.code);have ds:x.2.2.1=.slice fa t O/\x.1=q.code:=by rw[mH.out];exact⟨rfl,rfl⟩
        have Uz:=aa ds;clear ds;obtain⟨F,ez,fD,N,YT,dt,dm⟩:∃F,fa=some ⟨F,0,none⟩/\F<Aj.heap.size/\∃N,Hid (aP N/\(aD T q.code).head? = some N)/\Hid (mZ Aj F aN/\Z F=none)/\Aj.cell? ⟨F,0,none⟩=some (.int .i32 (N:Nat)):=by
         obtain⟨f1,f2⟩:=TV.full x (by simp);rw[Uz.out.1,Uz.out.2,<-yO.out] at f1;rw[Uz.out.1] at f2;have b6:0<t:=by rw[yO.out];exact List.length_pos_iff.2 cS.out
         obtain⟨F,cap,e,_,_,hl,hc,Q⟩:=dz f1 b6;injection e with e1 e2 e3;have aK:0<(aD T q.code).length:=yO.out▸b6;refine⟨F,e1,hl,(aD T q.code)[0],aa ⟨ow HV.out Yu.out.1 (List.getElem_mem aK),by rw[List.head?_eq_getElem?];exact List.getElem?_eq_getElem aK⟩,aa ⟨hc,f2 F (by rw[e1];rfl)⟩,Q 0 _ ?_⟩;rw[List.getElem?_eq_getElem (by simpa using aK),dR]
        subst ez;go_upto_region 18 with fail;go_cut [33] from 33 to 161 (λiv I=>iv=.int .i64 j/\(∃Z',lU T X B p B jM I (j+1) (j+1) (j+1) l8 l9 D (λc=>if c=N then bg N++[q.code] else bg c) jg v1 v7 u8 u9 u10 av (.slice xa nx xc) (.slice s1 n1 s2) Z' (E++[x]) (E++[x]))/\Is I A #[.int .i32 q.code,.int .i64 q.cls,.slice am nm cm] 196/\Is I C #[.slice U nm V,.slice (some ⟨F,0,none⟩) t O,.bool pb] 178/\Below B w4 I)
        case first=>
         have f6:N<1114112:=YT.out.1.1;have aR:=Ap N (by omega);have TW:=TV.mono (ag Aj);obtain⟨G,hG,cF,ce⟩:=TW.bm;obtain⟨uv,eE,LC⟩:∃uv,si Aj.drew B Z (N+3) uv (bg N)/\(((∀v,¬G (.int .i32 N) v)/\uv=.slice none 0 0)\/G (.int .i32 N) uv):=by
          by_cases hg:∃v,G (.int .i32 N) v
          ·obtain⟨v,hv⟩:=hg;obtain⟨c,e,hw⟩:=cF _ _ hv;have:c=N:=by injection e with _ e;omega
           subst this;exact⟨v,hw,.inr hv⟩
          have dK:∀u,¬G (.int .i32 N) u:=λu hu=>hg ⟨u,hu⟩;exact⟨_,by rw[ce N dK];exact si.nil _ _ _ _,.inl ⟨dK,rfl⟩⟩
         have eD:=aa cF;have fF:=aa ce;have f9:(bg N).length<=j:=by rw[u_.out.ib];exact Nat.le_trans (Vp _ _ _) aW.out
         have hz:=λW=>zeroValue35 W;have fb:=aB (ag Aj) dm;have g0:=vG.keeps (S:=λk=>k=p\/k=A\/k=C\/k=F\/k=B) (TW.is.at 5 rfl) (.inl rfl);have g1:=vG.keeps (S:=λk=>k=p\/k=A\/k=C\/k=F\/k=B) ((br.mono (ag Aj)).at 0 rfl) (.inr (.inl rfl));have g2:=vG.keeps (S:=λk=>k=p\/k=A\/k=C\/k=F\/k=B) ((bC.mono (ag Aj)).at 1 rfl) (.inr (.inr (.inl rfl)));have g3:=vG.keeps (S:=λk=>k=p\/k=A\/k=C\/k=F\/k=B) fb (.inr (.inr (.inr (.inl rfl))));have d9:0<t:=by rw[yO.out];exact List.length_pos_iff.2 cS.out
         clear cF ce;refine dF (KR.blocks λk=>k=p\/k=A\/k=C\/k=F\/k=B) #[true,true,true,true,true,true,true,true,true,true,true,true,true,true,true,true,true,true,true,true,true,false] 21 1 mixed ?_;refine bZ [0,1,2,3,4,5,6,7,8,9,10,11,12,13,14,15,16,17,18] 2 ?_
         iterate 16 (refine aA rfl ?_;go_big_quiet_step (rfl))
         refine aA rfl ?_;refine BD rfl ?_;refine zJ _ _ 153 35 rfl jR underlying153 hG (.inr (.inr (.inr (.inr rfl)))) rfl rfl aR hz uv LC ?_;simp only[Act.put,List.setIfInBounds_toArray,List.set_cons_succ,List.set_cons_zero]
         iterate 2 (refine aA rfl ?_;go_big_quiet_step (rfl))
         refine az ?_;have Eh:=ah (w:=Aj.drew) (.cells #[.int .i32 (q.code:Nat)] aN);have Pz:=TW.mono Eh;have ee:=(br.mono (ag Aj)).mono Eh;have d5:=(bC.mono (ag Aj)).mono Eh;have cW:Below B w4 (Aj.drew.alloc (.cells #[.int .i32 (q.code:Nat)] aN)):=(bq.trans ((ag Aj).mono (by omega))).trans (Eh.mono (by simp;omega));have c_:si (Aj.drew.alloc (.cells #[.int .i32 (q.code:Nat)] aN)) B Z (N+3) uv (bg N):=eE.mono λk f=>Eh.block k (TW.wk k f).1;refine bN 19 ?_;go_wp2_with fail;refine bK (KR.of_below Eh Eh.size (λk f=>by have:=TW.is.lt;have:Aj.drew.heap.size=Aj.heap.size:=rfl;rcases f with rfl|rfl|rfl|rfl|rfl <;> omega)) ?_;refine bN 20 ?_;refine ng (W:=Aj.drew.alloc (.cells #[.int .i32 (q.code:Nat)] aN)) rfl _ _ 35 rfl B aN (.int .i32 0) 4 bW (by decide) (v:=uv) rfl c_.1 (by simp;omega) [.int .i32 (q.code:Nat)] (by simp[Value.oneCell']) ⟨Aj.drew.heap.size,0,none⟩ 1 1 rfl rfl (λi u M=>?_) (by omega) ?_
         ·rcases i with _|i
          ·cases M;exact(Is.new Aj.drew _ aN).at 0 rfl
          cases M
         intro fp fr eg d8 d2;obtain⟨Z',hS,fi⟩:=vK.ja (l':=bg N++[q.code]) Pz.wk c_ (by rw[a_,List.length_append];exact eg) d8 d2
         have hH:=Pz.pushB hS fi (hG.mono Eh) (λx u hx=>by
          obtain⟨c,e,hw⟩:=eD.out x u hx
          exact⟨c,e,hw.mono λk f=>Eh.block k (TW.wk k f).1⟩) fF.out
         have dl:=hS.iQ Pz.wk;have cB:=dl.is ee (by decide);have cZ:=dl.is d5 (by decide);have e5:Below B w4 fr:=cW.trans (hS.below Pz.zb (by simp;omega));have HH:=aa hH;have gl:=aa hS;clear hH eg d8 d2;go_wp2_with fail;refine bK ⟨λk f=>hS.keep k (by have:=Pz.is.lt;simp;rcases f with rfl|rfl|rfl|rfl|rfl <;> omega) (λhz=>?_),hS.size⟩ ?_
         ·have bU:=(Pz.wk k (by rw[hz];simp)).2;rcases f with rfl|rfl|rfl|rfl|rfl
          ·exact absurd (bU.one (iA Pz.is)) (by decide)
          ·exact absurd (bU.one (iA ee)) (by decide)
          ·exact absurd (bU.one (iA d5)) (by decide)
          ·rw[dt.out.2] at hz;cases hz
          exact ou (hG.mono Eh) bU
         refine eU [21] ?_;refine tail_cons rfl ?_;refine jQ (xv:=.int .i32 N) (vv:=fp) rfl _ _ _ 153 35 rfl jR underlying153 HH.out.map rfl rfl rfl aR ?_;intro H ew bY;have Xp:=HH.out.st H ew bY (by omega);have bb:=dS cB (bY.block A cB.lt (λe=>by injection e with e;omega));have Xq:=dS cZ (bY.block C cZ.lt (λe=>by injection e with e;have:=TV.low;omega));have bz:Below B w4 H:=e5.grown bY (by have:=cB.lt;omega) (λk f=>by injection f with f;omega);go_wp2_with fail;refine tail_nil ?_;go_wp2_with fail;go_meet;exact⟨rfl,⟨_,Xp⟩,bb,Xq,bz⟩
        case rest=>
         clear TV br bC bq dm fD dt;obtain⟨H,fG⟩:=ae wc;subst fG;obtain⟨rfl,⟨Z2,Xp⟩,bb,Xq,bz⟩:=hcut;have Yx:p<A/\A<H.heap.size/\C<H.heap.size:=⟨by omega,bb.lt,Xq.lt⟩;obtain⟨a4,cx⟩:∃a4:Nat->List Nat,a4=λc=>if c=N then bg N++[q.code] else bg c:=⟨_,rfl⟩;rw[<-cx] at Xp;have fq:=aa cx;clear cx;go_upto_region 19 with fail;go_cut [8,10,33] from 33 to 161 (λs8 s10 iv I=>iv=.int .i64 j/\(∃Z',lU T X B p B jM I (j+1) (j+1) (j+1) (l8++(aD T q.code).drop 1) l9 (D++[q.code]) a4 jg v1 v7 s8 u9 s10 av (.slice xa nx xc) (.slice s1 n1 s2) Z' (E++[x]) (E++[x]))/\Is I A #[.int .i32 q.code,.int .i64 q.cls,.slice am nm cm] 196/\Is I C #[.slice U nm V,.slice (some ⟨F,0,none⟩) t O,.bool pb] 178/\Below B w4 I)
         case first=>
          have d9:0<t:=by rw[yO.out];exact List.length_pos_iff.2 cS.out
          have pY:=Xp.mono (ag H);have ax:=bb.mono (ag H);have PD:=Xq.mono (ag H);have g1:=vG.keeps (S:=λk=>k=A\/k=C) (ax.at 0 rfl) (.inl rfl);have g2:=vG.keeps (S:=λk=>k=A\/k=C) (PD.at 1 rfl) (.inr rfl);obtain⟨fQ,dH⟩:t<=O/\Hid (∀i u,(aM (aD T q.code))[i]? = some u->H.drew.cell? ⟨F,i,none⟩=some u):=by
           obtain⟨f1,f2⟩:=pY.full x (by simp);rw[Uz.out.1,Uz.out.2,<-yO.out] at f1;obtain⟨F',cap,e,hc,_,_,_,Q⟩:=dz f1 d9;injection e with e1 _ e3;injection e1 with e1;injection e1 with e1;subst e1;subst e3;exact⟨hc,aa Q⟩
          have fX:l8.length<=31*j:=by rw[u_.out.i8];exact Nat.le_trans (BI (λc=>il HV.out c) E) (Nat.mul_le_mul_left _ aW.out)
          have gm:D.length<=j:=by rw[u_.out.i10];unfold Kv;rw[List.length_map];exact aW.out
          have fY:t<=32:=by rw[yO.out];exact il HV.out _
          have a1:=aa (show(aM ((aD T q.code).drop 1)).length=t-1 from by rw[bF,List.length_drop,<-yO.out]);have bR:=aa (show(l8++(aD T q.code).drop 1).length=l8.length+(t-1) from by rw[List.length_append,List.length_drop,<-yO.out]);have bH:Below B w4 H.drew:=bz.trans ((ag H).mono (by omega));by_cases fo:O=1
          ·subst fo;obtain rfl:t=1:=by omega
           refine dF (KR.blocks λk=>k=A\/k=C) #[true,true,true,true,true,true,true,true,true,true,false,false] 10 2 mixed ?_;refine bZ [0,1,2,3,5,6,7] 3 ?_
           iterate 7 (refine aA rfl ?_;go_big_quiet_step (rfl))
           refine az ?_;refine P_ 4 8 ?_ ?_
           ·refine ng (W:=H.drew) rfl _ _ 35 rfl B aN (.int .i32 0) 4 bW (by decide) (v:=u8) rfl pY.w8.1 (by simp;omega) (aM ((aD T q.code).drop 1)) (gJ _) ⟨F,0,none⟩ 0 0 a1.out.symm rfl (λi u M=>absurd (List.getElem?_eq_some_iff.1 M).1 (by have:=a1.out;omega)) (by omega) ?_;intro ep PE bj Xr Xt;obtain⟨Z3,Dj,bh⟩:=vK.ja (l':=l8++(aD T q.code).drop 1) pY.wk pY.w8 (by rw[bR.out,a_];exact bj) Xr Xt;have p_:=pY.Qm Dj bh;have kA:=Dj.kept pY.wk ax (by decide);have kC:=Dj.kept pY.wk PD (by decide);have ao:=dS ax kA;have IM:=dS PD kC;have PG:Below B w4 PE:=bH.trans (Dj.below pY.zb (by simp;omega));have Xu:=Dj.size;have fs:H.heap.size<=PE.heap.size:=Xu;clear bj Xr Xt;go_wp2_with fail;refine bK ⟨λk f=>f.elim (λh=>by rw[h];exact kA) (λh=>by rw[h];exact kC),Xu⟩ ?_;have yP:=ah (w:=PE) (.cells #[.int .i32 (q.code:Nat)] aN);have J:=p_.mono yP;have ad:=ao.mono yP;have Dk:=IM.mono yP;have PH:Below B w4 (PE.alloc (.cells #[.int .i32 (q.code:Nat)] aN)):=PG.trans (yP.mono (by omega));refine bN 8 ?_;go_wp2_with fail;refine bK (KR.of_below yP yP.size (λk f=>by rcases f with rfl|rfl <;> omega)) ?_;refine bN 9 ?_;refine ng (W:=PE.alloc (.cells #[.int .i32 (q.code:Nat)] aN)) rfl _ _ 35 rfl B aN (.int .i32 0) 4 bW (by decide) (v:=u10) rfl J.zL.1 (by simp;omega) [.int .i32 (q.code:Nat)] (by simp[Value.oneCell']) ⟨PE.heap.size,0,none⟩ 1 1 rfl rfl (λi u M=>?_) (by omega) ?_
            ·rcases i with _|i
             ·cases M;exact(Is.new PE _ aN).at 0 rfl
             cases M
            intro cG Y Xv Dl Dm;obtain⟨Z4,mg,PI⟩:=vK.ja (l':=D++[q.code]) J.wk J.zL (by rw[a_,List.length_append];exact Xv) Dl Dm;have xx:=J.G8 mg PI;have ac:=mg.kept J.wk ad (by decide);have Xw:=mg.kept J.wk Dk (by decide);have ai:=dS ad ac;have vD:=dS Dk Xw;have Dn:Below B w4 Y:=PH.trans (mg.below J.zb (by simp;omega));have PK:=mg.size;clear Xv Dl Dm;go_wp2_with fail;refine bK ⟨λk f=>f.elim (λh=>by rw[h];exact ac) (λh=>by rw[h];exact Xw),PK⟩ ?_;refine eU [10,11] ?_;refine tail_cons rfl ?_;go_wp2_with fail;refine tail_nil ?_;go_wp2_with fail;go_meet;exact⟨rfl,⟨Z4,xx⟩,ai,vD,Dn⟩
           go_wp2_with fail;have xy:=ah (w:=H.drew) (.cells #[.int .i32 (q.code:Nat)] aN);have p_:=pY.mono xy;have ao:=ax.mono xy;have IM:=PD.mono xy;have PG:Below B w4 (H.drew.alloc (.cells #[.int .i32 (q.code:Nat)] aN)):=bH.trans (xy.mono (by show B<=H.heap.size;omega));refine bK (KR.of_below xy xy.size (λk f=>by rcases f with rfl|rfl <;> (show _<H.heap.size;omega))) ?_;have kN:=Is.new H.drew #[.int .i32 (q.code:Nat)] aN;have cA:=aa (pY.fresh (Nat.le_refl H.drew.heap.size));refine bN 4 ?_;refine ng (W:=H.drew.alloc (.cells #[.int .i32 (q.code:Nat)] aN)) rfl _ _ 35 rfl B aN (.int .i32 0) 4 bW (by decide) (v:=u8) rfl p_.w8.1 (by simp;omega) (aM ((aD T q.code).drop 1)) (gJ _) ⟨F,0,none⟩ 0 0 a1.out.symm rfl (λi u M=>absurd (List.getElem?_eq_some_iff.1 M).1 (by have:=a1.out;omega)) (by omega) ?_;intro e6 aE a9 Xx Xy;obtain⟨Z3,yQ,bk⟩:=vK.ja (l':=l8++(aD T q.code).drop 1) p_.wk p_.w8 (by rw[bR.out,a_];exact a9) Xx Xy;have J:=p_.Qm yQ bk;have kA:=yQ.kept p_.wk ao (by decide);have kC:=yQ.kept p_.wk IM (by decide);have ad:=dS ao kA;have Dk:=dS IM kC;have cr:=dS kN (yQ.keep _ kN.lt (by rw[cA.out];simp));have PH:Below B w4 aE:=PG.trans (yQ.below p_.zb (by simp;omega));have Xz:=yQ.size;have eP:H.heap.size+1<=aE.heap.size:=by simpa using Xz
           clear a9 Xx Xy;go_wp2_with fail;refine bK ⟨λk f=>f.elim (λh=>by rw[h];exact kA) (λh=>by rw[h];exact kC),Xz⟩ ?_;refine bN 9 ?_;refine ng (W:=aE) rfl _ _ 35 rfl B aN (.int .i32 0) 4 bW (by decide) (v:=u10) rfl J.zL.1 (by omega) [.int .i32 (q.code:Nat)] (by simp[Value.oneCell']) ⟨H.drew.heap.size,0,none⟩ 1 1 rfl rfl (λi u M=>?_) (by omega) ?_
           ·rcases i with _|i
            ·cases M;exact cr.at 0 rfl
            cases M
           intro cG Y Xv Dl Dm;obtain⟨Z4,mg,PI⟩:=vK.ja (l':=D++[q.code]) J.wk J.zL (by rw[a_,List.length_append];exact Xv) Dl Dm;have xx:=J.G8 mg PI;have ac:=mg.kept J.wk ad (by decide);have Xw:=mg.kept J.wk Dk (by decide);have ai:=dS ad ac;have vD:=dS Dk Xw;have Dn:Below B w4 Y:=PH.trans (mg.below J.zb (by omega));have PK:=mg.size;clear Xv Dl Dm;go_wp2_with fail;refine bK ⟨λk f=>f.elim (λh=>by rw[h];exact ac) (λh=>by rw[h];exact Xw),PK⟩ ?_;refine eU [10,11] ?_;refine tail_cons rfl ?_;go_wp2_with fail;refine tail_nil ?_;go_wp2_with fail;go_meet;exact⟨rfl,⟨Z4,xx⟩,ai,vD,Dn⟩
          refine dF (KR.blocks λk=>k=A\/k=C) #[true,true,true,true,true,true,true,true,true,true,false,false] 10 2 mixed ?_;refine bZ [0,1,2,3,5,6,7] 3 ?_
          iterate 7 (refine aA rfl ?_;go_big_quiet_step (rfl))
          refine az ?_;refine P_ 4 8 ?_ ?_
          ·refine ng (W:=H.drew) rfl _ _ 35 rfl B aN (.int .i32 0) 4 bW (by decide) (v:=u8) rfl pY.w8.1 (by simp;omega) (aM ((aD T q.code).drop 1)) (gJ _) ⟨F,1,none⟩ (t-1) (O-1) a1.out.symm rfl (λi u M=>by
            have e0:=addr_add F 1 i;rw[e0]
            exact dH.out (1+i) u (by rw[<-M,EG,List.getElem?_drop])) (by omega) ?_
           intro ep PE bj Xr Xt;obtain⟨Z3,Dj,bh⟩:=vK.ja (l':=l8++(aD T q.code).drop 1) pY.wk pY.w8 (by rw[bR.out,a_];exact bj) Xr Xt;have p_:=pY.Qm Dj bh;have kA:=Dj.kept pY.wk ax (by decide);have kC:=Dj.kept pY.wk PD (by decide);have ao:=dS ax kA;have IM:=dS PD kC;have PG:Below B w4 PE:=bH.trans (Dj.below pY.zb (by simp;omega));have Xu:=Dj.size;have fs:H.heap.size<=PE.heap.size:=Xu;clear bj Xr Xt;go_wp2_with fail;refine bK ⟨λk f=>f.elim (λh=>by rw[h];exact kA) (λh=>by rw[h];exact kC),Xu⟩ ?_;have yP:=ah (w:=PE) (.cells #[.int .i32 (q.code:Nat)] aN);have J:=p_.mono yP;have ad:=ao.mono yP;have Dk:=IM.mono yP;have PH:Below B w4 (PE.alloc (.cells #[.int .i32 (q.code:Nat)] aN)):=PG.trans (yP.mono (by omega));refine bN 8 ?_;go_wp2_with fail;refine bK (KR.of_below yP yP.size (λk f=>by rcases f with rfl|rfl <;> omega)) ?_;refine bN 9 ?_;refine ng (W:=PE.alloc (.cells #[.int .i32 (q.code:Nat)] aN)) rfl _ _ 35 rfl B aN (.int .i32 0) 4 bW (by decide) (v:=u10) rfl J.zL.1 (by simp;omega) [.int .i32 (q.code:Nat)] (by simp[Value.oneCell']) ⟨PE.heap.size,0,none⟩ 1 1 rfl rfl (λi u M=>?_) (by omega) ?_
           ·rcases i with _|i
            ·cases M;exact(Is.new PE _ aN).at 0 rfl
            cases M
           intro cG Y Xv Dl Dm;obtain⟨Z4,mg,PI⟩:=vK.ja (l':=D++[q.code]) J.wk J.zL (by rw[a_,List.length_append];exact Xv) Dl Dm;have xx:=J.G8 mg PI;have ac:=mg.kept J.wk ad (by decide);have Xw:=mg.kept J.wk Dk (by decide);have ai:=dS ad ac;have vD:=dS Dk Xw;have Dn:Below B w4 Y:=PH.trans (mg.below J.zb (by simp;omega));have PK:=mg.size;clear Xv Dl Dm;go_wp2_with fail;refine bK ⟨λk f=>f.elim (λh=>by rw[h];exact ac) (λh=>by rw[h];exact Xw),PK⟩ ?_;refine eU [10,11] ?_;refine tail_cons rfl ?_;go_wp2_with fail;refine tail_nil ?_;go_wp2_with fail;go_meet;exact⟨rfl,⟨Z4,xx⟩,ai,vD,Dn⟩
          go_wp2_with fail;have xy:=ah (w:=H.drew) (.cells #[.int .i32 (q.code:Nat)] aN);have p_:=pY.mono xy;have ao:=ax.mono xy;have IM:=PD.mono xy;have PG:Below B w4 (H.drew.alloc (.cells #[.int .i32 (q.code:Nat)] aN)):=bH.trans (xy.mono (by show B<=H.heap.size;omega));refine bK (KR.of_below xy xy.size (λk f=>by rcases f with rfl|rfl <;> (show _<H.heap.size;omega))) ?_;have kN:=Is.new H.drew #[.int .i32 (q.code:Nat)] aN;have cA:=aa (pY.fresh (Nat.le_refl H.drew.heap.size));refine bN 4 ?_
          refine ng (W:=H.drew.alloc (.cells #[.int .i32 (q.code:Nat)] aN)) rfl _ _ 35 rfl B aN (.int .i32 0) 4 bW (by decide) (v:=u8) rfl p_.w8.1 (by simp;omega) (aM ((aD T q.code).drop 1)) (gJ _) ⟨F,1,none⟩ (t-1) (O-1) a1.out.symm rfl (λi u M=>by
           have e0:=addr_add F 1 i;rw[e0]
           exact aB xy (dH.out (1+i) u (by rw[<-M,EG,List.getElem?_drop]))) (by omega) ?_
          intro e6 aE a9 Xx Xy;obtain⟨Z3,yQ,bk⟩:=vK.ja (l':=l8++(aD T q.code).drop 1) p_.wk p_.w8 (by rw[bR.out,a_];exact a9) Xx Xy;have J:=p_.Qm yQ bk;have kA:=yQ.kept p_.wk ao (by decide);have kC:=yQ.kept p_.wk IM (by decide);have ad:=dS ao kA;have Dk:=dS IM kC;have cr:=dS kN (yQ.keep _ kN.lt (by rw[cA.out];simp));have PH:Below B w4 aE:=PG.trans (yQ.below p_.zb (by simp;omega));have Xz:=yQ.size;have eP:H.heap.size+1<=aE.heap.size:=by simpa using Xz
          clear a9 Xx Xy;go_wp2_with fail;refine bK ⟨λk f=>f.elim (λh=>by rw[h];exact kA) (λh=>by rw[h];exact kC),Xz⟩ ?_;refine bN 9 ?_;refine ng (W:=aE) rfl _ _ 35 rfl B aN (.int .i32 0) 4 bW (by decide) (v:=u10) rfl J.zL.1 (by omega) [.int .i32 (q.code:Nat)] (by simp[Value.oneCell']) ⟨H.drew.heap.size,0,none⟩ 1 1 rfl rfl (λi u M=>?_) (by omega) ?_
          ·rcases i with _|i
           ·cases M;exact cr.at 0 rfl
           cases M
          intro cG Y Xv Dl Dm;obtain⟨Z4,mg,PI⟩:=vK.ja (l':=D++[q.code]) J.wk J.zL (by rw[a_,List.length_append];exact Xv) Dl Dm;have xx:=J.G8 mg PI;have ac:=mg.kept J.wk ad (by decide);have Xw:=mg.kept J.wk Dk (by decide);have ai:=dS ad ac;have vD:=dS Dk Xw;have Dn:Below B w4 Y:=PH.trans (mg.below J.zb (by omega));have PK:=mg.size;clear Xv Dl Dm;go_wp2_with fail;refine bK ⟨λk f=>f.elim (λh=>by rw[h];exact ac) (λh=>by rw[h];exact Xw),PK⟩ ?_;refine eU [10,11] ?_;refine tail_cons rfl ?_;go_wp2_with fail;refine tail_nil ?_;go_wp2_with fail;go_meet;exact⟨rfl,⟨Z4,xx⟩,ai,vD,Dn⟩
         case rest=>
          clear Xp bb Xq bz Yx;obtain⟨Y,eF⟩:=ae wc;subst eF;obtain⟨v8,eQ⟩:=ae u8;subst eQ;obtain⟨gj,fC⟩:=ae u10;subst fC;obtain⟨rfl,⟨Z3,xx⟩,ai,vD,Dn⟩:=hcut;have Yx:p<A/\A<Y.heap.size/\C<Y.heap.size:=⟨by omega,ai.lt,vD.lt⟩;have dQ:=aa (show l8++(aD T q.code).drop 1=BH T (E++[x]) from by rw[RS,<-u_.out.i8,Uz.out.2]);have dw:=aa (show D++[q.code]=Kv (E++[x]) from by rw[RV,<-u_.out.i10,Uz.out.2]);have cT:=aa (show a4=wK T (E++[x]) from by rw[fq.out,RY T E x N (by rw[Uz.out.2];exact YT.out.2),<-u_.out.ib,Uz.out.2]);have a3:x.2.2.2=pb:=by rw[mH.out]
          have e2:=vD.at 2 rfl;rcases (show pb=false\/pb=true from by cases pb <;> simp) with hpf|hpt
          ·subst hpf;have XA:=aa (show NZ T (E++[x]) (l8++(aD T q.code).drop 1) l9 (D++[q.code]) a4 jg from ⟨dQ.out,by rw[Ze T E x a3];exact u_.out.i9,dw.out,cT.out,by rw[Vo T E x a3];exact u_.out.ij⟩);have eT:=aa xx;clear xx a3;go_wp2_with fail;go_roundw
           case rel=>exact⟨j+1,by omega,by simp,⟨_,_,Z3,E++[x],_,_,_,_,_,eT.out,XA.out⟩,Dn⟩
           case measure=>simp[intOf];omega
          subst hpt;obtain⟨a0,b0,ba⟩:∃a0 b0,q.map=[a0,b0]:=by
           have a8:q∈T:=by rw[ar.out];exact List.getElem_mem an
           have eh:=Bb HV.out.rise a8 (by rw[Yu.out.2.2.2.1];decide) (bT.out.1 rfl)
           match cD:q.map,eh with
           | [a0,b0],_=>exact⟨a0,b0,rfl⟩
          have eY:nm=2:=by rw[sN.out,ba];rfl
          subst eY;have aV:bP T q.code=[a0,b0]:=by
           have a8:q∈T:=by rw[ar.out];exact List.getElem_mem an
           unfold bP;rw[kS HV.out.rise a8];exact ba
          have VJ:aP a0/\aP b0:=⟨(Yu.out.2.2.2.2 a0 (by rw[ba];simp)).2,(Yu.out.2.2.2.2 b0 (by rw[ba];simp)).2⟩;have Ro:=aa VJ
          have XA:=aa (show NZ T (E++[x]) (l8++(aD T q.code).drop 1) (l9++[b0]) (D++[q.code]) a4 (Ad jg (.agg #[.int .i32 (a0:Nat),.int .i32 (b0:Nat)]) (.int .i32 (q.code:Nat))) from
           ⟨dQ.out,by rw[Vn T E x a3,<-u_.out.i9,Uz.out.2,aV];rfl,dw.out,cT.out,by rw[RX T E x a3,<-u_.out.ij,Uz.out.2,aV];rfl⟩)
          obtain⟨Mb,eS,m0,m1,c5⟩:∃Mb,U=some ⟨Mb,0,none⟩/\Y.cell? ⟨Mb,0,none⟩=some (.int .i32 (a0:Nat))/\Y.cell? ⟨Mb,1,none⟩=some (.int .i32 (b0:Nat))/\Mb<Y.heap.size:=by
           obtain⟨f1,_⟩:=xx.maps x (by simp);rw[Uz.out.2,aV,mH.out] at f1;obtain⟨g,cap,e,_,_,hl,_,Q⟩:=dz f1 (by show 0<2;omega);injection e with e1 _ _;exact⟨g,e1,Q 0 _ rfl,Q 1 _ rfl,hl⟩
          subst eS;have fV:l9.length<=j:=by rw[u_.out.i9];exact Nat.le_trans (Kw T E) aW.out
          clear a3 ba aV VJ;go_upto_region 21 with fail;have XB:=xx.mono (ag Y);have g0:=Gr.cell (ag Y) (xx.is.at 6 rfl);have g1:=ai.gd 0 rfl;have g2:=vD.gd 0 rfl;have g3:=Gr.cell (ag Y) m0;have g4:=Gr.cell (ag Y) m1;have aR:=RN Ro.out.1.1 Ro.out.2.1;refine aC #[true,true,true,true,true,true,true,true,true,true,true,true,true,true,true,false] 15 1 mixed ?_;refine ay [0,1,2,3,4,5,6,7,8,9,10,11,12,13,14] 0 ?_
          iterate 15 (refine aA rfl ?_;go_big_quiet_step (rfl))
          refine az ?_;refine aJ [15] ?_;refine tail_cons rfl ?_;refine jQ (xv:=.agg #[.int .i32 (a0:Nat),.int .i32 (b0:Nat)]) (vv:=.int .i32 (q.code:Nat)) rfl _ _ _ 154 21 rfl NM underlying154 XB.jm rfl rfl rfl aR ?_;intro ap c6 XC;have cz:=XB.ajE (by omega) c6 XC;have et:=dS (vD.mono (ag Y)) (XC.block C (vD.mono (ag Y)).lt (λe=>by injection e with e;exact ou (P:=prog) XB.jm (e▸iA (vD.mono (ag Y)))));have fR:ap.cell? ⟨Mb,1,none⟩=some (.int .i32 (b0:Nat)):=by
           have hm:=aB (ag Y) m1
           have hb:ap.heap[Mb]? = Y.drew.heap[Mb]?:=XC.block Mb c5 (λe=>by
            injection e with e;obtain⟨es,ck,h1,_⟩:=XB.jm;rw[<-e] at h1;unfold World.cell? at hm;rw[h1] at hm
            cases hm)
           exact(World.cell?_of_block (a:=⟨Mb,1,none⟩) hb).trans hm
          have eN:Below B w4 ap:=(Dn.trans ((ag Y).mono (by omega))).grown XC (by show B<=Y.heap.size;omega) (λk f=>by injection f with f;omega);go_wp2_with fail;refine tail_nil ?_;clear xx ai vD Dn m0 m1 c5 XB g0 g1 g2 g3 g4 c6 XC;have e0:=et.at 0 rfl;have Yx:B<=ap.heap.size:=by have:=cz.is.lt;omega
          obtain⟨v9,fE⟩:=ae u9;subst fE;have dr:=ah (w:=ap) (.cells #[.int .i32 (b0:Nat)] aN);have TY:=cz.mono dr;have eI:Below B w4 (ap.alloc (.cells #[.int .i32 (b0:Nat)] aN)):=eN.trans (dr.mono Yx);go_wp2_with (refine ng (W:=ap.alloc (.cells #[.int .i32 (b0:Nat)] aN)) rfl _ _ 35 rfl B aN (.int .i32 0) 4 bW (by decide) (v:=v9) rfl TY.w9.1 (by simp;omega) [.int .i32 (b0:Nat)] (by simp[Value.oneCell']) ⟨ap.heap.size,0,none⟩ 1 1 rfl rfl (λi u M=>(match i,M with|0,M=>(by cases M;exact(Is.new ap _ aN).at 0 rfl)|i+1,M=>(by cases M))) (by omega) ?_;intro gh ek dY dL cY);obtain⟨Z5,cE,dO⟩:=vK.ja (l':=l9++[b0]) TY.wk TY.w9 (by rw[a_,List.length_append];exact dY) dL cY;have ft:=aa (TY.afo cE dO);have eX:Below B w4 ek:=eI.trans (cE.below TY.zb (by simp;omega));clear cz TY dY dL cY cE dO;go_wp2_with fail;go_roundw
          case rel=>exact⟨j+1,by omega,by simp,⟨_,_,Z5,E++[x],_,_,_,_,_,ft.out,XA.out⟩,eX⟩
          case measure=>simp[intOf];omega
  have zj:=gI (show nt<=j by omega);obtain rfl:nt=j:=by omega
  have cj:=vI.out;have ht:T.take nt=T:=List.take_of_length_le (by omega);have s:=u_.out;have eW:E.length=(mapped T).length:=by have:=congrArg List.length hO.mG;rw[ht,List.length_map,List.length_map] at this;exact this
  have yf:E.length<1000:=by have:=aW.out;omega
  have ab:∀x∈E,∃r∈T,x.1=r.code:=λx hx=>by
   have h1:x.1∈E.map (·.1):=List.mem_map_of_mem hx;rw[hO.mG,ht] at h1;obtain⟨r,hr,e⟩:=List.mem_map.1 h1;exact⟨r,(List.mem_filter.1 hr).1,e.symm⟩
  have K:∀x∈E,aP x.1:=λx hx=>by
   obtain⟨r,hr,e⟩:=ab x hx;rw[e];exact(HV.out.fine r hr).1
  have dI:=aa (λ(W:World) (h:Below wr.heap.size wr W)=>Kn (w:=W) (v:=u6) (L:=BF T) (base:=B) (by
   have h1:=aH hO.cls h;rw[ht] at h1;rw[Ku,<-cj];exact h1) (λy hy=>by
   obtain⟨r,hr,rfl⟩:=List.mem_map.1 hy;have:=HV.out.fine r hr
   exact⟨this.1.1,by have:=this.2.1;show r.cls<65536;omega⟩) (by rw[Ku];omega))
  have ej:=aa (λ(W:World) (h:Below wr.heap.size wr W)=>Kn (w:=W) (v:=u7) (L:=sP E) (base:=B) (by
   have h1:=aH hO.Uu h;rw[Kt];exact h1) (λy hy=>by
   obtain⟨z,hz,rfl⟩:=List.mem_map.1 hy;have fl:=List.mem_zipIdx hz
   exact⟨(K z.1 (by rw[fl.2.2];exact List.getElem_mem _)).1,by show z.2+1<65536;omega⟩) (by rw[Kt];omega))
  have CH:∀(v:Value) (o:Nat) (l:List Nat),si wr B Z o v l->(∀c∈l,aP c)->l.length<100000->Hid (∀W,Below B wr W->B<=wr.heap.size->(∀k,Z k≠none->W.heap[k]? = wr.heap[k]?)->Calls prog 115 #[v] W λe w'=>∃ra rn rc,e=.returned (.agg #[.slice ra rn rc])/\DX w' (.slice ra rn rc) l/\Below W.heap.size W w'):=λv o l hv hc hl=>aa λW _ _ f=>by
   have h1:=hv.mono f;refine(uD l (Sl.aU h1.1) (fU.aU h1.1) hc hl).mono ?_;rintro e w'⟨r,he,ho,hb⟩;obtain⟨a,c,rfl,_,_⟩:=ak ho;exact⟨a,_,c,he,aT ho (Nat.zero_le _),hb⟩
  have C8:=CH _ _ _ hO.w8 (λc hc=>by
   rw[s.i8] at hc;obtain⟨x,hx,hc⟩:=List.mem_flatMap.1 hc
   exact ow HV.out (K x hx) (List.mem_of_mem_drop hc)) (by rw[s.i8];have:=BI (λc=>il HV.out c) E;omega)
  have C9:=CH _ _ _ hO.w9 (λc hc=>by
   rw[s.i9] at hc;obtain⟨x,hx,rfl⟩:=List.mem_map.1 hc;obtain⟨hx,hp⟩:=List.mem_filter.1 hx;obtain⟨r,hr,e⟩:=ab x hx;have dy:=(hO.qV x hx).1 hp;rw[e] at dy;have c7:=HV.out.fine r hr;have eh:=Bb HV.out.rise hr (by rw[c7.2.2.2.1];decide) dy;have aV:bP T x.1=r.map:=by unfold bP;rw[e,kS HV.out.rise hr]
   rw[aV,List.getD_eq_getElem?_getD,List.getElem?_eq_getElem (show 1<r.map.length by omega)]
   exact(c7.2.2.2.2 _ (List.getElem_mem _)).2) (by rw[s.i9];have:=Kw T E;omega)
  have dc:=CH _ _ _ hO.zL (λc hc=>by
   rw[s.i10] at hc;obtain⟨x,hx,rfl⟩:=List.mem_map.1 hc
   exact K x hx) (by rw[s.i10];unfold Kv;rw[List.length_map];omega)
  have b2:=aa (show ∀k,Z k≠none->mZ wr k aN/\k<wr.heap.size from λk f=>⟨(hO.wk k f).2,(hO.wk k f).1⟩);have hD:=DY.of (X:=X) (T:=T) (by rw[<-cj];exact hO) s;have ga:=hO.is.lt;have eb:=hO.low.1;have cn:=aa s;have fk:=aa (iA hO.is);have dh:∀(W:World),(Below wr.heap.size wr W)->∀k,Z k≠none->W.heap[k]? = wr.heap[k]?:=λW h k f=>h.block k (b2.out k f).2;have eV:=aa dh;have HT:=aa b8.out;clear hO s eW ab K CH ht dh cj;go_wp2_with fail;refine(dI.out wr (Below.refl _ _)).mono ?_;rintro e ff⟨cp,rfl,bs,bE⟩;go_wp2_with fail;refine(ej.out ff bE).mono ?_;rintro e fd⟨pp,rfl,Nh,bx⟩;have ct:=(hD.mono bE).mono bx;have bs:=bs.mono bx;have a5:=af bE bx;have da:=eV.out _ a5;have s2:=a5.size;clear bE bx dI ej hD;have i2:=ct.is;have q2:=i2.frozen 2;have q3:=i2.frozen 3;have e2:=i2.at 2 rfl;have e3:=i2.at 3 rfl;obtain⟨bM,T9⟩:=ae ((fd.setCell ⟨p,2,none⟩ (.pointer (some ⟨cp,0,none⟩))).setCell ⟨p,3,none⟩ (.pointer (some ⟨pp,0,none⟩)));have ci:=(ct.put 2 (.pointer (some ⟨cp,0,none⟩)) rfl).put 3 (.pointer (some ⟨pp,0,none⟩)) rfl;have cl:=i2.set 2 (.pointer (some ⟨cp,0,none⟩));have cR:=(bs.put i2 (show 10<=100 by omega) (o:=2) (.pointer (some ⟨cp,0,none⟩))).put cl (show 10<=100 by omega) (o:=3) (.pointer (some ⟨pp,0,none⟩));have cy:=(Nh.put i2 (show 10<=100 by omega) (o:=2) (.pointer (some ⟨cp,0,none⟩))).put cl (show 10<=100 by omega) (o:=3) (.pointer (some ⟨pp,0,none⟩));have bu:Below B wr bM:=by rw[T9];exact aj (aj (a5.mono (by omega)) eb) eb
  have dX:∀k,Z k≠none->bM.heap[k]? = wr.heap[k]?:=λk f=>by
   have ed:k≠p:=λe=>by
    have h1:=(b2.out k f).1;rw[e] at h1;exact absurd (h1.one fk.out) (by decide)
   rw[T9,heap_setCell_other _ ⟨p,3,none⟩ k _ (λe=>ed (e.symm▸rfl)),heap_setCell_other _ ⟨p,2,none⟩ k _ (λe=>ed (e.symm▸rfl))];exact da k f
  have s3:wr.heap.size<=bM.heap.size:=by rw[T9];simpa using s2
  rw[<-T9] at ci cR cy;clear ct bs Nh cl da;go_wp2_with fail;rw[<-T9];have ch:=aa dX;clear T9 i2 q2 q3 e2 e3 dX;refine(C8.out bM bu (by omega) ch.out).mono ?_;rintro e en⟨XD,XE,XF,rfl,cX,CP⟩;go_wp2_with fail;refine(C9.out en (bu.trans (CP.mono (by omega))) (by omega) (λk f=>(CP.block k (by have:=(b2.out k f).2;omega)).trans (ch.out k f))).mono ?_;rintro e ey⟨XG,XH,XI,rfl,c8,cs⟩;have MC:=af CP cs;go_wp2_with fail;refine(dc.out ey (bu.trans (MC.mono (by omega))) (by omega) (λk f=>(MC.block k (by have:=(b2.out k f).2;omega)).trans (ch.out k f))).mono ?_;rintro e bS⟨Yy,Yz,YA,rfl,dU,bo⟩;have XJ:=af MC bo;have cg:=ci.mono XJ;have d_:=cR.mono XJ;have dT:=cy.mono XJ;have dd:=cX.mono (af cs bo);have dM:=c8.mono bo;have aL:Below B wr bS:=bu.trans (XJ.mono (by omega));clear ci cR cy cX c8 CP cs bo MC XJ C8 C9 dc;have i6:=cg.is;have q7:=i6.frozen 7;have q8:=i6.frozen 8;have q9:=i6.frozen 9;have e7:=i6.at 7 rfl;have e8:=i6.at 8 rfl;have e9:=i6.at 9 rfl;have b7:cK (((bS.setCell ⟨p,7,none⟩ (.slice XD XE XF)).setCell ⟨p,8,none⟩ (.slice XG XH XI)).setCell ⟨p,9,none⟩ (.slice Yy Yz YA)) p T X/\Below w.heap.size w (((bS.setCell ⟨p,7,none⟩ (.slice XD XE XF)).setCell ⟨p,8,none⟩ (.slice XG XH XI)).setCell ⟨p,9,none⟩ (.slice Yy Yz YA)):=by
   have d6:Below w.heap.size w (((bS.setCell ⟨p,7,none⟩ (.slice XD XE XF)).setCell ⟨p,8,none⟩ (.slice XG XH XI)).setCell ⟨p,9,none⟩ (.slice Yy Yz YA)):=aj (aj (aj (b9.trans ((hE.trans aL).mono bw)) (by omega)) (by omega)) (by omega);have i7:=i6.set 7 (.slice XD XE XF);have i8:=i7.set 8 (.slice XG XH XI);obtain⟨_,x',cQ,_,dg⟩:=HT.mono d6;injection cQ with cQ;have eR:Value.slice xa nx xc=x':=by
    have:=congrArg (λa:Array Value=>a.getD 1 undef) cQ;simpa using this
   rw[<-eR] at dg;refine⟨⟨E,rv,.slice xa nx xc,ev,B,jM,cp,pp,.slice XD XE XF,.slice XG XH XI,.slice Yy Yz YA,((cg.put 7 (.slice XD XE XF) rfl).put 8 (.slice XG XH XI) rfl).put 9 (.slice Yy Yz YA) rfl,((d_.put i6 (show 10<=100 by omega) (o:=7) (.slice XD XE XF)).put i7 (show 10<=100 by omega) (o:=8) (.slice XG XH XI)).put i8 (show 10<=100 by omega) (o:=9) (.slice Yy Yz YA),((dT.put i6 (show 10<=100 by omega) (o:=7) (.slice XD XE XF)).put i7 (show 10<=100 by omega) (o:=8) (.slice XG XH XI)).put i8 (show 10<=100 by omega) (o:=9) (.slice Yy Yz YA),?_,?_,?_,dg⟩,d6⟩
   ·rw[<-cn.out.i8];exact((dd.put i6 7 (.slice XD XE XF)).put i7 8 (.slice XG XH XI)).put i8 9 (.slice Yy Yz YA)
   ·rw[<-cn.out.i9];exact((dM.put i6 7 (.slice XD XE XF)).put i7 8 (.slice XG XH XI)).put i8 9 (.slice Yy Yz YA)
   rw[<-cn.out.i10];exact((dU.put i6 7 (.slice XD XE XF)).put i7 8 (.slice XG XH XI)).put i8 9 (.slice Yy Yz YA)
  have R9:=aa b7;clear b7 cg d_ dT dd dM dU i6;go_wp2_with fail;go_ret2;exact⟨p,rfl,R9.out.1,R9.out.2⟩
end Go.Proofs.YtmnimbnojdndmaaGreatDoor
