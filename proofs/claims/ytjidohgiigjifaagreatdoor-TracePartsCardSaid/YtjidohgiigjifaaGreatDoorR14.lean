/- TraceParts and TraceWalks: a machine takes a character as those of its full decomposition, one by one; texts that are alike go through it, and of others none; no condition. -/
import Derived.Test.YtjidohgiigjifaaGreatDoorR13
import Derived.Deep.CutRange
set_option maxRecDepth 100000
set_option maxHeartbeats 6400000
namespace Go.Proofs.YtjidohgiigjifaaGreatDoor
open Go.RowKit Go.Cd
theorem addr_add (F o i:Nat):(⟨F,o,none⟩:Addr).add i=⟨F,o+i,none⟩:=by unfold Addr.add;split <;> simp_all
theorem sZ.kept {W W':World} {Z Z':gY} {o:Nat} (hS:sZ W Z o W' Z') (hz:Oo W Z) {k:Nat} {cs:Array Value} {T:TypeId} (h:Is W k cs T) (hne:aM≠T):W'.heap[k]? = W.heap[k]?:=
 hS.keep k h.lt fun e=>hne ((hz k (by rw [e];simp)).2.one (fU h))
theorem OC {w:World} {v:Value} {T:List aF} {X:List Nat} (h:nK w v T X) (hV:bE T X) (hS:∀r∈T,r.cls≠0∨r.map≠[]) (hl:T.length<1000) (hX:X.length<10000) :
 Calls Tryz.prog 90 #[v] w fun e w'=>∃p,e=.returned (.tuple #[.pointer (some ⟨p,0,none⟩),.nilIface])∧dZ w' p T X∧Below w.heap.size w w':=by
 have hF:=pU hV (by omega);have Vm:=ae h;obtain ⟨rv,xv,he,hrows,_⟩:=id h;obtain ⟨ra,nt,rc,xa,nx,xc,rfl⟩:=h.shape;have Xl:rv=.slice ra nt rc:=by
  injection he with he;have:=congrArg (fun a:Array Value=>a.getD 0 undef) he;simpa using this.symm
 subst Xl;obtain ⟨a',cap',hre,_,hx⟩:=hrows;injection hre with e1 e2 e3;subst e1;subst e3;have qR:=ae e2;have HX:=ae hx;have HV:=ae hV;have HF:=ae hF;have HS:=ae hS;have CK:=ae (fun (W:World) (E:Below w.heap.size w W)=>IA (h.mono E) hV (by omega) hX);rw [←e2] at hl;obtain ⟨w1,hw1⟩:=af (w.alloc (.cells #[.slice ra nt rc,.slice xa nx xc] 127));have k1:Is w1 w.heap.size #[.slice ra nt rc,.slice xa nx xc] 127:=by rw [hw1];exact Is.new _ _ _
 have hb1:Below w.heap.size w w1:=by rw [hw1];exact ai _
 have e0:=k1.at 0 rfl;have e1:=k1.at 1 rfl;clear h he hx hV hF hS e2;go_enter Tryz.func90,Tryz.ntmps90;go_wp2_with fail;rw [←hw1];clear hw1;refine (CK.out w1 hb1).mono ?_;rintro e w2 ⟨rfl,hb2⟩;have k2:=k1.mono hb2;have hB2:=ag hb1 hb2;clear e0 e1 CK;have hm1:∀W,(Instr.makeMap 130 none).run Tryz.prog W=.ok (.map (some W.heap.size)) (W.alloc (.map #[] 0)):=fun _=>rfl;have hm2:∀W,(Instr.makeMap 131 none).run Tryz.prog W=.ok (.map (some W.heap.size)) (W.alloc (.map #[] 0)):=fun _=>rfl;obtain ⟨B,hB⟩:=af w2.heap.size;obtain ⟨w3,hw3⟩:=af (((w2.alloc (.map #[] 0)).alloc (.map #[] 0)).alloc (.cells #[.slice none 0 0,.slice none 0 0,.pointer none,.pointer none,.slice none 0 0,.map (some w2.heap.size),.map (some (w2.heap.size+1)),.slice none 0 0,.slice none 0 0,.slice none 0 0] 133));have hb3:Below w2.heap.size w2 w3:=by
  rw [hw3];exact ag (ag (ai _) (ai _)) (ai _)
 have m3:cK Tryz.prog 21 w3 B fun _ _=>False:=by
  rw [hw3,hB];exact ((cK.new w2 0).mono (ai _)).mono (ai _)
 have m4:cK Tryz.prog 226 w3 (B+1) fun _ _=>False:=by
  rw [hw3,hB];have:=cK.new (P:=Tryz.prog) (k:=226) (w2.alloc (.map #[] 0)) 0;rw [World.size_alloc] at this;exact this.mono (ai _)
 have p3:Is w3 (B+2) #[.slice none 0 0,.slice none 0 0,.pointer none,.pointer none,.slice none 0 0,.map (some B),.map (some (B+1)),.slice none 0 0,.slice none 0 0,.slice none 0 0] 133:=by
  rw [hw3,hB];exact Is.new' _ _ _ _ (by simp)
 have k3:=k2.mono hb3;have hz3:w3.heap.size=B+3:=by rw [hw3,hB];simp
 have hB3:Below B w2 w3:=by rw [hB];exact hb3
 have hle:w.heap.size≤B:=by rw [hB];exact hB2.size
 have hlt:w.heap.size<B:=by rw [hB];exact k2.lt
 go_upto_region 5 with fail;rw [←hw3];rw [←hB];obtain ⟨p,hp⟩:=af (B+2);obtain ⟨jM,hjM⟩:=af (B+1);rw [show B+1+1=p from by omega,←hjM];rw [←hp,←hjM] at p3;rw [←hjM] at m4;have hp3:B<p∧B<jM∧jM≠p∧p<B+3∧jM<B+3:=by omega
 have HB:=ae hB;clear hw3 hB hb3 k2 hm1 hm2 hp hjM;have e0:=k3.at 1 rfl;have e1:=p3.at 1 rfl;have d1:=p3.frozen 1;obtain ⟨w4,hw4⟩:=af (w3.setCell ⟨p,1,none⟩ (.slice xa nx xc));have p4:Is w4 p #[.slice none 0 0,.slice xa nx xc,.pointer none,.pointer none,.slice none 0 0,.map (some B),.map (some jM),.slice none 0 0,.slice none 0 0,.slice none 0 0] 133:=by rw [hw4];exact p3.set 1 _
 have k4:Is w4 w.heap.size #[.slice ra nt rc,.slice xa nx xc] 127:=by rw [hw4];exact k3.put (by omega) _
 have m34:=m3;have Rp:w4.heap.size=B+3:=by rw [hw4,←hz3];simp
 have hB4:Below w.heap.size w w4:=by rw [hw4];exact aj (hB2.trans (hB3.mono hle)) (by omega)
 have hO:jV T X B p B jM w4 0 0 0 [] [] [] (fun _=>[]) (fun _ _=>False) (.slice none 0 0) (.slice none 0 0) (.slice none 0 0) (.slice none 0 0) (.slice none 0 0) (.slice none 0 0) (.slice xa nx xc) (.slice none 0 0) (fun _=>none) [] []:=by
  have g:=bN w3 p 1 (.slice xa nx xc);rw [←hw4] at g
  exact ⟨p4,⟨[],rfl,World.ownsRow_nil _ _ _ _,by simp⟩,World.ownsRow_nil _ _ _ _,rfl,by simp,by simp,by simp,World.ownsRow_nil _ _ _ _,World.ownsRow_nil _ _ _ _,QW _ _ _,by omega,fun _ h=>absurd rfl h,fun _ h=>absurd rfl h,qD.nil _ _ _ _,qD.nil _ _ _ _,qD.nil _ _ _ _,
   ⟨_,lS m3 g (fun e=>by injection e with e;omega),fun _ _ h=>h.elim,fun _ _=>rfl⟩,lS m4 g (fun e=>by injection e with e;omega)⟩
 go_upto_region 6 with fail;rw [←hw4];clear hw4 e0 e1 d1 p3 k3 m3 m4 m34 p4 hB3 hB2;have e0:=k4.at 0 rfl;go_wp2_with fail;clear e0;go_loopw [6,7,8,9,10,33] (fun s6 s7 s8 s9 s10 iv wr=>∃j:Nat,j≤nt∧iv=.int .i64 j∧(∃rv ev Z E l8 l9 l10 bg jg,jV T X B p B jM wr j j j l8 l9 l10 bg jg s6 s7 s8 s9 s10 rv (.slice xa nx xc) ev Z E E∧IK T E l8 l9 l10 bg jg)∧Below B w4 wr) (fun _ _ _ _ _ iv _=>nt-(intOf iv).toNat)
 case atStart=>exact ⟨0,Nat.zero_le _,rfl,⟨_,_,_,_,_,_,_,_,_,hO,IK.nil T⟩,Below.refl _ _⟩
 case round=>
  clear hO;obtain ⟨j,hj,rfl,⟨rv,ev,Z,E,l8,l9,l10,bg,jg,hO,hsum⟩,hE⟩:=hrel;have Kb:E.length≤j:=by
   have:=congrArg List.length hO.kX;rw [List.length_map,List.length_map] at this;rw [this];exact Nat.le_trans (List.length_filter_le _ _) (by rw [List.length_take];omega)
  have uw:=ae hsum;have Xn:=ae Kb;clear hsum Kb;by_cases hjn:j<nt
  ·have zj:decide ((j:Int)<(nt:Int))=true:=by simp;omega
   have hjl:j<T.length:=by have:=qR.out;omega
   have dC:=hB4.trans (hE.mono hle);obtain ⟨b,off,m,rfl,_,c0,c1,c2,hm,hpm⟩:=HX.out j hjl;have c0:=aA dC c0;have c1:=aA dC c1;have c2:=aA dC c2;have hmem:=List.getElem_mem hjl;have jQ:=HV.out.fine _ hmem;have xG:=HS.out _ hmem;have HQ:=ae (show ∃q,q=T[j] from ⟨_,rfl⟩);obtain ⟨q,hq⟩:=HQ.out;rw [←hq] at c0 c1 hm jQ xG;have Ux:=ae hq;clear HQ hq hmem;obtain ⟨am,nm,cm,rfl,hpm⟩:=hpm;have hm5:=hm.mono dC;have hnm:nm=q.map.length:=by
    obtain ⟨_,_,e,_⟩:=hm;injection e with _ e _;rw [bO] at e;exact e
   have LM:nm≤2:=by have:=jQ.2.2.1;omega
   have qh:=ae hnm;have ED:q.cls≠0∨nm≠0:=xG.imp id fun h e=>h (List.length_eq_zero_iff.1 (hnm▸e));have hcls:q.cls<255:=jQ.2.1;have hcode:q.code<1114112:=jQ.1.1;have Uy:=ae jQ;have HQM:=ae hm5;have HQ0:=ae hm;have Vh:=ae hpm;obtain ⟨w5,vY⟩:=af (wr.alloc (.cells #[.int .i32 q.code,.int .i64 q.cls,.slice am nm cm] 164));have k5:Is w5 wr.heap.size #[.int .i32 q.code,.int .i64 q.cls,.slice am nm cm] 164:=by rw [vY];exact Is.new _ _ _
   have hb5:Below wr.heap.size wr w5:=by rw [vY];exact ai _
   have kV:Below B w4 w5:=hE.trans (hb5.mono (by have:=hE.size;omega));have hO5:=hO.mono hb5;have Xe:w5.heap.size=wr.heap.size+1:=by rw [vY];simp
   have SY:=ae (Sc (w:=w5) q.code q.cls nm cm am ED);obtain ⟨A,hA⟩:=af wr.heap.size;rw [←hA] at k5 Xe;have e0:=k5.at 0 rfl;have e1:=k5.at 1 rfl;have e2:=k5.at 2 rfl;have hAB:p<A:=by have:=hO.is.lt;omega
   have HRV:=ae (show ∀k,rv.ownBlock=some k→k<A from fun k hk=>by
    obtain ⟨_,_,hr,_⟩:=hO.rows;have:=(hr.lt k hk).2
    omega)
   clear hO xG ED hnm hm hm5 hpm jQ;go_upto_region 11 with fail;rw [←vY,←hA];clear vY hA c0 c1 c2;go_upto_region 12 with (go_at_call 131;refine SY.out.mono ?_;rintro e w6 ⟨rfl,hb6⟩);clear e0 e1 e2 SY;have k6:=k5.mono hb6;have hO6:=hO5.mono hb6;have DD:Below B w4 w6:=kV.trans (hb6.mono (by omega));go_cut [33] from 33 to 161 (fun iv wx=>iv=.int .i64 j∧(∃rv',jV T X B p B jM wx (j+1) j j l8 l9 l10 bg jg u6 u7 u8 u9 u10 rv' (.slice xa nx xc) ev Z E E)∧Is wx A #[.int .i32 q.code,.int .i64 q.cls,.slice am nm cm] 164∧Below B w4 wx)
   case first=>
    have hA6:A<w6.heap.size:=k6.lt;have k7:=k6.mono (ah w6);have Xo:=hO6.mono (ah w6);have CL:=ae (fun (W:World) (E:Below w6.heap.size w6 W)=>lQ (w:=W) q.map (((HQM.out.mono (hb5.trans (hb6.mono hb5.size))).mono E)) ⟨_,_,_,rfl,Vh.out⟩ (by have:=qh.out;omega));rw [←qh.out] at CL;obtain ⟨R,_,hr,_⟩:=Xo.rows;obtain ⟨r1,r2,rfl,_,_⟩:=az hr;have g0:=sW.keeps (S:=fun k=>k=p∨k=A) (Xo.is.at 0 rfl) (.inl rfl);have g1:=sW.keeps (S:=fun k=>k=p∨k=A) (k7.at 0 rfl) (.inr rfl);have g2:=sW.keeps (S:=fun k=>k=p∨k=A) (k7.at 1 rfl) (.inr rfl);have g3:=sW.keeps (S:=fun k=>k=p∨k=A) (k7.at 2 rfl) (.inr rfl);refine dM (KR.blocks fun k=>k=p∨k=A) #[true,true,true,true,true,true,true,true,true,true,true,true,true,true,true,true,true,true,true,false] 19 1 mixed (by rfl) ?_;refine di [0,1,2,3,4,5,6,7,8,9,10,11] 7 rfl (by kernel_rfl) ?_
    iterate 12 (refine aC rfl ?_;go_big_quiet_step (rfl))
    refine ak ?_;refine bT 12 (by kernel_rfl) rfl ?_;go_wp2_with fail;refine (CL.out w6.drew (ah w6)).mono ?_;rintro e w8 ⟨cv,rfl,hcv,nQ⟩;have YF:=Xo.mono nQ;have k8:=k7.mono nQ;obtain ⟨ca,cc,rfl,_,_⟩:=az hcv;go_wp2_with fail;refine bB (KR.of_below nQ nQ.size (fun k hk=>by have:=Xo.is.lt;have:=k7.lt;rcases hk with rfl|rfl <;> omega)) ?_;refine di [13] 5 rfl (by kernel_rfl) ?_
    iterate 1 (refine aC rfl ?_;go_big_quiet_step (rfl))
    refine ak ?_;refine bT 14 (by kernel_rfl) rfl ?_;go_wp2_with fail;refine bB (KR.of_below (ai _) (by simp) (fun k hk=>by have:=YF.is.lt;have:=k8.lt;rcases hk with rfl|rfl <;> omega)) ?_;obtain ⟨R,hR1,YG,hR3⟩:=YF.rows;refine bT 15 (by kernel_rfl) rfl ?_;refine xD (W:=w8) rfl _ _ 123 rfl B fE _ 3 40 Ey (by decide) (by decide) (.slice r1 j r2) j _ rfl YG _ rfl rfl (by simp [Value.oneCell']) (by omega) (by have:=YF.is.lt;omega) ?_;intro v1 w9 o9 sV y9;obtain ⟨s1,s2,rfl,_,_⟩:=az o9;have qf:=ai (w:=w8) (.cells #[.int .i32 q.code,.int .i64 q.cls,.slice ca nm cc] 164);have YH:=YF.mono qf;have k9:=k8.mono qf;have QG:=aG YG qf;have kne:(Value.slice r1 j r2).ownBlock≠some A:=fun e=>absurd (HRV.out A e) (Nat.lt_irrefl A);have k10:=k9.grown y9 kne;have hfree:fQ (w8.alloc (.cells #[.int .i32 q.code,.int .i64 q.cls,.slice ca nm cc] 164)) Z (.slice ca nm cc) q.map:=by
     refine ⟨?_,fun k hk=>Xo.fresh (hcv.lt k hk).1⟩;have:=aW (aG hcv qf) (Nat.zero_le _);rw [←qh.out];exact this
    have FL:=YH.Oy hR1 QG (fun x hx=>(hR3 x hx).ext qf) (q:=q) (by rw [Ux.out];exact List.getElem?_eq_getElem hjl) hfree o9 y9;have Xc:=(bK.bP QG y9).is YH.is (by decide);go_wp2_with fail;refine bB (KR.bP (w:=w8.alloc (.cells #[.int .i32 q.code,.int .i64 q.cls,.slice ca nm cc] 164)) y9 y9.size (fun k hk=>?_)) ?_
    ·rcases hk with rfl|rfl
     ·exact ⟨YH.is.lt,YH.is.other QG (by decide)⟩
     ·exact ⟨k9.lt,kne⟩
    refine di [16,17,18] 0 rfl (by kernel_rfl) ?_
    iterate 3 (refine aC rfl ?_;go_big_quiet_step (rfl))
    refine ak ?_;have e0:=Xc.at 0 rfl;have d0:=Xc.frozen 0;refine fe [19] (by kernel_rfl) ?_;refine tail_cons rfl ?_;go_wp2_with fail;refine tail_nil ?_;have vk:Below B w4 w8:=(DD.trans ((ah w6).mono (by omega))).trans (nQ.mono (by have:=Xo.is.lt;omega));have OD:Below B w4 (w9.setCell ⟨p,0,none⟩ (.slice s1 (j+1) s2)):=aj ((vk.trans (qf.mono (by have:=YF.is.lt;omega))).grown y9 (by have:=YH.is.lt;omega) (fun k hk=>(QG.lt k hk).1)) (by omega);have k11:=k10.put (show A≠p by omega) (o:=0) (.slice s1 (j+1) s2);obtain ⟨FM,Vn⟩:=af (w9.setCell ⟨p,0,none⟩ (.slice s1 (j+1) s2));rw [←Vn] at OD k11 FL ⊢;go_wp2_with fail;go_meet;exact ⟨rfl,⟨_,FL⟩,k11,OD⟩
   case rest=>
    clear k5 k6 hO5 hO6 kV DD hb5 hb6 HRV;obtain ⟨rfl,⟨rv',FL⟩,k11,OD⟩:=hcut;have hAp:A≠p:=by omega
    have e0:=k11.at 0 rfl;have e1:=k11.at 1 rfl;have e2:=k11.at 2 rfl;have acK:=k11.lt;have QH:B≤wc.heap.size:=by omega
    go_upto_region 13 with fail;go_cut [6,33] from 33 to 161 (fun s6 iv wx=>iv=.int .i64 j∧jV T X B p B jM wx (j+1) (j+1) j l8 l9 l10 bg jg s6 u7 u8 u9 u10 rv' (.slice xa nx xc) ev Z E E∧Is wx A #[.int .i32 q.code,.int .i64 q.cls,.slice am nm cm] 164∧Below B w4 wx)
    case first=>
     go_wp2_with (refine mY (W:=wc) rfl _ _ 221 rfl B 224 _ 2 8 Fy (by decide) (by decide) (by decide) (by decide) u6 j _ rfl FL.cls _ rfl rfl (by simp [Value.oneCell']) (by omega) wc (Below.refl _ _) QH ?_;intro v1 y_ o12 ah0 Vo acL)
     have zS:=FL.Sa (by
      rw [List.take_succ_eq_append_getElem hjl,←Ux.out,yh,List.map_append,List.flatMap_append]
      exact o12) Vo acL
     have k12:=k11.grown Vo (fun e=>absurd ((bQ FL.cls e).one (fU k11)) (by decide));have CQ:Below B w4 y_:=OD.grown Vo QH (fun k hk=>(FL.cls.lt k hk).1);go_wp2_with fail;go_meet;exact ⟨rfl,zS,k12,CQ⟩
    case rest=>
     clear e0 e1 e2 k11 FL OD acK QH;obtain ⟨y_,acM⟩:=af wc;subst acM;obtain ⟨rfl,zS,k12,CQ⟩:=hcut;obtain ⟨v1,hv1⟩:=af u6;subst hv1;have e2:=k12.at 2 rfl;by_cases YI:nm=0
     ·subst YI;have hqm:q.map=[]:=List.length_eq_zero_iff.1 qh.out.symm;have hE2:E.map (·.1)=(mapped (T.take (j+1))).map (·.code):=by
       rw [List.take_succ_eq_append_getElem hjl,←Ux.out,mapped,List.filter_append,zS.kX,mapped];simp [hqm]
      have abA:=ae (zS.YC hE2);clear zS hE2 hqm;go_wp2_with fail;go_roundw
      case rel=>exact ⟨j+1,by omega,by simp,⟨_,_,Z,E,_,_,_,_,_,abA.out,uw.out⟩,CQ⟩
      case measure=>simp [intOf];omega
     ·have znm:((nm:Int)==0)=false:=by simp;omega
      go_upto_region 15 with fail;go_cut [13,33] from 33 to 161 (fun s13 iv wx=>∃C v_ wK fa fc fn pb,s13=.pointer (some ⟨C,0,none⟩)∧iv=.int .i64 j∧Is wx C #[.slice v_ nm wK,.slice fa fn fc,.bool pb] 103∧(pb=true↔Prim T X q.code)∧wx.ownsRow y_.heap.size aM 1 (.slice v_ nm wK) nm (aN q.map)∧fn=(aK T q.code).length∧wx.ownsRow y_.heap.size aM 1 (.slice fa fn fc) fn (aN (aK T q.code))∧Below y_.heap.size y_ wx∧y_.heap.size≤C)
      case first=>
       have LP:=hB4.trans (CQ.mono hle);have YJ:q∈T:=by rw [Ux.out];exact List.getElem_mem hjl
       have CL:=ae (fun (W:World) (E:Below y_.heap.size y_ W)=>lQ (w:=W) q.map (HQ0.out.mono (LP.trans (E.mono LP.size))) ⟨_,_,_,rfl,Vh.out⟩ (by have:=qh.out;omega));have FU:=ae (fun (W:World) (E:Below y_.heap.size y_ W)=>Li (Vm.out.mono (LP.trans (E.mono LP.size))) HF.out q.code hcode (HV.out.full q YJ));have PR:=ae (fun (W:World) (E:Below y_.heap.size y_ W)=>CB (Vm.out.mono (LP.trans (E.mono LP.size))) HF.out hX q.code hcode);rw [←qh.out] at CL;have RJ:=ae (iR HV.out q.code);have k4w:=k4.low CQ hlt;have e0:=k12.at 0 rfl;have e3:=k4w.at 0 rfl;have e4:=k4w.at 1 rfl;refine aD #[true,true,true,true,true,true,true,true,true,true,true,true,true,false] 13 1 mixed (by rfl) ?_;have LQ:=ah y_;have hg0:=Gr.cell LQ e0;have hg2:=Gr.cell LQ e2;have hg3:=Gr.cell LQ e3;have hg4:=Gr.cell LQ e4;refine ay [0,1,3,4,5,7,8,9] 5 rfl (by kernel_rfl) ?_
       iterate 8 (refine aC rfl ?_;go_big_quiet_step (rfl))
       refine ak ?_;refine Ik [12] (fun _ v W=>∃k,v=.pointer (some ⟨k,0,none⟩)∧W.heap[k]? = some (.cells #[.slice none 0 0,.slice none 0 0,.bool false] 103)) aaI 4 rfl (by kernel_rfl) (fun _ _ _ _ hb h=>yn hb h) ?_ ?_
       ·intro i hi o ho;simp only [List.mem_cons,List.not_mem_nil,or_false] at hi;subst hi;cases ho;exact ym rfl rfl (fun W=>by go_simp)
       refine oD 2 (by kernel_rfl) rfl ?_;intro s1v s1c;have s1D:=ag LQ s1c;go_wp2_with fail;refine (CL.out _ s1D).mono ?_;rintro e s1w ⟨cv2,rfl,Vp,s1b⟩;obtain ⟨v_,wK,rfl,_,_⟩:=az Vp;go_wp2_with fail;refine aH s1b ?_;have s1E:=ag s1D s1b;have YK:=ae (aW Vp (show y_.heap.size≤s1v.heap.size from s1D.size));clear Vp;refine oD 6 (by kernel_rfl) rfl ?_;intro s2v s2c;have s2D:=ag s1E s2c;go_wp2_with fail;refine (FU.out _ s2D).mono ?_;rintro e s2w ⟨fv,rfl,hfv,s2b⟩;obtain ⟨fn,hfn⟩:=af ((aK T q.code).length);have uy:=ae hfn;have YL:=ae (aW hfv (show y_.heap.size≤s2v.heap.size from s2D.size));rw [←hfn] at hfv;obtain ⟨fa,fc,rfl,_,_⟩:=az hfv;clear hfn hfv;go_wp2_with fail;refine aH s2b ?_;have s2E:=ag s2D s2b;refine oD 10 (by kernel_rfl) rfl ?_;intro s3v s3c;have s3D:=ag s2E s3c;go_wp2_with fail;refine (PR.out _ s3D).mono ?_;rintro e s3w ⟨pb,rfl,hpb,YM⟩;go_wp2_with fail;refine aH YM ?_;have s3E:=ag s3D YM;have HPB:=ae hpb;clear hpb;refine rM [11] 0 rfl (by kernel_rfl) ?_
       iterate 1 (refine aC rfl ?_;go_big_quiet_step (rfl))
       refine ak ?_;refine rQ [13] (by kernel_rfl) ?_;intro W Wb vs hR hD;have WE:=ag s3E Wb;obtain ⟨⟨C,hv1,yt⟩,hN1,hb1⟩:=hR 12 (by simp);rw [hv1] at hN1 hb1;simp only [aaI] at hN1 hb1;rw [sw (d:=some 13) rfl,hv1];have kC:Is W C #[.slice none 0 0,.slice none 0 0,.bool false] 103:=⟨yt⟩;have YN:y_.heap.size≤C:=hN1;have zT:=ae (aG YK.out (ag (ag (ag (ag s2c s2b) s3c) YM) Wb));have Uz:=ae (aG YL.out (ag (ag s3c YM) Wb));clear hv1 yt hR hD hN1 hb1 s1D s1E s2D s2E s3D s3E s1b s1c s2b s2c YM s3c LQ YK YL e0 e2 e3 e4 hg0 hg2 hg3 hg4 CL FU PR;have f0:=kC.at 0 rfl;have f1:=kC.at 1 rfl;have f2:=kC.at 2 rfl;have q0:=kC.frozen 0;have q1:=kC.frozen 1;have q2:=kC.frozen 2;refine tail_cons rfl ?_;go_wp2_with fail;refine tail_nil ?_;obtain ⟨w13,IL⟩:=af (((W.setCell ⟨C,0,none⟩ (.slice v_ nm wK)).setCell ⟨C,1,none⟩ (.slice fa fn fc)).setCell ⟨C,2,none⟩ (.bool pb));have Sd:Is w13 C #[.slice v_ nm wK,.slice fa fn fc,.bool pb] 103:=by rw [IL];exact ((kC.set 0 _).set 1 _).set 2 _
       have b13:Below y_.heap.size y_ w13:=by rw [IL];exact aj (aj (aj WE YN) YN) YN
       have tr:∀{e:TypeId} {base n:Nat} {v:Value} {xs:List Value},e≠103→W.ownsRow base e 1 v n xs→w13.ownsRow base e 1 v n xs:=by
        intro e base n v xs hne ho;rw [IL];have c1:=bK.put (o:=0) kC (.slice v_ nm wK);have c2:=bK.put (o:=1) (kC.set 0 (.slice v_ nm wK)) (.slice fa fn fc);have c3:=bK.put (o:=2) ((kC.set 0 (.slice v_ nm wK)).set 1 (.slice fa fn fc)) (.bool pb);exact c3.own (c2.own (c1.own ho hne) hne) hne
       have OG:=ae (tr (by decide) zT.out);have Sg:=ae (tr (by decide) Uz.out);rw [←IL];clear IL tr f0 f1 f2 q0 q1 q2 kC WE Wb zT Uz;go_wp2_with fail;go_meet;exact ⟨C,v_,wK,fa,fc,fn,pb,rfl,rfl,Sd,HPB.out,OG.out,uy.out,uy.out▸Sg.out,b13,YN⟩
      case rest=>
       obtain ⟨C,v_,wK,fa,fc,fn,pb,rfl,rfl,Sd,hpb,YO,hfn,YP,b13,YN⟩:=hcut;have HPB:=ae hpb;have OG:=ae YO;have uy:=ae hfn;have Sg:=ae YP;obtain ⟨w13,IL⟩:=af wc;subst IL;have k13:=k12.mono b13;have abA:=zS.mono b13;have Si:Below B w4 w13:=CQ.trans (b13.mono (by have:=k12.lt;omega));have ah3:=k12.lt;clear hpb YO hfn YP;have HZ:=ae (show ∀k,(Value.slice fa fn fc).ownBlock=some k→Z k=none from fun k hk=>zS.fresh (Sg.out.lt k hk).1);have HMZ:=ae (show ∀k,(Value.slice v_ nm wK).ownBlock=some k→Z k=none from fun k hk=>zS.fresh (OG.out.lt k hk).1);have HEV:=ae (show ∀k,ev.ownBlock=some k→k<y_.heap.size from fun k hk=>(zS.mM.lt k hk).2);clear k12 zS CQ b13 e2;go_upto_region 16 with fail;obtain ⟨ne,hne⟩:=af E.length;have G5:=ae hne;have he:=abA.mM;rw [←hne] at he;obtain ⟨ea,ec,rfl,_,_⟩:=az he;have acQ:ne≤j:=by rw [hne];exact Xn.out
       clear hne he;go_cut [33] from 33 to 161 (fun iv wx=>iv=.int .i64 j∧(∃s1 s2,jV T X B p B jM wx (j+1) (j+1) (j+1) l8 l9 l10 bg jg v1 u7 u8 u9 u10 rv' (.slice xa nx xc) (.slice s1 (ne+1) s2) Z (E++[(q.code,Value.slice v_ nm wK,Value.slice fa fn fc,pb)]) E)∧Is wx A #[.int .i32 q.code,.int .i64 q.cls,.slice am nm cm] 164∧Is wx C #[.slice v_ nm wK,.slice fa fn fc,.bool pb] 103∧Below B w4 wx)
       case first=>
        have ah5:=k13.lt;have k14:=k13.mono (ah w13);have OH:=Sd.mono (ah w13);have LU:=abA.mono (ah w13);have g0:=sW.keeps (S:=fun k=>k=p∨k=C) (LU.is.at 4 rfl) (.inl rfl);have g1:=sW.keeps (S:=fun k=>k=p∨k=C) (OH.at 0 rfl) (.inr rfl);have g2:=sW.keeps (S:=fun k=>k=p∨k=C) (OH.at 1 rfl) (.inr rfl);have g3:=sW.keeps (S:=fun k=>k=p∨k=C) (OH.at 2 rfl) (.inr rfl);refine dM (KR.blocks fun k=>k=p∨k=C) #[true,true,true,true,true,true,true,true,true,true,false] 10 1 mixed (by rfl) ?_;refine di [0,1,2,3,4,5] 4 rfl (by kernel_rfl) ?_
        iterate 6 (refine aC rfl ?_;go_big_quiet_step (rfl))
        refine ak ?_;refine bT 6 (by kernel_rfl) rfl ?_;go_wp2_with fail;refine bB (KR.of_below (ai _) (by simp) (fun k hk=>by have:=LU.is.lt;have:=OH.lt;rcases hk with rfl|rfl <;> omega)) ?_;have Vq:=LU.mM;rw [←G5.out] at Vq;refine bT 7 (by kernel_rfl) rfl ?_;refine xD (W:=w13.drew) rfl _ _ 129 rfl B 103 _ 3 56 R9 (by decide) (by decide) (.slice ea ne ec) ne _ rfl Vq _ rfl rfl (by simp [Value.oneCell']) (by omega) (by have:=LU.is.lt;omega) ?_;intro v15 w15 o15 ah7 IM;obtain ⟨s1,s2,rfl,_,_⟩:=az o15;have FN:=ai (w:=w13.drew) (.cells #[.slice v_ nm wK,.slice fa fn fc,.bool pb] 103);have LV:=LU.mono FN;have Sj:=aG Vq FN;have YQ:=OH.mono FN;have YR:(Value.slice ea ne ec).ownBlock≠some C:=fun e=>by have:=HEV.out C e;omega
        have acR:(E++[(q.code,Value.slice v_ nm wK,Value.slice fa fn fc,pb)]).map (·.1)=(mapped (T.take (j+1))).map (·.code):=by
         rw [List.take_succ_eq_append_getElem hjl,←Ux.out,mapped,List.filter_append,List.map_append,List.map_append,LV.kX,mapped];have:q.map≠[]:=fun e=>YI (by rw [qh.out,e];rfl);simp [this]
        have hfull:(w13.drew.alloc (.cells #[.slice v_ nm wK,.slice fa fn fc,.bool pb] 103)).ownsRow 0 aM 1 (.slice fa fn fc) (aK T q.code).length (aN (aK T q.code)):=by
         have:=aW (aG (aG Sg.out (ah w13)) FN) (Nat.zero_le _);rw [←uy.out];exact this
        have YS:(w13.drew.alloc (.cells #[.slice v_ nm wK,.slice fa fn fc,.bool pb] 103)).ownsRow 0 aM 1 (.slice v_ nm wK) (bF T q.code).length (aN (bF T q.code)):=by
         have e1:bF T q.code=q.map:=by unfold bF;rw [jy HV.out.rise (by rw [Ux.out];exact List.getElem_mem hjl)]
         rw [e1,←qh.out];exact aW (aG (aG OG.out (ah w13)) FN) (Nat.zero_le _)
        have LW:=LV.Oz (ev':=.slice s1 (ne+1) s2) (x:=(q.code,Value.slice v_ nm wK,Value.slice fa fn fc,pb)) (Xm:=j+1) (by rw [←G5.out];exact o15) IM ⟨hfull,HZ.out⟩ ⟨YS,HMZ.out⟩ HPB.out acR;have p16:=(bK.bP Sj IM).is LV.is (by decide);have OI:=YQ.grown IM YR;have k16:=(k14.mono FN).grown IM (fun e=>absurd ((bQ Sj e).one (fU (k14.mono FN))) (by decide));have Sk:Below B w4 (w15.setCell ⟨p,4,none⟩ (.slice s1 (ne+1) s2)):=aj (((Si.trans ((ah w13).mono (by omega))).trans (FN.mono (by have:=LU.is.lt;omega))).grown IM (by have:=LV.is.lt;omega) (fun k hk=>(Sj.lt k hk).1)) (by omega);have cc:=bK.put (o:=4) p16 (.slice s1 (ne+1) s2);have acS:=cc.is OI (by decide);have k17:=cc.is k16 (by decide);go_wp2_with fail;refine bB (KR.bP (w:=w13.drew.alloc (.cells #[.slice v_ nm wK,.slice fa fn fc,.bool pb] 103)) IM IM.size (fun k hk=>?_)) ?_
        ·rcases hk with rfl|rfl
         ·exact ⟨LV.is.lt,LV.is.other Sj (by decide)⟩
         ·exact ⟨YQ.lt,YR⟩
        refine di [8,9] 0 rfl (by kernel_rfl) ?_
        iterate 2 (refine aC rfl ?_;go_big_quiet_step (rfl))
        refine ak ?_;have e4:=p16.at 4 rfl;have d4:=p16.frozen 4;refine fe [10] (by kernel_rfl) ?_;refine tail_cons rfl ?_;go_wp2_with fail;refine tail_nil ?_;go_wp2_with fail;go_meet;exact ⟨rfl,⟨s1,s2,LW⟩,k17,acS,Sk⟩
       case rest=>
        clear k13 Sd abA Si OG HEV;obtain ⟨w16,hw16⟩:=af wc;subst hw16;obtain ⟨rfl,⟨s1,s2,LW⟩,k16,OI,Sk⟩:=hcut;obtain ⟨n1,hn1⟩:=af (ne+1);obtain ⟨x,hx⟩:∃x:dR,x=(q.code,Value.slice v_ nm wK,Value.slice fa fn fc,pb):=⟨_,rfl⟩;rw [←hn1,←hx] at LW;have Bo:=ae hx;have Vr:=ae hn1;have ah8:n1<65536:=by omega
        have ah9:ne<100000:=by omega
        have QH:p<A∧A<w16.heap.size∧C<w16.heap.size:=⟨by omega,k16.lt,OI.lt⟩;clear hx hn1 acQ;go_upto_region 17 with fail;go_cut [7,33] from 33 to 161 (fun s7 iv wx=>iv=.int .i64 j∧jV T X B p B jM wx (j+1) (j+1) (j+1) l8 l9 l10 bg jg v1 s7 u8 u9 u10 rv' (.slice xa nx xc) (.slice s1 n1 s2) Z (E++[x]) (E++[x])∧Is wx A #[.int .i32 q.code,.int .i64 q.cls,.slice am nm cm] 164∧Is wx C #[.slice v_ nm wK,.slice fa fn fc,.bool pb] 103∧Below B w4 wx)
        case first=>
         have LQ:=ah w16;have hg0:=Gr.cell LQ (k16.at 0 rfl);have hg1:=Gr.cell LQ (LW.is.at 4 rfl);refine aD #[true,true,true,true,true,true,true,true,true,true,true,false,false] 11 2 mixed (by rfl) ?_;refine ay [0,1,2,3,4,5,6,7,8,9] 1 rfl (by kernel_rfl) ?_
         iterate 10 (refine aC rfl ?_;go_big_quiet_step (rfl))
         refine ak ?_;refine aL 10 (by kernel_rfl) rfl ?_;go_wp2_with fail;refine aH (ai _) ?_;have YT:=LW.mono LQ;have ho:=YT.M5;rw [←G5.out] at ho;refine aI [11,12] (by kernel_rfl) ?_;refine tail_cons rfl ?_;refine mY (W:=w16.drew) rfl _ _ 221 rfl B 224 _ 2 8 Fy (by decide) (by decide) (by decide) (by decide) u7 ne _ rfl ho #[.int .i32 (q.code:Nat),.int .u16 (n1:Nat)] rfl rfl (by simp [Value.oneCell']) (by omega) w16.drew (Below.refl _ _) (by simp;omega) ?_;intro v7 wu o18 aia Vs acT
         have LZ:=YT.Sb (Ep':=E++[x]) (by
          rw [LF,List.flatMap_append,List.length_append,←G5.out,Bo.out,←Vr.out];rw [Vr.out];have e:List.flatMap cellC [(q.code,n1)]=[.int .i32 (q.code:Nat),.int .u16 (n1:Nat)]:=rfl;rw [←Vr.out,e]
          exact o18) Vs acT
         have c1:=bK.bP ho Vs;have Sm:Below B w4 wu:=(Sk.trans (LQ.mono (by omega))).grown Vs (by simp;omega) (fun k hk=>(ho.lt k hk).1);refine tail_cons rfl ?_;go_wp2_with fail;refine tail_nil ?_;go_wp2_with fail;go_meet;exact ⟨rfl,LZ,c1.is (k16.mono LQ) (by decide),c1.is (OI.mono LQ) (by decide),Sm⟩
        case rest=>
         clear LW k16 OI Sk;obtain ⟨wu,acU⟩:=af wc;subst acU;obtain ⟨v7,hv7⟩:=af u7;subst hv7;obtain ⟨rfl,LZ,k18,Sn,Sm⟩:=hcut;have QH:p<A∧A<wu.heap.size∧C<wu.heap.size:=⟨by omega,k18.lt,Sn.lt⟩;have HFN:=ae (Rv T q.code);have hxf:x.2.2.1=.slice fa fn fc∧x.1=q.code:=by rw [Bo.out];exact ⟨rfl,rfl⟩
         have M6:=ae hxf;clear hxf;obtain ⟨F,hfa,hfF,c0,HC0,Vt,hFu⟩:∃F,fa=some ⟨F,0,none⟩∧F<wu.heap.size∧∃c0,Hid (aX c0∧(aK T q.code).head? = some c0)∧Hid (kL wu F aM∧Z F=none)∧wu.cell? ⟨F,0,none⟩=some (.int .i32 (c0:Nat)):=by
          obtain ⟨f1,f2⟩:=LZ.full x (by simp);rw [M6.out.1,M6.out.2,←uy.out] at f1;rw [M6.out.1] at f2;have hpos:0<fn:=by rw [uy.out];exact List.length_pos_iff.2 HFN.out
          obtain ⟨F,cap,e,_,_,hl,hc,hcell⟩:=jU f1 hpos;injection e with e1 e2 e3;have hpos':0<(aK T q.code).length:=uy.out▸hpos;refine ⟨F,e1,hl,(aK T q.code)[0],ae ⟨rT HV.out Uy.out.1 (List.getElem_mem hpos'),by rw [List.head?_eq_getElem?];exact List.getElem?_eq_getElem hpos'⟩,ae ⟨hc,f2 F (by rw [e1];rfl)⟩,hcell 0 _ ?_⟩;rw [List.getElem?_eq_getElem (by simpa using hpos'),fB]
         subst hfa;go_upto_region 18 with fail;go_cut [33] from 33 to 161 (fun iv wx=>iv=.int .i64 j∧(∃Z',jV T X B p B jM wx (j+1) (j+1) (j+1) l8 l9 l10 (fun c=>if c=c0 then bg c0++[q.code] else bg c) jg v1 v7 u8 u9 u10 rv' (.slice xa nx xc) (.slice s1 n1 s2) Z' (E++[x]) (E++[x]))∧Is wx A #[.int .i32 q.code,.int .i64 q.cls,.slice am nm cm] 164∧Is wx C #[.slice v_ nm wK,.slice (some ⟨F,0,none⟩) fn fc,.bool pb] 103∧Below B w4 wx)
         case first=>
          have hc0:c0<1114112:=HC0.out.1.1;have hkey:=wJ c0 (by omega);have L6:=LZ.mono (ah wu);obtain ⟨G,hG,hG2,hG3⟩:=L6.bm;obtain ⟨uv,YU,FP⟩:∃uv,qD wu.drew B Z (c0+3) uv (bg c0)∧(((∀v,¬G (.int .i32 c0) v)∧uv=.slice none 0 0)∨G (.int .i32 c0) uv):=by
           by_cases hg:∃v,G (.int .i32 c0) v
           ·obtain ⟨v,hv⟩:=hg;obtain ⟨c,e,hw⟩:=hG2 _ _ hv;have:c=c0:=by injection e with _ e;omega
            subst this;exact ⟨v,hw,.inr hv⟩
           ·have hno:∀u,¬G (.int .i32 c0) u:=fun u hu=>hg ⟨u,hu⟩;exact ⟨_,by rw [hG3 c0 hno];exact qD.nil _ _ _ _,.inl ⟨hno,rfl⟩⟩
          have HG2:=ae hG2;have HG3:=ae hG3;have hbl:(bg c0).length≤j:=by rw [uw.out.ib];exact Nat.le_trans (Ow _ _ _) Xn.out
          have hz:=fun W=>Tryz.zeroValue39 W;have hcF:=aA (ah wu) hFu;have g0:=sW.keeps (S:=fun k=>k=p∨k=A∨k=C∨k=F∨k=B) (L6.is.at 5 rfl) (.inl rfl);have g1:=sW.keeps (S:=fun k=>k=p∨k=A∨k=C∨k=F∨k=B) ((k18.mono (ah wu)).at 0 rfl) (.inr (.inl rfl));have g2:=sW.keeps (S:=fun k=>k=p∨k=A∨k=C∨k=F∨k=B) ((Sn.mono (ah wu)).at 1 rfl) (.inr (.inr (.inl rfl)));have g3:=sW.keeps (S:=fun k=>k=p∨k=A∨k=C∨k=F∨k=B) hcF (.inr (.inr (.inr (.inl rfl))));have YV:0<fn:=by rw [uy.out];exact List.length_pos_iff.2 HFN.out
          clear hG2 hG3;refine dM (KR.blocks fun k=>k=p∨k=A∨k=C∨k=F∨k=B) #[true,true,true,true,true,true,true,true,true,true,true,true,true,true,true,true,true,true,true,true,true,false] 21 1 mixed (by rfl) ?_;refine di [0,1,2,3,4,5,6,7,8,9,10,11,12,13,14,15,16,17,18] 2 rfl (by kernel_rfl) ?_
          iterate 16 (refine aC rfl ?_;go_big_quiet_step (rfl))
          refine aC rfl ?_;refine yg rfl ?_;refine vJ _ _ 130 39 rfl iU Tryz.underlying130 hG (.inr (.inr (.inr (.inr rfl)))) rfl rfl hkey hz uv FP ?_;simp only [Act.put,List.setIfInBounds_toArray,List.set_cons_succ,List.set_cons_zero]
          iterate 2 (refine aC rfl ?_;go_big_quiet_step (rfl))
          refine ak ?_;have zU:=ai (w:=wu.drew) (.cells #[.int .i32 (q.code:Nat)] aM);have IP:=L6.mono zU;have k20:=(k18.mono (ah wu)).mono zU;have YW:=(Sn.mono (ah wu)).mono zU;have hE20:Below B w4 (wu.drew.alloc (.cells #[.int .i32 (q.code:Nat)] aM)):=(Sm.trans ((ah wu).mono (by omega))).trans (zU.mono (by simp;omega));have UA:qD (wu.drew.alloc (.cells #[.int .i32 (q.code:Nat)] aM)) B Z (c0+3) uv (bg c0):=YU.mono fun k hk=>zU.block k (L6.wk k hk).1;refine bT 19 (by kernel_rfl) rfl ?_;go_wp2_with fail;refine bB (KR.of_below zU zU.size (fun k hk=>by have:=L6.is.lt;have:wu.drew.heap.size=wu.heap.size:=rfl;rcases hk with rfl|rfl|rfl|rfl|rfl <;> omega)) ?_;refine bT 20 (by kernel_rfl) rfl ?_;refine lT (W:=wu.drew.alloc (.cells #[.int .i32 (q.code:Nat)] aM)) rfl _ _ 39 rfl B aM (.int .i32 0) 4 bS (by decide) (v:=uv) rfl UA.1 (by simp;omega) [.int .i32 (q.code:Nat)] (by simp [Value.oneCell']) ⟨wu.drew.heap.size,0,none⟩ 1 1 rfl rfl (fun i u hi=>?_) (by omega) ?_
          ·rcases i with _|i
           ·cases hi;exact (Is.new wu.drew _ aM).at 0 rfl
           ·cases hi
          intro v21 w21 o21 YX YY;obtain ⟨Z',hS,acW⟩:=sZ.iH (l':=bg c0++[q.code]) IP.wk UA (by rw [bA,List.length_append];exact o21) YX YY
          have hH:=IP.pushB hS acW (hG.mono zU) (fun x u hx=>by
           obtain ⟨c,e,hw⟩:=HG2.out x u hx
           exact ⟨c,e,hw.mono fun k hk=>zU.block k (L6.wk k hk).1⟩) HG3.out
          have c21:=hS.mg IP.wk;have k21:=c21.is k20 (by decide);have YZ:=c21.is YW (by decide);have acX:Below B w4 w21:=hE20.trans (hS.below IP.zb (by simp;omega));have HH:=ae hH;have aif:=ae hS;clear hH o21 YX YY;go_wp2_with fail;refine bB ⟨fun k hk=>hS.keep k (by have:=IP.is.lt;simp;rcases hk with rfl|rfl|rfl|rfl|rfl <;> omega) (fun hz=>?_),hS.size⟩ ?_
          ·have hcz:=(IP.wk k (by rw [hz];simp)).2;rcases hk with rfl|rfl|rfl|rfl|rfl
           ·exact absurd (hcz.one (fU IP.is)) (by decide)
           ·exact absurd (hcz.one (fU k20)) (by decide)
           ·exact absurd (hcz.one (fU YW)) (by decide)
           ·rw [Vt.out.2] at hz;cases hz
           ·exact lU (hG.mono zU) hcz
          refine fe [21] (by kernel_rfl) ?_;refine tail_cons rfl ?_;refine iT (xv:=.int .i32 c0) (vv:=v21) rfl _ _ _ 130 39 rfl iU Tryz.underlying130 HH.out.map rfl rfl rfl hkey ?_;intro nR acY Sq;have OJ:=HH.out.st nR acY Sq (by omega);have k22:=dm k21 (Sq.block A k21.lt (fun e=>by injection e with e;omega));have OL:=dm YZ (Sq.block C YZ.lt (fun e=>by injection e with e;have:=LZ.low;omega));have Sr:Below B w4 nR:=acX.grown Sq (by have:=k21.lt;omega) (fun k hk=>by injection hk with hk;omega);go_wp2_with fail;refine tail_nil ?_;go_wp2_with fail;go_meet;exact ⟨rfl,⟨_,OJ⟩,k22,OL,Sr⟩
         case rest=>
          clear LZ k18 Sn Sm hFu hfF Vt;obtain ⟨nR,acZ⟩:=af wc;subst acZ;obtain ⟨rfl,⟨Z2,OJ⟩,k22,OL,Sr⟩:=hcut;have QH:p<A∧A<nR.heap.size∧C<nR.heap.size:=⟨by omega,k22.lt,OL.lt⟩;obtain ⟨Xp,Vu⟩:∃Xp:Nat→List Nat,Xp=fun c=>if c=c0 then bg c0++[q.code] else bg c:=⟨_,rfl⟩;rw [←Vu] at OJ;have ac0:=ae Vu;clear Vu;go_upto_region 19 with fail;go_cut [8,10,33] from 33 to 161 (fun s8 s10 iv wx=>iv=.int .i64 j∧(∃Z',jV T X B p B jM wx (j+1) (j+1) (j+1) (l8++(aK T q.code).drop 1) l9 (l10++[q.code]) Xp jg v1 v7 s8 u9 s10 rv' (.slice xa nx xc) (.slice s1 n1 s2) Z' (E++[x]) (E++[x]))∧Is wx A #[.int .i32 q.code,.int .i64 q.cls,.slice am nm cm] 164∧Is wx C #[.slice v_ nm wK,.slice (some ⟨F,0,none⟩) fn fc,.bool pb] 103∧Below B w4 wx)
          case first=>
           have YV:0<fn:=by rw [uy.out];exact List.length_pos_iff.2 HFN.out
           have mh:=OJ.mono (ah nR);have k23:=k22.mono (ah nR);have IQ:=OL.mono (ah nR);have g1:=sW.keeps (S:=fun k=>k=A∨k=C) (k23.at 0 rfl) (.inl rfl);have g2:=sW.keeps (S:=fun k=>k=A∨k=C) (IQ.at 1 rfl) (.inr rfl);obtain ⟨hfc,HCE⟩:fn≤fc∧Hid (∀i u,(aN (aK T q.code))[i]? = some u→nR.drew.cell? ⟨F,i,none⟩=some u):=by
            obtain ⟨f1,f2⟩:=mh.full x (by simp);rw [M6.out.1,M6.out.2,←uy.out] at f1;obtain ⟨F',cap,e,hc,_,_,_,hcell⟩:=jU f1 YV;injection e with e1 _ e3;injection e1 with e1;injection e1 with e1;subst e1;subst e3;exact ⟨hc,ae hcell⟩
           have hl8:l8.length≤31*j:=by rw [uw.out.i8];exact Nat.le_trans (yj (fun c=>iR HV.out c) E) (Nat.mul_le_mul_left _ Xn.out)
           have aih:l10.length≤j:=by rw [uw.out.i10];unfold FJ;rw [List.length_map];exact Xn.out
           have afQ:fn≤32:=by rw [uy.out];exact iR HV.out _
           have UB:=ae (show (aN ((aK T q.code).drop 1)).length=fn-1 from by rw [bO,List.length_drop,←uy.out]);have HL8:=ae (show (l8++(aK T q.code).drop 1).length=l8.length+(fn-1) from by rw [List.length_append,List.length_drop,←uy.out]);have Su:Below B w4 nR.drew:=Sr.trans ((ah nR).mono (by omega));by_cases hf1:fc=1
           ·subst hf1;obtain rfl:fn=1:=by omega
            refine dM (KR.blocks fun k=>k=A∨k=C) #[true,true,true,true,true,true,true,true,true,true,false,false] 10 2 mixed (by rfl) ?_;refine di [0,1,2,3,5,6,7] 3 rfl (by kernel_rfl) ?_
            iterate 7 (refine aC rfl ?_;go_big_quiet_step (rfl))
            refine ak ?_;refine J9 4 8 (by kernel_rfl) rfl rfl ?_ ?_
            ·refine lT (W:=nR.drew) rfl _ _ 39 rfl B aM (.int .i32 0) 4 bS (by decide) (v:=u8) rfl mh.w8.1 (by simp;omega) (aN ((aK T q.code).drop 1)) (gK _) ⟨F,0,none⟩ 0 0 UB.out.symm rfl (fun i u hi=>absurd (List.getElem?_eq_some_iff.1 hi).1 (by have:=UB.out;omega)) (by omega) ?_;intro v24 IU o24 OM OO;obtain ⟨Z3,yu,hv24⟩:=sZ.iH (l':=l8++(aK T q.code).drop 1) mh.wk mh.w8 (by rw [HL8.out,bA];exact o24) OM OO;have mq:=mh.Ka yu hv24;have kA:=yu.kept mh.wk k23 (by decide);have kC:=yu.kept mh.wk IQ (by decide);have k24:=dm k23 kA;have CR:=dm IQ kC;have IV:Below B w4 IU:=Su.trans (yu.below mh.zb (by simp;omega));have OQ:=yu.size;have Y3:nR.heap.size≤IU.heap.size:=OQ;clear o24 OM OO;go_wp2_with fail;refine bB ⟨fun k hk=>hk.elim (fun h=>by rw [h];exact kA) (fun h=>by rw [h];exact kC),OQ⟩ ?_;have uz:=ai (w:=IU) (.cells #[.int .i32 (q.code:Nat)] aM);have gy:=mq.mono uz;have k25:=k24.mono uz;have yw:=CR.mono uz;have IW:Below B w4 (IU.alloc (.cells #[.int .i32 (q.code:Nat)] aM)):=IV.trans (uz.mono (by omega));refine bT 8 (by kernel_rfl) rfl ?_;go_wp2_with fail;refine bB (KR.of_below uz uz.size (fun k hk=>by rcases hk with rfl|rfl <;> omega)) ?_;refine bT 9 (by kernel_rfl) rfl ?_;refine lT (W:=IU.alloc (.cells #[.int .i32 (q.code:Nat)] aM)) rfl _ _ 39 rfl B aM (.int .i32 0) 4 bS (by decide) (v:=u10) rfl gy.yl.1 (by simp;omega) [.int .i32 (q.code:Nat)] (by simp [Value.oneCell']) ⟨IU.heap.size,0,none⟩ 1 1 rfl rfl (fun i u hi=>?_) (by omega) ?_
             ·rcases i with _|i
              ·cases hi;exact (Is.new IU _ aM).at 0 rfl
              ·cases hi
             intro v26 tq OT yx yz;obtain ⟨Z4,jW,IY⟩:=sZ.iH (l':=l10++[q.code]) gy.wk gy.yl (by rw [bA,List.length_append];exact OT) yx yz;have sD:=gy.CP jW IY;have kA2:=jW.kept gy.wk k25 (by decide);have OU:=jW.kept gy.wk yw (by decide);have k26:=dm k25 kA2;have qE:=dm yw OU;have yA:Below B w4 tq:=IW.trans (jW.below gy.zb (by simp;omega));have IZ:=jW.size;clear OT yx yz;go_wp2_with fail;refine bB ⟨fun k hk=>hk.elim (fun h=>by rw [h];exact kA2) (fun h=>by rw [h];exact OU),IZ⟩ ?_;refine fe [10,11] (by kernel_rfl) ?_;refine tail_cons rfl ?_;go_wp2_with fail;refine tail_nil ?_;go_wp2_with fail;go_meet;exact ⟨rfl,⟨Z4,sD⟩,k26,qE,yA⟩
            ·go_wp2_with fail;have sF:=ai (w:=nR.drew) (.cells #[.int .i32 (q.code:Nat)] aM);have mq:=mh.mono sF;have k24:=k23.mono sF;have CR:=IQ.mono sF;have IV:Below B w4 (nR.drew.alloc (.cells #[.int .i32 (q.code:Nat)] aM)):=Su.trans (sF.mono (by show B≤nR.heap.size;omega));refine bB (KR.of_below sF sF.size (fun k hk=>by rcases hk with rfl|rfl <;> (show _<nR.heap.size;omega))) ?_;have kN:=Is.new nR.drew #[.int .i32 (q.code:Nat)] aM;have HZN:=ae (mh.fresh (Nat.le_refl nR.drew.heap.size));refine bT 4 (by kernel_rfl) rfl ?_;refine lT (W:=nR.drew.alloc (.cells #[.int .i32 (q.code:Nat)] aM)) rfl _ _ 39 rfl B aM (.int .i32 0) 4 bS (by decide) (v:=u8) rfl mq.w8.1 (by simp;omega) (aN ((aK T q.code).drop 1)) (gK _) ⟨F,0,none⟩ 0 0 UB.out.symm rfl (fun i u hi=>absurd (List.getElem?_eq_some_iff.1 hi).1 (by have:=UB.out;omega)) (by omega) ?_;intro v25 Vv Y4 abB OW;obtain ⟨Z3,uA,hv25⟩:=sZ.iH (l':=l8++(aK T q.code).drop 1) mq.wk mq.w8 (by rw [HL8.out,bA];exact Y4) abB OW;have gy:=mq.Ka uA hv25;have kA:=uA.kept mq.wk k24 (by decide);have kC:=uA.kept mq.wk CR (by decide);have k25:=dm k24 kA;have yw:=dm CR kC;have kN2:=dm kN (uA.keep _ kN.lt (by rw [HZN.out];simp));have IW:Below B w4 Vv:=IV.trans (uA.below mq.zb (by simp;omega));have OX:=uA.size;have Y5:nR.heap.size+1≤Vv.heap.size:=by simpa using OX
             clear Y4 abB OW;go_wp2_with fail;refine bB ⟨fun k hk=>hk.elim (fun h=>by rw [h];exact kA) (fun h=>by rw [h];exact kC),OX⟩ ?_;refine bT 9 (by kernel_rfl) rfl ?_;refine lT (W:=Vv) rfl _ _ 39 rfl B aM (.int .i32 0) 4 bS (by decide) (v:=u10) rfl gy.yl.1 (by omega) [.int .i32 (q.code:Nat)] (by simp [Value.oneCell']) ⟨nR.drew.heap.size,0,none⟩ 1 1 rfl rfl (fun i u hi=>?_) (by omega) ?_
             ·rcases i with _|i
              ·cases hi;exact kN2.at 0 rfl
              ·cases hi
             intro v26 tq OT yx yz;obtain ⟨Z4,jW,IY⟩:=sZ.iH (l':=l10++[q.code]) gy.wk gy.yl (by rw [bA,List.length_append];exact OT) yx yz;have sD:=gy.CP jW IY;have kA2:=jW.kept gy.wk k25 (by decide);have OU:=jW.kept gy.wk yw (by decide);have k26:=dm k25 kA2;have qE:=dm yw OU;have yA:Below B w4 tq:=IW.trans (jW.below gy.zb (by omega));have IZ:=jW.size;clear OT yx yz;go_wp2_with fail;refine bB ⟨fun k hk=>hk.elim (fun h=>by rw [h];exact kA2) (fun h=>by rw [h];exact OU),IZ⟩ ?_;refine fe [10,11] (by kernel_rfl) ?_;refine tail_cons rfl ?_;go_wp2_with fail;refine tail_nil ?_;go_wp2_with fail;go_meet;exact ⟨rfl,⟨Z4,sD⟩,k26,qE,yA⟩
           ·refine dM (KR.blocks fun k=>k=A∨k=C) #[true,true,true,true,true,true,true,true,true,true,false,false] 10 2 mixed (by rfl) ?_;refine di [0,1,2,3,5,6,7] 3 rfl (by kernel_rfl) ?_
            iterate 7 (refine aC rfl ?_;go_big_quiet_step (rfl))
            refine ak ?_;refine J9 4 8 (by kernel_rfl) rfl rfl ?_ ?_
            ·refine lT (W:=nR.drew) rfl _ _ 39 rfl B aM (.int .i32 0) 4 bS (by decide) (v:=u8) rfl mh.w8.1 (by simp;omega) (aN ((aK T q.code).drop 1)) (gK _) ⟨F,1,none⟩ (fn-1) (fc-1) UB.out.symm rfl (fun i u hi=>by
              have e0:=addr_add F 1 i;rw [e0]
              exact HCE.out (1+i) u (by rw [←hi,Ap,List.getElem?_drop])) (by omega) ?_
             intro v24 IU o24 OM OO;obtain ⟨Z3,yu,hv24⟩:=sZ.iH (l':=l8++(aK T q.code).drop 1) mh.wk mh.w8 (by rw [HL8.out,bA];exact o24) OM OO;have mq:=mh.Ka yu hv24;have kA:=yu.kept mh.wk k23 (by decide);have kC:=yu.kept mh.wk IQ (by decide);have k24:=dm k23 kA;have CR:=dm IQ kC;have IV:Below B w4 IU:=Su.trans (yu.below mh.zb (by simp;omega));have OQ:=yu.size;have Y3:nR.heap.size≤IU.heap.size:=OQ;clear o24 OM OO;go_wp2_with fail;refine bB ⟨fun k hk=>hk.elim (fun h=>by rw [h];exact kA) (fun h=>by rw [h];exact kC),OQ⟩ ?_;have uz:=ai (w:=IU) (.cells #[.int .i32 (q.code:Nat)] aM);have gy:=mq.mono uz;have k25:=k24.mono uz;have yw:=CR.mono uz;have IW:Below B w4 (IU.alloc (.cells #[.int .i32 (q.code:Nat)] aM)):=IV.trans (uz.mono (by omega));refine bT 8 (by kernel_rfl) rfl ?_;go_wp2_with fail;refine bB (KR.of_below uz uz.size (fun k hk=>by rcases hk with rfl|rfl <;> omega)) ?_;refine bT 9 (by kernel_rfl) rfl ?_;refine lT (W:=IU.alloc (.cells #[.int .i32 (q.code:Nat)] aM)) rfl _ _ 39 rfl B aM (.int .i32 0) 4 bS (by decide) (v:=u10) rfl gy.yl.1 (by simp;omega) [.int .i32 (q.code:Nat)] (by simp [Value.oneCell']) ⟨IU.heap.size,0,none⟩ 1 1 rfl rfl (fun i u hi=>?_) (by omega) ?_
             ·rcases i with _|i
              ·cases hi;exact (Is.new IU _ aM).at 0 rfl
              ·cases hi
             intro v26 tq OT yx yz;obtain ⟨Z4,jW,IY⟩:=sZ.iH (l':=l10++[q.code]) gy.wk gy.yl (by rw [bA,List.length_append];exact OT) yx yz;have sD:=gy.CP jW IY;have kA2:=jW.kept gy.wk k25 (by decide);have OU:=jW.kept gy.wk yw (by decide);have k26:=dm k25 kA2;have qE:=dm yw OU;have yA:Below B w4 tq:=IW.trans (jW.below gy.zb (by simp;omega));have IZ:=jW.size;clear OT yx yz;go_wp2_with fail;refine bB ⟨fun k hk=>hk.elim (fun h=>by rw [h];exact kA2) (fun h=>by rw [h];exact OU),IZ⟩ ?_;refine fe [10,11] (by kernel_rfl) ?_;refine tail_cons rfl ?_;go_wp2_with fail;refine tail_nil ?_;go_wp2_with fail;go_meet;exact ⟨rfl,⟨Z4,sD⟩,k26,qE,yA⟩
            ·go_wp2_with fail;have sF:=ai (w:=nR.drew) (.cells #[.int .i32 (q.code:Nat)] aM);have mq:=mh.mono sF;have k24:=k23.mono sF;have CR:=IQ.mono sF;have IV:Below B w4 (nR.drew.alloc (.cells #[.int .i32 (q.code:Nat)] aM)):=Su.trans (sF.mono (by show B≤nR.heap.size;omega));refine bB (KR.of_below sF sF.size (fun k hk=>by rcases hk with rfl|rfl <;> (show _<nR.heap.size;omega))) ?_;have kN:=Is.new nR.drew #[.int .i32 (q.code:Nat)] aM;have HZN:=ae (mh.fresh (Nat.le_refl nR.drew.heap.size));refine bT 4 (by kernel_rfl) rfl ?_
             refine lT (W:=nR.drew.alloc (.cells #[.int .i32 (q.code:Nat)] aM)) rfl _ _ 39 rfl B aM (.int .i32 0) 4 bS (by decide) (v:=u8) rfl mq.w8.1 (by simp;omega) (aN ((aK T q.code).drop 1)) (gK _) ⟨F,1,none⟩ (fn-1) (fc-1) UB.out.symm rfl (fun i u hi=>by
              have e0:=addr_add F 1 i;rw [e0]
              exact aA sF (HCE.out (1+i) u (by rw [←hi,Ap,List.getElem?_drop]))) (by omega) ?_
             intro v25 Vv Y4 abB OW;obtain ⟨Z3,uA,hv25⟩:=sZ.iH (l':=l8++(aK T q.code).drop 1) mq.wk mq.w8 (by rw [HL8.out,bA];exact Y4) abB OW;have gy:=mq.Ka uA hv25;have kA:=uA.kept mq.wk k24 (by decide);have kC:=uA.kept mq.wk CR (by decide);have k25:=dm k24 kA;have yw:=dm CR kC;have kN2:=dm kN (uA.keep _ kN.lt (by rw [HZN.out];simp));have IW:Below B w4 Vv:=IV.trans (uA.below mq.zb (by simp;omega));have OX:=uA.size;have Y5:nR.heap.size+1≤Vv.heap.size:=by simpa using OX
             clear Y4 abB OW;go_wp2_with fail;refine bB ⟨fun k hk=>hk.elim (fun h=>by rw [h];exact kA) (fun h=>by rw [h];exact kC),OX⟩ ?_;refine bT 9 (by kernel_rfl) rfl ?_;refine lT (W:=Vv) rfl _ _ 39 rfl B aM (.int .i32 0) 4 bS (by decide) (v:=u10) rfl gy.yl.1 (by omega) [.int .i32 (q.code:Nat)] (by simp [Value.oneCell']) ⟨nR.drew.heap.size,0,none⟩ 1 1 rfl rfl (fun i u hi=>?_) (by omega) ?_
             ·rcases i with _|i
              ·cases hi;exact kN2.at 0 rfl
              ·cases hi
             intro v26 tq OT yx yz;obtain ⟨Z4,jW,IY⟩:=sZ.iH (l':=l10++[q.code]) gy.wk gy.yl (by rw [bA,List.length_append];exact OT) yx yz;have sD:=gy.CP jW IY;have kA2:=jW.kept gy.wk k25 (by decide);have OU:=jW.kept gy.wk yw (by decide);have k26:=dm k25 kA2;have qE:=dm yw OU;have yA:Below B w4 tq:=IW.trans (jW.below gy.zb (by omega));have IZ:=jW.size;clear OT yx yz;go_wp2_with fail;refine bB ⟨fun k hk=>hk.elim (fun h=>by rw [h];exact kA2) (fun h=>by rw [h];exact OU),IZ⟩ ?_;refine fe [10,11] (by kernel_rfl) ?_;refine tail_cons rfl ?_;go_wp2_with fail;refine tail_nil ?_;go_wp2_with fail;go_meet;exact ⟨rfl,⟨Z4,sD⟩,k26,qE,yA⟩
          case rest=>
           clear OJ k22 OL Sr QH;obtain ⟨tq,ac3⟩:=af wc;subst ac3;obtain ⟨v8,hv8⟩:=af u8;subst hv8;obtain ⟨v10,ac4⟩:=af u10;subst ac4;obtain ⟨rfl,⟨Z3,sD⟩,k26,qE,yA⟩:=hcut;have QH:p<A∧A<tq.heap.size∧C<tq.heap.size:=⟨by omega,k26.lt,qE.lt⟩;have Y6:=ae (show l8++(aK T q.code).drop 1=FH T (E++[x]) from by rw [LG,←uw.out.i8,M6.out.2]);have Y7:=ae (show l10++[q.code]=FJ (E++[x]) from by rw [LH,←uw.out.i10,M6.out.2]);have HSB:=ae (show Xp=sj T (E++[x]) from by rw [ac0.out,LK T E x c0 (by rw [M6.out.2];exact HC0.out.2),←uw.out.ib,M6.out.2]);have hxp:x.2.2.2=pb:=by rw [Bo.out]
           have e2:=qE.at 2 rfl;rcases (show pb=false∨pb=true from by cases pb <;> simp) with hpf|hpt
           ·subst hpf;have OZ:=ae (show IK T (E++[x]) (l8++(aK T q.code).drop 1) l9 (l10++[q.code]) Xp jg from ⟨Y6.out,by rw [R_ T E x hxp];exact uw.out.i9,Y7.out,HSB.out,by rw [Ov T E x hxp];exact uw.out.ij⟩);have ac5:=ae sD;clear sD hxp;go_wp2_with fail;go_roundw
            case rel=>exact ⟨j+1,by omega,by simp,⟨_,_,Z3,E++[x],_,_,_,_,_,ac5.out,OZ.out⟩,yA⟩
            case measure=>simp [intOf];omega
           ·subst hpt;obtain ⟨a0,b0,hab⟩:∃a0 b0,q.map=[a0,b0]:=by
             have YJ:q∈T:=by rw [Ux.out];exact List.getElem_mem hjl
             have hl2:=wQ HV.out.rise YJ (by rw [Uy.out.2.2.2.1];decide) (HPB.out.1 rfl)
             match hqm:q.map,hl2 with
             | [a0,b0],_=>exact ⟨a0,b0,rfl⟩
            have Y8:nm=2:=by rw [qh.out,hab];rfl
            subst Y8;have hrm:bF T q.code=[a0,b0]:=by
             have YJ:q∈T:=by rw [Ux.out];exact List.getElem_mem hjl
             unfold bF;rw [jy HV.out.rise YJ];exact hab
            have Y9:aX a0∧aX b0:=⟨(Uy.out.2.2.2.2 a0 (by rw [hab];simp)).2,(Uy.out.2.2.2.2 b0 (by rw [hab];simp)).2⟩;have Rt:=ae Y9
            have OZ:=ae (show IK T (E++[x]) (l8++(aK T q.code).drop 1) (l9++[b0]) (l10++[q.code]) Xp (vZ jg (.agg #[.int .i32 (a0:Nat),.int .i32 (b0:Nat)]) (.int .i32 (q.code:Nat))) from
             ⟨Y6.out,by rw [Ou T E x hxp,←uw.out.i9,M6.out.2,hrm];rfl,Y7.out,HSB.out,by rw [LJ T E x hxp,←uw.out.ij,M6.out.2,hrm];rfl⟩)
            obtain ⟨Mb,hca,m0,m1,hMb⟩:∃Mb,v_=some ⟨Mb,0,none⟩∧tq.cell? ⟨Mb,0,none⟩=some (.int .i32 (a0:Nat))∧tq.cell? ⟨Mb,1,none⟩=some (.int .i32 (b0:Nat))∧Mb<tq.heap.size:=by
             obtain ⟨f1,_⟩:=sD.maps x (by simp);rw [M6.out.2,hrm,Bo.out] at f1;obtain ⟨g,cap,e,_,_,hl,_,hcell⟩:=jU f1 (by show 0<2;omega);injection e with e1 _ _;exact ⟨g,e1,hcell 0 _ rfl,hcell 1 _ rfl,hl⟩
            subst hca;have hl9:l9.length≤j:=by rw [uw.out.i9];exact Nat.le_trans (FK T E) Xn.out
            clear hxp hab hrm Y9;go_upto_region 21 with fail;have O4:=sD.mono (ah tq);have g0:=Gr.cell (ah tq) (sD.is.at 6 rfl);have g1:=Gr.cell (ah tq) (k26.at 0 rfl);have g2:=Gr.cell (ah tq) (qE.at 0 rfl);have g3:=Gr.cell (ah tq) m0;have g4:=Gr.cell (ah tq) m1;have hkey:=LC Rt.out.1.1 Rt.out.2.1;refine aD #[true,true,true,true,true,true,true,true,true,true,true,true,true,true,true,false] 15 1 mixed (by rfl) ?_;refine ay [0,1,2,3,4,5,6,7,8,9,10,11,12,13,14] 0 rfl (by kernel_rfl) ?_
            iterate 15 (refine aC rfl ?_;go_big_quiet_step (rfl))
            refine ak ?_;refine aI [15] (by kernel_rfl) ?_;refine tail_cons rfl ?_;refine iT (xv:=.agg #[.int .i32 (a0:Nat),.int .i32 (b0:Nat)]) (vv:=.int .i32 (q.code:Nat)) rfl _ _ _ 131 21 rfl Iz Tryz.underlying131 O4.jm rfl rfl rfl hkey ?_;intro Sv Y_ abC;have Vw:=O4.acJ (by omega) Y_ abC;have ac6:=dm (qE.mono (ah tq)) (abC.block C (qE.mono (ah tq)).lt (fun e=>by injection e with e;exact lU (P:=Tryz.prog) O4.jm (e▸fU (qE.mono (ah tq)))));have ail:Sv.cell? ⟨Mb,1,none⟩=some (.int .i32 (b0:Nat)):=by
             have hm:=aA (ah tq) m1
             have hb:Sv.heap[Mb]? = tq.drew.heap[Mb]?:=abC.block Mb hMb (fun e=>by
              injection e with e;obtain ⟨es,ck,h1,_⟩:=O4.jm;rw [←e] at h1;unfold World.cell? at hm;rw [h1] at hm
              cases hm)
             exact (World.cell?_of_block (a:=⟨Mb,1,none⟩) hb).trans hm
            have ac7:Below B w4 Sv:=(yA.trans ((ah tq).mono (by omega))).grown abC (by show B≤tq.heap.size;omega) (fun k hk=>by injection hk with hk;omega);go_wp2_with fail;refine tail_nil ?_;clear sD k26 qE yA m0 m1 hMb O4 g0 g1 g2 g3 g4 Y_ abC;have e0:=ac6.at 0 rfl;have QH:B≤Sv.heap.size:=by have:=Vw.is.lt;omega
            obtain ⟨v9,hv9⟩:=af u9;subst hv9;have Za:=ai (w:=Sv) (.cells #[.int .i32 (b0:Nat)] aM);have L8:=Vw.mono Za;have ac8:Below B w4 (Sv.alloc (.cells #[.int .i32 (b0:Nat)] aM)):=ac7.trans (Za.mono QH);go_wp2_with (refine lT (W:=Sv.alloc (.cells #[.int .i32 (b0:Nat)] aM)) rfl _ _ 39 rfl B aM (.int .i32 0) 4 bS (by decide) (v:=v9) rfl L8.w9.1 (by simp;omega) [.int .i32 (b0:Nat)] (by simp [Value.oneCell']) ⟨Sv.heap.size,0,none⟩ 1 1 rfl rfl (fun i u hi=>(match i,hi with|0,hi=>(by cases hi;exact (Is.new Sv _ aM).at 0 rfl)|i+1,hi=>(by cases hi))) (by omega) ?_;intro v9' w30 o30 Zb Zc);obtain ⟨Z5,Vx,Zd⟩:=sZ.iH (l':=l9++[b0]) L8.wk L8.w9 (by rw [bA,List.length_append];exact o30) Zb Zc;have ac9:=ae (L8.YB Vx Zd);have ac_:Below B w4 w30:=ac8.trans (Vx.below L8.zb (by simp;omega));clear Vw L8 o30 Zb Zc Vx Zd;go_wp2_with fail;go_roundw
            case rel=>exact ⟨j+1,by omega,by simp,⟨_,_,Z5,E++[x],_,_,_,_,_,ac9.out,OZ.out⟩,ac_⟩
            case measure=>simp [intOf];omega
  ·have zj:decide ((j:Int)<(nt:Int))=false:=by simp;omega
   obtain rfl:nt=j:=by omega
   have hnt:=qR.out;have ht:T.take nt=T:=List.take_of_length_le (by omega);have hsum:=uw.out;have hel:E.length=(mapped T).length:=by have:=congrArg List.length hO.kX;rw [ht,List.length_map,List.length_map] at this;exact this
   have RN:E.length<1000:=by have:=Xn.out;omega
   have hmem:∀x∈E,∃r∈T,x.1=r.code:=fun x hx=>by
    have h1:x.1∈E.map (·.1):=List.mem_map_of_mem hx;rw [hO.kX,ht] at h1;obtain ⟨r,hr,e⟩:=List.mem_map.1 h1;exact ⟨r,(List.mem_filter.1 hr).1,e.symm⟩
   have hcode:∀x∈E,aX x.1:=fun x hx=>by
    obtain ⟨r,hr,e⟩:=hmem x hx;rw [e];exact (HV.out.fine r hr).1
   have CK6:=ae (fun (W:World) (h:Below wr.heap.size wr W)=>Fx (w:=W) (v:=u6) (L:=yh T) (base:=B) (by
    have h1:=aG hO.cls h;rw [ht] at h1;rw [FC,←hnt];exact h1) (fun y hy=>by
    obtain ⟨r,hr,rfl⟩:=List.mem_map.1 hy;have:=HV.out.fine r hr
    exact ⟨this.1.1,by have:=this.2.1;show r.cls<65536;omega⟩) (by rw [FC];omega))
   have CK7:=ae (fun (W:World) (h:Below wr.heap.size wr W)=>Fx (w:=W) (v:=u7) (L:=oN E) (base:=B) (by
    have h1:=aG hO.M5 h;rw [FB];exact h1) (fun y hy=>by
    obtain ⟨z,hz,rfl⟩:=List.mem_map.1 hy;have hz1:=List.mem_zipIdx hz
    exact ⟨(hcode z.1 (by rw [hz1.2.2];exact List.getElem_mem _)).1,by show z.2+1<65536;omega⟩) (by rw [FB];omega))
   have CH:∀(v:Value) (o:Nat) (l:List Nat),qD wr B Z o v l→(∀c∈l,aX c)→l.length<100000→Hid (∀W,Below B wr W→B≤wr.heap.size→(∀k,Z k≠none→W.heap[k]? = wr.heap[k]?)→Calls Tryz.prog 98 #[v] W fun e w'=>∃ra rn rc,e=.returned (.agg #[.slice ra rn rc])∧zQ w' (.slice ra rn rc) l∧Below W.heap.size W w'):=fun v o l hv hc hl=>ae fun W _ _ hk=>by
    have h1:=hv.mono hk;refine (qp l (Sl.aT h1.1) (fH.aT h1.1) hc hl).mono ?_;rintro e w' ⟨r,he,ho,hb⟩;obtain ⟨a,c,rfl,_,_⟩:=az ho;exact ⟨a,_,c,he,aW ho (Nat.zero_le _),hb⟩
   have C8:=CH _ _ _ hO.w8 (fun c hc=>by
    rw [hsum.i8] at hc;obtain ⟨x,hx,hc⟩:=List.mem_flatMap.1 hc
    exact rT HV.out (hcode x hx) (List.mem_of_mem_drop hc)) (by rw [hsum.i8];have:=yj (fun c=>iR HV.out c) E;omega)
   have C9:=CH _ _ _ hO.w9 (fun c hc=>by
    rw [hsum.i9] at hc;obtain ⟨x,hx,rfl⟩:=List.mem_map.1 hc;obtain ⟨hx,hp⟩:=List.mem_filter.1 hx;obtain ⟨r,hr,e⟩:=hmem x hx;have hpr:=(hO.nP x hx).1 hp;rw [e] at hpr;have hfi:=HV.out.fine r hr;have hl2:=wQ HV.out.rise hr (by rw [hfi.2.2.2.1];decide) hpr;have hrm:bF T x.1=r.map:=by unfold bF;rw [e,jy HV.out.rise hr]
    rw [hrm,List.getD_eq_getElem?_getD,List.getElem?_eq_getElem (show 1<r.map.length by omega)]
    exact (hfi.2.2.2.2 _ (List.getElem_mem _)).2) (by rw [hsum.i9];have:=FK T E;omega)
   have C10:=CH _ _ _ hO.yl (fun c hc=>by
    rw [hsum.i10] at hc;obtain ⟨x,hx,rfl⟩:=List.mem_map.1 hc
    exact hcode x hx) (by rw [hsum.i10];unfold FJ;rw [List.length_map];omega)
   have UC:=ae (show ∀k,Z k≠none→kL wr k aM∧k<wr.heap.size from fun k hk=>⟨(hO.wk k hk).2,(hO.wk k hk).1⟩);have hD:=zR.of (X:=X) (T:=T) (by rw [←hnt];exact hO) hsum;have hpl:=hO.is.lt;have Xq:=hO.low.1;have HS2:=ae hsum;have hpT:=ae (fU hO.is);have hz0:∀(W:World),(Below wr.heap.size wr W)→∀k,Z k≠none→W.heap[k]? = wr.heap[k]?:=fun W h k hk=>h.block k (UC.out k hk).2;have HZ0:=ae hz0;have HT:=ae Vm.out;clear hO hsum hel hmem hcode CH ht hz0 hnt;go_wp2_with fail;refine (CK6.out wr (Below.refl _ _)).mono ?_;rintro e w31 ⟨cp,rfl,hcp,Sw⟩;go_wp2_with fail;refine (CK7.out w31 Sw).mono ?_;rintro e w32 ⟨pp,rfl,MX,Sy⟩;have Vy:=(hD.mono Sw).mono Sy;have hcp:=hcp.mono Sy;have hb2:=ag Sw Sy;have hz2:=HZ0.out _ hb2;have s2:=hb2.size;clear Sw Sy CK6 CK7 hD;have i2:=Vy.is;have q2:=i2.frozen 2;have q3:=i2.frozen 3;have e2:=i2.at 2 rfl;have e3:=i2.at 3 rfl;obtain ⟨Xr,L9⟩:=af ((w32.setCell ⟨p,2,none⟩ (.pointer (some ⟨cp,0,none⟩))).setCell ⟨p,3,none⟩ (.pointer (some ⟨pp,0,none⟩)));have Vz:=(Vy.put 2 (.pointer (some ⟨cp,0,none⟩)) rfl).put 3 (.pointer (some ⟨pp,0,none⟩)) rfl;have i2':=i2.set 2 (.pointer (some ⟨cp,0,none⟩));have VA:=(hcp.put i2 (show 10≤100 by omega) (o:=2) (.pointer (some ⟨cp,0,none⟩))).put i2' (show 10≤100 by omega) (o:=3) (.pointer (some ⟨pp,0,none⟩));have VB:=(MX.put i2 (show 10≤100 by omega) (o:=2) (.pointer (some ⟨cp,0,none⟩))).put i2' (show 10≤100 by omega) (o:=3) (.pointer (some ⟨pp,0,none⟩));have Sz:Below B wr Xr:=by rw [L9];exact aj (aj (hb2.mono (by omega)) Xq) Xq
   have Ze:∀k,Z k≠none→Xr.heap[k]? = wr.heap[k]?:=fun k hk=>by
    have hkp:k≠p:=fun e=>by
     have h1:=(UC.out k hk).1;rw [e] at h1;exact absurd (h1.one hpT.out) (by decide)
    rw [L9,heap_setCell_other _ ⟨p,3,none⟩ k _ (fun e=>hkp (e.symm▸rfl)),heap_setCell_other _ ⟨p,2,none⟩ k _ (fun e=>hkp (e.symm▸rfl))];exact hz2 k hk
   have s3:wr.heap.size≤Xr.heap.size:=by rw [L9];simpa using s2
   rw [←L9] at Vz VA VB;clear Vy hcp MX i2' hz2;go_wp2_with fail;rw [←L9];have VC:=ae Ze;clear L9 i2 q2 q3 e2 e3 Ze;refine (C8.out Xr Sz (by omega) VC.out).mono ?_;rintro e w34 ⟨O_,Pb,Pf,rfl,hiv,I5⟩;go_wp2_with fail;refine (C9.out w34 (Sz.trans (I5.mono (by omega))) (by omega) (fun k hk=>(I5.block k (by have:=(UC.out k hk).2;omega)).trans (VC.out k hk))).mono ?_;rintro e w35 ⟨Pg,Ph,Pj,rfl,hsv,VD⟩;have FQ:=ag I5 VD;go_wp2_with fail;refine (C10.out w35 (Sz.trans (FQ.mono (by omega))) (by omega) (fun k hk=>(FQ.block k (by have:=(UC.out k hk).2;omega)).trans (VC.out k hk))).mono ?_;rintro e w36 ⟨QI,QJ,QK,rfl,hmv,SA⟩;have Pk:=ag FQ SA;have VE:=Vz.mono Pk;have Zf:=VA.mono Pk;have Zg:=VB.mono Pk;have Zh:=hiv.mono (ag VD SA);have Zi:=hsv.mono SA;have hb6:Below B wr w36:=Sz.trans (Pk.mono (by omega));clear Vz VA VB hiv hsv I5 VD SA FQ Pk C8 C9 C10;have i6:=VE.is;have q7:=i6.frozen 7;have q8:=i6.frozen 8;have q9:=i6.frozen 9;have e7:=i6.at 7 rfl;have e8:=i6.at 8 rfl;have e9:=i6.at 9 rfl;have hfin:dZ (((w36.setCell ⟨p,7,none⟩ (.slice O_ Pb Pf)).setCell ⟨p,8,none⟩ (.slice Pg Ph Pj)).setCell ⟨p,9,none⟩ (.slice QI QJ QK)) p T X∧Below w.heap.size w (((w36.setCell ⟨p,7,none⟩ (.slice O_ Pb Pf)).setCell ⟨p,8,none⟩ (.slice Pg Ph Pj)).setCell ⟨p,9,none⟩ (.slice QI QJ QK)):=by
    have hBW:Below w.heap.size w (((w36.setCell ⟨p,7,none⟩ (.slice O_ Pb Pf)).setCell ⟨p,8,none⟩ (.slice Pg Ph Pj)).setCell ⟨p,9,none⟩ (.slice QI QJ QK)):=aj (aj (aj (hB4.trans ((hE.trans hb6).mono hle)) (by omega)) (by omega)) (by omega);have i7:=i6.set 7 (.slice O_ Pb Pf);have i8:=i7.set 8 (.slice Pg Ph Pj);obtain ⟨_,x',hv',_,hx'⟩:=HT.mono hBW;injection hv' with hv';have hxe:Value.slice xa nx xc=x':=by
     have:=congrArg (fun a:Array Value=>a.getD 1 undef) hv';simpa using this
    rw [←hxe] at hx';refine ⟨⟨E,rv,.slice xa nx xc,ev,B,jM,cp,pp,.slice O_ Pb Pf,.slice Pg Ph Pj,.slice QI QJ QK,((VE.put 7 (.slice O_ Pb Pf) rfl).put 8 (.slice Pg Ph Pj) rfl).put 9 (.slice QI QJ QK) rfl,((Zf.put i6 (show 10≤100 by omega) (o:=7) (.slice O_ Pb Pf)).put i7 (show 10≤100 by omega) (o:=8) (.slice Pg Ph Pj)).put i8 (show 10≤100 by omega) (o:=9) (.slice QI QJ QK),((Zg.put i6 (show 10≤100 by omega) (o:=7) (.slice O_ Pb Pf)).put i7 (show 10≤100 by omega) (o:=8) (.slice Pg Ph Pj)).put i8 (show 10≤100 by omega) (o:=9) (.slice QI QJ QK),?_,?_,?_,hx'⟩,hBW⟩
    ·rw [←HS2.out.i8];exact ((Zh.put i6 7 (.slice O_ Pb Pf)).put i7 8 (.slice Pg Ph Pj)).put i8 9 (.slice QI QJ QK)
    ·rw [←HS2.out.i9];exact ((Zi.put i6 7 (.slice O_ Pb Pf)).put i7 8 (.slice Pg Ph Pj)).put i8 9 (.slice QI QJ QK)
    ·rw [←HS2.out.i10];exact ((hmv.put i6 7 (.slice O_ Pb Pf)).put i7 8 (.slice Pg Ph Pj)).put i8 9 (.slice QI QJ QK)
   have L_:=ae hfin;clear hfin VE Zf Zg Zh Zi hmv i6;go_wp2_with fail;go_ret2;exact ⟨p,rfl,L_.out.1,L_.out.2⟩
end Go.Proofs.YtjidohgiigjifaaGreatDoor
