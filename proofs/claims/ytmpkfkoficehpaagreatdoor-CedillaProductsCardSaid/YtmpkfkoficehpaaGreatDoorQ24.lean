/- CedillaProducts: where a text may be cut apart, it has as many texts that are alike as its two parts multiplied; no condition. -/
import Derived.Test.YtmpkfkoficehpaaGreatDoorQ15
set_option maxRecDepth 100000
set_option maxHeartbeats 6400000
namespace Go.Proofs.YtmpkfkoficehpaaGreatDoor
open Go.RowKit Go.Cd
theorem addr_add (F o i:Nat):(⟨F,o,none⟩:Addr).add i=⟨F,o+i,none⟩:=by unfold Addr.add;split <;> simp_all
theorem tC.kept {W W':World} {Z Z':gG} {o:Nat} (hS:tC W Z o W' Z') (hz:Qi W Z) {k:Nat} {cs:Array Value} {T:TypeId} (h:Is W k cs T) (hne:aM≠T):W'.heap[k]? = W.heap[k]?:=
 hS.keep k h.lt fun e=>hne ((hz k (by rw [e];simp)).2.one (gL h))
theorem SV {w:World} {v:Value} {T:List aH} {X:List Nat} (h:oZ w v T X) (hV:aY T X) (hS:∀r∈T,r.cls≠0∨r.map≠[]) (hl:T.length<1000) (hX:X.length<10000) :
 Calls Tryz.prog 58 #[v] w fun e w'=>∃p,e=.returned (.tuple #[.pointer (some ⟨p,0,none⟩),.nilIface])∧b_ w' p T X∧Below w.heap.size w w':=by
 have hF:=rz hV (by omega);have Zf:=aa h;obtain ⟨rv,xv,he,hrows,_⟩:=id h;obtain ⟨ra,nt,rc,xa,nx,xc,rfl⟩:=h.shape;have ZX:rv=.slice ra nt rc:=by
  injection he with he;have:=congrArg (fun a:Array Value=>a.getD 0 undef) he;simpa using this.symm
 subst ZX;obtain ⟨a',cap',hre,_,hx⟩:=hrows;injection hre with e1 e2 e3;subst e1;subst e3;have tu:=aa e2;have HX:=aa hx;have HV:=aa hV;have HF:=aa hF;have HS:=aa hS;have CK:=aa (fun (W:World) (E:Below w.heap.size w W)=>Kt (h.mono E) hV (by omega) hX);rw [←e2] at hl;obtain ⟨w1,hw1⟩:=ae (w.alloc (.cells #[.slice ra nt rc,.slice xa nx xc] 95));have k1:Is w1 w.heap.size #[.slice ra nt rc,.slice xa nx xc] 95:=by rw [hw1];exact Is.new _ _ _
 have hb1:Below w.heap.size w w1:=by rw [hw1];exact af _
 have e0:=k1.at 0 rfl;have e1:=k1.at 1 rfl;clear h he hx hV hF hS e2;go_enter Tryz.func58,Tryz.ntmps58;go_wp2_with fail;rw [←hw1];clear hw1;refine (CK.out w1 hb1).mono ?_;rintro e w2 ⟨rfl,hb2⟩;have k2:=k1.mono hb2;have hB2:=ah hb1 hb2;clear e0 e1 CK;have hm1:∀W,(Instr.makeMap 98 none).run Tryz.prog W=.ok (.map (some W.heap.size)) (W.alloc (.map #[] 0)):=fun _=>rfl;have hm2:∀W,(Instr.makeMap 99 none).run Tryz.prog W=.ok (.map (some W.heap.size)) (W.alloc (.map #[] 0)):=fun _=>rfl;obtain ⟨B,hB⟩:=ae w2.heap.size;obtain ⟨w3,hw3⟩:=ae (((w2.alloc (.map #[] 0)).alloc (.map #[] 0)).alloc (.cells #[.slice none 0 0,.slice none 0 0,.pointer none,.pointer none,.slice none 0 0,.map (some w2.heap.size),.map (some (w2.heap.size+1)),.slice none 0 0,.slice none 0 0,.slice none 0 0] 101));have hb3:Below w2.heap.size w2 w3:=by
  rw [hw3];exact ah (ah (af _) (af _)) (af _)
 have m3:dC Tryz.prog 21 w3 B fun _ _=>False:=by
  rw [hw3,hB];exact ((dC.new w2 0).mono (af _)).mono (af _)
 have m4:dC Tryz.prog 192 w3 (B+1) fun _ _=>False:=by
  rw [hw3,hB];have:=dC.new (P:=Tryz.prog) (k:=192) (w2.alloc (.map #[] 0)) 0;rw [World.size_alloc] at this;exact this.mono (af _)
 have p3:Is w3 (B+2) #[.slice none 0 0,.slice none 0 0,.pointer none,.pointer none,.slice none 0 0,.map (some B),.map (some (B+1)),.slice none 0 0,.slice none 0 0,.slice none 0 0] 101:=by
  rw [hw3,hB];exact Is.new' _ _ _ _ (by simp)
 have k3:=k2.mono hb3;have hz3:w3.heap.size=B+3:=by rw [hw3,hB];simp
 have hB3:Below B w2 w3:=by rw [hB];exact hb3
 have hle:w.heap.size≤B:=by rw [hB];exact hB2.size
 have hlt:w.heap.size<B:=by rw [hB];exact k2.lt
 go_upto_region 5 with fail;rw [←hw3];rw [←hB];obtain ⟨p,hp⟩:=ae (B+2);obtain ⟨jM,hjM⟩:=ae (B+1);rw [show B+1+1=p from by omega,←hjM];rw [←hp,←hjM] at p3;rw [←hjM] at m4;have hp3:B<p∧B<jM∧jM≠p∧p<B+3∧jM<B+3:=by omega
 have HB:=aa hB;clear hw3 hB hb3 k2 hm1 hm2 hp hjM;have e0:=k3.at 1 rfl;have e1:=p3.at 1 rfl;have d1:=p3.frozen 1;obtain ⟨w4,hw4⟩:=ae (w3.setCell ⟨p,1,none⟩ (.slice xa nx xc));have p4:Is w4 p #[.slice none 0 0,.slice xa nx xc,.pointer none,.pointer none,.slice none 0 0,.map (some B),.map (some jM),.slice none 0 0,.slice none 0 0,.slice none 0 0] 101:=by rw [hw4];exact p3.set 1 _
 have k4:Is w4 w.heap.size #[.slice ra nt rc,.slice xa nx xc] 95:=by rw [hw4];exact k3.put (by omega) _
 have m34:=m3;have W_:w4.heap.size=B+3:=by rw [hw4,←hz3];simp
 have hB4:Below w.heap.size w w4:=by rw [hw4];exact aj (hB2.trans (hB3.mono hle)) (by omega)
 have hO:kM T X B p B jM w4 0 0 0 [] [] [] (fun _=>[]) (fun _ _=>False) (.slice none 0 0) (.slice none 0 0) (.slice none 0 0) (.slice none 0 0) (.slice none 0 0) (.slice none 0 0) (.slice xa nx xc) (.slice none 0 0) (fun _=>none) [] []:=by
  have g:=bQ w3 p 1 (.slice xa nx xc);rw [←hw4] at g
  exact ⟨p4,⟨[],rfl,World.ownsRow_nil _ _ _ _,by simp⟩,World.ownsRow_nil _ _ _ _,rfl,by simp,by simp,by simp,World.ownsRow_nil _ _ _ _,World.ownsRow_nil _ _ _ _,UC _ _ _,by omega,fun _ h=>absurd rfl h,fun _ h=>absurd rfl h,qC.nil _ _ _ _,qC.nil _ _ _ _,qC.nil _ _ _ _,
   ⟨_,mW m3 g (fun e=>by injection e with e;omega),fun _ _ h=>h.elim,fun _ _=>rfl⟩,mW m4 g (fun e=>by injection e with e;omega)⟩
 go_upto_region 6 with fail;rw [←hw4];clear hw4 e0 e1 d1 p3 k3 m3 m4 m34 p4 hB3 hB2;have e0:=k4.at 0 rfl;go_wp2_with fail;clear e0;go_loopw [6,7,8,9,10,33] (fun s6 s7 s8 s9 s10 iv wr=>∃j:Nat,j≤nt∧iv=.int .i64 j∧(∃rv ev Z E l8 l9 l10 bg jg,kM T X B p B jM wr j j j l8 l9 l10 bg jg s6 s7 s8 s9 s10 rv (.slice xa nx xc) ev Z E E∧KF T E l8 l9 l10 bg jg)∧Below B w4 wr) (fun _ _ _ _ _ iv _=>nt-(intOf iv).toNat)
 case atStart=>exact ⟨0,Nat.zero_le _,rfl,⟨_,_,_,_,_,_,_,_,_,hO,KF.nil T⟩,Below.refl _ _⟩
 case round=>
  clear hO;obtain ⟨j,hj,rfl,⟨rv,ev,Z,E,l8,l9,l10,bg,jg,hO,hsum⟩,hE⟩:=hrel;have hEj:E.length≤j:=by
   have:=congrArg List.length hO.lC;rw [List.length_map,List.length_map] at this;rw [this];exact Nat.le_trans (List.length_filter_le _ _) (by rw [List.length_take];omega)
  have sS:=aa hsum;have HEJ:=aa hEj;clear hsum hEj;by_cases hjn:j<nt
  ·have zj:decide ((j:Int)<(nt:Int))=true:=by simp;omega
   have hjl:j<T.length:=by have:=tu.out;omega
   have fo:=hB4.trans (hE.mono hle);obtain ⟨b,off,m,rfl,_,c0,c1,c2,hm,hpm⟩:=HX.out j hjl;have c0:=aA fo c0;have c1:=aA fo c1;have c2:=aA fo c2;have hmem:=List.getElem_mem hjl;have ui:=HV.out.fine _ hmem;have yS:=HS.out _ hmem;have HQ:=aa (show ∃q,q=T[j] from ⟨_,rfl⟩);obtain ⟨q,hq⟩:=HQ.out;rw [←hq] at c0 c1 hm ui yS;have XF:=aa hq;clear HQ hq hmem;obtain ⟨am,nm,cm,rfl,hpm⟩:=hpm;have hm5:=hm.mono fo;have hnm:nm=q.map.length:=by
    obtain ⟨_,_,e,_⟩:=hm;injection e with _ e _;rw [bA] at e;exact e
   have Pz:nm≤2:=by have:=ui.2.2.1;omega
   have qM:=aa hnm;have GG:q.cls≠0∨nm≠0:=yS.imp id fun h e=>h (List.length_eq_zero_iff.1 (hnm▸e));have hcls:q.cls<255:=ui.2.1;have hcode:q.code<1114112:=ui.1.1;have Uh:=aa ui;have HQM:=aa hm5;have HQ0:=aa hm;have XZ:=aa hpm;obtain ⟨w5,Ku⟩:=ae (wr.alloc (.cells #[.int .i32 q.code,.int .i64 q.cls,.slice am nm cm] 187));have k5:Is w5 wr.heap.size #[.int .i32 q.code,.int .i64 q.cls,.slice am nm cm] 187:=by rw [Ku];exact Is.new _ _ _
   have hb5:Below wr.heap.size wr w5:=by rw [Ku];exact af _
   have jI:Below B w4 w5:=hE.trans (hb5.mono (by have:=hE.size;omega));have hO5:=hO.mono hb5;have UM:w5.heap.size=wr.heap.size+1:=by rw [Ku];simp
   have SY:=aa (U2 (w:=w5) q.code q.cls nm cm am GG);obtain ⟨A,hA⟩:=ae wr.heap.size;rw [←hA] at k5 UM;have e0:=k5.at 0 rfl;have e1:=k5.at 1 rfl;have e2:=k5.at 2 rfl;have hAB:p<A:=by have:=hO.is.lt;omega
   have HRV:=aa (show ∀k,rv.ownBlock=some k→k<A from fun k hk=>by
    obtain ⟨_,_,hr,_⟩:=hO.rows;have:=(hr.lt k hk).2
    omega)
   clear hO yS GG hnm hm hm5 hpm ui;go_upto_region 11 with fail;rw [←Ku,←hA];clear Ku hA c0 c1 c2;go_upto_region 12 with (go_at_call 88;refine SY.out.mono ?_;rintro e w6 ⟨rfl,hb6⟩);clear e0 e1 e2 SY;have k6:=k5.mono hb6;have hO6:=hO5.mono hb6;have iM:Below B w4 w6:=jI.trans (hb6.mono (by omega));go_cut [33] from 33 to 161 (fun iv wx=>iv=.int .i64 j∧(∃rv',kM T X B p B jM wx (j+1) j j l8 l9 l10 bg jg u6 u7 u8 u9 u10 rv' (.slice xa nx xc) ev Z E E)∧Is wx A #[.int .i32 q.code,.int .i64 q.cls,.slice am nm cm] 187∧Below B w4 wx)
   case first=>
    have hA6:A<w6.heap.size:=k6.lt;have k7:=k6.mono (ag w6);have hO7:=hO6.mono (ag w6);have CL:=aa (fun (W:World) (E:Below w6.heap.size w6 W)=>jZ (w:=W) q.map (((HQM.out.mono (hb5.trans (hb6.mono hb5.size))).mono E)) ⟨_,_,_,rfl,XZ.out⟩ (by have:=qM.out;omega));rw [←qM.out] at CL;obtain ⟨R,_,hr,_⟩:=hO7.rows;obtain ⟨r1,r2,rfl,_,_⟩:=ak hr;have g0:=uW.keeps (S:=fun k=>k=p∨k=A) (hO7.is.at 0 rfl) (.inl rfl);have g1:=uW.keeps (S:=fun k=>k=p∨k=A) (k7.at 0 rfl) (.inr rfl);have g2:=uW.keeps (S:=fun k=>k=p∨k=A) (k7.at 1 rfl) (.inr rfl);have g3:=uW.keeps (S:=fun k=>k=p∨k=A) (k7.at 2 rfl) (.inr rfl);refine dY (KR.blocks fun k=>k=p∨k=A) #[true,true,true,true,true,true,true,true,true,true,true,true,true,true,true,true,true,true,true,false] 19 1 mixed (by rfl) ?_;refine dL [0,1,2,3,4,5,6,7,8,9,10,11] 7 rfl (by kernel_rfl) ?_
    iterate 12 (refine aB rfl ?_;go_big_quiet_step (rfl))
    refine az ?_;refine bV 12 (by kernel_rfl) rfl ?_;go_wp2_with fail;refine (CL.out w6.drew (ag w6)).mono ?_;rintro e w8 ⟨cv,rfl,hcv,iZ⟩;have hO8:=hO7.mono iZ;have k8:=k7.mono iZ;obtain ⟨ca,cc,rfl,_,_⟩:=ak hcv;go_wp2_with fail;refine bG (KR.of_below iZ iZ.size (fun k hk=>by have:=hO7.is.lt;have:=k7.lt;rcases hk with rfl|rfl <;> omega)) ?_;refine dL [13] 5 rfl (by kernel_rfl) ?_
    iterate 1 (refine aB rfl ?_;go_big_quiet_step (rfl))
    refine az ?_;refine bV 14 (by kernel_rfl) rfl ?_;go_wp2_with fail;refine bG (KR.of_below (af _) (by simp) (fun k hk=>by have:=hO8.is.lt;have:=k8.lt;rcases hk with rfl|rfl <;> omega)) ?_;obtain ⟨R,Yo,VQ,hR3⟩:=hO8.rows;refine bV 15 (by kernel_rfl) rfl ?_;refine DR (W:=w8) rfl _ _ 91 rfl B mV _ 3 40 GA (by decide) (by decide) (.slice r1 j r2) j _ rfl VQ _ rfl rfl (by simp [Value.oneCell']) (by omega) (by have:=hO8.is.lt;omega) ?_;intro v1 w9 o9 Ms JG;obtain ⟨s1,s2,rfl,_,_⟩:=ak o9;have tL:=af (w:=w8) (.cells #[.int .i32 q.code,.int .i64 q.cls,.slice ca nm cc] 187);have hO9:=hO8.mono tL;have k9:=k8.mono tL;have hr9:=aG VQ tL;have kne:(Value.slice r1 j r2).ownBlock≠some A:=fun e=>absurd (HRV.out A e) (Nat.lt_irrefl A);have k10:=k9.grown JG kne;have hfree:gH (w8.alloc (.cells #[.int .i32 q.code,.int .i64 q.cls,.slice ca nm cc] 187)) Z (.slice ca nm cc) q.map:=by
     refine ⟨?_,fun k hk=>hO7.fresh (hcv.lt k hk).1⟩;have:=aV (aG hcv tL) (Nat.zero_le _);rw [←qM.out];exact this
    have Jn:=hO9.Rh Yo hr9 (fun x hx=>(hR3 x hx).ext tL) (q:=q) (by rw [XF.out];exact List.getElem?_eq_getElem hjl) hfree o9 JG;have ZR:=(bD.bK hr9 JG).is hO9.is (by decide);go_wp2_with fail;refine bG (KR.bK (w:=w8.alloc (.cells #[.int .i32 q.code,.int .i64 q.cls,.slice ca nm cc] 187)) JG JG.size (fun k hk=>?_)) ?_
    ·rcases hk with rfl|rfl
     ·exact ⟨hO9.is.lt,hO9.is.other hr9 (by decide)⟩
     ·exact ⟨k9.lt,kne⟩
    refine dL [16,17,18] 0 rfl (by kernel_rfl) ?_
    iterate 3 (refine aB rfl ?_;go_big_quiet_step (rfl))
    refine az ?_;have e0:=ZR.at 0 rfl;have d0:=ZR.frozen 0;refine fM [19] (by kernel_rfl) ?_;refine tail_cons rfl ?_;go_wp2_with fail;refine tail_nil ?_;have jW:Below B w4 w8:=(iM.trans ((ag w6).mono (by omega))).trans (iZ.mono (by have:=hO7.is.lt;omega));have SX:Below B w4 (w9.setCell ⟨p,0,none⟩ (.slice s1 (j+1) s2)):=aj ((jW.trans (tL.mono (by have:=hO8.is.lt;omega))).grown JG (by have:=hO9.is.lt;omega) (fun k hk=>(hr9.lt k hk).1)) (by omega);have k11:=k10.put (show A≠p by omega) (o:=0) (.slice s1 (j+1) s2);obtain ⟨IW,YN⟩:=ae (w9.setCell ⟨p,0,none⟩ (.slice s1 (j+1) s2));rw [←YN] at SX k11 Jn ⊢;go_wp2_with fail;go_meet;exact ⟨rfl,⟨_,Jn⟩,k11,SX⟩
   case rest=>
    clear k5 k6 hO5 hO6 jI iM hb5 hb6 HRV;obtain ⟨rfl,⟨rv',Jn⟩,k11,SX⟩:=hcut;have hAp:A≠p:=by omega
    have e0:=k11.at 0 rfl;have e1:=k11.at 1 rfl;have e2:=k11.at 2 rfl;have agC:=k11.lt;have Uj:B≤wc.heap.size:=by omega
    go_upto_region 13 with fail;go_cut [6,33] from 33 to 161 (fun s6 iv wx=>iv=.int .i64 j∧kM T X B p B jM wx (j+1) (j+1) j l8 l9 l10 bg jg s6 u7 u8 u9 u10 rv' (.slice xa nx xc) ev Z E E∧Is wx A #[.int .i32 q.code,.int .i64 q.cls,.slice am nm cm] 187∧Below B w4 wx)
    case first=>
     go_wp2_with (refine n_ (W:=wc) rfl _ _ 185 rfl B 190 _ 2 8 Hf (by decide) (by decide) (by decide) (by decide) u6 j _ rfl Jn.cls _ rfl rfl (by simp [Value.oneCell']) (by omega) wc (Below.refl _ _) Uj ?_;intro v1 Ar o12 amE Zg agD)
     have Bj:=Jn.U0 (by
      rw [List.take_succ_eq_append_getElem hjl,←XF.out,y8,List.map_append,List.flatMap_append]
      exact o12) Zg agD
     have k12:=k11.grown Zg (fun e=>absurd ((bP Jn.cls e).one (gL k11)) (by decide));have EH:Below B w4 Ar:=SX.grown Zg Uj (fun k hk=>(Jn.cls.lt k hk).1);go_wp2_with fail;go_meet;exact ⟨rfl,Bj,k12,EH⟩
    case rest=>
     clear e0 e1 e2 k11 Jn SX agC Uj;obtain ⟨Ar,agE⟩:=ae wc;subst agE;obtain ⟨rfl,Bj,k12,EH⟩:=hcut;obtain ⟨v1,hv1⟩:=ae u6;subst hv1;have e2:=k12.at 2 rfl;by_cases acy:nm=0
     ·subst acy;have hqm:q.map=[]:=List.length_eq_zero_iff.1 qM.out.symm;have hE2:E.map (·.1)=(mapped (T.take (j+1))).map (·.code):=by
       rw [List.take_succ_eq_append_getElem hjl,←XF.out,mapped,List.filter_append,Bj.lC,mapped];simp [hqm]
      have S9:=aa (Bj.aba hE2);clear Bj hE2 hqm;go_wp2_with fail;go_roundw
      case rel=>exact ⟨j+1,by omega,by simp,⟨_,_,Z,E,_,_,_,_,_,S9.out,sS.out⟩,EH⟩
      case measure=>simp [intOf];omega
     ·have znm:((nm:Int)==0)=false:=by simp;omega
      go_upto_region 15 with fail;go_cut [13,33] from 33 to 161 (fun s13 iv wx=>∃C xV yl fa fc fn pb,s13=.pointer (some ⟨C,0,none⟩)∧iv=.int .i64 j∧Is wx C #[.slice xV nm yl,.slice fa fn fc,.bool pb] 86∧(pb=true↔Prim T X q.code)∧wx.ownsRow Ar.heap.size aM 1 (.slice xV nm yl) nm (aN q.map)∧fn=(aC T q.code).length∧wx.ownsRow Ar.heap.size aM 1 (.slice fa fn fc) fn (aN (aC T q.code))∧Below Ar.heap.size Ar wx∧Ar.heap.size≤C)
      case first=>
       have PD:=hB4.trans (EH.mono hle);have hqT:q∈T:=by rw [XF.out];exact List.getElem_mem hjl
       have CL:=aa (fun (W:World) (E:Below Ar.heap.size Ar W)=>jZ (w:=W) q.map (HQ0.out.mono (PD.trans (E.mono PD.size))) ⟨_,_,_,rfl,XZ.out⟩ (by have:=qM.out;omega));have FU:=aa (fun (W:World) (E:Below Ar.heap.size Ar W)=>NT (Zf.out.mono (PD.trans (E.mono PD.size))) HF.out q.code hcode (HV.out.full q hqT));have PR:=aa (fun (W:World) (E:Below Ar.heap.size Ar W)=>D5 (Zf.out.mono (PD.trans (E.mono PD.size))) HF.out hX q.code hcode);rw [←qM.out] at CL;have Z6:=aa (gI HV.out q.code);have k4w:=k4.low EH hlt;have e0:=k12.at 0 rfl;have e3:=k4w.at 0 rfl;have e4:=k4w.at 1 rfl;refine aF #[true,true,true,true,true,true,true,true,true,true,true,true,true,false] 13 1 mixed (by rfl) ?_;have PE:=ag Ar;have hg0:=Gr.cell PE e0;have hg2:=Gr.cell PE e2;have hg3:=Gr.cell PE e3;have hg4:=Gr.cell PE e4;refine ay [0,1,3,4,5,7,8,9] 5 rfl (by kernel_rfl) ?_
       iterate 8 (refine aB rfl ?_;go_big_quiet_step (rfl))
       refine az ?_;refine KP [12] (fun _ v W=>∃k,v=.pointer (some ⟨k,0,none⟩)∧W.heap[k]? = some (.cells #[.slice none 0 0,.slice none 0 0,.bool false] 86)) pJ 4 rfl (by kernel_rfl) (fun _ _ _ _ hb h=>uH hb h) ?_ ?_
       ·intro i hi o ho;simp only [List.mem_cons,List.not_mem_nil,or_false] at hi;subst hi;cases ho;exact uG rfl rfl (fun W=>by go_simp)
       refine nR 2 (by kernel_rfl) rfl ?_;intro s1v s1c;have s1D:=ah PE s1c;go_wp2_with fail;refine (CL.out _ s1D).mono ?_;rintro e s1w ⟨cv2,rfl,Zh,s1b⟩;obtain ⟨xV,yl,rfl,_,_⟩:=ak Zh;go_wp2_with fail;refine aD s1b ?_;have s1E:=ah s1D s1b;have acA:=aa (aV Zh (show Ar.heap.size≤s1v.heap.size from s1D.size));clear Zh;refine nR 6 (by kernel_rfl) rfl ?_;intro s2v s2c;have s2D:=ah s1E s2c;go_wp2_with fail;refine (FU.out _ s2D).mono ?_;rintro e s2w ⟨fv,rfl,hfv,s2b⟩;obtain ⟨fn,hfn⟩:=ae ((aC T q.code).length);have wC:=aa hfn;have acB:=aa (aV hfv (show Ar.heap.size≤s2v.heap.size from s2D.size));rw [←hfn] at hfv;obtain ⟨fa,fc,rfl,_,_⟩:=ak hfv;clear hfn hfv;go_wp2_with fail;refine aD s2b ?_;have s2E:=ah s2D s2b;refine nR 10 (by kernel_rfl) rfl ?_;intro s3v s3c;have s3D:=ah s2E s3c;go_wp2_with fail;refine (PR.out _ s3D).mono ?_;rintro e s3w ⟨pb,rfl,hpb,s3b⟩;go_wp2_with fail;refine aD s3b ?_;have s3E:=ah s3D s3b;have M_:=aa hpb;clear hpb;refine ng [11] 0 rfl (by kernel_rfl) ?_
       iterate 1 (refine aB rfl ?_;go_big_quiet_step (rfl))
       refine az ?_;refine pI [13] (by kernel_rfl) ?_;intro W Wb vs hR hD;have WE:=ah s3E Wb;obtain ⟨⟨C,hv1,Z7⟩,hN1,hb1⟩:=hR 12 (by simp);rw [hv1] at hN1 hb1;simp only [pJ] at hN1 hb1;rw [pK (d:=some 13) rfl,hv1];have kC:Is W C #[.slice none 0 0,.slice none 0 0,.bool false] 86:=⟨Z7⟩;have hCC:Ar.heap.size≤C:=hN1;have Be:=aa (aG acA.out (ah (ah (ah (ah s2c s2b) s3c) s3b) Wb));have XG:=aa (aG acB.out (ah (ah s3c s3b) Wb));clear hv1 Z7 hR hD hN1 hb1 s1D s1E s2D s2E s3D s3E s1b s1c s2b s2c s3b s3c PE acA acB e0 e2 e3 e4 hg0 hg2 hg3 hg4 CL FU PR;have f0:=kC.at 0 rfl;have f1:=kC.at 1 rfl;have f2:=kC.at 2 rfl;have q0:=kC.frozen 0;have q1:=kC.frozen 1;have q2:=kC.frozen 2;refine tail_cons rfl ?_;go_wp2_with fail;refine tail_nil ?_;obtain ⟨Ap,LJ⟩:=ae (((W.setCell ⟨C,0,none⟩ (.slice xV nm yl)).setCell ⟨C,1,none⟩ (.slice fa fn fc)).setCell ⟨C,2,none⟩ (.bool pb));have Wh:Is Ap C #[.slice xV nm yl,.slice fa fn fc,.bool pb] 86:=by rw [LJ];exact ((kC.set 0 _).set 1 _).set 2 _
       have b13:Below Ar.heap.size Ar Ap:=by rw [LJ];exact aj (aj (aj WE hCC) hCC) hCC
       have tr:∀{e:TypeId} {base n:Nat} {v:Value} {xs:List Value},e≠86→W.ownsRow base e 1 v n xs→Ap.ownsRow base e 1 v n xs:=by
        intro e base n v xs hne ho;rw [LJ];have c1:=bD.put (o:=0) kC (.slice xV nm yl);have c2:=bD.put (o:=1) (kC.set 0 (.slice xV nm yl)) (.slice fa fn fc);have c3:=bD.put (o:=2) ((kC.set 0 (.slice xV nm yl)).set 1 (.slice fa fn fc)) (.bool pb);exact c3.own (c2.own (c1.own ho hne) hne) hne
       have S_:=aa (tr (by decide) Be.out);have Wi:=aa (tr (by decide) XG.out);rw [←LJ];clear LJ tr f0 f1 f2 q0 q1 q2 kC WE Wb Be XG;go_wp2_with fail;go_meet;exact ⟨C,xV,yl,fa,fc,fn,pb,rfl,rfl,Wh,M_.out,S_.out,wC.out,wC.out▸Wi.out,b13,hCC⟩
      case rest=>
       obtain ⟨C,xV,yl,fa,fc,fn,pb,rfl,rfl,Wh,hpb,acE,hfn,acF,b13,hCC⟩:=hcut;have M_:=aa hpb;have S_:=aa acE;have wC:=aa hfn;have Wi:=aa acF;obtain ⟨Ap,LJ⟩:=ae wc;subst LJ;have k13:=k12.mono b13;have S9:=Bj.mono b13;have VE:Below B w4 Ap:=EH.trans (b13.mono (by have:=k12.lt;omega));have Oz:=k12.lt;clear hpb acE hfn acF;have HZ:=aa (show ∀k,(Value.slice fa fn fc).ownBlock=some k→Z k=none from fun k hk=>Bj.fresh (Wi.out.lt k hk).1);have HMZ:=aa (show ∀k,(Value.slice xV nm yl).ownBlock=some k→Z k=none from fun k hk=>Bj.fresh (S_.out.lt k hk).1);have HEV:=aa (show ∀k,ev.ownBlock=some k→k<Ar.heap.size from fun k hk=>(Bj.oC.lt k hk).2);clear k12 Bj EH b13 e2;go_upto_region 16 with fail;obtain ⟨ne,hne⟩:=ae E.length;have TS:=aa hne;have he:=S9.oC;rw [←hne] at he;obtain ⟨ea,ec,rfl,_,_⟩:=ak he;have agI:ne≤j:=by rw [hne];exact HEJ.out
       clear hne he;go_cut [33] from 33 to 161 (fun iv wx=>iv=.int .i64 j∧(∃s1 s2,kM T X B p B jM wx (j+1) (j+1) (j+1) l8 l9 l10 bg jg v1 u7 u8 u9 u10 rv' (.slice xa nx xc) (.slice s1 (ne+1) s2) Z (E++[(q.code,Value.slice xV nm yl,Value.slice fa fn fc,pb)]) E)∧Is wx A #[.int .i32 q.code,.int .i64 q.cls,.slice am nm cm] 187∧Is wx C #[.slice xV nm yl,.slice fa fn fc,.bool pb] 86∧Below B w4 wx)
       case first=>
        have amI:=k13.lt;have k14:=k13.mono (ag Ap);have Ta:=Wh.mono (ag Ap);have PG:=S9.mono (ag Ap);have g0:=uW.keeps (S:=fun k=>k=p∨k=C) (PG.is.at 4 rfl) (.inl rfl);have g1:=uW.keeps (S:=fun k=>k=p∨k=C) (Ta.at 0 rfl) (.inr rfl);have g2:=uW.keeps (S:=fun k=>k=p∨k=C) (Ta.at 1 rfl) (.inr rfl);have g3:=uW.keeps (S:=fun k=>k=p∨k=C) (Ta.at 2 rfl) (.inr rfl);refine dY (KR.blocks fun k=>k=p∨k=C) #[true,true,true,true,true,true,true,true,true,true,false] 10 1 mixed (by rfl) ?_;refine dL [0,1,2,3,4,5] 4 rfl (by kernel_rfl) ?_
        iterate 6 (refine aB rfl ?_;go_big_quiet_step (rfl))
        refine az ?_;refine bV 6 (by kernel_rfl) rfl ?_;go_wp2_with fail;refine bG (KR.of_below (af _) (by simp) (fun k hk=>by have:=PG.is.lt;have:=Ta.lt;rcases hk with rfl|rfl <;> omega)) ?_;have Zi:=PG.oC;rw [←TS.out] at Zi;refine bV 7 (by kernel_rfl) rfl ?_;refine DR (W:=Ap.drew) rfl _ _ 97 rfl B 86 _ 3 56 UY (by decide) (by decide) (.slice ea ne ec) ne _ rfl Zi _ rfl rfl (by simp [Value.oneCell']) (by omega) (by have:=PG.is.lt;omega) ?_;intro v15 w15 o15 amK LK;obtain ⟨s1,s2,rfl,_,_⟩:=ak o15;have Jo:=af (w:=Ap.drew) (.cells #[.slice xV nm yl,.slice fa fn fc,.bool pb] 86);have PH:=PG.mono Jo;have Wj:=aG Zi Jo;have acG:=Ta.mono Jo;have acH:(Value.slice ea ne ec).ownBlock≠some C:=fun e=>by have:=HEV.out C e;omega
        have agJ:(E++[(q.code,Value.slice xV nm yl,Value.slice fa fn fc,pb)]).map (·.1)=(mapped (T.take (j+1))).map (·.code):=by
         rw [List.take_succ_eq_append_getElem hjl,←XF.out,mapped,List.filter_append,List.map_append,List.map_append,PH.lC,mapped];have:q.map≠[]:=fun e=>acy (by rw [qM.out,e];rfl);simp [this]
        have hfull:(Ap.drew.alloc (.cells #[.slice xV nm yl,.slice fa fn fc,.bool pb] 86)).ownsRow 0 aM 1 (.slice fa fn fc) (aC T q.code).length (aN (aC T q.code)):=by
         have:=aV (aG (aG Wi.out (ag Ap)) Jo) (Nat.zero_le _);rw [←wC.out];exact this
        have acI:(Ap.drew.alloc (.cells #[.slice xV nm yl,.slice fa fn fc,.bool pb] 86)).ownsRow 0 aM 1 (.slice xV nm yl) (bL T q.code).length (aN (bL T q.code)):=by
         have e1:bL T q.code=q.map:=by unfold bL;rw [jX HV.out.rise (by rw [XF.out];exact List.getElem_mem hjl)]
         rw [e1,←qM.out];exact aV (aG (aG S_.out (ag Ap)) Jo) (Nat.zero_le _)
        have PI:=PH.Ri (ev':=.slice s1 (ne+1) s2) (x:=(q.code,Value.slice xV nm yl,Value.slice fa fn fc,pb)) (ZZ:=j+1) (by rw [←TS.out];exact o15) LK ⟨hfull,HZ.out⟩ ⟨acI,HMZ.out⟩ M_.out agJ;have p16:=(bD.bK Wj LK).is PH.is (by decide);have Tc:=acG.grown LK acH;have k16:=(k14.mono Jo).grown LK (fun e=>absurd ((bP Wj e).one (gL (k14.mono Jo))) (by decide));have Wl:Below B w4 (w15.setCell ⟨p,4,none⟩ (.slice s1 (ne+1) s2)):=aj (((VE.trans ((ag Ap).mono (by omega))).trans (Jo.mono (by have:=PG.is.lt;omega))).grown LK (by have:=PH.is.lt;omega) (fun k hk=>(Wj.lt k hk).1)) (by omega);have cc:=bD.put (o:=4) p16 (.slice s1 (ne+1) s2);have agK:=cc.is Tc (by decide);have k17:=cc.is k16 (by decide);go_wp2_with fail;refine bG (KR.bK (w:=Ap.drew.alloc (.cells #[.slice xV nm yl,.slice fa fn fc,.bool pb] 86)) LK LK.size (fun k hk=>?_)) ?_
        ·rcases hk with rfl|rfl
         ·exact ⟨PH.is.lt,PH.is.other Wj (by decide)⟩
         ·exact ⟨acG.lt,acH⟩
        refine dL [8,9] 0 rfl (by kernel_rfl) ?_
        iterate 2 (refine aB rfl ?_;go_big_quiet_step (rfl))
        refine az ?_;have e4:=p16.at 4 rfl;have d4:=p16.frozen 4;refine fM [10] (by kernel_rfl) ?_;refine tail_cons rfl ?_;go_wp2_with fail;refine tail_nil ?_;go_wp2_with fail;go_meet;exact ⟨rfl,⟨s1,s2,PI⟩,k17,agK,Wl⟩
       case rest=>
        clear k13 Wh S9 VE S_ HEV;obtain ⟨w16,hw16⟩:=ae wc;subst hw16;obtain ⟨rfl,⟨s1,s2,PI⟩,k16,Tc,Wl⟩:=hcut;obtain ⟨n1,hn1⟩:=ae (ne+1);obtain ⟨x,hx⟩:∃x:dZ,x=(q.code,Value.slice xV nm yl,Value.slice fa fn fc,pb):=⟨_,rfl⟩;rw [←hn1,←hx] at PI;have lD:=aa hx;have Zj:=aa hn1;have amL:n1<65536:=by omega
        have amM:ne<100000:=by omega
        have Uj:p<A∧A<w16.heap.size∧C<w16.heap.size:=⟨by omega,k16.lt,Tc.lt⟩;clear hx hn1 agI;go_upto_region 17 with fail;go_cut [7,33] from 33 to 161 (fun s7 iv wx=>iv=.int .i64 j∧kM T X B p B jM wx (j+1) (j+1) (j+1) l8 l9 l10 bg jg v1 s7 u8 u9 u10 rv' (.slice xa nx xc) (.slice s1 n1 s2) Z (E++[x]) (E++[x])∧Is wx A #[.int .i32 q.code,.int .i64 q.cls,.slice am nm cm] 187∧Is wx C #[.slice xV nm yl,.slice fa fn fc,.bool pb] 86∧Below B w4 wx)
        case first=>
         have PE:=ag w16;have hg0:=Gr.cell PE (k16.at 0 rfl);have hg1:=Gr.cell PE (PI.is.at 4 rfl);refine aF #[true,true,true,true,true,true,true,true,true,true,true,false,false] 11 2 mixed (by rfl) ?_;refine ay [0,1,2,3,4,5,6,7,8,9] 1 rfl (by kernel_rfl) ?_
         iterate 10 (refine aB rfl ?_;go_big_quiet_step (rfl))
         refine az ?_;refine aI 10 (by kernel_rfl) rfl ?_;go_wp2_with fail;refine aD (af _) ?_;have acJ:=PI.mono PE;have ho:=acJ.Qj;rw [←TS.out] at ho;refine aJ [11,12] (by kernel_rfl) ?_;refine tail_cons rfl ?_;refine n_ (W:=w16.drew) rfl _ _ 185 rfl B 190 _ 2 8 Hf (by decide) (by decide) (by decide) (by decide) u7 ne _ rfl ho #[.int .i32 (q.code:Nat),.int .u16 (n1:Nat)] rfl rfl (by simp [Value.oneCell']) (by omega) w16.drew (Below.refl _ _) (by simp;omega) ?_;intro v7 xW o18 amO Zk agL
         have PK:=acJ.U1 (Ep':=E++[x]) (by
          rw [Oe,List.flatMap_append,List.length_append,←TS.out,lD.out,←Zj.out];rw [Zj.out];have e:List.flatMap cellC [(q.code,n1)]=[.int .i32 (q.code:Nat),.int .u16 (n1:Nat)]:=rfl;rw [←Zj.out,e]
          exact o18) Zk agL
         have c1:=bD.bK ho Zk;have Wm:Below B w4 xW:=(Wl.trans (PE.mono (by omega))).grown Zk (by simp;omega) (fun k hk=>(ho.lt k hk).1);refine tail_cons rfl ?_;go_wp2_with fail;refine tail_nil ?_;go_wp2_with fail;go_meet;exact ⟨rfl,PK,c1.is (k16.mono PE) (by decide),c1.is (Tc.mono PE) (by decide),Wm⟩
        case rest=>
         clear PI k16 Tc Wl;obtain ⟨xW,agM⟩:=ae wc;subst agM;obtain ⟨v7,hv7⟩:=ae u7;subst hv7;obtain ⟨rfl,PK,k18,Wn,Wm⟩:=hcut;have Uj:p<A∧A<xW.heap.size∧C<xW.heap.size:=⟨by omega,k18.lt,Wn.lt⟩;have HFN:=aa (x9 T q.code);have hxf:x.2.2.1=.slice fa fn fc∧x.1=q.code:=by rw [lD.out];exact ⟨rfl,rfl⟩
         have Qn:=aa hxf;clear hxf;obtain ⟨F,hfa,hfF,c0,UA,YT,hFu⟩:∃F,fa=some ⟨F,0,none⟩∧F<xW.heap.size∧∃c0,Hid (aP c0∧(aC T q.code).head? = some c0)∧Hid (lQ xW F aM∧Z F=none)∧xW.cell? ⟨F,0,none⟩=some (.int .i32 (c0:Nat)):=by
          obtain ⟨f1,f2⟩:=PK.full x (by simp);rw [Qn.out.1,Qn.out.2,←wC.out] at f1;rw [Qn.out.1] at f2;have hpos:0<fn:=by rw [wC.out];exact List.length_pos_iff.2 HFN.out
          obtain ⟨F,cap,e,_,_,hl,hc,hcell⟩:=dw f1 hpos;injection e with e1 e2 e3;have hpos':0<(aC T q.code).length:=wC.out▸hpos;refine ⟨F,e1,hl,(aC T q.code)[0],aa ⟨mY HV.out Uh.out.1 (List.getElem_mem hpos'),by rw [List.head?_eq_getElem?];exact List.getElem?_eq_getElem hpos'⟩,aa ⟨hc,f2 F (by rw [e1];rfl)⟩,hcell 0 _ ?_⟩;rw [List.getElem?_eq_getElem (by simpa using hpos'),dM]
         subst hfa;go_upto_region 18 with fail;go_cut [33] from 33 to 161 (fun iv wx=>iv=.int .i64 j∧(∃Z',kM T X B p B jM wx (j+1) (j+1) (j+1) l8 l9 l10 (fun c=>if c=c0 then bg c0++[q.code] else bg c) jg v1 v7 u8 u9 u10 rv' (.slice xa nx xc) (.slice s1 n1 s2) Z' (E++[x]) (E++[x]))∧Is wx A #[.int .i32 q.code,.int .i64 q.cls,.slice am nm cm] 187∧Is wx C #[.slice xV nm yl,.slice (some ⟨F,0,none⟩) fn fc,.bool pb] 86∧Below B w4 wx)
         case first=>
          have hc0:c0<1114112:=UA.out.1.1;have hkey:=x8 c0 (by omega);have PM:=PK.mono (ag xW);obtain ⟨G,hG,hG2,hG3⟩:=PM.bm;obtain ⟨uv,huw,Jc⟩:∃uv,qC xW.drew B Z (c0+3) uv (bg c0)∧(((∀v,¬G (.int .i32 c0) v)∧uv=.slice none 0 0)∨G (.int .i32 c0) uv):=by
           by_cases hg:∃v,G (.int .i32 c0) v
           ·obtain ⟨v,hv⟩:=hg;obtain ⟨c,e,hw⟩:=hG2 _ _ hv;have:c=c0:=by injection e with _ e;omega
            subst this;exact ⟨v,hw,.inr hv⟩
           ·have hno:∀u,¬G (.int .i32 c0) u:=fun u hu=>hg ⟨u,hu⟩;exact ⟨_,by rw [hG3 c0 hno];exact qC.nil _ _ _ _,.inl ⟨hno,rfl⟩⟩
          have HG2:=aa hG2;have HG3:=aa hG3;have hbl:(bg c0).length≤j:=by rw [sS.out.ib];exact Nat.le_trans (Re _ _ _) HEJ.out
          have hz:=fun W=>Tryz.zeroValue52 W;have hcF:=aA (ag xW) hFu;have g0:=uW.keeps (S:=fun k=>k=p∨k=A∨k=C∨k=F∨k=B) (PM.is.at 5 rfl) (.inl rfl);have g1:=uW.keeps (S:=fun k=>k=p∨k=A∨k=C∨k=F∨k=B) ((k18.mono (ag xW)).at 0 rfl) (.inr (.inl rfl));have g2:=uW.keeps (S:=fun k=>k=p∨k=A∨k=C∨k=F∨k=B) ((Wn.mono (ag xW)).at 1 rfl) (.inr (.inr (.inl rfl)));have g3:=uW.keeps (S:=fun k=>k=p∨k=A∨k=C∨k=F∨k=B) hcF (.inr (.inr (.inr (.inl rfl))));have acK:0<fn:=by rw [wC.out];exact List.length_pos_iff.2 HFN.out
          clear hG2 hG3;refine dY (KR.blocks fun k=>k=p∨k=A∨k=C∨k=F∨k=B) #[true,true,true,true,true,true,true,true,true,true,true,true,true,true,true,true,true,true,true,true,true,false] 21 1 mixed (by rfl) ?_;refine dL [0,1,2,3,4,5,6,7,8,9,10,11,12,13,14,15,16,17,18] 2 rfl (by kernel_rfl) ?_
          iterate 16 (refine aB rfl ?_;go_big_quiet_step (rfl))
          refine aB rfl ?_;refine y7 rfl ?_;refine wY _ _ 98 52 rfl jB Tryz.underlying98 hG (.inr (.inr (.inr (.inr rfl)))) rfl rfl hkey hz uv Jc ?_;simp only [Act.put,List.setIfInBounds_toArray,List.set_cons_succ,List.set_cons_zero]
          iterate 2 (refine aB rfl ?_;go_big_quiet_step (rfl))
          refine az ?_;have Bn:=af (w:=xW.drew) (.cells #[.int .i32 (q.code:Nat)] aM);have LM:=PM.mono Bn;have k20:=(k18.mono (ag xW)).mono Bn;have acL:=(Wn.mono (ag xW)).mono Bn;have hE20:Below B w4 (xW.drew.alloc (.cells #[.int .i32 (q.code:Nat)] aM)):=(Wm.trans ((ag xW).mono (by omega))).trans (Bn.mono (by simp;omega));have XH:qC (xW.drew.alloc (.cells #[.int .i32 (q.code:Nat)] aM)) B Z (c0+3) uv (bg c0):=huw.mono fun k hk=>Bn.block k (PM.wk k hk).1;refine bV 19 (by kernel_rfl) rfl ?_;go_wp2_with fail;refine bG (KR.of_below Bn Bn.size (fun k hk=>by have:=PM.is.lt;have:xW.drew.heap.size=xW.heap.size:=rfl;rcases hk with rfl|rfl|rfl|rfl|rfl <;> omega)) ?_;refine bV 20 (by kernel_rfl) rfl ?_;refine lS (W:=xW.drew.alloc (.cells #[.int .i32 (q.code:Nat)] aM)) rfl _ _ 52 rfl B aM (.int .i32 0) 4 bT (by decide) (v:=uv) rfl XH.1 (by simp;omega) [.int .i32 (q.code:Nat)] (by simp [Value.oneCell']) ⟨xW.drew.heap.size,0,none⟩ 1 1 rfl rfl (fun i u hi=>?_) (by omega) ?_
          ·rcases i with _|i
           ·cases hi;exact (Is.new xW.drew _ aM).at 0 rfl
           ·cases hi
          intro v21 w21 o21 acM acN;obtain ⟨Z',hS,agN⟩:=tC.iL (l':=bg c0++[q.code]) LM.wk XH (by rw [aZ,List.length_append];exact o21) acM acN
          have hH:=LM.pushB hS agN (hG.mono Bn) (fun x u hx=>by
           obtain ⟨c,e,hw⟩:=HG2.out x u hx
           exact ⟨c,e,hw.mono fun k hk=>Bn.block k (PM.wk k hk).1⟩) HG3.out
          have c21:=hS.iD LM.wk;have k21:=c21.is k20 (by decide);have acO:=c21.is acL (by decide);have agO:Below B w4 w21:=hE20.trans (hS.below LM.zb (by simp;omega));have HH:=aa hH;have amT:=aa hS;clear hH o21 acM acN;go_wp2_with fail;refine bG ⟨fun k hk=>hS.keep k (by have:=LM.is.lt;simp;rcases hk with rfl|rfl|rfl|rfl|rfl <;> omega) (fun hz=>?_),hS.size⟩ ?_
          ·have hcz:=(LM.wk k (by rw [hz];simp)).2;rcases hk with rfl|rfl|rfl|rfl|rfl
           ·exact absurd (hcz.one (gL LM.is)) (by decide)
           ·exact absurd (hcz.one (gL k20)) (by decide)
           ·exact absurd (hcz.one (gL acL)) (by decide)
           ·rw [YT.out.2] at hz;cases hz
           ·exact mX (hG.mono Bn) hcz
          refine fM [21] (by kernel_rfl) ?_;refine tail_cons rfl ?_;refine jy (xv:=.int .i32 c0) (vv:=v21) rfl _ _ _ 98 52 rfl jB Tryz.underlying98 HH.out.map rfl rfl rfl hkey ?_;intro qb agP Wo;have Td:=HH.out.st qb agP Wo (by omega);have k22:=dN k21 (Wo.block A k21.lt (fun e=>by injection e with e;omega));have Te:=dN acO (Wo.block C acO.lt (fun e=>by injection e with e;have:=PK.low;omega));have Wp:Below B w4 qb:=agO.grown Wo (by have:=k21.lt;omega) (fun k hk=>by injection hk with hk;omega);go_wp2_with fail;refine tail_nil ?_;go_wp2_with fail;go_meet;exact ⟨rfl,⟨_,Td⟩,k22,Te,Wp⟩
         case rest=>
          clear PK k18 Wn Wm hFu hfF YT;obtain ⟨qb,agQ⟩:=ae wc;subst agQ;obtain ⟨rfl,⟨Z2,Td⟩,k22,Te,Wp⟩:=hcut;have Uj:p<A∧A<qb.heap.size∧C<qb.heap.size:=⟨by omega,k22.lt,Te.lt⟩;obtain ⟨bg2,Zl⟩:∃bg2:Nat→List Nat,bg2=fun c=>if c=c0 then bg c0++[q.code] else bg c:=⟨_,rfl⟩;rw [←Zl] at Td;have agR:=aa Zl;clear Zl;go_upto_region 19 with fail;go_cut [8,10,33] from 33 to 161 (fun s8 s10 iv wx=>iv=.int .i64 j∧(∃Z',kM T X B p B jM wx (j+1) (j+1) (j+1) (l8++(aC T q.code).drop 1) l9 (l10++[q.code]) bg2 jg v1 v7 s8 u9 s10 rv' (.slice xa nx xc) (.slice s1 n1 s2) Z' (E++[x]) (E++[x]))∧Is wx A #[.int .i32 q.code,.int .i64 q.cls,.slice am nm cm] 187∧Is wx C #[.slice xV nm yl,.slice (some ⟨F,0,none⟩) fn fc,.bool pb] 86∧Below B w4 wx)
          case first=>
           have acK:0<fn:=by rw [wC.out];exact List.length_pos_iff.2 HFN.out
           have nW:=Td.mono (ag qb);have k23:=k22.mono (ag qb);have LP:=Te.mono (ag qb);have g1:=uW.keeps (S:=fun k=>k=A∨k=C) (k23.at 0 rfl) (.inl rfl);have g2:=uW.keeps (S:=fun k=>k=A∨k=C) (LP.at 1 rfl) (.inr rfl);obtain ⟨hfc,HCE⟩:fn≤fc∧Hid (∀i u,(aN (aC T q.code))[i]? = some u→qb.drew.cell? ⟨F,i,none⟩=some u):=by
            obtain ⟨f1,f2⟩:=nW.full x (by simp);rw [Qn.out.1,Qn.out.2,←wC.out] at f1;obtain ⟨F',cap,e,hc,_,_,_,hcell⟩:=dw f1 acK;injection e with e1 _ e3;injection e1 with e1;injection e1 with e1;subst e1;subst e3;exact ⟨hc,aa hcell⟩
           have hl8:l8.length≤31*j:=by rw [sS.out.i8];exact Nat.le_trans (y_ (fun c=>gI HV.out c) E) (Nat.mul_le_mul_left _ HEJ.out)
           have amU:l10.length≤j:=by rw [sS.out.i10];unfold Ho;rw [List.length_map];exact HEJ.out
           have ajr:fn≤32:=by rw [wC.out];exact gI HV.out _
           have Yq:=aa (show (aN ((aC T q.code).drop 1)).length=fn-1 from by rw [bA,List.length_drop,←wC.out]);have HL8:=aa (show (l8++(aC T q.code).drop 1).length=l8.length+(fn-1) from by rw [List.length_append,List.length_drop,←wC.out]);have Wq:Below B w4 qb.drew:=Wp.trans ((ag qb).mono (by omega));by_cases hf1:fc=1
           ·subst hf1;obtain rfl:fn=1:=by omega
            refine dY (KR.blocks fun k=>k=A∨k=C) #[true,true,true,true,true,true,true,true,true,true,false,false] 10 2 mixed (by rfl) ?_;refine dL [0,1,2,3,5,6,7] 3 rfl (by kernel_rfl) ?_
            iterate 7 (refine aB rfl ?_;go_big_quiet_step (rfl))
            refine az ?_;refine MC 4 8 (by kernel_rfl) rfl rfl ?_ ?_
            ·refine lS (W:=qb.drew) rfl _ _ 52 rfl B aM (.int .i32 0) 4 bT (by decide) (v:=u8) rfl nW.w8.1 (by simp;omega) (aN ((aC T q.code).drop 1)) (fU _) ⟨F,0,none⟩ 0 0 Yq.out.symm rfl (fun i u hi=>absurd (List.getElem?_eq_some_iff.1 hi).1 (by have:=Yq.out;omega)) (by omega) ?_;intro v24 LQ o24 Tf Tg;obtain ⟨Z3,Ae,hv24⟩:=tC.iL (l':=l8++(aC T q.code).drop 1) nW.wk nW.w8 (by rw [HL8.out,aZ];exact o24) Tf Tg;have nX:=nW.MF Ae hv24;have kA:=Ae.kept nW.wk k23 (by decide);have kC:=Ae.kept nW.wk LP (by decide);have k24:=dN k23 kA;have Fa:=dN LP kC;have LV:Below B w4 LQ:=Wq.trans (Ae.below nW.zb (by simp;omega));have Ti:=Ae.size;have acQ:qb.heap.size≤LQ.heap.size:=Ti;clear o24 Tf Tg;go_wp2_with fail;refine bG ⟨fun k hk=>hk.elim (fun h=>by rw [h];exact kA) (fun h=>by rw [h];exact kC),Ti⟩ ?_;have wD:=af (w:=LQ) (.cells #[.int .i32 (q.code:Nat)] aM);have g_:=nX.mono wD;have k25:=k24.mono wD;have Af:=Fa.mono wD;have LW:Below B w4 (LQ.alloc (.cells #[.int .i32 (q.code:Nat)] aM)):=LV.trans (wD.mono (by omega));refine bV 8 (by kernel_rfl) rfl ?_;go_wp2_with fail;refine bG (KR.of_below wD wD.size (fun k hk=>by rcases hk with rfl|rfl <;> omega)) ?_;refine bV 9 (by kernel_rfl) rfl ?_;refine lS (W:=LQ.alloc (.cells #[.int .i32 (q.code:Nat)] aM)) rfl _ _ 52 rfl B aM (.int .i32 0) 4 bT (by decide) (v:=u10) rfl g_.xJ.1 (by simp;omega) [.int .i32 (q.code:Nat)] (by simp [Value.oneCell']) ⟨LQ.heap.size,0,none⟩ 1 1 rfl rfl (fun i u hi=>?_) (by omega) ?_
             ·rcases i with _|i
              ·cases hi;exact (Is.new LQ _ aM).at 0 rfl
              ·cases hi
             intro v26 uX Tj Ag Ah;obtain ⟨Z4,kT,LZ⟩:=tC.iL (l':=l10++[q.code]) g_.wk g_.xJ (by rw [aZ,List.length_append];exact Tj) Ag Ah;have uQ:=g_.D8 kT LZ;have kA2:=kT.kept g_.wk k25 (by decide);have Tk:=kT.kept g_.wk Af (by decide);have k26:=dN k25 kA2;have sV:=dN Af Tk;have Ai:Below B w4 uX:=LW.trans (kT.below g_.zb (by simp;omega));have L6:=kT.size;clear Tj Ag Ah;go_wp2_with fail;refine bG ⟨fun k hk=>hk.elim (fun h=>by rw [h];exact kA2) (fun h=>by rw [h];exact Tk),L6⟩ ?_;refine fM [10,11] (by kernel_rfl) ?_;refine tail_cons rfl ?_;go_wp2_with fail;refine tail_nil ?_;go_wp2_with fail;go_meet;exact ⟨rfl,⟨Z4,uQ⟩,k26,sV,Ai⟩
            ·go_wp2_with fail;have uS:=af (w:=qb.drew) (.cells #[.int .i32 (q.code:Nat)] aM);have nX:=nW.mono uS;have k24:=k23.mono uS;have Fa:=LP.mono uS;have LV:Below B w4 (qb.drew.alloc (.cells #[.int .i32 (q.code:Nat)] aM)):=Wq.trans (uS.mono (by show B≤qb.heap.size;omega));refine bG (KR.of_below uS uS.size (fun k hk=>by rcases hk with rfl|rfl <;> (show _<qb.heap.size;omega))) ?_;have kN:=Is.new qb.drew #[.int .i32 (q.code:Nat)] aM;have HZN:=aa (nW.fresh (Nat.le_refl qb.drew.heap.size));refine bV 4 (by kernel_rfl) rfl ?_;refine lS (W:=qb.drew.alloc (.cells #[.int .i32 (q.code:Nat)] aM)) rfl _ _ 52 rfl B aM (.int .i32 0) 4 bT (by decide) (v:=u8) rfl nX.w8.1 (by simp;omega) (aN ((aC T q.code).drop 1)) (fU _) ⟨F,0,none⟩ 0 0 Yq.out.symm rfl (fun i u hi=>absurd (List.getElem?_eq_some_iff.1 hi).1 (by have:=Yq.out;omega)) (by omega) ?_;intro v25 Zm o25 Tm Tn;obtain ⟨Z3,wF,hv25⟩:=tC.iL (l':=l8++(aC T q.code).drop 1) nX.wk nX.w8 (by rw [HL8.out,aZ];exact o25) Tm Tn;have g_:=nX.MF wF hv25;have kA:=wF.kept nX.wk k24 (by decide);have kC:=wF.kept nX.wk Fa (by decide);have k25:=dN k24 kA;have Af:=dN Fa kC;have kN2:=dN kN (wF.keep _ kN.lt (by rw [HZN.out];simp));have LW:Below B w4 Zm:=LV.trans (wF.below nX.zb (by simp;omega));have Tp:=wF.size;have acS:qb.heap.size+1≤Zm.heap.size:=by simpa using Tp
             clear o25 Tm Tn;go_wp2_with fail;refine bG ⟨fun k hk=>hk.elim (fun h=>by rw [h];exact kA) (fun h=>by rw [h];exact kC),Tp⟩ ?_;refine bV 9 (by kernel_rfl) rfl ?_;refine lS (W:=Zm) rfl _ _ 52 rfl B aM (.int .i32 0) 4 bT (by decide) (v:=u10) rfl g_.xJ.1 (by omega) [.int .i32 (q.code:Nat)] (by simp [Value.oneCell']) ⟨qb.drew.heap.size,0,none⟩ 1 1 rfl rfl (fun i u hi=>?_) (by omega) ?_
             ·rcases i with _|i
              ·cases hi;exact kN2.at 0 rfl
              ·cases hi
             intro v26 uX Tj Ag Ah;obtain ⟨Z4,kT,LZ⟩:=tC.iL (l':=l10++[q.code]) g_.wk g_.xJ (by rw [aZ,List.length_append];exact Tj) Ag Ah;have uQ:=g_.D8 kT LZ;have kA2:=kT.kept g_.wk k25 (by decide);have Tk:=kT.kept g_.wk Af (by decide);have k26:=dN k25 kA2;have sV:=dN Af Tk;have Ai:Below B w4 uX:=LW.trans (kT.below g_.zb (by omega));have L6:=kT.size;clear Tj Ag Ah;go_wp2_with fail;refine bG ⟨fun k hk=>hk.elim (fun h=>by rw [h];exact kA2) (fun h=>by rw [h];exact Tk),L6⟩ ?_;refine fM [10,11] (by kernel_rfl) ?_;refine tail_cons rfl ?_;go_wp2_with fail;refine tail_nil ?_;go_wp2_with fail;go_meet;exact ⟨rfl,⟨Z4,uQ⟩,k26,sV,Ai⟩
           ·refine dY (KR.blocks fun k=>k=A∨k=C) #[true,true,true,true,true,true,true,true,true,true,false,false] 10 2 mixed (by rfl) ?_;refine dL [0,1,2,3,5,6,7] 3 rfl (by kernel_rfl) ?_
            iterate 7 (refine aB rfl ?_;go_big_quiet_step (rfl))
            refine az ?_;refine MC 4 8 (by kernel_rfl) rfl rfl ?_ ?_
            ·refine lS (W:=qb.drew) rfl _ _ 52 rfl B aM (.int .i32 0) 4 bT (by decide) (v:=u8) rfl nW.w8.1 (by simp;omega) (aN ((aC T q.code).drop 1)) (fU _) ⟨F,1,none⟩ (fn-1) (fc-1) Yq.out.symm rfl (fun i u hi=>by
              have e0:=addr_add F 1 i;rw [e0]
              exact HCE.out (1+i) u (by rw [←hi,BK,List.getElem?_drop])) (by omega) ?_
             intro v24 LQ o24 Tf Tg;obtain ⟨Z3,Ae,hv24⟩:=tC.iL (l':=l8++(aC T q.code).drop 1) nW.wk nW.w8 (by rw [HL8.out,aZ];exact o24) Tf Tg;have nX:=nW.MF Ae hv24;have kA:=Ae.kept nW.wk k23 (by decide);have kC:=Ae.kept nW.wk LP (by decide);have k24:=dN k23 kA;have Fa:=dN LP kC;have LV:Below B w4 LQ:=Wq.trans (Ae.below nW.zb (by simp;omega));have Ti:=Ae.size;have acQ:qb.heap.size≤LQ.heap.size:=Ti;clear o24 Tf Tg;go_wp2_with fail;refine bG ⟨fun k hk=>hk.elim (fun h=>by rw [h];exact kA) (fun h=>by rw [h];exact kC),Ti⟩ ?_;have wD:=af (w:=LQ) (.cells #[.int .i32 (q.code:Nat)] aM);have g_:=nX.mono wD;have k25:=k24.mono wD;have Af:=Fa.mono wD;have LW:Below B w4 (LQ.alloc (.cells #[.int .i32 (q.code:Nat)] aM)):=LV.trans (wD.mono (by omega));refine bV 8 (by kernel_rfl) rfl ?_;go_wp2_with fail;refine bG (KR.of_below wD wD.size (fun k hk=>by rcases hk with rfl|rfl <;> omega)) ?_;refine bV 9 (by kernel_rfl) rfl ?_;refine lS (W:=LQ.alloc (.cells #[.int .i32 (q.code:Nat)] aM)) rfl _ _ 52 rfl B aM (.int .i32 0) 4 bT (by decide) (v:=u10) rfl g_.xJ.1 (by simp;omega) [.int .i32 (q.code:Nat)] (by simp [Value.oneCell']) ⟨LQ.heap.size,0,none⟩ 1 1 rfl rfl (fun i u hi=>?_) (by omega) ?_
             ·rcases i with _|i
              ·cases hi;exact (Is.new LQ _ aM).at 0 rfl
              ·cases hi
             intro v26 uX Tj Ag Ah;obtain ⟨Z4,kT,LZ⟩:=tC.iL (l':=l10++[q.code]) g_.wk g_.xJ (by rw [aZ,List.length_append];exact Tj) Ag Ah;have uQ:=g_.D8 kT LZ;have kA2:=kT.kept g_.wk k25 (by decide);have Tk:=kT.kept g_.wk Af (by decide);have k26:=dN k25 kA2;have sV:=dN Af Tk;have Ai:Below B w4 uX:=LW.trans (kT.below g_.zb (by simp;omega));have L6:=kT.size;clear Tj Ag Ah;go_wp2_with fail;refine bG ⟨fun k hk=>hk.elim (fun h=>by rw [h];exact kA2) (fun h=>by rw [h];exact Tk),L6⟩ ?_;refine fM [10,11] (by kernel_rfl) ?_;refine tail_cons rfl ?_;go_wp2_with fail;refine tail_nil ?_;go_wp2_with fail;go_meet;exact ⟨rfl,⟨Z4,uQ⟩,k26,sV,Ai⟩
            ·go_wp2_with fail;have uS:=af (w:=qb.drew) (.cells #[.int .i32 (q.code:Nat)] aM);have nX:=nW.mono uS;have k24:=k23.mono uS;have Fa:=LP.mono uS;have LV:Below B w4 (qb.drew.alloc (.cells #[.int .i32 (q.code:Nat)] aM)):=Wq.trans (uS.mono (by show B≤qb.heap.size;omega));refine bG (KR.of_below uS uS.size (fun k hk=>by rcases hk with rfl|rfl <;> (show _<qb.heap.size;omega))) ?_;have kN:=Is.new qb.drew #[.int .i32 (q.code:Nat)] aM;have HZN:=aa (nW.fresh (Nat.le_refl qb.drew.heap.size));refine bV 4 (by kernel_rfl) rfl ?_
             refine lS (W:=qb.drew.alloc (.cells #[.int .i32 (q.code:Nat)] aM)) rfl _ _ 52 rfl B aM (.int .i32 0) 4 bT (by decide) (v:=u8) rfl nX.w8.1 (by simp;omega) (aN ((aC T q.code).drop 1)) (fU _) ⟨F,1,none⟩ (fn-1) (fc-1) Yq.out.symm rfl (fun i u hi=>by
              have e0:=addr_add F 1 i;rw [e0]
              exact aA uS (HCE.out (1+i) u (by rw [←hi,BK,List.getElem?_drop]))) (by omega) ?_
             intro v25 Zm o25 Tm Tn;obtain ⟨Z3,wF,hv25⟩:=tC.iL (l':=l8++(aC T q.code).drop 1) nX.wk nX.w8 (by rw [HL8.out,aZ];exact o25) Tm Tn;have g_:=nX.MF wF hv25;have kA:=wF.kept nX.wk k24 (by decide);have kC:=wF.kept nX.wk Fa (by decide);have k25:=dN k24 kA;have Af:=dN Fa kC;have kN2:=dN kN (wF.keep _ kN.lt (by rw [HZN.out];simp));have LW:Below B w4 Zm:=LV.trans (wF.below nX.zb (by simp;omega));have Tp:=wF.size;have acS:qb.heap.size+1≤Zm.heap.size:=by simpa using Tp
             clear o25 Tm Tn;go_wp2_with fail;refine bG ⟨fun k hk=>hk.elim (fun h=>by rw [h];exact kA) (fun h=>by rw [h];exact kC),Tp⟩ ?_;refine bV 9 (by kernel_rfl) rfl ?_;refine lS (W:=Zm) rfl _ _ 52 rfl B aM (.int .i32 0) 4 bT (by decide) (v:=u10) rfl g_.xJ.1 (by omega) [.int .i32 (q.code:Nat)] (by simp [Value.oneCell']) ⟨qb.drew.heap.size,0,none⟩ 1 1 rfl rfl (fun i u hi=>?_) (by omega) ?_
             ·rcases i with _|i
              ·cases hi;exact kN2.at 0 rfl
              ·cases hi
             intro v26 uX Tj Ag Ah;obtain ⟨Z4,kT,LZ⟩:=tC.iL (l':=l10++[q.code]) g_.wk g_.xJ (by rw [aZ,List.length_append];exact Tj) Ag Ah;have uQ:=g_.D8 kT LZ;have kA2:=kT.kept g_.wk k25 (by decide);have Tk:=kT.kept g_.wk Af (by decide);have k26:=dN k25 kA2;have sV:=dN Af Tk;have Ai:Below B w4 uX:=LW.trans (kT.below g_.zb (by omega));have L6:=kT.size;clear Tj Ag Ah;go_wp2_with fail;refine bG ⟨fun k hk=>hk.elim (fun h=>by rw [h];exact kA2) (fun h=>by rw [h];exact Tk),L6⟩ ?_;refine fM [10,11] (by kernel_rfl) ?_;refine tail_cons rfl ?_;go_wp2_with fail;refine tail_nil ?_;go_wp2_with fail;go_meet;exact ⟨rfl,⟨Z4,uQ⟩,k26,sV,Ai⟩
          case rest=>
           clear Td k22 Te Wp Uj;obtain ⟨uX,agU⟩:=ae wc;subst agU;obtain ⟨v8,hv8⟩:=ae u8;subst hv8;obtain ⟨v10,V3⟩:=ae u10;subst V3;obtain ⟨rfl,⟨Z3,uQ⟩,k26,sV,Ai⟩:=hcut;have Uj:p<A∧A<uX.heap.size∧C<uX.heap.size:=⟨by omega,k26.lt,sV.lt⟩;have HS8:=aa (show l8++(aC T q.code).drop 1=y9 T (E++[x]) from by rw [Og,←sS.out.i8,Qn.out.2]);have acT:=aa (show l10++[q.code]=Ho (E++[x]) from by rw [Oh,←sS.out.i10,Qn.out.2]);have XI:=aa (show bg2=uy T (E++[x]) from by rw [agR.out,Oj T E x c0 (by rw [Qn.out.2];exact UA.out.2),←sS.out.ib,Qn.out.2]);have hxp:x.2.2.2=pb:=by rw [lD.out]
           have e2:=sV.at 2 rfl;rcases (show pb=false∨pb=true from by cases pb <;> simp) with hpf|hpt
           ·subst hpf;have Tq:=aa (show KF T (E++[x]) (l8++(aC T q.code).drop 1) l9 (l10++[q.code]) bg2 jg from ⟨HS8.out,by rw [UZ T E x hxp];exact sS.out.i9,acT.out,XI.out,by rw [Rc T E x hxp];exact sS.out.ij⟩);have agV:=aa uQ;clear uQ hxp;go_wp2_with fail;go_roundw
            case rel=>exact ⟨j+1,by omega,by simp,⟨_,_,Z3,E++[x],_,_,_,_,_,agV.out,Tq.out⟩,Ai⟩
            case measure=>simp [intOf];omega
           ·subst hpt;obtain ⟨a0,b0,hab⟩:∃a0 b0,q.map=[a0,b0]:=by
             have hqT:q∈T:=by rw [XF.out];exact List.getElem_mem hjl
             have hl2:=yH HV.out.rise hqT (by rw [Uh.out.2.2.2.1];decide) (M_.out.1 rfl)
             match hqm:q.map,hl2 with
             | [a0,b0],_=>exact ⟨a0,b0,rfl⟩
            have acU:nm=2:=by rw [qM.out,hab];rfl
            subst acU;have hrm:bL T q.code=[a0,b0]:=by
             have hqT:q∈T:=by rw [XF.out];exact List.getElem_mem hjl
             unfold bL;rw [jX HV.out.rise hqT];exact hab
            have Rz:aP a0∧aP b0:=⟨(Uh.out.2.2.2.2 a0 (by rw [hab];simp)).2,(Uh.out.2.2.2.2 b0 (by rw [hab];simp)).2⟩;have NK:=aa Rz
            have Tq:=aa (show KF T (E++[x]) (l8++(aC T q.code).drop 1) (l9++[b0]) (l10++[q.code]) bg2 (xH jg (.agg #[.int .i32 (a0:Nat),.int .i32 (b0:Nat)]) (.int .i32 (q.code:Nat))) from
             ⟨HS8.out,by rw [Ra T E x hxp,←sS.out.i9,Qn.out.2,hrm];rfl,acT.out,XI.out,by rw [Oi T E x hxp,←sS.out.ij,Qn.out.2,hrm];rfl⟩)
            obtain ⟨Mb,hca,m0,m1,hMb⟩:∃Mb,xV=some ⟨Mb,0,none⟩∧uX.cell? ⟨Mb,0,none⟩=some (.int .i32 (a0:Nat))∧uX.cell? ⟨Mb,1,none⟩=some (.int .i32 (b0:Nat))∧Mb<uX.heap.size:=by
             obtain ⟨f1,_⟩:=uQ.maps x (by simp);rw [Qn.out.2,hrm,lD.out] at f1;obtain ⟨g,cap,e,_,_,hl,_,hcell⟩:=dw f1 (by show 0<2;omega);injection e with e1 _ _;exact ⟨g,e1,hcell 0 _ rfl,hcell 1 _ rfl,hl⟩
            subst hca;have hl9:l9.length≤j:=by rw [sS.out.i9];exact Nat.le_trans (Hq T E) HEJ.out
            clear hxp hab hrm Rz;go_upto_region 21 with fail;have Tt:=uQ.mono (ag uX);have g0:=Gr.cell (ag uX) (uQ.is.at 6 rfl);have g1:=Gr.cell (ag uX) (k26.at 0 rfl);have g2:=Gr.cell (ag uX) (sV.at 0 rfl);have g3:=Gr.cell (ag uX) m0;have g4:=Gr.cell (ag uX) m1;have hkey:=Od NK.out.1.1 NK.out.2.1;refine aF #[true,true,true,true,true,true,true,true,true,true,true,true,true,true,true,false] 15 1 mixed (by rfl) ?_;refine ay [0,1,2,3,4,5,6,7,8,9,10,11,12,13,14] 0 rfl (by kernel_rfl) ?_
            iterate 15 (refine aB rfl ?_;go_big_quiet_step (rfl))
            refine az ?_;refine aJ [15] (by kernel_rfl) ?_;refine tail_cons rfl ?_;refine jy (xv:=.agg #[.int .i32 (a0:Nat),.int .i32 (b0:Nat)]) (vv:=.int .i32 (q.code:Nat)) rfl _ _ _ 99 21 rfl Kr Tryz.underlying99 Tt.jm rfl rfl rfl hkey ?_;intro Wt acV Tu;have Zn:=Tt.afb (by omega) acV Tu;have agW:=dN (sV.mono (ag uX)) (Tu.block C (sV.mono (ag uX)).lt (fun e=>by injection e with e;exact mX (P:=Tryz.prog) Tt.jm (e▸gL (sV.mono (ag uX)))));have amY:Wt.cell? ⟨Mb,1,none⟩=some (.int .i32 (b0:Nat)):=by
             have hm:=aA (ag uX) m1
             have hb:Wt.heap[Mb]? = uX.drew.heap[Mb]?:=Tu.block Mb hMb (fun e=>by
              injection e with e;obtain ⟨es,ck,h1,_⟩:=Tt.jm;rw [←e] at h1;unfold World.cell? at hm;rw [h1] at hm
              cases hm)
             exact (World.cell?_of_block (a:=⟨Mb,1,none⟩) hb).trans hm
            have agX:Below B w4 Wt:=(Ai.trans ((ag uX).mono (by omega))).grown Tu (by show B≤uX.heap.size;omega) (fun k hk=>by injection hk with hk;omega);go_wp2_with fail;refine tail_nil ?_;clear uQ k26 sV Ai m0 m1 hMb Tt g0 g1 g2 g3 g4 acV Tu;have e0:=agW.at 0 rfl;have Uj:B≤Wt.heap.size:=by have:=Zn.is.lt;omega
            obtain ⟨v9,hv9⟩:=ae u9;subst hv9;have acW:=af (w:=Wt) (.cells #[.int .i32 (b0:Nat)] aM);have PN:=Zn.mono acW;have agY:Below B w4 (Wt.alloc (.cells #[.int .i32 (b0:Nat)] aM)):=agX.trans (acW.mono Uj);go_wp2_with (refine lS (W:=Wt.alloc (.cells #[.int .i32 (b0:Nat)] aM)) rfl _ _ 52 rfl B aM (.int .i32 0) 4 bT (by decide) (v:=v9) rfl PN.w9.1 (by simp;omega) [.int .i32 (b0:Nat)] (by simp [Value.oneCell']) ⟨Wt.heap.size,0,none⟩ 1 1 rfl rfl (fun i u hi=>(match i,hi with|0,hi=>(by cases hi;exact (Is.new Wt _ aM).at 0 rfl)|i+1,hi=>(by cases hi))) (by omega) ?_;intro v9' w30 o30 acX acY);obtain ⟨Z5,Zo,acZ⟩:=tC.iL (l':=l9++[b0]) PN.wk PN.w9 (by rw [aZ,List.length_append];exact o30) acX acY;have agZ:=aa (PN.aa_ Zo acZ);have ag0:Below B w4 w30:=agY.trans (Zo.below PN.zb (by simp;omega));clear Zn PN o30 acX acY Zo acZ;go_wp2_with fail;go_roundw
            case rel=>exact ⟨j+1,by omega,by simp,⟨_,_,Z5,E++[x],_,_,_,_,_,agZ.out,Tq.out⟩,ag0⟩
            case measure=>simp [intOf];omega
  ·have zj:decide ((j:Int)<(nt:Int))=false:=by simp;omega
   obtain rfl:nt=j:=by omega
   have hnt:=tu.out;have ht:T.take nt=T:=List.take_of_length_le (by omega);have hsum:=sS.out;have hel:E.length=(mapped T).length:=by have:=congrArg List.length hO.lC;rw [ht,List.length_map,List.length_map] at this;exact this
   have xK:E.length<1000:=by have:=HEJ.out;omega
   have hmem:∀x∈E,∃r∈T,x.1=r.code:=fun x hx=>by
    have h1:x.1∈E.map (·.1):=List.mem_map_of_mem hx;rw [hO.lC,ht] at h1;obtain ⟨r,hr,e⟩:=List.mem_map.1 h1;exact ⟨r,(List.mem_filter.1 hr).1,e.symm⟩
   have hcode:∀x∈E,aP x.1:=fun x hx=>by
    obtain ⟨r,hr,e⟩:=hmem x hx;rw [e];exact (HV.out.fine r hr).1
   have CK6:=aa (fun (W:World) (h:Below wr.heap.size wr W)=>Hd (w:=W) (v:=u6) (L:=y8 T) (base:=B) (by
    have h1:=aG hO.cls h;rw [ht] at h1;rw [Hm,←hnt];exact h1) (fun y hy=>by
    obtain ⟨r,hr,rfl⟩:=List.mem_map.1 hy;have:=HV.out.fine r hr
    exact ⟨this.1.1,by have:=this.2.1;show r.cls<65536;omega⟩) (by rw [Hm];omega))
   have CK7:=aa (fun (W:World) (h:Below wr.heap.size wr W)=>Hd (w:=W) (v:=u7) (L:=qP E) (base:=B) (by
    have h1:=aG hO.Qj h;rw [Hl];exact h1) (fun y hy=>by
    obtain ⟨z,hz,rfl⟩:=List.mem_map.1 hy;have hz1:=List.mem_zipIdx hz
    exact ⟨(hcode z.1 (by rw [hz1.2.2];exact List.getElem_mem _)).1,by show z.2+1<65536;omega⟩) (by rw [Hl];omega))
   have CH:∀(v:Value) (o:Nat) (l:List Nat),qC wr B Z o v l→(∀c∈l,aP c)→l.length<100000→Hid (∀W,Below B wr W→B≤wr.heap.size→(∀k,Z k≠none→W.heap[k]? = wr.heap[k]?)→Calls Tryz.prog 86 #[v] W fun e w'=>∃ra rn rc,e=.returned (.agg #[.slice ra rn rc])∧A7 w' (.slice ra rn rc) l∧Below W.heap.size W w'):=fun v o l hv hc hl=>aa fun W _ _ hk=>by
    have h1:=hv.mono hk;refine (yT l (Sl.aW h1.1) (fC.aW h1.1) hc hl).mono ?_;rintro e w' ⟨r,he,ho,hb⟩;obtain ⟨a,c,rfl,_,_⟩:=ak ho;exact ⟨a,_,c,he,aV ho (Nat.zero_le _),hb⟩
   have C8:=CH _ _ _ hO.w8 (fun c hc=>by
    rw [hsum.i8] at hc;obtain ⟨x,hx,hc⟩:=List.mem_flatMap.1 hc
    exact mY HV.out (hcode x hx) (List.mem_of_mem_drop hc)) (by rw [hsum.i8];have:=y_ (fun c=>gI HV.out c) E;omega)
   have C9:=CH _ _ _ hO.w9 (fun c hc=>by
    rw [hsum.i9] at hc;obtain ⟨x,hx,rfl⟩:=List.mem_map.1 hc;obtain ⟨hx,hp⟩:=List.mem_filter.1 hx;obtain ⟨r,hr,e⟩:=hmem x hx;have hpr:=(hO.pE x hx).1 hp;rw [e] at hpr;have hfi:=HV.out.fine r hr;have hl2:=yH HV.out.rise hr (by rw [hfi.2.2.2.1];decide) hpr;have hrm:bL T x.1=r.map:=by unfold bL;rw [e,jX HV.out.rise hr]
    rw [hrm,List.getD_eq_getElem?_getD,List.getElem?_eq_getElem (show 1<r.map.length by omega)]
    exact (hfi.2.2.2.2 _ (List.getElem_mem _)).2) (by rw [hsum.i9];have:=Hq T E;omega)
   have C10:=CH _ _ _ hO.xJ (fun c hc=>by
    rw [hsum.i10] at hc;obtain ⟨x,hx,rfl⟩:=List.mem_map.1 hc
    exact hcode x hx) (by rw [hsum.i10];unfold Ho;rw [List.length_map];omega)
   have HZB:=aa (show ∀k,Z k≠none→lQ wr k aM∧k<wr.heap.size from fun k hk=>⟨(hO.wk k hk).2,(hO.wk k hk).1⟩);have hD:=A8.of (X:=X) (T:=T) (by rw [←hnt];exact hO) hsum;have hpl:=hO.is.lt;have hpB:=hO.low.1;have HS2:=aa hsum;have hpT:=aa (gL hO.is);have hz0:∀(W:World),(Below wr.heap.size wr W)→∀k,Z k≠none→W.heap[k]? = wr.heap[k]?:=fun W h k hk=>h.block k (HZB.out k hk).2;have HZ0:=aa hz0;have HT:=aa Zf.out;clear hO hsum hel hmem hcode CH ht hz0 hnt;go_wp2_with fail;refine (CK6.out wr (Below.refl _ _)).mono ?_;rintro e w31 ⟨cp,rfl,hcp,Wu⟩;go_wp2_with fail;refine (CK7.out w31 Wu).mono ?_;rintro e w32 ⟨pp,rfl,JR,Wv⟩;have Zp:=(hD.mono Wu).mono Wv;have hcp:=hcp.mono Wv;have hb2:=ah Wu Wv;have hz2:=HZ0.out _ hb2;have s2:=hb2.size;clear Wu Wv CK6 CK7 hD;have i2:=Zp.is;have q2:=i2.frozen 2;have q3:=i2.frozen 3;have e2:=i2.at 2 rfl;have e3:=i2.at 3 rfl;obtain ⟨w33,PQ⟩:=ae ((w32.setCell ⟨p,2,none⟩ (.pointer (some ⟨cp,0,none⟩))).setCell ⟨p,3,none⟩ (.pointer (some ⟨pp,0,none⟩)));have Zq:=(Zp.put 2 (.pointer (some ⟨cp,0,none⟩)) rfl).put 3 (.pointer (some ⟨pp,0,none⟩)) rfl;have i2':=i2.set 2 (.pointer (some ⟨cp,0,none⟩));have Zr:=(hcp.put i2 (show 10≤100 by omega) (o:=2) (.pointer (some ⟨cp,0,none⟩))).put i2' (show 10≤100 by omega) (o:=3) (.pointer (some ⟨pp,0,none⟩));have Zt:=(JR.put i2 (show 10≤100 by omega) (o:=2) (.pointer (some ⟨cp,0,none⟩))).put i2' (show 10≤100 by omega) (o:=3) (.pointer (some ⟨pp,0,none⟩));have Ww:Below B wr w33:=by rw [PQ];exact aj (aj (hb2.mono (by omega)) hpB) hpB
   have ac0:∀k,Z k≠none→w33.heap[k]? = wr.heap[k]?:=fun k hk=>by
    have hkp:k≠p:=fun e=>by
     have h1:=(HZB.out k hk).1;rw [e] at h1;exact absurd (h1.one hpT.out) (by decide)
    rw [PQ,heap_setCell_other _ ⟨p,3,none⟩ k _ (fun e=>hkp (e.symm▸rfl)),heap_setCell_other _ ⟨p,2,none⟩ k _ (fun e=>hkp (e.symm▸rfl))];exact hz2 k hk
   have s3:wr.heap.size≤w33.heap.size:=by rw [PQ];simpa using s2
   rw [←PQ] at Zq Zr Zt;clear Zp hcp JR i2' hz2;go_wp2_with fail;rw [←PQ];have Zu:=aa ac0;clear PQ i2 q2 q3 e2 e3 ac0;refine (C8.out w33 Ww (by omega) Zu.out).mono ?_;rintro e w34 ⟨Tv,Tw,Tx,rfl,hiv,zU⟩;go_wp2_with fail;refine (C9.out w34 (Ww.trans (zU.mono (by omega))) (by omega) (fun k hk=>(zU.block k (by have:=(HZB.out k hk).2;omega)).trans (Zu.out k hk))).mono ?_;rintro e w35 ⟨Ty,Tz,TA,rfl,hsv,Zv⟩;have Jp:=ah zU Zv;go_wp2_with fail;refine (C10.out w35 (Ww.trans (Jp.mono (by omega))) (by omega) (fun k hk=>(Jp.block k (by have:=(HZB.out k hk).2;omega)).trans (Zu.out k hk))).mono ?_;rintro e w36 ⟨Uk,Ul,Um,rfl,hmv,Wx⟩;have TB:=ah Jp Wx;have Zw:=Zq.mono TB;have ac1:=Zr.mono TB;have ac2:=Zt.mono TB;have ac3:=hiv.mono (ah Zv Wx);have ac4:=hsv.mono Wx;have hb6:Below B wr w36:=Ww.trans (TB.mono (by omega));clear Zq Zr Zt hiv hsv zU Zv Wx Jp TB C8 C9 C10;have i6:=Zw.is;have q7:=i6.frozen 7;have q8:=i6.frozen 8;have q9:=i6.frozen 9;have e7:=i6.at 7 rfl;have e8:=i6.at 8 rfl;have e9:=i6.at 9 rfl;have hfin:b_ (((w36.setCell ⟨p,7,none⟩ (.slice Tv Tw Tx)).setCell ⟨p,8,none⟩ (.slice Ty Tz TA)).setCell ⟨p,9,none⟩ (.slice Uk Ul Um)) p T X∧Below w.heap.size w (((w36.setCell ⟨p,7,none⟩ (.slice Tv Tw Tx)).setCell ⟨p,8,none⟩ (.slice Ty Tz TA)).setCell ⟨p,9,none⟩ (.slice Uk Ul Um)):=by
    have hBW:Below w.heap.size w (((w36.setCell ⟨p,7,none⟩ (.slice Tv Tw Tx)).setCell ⟨p,8,none⟩ (.slice Ty Tz TA)).setCell ⟨p,9,none⟩ (.slice Uk Ul Um)):=aj (aj (aj (hB4.trans ((hE.trans hb6).mono hle)) (by omega)) (by omega)) (by omega);have i7:=i6.set 7 (.slice Tv Tw Tx);have i8:=i7.set 8 (.slice Ty Tz TA);obtain ⟨_,x',hv',_,hx'⟩:=HT.mono hBW;injection hv' with hv';have hxe:Value.slice xa nx xc=x':=by
     have:=congrArg (fun a:Array Value=>a.getD 1 undef) hv';simpa using this
    rw [←hxe] at hx';refine ⟨⟨E,rv,.slice xa nx xc,ev,B,jM,cp,pp,.slice Tv Tw Tx,.slice Ty Tz TA,.slice Uk Ul Um,((Zw.put 7 (.slice Tv Tw Tx) rfl).put 8 (.slice Ty Tz TA) rfl).put 9 (.slice Uk Ul Um) rfl,((ac1.put i6 (show 10≤100 by omega) (o:=7) (.slice Tv Tw Tx)).put i7 (show 10≤100 by omega) (o:=8) (.slice Ty Tz TA)).put i8 (show 10≤100 by omega) (o:=9) (.slice Uk Ul Um),((ac2.put i6 (show 10≤100 by omega) (o:=7) (.slice Tv Tw Tx)).put i7 (show 10≤100 by omega) (o:=8) (.slice Ty Tz TA)).put i8 (show 10≤100 by omega) (o:=9) (.slice Uk Ul Um),?_,?_,?_,hx'⟩,hBW⟩
    ·rw [←HS2.out.i8];exact ((ac3.put i6 7 (.slice Tv Tw Tx)).put i7 8 (.slice Ty Tz TA)).put i8 9 (.slice Uk Ul Um)
    ·rw [←HS2.out.i9];exact ((ac4.put i6 7 (.slice Tv Tw Tx)).put i7 8 (.slice Ty Tz TA)).put i8 9 (.slice Uk Ul Um)
    ·rw [←HS2.out.i10];exact ((hmv.put i6 7 (.slice Tv Tw Tx)).put i7 8 (.slice Ty Tz TA)).put i8 9 (.slice Uk Ul Um)
   have H8:=aa hfin;clear hfin Zw ac1 ac2 ac3 ac4 hmv i6;go_wp2_with fail;go_ret2;exact ⟨p,rfl,H8.out.1,H8.out.2⟩
theorem L8 {w:World} (hG:ek w) {T:List aH} {X:List Nat} (hR:DU T) (hlen:(gp T).length<1000000) (hV:aY T X) (hS:∀r∈T,r.cls≠0∨r.map≠[]) (hl:T.length<1000) (hX:X.length<10000) (hXc:∀c∈X,aP c) :
 Calls Tryz.prog 33 #[.string (tx (gp T)),.string (tx (fK X))] w fun e w'=>∃p,e=.returned (.tuple #[.pointer (some ⟨p,0,none⟩),.nilIface])∧b_ w' p T X∧Below w.heap.size w w':=by
 have RP:=aa (DV hG hR hlen);have XP:=aa (fun (W:World) (E:Below w.heap.size w W)=>DX (hG.mono E) hXc hX);have OF:=aa (fun (W:World) (v:Value) (h:oZ W v T X)=>SV h hV hS hl hX);clear hG hR hlen hV hS;obtain ⟨s1,h1⟩:∃s,s=tx (gp T):=⟨_,rfl⟩;obtain ⟨s2,h2⟩:∃s,s=tx (fK X):=⟨_,rfl⟩;rw [←h1] at RP ⊢;rw [←h2] at XP ⊢;clear h1 h2;go_enter Tryz.func33,Tryz.ntmps33;go_wp2_with fail;refine RP.out.mono ?_;rintro e w6 ⟨v,L,rfl,hL,ho,hm,hb6⟩;obtain ⟨ra,rc,rfl,_,_⟩:=ak ho;have HL:=aa hL;have HO:=aa ho;have HM:=aa hm;clear hL ho hm;go_wp2_with fail;refine (XP.out w6 hb6).mono ?_;rintro e w7 ⟨r,rfl,hx,j4⟩;obtain ⟨xa,xc,rfl,_,_⟩:=ak hx;have HX:=aa hx;clear hx;have iZ:=af (w:=w7) (.cells #[.slice xa (jR X).length xc] 93);have hT:oZ (w7.alloc (.cells #[.slice xa (jR X).length xc] 93)) (.agg #[.slice ra L.length rc,.slice xa (jR X).length xc]) T X:=by
  have h1:=wU.aW HO.out HM.out;rw [HL.out] at h1;exact ⟨_,_,rfl,h1.mono (ah j4 iZ),(Sl.aW HX.out).any.mono iZ⟩
 have hb:=ah (ah hb6 j4) iZ;have HOF:=aa (OF.out _ _ hT);clear hT OF;go_wp2_with fail;refine HOF.out.mono ?_;rintro e w9 ⟨p,rfl,hD,tL⟩;have HD:=aa hD;clear hD;go_wp2_with fail;go_ret2;exact ⟨p,rfl,HD.out,ah hb tL⟩
end Go.Proofs.YtmpkfkoficehpaaGreatDoor
