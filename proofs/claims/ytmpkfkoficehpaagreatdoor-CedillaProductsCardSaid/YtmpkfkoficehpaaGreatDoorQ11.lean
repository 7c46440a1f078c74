/- CedillaProducts: where a text may be cut apart, it has as many texts that are alike as its two parts multiplied; no condition. -/
import Derived.Test.YtmpkfkoficehpaaGreatDoorQ10
set_option maxRecDepth 100000
set_option maxHeartbeats 6400000
namespace Go.Proofs.YtmpkfkoficehpaaGreatDoor
open Go.RowKit Go.Cd
def cellC (x:Nat×Nat):List Value:=[.int .i32 x.1,.int .u16 x.2]
theorem Ob (x:Nat×Nat):(cellC x).length=2:=rfl
theorem Hd {w:World} {v:Value} {L:List (Nat×Nat)} {base:Nat} (hv:w.ownsRow base 190 2 v L.length (L.flatMap cellC)) (hL:∀x∈L,x.1<1114112∧x.2<65536) (hn:L.length<100000) :
 Calls Tryz.prog 91 #[v] w fun e w'=>∃p,e=.returned (.pointer (some ⟨p,0,none⟩))∧kK w' p (iK L)∧Below w.heap.size w w':=by
 have HL:=aa hL;obtain ⟨nt,hnt⟩:=ae L.length;have tu:=aa hnt;have HX:=aa (fun (j:Nat) (hj:j<L.length)=>dB (hf:=Ob) rfl hv hj);obtain ⟨va,vc,rfl,_,_⟩:=ak hv;have hmk:(Instr.makeMap 242 none).run Tryz.prog w=.ok (.map (some w.heap.size)) (w.alloc (.map #[] 0)):=rfl;rw [←hnt] at hn ⊢;clear hv hL hnt;go_enter Tryz.func91,Tryz.ntmps91;go_wp2_with fail;clear hmk;have R0:=uk.new w;have hB0:Below w.heap.size w (w.alloc (.map #[] 0)):=af _;have hz0:(w.alloc (.map #[] 0)).heap.size=w.heap.size+1:=by simp
 generalize w.alloc (.map #[] 0)=w1 at *;go_loopw [16] (fun iv wr=>∃j:Nat,j≤nt∧iv=.int .i64 j∧(∃blk,uk wr w.heap.size (iK (L.take j)) blk)∧Below w.heap.size w wr) (fun iv _=>nt-(intOf iv).toNat)
 case atStart=>exact ⟨0,Nat.zero_le _,rfl,⟨_,R0⟩,hB0⟩
 case round=>
  clear R0 hB0 hz0;obtain ⟨j,hj,rfl,⟨blk,hR⟩,hE⟩:=hrel;by_cases hjn:j<nt
  ·have zj:decide ((j:Int)<(nt:Int))=true:=by simp;omega
   have hjl:j<L.length:=by have:=tu.out;omega
   obtain ⟨g,cap,hva,_,hgl,_,hx⟩:=HX.out j hjl;injection hva with hva _ hvc;subst hva;subst hvc;have hc:=HL.out _ (List.getElem_mem hjl);have c0:wr.cell? ⟨g,j*2,none⟩=some (.int .i32 (L[j].1:Nat)):=aA hE ((hx 0 (by omega)).1.trans rfl);have c1:wr.cell? ⟨g,j*2+1,none⟩=some (.int .u16 (L[j].2:Nat)):=aA hE ((hx 1 (by omega)).1.trans rfl);have HS:=aa (show iK (L.take (j+1))=si (iK (L.take j)) (L[j].1) (L[j].2) by rw [List.take_succ_eq_append_getElem hjl,Kz]);clear hx hgl;generalize L[j]=q at *;obtain ⟨c,u⟩:=q;simp only at c0 c1 hc HS;obtain ⟨hc0,hu0⟩:=hc;obtain ⟨w3,hw3⟩:=ae (wr.alloc (.cells #[.int .i32 (c:Nat),.int .u16 (u:Nat)] 190));have k3:Is w3 wr.heap.size #[.int .i32 (c:Nat),.int .u16 (u:Nat)] 190:=by rw [hw3];exact Is.new _ _ _
   have hb3:Below wr.heap.size wr w3:=by rw [hw3];exact af _
   have e0:=k3.at 0 rfl;have e1:=k3.at 1 rfl;have IN:=aa (Mx (w:=w3) c hc0);have hm:=Ck c (by omega);have hd:((c:Int) / 256)=((c / 256:Nat):Int):=by omega
   have hcd:=Nat.div_add_mod c 256;have hmk:=Nat.mod_lt c (show 0<256 by decide);generalize c / 256=n at *;generalize c % 256=k at *;have hn1:n<4352:=by omega
   have R3:=hR.mono hb3;have hkey:=x8 n (by omega);have hzv:=Tryz.zeroValue243 w3;have hMr:=hR.map.lt;clear hR;go_upto_region 5 with fail;rw [←hw3];clear hw3 c0 c1
   go_wp2_with (first
    | (go_at_call 63;refine IN.out.mono ?_;rintro e w4 ⟨rfl,rfl⟩)
    | (refine ig rfl _ _ 242 243 false rfl jB Tryz.underlying242 R3.map rfl rfl hkey hzv ?_ ?_)
    | fail)
   ·intro hno
    replace hno:=qB hno
    obtain ⟨wb,hwb⟩:=ae (w4.alloc (.cells Tryz.zeroCells133 133));have Rb:dC Tryz.prog 21 wb w.heap.size (D7 blk):=by rw [hwb];exact R3.map.mono (af _)
    have hbz:wb.heap.size=w4.heap.size+1:=by rw [hwb];simp
    go_wp2_with (first
     | (rw [←hwb];refine jy (xv:=.int .i32 n) (vv:=.pointer (some ⟨w4.heap.size,0,none⟩)) rfl _ _ _ 242 243 rfl jB Tryz.underlying242 Rb rfl rfl rfl hkey ?_;intro w5 Xd hg5)
     | fail)
    have X8:Below w4.heap.size w4 wb:=by rw [hwb];exact af _
    have UT:=R3.map.lt;obtain ⟨UU,hb,R5⟩:∃UU:Nat→Option Nat,UU n=some w4.heap.size∧uk w5 w.heap.size (iK (L.take j)) UU:=⟨_,if_pos rfl,R3.add hno hn1 Xd (hwb▸hg5)⟩;have kZ:Below w.heap.size w w4:=hE.trans (hb3.mono hE.size);have jI:Below w.heap.size w w5:=(kZ.trans (X8.mono kZ.size)).grown hg5 (Nat.le_trans kZ.size X8.size) (fun k hk=>by injection hk with hk;omega);have k5:Is w5 wr.heap.size #[.int .i32 (c:Nat),.int .u16 (u:Nat)] 190:=(k3.mono X8).grown hg5 (fun e=>by injection e with e;have:=hE.size;omega);obtain ⟨_,hMb,kb⟩:=R5.is n _ hb;clear hwb Xd hg5 Rb;clear e0 e1 hzv IN;go_upto_region 9 with fail;simp only [Act.put];have k5d:=k5.mono (ag w5);have kbd:=kb.mono (ag w5);have Rd:=R5.mono (ag w5);have g0:=Gr.cell (ag w5) (k5.at 0 rfl);have g1:=Gr.cell (ag w5) (k5.at 1 rfl);refine aF #[true,true,true,true,true,true,true,true,true,true,false] 10 1 mixed (by rfl) ?_;refine ay [0,1,3,4,5,6,7] 3 rfl (by kernel_rfl) ?_
    iterate 7 (refine aB rfl ?_;go_big_quiet_step (rfl))
    refine az ?_;refine aI 2 (by kernel_rfl) rfl ?_;refine ig rfl _ _ 242 243 false rfl jB Tryz.underlying242 Rd.map rfl rfl hkey (Tryz.zeroValue243 _) (fun hno=>absurd (qB hno) (by rw [hb];simp)) ?_;intro pv hpv;obtain ⟨b',hb',rfl⟩:=qA hpv;rw [hb] at hb';cases hb';clear hpv;go_wp2_with fail;refine aD (Below.refl _ _) ?_;refine ay [8,9] 0 rfl (by kernel_rfl) ?_
    iterate 2 (refine aB rfl ?_;go_big_quiet_step (rfl))
    refine az ?_;refine aJ [10] (by kernel_rfl) ?_;have d9:=kbd.frozen k;have e9:=kbd.at k (fu _ _ (by omega));refine tail_cons rfl ?_;go_wp2_with fail;refine tail_nil ?_;go_wp2;go_roundw
    case rel=>
     refine ⟨j+1,by omega,by simp,⟨UU,?_⟩,?_⟩
     ·rw [HS.out,show c=n*256+k by omega];exact Rd.put hb (by omega)
     ·exact aj ((jI.trans ((ag w5).mono jI.size))) (by omega)
    case measure=>simp [intOf];omega
   ·intro pv hpv;obtain ⟨b,hb,rfl⟩:=qA hpv;clear hpv;obtain ⟨_,hMb,kb⟩:=R3.is n b hb;have kZ:Below w.heap.size w w4:=hE.trans (hb3.mono hE.size);clear e0 e1 hzv IN;go_upto_region 9 with fail;have k3d:=k3.mono (ag w4);have kbd:=kb.mono (ag w4);have Rd:=R3.mono (ag w4);have g0:=Gr.cell (ag w4) (k3.at 0 rfl);have g1:=Gr.cell (ag w4) (k3.at 1 rfl);refine aF #[true,true,true,true,true,true,true,true,true,true,false] 10 1 mixed (by rfl) ?_;refine ay [0,1,3,4,5,6,7] 3 rfl (by kernel_rfl) ?_
    iterate 7 (refine aB rfl ?_;go_big_quiet_step (rfl))
    refine az ?_;refine aI 2 (by kernel_rfl) rfl ?_;refine ig rfl _ _ 242 243 false rfl jB Tryz.underlying242 Rd.map rfl rfl hkey (Tryz.zeroValue243 _) (fun hno=>absurd (qB hno) (by rw [hb];simp)) ?_;intro pv hpv;obtain ⟨b',hb',rfl⟩:=qA hpv;rw [hb] at hb';cases hb';clear hpv;go_wp2_with fail;refine aD (Below.refl _ _) ?_;refine ay [8,9] 0 rfl (by kernel_rfl) ?_
    iterate 2 (refine aB rfl ?_;go_big_quiet_step (rfl))
    refine az ?_;refine aJ [10] (by kernel_rfl) ?_;have d9:=kbd.frozen k;have e9:=kbd.at k (fu _ _ (by omega));refine tail_cons rfl ?_;go_wp2_with fail;refine tail_nil ?_;go_wp2;go_roundw
    case rel=>
     refine ⟨j+1,by omega,by simp,⟨blk,?_⟩,?_⟩
     ·rw [HS.out,show c=n*256+k by omega];exact Rd.put hb (by omega)
     ·exact aj ((kZ.trans ((ag w4).mono kZ.size))) (by omega)
    case measure=>simp [intOf];omega
  ·have zj:decide ((j:Int)<(nt:Int))=false:=by simp;omega
   have hf:=G8 (L:=L) fun x hx=>(HL.out x hx).2;have htk:L.take j=L:=by rw [List.take_of_length_le];have:=tu.out;omega
   rw [htk] at hR;have HF:=aa (show ∃f,f=iK L from ⟨_,rfl⟩);obtain ⟨f,hfe⟩:=HF.out;rw [←hfe] at hf hR;have HFE:=aa hfe;clear hfe HF htk;have HR:=aa hR;have hM:=hR.map.lt;obtain ⟨B,hB⟩:=ae wr.heap.size;obtain ⟨wa,Oc⟩:=ae (wr.alloc (.cells Tryz.zeroCells133 133));have haz:wa.heap.size=B+1:=by rw [Oc];simp [hB]
   have hEa:Below B wr wa:=by rw [Oc,hB];exact af _
   have ka:Is wa B Tryz.zeroCells133 133:=by rw [Oc,hB];exact Is.new _ _ _
   obtain ⟨wb,hwb⟩:=ae (wa.alloc (.cells (AX (fun _=>0) (.slice (some ⟨B,0,none⟩) 1 1)) 137));have hbz:wb.heap.size=B+2:=by rw [hwb];simp [haz]
   have hEb:Below (B+1) wa wb:=by rw [hwb,←haz];exact af _
   have kb:Is wb (B+1) (AX (fun _=>0) (.slice (some ⟨B,0,none⟩) 1 1)) 137:=by rw [hwb,←haz];exact Is.new _ _ _
   obtain ⟨wc,hwc⟩:=ae (wb.alloc (.map #[] 0));have hcz:wc.heap.size=B+3:=by rw [hwc];simp [hbz]
   have xI:Below (B+2) wb wc:=by rw [hwc,←hbz];exact af _
   have mc:dC Tryz.prog 133 wc (B+2) fun _ _=>False:=by rw [hwc,←hbz];exact dC.new _ _
   have hmk:(Instr.makeMap 244 none).run Tryz.prog wb=.ok (.map (some (B+2))) wc:=by rw [hwc,←hbz];rfl
   have hkz:=Cn (f:=fun _=>0) (fun _=>by decide) 0;rw [nL _ _ (fun _ _=>rfl)] at hkz;have HWA:=aa Oc;have HWB:=aa hwb;have HWC:=aa hwc;have HB:=aa hB;have HAZ:=aa haz;have HBZ:=aa hbz;have KD:=aa hcz;clear hR Oc hwb hwc hB haz hbz hcz
   go_wp2_with (first
    | (refine rC rfl 135 133 _ rfl vI (by decide) (by decide) Tryz.zeroCells133 rfl (by kernel_rfl) ?_;rw [←HWA.out,←HB.out])
    | (refine uu rfl _ rfl (some ⟨B,0,none⟩) 1 1 rfl ?_)
    | (refine Go.Great.wpList_boxTo rfl 137 _ rfl _ rfl (B+1) HAZ.out (AX (fun _=>0) (.slice (some ⟨B,0,none⟩) 1 1)) rfl ?_;rw [←HWB.out])
    | (refine AY (xv:=.agg Tryz.zeroCells133) (vv:=.int .i64 0) rfl _ _ _ 244 3 rfl r_ Tryz.underlying244 mc rfl rfl rfl hkz ?_;intro wd hGd hgd)
    | fail)
   have hsz0:(Tryz.zeroCells133).size=256:=by kernel_rfl
   have oa:wa.ownsRow B 133 256 (.slice (some ⟨B,0,none⟩) 1 1) 1 ([fun _=>0].flatMap vJ):=by
    have e:[fun _=>0].flatMap vJ=(Tryz.zeroCells133).toList:=by
     simp only [List.flatMap_cons,List.flatMap_nil,List.append_nil,vJ];rw [nL _ _ (fun _ _=>rfl)]
    rw [e];exact ⟨by rw [Array.length_toList,hsz0],.inr ⟨B,1,_,rfl,Nat.le_refl _,ka.at_,Nat.le_refl _,by decide,by rw [hsz0],by rw [List.take_of_length_le];simp [hsz0]⟩⟩
   have X9:B=wr.heap.size:=HB.out;have haz:=HAZ.out;have hbz:=HBZ.out;have hcz:=KD.out;have ob:=aG oa (haz▸hEb);have oc:=aG ob (hbz▸xI);have od:wd.ownsRow B 133 256 (.slice (some ⟨B,0,none⟩) 1 1) 1 ([fun _=>0].flatMap vJ):=oc.kept hgd (.inr (fun e=>by simp [Value.ownBlock] at e));have kd:Is wd (B+1) (AX (fun _=>0) (.slice (some ⟨B,0,none⟩) 1 1)) 137:=(kb.mono (hbz▸xI)).grown hgd (fun e=>by injection e with e;omega);have TY:Below B wr wd:=((hEa.trans (hEb.mono (by omega))).trans (xI.mono (by omega))).grown hgd (by omega) (fun k hk=>by injection hk with hk;omega);have hN:uw wd (B+1) (B+2) B f 0 (fun _=>0) [fun _=>0] (.slice (some ⟨B,0,none⟩) 1 1):=by
    refine ⟨kd,od,⟨_,hGd,?_⟩,⟨_,rfl,fun _ _=>rfl⟩,fun m hm=>by omega,fun _ _=>rfl⟩;rintro x u (⟨rfl,rfl⟩|⟨_,h⟩)
    ·exact ⟨0,_,rfl,by rw [nL _ _ (fun _ _=>rfl)],rfl⟩
    ·exact h.elim
   have hzd:B≤wd.heap.size:=by have:=TY.size;omega
   clear hGd hgd kd od oc ob oa hsz0 hmk hkz mc kb ka hEa hEb xI hcz hbz haz HWA HWB HWC HAZ HBZ KD;obtain ⟨wE,hwE⟩:=ae wr;subst hwE;have akF:w.heap.size<B:=by omega
   clear X9;go_loopw [53] (fun iv wn=>∃n:Nat,n≤4352∧iv=.int .i64 n∧(∃idx Bs v,uw wn (B+1) (B+2) B f n idx Bs v∧Bs.length≤n+1)∧Below B wE wn) (fun iv _=>4352-(intOf iv).toNat)
   case atStart=>exact ⟨0,Nat.zero_le _,rfl,⟨_,_,_,hN,by simp⟩,TY⟩
   case round=>
    clear hN TY hzd;obtain ⟨n,qO,rfl,⟨idx,Bs,v,hN,hlen⟩,JJ⟩:=hrel;by_cases hn1:n<4352
    ·have zn:decide ((n:Int)<4352)=true:=by simp;omega
     have hR:=HR.out.mono (HB.out▸JJ);have hkey:=x8 n (by omega)
     go_wp2_with (first
      | (refine ig rfl _ _ 242 243 false rfl jB Tryz.underlying242 hR.map rfl rfl hkey (Tryz.zeroValue243 _) ?_ ?_)
      | fail)
     ·intro hno
      replace hno:=qB hno
      have X_:=hN.skip (hR.no n hno);go_wp2_with fail;go_roundw
      case rel=>exact ⟨n+1,by omega,by simp,⟨_,_,_,X_,by omega⟩,JJ⟩
      case measure=>simp [intOf];omega
     ·intro pv hpv;obtain ⟨b,hb,rfl⟩:=qA hpv;clear hpv;obtain ⟨_,_,kb⟩:=hR.is n b hb;have hbB:b<B:=by have:=(HR.out.is n b hb).2.2.lt;have:=HB.out;omega
      have hkb:=Cn hf n;obtain ⟨G,hG,hGs⟩:=hN.map;have HGS:=aa hGs;clear hGs
      go_wp2_with (first
       | (refine Go.wpList_load_row rfl 133 _ rfl b rfl 133 (dm f n) (0,0) _ kb.at_ Tryz.underlying133 rfl (by rw [eU];kernel_rfl) ?_)
       | (refine ig rfl _ _ 244 3 true rfl r_ Tryz.underlying244 hG rfl rfl hkb (Tryz.zeroValue3 _) ?_ ?_)
       | fail)
      ·intro hno;obtain ⟨va',vc',hve,_,_⟩:=ak hN.own;subst hve;have Nr:=aa hN.own.1;obtain ⟨nb,hnb⟩:=ae Bs.length;have UW:=aa hnb;have e0:=hN.is.at 4352 (kL _ _);rw [←hnb] at e0 hlen;clear hnb Nr
       go_wp2_with (first
        | (refine Go.wpList_load_row rfl 133 _ rfl b rfl 133 (dm f n) (0,0) _ kb.at_ Tryz.underlying133 rfl (by rw [eU];kernel_rfl) ?_)
        | (refine jy (xv:=.agg (dm f n)) (vv:=.int .i64 nb) rfl _ _ _ 244 3 rfl r_ Tryz.underlying244 hG rfl rfl rfl hkb ?_;intro w5 Xd hg5)
        | fail)
       simp only [Act.put];have hnb:=UW.out;have ho:=hN.own;have hi:=hN.is;rw [←hnb] at ho hi;have hvm:=Ha hG ho;have hvp:=hi.other ho (by decide);have k5:=hi.grown hg5 (fun e=>by injection e with e;omega);have ho5:=ho.kept hg5 (.inr hvm);have kb5:=kb.grown hg5 (fun e=>by injection e with e;omega);have UM:B+2≤w5.heap.size:=by have:=k5.lt;omega
       have k6:=k5.mono (ag w5);have Qh:=aG ho5 (ag w5);have kb6:=kb5.mono (ag w5);have hz6:B+2≤w5.drew.heap.size:=UM;have g0:=uW.keeps (S:=fun k=>k=B+1∨k<B) (k6.at 4352 (kL _ _)) (.inl rfl);have HN:=aa hN;have HG5:=aa Xd;have Hg5:=aa hg5;clear hnb hN hG hR e0 Xd hg5;refine dY (KR.blocks fun k=>k=B+1∨k<B) #[true,true,true,true,true,true,true,true,true,true,true,true,false] 12 1 mixed (by rfl) ?_;refine dL [0,1,2,3,4,5,6] 5 rfl (by kernel_rfl) ?_
       iterate 7 (refine aB rfl ?_;go_big_quiet_step (rfl))
       refine az ?_;refine bV 7 (by kernel_rfl) rfl ?_;refine Go.wpList_load_row rfl 133 _ rfl b rfl 133 (dm f n) (0,0) _ kb6.at_ Tryz.underlying133 rfl (by rw [eU];kernel_rfl) ?_;go_wp2_with fail;refine bG (KR.refl _ _) ?_;refine bV 8 (by kernel_rfl) rfl ?_;refine rC rfl 135 133 _ rfl vI (by decide) (by decide) (dm f n) rfl (eU _ _) ?_;go_wp2_with fail;refine bG (KR.of_below (af _) (by simp) (fun k hk=>by rcases hk with rfl|hk <;> omega)) ?_;refine bV 9 (by kernel_rfl) rfl ?_;refine DR (W:=w5.drew) rfl _ _ 135 rfl B 133 _ 256 512 vI (by decide) (by decide) (.slice va' nb vc') nb (Bs.flatMap vJ) rfl Qh (dm f n) rfl (eU _ _) (KC _ _) (by omega) (by omega) ?_;intro v1 w9 o9 Ms JG;obtain ⟨na,nc,rfl,_,_⟩:=ak o9;go_wp2_with fail;have k7:=k6.mono (af (.cells (dm f n) 133));have ho7:=aG Qh (af (.cells (dm f n) 133));have k9:=k7.grown JG hvp;have hz9:B+2≤w9.heap.size:=k9.lt;refine bG (KR.bK (w:=w5.drew.alloc (.cells (dm f n) 133)) JG JG.size (fun k hk=>?_)) ?_
       ·rcases hk with rfl|hk
        ·exact ⟨k7.lt,hvp⟩
        ·exact ⟨by simp;omega,Go.Cd.aae ho hk⟩
       refine dL [10,11] 0 rfl (by kernel_rfl) ?_
       iterate 2 (refine aB rfl ?_;go_big_quiet_step (rfl))
       refine az ?_;have e9:=k9.at 4352 (kL _ _);have d9:=k9.frozen 4352;refine fM [12] (by kernel_rfl) ?_;refine tail_cons rfl ?_;go_wp2_with fail;refine tail_nil ?_;have KE:uw (w9.setCell ⟨B+1,4352,none⟩ (.slice na (nb+1) nc)) (B+1) (B+2) B f n idx (Bs++[fun x=>f (n*256+x)]) (.slice na (nb+1) nc):=by
        have ae7:=k9.other o9 (by decide);refine HN.out.more (w4:=w5) (w5:=w5.drew.alloc (.cells (dm f n) 133)) HG5.out ?_ Hg5.out (by omega) (UW.out▸hvm) ((ag w5).alloc (Nat.le_refl _) _) (UW.out▸o9) (UW.out▸JG) ae7;rintro x u (⟨rfl,rfl⟩|⟨_,hx⟩)
        ·refine ⟨nb,_,?_,by rw [wX],rfl⟩;rw [UW.out,List.getElem?_append_right (Nat.le_refl _)];simp
        ·obtain ⟨i,g,h1,h2⟩:=HGS.out _ _ hx;exact ⟨i,g,by rw [List.getElem?_append_left (List.getElem?_eq_some_iff.1 h1).1];exact h1,h2⟩
       have He:Below B wE (w9.setCell ⟨B+1,4352,none⟩ (.slice na (nb+1) nc)):=by
        refine aj (((JJ.grown Hg5.out (by have:=JJ.size;have:=HB.out;omega) (fun k hk=>by injection hk with hk;omega)).trans (((ag w5).mono (by omega)).alloc (by omega) _)).grown JG (by simp;omega) (fun k hk=>(ho.lt k hk).1)) (by omega)
       obtain ⟨wf,hwf⟩:=ae (w9.setCell ⟨B+1,4352,none⟩ (.slice na (nb+1) nc));rw [←hwf] at KE He;have ZY:=KE.own;have hlast:(Bs++[fun x=>f (n*256+x)])[nb]? = some (fun x=>f (n*256+x)):=by
        rw [UW.out,List.getElem?_append_right (Nat.le_refl _)];simp
       have ae8:=aa (KE.lay hn1 hlast (fun _ _=>rfl) (KE.is.other ZY (by decide)) (by omega));have e10:=KE.is.at n (sj _ _ hn1);have d10:=KE.is.frozen n;rw [←hwf];clear e9 d9 hwf KE ZY k9 JG o9 k7 ho7;go_wp2_with fail;go_roundw
       case rel=>exact ⟨n+1,by omega,by simp,⟨_,_,_,ae8.out,by rw [List.length_append,←UW.out];simp;omega⟩,aj He (by omega)⟩
       case measure=>simp [intOf];omega
      ·intro pv hpv;obtain ⟨i,g,hi,hgx,rfl⟩:=HGS.out _ _ hpv;have hil:=(List.getElem?_eq_some_iff.1 hi).1;have UX:i<65536:=by omega
       have hgv:=aa (fun k (hk:k<256)=>show g k=f (n*256+k) from by
        injection hgx with hgx;have:=Oa hgx hk;rw [Nat.zero_mul,Nat.zero_add] at this
        exact this.symm)
       have e9:=hN.is.at n (sj _ _ hn1);have d9:=hN.is.frozen n;have hvp:=hN.is.other hN.own (by decide);have X_:=aa (hN.lay hn1 hi hgv.out hvp (by omega));clear hpv hgx;go_wp2_with fail;go_roundw
       case rel=>exact ⟨n+1,by omega,by simp,⟨_,_,_,X_.out,by omega⟩,aj JJ (by omega)⟩
       case measure=>simp [intOf];omega
    ·have zn:decide ((n:Int)<4352)=false:=by simp;omega
     obtain rfl:n=4352:=by omega
     have hP:=hN.pages hlen hf;rw [HFE.out] at hP;go_wp2_with fail;go_ret;exact ⟨B+1,rfl,hP,hE.trans (JJ.mono (by omega))⟩
theorem jC {w w':World} {base size n:Nat} {e:TypeId} {v:Value} {xs:List Value} (h:w.ownsRow base e size v n xs) (hk:∀k,v.ownBlock=some k→w'.heap[k]? = w.heap[k]?):w'.ownsRow base e size v n xs:=by
 obtain ⟨h1,h2⟩:=h;refine ⟨h1,h2.imp id ?_⟩;rintro ⟨g,cap,cur,hv,hg,hh,r⟩;exact ⟨g,cap,cur,hv,hg,(hk g (by rw [hv];rfl)).trans hh,r⟩
def lQ (w:World) (k:Nat) (T:TypeId):Prop:=∃cs,w.heap[k]? = some (.cells cs T)
theorem lQ.one {w:World} {k:Nat} {T T':TypeId} (h:lQ w k T) (h':lQ w k T'):T=T':=by
 obtain ⟨cs,h1⟩:=h;obtain ⟨cs',h2⟩:=h';rw [h1] at h2;injection h2 with h2;injection h2
theorem bP {w:World} {base size n:Nat} {e:TypeId} {v:Value} {xs:List Value} (h:w.ownsRow base e size v n xs) {k:Nat} (hk:v.ownBlock=some k):lQ w k e:=by
 rcases h.2 with ⟨h1,_⟩|⟨g,_,cur,h1,_,h2,_⟩
 ·rw [h1] at hk;cases hk
 ·rw [h1] at hk;cases hk;exact ⟨cur,h2⟩
abbrev gG:=Nat→Option Nat
def Qi (W:World) (Z:gG):Prop:=∀k,Z k≠none→k<W.heap.size∧lQ W k aM
def qC (W:World) (B:Nat) (Z:gG) (o:Nat) (v:Value) (l:List Nat):Prop:=W.ownsRow B aM 1 v l.length (aN l)∧∀k,v.ownBlock=some k→Z k=some o
structure tC (W:World) (Z:gG) (o:Nat) (W':World) (Z':gG):Prop where
 os:W'.os=W.os
 tape:W'.tape=W.tape
 output:W'.output=W.output
 size:W.heap.size≤W'.heap.size
 keep:∀k,k<W.heap.size→Z k≠some o→W'.heap[k]? = W.heap[k]?
 sub:∀k,k<W.heap.size→Z k≠some o→Z' k=Z k
 z:Qi W' Z'
theorem qC.nil (W:World) (B:Nat) (Z:gG) (o:Nat):qC W B Z o (.slice none 0 0) []:=⟨World.ownsRow_nil _ _ _ _,fun k h=>by simp [Value.ownBlock] at h⟩
theorem Qi.lt {W:World} {Z:gG} (h:Qi W Z) {k o:Nat} (hk:Z k=some o):k<W.heap.size:=(h k (by rw [hk];simp)).1
theorem Qi.mono {W W':World} {Z:gG} (h:Qi W Z) (hs:W.heap.size≤W'.heap.size) (hk:∀k,Z k≠none→W'.heap[k]? = W.heap[k]?):Qi W' Z:=fun k hz=>by
 obtain ⟨h1,cs,h2⟩:=h k hz;exact ⟨by omega,cs,(hk k hz).trans h2⟩
theorem qC.mono {W W':World} {B:Nat} {Z:gG} {o:Nat} {v:Value} {l:List Nat} (h:qC W B Z o v l) (hk:∀k,Z k≠none→W'.heap[k]? = W.heap[k]?):qC W' B Z o v l:=
 ⟨jC h.1 fun k hb=>hk k (by rw [h.2 k hb];simp),h.2⟩
theorem tC.other {W W':World} {Z Z':gG} {o:Nat} (h:tC W Z o W' Z') {o' B:Nat} (ho:o'≠o) {v:Value} {l:List Nat} (hv:qC W B Z o' v l):qC W' B Z' o' v l:=by
 refine ⟨jC hv.1 fun k hk=>h.keep k (hv.1.lt k hk).2 fun e=>ho ?_,fun k hk=>?_⟩
 ·rw [hv.2 k hk] at e;injection e
 ·rw [h.sub k (hv.1.lt k hk).2 fun e=>ho (by rw [hv.2 k hk] at e;injection e)];exact hv.2 k hk
theorem tC.free {W W':World} {Z Z':gG} {o:Nat} (h:tC W Z o W' Z') {B n size:Nat} {e:TypeId} {v:Value} {xs:List Value} (hv:W.ownsRow B e size v n xs) (hz:∀k,v.ownBlock=some k→Z k=none):W'.ownsRow B e size v n xs∧∀k,v.ownBlock=some k→Z' k=none:=by
 refine ⟨jC hv fun k hk=>h.keep k (hv.lt k hk).2 fun e=>?_,fun k hk=>?_⟩
 ·rw [hz k hk] at e;cases e
 ·rw [h.sub k (hv.lt k hk).2 fun e=>(by rw [hz k hk] at e;cases e)];exact hz k hk
theorem tC.below {W W':World} {Z Z':gG} {o:Nat} (h:tC W Z o W' Z') {B:Nat} (hB:∀k,Z k≠none→B≤k) (hs:B≤W.heap.size):Below B W W':=
 ⟨h.os,h.tape,h.output,h.size,fun k hk=>h.keep k (by omega) fun e=>by have:=hB k (by rw [e];simp);omega⟩
theorem tC.iL {W W':World} {Z:gG} {o B:Nat} {v v':Value} {l l':List Nat} (hZ:Qi W Z) (hv:qC W B Z o v l) (ho:W'.ownsRow B aM 1 v' l'.length (aN l')) (hg:W.grownBy W' v.ownBlock) (hn:jV W v v') :
 ∃Z',tC W Z o W' Z'∧qC W' B Z' o v' l':=by
 refine ⟨fun k=>if v'.ownBlock=some k then some o else if v.ownBlock=some k then none else Z k,⟨hg.os,hg.tape,hg.output,hg.size,fun k hk hz=>hg.block k hk fun e=>hz (hv.2 k e.symm),fun k hk hz=>?_,fun k hk=>?_⟩,ho,fun k hk=>by simp [hk]⟩
 ·have e2:v.ownBlock≠some k:=fun e=>hz (hv.2 k e);have e1:v'.ownBlock≠some k:=fun e=>by
   rcases hn with hn|⟨k',h1,h2⟩
   ·exact e2 (hn▸e)
   ·rw [h1] at e;injection e with e;omega
  simp [e1,e2]
 ·by_cases e:v'.ownBlock=some k
  ·exact ⟨(ho.lt k e).2,bP ho e⟩
  ·simp only [if_neg e] at hk;by_cases e2:v.ownBlock=some k
   ·simp [e2] at hk
   ·simp only [if_neg e2] at hk;obtain ⟨h1,cs,h2⟩:=hZ k hk;have:=hg.size;exact ⟨by omega,cs,(hg.block k h1 fun e3=>e2 e3.symm).trans h2⟩
theorem lS {P:Program} {W:World} {ops:Array Oper} {rest:List Oper} {o:Oper} {a:Act} {Q:Exit→Act→World→Prop} (hgd:o.guard=none) (s x:Operand) (t:TypeId)
 (ho:o.op=.call { callee:=.builtin .append,args:=#[s,x],argTypes:=#[t,t] })
 (base:Nat) (e:TypeId) (z:Value) (bytes:Nat) (hE:Elem P t e z bytes) (Az:bytes≤100000)
 {v:Value} {n:Nat} {xs:List Value} (hs:a.eval s=v) (hown:W.ownsRow base e 1 v n xs) (hbase:base≤W.heap.size)
 (us:List Value) (tN:∀u∈us,u.oneCell'=true) (ad:Addr) (m c:Nat) (hm:m=us.length) (hx:a.eval x=.slice (some ad) m c) (hc:∀j u,us[j]? = some u→W.cell? (ad.add j)=some u) (hn:n+m<1000000)
 (h:∀v' W',W'.ownsRow base e 1 v' (n+m) (xs++us)→W.grownBy W' v.ownBlock→jV W v v'→wpList P ops Q rest (a.put o.dst v') W'):wpList P ops Q (o::rest) a W:=by
 obtain ⟨hz1,ht,i,hi,hz,hsize,hby⟩:=hE;have hl:us.length=m*i.size:=by rw [hsize];omega
 have hl1:us.length=m*1:=by omega
 have hbb:(n+m)*bytes≤140737488355328:=by
  have:(n+m)*bytes≤1000000*100000:=Nat.mul_le_mul (by omega) Az;omega
 obtain ⟨v',w',hr,h2,h3,_⟩:=run_append_own (P:=P) W base t o.type e i z 1 bytes ht hi hz hsize hby (jS hz1) (by decide) v n xs hown ad m c us hl1 hc tN (by unfold maxLen;omega) hbb hbase;refine Lib.wpList_append_run _ hgd s x _ _ ho v _ hs hx v' w' hr (h v' w' h2 h3 ?_);rcases Nat.eq_zero_or_pos m with hm0|hm0
 ·have hu0:us=[]:=List.length_eq_zero_iff.1 (by omega);subst hu0;subst hm0;have hr':(Builtin.append_ #[t,t] o.type #[v,.slice (some ad) 0 c]).run P W=.ok v W:=by
   rcases hown.2 with ⟨rfl,rfl⟩|⟨g,cap,cur,rfl,hbg,hg,hnc,hcm,hcs,htake⟩
   ·simp [Builtin.append_,run_underlying ht,sizeOf,typeInfo,hi,Builtin.lenOf,run_firstCells_some (P:=P) W i.size 0 ad 0 c [] hl hc]
   ·simp [Builtin.append_,run_underlying ht,sizeOf,typeInfo,hi,Builtin.lenOf,hnc,Builtin.firstCells,loadCells,loadCellsFrom,storeCells]
  rw [hr'] at hr;injection hr with e1 _;subst e1;exact .inl rfl
 ·rcases hown.2 with ⟨rfl,rfl⟩|⟨g,cap,cur,rfl,hbg,hg,hnc,hcm,hcs,htake⟩
  ·have hr':=run_append_nil (P:=P) W t o.type e i z ht hi hz ad m c us hl hc hm0 (by omega) (by rw [hby];have:=Nat.mul_le_mul (show m≤1000000 by omega) Az;omega);rw [hr'] at hr;injection hr with e1 _;subst e1;exact .inr ⟨_,rfl,Nat.le_refl _⟩
  ·by_cases hroom:n+m≤cap
   ·have hr':=run_append_room (P:=P) W t o.type e i ht hi g n cap cur hg ad m c us hl hc tN hroom (by rw [hsize,hcs];omega);rw [hr'] at hr;injection hr with e1 _;subst e1;exact .inl rfl
   ·have hr':=run_append_grow (P:=P) W t o.type e i z ht hi hz ⟨g,0,none⟩ n cap xs (by rw [hsize];exact hown.1) (hown.cells (g:=g) rfl) ad m c us hl hc (by omega) (by omega) (growslice_fits (by omega) (by rw [hby];omega));rw [hr'] at hr;injection hr with e1 _;subst e1;exact .inr ⟨_,rfl,Nat.le_refl _⟩
section
open Go.RowKit Go.Cd
theorem dN {W W':World} {k:Nat} {cs:Array Value} {T:TypeId} (h:Is W k cs T) (hk:W'.heap[k]? = W.heap[k]?):Is W' k cs T:=⟨hk.trans h.at_⟩
theorem dw {w:World} {base n:Nat} {e:TypeId} {v:Value} {xs:List Value} (h:w.ownsRow base e 1 v n xs) (hn:0<n):∃g cap,v=.slice (some ⟨g,0,none⟩) n cap∧n≤cap∧base≤g∧g<w.heap.size∧lQ w g e∧∀i u,xs[i]? = some u→w.cell? ⟨g,i,none⟩=some u:=by
 rcases h.2 with ⟨_,h0⟩|⟨g,cap,cur,rfl,hb,hg,hc,hm,hs,ht⟩
 ·omega
 ·refine ⟨g,cap,rfl,hc,hb,block_lt hg,⟨cur,hg⟩,fun i u hu=>?_⟩;unfold World.cell?;rw [hg,←ht,List.getElem?_take] at *
  split at hu
  ·simpa using hu
  ·cases hu
theorem y7 {P:Program} {ops:Array Oper} {C:World→Prop} {K:Act→Prop} {o:Oper} {rest:List Oper} {a:Act} (hg:o.guard=none) (h:o.quiet P a C (wpQuiet P ops C K rest)):wpQuiet P ops C K (o::rest) a:=by
 have hw:Region.wanted o (yielded ops a.tmps)=true:=by simp [Region.wanted,hg]
 simp only [wpQuiet];rw [if_pos hw];exact h
theorem wY {P:Program} {k:TypeId} {S:Nat→Prop} {w:World} {o:Oper} {a:Act} {next:Act→Prop} (m x:Operand) (t elem:TypeId) (ho:o.op=Op.lookup t m x false)
 (K:Maps.Keyed P k) (ht:P.underlying t=some (.map k elem)) {r:Nat} {G:Value→Value→Prop} (h:dC P k w r G) (hS:S r) (hm:a.eval m=.map (some r)) {xv:Value} (hx:a.eval x=xv) (hk:gU P k xv) {z:Value} (hz:∀w,(zeroValue elem).run P w=.ok z w)
 (u:Value) (hu:((∀v,¬G xv v)∧u=z)∨G xv u) (h1:next (a.put o.dst u)):o.quiet P a (fun w'=>∃g:uW (KR.blocks S) w,w'=g.tw) next:=by
 refine Ky m x t elem ho K ht h hS hm hx hk hz (fun hno=>?_) (fun v hv=>?_)
 ·rcases hu with ⟨_,rfl⟩|hg
  ·exact h1
  ·exact absurd hg (hno u)
 ·rcases hu with ⟨hno,_⟩|hg
  ·exact absurd hv (hno v)
  ·rw [h.one hv hg];exact h1
theorem Od {a b:Nat} (ha:a<1114112) (hb:b<1114112):gU Tryz.prog 192 (.agg #[.int .i32 a,.int .i32 b]):=by
 have hw:∀x:Nat,x<1114112→(Lit.int .i32 (x:Int)).wf=true:=fun x hx=>by
  have e1:IntKind.i32.min=-2147483648:=by decide
  have e2:IntKind.i32.max=2147483647:=by decide
  simp only [Lit.wf,e1,e2,Bool.and_eq_true,decide_eq_true_eq];omega
 have hk:∀(d x:Nat),x<1114112→Tryz.prog.keyLits (d+1) 21 [.int .i32 (x:Nat)]=some [.int .i32 (x:Nat)]:=fun d x hx=>by
  unfold Program.keyLits;simp [Tryz.underlying21,hw x hx]
 have hc1:Tryz.prog.cellsOf 21=1:=by kernel_rfl
 have hc2:Tryz.prog.cellsOf 192=2:=by kernel_rfl
 have hm:Tryz.prog.types.size+1=(Tryz.prog.types.size-1)+1+1:=by
  have:Tryz.prog.types.size=(Tryz.prog.types.size-1)+1:=by kernel_rfl
  omega
 have hkl:Tryz.prog.keyLits (Tryz.prog.types.size+1) 192 [.int .i32 (a:Nat),.int .i32 (b:Nat)]=some [.int .i32 (a:Nat),.int .i32 (b:Nat)]:=by
  rw [hm]
  conv=>lhs;unfold Program.keyLits
  simp [Tryz.underlying192,hc1,hc2,hk _ _ ha,hk _ _ hb]
 have hf:Value.formed Tryz.prog 192 (.agg #[.int .i32 (a:Nat),.int .i32 (b:Nat)])=true:=by simp [Value.formed,Tryz.underlying192,hc2]
 have hkt:Tryz.prog.keyType 192=true:=by kernel_rfl
 refine ⟨.string (keyBytes [.int .i32 (a:Nat),.int .i32 (b:Nat)]),?_⟩;unfold keyOf;simp only [Tryz.underlying192,hkt,hf,Bool.and_self,if_true];show (Tryz.prog.keyLits _ _ [.int .i32 (a:Nat),.int .i32 (b:Nat)]).map _=_;rw [hkl];rfl
theorem gL {W:World} {k:Nat} {cs:Array Value} {T:TypeId} (h:Is W k cs T):lQ W k T:=⟨cs,h.at_⟩
theorem mX {P:Program} {kt:TypeId} {w:World} {r:Nat} {G:Value→Value→Prop} (h:dC P kt w r G) {T:TypeId} (hc:lQ w r T):False:=by
 obtain ⟨es,ck,h1,_⟩:=h;obtain ⟨cs,h2⟩:=hc;rw [h1] at h2;cases h2
theorem Hf:mR Tryz.prog 185 190 (.agg #[.int .i32 0,.int .u16 0]) 2 8:=⟨rfl,Tryz.underlying185,info_parts (by kernel_rfl)⟩
theorem UY:mR Tryz.prog 97 86 (.agg #[.slice none 0 0,.slice none 0 0,.bool false]) 3 56:=⟨rfl,Tryz.underlying97,info_parts (by kernel_rfl)⟩
abbrev dZ:=Nat×Value×Value×Bool
def Hg (x:dZ):List Value:=[x.2.1,x.2.2.1,.bool x.2.2.2]
theorem Q9 (x:dZ):(Hg x).length=3:=rfl
def qP (E:List dZ):List (Nat×Nat):=E.zipIdx.map fun x=>(x.1.1,x.2+1)
theorem Hl (E:List dZ):(qP E).length=E.length:=by simp [qP]
theorem Oe (E:List dZ) (x:dZ):qP (E++[x])=qP E++[(x.1,E.length+1)]:=by simp [qP,List.zipIdx_append]
def y8 (T:List aH):List (Nat×Nat):=T.map fun r=>(r.code,r.cls)
theorem Hm (T:List aH):(y8 T).length=T.length:=by simp [y8]
def mapped (T:List aH):List aH:=T.filter fun r=>!r.map.isEmpty
structure bD (w w':World) (t:TypeId):Prop where
 size:w.heap.size≤w'.heap.size
 keep:∀k,k<w.heap.size→¬lQ w k t→w'.heap[k]? = w.heap[k]?
theorem bD.bK {w w':World} {base size n:Nat} {e:TypeId} {v:Value} {xs:List Value} (ho:w.ownsRow base e size v n xs) (hg:w.grownBy w' v.ownBlock):bD w w' e:=
 ⟨hg.size,fun k hk hc=>hg.block k hk fun e1=>hc (bP ho e1.symm)⟩
theorem bD.put {w:World} {p o:Nat} {cs:Array Value} {t:TypeId} (h:Is w p cs t) (u:Value):bD w (w.setCell ⟨p,o,none⟩ u) t:=
 ⟨by simp,fun k _ hc=>(bQ w p o u).block k (by assumption) fun e=>hc (by cases e;exact gL h)⟩
theorem bD.own {w w':World} {t:TypeId} (hc:bD w w' t) {base size n:Nat} {e:TypeId} {v:Value} {xs:List Value} (h:w.ownsRow base e size v n xs) (hne:e≠t):w'.ownsRow base e size v n xs:=
 jC h fun k hk=>hc.keep k (h.lt k hk).2 fun h1=>hne ((bP h hk).one h1)
theorem bD.is {w w':World} {t:TypeId} (hc:bD w w' t) {k:Nat} {cs:Array Value} {T:TypeId} (h:Is w k cs T) (hne:T≠t):Is w' k cs T:=
 dN h (hc.keep k h.lt fun h1=>hne ((gL h).one h1))
theorem bD.map {w w':World} {t:TypeId} (hc:bD w w' t) {P:Program} {kt:TypeId} {r:Nat} {G:Value→Value→Prop} (h:dC P kt w r G):dC P kt w' r G:=
 h.block (hc.keep r h.lt fun h1=>mX h h1)
theorem bD.z {w w':World} {t:TypeId} (hc:bD w w' t) {Z:gG} (h:Qi w Z) (hne:aM≠t):∀k,Z k≠none→w'.heap[k]? = w.heap[k]?:=
 fun k hk=>hc.keep k (h k hk).1 fun h1=>hne ((h k hk).2.one h1)
theorem tC.iD {W W':World} {Z Z':gG} {o:Nat} (h:tC W Z o W' Z') (hz:Qi W Z):bD W W' aM:=
 ⟨h.size,fun k hk hc=>h.keep k hk fun h1=>hc (hz k (by rw [h1];simp)).2⟩
def Q_ (x:aH×Value):List Value:=[.int .i32 x.1.code,.int .i64 x.1.cls,x.2]
def gH (w:World) (Z:gG) (v:Value) (l:List Nat):Prop:=w.ownsRow 0 aM 1 v l.length (aN l)∧∀k,v.ownBlock=some k→Z k=none
theorem gH.ext {w w':World} {Z:gG} {v:Value} {l:List Nat} (h:gH w Z v l) (hb:Below w.heap.size w w'):gH w' Z v l:=⟨aG h.1 hb,h.2⟩
theorem gH.iD {w w':World} {Z:gG} {v:Value} {l:List Nat} {t:TypeId} (h:gH w Z v l) (hc:bD w w' t) (hne:aM≠t):gH w' Z v l:=⟨hc.own h.1 hne,h.2⟩
theorem gH.push {w w':World} {Z Z':gG} {o:Nat} {v:Value} {l:List Nat} (h:gH w Z v l) (hs:tC w Z o w' Z'):gH w' Z' v l:=hs.free h.1 h.2
def y9 (T:List aH) (E:List dZ):List Nat:=E.flatMap fun x=>(aC T x.1).drop 1
def Ho (E:List dZ):List Nat:=E.map (·.1)
def AZ (T:List aH) (E:List dZ):List Nat:=(E.filter (·.2.2.2)).map fun x=>(bL T x.1).getD 1 0
def uy (T:List aH) (E:List dZ) (c:Nat):List Nat:=(E.filter fun x=>(aC T x.1).head? == some c).map (·.1)
def Xe (l:List Nat):Value:=.agg #[.int .i32 (l.getD 0 0:Nat),.int .i32 (l.getD 1 0:Nat)]
def wZ (T:List aH) (E:List dZ):Value→Value→Prop:=E.foldl (fun G x=>if x.2.2.2 then xH G (Xe (bL T x.1)) (.int .i32 (x.1:Nat)) else G) fun _ _=>False
theorem Og (T:List aH) (E:List dZ) (x:dZ):y9 T (E++[x])=y9 T E++(aC T x.1).drop 1:=by simp [y9]
theorem Oh (E:List dZ) (x:dZ):Ho (E++[x])=Ho E++[x.1]:=by simp [Ho]
theorem Ra (T:List aH) (E:List dZ) (x:dZ) (h:x.2.2.2=true):AZ T (E++[x])=AZ T E++[(bL T x.1).getD 1 0]:=by simp [AZ,List.filter_append,h]
theorem UZ (T:List aH) (E:List dZ) (x:dZ) (h:x.2.2.2=false):AZ T (E++[x])=AZ T E:=by simp [AZ,List.filter_append,h]
theorem Oi (T:List aH) (E:List dZ) (x:dZ) (h:x.2.2.2=true):wZ T (E++[x])=xH (wZ T E) (Xe (bL T x.1)) (.int .i32 (x.1:Nat)):=by simp [wZ,h]
theorem Rc (T:List aH) (E:List dZ) (x:dZ) (h:x.2.2.2=false):wZ T (E++[x])=wZ T E:=by simp [wZ,h]
theorem Oj (T:List aH) (E:List dZ) (x:dZ) (c0:Nat) (h:(aC T x.1).head? = some c0):uy T (E++[x])=fun c=>if c=c0 then uy T E c0++[x.1] else uy T E c:=by
 funext c;unfold uy;rw [List.filter_append,List.map_append];by_cases e:c=c0
 ·subst e;simp [h]
 ·rw [if_neg e];simp [h,Ne.symm e]
theorem y_ {T:List aH} (h:∀c,(aC T c).length≤32):∀E:List dZ,(y9 T E).length≤31*E.length
 | []=>Nat.le_refl _
 | x::E=>by
   have ih:=y_ h E;have:=h x.1;unfold y9 at ih ⊢;rw [List.flatMap_cons,List.length_append,List.length_drop,List.length_cons];omega
theorem Hq (T:List aH) (E:List dZ):(AZ T E).length≤E.length:=by
 unfold AZ;rw [List.length_map];exact List.length_filter_le _ _
theorem Re (T:List aH) (E:List dZ) (c:Nat):(uy T E c).length≤E.length:=by
 unfold uy;rw [List.length_map];exact List.length_filter_le _ _
structure KF (T:List aH) (E:List dZ) (l8 l9 l10:List Nat) (bg:Nat→List Nat) (jg:Value→Value→Prop):Prop where
 i8:l8=y9 T E
 i9:l9=AZ T E
 i10:l10=Ho E
 ib:bg=uy T E
 ij:jg=wZ T E
theorem KF.nil (T:List aH):KF T [] [] [] [] (fun _=>[]) (fun _ _=>False):=⟨rfl,rfl,rfl,rfl,rfl⟩
structure kM (T:List aH) (X:List Nat) (B p bM jM:Nat) (w:World) (jr jc je:Nat) (l8 l9 l10:List Nat) (bg:Nat→List Nat) (jg:Value→Value→Prop) (v6 v7 v8 v9 v10:Value) (rv xv ev:Value) (Z:gG) (E Ep:List dZ):Prop where
 is:Is w p #[rv,xv,.pointer none,.pointer none,ev,.map (some bM),.map (some jM),.slice none 0 0,.slice none 0 0,.slice none 0 0] 101
 rows:∃R:List (aH×Value),R.map (·.1)=T.take jr∧w.ownsRow B mV 3 rv jr (R.flatMap Q_)∧∀x∈R,gH w Z x.2 x.1.map
 oC:w.ownsRow B 86 3 ev E.length (E.flatMap Hg)
 lC:E.map (·.1)=(mapped (T.take je)).map (·.code)
 full:∀x∈E,gH w Z x.2.2.1 (aC T x.1)
 maps:∀x∈E,gH w Z x.2.1 (bL T x.1)
 pE:∀x∈E,x.2.2.2=true↔Prim T X x.1
 cls:w.ownsRow B 190 2 v6 jc ((y8 (T.take jc)).flatMap cellC)
 Qj:w.ownsRow B 190 2 v7 Ep.length ((qP Ep).flatMap cellC)
 Rf:wP v6 v7
 low:B≤p∧B≤bM∧B≤jM
 zb:∀k,Z k≠none→B≤k
 wk:Qi w Z
 w8:qC w B Z 0 v8 l8
 w9:qC w B Z 1 v9 l9
 xJ:qC w B Z 2 v10 l10
 bm:∃G,dC Tryz.prog 21 w bM G∧(∀x u,G x u→∃c:Nat,x=.int .i32 c∧qC w B Z (c+3) u (bg c))∧∀c:Nat,(∀u,¬G (.int .i32 c) u)→bg c=[]
 jm:dC Tryz.prog 192 w jM jg
section
variable {T : List aH} {X : List Nat} {B p bM jM : Nat} {w w' : World} {jr jc je : Nat} {l8 l9 l10 : List Nat} {bg : Nat → List Nat} {jg : Value → Value → Prop} {v6 v7 v8 v9 v10 rv xv ev : Value} {Z : gG} {E Ep : List dZ}
theorem kM.fresh (h:kM T X B p bM jM w jr jc je l8 l9 l10 bg jg v6 v7 v8 v9 v10 rv xv ev Z E Ep) {k:Nat} (hk:w.heap.size≤k):Z k=none:=by
 cases e:Z k with
 | none=>rfl
 | some o=>have:=h.wk.lt e;omega
theorem kM.mono (h:kM T X B p bM jM w jr jc je l8 l9 l10 bg jg v6 v7 v8 v9 v10 rv xv ev Z E Ep) (hb:Below w.heap.size w w'):kM T X B p bM jM w' jr jc je l8 l9 l10 bg jg v6 v7 v8 v9 v10 rv xv ev Z E Ep:=by
 have hz:∀k,Z k≠none→w'.heap[k]? = w.heap[k]?:=fun k hk=>hb.block k (h.wk k hk).1;obtain ⟨R,r1,r2,r3⟩:=h.rows;obtain ⟨G,g1,g2,g3⟩:=h.bm
 exact ⟨h.is.mono hb,⟨R,r1,aG r2 hb,fun x hx=>(r3 x hx).ext hb⟩,aG h.oC hb,h.lC,fun x hx=>(h.full x hx).ext hb,fun x hx=>(h.maps x hx).ext hb,h.pE,aG h.cls hb,aG h.Qj hb,h.Rf,h.low,h.zb,h.wk.mono hb.size hz,h.w8.mono hz,h.w9.mono hz,h.xJ.mono hz,
  ⟨G,g1.mono hb,fun x u hg=>by obtain ⟨c,e,hv⟩:=g2 x u hg;exact ⟨c,e,hv.mono hz⟩,g3⟩,h.jm.mono hb⟩
theorem kM.Rh (h:kM T X B p bM jM w jr jc je l8 l9 l10 bg jg v6 v7 v8 v9 v10 rv xv ev Z E Ep) {rv':Value} {R:List (aH×Value)} (r1:R.map (·.1)=T.take jr) (r2:w.ownsRow B mV 3 rv jr (R.flatMap Q_)) (r3:∀x∈R,gH w Z x.2 x.1.map) {q:aH} (hq:T[jr]? = some q) {mv:Value} (hm:gH w Z mv q.map)
 (ho:w'.ownsRow B mV 3 rv' (jr+1) (R.flatMap Q_++Q_ (q,mv))) (hg:w.grownBy w' rv.ownBlock) :
 kM T X B p bM jM (w'.setCell ⟨p,0,none⟩ rv') (jr+1) jc je l8 l9 l10 bg jg v6 v7 v8 v9 v10 rv' xv ev Z E Ep:=by
 have c1:=bD.bK r2 hg;have i1:=c1.is h.is (by decide);have c2:=bD.put (o:=0) i1 rv';have z1:=c1.z h.wk (by decide);have wk1:=h.wk.mono c1.size z1;have z2:=c2.z wk1 (by decide);obtain ⟨G,g1,g2,g3⟩:=h.bm
 refine ⟨i1.set 0 rv',⟨R++[(q,mv)],by rw [List.map_append,r1,List.take_add_one,hq];rfl,?_,fun x hx=>?_⟩,c2.own (c1.own h.oC (by decide)) (by decide),h.lC,fun x hx=>((h.full x hx).iD c1 (by decide)).iD c2 (by decide),fun x hx=>((h.maps x hx).iD c1 (by decide)).iD c2 (by decide),h.pE,
  c2.own (c1.own h.cls (by decide)) (by decide),c2.own (c1.own h.Qj (by decide)) (by decide),h.Rf,h.low,h.zb,
  wk1.mono c2.size z2,(h.w8.mono z1).mono z2,(h.w9.mono z1).mono z2,(h.xJ.mono z1).mono z2,⟨G,c2.map (c1.map g1),fun x u hg=>by obtain ⟨c,e,hv⟩:=g2 x u hg;exact ⟨c,e,(hv.mono z1).mono z2⟩,g3⟩,c2.map (c1.map h.jm)⟩
 ·rw [List.flatMap_append];exact c2.own (by simpa using ho) (by decide)
 ·rcases List.mem_append.1 hx with hx|hx
  ·exact ((r3 x hx).iD c1 (by decide)).iD c2 (by decide)
  ·rw [List.mem_singleton.1 hx];exact (hm.iD c1 (by decide)).iD c2 (by decide)
theorem kM.U0 (h:kM T X B p bM jM w jr jc je l8 l9 l10 bg jg v6 v7 v8 v9 v10 rv xv ev Z E Ep) {v6':Value} (ho:w'.ownsRow B 190 2 v6' (jc+1) ((y8 (T.take (jc+1))).flatMap cellC)) (hg:w.grownBy w' v6.ownBlock) (hn:jV w v6 v6') :
 kM T X B p bM jM w' jr (jc+1) je l8 l9 l10 bg jg v6' v7 v8 v9 v10 rv xv ev Z E Ep:=by
 obtain ⟨R,r1,r2,r3⟩:=h.rows;have c1:=bD.bK h.cls hg;have z1:=c1.z h.wk (by decide);obtain ⟨G,g1,g2,g3⟩:=h.bm
 exact ⟨c1.is h.is (by decide),⟨R,r1,c1.own r2 (by decide),fun x hx=>(r3 x hx).iD c1 (by decide)⟩,c1.own h.oC (by decide),h.lC,fun x hx=>(h.full x hx).iD c1 (by decide),fun x hx=>(h.maps x hx).iD c1 (by decide),h.pE,ho,h.Rf.symm.stays h.Qj hg,(h.Rf.symm.push (fun k hk=>(h.Qj.lt k hk).2) hn).symm,h.low,h.zb,
  h.wk.mono c1.size z1,h.w8.mono z1,h.w9.mono z1,h.xJ.mono z1,⟨G,c1.map g1,fun x u hg=>by obtain ⟨c,e,hv⟩:=g2 x u hg;exact ⟨c,e,hv.mono z1⟩,g3⟩,c1.map h.jm⟩
theorem kM.U1 (h:kM T X B p bM jM w jr jc je l8 l9 l10 bg jg v6 v7 v8 v9 v10 rv xv ev Z E Ep) {v7':Value} {Ep':List dZ} (ho:w'.ownsRow B 190 2 v7' Ep'.length ((qP Ep').flatMap cellC)) (hg:w.grownBy w' v7.ownBlock) (hn:jV w v7 v7') :
 kM T X B p bM jM w' jr jc je l8 l9 l10 bg jg v6 v7' v8 v9 v10 rv xv ev Z E Ep':=by
 obtain ⟨R,r1,r2,r3⟩:=h.rows;have c1:=bD.bK h.Qj hg;have z1:=c1.z h.wk (by decide);obtain ⟨G,g1,g2,g3⟩:=h.bm
 exact ⟨c1.is h.is (by decide),⟨R,r1,c1.own r2 (by decide),fun x hx=>(r3 x hx).iD c1 (by decide)⟩,c1.own h.oC (by decide),h.lC,fun x hx=>(h.full x hx).iD c1 (by decide),fun x hx=>(h.maps x hx).iD c1 (by decide),h.pE,h.Rf.stays h.cls hg,ho,h.Rf.push (fun k hk=>(h.cls.lt k hk).2) hn,h.low,h.zb,
  h.wk.mono c1.size z1,h.w8.mono z1,h.w9.mono z1,h.xJ.mono z1,⟨G,c1.map g1,fun x u hg=>by obtain ⟨c,e,hv⟩:=g2 x u hg;exact ⟨c,e,hv.mono z1⟩,g3⟩,c1.map h.jm⟩
theorem kM.Ri (h:kM T X B p bM jM w jr jc je l8 l9 l10 bg jg v6 v7 v8 v9 v10 rv xv ev Z E Ep) {ev':Value} {x:dZ} {ZZ:Nat} (ho:w'.ownsRow B 86 3 ev' (E.length+1) (E.flatMap Hg++Hg x)) (hg:w.grownBy w' ev.ownBlock)
 (hf:gH w Z x.2.2.1 (aC T x.1)) (hm:gH w Z x.2.1 (bL T x.1)) (hp:x.2.2.2=true↔Prim T X x.1) (hl:(E++[x]).map (·.1)=(mapped (T.take ZZ)).map (·.code)) :
 kM T X B p bM jM (w'.setCell ⟨p,4,none⟩ ev') jr jc ZZ l8 l9 l10 bg jg v6 v7 v8 v9 v10 rv xv ev' Z (E++[x]) Ep:=by
 obtain ⟨R,r1,r2,r3⟩:=h.rows;have c1:=bD.bK h.oC hg;have i1:=c1.is h.is (by decide);have c2:=bD.put (o:=4) i1 ev';have z1:=c1.z h.wk (by decide);have wk1:=h.wk.mono c1.size z1;have z2:=c2.z wk1 (by decide);obtain ⟨G,g1,g2,g3⟩:=h.bm;have he:w'.ownsRow B 86 3 ev' (E++[x]).length ((E++[x]).flatMap Hg):=by
  rw [List.length_append,List.flatMap_append];simpa using ho
 refine ⟨i1.set 4 ev',⟨R,r1,c2.own (c1.own r2 (by decide)) (by decide),fun x hx=>((r3 x hx).iD c1 (by decide)).iD c2 (by decide)⟩,c2.own he (by decide),hl,fun y hy=>?_,fun y hy=>?_,fun y hy=>?_,c2.own (c1.own h.cls (by decide)) (by decide),c2.own (c1.own h.Qj (by decide)) (by decide),h.Rf,h.low,h.zb,
  wk1.mono c2.size z2,(h.w8.mono z1).mono z2,(h.w9.mono z1).mono z2,(h.xJ.mono z1).mono z2,⟨G,c2.map (c1.map g1),fun x u hg=>by obtain ⟨c,e,hv⟩:=g2 x u hg;exact ⟨c,e,(hv.mono z1).mono z2⟩,g3⟩,c2.map (c1.map h.jm)⟩
 ·rcases List.mem_append.1 hy with hy|hy
  ·exact ((h.full y hy).iD c1 (by decide)).iD c2 (by decide)
  ·rw [List.mem_singleton.1 hy];exact (hf.iD c1 (by decide)).iD c2 (by decide)
 ·rcases List.mem_append.1 hy with hy|hy
  ·exact ((h.maps y hy).iD c1 (by decide)).iD c2 (by decide)
  ·rw [List.mem_singleton.1 hy];exact (hm.iD c1 (by decide)).iD c2 (by decide)
 ·rcases List.mem_append.1 hy with hy|hy
  ·exact h.pE y hy
  ·rw [List.mem_singleton.1 hy];exact hp
theorem kM.Rj (h:kM T X B p bM jM w jr jc je l8 l9 l10 bg jg v6 v7 v8 v9 v10 rv xv ev Z E Ep) {Z':gG} {o:Nat} (hs:tC w Z o w' Z') {l8' l9' aa8:List Nat} {v8' v9' aa9:Value}
 (h8:qC w' B Z' 0 v8' l8') (h9:qC w' B Z' 1 v9' l9') (h10:qC w' B Z' 2 aa9 aa8) (hb:∀(c:Nat) (u:Value) (l:List Nat),qC w B Z (c+3) u l→qC w' B Z' (c+3) u l) :
 kM T X B p bM jM w' jr jc je l8' l9' aa8 bg jg v6 v7 v8' v9' aa9 rv xv ev Z' E Ep:=by
 have Nr:B≤w.heap.size:=by have:=h.is.lt;have:=h.low.1;omega
 obtain ⟨R,r1,r2,r3⟩:=h.rows;obtain ⟨G,g1,g2,g3⟩:=h.bm;have hc:=hs.iD h.wk
 refine ⟨hc.is h.is (by decide),⟨R,r1,hc.own r2 (by decide),fun x hx=>(r3 x hx).push hs⟩,hc.own h.oC (by decide),h.lC,fun x hx=>(h.full x hx).push hs,fun x hx=>(h.maps x hx).push hs,h.pE,hc.own h.cls (by decide),hc.own h.Qj (by decide),h.Rf,h.low,fun k hk=>?_,hs.z,h8,h9,h10,
  ⟨G,hc.map g1,fun x u hg=>by obtain ⟨c,e,hv⟩:=g2 x u hg;exact ⟨c,e,hb c u _ hv⟩,g3⟩,hc.map h.jm⟩
 by_cases hlt:k<w.heap.size
 ·by_cases e:Z k=some o
  ·exact h.zb k (by rw [e];simp)
  ·rw [hs.sub k hlt e] at hk;exact h.zb k hk
 ·omega
theorem kM.MF (h:kM T X B p bM jM w jr jc je l8 l9 l10 bg jg v6 v7 v8 v9 v10 rv xv ev Z E Ep) {Z':gG} (hs:tC w Z 0 w' Z') {l:List Nat} {v:Value} (hv:qC w' B Z' 0 v l) :
 kM T X B p bM jM w' jr jc je l l9 l10 bg jg v6 v7 v v9 v10 rv xv ev Z' E Ep:=h.Rj hs hv (hs.other (by decide) h.w9) (hs.other (by decide) h.xJ) fun c u l hl=>hs.other (by omega) hl
theorem kM.aa_ (h:kM T X B p bM jM w jr jc je l8 l9 l10 bg jg v6 v7 v8 v9 v10 rv xv ev Z E Ep) {Z':gG} (hs:tC w Z 1 w' Z') {l:List Nat} {v:Value} (hv:qC w' B Z' 1 v l) :
 kM T X B p bM jM w' jr jc je l8 l l10 bg jg v6 v7 v8 v v10 rv xv ev Z' E Ep:=h.Rj hs (hs.other (by decide) h.w8) hv (hs.other (by decide) h.xJ) fun c u l hl=>hs.other (by omega) hl
theorem kM.D8 (h:kM T X B p bM jM w jr jc je l8 l9 l10 bg jg v6 v7 v8 v9 v10 rv xv ev Z E Ep) {Z':gG} (hs:tC w Z 2 w' Z') {l:List Nat} {v:Value} (hv:qC w' B Z' 2 v l) :
 kM T X B p bM jM w' jr jc je l8 l9 l bg jg v6 v7 v8 v9 v rv xv ev Z' E Ep:=h.Rj hs (hs.other (by decide) h.w8) (hs.other (by decide) h.w9) hv fun c u l hl=>hs.other (by omega) hl
theorem kM.aba (h:kM T X B p bM jM w jr jc je l8 l9 l10 bg jg v6 v7 v8 v9 v10 rv xv ev Z E Ep) {ZZ:Nat} (hl:E.map (·.1)=(mapped (T.take ZZ)).map (·.code)):kM T X B p bM jM w jr jc ZZ l8 l9 l10 bg jg v6 v7 v8 v9 v10 rv xv ev Z E Ep:=
 ⟨h.is,h.rows,h.oC,hl,h.full,h.maps,h.pE,h.cls,h.Qj,h.Rf,h.low,h.zb,h.wk,h.w8,h.w9,h.xJ,h.bm,h.jm⟩
structure abb (T:List aH) (X:List Nat) (B p bM jM:Nat) (w:World) (jr jc je:Nat) (l8 l9 l10:List Nat) (bg:Nat→List Nat) (jg:Value→Value→Prop) (v6 v7 v8 v9 v10:Value) (rv xv ev:Value) (Z:gG) (E Ep:List dZ) (G:Value→Value→Prop) (c0:Nat) (l:List Nat) (v:Value):Prop where
 map:dC Tryz.prog 21 w bM G
 row:qC w B Z (c0+3) v l
 st:∀w2,dC Tryz.prog 21 w2 bM (xH G (.int .i32 c0) v)→w.grownBy w2 (some bM)→bM≠jM→kM T X B p bM jM w2 jr jc je l8 l9 l10 (fun c=>if c=c0 then l else bg c) jg v6 v7 v8 v9 v10 rv xv ev Z E Ep
theorem kM.pushB (h:kM T X B p bM jM w jr jc je l8 l9 l10 bg jg v6 v7 v8 v9 v10 rv xv ev Z E Ep) {Z':gG} {c0:Nat} (hs:tC w Z (c0+3) w' Z') {l:List Nat} {v:Value} (hv:qC w' B Z' (c0+3) v l) {G:Value→Value→Prop}
 (g1:dC Tryz.prog 21 w bM G) (g2:∀x u,G x u→∃c:Nat,x=.int .i32 c∧qC w B Z (c+3) u (bg c)) (g3:∀c:Nat,(∀u,¬G (.int .i32 c) u)→bg c=[]) :
 abb T X B p bM jM w' jr jc je l8 l9 l10 bg jg v6 v7 v8 v9 v10 rv xv ev Z' E Ep G c0 l v:=by
 have Nr:B≤w.heap.size:=by have:=h.is.lt;have:=h.low.1;omega
 have hc:=hs.iD h.wk;obtain ⟨R,r1,r2,r3⟩:=h.rows;refine ⟨hc.map g1,hv,fun w2 m2 gr hne=>?_⟩;have hk:∀k t,lQ w' k t→k<w'.heap.size→w2.heap[k]? = w'.heap[k]?:=fun k t hk hlt=>gr.block k hlt fun e=>by
  injection e with e;subst e;exact mX (hc.map g1) hk
 have ho:∀{base size n:Nat} {e:TypeId} {v:Value} {xs:List Value},w'.ownsRow base e size v n xs→w2.ownsRow base e size v n xs:=fun ho=>jC ho fun k hk1=>hk k _ (bP ho hk1) (ho.lt k hk1).2;have hf:∀{v:Value} {l:List Nat},gH w' Z' v l→gH w2 Z' v l:=fun hf=>⟨ho hf.1,hf.2⟩;have hz:∀k,Z' k≠none→w2.heap[k]? = w'.heap[k]?:=fun k hk1=>hk k _ (hs.z k hk1).2 (hs.z k hk1).1;have hi:=hc.is h.is (by decide)
 refine ⟨dN hi (hk p _ (gL hi) hi.lt),⟨R,r1,ho (hc.own r2 (by decide)),fun x hx=>hf ((r3 x hx).push hs)⟩,ho (hc.own h.oC (by decide)),h.lC,fun x hx=>hf ((h.full x hx).push hs),fun x hx=>hf ((h.maps x hx).push hs),h.pE,ho (hc.own h.cls (by decide)),ho (hc.own h.Qj (by decide)),h.Rf,h.low,fun k hk=>?_,hs.z.mono gr.size hz,
  (hs.other (by omega) h.w8).mono hz,(hs.other (by omega) h.w9).mono hz,(hs.other (by omega) h.xJ).mono hz,⟨_,m2,fun x u hg=>?_,fun c hc=>?_⟩,(hc.map h.jm).block (gr.block jM (hc.map h.jm).lt fun e=>by injection e with e;exact hne e.symm)⟩
 ·by_cases hlt:k<w.heap.size
  ·by_cases e:Z k=some (c0+3)
   ·exact h.zb k (by rw [e];simp)
   ·rw [hs.sub k hlt e] at hk;exact h.zb k hk
  ·omega
 ·rcases hg with ⟨rfl,rfl⟩|⟨hx,hg⟩
  ·exact ⟨c0,rfl,by simp only [if_true];exact hv.mono hz⟩
  ·obtain ⟨c,rfl,hu⟩:=g2 x u hg;have hcc:c≠c0:=fun e=>hx (by rw [e]);exact ⟨c,rfl,by simp only [if_neg hcc];exact (hs.other (by omega) hu).mono hz⟩
 ·have hcc:c≠c0:=fun e=>hc v (.inl ⟨by rw [e],rfl⟩);simp only [if_neg hcc];exact g3 c fun u hu=>hc u (.inr ⟨fun e=>hcc (by injection e with _ e;omega),hu⟩)
theorem kM.afb (h:kM T X B p bM jM w jr jc je l8 l9 l10 bg jg v6 v7 v8 v9 v10 rv xv ev Z E Ep) (hne:bM≠jM) {G:Value→Value→Prop} (hG:dC Tryz.prog 192 w' jM G) (hg:w.grownBy w' (some jM)) :
 kM T X B p bM jM w' jr jc je l8 l9 l10 bg G v6 v7 v8 v9 v10 rv xv ev Z E Ep:=by
 obtain ⟨R,r1,r2,r3⟩:=h.rows;obtain ⟨G0,g1,g2,g3⟩:=h.bm;have hk:∀k t,lQ w k t→k<w.heap.size→w'.heap[k]? = w.heap[k]?:=fun k t hk hlt=>hg.block k hlt fun e=>by
  injection e with e;subst e;exact mX h.jm hk
 have ho:∀{base size n:Nat} {e:TypeId} {v:Value} {xs:List Value},w.ownsRow base e size v n xs→w'.ownsRow base e size v n xs:=fun ho=>jC ho fun k hk1=>hk k _ (bP ho hk1) (ho.lt k hk1).2;have hf:∀{v:Value} {l:List Nat},gH w Z v l→gH w' Z v l:=fun hf=>⟨ho hf.1,hf.2⟩;have hz:∀k,Z k≠none→w'.heap[k]? = w.heap[k]?:=fun k hk1=>hk k _ (h.wk k hk1).2 (h.wk k hk1).1
 exact ⟨dN h.is (hk p _ (gL h.is) h.is.lt),⟨R,r1,ho r2,fun x hx=>hf (r3 x hx)⟩,ho h.oC,h.lC,fun x hx=>hf (h.full x hx),fun x hx=>hf (h.maps x hx),h.pE,ho h.cls,ho h.Qj,h.Rf,h.low,h.zb,h.wk.mono hg.size hz,h.w8.mono hz,h.w9.mono hz,h.xJ.mono hz,
  ⟨G0,g1.block (hg.block bM g1.lt fun e=>by injection e with e;exact hne e),fun x u hgx=>by obtain ⟨c,e,hv⟩:=g2 x u hgx;exact ⟨c,e,hv.mono hz⟩,g3⟩,hG⟩
end
theorem U2 {w:World} (c:Int) (k n cp:Nat) (a:Option Addr) (h:k≠0∨n≠0) :
 Calls Tryz.prog 88 #[.agg #[.int .i32 c,.int .i64 k,.slice a n cp]] w fun e w'=>e=.returned (.bool true)∧Below w.heap.size w w':=by
 have hb:=af (w:=w) (.cells #[.int .i32 c,.int .i64 k,.slice a n cp] 187);have k0:=Is.new w #[.int .i32 c,.int .i64 k,.slice a n cp] 187;have e0:=k0.at 0 rfl;have e1:=k0.at 1 rfl;have e2:=k0.at 2 rfl;go_enter Tryz.func88,Tryz.ntmps88;by_cases hk:k=0
 ·have hn:n≠0:=by omega
  subst hk;have z:decide (0<n)=true:=by simp;omega
  have z0:((0:Nat):Int)=0:=rfl;go_wp2;go_ret;exact ⟨by simp,hb⟩
 ·have z:decide (0<k)=true:=by simp;omega
  go_wp2;go_ret;exact ⟨rfl,hb⟩
end
section
open Go.RowKit Go.Cd
theorem kK.put {w:World} {p k o:Nat} {f:Nat→Nat} {cs:Array Value} {T:TypeId} (h:kK w p f) (hk:Is w k cs T) (hs:cs.size≤100) (u:Value):kK (w.setCell ⟨k,o,none⟩ u) p f:=by
 obtain ⟨idx,nb,B,cap,h1,h2,h3,h3',h4,h5,h6⟩:=h;have hp:p≠k:=fun e=>by
  subst e;rw [hk.cell] at h4;have:=(Array.getElem?_eq_some_iff.1 h4).1;omega
 have hB:B≠k:=fun e=>by
  subst e;have h7:=(h6 255 (by decide)).2;rw [hk.cell] at h7;have:=(Array.getElem?_eq_some_iff.1 h7).1;omega
 have keep:∀b,b≠k→∀o',(w.setCell ⟨k,o,none⟩ u).cell? ⟨b,o',none⟩=w.cell? ⟨b,o',none⟩:=fun b hb o'=>World.cell?_of_block (a:=⟨b,o',none⟩) (Below.heap_setCell _ _ _ _ (by simp only;exact fun e=>hb e));exact ⟨idx,nb,B,cap,by simpa using h1,by simpa using h2,h3,h3',(keep p hp _).trans h4,fun n hn=>⟨(h5 n hn).1,(keep p hp _).trans (h5 n hn).2⟩,fun c hc=>⟨(h6 c hc).1,(keep B hB _).trans (h6 c hc).2⟩⟩
def A7 (w:World) (v:Value) (l:List Nat):Prop:=w.ownsRow 0 aM 1 v (lh (h_ l)).length (aN (lh (h_ l)))
structure A8 (T:List aH) (X:List Nat) (E:List dZ) (w:World) (p:Nat) (rv xv ev:Value) (bM jM:Nat) (cp pp iv sv mv:Value):Prop where
 is:Is w p #[rv,xv,cp,pp,ev,.map (some bM),.map (some jM),iv,sv,mv] 101
 rows:∃R:List (aH×Value),R.map (·.1)=T∧w.ownsRow 0 mV 3 rv T.length (R.flatMap Q_)∧∀x∈R,w.ownsRow 0 aM 1 x.2 x.1.map.length (aN x.1.map)
 oC:w.ownsRow 0 86 3 ev E.length (E.flatMap Hg)
 lC:E.map (·.1)=(mapped T).map (·.code)
 full:∀x∈E,w.ownsRow 0 aM 1 x.2.2.1 (aC T x.1).length (aN (aC T x.1))
 maps:∀x∈E,w.ownsRow 0 aM 1 x.2.1 (bL T x.1).length (aN (bL T x.1))
 pE:∀x∈E,x.2.2.2=true↔Prim T X x.1
 bm:∃G,dC Tryz.prog 21 w bM G∧(∀x u,G x u→∃c:Nat,x=.int .i32 c∧w.ownsRow 0 aM 1 u (uy T E c).length (aN (uy T E c)))∧∀c:Nat,(∀u,¬G (.int .i32 c) u)→uy T E c=[]
 jm:dC Tryz.prog 192 w jM (wZ T E)
section
variable {T : List aH} {X : List Nat} {E : List dZ} {w w' : World} {p bM jM : Nat} {rv xv ev cp pp iv sv mv : Value}
theorem A8.mono (h:A8 T X E w p rv xv ev bM jM cp pp iv sv mv) (hb:Below w.heap.size w w'):A8 T X E w' p rv xv ev bM jM cp pp iv sv mv:=by
 obtain ⟨R,r1,r2,r3⟩:=h.rows;obtain ⟨G,g1,g2,g3⟩:=h.bm
 exact ⟨h.is.mono hb,⟨R,r1,aG r2 hb,fun x hx=>aG (r3 x hx) hb⟩,aG h.oC hb,h.lC,fun x hx=>aG (h.full x hx) hb,fun x hx=>aG (h.maps x hx) hb,h.pE,
  ⟨G,g1.mono hb,fun x u hg=>by obtain ⟨c,e,hv⟩:=g2 x u hg;exact ⟨c,e,aG hv hb⟩,g3⟩,h.jm.mono hb⟩
theorem A8.put (h:A8 T X E w p rv xv ev bM jM cp pp iv sv mv) (o:Nat) (u:Value) {cp' pp' iv' sv' mv':Value}
 (he:(#[rv,xv,cp,pp,ev,.map (some bM),.map (some jM),iv,sv,mv]:Array Value).setIfInBounds o u=#[rv,xv,cp',pp',ev,.map (some bM),.map (some jM),iv',sv',mv']):A8 T X E (w.setCell ⟨p,o,none⟩ u) p rv xv ev bM jM cp' pp' iv' sv' mv':=by
 have c1:=bD.put (o:=o) h.is u;obtain ⟨R,r1,r2,r3⟩:=h.rows;obtain ⟨G,g1,g2,g3⟩:=h.bm
 exact ⟨he▸h.is.set o u,⟨R,r1,c1.own r2 (by decide),fun x hx=>c1.own (r3 x hx) (by decide)⟩,c1.own h.oC (by decide),h.lC,fun x hx=>c1.own (h.full x hx) (by decide),fun x hx=>c1.own (h.maps x hx) (by decide),h.pE,
  ⟨G,c1.map g1,fun x u hg=>by obtain ⟨c,e,hv⟩:=g2 x u hg;exact ⟨c,e,c1.own hv (by decide)⟩,g3⟩,c1.map h.jm⟩
theorem A7.put {l:List Nat} {v:Value} (h:A7 w v l) {cs:Array Value} (hk:Is w p cs 101) (o:Nat) (u:Value):A7 (w.setCell ⟨p,o,none⟩ u) v l:=(bD.put (o:=o) hk u).own h (by decide)
theorem A7.mono {l:List Nat} {v:Value} (h:A7 w v l) (hb:Below w.heap.size w w'):A7 w' v l:=aG h hb
end
theorem A8.of {T:List aH} {X:List Nat} {B p bM jM:Nat} {w:World} {l8 l9 l10:List Nat} {bg:Nat→List Nat} {jg:Value→Value→Prop} {v6 v7 v8 v9 v10 rv xv ev:Value} {Z:gG} {E:List dZ}
 (h:kM T X B p bM jM w T.length T.length T.length l8 l9 l10 bg jg v6 v7 v8 v9 v10 rv xv ev Z E E) (hs:KF T E l8 l9 l10 bg jg):A8 T X E w p rv xv ev bM jM (.pointer none) (.pointer none) (.slice none 0 0) (.slice none 0 0) (.slice none 0 0):=by
 have ht:T.take T.length=T:=List.take_length;obtain ⟨R,r1,r2,r3⟩:=h.rows;obtain ⟨G,g1,g2,g3⟩:=h.bm;rw [hs.ib] at g2 g3
 exact ⟨h.is,⟨R,by rw [r1,ht],aV r2 (Nat.zero_le _),fun x hx=>(r3 x hx).1⟩,aV h.oC (Nat.zero_le _),by rw [h.lC,ht],fun x hx=>(h.full x hx).1,fun x hx=>(h.maps x hx).1,h.pE,
  ⟨G,g1,fun x u hg=>by obtain ⟨c,e,hv⟩:=g2 x u hg;exact ⟨c,e,aV hv.1 (Nat.zero_le _)⟩,g3⟩,by rw [←hs.ij];exact h.jm⟩
def b_ (w:World) (p:Nat) (T:List aH) (X:List Nat):Prop:=
 ∃E rv xv ev bM jM cp pp iv sv mv,A8 T X E w p rv xv ev bM jM (.pointer (some ⟨cp,0,none⟩)) (.pointer (some ⟨pp,0,none⟩)) iv sv mv∧kK w cp (iK (y8 T))∧kK w pp (iK (qP E))∧
  A7 w iv (y9 T E)∧A7 w sv (AZ T E)∧A7 w mv (Ho E)∧bB w xv (aN (jR X))
theorem b_.mono {w w':World} {p:Nat} {T:List aH} {X:List Nat} (h:b_ w p T X) (hb:Below w.heap.size w w'):b_ w' p T X:=by
 obtain ⟨E,rv,xv,ev,bM,jM,cp,pp,iv,sv,mv,h1,h2,h3,h4,h5,h6,h7⟩:=h;exact ⟨E,rv,xv,ev,bM,jM,cp,pp,iv,sv,mv,h1.mono hb,h2.mono hb,h3.mono hb,h4.mono hb,h5.mono hb,h6.mono hb,h7.mono hb⟩
end
end Go.Proofs.YtmpkfkoficehpaaGreatDoor
namespace Go.Cd
section
section
variable (K : Nat → Nat)
def jN (c:Nat):List Nat→List Nat
 | []=>[c]
 | d::l=>if 0<K d∧K d<K c then d::jN c l else c::d::l
def fZ:List Nat→List Nat
 | []=>[]
 | c::l=>jN K c (fZ l)
def swp (a b:Nat):Prop:=0<K b∧K b<K a
def dP:List Nat→Prop
 | []=>True
 | [_]=>True
 | a::b::l=>¬swp K a b∧dP (b::l)
theorem Co {a b:Nat} (h:swp K a b):∀l,jN K a (jN K b l)=jN K b (jN K a l)
 | []=>by
   unfold swp at h;simp only [jN];rw [if_pos h,if_neg (by omega)]
 | d::l=>by
   have ih:=Co h l;unfold swp at h;by_cases h1:0<K d∧K d<K b
   ·have h2:0<K d∧K d<K a:=by omega
    simp only [jN,if_pos h1,if_pos h2];rw [ih]
   ·by_cases h2:0<K d∧K d<K a
    ·simp only [jN,if_neg h1,if_pos h2,if_pos h]
    ·simp only [jN,if_neg h1,if_neg h2,if_pos h];rw [if_neg (by omega)]
theorem vK {a b:Nat} (h:swp K a b) (y:List Nat):∀x:List Nat,fZ K (x++a::b::y)=fZ K (x++b::a::y)
 | []=>Co K h _
 | c::x=>by
   show jN K c (fZ K (x++a::b::y))=jN K c (fZ K (x++b::a::y));rw [vK h y x]
theorem nN:∀{l:List Nat},dP K l→fZ K l=l
 | [],_=>rfl
 | [a],_=>rfl
 | a::b::l,h=>by
   show jN K a (fZ K (b::l))=_;rw [nN h.2];simp only [jN];exact if_neg h.1
def Hr (a:Nat):List Nat→List Nat
 | []=>[a]
 | b::l=>if 0<K b∧K b<K a then b::Hr a l else a::Hr b l
def pass:List Nat→List Nat
 | []=>[]
 | a::l=>Hr K a l
theorem pF (a b:Nat) (l:List Nat):Hr K a (b::l)=if 0<K b∧K b<K a then b::Hr K a l else a::Hr K b l:=rfl
theorem D9:∀(l:List Nat) (a:Nat),(Hr K a l).length=l.length+1
 | [],_=>rfl
 | b::l,a=>by
   rw [pF]
   split
   ·rw [List.length_cons,D9 l];rfl
   ·rw [List.length_cons,D9 l];rfl
theorem Rk (l:List Nat):(pass K l).length=l.length:=by
 cases l with
 | nil=>rfl
 | cons a l=>exact D9 K l a
theorem za:∀(l:List Nat) (a:Nat) (x:List Nat),fZ K (x++Hr K a l)=fZ K (x++a::l)
 | [],_,_=>rfl
 | b::l,a,x=>by
   rw [pF]
   split
   ·rename_i h;rw [vK K h l x,show x++b::Hr K a l=(x++[b])++Hr K a l by simp,za l a (x++[b])];simp
   ·rw [show x++a::Hr K b l=(x++[a])++Hr K b l by simp,za l b (x++[a])];simp
theorem Ol (l:List Nat):fZ K (pass K l)=fZ K l:=by
 cases l with
 | nil=>rfl
 | cons a l=>exact za K l a []
def passes:Nat→List Nat→List Nat
 | 0,l=>l
 | n+1,l=>passes n (pass K l)
theorem w_:∀(n:Nat) (l:List Nat),fZ K (passes K n l)=fZ K l
 | 0,_=>rfl
 | n+1,l=>by show fZ K (passes K n (pass K l))=_;rw [w_ n,Ol]
theorem ze:∀(n:Nat) (l:List Nat),(passes K n l).length=l.length
 | 0,_=>rfl
 | n+1,l=>by show (passes K n (pass K l)).length=_;rw [ze n,Rk]
def gt (x:Nat) (l:List Nat):Nat:=l.countP fun y=>decide (K x<K y)
def U3 (n:Nat):List Nat→List Nat→Prop
 | _,[]=>True
 | pre,b::l=>(0<K b→gt K b pre≤n)∧U3 n (if K b=0 then [] else b::pre) l
theorem eG (x y:Nat) (l:List Nat):gt K x (y::l)=gt K x l+if K x<K y then 1 else 0:=by
 unfold gt;rw [List.countP_cons];simp
theorem D_:∀(l pre:List Nat) (n:Nat),pre.length+l.length≤n→U3 K n pre l
 | [],_,_,_=>trivial
 | b::l,pre,n,h=>by
   simp only [List.length_cons] at h;refine ⟨fun _=>Nat.le_trans List.countP_le_length (by omega),?_⟩
   split
   ·exact D_ l [] n (by simp;omega)
   ·exact D_ l (b::pre) n (by simp;omega)
theorem qD:∀(l:List Nat) (a:Nat) (po pn:List Nat) (n:Nat),
 (K a=0→po=[])→(0<K a→(∀x,gt K x po=gt K x (a::pn))∧gt K a po=0)→U3 K (n+1) po l→U3 K n pn (Hr K a l)
 | [],a,po,pn,n,_,h1,_=>by
   refine ⟨fun h0=>?_,trivial⟩;obtain ⟨h2,h3⟩:=h1 h0;have:=h2 a;rw [h3,eG,if_neg (Nat.lt_irrefl _)] at this;omega
 | b::l,a,po,pn,n,h0,h1,hb=>by
   obtain ⟨hb1,hb2⟩:=hb;rw [pF];by_cases hs:0<K b∧K b<K a
   ·rw [if_pos hs];have ha:0<K a:=by omega
    obtain ⟨h2,h3⟩:=h1 ha;have hb0:¬K b=0:=by omega
    rw [if_neg hb0] at hb2;refine ⟨fun _=>?_,?_⟩
    ·have:=hb1 hs.1;rw [h2 b,eG,if_pos hs.2] at this;omega
    ·rw [if_neg hb0];refine qD l a (b::po) (b::pn) n (fun h=>by omega) (fun _=>⟨fun x=>?_,?_⟩) hb2
     ·rw [eG,h2 x,eG,eG,eG];omega
     ·rw [eG,h3,if_neg (by omega)]
   ·rw [if_neg hs];refine ⟨fun ha=>?_,?_⟩
    ·obtain ⟨h2,h3⟩:=h1 ha;have:=h2 a;rw [h3,eG,if_neg (Nat.lt_irrefl _)] at this;omega
    ·by_cases hb0:K b=0
     ·rw [if_pos hb0] at hb2;exact qD l b [] _ n (fun _=>rfl) (fun h=>by omega) hb2
     ·rw [if_neg hb0] at hb2;by_cases ha0:K a=0
      ·have hpo:=h0 ha0;subst hpo;rw [if_pos ha0];refine qD l b [b] [] n (fun h=>absurd h hb0) (fun _=>⟨fun _=>rfl,?_⟩) hb2;rw [eG,if_neg (Nat.lt_irrefl _)];rfl
      ·obtain ⟨h2,h3⟩:=h1 (by omega);rw [if_neg ha0];refine qD l b (b::po) (a::pn) n (fun h=>absurd h hb0) (fun _=>⟨fun x=>?_,?_⟩) hb2
       ·rw [eG,h2 x,eG,eG,eG]
       ·rw [eG,if_neg (Nat.lt_irrefl _)];have hab:K a≤K b:=by omega
        have hle:gt K b po≤gt K a po:=List.countP_mono_left fun y _ hy=>by
         simp only [decide_eq_true_eq] at hy ⊢;omega
        omega
theorem Rl (n:Nat) (l:List Nat) (h:U3 K (n+1) [] l):U3 K n [] (pass K l):=by
 cases l with
 | nil=>trivial
 | cons a l=>
   obtain ⟨_,h2⟩:=h;by_cases ha:K a=0
   ·rw [if_pos ha] at h2;exact qD K l a [] [] n (fun _=>rfl) (fun h=>by omega) h2
   ·rw [if_neg ha] at h2;refine qD K l a [a] [] n (fun h=>absurd h ha) (fun _=>⟨fun _=>rfl,?_⟩) h2;rw [eG,if_neg (Nat.lt_irrefl _)];rfl
theorem zf:∀(n:Nat) (l:List Nat),U3 K n [] l→U3 K 0 [] (passes K n l)
 | 0,_,h=>h
 | n+1,l,h=>zf n (pass K l) (Rl K n l h)
theorem Cq:∀(l:List Nat) (a:Nat) (pre:List Nat),U3 K 0 (if K a=0 then [] else a::pre) l→dP K (a::l)
 | [],_,_,_=>trivial
 | b::l,a,pre,h=>by
   obtain ⟨h1,h2⟩:=h;refine ⟨fun hs=>?_,?_⟩
   ·have ha:¬K a=0:=by have:=hs.2;omega
    have:=h1 hs.1;rw [if_neg ha,eG,if_pos hs.2] at this;omega
   ·exact Cq l b _ h2
theorem zg (l:List Nat):passes K l.length l=fZ K l:=by
 have hb:=zf K l.length l (D_ K l [] l.length (by simp));have hin:dP K (passes K l.length l):=by
  generalize passes K l.length l=m at hb;cases m with
  | nil=>trivial
  | cons a m=>exact Cq K m a [] hb.2
 rw [←nN K hin,w_]
end
end
end Go.Cd
