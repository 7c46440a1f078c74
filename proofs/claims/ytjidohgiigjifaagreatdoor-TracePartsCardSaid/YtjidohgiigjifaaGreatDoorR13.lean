/- TraceParts and TraceWalks: a machine takes a character as those of its full decomposition, one by one; texts that are alike go through it, and of others none; no condition. -/
import Derived.Test.YtjidohgiigjifaaGreatDoorR12
set_option maxRecDepth 100000
set_option maxHeartbeats 6400000
namespace Go.Proofs.YtjidohgiigjifaaGreatDoor
open Go.RowKit Go.Cd
def cellC (x:Nat×Nat):List Value:=[.int .i32 x.1,.int .u16 x.2]
theorem Lx (x:Nat×Nat):(cellC x).length=2:=rfl
theorem Fx {w:World} {v:Value} {L:List (Nat×Nat)} {base:Nat} (hv:w.ownsRow base 224 2 v L.length (L.flatMap cellC)) (hL:∀x∈L,x.1<1114112∧x.2<65536) (hn:L.length<100000) :
 Calls Tryz.prog 134 #[v] w fun e w'=>∃p,e=.returned (.pointer (some ⟨p,0,none⟩))∧aab w' p (gU L)∧Below w.heap.size w w':=by
 have HL:=ae hL;obtain ⟨nt,hnt⟩:=af L.length;have qR:=ae hnt;have HX:=ae (fun (j:Nat) (hj:j<L.length)=>cB (hf:=Lx) rfl hv hj);obtain ⟨va,vc,rfl,_,_⟩:=az hv;have hmk:(Instr.makeMap 278 none).run Tryz.prog w=.ok (.map (some w.heap.size)) (w.alloc (.map #[] 0)):=rfl;rw [←hnt] at hn ⊢;clear hv hL hnt;go_enter Tryz.func134,Tryz.ntmps134;go_wp2_with fail;clear hmk;have R0:=rY.new w;have hB0:Below w.heap.size w (w.alloc (.map #[] 0)):=ai _;have hz0:(w.alloc (.map #[] 0)).heap.size=w.heap.size+1:=by simp
 generalize w.alloc (.map #[] 0)=w1 at *;go_loopw [16] (fun iv wr=>∃j:Nat,j≤nt∧iv=.int .i64 j∧(∃blk,rY wr w.heap.size (gU (L.take j)) blk)∧Below w.heap.size w wr) (fun iv _=>nt-(intOf iv).toNat)
 case atStart=>exact ⟨0,Nat.zero_le _,rfl,⟨_,R0⟩,hB0⟩
 case round=>
  clear R0 hB0 hz0;obtain ⟨j,hj,rfl,⟨blk,hR⟩,hE⟩:=hrel;by_cases hjn:j<nt
  ·have zj:decide ((j:Int)<(nt:Int))=true:=by simp;omega
   have hjl:j<L.length:=by have:=qR.out;omega
   obtain ⟨g,cap,hva,_,hgl,_,hx⟩:=HX.out j hjl;injection hva with hva _ hvc;subst hva;subst hvc;have hc:=HL.out _ (List.getElem_mem hjl);have c0:wr.cell? ⟨g,j*2,none⟩=some (.int .i32 (L[j].1:Nat)):=aA hE ((hx 0 (by omega)).1.trans rfl);have c1:wr.cell? ⟨g,j*2+1,none⟩=some (.int .u16 (L[j].2:Nat)):=aA hE ((hx 1 (by omega)).1.trans rfl);have HS:=ae (show gU (L.take (j+1))=qB (gU (L.take j)) (L[j].1) (L[j].2) by rw [List.take_succ_eq_append_getElem hjl,IG]);clear hx hgl;generalize L[j]=q at *;obtain ⟨c,u⟩:=q;simp only at c0 c1 hc HS;obtain ⟨hc0,hu0⟩:=hc;obtain ⟨w3,hw3⟩:=af (wr.alloc (.cells #[.int .i32 (c:Nat),.int .u16 (u:Nat)] 224));have k3:Is w3 wr.heap.size #[.int .i32 (c:Nat),.int .u16 (u:Nat)] 224:=by rw [hw3];exact Is.new _ _ _
   have hb3:Below wr.heap.size wr w3:=by rw [hw3];exact ai _
   have e0:=k3.at 0 rfl;have e1:=k3.at 1 rfl;have IN:=ae (J8 (w:=w3) c hc0);have hm:=Bh c (by omega);have hd:((c:Int) / 256)=((c / 256:Nat):Int):=by omega
   have hcd:=Nat.div_add_mod c 256;have hmk:=Nat.mod_lt c (show 0<256 by decide);generalize c / 256=n at *;generalize c % 256=k at *;have hn1:n<4352:=by omega
   have R3:=hR.mono hb3;have hkey:=wJ n (by omega);have hzv:=Tryz.zeroValue279 w3;have hMr:=hR.map.lt;clear hR;go_upto_region 5 with fail;rw [←hw3];clear hw3 c0 c1
   go_wp2_with (first
    | (go_at_call 106;refine IN.out.mono ?_;rintro e w4 ⟨rfl,rfl⟩)
    | (refine gB rfl _ _ 278 279 false rfl iU Tryz.underlying278 R3.map rfl rfl hkey hzv ?_ ?_)
    | fail)
   ·intro hno
    replace hno:=oI hno
    obtain ⟨wb,hwb⟩:=af (w4.alloc (.cells Tryz.zeroCells182 182));have Rb:cK Tryz.prog 21 wb w.heap.size (CG blk):=by rw [hwb];exact R3.map.mono (ai _)
    have hbz:wb.heap.size=w4.heap.size+1:=by rw [hwb];simp
    go_wp2_with (first
     | (rw [←hwb];refine iT (xv:=.int .i32 n) (vv:=.pointer (some ⟨w4.heap.size,0,none⟩)) rfl _ _ _ 278 279 rfl iU Tryz.underlying278 Rb rfl rfl rfl hkey ?_;intro w5 Uu hg5)
     | fail)
    have Vk:Below w4.heap.size w4 wb:=by rw [hwb];exact ai _
    have RY:=R3.map.lt;obtain ⟨RZ,hb,R5⟩:∃RZ:Nat→Option Nat,RZ n=some w4.heap.size∧rY w5 w.heap.size (gU (L.take j)) RZ:=⟨_,if_pos rfl,R3.add hno hn1 Uu (hwb▸hg5)⟩;have kW:Below w.heap.size w w4:=hE.trans (hb3.mono hE.size);have kV:Below w.heap.size w w5:=(kW.trans (Vk.mono kW.size)).grown hg5 (Nat.le_trans kW.size Vk.size) (fun k hk=>by injection hk with hk;omega);have k5:Is w5 wr.heap.size #[.int .i32 (c:Nat),.int .u16 (u:Nat)] 224:=(k3.mono Vk).grown hg5 (fun e=>by injection e with e;have:=hE.size;omega);obtain ⟨_,hMb,kb⟩:=R5.is n _ hb;clear hwb Uu hg5 Rb;clear e0 e1 hzv IN;go_upto_region 9 with fail;simp only [Act.put];have k5d:=k5.mono (ah w5);have Yv:=kb.mono (ah w5);have Rd:=R5.mono (ah w5);have g0:=Gr.cell (ah w5) (k5.at 0 rfl);have g1:=Gr.cell (ah w5) (k5.at 1 rfl);refine aD #[true,true,true,true,true,true,true,true,true,true,false] 10 1 mixed (by rfl) ?_;refine ay [0,1,3,4,5,6,7] 3 rfl (by kernel_rfl) ?_
    iterate 7 (refine aC rfl ?_;go_big_quiet_step (rfl))
    refine ak ?_;refine aL 2 (by kernel_rfl) rfl ?_;refine gB rfl _ _ 278 279 false rfl iU Tryz.underlying278 Rd.map rfl rfl hkey (Tryz.zeroValue279 _) (fun hno=>absurd (oI hno) (by rw [hb];simp)) ?_;intro pv hpv;obtain ⟨b',hb',rfl⟩:=oH hpv;rw [hb] at hb';cases hb';clear hpv;go_wp2_with fail;refine aH (Below.refl _ _) ?_;refine ay [8,9] 0 rfl (by kernel_rfl) ?_
    iterate 2 (refine aC rfl ?_;go_big_quiet_step (rfl))
    refine ak ?_;refine aI [10] (by kernel_rfl) ?_;have d9:=Yv.frozen k;have e9:=Yv.at k (eG _ _ (by omega));refine tail_cons rfl ?_;go_wp2_with fail;refine tail_nil ?_;go_wp2;go_roundw
    case rel=>
     refine ⟨j+1,by omega,by simp,⟨RZ,?_⟩,?_⟩
     ·rw [HS.out,show c=n*256+k by omega];exact Rd.put hb (by omega)
     ·exact aj ((kV.trans ((ah w5).mono kV.size))) (by omega)
    case measure=>simp [intOf];omega
   ·intro pv hpv;obtain ⟨b,hb,rfl⟩:=oH hpv;clear hpv;obtain ⟨_,hMb,kb⟩:=R3.is n b hb;have kW:Below w.heap.size w w4:=hE.trans (hb3.mono hE.size);clear e0 e1 hzv IN;go_upto_region 9 with fail;have k3d:=k3.mono (ah w4);have Yv:=kb.mono (ah w4);have Rd:=R3.mono (ah w4);have g0:=Gr.cell (ah w4) (k3.at 0 rfl);have g1:=Gr.cell (ah w4) (k3.at 1 rfl);refine aD #[true,true,true,true,true,true,true,true,true,true,false] 10 1 mixed (by rfl) ?_;refine ay [0,1,3,4,5,6,7] 3 rfl (by kernel_rfl) ?_
    iterate 7 (refine aC rfl ?_;go_big_quiet_step (rfl))
    refine ak ?_;refine aL 2 (by kernel_rfl) rfl ?_;refine gB rfl _ _ 278 279 false rfl iU Tryz.underlying278 Rd.map rfl rfl hkey (Tryz.zeroValue279 _) (fun hno=>absurd (oI hno) (by rw [hb];simp)) ?_;intro pv hpv;obtain ⟨b',hb',rfl⟩:=oH hpv;rw [hb] at hb';cases hb';clear hpv;go_wp2_with fail;refine aH (Below.refl _ _) ?_;refine ay [8,9] 0 rfl (by kernel_rfl) ?_
    iterate 2 (refine aC rfl ?_;go_big_quiet_step (rfl))
    refine ak ?_;refine aI [10] (by kernel_rfl) ?_;have d9:=Yv.frozen k;have e9:=Yv.at k (eG _ _ (by omega));refine tail_cons rfl ?_;go_wp2_with fail;refine tail_nil ?_;go_wp2;go_roundw
    case rel=>
     refine ⟨j+1,by omega,by simp,⟨blk,?_⟩,?_⟩
     ·rw [HS.out,show c=n*256+k by omega];exact Rd.put hb (by omega)
     ·exact aj ((kW.trans ((ah w4).mono kW.size))) (by omega)
    case measure=>simp [intOf];omega
  ·have zj:decide ((j:Int)<(nt:Int))=false:=by simp;omega
   have hf:=Fs (L:=L) fun x hx=>(HL.out x hx).2;have htk:L.take j=L:=by rw [List.take_of_length_le];have:=qR.out;omega
   rw [htk] at hR;have HF:=ae (show ∃f,f=gU L from ⟨_,rfl⟩);obtain ⟨f,hfe⟩:=HF.out;rw [←hfe] at hf hR;have HFE:=ae hfe;clear hfe HF htk;have HR:=ae hR;have hM:=hR.map.lt;obtain ⟨B,hB⟩:=af wr.heap.size;obtain ⟨wa,QD⟩:=af (wr.alloc (.cells Tryz.zeroCells182 182));have haz:wa.heap.size=B+1:=by rw [QD];simp [hB]
   have hEa:Below B wr wa:=by rw [QD,hB];exact ai _
   have ka:Is wa B Tryz.zeroCells182 182:=by rw [QD,hB];exact Is.new _ _ _
   obtain ⟨wb,hwb⟩:=af (wa.alloc (.cells (zN (fun _=>0) (.slice (some ⟨B,0,none⟩) 1 1)) 186));have hbz:wb.heap.size=B+2:=by rw [hwb];simp [haz]
   have hEb:Below (B+1) wa wb:=by rw [hwb,←haz];exact ai _
   have kb:Is wb (B+1) (zN (fun _=>0) (.slice (some ⟨B,0,none⟩) 1 1)) 186:=by rw [hwb,←haz];exact Is.new _ _ _
   obtain ⟨wc,hwc⟩:=af (wb.alloc (.map #[] 0));have hcz:wc.heap.size=B+3:=by rw [hwc];simp [hbz]
   have QF:Below (B+2) wb wc:=by rw [hwc,←hbz];exact ai _
   have mc:cK Tryz.prog 182 wc (B+2) fun _ _=>False:=by rw [hwc,←hbz];exact cK.new _ _
   have hmk:(Instr.makeMap 280 none).run Tryz.prog wb=.ok (.map (some (B+2))) wc:=by rw [hwc,←hbz];rfl
   have hkz:=Bj (f:=fun _=>0) (fun _=>by decide) 0;rw [mf _ _ (fun _ _=>rfl)] at hkz;have HWA:=ae QD;have HWB:=ae hwb;have HWC:=ae hwc;have HB:=ae hB;have HAZ:=ae haz;have Yw:=ae hbz;have HCZ:=ae hcz;clear hR QD hwb hwc hB haz hbz hcz
   go_wp2_with (first
    | (refine pW rfl 184 182 _ rfl uq (by decide) (by decide) Tryz.zeroCells182 rfl (by kernel_rfl) ?_;rw [←HWA.out,←HB.out])
    | (refine r_ rfl _ rfl (some ⟨B,0,none⟩) 1 1 rfl ?_)
    | (refine Go.Great.wpList_boxTo rfl 186 _ rfl _ rfl (B+1) HAZ.out (zN (fun _=>0) (.slice (some ⟨B,0,none⟩) 1 1)) rfl ?_;rw [←HWB.out])
    | (refine zO (xv:=.agg Tryz.zeroCells182) (vv:=.int .i64 0) rfl _ _ _ 280 3 rfl qA Tryz.underlying280 mc rfl rfl rfl hkz ?_;intro wd Yx hgd)
    | fail)
   have hsz0:(Tryz.zeroCells182).size=256:=by kernel_rfl
   have oa:wa.ownsRow B 182 256 (.slice (some ⟨B,0,none⟩) 1 1) 1 ([fun _=>0].flatMap uu):=by
    have e:[fun _=>0].flatMap uu=(Tryz.zeroCells182).toList:=by
     simp only [List.flatMap_cons,List.flatMap_nil,List.append_nil,uu];rw [mf _ _ (fun _ _=>rfl)]
    rw [e];exact ⟨by rw [Array.length_toList,hsz0],.inr ⟨B,1,_,rfl,Nat.le_refl _,ka.at_,Nat.le_refl _,by decide,by rw [hsz0],by rw [List.take_of_length_le];simp [hsz0]⟩⟩
   have R7:B=wr.heap.size:=HB.out;have haz:=HAZ.out;have hbz:=Yw.out;have hcz:=HCZ.out;have ob:=aG oa (haz▸hEb);have oc:=aG ob (hbz▸QF);have od:wd.ownsRow B 182 256 (.slice (some ⟨B,0,none⟩) 1 1) 1 ([fun _=>0].flatMap uu):=oc.kept hgd (.inr (fun e=>by simp [Value.ownBlock] at e));have kd:Is wd (B+1) (zN (fun _=>0) (.slice (some ⟨B,0,none⟩) 1 1)) 186:=(kb.mono (hbz▸QF)).grown hgd (fun e=>by injection e with e;omega);have CJ:Below B wr wd:=((hEa.trans (hEb.mono (by omega))).trans (QF.mono (by omega))).grown hgd (by omega) (fun k hk=>by injection hk with hk;omega);have hN:si wd (B+1) (B+2) B f 0 (fun _=>0) [fun _=>0] (.slice (some ⟨B,0,none⟩) 1 1):=by
    refine ⟨kd,od,⟨_,Yx,?_⟩,⟨_,rfl,fun _ _=>rfl⟩,fun m hm=>by omega,fun _ _=>rfl⟩;rintro x u (⟨rfl,rfl⟩|⟨_,h⟩)
    ·exact ⟨0,_,rfl,by rw [mf _ _ (fun _ _=>rfl)],rfl⟩
    ·exact h.elim
   have hzd:B≤wd.heap.size:=by have:=CJ.size;omega
   clear Yx hgd kd od oc ob oa hsz0 hmk hkz mc kb ka hEa hEb QF hcz hbz haz HWA HWB HWC HAZ Yw HCZ;obtain ⟨wE,hwE⟩:=af wr;subst hwE;have ahR:w.heap.size<B:=by omega
   clear R7;go_loopw [53] (fun iv wn=>∃n:Nat,n≤4352∧iv=.int .i64 n∧(∃idx Bs v,si wn (B+1) (B+2) B f n idx Bs v∧Bs.length≤n+1)∧Below B wE wn) (fun iv _=>4352-(intOf iv).toNat)
   case atStart=>exact ⟨0,Nat.zero_le _,rfl,⟨_,_,_,hN,by simp⟩,CJ⟩
   case round=>
    clear hN CJ hzd;obtain ⟨n,Qy,rfl,⟨idx,Bs,v,hN,hlen⟩,LA⟩:=hrel;by_cases hn1:n<4352
    ·have zn:decide ((n:Int)<4352)=true:=by simp;omega
     have hR:=HR.out.mono (HB.out▸LA);have hkey:=wJ n (by omega)
     go_wp2_with (first
      | (refine gB rfl _ _ 278 279 false rfl iU Tryz.underlying278 hR.map rfl rfl hkey (Tryz.zeroValue279 _) ?_ ?_)
      | fail)
     ·intro hno
      replace hno:=oI hno
      have hN2:=hN.skip (hR.no n hno);go_wp2_with fail;go_roundw
      case rel=>exact ⟨n+1,by omega,by simp,⟨_,_,_,hN2,by omega⟩,LA⟩
      case measure=>simp [intOf];omega
     ·intro pv hpv;obtain ⟨b,hb,rfl⟩:=oH hpv;clear hpv;obtain ⟨_,_,kb⟩:=hR.is n b hb;have hbB:b<B:=by have:=(HR.out.is n b hb).2.2.lt;have:=HB.out;omega
      have hkb:=Bj hf n;obtain ⟨G,hG,hGs⟩:=hN.map;have HGS:=ae hGs;clear hGs
      go_wp2_with (first
       | (refine Go.wpList_load_row rfl 182 _ rfl b rfl 182 (bY f n) (0,0) _ kb.at_ Tryz.underlying182 rfl (by rw [eB];kernel_rfl) ?_)
       | (refine gB rfl _ _ 280 3 true rfl qA Tryz.underlying280 hG rfl rfl hkb (Tryz.zeroValue3 _) ?_ ?_)
       | fail)
      ·intro hno;obtain ⟨va',vc',hve,_,_⟩:=az hN.own;subst hve;have Rl:=ae hN.own.1;obtain ⟨nb,hnb⟩:=af Bs.length;have Vl:=ae hnb;have e0:=hN.is.at 4352 (jT _ _);rw [←hnb] at e0 hlen;clear hnb Rl
       go_wp2_with (first
        | (refine Go.wpList_load_row rfl 182 _ rfl b rfl 182 (bY f n) (0,0) _ kb.at_ Tryz.underlying182 rfl (by rw [eB];kernel_rfl) ?_)
        | (refine iT (xv:=.agg (bY f n)) (vv:=.int .i64 nb) rfl _ _ _ 280 3 rfl qA Tryz.underlying280 hG rfl rfl rfl hkb ?_;intro w5 Uu hg5)
        | fail)
       simp only [Act.put];have hnb:=Vl.out;have ho:=hN.own;have hi:=hN.is;rw [←hnb] at ho hi;have Yu:=Fw hG ho;have hvp:=hi.other ho (by decide);have k5:=hi.grown hg5 (fun e=>by injection e with e;omega);have ho5:=ho.kept hg5 (.inr Yu);have kb5:=kb.grown hg5 (fun e=>by injection e with e;omega);have Xe:B+2≤w5.heap.size:=by have:=k5.lt;omega
       have k6:=k5.mono (ah w5);have Uv:=aG ho5 (ah w5);have kb6:=kb5.mono (ah w5);have hz6:B+2≤w5.drew.heap.size:=Xe;have g0:=sW.keeps (S:=fun k=>k=B+1∨k<B) (k6.at 4352 (jT _ _)) (.inl rfl);have HN:=ae hN;have HG5:=ae Uu;have Hg5:=ae hg5;clear hnb hN hG hR e0 Uu hg5;refine dM (KR.blocks fun k=>k=B+1∨k<B) #[true,true,true,true,true,true,true,true,true,true,true,true,false] 12 1 mixed (by rfl) ?_;refine di [0,1,2,3,4,5,6] 5 rfl (by kernel_rfl) ?_
       iterate 7 (refine aC rfl ?_;go_big_quiet_step (rfl))
       refine ak ?_;refine bT 7 (by kernel_rfl) rfl ?_;refine Go.wpList_load_row rfl 182 _ rfl b rfl 182 (bY f n) (0,0) _ kb6.at_ Tryz.underlying182 rfl (by rw [eB];kernel_rfl) ?_;go_wp2_with fail;refine bB (KR.refl _ _) ?_;refine bT 8 (by kernel_rfl) rfl ?_;refine pW rfl 184 182 _ rfl uq (by decide) (by decide) (bY f n) rfl (eB _ _) ?_;go_wp2_with fail;refine bB (KR.of_below (ai _) (by simp) (fun k hk=>by rcases hk with rfl|hk <;> omega)) ?_;refine bT 9 (by kernel_rfl) rfl ?_;refine xD (W:=w5.drew) rfl _ _ 184 rfl B 182 _ 256 512 uq (by decide) (by decide) (.slice va' nb vc') nb (Bs.flatMap uu) rfl Uv (bY f n) rfl (eB _ _) (II _ _) (by omega) (by omega) ?_;intro v1 w9 o9 sV y9;obtain ⟨na,nc,rfl,_,_⟩:=az o9;go_wp2_with fail;have k7:=k6.mono (ai (.cells (bY f n) 182));have ho7:=aG Uv (ai (.cells (bY f n) 182));have k9:=k7.grown y9 hvp;have hz9:B+2≤w9.heap.size:=k9.lt;refine bB (KR.bP (w:=w5.drew.alloc (.cells (bY f n) 182)) y9 y9.size (fun k hk=>?_)) ?_
       ·rcases hk with rfl|hk
        ·exact ⟨k7.lt,hvp⟩
        ·exact ⟨by simp;omega,Go.Cd.aP ho hk⟩
       refine di [10,11] 0 rfl (by kernel_rfl) ?_
       iterate 2 (refine aC rfl ?_;go_big_quiet_step (rfl))
       refine ak ?_;have e9:=k9.at 4352 (jT _ _);have d9:=k9.frozen 4352;refine fe [12] (by kernel_rfl) ?_;refine tail_cons rfl ?_;go_wp2_with fail;refine tail_nil ?_;have IJ:si (w9.setCell ⟨B+1,4352,none⟩ (.slice na (nb+1) nc)) (B+1) (B+2) B f n idx (Bs++[fun x=>f (n*256+x)]) (.slice na (nb+1) nc):=by
        have acE:=k9.other o9 (by decide);refine HN.out.more (w4:=w5) (w5:=w5.drew.alloc (.cells (bY f n) 182)) HG5.out ?_ Hg5.out (by omega) (Vl.out▸Yu) ((ah w5).alloc (Nat.le_refl _) _) (Vl.out▸o9) (Vl.out▸y9) acE;rintro x u (⟨rfl,rfl⟩|⟨_,hx⟩)
        ·refine ⟨nb,_,?_,by rw [vI],rfl⟩;rw [Vl.out,List.getElem?_append_right (Nat.le_refl _)];simp
        ·obtain ⟨i,g,h1,h2⟩:=HGS.out _ _ hx;exact ⟨i,g,by rw [List.getElem?_append_left (List.getElem?_eq_some_iff.1 h1).1];exact h1,h2⟩
       have LB:Below B wE (w9.setCell ⟨B+1,4352,none⟩ (.slice na (nb+1) nc)):=by
        refine aj (((LA.grown Hg5.out (by have:=LA.size;have:=HB.out;omega) (fun k hk=>by injection hk with hk;omega)).trans (((ah w5).mono (by omega)).alloc (by omega) _)).grown y9 (by simp;omega) (fun k hk=>(ho.lt k hk).1)) (by omega)
       obtain ⟨wf,hwf⟩:=af (w9.setCell ⟨B+1,4352,none⟩ (.slice na (nb+1) nc));rw [←hwf] at IJ LB;have o10:=IJ.own;have hlast:(Bs++[fun x=>f (n*256+x)])[nb]? = some (fun x=>f (n*256+x)):=by
        rw [Vl.out,List.getElem?_append_right (Nat.le_refl _)];simp
       have acF:=ae (IJ.lay hn1 hlast (fun _ _=>rfl) (IJ.is.other o10 (by decide)) (by omega));have e10:=IJ.is.at n (qC _ _ hn1);have d10:=IJ.is.frozen n;rw [←hwf];clear e9 d9 hwf IJ o10 k9 y9 o9 k7 ho7;go_wp2_with fail;go_roundw
       case rel=>exact ⟨n+1,by omega,by simp,⟨_,_,_,acF.out,by rw [List.length_append,←Vl.out];simp;omega⟩,aj LB (by omega)⟩
       case measure=>simp [intOf];omega
      ·intro pv hpv;obtain ⟨i,g,hi,hgx,rfl⟩:=HGS.out _ _ hpv;have hil:=(List.getElem?_eq_some_iff.1 hi).1;have R8:i<65536:=by omega
       have hgv:=ae (fun k (hk:k<256)=>show g k=f (n*256+k) from by
        injection hgx with hgx;have:=Lv hgx hk;rw [Nat.zero_mul,Nat.zero_add] at this
        exact this.symm)
       have e9:=hN.is.at n (qC _ _ hn1);have d9:=hN.is.frozen n;have hvp:=hN.is.other hN.own (by decide);have hN2:=ae (hN.lay hn1 hi hgv.out hvp (by omega));clear hpv hgx;go_wp2_with fail;go_roundw
       case rel=>exact ⟨n+1,by omega,by simp,⟨_,_,_,hN2.out,by omega⟩,aj LA (by omega)⟩
       case measure=>simp [intOf];omega
    ·have zn:decide ((n:Int)<4352)=false:=by simp;omega
     obtain rfl:n=4352:=by omega
     have hP:=hN.pages hlen hf;rw [HFE.out] at hP;go_wp2_with fail;go_ret;exact ⟨B+1,rfl,hP,hE.trans (LA.mono (by omega))⟩
theorem iV {w w':World} {base size n:Nat} {e:TypeId} {v:Value} {xs:List Value} (h:w.ownsRow base e size v n xs) (hk:∀k,v.ownBlock=some k→w'.heap[k]? = w.heap[k]?):w'.ownsRow base e size v n xs:=by
 obtain ⟨h1,h2⟩:=h;refine ⟨h1,h2.imp id ?_⟩;rintro ⟨g,cap,cur,hv,hg,hh,r⟩;exact ⟨g,cap,cur,hv,hg,(hk g (by rw [hv];rfl)).trans hh,r⟩
def kL (w:World) (k:Nat) (T:TypeId):Prop:=∃cs,w.heap[k]? = some (.cells cs T)
theorem kL.one {w:World} {k:Nat} {T T':TypeId} (h:kL w k T) (h':kL w k T'):T=T':=by
 obtain ⟨cs,h1⟩:=h;obtain ⟨cs',h2⟩:=h';rw [h1] at h2;injection h2 with h2;injection h2
theorem bQ {w:World} {base size n:Nat} {e:TypeId} {v:Value} {xs:List Value} (h:w.ownsRow base e size v n xs) {k:Nat} (hk:v.ownBlock=some k):kL w k e:=by
 rcases h.2 with ⟨h1,_⟩|⟨g,_,cur,h1,_,h2,_⟩
 ·rw [h1] at hk;cases hk
 ·rw [h1] at hk;cases hk;exact ⟨cur,h2⟩
abbrev gY:=Nat→Option Nat
def Oo (W:World) (Z:gY):Prop:=∀k,Z k≠none→k<W.heap.size∧kL W k aM
def qD (W:World) (B:Nat) (Z:gY) (o:Nat) (v:Value) (l:List Nat):Prop:=W.ownsRow B aM 1 v l.length (aN l)∧∀k,v.ownBlock=some k→Z k=some o
structure sZ (W:World) (Z:gY) (o:Nat) (W':World) (Z':gY):Prop where
 os:W'.os=W.os
 tape:W'.tape=W.tape
 output:W'.output=W.output
 size:W.heap.size≤W'.heap.size
 keep:∀k,k<W.heap.size→Z k≠some o→W'.heap[k]? = W.heap[k]?
 sub:∀k,k<W.heap.size→Z k≠some o→Z' k=Z k
 z:Oo W' Z'
theorem qD.nil (W:World) (B:Nat) (Z:gY) (o:Nat):qD W B Z o (.slice none 0 0) []:=⟨World.ownsRow_nil _ _ _ _,fun k h=>by simp [Value.ownBlock] at h⟩
theorem Oo.lt {W:World} {Z:gY} (h:Oo W Z) {k o:Nat} (hk:Z k=some o):k<W.heap.size:=(h k (by rw [hk];simp)).1
theorem Oo.mono {W W':World} {Z:gY} (h:Oo W Z) (hs:W.heap.size≤W'.heap.size) (hk:∀k,Z k≠none→W'.heap[k]? = W.heap[k]?):Oo W' Z:=fun k hz=>by
 obtain ⟨h1,cs,h2⟩:=h k hz;exact ⟨by omega,cs,(hk k hz).trans h2⟩
theorem qD.mono {W W':World} {B:Nat} {Z:gY} {o:Nat} {v:Value} {l:List Nat} (h:qD W B Z o v l) (hk:∀k,Z k≠none→W'.heap[k]? = W.heap[k]?):qD W' B Z o v l:=
 ⟨iV h.1 fun k hb=>hk k (by rw [h.2 k hb];simp),h.2⟩
theorem sZ.other {W W':World} {Z Z':gY} {o:Nat} (h:sZ W Z o W' Z') {o' B:Nat} (ho:o'≠o) {v:Value} {l:List Nat} (hv:qD W B Z o' v l):qD W' B Z' o' v l:=by
 refine ⟨iV hv.1 fun k hk=>h.keep k (hv.1.lt k hk).2 fun e=>ho ?_,fun k hk=>?_⟩
 ·rw [hv.2 k hk] at e;injection e
 ·rw [h.sub k (hv.1.lt k hk).2 fun e=>ho (by rw [hv.2 k hk] at e;injection e)];exact hv.2 k hk
theorem sZ.free {W W':World} {Z Z':gY} {o:Nat} (h:sZ W Z o W' Z') {B n size:Nat} {e:TypeId} {v:Value} {xs:List Value} (hv:W.ownsRow B e size v n xs) (hz:∀k,v.ownBlock=some k→Z k=none):W'.ownsRow B e size v n xs∧∀k,v.ownBlock=some k→Z' k=none:=by
 refine ⟨iV hv fun k hk=>h.keep k (hv.lt k hk).2 fun e=>?_,fun k hk=>?_⟩
 ·rw [hz k hk] at e;cases e
 ·rw [h.sub k (hv.lt k hk).2 fun e=>(by rw [hz k hk] at e;cases e)];exact hz k hk
theorem sZ.below {W W':World} {Z Z':gY} {o:Nat} (h:sZ W Z o W' Z') {B:Nat} (hB:∀k,Z k≠none→B≤k) (hs:B≤W.heap.size):Below B W W':=
 ⟨h.os,h.tape,h.output,h.size,fun k hk=>h.keep k (by omega) fun e=>by have:=hB k (by rw [e];simp);omega⟩
theorem sZ.iH {W W':World} {Z:gY} {o B:Nat} {v v':Value} {l l':List Nat} (hZ:Oo W Z) (hv:qD W B Z o v l) (ho:W'.ownsRow B aM 1 v' l'.length (aN l')) (hg:W.grownBy W' v.ownBlock) (hn:jo W v v') :
 ∃Z',sZ W Z o W' Z'∧qD W' B Z' o v' l':=by
 refine ⟨fun k=>if v'.ownBlock=some k then some o else if v.ownBlock=some k then none else Z k,⟨hg.os,hg.tape,hg.output,hg.size,fun k hk hz=>hg.block k hk fun e=>hz (hv.2 k e.symm),fun k hk hz=>?_,fun k hk=>?_⟩,ho,fun k hk=>by simp [hk]⟩
 ·have e2:v.ownBlock≠some k:=fun e=>hz (hv.2 k e);have e1:v'.ownBlock≠some k:=fun e=>by
   rcases hn with hn|⟨k',h1,h2⟩
   ·exact e2 (hn▸e)
   ·rw [h1] at e;injection e with e;omega
  simp [e1,e2]
 ·by_cases e:v'.ownBlock=some k
  ·exact ⟨(ho.lt k e).2,bQ ho e⟩
  ·simp only [if_neg e] at hk;by_cases e2:v.ownBlock=some k
   ·simp [e2] at hk
   ·simp only [if_neg e2] at hk;obtain ⟨h1,cs,h2⟩:=hZ k hk;have:=hg.size;exact ⟨by omega,cs,(hg.block k h1 fun e3=>e2 e3.symm).trans h2⟩
theorem lT {P:Program} {W:World} {ops:Array Oper} {rest:List Oper} {o:Oper} {a:Act} {Q:Exit→Act→World→Prop} (hgd:o.guard=none) (s x:Operand) (t:TypeId)
 (ho:o.op=.call { callee:=.builtin .append,args:=#[s,x],argTypes:=#[t,t] })
 (base:Nat) (e:TypeId) (z:Value) (bytes:Nat) (hE:Elem P t e z bytes) (aaa:bytes≤100000)
 {v:Value} {n:Nat} {xs:List Value} (hs:a.eval s=v) (hown:W.ownsRow base e 1 v n xs) (hbase:base≤W.heap.size)
 (us:List Value) (Nn:∀u∈us,u.oneCell'=true) (ad:Addr) (m c:Nat) (hm:m=us.length) (hx:a.eval x=.slice (some ad) m c) (hc:∀j u,us[j]? = some u→W.cell? (ad.add j)=some u) (hn:n+m<1000000)
 (h:∀v' W',W'.ownsRow base e 1 v' (n+m) (xs++us)→W.grownBy W' v.ownBlock→jo W v v'→wpList P ops Q rest (a.put o.dst v') W'):wpList P ops Q (o::rest) a W:=by
 obtain ⟨hz1,ht,i,hi,hz,hsize,hby⟩:=hE;have hl:us.length=m*i.size:=by rw [hsize];omega
 have hl1:us.length=m*1:=by omega
 have hbb:(n+m)*bytes≤140737488355328:=by
  have:(n+m)*bytes≤1000000*100000:=Nat.mul_le_mul (by omega) aaa;omega
 obtain ⟨v',w',hr,h2,h3,_⟩:=run_append_own (P:=P) W base t o.type e i z 1 bytes ht hi hz hsize hby (jl hz1) (by decide) v n xs hown ad m c us hl1 hc Nn (by unfold maxLen;omega) hbb hbase;refine Lib.wpList_append_run _ hgd s x _ _ ho v _ hs hx v' w' hr (h v' w' h2 h3 ?_);rcases Nat.eq_zero_or_pos m with hm0|hm0
 ·have hu0:us=[]:=List.length_eq_zero_iff.1 (by omega);subst hu0;subst hm0;have hr':(Builtin.append_ #[t,t] o.type #[v,.slice (some ad) 0 c]).run P W=.ok v W:=by
   rcases hown.2 with ⟨rfl,rfl⟩|⟨g,cap,cur,rfl,hbg,hg,hnc,hcm,hcs,htake⟩
   ·simp [Builtin.append_,run_underlying ht,sizeOf,typeInfo,hi,Builtin.lenOf,run_firstCells_some (P:=P) W i.size 0 ad 0 c [] hl hc]
   ·simp [Builtin.append_,run_underlying ht,sizeOf,typeInfo,hi,Builtin.lenOf,hnc,Builtin.firstCells,loadCells,loadCellsFrom,storeCells]
  rw [hr'] at hr;injection hr with e1 _;subst e1;exact .inl rfl
 ·rcases hown.2 with ⟨rfl,rfl⟩|⟨g,cap,cur,rfl,hbg,hg,hnc,hcm,hcs,htake⟩
  ·have hr':=run_append_nil (P:=P) W t o.type e i z ht hi hz ad m c us hl hc hm0 (by omega) (by rw [hby];have:=Nat.mul_le_mul (show m≤1000000 by omega) aaa;omega);rw [hr'] at hr;injection hr with e1 _;subst e1;exact .inr ⟨_,rfl,Nat.le_refl _⟩
  ·by_cases hroom:n+m≤cap
   ·have hr':=run_append_room (P:=P) W t o.type e i ht hi g n cap cur hg ad m c us hl hc Nn hroom (by rw [hsize,hcs];omega);rw [hr'] at hr;injection hr with e1 _;subst e1;exact .inl rfl
   ·have hr':=run_append_grow (P:=P) W t o.type e i z ht hi hz ⟨g,0,none⟩ n cap xs (by rw [hsize];exact hown.1) (hown.cells (g:=g) rfl) ad m c us hl hc (by omega) (by omega) (growslice_fits (by omega) (by rw [hby];omega));rw [hr'] at hr;injection hr with e1 _;subst e1;exact .inr ⟨_,rfl,Nat.le_refl _⟩
section
open Go.RowKit Go.Cd
theorem dm {W W':World} {k:Nat} {cs:Array Value} {T:TypeId} (h:Is W k cs T) (hk:W'.heap[k]? = W.heap[k]?):Is W' k cs T:=⟨hk.trans h.at_⟩
theorem jU {w:World} {base n:Nat} {e:TypeId} {v:Value} {xs:List Value} (h:w.ownsRow base e 1 v n xs) (hn:0<n):∃g cap,v=.slice (some ⟨g,0,none⟩) n cap∧n≤cap∧base≤g∧g<w.heap.size∧kL w g e∧∀i u,xs[i]? = some u→w.cell? ⟨g,i,none⟩=some u:=by
 rcases h.2 with ⟨_,h0⟩|⟨g,cap,cur,rfl,hb,hg,hc,hm,hs,ht⟩
 ·omega
 ·refine ⟨g,cap,rfl,hc,hb,block_lt hg,⟨cur,hg⟩,fun i u hu=>?_⟩;unfold World.cell?;rw [hg,←ht,List.getElem?_take] at *
  split at hu
  ·simpa using hu
  ·cases hu
theorem yg {P:Program} {ops:Array Oper} {C:World→Prop} {K:Act→Prop} {o:Oper} {rest:List Oper} {a:Act} (hg:o.guard=none) (h:o.quiet P a C (wpQuiet P ops C K rest)):wpQuiet P ops C K (o::rest) a:=by
 have hw:Region.wanted o (yielded ops a.tmps)=true:=by simp [Region.wanted,hg]
 simp only [wpQuiet];rw [if_pos hw];exact h
theorem vJ {P:Program} {k:TypeId} {S:Nat→Prop} {w:World} {o:Oper} {a:Act} {next:Act→Prop} (m x:Operand) (t elem:TypeId) (ho:o.op=Op.lookup t m x false)
 (K:Maps.Keyed P k) (ht:P.underlying t=some (.map k elem)) {r:Nat} {G:Value→Value→Prop} (h:cK P k w r G) (hS:S r) (hm:a.eval m=.map (some r)) {xv:Value} (hx:a.eval x=xv) (hk:gq P k xv) {z:Value} (hz:∀w,(zeroValue elem).run P w=.ok z w)
 (u:Value) (hu:((∀v,¬G xv v)∧u=z)∨G xv u) (h1:next (a.put o.dst u)):o.quiet P a (fun w'=>∃g:sW (KR.blocks S) w,w'=g.tw) next:=by
 refine IE m x t elem ho K ht h hS hm hx hk hz (fun hno=>?_) (fun v hv=>?_)
 ·rcases hu with ⟨_,rfl⟩|hg
  ·exact h1
  ·exact absurd hg (hno u)
 ·rcases hu with ⟨hno,_⟩|hg
  ·exact absurd hv (hno v)
  ·rw [h.one hv hg];exact h1
theorem LC {a b:Nat} (ha:a<1114112) (hb:b<1114112):gq Tryz.prog 226 (.agg #[.int .i32 a,.int .i32 b]):=by
 have hw:∀x:Nat,x<1114112→(Lit.int .i32 (x:Int)).wf=true:=fun x hx=>by
  have e1:IntKind.i32.min=-2147483648:=by decide
  have e2:IntKind.i32.max=2147483647:=by decide
  simp only [Lit.wf,e1,e2,Bool.and_eq_true,decide_eq_true_eq];omega
 have hk:∀(d x:Nat),x<1114112→Tryz.prog.keyLits (d+1) 21 [.int .i32 (x:Nat)]=some [.int .i32 (x:Nat)]:=fun d x hx=>by
  unfold Program.keyLits;simp [Tryz.underlying21,hw x hx]
 have hc1:Tryz.prog.cellsOf 21=1:=by kernel_rfl
 have hc2:Tryz.prog.cellsOf 226=2:=by kernel_rfl
 have hm:Tryz.prog.types.size+1=(Tryz.prog.types.size-1)+1+1:=by
  have:Tryz.prog.types.size=(Tryz.prog.types.size-1)+1:=by kernel_rfl
  omega
 have hkl:Tryz.prog.keyLits (Tryz.prog.types.size+1) 226 [.int .i32 (a:Nat),.int .i32 (b:Nat)]=some [.int .i32 (a:Nat),.int .i32 (b:Nat)]:=by
  rw [hm]
  conv=>lhs;unfold Program.keyLits
  simp [Tryz.underlying226,hc1,hc2,hk _ _ ha,hk _ _ hb]
 have hf:Value.formed Tryz.prog 226 (.agg #[.int .i32 (a:Nat),.int .i32 (b:Nat)])=true:=by simp [Value.formed,Tryz.underlying226,hc2]
 have hkt:Tryz.prog.keyType 226=true:=by kernel_rfl
 refine ⟨.string (keyBytes [.int .i32 (a:Nat),.int .i32 (b:Nat)]),?_⟩;unfold keyOf;simp only [Tryz.underlying226,hkt,hf,Bool.and_self,if_true];show (Tryz.prog.keyLits _ _ [.int .i32 (a:Nat),.int .i32 (b:Nat)]).map _=_;rw [hkl];rfl
theorem fU {W:World} {k:Nat} {cs:Array Value} {T:TypeId} (h:Is W k cs T):kL W k T:=⟨cs,h.at_⟩
theorem lU {P:Program} {kt:TypeId} {w:World} {r:Nat} {G:Value→Value→Prop} (h:cK P kt w r G) {T:TypeId} (hc:kL w r T):False:=by
 obtain ⟨es,ck,h1,_⟩:=h;obtain ⟨cs,h2⟩:=hc;rw [h1] at h2;cases h2
theorem Fy:lF Tryz.prog 221 224 (.agg #[.int .i32 0,.int .u16 0]) 2 8:=⟨rfl,Tryz.underlying221,info_parts (by kernel_rfl)⟩
theorem R9:lF Tryz.prog 129 103 (.agg #[.slice none 0 0,.slice none 0 0,.bool false]) 3 56:=⟨rfl,Tryz.underlying129,info_parts (by kernel_rfl)⟩
abbrev dR:=Nat×Value×Value×Bool
def Fz (x:dR):List Value:=[x.2.1,x.2.2.1,.bool x.2.2.2]
theorem Oq (x:dR):(Fz x).length=3:=rfl
def oN (E:List dR):List (Nat×Nat):=E.zipIdx.map fun x=>(x.1.1,x.2+1)
theorem FB (E:List dR):(oN E).length=E.length:=by simp [oN]
theorem LF (E:List dR) (x:dR):oN (E++[x])=oN E++[(x.1,E.length+1)]:=by simp [oN,List.zipIdx_append]
def yh (T:List aF):List (Nat×Nat):=T.map fun r=>(r.code,r.cls)
theorem FC (T:List aF):(yh T).length=T.length:=by simp [yh]
def mapped (T:List aF):List aF:=T.filter fun r=>!r.map.isEmpty
structure bK (w w':World) (t:TypeId):Prop where
 size:w.heap.size≤w'.heap.size
 keep:∀k,k<w.heap.size→¬kL w k t→w'.heap[k]? = w.heap[k]?
theorem bK.bP {w w':World} {base size n:Nat} {e:TypeId} {v:Value} {xs:List Value} (ho:w.ownsRow base e size v n xs) (hg:w.grownBy w' v.ownBlock):bK w w' e:=
 ⟨hg.size,fun k hk hc=>hg.block k hk fun e1=>hc (bQ ho e1.symm)⟩
theorem bK.put {w:World} {p o:Nat} {cs:Array Value} {t:TypeId} (h:Is w p cs t) (u:Value):bK w (w.setCell ⟨p,o,none⟩ u) t:=
 ⟨by simp,fun k _ hc=>(bN w p o u).block k (by assumption) fun e=>hc (by cases e;exact fU h)⟩
theorem bK.own {w w':World} {t:TypeId} (hc:bK w w' t) {base size n:Nat} {e:TypeId} {v:Value} {xs:List Value} (h:w.ownsRow base e size v n xs) (hne:e≠t):w'.ownsRow base e size v n xs:=
 iV h fun k hk=>hc.keep k (h.lt k hk).2 fun h1=>hne ((bQ h hk).one h1)
theorem bK.is {w w':World} {t:TypeId} (hc:bK w w' t) {k:Nat} {cs:Array Value} {T:TypeId} (h:Is w k cs T) (hne:T≠t):Is w' k cs T:=
 dm h (hc.keep k h.lt fun h1=>hne ((fU h).one h1))
theorem bK.map {w w':World} {t:TypeId} (hc:bK w w' t) {P:Program} {kt:TypeId} {r:Nat} {G:Value→Value→Prop} (h:cK P kt w r G):cK P kt w' r G:=
 h.block (hc.keep r h.lt fun h1=>lU h h1)
theorem bK.z {w w':World} {t:TypeId} (hc:bK w w' t) {Z:gY} (h:Oo w Z) (hne:aM≠t):∀k,Z k≠none→w'.heap[k]? = w.heap[k]?:=
 fun k hk=>hc.keep k (h k hk).1 fun h1=>hne ((h k hk).2.one h1)
theorem sZ.mg {W W':World} {Z Z':gY} {o:Nat} (h:sZ W Z o W' Z') (hz:Oo W Z):bK W W' aM:=
 ⟨h.size,fun k hk hc=>h.keep k hk fun h1=>hc (hz k (by rw [h1];simp)).2⟩
def Ot (x:aF×Value):List Value:=[.int .i32 x.1.code,.int .i64 x.1.cls,x.2]
def fQ (w:World) (Z:gY) (v:Value) (l:List Nat):Prop:=w.ownsRow 0 aM 1 v l.length (aN l)∧∀k,v.ownBlock=some k→Z k=none
theorem fQ.ext {w w':World} {Z:gY} {v:Value} {l:List Nat} (h:fQ w Z v l) (hb:Below w.heap.size w w'):fQ w' Z v l:=⟨aG h.1 hb,h.2⟩
theorem fQ.mg {w w':World} {Z:gY} {v:Value} {l:List Nat} {t:TypeId} (h:fQ w Z v l) (hc:bK w w' t) (hne:aM≠t):fQ w' Z v l:=⟨hc.own h.1 hne,h.2⟩
theorem fQ.push {w w':World} {Z Z':gY} {o:Nat} {v:Value} {l:List Nat} (h:fQ w Z v l) (hs:sZ w Z o w' Z'):fQ w' Z' v l:=hs.free h.1 h.2
def FH (T:List aF) (E:List dR):List Nat:=E.flatMap fun x=>(aK T x.1).drop 1
def FJ (E:List dR):List Nat:=E.map (·.1)
def zP (T:List aF) (E:List dR):List Nat:=(E.filter (·.2.2.2)).map fun x=>(bF T x.1).getD 1 0
def sj (T:List aF) (E:List dR) (c:Nat):List Nat:=(E.filter fun x=>(aK T x.1).head? == some c).map (·.1)
def Uw (l:List Nat):Value:=.agg #[.int .i32 (l.getD 0 0:Nat),.int .i32 (l.getD 1 0:Nat)]
def vK (T:List aF) (E:List dR):Value→Value→Prop:=E.foldl (fun G x=>if x.2.2.2 then vZ G (Uw (bF T x.1)) (.int .i32 (x.1:Nat)) else G) fun _ _=>False
theorem LG (T:List aF) (E:List dR) (x:dR):FH T (E++[x])=FH T E++(aK T x.1).drop 1:=by simp [FH]
theorem LH (E:List dR) (x:dR):FJ (E++[x])=FJ E++[x.1]:=by simp [FJ]
theorem Ou (T:List aF) (E:List dR) (x:dR) (h:x.2.2.2=true):zP T (E++[x])=zP T E++[(bF T x.1).getD 1 0]:=by simp [zP,List.filter_append,h]
theorem R_ (T:List aF) (E:List dR) (x:dR) (h:x.2.2.2=false):zP T (E++[x])=zP T E:=by simp [zP,List.filter_append,h]
theorem LJ (T:List aF) (E:List dR) (x:dR) (h:x.2.2.2=true):vK T (E++[x])=vZ (vK T E) (Uw (bF T x.1)) (.int .i32 (x.1:Nat)):=by simp [vK,h]
theorem Ov (T:List aF) (E:List dR) (x:dR) (h:x.2.2.2=false):vK T (E++[x])=vK T E:=by simp [vK,h]
theorem LK (T:List aF) (E:List dR) (x:dR) (c0:Nat) (h:(aK T x.1).head? = some c0):sj T (E++[x])=fun c=>if c=c0 then sj T E c0++[x.1] else sj T E c:=by
 funext c;unfold sj;rw [List.filter_append,List.map_append];by_cases e:c=c0
 ·subst e;simp [h]
 ·rw [if_neg e];simp [h,Ne.symm e]
theorem yj {T:List aF} (h:∀c,(aK T c).length≤32):∀E:List dR,(FH T E).length≤31*E.length
 | []=>Nat.le_refl _
 | x::E=>by
   have ih:=yj h E;have:=h x.1;unfold FH at ih ⊢;rw [List.flatMap_cons,List.length_append,List.length_drop,List.length_cons];omega
theorem FK (T:List aF) (E:List dR):(zP T E).length≤E.length:=by
 unfold zP;rw [List.length_map];exact List.length_filter_le _ _
theorem Ow (T:List aF) (E:List dR) (c:Nat):(sj T E c).length≤E.length:=by
 unfold sj;rw [List.length_map];exact List.length_filter_le _ _
structure IK (T:List aF) (E:List dR) (l8 l9 l10:List Nat) (bg:Nat→List Nat) (jg:Value→Value→Prop):Prop where
 i8:l8=FH T E
 i9:l9=zP T E
 i10:l10=FJ E
 ib:bg=sj T E
 ij:jg=vK T E
theorem IK.nil (T:List aF):IK T [] [] [] [] (fun _=>[]) (fun _ _=>False):=⟨rfl,rfl,rfl,rfl,rfl⟩
structure jV (T:List aF) (X:List Nat) (B p bM jM:Nat) (w:World) (jr jc je:Nat) (l8 l9 l10:List Nat) (bg:Nat→List Nat) (jg:Value→Value→Prop) (v6 v7 v8 v9 v10:Value) (rv xv ev:Value) (Z:gY) (E Ep:List dR):Prop where
 is:Is w p #[rv,xv,.pointer none,.pointer none,ev,.map (some bM),.map (some jM),.slice none 0 0,.slice none 0 0,.slice none 0 0] 133
 rows:∃R:List (aF×Value),R.map (·.1)=T.take jr∧w.ownsRow B fE 3 rv jr (R.flatMap Ot)∧∀x∈R,fQ w Z x.2 x.1.map
 mM:w.ownsRow B 103 3 ev E.length (E.flatMap Fz)
 kX:E.map (·.1)=(mapped (T.take je)).map (·.code)
 full:∀x∈E,fQ w Z x.2.2.1 (aK T x.1)
 maps:∀x∈E,fQ w Z x.2.1 (bF T x.1)
 nP:∀x∈E,x.2.2.2=true↔Prim T X x.1
 cls:w.ownsRow B 224 2 v6 jc ((yh (T.take jc)).flatMap cellC)
 M5:w.ownsRow B 224 2 v7 Ep.length ((oN Ep).flatMap cellC)
 Ox:uS v6 v7
 low:B≤p∧B≤bM∧B≤jM
 zb:∀k,Z k≠none→B≤k
 wk:Oo w Z
 w8:qD w B Z 0 v8 l8
 w9:qD w B Z 1 v9 l9
 yl:qD w B Z 2 v10 l10
 bm:∃G,cK Tryz.prog 21 w bM G∧(∀x u,G x u→∃c:Nat,x=.int .i32 c∧qD w B Z (c+3) u (bg c))∧∀c:Nat,(∀u,¬G (.int .i32 c) u)→bg c=[]
 jm:cK Tryz.prog 226 w jM jg
section
variable {T : List aF} {X : List Nat} {B p bM jM : Nat} {w w' : World} {jr jc je : Nat} {l8 l9 l10 : List Nat} {bg : Nat → List Nat} {jg : Value → Value → Prop} {v6 v7 v8 v9 v10 rv xv ev : Value} {Z : gY} {E Ep : List dR}
theorem jV.fresh (h:jV T X B p bM jM w jr jc je l8 l9 l10 bg jg v6 v7 v8 v9 v10 rv xv ev Z E Ep) {k:Nat} (hk:w.heap.size≤k):Z k=none:=by
 cases e:Z k with
 | none=>rfl
 | some o=>have:=h.wk.lt e;omega
theorem jV.mono (h:jV T X B p bM jM w jr jc je l8 l9 l10 bg jg v6 v7 v8 v9 v10 rv xv ev Z E Ep) (hb:Below w.heap.size w w'):jV T X B p bM jM w' jr jc je l8 l9 l10 bg jg v6 v7 v8 v9 v10 rv xv ev Z E Ep:=by
 have hz:∀k,Z k≠none→w'.heap[k]? = w.heap[k]?:=fun k hk=>hb.block k (h.wk k hk).1;obtain ⟨R,r1,r2,r3⟩:=h.rows;obtain ⟨G,g1,g2,g3⟩:=h.bm
 exact ⟨h.is.mono hb,⟨R,r1,aG r2 hb,fun x hx=>(r3 x hx).ext hb⟩,aG h.mM hb,h.kX,fun x hx=>(h.full x hx).ext hb,fun x hx=>(h.maps x hx).ext hb,h.nP,aG h.cls hb,aG h.M5 hb,h.Ox,h.low,h.zb,h.wk.mono hb.size hz,h.w8.mono hz,h.w9.mono hz,h.yl.mono hz,
  ⟨G,g1.mono hb,fun x u hg=>by obtain ⟨c,e,hv⟩:=g2 x u hg;exact ⟨c,e,hv.mono hz⟩,g3⟩,h.jm.mono hb⟩
theorem jV.Oy (h:jV T X B p bM jM w jr jc je l8 l9 l10 bg jg v6 v7 v8 v9 v10 rv xv ev Z E Ep) {rv':Value} {R:List (aF×Value)} (r1:R.map (·.1)=T.take jr) (r2:w.ownsRow B fE 3 rv jr (R.flatMap Ot)) (r3:∀x∈R,fQ w Z x.2 x.1.map) {q:aF} (hq:T[jr]? = some q) {mv:Value} (hm:fQ w Z mv q.map)
 (ho:w'.ownsRow B fE 3 rv' (jr+1) (R.flatMap Ot++Ot (q,mv))) (hg:w.grownBy w' rv.ownBlock) :
 jV T X B p bM jM (w'.setCell ⟨p,0,none⟩ rv') (jr+1) jc je l8 l9 l10 bg jg v6 v7 v8 v9 v10 rv' xv ev Z E Ep:=by
 have c1:=bK.bP r2 hg;have i1:=c1.is h.is (by decide);have c2:=bK.put (o:=0) i1 rv';have z1:=c1.z h.wk (by decide);have Yy:=h.wk.mono c1.size z1;have z2:=c2.z Yy (by decide);obtain ⟨G,g1,g2,g3⟩:=h.bm
 refine ⟨i1.set 0 rv',⟨R++[(q,mv)],by rw [List.map_append,r1,List.take_add_one,hq];rfl,?_,fun x hx=>?_⟩,c2.own (c1.own h.mM (by decide)) (by decide),h.kX,fun x hx=>((h.full x hx).mg c1 (by decide)).mg c2 (by decide),fun x hx=>((h.maps x hx).mg c1 (by decide)).mg c2 (by decide),h.nP,
  c2.own (c1.own h.cls (by decide)) (by decide),c2.own (c1.own h.M5 (by decide)) (by decide),h.Ox,h.low,h.zb,
  Yy.mono c2.size z2,(h.w8.mono z1).mono z2,(h.w9.mono z1).mono z2,(h.yl.mono z1).mono z2,⟨G,c2.map (c1.map g1),fun x u hg=>by obtain ⟨c,e,hv⟩:=g2 x u hg;exact ⟨c,e,(hv.mono z1).mono z2⟩,g3⟩,c2.map (c1.map h.jm)⟩
 ·rw [List.flatMap_append];exact c2.own (by simpa using ho) (by decide)
 ·rcases List.mem_append.1 hx with hx|hx
  ·exact ((r3 x hx).mg c1 (by decide)).mg c2 (by decide)
  ·rw [List.mem_singleton.1 hx];exact (hm.mg c1 (by decide)).mg c2 (by decide)
theorem jV.Sa (h:jV T X B p bM jM w jr jc je l8 l9 l10 bg jg v6 v7 v8 v9 v10 rv xv ev Z E Ep) {v6':Value} (ho:w'.ownsRow B 224 2 v6' (jc+1) ((yh (T.take (jc+1))).flatMap cellC)) (hg:w.grownBy w' v6.ownBlock) (hn:jo w v6 v6') :
 jV T X B p bM jM w' jr (jc+1) je l8 l9 l10 bg jg v6' v7 v8 v9 v10 rv xv ev Z E Ep:=by
 obtain ⟨R,r1,r2,r3⟩:=h.rows;have c1:=bK.bP h.cls hg;have z1:=c1.z h.wk (by decide);obtain ⟨G,g1,g2,g3⟩:=h.bm
 exact ⟨c1.is h.is (by decide),⟨R,r1,c1.own r2 (by decide),fun x hx=>(r3 x hx).mg c1 (by decide)⟩,c1.own h.mM (by decide),h.kX,fun x hx=>(h.full x hx).mg c1 (by decide),fun x hx=>(h.maps x hx).mg c1 (by decide),h.nP,ho,h.Ox.symm.stays h.M5 hg,(h.Ox.symm.push (fun k hk=>(h.M5.lt k hk).2) hn).symm,h.low,h.zb,
  h.wk.mono c1.size z1,h.w8.mono z1,h.w9.mono z1,h.yl.mono z1,⟨G,c1.map g1,fun x u hg=>by obtain ⟨c,e,hv⟩:=g2 x u hg;exact ⟨c,e,hv.mono z1⟩,g3⟩,c1.map h.jm⟩
theorem jV.Sb (h:jV T X B p bM jM w jr jc je l8 l9 l10 bg jg v6 v7 v8 v9 v10 rv xv ev Z E Ep) {v7':Value} {Ep':List dR} (ho:w'.ownsRow B 224 2 v7' Ep'.length ((oN Ep').flatMap cellC)) (hg:w.grownBy w' v7.ownBlock) (hn:jo w v7 v7') :
 jV T X B p bM jM w' jr jc je l8 l9 l10 bg jg v6 v7' v8 v9 v10 rv xv ev Z E Ep':=by
 obtain ⟨R,r1,r2,r3⟩:=h.rows;have c1:=bK.bP h.M5 hg;have z1:=c1.z h.wk (by decide);obtain ⟨G,g1,g2,g3⟩:=h.bm
 exact ⟨c1.is h.is (by decide),⟨R,r1,c1.own r2 (by decide),fun x hx=>(r3 x hx).mg c1 (by decide)⟩,c1.own h.mM (by decide),h.kX,fun x hx=>(h.full x hx).mg c1 (by decide),fun x hx=>(h.maps x hx).mg c1 (by decide),h.nP,h.Ox.stays h.cls hg,ho,h.Ox.push (fun k hk=>(h.cls.lt k hk).2) hn,h.low,h.zb,
  h.wk.mono c1.size z1,h.w8.mono z1,h.w9.mono z1,h.yl.mono z1,⟨G,c1.map g1,fun x u hg=>by obtain ⟨c,e,hv⟩:=g2 x u hg;exact ⟨c,e,hv.mono z1⟩,g3⟩,c1.map h.jm⟩
theorem jV.Oz (h:jV T X B p bM jM w jr jc je l8 l9 l10 bg jg v6 v7 v8 v9 v10 rv xv ev Z E Ep) {ev':Value} {x:dR} {Xm:Nat} (ho:w'.ownsRow B 103 3 ev' (E.length+1) (E.flatMap Fz++Fz x)) (hg:w.grownBy w' ev.ownBlock)
 (hf:fQ w Z x.2.2.1 (aK T x.1)) (hm:fQ w Z x.2.1 (bF T x.1)) (hp:x.2.2.2=true↔Prim T X x.1) (hl:(E++[x]).map (·.1)=(mapped (T.take Xm)).map (·.code)) :
 jV T X B p bM jM (w'.setCell ⟨p,4,none⟩ ev') jr jc Xm l8 l9 l10 bg jg v6 v7 v8 v9 v10 rv xv ev' Z (E++[x]) Ep:=by
 obtain ⟨R,r1,r2,r3⟩:=h.rows;have c1:=bK.bP h.mM hg;have i1:=c1.is h.is (by decide);have c2:=bK.put (o:=4) i1 ev';have z1:=c1.z h.wk (by decide);have Yy:=h.wk.mono c1.size z1;have z2:=c2.z Yy (by decide);obtain ⟨G,g1,g2,g3⟩:=h.bm;have he:w'.ownsRow B 103 3 ev' (E++[x]).length ((E++[x]).flatMap Fz):=by
  rw [List.length_append,List.flatMap_append];simpa using ho
 refine ⟨i1.set 4 ev',⟨R,r1,c2.own (c1.own r2 (by decide)) (by decide),fun x hx=>((r3 x hx).mg c1 (by decide)).mg c2 (by decide)⟩,c2.own he (by decide),hl,fun y hy=>?_,fun y hy=>?_,fun y hy=>?_,c2.own (c1.own h.cls (by decide)) (by decide),c2.own (c1.own h.M5 (by decide)) (by decide),h.Ox,h.low,h.zb,
  Yy.mono c2.size z2,(h.w8.mono z1).mono z2,(h.w9.mono z1).mono z2,(h.yl.mono z1).mono z2,⟨G,c2.map (c1.map g1),fun x u hg=>by obtain ⟨c,e,hv⟩:=g2 x u hg;exact ⟨c,e,(hv.mono z1).mono z2⟩,g3⟩,c2.map (c1.map h.jm)⟩
 ·rcases List.mem_append.1 hy with hy|hy
  ·exact ((h.full y hy).mg c1 (by decide)).mg c2 (by decide)
  ·rw [List.mem_singleton.1 hy];exact (hf.mg c1 (by decide)).mg c2 (by decide)
 ·rcases List.mem_append.1 hy with hy|hy
  ·exact ((h.maps y hy).mg c1 (by decide)).mg c2 (by decide)
  ·rw [List.mem_singleton.1 hy];exact (hm.mg c1 (by decide)).mg c2 (by decide)
 ·rcases List.mem_append.1 hy with hy|hy
  ·exact h.nP y hy
  ·rw [List.mem_singleton.1 hy];exact hp
theorem jV.OB (h:jV T X B p bM jM w jr jc je l8 l9 l10 bg jg v6 v7 v8 v9 v10 rv xv ev Z E Ep) {Z':gY} {o:Nat} (hs:sZ w Z o w' Z') {l8' l9' Yz:List Nat} {v8' v9' YA:Value}
 (h8:qD w' B Z' 0 v8' l8') (h9:qD w' B Z' 1 v9' l9') (h10:qD w' B Z' 2 YA Yz) (hb:∀(c:Nat) (u:Value) (l:List Nat),qD w B Z (c+3) u l→qD w' B Z' (c+3) u l) :
 jV T X B p bM jM w' jr jc je l8' l9' Yz bg jg v6 v7 v8' v9' YA rv xv ev Z' E Ep:=by
 have Rl:B≤w.heap.size:=by have:=h.is.lt;have:=h.low.1;omega
 obtain ⟨R,r1,r2,r3⟩:=h.rows;obtain ⟨G,g1,g2,g3⟩:=h.bm;have hc:=hs.mg h.wk
 refine ⟨hc.is h.is (by decide),⟨R,r1,hc.own r2 (by decide),fun x hx=>(r3 x hx).push hs⟩,hc.own h.mM (by decide),h.kX,fun x hx=>(h.full x hx).push hs,fun x hx=>(h.maps x hx).push hs,h.nP,hc.own h.cls (by decide),hc.own h.M5 (by decide),h.Ox,h.low,fun k hk=>?_,hs.z,h8,h9,h10,
  ⟨G,hc.map g1,fun x u hg=>by obtain ⟨c,e,hv⟩:=g2 x u hg;exact ⟨c,e,hb c u _ hv⟩,g3⟩,hc.map h.jm⟩
 by_cases hlt:k<w.heap.size
 ·by_cases e:Z k=some o
  ·exact h.zb k (by rw [e];simp)
  ·rw [hs.sub k hlt e] at hk;exact h.zb k hk
 ·omega
theorem jV.Ka (h:jV T X B p bM jM w jr jc je l8 l9 l10 bg jg v6 v7 v8 v9 v10 rv xv ev Z E Ep) {Z':gY} (hs:sZ w Z 0 w' Z') {l:List Nat} {v:Value} (hv:qD w' B Z' 0 v l) :
 jV T X B p bM jM w' jr jc je l l9 l10 bg jg v6 v7 v v9 v10 rv xv ev Z' E Ep:=h.OB hs hv (hs.other (by decide) h.w9) (hs.other (by decide) h.yl) fun c u l hl=>hs.other (by omega) hl
theorem jV.YB (h:jV T X B p bM jM w jr jc je l8 l9 l10 bg jg v6 v7 v8 v9 v10 rv xv ev Z E Ep) {Z':gY} (hs:sZ w Z 1 w' Z') {l:List Nat} {v:Value} (hv:qD w' B Z' 1 v l) :
 jV T X B p bM jM w' jr jc je l8 l l10 bg jg v6 v7 v8 v v10 rv xv ev Z' E Ep:=h.OB hs (hs.other (by decide) h.w8) hv (hs.other (by decide) h.yl) fun c u l hl=>hs.other (by omega) hl
theorem jV.CP (h:jV T X B p bM jM w jr jc je l8 l9 l10 bg jg v6 v7 v8 v9 v10 rv xv ev Z E Ep) {Z':gY} (hs:sZ w Z 2 w' Z') {l:List Nat} {v:Value} (hv:qD w' B Z' 2 v l) :
 jV T X B p bM jM w' jr jc je l8 l9 l bg jg v6 v7 v8 v9 v rv xv ev Z' E Ep:=h.OB hs (hs.other (by decide) h.w8) (hs.other (by decide) h.w9) hv fun c u l hl=>hs.other (by omega) hl
theorem jV.YC (h:jV T X B p bM jM w jr jc je l8 l9 l10 bg jg v6 v7 v8 v9 v10 rv xv ev Z E Ep) {Xm:Nat} (hl:E.map (·.1)=(mapped (T.take Xm)).map (·.code)):jV T X B p bM jM w jr jc Xm l8 l9 l10 bg jg v6 v7 v8 v9 v10 rv xv ev Z E Ep:=
 ⟨h.is,h.rows,h.mM,hl,h.full,h.maps,h.nP,h.cls,h.M5,h.Ox,h.low,h.zb,h.wk,h.w8,h.w9,h.yl,h.bm,h.jm⟩
structure YD (T:List aF) (X:List Nat) (B p bM jM:Nat) (w:World) (jr jc je:Nat) (l8 l9 l10:List Nat) (bg:Nat→List Nat) (jg:Value→Value→Prop) (v6 v7 v8 v9 v10:Value) (rv xv ev:Value) (Z:gY) (E Ep:List dR) (G:Value→Value→Prop) (c0:Nat) (l:List Nat) (v:Value):Prop where
 map:cK Tryz.prog 21 w bM G
 row:qD w B Z (c0+3) v l
 st:∀w2,cK Tryz.prog 21 w2 bM (vZ G (.int .i32 c0) v)→w.grownBy w2 (some bM)→bM≠jM→jV T X B p bM jM w2 jr jc je l8 l9 l10 (fun c=>if c=c0 then l else bg c) jg v6 v7 v8 v9 v10 rv xv ev Z E Ep
theorem jV.pushB (h:jV T X B p bM jM w jr jc je l8 l9 l10 bg jg v6 v7 v8 v9 v10 rv xv ev Z E Ep) {Z':gY} {c0:Nat} (hs:sZ w Z (c0+3) w' Z') {l:List Nat} {v:Value} (hv:qD w' B Z' (c0+3) v l) {G:Value→Value→Prop}
 (g1:cK Tryz.prog 21 w bM G) (g2:∀x u,G x u→∃c:Nat,x=.int .i32 c∧qD w B Z (c+3) u (bg c)) (g3:∀c:Nat,(∀u,¬G (.int .i32 c) u)→bg c=[]) :
 YD T X B p bM jM w' jr jc je l8 l9 l10 bg jg v6 v7 v8 v9 v10 rv xv ev Z' E Ep G c0 l v:=by
 have Rl:B≤w.heap.size:=by have:=h.is.lt;have:=h.low.1;omega
 have hc:=hs.mg h.wk;obtain ⟨R,r1,r2,r3⟩:=h.rows;refine ⟨hc.map g1,hv,fun w2 m2 gr hne=>?_⟩;have hk:∀k t,kL w' k t→k<w'.heap.size→w2.heap[k]? = w'.heap[k]?:=fun k t hk hlt=>gr.block k hlt fun e=>by
  injection e with e;subst e;exact lU (hc.map g1) hk
 have ho:∀{base size n:Nat} {e:TypeId} {v:Value} {xs:List Value},w'.ownsRow base e size v n xs→w2.ownsRow base e size v n xs:=fun ho=>iV ho fun k hk1=>hk k _ (bQ ho hk1) (ho.lt k hk1).2;have hf:∀{v:Value} {l:List Nat},fQ w' Z' v l→fQ w2 Z' v l:=fun hf=>⟨ho hf.1,hf.2⟩;have hz:∀k,Z' k≠none→w2.heap[k]? = w'.heap[k]?:=fun k hk1=>hk k _ (hs.z k hk1).2 (hs.z k hk1).1;have hi:=hc.is h.is (by decide)
 refine ⟨dm hi (hk p _ (fU hi) hi.lt),⟨R,r1,ho (hc.own r2 (by decide)),fun x hx=>hf ((r3 x hx).push hs)⟩,ho (hc.own h.mM (by decide)),h.kX,fun x hx=>hf ((h.full x hx).push hs),fun x hx=>hf ((h.maps x hx).push hs),h.nP,ho (hc.own h.cls (by decide)),ho (hc.own h.M5 (by decide)),h.Ox,h.low,fun k hk=>?_,hs.z.mono gr.size hz,
  (hs.other (by omega) h.w8).mono hz,(hs.other (by omega) h.w9).mono hz,(hs.other (by omega) h.yl).mono hz,⟨_,m2,fun x u hg=>?_,fun c hc=>?_⟩,(hc.map h.jm).block (gr.block jM (hc.map h.jm).lt fun e=>by injection e with e;exact hne e.symm)⟩
 ·by_cases hlt:k<w.heap.size
  ·by_cases e:Z k=some (c0+3)
   ·exact h.zb k (by rw [e];simp)
   ·rw [hs.sub k hlt e] at hk;exact h.zb k hk
  ·omega
 ·rcases hg with ⟨rfl,rfl⟩|⟨hx,hg⟩
  ·exact ⟨c0,rfl,by simp only [if_true];exact hv.mono hz⟩
  ·obtain ⟨c,rfl,hu⟩:=g2 x u hg;have hcc:c≠c0:=fun e=>hx (by rw [e]);exact ⟨c,rfl,by simp only [if_neg hcc];exact (hs.other (by omega) hu).mono hz⟩
 ·have hcc:c≠c0:=fun e=>hc v (.inl ⟨by rw [e],rfl⟩);simp only [if_neg hcc];exact g3 c fun u hu=>hc u (.inr ⟨fun e=>hcc (by injection e with _ e;omega),hu⟩)
theorem jV.acJ (h:jV T X B p bM jM w jr jc je l8 l9 l10 bg jg v6 v7 v8 v9 v10 rv xv ev Z E Ep) (hne:bM≠jM) {G:Value→Value→Prop} (hG:cK Tryz.prog 226 w' jM G) (hg:w.grownBy w' (some jM)) :
 jV T X B p bM jM w' jr jc je l8 l9 l10 bg G v6 v7 v8 v9 v10 rv xv ev Z E Ep:=by
 obtain ⟨R,r1,r2,r3⟩:=h.rows;obtain ⟨G0,g1,g2,g3⟩:=h.bm;have hk:∀k t,kL w k t→k<w.heap.size→w'.heap[k]? = w.heap[k]?:=fun k t hk hlt=>hg.block k hlt fun e=>by
  injection e with e;subst e;exact lU h.jm hk
 have ho:∀{base size n:Nat} {e:TypeId} {v:Value} {xs:List Value},w.ownsRow base e size v n xs→w'.ownsRow base e size v n xs:=fun ho=>iV ho fun k hk1=>hk k _ (bQ ho hk1) (ho.lt k hk1).2;have hf:∀{v:Value} {l:List Nat},fQ w Z v l→fQ w' Z v l:=fun hf=>⟨ho hf.1,hf.2⟩;have hz:∀k,Z k≠none→w'.heap[k]? = w.heap[k]?:=fun k hk1=>hk k _ (h.wk k hk1).2 (h.wk k hk1).1
 exact ⟨dm h.is (hk p _ (fU h.is) h.is.lt),⟨R,r1,ho r2,fun x hx=>hf (r3 x hx)⟩,ho h.mM,h.kX,fun x hx=>hf (h.full x hx),fun x hx=>hf (h.maps x hx),h.nP,ho h.cls,ho h.M5,h.Ox,h.low,h.zb,h.wk.mono hg.size hz,h.w8.mono hz,h.w9.mono hz,h.yl.mono hz,
  ⟨G0,g1.block (hg.block bM g1.lt fun e=>by injection e with e;exact hne e),fun x u hgx=>by obtain ⟨c,e,hv⟩:=g2 x u hgx;exact ⟨c,e,hv.mono hz⟩,g3⟩,hG⟩
end
theorem Sc {w:World} (c:Int) (k n cp:Nat) (a:Option Addr) (h:k≠0∨n≠0) :
 Calls Tryz.prog 131 #[.agg #[.int .i32 c,.int .i64 k,.slice a n cp]] w fun e w'=>e=.returned (.bool true)∧Below w.heap.size w w':=by
 have hb:=ai (w:=w) (.cells #[.int .i32 c,.int .i64 k,.slice a n cp] 164);have k0:=Is.new w #[.int .i32 c,.int .i64 k,.slice a n cp] 164;have e0:=k0.at 0 rfl;have e1:=k0.at 1 rfl;have e2:=k0.at 2 rfl;go_enter Tryz.func131,Tryz.ntmps131;by_cases hk:k=0
 ·have hn:n≠0:=by omega
  subst hk;have z:decide (0<n)=true:=by simp;omega
  have z0:((0:Nat):Int)=0:=rfl;go_wp2;go_ret;exact ⟨by simp,hb⟩
 ·have z:decide (0<k)=true:=by simp;omega
  go_wp2;go_ret;exact ⟨rfl,hb⟩
end
section
open Go.RowKit Go.Cd
theorem aab.put {w:World} {p k o:Nat} {f:Nat→Nat} {cs:Array Value} {T:TypeId} (h:aab w p f) (hk:Is w k cs T) (hs:cs.size≤100) (u:Value):aab (w.setCell ⟨k,o,none⟩ u) p f:=by
 obtain ⟨idx,nb,B,cap,h1,h2,h3,h3',h4,h5,h6⟩:=h;have hp:p≠k:=fun e=>by
  subst e;rw [hk.cell] at h4;have:=(Array.getElem?_eq_some_iff.1 h4).1;omega
 have hB:B≠k:=fun e=>by
  subst e;have h7:=(h6 255 (by decide)).2;rw [hk.cell] at h7;have:=(Array.getElem?_eq_some_iff.1 h7).1;omega
 have keep:∀b,b≠k→∀o',(w.setCell ⟨k,o,none⟩ u).cell? ⟨b,o',none⟩=w.cell? ⟨b,o',none⟩:=fun b hb o'=>World.cell?_of_block (a:=⟨b,o',none⟩) (Below.heap_setCell _ _ _ _ (by simp only;exact fun e=>hb e));exact ⟨idx,nb,B,cap,by simpa using h1,by simpa using h2,h3,h3',(keep p hp _).trans h4,fun n hn=>⟨(h5 n hn).1,(keep p hp _).trans (h5 n hn).2⟩,fun c hc=>⟨(h6 c hc).1,(keep B hB _).trans (h6 c hc).2⟩⟩
def zQ (w:World) (v:Value) (l:List Nat):Prop:=w.ownsRow 0 aM 1 v (lJ (gQ l)).length (aN (lJ (gQ l)))
structure zR (T:List aF) (X:List Nat) (E:List dR) (w:World) (p:Nat) (rv xv ev:Value) (bM jM:Nat) (cp pp iv sv mv:Value):Prop where
 is:Is w p #[rv,xv,cp,pp,ev,.map (some bM),.map (some jM),iv,sv,mv] 133
 rows:∃R:List (aF×Value),R.map (·.1)=T∧w.ownsRow 0 fE 3 rv T.length (R.flatMap Ot)∧∀x∈R,w.ownsRow 0 aM 1 x.2 x.1.map.length (aN x.1.map)
 mM:w.ownsRow 0 103 3 ev E.length (E.flatMap Fz)
 kX:E.map (·.1)=(mapped T).map (·.code)
 full:∀x∈E,w.ownsRow 0 aM 1 x.2.2.1 (aK T x.1).length (aN (aK T x.1))
 maps:∀x∈E,w.ownsRow 0 aM 1 x.2.1 (bF T x.1).length (aN (bF T x.1))
 nP:∀x∈E,x.2.2.2=true↔Prim T X x.1
 bm:∃G,cK Tryz.prog 21 w bM G∧(∀x u,G x u→∃c:Nat,x=.int .i32 c∧w.ownsRow 0 aM 1 u (sj T E c).length (aN (sj T E c)))∧∀c:Nat,(∀u,¬G (.int .i32 c) u)→sj T E c=[]
 jm:cK Tryz.prog 226 w jM (vK T E)
section
variable {T : List aF} {X : List Nat} {E : List dR} {w w' : World} {p bM jM : Nat} {rv xv ev cp pp iv sv mv : Value}
theorem zR.mono (h:zR T X E w p rv xv ev bM jM cp pp iv sv mv) (hb:Below w.heap.size w w'):zR T X E w' p rv xv ev bM jM cp pp iv sv mv:=by
 obtain ⟨R,r1,r2,r3⟩:=h.rows;obtain ⟨G,g1,g2,g3⟩:=h.bm
 exact ⟨h.is.mono hb,⟨R,r1,aG r2 hb,fun x hx=>aG (r3 x hx) hb⟩,aG h.mM hb,h.kX,fun x hx=>aG (h.full x hx) hb,fun x hx=>aG (h.maps x hx) hb,h.nP,
  ⟨G,g1.mono hb,fun x u hg=>by obtain ⟨c,e,hv⟩:=g2 x u hg;exact ⟨c,e,aG hv hb⟩,g3⟩,h.jm.mono hb⟩
theorem zR.put (h:zR T X E w p rv xv ev bM jM cp pp iv sv mv) (o:Nat) (u:Value) {cp' pp' iv' sv' mv':Value}
 (he:(#[rv,xv,cp,pp,ev,.map (some bM),.map (some jM),iv,sv,mv]:Array Value).setIfInBounds o u=#[rv,xv,cp',pp',ev,.map (some bM),.map (some jM),iv',sv',mv']):zR T X E (w.setCell ⟨p,o,none⟩ u) p rv xv ev bM jM cp' pp' iv' sv' mv':=by
 have c1:=bK.put (o:=o) h.is u;obtain ⟨R,r1,r2,r3⟩:=h.rows;obtain ⟨G,g1,g2,g3⟩:=h.bm
 exact ⟨he▸h.is.set o u,⟨R,r1,c1.own r2 (by decide),fun x hx=>c1.own (r3 x hx) (by decide)⟩,c1.own h.mM (by decide),h.kX,fun x hx=>c1.own (h.full x hx) (by decide),fun x hx=>c1.own (h.maps x hx) (by decide),h.nP,
  ⟨G,c1.map g1,fun x u hg=>by obtain ⟨c,e,hv⟩:=g2 x u hg;exact ⟨c,e,c1.own hv (by decide)⟩,g3⟩,c1.map h.jm⟩
theorem zQ.put {l:List Nat} {v:Value} (h:zQ w v l) {cs:Array Value} (hk:Is w p cs 133) (o:Nat) (u:Value):zQ (w.setCell ⟨p,o,none⟩ u) v l:=(bK.put (o:=o) hk u).own h (by decide)
theorem zQ.mono {l:List Nat} {v:Value} (h:zQ w v l) (hb:Below w.heap.size w w'):zQ w' v l:=aG h hb
end
theorem zR.of {T:List aF} {X:List Nat} {B p bM jM:Nat} {w:World} {l8 l9 l10:List Nat} {bg:Nat→List Nat} {jg:Value→Value→Prop} {v6 v7 v8 v9 v10 rv xv ev:Value} {Z:gY} {E:List dR}
 (h:jV T X B p bM jM w T.length T.length T.length l8 l9 l10 bg jg v6 v7 v8 v9 v10 rv xv ev Z E E) (hs:IK T E l8 l9 l10 bg jg):zR T X E w p rv xv ev bM jM (.pointer none) (.pointer none) (.slice none 0 0) (.slice none 0 0) (.slice none 0 0):=by
 have ht:T.take T.length=T:=List.take_length;obtain ⟨R,r1,r2,r3⟩:=h.rows;obtain ⟨G,g1,g2,g3⟩:=h.bm;rw [hs.ib] at g2 g3
 exact ⟨h.is,⟨R,by rw [r1,ht],aW r2 (Nat.zero_le _),fun x hx=>(r3 x hx).1⟩,aW h.mM (Nat.zero_le _),by rw [h.kX,ht],fun x hx=>(h.full x hx).1,fun x hx=>(h.maps x hx).1,h.nP,
  ⟨G,g1,fun x u hg=>by obtain ⟨c,e,hv⟩:=g2 x u hg;exact ⟨c,e,aW hv.1 (Nat.zero_le _)⟩,g3⟩,by rw [←hs.ij];exact h.jm⟩
def dZ (w:World) (p:Nat) (T:List aF) (X:List Nat):Prop:=
 ∃E rv xv ev bM jM cp pp iv sv mv,zR T X E w p rv xv ev bM jM (.pointer (some ⟨cp,0,none⟩)) (.pointer (some ⟨pp,0,none⟩)) iv sv mv∧aab w cp (gU (yh T))∧aab w pp (gU (oN E))∧
  zQ w iv (FH T E)∧zQ w sv (zP T E)∧zQ w mv (FJ E)∧bD w xv (aN (ji X))
theorem dZ.mono {w w':World} {p:Nat} {T:List aF} {X:List Nat} (h:dZ w p T X) (hb:Below w.heap.size w w'):dZ w' p T X:=by
 obtain ⟨E,rv,xv,ev,bM,jM,cp,pp,iv,sv,mv,h1,h2,h3,h4,h5,h6,h7⟩:=h;exact ⟨E,rv,xv,ev,bM,jM,cp,pp,iv,sv,mv,h1.mono hb,h2.mono hb,h3.mono hb,h4.mono hb,h5.mono hb,h6.mono hb,h7.mono hb⟩
end
end Go.Proofs.YtjidohgiigjifaaGreatDoor
namespace Go.Cd
open Go.RowKit
theorem Bn {w:World} {k:Nat} {c u:Value} {T:TypeId} {fr:Nat×Nat} (h:w.heap[k]? = some (.cells #[c] T fr)):(w.setCell ⟨k,0,none⟩ u).heap[k]? = some (.cells #[u] T fr):=by
 simp only [World.setCell,Array.getElem?_modify,if_pos,h];simp
def aaI:Value→Nat
 | .pointer (some a)=>a.block
 | .slice (some a) _ _=>a.block
 | _=>0
theorem ym {P:Program} {ops:Array Oper} {o:Oper} {a:Act} {w:World} {T:TypeId} {cs:Array Value} (hg:o.guard=none) (ho:o.op=.alloc T)
 (hz:∀W,(Instr.alloc T true (.tuple #[])).run P W=.ok (.pointer (some ⟨W.heap.size,0,none⟩)) (W.alloc (.cells cs T))) :
 rP P ops (fun v W=>∃k,v=.pointer (some ⟨k,0,none⟩)∧W.heap[k]? = some (.cells cs T)) aaI o a w:=by
 refine ⟨by simp [Region.wanted,hg],fun W hW=>⟨_,_,?_,ai _,⟨W.heap.size,rfl,heap_alloc_new' _ _ _ rfl⟩,Nat.le_refl _,?_⟩⟩
 ·have:execOp a.eval o=(do pure (.value (←Instr.alloc T true (.tuple #[])))):=by simp only [execOp,ho]
  rw [this];show (Sem.bind _ _).run P W=_;rw [Sem.run_bind',hz W];rfl
 ·simp [aaI]
theorem sw {ops:Array Oper} {vs:Nat→Value} {i:Nat} {a:Act} {d:Option Tmp} (h:eZ ops i=d):jL ops vs [i] a=a.put d (vs i):=by subst h;rfl
theorem yn {w w':World} {v:Value} {o:Obj} (hb:Below w.heap.size w w') (h:∃k,v=.pointer (some ⟨k,0,none⟩)∧w.heap[k]? = some o):∃k,v=.pointer (some ⟨k,0,none⟩)∧w'.heap[k]? = some o:=by
 obtain ⟨k,h1,h2⟩:=h;exact ⟨k,h1,(hb.block k (block_lt h2)).trans h2⟩
end Go.Cd
