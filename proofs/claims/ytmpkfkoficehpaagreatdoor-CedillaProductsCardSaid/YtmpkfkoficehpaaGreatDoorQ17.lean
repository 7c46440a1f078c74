/- CedillaProducts: where a text may be cut apart, it has as many texts that are alike as its two parts multiplied; no condition. -/
import Derived.Test.YtmpkfkoficehpaaGreatDoorQ16
import Derived.Deep.Cut
import Derived.Deep.CutBlock
set_option maxRecDepth 100000
set_option maxHeartbeats 6400000
namespace Go.Proofs.YtmpkfkoficehpaaGreatDoor
section
open Go.RowKit Go.Cd Go.Shelf
attribute [local go_sem] Oper.semAt_some
theorem YA (bs:List Nat) (h:∀b∈bs,1≤b):((bs.map fun b:Nat=>(b:Int)).any fun b=>decide (b<1))=false:=by
 rw [List.any_eq_false];intro b hb;obtain ⟨c,hc,rfl⟩:=List.mem_map.1 hb;have:=h c hc;simp;omega
theorem Et (bs:List Nat):bJ (bs.map fun b:Nat=>(b:Int))=ds bs:=by simp [bJ,ds]
def jb (w:World) (v:Value) (bs:List Nat):Prop:=∃s1 s2,v=.agg #[s1,s2,.int .i64 (aX bs:Nat)]∧Sl bq w s1 (ds bs)∧Sl bq w s2 (ds (weights bs))
theorem jb.weak {w:World} {v:Value} {bs:List Nat} (h:jb w v bs):fO w v bs:=by
 obtain ⟨s1,s2,hv,h1,h2⟩:=h;exact ⟨s1,s2,hv,h1.any,h2.any⟩
theorem jb.mono {w w':World} {v:Value} {bs:List Nat} (h:jb w v bs) (hb:Below w.heap.size w w'):jb w' v bs:=by
 obtain ⟨s1,s2,hv,h1,h2⟩:=h;exact ⟨s1,s2,hv,h1.mono hb,h2.mono hb⟩
theorem Vn {w:World} {v:Value} {bs:List Nat} (h:bB w v (ds bs)) (hmax:bs.length<1099511627776) (hpos:∀b∈bs,1≤b) (hbig:∀b∈bs,b<9223372036854775808) :
 Calls Tryz.prog 107 #[v] w fun e w'=>∃(r:Value) (e0:Nat),e=.returned (.tuple #[r,.int .i64 e0])∧Below w.heap.size w w'∧((aX bs≤1073741824∧e0=0∧jb w' r bs)∨(1073741824<aX bs∧e0=4∧r=.agg #[.slice none 0 0,.slice none 0 0,.int .i64 0])):=by
 rw [←Et] at h;have hb:=ed (w:=w) (.cells #[.slice none 0 0,.slice none 0 0,.int .i64 0] cB) (.cells #[.int .i64 0] 37);have CF:=aa (xN (h.mono hb) (by simpa using hmax));have z2:((w.alloc (.cells #[.slice none 0 0,.slice none 0 0,.int .i64 0] cB)).alloc (.cells #[.int .i64 0] 37)).heap[w.heap.size]? = some (.cells #[.slice none 0 0,.slice none 0 0,.int .i64 0] cB):=((af _).block _ (by simp)).trans (heap_alloc_new' _ _ _ rfl);have z3:((w.alloc (.cells #[.slice none 0 0,.slice none 0 0,.int .i64 0] cB)).alloc (.cells #[.int .i64 0] 37)).heap[w.heap.size+1]? = some (.cells #[.int .i64 0] 37):=heap_alloc_new' _ _ _ (by simp);rw [YA bs hpos] at CF;have CL:=aa (fun (W:World) (E:Below _ ((w.alloc (.cells #[.slice none 0 0,.slice none 0 0,.int .i64 0] cB)).alloc (.cells #[.int .i64 0] 37)) W)=>CP ((h.mono hb).mono E) (by simpa using hmax));rw [Et,List.length_map] at CL;obtain ⟨x1,xZ,rfl,hcp1,_⟩:=bB.qL h;rw [List.length_map] at *;have Ba:=aa hpos;have Vo:=aa hbig;clear h hpos hbig;refine iI Tryz.func107 rfl ?_;simp only [Tryz.ntmps107,List.size_toArray,List.length_cons,List.length_nil,Nat.reduceAdd,Nat.reduceSub,Array.replicate_succ,Array.replicate_zero,List.push_toArray,List.append_toArray,List.nil_append,List.cons_append];go_wp2_with fail;refine CF.out.mono ?_;rintro e w2 ⟨rfl,hb2⟩;have y2:oo w2 w.heap.size (.slice none 0 0) (.slice none 0 0) (.int .i64 0) cB:=⟨(hb2.block _ (by simp <;> omega)).trans z2⟩;have y3:=(hb2.block _ (by simp)).trans z3;have T0:=yn w2;have Xo:=aa (fun (W:World) (E:Below w2.heap.size w2 W)=>CL.out W (ah hb2 E));have hB2:=hb.trans (hb2.mono hb.size);have hs2:w.heap.size+2≤w2.heap.size:=by have:=hb2.size;simp at this;omega
 clear CF CL hb2 hb z2 z3;go_upto_region 3 with fail
 go_cut [4] from 10 to 15 (fun pv W0=>∃(X:Nat) (a1:Option Addr) (c1 g:Nat),pv=.pointer (some ⟨X,0,none⟩)∧oo W0 X (.slice a1 bs.length c1) (.slice (some ⟨g,0,none⟩) bs.length bs.length) (.int .i64 1) cB∧W0.ownsRow 0 bq 1 (.slice a1 bs.length c1) bs.length (ds bs)∧W0.ownsRow 0 bq 1 (.slice (some ⟨g,0,none⟩) bs.length bs.length) bs.length (List.replicate bs.length (Value.int .i64 0))∧
  oo W0 w.heap.size (.slice none 0 0) (.slice none 0 0) (.int .i64 0) cB∧W0.heap[w.heap.size+1]? = some (.cells #[.int .i64 0] 37)∧Below w.heap.size w W0∧(Value.slice a1 bs.length c1).ownBlock≠some g∧w2.heap.size≤g∧w2.heap.size≤X∧g≠X∧(Value.slice a1 bs.length c1).ownBlock≠some X)
 case first=>
  refine aF #[true,true,true,true,true,true,true,false] 7 1 mixed (by rfl) ?_;have OU:=ah T0 (ag _);refine ay [0,2,3] 4 rfl (by kernel_rfl) ?_
  iterate 3 (refine aB rfl ?_;go_big_quiet_step (rfl))
  refine az ?_;refine KP [6] (fun _ v W=>∃k,v=.pointer (some ⟨k,0,none⟩)∧W.heap[k]? = some (.cells #[.slice none 0 0,.slice none 0 0,.int .i64 0] cB)) pJ 3 rfl (by kernel_rfl) (fun _ _ _ _ hb h=>uH hb h) ?_ ?_
  ·intro i hi o ho;simp only [List.mem_cons,List.not_mem_nil,or_false] at hi;subst hi;cases ho;exact uG rfl rfl (fun W=>by go_simp)
  refine Vk 1 4 (by kernel_rfl) rfl rfl ?_ ?_
  ·intro k1v k1c;have k1D:=ah OU k1c;go_wp2_with fail;refine (Xo.out _ k1D).mono ?_;rintro e k1w ⟨s1,rfl,o1,OW⟩;obtain ⟨a1,c1,rfl,_,_⟩:=bB.out (Sl.aW o1).any;rw [mI] at *;go_wp2_with fail;refine aD OW ?_;have Qk:=ah k1D OW;refine nR 4 (by kernel_rfl) rfl ?_;intro Xp Vp;go_wp2_with (at_make;refine fG _ rfl _ _ 23 rfl Xp.heap.size bq _ 8 jh rfl .i64 .i64 _ _ bs.length rfl rfl (by omega) (by omega) (by omega) (by unfold maxLen;omega) (by simp) ?_;intro KS o2 hg2);refine aD (fA hg2) ?_;have CQ:=fA hg2;have Ub:=ah (ah Qk Vp) CQ;have hne:(Value.slice a1 bs.length c1).ownBlock≠some Xp.heap.size:=fun e=>by
    have:=(o1.lt _ e).2;have:=Vp.size;omega
   have o1:=aG o1 (ah Vp CQ);obtain ⟨g,hg⟩:=ae Xp.heap.size;rw [←hg] at o2 hne ⊢;have hgs:w2.heap.size≤g:=by have:=(ah Qk Vp).size;omega
   clear hg hg2 k1D Qk OW k1c Vp CQ OU;refine ng [5] 0 rfl (by kernel_rfl) ?_;refine aB rfl ?_;go_big_quiet_step (rfl);refine az ?_;refine pI [7] (by kernel_rfl) ?_;intro W Wb vs hR hD;have WE:=ah Ub Wb;obtain ⟨⟨X,hv,hh⟩,hN,hbk⟩:=hR 6 (by simp);rw [hv] at hN hbk;simp only [pJ] at hN hbk;rw [pK (d:=some 4) rfl,hv];have o1:=aG o1 Wb;have o2:=aG o2 Wb;have IX:oo W X (.slice none 0 0) (.slice none 0 0) (.int .i64 0) cB:=⟨hh⟩;have Xq:g≠X:=fun e=>by
    have:=o2.2;rcases this with ⟨h,_⟩|⟨g',_,cur,h,_,h2,_⟩
    ·cases h
    ·cases h;rw [e,hh] at h2;cases h2
   have OX:(Value.slice a1 bs.length c1).ownBlock≠some X:=fun e=>by
    rcases o1.2 with ⟨h,_⟩|⟨g',_,cur,h,_,h2,_⟩
    ·rw [h] at e;cases e
    ·rw [h] at e;cases e;rw [hh] at h2;cases h2
   obtain ⟨⟨g1,g2⟩,g3,g4⟩:=IX.writes;have g5:=fun u=>(g3 u).1;have g6:=fun u=>(g3 u).2;have g7:=fun u u'=>(g4 u u').1;have g8:=fun u u'=>(g4 u u').2;have gx0:=oo.set0 IX (.slice a1 bs.length c1);have gx1:=gx0.set1 (.slice (some ⟨g,0,none⟩) bs.length bs.length);have FX:=gx1.set2 (.int .i64 1);have hW0:∀(W:World) (k o:Nat) (u:Value),W.grownBy (W.setCell ⟨k,o,none⟩ u) (some k):=fun W k o u=>⟨rfl,rfl,rfl,by simp,fun j _ hj=>heap_setCell_other W ⟨k,o,none⟩ j u (fun e=>hj (by simp [e]))⟩;have o1:=((o1.kept (hW0 _ X 0 (.slice a1 bs.length c1)) (.inr OX)).kept (hW0 _ X 1 (.slice (some ⟨g,0,none⟩) bs.length bs.length)) (.inr OX)).kept (hW0 _ X 2 (.int .i64 1)) (.inr OX);have KT:(Value.slice (some ⟨g,0,none⟩) bs.length bs.length).ownBlock≠some X:=fun e=>Xq (by simpa [Value.ownBlock] using e);have o2:=((o2.kept (hW0 _ X 0 (.slice a1 bs.length c1)) (.inr KT)).kept (hW0 _ X 1 (.slice (some ⟨g,0,none⟩) bs.length bs.length)) (.inr KT)).kept (hW0 _ X 2 (.int .i64 1)) (.inr KT);have hN':w2.heap.size≤X:=hN;have hX2:w.heap.size+2≤X:=by omega
   have F2:=(((y2.mono WE).put (j:=X) (o:=0) (by omega) (.slice a1 bs.length c1)).put (j:=X) (o:=1) (by omega) (.slice (some ⟨g,0,none⟩) bs.length bs.length)).put (j:=X) (o:=2) (by omega) (.int .i64 1);have F3:(((W.setCell ⟨X,0,none⟩ (.slice a1 bs.length c1)).setCell ⟨X,1,none⟩ (.slice (some ⟨g,0,none⟩) bs.length bs.length)).setCell ⟨X,2,none⟩ (.int .i64 1)).heap[w.heap.size+1]? = some (.cells #[.int .i64 0] 37):=by
    rw [Below.heap_setCell _ _ _ _ (by simp only;omega),Below.heap_setCell _ _ _ _ (by simp only;omega),Below.heap_setCell _ _ _ _ (by simp only;omega)];exact (WE.block _ (block_lt y3)).trans y3
   have EB:Below w.heap.size w (((W.setCell ⟨X,0,none⟩ (.slice a1 bs.length c1)).setCell ⟨X,1,none⟩ (.slice (some ⟨g,0,none⟩) bs.length bs.length)).setCell ⟨X,2,none⟩ (.int .i64 1)):=
    aj (aj (aj (hB2.trans (WE.mono hB2.size)) (by omega)) (by omega)) (by omega)
   refine Ei (os:=[_]) rfl ?_;clear WE Wb hR hD hv hh hN hbk Ub IX gx0 gx1 g3 g4;go_wp2_with fail;clear g1 g2 g5 g6 g7 g8;refine Ej ?_;obtain ⟨W0,hW⟩:∃W0,((W.setCell ⟨X,0,none⟩ (.slice a1 bs.length c1)).setCell ⟨X,1,none⟩ (.slice (some ⟨g,0,none⟩) bs.length bs.length)).setCell ⟨X,2,none⟩ (.int .i64 1)=W0:=⟨_,rfl⟩;rw [hW] at FX o1 o2 F2 F3 EB ⊢;clear hW;go_wp2_with fail;go_meet;exact ⟨X,a1,c1,g,rfl,FX,aT o1 (Nat.zero_le _),aT o2 (Nat.zero_le _),F2,F3,EB,hne,hgs,hN',Xq,OX⟩
  ·intro Xp Vp;go_wp2_with (at_make;refine fG _ rfl _ _ 23 rfl Xp.heap.size bq _ 8 jh rfl .i64 .i64 _ _ bs.length rfl rfl (by omega) (by omega) (by omega) (by unfold maxLen;omega) (by simp) ?_;intro k1v o2 hg2);refine aD (fA hg2) ?_;have Qk:=ah (ah OU Vp) (fA hg2);refine nR 1 (by kernel_rfl) rfl ?_;intro k3v k3c;have k3D:=ah Qk k3c;go_wp2_with fail;refine (Xo.out _ k3D).mono ?_;rintro e KS ⟨s1,rfl,o1,CQ⟩;obtain ⟨a1,c1,rfl,_,_⟩:=bB.out (Sl.aW o1).any;rw [mI] at *;go_wp2_with fail;refine aD CQ ?_;have Ub:=ah k3D CQ;have hgl:=(o2.lt Xp.heap.size rfl).2;have hne:(Value.slice a1 bs.length c1).ownBlock≠some Xp.heap.size:=fun e=>by
    have:=(o1.lt _ e).1;have:=k3c.size;omega
   have o2:=aG o2 (ah k3c CQ);obtain ⟨g,hg⟩:=ae Xp.heap.size;rw [←hg] at o2 hne ⊢;have hgs:w2.heap.size≤g:=by have:=(ah OU Vp).size;omega
   clear hg hg2 hgl Qk k3D CQ Vp k3c OU;refine ng [5] 0 rfl (by kernel_rfl) ?_;refine aB rfl ?_;go_big_quiet_step (rfl);refine az ?_;refine pI [7] (by kernel_rfl) ?_;intro W Wb vs hR hD;have WE:=ah Ub Wb;obtain ⟨⟨X,hv,hh⟩,hN,hbk⟩:=hR 6 (by simp);rw [hv] at hN hbk;simp only [pJ] at hN hbk;rw [pK (d:=some 4) rfl,hv];have o1:=aG o1 Wb;have o2:=aG o2 Wb;have IX:oo W X (.slice none 0 0) (.slice none 0 0) (.int .i64 0) cB:=⟨hh⟩;have Xq:g≠X:=fun e=>by
    have:=o2.2;rcases this with ⟨h,_⟩|⟨g',_,cur,h,_,h2,_⟩
    ·cases h
    ·cases h;rw [e,hh] at h2;cases h2
   have OX:(Value.slice a1 bs.length c1).ownBlock≠some X:=fun e=>by
    rcases o1.2 with ⟨h,_⟩|⟨g',_,cur,h,_,h2,_⟩
    ·rw [h] at e;cases e
    ·rw [h] at e;cases e;rw [hh] at h2;cases h2
   obtain ⟨⟨g1,g2⟩,g3,g4⟩:=IX.writes;have g5:=fun u=>(g3 u).1;have g6:=fun u=>(g3 u).2;have g7:=fun u u'=>(g4 u u').1;have g8:=fun u u'=>(g4 u u').2;have gx0:=oo.set0 IX (.slice a1 bs.length c1);have gx1:=gx0.set1 (.slice (some ⟨g,0,none⟩) bs.length bs.length);have FX:=gx1.set2 (.int .i64 1);have hW0:∀(W:World) (k o:Nat) (u:Value),W.grownBy (W.setCell ⟨k,o,none⟩ u) (some k):=fun W k o u=>⟨rfl,rfl,rfl,by simp,fun j _ hj=>heap_setCell_other W ⟨k,o,none⟩ j u (fun e=>hj (by simp [e]))⟩;have o1:=((o1.kept (hW0 _ X 0 (.slice a1 bs.length c1)) (.inr OX)).kept (hW0 _ X 1 (.slice (some ⟨g,0,none⟩) bs.length bs.length)) (.inr OX)).kept (hW0 _ X 2 (.int .i64 1)) (.inr OX);have KT:(Value.slice (some ⟨g,0,none⟩) bs.length bs.length).ownBlock≠some X:=fun e=>Xq (by simpa [Value.ownBlock] using e);have o2:=((o2.kept (hW0 _ X 0 (.slice a1 bs.length c1)) (.inr KT)).kept (hW0 _ X 1 (.slice (some ⟨g,0,none⟩) bs.length bs.length)) (.inr KT)).kept (hW0 _ X 2 (.int .i64 1)) (.inr KT);have hN':w2.heap.size≤X:=hN;have hX2:w.heap.size+2≤X:=by omega
   have F2:=(((y2.mono WE).put (j:=X) (o:=0) (by omega) (.slice a1 bs.length c1)).put (j:=X) (o:=1) (by omega) (.slice (some ⟨g,0,none⟩) bs.length bs.length)).put (j:=X) (o:=2) (by omega) (.int .i64 1);have F3:(((W.setCell ⟨X,0,none⟩ (.slice a1 bs.length c1)).setCell ⟨X,1,none⟩ (.slice (some ⟨g,0,none⟩) bs.length bs.length)).setCell ⟨X,2,none⟩ (.int .i64 1)).heap[w.heap.size+1]? = some (.cells #[.int .i64 0] 37):=by
    rw [Below.heap_setCell _ _ _ _ (by simp only;omega),Below.heap_setCell _ _ _ _ (by simp only;omega),Below.heap_setCell _ _ _ _ (by simp only;omega)];exact (WE.block _ (block_lt y3)).trans y3
   have EB:Below w.heap.size w (((W.setCell ⟨X,0,none⟩ (.slice a1 bs.length c1)).setCell ⟨X,1,none⟩ (.slice (some ⟨g,0,none⟩) bs.length bs.length)).setCell ⟨X,2,none⟩ (.int .i64 1)):=
    aj (aj (aj (hB2.trans (WE.mono hB2.size)) (by omega)) (by omega)) (by omega)
   refine Ei (os:=[_]) rfl ?_;clear WE Wb hR hD hv hh hN hbk Ub IX gx0 gx1 g3 g4;go_wp2_with fail;clear g1 g2 g5 g6 g7 g8;refine Ej ?_;obtain ⟨W0,hW⟩:∃W0,((W.setCell ⟨X,0,none⟩ (.slice a1 bs.length c1)).setCell ⟨X,1,none⟩ (.slice (some ⟨g,0,none⟩) bs.length bs.length)).setCell ⟨X,2,none⟩ (.int .i64 1)=W0:=⟨_,rfl⟩;rw [hW] at FX o1 o2 F2 F3 EB ⊢;clear hW;go_wp2_with fail;go_meet;exact ⟨X,a1,c1,g,rfl,FX,aT o1 (Nat.zero_le _),aT o2 (Nat.zero_le _),F2,F3,EB,hne,hgs,hN',Xq,OX⟩
 case rest=>
  rename World=>W0;obtain ⟨X,a1,c1,g,rfl,FX,o1,o2,F2,F3,EB,hne,hgs,hN,Xq,OX⟩:=hcut;have hX2:w.heap.size+2≤X:=by omega
  have hW0:∀(W:World) (k o:Nat) (u:Value),W.grownBy (W.setCell ⟨k,o,none⟩ u) (some k):=fun W k o u=>⟨rfl,rfl,rfl,by simp,fun j _ hj=>heap_setCell_other W ⟨k,o,none⟩ j u (fun e=>hj (by simp [e]))⟩;obtain ⟨e0,e1,e2⟩:=FX.cell;go_wp2_with fail;refine (En _ W0 ⟨_,_,_,rfl⟩).mono ?_;rintro e w5 ⟨rfl,rfl⟩;go_wp2_with fail;have TS:=aa hne;have WL:=aa (show W0.heap.size≤(W0.alloc (.cells #[.slice a1 bs.length c1] 23)).heap.size by simp);have hX0:X<W0.heap.size:=block_lt FX.at_;have hg0:g<W0.heap.size:=(o2.lt g rfl).2;have e2:List.replicate bs.length (Value.int .i64 0)=ds (Eo bs.length []).1:=by simp [ds,Eo]
  rw [e2] at o2;obtain ⟨bb,hbl,hbo,hIA⟩:∃bb,bb≤W0.heap.size∧(0<bs.length→(Value.slice a1 bs.length c1).ownBlock=some bb)∧zG bb (W0.alloc (.cells #[.slice a1 bs.length c1] 23)) (.slice a1 bs.length c1) bs.length (fun j=>((Vm bs j).1.2:Int)):=by
   rcases (Sl.aW o1).any.cases with ⟨hn,a,cap,hv,_⟩|⟨b,off,cap,hv,hc,hp,hb,hx⟩
   ·have hl:bs=[]:=by simpa [ds] using hn
    subst hl;exact ⟨0,Nat.zero_le _,fun h=>absurd h (by simp),.inl ⟨rfl,_,_,rfl⟩⟩
   ·rw [mI] at hv;cases hv;refine ⟨b,Nat.le_of_lt hb,fun _=>rfl,.inr ⟨off,_,rfl,by simp;omega,fun j hj=>?_⟩⟩;rw [(af _).cell (p:=⟨b,off+j,none⟩) hb,hx j (by rw [mI];exact hj),nC _ _ hj];show _=some (Value.int .i64 (((Vm bs j).1.2:Nat):Int));rw [Er Ba.out Vo.out hj]
  refine (wpIn_wide (n:=5)).1 ?_;refine wpIn_rangeFunc_ownG (F:=Fence.wide) rfl (by omega) (gf:=180) (lb:=#[.pointer (some ⟨W0.heap.size,0,none⟩)]) rfl trivial (enters_of Tryz.func180 (by kernel_rfl) rfl)
   (IB Fence.wide 4 trivial rfl (by omega) W0.heap.size bb (.slice a1 bs.length c1) bs.length hmax (Vm bs) (fun x=>#[.int .i64 (x.1.1:Int),.int .i64 (x.1.2:Int)]) (fun j=>((Vm bs j).1.2:Int))
     (fun j hj=>by rw [Er Ba.out Vo.out hj]) (W0.alloc (.cells #[.slice a1 bs.length c1] 23)) (by simp) (by go_simp) hIA)
   (fun h k=>h.trans k) (fun W l o o' hl ho hc _=>by
     have hl':W0.heap.size+1≤l:=by simpa using hl
     exact ⟨World.putObj_heap_other (by omega),World.putObj_heap_other (by omega)⟩) (Below.refl _ _) (fun _=>rfl)
   (fun pre W=>(((1≤(Eo bs.length pre).2∧(Eo bs.length pre).2≤1073741824)∧oo W X (.slice a1 bs.length c1) (.slice (some ⟨g,0,none⟩) bs.length bs.length) (.int .i64 ((Eo bs.length pre).2:Nat)) cB∧W.ownsRow 0 bq 1 (.slice (some ⟨g,0,none⟩) bs.length bs.length) bs.length (ds (Eo bs.length pre).1)∧
     W.ownsRow 0 bq 1 (.slice a1 bs.length c1) bs.length (ds bs)∧oo W w.heap.size (.slice none 0 0) (.slice none 0 0) (.int .i64 0) cB∧W.heap[w.heap.size+1]? = some (.cells #[.int .i64 0] 37))∧Below w.heap.size w W))
   (fun c pre W=>(c=.ret∧(∃(ini:List (BX bs.length)) (last:BX bs.length),pre=ini++[last]∧1073741824 / (Eo bs.length ini).2<last.1.2)∧oo W w.heap.size (.slice none 0 0) (.slice none 0 0) (.int .i64 0) cB∧W.heap[w.heap.size+1]? = some (.cells #[.int .i64 4] 37))∧Below w.heap.size w W)
   (OwnFrom.and (Own.from (fun s A B row hs hg hr=>⟨hs.1,⟨mU hg hr hs.2.1.at_⟩,QL hg hr hs.2.2.1,QL hg hr hs.2.2.2.1,⟨mU hg hr hs.2.2.2.2.1.at_⟩,mU hg hr hs.2.2.2.2.2⟩) _) (ownFrom_below (Nat.le_refl _) (by have:=EB.size;simp;omega)))
   (fun c=>OwnFrom.and (Own.from (fun s A B row hs hg hr=>⟨hs.1,hs.2.1,⟨mU hg hr hs.2.2.1.at_⟩,mU hg hr hs.2.2.2⟩) _) (ownFrom_below (Nat.le_refl _) (by have:=EB.size;simp;omega)))
   ⟨⟨⟨Nat.le_refl _,by show (1:Nat)≤1073741824;decide⟩,FX.mono (af _),aT (aG o2 (af _)) (Nat.zero_le _),aT (aG o1 (af _)) (Nat.zero_le _),F2.mono (af _),((af _).block _ (block_lt F3)).trans F3⟩,EB.alloc EB.size _⟩
   (fun x=>{ tmps:=#[.slice x1 bs.length xZ,undef,.pointer (some ⟨w.heap.size,0,none⟩),.pointer (some ⟨w.heap.size+1,0,none⟩),.pointer (some ⟨X,0,none⟩),.int .i64 (x.1.1:Int),.int .i64 (x.1.2:Int),.slice x1 bs.length xZ,.bool false,undef,u10,u11,u12,u13,u14,u15,.pointer (some ⟨X,0,none⟩),.slice a1 bs.length c1,
     .func (.func 180) #[] #[.pointer (some ⟨W0.heap.size,0,none⟩)],.int .i64 (x.1.1:Int),.int .i64 (x.1.2:Int),undef,undef,undef,undef,undef,undef,undef,undef,undef,undef,undef,undef,undef,undef,undef,undef,undef,undef],defers:=[] }) ?assign ?body ?done ?stop
  case assign=>
   intro l x W K hK
   gi_wp2
   exact hK
  case body=>
   rintro l pre ⟨⟨i,b⟩,hi,hb1,hb2⟩ Wr ⟨⟨⟨hs1,hs2⟩,JX,q2,q1,G2,G3⟩,hB⟩ hlt;have hin:i<bs.length:=by rcases hi with h|h;exact h;omega
   have hsn:=IC pre ⟨(i,b),hi,hb1,hb2⟩;have hsl:=Vl pre;obtain ⟨row,s,hst⟩:∃row s,Eo bs.length pre=(row,s):=⟨_,_,rfl⟩;rw [hst] at hsn hsl hs1 hs2 JX q2;simp only at hsn hsl hs1 hs2 JX q2 hb1 hb2 hi;have HST:=aa hst;have YB:=aa hsn;clear hst hsn;obtain ⟨u0,u1,u2⟩:=JX.cell;obtain ⟨hcell,hfr⟩:=jJ q2 (j:=i) (by simp;omega);rw [nC _ _ (by omega)] at hcell;have afs:X≠g:=fun e=>Xq e.symm;obtain ⟨q3,hgr⟩:=q2.stored i (.int .i64 (s:Int));have e3:(ds row).set i (.int .i64 (s:Int))=ds (row.set i s):=by simp [ds,List.map_set]
   rw [e3] at q3;have hne2:=TS.out;have q4:=q1.kept hgr (.inr hne2);have KX:=JX.put (j:=g) (o:=i) afs (.int .i64 (s:Int));have hg2:w.heap.size+2≤g:=by omega
   have K2:=G2.put (j:=g) (o:=i) (by omega) (.int .i64 (s:Int));have K3:(Wr.setCell ⟨g,i,none⟩ (.int .i64 (s:Int))).heap[w.heap.size+1]? = some (.cells #[.int .i64 0] 37):=by rw [Below.heap_setCell _ _ _ _ (by simp only;omega)];exact G3
   have hB3:=aj (off:=i) (u:=.int .i64 (s:Int)) (b:=g) hB (by omega);obtain ⟨v0,v1,v2⟩:=KX.cell;have v3:=KX.frozen 2;have hsz:s≠0:=by omega
   have aft:KeepsFrom W0.heap.size Wr (Wr.setCell ⟨g,i,none⟩ (.int .i64 (s:Int))):=(KeepsOthers.setCell _ _ _).from _;by_cases hbig:1073741824 / s<b
   ·have hbd:decide ((1073741824:Int) / (s:Int)<(b:Int))=true:=decide_eq_true (by have:=Int.ofNat_lt.2 hbig;rw [Int.natCast_ediv] at this;exact this);have hbi:(1073741824:Int) / (s:Int)<(b:Int):=of_decide_eq_true hbd;obtain ⟨⟨g1,g2⟩,g3,g4⟩:=K2.writes;have g5:=fun u=>(g3 u).1;have g6:=fun u=>(g3 u).2;have g7:=fun u u'=>(g4 u u').1;have g8:=fun u u'=>(g4 u u').2;have J2:=((K2.set0 (.slice none 0 0)).set1 (.slice none 0 0)).set2 (.int .i64 0);have J3:(((((Wr.setCell ⟨g,i,none⟩ (.int .i64 (s:Int))).setCell ⟨w.heap.size,0,none⟩ (.slice none 0 0)).setCell ⟨w.heap.size,1,none⟩ (.slice none 0 0)).setCell ⟨w.heap.size,2,none⟩ (.int .i64 0))).heap[w.heap.size+1]? = some (.cells #[.int .i64 0] 37):=by
     rw [Below.heap_setCell _ _ _ _ (by simp),Below.heap_setCell _ _ _ _ (by simp),Below.heap_setCell _ _ _ _ (by simp)];exact K3
    obtain ⟨g9,g10⟩:=uI J3;have J2':=J2.put (j:=w.heap.size+1) (o:=0) (by omega) (.int .i64 4);have J3':=CG (u:=.int .i64 4) J3;have Vq:=aj (off:=0) (u:=.int .i64 4) (b:=w.heap.size+1) (aj (off:=2) (u:=.int .i64 0) (b:=w.heap.size) (aj (off:=1) (u:=.slice none 0 0) (b:=w.heap.size) (aj (off:=0) (u:=.slice none 0 0) (b:=w.heap.size) hB3 (Nat.le_refl _)) (Nat.le_refl _)) (Nat.le_refl _)) (by omega);have hkf:=((((KeepsOthers.setCell Wr ⟨g,i,none⟩ (.int .i64 (s:Int))).trans (KeepsOthers.setCell _ ⟨w.heap.size,0,none⟩ (.slice none 0 0))).trans (KeepsOthers.setCell _ ⟨w.heap.size,1,none⟩ (.slice none 0 0))).trans (KeepsOthers.setCell _ ⟨w.heap.size,2,none⟩ (.int .i64 0))).trans (KeepsOthers.setCell _ ⟨w.heap.size+1,0,none⟩ (.int .i64 4));clear g3 g4 J2 J3 K2 K3 G2 G3 hB hB3 q1 q2 q3 q4 KX JX hgr
    gi_wp2
    exact ⟨hkf.from _,⟨rfl,⟨pre,⟨(i,b),hi,hb1,hb2⟩,rfl,by rw [HST.out];exact hbig⟩,J2',J3'⟩,Vq⟩
   ·have hbd:decide ((1073741824:Int) / (s:Int)<(b:Int))=false:=decide_eq_false (by have:=Int.ofNat_le.2 (Nat.le_of_not_lt hbig);rw [Int.natCast_ediv] at this;exact Int.not_lt.2 this);have hsb:s*b≤1073741824:=by
     have h1:=Nat.le_of_not_lt hbig;have h2:=Nat.mul_le_mul_left s h1;have h3:=Nat.mul_div_le 1073741824 s;omega
    have abK:1≤s*b:=Nat.mul_le_mul hs1 hb1;have hww:wrap64 ((s:Int)*(b:Int))=((s*b:Nat):Int):=by rw [←Int.natCast_mul];unfold wrap64;omega
    have L2:=KX.set2 (.int .i64 ((s*b:Nat):Int));have afu:(Value.slice (some ⟨g,0,none⟩) bs.length bs.length).ownBlock≠some X:=fun e=>Xq (by simpa [Value.ownBlock] using e);have q5:=q3.kept (hW0 _ X 2 (.int .i64 ((s*b:Nat):Int))) (.inr afu);have q6:=q4.kept (hW0 _ X 2 (.int .i64 ((s*b:Nat):Int))) (.inr OX);have L3:=K2.put (j:=X) (o:=2) (by omega) (.int .i64 ((s*b:Nat):Int));have L4:((Wr.setCell ⟨g,i,none⟩ (.int .i64 (s:Int))).setCell ⟨X,2,none⟩ (.int .i64 ((s*b:Nat):Int))).heap[w.heap.size+1]? = some (.cells #[.int .i64 0] 37):=by rw [Below.heap_setCell _ _ _ _ (by simp only;omega)];exact K3
    have hB4:=aj (off:=2) (u:=.int .i64 ((s*b:Nat):Int)) (b:=X) hB3 (by omega);have hkf:=(KeepsOthers.setCell Wr ⟨g,i,none⟩ (.int .i64 (s:Int))).trans (KeepsOthers.setCell _ ⟨X,2,none⟩ (.int .i64 ((s*b:Nat):Int)));have afv:=hbo (by omega);have hbg:bb≠g∧bb≠X:=by
     rw [afv] at hne2 OX;exact ⟨fun e=>hne2 (by rw [e]),fun e=>OX (by rw [e])⟩
    have hkp:kI W0.heap.size bb Wr ((Wr.setCell ⟨g,i,none⟩ (.int .i64 (s:Int))).setCell ⟨X,2,none⟩ (.int .i64 ((s*b:Nat):Int))):=by
     constructor
     ·rw [Below.heap_setCell _ _ _ _ (by simp only;omega),Below.heap_setCell _ _ _ _ (by simp only;omega)]
     ·rw [Below.heap_setCell _ _ _ _ (by simp only;exact hbg.2),Below.heap_setCell _ _ _ _ (by simp only;exact hbg.1)]
    have HW:=aa hww;obtain ⟨m,hm⟩:=ae (s*b);rw [←hm] at hww hsb abK L2 L3 L4 q5 q6 hB4 hkf hkp;have HM:=aa hm;clear hm K2 K3 G2 G3 hB hB3 q1 q2 q3 q4 KX JX hgr
    gi_wp2
    refine ⟨hkf.from _,hkp,?_⟩;dsimp only;rw [YB.out];exact ⟨⟨⟨by rw [←HM.out];exact abK,by rw [←HM.out];exact hsb⟩,by rw [←HM.out];exact L2,q5,q6,L3,L4⟩,hB4⟩
  case done=>
   rintro D ys Wd hD rfl ⟨⟨⟨hs1,hs2⟩,JX,q2,q1,G2,G3⟩,hB⟩ hK;rw [KQ Ba.out Vo.out _ (Nat.le_refl _),Nat.sub_self,List.drop_zero] at hs2 JX q2;simp only [List.replicate_zero,List.nil_append] at q2 hs2 JX;obtain ⟨P,hP⟩:=ae (aX bs);rw [←hP] at hs2 JX;have HP:=aa hP;clear hP;have hD1:W0.heap.size+1≤D:=by simpa using hD
   obtain ⟨u0,u1,u2⟩:=JX.cell;obtain ⟨⟨g1,g2⟩,g3,g4⟩:=G2.writes;have g5:=fun u=>(g3 u).1;have g6:=fun u=>(g3 u).2;have g7:=fun u u'=>(g4 u u').1;have g8:=fun u u'=>(g4 u u').2;have J2:=((G2.set0 (.slice a1 bs.length c1)).set1 (.slice (some ⟨g,0,none⟩) bs.length bs.length)).set2 (.int .i64 (P:Int));have J3:((((Wd.setCell ⟨w.heap.size,0,none⟩ (.slice a1 bs.length c1)).setCell ⟨w.heap.size,1,none⟩ (.slice (some ⟨g,0,none⟩) bs.length bs.length)).setCell ⟨w.heap.size,2,none⟩ (.int .i64 (P:Int)))).heap[w.heap.size+1]? = some (.cells #[.int .i64 0] 37):=by
    rw [Below.heap_setCell _ _ _ _ (by simp),Below.heap_setCell _ _ _ _ (by simp),Below.heap_setCell _ _ _ _ (by simp)];exact G3
   obtain ⟨g9,g10⟩:=uI J3;have J2':=J2.put (j:=w.heap.size+1) (o:=0) (by omega) (.int .i64 0);have J3':=CG (u:=.int .i64 0) J3;have n1:=own_ne q1 G2.at_ (by decide);have n2:=own_ne q1 G3 (by decide);have n3:=own_ne q2 G2.at_ (by decide);have n4:=own_ne q2 G3 (by decide);have q3:=(((q1.kept (hW0 _ w.heap.size 0 (.slice a1 bs.length c1)) (.inr n1)).kept (hW0 _ w.heap.size 1 (.slice (some ⟨g,0,none⟩) bs.length bs.length)) (.inr n1)).kept (hW0 _ w.heap.size 2 (.int .i64 (P:Int))) (.inr n1)).kept (hW0 _ (w.heap.size+1) 0 (.int .i64 0)) (.inr n2);have q4:=(((q2.kept (hW0 _ w.heap.size 0 (.slice a1 bs.length c1)) (.inr n3)).kept (hW0 _ w.heap.size 1 (.slice (some ⟨g,0,none⟩) bs.length bs.length)) (.inr n3)).kept (hW0 _ w.heap.size 2 (.int .i64 (P:Int))) (.inr n3)).kept (hW0 _ (w.heap.size+1) 0 (.int .i64 0)) (.inr n4);have Vq:=aj (off:=0) (u:=.int .i64 0) (b:=w.heap.size+1) (aj (off:=2) (u:=.int .i64 (P:Int)) (b:=w.heap.size) (aj (off:=1) (u:=.slice (some ⟨g,0,none⟩) bs.length bs.length) (b:=w.heap.size) (aj (off:=0) (u:=.slice a1 bs.length c1) (b:=w.heap.size) hB (Nat.le_refl _)) (Nat.le_refl _)) (Nat.le_refl _)) (by omega);have hKf:(((((Wd.setCell ⟨w.heap.size,0,none⟩ (.slice a1 bs.length c1)).setCell ⟨w.heap.size,1,none⟩ (.slice (some ⟨g,0,none⟩) bs.length bs.length)).setCell ⟨w.heap.size,2,none⟩ (.int .i64 (P:Int)))).setCell ⟨w.heap.size+1,0,none⟩ (.int .i64 0)).heap[D]? = some (.deferred (some [])):=by
    have:=EB.size;rw [Below.heap_setCell _ _ _ _ (by simp only;omega),Below.heap_setCell _ _ _ _ (by simp only;omega),Below.heap_setCell _ _ _ _ (by simp only;omega),Below.heap_setCell _ _ _ _ (by simp only;omega)];exact hK
   obtain ⟨Wf,hWf⟩:∃Wf,((((Wd.setCell ⟨w.heap.size,0,none⟩ (.slice a1 bs.length c1)).setCell ⟨w.heap.size,1,none⟩ (.slice (some ⟨g,0,none⟩) bs.length bs.length)).setCell ⟨w.heap.size,2,none⟩ (.int .i64 (P:Int)))).setCell ⟨w.heap.size+1,0,none⟩ (.int .i64 0)=Wf:=⟨_,rfl⟩;rw [hWf] at J2' J3' q3 q4 Vq hKf;have HWf:=aa hWf;have Ql:Wf.grownBy (Wf.putObj D (.deferred none)) (some D):=grownBy_putObj' Wf D (.deferred none);have hrr:∀r,some D=some r→∃o:Obj,Wf.heap[r]? = some o∧o.isCells=false:=fun r e=>by cases e;exact ⟨_,hKf,rfl⟩
   have M2:oo (Wf.putObj D (.deferred none)) w.heap.size (.slice a1 bs.length c1) (.slice (some ⟨g,0,none⟩) bs.length bs.length) (.int .i64 (P:Int)) cB:=⟨mU Ql hrr J2'.at_⟩;have M3:=(uI (mU Ql hrr J3')).1;obtain ⟨m0,m1,m2⟩:=M2.cell;have q5:=QL Ql hrr q3;have q6:=QL Ql hrr q4;have X9:=Vq.trans (belowK_b (w:=w) (Nat.le_refl _) Wf D _ (.deferred none) (by have:=EB.size;omega) hKf rfl rfl);clear g3 g4 J2 J3 q1 q2 q3 q4 G2 G3 hB Vq n1 n2 n3 n4 hWf J2' J3' JX M2 hK Ql hrr;go_wp2;rw [HWf.out];refine ⟨by simp,.inl ⟨_,_,rfl,run_takeDeferred hKf,?_⟩⟩
   exact ⟨.tuple #[.agg #[.slice a1 bs.length c1,.slice (some ⟨g,0,none⟩) bs.length bs.length,.int .i64 (P:Int)],.int .i64 0],by simp [results,Tryz.results107,go_sem,m0,m1,m2,M3],_,0,rfl,X9,
    .inl ⟨by rw [←HP.out];exact hs2,rfl,_,_,by rw [←HP.out],Sl.aW q5,Sl.aW q6⟩⟩
  case stop=>
   rintro D c pre Wd hD ⟨k,hk,rfl⟩ ⟨⟨rfl,⟨ini,last,e1,e2⟩,G2,G3⟩,hB⟩ hK;have hbb:=IE Ba.out Vo.out hk e1 e2;have hD1:W0.heap.size+1≤D:=by simpa using hD
   have Ql:Wd.grownBy (Wd.putObj D (.deferred none)) (some D):=grownBy_putObj' Wd D (.deferred none);have hrr:∀r,some D=some r→∃o:Obj,Wd.heap[r]? = some o∧o.isCells=false:=fun r e=>by cases e;exact ⟨_,hK,rfl⟩
   have M2:oo (Wd.putObj D (.deferred none)) w.heap.size (.slice none 0 0) (.slice none 0 0) (.int .i64 0) cB:=⟨mU Ql hrr G2.at_⟩;have M3:=(uI (mU Ql hrr G3)).1;obtain ⟨m0,m1,m2⟩:=M2.cell;have X9:=hB.trans (belowK_b (w:=w) (Nat.le_refl _) Wd D _ (.deferred none) (by have:=EB.size;omega) hK rfl rfl);have HBB:=aa hbb;clear hbb e1 e2 G2 G3 Ql hrr M2 hB
   gi_wp2
   refine ⟨by simp,.inl ⟨_,_,rfl,run_takeDeferred hK,?_⟩⟩;exact ⟨.tuple #[.agg #[.slice none 0 0,.slice none 0 0,.int .i64 0],.int .i64 4],by simp [results,Tryz.results107,go_sem,m0,m1,m2,M3],_,4,rfl,X9,.inr ⟨HBB.out,rfl,rfl⟩⟩
end
open Go.RowKit Go.Cd
def uJ:List Nat→List Int→Bool
 | [],[]=>true
 | b::bs,d::l=>decide (0≤d)&&decide (d<(b:Int))&&uJ bs l
 | _,_=>false
theorem nk:∀(bs:List Nat) (l:List Int),uJ bs l=true↔l.length=bs.length∧∀j (h1:j<l.length) (h2:j<bs.length),0≤l[j]∧l[j]<(bs[j]:Int)
 | [],[]=>by simp [uJ]
 | [],_::_=>by simp [uJ]
 | _::_,[]=>by simp [uJ]
 | b::bs,d::l=>by
   simp only [uJ,Bool.and_eq_true,decide_eq_true_eq,List.length_cons,Nat.add_right_cancel_iff];rw [nk bs l];constructor
   ·rintro ⟨⟨h1,h2⟩,h3,h4⟩;refine ⟨h3,fun j k1 k2=>?_⟩;cases j with
    | zero=>exact ⟨h1,h2⟩
    | succ j=>exact h4 j (by omega) (by omega)
   ·rintro ⟨h3,h4⟩;refine ⟨h4 0 (by omega) (by omega),h3,fun j k1 k2=>h4 (j+1) (by omega) (by omega)⟩
theorem KV {bs:List Nat} {l:List Int} {j:Nat} (h1:j<l.length) (h2:j<bs.length) (h:l[j]<0∨(bs[j]:Int)≤l[j]):uJ bs l=false:=by
 cases hv:uJ bs l
 ·rfl
 ·have:=((nk bs l).1 hv).2 j h1 h2;omega
def sI (bs:List Nat) (l:List Int):Nat→Nat
 | 0=>0
 | j+1=>sI bs l j*bs[j]?.getD 0+(l[j]?.getD 0).toNat
theorem xn:∀(bs:List Nat) (j:Nat) (h:j<(weights bs).length),(weights bs)[j]=aX (bs.drop (j+1))
 | _::bs,0,_=>by simp [weights]
 | _::bs,j+1,h=>by
   have:=xn bs j (by simpa [weights] using h);simpa [weights] using this
theorem nT {bs:List Nat} {j:Nat} (h:j<bs.length):aX (bs.drop j)=bs[j]*aX (bs.drop (j+1)):=by
 rw [List.drop_eq_getElem_cons h];rfl
theorem Eu {bs:List Nat} {l:List Int}:∀j,j≤bs.length→j≤l.length→(∀t (h1:t<l.length) (h2:t<bs.length),t<j→0≤l[t]∧l[t]<(bs[t]:Int))→(sI bs l j+1)*aX (bs.drop j)≤aX bs
 | 0,_,_,_=>by simp [sI]
 | j+1,hb,hl,h=>by
   have ih:=Eu j (by omega) (by omega) (fun t h1 h2 ht=>h t h1 h2 (by omega));have hj:=h j (by omega) (by omega) (by omega);rw [nT (by omega),←Nat.mul_assoc] at ih;simp only [sI,List.getElem?_eq_getElem (show j<bs.length by omega),List.getElem?_eq_getElem (show j<l.length by omega),Option.getD_some];refine Nat.le_trans (Nat.mul_le_mul_right _ ?_) ih;rw [Nat.add_mul,Nat.one_mul];omega
theorem wr1 {M:Nat} (h:M<1073741825):wrap64 (M:Int)=(M:Int):=by unfold wrap64;omega
theorem wr2 {O M:Nat} (h:O+M<1073741825):wrap64 ((O:Int)+(M:Int))=((O+M:Nat):Int):=by unfold wrap64;omega
theorem Vr {h b Q n:Nat}:h*(b*Q)+n*Q=(h*b+n)*Q:=by rw [Nat.add_mul,Nat.mul_assoc]
theorem OZ {h b Q n P:Nat} (h1:(h+1)*(b*Q)≤P) (hn:n<b) (hP:P≤1073741824):h*(b*Q)+n*Q<1073741825:=by
 have h2:n*Q≤b*Q:=Nat.mul_le_mul_right Q (by omega);rw [Nat.add_mul,Nat.one_mul] at h1;omega
theorem fO.out {w:World} {v:Value} {bs:List Nat} (h:fO w v bs):∃a1 c1 a2 c2,v=.agg #[.slice a1 bs.length c1,.slice a2 bs.length c2,.int .i64 (aX bs:Nat)]∧
 bB w (.slice a1 bs.length c1) (ds bs)∧bs.length≤c1∧bs.length≤c2∧(∀i (hi:i<bs.length),∃b off,a1=some ⟨b,off,none⟩∧b<w.heap.size∧w.cell? ⟨b,off+i,none⟩=some (.int .i64 (bs[i]:Nat)))∧
 (∀i (_:i<bs.length),∃b off,a2=some ⟨b,off,none⟩∧b<w.heap.size∧w.cell? ⟨b,off+i,none⟩=some (.int .i64 (aX (bs.drop (i+1)):Nat))):=by
 obtain ⟨s1,s2,rfl,h1,h2⟩:=h;have h1':=h1;obtain ⟨a1,c1,rfl,k1,hy1⟩:=bB.out h1;obtain ⟨a2,c2,rfl,k2,hy2⟩:=bB.out h2;have el1:(ds bs).length=bs.length:=mI _;have el2:(ds (weights bs)).length=bs.length:=by simp
 refine ⟨a1,c1,a2,c2,by rw [el1,el2],by rw [el1] at h1';exact h1',by omega,by omega,fun i hi=>?_,fun i hi=>?_⟩
 ·obtain ⟨b,off,g1,g2,g3⟩:=hy1 i (by omega);exact ⟨b,off,g1,g2,by rw [g3,nC _ _ hi]⟩
 ·obtain ⟨b,off,g1,g2,g3⟩:=hy2 i (by omega);exact ⟨b,off,g1,g2,by rw [g3,nC _ _ (by simpa using hi),xn]⟩
theorem Ev {w:World} {v:Value} {bs:List Nat} (h:fO w v bs) (hpos:∀b∈bs,1≤b) (hmax:aX bs≤1073741824) :
 Calls Tryz.prog 108 #[v] w fun e w'=>e=.returned (.int .i64 (aX bs:Nat))∧Below w.heap.size w w':=by
 obtain ⟨a1,c1,a2,c2,rfl,_⟩:=h.out;have hp:=j_ hpos;clear h;obtain ⟨P,hP⟩:=ae (aX bs);rw [←hP] at hp hmax ⊢;clear hP;have hm:max (P:Int) 1=(P:Int):=by omega
 have hlt:¬(P:Int)<1:=by omega
 have hb:=af (w:=w) (.cells #[.slice a1 bs.length c1,.slice a2 bs.length c2,.int .i64 (P:Int)] cB);go_enter Tryz.func108,Tryz.ntmps108;go_wp2;go_ret;exact ⟨rfl,hb⟩
theorem RS {w:World} {v u:Value} {bs:List Nat} {l:List Int} (h:fO w v bs) (g:bB w u (bJ l)) (hmax:aX bs≤1073741824) (hpos:∀b∈bs,1≤b) (hlen:l.length<1099511627776) (_:bs.length<1099511627776) :
 Calls Tryz.prog 174 #[v,u] w fun e w'=>e=.returned (.tuple #[.int .i64 (if uJ bs l then (sI bs l bs.length:Nat) else (0:Nat)),.bool (uJ bs l)])∧Below w.heap.size w w':=by
 obtain ⟨x1,xZ,rfl,_,hx1⟩:=bB.qL g;obtain ⟨a1,c1,a2,c2,rfl,_,hc1,hc2,hy1,hy2⟩:=h.out;have HX:=aa hx1;have U9:=aa hy1;have HY2:=aa hy2;have Ba:=aa hpos;clear h hx1 hy1 hy2 g hpos;have hb:=af (w:=w) (.cells #[.slice a1 bs.length c1,.slice a2 bs.length c2,.int .i64 (aX bs:Nat)] cB);have IX:oo (w.alloc (.cells #[.slice a1 bs.length c1,.slice a2 bs.length c2,.int .i64 (aX bs:Nat)] cB)) w.heap.size (.slice a1 bs.length c1) (.slice a2 bs.length c2) (.int .i64 (aX bs:Nat)) cB:=⟨heap_alloc_new' _ _ _ rfl⟩;obtain ⟨P,hP⟩:=ae (aX bs);rw [←hP] at hmax hb IX ⊢;have HP:=aa hP;clear hP;obtain ⟨e0,e1,e2⟩:=IX.cell;by_cases hll:l.length=bs.length
 ·have hlt:=Eu (bs:=bs) (l:=l);rw [←HP.out] at hlt;have MH:=aa hlt;have HLL:=aa hll;rw [hll] at hlen ⊢;have VI:=aa (nk bs l);have VF:=aa (fun (j:Nat) (h1:j<l.length) (h2:j<bs.length)=>KV (bs:=bs) (l:=l) h1 h2);clear hll hlt;go_enter Tryz.func174,Tryz.ntmps174;go_wp2_with fail
  go_loopw [6,17] (fun o i wr=>∃j:Nat,j≤bs.length∧i=.int .i64 j∧o=.int .i64 (sI bs l j*aX (bs.drop j):Nat)∧(∀t (h1:t<l.length) (h2:t<bs.length),t<j→0≤l[t]∧l[t]<(bs[t]:Int))∧Below w.heap.size w wr∧
   oo wr w.heap.size (.slice a1 bs.length c1) (.slice a2 bs.length c2) (.int .i64 (P:Int)) cB)
   (fun _ i _=>bs.length-(intOf i).toNat)
  case atStart=>exact ⟨0,Nat.zero_le _,rfl,by simp [sI],fun _ _ _ h=>by omega,hb,IX⟩
  case round=>
   clear e0 e1 e2 hb IX;obtain ⟨j,hj,rfl,rfl,hok,hE,JX⟩:=hrel;have Uc:=aa hok;have hll:=HLL.out;obtain ⟨e0,e1,e2⟩:=JX.cell;by_cases hjb:j<bs.length
   ·have hjl:j<l.length:=by omega
    obtain ⟨b1,o1,rfl,hb1,k1⟩:=HX.out j hjl;obtain ⟨b2,o2,rfl,hb2,k2⟩:=U9.out j hjb;obtain ⟨b3,o3,rfl,hb3,k3⟩:=HY2.out j hjb;have k1:=(hE.cell (p:=⟨b1,o1+j,none⟩) hb1).trans k1;have k2:=(hE.cell (p:=⟨b2,o2+j,none⟩) hb2).trans k2;have k3:=(hE.cell (p:=⟨b3,o3+j,none⟩) hb3).trans k3;have hlt2:=MH.out j (by omega) (by omega) hok;rw [nT hjb] at hlt2;have hstep:=nT hjb;have hsn:sI bs l (j+1)=sI bs l j*bs[j]+l[j].toNat:=by
     simp only [sI,List.getElem?_eq_getElem hjb,List.getElem?_eq_getElem hjl,Option.getD_some]
    rw [hstep];have YB:=aa hsn;have VFJ:=aa (VF.out j hjl hjb);have HD:=aa (show ∀t (h1:t<l.length) (h2:t<bs.length),t=j→l[t]=l[j]'hjl∧bs[t]=bs[j] from fun t h1 h2 e=>by subst e;exact ⟨rfl,rfl⟩);generalize l[j]=d at *;generalize bs[j]=b at *;clear hstep hsn hok;obtain ⟨Q,hQ⟩:=ae (aX (bs.drop (j+1)));obtain ⟨Hj,hHj⟩:=ae (sI bs l j);rw [←hQ] at k3 hlt2 ⊢;rw [←hHj] at hlt2 YB ⊢;have HQ:=aa hQ;have HH:=aa hHj;clear hQ hHj;by_cases hbad:d<0∨(b:Int)≤d
    ·have hv:=VFJ.out hbad;by_cases hd0:d<0
     ·have hdd:decide (d<0)=true:=decide_eq_true hd0;clear hbad hlt2 Uc;go_wp2 <;> (go_ret2;exact ⟨rfl,hE⟩)
     ·have hdd:decide (d<0)=false:=decide_eq_false hd0;have hd2:(b:Int)≤d:=by omega
      have afx:decide ((b:Int)≤d)=true:=decide_eq_true hd2;clear hbad hlt2 Uc;go_wp2 <;> (go_ret2;exact ⟨rfl,hE⟩)
    ·have hd0:0≤d:=by omega
     obtain ⟨n,rfl⟩:∃n:Nat,d=n:=⟨d.toNat,by omega⟩;have hnb:n<b:=by omega
     have hdd:decide ((n:Int)<0)=false:=decide_eq_false (by omega);have afx:decide ((b:Int)≤(n:Int))=false:=decide_eq_false (by omega);have hbound:=OZ hlt2 hnb hmax;have YC:=Vr (h:=Hj) (b:=b) (Q:=Q) (n:=n);obtain ⟨M,hM⟩:=ae (n*Q);obtain ⟨O,hO⟩:=ae (Hj*(b*Q));rw [←hM,←hO] at hbound YC;have hw1:wrap64 ((n:Int)*(Q:Int))=(M:Int):=by rw [←Int.natCast_mul,←hM];exact wr1 (Nat.lt_of_le_of_lt (Nat.le_add_left _ _) hbound)
     have hw2:=wr2 hbound;rw [←hO];have afy:=aa YC;have UW:=aa hnb;clear hM hO hbad hlt2 hd0 hbound YC;go_wp2;go_roundw
     case rel=>
      rw [hw2,afy.out,HQ.out];have hsn:=YB.out;rw [Int.toNat_natCast] at hsn;refine ⟨j+1,by omega,rfl,by rw [hsn],fun t h1 h2 ht=>?_,hE,JX⟩;by_cases e:t=j
      ·obtain ⟨g1,g2⟩:=HD.out t h1 h2 e;rw [g1,g2];have:=UW.out;exact ⟨by omega,by omega⟩
      ·exact Uc.out t h1 h2 (by omega)
     case measure=>simp [intOf];omega
   ·obtain rfl:j=bs.length:=by omega
    have hv:uJ bs l=true:=VI.out.2 ⟨hll,fun t h1 h2=>Uc.out t h1 h2 h2⟩;have hd:aX (bs.drop bs.length)=1:=by rw [List.drop_length];rfl
    rw [hd,Nat.mul_one];clear hok;go_wp2;go_ret2;exact ⟨rfl,hE⟩
 ·have hln:((l.length:Int)==(bs.length:Int))=false:=beq_eq_false_iff_ne.2 (by omega);have hv:uJ bs l=false:=by
   cases hv:uJ bs l
   ·rfl
   ·exact absurd ((nk bs l).1 hv).1 hll
  rw [hv];go_enter Tryz.func174,Tryz.ntmps174;go_wp2;go_ret2;exact ⟨rfl,hb⟩
def Bc (l:List Int):List Nat:=l.map Int.toNat
@[simp] theorem Xr (l:List Int):(Bc l).length=l.length:=by simp [Bc]
theorem Vs (b off len cap:Nat) (i:Nat) (z:Int) (w:World) (hi:i<len)
 (hb:b<w.heap.size) (hc:w.cell? ⟨b,off+i,none⟩=some (.int .u32 z)) (hz:0≤z) (hz2:z<4294967296) :
 Calls Tryz.prog 28 #[.agg #[.slice (some ⟨b,off,none⟩) len cap],.int .i64 i] w fun e w'=>e=.returned (.int .u64 z)∧Below w.heap.size w w':=by
 go_enter Tryz.func28,Tryz.ntmps28;go_wp2;go_ret;exact ⟨rfl,(Below.refl _ _).alloc (Nat.le_refl _) _⟩
theorem RV (a:Option Addr) (len cap:Nat) (i:Nat) (w:World) (hi:¬i<len) :
 Calls Tryz.prog 28 #[.agg #[.slice a len cap],.int .i64 i] w fun e w'=>e=.returned (.int .u64 0)∧Below w.heap.size w w':=by
 go_enter Tryz.func28,Tryz.ntmps28;go_wp2;go_ret;exact ⟨rfl,(Below.refl _ _).alloc (Nat.le_refl _) _⟩
theorem qF {w:World} {v:Value} {x:Nat} (h:bO w v x) (i:Nat) :
 Calls Tryz.prog 28 #[v,.int .i64 i] w fun e w'=>e=.returned (.int .u64 (oq B x i:Nat))∧Below w.heap.size w w':=by
 obtain ⟨s,rfl,hs⟩:=h;obtain ⟨a,cap,rfl,hc,hx⟩:=hs.out;rw [dD] at *;by_cases hi:i<(bR B x).length
 ·obtain ⟨b,off,rfl,hb,hcell⟩:=hx i (by simpa using hi);have e:(gD (bR B x))[i]'(by simpa using hi)=.int .u32 (oq B x i:Nat):=by
   have:=Qr bF x i;rw [List.getElem?_eq_getElem hi] at this;simp only [Option.getD_some] at this;simp [gD,this]
  rw [e] at hcell;exact Vs b off _ cap i _ w hi hb hcell (by omega) (by have:=uZ bF x i;unfold B at this ⊢;omega)
 ·have e:oq B x i=0:=by
   have:=Qr bF x i;rw [List.getElem?_eq_none (by omega)] at this;simpa using this.symm
  rw [e];exact RV a _ cap i w hi
theorem KW (b off len cap:Nat) (l:List Nat) (w:World) (hlen:l.length=len) (hmax:len<1099511627776) (hb:b<w.heap.size) (hcap:len≤cap)
 (hc:∀i (hi:i<l.length),w.cell? ⟨b,off+i,none⟩=some (.int .u32 (l[i]:Nat))) :
 Calls Tryz.prog 29 #[.slice (some ⟨b,off,none⟩) len cap] w fun e w'=>∃n:Nat,n≤len∧(∀j (_:n≤j) (hj:j<l.length),l[j]=0)∧(n=0∨l[n-1]?≠some 0)∧
  e=.returned (.agg #[.slice (some ⟨b,off,none⟩) n n])∧Below w.heap.size w w':=by
 have HL:=aa hlen;clear hlen;go_enter Tryz.func29,Tryz.ntmps29;go_wp2;go_loop [3] (fun n=>∃k:Nat,k≤len∧n=.int .i64 k∧(∀j (_:k≤j) (hj:j<l.length),l[j]=0)) (fun n=>(intOf n).toNat)
 case atStart=>exact ⟨len,Nat.le_refl _,rfl,fun j h1 h2=>by have:=HL.out;omega⟩
 case round=>
  obtain ⟨k,hk,rfl,hz⟩:=hrel;have HZ:=aa hz;clear hz;by_cases hk0:0<k
  ·obtain ⟨z,hzv⟩:∃z,l[k-1]? = some z:=⟨_,List.getElem?_eq_getElem (by have:=HL.out;omega)⟩;have hcell:w.cell? ⟨b,off+(k-1),none⟩=some (.int .u32 (z:Nat)):=by
    obtain ⟨h1,h2⟩:=List.getElem?_eq_some_iff.1 hzv;rw [hc _ h1,h2]
   have HV:=aa hzv;clear hzv hc;by_cases h0:z=0
   ·subst h0;go_wp2;go_round
    case rel=>exact ⟨k-1,by omega,by go_num,fun j h1 h2=>by
     by_cases hj:j=k-1
     ·subst hj;have:=HV.out;rw [List.getElem?_eq_getElem h2] at this;simpa using this
     ·exact HZ.out j (by omega) h2⟩
    case measure=>simp [intOf];omega
   ·have hz1:((z:Int)==0)=false:=by simpa using h0
    go_wp2;exact bodyPost_ret (v:=.agg #[.slice (some ⟨b,off,none⟩) k k]) (by simp [results,Tryz.results29,go_sem]) rfl ⟨k,hk,HZ.out,.inr (by rw [HV.out];simpa using h0),rfl,af _⟩
  ·go_wp2;exact bodyPost_ret (v:=.agg #[.slice (some ⟨b,off,none⟩) k k]) (by simp [results,Tryz.results29,go_sem]) rfl ⟨k,hk,HZ.out,.inl (by omega),rfl,af _⟩
theorem O4 (a:Option Addr) (cap:Nat) (w:World) :
 Calls Tryz.prog 29 #[.slice a 0 cap] w fun e w'=>e=.returned (.agg #[.slice a 0 0])∧Below w.heap.size w w':=by
 go_enter Tryz.func29,Tryz.ntmps29;go_wp2;refine wp_loop_rounds 1 ?_;rw [rounds_succ];go_wp2;exact bodyPost_ret (v:=.agg #[.slice a 0 0]) (by simp [results,Tryz.results29,go_sem]) rfl ⟨rfl,af _⟩
theorem gm (l:List Nat) (i:Nat) (h:i<l.length):(gD l)[i]'(by simpa using h)=.int .u32 (l[i]:Nat):=by simp [gD]
theorem Ew {w:World} {v:Value} {l:List Nat} (h:Sl l5 w v (gD l)) (hl:∀d∈l,d<B) (hmax:l.length<1099511627776) :
 Calls Tryz.prog 29 #[v] w fun e w'=>∃r,e=.returned r∧bO w' r (val B l)∧Below w.heap.size w w':=by
 obtain ⟨a,cap,rfl,hc,hr⟩:=h;rw [dD] at *;rcases hr with ⟨hr,ha⟩|⟨b,off,cs,fr,rfl,hh,hx⟩
 ·obtain rfl:l=[]:=by simpa [gD] using hr
  refine (O4 a cap w).mono ?_;rintro e w' ⟨rfl,hb⟩;exact ⟨_,rfl,⟨_,rfl,by rw [show val B []=0 from rfl,dz];exact .nil _ _ _ _ (fun _=>rfl)⟩,hb⟩
 ·refine (KW b off l.length cap l w rfl hmax (block_lt hh) hc fun i hi=>?_).mono ?_
  ·unfold World.cell?;rw [hh];have:=hx i (by simpa using hi);rw [gm _ _ hi] at this;simpa using this
  ·rintro e w' ⟨n,hn,hz,h0,rfl,hb⟩
   have e1:bR B (val B l)=l.take n:=Av bF l n hl (fun d hd=>by
    obtain ⟨j,hj,rfl⟩:=List.mem_iff_getElem.1 hd;rw [List.getElem_drop]
    exact hz _ (by omega) _) hn h0
   refine ⟨_,rfl,⟨_,rfl,?_⟩,hb⟩;rw [e1];have hlen:(gD (l.take n)).length=n:=by simp;omega
   refine ⟨_,n,by rw [hlen],by rw [hlen];exact Nat.le_refl _,.inr ⟨b,off,cs,fr,rfl,by rw [hb.block b (block_lt hh)];exact hh,fun i hi=>?_⟩⟩;rw [hlen] at hi;rw [hx i (by simp;omega)];simp [gD]
theorem RX (w:World) (a:Option Addr) (n c:Nat):(Go.binOp .eql 34 (.slice a n c) (.slice none 0 0)).run Tryz.prog w=.ok (.bool a.isNone) w:=
 Lib.run_eql_slice_nil w 34 68 a n c 0 0 Tryz.underlying34
theorem IG {w:World} {v:Value} {l:List Nat} (h:bB w v (gD l)) (hmax:l.length<1099511627776) :
 Calls Tryz.prog 52 #[v] w fun e w'=>∃r,e=.returned r∧w'.ownsRow w.heap.size l5 1 r l.length (gD l)∧Below w.heap.size w w':=by
 obtain ⟨a,cap,rfl,hc,hr⟩:=id h;have hl:=dD l;rw [hl] at h hc;rw [hl];have hnil:=RX;cases a with
 | none=>
   have h0:l=[]∧cap=0:=by
    rcases hr with hr|⟨b,off,cs,_,fr,ha,_⟩
    ·exact ⟨by simpa [gD] using hr.1,hr.2 rfl⟩
    ·cases ha
   obtain ⟨rfl,rfl⟩:=h0;clear hr h hl;go_enter Tryz.func52,Tryz.ntmps52;go_wp2;go_ret;exact ⟨_,rfl,World.ownsRow_nil _ _ _ _,Below.refl _ _⟩
 | some ad=>
   have H:=aa h;clear hr h hl;go_enter Tryz.func52,Tryz.ntmps52;go_wp2_with (at_builtin;refine bN rfl _ _ 34 rfl w.heap.size l5 _ 4 Dr (.slice (some ⟨w.heap.size,0,none⟩) 0 0) 0 [] rfl (qi _ _) _ (gD l) rfl (H.out.mono (af _)) (Dq l) (by rw [dD];unfold maxLen;omega) (by rw [dD];omega) (by simp) ?_;intro v' w' hown' hgrow);rw [dD,Nat.zero_add,List.nil_append] at hown';go_wp2;go_ret;exact ⟨_,rfl,hown',(af _).grown hgrow (by simp) (fun k hk=>Nat.le_of_eq (Option.some.inj hk))⟩
theorem RY {w:World} {v:Value} {l:List Nat} (h:Sl l5 w v (gD l)) (hl:∀d∈l,d<B) (hmax:l.length<1099511627776) :
 Calls Tryz.prog 31 #[v] w fun e w'=>∃r,e=.returned r∧bO w' r (val B l)∧Below w.heap.size w w':=by
 go_enter Tryz.func31,Tryz.ntmps31;go_wp2_with fail;refine (IG (h.any.mono (af _)) hmax).mono ?_;rintro e w1 ⟨r,rfl,hown,hb1⟩;go_wp2_with fail;refine (Ew (Sl.aW hown) hl hmax).mono ?_;rintro e w2 ⟨r2,rfl,hr2,hb2⟩;obtain ⟨a,n,cap,rfl,hN⟩:=hr2.out;have iB:=ah hb1 hb2;have hk:w2.heap[w.heap.size]? = some (.cells #[.slice none 0 0] 36):=(iB.block _ (by simp)).trans (Mj _ _);have hR:=hN.put (o:=0) (u:=.slice a n cap) hk (by decide);have hB:=aj (off:=0) (u:=.slice a n cap) ((af _).trans (iB.mono (by simp))) (Nat.le_refl _);have hcs:=FB (o:=0) (u:=.slice a n cap) hk (by decide);obtain ⟨hc,hf⟩:=WW iB;clear hk hown hb1 hb2 iB hN hr2 h;go_wp2;exact bodyPost_ret (v:=.agg #[.slice a n cap]) (by simp [results,Tryz.results31,go_sem,hcs]) rfl ⟨_,rfl,hR,hB⟩
theorem CR (x:Nat) (hx:x<18446744073709551616) (w:World) :
 Calls Tryz.prog 45 #[.int .u64 x] w fun e w'=>∃r,e=.returned r∧bO w' r x∧Below w.heap.size w w':=by
 have hdl:∀d∈[x % B,x / B % B],d<B:=by
  intro d hd;simp only [List.mem_cons,List.not_mem_nil,or_false] at hd;rcases hd with rfl|rfl <;> exact Nat.mod_lt _ (by decide)
 have hv:val B [x % B,x / B % B]=x:=by
  simp only [val,B];omega
 have HV:=aa hv;have HD:=aa hdl;clear hv hdl;go_enter Tryz.func45,Tryz.ntmps45;go_wp2_with fail;refine (Ew (l:=[x % B,x / B % B]) ⟨_,2,rfl,Nat.le_refl _,.inr ⟨_,0,_,_,rfl,heap_alloc_new' _ _ _ (by simp),?_⟩⟩ HD.out (by simp)).mono ?_
 ·intro i hi
  match i,hi with
  | 0,_=>simp [gD,B]
  | 1,_=>simp [gD,B];omega
 rintro e w2 ⟨r2,rfl,hr2,hb⟩;rw [HV.out] at hr2;obtain ⟨a,n,cap,rfl,hN⟩:=hr2.out;have hk:w2.heap[w.heap.size]? = some (.cells #[.slice none 0 0] 36):=(hb.block _ (by simp;omega)).trans ((heap_alloc_old _ _ (by simp)).trans (Mj _ _));obtain ⟨hcs,hR⟩:=nD hk (by decide) hN;have hB:=aj (off:=0) (u:=.slice a n cap) ((ed _ _).trans (hb.mono (by simp;omega))) (Nat.le_refl _);obtain ⟨hc,hf⟩:=WW hb;clear hk hb hN hr2 HV HD;go_wp2;exact bodyPost_ret (v:=.agg #[.slice a n cap]) (by simp [results,Tryz.results45,go_sem,hcs]) rfl ⟨_,rfl,hR,hB⟩
theorem xq {w:World} {v:Value} {x:Nat} (h:bO w v x) (hmax:(bR B x).length<1099511627776) :
 Calls Tryz.prog 30 #[v] w fun e w'=>∃r,e=.returned r∧w'.ownsRow (w.heap.size+1) l5 1 r (bR B x).length (gD (bR B x))∧Below w.heap.size w w':=by
 obtain ⟨s,rfl,hs⟩:=h;obtain ⟨a,cap,rfl,_⟩:=id hs;rw [dD] at *;have H:=aa hs;clear hs;go_enter Tryz.func30,Tryz.ntmps30;go_wp2_with fail;refine (IG (H.out.any.mono (af _)) hmax).mono ?_;rintro e w1 ⟨r,rfl,hown,hb1⟩;go_wp2;go_ret;exact ⟨_,rfl,by simpa using hown,(af _).trans (hb1.mono (by simp))⟩
theorem zJ {w:World} {v u:Value} {x y:Nat} (h:bO w v x) (k:bO w u y) (hx:(bR B x).length<1099511627776) (hy:(bR B y).length<1099511627776) :
 Calls Tryz.prog 44 #[v,u] w fun e w'=>e=.returned (.int .i64 (u_ x y))∧Below w.heap.size w w':=by
 obtain ⟨a,n,cap,rfl,h⟩:=h.out;obtain ⟨a2,n2,cap2,rfl,k⟩:=k.out;have hn:=h.len;have hn2:=k.len;rw [←hn] at hx;rw [←hn2] at hy;have HN:=aa hn;have HN2:=aa hn2;have HX:=aa h;have HY:=aa k;have hstart:∀m,n≤m→n2≤m→x / B ^ m=y / B ^ m:=fun m h1 h2=>by
  rw [Nat.div_eq_of_lt ((cZ bF).1 (by omega)),Nat.div_eq_of_lt ((cZ bF).1 (by omega))]
 have HS:=aa hstart;clear hn hn2 h k hstart;go_enter Tryz.func44,Tryz.ntmps44;go_wp2_with fail
 all_goals
  go_loopw [5] (fun i wr=>∃k:Nat,(k≤n∨k≤n2)∧i=.int .i64 ((k:Int)-1)∧x / B ^ k=y / B ^ k∧Below w.heap.size w wr∧wr.cell? ⟨w.heap.size,0,none⟩=some (.slice a n cap)∧wr.cell? ⟨w.heap.size+1,0,none⟩=some (.slice a2 n2 cap2)∧w.heap.size+1<wr.heap.size)
   (fun i _=>((intOf i)+1).toNat)
  case atStart=>
   first
    | exact ⟨n2,.inr (Nat.le_refl _),rfl,HS.out _ (by omega) (by omega),ed _ _,by go_simp,by go_simp,by simp⟩
    | exact ⟨n,.inl (Nat.le_refl _),rfl,HS.out _ (by omega) (by omega),ed _ _,by go_simp,by go_simp,by simp⟩
    | exact (Nat.le_total n n2).elim (fun hh=>⟨n2,.inr (Nat.le_refl _),by rw [show max (n:Int) (n2:Int)=n2 by omega],HS.out _ (by omega) (by omega),ed _ _,by go_simp,by go_simp,by simp⟩) (fun hh=>⟨n,.inl (Nat.le_refl _),by rw [show max (n:Int) (n2:Int)=n by omega],HS.out _ (by omega) (by omega),ed _ _,by go_simp,by go_simp,by simp⟩)
  case round=>
   obtain ⟨k,hk,rfl,hq,hb,hc1,hc2,hsz⟩:=hrel;have HQ:=aa hq;clear hq;by_cases hk0:0<k
   ·obtain ⟨j,rfl⟩:∃j,k=j+1:=⟨k-1,by omega⟩;have e1:((j+1:Nat):Int)-1=j:=by omega
    rw [e1];clear e1;go_wp2_with fail;have hg1:∀g:Gr wr.drew,g.tw.cell? ⟨w.heap.size,0,none⟩=some (.slice a n cap):=fun g=>(g.ext.cell (p:=⟨w.heap.size,0,none⟩) (by simp;omega)).trans hc1;have hg2:∀g:Gr wr.drew,g.tw.cell? ⟨w.heap.size+1,0,none⟩=some (.slice a2 n2 cap2):=fun g=>(g.ext.cell (p:=⟨w.heap.size+1,0,none⟩) (by simp;omega)).trans hc2;refine aF (Array.replicate 8 true) 8 0 mixed (by rfl) ?_;refine ay [0,1,3,4] 4 rfl (by kernel_rfl) ?_
    repeat (refine aB rfl ?_;go_big_quiet_step (rfl))
    refine az ?_;refine aI 2 (by kernel_rfl) rfl ?_;go_wp2_with fail;refine (qF (x:=x) (HX.out.mono (ah hb (ag _))) j).mono ?_;rintro e w1 ⟨rfl,hb1⟩;go_wp2_with fail;refine aD hb1 ?_;refine aI 5 (by kernel_rfl) rfl ?_;go_wp2_with fail;refine (qF (x:=y) (HY.out.mono (ah hb (ah (ag _) hb1))) j).mono ?_;rintro e w2 ⟨rfl,hb2⟩;go_wp2_with fail;refine aD hb2 ?_;refine ay [6,7] 0 rfl (by kernel_rfl) ?_
    repeat (refine aB rfl ?_;go_big_quiet_step (rfl))
    refine az ?_;refine aJ [] (by kernel_rfl) ?_;refine tail_nil ?_;have hE:=ah (ag _) (ah hb1 hb2);have hB:=ah hb hE;have hd1:=(hE.cell (p:=⟨w.heap.size,0,none⟩) (by show w.heap.size<wr.heap.size;omega)).trans hc1;have hd2:=(hE.cell (p:=⟨w.heap.size+1,0,none⟩) hsz).trans hc2;have hsz2:=Nat.lt_of_lt_of_le hsz hE.size;clear hg1 hg2 hb1 hb2 hc1 hc2 hb hsz hE;go_wp2
    ·have hl:oq B x j<oq B y j:=by assumption
     go_ret;exact ⟨Dp (Nl (Bz HQ.out hl)).symm,hB⟩
    ·have hl:oq B y j<oq B x j:=by assumption
     go_ret;exact ⟨Dp (BA (Bz HQ.out.symm hl)).symm,hB⟩
    ·have hl:oq B x j=oq B y j:=by omega
     have hq:x / B ^ j=y / B ^ j:=by rw [tH x j,tH y j,HQ.out,hl]
     go_roundw
     case rel=>exact ⟨j,by omega,rfl,hq,hB,hd1,hd2,hsz2⟩
     case measure=>simp [intOf]
   ·obtain rfl:k=0:=by omega
    have hxy:x=y:=by have:=HQ.out;simpa using this
    subst hxy;go_wp2;go_ret;exact ⟨Dp (Qt _).symm,hb⟩
theorem zK (l:List Nat) (i d:Nat):(gD l).set i (.int .u32 d)=gD (l.set i d):=by simp [gD,List.map_set]
theorem RZ (f:Nat→Nat) (i k:Nat):((List.range i).map f++List.replicate (k+1) 0).set i (f i)=(List.range (i+1)).map f++List.replicate k 0:=by
 rw [List.range_succ,List.map_append,List.set_append_right _ _ (by simp)];simp [List.replicate_succ]
theorem Ex {w:World} {v u:Value} {x y:Nat} (h:bO w v x) (k:bO w u y) (hx:(bR B x).length<549755813888) (hy:(bR B y).length<549755813888) :
 Calls Tryz.prog 11 #[v,u] w fun e w'=>∃r,e=.returned r∧bO w' r (x+y)∧Below w.heap.size w w':=by
 obtain ⟨a,n,cap,rfl,h⟩:=h.out;obtain ⟨a2,n2,cap2,rfl,k⟩:=k.out;have hn:=h.len;have hn2:=k.len;rw [←hn] at hx;rw [←hn2] at hy;have HX:=aa h;have HY:=aa k;obtain ⟨M,hM,hM1,hM2,hM3⟩:∃M:Nat,(if n<n2 then (n2:Int) else (n:Int))=(M:Int)∧n≤M∧n2≤M∧M≤n+n2:=by
  by_cases hlt:n<n2
  ·exact ⟨n2,by rw [if_pos hlt],by omega,by omega,by omega⟩
  ·exact ⟨n,by rw [if_neg hlt],by omega,by omega,by omega⟩
 have hsum:x+y<B ^ (M+1):=JN bF ((cZ bF).1 (by omega)) ((cZ bF).1 (by omega));have HS:=aa hsum;clear hn hn2 h k hsum;go_enter Tryz.func11,Tryz.ntmps11;go_wp2_with (at_make;refine fG _ rfl _ _ 34 rfl (w.heap.size+3) l5 _ 4 Dr rfl .i64 .i64 _ _ (M+1) rfl rfl (by omega) (by omega) (by omega) (by unfold maxLen;omega) (by simp) ?_;intro w1 hown hgrow);have hB1:=fA hgrow;have hc1:w1.cell? ⟨w.heap.size,0,none⟩=some (.slice a n cap):=aA hB1 (by go_simp);have hc2:w1.cell? ⟨w.heap.size+1,0,none⟩=some (.slice a2 n2 cap2):=aA hB1 (by go_simp);have hk3:w1.heap[w.heap.size+1+1]? = some (.cells #[.slice none 0 0] 36):=(hB1.block _ (by simp)).trans (heap_alloc_new' _ _ _ (by simp));have hBw:Below w.heap.size w w1:=(((af _).alloc (by simp) _).alloc (by simp;omega) _).trans (hB1.mono (by simp;omega));have hs1:w.heap.size+3≤w1.heap.size:=by have:=hB1.size;simpa using this
 have HK:=aa hk3;clear hgrow hB1 hk3;go_loopw [7,22] (fun c i wr=>∃k:Nat,k≤M+1∧i=.int .i64 k∧c=.int .u64 (carry B x y k:Nat)∧wr.ownsRow (w.heap.size+3) l5 1 (.slice (some ⟨w.heap.size+1+1+1,0,none⟩) (M+1) (M+1)) (M+1) (gD (xB B (x+y) k++List.replicate (M+1-k) 0))∧Below (w.heap.size+3) w1 wr)
  (fun _ i _=>M+1-(intOf i).toNat)
 case atStart=>exact ⟨0,by omega,rfl,by rw [carry_zero];rfl,by simpa [gD,xB] using hown,Below.refl _ _⟩
 case round=>
  obtain ⟨k,hk,rfl,rfl,hown,hb⟩:=hrel;have hBr:Below w.heap.size w wr:=hBw.trans (hb.mono (by omega));by_cases hlt:k<M+1
  ·have l1:=fun (W:World) (E:Below w.heap.size w W)=>qF (HX.out.mono E) k;have l2:=fun (W:World) (E:Below w.heap.size w W)=>qF (HY.out.mono E) k;have hcs:=carry_succ bF x y k;have hda:=Uo bF x y k;have hc0:=Qs bF x y k;have hd1:=uZ bF x k;have hd2:=uZ bF y k;generalize oq B x k=dx at l1 l2 hcs hda hd1;generalize oq B y k=dy at l1 l2 hcs hda hd2;generalize carry B x y k=c at hcs hda hc0 ⊢;have L1:=aa l1;have L2:=aa l2;have ZT:=aa hcs;have HDA:=aa hda;unfold B at hd1 hd2;clear l1 l2 hcs hda;have hd:=aa hown;clear hown;go_wp2_with fail;refine aF (Array.replicate 10 true) 10 0 mixed (by rfl) ?_;have hg1:=Gr.cell (ag wr) ((hb.cell (p:=⟨w.heap.size,0,none⟩) (by simp)).trans hc1);have hg2:=Gr.cell (ag wr) ((hb.cell (p:=⟨w.heap.size+1,0,none⟩) (by simp)).trans hc2);refine ay [0,1,3,4,7] 5 rfl (by kernel_rfl) ?_
   repeat (refine aB rfl ?_;go_big_quiet_step (rfl))
   refine az ?_;clear hg1 hg2;refine aI 2 (by kernel_rfl) rfl ?_;go_wp2_with fail;refine (L1.out _ (ah hBr (ag _))).mono ?_;rintro e w2 ⟨rfl,hb2⟩;go_wp2_with fail;refine aD hb2 ?_;refine aI 5 (by kernel_rfl) rfl ?_;go_wp2_with fail;refine (L2.out _ (ah hBr (ah (ag _) hb2))).mono ?_;rintro e w3 ⟨rfl,hb3⟩;go_wp2_with fail;refine aD hb3 ?_;refine ay [6,8,9] 0 rfl (by kernel_rfl) ?_
   repeat (refine aB rfl ?_;go_big_quiet_step (rfl))
   refine az ?_;refine aJ [] (by kernel_rfl) ?_;refine tail_nil ?_;have hE:=ah (ag wr) (ah hb2 hb3);have hown3:=aG hd.out hE;obtain ⟨hcell,hfr⟩:=jJ hown3 (j:=k) (by simp;omega);have hst:=(hown3.stored k (.int .u32 (oq B (x+y) k:Nat))).1;have hB3:Below (w.heap.size+3) w1 (w3.setCell ⟨w.heap.size+1+1+1,k,none⟩ (.int .u32 (oq B (x+y) k:Nat))):=aj (hb.trans (hE.mono (by have:=hb.size;omega))) (by omega);have HST:=aa hst;clear hb2 hb3 hE hown3 hst;go_wp2;go_roundw
   case rel=>
    have e1:((dx:Int)+dy+c) / 4294967296=(carry B x y (k+1):Nat):=by have:=ZT.out;unfold B at this ⊢;omega
    have e2:((dx:Int)+dy+c) % 4294967296=(oq B (x+y) k:Nat):=by have:=HDA.out;unfold B at this ⊢;omega
    rw [e1,e2];refine ⟨k+1,by omega,rfl,rfl,?_,hB3⟩;have h1:=HST.out;rw [zK,show M+1-k=(M+1-(k+1))+1 from by omega] at h1;unfold xB at h1 ⊢;rw [RZ] at h1;exact h1
   case measure=>simp [intOf];omega
  ·go_wp2_with fail;obtain rfl:k=M+1:=by omega
   have hl:∀d∈xB B (x+y) (M+1),d<B:=Un bF _ _;rw [Nat.sub_self,List.replicate_zero,List.append_nil] at hown;refine (Ew (Sl.aW hown) hl (by simp;omega)).mono ?_;rintro e w2 ⟨r2,rfl,hr2,hb2⟩;rw [Fz,Nat.mod_eq_of_lt HS.out] at hr2;obtain ⟨a3,n3,pO,rfl,hN⟩:=hr2.out;have hk:w2.heap[w.heap.size+1+1]? = some (.cells #[.slice none 0 0] 36):=(hb2.block (w.heap.size+1+1) (by have:=hb.size;omega)).trans ((hb.block (w.heap.size+1+1) (by omega)).trans HK.out);obtain ⟨hcs,hR⟩:=nD hk (by decide) hN;have hB:=aj (off:=0) (u:=.slice a3 n3 pO) (ah hBr hb2) (b:=w.heap.size+1+1) (by omega);have hcell:w2.cell? ⟨w.heap.size+1+1,0,none⟩=some (.slice none 0 0):=by unfold World.cell?;rw [hk];rfl
   have hfr:w2.frozen? ⟨w.heap.size+1+1,0,none⟩=false:=by unfold World.frozen?;rw [hk];rfl
   clear hk hb2 hr2 hN hown hb hBr hBw;go_wp2;exact bodyPost_ret (v:=.agg #[.slice a3 n3 pO]) (by simp [results,Tryz.results11,go_sem,hcs]) rfl ⟨_,rfl,hR,hB⟩
end Go.Proofs.YtmpkfkoficehpaaGreatDoor
