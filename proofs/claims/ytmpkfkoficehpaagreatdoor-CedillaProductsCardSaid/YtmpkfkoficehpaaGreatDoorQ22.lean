/- CedillaProducts: where a text may be cut apart, it has as many texts that are alike as its two parts multiplied; no condition. -/
import Derived.Test.YtmpkfkoficehpaaGreatDoorQ21
import Derived.OrdersIn
set_option maxRecDepth 100000
set_option maxHeartbeats 6400000
namespace Go.Proofs.YtmpkfkoficehpaaGreatDoor
open Go.RowKit Go.Cd
def aag (R:List cO) (xP:gX→Nat→Option gX) (xs:List Nat) (s:gX) (c:Nat):Nat:=match xP s c with|some s'=>xs.getD (sO R s') 0|none=>0
theorem VT {R:List cO} {xP:gX→Nat→Option gX} {xs:List Nat} {P:Nat} (h:∀x∈xs,x≤P) (s:gX) (c:Nat):aag R xP xs s c≤P:=by
 unfold aag
 split
 ·rename_i s' _;rw [List.getD_eq_getElem?_getD];by_cases hk:sO R s'<xs.length
  ·rw [List.getElem?_eq_getElem hk];exact h _ (List.getElem_mem hk)
  ·rw [List.getElem?_eq_none (by omega)];exact Nat.zero_le _
 ·exact Nat.zero_le _
theorem lW {n x:Nat} (h:x≤1000000*Go.Cd.B ^ n):(bR Go.Cd.B x).length≤n+1:=by
 rw [cZ bF,Nat.pow_succ'];exact Nat.lt_of_le_of_lt h (Nat.mul_lt_mul_of_pos_right (by unfold Go.Cd.B;decide) (Nat.pow_pos (by unfold Go.Cd.B;decide)))
theorem aab {n x:Nat} (h:x≤Go.Cd.B ^ n):(bR Go.Cd.B x).length≤n+1:=lW (Nat.le_trans h (Nat.le_mul_of_pos_left _ (by decide)))
theorem aac {x c M:Nat} (h:x≤Go.Cd.B ^ c) (hc:c≤M):(bR Go.Cd.B x).length≤M+1:=aab (Nat.le_trans h (Nat.pow_le_pow_right (by unfold Go.Cd.B;decide) hc))
def tP:Nat:=16384
theorem SC {f:Nat→Nat} {l:List Nat} {j:Nat} (hj:j<l.length):((l.take (j+1)).map f).sum=((l.take j).map f).sum+f l[j]:=by
 rw [List.take_succ_eq_append_getElem hj,List.map_append,List.sum_append];simp
theorem zT {T:List aH} (hT:T.length<1000) {K:Nat→Nat} {l:List Nat} (hl:l.length<400) {s:gX} (ho:jG (bu K l) s) (F:Nat→List Nat):(cK (sN K F (xQ T) (bu K l) s)).length≤802000:=by
 rw [fB];have h1:=zO (bu K l) s;have h2:=((eZ K l).2.2 _ (show aL (bu K l) s.1∈bu K l by rw [dR ho.lt];exact List.getElem_mem _)).1;refine Nat.le_trans (qH (fun x=>Nat.le_trans (List.length_filter_le _ _) (MV hT x)) _) ?_;omega
theorem Pp {w:World} {MB mp dp PB pp g:Nat} {T:List aH} {X:List Nat} {l:List Nat} (hD:b_ w dp T X) (hV:aY T X) (qG:T.length<1000) (h:eO w MB mp dp (ai T) l) (hl:l.length<400) (hlc:∀c∈l,aP c) (hsm:eB (bu (ai T) l)≤16384) {xs:List Nat} (hp:jP w PB pp g mp xs) (hxl:xs.length=eB (bu (ai T) l)) (hxb:∀x∈xs,x≤Go.Cd.B ^ tP) {i:Nat} (hi:i<eB (bu (ai T) l)) :
 Calls Tryz.prog 68 #[.pointer (some ⟨pp,0,none⟩),.int .i64 i] w fun e w'=>∃r,e=.returned r∧bO w' r (uN (bu (ai T) l) (fun s=>cK (sN (ai T) (aC T) (xQ T) (bu (ai T) l) s)) (iw (ai T) (aC T) (bu (ai T) l)) xs i)∧Below w.heap.size w w':=by
 have hb0:=af (w:=w) (.cells #[.slice none 0 0] dO);have hos:=EP hi;have SA:=aa (Lv (h.mono hb0) (by omega) hsm hi);have hfr:uN (bu (ai T) l) (fun s=>cK (sN (ai T) (aC T) (xQ T) (bu (ai T) l) s)) (iw (ai T) (aC T) (bu (ai T) l)) xs i=if IY (bu (ai T) l) (EO (bu (ai T) l) i)=true then 1 else ((cK (sN (ai T) (aC T) (xQ T) (bu (ai T) l) (EO (bu (ai T) l) i))).map (aag (bu (ai T) l) (iw (ai T) (aC T) (bu (ai T) l)) xs (EO (bu (ai T) l) i))).sum:=rfl;rw [hfr];obtain ⟨s,hs⟩:=ae (EO (bu (ai T) l) i);rw [←hs] at hos SA ⊢;have OV:=aa (fun (W:World) (E:Below w.heap.size w W) (u:Value) (hu:zP W u s)=>Pm (h.mono E) (by omega) hsm hu hos);have OP:=aa (fun (W:World) (E:Below w.heap.size w W) (u:Value) (hu:zP W u s)=>EY (hD.mono E) hV qG (h.mono E) hl hlc hsm hu hos);have ST:=aa (fun (W:World) (E:Below w.heap.size w W) (u:Value) (hu:zP W u s) (c:Nat) (hc:aP c)=>CX (hD.mono E) hV qG (h.mono E) (by omega) hsm hu hos c hc);have AT:=aa (fun (W:World) (E:Below w.heap.size w W) (u:Value) (s':gX) (hu:zP W u s') (ho':jG (bu (ai T) l) s')=>VS (h.mono E) (by omega) hsm (hp.mono E) hxl hu ho');have hso:∀(c:Nat) (s':gX),iw (ai T) (aC T) (bu (ai T) l) s c=some s'→jG (bu (ai T) l) s':=fun c s' h=>Sq hos h;have hoc:∀c∈cK (sN (ai T) (aC T) (xQ T) (bu (ai T) l) s),aP c∧∃s',iw (ai T) (aC T) (bu (ai T) l) s c=some s':=fun c hc=>by
  rw [vz] at hc;obtain ⟨x,hx,hc⟩:=List.mem_flatMap.1 hc;have h1:=List.mem_filter.1 hc;exact ⟨MW hV (zS (MU (ai T) hlc) s x hx) c h1.1,Option.isSome_iff_exists.1 h1.2⟩
 have hol:=zT qG hl hos (aC T);have hal:=fun c=>VT (R:=bu (ai T) l) (xP:=iw (ai T) (aC T) (bu (ai T) l)) hxb s c;have YZ:∀c s',iw (ai T) (aC T) (bu (ai T) l) s c=some s'→aag (bu (ai T) l) (iw (ai T) (aC T) (bu (ai T) l)) xs s c=xs.getD (sO (bu (ai T) l) s') 0:=fun c s' h=>by unfold aag;rw [h]
 obtain ⟨O,hO⟩:=ae (cK (sN (ai T) (aC T) (xQ T) (bu (ai T) l) s));obtain ⟨ov,hov⟩:=ae (IY (bu (ai T) l) s);obtain ⟨f,hf⟩:=ae (aag (bu (ai T) l) (iw (ai T) (aC T) (bu (ai T) l)) xs s);simp only [←hO,←hov,←hf] at OV OP hoc hol hal YZ ⊢;have HSO:=aa hso;have HOC:=aa hoc;have K7:=aa hal;have agi:=aa YZ;have hXB:=aa hxb;have hIs:=hp.is;have k0:=Is.new w #[.slice none 0 0] dO;have hpl:=(hIs.mono hb0).at 0 rfl;obtain ⟨res,hres⟩:=ae (if ov=true then 1 else (O.map f).sum);rw [←hres];have pY:=aa hres;have hs0:w.heap.size+1≤(w.alloc (.cells #[.slice none 0 0] dO)).heap.size:=by simp
 clear hD h hp hxl hxb hi hos hfr hs hso hoc hal YZ hO hov hf hres;go_enter Tryz.func68,Tryz.ntmps68;go_wp2_with fail;refine SA.out.mono ?_;rintro e w1 ⟨v1,rfl,hS1,hb1⟩;generalize w.alloc (.cells #[.slice none 0 0] dO)=w0 at *;have hB1:=hb0.trans (hb1.mono hb0.size);have k0:=k0.mono hb1;obtain ⟨sv,rfl,hsv⟩:=id hS1;obtain ⟨sa,sc,rfl,_,_⟩:=bB.out hsv.any;obtain ⟨m,hm⟩:=ae ((bJ (nz s.2)).length);obtain ⟨k,hk⟩:=ae s.1;rw [←hm,←hk] at hS1 ⊢;have hb2:=af (w:=w1) (.cells #[.int .i64 (k:Nat),.slice sa m sc] 199);have k2:=Is.new w1 #[.int .i64 (k:Nat),.slice sa m sc] 199;have hB2:=hB1.trans (hb2.mono hB1.size);have hs1:=hb1.size;clear SA hsv hm hk hpl;go_wp2_with fail;obtain ⟨w2,hw2⟩:=ae (w1.alloc (.cells #[.int .i64 (k:Nat),.slice sa m sc] 199));rw [←hw2] at hb2 k2 hB2 ⊢;have Lg:w1.heap.size+1≤w2.heap.size:=by rw [hw2];simp
 clear hw2;have hS2:=hS1.mono hb2;have k0:=k0.mono hb2;have hs2:=hB2.size;have hBd:=hB2.trans ((ag w2).mono hs2);have OV2:=aa (OV.out w2.drew hBd _ (hS2.mono (ag w2)));have p0:=Gr.cell (ag w2) ((hIs.mono hB2).at 0 rfl);have e0:=Gr.cell (ag w2) (k2.at 0 rfl);have e1:=Gr.cell (ag w2) (k2.at 1 rfl);refine aF (Array.replicate 6 true) 6 0 mixed (by rfl) ?_;refine ay [0,1,2,3,4] 1 rfl (by kernel_rfl) ?_
 iterate 5 (refine aB rfl ?_;go_big_quiet_step (rfl))
 refine az ?_;refine aI 5 (by kernel_rfl) rfl ?_;go_wp2_with fail;refine OV2.out.mono ?_;rintro e w3 ⟨rfl,hb3⟩;go_wp2_with fail;refine aD hb3 ?_;refine aJ [] (by kernel_rfl) ?_;refine tail_nil ?_;have h23:=(ag w2).trans hb3;have hB3:=hB2.trans (h23.mono hs2);have k0:=k0.mono h23;have k2:=k2.mono h23;have YU:=hS2.mono h23;have hs3:=hB3.size;have Y0:=h23.size;clear OV OV2 p0 e0 e1;cases ov with
 | true=>
   have hr1:res=1:=pY.out;have HR1:=aa hr1;clear hr1;go_wp2_with fail;refine (CR 1 (by decide) w3).mono ?_;rintro e w4 ⟨r4,rfl,XA,hb4⟩;obtain ⟨ua,un,uc,rfl,XA⟩:=XA.out;have j0:=k0.mono hb4;have f0:=j0.at 0 rfl;have q0:=j0.frozen 0;have v0:=j0.set 0 (.slice ua un uc);have g0:=v0.at 0 rfl;have hB4:=hB3.trans (hb4.mono hs3);have hN:=aa (bO.iD XA (bD.put (o:=0) j0 (.slice ua un uc)) (by decide));have hfin:=aa (aj (off:=0) (u:=.slice ua un uc) (b:=w.heap.size) hB4 (Nat.le_refl _));clear j0 v0 XA;go_wp2_with fail;refine bodyPost_ret (v:=.agg #[.slice ua un uc]) (by simp [results,Tryz.results68,go_sem,g0]) rfl ⟨_,rfl,?_,hfin.out⟩;rw [HR1.out];exact hN.out
 | false=>
   have hr1:res=(O.map f).sum:=by rw [pY.out];exact if_neg (by simp)
   have HR1:=aa hr1;clear hr1;have hb4:=af (w:=w3) (.cells #[.slice none 0 0] dO);have kA:=Is.new w3 #[.slice none 0 0] dO;have hB4:=hB3.trans (hb4.mono hs3);have k23:=k2;have agj:=YU;have k2:=k2.mono hb4;have hS4:=YU.mono hb4;have hN0:bO (w3.alloc (.cells #[.slice none 0 0] dO)) (.agg #[.slice none 0 0]) 0:=⟨_,rfl,by rw [dz];exact .nil _ _ _ _ (fun _=>rfl)⟩;have hA:w3.heap.size+1≤(w3.alloc (.cells #[.slice none 0 0] dO)).heap.size:=by simp
   go_wp2_with fail;generalize w3.alloc (.cells #[.slice none 0 0] dO)=w4 at *;have hs4:=hB4.size;have hBd:=hB4.trans ((ag w4).mono hs4);have OP4:=aa (OP.out w4.drew hBd _ (hS4.mono (ag w4)));have p0:=Gr.cell (ag w4) ((hIs.mono hB4).at 0 rfl);have e0:=Gr.cell (ag w4) (k2.at 0 rfl);have e1:=Gr.cell (ag w4) (k2.at 1 rfl);refine aF (Array.replicate 8 true) 8 0 mixed (by rfl) ?_;refine ay [0,1,2,3,4,7] 2 rfl (by kernel_rfl) ?_
   iterate 6 (refine aB rfl ?_;go_big_quiet_step (rfl))
   refine az ?_;refine aI 5 (by kernel_rfl) rfl ?_;go_wp2_with fail;refine OP4.out.mono ?_;rintro e w5 ⟨ro,rfl,oO,hb5⟩;obtain ⟨n,hn⟩:=ae O.length;rw [←hn] at oO hol;have HN:=aa hn;clear hn;obtain ⟨a1,c1,rfl,_,_⟩:=ak oO;go_wp2_with fail;refine aD hb5 ?_;refine ay [6] 0 rfl (by kernel_rfl) ?_
   iterate 1 (refine aB rfl ?_;go_big_quiet_step (rfl))
   refine az ?_;refine aJ [] (by kernel_rfl) ?_;refine tail_nil ?_;have h45:=(ag w4).trans hb5;have rZ:=hB4.trans (h45.mono hs4);have h35:=hb4.trans (h45.mono hb4.size);have kA:=kA.mono h45;have hN0:=hN0.mono h45;have k2L:Below w3.heap.size w3 w5:=h35;have oO:=aV oO (show w3.heap.size≤w4.drew.heap.size from hb4.size);have OO:=aa oO;clear OP OP4 p0 e0 e1 oO;go_wp2_with fail;go_loopw [9,10,11,35] (fun _ _ _ jv wr=>∃j:Nat,j≤n∧jv=.int .i64 j∧(∃a q c,Is wr w3.heap.size #[.slice a q c] dO∧bO wr (.agg #[.slice a q c]) ((O.take j).map f).sum)∧wr.ownsRow w3.heap.size aM 1 (.slice a1 n c1) n (aN O)∧Below w3.heap.size w3 wr) (fun _ _ _ jv _=>n-(intOf jv).toNat)
   case atStart=>exact ⟨0,Nat.zero_le _,rfl,⟨_,_,_,kA,hN0⟩,OO.out,h35⟩
   case round=>
    obtain ⟨j,hj,rfl,⟨qa,qn,qc,jA,Pq⟩,hrow,hE⟩:=hrel;have iM:=hB3.trans (hE.mono hs3);have Bf:=iM.size;have Y4:=hE.size;by_cases hjn:j<n
    ·have zj:decide ((j:Int)<(n:Int))=true:=decide_eq_true (by omega);obtain ⟨rb,NP,he,_,_,_,_,hcells⟩:=dw hrow (show 0<n by omega);injection he with he1 _ he2;subst he1 he2;have hjl:j<O.length:=by have:=HN.out;omega
     have cy:=hcells j (.int .i32 (O[j]:Nat)) (by rw [List.getElem?_eq_getElem (by rw [bA];exact hjl),dM _ _ hjl]);obtain ⟨hyc,s',hys⟩:=HOC.out _ (List.getElem_mem hjl);have hsum:=SC (f:=f) hjl;have Y5:((O.take j).map f).sum≤1000000*Go.Cd.B ^ tP:=by
      refine Nat.le_trans (ER f (Go.Cd.B ^ tP) (O.take j) fun c _=>K7.out c) (Nat.mul_le_mul_right _ ?_);rw [List.length_take];omega
     have hfy:=agi.out _ _ hys;have hfl:f O[j]≤Go.Cd.B ^ tP:=K7.out _;obtain ⟨y,hy⟩:=ae (O[j]);rw [←hy] at cy hyc hys hsum hfy hfl;obtain ⟨S,hS⟩:=ae (((O.take j).map f).sum);rw [←hS] at Pq hsum Y5;obtain ⟨t,ht⟩:=ae (f y);rw [←ht] at hsum hfy hfl;have hdS:(bR Go.Cd.B S).length≤16385:=lW (n:=tP) Y5;have hdt:(bR Go.Cd.B t).length≤16385:=aab (n:=tP) hfl;have sS:=aa hsum;have k2r:=k23.mono hE;have hSr:=agj.mono hE;clear hcells hy hS ht hsum Y5 hfl;go_wp2_with fail;have e0:=Gr.cell (ag wr) (k2r.at 0 rfl);have e1:=Gr.cell (ag wr) (k2r.at 1 rfl);have p0:=Gr.cell (ag wr) ((hIs.mono iM).at 0 rfl);refine IA #[true,true,true,true,true,true,true,true,false,false,false,false,false] [10] [8,9] (fun _ v W=>∃k,v=.pointer (some ⟨k,0,none⟩)∧W.heap[k]? = some (.cells #[.int .i64 0,.slice none 0 0] 199)) pJ 8 4 mixed (by rfl) (by kernel_rfl) (fun _ _ _ _ hb h=>uH hb h) ?_ ?_
     ·intro i hi o ho;simp only [List.mem_cons,List.not_mem_nil,or_false] at hi;subst hi;cases ho;exact uG rfl rfl (fun W=>by go_simp)
     refine ng [0,1,2,3,4,5] 2 rfl (by kernel_rfl) ?_
     iterate 6 (refine aB rfl ?_;go_big_quiet_step (rfl))
     refine az ?_;refine nR 6 (by kernel_rfl) rfl ?_;intro wa Oc;have hra:=(ag wr).trans Oc;have hEa:=iM.trans (hra.mono Bf);have hsa:=hEa.size;go_wp2_with fail;refine (ST.out wa hEa _ (hSr.mono hra) y hyc).mono ?_;rintro e wc ⟨hst,hbc⟩;rw [hys] at hst;obtain ⟨v2,rfl,VU⟩:=hst;obtain ⟨sv2,rfl,Ps⟩:=id VU;obtain ⟨a2,c2,rfl,_,_⟩:=bB.out Ps.any;obtain ⟨m2,hm2⟩:=ae ((bJ (nz s'.2)).length);obtain ⟨kk,hkk⟩:=ae s'.1;rw [←hm2,←hkk] at VU ⊢;clear Ps hm2 hkk;go_wp2_with fail;refine aD hbc ?_;refine ng [7] 0 rfl (by kernel_rfl) ?_;refine aB rfl ?_;go_big_quiet_step (rfl);refine az ?_;refine pI [8,9,11,12] (by kernel_rfl) ?_;intro W Wb us hR hD;obtain ⟨⟨Y,hv,hh⟩,hNn,hbk⟩:=hR 10 (by simp);rw [hv] at hNn hbk;simp only [pJ] at hNn hbk;rw [pK (d:=some 10) rfl,hv];have hY:wr.heap.size≤Y:=hNn;have hrW:Below wr.heap.size wr W:=hra.trans ((hbc.trans (Wb.mono hbc.size)).mono hra.size);have iY:Is W Y #[.int .i64 0,.slice none 0 0] 199:=⟨hh⟩;have a0:=iY.at 0 rfl;have a1':=iY.at 1 rfl;have b0:=iY.frozen 0;have b1:=iY.frozen 1;have ch:=(bD.put (o:=0) iY (.int .i64 (kk:Nat))).trans (bD.put (o:=1) (iY.set 0 (.int .i64 (kk:Nat))) (.slice a2 m2 c2));have Xx:=aa ((iY.set 0 (.int .i64 (kk:Nat))).set 1 (.slice a2 m2 c2));have hSW:=aa (MM.Lc (VU.mono Wb) ch (by decide));have jAW:=aa (ch.is (jA.mono hrW) (by decide));have hNW:=aa (bO.iD (Pq.mono hrW) ch (by decide));have ach:=aa (ch.own (aG hrow hrW) (by decide));have hAr:w3.heap.size<wr.heap.size:=jA.lt;have aci:=aa (aj (off:=1) (u:=.slice a2 m2 c2) (b:=Y) (aj (off:=0) (u:=.int .i64 (kk:Nat)) (b:=Y) (hE.trans (hrW.mono Y4)) (by omega)) (by omega));clear iY ch hR hD e0 e1 p0 hv hh hNn hbk Oc hra hEa hsa hbc Wb VU hrW Pq hrow k2r hSr cy;refine Ei (os:=[_,_,_,_]) rfl ?_;go_wp2_with fail;refine Ej ?_;clear a0 a1' b0 b1;generalize (W.setCell ⟨Y,0,none⟩ (.int .i64 (kk:Nat))).setCell ⟨Y,1,none⟩ (.slice a2 m2 c2)=w6 at *;have Xx:=Xx.out;have jA6:=jAW.out;have Y6:=aci.out;have acj:=hB3.trans (Y6.mono hs3);have hs6:=acj.size;have ATy:=aa (AT.out w6.drew (acj.trans ((ag w6).mono hs6)) _ s' (hSW.out.mono (ag w6)) (HSO.out y s' hys));rw [←hfy] at ATy;have e0:=Gr.cell (ag w6) (jA6.at 0 rfl);have e1:=Gr.cell (ag w6) (Xx.at 0 rfl);have e2:=Gr.cell (ag w6) (Xx.at 1 rfl);clear hSW jAW aci;go_wp2_with fail;refine aF #[true,true,true,true,true,false] 5 1 mixed (by rfl) ?_;refine ay [0,1,2] 2 rfl (by kernel_rfl) ?_
     iterate 3 (refine aB rfl ?_;go_big_quiet_step (rfl))
     refine az ?_;refine aI 3 (by kernel_rfl) rfl ?_;go_wp2_with fail;refine ATy.out.mono ?_;rintro e w7 ⟨r7,rfl,Lx,j4⟩;have Y7:=(ag w6).trans j4;go_wp2_with fail;refine aD j4 ?_;refine aI 4 (by kernel_rfl) rfl ?_;go_wp2_with fail;refine (Ex (hNW.out.mono Y7) Lx (by omega) (by omega)).mono ?_;rintro e w8 ⟨r8,rfl,LC,iZ⟩;obtain ⟨ua,un,uc,rfl,LC⟩:=LC.out;have h68:=Y7.trans (iZ.mono Y7.size);go_wp2_with fail;refine aD iZ ?_;have SE:=jA6.mono h68;have f0:=SE.at 0 rfl;have q0:=SE.frozen 0;have agn:=Y6.size;have jA9:=aa (SE.set 0 (.slice ua un uc));have ch:=bD.put (o:=0) SE (.slice ua un uc);have hN9:=aa (bO.iD LC ch (by decide));have ack:=aa (ch.own (aG ach.out h68) (by decide));have xK:=aa (aj (off:=0) (u:=.slice ua un uc) (b:=w3.heap.size) (Y6.trans (h68.mono agn)) (Nat.le_refl _));clear ch SE LC Lx jA6 Xx e0 e1 e2 j4 iZ;refine aJ [5] (by kernel_rfl) ?_;refine tail_cons rfl ?_;go_wp2_with fail;refine tail_nil ?_;go_wp2_with fail;go_roundw
     case rel=>exact ⟨j+1,by omega,by simp,⟨_,_,_,jA9.out,by rw [sS.out];exact hN9.out⟩,ack.out,xK.out⟩
     case measure=>simp [intOf];omega
    ·have zj:decide ((j:Int)<(n:Int))=false:=decide_eq_false (by omega);obtain rfl:j=n:=by omega
     have ht:O.take j=O:=List.take_of_length_le (by rw [←HN.out];exact Nat.le_refl _);rw [ht,←HR1.out] at Pq;have jA0:=jA.at 0 rfl;have j0:=k0.mono hE;have f0:=j0.at 0 rfl;have q0:=j0.frozen 0;have v0:=j0.set 0 (.slice qa qn qc);have g0:=v0.at 0 rfl;have hN:=aa (bO.iD Pq (bD.put (o:=0) j0 (.slice qa qn qc)) (by decide));have hfin:=aa (aj (off:=0) (u:=.slice qa qn qc) (b:=w.heap.size) iM (Nat.le_refl _));clear j0 v0 Pq ht;go_wp2_with fail;exact bodyPost_ret (v:=.agg #[.slice qa qn qc]) (by simp [results,Tryz.results68,go_sem,g0]) rfl ⟨_,rfl,hN.out,hfin.out⟩
end Go.Proofs.YtmpkfkoficehpaaGreatDoor
namespace Go.Cd
section
open Go.RowKit
section
variable {l n : Nat} {P : Program} {ops : Array Oper} {Q : Exit → Act → World → Prop} {md : Region.Mode}
theorem VV {o:Oper} {a:Act} {K:Act→World→Prop} {r:Result Next} (h:o.upon P a K Q r):o.uponIn (Fence.wide.inRound l) n P a K Q r:=by
 have hd:(Fence.wide.inRound l).depth.isSome=true→1≤n:=fun h=>by cases h
 cases r with
 | ok x w'=>
   cases x with
   | value v=>exact h
   | skip=>exact h
   | defer d=>exact h
   | enter f args=>exact ⟨hd,(callsIn_wide (n:=n-1)).2 h⟩
   | row row args=>exact ⟨hd,fun c cs _=>by
      obtain ⟨v,w2,hr,hs⟩:=h c cs
      exact ⟨v,w2,hr,stepsIn_wide.2 hs⟩⟩
   | _=>exact absurd h (by simp [Oper.upon])
 | halt x w'=>cases x <;> exact h
theorem VW {i:Nat} {K:Act→World→Prop} {a:Act} {w:World} (hd:∀(i:Nat) (o:Oper),ops[i]? = some o→∀c,o.op≠.defer c) (hQ:¬LetsOut Q) (h:wpOp P ops Q i K a w):wpOpIn (Fence.wide.inRound l) n P ops Q i K a w:=by
 unfold wpOp at h;unfold wpOpIn;cases ho:ops[i]? with
 | none=>rw [ho] at h;exact h
 | some o=>
   rw [ho] at h;simp only at h ⊢;by_cases hw:Region.wanted o (yielded ops a.tmps)=true
   ·rw [if_pos hw] at h ⊢;rcases h with h|h
    ·refine ⟨fun _ _=>trivial,?_⟩;have:Oper.semAt (Fence.wide.inRound l).round a.eval o=execOp a.eval o:=Oper.semAt_some l _ _ (hd i o ho);rw [this];exact VV h
    ·exact absurd h.2 hQ
   ·rw [if_neg hw] at h ⊢;exact ⟨fun _ _=>trivial,h⟩
theorem Je (hd:∀(i:Nat) (o:Oper),ops[i]? = some o→∀c,o.op≠.defer c) (hQ:¬LetsOut Q):∀(fuel:Nat) (listed:Array Bool) (a:Act) (w:World),wpAny P md ops Q fuel listed a w→wpAnyIn (Fence.wide.inRound l) n P md ops Q fuel listed a w
 | 0,_,_,_,h=>h
 | fuel+1,_,_,_,h=>⟨h.1,fun i hi=>wpOpIn_mono (fun a w=>Je hd hQ fuel _ a w) (VW hd hQ (h.2 i hi))⟩
end
def XB:Op→Bool
 | .defer _=>false
 | _=>true
theorem Pt {os:List Oper} (h:os.all (fun o=>XB o.op)=true) (i:Nat) (o:Oper) (ho:os.toArray[i]? = some o) (c:Call):o.op≠.defer c:=fun e=>by
 have hm:o∈os:=by
  rw [List.getElem?_toArray] at ho;exact List.mem_of_getElem? ho
 have:=List.all_eq_true.1 h o hm;rw [e] at this;cases this
theorem Bh {l n:Nat} {P:Program} {id:Nat} {Q:Exit→Act→World→Prop} {a:Act} {w:World} {os:List Oper} (head:Array Bool) (k t:Nat) (hm:P.follows .mixedOrders=true) (hn:k+t=os.length)
 (hd:os.all (fun o=>XB o.op)=true) (hQ:¬LetsOut Q)
 (h:JM P .any os.toArray head Q (fun l' a w=>wpAny P .any os.toArray Q t l' a w) k (Array.replicate os.length false) a w.drew):(Code.region id os.toArray true).wpIn (Fence.wide.inRound l) n P Q a w:=by
 refine wpIn_region_any hm ?_;refine Je (Pt hd) hQ _ _ _ _ ?_;have:=rJ k _ _ _ h;rw [hn] at this;simpa using this
theorem KeepsOthers.of_below {A B:World} (h:Below A.heap.size A B):KeepsOthers A B:=⟨h.size,fun k _ hk _=>(h.block k (Array.getElem?_eq_some_iff.1 hk).1).trans hk⟩
end
end Go.Cd
namespace Go.Proofs.YtmpkfkoficehpaaGreatDoor
section
open Go.RowKit Go.Cd Go.Shelf
attribute [local go_sem] Oper.semAt_some
structure rG (Bs b n:Nat) (A B:World):Prop where
 box:B.cell? ⟨Bs,0,none⟩=A.cell? ⟨Bs,0,none⟩
 row:∀j,j<n→(∃a m c,A.cell? ⟨b,j,none⟩=some (.slice a m c))→∃a m c,B.cell? ⟨b,j,none⟩=some (.slice a m c)
theorem rG.refl (Bs b n:Nat) (A:World):rG Bs b n A A:=⟨rfl,fun _ _ h=>h⟩
theorem rG.trans {Bs b n:Nat} {A B C:World} (h:rG Bs b n A B) (k:rG Bs b n B C):rG Bs b n A C:=⟨k.box.trans h.box,fun j hj hx=>k.row j hj (h.row j hj hx)⟩
abbrev BN (n:Nat):Type:={ x:Nat×Value // x.1<n }
theorem Y8 (F:Fence) (m:Nat) (hF:F.fn 95) (hro:F.round=none) (hm:1≤m) (l Bs b n cap:Nat) (hmax:n<1099511627776) (J Jx:List (BN n)→World→Prop)
 (hY:∀pre x W,J pre W→pre.length<n→YieldAt F (m-1) Tryz.prog l #[.int .i64 (x.1.1:Nat),x.1.2] W fun e W'=>
   (e=.returned (.bool true)∧J (pre++[x]) W'∧rG Bs b n W W')∨(e=.returned (.bool false)∧Jx (pre++[x]) W'))
 (W:World) (Nr:W.cell? ⟨Bs,0,none⟩=some (.slice (some ⟨b,0,none⟩) n cap)) (hc:∀j,j<n→∃a m c,W.cell? ⟨b,j,none⟩=some (.slice a m c)) (h0:J [] W) :
 CallsIn F m Tryz.prog 95 #[.func (.yield l) #[] #[],.pointer (some ⟨Bs,0,none⟩)] W fun e W'=>(∃v,e=.returned v)∧
  ((∃ys:List (BN n),ys.map (fun x=>x.1.1)=lu id n n∧J ys W')∨(∃pre:List (BN n),True∧Jx pre W')):=by
 refine callsIn_of_wp Tryz.func95 rfl hF ?_ hro;simp only [Tryz.ntmps95,List.size_toArray,List.length_cons,List.length_nil,Nat.reduceAdd,Nat.reduceSub,Array.replicate_succ,Array.replicate_zero,List.push_toArray,List.append_toArray,List.nil_append,List.cons_append]
 gi_wp2
 gi_loopw [3] (fun i wr=>∃(k:Nat) (pre:List (BN n)),k≤n∧i=.int .i64 ((n:Int)-1-(k:Int))∧pre.map (fun x=>x.1.1)=lu id n k∧J pre wr∧rG Bs b n W wr)
  (fun i _=>(intOf i+1).toNat)
 case atStart=>exact ⟨0,[],Nat.zero_le _,by simp,by simp [lu],h0,rG.refl _ _ _ _⟩
 case round=>
  obtain ⟨k,pre,hk,rfl,hpre,hJs,hnx⟩:=hrel;have hcs:=hnx.box.trans Nr;have hpl:pre.length=k:=by have:=congrArg List.length hpre;simpa [wQ] using this
  by_cases hlt:k<n
  ·obtain ⟨i,hi⟩:∃i:Nat,(n:Int)-1-(k:Int)=(i:Int):=⟨n-1-k,by omega⟩;have hin:i<n:=by omega
   have hik:n-1-k=i:=by omega
   obtain ⟨xa,xm,xc,hcx⟩:=hnx.row i hin (hc i hin);obtain ⟨fn,tmps,assign,body,hy,hR⟩:=hY _ (⟨(i,.agg #[.slice xa xm xc]),hin⟩:BN n) wr hJs (by omega);have agr:=aa hpre;have HIK:=aa hik;rw [hi];clear hi hpre hik
   gi_wp2
   refine hR.mono ?_;rintro e W3 (⟨rfl,hJ3,hk3⟩|⟨rfl,hJx3⟩)
   ·have afp:=hk3.box.trans hcs
    gi_wp2
    go_roundw
    case rel=>exact ⟨k+1,_,by omega,congrArg (Value.int .i64) (by have:=HIK.out;omega),by rw [jY,HIK.out,List.map_append,agr.out];rfl,hJ3,hnx.trans hk3⟩
    case measure=>simp [intOf]
   ·gi_wp2
    refine bodyPost_ret (results_none rfl _ _ _) rfl ?_;exact ⟨⟨_,rfl⟩,.inr ⟨_,trivial,hJx3⟩⟩
  ·obtain rfl:k=n:=by omega
   have hz:(k:Int)-1-(k:Int)=-1:=by omega
   rw [hz]
   gi_wp2
   go_end0
   exact ⟨⟨_,rfl⟩,.inl ⟨_,hpre,hJs⟩⟩
theorem EZ (v:Value) (w:World) (hv:∃a n cap,v=.slice a n cap) :
 Calls Tryz.prog 67 #[v] w fun e w'=>e=.returned (.func (.func 95) #[] #[.pointer (some ⟨w.heap.size,0,none⟩)])∧w'=w.alloc (.cells #[v] 59):=by
 obtain ⟨a,n,cap,rfl⟩:=hv;go_enter Tryz.func67,Tryz.ntmps67;go_wp2;go_ret;exact ⟨rfl,rfl⟩
theorem Jf (F:Fence) (m:Nat) (hF:F.fn 95) (hro:F.round=none) (hm:1≤m) (Bs b n cap:Nat) (hmax:n<1099511627776) (w:World) (Nr:Bs<w.heap.size) (hb:b<w.heap.size)
 (hcell:w.cell? ⟨Bs,0,none⟩=some (.slice (some ⟨b,0,none⟩) n cap)) (hc:∀j,j<n→∃a m c,w.cell? ⟨b,j,none⟩=some (.slice a m c)) :
 SeqStopsK F m Tryz.prog 95 #[.pointer (some ⟨Bs,0,none⟩)] (fun x:BN n=>#[.int .i64 (x.1.1:Nat),x.1.2]) (rG Bs b n) (fun ys=>ys.map (fun x=>x.1.1)=lu id n n) (fun _=>True) n w:=fun l J Jx W hW _ _ hY h0=>
 Y8 F m hF hro hm l Bs b n cap hmax J Jx hY W ((hW.cell (p:=⟨Bs,0,none⟩) Nr).trans hcell) (fun j hj=>by
  obtain ⟨a,m,c,h⟩:=hc j hj
  exact ⟨a,m,c,(hW.cell (p:=⟨b,j,none⟩) hb).trans h⟩) h0
end
section
open Go.RowKit Go.Cd Go.Shelf
attribute [local go_sem] Oper.semAt_some
theorem XC:mR Tryz.prog 59 dO (.agg #[.slice none 0 0]) 1 24:=⟨rfl,Tryz.underlying59,info_parts (by kernel_rfl)⟩
theorem xR {w:World} {ops:Array Oper} {rest:List Oper} {o:Oper} {a:Act} {Q:Exit→Act→World→Prop} (hg:o.guard=none) (l c:Operand) (hop:o.op=Op.makeSlice 59 l c) (base:Nat)
 (kl kc:IntKind) (L C:Int) (n:Nat) (hl:a.eval l=.int kl L) (hc:a.eval c=.int kc C) (hL:L=(n:Int)) (hC:C=(n:Int)) (hn:n<1000000) (b4:base≤w.heap.size)
 (hK:∀w',w'.ownsRow base dO 1 (.slice (some ⟨w.heap.size,0,none⟩) n n) n (List.replicate n (.slice none 0 0))→w.grownBy w' none→wpList Tryz.prog ops Q rest (a.put o.dst (.slice (some ⟨w.heap.size,0,none⟩) n n)) w') :
 wpList Tryz.prog ops Q (o::rest) a w:=by
 obtain ⟨hzs,ht,i,hi,hz,hsize,hby⟩:=XC;refine wpList_make_full w hg l c _ hop base dO i _ 1 ht hi hz hsize kl kc L C n hl hc hL hC (by rw [hby];omega) (by unfold maxLen;omega) b4 fun w' h1 h2=>hK w' ?_ h2;rw [show (Value.agg #[.slice none 0 0]).cells=#[.slice none 0 0] from rfl,Nat.mul_one,toList_madeCells_one] at h1;exact h1
def nV (fr:List Nat→Nat→Nat) (n:Nat) (is:List Nat):List Nat:=is.foldl (fun t i=>t.set i (fr t i)) (List.replicate n 0)
theorem Jg (fr:List Nat→Nat→Nat) (n:Nat) (is:List Nat):(nV fr n is).length=n:=by
 have:∀(is:List Nat) (t:List Nat),(is.foldl (fun t i=>t.set i (fr t i)) t).length=t.length:=fun is=>by
  induction is with
  | nil=>intro t;rfl
  | cons i is ih=>intro t;rw [List.foldl_cons,ih,List.length_set]
 unfold nV;rw [this,List.length_replicate]
theorem CY (fr:List Nat→Nat→Nat) (n:Nat) (is:List Nat) (i:Nat):nV fr n (is++[i])=(nV fr n is).set i (fr (nV fr n is) i):=by
 unfold nV;rw [List.foldl_append];rfl
theorem CZ (R:List cO) (opt:gX→List Nat) (xP:gX→Nat→Option gX) (n:Nat):∀k,nV (uN R opt xP) n (lu id n k)=pW R opt xP n k
 | 0=>by simp [nV,lu,pW]
 | k+1=>by rw [jY,CY,CZ R opt xP n k];rfl
theorem bO.MZ {A B:World} {row:Option Nat} (hg:A.grownBy B row) (hr:∀r,row=some r→∃o:Obj,A.heap[r]? = some o∧o.isCells=false) {v:Value} {x:Nat} (h:bO A v x):bO B v x:=by
 obtain ⟨s,hv,a,cap,hs,hcap,hx⟩:=h;refine ⟨s,hv,a,cap,hs,hcap,hx.imp id ?_⟩;rintro ⟨b,off,cs,fr,ha,hh,hx⟩;exact ⟨b,off,cs,fr,ha,mU hg hr hh,hx⟩
theorem jP.MZ {A B:World} {row:Option Nat} (hg:A.grownBy B row) (hr:∀r,row=some r→∃o:Obj,A.heap[r]? = some o∧o.isCells=false) {PB pp g mp:Nat} {xs:List Nat} (h:jP A PB pp g mp xs):jP B PB pp g mp xs:=by
 obtain ⟨h1,vals,h2,h3⟩:=h;refine ⟨⟨mU hg hr h1.at_⟩,vals,QL hg hr h2,fun k hk=>?_⟩;obtain ⟨a,n,c,h4,h5⟩:=h3 k hk;exact ⟨a,n,c,h4,bO.MZ hg hr h5⟩
theorem jP.store {w:World} {PB pp g mp:Nat} {xs:List Nat} (h:jP w PB pp g mp xs) {i:Nat} (hi:i<xs.length) {a:Option Addr} {n c x:Nat} (hx:bO w (.agg #[.slice a n c]) x):jP (w.setCell ⟨g,i,none⟩ (.slice a n c)) PB pp g mp (xs.set i x):=by
 obtain ⟨h1,vals,h2,h3⟩:=h;obtain ⟨o,hg⟩:=h2.stored i (.slice a n c);have ch:=bD.bK h2 hg;have hl:vals.length=xs.length:=by have:=h2.1;omega
 refine ⟨by rw [List.length_set];exact ch.is h1 (by decide),vals.set i (.slice a n c),by rw [List.length_set];exact o,fun k hk=>?_⟩;rw [List.length_set] at hk;by_cases hki:k=i
 ·subst hki;refine ⟨a,n,c,by rw [List.getElem?_set_self (by omega)],?_⟩;rw [List.getElem_set_self];exact bO.iD hx ch (by decide)
 ·obtain ⟨a',n',c',h4,h5⟩:=h3 k hk;refine ⟨a',n',c',by rw [List.getElem?_set_ne (by omega)];exact h4,?_⟩;rw [List.getElem_set_ne (by omega)];exact bO.iD h5 ch (by decide)
theorem jP.frozen {w:World} {PB pp g mp:Nat} {xs:List Nat} (h:jP w PB pp g mp xs) {i:Nat} (hi:i<xs.length):w.frozen? ⟨g,i,none⟩=false:=by
 obtain ⟨h1,vals,h2,h3⟩:=h;exact (jJ h2 (j:=i) (by have:=h2.1;omega)).2
end
section
open Go.RowKit Go.Cd Go.Shelf
attribute [local go_sem] Oper.semAt_some
def p_ (T:List aH) (l:List Nat):List Nat:=pW (bu (ai T) l) (fun s=>cK (sN (ai T) (aC T) (xQ T) (bu (ai T) l) s)) (iw (ai T) (aC T) (bu (ai T) l)) (eB (bu (ai T) l)) (eB (bu (ai T) l))
theorem SF {w:World} {MB mp dp:Nat} {T:List aH} {X:List Nat} {l:List Nat} (hD:b_ w dp T X) (hV:aY T X) (qG:T.length<1000) (h:eO w MB mp dp (ai T) l) (hl:l.length<400) (hlc:∀c∈l,aP c) (hsm:eB (bu (ai T) l)≤16384) :
 Calls Tryz.prog 46 #[.pointer (some ⟨mp,0,none⟩)] w fun e w'=>∃pp g,e=.returned (.tuple #[.pointer (some ⟨pp,0,none⟩),.int .i64 0])∧jP w' w.heap.size pp g mp (p_ T l)∧Below w.heap.size w w':=by
 have SZ:=aa (CS h);have hpos:0<eB (bu (ai T) l):=by
  have h1:=(eZ (ai T) l).1;have h2:=pV (R:=bu (ai T) l) (k:=0) (List.length_pos_iff.2 h1);have h3:=jH (bu (ai T) l) 1;have h4:=MO ((bu (ai T) l)[0]'(List.length_pos_iff.2 h1));simp only [Nat.zero_add] at h2;omega
 have hM:∀i,i<eB (bu (ai T) l)→(cK (sN (ai T) (aC T) (xQ T) (bu (ai T) l) (EO (bu (ai T) l) i))).length≤Go.Cd.B:=fun i hi=>Nat.le_trans (zT qG hl (EP hi) _) (by unfold Go.Cd.B;decide);have FR:=aa (fun (W:World) (E:Below w.heap.size w W) (PB pp g:Nat) (xs:List Nat) (hp:jP W PB pp g mp xs) (hxl:xs.length=eB (bu (ai T) l)) (hxb:∀x∈xs,x≤Go.Cd.B ^ tP) (i:Nat) (hi:i<eB (bu (ai T) l))=>Pp (hD.mono E) hV qG (h.mono E) hl hlc hsm hp hxl hxb hi);have htab:p_ T l=nV (uN (bu (ai T) l) (fun s=>cK (sN (ai T) (aC T) (xQ T) (bu (ai T) l) s)) (iw (ai T) (aC T) (bu (ai T) l))) (eB (bu (ai T) l)) (lu id (eB (bu (ai T) l)) (eB (bu (ai T) l))):=(CZ _ _ _ _ _).symm;have hle:∀(xs:List Nat) (P i:Nat),1≤P→i<eB (bu (ai T) l)→(∀x∈xs,x≤P)→uN (bu (ai T) l) (fun s=>cK (sN (ai T) (aC T) (xQ T) (bu (ai T) l) s)) (iw (ai T) (aC T) (bu (ai T) l)) xs i≤Go.Cd.B*P:=fun xs P i hP hi hx=>I7 (by unfold Go.Cd.B;decide) hP (hM i hi) hx;obtain ⟨fr,hfr⟩:=ae (uN (bu (ai T) l) (fun s=>cK (sN (ai T) (aC T) (xQ T) (bu (ai T) l) s)) (iw (ai T) (aC T) (bu (ai T) l)));obtain ⟨n,hn⟩:=ae (eB (bu (ai T) l));obtain ⟨res,hres⟩:=ae (p_ T l);rw [←hres] at htab ⊢;simp only [←hfr,←hn] at SZ FR htab hle hpos hsm;have HT:=aa htab;have Nv:=aa hle;clear hD hV qG h hl hlc hM hfr hn hres htab hle;refine iI Tryz.func46 rfl ?_;simp only [Tryz.ntmps46,List.size_toArray,List.length_cons,List.length_nil,Nat.reduceAdd,Nat.reduceSub,Array.replicate_succ,Array.replicate_zero,List.push_toArray,List.append_toArray,List.nil_append,List.cons_append];go_wp2_with fail;refine SZ.out.mono ?_;rintro e w1 ⟨v1,rfl,hN1,hb1⟩;have UI:=aa (O8 hN1 (by omega));obtain ⟨na,nn,nc,rfl,_⟩:=hN1.out;have hs1:=hb1.size;clear hN1 SZ;go_wp2_with fail;refine UI.out.mono ?_;rintro e w2 ⟨rfl,hb2⟩;have hB2:=hb1.trans (hb2.mono hs1);have hs2:=hB2.size;have zn:decide (16384<n)=false:=decide_eq_false (by omega);have zn2:decide ((16384:Int)<(n:Int))=false:=decide_eq_false (by omega);clear UI
 go_wp2_with (
  at_make
  refine xR rfl _ _ rfl w.heap.size .u64 .u64 _ _ n rfl rfl rfl rfl (by omega) hs2 ?_
  intro w3 o3 hg3)
 have Pv:=fA hg3;have hB3:=hB2.trans (Pv.mono hs2);have hs3:=hB3.size;have hgl:w2.heap.size<w3.heap.size:=(o3.lt w2.heap.size rfl).2;obtain ⟨g,hg⟩:=ae w2.heap.size;rw [←hg] at o3 hgl hs2 ⊢;obtain ⟨w4,hw4⟩:=ae ((w3.alloc (.cells #[.pointer (some ⟨mp,0,none⟩),.slice (some ⟨g,0,none⟩) n n] MX)).alloc (.cells #[.pointer (some ⟨w3.heap.size,0,none⟩)] 60));rw [←hw4];have zU:Below w3.heap.size w3 w4:=by rw [hw4];exact ed _ _
 have hB4:=hB3.trans (zU.mono hs3);have hs4:w3.heap.size+2=w4.heap.size:=by rw [hw4];simp
 have kP:Is w4 w3.heap.size #[.pointer (some ⟨mp,0,none⟩),.slice (some ⟨g,0,none⟩) n n] MX:=by rw [hw4];exact (Is.new _ _ _).mono (af _)
 have kV:Is w4 (w3.heap.size+1) #[.pointer (some ⟨w3.heap.size,0,none⟩)] 60:=by rw [hw4];exact Is.new' _ _ _ _ (by simp)
 have hP:jP w4 w.heap.size w3.heap.size g mp (nV fr n []):=by
  have e:(nV fr n [])=List.replicate n 0:=rfl;rw [e];refine ⟨by simpa using kP,List.replicate n (.slice none 0 0),by rw [List.length_replicate];exact aG o3 zU,fun k hk=>⟨none,0,0,by rw [List.length_replicate] at hk;simp [hk],?_⟩⟩;rw [List.getElem_replicate];exact ⟨_,rfl,by rw [dz];exact .nil _ _ _ _ (fun _=>rfl)⟩
 have hcells:∀j,j<n→∃a m c,w4.cell? ⟨g,j,none⟩=some (.slice a m c):=fun j hj=>by
  obtain ⟨a,m,c,h,_⟩:=hP.at_ (k:=j) (by rw [Jg];exact hj);exact ⟨a,m,c,h⟩
 have HG:=aa hg;clear hw4 hg o3 hg3 Pv zU hB2 hb2 hb1 kP;refine (EZ _ w4 ⟨_,_,_,rfl⟩).mono ?_;rintro e w5 ⟨rfl,rfl⟩;go_wp2_with fail;have hbx:=af (w:=w4) (.cells #[.slice (some ⟨g,0,none⟩) n n] 59);have hgW:g≠w4.heap.size:=by omega
 refine (wpIn_wide (n:=5)).1 ?_;refine wpIn_rangeFunc_ownG (F:=Fence.wide) rfl (by omega) (gf:=95) (lb:=#[.pointer (some ⟨w4.heap.size,0,none⟩)]) rfl trivial (enters_of Tryz.func95 (by kernel_rfl) rfl)
  (Jf Fence.wide 4 trivial rfl (by omega) w4.heap.size g n n (by omega) (w4.alloc (.cells #[.slice (some ⟨g,0,none⟩) n n] 59)) (by simp) (by simp;omega) ((Is.new w4 _ _).at 0 rfl) (fun j hj=>by
    obtain ⟨a,m,c,h⟩:=hcells j hj
    exact ⟨a,m,c,(hbx.cell (p:=⟨g,j,none⟩) (by show g<w4.heap.size;omega)).trans h⟩))
  (fun h k=>h.trans k) (fun W l o o' hl ho hc _=>by
    have hl':w4.heap.size+1≤l:=by simpa using hl
    refine ⟨World.cell?_of_block (World.putObj_heap_other (by simp only;omega)),fun j hj hx=>?_⟩;rw [World.cell?_of_block (w:=W) (World.putObj_heap_other (by simp only;omega))]
    exact hx) (Below.refl _ _) (fun _=>rfl)
  (fun pre W=>((∀x∈nV fr n (pre.map fun x=>x.1.1),x≤Go.Cd.B ^ pre.length)∧jP W w.heap.size w3.heap.size g mp (nV fr n (pre.map fun x=>x.1.1))∧Is W (w3.heap.size+1) #[.pointer (some ⟨w3.heap.size,0,none⟩)] 60∧w4.heap.size+1≤W.heap.size)∧Below w.heap.size w W)
  (fun _ _ _=>False)
  (OwnFrom.and (Own.from (fun s A B row hs hg hr=>⟨hs.1,hs.2.1.MZ hg hr,⟨mU hg hr hs.2.2.1.at_⟩,Nat.le_trans hs.2.2.2 hg.size⟩) _) (ownFrom_below (Nat.le_refl _) (by simp;omega)))
  (fun c s A B row hs _ _=>hs.elim)
  ⟨⟨fun x hx=>by rw [show nV fr n (([]:List (BN n)).map fun x=>x.1.1)=List.replicate n 0 from rfl] at hx;rw [List.eq_of_mem_replicate hx];exact Nat.zero_le _,hP.mono hbx,kV.mono hbx,by simp⟩,hB4.trans (hbx.mono (by omega))⟩
  (fun x=>{ tmps:=#[.pointer (some ⟨mp,0,none⟩),undef,.pointer none,.int .i64 0,.int .u64 n,.bool true,.pointer (some ⟨w3.heap.size+1,0,none⟩),.int .i64 (x.1.1:Nat),.tuple #[.int .u64 n,.bool true],.pointer (some ⟨mp,0,none⟩),.agg #[.slice na nn nc],
    .tuple #[.int .u64 n,.bool true],.int .u64 n,.bool true,.bool true,.bool false,.bool false,.int .u64 n,.bool false,.bool false,.pointer (some ⟨mp,0,none⟩),.int .u64 n,.slice (some ⟨g,0,none⟩) n n,.agg #[.pointer (some ⟨mp,0,none⟩),.slice (some ⟨g,0,none⟩) n n],
    .pointer (some ⟨w3.heap.size,0,none⟩),.pointer (some ⟨w3.heap.size,0,none⟩),.pointer (some ⟨w3.heap.size,0,none⟩),.pointer (some ⟨w3.heap.size,1,none⟩),.slice (some ⟨g,0,none⟩) n n,.func (.func 95) #[] #[.pointer (some ⟨w4.heap.size,0,none⟩)],
    .int .i64 (x.1.1:Nat),x.1.2,undef,undef,undef,undef,undef,undef,undef,undef,undef,undef],defers:=[] }) ?assign ?body ?done ?stop
 case assign=>
  intro l x W K hK
  gi_wp2
  exact hK
 case body=>
  rintro l pre ⟨⟨i,v⟩,hin⟩ Wr ⟨⟨hbd,XD,kVr,hsz⟩,hBr⟩ hlt;have Bf:=hBr.size;have htl:=Jg fr n (pre.map fun x=>x.1.1);have hE2:nV fr n ((pre++[(⟨(i,v),hin⟩:BN n)]).map fun x=>x.1.1)=(nV fr n (pre.map fun x=>x.1.1)).set i (fr (nV fr n (pre.map fun x=>x.1.1)) i):=by rw [List.map_append];exact CY _ _ _ _
  have hpw:Go.Cd.B ^ pre.length≤Go.Cd.B ^ tP:=Nat.pow_le_pow_right (by unfold Go.Cd.B;decide) (show pre.length≤16384 by omega);have hfi:=Nv.out (nV fr n (pre.map fun x=>x.1.1)) (Go.Cd.B ^ pre.length) i (one_le_pow (by unfold Go.Cd.B;decide) _) hin hbd;have hlp:(pre++[(⟨(i,v),hin⟩:BN n)]).length=pre.length+1:=by simp
  obtain ⟨xs,hxs⟩:=ae (nV fr n (pre.map fun x=>x.1.1));rw [←hxs] at hbd XD htl hE2 hfi;obtain ⟨q,hq⟩:=ae pre.length;rw [←hq] at hbd hpw hfi hlp hlt;have hFr:=FR.out Wr.drew (hBr.trans ((ag Wr).mono Bf)) _ _ _ xs (XD.mono (ag Wr)) htl (fun x hx=>Nat.le_trans (hbd x hx) hpw) i hin;have HE2:=aa hE2;have HLP:=aa hlp;have HFR:=aa hFr;have HBD:=aa hbd;have Uh:=aa hfi;have p1:=Gr.cell (ag Wr) (XD.is.at 1 rfl);rw [htl] at p1;have v1:=Gr.cell (ag Wr) (kVr.at 0 rfl);clear hE2 hlp hFr hbd hpw hfi hxs hq;refine wpIn_block ?_;dsimp only;refine Bh #[true,true,true,true,true,true,true,true,true,false] 9 1 mixed (by rfl) (by kernel_rfl) (by rintro ⟨a,w,h⟩;exact h) ?_;refine ay [0,1,2,3,4,5,6] 2 rfl (by kernel_rfl) ?_
  iterate 7 (refine aB rfl ?_;go_big_quiet_step (rfl))
  refine az ?_;refine aI 7 (by kernel_rfl) rfl ?_;go_wp2_with fail;refine HFR.out.mono ?_;rintro e wc ⟨r,rfl,hN,hbc⟩;obtain ⟨ua,un,uc,rfl,hN⟩:=hN.out;go_wp2_with fail;refine aD hbc ?_;refine ay [8] 0 rfl (by kernel_rfl) ?_
  iterate 1 (refine aB rfl ?_;go_big_quiet_step (rfl))
  refine az ?_;have hrc:=(ag Wr).trans hbc;have hPc:=XD.mono hrc;have kVc:=kVr.mono hrc;have hix:i<xs.length:=by omega
  obtain ⟨oa,om,oc,hci,_⟩:=hPc.at_ hix;have fci:=hPc.frozen hix;have hPs:=hPc.store hix hN;obtain ⟨cs,hcs⟩:=bP hPc.row.choose_spec.1 (k:=g) rfl;have ch:=bD.put (o:=i) (⟨hcs⟩:Is wc g cs dO) (.slice ua un uc);have kVs:=ch.is kVc (by decide);refine aJ [9] (by kernel_rfl) ?_;refine tail_cons rfl ?_;go_wp2_with fail;refine tail_nil ?_;have hBc:=hBr.trans (hrc.mono Bf);refine ⟨((KeepsOthers.of_below hrc).trans (KeepsOthers.setCell _ _ _)).from _,⟨?_,fun j hj hx=>?_⟩,⟨?_,?_,kVs,?_⟩,aj hBc (by omega)⟩
  ·rw [World.cell?_of_block (w:=wc) (Below.heap_setCell _ _ _ _ (by simp only;omega))];exact hrc.cell (p:=⟨w4.heap.size,0,none⟩) (by show w4.heap.size<Wr.heap.size;omega)
  ·obtain ⟨a,m,c,h,_⟩:=hPs.at_ (k:=j) (by rw [List.length_set];omega);exact ⟨a,m,c,h⟩
  ·intro x hx;rw [HE2.out] at hx;rw [HLP.out];rcases List.mem_or_eq_of_mem_set hx with h|rfl
   ·exact Nat.le_trans (HBD.out x h) (Nat.pow_le_pow_right (by unfold Go.Cd.B;decide) (Nat.le_succ _))
   ·rw [Nat.pow_succ'];exact Uh.out
  ·rw [HE2.out];exact hPs
  ·have:=hrc.size;simp only [World.size_setCell];omega
 case done=>
  rintro D ys Wd hD hys ⟨⟨hbd,XD,kVr,hsz⟩,hBr⟩ hK;have hys:ys.map (fun x=>x.1.1)=lu id n n:=hys;rw [hys,←HT.out] at XD;have hD1:w4.heap.size+1≤D:=by simpa using hD
  have Ql:Wd.grownBy (Wd.putObj D (.deferred none)) (some D):=grownBy_putObj' Wd D (.deferred none);have hrr:∀r,some D=some r→∃o:Obj,Wd.heap[r]? = some o∧o.isCells=false:=fun r e=>by cases e;exact ⟨_,hK,rfl⟩
  have hPz:=aa (XD.MZ Ql hrr);have X9:=aa (hBr.trans (belowK_b (w:=w) (Nat.le_refl _) Wd D _ (.deferred none) (by omega) hK rfl rfl));have v0:=kVr.at 0 rfl;clear hbd XD kVr Ql hrr hys;go_wp2;refine ⟨by simp,.inl ⟨_,_,rfl,run_takeDeferred hK,?_⟩⟩;exact ⟨.tuple #[.pointer (some ⟨w3.heap.size,0,none⟩),.int .i64 0],by simp [results,Tryz.results46,go_sem],_,_,rfl,hPz.out,X9.out⟩
 case stop=>
  rintro D c pre Wd _ _ h _;exact h.elim
end
open Go.RowKit Go.Cd
def xS (T:List aH):List Nat:=(mapped T).flatMap fun r=>(aC T r.code).drop 1
theorem Y9 {T:List aH} {E:List dZ} (h:E.map (·.1)=(mapped T).map (·.code)):y9 T E=xS T:=by
 have e1:y9 T E=(E.map (·.1)).flatMap fun c=>(aC T c).drop 1:=by unfold y9;rw [List.flatMap_map]
 have e2:xS T=((mapped T).map (·.code)).flatMap fun c=>(aC T c).drop 1:=by unfold xS;rw [List.flatMap_map]
 rw [e1,e2,h]
def Pw (T:List aH) (c:Nat):Bool:=decide (c∈xS T)||(hk c==2||hk c==3)
theorem SG {T:List aH} {X:List Nat} (hV:aY T X):(xS T).length≤32*T.length:=by
 have key:∀L:List aH,(L.flatMap fun r=>(aC T r.code).drop 1).length≤32*L.length:=fun L=>by
  induction L with
  | nil=>simp
  | cons r L ih=>
    rw [List.flatMap_cons,List.length_append,List.length_drop,List.length_cons];have:=gI hV r.code;omega
 refine Nat.le_trans (key _) (Nat.mul_le_mul_left _ (List.length_filter_le _ _))
theorem Jh {w:World} {p:Nat} {T:List aH} {X:List Nat} (h:b_ w p T X) (hV:aY T X) (hl:T.length<1000) (c:Nat) (hc:c<1114112) :
 Calls Tryz.prog 20 #[.pointer (some ⟨p,0,none⟩),.int .i32 c] w fun e w'=>e=.returned (.bool (Pw T c))∧Below w.heap.size w w':=by
 obtain ⟨E,rv,xv,ev,bM,jM,cp,pp,iv,sv,mv,h1,_,_,h4,_⟩:=h;have Ui:=h1.is;rw [Y9 h1.lC] at h4;have hs:=(mM (xS T)).1;have hlen:(lh (h_ (xS T))).length<1000000:=by
  have h1:=yB (h_ (xS T));have h2:=vB (xS T);have h3:=SG hV;omega
 obtain ⟨b1,hb1⟩:=ae (decide (places (lh (h_ (xS T))) c % 2=1));have CK:=aa (fun (W:World) (E:Below w.heap.size w W)=>GK (w:=W) (lh (h_ (xS T))) c ((Sl.aW h4).any.mono E) hlen (BF hs));rw [←hb1] at CK;have hb:Pw T c=(b1||(hk c==2||hk c==3)):=by
  unfold Pw;congr 1;rw [hb1,decide_eq_decide,FY hs,(mM (xS T)).2]
 rw [hb];have HO:=aa (ql (w:=w) c hc);obtain ⟨k,hk'⟩:=ae (hk c);have hk6:=yC c;rw [←hk'] at HO hk6 ⊢;have hiv:=ak h4;obtain ⟨ia,ic,rfl,_,_⟩:=hiv;have e7:=Ui.at 7 rfl;clear h1 h4 Ui hs hlen hb1 hb hk';go_enter Tryz.func20,Tryz.ntmps20;go_wp2_with fail;refine HO.out.mono ?_;rintro e w6 ⟨rfl,hw⟩;obtain rfl:w6=w:=hw;go_wp2_with fail;refine (CK.out w6 (Below.refl _ _)).mono ?_;rintro e w7 ⟨rfl,j4⟩;clear CK HO e7;cases b1 with
 | true=>
   go_wp2_with fail;go_ret;exact ⟨by simp,j4⟩
 | false=>
   by_cases h2:k=2
   ·subst h2;go_wp2_with fail;go_ret;exact ⟨by simp,j4⟩
   ·have z2:((k:Int)==2)=false:=by simp;omega
    have y2:(k==2)=false:=by simp [h2]
    by_cases h3:k=3
    ·subst h3;go_wp2_with fail;go_ret;exact ⟨by simp,j4⟩
    ·have z3:((k:Int)==3)=false:=by simp;omega
     have y3:(k==3)=false:=by simp [h3]
     go_wp2_with fail;go_ret;exact ⟨by simp [y2,y3],j4⟩
def gz (T:List aH) (c:Nat):Bool:=(ai T ((aC T c).headD 0)==0)&&!Pw T ((aC T c).headD 0)
theorem C_ {T:List aH} {c:Nat}:(aC T c).head? = some ((aC T c).headD 0):=by
 have:=x9 T c;cases h:aC T c with
 | nil=>exact absurd h this
 | cons a l=>rfl
theorem xy {w:World} {p:Nat} {T:List aH} {X:List Nat} (h:b_ w p T X) (hV:aY T X) (hl:T.length<1000) (c:Nat) (hc:aP c) :
 Calls Tryz.prog 6 #[.pointer (some ⟨p,0,none⟩),.int .i32 c] w fun e w'=>e=.returned (.bool (gz T c))∧Below w.heap.size w w':=by
 have hc':c<1114112:=hc.1;have IS:=aa (iG (w:=w) c (by omega));rw [decide_eq_true hc] at IS;have FU:=aa (nQ h hV hl c hc');obtain ⟨f,hf⟩:=ae ((aC T c).headD 0);have hfm:f∈aC T c:=by
  have h1:=C_ (T:=T) (c:=c);rw [←hf] at h1;exact List.mem_of_head? h1
 have hfc:=(mY hV hc hfm).1;have CL:=aa (fun (W:World) (E:Below w.heap.size w W)=>ik (h.mono E) hV f hfc);have IN:=aa (fun (W:World) (E:Below w.heap.size w W)=>Jh (h.mono E) hV hl f hfc);have hb:gz T c=((ai T f==0)&&!Pw T f):=by unfold gz;rw [←hf]
 rw [hb];obtain ⟨k,hk⟩:=ae (ai T f);obtain ⟨b,hbb⟩:=ae (Pw T f);rw [←hk] at CL ⊢;rw [←hbb] at IN ⊢;have HF:=aa hf;have hne:=List.length_pos_iff.2 (x9 T c);clear h hk hbb hb hf hfm;go_enter Tryz.func6,Tryz.ntmps6;go_wp2_with fail;refine IS.out.mono ?_;rintro e w6 ⟨rfl,hw⟩;obtain rfl:w6=w:=hw;go_wp2_with fail;refine FU.out.mono ?_;rintro e w7 ⟨r,rfl,ho,j4⟩;obtain ⟨g,cap,rfl,_,_,_,_,hcell⟩:=dw ho hne;have e0:w7.cell? ⟨g,0,none⟩=some (.int .i32 (f:Nat)):=by
  refine hcell 0 _ ?_;rw [HF.out,List.getElem?_eq_getElem (by simpa using hne),dM _ _ hne];congr 2;have h1:=C_ (T:=T) (c:=c);rw [List.head?_eq_getElem?,List.getElem?_eq_getElem hne] at h1;injection h1 with h1;rw [h1]
 obtain ⟨n,hn⟩:=ae ((aC T c).length);rw [←hn] at hne ⊢;clear ho hcell hn;go_wp2_with fail;refine (CL.out w7 j4).mono ?_;rintro e w8 ⟨rfl,iZ⟩;have Y_:=ah j4 iZ;clear e0;by_cases hk0:k=0
 ·subst hk0;have z:((0:Nat):Int)=0:=rfl;go_wp2_with fail;refine (IN.out w8 Y_).mono ?_;rintro e w9 ⟨rfl,tL⟩;go_wp2_with fail;go_ret;exact ⟨by simp,ah Y_ tL⟩
 ·have z:((k:Int)==0)=false:=by simp;omega
  have y:(k==0)=false:=by simp [hk0]
  go_wp2_with fail;go_ret;exact ⟨by simp [y],Y_⟩
end Go.Proofs.YtmpkfkoficehpaaGreatDoor
namespace Go.Cd
def bU (ap:Nat→Bool) (out:List (List Nat)) (c:Nat):List (List Nat):=
 if out=[]∨ap c=true then out++[[c]] else out.dropLast++[out.getLastD []++[c]]
def aO (ap:Nat→Bool) (l:List Nat):List (List Nat):=l.foldl (bU ap) []
theorem Da {ap:Nat→Bool} {out:List (List Nat)} {c:Nat}:bU ap out c≠[]:=by
 unfold bU;split <;> simp
theorem LF {ap:Nat→Bool} {o p:List (List Nat)} (h:p≠[]) (c:Nat):bU ap (o++p) c=o++bU ap p c:=by
 unfold bU;by_cases ha:ap c=true
 ·rw [if_pos (.inr ha),if_pos (.inr ha),List.append_assoc]
 ·rw [if_neg (by simp [h,ha]),if_neg (by simp [h,ha])];rw [List.dropLast_append_of_ne_nil h,List.append_assoc];congr 3;obtain ⟨q,x,rfl⟩:∃q x,p=q++[x]:=⟨p.dropLast,p.getLast h,(List.dropLast_concat_getLast h).symm⟩;rw [←List.append_assoc];simp [List.getLastD_eq_getLast?]
theorem zV {ap:Nat→Bool}:∀(l:List Nat) (o p:List (List Nat)),p≠[]→l.foldl (bU ap) (o++p)=o++l.foldl (bU ap) p
 | [],_,_,_=>rfl
 | c::l,o,p,h=>by
   show l.foldl (bU ap) (bU ap (o++p) c)=o++l.foldl (bU ap) (bU ap p c);rw [LF h,zV l o _ Da]
theorem E8 {ap:Nat→Bool} (a:List Nat) {b:List Nat} (h:∀c,b.head? = some c→a≠[]→ap c=true):aO ap (a++b)=aO ap a++aO ap b:=by
 unfold aO;rw [List.foldl_append];cases b with
 | nil=>simp
 | cons c l=>
   by_cases ha:a=[]
   ·subst ha;rfl
   ·have hc:=h c rfl ha;show l.foldl (bU ap) (bU ap (a.foldl (bU ap) []) c)=_++l.foldl (bU ap) (bU ap [] c);have e1:bU ap (a.foldl (bU ap) []) c=a.foldl (bU ap) []++[[c]]:=by unfold bU;rw [if_pos (.inr hc)]
    have e2:bU ap [] c=[[c]]:=by unfold bU;rw [if_pos (.inl rfl)];rfl
    rw [e1,e2,zV l _ _ (by simp)]
theorem fT {ap:Nat→Bool} (l:List Nat):(aO ap l).flatten=l:=by
 have:∀(l:List Nat) (o:List (List Nat)),(l.foldl (bU ap) o).flatten=o.flatten++l:=by
  intro l
  induction l with
  | nil=>intro o;simp
  | cons c l ih=>
    intro o;rw [List.foldl_cons,ih];have:(bU ap o c).flatten=o.flatten++[c]:=by
     unfold bU;by_cases ho:o=[]
     ·subst ho;simp
     ·split
      ·simp
      ·obtain ⟨q,x,rfl⟩:∃q x,o=q++[x]:=⟨o.dropLast,o.getLast ho,(List.dropLast_concat_getLast ho).symm⟩;simp [List.getLastD_eq_getLast?]
    rw [this];simp
 simpa [aO] using this l []
theorem Db {ap:Nat→Bool} {l u:List Nat} (h:u∈aO ap l):∀c∈u,c∈l:=by
 intro c hc;rw [←fT (ap:=ap) l];exact List.mem_flatten.2 ⟨u,h,hc⟩
end Go.Cd
namespace Go.Proofs.YtmpkfkoficehpaaGreatDoor
open Go.RowKit Go.Cd
abbrev XE:TypeId:=52
theorem Za:Elem Tryz.prog 117 XE (.slice none 0 0) 24:=⟨rfl,Tryz.underlying117,info_parts (by kernel_rfl)⟩
structure uO (w:World) (B:Nat) (Z:gG) (ov:Value) (us:List (List Nat)) (vals:List Value):Prop where
 len:vals.length=us.length
 row:w.ownsRow B XE 1 ov us.length vals
 z:Qi w Z
 zb:∀k,Z k≠none→B≤k
 own:∀k (hk:k<us.length),∃v,vals[k]? = some v∧qC w B Z k v us[k]
theorem uO.ext {w w':World} {B:Nat} {Z:gG} {ov:Value} {us:List (List Nat)} {vals:List Value} (h:uO w B Z ov us vals) (hb:Below w.heap.size w w'):uO w' B Z ov us vals:=
 have hz:∀k,Z k≠none→w'.heap[k]? = w.heap[k]?:=fun k hk=>hb.block k (h.z k hk).1
 ⟨h.len,aG h.row hb,h.z.mono hb.size hz,h.zb,fun k hk=>by obtain ⟨v,e,o⟩:=h.own k hk;exact ⟨v,e,o.mono hz⟩⟩
theorem uO.nil (w:World) (B:Nat):uO w B (fun _=>none) (.slice none 0 0) [] []:=⟨rfl,World.ownsRow_nil _ _ _ _,fun _ h=>absurd rfl h,fun _ h=>absurd rfl h,fun _ h=>absurd h (by simp)⟩
theorem uO.push {w w':World} {B:Nat} {Z:gG} {ov ov':Value} {us:List (List Nat)} {vals:List Value} (h:uO w B Z ov us vals) (ho:w'.ownsRow B XE 1 ov' (us.length+1) (vals++[.slice none 0 0])) (hg:w.grownBy w' ov.ownBlock) :
 uO w' B Z ov' (us++[[]]) (vals++[.slice none 0 0]):=by
 have c:=bD.bK h.row hg;have hz:=c.z h.z (by decide);refine ⟨by simp [h.len],by simpa using ho,h.z.mono c.size hz,h.zb,fun k hk=>?_⟩;by_cases e:k<us.length
 ·obtain ⟨v,e1,o⟩:=h.own k e;refine ⟨v,?_,?_⟩
  ·rw [List.getElem?_append_left (by rw [h.len];exact e)];exact e1
  ·rw [List.getElem_append_left e];exact o.mono hz
 ·have hk2:k=us.length:=by simp at hk;omega
  subst hk2;refine ⟨.slice none 0 0,?_,?_⟩
  ·rw [←h.len,List.getElem?_append_right (Nat.le_refl _),Nat.sub_self];rfl
  ·rw [List.getElem_append_right (Nat.le_refl _)];simp only [Nat.sub_self,List.getElem_cons_zero];exact qC.nil _ _ _ _
theorem uO.add {w w':World} {B:Nat} {Z Z':gG} {g n cap:Nat} {us:List (List Nat)} {vals:List Value} (h:uO w B Z (.slice (some ⟨g,0,none⟩) n cap) us vals) {k:Nat} (hk:k<us.length) (hs:tC w Z k w' Z') {v:Value} {u:List Nat} (hv:qC w' B Z' k v u) (hB:B≤w.heap.size) :
 uO (w'.setCell ⟨g,k,none⟩ v) B Z' (.slice (some ⟨g,0,none⟩) n cap) (us.set k u) (vals.set k v):=by
 have hn:us.length=n:=by
  obtain ⟨_,_,e,_⟩:=dw h.row (by omega);injection e with _ e _;exact e.symm
 have c:=hs.iD h.z;have hr:=c.own h.row (by decide);have hc:=bP hr (k:=g) rfl;obtain ⟨cs,hcs⟩:=hc;have c2:=bD.put (o:=k) (⟨hcs⟩:Is w' g cs XE) v;have hz:=c2.z hs.z (by decide);rw [hn] at hr;refine ⟨by simp [h.len],by rw [List.length_set,hn];exact (hr.stored k v).1,hs.z.mono c2.size hz,fun j hj=>?_,fun j hj=>?_⟩
 ·by_cases hlt:j<w.heap.size
  ·by_cases e:Z j=some k
   ·exact h.zb j (by rw [e];simp)
   ·rw [hs.sub j hlt e] at hj;exact h.zb j hj
  ·omega
 ·have hj':j<us.length:=by simpa using hj
  by_cases e:j=k
  ·subst e;refine ⟨v,by rw [List.getElem?_set_self (by rw [h.len];exact hj')],?_⟩;rw [List.getElem_set_self];exact hv.mono hz
  ·obtain ⟨x,e1,o⟩:=h.own j hj';refine ⟨x,by rw [List.getElem?_set_ne (Ne.symm e)];exact e1,?_⟩;rw [List.getElem_set_ne (Ne.symm e)];exact (hs.other e o).mono hz
theorem zW {ap:Nat→Bool} {l:List Nat} {j:Nat} (hj:j<l.length):aO ap (l.take (j+1))=bU ap (aO ap (l.take j)) l[j]:=by
 unfold aO;rw [List.take_succ_eq_append_getElem hj,List.foldl_append];rfl
theorem Px {ap:Nat→Bool} {l:List Nat} {j:Nat} (hj:j≤l.length):aO ap (l.take j)=[]↔j=0:=by
 cases j with
 | zero=>simp [aO]
 | succ j=>
   rw [zW (by omega)];simp [Da]
theorem jf {ap:Nat→Bool}:∀(l:List Nat) (o:List (List Nat)),(l.foldl (bU ap) o).length≤o.length+l.length
 | [],_=>Nat.le_refl _
 | c::l,o=>by
   have ih:=jf (ap:=ap) l (bU ap o c);have:(bU ap o c).length≤o.length+1:=by unfold bU;split <;> simp <;> omega
   rw [List.foldl_cons,List.length_cons];omega
theorem Ji {w:World} {p:Nat} {T:List aH} {X:List Nat} (h:b_ w p T X) (hV:aY T X) (hl:T.length<1000) {v:Value} (l:List Nat) (hv:bB w v (aN l)) (hc:∀c∈l,aP c) (hln:l.length<3000) :
 Calls Tryz.prog 49 #[.pointer (some ⟨p,0,none⟩),v] w fun e w'=>∃r vals,e=.returned r∧w'.ownsRow w.heap.size XE 1 r (aO (gz T) l).length vals∧vals.length=(aO (gz T) l).length∧(∀k (hk:k<(aO (gz T) l).length),∃u,vals[k]? = some u∧w'.ownsRow w.heap.size aM 1 u ((aO (gz T) l)[k]).length (aN (aO (gz T) l)[k]))∧Below w.heap.size w w':=by
 obtain ⟨n,hn⟩:=ae l.length;obtain ⟨a,cap,rfl,hcap,hx⟩:=bB.Ef hv hn;have HX:=aa hx;have HC:=aa hc;have HN:=aa hn;have AP:=aa (fun (W:World) (E:Below w.heap.size w W) c (hc:aP c)=>xy (h.mono E) hV hl c hc);obtain ⟨ap,hap⟩:=ae (gz T);rw [←hap] at AP ⊢;rw [←hn] at hln;clear h hV hl hv hc hx hn hap;go_enter Tryz.func49,Tryz.ntmps49;go_wp2_with fail;go_loopw [5,8,11] (fun ov _ iv wr=>∃j:Nat,j≤n∧iv=.int .i64 j∧(∃Z vals,uO wr w.heap.size Z ov (aO ap (l.take j)) vals)∧Below w.heap.size w wr) (fun _ _ iv _=>n-(intOf iv).toNat)
 case atStart=>exact ⟨0,Nat.zero_le _,rfl,⟨_,_,uO.nil _ _⟩,Below.refl _ _⟩
 case round=>
  obtain ⟨j,hj,rfl,⟨Z,vals,hU⟩,hE⟩:=hrel;by_cases hjn:j<n
  ·have zj:decide ((j:Int)<(n:Int))=true:=by simp;omega
   have hjl:j<l.length:=by have:=HN.out;omega
   obtain ⟨b,off,rfl,hbs,c0'⟩:=HX.out j hjl;have c0:=aA hE c0';clear c0';have hcj:=HC.out _ (List.getElem_mem hjl);obtain ⟨us,tN⟩:=ae (aO ap (l.take j));have hun:=Px (ap:=ap) (l:=l) (j:=j) (by omega);have hu1:=zW (ap:=ap) hjl;have hul:us.length≤j:=by
    rw [tN];refine Nat.le_trans (jf _ _) ?_;rw [List.length_take];simp;omega
   have xU:∀y∈us,y.length≤j:=fun y hy=>by
    have h1:=fT (ap:=ap) (l.take j);rw [←tN] at h1;have h2:=congrArg List.length h1;rw [List.length_take] at h2;have h3:=List.Sublist.length_le (List.sublist_flatten_of_mem hy);omega
   have acn:=aa xU;rw [←tN] at hU hun hu1;obtain ⟨x,vL⟩:=ae (l[j]);rw [←vL] at c0 hcj hu1;have HU:=aa hU;have HU1:=aa hu1;have HUN:=aa hun;have CK:=aa (AP.out wr hE x hcj);obtain ⟨bx,hbx⟩:=ae (ap x);rw [←hbx] at CK;have HBX:=aa hbx;have hsz:=hE.size;clear hU hu1 hun tN vL hbx hcj xU;go_upto_region 5 with fail;go_cut [22] from 16 to 21 (fun tv wx=>∃tb:Bool,tv=.bool tb∧(tb=true↔us=[]∨ap x=true)∧Below wr.heap.size wr wx)
   case first=>
    by_cases hj0:j=0
    ·subst hj0;have H0:=aa (HUN.out.2 rfl);go_wp2_with fail;go_meet;exact ⟨true,rfl,by simp [H0.out],Below.refl _ _⟩
    ·have z0:((j:Int)==0)=false:=by simp;omega
     go_wp2_with fail;refine CK.out.mono ?_;rintro e w6 ⟨rfl,hb6⟩;go_wp2_with fail;go_meet;exact ⟨bx,rfl,by rw [HBX.out];exact ⟨fun h=>.inr h,fun h=>h.resolve_left fun e=>hj0 (HUN.out.1 e)⟩,hb6⟩
   case rest=>
    clear c0;obtain ⟨tb,rfl,htb,hbc⟩:=hcut;have Zb:=aa htb;have HUc:=aa (HU.out.ext hbc);have xI:=hE.trans (hbc.mono hsz);have hsc:=xI.size;clear htb hbc hE;go_upto_if 22 with fail;go_cut [5] from 23 to 25 (fun ov wx=>(∃Z vals LG,uO wx w.heap.size Z ov LG vals∧LG≠[]∧LG.length≤j+1∧(∀y∈LG,y.length≤j)∧bU ap us x=LG.set (LG.length-1) (LG.getLastD []++[x]))∧Below w.heap.size w wx)
    case first=>
     cases tb with
     | true=>
       have hr:=HUc.out.row;have hl9:=HUc.out.len;have tZ:=aa (Zb.out.1 rfl);have j4:=af (w:=wc) (.cells #[.slice none 0 0] XE);go_wp2_with (refine gF (W:=wc) rfl _ _ 117 rfl w.heap.size XE (.slice none 0 0) 24 Za u5 us.length vals rfl hr (.slice none 0 0) rfl rfl (by omega) (by unfold maxLen;omega) w xI (Nat.le_refl _) ?_;intro v7 w7 o7 b7 _ g7);have HU7:=aa ((HUc.out.ext j4).push o7 g7);clear o7 g7 hr;go_wp2_with fail;go_meet
       refine ⟨⟨Z,_,us++[[]],HU7.out,by simp,by simp;omega,fun y hy=>(by
        rcases List.mem_append.1 hy with hy|hy
        ·exact acn.out y hy
        ·rw [List.mem_singleton.1 hy];exact Nat.zero_le _),?_⟩,b7⟩
       unfold bU;rw [if_pos tZ.out];simp
     | false=>
       have tZ:=aa (show ¬(us=[]∨ap x=true) from fun h=>by have:=Zb.out.2 h;cases this);go_wp2_with fail;go_meet;refine ⟨⟨Z,vals,us,HUc.out,fun e=>tZ.out (.inl e),by omega,acn.out,?_⟩,xI⟩;unfold bU;rw [if_neg tZ.out];have hne:us≠[]:=fun e=>tZ.out (.inl e);obtain ⟨q,y,rfl⟩:∃q y,us=q++[y]:=⟨us.dropLast,us.getLast hne,(List.dropLast_concat_getLast hne).symm⟩;simp [List.getLastD_eq_getLast?]
    case rest=>
     clear HU HUc xI hsc Zb;obtain ⟨⟨Z1,ai5,LG,hU1,hne1,hl1,hy1,he1⟩,hE1⟩:=hcut;obtain ⟨m,hm⟩:∃m,LG.length=m+1:=⟨LG.length-1,by have:=List.length_pos_iff.2 hne1;omega⟩;have hr1:=hU1.row;rw [hm] at hr1;obtain ⟨g,amn,hov,hcap1,_,_,_,hcell⟩:=dw hr1 (Nat.succ_pos m);subst hov;obtain ⟨lv,hlv,hov⟩:=hU1.own m (by omega);obtain ⟨la,lc,hls,_,_⟩:=ak hov.1;subst hls;have c1:=hcell m _ hlv;have f1:=hr1.frozenAt m;obtain ⟨u,hu⟩:=ae (LG[m]);rw [←hu] at hov hlv c1;have hgl:LG.getLastD []=u:=by
      rw [hu,List.getLastD_eq_getLast?,List.getLast?_eq_getElem?,show LG.length-1=m by omega,List.getElem?_eq_getElem (show m<LG.length by omega)];rfl
     have HLV:=aa hlv;have HUU:=aa hU1;have HM:=aa hm;have agu:=aa (show aO ap (l.take (j+1))=LG.set m (u++[x]) from by rw [HU1.out,he1,hgl,hm,Nat.add_sub_cancel]);have ai7:u.length≤j:=by rw [hu];exact hy1 _ (List.getElem_mem _)
     have e1:IntKind.i64.wrap (((m+1:Nat):Int)-1)=(m:Int):=by rw [IntWalk.i64_in _ (by omega)];omega
     have hs1:=hE1.size;obtain ⟨w8,hw8⟩:=ae wc;subst hw8;have tL:=af (w:=w8) (.cells #[.int .i32 (x:Nat)] aM);have hU9:=HUU.out.ext tL;have Zc:=hov.mono (fun k hk=>tL.block k (HUU.out.z k hk).1);have xK:Below w.heap.size w (w8.alloc (.cells #[.int .i32 (x:Nat)] aM)):=hE1.trans (tL.mono hs1);clear hU1 hr1 hcell hlv hu hgl he1 hne1 hy1 hov;have hcl:∀(i:Nat) (u:Value),([.int .i32 (x:Nat)]:List Value)[i]? = some u→(w8.alloc (.cells #[.int .i32 (x:Nat)] aM)).cell? ((⟨w8.heap.size,0,none⟩:Addr).add i)=some u:=fun i u hi=>by
      rcases i with _|i
      ·cases hi;exact (Is.new w8 _ aM).at 0 rfl
      ·cases hi
     have agv:=aa hcl;clear hcl
     go_wp2_with (
      refine lS (W:=w8.alloc (.cells #[.int .i32 (x:Nat)] aM)) rfl _ _ 52 rfl w.heap.size aM (.int .i32 0) 4 bT (by decide) (v:=.slice la u.length lc) rfl Zc.1 (by rw [World.size_alloc];omega) [.int .i32 (x:Nat)] (fun u hu=>by rw [List.mem_singleton.1 hu];rfl) ⟨w8.heap.size,0,none⟩ 1 1 rfl rfl agv.out (by omega) ?_;intro v10 xJ ZY Sj acr;obtain ⟨va,vc,rfl,_,_⟩:=ak ZY;obtain ⟨Z5,VZ,V3⟩:=tC.iL (l':=u++[x]) hU9.z Zc (by rw [aZ,List.length_append];exact ZY) Sj acr;have He:Below w.heap.size w xJ:=xK.trans (VZ.below hU9.zb (by simp;omega));have acs:=hU9.add (k:=m) (by have:=HM.out;omega) VZ V3 (by simp;omega);have Zd:=(VZ.iD hU9.z).own hU9.row (by decide);have hgb:w.heap.size≤g:=(Zd.lt g rfl).1;have hr:=Zd;rw [HM.out] at hr;obtain ⟨g',cap',e,_,_,_,_,hcell⟩:=dw hr (Nat.succ_pos m);injection e with e1 _ e3;subst e3;injection e1 with e1;injection e1 with e1;subst e1;have c10:=hcell m _ HLV.out;have f10:=hr.frozenAt m;have agw:=aa acs
      clear ZY Sj acr VZ V3 acs hU9 Zc Zd hr hcell)
     go_roundw
     case rel=>exact ⟨j+1,by omega,by simp,⟨_,_,by rw [agu.out];exact agw.out⟩,aj He hgb⟩
     case measure=>simp [intOf];omega
  ·have zj:decide ((j:Int)<(n:Int))=false:=by simp;omega
   obtain rfl:j=n:=by omega
   have ht:l.take j=l:=List.take_of_length_le (by rw [HN.out];exact Nat.le_refl _);rw [ht] at hU;have HU:=aa hU;clear hU ht;go_wp2_with fail;go_ret;exact ⟨_,vals,rfl,HU.out.row,HU.out.len,fun k hk=>by obtain ⟨u,e,o⟩:=HU.out.own k hk;exact ⟨u,e,o.1⟩,hE⟩
theorem sU {K:Nat→Nat} {a:Nat}:∀{l:List Nat},dP K (a::l)↔(∀b,l.head? = some b→¬swp K a b)∧dP K l
 | []=>by simp [dP]
 | b::l=>by simp [dP]
theorem Py {K:Nat→Nat} {c x:Nat}:∀{l:List Nat},(jN K c l).head? = some x→x=c∨l.head? = some x
 | [],h=>.inl (by simpa [jN] using h.symm)
 | d::l,h=>by
   unfold jN at h
   split at h
   ·right;simpa using h
   ·left;simpa using h.symm
theorem zX {K:Nat→Nat} {c:Nat}:∀{l:List Nat},dP K l→dP K (jN K c l)
 | [],_=>by simp [jN,dP]
 | d::l,h=>by
   unfold jN
   split
   ·rename_i hd;rw [sU] at h ⊢;refine ⟨fun b hb hs=>?_,zX h.2⟩;rcases Py hb with rfl|hb
    ·unfold swp at hs;omega
    ·exact h.1 b hb hs
   ·rename_i hd;exact ⟨hd,h⟩
theorem zY (K:Nat→Nat):∀l:List Nat,dP K (fZ K l)
 | []=>trivial
 | _::l=>zX (zY K l)
theorem lX {K:Nat→Nat}:∀{a b:List Nat},dP K (a++b)→dP K a∧dP K b
 | [],_,h=>⟨trivial,h⟩
 | x::a,b,h=>by
   rw [List.cons_append,sU] at h;have ih:=lX h.2;refine ⟨sU.2 ⟨fun y hy=>h.1 y ?_,ih.1⟩,ih.2⟩;cases a with
   | nil=>cases hy
   | cons z a=>exact hy
theorem zZ {K:Nat→Nat}:∀{L:List (List Nat)},dP K L.flatten→∀u∈L,dP K u
 | [],_,_,hu=>by cases hu
 | v::L,h,u,hu=>by
   rw [List.flatten_cons] at h;have:=lX h;rcases List.mem_cons.1 hu with rfl|hu
   ·exact this.1
   ·exact zZ this.2 u hu
theorem wu {F:Nat→List Nat}:∀{l:List Nat},(∀x∈l,F x=[x])→l.flatMap F=l
 | [],_=>rfl
 | a::l,h=>by
   rw [List.flatMap_cons,h a (.head _),wu fun x hx=>h x (.tail _ hx)];rfl
structure gK (T:List aH) (l:List Nat):Prop where
 leaf:∀x∈l,aC T x=[x]
 ord:dP (ai T) l
theorem gK.self {T:List aH} {l:List Nat} (h:gK T l):nP T l=l:=by
 unfold nP;rw [wu h.leaf,nN _ h.ord]
theorem gK.flat {T:List aH} {l:List Nat} (h:gK T l):l.flatMap (aC T)=l:=wu h.leaf
theorem gK.of {T:List aH} {X:List Nat} (hV:aY T X) (l:List Nat):gK T (nP T l):=by
 refine ⟨fun x hx=>?_,zY _ _⟩;obtain ⟨y,_,hy⟩:=List.mem_flatMap.1 ((Io _).1 hx);exact Om hV hy
theorem gK.left {T:List aH} {a b:List Nat} (h:gK T (a++b)):gK T a:=⟨fun x hx=>h.leaf x (List.mem_append_left _ hx),(lX h.ord).1⟩
theorem gK.right {T:List aH} {a b:List Nat} (h:gK T (a++b)):gK T b:=⟨fun x hx=>h.leaf x (List.mem_append_right _ hx),(lX h.ord).2⟩
end Go.Proofs.YtmpkfkoficehpaaGreatDoor
