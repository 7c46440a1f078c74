/- CedillaProducts: where a text may be cut apart, it has as many texts that are alike as its two parts multiplied; no condition. -/
import Derived.Test.YtmpkfkoficehpaaGreatDoorQ22
set_option maxRecDepth 100000
set_option maxHeartbeats 6400000
namespace Go.Proofs.YtmpkfkoficehpaaGreatDoor
open Go.RowKit Go.Cd
theorem SH {w:World} {PB pp g mp:Nat} {xs:List Nat} (hp:jP w PB pp g mp xs) (h0:0<xs.length) (h9:xs.length≤16384) :
 Calls Tryz.prog 23 #[.pointer (some ⟨pp,0,none⟩)] w fun e w'=>∃r,e=.returned r∧bO w' r (xs.getD 0 0)∧Below w.heap.size w w':=by
 obtain ⟨ua,un,uc,hcu,hnu⟩:=hp.at_ h0;rw [show xs.getD 0 0=xs[0] by rw [List.getD_eq_getElem?_getD,List.getElem?_eq_getElem h0];rfl];obtain ⟨x,hx⟩:=ae (xs[0]);rw [←hx] at hnu ⊢;obtain ⟨nx,hnx⟩:=ae xs.length;have hIs:=hp.is;rw [←hnx] at hIs h0 h9;have hb0:=af (w:=w) (.cells #[.slice none 0 0] dO);have k1:=Is.new w #[.slice none 0 0] dO;have p1:=(hIs.mono hb0).at 1 rfl;have c0:=aA hb0 hcu;have f0:=k1.at 0 rfl;have q0:=k1.frozen 0;have g0:=(Is.new w #[.slice ua un uc] dO).at 0 rfl;have hN:=aa (hnu.mono (af (w:=w) (.cells #[.slice ua un uc] dO)));have hfin:=aa (af (w:=w) (.cells #[.slice ua un uc] dO));clear hp hx hnx hnu hcu k1 hIs;go_enter Tryz.func23,Tryz.ntmps23;go_wp2_with fail;exact bodyPost_ret (v:=.agg #[.slice ua un uc]) (by simp [results,Tryz.results23,go_sem,g0]) rfl ⟨_,rfl,hN.out,hfin.out⟩
def M8 (w:World) (v:Value) (dp:Nat) (K:Nat→Nat) (us:List (List Nat)):Prop:=
 ∃a c,v=.slice a us.length c∧∀k (hk:k<us.length),∃b off mp MB,a=some ⟨b,off,none⟩∧w.cell? ⟨b,off+k,none⟩=some (.pointer (some ⟨mp,0,none⟩))∧eO w MB mp dp K us[k]
def tQ:Nat:=20002
theorem Dc {K:Nat→Nat} {l:List Nat} (hl:l.length<9000):eB (bu K l)≤Go.Cd.B ^ tQ:=by
 obtain ⟨Rs,hRs⟩:∃Rs:List bX,Rs.map bX.sp=bu K l:=⟨(bu K l).map fun r=>(r.1,.slice none 0 0,r.2.map fun x=>(x.1,.slice none 0 0,x.2)),by
  rw [List.map_map]
  conv=>rhs;rw [←List.map_id (bu K l)]
  refine List.map_congr_left fun r _=>?_
  simp [bX.sp,dU.sp,Function.comp_def]⟩
 have h1:=zM.of (Rs:=Rs) (hRs▸eZ K l) hl;have h2:_≤tQ:=EE h1 (j:=Rs.length) (Nat.le_refl _);rw [List.take_length,EI,hRs,cZ bF] at h2;exact Nat.le_of_lt h2
def dA (K:Nat→Nat) (us:List (List Nat)):Nat:=(us.map fun u=>eB (bu K u)).sum
theorem z_ {K:Nat→Nat} {us:List (List Nat)} {j:Nat} (hj:j<us.length):dA K (us.take (j+1))=dA K (us.take j)+eB (bu K us[j]):=by
 unfold dA;rw [List.take_succ_eq_append_getElem hj,List.map_append,List.sum_append];simp
theorem Aa {K:Nat→Nat} {us:List (List Nat)} (h:∀u∈us,u.length<9000) (hl:us.length≤1000000) (j:Nat):(bR Go.Cd.B (dA K (us.take j))).length≤20003:=by
 refine lW (n:=tQ) (Nat.le_trans (ER _ (Go.Cd.B ^ tQ) (us.take j) fun u hu=>Dc (h u (List.mem_of_mem_take hu))) (Nat.mul_le_mul_right _ ?_));rw [List.length_take];omega
theorem De {w:World} {v:Value} {dp:Nat} {K:Nat→Nat} {us:List (List Nat)} (h:M8 w v dp K us) (hu:∀u∈us,u.length<9000) (hl:us.length≤10000) :
 Calls Tryz.prog 26 #[v] w fun e w'=>∃r,e=.returned r∧bO w' r (dA K us)∧Below w.heap.size w w':=by
 obtain ⟨a,c,rfl,hk⟩:=h;obtain ⟨n,hn⟩:=ae us.length;rw [←hn] at hl ⊢;have HN:=aa hn;have HK:=aa hk;have HB:=aa (fun j=>Aa (K:=K) hu (by omega) j);have HU:=aa (fun u h=>(show (bR Go.Cd.B (eB (bu K u))).length≤20003 from aab (n:=tQ) (Dc (hu u h))));obtain ⟨w0,hw0⟩:=ae ((w.alloc (.cells #[.slice none 0 0] dO)).alloc (.cells #[.slice none 0 0] dO));have hb0:Below w.heap.size w w0:=by rw [hw0];exact ed _ _
 have k0:Is w0 w.heap.size #[.slice none 0 0] dO:=by rw [hw0];exact (Is.new _ _ _).mono (af _)
 have k1:Is w0 (w.heap.size+1) #[.slice none 0 0] dO:=by rw [hw0];exact Is.new' _ _ _ _ (by simp)
 have hN0:bO w0 (.agg #[.slice none 0 0]) 0:=⟨_,rfl,by rw [dz];exact .nil _ _ _ _ (fun _=>rfl)⟩;clear hn hk hu;go_enter Tryz.func26,Tryz.ntmps26;go_wp2_with fail;rw [←hw0];clear hw0;have hs0:=hb0.size;go_loopw [5,8] (fun _ jv wr=>∃j:Nat,j≤n∧jv=.int .i64 j∧(∃qa qn qc,Is wr (w.heap.size+1) #[.slice qa qn qc] dO∧bO wr (.agg #[.slice qa qn qc]) (dA K (us.take j)))∧Is wr w.heap.size #[.slice none 0 0] dO∧Below w.heap.size w wr) (fun _ jv _=>n-(intOf jv).toNat)
 case atStart=>exact ⟨0,Nat.zero_le _,rfl,⟨_,_,_,k1,hN0⟩,k0,hb0⟩
 case round=>
  obtain ⟨j,hj,rfl,⟨qa,qn,qc,jA,Pq⟩,j0,hE⟩:=hrel;have Bf:=hE.size;by_cases hjn:j<n
  ·have zj:decide ((j:Int)<(n:Int))=true:=decide_eq_true (by omega);have hjl:j<us.length:=by have:=HN.out;omega
   obtain ⟨b,off,mp,MB,rfl,c0,hM⟩:=HK.out j hjl;have c0:=aA hE c0;have hM:=hM.mono hE;have hct:=z_ (K:=K) hjl;have hd1:=HB.out j;have hd2:=HU.out _ (List.getElem_mem hjl);obtain ⟨u,hu⟩:=ae (us[j]);rw [←hu] at hM hct hd2;obtain ⟨S,hS⟩:=ae (dA K (us.take j));rw [←hS] at Pq hct hd1;have SZ:=aa (CS (hM.mono (ag wr)));have HCT:=aa hct;have e0:=Gr.cell (ag wr) (jA.at 0 rfl);clear hM hct hu hS;go_wp2_with fail;refine aF #[true,true,true,true,false] 4 1 mixed (by rfl) ?_;refine ay [0,1] 2 rfl (by kernel_rfl) ?_
   iterate 2 (refine aB rfl ?_;go_big_quiet_step (rfl))
   refine az ?_;refine aI 2 (by kernel_rfl) rfl ?_;go_wp2_with fail;refine SZ.out.mono ?_;rintro e w7 ⟨r7,rfl,Lx,j4⟩;have Y7:=(ag wr).trans j4;go_wp2_with fail;refine aD j4 ?_;refine aI 3 (by kernel_rfl) rfl ?_;go_wp2_with fail;refine (Ex (Pq.mono Y7) Lx (by omega) (by omega)).mono ?_;rintro e w8 ⟨r8,rfl,LC,iZ⟩;obtain ⟨ua,un,uc,rfl,LC⟩:=LC.out;have h68:=Y7.trans (iZ.mono Y7.size);go_wp2_with fail;refine aD iZ ?_;have SE:=jA.mono h68;have f0:=SE.at 0 rfl;have q0:=SE.frozen 0;have jA9:=aa (SE.set 0 (.slice ua un uc));have hN9:=aa (bO.iD LC (bD.put (o:=0) SE (.slice ua un uc)) (by decide));have j09:=aa ((j0.mono h68).put (show w.heap.size≠w.heap.size+1 by omega) (o:=0) (.slice ua un uc));have xK:=aa (aj (off:=0) (u:=.slice ua un uc) (b:=w.heap.size+1) (hE.trans (h68.mono Bf)) (by omega));clear SE LC Lx Pq jA j0 e0 j4 iZ;refine aJ [4] (by kernel_rfl) ?_;refine tail_cons rfl ?_;go_wp2_with fail;refine tail_nil ?_;go_wp2_with fail;go_roundw
   case rel=>exact ⟨j+1,by omega,by simp,⟨_,_,_,jA9.out,by rw [HCT.out];exact hN9.out⟩,j09.out,xK.out⟩
   case measure=>simp [intOf];omega
  ·have zj:decide ((j:Int)<(n:Int))=false:=decide_eq_false (by omega);obtain rfl:j=n:=by omega
   have ht:us.take j=us:=List.take_of_length_le (by rw [←HN.out];exact Nat.le_refl _);rw [ht] at Pq;have jA0:=jA.at 0 rfl;have f0:=j0.at 0 rfl;have q0:=j0.frozen 0;have v0:=j0.set 0 (.slice qa qn qc);have g0:=v0.at 0 rfl;have hN:=aa (bO.iD Pq (bD.put (o:=0) j0 (.slice qa qn qc)) (by decide));have hfin:=aa (aj (off:=0) (u:=.slice qa qn qc) (b:=w.heap.size) hE (Nat.le_refl _));clear j0 v0 Pq ht;go_wp2_with fail;exact bodyPost_ret (v:=.agg #[.slice qa qn qc]) (by simp [results,Tryz.results26,go_sem,g0]) rfl ⟨_,rfl,hN.out,hfin.out⟩
abbrev V4:TypeId:=108
theorem V5:Elem Tryz.prog 63 V4 (.pointer none) 8:=⟨rfl,Tryz.underlying63,info_parts (by kernel_rfl)⟩
theorem eO.iD {w w':World} {t:TypeId} {MB p dp:Nat} {K:Nat→Nat} {l:List Nat} (h:eO w MB p dp K l) (c:bD w w' t) (h1:151≠t) (h2:d_≠t) (h3:eH≠t) (h4:aM≠t) (h5:bq≠t) (h6:l5≠t):eO w' MB p dp K l:=by
 obtain ⟨N,rs,iC,Es,e1,h,e3⟩:=h;exact ⟨N,rs,iC,Es,e1,⟨c.is h.is h1,c.own h.runs h2,fun e he=>(h.xL e he).keep (.fD c h3 N h.hi.2) (.fD c h4 N h.hi.2),h.low,⟨h.hi.1,Nat.le_trans h.hi.2 c.size⟩,fun k hk hi=>⟨(h.Vx k hk hi).1.iD c h5,(h.Vx k hk hi).2⟩⟩,bO.iD e3 c h6⟩
def Jj (p:Nat):Value:=.pointer (some ⟨p,0,none⟩)
theorem Ab {w:World} (hG:ek w) (h0:0<w.heap.size) {dp:Nat} {T:List aH} {X:List Nat} (hD:b_ w dp T X) (hV:aY T X) (qG:T.length<1000) (l:List Nat) (hn:gK T l) (hc:∀c∈l,aP c) (hlen:l.length<400) :
 Calls Tryz.prog 25 #[.pointer (some ⟨dp,0,none⟩),.string (tx (dH l))] w fun e w'=>∃v,e=.returned (.tuple #[v,.int .i64 0])∧M8 w' v dp (ai T) (aO (gz T) l)∧Below w.heap.size w w':=by
 have NF:=aa (RD hG h0 hD hV qG l hc (by rw [hn.flat];omega));rw [hn.self] at NF;have DC:=aa (fun (W:World) (E:Below w.heap.size w W)=>tO (hG.mono E).heads l hc (by omega));have hul:=jf (ap:=gz T) l [];have xU:(aO (gz T) l).length≤l.length:=by simpa [aO] using hul
 have TN:=aa (fun (W:World) (E:Below w.heap.size w W) (v:Value) (u:List Nat) (hu:u∈aO (gz T) l) (hv:bB W v (aN u))=>Sd (hD.mono E) hV u hv (fun c h=>(hc c (Db hu c h)).1) (zZ (by rw [fT];exact hn.ord) u hu) (by
  have h1:u.length≤(aO (gz T) l).flatten.length:=List.Sublist.length_le (List.sublist_flatten_of_mem hu);rw [fT] at h1
  omega))
 obtain ⟨us,tN⟩:=ae (aO (gz T) l);simp only [←tN] at TN xU ⊢;have SU:∀(W:World),Below w.heap.size w W→∀(v:Value),bB W v (aN l)→Calls Tryz.prog 49 #[.pointer (some ⟨dp,0,none⟩),v] W fun e w'=>∃r vals,e=.returned r∧w'.ownsRow W.heap.size XE 1 r us.length vals∧vals.length=us.length∧(∀k (hk:k<us.length),∃u,vals[k]? = some u∧w'.ownsRow W.heap.size aM 1 u (us[k]).length (aN us[k]))∧Below W.heap.size W w':=fun W E v hv=>by
  subst tN;exact Ji (hD.mono E) hV qG l hv hc (by omega)
 have SU:=aa SU;obtain ⟨s,hs⟩:=ae (tx (dH l));rw [←hs] at NF DC ⊢;clear hG h0 hD hn hc hul tN hs;go_enter Tryz.func25,Tryz.ntmps25;go_wp2_with fail;refine NF.out.mono ?_;rintro e w1 ⟨rfl,hb1⟩;have hs1:=hb1.size;go_wp2_with fail;refine (DC.out w1 hb1).mono ?_;rintro e w2 ⟨r2,rfl,o2,hb2⟩;have hB2:=hb1.trans (hb2.mono hs1);have hs2:=hB2.size;have hsl2:=(Sl.aW (by rw [←bA] at o2;exact o2)).any;obtain ⟨a2,c2,rfl,_,_⟩:=ak o2;go_wp2_with fail;refine (SU.out w2 hB2 _ hsl2).mono ?_;rintro e w3 ⟨r3,vals,rfl,o3,hvl,hvk,hb3⟩;have hB3:=hB2.trans (hb3.mono hs2);have hs3:=hB3.size;obtain ⟨n,hn⟩:=ae us.length;rw [←hn] at o3 hvl;obtain ⟨a3,c3,rfl,_,_⟩:=ak o3;have HN:=aa hn;have HVK:=aa hvk;have HVL:=aa hvl;have O3:=aa o3;have qO:n<400:=by omega
 clear NF DC SU hn hvl hvk o2 hsl2 hb1 hb2 hb3 hB2 o3;go_wp2_with fail;go_loopw [10,12,31] (fun o _ jv wr=>∃j:Nat,j≤n∧jv=.int .i64 j∧(∃ps:List Nat,ps.length=j∧wr.ownsRow w3.heap.size V4 1 o j (ps.map Jj)∧∀k (hk:k<ps.length) (hk':k<us.length),∃MB,eO wr MB ps[k] dp (ai T) us[k])∧Below w3.heap.size w3 wr) (fun _ _ jv _=>n-(intOf jv).toNat)
 case atStart=>exact ⟨0,Nat.zero_le _,rfl,⟨[],rfl,World.ownsRow_nil _ _ _ _,fun k hk=>absurd hk (by simp)⟩,Below.refl _ _⟩
 case round=>
  obtain ⟨j,hj,rfl,⟨ps,hpl,hrow,hms⟩,hE⟩:=hrel;have iM:=hB3.trans (hE.mono hs3);have Bf:=iM.size;have Y4:=hE.size;by_cases hjn:j<n
  ·have zj:decide ((j:Int)<(n:Int))=true:=decide_eq_true (by omega);have hjl:j<us.length:=by have:=HN.out;omega
   obtain ⟨b,cap,he,_,_,_,_,hcells⟩:=dw O3.out (show 0<n by omega);injection he with he1 _ he2;subst he1 he2;obtain ⟨x,hx,hxo⟩:=HVK.out j hjl;have c0:=aA hE (hcells j x hx);have hxo:=aG hxo hE;obtain ⟨ax,cx,rfl,_,_⟩:=ak hxo;have hsx:bB wr (.slice ax us[j].length cx) (aN us[j]):=(Sl.aW hxo).any;have TNj:=aa (TN.out wr iM _ us[j] (List.getElem_mem hjl) hsx);obtain ⟨lx,hlx⟩:=ae (us[j].length);rw [←hlx] at c0 TNj;have V6:=aa hms;clear hcells hx hxo hsx hlx hms;go_wp2_with fail;refine TNj.out.mono ?_;rintro e w7 ⟨mp,rfl,hM,j4⟩;have VP:=aG hrow j4;have sD:=hE.trans (j4.mono Y4);have HM:=aa hM;clear hM
   go_wp2_with (
    at_builtin
    refine gF rfl _ _ 63 rfl w3.heap.size V4 _ 8 V5 _ j _ rfl VP (Jj mp) rfl rfl (by omega) (by unfold maxLen;omega) w3 sD (Nat.le_refl _) ?_
    intro v8 w8 o8 jW VQ Lr)
   go_roundw
   case rel=>
    have hba:=af (w:=w7) (.cells #[Jj mp] V4);have ch:=bD.bK VQ Lr;refine ⟨j+1,by omega,by simp,⟨ps++[mp],by simp [hpl],by rw [List.map_append];exact o8,fun k hk hk'=>?_⟩,jW⟩;by_cases hkj:k<ps.length
    ·obtain ⟨MB,h⟩:=V6.out k hkj hk';rw [List.getElem_append_left hkj];exact ⟨MB,(((h.mono j4).mono hba).iD ch (by decide) (by decide) (by decide) (by decide) (by decide) (by decide))⟩
    ·obtain rfl:k=j:=by rw [List.length_append] at hk;simp at hk;omega
     refine ⟨wr.heap.size,?_⟩;have:(ps++[mp])[k]=mp:=by rw [List.getElem_append_right (by omega)];simp
     rw [this];exact ((HM.out.mono hba).iD ch (by decide) (by decide) (by decide) (by decide) (by decide) (by decide))
   case measure=>simp [intOf];omega
  ·have zj:decide ((j:Int)<(n:Int))=false:=decide_eq_false (by omega);obtain rfl:j=n:=by omega
   obtain ⟨oa,oc,rfl,_,_⟩:=ak hrow;have HR:=aa hrow;have V6:=aa hms;clear hrow hms;go_wp2;go_ret2;refine ⟨_,rfl,⟨oa,oc,by rw [HN.out];rfl,fun k hk=>?_⟩,iM⟩;obtain ⟨b,cap,he,_,_,_,_,hcells⟩:=dw HR.out (show 0<j by have:=HN.out;omega);injection he with he1 _ he2;subst he1;have hkp:k<ps.length:=by have:=HN.out;omega
   obtain ⟨MB,h⟩:=V6.out k hkp hk;refine ⟨b,0,ps[k],MB,rfl,?_,h⟩;rw [Nat.zero_add];exact hcells k (Jj ps[k]) (by rw [List.getElem?_map,List.getElem?_eq_getElem hkp];rfl)
theorem Jk {w:World} (hG:ek w) {dp:Nat} {T:List aH} {X:List Nat} (hD:b_ w dp T X) (hV:aY T X) (qG:T.length<1000) (l:List Nat) (hn:gK T l) (hc:∀c∈l,aP c) (hlen:l.length<400) :
 Calls Tryz.prog 9 #[.pointer (some ⟨dp,0,none⟩),.string (tx (dH l))] w fun e w'=>∃r,e=.returned (.tuple #[r,.int .i64 0])∧bO w' r (dA (ai T) (aO (gz T) l))∧Below w.heap.size w w':=by
 have hb0:=af (w:=w) (.cells #[.slice none 0 0] dO);have UN:=aa (Ab (hG.mono hb0) (by simp) (hD.mono hb0) hV qG l hn hc hlen);have xU:(aO (gz T) l).length≤l.length:=by simpa [aO] using jf (ap:=gz T) l []
 have SI:∀u∈aO (gz T) l,u.length<9000:=fun u hu=>by
  have h1:u.length≤(aO (gz T) l).flatten.length:=List.Sublist.length_le (List.sublist_flatten_of_mem hu);rw [fT] at h1;omega
 have CO:=aa (fun (W:World) (v:Value) (hv:M8 W v dp (ai T) (aO (gz T) l))=>De hv SI (by omega));obtain ⟨us,tN⟩:=ae (aO (gz T) l);simp only [←tN] at UN CO ⊢;obtain ⟨s,hs⟩:=ae (tx (dH l));rw [←hs] at UN ⊢;have k0:=Is.new w #[.slice none 0 0] dO;clear hG hD hn hc xU SI tN hs;go_enter Tryz.func9,Tryz.ntmps9;go_wp2_with fail;refine UN.out.mono ?_;rintro e w1 ⟨v1,rfl,hM,hb1⟩;have hs1:=hb1.size;obtain ⟨a1,c1,rfl,_⟩:=id hM;have HM:=aa hM;have hB1:=hb0.trans (hb1.mono hb0.size);have k0:=k0.mono hb1;clear hM UN;go_wp2_with fail;refine (CO.out w1 _ HM.out).mono ?_;rintro e w2 ⟨r2,rfl,hN,hb2⟩;obtain ⟨ua,un,uc,rfl,hN⟩:=hN.out;have k0:=k0.mono hb2;have f0:=k0.at 0 rfl;have q0:=k0.frozen 0;have v0:=k0.set 0 (.slice ua un uc);have g0:=v0.at 0 rfl;have X_:=aa (bO.iD hN (bD.put (o:=0) k0 (.slice ua un uc)) (by decide));have hfin:=aa (aj (off:=0) (u:=.slice ua un uc) (b:=w.heap.size) (hB1.trans (hb2.mono hB1.size)) (Nat.le_refl _));clear hN k0 v0;go_wp2_with fail;exact bodyPost_ret (v:=.tuple #[.agg #[.slice ua un uc],.int .i64 0]) (by simp [results,Tryz.results9,go_sem,g0]) rfl ⟨_,rfl,X_.out,hfin.out⟩
abbrev V8:TypeId:=60
theorem V9:Elem Tryz.prog 56 V8 (.pointer none) 8:=⟨rfl,Tryz.underlying56,info_parts (by kernel_rfl)⟩
theorem jP.acv {w w':World} {t:TypeId} {PB pp g mp:Nat} {xs:List Nat} (h:jP w PB pp g mp xs) (c:bD w w' t) (h1:MX≠t) (h2:dO≠t) (h3:l5≠t):jP w' PB pp g mp xs:=by
 obtain ⟨e1,vals,e2,e3⟩:=h;refine ⟨c.is e1 h1,vals,c.own e2 h2,fun k hk=>?_⟩;obtain ⟨a,n,c',h4,h5⟩:=e3 k hk;exact ⟨a,n,c',h4,bO.iD h5 c h3⟩
def agy (w:World) (v:Value) (T:List aH) (us:List (List Nat)):Prop:=
 ∃a c,v=.slice a us.length c∧∀k (hk:k<us.length),∃b off pp g mp PB,a=some ⟨b,off,none⟩∧w.cell? ⟨b,off+k,none⟩=some (.pointer (some ⟨pp,0,none⟩))∧jP w PB pp g mp (p_ T us[k])
theorem Ac:∀{l:List Nat} {x:Nat},x∈l→x≤l.sum
 | y::l,x,h=>by
   rw [List.sum_cons];rcases List.mem_cons.1 h with rfl|h
   ·omega
   ·have:=Ac h;omega
theorem Df {K:Nat→Nat} {us:List (List Nat)} {u:List Nat} (h:u∈us):eB (bu K u)≤dA K us:=by
 unfold dA;exact Ac (List.mem_map.2 ⟨u,h,rfl⟩)
theorem LH {w:World} (hG:ek w) (h0:0<w.heap.size) {dp:Nat} {T:List aH} {X:List Nat} (hD:b_ w dp T X) (hV:aY T X) (qG:T.length<1000) (l:List Nat) (hn:gK T l) (hc:∀c∈l,aP c) (hlen:l.length<400) :
 Calls Tryz.prog 22 #[.pointer (some ⟨dp,0,none⟩),.string (tx (dH l)),.int .i64 16384] w fun e w'=>Below w.heap.size w w'∧
  (dA (ai T) (aO (gz T) l)≤16384→∃v,e=.returned (.tuple #[v,.int .i64 0])∧agy w' v T (aO (gz T) l))∧(¬dA (ai T) (aO (gz T) l)≤16384→e=.returned (.tuple #[.slice none 0 0,.int .i64 9])):=by
 have UN:=aa (Ab hG h0 hD hV qG l hn hc hlen);have xU:(aO (gz T) l).length≤l.length:=by simpa [aO] using jf (ap:=gz T) l []
 have SI:∀u∈aO (gz T) l,u.length<400:=fun u hu=>by
  have h1:u.length≤(aO (gz T) l).flatten.length:=List.Sublist.length_le (List.sublist_flatten_of_mem hu);rw [fT] at h1;omega
 have CO:=aa (fun (W:World) (v:Value) (hv:M8 W v dp (ai T) (aO (gz T) l))=>De hv (fun u hu=>Nat.lt_trans (SI u hu) (by decide)) (by omega));have NW:=aa (fun (W:World) (E:Below w.heap.size w W) (mp MB:Nat) (u:List Nat) (hu:u∈aO (gz T) l) (hM:eO W MB mp dp (ai T) u) (hs:eB (bu (ai T) u)≤16384)=>SF (hD.mono E) hV qG hM (SI u hu) (fun c h=>hc c (Db hu c h)) hs);have hdg:(bR Go.Cd.B (dA (ai T) (aO (gz T) l))).length≤20003:=by
  have:=Aa (K:=ai T) (us:=aO (gz T) l) (fun u hu=>Nat.lt_trans (SI u hu) (by decide)) (by omega) (aO (gz T) l).length
  rwa [List.take_length] at this
 have hme:∀u∈aO (gz T) l,eB (bu (ai T) u)≤dA (ai T) (aO (gz T) l):=fun u hu=>Df hu;obtain ⟨us,tN⟩:=ae (aO (gz T) l);simp only [←tN] at UN CO NW xU hdg hme ⊢;obtain ⟨s,hs⟩:=ae (tx (dH l));rw [←hs] at UN ⊢;obtain ⟨cst,SK⟩:=ae (dA (ai T) us);simp only [←SK] at CO hdg hme ⊢;have HME:=aa hme;clear hG h0 hD hn hc SI tN hs SK hme;go_enter Tryz.func22,Tryz.ntmps22;go_wp2_with fail;refine UN.out.mono ?_;rintro e w1 ⟨v1,rfl,hM,hb1⟩;have hs1:=hb1.size;obtain ⟨a1,c1,rfl,hMk⟩:=id hM;obtain ⟨n,hn⟩:=ae us.length;rw [←hn] at hM xU ⊢;have HM:=aa hM;have HMK:=aa hMk;have HN:=aa hn;clear hM hMk hn UN;go_wp2_with fail;refine (CO.out w1 _ HM.out).mono ?_;rintro e w2 ⟨r2,rfl,hN,hb2⟩;obtain ⟨ua,un,uc,rfl,hN⟩:=hN.out;have hB2:=hb1.trans (hb2.mono hs1);have hs2:=hB2.size;go_wp2_with fail;refine (CR 16384 (by decide) w2).mono ?_;rintro e w3 ⟨r3,rfl,hN3,hb3⟩;have CM:=aa (zJ (hN.mono hb3) hN3 (by omega) (Nat.lt_of_le_of_lt (lW (n:=0) (by decide)) (by decide)));obtain ⟨ub,um,ud,rfl,_⟩:=hN3.out;have hB3:=hB2.trans (hb3.mono hs2);have hs3:=hB3.size;have h13:=hb2.trans (hb3.mono hb2.size);clear hN hN3 CO;go_wp2_with fail;refine CM.out.mono ?_;rintro e w4 ⟨rfl,hb4⟩;have hB4:=hB3.trans (hb4.mono hs3);have hs4:=hB4.size;have ZP:=h13.trans (hb4.mono h13.size);clear CM;by_cases hle:cst≤16384
 ·have zc:decide ((0:Int)<u_ cst 16384)=false:=by
   refine decide_eq_false ?_;unfold u_;rcases Nat.lt_or_ge cst 16384 with h|h
   ·rw [if_pos h];decide
   ·rw [if_neg (by omega),if_neg (by omega)];decide
  go_wp2_with fail;go_loopw [10,12,13,14,39] (fun o _ _ _ jv wr=>∃j:Nat,j≤n∧jv=.int .i64 j∧(∃ps:List Nat,ps.length=j∧wr.ownsRow w4.heap.size V8 1 o j (ps.map Jj)∧∀k (hk:k<ps.length) (hk':k<us.length),∃g mp PB,jP wr PB ps[k] g mp (p_ T us[k]))∧Below w4.heap.size w4 wr) (fun _ _ _ _ jv _=>n-(intOf jv).toNat)
  case atStart=>exact ⟨0,Nat.zero_le _,rfl,⟨[],rfl,World.ownsRow_nil _ _ _ _,fun k hk=>absurd hk (by simp)⟩,Below.refl _ _⟩
  case round=>
   obtain ⟨j,hj,rfl,⟨ps,hpl,hrow,hms⟩,hE⟩:=hrel;have iM:=hB4.trans (hE.mono hs4);have Bf:=iM.size;have agA:=hE.size;by_cases hjn:j<n
   ·have zj:decide ((j:Int)<(n:Int))=true:=decide_eq_true (by omega);have hjl:j<us.length:=by have:=HN.out;omega
    have hE1:=ZP.trans (hE.mono ZP.size);obtain ⟨b,off,mp,MB,rfl,c0,hM⟩:=HMK.out j hjl;have c0:=aA hE1 c0;have NWj:=aa (NW.out wr iM mp MB us[j] (List.getElem_mem hjl) (hM.mono hE1) (Nat.le_trans (HME.out _ (List.getElem_mem hjl)) hle));have V6:=aa hms;clear hM hms;go_wp2_with fail;refine NWj.out.mono ?_;rintro e w7 ⟨pp,g,rfl,hP,j4⟩;have VP:=aG hrow j4;have sD:=hE.trans (j4.mono agA);have HP:=aa hP;clear hP
    go_wp2_with (
     at_builtin
     refine gF rfl _ _ 56 rfl w4.heap.size V8 _ 8 V9 _ j _ rfl VP (Jj pp) rfl rfl (by omega) (by unfold maxLen;omega) w4 sD (Nat.le_refl _) ?_
     intro v8 w8 o8 jW VQ Lr)
    go_roundw
    case rel=>
     have hba:=af (w:=w7) (.cells #[Jj pp] V8);have ch:=bD.bK VQ Lr;refine ⟨j+1,by omega,by simp,⟨ps++[pp],by simp [hpl],by rw [List.map_append];exact o8,fun k hk hk'=>?_⟩,jW⟩;by_cases hkj:k<ps.length
     ·obtain ⟨g',mp',PB,h⟩:=V6.out k hkj hk';rw [List.getElem_append_left hkj];exact ⟨g',mp',PB,(((h.mono j4).mono hba).acv ch (by decide) (by decide) (by decide))⟩
     ·obtain rfl:k=j:=by rw [List.length_append] at hk;simp at hk;omega
      refine ⟨g,mp,wr.heap.size,?_⟩;have:(ps++[pp])[k]=pp:=by rw [List.getElem_append_right (by omega)];simp
      rw [this];exact ((HP.out.mono hba).acv ch (by decide) (by decide) (by decide))
    case measure=>simp [intOf];omega
   ·have zj:decide ((j:Int)<(n:Int))=false:=decide_eq_false (by omega);obtain rfl:j=n:=by omega
    obtain ⟨oa,oc,rfl,_,_⟩:=ak hrow;have HR:=aa hrow;have V6:=aa hms;clear hrow hms;go_wp2;go_ret2;refine ⟨iM,fun _=>⟨_,rfl,oa,oc,by rw [HN.out];rfl,fun k hk=>?_⟩,fun h=>absurd hle h⟩;obtain ⟨b,cap,he,_,_,_,_,hcells⟩:=dw HR.out (show 0<j by have:=HN.out;omega);injection he with he1 _ he2;subst he1;have hkp:k<ps.length:=by have:=HN.out;omega
    obtain ⟨g,mp,PB,h⟩:=V6.out k hkp hk;refine ⟨b,0,ps[k],g,mp,PB,rfl,?_,h⟩;rw [Nat.zero_add];exact hcells k (Jj ps[k]) (by rw [List.getElem?_map,List.getElem?_eq_getElem hkp];rfl)
 ·have zc:decide ((0:Int)<u_ cst 16384)=true:=by rw [BA (by omega)];rfl
  go_wp2_with fail;go_ret2;exact ⟨hB4,fun h=>absurd h hle,fun _=>rfl⟩
def Ad (T:List aH) (us:List (List Nat)):Nat:=eu (us.map fun u=>(p_ T u).getD 0 0)
theorem E9 (a b:List Nat):eu (a++b)=eu a * eu b:=by
 have:∀(l:List Nat) (x:Nat),l.foldl (·*·) x=x*l.foldl (·*·) 1:=fun l=>by
  induction l with
  | nil=>intro x;simp
  | cons y l ih=>
    intro x;rw [List.foldl_cons,List.foldl_cons,ih (x*y),ih (1*y),Nat.one_mul,Nat.mul_assoc]
 unfold eu;rw [List.foldl_append,this]
theorem Jl (T:List aH) (a b:List (List Nat)):Ad T (a++b)=Ad T a * Ad T b:=by unfold Ad;rw [List.map_append,E9]
theorem uP (K:Nat→Nat) (a b:List (List Nat)):dA K (a++b)=dA K a+dA K b:=by unfold dA;rw [List.map_append,List.sum_append]
theorem M9 {T:List aH} (hT:T.length<1000) {u:List Nat} (hu:u.length<400):(p_ T u).getD 0 0≤Go.Cd.B ^ eB (bu (ai T) u):=by
 have h:=I8 (R:=bu (ai T) u) (opt:=fun s=>cK (sN (ai T) (aC T) (xQ T) (bu (ai T) u) s)) (xP:=iw (ai T) (aC T) (bu (ai T) u)) (M:=Go.Cd.B) (by unfold Go.Cd.B;decide)
  (fun i hi=>Nat.le_trans (zT hT hu (EP hi) _) (by unfold Go.Cd.B;decide)) _ (Nat.le_refl _)
 rw [List.getD_eq_getElem?_getD];cases e:(p_ T u)[0]? with
 | none=>exact Nat.zero_le _
 | some x=>exact h x (List.mem_of_getElem? e)
theorem E_ {T:List aH} (hT:T.length<1000) {us:List (List Nat)} (hu:∀u∈us,u.length<400):∀k,k≤us.length→eu ((us.map fun u=>(p_ T u).getD 0 0).take k)≤Go.Cd.B ^ dA (ai T) (us.take k)
 | 0,_=>by simp [eu,dA]
 | k+1,hk=>by
   have ih:=E_ hT hu k (by omega);have hkl:k<us.length:=by omega
   rw [nU _ k (by simpa using hkl),z_ hkl,Nat.pow_add];refine Nat.mul_le_mul ih ?_;rw [List.getElem_map];exact M9 hT (hu _ (List.getElem_mem hkl))
theorem Bi (K:Nat→Nat) (us:List (List Nat)) (k:Nat):dA K (us.take k)≤dA K us:=by
 conv=>rhs;rw [←List.take_append_drop k us,uP]
 omega
theorem Jm (T:List aH) (u:List Nat):(p_ T u).length=eB (bu (ai T) u):=Pk _ _ _ _ _
theorem V_ (K:Nat→Nat) (u:List Nat):0<eB (bu K u):=by
 have h1:=List.length_pos_iff.2 (eZ K u).1;have h2:=pV (R:=bu K u) (k:=0) h1;have h3:=jH (bu K u) 1;have h4:=MO ((bu K u)[0]'h1);simp only [Nat.zero_add] at h2;omega
theorem We {w:World} (hG:ek w) {dp:Nat} {T:List aH} {X:List Nat} (hD:b_ w dp T X) (hV:aY T X) (qG:T.length<1000) (l:List Nat) (hn:gK T l) (hc:∀c∈l,aP c) (hlen:l.length<400) :
 Calls Tryz.prog 8 #[.pointer (some ⟨dp,0,none⟩),.string (tx (dH l)),.int .i64 16384] w fun e w'=>Below w.heap.size w w'∧
  (dA (ai T) (aO (gz T) l)≤16384→∃r,e=.returned (.tuple #[r,.int .i64 0])∧bO w' r (Ad T (aO (gz T) l)))∧(¬dA (ai T) (aO (gz T) l)≤16384→e=.returned (.tuple #[.agg #[.slice none 0 0],.int .i64 9])):=by
 have hb0:=af (w:=w) (.cells #[.slice none 0 0] dO);have PL:=aa (LH (hG.mono hb0) (by simp) (hD.mono hb0) hV qG l hn hc hlen);have xU:(aO (gz T) l).length≤l.length:=by simpa [aO] using jf (ap:=gz T) l []
 have SI:∀u∈aO (gz T) l,u.length<400:=fun u hu=>by
  have h1:u.length≤(aO (gz T) l).flatten.length:=List.Sublist.length_le (List.sublist_flatten_of_mem hu);rw [fT] at h1;omega
 have hpl:=E_ qG SI;have htl:=fun (u:List Nat) (hu:u∈aO (gz T) l)=>M9 qG (SI u hu);have hct:=Bi (ai T) (aO (gz T) l);have hcm:=fun (u:List Nat) (hu:u∈aO (gz T) l)=>Df (K:=ai T) hu;obtain ⟨us,tN⟩:=ae (aO (gz T) l);simp only [←tN] at PL xU hpl htl hct hcm ⊢;obtain ⟨s,hs⟩:=ae (tx (dH l));rw [←hs] at PL ⊢;obtain ⟨cst,SK⟩:=ae (dA (ai T) us);simp only [←SK] at PL hct hcm ⊢;have HPL:=aa hpl;have HTL:=aa htl;have HCT:=aa hct;have HCM:=aa hcm;have k0:=Is.new w #[.slice none 0 0] dO;clear hG hD hn hc SI tN hs SK hpl htl hct hcm;go_enter Tryz.func8,Tryz.ntmps8;go_wp2_with fail;refine PL.out.mono ?_;rintro e w1 ⟨hb1,Ze,hno⟩;have hB1:=hb0.trans (hb1.mono hb0.size);have hs1:=hB1.size;have k0:=k0.mono hb1;by_cases hle:cst≤16384
 ·obtain ⟨v1,rfl,hPv⟩:=Ze hle;obtain ⟨a1,c1,rfl,hPk⟩:=hPv;obtain ⟨n,hn⟩:=ae us.length;rw [←hn] at xU ⊢;have HN:=aa hn;have HPK:=aa hPk;clear Ze hno PL hn hPk;go_wp2_with fail;go_loopw [10,12,26] (fun o _ jv wr=>∃j:Nat,j≤n∧jv=.int .i64 j∧(∃vals:List Value,wr.ownsRow w1.heap.size dO 1 o j vals∧∀k (hk:k<j) (hk':k<us.length),∃a n c,vals[k]? = some (.slice a n c)∧bO wr (.agg #[.slice a n c]) ((p_ T us[k]).getD 0 0))∧Below w1.heap.size w1 wr) (fun _ _ jv _=>n-(intOf jv).toNat)
  case atStart=>exact ⟨0,Nat.zero_le _,rfl,⟨[],World.ownsRow_nil _ _ _ _,fun k hk=>absurd hk (by omega)⟩,Below.refl _ _⟩
  case round=>
   obtain ⟨j,hj,rfl,⟨vals,hrow,hms⟩,hE⟩:=hrel;have iM:=hB1.trans (hE.mono hs1);have Bf:=iM.size;have agB:=hE.size;by_cases hjn:j<n
   ·have zj:decide ((j:Int)<(n:Int))=true:=decide_eq_true (by omega);have hjl:j<us.length:=by have:=HN.out;omega
    obtain ⟨b,off,pp,g,mp,PB,rfl,c0,hP⟩:=HPK.out j hjl;have c0:=aA hE c0;have hum:=List.getElem_mem hjl;have hsu:eB (bu (ai T) us[j])≤16384:=Nat.le_trans (HCM.out _ hum) hle;have AL:=aa (SH (hP.mono hE) (by rw [Jm];exact V_ _ _) (by rw [Jm];exact hsu));have V6:=aa hms;have hvl:vals.length=j:=by have:=hrow.1;omega
    obtain ⟨x,hx⟩:=ae ((p_ T us[j]).getD 0 0);rw [←hx] at AL;have HX:=aa hx;clear hP hms hx;go_wp2_with fail;refine AL.out.mono ?_;rintro e w7 ⟨r7,rfl,Lx,j4⟩;obtain ⟨ua,un,uc,rfl,Lx⟩:=Lx.out;have VP:=aG hrow j4;have sD:=hE.trans (j4.mono agB);have HN7:=aa Lx;clear Lx
    go_wp2_with (
     at_builtin
     refine n_ rfl _ _ 59 rfl w1.heap.size dO (.agg #[.slice none 0 0]) 1 24 XC (by decide) (by decide) (by decide) (by decide) _ j _ rfl VP #[.slice ua un uc] rfl rfl (by simp [Value.oneCell']) (by omega) w1 sD (Nat.le_refl _) ?_
     intro v8 w8 o8 jW Lr hn8)
    go_roundw
    case rel=>
     have ch:=bD.bK VP Lr;refine ⟨j+1,by omega,by simp,⟨vals++[.slice ua un uc],o8,fun k hk hk'=>?_⟩,jW⟩;by_cases hkj:k<j
     ·obtain ⟨a,n',c,h1,h2⟩:=V6.out k hkj hk';exact ⟨a,n',c,by rw [List.getElem?_append_left (by omega)];exact h1,bO.iD (h2.mono j4) ch (by decide)⟩
     ·obtain rfl:k=j:=by omega
      refine ⟨ua,un,uc,by rw [List.getElem?_append_right (by omega),hvl,Nat.sub_self];rfl,?_⟩;rw [←HX.out];exact bO.iD HN7.out ch (by decide)
    case measure=>simp [intOf];omega
   ·have zj:decide ((j:Int)<(n:Int))=false:=decide_eq_false (by omega);obtain rfl:j=n:=by omega
    have hvl:vals.length=j:=by have:=hrow.1;omega
    obtain ⟨oa,oc,rfl,_,_⟩:=ak hrow;have hNs:Xt wr (.slice oa j oc) (us.map fun u=>(p_ T u).getD 0 0):=by
     refine ⟨oa,oc,by rw [List.length_map,←HN.out],fun k hk=>?_⟩;rw [List.length_map] at hk;have hkj:k<j:=by have:=HN.out;omega
     obtain ⟨a,n',c,h1,h2⟩:=hms k hkj hk;obtain ⟨b,cap,he,_,_,hbl,_,hcells⟩:=dw hrow (show 0<j by omega);injection he with he1 _ he2;subst he1;refine ⟨b,0,a,n',c,rfl,hbl,?_,?_⟩
     ·rw [Nat.zero_add];exact hcells k _ h1
     ·rw [List.getElem_map];exact h2
    have hdl:∀k,k≤(us.map fun u=>(p_ T u).getD 0 0).length→(bR Go.Cd.B (eu ((us.map fun u=>(p_ T u).getD 0 0).take k))).length<274877906944:=fun k hk=>by
     rw [List.length_map] at hk;have h1:=HPL.out k hk;have h3:=aac (M:=16384) h1 (Nat.le_trans (HCT.out k) hle);omega
    have hdx:∀x∈us.map fun u=>(p_ T u).getD 0 0,(bR Go.Cd.B x).length<274877906944:=fun x hx=>by
     obtain ⟨u,hu,rfl⟩:=List.mem_map.1 hx;have h3:=aac (M:=16384) (HTL.out u hu) (Nat.le_trans (HCM.out u hu) hle);omega
    have PO:=aa (O_ hNs (by rw [List.length_map,←HN.out];omega) hdl hdx);have hcn:eu (us.map fun u=>(p_ T u).getD 0 0)=Ad T us:=rfl;rw [hcn] at PO;clear hNs hdl hdx hcn hms;go_wp2_with fail;refine PO.out.mono ?_;rintro e w7 ⟨r7,rfl,Lx,j4⟩;obtain ⟨ua,un,uc,rfl,Lx⟩:=Lx.out;have j0:=(k0.mono hE).mono j4;have f0:=j0.at 0 rfl;have q0:=j0.frozen 0;have v0:=j0.set 0 (.slice ua un uc);have g0:=v0.at 0 rfl;have X_:=aa (bO.iD Lx (bD.put (o:=0) j0 (.slice ua un uc)) (by decide));have hfin:=aa (aj (off:=0) (u:=.slice ua un uc) (b:=w.heap.size) (iM.trans (j4.mono Bf)) (Nat.le_refl _));clear Lx j0 v0;go_wp2_with fail;exact bodyPost_ret (v:=.tuple #[.agg #[.slice ua un uc],.int .i64 0]) (by simp [results,Tryz.results8,go_sem,g0]) rfl ⟨hfin.out,fun _=>⟨_,rfl,X_.out⟩,fun h=>absurd hle h⟩
 ·obtain rfl:=hno hle;have f0:=k0.at 0 rfl;have q0:=k0.frozen 0;have v0:=k0.set 0 (.slice none 0 0);have g0:=v0.at 0 rfl;have hfin:=aa (aj (off:=0) (u:=.slice none 0 0) (b:=w.heap.size) hB1 (Nat.le_refl _));clear v0 Ze hno PL;go_wp2_with fail;exact bodyPost_ret (v:=.tuple #[.agg #[.slice none 0 0],.int .i64 9]) (by simp [results,Tryz.results8,go_sem,g0]) rfl ⟨hfin.out,fun h=>absurd h hle,fun _=>rfl⟩
theorem SL {w:World} {a:Option Addr} {n cap:Nat} {L:List Nat} (h:bB w (.slice a n cap) (ints L)) {k:Nat} (hk:k≤n):bB w (.slice a k cap) (ints (L.take k)):=by
 obtain ⟨a',cap',he,hc,hx⟩:=h;have hl:(ints L).length=L.length:=bZ _;injection he with he1 he2 Ja;subst he1 Ja;have hkl:(ints (L.take k)).length=k:=by rw [bZ,List.length_take];omega
 refine ⟨a,cap,by rw [hkl],by rw [hkl];omega,?_⟩;rcases hx with ⟨hn,h0⟩|⟨b,off,cs,e,fr,ha,hh,hx⟩
 ·have:L=[]:=by cases L with
   | nil=>rfl
   | cons x l=>simp [ints] at hn
  subst this;exact .inl ⟨by simp [ints],h0⟩
 ·refine .inr ⟨b,off,cs,e,fr,ha,hh,fun i hi=>?_⟩;have hik:i<k:=by rw [hkl] at hi;exact hi
  rw [hx i (by omega)];simp [ints,List.getElem_take]
theorem SN {w:World} {b off n cap:Nat} {L:List Nat} (h:bB w (.slice (some ⟨b,off,none⟩) n cap) (ints L)) {k:Nat} (hk:k≤n):bB w (.slice (some ⟨b,off+k,none⟩) (n-k) (cap-k)) (ints (L.drop k)):=by
 obtain ⟨a',cap',he,hc,hx⟩:=h;have hl:(ints L).length=L.length:=bZ _;injection he with he1 he2 Ja;subst he1 Ja;have hkl:(ints (L.drop k)).length=n-k:=by rw [bZ,List.length_drop];omega
 refine ⟨_,_,by rw [hkl],by rw [hkl];omega,?_⟩;rcases hx with ⟨hn,h0⟩|⟨b',off',cs,e,fr,ha,hh,hx⟩
 ·have:L=[]:=by cases L with
   | nil=>rfl
   | cons x l=>simp [ints] at hn
  subst this;exact .inl ⟨by simp [ints],fun h=>by cases h⟩
 ·injection ha with ha;injection ha with h1 h2 _;subst h1 h2;refine .inr ⟨b,off+k,cs,e,fr,rfl,hh,fun i hi=>?_⟩;have:=hx (k+i) (by rw [hkl] at hi;omega);rw [Nat.add_assoc,this];simp [ints,List.getElem_drop]
theorem aad {M:Nat} {T:List aH} (hT:T.length<1000) {us:List (List Nat)} (hu:∀u∈us,u.length<400) (hc:dA (ai T) us≤M):(bR Go.Cd.B (Ad T us)).length≤M+1:=by
 have h1:=E_ hT hu us.length (Nat.le_refl _);rw [List.take_of_length_le (by simp),List.take_length] at h1;have h2:Go.Cd.B ^ dA (ai T) us≤Go.Cd.B ^ M:=Nat.pow_le_pow_right (by unfold Go.Cd.B;decide) hc;exact lW (n:=M) (Nat.le_trans (Nat.le_trans h1 h2) (Nat.le_mul_of_pos_left _ (by decide)))
theorem wz {T:List aH} (hT:T.length<1000) {us:List (List Nat)} (hu:∀u∈us,u.length<400) (hc:dA (ai T) us≤16384):(bR Go.Cd.B (Ad T us)).length≤16385:=aad hT hu hc
theorem lY {ap:Nat→Bool} {l:List Nat} (hl:l.length<400):(∀u∈aO ap l,u.length<400)∧(aO ap l).length<400:=by
 refine ⟨fun u hu=>?_,?_⟩
 ·have h1:u.length≤(aO ap l).flatten.length:=List.Sublist.length_le (List.sublist_flatten_of_mem hu);rw [fT] at h1;omega
 ·have:(aO ap l).length≤l.length:=by simpa [aO] using jf (ap:=ap) l []
  omega
theorem SS {w:World} (hG:ek w) {dp:Nat} {T:List aH} {X:List Nat} (hD:b_ w dp T X) (hV:aY T X) (qG:T.length<1000) (l:List Nat) (hn:gK T l) (hc:∀c∈l,aP c) (hlen:l.length<400) :
 Calls Tryz.prog 8 #[.pointer (some ⟨dp,0,none⟩),.string (tx (dH l)),.int .i64 16384] w fun e w'=>∃a n c code,e=.returned (.tuple #[.agg #[.slice a n c],.int .i64 code])∧Below w.heap.size w w'∧
  (dA (ai T) (aO (gz T) l)≤16384→code=0∧bO w' (.agg #[.slice a n c]) (Ad T (aO (gz T) l)))∧(¬dA (ai T) (aO (gz T) l)≤16384→code=9):=by
 refine (We hG hD hV qG l hn hc hlen).mono ?_;rintro e w' ⟨hb,h1,h2⟩;by_cases hle:dA (ai T) (aO (gz T) l)≤16384
 ·obtain ⟨r,rfl,hN⟩:=h1 hle;obtain ⟨a,n,c,rfl,hN⟩:=hN.out;exact ⟨a,n,c,0,rfl,hb,fun _=>⟨rfl,hN⟩,fun h=>absurd hle h⟩
 ·obtain rfl:=h2 hle;exact ⟨none,0,0,9,rfl,hb,fun h=>absurd h hle,fun _=>rfl⟩
end Go.Proofs.YtmpkfkoficehpaaGreatDoor
