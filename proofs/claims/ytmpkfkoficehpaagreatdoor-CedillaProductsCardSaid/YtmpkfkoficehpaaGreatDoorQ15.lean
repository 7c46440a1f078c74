/- CedillaProducts: where a text may be cut apart, it has as many texts that are alike as its two parts multiplied; no condition. -/
import Derived.Test.YtmpkfkoficehpaaGreatDoorQ14
set_option maxRecDepth 100000
set_option maxHeartbeats 6400000
namespace Go.Proofs.YtmpkfkoficehpaaGreatDoor
open Go.RowKit Go.Cd
def kR (l:List Nat):List Nat:=l.flatMap dQ
theorem KN (l:List Nat) (x:Nat):kR (l++[x])=kR l++dQ x:=by simp [kR]
theorem Cz (l:List Nat):(kR l).map UInt8.ofNat=dH l:=by
 induction l with
 | nil=>rfl
 | cons c l ih=>unfold kR dH at *;rw [List.flatMap_cons,List.flatMap_cons,List.map_append,ih];rfl
theorem OL (l:List Nat):(kR l).length=(dH l).length:=by rw [←Cz,List.length_map]
theorem RA {l:List Nat} (h:∀x∈l,x<1114112):∀d∈kR l,d<256:=by
 intro d hd;obtain ⟨c,hc,hd⟩:=List.mem_flatMap.1 hd;exact Dx (h c hc) d hd
theorem or_zero:∀c:Nat,c<128→bits .or .u8 0 (c:Int)=(c:Int):=by decide
theorem OM {w:World} (hH:dF w) {base m:Nat} {v:Value} {xs:List Nat} (ho:w.ownsRow base qX 1 v m (l_ xs)) (hbase:base≤w.heap.size) (hm:m<10000000) (c:Nat) (hc:aP c) (_:0<base) :
 Calls Tryz.prog 102 #[v,.int .i32 c] w fun e w'=>∃r,e=.returned r∧w'.ownsRow base qX 1 r (m+fq c) (l_ (xs++dQ c))∧Below base w w':=by
 have hw:=nH c;have Qd:=hc.1;have HH:=aa hH;obtain ⟨n,hn⟩:=ae (fq c);have WI:=aa (show ∀W,dF W→Calls Tryz.prog 104 #[.int .i32 c] W fun e w'=>e=.returned (.int .i64 n)∧w'=W from fun W h=>by rw [hn];exact wO h c hc);have HN:=aa hn;rw [←hn] at hw;obtain ⟨av,cv,rfl,_,_⟩:=ak ho;have HO:=aa ho;have ZP:n=1∨n=2∨n=3∨n=4:=by omega
 obtain ⟨k0,k1,k2,k3,k4,k5,k6,k7,k8,k9,k10,k11⟩:=hH;clear hn hw ho;rcases ZP with rfl|rfl|rfl|rfl
 ·have HE:=aa (show dQ c=[c] from by have:=HN.out;unfold fq at this;unfold dQ;(repeat' split at this) <;> first|omega|simp [*]);have or0:=or_zero c (by have:=HN.out;unfold fq at this;(repeat' split at this) <;> omega);go_enter Tryz.func102,Tryz.ntmps102;go_wp2_with fail;refine (WI.out _ HH.out).mono ?_;rintro e w2 ⟨rfl,rfl⟩;go_wp2_with fail;obtain ⟨w3,hw3⟩:=ae (w2.alloc (.cells #[.int .u8 0,.int .u8 127,.int .i32 0] 209));have hb3:Below w2.heap.size w2 w3:=by rw [hw3];exact af _
  have Vg:w3.cell? ⟨w2.heap.size,0,none⟩=some (.int .u8 0):=by rw [hw3];unfold World.cell?;rw [heap_alloc_new];rfl
  rw [←hw3];clear hw3 k0 k1 k2 k3 k4 k5 k6 k7 k8 k9 k10 k11;have g0:=Gr.cell (ag w3) Vg;have bb:(c:Int)<128:=by have:=HN.out;unfold fq at this;(repeat' split at this) <;> omega
  refine aF #[true,true,true,true,true,true,true,true,true,true,true,false,false] 11 2 mixed (by rfl) ?_;refine ay [0,1,2,3,4,5,6,7,8,9] 1 rfl (by kernel_rfl) ?_
  iterate 10 (refine aB rfl ?_;go_big_quiet_step (rfl))
  refine az ?_;refine aI 10 (by kernel_rfl) rfl ?_;go_wp2_with fail;refine aD (af _) ?_;refine aJ [11,12] (by kernel_rfl) ?_;refine tail_cons rfl ?_;have HB3:=aa ((Below.refl w2.heap.size w2).trans (hb3.trans (ag w3 |>.mono hb3.size)));have Fs:=aa (aG HO.out HB3.out);have Bb:=HB3.out.size;refine gF (W:=w3.drew) rfl _ _ 105 rfl base qX _ 1 mf (.slice av m cv) m (l_ xs) rfl Fs.out _ rfl rfl (by omega) (by unfold maxLen;omega) w2 (HB3.out.mono hbase) hbase ?_;intro v4 w4 o4 hb4 _ _;obtain ⟨a4,c4,rfl,_,_⟩:=ak o4;have RB:=aa o4;clear o4 Fs HO;refine tail_cons rfl ?_;go_wp2_with fail;refine tail_nil ?_;go_wp2_with fail
  have E0:=aa (show w4.ownsRow base qX 1 (.slice a4 (m+1) c4) (m+1) (l_ (xs++(dQ c).take 1)) from by
   have:=RB.out;rw [HE.out]
   simpa [l_] using this)
  go_loopw [0,7] (fun v7 iv wr=>∃k:Nat,k+1≤1∧iv=.int .i64 ((1:Int)-2-k)∧wr.ownsRow base qX 1 v7 (m+1+k) (l_ (xs++(dQ c).take (k+1)))∧Below base w2 wr) (fun _ iv _=>((intOf iv)+1).toNat)
  case atStart=>exact ⟨0,by decide,rfl,E0.out,hb4⟩
  case round=>
   clear E0 RB hb4 HB3 Bb;obtain ⟨k,hk,rfl,ho,hE⟩:=hrel;obtain ⟨av,cv,rfl,_,_⟩:=ak ho;have HO:=aa ho;have hsz:=hE.size;clear ho;have hkk:k=0:=by omega
   rcases hkk with rfl
   ·go_wp2;go_ret
    exact ⟨_,rfl,by
     have:=HO.out;rw [←HN.out];rw [HE.out] at this ⊢
     simpa [l_] using this,hE⟩
 ·have HE:=aa (show dQ c=[192+c / 64,128+c % 64] from by have:=HN.out;unfold fq at this;unfold dQ;(repeat' split at this) <;> first|omega|simp [*]);go_enter Tryz.func102,Tryz.ntmps102;go_wp2_with fail;refine (WI.out _ HH.out).mono ?_;rintro e w2 ⟨rfl,rfl⟩;go_wp2_with fail;obtain ⟨w3,hw3⟩:=ae (w2.alloc (.cells #[.int .u8 192,.int .u8 31,.int .i32 128] 209));have hb3:Below w2.heap.size w2 w3:=by rw [hw3];exact af _
  have Vg:w3.cell? ⟨w2.heap.size,0,none⟩=some (.int .u8 192):=by rw [hw3];unfold World.cell?;rw [heap_alloc_new];rfl
  rw [←hw3];clear hw3 k0 k1 k2 k3 k4 k5 k6 k7 k8 k9 k10 k11;have g0:=Gr.cell (ag w3) Vg;have bb:(c:Int)<2048:=by have:=HN.out;unfold fq at this;(repeat' split at this) <;> omega
  refine aF #[true,true,true,true,true,true,true,true,true,true,true,false,false] 11 2 mixed (by rfl) ?_;refine ay [0,1,2,3,4,5,6,7,8,9] 1 rfl (by kernel_rfl) ?_
  iterate 10 (refine aB rfl ?_;go_big_quiet_step (rfl))
  refine az ?_;refine aI 10 (by kernel_rfl) rfl ?_;go_wp2_with fail;refine aD (af _) ?_;refine aJ [11,12] (by kernel_rfl) ?_;refine tail_cons rfl ?_;have HB3:=aa ((Below.refl w2.heap.size w2).trans (hb3.trans (ag w3 |>.mono hb3.size)));have Fs:=aa (aG HO.out HB3.out);have Bb:=HB3.out.size;refine gF (W:=w3.drew) rfl _ _ 105 rfl base qX _ 1 mf (.slice av m cv) m (l_ xs) rfl Fs.out _ rfl rfl (by omega) (by unfold maxLen;omega) w2 (HB3.out.mono hbase) hbase ?_;intro v4 w4 o4 hb4 _ _;obtain ⟨a4,c4,rfl,_,_⟩:=ak o4;have RB:=aa o4;clear o4 Fs HO;refine tail_cons rfl ?_;go_wp2_with fail;refine tail_nil ?_;go_wp2_with fail
  have E0:=aa (show w4.ownsRow base qX 1 (.slice a4 (m+1) c4) (m+1) (l_ (xs++(dQ c).take 1)) from by
   have:=RB.out;rw [HE.out]
   simpa [l_] using this)
  go_loopw [0,7] (fun v7 iv wr=>∃k:Nat,k+1≤2∧iv=.int .i64 ((2:Int)-2-k)∧wr.ownsRow base qX 1 v7 (m+1+k) (l_ (xs++(dQ c).take (k+1)))∧Below base w2 wr) (fun _ iv _=>((intOf iv)+1).toNat)
  case atStart=>exact ⟨0,by decide,rfl,E0.out,hb4⟩
  case round=>
   clear E0 RB hb4 HB3 Bb;obtain ⟨k,hk,rfl,ho,hE⟩:=hrel;obtain ⟨av,cv,rfl,_,_⟩:=ak ho;have HO:=aa ho;have hsz:=hE.size;clear ho;have hkk:k=0∨k=1:=by omega
   rcases hkk with rfl|rfl
   ·go_wp2_with (at_builtin;refine gF rfl _ _ 105 rfl base qX _ 1 mf _ (m+1+0) _ rfl HO.out _ rfl rfl (by omega) (by unfold maxLen;omega) w2 hE hbase ?_;intro v5 w5 o5 hb5 _ _;obtain ⟨a5,c5,rfl,_,_⟩:=ak o5);go_roundw
    case rel=>exact ⟨1,by decide,congrArg (Value.int .i64) (by omega),by
     have:=o5;rw [HE.out] at this ⊢
     simpa [l_] using this,hb5⟩
    case measure=>simp [intOf]
   ·go_wp2;go_ret
    exact ⟨_,rfl,by
     have:=HO.out;rw [←HN.out];rw [HE.out] at this ⊢
     simpa [l_] using this,hE⟩
 ·have HE:=aa (show dQ c=[224+c / 4096,128+c / 64 % 64,128+c % 64] from by have:=HN.out;unfold fq at this;unfold dQ;(repeat' split at this) <;> first|omega|simp [*]);go_enter Tryz.func102,Tryz.ntmps102;go_wp2_with fail;refine (WI.out _ HH.out).mono ?_;rintro e w2 ⟨rfl,rfl⟩;go_wp2_with fail;obtain ⟨w3,hw3⟩:=ae (w2.alloc (.cells #[.int .u8 224,.int .u8 15,.int .i32 2048] 209));have hb3:Below w2.heap.size w2 w3:=by rw [hw3];exact af _
  have Vg:w3.cell? ⟨w2.heap.size,0,none⟩=some (.int .u8 224):=by rw [hw3];unfold World.cell?;rw [heap_alloc_new];rfl
  rw [←hw3];clear hw3 k0 k1 k2 k3 k4 k5 k6 k7 k8 k9 k10 k11;have g0:=Gr.cell (ag w3) Vg;have bb:(c:Int)<65536:=by have:=HN.out;unfold fq at this;(repeat' split at this) <;> omega
  refine aF #[true,true,true,true,true,true,true,true,true,true,true,false,false] 11 2 mixed (by rfl) ?_;refine ay [0,1,2,3,4,5,6,7,8,9] 1 rfl (by kernel_rfl) ?_
  iterate 10 (refine aB rfl ?_;go_big_quiet_step (rfl))
  refine az ?_;refine aI 10 (by kernel_rfl) rfl ?_;go_wp2_with fail;refine aD (af _) ?_;refine aJ [11,12] (by kernel_rfl) ?_;refine tail_cons rfl ?_;have HB3:=aa ((Below.refl w2.heap.size w2).trans (hb3.trans (ag w3 |>.mono hb3.size)));have Fs:=aa (aG HO.out HB3.out);have Bb:=HB3.out.size;refine gF (W:=w3.drew) rfl _ _ 105 rfl base qX _ 1 mf (.slice av m cv) m (l_ xs) rfl Fs.out _ rfl rfl (by omega) (by unfold maxLen;omega) w2 (HB3.out.mono hbase) hbase ?_;intro v4 w4 o4 hb4 _ _;obtain ⟨a4,c4,rfl,_,_⟩:=ak o4;have RB:=aa o4;clear o4 Fs HO;refine tail_cons rfl ?_;go_wp2_with fail;refine tail_nil ?_;go_wp2_with fail
  have E0:=aa (show w4.ownsRow base qX 1 (.slice a4 (m+1) c4) (m+1) (l_ (xs++(dQ c).take 1)) from by
   have:=RB.out;rw [HE.out]
   simpa [l_] using this)
  go_loopw [0,7] (fun v7 iv wr=>∃k:Nat,k+1≤3∧iv=.int .i64 ((3:Int)-2-k)∧wr.ownsRow base qX 1 v7 (m+1+k) (l_ (xs++(dQ c).take (k+1)))∧Below base w2 wr) (fun _ iv _=>((intOf iv)+1).toNat)
  case atStart=>exact ⟨0,by decide,rfl,E0.out,hb4⟩
  case round=>
   clear E0 RB hb4 HB3 Bb;obtain ⟨k,hk,rfl,ho,hE⟩:=hrel;obtain ⟨av,cv,rfl,_,_⟩:=ak ho;have HO:=aa ho;have hsz:=hE.size;clear ho;have hkk:k=0∨k=1∨k=2:=by omega
   rcases hkk with rfl|rfl|rfl
   ·go_wp2_with (at_builtin;refine gF rfl _ _ 105 rfl base qX _ 1 mf _ (m+1+0) _ rfl HO.out _ rfl rfl (by omega) (by unfold maxLen;omega) w2 hE hbase ?_;intro v5 w5 o5 hb5 _ _;obtain ⟨a5,c5,rfl,_,_⟩:=ak o5);go_roundw
    case rel=>exact ⟨1,by decide,congrArg (Value.int .i64) (by omega),by
     have:=o5;rw [HE.out] at this ⊢
     simpa [l_] using this,hb5⟩
    case measure=>simp [intOf]
   ·go_wp2_with (at_builtin;refine gF rfl _ _ 105 rfl base qX _ 1 mf _ (m+1+1) _ rfl HO.out _ rfl rfl (by omega) (by unfold maxLen;omega) w2 hE hbase ?_;intro v5 w5 o5 hb5 _ _;obtain ⟨a5,c5,rfl,_,_⟩:=ak o5);go_roundw
    case rel=>exact ⟨2,by decide,congrArg (Value.int .i64) (by omega),by
     have:=o5;rw [HE.out] at this ⊢
     simpa [l_] using this,hb5⟩
    case measure=>simp [intOf]
   ·go_wp2;go_ret
    exact ⟨_,rfl,by
     have:=HO.out;rw [←HN.out];rw [HE.out] at this ⊢
     simpa [l_] using this,hE⟩
 ·have HE:=aa (show dQ c=[240+c / 262144,128+c / 4096 % 64,128+c / 64 % 64,128+c % 64] from by have:=HN.out;unfold fq at this;unfold dQ;(repeat' split at this) <;> first|omega|simp [*]);go_enter Tryz.func102,Tryz.ntmps102;go_wp2_with fail;refine (WI.out _ HH.out).mono ?_;rintro e w2 ⟨rfl,rfl⟩;go_wp2_with fail;obtain ⟨w3,hw3⟩:=ae (w2.alloc (.cells #[.int .u8 240,.int .u8 7,.int .i32 65536] 209));have hb3:Below w2.heap.size w2 w3:=by rw [hw3];exact af _
  have Vg:w3.cell? ⟨w2.heap.size,0,none⟩=some (.int .u8 240):=by rw [hw3];unfold World.cell?;rw [heap_alloc_new];rfl
  rw [←hw3];clear hw3 k0 k1 k2 k3 k4 k5 k6 k7 k8 k9 k10 k11;have g0:=Gr.cell (ag w3) Vg;refine aF #[true,true,true,true,true,true,true,true,true,true,true,false,false] 11 2 mixed (by rfl) ?_;refine ay [0,1,2,3,4,5,6,7,8,9] 1 rfl (by kernel_rfl) ?_
  iterate 10 (refine aB rfl ?_;go_big_quiet_step (rfl))
  refine az ?_;refine aI 10 (by kernel_rfl) rfl ?_;go_wp2_with fail;refine aD (af _) ?_;refine aJ [11,12] (by kernel_rfl) ?_;refine tail_cons rfl ?_;have HB3:=aa ((Below.refl w2.heap.size w2).trans (hb3.trans (ag w3 |>.mono hb3.size)));have Fs:=aa (aG HO.out HB3.out);have Bb:=HB3.out.size;refine gF (W:=w3.drew) rfl _ _ 105 rfl base qX _ 1 mf (.slice av m cv) m (l_ xs) rfl Fs.out _ rfl rfl (by omega) (by unfold maxLen;omega) w2 (HB3.out.mono hbase) hbase ?_;intro v4 w4 o4 hb4 _ _;obtain ⟨a4,c4,rfl,_,_⟩:=ak o4;have RB:=aa o4;clear o4 Fs HO;refine tail_cons rfl ?_;go_wp2_with fail;refine tail_nil ?_;go_wp2_with fail
  have E0:=aa (show w4.ownsRow base qX 1 (.slice a4 (m+1) c4) (m+1) (l_ (xs++(dQ c).take 1)) from by
   have:=RB.out;rw [HE.out]
   simpa [l_] using this)
  go_loopw [0,7] (fun v7 iv wr=>∃k:Nat,k+1≤4∧iv=.int .i64 ((4:Int)-2-k)∧wr.ownsRow base qX 1 v7 (m+1+k) (l_ (xs++(dQ c).take (k+1)))∧Below base w2 wr) (fun _ iv _=>((intOf iv)+1).toNat)
  case atStart=>exact ⟨0,by decide,rfl,E0.out,hb4⟩
  case round=>
   clear E0 RB hb4 HB3 Bb;obtain ⟨k,hk,rfl,ho,hE⟩:=hrel;obtain ⟨av,cv,rfl,_,_⟩:=ak ho;have HO:=aa ho;have hsz:=hE.size;clear ho;have hkk:k=0∨k=1∨k=2∨k=3:=by omega
   rcases hkk with rfl|rfl|rfl|rfl
   ·go_wp2_with (at_builtin;refine gF rfl _ _ 105 rfl base qX _ 1 mf _ (m+1+0) _ rfl HO.out _ rfl rfl (by omega) (by unfold maxLen;omega) w2 hE hbase ?_;intro v5 w5 o5 hb5 _ _;obtain ⟨a5,c5,rfl,_,_⟩:=ak o5);go_roundw
    case rel=>exact ⟨1,by decide,congrArg (Value.int .i64) (by omega),by
     have:=o5;rw [HE.out] at this ⊢
     simpa [l_] using this,hb5⟩
    case measure=>simp [intOf]
   ·go_wp2_with (at_builtin;refine gF rfl _ _ 105 rfl base qX _ 1 mf _ (m+1+1) _ rfl HO.out _ rfl rfl (by omega) (by unfold maxLen;omega) w2 hE hbase ?_;intro v5 w5 o5 hb5 _ _;obtain ⟨a5,c5,rfl,_,_⟩:=ak o5);go_roundw
    case rel=>exact ⟨2,by decide,congrArg (Value.int .i64) (by omega),by
     have:=o5;rw [HE.out] at this ⊢
     simpa [l_] using this,hb5⟩
    case measure=>simp [intOf]
   ·go_wp2_with (at_builtin;refine gF rfl _ _ 105 rfl base qX _ 1 mf _ (m+1+2) _ rfl HO.out _ rfl rfl (by omega) (by unfold maxLen;omega) w2 hE hbase ?_;intro v5 w5 o5 hb5 _ _;obtain ⟨a5,c5,rfl,_,_⟩:=ak o5);go_roundw
    case rel=>exact ⟨3,by decide,congrArg (Value.int .i64) (by omega),by
     have:=o5;rw [HE.out] at this ⊢
     simpa [l_] using this,hb5⟩
    case measure=>simp [intOf]
   ·go_wp2;go_ret
    exact ⟨_,rfl,by
     have:=HO.out;rw [←HN.out];rw [HE.out] at this ⊢
     simpa [l_] using this,hE⟩
theorem Ee {w:World} (hH:dF w) {v:Value} {L:List Nat} (hv:bB w v (aN L)) (hL:∀x∈L,aP x) (hl:L.length<1000000) (h0:0<w.heap.size) :
 Calls Tryz.prog 70 #[v] w fun e w'=>e=.returned (.tuple #[.string (tx (dH L)),.int .i64 0])∧Below w.heap.size w w':=by
 have HH:=aa hH;have HL:=aa hL;obtain ⟨n,hn⟩:=ae L.length;obtain ⟨al,cl,rfl,_,hx⟩:=bB.qL hv hn;rw [←hn] at hl;have HN:=aa hn;have HX:=aa hx;have HEL:=aa (show ∀j,(kR (L.take j)).length≤4*j from fun j=>by have:=OL (L.take j);have h2:=jo (L.take j);rw [List.length_take] at h2;omega);have HET:=aa (show (kR L).map UInt8.ofNat=dH L∧∀d∈kR L,d<256 from ⟨Cz L,RA fun x h=>(hL x h).1⟩);clear hv hx hn hL;go_enter Tryz.func70,Tryz.ntmps70;go_wp2_with fail;go_loopw [4,9] (fun ov iv wr=>∃j:Nat,j≤n∧iv=.int .i64 j∧wr.ownsRow w.heap.size qX 1 ov (kR (L.take j)).length (l_ (kR (L.take j)))∧Below w.heap.size w wr) (fun _ iv _=>n-(intOf iv).toNat)
 case atStart=>exact ⟨0,Nat.zero_le _,rfl,World.ownsRow_nil _ _ _ _,Below.refl _ _⟩
 case round=>
  obtain ⟨j,hj,rfl,ho,hE⟩:=hrel;obtain ⟨UD,WZ,rfl,_,_⟩:=ak ho;by_cases hjn:j<n
  ·have hjl:j<L.length:=by have:=HN.out;omega
   obtain ⟨b,off,rfl,_,hc⟩:=HX.out j hjl;have hc:=aA hE hc;have hx:=HL.out _ (List.getElem_mem hjl);have ES:=aa (show kR (L.take (j+1))=kR (L.take j)++dQ L[j] from by rw [List.take_succ_eq_append_getElem hjl,KN]);have hel:=HEL.out j;have hh:=HH.out.mono hE;generalize L[j]=x at *;generalize kR (L.take j)=S at *;have hx9:=hx.1;have IS:=aa (show ∀W,Calls Tryz.prog 17 #[.int .i32 x] W fun e w'=>e=.returned (.bool true)∧w'=W from fun W=>by have:=iG (w:=W) x (by omega);rwa [decide_eq_true hx] at this);have PU:=aa (OM hh ho hE.size (by omega) x hx h0);clear ho hx hh;go_wp2_with fail;refine (IS.out _).mono ?_;rintro e w2 ⟨rfl,rfl⟩;go_wp2_with fail;refine PU.out.mono ?_;rintro e w3 ⟨r3,rfl,o3,h3⟩;obtain ⟨a3,c3,rfl,_,_⟩:=ak o3;go_wp2;go_roundw
   case rel=>exact ⟨j+1,by omega,rfl,by rw [ES.out,List.length_append,yE];exact o3,hE.trans h3⟩
   case measure=>simp [intOf];omega
  ·obtain rfl:n=j:=by omega
   rw [List.take_of_length_le (by rw [HN.out];exact Nat.le_refl _)] at ho;have hcv:=F7 (Sl.aW ho).any HET.out.2;rw [JY,HET.out.1] at hcv;clear ho;have el:(L.take n)=L:=List.take_of_length_le (by rw [HN.out];exact Nat.le_refl _);rw [el];clear el;go_wp2;go_ret2;exact ⟨rfl,hE⟩
theorem bB.Ef {w:World} {v:Value} {l:List Nat} {n:Nat} (h:bB w v (aN l)) (hn:n=l.length):∃a cap,v=.slice a n cap∧n≤cap∧
 ∀i (hi:i<l.length),∃b off,a=some ⟨b,off,none⟩∧b<w.heap.size∧w.cell? ⟨b,off+i,none⟩=some (.int .i32 (l[i]:Nat)):=Go.Cd.bB.qL h hn
theorem vS {F:Nat→List Nat} {l:List Nat} {j:Nat} (hj:j<l.length):(l.take (j+1)).flatMap F=(l.take j).flatMap F++F l[j]:=by
 rw [List.take_succ_eq_append_getElem hj,List.flatMap_append];simp
theorem uD (F:Nat→List Nat) (l:List Nat) (j:Nat):((l.take j).flatMap F).length≤(l.flatMap F).length:=by
 conv=>rhs;rw [←List.take_append_drop j l,List.flatMap_append,List.length_append]
 omega
theorem Ip {w:World} {p:Nat} {T:List aH} {X:List Nat} (h:b_ w p T X) (hV:aY T X) (hl:T.length<1000) {v:Value} (l:List Nat) (hv:bB w v (aN l)) (hc:∀c∈l,c<1114112) (hln:l.length<3000) :
 Calls Tryz.prog 139 #[.pointer (some ⟨p,0,none⟩),v] w fun e w'=>∃r,e=.returned r∧w'.ownsRow w.heap.size aM 1 r (l.flatMap (aC T)).length (aN (l.flatMap (aC T)))∧Below w.heap.size w w':=by
 obtain ⟨n,hn⟩:=ae l.length;obtain ⟨a,cap,rfl,hcap,hx⟩:=bB.Ef hv hn;have HX:=aa hx;have HC:=aa hc;have HN:=aa hn;have Z6:=aa (ji hV l);have FU:=aa (fun (W:World) (E:Below w.heap.size w W) c (hc:c<1114112)=>nQ (h.mono E) hV hl c hc);have HE:=aa (fun c=>gI hV c);rw [←hn] at hln;clear h hV hl hv hc hx hn;go_enter Tryz.func139,Tryz.ntmps139;go_wp2_with fail;go_loopw [5,10] (fun ov iv wr=>∃j:Nat,j≤n∧iv=.int .i64 j∧wr.ownsRow w.heap.size aM 1 ov ((l.take j).flatMap (aC T)).length (aN ((l.take j).flatMap (aC T)))∧Below w.heap.size w wr) (fun _ iv _=>n-(intOf iv).toNat)
 case atStart=>exact ⟨0,Nat.zero_le _,rfl,World.ownsRow_nil _ _ _ _,Below.refl _ _⟩
 case round=>
  obtain ⟨j,hj,rfl,ho,hE⟩:=hrel;by_cases hjn:j<n
  ·have zj:decide ((j:Int)<(n:Int))=true:=by simp;omega
   have hjl:j<l.length:=by have:=HN.out;omega
   obtain ⟨b,off,rfl,hbs,c0'⟩:=HX.out j hjl;have c0:=aA hE c0';clear c0';have hcj:=HC.out _ (List.getElem_mem hjl);obtain ⟨x,vL⟩:=ae (l[j]);rw [←vL] at c0 hcj;have CK:=aa (FU.out wr hE x hcj);have HT:=aa (show (l.take (j+1)).flatMap (aC T)=(l.take j).flatMap (aC T)++aC T x from by rw [vS hjl,←vL])
   have Nv:=aa (show ((l.take j).flatMap (aC T)).length+(aC T x).length≤32*n from by
    have h1:=uD (aC T) l (j+1);rw [vS hjl,←vL,List.length_append] at h1;have h2:=Z6.out;rw [←HN.out] at h2
    omega)
   have HO:=aa ho;clear vL ho;go_wp2_with fail;refine CK.out.mono ?_;rintro e w6 ⟨r,rfl,hr,hb6⟩;have iM:=hE.trans (hb6.mono hE.size);have Qh:=aG HO.out hb6;have hs6:=iM.size;have hsl:=(Sl.aW hr).any;obtain ⟨ra,NP,rfl,_,_⟩:=ak hr;clear hr CK;go_wp2_with (refine bN (w:=w6) rfl _ _ 52 rfl w.heap.size aM (.int .i32 0) 4 bT _ _ _ rfl Qh _ _ rfl hsl (fU _) (by rw [bA];have:=Nv.out;unfold maxLen;omega) (by rw [bA];have:=Nv.out;omega) hs6 ?_;intro v7 w7 o7 g7);have sD:=iM.grown g7 hs6 (fun k hk=>(Qh.lt k hk).1)
   have HO7:=aa (show w7.ownsRow w.heap.size aM 1 v7 ((l.take (j+1)).flatMap (aC T)).length (aN ((l.take (j+1)).flatMap (aC T))) from by
    rw [HT.out,aZ,List.length_append]
    simpa using o7)
   clear o7 g7 hsl Qh;go_wp2_with fail;go_roundw
   case rel=>exact ⟨j+1,by omega,by simp,HO7.out,sD⟩
   case measure=>simp [intOf];omega
  ·have zj:decide ((j:Int)<(n:Int))=false:=by simp;omega
   obtain rfl:j=n:=by omega
   have ht:l.take j=l:=List.take_of_length_le (by rw [HN.out];exact Nat.le_refl _);rw [ht] at ho;have HO:=aa ho;clear ho ht;go_wp2_with fail;go_ret;exact ⟨_,rfl,HO.out,hE⟩
theorem Iq {w:World} {p:Nat} {T:List aH} {X:List Nat} (h:b_ w p T X) (hV:aY T X) (hl:T.length<1000) {v:Value} (l:List Nat) (hv:bB w v (aN l)) (hc:∀c∈l,aP c) (hln:l.length<3000) :
 Calls Tryz.prog 101 #[.pointer (some ⟨p,0,none⟩),v] w fun e w'=>∃r,e=.returned r∧w'.ownsRow w.heap.size aM 1 r (nP T l).length (aN (nP T l))∧Below w.heap.size w w':=by
 have AP:=aa (Ip h hV hl l hv (fun c hx=>(hc c hx).1) hln);have hfl:=ji hV l
 have OF:=aa (fun (W:World) (E:Below w.heap.size w W) (u:Value) (ho:W.ownsRow w.heap.size aM 1 u (l.flatMap (aC T)).length (aN (l.flatMap (aC T))))=>Ry (w:=W) (h.mono E) hV (l.flatMap (aC T)) (Sl.aW ho) (fC.aW ho) (fun c hx=>by
  obtain ⟨y,hy,hx⟩:=List.mem_flatMap.1 hx
  exact (mY hV (hc y hy) hx).1) (by omega))
 have HL:=aa (show (nP T l).length=(l.flatMap (aC T)).length from Im _ _);clear h hv hc hfl;go_enter Tryz.func101,Tryz.ntmps101;go_wp2_with fail;refine AP.out.mono ?_;rintro e w1 ⟨r,rfl,hr,hb1⟩;have OF1:=aa (OF.out w1 hb1 r hr);clear hr;go_wp2_with fail;refine OF1.out.mono ?_;rintro e w2 ⟨r2,rfl,hr2,hb2⟩;have HR:=aa hr2;clear hr2;go_wp2_with fail;go_ret;exact ⟨_,rfl,by rw [HL.out];exact aV HR.out hb1.size,ah hb1 hb2⟩
theorem Ir {T:List aH} {X:List Nat} (hV:aY T X) {l:List Nat} (hc:∀c∈l,aP c):∀c∈nP T l,aP c:=fun c h=>by
 obtain ⟨y,hy,hx⟩:=List.mem_flatMap.1 ((Io _).1 h);exact mY hV (hc y hy) hx
theorem zF (T:List aH) (l:List Nat):(nP T l).length=(l.flatMap (aC T)).length:=Im _ _
theorem Iu {w:World} (hG:ek w) {p:Nat} {T:List aH} {X:List Nat} (h:b_ w p T X) (hV:aY T X) (hl:T.length<1000) (l:List Nat) (hc:∀c∈l,aP c) (hlen:(l.flatMap (aC T)).length≤1024) :
 Calls Tryz.prog 69 #[.pointer (some ⟨p,0,none⟩),.string (tx (dH l))] w fun e w'=>∃r,e=.returned (.tuple #[r,.int .i64 0])∧w'.ownsRow w.heap.size aM 1 r (nP T l).length (aN (nP T l))∧Below w.heap.size w w':=by
 have hln:l.length≤1024:=by
  have key:∀l:List Nat,l.length≤(l.flatMap (aC T)).length:=fun l=>by
   induction l with
   | nil=>simp
   | cons c l ih=>
     rw [List.flatMap_cons,List.length_append,List.length_cons];have:=List.length_pos_iff.2 (x9 T c);omega
  exact Nat.le_trans (key l) hlen
 have DE:=aa (tO hG.heads l hc (by omega));have FU:=aa (fun (W:World) (E:Below w.heap.size w W) c (hc:c<1114112)=>nQ (h.mono E) hV hl c hc);have CH:=aa (fun (W:World) (E:Below w.heap.size w W) (u:Value) (hu:bB W u (aN l))=>Iq (w:=W) (h.mono E) hV hl l hu hc (by omega));have HC:=aa hc;have HLEN:=aa hlen;have T_:=aa (zF T l);obtain ⟨s,hs⟩:=ae (tx (dH l));rw [←hs] at DE ⊢;obtain ⟨n,hn⟩:=ae l.length;have HN:=aa hn;rw [←hn] at hln DE;clear hG h hV hl hc hlen hs hn;go_enter Tryz.func69,Tryz.ntmps69;go_wp2_with fail;refine DE.out.mono ?_;rintro e w1 ⟨r,rfl,hr,hb1⟩;have hsl:=(Sl.aW hr).any;have HSL:=aa hsl;obtain ⟨a,cap,hra,hcap,hx⟩:=bB.Ef hsl HN.out;subst hra;have HX:=aa hx;clear hr hsl hx DE;go_wp2_with fail;go_loopw [8,21] (fun kv iv wr=>∃j k:Nat,j≤n∧iv=.int .i64 j∧kv=.int .i64 k∧k=((l.take j).flatMap (aC T)).length∧Below w1.heap.size w1 wr) (fun _ iv _=>n-(intOf iv).toNat)
 case atStart=>exact ⟨0,0,Nat.zero_le _,rfl,rfl,rfl,Below.refl _ _⟩
 case round=>
  obtain ⟨j,k,hj,rfl,rfl,hk,hE⟩:=hrel;have HK:=aa hk;clear hk;by_cases hjn:j<n
  ·have zj:decide ((j:Int)<(n:Int))=true:=by simp;omega
   have hjl:j<l.length:=by have:=HN.out;omega
   obtain ⟨b,off,rfl,hbs,c0'⟩:=HX.out j hjl;have c0:=aA hE c0';clear c0';have hcj:=(HC.out _ (List.getElem_mem hjl)).1;obtain ⟨x,vL⟩:=ae (l[j]);rw [←vL] at c0 hcj;have CK:=aa (FU.out wr (ah hb1 hE) x hcj);obtain ⟨m,hm⟩:=ae ((aC T x).length);obtain ⟨k1,hk1⟩:=ae (k+m);have aby:k1=((l.take (j+1)).flatMap (aC T)).length:=by rw [hk1,hm,HK.out,vS hjl,←vL,List.length_append]
   have ak5:k1≤1024:=by
    have h1:=uD (aC T) l (j+1);have h2:=HLEN.out;omega
   have e1:IntKind.i64.wrap ((k:Int)+(m:Int))=(k1:Int):=by rw [IntWalk.i64_in _ (by omega)];omega
   have KL:=aa aby
   have NQ:=aa hm;have hkm:k≤1024∧m≤1024:=by omega
   have z2:decide ((1024:Int)<(k1:Int))=false:=by simp;omega
   clear vL hm aby hk1;go_wp2_with fail;refine CK.out.mono ?_;rintro e w6 ⟨r,rfl,hr,hb6⟩;obtain ⟨ra,NP,rfl,_,_⟩:=ak hr;rw [←NQ.out];clear hr CK;go_wp2_with fail;go_roundw
   case rel=>exact ⟨j+1,k1,by omega,by simp,rfl,KL.out,hE.trans (hb6.mono hE.size)⟩
   case measure=>simp [intOf];omega
  ·have zj:decide ((j:Int)<(n:Int))=false:=by simp;omega
   obtain rfl:n=j:=by omega
   have CK:=aa (CH.out wr (ah hb1 hE) _ (bB.mono HSL.out hE));clear CH;go_wp2_with fail;refine CK.out.mono ?_;rintro e w6 ⟨r,rfl,hr,hb6⟩;have HR:=aa hr;clear hr;go_wp2_with fail;go_ret2;exact ⟨_,rfl,aV HR.out (ah hb1 hE).size,ah (ah hb1 hE) hb6⟩
theorem RD {w:World} (hG:ek w) (h0:0<w.heap.size) {p:Nat} {T:List aH} {X:List Nat} (h:b_ w p T X) (hV:aY T X) (hl:T.length<1000) (l:List Nat) (hc:∀c∈l,aP c) (hlen:(l.flatMap (aC T)).length≤1024) :
 Calls Tryz.prog 47 #[.pointer (some ⟨p,0,none⟩),.string (tx (dH l))] w fun e w'=>e=.returned (.tuple #[.string (tx (dH (nP T l))),.int .i64 0])∧Below w.heap.size w w':=by
 have CH:=aa (Iu hG h hV hl l hc hlen);have EN:=aa (fun (W:World) (E:Below w.heap.size w W) (u:Value) (hu:bB W u (aN (nP T l)))=>Ee (hG.mono E).heads hu (Ir hV hc) (by rw [zF];omega) (by have:=E.size;omega));obtain ⟨s,hs⟩:=ae (tx (dH l));obtain ⟨s2,hs2⟩:∃s,s=tx (dH (nP T l)):=⟨_,rfl⟩;rw [←hs] at CH ⊢;rw [←hs2] at EN ⊢;clear hG h hV hl hc hlen hs hs2;go_enter Tryz.func47,Tryz.ntmps47;go_wp2_with fail;refine CH.out.mono ?_;rintro e w1 ⟨r,rfl,hr,hb1⟩;have CK:=aa (EN.out w1 hb1 r (Sl.aW hr).any);clear hr CH EN;go_wp2_with fail;refine CK.out.mono ?_;rintro e w2 ⟨rfl,hb2⟩;go_wp2_with fail;go_ret2;exact ⟨rfl,ah hb1 hb2⟩
end Go.Proofs.YtmpkfkoficehpaaGreatDoor
namespace Go.Cd
section
open Go.RowKit
section
variable {P : Program} {ops : Array Oper} {md : Region.Mode} {head : Array Bool}
def Eg (P:Program) (md:Region.Mode) (ops:Array Oper) (head:Array Bool) (Q:Exit→Act→World→Prop) (T:Array Bool→Act→World→Prop):Nat→Array Bool→Act→World→Prop
 | 0,listed,a,w=>∀w',Below w.heap.size w w'→iE head listed=true∧T listed a w'
 | n+1,listed,a,w=>∀w',Below w.heap.size w w'→Region.ready md ops listed≠[]∧
   ∀i∈Region.ready md ops listed,head.getD i false=true∧rH P ops Q i (Eg P md ops head Q T n (listed.setIfInBounds i true)) a w'
theorem uE {Q:Exit→Act→World→Prop} {T:Array Bool→Act→World→Prop} {n:Nat} {listed:Array Bool} {a:Act} {w w1:World} (hb:Below w.heap.size w w1) (h:Eg P md ops head Q T n listed a w):Eg P md ops head Q T n listed a w1:=by
 cases n with
 | zero=>exact fun w' hw'=>h w' (ah hb hw')
 | succ n=>exact fun w' hw'=>h w' (ah hb hw')
theorem CB {Q:Exit→Act→World→Prop} {T:Array Bool→Act→World→Prop} {i:Nat} {oi:Oper} {v:Value} (hi:ops[i]? = some oi) (hsel:∀(j:Nat) (o:Oper) cs b,ops[j]? = some o→o.op≠.select cs b)
 (hhi:head.getD i false=true) :
 ∀(n:Nat) (listed:Array Bool) (a:Act) (w:World),Closed md ops listed→
  (∀j oj,ops[j]? = some oj→j≠i→listed.getD j true=false→(∀e∈oj.after,Region.binds md e=true→e.on≠i)→(head.getD j false=true∧oi.apart ops oj=true)∨waits md ops i ops.size j=true)→
  i∈Region.ready md ops listed→dW P ops w oi v a→
  Eg P md ops head Q T n (listed.setIfInBounds i true) (a.put oi.dst v) w→Eg P md ops head Q T (n+1) listed a w:=by
 intro n;have key:∀(listed:Array Bool),Closed md ops listed→
  (∀j oj,ops[j]? = some oj→j≠i→listed.getD j true=false→(∀e∈oj.after,Region.binds md e=true→e.on≠i)→(head.getD j false=true∧oi.apart ops oj=true)∨waits md ops i ops.size j=true)→
  i∈Region.ready md ops listed→∀j,j∈Region.ready md ops listed→j≠i→∃oj,ops[j]? = some oj∧listed.getD j true=false∧head.getD j false=true∧oi.apart ops oj=true:=by
  intro listed hcl hfree hr j hj hji;obtain ⟨hjun,oj,hoj,hall⟩:=mem_ready.1 hj;have h0:=(mem_ready.1 hr).1;have hi0:listed.getD i false=false:=by
   rcases Nat.lt_or_ge i listed.size with h'|h'
   ·simp [h'] at h0 ⊢;exact h0
   ·simp [Array.getElem?_eq_none h']
  have hnot:∀e∈oj.after,Region.binds md e=true→e.on≠i:=fun e he hb heq=>by
   have h1:=hall e he hb;rw [heq,hi0] at h1;cases h1
  rcases hfree j oj hoj hji hjun hnot with h|h
  ·exact ⟨oj,hoj,hjun,h.1,h.2⟩
  ·exact absurd hall (gM hcl hi0 _ j oj hoj h)
 induction n with
 | zero=>
   intro listed a w hcl hfree hr hy H w' hw';refine ⟨fun h=>(by rw [h] at hr;cases hr),fun j hj=>?_⟩;by_cases hji:j=i
   ·subst hji;exact ⟨hhi,(hy.mono hw').rH hi (uE (n:=0) hw' H)⟩
   ·obtain ⟨oj,hoj,hjun,hjh,_⟩:=key listed hcl hfree hr j hj hji;have h2:=fw (H w (Below.refl _ _)).1 hjh;rw [getD_set_ne false (Ne.symm hji)] at h2;rcases Nat.lt_or_ge j listed.size with h'|h'
    ·simp [h'] at hjun h2;rw [hjun] at h2;cases h2
    ·simp [Array.getElem?_eq_none h'] at h2
 | succ n ih=>
   intro listed a w hcl hfree hr hy H w' hw';refine ⟨fun h=>(by rw [h] at hr;cases hr),fun j hj=>?_⟩;by_cases hji:j=i
   ·subst hji;exact ⟨hhi,(hy.mono hw').rH hi (uE (n:=n+1) hw' H)⟩
   ·obtain ⟨Mi,h1⟩:=(H w' hw').2 j (ready_mono hj hji);obtain ⟨oj,hoj,hjun,_,hap⟩:=key listed hcl hfree hr j hj hji;have h2:=Mh hoj hap (fun cs b=>hsel i oi cs b hi) (fun cs b=>hsel j oj cs b hoj) (hy.mono hw') h1;have hfree':∀k ok,ops[k]? = some ok→k≠i→(listed.setIfInBounds j true).getD k true=false→
     (∀e∈ok.after,Region.binds md e=true→e.on≠i)→(head.getD k false=true∧oi.apart ops ok=true)∨waits md ops i ops.size k=true:=fun k ok hk hki hun hno=>by
     refine hfree k ok hk hki ?_ hno;by_cases hjk:j=k
     ·subst hjk;exact hjun
     ·rw [getD_set_ne true hjk] at hun;exact hun
    refine ⟨Mi,mG (fun a' w'' h3=>ih (listed.setIfInBounds j true) a' w'' (hcl.step hj) hfree' (ready_mono hr (Ne.symm hji)) h3.1 ?_) h2⟩;rw [Array.setIfInBounds_comm _ _ hji];exact h3.2
theorem Eh {Q:Exit→Act→World→Prop} {T:Array Bool→Act→World→Prop} (hs:Region.noSelect ops=true):∀(l:List Nat) (n:Nat) (listed:Array Bool) (a:Act) (w:World),Closed md ops listed→
 (gN ops l&&jk md ops head l listed)=true→wpQuiet P ops (fun w'=>∃g:Gr w,w'=g.tw) (fun a'=>Eg P md ops head Q T n (aQ l listed) a' w) (aU ops l) a→Eg P md ops head Q T (n+l.length) listed a w
 | [],n,listed,a,w,_,_,h=>h
 | i::l,n,listed,a,w,hcl,hB,h=>by
   simp only [jk,gN,List.all_cons,Bool.and_eq_true] at hB;obtain ⟨⟨hfi,hfl⟩,⟨⟨hr,hf⟩,hh⟩,hB'⟩:=hB;cases ho:ops[i]? with
   | none=>rw [ho] at hfi;cases hfi
   | some o=>
     rw [ho] at hfi;simp only at hfi;have hp:aU ops (i::l)=o::aU ops l:=by simp [aU,ho]
     rw [hp] at h;have hB2:(gN ops l&&jk md ops head l (listed.setIfInBounds i true))=true:=by simp only [gN,Bool.and_eq_true];exact ⟨hfl,hB'⟩
     simp only [wpQuiet] at h;by_cases hw:Region.wanted o (yielded ops a.tmps)=true
     ·rw [if_pos hw] at h;obtain ⟨v,hv,hK⟩:=h;refine CB ho (Region.noSelect_spec hs) hh (n+l.length) listed a w hcl (fE ho hf) (by simpa using hr) (.inl ⟨hw,fun w' hw'=>?_⟩)
       (Eh hs l n _ _ w (hcl.step (by simpa using hr)) hB2 hK)
      have h1:=hv w' ⟨⟨w',hw'⟩,rfl⟩;unfold Oper.quietAt at h1;generalize hrun:(execOp a.eval o).run P w'=r at h1;cases r with
      | ok x w1=>
        cases x <;> simp only [Oper.quietUpon] at h1
        case value u=>rw [h1.1,h1.2];exact .inl rfl
        case skip=>rw [h1.1,h1.2];exact .inr ⟨rfl,rfl⟩
        case enter f args=>exact absurd hrun (tF hfi _ _ _ _)
      | halt x w1=>exact h1.elim
     ·rw [if_neg hw] at h;exact CB ho (Region.noSelect_spec hs) hh (n+l.length) listed a w hcl (fE ho hf) (by simpa using hr) (.inr ⟨by simpa using hw,rfl⟩)
       (Eh hs l n _ _ w (hcl.step (by simpa using hr)) hB2 h)
theorem ng {Q:Exit→Act→World→Prop} {T:Array Bool→Act→World→Prop} (l:List Nat) (n:Nat) {m:Nat} {listed:Array Bool} {a:Act} {w:World} (hn:m=n+l.length)
 (hB:((Region.noSelect ops&&qh md ops listed)&&(gN ops l&&jk md ops head l listed))=true) (h:wpQuiet P ops (fun w'=>∃g:Gr w,w'=g.tw) (fun a'=>Eg P md ops head Q T n (aQ l listed) a' w) (aU ops l) a):Eg P md ops head Q T m listed a w:=by
 subst hn;rw [Bool.and_eq_true,Bool.and_eq_true] at hB;exact Eh hB.1.1 l n listed a w (iF hB.1.2) hB.2 h
theorem nR {Q:Exit→Act→World→Prop} {T:Array Bool→Act→World→Prop} {n:Nat} (i:Nat) {o:Oper} {listed:Array Bool} {a:Act} {w:World} (hB:(Region.ready md ops listed==[i]&&head.getD i false)=true) (hi:nth ops.toList i=some o)
 (h:∀w',Below w.heap.size w w'→wpList P ops (QE Q w' (Eg P md ops head Q T n (listed.setIfInBounds i true))) [o] a w'):Eg P md ops head Q T (n+1) listed a w:=by
 simp only [Bool.and_eq_true,beq_iff_eq] at hB;obtain ⟨hr,hh⟩:=hB;intro w' hw';refine ⟨by rw [hr];simp,fun j hj=>?_⟩;rw [hr] at hj;obtain rfl:j=i:=by simpa using hj
 exact ⟨hh,lH (dV hi) (h w' hw')⟩
def lF (P:Program) (ops:Array Oper) (R:Value→World→Prop) (bk:Value→Nat) (o:Oper) (a:Act) (w:World):Prop:=
 Region.wanted o (yielded ops a.tmps)=true∧∀W,Below w.heap.size w W→∃v W',(execOp a.eval o).run P W=.ok (.value v) W'∧Below W.heap.size W W'∧R v W'∧W.heap.size≤bk v∧bk v<W'.heap.size
theorem lF.mono {R:Value→World→Prop} {bk:Value→Nat} {o:Oper} {a:Act} {w w':World} (h:lF P ops R bk o a w) (hb:Below w.heap.size w w'):lF P ops R bk o a w':=
 ⟨h.1,fun W hW=>h.2 W (ah hb hW)⟩
theorem lF.same {R:Value→World→Prop} {bk:Value→Nat} {o:Oper} {a a':Act} {w:World} (h:lF P ops R bk o a w) (he:execOp a'.eval o=execOp a.eval o)
 (hw:Region.wanted o (yielded ops a'.tmps)=Region.wanted o (yielded ops a.tmps)):lF P ops R bk o a' w:=by
 unfold lF at *;rw [he,hw];exact h
theorem lF.rH {R:Value→World→Prop} {bk:Value→Nat} {Q:Exit→Act→World→Prop} {K:Act→World→Prop} {i:Nat} {o:Oper} {a:Act} {w:World} (hi:ops[i]? = some o) (h:lF P ops R bk o a w)
 (hK:∀v W',Below w.heap.size w W'→R v W'→w.heap.size≤bk v→bk v<W'.heap.size→K (a.put o.dst v) W'):rH P ops Q i K a w:=by
 obtain ⟨hw,h⟩:=h;obtain ⟨v,W',hr,hb,hR,h1,h2⟩:=h w (Below.refl _ _);unfold Cd.rH wpOp;simp only [hi,hw,if_true,Oper.wp,hr,Oper.upon];exact .inl ⟨hb,hK v W' hb hR h1 h2⟩
theorem Iw {Q:Exit→Act→World→Prop} {Φ:Act→World→Prop} {j:Nat} {oj:Oper} (hj:ops[j]? = some oj) (hput:∀a w v,Φ a w→Φ (a.put oj.dst v) w)
 (hdef:∀a w d,Φ a w→Φ { a with defers:=d::a.defers } w) (hmono:∀a w w',Below w.heap.size w w'→Φ a w→Φ a w') {K:Act→World→Prop} {a:Act} {w:World} (h:rH P ops Q j K a w) (hΦ:Φ a w) :
 rH P ops Q j (fun a' w'=>Φ a' w'∧K a' w') a w:=by
 unfold rH wpOp at *;simp only [hj] at *
 split
 ·rename_i hw;simp only [hw,if_true] at h;rcases h with h|⟨h1,h2⟩
  case inr=>exact .inr ⟨h1,h2⟩
  refine .inl ?_;unfold Oper.wp at *;generalize (execOp a.eval oj).run P w=r at *;cases r with
  | ok n w'=>
    cases n <;> simp only [Oper.upon] at h ⊢
    case value u=>exact ⟨h.1,hmono _ _ _ h.1 (hput _ _ _ hΦ),h.2⟩
    case skip=>exact ⟨h.1,hmono _ _ _ h.1 (hput _ _ _ hΦ),h.2⟩
    case defer d=>exact ⟨h.1,hmono _ _ _ h.1 (hput _ _ _ (hdef _ _ _ hΦ)),h.2⟩
    case enter f args=>
     refine Calls.mono h fun e w'' he=>?_;cases e with
     | returned u=>exact ⟨he.1,hmono _ _ _ he.1 (hput _ _ _ hΦ),he.2⟩
     | panicked c=>exact he.elim
     | outgrown=>exact he
    case row row args=>exact Rows.mono h fun u w'' he=>⟨he.1,hmono _ _ _ he.1 (hput _ _ _ hΦ),he.2⟩
  | halt x w'=>
    cases x <;> simp only [Oper.upon] at h ⊢
    case panic u=>exact h.elim
 ·rename_i hw;simp only [hw] at h;exact ⟨h.1,hput _ _ _ hΦ,h.2⟩
theorem OQ {Q:Exit→Act→World→Prop} {j:Nat} {oj:Oper} {d:Option Tmp} {v:Value} (hj:ops[j]? = some oj) (hsj:∀cs b,oj.op≠.select cs b)
 (h1:∀t,d=some t→t∉oj.looksAt ops) (h2:∀t,d=some t→oj.dst≠some t) {K:Act→World→Prop} {a:Act} {w:World} (h:rH P ops Q j K a w) :
 rH P ops Q j (fun a' w'=>∃b,a'=b.put d v∧K b w') (a.put d v) w:=by
 unfold rH wpOp at *;simp only [hj] at *;rw [wanted_put oj a d v h1]
 split
 ·rename_i hw;simp only [hw,if_true] at h;rcases h with h|⟨hasks,hlets⟩
  case inr=>exact .inr ⟨by unfold Oper.asks at *;rw [execOp_put oj hsj a d v h1];exact hasks,hlets⟩
  refine .inl ?_;unfold Oper.wp at *;rw [execOp_put oj hsj a d v h1];generalize (execOp a.eval oj).run P w=r at *;cases r with
  | ok n w'=>
    cases n <;> simp only [Oper.upon] at h ⊢
    case value u=>exact ⟨h.1,_,Act.put_comm a v u h2,h.2⟩
    case skip=>exact ⟨h.1,_,Act.put_comm a v undef h2,h.2⟩
    case defer x=>
     refine ⟨h.1,_,?_,h.2⟩;rw [Act.put_defers,Act.put_comm _ v undef h2]
    case enter f args=>
     refine Calls.mono h fun e w'' he=>?_;cases e with
     | returned u=>exact ⟨he.1,_,Act.put_comm a v u h2,he.2⟩
     | panicked c=>exact he.elim
     | outgrown=>exact he
    case row row args=>exact Rows.mono h fun u w'' he=>⟨he.1,_,Act.put_comm a v u h2,he.2⟩
  | halt x w'=>
    cases x <;> simp only [Oper.upon] at h ⊢
    case panic u=>exact h.elim
 ·rename_i hw;simp only [hw] at h;exact ⟨h.1,_,Act.put_comm a v undef h2,h.2⟩
def bH (ops:Array Oper) (i:Nat):Option Tmp:=(ops[i]?).bind (·.dst)
def dG (ops:Array Oper) (vs:Nat→Value):List Nat→Act→Act
 | [],a=>a
 | i::S,a=>dG ops vs S (a.put (bH ops i) (vs i))
theorem uF {vs:Nat→Value} {d:Option Tmp} {v:Value}:∀(S:List Nat) (a:Act),(∀i∈S,∀t,d=some t→bH ops i≠some t)→(dG ops vs S a).put d v=dG ops vs S (a.put d v)
 | [],_,_=>rfl
 | i::S,a,h=>by
   simp only [dG];rw [uF S _ fun k hk=>h k (List.mem_cons_of_mem _ hk),Act.put_comm a (vs i) v];intro t ht;rintro rfl;exact h i (by simp) t rfl ht
def upd (vs:Nat→Value) (j:Nat) (v:Value):Nat→Value:=fun i=>if i=j then v else vs i
theorem nS {vs us:Nat→Value}:∀(S:List Nat) (a:Act),(∀i∈S,vs i=us i)→dG ops vs S a=dG ops us S a
 | [],_,_=>rfl
 | i::S,a,h=>by
   simp only [dG];rw [h i (by simp),nS S _ fun k hk=>h k (List.mem_cons_of_mem _ hk)]
theorem ni {vs:Nat→Value} {p:Nat→Bool} {j:Nat} {v:Value} (hpj:p j=false):∀(S:List Nat) (a:Act),j∈S→S.Nodup→(∀i∈S,i≠j→∀t,bH ops j=some t→bH ops i≠some t)→
 (dG ops vs (S.filter p) a).put (bH ops j) v=dG ops (upd vs j v) (S.filter fun i=>p i||i==j) a
 | [],_,h,_,_=>by cases h
 | i::S,a,hmem,hnd,hd=>by
   rw [List.nodup_cons] at hnd;by_cases hij:i=j
   ·subst hij;have hnot:=hnd.1;have e:S.filter (fun k=>p k||k==i)=S.filter p:=List.filter_congr fun k hk=>by
     have:k≠i:=fun e=>hnot (e▸hk);simp [this]
    rw [List.filter_cons_of_neg (by simp [hpj]),List.filter_cons_of_pos (by simp),e];simp only [dG];have e2:upd vs i v i=v:=by simp [upd]
    rw [e2,uF]
    ·refine nS _ _ fun k hk=>?_;have:k≠i:=fun e=>hnot (e▸(List.mem_filter.1 hk).1);simp [upd,this]
    ·intro k hk;have hkS:=(List.mem_filter.1 hk).1;exact hd k (by simp [hkS]) (fun e=>hnot (e▸hkS))
   ·have hj':j∈S:=by
     rcases List.mem_cons.1 hmem with h|h
     ·exact absurd h.symm hij
     ·exact h
    have hd':∀k∈S,k≠j→∀t,bH ops j=some t→bH ops k≠some t:=fun k hk=>hd k (by simp [hk]);cases hp:p i
    ·rw [List.filter_cons_of_neg (by simp [hp]),List.filter_cons_of_neg (by simp [hp,hij])];exact ni hpj S a hj' hnd.2 hd'
    ·rw [List.filter_cons_of_pos hp,List.filter_cons_of_pos (by simp [hp])];simp only [dG];rw [ni hpj S _ hj' hnd.2 hd'];have:upd vs j v i=vs i:=by simp [upd,hij]
     rw [this]
theorem sF {Q:Exit→Act→World→Prop} {j:Nat} {oj:Oper} {vs:Nat→Value} (hj:ops[j]? = some oj) (hsj:∀cs b,oj.op≠.select cs b):∀(S:List Nat),
 (∀i∈S,(∀t,bH ops i=some t→t∉oj.looksAt ops)∧∀t,bH ops i=some t→oj.dst≠some t)→∀{K:Act→World→Prop} {a:Act} {w:World},rH P ops Q j K a w→
 rH P ops Q j (fun a' w'=>∃b,a'=dG ops vs S b∧K b w') (dG ops vs S a) w
 | [],_,_,_,_,h=>mG (fun a' w' h=>⟨a',rfl,h⟩) h
 | i::S,hS,K,a,w,h=>by
   have h1:=OQ (v:=vs i) hj hsj (hS i (by simp)).1 (hS i (by simp)).2 h;have h2:=sF (vs:=vs) hj hsj S (fun k hk=>hS k (by simp [hk])) h1;exact mG (fun a' w' ⟨b,hb,c,hc,hk⟩=>⟨c,by subst hc;exact hb,hk⟩) h2
def abz (md:Region.Mode) (ops:Array Oper) (head listed:Array Bool) (S:List Nat):Bool:=
 (Region.noSelect ops&&qh md ops listed)&&(S.all fun i=>(Region.ready md ops listed).contains i&&head.getD i false&&match ops[i]? with
   | none=>false
   | some oi=>(List.range ops.size).all fun j=>j==i||listed.getD j true||match ops[j]? with
     | some oj=>if head.getD j false then oi.apart ops oj&&oj.apart ops oi else waits md ops i ops.size j
     | none=>true)&&decide S.Nodup
theorem dK:∀(l:List Nat) (listed:Array Bool) (k:Nat) (d:Bool),(aQ l listed).getD k d=if k∈l∧k<listed.size then true else listed.getD k d
 | [],_,_,_=>by simp [aQ]
 | i::l,listed,k,d=>by
   simp only [aQ];rw [dK l];by_cases hk:k=i
   ·subst hk;by_cases hs:k<listed.size
    ·simp [hs]
    ·simp [hs]
   ·have:(listed.setIfInBounds i true).getD k d=listed.getD k d:=getD_set_ne d (Ne.symm hk);rw [this];simp [hk]
theorem jE:∀(l:List Nat) (listed:Array Bool),(aQ l listed).size=listed.size
 | [],_=>rfl
 | i::l,listed=>by simp only [aQ];rw [jE l];simp
theorem sG {l l':List Nat} {x y:Array Bool} (hs:x.size=y.size) (h:∀k,k<x.size→((k∈l∨x.getD k false=true)↔(k∈l'∨y.getD k false=true))):aQ l x=aQ l' y:=by
 apply Array.ext_getElem?;intro k;by_cases hk:k<x.size
 ·have e1:=dK l x k false;have e2:=dK l' y k false;have hk1:k<(aQ l x).size:=by rw [jE];exact hk
  have hk2:k<(aQ l' y).size:=by rw [jE,←hs];exact hk
  rw [Array.getElem?_eq_getElem hk1,Array.getElem?_eq_getElem hk2];have g1:(aQ l x).getD k false=(aQ l x)[k]:=by simp [hk1]
  have g2:(aQ l' y).getD k false=(aQ l' y)[k]:=by simp [hk2]
  rw [←g1,←g2,e1,e2];have h:=h k hk;have hky:k<y.size:=by omega
  simp only [hk,hky,and_true];by_cases a1:k∈l <;> by_cases a2:k∈l' <;> simp only [a1,a2,if_true,if_false,true_or,false_or,true_iff,iff_true] at h ⊢
  ·exact congrArg some h.symm
  ·exact congrArg some h
  ·exact congrArg some (Bool.eq_iff_iff.2 h)
 ·rw [Array.getElem?_eq_none (by rw [jE];omega),Array.getElem?_eq_none (by rw [jE];omega)]
def TMk (ops:Array Oper) (S:List Nat) (R:Nat→Value→World→Prop) (bk:Value→Nat) (N:Nat) (T:Array Bool→Act→World→Prop):Array Bool→Act→World→Prop:=
 fun L a w=>∀vs:Nat→Value,(∀i∈S,R i (vs i) w∧N≤bk (vs i)∧bk (vs i)<w.heap.size)→(∀i∈S,∀k∈S,i≠k→bk (vs i)≠bk (vs k))→T L (dG ops vs S a) w
theorem bY {x:Array Bool} {k:Nat} (h:x.getD k true=false):x.getD k false=false:=by
 rcases Nat.lt_or_ge k x.size with h'|h'
 ·simp [h'] at h ⊢;exact h
 ·simp [Array.getElem?_eq_none h']
theorem il {vs:Nat→Value} {o:Oper} (hs:∀cs b,o.op≠.select cs b):∀(S:List Nat) (a:Act),(∀i∈S,∀t,bH ops i=some t→t∉o.looksAt ops)→
 execOp (dG ops vs S a).eval o=execOp a.eval o∧Region.wanted o (yielded ops (dG ops vs S a).tmps)=Region.wanted o (yielded ops a.tmps)
 | [],_,_=>⟨rfl,rfl⟩
 | i::S,a,h=>by
   obtain ⟨h1,h2⟩:=il (vs:=vs) hs S (a.put (bH ops i) (vs i)) (fun k hk=>h k (by simp [hk]));simp only [dG];rw [h1,h2,execOp_put o hs a _ _ (h i (by simp)),wanted_put o a _ _ (h i (by simp))];exact ⟨rfl,rfl⟩
theorem lU {p:Nat→Bool} {j:Nat} (hpj:p j=false):∀(S:List Nat),j∈S→S.Nodup→(S.filter fun i=>!(p i||i==j)).length+1=(S.filter fun i=>!p i).length
 | [],h,_=>by cases h
 | i::S,hmem,hnd=>by
   rw [List.nodup_cons] at hnd;by_cases hij:i=j
   ·subst hij;have e:S.filter (fun k=>!(p k||k==i))=S.filter (fun k=>!p k):=List.filter_congr fun k hk=>by
     have:k≠i:=fun e=>hnd.1 (e▸hk);simp [this]
    rw [List.filter_cons_of_neg (by simp),List.filter_cons_of_pos (by simp [hpj]),e];simp
   ·have hj':j∈S:=by
     rcases List.mem_cons.1 hmem with h|h
     ·exact absurd h.symm hij
     ·exact h
    have ih:=lU hpj S hj' hnd.2;cases hp:p i
    ·rw [List.filter_cons_of_pos (by simp [hp,hij]),List.filter_cons_of_pos (by simp [hp])];simp only [List.length_cons];omega
    ·rw [List.filter_cons_of_neg (by simp [hp]),List.filter_cons_of_neg (by simp [hp])];exact ih
theorem KO {Q:Exit→Act→World→Prop} {T:Array Bool→Act→World→Prop} (S:List Nat) (R:Nat→Value→World→Prop) (bk:Value→Nat) (N:Nat)
 (Iy:∀i v w w',Below w.heap.size w w'→R i v w→R i v w') (hs:Region.noSelect ops=true) (hnd:S.Nodup)
 (hhead:∀i∈S,head.getD i false=true) (L0:Array Bool) (hS0:∀i∈S,L0.getD i true=false)
 (hap:∀i∈S,∃oi,ops[i]? = some oi∧∀j oj,ops[j]? = some oj→j≠i→L0.getD j true=false→(head.getD j false=true∧oi.apart ops oj=true∧oj.apart ops oi=true)∨(head.getD j false=false∧waits md ops i ops.size j=true)) :
 ∀(m n:Nat) (done:Nat→Bool) (vs:Nat→Value) (listed:Array Bool) (a:Act) (w:World),m=n+(S.filter fun i=>!done i).length→Closed md ops listed→
  (∀j,listed.getD j true=false→L0.getD j true=false)→
  (∀i∈S,done i=false→i∈Region.ready md ops listed∧∀oi,ops[i]? = some oi→lF P ops (R i) bk oi a w)→
  (∀i∈S,done i=true→listed.getD i false=true∧R i (vs i) w∧N≤bk (vs i)∧bk (vs i)<w.heap.size)→(∀i∈S,∀k∈S,done i=true→done k=true→i≠k→bk (vs i)≠bk (vs k))→N≤w.heap.size→
  Eg P md ops head Q (TMk ops S R bk N T) n (aQ (S.filter fun i=>!done i) listed) a w→
  JM P md ops head Q T m listed (dG ops vs (S.filter done) a) w:=by
 intro m
 induction m with
 | zero=>
   intro n done vs listed a w hm hcl hL kS hdone jF hN H;obtain ⟨rfl,hr⟩:n=0∧(S.filter fun i=>!done i).length=0:=by omega
   have hrn:=List.length_eq_zero_iff.1 hr;rw [hrn] at H;have hall:∀i∈S,done i=true:=fun i hi=>by
    have:=(List.filter_eq_nil_iff.1 hrn) i hi;simpa using this
   obtain ⟨h1,h2⟩:=H w (Below.refl _ _);have hf:S.filter done=S:=List.filter_eq_self.2 hall;rw [hf];exact ⟨h1,h2 vs (fun i hi=>(hdone i hi (hall i hi)).2) (fun i hi k hk=>jF i hi k hk (hall i hi) (hall k hk))⟩
 | succ m ih=>
   intro n done vs listed a w hm hcl hL kS hdone jF hN H;have vT:∀j,j∈Region.ready md ops listed→j∉S→j∈Region.ready md ops (aQ (S.filter fun i=>!done i) listed):=by
    intro j hj iQ;rw [mem_ready] at hj ⊢;obtain ⟨h0,o,ho,hall⟩:=hj;refine ⟨?_,o,ho,fun e he hb=>?_⟩
    ·rw [dK,if_neg (fun h=>iQ (List.mem_filter.1 h.1).1)];exact h0
    ·rw [dK];split
     ·rfl
     ·exact hall e he hb
   constructor
   ·
    cases hf:S.filter (fun i=>!done i) with
    | cons i l=>
      have hi:i∈S.filter (fun i=>!done i):=by rw [hf];simp
      obtain ⟨JL,hid⟩:=List.mem_filter.1 hi;have:=(kS i JL (by simpa using hid)).1;intro h;rw [h] at this;cases this
    | nil=>
      rw [hf] at hm H;obtain rfl:n=m+1:=by simp at hm;omega
      exact (H w (Below.refl _ _)).1
   ·intro j hj;by_cases iQ:j∈S
    ·
     have hjd:done j=false:=by
      cases hd:done j
      ·rfl
      ·have h1:=(hdone j iQ hd).1;have h2:=bY (mem_ready.1 hj).1;rw [h1] at h2;cases h2
     refine ⟨hhead j iQ,?_⟩;obtain ⟨oj,hoj,RF⟩:=hap j iQ;have hMK:=(kS j iQ hjd).2 oj hoj;have xk:bH ops j=oj.dst:=by simp [bH,hoj]
     have oD:∀i∈S,i≠j→(∀t,bH ops i=some t→t∉oj.looksAt ops)∧(∀t,bH ops j=some t→bH ops i≠some t):=by
      intro i hi hij;obtain ⟨oi,hoi,_⟩:=hap i hi;have RH:bH ops i=oi.dst:=by simp [bH,hoi]
      rcases RF i oi hoi hij (hS0 i hi) with ⟨_,h,_⟩|⟨h,_⟩
      ·obtain ⟨_,h2,h3⟩:=Oper.apart_spec h;rw [RH,xk];exact ⟨h3,h2⟩
      ·rw [hhead i hi] at h;cases h
     have hex:=il (vs:=vs) (Region.noSelect_spec hs j oj · · hoj) (S.filter done) a (fun i hi=>(oD i (List.mem_filter.1 hi).1 (fun e=>by have h:=(List.mem_filter.1 hi).2;rw [e,hjd] at h;cases h)).1);refine lF.rH hoj (hMK.same hex.1 hex.2) fun v W' hb hR h1 h2=>?_;rw [←xk,ni hjd S a iQ hnd (fun i hi hij=>(oD i hi hij).2)];have hjlt:j<listed.size:=by
      have h0:=(mem_ready.1 hj).1;rcases Nat.lt_or_ge j listed.size with h'|h'
      ·exact h'
      ·simp [Array.getElem?_eq_none h'] at h0
     have RI:upd vs j v j=v:=by simp [upd]
     have Fv:∀i,i≠j→upd vs j v i=vs i:=fun i hi=>by simp [upd,hi]
     refine ih n (fun i=>done i||i==j) (upd vs j v) (listed.setIfInBounds j true) a W' (by have:=lU hjd S iQ hnd;omega) (hcl.step hj) ?_ ?_ ?_ ?_ (Nat.le_trans hN hb.size) ?_
     ·intro k hk;by_cases hkj:j=k
      ·subst hkj;simp [hjlt] at hk
      ·rw [getD_set_ne true hkj] at hk;exact hL k hk
     ·intro i hi hid;simp only [Bool.or_eq_false_iff,beq_eq_false_iff_ne] at hid;obtain ⟨g1,g2⟩:=kS i hi hid.1;exact ⟨ready_mono g1 hid.2,fun oi hoi=>(g2 oi hoi).mono hb⟩
     ·intro i hi hid;by_cases hij:i=j
      ·subst hij;rw [RI];exact ⟨by simp [hjlt],hR,Nat.le_trans hN h1,h2⟩
      ·simp only [Bool.or_eq_true,beq_iff_eq,hij,or_false] at hid;rw [Fv i hij];obtain ⟨g1,g2,g3,g4⟩:=hdone i hi hid;exact ⟨getD_set_true g1,Iy _ _ _ _ hb g2,g3,Nat.lt_of_lt_of_le g4 hb.size⟩
     ·intro i hi k hk hid hkd hik;by_cases hij:i=j
      ·subst hij;have hki:k≠i:=Ne.symm hik;simp only [Bool.or_eq_true,beq_iff_eq,hki,or_false] at hkd;rw [RI,Fv k hki];have:=(hdone k hk hkd).2.2.2;omega
      ·simp only [Bool.or_eq_true,beq_iff_eq,hij,or_false] at hid;rw [Fv i hij];by_cases hkj:k=j
       ·subst hkj;rw [RI];have:=(hdone i hi hid).2.2.2;omega
       ·simp only [Bool.or_eq_true,beq_iff_eq,hkj,or_false] at hkd;rw [Fv k hkj];exact jF i hi k hk hid hkd hik
     ·have e:aQ (S.filter fun i=>!(done i||i==j)) (listed.setIfInBounds j true)=aQ (S.filter fun i=>!done i) listed:=by
       refine sG (by simp) fun k hk=>?_;simp only [Array.size_setIfInBounds] at hk;simp only [List.mem_filter];by_cases hkj:k=j
       ·subst hkj;simp [hk,iQ,hjd]
       ·rw [getD_set_ne false (Ne.symm hkj)];simp [hkj]
      rw [e];exact uE hb H
    ·
     have hjun:=(mem_ready.1 hj).1;have hGj:∀d,(aQ (S.filter fun i=>!done i) listed).getD j d=listed.getD j d:=fun d=>by
      rw [dK,if_neg (fun h=>iQ (List.mem_filter.1 h.1).1)]
     cases n with
     | zero=>
       exfalso;obtain ⟨_,oj,hoj,hall⟩:=mem_ready.1 hj;have hH:=(H w (Below.refl _ _)).1;have Mi:head.getD j false=false:=by
        cases hh:head.getD j false
        ·rfl
        ·have:=fw hH hh;rw [hGj,bY hjun] at this;cases this
       obtain ⟨i,hi⟩:∃i,i∈S.filter fun i=>!done i:=by
        cases hf:S.filter (fun i=>!done i) with
        | nil=>rw [hf] at hm;simp at hm
        | cons i l=>exact ⟨i,by simp⟩
       obtain ⟨JL,hid⟩:=List.mem_filter.1 hi;have afl:done i=false:=by simpa using hid
       obtain ⟨oi,hoi,Yu⟩:=hap i JL;have hij:j≠i:=fun e=>iQ (e▸JL);rcases Yu j oj hoj hij (hL j hjun) with ⟨h,_⟩|⟨_,h⟩
       ·rw [Mi] at h;cases h
       ·have hi0:=bY (mem_ready.1 (kS i JL afl).1).1;exact gM hcl hi0 _ j oj hoj h hall
     | succ n=>
       obtain ⟨Mi,hop⟩:=(H w (Below.refl _ _)).2 j (vT j hj iQ);refine ⟨Mi,?_⟩;obtain ⟨_,oj,hoj,_⟩:=mem_ready.1 hj;have oD:∀i∈S,(∀t,bH ops i=some t→t∉oj.looksAt ops)∧(∀t,bH ops i=some t→oj.dst≠some t)∧∀oi,ops[i]? = some oi→∀t,oj.dst=some t→t∉oi.looksAt ops:=by
        intro i hi;obtain ⟨oi,hoi,Yu⟩:=hap i hi;have RH:bH ops i=oi.dst:=by simp [bH,hoi]
        rcases Yu j oj hoj (fun e=>iQ (e▸hi)) (hL j hjun) with ⟨_,h,_⟩|⟨h,_⟩
        ·obtain ⟨g1,g2,g3⟩:=Oper.apart_spec h;rw [RH];refine ⟨g1,g2,fun oi' vU=>?_⟩;rw [hoi] at vU;cases vU;exact g3
        ·rw [Mi] at h;cases h
       have hk:=Iw (Φ:=fun a w'=>(∀i∈S,done i=false→∀oi,ops[i]? = some oi→lF P ops (R i) bk oi a w')∧(∀i∈S,done i=true→R i (vs i) w'∧N≤bk (vs i)∧bk (vs i)<w'.heap.size)∧N≤w'.heap.size) hoj
        (fun a w' v h=>⟨fun i hi hid oi hoi=>(h.1 i hi hid oi hoi).same (execOp_put oi (Region.noSelect_spec hs i oi · · hoi) a _ _ ((oD i hi).2.2 oi hoi)) (wanted_put oi a _ _ ((oD i hi).2.2 oi hoi)),h.2⟩)
        (fun a w' d h=>⟨fun i hi hid oi hoi=>(h.1 i hi hid oi hoi).same rfl rfl,h.2⟩)
        (fun a w' w'' hb h=>⟨fun i hi hid oi hoi=>(h.1 i hi hid oi hoi).mono hb,fun i hi hid=>⟨Iy _ _ _ _ hb (h.2.1 i hi hid).1,(h.2.1 i hi hid).2.1,Nat.lt_of_lt_of_le (h.2.1 i hi hid).2.2 hb.size⟩,Nat.le_trans h.2.2 hb.size⟩)
        hop ⟨fun i hi hid=>(kS i hi hid).2,fun i hi hid=>(hdone i hi hid).2,hN⟩
       have hu:=sF (vs:=vs) hoj (Region.noSelect_spec hs j oj · · hoj) (S.filter done) (fun i hi=>⟨(oD i (List.mem_filter.1 hi).1).1,(oD i (List.mem_filter.1 hi).1).2.1⟩) hk;refine mG (fun a' w' h=>?_) hu;obtain ⟨b,rfl,⟨hm1,hm2,hN'⟩,hH⟩:=h;have hjlt:j<listed.size:=by
        rcases Nat.lt_or_ge j listed.size with h'|h'
        ·exact h'
        ·simp [Array.getElem?_eq_none h'] at hjun
       refine ih n done vs (listed.setIfInBounds j true) b w' (by omega) (hcl.step hj) ?_ ?_ ?_ jF hN' ?_
       ·intro k hk;by_cases hkj:j=k
        ·subst hkj;simp [hjlt] at hk
        ·rw [getD_set_ne true hkj] at hk;exact hL k hk
       ·intro i hi hid;exact ⟨ready_mono (kS i hi hid).1 (fun e=>iQ (e▸hi)),hm1 i hi hid⟩
       ·intro i hi hid;exact ⟨getD_set_true (hdone i hi hid).1,hm2 i hi hid⟩
       ·have e:aQ (S.filter fun i=>!done i) (listed.setIfInBounds j true)=(aQ (S.filter fun i=>!done i) listed).setIfInBounds j true:=by
         have:(aQ (S.filter fun i=>!done i) listed).setIfInBounds j true=aQ [j] (aQ (S.filter fun i=>!done i) listed):=rfl;rw [this];have h2:∀(l:List Nat) (x:Array Bool),aQ [j] (aQ l x)=aQ l (aQ [j] x):=by
          intro l
          induction l with
          | nil=>intro x;rfl
          | cons k l ihl=>
            intro x;simp only [aQ] at ihl ⊢;rw [ihl];by_cases hkj:k=j
            ·subst hkj;rfl
            ·rw [Array.setIfInBounds_comm _ _ hkj]
         rw [h2];rfl
        rw [e];exact hH
theorem KP {Q:Exit→Act→World→Prop} {T:Array Bool→Act→World→Prop} (S:List Nat) (R:Nat→Value→World→Prop) (bk:Value→Nat) (n:Nat) {m:Nat} {listed:Array Bool} {a:Act} {w:World} (hm:m=n+S.length)
 (hB:abz md ops head listed S=true) (Iy:∀i v w w',Below w.heap.size w w'→R i v w→R i v w') (hM:∀i∈S,∀o,nth ops.toList i=some o→lF P ops (R i) bk o a w)
 (h:Eg P md ops head Q (TMk ops S R bk w.heap.size T) n (aQ S listed) a w):JM P md ops head Q T m listed a w:=by
 simp only [abz,Bool.and_eq_true,decide_eq_true_eq,List.all_eq_true] at hB;obtain ⟨⟨⟨hs,hcl⟩,hall⟩,hnd⟩:=hB;have vT:∀i∈S,i∈Region.ready md ops listed:=fun i hi=>by have:=(hall i hi).1.1;simpa using this
 have hf:S.filter (fun _=>false)=[]:=by simp
 have ft:S.filter (fun i=>!(fun _=>false) i)=S:=List.filter_eq_self.2 (by simp)
 have:=KO (P:=P) (head:=head) (Q:=Q) (T:=T) S R bk w.heap.size Iy hs hnd (fun i hi=>(hall i hi).1.2) listed (fun i hi=>(mem_ready.1 (vT i hi)).1) (fun i hi=>by
  have h2:=(hall i hi).2;cases ho:ops[i]? with
  | none=>rw [ho] at h2;cases h2
  | some oi=>
    rw [ho] at h2;refine ⟨oi,rfl,fun j oj hj hji hun=>?_⟩;simp only [List.all_eq_true,List.mem_range] at h2;have h3:=h2 j (Array.getElem?_eq_some_iff.1 hj).1;simp only [hj,Bool.or_eq_true,beq_iff_eq,hji,false_or,hun,Bool.false_eq_true] at h3
    split at h3
    ·rename_i hh;simp only [Bool.and_eq_true] at h3;exact .inl ⟨hh,h3⟩
    ·rename_i hh
     exact .inr ⟨by simpa using hh,h3⟩) m n (fun _=>false) (fun _=>undef) listed a w (by rw [ft];exact hm) (iF hcl) (fun j hj=>hj)
  (fun i hi _=>⟨vT i hi,fun oi hoi=>hM i hi oi (by rw [Dm];simpa using hoi)⟩) (fun i _ h=>by cases h) (fun i _ k _ h=>by cases h) (Nat.le_refl _) (by rw [ft];exact h)
 rw [hf] at this;exact this
theorem pI {Q:Exit→Act→World→Prop} {S:List Nat} {R:Nat→Value→World→Prop} {bk:Value→Nat} {N:Nat} (l:List Nat) {listed:Array Bool} {a:Act} {w:World} (hB:(iE head listed&&(Region.noSelect ops&&oH md ops l listed))=true)
 (h:∀w',Below w.heap.size w w'→∀vs:Nat→Value,(∀i∈S,R i (vs i) w'∧N≤bk (vs i)∧bk (vs i)<w'.heap.size)→(∀i∈S,∀k∈S,i≠k→bk (vs i)≠bk (vs k))→wpList P ops (QP Q) (aU ops l) (dG ops vs S a) w') :
 Eg P md ops head Q (TMk ops S R bk N (fun l' a w=>wpAny P md ops Q l.length l' a w)) 0 listed a w:=by
 simp only [Bool.and_eq_true] at hB;exact fun w' hw'=>⟨hB.1,fun vs h1 h2=>oI _ _ _ _ (fF hB.2.1 l listed _ w' hB.2.2 (h w' hw' vs h1 h2))⟩
theorem CE:∀(l:List Nat) (os:List Oper),l.map (nth ops.toList)=os.map some→aU ops l=os
 | [],[],_=>rfl
 | [],_::_,h=>by cases h
 | _::_,[],h=>by cases h
 | i::l,o::os,h=>by
   simp only [List.map_cons,List.cons.injEq] at h;have h1:aU ops (i::l)=o::aU ops l:=by simp [aU,dV h.1]
   rw [h1,CE l os h.2]
theorem Ei {Q:Exit→Act→World→Prop} {a:Act} {w:World}:∀{l:List Nat} {os:List Oper},l.map (nth ops.toList)=os.map some→wpList P ops Q os a w→wpList P ops Q (aU ops l) a w:=by
 intro l os h hw;have e:=CE l os h;rw [e];exact hw
theorem Ej {Q:Exit→Act→World→Prop} {a:Act} {w:World} (h:Q .normal a w):QP Q .normal a w:=h
end
end
open Go.RowKit
theorem CG {w:World} {k:Nat} {c u:Value} {T:TypeId} {fr:Nat×Nat} (h:w.heap[k]? = some (.cells #[c] T fr)):(w.setCell ⟨k,0,none⟩ u).heap[k]? = some (.cells #[u] T fr):=by
 simp only [World.setCell,Array.getElem?_modify,if_pos,h];simp
def pJ:Value→Nat
 | .pointer (some a)=>a.block
 | .slice (some a) _ _=>a.block
 | _=>0
theorem uG {P:Program} {ops:Array Oper} {o:Oper} {a:Act} {w:World} {T:TypeId} {cs:Array Value} (hg:o.guard=none) (ho:o.op=.alloc T)
 (hz:∀W,(Instr.alloc T true (.tuple #[])).run P W=.ok (.pointer (some ⟨W.heap.size,0,none⟩)) (W.alloc (.cells cs T))) :
 lF P ops (fun v W=>∃k,v=.pointer (some ⟨k,0,none⟩)∧W.heap[k]? = some (.cells cs T)) pJ o a w:=by
 refine ⟨by simp [Region.wanted,hg],fun W hW=>⟨_,_,?_,af _,⟨W.heap.size,rfl,heap_alloc_new' _ _ _ rfl⟩,Nat.le_refl _,?_⟩⟩
 ·have:execOp a.eval o=(do pure (.value (←Instr.alloc T true (.tuple #[])))):=by simp only [execOp,ho]
  rw [this];show (Sem.bind _ _).run P W=_;rw [Sem.run_bind',hz W];rfl
 ·simp [pJ]
theorem pK {ops:Array Oper} {vs:Nat→Value} {i:Nat} {a:Act} {d:Option Tmp} (h:bH ops i=d):dG ops vs [i] a=a.put d (vs i):=by subst h;rfl
theorem uH {w w':World} {v:Value} {o:Obj} (hb:Below w.heap.size w w') (h:∃k,v=.pointer (some ⟨k,0,none⟩)∧w.heap[k]? = some o):∃k,v=.pointer (some ⟨k,0,none⟩)∧w'.heap[k]? = some o:=by
 obtain ⟨k,h1,h2⟩:=h;exact ⟨k,h1,(hb.block k (block_lt h2)).trans h2⟩
end Go.Cd
