/- CedillaProducts: where a text may be cut apart, it has as many texts that are alike as its two parts multiplied; no condition. -/
import Derived.Test.YtmpkfkoficehpaaGreatDoorQ17
import Derived.Laws.BitsAllLaws
set_option maxRecDepth 100000
set_option maxHeartbeats 6400000
namespace Go.Proofs.YtmpkfkoficehpaaGreatDoor
open Go.RowKit Go.Cd
theorem R6 {w:World} {v u:Value} {l m:List Nat} (h:Sl l5 w v (gD l)) (k:Sl l5 w u (gD m)) (hmax:l.length<1099511627776) :
 Calls Tryz.prog 27 #[v,u] w fun e w'=>e=.returned (.bool (decide (l=m)))∧Below w.heap.size w w':=by
 obtain ⟨a,cap,rfl,hc,hr⟩:=h.out;obtain ⟨a2,cap2,rfl,hc2,hr2⟩:=k.out;simp only [dD] at *;clear h k;by_cases hlen:l.length=m.length
 ·have hcell:∀i (hi:i<l.length) (hj:i<m.length),∃b off b2 II,a=some ⟨b,off,none⟩∧a2=some ⟨b2,II,none⟩∧w.cell? ⟨b,off+i,none⟩=some (.int .u32 (l[i]:Nat))∧w.cell? ⟨b2,II+i,none⟩=some (.int .u32 (m[i]:Nat)):=fun i hi hj=>by
   obtain ⟨b,off,ha,_,h1⟩:=hr i hi;obtain ⟨b2,II,ha2,_,h2⟩:=hr2 i (by omega);rw [gm _ _ hi] at h1;rw [gm _ _ (by omega)] at h2;exact ⟨b,off,b2,II,ha,ha2,h1,h2⟩
  have abM:=aa hcell;have HLen:=aa hlen;obtain ⟨n,hn⟩:=ae l.length;have HN:=aa hn;rw [←hlen,←hn];rw [←hn] at hmax;clear hcell hr hr2 hlen hn hc hc2;go_enter Tryz.func27,Tryz.ntmps27;go_wp2_with fail;go_loopw [13] (fun i wr=>∃k:Nat,k≤n∧i=.int .i64 k∧l.take k=m.take k∧Below w.heap.size w wr) (fun i _=>n-(intOf i).toNat)
  case atStart=>exact ⟨0,by omega,rfl,rfl,Below.refl _ _⟩
  case round=>
   obtain ⟨k,hk,rfl,htk,hb⟩:=hrel;have HT:=aa htk;clear htk;by_cases hlt:k<n
   ·obtain ⟨b,off,b2,II,rfl,rfl,h1,h2⟩:=abM.out k (by have:=HN.out;omega) (by have:=HN.out;have:=HLen.out;omega);obtain ⟨d,hd⟩:∃d,d=l[k]'(by have:=HN.out;omega):=⟨_,rfl⟩;obtain ⟨d2,hd2⟩:∃d,d=m[k]'(by have:=HN.out;have:=HLen.out;omega):=⟨_,rfl⟩;rw [←hd] at h1;rw [←hd2] at h2;have HD:=aa hd;have HD2:=aa hd2;have hg1:=Gr.cell (ah hb (ag wr)) h1;have hg2:=Gr.cell (ah hb (ag wr)) h2;clear hd hd2;go_wp2_with fail;refine aF (Array.replicate 9 true) 9 0 mixed (by rfl) ?_;refine ay [0,1,2,3,4,5,6,7,8] 0 rfl (by kernel_rfl) ?_
    repeat (refine aB rfl ?_;go_big_quiet_step (rfl))
    refine az ?_;refine aJ [] (by kernel_rfl) ?_;refine tail_nil ?_;by_cases hdd:d=d2
    ·subst hdd;go_wp2;go_roundw
     case rel=>
      refine ⟨k+1,by omega,rfl,?_,ah hb (ag wr)⟩;rw [List.take_succ_eq_append_getElem (by have:=HN.out;omega),List.take_succ_eq_append_getElem (by have:=HN.out;have:=HLen.out;omega),HT.out,←HD.out,←HD2.out]
     case measure=>simp [intOf];omega
    ·have hz:((d:Int)==d2)=false:=by simp;omega
     have hne:¬l=m:=fun e=>hdd (by rw [HD.out,HD2.out];subst e;rfl);have HE:=aa (decide_eq_false hne);go_wp2;go_ret;exact ⟨dX HE.out.symm,ah hb (ag wr)⟩
   ·obtain rfl:k=n:=by omega
    have he:l=m:=by
     have:=HT.out;rw [List.take_of_length_le (by rw [HN.out];exact Nat.le_refl _),List.take_of_length_le (by rw [HN.out,HLen.out];exact Nat.le_refl _)] at this;exact this
    have HE:=aa (decide_eq_true he);go_wp2;go_ret;exact ⟨dX HE.out.symm,hb⟩
 ·have hne:¬l=m:=fun e=>hlen (by rw [e]);have HE:=aa (decide_eq_false hne);rw [HE.out];have hz:((l.length:Int)==m.length)=false:=by simp;omega
  go_enter Tryz.func27,Tryz.ntmps27;go_wp2;go_ret;exact ⟨rfl,Below.refl _ _⟩
theorem bO.sl {w:World} {s:Value} {x:Nat} (h:bO w (.agg #[s]) x):Sl l5 w s (gD (bR B x)):=by
 obtain ⟨s',hs,h⟩:=h;simp at hs;rw [hs];exact h
theorem MK {w:World} {v u:Value} {x y:Nat} (h:bO w v x) (k:bO w u y) (hx:(bR B x).length<1099511627776) :
 Calls Tryz.prog 10 #[v,u] w fun e w'=>e=.returned (.bool (decide (x=y)))∧Below w.heap.size w w':=by
 obtain ⟨a,n,cap,rfl,h⟩:=h.out;obtain ⟨a2,n2,cap2,rfl,k⟩:=k.out;have l1:=fun (W:World) (E:Below w.heap.size w W)=>R6 ((bO.sl h).mono E) ((bO.sl k).mono E) hx;have hd:decide (bR B x=bR B y)=decide (x=y):=by
  rw [decide_eq_decide];exact ⟨fun e=>Qq bF e,fun e=>by rw [e]⟩
 rw [hd] at l1;have L1:=aa l1;clear l1 hd h k;go_enter Tryz.func10,Tryz.ntmps10;go_wp2_with fail;refine (L1.out _ (ed _ _)).mono ?_;rintro e w1 ⟨rfl,hb⟩;go_wp2;go_ret;exact ⟨rfl,ah (ed _ _) hb⟩
end Go.Proofs.YtmpkfkoficehpaaGreatDoor
namespace Go.Cd
open Go.RowKit
theorem gJ (z:Value) (k:Nat):Builtin.zeroCells #[z] k=(List.replicate k z).toArray:=by
 apply Array.ext
 ·simp [Builtin.zeroCells]
 ·intro i h1 h2;simp [Builtin.zeroCells];rw [Nat.mod_one];simp
theorem pQ {P:Program} (w:World) (base:Nat) (t tn ty e:TypeId) (i:TypeInfo) (z:Value) (kq kn:IntKind) (bytes:Nat) (ht:P.underlying t=some (.slice e)) (htn:P.underlying tn=some (.int kn))
 (hi:P.info? e=some i) (hz:i.zero=some z) (hsize:i.size=1) (hby:i.bytes=bytes) (hzc:z.cells=#[z]) (hz1:z.oneCell'=true)
 (v:Value) (n:Nat) (xs:List Value) (hown:w.ownsRow base e 1 v n xs) (k:Nat)
 (h63:n+k≤maxLen) (hbytes:(n+k)*bytes≤140737488355328) (hbase:base≤w.heap.size) :
 ∃v' w',(Builtin.append_ #[t,tn] ty #[v,.int kq k]).run P w=.ok v' w'∧w'.ownsRow base e 1 v' (n+k) (xs++List.replicate k z)∧w.grownBy w' v.ownBlock:=by
 subst hby
 have hm:maxLen≤9223372036854775807:=by decide
 have hw:IntKind.i64.wrap (k:Int)=k:=by rw [IntKind.wrap_i64];omega
 have hkb:k*i.bytes≤140737488355328:=Nat.le_trans (Nat.mul_le_mul_right _ (by omega)) hbytes;have hlen:(xs++List.replicate k z).length=(n+k)*1:=by have:=hown.1;simp at this ⊢;exact this
 have grown:∀(old:Nat),old<n+k→∀(row:Option Nat),
  (w.drew.alloc (.cells (xs.toArray++(List.replicate k z).toArray++(List.replicate (grownCap w (n+k) old e-(n+k)) z).toArray) e)).ownsRow base e 1
    (.slice (some ⟨w.heap.size,0,none⟩) (n+k) (grownCap w (n+k) old e)) (n+k) (xs++List.replicate k z)∧
  w.grownBy (w.drew.alloc (.cells (xs.toArray++(List.replicate k z).toArray++(List.replicate (grownCap w (n+k) old e-(n+k)) z).toArray) e)) row:=by
  intro old ho row;have hge:=grownCap_ge w (n+k) old e;have hcm:grownCap w (n+k) old e≤maxLen:=grownCap_le_maxLen w (n+k) old e h63;have hx:=hown.1;refine ⟨⟨hlen,.inr ⟨w.heap.size,_,_,rfl,hbase,heap_alloc_new w.drew _,hge,hcm,?_,?_⟩⟩,⟨rfl,rfl,rfl,by simp,fun j hj _=>Below.heap_alloc w.drew _ j hj⟩⟩
  ·simp at hx ⊢;omega
  ·show List.take ((n+k)*1) ((xs.toArray++(List.replicate k z).toArray++(List.replicate (grownCap w (n+k) old e-(n+k)) z).toArray).toList)=_;rw [Array.toList_append,Array.toList_append,←hlen];exact List.take_left
 have hw0:IntKind.i64.wrap 0=0:=by decide
 have hneg:¬((k:Int)<0):=by omega
 have h48i:¬(281474976710656<(k:Int)*(i.bytes:Int)):=by rw [←Int.natCast_mul];omega
 rcases hown.2 with ⟨rfl,rfl⟩|⟨g,cap,cur,rfl,hbg,hg,hnc,hcm,hcs,htake⟩
 ·have hx:xs=[]:=List.eq_nil_of_length_eq_zero (by simpa using hown.1);subst hx;by_cases h0:k=0
  ·subst h0;refine ⟨.slice none 0 0,w,?_,World.ownsRow_nil w base e 1,⟨rfl,rfl,rfl,Nat.le_refl _,fun _ _ _=>rfl⟩⟩;simp [Builtin.append_,run_underlying ht,run_underlying htn,sizeOf,typeInfo,hi,asInt,asIntOf,hw0]
  ·have hr:=Lib.run_append_nil_zeros (P:=P) w t tn ty e i z kq kn ht htn hi hz k (by omega) (by omega) (by omega) (by omega);rw [hzc,gJ,gJ] at hr;have hgr:=grown 0 (by omega) (Value.ownBlock (.slice none 0 0));simp only [Nat.zero_add,List.nil_append,Array.empty_append] at hgr ⊢;exact ⟨_,_,hr,hgr.1,hgr.2⟩
 ·by_cases hroom:n+k≤cap
  ·have hst:=run_storeCells_at P g n e (List.replicate k z) 0 cur w hg (by simp;omega) (by intro u hu;rw [(List.mem_replicate.1 hu).2];exact hz1);simp only [Nat.add_zero] at hst;refine ⟨.slice (some ⟨g,0,none⟩) (n+k) cap,w.setRow g (cur.toList.take n++List.replicate k z++cur.toList.drop (n+(List.replicate k z).length)).toArray,?_,⟨hlen,.inr ⟨g,cap,_,rfl,hbg,setRow_heap w g cur _ e _ hg,hroom,hcm,?_,?_⟩⟩,⟨rfl,rfl,rfl,by simp,fun j _ hj=>setRow_other w g j _ (fun e=>hj (by simp [Value.ownBlock,e]))⟩⟩
   ·by_cases h0:k=0
    ·subst h0;simp [Builtin.append_,run_underlying ht,run_underlying htn,sizeOf,typeInfo,hi,asInt,asIntOf,hw0,hnc,hsize,Addr.add_lit] at hst ⊢;rw [hst];rfl
    ·simp [Builtin.append_,run_underlying ht,run_underlying htn,sizeOf,typeInfo,zeroValue,hi,hz,asInt,asIntOf,hw,hroom,hneg,h48i,hsize,h0,hzc,gJ,Addr.add_lit];simp at hst;rw [hst];rfl
   ·simp;simp at hcs;omega
   ·have ht2:=htake;simp only [Nat.mul_one] at ht2 hlen ⊢;rw [ht2,←hlen];exact List.take_left
  ·have holds:∀j u,xs[j]? = some u→w.cell? ((⟨g,0,none⟩:Addr).add j)=some u:=hown.cells (g:=g) rfl;have hold:=run_firstCells_some (P:=P) w.drew i.size n ⟨g,0,none⟩ n cap xs (by rw [hsize];exact hown.1) (fun j u h=>holds j u h);have h0:0<k:=by omega
   have hr:=Lib.run_append_grow_zeros (P:=P) w t tn ty e i z kq kn ht htn hi hz (some ⟨g,0,none⟩) n cap xs hold k h0 (by omega) (by omega) (by omega) (by omega) (growslice_fits (by omega) hbytes);rw [hzc,gJ,gJ] at hr;have hgr:=grown cap (by omega) (Value.ownBlock (.slice (some ⟨g,0,none⟩) n cap));exact ⟨_,_,hr,hgr.1,hgr.2⟩
theorem qR {P:Program} {w:World} {ops:Array Oper} {rest:List Oper} {o:Oper} {a:Act} {Q:Exit→Act→World→Prop} (hgd:o.guard=none) (s x:Operand) (t tn:TypeId)
 (ho:o.op=.call { callee:=.builtin .append,args:=#[s,x],argTypes:=#[t,tn] }) (kq kn:IntKind) (htn:P.underlying tn=some (.int kn))
 (base:Nat) (e:TypeId) (z:Value) (bytes:Nat) (hE:Elem P t e z bytes) (hzc:z.cells=#[z])
 (v:Value) (n:Nat) (xs:List Value) (hs:a.eval s=v) (hown:w.ownsRow base e 1 v n xs) (k:Nat) (hx:a.eval x=.int kq k)
 (h63:n+k≤maxLen) (hbytes:(n+k)*bytes≤140737488355328) (hbase:base≤w.heap.size)
 (h:∀v' w',w'.ownsRow base e 1 v' (n+k) (xs++List.replicate k z)→w.grownBy w' v.ownBlock→wpList P ops Q rest (a.put o.dst v') w'):wpList P ops Q (o::rest) a w:=by
 obtain ⟨hz1,ht,i,hi,hz,hsize,hby⟩:=hE;obtain ⟨v',w',hr,h1,h2⟩:=pQ (P:=P) w base t tn o.type e i z kq kn bytes ht htn hi hz hsize hby hzc hz1 v n xs hown k h63 hbytes hbase;exact Lib.wpList_append_run w hgd s x t tn ho v (.int kq k) hs hx v' w' hr (h v' w' h1 h2)
end Go.Cd
namespace Go.Proofs.YtmpkfkoficehpaaGreatDoor
open Go.RowKit Go.Cd
theorem Ey (b:Nat):∀(l:List Nat) (j v:Nat),j<l.length→val b (l.set j v)+l[j]?.getD 0*b ^ j=val b l+v*b ^ j
 | [],_,_,h=>by simp at h
 | d::l,0,v,_=>by simp [val];omega
 | d::l,j+1,v,h=>by
   have:=Ey b l j v (by simpa using h);simp only [List.set_cons_succ,val,List.getElem?_cons_succ,Nat.pow_succ];have e:∀p q:Nat,p*(q*b)=b*(p*q):=fun p q=>by rw [←Nat.mul_assoc,Nat.mul_comm]
   rw [e,e,Nat.add_assoc,Nat.add_assoc,←Nat.mul_add,←Nat.mul_add,this]
theorem rE (b:Nat) (l:List Nat) (j:Nat) (h:j<l.length):val b (l.take (j+1))=val b (l.take j)+l[j]*b ^ j:=by
 rw [List.take_succ_eq_append_getElem h,val_append];simp [val,Nat.min_eq_left (Nat.le_of_lt h),Nat.mul_comm]
theorem Sl.abN {w:World} {v:Value} {l:List Nat} (h:Sl l5 w v (gD l)):∃a cap,v=.slice a l.length cap∧l.length≤cap∧∀i (hi:i<l.length),∃b off,a=some ⟨b,off,none⟩∧b<w.heap.size∧w.cell? ⟨b,off+i,none⟩=some (.int .u32 (l[i]:Nat)):=by
 obtain ⟨a,cap,hv,hc,hx⟩:=Sl.out h;refine ⟨a,cap,by rw [hv,dD],by rw [dD] at hc;exact hc,fun i hi=>?_⟩;obtain ⟨b,off,h1,h2,h3⟩:=hx i (by rw [dD];exact hi);rw [gm _ _ hi] at h3;exact ⟨b,off,h1,h2,h3⟩
theorem R7 {p q o c:Nat} (hp:p<4294967296) (hq:q<4294967296) (ho:o<4294967296) (hc:c<4294967296):p*q+o+c<18446744073709551616:=by
 have h1:p*q≤4294967295*4294967295:=Nat.mul_le_mul (by omega) (by omega);omega
theorem Vt {b vs vl A PV W s1 s0 pq o cc:Nat} (h1:vs+o*W=vl+s0*W) (h2:vl+cc*W=A+PV) (h3:b*s1+s0=pq+o+cc):vs+s1*(W*b)=A+(PV+pq*W):=by
 have h4:(b*s1+s0)*W=(pq+o+cc)*W:=by rw [h3]
 rw [Nat.add_mul,Nat.add_mul,Nat.add_mul] at h4;have h5:s1*(W*b)=b*s1*W:=by rw [Nat.mul_comm W b,←Nat.mul_assoc,Nat.mul_comm s1 b]
 rw [h5];omega
theorem getD_set_ne {l:List Nat} {i j v:Nat} (h:i≠j):(l.set i v)[j]?.getD 0=l[j]?.getD 0:=by rw [List.getElem?_set_ne h]
theorem rF {l:List Nat} {i v b:Nat} (hl:∀d∈l,d<b) (hv:v<b):∀d∈l.set i v,d<b:=fun d hd=>by
 rcases List.mem_or_eq_of_mem_set hd with h|rfl
 ·exact hl d h
 ·exact hv
theorem KY {w:World} {v u:Value} {x y:Nat} (h:bO w v x) (k:bO w u y) (hx:(bR B x).length<274877906944) (hy:(bR B y).length<274877906944) :
 Calls Tryz.prog 12 #[v,u] w fun e w'=>∃r,e=.returned r∧bO w' r (x*y)∧Below w.heap.size w w':=by
 obtain ⟨a,n,cap,rfl,h⟩:=h.out;obtain ⟨a2,n2,cap2,rfl,k⟩:=k.out;have hb:=(af (w:=w) (.cells #[.slice a n cap] 36)).alloc (by simp) (.cells #[.slice a2 n2 cap2] 36) |>.alloc (by simp;omega) (.cells #[.slice none 0 0] 36);have c1:(((w.alloc (.cells #[.slice a n cap] 36)).alloc (.cells #[.slice a2 n2 cap2] 36)).alloc (.cells #[.slice none 0 0] 36)).cell? ⟨w.heap.size,0,none⟩=some (.slice a n cap):=by go_simp
 have c2:(((w.alloc (.cells #[.slice a n cap] 36)).alloc (.cells #[.slice a2 n2 cap2] 36)).alloc (.cells #[.slice none 0 0] 36)).cell? ⟨w.heap.size+1,0,none⟩=some (.slice a2 n2 cap2):=by go_simp
 have c3:(((w.alloc (.cells #[.slice a n cap] 36)).alloc (.cells #[.slice a2 n2 cap2] 36)).alloc (.cells #[.slice none 0 0] 36)).heap[w.heap.size+1+1]? = some (.cells #[.slice none 0 0] 36):=heap_alloc_new' _ _ _ (by simp);have N1:=h.mono hb;have N2:=k.mono hb;have L1:=aa (fun (W:World) (E:Below _ _ W)=>xq (N1.mono E) (by omega));have L2:=aa (fun (W:World) (E:Below _ _ W)=>xq (N2.mono E) (by omega));have T0:=yn (((w.alloc (.cells #[.slice a n cap] 36)).alloc (.cells #[.slice a2 n2 cap2] 36)).alloc (.cells #[.slice none 0 0] 36));have vx:=mH bF x;have vy:=mH bF y;have lx:=Dn bF x;have ly:=Dn bF y;generalize bR B x=X at *;generalize bR B y=Y at *;have VX:=aa vx;have VY:=aa vy;have LX:=aa lx;have LY:=aa ly;have s3:(((w.alloc (.cells #[.slice a n cap] 36)).alloc (.cells #[.slice a2 n2 cap2] 36)).alloc (.cells #[.slice none 0 0] 36)).heap.size=w.heap.size+3:=by simp
 have HB:=aa hb;clear h k N1 N2 vx vy lx ly hb;go_enter Tryz.func12,Tryz.ntmps12;go_wp2_with fail;refine aF (Array.replicate 6 true) 6 0 mixed (by rfl) ?_;have OU:=ah T0 (ag _);have hg0:=Gr.cell OU c1;have hg1:=Gr.cell OU c2;refine ay [0,2] 4 rfl (by kernel_rfl) ?_
 iterate 2 (refine aB rfl ?_;go_big_quiet_step (rfl))
 refine az ?_;clear hg0 hg1;refine aI 1 (by kernel_rfl) rfl ?_;go_wp2_with fail;refine (L1.out _ OU).mono ?_;rintro e k1w ⟨r1,rfl,o1,OW⟩;go_wp2_with fail;refine aD OW ?_;have Qk:=ah OU OW;refine aI 3 (by kernel_rfl) rfl ?_;go_wp2_with fail;refine (L2.out _ Qk).mono ?_;rintro e KS ⟨r2,rfl,o2,CQ⟩;go_wp2_with fail;refine aD CQ ?_;have Ub:=ah Qk CQ;have hg0:=Gr.cell Ub c1;have hg1:=Gr.cell Ub c2;refine ay [4,5] 0 rfl (by kernel_rfl) ?_
 iterate 2 (refine aB rfl ?_;go_big_quiet_step (rfl))
 refine az ?_;clear hg0 hg1;refine aJ [] (by kernel_rfl) ?_;refine tail_nil ?_;have S1:=(Sl.aW o1).mono CQ;have S2:=Sl.aW o2;have hE:=Ub;obtain ⟨x1,xZ,rfl,_,hx1⟩:=Sl.abN S1;obtain ⟨x2,cp2,rfl,_,hx2⟩:=Sl.abN S2;have z3:KS.heap[w.heap.size+1+1]? = some (.cells #[.slice none 0 0] 36):=(hE.block _ (by rw [s3];omega)).trans c3;have zs:w.heap.size+3≤KS.heap.size:=by have:=hE.size;rw [s3] at this;exact this
 have hBw:Below w.heap.size w KS:=HB.out.trans (hE.mono (by rw [s3];omega));have lD:=aa hx1;have JK:=aa hx2;have Z3:=aa z3;clear o1 o2 S1 S2 hx1 hx2 c1 c2 c3 Ub OW CQ L1 L2 T0 s3 z3 hE HB;have CQ:=hBw;go_wp2_with (at_make;refine fG _ rfl _ _ 34 rfl KS.heap.size l5 _ 4 Dr rfl .i64 .i64 _ _ (X.length+Y.length) rfl rfl (by omega) (by omega) (by omega) (by unfold maxLen;omega) (by simp) ?_;intro w3 hown hgrow);have hB3:=fA hgrow;clear hgrow
 go_loopw [26] (fun i wr=>∃(j:Nat) (l:List Nat),j≤X.length∧i=.int .i64 j∧l.length=X.length+Y.length∧(∀d∈l,d<B)∧(∀t,j+Y.length≤t→l[t]?.getD 0=0)∧val B l=val B (X.take j)*y∧
  wr.ownsRow KS.heap.size l5 1 (.slice (some ⟨KS.heap.size,0,none⟩) (X.length+Y.length) (X.length+Y.length)) (X.length+Y.length) (gD l)∧Below KS.heap.size KS wr)
  (fun i _=>X.length-(intOf i).toNat)
 case atStart=>
  refine ⟨0,List.replicate (X.length+Y.length) 0,Nat.zero_le _,rfl,by simp,?_,?_,by simp [Bw,val],by simpa [gD] using hown,hB3⟩
  ·intro d hd;rw [(List.mem_replicate.1 hd).2];decide
  ·intro t _;rw [List.getElem?_replicate];split <;> rfl
 case round=>
  obtain ⟨j,l,hj,rfl,hl,hlt,hz,hv,hO,hE⟩:=hrel;by_cases RQ:j<X.length
  ·obtain ⟨b1,Yy,rfl,hb1,hc1⟩:=lD.out j RQ;have hc1:=(hE.cell (p:=⟨b1,Yy+j,none⟩) hb1).trans hc1;have hp:X[j]<B:=LX.out _ (List.getElem_mem _);have HV:=aa hv;have MH:=aa hlt;have HZ:=aa hz;generalize hP:X[j]=p at *;have HPX:=aa hP;clear hv hlt hz hP;go_wp2_with fail
   go_loopw [10,33] (fun c k wr'=>∃(cc t:Nat) (l:List Nat),t≤Y.length∧k=.int .i64 t∧c=.int .u64 cc∧cc<B∧l.length=X.length+Y.length∧(∀d∈l,d<B)∧(∀s,j+Y.length≤s→l[s]?.getD 0=0)∧
    val B l+cc*B ^ (j+t)=val B (X.take j)*y+p*B ^ j*val B (Y.take t)∧
    wr'.ownsRow KS.heap.size l5 1 (.slice (some ⟨KS.heap.size,0,none⟩) (X.length+Y.length) (X.length+Y.length)) (X.length+Y.length) (gD l)∧Below KS.heap.size KS wr')
    (fun _ k _=>Y.length-(intOf k).toNat)
   case atStart=>
    exact ⟨0,0,l,Nat.zero_le _,rfl,rfl,by decide,hl,MH.out,HZ.out,by simp [val];exact HV.out,hO,hE⟩
   case round=>
    clear HV MH HZ hO hE hc1;obtain ⟨cc,t,l2,ht,rfl,rfl,hcc,hl2,hlt2,hz2,hv2,hO2,hE2⟩:=hrel;have TU:=aa hv2;have YD:=aa hlt2;have HZ2:=aa hz2;clear hv2 hlt2 hz2;by_cases htY:t<Y.length
    ·obtain ⟨b2,II,rfl,hb2,hc2⟩:=JK.out t htY;have hc2:=(hE2.cell (p:=⟨b2,II+t,none⟩) hb2).trans hc2;have hq:Y[t]<B:=LY.out _ (List.getElem_mem _);obtain ⟨hcell,hfr⟩:=jJ hO2 (j:=j+t) (by simp;omega);rw [gm _ _ (by omega)] at hcell;have ho:l2[j+t]<B:=YD.out _ (List.getElem_mem _);have HS:=aa (fun (u:Value)=>(hO2.stored (j+t) u).1);generalize hQ:Y[t]=q at *;generalize hOO:l2[j+t]=o at *;have HQ:=aa hQ;have HOO:=aa hOO;have hs:=R7 (p:=p) (q:=q) (o:=o) (c:=cc) (by unfold B at hp;exact hp) (by unfold B at hq;exact hq) (by unfold B at ho;exact ho) (by unfold B at hcc;exact hcc);clear hQ hOO hO2;go_wp2;go_roundw
     case rel=>
      have w1:IntKind.u64.wrap (p:Int)=p:=by rw [IntKind.wrap_u64];unfold B at hp;omega
      have w2:IntKind.u64.wrap (q:Int)=q:=by rw [IntKind.wrap_u64];unfold B at hq;omega
      have e0:IntKind.u64.wrap (IntKind.u64.wrap (IntKind.u64.wrap (IntKind.u64.wrap ↑p*IntKind.u64.wrap ↑q)+↑o)+↑cc)=((p*q+o+cc:Nat):Int):=by
       rw [w1,w2,←Int.natCast_mul];generalize p*q=pq at hs;rw [IntKind.wrap_u64,IntKind.wrap_u64,IntKind.wrap_u64];omega
      rw [e0];have e3:=Vt (b:=B) (vs:=val B (l2.set (j+t) ((p*q+o+cc) % B))) (vl:=val B l2) (A:=val B (X.take j)*y) (PV:=p*B ^ j*val B (Y.take t)) (W:=B ^ (j+t)) (s1:=(p*q+o+cc) / B) (s0:=(p*q+o+cc) % B) (pq:=p*q) (o:=o) (cc:=cc)
       (by have:=Ey B l2 (j+t) ((p*q+o+cc) % B) (by omega);rw [List.getElem?_eq_getElem (by omega)] at this;simp only [Option.getD_some] at this;rw [HOO.out] at this;exact this)
       TU.out (Nat.div_add_mod _ _)
      have e4:=rE B Y t htY;rw [HQ.out] at e4;have e5:p*B ^ j*val B (Y.take (t+1))=p*B ^ j*val B (Y.take t)+p*q*B ^ (j+t):=by
       rw [e4,Nat.mul_add,Nat.pow_add];congr 1;rw [Nat.mul_assoc,Nat.mul_assoc,Nat.mul_left_comm (B ^ j)]
      have hsB:(p*q+o+cc) / B<B:=Nat.div_lt_of_lt_mul (by unfold B;omega);have hsm:(p*q+o+cc) % B<B:=Nat.mod_lt _ (by decide);generalize p*q+o+cc=s at *;have e1:((s:Nat):Int) / 4294967296=((s / B:Nat):Int):=by unfold B;omega
      rw [e1];refine ⟨s / B,t+1,l2.set (j+t) (s % B),by omega,rfl,rfl,hsB,by simp;exact hl2,rF YD.out hsm,fun z hz=>?_,?_,?_,?_⟩
      ·rw [getD_set_ne (by omega)];exact HZ2.out z hz
      ·rw [e5,show j+(t+1)=(j+t)+1 from by omega,Nat.pow_succ];exact e3
      ·have e6:(s:Int) % 4294967296=((s % B:Nat):Int):=by unfold B;omega
       rw [e6,←zK];exact HS.out _
      ·exact aj hE2 (Nat.le_refl _)
     case measure=>simp [intOf];omega
    ·obtain rfl:t=Y.length:=by omega
     have e1:B ^ (j+Y.length)=B ^ (j+Y.length):=rfl;obtain ⟨hcell,hfr⟩:=jJ hO2 (j:=j+Y.length) (by simp;omega);rw [gm _ _ (by omega)] at hcell;have HS:=aa (fun (u:Value)=>(hO2.stored (j+Y.length) u).1);clear hO2;go_wp2;go_roundw
     case rel=>
      have hv3:=Ey B l2 (j+Y.length) cc (by omega);rw [HZ2.out _ (Nat.le_refl _),Nat.zero_mul,Nat.add_zero,TU.out,List.take_length,VY.out] at hv3;have e4:=rE B X j RQ;rw [HPX.out] at e4;refine ⟨j+1,l2.set (j+Y.length) cc,by omega,rfl,by simp;exact hl2,rF YD.out hcc,fun z hz=>?_,?_,?_,?_⟩
      ·rw [getD_set_ne (by omega)];exact HZ2.out z (by omega)
      ·rw [hv3,e4,Nat.add_mul]
      ·rw [show (cc:Int) % 4294967296=cc from by unfold B at hcc;omega,←zK];exact HS.out _
      ·exact aj hE2 (Nat.le_refl _)
     case measure=>simp [intOf];omega
  ·obtain rfl:j=X.length:=by omega
   rw [List.take_length,VX.out] at hv;go_wp2_with fail;refine (RY (Sl.aW hO) hlt (by omega)).mono ?_;rintro e w4 ⟨r4,rfl,hr4,hb4⟩;rw [hv] at hr4;obtain ⟨a3,n3,pO,rfl,hN⟩:=hr4.out;have abO:=ah (hBw.trans (hE.mono (by omega))) hb4;have hk:w4.heap[w.heap.size+1+1]? = some (.cells #[.slice none 0 0] 36):=(hb4.block _ (by have:=hE.size;omega)).trans ((hE.block _ (by omega)).trans Z3.out);obtain ⟨hcs,hR⟩:=nD hk (by decide) hN;have hB:=aj (off:=0) (u:=.slice a3 n3 pO) abO (b:=w.heap.size+1+1) (by omega);have hcell:w4.cell? ⟨w.heap.size+1+1,0,none⟩=some (.slice none 0 0):=by unfold World.cell?;rw [hk];rfl
   have hfr:w4.frozen? ⟨w.heap.size+1+1,0,none⟩=false:=by unfold World.frozen?;rw [hk];rfl
   clear hk hb4 hr4 hN hO hE hBw abO hv hlt hz;go_wp2;exact bodyPost_ret (v:=.agg #[.slice a3 n3 pO]) (by simp [results,Tryz.results12,go_sem,hcs]) rfl ⟨_,rfl,hR,hB⟩
theorem R8 (a b:Nat) (ha:a<4294967296) (hb:b<4294967296):bits .or .u64 ((a:Int)*4294967296) b=(a:Int)*4294967296+b:=by
 have e:(a:Int)*4294967296=((a * 4294967296:Nat):Int):=by omega
 rw [e,u64_or_nat _ _ (by omega) (by omega)];have:a * 4294967296 ||| b=a * 4294967296+b:=by
  have:=Nat.shiftLeft_add_eq_or_of_lt (i:=32) (a:=a) (b:=b) (by omega);rw [Nat.shiftLeft_eq] at this;exact this.symm
 rw [this];omega
theorem Vu {a b:Int} {t:Bool} (h:a=b):Ending.returned (.tuple #[.int .u64 a,.bool t])=.returned (.tuple #[.int .u64 b,.bool t]):=by rw [h]
theorem O8 {w:World} {v:Value} {x:Nat} (h:bO w v x) (hs:x<18446744073709551616) :
 Calls Tryz.prog 66 #[v] w fun e w'=>e=.returned (.tuple #[.int .u64 x,.bool true])∧Below w.heap.size w w':=by
 obtain ⟨a,n,cap,rfl,h⟩:=h.out;have hn:=h.len;have h2:n≤2:=by
  rw [hn];exact (cZ bF).2 (by unfold B;omega)
 have l1:=fun (W:World) (E:Below w.heap.size w W)=>qF (h.mono E) 1;have l0:=fun (W:World) (E:Below w.heap.size w W)=>qF (h.mono E) 0;have e1:oq B x 1*B+oq B x 0=x:=by unfold oq B;omega
 have b1:=uZ bF x 1;have b0:=uZ bF x 0;generalize oq B x 1=d1 at l1 e1 b1;generalize oq B x 0=d0 at l0 e1 b0;unfold B at e1 b1 b0;have E1:=aa e1;have L1:=aa l1;have L0:=aa l0;clear h hn hs e1 l1 l0;go_enter Tryz.func66,Tryz.ntmps66;go_wp2_with fail;have hc0:(w.alloc (.cells #[.slice a n cap] 36)).cell? ⟨w.heap.size,0,none⟩=some (.slice a n cap):=by go_simp
 refine aF (Array.replicate 8 true) 8 0 mixed (by rfl) ?_;have hg:=Gr.cell (ag (w.alloc (.cells #[.slice a n cap] 36))) hc0;refine ay [0,3] 6 rfl (by kernel_rfl) ?_
 repeat (refine aB rfl ?_;go_big_quiet_step (rfl))
 refine az ?_;refine aI 1 (by kernel_rfl) rfl ?_;go_wp2_with fail;refine (L1.out _ (ah (af _) (ag _))).mono ?_;rintro e w2 ⟨rfl,hb2⟩;go_wp2_with fail;refine aD hb2 ?_;refine ay [2] 4 rfl (by kernel_rfl) ?_
 repeat (refine aB rfl ?_;go_big_quiet_step (rfl))
 refine az ?_;refine aI 4 (by kernel_rfl) rfl ?_;go_wp2_with fail;refine (L0.out _ (ah (ah (af _) (ag _)) hb2)).mono ?_;rintro e w3 ⟨rfl,hb3⟩;go_wp2_with fail;refine aD hb3 ?_;refine ay [5,6,7] 0 rfl (by kernel_rfl) ?_
 repeat (refine aB rfl ?_;go_big_quiet_step (rfl))
 refine az ?_;refine aJ [] (by kernel_rfl) ?_;refine tail_nil ?_;go_wp2;go_ret2;have e1:bits BinOp.or IntKind.u64 ((d1:Int)*4294967296) d0=x:=by rw [R8 d1 d0 b1 b0];have:=E1.out;omega
 exact ⟨Vu e1,ah (af _) (ah (ag _) (ah hb2 hb3))⟩
def Xt (w:World) (v:Value) (xs:List Nat):Prop:=
 ∃a cap,v=.slice a xs.length cap∧∀i (hi:i<xs.length),∃b off a1 n1 c1,a=some ⟨b,off,none⟩∧b<w.heap.size∧w.cell? ⟨b,off+i,none⟩=some (.slice a1 n1 c1)∧bO w (.agg #[.slice a1 n1 c1]) xs[i]
def eu (xs:List Nat):Nat:=xs.foldl (·*·) 1
theorem nU (xs:List Nat) (k:Nat) (h:k<xs.length):eu (xs.take (k+1))=eu (xs.take k)*xs[k]:=by
 unfold eu;rw [List.take_succ_eq_append_getElem h,List.foldl_append];rfl
theorem O_ {w:World} {v:Value} {xs:List Nat} (h:Xt w v xs) (hmax:xs.length<1099511627776) (hl:∀k,k≤xs.length→(bR B (eu (xs.take k))).length<274877906944) (hx:∀x∈xs,(bR B x).length<274877906944) :
 Calls Tryz.prog 24 #[v] w fun e w'=>∃r,e=.returned r∧bO w' r (eu xs)∧Below w.heap.size w w':=by
 obtain ⟨a,cap,rfl,hin⟩:=h;have Xj:=aa hin;have HL:=aa hl;have HX:=aa hx;clear hin hl hx;have b0:=af (w:=w) (.cells #[.slice none 0 0] 36);have z0:(w.alloc (.cells #[.slice none 0 0] 36)).heap[w.heap.size]? = some (.cells #[.slice none 0 0] 36):=heap_alloc_new' _ _ _ rfl;go_enter Tryz.func24,Tryz.ntmps24;go_wp2_with fail;refine (CR 1 (by omega) _).mono ?_;rintro e w3 ⟨r3,rfl,n3,b3⟩;obtain ⟨a3,m3,pO,rfl,n3⟩:=n3.out;have E3:=ah b0 b3;have z0:=(b3.block _ (by simp)).trans z0;have z3:(w3.alloc (.cells #[.slice a3 m3 pO] 36)).heap[w3.heap.size]? = some (.cells #[.slice a3 m3 pO] 36):=heap_alloc_new' _ _ _ rfl;have n4:=n3.mono (af (.cells #[.slice a3 m3 pO] 36));have b4:=af (w:=w3) (.cells #[.slice a3 m3 pO] 36);have hne:w.heap.size<w3.heap.size:=by have:=b3.size;simp at this;omega
 have Z0:=aa z0;clear n3 b3 b0 z0;go_wp2_with fail;go_loopw [9] (fun i wr=>∃(j:Nat) (a5:Option Addr) (m5 cap5:Nat),j≤xs.length∧i=.int .i64 j∧wr.heap[w3.heap.size]? = some (.cells #[.slice a5 m5 cap5] 36)∧bO wr (.agg #[.slice a5 m5 cap5]) (eu (xs.take j))∧Below w3.heap.size w3 wr)
  (fun i _=>xs.length-(intOf i).toNat)
 case atStart=>exact ⟨0,a3,m3,pO,Nat.zero_le _,rfl,z3,n4,b4⟩
 case round=>
  clear z3 n4 b4;obtain ⟨j,a5,m5,cap5,hj,rfl,z5,n5,b5⟩:=hrel;have hs5:=b5.size;have E5:=ah E3 b5;by_cases Xu:j<xs.length
  ·obtain ⟨b,off,a1,n1,c1,rfl,hb,hc,hN⟩:=Xj.out j Xu;have hc:=aA E5 hc;have hN:=hN.mono E5;have bb:=af (w:=wr) (.cells #[.slice a1 n1 c1] 36);have z6:=(bb.block _ (block_lt z5)).trans z5;have afz:(wr.alloc (.cells #[.slice a1 n1 c1] 36)).cell? ⟨w3.heap.size,0,none⟩=some (.slice a5 m5 cap5):=by unfold World.cell?;rw [z6];rfl
   have n6:=n5.mono bb;have hN6:=hN.mono bb;have hM:=aa (KY n6 hN6 (by have:=HL.out j (by omega);omega) (by have:=HX.out _ (List.getElem_mem Xu);omega));have HP:=aa (nU xs j Xu);clear n5 n6 hN hN6;go_wp2_with fail;refine hM.out.mono ?_;rintro e w7 ⟨r7,rfl,n7,b7⟩;obtain ⟨a7,m7,Ez,rfl,n7⟩:=n7.out;have z7:=(b7.block _ (block_lt z6)).trans z6;have YF:w7.cell? ⟨w3.heap.size,0,none⟩=some (.slice a5 m5 cap5):=by unfold World.cell?;rw [z7];rfl
   have afA:w7.frozen? ⟨w3.heap.size,0,none⟩=false:=by unfold World.frozen?;rw [z7];rfl
   obtain ⟨c9,n9⟩:=nD z7 (by decide) n7;have z9:(w7.setCell ⟨w3.heap.size,0,none⟩ (.slice a7 m7 Ez)).heap[w3.heap.size]? = some (.cells #[.slice a7 m7 Ez] 36):=heap_setCell_same w7 w3.heap.size 0 _ _ _ z7;have b9:Below w3.heap.size w3 (w7.setCell ⟨w3.heap.size,0,none⟩ (.slice a7 m7 Ez)):=aj (b5.trans ((ah bb b7).mono hs5)) (Nat.le_refl _);clear z7 n7 b7 z6;go_wp2;go_roundw
   case rel=>exact ⟨j+1,a7,m7,Ez,by omega,rfl,z9,by rw [HP.out];exact n9,b9⟩
   case measure=>simp [intOf];omega
  ·obtain rfl:j=xs.length:=by omega
   rw [List.take_length] at n5;have Vv:=(b5.block _ hne).trans Z0.out;have KZ:wr.cell? ⟨w3.heap.size,0,none⟩=some (.slice a5 m5 cap5):=by unfold World.cell?;rw [z5];rfl
   have YG:wr.cell? ⟨w.heap.size,0,none⟩=some (.slice none 0 0):=by unfold World.cell?;rw [Vv];rfl
   have afB:wr.frozen? ⟨w.heap.size,0,none⟩=false:=by unfold World.frozen?;rw [Vv];rfl
   obtain ⟨q1,N9⟩:=nD Vv (by decide) n5;have Vq:=aj (off:=0) (u:=.slice a5 m5 cap5) (b:=w.heap.size) E5 (Nat.le_refl _);clear Vv n5 z5;go_wp2;exact bodyPost_ret (v:=.agg #[.slice a5 m5 cap5]) (by simp [results,Tryz.results24,go_sem,q1]) rfl ⟨_,rfl,N9,Vq⟩
theorem K5 {w:World} {v:Value} {l:List Int} (h:bB w v (bJ l)) (hmax:l.length<1099511627776) (hbig:∀d∈l,d<9223372036854775808) (hl:∀k,k≤l.length→(bR B (eu ((Bc l).take k))).length<274877906944) :
 Calls Tryz.prog 75 #[v] w fun e w'=>∃r,e=.returned r∧bO w' r (eu (Bc l))∧Below w.heap.size w w':=by
 obtain ⟨x1,xZ,rfl,_,hx1⟩:=bB.qL h;have lD:=aa hx1;have HL:=aa hl;have HBG:=aa hbig;clear h hx1 hl hbig;have b0:=af (w:=w) (.cells #[.slice none 0 0] 36);have z0:(w.alloc (.cells #[.slice none 0 0] 36)).heap[w.heap.size]? = some (.cells #[.slice none 0 0] 36):=heap_alloc_new' _ _ _ rfl;go_enter Tryz.func75,Tryz.ntmps75;go_wp2_with fail;refine (CR 1 (by omega) _).mono ?_;rintro e w3 ⟨r3,rfl,n3,b3⟩;obtain ⟨a3,m3,pO,rfl,n3⟩:=n3.out;have E3:=ah b0 b3;have z0:=(b3.block _ (by simp)).trans z0;have z3:(w3.alloc (.cells #[.slice a3 m3 pO] 36)).heap[w3.heap.size]? = some (.cells #[.slice a3 m3 pO] 36):=heap_alloc_new' _ _ _ rfl;have n4:=n3.mono (af (.cells #[.slice a3 m3 pO] 36));have b4:=af (w:=w3) (.cells #[.slice a3 m3 pO] 36);have hne:w.heap.size<w3.heap.size:=by have:=b3.size;simp at this;omega
 have Z0:=aa z0;clear n3 b3 b0 z0;go_wp2_with fail;go_loopw [9] (fun i wr=>∃(j:Nat) (a5:Option Addr) (m5 cap5:Nat),j≤l.length∧i=.int .i64 j∧wr.heap[w3.heap.size]? = some (.cells #[.slice a5 m5 cap5] 36)∧bO wr (.agg #[.slice a5 m5 cap5]) (eu ((Bc l).take j))∧Below w3.heap.size w3 wr)
  (fun i _=>l.length-(intOf i).toNat)
 case atStart=>exact ⟨0,a3,m3,pO,Nat.zero_le _,rfl,z3,n4,b4⟩
 case round=>
  clear z3 n4 b4;obtain ⟨j,a5,m5,cap5,hj,rfl,z5,n5,b5⟩:=hrel;have hs5:=b5.size;have E5:=ah E3 b5;by_cases Xu:j<l.length
  ·obtain ⟨b,off,rfl,hb,hc⟩:=lD.out j Xu;have hc:=aA E5 hc;have afC:=HBG.out _ (List.getElem_mem Xu);have HP:=aa (nU (Bc l) j (by simpa using Xu));have hge:(Bc l)[j]'(by simpa using Xu)=l[j].toNat:=by simp [Bc]
   rw [hge] at HP;clear hge;generalize l[j]=d at *;obtain ⟨n,hn⟩:=ae d.toNat;rw [←hn] at HP;have hmx:max d 0=(n:Int):=by omega
   have hwr:IntKind.u64.wrap (n:Int)=(n:Int):=by rw [IntKind.wrap_u64];omega
   have afD:n<18446744073709551616:=by omega
   have hO:=aa (CR n afD);have KZ:wr.cell? ⟨w3.heap.size,0,none⟩=some (.slice a5 m5 cap5):=by unfold World.cell?;rw [z5];rfl
   have T0:=yn wr;have hln:=aa (HL.out j hj);have hlD:=aa (show (bR B n).length≤2 from (cZ bF).2 (by unfold B;omega));have mF:=aa hn;clear hn afC;go_wp2_with fail;refine aF #[true,true,true,true,true,true,false] 6 1 mixed (by rfl) ?_;have OU:=ah T0 (ag _);have hg0:=Gr.cell OU KZ;refine ay [0,1,2,3] 2 rfl (by kernel_rfl) ?_
   iterate 4 (refine aB rfl ?_;go_big_quiet_step (rfl))
   refine az ?_;clear hg0;refine aI 4 (by kernel_rfl) rfl ?_;go_wp2_with fail;refine (hO.out _).mono ?_;rintro e k1w ⟨r1,rfl,p1,OW⟩;go_wp2_with fail;refine aD OW ?_;have Qk:=ah OU OW;refine aI 5 (by kernel_rfl) rfl ?_;go_wp2_with fail;refine (KY (n5.mono Qk) p1 (by have:=hln.out;omega) (by have:=hlD.out;omega)).mono ?_;rintro e w7 ⟨r7,rfl,n7,CQ⟩;obtain ⟨a7,m7,Ez,rfl,n7⟩:=n7.out;go_wp2_with fail;refine aD CQ ?_;have b7:=ah Qk CQ;have z7:=(b7.block _ (block_lt z5)).trans z5;have afA:w7.frozen? ⟨w3.heap.size,0,none⟩=false:=by unfold World.frozen?;rw [z7];rfl
   obtain ⟨c9,n9⟩:=nD z7 (by decide) n7;have z9:(w7.setCell ⟨w3.heap.size,0,none⟩ (.slice a7 m7 Ez)).heap[w3.heap.size]? = some (.cells #[.slice a7 m7 Ez] 36):=heap_setCell_same w7 w3.heap.size 0 _ _ _ z7;have b9:Below w3.heap.size w3 (w7.setCell ⟨w3.heap.size,0,none⟩ (.slice a7 m7 Ez)):=aj (b5.trans (b7.mono hs5)) (Nat.le_refl _);have YF:w7.cell? ⟨w3.heap.size,0,none⟩=some (.slice a5 m5 cap5):=by unfold World.cell?;rw [z7];rfl
   clear z7 n7 b7;refine aJ [6] (by kernel_rfl) ?_;refine tail_cons rfl ?_;go_wp2_with fail;refine tail_nil ?_;go_wp2;go_roundw
   case rel=>exact ⟨j+1,a7,m7,Ez,by omega,rfl,z9,by rw [HP.out];exact n9,b9⟩
   case measure=>simp [intOf];omega
  ·obtain rfl:j=l.length:=by omega
   rw [List.take_of_length_le (by simp)] at n5;have Vv:=(b5.block _ hne).trans Z0.out;have KZ:wr.cell? ⟨w3.heap.size,0,none⟩=some (.slice a5 m5 cap5):=by unfold World.cell?;rw [z5];rfl
   have YG:wr.cell? ⟨w.heap.size,0,none⟩=some (.slice none 0 0):=by unfold World.cell?;rw [Vv];rfl
   have afB:wr.frozen? ⟨w.heap.size,0,none⟩=false:=by unfold World.frozen?;rw [Vv];rfl
   obtain ⟨q1,N9⟩:=nD Vv (by decide) n5;have Vq:=aj (off:=0) (u:=.slice a5 m5 cap5) (b:=w.heap.size) E5 (Nat.le_refl _);clear Vv n5 z5;go_wp2;exact bodyPost_ret (v:=.agg #[.slice a5 m5 cap5]) (by simp [results,Tryz.results75,go_sem,q1]) rfl ⟨_,rfl,N9,Vq⟩
def dU.sp (x:dU):Nat×List Nat:=(x.1,x.2.2)
def bX.sp (r:bX):cO:=(r.1,r.2.2.map dU.sp)
structure fP (K:Nat→Nat) (l:List Nat) (j:Nat) (c:bX):Prop where
 rise:c.2.2.Pairwise fun a b=>a.1<b.1
 small:∀x∈c.2.2,x.1<1000000
 last:∀x,c.2.2.getLast? = some x→∃(i:Nat) (hi:i<l.length),j=i+1∧x.1=K l[i]
 len:c.2.2.length≤j
 marks:∀x∈c.2.2,x.2.2.length≤j
theorem fP.le {K:Nat→Nat} {l:List Nat} {j:Nat} {c:bX} (h:fP K l j c):∀x∈c.2.2,∀z,c.2.2.getLast? = some z→x.1≤z.1:=by
 intro x hx z hz;have hn:c.2.2≠[]:=fun e=>by rw [e] at hx;cases hx
 obtain ⟨q,y,e⟩:∃q y,c.2.2=q++[y]:=⟨c.2.2.dropLast,c.2.2.getLast hn,(List.dropLast_concat_getLast hn).symm⟩;have hr:=h.rise;rw [e] at hx hz hr;rw [List.getLast?_concat] at hz;cases hz;rcases List.mem_append.1 hx with hx|hx
 ·exact Nat.le_of_lt ((List.pairwise_append.1 hr).2.2 x hx z (by simp))
 ·rw [List.mem_singleton.1 hx];exact Nat.le_refl _
theorem fP.find {K:Nat→Nat} {l:List Nat} {j:Nat} {c:bX} (h:fP K l j c) (hin:dP K l) (hj:j<l.length) (h0:K l[j]≠0) {k:Nat} {b:Bool} (hf:Xf (c.2.2.map fun x=>(x.1,x.2.1)) (K l[j]) k b) :
 (b=false∧k=c.2.2.length∧∀x∈c.2.2,x.1<K l[j])∨(b=true∧∃q y,c.2.2=q++[y]∧y.1=K l[j]∧k=q.length):=by
 obtain ⟨f1,f2,f3,f4⟩:=hf;rw [List.length_map] at f1;simp only [List.length_map,List.getElem_map] at f2 f3 f4;by_cases hn:c.2.2=[]
 ·left;have hk:k=0:=by rw [hn] at f1;simpa using f1
  refine ⟨?_,by rw [hn];simpa using hk,by rw [hn];simp⟩;cases b with
  | false=>rfl
  | true=>
    obtain ⟨h1,_⟩:=f4.1 rfl;rw [hn] at h1;simp at h1
 ·obtain ⟨q,y,e⟩:∃q y,c.2.2=q++[y]:=⟨c.2.2.dropLast,c.2.2.getLast hn,(List.dropLast_concat_getLast hn).symm⟩;have hyl:c.2.2.getLast? = some y:=by rw [e,List.getLast?_concat]
  obtain ⟨i,hi,hij,hy⟩:=h.last y hyl;subst hij;have alk:y.1≤K l[i+1]:=by
   rcases Ie hin hj with h1|h1
   ·exact absurd h1 h0
   ·rw [hy];exact h1
  have hlen:c.2.2.length=q.length+1:=by rw [e];simp
  have hyq:∀(ht:q.length<c.2.2.length),c.2.2[q.length]=y:=fun ht=>by simp [e]
  by_cases hyk:y.1=K l[i+1]
  ·right;have hkq:k≤q.length:=by
    rcases Nat.lt_or_ge q.length k with h1|h1
    ·have:=f2 q.length (by omega) h1;rw [hyq] at this;omega
    ·exact h1
   have hkk:k=q.length:=by
    rcases Nat.lt_or_ge k q.length with h1|h1
    ·exfalso;have h2:=f3 k (by omega) (Nat.le_refl _);have h3:=(List.pairwise_iff_getElem.1 h.rise) k q.length (by omega) (by omega) h1;rw [hyq] at h3;omega
    ·omega
   refine ⟨f4.2 ⟨by omega,?_⟩,q,y,e,hyk,hkk⟩;subst hkk;rw [hyq];exact hyk
  ·left;have hall:∀x∈c.2.2,x.1<K l[i+1]:=fun x hx=>by
    have:=h.le x hx y hyl;omega
   have hkl:k=c.2.2.length:=by
    rcases Nat.lt_or_ge k c.2.2.length with h1|h1
    ·have h2:=f3 k h1 (Nat.le_refl _);have h3:=hall _ (List.getElem_mem h1);omega
    ·omega
   refine ⟨?_,hkl,hall⟩;cases b with
   | false=>rfl
   | true=>
     obtain ⟨h1,_⟩:=f4.1 rfl;omega
theorem fP.nil (K:Nat→Nat) (l:List Nat) (j h:Nat) (v:Value):fP K l j (h,v,[]):=⟨List.Pairwise.nil,by simp,by simp,by simp,by simp⟩
theorem fP.new {K:Nat→Nat} {l:List Nat} {j:Nat} {c:bX} (h:fP K l j c) (hj:j<l.length) (hk:K l[j]<1000000) (hall:∀x∈c.2.2,x.1<K l[j]) (v v':Value) (m:Nat):fP K l (j+1) (c.1,v,c.2.2++[(K l[j],v',[m])]):=by
 refine ⟨List.pairwise_append.2 ⟨h.rise,by simp,fun a ha b hb=>?_⟩,fun x hx=>?_,fun x hx=>?_,by have:=h.len;simp;omega,fun x hx=>?_⟩
 ·rw [List.mem_singleton.1 hb];exact hall a ha
 ·rcases List.mem_append.1 hx with hx|hx
  ·exact h.small x hx
  ·rw [List.mem_singleton.1 hx];exact hk
 ·rw [List.getLast?_concat] at hx;cases hx;exact ⟨j,hj,rfl,rfl⟩
 ·rcases List.mem_append.1 hx with hx|hx
  ·exact Nat.le_succ_of_le (h.marks x hx)
  ·rw [List.mem_singleton.1 hx];simp
theorem fP.more {K:Nat→Nat} {l:List Nat} {j:Nat} {hd:Nat} {v:Value} {q:List dU} {y:dU} (h:fP K l j (hd,v,q++[y])) (hj:j<l.length) (hy:y.1=K l[j]) (v':Value) (m:Nat):fP K l (j+1) (hd,v,q++[(y.1,v',y.2.2++[m])]):=by
 have hr:=List.pairwise_append.1 h.rise;refine ⟨List.pairwise_append.2 ⟨hr.1,by simp,fun a ha b hb=>?_⟩,fun x hx=>?_,fun x hx=>?_,by have:=h.len;simp at this ⊢;omega,fun x hx=>?_⟩
 ·rw [List.mem_singleton.1 hb];exact hr.2.2 a ha y (by simp)
 ·rcases List.mem_append.1 hx with hx|hx
  ·exact h.small x (by simp [hx])
  ·rw [List.mem_singleton.1 hx];exact h.small y (by simp)
 ·rw [List.getLast?_concat] at hx;cases hx;exact ⟨j,hj,rfl,hy⟩
 ·rcases List.mem_append.1 hx with hx|hx
  ·exact Nat.le_succ_of_le (h.marks x (by simp [hx]))
  ·rw [List.mem_singleton.1 hx];have:=h.marks y (by simp);simp;omega
section
open Go.RowKit Go.Cd
theorem IJ (bs:List Nat):Bc (bs.map fun b:Nat=>(b:Int))=bs:=by
 unfold Bc;rw [List.map_map];exact (List.map_congr_left fun _ _=>rfl).trans (List.map_id _)
theorem IK {xs:List Nat} (h:∀x∈xs,x<B):∀k,k≤xs.length→eu (xs.take k)<B ^ k∨k=0∧eu (xs.take k)=1:=by
 intro k
 induction k with
 | zero=>intro _;exact .inr ⟨rfl,by simp [eu]⟩
 | succ k ih=>
   intro hk;left;rw [nU xs k (by omega),Nat.pow_succ];have hx:=h _ (List.getElem_mem (show k<xs.length by omega));rcases ih (by omega) with h1|⟨h0,h1⟩
   ·exact Nat.mul_lt_mul'' h1 hx
   ·subst h0;rw [h1];simpa using hx
theorem zL {xs:List Nat} (h:∀x∈xs,x<B) (k:Nat) (hk:k≤xs.length):(bR B (eu (xs.take k))).length≤k+1:=by
 rw [cZ bF];rcases IK h k hk with h1|⟨h0,h1⟩
 ·exact Nat.lt_of_lt_of_le h1 (Nat.pow_le_pow_right (by decide) (by omega))
 ·subst h0;rw [h1];unfold B;decide
def R9 (r:bX):Nat:=eu (gy r.2.2)
def fQ (Rs:List bX):Nat:=(Rs.map R9).sum
theorem vX {Rs:List bX} {j:Nat} (hj:j<Rs.length):fQ (Rs.take (j+1))=fQ (Rs.take j)+R9 Rs[j]:=by
 unfold fQ;rw [List.take_succ_eq_append_getElem hj,List.map_append,List.sum_append];simp
def zM (Rs:List bX):Prop:=Rs.length<10000∧∀r∈Rs,r.2.2.length<10000∧∀x∈r.2.2,x.2.2.length<10000
theorem sJ {r:bX} (h:∀x∈r.2.2,x.2.2.length<10000):∀b∈gy r.2.2,b<B:=fun b hb=>by
 obtain ⟨x,hx,rfl⟩:=List.mem_map.1 hb;have:=h x hx;unfold B;omega
theorem Vw {r:bX} (h1:r.2.2.length<10000) (h:∀x∈r.2.2,x.2.2.length<10000) {n:Nat} (hn:10001≤n):R9 r<B ^ n:=by
 have h2:=zL (sJ h) (gy r.2.2).length (Nat.le_refl _);rw [List.take_length,cZ bF,zA] at h2;exact Nat.lt_of_lt_of_le h2 (Nat.pow_le_pow_right (by decide) (by omega))
theorem EE {Rs:List bX} (h:zM Rs) {j:Nat} (hj:j≤Rs.length):(bR B (fQ (Rs.take j))).length≤20002:=by
 obtain ⟨k,hk⟩:=ae 20002;rw [←hk,cZ bF];obtain ⟨n,hn⟩:=ae 10001;have key:∀j,j≤Rs.length→fQ (Rs.take j)≤j*B ^ n:=fun j=>by
  induction j with
  | zero=>intro _;simp [fQ]
  | succ j ih=>
    intro hj;rw [vX (by omega),Nat.add_mul,Nat.one_mul];have h1:=h.2 _ (List.getElem_mem (show j<Rs.length by omega));exact Nat.add_le_add (ih (by omega)) (Nat.le_of_lt (Vw h1.1 h1.2 (by omega)))
 have h1:=key j hj;have h2:j*B ^ n<B*B ^ n:=Nat.mul_lt_mul_of_pos_right (by have:=h.1;unfold B;omega) (Nat.pow_pos (by decide));rw [←Nat.pow_succ'] at h2;exact Nat.lt_of_lt_of_le (Nat.lt_of_le_of_lt h1 h2) (Nat.pow_le_pow_right (by decide) (by omega))
structure Bd (w:World) (B N p:Nat) (dv rs iC:Value) (small:Bool) (Rs:List bX):Prop where
 is:Is w p #[dv,rs,iC,.bool small] 151
 runs:w.ownsRow B d_ 6 rs Rs.length (Rs.flatMap kQ)
 xL:∀r∈Rs,uA w N r
 low:B≤p
 hi:p<N∧N≤w.heap.size
section
variable {w w' : World} {B N p : Nat} {dv rs iC : Value} {small : Bool} {Rs : List bX}
theorem Bd.ext (h:Bd w B N p dv rs iC small Rs) (hb:Below w.heap.size w w'):Bd w' B N p dv rs iC small Rs:=
 ⟨h.is.mono hb,aG h.runs hb,fun r hr=>(h.xL r hr).keep (.of_below (hb.mono h.hi.2) hb.size) (.of_below (hb.mono h.hi.2) hb.size),h.low,h.hi.1,Nat.le_trans h.hi.2 hb.size⟩
theorem Bd.put (h:Bd w B N p dv rs iC small Rs) (o:Nat) (u:Value) {YH:Value} {K6:Bool} (he:(#[dv,rs,iC,.bool small]:Array Value).setIfInBounds o u=#[dv,rs,YH,.bool K6]):Bd (w.setCell ⟨p,o,none⟩ u) B N p dv rs YH K6 Rs:=by
 have c:=bD.put (o:=o) h.is u;exact ⟨he▸h.is.set o u,c.own h.runs (by decide),fun r hr=>(h.xL r hr).keep (.fD c (by decide) N h.hi.2) (.fD c (by decide) N h.hi.2),h.low,h.hi.1,by simpa using h.hi.2⟩
end
theorem Fu.made {w:World} {B p:Nat} {dv rs:Value} {Rs:List bX} {c:bX} {F G:Nat} (h:Fu w B p dv rs Rs c F G):Bd w B w.heap.size p dv rs (.slice none 0 0) false (Rs++[c]):=by
 refine ⟨h.is,by rw [List.length_append];exact h.runs,fun r hr=>?_,h.low,h.is.lt,Nat.le_refl _⟩;rcases List.mem_append.1 hr with hr|hr
 ·exact (h.xL r hr).le (Nat.le_trans h.cur.fg h.cur.gs)
 ·rw [List.mem_singleton.1 hr];exact h.cur.xL
theorem R_ {n c k:Nat} {Ls:List (Nat×List Nat)} (h1:Ls.length≤k) (h2:∀x∈Ls,x.2.length≤k):(xM n c Ls).length≤k+1∧∀x∈xM n c Ls,x.2.length≤k+1:=by
 have hnew:(Ls++[(n,[c])]).length≤k+1∧∀x∈Ls++[(n,[c])],x.2.length≤k+1:=by
  refine ⟨by simp;omega,fun x hx=>?_⟩;rcases List.mem_append.1 hx with hx|hx
  ·have:=h2 x hx;omega
  ·rw [List.mem_singleton.1 hx];simp
 rcases List.eq_nil_or_concat Ls with e|⟨q,y,e⟩
 ·subst e;rw [zz (by simp)];exact hnew
 ·have e':Ls=q++[y]:=by simpa using e
  by_cases hy:y.1=n
  ·subst e';rw [show y=(y.1,y.2) from rfl,Cv hy];refine ⟨by simpa using Nat.le_succ_of_le h1,fun x hx=>?_⟩;rcases List.mem_append.1 hx with hx|hx
   ·have:=h2 x (by simp [hx]);omega
   ·rw [List.mem_singleton.1 hx];have:=h2 y (by simp);simp;omega
  ·rw [zz (fun x hx=>by rw [e',List.getLast?_concat] at hx;injection hx with hx;rw [←hx];exact hy)];exact hnew
def Pb (k:Nat) (rs:List cO):Prop:=rs≠[]∧rs.length≤k+1∧∀r∈rs,r.2.length≤k∧∀x∈r.2,x.2.length≤k
theorem Sa {K:Nat→Nat} {rs:List cO} {c k:Nat} (h:Pb k rs):Pb (k+1) (A9 K rs c):=by
 obtain ⟨h0,h1,h2⟩:=h;by_cases hc:K c=0
 ·rw [Ic hc];refine ⟨by simp,by simp;omega,fun r hr=>?_⟩;rcases List.mem_append.1 hr with hr|hr
  ·exact ⟨Nat.le_succ_of_le (h2 r hr).1,fun x hx=>Nat.le_succ_of_le ((h2 r hr).2 x hx)⟩
  ·rw [List.mem_singleton.1 hr];exact ⟨Nat.zero_le _,by simp⟩
 ·rcases List.eq_nil_or_concat rs with e|⟨q,y,e⟩
  ·exact absurd e h0
  ·have e':rs=q++[y]:=by simpa using e
   subst e';rw [Cw hc];refine ⟨by simp,by simp at h1 ⊢;omega,fun r hr=>?_⟩;rcases List.mem_append.1 hr with hr|hr
   ·have:=h2 r (by simp [hr]);exact ⟨Nat.le_succ_of_le this.1,fun x hx=>Nat.le_succ_of_le (this.2 x hx)⟩
   ·rw [List.mem_singleton.1 hr];have:=h2 y (by simp);exact R_ this.1 this.2
theorem eZ (K:Nat→Nat) (l:List Nat):Pb l.length (bu K l):=by
 have key:∀(l:List Nat) k rs,Pb k rs→Pb (k+l.length) (l.foldl (A9 K) rs):=fun l=>by
  induction l with
  | nil=>intro k rs h;exact h
  | cons c l ih=>
    intro k rs h;have:=ih (k+1) _ (Sa (K:=K) (c:=c) h);rw [List.length_cons,show k+(l.length+1)=k+1+l.length by omega];exact this
 have:=key l 0 [(0,[])] ⟨by simp,by simp,fun r hr=>by rw [List.mem_singleton.1 hr];exact ⟨Nat.le_refl _,by simp⟩⟩;rw [Nat.zero_add] at this;exact this
theorem zM.of {Rs:List bX} {k:Nat} (h:Pb k (Rs.map bX.sp)) (hk:k<9000):zM Rs:=by
 obtain ⟨_,h1,h2⟩:=h;refine ⟨by rw [List.length_map] at h1;omega,fun r hr=>?_⟩;have:=h2 _ (List.mem_map.2 ⟨r,hr,rfl⟩);refine ⟨by have:=this.1;simp [bX.sp] at this;omega,fun x hx=>?_⟩;have:=this.2 _ (List.mem_map.2 ⟨x,hx,rfl⟩);simp [dU.sp] at this;omega
end
section
open Go.RowKit Go.Cd
theorem Sb {α:Type} (f:α→List Value) (m:Nat) (hf:∀a,(f a).length=m):∀(l:List α) (i:Nat) (hi:i<l.length) (x':α) (j:Nat) (u:Value),j<m→(f l[i]).set j u=f x'→(l.flatMap f).set (i*m+j) u=(l.set i x').flatMap f
 | [],i,hi,_,_,_,_,_=>absurd hi (by simp)
 | a::l,0,_,x',j,u,hj,he=>by
   simp only [List.flatMap_cons,Nat.zero_mul,Nat.zero_add,List.set_cons_zero];rw [List.set_append_left _ _ (by rw [hf];exact hj)];rw [show (f a).set j u=f x' from he]
 | a::l,i+1,hi,x',j,u,hj,he=>by
   simp only [List.flatMap_cons,List.set_cons_succ];rw [List.set_append_right (h:=by rw [hf,Nat.add_mul];omega),hf,show (i+1)*m+j-m=i*m+j by rw [Nat.add_mul];omega];rw [Sb f m hf l i (by simpa using hi) x' j u hj (by simpa using he)]
theorem jb.iD {w w':World} {t:TypeId} {v:Value} {bs:List Nat} (h:jb w v bs) (hc:bD w w' t) (hne:bq≠t):jb w' v bs:=by
 obtain ⟨s1,s2,hv,h1,h2⟩:=h;have key:∀{s:Value} {xs:List Value},Sl bq w s xs→Sl bq w' s xs:=by
  rintro s xs ⟨a,cap,hv,hcap,hx⟩;refine ⟨a,cap,hv,hcap,hx.imp id ?_⟩;rintro ⟨b,off,cs,fr,ha,hh,hx⟩;refine ⟨b,off,cs,fr,ha,(hc.keep b (block_lt hh) ?_).trans hh,hx⟩;rintro ⟨cs',h9⟩;rw [hh] at h9;injection h9 with h9;injection h9 with _ h9 _;exact hne h9
 exact ⟨s1,s2,hv,key h1,key h2⟩
theorem IL (bs:List Nat):aX bs=eu bs:=by
 have key:∀(bs:List Nat) a,bs.foldl (·*·) a=a * aX bs:=fun bs=>by
  induction bs with
  | nil=>intro a;simp [aX]
  | cons b bs ih=>intro a;rw [List.foldl_cons,ih,aX,Nat.mul_assoc]
 unfold eu;rw [key,Nat.one_mul]
abbrev oF:=bX×(Value×Value×Int)×Int
def lV (x:oF):List Value:=[.int .i32 x.1.1,x.1.2.1,x.2.1.1,x.2.1.2.1,.int .i64 x.2.1.2.2,.int .i64 x.2.2]
theorem vY (x:oF):(lV x).length=6:=rfl
def Sc (x:oF):Value:=.agg #[x.2.1.1,x.2.1.2.1,.int .i64 x.2.1.2.2]
def EF (r:bX):oF:=(r,(.slice none 0 0,.slice none 0 0,0),0)
theorem IM (Rs:List bX):(Rs.map EF).flatMap lV=Rs.flatMap kQ:=by rw [List.flatMap_map];rfl
structure jO (w:World) (B N p:Nat) (dv rs iC:Value) (small:Bool) (Es:List oF) (i:Nat):Prop where
 is:Is w p #[dv,rs,iC,.bool small] 151
 runs:w.ownsRow B d_ 6 rs Es.length (Es.flatMap lV)
 xL:∀e∈Es,uA w N e.1
 low:B≤p
 hi:p<N∧N≤w.heap.size
 Vx:∀k (hk:k<Es.length),k<i→jb w (Sc Es[k]) (gy Es[k].1.2.2)∧Es[k].2.2=(fQ ((Es.map (·.1)).take k):Nat)
section
variable {w w' : World} {B N p : Nat} {dv rs iC : Value} {small : Bool} {Es : List oF} {i : Nat}
theorem jO.of {Rs:List bX} (h:Bd w B N p dv rs iC small Rs):jO w B N p dv rs iC small (Rs.map EF) 0:=
 ⟨h.is,by rw [IM,List.length_map];exact h.runs,fun e he=>by obtain ⟨r,hr,rfl⟩:=List.mem_map.1 he;exact h.xL r hr,h.low,h.hi,fun _ _ h=>absurd h (by simp)⟩
theorem jO.ext (h:jO w B N p dv rs iC small Es i) (hb:Below w.heap.size w w'):jO w' B N p dv rs iC small Es i:=
 ⟨h.is.mono hb,aG h.runs hb,fun r hr=>(h.xL r hr).keep (.of_below (hb.mono h.hi.2) hb.size) (.of_below (hb.mono h.hi.2) hb.size),h.low,⟨h.hi.1,Nat.le_trans h.hi.2 hb.size⟩,fun k hk hi=>⟨(h.Vx k hk hi).1.mono hb,(h.Vx k hk hi).2⟩⟩
theorem jO.store {g n c:Nat} (h:jO w B N p dv (.slice (some ⟨g,0,none⟩) n c) iC small Es i) (hi:i<Es.length) (x':oF) (j:Nat) (u:Value) (hj:j<6) (he:(lV Es[i]).set j u=lV x') (h1:x'.1=Es[i].1) :
 jO (w.setCell ⟨g,i*6+j,none⟩ u) B N p dv (.slice (some ⟨g,0,none⟩) n c) iC small (Es.set i x') i:=by
 obtain ⟨cs,hcs⟩:=bP h.runs (k:=g) rfl;have c1:=bD.put (o:=i*6+j) (⟨hcs⟩:Is w g cs d_) u;have hmap:(Es.set i x').map (·.1)=Es.map (·.1):=by
  rw [List.map_set,h1];have:Es[i].1=(Es.map (·.1))[i]'(by simpa using hi):=by simp
  rw [this,List.set_getElem_self]
 refine ⟨c1.is h.is (by decide),?_,fun e he'=>?_,h.low,⟨h.hi.1,by simpa using h.hi.2⟩,fun k hk hki=>?_⟩
 ·have hn:n=Es.length:=by
   obtain ⟨_,_,e,_⟩:=ak h.runs;injection e with _ e _
  subst hn;have:=h.runs.stored (i*6+j) u;rw [Sb lV 6 vY Es i hi x' j u hj he] at this;rw [List.length_set];exact this.1
 ·have:uA w N e.1:=by
   rcases List.mem_or_eq_of_mem_set he' with h2|h2
   ·exact h.xL e h2
   ·rw [h2,h1];exact h.xL _ (List.getElem_mem hi)
  exact this.keep (.fD c1 (by decide) N h.hi.2) (.fD c1 (by decide) N h.hi.2)
 ·rw [List.length_set] at hk;have h2:=h.Vx k hk hki;rw [hmap];have e9:(Es.set i x')[k]'(by rw [List.length_set];exact hk)=Es[k]:=List.getElem_set_ne (by omega) _;rw [e9];exact ⟨h2.1.iD c1 (by decide),h2.2⟩
theorem jO.more (h:jO w B N p dv rs iC small Es i) (hi:i<Es.length) (h1:jb w (Sc Es[i]) (gy Es[i].1.2.2)) (h2:Es[i].2.2=(fQ ((Es.map (·.1)).take i):Nat)):jO w B N p dv rs iC small Es (i+1):=
 ⟨h.is,h.runs,h.xL,h.low,h.hi,fun k hk hk2=>by
   rcases Nat.lt_succ_iff_lt_or_eq.1 hk2 with h3|rfl
   ·exact h.Vx k hk h3
   ·exact ⟨h1,h2⟩⟩
theorem jO.EG {g n c:Nat} {A D:List oF} {x:oF} (h:jO w B N p dv (.slice (some ⟨g,0,none⟩) n c) iC small (A++x::D) i) (hi:A.length=i) (x':oF) (j:Nat) (u:Value) (hj:j<6) (he:(lV x).set j u=lV x') (h1:x'.1=x.1) {o:Nat} (ho:o=i*6+j) :
 jO (w.setCell ⟨g,o,none⟩ u) B N p dv (.slice (some ⟨g,0,none⟩) n c) iC small (A++x'::D) i:=by
 subst ho;subst hi;have e9:(A++x::D)[A.length]'(by simp)=x:=by simp
 have:=h.store (by simp) x' j u hj (by rw [e9];exact he) (by rw [e9];exact h1);rw [List.set_append_right (h:=Nat.le_refl _),Nat.sub_self,List.set_cons_zero] at this;exact this
theorem jO.cells {g n c:Nat} (h:jO w B N p dv (.slice (some ⟨g,0,none⟩) n c) iC small Es i) {k:Nat} (hk:k<Es.length) :
 ∀j<6,w.cell? ⟨g,k*6+j,none⟩=(lV Es[k])[j]?∧w.frozen? ⟨g,k*6+j,none⟩=false:=by
 obtain ⟨g',rc,e,_,_,_,hc⟩:=dB (f:=lV) vY rfl h.runs hk;injection e with e _ _;injection e with e;injection e with e;subst e;exact hc
theorem jO.vZ {g n c:Nat} {A D:List oF} {x:oF} (h:jO w B N p dv (.slice (some ⟨g,0,none⟩) n c) iC small (A++x::D) i) (hi:A.length=i) :
 ∀j<6,w.cell? ⟨g,i*6+j,none⟩=(lV x)[j]?∧w.frozen? ⟨g,i*6+j,none⟩=false:=by
 subst hi;have e9:(A++x::D)[A.length]'(by simp)=x:=by simp
 have:=h.cells (k:=A.length) (by simp);rw [e9] at this;exact this
theorem jO.abQ {A D:List oF} {x:oF} (h:jO w B N p dv rs iC small (A++x::D) i) (hi:A.length=i) (h1:jb w (Sc x) (gy x.1.2.2)) (h2:x.2.2=(fQ (A.map (·.1)):Nat)):jO w B N p dv rs iC small (A++x::D) (i+1):=by
 subst hi;have e9:(A++x::D)[A.length]'(by simp)=x:=by simp
 refine h.more (by simp) (by rw [e9];exact h1) ?_;rw [e9,List.map_append,List.take_append_of_le_length (by simp),List.take_of_length_le (by simp)];exact h2
end
end
end Go.Proofs.YtmpkfkoficehpaaGreatDoor
