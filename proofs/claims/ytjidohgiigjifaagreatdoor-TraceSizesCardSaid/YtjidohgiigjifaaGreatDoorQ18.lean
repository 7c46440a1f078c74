/- TraceSizes: a machine made of a text has as many states as the document says; no condition. -/
import Derived.Test.YtjidohgiigjifaaGreatDoorQ17
import Derived.Test.YtjidohgiigjifaaGreatDoorQ16
import Derived.Laws.BitsAllLaws
set_option maxRecDepth 100000
set_option maxHeartbeats 6400000
namespace Go.Proofs.YtjidohgiigjifaaGreatDoor
open Go.RowKit Go.Cd
theorem Mm {b:Nat} (hb:2≤b) (x:Nat):lu b x (aV b x).length=aV b x:=by
 apply List.ext_getElem (by simp);intro i h1 h2;have:=tL hb x i;rw [List.getElem?_eq_getElem h2] at this;simp only [Option.getD_some] at this;simp [lu,this]
theorem Dk (x:Nat) (hx:x<18446744073709551616) (w:World) :
 Calls Tryz.prog 12 #[.int .u64 x] w fun e w'=>∃u,e=.returned u∧fw w' u x∧Below w.heap.size w w':=by
 have hD:(aV 10 x).length≤20:=(aR (by omega)).2 (by omega);have hmore:∀k,x / 10 ^ k≠0→k<(aV 10 x).length:=fun k h=>jY (by omega) h;have hend:∀k,x / 10 ^ k=0→(aV 10 x).length≤k:=fun k h=>by
  rw [aR (by omega)];rcases Nat.lt_or_ge x (10 ^ k) with h1|h1
  ·exact h1
  ·have:1≤x / 10 ^ k:=(Nat.le_div_iff_mul_le (Nat.pow_pos (by omega))).2 (by omega);omega
 have hdl:=Mm (b:=10) (by omega) x;have Gi:=ae hmore;have PM:=ae hend;have JU:=ae hdl;generalize hDD:(aV 10 x).length=D at *;have HDD:=ae hDD;clear hmore hend hdl hDD;go_enter Tryz.func12,Tryz.ntmps12;go_wp2_with fail;go_loopw [0,3] (fun i o wr=>∃k:Nat,k≤D∧i=.int .u64 (x / 10 ^ k:Nat)∧wr.ownsRow w.heap.size aU 1 o k (ds (lu 10 x k))∧Below w.heap.size w wr)
  (fun i _ _=>(intOf i).toNat)
 case atStart=>exact ⟨0,Nat.zero_le _,by simp,il _ _,ai _⟩
 case round=>
  obtain ⟨k,hk,rfl,hown,hb⟩:=hrel;have hle:x / 10 ^ k≤x:=Nat.div_le_self _ _;have hmo:=Gi.out k;have hen:=PM.out k;have hq1:x / 10 ^ (k+1)=x / 10 ^ k / 10:=by rw [Nat.pow_succ,Nat.div_div_eq_div_mul]
  have hq2:iG 10 x k=x / 10 ^ k % 10:=rfl;have HQ1:=ae hq1;have HQ2:=ae hq2;clear hq1 hq2;generalize x / 10 ^ k=q at *;by_cases hq:0<q
  ·have hkk:=hmo (by omega);clear hmo hen;go_wp2_with (at_builtin;refine dK rfl _ _ 23 rfl w.heap.size aU _ 8 fA _ k _ rfl hown _ rfl rfl (by omega) (by unfold maxLen;omega) w hb (Nat.le_refl _) ?_;intro v' w' hown' hb');go_roundw
   case rel=>
    have e1:(q:Int) / 10=(x / 10 ^ (k+1):Nat):=by have:=HQ1.out;omega
    have e2:(q:Int) % 10=(iG 10 x k:Nat):=by have:=HQ2.out;omega
    rw [e2] at hown';rw [e1];exact ⟨k+1,by omega,rfl,by rw [oh,om];exact hown',hb'⟩
   case measure=>simp [intOf];omega
  ·have hkD:=hen (by omega);clear hmo hen;obtain rfl:k=D:=by omega
   rw [JU.out] at hown;go_wp2;go_ret;exact ⟨_,rfl,Sl.aT hown,hb⟩
theorem Bw {w:World} {v u:Value} {x y:Nat} (h:fw w v x) (g:fw w u y) (hx:(aV 10 x).length<1073741824) (hy:(aV 10 y).length<1073741824) :
 Calls Tryz.prog 10 #[v,u] w fun e w'=>∃r,e=.returned r∧fw w' r (x+y)∧Below w.heap.size w w':=by
 obtain ⟨a,cap,rfl,hc,_⟩:=Sl.out h;obtain ⟨a2,cap2,rfl,hc2,_⟩:=Sl.out g;rw [bW] at hc hc2 h g;rw [bW,bW];have hD:(aV 10 (x+y)).length≤(aV 10 x).length+(aV 10 y).length+1:=by
  rw [aR (by omega)];exact wX (by omega) ((aR (by omega)).1 (by omega)) ((aR (by omega)).1 (by omega))
 have a1:=fun (W:World) (E:Below w.heap.size w W) (k:Nat)=>PI (h.mono E) k;have a2':=fun (W:World) (E:Below w.heap.size w W) (k:Nat)=>PI (g.mono E) k;have A1:=ae a1;have A2:=ae a2';have hdiv:∀k,(x+y) / 10 ^ k=carry 10 x y k+(x / 10 ^ k+y / 10 ^ k):=fun k=>by
  have hp:0<10 ^ k:=Nat.pow_pos (by omega);have e:x+y=(x % 10 ^ k+y % 10 ^ k)+10 ^ k*(x / 10 ^ k+y / 10 ^ k):=by
   have h1:=Nat.mod_add_div x (10 ^ k);have h2:=Nat.mod_add_div y (10 ^ k);rw [Nat.mul_add];omega
  conv=>lhs;rw [e]
  rw [Nat.add_mul_div_left _ _ hp];rfl
 have hend:∀k,(aV 10 x).length≤k→(aV 10 y).length≤k→carry 10 x y k=0→val 10 (lu 10 (x+y) k)=x+y:=fun k h1 h2 h3=>
  Gh (by omega) (by rw [hdiv,h3,dH (by omega) h1,dH (by omega) h2])
 have hmore:∀k,k<(aV 10 x).length∨k<(aV 10 y).length∨0<carry 10 x y k→k<(aV 10 x).length+(aV 10 y).length+(aV 10 (x+y)).length:=fun k hk=>by
  rcases hk with hk|hk|hk
  ·omega
  ·omega
  ·have:k<(aV 10 (x+y)).length:=jY (by omega) (by rw [hdiv];exact Nat.ne_of_gt (Nat.lt_of_lt_of_le hk (Nat.le_add_right _ _)));omega
 have PM:=ae hend;have Gi:=ae hmore;generalize (aV 10 x).length=L at *;generalize (aV 10 y).length=L2 at *;generalize (aV 10 (x+y)).length=D at *;clear h g a1 a2' hend hmore hdiv;go_enter Tryz.func10,Tryz.ntmps10;go_wp2_with fail;go_loopw [5,6,7] (fun o c i wr=>∃k:Nat,k≤L+L2+D∧i=.int .i64 k∧c=.int .i64 (carry 10 x y k:Nat)∧wr.ownsRow w.heap.size aU 1 o k (ds (lu 10 (x+y) k))∧Below w.heap.size w wr)
  (fun _ _ i _=>L+L2+D-(intOf i).toNat)
 case atStart=>exact ⟨0,Nat.zero_le _,rfl,by rw [carry_zero];rfl,il _ _,ai _⟩
 case round=>
  obtain ⟨k,hk,rfl,rfl,hown,hb⟩:=hrel;have b1:=fun (W:World) (E:Below w.heap.size w W)=>A1.out W E k;have b2:=fun (W:World) (E:Below w.heap.size w W)=>A2.out W E k;have hcs:=carry_succ (b:=10) (by omega) x y k;have hdg:=JP (b:=10) (by omega) x y k;have hle:=DN (b:=10) (by omega) x y k;have hd1:=qd (b:=10) (by omega) x k;have hd2:=qd (b:=10) (by omega) y k;have hmo:=Gi.out k;have hen:=PM.out k;generalize carry 10 x y k=c at *;generalize iG 10 x k=d at *;generalize iG 10 y k=d2 at *;have B1:=ae b1;have B2:=ae b2;have Qx:=ae hcs;have HDG:=ae hdg;have HEn:=ae hen;clear b1 b2 hcs hdg hen;by_cases hgo:k<L∨k<L2∨0<c
  ·have hkk:=hmo hgo;clear hmo;by_cases hkL:k<L
   all_goals by_cases adt:k<L2
   all_goals
    go_wp2_with fail;refine (B1.out _ hb).mono ?_;rintro e w2 ⟨rfl,rfl⟩;go_wp2_with fail;refine (B2.out _ hb).mono ?_;rintro e w2 ⟨rfl,rfl⟩;go_wp2_with (at_builtin;refine dK rfl _ _ 23 rfl w.heap.size aU _ 8 fA _ k _ rfl hown _ rfl rfl (by omega) (by unfold maxLen;omega) w hb (Nat.le_refl _) ?_;intro v' w' hown' hb');go_roundw
    case rel=>
     have e1:((d:Int)+d2+c) / 10=(carry 10 x y (k+1):Nat):=by have:=Qx.out;omega
     have e2:((d:Int)+d2+c) % 10=(iG 10 (x+y) k:Nat):=by have:=HDG.out;omega
     rw [e2] at hown';rw [e1];exact ⟨k+1,by omega,rfl,rfl,by rw [oh,om];exact hown',hb'⟩
    case measure=>simp [intOf];omega
  ·have hkL:¬k<L:=by omega
   have adt:¬k<L2:=by omega
   have hc0:c=0:=by omega
   subst hc0;go_wp2_with fail;refine (uG (Sl.aT hown) (BP (by omega) _ _) (by simp;omega)).mono ?_;rintro e w2 ⟨u,rfl,hu,hb2⟩;rw [HEn.out (by omega) (by omega) (by simp)] at hu;go_wp2;go_ret;exact ⟨_,rfl,hu,ag hb hb2⟩
theorem zX {w:World} {v u:Value} {x y:Nat} (h:fw w v x) (g:fw w u y) (hx:(aV 10 x).length<1073741824) (hy:(aV 10 y).length<1073741824) :
 Calls Tryz.prog 45 #[v,u] w fun e w'=>e=.returned (.int .i64 (tN x y))∧Below w.heap.size w w':=by
 obtain ⟨a,cap,rfl,hc,hr⟩:=Sl.out h;obtain ⟨a2,cap2,rfl,hc2,hr2⟩:=Sl.out g;simp only [bW] at *;have hcl:∀k,k<(aV 10 x).length→k<(aV 10 y).length→∃b off b2 oQ,a=some ⟨b,off,none⟩∧a2=some ⟨b2,oQ,none⟩∧w.cell? ⟨b,off+k,none⟩=some (.int .i64 (iG 10 x k:Nat))∧w.cell? ⟨b2,oQ+k,none⟩=some (.int .i64 (iG 10 y k:Nat)):=fun k hk hk2=>by
  obtain ⟨b,off,ha,_,hcell⟩:=hr k hk;obtain ⟨b2,oQ,ha2,_,hcell2⟩:=hr2 k hk2;have e:∀(x:Nat) (hk:k<(aV 10 x).length),(ds (aV 10 x))[k]'(by simpa using hk)=.int .i64 (iG 10 x k:Nat):=fun x hk=>by
   have:=tL (b:=10) (by omega) x k;rw [List.getElem?_eq_getElem hk] at this;simp only [Option.getD_some] at this;simp [ds,this]
  rw [e x hk] at hcell;rw [e y hk2] at hcell2;exact ⟨b,off,b2,oQ,ha,ha2,hcell,hcell2⟩
 have HCl:=ae hcl;have hlt:=qW (b:=10) (by omega) (x:=x) (y:=y);have hgt:=qW (b:=10) (by omega) (x:=y) (y:=x);have hst:x / 10 ^ (aV 10 x).length=0:=dH (by omega) (Nat.le_refl _);have Tq:y / 10 ^ (aV 10 y).length=0:=dH (by omega) (Nat.le_refl _);clear h g hcl hr hr2;generalize (aV 10 x).length=L at *;generalize (aV 10 y).length=L2 at *;rcases Nat.lt_trichotomy L L2 with hl|hl|hl
 ·have hz:((L:Int)==L2)=false:=by simp;omega
  have HX:=ae (tO (hlt hl));rw [HX.out];clear hst Tq hlt hgt;go_enter Tryz.func45,Tryz.ntmps45;go_wp2;go_ret;exact ⟨rfl,Below.refl _ _⟩
 ·subst hl;have HST:=ae (hst.trans Tq.symm);clear hst Tq hlt hgt;go_enter Tryz.func45,Tryz.ntmps45;go_wp2_with fail;go_loopw [5] (fun i wr=>∃k:Nat,k≤L∧i=.int .i64 ((k:Int)-1)∧x / 10 ^ k=y / 10 ^ k∧Below w.heap.size w wr) (fun i _=>((intOf i)+1).toNat)
  case atStart=>exact ⟨L,Nat.le_refl _,rfl,HST.out,Below.refl _ _⟩
  case round=>
   obtain ⟨k,hk,rfl,hq,hb⟩:=hrel;have HQ:=ae hq;clear hq;by_cases hk0:0<k
   ·obtain ⟨j,rfl⟩:∃j,k=j+1:=⟨k-1,by omega⟩;have e1:((j+1:Nat):Int)-1=j:=by omega
    rw [e1];obtain ⟨b,off,b2,oQ,rfl,rfl,h1,h2⟩:=HCl.out j (by omega) (by omega);have hl1:=og (b:=10) HQ.out;have hl2:=og (b:=10) HQ.out.symm;have Zx:=lq (b:=10) x j;have Zy:=lq (b:=10) y j;generalize iG 10 x j=d at *;generalize iG 10 y j=d2 at *;have UB:=ae hl1;have HL2:=ae hl2;have HD1:=ae Zx;have HD2:=ae Zy;have hE1:=ag hb (ah wr);have hg1:=Gr.cell hE1 h1;have hg2:=Gr.cell hE1 h2;clear hl1 hl2 Zx Zy e1;go_wp2_with fail;refine aD (Array.replicate 9 true) 9 0 mixed (by rfl) ?_;refine ay [0,1,2,3,4,5,6,7,8] 0 rfl (by kernel_rfl) ?_
    iterate 9 (refine aC rfl ?_;go_big_quiet_step (rfl))
    refine ak ?_;refine aI [] (by kernel_rfl) ?_;refine tail_nil ?_;clear hg1 hg2;by_cases hdd:d<d2
    ·have HX:=ae (tO (UB.out hdd));go_wp2;go_ret;exact ⟨oo HX.out.symm,hE1⟩
    ·have hE2:=ag hE1 (ah _);have hg1:=Gr.cell hE2 h1;have hg2:=Gr.cell hE2 h2;go_wp2_with fail;refine aD (Array.replicate 9 true) 9 0 mixed (by rfl) ?_;refine ay [0,1,2,3,4,5,6,7,8] 0 rfl (by kernel_rfl) ?_
     iterate 9 (refine aC rfl ?_;go_big_quiet_step (rfl))
     refine ak ?_;refine aI [] (by kernel_rfl) ?_;refine tail_nil ?_;clear hg1 hg2;by_cases adu:d2<d
     ·have HX:=ae (tQ (HL2.out adu));go_wp2;go_ret;exact ⟨oo HX.out.symm,hE2⟩
     ·have hq:x / 10 ^ j=y / 10 ^ j:=by rw [HD1.out,HD2.out,HQ.out,show d=d2 by omega]
      have HQ2:=ae hq;clear hq;go_wp2;go_roundw
      case rel=>exact ⟨j,by omega,rfl,HQ2.out,hE2⟩
      case measure=>simp [intOf]
   ·obtain rfl:k=0:=by omega
    have hxy:x=y:=by have:=HQ.out;simpa using this
    subst hxy;go_wp2;go_ret;exact ⟨oo (DR _).symm,hb⟩
 ·have hz:((L:Int)==L2)=false:=by simp;omega
  have HX:=ae (tQ (hgt hl));rw [HX.out];clear hst Tq hlt hgt;go_enter Tryz.func45,Tryz.ntmps45;go_wp2;go_ret;exact ⟨rfl,Below.refl _ _⟩
theorem vN (x y:Nat):(tN x y==0)=decide (x=y):=by
 unfold tN;by_cases h:x<y
 ·rw [if_pos h];simp;omega
 ·rw [if_neg h];by_cases h':y<x
  ·rw [if_pos h'];simp;omega
  ·rw [if_neg h'];simp;omega
theorem Zz {w:World} {v u:Value} {x y:Nat} (h:dJ w v x) (g:fw w u y) (hx:(aV B x).length<50000000) (hy:(aV 10 y).length<1073741824) :
 Calls Tryz.prog 15 #[v,u] w fun e w'=>e=.returned (.bool (decide (x=y)))∧Below w.heap.size w w':=by
 obtain ⟨s,rfl,hs⟩:=id h;obtain ⟨a,cap,rfl,_⟩:=id hs;rw [bR] at *;have hl:=n_ bC x;have hv:=gI bC x;have hlast:=Am bC x;have h10:=Gl (x:=x) ((aR bC).1 (Nat.le_refl (aV B x).length));have HS:=ae h;have HG:=ae g;have HL:=ae hl;have HV:=ae hv;have nl:=fun (W:World) (E:Below w.heap.size w W)=>nT (h.mono E) (by omega);have NL:=ae nl;have ZA:=ae hlast;clear h g hs hl hv nl hlast;generalize hdg:aV B x=l at *;clear hdg;go_enter Tryz.func15,Tryz.ntmps15;go_wp2_with fail;refine (NL.out _ (ai _)).mono ?_;rintro e w1 ⟨r,rfl,hown,hb1⟩;have hE1:=ag (ai (w:=w) _) hb1;obtain ⟨a1,aiG,rfl,hc1,hr1⟩:=Sl.out (Sl.aT hown);simp only [bR] at *;have c1:=fun (W:World) (E:Below w.heap.size w W) (v:Value) (hv:fw W v (val B l))=>zX hv (HG.out.mono E) (by rw [HV.out];omega) hy;have HC:=ae c1;have HO:=ae (PN (Sl.aT hown) HL.out (by omega));clear c1 hown hb1;by_cases h0:0<l.length
 ·obtain ⟨b,off,rfl,_,hcell⟩:=hr1 (l.length-1) (by omega);rw [dO _ _ (by omega)] at hcell;have hne:l[l.length-1]≠0:=ZA.out _ (by rw [List.getLast?_eq_getElem?,List.getElem?_eq_getElem (by omega)]);generalize l[l.length-1]=d at *;have hz:((d:Int)==0)=false:=by simp;omega
  clear hr1;go_wp2_with fail;refine HO.out.mono ?_;rintro e w2 ⟨u2,rfl,hu2,hb2⟩;have hE2:=ag hE1 hb2;go_wp2_with fail;refine (HC.out _ hE2 _ hu2).mono ?_;rintro e w3 ⟨rfl,hb3⟩;rw [HV.out];have M9:=ae (vN x y);clear hu2 hb2;go_wp2;go_ret;exact ⟨dh M9.out,ag hE2 hb3⟩
 ·clear hr1;go_wp2_with fail;refine HO.out.mono ?_;rintro e w2 ⟨u2,rfl,hu2,hb2⟩;have hE2:=ag hE1 hb2;go_wp2_with fail;refine (HC.out _ hE2 _ hu2).mono ?_;rintro e w3 ⟨rfl,hb3⟩;rw [HV.out];have M9:=ae (vN x y);clear hu2 hb2;go_wp2;go_ret;exact ⟨dh M9.out,ag hE2 hb3⟩
def fF (xs:List Nat):Nat:=xs.foldl (·*·) 1
theorem yO (xs:List Nat) (k:Nat) (h:k<xs.length):fF (xs.take (k+1))=fF (xs.take k)*xs[k]:=by
 unfold fF;rw [List.take_succ_eq_append_getElem h,List.foldl_append];rfl
theorem Jg {w:World} {v:Value} {l:List Int} (h:bD w v (bH l)) (hmax:l.length<1099511627776) (hbig:∀d∈l,d<9223372036854775808) (hl:∀k,k≤l.length→(aV B (fF ((zV l).take k))).length<274877906944) :
 Calls Tryz.prog 40 #[v] w fun e w'=>∃r,e=.returned r∧dJ w' r (fF (zV l))∧Below w.heap.size w w':=by
 obtain ⟨x1,wI,rfl,_,hx1⟩:=bD.lD h;have Bo:=ae hx1;have HL:=ae hl;have ZB:=ae hbig;clear h hx1 hl hbig;have b0:=ai (w:=w) (.cells #[.slice none 0 0] 44);have z0:(w.alloc (.cells #[.slice none 0 0] 44)).heap[w.heap.size]? = some (.cells #[.slice none 0 0] 44):=heap_alloc_new' _ _ _ rfl;go_enter Tryz.func40,Tryz.ntmps40;go_wp2_with fail;refine (Ke 1 (by omega) _).mono ?_;rintro e w3 ⟨r3,rfl,n3,b3⟩;obtain ⟨a3,m3,yN,rfl,n3⟩:=n3.out;have E3:=ag b0 b3;have z0:=(b3.block _ (by simp)).trans z0;have z3:(w3.alloc (.cells #[.slice a3 m3 yN] 44)).heap[w3.heap.size]? = some (.cells #[.slice a3 m3 yN] 44):=heap_alloc_new' _ _ _ rfl;have n4:=n3.mono (ai (.cells #[.slice a3 m3 yN] 44));have b4:=ai (w:=w3) (.cells #[.slice a3 m3 yN] 44);have hne:w.heap.size<w3.heap.size:=by have:=b3.size;simp at this;omega
 have Z0:=ae z0;clear n3 b3 b0 z0;go_wp2_with fail;go_loopw [9] (fun i wr=>∃(j:Nat) (a5:Option Addr) (m5 cap5:Nat),j≤l.length∧i=.int .i64 j∧wr.heap[w3.heap.size]? = some (.cells #[.slice a5 m5 cap5] 44)∧dJ wr (.agg #[.slice a5 m5 cap5]) (fF ((zV l).take j))∧Below w3.heap.size w3 wr)
  (fun i _=>l.length-(intOf i).toNat)
 case atStart=>exact ⟨0,a3,m3,yN,Nat.zero_le _,rfl,z3,n4,b4⟩
 case round=>
  clear z3 n4 b4;obtain ⟨j,a5,m5,cap5,hj,rfl,z5,n5,b5⟩:=hrel;have hs5:=b5.size;have E5:=ag E3 b5;by_cases hjx:j<l.length
  ·obtain ⟨b,off,rfl,hb,hc⟩:=Bo.out j hjx;have hc:=aA E5 hc;have adv:=ZB.out _ (List.getElem_mem hjx);have HP:=ae (yO (zV l) j (by simpa using hjx));have hge:(zV l)[j]'(by simpa using hjx)=l[j].toNat:=by simp [zV]
   rw [hge] at HP;clear hge;generalize l[j]=d at *;obtain ⟨n,hn⟩:=af d.toNat;rw [←hn] at HP;have hmx:max d 0=(n:Int):=by omega
   have hwr:IntKind.u64.wrap (n:Int)=(n:Int):=by rw [IntKind.wrap_u64];omega
   have adw:n<18446744073709551616:=by omega
   have hO:=ae (Ke n adw);have PO:wr.cell? ⟨w3.heap.size,0,none⟩=some (.slice a5 m5 cap5):=by unfold World.cell?;rw [z5];rfl
   have T0:=wU wr;have hln:=ae (HL.out j hj);have hlD:=ae (show (aV B n).length≤2 from (aR bC).2 (by unfold B;omega));have HNN:=ae hn;clear hn adv;go_wp2_with fail;refine aD #[true,true,true,true,true,true,false] 6 1 mixed (by rfl) ?_;have Mg:=ag T0 (ah _);have hg0:=Gr.cell Mg PO;refine ay [0,1,2,3] 2 rfl (by kernel_rfl) ?_
   iterate 4 (refine aC rfl ?_;go_big_quiet_step (rfl))
   refine ak ?_;clear hg0;refine aL 4 (by kernel_rfl) rfl ?_;go_wp2_with fail;refine (hO.out _).mono ?_;rintro e Zl ⟨r1,rfl,p1,Mh⟩;go_wp2_with fail;refine aH Mh ?_;have M8:=ag Mg Mh;refine aL 5 (by kernel_rfl) rfl ?_;go_wp2_with fail;refine (VQ (n5.mono M8) p1 (by have:=hln.out;omega) (by have:=hlD.out;omega)).mono ?_;rintro e w7 ⟨r7,rfl,n7,Bv⟩;obtain ⟨a7,m7,Tt,rfl,n7⟩:=n7.out;go_wp2_with fail;refine aH Bv ?_;have b7:=ag M8 Bv;have z7:=(b7.block _ (block_lt z5)).trans z5;have aiI:w7.frozen? ⟨w3.heap.size,0,none⟩=false:=by unfold World.frozen?;rw [z7];rfl
   obtain ⟨c9,n9⟩:=qX z7 (by decide) n7;have z9:(w7.setCell ⟨w3.heap.size,0,none⟩ (.slice a7 m7 Tt)).heap[w3.heap.size]? = some (.cells #[.slice a7 m7 Tt] 44):=heap_setCell_same w7 w3.heap.size 0 _ _ _ z7;have b9:Below w3.heap.size w3 (w7.setCell ⟨w3.heap.size,0,none⟩ (.slice a7 m7 Tt)):=aj (b5.trans (b7.mono hs5)) (Nat.le_refl _);have adx:w7.cell? ⟨w3.heap.size,0,none⟩=some (.slice a5 m5 cap5):=by unfold World.cell?;rw [z7];rfl
   clear z7 n7 b7;refine aI [6] (by kernel_rfl) ?_;refine tail_cons rfl ?_;go_wp2_with fail;refine tail_nil ?_;go_wp2;go_roundw
   case rel=>exact ⟨j+1,a7,m7,Tt,by omega,rfl,z9,by rw [HP.out];exact n9,b9⟩
   case measure=>simp [intOf];omega
  ·obtain rfl:j=l.length:=by omega
   rw [List.take_of_length_le (by simp)] at n5;have z5':=(b5.block _ hne).trans Z0.out;have PO:wr.cell? ⟨w3.heap.size,0,none⟩=some (.slice a5 m5 cap5):=by unfold World.cell?;rw [z5];rfl
   have ady:wr.cell? ⟨w.heap.size,0,none⟩=some (.slice none 0 0):=by unfold World.cell?;rw [z5'];rfl
   have aiJ:wr.frozen? ⟨w.heap.size,0,none⟩=false:=by unfold World.frozen?;rw [z5'];rfl
   obtain ⟨q1,N9⟩:=qX z5' (by decide) n5;have VO:=aj (off:=0) (u:=.slice a5 m5 cap5) (b:=w.heap.size) E5 (Nat.le_refl _);clear z5' n5 z5;go_wp2;exact bodyPost_ret (v:=.agg #[.slice a5 m5 cap5]) (by simp [results,Tryz.results40,go_sem,q1]) rfl ⟨_,rfl,N9,VO⟩
def dN.sp (x:dN):Nat×List Nat:=(x.1,x.2.2)
def bU.sp (r:bU):fJ:=(r.1,r.2.2.map dN.sp)
structure fq (K:Nat→Nat) (l:List Nat) (j:Nat) (c:bU):Prop where
 rise:c.2.2.Pairwise fun a b=>a.1<b.1
 small:∀x∈c.2.2,x.1<1000000
 last:∀x,c.2.2.getLast? = some x→∃(i:Nat) (hi:i<l.length),j=i+1∧x.1=K l[i]
 len:c.2.2.length≤j
 marks:∀x∈c.2.2,x.2.2.length≤j
theorem fq.le {K:Nat→Nat} {l:List Nat} {j:Nat} {c:bU} (h:fq K l j c):∀x∈c.2.2,∀z,c.2.2.getLast? = some z→x.1≤z.1:=by
 intro x hx z hz;have hn:c.2.2≠[]:=fun e=>by rw [e] at hx;cases hx
 obtain ⟨q,y,e⟩:∃q y,c.2.2=q++[y]:=⟨c.2.2.dropLast,c.2.2.getLast hn,(List.dropLast_concat_getLast hn).symm⟩;have hr:=h.rise;rw [e] at hx hz hr;rw [List.getLast?_concat] at hz;cases hz;rcases List.mem_append.1 hx with hx|hx
 ·exact Nat.le_of_lt ((List.pairwise_append.1 hr).2.2 x hx z (by simp))
 ·rw [List.mem_singleton.1 hx];exact Nat.le_refl _
theorem fq.find {K:Nat→Nat} {l:List Nat} {j:Nat} {c:bU} (h:fq K l j c) (hin:iQ K l) (hj:j<l.length) (h0:K l[j]≠0) {k:Nat} {b:Bool} (hf:UD (c.2.2.map fun x=>(x.1,x.2.1)) (K l[j]) k b) :
 (b=false∧k=c.2.2.length∧∀x∈c.2.2,x.1<K l[j])∨(b=true∧∃q y,c.2.2=q++[y]∧y.1=K l[j]∧k=q.length):=by
 obtain ⟨f1,f2,f3,f4⟩:=hf;rw [List.length_map] at f1;simp only [List.length_map,List.getElem_map] at f2 f3 f4;by_cases hn:c.2.2=[]
 ·left;have hk:k=0:=by rw [hn] at f1;simpa using f1
  refine ⟨?_,by rw [hn];simpa using hk,by rw [hn];simp⟩;cases b with
  | false=>rfl
  | true=>
    obtain ⟨h1,_⟩:=f4.1 rfl;rw [hn] at h1;simp at h1
 ·obtain ⟨q,y,e⟩:∃q y,c.2.2=q++[y]:=⟨c.2.2.dropLast,c.2.2.getLast hn,(List.dropLast_concat_getLast hn).symm⟩;have hyl:c.2.2.getLast? = some y:=by rw [e,List.getLast?_concat]
  obtain ⟨i,hi,hij,hy⟩:=h.last y hyl;subst hij;have aiK:y.1≤K l[i+1]:=by
   rcases F6 hin hj with h1|h1
   ·exact absurd h1 h0
   ·rw [hy];exact h1
  have hlen:c.2.2.length=q.length+1:=by rw [e];simp
  have hyq:∀(ht:q.length<c.2.2.length),c.2.2[q.length]=y:=fun ht=>by simp [e]
  by_cases hyk:y.1=K l[i+1]
  ·right;have hkq:k≤q.length:=by
    rcases Nat.lt_or_ge q.length k with h1|h1
    ·have:=f2 q.length (by omega) h1;rw [hyq] at this;omega
    ·exact h1
   have hkk:k=q.length:=by
    rcases Nat.lt_or_ge k q.length with h1|h1
    ·exfalso;have h2:=f3 k (by omega) (Nat.le_refl _);have h3:=(List.pairwise_iff_getElem.1 h.rise) k q.length (by omega) (by omega) h1;rw [hyq] at h3;omega
    ·omega
   refine ⟨f4.2 ⟨by omega,?_⟩,q,y,e,hyk,hkk⟩;subst hkk;rw [hyq];exact hyk
  ·left;have hall:∀x∈c.2.2,x.1<K l[i+1]:=fun x hx=>by
    have:=h.le x hx y hyl;omega
   have hkl:k=c.2.2.length:=by
    rcases Nat.lt_or_ge k c.2.2.length with h1|h1
    ·have h2:=f3 k h1 (Nat.le_refl _);have h3:=hall _ (List.getElem_mem h1);omega
    ·omega
   refine ⟨?_,hkl,hall⟩;cases b with
   | false=>rfl
   | true=>
     obtain ⟨h1,_⟩:=f4.1 rfl;omega
theorem fq.nil (K:Nat→Nat) (l:List Nat) (j h:Nat) (v:Value):fq K l j (h,v,[]):=⟨List.Pairwise.nil,by simp,by simp,by simp,by simp⟩
theorem fq.new {K:Nat→Nat} {l:List Nat} {j:Nat} {c:bU} (h:fq K l j c) (hj:j<l.length) (hk:K l[j]<1000000) (hall:∀x∈c.2.2,x.1<K l[j]) (v v':Value) (m:Nat):fq K l (j+1) (c.1,v,c.2.2++[(K l[j],v',[m])]):=by
 refine ⟨List.pairwise_append.2 ⟨h.rise,by simp,fun a ha b hb=>?_⟩,fun x hx=>?_,fun x hx=>?_,by have:=h.len;simp;omega,fun x hx=>?_⟩
 ·rw [List.mem_singleton.1 hb];exact hall a ha
 ·rcases List.mem_append.1 hx with hx|hx
  ·exact h.small x hx
  ·rw [List.mem_singleton.1 hx];exact hk
 ·rw [List.getLast?_concat] at hx;cases hx;exact ⟨j,hj,rfl,rfl⟩
 ·rcases List.mem_append.1 hx with hx|hx
  ·exact Nat.le_succ_of_le (h.marks x hx)
  ·rw [List.mem_singleton.1 hx];simp
theorem fq.more {K:Nat→Nat} {l:List Nat} {j:Nat} {hd:Nat} {v:Value} {q:List dN} {y:dN} (h:fq K l j (hd,v,q++[y])) (hj:j<l.length) (hy:y.1=K l[j]) (v':Value) (m:Nat):fq K l (j+1) (hd,v,q++[(y.1,v',y.2.2++[m])]):=by
 have hr:=List.pairwise_append.1 h.rise;refine ⟨List.pairwise_append.2 ⟨hr.1,by simp,fun a ha b hb=>?_⟩,fun x hx=>?_,fun x hx=>?_,by have:=h.len;simp at this ⊢;omega,fun x hx=>?_⟩
 ·rw [List.mem_singleton.1 hb];exact hr.2.2 a ha y (by simp)
 ·rcases List.mem_append.1 hx with hx|hx
  ·exact h.small x (by simp [hx])
  ·rw [List.mem_singleton.1 hx];exact h.small y (by simp)
 ·rw [List.getLast?_concat] at hx;cases hx;exact ⟨j,hj,rfl,hy⟩
 ·rcases List.mem_append.1 hx with hx|hx
  ·exact Nat.le_succ_of_le (h.marks x (by simp [hx]))
  ·rw [List.mem_singleton.1 hx];have:=h.marks y (by simp);simp;omega
section
open Go.RowKit Go.Cd
theorem Gm (bs:List Nat):zV (bs.map fun b:Nat=>(b:Int))=bs:=by
 unfold zV;rw [List.map_map];exact (List.map_congr_left fun _ _=>rfl).trans (List.map_id _)
theorem Gn {xs:List Nat} (h:∀x∈xs,x<B):∀k,k≤xs.length→fF (xs.take k)<B ^ k∨k=0∧fF (xs.take k)=1:=by
 intro k
 induction k with
 | zero=>intro _;exact .inr ⟨rfl,by simp [fF]⟩
 | succ k ih=>
   intro hk;left;rw [yO xs k (by omega),Nat.pow_succ];have hx:=h _ (List.getElem_mem (show k<xs.length by omega));rcases ih (by omega) with h1|⟨h0,h1⟩
   ·exact Nat.mul_lt_mul'' h1 hx
   ·subst h0;rw [h1];simpa using hx
theorem yP {xs:List Nat} (h:∀x∈xs,x<B) (k:Nat) (hk:k≤xs.length):(aV B (fF (xs.take k))).length≤k+1:=by
 rw [aR bC];rcases Gn h k hk with h1|⟨h0,h1⟩
 ·exact Nat.lt_of_lt_of_le h1 (Nat.pow_le_pow_right (by decide) (by omega))
 ·subst h0;rw [h1];unfold B;decide
def PQ (r:bU):Nat:=fF (fK r.2.2)
def fu (Rs:List bU):Nat:=(Rs.map PQ).sum
theorem uH {Rs:List bU} {j:Nat} (hj:j<Rs.length):fu (Rs.take (j+1))=fu (Rs.take j)+PQ Rs[j]:=by
 unfold fu;rw [List.take_succ_eq_append_getElem hj,List.map_append,List.sum_append];simp
def Bz (Rs:List bU):Prop:=Rs.length<10000∧∀r∈Rs,r.2.2.length<10000∧∀x∈r.2.2,x.2.2.length<10000
theorem qH {r:bU} (h:∀x∈r.2.2,x.2.2.length<10000):∀b∈fK r.2.2,b<B:=fun b hb=>by
 obtain ⟨x,hx,rfl⟩:=List.mem_map.1 hb;have:=h x hx;unfold B;omega
theorem Tu {r:bU} (h1:r.2.2.length<10000) (h:∀x∈r.2.2,x.2.2.length<10000) {n:Nat} (hn:10001≤n):PQ r<B ^ n:=by
 have h2:=yP (qH h) (fK r.2.2).length (Nat.le_refl _);rw [List.take_length,aR bC,yH] at h2;exact Nat.lt_of_lt_of_le h2 (Nat.pow_le_pow_right (by decide) (by omega))
theorem Kg {Rs:List bU} (h:Bz Rs) {j:Nat} (hj:j≤Rs.length):(aV B (fu (Rs.take j))).length≤20002:=by
 obtain ⟨k,hk⟩:=af 20002;rw [←hk,aR bC];obtain ⟨n,hn⟩:=af 10001;have key:∀j,j≤Rs.length→fu (Rs.take j)≤j*B ^ n:=fun j=>by
  induction j with
  | zero=>intro _;simp [fu]
  | succ j ih=>
    intro hj;rw [uH (by omega),Nat.add_mul,Nat.one_mul];have h1:=h.2 _ (List.getElem_mem (show j<Rs.length by omega));exact Nat.add_le_add (ih (by omega)) (Nat.le_of_lt (Tu h1.1 h1.2 (by omega)))
 have h1:=key j hj;have h2:j*B ^ n<B*B ^ n:=Nat.mul_lt_mul_of_pos_right (by have:=h.1;unfold B;omega) (Nat.pow_pos (by decide));rw [←Nat.pow_succ'] at h2;exact Nat.lt_of_lt_of_le (Nat.lt_of_le_of_lt h1 h2) (Nat.pow_le_pow_right (by decide) (by omega))
structure zY (w:World) (B N p:Nat) (dv rs gZ:Value) (small:Bool) (Rs:List bU):Prop where
 is:Is w p #[dv,rs,gZ,.bool small] 76
 runs:w.ownsRow B eP 6 rs Rs.length (Rs.flatMap jX)
 wL:∀r∈Rs,sI w N r
 low:B≤p
 hi:p<N∧N≤w.heap.size
section
variable {w w' : World} {B N p : Nat} {dv rs gZ : Value} {small : Bool} {Rs : List bU}
theorem zY.ext (h:zY w B N p dv rs gZ small Rs) (hb:Below w.heap.size w w'):zY w' B N p dv rs gZ small Rs:=
 ⟨h.is.mono hb,aG h.runs hb,fun r hr=>(h.wL r hr).keep (.of_below (hb.mono h.hi.2) hb.size) (.of_below (hb.mono h.hi.2) hb.size),h.low,h.hi.1,Nat.le_trans h.hi.2 hb.size⟩
theorem zY.put (h:zY w B N p dv rs gZ small Rs) (o:Nat) (u:Value) {VS:Value} {Jh:Bool} (he:(#[dv,rs,gZ,.bool small]:Array Value).setIfInBounds o u=#[dv,rs,VS,.bool Jh]):zY (w.setCell ⟨p,o,none⟩ u) B N p dv rs VS Jh Rs:=by
 have c:=bK.put (o:=o) h.is u;exact ⟨he▸h.is.set o u,c.own h.runs (by decide),fun r hr=>(h.wL r hr).keep (.fI c (by decide) N h.hi.2) (.fI c (by decide) N h.hi.2),h.low,h.hi.1,by simpa using h.hi.2⟩
end
theorem DF.made {w:World} {B p:Nat} {dv rs:Value} {Rs:List bU} {c:bU} {F G:Nat} (h:DF w B p dv rs Rs c F G):zY w B w.heap.size p dv rs (.slice none 0 0) false (Rs++[c]):=by
 refine ⟨h.is,by rw [List.length_append];exact h.runs,fun r hr=>?_,h.low,h.is.lt,Nat.le_refl _⟩;rcases List.mem_append.1 hr with hr|hr
 ·exact (h.wL r hr).le (Nat.le_trans h.cur.fg h.cur.gs)
 ·rw [List.mem_singleton.1 hr];exact h.cur.wL
theorem PS {n c k:Nat} {Ls:List (Nat×List Nat)} (h1:Ls.length≤k) (h2:∀x∈Ls,x.2.length≤k):(uC n c Ls).length≤k+1∧∀x∈uC n c Ls,x.2.length≤k+1:=by
 have hnew:(Ls++[(n,[c])]).length≤k+1∧∀x∈Ls++[(n,[c])],x.2.length≤k+1:=by
  refine ⟨by simp;omega,fun x hx=>?_⟩;rcases List.mem_append.1 hx with hx|hx
  ·have:=h2 x hx;omega
  ·rw [List.mem_singleton.1 hx];simp
 rcases List.eq_nil_or_concat Ls with e|⟨q,y,e⟩
 ·subst e;rw [sJ (by simp)];exact hnew
 ·have e':Ls=q++[y]:=by simpa using e
  by_cases hy:y.1=n
  ·subst e';rw [show y=(y.1,y.2) from rfl,uD hy];refine ⟨by simpa using Nat.le_succ_of_le h1,fun x hx=>?_⟩;rcases List.mem_append.1 hx with hx|hx
   ·have:=h2 x (by simp [hx]);omega
   ·rw [List.mem_singleton.1 hx];have:=h2 y (by simp);simp;omega
  ·rw [sJ (fun x hx=>by rw [e',List.getLast?_concat] at hx;injection hx with hx;rw [←hx];exact hy)];exact hnew
def Mo (k:Nat) (rs:List fJ):Prop:=rs≠[]∧rs.length≤k+1∧∀r∈rs,r.2.length≤k∧∀x∈r.2,x.2.length≤k
theorem PT {K:Nat→Nat} {rs:List fJ} {c k:Nat} (h:Mo k rs):Mo (k+1) (yF K rs c):=by
 obtain ⟨h0,h1,h2⟩:=h;by_cases hc:K c=0
 ·rw [yG hc];refine ⟨by simp,by simp;omega,fun r hr=>?_⟩;rcases List.mem_append.1 hr with hr|hr
  ·exact ⟨Nat.le_succ_of_le (h2 r hr).1,fun x hx=>Nat.le_succ_of_le ((h2 r hr).2 x hx)⟩
  ·rw [List.mem_singleton.1 hr];exact ⟨Nat.zero_le _,by simp⟩
 ·rcases List.eq_nil_or_concat rs with e|⟨q,y,e⟩
  ·exact absurd e h0
  ·have e':rs=q++[y]:=by simpa using e
   subst e';rw [uE hc];refine ⟨by simp,by simp at h1 ⊢;omega,fun r hr=>?_⟩;rcases List.mem_append.1 hr with hr|hr
   ·have:=h2 r (by simp [hr]);exact ⟨Nat.le_succ_of_le this.1,fun x hx=>Nat.le_succ_of_le (this.2 x hx)⟩
   ·rw [List.mem_singleton.1 hr];have:=h2 y (by simp);exact PS this.1 this.2
theorem kM (K:Nat→Nat) (l:List Nat):Mo l.length (dU K l):=by
 have key:∀(l:List Nat) k rs,Mo k rs→Mo (k+l.length) (l.foldl (yF K) rs):=fun l=>by
  induction l with
  | nil=>intro k rs h;exact h
  | cons c l ih=>
    intro k rs h;have:=ih (k+1) _ (PT (K:=K) (c:=c) h);rw [List.length_cons,show k+(l.length+1)=k+1+l.length by omega];exact this
 have:=key l 0 [(0,[])] ⟨by simp,by simp,fun r hr=>by rw [List.mem_singleton.1 hr];exact ⟨Nat.le_refl _,by simp⟩⟩;rw [Nat.zero_add] at this;exact this
theorem Bz.of {Rs:List bU} {k:Nat} (h:Mo k (Rs.map bU.sp)) (hk:k<9000):Bz Rs:=by
 obtain ⟨_,h1,h2⟩:=h;refine ⟨by rw [List.length_map] at h1;omega,fun r hr=>?_⟩;have:=h2 _ (List.mem_map.2 ⟨r,hr,rfl⟩);refine ⟨by have:=this.1;simp [bU.sp] at this;omega,fun x hx=>?_⟩;have:=this.2 _ (List.mem_map.2 ⟨x,hx,rfl⟩);simp [dN.sp] at this;omega
end
section
open Go.RowKit Go.Cd
theorem PU {α:Type} (f:α→List Value) (m:Nat) (hf:∀a,(f a).length=m):∀(l:List α) (i:Nat) (hi:i<l.length) (x':α) (j:Nat) (u:Value),j<m→(f l[i]).set j u=f x'→(l.flatMap f).set (i*m+j) u=(l.set i x').flatMap f
 | [],i,hi,_,_,_,_,_=>absurd hi (by simp)
 | a::l,0,_,x',j,u,hj,he=>by
   simp only [List.flatMap_cons,Nat.zero_mul,Nat.zero_add,List.set_cons_zero];rw [List.set_append_left _ _ (by rw [hf];exact hj)];rw [show (f a).set j u=f x' from he]
 | a::l,i+1,hi,x',j,u,hj,he=>by
   simp only [List.flatMap_cons,List.set_cons_succ];rw [List.set_append_right (h:=by rw [hf,Nat.add_mul];omega),hf,show (i+1)*m+j-m=i*m+j by rw [Nat.add_mul];omega];rw [PU f m hf l i (by simpa using hi) x' j u hj (by simpa using he)]
theorem iF.mg {w w':World} {t:TypeId} {v:Value} {bs:List Nat} (h:iF w v bs) (hc:bK w w' t) (hne:aU≠t):iF w' v bs:=by
 obtain ⟨s1,s2,hv,h1,h2⟩:=h;have key:∀{s:Value} {xs:List Value},Sl aU w s xs→Sl aU w' s xs:=by
  rintro s xs ⟨a,cap,hv,hcap,hx⟩;refine ⟨a,cap,hv,hcap,hx.imp id ?_⟩;rintro ⟨b,off,cs,fr,ha,hh,hx⟩;refine ⟨b,off,cs,fr,ha,(hc.keep b (block_lt hh) ?_).trans hh,hx⟩;rintro ⟨cs',h9⟩;rw [hh] at h9;injection h9 with h9;injection h9 with _ h9 _;exact hne h9
 exact ⟨s1,s2,hv,key h1,key h2⟩
theorem PW (bs:List Nat):dE bs=fF bs:=by
 have key:∀(bs:List Nat) a,bs.foldl (·*·) a=a * dE bs:=fun bs=>by
  induction bs with
  | nil=>intro a;simp [dE]
  | cons b bs ih=>intro a;rw [List.foldl_cons,ih,dE,Nat.mul_assoc]
 unfold fF;rw [key,Nat.one_mul]
abbrev mP:=bU×(Value×Value×Int)×Int
def kP (x:mP):List Value:=[.int .i32 x.1.1,x.1.2.1,x.2.1.1,x.2.1.2.1,.int .i64 x.2.1.2.2,.int .i64 x.2.2]
theorem uI (x:mP):(kP x).length=6:=rfl
def PY (x:mP):Value:=.agg #[x.2.1.1,x.2.1.2.1,.int .i64 x.2.1.2.2]
def Dl (r:bU):mP:=(r,(.slice none 0 0,.slice none 0 0,0),0)
theorem Gp (Rs:List bU):(Rs.map Dl).flatMap kP=Rs.flatMap jX:=by rw [List.flatMap_map];rfl
def BA (v:Value):Prop:=∃a n c,v=.slice a n c
theorem BA.mk {a:Option Addr} {n c:Nat}:BA (.slice a n c):=⟨_,_,_,rfl⟩
structure jd (w:World) (B N p:Nat) (dv rs gZ:Value) (small:Bool) (Es:List mP) (i:Nat):Prop where
 is:Is w p #[dv,rs,gZ,.bool small] 76
 runs:w.ownsRow B eP 6 rs Es.length (Es.flatMap kP)
 wL:∀e∈Es,sI w N e.1
 low:B≤p
 hi:p<N∧N≤w.heap.size
 Xz:∀e∈Es,BA e.2.1.1∧BA e.2.1.2.1
 VT:∀k (hk:k<Es.length),k<i→iF w (PY Es[k]) (fK Es[k].1.2.2)∧Es[k].2.2=(fu ((Es.map (·.1)).take k):Nat)
section
variable {w w' : World} {B N p : Nat} {dv rs gZ : Value} {small : Bool} {Es : List mP} {i : Nat}
theorem jd.of {Rs:List bU} (h:zY w B N p dv rs gZ small Rs):jd w B N p dv rs gZ small (Rs.map Dl) 0:=
 ⟨h.is,by rw [Gp,List.length_map];exact h.runs,fun e he=>by obtain ⟨r,hr,rfl⟩:=List.mem_map.1 he;exact h.wL r hr,h.low,h.hi,fun e he=>by obtain ⟨r,_,rfl⟩:=List.mem_map.1 he;exact ⟨BA.mk,BA.mk⟩,fun _ _ h=>absurd h (by simp)⟩
theorem jd.ext (h:jd w B N p dv rs gZ small Es i) (hb:Below w.heap.size w w'):jd w' B N p dv rs gZ small Es i:=
 ⟨h.is.mono hb,aG h.runs hb,fun r hr=>(h.wL r hr).keep (.of_below (hb.mono h.hi.2) hb.size) (.of_below (hb.mono h.hi.2) hb.size),h.low,⟨h.hi.1,Nat.le_trans h.hi.2 hb.size⟩,h.Xz,fun k hk hi=>⟨(h.VT k hk hi).1.mono hb,(h.VT k hk hi).2⟩⟩
theorem jd.store {g n c:Nat} (h:jd w B N p dv (.slice (some ⟨g,0,none⟩) n c) gZ small Es i) (hi:i<Es.length) (x':mP) (j:Nat) (u:Value) (hj:j<6) (he:(kP Es[i]).set j u=kP x') (h1:x'.1=Es[i].1) (hsp:BA x'.2.1.1∧BA x'.2.1.2.1) :
 jd (w.setCell ⟨g,i*6+j,none⟩ u) B N p dv (.slice (some ⟨g,0,none⟩) n c) gZ small (Es.set i x') i:=by
 obtain ⟨cs,hcs⟩:=bQ h.runs (k:=g) rfl;have c1:=bK.put (o:=i*6+j) (⟨hcs⟩:Is w g cs eP) u;have hmap:(Es.set i x').map (·.1)=Es.map (·.1):=by
  rw [List.map_set,h1];have:Es[i].1=(Es.map (·.1))[i]'(by simpa using hi):=by simp
  rw [this,List.set_getElem_self]
 refine ⟨c1.is h.is (by decide),?_,fun e he'=>?_,h.low,⟨h.hi.1,by simpa using h.hi.2⟩,fun e he'=>?_,fun k hk hki=>?_⟩
 ·have hn:n=Es.length:=by
   obtain ⟨_,_,e,_⟩:=az h.runs;injection e with _ e _
  subst hn;have:=h.runs.stored (i*6+j) u;rw [PU kP 6 uI Es i hi x' j u hj he] at this;rw [List.length_set];exact this.1
 ·have:sI w N e.1:=by
   rcases List.mem_or_eq_of_mem_set he' with h2|h2
   ·exact h.wL e h2
   ·rw [h2,h1];exact h.wL _ (List.getElem_mem hi)
  exact this.keep (.fI c1 (by decide) N h.hi.2) (.fI c1 (by decide) N h.hi.2)
 ·rcases List.mem_or_eq_of_mem_set he' with h2|h2
  ·exact h.Xz e h2
  ·rw [h2];exact hsp
 ·rw [List.length_set] at hk;have h2:=h.VT k hk hki;rw [hmap];have e9:(Es.set i x')[k]'(by rw [List.length_set];exact hk)=Es[k]:=List.getElem_set_ne (by omega) _;rw [e9];exact ⟨h2.1.mg c1 (by decide),h2.2⟩
theorem jd.more (h:jd w B N p dv rs gZ small Es i) (hi:i<Es.length) (h1:iF w (PY Es[i]) (fK Es[i].1.2.2)) (h2:Es[i].2.2=(fu ((Es.map (·.1)).take i):Nat)):jd w B N p dv rs gZ small Es (i+1):=
 ⟨h.is,h.runs,h.wL,h.low,h.hi,h.Xz,fun k hk hk2=>by
   rcases Nat.lt_succ_iff_lt_or_eq.1 hk2 with h3|rfl
   ·exact h.VT k hk h3
   ·exact ⟨h1,h2⟩⟩
theorem jd.Dm {g n c:Nat} {A D:List mP} {x:mP} (h:jd w B N p dv (.slice (some ⟨g,0,none⟩) n c) gZ small (A++x::D) i) (hi:A.length=i) (x':mP) (j:Nat) (u:Value) (hj:j<6) (he:(kP x).set j u=kP x') (h1:x'.1=x.1) (hsp:BA x'.2.1.1∧BA x'.2.1.2.1) {o:Nat} (ho:o=i*6+j) :
 jd (w.setCell ⟨g,o,none⟩ u) B N p dv (.slice (some ⟨g,0,none⟩) n c) gZ small (A++x'::D) i:=by
 subst ho;subst hi;have e9:(A++x::D)[A.length]'(by simp)=x:=by simp
 have:=h.store (by simp) x' j u hj (by rw [e9];exact he) (by rw [e9];exact h1) hsp;rw [List.set_append_right (h:=Nat.le_refl _),Nat.sub_self,List.set_cons_zero] at this;exact this
theorem jd.cells {g n c:Nat} (h:jd w B N p dv (.slice (some ⟨g,0,none⟩) n c) gZ small Es i) {k:Nat} (hk:k<Es.length) :
 ∀j<6,w.cell? ⟨g,k*6+j,none⟩=(kP Es[k])[j]?∧w.frozen? ⟨g,k*6+j,none⟩=false:=by
 obtain ⟨g',rc,e,_,_,_,hc⟩:=cB (f:=kP) uI rfl h.runs hk;injection e with e _ _;injection e with e;injection e with e;subst e;exact hc
theorem jd.uJ {g n c:Nat} {A D:List mP} {x:mP} (h:jd w B N p dv (.slice (some ⟨g,0,none⟩) n c) gZ small (A++x::D) i) (hi:A.length=i) :
 ∀j<6,w.cell? ⟨g,i*6+j,none⟩=(kP x)[j]?∧w.frozen? ⟨g,i*6+j,none⟩=false:=by
 subst hi;have e9:(A++x::D)[A.length]'(by simp)=x:=by simp
 have:=h.cells (k:=A.length) (by simp);rw [e9] at this;exact this
theorem jd.ZC {A D:List mP} {x:mP} (h:jd w B N p dv rs gZ small (A++x::D) i) (hi:A.length=i) (h1:iF w (PY x) (fK x.1.2.2)) (h2:x.2.2=(fu (A.map (·.1)):Nat)):jd w B N p dv rs gZ small (A++x::D) (i+1):=by
 subst hi;have e9:(A++x::D)[A.length]'(by simp)=x:=by simp
 refine h.more (by simp) (by rw [e9];exact h1) ?_;rw [e9,List.map_append,List.take_append_of_le_length (by simp),List.take_of_length_le (by simp)];exact h2
end
end
theorem Tv (Rs:List bU) (j:Nat):fu (Rs.take j)≤fu Rs:=by
 have:fu Rs=fu (Rs.take j)+fu (Rs.drop j):=by unfold fu;rw [←List.sum_append,←List.map_append,List.take_append_drop]
 omega
theorem Gq (Ls:List dN):∀b∈fK Ls,1≤b:=fun b hb=>by
 obtain ⟨x,_,rfl⟩:=List.mem_map.1 hb;omega
theorem bK.trans {a b c:World} {t:TypeId} (h:bK a b t) (k:bK b c t):bK a c t:=
 ⟨Nat.le_trans h.size k.size,fun i hi hc=>by
   have h1:=h.keep i hi hc;refine (k.keep i (Nat.lt_of_lt_of_le hi h.size) ?_).trans h1;rintro ⟨cs,h2⟩
   exact hc ⟨cs,h1▸h2⟩⟩
theorem bK.of_below {a b:World} (t:TypeId) (h:Below a.heap.size a b):bK a b t:=⟨h.size,fun i hi _=>h.block i hi⟩
theorem dJ.mg {w w':World} {t:TypeId} {v:Value} {x:Nat} (h:dJ w v x) (hc:bK w w' t) (hne:lC≠t):dJ w' v x:=by
 obtain ⟨s,hv,a,cap,hs,hcap,hx⟩:=h;refine ⟨s,hv,a,cap,hs,hcap,hx.imp id ?_⟩;rintro ⟨b,off,cs,fr,ha,hh,hx⟩;refine ⟨b,off,cs,fr,ha,(hc.keep b (block_lt hh) ?_).trans hh,hx⟩;rintro ⟨cs',h9⟩;rw [hh] at h9;injection h9 with h9;injection h9 with _ h9 _;exact hne h9
theorem Gs {w:World} {B N p g nr rc:Nat} {dv gZ:Value} {small:Bool} {Rs:List bU} (h:zY w B N p dv (.slice (some ⟨g,0,none⟩) nr rc) gZ small Rs) (hf:Bz Rs) (hs:small=true→fu Rs≤16384) (hBg:B≤g) :
 Calls Tryz.prog 43 #[.pointer (some ⟨p,0,none⟩)] w fun e w'=>e=.returned (.tuple #[])∧∃Es,Es.map (·.1)=Rs∧jd w' B N p dv (.slice (some ⟨g,0,none⟩) nr rc) gZ small Es (if small=true then Es.length else 0)∧Below B w w'∧bK w w' eP:=by
 have i1:=h.is;have e1:=i1.at 1 rfl;have e3:=i1.at 3 rfl;have hnr:nr=Rs.length:=by
  obtain ⟨_,_,e,_⟩:=az h.runs;injection e with _ e _
 have HM:=ae (jd.of h);have UJ:=ae hnr;have adz:nr<10000:=by rw [hnr];exact hf.1
 have HF:=ae hf;have hBw:B≤w.heap.size:=by have:=h.low;have:=h.hi;omega
 clear h hf hnr i1;go_enter Tryz.func43,Tryz.ntmps43;cases small with
 | false=>
   go_wp2_with fail;exact bodyPost_ret (results_none rfl _ _ _) rfl ⟨rfl,_,by rw [List.map_map];exact List.map_id _,HM.out,Below.refl _ _,.of_below _ (Below.refl _ _)⟩
 | true=>
   have HS:=ae (hs rfl);clear hs;go_wp2_with fail;go_loopw [2,3,4,15] (fun fv _ _ iv wr=>∃i:Nat,i≤nr∧iv=.int .i64 i∧fv=.int .i64 (fu (Rs.take i):Nat)∧(∃A:List mP,A.map (·.1)=Rs.take i∧jd wr B N p dv (.slice (some ⟨g,0,none⟩) nr rc) gZ true (A++(Rs.drop i).map Dl) i)∧Below B w wr∧bK w wr eP) (fun _ _ _ iv _=>nr-(intOf iv).toNat)
   case atStart=>exact ⟨0,Nat.zero_le _,rfl,rfl,⟨[],rfl,HM.out⟩,Below.refl _ _,.of_below _ (Below.refl _ _)⟩
   case round=>
    obtain ⟨i,hi,rfl,rfl,⟨A,hA,hM⟩,hE,hC⟩:=hrel;have Kh:A.length=i:=by
     have:=congrArg List.length hA;rw [List.length_map,List.length_take,←UJ.out] at this;omega
    by_cases hin:i<nr
    ·have zi:decide ((i:Int)<(nr:Int))=true:=by simp;omega
     have hir:i<Rs.length:=by have:=UJ.out;omega
     have hdr:Rs.drop i=Rs[i]::Rs.drop (i+1):=List.drop_eq_getElem_cons hir;have htk:Rs.take (i+1)=Rs.take i++[Rs[i]]:=List.take_succ_eq_append_getElem hir;have oV:=HF.out.2 _ (List.getElem_mem hir);have hsz:=uH hir;have hle:=Nat.le_trans (Tv Rs (i+1)) HS.out;obtain ⟨r,hr⟩:=af (Rs[i]);rw [←hr] at hdr htk oV hsz;rw [hdr,List.map_cons] at hM;have hc:=hM.uJ Kh;have hfz:sI wr N r:=hM.wL (Dl r) (by simp);obtain ⟨hd,lv,Ls⟩:=r;obtain ⟨la,lc,hlv,_,_⟩:=az hfz.1.1;simp only at hlv;obtain ⟨ln,hln⟩:=af Ls.length;rw [←hln] at hlv;subst hlv;have c0:wr.cell? ⟨g,i*6,none⟩=some (.int .i32 hd):=(hc 0 (by decide)).1;have c1:wr.cell? ⟨g,i*6+1,none⟩=some (.slice la ln lc):=(hc 1 (by decide)).1;have c2:wr.cell? ⟨g,i*6+2,none⟩=some (.slice none 0 0):=(hc 2 (by decide)).1;have c3:wr.cell? ⟨g,i*6+3,none⟩=some (.slice none 0 0):=(hc 3 (by decide)).1;have c4:wr.cell? ⟨g,i*6+4,none⟩=some (.int .i64 0):=(hc 4 (by decide)).1;have c5:wr.cell? ⟨g,i*6+5,none⟩=some (.int .i64 0):=(hc 5 (by decide)).1;have Xk:wr.cell? ⟨p,1,none⟩=some (.slice (some ⟨g,0,none⟩) nr rc):=hM.is.at 1 rfl;have HBS:=ae (yI (w:=wr) (F:=N) (hd:=hd) (la:=la) (ln:=ln) (lc:=lc) (Ls:=Ls) hfz oV.1 oV.2 none none 0 0 0 0 0 0);have HM1:=ae hM;have ZE:=ae oV;have U1:=ae hsz;have Yq:=ae hln;have U2:=ae htk;have HA:=ae hA;have M_:=ae Kh;clear hc hfz oV hsz hr hM hln hdr htk hA Kh e1 e3;go_wp2_with fail;refine HBS.out.mono ?_;rintro e w3 ⟨bv,rfl,ho3,hb3⟩;go_wp2_with fail;have hbl:=yH Ls;have hl1:ln<10000:=by rw [Yq.out];exact ZE.out.1
     rw [←Yq.out] at hbl ho3;have hsm:=qH (r:=(hd,.slice la ln lc,Ls)) ZE.out.2;have ha:bD w3 bv (ds (fK Ls)):=by
      rw [←hbl,←show (ds (fK Ls)).length=(fK Ls).length by simp [ds]] at ho3;exact (Sl.aT ho3).any
     have NW:=Tc ha (by omega) (Gq Ls) (fun b hb=>by have:=hsm b hb;unfold Go.Cd.B at this;omega);refine NW.mono ?_;rintro e w4 ⟨rv,e0,rfl,hb4,Xl⟩;have hsR:PQ (hd,.slice la ln lc,Ls)=dE (fK Ls):=(PW _).symm;have hsz:=U1.out;rw [hsR] at hsz;rw [hsz] at hle;have adA:e0=0∧iF w4 rv (fK Ls):=by
      rcases Xl with ⟨_,h2,h3⟩|⟨h1,_⟩
      ·exact ⟨h2,h3⟩
      ·omega
     obtain ⟨rfl,hR4⟩:=adA;obtain ⟨s1,s2,rfl,hs1,hs2⟩:=id hR4;obtain ⟨x1,y1,rfl,_,_⟩:=hs1.out;obtain ⟨x2,y2,rfl,_,_⟩:=hs2.out;have hbw:Below wr.heap.size wr w4:=hb3.trans (hb4.mono hb3.size);have hBr:B≤wr.heap.size:=by have:=HM1.out.low;have:=HM1.out.hi;omega
     have kW:=hE.trans (hbw.mono hBr);have RY:=HM1.out.ext hbw;obtain ⟨P,hP⟩:=af (dE (fK Ls));obtain ⟨F,hF⟩:=af (fu (Rs.take i));obtain ⟨m1,hm1⟩:=af ((ds (fK Ls)).length);obtain ⟨m2,hm2⟩:=af ((ds (weights (fK Ls))).length);rw [←hP,←hm1,←hm2] at hR4;rw [←hP,←hF] at hsz hle;rw [←hP,←hm1,←hm2,←hF];have k4:=RY.uJ M_.out;have QM:=RY.Dm M_.out ((hd,.slice la ln lc,Ls),(.slice x1 m1 y1,.slice none 0 0,0),0) 2 (.slice x1 m1 y1) (by decide) rfl rfl ⟨BA.mk,BA.mk⟩ (o:=i*6+2) rfl;have k5:=QM.uJ M_.out;have XA:=QM.Dm M_.out ((hd,.slice la ln lc,Ls),(.slice x1 m1 y1,.slice x2 m2 y2,0),0) 3 (.slice x2 m2 y2) (by decide) rfl rfl ⟨BA.mk,BA.mk⟩ (o:=i*6+2+1) rfl;have k6:=XA.uJ M_.out;have hM7:=XA.Dm M_.out ((hd,.slice la ln lc,Ls),(.slice x1 m1 y1,.slice x2 m2 y2,P),0) 4 (.int .i64 P) (by decide) rfl rfl ⟨BA.mk,BA.mk⟩ (o:=i*6+2+2) rfl;have k7:=hM7.uJ M_.out;have hM8:=hM7.Dm M_.out ((hd,.slice la ln lc,Ls),(.slice x1 m1 y1,.slice x2 m2 y2,P),F) 5 (.int .i64 F) (by decide) rfl rfl ⟨BA.mk,BA.mk⟩ (o:=i*6+5) rfl;have k8:=hM8.uJ M_.out;have t1:=bK.put (o:=i*6+2) (⟨(bQ RY.runs (k:=g) rfl).choose_spec⟩:Is w4 g _ eP) (.slice x1 m1 y1);have t2:=bK.put (o:=i*6+2+1) (⟨(bQ QM.runs (k:=g) rfl).choose_spec⟩:Is _ g _ eP) (.slice x2 m2 y2);have t3:=bK.put (o:=i*6+2+2) (⟨(bQ XA.runs (k:=g) rfl).choose_spec⟩:Is _ g _ eP) (.int .i64 P);have t4:=bK.put (o:=i*6+5) (⟨(bQ hM7.runs (k:=g) rfl).choose_spec⟩:Is _ g _ eP) (.int .i64 F);have HC8:=ae (hC.trans ((bK.of_below eP hbw).trans (t1.trans (t2.trans (t3.trans t4)))));have hR8:=(((hR4.mg t1 (by decide)).mg t2 (by decide)).mg t3 (by decide)).mg t4 (by decide);clear t1 t2 t3 t4 hC;have hM9:=hM8.ZC M_.out hR8 (by rw [HA.out,hF]);have vk:Below B w _:=aj (aj (aj (aj kW (b:=g) (off:=i*6+2) (u:=.slice x1 m1 y1) hBg) (b:=g) (off:=i*6+2+1) (u:=.slice x2 m2 y2) hBg) (b:=g) (off:=i*6+2+2) (u:=.int .i64 P) hBg) (b:=g) (off:=i*6+5) (u:=.int .i64 F) hBg;have r42:w4.cell? ⟨g,i*6+2,none⟩=some (.slice none 0 0):=(k4 2 (by decide)).1;have q42:w4.frozen? ⟨g,i*6+2,none⟩=false:=(k4 2 (by decide)).2;have r53:(w4.setCell ⟨g,i*6+2,none⟩ (.slice x1 m1 y1)).cell? ⟨g,i*6+2+1,none⟩=some (.slice none 0 0):=(k5 3 (by decide)).1;have q53:(w4.setCell ⟨g,i*6+2,none⟩ (.slice x1 m1 y1)).frozen? ⟨g,i*6+2+1,none⟩=false:=(k5 3 (by decide)).2;have r64:((w4.setCell ⟨g,i*6+2,none⟩ (.slice x1 m1 y1)).setCell ⟨g,i*6+2+1,none⟩ (.slice x2 m2 y2)).cell? ⟨g,i*6+2+2,none⟩=some (.int .i64 0):=(k6 4 (by decide)).1;have q64:((w4.setCell ⟨g,i*6+2,none⟩ (.slice x1 m1 y1)).setCell ⟨g,i*6+2+1,none⟩ (.slice x2 m2 y2)).frozen? ⟨g,i*6+2+2,none⟩=false:=(k6 4 (by decide)).2;have r75:(((w4.setCell ⟨g,i*6+2,none⟩ (.slice x1 m1 y1)).setCell ⟨g,i*6+2+1,none⟩ (.slice x2 m2 y2)).setCell ⟨g,i*6+2+2,none⟩ (.int .i64 P)).cell? ⟨g,i*6+5,none⟩=some (.int .i64 0):=(k7 5 (by decide)).1;have q75:(((w4.setCell ⟨g,i*6+2,none⟩ (.slice x1 m1 y1)).setCell ⟨g,i*6+2+1,none⟩ (.slice x2 m2 y2)).setCell ⟨g,i*6+2+2,none⟩ (.int .i64 P)).frozen? ⟨g,i*6+5,none⟩=false:=(k7 5 (by decide)).2;have r82:((((w4.setCell ⟨g,i*6+2,none⟩ (.slice x1 m1 y1)).setCell ⟨g,i*6+2+1,none⟩ (.slice x2 m2 y2)).setCell ⟨g,i*6+2+2,none⟩ (.int .i64 P)).setCell ⟨g,i*6+5,none⟩ (.int .i64 F)).cell? ⟨g,i*6+2,none⟩=some (.slice x1 m1 y1):=(k8 2 (by decide)).1;have r83:((((w4.setCell ⟨g,i*6+2,none⟩ (.slice x1 m1 y1)).setCell ⟨g,i*6+2+1,none⟩ (.slice x2 m2 y2)).setCell ⟨g,i*6+2+2,none⟩ (.int .i64 P)).setCell ⟨g,i*6+5,none⟩ (.int .i64 F)).cell? ⟨g,i*6+2+1,none⟩=some (.slice x2 m2 y2):=(k8 3 (by decide)).1;have r84:((((w4.setCell ⟨g,i*6+2,none⟩ (.slice x1 m1 y1)).setCell ⟨g,i*6+2+1,none⟩ (.slice x2 m2 y2)).setCell ⟨g,i*6+2+2,none⟩ (.int .i64 P)).setCell ⟨g,i*6+5,none⟩ (.int .i64 F)).cell? ⟨g,i*6+2+2,none⟩=some (.int .i64 P):=(k8 4 (by decide)).1;have HM9:=ae hM9;have HE8:=ae vk;have ZF:=ae hR8;have HF9:=ae hF;have HP9:=ae hP;clear k4 k5 k6 k7 k8 RY QM XA hM7 hM8 hM9 vk hR4 hR8 hs1 hs2 hF hP Xl kW hE hbw hb3 hb4 ho3 ha NW hm1 hm2;go_wp2_with fail;refine (Ti ZF.out.weak (Gq Ls) (by rw [←HP9.out];omega)).mono ?_
     rintro e w5 ⟨rfl,hb5⟩;rw [←HP9.out];have adE:=HM9.out.ext hb5;have LB:=HE8.out.trans (hb5.mono (Nat.le_trans hBw HE8.out.size));have e9:IntKind.i64.wrap ((F:Int)+(P:Int))=((F+P:Nat):Int):=by rw [IntWalk.i64_in _ (by omega)];omega
     go_wp2_with fail;go_roundw
     case rel=>
      refine ⟨i+1,by omega,by simp,by rw [hsz,Int.natCast_add],⟨A++[(((hd,Value.slice la ln lc,Ls),(Value.slice x1 m1 y1,Value.slice x2 m2 y2,(P:Int)),(F:Int)):mP)],by rw [List.map_append,HA.out,U2.out];rfl,?_⟩,LB,HC8.out.trans (.of_below _ hb5)⟩;rw [List.append_assoc];exact adE
     case measure=>simp [intOf];omega
    ·have zi:decide ((i:Int)<(nr:Int))=false:=by simp;omega
     obtain rfl:i=nr:=by omega
     have ht:Rs.take i=Rs:=List.take_of_length_le (by rw [UJ.out];exact Nat.le_refl _);have hd:Rs.drop i=[]:=List.drop_eq_nil_of_le (by rw [UJ.out];exact Nat.le_refl _);rw [ht] at hA;rw [hd,List.map_nil,List.append_nil] at hM;have HA:=ae hA;have HM9:=ae hM;have M_:=ae Kh;clear hA hM Kh ht hd e1 e3;go_wp2_with fail
     go_end0
     refine ⟨rfl,A,HA.out,?_,hE,hC⟩;simp only [M_.out];exact HM9.out
def jk (w:World) (B p dp:Nat) (K:Nat→Nat) (l:List Nat):Prop:=
 ∃N rs gZ Es,(Es.map (·.1)).map bU.sp=dU K l∧
  jd w B N p (.pointer (some ⟨dp,0,none⟩)) rs gZ (decide (fu (Es.map (·.1))≤16384)) Es (if decide (fu (Es.map (·.1))≤16384)=true then Es.length else 0)∧
  dJ w (.agg #[gZ]) (fu (Es.map (·.1)))
end Go.Proofs.YtjidohgiigjifaaGreatDoor
