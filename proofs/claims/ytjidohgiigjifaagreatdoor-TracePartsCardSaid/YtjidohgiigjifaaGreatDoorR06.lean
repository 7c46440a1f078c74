/- TraceParts and TraceWalks: a machine takes a character as those of its full decomposition, one by one; texts that are alike go through it, and of others none; no condition. -/
import Derived.Test.YtjidohgiigjifaaGreatDoorR05
import Derived.Sort.Walk13
import Derived.Sort.WalkA14
import Derived.Sort.AssemblyPlain
import Derived.Shelf.SlicesE.Compact
import Derived.Shelf.SlicesE.Index
import Derived.Lib.SlicesCompact
import Derived.RangeFuncBox
import Derived.RangeFuncLeaves
import Derived.RangeFuncWrites
import Derived.Shelf.Abstract
import Derived.OwnWalkIn
import Derived.TacticsInMore
import Derived.LoopNIn
import Derived.LoopIn
set_option maxRecDepth 100000
set_option maxHeartbeats 6400000
namespace Go.Proofs.YtjidohgiigjifaaGreatDoor
open Go.Sort Go.RowKit
structure AB:Prop where
 ins:∀(blk off cap a b:Nat) (d:Array Int) (w:World),Holds encR w blk off d→a≤b→b≤d.size→d.size<4611686018427387904→
  Calls Tryz.prog 114 #[.slice (some ⟨blk,off,none⟩) d.size cap,.int .i64 a,.int .i64 b] w fun e w'=>e=.returned (.tuple #[])∧∃n,w'=putRow encR (Sort.ahead w n) blk off (insertionSort ltInt d a b)
 brk:∀(blk off cap a b:Nat) (d:Array Int) (w:World),Holds encR w blk off d→blk<w.heap.size→a≤b→b≤d.size→d.size<4611686018427387904→
  Calls Tryz.prog 116 #[.slice (some ⟨blk,off,none⟩) d.size cap,.int .i64 a,.int .i64 b] w fun e w'=>e=.returned (.tuple #[])∧∃n os,w'=grow (putRow encR (Sort.ahead w n) blk off (breakPatterns d a b)) os
 piv:∀(blk off cap a b:Nat) (d:Array Int) (w:World),Holds encR w blk off d→blk<w.heap.size→a<b→b≤d.size→d.size<4611686018427387904→
  Calls Tryz.prog 117 #[.slice (some ⟨blk,off,none⟩) d.size cap,.int .i64 a,.int .i64 b] w fun e w'=>e=.returned (.tuple #[.int .i64 (choosePivot ltInt d a b).1,.int .i64 (hintCode (choosePivot ltInt d a b).2)])∧∃n os,w'=grow (Sort.ahead w n) os
 par:∀(blk off cap a b:Nat) (d:Array Int) (w:World),Holds encR w blk off d→a<b→b≤d.size→d.size<4611686018427387904→
  Calls Tryz.prog 119 #[.slice (some ⟨blk,off,none⟩) d.size cap,.int .i64 a,.int .i64 b] w fun e w'=>e=.returned (.bool (partialInsertionSort ltInt d a b).2)∧∃n,w'=putRow encR (Sort.ahead w n) blk off (partialInsertionSort ltInt d a b).1
 peq:∀(blk off cap a b pivot:Nat) (d:Array Int) (w:World),Holds encR w blk off d→a≤pivot→pivot<b→b≤d.size→d.size<4611686018427387904→
  Calls Tryz.prog 121 #[.slice (some ⟨blk,off,none⟩) d.size cap,.int .i64 a,.int .i64 b,.int .i64 pivot] w fun e w'=>e=.returned (.int .i64 (partitionEqual ltInt d a b pivot).1)∧∃n,w'=putRow encR (Sort.ahead w n) blk off (partitionEqual ltInt d a b pivot).2
 prt:∀(blk off cap a b pivot:Nat) (d:Array Int) (w:World),Holds encR w blk off d→a≤pivot→pivot<b→b≤d.size→d.size<4611686018427387904→
  Calls Tryz.prog 122 #[.slice (some ⟨blk,off,none⟩) d.size cap,.int .i64 a,.int .i64 b,.int .i64 pivot] w fun e w'=>e=.returned (.tuple #[.int .i64 (partition ltInt d a b pivot).1,.bool (partition ltInt d a b pivot).2.1])∧∃n,w'=putRow encR (Sort.ahead w n) blk off (partition ltInt d a b pivot).2.2
structure JV:Prop where
 swo:SWO ltInt
 ins:insertionSort_stmt ltInt
 par:partialInsertionSort_stmt ltInt
 prt:partition_stmt ltInt
 peq:partitionEqual_stmt ltInt
 pdq:pdq_stmt ltInt
theorem xq (C:AB) (S:JV):∀(N blk off cap a b limit:Nat) (d:Array Int) (w:World),b-a<N→Holds encR w blk off d→blk<w.heap.size→a≤b→b≤d.size→d.size<4611686018427387904→limit<4611686018427387904→Below ltInt a b d→
 Calls Tryz.prog 83 #[.slice (some ⟨blk,off,none⟩) d.size cap,.int .i64 a,.int .i64 b,.int .i64 limit] w fun e w'=>e=.returned (.tuple #[])∧At encR w blk off (pdq ltInt d a b limit true true) w':=by
 intro N
 induction N with
 | zero=>intro _ _ _ _ _ _ _ _ h;exact absurd h (Nat.not_lt_zero _)
 | succ N ih=>
   intro blk off cap a b limit d w hN hH hblk hab hb hsz hlimit hBel0;go_enter Tryz.func83,Tryz.ntmps83;go_wp2
   go_loopg [1,2,3,8,9] (b-a) (fun k s1 s2 s3 s8 s9 wr=>∃(a' b' lim:Nat) (wb wp:Bool) (dk:Array Int),s1=.int .i64 a'∧s2=.int .i64 b'∧s3=.int .i64 lim∧s8=.bool wb∧s9=.bool wp∧
    a'≤b'∧b'≤d.size∧b'-a'≤k∧k≤b-a∧lim≤limit∧dk.size=d.size∧Below ltInt a' b' dk∧At encR w blk off dk wr∧pdq ltInt dk a' b' lim wb wp=pdq ltInt d a b limit true true)
   case atStart=>exact ⟨a,b,limit,true,true,d,rfl,rfl,rfl,rfl,rfl,hab,hb,Nat.le_refl _,Nat.le_refl _,Nat.le_refl _,rfl,hBel0,At.refl hH,rfl⟩
   case round=>
    obtain ⟨a',b',lim,wb,wp,dk,rfl,rfl,rfl,rfl,rfl,hab',hb',hk,hkN,hlim,hds,hBel,hAt,heq⟩:=hrel;obtain ⟨hHk,hblk'⟩:=hAt.holds hH hds hblk;have A:Aside (pdq ltInt dk a' b' lim wb wp=pdq ltInt d a b limit true true):=heq;clear heq;by_cases h12:b'-a'≤12
    ·
     have h12z:(b':Int)-(a':Int)≤12:=by omega
     have hc:=C.ins blk off cap a' b' dk wr hHk hab' (by omega) (by omega);rw [hds] at hc;go_wp2_with (go_at_call 114;refine hc.mono ?_;rintro e w1 ⟨rfl,hw1⟩)
     (try simp only [Exit.inBlock,Exit.then]);refine bodyPost_ret (results_none rfl _ _ _) rfl ?_
     refine ⟨rfl,?_⟩;rw [←A.out,pdq_small h12];exact hAt.step hblk (S.ins S.swo dk a' b' hab' (by omega)).1.1 hw1
    ·have h12z:¬((b':Int)-(a':Int)≤12):=by omega
     by_cases hl0:lim=0
     ·
      subst hl0;have hc:=vV blk off d.size cap dk hds a' b' wr hHk hab' (by omega) (by omega);go_wp2_with (go_at_call 115;refine hc.mono ?_;rintro e w1 ⟨rfl,hw1⟩)
      (try simp only [Exit.inBlock,Exit.then]);refine bodyPost_ret (results_none rfl _ _ _) rfl ?_
      refine ⟨rfl,?_⟩;rw [←A.out,pdq_heap h12 rfl];exact hAt.step hblk (heapSort_holds S.swo dk a' b' hab' (by omega)).1.1 hw1
     ·have hl0z:¬((lim:Int)=0):=by omega
      obtain ⟨s1,B1,hc1,s2,B2,hpv,s3,B3⟩:=rd_facts (limit:=lim) (wb:=wb) (wp:=wp) S.swo S.par reverseRange_holds (show a'<b' by omega) (show b'≤dk.size by omega) hBel;go_upto_if 35 with fail;go_cut [3] from 19 (fun s3 wc=>s3=.int .i64 (rd ltInt dk a' b' lim wb wp).lim∧At encR w blk off (rd ltInt dk a' b' lim wb wp).d1 wc)
      case first=>
       cases wb
       ·have hc:=C.brk blk off cap a' b' dk wr hHk hblk' hab' (by omega) (by omega);rw [hds] at hc;go_wp2_with (go_at_call 116;refine hc.mono ?_;rintro e w1 ⟨rfl,hw1⟩);go_meet
        case rel=>
         refine ⟨?_,hAt.stepG hblk s1 hw1⟩;show Value.int .i64 ((lim:Int)-1)=Value.int .i64 ((lim-1:Nat):Int);congr 1;omega
       ·go_wp2_with fail;go_meet
        case rel=>exact ⟨rfl,hAt⟩
      case rest=>
       obtain ⟨rfl,hAt1⟩:=hcut;obtain ⟨hH1,hblk1⟩:=hAt1.holds hH (s1.trans hds) hblk;have hc17:Calls Tryz.prog 117 #[.slice (some ⟨blk,off,none⟩) d.size cap,.int .i64 a',.int .i64 b'] wc fun e w'=>e=.returned (.tuple #[.int .i64 (rd ltInt dk a' b' lim wb wp).c.1,.int .i64 (hintCode (rd ltInt dk a' b' lim wb wp).c.2)])∧∃n os,w'=grow (Sort.ahead wc n) os:=by
        have:=C.piv blk off cap a' b' (rd ltInt dk a' b' lim wb wp).d1 wc hH1 hblk1 (by omega) (by omega) (by omega);rw [s1,hds] at this;exact this
       go_upto_if 50 with (go_at_call 117;refine hc17.mono ?_;rintro e w2 ⟨rfl,hw2⟩);have hAt2:At encR w blk off (rd ltInt dk a' b' lim wb wp).d1 w2:=hAt1.same hH (s1.trans hds) hblk hw2;obtain ⟨hH2,hblk2⟩:=hAt2.holds hH (s1.trans hds) hblk;go_cut [11,12] from 19 (fun s11 s12 wc=>s11=.int .i64 (rd ltInt dk a' b' lim wb wp).pivot∧s12=.int .i64 (hintCode (rd ltInt dk a' b' lim wb wp).hint)∧At encR w blk off (rd ltInt dk a' b' lim wb wp).d2 wc)
       case first=>
        by_cases hh:(rd ltInt dk a' b' lim wb wp).c.2=.decreasing
        ·have hcode:hintCode (rd ltInt dk a' b' lim wb wp).c.2=2:=by rw [hh];rfl
         obtain ⟨e2,epv,eht⟩:=rd_dec hh;have hc18:=oM blk off cap (rd ltInt dk a' b' lim wb wp).d1 a' b' w2 hH2 hab' (by omega) (by omega);rw [s1,hds] at hc18;go_wp2_with (go_at_call 118;refine hc18.mono ?_;rintro e w3 ⟨rfl,hw3⟩);go_meet
         case rel=>
          refine ⟨?_,by rw [eht];rfl,by rw [e2];exact hAt2.step hblk (by rw [←e2,s2,s1]) hw3⟩;rw [epv];congr 1;omega
        ·have hcode:¬(hintCode (rd ltInt dk a' b' lim wb wp).c.2=2):=fun h=>hh (hintCode_two h);obtain ⟨e2,epv,eht⟩:=rd_not hh;go_wp2_with fail;go_meet
         case rel=>exact ⟨by rw [epv],by rw [eht],by rw [e2];exact hAt2⟩
       case rest=>
        obtain ⟨rfl,rfl,hAt3⟩:=hcut;obtain ⟨hH3,hblk3⟩:=hAt3.holds hH (s2.trans hds) hblk;go_upto_region 15 with fail;go_cut [12,68] from 19 (fun s12 s68 wx=>s12=.int .i64 (hintCode (rd ltInt dk a' b' lim wb wp).hint)∧s68=.bool (wb&&wp&&decide ((rd ltInt dk a' b' lim wb wp).hint=.increasing))∧wx=wc)
        case first=>
         cases wb <;> cases wp <;> cases hh3:(rd ltInt dk a' b' lim _ _).hint <;>
          (have hcode3:=congrArg hintCode hh3
           simp only [hintCode] at hcode3;go_wp2_with fail;go_meet
           exact ⟨by simp [hh3,hintCode],by simp [hh3,hintCode],rfl⟩)
        case rest=>
         obtain ⟨rfl,rfl,rfl⟩:=hcut;go_upto_if 68 with fail;go_cut [] from 19 (fun wx=>(rd ltInt dk a' b' lim wb wp).pi.2=false∧At encR w blk off (rd ltInt dk a' b' lim wb wp).pi.1 wx)
         case first=>
          cases h68:(wb&&wp&&decide ((rd ltInt dk a' b' lim wb wp).hint=.increasing))
          ·have epi:=rd_pi_no h68;go_wp2_with fail;go_meet
           case rel=>exact ⟨by rw [epi],by rw [epi];exact hAt3⟩
          ·have epi:=rd_pi_yes h68;have hc19:=C.par blk off cap a' b' (rd ltInt dk a' b' lim wb wp).d2 wc hH3 (by omega) (by omega) (by omega);rw [s2,hds,←epi] at hc19;go_wp2_with (go_at_call 119;refine hc19.mono ?_;rintro e w4 ⟨rfl,hw4⟩)
           all_goals first
            | (have hp2:(rd ltInt dk a' b' lim wb wp).pi.2=false:=by rw [epi];assumption
               go_meet
               exact ⟨hp2,hAt3.step hblk (by rw [s3,s2]) hw4⟩)
            | (have hp2:(rd ltInt dk a' b' lim wb wp).pi.2=true:=by rw [epi];assumption
               (try simp only [Exit.inBlock,Exit.then]);refine bodyPost_ret (results_none rfl _ _ _) rfl ?_
               refine ⟨rfl,?_⟩;rw [←A.out,pdq_done h12 hl0 hp2]
               exact hAt3.step hblk (by rw [s3,s2]) hw4)
         case rest=>
          obtain ⟨hp2,hAt5⟩:=hcut;obtain ⟨hH5,hblk5⟩:=hAt5.holds hH (s3.trans hds) hblk;have hcw:∀t,t<d.size→wc.cell? ⟨blk,off+t,none⟩=some (.int .i32 (rd ltInt dk a' b' lim wb wp).pi.1[t]!):=fun t ht=>(hH5 t (by omega)).1;have hfw:∀t,t<d.size→wc.frozen? ⟨blk,off+t,none⟩=false:=fun t ht=>(hH5 t (by omega)).2;go_upto_region 17 with fail;go_cut [87] from 19 (fun s87 wx=>s87=.bool (decide (a' > 0)&&!ltInt (rd ltInt dk a' b' lim wb wp).pi.1[a'-1]! (rd ltInt dk a' b' lim wb wp).pi.1[(rd ltInt dk a' b' lim wb wp).pivot]!)∧At encR w blk off (rd ltInt dk a' b' lim wb wp).pi.1 wx)
          case first=>
           rcases Nat.eq_zero_or_pos a' with ha0|ha0
           ·have ha0z:decide ((a':Int) > 0)=false:=decide_eq_false (by omega);go_big_quiet (first|(go_at_call 120;refine Calls.quiet_of_same (aJ _ _ _)));go_wp2_with fail;go_meet
            case rel=>exact ⟨by simp [ha0],hAt5.ahead nq⟩
           ·have ha0z:(a':Int) > 0:=by omega
            go_big_quiet (first|(go_at_call 120;refine Calls.quiet_of_same (aJ _ _ _)));go_wp2_with fail;go_meet
            case rel=>exact ⟨by simp [ha0],hAt5.ahead nq⟩
          case rest=>
           obtain ⟨rfl,hAt6⟩:=hcut;obtain ⟨hH6,hblk6⟩:=hAt6.holds hH (s3.trans hds) hblk;clear hcw hfw;cases h87:(decide (a' > 0)&&!ltInt (rd ltInt dk a' b' lim wb wp).pi.1[a'-1]! (rd ltInt dk a' b' lim wb wp).pi.1[(rd ltInt dk a' b' lim wb wp).pivot]!)
           ·
            obtain ⟨mid,ap,d4,hx⟩:∃mid ap d4,partition ltInt (rd ltInt dk a' b' lim wb wp).pi.1 a' b' (rd ltInt dk a' b' lim wb wp).pivot=(mid,ap,d4):=⟨(partition ltInt (rd ltInt dk a' b' lim wb wp).pi.1 a' b' (rd ltInt dk a' b' lim wb wp).pivot).1,(partition ltInt (rd ltInt dk a' b' lim wb wp).pi.1 a' b' (rd ltInt dk a' b' lim wb wp).pivot).2.1,(partition ltInt (rd ltInt dk a' b' lim wb wp).pi.1 a' b' (rd ltInt dk a' b' lim wb wp).pivot).2.2,rfl⟩;obtain ⟨r1,r2,r3,r4,r5,r6,r7⟩:=round_part S.swo S.prt hpv.1 hpv.2 (show b'≤(rd ltInt dk a' b' lim wb wp).pi.1.size by omega) B3 hx;have hc22:=C.prt blk off cap a' b' (rd ltInt dk a' b' lim wb wp).pivot (rd ltInt dk a' b' lim wb wp).pi.1 wc hH6 hpv.1 hpv.2 (by omega) (by omega);rw [s3,hds,hx] at hc22;have X:Aside (partition ltInt (rd ltInt dk a' b' lim wb wp).pi.1 a' b' (rd ltInt dk a' b' lim wb wp).pivot=(mid,ap,d4)):=hx;clear hx;go_upto_if 113 with (go_at_call 122;refine hc22.mono ?_;rintro e w7 ⟨rfl,hw7⟩);have hx:=X.out;have hAt7:At encR w blk off d4 w7:=hAt6.step hblk r3 hw7;obtain ⟨hH7,hblk7⟩:=hAt7.holds hH (r3.trans (s3.trans hds)) hblk;by_cases h4:mid-a'<b'-mid
            ·have h4z:(mid:Int)-(a':Int)<(b':Int)-(mid:Int):=by omega
             have hih:=ih blk off cap a' mid (rd ltInt dk a' b' lim wb wp).lim d4 w7 (by omega) hH7 hblk7 (by omega) (by omega) (by omega) (Nat.lt_of_le_of_lt (Nat.le_trans rd_lim_le hlim) hlimit) r4;rw [r3,s3,hds] at hih;obtain ⟨pL,sL⟩:=S.pdq S.swo d4 a' mid (rd ltInt dk a' b' lim wb wp).lim true true (by omega) (by omega) r4;go_wp2_with (go_at_call 83;refine hih.mono ?_;rintro e w8 ⟨rfl,hw8⟩)
             go_roundg (b'-(mid+1))
             case measure=>omega
             case rel=>
              refine ⟨mid+1,b',(rd ltInt dk a' b' lim wb wp).lim,decide (mid-a'≥(b'-a') / 8),ap,pdq ltInt d4 a' mid (rd ltInt dk a' b' lim wb wp).lim true true,by simp,rfl,rfl,?_,rfl,by omega,by omega,Nat.le_refl _,by omega,Nat.le_trans rd_lim_le hlim,by rw [pL.1,r3,s3,hds],(r6 _ pL sL).1,hAt7.stepG hblk pL.1 hw8,?_⟩
              ·exact congrArg Value.bool (eighth (by omega) (by omega))
              ·rw [←A.out,pdq_left h12 hl0 hp2 h87 (by rw [hx];exact ⟨r1,r2⟩) (by rw [hx];exact h4),hx]
            ·have h4z:¬((mid:Int)-(a':Int)<(b':Int)-(mid:Int)):=by omega
             have hih:=ih blk off cap (mid+1) b' (rd ltInt dk a' b' lim wb wp).lim d4 w7 (by omega) hH7 hblk7 (by omega) (by omega) (by omega) (Nat.lt_of_le_of_lt (Nat.le_trans rd_lim_le hlim) hlimit) r5;rw [r3,s3,hds] at hih;obtain ⟨pL,sL⟩:=S.pdq S.swo d4 (mid+1) b' (rd ltInt dk a' b' lim wb wp).lim true true (by omega) (by omega) r5;go_wp2_with (go_at_call 83;refine hih.mono ?_;rintro e w8 ⟨rfl,hw8⟩)
             go_roundg (mid-a')
             case measure=>omega
             case rel=>
              refine ⟨a',mid,(rd ltInt dk a' b' lim wb wp).lim,decide (b'-mid≥(b'-a') / 8),ap,pdq ltInt d4 (mid+1) b' (rd ltInt dk a' b' lim wb wp).lim true true,rfl,rfl,rfl,?_,rfl,by omega,by omega,Nat.le_refl _,by omega,Nat.le_trans rd_lim_le hlim,by rw [pL.1,r3,s3,hds],(r7 _ pL sL).1,hAt7.stepG hblk pL.1 hw8,?_⟩
              ·exact congrArg Value.bool (eighth (by omega) (by omega))
              ·rw [←A.out,pdq_right h12 hl0 hp2 h87 (by rw [hx];exact ⟨r1,r2⟩) (by rw [hx];exact h4),hx]
           ·
            have h87':=h87;simp only [Bool.and_eq_true,decide_eq_true_eq,Bool.not_eq_true'] at h87';obtain ⟨mid,d4,hx⟩:∃mid d4,partitionEqual ltInt (rd ltInt dk a' b' lim wb wp).pi.1 a' b' (rd ltInt dk a' b' lim wb wp).pivot=(mid,d4):=⟨(partitionEqual ltInt (rd ltInt dk a' b' lim wb wp).pi.1 a' b' (rd ltInt dk a' b' lim wb wp).pivot).1,(partitionEqual ltInt (rd ltInt dk a' b' lim wb wp).pi.1 a' b' (rd ltInt dk a' b' lim wb wp).pivot).2,rfl⟩;obtain ⟨r1,r2,r3,r4,_⟩:=round_eq S.swo S.peq h87'.1 hpv.1 hpv.2 (show b'≤(rd ltInt dk a' b' lim wb wp).pi.1.size by omega) B3 h87'.2 hx;have hc21:=C.peq blk off cap a' b' (rd ltInt dk a' b' lim wb wp).pivot (rd ltInt dk a' b' lim wb wp).pi.1 wc hH6 hpv.1 hpv.2 (by omega) (by omega);rw [s3,hds,hx] at hc21;have X:Aside (partitionEqual ltInt (rd ltInt dk a' b' lim wb wp).pi.1 a' b' (rd ltInt dk a' b' lim wb wp).pivot=(mid,d4)):=hx;clear hx;go_wp2_with (go_at_call 121;refine hc21.mono ?_;rintro e w7 ⟨rfl,hw7⟩)
            go_roundg (b'-mid)
            case measure=>omega
            case rel=>
             have hx:=X.out;exact ⟨mid,b',(rd ltInt dk a' b' lim wb wp).lim,wb,wp,d4,rfl,rfl,rfl,rfl,rfl,r2,hb',Nat.le_refl _,by omega,Nat.le_trans rd_lim_le hlim,by rw [r3,s3,hds],r4,hAt6.step hblk r3 hw7,by rw [←A.out,pdq_eq h12 hl0 hp2 h87 (by rw [hx];exact ⟨r1,r2⟩),hx]⟩
end Go.Proofs.YtjidohgiigjifaaGreatDoor
namespace Go.Proofs.YtjidohgiigjifaaGreatDoor
open Go.RowKit Go.Sort
def uZ:Prop:=∀(blk off cap a b limit:Nat) (d:Array Int) (w:World),Holds (Value.int .i32) w blk off d→blk<w.heap.size→a≤b→b≤d.size→d.size<4611686018427387904→limit<4611686018427387904→Below ltInt a b d→
 Calls Tryz.prog 83 #[.slice (some ⟨blk,off,none⟩) d.size cap,.int .i64 a,.int .i64 b,.int .i64 limit] w fun e w'=>
  e=.returned (.tuple #[])∧∃n os,w'=grow (putRow (Value.int .i32) (Sort.ahead w n) blk off (Sort.pdq ltInt d a b limit true true)) os
theorem Eg (hpdq:uZ) (blk off cap:Nat) (d:Array Int) (w:World) (hH:Holds (Value.int .i32) w blk off d) (hblk:blk<w.heap.size) (hsz:d.size<4611686018427387904) :
 Calls Tryz.prog 53 #[.slice (some ⟨blk,off,none⟩) d.size cap] w fun e w'=>e=.returned (.tuple #[])∧∃n os,w'=grow (putRow (Value.int .i32) (Sort.ahead w n) blk off (Sort.sort ltInt d)) os:=by
 have HH:Hid (Holds (Value.int .i32) w blk off d):=hH;clear hH;have hLen:∀w,Calls Tryz.prog 84 #[.int .u64 (d.size:Int)] w fun e w'=>e=.returned (.int .i64 (bitsLen d.size:Nat))∧w'=w:=fun w=>by
  have h:=Tryz.bits_Len (d.size:Int) w (by omega) (by omega)
  rwa [Int.toNat_natCast,bitLen_eq _ (by omega)] at h
 have hk:bitsLen d.size≤62:=(bitsLen_le_iff d.size 62).2 (by omega);go_enter Tryz.func53,Tryz.ntmps53
 go_wp2_with (first
  | (go_at_call 84;refine (hLen _).mono ?_;rintro e w' ⟨rfl,rfl⟩)
  | (go_at_call 83;refine (hpdq blk off cap 0 d.size (bitsLen d.size) d _ (by exact HH.out) (by exact hblk) (Nat.zero_le _) (Nat.le_refl _) hsz (by omega) (Or.inl rfl)).mono ?_;rintro e w' ⟨rfl,n,os,rfl⟩))
 go_end0
 exact ⟨rfl,n,os,rfl⟩
theorem kU (p:Option Addr) (cap:Nat) (w:World) :
 Calls Tryz.prog 114 #[.slice p 0 cap,.int .i64 0,.int .i64 0] w fun e w'=>e=.returned (.tuple #[])∧w'=w:=by
 go_enter Tryz.func114,Tryz.ntmps114;go_wp2;refine wp_loop_rounds 1 ?_;rw [rounds_succ];go_wp2
 go_end0
 exact ⟨rfl,rfl⟩
theorem qm (p:Option Addr) (cap:Nat) (w:World) :
 Calls Tryz.prog 83 #[.slice p 0 cap,.int .i64 0,.int .i64 0,.int .i64 0] w fun e w'=>e=.returned (.tuple #[])∧w'=w:=by
 go_enter Tryz.func83,Tryz.ntmps83;go_wp2;refine wp_loop_rounds 1 ?_;rw [rounds_succ];go_wp2_with (first|(go_at_call 114;refine (kU p cap _).mono ?_;rintro e w' ⟨rfl,rfl⟩));refine bodyPost_ret (results_none rfl _ _ _) rfl ?_;exact ⟨rfl,rfl⟩
theorem vW (p:Option Addr) (cap:Nat) (w:World) :
 Calls Tryz.prog 53 #[.slice p 0 cap] w fun e w'=>e=.returned (.tuple #[])∧w'=w:=by
 have hLen:∀w,Calls Tryz.prog 84 #[.int .u64 0] w fun e w'=>e=.returned (.int .i64 0)∧w'=w:=fun w=>Tryz.bits_Len 0 w (by omega) (by omega);go_enter Tryz.func53,Tryz.ntmps53
 go_wp2_with (first
  | (go_at_call 84;refine (hLen _).mono ?_;rintro e w' ⟨rfl,rfl⟩)
  | (go_at_call 83;refine (qm p cap _).mono ?_;rintro e w' ⟨rfl,rfl⟩))
 go_end0
 exact ⟨rfl,rfl⟩
theorem Cb:AB where
 ins:=ni
 brk:=nk
 piv:=ql
 par:=jq
 peq:=ja
 prt:=lH
theorem H6:JV where
 swo:=swo_ltInt
 ins:=insertionSort_holds
 par:=partialInsertionSort_holds
 prt:=partition_holds _
 peq:=partitionEqual_holds _
 pdq:=pdq_sorts _
theorem H8:uZ:=fun blk off cap a b limit d w hH hb hab hbd hsz hl hB=>
 xq Cb H6 (b-a+1) blk off cap a b limit d w (by omega) hH hb hab hbd hsz hl hB
theorem sort_int_eq (zs:List Int):Sort.sort ltInt zs.toArray=(zs.mergeSort fun x y=>decide (x≤y)).toArray:=by
 rw [←sortInt zs]
theorem aaG (blk off cap:Nat) (zs:List Int) (w:World) (hH:Holds (Value.int .i32) w blk off zs.toArray) (hblk:blk<w.heap.size) (hsz:zs.length<4611686018427387904) :
 Calls Tryz.prog 53 #[.slice (some ⟨blk,off,none⟩) zs.length cap] w fun e w'=>
  e=.returned (.tuple #[])∧∃n os,w'=grow (putRow (Value.int .i32) (Sort.ahead w n) blk off (zs.mergeSort fun x y=>decide (x≤y)).toArray) os:=by
 have h:=Eg H8 blk off cap zs.toArray w hH hblk (by simpa using hsz);rw [sort_int_eq] at h;simpa using h
end Go.Proofs.YtjidohgiigjifaaGreatDoor
namespace Go.Proofs
open Go.Shelf
def Tryz.xu:Go.Shelf.Ren:=⟨fun|41=>57|n=>n,fun|22=>39|23=>21|4=>4|n=>n,fun|n=>n⟩
theorem Tryz.xw:Go.Proofs.SlLaysE0.n41 Tryz.prog Tryz.xu:={
 mixed:=by kernel_rfl
 f41:=⟨Tryz.f57.name,by decide,Tryz.func57.trans (congrArg some (by kernel_rfl))⟩
 t4:=Tryz.underlying4
 a4:=Tryz.isAgg4
 z4:=Tryz.sizeOf4
 v4:=Tryz.zeroValue4
 t22:=Tryz.underlying39
 a22:=Tryz.isAgg39
 z22:=Tryz.sizeOf39
 v22:=Tryz.zeroValue39 }
def Tryz.tZ:Go.Shelf.Ren:=⟨fun|43=>140|n=>n,fun|22=>39|23=>21|3=>3|4=>4|0=>0|n=>n,fun|n=>n⟩
theorem Tryz.Cc:Go.Proofs.SlLaysE.n43 Tryz.prog Tryz.tZ:={
 mixed:=by kernel_rfl
 f43:=⟨Tryz.f140.name,by decide,Tryz.func140.trans (congrArg some (by kernel_rfl))⟩
 t0:=Tryz.underlying0
 a0:=Tryz.isAgg0
 z0:=Tryz.sizeOf0
 v0:=Tryz.zeroValue0
 t3:=Tryz.underlying3
 a3:=Tryz.isAgg3
 z3:=Tryz.sizeOf3
 v3:=Tryz.zeroValue3
 t4:=Tryz.underlying4
 a4:=Tryz.isAgg4
 z4:=Tryz.sizeOf4
 v4:=Tryz.zeroValue4
 t22:=Tryz.underlying39
 a22:=Tryz.isAgg39
 z22:=Tryz.sizeOf39
 v22:=Tryz.zeroValue39
 a23:=Tryz.isAgg21
 z23:=Tryz.sizeOf21 }
def Tryz.rA:Go.Shelf.Ren:=⟨fun|31=>164|29=>195|n=>n,fun|22=>39|23=>21|4=>4|3=>3|0=>0|n=>n,fun|n=>n⟩
theorem Tryz.pJ:Go.Proofs.SlLaysE.n31 Tryz.prog Tryz.rA:={
 mixed:=by kernel_rfl
 f29:=⟨Tryz.f195.name,by decide,Tryz.func195.trans (congrArg some (by kernel_rfl))⟩
 f31:=⟨Tryz.f164.name,by decide,Tryz.func164.trans (congrArg some (by kernel_rfl))⟩
 t0:=Tryz.underlying0
 a0:=Tryz.isAgg0
 z0:=Tryz.sizeOf0
 v0:=Tryz.zeroValue0
 t3:=Tryz.underlying3
 a3:=Tryz.isAgg3
 z3:=Tryz.sizeOf3
 v3:=Tryz.zeroValue3
 t4:=Tryz.underlying4
 a4:=Tryz.isAgg4
 z4:=Tryz.sizeOf4
 v4:=Tryz.zeroValue4
 t22:=Tryz.underlying39
 a22:=Tryz.isAgg39
 z22:=Tryz.sizeOf39
 v22:=Tryz.zeroValue39
 a23:=Tryz.isAgg21
 z23:=Tryz.sizeOf21 }
end Go.Proofs
namespace Go.Cd
open Go.Lib
def dD (l:List Nat):List Nat:=l.mergeSort fun x y=>decide (x≤y)
theorem l6 (l:List Nat):(dD l).Perm l:=List.mergeSort_perm l _
theorem AJ {l:List Nat} {x:Nat}:x∈dD l↔x∈l:=(l6 l).mem_iff
theorem fD (l:List Nat):(dD l).length=l.length:=(l6 l).length_eq
theorem Eh (l:List Nat):(dD l).Pairwise (·≤·):=by
 have:=List.pairwise_mergeSort (le:=fun x y:Nat=>decide (x≤y)) (fun a b c h1 h2=>by simp at *;omega) (fun a b=>by simp;omega) l;exact this.imp fun h=>by simpa using h
def AL (l:List Nat):List Nat:=compactUpTo l.toArray l.length
theorem KM (d:Array Nat) (m:Nat):compactUpTo d (m+1)=compactUpTo d m++if keeps d m then [d[m]!] else []:=by
 unfold compactUpTo;rw [List.range_succ,List.filter_append,List.map_append];by_cases h:keeps d m=true
 ·simp [h]
 ·simp [h]
theorem Ei (d:Array Nat) (hs:∀i k,i<k→k<d.size→d[i]!≤d[k]!):∀m,m≤d.size→
 (compactUpTo d m).Pairwise (· < ·)∧(∀x,x∈compactUpTo d m↔∃j,j<m∧d[j]! = x)
 | 0,_=>by
   have e:compactUpTo d 0=[]:=rfl;rw [e];exact ⟨List.Pairwise.nil,fun x=>by simp⟩
 | m+1,hm=>by
   obtain ⟨h1,h2⟩:=Ei d hs m (by omega);rw [KM];by_cases hk:keeps d m=true
   ·rw [if_pos hk];have hlt:∀x∈compactUpTo d m,x<d[m]!:=by
     intro x hx;obtain ⟨j,hj,rfl⟩:=(h2 x).1 hx;have h3:=hs j m hj (by omega);rcases Nat.lt_or_ge (d[j]!) (d[m]!) with h4|h4
     ·exact h4
     ·exfalso;have h5:=Nat.le_antisymm h3 h4;have h6:d[m-1]! = d[m]!:=by
       have a1:d[j]!≤d[m-1]!:=by
        rcases Nat.lt_or_ge j (m-1) with h|h
        ·exact hs _ _ h (by omega)
        ·rw [show j=m-1 by omega];exact Nat.le_refl _
       have a2:=hs (m-1) m (by omega) (by omega);omega
      unfold keeps at hk;simp only [decide_eq_true_eq] at hk;rcases hk with hk|hk
      ·omega
      ·simp [h6] at hk
    refine ⟨List.pairwise_append.2 ⟨h1,List.pairwise_singleton _ _,fun a ha b hb=>by rw [List.mem_singleton.1 hb];exact hlt a ha⟩,fun x=>?_⟩;rw [List.mem_append,h2];constructor
    ·rintro (⟨j,hj,e⟩|hx)
     ·exact ⟨j,by omega,e⟩
     ·exact ⟨m,by omega,(List.mem_singleton.1 hx).symm⟩
    ·rintro ⟨j,hj,e⟩;rcases Nat.lt_or_ge j m with h|h
     ·exact .inl ⟨j,h,e⟩
     ·obtain rfl:j=m:=by omega
      exact .inr (by simp [e])
   ·rw [if_neg hk,List.append_nil];refine ⟨h1,fun x=>?_⟩;rw [h2];constructor
    ·rintro ⟨j,hj,e⟩;exact ⟨j,by omega,e⟩
    ·rintro ⟨j,hj,e⟩;rcases Nat.lt_or_ge j m with h|h
     ·exact ⟨j,h,e⟩
     ·obtain rfl:j=m:=by omega
      unfold keeps at hk;have hm1:0<j:=by
       rcases Nat.eq_zero_or_pos j with h0|h0
       ·simp [h0] at hk
       ·exact h0
      simp at hk;exact ⟨j-1,by omega,by rw [←e];exact hk.2.symm⟩
def gQ (l:List Nat):List Nat:=AL (dD l)
theorem nA (l:List Nat):(gQ l).Pairwise (· < ·)∧(∀x,x∈gQ l↔x∈l):=by
 have hs:∀i k,i<k→k<(dD l).toArray.size→(dD l).toArray[i]!≤(dD l).toArray[k]!:=by
  intro i k h1 h2;have h2':k<(dD l).length:=by simpa using h2
  rw [getElem!_pos (dD l).toArray i (by simpa using Nat.lt_trans h1 h2'),getElem!_pos (dD l).toArray k h2];simp only [List.getElem_toArray];exact List.pairwise_iff_getElem.1 (Eh l) i k (by omega) h2' h1
 obtain ⟨h1,h2⟩:=Ei (dD l).toArray hs (dD l).length (by simp);refine ⟨h1,fun x=>?_⟩;show x∈compactUpTo _ _↔_;rw [h2,←AJ (l:=l),List.mem_iff_getElem];constructor
 ·rintro ⟨j,hj,e⟩;refine ⟨j,hj,?_⟩;rw [←e,getElem!_pos (dD l).toArray j (by simpa using hj)];simp
 ·rintro ⟨j,hj,e⟩;refine ⟨j,hj,?_⟩;rw [←e,getElem!_pos (dD l).toArray j (by simpa using hj)];simp
theorem Ej (d:Array Nat) (m:Nat):(compactUpTo d m).length≤m:=by
 unfold compactUpTo;rw [List.length_map];exact Nat.le_trans (List.length_filter_le _ _) (by simp)
theorem AO (l:List Nat):(gQ l).length≤l.length:=Nat.le_trans (Ej _ _) (by rw [fD];exact Nat.le_refl _)
def jH (out:List Nat) (c:Nat):List Nat:=if out.getLast? = some c then out.dropLast++[c+1] else out++[c,c+1]
def lJ (l:List Nat):List Nat:=l.foldl jH []
def places (l:List Nat) (c:Nat):Nat:=l.countP fun x=>decide (x≤c)
theorem kG (l:List Nat) (a x:Nat):places (l++[a]) x=places l x+if a≤x then 1 else 0:=by
 unfold places;rw [List.countP_append,List.countP_singleton];by_cases h:a≤x <;> simp [h]
theorem El (out:List Nat) (c x:Nat):(places (jH out c) x) % 2=(places out x+if x=c then 1 else 0) % 2:=by
 unfold jH
 split
 ·rename_i h;obtain ⟨p,rfl⟩:=List.getLast?_eq_some_iff.1 h;rw [List.dropLast_concat,kG,kG]
  split <;> split <;> split <;> omega
 ·rw [show out++[c,c+1]=(out++[c])++[c+1] by simp,kG,kG]
  split <;> split <;> split <;> omega
theorem u_:∀(l:List Nat) (out:List Nat) (x:Nat),(places (l.foldl jH out) x) % 2=(places out x+l.count x) % 2
 | [],out,x=>by simp
 | c::l,out,x=>by
   rw [List.foldl_cons,u_ l,Nat.add_mod,El,←Nat.add_mod,List.count_cons];by_cases h:x=c
   ·subst h;simp;omega
   ·have:(c==x)=false:=by simp;omega
    simp [h,this]
theorem Ny {l:List Nat} (h:l.Pairwise (· < ·)) (x:Nat):places (lJ l) x % 2=1↔x∈l:=by
 unfold lJ;rw [u_];have hn:l.Nodup:=h.imp fun h=>Nat.ne_of_lt h;have:places [] x=0:=rfl;rw [this,Nat.zero_add];by_cases hx:x∈l
 ·rw [hn.count,if_pos hx];simp [hx]
 ·rw [List.count_eq_zero.2 hx];simp [hx]
theorem KN {out:List Nat} {c:Nat} (h:out.Pairwise (· < ·)) (hc:∀x∈out,x≤c):(jH out c).Pairwise (· < ·)∧∀x∈jH out c,x≤c+1:=by
 unfold jH
 split
 ·rename_i hl;obtain ⟨ys,rfl⟩:=List.getLast?_eq_some_iff.1 hl;simp only [List.dropLast_concat];rw [List.pairwise_append] at h;refine ⟨List.pairwise_append.2 ⟨h.1,List.pairwise_singleton _ _,fun a ha b hb=>?_⟩,fun x hx=>?_⟩
  ·have:=h.2.2 a ha c (by simp);rw [List.mem_singleton.1 hb];omega
  ·rcases List.mem_append.1 hx with hx|hx
   ·have:=h.2.2 x hx c (by simp);omega
   ·rw [List.mem_singleton.1 hx];exact Nat.le_refl _
 ·rename_i hl;have hlt:∀x∈out,x<c:=by
   intro x hx;rcases Nat.lt_or_ge x c with h1|h1
   ·exact h1
   ·exfalso;have X_:x=c:=Nat.le_antisymm (hc x hx) h1;subst X_;obtain ⟨a,b,rfl⟩:=List.append_of_mem hx;cases b with
    | nil=>exact hl (by simp)
    | cons y b=>
      rw [List.pairwise_append] at h;have h2:=(List.pairwise_cons.1 h.2.1).1 y (by simp);have:=hc y (by simp);omega
  refine ⟨List.pairwise_append.2 ⟨h,by simp,fun a ha b hb=>?_⟩,fun x hx=>?_⟩
  ·have:=hlt a ha;simp at hb;omega
  ·rcases List.mem_append.1 hx with hx|hx
   ·have:=hlt x hx;omega
   ·simp at hx;omega
theorem AP:∀(l:List Nat) (out:List Nat),l.Pairwise (· < ·)→out.Pairwise (· < ·)→(∀x∈out,∀y∈l,x≤y)→(l.foldl jH out).Pairwise (· < ·)
 | [],out,_,h,_=>h
 | c::l,out,hl,h,hb=>by
   obtain ⟨h1,h2⟩:=List.pairwise_cons.1 hl;obtain ⟨h3,h4⟩:=KN h (fun x hx=>hb x hx c (by simp));refine AP l _ h2 h3 fun x hx y hy=>?_;have:=h4 x hx;have:=h1 y hy;omega
theorem KO {l:List Nat} (h:l.Pairwise (· < ·)):(lJ l).Pairwise (· < ·):=AP l [] h List.Pairwise.nil (by simp)
theorem Nz (out:List Nat) (c:Nat):(jH out c).length≤out.length+2:=by
 unfold jH
 split
 ·rw [List.length_append,List.length_dropLast];simp;omega
 ·simp
theorem Em (l:List Nat):(lJ l).length≤2*l.length:=by
 have:∀(l out:List Nat),(l.foldl jH out).length≤out.length+2*l.length:=fun l=>by
  induction l with
  | nil=>intro out;simp
  | cons c l ih=>
    intro out;rw [List.foldl_cons,List.length_cons];have:=ih (jH out c);have:=Nz out c;omega
 have:=this l [];simpa [lJ] using this
section
open Go.RowKit
variable {F : Fence} {n : Nat} {P : Program}
def lK (Bl:List Nat) (A B:World):Prop:=∀b∈Bl,B.cell? ⟨b,0,none⟩=A.cell? ⟨b,0,none⟩∧B.frozen? ⟨b,0,none⟩=A.frozen? ⟨b,0,none⟩
theorem lK.of_block {Bl:List Nat} {A B:World} (h:∀b∈Bl,B.heap[b]? = A.heap[b]?):lK Bl A B:=fun b hb=>⟨World.cell?_of_block (w:=A) (h b hb),World.frozen?_of_block (w:=A) (h b hb)⟩
theorem lK.trans {Bl:List Nat} {A B C:World} (h:lK Bl A B) (k:lK Bl B C):lK Bl A C:=fun b hb=>⟨(k b hb).1.trans (h b hb).1,(k b hb).2.trans (h b hb).2⟩
def Ce {α:Type} (F:Fence) (n:Nat) (P:Program) (g:Nat) (lb:Array Value) (encs:α→Array Value) (Bl:List Nat) (Bs:Nat) (xs:List α) (w:World):Prop:=
 ∀(l:Nat) (J:List α→World→Prop) (W:World),Below w.heap.size w W→
  (∀s A B row,J s A→A.grownBy B row→(∀r,row=some r→r=Bs)→J s B)→
  (∀pre x W1,J pre W1→pre.length<xs.length→YieldAt F (n-1) P l (encs x) W1 fun e W'=>e=.returned (.bool true)∧J (pre++[x]) W'∧lK Bl W1 W')→
  J [] W→
  CallsIn F n P g (#[.func (.yield l) #[] #[]]++lb) W fun e W'=>(∃v,e=.returned v)∧J xs W'
theorem lL {α:Type} {g:Operand} {ps:Array Tmp} {assign body:Code} {Q:Exit→Act→World→Prop} {a:Act} {w:World}
 (hro:F.round=none) (h1:1≤n) {gf:Nat} {lb:Array Value} (hg:a.eval g=.func (.func gf) #[] lb) (hFg:F.fn gf) (eg:∀args w,(callFunc gf args).run P w=.ok (.enter gf args) w)
 {encs:α→Array Value} {Bl:List Nat} {Bs:Nat} {xs:List α} (hseq:Ce F (n-1) P gf lb encs Bl Bs xs w) (Rl:Bs<w.heap.size) (hBl:∀b∈Bl,b<w.heap.size) (hps:∀x,(encs x).size=ps.size)
 (I:List α→World→Prop)
 (hI:∀s A B row,I s A→A.grownBy B row→(∀r,row=some r→r=Bs∨(w.heap.size≤r∧∃o:Obj,A.heap[r]? = some o∧o.isCells=false))→I s B)
 (h0:I [] w) (a₁:α→Act)
 (hassign:∀(l:Nat) (x:α) (W:World) (K:Act→World→Prop),K (a₁ x) W→
   assign.wpIn (F.inRound l) (n-1-1) P (Exit.then K (fun _ _ _=>False)) { tmps:=(ps.zip (encs x)).foldl (fun t (p,v)=>t.setIfInBounds p v) a.tmps,defers:=[] } W)
 (hbody:∀(l:Nat) (pre:List α) (x:α) (W:World),I pre W→pre.length<xs.length→body.wpIn (F.inRound l) (n-1-1) P (ownPostG w.heap.size (lK Bl) I (fun _ _ _=>False) (pre++[x]) W) (a₁ x) W)
 (hdone:∀(D:Nat) (W:World),w.heap.size≤D→I xs W→W.heap[D]? = some (.deferred (some []))→Q .normal { a with defers:={ target:=.collected D,args:=#[] }::a.defers } W) :
 (Code.rangeFunc g ps assign body).wpIn F n P Q a w:=by
 have hIF:OwnFrom w.heap.size I:=fun s A B row hs hg hr=>hI s A B row hs hg fun r e=>.inr (hr r e);refine wpIn_rangeFunc ?_;intro fn hfn;rw [hro];obtain ⟨rec,hrec⟩:∃rec:LoopState→Option Code→Loop,rec=fun st pe=>{ state:=st,pending:=pe,fn,tmps:=a.tmps,params:=ps,assign,body,defers:=w.heap.size }:=⟨_,rfl⟩;obtain ⟨W1,hW1⟩:∃W1,(w.alloc (.deferred (some []))).alloc (.loop (rec .ready none))=W1:=⟨_,rfl⟩;have hL1:W1.heap[w.heap.size+1]? = some (.loop (rec .ready none)):=by
  rw [←hW1];have:=World.alloc_heap_new (w.alloc (.deferred (some []))) (.loop (rec .ready none));rwa [World.size_alloc] at this
 have hK1:W1.heap[w.heap.size]? = some (.deferred (some [])):=by
  rw [←hW1];exact (Below.heap_alloc _ _ _ (by simp)).trans (World.alloc_heap_new w _)
 have hI1:I [] W1:=by rw [←hW1];exact hIF.alloc _ (hIF.alloc _ h0)
 have hb1:Below w.heap.size w W1:=by
  rw [←hW1];exact ((Below.refl _ w).alloc (Nat.le_refl _) _).alloc (by simp) _
 refine ⟨w.heap.size+1,[{ target:=.collected w.heap.size,args:=#[] }],W1,{ target:=.fn (.func gf) lb,args:=#[.func (.yield (w.heap.size+1)) #[] #[]] },W1,gf,
  #[.func (.yield (w.heap.size+1)) #[] #[]]++lb,W1,?_,?_,?_,?_,fun _=>h1,?_⟩
 ·rw [←hW1,hrec];exact run_enterLoop_outer _ _ _ _ _
 ·simp only [resolve,hg];simp [go_sem]
 ·intro f' hf';simp [Target.leads] at hf';subst hf';exact hFg
 ·simp [invoke,go_sem,eg]
 ·refine (hseq (w.heap.size+1)
   (fun pre W=>I pre W∧W.heap[w.heap.size+1]? = some (.loop (rec .ready none))∧W.heap[w.heap.size]? = some (.deferred (some [])))
   W1 hb1
   (fun s A B row hs hg' hr=>⟨hI s A B row hs.1 hg' (fun r e=>.inl (hr r e)),
     (hg'.block _ (Array.getElem?_eq_some_iff.1 hs.2.1).1 (fun e=>by have:=hr _ e.symm;omega)).trans hs.2.1,
     (hg'.block _ (Array.getElem?_eq_some_iff.1 hs.2.2).1 (fun e=>by have:=hr _ e.symm;omega)).trans hs.2.2⟩)
   ?_ ⟨hI1,hL1,hK1⟩).mono ?_
  ·rintro pre x W ⟨hi,hl,hk⟩ hlen;have hlt:w.heap.size+1<W.heap.size:=(Array.getElem?_eq_some_iff.1 hl).1;have hy:=run_yield (P:=P) (args:=encs x) hl (by rw [hrec];exact hps x);rw [hrec] at hy;refine ⟨fn,_,assign,body,hy,roundIn_of_wpIn hfn (hassign _ x W _ ⟨_,run_beginRound hl (by rw [hrec]),?_⟩)⟩;have hl2:(W.putObj (w.heap.size+1) (.loop { rec .ready none with state:=.busy })).heap[w.heap.size+1]? = some (.loop { rec .ready none with state:=.busy }):=World.putObj_heap_same hlt;have hk2:(W.putObj (w.heap.size+1) (.loop { rec .ready none with state:=.busy })).heap[w.heap.size]? = some (.deferred (some [])):=(World.putObj_heap_other (by omega)).trans hk;have hw2:lK Bl W (W.putObj (w.heap.size+1) (.loop { rec .ready none with state:=.busy })):=lK.of_block (fun b hb=>World.putObj_heap_other (by have:=hBl b hb;omega));refine wpIn_mono (hbody _ pre x _ (hIF.putObj _ hi (by omega) hl rfl) hlen) ?_;rintro e a3 W3 hp;cases e with
   | normal=>
     obtain ⟨hk3,hkp3,hi3⟩:=hp;have hl3:=hk3.same _ _ (by omega) hl2 rfl;have hr:=run_endRound (P:=P) none hl3;rw [hrec] at hr;have ab2:W3.heap[w.heap.size+1]? = some (.loop { rec .ready none with state:=.busy }):=hl3;refine ⟨_,_,hr,⟨rfl,⟨hIF.putObj _ hi3 (by omega) ab2 rfl,?_,?_⟩,(hw2.trans hkp3).trans (lK.of_block (fun b hb=>World.putObj_heap_other (by have:=hBl b hb;omega)))⟩⟩
     ·rw [World.putObj_heap_same (Array.getElem?_eq_some_iff.1 hl3).1,hrec];rfl
     ·exact (World.putObj_heap_other (by omega)).trans (hk3.same _ _ (Nat.le_refl _) hk2 rfl)
   | ret=>exact hp.2.elim
   | exit id=>exact hp.2.elim
   | goto t=>exact hp.2.elim
   | panic ch=>exact hp.elim
   | outgrown=>exact hp.elim
  ·rintro e W2 ⟨⟨v,rfl⟩,hi,hl,hk⟩;exact ⟨none,_,by have:=run_endLoop (P:=P) hl (by rw [hrec];simp);rw [hrec] at this;exact this,hdone _ _ (Nat.le_refl _) (hIF.putObj _ hi (by omega) hl rfl) ((World.putObj_heap_other (by omega)).trans hk)⟩
end
end Go.Cd
section
namespace Go.Cd
open Go.Lib
theorem jI (c:UInt8):∀(p r:List UInt8),c∉p→indexByte (p++c::r) c=(p.length:Int)
 | [],r,_=>by simp [indexByte]
 | a::p,r,h=>by
   have ih:=jI c p r (fun x=>h (List.mem_cons_of_mem _ x));have ha:(a==c)=false:=by
    have:c≠a:=fun e=>h (by rw [e];exact List.mem_cons_self ..);simpa using fun e=>this e.symm
   show (if (a==c)=true then (0:Int) else if (indexByte (p++c::r) c==-1)=true then -1 else indexByte (p++c::r) c+1)=_;rw [ih,if_neg (by rw [ha];decide),if_neg (by simp),List.length_cons];omega
theorem mH (c:UInt8):∀(p:List UInt8),c∉p→indexByte p c=-1
 | [],_=>rfl
 | a::p,h=>by
   have ih:=mH c p (fun x=>h (List.mem_cons_of_mem _ x));have ha:(a==c)=false:=by
    have:c≠a:=fun e=>h (by rw [e];exact List.mem_cons_self ..);simpa using fun e=>this e.symm
   show (if (a==c)=true then (0:Int) else if (indexByte p c==-1)=true then -1 else indexByte p c+1)=_;rw [ih,if_neg (by rw [ha];decide)];rfl
theorem zG (c:UInt8) (p:List UInt8) (l:List (List UInt8)):(bu c l).length≤(bu c (p::l)).length:=by
 cases l with
 | nil=>simp [bu]
 | cons q l=>simp only [bu,List.length_append,List.length_cons];omega
theorem pK (c:UInt8):∀(l:List (List UInt8)) (k:Nat),(bu c (l.drop k)).length≤(bu c l).length
 | l,0=>by simp
 | [],k+1=>by simp
 | p::l,k+1=>Nat.le_trans (pK c l k) (zG c p l)
end Go.Cd
namespace Go.Proofs.YtjidohgiigjifaaGreatDoor
open Go.RowKit Go.Cd Go.Shelf
attribute [local go_sem] Oper.semAt_some
theorem En (a b:List UInt8):(tx (a++b)).extract 0 a.length=tx a:=by
 apply ByteArray.ext;rw [ByteArray.data_extract];apply Array.ext';simp [tx]
def rC (W:World) (b:Nat):Nat:=match W.cell? ⟨b,0,none⟩ with
 | some (.string s)=>s.size
 | _=>0
theorem H9 (m:Nat) (hm:1≤m) (Bp Bs Bk:Nat) (hps:Bp≠Bs) (hks:Bk≠Bs) {α:Type} (ys:List α) (hy0:ys≠[]) (val:α→List UInt8) (h32:∀y∈ys,(32:UInt8)∉val y) (hlen:(bu 32 (ys.map val)).length<1000000)
 (w:World) (cp:w.cell? ⟨Bp,0,none⟩=some (.string ⟨#[32]⟩)) (cs:w.cell? ⟨Bs,0,none⟩=some (.string (tx (bu 32 (ys.map val))))) (fs:w.frozen? ⟨Bs,0,none⟩=false) (ck:w.cell? ⟨Bk,0,none⟩=some (.int .i64 0)) :
 Ce Fence.wide m Tryz.prog 272 #[.pointer (some ⟨Bp,0,none⟩),.pointer (some ⟨Bs,0,none⟩),.pointer (some ⟨Bk,0,none⟩)] (fun x=>#[.string (tx (val x))]) [Bp,Bs,Bk] Bs ys w:=by
 intro l J W hW hJ hY h0;have cp:=aA hW cp;have cs:=aA hW cs;have ck:=aA hW ck;refine callsIn_of_wp Tryz.func272 rfl trivial ?_ rfl;simp only [Tryz.ntmps272,List.size_toArray,List.length_cons,List.length_nil,Nat.reduceAdd,Nat.reduceSub,Array.replicate_succ,Array.replicate_zero,List.push_toArray,List.append_toArray,List.nil_append,List.cons_append];have fs':W.frozen? ⟨Bs,0,none⟩=false:=(hW.frozen (p:=⟨Bs,0,none⟩) (World.block_lt_of_cell? w ⟨Bs,0,none⟩ (by assumption))).trans fs
 gi_wp2_with fail
 gi_loopw [7] (fun iv wr=>∃k:Nat,k<ys.length∧J (ys.take k) wr∧wr.cell? ⟨Bp,0,none⟩=some (.string ⟨#[32]⟩)∧wr.cell? ⟨Bs,0,none⟩=some (.string (tx (bu 32 ((ys.drop k).map val))))∧wr.frozen? ⟨Bs,0,none⟩=false∧wr.cell? ⟨Bk,0,none⟩=some (.int .i64 0)) (fun iv wr=>rC wr Bs)
 case atStart=>exact ⟨0,List.length_pos_iff.2 hy0,h0,cp,cs,fs',ck⟩
 case round=>
  clear cp cs ck fs' h0;obtain ⟨k,hk,Rm,cp,cs,fs',ck⟩:=hrel;obtain ⟨y,hye⟩:=af (ys[k]);have hmem:y∈ys:=by rw [hye];exact List.getElem_mem hk
  have hd:ys.drop k=y::ys.drop (k+1):=by rw [hye];exact List.drop_eq_getElem_cons hk
  have ht:ys.take (k+1)=ys.take k++[y]:=by rw [hye];exact List.take_succ_eq_append_getElem hk
  have h3:=h32 y hmem;by_cases hlast:k+1=ys.length
  ·have hd2:ys.drop (k+1)=[]:=List.drop_of_length_le (by omega);have hall:ys.take k++[y]=ys:=by rw [←ht];exact List.take_of_length_le (by omega)
   rw [hd,hd2] at cs
   replace cs:wr.cell? ⟨Bs,0,none⟩=some (.string (tx (val y))):=cs
   obtain ⟨fn,tmps,assign,body,hy,hR⟩:=hY (ys.take k) y wr Rm (by rw [List.length_take];omega)
   (try dsimp only at hy)
   have IX:=ae (show Calls Tryz.prog 236 #[.string (tx (val y)),.string ⟨#[32]⟩] wr fun e w'=>e=.returned (.int .i64 (-1))∧w'=wr from by
    have h:=Tryz.strings_Index_one (tx (val y)) 32 wr;rw [df,mH 32 _ h3] at h
    exact h)
   rw [hall] at hR;have HR:=ae hR;clear hd2 hall hd ht hR hye hJ hY
   gi_wp2_with (refine ⟨trivial,?_⟩;gi_at_call 236;refine (callsIn_wide.2 IX.out).mono ?_;rintro e w2 ⟨rfl,rfl⟩)
   refine HR.out.mono ?_;rintro e W3 ⟨rfl,hJ3,_⟩
   gi_wp2
   refine bodyPost_end (results_none rfl _ _ _) rfl ?_;exact ⟨⟨_,rfl⟩,hJ3⟩
  ·obtain ⟨z,r,hzr⟩:∃z r,ys.drop (k+1)=z::r:=by
    cases e:ys.drop (k+1) with
    | nil=>have:=congrArg List.length e;rw [List.length_drop] at this;simp at this;omega
    | cons z r=>exact ⟨z,r,rfl⟩
   obtain ⟨R,hR0⟩:=af (bu 32 ((ys.drop (k+1)).map val));have kH:bu 32 ((ys.drop k).map val)=val y++32::R:=by rw [hR0,hd,hzr];rfl
   rw [kH] at cs;obtain ⟨fn,tmps,assign,body,hy,hR⟩:=hY (ys.take k) y wr Rm (by rw [List.length_take];omega);rw [←ht] at hR;have HR:=ae hR
   have IX:=ae (show Calls Tryz.prog 236 #[.string (tx (val y++32::R)),.string ⟨#[32]⟩] wr fun e w'=>e=.returned (.int .i64 ((val y).length:Nat))∧w'=wr from by
    have h:=Tryz.strings_Index_one (tx (val y++32::R)) 32 wr;rw [df,jI 32 _ _ h3] at h
    exact h)
   have hsz:(tx (val y++32::R)).size=(val y).length+1+R.length:=by rw [bn,List.length_append,List.length_cons];omega
   have y8:=ae (show (tx (val y++32::R)).extract 0 (val y).length=tx (val y) from En (val y) (32::R))
   have Ya:=ae (show (tx (val y++32::R)).extract ((val y).length+1) ((val y).length+1+R.length)=tx R from by
    have:=Ns (val y++[32]) R ((val y).length+1) (by simp)
    rwa [List.append_assoc] at this)
   have KP:=ae hR0;obtain ⟨v,hv⟩:=af ((val y).length);have HV:=ae hv;rw [←hv] at IX hsz y8 Ya;have ab3:v+1+R.length<1000000:=by
    have h1:=pK 32 (ys.map val) k;rw [←List.map_drop,kH,←bn,hsz] at h1;omega
   clear hzr kH hd ht hR hye hY hR0 hv
   gi_wp2_with (refine ⟨trivial,?_⟩;gi_at_call 236;refine (callsIn_wide.2 IX.out).mono ?_;rintro e w2 ⟨rfl,rfl⟩)
   rw [y8.out,hy]
   gi_wp2
   refine HR.out.mono ?_;rintro e W3 ⟨rfl,hJ3,hkp⟩;have cp3:=(hkp Bp (by simp)).1.trans cp;have Yb:=(hkp Bs (by simp)).1.trans cs;have fs3:=(hkp Bs (by simp)).2.trans fs';have ck3:=(hkp Bk (by simp)).1.trans ck;have Qx:=ae cs;clear cp cs fs' ck hy Rm;have HJ3:=ae hJ3;have Xd:=ae hkp;clear hJ3 hkp
   gi_wp2
   rw [Ya.out];go_roundw
   case rel=>
    refine ⟨k+1,by omega,hJ _ _ _ _ HJ3.out (bN W3 Bs 0 _) (fun r e=>by cases e;rfl),?_,?_,?_,?_⟩
    ·exact (World.cell?_setCell_other W3 (a:=⟨Bs,0,none⟩) (b:=⟨Bp,0,none⟩) _ (fun e=>hps (by injection e with e;exact e.symm))).trans cp3
    ·rw [←KP.out];exact World.cell?_setCell_same' _ _ _ (by rw [Yb];rfl)
    ·rw [World.frozen?_setCell];exact fs3
    ·exact (World.cell?_setCell_other W3 (a:=⟨Bs,0,none⟩) (b:=⟨Bk,0,none⟩) _ (fun e=>hks (by injection e with e;exact e.symm))).trans ck3
   case measure=>
    have e1:rC (W3.setCell ⟨Bs,0,none⟩ (.string (tx R))) Bs=R.length:=by
     unfold rC;rw [World.cell?_setCell_same' _ _ _ (by rw [Yb];rfl)];exact bn _
    rw [e1];unfold rC;rw [Qx.out];show R.length<(tx (val y++32::R)).size;rw [hsz];omega
end Go.Proofs.YtjidohgiigjifaaGreatDoor
end
namespace Go.Proofs.YtjidohgiigjifaaGreatDoor
section
open Go.RowKit Go.Cd Go.Shelf
attribute [local go_sem] Oper.semAt_some
theorem kI (p:List UInt8) (l:List (List UInt8)):bq (p::l)=p++10::bq l:=by simp [bq]
theorem nC:∀(l:List (List UInt8)) (k:Nat),(bq (l.drop k)).length≤(bq l).length
 | l,0=>by simp
 | [],k+1=>by simp
 | p::l,k+1=>by
   have:=nC l k;rw [kI,List.length_append,List.length_cons];simp only [List.drop_succ_cons];omega
theorem Rn (m:Nat) (hm:1≤m) (Bs:Nat) {α:Type} (ys:List α) (val:α→List UInt8) (h10:∀y∈ys,(10:UInt8)∉val y) (hlen:(bq (ys.map val)).length<1000000)
 (w:World) (cs:w.cell? ⟨Bs,0,none⟩=some (.string (tx (bq (ys.map val))))) (fs:w.frozen? ⟨Bs,0,none⟩=false) :
 Ce Fence.wide m Tryz.prog 180 #[.pointer (some ⟨Bs,0,none⟩)] (fun x=>#[.string (tx (val x++[10]))]) [Bs] Bs ys w:=by
 intro l J W hW hJ hY h0;have fs':W.frozen? ⟨Bs,0,none⟩=false:=(hW.frozen (p:=⟨Bs,0,none⟩) (World.block_lt_of_cell? w ⟨Bs,0,none⟩ cs)).trans fs
 replace cs:=aA hW cs
 refine callsIn_of_wp Tryz.func180 rfl trivial ?_ rfl;simp only [Tryz.ntmps180,List.size_toArray,List.length_cons,List.length_nil,Nat.reduceAdd,Nat.reduceSub,Array.replicate_succ,Array.replicate_zero,List.push_toArray,List.append_toArray,List.nil_append,List.cons_append]
 gi_wp2_with fail
 gi_loopw [4] (fun iv wr=>∃k:Nat,k≤ys.length∧J (ys.take k) wr∧wr.cell? ⟨Bs,0,none⟩=some (.string (tx (bq ((ys.drop k).map val))))∧wr.frozen? ⟨Bs,0,none⟩=false) (fun iv wr=>rC wr Bs)
 case atStart=>exact ⟨0,Nat.zero_le _,h0,cs,fs'⟩
 case round=>
  clear cs fs' h0;obtain ⟨k,hk,Rm,cs,fs'⟩:=hrel;by_cases hlast:k=ys.length
  ·have hall:ys.take k=ys:=List.take_of_length_le (by omega);rw [List.drop_of_length_le (by omega)] at cs
   replace cs:wr.cell? ⟨Bs,0,none⟩=some (.string ⟨#[]⟩):=cs
   rw [hall] at Rm;have HJ:=ae Rm;clear Rm hall hlast
   gi_wp2
   refine bodyPost_end (results_none rfl _ _ _) rfl ?_;exact ⟨⟨_,rfl⟩,HJ.out⟩
  ·have hk2:k<ys.length:=by omega
   obtain ⟨y,hye⟩:=af (ys[k]);have hmem:y∈ys:=by rw [hye];exact List.getElem_mem hk2
   have hd:ys.drop k=y::ys.drop (k+1):=by rw [hye];exact List.drop_eq_getElem_cons hk2
   have ht:ys.take (k+1)=ys.take k++[y]:=by rw [hye];exact List.take_succ_eq_append_getElem hk2
   have h3:=h10 y hmem;obtain ⟨R,hR0⟩:=af (bq ((ys.drop (k+1)).map val));have kH:bq ((ys.drop k).map val)=val y++10::R:=by rw [hR0,hd,List.map_cons,kI]
   rw [kH] at cs
   have IX:=ae (show Calls Tryz.prog 181 #[.string (tx (val y++10::R)),.int .u8 10] wr fun e w'=>e=.returned (.int .i64 ((val y).length:Nat))∧w'=wr from by
    have h:=Tryz.strings_IndexByte (tx (val y++10::R)) 10 wr;rw [df,show ((10:Int)).toNat.toUInt8=10 from rfl,jI 10 _ _ h3] at h
    exact h)
   have hsz:(tx (val y++10::R)).size=(val y).length+1+R.length:=by rw [bn,List.length_append,List.length_cons];omega
   have y8:=ae (show (tx (val y++10::R)).extract 0 ((val y).length+1)=tx (val y++[10]) from by
    have:=En (val y++[10]) R;rw [List.append_assoc,List.length_append] at this
    exact this)
   have Ya:=ae (show (tx (val y++10::R)).extract ((val y).length+1) ((val y).length+1+R.length)=tx R from by
    have:=Ns (val y++[10]) R ((val y).length+1) (by simp)
    rwa [List.append_assoc] at this)
   have KP:=ae hR0;obtain ⟨v,hv⟩:=af ((val y).length);rw [←hv] at IX hsz y8 Ya;have ab3:v+1+R.length<1000000:=by
    have h1:=nC (ys.map val) k;rw [←List.map_drop,kH,←bn,hsz] at h1;omega
   have hpos:0<(tx (val y++10::R)).size:=by omega
   have Qx:=ae cs;have HJK:=ae Rm;have U2:=ae ht;have g1:=Gr.cell (ah wr) cs;clear kH hd ht hye hR0 hv Rm
   gi_wp2_with (refine ⟨trivial,?_⟩;gi_at_call 181;refine (callsIn_wide.2 IX.out).mono ?_;rintro e w2 ⟨rfl,rfl⟩)
   refine (wpIn_wide (n:=m)).2 ?_;refine aD #[true,true,true,true,true,true,true,true,true,false] 9 1 mixed (by rfl) ?_;refine ay [0,1,2,3,4,5,6,7,8] 0 rfl (by kernel_rfl) ?_
   iterate 9 (refine aC rfl ?_;go_big_quiet_step (rfl))
   refine ak ?_;refine aI [9] (by kernel_rfl) ?_;refine tail_cons rfl ?_;go_wp2_with fail;refine tail_nil ?_;rw [y8.out,Ya.out];have hJ1:J (ys.take k) (w2.setCell ⟨Bs,0,none⟩ (.string (tx R))).drew:=hJ _ _ _ none (hJ _ _ _ _ HJK.out (bN w2 Bs 0 _) (fun r e=>by cases e;rfl)) ⟨rfl,rfl,rfl,Nat.le_refl _,fun _ _ _=>rfl⟩ (fun r e=>by cases e);obtain ⟨fn,tmps,assign,body,hy,hR⟩:=hY (ys.take k) y _ hJ1 (by rw [List.length_take];omega);rw [←U2.out] at hR;have cs1:(w2.setCell ⟨Bs,0,none⟩ (.string (tx R))).drew.cell? ⟨Bs,0,none⟩=some (.string (tx R)):=World.cell?_setCell_same' _ _ _ (by rw [Qx.out];rfl);have fs1:(w2.setCell ⟨Bs,0,none⟩ (.string (tx R))).drew.frozen? ⟨Bs,0,none⟩=false:=(World.frozen?_setCell ..).trans fs';obtain ⟨Ws,hWs⟩:=af ((w2.setCell ⟨Bs,0,none⟩ (.string (tx R))).drew);rw [←hWs] at hy hR cs1 fs1 ⊢;have HR:=ae hR;have HC0:=ae (show rC w2 Bs=v+1+R.length from by unfold rC;rw [Qx.out];exact hsz);clear hWs hJ1 hR hY g1 cs fs'
   gi_wp2
   refine HR.out.mono ?_;rintro e W3 ⟨rfl,hJ3,hkp⟩;have Yb:=(hkp Bs (by simp)).1.trans cs1;have fs3:=(hkp Bs (by simp)).2.trans fs1;have HJ3:=ae hJ3;clear hkp hJ3 cs1 fs1 hy
   gi_wp2
   go_roundw
   case rel=>exact ⟨k+1,by omega,HJ3.out,by rw [←KP.out];exact Yb,fs3⟩
   case measure=>
    have e1:rC W3 Bs=R.length:=by unfold rC;rw [Yb];exact bn _
    rw [e1,HC0.out];omega
theorem NA (s:ByteArray) (w:World) :
 Calls Tryz.prog 154 #[.string s] w fun e w'=>e=.returned (.func (.func 180) #[] #[.pointer (some ⟨w.heap.size,0,none⟩)])∧w'=w.alloc (.cells #[.string s] 9):=by
 go_enter Tryz.func154,Tryz.ntmps154;go_wp2;go_ret;exact ⟨rfl,rfl⟩
theorem Eo (s p:ByteArray) (w:World) :
 Calls Tryz.prog 260 #[.string s,.string p,.int .i64 0] w fun e w'=>e=.returned (.func (.func 272) #[] #[.pointer (some ⟨w.heap.size+1,0,none⟩),.pointer (some ⟨w.heap.size,0,none⟩),.pointer (some ⟨w.heap.size+2,0,none⟩)])∧w'=((w.alloc (.cells #[.string s] 9)).alloc (.cells #[.string p] 9)).alloc (.cells #[.int .i64 0] 3):=by
 go_enter Tryz.func260,Tryz.ntmps260;go_wp2;go_ret;exact ⟨rfl,rfl⟩
theorem Cf (s p:ByteArray) (w:World) :
 Calls Tryz.prog 239 #[.string s,.string p] w fun e w'=>e=.returned (.func (.func 272) #[] #[.pointer (some ⟨w.heap.size+1,0,none⟩),.pointer (some ⟨w.heap.size,0,none⟩),.pointer (some ⟨w.heap.size+2,0,none⟩)])∧w'=((w.alloc (.cells #[.string s] 9)).alloc (.cells #[.string p] 9)).alloc (.cells #[.int .i64 0] 3):=by
 have SQ:=ae (Eo s p w);go_enter Tryz.func239,Tryz.ntmps239;go_wp2_with fail;refine SQ.out.mono ?_;rintro e w2 ⟨rfl,rfl⟩;go_wp2;go_ret;exact ⟨rfl,rfl⟩
end
open Go.RowKit Go.Cd Go.Shelf
def rD {α:Type} (el:Nat→α) (n k:Nat):List α:=(List.range k).map fun t=>el (n-1-t)
theorem oz {α:Type} (el:Nat→α) (n k:Nat):rD el n (k+1)=rD el n k++[el (n-1-k)]:=by simp [rD,List.range_succ]
theorem Er {α:Type} (el:Nat→α) (n k:Nat):(rD el n k).length=k:=by simp [rD]
def jJ (p q:Nat) (A B:World):Prop:=B.heap[p]? = A.heap[p]?∧B.heap[q]? = A.heap[q]?
theorem jJ.refl (p q:Nat) (A:World):jJ p q A A:=⟨rfl,rfl⟩
theorem jJ.trans {p q:Nat} {A B C:World} (h:jJ p q A B) (k:jJ p q B C):jJ p q A C:=⟨k.1.trans h.1,k.2.trans h.2⟩
theorem jJ.cellP {p q:Nat} {A B:World} (h:jJ p q A B) (o:Nat):B.cell? ⟨p,o,none⟩=A.cell? ⟨p,o,none⟩:=World.cell?_of_block h.1
theorem jJ.Yc {p q:Nat} {A B:World} (h:jJ p q A B) (o:Nat):B.cell? ⟨q,o,none⟩=A.cell? ⟨q,o,none⟩:=World.cell?_of_block h.2
theorem jK {P:Program} {f:FuncId} {fn:Func} {c:Code} {args:Array Value} {w:World} {R:Ending→World→Prop} (hf:P.funcs[f]? = some fn) (hb:fn.body=some c)
 (h:c.wp P (bodyPostM Fence.wide 5 P fn R) { tmps:=args++Array.replicate (fn.ntmps-args.size) undef,defers:=[] } w):Calls P f args w R:=
 (callsIn_wide (n:=5)).1 (callsIn_of_wp_marks hf hb trivial (wpIn_wide.2 h) rfl)
theorem own_ne {W:World} {base:Nat} {e:TypeId} {size:Nat} {v:Value} {n:Nat} {xs:List Value} (h:W.ownsRow base e size v n xs) {k:Nat} {cs:Array Value} {T:TypeId} {fr:Nat×Nat} (hk:W.heap[k]? = some (.cells cs T fr)) (hT:T≠e):v.ownBlock≠some k:=by
 intro he;rcases h.2 with ⟨h,_⟩|⟨g',_,cur,h,_,h2,_⟩
 ·rw [h] at he;cases he
 ·rw [h] at he;cases he;rw [hk] at h2;cases h2;exact hT rfl
theorem pM {A B:World} {row:Option Nat} (hg:A.grownBy B row) (hr:∀r,row=some r→∃o:Obj,A.heap[r]? = some o∧o.isCells=false) {k:Nat} {cs:Array Value} {T:TypeId} {fr:Nat×Nat} (h:A.heap[k]? = some (.cells cs T fr)):B.heap[k]? = some (.cells cs T fr):=by
 refine (hg.block k (block_lt h) (fun e=>?_)).trans h;obtain ⟨o,ho,hc⟩:=hr k e.symm;rw [h] at ho;cases ho;cases hc
theorem Ro {A B:World} {row:Option Nat} (hg:A.grownBy B row) (hr:∀r,row=some r→∃o:Obj,A.heap[r]? = some o∧o.isCells=false) {base:Nat} {e:TypeId} {size:Nat} {v:Value} {n:Nat} {xs:List Value} (h:A.ownsRow base e size v n xs):B.ownsRow base e size v n xs:=by
 obtain ⟨h1,h2⟩:=h;refine ⟨h1,h2.imp id ?_⟩;rintro ⟨g,cap,cur,hv,hb,hh,r⟩;exact ⟨g,cap,cur,hv,hb,pM hg hr hh,r⟩
theorem lM {w:World} {base base':Nat} {e:TypeId} {size:Nat} {v:Value} {n:Nat} {xs:List Value} (h:w.ownsRow base e size v n xs) (hb:base'≤base):w.ownsRow base' e size v n xs:=by
 obtain ⟨h1,h2⟩:=h;refine ⟨h1,h2.imp id ?_⟩;rintro ⟨g,cap,cur,hv,hg,r⟩;exact ⟨g,cap,cur,hv,Nat.le_trans hb hg,r⟩
end Go.Proofs.YtjidohgiigjifaaGreatDoor
