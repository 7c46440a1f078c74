/- Texts that are alike cost, and count, the same; no condition. -/
import Derived.Test.YtmnimbnojdndmaaGreatDoorU03
import Derived.Sort.Walk13
import Derived.Sort.WalkA14
import Derived.Sort.AssemblyPlain
import Derived.Shelf.SlicesE.Compact
import Derived.Shelf.SlicesE.Index
import Derived.Lib.SlicesCompact
import Derived.RangeFuncBox
import Derived.RangeFuncLeaves
import Derived.RangeFuncWrites
import Derived.Shelf.Abstract
import Derived.OwnWalkIn
import Derived.TacticsInMore
import Derived.LoopNIn
import Derived.LoopIn
import Derived.Laws.IdiomStrings
import Derived.OwnWalk
set_option maxRecDepth 100000
set_option maxHeartbeats 6400000
set_option linter.all false
namespace Go.Proofs.YtmnimbnojdndmaaGreatDoor
open Go.Sort Go.RowKit _root_.Go.Proofs.Tryz
structure Ev:Prop where
 ins:∀(blk off cap a b:Nat) (d:Array Int) (w:World),Holds encR w blk off d->a<=b->b<=d.size->d.size<4611686018427387904->
  Calls prog 135 #[.slice (some ⟨blk,off,none⟩) d.size cap,.int .i64 a,.int .i64 b] w λe w'=>e=.returned (.tuple #[])/\∃n,w'=putRow encR (Sort.ahead w n) blk off (insertionSort ltInt d a b)
 brk:∀(blk off cap a b:Nat) (d:Array Int) (w:World),Holds encR w blk off d->blk<w.heap.size->a<=b->b<=d.size->d.size<4611686018427387904->
  Calls prog 137 #[.slice (some ⟨blk,off,none⟩) d.size cap,.int .i64 a,.int .i64 b] w λe w'=>e=.returned (.tuple #[])/\∃n os,w'=grow (putRow encR (Sort.ahead w n) blk off (breakPatterns d a b)) os
 piv:∀(blk off cap a b:Nat) (d:Array Int) (w:World),Holds encR w blk off d->blk<w.heap.size->a<b->b<=d.size->d.size<4611686018427387904->
  Calls prog 138 #[.slice (some ⟨blk,off,none⟩) d.size cap,.int .i64 a,.int .i64 b] w λe w'=>e=.returned (.tuple #[.int .i64 (choosePivot ltInt d a b).1,.int .i64 (hintCode (choosePivot ltInt d a b).2)])/\∃n os,w'=grow (Sort.ahead w n) os
 par:∀(blk off cap a b:Nat) (d:Array Int) (w:World),Holds encR w blk off d->a<b->b<=d.size->d.size<4611686018427387904->
  Calls prog 140 #[.slice (some ⟨blk,off,none⟩) d.size cap,.int .i64 a,.int .i64 b] w λe w'=>e=.returned (.bool (partialInsertionSort ltInt d a b).2)/\∃n,w'=putRow encR (Sort.ahead w n) blk off (partialInsertionSort ltInt d a b).1
 peq:∀(blk off cap a b pivot:Nat) (d:Array Int) (w:World),Holds encR w blk off d->a<=pivot->pivot<b->b<=d.size->d.size<4611686018427387904->
  Calls prog 142 #[.slice (some ⟨blk,off,none⟩) d.size cap,.int .i64 a,.int .i64 b,.int .i64 pivot] w λe w'=>e=.returned (.int .i64 (partitionEqual ltInt d a b pivot).1)/\∃n,w'=putRow encR (Sort.ahead w n) blk off (partitionEqual ltInt d a b pivot).2
 prt:∀(blk off cap a b pivot:Nat) (d:Array Int) (w:World),Holds encR w blk off d->a<=pivot->pivot<b->b<=d.size->d.size<4611686018427387904->
  Calls prog 143 #[.slice (some ⟨blk,off,none⟩) d.size cap,.int .i64 a,.int .i64 b,.int .i64 pivot] w λe w'=>e=.returned (.tuple #[.int .i64 (partition ltInt d a b pivot).1,.bool (partition ltInt d a b pivot).2.1])/\∃n,w'=putRow encR (Sort.ahead w n) blk off (partition ltInt d a b pivot).2.2
structure Qb:Prop where
 swo:SWO ltInt
 ins:insertionSort_stmt ltInt
 par:partialInsertionSort_stmt ltInt
 prt:partition_stmt ltInt
 peq:partitionEqual_stmt ltInt
 pdq:pdq_stmt ltInt
def AV (C:Ev) (S:Qb):∀(N o off cap a b limit:Nat) (d:Array Int) (w:World),b-a<N->Holds encR w o off d->o<w.heap.size->a<=b->b<=d.size->d.size<4611686018427387904->limit<4611686018427387904->Below ltInt a b d->
 Calls prog 98 #[.slice (some ⟨o,off,none⟩) d.size cap,.int .i64 a,.int .i64 b,.int .i64 limit] w λe w'=>e=.returned (.tuple #[])/\At encR w o off (pdq ltInt d a b limit true true) w':=by
 intro N
 induction N with
 | zero=>intro _ _ _ _ _ _ _ _ h;exact absurd h (tU _)
 | succ N ih=>
   intro o off cap a b limit d w hN T l aE hb aP z ab;go_enter func98,ntmps98;go_wp2
   go_loopg [1,2,3,8,9] (b-a) (λk s1 s2 s3 s8 s9 wr=>∃(g i f:Nat) (wb wp:Bool) (j:Array Int),s1=.int .i64 g/\s2=.int .i64 i/\s3=.int .i64 f/\s8=.bool wb/\s9=.bool wp/\
    g<=i/\i<=d.size/\i-g<=k/\k<=b-a/\f<=limit/\j.size=d.size/\Below ltInt g i j/\At encR w o off j wr/\pdq ltInt j g i f wb wp=pdq ltInt d a b limit true true)
   case atStart=>exact⟨a,b,limit,true,true,d,rfl,rfl,rfl,rfl,rfl,aE,hb,gw _,gw _,gw _,rfl,ab,At.refl T,rfl⟩
   case round=>
    obtain⟨g,i,f,wb,wp,j,rfl,rfl,rfl,rfl,rfl,q,aH,hk,aN,u,p,al,L,av⟩:=hrel;obtain⟨aa,ad⟩:=L.holds T p l;have A:Aside (pdq ltInt j g i f wb wp=pdq ltInt d a b limit true true):=av;clear av;by_cases D:i-g<=12
    ·
     have aw:(i:Int)-(g:Int)<=12:=by omega
     have hc:=C.ins o off cap g i j wr aa q (by omega) (by omega);rw[p] at hc;go_wp2_with (go_at_call 135;refine hc.mono ?_;rintro e w1⟨rfl,E⟩)
     (try simp only[Exit.inBlock,Exit.then]);refine bodyPost_ret (results_none rfl _ _ _) rfl ?_
     refine⟨rfl,?_⟩;rw[<-A.out,pdq_small D];exact L.step l (S.ins S.swo j g i q (by omega)).1.1 E
    have aw:¬((i:Int)-(g:Int)<=12):=by omega
    by_cases M:f=0
    ·
     subst M;have hc:=Aa o off d.size cap j p g i wr aa q (by omega) (by omega);go_wp2_with (go_at_call 136;refine hc.mono ?_;rintro e w1⟨rfl,E⟩)
     (try simp only[Exit.inBlock,Exit.then]);refine bodyPost_ret (results_none rfl _ _ _) rfl ?_
     refine⟨rfl,?_⟩;rw[<-A.out,pdq_heap D rfl];exact L.step l (heapSort_holds S.swo j g i q (by omega)).1.1 E
    have aM:¬((f:Int)=0):=by omega
    obtain⟨s1,B1,aO,s2,B2,s,s3,B3⟩:=rd_facts (limit:=f) (wb:=wb) (wp:=wp) S.swo S.par reverseRange_holds (show g<i by omega) (show i<=j.size by omega) al;go_upto_if 35 with fail;go_cut [3] from 19 (λs3 wc=>s3=.int .i64 (rd ltInt j g i f wb wp).lim/\At encR w o off (rd ltInt j g i f wb wp).d1 wc)
    case first=>
     cases wb
     ·have hc:=C.brk o off cap g i j wr aa ad q (by omega) (by omega);rw[p] at hc;go_wp2_with (go_at_call 137;refine hc.mono ?_;rintro e w1⟨rfl,E⟩);go_meet
      case rel=>
       refine⟨?_,L.stepG l s1 E⟩;show Value.int .i64 ((f:Int)-1)=Value.int .i64 ((f-1:Nat):Int);congr 1;omega
     go_wp2_with fail;go_meet
     case rel=>exact⟨rfl,L⟩
    case rest=>
     obtain⟨rfl,W⟩:=hcut;obtain⟨aI,aj⟩:=W.holds T (s1.trans p) l;have ar:Calls prog 138 #[.slice (some ⟨o,off,none⟩) d.size cap,.int .i64 g,.int .i64 i] wc λe w'=>e=.returned (.tuple #[.int .i64 (rd ltInt j g i f wb wp).c.1,.int .i64 (hintCode (rd ltInt j g i f wb wp).c.2)])/\∃n os,w'=grow (Sort.ahead wc n) os:=by
      have:=C.piv o off cap g i (rd ltInt j g i f wb wp).d1 wc aI aj (by omega) (by omega) (by omega);rw[s1,p] at this;exact this
     go_upto_if 50 with (go_at_call 138;refine ar.mono ?_;rintro e w2⟨rfl,aC⟩);have F:At encR w o off (rd ltInt j g i f wb wp).d1 w2:=W.same T (s1.trans p) l aC;obtain⟨aF,ax⟩:=F.holds T (s1.trans p) l;go_cut [11,12] from 19 (λs11 s12 wc=>s11=.int .i64 (rd ltInt j g i f wb wp).pivot/\s12=.int .i64 (hintCode (rd ltInt j g i f wb wp).hint)/\At encR w o off (rd ltInt j g i f wb wp).d2 wc)
     case first=>
      by_cases hh:(rd ltInt j g i f wb wp).c.2=.decreasing
      ·have ae:hintCode (rd ltInt j g i f wb wp).c.2=2:=by rw[hh];rfl
       obtain⟨e2,af,ag⟩:=rd_dec hh;have Y:=sM o off cap (rd ltInt j g i f wb wp).d1 g i w2 aF q (by omega) (by omega);rw[s1,p] at Y;go_wp2_with (go_at_call 139;refine Y.mono ?_;rintro e w3⟨rfl,az⟩);go_meet
       case rel=>
        refine⟨?_,by rw[ag];rfl,by rw[e2];exact F.step l (by rw[<-e2,s2,s1]) az⟩;rw[af];congr 1;omega
      have ae:¬(hintCode (rd ltInt j g i f wb wp).c.2=2):=λh=>hh (hintCode_two h);obtain⟨e2,af,ag⟩:=rd_not hh;go_wp2_with fail;go_meet
      case rel=>exact⟨by rw[af],by rw[ag],by rw[e2];exact F⟩
     case rest=>
      obtain⟨rfl,rfl,y⟩:=hcut;obtain⟨aA,ay⟩:=y.holds T (s2.trans p) l;go_upto_region 15 with fail;go_cut [12,68] from 19 (λs12 s68 wx=>s12=.int .i64 (hintCode (rd ltInt j g i f wb wp).hint)/\s68=.bool (wb&&wp&&decide ((rd ltInt j g i f wb wp).hint=.increasing))/\wx=wc)
      case first=>
       cases wb <;> cases wp <;> cases ac:(rd ltInt j g i f _ _).hint <;>
        (have P:=congrArg hintCode ac
         simp only[hintCode] at P;go_wp2_with fail;go_meet
         exact⟨by simp[ac,hintCode],by simp[ac,hintCode],rfl⟩)
      case rest=>
       obtain⟨rfl,rfl,rfl⟩:=hcut;go_upto_if 68 with fail;go_cut [] from 19 (λwx=>(rd ltInt j g i f wb wp).pi.2=false/\At encR w o off (rd ltInt j g i f wb wp).pi.1 wx)
       case first=>
        cases au:(wb&&wp&&decide ((rd ltInt j g i f wb wp).hint=.increasing))
        ·have B:=rd_pi_no au;go_wp2_with fail;go_meet
         case rel=>exact⟨by rw[B],by rw[B];exact y⟩
        have B:=rd_pi_yes au;have U:=C.par o off cap g i (rd ltInt j g i f wb wp).d2 wc aA (by omega) (by omega) (by omega);rw[s2,p,<-B] at U;go_wp2_with (go_at_call 140;refine U.mono ?_;rintro e w4⟨rfl,ao⟩)
        all_goals first
         | (have v:(rd ltInt j g i f wb wp).pi.2=false:=by rw[B];assumption
            go_meet
            exact⟨v,y.step l (by rw[s3,s2]) ao⟩)
         | (have v:(rd ltInt j g i f wb wp).pi.2=true:=by rw[B];assumption
            (try simp only[Exit.inBlock,Exit.then]);refine bodyPost_ret (results_none rfl _ _ _) rfl ?_
            refine⟨rfl,?_⟩;rw[<-A.out,pdq_done D M v]
            exact y.step l (by rw[s3,s2]) ao)
       case rest=>
        obtain⟨v,O⟩:=hcut;obtain⟨ak,aG⟩:=O.holds T (s3.trans p) l;have aD:∀t,t<d.size->wc.cell? ⟨o,off+t,none⟩=some (.int .i32 (rd ltInt j g i f wb wp).pi.1[t]!):=λt ht=>(ak t (by omega)).1;have aB:∀t,t<d.size->wc.frozen? ⟨o,off+t,none⟩=false:=λt ht=>(ak t (by omega)).2;go_upto_region 17 with fail;go_cut [87] from 19 (λs87 wx=>s87=.bool (decide (g > 0)&&!ltInt (rd ltInt j g i f wb wp).pi.1[g-1]! (rd ltInt j g i f wb wp).pi.1[(rd ltInt j g i f wb wp).pivot]!)/\At encR w o off (rd ltInt j g i f wb wp).pi.1 wx)
        case first=>
         rcases pH g with ha0|ha0
         ·have aq:decide ((g:Int) > 0)=false:=decide_eq_false (by omega);go_big_quiet (first|(go_at_call 141;refine ju (aK _ _ _)));go_wp2_with fail;go_meet
          case rel=>exact⟨by simp[ha0],O.ahead nq⟩
         have aq:(g:Int) > 0:=by omega
         go_big_quiet (first|(go_at_call 141;refine ju (aK _ _ _)));go_wp2_with fail;go_meet
         case rel=>exact⟨by simp[ha0],O.ahead nq⟩
        case rest=>
         obtain⟨rfl,H⟩:=hcut;obtain⟨am,aJ⟩:=H.holds T (s3.trans p) l;clear aD aB;cases Q:(decide (g > 0)&&!ltInt (rd ltInt j g i f wb wp).pi.1[g-1]! (rd ltInt j g i f wb wp).pi.1[(rd ltInt j g i f wb wp).pivot]!)
         ·
          obtain⟨m,ap,x,r⟩:∃m ap x,partition ltInt (rd ltInt j g i f wb wp).pi.1 g i (rd ltInt j g i f wb wp).pivot=(m,ap,x):=⟨(partition ltInt (rd ltInt j g i f wb wp).pi.1 g i (rd ltInt j g i f wb wp).pivot).1,(partition ltInt (rd ltInt j g i f wb wp).pi.1 g i (rd ltInt j g i f wb wp).pivot).2.1,(partition ltInt (rd ltInt j g i f wb wp).pi.1 g i (rd ltInt j g i f wb wp).pivot).2.2,rfl⟩;obtain⟨r1,r2,R,r4,r5,r6,r7⟩:=round_part S.swo S.prt s.1 s.2 (show i<=(rd ltInt j g i f wb wp).pi.1.size by omega) B3 r;have Z:=C.prt o off cap g i (rd ltInt j g i f wb wp).pivot (rd ltInt j g i f wb wp).pi.1 wc am s.1 s.2 (by omega) (by omega);rw[s3,p,r] at Z;have X:Aside (partition ltInt (rd ltInt j g i f wb wp).pi.1 g i (rd ltInt j g i f wb wp).pivot=(m,ap,x)):=r;clear r;go_upto_if 113 with (go_at_call 143;refine Z.mono ?_;rintro e w7⟨rfl,ai⟩);have r:=X.out;have J:At encR w o off x w7:=H.step l R ai;obtain⟨an,I⟩:=J.holds T (R.trans (s3.trans p)) l;by_cases h4:m-g<i-m
          ·have aL:(m:Int)-(g:Int)<(i:Int)-(m:Int):=by omega
           have G:=ih o off cap g m (rd ltInt j g i f wb wp).lim x w7 (by omega) an I (by omega) (by omega) (by omega) (lf (gS rd_lim_le u) z) r4;rw[R,s3,p] at G;obtain⟨pL,sL⟩:=S.pdq S.swo x g m (rd ltInt j g i f wb wp).lim true true (by omega) (by omega) r4;go_wp2_with (go_at_call 98;refine G.mono ?_;rintro e w8⟨rfl,ah⟩)
           go_roundg (i-(m+1))
           case measure=>omega
           case rel=>
            refine⟨m+1,i,(rd ltInt j g i f wb wp).lim,decide (m-g≥(i-g) / 8),ap,pdq ltInt x g m (rd ltInt j g i f wb wp).lim true true,by simp,rfl,rfl,?_,rfl,by omega,by omega,gw _,by omega,gS rd_lim_le u,by rw[pL.1,R,s3,p],(r6 _ pL sL).1,J.stepG l pL.1 ah,?_⟩
            ·exact congrArg Value.bool (eighth (by omega) (by omega))
            rw[<-A.out,pdq_left D M v Q (by rw[r];exact⟨r1,r2⟩) (by rw[r];exact h4),r]
          have aL:¬((m:Int)-(g:Int)<(i:Int)-(m:Int)):=by omega
          have G:=ih o off cap (m+1) i (rd ltInt j g i f wb wp).lim x w7 (by omega) an I (by omega) (by omega) (by omega) (lf (gS rd_lim_le u) z) r5;rw[R,s3,p] at G;obtain⟨pL,sL⟩:=S.pdq S.swo x (m+1) i (rd ltInt j g i f wb wp).lim true true (by omega) (by omega) r5;go_wp2_with (go_at_call 98;refine G.mono ?_;rintro e w8⟨rfl,ah⟩)
          go_roundg (m-g)
          case measure=>omega
          case rel=>
           refine⟨g,m,(rd ltInt j g i f wb wp).lim,decide (i-m≥(i-g) / 8),ap,pdq ltInt x (m+1) i (rd ltInt j g i f wb wp).lim true true,rfl,rfl,rfl,?_,rfl,by omega,by omega,gw _,by omega,gS rd_lim_le u,by rw[pL.1,R,s3,p],(r7 _ pL sL).1,J.stepG l pL.1 ah,?_⟩
           ·exact congrArg Value.bool (eighth (by omega) (by omega))
           rw[<-A.out,pdq_right D M v Q (by rw[r];exact⟨r1,r2⟩) (by rw[r];exact h4),r]
         ·
          have K:=Q;simp only[jn,decide_eq_true_eq,Bool.not_eq_true'] at K;obtain⟨m,x,r⟩:∃m x,partitionEqual ltInt (rd ltInt j g i f wb wp).pi.1 g i (rd ltInt j g i f wb wp).pivot=(m,x):=⟨(partitionEqual ltInt (rd ltInt j g i f wb wp).pi.1 g i (rd ltInt j g i f wb wp).pivot).1,(partitionEqual ltInt (rd ltInt j g i f wb wp).pi.1 g i (rd ltInt j g i f wb wp).pivot).2,rfl⟩;obtain⟨r1,r2,R,r4,_⟩:=round_eq S.swo S.peq K.1 s.1 s.2 (show i<=(rd ltInt j g i f wb wp).pi.1.size by omega) B3 K.2 r;have V:=C.peq o off cap g i (rd ltInt j g i f wb wp).pivot (rd ltInt j g i f wb wp).pi.1 wc am s.1 s.2 (by omega) (by omega);rw[s3,p,r] at V;have X:Aside (partitionEqual ltInt (rd ltInt j g i f wb wp).pi.1 g i (rd ltInt j g i f wb wp).pivot=(m,x)):=r;clear r;go_wp2_with (go_at_call 142;refine V.mono ?_;rintro e w7⟨rfl,ai⟩)
          go_roundg (i-m)
          case measure=>omega
          case rel=>
           have r:=X.out;exact⟨m,i,(rd ltInt j g i f wb wp).lim,wb,wp,x,rfl,rfl,rfl,rfl,rfl,r2,aH,gw _,by omega,gS rd_lim_le u,by rw[R,s3,p],r4,H.step l R ai,by rw[<-A.out,pdq_eq D M v Q (by rw[r];exact⟨r1,r2⟩),r]⟩
end Go.Proofs.YtmnimbnojdndmaaGreatDoor
namespace Go.Proofs.YtmnimbnojdndmaaGreatDoor
open Go.RowKit Go.Sort _root_.Go.Proofs.Tryz
def yX:Prop:=∀(c off cap a b limit:Nat) (d:Array Int) (w:World),Holds (Value.int .i32) w c off d->c<w.heap.size->a<=b->b<=d.size->d.size<4611686018427387904->limit<4611686018427387904->Below ltInt a b d->
 Calls prog 98 #[.slice (some ⟨c,off,none⟩) d.size cap,.int .i64 a,.int .i64 b,.int .i64 limit] w λe w'=>
  e=.returned (.tuple #[])/\∃n os,w'=grow (putRow (Value.int .i32) (Sort.ahead w n) c off (Sort.pdq ltInt d a b limit true true)) os
def Jv (f:yX) (a off cap:Nat) (d:Array Int) (w:World) (i:Holds (Value.int .i32) w a off d) (c:a<w.heap.size) (g:d.size<4611686018427387904) :
 Calls prog 66 #[.slice (some ⟨a,off,none⟩) d.size cap] w λe w'=>e=.returned (.tuple #[])/\∃n os,w'=grow (putRow (Value.int .i32) (Sort.ahead w n) a off (Sort.sort ltInt d)) os:=by
 have j:Hid (Holds (Value.int .i32) w a off d):=i;clear i;have b:∀w,Calls prog 99 #[.int .u64 (d.size:Int)] w λe w'=>e=.returned (.int .i64 (bitsLen d.size:Nat))/\w'=w:=λw=>by
  have h:=Tryz.bits_Len (d.size:Int) w (by omega) (by omega)
  rwa [oT,bitLen_eq _ (by omega)] at h
 have:bitsLen d.size<=62:=(bitsLen_le_iff d.size 62).2 (by omega);go_enter func66,ntmps66
 go_wp2_with (first
  | (go_at_call 99;refine(b _).mono ?_;rintro e w'⟨rfl,rfl⟩)
  | (go_at_call 98;refine(f a off cap 0 d.size (bitsLen d.size) d _ (by exact j.out) (by exact c) (gW _) (gw _) g (by omega) (Or.inl rfl)).mono ?_;rintro e w'⟨rfl,n,os,rfl⟩))
 go_end0
 exact⟨rfl,n,os,rfl⟩
def nK (p:Option Addr) (cap:Nat) (w:World) :
 Calls prog 135 #[.slice p 0 cap,.int .i64 0,.int .i64 0] w λe w'=>e=.returned (.tuple #[])/\w'=w:=by
 go_enter func135,ntmps135;go_wp2;refine wp_loop_rounds 1 ?_;rw[rounds_succ];go_wp2
 go_end0
 exact⟨rfl,rfl⟩
def uu (p:Option Addr) (cap:Nat) (w:World) :
 Calls prog 98 #[.slice p 0 cap,.int .i64 0,.int .i64 0,.int .i64 0] w λe w'=>e=.returned (.tuple #[])/\w'=w:=by
 go_enter func98,ntmps98;go_wp2;refine wp_loop_rounds 1 ?_;rw[rounds_succ];go_wp2_with (first|(go_at_call 135;refine(nK p cap _).mono ?_;rintro e w'⟨rfl,rfl⟩));refine bodyPost_ret (results_none rfl _ _ _) rfl ?_;exact⟨rfl,rfl⟩
def Ab (p:Option Addr) (cap:Nat) (w:World) :
 Calls prog 66 #[.slice p 0 cap] w λe w'=>e=.returned (.tuple #[])/\w'=w:=by
 have a:∀w,Calls prog 99 #[.int .u64 0] w λe w'=>e=.returned (.int .i64 0)/\w'=w:=λw=>Tryz.bits_Len 0 w (by omega) (by omega);go_enter func66,ntmps66
 go_wp2_with (first
  | (go_at_call 99;refine(a _).mono ?_;rintro e w'⟨rfl,rfl⟩)
  | (go_at_call 98;refine(uu p cap _).mono ?_;rintro e w'⟨rfl,rfl⟩))
 go_end0
 exact⟨rfl,rfl⟩
def GD:Ev where
 ins:=qC
 brk:=qD
 piv:=uq
 par:=kH
 peq:=j4
 prt:=nV
def Nc:Qb where
 swo:=swo_ltInt
 ins:=insertionSort_holds
 par:=partialInsertionSort_holds
 prt:=partition_holds _
 peq:=partitionEqual_holds _
 pdq:=pdq_sorts _
def Nf:yX:=λf off cap a b limit d w h j g e c i k=>
 AV GD Nc (b-a+1) f off cap a b limit d w (by omega) h j g e c i k
def sort_int_eq (zs:List Int):Sort.sort ltInt zs.toArray=(zs.mergeSort λx y=>decide (x<=y)).toArray:=by
 rw[<-sortInt zs]
def uw (a off cap:Nat) (zs:List Int) (w:World) (d:Holds (Value.int .i32) w a off zs.toArray) (b:a<w.heap.size) (c:zs.length<4611686018427387904) :
 Calls prog 66 #[.slice (some ⟨a,off,none⟩) zs.length cap] w λe w'=>
  e=.returned (.tuple #[])/\∃n os,w'=grow (putRow (Value.int .i32) (Sort.ahead w n) a off (zs.mergeSort λx y=>decide (x<=y)).toArray) os:=by
 have h:=Jv Nf a off cap zs.toArray w d b (by simpa using c);rw[sort_int_eq] at h;simpa using h
end Go.Proofs.YtmnimbnojdndmaaGreatDoor
namespace Go.Proofs
open Go.Shelf _root_.Go.Proofs.Tryz
def Tryz.AX:Go.Shelf.Ren:=⟨fun|41=>102|n=>n,fun|22=>35|23=>21|4=>4|n=>n,fun|n=>n⟩
def Tryz.AY:Go.Proofs.SlLaysE0.n41 prog Tryz.AX:={
 mixed:=by kernel_rfl
 f41:=⟨Tryz.f102.name,by decide,func102.trans (congrArg some (by kernel_rfl))⟩
 t4:=underlying4
 a4:=isAgg4
 z4:=sizeOf4
 v4:=zeroValue4
 t22:=underlying35
 a22:=isAgg35
 z22:=sizeOf35
 v22:=zeroValue35 }
def Tryz.xP:Go.Shelf.Ren:=⟨fun|43=>162|n=>n,fun|22=>35|23=>21|3=>3|4=>4|0=>0|n=>n,fun|n=>n⟩
def Tryz.GG:Go.Proofs.SlLaysE.n43 prog Tryz.xP:={
 mixed:=by kernel_rfl
 f43:=⟨Tryz.f162.name,by decide,func162.trans (congrArg some (by kernel_rfl))⟩
 t0:=underlying0
 a0:=isAgg0
 z0:=sizeOf0
 v0:=zeroValue0
 t3:=underlying3
 a3:=isAgg3
 z3:=sizeOf3
 v3:=zeroValue3
 t4:=underlying4
 a4:=isAgg4
 z4:=sizeOf4
 v4:=zeroValue4
 t22:=underlying35
 a22:=isAgg35
 z22:=sizeOf35
 v22:=zeroValue35
 a23:=isAgg21
 z23:=sizeOf21 }
def Tryz.vT:Go.Shelf.Ren:=⟨fun|31=>189|29=>224|n=>n,fun|22=>35|23=>21|4=>4|3=>3|0=>0|n=>n,fun|n=>n⟩
def Tryz.tC:Go.Proofs.SlLaysE.n31 prog Tryz.vT:={
 mixed:=by kernel_rfl
 f29:=⟨Tryz.f224.name,by decide,func224.trans (congrArg some (by kernel_rfl))⟩
 f31:=⟨Tryz.f189.name,by decide,func189.trans (congrArg some (by kernel_rfl))⟩
 t0:=underlying0
 a0:=isAgg0
 z0:=sizeOf0
 v0:=zeroValue0
 t3:=underlying3
 a3:=isAgg3
 z3:=sizeOf3
 v3:=zeroValue3
 t4:=underlying4
 a4:=isAgg4
 z4:=sizeOf4
 v4:=zeroValue4
 t22:=underlying35
 a22:=isAgg35
 z22:=sizeOf35
 v22:=zeroValue35
 a23:=isAgg21
 z23:=sizeOf21 }
end Go.Proofs
namespace Go.Cd
open Go.Lib
def b_ (l:List Nat):List Nat:=l.mergeSort λx y=>decide (x<=y)
def oP (l:List Nat):(b_ l).Perm l:=List.mergeSort_perm l _
def xQ {l:List Nat} {x:Nat}:x∈b_ l↔x∈l:=(oP l).mem_iff
def fP (l:List Nat):(b_ l).length=l.length:=(oP l).length_eq
def UJ (l:List Nat):(b_ l).Pairwise (·<=·):=by
 have:=List.pairwise_mergeSort (le:=λx y:Nat=>decide (x<=y)) (λa b c e d=>by simp at *;omega) (λa b=>by simp;omega) l;exact this.imp λh=>by simpa using h
def Ew (l:List Nat):List Nat:=compactUpTo l.toArray l.length
def Q4 (d:Array Nat) (m:Nat):compactUpTo d (m+1)=compactUpTo d m++if keeps d m then [d[m]!] else []:=by
 unfold compactUpTo;rw[tf,n8,js];by_cases h:keeps d m=true
 ·simp[h]
 simp[h]
def Jw (d:Array Nat) (g:∀i k,i<k->k<d.size->d[i]!<=d[k]!):∀m,m<=d.size->
 (compactUpTo d m).Pairwise (· < ·)/\(∀x,x∈compactUpTo d m↔∃j,j<m/\d[j]! = x)
 | 0,_=>by
   have e:compactUpTo d 0=[]:=rfl;rw[e];exact⟨List.Pairwise.nil,λx=>by simp⟩
 | m+1,hm=>by
   obtain⟨p,o⟩:=Jw d g m (by omega);rw[Q4];by_cases c:keeps d m=true
   ·rw[if_pos c];have l:∀x∈compactUpTo d m,x<d[m]!:=by
     intro x n;obtain⟨j,f,rfl⟩:=(o x).1 n;have t:=g j m f (by omega);rcases j' (d[j]!) (d[m]!) with h4|h4
     ·exact h4
     exfalso;have:=Nat.le_antisymm t h4;have r:d[m-1]! = d[m]!:=by
      have:d[j]!<=d[m-1]!:=by
       rcases j' j (m-1) with h|h
       ·exact g _ _ h (by omega)
       rw[show j=m-1 by omega];exact gw _
      have:=g (m-1) m (by omega) (by omega);omega
     unfold keeps at c;simp only[lR,decide_eq_true_eq] at c;rcases c with c|c
     ·omega
     simp[r] at c
    refine⟨lk.2 ⟨p,rK _ _,λa q b s=>by rw[gC.1 s];exact l a q⟩,λx=>?_⟩;rw[gR,o];constructor
    ·rintro (⟨j,f,e⟩|n)
     ·exact⟨j,by omega,e⟩
     exact⟨m,by omega,(gC.1 n).symm⟩
    rintro⟨j,f,e⟩;rcases j' j m with h|h
    ·exact .inl ⟨j,h,e⟩
    obtain rfl:j=m:=by omega
    exact .inr (by simp[e])
   rw[if_neg c,lE];refine⟨p,λx=>?_⟩;rw[o];constructor
   ·rintro⟨j,f,e⟩;exact⟨j,by omega,e⟩
   rintro⟨j,f,e⟩;rcases j' j m with h|h
   ·exact⟨j,h,e⟩
   obtain rfl:j=m:=by omega
   unfold keeps at c;have:0<j:=by
    rcases pH j with h0|h0
    ·simp[h0] at c
    exact h0
   simp at c;exact⟨j-1,by omega,by rw[<-e];exact c.2.symm⟩
def gu (l:List Nat):List Nat:=Ew (b_ l)
def lq (l:List Nat):(gu l).Pairwise (· < ·)/\(∀x,x∈gu l↔x∈l):=by
 have f:∀i k,i<k->k<(b_ l).toArray.size->(b_ l).toArray[i]!<=(b_ l).toArray[k]!:=by
  intro i k c d;have b:k<(b_ l).length:=by simpa using d
  rw[getElem!_pos (b_ l).toArray i (by simpa using yW c b),getElem!_pos (b_ l).toArray k d];simp only[List.getElem_toArray];exact re.1 (UJ l) i k (by omega) b c
 obtain⟨c,d⟩:=Jw (b_ l).toArray f (b_ l).length (by simp);refine⟨c,λx=>?_⟩;show x∈compactUpTo _ _↔_;rw[d,<-xQ (l:=l),lB];constructor
 ·rintro⟨j,a,e⟩;refine⟨j,a,?_⟩;rw[<-e,getElem!_pos (b_ l).toArray j (by simpa using a)];simp
 rintro⟨j,a,e⟩;refine⟨j,a,?_⟩;rw[<-e,getElem!_pos (b_ l).toArray j (by simpa using a)];simp
def Jy (d:Array Nat) (m:Nat):(compactUpTo d m).length<=m:=by
 unfold compactUpTo;rw[ia];exact gS (lp _ _) (by simp)
def xR (l:List Nat):(gu l).length<=l.length:=gS (Jy _ _) (by rw[fP];exact gw _)
def lu (out:List Nat) (c:Nat):List Nat:=if out.getLast? = some c then out.dropLast++[c+1] else out++[c,c+1]
def lC (l:List Nat):List Nat:=l.foldl lu []
def places (l:List Nat) (c:Nat):Nat:=l.countP λx=>decide (x<=c)
def mQ (l:List Nat) (a x:Nat):places (l++[a]) x=places l x+if a<=x then 1 else 0:=by
 unfold places;rw[List.countP_append,List.countP_singleton];by_cases h:a<=x <;> simp[h]
def Jz (a:List Nat) (c x:Nat):(places (lu a c) x) % 2=(places a x+if x=c then 1 else 0) % 2:=by
 unfold lu
 split
 ·rename_i h;obtain⟨p,rfl⟩:=vr.1 h;rw[rp,mQ,mQ]
  split <;> split <;> split <;> omega
 rw[show a++[c,c+1]=(a++[c])++[c+1] by simp,mQ,mQ]
 split <;> split <;> split <;> omega
def yY:∀(l:List Nat) (a:List Nat) (x:Nat),(places (l.foldl lu a) x) % 2=(places a x+l.count x) % 2
 | [],a,x=>by simp
 | c::l,a,x=>by
   rw[ox,yY l,vu,Jz,<-vu,List.count_cons];by_cases h:x=c
   ·subst h;simp;omega
   have:(c==x)=false:=by simp;omega
   simp[h,this]
def JA {l:List Nat} (h:l.Pairwise (· < ·)) (x:Nat):places (lC l) x % 2=1↔x∈l:=by
 unfold lC;rw[yY];have b:l.Nodup:=h.imp λh=>xi h;have:places [] x=0:=rfl;rw[this,kh];by_cases a:x∈l
 ·rw[b.count,if_pos a];simp[a]
 rw[List.count_eq_zero.2 a];simp[a]
def Q5 {e:List Nat} {c:Nat} (h:e.Pairwise (· < ·)) (l:∀x∈e,x<=c):(lu e c).Pairwise (· < ·)/\∀x∈lu e c,x<=c+1:=by
 unfold lu
 split
 ·rename_i i;obtain⟨m,rfl⟩:=vr.1 i;simp only[rp];rw[lk] at h;refine⟨lk.2 ⟨h.1,rK _ _,λa g b k=>?_⟩,λx d=>?_⟩
  ·have:=h.2.2 a g c (by simp);rw[gC.1 k];omega
  rcases gR.1 d with d|d
  ·have:=h.2.2 x d c (by simp);omega
  rw[gC.1 d];exact gw _
 rename_i i;have f:∀x∈e,x<c:=by
  intro x d;rcases j' x c with h1|h1
  ·exact h1
  exfalso;have j:x=c:=Nat.le_antisymm (l x d) h1;subst j;obtain⟨a,b,rfl⟩:=List.append_of_mem d;cases b with
  | nil=>exact i (by simp)
  | cons y b=>
    rw[lk] at h;have:=(mz.1 h.2.1).1 y (by simp);have:=l y (by simp);omega
 refine⟨lk.2 ⟨h,by simp,λa g b k=>?_⟩,λx d=>?_⟩
 ·have:=f a g;simp at k;omega
 rcases gR.1 d with d|d
 ·have:=f x d;omega
 simp at d;omega
def Ex:∀(l:List Nat) (a:List Nat),l.Pairwise (· < ·)->a.Pairwise (· < ·)->(∀x∈a,∀y∈l,x<=y)->(l.foldl lu a).Pairwise (· < ·)
 | [],a,_,h,_=>h
 | c::l,a,hl,h,hb=>by
   obtain⟨e,i⟩:=mz.1 hl;obtain⟨g,f⟩:=Q5 h (λx b=>hb x b c (by simp));refine Ex l _ i g λx b y d=>?_;have:=f x b;have:=e y d;omega
def Ey {l:List Nat} (h:l.Pairwise (· < ·)):(lC l).Pairwise (· < ·):=Ex l [] h List.Pairwise.nil (by simp)
def UK (a:List Nat) (c:Nat):(lu a c).length<=a.length+2:=by
 unfold lu
 split
 ·rw[d',List.length_dropLast];simp;omega
 simp
def AZ (l:List Nat):(lC l).length<=2*l.length:=by
 have:∀(l a:List Nat),(l.foldl lu a).length<=a.length+2*l.length:=λl=>by
  induction l with
  | nil=>intro a;simp
  | cons c l ih=>
    intro a;rw[ox,hU];have:=ih (lu a c);have:=UK a c;omega
 have:=this l [];simpa [lC] using this
section
open Go.RowKit
variable {F : Fence} {n : Nat} {P : Program}
def nX (Bl:List Nat) (A B:World):Prop:=∀b∈Bl,B.cell? ⟨b,0,none⟩=A.cell? ⟨b,0,none⟩/\B.frozen? ⟨b,0,none⟩=A.frozen? ⟨b,0,none⟩
def nX.of_block {c:List Nat} {A B:World} (h:∀b∈c,B.heap[b]? = A.heap[b]?):nX c A B:=λb a=>⟨nF (w:=A) (h b a),World.frozen?_of_block (w:=A) (h b a)⟩
def nX.trans {c:List Nat} {A B C:World} (h:nX c A B) (k:nX c B C):nX c A C:=λb a=>⟨(k b a).1.trans (h b a).1,(k b a).2.trans (h b a).2⟩
def GH {α:Type} (F:Fence) (n:Nat) (P:Program) (g:Nat) (lb:Array Value) (encs:α->Array Value) (Bl:List Nat) (Bs:Nat) (xs:List α) (w:World):Prop:=
 ∀(l:Nat) (J:List α->World->Prop) (W:World),Below w.heap.size w W->
  (∀s A B row,J s A->A.grownBy B row->(∀r,row=some r->r=Bs)->J s B)->
  (∀a x c,J a c->a.length<xs.length->YieldAt F (n-1) P l (encs x) c λe b=>e=.returned (.bool true)/\J (a++[x]) b/\nX Bl c b)->
  J [] W->
  CallsIn F n P g (#[.func (.yield l) #[] #[]]++lb) W λe b=>(∃v,e=.returned v)/\J xs b
def nY {α:Type} {g:Operand} {U:Array Tmp} {assign body:Code} {Q:Exit->Act->World->Prop} {a:Act} {w:World}
 (ae:F.round=none) (h1:1<=n) {gf:Nat} {lb:Array Value} (Z:a.eval g=.func (.func gf) #[] lb) (aa:F.fn gf) (eg:∀args w,(callFunc gf args).run P w=.ok (.enter gf args) w)
 {h:α->Array Value} {T:List Nat} {Bs:Nat} {V:List α} (N:GH F (n-1) P gf lb h T Bs V w) (Q6:Bs<w.heap.size) (M:∀b∈T,b<w.heap.size) (ad:∀x,(h x).size=U.size)
 (I:List α->World->Prop)
 (hI:∀s A B row,I s A->A.grownBy B row->(∀r,row=some r->r=Bs\/(w.heap.size<=r/\∃o:Obj,A.heap[r]? = some o/\o.isCells=false))->I s B)
 (h0:I [] w) (u:α->Act)
 (i:∀(l:Nat) (x:α) (W:World) (K:Act->World->Prop),K (u x) W->
   assign.wpIn (F.inRound l) (n-1-1) P (Exit.then K (λ_ _ _=>False)) { tmps:=(U.zip (h x)).foldl (λt (p,v)=>t.setIfInBounds p v) a.tmps,defers:=[] } W)
 (G:∀(l:Nat) (f:List α) (x:α) (W:World),I f W->f.length<V.length->body.wpIn (F.inRound l) (n-1-1) P (ownPostG w.heap.size (nX T) I (λ_ _ _=>False) (f++[x]) W) (u x) W)
 (C:∀(D:Nat) (W:World),w.heap.size<=D->I V W->W.heap[D]? = some (.deferred (some []))->Q .normal { a with defers:={ target:=.collected D,args:=#[] }::a.defers } W) :
 (Code.rangeFunc g U assign body).wpIn F n P Q a w:=by
 have j:OwnFrom w.heap.size I:=λs A B row H Z q=>hI s A B row H Z λr e=>.inr (q r e);refine wpIn_rangeFunc ?_;intro fn ab;rw[ae];obtain⟨d,c⟩:∃d:LoopState->Option Code->Loop,d=λst pe=>{ state:=st,pending:=pe,fn,tmps:=a.tmps,params:=U,assign,body,defers:=w.heap.size }:=⟨_,rfl⟩;obtain⟨m,k⟩:∃m,(w.alloc (.deferred (some []))).alloc (.loop (d .ready none))=m:=⟨_,rfl⟩;have ag:m.heap[w.heap.size+1]? = some (.loop (d .ready none)):=by
  rw[<-k];have:=World.alloc_heap_new (w.alloc (.deferred (some []))) (.loop (d .ready none));rwa [ns] at this
 have af:m.heap[w.heap.size]? = some (.deferred (some [])):=by
  rw[<-k];exact(Below.heap_alloc _ _ _ (by simp)).trans (World.alloc_heap_new w _)
 have aj:I [] m:=by rw[<-k];exact j.alloc _ (j.alloc _ h0)
 have X:Below w.heap.size w m:=by
  rw[<-k];exact((gO _ w).alloc (gw _) _).alloc (by simp) _
 refine⟨w.heap.size+1,[{ target:=.collected w.heap.size,args:=#[] }],m,{ target:=.fn (.func gf) lb,args:=#[.func (.yield (w.heap.size+1)) #[] #[]] },m,gf,
  #[.func (.yield (w.heap.size+1)) #[] #[]]++lb,m,?_,?_,?_,?_,λ_=>h1,?_⟩
 ·rw[<-k,c];exact run_enterLoop_outer _ _ _ _ _
 ·simp only[resolve,Z];simp[go_sem]
 ·intro f' L;simp[Target.leads] at L;subst L;exact aa
 ·simp[invoke,go_sem,eg]
 refine(N (w.heap.size+1)
  (λf W=>I f W/\W.heap[w.heap.size+1]? = some (.loop (d .ready none))/\W.heap[w.heap.size]? = some (.deferred (some [])))
  m X
  (λs A B row H y q=>⟨hI s A B row H.1 y (λr e=>.inl (q r e)),
    (y.block _ (jt.1 H.2.1).1 (λe=>by have:=q _ e.symm;omega)).trans H.2.1,
    (y.block _ (jt.1 H.2.2).1 (λe=>by have:=q _ e.symm;omega)).trans H.2.2⟩)
  ?_ ⟨aj,ag,af⟩).mono ?_
 ·rintro f x W⟨hi,E,hk⟩ R;have ai:w.heap.size+1<W.heap.size:=(jt.1 E).1;have hy:=run_yield (P:=P) (args:=h x) E (by rw[c];exact ad x);rw[c] at hy;refine⟨fn,_,assign,body,hy,roundIn_of_wpIn ab (i _ x W _ ⟨_,run_beginRound E (by rw[c]),?_⟩)⟩;have al:(W.putObj (w.heap.size+1) (.loop { d .ready none with state:=.busy })).heap[w.heap.size+1]? = some (.loop { d .ready none with state:=.busy }):=World.putObj_heap_same ai;have ac:(W.putObj (w.heap.size+1) (.loop { d .ready none with state:=.busy })).heap[w.heap.size]? = some (.deferred (some [])):=(nd (by omega)).trans hk;have ak:nX T W (W.putObj (w.heap.size+1) (.loop { d .ready none with state:=.busy })):=nX.of_block (λb hb=>nd (by have:=M b hb;omega));refine wpIn_mono (G _ f x _ (j.putObj _ hi (by omega) E rfl) R) ?_;rintro e a3 W3 J;cases e with
  | normal=>
    obtain⟨S,O,Y⟩:=J;have z:=S.same _ _ (by omega) al rfl;have q:=run_endRound (P:=P) none z;rw[c] at q;have ah:W3.heap[w.heap.size+1]? = some (.loop { d .ready none with state:=.busy }):=z;refine⟨_,_,q,⟨rfl,⟨j.putObj _ Y (by omega) ah rfl,?_,?_⟩,(ak.trans O).trans (nX.of_block (λb hb=>nd (by have:=M b hb;omega)))⟩⟩
    ·rw[World.putObj_heap_same (jt.1 z).1,c];rfl
    exact(nd (by omega)).trans (S.same _ _ (gw _) ac rfl)
  | ret=>exact J.2.elim
  | exit id=>exact J.2.elim
  | goto t=>exact J.2.elim
  | panic ch=>exact J.elim
  | outgrown=>exact J.elim
 rintro e W2⟨⟨v,rfl⟩,hi,E,hk⟩;exact⟨none,_,by have:=run_endLoop (P:=P) E (by rw[c];simp);rw[c] at this;exact this,C _ _ (gw _) (j.putObj _ hi (by omega) E rfl) ((nd (by omega)).trans hk)⟩
end
end Go.Cd
namespace Go.Cd
open Go.RowKit
def bC {P:Program} {ops:Array Oper} {C:World->Prop} {K:Act->Prop} {l:List Nat} {a:Act} (h:∃b,bu ops l=b/\wpQuiet P ops C K b a):wpQuiet P ops C K (bu ops l) a:=by
 obtain⟨b,rfl,h⟩:=h;exact h
def aZ {ops:Array Oper} {i:Nat} {o:Oper} {l:List Nat} {F:List Oper->Prop} (b:nth ops.toList i=some o) (h:∃a,bu ops l=a/\F (o::a)):∃a,bu ops (i::l)=a/\F a:=by
 obtain⟨a,rfl,h⟩:=h;exact⟨_,by simp[bu,fM b],h⟩
def bD {ops:Array Oper} {F:List Oper->Prop} (h:F []):∃a,bu ops []=a/\F a:=⟨[],rfl,h⟩
abbrev tF:TypeId:=5
def mR (l:List Nat):List Value:=l.map λd:Nat=>Value.int .u8 (d:Int)
@[simp] theorem uy (l:List Nat):(mR l).length=l.length:=by simp[mR]
def yZ (l:List Nat) (i:Nat) (h:i<l.length):(mR l)[i]'(by simpa using h)=.int .u8 (l[i]:Nat):=by simp[mR]
def nL:Elem Go.Proofs.Tryz.prog 163 tF (.int .u8 0) 1:=⟨rfl,Go.Proofs.Tryz.underlying163,info_parts (by kernel_rfl)⟩
def str (l:List Nat):ByteArray:=⟨(l.map UInt8.ofNat).toArray⟩
def toNat_ofNat {d:Nat} (h:d<256):(UInt8.ofNat d).toNat=d:=by simp[UInt8.toNat_ofNat];omega
def A7 {w:World} {a:Option Addr} {n cap:Nat} {L:List Nat} (h:bG w (.slice a n cap) (mR L)) (r:∀d∈L,d<256) :
 (convert 163 9 (.slice a n cap)).run Go.Proofs.Tryz.prog w=.ok (.string (str L)) w:=by
 rcases h.cases with⟨o,s,f,g,_⟩|⟨b,off,f,g,_,m,_,q⟩
 ·have i:L=[]:=by simpa [mR] using o
  subst i;simp only[tm] at g;obtain⟨rfl,rfl,rfl⟩:=g;cases a with
  | none=>
    rw[run_convert_bytes_string w _ _ 5 none 0 cap Go.Proofs.Tryz.underlying163 Go.Proofs.Tryz.underlying5 Go.Proofs.Tryz.underlying9]
    go_simp
    rfl
  | some ad=>exact run_convert_bytes_back w _ _ 5 ad cap [] Go.Proofs.Tryz.underlying163 Go.Proofs.Tryz.underlying5 Go.Proofs.Tryz.underlying9 (λj k=>absurd k (by simp))
 simp only[tm] at g;obtain⟨rfl,rfl,rfl⟩:=g
 have p:=run_convert_bytes_back w 163 9 5 ⟨b,off,none⟩ cap (L.map UInt8.ofNat) Go.Proofs.Tryz.underlying163 Go.Proofs.Tryz.underlying5 Go.Proofs.Tryz.underlying9 (λj k=>by
  have c:j<L.length:=by simpa using k
  have l:=q j (by simpa using c);rw[yZ _ _ c] at l;rw[nf,toNat_ofNat (r _ (gx _))];unfold Addr.add;by_cases e:j=0
  ·subst e;simpa using l
  rw[if_neg e];exact l)
 simpa [str] using p
end Go.Cd
namespace Go.Cd
variable {c:Nat}
def hk (c:Nat):Nat:=
 if 4352<=c/\c<4371 then 1 else if 4449<=c/\c<4470 then 2 else if 4520<=c/\c<4547 then 3
 else if ¬(44032<=c/\c<55204) then 0 else if (c-44032) % 28=0 then 4 else 5
def dI (c:Nat):List Nat:=
 if hk c=4 then [4352+(c-44032) / 588,4449+(c-44032) % 588 / 28]
 else if hk c=5 then [c-(c-44032) % 28,4519+(c-44032) % 28] else []
def hparts (c:Nat):List Nat:=
 if hk c=4 then [4352+(c-44032) / 588,4449+(c-44032) % 588 / 28]
 else if hk c=5 then [4352+(c-44032) / 588,4449+(c-44032) % 588 / 28,4519+(c-44032) % 28] else []
def vU (c:Nat):hk c<6:=by unfold hk;repeat' split <;> first|decide|skip
def UL :4<=hk c↔44032<=c/\c<55204:=by
 unfold hk
 split
 ·omega
 split
 ·omega
 split
 ·omega
 split
 ·omega
 split <;> omega
def oQ :hk c=4↔44032<=c/\c<55204/\(c-44032) % 28=0:=by
 unfold hk
 split
 ·omega
 split
 ·omega
 split
 ·omega
 split
 ·omega
 split <;> omega
def kI :hk c=5↔44032<=c/\c<55204/\(c-44032) % 28≠0:=by
 unfold hk
 split
 ·omega
 split
 ·omega
 split
 ·omega
 split
 ·omega
 split <;> omega
def UM :hk c=1↔4352<=c/\c<4371:=by
 unfold hk
 split
 ·simp[*]
 rename_i h;constructor
 ·split
  ·omega
  split
  ·omega
  split
  ·omega
  split <;> omega
 intro a;exact absurd a h
def Qc (h:hk c=5):hk (c-(c-44032) % 28)=4:=by
 rw[kI] at h;rw[oQ];omega
def A8 (h:hk c=5):dI (c-(c-44032) % 28)=[4352+(c-44032) / 588,4449+(c-44032) % 588 / 28]:=by
 have d:=Qc h;unfold dI;rw[if_pos d];rw[kI] at h;have b:(c-(c-44032) % 28-44032) / 588=(c-44032) / 588:=by omega
 have a:(c-(c-44032) % 28-44032) % 588 / 28=(c-44032) % 588 / 28:=by omega
 rw[b,a]
def Ez {x:Nat} (h:x∈hparts c):x<4547/\4352<=x:=by
 have:=mx (c-44032) (show 28 > 0 by decide);have:(c-44032) % 588 / 28<21:=by omega
 unfold hparts at h;by_cases a:hk c=4
 ·rw[if_pos a] at h;have d:(c-44032) / 588<19:=by rw[oQ] at a;omega
  clear a;generalize (c-44032) % 588 / 28=v at *;generalize (c-44032) / 588=l at *;simp only[jf,km,or_false] at h;rcases h with rfl|rfl <;> omega
 rw[if_neg a] at h;by_cases b:hk c=5
 ·rw[if_pos b] at h;have d:(c-44032) / 588<19:=by rw[kI] at b;omega
  clear a b;generalize (c-44032) % 588 / 28=v at *;generalize (c-44032) / 588=l at *;generalize (c-44032) % 28=t at *;simp only[jf,km,or_false] at h;rcases h with rfl|rfl|rfl <;> omega
 rw[if_neg b] at h;simp at h
def xS :dI c=[]↔hk c<4:=by
 unfold dI;have:=vU c
 split
 ·simp;omega
 split
 ·simp;omega
 simp;omega
def iC :hparts c=[]↔hk c<4:=by
 unfold hparts;have:=vU c
 split
 ·simp;omega
 split
 ·simp;omega
 simp;omega
def aP (c:Nat):Prop:=c<1114112/\(c<55296\/57343<c)
instance (c:Nat):Decidable (aP c):=inferInstanceAs (Decidable (_/\_))
def fH (c:Nat):Nat:=if c<128 then 1 else if c<2048 then 2 else if c<65536 then 3 else 4
def fI (c:Nat):List Nat:=
 if c<128 then [c] else if c<2048 then [192+c / 64,128+c % 64]
 else if c<65536 then [224+c / 4096,128+c / 64 % 64,128+c % 64]
 else [240+c / 262144,128+c / 4096 % 64,128+c / 64 % 64,128+c % 64]
def lD (c:Nat):List UInt8:=(fI c).map UInt8.ofNat
def dQ (l:List Nat):List UInt8:=l.flatMap lD
def A9 (c:Nat):(fI c).length=fH c:=by
 unfold fI fH
 split
 ·rfl
 split
 ·rfl
 split <;> rfl
def jK (c:Nat):(lD c).length=fH c:=by unfold lD;rw[ia,A9]
def oU (c:Nat):1<=fH c/\fH c<=4:=by
 unfold fH
 repeat' split
 all_goals decide
def GI (h:c<1114112):∀b∈fI c,b<256:=by
 unfold fI;intro b a
 repeat' split at a
 all_goals
  simp only[jf,km,or_false] at a
 ·omega
 ·rcases a with rfl|rfl <;> omega
 ·rcases a with rfl|rfl|rfl <;> omega
 rcases a with rfl|rfl|rfl|rfl <;> omega
def EE (c:Nat) (l:List Nat):dQ (c::l)=lD c++dQ l:=by simp[dQ]
def JB (l m:List Nat):dQ (l++m)=dQ l++dQ m:=by simp[dQ]
def qE (l:List Nat):(dQ l).length<=4*l.length:=by
 induction l with
 | nil=>simp[dQ]
 | cons c l ih=>
   rw[EE,d',jK,hU];have:=(oU c).2;omega
end Go.Cd
namespace Go.Proofs.YtmnimbnojdndmaaGreatDoor
open Go.RowKit Go.Cd _root_.Go.Proofs.Tryz
def JC {a c b d:Int} {p e:Bool} (f:a=c) (h:b=d) (g:p=e):Ending.returned (.tuple #[.int .i32 a,.int .i32 b,.bool p])=.returned (.tuple #[.int .i32 c,.int .i32 d,.bool e]):=by
 rw[f,h,g]
def YR {w:World} (c f n:Nat) (g:f+n<2147483648) (p:Bool) (a:decide (f<=c/\c<f+n)=p) :
 Calls prog 172 #[.int .i32 c,.int .i32 f,.int .i32 n] w λe w'=>e=.returned (.bool p)/\w'=w:=by
 have b:=aa a;by_cases d:f<=c
 ·by_cases i:c<f+n
  ·clear a;go_enter func172,ntmps172;go_wp2;go_ret;exact⟨dV (by rw[<-b.out];exact decide_eq_decide.2 (by omega)),rfl⟩
  clear a;go_enter func172,ntmps172;go_wp2;go_ret;exact⟨dV (by rw[<-b.out];exact decide_eq_decide.2 (by omega)),rfl⟩
 clear a;go_enter func172,ntmps172;go_wp2;go_ret;exact⟨dV (by rw[<-b.out];exact(decide_eq_false (p:=f<=c/\c<f+n) (λh=>d h.1)).symm),rfl⟩
def rQ {w:World} (c:Nat) (v:c<1114112) :
 Calls prog 134 #[.int .i32 c] w λe w'=>e=.returned (.int .i64 (hk c))/\w'=w:=by
 have I:=λ(f n:Nat) (u:f+n<2147483648) (p:Bool) (t:decide (f<=c/\c<f+n)=p)=>aa (YR (w:=w) c f n u p t);by_cases a:4352<=c/\c<4371
 ·have E:hk c=1:=by unfold hk;rw[if_pos a]
  have g:=I 4352 19 (by decide) true (decide_eq_true a);rw[E];clear E I;go_enter func134,ntmps134;go_wp2_with fail;refine g.out.mono ?_;rintro e w'⟨rfl,rfl⟩;go_wp2;go_ret;exact⟨rfl,rfl⟩
 have g:=I 4352 19 (by decide) false (decide_eq_false a);by_cases b:4449<=c/\c<4470
 ·have E:hk c=2:=by unfold hk;rw[if_neg a,if_pos b]
  have j:=I 4449 21 (by decide) true (decide_eq_true b);rw[E];clear E I a;go_enter func134,ntmps134;go_wp2_with fail;refine g.out.mono ?_;rintro e w'⟨rfl,rfl⟩;go_wp2_with fail;refine j.out.mono ?_;rintro e w'⟨rfl,rfl⟩;go_wp2;go_ret;exact⟨rfl,rfl⟩
 have j:=I 4449 21 (by decide) false (decide_eq_false b);by_cases d:4520<=c/\c<4547
 ·have E:hk c=3:=by unfold hk;rw[if_neg a,if_neg b,if_pos d]
  have k:=I 4520 27 (by decide) true (decide_eq_true d);rw[E];clear E I a b;go_enter func134,ntmps134;go_wp2_with fail;refine g.out.mono ?_;rintro e w'⟨rfl,rfl⟩;go_wp2_with fail;refine j.out.mono ?_;rintro e w'⟨rfl,rfl⟩;go_wp2_with fail;refine k.out.mono ?_;rintro e w'⟨rfl,rfl⟩;go_wp2;go_ret;exact⟨rfl,rfl⟩
 have k:=I 4520 27 (by decide) false (decide_eq_false d);by_cases o:44032<=c/\c<55204
 ·have m:=I 44032 11172 (by decide) true (decide_eq_true o);have E:hk c=if (c-44032) % 28=0 then 4 else 5:=by unfold hk;rw[if_neg a,if_neg b,if_neg d,if_neg (λh=>h o)]
  have r:=aa E;obtain⟨i,rfl⟩:∃i,c=44032+i:=⟨c-44032,by omega⟩;rw[kB] at r;by_cases s:i % 28=0
  ·have l:hk (44032+i)=4:=by rw[r.out,if_pos s]
   rw[l];have q:(((44032+i:Nat):Int)-44032).tmod 28=0:=by
    rw[show((44032+i:Nat):Int)-44032=(i:Int) by omega];rw[pB (by omega)];omega
   clear E l I a b d;go_enter func134,ntmps134;go_wp2_with fail;refine g.out.mono ?_;rintro e w'⟨rfl,rfl⟩;go_wp2_with fail;refine j.out.mono ?_;rintro e w'⟨rfl,rfl⟩;go_wp2_with fail;refine k.out.mono ?_;rintro e w'⟨rfl,rfl⟩;go_wp2_with fail;refine m.out.mono ?_;rintro e w'⟨rfl,rfl⟩;go_wp2;go_ret;exact⟨rfl,rfl⟩
  have l:hk (44032+i)=5:=by rw[r.out,if_neg s]
  rw[l];have q:¬(((44032+i:Nat):Int)-44032).tmod 28=0:=by
   rw[show((44032+i:Nat):Int)-44032=(i:Int) by omega];rw[pB (by omega)];omega
  clear E l I a b d;go_enter func134,ntmps134;go_wp2_with fail;refine g.out.mono ?_;rintro e w'⟨rfl,rfl⟩;go_wp2_with fail;refine j.out.mono ?_;rintro e w'⟨rfl,rfl⟩;go_wp2_with fail;refine k.out.mono ?_;rintro e w'⟨rfl,rfl⟩;go_wp2_with fail;refine m.out.mono ?_;rintro e w'⟨rfl,rfl⟩;go_wp2;go_ret;exact⟨rfl,rfl⟩
 have E:hk c=0:=by unfold hk;rw[if_neg a,if_neg b,if_neg d,if_pos o]
 have m:=I 44032 11172 (by decide) false (decide_eq_false o);rw[E];clear E I a b d;go_enter func134,ntmps134;go_wp2_with fail;refine g.out.mono ?_;rintro e w'⟨rfl,rfl⟩;go_wp2_with fail;refine j.out.mono ?_;rintro e w'⟨rfl,rfl⟩;go_wp2_with fail;refine k.out.mono ?_;rintro e w'⟨rfl,rfl⟩;go_wp2_with fail;refine m.out.mono ?_;rintro e w'⟨rfl,rfl⟩;go_wp2;go_ret;exact⟨rfl,rfl⟩
def EF {w:World} (c:Nat) (s:c<1114112) :
 Calls prog 146 #[.int .i32 c] w λe w'=>(∃a b:Nat,e=.returned (.tuple #[.int .i32 a,.int .i32 b,.bool (decide (4<=hk c))])/\(4<=hk c->dI c=[a,b]))/\w'=w:=by
 have f:=aa (rQ (w:=w) c s);by_cases d:hk c=4
 ·have n:=(oQ (c:=c)).1 d;obtain⟨i,rfl⟩:∃i,c=44032+i:=⟨c-44032,by omega⟩;rw[d] at f⊢;have m:=aa (show dI (44032+i)=[4352+i / 588,4449+i % 588 / 28] by unfold dI;rw[if_pos d,kB]);have t:((44032+i:Nat):Int)-44032=(i:Int):=by omega
  have r:((i:Int)).tdiv 588=((i / 588:Nat):Int):=by rw[AS (by omega)];omega
  have:(((i:Int)).tmod 588).tdiv 28=((i % 588 / 28:Nat):Int):=by rw[pB (by omega),AS (by omega)];omega
  have u:i<11172:=by omega
  clear d n;go_enter func146,ntmps146;go_wp2_with fail;refine f.out.mono ?_;rintro e w'⟨rfl,rfl⟩;go_wp2
  go_ret3
  exact⟨⟨4352+i / 588,4449+i % 588 / 28,JC (by omega) (by omega) rfl,λ_=>m.out⟩,rfl⟩
 by_cases g:hk c=5
 ·have n:=(kI (c:=c)).1 g;obtain⟨i,rfl⟩:∃i,c=44032+i:=⟨c-44032,by omega⟩;rw[g] at f⊢;have m:=aa (show dI (44032+i)=[44032+i-i % 28,4519+i % 28] by unfold dI;rw[if_neg d,if_pos g,kB]);have t:((44032+i:Nat):Int)-44032=(i:Int):=by omega
  have r:((i:Int)).tmod 28=((i % 28:Nat):Int):=by rw[pB (by omega)];omega
  have u:i<11172:=by omega
  have:i % 28<28:=mx _ (by decide);have:i % 28<=i:=Nat.mod_le _ _;clear d g n;go_enter func146,ntmps146;go_wp2_with fail;refine f.out.mono ?_;rintro e w'⟨rfl,rfl⟩;go_wp2
  go_ret3
  exact⟨⟨44032+i-i % 28,4519+i % 28,JC (by omega) (by omega) rfl,λ_=>m.out⟩,rfl⟩
 have l:hk c<4:=by have:=vU c;omega
 have o:=aa (decide_eq_false (by omega:¬4<=hk c));obtain⟨k,j⟩:=ae (hk c);rw[<-j] at f o⊢;have:k<4:=by omega
 rw[o.out];clear d g l j;go_enter func146,ntmps146;go_wp2_with fail;refine f.out.mono ?_;rintro e w'⟨rfl,rfl⟩;have:((k:Int)==4)=false:=by simp;omega
 have:((k:Int)==5)=false:=by simp;omega
 go_wp2
 go_ret3
 exact⟨⟨0,0,rfl,λh=>by omega⟩,rfl⟩
end Go.Proofs.YtmnimbnojdndmaaGreatDoor
namespace Go.Cd
open Go.RowKit
def f_ {P:Program} {W:World} {ops:Array Oper} {rest:List Oper} {o:Oper} {a:Act} {Q:Exit->Act->World->Prop} (i:o.guard=none) (s x:Operand) (t:TypeId)
 (w:o.op=.call { callee:=.builtin .append,args:=#[s,x],argTypes:=#[t,t] })
 (base:Nat) (e:TypeId) (z:Value) (b:Nat) (q:Elem P t e z b)
 (v:Value) (n:Nat) (f:List Value) (D:a.eval s=v) (c:W.ownsRow base e 1 v n f)
 (u:Value) (B:a.eval x=.slice (some ⟨W.heap.size,0,none⟩) 1 1) (y:u.oneCell'=true)
 (d:(n+1)*b<=140737488355328) (l:n+1<=maxLen) (j:World) (m:Below base j W) (g:base<=j.heap.size)
 (h:∀v' w',w'.ownsRow base e 1 v' (n+1) (f++[u])->Below base j w'->(W.alloc (.cells #[u] e)).ownsRow base e 1 v n f->(W.alloc (.cells #[u] e)).grownBy w' v.ownBlock->wpList P ops Q rest (a.put o.dst v') w'):wpList P ops Q (o::rest) a (W.alloc (.cells #[u] e)):=by
 have:=m.size;refine bR i s x t w base e z b q v n f D (c.alloc _) _ [u] B (rP W #[u] e) (by simpa using y) (by simpa using l) (by simpa using d) (by simp;omega) ?_;intro v' w' C p;refine h v' w' (by simpa using C) ((m.alloc (by omega) _).grown p (by simp;omega) ?_) (c.alloc _) p;intro k A;exact(c.lt k A).1
abbrev aN:TypeId:=21
def aM (l:List Nat):List Value:=l.map λd:Nat=>Value.int .i32 d
@[simp] theorem bF (l:List Nat):(aM l).length=l.length:=by simp[aM]
def dR (l:List Nat) (i:Nat) (h:i<l.length):(aM l)[i]'(by simpa using h)=.int .i32 (l[i]:Nat):=by simp[aM]
def a_ (l m:List Nat):aM (l++m)=aM l++aM m:=by simp[aM]
def EG (l:List Nat) (k:Nat):aM (l.drop k)=(aM l).drop k:=by simp[aM,List.map_drop]
def gJ (l:List Nat):∀u∈aM l,u.oneCell'=true:=by
 intro u a;obtain⟨d,_,rfl⟩:=jx.1 a;rfl
def bW:Elem Go.Proofs.Tryz.prog 35 aN (.int .i32 0) 4:=⟨rfl,Go.Proofs.Tryz.underlying35,info_parts (by kernel_rfl)⟩
def mU (W:World) (cs:Array Value) (e:TypeId) (n:Nat) (a:n=cs.size) (b:n<=maxLen):(W.alloc (.cells cs e)).ownsRow W.heap.size e 1 (.slice (some ⟨W.heap.size,0,none⟩) n n) n cs.toList:=by
 subst a;exact⟨by simp,.inr ⟨W.heap.size,cs.size,cs,rfl,gw _,heap_alloc_new _ _,gw _,b,by simp,by rw[ie];simp⟩⟩
def bG.nN {w:World} {v:Value} {l:List Nat} {n:Nat} (h:bG w v (aM l)) (e:n=l.length):∃a cap,v=.slice a n cap/\n<=cap/\
 ∀i (c:i<l.length),∃b off,a=some ⟨b,off,none⟩/\b<w.heap.size/\w.cell? ⟨b,off+i,none⟩=some (.int .i32 (l[i]:Nat)):=by
 subst e;obtain⟨a,cap,rfl,m,g⟩:=bG.out h;have d:(aM l).length=l.length:=bF _;refine⟨a,cap,by rw[d],by omega,λi c=>?_⟩;obtain⟨b,off,f,k,j⟩:=g i (by omega);exact⟨b,off,f,k,by rw[j,dR _ _ c]⟩
end Go.Cd
namespace Go.Proofs.YtmnimbnojdndmaaGreatDoor
open Go.RowKit Go.Cd _root_.Go.Proofs.Tryz
variable {w:World} {c:Nat}
def lF {a b:Nat} (g:c<1114112) (h:dI c=[a,b]) :
 Calls prog 146 #[.int .i32 c] w λe w'=>e=.returned (.tuple #[.int .i32 a,.int .i32 b,.bool true])/\w'=w:=by
 have f:4<=hk c:=by
  rcases j' (hk c) 4 with h'|h'
  ·rw[xS.2 h'] at h;cases h
  exact h'
 refine(EF (w:=w) c g).mono ?_;rintro e w'⟨⟨i,j,rfl,d⟩,rfl⟩;rw[d f] at h;cases h;rw[decide_eq_true f];exact⟨rfl,rfl⟩
def rR (f:c<1114112) (h:hk c<4) :
 Calls prog 146 #[.int .i32 c] w λe w'=>(∃a b:Nat,e=.returned (.tuple #[.int .i32 a,.int .i32 b,.bool false]))/\w'=w:=by
 refine(EF (w:=w) c f).mono ?_;rintro e w'⟨⟨d,g,rfl,_⟩,rfl⟩;rw[decide_eq_false (by omega:¬4<=hk c)];exact⟨⟨d,g,rfl⟩,rfl⟩
def Ng (c:Nat) (n:c<1114112) :
 Calls prog 100 #[.int .i32 c] w λe w'=>∃r,e=.returned r/\w'.ownsRow w.heap.size aN 1 r (hparts c).length (aM (hparts c))/\Below w.heap.size w w':=by
 by_cases f:hk c=4
 ·obtain⟨a,b,d⟩:∃a b,hparts c=[a,b]:=by unfold hparts;rw[if_pos f];exact⟨_,_,rfl⟩
  have l:dI c=[a,b]:=by rw[<-d];unfold hparts dI;rw[if_pos f,if_pos f]
  have q:a<4547:=(Ez (by rw[d];simp:a∈hparts c)).1;have j:hk a<4:=by
   rcases j' (hk a) 4 with h|h
   ·exact h
   have:=UL.1 h;omega
  have k:=aa (lF (w:=w) n l);have p:=aa (rR (w:=w) (c:=a) (by omega) j);rw[d];clear j d f l;go_enter func100,ntmps100;go_wp2_with fail;refine k.out.mono ?_;rintro e w'⟨rfl,rfl⟩;go_wp2_with fail;refine p.out.mono ?_;rintro e o⟨⟨s,t,rfl⟩,rfl⟩;go_wp2;go_ret;exact⟨_,rfl,mU _ #[.int .i32 a,.int .i32 b] aN 2 rfl (by decide),ah _⟩
 by_cases g:hk c=5
 ·obtain⟨x,y,z,d⟩:∃x y z,hparts c=[x,y,z]:=by unfold hparts;rw[if_neg f,if_pos g];exact⟨_,_,_,rfl⟩
  have l:dI c=[c-(c-44032) % 28,z]:=by
   unfold hparts at d;rw[if_neg f,if_pos g] at d;unfold dI;rw[if_neg f,if_pos g];simp only[pf] at d;rw[d.2.2.1]
  have m:dI (c-(c-44032) % 28)=[x,y]:=by
   rw[A8 g];unfold hparts at d;rw[if_neg f,if_pos g] at d;simp only[pf] at d;rw[d.1,d.2.1]
  have q:c-(c-44032) % 28<1114112:=by omega
  have k:=aa (lF (w:=w) n l);have p:=aa (lF (w:=w) q m);rw[d];clear d f g l m;generalize c-(c-44032) % 28=a at *;go_enter func100,ntmps100;go_wp2_with fail;refine k.out.mono ?_;rintro e w'⟨rfl,rfl⟩;go_wp2_with fail;refine p.out.mono ?_;rintro e o⟨rfl,rfl⟩;go_wp2;go_ret;exact⟨_,rfl,mU _ #[.int .i32 x,.int .i32 y,.int .i32 z] aN 3 rfl (by decide),ah _⟩
 have i:hk c<4:=by have:=vU c;omega
 have k:=aa (rR (w:=w) n i);rw[iC.2 i];clear i f g;go_enter func100,ntmps100;go_wp2_with fail;refine k.out.mono ?_;rintro e w'⟨⟨a,b,rfl⟩,rfl⟩;go_wp2;go_ret;exact⟨_,rfl,iu _ _ _ _,gO _ _⟩
def gZ (c:Nat) (i:c<2147483648) :
 Calls prog 96 #[.int .i32 c] w λe w'=>e=.returned (.bool (decide (aP c)))/\w'=w:=by
 obtain⟨p,b⟩:=ae (decide (aP c));have a:=aa b;rw[<-b];clear b;by_cases g:c<=1114111
 ·by_cases f:c<55296
  ·have E:p=true:=a.out.trans (decide_eq_true ⟨by omega,.inl f⟩);subst E;go_enter func96,ntmps96;go_wp2;go_ret;exact⟨dV (by simp <;> omega),rfl⟩
  by_cases d:57343<c
  ·have E:p=true:=a.out.trans (decide_eq_true ⟨by omega,.inr d⟩);subst E;go_enter func96,ntmps96;go_wp2;go_ret;exact⟨dV (by simp <;> omega),rfl⟩
  have E:p=false:=a.out.trans (decide_eq_false (λh=>by rcases h.2 with h|h <;> omega));subst E;go_enter func96,ntmps96;go_wp2;go_ret;exact⟨dV (by simp <;> omega),rfl⟩
 have E:p=false:=a.out.trans (decide_eq_false (λh=>by have:=h.1;omega));subst E;go_enter func96,ntmps96;go_wp2;go_ret;exact⟨rfl,rfl⟩
def EH (c:Nat) (i:c<9223372036854775808) :
 Calls prog 78 #[.int .i64 c] w λe w'=>e=.returned (.bool (decide (aP c)))/\w'=w:=by
 obtain⟨p,b⟩:=ae (decide (aP c));have a:=aa b;rw[<-b];clear b;by_cases g:c<=1114111
 ·by_cases f:c<55296
  ·have E:p=true:=a.out.trans (decide_eq_true ⟨by omega,.inl f⟩);subst E;go_enter func78,ntmps78;go_wp2;go_ret;exact⟨dV (by simp <;> omega),rfl⟩
  by_cases d:57343<c
  ·have E:p=true:=a.out.trans (decide_eq_true ⟨by omega,.inr d⟩);subst E;go_enter func78,ntmps78;go_wp2;go_ret;exact⟨dV (by simp <;> omega),rfl⟩
  have E:p=false:=a.out.trans (decide_eq_false (λh=>by rcases h.2 with h|h <;> omega));subst E;go_enter func78,ntmps78;go_wp2;go_ret;exact⟨dV (by simp <;> omega),rfl⟩
 have E:p=false:=a.out.trans (decide_eq_false (λh=>by have:=h.1;omega));subst E;go_enter func78,ntmps78;go_wp2;go_ret;exact⟨rfl,rfl⟩
def lG (x:Nat):Nat:=if aP x then x else x % 2048
def rT {x:Nat}:aP (lG x):=by
 unfold lG
 split
 ·assumption
 have:=mx x (show 2048 > 0 by decide);exact⟨by omega,.inl (by omega)⟩
def Ni (n:Int):bits .and .i64 n 2097151=n % 2097152:=by
 have a:(BitVec.ofInt 64 2097151).toNat=2 ^ 21-1:=by decide
 have key:(BitVec.ofInt 64 n &&& BitVec.ofInt 64 2097151).toNat=(n % ((2 ^ 64:Nat):Int)).toNat % 2 ^ 21:=by
  rw[sT,pR,a,oB]
 show IntKind.i64.wrap ((BitVec.ofInt 64 n &&& BitVec.ofInt 64 2097151).toNat:Nat)=n % 2097152;rw[key,pw];omega
def Nj (n:Int):bits .and .i64 n 2047=n % 2048:=by
 have a:(BitVec.ofInt 64 2047).toNat=2 ^ 11-1:=by decide
 have key:(BitVec.ofInt 64 n &&& BitVec.ofInt 64 2047).toNat=(n % ((2 ^ 64:Nat):Int)).toNat % 2 ^ 11:=by
  rw[sT,pR,a,oB]
 show IntKind.i64.wrap ((BitVec.ofInt 64 n &&& BitVec.ofInt 64 2047).toNat:Nat)=n % 2048;rw[key,pw];omega
def jL (x:Int) :
 Calls prog 35 #[.int .i64 x] w λe w'=>e=.returned (.int .i32 (lG (x % 2097152).toNat))/\w'=w:=by
 obtain⟨y,b⟩:=ae ((x % 2097152).toNat);have:bits BinOp.and IntKind.i64 x 2097151=(y:Int):=by rw[Ni];omega
 have:y<2097152:=by omega
 have I:=aa (EH (w:=w) y (by omega));rw[<-b];clear b;by_cases a:aP y
 ·have E:=aa (show lG y=y by unfold lG;rw[if_pos a]);rw[decide_eq_true a] at I;have:=a.1;clear a;go_enter func35,ntmps35;go_wp2_with fail;refine I.out.mono ?_;rintro e w'⟨rfl,rfl⟩;go_wp2;go_ret;exact⟨by rw[E.out];rfl,rfl⟩
 have E:=aa (show lG y=y % 2048 by unfold lG;rw[if_neg a]);have:bits BinOp.and IntKind.i64 (y:Int) 2047=((y % 2048:Nat):Int):=by rw[Nj];omega
 have:=mx y (show 2048 > 0 by decide);rw[decide_eq_false a] at I;generalize y % 2048=z at *;clear a;go_enter func35,ntmps35;go_wp2_with fail;refine I.out.mono ?_;rintro e w'⟨rfl,rfl⟩;go_wp2;go_ret;exact⟨by rw[E.out];rfl,rfl⟩
def gK (c:Nat):List Nat:=if hk c=1 then (List.range 588).map λi=>44032+(c-4352)*588+i else []
def JD (c:Nat) (x:c<1114112) :
 Calls prog 95 #[.int .i32 c] w λe w'=>∃r,e=.returned r/\w'.ownsRow w.heap.size aN 1 r (gK c).length (aM (gK c))/\Below w.heap.size w w':=by
 have f:=aa (rQ (w:=w) c x);by_cases b:hk c=1
 ·have E:gK c=(List.range 588).map λi=>44032+(c-4352)*588+i:=by unfold gK;rw[if_pos b]
  have y:=UM.1 b;rw[b] at f;obtain⟨l,rfl⟩:∃l,c=4352+l:=⟨c-4352,by omega⟩;rw[kB] at E;have:l<19:=by omega
  obtain⟨B,g⟩:=ae (gK (4352+l));have q:=aa (g.trans E);rw[<-g];clear b y E g;go_enter func95,ntmps95;go_wp2_with fail;refine f.out.mono ?_;rintro e w'⟨rfl,rfl⟩;clear f;go_wp2_with fail;go_loopw [3,8] (λo m wr=>∃j:Nat,j<=588/\m=.int .i32 j/\wr.ownsRow w'.heap.size aN 1 o j (aM ((List.range j).map λi=>44032+l*588+i))/\Below w'.heap.size w' wr) (λ_ m _=>588-(intOf m).toNat)
  case atStart=>exact⟨0,by decide,rfl,iu _ _ _ _,gO _ _⟩
  case round=>
   obtain⟨j,z,rfl,n,p⟩:=hrel;by_cases t:j<588
   ·have v:=aa (show aM ((List.range (j+1)).map λi=>44032+l*588+i)=aM ((List.range j).map λi=>44032+l*588+i)++[.int .i32 (44032+l*588+j:Nat)] by
     rw[tf,js,a_];rfl)
    have s:=aa (show(44032:Int)+(4352+(l:Int)-4352)*588+j=((44032+l*588+j:Nat):Int) by omega);go_wp2_with (at_builtin;refine f_ rfl _ _ 35 rfl w'.heap.size aN _ 4 bW _ j _ rfl n _ rfl rfl (by omega) (by unfold maxLen;omega) w' p (gw _) ?_;intro v' A a h _ _);go_roundw
    case rel=>exact⟨j+1,by omega,rfl,by rw[v.out,<-s.out];exact a,h⟩
    case measure=>simp[intOf];omega
   obtain rfl:j=588:=by omega
   go_wp2;go_ret;exact⟨_,rfl,by rw[q.out,ia,List.length_range];exact n,p⟩
 have E:gK c=[]:=by unfold gK;rw[if_neg b]
 obtain⟨k,d⟩:=ae (hk c);have:((k:Int)==1)=false:=by simp;omega
 rw[<-d] at f;rw[E];clear E b d;go_enter func95,ntmps95;go_wp2_with fail;refine f.out.mono ?_;rintro e w'⟨rfl,rfl⟩;go_wp2;go_ret;exact⟨_,rfl,iu _ _ _ _,gO _ _⟩
def ints (l:List Nat):List Value:=l.map λd:Nat=>Value.int .i64 d
@[simp] theorem ek (l:List Nat):(ints l).length=l.length:=by simp[ints]
def Nk {j k:Nat} (e:j<19) (d:k<21):hparts (44032+588*j+28*k)=[4352+j,4449+k]:=by
 have b:hk (44032+588*j+28*k)=4:=oQ.2 ⟨by omega,by omega,by omega⟩;unfold hparts;rw[if_pos b];have a:(44032+588*j+28*k-44032) / 588=j:=by omega
 have c:(44032+588*j+28*k-44032) % 588 / 28=k:=by omega
 rw[a,c]
def GJ {j k t:Nat} (f:j<19) (d:k<21) (h0:0<t) (g:t<28):hparts (44032+588*j+28*k+t)=[4352+j,4449+k,4519+t]:=by
 have a:hk (44032+588*j+28*k+t)=5:=kI.2 ⟨by omega,by omega,by omega⟩;unfold hparts;rw[if_neg (by omega),if_pos a];have b:(44032+588*j+28*k+t-44032) / 588=j:=by omega
 have c:(44032+588*j+28*k+t-44032) % 588 / 28=k:=by omega
 have e:(44032+588*j+28*k+t-44032) % 28=t:=by omega
 rw[b,c,e]
def y5 (h:c<44032\/55204<=c):hparts c=[]:=by
 refine iC.2 ?_;rcases j' (hk c) 4 with h'|h'
 ·exact h'
 have:=UL.1 h';omega
def tH (c:Nat) (u:c<1114112) :
 Calls prog 86 #[.int .i64 c] w λe w'=>∃r,e=.returned r/\w'.ownsRow w.heap.size bB 1 r (hparts c).length (ints (hparts c))/\Below w.heap.size w w':=by
 obtain⟨P,d⟩:=ae (hparts c);have b:=aa d;rw[<-d];clear d;go_enter func86,ntmps86;go_wp2_with fail;go_loopw [3,4] (λnv f wr=>∃j:Nat,j<=19/\nv=.int .i64 (44032+588*j:Nat)/\f=.int .i64 (4352+j:Nat)/\(0<j->44032+588*j<=c)/\wr=w) (λ_ f _=>4371-(intOf f).toNat)
 case atStart=>exact⟨0,by decide,rfl,rfl,λh=>absurd h (by decide),rfl⟩
 case round=>
  obtain⟨j,s,rfl,rfl,l,rfl⟩:=hrel;by_cases a:j<19
  ·by_cases q:44032+588*j+588<=c
   ·go_wp2;go_roundw
    case rel=>exact⟨j+1,by omega,congrArg (Value.int .i64) (by omega),congrArg (Value.int .i64) (by omega),λ_=>by omega,trivial⟩
    case measure=>simp[intOf];omega
   go_wp2_with fail;go_loopw [3,5] (λnv vv p=>∃k:Nat,k<21/\nv=.int .i64 (44032+588*j+28*k:Nat)/\vv=.int .i64 (4449+k:Nat)/\(0<k->44032+588*j+28*k<=c)/\p=wr) (λ_ vv _=>4470-(intOf vv).toNat)
   case atStart=>exact⟨0,by decide,rfl,rfl,λh=>absurd h (by decide),rfl⟩
   case round=>
    obtain⟨k,i,rfl,rfl,m,rfl⟩:=hrel;by_cases v:44032+588*j+28*k+28<=c
    ·go_wp2;go_roundw
     case rel=>exact⟨k+1,by omega,congrArg (Value.int .i64) (by omega),congrArg (Value.int .i64) (by omega),λ_=>by omega,trivial⟩
     case measure=>simp[intOf];omega
    rcases pZ c (44032+588*j+28*k) with h7|h7|h7
    ·have g:=y5 (c:=c) (.inl (by omega));have E:=b.out.trans g;subst E;have z:((c:Int)==((44032+588*j+28*k:Nat):Int))=false:=by simp;omega
     clear g;go_wp2;go_ret;exact⟨_,rfl,iu _ _ _ _,gO _ _⟩
    ·subst h7;have E:=b.out.trans (Nk a i);subst E;go_wp2;go_ret;exact⟨_,rfl,mU _ #[.int .i64 (4352+j:Nat),.int .i64 (4449+k:Nat)] bB 2 rfl (by decide),ah _⟩
    obtain⟨t,rfl⟩:∃t,c=44032+588*j+28*k+t:=⟨c-(44032+588*j+28*k),by omega⟩;have E:=b.out.trans (GJ a i (t:=t) (by omega) (by omega));subst E;have z:(((44032+588*j+28*k+t:Nat):Int)==((44032+588*j+28*k:Nat):Int))=false:=by simp;omega
    go_wp2;go_ret;refine⟨_,rfl,?_,ah _⟩;have o:=mU wr #[.int .i64 (4352+j:Nat),.int .i64 (4449+k:Nat),.int .i64 (4519+t:Nat)] bB 3 rfl (by decide);rw[show((4519+t:Nat):Int)=4519+(44032+588*(j:Int)+28*k+t)-(44032+588*j+28*k) by omega] at o;have n:ints [4352+j,4449+k,4519+t]=(#[Value.int .i64 (4352+j:Nat),.int .i64 (4449+k:Nat),.int .i64 (4519+(44032+588*(j:Int)+28*k+t)-(44032+588*j+28*k))]:Array Value).toList:=by
     rw[show 4519+(44032+588*(j:Int)+28*k+t)-(44032+588*j+28*k)=((4519+t:Nat):Int) by omega];rfl
    rw[n];exact o
  obtain rfl:j=19:=by omega
  have E:=b.out.trans (y5 (c:=c) (.inr (by omega)));subst E;go_wp2;go_ret;exact⟨_,rfl,iu _ _ _ _,gO _ _⟩
end Go.Proofs.YtmnimbnojdndmaaGreatDoor
