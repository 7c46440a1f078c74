/- State by state it is added up what is possible; no condition. -/
import Derived.Lib.Hide
import Derived.Below
import Derived.Calls
import Derived.ChangeArms
import Derived.Deep.Draws
import Derived.Deep.QuietTactic
import Derived.IntWalk
import Derived.Laws.AppendOwn
import Derived.Laws.Bits64
import Derived.Laws.BitsLemmas
import Derived.Laws.Entries
import Derived.Laws.Rows
import Derived.Laws.Sem
import Derived.Laws.Strings
import Derived.Laws.World
import Derived.Lib.AppendZeros
import Derived.Lib.Strings
import Derived.MakeChecks
import Derived.MapKept
import Derived.Maps.Keyed
import Derived.Orders
import Derived.RangeFuncRecord
import GoSem.Core.Value
import Derived.Lib.Case
import Derived.Lib.Repeat
import Derived.Deep.Quiet
import Derived.Tactics
set_option maxRecDepth 100000
set_option maxHeartbeats 6400000
set_option linter.all false
def aa {p:Prop} (h:p):Go.RowKit.Hid p:=h
def ae {a:Sort _} (x:a):∃y,y=x:=⟨x,rfl⟩
def d':=@Nat.le_refl
def gn:=@List.length_append
def gw:=@List.getElem_mem
def gx:=@List.getElem?_eq_getElem
def gE:=@List.mem_singleton
def gR:=@List.take_succ_eq_append_getElem
def gS:=@Go.RowKit.Below.refl
def ia:=@Nat.le_trans
def ic:=@Nat.zero_le
def ie:=@List.mem_append
def im:=@List.length_cons
def ir:=@List.getD_eq_getElem?_getD
def iu:=@List.take_of_length_le
def iz:=@List.length_map
def iJ:=@List.length_eq_zero_iff
def iR:=@List.getElem?_eq_some_iff
def iS:=@Go.World.ownsRow_nil
def i_:=@List.mem_filter
def jf:=@List.drop_eq_getElem_cons
def jj:=@Go.RowKit.Below.heap_setCell
def jn:=@List.length_take
def js:=@Bool.and_eq_true
def jt:=@List.mem_cons
def ju:=@Array.getElem?_eq_some_iff
def jx:=@List.flatMap_cons
def jz:=@Go.Calls.quiet_of_same
def j5:=@List.map_append
def j7:=@List.flatMap_append
def j8:=@List.mem_map
def j9:=@Go.World.drewN_drewN
def j':=@List.getElem?_append_right
def ke:=@List.length_pos_iff
def kf:=@Go.IntWalk.i64_in
def kh:=@Nat.lt_of_lt_of_le
def ki:=@Nat.lt_or_ge
def kj:=@Nat.pow_le_pow_right
def kl:=@List.append_assoc
def km:=@List.take_append_drop
def kp:=@List.length_nil
def kq:=@List.mem_cons_of_mem
def ks:=@List.mem_append_left
def kt:=@List.not_mem_nil
def kB:=@List.getElem?_append_left
def k_:=@Nat.zero_add
def ld:=@Array.getElem?_eq_none
def lf:=@List.nil_append
def lj:=@List.map_cons
def lk:=@Nat.add_sub_cancel_left
def lp:=@Nat.lt_of_le_of_lt
def lr:=@List.length_filter_le
def lz:=@List.cons_append
def lA:=@Go.Region.noSelect_spec
def lB:=@List.take_length
def lE:=@List.pairwise_append
def lO:=@List.mem_of_getElem?
def lP:=@List.mem_flatMap
def lR:=@List.all_eq_true
def l3:=@List.mem_of_mem_drop
def l4:=@List.mem_iff_getElem
def me:=@List.append_nil
def mm:=@List.set_append_right
def mn:=@Go.World.size_setCell
def mu:=@Bool.or_eq_true
def mw:=@Nat.add_mul
def mx:=@List.getLast?_concat
def my:=@Nat.pow_succ
def mz:=@Array.getElem?_toList
def mB:=@List.mem_of_find?_eq_some
def mL:=@List.map_congr_left
def mN:=@Nat.div_div_eq_div_mul
def mS:=@Nat.mod_lt
def mT:=@List.pairwise_cons
def m5:=@List.map_map
def m6:=@Option.some.inj
def m7:=@List.length_set
def m8:=@List.getElem_map
def m9:=@Nat.mul_le_mul_right
def m_:=@Nat.mul_comm
def nd:=@Go.World.putObj_heap_other
def nf:=@List.mem_range
def nh:=@Go.World.size_alloc
def nj:=@List.mem_append_right
def ns:=@Nat.sub_self
def nu:=@List.getElem?_map
def nB:=@Go.World.cell?_of_block
def nF:=@List.mem_cons_self
def n7:=@List.filter_append
def n8:=@Array.replicate_zero
def oe:=@Array.replicate_succ
def ot:=@List.foldl_cons
def ox:=@Option.getD_some
def oy:=@Nat.and_two_pow_sub_one_eq_mod
def oB:=@List.foldlM_cons
def oE:=@List.append_toArray
def oR:=@List.eq_nil_or_concat
def oS:=@List.sum_cons
def oT:=@Nat.le_of_lt
def oX:=@List.cons.injEq
def pd:=@Go.Lib.toList_data
def pf:=@Go.IntKind.wrap_u64
def ph:=@Go.IntKind.wrap_i64
def pj:=@List.sublist_flatten_of_mem
def pr:=@Ne.symm
def ps:=@List.size_toArray
def pt:=@List.push_toArray
def pw:=@Int.toNat_natCast
def px:=@Int.tmod_eq_emod_of_nonneg
def py:=@Go.Act.put_comm
def pz:=@Nat.le_succ
def pA:=@List.getElem?_eq_none
def pB:=@Nat.eq_zero_or_pos
def pC:=@Nat.div_eq_of_lt
def pD:=@Bool.false_eq_true
def pH:=@BitVec.toNat_ofInt
def pN:=@Array.ext_getElem?
def pP:=@Nat.mul_le_mul
def pR:=@Nat.lt_trichotomy
def pS:=@List.filter_cons_of_pos
def pT:=@List.filter_cons_of_neg
def pZ:=@Nat.min_eq_left
def p6:=@List.dropLast_concat_getLast
def qe:=@Array.getElem?_setIfInBounds
def qk:=@List.filter_eq_self
def qq:=@List.drop_eq_nil_of_le
def qs:=@List.Sublist.length_le
def qt:=@Nat.mul_one
def qu:=@Nat.mul_assoc
def qK:=@List.drop_length
def qS:=@List.length_singleton
def qT:=@List.pairwise_iff_getElem
def q_:=@List.mem_or_eq_of_mem_set
def re:=@List.getLastD_eq_getLast?
def rh:=@Array.getElem?_eq_getElem
def ri:=@Nat.le_succ_of_le
def rj:=@List.mem_of_mem_take
def rk:=@List.foldl_append
def rl:=@List.dropLast_concat
def rm:=@Array.getElem_toList
def rB:=@List.getElem_append_left
def rF:=@Array.setIfInBounds_comm
def rG:=@List.getElem_of_mem
def rH:=@Nat.mod_eq_of_lt
def rI:=@List.pairwise_singleton
def rK:=@List.length_drop
def rL:=@List.getLast?_eq_some_getLast
def rN:=@List.set_cons_zero
def rS:=@List.drop_of_length_le
def se:=@Go.Calls.mono
def sf:=@Go.Oper.apart_spec
def sg:=@List.sum_append
def so:=@Go.Lib.wpList_append_run
def sq:=@Array.getElem?_modify
def sr:=@Nat.one_mul
def su:=@List.getElem?_set_ne
def sx:=@Bool.or_eq_false_iff
def sy:=@Array.getElem_modify
def sA:=@Nat.lt_succ_self
def sB:=@Nat.le_of_not_lt
def sC:=@Nat.add_zero
def sE:=@List.map_nil
def sO:=@List.flatMap_map
def sR:=@BitVec.toNat_and
def sS:=@List.getLast?_eq_getElem?
def sT:=@Nat.mul_le_mul_left
def sX:=@List.mem_map_of_mem
def sY:=@Array.length_toList
def s_:=@List.range_succ
def ta:=@Nat.add_sub_cancel
def tc:=@Nat.pow_pos
def td:=@Nat.mul_add
def te:=@List.map_id
def tf:=@List.getElem?_cons_succ
def tg:=@Go.MapKept.run_getObj_map
def th:=@List.map_set
def ti:=@List.getElem_cons_zero
def tj:=@List.getElem?_set_self
def tl:=@List.filter_eq_nil_iff
def tm:=@List.singleton_append
def tn:=@List.getElem?_toArray
def tp:=@List.map_toArray
def tt:=@Go.Sem.run_bind'
def tz:=@Nat.lt_irrefl
def tA:=@Nat.add_assoc
def tD:=@Nat.div_lt_of_lt_mul
def tE:=@List.getLastD_concat
def tG:=@List.eq_nil_of_length_eq_zero
def tI:=@List.dropLast_subset
def tM:=@Nat.not_lt_zero
def tR:=@Nat.div_le_self
def tS:=@List.nodup_cons
def tU:=@List.find?_some
def tW:=@Bool.eq_iff_iff
def t_:=@List.flatten_append
def ue:=@Go.ByteArray.toList_eq
def ur:=@Nat.zero_mul
def ux:=@Nat.mul_lt_mul_of_pos_right
def uJ:=@Nat.lt_trans
def vb:=@Nat.le_of_eq
def vd:=@Nat.add_right_comm
def vf:=@List.set_cons_succ
def vh:=@List.setIfInBounds_toArray
def vi:=@List.getElem?_take
def vj:=@Go.DataW.trod_int
def vm:=@Go.World.cell?_setCell_same'
def vp:=@List.getLast?_eq_some_iff
def vq:=@List.getElem_append_right
def vr:=@Nat.add_mod
def vt:=@List.take_add_one
def vu:=@List.flatten_cons
def vA:=@Option.isSome_iff_exists
def we:=@List.eq_of_mem_replicate
def wj:=@ByteArray.ext
def wm:=@Array.size_setIfInBounds
def wt:=@Go.World.block_lt_of_cell?
def xb:=@List.getElem?_cons_zero
def xd:=@Go.IntKind.wrap_i32
def xf:=@Nat.ne_of_lt
def xi:=@Nat.add_comm
def xj:=@List.getElem_cons_succ
def xm:=@Int.not_lt
def xo:=@Option.map_some
def xp:=@Nat.one_ne_zero
def xr:=@Nat.mod_add_div
def xt:=@Nat.div_lt_self
def xA:=@Nat.div_add_mod
def xB:=@Int.natCast_mul
def xF:=@List.length_replicate
def xT:=@List.countP_le_length
def x3:=@List.concat_eq_append
def x4:=@Nat.add_mul_div_left
def x5:=@List.set_append_left
def x6:=@Bool.false_and
def x7:=@List.getElem_set_ne
def yd:=@List.drop_succ_cons
def ye:=@Nat.pow_succ'
def yi:=@List.map_singleton
def yk:=@List.getElem?_drop
def yp:=@Go.wpList_load_row
def yq:=@Array.any_eq_true'
def yr:=@Go.Value.slice.injEq
def yy:=@Option.some.injEq
def yW:=@Go.Maps.Keyed.of_law
def y4:=@List.pairwise_map
def y6:=@List.getElem_take
def zf:=@List.any_eq_false
def zr:=@Array.all_eq_true_iff_forall_mem
def zt:=@Nat.shiftLeft_eq
def zv:=@List.zipIdx_cons
def zy:=@List.countP_cons
def zE:=@Int.natCast_ediv
def zF:=@Nat.shiftLeft_add_eq_or_of_lt
def zX:=@Nat.div_one
def Ai:=@Go.Value.agg.injEq
def An:=@List.zipIdx_nil
def As:=@List.getLast?_cons_of_ne_nil
def Ax:=@Nat.mod_mul_right_div_self
def AC:=@List.take_take
def AF:=@List.tail_append_of_ne_nil
def AG:=@List.drop_drop
def AI:=@Int.tdiv_eq_ediv_of_nonneg
def AK:=@Bool.and_false
def AM:=@Array.mk.injEq
def AN:=@Go.World.cell?_setCell_other
def AS:=@Go.MakeChecks.laidMetH_plain
namespace Go.Cd
def hk (c:Nat):Nat:=
 if 4352<=c/\c<4371 then 1 else if 4449<=c/\c<4470 then 2 else if 4520<=c/\c<4547 then 3
 else if ¬(44032<=c/\c<55204) then 0 else if (c-44032) % 28=0 then 4 else 5
def dI (c:Nat):List Nat:=
 if hk c=4 then [4352+(c-44032) / 588,4449+(c-44032) % 588 / 28]
 else if hk c=5 then [c-(c-44032) % 28,4519+(c-44032) % 28] else []
def hparts (c:Nat):List Nat:=
 if hk c=4 then [4352+(c-44032) / 588,4449+(c-44032) % 588 / 28]
 else if hk c=5 then [4352+(c-44032) / 588,4449+(c-44032) % 588 / 28,4519+(c-44032) % 28] else []
def vU (c:Nat):hk c<6:=by unfold hk;repeat' split <;> first|decide|skip
def UL {c:Nat}:4<=hk c↔44032<=c/\c<55204:=by
 unfold hk
 split
 ·omega
 split
 ·omega
 split
 ·omega
 split
 ·omega
 split <;> omega
def oQ {c:Nat}:hk c=4↔44032<=c/\c<55204/\(c-44032) % 28=0:=by
 unfold hk
 split
 ·omega
 split
 ·omega
 split
 ·omega
 split
 ·omega
 split <;> omega
def kI {c:Nat}:hk c=5↔44032<=c/\c<55204/\(c-44032) % 28≠0:=by
 unfold hk
 split
 ·omega
 split
 ·omega
 split
 ·omega
 split
 ·omega
 split <;> omega
def UM {c:Nat}:hk c=1↔4352<=c/\c<4371:=by
 unfold hk
 split
 ·simp[*]
 rename_i h;constructor
 ·split
  ·omega
  split
  ·omega
  split
  ·omega
  split <;> omega
 intro a;exact absurd a h
def Qc {c:Nat} (h:hk c=5):hk (c-(c-44032) % 28)=4:=by
 rw[kI] at h;rw[oQ];omega
def A8 {c:Nat} (h:hk c=5):dI (c-(c-44032) % 28)=[4352+(c-44032) / 588,4449+(c-44032) % 588 / 28]:=by
 have d:=Qc h;unfold dI;rw[if_pos d];rw[kI] at h;have a:(c-(c-44032) % 28-44032) / 588=(c-44032) / 588:=by omega
 have b:(c-(c-44032) % 28-44032) % 588 / 28=(c-44032) % 588 / 28:=by omega
 rw[a,b]
def Ez {c x:Nat} (h:x∈hparts c):x<4547/\4352<=x:=by
 have:=mS (c-44032) (show 28 > 0 by decide);have:(c-44032) % 588 / 28<21:=by omega
 unfold hparts at h;by_cases a:hk c=4
 ·rw[if_pos a] at h;have d:(c-44032) / 588<19:=by rw[oQ] at a;omega
  clear a;generalize (c-44032) % 588 / 28=v at *;generalize (c-44032) / 588=l at *;simp only[jt,kt,or_false] at h;rcases h with rfl|rfl <;> omega
 rw[if_neg a] at h;by_cases b:hk c=5
 ·rw[if_pos b] at h;have d:(c-44032) / 588<19:=by rw[kI] at b;omega
  clear a b;generalize (c-44032) % 588 / 28=v at *;generalize (c-44032) / 588=l at *;generalize (c-44032) % 28=t at *;simp only[jt,kt,or_false] at h;rcases h with rfl|rfl|rfl <;> omega
 rw[if_neg b] at h;simp at h
def xS {c:Nat}:dI c=[]↔hk c<4:=by
 unfold dI;have:=vU c
 split
 ·simp;omega
 split
 ·simp;omega
 simp;omega
def iC {c:Nat}:hparts c=[]↔hk c<4:=by
 unfold hparts;have:=vU c
 split
 ·simp;omega
 split
 ·simp;omega
 simp;omega
structure aG where
 code:Nat
 cls:Nat
 map:List Nat
deriving DecidableEq
def rowOf (T:List aG) (c:Nat):Option aG:=T.find? λr=>r.code==c
def ai (T:List aG) (c:Nat):Nat:=match rowOf T c with|some r=>r.cls|none=>0
def bP (T:List aG) (c:Nat):List Nat:=match rowOf T c with|some r=>r.map|none=>[]
def mapOf (T:List aG) (c:Nat):List Nat:=if hk c<4 then bP T c else dI c
def iD (M:Nat->List Nat):Nat->Nat->List Nat
 | 0,c=>[c]
 | n+1,c=>if M c=[] then [c] else (M c).flatMap (iD M n)
def dm (M:Nat->List Nat) (l:List Nat):List Nat:=l.flatMap λc=>if M c=[] then [c] else M c
def tJ (M:Nat->List Nat) (l:List Nat):Prop:=∀x∈l,M x=[]
def iK {M:Nat->List Nat} {c:Nat} (h:M c=[]):∀n,iD M n c=[c]
 | 0=>rfl
 | n+1=>by unfold iD;rw[if_pos h]
def EJ {M:Nat->List Nat} {c:Nat} (h:¬M c=[]) (n:Nat):iD M (n+1) c=(M c).flatMap (iD M n):=by
 conv=>lhs;unfold iD
 rw[if_neg h]
def Q8 (M:Nat->List Nat) (n:Nat) (l:List Nat):l.flatMap (iD M (n+1))=(dm M l).flatMap (iD M n):=by
 unfold dm;rw[List.flatMap_assoc];congr 1;funext c;by_cases h:M c=[]
 ·rw[if_pos h,iK h,List.flatMap_singleton,iK h]
 rw[if_neg h,EJ h]
def qF {M:Nat->List Nat}:∀{l:List Nat},tJ M l->dm M l=l
 | [],_=>rfl
 | c::l,h=>by
   unfold dm;rw[jx,if_pos (h c (by simp))];have:=qF (M:=M) (l:=l) (λx a=>h x (by simp[a]));unfold dm at this;rw[this];rfl
def EM (M:Nat->List Nat):∀l:List Nat,l.length<=(dm M l).length
 | []=>d' _
 | c::l=>by
   have a:=EM M l;unfold dm at a⊢;rw[jx,gn,im];have:1<=(if M c=[] then [c] else M c).length:=by
    split
    ·simp
    rename_i h;exact ke.2 h
   omega
def steps (M:Nat->List Nat):Nat->List Nat->List Nat
 | 0,l=>l
 | n+1,l=>steps M n (dm M l)
def A_ (M:Nat->List Nat):∀(n:Nat) (l:List Nat),steps M n l=l.flatMap (iD M n)
 | 0,l=>by
   show l=_;have:iD M 0=λc=>[c]:=rfl;rw[this]
   induction l with
   | nil=>rfl
   | cons c l ih=>rw[jx,<-ih];rfl
 | n+1,l=>by
   show steps M n (dm M l)=_;rw[A_ M n,Q8]
def uz (M:Nat->List Nat):∀(n:Nat) (l:List Nat),steps M (n+1) l=dm M (steps M n l)
 | 0,_=>rfl
 | n+1,l=>uz M n (dm M l)
def y7 {M:Nat->List Nat} {l:List Nat} (h:tJ M l):∀n,steps M n l=l
 | 0=>rfl
 | n+1=>by show steps M n (dm M l)=l;rw[qF h];exact y7 h n
def xU (M:Nat->List Nat):∀(n m:Nat) (l:List Nat),steps M (n+m) l=steps M m (steps M n l)
 | 0,m,l=>by rw[k_];rfl
 | n+1,m,l=>by rw[vd];exact xU M n m (dm M l)
def xV (M:Nat->List Nat):∀(n:Nat) (l:List Nat),l.length<=(steps M n l).length
 | 0,_=>d' _
 | n+1,l=>ia (EM M l) (xV M n (dm M l))
def aD (T:List aG) (c:Nat):List Nat:=iD (mapOf T) (T.length+3) c
def fQ (T:List aG) (c:Nat):Prop:=tJ (mapOf T) (aD T c)/\(aD T c).length<=32
def jo (T:List aG) (c:Nat):aD T c=steps (mapOf T) (T.length+3) [c]:=by
 unfold aD;rw[A_];simp
def GK {T:List aG} {c k:Nat} (a:k<=T.length+3) (h:tJ (mapOf T) (steps (mapOf T) k [c])):aD T c=steps (mapOf T) k [c]:=by
 rw[jo,show T.length+3=k+(T.length+3-k) by omega,xU,y7 h]
def aP (c:Nat):Prop:=c<1114112/\(c<55296\/57343<c)
instance (c:Nat):Decidable (aP c):=inferInstanceAs (Decidable (_/\_))
def fH (c:Nat):Nat:=if c<128 then 1 else if c<2048 then 2 else if c<65536 then 3 else 4
def fI (c:Nat):List Nat:=
 if c<128 then [c] else if c<2048 then [192+c / 64,128+c % 64]
 else if c<65536 then [224+c / 4096,128+c / 64 % 64,128+c % 64]
 else [240+c / 262144,128+c / 4096 % 64,128+c / 64 % 64,128+c % 64]
def lD (c:Nat):List UInt8:=(fI c).map UInt8.ofNat
def dQ (l:List Nat):List UInt8:=l.flatMap lD
def A9 (c:Nat):(fI c).length=fH c:=by
 unfold fI fH
 split
 ·rfl
 split
 ·rfl
 split <;> rfl
def jK (c:Nat):(lD c).length=fH c:=by unfold lD;rw[iz,A9]
def oU (c:Nat):1<=fH c/\fH c<=4:=by
 unfold fH
 repeat' split
 all_goals decide
def GI {c:Nat} (h:c<1114112):∀b∈fI c,b<256:=by
 unfold fI;intro b a
 repeat' split at a
 all_goals
  simp only[jt,kt,or_false] at a
 ·omega
 ·rcases a with rfl|rfl <;> omega
 ·rcases a with rfl|rfl|rfl <;> omega
 rcases a with rfl|rfl|rfl|rfl <;> omega
def EE (c:Nat) (l:List Nat):dQ (c::l)=lD c++dQ l:=by simp[dQ]
def JB (l m:List Nat):dQ (l++m)=dQ l++dQ m:=by simp[dQ]
def qE (l:List Nat):(dQ l).length<=4*l.length:=by
 induction l with
 | nil=>simp[dQ]
 | cons c l ih=>
   rw[EE,gn,jK,im];have:=(oU c).2;omega
def rowFine (r:aG):Prop:=aP r.code/\r.cls<255/\r.map.length<=2/\hk r.code=0/\∀x∈r.map,hk x=0/\aP x
def rising:List aG->Prop
 | []=>True
 | r::T=>(∀q∈T,r.code<q.code)/\rising T
def Prim (T:List aG) (X:List Nat) (c:Nat):Prop:=4<=hk c\/∃a b,mapOf T c=[a,b]/\ai T c=0/\ai T a=0/\c∉X
structure aY (T:List aG) (X:List Nat):Prop where
 fine:∀r∈T,rowFine r
 rise:rising T
 full:∀r∈T,fQ T r.code
 pair:∀r∈T,∀q∈T,r.map.length=2->r.map=q.map->Prim T X r.code->Prim T X q.code->r=q
def DF {l m:List aG}:rising (l++m)↔rising l/\rising m/\∀r∈l,∀q∈m,r.code<q.code:=by
 induction l with
 | nil=>simp[rising]
 | cons a l ih=>
   simp only[lz,rising,ih,ie,jt];constructor
   ·rintro⟨c,g,f,d⟩;refine⟨⟨λq b=>c q (.inl b),g⟩,f,?_⟩;rintro r (rfl|e) q b
    ·exact c q (.inr b)
    exact d r e q b
   rintro⟨⟨c,g⟩,f,d⟩;refine⟨?_,g,f,λr e q b=>d r (.inr e) q b⟩;rintro q (b|b)
   ·exact c q b
   exact d a (.inl rfl) q b
def rU:∀{T:List aG},rising T->∀{i j:Nat} (b:i<T.length) (a:j<T.length),i<j->T[i].code<T[j].code
 | _::T,h,0,j+1,_,a,_=>h.1 _ (gw (by simpa using a))
 | _::T,h,i+1,j+1,b,a,hij=>rU (T:=T) h.2 (by simpa using b) (by simpa using a) (by omega)
def Nr {T:List aG} (h:rising T) {r q:aG} (d:r∈T) (c:q∈T) (e:r.code=q.code):r=q:=by
 obtain⟨i,b,rfl⟩:=rG d;obtain⟨j,a,rfl⟩:=rG c;rcases pR i j with h1|rfl|h1
 ·have:=rU h b a h1;omega
 ·rfl
 have:=rU h a b h1;omega
def aaJ {T:List aG} (h:rising T) {r:aG} (a:r∈T):rowOf T r.code=some r:=by
 unfold rowOf;cases e:T.find? λq=>q.code==r.code with
 | none=>exact absurd (List.find?_eq_none.1 e r a) (by simp)
 | some q=>
   have c:=mB e;have b:=tU e;rw[Nr h c a (by simpa using b)]
def gy {T:List aG} {c:Nat} {r:aG} (h:rowOf T c=some r):r∈T/\r.code=c:=
 ⟨mB h,by simpa using tU h⟩
def Ra {T:List aG} (h:rising T) {r:aG} (b:r∈T) (a:hk r.code<4):mapOf T r.code=r.map:=by
 unfold mapOf bP;rw[if_pos a,aaJ h b]
def Bb {T:List aG} {X:List Nat} (h:rising T) {r:aG} (e:r∈T) (d:hk r.code<4) (c:Prim T X r.code):r.map.length=2:=by
 rcases c with c|⟨a,b,c,_⟩
 ·omega
 rw[Ra h e d] at c;rw[c];rfl
def aY.nil (X:List Nat):aY [] X:=⟨by simp,trivial,by simp,by simp⟩
def lJ (d:Nat):UInt8:=if d<10 then UInt8.ofNat (48+d) else UInt8.ofNat (55+d)
def jw:Nat->Nat->List UInt8
 | 0,_=>[]
 | k+1,n=>jw k (n / 16)++[lJ (n % 16)]
def j6 (n:Nat):Nat:=if n<65536 then 4 else if n<1048576 then 5 else 6
def aV (n:Nat):List UInt8:=jw (j6 n) n
theorem qH:∀(k n:Nat),(jw k n).length=k
 | 0,_=>rfl
 | k+1,n=>by unfold jw;rw [gn,qH];rfl
theorem Rf (n:Nat):4<=j6 n∧j6 n<=6:=by
 unfold j6
 repeat' split
 all_goals decide
theorem bU (n:Nat):4<=(aV n).length∧(aV n).length<=6:=by unfold aV;rw [qH];exact Rf n
theorem UW:∀d,d<16->(lJ d).toNat=if d<10 then 48+d else 55+d:=by decide
def mD (v:Nat):List Nat->Nat
 | []=>v
 | d::l=>mD (v*16+d) l
theorem qI:∀(l m:List Nat) (v:Nat),mD v (l++m)=mD (mD v l) m
 | [],_,_=>rfl
 | d::l,m,v=>qI l m _
def g_:Nat->Nat->List Nat
 | 0,_=>[]
 | k+1,n=>g_ k (n / 16)++[n % 16]
theorem lK:∀(k n:Nat),jw k n=(g_ k n).map lJ
 | 0,_=>rfl
 | k+1,n=>by unfold jw g_;rw [j5,lK k];rfl
theorem nZ:∀(k n:Nat),∀d∈g_ k n,d<16
 | 0,_=>by simp [g_]
 | k+1,n=>by
   intro d hd;unfold g_ at hd;rcases ie.1 hd with h|h
   ·exact nZ k _ d h
   ·rw [gE.1 h];omega
theorem xW:∀(k n:Nat),(g_ k n).length=k
 | 0,_=>rfl
 | k+1,n=>by unfold g_;rw [gn,xW];rfl
theorem Bc:∀(k n:Nat),n<16 ^ k->mD 0 (g_ k n)=n
 | 0,n,h=>by simp at h;subst h;rfl
 | k+1,n,h=>by
   unfold g_;rw [qI,Bc k (n / 16) (by rw [my] at h;omega)];show (n / 16)*16+n % 16=n;omega
theorem uB:∀(k n:Nat),16 ^ k<=n->∀d,(g_ (k+1) n)[0]? = some d->n<16 ^ (k+1)->d≠0
 | 0,n,h,d,hd,hn=>by
   simp [g_] at hd;simp at hn h;omega
 | k+1,n,h,d,hd,hn=>by
   unfold g_ at hd;rw [kB (by rw [xW];omega)] at hd;refine uB k (n / 16) ?_ d hd ?_
   ·rw [my] at h;rw [Nat.le_div_iff_mul_le (by decide)];exact h
   ·rw [my] at hn;exact tD (by rw [m_];exact hn)
theorem UX {n:Nat} (h:n<1114112):n<16 ^ j6 n:=by
 unfold j6
 repeat' split
 ·simpa using ‹n<65536›
 ·simpa using ‹n<1048576›
 ·have:(16:Nat) ^ 6=16777216:=by decide
  omega
theorem Rh {n:Nat} (h:n<1114112) (hl:4<(aV n).length):∀b,(aV n)[0]? = some b->b≠48:=by
 intro b hb;unfold aV at hl hb;rw [qH] at hl;rw [lK,nu] at hb;cases e:(g_ (j6 n) n)[0]? with
 | none=>rw [e] at hb;cases hb
 | some d=>
   rw [e] at hb;simp only [xo,yy] at hb;have h0:d≠0:=by
    unfold j6 at hl e
    split at hl
    ·omega
    ·split at hl
     ·rename_i h1 h2;rw [if_neg h1,if_pos h2] at e;exact uB 4 n (by simpa using h1) d e (by simpa using h2)
     ·rename_i h1 h2;rw [if_neg h1,if_neg h2] at e
      exact uB 5 n (by simpa using h2) d e (by have:(16:Nat) ^ 6=16777216:=by decide
                                               omega)
   have hd:d<16:=nZ _ _ d (lO e);rintro rfl;have:=congrArg UInt8.toNat hb;rw [UW d hd] at this
   split at this <;> simp at this <;> omega
def iP (n:Nat):List UInt8:=
 if n<10 then [UInt8.ofNat (48+n)] else if n<100 then [UInt8.ofNat (48+n / 10),UInt8.ofNat (48+n % 10)]
 else [UInt8.ofNat (48+n / 100),UInt8.ofNat (48+n / 10 % 10),UInt8.ofNat (48+n % 10)]
def dD:List Nat->List UInt8
 | []=>[]
 | [c]=>aV c
 | c::d::l=>aV c++32::dD (d::l)
def ae5 (r:aG):List (List UInt8):=[aV r.code,[88],[],iP r.cls,[],dD r.map,[],[],[],[],[],[],[],[],[]]
def kD (r:aG):List UInt8:=aV r.code++[59,88,59,59]++iP r.cls++[59,59]++dD r.map++[59,59,59,59,59,59,59,59,59]
def bA (l:List (List UInt8)):List UInt8:=l.flatMap fun x=>x++[10]
def iV (T:List aG):List UInt8:=bA (T.map kD)
def dW:List Nat->List Nat->List Nat
 | _,[]=>[]
 | seen,c::l=>if c∈seen then dW (seen++[c]) l else c::dW (seen++[c]) l
def eP (X:List Nat):List UInt8:=bA ((dW [] X).map aV)
def eH (b:UInt8):Prop:=32<=b.toNat∧b.toNat<=126
theorem Nu:∀d,d<16->eH (lJ d)∧lJ d≠59∧lJ d≠32∧lJ d≠35∧lJ d≠60:=by unfold eH;decide
theorem dX (n:Nat):∀b∈aV n,eH b∧b≠59∧b≠32∧b≠35∧b≠60:=by
 intro b hb;unfold aV at hb;rw [lK] at hb;obtain ⟨d,hd,rfl⟩:=j8.1 hb;exact Nu d (nZ _ _ d hd)
theorem xX:∀d,d<10->eH (UInt8.ofNat (48+d))∧UInt8.ofNat (48+d)≠59:=by unfold eH;decide
theorem Nv {n:Nat} (h:n<1000):∀b∈iP n,eH b∧b≠59:=by
 intro b hb;unfold iP at hb
 repeat' split at hb
 all_goals simp only [jt,kt,or_false] at hb
 ·rw [hb];exact xX _ (by omega)
 ·rcases hb with rfl|rfl <;> exact xX _ (by omega)
 ·rcases hb with rfl|rfl|rfl <;> exact xX _ (by omega)
theorem Bd:∀(l:List Nat),∀b∈dD l,eH b∧b≠59
 | [],b,h=>by simp [dD] at h
 | [c],b,h=>⟨(dX c b h).1,(dX c b h).2.1⟩
 | c::d::l,b,h=>by
   unfold dD at h;rcases ie.1 h with h|h
   ·exact ⟨(dX c b h).1,(dX c b h).2.1⟩
   ·rcases jt.1 h with rfl|h
    ·unfold eH;decide
    ·exact Bd (d::l) b h
theorem vY (n:Nat):1<=(iP n).length∧(iP n).length<=3:=by
 unfold iP
 repeat' split
 all_goals simp
theorem n_ {l:List Nat} (h:l.length<=2):(dD l).length<=13:=by
 match l,h with
 | [],_=>simp [dD]
 | [c],_=>have:=bU c;simp only [dD];omega
 | [c,d],_=>have:=bU c;have:=bU d;simp only [dD,gn,im];omega
theorem EY {r:aG} (h:r.map.length<=2):(kD r).length<=37:=by
 have h1:=bU r.code;have h2:=vY r.cls;have h3:=n_ h;unfold kD;simp only [gn,im,kp];omega
def IB (d:Nat):UInt8:=if d<10 then UInt8.ofNat (48+d) else UInt8.ofNat (87+d)
def sZ (k n:Nat):List UInt8:=(g_ k n).map IB
theorem C_ (k n:Nat):(sZ k n).length=k:=by simp [sZ,xW]
theorem vo:∀(k n:Nat),g_ (k+1) n=(n / 16 ^ k % 16)::g_ k n
 | 0,n=>by simp [g_]
 | k+1,n=>by
   rw [g_,vo k (n / 16)]
   conv=>rhs;rw [g_]
   rw [mN,←ye];rfl
theorem Gh (k n:Nat):sZ (k+1) n=IB (n / 16 ^ k % 16)::sZ k n:=by unfold sZ;rw [vo];rfl
theorem QK:∀d,d<16→Lib.upperB (IB d)=lJ d∧(IB d).toNat<128:=by decide
theorem aaB (k n:Nat):Lib.toUpperA (sZ k n)=jw k n:=by
 unfold Lib.toUpperA sZ;rw [lK,m5];exact mL fun d hd=>(QK d (nZ k n d hd)).1
theorem Pq (k n:Nat) (j:Nat) (b:UInt8) (h:(sZ k n)[j]? = some b):b.toNat<128:=by
 obtain ⟨d,hd,rfl⟩:=j8.1 (lO h);exact (QK d (nZ k n d hd)).2
theorem Mo (k n:Nat) (h:n<16 ^ k):∀j,jw (k+j) n=Lib.repeatL [48] j++jw k n
 | 0=>rfl
 | j+1=>by
   have hl:n<16 ^ (k+j):=kh h (kj (by decide) (by omega));have e:jw (k+j+1) n=48::jw (k+j) n:=by
    rw [lK,vo,pC hl,lj,←lK];rfl
   rw [show k+(j+1)=k+j+1 from rfl,e,Mo k n h j];rfl
def aaC (k n:Nat):Prop:=n<16 ^ (k+1)∧(k=0∨16 ^ k≤n)
theorem W9 {k n:Nat} (h:aaC k n) (hn:n<1114112):aV n=Lib.repeatL [48] (4-(k+1))++jw (k+1) n∧k+1≤6:=by
 obtain ⟨h1,h2⟩:=h;have hp:∀j,16 ^ j≤n→j≤5:=fun j hj=>by
  rcases ki j 6 with h|h
  ·omega
  ·have:(16:Nat) ^ 6≤16 ^ j:=kj (by decide) h;omega
 have hk5:k≤5:=by rcases h2 with h2|h2
                  ·omega
                  ·exact hp k h2
 refine ⟨?_,by omega⟩;unfold aV j6;have c4:(16:Nat) ^ 4=65536:=rfl;have c5:(16:Nat) ^ 5=1048576:=rfl;by_cases a:n<65536
 ·rw [if_pos a];have hk:k+1≤4:=by
   rcases h2 with h2|h2
   ·omega
   ·rcases ki k 4 with h|h
    ·omega
    ·have:(16:Nat) ^ 4≤16 ^ k:=kj (by decide) h;omega
  have:=Mo (k+1) n h1 (4-(k+1));rw [show k+1+(4-(k+1))=4 by omega] at this;exact this
 ·have hk:4≤k:=by
   rcases ki k 4 with h|h
   ·have:(16:Nat) ^ (k+1)≤16 ^ 4:=kj (by decide) (by omega);omega
   ·exact h
  rw [show 4-(k+1)=0 by omega];show _=jw (k+1) n;rw [if_neg a];by_cases b:n<1048576
  ·rw [if_pos b];have:k=4:=by
    rcases ki k 5 with h|h
    ·omega
    ·have h2:16 ^ k≤n:=by omega
     have:(16:Nat) ^ 5≤16 ^ k:=kj (by decide) h;omega
   rw [this]
  ·rw [if_neg b];have:k=5:=by
    rcases ki k 5 with h|h
    ·have:(16:Nat) ^ (k+1)≤16 ^ 5:=kj (by decide) (by omega);omega
    ·omega
   rw [this]
section
open Go.RowKit
def AO (w:World):Below w.heap.size w w:=gS _ _
def af {a b c:World} (h:Below a.heap.size a b) (k:Below b.heap.size b c):Below a.heap.size a c:=h.trans (k.mono h.size)
structure Gr (w:World) where
 tw:World
 ext:Below w.heap.size w tw
section
variable {P : Program} {ops : Array Oper} {md : Region.Mode} {head : Array Bool}
def QP (Q:Exit->Act->World->Prop):Exit->Act->World->Prop
 | .panic _,_,_=>False
 | e,a,w=>Q e a w
def Am {Q:Exit->Act->World->Prop} {i:Nat} {a:Act} {w:World} {K:Act->World->Prop} (b:wpOp P ops (QP Q) i K a w):wpOp P ops Q i K a w:=by
 unfold wpOp at *
 split
 ·rename_i h;simpa only[h] using b
 rename_i o h;simp only[h] at b
 split
 ·rename_i d;simp only[d,if_true] at b;rcases b with b|⟨j,l⟩
  ·refine .inl ?_;unfold Oper.wp at *;generalize (execOp a.eval o).run P w=r at *;cases r with
   | ok n w'=>
     cases n <;> simp only[Oper.upon] at b⊢
     case enter f args=>
      refine se b λe k g=>?_;cases e with
      | returned u=>exact g
      | panicked c=>exact g.elim
      | outgrown=>exact g
     all_goals exact b
   | halt x w'=>cases x <;> simp only[Oper.upon] at b⊢;exact b.elim
  exact .inr ⟨j,l⟩
 rename_i d;simpa only[d,if_false,pD] using b
def kZ (head listed:Array Bool):Bool:=(List.range head.size).all λi=>!head.getD i false||listed.getD i false
def jH {head a:Array Bool} (h:kZ head a=true) {i:Nat} (c:head.getD i false=true):a.getD i false=true:=by
 have b:i<head.size:=by
  rcases ki i head.size with h'|h'
  ·exact h'
  simp[ld h'] at c
 have:=lR.1 h i (nf.2 b);rw[c] at this;simpa using this
def Closed (md:Region.Mode) (ops:Array Oper) (listed:Array Bool):Prop:=
 ∀j o,ops[j]? = some o->listed.getD j false=true->∀e∈o.after,Region.binds md e=true->listed.getD e.on false=true
def waits (md:Region.Mode) (ops:Array Oper) (i:Nat):Nat->Nat->Bool
 | 0,_=>false
 | n+1,j=>match ops[j]? with
   | some o=>o.after.any (λe=>Region.binds md e&&e.on==i)||o.after.any (λe=>Region.binds md e&&waits md ops i n e.on)
   | none=>false
def lh {i:Nat} {a:Array Bool} (k:Closed md ops a) (l:a.getD i false=false):∀(n j:Nat) (f:Oper),ops[j]? = some f->waits md ops i n j=true->
 ¬∀e∈f.after,Region.binds md e=true->a.getD e.on false=true
 | 0,_,_,_,h=>by cases h
 | n+1,j,f,hj,h=>by
   intro c;simp only[waits,hj,mu] at h;rcases h with h|h
   ·obtain⟨e,d,b⟩:=yq.1 h;simp only[js,beq_iff_eq] at b;have:=c e d b.1;rw[b.2,l] at this;cases this
   obtain⟨e,d,b⟩:=yq.1 h;simp only[js] at b;have m:=c e d b.1;cases g:ops[e.on]? with
   | none=>rw[show waits md ops i n e.on=false from by cases n <;> simp[waits,g]] at b;exact absurd b.2 (by simp)
   | some o=>exact lh k l n e.on o g b.2 (k e.on o g m)
def Closed.step {a:Array Bool} (l:Closed md ops a) {j:Nat} (m:j∈Region.ready md ops a):Closed md ops (a.setIfInBounds j true):=by
 intro k o f h e g i;apply getD_set_true;by_cases c:j=k
 ·subst c;obtain⟨_,o',d,b⟩:=mem_ready.1 m;rw[d] at f;cases f;exact b e g i
 rw[getD_set_ne false c] at h;exact l k o f h e g i
def UB (md:Region.Mode) (ops:Array Oper) (head listed:Array Bool) (i:Nat):Bool:=
 match ops[i]? with
 | none=>false
 | some oi=>(List.range ops.size).all λj=>j==i||listed.getD j true||match ops[j]? with
    | some oj=>oj.after.any (λe=>Region.binds md e&&e.on==i)||(head.getD j false&&oi.apart ops oj)||waits md ops i ops.size j
    | none=>true
def oK {i:Nat} {m:Oper} {a:Array Bool} (o:ops[i]? = some m) (h:UB md ops head a i=true) (j:Nat) (d:Oper)
 (l:ops[j]? = some d) (g:j≠i) (f:a.getD j true=false) (c:∀e∈d.after,Region.binds md e=true->e.on≠i) :
 (head.getD j false=true/\m.apart ops d=true)\/waits md ops i ops.size j=true:=by
 simp only[UB,o,lR,nf] at h;have b:=h j (ju.1 l).1;simp only[l,mu,beq_iff_eq,g,false_or,f,pD] at b;rcases b with (b|b)|b
 ·obtain⟨e,n,k⟩:=yq.1 b;simp only[js,beq_iff_eq] at k;exact absurd k.2 (c e n k.1)
 ·exact .inl (by simpa using b)
 exact .inr b
def vM (md:Region.Mode) (ops:Array Oper) (listed:Array Bool):Bool:=
 (List.range ops.size).all λj=>!listed.getD j false||match ops[j]? with
   | some o=>o.after.all λe=>!Region.binds md e||listed.getD e.on false
   | none=>true
def oL {a:Array Bool} (h:vM md ops a=true):Closed md ops a:=by
 intro j o c d e f i;have b:=lR.1 h j (nf.2 (ju.1 c).1);simp only[d,c,Bool.not_true,Bool.false_or] at b;have g:=zr.1 b e f;simpa [i] using g
def tq (md:Region.Mode) (ops:Array Oper) (head:Array Bool):List Nat->Array Bool->Bool
 | [],_=>true
 | i::l,listed=>(Region.ready md ops listed).contains i&&UB md ops head listed i&&head.getD i false&&tq md ops head l (listed.setIfInBounds i true)
def aS:List Nat->Array Bool->Array Bool
 | [],listed=>listed
 | i::l,listed=>aS l (listed.setIfInBounds i true)
def Eo:Op->Bool
 | .move _|.assign _|.pick ..|.load ..|.binOp ..|.unOp ..|.convert ..|.slice ..|.fieldAddr ..|.field ..|.indexAddr ..|.index ..|.extract ..|.build ..|.nilCheck _=>true
 | .call { callee:=.builtin b,.. }=>match b with|.len|.cap|.max|.min=>true|_=>false
 | _=>false
def uj (s:Sem Value) (w:World) (f:FuncId) (args:Array Value) (w':World):(s.bind λx=>Sem.pure (Next.value x)).run P w≠.ok (.enter f args) w':=by
 rw[tt];cases s.run P w with
 | ok x w1=>intro h;cases h
 | halt x w1=>intro h;cases h
def Gs {P:Program} {ρ:Operand->Value} {x:Operand} {dst:Option Tmp} {type:TypeId} {pos:String} {after:Array Edge} {guard:Option (Nat×Bool)} (w:World) (f:FuncId) (args:Array Value) (w':World):(execOp ρ { dst:=dst,op:=.nilCheck x,type:=type,pos:=pos,after:=after,guard:=guard }).run P w≠.ok (.enter f args) w':=by
 simp only[execOp]
 split
 ·intro h;cases h
 ·intro h;cases h
 ·intro h;cases h
 ·split
  ·intro h;cases h
  ·show(Sem.bind _ _).run P w≠_;rw[tt];cases (program:Sem Program).run P w with
   | halt x w1=>intro h;cases h
   | ok p w1=>
     show(Sem.bind _ _).run P w1≠_;rw[tt];cases (nilAhead (p.types.size+Made.depth) _ _ _).run P w1 with
     | halt x w2=>intro h;cases h
     | ok b w2=>
       show Sem.run P (if (b !=some false)=true then _ else _) w2≠_
       split
       ·show(Sem.bind _ _).run P w2≠_;rw[tt];intro h;generalize Sem.run P (unsupported _) w2=r at h;cases r with
        | halt x w3=>cases h
        | ok x w3=>cases h
       intro h;cases h
  intro h;cases h
 intro h;cases h
def Jf {ρ:Operand->Value} {o:Oper} (h:Eo o.op=true) (w:World) (f:FuncId) (args:Array Value) (w':World):(execOp ρ o).run P w≠.ok (.enter f args) w':=by
 obtain⟨dst,op,type,pos,after,guard⟩:=o;cases op <;> simp only[Eo,pD] at h
 case move x=>intro h;cases h
 case assign x=>intro h;cases h
 case nilCheck x=>exact Gs _ _ _ _
 case pick c a b=>
  simp only[execOp];cases ρ c <;> first|(intro h;cases h;done)|(intro h;simp[asBool] at h)
 case call c=>
  obtain⟨callee,d,e⟩:=c;cases callee <;> simp only[pD] at h
  case builtin b=>
   cases b <;> simp only[pD] at h
   all_goals exact uj _ _ _ _ _
 all_goals exact uj _ _ _ _ _
def AQ (ops:Array Oper) (l:List Nat):Bool:=l.all λi=>match ops[i]? with|some o=>Eo o.op|none=>false
def bu (ops:Array Oper) (l:List Nat):List Oper:=l.filterMap (ops[·]?)
def nth:List Oper->Nat->Option Oper
 | [],_=>none
 | o::_,0=>some o
 | _::l,i+1=>nth l i
def Gt:∀(l:List Oper) (i:Nat),nth l i=l[i]?
 | [],_=>by simp[nth]
 | _::_,0=>by simp[nth]
 | _::l,i+1=>by simp[nth,Gt l i]
def fM {i:Nat} {o:Oper} (h:nth ops.toList i=some o):ops[i]? = some o:=by rw[Gt] at h;simpa using h
def aA {C:World->Prop} {K:Act->Prop} {i:Nat} {o:Oper} {l:List Nat} {a:Act} (b:nth ops.toList i=some o) (h:wpQuiet P ops C K (o::bu ops l) a):wpQuiet P ops C K (bu ops (i::l)) a:=by
 have c:bu ops (i::l)=o::bu ops l:=by simp[bu,fM b]
 rw[c];exact h
def az {C:World->Prop} {K:Act->Prop} {a:Act} (h:K a):wpQuiet P ops C K (bu ops []) a:=h
def tail_cons {Q:Exit->Act->World->Prop} {i:Nat} {o:Oper} {l:List Nat} {a:Act} {w:World} (b:nth ops.toList i=some o) (h:wpList P ops Q (o::bu ops l) a w):wpList P ops Q (bu ops (i::l)) a w:=by
 have c:bu ops (i::l)=o::bu ops l:=by simp[bu,fM b]
 rw[c];exact h
def tail_nil {Q:Exit->Act->World->Prop} {a:Act} {w:World} (h:Q .normal a w):wpList P ops (QP Q) (bu ops []) a w:=h
def xE:Op->Bool
 | .move _|.assign _|.pick ..|.extract ..=>true
 | _=>false
def pure_run {ρ:Operand->Value} {o:Oper} (h:xE o.op=true):(∃v,∀w,(execOp ρ o).run P w=.ok (.value v) w/\∀e,((execOp ρ o).runT P w e).2=e)\/(∃s,∀w,(execOp ρ o).run P w=.halt (.stuck s) w/\∀e,((execOp ρ o).runT P w e).2=e):=by
 obtain⟨dst,op,type,pos,after,guard⟩:=o;cases op <;> simp only[xE,pD] at h
 case move x=>exact .inl ⟨ρ x,λw=>⟨rfl,λ_=>rfl⟩⟩
 case assign x=>exact .inl ⟨ρ x,λw=>⟨rfl,λ_=>rfl⟩⟩
 case pick c a b=>
  cases d:ρ c
  case bool t=>cases t <;> exact .inl ⟨_,λw=>by constructor;{ simp only[execOp,d];rfl };{ intro e;simp only[execOp,d];rfl }⟩
  all_goals exact .inr ⟨_,λw=>by constructor;{ simp only[execOp,d];rfl };{ intro e;simp only[execOp,d];rfl }⟩
 case extract x ix=>
  cases d:ρ x
  case tuple vs=>
   cases f:vs[ix]? with
   | none=>exact .inr ⟨_,λw=>by constructor;{ simp only[execOp,d,Instr.extract,f];rfl };{ intro e;simp only[execOp,d,Instr.extract,f];rfl }⟩
   | some y=>exact .inl ⟨y,λw=>by constructor;{ simp only[execOp,d,Instr.extract,f];rfl };{ intro e;simp only[execOp,d,Instr.extract,f];rfl }⟩
  all_goals exact .inr ⟨_,λw=>by constructor;{ simp only[execOp,d,Instr.extract];rfl };{ intro e;simp only[execOp,d,Instr.extract];rfl }⟩
def uk (md:Region.Mode) (ops:Array Oper):List Nat->Array Bool->Bool
 | [],listed=>(Region.ready md ops listed).isEmpty
 | i::l,listed=>(Region.ready md ops listed==[i]||((Region.ready md ops listed).contains i&&Region.free md ops listed i&&(match ops[i]? with|some o=>xE o.op|none=>false)))&&uk md ops l (listed.setIfInBounds i true)
def iB {Q:Exit->Act->World->Prop} (m:Region.noSelect ops=true):∀(l:List Nat) (b:Array Bool) (a:Act) (w:World),
 uk md ops l b=true->wpList P ops (QP Q) (bu ops l) a w->wpAny P md ops (QP Q) l.length b a w
 | [],b,a,w,hB,h=>⟨by simpa [uk] using hB,h⟩
 | i::l,b,a,w,hB,h=>by
   simp only[uk,js,mu,beq_iff_eq] at hB;obtain⟨g,d⟩:=hB;rcases g with g|⟨⟨g,c⟩,k⟩
   ·refine wpAny_all g (by simp) λj t=>?_;obtain rfl:j=i:=by simpa using t
    have p:j∈Region.ready md ops b:=by rw[g];simp
    obtain⟨_,o,f,_⟩:=mem_ready.1 p;have k:bu ops (j::l)=o::bu ops l:=by simp[bu,f]
    rw[k] at h;unfold wpOp;simp only[f];unfold wpList at h
    split
    ·rename_i e;rw[if_pos e] at h;exact h.imp (Oper.wp_mono λa w h=>iB m l _ a w d h) id
    rename_i e;rw[if_neg e] at h;exact iB m l _ _ w d h
   cases f:ops[i]? with
   | none=>rw[f] at k;cases k
   | some o=>
     rw[f] at k;simp only at k;have r:bu ops (i::l)=o::bu ops l:=by simp[bu,f]
     rw[r] at h;unfold wpList at h;by_cases e:Region.wanted o (yielded ops a.tmps)=true
     ·rw[if_pos e] at h;rcases pure_run (P:=P) (ρ:=a.eval) k with⟨v,n⟩|⟨s,n⟩
      ·refine wpAny_take f m c g (λ_ _ _ h=>h.elim) (.inl ⟨e,λw=>(n w).1⟩) (iB m l _ _ w d ?_);rcases h with h|⟨q,_⟩
       ·unfold Oper.wp at h;rw[(n w).1] at h;exact h
       exfalso;have:=q.1;rw[(n w).2] at this;simp at this
      exfalso;rcases h with h|⟨q,_⟩
      ·unfold Oper.wp at h;rw[(n w).1] at h;exact h
      have:=q.1;rw[(n w).2] at this;simp at this
     rw[if_neg e] at h;exact wpAny_take f m c g (λ_ _ _ h=>h.elim) (.inr ⟨by simpa using e,rfl⟩) (iB m l _ _ w d h)
def vN {Q:Exit->Act->World->Prop}:∀(n:Nat) (b:Array Bool) (a:Act) (w:World),wpAny P md ops (QP Q) n b a w->wpAny P md ops Q n b a w
 | 0,_,_,_,h=>⟨h.1,h.2⟩
 | n+1,_,_,_,h=>⟨λh0=>h.1 h0,λi c=>wpOp_mono (λa w h=>vN n _ a w h) (Am (h.2 i c))⟩
end
structure KR where
 rel:World->World->Prop
 refl:∀w,rel w w
 trans:∀{a b c},rel a b->rel b c->rel a c
structure vG (R:KR) (w:World) where
 tw:World
 ext:R.rel w tw
def KR.blocks (S:Nat->Prop):KR:=⟨λw w'=>(∀k,S k->w'.heap[k]? = w.heap[k]?)/\w.heap.size<=w'.heap.size,λ_=>⟨λ_ _=>rfl,d' _⟩,λb a=>⟨λk c=>(a.1 k c).trans (b.1 k c),ia b.2 a.2⟩⟩
def vG.keeps {S:Nat->Prop} {w:World} {b o:Nat} {v:Value} (h:w.cell? ⟨b,o,none⟩=some v) (a:S b):∀g:vG (KR.blocks S) w,g.tw.cell? ⟨b,o,none⟩=some v:=
 λg=>by
  have:=g.ext.1 b a;unfold World.cell? at h⊢;rw[this];exact h
def KR.of_below {S:Nat->Prop} {B:Nat} {w w':World} (h:Below B w w') (c:w.heap.size<=w'.heap.size) (a:∀k,S k->k<B):(KR.blocks S).rel w w':=⟨λk b=>h.block k (a k b),c⟩
def KR.bQ {S:Nat->Prop} {w w':World} {row:Option Nat} (h:w.grownBy w' row) (c:w.heap.size<=w'.heap.size) (a:∀k,S k->k<w.heap.size/\row≠some k):(KR.blocks S).rel w w':=
 ⟨λk b=>h.block k (a k b).1 (λe=>(a k b).2 e.symm),c⟩
def M_:Op->Bool
 | .lookup ..=>true
 | o=>Eo o
def QW {P:Program} {ρ:Operand->Value} {o:Oper} (h:M_ o.op=true) (w:World) (f:FuncId) (args:Array Value) (w':World):(execOp ρ o).run P w≠.ok (.enter f args) w':=by
 by_cases a:Eo o.op=true
 ·exact Jf a w f args w'
 obtain⟨dst,op,type,pos,after,guard⟩:=o;cases op <;> simp only[M_,Eo,not_true_eq_false] at h a
 case lookup t m x c=>exact uj _ _ _ _ _
 all_goals first|(exact absurd h a)|(exact absurd h (by simp))
def rJ (ops:Array Oper) (l:List Nat):Bool:=l.all λi=>match ops[i]? with|some o=>M_ o.op|none=>false
section
variable {R : KR} {P : Program} {ops : Array Oper} {md : Region.Mode} {head : Array Bool}
def Na (R:KR) (P:Program) (ops:Array Oper) (Q:Exit->Act->World->Prop) (i:Nat) (K:Act->World->Prop) (a:Act) (w:World):Prop:=
 wpOp P ops (QP Q) i (λb w'=>R.rel w w'/\K b w') a w
def Jg (R:KR) (P:Program) (md:Region.Mode) (ops:Array Oper) (head:Array Bool) (Q:Exit->Act->World->Prop) (T:Array Bool->Act->World->Prop):Nat->Array Bool->Act->World->Prop
 | 0,listed,a,w=>kZ head listed=true/\T listed a w
 | n+1,listed,a,w=>Region.ready md ops listed≠[]/\
   ∀i∈Region.ready md ops listed,head.getD i false=true/\Na R P ops Q i (Jg R P md ops head Q T n (listed.setIfInBounds i true)) a w
def uo {Q:Exit->Act->World->Prop} {t:Nat}:∀(n:Nat) (b:Array Bool) (a:Act) (w:World),
 Jg R P md ops head Q (λl a w=>wpAny P md ops Q t l a w) n b a w->wpAny P md ops Q (n+t) b a w
 | 0,_,_,_,h=>by simpa using h.2
 | n+1,b,a,w,h=>by
   rw[vd];refine⟨λh0=>absurd h0 h.1,λi e=>?_⟩;exact wpOp_mono (λc w' d=>uo n _ c w' d.2) (Am (h.2 i e).2)
def dZ (R:KR) (P:Program) (ops:Array Oper) (w:World) (o:Oper) (v:Value) (a:Act):Prop:=
 (Region.wanted o (yielded ops a.tmps)=true/\∀w',R.rel w w'->((execOp a.eval o).run P w'=.ok (.value v) w'\/((execOp a.eval o).run P w'=.ok .skip w'/\v=undef)))\/
 (Region.wanted o (yielded ops a.tmps)=false/\v=undef)
def dZ.mono {w w':World} {o:Oper} {v:Value} {a:Act} (h:dZ R P ops w o v a) (e:R.rel w w'):dZ R P ops w' o v a:=
 h.imp (λ⟨d,f⟩=>⟨d,λc b=>f c (R.trans e b)⟩) id
def dZ.of_same {w:World} {o:Oper} {v:Value} {a b:Act} (d:dZ R P ops w o v a) (e:execOp b.eval o=execOp a.eval o)
 (c:Region.wanted o (yielded ops b.tmps)=Region.wanted o (yielded ops a.tmps)):dZ R P ops w o v b:=by
 unfold dZ at *;rw[e,c];exact d
def dZ.Na {Q:Exit->Act->World->Prop} {w:World} {i:Nat} {o:Oper} {v:Value} {a:Act} (e:ops[i]? = some o) (f:dZ R P ops w o v a)
 {K:Act->World->Prop} (h:K (a.put o.dst v) w):Na R P ops Q i K a w:=by
 unfold Cd.Na wpOp;simp only[e];rcases f with⟨c,d⟩|⟨c,rfl⟩
 ·have b:=d w (R.refl _);clear d;rcases b with b|⟨b,rfl⟩
  ·simp only[c,if_true,Oper.wp,b,Oper.upon];exact .inl ⟨R.refl _,h⟩
  simp only[c,if_true,Oper.wp,b,Oper.upon];exact .inl ⟨R.refl _,h⟩
 simp only[c,pD,if_false];exact⟨R.refl _,h⟩
def P9 {Q:Exit->Act->World->Prop} {j:Nat} {i k:Oper} {v:Value} (G:ops[j]? = some k) (C:i.apart ops k=true)
 (y:∀B b,i.op≠.select B b) (t:∀B b,k.op≠.select B b)
 {K:Act->World->Prop} {a:Act} {w:World}
 (o:dZ R P ops w i v a) (h:Na R P ops Q j K (a.put i.dst v) w) :
 Na R P ops Q j (λF w'=>dZ R P ops w' i v F/\K (F.put i.dst v) w') a w:=by
 obtain⟨A,s,z⟩:=sf C;have g:∀(a:Act),dZ R P ops w i v a->∀u,dZ R P ops w i v (a.put k.dst u):=λa o u=>
  o.of_same (execOp_put i y a k.dst u z) (wanted_put i a k.dst u z)
 have q:∀d,dZ R P ops w i v { a with defers:=d::a.defers }:=λd=>o.of_same rfl rfl;unfold Cd.Na wpOp at *;simp only[G] at *;rw[wanted_put k a i.dst v A] at h
 split
 ·rename_i D;simp only[D,if_true] at h;rcases h with h|⟨l,p⟩
  case inr=>exact .inr ⟨by unfold Oper.asks at *;rw[execOp_put k t a i.dst v A] at l;exact l,p⟩
  refine .inl ?_;unfold Oper.wp at *;rw[execOp_put k t a i.dst v A] at h;generalize (execOp a.eval k).run P w=r at *;cases r with
  | ok n w'=>
    cases n <;> simp only[Oper.upon] at h⊢
    case value u=>exact⟨h.1,(g a o u).mono h.1,by rw[<-py a v u s];exact h.2⟩
    case skip=>exact⟨h.1,(g a o _).mono h.1,by rw[<-py a v undef s];exact h.2⟩
    case defer d=>
     refine⟨h.1,(dZ.of_same (q d) (execOp_put i y _ k.dst _ z) (wanted_put i _ k.dst _ z)).mono h.1,?_⟩;rw[<-py _ v undef s,<-Act.put_defers];exact h.2
    case enter f args=>
     refine se h λe E m=>?_;cases e with
     | returned u=>exact⟨m.1,(g a o u).mono m.1,by rw[<-py a v u s];exact m.2⟩
     | panicked c=>exact m.elim
     | outgrown=>exact m
    case row row args=>exact Rows.mono h λu E m=>⟨m.1,(g a o u).mono m.1,by rw[<-py a v u s];exact m.2⟩
  | halt x w'=>
    cases x <;> simp only[Oper.upon] at h⊢
    case panic u=>exact h.elim
 rename_i D;simp only[D] at h;exact⟨h.1,g a o _,by rw[<-py a v undef s];exact h.2⟩
def Jh {Q:Exit->Act->World->Prop} {i:Nat} {a:Act} {w:World} {K b:Act->World->Prop} (h:∀a w,K a w->b a w)
 (e:Na R P ops Q i K a w):Na R P ops Q i b a w:=wpOp_mono (λ_ _ ⟨d,c⟩=>⟨d,h _ _ c⟩) e
def Er {Q:Exit->Act->World->Prop} {T:Array Bool->Act->World->Prop} {i:Nat} {u:Oper} {v:Value} (N:ops[i]? = some u) (s:∀(j:Nat) (o:Oper) D b,ops[j]? = some o->o.op≠.select D b)
 (z:head.getD i false=true) :
 ∀(n:Nat) (c:Array Bool) (a:Act) (w:World),Closed md ops c->
  (∀j l,ops[j]? = some l->j≠i->c.getD j true=false->(∀e∈l.after,Region.binds md e=true->e.on≠i)->(head.getD j false=true/\u.apart ops l=true)\/waits md ops i ops.size j=true)->
  i∈Region.ready md ops c->dZ R P ops w u v a->
  Jg R P md ops head Q T n (c.setIfInBounds i true) (a.put u.dst v) w->Jg R P md ops head Q T (n+1) c a w:=by
 intro n;have key:∀(c:Array Bool),Closed md ops c->
  (∀j l,ops[j]? = some l->j≠i->c.getD j true=false->(∀e∈l.after,Region.binds md e=true->e.on≠i)->(head.getD j false=true/\u.apart ops l=true)\/waits md ops i ops.size j=true)->
  i∈Region.ready md ops c->∀j,j∈Region.ready md ops c->j≠i->∃l,ops[j]? = some l/\c.getD j true=false/\head.getD j false=true/\u.apart ops l=true:=by
  intro c p d q j y g;obtain⟨f,l,m,t⟩:=mem_ready.1 y;have h0:=(mem_ready.1 q).1;have F:c.getD i false=false:=by
   rcases ki i c.size with h'|h'
   ·simp[h'] at h0⊢;exact h0
   simp[ld h']
  have C:∀e∈l.after,Region.binds md e=true->e.on≠i:=λe W U J=>by
   have G:=t e W U;rw[J,F] at G;cases G
  rcases d j l m g f C with h|h
  ·exact⟨l,m,f,h.1,h.2⟩
  exact absurd t (lh p F _ j l m h)
 induction n with
 | zero=>
   intro c a w p d q I H;refine⟨λh=>(by rw[h] at q;cases q),λj y=>?_⟩;by_cases g:j=i
   ·subst g;exact⟨z,I.Na N H⟩
   obtain⟨l,m,f,O,_⟩:=key c p d q j y g;have x:=jH H.1 O;rw[getD_set_ne false (pr g)] at x;rcases ki j c.size with h'|h'
   ·simp[h'] at f x;rw[f] at x;cases x
   simp[ld h'] at x
 | succ n ih=>
   intro c a w p d q I H;refine⟨λh=>(by rw[h] at q;cases q),λj y=>?_⟩;by_cases g:j=i
   ·subst g;exact⟨z,I.Na N H⟩
   obtain⟨X,G⟩:=H.2 j (ready_mono y g);obtain⟨l,m,f,_,L⟩:=key c p d q j y g;have x:=P9 m L (λD b=>s i u D b N) (λD b=>s j l D b m) I G;have r:∀k B,ops[k]? = some B->k≠i->(c.setIfInBounds j true).getD k true=false->
    (∀e∈B.after,Region.binds md e=true->e.on≠i)->(head.getD k false=true/\u.apart ops B=true)\/waits md ops i ops.size k=true:=λk B V K A M=>by
    refine d k B V K ?_ M;by_cases E:j=k
    ·subst E;exact f
    rw[getD_set_ne true E] at A;exact A
   refine⟨X,Jh (λY w' S=>ih (c.setIfInBounds j true) Y w' (p.step y) r (ready_mono q (pr g)) S.1 ?_) x⟩;rw[rF _ _ g];exact S.2
def Gu {Q:Exit->Act->World->Prop} {T:Array Bool->Act->World->Prop} (q:Region.noSelect ops=true):∀(l:List Nat) (n:Nat) (b:Array Bool) (a:Act) (w:World),Closed md ops b->
 (rJ ops l&&tq md ops head l b)=true->wpQuiet P ops (λw'=>∃g:vG R w,w'=g.tw) (λC=>Jg R P md ops head Q T n (aS l b) C w) (bu ops l) a->Jg R P md ops head Q T (n+l.length) b a w
 | [],n,b,a,w,_,_,h=>h
 | i::l,n,b,a,w,hcl,hB,h=>by
   simp only[tq,rJ,List.all_cons,js] at hB;obtain⟨⟨c,t⟩,⟨⟨p,hf⟩,z⟩,y⟩:=hB;cases e:ops[i]? with
   | none=>rw[e] at c;cases c
   | some o=>
     rw[e] at c;simp only at c;have B:bu ops (i::l)=o::bu ops l:=by simp[bu,e]
     rw[B] at h;have k:(rJ ops l&&tq md ops head l (b.setIfInBounds i true))=true:=by simp only[rJ,js];exact⟨t,y⟩
     simp only[wpQuiet] at h;by_cases m:Region.wanted o (yielded ops a.tmps)=true
     ·rw[if_pos m] at h;obtain⟨v,D,A⟩:=h;refine Er e (lA q) z (n+l.length) b a w hcl (oK e hf) (by simpa using p) (.inl ⟨m,λw' s=>?_⟩)
       (Gu q l n _ _ w (hcl.step (by simpa using p)) k A)
      have d:=D w' ⟨⟨w',s⟩,rfl⟩;unfold Oper.quietAt at d;generalize j:(execOp a.eval o).run P w'=r at d;cases r with
      | ok x w1=>
        cases x <;> simp only[Oper.quietUpon] at d
        case value u=>rw[d.1,d.2];exact .inl rfl
        case skip=>rw[d.1,d.2];exact .inr ⟨rfl,rfl⟩
        case enter f args=>exact absurd j (QW c _ _ _ _)
      | halt x w1=>exact d.elim
     rw[if_neg m] at h;exact Er e (lA q) z (n+l.length) b a w hcl (oK e hf) (by simpa using p) (.inr ⟨by simpa using m,rfl⟩)
      (Gu q l n _ _ w (hcl.step (by simpa using p)) k h)
def bZ {Q:Exit->Act->World->Prop} {T:Array Bool->Act->World->Prop} (l:List Nat) (n:Nat) {m:Nat} {b:Array Bool} {a:Act} {w:World}
 (h:wpQuiet P ops (λw'=>∃g:vG R w,w'=g.tw) (λd=>Jg R P md ops head Q T n (aS l b) d w) (bu ops l) a) (e:m=n+l.length:=by rfl) (c:((Region.noSelect ops&&vM md ops b)&&(rJ ops l&&tq md ops head l b))=true:=by kernel_rfl):Jg R P md ops head Q T m b a w:=by
  subst e;rw[js,js] at c;exact Gu c.1.1 l n b a w (oL c.1.2) c.2 h
def QR (R:KR) (Q:Exit->Act->World->Prop) (w:World) (K:Act->World->Prop):Exit->Act->World->Prop
 | .normal,a,w'=>R.rel w w'/\K a w'
 | .panic _,_,_=>False
 | e,a,w'=>Q e a w'
def mM {Q:Exit->Act->World->Prop} {K:Act->World->Prop} {i:Nat} {o:Oper} {a:Act} {w:World} (k:ops[i]? = some o)
 (h:wpList P ops (QR R Q w K) [o] a w):Na R P ops Q i K a w:=by
 unfold Cd.Na wpOp;simp only[k];unfold wpList at h
 split
 ·rename_i d;rw[if_pos d] at h;rcases h with h|⟨j,l⟩
  ·refine .inl ?_;unfold Oper.wp at *;generalize (execOp a.eval o).run P w=r at *;cases r with
   | ok n w'=>
     cases n <;> simp only[Oper.upon] at h⊢
     case enter f args=>
      refine se h λe g b=>?_;cases e with
      | returned u=>exact b
      | panicked c=>exact b
      | outgrown=>exact b
     case row row args=>exact Rows.mono h λu g b=>b
     all_goals exact h
   | halt x w'=>cases x <;> simp only[Oper.upon] at h⊢;exact h
  exact .inr ⟨j,l⟩
 rename_i d;rw[if_neg d] at h;exact h
def bN {Q:Exit->Act->World->Prop} {T:Array Bool->Act->World->Prop} {n:Nat} (i:Nat) {o:Oper} {b:Array Bool} {a:Act} {w:World}
 (h:wpList P ops (QR R Q w (Jg R P md ops head Q T n (b.setIfInBounds i true))) [o] a w) (d:(Region.ready md ops b==[i]&&head.getD i false)=true:=by kernel_rfl) (g:nth ops.toList i=some o:=by rfl):Jg R P md ops head Q T (n+1) b a w:=by
 simp only[js,beq_iff_eq] at d;obtain⟨e,f⟩:=d;refine⟨by rw[e];simp,λj c=>?_⟩;rw[e] at c;obtain rfl:j=i:=by simpa using c
 exact⟨f,mM (fM g) h⟩
def P_ {Q:Exit->Act->World->Prop} {T:Array Bool->Act->World->Prop} {n:Nat} (i k:Nat) {o u:Oper} {b:Array Bool} {a:Act} {w:World}
 (h:wpList P ops (QR R Q w (Jg R P md ops head Q T n (b.setIfInBounds i true))) [o] a w) (g:wpList P ops (QR R Q w (Jg R P md ops head Q T n (b.setIfInBounds k true))) [u] a w) (e:(Region.ready md ops b==[i,k]&&(head.getD i false&&head.getD k false))=true:=by kernel_rfl) (l:nth ops.toList i=some o:=by rfl) (m:nth ops.toList k=some u:=by rfl):Jg R P md ops head Q T (n+1) b a w:=by
 simp only[js,beq_iff_eq] at e;obtain⟨d,f⟩:=e;refine⟨by rw[d];simp,λj c=>?_⟩;rw[d] at c;simp only[jt,kt,or_false] at c;rcases c with rfl|rfl
 ·exact⟨f.1,mM (fM l) h⟩
 exact⟨f.2,mM (fM m) g⟩
def bK {Q:Exit->Act->World->Prop} {w:World} {K:Act->World->Prop} {a:Act} {w':World} (c:R.rel w w') (b:K a w'):QR R Q w K .normal a w':=⟨c,b⟩
def eU {Q:Exit->Act->World->Prop} (l:List Nat) {b:Array Bool} {a:Act} {w:World}
 (h:wpList P ops (QP Q) (bu ops l) a w) (c:(kZ head b&&(Region.noSelect ops&&uk md ops l b))=true:=by kernel_rfl):Jg R P md ops head Q (λl' a w=>wpAny P md ops Q l.length l' a w) 0 b a w:=by
 simp only[js] at c;exact⟨c.1,vN _ _ _ _ (iB c.2.1 l b a w c.2.2 h)⟩
def dF (R:KR) {b:Nat} {Q:Exit->Act->World->Prop} {a:Act} {w:World} {l:List Oper} (head:Array Bool) (n t:Nat) (c:P.follows .mixedOrders=true)
 (h:Jg R P .any l.toArray head Q (λl' a w=>wpAny P .any l.toArray Q t l' a w) n (Array.replicate l.length false) a w.drew) (d:n+t=l.length:=by rfl):(Code.region b l.toArray true).wp P Q a w:=by
 refine wp_region_any c ?_;have:=uo n _ _ _ h;rw[d] at this;simpa using this
end
def KR.E:KR:=⟨λw w'=>Below w.heap.size w w',λ_=>gS _ _,λh k=>af h k⟩
section
variable {P : Program} {ops : Array Oper} {md : Region.Mode} {head : Array Bool}
def xG (P:Program) (ops:Array Oper) (Q:Exit->Act->World->Prop) (i:Nat) (K:Act->World->Prop) (a:Act) (w:World):Prop:=
 wpOp P ops (QP Q) i (λb w'=>Below w.heap.size w w'/\K b w') a w
def QX (P:Program) (md:Region.Mode) (ops:Array Oper) (head:Array Bool) (Q:Exit->Act->World->Prop) (T:Array Bool->Act->World->Prop):Nat->Array Bool->Act->World->Prop
 | 0,listed,a,w=>kZ head listed=true/\T listed a w
 | n+1,listed,a,w=>Region.ready md ops listed≠[]/\
   ∀i∈Region.ready md ops listed,head.getD i false=true/\xG P ops Q i (QX P md ops head Q T n (listed.setIfInBounds i true)) a w
def mP (P:Program) (ops:Array Oper) (w:World) (o:Oper) (v:Value) (a:Act):Prop:=
 (Region.wanted o (yielded ops a.tmps)=true/\∀w',Below w.heap.size w w'->((execOp a.eval o).run P w'=.ok (.value v) w'\/((execOp a.eval o).run P w'=.ok .skip w'/\v=undef)))\/
 (Region.wanted o (yielded ops a.tmps)=false/\v=undef)
def QE (Q:Exit->Act->World->Prop) (w:World) (K:Act->World->Prop):Exit->Act->World->Prop
 | .normal,a,w'=>Below w.heap.size w w'/\K a w'
 | .panic _,_,_=>False
 | e,a,w'=>Q e a w'
def aF {Q:Exit->Act->World->Prop} {w:World} {K:Act->World->Prop} {a:Act} {w':World} (c:Below w.heap.size w w') (b:K a w'):QE Q w K .normal a w':=⟨c,b⟩
def xH {Q:Exit->Act->World->Prop} {T:Array Bool->Act->World->Prop}:∀(n:Nat) (b:Array Bool),QX P md ops head Q T n b=Jg KR.E P md ops head Q T n b
 | 0,_=>rfl
 | n+1,b=>funext λa=>funext λw=>by
   show(_/\∀i∈_,_/\xG P ops Q i (QX P md ops head Q T n _) a w)=(_/\∀i∈_,_/\Na KR.E P ops Q i (Jg KR.E P md ops head Q T n _) a w);simp only[xH n];rfl
def abf (Q:Exit->Act->World->Prop) (w:World) (K:Act->World->Prop):QE Q w K=QR KR.E Q w K:=funext λe=>by cases e <;> rfl
def aeU (w:World):(λw'=>∃g:Gr w,w'=g.tw)=(λw'=>∃g:vG KR.E w,w'=g.tw):=funext λw'=>propext ⟨λ⟨g,h⟩=>⟨⟨g.tw,g.ext⟩,h⟩,λ⟨g,h⟩=>⟨⟨g.tw,g.ext⟩,h⟩⟩
def mP.mono {w w':World} {o:Oper} {v:Value} {a:Act} (h:mP P ops w o v a) (b:Below w.heap.size w w'):mP P ops w' o v a:=dZ.mono (R:=KR.E) h b
def mP.xG {Q:Exit->Act->World->Prop} {w:World} {i:Nat} {o:Oper} {v:Value} {a:Act} (c:ops[i]? = some o) (b:mP P ops w o v a)
 {K:Act->World->Prop} (h:K (a.put o.dst v) w):xG P ops Q i K a w:=dZ.Na (R:=KR.E) c b h
def YB {Q:Exit->Act->World->Prop} {j:Nat} {c e:Oper} {v:Value} (l:ops[j]? = some e) (i:c.apart ops e=true)
 (d:∀f b,c.op≠.select f b) (g:∀f b,e.op≠.select f b)
 {K:Act->World->Prop} {a:Act} {w:World}
 (m:mP P ops w c v a) (h:xG P ops Q j K (a.put c.dst v) w) :
 xG P ops Q j (λk w'=>mP P ops w' c v k/\K (k.put c.dst v) w') a w:=P9 (R:=KR.E) l i d g m h
def qz {Q:Exit->Act->World->Prop} {i:Nat} {a:Act} {w:World} {K b:Act->World->Prop} (h:∀a w,K a w->b a w)
 (c:xG P ops Q i K a w):xG P ops Q i b a w:=Jh (R:=KR.E) h c
def qA {Q:Exit->Act->World->Prop} {K:Act->World->Prop} {i:Nat} {o:Oper} {a:Act} {w:World} (b:ops[i]? = some o)
 (h:wpList P ops (QE Q w K) [o] a w):xG P ops Q i K a w:=mM (R:=KR.E) b (by rw[<-abf];exact h)
def AR {Q:Exit->Act->World->Prop} {t:Nat}:∀(n:Nat) (b:Array Bool) (a:Act) (w:World),
 QX P md ops head Q (λl a w=>wpAny P md ops Q t l a w) n b a w->wpAny P md ops Q (n+t) b a w:=λn b a w h=>uo (R:=KR.E) n b a w (by rw[<-xH];exact h)
def ay {Q:Exit->Act->World->Prop} {T:Array Bool->Act->World->Prop} (l:List Nat) (n:Nat) {m:Nat} {b:Array Bool} {a:Act} {w:World}
 (h:wpQuiet P ops (λw'=>∃g:Gr w,w'=g.tw) (λd=>QX P md ops head Q T n (aS l b) d w) (bu ops l) a) (e:m=n+l.length:=by rfl) (c:((Region.noSelect ops&&vM md ops b)&&(rJ ops l&&tq md ops head l b))=true:=by kernel_rfl):QX P md ops head Q T m b a w:=by
  rw[xH];rw[aeU] at h;simp only[xH] at h;exact bZ l n h e c
def aI {Q:Exit->Act->World->Prop} {T:Array Bool->Act->World->Prop} {n:Nat} (i:Nat) {o:Oper} {b:Array Bool} {a:Act} {w:World}
 (h:wpList P ops (QE Q w (QX P md ops head Q T n (b.setIfInBounds i true))) [o] a w) (c:(Region.ready md ops b==[i]&&head.getD i false)=true:=by kernel_rfl) (d:nth ops.toList i=some o:=by rfl):QX P md ops head Q T (n+1) b a w:=by
 rw[xH];rw[abf,xH] at h;exact bN i h c d
def aJ {Q:Exit->Act->World->Prop} (l:List Nat) {b:Array Bool} {a:Act} {w:World}
 (h:wpList P ops (QP Q) (bu ops l) a w) (c:(kZ head b&&(Region.noSelect ops&&uk md ops l b))=true:=by kernel_rfl):QX P md ops head Q (λl' a w=>wpAny P md ops Q l.length l' a w) 0 b a w:=by
 simp only[js] at c;exact⟨c.1,vN _ _ _ _ (iB c.2.1 l b a w c.2.2 h)⟩
def aC {b:Nat} {Q:Exit->Act->World->Prop} {a:Act} {w:World} {l:List Oper} (head:Array Bool) (n t:Nat) (c:P.follows .mixedOrders=true)
 (h:QX P .any l.toArray head Q (λl' a w=>wpAny P .any l.toArray Q t l' a w) n (Array.replicate l.length false) a w.drew) (d:n+t=l.length:=by rfl):(Code.region b l.toArray true).wp P Q a w:=by
 refine wp_region_any c ?_;have:=AR n _ _ _ h;rw[d] at this;simpa using this
end
end
end Go.Cd
