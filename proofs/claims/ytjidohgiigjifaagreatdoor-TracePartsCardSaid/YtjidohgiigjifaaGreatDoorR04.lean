/- TraceParts and TraceWalks: a machine takes a character as those of its full decomposition, one by one; texts that are alike go through it, and of others none; no condition. -/
import Derived.Test.YtjidohgiigjifaaGreatDoorR03
import Derived.Lib.QuietBelow
import Derived.Sort.WalkA6
import Derived.Sort.WalkB12
import Derived.Sort.WalkB3
set_option maxRecDepth 100000
set_option maxHeartbeats 6400000
section
namespace Go.Cd
open Go.Lib
theorem xk (c:UInt8):∀(l:List (List UInt8)),l≠[]→(∀p∈l,c∉p)→count (bu c l) [c]+1=l.length
 | [],h,_=>absurd rfl h
 | [p],_,h=>by
   have:=kF c p (h p (by simp));show count p [c]+1=1;rw [count_miss this]
 | p::q::l,_,h=>by
   have ih:=xk c (q::l) (by simp) (fun x hx=>h x (by simp [hx]));have hi:=qi c p (bu c (q::l)) (h p (by simp));have hd:(p++c::bu c (q::l)).drop (p.length+1)=bu c (q::l):=by
    rw [show p++c::bu c (q::l)=(p++[c])++bu c (q::l) by simp,List.drop_left' (by simp)]
   show count (p++c::bu c (q::l)) [c]+1=_;rw [count_hit (by simp) hi];simp only [List.length_singleton];rw [hd,List.length_cons,←ih];omega
end Go.Cd
namespace Go.Proofs.YtjidohgiigjifaaGreatDoor
open Go.RowKit Go.Cd Go.Sort
structure bZ (w:World):Prop where
 ml:∃m,w.cell? ⟨0,0,none⟩=some (.int .i64 m)
 Xc:Lib.TabIs Tryz.prog w "internal/strconv.uint64pow10" .u64 Lib.pow10Tab
 dbr:w.cell? ⟨8,15,none⟩=some (.int .u8 4)
theorem Hz {P:Program} {w w':World} {s:String} {k:IntKind} {zs:List Int} (h:Lib.TabIs P w s k zs) (hb:Below w.heap.size w w'):Lib.TabIs P w' s k zs:=by
 unfold Lib.TabIs World.var? at *;cases e:P.globalNamed s with
 | none=>rw [e] at h;cases h
 | some g=>
   rw [e] at h;simp only [Option.bind_some] at h ⊢;have hg:g<w.heap.size:=by
    rcases Nat.lt_or_ge g w.heap.size with h1|h1
    ·exact h1
    ·rw [Array.getElem?_eq_none h1] at h;cases h
   rw [hb.block g hg];exact h
theorem bZ.mono {w w':World} (h:bZ w) (hb:Below w.heap.size w w'):bZ w':=
 ⟨by obtain ⟨m,hm⟩:=h.ml;exact ⟨m,aA hb hm⟩,Hz h.Xc hb,aA hb h.dbr⟩
theorem Ee (w:World) (e:TypeId) (s:ByteArray):Below w.heap.size w (Lib.bytesWorld w e s):=
 ⟨rfl,rfl,rfl,by rw [Lib.bytesWorld_size];omega,fun k hk=>Lib.bytesWorld_at_old w _ s k hk⟩
theorem uY (w:World) (k:Nat) (os:Array Obj):Below w.heap.size w (grow (w.drewN k) os):=
 ⟨rfl,rfl,rfl,by show w.heap.size≤(w.heap++os).size;rw [Array.size_append];omega,fun j hj=>by
   show (w.heap++os)[j]? = _
   rw [Array.getElem?_append_left hj]⟩
theorem AA (n:Nat) (h:n<1000):Lib.itoa (n:Int)=gD n:=by
 unfold Lib.itoa gD;rw [if_neg (by omega),Int.toNat_natCast];by_cases h1:n<10
 ·rw [if_pos h1,Lib.decDigits_one h1]
 ·rw [if_neg h1];by_cases h2:n<100
  ·rw [if_pos h2,Lib.decDigits_two h1 h2]
  ·rw [if_neg h2,Lib.decDigits,dif_neg h1,Lib.decDigits_two (by omega) (by omega)];rw [Nat.div_div_eq_div_mul];rfl
theorem df (l:List UInt8):(tx l).data.toList=l:=by simp [tx]
theorem Ef {w:World} (hG:bZ w) (c:Nat) (hc:c<255) :
 Calls Tryz.prog 184 #[.string (tx (gD c)),.int .i64 254] w fun e w'=>e=.returned (.tuple #[.int .i64 c,.bool true])∧Below w.heap.size w w':=by
 have AT:=ae (Tryz.strconv_Atoi (tx (gD c)) c (by rw [bn];have:=(qU c).2;omega) (by rw [df];exact KH c hc) w)
 have IT:=ae (show ∀W,bZ W→Calls Tryz.prog 137 #[.int .i64 c] W fun e w'=>e=.returned (.string (tx (gD c)))∧∃k os,w'=grow (W.drewN k) os from fun W h=>by
  have:=Tryz.strconv_Itoa c (by omega) (by omega) W h.Xc;rw [AA c (by omega)] at this
  exact this)
 have HG:=ae hG;generalize tx (gD c)=S at *;have z1:¬(c:Int)<0:=by omega
 have z2:¬(254:Int)<(c:Int):=by omega
 go_enter Tryz.func184,Tryz.ntmps184;go_wp2_with fail;refine AT.out.mono ?_;rintro e w2 ⟨rfl,t,rfl⟩;have hb:=Ee w 5 t;have H2:=ae (HG.out.mono hb);generalize Lib.bytesWorld w 5 t=w2 at *;go_wp2_with fail;refine (IT.out _ H2.out).mono ?_;rintro e w3 ⟨rfl,k,os,rfl⟩;have hb3:=uY w2 k os;generalize grow (w2.drewN k) os=w3 at *;go_wp2;go_ret2;exact ⟨rfl,ag hb hb3⟩
theorem zB {w:World} (hG:bZ w) (c:Nat) :
 Calls Tryz.prog 128 #[.string (tx (aS c))] w fun e w'=>e=.returned (.string (tx (aS c)))∧Below w.heap.size w w':=by
 obtain ⟨m,hm⟩:=hG.ml;have hs:(tx (aS c)).size≤6:=by rw [bn];exact (bJ c).2
 have CU:=ae (show Calls Tryz.prog 161 #[.string (tx (aS c)),.string ⟨#[35]⟩] w fun e w'=>e=.returned (.tuple #[.string (tx (aS c)),.string ⟨#[]⟩,.bool false])∧∃n,w'=w.drewN n from by
  have h:=Tryz.strings_Cut (tx (aS c)) ⟨#[35]⟩ m w (by omega) hm;rw [df,show (⟨#[35]⟩:ByteArray).data.toList=[35] from rfl,Nu] at h
  exact h)
 have TR:=ae (show ∀W,Calls Tryz.prog 162 #[.string (tx (aS c)),.string ⟨#[32]⟩] W fun e w'=>e=.returned (.string (tx (aS c)))∧(w'=W∨w'=W.drew) from fun W=>by
  have h:=Tryz.strings_Trim_one (tx (aS c)) 32 (by decide) W (by omega);have e1:Lib.trimB (aS c) 32=aS c:=by
   have hne:∀b∈aS c,(b==(32:UInt8))=false:=fun b hb=>by
    have:=(dA c b hb).2.2.1;simpa using this
   have drop:∀l:List UInt8,(∀b∈l,(b==(32:UInt8))=false)→l.dropWhile (·==32)=l:=by
    intro l hl;cases l with
    | nil=>rfl
    | cons a l=>rw [List.dropWhile_cons,if_neg];rw [hl a (List.mem_cons_self ..)];decide
   unfold Lib.trimB Lib.trimLeftB Lib.trimRightB;rw [drop (aS c).reverse (fun b hb=>hne b (List.mem_reverse.1 hb)),List.reverse_reverse,drop _ hne]
  rw [df,e1] at h
  exact h)
 generalize tx (aS c)=S at *;clear hm hs;go_enter Tryz.func128,Tryz.ntmps128;go_wp2_with fail;refine CU.out.mono ?_;rintro e w2 ⟨rfl,n,rfl⟩;have hb:Below w.heap.size w (w.drewN n):=below_drewN (Below.refl _ _) n;generalize w.drewN n=w2 at *;go_wp2_with fail;refine (TR.out _).mono ?_;rintro e w3 ⟨rfl,hw3⟩;have hb3:Below w2.heap.size w2 w3:=by rcases hw3 with rfl|rfl;exact Below.refl _ _;exact ah _
 clear hw3;go_wp2;go_ret;exact ⟨rfl,ag hb hb3⟩
theorem pG {w:World} (hG:bZ w) (F:List (List UInt8)) (hF:F.length=15) (h59:∀p∈F,(59:UInt8)∉p) (hl:(bu 59 F).length≤100) :
 Calls Tryz.prog 157 #[.string (tx (bu 59 F))] w fun e w'=>e=.returned (.slice (some ⟨w.heap.size,0,none⟩) 15 15)∧w'=w.alloc (.cells (F.map fun l=>Value.string (tx l)).toArray 9):=by
 obtain ⟨m,hm⟩:=hG.ml;have hne:F≠[]:=fun e=>by rw [e] at hF;cases hF
 have hs:(tx (bu 59 F)).size≤100:=by rw [bn];exact hl
 have SP:=Tryz.strings_Split (tx (bu 59 F)) ⟨#[59]⟩ m w (by omega) hm (by decide);have hcnt:Lib.countB (tx (bu 59 F)) ⟨#[59]⟩=Lib.count (bu 59 F) [59]:=by
  have:=df (bu 59 F);unfold Lib.countB;simp only [this]
 have e1:(Lib.splitB ⟨#[59]⟩ 0 (Lib.countB (tx (bu 59 F)) ⟨#[59]⟩) (tx (bu 59 F))).map (·.data.toList)=F:=by
  rw [Lib.splitB_data,df,hcnt];exact xe 59 F hne h59
 have e2:Lib.splitB ⟨#[59]⟩ 0 (Lib.countB (tx (bu 59 F)) ⟨#[59]⟩) (tx (bu 59 F))=F.map tx:=by
  conv=>rhs;rw [←e1]
  rw [List.map_map];have:(tx ∘ fun x:ByteArray=>x.data.toList)=id:=by
   funext x;apply ByteArray.ext;simp [tx]
  rw [this,List.map_id]
 have e3:Lib.countB (tx (bu 59 F)) ⟨#[59]⟩+1=15:=by
  rw [hcnt,←hF];exact xk 59 F hne h59
 rw [e2,e3,List.map_map] at SP;have SP:=ae SP;generalize tx (bu 59 F)=S at *;clear e2 e1 e3 hcnt hs hm;go_enter Tryz.func157,Tryz.ntmps157;go_wp2_with fail;refine SP.out.mono ?_;rintro e w2 ⟨rfl,rfl⟩;go_wp2;go_ret;exact ⟨rfl,rfl⟩
end Go.Proofs.YtjidohgiigjifaaGreatDoor
end
namespace Go.Proofs.YtjidohgiigjifaaGreatDoor
open Go.RowKit Go.Cd
theorem KL (n:Nat) (hn:n<18446744073709551616):bits .and .u64 (n:Int) 15=((n % 16:Nat):Int):=by
 have h127:(BitVec.ofInt 64 15).toNat=2 ^ 4-1:=by decide
 have key:(BitVec.ofInt 64 n &&& BitVec.ofInt 64 15).toNat=((n:Int) % ((2 ^ 64:Nat):Int)).toNat % 2 ^ 4:=by
  rw [BitVec.toNat_and,BitVec.toNat_ofInt,h127,Nat.and_two_pow_sub_one_eq_mod]
 show IntKind.u64.wrap ((BitVec.ofInt 64 n &&& BitVec.ofInt 64 15).toNat:Nat)=_;rw [key,IntKind.wrap_u64];omega
theorem Rf {w:World} (h:w.cell? ⟨8,15,none⟩=some (.int .u8 4)) :
 Calls Tryz.prog 268 #[.int .u64 16] w fun e w'=>e=.returned (.int .i64 4)∧w'=w:=by
 have z1:bits .and .u64 16 (IntKind.u64.wrap (-16))=16:=by decide
 have z2:IntKind.u64.wrap (16*285870213051353865) / 288230376151711744=15:=by decide
 go_enter Tryz.func268,Tryz.ntmps268;go_wp2;go_ret;exact ⟨rfl,rfl⟩
theorem XY {w:World} (h:w.cell? ⟨8,15,none⟩=some (.int .u8 4)) :
 Calls Tryz.prog 252 #[.int .u64 16] w fun e w'=>e=.returned (.int .i64 4)∧w'=w:=by
 have T:=ae (Rf h);go_enter Tryz.func252,Tryz.ntmps252;go_wp2_with fail;refine T.out.mono ?_;rintro e w2 ⟨rfl,rfl⟩;go_wp2;go_ret;exact ⟨rfl,rfl⟩
theorem Rh {w:World}:Calls Tryz.prog 251 #[.int .i64 16] w fun e w'=>e=.returned (.bool true)∧w'=w:=by
 have z1:bits .and .i64 16 15=0:=by decide
 go_enter Tryz.func251,Tryz.ntmps251;go_wp2;go_ret;exact ⟨rfl,rfl⟩
def Ul:ByteArray:=⟨#[48,49,50,51,52,53,54,55,56,57,97,98,99,100,101,102,103,104,105,106,107,108,109,110,111,112,113,114,115,116,117,118,119,120,121,122]⟩
theorem Ri:∀d (h:d<16),(Ul[d]'(by have:Ul.size=36:=rfl;omega)).toNat=(BM d).toNat:=by decide
def Rj (cs:Array Value) (k n:Nat):Prop:=cs.size=65∧∀j (hj:j<k),cs[65-k+j]? = some (.int .u8 ((oL k n)[j]'(by rw [wT];exact hj)).toNat)
theorem Rj.step {cs:Array Value} {k n:Nat} (h:Rj cs k n) (hk:k<60):Rj (cs.setIfInBounds (64-k) (.int .u8 (BM (n / 16 ^ k % 16)).toNat)) (k+1) n:=by
 refine ⟨by simp [h.1],fun j hj=>?_⟩;have e:65-(k+1)=64-k:=by omega
 rw [e,Array.getElem?_setIfInBounds];rcases j with _|j
 ·simp [h.1,Aj];omega
 ·rw [if_neg (by omega)];have:=h.2 j (by omega);rw [show 64-k+(j+1)=65-k+j by omega,this];simp [Aj]
theorem Rk (l:List UInt8):str (l.map UInt8.toNat)=tx l:=by
 unfold str tx;rw [List.map_map];have:UInt8.ofNat ∘ UInt8.toNat=id:=by funext x;simp
 rw [this,List.map_id]
theorem zC {w:World} (hG:bZ w) (n:Nat) (hn:n<1114112) :
 Calls Tryz.prog 228 #[.slice none 0 0,.int .u64 n,.int .i64 16,.bool false,.bool false] w fun e w'=>∃k v,e=.returned (.tuple #[v,.string (tx (oL (k+1) n))])∧QU k n∧Below w.heap.size w w':=by
 have TZ:=ae (fun (W:World) (E:Below w.heap.size w W)=>XY (hG.mono E).dbr);have P2:=ae (fun W=>Rh (w:=W));clear hG;go_enter Tryz.func228,Tryz.ntmps228;go_wp2_with fail;obtain ⟨w1,hw1⟩:=af (w.alloc (.cells Tryz.zeroCells343 343));have hb1:Below w.heap.size w w1:=by rw [hw1];exact ai _
 have k1:Is w1 w.heap.size Tryz.zeroCells343 343:=by rw [hw1];exact Is.new _ _ _
 have hsz:Tryz.zeroCells343.size=65:=by kernel_rfl
 rw [←hw1];clear hw1;generalize Tryz.zeroCells343=cs0 at *;refine (P2.out w1).mono ?_;rintro e w2 ⟨rfl,rfl⟩;go_wp2_with fail;refine (TZ.out _ hb1).mono ?_;rintro e w3 ⟨rfl,rfl⟩;go_wp2_with fail;go_loopw [1,13] (fun uv iv wr=>∃(k:Nat) (cs:Array Value),k≤5∧uv=.int .u64 (n / 16 ^ k:Nat)∧iv=.int .i64 (65-k:Nat)∧(k=0∨16 ^ k≤n)∧Is wr w.heap.size cs 343∧Rj cs k n∧Below w.heap.size w wr) (fun uv _ _=>(intOf uv).toNat)
 case atStart=>exact ⟨0,cs0,by omega,by simp,rfl,.inl rfl,k1,⟨hsz,by simp⟩,hb1⟩
 case round=>
  clear k1;obtain ⟨k,cs,hk5,rfl,rfl,hkn,hi,hc,hB⟩:=hrel;obtain ⟨u,hu⟩:=af (n / 16 ^ k);obtain ⟨m,hm⟩:=af (65-k);rw [←hu,←hm];have hun:u≤n:=by rw [hu];exact Nat.div_le_self _ _
  have hm1:IntKind.i64.wrap ((m:Int)-1)=((m-1:Nat):Int):=by rw [IntKind.wrap_i64];omega
  have hmk:=KL u (by omega);have hd:u % 16<16:=Nat.mod_lt _ (by decide);have fz:=hi.frozen (m-1);have HU:=ae hu;have HM:=ae hm;have Um:m≤65∧60≤m:=by omega
  obtain ⟨d,hdd⟩:=af (u % 16);rw [←hdd] at hmk hd;have hdg:=Ri d hd;have HD:=ae hdd;clear hu hm hdd;obtain ⟨x,hx⟩:∃x,cs[m-1]? = some x:=⟨cs[m-1]'(by rw [hc.1];omega),Array.getElem?_eq_getElem _⟩;have ex:=hi.at (m-1) hx;have ab0:(d:Int)<36:=by omega
  have hdv:((⟨#[48,49,50,51,52,53,54,55,56,57,97,98,99,100,101,102,103,104,105,106,107,108,109,110,111,112,113,114,115,116,117,118,119,120,121,122]⟩:ByteArray)[d]'(by show d<36;omega)).toNat=(BM d).toNat:=hdg;have y8:=ae (hc.step (by omega));clear hx hdg;by_cases h16:16≤u
  ·have zc:decide ((16:Int)≤(u:Int))=true:=by simp;omega
   have hk1:16 ^ (k+1)≤n:=by
    have:=HU.out;rw [this,Nat.le_div_iff_mul_le (Nat.pos_of_ne_zero (by simp))] at h16;rw [Nat.pow_succ,Nat.mul_comm];exact h16
   have hk4:k+1≤5:=by
    rcases Nat.lt_or_ge k 5 with h|h
    ·exact h
    ·have:(16:Nat) ^ 6≤16 ^ (k+1):=Nat.pow_le_pow_right (by decide) (by omega);omega
   have HK:=ae hk1;clear hk1;go_wp2;have e1:64-k=m-1:=by have:=HM.out;omega
   have h1:=y8.out;rw [e1,←HU.out,←HD.out] at h1;refine ⟨⟨k+1,_,hk4,?_,?_,.inr HK.out,hi.set (m-1) _,h1,aj hB (Nat.le_refl _)⟩,?_⟩
   ·rw [Nat.pow_succ,←Nat.div_div_eq_div_mul,←HU.out];rfl
   ·have:=HM.out;congr 2;omega
   ·show ((u:Int) / 16).toNat<(u:Int).toNat;omega
  ·have zc:decide ((16:Int)≤(u:Int))=false:=by simp;omega
   have hdu:d=u:=by rw [HD.out];omega
   have ab0:(u:Int)<36:=by omega
   subst hdu;obtain ⟨w2,hw2⟩:=af (wr.setCell ⟨w.heap.size,m-1,none⟩ (.int .u8 (BM d).toNat));have h1:=y8.out;have e1:64-k=m-1:=by have:=HM.out;omega
   rw [e1,←HU.out,←HD.out] at h1;have i2:Is w2 w.heap.size (cs.setIfInBounds (m-1) (.int .u8 (BM d).toNat)) 343:=by rw [hw2];exact hi.set (m-1) _
   have hB2:Below w.heap.size w w2:=by rw [hw2];exact aj hB (Nat.le_refl _)
   have XZ:65-(m-1)=k+1:=by have:=HM.out;omega
   have hL:((oL (k+1) n).map UInt8.toNat).length=k+1:=by rw [List.length_map,wT]
   have SV:bD w2 (.slice (some ⟨w.heap.size,m-1,none⟩) (65-(m-1)) (65-(m-1))) (Nq ((oL (k+1) n).map UInt8.toNat)):=by
    refine ⟨_,_,by rw [qg,hL,XZ],by rw [qg,hL];omega,.inr ⟨w.heap.size,m-1,_,_,_,rfl,i2.at_,fun q hq=>?_⟩⟩;rw [qg,hL] at hq;rw [show m-1=65-(k+1) by omega] at h1 ⊢;rw [h1.2 q hq,uT _ _ (by rw [hL];exact hq)];simp
   have CV:=DW SV (by intro q hq;obtain ⟨x,_,rfl⟩:=List.mem_map.1 hq;exact x.toNat_lt);rw [Rk] at CV;have hal:Tryz.prog.arrayLen 343=65:=by kernel_rfl
   have SLC:∀W,(Instr.sliceAt 343 (.pointer (some ⟨w.heap.size,0,none⟩)) (some (.int .i64 ((m-1:Nat):Int))) none none).run Tryz.prog W=.ok (.slice (some ⟨w.heap.size,m-1,none⟩) (65-(m-1)) (65-(m-1))) W:=fun W=>by
    rw [run_sliceAt_array_l W 343 ⟨w.heap.size,0,none⟩ (by kernel_rfl) .i64 _ (by omega) (by rw [hal];omega)]
    go_simp
    omega
   rw [hw2,XZ] at CV;have HKN:=ae hkn;clear SV i2 h1 hkn;go_wp2
   (try simp only [Exit.inBlock,Exit.then])
   go_ret2;rw [←hw2];refine ⟨k,⟨_,rfl⟩,⟨?_,HKN.out⟩,hB2⟩;have:=HU.out;rw [Nat.pow_succ];exact Nat.lt_of_lt_of_le ((Nat.div_lt_iff_lt_mul (Nat.pos_of_ne_zero (by simp))).1 (this▸hd:n / 16 ^ k<16)) (by rw [Nat.mul_comm];exact Nat.le_refl _)
theorem Ca {w:World} (hG:bZ w) (n:Nat) (hn:n<1114112) :
 Calls Tryz.prog 204 #[.int .i64 n,.int .i64 16] w fun e w'=>∃k,e=.returned (.string (tx (oL (k+1) n)))∧QU k n∧Below w.heap.size w w':=by
 have F:=ae (zC hG n hn);have z:decide ((n:Int)<0)=false:=by simp
 have z2:IntKind.u64.wrap (n:Int)=n:=by rw [IntKind.wrap_u64];omega
 clear hG;go_enter Tryz.func204,Tryz.ntmps204;go_wp2_with fail;refine F.out.mono ?_;rintro e w2 ⟨k,v,rfl,h1,h2⟩;have H1:=ae h1;clear h1 F;go_wp2
 (try simp only [Exit.inBlock,Exit.then])
 go_ret;exact ⟨k,rfl,H1.out,h2⟩
theorem zD {w:World} (hG:bZ w) (n:Nat) (hn:n<1114112) :
 Calls Tryz.prog 172 #[.int .i64 n,.int .i64 16] w fun e w'=>∃k,e=.returned (.string (tx (oL (k+1) n)))∧QU k n∧Below w.heap.size w w':=by
 have F:=ae (Ca hG n hn);clear hG;go_enter Tryz.func172,Tryz.ntmps172;go_wp2_with fail;refine F.out.mono ?_;rintro e w2 ⟨k,rfl,h1,h2⟩;go_wp2;go_ret;exact ⟨k,rfl,h1,h2⟩
theorem qj {w:World} (hG:bZ w) (n:Nat) (hn:n<1114112) :
 Calls Tryz.prog 136 #[.int .i32 n] w fun e w'=>e=.returned (.string (tx (aS n)))∧Below w.heap.size w w':=by
 have F:=ae (zD hG n hn);have z2:IntKind.i64.wrap (n:Int)=n:=by rw [IntKind.wrap_i64];omega
 clear hG;go_enter Tryz.func136,Tryz.ntmps136;go_wp2_with fail;refine F.out.mono ?_;rintro e w2 ⟨k,rfl,h1,h2⟩;obtain ⟨hp,hk6⟩:=Nj h1 hn;have UP:=ae (Tryz.strings_ToUpper_ascii (tx (oL (k+1) n)) w2 (by rw [bn,wT];omega) (fun j b hb=>by rw [df] at hb;exact Hf _ _ j b hb));rw [df,QT] at UP;have UP:Hid (Calls Tryz.prog 171 #[.string (tx (oL (k+1) n))] w2 fun e w'=>e=.returned (.string (tx (ig (k+1) n)))∧Below w2.heap.size w2 w'):=UP;obtain ⟨j,hj⟩:=af (4-(k+1));rw [←hj] at hp;have RE:Hid (∀W,Calls Tryz.prog 173 #[.string ⟨#[48]⟩,.int .i64 j] W fun e w'=>e=.returned (.string (tx (Lib.repeatL [48] j)))∧Below W.heap.size W w'):=ae (fun W=>Tryz.strings_Repeat ⟨#[48]⟩ j W (by omega) (by show 1*_≤_;omega));have hs:(tx (ig (k+1) n)).size=k+1:=by rw [bn,mR]
 have hs2:(tx (Lib.repeatL [48] j)).size≤4:=by rw [bn,Lib.repeatL_length];simp;omega
 have hmx:max (4-((k:Int)+1)) 0=(j:Int):=by omega
 have hwr:IntKind.i64.wrap (4-((k:Int)+1))=4-((k:Int)+1):=by rw [IntKind.wrap_i64];omega
 have HP:=ae (show tx (Lib.repeatL [48] j)++tx (ig (k+1) n)=tx (aS n) by rw [cZ,hp]);have h9:=ae h2;generalize tx (ig (k+1) n)=s1 at *;generalize tx (Lib.repeatL [48] j)=s2 at *;clear hp h1 F hj;go_wp2_with fail;refine UP.out.mono ?_;rintro e w3 ⟨rfl,h3⟩;clear UP;go_wp2_with fail;refine (RE.out _).mono ?_;rintro e w4 ⟨rfl,h4⟩;clear RE;go_wp2;go_ret;exact ⟨by rw [HP.out];rfl,ag h9.out (ag h3 h4)⟩
end Go.Proofs.YtjidohgiigjifaaGreatDoor
namespace Go.Proofs.YtjidohgiigjifaaGreatDoor
open Go.RowKit Go.Cd Go.Shelf
def l5 (B b:Nat) (l:List UInt8) (w:World):Prop:=Lib.IsBuilderF 159 5 B b (Lib.byteCells l) w
theorem l5.below {B b:Nat} {l:List UInt8} {W W':World} (h:l5 B b l W) (hb:Below W.heap.size W W'):l5 B b l W':=by
 have key:∀p,Lib.BuilderAtF 159 5 B b p (Lib.byteCells l) W→Lib.BuilderAtF 159 5 B b p (Lib.byteCells l) W':=by
  rintro p ⟨hB,v,hv,hown,hne⟩;exact ⟨hB,v,(hb.block b (block_lt hv)).trans hv,hown.kept (row:=none) ⟨hb.os,hb.tape,hb.output,hb.size,fun k hk _=>hb.block k hk⟩ (Classical.em _),hne⟩
 exact h.imp (key _) (key _)
theorem gP {B b:Nat} {l:List UInt8} {w:World} (h:l5 B b l w) (s:List UInt8) (hl:l.length+s.length≤1000000) (hB:B≤w.heap.size) :
 Calls Tryz.prog 93 #[.pointer (some ⟨b,0,none⟩),.string (tx s)] w fun e w'=>e=.returned (.tuple #[.int .i64 s.length,.nilIface])∧l5 B b (l++s) w'∧Below B w w'∧Lib.OthersKept 5 (some b) w w':=by
 have:=Any.Builder_WriteString_k (ρ:=Tryz.mZ) { Tryz.BZ with } Tryz.gN B b (Lib.byteCells l) (tx s) w h (by rw [Lib.byteCells_length,bn];omega) hB;refine Calls.mono this ?_;rintro e w' ⟨rfl,h1,h2,h3⟩;refine ⟨by rw [bn],?_,h2,h3⟩;have e:Lib.byteCells (l++s)=Lib.byteCells l++Lib.strCells (tx s):=by rw [Lib.byteCells_append];rfl
 unfold l5;rw [e];exact .inr h1
theorem xm {B b:Nat} {l:List UInt8} {w:World} (h:l5 B b l w) (h0:l≠[]) :
 Calls Tryz.prog 96 #[.pointer (some ⟨b,0,none⟩)] w fun e w'=>e=.returned (.string (tx l))∧Below B w w':=by
 have:=Any.Builder_String_k Tryz.QX Tryz.rq B b l w h h0;exact Calls.mono this fun e w' ⟨h1,_,h2,_⟩=>⟨h1,h2⟩
end Go.Proofs.YtjidohgiigjifaaGreatDoor
namespace Go.Proofs.YtjidohgiigjifaaGreatDoor
open Go.RowKit Go.Sort
abbrev encR:Int→Value:=fun x=>Value.int .i32 x
theorem tV (x:Int) (w:World):Calls Tryz.prog 153 #[.int .i32 x] w fun e w'=>e=.returned (.bool false)∧w'=w:=by
 go_enter Tryz.func153,Tryz.ntmps153;go_wp2;go_ret;exact ⟨by simp,rfl⟩
theorem aJ (x y:Int) (w:World):Calls Tryz.prog 120 #[.int .i32 x,.int .i32 y] w fun e w'=>e=.returned (.bool (Sort.ltInt x y))∧w'=w:=by
 go_enter Tryz.func120,Tryz.ntmps120;go_wp2_with (go_at_call 153;refine (tV _ _).mono ?_;rintro e w' ⟨rfl,rfl⟩);go_ret;exact ⟨rfl,rfl⟩
theorem ni (blk off cap a b:Nat) (d:Array Int) (w:World) (hH:Holds (Value.int .i32) w blk off d) (hab:a≤b) (hb:b≤d.size) (hsz:d.size<4611686018427387904) :
 Calls Tryz.prog 114 #[.slice (some ⟨blk,off,none⟩) d.size cap,.int .i64 a,.int .i64 b] w fun e w'=>
  e=.returned (.tuple #[])∧∃n,w'=putRow (Value.int .i32) (Sort.ahead w n) blk off (Sort.insertionSort ltInt d a b):=by
 go_enter Tryz.func114,Tryz.ntmps114;go_wp2
 go_loopw [6] (fun vi wr=>∃(i n:Nat) (dk:Array Int),vi=.int .i64 i∧a<i∧i≤b+1∧dk.size=d.size∧wr=putRow (Value.int .i32) (Sort.ahead w n) blk off dk∧
  insOuter ltInt a b i dk=insOuter ltInt a b (a+1) d) (fun vi _=>b+1-(intOf vi).toNat)
 case atStart=>exact ⟨a+1,0,d,by go_num,by omega,by omega,rfl,(putRow_self _ _ _ _ _ hH).symm,rfl⟩
 case round=>
  obtain ⟨i,n,dk,rfl,hai,hib,hsk,hwr,hO⟩:=hrel;have HO:Hid (insOuter ltInt a b i dk=insOuter ltInt a b (a+1) d):=hO;clear hO;go_wp2
  ·
   go_loopw [7] (fun vj wr2=>∃(j m:Nat) (dj:Array Int),vj=.int .i64 j∧a≤j∧j≤i∧dj.size=d.size∧wr2=putRow (Value.int .i32) (Sort.ahead w m) blk off dj∧
    insInner ltInt a j dj=insInner ltInt a i dk) (fun vj _=>(intOf vj).toNat)
   case atStart=>exact ⟨i,n,dk,rfl,by omega,Nat.le_refl _,hsk,rfl,rfl⟩
   case round=>
    obtain ⟨j,m,dj,rfl,haj,hji,hsj,hw2,hI⟩:=hrel;have hlt:i<b:=by assumption
    obtain ⟨G,hG⟩:∃G:Nat→Int,∀t,G t=dj[t]!:=⟨fun t=>dj[t]!,fun _=>rfl⟩;have hcw:∀t,t<d.size→wr.cell? ⟨blk,off+t,none⟩=some (.int .i32 (G t)):=fun t ht=>by
     rw [hw2,hG];exact cell?_putRow _ _ _ _ d dj (holds_ahead _ _ _ _ _ _ hH) hsj t (by omega)
    have hfw:∀t,t<d.size→wr.frozen? ⟨blk,off+t,none⟩=false:=fun t ht=>by
     rw [hw2,frozen?_putRow];exact ((holds_ahead _ _ m _ _ _ hH) t ht).2
    have HW:Hid (wr=putRow (Value.int .i32) (Sort.ahead w m) blk off dj):=hw2;have HG:Hid (∀t,G t=dj[t]!):=hG;have HI:Hid (insInner ltInt a j dj=insInner ltInt a i dk):=hI;clear hw2 hG hI hH;have out:(j≤a∨ltInt dj[j]! dj[j-1]! = false)→∀q,∃i' n' dk',Value.int .i64 ((i:Int)+1)=.int .i64 (i':Nat)∧a<i'∧i'≤b+1∧dk'.size=d.size∧
     wr.drewN q=putRow (Value.int .i32) (Sort.ahead w n') blk off dk'∧insOuter ltInt a b i' dk'=insOuter ltInt a b (a+1) d:=fun hs q=>
     ⟨i+1,m+q,dj,by go_num,by omega,by omega,hsj,by rw [HW.out];exact putRow_drewN _ _ _ _ _ _ _,
       by rw [←HO.out,insOuter_go _ _ _ _ _ hlt,←HI.out,insInner_stop _ _ _ _ hs]⟩
    have OUT:Hid _:=out;clear out;go_wp2;by_cases hja:a<j
    ·go_quiet (first|(go_at_call 120;refine Calls.quiet_of_same (aJ _ _ _)));go_wp2
     ·
      have hl:ltInt (G j) (G (j-1))=true:=by assumption
      go_region
      all_goals go_wp2
      go_roundw
      case rel=>
       refine ⟨j-1,m+(nq+1),swp dj j (j-1),by congr 1;omega,by omega,by omega,by rw [size_swp];exact hsj,?_,?_⟩
       ·rw [HW.out,HG.out,HG.out];exact swap_worldA _ w m (nq+1) blk off dj j (j-1) (by omega) (by omega)
       ·rw [←HI.out,insInner_go ltInt a j dj hja (by rw [←HG.out,←HG.out];exact hl)]
      case measure=>simp [intOf];omega
     ·
      have hl:ltInt (G j) (G (j-1))=false:=by assumption
      go_roundw
      case rel=>exact OUT.out (Or.inr (by rw [←HG.out,←HG.out];exact hl)) nq
      case measure=>simp [intOf];omega
    ·go_quiet (first|(go_at_call 120;refine Calls.quiet_of_same (aJ _ _ _)));go_wp2;go_roundw
     case rel=>exact OUT.out (Or.inl (by omega)) nq
     case measure=>simp [intOf];omega
  ·
   have hge:¬i<b:=by assumption
   go_end0
   exact ⟨rfl,n,by unfold Sort.insertionSort;rw [←HO.out,insOuter_stop _ _ _ _ _ hge]⟩
theorem oM (blk off cap:Nat) (d:Array Int) (a b:Nat) (w:World) (hH:Holds encR w blk off d) (hab:a≤b) (hb:b≤d.size) (hsz:d.size<4611686018427387904) :
 Calls Tryz.prog 118 #[.slice (some ⟨blk,off,none⟩) d.size cap,.int .i64 a,.int .i64 b] w fun e w'=>e=.returned (.tuple #[])∧∃n,w'=putRow encR (Sort.ahead w n) blk off (reverseRange d a b):=by
 go_enter Tryz.func118,Tryz.ntmps118;go_wp2
 go_loopg [6,7] (b-a) (fun k s6 s7 wr=>∃(i jn:Nat) (jz:Int) (dk:Array Int) (n:Nat),s6=.int .i64 i∧s7=.int .i64 jz∧((i:Int)<jz→jz=jn∧jn<d.size)∧(¬(i:Int)<jz→¬i<jn)∧jn-i≤k∧
  dk.size=d.size∧wr=putRow encR (Sort.ahead w n) blk off dk∧reverseLoop i jn dk=reverseLoop a (b-1) d)
 case atStart=>exact ⟨a,b-1,(b:Int)-1,d,0,rfl,rfl,fun h=>⟨by omega,by omega⟩,fun h=>by omega,by omega,rfl,(putRow_self encR w blk off d hH).symm,rfl⟩
 case round=>
  obtain ⟨i,jn,jz,dk,n,rfl,rfl,h1,h2,hk,hds,hwr,heq⟩:=hrel;by_cases hlt:(i:Int)<jz
  ·obtain ⟨rfl,hjn⟩:=h1 hlt;have hij:i<jn:=by omega
   have hHk:Holds encR wr blk off dk:=by rw [hwr];exact holds_putRow encR _ blk off d dk (holds_ahead encR w n blk off d hH) hds
   obtain ⟨ci,fi⟩:=hHk i (by omega);obtain ⟨cj,fj⟩:=hHk jn (by omega);have A:Aside (wr=putRow encR (Sort.ahead w n) blk off dk):=hwr;clear hwr hHk hH h1 h2;go_wp2_with fail;go_region;go_wp2
   go_roundg (jn-1-(i+1))
   case measure=>omega
   case rel=>
    rw [reverseLoop,if_pos hij] at heq
    exact ⟨i+1,jn-1,(jn:Int)-1,swp dk i jn,n+1,by simp,rfl,fun h=>⟨by omega,by omega⟩,fun h=>by omega,Nat.le_refl _,by rw [size_swp];exact hds,
     swap_world encR (by omega) (by omega) A.out (by simp [encR,getElem!_pos,show jn<dk.size by omega]) rfl,heq⟩
  ·have hnot:=h2 hlt;go_wp2
   go_end0
   refine ⟨rfl,n,?_⟩;rw [reverseLoop,if_neg hnot] at heq;rw [reverseRange,←heq]
theorem jq (blk off cap a b:Nat) (d:Array Int) (w:World) (hH:Holds (Value.int .i32) w blk off d) (hab:a<b) (hb:b≤d.size) (hsz:d.size<4611686018427387904) :
 Calls Tryz.prog 119 #[.slice (some ⟨blk,off,none⟩) d.size cap,.int .i64 a,.int .i64 b] w fun e w'=>
  e=.returned (.bool (Sort.partialInsertionSort ltInt d a b).2)∧∃n,w'=putRow (Value.int .i32) (Sort.ahead w n) blk off (Sort.partialInsertionSort ltInt d a b).1:=by
 have HH:Hid (Holds (Value.int .i32) w blk off d):=hH;have HST:Hid (w=putRow (Value.int .i32) (Sort.ahead w 0) blk off d):=(putRow_self _ _ _ _ _ hH).symm;clear hH;go_enter Tryz.func119,Tryz.ntmps119;go_wp2
 go_loopw [7,8] (fun vi vs wr=>∃(i s n:Nat) (dk:Array Int),vi=.int .i64 i∧vs=.int .i64 s∧s≤5∧a<i∧i≤b∧dk.size=d.size∧wr=putRow (Value.int .i32) (Sort.ahead w n) blk off dk∧
  partialIns ltInt a b (5-s) i dk=partialIns ltInt a b 5 (a+1) d) (fun _ vs _=>5-(intOf vs).toNat)
 case atStart=>exact ⟨a+1,0,0,d,by go_num,rfl,by omega,by omega,by omega,rfl,HST.out,rfl⟩
 case round=>
  obtain ⟨i,s,n,dk,rfl,rfl,hs5,hai,hib,hsk,hwr,hO⟩:=hrel;have HO:Hid (partialIns ltInt a b (5-s) i dk=partialIns ltInt a b 5 (a+1) d):=hO;clear hO;go_wp2
  ·
   have hs:s<5:=by omega
   go_loopw [7] (fun vi wr2=>∃(k m:Nat),vi=.int .i64 k∧i≤k∧k≤b∧wr2=putRow (Value.int .i32) (Sort.ahead w m) blk off dk∧scanSorted ltInt dk b k=scanSorted ltInt dk b i) (fun vi _=>b-(intOf vi).toNat)
   case atStart=>exact ⟨i,n,rfl,Nat.le_refl _,hib,rfl,rfl⟩
   case round=>
    obtain ⟨k,m,rfl,hik,hkb,hw2,hS⟩:=hrel;obtain ⟨G,hG⟩:∃G:Nat→Int,∀t,G t=dk[t]!:=⟨fun t=>dk[t]!,fun _=>rfl⟩;have hcw:∀t,t<d.size→wr.cell? ⟨blk,off+t,none⟩=some (.int .i32 (G t)):=fun t ht=>by
     rw [hw2,hG];exact cell?_putRow _ _ _ _ d dk (holds_ahead _ _ _ _ _ _ HH.out) hsk t (by omega)
    have hfw:∀t,t<d.size→wr.frozen? ⟨blk,off+t,none⟩=false:=fun t ht=>by
     rw [hw2,frozen?_putRow];exact ((holds_ahead _ _ m _ _ _ HH.out) t ht).2
    have HW:Hid (wr=putRow (Value.int .i32) (Sort.ahead w m) blk off dk):=hw2;have HG:Hid (∀t,G t=dk[t]!):=hG;have HS:Hid (scanSorted ltInt dk b k=scanSorted ltInt dk b i):=hS;clear hw2 hG hS;go_wp2;by_cases hkb':k<b
    ·go_quiet (first|(go_at_call 120;refine Calls.quiet_of_same (aJ _ _ _)));go_wp2
     all_goals first
      | (at_end
         have hl:ltInt (G k) (G (k-1))=false:=by
          have h:(!ltInt (G k) (G (k-1)))=true:=by assumption
          simpa using h
         go_roundw
         case rel=>exact ⟨k+1,m+nq,by go_num,by omega,by omega,by rw [HW.out];exact putRow_drewN _ _ _ _ _ _ _,by rw [←HS.out,scanSorted_go ltInt dk b k hkb' (by rw [←HG.out,←HG.out];exact hl)]⟩
         case measure=>simp [intOf];omega)
      | (have hl:ltInt (G k) (G (k-1))=true:=by
          have h:(!ltInt (G k) (G (k-1)))=false:=by assumption
          simpa using h
         have HK:Hid (scanSorted ltInt dk b i=k):=by
          show scanSorted ltInt dk b i=k;rw [←HS.out,scanSorted_stop ltInt dk b k (Or.inr (by rw [←HG.out,←HG.out];exact hl))]
         first
          | (at_ret
             have hv:Sort.partialInsertionSort ltInt d a b=(dk,false):=by
              unfold Sort.partialInsertionSort;rw [←HO.out,pi_short ltInt a b s i dk hs (by rw [HK.out];omega) (by omega)]
             rw [hv];go_ret
             exact ⟨rfl,m+nq,by rw [HW.out];exact putRow_drewN _ _ _ _ _ _ _⟩)
          | (at_region 11
             have h50:¬b-a<50:=by omega
             go_region;have hsw:((wr.drewN (nq+1)).setCell ⟨blk,off+k,none⟩ (.int .i32 (G (k-1)))).setCell ⟨blk,off+(k-1),none⟩ (.int .i32 (G k))=putRow (Value.int .i32) (Sort.ahead w (m+(nq+1))) blk off (swp dk k (k-1)):=by
              rw [HW.out,HG.out,HG.out];exact swap_worldA _ w m (nq+1) blk off dk k (k-1) (by omega) (by omega)
             have hs1:(swp dk k (k-1)).size=d.size:=by rw [size_swp];exact hsk
             go_wp2
             all_goals first
              | (at_loop
                 have hka:k-a≥2:=by omega
                 go_loopw [9] (fun vj wr2=>∃(j m2:Nat) (dj:Array Int),vj=.int .i64 j∧j≤k-1∧dj.size=d.size∧wr2=putRow (Value.int .i32) (Sort.ahead w m2) blk off dj∧
                  shiftDown ltInt j dj=shiftDown ltInt (k-1) (swp dk k (k-1))) (fun vj _=>(intOf vj).toNat)
                 case atStart=>exact ⟨k-1,_,(swp dk k (k-1)),by congr 1;omega,Nat.le_refl _,hs1,rfl,rfl⟩
                 case round=>
                  obtain ⟨j,m2,dj,rfl,hjk,hsj,hw2,hDn⟩:=hrel;obtain ⟨G,hG⟩:∃G:Nat→Int,∀t,G t=dj[t]!:=⟨fun t=>dj[t]!,fun _=>rfl⟩;have hcw:∀t,t<d.size→wr.cell? ⟨blk,off+t,none⟩=some (.int .i32 (G t)):=fun t ht=>by
                   rw [hw2,hG];exact cell?_putRow _ _ _ _ d dj (holds_ahead _ _ _ _ _ _ HH.out) hsj t (by omega)
                  have hfw:∀t,t<d.size→wr.frozen? ⟨blk,off+t,none⟩=false:=fun t ht=>by
                   rw [hw2,frozen?_putRow];exact ((holds_ahead _ _ m2 _ _ _ HH.out) t ht).2
                  have HW:Hid (wr=putRow (Value.int .i32) (Sort.ahead w m2) blk off dj):=hw2;have HG:Hid (∀t,G t=dj[t]!):=hG;have HDn:Hid (shiftDown ltInt j dj=shiftDown ltInt (k-1) (swp dk k (k-1))):=hDn;clear hw2 hG hDn hsw;go_wp2
                  all_goals first
                   | (at_region 16
                      go_quiet (first|(go_at_call 120;refine Calls.quiet_of_same (aJ _ _ _)));go_wp2
                      all_goals first
                       | (at_region 17
                          have hl:ltInt (G j) (G (j-1))=true:=by
                           have h:(!ltInt (G j) (G (j-1)))=false:=by assumption
                           simpa using h
                          go_region
                          all_goals go_wp2
                          go_roundw
                          case rel=>
                           refine ⟨j-1,m2+(nq+1),swp dj j (j-1),by congr 1;omega,by omega,by rw [size_swp];exact hsj,?_,?_⟩
                           ·rw [HW.out,HG.out,HG.out];exact swap_worldA _ w m2 (nq+1) blk off dj j (j-1) (by omega) (by omega)
                           ·rw [←HDn.out,shiftDown_go ltInt j dj (by omega) (by rw [←HG.out,←HG.out];exact hl)]
                          case measure=>simp [intOf];omega)
                       | (
                          have hl:ltInt (G j) (G (j-1))=false:=by
                           have h:(!ltInt (G j) (G (j-1)))=true:=by assumption
                           simpa using h
                          have HD:Hid (fixDown ltInt a k (swp dk k (k-1))=dj):=by
                           show fixDown ltInt a k (swp dk k (k-1))=dj;unfold fixDown;rw [if_pos hka,←HDn.out,shiftDown_stop ltInt j dj (Or.inr (by rw [←HG.out,←HG.out];exact hl))]
                          first
                           | (at_end
                              go_roundw
                              case rel=>
                               refine ⟨k,s+1,_,dj,rfl,by go_num,by omega,by omega,by omega,hsj,(by first|rfl|exact HW.out|(rw [HW.out];exact putRow_drewN _ _ _ _ _ _ _)),?_⟩;rw [←HO.out,pi_go ltInt a b s i k dk hs HK.out (by omega) (by omega),HD.out,show fixUp ltInt b k dj=dj from by unfold fixUp;rw [if_neg (by omega)]]
                              case measure=>simp [intOf];omega)
                           | (at_loop
                              go_loopw [10] (fun vj wr2=>∃(j m3:Nat) (du:Array Int),vj=.int .i64 j∧k+1≤j∧j≤b∧du.size=d.size∧wr2=putRow (Value.int .i32) (Sort.ahead w m3) blk off du∧
                               shiftUp ltInt b j du=shiftUp ltInt b (k+1) dj) (fun vj _=>b-(intOf vj).toNat)
                              case atStart=>exact ⟨k+1,_,dj,by go_num,Nat.le_refl _,by omega,hsj,(by first|rfl|exact HW.out|(rw [HW.out];exact putRow_drewN _ _ _ _ _ _ _)),rfl⟩
                              case round=>
                               obtain ⟨j,m3,du,rfl,hkj,hjb,hsu,hw3,hU⟩:=hrel;obtain ⟨G,hG⟩:∃G:Nat→Int,∀t,G t=du[t]!:=⟨fun t=>du[t]!,fun _=>rfl⟩;have hcw:∀t,t<d.size→wr.cell? ⟨blk,off+t,none⟩=some (.int .i32 (G t)):=fun t ht=>by
                                rw [hw3,hG];exact cell?_putRow _ _ _ _ d du (holds_ahead _ _ _ _ _ _ HH.out) hsu t (by omega)
                               have hfw:∀t,t<d.size→wr.frozen? ⟨blk,off+t,none⟩=false:=fun t ht=>by
                                rw [hw3,frozen?_putRow];exact ((holds_ahead _ _ m3 _ _ _ HH.out) t ht).2
                               have HW:Hid (wr=putRow (Value.int .i32) (Sort.ahead w m3) blk off du):=hw3;have HG:Hid (∀t,G t=du[t]!):=hG;have HU:Hid (shiftUp ltInt b j du=shiftUp ltInt b (k+1) dj):=hU;clear hw3 hG hU;go_wp2
                               all_goals first
                                | (at_region 22
                                   go_quiet (first|(go_at_call 120;refine Calls.quiet_of_same (aJ _ _ _)));go_wp2
                                   all_goals first
                                    | (at_region 23
                                       have hl:ltInt (G j) (G (j-1))=true:=by
                                        have h:(!ltInt (G j) (G (j-1)))=false:=by assumption
                                        simpa using h
                                       go_region
                                       all_goals go_wp2
                                       go_roundw
                                       case rel=>
                                        refine ⟨j+1,m3+(nq+1),swp du j (j-1),by go_num,by omega,by omega,by rw [size_swp];exact hsu,?_,?_⟩
                                        ·rw [HW.out,HG.out,HG.out];exact swap_worldA _ w m3 (nq+1) blk off du j (j-1) (by omega) (by omega)
                                        ·rw [←HU.out,shiftUp_go ltInt b j du (by omega) (by rw [←HG.out,←HG.out];exact hl)]
                                       case measure=>simp [intOf];omega)
                                    | (at_end
                                       have hl:ltInt (G j) (G (j-1))=false:=by
                                        have h:(!ltInt (G j) (G (j-1)))=true:=by assumption
                                        simpa using h
                                       go_roundw
                                       case rel=>
                                        refine ⟨k,s+1,_,du,rfl,by go_num,by omega,by omega,by omega,hsu,(by first|rfl|exact HW.out|(rw [HW.out];exact putRow_drewN _ _ _ _ _ _ _)),?_⟩;rw [←HO.out,pi_go ltInt a b s i k dk hs HK.out (by omega) (by omega),HD.out,show fixUp ltInt b k dj=du from by unfold fixUp;rw [if_pos (by omega),←HU.out,shiftUp_stop ltInt b j du (Or.inr (by rw [←HG.out,←HG.out];exact hl))]]
                                       case measure=>simp [intOf];omega))
                                | (at_end
                                   go_roundw
                                   case rel=>
                                    refine ⟨k,s+1,_,du,rfl,by go_num,by omega,by omega,by omega,hsu,(by first|rfl|exact HW.out|(rw [HW.out];exact putRow_drewN _ _ _ _ _ _ _)),?_⟩;rw [←HO.out,pi_go ltInt a b s i k dk hs HK.out (by omega) (by omega),HD.out,show fixUp ltInt b k dj=du from by unfold fixUp;rw [if_pos (by omega),←HU.out,shiftUp_stop ltInt b j du (Or.inl (by omega))]]
                                   case measure=>simp [intOf];omega))))
                   | (
                      have HD:Hid (fixDown ltInt a k (swp dk k (k-1))=dj):=by
                       show fixDown ltInt a k (swp dk k (k-1))=dj;unfold fixDown;rw [if_pos hka,←HDn.out,shiftDown_stop ltInt j dj (Or.inl (by omega))]
                      first
                       | (at_end
                          go_roundw
                          case rel=>
                           refine ⟨k,s+1,_,dj,rfl,by go_num,by omega,by omega,by omega,hsj,(by first|rfl|exact HW.out|(rw [HW.out];exact putRow_drewN _ _ _ _ _ _ _)),?_⟩;rw [←HO.out,pi_go ltInt a b s i k dk hs HK.out (by omega) (by omega),HD.out,show fixUp ltInt b k dj=dj from by unfold fixUp;rw [if_neg (by omega)]]
                          case measure=>simp [intOf];omega)
                       | (at_loop
                          go_loopw [10] (fun vj wr2=>∃(j m3:Nat) (du:Array Int),vj=.int .i64 j∧k+1≤j∧j≤b∧du.size=d.size∧wr2=putRow (Value.int .i32) (Sort.ahead w m3) blk off du∧
                           shiftUp ltInt b j du=shiftUp ltInt b (k+1) dj) (fun vj _=>b-(intOf vj).toNat)
                          case atStart=>exact ⟨k+1,_,dj,by go_num,Nat.le_refl _,by omega,hsj,(by first|rfl|exact HW.out|(rw [HW.out];exact putRow_drewN _ _ _ _ _ _ _)),rfl⟩
                          case round=>
                           obtain ⟨j,m3,du,rfl,hkj,hjb,hsu,hw3,hU⟩:=hrel;obtain ⟨G,hG⟩:∃G:Nat→Int,∀t,G t=du[t]!:=⟨fun t=>du[t]!,fun _=>rfl⟩;have hcw:∀t,t<d.size→wr.cell? ⟨blk,off+t,none⟩=some (.int .i32 (G t)):=fun t ht=>by
                            rw [hw3,hG];exact cell?_putRow _ _ _ _ d du (holds_ahead _ _ _ _ _ _ HH.out) hsu t (by omega)
                           have hfw:∀t,t<d.size→wr.frozen? ⟨blk,off+t,none⟩=false:=fun t ht=>by
                            rw [hw3,frozen?_putRow];exact ((holds_ahead _ _ m3 _ _ _ HH.out) t ht).2
                           have HW:Hid (wr=putRow (Value.int .i32) (Sort.ahead w m3) blk off du):=hw3;have HG:Hid (∀t,G t=du[t]!):=hG;have HU:Hid (shiftUp ltInt b j du=shiftUp ltInt b (k+1) dj):=hU;clear hw3 hG hU;go_wp2
                           all_goals first
                            | (at_region 22
                               go_quiet (first|(go_at_call 120;refine Calls.quiet_of_same (aJ _ _ _)));go_wp2
                               all_goals first
                                | (at_region 23
                                   have hl:ltInt (G j) (G (j-1))=true:=by
                                    have h:(!ltInt (G j) (G (j-1)))=false:=by assumption
                                    simpa using h
                                   go_region
                                   all_goals go_wp2
                                   go_roundw
                                   case rel=>
                                    refine ⟨j+1,m3+(nq+1),swp du j (j-1),by go_num,by omega,by omega,by rw [size_swp];exact hsu,?_,?_⟩
                                    ·rw [HW.out,HG.out,HG.out];exact swap_worldA _ w m3 (nq+1) blk off du j (j-1) (by omega) (by omega)
                                    ·rw [←HU.out,shiftUp_go ltInt b j du (by omega) (by rw [←HG.out,←HG.out];exact hl)]
                                   case measure=>simp [intOf];omega)
                                | (at_end
                                   have hl:ltInt (G j) (G (j-1))=false:=by
                                    have h:(!ltInt (G j) (G (j-1)))=true:=by assumption
                                    simpa using h
                                   go_roundw
                                   case rel=>
                                    refine ⟨k,s+1,_,du,rfl,by go_num,by omega,by omega,by omega,hsu,(by first|rfl|exact HW.out|(rw [HW.out];exact putRow_drewN _ _ _ _ _ _ _)),?_⟩;rw [←HO.out,pi_go ltInt a b s i k dk hs HK.out (by omega) (by omega),HD.out,show fixUp ltInt b k dj=du from by unfold fixUp;rw [if_pos (by omega),←HU.out,shiftUp_stop ltInt b j du (Or.inr (by rw [←HG.out,←HG.out];exact hl))]]
                                   case measure=>simp [intOf];omega))
                            | (at_end
                               go_roundw
                               case rel=>
                                refine ⟨k,s+1,_,du,rfl,by go_num,by omega,by omega,by omega,hsu,(by first|rfl|exact HW.out|(rw [HW.out];exact putRow_drewN _ _ _ _ _ _ _)),?_⟩;rw [←HO.out,pi_go ltInt a b s i k dk hs HK.out (by omega) (by omega),HD.out,show fixUp ltInt b k dj=du from by unfold fixUp;rw [if_pos (by omega),←HU.out,shiftUp_stop ltInt b j du (Or.inl (by omega))]]
                               case measure=>simp [intOf];omega))))
              | (
                 have HD:Hid (fixDown ltInt a k (swp dk k (k-1))=(swp dk k (k-1))):=by
                  show fixDown ltInt a k (swp dk k (k-1))=(swp dk k (k-1));unfold fixDown;rw [if_neg (by omega)]
                 first
                  | (at_end
                     go_roundw
                     case rel=>
                      refine ⟨k,s+1,_,(swp dk k (k-1)),rfl,by go_num,by omega,by omega,by omega,hs1,(by first|rfl|exact HW.out|(rw [HW.out];exact putRow_drewN _ _ _ _ _ _ _)),?_⟩;rw [←HO.out,pi_go ltInt a b s i k dk hs HK.out (by omega) (by omega),HD.out,show fixUp ltInt b k (swp dk k (k-1))=(swp dk k (k-1)) from by unfold fixUp;rw [if_neg (by omega)]]
                     case measure=>simp [intOf];omega)
                  | (at_loop
                     go_loopw [10] (fun vj wr2=>∃(j m3:Nat) (du:Array Int),vj=.int .i64 j∧k+1≤j∧j≤b∧du.size=d.size∧wr2=putRow (Value.int .i32) (Sort.ahead w m3) blk off du∧
                      shiftUp ltInt b j du=shiftUp ltInt b (k+1) (swp dk k (k-1))) (fun vj _=>b-(intOf vj).toNat)
                     case atStart=>exact ⟨k+1,_,(swp dk k (k-1)),by go_num,Nat.le_refl _,by omega,hs1,(by first|rfl|exact HW.out|(rw [HW.out];exact putRow_drewN _ _ _ _ _ _ _)),rfl⟩
                     case round=>
                      obtain ⟨j,m3,du,rfl,hkj,hjb,hsu,hw3,hU⟩:=hrel;obtain ⟨G,hG⟩:∃G:Nat→Int,∀t,G t=du[t]!:=⟨fun t=>du[t]!,fun _=>rfl⟩;have hcw:∀t,t<d.size→wr.cell? ⟨blk,off+t,none⟩=some (.int .i32 (G t)):=fun t ht=>by
                       rw [hw3,hG];exact cell?_putRow _ _ _ _ d du (holds_ahead _ _ _ _ _ _ HH.out) hsu t (by omega)
                      have hfw:∀t,t<d.size→wr.frozen? ⟨blk,off+t,none⟩=false:=fun t ht=>by
                       rw [hw3,frozen?_putRow];exact ((holds_ahead _ _ m3 _ _ _ HH.out) t ht).2
                      have HW:Hid (wr=putRow (Value.int .i32) (Sort.ahead w m3) blk off du):=hw3;have HG:Hid (∀t,G t=du[t]!):=hG;have HU:Hid (shiftUp ltInt b j du=shiftUp ltInt b (k+1) (swp dk k (k-1))):=hU;clear hw3 hG hU;go_wp2
                      all_goals first
                       | (at_region 22
                          go_quiet (first|(go_at_call 120;refine Calls.quiet_of_same (aJ _ _ _)));go_wp2
                          all_goals first
                           | (at_region 23
                              have hl:ltInt (G j) (G (j-1))=true:=by
                               have h:(!ltInt (G j) (G (j-1)))=false:=by assumption
                               simpa using h
                              go_region
                              all_goals go_wp2
                              go_roundw
                              case rel=>
                               refine ⟨j+1,m3+(nq+1),swp du j (j-1),by go_num,by omega,by omega,by rw [size_swp];exact hsu,?_,?_⟩
                               ·rw [HW.out,HG.out,HG.out];exact swap_worldA _ w m3 (nq+1) blk off du j (j-1) (by omega) (by omega)
                               ·rw [←HU.out,shiftUp_go ltInt b j du (by omega) (by rw [←HG.out,←HG.out];exact hl)]
                              case measure=>simp [intOf];omega)
                           | (at_end
                              have hl:ltInt (G j) (G (j-1))=false:=by
                               have h:(!ltInt (G j) (G (j-1)))=true:=by assumption
                               simpa using h
                              go_roundw
                              case rel=>
                               refine ⟨k,s+1,_,du,rfl,by go_num,by omega,by omega,by omega,hsu,(by first|rfl|exact HW.out|(rw [HW.out];exact putRow_drewN _ _ _ _ _ _ _)),?_⟩;rw [←HO.out,pi_go ltInt a b s i k dk hs HK.out (by omega) (by omega),HD.out,show fixUp ltInt b k (swp dk k (k-1))=du from by unfold fixUp;rw [if_pos (by omega),←HU.out,shiftUp_stop ltInt b j du (Or.inr (by rw [←HG.out,←HG.out];exact hl))]]
                              case measure=>simp [intOf];omega))
                       | (at_end
                          go_roundw
                          case rel=>
                           refine ⟨k,s+1,_,du,rfl,by go_num,by omega,by omega,by omega,hsu,(by first|rfl|exact HW.out|(rw [HW.out];exact putRow_drewN _ _ _ _ _ _ _)),?_⟩;rw [←HO.out,pi_go ltInt a b s i k dk hs HK.out (by omega) (by omega),HD.out,show fixUp ltInt b k (swp dk k (k-1))=du from by unfold fixUp;rw [if_pos (by omega),←HU.out,shiftUp_stop ltInt b j du (Or.inl (by omega))]]
                          case measure=>simp [intOf];omega)))))
    ·
     go_quiet (first|(go_at_call 120;refine Calls.quiet_of_same (aJ _ _ _)));go_wp2;obtain rfl:k=b:=by omega
     have hv:Sort.partialInsertionSort ltInt d a k=(dk,true):=by
      unfold Sort.partialInsertionSort;rw [←HO.out,pi_true ltInt a k s i dk hs (by rw [←HS.out,scanSorted_stop ltInt dk k k (Or.inl (by omega))])]
     rw [hv];go_ret;exact ⟨rfl,m+nq,by rw [HW.out];exact putRow_drewN _ _ _ _ _ _ _⟩
  ·
   obtain rfl:s=5:=by omega
   have hv:Sort.partialInsertionSort ltInt d a b=(dk,false):=by
    unfold Sort.partialInsertionSort;rw [←HO.out,pi_end]
   rw [hv];go_ret;exact ⟨rfl,n,rfl⟩
theorem iZ (blk off len cap:Nat) (d:Array Int) (hlen:d.size=len) (lo hi first:Nat) (w:World) (hH:Holds encR w blk off d) (hlo:lo≤hi) (hb:first+hi≤d.size) (hsz:d.size<4611686018427387904) :
 Calls Tryz.prog 148 #[.slice (some ⟨blk,off,none⟩) len cap,.int .i64 lo,.int .i64 hi,.int .i64 first] w fun e w'=>e=.returned (.tuple #[])∧∃n,w'=putRow encR (Sort.ahead w n) blk off (siftDown ltInt hi first lo d):=by
 subst hlen;go_enter Tryz.func148,Tryz.ntmps148;go_wp2
 go_loopg [8] (hi-lo) (fun k s8 wr=>∃(root:Nat) (dk:Array Int) (n:Nat),s8=.int .i64 root∧root≤hi∧hi-root≤k∧dk.size=d.size∧wr=putRow encR (Sort.ahead w n) blk off dk∧siftDown ltInt hi first root dk=siftDown ltInt hi first lo d)
 case atStart=>exact ⟨lo,d,0,rfl,hlo,Nat.le_refl _,rfl,(putRow_self encR w blk off d hH).symm,rfl⟩
 case round=>
  obtain ⟨root,dk,n,rfl,hr,hk,hds,hwr,heq⟩:=hrel;have hHk:Holds encR wr blk off dk:=by rw [hwr];exact holds_putRow encR _ blk off d dk (holds_ahead encR w n blk off d hH) hds
  have hcw:∀t,t<d.size→wr.cell? ⟨blk,off+t,none⟩=some (.int .i32 dk[t]!):=fun t ht=>(hHk t (by omega)).1;have hfw:∀t,t<d.size→wr.frozen? ⟨blk,off+t,none⟩=false:=fun t ht=>(hHk t (by omega)).2;have A:Aside (wr=putRow encR (Sort.ahead w n) blk off dk):=hwr;clear hwr hH hHk;by_cases h0:hi≤2*root+1
  ·
   have h0z:(hi:Int)≤2*(root:Int)+1:=by omega
   go_wp2
   go_end0
   refine ⟨rfl,n,?_⟩;rw [A.out,←heq,sd_end ltInt dk h0]
  ·
   have h0z:¬((hi:Int)≤2*(root:Int)+1):=by omega
   by_cases h1:2*root+2<hi
   ·have h1z:2*(root:Int)+1+1<(hi:Int):=by omega
    go_wp2_with fail;go_big_quiet (first|(go_at_call 120;refine Calls.quiet_of_same (aJ _ _ _)));go_wp2_with fail
    ·
     have hL:ltInt dk[first+2*root+1]! dk[first+2*root+2]! = true:=by assumption
     revert nq;intro nq1;have hcw2:∀t,t<d.size→(wr.drewN nq1).cell? ⟨blk,off+t,none⟩=some (.int .i32 dk[t]!):=hcw;have hfw2:∀t,t<d.size→(wr.drewN nq1).frozen? ⟨blk,off+t,none⟩=false:=hfw;have A2:Aside (wr.drewN nq1=putRow encR (Sort.ahead w (n+nq1)) blk off dk):=drewN_world encR A.out nq1;clear hcw hfw A;generalize wr.drewN nq1=wr2 at hcw2 hfw2 A2 ⊢;go_big_quiet (first|(go_at_call 120;refine Calls.quiet_of_same (aJ _ _ _)));go_wp2_with fail
     ·
      have hS:ltInt dk[first+root]! dk[first+2*root+2]! = false:=by
       have:(!ltInt dk[first+root]! dk[first+2*root+2]!)=true:=by assumption
       simpa using this
      (try simp only [Exit.inBlock,Exit.then]);refine bodyPost_ret (results_none rfl _ _ _) rfl ?_
      refine ⟨rfl,n+nq1+nq,?_⟩;rw [drewN_world encR A2.out nq,←heq,sd_right_stop ltInt dk h1 hL hS]
     ·
      have hG:ltInt dk[first+root]! dk[first+2*root+2]! = true:=by
       have:(!ltInt dk[first+root]! dk[first+2*root+2]!)=false:=by assumption
       simpa using this
      have hcw3:∀t,t<d.size→(wr2.drewN nq).cell? ⟨blk,off+t,none⟩=some (.int .i32 dk[t]!):=hcw2;have hfw3:∀t,t<d.size→(wr2.drewN nq).frozen? ⟨blk,off+t,none⟩=false:=hfw2;have A3:Aside (wr2.drewN nq=putRow encR (Sort.ahead w (n+nq1+nq)) blk off dk):=drewN_world encR A2.out nq;clear hcw2 hfw2 A2;generalize wr2.drewN nq=wr3 at hcw3 hfw3 A3 ⊢;go_region;go_wp2
      go_roundg (hi-(2*root+2))
      case measure=>omega
      case rel=>
       refine ⟨2*root+2,swp dk (first+root) (first+(2*root+1+1)),n+nq1+nq+1,by simp <;> omega,by omega,Nat.le_refl _,by rw [size_swp];exact hds,swap_world encR (by omega) (by omega) A3.out rfl rfl,?_⟩;rw [←heq,sd_right_go ltInt dk h1 hL hG]
    ·
     have hL:ltInt dk[first+2*root+1]! dk[first+2*root+2]! = false:=by assumption
     revert nq;intro nq1;have hcw2:∀t,t<d.size→(wr.drewN nq1).cell? ⟨blk,off+t,none⟩=some (.int .i32 dk[t]!):=hcw;have hfw2:∀t,t<d.size→(wr.drewN nq1).frozen? ⟨blk,off+t,none⟩=false:=hfw;have A2:Aside (wr.drewN nq1=putRow encR (Sort.ahead w (n+nq1)) blk off dk):=drewN_world encR A.out nq1;clear hcw hfw A;generalize wr.drewN nq1=wr2 at hcw2 hfw2 A2 ⊢;go_big_quiet (first|(go_at_call 120;refine Calls.quiet_of_same (aJ _ _ _)));go_wp2_with fail
     ·
      have hS:ltInt dk[first+root]! dk[first+2*root+1]! = false:=by
       have:(!ltInt dk[first+root]! dk[first+2*root+1]!)=true:=by assumption
       simpa using this
      (try simp only [Exit.inBlock,Exit.then]);refine bodyPost_ret (results_none rfl _ _ _) rfl ?_
      refine ⟨rfl,n+nq1+nq,?_⟩;rw [drewN_world encR A2.out nq,←heq,sd_left_stop ltInt dk (by omega) (fun _=>hL) hS]
     ·
      have hG:ltInt dk[first+root]! dk[first+2*root+1]! = true:=by
       have:(!ltInt dk[first+root]! dk[first+2*root+1]!)=false:=by assumption
       simpa using this
      have hcw3:∀t,t<d.size→(wr2.drewN nq).cell? ⟨blk,off+t,none⟩=some (.int .i32 dk[t]!):=hcw2;have hfw3:∀t,t<d.size→(wr2.drewN nq).frozen? ⟨blk,off+t,none⟩=false:=hfw2;have A3:Aside (wr2.drewN nq=putRow encR (Sort.ahead w (n+nq1+nq)) blk off dk):=drewN_world encR A2.out nq;clear hcw2 hfw2 A2;generalize wr2.drewN nq=wr3 at hcw3 hfw3 A3 ⊢;go_region;go_wp2
      go_roundg (hi-(2*root+1))
      case measure=>omega
      case rel=>
       refine ⟨2*root+1,swp dk (first+root) (first+(2*root+1)),n+nq1+nq+1,by simp <;> omega,by omega,Nat.le_refl _,by rw [size_swp];exact hds,swap_world encR (by omega) (by omega) A3.out rfl rfl,?_⟩;rw [←heq,sd_left_go ltInt dk (by omega) (fun _=>hL) hG]
   ·
    have h1z:decide (2*(root:Int)+1+1<(hi:Int))=false:=decide_eq_false (by omega);go_wp2_with fail;go_big_quiet (first|(go_at_call 120;refine Calls.quiet_of_same (aJ _ _ _)));go_wp2_with fail;revert nq;intro nq1;have hcw2:∀t,t<d.size→(wr.drewN nq1).cell? ⟨blk,off+t,none⟩=some (.int .i32 dk[t]!):=hcw;have hfw2:∀t,t<d.size→(wr.drewN nq1).frozen? ⟨blk,off+t,none⟩=false:=hfw;have A2:Aside (wr.drewN nq1=putRow encR (Sort.ahead w (n+nq1)) blk off dk):=drewN_world encR A.out nq1;clear hcw hfw A;generalize wr.drewN nq1=wr2 at hcw2 hfw2 A2 ⊢;go_big_quiet (first|(go_at_call 120;refine Calls.quiet_of_same (aJ _ _ _)));go_wp2_with fail
    ·
     have hS:ltInt dk[first+root]! dk[first+2*root+1]! = false:=by
      have:(!ltInt dk[first+root]! dk[first+2*root+1]!)=true:=by assumption
      simpa using this
     (try simp only [Exit.inBlock,Exit.then]);refine bodyPost_ret (results_none rfl _ _ _) rfl ?_
     refine ⟨rfl,n+nq1+nq,?_⟩;rw [drewN_world encR A2.out nq,←heq,sd_left_stop ltInt dk (by omega) (fun h=>absurd h h1) hS]
    ·
     have hG:ltInt dk[first+root]! dk[first+2*root+1]! = true:=by
      have:(!ltInt dk[first+root]! dk[first+2*root+1]!)=false:=by assumption
      simpa using this
     have hcw3:∀t,t<d.size→(wr2.drewN nq).cell? ⟨blk,off+t,none⟩=some (.int .i32 dk[t]!):=hcw2;have hfw3:∀t,t<d.size→(wr2.drewN nq).frozen? ⟨blk,off+t,none⟩=false:=hfw2;have A3:Aside (wr2.drewN nq=putRow encR (Sort.ahead w (n+nq1+nq)) blk off dk):=drewN_world encR A2.out nq;clear hcw2 hfw2 A2;generalize wr2.drewN nq=wr3 at hcw3 hfw3 A3 ⊢;go_region;go_wp2
     go_roundg (hi-(2*root+1))
     case measure=>omega
     case rel=>
      refine ⟨2*root+1,swp dk (first+root) (first+(2*root+1)),n+nq1+nq+1,by simp <;> omega,by omega,Nat.le_refl _,by rw [size_swp];exact hds,swap_world encR (by omega) (by omega) A3.out rfl rfl,?_⟩;rw [←heq,sd_left_go ltInt dk (by omega) (fun h=>absurd h h1) hG]
theorem vV (blk off len cap:Nat) (d:Array Int) (hlen:d.size=len) (a b:Nat) (w:World) (hH:Holds encR w blk off d) (hab:a≤b) (hb:b≤d.size) (hsz:d.size<4611686018427387904) :
 Calls Tryz.prog 115 #[.slice (some ⟨blk,off,none⟩) len cap,.int .i64 a,.int .i64 b] w fun e w'=>e=.returned (.tuple #[])∧∃n,w'=putRow encR (Sort.ahead w n) blk off (heapSort ltInt d a b):=by
 subst hlen;have ecast:((b-a:Nat):Int)=(b:Int)-(a:Int):=by omega
 go_enter Tryz.func115,Tryz.ntmps115;go_wp2
 go_loopg [9] ((b-a-1) / 2+1) (fun k s9 wr=>s9=.int .i64 ((k:Int)-1)∧k≤(b-a-1) / 2+1∧∃(dk:Array Int) (n:Nat),dk.size=d.size∧wr=putRow encR (Sort.ahead w n) blk off dk∧
  heapBuild ltInt (b-a) a k dk=heapBuild ltInt (b-a) a ((b-a-1) / 2+1) d)
 case atStart=>exact ⟨by rw [half_start hab],Nat.le_refl _,d,0,rfl,(putRow_self encR w blk off d hH).symm,rfl⟩
 case round=>
  obtain ⟨rfl,hkk,dk,n,hds,hwr,heq⟩:=hrel;have hHk:Holds encR wr blk off dk:=by rw [hwr];exact holds_putRow encR _ blk off d dk (holds_ahead encR w n blk off d hH) hds
  have A:Aside (wr=putRow encR (Sort.ahead w n) blk off dk):=hwr;clear hwr;cases gk with
  | zero=>
    have hB:dk=heapBuild ltInt (b-a) a ((b-a-1) / 2+1) d:=heq;clear heq hHk hkk;go_wp2
    go_loopg [10] (b-a) (fun k s10 wr2=>s10=.int .i64 ((k:Int)-1)∧k≤b-a∧∃(dj:Array Int) (n2:Nat),dj.size=d.size∧wr2=putRow encR (Sort.ahead w n2) blk off dj∧heapPop ltInt a k dj=heapPop ltInt a (b-a) dk)
    case atStart=>exact ⟨by rw [ecast],Nat.le_refl _,dk,n,hds,A.out,rfl⟩
    case round=>
     obtain ⟨rfl,hkk,dj,n2,hdj,hwr2,heq2⟩:=hrel;cases gk with
     | zero=>
       go_wp2
       go_end0
       refine ⟨rfl,n2,?_⟩;have e:dj=heapSort ltInt d a b:=by rw [heapSort,←hB,←heq2];rfl
       rw [←e]
     | succ k=>
       have hHj:Holds encR wr blk off dj:=by rw [hwr2];exact holds_putRow encR _ blk off d dj (holds_ahead encR w n2 blk off d hH) hdj
       have hcw:∀t,t<d.size→wr.cell? ⟨blk,off+t,none⟩=some (.int .i32 dj[t]!):=fun t ht=>(hHj t (by omega)).1;have hfw:∀t,t<d.size→wr.frozen? ⟨blk,off+t,none⟩=false:=fun t ht=>(hHj t (by omega)).2;have A2:Aside (wr=putRow encR (Sort.ahead w n2) blk off dj):=hwr2;clear hwr2 hHj;rcases Nat.eq_zero_or_pos k with hk0|hkp
       ·subst hk0;go_wp2_with fail;go_region;go_wp2_with fail;rw [swap_world encR (i:=a) (j:=a) (by omega) (by omega) A2.out rfl rfl];refine (iZ blk off d.size cap (swp dj a (a)) (by rw [size_swp];exact hdj) 0 0 a _ (holds_putRow encR _ blk off d _ (holds_ahead encR w (n2+1) blk off d hH) (by rw [size_swp];exact hdj)) (Nat.zero_le _) (by rw [size_swp];omega) (by rw [size_swp];omega)).mono ?_;rintro e w1 ⟨rfl,m,hw1⟩;go_wp2
        go_roundg 0
        case measure=>omega
        case rel=>
         refine ⟨by simp,by omega,siftDown ltInt 0 a 0 (swp dj a (a)),n2+1+m,by rw [size_siftDown ltInt _ _ _ _ _ (Nat.le_refl _),size_swp];exact hdj,?_,heq2⟩
         first
          | rw [hw1,putRow_ahead_putRow encR w (n2+1) m blk off _ _ (size_siftDown ltInt _ _ _ _ _ (Nat.le_refl _))]
          | rw [putRow_ahead_putRow encR w (n2+1) m blk off _ _ (size_siftDown ltInt _ _ _ _ _ (Nat.le_refl _))]
       ·skip
        go_wp2_with fail;go_region;go_wp2_with fail;rw [swap_world encR (i:=a) (j:=a+k) (by omega) (by omega) A2.out rfl rfl];refine (iZ blk off d.size cap (swp dj a (a+k)) (by rw [size_swp];exact hdj) 0 k a _ (holds_putRow encR _ blk off d _ (holds_ahead encR w (n2+1) blk off d hH) (by rw [size_swp];exact hdj)) (Nat.zero_le _) (by rw [size_swp];omega) (by rw [size_swp];omega)).mono ?_;rintro e w1 ⟨rfl,m,hw1⟩;go_wp2
        go_roundg k
        case measure=>omega
        case rel=>
         refine ⟨by simp,by omega,siftDown ltInt k a 0 (swp dj a (a+k)),n2+1+m,by rw [size_siftDown ltInt _ _ _ _ _ (Nat.le_refl _),size_swp];exact hdj,?_,heq2⟩
         first
          | rw [hw1,putRow_ahead_putRow encR w (n2+1) m blk off _ _ (size_siftDown ltInt _ _ _ _ _ (Nat.le_refl _))]
          | rw [putRow_ahead_putRow encR w (n2+1) m blk off _ _ (size_siftDown ltInt _ _ _ _ _ (Nat.le_refl _))]
  | succ k=>
    have hcall:=iZ blk off d.size cap dk hds k (b-a) a wr hHk (by omega) (by omega) (by omega);rw [ecast] at hcall;go_wp2_with (go_at_call 148;refine hcall.mono ?_;rintro e w1 ⟨rfl,m,hw1⟩)
    go_roundg k
    case measure=>omega
    case rel=>
     refine ⟨by simp,by omega,siftDown ltInt (b-a) a k dk,n+m,by rw [size_siftDown ltInt _ _ _ _ _ (Nat.le_refl _)];exact hds,?_,heq⟩;rw [A.out,putRow_ahead_putRow encR w n m blk off dk _ (size_siftDown ltInt _ _ _ _ _ (Nat.le_refl _))]
end Go.Proofs.YtjidohgiigjifaaGreatDoor
