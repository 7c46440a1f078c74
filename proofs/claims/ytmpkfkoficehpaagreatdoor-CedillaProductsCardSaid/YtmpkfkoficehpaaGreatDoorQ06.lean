/- CedillaProducts: where a text may be cut apart, it has as many texts that are alike as its two parts multiplied; no condition. -/
import Derived.Test.YtmpkfkoficehpaaGreatDoorQ05
import Derived.Lib.AppendZerosOnto
import Derived.Lib.Split
import Derived.Lib.Atoi
import Derived.Lib.QuietBelow
set_option maxRecDepth 100000
set_option maxHeartbeats 6400000
namespace Go.Proofs.YtmpkfkoficehpaaGreatDoor
open Go.RowKit Go.Cd
def Gd (n c:Nat):Nat:=(if n=1 then 0 else if n=2 then 192 else if n=3 then 224 else 240)+c / 64 ^ (n-1)
theorem rU:∀t:Nat,t<64→(bits .andNot .u8 ((128+t:Nat):Int) 63==128)=true∧bits .andNot .u8 ((128+t:Nat):Int) 63=128∧bits .and .u8 ((128+t:Nat):Int) 63=(t:Int):=by decide
theorem Gf:∀q:Nat,q<128→nZ q=1∧bits .and .u8 (q:Int) 127=(q:Int):=by decide
theorem Gg:∀q:Nat,q<32→nZ (192+q)=2∧bits .and .u8 ((192+q:Nat):Int) 31=(q:Int):=by decide
theorem Gh:∀q:Nat,q<16→nZ (224+q)=3∧bits .and .u8 ((224+q:Nat):Int) 15=(q:Int):=by decide
theorem Gi:∀q:Nat,q<8→nZ (240+q)=4∧bits .and .u8 ((240+q:Nat):Int) 7=(q:Int):=by decide
theorem BU {s:ByteArray} (h:0<s.size):s.toList.isEmpty=false:=by
 rw [ByteArray.toList_eq];cases e:s.data.toList with
 | nil=>have:s.size=0:=by show s.data.size=0;rw [←Array.length_toList,e];rfl
        omega
 | cons a l=>rfl
theorem JZ {x t:Nat} (hx:x<33554432) (ht:t<64):bits .or .i32 ((x:Int)*64) (t:Int)=((x*64+t:Nat):Int):=by
 have e1:(BitVec.ofInt 32 ((x:Int)*64)).toNat=x <<< 6:=by
  rw [BitVec.toNat_ofInt,Nat.shiftLeft_eq];have:((x:Int)*64 % ((2 ^ 32:Nat):Int)).toNat=x*64:=by omega
  rw [this]
 have e2:(BitVec.ofInt 32 (t:Int)).toNat=t:=by
  rw [BitVec.toNat_ofInt];omega
 have key:(BitVec.ofInt 32 ((x:Int)*64) ||| BitVec.ofInt 32 (t:Int)).toNat=x*64+t:=by
  rw [BitVec.toNat_or,e1,e2,←Nat.shiftLeft_add_eq_or_of_lt (by simpa using ht),Nat.shiftLeft_eq]
 show IntKind.i32.wrap ((BitVec.ofInt 32 ((x:Int)*64) ||| BitVec.ofInt 32 (t:Int)).toNat:Nat)=_;rw [key];rw [IntKind.wrap_i32];omega
theorem J7 {w:World} (hH:dF w) (c n:Nat) (hc:aP c) (hn:fq c=n) (s:ByteArray) (hsz:n≤s.size) (h0:∀h,(s[0]'h).toNat=Gd n c) (hi:∀i,1≤i→i<n→∀h,(s[i]'h).toNat=128+c / 64 ^ (n-1-i) % 64) :
 Calls Tryz.prog 71 #[.string s] w fun e w'=>e=.returned (.tuple #[.int .i32 c,.int .i64 n,.bool true])∧Below w.heap.size w w':=by
 have hw:=nH c;have Qd:=hc.1;have HH:=aa hH;have hs0:0<s.size:=by omega
 have zs:=BU hs0;have WI:=aa (show ∀W,dF W→Calls Tryz.prog 104 #[.int .i32 c] W fun e w'=>e=.returned (.int .i64 n)∧w'=W from fun W h=>by rw [←hn];exact wO h c hc);have HI:=aa hi;have hvn:∀i,1≤i→i≤n→c / 64 ^ (n-i)<33554432:=fun i _ _=>Nat.lt_of_le_of_lt (Nat.div_le_self _ _) (by omega);have QA:=aa hvn
 have HVS:=aa (show ∀i,i<n→c / 64 ^ (n-(i+1))=c / 64 ^ (n-i)*64+c / 64 ^ (n-1-i) % 64 from fun i hin=>by
  rw [show n-i=(n-(i+1))+1 by omega,Nat.pow_succ,←Nat.div_div_eq_div_mul,show n-1-i=n-(i+1) by omega,Nat.div_add_mod'])
 have UA:=aa (show c / 64 ^ (n-n)=c by rw [Nat.sub_self];simp);have ZP:n=1∨n=2∨n=3∨n=4:=by omega
 have UB:(n=1→c<128)∧(n=2→c<2048)∧(n=3→c<65536):=by
  rw [←hn];unfold fq;refine ⟨?_,?_,?_⟩ <;> ((repeat' split) <;> omega)
 clear hi hvn hn hw;have h00:=h0 hs0;clear h0;unfold Gd at h00;rcases ZP with rfl|rfl|rfl|rfl
 ·have hq:c / 64 ^ (1-1)<128:=by simp only [Nat.reduceSub,Nat.reducePow];omega
  have hV1:=QA.out 1 (by omega) (by omega);have hf:=Gf _ hq;simp only [Nat.reduceSub,Nat.reducePow,Nat.reduceEqDiff,if_true,if_false,Nat.zero_add,Nat.div_one] at h00 hf hV1;obtain ⟨V,hV⟩:=ae c;rw [←hV] at h00 hf hV1;obtain ⟨B,hB⟩:∃B:Nat,B=V:=⟨_,rfl⟩;have Ms:B<256:=by omega
  have SZ:=aa (fun W (h:dF W)=>nJ h B Ms);rw [←hB] at h00 hf;rw [hf.1] at SZ;have z0:=hf.2;have e0:((s[0]'hs0).toNat:Int)=(B:Int):=by rw [h00]
  have XQ:=aa (show B=c / 64 ^ (1-1) from hB.trans (hV.trans (by simp)));have k1:=HH.out.c1;clear h00 hf hV hB hq UB;go_enter Tryz.func71,Tryz.ntmps71;go_wp2_with fail;refine (SZ.out _ HH.out).mono ?_;rintro e w2 ⟨rfl,hb2⟩;have H2:=aa (HH.out.mono hb2);have k1:=aA hb2 k1;have zd:decide ((s.size:Int)<1)=false:=by simp;omega
  have WI:=aa (show ∀W,dF W→Calls Tryz.prog 104 #[.int .i32 c] W fun e w'=>e=.returned (.int .i64 1)∧w'=W from WI.out);go_wp2_with fail;go_quiet (fail);go_wp2_with fail;have H3:=aa (show ∀W,Below w2.heap.size w2 W→dF W from fun W h=>H2.out.mono h);have TU:=aa (show Value.int .i32 (B:Int)=.int .i32 ((c / 64 ^ (1-1):Nat):Int) by rw [XQ.out]);go_loopw [6,7] (fun cv iv wr=>∃i:Nat,1≤i∧i≤1∧cv=.int .i32 ((c / 64 ^ (1-i):Nat):Int)∧iv=.int .i64 i∧Below w2.heap.size w2 wr) (fun _ iv _=>1-(intOf iv).toNat)
  case atStart=>exact ⟨1,by decide,by decide,TU.out,rfl,below_drewN (Below.refl _ _) _⟩
  case round=>
   obtain ⟨i,hi1,hin,rfl,rfl,hE⟩:=hrel;by_cases hlt:i<1
   ·omega
   ·obtain rfl:i=1:=by omega
    have hs:=H3.out _ hE;have hcc:=UA.out;rw [hcc];clear hcc;go_wp2_with fail;refine (WI.out _ hs).mono ?_;rintro e w4 ⟨rfl,rfl⟩;go_wp2
    go_ret3
    exact ⟨rfl,hb2.trans (hE.mono hb2.size)⟩
 ·have hq:c / 64 ^ (2-1)<32:=by simp only [Nat.reduceSub,Nat.reducePow];omega
  have hV1:=QA.out 1 (by omega) (by omega);have hf:=Gg _ hq;simp only [Nat.reduceSub,Nat.reducePow,Nat.reduceEqDiff,if_true,if_false] at h00 hf hV1;obtain ⟨V,hV⟩:=ae (c / 64);rw [←hV] at h00 hf hV1;obtain ⟨B,hB⟩:∃B:Nat,B=192+V:=⟨_,rfl⟩;have Ms:B<256:=by omega
  have SZ:=aa (fun W (h:dF W)=>nJ h B Ms);rw [←hB] at h00 hf;rw [hf.1] at SZ;have z0:=hf.2;have e0:((s[0]'hs0).toNat:Int)=(B:Int):=by rw [h00]
  have XQ:=aa (show V=c / 64 ^ (2-1) from (hV.trans (by simp)));have k1:=HH.out.c4;clear h00 hf hV hB hq UB;go_enter Tryz.func71,Tryz.ntmps71;go_wp2_with fail;refine (SZ.out _ HH.out).mono ?_;rintro e w2 ⟨rfl,hb2⟩;have H2:=aa (HH.out.mono hb2);have k1:=aA hb2 k1;have zd:decide ((s.size:Int)<2)=false:=by simp;omega
  have WI:=aa (show ∀W,dF W→Calls Tryz.prog 104 #[.int .i32 c] W fun e w'=>e=.returned (.int .i64 2)∧w'=W from WI.out);go_wp2_with fail;go_quiet (fail);go_wp2_with fail;have H3:=aa (show ∀W,Below w2.heap.size w2 W→dF W from fun W h=>H2.out.mono h);have TU:=aa (show Value.int .i32 (V:Int)=.int .i32 ((c / 64 ^ (2-1):Nat):Int) by rw [XQ.out]);go_loopw [6,7] (fun cv iv wr=>∃i:Nat,1≤i∧i≤2∧cv=.int .i32 ((c / 64 ^ (2-i):Nat):Int)∧iv=.int .i64 i∧Below w2.heap.size w2 wr) (fun _ iv _=>2-(intOf iv).toNat)
  case atStart=>exact ⟨1,by decide,by decide,TU.out,rfl,below_drewN (Below.refl _ _) _⟩
  case round=>
   obtain ⟨i,hi1,hin,rfl,rfl,hE⟩:=hrel;by_cases hlt:i<2
   ·have hv:=QA.out i hi1 hin;have hst:=aa (HVS.out i hlt);have his:i<s.size:=by omega
    have hd:=HI.out i hi1 hlt his;obtain ⟨t,ht⟩:=ae (c / 64 ^ (2-1-i) % 64);have WY:t<64:=by rw [ht];exact Nat.mod_lt _ (by decide)
    rw [←ht] at hd hst;obtain ⟨U,hU⟩:=ae (c / 64 ^ (2-i));rw [←hU] at hv hst ⊢;obtain ⟨tf1,tf2,tf3⟩:=rU t WY;have ho:=JZ hv WY;obtain ⟨D,hD⟩:∃D:Nat,D=128+t:=⟨_,rfl⟩;rw [←hD] at hd tf1 tf2 tf3;have ei:((s[i]'his).toNat:Int)=(D:Int):=by rw [hd]
    clear hd ht hU hD;go_wp2;go_roundw
    case rel=>exact ⟨i+1,by omega,by omega,by rw [hst.out];simp,rfl,hE⟩
    case measure=>simp [intOf];omega
   ·obtain rfl:i=2:=by omega
    have hs:=H3.out _ hE;have hcc:=UA.out;rw [hcc];clear hcc;go_wp2_with fail;refine (WI.out _ hs).mono ?_;rintro e w4 ⟨rfl,rfl⟩;go_wp2
    go_ret3
    exact ⟨rfl,hb2.trans (hE.mono hb2.size)⟩
 ·have hq:c / 64 ^ (3-1)<16:=by simp only [Nat.reduceSub,Nat.reducePow];omega
  have hV1:=QA.out 1 (by omega) (by omega);have hf:=Gh _ hq;simp only [Nat.reduceSub,Nat.reducePow,Nat.reduceEqDiff,if_true,if_false] at h00 hf hV1;obtain ⟨V,hV⟩:=ae (c / 4096);rw [←hV] at h00 hf hV1;obtain ⟨B,hB⟩:∃B:Nat,B=224+V:=⟨_,rfl⟩;have Ms:B<256:=by omega
  have SZ:=aa (fun W (h:dF W)=>nJ h B Ms);rw [←hB] at h00 hf;rw [hf.1] at SZ;have z0:=hf.2;have e0:((s[0]'hs0).toNat:Int)=(B:Int):=by rw [h00]
  have XQ:=aa (show V=c / 64 ^ (3-1) from (hV.trans (by simp)));have k1:=HH.out.c7;clear h00 hf hV hB hq UB;go_enter Tryz.func71,Tryz.ntmps71;go_wp2_with fail;refine (SZ.out _ HH.out).mono ?_;rintro e w2 ⟨rfl,hb2⟩;have H2:=aa (HH.out.mono hb2);have k1:=aA hb2 k1;have zd:decide ((s.size:Int)<3)=false:=by simp;omega
  have WI:=aa (show ∀W,dF W→Calls Tryz.prog 104 #[.int .i32 c] W fun e w'=>e=.returned (.int .i64 3)∧w'=W from WI.out);go_wp2_with fail;go_quiet (fail);go_wp2_with fail;have H3:=aa (show ∀W,Below w2.heap.size w2 W→dF W from fun W h=>H2.out.mono h);have TU:=aa (show Value.int .i32 (V:Int)=.int .i32 ((c / 64 ^ (3-1):Nat):Int) by rw [XQ.out]);go_loopw [6,7] (fun cv iv wr=>∃i:Nat,1≤i∧i≤3∧cv=.int .i32 ((c / 64 ^ (3-i):Nat):Int)∧iv=.int .i64 i∧Below w2.heap.size w2 wr) (fun _ iv _=>3-(intOf iv).toNat)
  case atStart=>exact ⟨1,by decide,by decide,TU.out,rfl,below_drewN (Below.refl _ _) _⟩
  case round=>
   obtain ⟨i,hi1,hin,rfl,rfl,hE⟩:=hrel;by_cases hlt:i<3
   ·have hv:=QA.out i hi1 hin;have hst:=aa (HVS.out i hlt);have his:i<s.size:=by omega
    have hd:=HI.out i hi1 hlt his;obtain ⟨t,ht⟩:=ae (c / 64 ^ (3-1-i) % 64);have WY:t<64:=by rw [ht];exact Nat.mod_lt _ (by decide)
    rw [←ht] at hd hst;obtain ⟨U,hU⟩:=ae (c / 64 ^ (3-i));rw [←hU] at hv hst ⊢;obtain ⟨tf1,tf2,tf3⟩:=rU t WY;have ho:=JZ hv WY;obtain ⟨D,hD⟩:∃D:Nat,D=128+t:=⟨_,rfl⟩;rw [←hD] at hd tf1 tf2 tf3;have ei:((s[i]'his).toNat:Int)=(D:Int):=by rw [hd]
    clear hd ht hU hD;go_wp2;go_roundw
    case rel=>exact ⟨i+1,by omega,by omega,by rw [hst.out];simp,rfl,hE⟩
    case measure=>simp [intOf];omega
   ·obtain rfl:i=3:=by omega
    have hs:=H3.out _ hE;have hcc:=UA.out;rw [hcc];clear hcc;go_wp2_with fail;refine (WI.out _ hs).mono ?_;rintro e w4 ⟨rfl,rfl⟩;go_wp2
    go_ret3
    exact ⟨rfl,hb2.trans (hE.mono hb2.size)⟩
 ·have hq:c / 64 ^ (4-1)<8:=by simp only [Nat.reduceSub,Nat.reducePow];omega
  have hV1:=QA.out 1 (by omega) (by omega);have hf:=Gi _ hq;simp only [Nat.reduceSub,Nat.reducePow,Nat.reduceEqDiff,if_false] at h00 hf hV1;obtain ⟨V,hV⟩:=ae (c / 262144);rw [←hV] at h00 hf hV1;obtain ⟨B,hB⟩:∃B:Nat,B=240+V:=⟨_,rfl⟩;have Ms:B<256:=by omega
  have SZ:=aa (fun W (h:dF W)=>nJ h B Ms);rw [←hB] at h00 hf;rw [hf.1] at SZ;have z0:=hf.2;have e0:((s[0]'hs0).toNat:Int)=(B:Int):=by rw [h00]
  have XQ:=aa (show V=c / 64 ^ (4-1) from (hV.trans (by simp)));have k1:=HH.out.c10;clear h00 hf hV hB hq UB;go_enter Tryz.func71,Tryz.ntmps71;go_wp2_with fail;refine (SZ.out _ HH.out).mono ?_;rintro e w2 ⟨rfl,hb2⟩;have H2:=aa (HH.out.mono hb2);have k1:=aA hb2 k1;have zd:decide ((s.size:Int)<4)=false:=by simp;omega
  have WI:=aa (show ∀W,dF W→Calls Tryz.prog 104 #[.int .i32 c] W fun e w'=>e=.returned (.int .i64 4)∧w'=W from WI.out);go_wp2_with fail;go_quiet (fail);go_wp2_with fail;have H3:=aa (show ∀W,Below w2.heap.size w2 W→dF W from fun W h=>H2.out.mono h);have TU:=aa (show Value.int .i32 (V:Int)=.int .i32 ((c / 64 ^ (4-1):Nat):Int) by rw [XQ.out]);go_loopw [6,7] (fun cv iv wr=>∃i:Nat,1≤i∧i≤4∧cv=.int .i32 ((c / 64 ^ (4-i):Nat):Int)∧iv=.int .i64 i∧Below w2.heap.size w2 wr) (fun _ iv _=>4-(intOf iv).toNat)
  case atStart=>exact ⟨1,by decide,by decide,TU.out,rfl,below_drewN (Below.refl _ _) _⟩
  case round=>
   obtain ⟨i,hi1,hin,rfl,rfl,hE⟩:=hrel;by_cases hlt:i<4
   ·have hv:=QA.out i hi1 hin;have hst:=aa (HVS.out i hlt);have his:i<s.size:=by omega
    have hd:=HI.out i hi1 hlt his;obtain ⟨t,ht⟩:=ae (c / 64 ^ (4-1-i) % 64);have WY:t<64:=by rw [ht];exact Nat.mod_lt _ (by decide)
    rw [←ht] at hd hst;obtain ⟨U,hU⟩:=ae (c / 64 ^ (4-i));rw [←hU] at hv hst ⊢;obtain ⟨tf1,tf2,tf3⟩:=rU t WY;have ho:=JZ hv WY;obtain ⟨D,hD⟩:∃D:Nat,D=128+t:=⟨_,rfl⟩;rw [←hD] at hd tf1 tf2 tf3;have ei:((s[i]'his).toNat:Int)=(D:Int):=by rw [hd]
    clear hd ht hU hD;go_wp2;go_roundw
    case rel=>exact ⟨i+1,by omega,by omega,by rw [hst.out];simp,rfl,hE⟩
    case measure=>simp [intOf];omega
   ·obtain rfl:i=4:=by omega
    have hs:=H3.out _ hE;have hcc:=UA.out;rw [hcc];clear hcc;go_wp2_with fail;refine (WI.out _ hs).mono ?_;rintro e w4 ⟨rfl,rfl⟩;go_wp2
    go_ret3
    exact ⟨rfl,hb2.trans (hE.mono hb2.size)⟩
end Go.Proofs.YtmpkfkoficehpaaGreatDoor
namespace Go.Cd
def rowFine (r:aH):Prop:=aP r.code∧r.cls<255∧r.map.length≤2∧hk r.code=0∧∀x∈r.map,hk x=0∧aP x
def rising:List aH→Prop
 | []=>True
 | r::T=>(∀q∈T,r.code<q.code)∧rising T
def Prim (T:List aH) (X:List Nat) (c:Nat):Prop:=4≤hk c∨∃a b,mapOf T c=[a,b]∧ai T c=0∧ai T a=0∧c∉X
structure aY (T:List aH) (X:List Nat):Prop where
 fine:∀r∈T,rowFine r
 rise:rising T
 full:∀r∈T,fJ T r.code
 pair:∀r∈T,∀q∈T,r.map.length=2→r.map=q.map→Prim T X r.code→Prim T X q.code→r=q
theorem Ay {l m:List aH}:rising (l++m)↔rising l∧rising m∧∀r∈l,∀q∈m,r.code<q.code:=by
 induction l with
 | nil=>simp [rising]
 | cons a l ih=>
   simp only [List.cons_append,rising,ih,List.mem_append,List.mem_cons];constructor
   ·rintro ⟨h1,h2,h3,h4⟩;refine ⟨⟨fun q hq=>h1 q (.inl hq),h2⟩,h3,?_⟩;rintro r (rfl|hr) q hq
    ·exact h1 q (.inr hq)
    ·exact h4 r hr q hq
   ·rintro ⟨⟨h1,h2⟩,h3,h4⟩;refine ⟨?_,h2,h3,fun r hr q hq=>h4 r (.inr hr) q hq⟩;rintro q (hq|hq)
    ·exact h1 q hq
    ·exact h4 a (.inl rfl) q hq
theorem qp:∀{T:List aH},rising T→∀{i j:Nat} (hi:i<T.length) (hj:j<T.length),i<j→T[i].code<T[j].code
 | _::T,h,0,j+1,_,hj,_=>h.1 _ (List.getElem_mem (by simpa using hj))
 | _::T,h,i+1,j+1,hi,hj,hij=>qp (T:=T) h.2 (by simpa using hi) (by simpa using hj) (by omega)
theorem J8 {T:List aH} (h:rising T) {r q:aH} (hr:r∈T) (hq:q∈T) (e:r.code=q.code):r=q:=by
 obtain ⟨i,hi,rfl⟩:=List.getElem_of_mem hr;obtain ⟨j,hj,rfl⟩:=List.getElem_of_mem hq;rcases Nat.lt_trichotomy i j with h1|rfl|h1
 ·have:=qp h hi hj h1;omega
 ·rfl
 ·have:=qp h hj hi h1;omega
theorem jX {T:List aH} (h:rising T) {r:aH} (hr:r∈T):rowOf T r.code=some r:=by
 unfold rowOf;cases e:T.find? fun q=>q.code==r.code with
 | none=>exact absurd (List.find?_eq_none.1 e r hr) (by simp)
 | some q=>
   have h1:=List.mem_of_find?_eq_some e;have h2:=List.find?_some e;rw [J8 h h1 hr (by simpa using h2)]
theorem gT {T:List aH} {c:Nat} {r:aH} (h:rowOf T c=some r):r∈T∧r.code=c:=
 ⟨List.mem_of_find?_eq_some h,by simpa using List.find?_some h⟩
theorem Nw {T:List aH} (h:rising T) {r:aH} (hr:r∈T) (hk4:hk r.code<4):mapOf T r.code=r.map:=by
 unfold mapOf bL;rw [if_pos hk4,jX h hr]
theorem yH {T:List aH} {X:List Nat} (h:rising T) {r:aH} (hr:r∈T) (hk4:hk r.code<4) (hp:Prim T X r.code):r.map.length=2:=by
 rcases hp with hp|⟨a,b,hp,_⟩
 ·omega
 ·rw [Nw h hr hk4] at hp;rw [hp];rfl
theorem aY.nil (X:List Nat):aY [] X:=⟨by simp,trivial,by simp,by simp⟩
end Go.Cd
namespace Go.Proofs.YtmpkfkoficehpaaGreatDoor
open Go.RowKit Go.Cd
def wP (u v:Value):Prop:=∀k,u.ownBlock=some k→v.ownBlock≠some k
theorem wP.symm {u v:Value} (h:wP u v):wP v u:=fun k hv hu=>h k hu hv
theorem UC (v:Value) (n c:Nat):wP (.slice none n c) v:=fun k h=>by simp [Value.ownBlock] at h
def jV (W:World) (v v':Value):Prop:=v'.ownBlock=v.ownBlock∨∃k,v'.ownBlock=some k∧W.heap.size≤k
theorem wP.push {W:World} {u v v':Value} (h:wP u v) (hu:∀k,u.ownBlock=some k→k<W.heap.size) (hn:jV W v v'):wP u v':=by
 intro k hk hv';rcases hn with hn|⟨k',h1,h2⟩
 ·exact h k hk (hn▸hv')
 ·rw [h1] at hv';cases hv';have:=hu k hk;omega
theorem wP.stays {W W':World} {base n size:Nat} {e:TypeId} {u v:Value} {xs:List Value} (h:wP u v) (hu:W.ownsRow base e size u n xs) (hg:W.grownBy W' v.ownBlock):W'.ownsRow base e size u n xs:=by
 refine hu.kept hg ?_;cases hk:u.ownBlock with
 | none=>exact .inl rfl
 | some k=>exact .inr fun e=>h k hk e.symm
theorem jV.refl (W:World) (v:Value):jV W v v:=.inl rfl
theorem jV.trans {W W':World} {u v v':Value} (h:jV W u v) (h':jV W' v v') (hs:W.heap.size≤W'.heap.size):jV W u v':=by
 rcases h' with h'|⟨k,h1,h2⟩
 ·rcases h with h|⟨k,h1,h2⟩
  ·exact .inl (h'.trans h)
  ·exact .inr ⟨k,h'.trans h1,h2⟩
 ·exact .inr ⟨k,h1,by omega⟩
def mR (P:Program) (t e:TypeId) (z:Value) (size bytes:Nat):Prop:=
 z.cells.size=size∧P.underlying t=some (.slice e)∧∃i,P.info? e=some i∧i.zero=some z∧i.size=size∧i.bytes=bytes
theorem Elem.aaN {P:Program} {t e:TypeId} {z:Value} {bytes:Nat} (h:Elem P t e z bytes):mR P t e z 1 bytes:=⟨jS h.1,h.2⟩
theorem n_ {P:Program} {W:World} {ops:Array Oper} {rest:List Oper} {o:Oper} {a:Act} {Q:Exit→Act→World→Prop} (hgd:o.guard=none) (s x:Operand) (t:TypeId)
 (ho:o.op=.call { callee:=.builtin .append,args:=#[s,x],argTypes:=#[t,t] })
 (base:Nat) (e:TypeId) (z:Value) (size bytes:Nat) (hE:mR P t e z size bytes) (hs0:0<size) (_:size≤1000) (_:0<bytes) (Az:bytes≤100000)
 (v:Value) (n:Nat) (xs:List Value) (hs:a.eval s=v) (hown:W.ownsRow base e size v n xs)
 (us:Array Value) (hx:a.eval x=.slice (some ⟨W.heap.size,0,none⟩) 1 1) (tN:us.size=size) (h1:∀u∈us.toList,u.oneCell'=true)
 (hn:n<1000000) (w0:World) (hb:Below base w0 W) (hbase:base≤w0.heap.size)
 (h:∀v' w',w'.ownsRow base e size v' (n+1) (xs++us.toList)→Below base w0 w'→W.grownBy w' v.ownBlock→jV W v v'→wpList P ops Q rest (a.put o.dst v') w') :
 wpList P ops Q (o::rest) a (W.alloc (.cells us e)):=by
 have hsz:=hb.size;obtain ⟨hzs,ht,i,hi,hz,hsize,hby⟩:=hE;have hown2:=hown.alloc (.cells us e);have hnews:∀(j:Nat) (u:Value),us.toList[j]? = some u→(W.alloc (.cells us e)).cell? ((⟨W.heap.size,0,none⟩:Addr).add j)=some u:=by
  intro j u hj;have e0:(⟨W.heap.size,0,none⟩:Addr).add j=⟨W.heap.size,j,none⟩:=by unfold Addr.add;split <;> simp_all
  rw [e0];unfold World.cell?;rw [heap_alloc_new];simpa using hj
 have hmax:n+1≤maxLen:=by unfold maxLen;omega
 have hl1:us.toList.length=1*i.size:=by rw [hsize,Nat.one_mul];simpa using tN
 have hbb:(n+1)*bytes≤140737488355328:=by
  have:(n+1)*bytes≤1000000*100000:=Nat.mul_le_mul (by omega) Az;omega
 obtain ⟨v',w',hr,h2,h3,_⟩:=run_append_own (P:=P) (W.alloc (.cells us e)) base t o.type e i z size bytes ht hi hz hsize hby hzs hs0 v n xs hown2
  ⟨W.heap.size,0,none⟩ 1 1 us.toList (by rw [hl1,hsize]) hnews h1 hmax hbb (by simp;omega)
 have hnew:jV W v v':=by
  rcases hown2.2 with ⟨rfl,rfl⟩|⟨g,cap,cur,rfl,hbg,hg,hnc,hcm,hcs,htake⟩
  ·have hr':=run_append_nil (P:=P) (W.alloc (.cells us e)) t o.type e i z ht hi hz ⟨W.heap.size,0,none⟩ 1 1 us.toList hl1 hnews (by decide) (by decide) (by rw [hby];simpa using Nat.le_trans Az (by decide));rw [hr'] at hr;injection hr with e1 _;subst e1;exact .inr ⟨_,rfl,by simp⟩
  ·by_cases hroom:n+1≤cap
   ·have hr':=run_append_room (P:=P) (W.alloc (.cells us e)) t o.type e i ht hi g n cap cur hg ⟨W.heap.size,0,none⟩ 1 1 us.toList hl1 hnews h1 hroom (by
     rw [hl1,hsize,hcs,←Nat.add_mul];exact Nat.mul_le_mul_right _ hroom)
    rw [hr'] at hr;injection hr with e1 _;subst e1;exact .inl rfl
   ·have hr':=run_append_grow (P:=P) (W.alloc (.cells us e)) t o.type e i z ht hi hz ⟨g,0,none⟩ n cap xs (by rw [hsize];exact hown2.1) (hown2.cells (g:=g) rfl) ⟨W.heap.size,0,none⟩ 1 1 us.toList hl1 hnews (by omega) (by omega) (growslice_fits (by omega) (by rw [hby];omega));rw [hr'] at hr;injection hr with e1 _;subst e1;exact .inr ⟨_,rfl,by simp⟩
 refine Lib.wpList_append_run _ hgd s x _ _ ho v _ hs hx v' w' hr ?_;refine h v' w' h2 ((hb.alloc (by omega) _).grown h3 (by simp;omega) (fun k hk=>(hown.lt k hk).1)) ?_ hnew;have ha:=World.grownBy_alloc W (.cells us e) v.ownBlock;exact ha.trans h3
theorem Mt {α β:Type} (f:α→List β) (n:Nat) (hf:∀a,(f a).length=n):∀(l:List α) (i:Nat) (hi:i<l.length) (k:Nat),k<n→(l.flatMap f)[i*n+k]? = (f l[i])[k]?
 | a::l,0,_,k,hk=>by
   rw [List.flatMap_cons,Nat.zero_mul,Nat.zero_add,List.getElem?_append_left (by rw [hf];exact hk)];rfl
 | a::l,i+1,hi,k,hk=>by
   rw [List.flatMap_cons,List.getElem?_append_right (by rw [hf,Nat.add_mul];omega),hf];have ih:=Mt f n hf l i (by simpa using hi) k hk;rw [show (i+1)*n+k-n=i*n+k by rw [Nat.add_mul];omega,ih];rfl
theorem Gj {α β:Type} (f:α→List β) (n:Nat) (hf:∀a,(f a).length=n) (l:List α):(l.flatMap f).length=l.length*n:=by
 induction l with
 | nil=>simp
 | cons a l ih=>rw [List.flatMap_cons,List.length_append,hf,ih,List.length_cons,Nat.add_mul];omega
theorem dB {α:Type} {w:World} {base size n:Nat} {e:TypeId} {v:Value} {l:List α} {f:α→List Value} (hf:∀a,(f a).length=size) (hn:n=l.length) (h:w.ownsRow base e size v n (l.flatMap f)) {i:Nat} (hi:i<l.length) :
 ∃g cap,v=.slice (some ⟨g,0,none⟩) n cap∧n≤cap∧g<w.heap.size∧base≤g∧∀k,k<size→w.cell? ⟨g,i*size+k,none⟩=(f l[i])[k]?∧w.frozen? ⟨g,i*size+k,none⟩=false:=by
 rcases h.2 with ⟨_,h0⟩|⟨g,cap,cur,rfl,hb,hg,hc,hm,hs,ht⟩
 ·omega
 ·refine ⟨g,cap,rfl,hc,block_lt hg,hb,fun k hk=>⟨?_,?_⟩⟩
  ·have hlt:i*size+k<n*size:=by
    have:(i+1)*size≤n*size:=Nat.mul_le_mul_right _ (by omega);rw [Nat.add_mul] at this;omega
   rw [←Mt f size hf l i hi k hk,←ht,List.getElem?_take,if_pos hlt];unfold World.cell?;rw [hg];simp
  ·unfold World.frozen?;rw [hg];simp
theorem ak {w:World} {base size:Nat} {e:TypeId} {v:Value} {xs:List Value} {n:Nat} (h:w.ownsRow base e size v n xs):∃a cap,v=.slice a n cap∧n≤cap∧(a=none→cap=0):=by
 rcases h.2 with ⟨rfl,rfl⟩|⟨g,cap,cur,rfl,_,_,hc,_⟩
 ·exact ⟨none,0,rfl,Nat.le_refl _,fun _=>rfl⟩
 ·exact ⟨_,cap,rfl,hc,fun e=>by cases e⟩
end Go.Proofs.YtmpkfkoficehpaaGreatDoor
namespace Go.Cd
open Go.RowKit
structure Is (W:World) (k:Nat) (cs:Array Value) (T:TypeId):Prop where
 at_:W.heap[k]? = some (.cells cs T)
theorem Is.new (w:World) (cs:Array Value) (T:TypeId):Is (w.alloc (.cells cs T)) w.heap.size cs T:=⟨heap_alloc_new _ _⟩
theorem Is.new' (w:World) (cs:Array Value) (T:TypeId) (k:Nat) (h:k=w.heap.size):Is (w.alloc (.cells cs T)) k cs T:=by subst h;exact Is.new _ _ _
theorem Is.lt {W:World} {k:Nat} {cs:Array Value} {T:TypeId} (h:Is W k cs T):k<W.heap.size:=block_lt h.at_
theorem Is.cell {W:World} {k:Nat} {cs:Array Value} {T:TypeId} (h:Is W k cs T) (o:Nat):W.cell? ⟨k,o,none⟩=cs[o]?:=by
 unfold World.cell?;rw [h.at_];rfl
theorem Is.at {W:World} {k:Nat} {cs:Array Value} {T:TypeId} (h:Is W k cs T) (o:Nat) {u:Value} (hu:cs[o]? = some u):W.cell? ⟨k,o,none⟩=some u:=(h.cell o).trans hu
theorem Is.frozen {W:World} {k:Nat} {cs:Array Value} {T:TypeId} (h:Is W k cs T) (o:Nat):W.frozen? ⟨k,o,none⟩=false:=by
 unfold World.frozen?;rw [h.at_];simp
theorem Is.set {W:World} {k:Nat} {cs:Array Value} {T:TypeId} (h:Is W k cs T) (o:Nat) (u:Value):Is (W.setCell ⟨k,o,none⟩ u) k (cs.setIfInBounds o u) T:=⟨heap_setCell_same W k o _ _ _ h.at_⟩
theorem Is.put {W:World} {k:Nat} {cs:Array Value} {T:TypeId} (h:Is W k cs T) {j o:Nat} (hj:k≠j) (u:Value):Is (W.setCell ⟨j,o,none⟩ u) k cs T:=⟨(Below.heap_setCell _ _ _ _ (by simp only;omega)).trans h.at_⟩
theorem Is.mono {W W':World} {k:Nat} {cs:Array Value} {T:TypeId} (h:Is W k cs T) (hb:Below W.heap.size W W'):Is W' k cs T:=⟨(hb.block k h.lt).trans h.at_⟩
theorem Is.grown {W W':World} {k:Nat} {cs:Array Value} {T:TypeId} {row:Option Nat} (h:Is W k cs T) (hg:W.grownBy W' row) (hr:row≠some k):Is W' k cs T:=⟨(hg.block k h.lt (fun e=>hr e.symm)).trans h.at_⟩
theorem Is.keep {W W':World} {k:Nat} {cs:Array Value} {T:TypeId} {B n s:Nat} {e:TypeId} {v:Value} {xs:List Value} (h:Is W k cs T) (ho:W.ownsRow B e s v n xs) (hg:W.grownBy W' v.ownBlock) (hk:k<B):Is W' k cs T:=
 h.grown hg (fun e1=>by have:=(ho.lt k e1).1;omega)
theorem Is.other {W:World} {k:Nat} {cs:Array Value} {T:TypeId} {B n s:Nat} {e:TypeId} {v:Value} {xs:List Value} (h:Is W k cs T) (ho:W.ownsRow B e s v n xs) (he:e≠T):v.ownBlock≠some k:=by
 intro e1;rcases ho.2 with ⟨h1,_⟩|⟨g,_,cur,h1,_,h2,_⟩
 ·rw [h1] at e1;cases e1
 ·rw [h1] at e1;cases e1;rw [h.at_] at h2;cases h2;exact he rfl
theorem bQ (W:World) (k o:Nat) (u:Value):W.grownBy (W.setCell ⟨k,o,none⟩ u) (some k):=
 ⟨rfl,rfl,rfl,by simp,fun j _ hj=>heap_setCell_other W ⟨k,o,none⟩ j u (fun e=>hj (by simp [e]))⟩
theorem bn {W:World} {B n s k:Nat} {e:TypeId} {v:Value} {xs:List Value} (ho:W.ownsRow B e s v n xs) (hk:v.ownBlock≠some k) (o:Nat) (u:Value):(W.setCell ⟨k,o,none⟩ u).ownsRow B e s v n xs:=
 ho.kept (bQ W k o u) (.inr hk)
theorem aae {W:World} {B n s k:Nat} {e:TypeId} {v:Value} {xs:List Value} (ho:W.ownsRow B e s v n xs) (hk:k<B):v.ownBlock≠some k:=fun e1=>by have:=(ho.lt k e1).1;omega
theorem QC {W:World} {B n s k:Nat} {e:TypeId} {v:Value} {xs:List Value} (ho:W.ownsRow B e s v n xs) (hk:W.heap.size≤k):v.ownBlock≠some k:=fun e1=>by have:=(ho.lt k e1).2;omega
theorem Is.low {W W':World} {k B:Nat} {cs:Array Value} {T:TypeId} (h:Is W k cs T) (hb:Below B W W') (hk:k<B):Is W' k cs T:=⟨(hb.block k hk).trans h.at_⟩
end Go.Cd
namespace Go.Proofs.YtmpkfkoficehpaaGreatDoor
open Go.RowKit Go.Cd
theorem BV (l:List UInt8) (i:Nat) (h:i<(tx l).size):(tx l)[i]'h=l[i]'(by rwa [bC] at h):=by
 show (tx l).data[i]=_;simp [tx]
theorem QD (c:Nat) (hc:c<1114112) (r:List UInt8) (h):((tx (ko c++r))[0]'h).toNat=Gd (fq c) c:=by
 rw [BV,List.getElem_append_left (by rw [jl];have:=(nH c).1;omega)];unfold ko;rw [List.getElem_map,toNat_ofNat (Dx hc _ (List.getElem_mem _))];have hw:(dQ c).length=fq c:=yE c;have key:(dQ c)[0]? = some (Gd (fq c) c):=by
  unfold dQ Gd fq
  split
  ·simp
  split
  ·simp
  split
  ·simp
  ·simp
 exact Option.some.inj ((List.getElem?_eq_getElem _).symm.trans key)
theorem QF (c:Nat) (hc:c<1114112) (r:List UInt8) (i:Nat) (h1:1≤i) (hi:i<fq c) (h):((tx (ko c++r))[i]'h).toNat=128+c / 64 ^ (fq c-1-i) % 64:=by
 rw [BV,List.getElem_append_left (by rw [jl];exact hi)];unfold ko;rw [List.getElem_map,toNat_ofNat (Dx hc _ (List.getElem_mem _))];have key:(dQ c)[i]? = some (128+c / 64 ^ (fq c-1-i) % 64):=by
  unfold dQ;unfold fq at hi ⊢
  split at hi
  ·omega
  rename_i h2;rw [if_neg h2,if_neg h2]
  split at hi
  ·rename_i h3;obtain rfl:i=1:=by omega
   rw [if_pos h3,if_pos h3];simp
  rename_i h3;rw [if_neg h3,if_neg h3]
  split at hi
  ·rename_i h4;rw [if_pos h4,if_pos h4];have:i=1∨i=2:=by omega
   rcases this with rfl|rfl <;> simp
  ·rename_i h4;rw [if_neg h4,if_neg h4];have:i=1∨i=2∨i=3:=by omega
   rcases this with rfl|rfl|rfl <;> simp
 exact Option.some.inj ((List.getElem?_eq_getElem _).symm.trans key)
theorem J9 {w:World} (hH:dF w) (c:Nat) (hc:aP c) (r:List UInt8) :
 Calls Tryz.prog 71 #[.string (tx (ko c++r))] w fun e w'=>e=.returned (.tuple #[.int .i32 c,.int .i64 (fq c),.bool true])∧Below w.heap.size w w':=
 J7 hH c (fq c) hc rfl _ (by rw [bC,List.length_append,jl];omega) (QD c hc.1 r) (fun i h1 hi=>QF c hc.1 r i h1 hi)
theorem J_ (a b:List UInt8) (n:Nat) (h:a.length=n):(tx (a++b)).extract n (n+b.length)=tx b:=by
 subst h;apply ByteArray.ext;rw [ByteArray.data_extract];apply Array.ext';simp [tx]
def aaO:Value→Nat
 | .string s=>s.size
 | _=>0
theorem tO {w:World} (hH:dF w) (L:List Nat) (hL:∀x∈L,aP x) (hl:L.length<1000000) :
 Calls Tryz.prog 48 #[.string (tx (dH L))] w fun e w'=>∃r,e=.returned (.tuple #[r,.int .i64 0])∧w'.ownsRow w.heap.size aM 1 r L.length (aN L)∧Below w.heap.size w w':=by
 have HH:=aa hH;have HL:=aa hL;obtain ⟨n,hn⟩:=ae L.length;rw [←hn] at hl;have HN:=aa hn;have ZQ:=aa (show ∀j,(tx (dH (L.drop j))).size≤4000000 from fun j=>by rw [bC];have:=jo (L.drop j);rw [List.length_drop] at this;omega);clear hL hn;go_enter Tryz.func48,Tryz.ntmps48;go_wp2_with fail;go_loopw [0,4] (fun sv ov wr=>∃j:Nat,j≤n∧sv=.string (tx (dH (L.drop j)))∧wr.ownsRow w.heap.size aM 1 ov j (aN (L.take j))∧Below w.heap.size w wr) (fun sv _ _=>aaO sv)
 case atStart=>exact ⟨0,Nat.zero_le _,rfl,World.ownsRow_nil _ _ _ _,Below.refl _ _⟩
 case round=>
  obtain ⟨j,hj,rfl,ho,hE⟩:=hrel;obtain ⟨UD,WZ,rfl,_,_⟩:=ak ho;by_cases hjn:j<n
  ·have hjl:j<L.length:=by have:=HN.out;omega
   have hx:=HL.out _ (List.getElem_mem hjl);have ED:dH (L.drop j)=ko L[j]++dH (L.drop (j+1)):=by rw [List.drop_eq_getElem_cons hjl,BI]
   have ET:=aa (show L.take (j+1)=L.take j++[L[j]] from List.take_succ_eq_append_getElem hjl);have hs9:=ZQ.out j;rw [ED] at hs9 ⊢;have hh:=HH.out.mono hE;generalize L[j]=x at *;have hw1:=(nH x).1;have NX:=aa (fun W (h:dF W)=>J9 h x hx (dH (L.drop (j+1))));have zs:=BU (s:=tx (ko x++dH (L.drop (j+1)))) (by rw [bC,List.length_append,jl];omega);have hsz:(tx (ko x++dH (L.drop (j+1)))).size=fq x+(dH (L.drop (j+1))).length:=by rw [bC,List.length_append,jl]
   generalize hwx:fq x=wx at *;have hx9:=hx.1;have aaP:=aa (J_ (ko x) (dH (L.drop (j+1))) wx (hwx▸jl x));have HO:=aa ho;clear ho hx ED hwx;go_wp2_with fail;refine (NX.out _ hh).mono ?_;rintro e w2 ⟨rfl,h2⟩;have hE2:=hE.trans (h2.mono hE.size);have ho2:=aa (aG HO.out h2);go_wp2_with (at_builtin;refine gF rfl _ _ 52 rfl w.heap.size aM _ 4 bT _ j _ rfl ho2.out _ rfl rfl (by omega) (by unfold maxLen;omega) w hE2 (Nat.le_refl _) ?_;intro v' w3 hown' hb' _ _;obtain ⟨a3,c3,rfl,_,_⟩:=ak hown');go_roundw
   case rel=>exact ⟨j+1,by omega,by rw [aaP.out],by rw [ET.out,aZ];exact hown',hb'⟩
   case measure=>
    rw [aaP.out];show (tx (dH (L.drop (j+1)))).size<(tx (ko x++dH (L.drop (j+1)))).size;rw [hsz,bC];omega
  ·obtain rfl:n=j:=by omega
   have e0:tx (dH (L.drop n))=⟨#[]⟩:=by rw [List.drop_of_length_le (by rw [HN.out];exact Nat.le_refl _)];rfl
   rw [e0];have zs:(⟨#[]⟩:ByteArray).toList.isEmpty=true:=by rw [ByteArray.toList_eq];rfl
   rw [List.take_of_length_le (by rw [HN.out];exact Nat.le_refl _)] at ho;have HO:=aa ho;clear ho e0;go_wp2;go_ret2;exact ⟨_,rfl,by rw [←HN.out];exact HO.out,hE⟩
end Go.Proofs.YtmpkfkoficehpaaGreatDoor
namespace Go.Cd
def ll (d:Nat):UInt8:=if d<10 then UInt8.ofNat (48+d) else UInt8.ofNat (55+d)
def qN:Nat→Nat→List UInt8
 | 0,_=>[]
 | k+1,n=>qN k (n / 16)++[ll (n % 16)]
def kF (n:Nat):Nat:=if n<65536 then 4 else if n<1048576 then 5 else 6
def bI (n:Nat):List UInt8:=qN (kF n) n
theorem aaa:∀(k n:Nat),(qN k n).length=k
 | 0,_=>rfl
 | k+1,n=>by unfold qN;rw [List.length_append,aaa];rfl
theorem Ny (n:Nat):4≤kF n∧kF n≤6:=by
 unfold kF
 repeat' split
 all_goals decide
theorem bW (n:Nat):4≤(bI n).length∧(bI n).length≤6:=by unfold bI;rw [aaa];exact Ny n
theorem QG:∀d,d<16→(ll d).toNat=if d<10 then 48+d else 55+d:=by decide
def lq (v:Nat):List Nat→Nat
 | []=>v
 | d::l=>lq (v*16+d) l
theorem oN:∀(l m:List Nat) (v:Nat),lq v (l++m)=lq (lq v l) m
 | [],_,_=>rfl
 | _::l,m,_=>oN l m _
def kG:Nat→Nat→List Nat
 | 0,_=>[]
 | k+1,n=>kG k (n / 16)++[n % 16]
theorem tT:∀(k n:Nat),qN k n=(kG k n).map ll
 | 0,_=>rfl
 | k+1,n=>by unfold qN kG;rw [List.map_append,tT k];rfl
theorem tV:∀(k n:Nat),∀d∈kG k n,d<16
 | 0,_=>by simp [kG]
 | k+1,n=>by
   intro d hd;unfold kG at hd;rcases List.mem_append.1 hd with h|h
   ·exact tV k _ d h
   ·rw [List.mem_singleton.1 h];omega
theorem BZ:∀(k n:Nat),(kG k n).length=k
 | 0,_=>rfl
 | k+1,n=>by unfold kG;rw [List.length_append,BZ];rfl
theorem yI:∀(k n:Nat),n<16 ^ k→lq 0 (kG k n)=n
 | 0,n,h=>by simp at h;subst h;rfl
 | k+1,n,h=>by
   unfold kG;rw [oN,yI k (n / 16) (by rw [Nat.pow_succ] at h;omega)];show (n / 16)*16+n % 16=n;omega
theorem rV:∀(k n:Nat),16 ^ k≤n→∀d,(kG (k+1) n)[0]? = some d→n<16 ^ (k+1)→d≠0
 | 0,n,h,d,hd,hn=>by
   simp [kG] at hd;simp at hn h;omega
 | k+1,n,h,d,hd,hn=>by
   unfold kG at hd;rw [List.getElem?_append_left (by rw [BZ];omega)] at hd;refine rV k (n / 16) ?_ d hd ?_
   ·rw [Nat.pow_succ] at h;rw [Nat.le_div_iff_mul_le (by decide)];exact h
   ·rw [Nat.pow_succ] at hn;exact Nat.div_lt_of_lt_mul (by rw [Nat.mul_comm];exact hn)
theorem QH {n:Nat} (h:n<1114112):n<16 ^ kF n:=by
 unfold kF
 repeat' split
 ·simpa using ‹n<65536›
 ·simpa using ‹n<1048576›
 ·have:(16:Nat) ^ 6=16777216:=by decide
  omega
theorem Nz {n:Nat} (h:n<1114112) (hl:4<(bI n).length):∀b,(bI n)[0]? = some b→b≠48:=by
 intro b hb;unfold bI at hl hb;rw [aaa] at hl;rw [tT,List.getElem?_map] at hb;cases e:(kG (kF n) n)[0]? with
 | none=>rw [e] at hb;cases hb
 | some d=>
   rw [e] at hb;simp only [Option.map_some,Option.some.injEq] at hb;have h0:d≠0:=by
    unfold kF at hl e
    split at hl
    ·omega
    ·split at hl
     ·rename_i h1 h2;rw [if_neg h1,if_pos h2] at e;exact rV 4 n (by simpa using h1) d e (by simpa using h2)
     ·rename_i h1 h2;rw [if_neg h1,if_neg h2] at e
      exact rV 5 n (by simpa using h2) d e (by have:(16:Nat) ^ 6=16777216:=by decide
                                               omega)
   have hd:d<16:=tV _ _ d (List.mem_of_getElem? e);rintro rfl;have:=congrArg UInt8.toNat hb;rw [QG d hd] at this
   split at this <;> simp at this <;> omega
def iR (n:Nat):List UInt8:=
 if n<10 then [UInt8.ofNat (48+n)] else if n<100 then [UInt8.ofNat (48+n / 10),UInt8.ofNat (48+n % 10)]
 else [UInt8.ofNat (48+n / 100),UInt8.ofNat (48+n / 10 % 10),UInt8.ofNat (48+n % 10)]
def dI:List Nat→List UInt8
 | []=>[]
 | [c]=>bI c
 | c::d::l=>bI c++32::dI (d::l)
def rW (r:aH):List (List UInt8):=[bI r.code,[88],[],iR r.cls,[],dI r.map,[],[],[],[],[],[],[],[],[]]
def dh (r:aH):List UInt8:=bI r.code++[59,88,59,59]++iR r.cls++[59,59]++dI r.map++[59,59,59,59,59,59,59,59,59]
def bS (l:List (List UInt8)):List UInt8:=l.flatMap fun x=>x++[10]
def gp (T:List aH):List UInt8:=bS (T.map dh)
def dS:List Nat→List Nat→List Nat
 | _,[]=>[]
 | seen,c::l=>if c∈seen then dS (seen++[c]) l else c::dS (seen++[c]) l
def fK (X:List Nat):List UInt8:=bS ((dS [] X).map bI)
def gu (b:UInt8):Prop:=32≤b.toNat∧b.toNat≤126
theorem Ka:∀d,d<16→gu (ll d)∧ll d≠59∧ll d≠32∧ll d≠35∧ll d≠60:=by unfold gu;decide
theorem dJ (n:Nat):∀b∈bI n,gu b∧b≠59∧b≠32∧b≠35∧b≠60:=by
 intro b hb;unfold bI at hb;rw [tT] at hb;obtain ⟨d,hd,rfl⟩:=List.mem_map.1 hb;exact Ka d (tV _ _ d hd)
theorem vF:∀d,d<10→gu (UInt8.ofNat (48+d))∧UInt8.ofNat (48+d)≠59:=by unfold gu;decide
theorem rX {n:Nat} (h:n<1000):∀b∈iR n,gu b∧b≠59:=by
 intro b hb;unfold iR at hb
 repeat' split at hb
 all_goals simp only [List.mem_cons,List.not_mem_nil,or_false] at hb
 ·rw [hb];exact vF _ (by omega)
 ·rcases hb with rfl|rfl <;> exact vF _ (by omega)
 ·rcases hb with rfl|rfl|rfl <;> exact vF _ (by omega)
theorem nK:∀(l:List Nat),∀b∈dI l,gu b∧b≠59
 | [],b,h=>by simp [dI] at h
 | [c],b,h=>⟨(dJ c b h).1,(dJ c b h).2.1⟩
 | c::d::l,b,h=>by
   unfold dI at h;rcases List.mem_append.1 h with h|h
   ·exact ⟨(dJ c b h).1,(dJ c b h).2.1⟩
   ·rcases List.mem_cons.1 h with rfl|h
    ·unfold gu;decide
    ·exact nK (d::l) b h
theorem yJ (n:Nat):1≤(iR n).length∧(iR n).length≤3:=by
 unfold iR
 repeat' split
 all_goals simp
theorem tX {l:List Nat} (h:l.length≤2):(dI l).length≤13:=by
 match l,h with
 | [],_=>simp [dI]
 | [c],_=>have:=bW c;simp only [dI];omega
 | [c,d],_=>have:=bW c;have:=bW d;simp only [dI,List.length_append,List.length_cons];omega
theorem qw {r:aH} (h:r.map.length≤2):(dh r).length≤37:=by
 have h1:=bW r.code;have h2:=yJ r.cls;have h3:=tX h;unfold dh;simp only [List.length_append,List.length_cons,List.length_nil];omega
theorem Gl {r:aH} (h:r.cls<255):∀b∈dh r,gu b:=by
 intro b hb;unfold dh at hb;simp only [List.mem_append] at hb;rcases hb with ((((hb|hb)|hb)|hb)|hb)|hb
 ·exact (dJ _ b hb).1
 ·simp only [List.mem_cons,List.not_mem_nil,or_false] at hb;rcases hb with rfl|rfl|rfl|rfl <;> (unfold gu;decide)
 ·exact (rX (by omega) b hb).1
 ·simp only [List.mem_cons,List.not_mem_nil,or_false] at hb;rcases hb with rfl|rfl <;> (unfold gu;decide)
 ·exact (nK _ b hb).1
 ·simp only [List.mem_cons,List.not_mem_nil,or_false] at hb;rcases hb with rfl|rfl|rfl|rfl|rfl|rfl|rfl|rfl|rfl <;> (unfold gu;decide)
end Go.Cd
namespace Go.Cd
open Go.Lib
theorem rY (c:UInt8):∀(p r:List UInt8),c∉p→index (p++c::r) [c]=p.length
 | [],r,_=>by
   show index (c::r) [c]=0;unfold index;rw [if_pos (by simp [List.isPrefixOf])]
 | b::p,r,h=>by
   have ih:=rY c p r (fun h1=>h (by simp [h1]));show index (b::(p++c::r)) [c]=_;unfold index;have hb:c≠b:=fun h1=>h (by simp [h1]);rw [if_neg (by simp [List.isPrefixOf,hb]),ih];rw [if_neg (by simp)];simp
theorem lL (c:UInt8):∀(p:List UInt8),c∉p→index p [c]=-1
 | [],_=>rfl
 | b::p,h=>by
   have ih:=lL c p (fun h1=>h (by simp [h1]));unfold index;have hb:c≠b:=fun h1=>h (by simp [h1]);rw [if_neg (by simp [List.isPrefixOf,hb]),ih];rfl
def di (c:UInt8):List (List UInt8)→List UInt8
 | []=>[]
 | [p]=>p
 | p::q::l=>p++c::di c (q::l)
theorem yK (c:UInt8):∀(l:List (List UInt8)),l≠[]→(∀p∈l,c∉p)→split (di c l) [c]=l
 | [],h,_=>absurd rfl h
 | [p],_,h=>by
   have:=lL c p (h p (by simp));show splitK [c] 0 (count p [c]) p=[p];rw [count_miss this];rfl
 | p::q::l,_,h=>by
   have ih:=yK c (q::l) (by simp) (fun x hx=>h x (by simp [hx]));have hi:=rY c p (di c (q::l)) (h p (by simp));show splitK [c] 0 (count (p++c::di c (q::l)) [c]) (p++c::di c (q::l))=_;have hd:(p++c::di c (q::l)).drop (p.length+1)=di c (q::l):=by
    rw [show p++c::di c (q::l)=(p++[c])++di c (q::l) by simp,List.drop_left' (by simp)]
   rw [count_hit (by simp) hi,Nat.add_comm 1];unfold splitK;rw [hi,if_neg (by simp)];show (p++c::di c (q::l)).take (p.length+0)::splitK [c] 0 _ ((p++c::di c (q::l)).drop (p.length+1))=_;rw [List.take_left' (by simp)];simp only [List.length_singleton];rw [hd];have ih':splitK [c] 0 (count (di c (q::l)) [c]) (di c (q::l))=q::l:=ih;rw [ih']
theorem yL (r:aH):dh r=di 59 (rW r):=by
 unfold dh rW;simp [di]
theorem Gm {r:aH} (h:r.cls<255):split (dh r) [59]=rW r:=by
 rw [yL];refine yK 59 _ (by unfold rW;simp) ?_;intro p hp Kb;unfold rW at hp;simp only [List.mem_cons,List.not_mem_nil,or_false] at hp;have h1:∀b∈bI r.code,b≠59:=fun b hb=>(dJ _ b hb).2.1;have h2:∀b∈iR r.cls,b≠59:=fun b hb=>(rX (by omega) b hb).2;have h3:∀b∈dI r.map,b≠59:=fun b hb=>(nK _ b hb).2;rcases hp with rfl|rfl|rfl|rfl|rfl|rfl|rfl|rfl|rfl|rfl|rfl|rfl|rfl|rfl|rfl
 ·exact h1 _ Kb rfl
 ·simp at Kb
 ·simp at Kb
 ·exact h2 _ Kb rfl
 ·simp at Kb
 ·exact h3 _ Kb rfl
 all_goals simp at Kb
theorem B_:∀(l:List Nat),dI l=di 32 (l.map bI)
 | []=>rfl
 | [c]=>rfl
 | c::d::l=>by
   show bI c++32::dI (d::l)=bI c++32::di 32 (bI d::l.map bI);rw [B_ (d::l)];rfl
def QI:List UInt8:=[48,49,50,51,52,53,54,55,56,57,65,66,67,68,69,70]
theorem xE:∀d,d<16→indexByte QI (ll d)=d:=by decide
theorem QJ (n:Nat):cut (bI n) [35]=(bI n,[],false):=by
 unfold cut;rw [lL 35 (bI n) (fun h=>(dJ n _ h).2.2.2.1 rfl)];rfl
theorem NA:∀n,n<255→atoi (iR n)=some (n:Int):=by decide
end Go.Cd
namespace Go.Proofs.YtmpkfkoficehpaaGreatDoor
open Go.RowKit Go.Cd
theorem Ca (l:List Nat) (d:Nat):lq 0 (l++[d])=lq 0 l*16+d:=by rw [oN];rfl
theorem Mv:∀(l:List Nat) (v:Nat),(∀d∈l,d<16)→lq v l<(v+1)*16 ^ l.length
 | [],v,_=>by simp [lq]
 | d::l,v,h=>by
   have ih:=Mv l (v*16+d) fun x hx=>h x (List.mem_cons_of_mem _ hx);have hd:=h d (List.mem_cons_self ..);show lq (v*16+d) l<_;refine Nat.lt_of_lt_of_le ih ?_;rw [List.length_cons,Nat.pow_succ,Nat.mul_comm (16 ^ l.length) 16,←Nat.mul_assoc];exact Nat.mul_le_mul_right _ (by omega)
theorem toUInt8_toNat (b:UInt8):b.toNat.toUInt8=b:=by simp
theorem oP {w:World} (c:Nat) (hc:c<1114112) :
 Calls Tryz.prog 119 #[.string (tx (bI c))] w fun e w'=>e=.returned (.tuple #[.int .i32 c,.bool true])∧w'=w:=by
 obtain ⟨s,hse⟩:=ae (tx (bI c));obtain ⟨ds,hds⟩:=ae (kG (kF c) c);have hT:bI c=ds.map ll:=by rw [hds];exact tT _ _
 have hdl:∀d∈ds,d<16:=by rw [hds];exact tV _ _
 have hval:lq 0 ds=c:=by rw [hds];exact yI _ _ (QH hc)
 obtain ⟨n,hn⟩:=ae ds.length;have hsz:s.size=n:=by rw [hse,bC,hT,List.length_map,hn]
 have h46:4≤n∧n≤6:=by
  have:=bW c;rw [hT,List.length_map,←hn] at this;exact this
 have hs0:0<s.size:=by omega
 have h48:4<n→(s[0]'hs0).toNat≠48:=by
  intro h4 e;subst hse;rw [BV] at e;have h:=Nz hc (by rw [hT,List.length_map,←hn];exact h4) ((bI c)[0]'(by rwa [bC] at hs0)) (List.getElem?_eq_getElem _);apply h;rw [←UInt8.toNat_inj];exact e
 have HIX:=aa (show ∀(W:World) (j:Nat) (hj:j<s.size) (hj2:j<ds.length),Calls Tryz.prog 146 #[.string ⟨#[48,49,50,51,52,53,54,55,56,57,65,66,67,68,69,70]⟩,.int .u8 ((s[j]'hj).toNat:Int)] W fun e w'=>e=.returned (.int .i64 (ds[j]:Nat))∧w'=W from fun W j hj hj2=>by
  have h:=Tryz.strings_IndexByte ⟨#[48,49,50,51,52,53,54,55,56,57,65,66,67,68,69,70]⟩ ((s[j]'hj).toNat:Int) W;have e1:(((s[j]'hj).toNat:Int)).toNat.toUInt8=ll ds[j]:=by
   rw [Int.toNat_natCast,toUInt8_toNat];subst hse;rw [BV];simp only [hT,List.getElem_map]
  rw [e1,show (⟨#[48,49,50,51,52,53,54,55,56,57,65,66,67,68,69,70]⟩:ByteArray).data.toList=QI from rfl,xE _ (hdl _ (List.getElem_mem _))] at h
  exact h)
 have HV:=aa (show ∀j,lq 0 (ds.take j)<16777216 from fun j=>by
  have:=Mv (ds.take j) 0 fun d hd=>hdl d (List.mem_of_mem_take hd);have h2:(16:Nat) ^ (ds.take j).length≤16 ^ 6:=Nat.pow_le_pow_right (by decide) (by rw [List.length_take];omega);have e6:(16:Nat) ^ 6=16777216:=by decide
  omega)
 have aaQ:=aa hval;have DI:=aa hdl;have HN:=aa hn;have ZQ:=aa hsz;rw [←hse];clear hse hds hT hdl hval hn;go_enter Tryz.func119,Tryz.ntmps119;by_cases h4:4<n
 ·obtain ⟨B,hB⟩:∃B:Nat,B=(s[0]'hs0).toNat:=⟨_,rfl⟩;have e0:((s[0]'hs0).toNat:Int)=(B:Int):=by rw [hB]
  have z48:((B:Int)==48)=false:=by have:=h48 h4;rw [←hB] at this;simp;omega
  clear h48 hB;go_wp2_with fail;go_loopw [4,27] (fun nv iv wr=>∃j:Nat,j≤n∧iv=.int .i64 j∧nv=.int .i64 ((lq 0 (ds.take j):Nat):Int)∧wr=w) (fun _ iv _=>n-(intOf iv).toNat)
  case atStart=>exact ⟨0,Nat.zero_le _,rfl,rfl,(by first|rfl|trivial)⟩
  case round=>
   obtain ⟨j,hj,rfl,rfl,rfl⟩:=hrel;by_cases hjn:j<n
   ·have hjs:j<s.size:=by omega
    have hjd:j<ds.length:=by have:=HN.out;omega
    have IX:=aa (fun W=>HIX.out W j hjs hjd);have hd:=DI.out _ (List.getElem_mem hjd);have ES:=aa (show lq 0 (ds.take (j+1))=lq 0 (ds.take j)*16+ds[j] by rw [List.take_succ_eq_append_getElem hjd,Ca]);have hv:=HV.out j;generalize ds[j]=d at *;generalize lq 0 (ds.take j)=V at *;obtain ⟨B,hB⟩:∃B:Nat,B=(s[j]'hjs).toNat:=⟨_,rfl⟩;rw [←hB] at IX;have ej:((s[j]'hjs).toNat:Int)=(B:Int):=by rw [hB]
    clear hB;go_wp2_with fail;refine (IX.out _).mono ?_;rintro e w2 ⟨rfl,rfl⟩;go_wp2;go_roundw
    case rel=>exact ⟨j+1,by omega,rfl,by rw [ES.out];simp,(by first|rfl|trivial)⟩
    case measure=>simp [intOf];omega
   ·have UE:j=n:=by omega
    have e1:lq 0 (ds.take j)=c:=by rw [List.take_of_length_le (by rw [←HN.out];omega)];exact aaQ.out
    have zc:¬(1114111:Int)<(c:Int):=by omega
    have zj:¬(j:Int)<(n:Int):=by omega
    rw [e1];clear e1 UE;go_wp2;go_ret2;exact ⟨rfl,rfl⟩
 ·clear h48;go_wp2_with fail;go_loopw [4,27] (fun nv iv wr=>∃j:Nat,j≤n∧iv=.int .i64 j∧nv=.int .i64 ((lq 0 (ds.take j):Nat):Int)∧wr=w) (fun _ iv _=>n-(intOf iv).toNat)
  case atStart=>exact ⟨0,Nat.zero_le _,rfl,rfl,(by first|rfl|trivial)⟩
  case round=>
   obtain ⟨j,hj,rfl,rfl,rfl⟩:=hrel;by_cases hjn:j<n
   ·have hjs:j<s.size:=by omega
    have hjd:j<ds.length:=by have:=HN.out;omega
    have IX:=aa (fun W=>HIX.out W j hjs hjd);have hd:=DI.out _ (List.getElem_mem hjd);have ES:=aa (show lq 0 (ds.take (j+1))=lq 0 (ds.take j)*16+ds[j] by rw [List.take_succ_eq_append_getElem hjd,Ca]);have hv:=HV.out j;generalize ds[j]=d at *;generalize lq 0 (ds.take j)=V at *;obtain ⟨B,hB⟩:∃B:Nat,B=(s[j]'hjs).toNat:=⟨_,rfl⟩;rw [←hB] at IX;have ej:((s[j]'hjs).toNat:Int)=(B:Int):=by rw [hB]
    clear hB;go_wp2_with fail;refine (IX.out _).mono ?_;rintro e w2 ⟨rfl,rfl⟩;go_wp2;go_roundw
    case rel=>exact ⟨j+1,by omega,rfl,by rw [ES.out];simp,(by first|rfl|trivial)⟩
    case measure=>simp [intOf];omega
   ·have UE:j=n:=by omega
    have e1:lq 0 (ds.take j)=c:=by rw [List.take_of_length_le (by rw [←HN.out];omega)];exact aaQ.out
    have zc:¬(1114111:Int)<(c:Int):=by omega
    have zj:¬(j:Int)<(n:Int):=by omega
    rw [e1];clear e1 UE;go_wp2;go_ret2;exact ⟨rfl,rfl⟩
end Go.Proofs.YtmpkfkoficehpaaGreatDoor
section
namespace Go.Cd
open Go.Lib
theorem yM (c:UInt8):∀(l:List (List UInt8)),l≠[]→(∀p∈l,c∉p)→count (di c l) [c]+1=l.length
 | [],h,_=>absurd rfl h
 | [p],_,h=>by
   have:=lL c p (h p (by simp));show count p [c]+1=1;rw [count_miss this]
 | p::q::l,_,h=>by
   have ih:=yM c (q::l) (by simp) (fun x hx=>h x (by simp [hx]));have hi:=rY c p (di c (q::l)) (h p (by simp));have hd:(p++c::di c (q::l)).drop (p.length+1)=di c (q::l):=by
    rw [show p++c::di c (q::l)=(p++[c])++di c (q::l) by simp,List.drop_left' (by simp)]
   show count (p++c::di c (q::l)) [c]+1=_;rw [count_hit (by simp) hi];simp only [List.length_singleton];rw [hd,List.length_cons,←ih];omega
theorem NB {r:aH} (h:r.cls<255):∀p∈rW r,(59:UInt8)∉p:=by
 intro p hp Kb;unfold rW at hp;simp only [List.mem_cons,List.not_mem_nil,or_false] at hp;have h1:∀b∈bI r.code,b≠59:=fun b hb=>(dJ _ b hb).2.1;have h2:∀b∈iR r.cls,b≠59:=fun b hb=>(rX (by omega) b hb).2;have h3:∀b∈dI r.map,b≠59:=fun b hb=>(nK _ b hb).2;rcases hp with rfl|rfl|rfl|rfl|rfl|rfl|rfl|rfl|rfl|rfl|rfl|rfl|rfl|rfl|rfl
 ·exact h1 _ Kb rfl
 ·simp at Kb
 ·simp at Kb
 ·exact h2 _ Kb rfl
 ·simp at Kb
 ·exact h3 _ Kb rfl
 all_goals simp at Kb
end Go.Cd
namespace Go.Proofs.YtmpkfkoficehpaaGreatDoor
open Go.RowKit Go.Cd Go.Sort
structure ek (w:World):Prop where
 heads:dF w
 ml:∃m,w.cell? ⟨1,0,none⟩=some (.int .i64 m)
 ZR:Lib.TabIs Tryz.prog w "internal/strconv.uint64pow10" .u64 Lib.pow10Tab
theorem Kc {P:Program} {w w':World} {s:String} {k:IntKind} {zs:List Int} (h:Lib.TabIs P w s k zs) (hb:Below w.heap.size w w'):Lib.TabIs P w' s k zs:=by
 unfold Lib.TabIs World.var? at *;cases e:P.globalNamed s with
 | none=>rw [e] at h;cases h
 | some g=>
   rw [e] at h;simp only [Option.bind_some] at h ⊢;have hg:g<w.heap.size:=by
    rcases Nat.lt_or_ge g w.heap.size with h1|h1
    ·exact h1
    ·rw [Array.getElem?_eq_none h1] at h;cases h
   rw [hb.block g hg];exact h
theorem ek.mono {w w':World} (h:ek w) (hb:Below w.heap.size w w'):ek w':=
 ⟨h.heads.mono hb,by obtain ⟨m,hm⟩:=h.ml;exact ⟨m,aA hb hm⟩,Kc h.ZR hb⟩
theorem Gn (w:World) (e:TypeId) (s:ByteArray):Below w.heap.size w (Lib.bytesWorld w e s):=
 ⟨rfl,rfl,rfl,by rw [Lib.bytesWorld_size];omega,fun k hk=>Lib.bytesWorld_at_old w _ s k hk⟩
theorem Gp (w:World) (k:Nat) (os:Array Obj):Below w.heap.size w (grow (w.drewN k) os):=
 ⟨rfl,rfl,rfl,by show w.heap.size≤(w.heap++os).size;rw [Array.size_append];omega,fun j hj=>by
   show (w.heap++os)[j]? = _
   rw [Array.getElem?_append_left hj]⟩
theorem NC (n:Nat) (h:n<1000):Lib.itoa (n:Int)=iR n:=by
 unfold Lib.itoa iR;rw [if_neg (by omega),Int.toNat_natCast];by_cases h1:n<10
 ·rw [if_pos h1,Lib.decDigits_one h1]
 ·rw [if_neg h1];by_cases h2:n<100
  ·rw [if_pos h2,Lib.decDigits_two h1 h2]
  ·rw [if_neg h2,Lib.decDigits,dif_neg h1,Lib.decDigits_two (by omega) (by omega)];rw [Nat.div_div_eq_div_mul];rfl
theorem iH (l:List UInt8):(tx l).data.toList=l:=by simp [tx]
theorem Gq {w:World} (hG:ek w) (c:Nat) (hc:c<255) :
 Calls Tryz.prog 149 #[.string (tx (iR c)),.int .i64 254] w fun e w'=>e=.returned (.tuple #[.int .i64 c,.bool true])∧Below w.heap.size w w':=by
 have AT:=aa (Tryz.strconv_Atoi (tx (iR c)) c (by rw [bC];have:=(yJ c).2;omega) (by rw [iH];exact NA c hc) w)
 have IT:=aa (show ∀W,ek W→Calls Tryz.prog 185 #[.int .i64 c] W fun e w'=>e=.returned (.string (tx (iR c)))∧∃k os,w'=grow (W.drewN k) os from fun W h=>by
  have:=Tryz.strconv_Itoa c (by omega) (by omega) W h.ZR;rw [NC c (by omega)] at this
  exact this)
 have HG:=aa hG;generalize tx (iR c)=S at *;have z1:¬(c:Int)<0:=by omega
 have z2:¬(254:Int)<(c:Int):=by omega
 go_enter Tryz.func149,Tryz.ntmps149;go_wp2_with fail;refine AT.out.mono ?_;rintro e w2 ⟨rfl,t,rfl⟩;have hb:=Gn w 5 t;have H2:=aa (HG.out.mono hb);generalize Lib.bytesWorld w 5 t=w2 at *;go_wp2_with fail;refine (IT.out _ H2.out).mono ?_;rintro e w3 ⟨rfl,k,os,rfl⟩;have hb3:=Gp w2 k os;generalize grow (w2.drewN k) os=w3 at *;go_wp2;go_ret2;exact ⟨rfl,ah hb hb3⟩
theorem AA {w:World} (hG:ek w) (c:Nat) :
 Calls Tryz.prog 84 #[.string (tx (bI c))] w fun e w'=>e=.returned (.string (tx (bI c)))∧Below w.heap.size w w':=by
 obtain ⟨m,hm⟩:=hG.ml;have hs:(tx (bI c)).size≤6:=by rw [bC];exact (bW c).2
 have CU:=aa (show Calls Tryz.prog 117 #[.string (tx (bI c)),.string ⟨#[35]⟩] w fun e w'=>e=.returned (.tuple #[.string (tx (bI c)),.string ⟨#[]⟩,.bool false])∧∃n,w'=w.drewN n from by
  have h:=Tryz.strings_Cut (tx (bI c)) ⟨#[35]⟩ m w (by omega) hm;rw [iH,show (⟨#[35]⟩:ByteArray).data.toList=[35] from rfl,QJ] at h
  exact h)
 have TR:=aa (show ∀W,Calls Tryz.prog 118 #[.string (tx (bI c)),.string ⟨#[32]⟩] W fun e w'=>e=.returned (.string (tx (bI c)))∧(w'=W∨w'=W.drew) from fun W=>by
  have h:=Tryz.strings_Trim_one (tx (bI c)) 32 (by decide) W (by omega);have e1:Lib.trimB (bI c) 32=bI c:=by
   have hne:∀b∈bI c,(b==(32:UInt8))=false:=fun b hb=>by
    have:=(dJ c b hb).2.2.1;simpa using this
   have drop:∀l:List UInt8,(∀b∈l,(b==(32:UInt8))=false)→l.dropWhile (·==32)=l:=by
    intro l hl;cases l with
    | nil=>rfl
    | cons a l=>rw [List.dropWhile_cons,if_neg];rw [hl a (List.mem_cons_self ..)];decide
   unfold Lib.trimB Lib.trimLeftB Lib.trimRightB;rw [drop (bI c).reverse (fun b hb=>hne b (List.mem_reverse.1 hb)),List.reverse_reverse,drop _ hne]
  rw [iH,e1] at h
  exact h)
 generalize tx (bI c)=S at *;clear hm hs;go_enter Tryz.func84,Tryz.ntmps84;go_wp2_with fail;refine CU.out.mono ?_;rintro e w2 ⟨rfl,n,rfl⟩;have hb:Below w.heap.size w (w.drewN n):=below_drewN (Below.refl _ _) n;generalize w.drewN n=w2 at *;go_wp2_with fail;refine (TR.out _).mono ?_;rintro e w3 ⟨rfl,hw3⟩;have hb3:Below w2.heap.size w2 w3:=by rcases hw3 with rfl|rfl;exact Below.refl _ _;exact ag _
 clear hw3;go_wp2;go_ret;exact ⟨rfl,ah hb hb3⟩
theorem AB {w:World} (hG:ek w) (r:aH) (hc:r.cls<255) (hm2:r.map.length≤2) :
 Calls Tryz.prog 113 #[.string (tx (dh r))] w fun e w'=>e=.returned (.slice (some ⟨w.heap.size,0,none⟩) 15 15)∧w'=w.alloc (.cells ((rW r).map fun l=>Value.string (tx l)).toArray 9):=by
 obtain ⟨m,hm⟩:=hG.ml;have hs:(tx (dh r)).size≤37:=by rw [bC];exact qw hm2
 have SP:=Tryz.strings_Split (tx (dh r)) ⟨#[59]⟩ m w (by omega) hm (by decide);have hcnt:Lib.countB (tx (dh r)) ⟨#[59]⟩=Lib.count (dh r) [59]:=by
  have:=iH (dh r);unfold Lib.countB;simp only [this]
 have e1:(Lib.splitB ⟨#[59]⟩ 0 (Lib.countB (tx (dh r)) ⟨#[59]⟩) (tx (dh r))).map (·.data.toList)=rW r:=by
  rw [Lib.splitB_data,iH,hcnt];exact Gm (r:=r) hc
 have e2:Lib.splitB ⟨#[59]⟩ 0 (Lib.countB (tx (dh r)) ⟨#[59]⟩) (tx (dh r))=(rW r).map tx:=by
  rw [←e1,List.map_map];have:(tx ∘ fun x:ByteArray=>x.data.toList)=id:=by
   funext x;apply ByteArray.ext;simp [tx]
  rw [this,List.map_id]
 have e3:Lib.countB (tx (dh r)) ⟨#[59]⟩+1=15:=by
  rw [hcnt,yL];exact yM 59 (rW r) (by simp [rW]) (NB hc)
 rw [e2,e3,List.map_map] at SP;have SP:=aa SP;generalize tx (dh r)=S at *;clear e2 e1 e3 hcnt hs hm;go_enter Tryz.func113,Tryz.ntmps113;go_wp2_with fail;refine SP.out.mono ?_;rintro e w2 ⟨rfl,rfl⟩;go_wp2;go_ret;exact ⟨rfl,rfl⟩
end Go.Proofs.YtmpkfkoficehpaaGreatDoor
end
section
namespace Go.Cd
open Go.Lib
theorem kH (c:UInt8):∀(p r:List UInt8),c∉p→indexByte (p++c::r) c=(p.length:Int)
 | [],r,_=>by simp [indexByte]
 | a::p,r,h=>by
   have ih:=kH c p r (fun x=>h (List.mem_cons_of_mem _ x));have ha:(a==c)=false:=by
    have:c≠a:=fun e=>h (by rw [e];exact List.mem_cons_self ..);simpa using fun e=>this e.symm
   show (if (a==c)=true then (0:Int) else if (indexByte (p++c::r) c==-1)=true then -1 else indexByte (p++c::r) c+1)=_;rw [ih,if_neg (by rw [ha];decide),if_neg (by simp),List.length_cons];omega
theorem og (c:UInt8):∀(p:List UInt8),c∉p→indexByte p c=-1
 | [],_=>rfl
 | a::p,h=>by
   have ih:=og c p (fun x=>h (List.mem_cons_of_mem _ x));have ha:(a==c)=false:=by
    have:c≠a:=fun e=>h (by rw [e];exact List.mem_cons_self ..);simpa using fun e=>this e.symm
   show (if (a==c)=true then (0:Int) else if (indexByte p c==-1)=true then -1 else indexByte p c+1)=_;rw [ih,if_neg (by rw [ha];decide)];rfl
theorem AJ (c:UInt8) (p:List UInt8) (l:List (List UInt8)):(di c l).length≤(di c (p::l)).length:=by
 cases l with
 | nil=>simp [di]
 | cons q l=>simp only [di,List.length_append,List.length_cons];omega
theorem rq (c:UInt8):∀(l:List (List UInt8)) (k:Nat),(di c (l.drop k)).length≤(di c l).length
 | l,0=>by simp
 | [],k+1=>by simp
 | p::l,k+1=>Nat.le_trans (rq c l k) (AJ c p l)
end Go.Cd
namespace Go.Proofs.YtmpkfkoficehpaaGreatDoor
open Go.RowKit Go.Cd Go.Shelf
attribute [local go_sem] Oper.semAt_some
theorem Gs (a b:List UInt8):(tx (a++b)).extract 0 a.length=tx a:=by
 apply ByteArray.ext;rw [ByteArray.data_extract];apply Array.ext';simp [tx]
def tY (W:World) (b:Nat):Nat:=match W.cell? ⟨b,0,none⟩ with
 | some (.string s)=>s.size
 | _=>0
theorem Ke (m:Nat) (hm:1≤m) (Bp Bs Bk:Nat) (hps:Bp≠Bs) (hks:Bk≠Bs) {α:Type} (ys:List α) (hy0:ys≠[]) (val:α→List UInt8) (h32:∀y∈ys,(32:UInt8)∉val y) (hlen:(di 32 (ys.map val)).length<1000000)
 (w:World) (cp:w.cell? ⟨Bp,0,none⟩=some (.string ⟨#[32]⟩)) (cs:w.cell? ⟨Bs,0,none⟩=some (.string (tx (di 32 (ys.map val))))) (fs:w.frozen? ⟨Bs,0,none⟩=false) (ck:w.cell? ⟨Bk,0,none⟩=some (.int .i64 0)) :
 Dw Fence.wide m Tryz.prog 247 #[.pointer (some ⟨Bp,0,none⟩),.pointer (some ⟨Bs,0,none⟩),.pointer (some ⟨Bk,0,none⟩)] (fun x=>#[.string (tx (val x))]) [Bp,Bs,Bk] Bs ys w:=by
 intro l J W hW hJ hY h0;have cp:=aA hW cp;have cs:=aA hW cs;have ck:=aA hW ck;refine callsIn_of_wp Tryz.func247 rfl trivial ?_ rfl;simp only [Tryz.ntmps247,List.size_toArray,List.length_cons,List.length_nil,Nat.reduceAdd,Nat.reduceSub,Array.replicate_succ,Array.replicate_zero,List.push_toArray,List.append_toArray,List.nil_append,List.cons_append];have fs':W.frozen? ⟨Bs,0,none⟩=false:=(hW.frozen (p:=⟨Bs,0,none⟩) (World.block_lt_of_cell? w ⟨Bs,0,none⟩ (by assumption))).trans fs
 gi_wp2_with fail
 gi_loopw [7] (fun iv wr=>∃k:Nat,k<ys.length∧J (ys.take k) wr∧wr.cell? ⟨Bp,0,none⟩=some (.string ⟨#[32]⟩)∧wr.cell? ⟨Bs,0,none⟩=some (.string (tx (di 32 ((ys.drop k).map val))))∧wr.frozen? ⟨Bs,0,none⟩=false∧wr.cell? ⟨Bk,0,none⟩=some (.int .i64 0)) (fun iv wr=>tY wr Bs)
 case atStart=>exact ⟨0,List.length_pos_iff.2 hy0,h0,cp,cs,fs',ck⟩
 case round=>
  clear cp cs ck fs' h0;obtain ⟨k,hk,UF,cp,cs,fs',ck⟩:=hrel;obtain ⟨y,hye⟩:=ae (ys[k]);have hmem:y∈ys:=by rw [hye];exact List.getElem_mem hk
  have hd:ys.drop k=y::ys.drop (k+1):=by rw [hye];exact List.drop_eq_getElem_cons hk
  have ht:ys.take (k+1)=ys.take k++[y]:=by rw [hye];exact List.take_succ_eq_append_getElem hk
  have h3:=h32 y hmem;by_cases hlast:k+1=ys.length
  ·have hd2:ys.drop (k+1)=[]:=List.drop_of_length_le (by omega);have hall:ys.take k++[y]=ys:=by rw [←ht];exact List.take_of_length_le (by omega)
   rw [hd,hd2] at cs
   replace cs:wr.cell? ⟨Bs,0,none⟩=some (.string (tx (val y))):=cs
   obtain ⟨fn,tmps,assign,body,hy,hR⟩:=hY (ys.take k) y wr UF (by rw [List.length_take];omega)
   (try dsimp only at hy)
   have IX:=aa (show Calls Tryz.prog 209 #[.string (tx (val y)),.string ⟨#[32]⟩] wr fun e w'=>e=.returned (.int .i64 (-1))∧w'=wr from by
    have h:=Tryz.strings_Index_one (tx (val y)) 32 wr;rw [iH,og 32 _ h3] at h
    exact h)
   rw [hall] at hR;have HR:=aa hR;clear hd2 hall hd ht hR hye hJ hY
   gi_wp2_with (refine ⟨trivial,?_⟩;gi_at_call 209;refine (callsIn_wide.2 IX.out).mono ?_;rintro e w2 ⟨rfl,rfl⟩)
   refine HR.out.mono ?_;rintro e W3 ⟨rfl,hJ3,_⟩
   gi_wp2
   refine bodyPost_end (results_none rfl _ _ _) rfl ?_;exact ⟨⟨_,rfl⟩,hJ3⟩
  ·obtain ⟨z,r,hzr⟩:∃z r,ys.drop (k+1)=z::r:=by
    cases e:ys.drop (k+1) with
    | nil=>have:=congrArg List.length e;rw [List.length_drop] at this;simp at this;omega
    | cons z r=>exact ⟨z,r,rfl⟩
   obtain ⟨R,hR0⟩:=ae (di 32 ((ys.drop (k+1)).map val));have lM:di 32 ((ys.drop k).map val)=val y++32::R:=by rw [hR0,hd,hzr];rfl
   rw [lM] at cs;obtain ⟨fn,tmps,assign,body,hy,hR⟩:=hY (ys.take k) y wr UF (by rw [List.length_take];omega);rw [←ht] at hR;have HR:=aa hR
   have IX:=aa (show Calls Tryz.prog 209 #[.string (tx (val y++32::R)),.string ⟨#[32]⟩] wr fun e w'=>e=.returned (.int .i64 ((val y).length:Nat))∧w'=wr from by
    have h:=Tryz.strings_Index_one (tx (val y++32::R)) 32 wr;rw [iH,kH 32 _ _ h3] at h
    exact h)
   have hsz:(tx (val y++32::R)).size=(val y).length+1+R.length:=by rw [bC,List.length_append,List.length_cons];omega
   have tZ:=aa (show (tx (val y++32::R)).extract 0 (val y).length=tx (val y) from Gs (val y) (32::R))
   have UG:=aa (show (tx (val y++32::R)).extract ((val y).length+1) ((val y).length+1+R.length)=tx R from by
    have:=J_ (val y++[32]) R ((val y).length+1) (by simp)
    rwa [List.append_assoc] at this)
   have UH:=aa hR0;obtain ⟨v,hv⟩:=ae ((val y).length);have HV:=aa hv;rw [←hv] at IX hsz tZ UG;have aeM:v+1+R.length<1000000:=by
    have h1:=rq 32 (ys.map val) k;rw [←List.map_drop,lM,←bC,hsz] at h1;omega
   clear hzr lM hd ht hR hye hY hR0 hv
   gi_wp2_with (refine ⟨trivial,?_⟩;gi_at_call 209;refine (callsIn_wide.2 IX.out).mono ?_;rintro e w2 ⟨rfl,rfl⟩)
   rw [tZ.out,hy]
   gi_wp2
   refine HR.out.mono ?_;rintro e W3 ⟨rfl,hJ3,hkp⟩;have cp3:=(hkp Bp (by simp)).1.trans cp;have cs3:=(hkp Bs (by simp)).1.trans cs;have fs3:=(hkp Bs (by simp)).2.trans fs';have ck3:=(hkp Bk (by simp)).1.trans ck;have ZT:=aa cs;clear cp cs fs' ck hy UF;have HJ3:=aa hJ3;have ZU:=aa hkp;clear hJ3 hkp
   gi_wp2
   rw [UG.out];go_roundw
   case rel=>
    refine ⟨k+1,by omega,hJ _ _ _ _ HJ3.out (bQ W3 Bs 0 _) (fun r e=>by cases e;rfl),?_,?_,?_,?_⟩
    ·exact (World.cell?_setCell_other W3 (a:=⟨Bs,0,none⟩) (b:=⟨Bp,0,none⟩) _ (fun e=>hps (by injection e with e;exact e.symm))).trans cp3
    ·rw [←UH.out];exact World.cell?_setCell_same' _ _ _ (by rw [cs3];rfl)
    ·rw [World.frozen?_setCell];exact fs3
    ·exact (World.cell?_setCell_other W3 (a:=⟨Bs,0,none⟩) (b:=⟨Bk,0,none⟩) _ (fun e=>hks (by injection e with e;exact e.symm))).trans ck3
   case measure=>
    have e1:tY (W3.setCell ⟨Bs,0,none⟩ (.string (tx R))) Bs=R.length:=by
     unfold tY;rw [World.cell?_setCell_same' _ _ _ (by rw [cs3];rfl)];exact bC _
    rw [e1];unfold tY;rw [ZT.out];show R.length<(tx (val y++32::R)).size;rw [hsz];omega
end Go.Proofs.YtmpkfkoficehpaaGreatDoor
end
