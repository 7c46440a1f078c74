/- CedillaProducts: where a text may be cut apart, it has as many texts that are alike as its two parts multiplied; no condition. -/
import Derived.Test.YtmpkfkoficehpaaGreatDoorQ04
import Derived.OwnWalk
set_option maxRecDepth 100000
set_option maxHeartbeats 6400000
namespace Go.Proofs.YtmpkfkoficehpaaGreatDoor
open Go.RowKit Go.Cd
theorem F8 {a a' b b':Int} {p p':Bool} (h1:a=a') (h2:b=b') (h3:p=p'):Ending.returned (.tuple #[.int .i32 a,.int .i32 b,.bool p])=.returned (.tuple #[.int .i32 a',.int .i32 b',.bool p']):=by
 rw [h1,h2,h3]
theorem Uz {w:World} (c f n:Nat) (hb:f+n<2147483648) (p:Bool) (hp:decide (f≤c∧c<f+n)=p) :
 Calls Tryz.prog 64 #[.int .i32 c,.int .i32 f,.int .i32 n] w fun e w'=>e=.returned (.bool p)∧w'=w:=by
 have HP:=aa hp;by_cases h1:f≤c
 ·by_cases h2:c<f+n
  ·clear hp;go_enter Tryz.func64,Tryz.ntmps64;go_wp2;go_ret;exact ⟨dX (by rw [←HP.out];exact decide_eq_decide.2 (by omega)),rfl⟩
  ·clear hp;go_enter Tryz.func64,Tryz.ntmps64;go_wp2;go_ret;exact ⟨dX (by rw [←HP.out];exact decide_eq_decide.2 (by omega)),rfl⟩
 ·clear hp;go_enter Tryz.func64,Tryz.ntmps64;go_wp2;go_ret;exact ⟨dX (by rw [←HP.out];exact (decide_eq_false (p:=f≤c∧c<f+n) (fun h=>h1 h.1)).symm),rfl⟩
theorem ql {w:World} (c:Nat) (hc:c<1114112) :
 Calls Tryz.prog 42 #[.int .i32 c] w fun e w'=>e=.returned (.int .i64 (hk c))∧w'=w:=by
 have I:=fun (f n:Nat) (hb:f+n<2147483648) (p:Bool) (hp:decide (f≤c∧c<f+n)=p)=>aa (Uz (w:=w) c f n hb p hp);by_cases h1:4352≤c∧c<4371
 ·have E:hk c=1:=by unfold hk;rw [if_pos h1]
  have I1:=I 4352 19 (by decide) true (decide_eq_true h1);rw [E];clear E I;go_enter Tryz.func42,Tryz.ntmps42;go_wp2_with fail;refine I1.out.mono ?_;rintro e w' ⟨rfl,rfl⟩;go_wp2;go_ret;exact ⟨rfl,rfl⟩
 ·have I1:=I 4352 19 (by decide) false (decide_eq_false h1);by_cases h2:4449≤c∧c<4470
  ·have E:hk c=2:=by unfold hk;rw [if_neg h1,if_pos h2]
   have I2:=I 4449 21 (by decide) true (decide_eq_true h2);rw [E];clear E I h1;go_enter Tryz.func42,Tryz.ntmps42;go_wp2_with fail;refine I1.out.mono ?_;rintro e w' ⟨rfl,rfl⟩;go_wp2_with fail;refine I2.out.mono ?_;rintro e w' ⟨rfl,rfl⟩;go_wp2;go_ret;exact ⟨rfl,rfl⟩
  ·have I2:=I 4449 21 (by decide) false (decide_eq_false h2);by_cases h3:4520≤c∧c<4547
   ·have E:hk c=3:=by unfold hk;rw [if_neg h1,if_neg h2,if_pos h3]
    have I3:=I 4520 27 (by decide) true (decide_eq_true h3);rw [E];clear E I h1 h2;go_enter Tryz.func42,Tryz.ntmps42;go_wp2_with fail;refine I1.out.mono ?_;rintro e w' ⟨rfl,rfl⟩;go_wp2_with fail;refine I2.out.mono ?_;rintro e w' ⟨rfl,rfl⟩;go_wp2_with fail;refine I3.out.mono ?_;rintro e w' ⟨rfl,rfl⟩;go_wp2;go_ret;exact ⟨rfl,rfl⟩
   ·have I3:=I 4520 27 (by decide) false (decide_eq_false h3);by_cases h4:44032≤c∧c<55204
    ·have I4:=I 44032 11172 (by decide) true (decide_eq_true h4);have E:hk c=if (c-44032) % 28=0 then 4 else 5:=by unfold hk;rw [if_neg h1,if_neg h2,if_neg h3,if_neg (fun h=>h h4)]
     have HE:=aa E;obtain ⟨i,rfl⟩:∃i,c=44032+i:=⟨c-44032,by omega⟩;rw [Nat.add_sub_cancel_left] at HE;by_cases h5:i % 28=0
     ·have E5:hk (44032+i)=4:=by rw [HE.out,if_pos h5]
      rw [E5];have q:(((44032+i:Nat):Int)-44032).tmod 28=0:=by
       rw [show ((44032+i:Nat):Int)-44032=(i:Int) by omega];rw [Int.tmod_eq_emod_of_nonneg (by omega)];omega
      clear E E5 I h1 h2 h3;go_enter Tryz.func42,Tryz.ntmps42;go_wp2_with fail;refine I1.out.mono ?_;rintro e w' ⟨rfl,rfl⟩;go_wp2_with fail;refine I2.out.mono ?_;rintro e w' ⟨rfl,rfl⟩;go_wp2_with fail;refine I3.out.mono ?_;rintro e w' ⟨rfl,rfl⟩;go_wp2_with fail;refine I4.out.mono ?_;rintro e w' ⟨rfl,rfl⟩;go_wp2;go_ret;exact ⟨rfl,rfl⟩
     ·have E5:hk (44032+i)=5:=by rw [HE.out,if_neg h5]
      rw [E5];have q:¬(((44032+i:Nat):Int)-44032).tmod 28=0:=by
       rw [show ((44032+i:Nat):Int)-44032=(i:Int) by omega];rw [Int.tmod_eq_emod_of_nonneg (by omega)];omega
      clear E E5 I h1 h2 h3;go_enter Tryz.func42,Tryz.ntmps42;go_wp2_with fail;refine I1.out.mono ?_;rintro e w' ⟨rfl,rfl⟩;go_wp2_with fail;refine I2.out.mono ?_;rintro e w' ⟨rfl,rfl⟩;go_wp2_with fail;refine I3.out.mono ?_;rintro e w' ⟨rfl,rfl⟩;go_wp2_with fail;refine I4.out.mono ?_;rintro e w' ⟨rfl,rfl⟩;go_wp2;go_ret;exact ⟨rfl,rfl⟩
    ·have E:hk c=0:=by unfold hk;rw [if_neg h1,if_neg h2,if_neg h3,if_pos h4]
     have I4:=I 44032 11172 (by decide) false (decide_eq_false h4);rw [E];clear E I h1 h2 h3;go_enter Tryz.func42,Tryz.ntmps42;go_wp2_with fail;refine I1.out.mono ?_;rintro e w' ⟨rfl,rfl⟩;go_wp2_with fail;refine I2.out.mono ?_;rintro e w' ⟨rfl,rfl⟩;go_wp2_with fail;refine I3.out.mono ?_;rintro e w' ⟨rfl,rfl⟩;go_wp2_with fail;refine I4.out.mono ?_;rintro e w' ⟨rfl,rfl⟩;go_wp2;go_ret;exact ⟨rfl,rfl⟩
theorem BJ {w:World} (c:Nat) (hc:c<1114112) :
 Calls Tryz.prog 62 #[.int .i32 c] w fun e w'=>(∃a b:Nat,e=.returned (.tuple #[.int .i32 a,.int .i32 b,.bool (decide (4≤hk c))])∧(4≤hk c→dE c=[a,b]))∧w'=w:=by
 have HO:=aa (ql (w:=w) c hc);by_cases h4:hk c=4
 ·have hs:=(nG (c:=c)).1 h4;obtain ⟨i,rfl⟩:∃i,c=44032+i:=⟨c-44032,by omega⟩;rw [h4] at HO ⊢;have Ns:=aa (show dE (44032+i)=[4352+i / 588,4449+i % 588 / 28] by unfold dE;rw [if_pos h4,Nat.add_sub_cancel_left]);have q0:((44032+i:Nat):Int)-44032=(i:Int):=by omega
  have q1:((i:Int)).tdiv 588=((i / 588:Nat):Int):=by rw [Int.tdiv_eq_ediv_of_nonneg (by omega)];omega
  have q2:(((i:Int)).tmod 588).tdiv 28=((i % 588 / 28:Nat):Int):=by rw [Int.tmod_eq_emod_of_nonneg (by omega),Int.tdiv_eq_ediv_of_nonneg (by omega)];omega
  have hi:i<11172:=by omega
  clear h4 hs;go_enter Tryz.func62,Tryz.ntmps62;go_wp2_with fail;refine HO.out.mono ?_;rintro e w' ⟨rfl,rfl⟩;go_wp2
  go_ret3
  exact ⟨⟨4352+i / 588,4449+i % 588 / 28,F8 (by omega) (by omega) rfl,fun _=>Ns.out⟩,rfl⟩
 ·by_cases h5:hk c=5
  ·have hs:=(lJ (c:=c)).1 h5;obtain ⟨i,rfl⟩:∃i,c=44032+i:=⟨c-44032,by omega⟩;rw [h5] at HO ⊢;have Ns:=aa (show dE (44032+i)=[44032+i-i % 28,4519+i % 28] by unfold dE;rw [if_neg h4,if_pos h5,Nat.add_sub_cancel_left]);have q0:((44032+i:Nat):Int)-44032=(i:Int):=by omega
   have q1:((i:Int)).tmod 28=((i % 28:Nat):Int):=by rw [Int.tmod_eq_emod_of_nonneg (by omega)];omega
   have hi:i<11172:=by omega
   have hj:i % 28<28:=Nat.mod_lt _ (by decide);have hji:i % 28≤i:=Nat.mod_le _ _;clear h4 h5 hs;go_enter Tryz.func62,Tryz.ntmps62;go_wp2_with fail;refine HO.out.mono ?_;rintro e w' ⟨rfl,rfl⟩;go_wp2
   go_ret3
   exact ⟨⟨44032+i-i % 28,4519+i % 28,F8 (by omega) (by omega) rfl,fun _=>Ns.out⟩,rfl⟩
  ·have hk4:hk c<4:=by have:=yC c;omega
   have HD:=aa (decide_eq_false (by omega:¬4≤hk c));obtain ⟨k,hk0⟩:=ae (hk c);rw [←hk0] at HO HD ⊢;have hk':k<4:=by omega
   rw [HD.out];clear h4 h5 hk4 hk0;go_enter Tryz.func62,Tryz.ntmps62;go_wp2_with fail;refine HO.out.mono ?_;rintro e w' ⟨rfl,rfl⟩;have z1:((k:Int)==4)=false:=by simp;omega
   have z2:((k:Int)==5)=false:=by simp;omega
   go_wp2
   go_ret3
   exact ⟨⟨0,0,rfl,fun h=>by omega⟩,rfl⟩
end Go.Proofs.YtmpkfkoficehpaaGreatDoor
namespace Go.Cd
open Go.RowKit
theorem gF {P:Program} {W:World} {ops:Array Oper} {rest:List Oper} {o:Oper} {a:Act} {Q:Exit→Act→World→Prop} (hgd:o.guard=none) (s x:Operand) (t:TypeId)
 (ho:o.op=.call { callee:=.builtin .append,args:=#[s,x],argTypes:=#[t,t] })
 (base:Nat) (e:TypeId) (z:Value) (bytes:Nat) (hE:Elem P t e z bytes)
 (v:Value) (n:Nat) (xs:List Value) (hs:a.eval s=v) (hown:W.ownsRow base e 1 v n xs)
 (u:Value) (hx:a.eval x=.slice (some ⟨W.heap.size,0,none⟩) 1 1) (h1:u.oneCell'=true)
 (hbytes:(n+1)*bytes≤140737488355328) (h63:n+1≤maxLen) (w0:World) (hb:Below base w0 W) (hbase:base≤w0.heap.size)
 (h:∀v' w',w'.ownsRow base e 1 v' (n+1) (xs++[u])→Below base w0 w'→(W.alloc (.cells #[u] e)).ownsRow base e 1 v n xs→(W.alloc (.cells #[u] e)).grownBy w' v.ownBlock→wpList P ops Q rest (a.put o.dst v') w'):wpList P ops Q (o::rest) a (W.alloc (.cells #[u] e)):=by
 have hsz:=hb.size;refine bN hgd s x t ho base e z bytes hE v n xs hs (hown.alloc _) _ [u] hx (qj W #[u] e) (by simpa using h1) (by simpa using h63) (by simpa using hbytes) (by simp;omega) ?_;intro v' w' h2 h3;refine h v' w' (by simpa using h2) ((hb.alloc (by omega) _).grown h3 (by simp;omega) ?_) (hown.alloc _) h3;intro k hk;exact (hown.lt k hk).1
abbrev aM:TypeId:=21
def aN (l:List Nat):List Value:=l.map fun d:Nat=>Value.int .i32 d
@[simp] theorem bA (l:List Nat):(aN l).length=l.length:=by simp [aN]
theorem dM (l:List Nat) (i:Nat) (h:i<l.length):(aN l)[i]'(by simpa using h)=.int .i32 (l[i]:Nat):=by simp [aN]
theorem aZ (l m:List Nat):aN (l++m)=aN l++aN m:=by simp [aN]
theorem BK (l:List Nat) (k:Nat):aN (l.drop k)=(aN l).drop k:=by simp [aN,List.map_drop]
theorem fU (l:List Nat):∀u∈aN l,u.oneCell'=true:=by
 intro u hu;obtain ⟨d,_,rfl⟩:=List.mem_map.1 hu;rfl
theorem bT:Elem Go.Proofs.Tryz.prog 52 aM (.int .i32 0) 4:=⟨rfl,Go.Proofs.Tryz.underlying52,info_parts (by kernel_rfl)⟩
theorem lK (W:World) (cs:Array Value) (e:TypeId) (n:Nat) (hn:n=cs.size) (hm:n≤maxLen):(W.alloc (.cells cs e)).ownsRow W.heap.size e 1 (.slice (some ⟨W.heap.size,0,none⟩) n n) n cs.toList:=by
 subst hn;exact ⟨by simp,.inr ⟨W.heap.size,cs.size,cs,rfl,Nat.le_refl _,heap_alloc_new _ _,Nat.le_refl _,hm,by simp,by rw [List.take_of_length_le];simp⟩⟩
theorem bB.qL {w:World} {v:Value} {l:List Nat} {n:Nat} (h:bB w v (aN l)) (hn:n=l.length):∃a cap,v=.slice a n cap∧n≤cap∧
 ∀i (hi:i<l.length),∃b off,a=some ⟨b,off,none⟩∧b<w.heap.size∧w.cell? ⟨b,off+i,none⟩=some (.int .i32 (l[i]:Nat)):=by
 subst hn;obtain ⟨a,cap,rfl,hc,hx⟩:=bB.out h;have el:(aN l).length=l.length:=bA _;refine ⟨a,cap,by rw [el],by omega,fun i hi=>?_⟩;obtain ⟨b,off,h1,h2,h3⟩:=hx i (by omega);exact ⟨b,off,h1,h2,by rw [h3,dM _ _ hi]⟩
end Go.Cd
namespace Go.Proofs.YtmpkfkoficehpaaGreatDoor
open Go.RowKit Go.Cd
theorem ku {w:World} {c a b:Nat} (hc:c<1114112) (h:dE c=[a,b]) :
 Calls Tryz.prog 62 #[.int .i32 c] w fun e w'=>e=.returned (.tuple #[.int .i32 a,.int .i32 b,.bool true])∧w'=w:=by
 have h4:4≤hk c:=by
  rcases Nat.lt_or_ge (hk c) 4 with h'|h'
  ·rw [vC.2 h'] at h;cases h
  ·exact h'
 refine (BJ (w:=w) c hc).mono ?_;rintro e w' ⟨⟨a',b',rfl,hab⟩,rfl⟩;rw [hab h4] at h;cases h;rw [decide_eq_true h4];exact ⟨rfl,rfl⟩
theorem qm {w:World} {c:Nat} (hc:c<1114112) (h:hk c<4) :
 Calls Tryz.prog 62 #[.int .i32 c] w fun e w'=>(∃a b:Nat,e=.returned (.tuple #[.int .i32 a,.int .i32 b,.bool false]))∧w'=w:=by
 refine (BJ (w:=w) c hc).mono ?_;rintro e w' ⟨⟨a',b',rfl,_⟩,rfl⟩;rw [decide_eq_false (by omega:¬4≤hk c)];exact ⟨⟨a',b',rfl⟩,rfl⟩
theorem JQ {w:World} (c:Nat) (hc:c<1114112) :
 Calls Tryz.prog 38 #[.int .i32 c] w fun e w'=>∃r,e=.returned r∧w'.ownsRow w.heap.size aM 1 r (hparts c).length (aN (hparts c))∧Below w.heap.size w w':=by
 by_cases h4:hk c=4
 ·obtain ⟨a,b,hp⟩:∃a b,hparts c=[a,b]:=by unfold hparts;rw [if_pos h4];exact ⟨_,_,rfl⟩
  have JR:dE c=[a,b]:=by rw [←hp];unfold hparts dE;rw [if_pos h4,if_pos h4]
  have ha:a<4547:=(BH (by rw [hp];simp:a∈hparts c)).1;have hka:hk a<4:=by
   rcases Nat.lt_or_ge (hk a) 4 with h|h
   ·exact h
   ·have:=Qx.1 h;omega
  have HO:=aa (ku (w:=w) hc JR);have HA:=aa (qm (w:=w) (c:=a) (by omega) hka);rw [hp];clear hka hp h4 JR;go_enter Tryz.func38,Tryz.ntmps38;go_wp2_with fail;refine HO.out.mono ?_;rintro e w' ⟨rfl,rfl⟩;go_wp2_with fail;refine HA.out.mono ?_;rintro e w'' ⟨⟨a2,b2,rfl⟩,rfl⟩;go_wp2;go_ret;exact ⟨_,rfl,lK _ #[.int .i32 a,.int .i32 b] aM 2 rfl (by decide),af _⟩
 ·by_cases h5:hk c=5
  ·obtain ⟨x,y,z,hp⟩:∃x y z,hparts c=[x,y,z]:=by unfold hparts;rw [if_neg h4,if_pos h5];exact ⟨_,_,_,rfl⟩
   have JR:dE c=[c-(c-44032) % 28,z]:=by
    unfold hparts at hp;rw [if_neg h4,if_pos h5] at hp;unfold dE;rw [if_neg h4,if_pos h5];simp only [List.cons.injEq] at hp;rw [hp.2.2.1]
   have hpa:dE (c-(c-44032) % 28)=[x,y]:=by
    rw [yD h5];unfold hparts at hp;rw [if_neg h4,if_pos h5] at hp;simp only [List.cons.injEq] at hp;rw [hp.1,hp.2.1]
   have ha:c-(c-44032) % 28<1114112:=by omega
   have HO:=aa (ku (w:=w) hc JR);have HA:=aa (ku (w:=w) ha hpa);rw [hp];clear hp h4 h5 JR hpa;generalize c-(c-44032) % 28=a at *;go_enter Tryz.func38,Tryz.ntmps38;go_wp2_with fail;refine HO.out.mono ?_;rintro e w' ⟨rfl,rfl⟩;go_wp2_with fail;refine HA.out.mono ?_;rintro e w'' ⟨rfl,rfl⟩;go_wp2;go_ret;exact ⟨_,rfl,lK _ #[.int .i32 x,.int .i32 y,.int .i32 z] aM 3 rfl (by decide),af _⟩
  ·have hk4:hk c<4:=by have:=yC c;omega
   have HO:=aa (qm (w:=w) hc hk4);rw [gP.2 hk4];clear hk4 h4 h5;go_enter Tryz.func38,Tryz.ntmps38;go_wp2_with fail;refine HO.out.mono ?_;rintro e w' ⟨⟨a,b,rfl⟩,rfl⟩;go_wp2;go_ret;exact ⟨_,rfl,World.ownsRow_nil _ _ _ _,Below.refl _ _⟩
theorem iG {w:World} (c:Nat) (hc:c<2147483648) :
 Calls Tryz.prog 17 #[.int .i32 c] w fun e w'=>e=.returned (.bool (decide (aP c)))∧w'=w:=by
 obtain ⟨p,hp⟩:=ae (decide (aP c));have HP:=aa hp;rw [←hp];clear hp;by_cases h1:c≤1114111
 ·by_cases h2:c<55296
  ·have E:p=true:=HP.out.trans (decide_eq_true ⟨by omega,.inl h2⟩);subst E;go_enter Tryz.func17,Tryz.ntmps17;go_wp2;go_ret;exact ⟨dX (by simp <;> omega),rfl⟩
  ·by_cases h3:57343<c
   ·have E:p=true:=HP.out.trans (decide_eq_true ⟨by omega,.inr h3⟩);subst E;go_enter Tryz.func17,Tryz.ntmps17;go_wp2;go_ret;exact ⟨dX (by simp <;> omega),rfl⟩
   ·have E:p=false:=HP.out.trans (decide_eq_false (fun h=>by rcases h.2 with h|h <;> omega));subst E;go_enter Tryz.func17,Tryz.ntmps17;go_wp2;go_ret;exact ⟨dX (by simp <;> omega),rfl⟩
 ·have E:p=false:=HP.out.trans (decide_eq_false (fun h=>by have:=h.1;omega));subst E;go_enter Tryz.func17,Tryz.ntmps17;go_wp2;go_ret;exact ⟨rfl,rfl⟩
theorem BL {w:World} (c:Nat) (hc:c<9223372036854775808) :
 Calls Tryz.prog 35 #[.int .i64 c] w fun e w'=>e=.returned (.bool (decide (aP c)))∧w'=w:=by
 obtain ⟨p,hp⟩:=ae (decide (aP c));have HP:=aa hp;rw [←hp];clear hp;by_cases h1:c≤1114111
 ·by_cases h2:c<55296
  ·have E:p=true:=HP.out.trans (decide_eq_true ⟨by omega,.inl h2⟩);subst E;go_enter Tryz.func35,Tryz.ntmps35;go_wp2;go_ret;exact ⟨dX (by simp <;> omega),rfl⟩
  ·by_cases h3:57343<c
   ·have E:p=true:=HP.out.trans (decide_eq_true ⟨by omega,.inr h3⟩);subst E;go_enter Tryz.func35,Tryz.ntmps35;go_wp2;go_ret;exact ⟨dX (by simp <;> omega),rfl⟩
   ·have E:p=false:=HP.out.trans (decide_eq_false (fun h=>by rcases h.2 with h|h <;> omega));subst E;go_enter Tryz.func35,Tryz.ntmps35;go_wp2;go_ret;exact ⟨dX (by simp <;> omega),rfl⟩
 ·have E:p=false:=HP.out.trans (decide_eq_false (fun h=>by have:=h.1;omega));subst E;go_enter Tryz.func35,Tryz.ntmps35;go_wp2;go_ret;exact ⟨rfl,rfl⟩
def kz (x:Nat):Nat:=if aP x then x else x % 2048
theorem qo {x:Nat}:aP (kz x):=by
 unfold kz
 split
 ·assumption
 ·have:=Nat.mod_lt x (show 2048 > 0 by decide);exact ⟨by omega,.inl (by omega)⟩
theorem JS (n:Int):bits .and .i64 n 2097151=n % 2097152:=by
 have h127:(BitVec.ofInt 64 2097151).toNat=2 ^ 21-1:=by decide
 have key:(BitVec.ofInt 64 n &&& BitVec.ofInt 64 2097151).toNat=(n % ((2 ^ 64:Nat):Int)).toNat % 2 ^ 21:=by
  rw [BitVec.toNat_and,BitVec.toNat_ofInt,h127,Nat.and_two_pow_sub_one_eq_mod]
 show IntKind.i64.wrap ((BitVec.ofInt 64 n &&& BitVec.ofInt 64 2097151).toNat:Nat)=n % 2097152;rw [key,IntKind.wrap_i64];omega
theorem JU (n:Int):bits .and .i64 n 2047=n % 2048:=by
 have h127:(BitVec.ofInt 64 2047).toNat=2 ^ 11-1:=by decide
 have key:(BitVec.ofInt 64 n &&& BitVec.ofInt 64 2047).toNat=(n % ((2 ^ 64:Nat):Int)).toNat % 2 ^ 11:=by
  rw [BitVec.toNat_and,BitVec.toNat_ofInt,h127,Nat.and_two_pow_sub_one_eq_mod]
 show IntKind.i64.wrap ((BitVec.ofInt 64 n &&& BitVec.ofInt 64 2047).toNat:Nat)=n % 2048;rw [key,IntKind.wrap_i64];omega
theorem jq {w:World} (x:Int) :
 Calls Tryz.prog 14 #[.int .i64 x] w fun e w'=>e=.returned (.int .i32 (kz (x % 2097152).toNat))∧w'=w:=by
 obtain ⟨y,hy⟩:=ae ((x % 2097152).toNat);have hy1:bits BinOp.and IntKind.i64 x 2097151=(y:Int):=by rw [JS];omega
 have hy2:y<2097152:=by omega
 have I:=aa (BL (w:=w) y (by omega));rw [←hy];clear hy;by_cases hc:aP y
 ·have E:=aa (show kz y=y by unfold kz;rw [if_pos hc]);rw [decide_eq_true hc] at I;have hlt:=hc.1;clear hc;go_enter Tryz.func14,Tryz.ntmps14;go_wp2_with fail;refine I.out.mono ?_;rintro e w' ⟨rfl,rfl⟩;go_wp2;go_ret;exact ⟨by rw [E.out];rfl,rfl⟩
 ·have E:=aa (show kz y=y % 2048 by unfold kz;rw [if_neg hc]);have hz1:bits BinOp.and IntKind.i64 (y:Int) 2047=((y % 2048:Nat):Int):=by rw [JU];omega
  have hz2:=Nat.mod_lt y (show 2048 > 0 by decide);rw [decide_eq_false hc] at I;generalize y % 2048=z at *;clear hc;go_enter Tryz.func14,Tryz.ntmps14;go_wp2_with fail;refine I.out.mono ?_;rintro e w' ⟨rfl,rfl⟩;go_wp2;go_ret;exact ⟨by rw [E.out];rfl,rfl⟩
def fV (c:Nat):List Nat:=if hk c=1 then (List.range 588).map fun i=>44032+(c-4352)*588+i else []
theorem F9 {w:World} (c:Nat) (hc:c<1114112) :
 Calls Tryz.prog 171 #[.int .i32 c] w fun e w'=>∃r,e=.returned r∧w'.ownsRow w.heap.size aM 1 r (fV c).length (aN (fV c))∧Below w.heap.size w w':=by
 have HO:=aa (ql (w:=w) c hc);by_cases h1:hk c=1
 ·have E:fV c=(List.range 588).map fun i=>44032+(c-4352)*588+i:=by unfold fV;rw [if_pos h1]
  have hr:=Qy.1 h1;rw [h1] at HO;obtain ⟨l,rfl⟩:∃l,c=4352+l:=⟨c-4352,by omega⟩;rw [Nat.add_sub_cancel_left] at E;have hl:l<19:=by omega
  obtain ⟨B,hB⟩:=ae (fV (4352+l));have HB:=aa (hB.trans E);rw [←hB];clear h1 hr E hB;go_enter Tryz.func171,Tryz.ntmps171;go_wp2_with fail;refine HO.out.mono ?_;rintro e w' ⟨rfl,rfl⟩;clear HO;go_wp2_with fail;go_loopw [3,8] (fun o iv wr=>∃j:Nat,j≤588∧iv=.int .i32 j∧wr.ownsRow w'.heap.size aM 1 o j (aN ((List.range j).map fun i=>44032+l*588+i))∧Below w'.heap.size w' wr) (fun _ iv _=>588-(intOf iv).toNat)
  case atStart=>exact ⟨0,by decide,rfl,World.ownsRow_nil _ _ _ _,Below.refl _ _⟩
  case round=>
   obtain ⟨j,hj,rfl,ho,hE⟩:=hrel;by_cases hjn:j<588
   ·have HS:=aa (show aN ((List.range (j+1)).map fun i=>44032+l*588+i)=aN ((List.range j).map fun i=>44032+l*588+i)++[.int .i32 (44032+l*588+j:Nat)] by
     rw [List.range_succ,List.map_append,aZ];rfl)
    have HV:=aa (show (44032:Int)+(4352+(l:Int)-4352)*588+j=((44032+l*588+j:Nat):Int) by omega);go_wp2_with (at_builtin;refine gF rfl _ _ 52 rfl w'.heap.size aM _ 4 bT _ j _ rfl ho _ rfl rfl (by omega) (by unfold maxLen;omega) w' hE (Nat.le_refl _) ?_;intro v' w2 hown' hb' _ _);go_roundw
    case rel=>exact ⟨j+1,by omega,rfl,by rw [HS.out,←HV.out];exact hown',hb'⟩
    case measure=>simp [intOf];omega
   ·obtain rfl:j=588:=by omega
    go_wp2;go_ret;exact ⟨_,rfl,by rw [HB.out,List.length_map,List.length_range];exact ho,hE⟩
 ·have E:fV c=[]:=by unfold fV;rw [if_neg h1]
  obtain ⟨k,hk0⟩:=ae (hk c);have hk1:((k:Int)==1)=false:=by simp;omega
  rw [←hk0] at HO;rw [E];clear E h1 hk0;go_enter Tryz.func171,Tryz.ntmps171;go_wp2_with fail;refine HO.out.mono ?_;rintro e w' ⟨rfl,rfl⟩;go_wp2;go_ret;exact ⟨_,rfl,World.ownsRow_nil _ _ _ _,Below.refl _ _⟩
def ints (l:List Nat):List Value:=l.map fun d:Nat=>Value.int .i64 d
@[simp] theorem bZ (l:List Nat):(ints l).length=l.length:=by simp [ints]
theorem JV {j k:Nat} (hj:j<19) (hk0:k<21):hparts (44032+588*j+28*k)=[4352+j,4449+k]:=by
 have h4:hk (44032+588*j+28*k)=4:=nG.2 ⟨by omega,by omega,by omega⟩;unfold hparts;rw [if_pos h4];have e1:(44032+588*j+28*k-44032) / 588=j:=by omega
 have e2:(44032+588*j+28*k-44032) % 588 / 28=k:=by omega
 rw [e1,e2]
theorem Dy {j k t:Nat} (hj:j<19) (hk0:k<21) (h0:0<t) (ht:t<28):hparts (44032+588*j+28*k+t)=[4352+j,4449+k,4519+t]:=by
 have h5:hk (44032+588*j+28*k+t)=5:=lJ.2 ⟨by omega,by omega,by omega⟩;unfold hparts;rw [if_neg (by omega),if_pos h5];have e1:(44032+588*j+28*k+t-44032) / 588=j:=by omega
 have e2:(44032+588*j+28*k+t-44032) % 588 / 28=k:=by omega
 have e3:(44032+588*j+28*k+t-44032) % 28=t:=by omega
 rw [e1,e2,e3]
theorem wK {c:Nat} (h:c<44032∨55204≤c):hparts c=[]:=by
 refine gP.2 ?_;rcases Nat.lt_or_ge (hk c) 4 with h'|h'
 ·exact h'
 ·have:=Qx.1 h';omega
theorem qY {w:World} (c:Nat) (hc:c<1114112) :
 Calls Tryz.prog 93 #[.int .i64 c] w fun e w'=>∃r,e=.returned r∧w'.ownsRow w.heap.size bq 1 r (hparts c).length (ints (hparts c))∧Below w.heap.size w w':=by
 obtain ⟨P,hP⟩:=ae (hparts c);have HP:=aa hP;rw [←hP];clear hP;go_enter Tryz.func93,Tryz.ntmps93;go_wp2_with fail;go_loopw [3,4] (fun nv lv wr=>∃j:Nat,j≤19∧nv=.int .i64 (44032+588*j:Nat)∧lv=.int .i64 (4352+j:Nat)∧(0<j→44032+588*j≤c)∧wr=w) (fun _ lv _=>4371-(intOf lv).toNat)
 case atStart=>exact ⟨0,by decide,rfl,rfl,fun h=>absurd h (by decide),rfl⟩
 case round=>
  obtain ⟨j,hj,rfl,rfl,hjc,rfl⟩:=hrel;by_cases aaH:j<19
  ·by_cases h5:44032+588*j+588≤c
   ·go_wp2;go_roundw
    case rel=>exact ⟨j+1,by omega,congrArg (Value.int .i64) (by omega),congrArg (Value.int .i64) (by omega),fun _=>by omega,trivial⟩
    case measure=>simp [intOf];omega
   ·go_wp2_with fail;go_loopw [3,5] (fun nv vv wq=>∃k:Nat,k<21∧nv=.int .i64 (44032+588*j+28*k:Nat)∧vv=.int .i64 (4449+k:Nat)∧(0<k→44032+588*j+28*k≤c)∧wq=wr) (fun _ vv _=>4470-(intOf vv).toNat)
    case atStart=>exact ⟨0,by decide,rfl,rfl,fun h=>absurd h (by decide),rfl⟩
    case round=>
     obtain ⟨k,hk,rfl,rfl,hkc,rfl⟩:=hrel;by_cases h6:44032+588*j+28*k+28≤c
     ·go_wp2;go_roundw
      case rel=>exact ⟨k+1,by omega,congrArg (Value.int .i64) (by omega),congrArg (Value.int .i64) (by omega),fun _=>by omega,trivial⟩
      case measure=>simp [intOf];omega
     ·rcases Nat.lt_trichotomy c (44032+588*j+28*k) with h7|h7|h7
      ·have hp:=wK (c:=c) (.inl (by omega));have E:=HP.out.trans hp;subst E;have z:((c:Int)==((44032+588*j+28*k:Nat):Int))=false:=by simp;omega
       clear hp;go_wp2;go_ret;exact ⟨_,rfl,World.ownsRow_nil _ _ _ _,Below.refl _ _⟩
      ·subst h7;have E:=HP.out.trans (JV aaH hk);subst E;go_wp2;go_ret;exact ⟨_,rfl,lK _ #[.int .i64 (4352+j:Nat),.int .i64 (4449+k:Nat)] bq 2 rfl (by decide),af _⟩
      ·obtain ⟨t,rfl⟩:∃t,c=44032+588*j+28*k+t:=⟨c-(44032+588*j+28*k),by omega⟩;have E:=HP.out.trans (Dy aaH hk (t:=t) (by omega) (by omega));subst E;have z:(((44032+588*j+28*k+t:Nat):Int)==((44032+588*j+28*k:Nat):Int))=false:=by simp;omega
       go_wp2;go_ret;refine ⟨_,rfl,?_,af _⟩;have o:=lK wr #[.int .i64 (4352+j:Nat),.int .i64 (4449+k:Nat),.int .i64 (4519+t:Nat)] bq 3 rfl (by decide);rw [show ((4519+t:Nat):Int)=4519+(44032+588*(j:Int)+28*k+t)-(44032+588*j+28*k) by omega] at o;have e3:ints [4352+j,4449+k,4519+t]=(#[Value.int .i64 (4352+j:Nat),.int .i64 (4449+k:Nat),.int .i64 (4519+(44032+588*(j:Int)+28*k+t)-(44032+588*j+28*k))]:Array Value).toList:=by
        rw [show 4519+(44032+588*(j:Int)+28*k+t)-(44032+588*j+28*k)=((4519+t:Nat):Int) by omega];rfl
       rw [e3];exact o
  ·obtain rfl:j=19:=by omega
   have E:=HP.out.trans (wK (c:=c) (.inr (by omega)));subst E;go_wp2;go_ret;exact ⟨_,rfl,World.ownsRow_nil _ _ _ _,Below.refl _ _⟩
end Go.Proofs.YtmpkfkoficehpaaGreatDoor
namespace Go.Cd
structure aH where
 code:Nat
 cls:Nat
 map:List Nat
deriving DecidableEq
def rowOf (T:List aH) (c:Nat):Option aH:=T.find? fun r=>r.code==c
def ai (T:List aH) (c:Nat):Nat:=match rowOf T c with|some r=>r.cls|none=>0
def bL (T:List aH) (c:Nat):List Nat:=match rowOf T c with|some r=>r.map|none=>[]
def mapOf (T:List aH) (c:Nat):List Nat:=if hk c<4 then bL T c else dE c
def gQ (M:Nat→List Nat):Nat→Nat→List Nat
 | 0,c=>[c]
 | n+1,c=>if M c=[] then [c] else (M c).flatMap (gQ M n)
def df (M:Nat→List Nat) (l:List Nat):List Nat:=l.flatMap fun c=>if M c=[] then [c] else M c
def qZ (M:Nat→List Nat) (l:List Nat):Prop:=∀x∈l,M x=[]
theorem iT {M:Nat→List Nat} {c:Nat} (h:M c=[]):∀n,gQ M n c=[c]
 | 0=>rfl
 | n+1=>by unfold gQ;rw [if_pos h]
theorem BM {M:Nat→List Nat} {c:Nat} (h:¬M c=[]) (n:Nat):gQ M (n+1) c=(M c).flatMap (gQ M n):=by
 conv=>lhs;unfold gQ
 rw [if_neg h]
theorem Nt (M:Nat→List Nat) (n:Nat) (l:List Nat):l.flatMap (gQ M (n+1))=(df M l).flatMap (gQ M n):=by
 unfold df;rw [List.flatMap_assoc];congr 1;funext c;by_cases h:M c=[]
 ·rw [if_pos h,iT h,List.flatMap_singleton,iT h]
 ·rw [if_neg h,BM h]
theorem oL {M:Nat→List Nat}:∀{l:List Nat},qZ M l→df M l=l
 | [],_=>rfl
 | c::l,h=>by
   unfold df;rw [List.flatMap_cons,if_pos (h c (by simp))];have:=oL (M:=M) (l:=l) (fun x hx=>h x (by simp [hx]));unfold df at this;rw [this];rfl
theorem BO (M:Nat→List Nat):∀l:List Nat,l.length≤(df M l).length
 | []=>Nat.le_refl _
 | c::l=>by
   have ih:=BO M l;unfold df at ih ⊢;rw [List.flatMap_cons,List.length_append,List.length_cons];have:1≤(if M c=[] then [c] else M c).length:=by
    split
    ·simp
    ·rename_i h;exact List.length_pos_iff.2 h
   omega
def steps (M:Nat→List Nat):Nat→List Nat→List Nat
 | 0,l=>l
 | n+1,l=>steps M n (df M l)
theorem yF (M:Nat→List Nat):∀(n:Nat) (l:List Nat),steps M n l=l.flatMap (gQ M n)
 | 0,l=>by
   show l=_;have:gQ M 0=fun c=>[c]:=rfl;rw [this]
   induction l with
   | nil=>rfl
   | cons c l ih=>rw [List.flatMap_cons,←ih];rfl
 | n+1,l=>by
   show steps M n (df M l)=_;rw [yF M n,Nt]
theorem rT (M:Nat→List Nat):∀(n:Nat) (l:List Nat),steps M (n+1) l=df M (steps M n l)
 | 0,_=>rfl
 | n+1,l=>rT M n (df M l)
theorem wL {M:Nat→List Nat} {l:List Nat} (h:qZ M l):∀n,steps M n l=l
 | 0=>rfl
 | n+1=>by show steps M n (df M l)=l;rw [oL h];exact wL h n
theorem vD (M:Nat→List Nat):∀(n m:Nat) (l:List Nat),steps M (n+m) l=steps M m (steps M n l)
 | 0,m,l=>by rw [Nat.zero_add];rfl
 | n+1,m,l=>by rw [Nat.add_right_comm];exact vD M n m (df M l)
theorem vE (M:Nat→List Nat):∀(n:Nat) (l:List Nat),l.length≤(steps M n l).length
 | 0,_=>Nat.le_refl _
 | n+1,l=>Nat.le_trans (BO M l) (vE M n (df M l))
def aC (T:List aH) (c:Nat):List Nat:=gQ (mapOf T) (T.length+3) c
def fJ (T:List aH) (c:Nat):Prop:=qZ (mapOf T) (aC T c)∧(aC T c).length≤32
theorem iU (T:List aH) (c:Nat):aC T c=steps (mapOf T) (T.length+3) [c]:=by
 unfold aC;rw [yF];simp
theorem Dz {T:List aH} {c k:Nat} (hk:k≤T.length+3) (h:qZ (mapOf T) (steps (mapOf T) k [c])):aC T c=steps (mapOf T) k [c]:=by
 rw [iU,show T.length+3=k+(T.length+3-k) by omega,vD,wL h]
end Go.Cd
namespace Go.Proofs.YtmpkfkoficehpaaGreatDoor
open Go.RowKit Go.Cd
def wM (w:World) (v:Value) (T:List aH):Prop:=
 ∃a cap,v=.slice a T.length cap∧T.length≤cap∧∀i (hi:i<T.length),∃b off m,a=some ⟨b,off,none⟩∧b<w.heap.size∧
  w.cell? ⟨b,off+i*3,none⟩=some (.int .i64 T[i].code)∧w.cell? ⟨b,off+i*3+1,none⟩=some (.int .i64 T[i].cls)∧w.cell? ⟨b,off+i*3+2,none⟩=some m∧bB w m (ints T[i].map)
theorem wM.mono {w w':World} {v:Value} {T:List aH} (h:wM w v T) (hb:Below w.heap.size w w'):wM w' v T:=by
 obtain ⟨a,cap,hv,hc,h⟩:=h;refine ⟨a,cap,hv,hc,fun i hi=>?_⟩;obtain ⟨b,off,m,ha,hbs,h1,h2,h3,h4⟩:=h i hi;exact ⟨b,off,m,ha,Nat.lt_of_lt_of_le hbs hb.size,aA hb h1,aA hb h2,aA hb h3,h4.mono hb⟩
def iV (w:World) (v:Value) (T:List aH) (X:List Nat):Prop:=∃r x,v=.agg #[r,x]∧wM w r T∧bB w x (ints X)
theorem iV.mono {w w':World} {v:Value} {T:List aH} {X:List Nat} (h:iV w v T X) (hb:Below w.heap.size w w'):iV w' v T X:=by
 obtain ⟨r,x,hv,h1,h2⟩:=h;exact ⟨r,x,hv,h1.mono hb,h2.mono hb⟩
theorem nI {T:List aH} {c:Nat} (h:∀r∈T,r.code≠c):rowOf T c=none:=List.find?_eq_none.2 fun r hr=>by simpa using h r hr
theorem yG {T:List aH} {c i:Nat} (hi:i<T.length) (h:∀r∈T.take i,r.code≠c) (hc:T[i].code=c):rowOf T c=some T[i]:=by
 unfold rowOf;rw [List.find?_eq_some_iff_append];refine ⟨by simpa using hc,T.take i,T.drop (i+1),?_,fun r hr=>by simpa using h r hr⟩;rw [List.getElem_cons_drop,List.take_append_drop]
theorem rf {w:World} {v:Value} {T:List aH} {X:List Nat} (h:iV w v T X) (c:Nat) (hmax:T.length<1000000) :
 Calls Tryz.prog 37 #[v,.int .i64 c] w fun e w'=>e=.returned (.int .i64 (ai T c))∧Below w.heap.size w w':=by
 obtain ⟨r,x,rfl,h1,h2⟩:=h;obtain ⟨a,cap,rfl,_,hx⟩:=h1;obtain ⟨ax,cx,rfl,_,_⟩:=bB.out h2;obtain ⟨nx,hnx⟩:∃n,n=(ints X).length:=⟨_,rfl⟩;rw [←hnx];obtain ⟨n,hn⟩:=ae T.length;rw [←hn] at hmax ⊢;have HN:=aa hn;have HX:=aa hx;have hb:=af (w:=w) (.cells #[.slice a n cap,.slice ax nx cx] 25);obtain ⟨K,hK⟩:=ae (ai T c);have HK:=aa hK;rw [←hK];have d0:(w.alloc (.cells #[.slice a n cap,.slice ax nx cx] 25)).cell? ⟨w.heap.size,0,none⟩=some (.slice a n cap):=by unfold World.cell?;rw [heap_alloc_new];rfl
 obtain ⟨W0,hW⟩:=ae (w.alloc (.cells #[.slice a n cap,.slice ax nx cx] 25));rw [←hW] at hb d0;clear h2 hx hn hnx hK;go_enter Tryz.func37,Tryz.ntmps37;go_wp2_with fail;rw [←hW];clear hW;go_loopw [10] (fun iv wr=>∃j:Nat,j≤n∧iv=.int .i64 j∧(∀r∈T.take j,r.code≠c)∧Below W0.heap.size W0 wr) (fun iv _=>n-(intOf iv).toNat)
 case atStart=>exact ⟨0,Nat.zero_le _,rfl,by simp,Below.refl _ _⟩
 case round=>
  obtain ⟨j,hj,rfl,hne,hE⟩:=hrel;have fo:=hb.trans (hE.mono hb.size);by_cases hjn:j<n
  ·have hjl:j<T.length:=by have:=HN.out;omega
   obtain ⟨b,off,m,rfl,hbs,c0,c1,c2,hm⟩:=HX.out j hjl;obtain ⟨am,cm,rfl,_,_⟩:=bB.out hm;generalize (ints T[j].map).length=nm at c2;clear hm;have c0:=aA fo c0;have c1:=aA fo c1;have c2:=aA fo c2;have HA:=aa (yG hjl hne);have HS:=aa (show ∀r,r∈T.take (j+1)↔r∈T.take j∨r=T[j] from fun r=>by rw [List.take_succ_eq_append_getElem hjl,List.mem_append,List.mem_singleton]);have TS:=aa hne;generalize T[j]=q at *;clear hne;by_cases hq:q.code=c
   ·have E:K=q.cls:=HK.out.trans (by unfold ai;rw [HA.out hq]);subst E;subst hq;go_wp2;go_ret;exact ⟨rfl,hb.trans ((ah hE (af _)).mono hb.size)⟩
   ·have z:((q.code:Int)==c)=false:=by simp;omega
    go_wp2;go_roundw
    case rel=>exact ⟨j+1,by omega,rfl,fun r hr=>by rcases (HS.out r).1 hr with h|h;exact TS.out r h;rw [h];exact hq,ah hE (af _)⟩
    case measure=>simp [intOf];omega
  ·obtain rfl:j=n:=by omega
   have E:K=0:=HK.out.trans (by unfold ai;rw [nI (fun r hr=>hne r (by rw [HN.out,List.take_length];exact hr))]);subst E;go_wp2;go_ret;exact ⟨rfl,fo⟩
theorem wN {w:World} {v:Value} {T:List aH} {X:List Nat} (h:iV w v T X) (c:Nat) (hc:c<1114112) (hmax:T.length<1000000) :
 Calls Tryz.prog 61 #[v,.int .i64 c] w fun e w'=>∃r,e=.returned r∧bB w' r (ints (mapOf T c))∧Below w.heap.size w w':=by
 obtain ⟨r,x,rfl,h1,h2⟩:=h;obtain ⟨a,cap,rfl,_,hx⟩:=h1;obtain ⟨ax,cx,rfl,_,_⟩:=bB.out h2;obtain ⟨nx,hnx⟩:∃n,n=(ints X).length:=⟨_,rfl⟩;rw [←hnx];obtain ⟨n,hn⟩:=ae T.length;rw [←hn] at hmax ⊢;have HN:=aa hn;have HX:=aa hx;have hb:=af (w:=w) (.cells #[.slice a n cap,.slice ax nx cx] 25);have d0:(w.alloc (.cells #[.slice a n cap,.slice ax nx cx] 25)).cell? ⟨w.heap.size,0,none⟩=some (.slice a n cap):=by unfold World.cell?;rw [heap_alloc_new];rfl
 obtain ⟨W0,hW⟩:=ae (w.alloc (.cells #[.slice a n cap,.slice ax nx cx] 25));rw [←hW] at hb d0;have PA:=aa (qY (w:=W0) c hc);obtain ⟨M,hM⟩:=ae (mapOf T c);have HM:=aa hM;rw [←hM];clear h2 hx hn hnx hM;by_cases h4:hk c<4
 ·have E:=aa (HM.out.trans (by unfold mapOf;rw [if_pos h4]):M=bL T c);rw [gP.2 h4] at PA;clear h4;go_enter Tryz.func61,Tryz.ntmps61;go_wp2_with fail;rw [←hW];clear hW;refine PA.out.mono ?_;rintro e w1 ⟨r1,rfl,o1,h1⟩;have hE1:=hb.trans (h1.mono hb.size);have d1:=aA h1 d0;obtain ⟨a1,c1,rfl,_,_⟩:=bB.out (Sl.aW o1).any;rw [show (ints []).length=0 from rfl];clear PA o1 h1 d0 hb;go_wp2_with fail;go_loopw [30] (fun iv wr=>∃j:Nat,j≤n∧iv=.int .i64 j∧(∀r∈T.take j,r.code≠c)∧Below w1.heap.size w1 wr) (fun iv _=>n-(intOf iv).toNat)
  case atStart=>exact ⟨0,Nat.zero_le _,rfl,by simp,Below.refl _ _⟩
  case round=>
   obtain ⟨j,hj,rfl,hne,hE⟩:=hrel;have fo:=hE1.trans (hE.mono hE1.size);by_cases hjn:j<n
   ·have hjl:j<T.length:=by have:=HN.out;omega
    obtain ⟨b,off,m,rfl,hbs,c0,c1,c2,hm⟩:=HX.out j hjl;have c0:=aA fo c0;have c1:=aA fo c1;have c2:=aA fo c2;obtain ⟨am,cm,rfl,_,_⟩:=bB.out hm;have hm:=aa (hm.mono fo);have HA:=aa (yG hjl hne);have HS:=aa (show ∀r,r∈T.take (j+1)↔r∈T.take j∨r=T[j] from fun r=>by rw [List.take_succ_eq_append_getElem hjl,List.mem_append,List.mem_singleton]);have TS:=aa hne;generalize T[j]=q at *;obtain ⟨nm,hnm⟩:=ae ((ints q.map).length);rw [←hnm] at hm c2;clear hne hnm;by_cases hq:q.code=c
    ·have E2:M=q.map:=E.out.trans (by unfold bL;rw [HA.out hq]);subst E2;subst hq;go_wp2;go_ret;exact ⟨_,rfl,hm.out.mono (af _),fo.trans ((af _).mono fo.size)⟩
    ·have z:((q.code:Int)==c)=false:=by simp;omega
     go_wp2;go_roundw
     case rel=>exact ⟨j+1,by omega,rfl,fun r hr=>by rcases (HS.out r).1 hr with h|h;exact TS.out r h;rw [h];exact hq,ah hE (af _)⟩
     case measure=>simp [intOf];omega
   ·obtain rfl:j=n:=by omega
    have E2:M=[]:=E.out.trans (by unfold bL;rw [nI (fun r hr=>hne r (by rw [HN.out,List.take_length];exact hr))]);subst E2;go_wp2;go_ret;exact ⟨_,rfl,⟨none,0,rfl,Nat.le_refl _,.inl ⟨rfl,fun _=>rfl⟩⟩,fo⟩
 ·have E0:M=dE c:=HM.out.trans (by unfold mapOf;rw [if_neg h4]);by_cases h5:hk c=5
  ·obtain ⟨x,y,z,hp⟩:∃x y z,hparts c=[x,y,z]:=by unfold hparts;rw [if_neg (by omega),if_pos h5];exact ⟨_,_,_,rfl⟩
   have hz:z<4547:=(BH (by rw [hp];simp:z∈hparts c)).1;have JR:dE c=[c-(z-4519),z]∧4519≤z:=by
    unfold hparts at hp;rw [if_neg (by omega),if_pos h5] at hp;simp only [List.cons.injEq] at hp;unfold dE;rw [if_neg (by omega),if_pos h5,hp.2.2.1];have h9:=hp.2.2.1;generalize (c-44032) % 28=t at *;have:c-t=c-(z-4519):=by omega
    rw [this];exact ⟨rfl,by omega⟩
   have hc5:=(lJ.1 h5).1;have E:=aa (E0.trans JR.1);have hz2:=JR.2;rw [hp] at PA;clear h4 h5 E0 hp JR;go_enter Tryz.func61,Tryz.ntmps61;go_wp2_with fail;rw [←hW];clear hW;refine PA.out.mono ?_;rintro e w1 ⟨r1,rfl,o1,h1⟩;have hE1:=hb.trans (h1.mono hb.size);have s1:=(Sl.aW o1).any;obtain ⟨a1,c1,rfl,hc1,hx1⟩:=bB.out s1;obtain ⟨b1,f1,rfl,_,hz1⟩:=hx1 2 (by simp);have hz1:w1.cell? ⟨b1,f1+2,none⟩=some (.int .i64 z):=by rw [hz1];rfl
   rw [show (ints [x,y,z]).length=3 from rfl] at hc1 ⊢;have hg:=Gr.cell (ag w1) hz1;clear PA o1 h1 d0 hb s1 hx1;go_wp2_with fail;refine aF (Array.replicate 11 true) 11 0 mixed (by rfl) ?_;refine ay [0,1,2,3,4,5,6,7,8] 2 rfl (by kernel_rfl) ?_
   iterate 9 (refine aB rfl ?_;go_big_quiet_step (rfl))
   refine az ?_;refine aI 9 (by kernel_rfl) rfl ?_;go_wp2_with fail;refine aD (af _) ?_;refine ay [10] 0 rfl (by kernel_rfl) ?_
   iterate 1 (refine aB rfl ?_;go_big_quiet_step (rfl))
   refine az ?_;refine aJ [] (by kernel_rfl) ?_;refine tail_nil ?_;go_wp2;go_ret;refine ⟨_,rfl,?_,hE1.trans ((ah (ag w1) (af _)).mono hE1.size)⟩;rw [E.out];have o:=qj w1 #[.int .i64 (c-(z-4519):Nat),.int .i64 z] bq;rw [show ((c-(z-4519):Nat):Int)=(c:Int)-((z:Int)-4519) by omega] at o;have e3:ints [c-(z-4519),z]=(#[Value.int .i64 ((c:Int)-((z:Int)-4519)),.int .i64 z]:Array Value).toList:=by
    rw [show (c:Int)-((z:Int)-4519)=((c-(z-4519):Nat):Int) by omega];rfl
   rw [e3];exact o.mono (ag _)
  ·have h44:hk c=4:=by have:=yC c;omega
   obtain ⟨x,y,hp⟩:∃x y,hparts c=[x,y]:=by unfold hparts;rw [if_pos h44];exact ⟨_,_,rfl⟩
   have E:=aa (E0.trans (show dE c=[x,y] by rw [←hp];unfold hparts dE;rw [if_pos h44,if_pos h44]));rw [hp] at PA;clear h4 h5 h44 E0 hp;go_enter Tryz.func61,Tryz.ntmps61;go_wp2_with fail;rw [←hW];clear hW;refine PA.out.mono ?_;rintro e w1 ⟨r1,rfl,o1,h1⟩;have hE1:=hb.trans (h1.mono hb.size);have s1:=(Sl.aW o1).any;obtain ⟨a1,c1,rfl,hc1,hx1⟩:=bB.out s1;rw [show (ints [x,y]).length=2 from rfl] at hc1 s1 ⊢;have S1:=aa s1;clear PA o1 h1 d0 hb s1 hx1;go_wp2;go_ret;exact ⟨_,rfl,by rw [E.out];exact S1.out,hE1⟩
theorem BP (c:Nat):(dE c).length≤2:=by
 unfold dE
 split
 ·exact Nat.le_refl _
 ·split
  ·exact Nat.le_refl _
  ·exact Nat.zero_le _
theorem BQ {T:List aH} (h:∀r∈T,r.map.length≤4) (c:Nat):(mapOf T c).length≤4:=by
 unfold mapOf
 split
 ·unfold bL;cases hr:rowOf T c with
  | none=>exact Nat.zero_le _
  | some r=>exact h r (List.mem_of_find?_eq_some hr)
 ·exact Nat.le_trans (BP c) (by decide)
theorem JW (M:Nat→List Nat) (l:List Nat) (x:Nat):df M (l++[x])=df M l++if M x=[] then [x] else M x:=by
 unfold df;rw [List.flatMap_append];simp
theorem F_ {M:Nat→List Nat} {k:Nat} (hk:1≤k) (h:∀x,(M x).length≤k):∀l:List Nat,(df M l).length≤k*l.length
 | []=>Nat.zero_le _
 | c::l=>by
   have ih:=F_ hk h l;unfold df at ih ⊢;rw [List.flatMap_cons,List.length_append,List.length_cons,Nat.mul_add];have:(if M c=[] then [c] else M c).length≤k:=by split;exact hk;exact h c
   omega
def anyM (M:Nat→List Nat) (l:List Nat):Bool:=l.any fun x=>!(M x).isEmpty
theorem Nu (M:Nat→List Nat) (l:List Nat) (x:Nat):anyM M (l++[x])=(anyM M l||!(M x).isEmpty):=by unfold anyM;simp
theorem jw:Elem Tryz.prog 23 bq (.int .i64 0) 8:=⟨rfl,Tryz.underlying23,info_parts (by kernel_rfl)⟩
theorem jU (l:List Nat):∀u∈ints l,u.oneCell'=true:=by
 intro u hu;obtain ⟨d,_,rfl⟩:=List.mem_map.1 hu;rfl
theorem oM (l m:List Nat):ints (l++m)=ints l++ints m:=by simp [ints]
theorem bB.kD {w:World} {v:Value} {l:List Nat} {n:Nat} (h:bB w v (ints l)) (hn:n=l.length):∃a cap,v=.slice a n cap∧n≤cap∧
 ∀i (hi:i<l.length),∃b off,a=some ⟨b,off,none⟩∧b<w.heap.size∧w.cell? ⟨b,off+i,none⟩=some (.int .i64 (l[i]:Nat)):=by
 subst hn;obtain ⟨a,cap,rfl,hc,hx⟩:=Go.Cd.bB.out h;have el:(ints l).length=l.length:=bZ _;refine ⟨a,cap,by rw [el],by omega,fun i hi=>?_⟩;obtain ⟨b,off,h1,h2,h3⟩:=hx i (by omega);exact ⟨b,off,h1,h2,by rw [h3];simp [ints]⟩
theorem aV {w:World} {B B':Nat} {e:TypeId} {size:Nat} {v:Value} {n:Nat} {xs:List Value} (h:w.ownsRow B e size v n xs) (hb:B'≤B):w.ownsRow B' e size v n xs:=by
 obtain ⟨h1,h2⟩:=h;refine ⟨h1,h2.imp id ?_⟩;rintro ⟨g,cap,cur,hv,hg,r⟩;exact ⟨g,cap,cur,hv,Nat.le_trans hb hg,r⟩
theorem iV.shape {w:World} {v:Value} {T:List aH} {X:List Nat} (h:iV w v T X):∃a nt cap ax nx cx,v=.agg #[.slice a nt cap,.slice ax nx cx]:=by
 obtain ⟨r,x,rfl,⟨a,cap,rfl,_⟩,h2⟩:=h;obtain ⟨ax,cx,rfl,_,_⟩:=Go.Cd.bB.out h2;exact ⟨_,_,_,_,_,_,rfl⟩
theorem DD {w:World} {v u:Value} {T:List aH} {X L:List Nat} (h:iV w v T X) (hl:bB w u (ints L)) (hL:∀x∈L,x<1114112) (Ga:∀r∈T,r.map.length≤4) (hmax:T.length<1000000) (TT:L.length<1000000) :
 Calls Tryz.prog 36 #[v,u] w fun e w'=>∃r,e=.returned (.tuple #[r,.bool (anyM (mapOf T) L)])∧w'.ownsRow w.heap.size bq 1 r (df (mapOf T) L).length (ints (df (mapOf T) L))∧Below w.heap.size w w':=by
 have HT:=aa h;obtain ⟨a,nt,cap,ax,nx,cx,rfl⟩:=h.shape;obtain ⟨n,hn⟩:=ae L.length;obtain ⟨al,cl,rfl,_,hx⟩:=bB.kD hl hn;have HN:=aa hn;have HX:=aa hx;have HL:=aa hL;have Gb:n<1000000:=by omega
 have Nv:=aa (fun l=>F_ (M:=mapOf T) (k:=4) (by decide) (BQ Ga) l);have BR:=aa (BQ Ga);have hb:=af (w:=w) (.cells #[.slice a nt cap,.slice ax nx cx] 25);have d0:(w.alloc (.cells #[.slice a nt cap,.slice ax nx cx] 25)).cell? ⟨w.heap.size,0,none⟩=some (.slice a nt cap):=by unfold World.cell?;rw [heap_alloc_new];rfl
 have d1:(w.alloc (.cells #[.slice a nt cap,.slice ax nx cx] 25)).cell? ⟨w.heap.size,1,none⟩=some (.slice ax nx cx):=by unfold World.cell?;rw [heap_alloc_new];rfl
 obtain ⟨W0,hW⟩:=ae (w.alloc (.cells #[.slice a nt cap,.slice ax nx cx] 25));rw [←hW] at hb d0 d1;obtain ⟨W1,hW1⟩:=ae (W0.alloc (.cells #[] bq));have hb1:Below W0.heap.size W0 W1:=by subst hW1;exact af _
 have o1:W1.ownsRow W0.heap.size bq 1 (.slice (some ⟨w.heap.size+1,0,none⟩) 0 0) 0 (ints []):=by
  subst hW1;have:=qi W0 bq;rw [show W0.heap.size=w.heap.size+1 by rw [hW];simp] at this ⊢;exact this
 rw [hW] at hW1;have hs0:W0.heap.size=w.heap.size+1:=by rw [hW];simp
 clear hW h hl hx hn hL Ga;go_enter Tryz.func36,Tryz.ntmps36;go_wp2_with fail;rw [←hW1];clear hW1;go_loopw [6,7,14] (fun ov sv iv wr=>∃j:Nat,j≤n∧iv=.int .i64 j∧sv=.bool (anyM (mapOf T) (L.take j))∧wr.ownsRow W0.heap.size bq 1 ov (df (mapOf T) (L.take j)).length (ints (df (mapOf T) (L.take j)))∧Below W0.heap.size W0 wr) (fun _ _ iv _=>n-(intOf iv).toNat)
 case atStart=>exact ⟨0,Nat.zero_le _,rfl,rfl,o1,hb1⟩
 case round=>
  clear o1 hb1;obtain ⟨j,hj,rfl,rfl,ho,hE⟩:=hrel;have fo:=hb.trans (hE.mono hb.size);by_cases hjn:j<n
  ·have hjl:j<L.length:=by have:=HN.out;omega
   obtain ⟨b,off,rfl,hbs,hc⟩:=HX.out j hjl;have hc:=aA fo hc;have e0:=aA hE d0;have e1:=aA hE d1;have hx:=HL.out _ (List.getElem_mem hjl);have hlen:=Nv.out (L.take j);rw [List.length_take] at hlen;have ES:=aa (show df (mapOf T) (L.take (j+1))=_ by rw [List.take_succ_eq_append_getElem hjl,JW]);have EA:=aa (show anyM (mapOf T) (L.take (j+1))=_ by rw [List.take_succ_eq_append_getElem hjl,Nu]);generalize df (mapOf T) (L.take j)=S at *;generalize anyM (mapOf T) (L.take j)=A at *;generalize L[j]=x at *;have MA:=aa (wN (HT.out.mono fo) x hx hmax);have kX:=BR.out x;go_wp2_with fail;refine MA.out.mono ?_;rintro e w2 ⟨r2,rfl,s2,h2⟩;have hE2:=ah hE h2;have ho2:=aG ho h2;have S2:=aa s2;generalize mapOf T x=m at *;obtain ⟨nm,hnm⟩:=ae m.length;obtain ⟨a2,c2,rfl,_,_⟩:=bB.kD s2 hnm;have qM:=aa hnm;by_cases hm0:m=[]
   ·have h0:nm=0:=by rw [hnm,hm0];rfl
    subst h0;have ES':=aa (ES.out.trans (by rw [if_pos hm0]):df (mapOf T) (L.take (j+1))=S++[x]);have EA':=aa (EA.out.trans (by rw [hm0];simp):anyM (mapOf T) (L.take (j+1))=A);clear MA s2 hnm hm0 ES EA e0 e1;go_wp2_with (at_builtin;refine gF rfl _ _ 23 rfl W0.heap.size bq _ 8 jw _ S.length _ rfl ho2 _ rfl rfl (by omega) (by unfold maxLen;omega) W0 hE2 (Nat.le_refl _) ?_;intro v' w3 hown' hb' _ _);go_roundw
    case rel=>exact ⟨j+1,by omega,rfl,by rw [EA'.out],by rw [ES'.out,oM,List.length_append];exact hown',hb'⟩
    case measure=>simp [intOf];omega
   ·have h0:¬nm=0:=fun h=>hm0 (List.length_eq_zero_iff.1 (hnm▸h));have z:((nm:Int)==0)=false:=by simp;omega
    have aj8:nm≤4:=by omega
    have ES':=aa (ES.out.trans (by rw [if_neg hm0]):df (mapOf T) (L.take (j+1))=S++m);have EA':=aa (EA.out.trans (by cases m with|nil=>exact absurd rfl hm0|cons y m=>simp):anyM (mapOf T) (L.take (j+1))=true);have hil:(ints m).length=nm:=by rw [bZ,hnm]
    clear MA s2 hnm hm0 ES EA e0 e1;go_wp2_with (at_builtin;refine bN rfl _ _ 23 rfl W0.heap.size bq _ 8 jw _ S.length _ rfl ho2 _ (ints m) rfl S2.out (jU m) (by rw [hil];unfold maxLen;omega) (by rw [hil];omega) hE2.size ?_;intro v' w3 hown' hgrow);have kY:=hE2.grown hgrow hE2.size (fun k hk=>(ho2.lt k hk).1);go_roundw
    case rel=>exact ⟨j+1,by omega,rfl,by rw [EA'.out],by rw [ES'.out,oM,List.length_append,←qM.out,←hil];exact hown',kY⟩
    case measure=>simp [intOf];omega
  ·obtain rfl:j=n:=by omega
   rw [List.take_of_length_le (by rw [HN.out];exact Nat.le_refl _)] at ho ⊢;go_wp2;go_ret2;exact ⟨_,rfl,aV ho (by omega),fo⟩
def tx (l:List UInt8):ByteArray:=⟨l.toArray⟩
theorem JY (l:List Nat):str l=tx (l.map UInt8.ofNat):=rfl
theorem gq (a b:List UInt8):tx a++tx b=tx (a++b):=by
 apply ByteArray.ext;simp [tx,ByteArray.data_append]
theorem bC (a:List UInt8):(tx a).size=a.length:=by simp [tx,ByteArray.size]
theorem kE (w:World) (cs:Array Value) (n:Nat) (L:List Nat) (hn:cs.size=n) (hL:cs.toList=l_ L) (h:∀d∈L,d<256) :
 (convert 105 9 (.slice (some ⟨w.heap.size,0,none⟩) n n)).run Tryz.prog (w.alloc (.cells cs qX))=.ok (.string (str L)) (w.alloc (.cells cs qX)):=by
 subst hn;have:=qj w cs qX;rw [hL] at this;exact F7 this h
theorem DF {w:World} (c:Nat) (hc:c<1114112) :
 Calls Tryz.prog 21 #[.int .i64 c] w fun e w'=>e=.returned (.string (tx (ko c)))∧Below w.heap.size w w':=by
 obtain ⟨R,hR⟩:=ae (tx (ko c));have HR:=aa hR;rw [←hR];by_cases h1:c<128
 ·have E:dQ c=[c]:=by unfold dQ;rw [if_pos h1]
  have hcv:=kE w #[.int .u8 c] 1 [c] rfl (by simp [l_]) (fun d hd=>by rw [List.mem_singleton.1 hd];omega);have E2:str [c]=R:=by rw [hR,ko,E];rfl
  rw [E2] at hcv;have hb:=af (w:=w) (.cells #[.int .u8 c] qX);clear hR E2 E;go_enter Tryz.func21,Tryz.ntmps21;go_wp2_with fail;go_ret;exact ⟨rfl,hb⟩
 ·by_cases h2:c<2048
  ·have E:dQ c=[192+c / 64,128+c % 64]:=by unfold dQ;rw [if_neg h1,if_pos h2]
   have hcv:=kE w #[.int .u8 (192+(c:Int) / 64),.int .u8 (128+(c:Int) % 64)] 2 [192+c / 64,128+c % 64] rfl (by simp [l_]) (fun d hd=>by simp only [List.mem_cons,List.not_mem_nil,or_false] at hd;omega);have E2:str [192+c / 64,128+c % 64]=R:=by rw [hR,ko,E];rfl
   rw [E2] at hcv;have hb:=af (w:=w) (.cells #[.int .u8 (192+(c:Int) / 64),.int .u8 (128+(c:Int) % 64)] qX);clear hR E2 E;go_enter Tryz.func21,Tryz.ntmps21;go_wp2_with fail;go_ret;exact ⟨rfl,hb⟩
  ·by_cases h3:c<65536
   ·have E:dQ c=[224+c / 4096,128+c / 64 % 64,128+c % 64]:=by unfold dQ;rw [if_neg h1,if_neg h2,if_pos h3]
    have hcv:=kE w #[.int .u8 (224+(c:Int) / 4096),.int .u8 (128+(c:Int) / 64 % 64),.int .u8 (128+(c:Int) % 64)] 3 [224+c / 4096,128+c / 64 % 64,128+c % 64] rfl (by simp [l_]) (fun d hd=>by simp only [List.mem_cons,List.not_mem_nil,or_false] at hd;omega);have E2:str [224+c / 4096,128+c / 64 % 64,128+c % 64]=R:=by rw [hR,ko,E];rfl
    rw [E2] at hcv;have hb:=af (w:=w) (.cells #[.int .u8 (224+(c:Int) / 4096),.int .u8 (128+(c:Int) / 64 % 64),.int .u8 (128+(c:Int) % 64)] qX);have i3:(c:Int)<65536:=by omega
    have i0:(c:Int)<1114112:=by omega
    have i1:¬(c:Int)<128:=by omega
    have i2:¬(c:Int)<2048:=by omega
    clear hR E2 E hc h3 h1 h2;go_enter Tryz.func21,Tryz.ntmps21;go_wp2_with fail;go_ret;exact ⟨rfl,hb⟩
   ·have E:dQ c=[240+c / 262144,128+c / 4096 % 64,128+c / 64 % 64,128+c % 64]:=by unfold dQ;rw [if_neg h1,if_neg h2,if_neg h3]
    have hcv:=kE w #[.int .u8 (240+(c:Int) / 262144),.int .u8 (128+(c:Int) / 4096 % 64),.int .u8 (128+(c:Int) / 64 % 64),.int .u8 (128+(c:Int) % 64)] 4 [240+c / 262144,128+c / 4096 % 64,128+c / 64 % 64,128+c % 64] rfl (by simp [l_]) (fun d hd=>by simp only [List.mem_cons,List.not_mem_nil,or_false] at hd;omega);have E2:str [240+c / 262144,128+c / 4096 % 64,128+c / 64 % 64,128+c % 64]=R:=by rw [hR,ko,E];rfl
    rw [E2] at hcv;have hb:=af (w:=w) (.cells #[.int .u8 (240+(c:Int) / 262144),.int .u8 (128+(c:Int) / 4096 % 64),.int .u8 (128+(c:Int) / 64 % 64),.int .u8 (128+(c:Int) % 64)] qX);have i3:¬(c:Int)<65536:=by omega
    have i0:(c:Int)<1114112:=by omega
    have i1:¬(c:Int)<128:=by omega
    have i2:¬(c:Int)<2048:=by omega
    clear hR E2 E hc h3 h1 h2;go_enter Tryz.func21,Tryz.ntmps21;go_wp2_with fail;go_ret;exact ⟨rfl,hb⟩
theorem mg {w:World} {v:Value} {L:List Nat} (h:bB w v (ints L)) (hL:∀x∈L,x<1114112) (hl:L.length<1000000) :
 Calls Tryz.prog 7 #[v] w fun e w'=>e=.returned (.string (tx (dH L)))∧Below w.heap.size w w':=by
 obtain ⟨n,hn⟩:=ae L.length;obtain ⟨al,cl,rfl,_,hx⟩:=bB.kD h hn;have HN:=aa hn;have HX:=aa hx;have HL:=aa hL;have HS:=aa (show ∀j,(tx (dH (L.take j))).size≤4*j from fun j=>by rw [bC];have:=jo (L.take j);rw [List.length_take] at this;omega);have HC:=aa (show ∀c,(tx (ko c)).size≤4 from fun c=>by rw [bC,jl];exact (nH c).2);rw [←hn] at hl;clear h hx hn hL;go_enter Tryz.func7,Tryz.ntmps7;go_wp2_with fail;go_loopw [3,8] (fun sv iv wr=>∃j:Nat,j≤n∧iv=.int .i64 j∧sv=.string (tx (dH (L.take j)))∧Below w.heap.size w wr) (fun _ iv _=>n-(intOf iv).toNat)
 case atStart=>exact ⟨0,Nat.zero_le _,rfl,rfl,Below.refl _ _⟩
 case round=>
  obtain ⟨j,hj,rfl,rfl,hE⟩:=hrel;by_cases hjn:j<n
  ·have hjl:j<L.length:=by have:=HN.out;omega
   obtain ⟨b,off,rfl,hbs,hc⟩:=HX.out j hjl;have hc:=aA hE hc;have hx:=HL.out _ (List.getElem_mem hjl);have ES:=aa (show tx (dH (L.take j))++tx (ko L[j])=tx (dH (L.take (j+1))) by rw [gq,List.take_succ_eq_append_getElem hjl,wJ];simp [dH]);have s1:=HS.out j;have s2:=HC.out L[j];generalize L[j]=x at *;have B5:=aa (fun W=>DF (w:=W) x hx);generalize tx (ko x)=U at *;generalize tx (dH (L.take j))=S at *;have s3:¬9223372036854775807<(S.size:Int)+U.size:=by omega
   have s4:¬9223372036854775807<S.size+U.size:=by omega
   go_wp2_with fail;refine (B5.out _).mono ?_;rintro e w2 ⟨rfl,h2⟩;go_wp2;go_roundw
   case rel=>exact ⟨j+1,by omega,rfl,by rw [ES.out],ah hE h2⟩
   case measure=>simp [intOf];omega
  ·obtain rfl:j=n:=by omega
   rw [List.take_of_length_le (by rw [HN.out];exact Nat.le_refl _)];go_wp2;go_ret;exact ⟨rfl,hE⟩
structure dF (w:World):Prop where
 c0:w.cell? ⟨0,0,none⟩=some (.int .u8 0)
 c1:w.cell? ⟨0,1,none⟩=some (.int .u8 127)
 c2:w.cell? ⟨0,2,none⟩=some (.int .i32 0)
 c3:w.cell? ⟨0,3,none⟩=some (.int .u8 192)
 c4:w.cell? ⟨0,4,none⟩=some (.int .u8 31)
 c5:w.cell? ⟨0,5,none⟩=some (.int .i32 128)
 c6:w.cell? ⟨0,6,none⟩=some (.int .u8 224)
 c7:w.cell? ⟨0,7,none⟩=some (.int .u8 15)
 c8:w.cell? ⟨0,8,none⟩=some (.int .i32 2048)
 c9:w.cell? ⟨0,9,none⟩=some (.int .u8 240)
 c10:w.cell? ⟨0,10,none⟩=some (.int .u8 7)
 c11:w.cell? ⟨0,11,none⟩=some (.int .i32 65536)
theorem dF.mono {w w':World} (h:dF w) (hb:Below w.heap.size w w'):dF w':=
 ⟨aA hb h.c0,aA hb h.c1,aA hb h.c2,aA hb h.c3,aA hb h.c4,aA hb h.c5,aA hb h.c6,aA hb h.c7,aA hb h.c8,aA hb h.c9,aA hb h.c10,aA hb h.c11⟩
def nZ (b:Nat):Nat:=if b<128 then 1 else if 192≤b∧b<224 then 2 else if 224≤b∧b<240 then 3 else if 240≤b∧b<248 then 4 else 0
theorem Gc:∀b:Nat,b<256→(bits .andNot .u8 (b:Int) 127==0)=decide (nZ b=1)∧(bits .andNot .u8 (b:Int) 31==192)=decide (nZ b=2)∧(bits .andNot .u8 (b:Int) 15==224)=decide (nZ b=3)∧(bits .andNot .u8 (b:Int) 7==240)=decide (nZ b=4):=by decide
theorem Qz (b:Nat):nZ b≤4:=by
 unfold nZ
 repeat' split
 all_goals decide
theorem Mm (w:World):(Instr.index 210 (.agg #[.int .u8 0,.int .u8 127,.int .i32 0,.int .u8 192,.int .u8 31,.int .i32 128,.int .u8 224,.int .u8 15,.int .i32 2048,.int .u8 240,.int .u8 7,.int .i32 65536]) (.int .i64 0)).run Tryz.prog w=.ok (.agg #[.int .u8 0,.int .u8 127,.int .i32 0]) w:=by kernel_rfl
theorem Mo (w:World):(Instr.index 210 (.agg #[.int .u8 0,.int .u8 127,.int .i32 0,.int .u8 192,.int .u8 31,.int .i32 128,.int .u8 224,.int .u8 15,.int .i32 2048,.int .u8 240,.int .u8 7,.int .i32 65536]) (.int .i64 1)).run Tryz.prog w=.ok (.agg #[.int .u8 192,.int .u8 31,.int .i32 128]) w:=by kernel_rfl
theorem Mq (w:World):(Instr.index 210 (.agg #[.int .u8 0,.int .u8 127,.int .i32 0,.int .u8 192,.int .u8 31,.int .i32 128,.int .u8 224,.int .u8 15,.int .i32 2048,.int .u8 240,.int .u8 7,.int .i32 65536]) (.int .i64 2)).run Tryz.prog w=.ok (.agg #[.int .u8 224,.int .u8 15,.int .i32 2048]) w:=by kernel_rfl
theorem Mr (w:World):(Instr.index 210 (.agg #[.int .u8 0,.int .u8 127,.int .i32 0,.int .u8 192,.int .u8 31,.int .i32 128,.int .u8 224,.int .u8 15,.int .i32 2048,.int .u8 240,.int .u8 7,.int .i32 65536]) (.int .i64 3)).run Tryz.prog w=.ok (.agg #[.int .u8 240,.int .u8 7,.int .i32 65536]) w:=by kernel_rfl
theorem nJ {w:World} (hH:dF w) (b:Nat) (hb:b<256) :
 Calls Tryz.prog 103 #[.int .u8 b] w fun e w'=>e=.returned (.int .i64 (nZ b))∧Below w.heap.size w w':=by
 obtain ⟨f1,f2,f3,f4⟩:=Gc b hb;have hS:=Qz b;have H:=aa hH;obtain ⟨k0,k1,k2,k3,k4,k5,k6,k7,k8,k9,k10,k11⟩:=hH;obtain ⟨S,hSe⟩:=ae (nZ b);rw [←hSe] at f1 f2 f3 f4 hS ⊢;clear hSe;go_enter Tryz.func103,Tryz.ntmps103;go_wp2_with fail;clear k0 k1 k2 k3 k4 k5 k6 k7 k8 k9 k10 k11;go_loopw [6] (fun iv wr=>∃j:Nat,j≤4∧iv=.int .i64 j∧(S=0∨j<S)∧Below w.heap.size w wr) (fun iv _=>4-(intOf iv).toNat)
 case atStart=>exact ⟨0,by decide,rfl,by omega,Below.refl _ _⟩
 case round=>
  obtain ⟨j,hj,rfl,iQ,hE⟩:=hrel;have hj5:j=0∨j=1∨j=2∨j=3∨j=4:=by omega
  rcases hj5 with rfl|rfl|rfl|rfl|rfl
  ·by_cases h:S=1
   ·have z:(bits .andNot .u8 (b:Int) 127==0)=true:=by rw [f1,decide_eq_true h]
    have HS:=aa h;clear h f1 f2 f3 f4;have hx:=Mm wr;go_wp2;go_ret;exact ⟨by rw [HS.out];rfl,ah hE (af _)⟩
   ·have z:(bits .andNot .u8 (b:Int) 127==0)=false:=by rw [f1,decide_eq_false h]
    have HJ:=aa (show S=0∨1<S by omega);clear h f1 f2 f3 f4 iQ;have hx:=Mm wr;go_wp2;go_roundw
    case rel=>exact ⟨1,by decide,rfl,HJ.out,ah hE (af _)⟩
    case measure=>simp [intOf]
  ·by_cases h:S=2
   ·have z:(bits .andNot .u8 (b:Int) 31==192)=true:=by rw [f2,decide_eq_true h]
    have HS:=aa h;clear h f1 f2 f3 f4;have hx:=Mo wr;go_wp2;go_ret;exact ⟨by rw [HS.out];rfl,ah hE (af _)⟩
   ·have z:(bits .andNot .u8 (b:Int) 31==192)=false:=by rw [f2,decide_eq_false h]
    have HJ:=aa (show S=0∨2<S by omega);clear h f1 f2 f3 f4 iQ;have hx:=Mo wr;go_wp2;go_roundw
    case rel=>exact ⟨2,by decide,rfl,HJ.out,ah hE (af _)⟩
    case measure=>simp [intOf]
  ·by_cases h:S=3
   ·have z:(bits .andNot .u8 (b:Int) 15==224)=true:=by rw [f3,decide_eq_true h]
    have HS:=aa h;clear h f1 f2 f3 f4;have hx:=Mq wr;go_wp2;go_ret;exact ⟨by rw [HS.out];rfl,ah hE (af _)⟩
   ·have z:(bits .andNot .u8 (b:Int) 15==224)=false:=by rw [f3,decide_eq_false h]
    have HJ:=aa (show S=0∨3<S by omega);clear h f1 f2 f3 f4 iQ;have hx:=Mq wr;go_wp2;go_roundw
    case rel=>exact ⟨3,by decide,rfl,HJ.out,ah hE (af _)⟩
    case measure=>simp [intOf]
  ·by_cases h:S=4
   ·have z:(bits .andNot .u8 (b:Int) 7==240)=true:=by rw [f4,decide_eq_true h]
    have HS:=aa h;clear h f1 f2 f3 f4;have hx:=Mr wr;go_wp2;go_ret;exact ⟨by rw [HS.out];rfl,ah hE (af _)⟩
   ·have z:(bits .andNot .u8 (b:Int) 7==240)=false:=by rw [f4,decide_eq_false h]
    have HJ:=aa (show S=0∨4<S by omega);clear h f1 f2 f3 f4 iQ;have hx:=Mr wr;go_wp2;go_roundw
    case rel=>exact ⟨4,by decide,rfl,HJ.out,ah hE (af _)⟩
    case measure=>simp [intOf]
  ·have HS:=aa (show S=0 by omega);clear f1 f2 f3 f4 iQ hS;go_wp2;go_ret;exact ⟨by rw [HS.out];rfl,hE⟩
theorem wO {w:World} (hH:dF w) (c:Nat) (hc:aP c) :
 Calls Tryz.prog 104 #[.int .i32 c] w fun e w'=>e=.returned (.int .i64 (fq c))∧w'=w:=by
 have Qd:=hc.1;have IS:=aa (fun W=>iG (w:=W) c (by omega));simp only [decide_eq_true hc] at IS;obtain ⟨k0,k1,k2,k3,k4,k5,k6,k7,k8,k9,k10,k11⟩:=hH;have hW:=nH c;have h1:(c:Int)<128↔fq c≤1:=by unfold fq;(repeat' split) <;> omega
 have h2:(c:Int)<2048↔fq c≤2:=by unfold fq;(repeat' split) <;> omega
 have h3:(c:Int)<65536↔fq c≤3:=by unfold fq;(repeat' split) <;> omega
 obtain ⟨S,hSe⟩:=ae (fq c);rw [←hSe] at h1 h2 h3 hW ⊢;have H1:=aa h1;have H2:=aa h2;have H3:=aa h3;clear hSe hc h1 h2 h3 k0 k1 k2 k3 k4 k6 k7 k9 k10;go_enter Tryz.func104,Tryz.ntmps104;go_wp2_with fail;refine (IS.out _).mono ?_;rintro e w2 ⟨rfl,rfl⟩;go_wp2_with fail;go_loopw [3] (fun iv wr=>∃j:Nat,1≤j∧j≤S∧iv=.int .i64 j∧wr=w2) (fun iv _=>4-(intOf iv).toNat)
 case atStart=>exact ⟨1,by decide,hW.1,rfl,(by first|rfl|trivial)⟩
 case round=>
  obtain ⟨j,hj1,iQ,rfl,rfl⟩:=hrel;have hj5:j=1∨j=2∨j=3∨j=4:=by omega
  rcases hj5 with rfl|rfl|rfl|rfl
  ·by_cases h:S=1
   ·have z:¬(128:Int)≤(c:Int):=fun x=>by have:=H1.out.2 (by omega);omega
    have HS:=aa h;clear h iQ hW hj1 Qd;go_wp2;go_ret;exact ⟨by rw [HS.out];rfl,rfl⟩
   ·have z:(128:Int)≤(c:Int):=Int.not_lt.1 fun x=>by have:=H1.out.1 x;omega
    have HJ:=aa (show 2≤S by omega);clear h iQ hW hj1 Qd;go_wp2;go_roundw
    case rel=>exact ⟨2,by decide,HJ.out,rfl,(by first|rfl|trivial)⟩
    case measure=>simp [intOf]
  ·by_cases h:S=2
   ·have z:¬(2048:Int)≤(c:Int):=fun x=>by have:=H2.out.2 (by omega);omega
    have HS:=aa h;clear h iQ hW hj1 Qd;go_wp2;go_ret;exact ⟨by rw [HS.out];rfl,rfl⟩
   ·have z:(2048:Int)≤(c:Int):=Int.not_lt.1 fun x=>by have:=H2.out.1 x;omega
    have HJ:=aa (show 3≤S by omega);clear h iQ hW hj1 Qd;go_wp2;go_roundw
    case rel=>exact ⟨3,by decide,HJ.out,rfl,(by first|rfl|trivial)⟩
    case measure=>simp [intOf]
  ·by_cases h:S=3
   ·have z:¬(65536:Int)≤(c:Int):=fun x=>by have:=H3.out.2 (by omega);omega
    have HS:=aa h;clear h iQ hW hj1 Qd;go_wp2;go_ret;exact ⟨by rw [HS.out];rfl,rfl⟩
   ·have z:(65536:Int)≤(c:Int):=Int.not_lt.1 fun x=>by have:=H3.out.1 x;omega
    have HJ:=aa (show 4≤S by omega);clear h iQ hW hj1 Qd;go_wp2;go_roundw
    case rel=>exact ⟨4,by decide,HJ.out,rfl,(by first|rfl|trivial)⟩
    case measure=>simp [intOf]
  ·have HS:=aa (show S=4 by omega);clear iQ hW hj1;go_wp2;go_ret;exact ⟨by rw [HS.out];rfl,rfl⟩
end Go.Proofs.YtmpkfkoficehpaaGreatDoor
