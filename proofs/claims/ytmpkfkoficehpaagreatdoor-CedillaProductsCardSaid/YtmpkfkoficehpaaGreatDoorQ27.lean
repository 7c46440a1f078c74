/- CedillaProducts: where a text may be cut apart, it has as many texts that are alike as its two parts multiplied; no condition. -/
import Derived.Test.YtmpkfkoficehpaaGreatDoorQ24
import Derived.Test.YtmpkfkoficehpaaGreatDoorQ26
set_option maxRecDepth 100000
set_option maxHeartbeats 6400000
namespace Go.Proofs.YtmpkfkoficehpaaGreatDoor
open Go.RowKit Go.Cd
theorem Dg:∀(i c:Nat),qN (i+1) c=ll (c / 16 ^ i % 16)::qN i c
 | 0,c=>by simp [qN]
 | i+1,c=>by
   have h:=Dg i (c / 16);rw [Nat.div_div_eq_div_mul,show 16*16 ^ i=16 ^ (i+1) by rw [Nat.pow_succ,Nat.mul_comm]] at h;show qN (i+1) (c / 16)++[ll (c % 16)]=_;rw [h];rfl
theorem P7 {c i:Nat} (hc:c<1114112) (h4:4≤i) (h0:c / 16 ^ i=0) (hi:i≤4∨16 ^ (i-1)≤c):kF c=i:=by
 have hlt:c<16 ^ i:=by
  rcases Nat.div_eq_zero_iff.1 h0 with h|h
  ·exact absurd h (Nat.pos_iff_ne_zero.1 (Nat.pow_pos (by omega)))
  ·exact h
 have e4:(16:Nat) ^ 4=65536:=by decide
 have e5:(16:Nat) ^ 5=1048576:=by decide
 have e6:(16:Nat) ^ 6=16777216:=by decide
 unfold kF;rcases Nat.lt_or_ge i 7 with h7|h7
 ·have:i=4∨i=5∨i=6:=by omega
  rcases this with rfl|rfl|rfl
  ·rw [if_pos (by omega)]
  ·rw [if_neg (by rcases hi with h|h <;> simp at h ⊢ <;> omega),if_pos (by omega)]
  ·rw [if_neg (by rcases hi with h|h <;> simp at h ⊢ <;> omega),if_neg (by rcases hi with h|h <;> simp at h ⊢ <;> omega)]
 ·rcases hi with h|h
  ·omega
  ·have:(16:Nat) ^ 6≤16 ^ (i-1):=Nat.pow_le_pow_right (by decide) (by omega);omega
theorem kW {w:World} (c:Nat) (hc:c<1114112) :
 Calls Tryz.prog 59 #[.int .i64 c] w fun e w'=>e=.returned (.string (tx (bI c)))∧Below w.heap.size w w':=by
 have HZ:=aa (show ∀i,(tx (qN i c)).size=i from fun i=>by rw [bC,aaa]);have HD:=aa (show ∀i,c / 16 ^ (i+1)=c / 16 ^ i / 16 from fun i=>by rw [Nat.div_div_eq_div_mul,Nat.pow_succ]);have HS:=aa (show ∀i,tx (qN (i+1) c)=tx [ll (c / 16 ^ i % 16)]++tx (qN i c) from fun i=>by rw [gq,Dg];rfl);have HE:=aa (show ∀i,4≤i→c / 16 ^ i=0→(i≤4∨16 ^ (i-1)≤c)→tx (qN i c)=tx (bI c) from fun i h4 h0 hi=>by unfold bI;rw [P7 hc h4 h0 hi]);have HP:=aa (show ∀i,0<c / 16 ^ i→16 ^ i≤c from fun i h=>Nat.le_of_not_lt fun h1=>by rw [Nat.div_eq_of_lt h1] at h;omega)
 have H7:=aa (show ∀i,(i≤4∨16 ^ (i-1)≤c)→i≤6 from fun i h=>by
  rcases h with h|h
  ·omega
  ·refine Nat.le_of_not_lt fun h1=>?_;have:(16:Nat) ^ 6≤16 ^ (i-1):=Nat.pow_le_pow_right (by decide) (by omega);have e6:(16:Nat) ^ 6=16777216:=by decide
   omega)
 have HL:=aa (show ∀i,c / 16 ^ i<1114112 from fun i=>Nat.lt_of_le_of_lt (Nat.div_le_self _ _) hc);go_enter Tryz.func59,Tryz.ntmps59;go_wp2_with fail;go_loopw [0,3,4] (fun nv sv iv wr=>∃i:Nat,i≤6∧(i≤4∨16 ^ (i-1)≤c)∧nv=.int .i64 ((c / 16 ^ i:Nat):Int)∧sv=.string (tx (qN i c))∧iv=.int .i64 i∧Below w.heap.size w wr) (fun _ _ iv _=>7-(intOf iv).toNat)
 case atStart=>exact ⟨0,by decide,.inl (by decide),by simp,rfl,rfl,Below.refl _ _⟩
 case round=>
  obtain ⟨i,UX,hi4,rfl,rfl,rfl,hE⟩:=hrel;have HI:=aa hi4;have hz:=HZ.out i;have hd:=aa (HD.out i);have hs:=aa (HS.out i);have hp:=aa (HP.out i);have he:=aa (HE.out i);have hl:=HL.out i;have h7:=aa (H7.out (i+1));clear hi4;generalize hN:c / 16 ^ i=N at *;generalize tx (qN i c)=S at *;clear hN;by_cases hgo:i<4∨0<N
  ·have Ui:i+1≤4∨16 ^ (i+1-1)≤c:=by
    rcases hgo with h|h
    ·exact .inl h
    ·exact .inr (hp.out h)
   have Ma:i+1≤6:=h7.out Ui;have ZG:=aa Ui;clear Ui;by_cases adi:N % 16<10
   ·have hcv:=kE wr #[.int .u8 (48+(N:Int) % 16)] 1 [48+N % 16] rfl (by simp [l_]) (fun d hd=>by rw [List.mem_singleton.1 hd];omega);have E2:str [48+N % 16]=tx [ll (N % 16)]:=by rw [JY];unfold ll;rw [if_pos adi];rfl
    rw [E2] at hcv;have sz:(tx [ll (N % 16)]).size=1:=by rw [bC];rfl
    have hb:=af (w:=wr) (.cells #[.int .u8 (48+(N:Int) % 16)] qX);generalize tx [ll (N % 16)]=D at *;by_cases hi3:i<4
    ·clear hgo;go_wp2;go_roundw
     case rel=>exact ⟨i+1,Ma,ZG.out,by rw [hd.out];simp,by rw [hs.out],rfl,ah hE hb⟩
     case measure=>simp [intOf];omega
    ·have hN0:0<N:=by omega
     clear hgo;go_wp2;go_roundw
     case rel=>exact ⟨i+1,Ma,ZG.out,by rw [hd.out];simp,by rw [hs.out],rfl,ah hE hb⟩
     case measure=>simp [intOf];omega
   ·have hcv:=kE wr #[.int .u8 (55+(N:Int) % 16)] 1 [55+N % 16] rfl (by simp [l_]) (fun d hd=>by rw [List.mem_singleton.1 hd];omega);have E2:str [55+N % 16]=tx [ll (N % 16)]:=by rw [JY];unfold ll;rw [if_neg adi];rfl
    rw [E2] at hcv;have sz:(tx [ll (N % 16)]).size=1:=by rw [bC];rfl
    have hb:=af (w:=wr) (.cells #[.int .u8 (55+(N:Int) % 16)] qX);generalize tx [ll (N % 16)]=D at *;by_cases hi3:i<4
    ·clear hgo;go_wp2;go_roundw
     case rel=>exact ⟨i+1,Ma,ZG.out,by rw [hd.out];simp,by rw [hs.out],rfl,ah hE hb⟩
     case measure=>simp [intOf];omega
    ·have hN0:0<N:=by omega
     clear hgo;go_wp2;go_roundw
     case rel=>exact ⟨i+1,Ma,ZG.out,by rw [hd.out];simp,by rw [hs.out],rfl,ah hE hb⟩
     case measure=>simp [intOf];omega
  ·obtain rfl:N=0:=by omega
   have E:=he.out (by omega) rfl HI.out;have hi3:¬i<4:=by omega
   clear hgo;go_wp2;go_ret;exact ⟨rfl,hE⟩
def wG:Nat→Nat→List UInt8
 | 0,_=>[]
 | i+1,n=>UInt8.ofNat (48+n / 10 ^ i % 10)::wG i n
theorem JA:∀i n,(wG i n).length=i
 | 0,_=>rfl
 | i+1,n=>by simp [wG,JA i]
theorem WN {n i:Nat} (hn:n<1000) (h1:1≤i) (h0:n / 10 ^ i=0) (hi:i≤1∨10 ^ (i-1)≤n):wG i n=iR n:=by
 have hlt:n<10 ^ i:=by
  rcases Nat.div_eq_zero_iff.1 h0 with h|h
  ·exact absurd h (Nat.pos_iff_ne_zero.1 (Nat.pow_pos (by omega)))
  ·exact h
 unfold iR;rcases Nat.lt_or_ge i 4 with h7|h7
 ·have:i=1∨i=2∨i=3:=by omega
  rcases this with rfl|rfl|rfl
  ·simp at hlt;rw [if_pos hlt];simp [wG,Nat.mod_eq_of_lt hlt]
  ·simp at hlt hi;rw [if_neg (by omega),if_pos hlt];simp [wG,show n / 10 % 10=n / 10 by omega]
  ·simp at hlt hi;rw [if_neg (by omega),if_neg (by omega)];simp [wG,show n / 100 % 10=n / 100 by omega]
 ·rcases hi with h|h
  ·omega
  ·have:(10:Nat) ^ 3≤10 ^ (i-1):=Nat.pow_le_pow_right (by decide) (by omega);omega
theorem Br {w:World} (c:Nat) (hc:c<1000) :
 Calls Tryz.prog 128 #[.int .i64 c] w fun e w'=>e=.returned (.string (tx (iR c)))∧Below w.heap.size w w':=by
 have HZ:=aa (show ∀i,(tx (wG i c)).size=i from fun i=>by rw [bC,JA]);have HD:=aa (show ∀i,c / 10 ^ (i+1)=c / 10 ^ i / 10 from fun i=>by rw [Nat.div_div_eq_div_mul,Nat.pow_succ]);have HS:=aa (show ∀i,tx (wG (i+1) c)=tx [UInt8.ofNat (48+c / 10 ^ i % 10)]++tx (wG i c) from fun i=>by rw [gq];rfl);have HE:=aa (show ∀i,1≤i→c / 10 ^ i=0→(i≤1∨10 ^ (i-1)≤c)→tx (wG i c)=tx (iR c) from fun i h4 h0 hi=>by rw [WN hc h4 h0 hi]);have HP:=aa (show ∀i,0<c / 10 ^ i→10 ^ i≤c from fun i h=>Nat.le_of_not_lt fun h1=>by rw [Nat.div_eq_of_lt h1] at h;omega)
 have H7:=aa (show ∀i,(i≤1∨10 ^ (i-1)≤c)→i≤3 from fun i h=>by
  rcases h with h|h
  ·omega
  ·refine Nat.le_of_not_lt fun h1=>?_;have:(10:Nat) ^ 3≤10 ^ (i-1):=Nat.pow_le_pow_right (by decide) (by omega)
   omega)
 have HL:=aa (show ∀i,c / 10 ^ i<1000 from fun i=>Nat.lt_of_le_of_lt (Nat.div_le_self _ _) hc);go_enter Tryz.func128,Tryz.ntmps128;go_wp2_with fail;go_loopw [0,3,4] (fun nv sv iv wr=>∃i:Nat,i≤3∧(i≤1∨10 ^ (i-1)≤c)∧nv=.int .i64 ((c / 10 ^ i:Nat):Int)∧sv=.string (tx (wG i c))∧iv=.int .i64 i∧Below w.heap.size w wr) (fun _ _ iv _=>4-(intOf iv).toNat)
 case atStart=>exact ⟨0,by decide,.inl (by decide),by simp,rfl,rfl,Below.refl _ _⟩
 case round=>
  obtain ⟨i,UX,hi4,rfl,rfl,rfl,hE⟩:=hrel;have HI:=aa hi4;have hz:=HZ.out i;have hd:=aa (HD.out i);have hs:=aa (HS.out i);have hp:=aa (HP.out i);have he:=aa (HE.out i);have hl:=HL.out i;have h7:=aa (H7.out (i+1));clear hi4;generalize hN:c / 10 ^ i=N at *;generalize tx (wG i c)=S at *;clear hN;by_cases hgo:i=0∨0<N
  ·have Ui:i+1≤1∨10 ^ (i+1-1)≤c:=by
    rcases hgo with h|h
    ·exact .inl (by omega)
    ·exact .inr (hp.out h)
   have Ma:i+1≤3:=h7.out Ui;have ZG:=aa Ui;clear Ui;have hcv:=kE wr #[.int .u8 (48+(N:Int) % 10)] 1 [48+N % 10] rfl (by simp [l_]) (fun d hd=>by rw [List.mem_singleton.1 hd];omega);have E2:str [48+N % 10]=tx [UInt8.ofNat (48+N % 10)]:=rfl;rw [E2] at hcv;have sz:(tx [UInt8.ofNat (48+N % 10)]).size=1:=by rw [bC];rfl
   have hb:=af (w:=wr) (.cells #[.int .u8 (48+(N:Int) % 10)] qX);generalize tx [UInt8.ofNat (48+N % 10)]=D at *;by_cases hi3:i=0
   ·have z:((i:Int)==0)=true:=by simp;omega
    clear hgo;go_wp2;go_roundw
    case rel=>exact ⟨i+1,Ma,ZG.out,by rw [hd.out];simp,by rw [hs.out],by (first|rfl|(subst hi3;rfl)),ah hE hb⟩
    case measure=>simp [intOf];omega
   ·have hN0:0<N:=by omega
    have z:((i:Int)==0)=false:=by simp;omega
    clear hgo;go_wp2;go_roundw
    case rel=>exact ⟨i+1,Ma,ZG.out,by rw [hd.out];simp,by rw [hs.out],rfl,ah hE hb⟩
    case measure=>simp [intOf];omega
  ·obtain rfl:N=0:=by omega
   have E:=he.out (by omega) rfl HI.out;have z:((i:Int)==0)=false:=by simp;omega
   clear hgo;go_wp2;go_ret;exact ⟨rfl,hE⟩
theorem Dh:∀(l:List Nat) (c:Nat),dI (l++[c])=if l=[] then bI c else dI l++32::bI c
 | [],c=>rfl
 | [a],c=>rfl
 | a::b::l,c=>by
   have ih:=Dh (b::l) c;rw [if_neg (by simp)] at ih ⊢;show bI a++32::dI (b::l++[c])=bI a++32::dI (b::l)++32::bI c;rw [ih];simp
theorem xz:∀l:List Nat,(dI l).length≤7*l.length
 | []=>by simp [dI]
 | [c]=>by have:=bW c;simp only [dI,List.length_singleton];omega
 | c::d::l=>by
   have:=bW c;have ih:=xz (d::l);simp only [dI,List.length_append,List.length_cons] at ih ⊢;omega
theorem WO (a b c:List UInt8):tx a++tx b++tx c=tx (a++b++c):=by rw [gq,gq]
theorem JB {w:World} {m:Value} (r:aH) (hm:bB w m (ints r.map)) (hc:r.code<1114112) (hcl:r.cls<1000) (kX:r.map.length≤4) (hx:∀x∈r.map,x<1114112) :
 Calls Tryz.prog 92 #[.agg #[.int .i64 r.code,.int .i64 r.cls,m]] w fun e w'=>e=.returned (.string (tx (dh r)))∧Below w.heap.size w w':=by
 obtain ⟨n,hn⟩:=ae r.map.length;obtain ⟨am,cm,rfl,_,hxm⟩:=bB.kD hm hn;have PS:=aa hxm;have HN:=aa hn;have HX:=aa hx;have HT:=aa (fun (W:World) (x:Nat) (h:x<1114112)=>kW (w:=W) x h);have HD:=aa (fun (W:World)=>Br (w:=W) r.cls hcl);have HT0:=aa (fun (W:World)=>kW (w:=W) r.code hc);have HS:=aa (show ∀j,(tx (dI (r.map.take j))).size≤7*j from fun j=>by rw [bC];have:=xz (r.map.take j);rw [List.length_take] at this;omega);have HH:=aa (show ∀c,(tx (bI c)).size≤6 from fun c=>by rw [bC];exact (bW c).2);have HDd:=aa (show (tx (iR r.cls)).size≤3 from by rw [bC];exact (yJ r.cls).2)
 have HL:=aa (show tx (bI r.code)++tx [59,88,59,59]++tx (iR r.cls)++tx [59,59]++tx (dI r.map)++tx [59,59,59,59,59,59,59,59,59]=tx (dh r) from by
  unfold dh;rw [gq,gq,gq,gq,gq])
 obtain ⟨code,hcode⟩:∃c:Nat,c=r.code:=⟨_,rfl⟩;obtain ⟨cls,hcls⟩:∃c:Nat,c=r.cls:=⟨_,rfl⟩;rw [←hn] at kX;rw [←hcode,←hcls];rw [←hcode] at HT0;rw [←hcls] at HD;obtain ⟨W0,hW⟩:=ae (w.alloc (.cells #[.int .i64 code,.int .i64 cls,.slice am n cm] eP));have hb:Below w.heap.size w W0:=by rw [hW];exact af _
 have d0:W0.cell? ⟨w.heap.size,0,none⟩=some (.int .i64 code):=by rw [hW];unfold World.cell?;rw [heap_alloc_new];rfl
 have d1:W0.cell? ⟨w.heap.size,1,none⟩=some (.int .i64 cls):=by rw [hW];unfold World.cell?;rw [heap_alloc_new];rfl
 have d2:W0.cell? ⟨w.heap.size,2,none⟩=some (.slice am n cm):=by rw [hW];unfold World.cell?;rw [heap_alloc_new];rfl
 have HC:=aa hcode;have Xk:=aa hcls;clear hm hxm hn hx hc hcl hcode hcls;go_enter Tryz.func92,Tryz.ntmps92;go_wp2_with fail;rw [←hW];clear hW;go_wp2_with fail;go_loopw [3,9] (fun sv iv wr=>∃j:Nat,j≤n∧iv=.int .i64 j∧sv=.string (tx (dI (r.map.take j)))∧Below W0.heap.size W0 wr) (fun _ iv _=>n-(intOf iv).toNat)
 case atStart=>exact ⟨0,Nat.zero_le _,rfl,rfl,Below.refl _ _⟩
 case round=>
  obtain ⟨j,hj,rfl,rfl,hE⟩:=hrel;have fo:=hb.trans (hE.mono hb.size);by_cases hjn:j<n
  ·have hjl:j<r.map.length:=by have:=HN.out;omega
   obtain ⟨b,off,rfl,hbs,hc⟩:=PS.out j hjl;have hc:=aA fo hc;have hx:=HX.out _ (List.getElem_mem hjl);have ES:=aa (show dI (r.map.take (j+1))=if r.map.take j=[] then bI r.map[j] else dI (r.map.take j)++32::bI r.map[j] by rw [List.take_succ_eq_append_getElem hjl,Dh]);have s1:=HS.out j;have s2:=HH.out r.map[j];generalize r.map[j]=x at *;have lD:=aa (fun (W:World)=>HT.out W x hx);by_cases hj0:j=0
   ·have E0:=aa (show tx ([]:List UInt8)++tx (bI x)=tx (dI (r.map.take (j+1))) by rw [ES.out,if_pos (by rw [hj0];rfl),gq];rfl);have E1:dI (r.map.take j)=[]:=by rw [hj0];rfl
    rw [E1] at s1 ⊢;generalize tx (bI x)=U at *;have z1:(tx ([]:List UInt8)).size=0:=rfl;generalize tx ([]:List UInt8)=S at *;have j0:¬0<j:=by omega
    clear ES E1 hx hj0;go_wp2_with fail;refine (lD.out _).mono ?_;rintro e w2 ⟨rfl,h2⟩;go_wp2;go_roundw
    case rel=>exact ⟨j+1,by omega,rfl,congrArg Value.string E0.out,ah hE h2⟩
    case measure=>simp [intOf];omega
   ·have E0:=aa (show tx (dI (r.map.take j))++tx [32]++tx (bI x)=tx (dI (r.map.take (j+1))) by
     rw [ES.out,if_neg (fun h=>by have:=congrArg List.length h;rw [List.length_take,List.length_nil] at this;omega),WO];simp)
    generalize tx (bI x)=U at *;generalize tx (dI (r.map.take j))=S at *;have j0:0<j:=by omega
    have z0:(tx [32]).size=1:=rfl;have z1:(S++tx [32]).size=S.size+1:=by rw [ByteArray.size_append];rfl
    clear ES hx;go_wp2_with fail;refine (lD.out _).mono ?_;rintro e w2 ⟨rfl,h2⟩;go_wp2;go_roundw
    case rel=>exact ⟨j+1,by omega,rfl,congrArg Value.string E0.out,ah hE h2⟩
    case measure=>simp [intOf];omega
  ·obtain rfl:j=n:=by omega
   have sm:=HS.out j;rw [List.take_of_length_le (by rw [HN.out];exact Nat.le_refl _)] at sm ⊢;have e0:=aA hE d0;have e1:=aA hE d1;have g0:=Gr.cell (ag wr) e0;have g1:=Gr.cell (ag wr) e1;have sh:=HH.out code;have sd:=HDd.out;rw [←Xk.out] at sd;have HLL:=aa (show tx (bI code)++tx [59,88,59,59]++tx (iR cls)++tx [59,59]++tx (dI r.map)++tx [59,59,59,59,59,59,59,59,59]=tx (dh r) by rw [HC.out,Xk.out];exact HL.out);generalize tx (bI code)=U at *;generalize tx (iR cls)=D at *;generalize tx (dI r.map)=M at *;have q1:¬9223372036854775807<U.size+4:=by omega
   have q2:¬9223372036854775807<U.size+4+D.size:=by omega
   have q3:¬9223372036854775807<U.size+4+D.size+2:=by omega
   have q4:¬9223372036854775807<U.size+4+D.size+2+M.size:=by omega
   have q5:¬9223372036854775807<U.size+4+D.size+2+M.size+9:=by omega
   go_wp2_with fail;refine aF (Array.replicate 13 true) 13 0 mixed (by rfl) ?_;refine ay [0,1,4,5,9] 8 rfl (by kernel_rfl) ?_
   iterate 5 (refine aB rfl ?_;go_big_quiet_step (rfl))
   refine az ?_;refine aI 2 (by kernel_rfl) rfl ?_;go_wp2_with fail;refine (HT0.out _).mono ?_;rintro e k1w ⟨rfl,OW⟩;go_wp2_with fail;refine aD OW ?_;refine ay [3] 6 rfl (by kernel_rfl) ?_
   iterate 1 (refine aB rfl ?_;go_big_quiet_step (rfl))
   refine az ?_;refine aI 6 (by kernel_rfl) rfl ?_;go_wp2_with fail;refine (HD.out _).mono ?_;rintro e KS ⟨rfl,CQ⟩;go_wp2_with fail;refine aD CQ ?_;refine ay [7,8,10,11,12] 0 rfl (by kernel_rfl) ?_
   iterate 5 (refine aB rfl ?_;go_big_quiet_step (rfl))
   refine az ?_;refine aJ [] (by kernel_rfl) ?_;refine tail_nil ?_;go_wp2;go_ret;exact ⟨congrArg (fun x=>Ending.returned (.string x)) HLL.out,fo.trans ((ah (ah (ag wr) OW) CQ).mono fo.size)⟩
theorem xA (l:List (List UInt8)) (x:List UInt8):bS (l++[x])=bS l++(x++[10]):=by simp [bS]
theorem Fp {T:List aH} (h:∀r∈T,r.map.length≤2):(gp T).length≤38*T.length:=by
 induction T with
 | nil=>simp [gp,bS]
 | cons r T ih=>
   have h1:=qw (h r (List.mem_cons_self ..));have h2:=ih fun q hq=>h q (List.mem_cons_of_mem _ hq);simp only [gp,bS,List.map_cons,List.flatMap_cons,List.length_append,List.length_cons,List.length_nil] at h2 ⊢;omega
theorem JC {w:World} {v:Value} {T:List aH} (h:wM w v T) (hT:∀r∈T,r.code<1114112∧r.cls<1000∧r.map.length≤2∧∀x∈r.map,x<1114112) (hl:T.length<1000000) :
 Calls Tryz.prog 60 #[v] w fun e w'=>e=.returned (.string (tx (gp T)))∧Below w.heap.size w w':=by
 obtain ⟨a,cap,rfl,_,hx⟩:=h;obtain ⟨n,hn⟩:=ae T.length;rw [←hn] at hl ⊢;have HN:=aa hn;have HX:=aa hx;have Pf:=aa hT;have HS:=aa (show ∀j,(tx (gp (T.take j))).size≤38*j from fun j=>by rw [bC];have:=Fp (T:=T.take j) (fun r hr=>(hT r (List.mem_of_mem_take hr)).2.2.1);rw [List.length_take] at this;omega);clear hx hn hT;go_enter Tryz.func60,Tryz.ntmps60;go_wp2_with fail;go_loopw [3,8] (fun sv iv wr=>∃j:Nat,j≤n∧iv=.int .i64 j∧sv=.string (tx (gp (T.take j)))∧Below w.heap.size w wr) (fun _ iv _=>n-(intOf iv).toNat)
 case atStart=>exact ⟨0,Nat.zero_le _,rfl,rfl,Below.refl _ _⟩
 case round=>
  obtain ⟨j,hj,rfl,rfl,hE⟩:=hrel;by_cases hjn:j<n
  ·have hjl:j<T.length:=by have:=HN.out;omega
   obtain ⟨b,off,m,rfl,hbs,c0,c1,c2,hm⟩:=HX.out j hjl;have c0:=aA hE c0;have c1:=aA hE c1;have c2:=aA hE c2;have hm:=hm.mono hE;obtain ⟨h1,h2,h3,h4⟩:=Pf.out _ (List.getElem_mem hjl)
   have ES:=aa (show tx (gp (T.take j))++(tx (dh T[j])++tx [10])=tx (gp (T.take (j+1))) by
    rw [gq,gq,List.take_succ_eq_append_getElem hjl];unfold gp;rw [List.map_append,List.map_singleton,xA])
   have s1:=HS.out j;have s2:(tx (dh T[j])).size≤37:=by rw [bC];exact qw h3
   generalize T[j]=q at *;have LI:=aa (fun (W:World) (E:Below wr.heap.size wr W)=>JB (w:=W) q (hm.mono E) h1 h2 (by omega) h4);obtain ⟨nm,hnm⟩:=ae q.map.length;obtain ⟨am,cm,rfl,_,_⟩:=bB.kD hm hnm;generalize tx (dh q)=U at *;generalize tx (gp (T.take j))=S at *;have q1:¬9223372036854775807<U.size+1:=by omega
   have q2:¬9223372036854775807<S.size+(U.size+1):=by omega
   have hb:=af (w:=wr) (.cells #[.int .i64 q.code,.int .i64 q.cls,.slice am nm cm] eP);clear hm hnm h4;go_wp2_with fail;refine (LI.out _ hb).mono ?_;rintro e w2 ⟨rfl,h2⟩;go_wp2;go_roundw
   case rel=>exact ⟨j+1,by omega,rfl,congrArg Value.string ES.out,ah hE (ah hb h2)⟩
   case measure=>simp [intOf];omega
  ·obtain rfl:j=n:=by omega
   rw [List.take_of_length_le (by rw [HN.out];exact Nat.le_refl _)];go_wp2;go_ret;exact ⟨rfl,hE⟩
theorem Ak:∀(l s:List Nat) (c:Nat),dS s (l++[c])=if c∈s++l then dS s l else dS s l++[c]
 | [],s,c=>by
   by_cases h:c∈s
   ·simp [dS,h]
   ·simp [dS,h]
 | a::l,s,c=>by
   have ih:=Ak l (s++[a]) c;have e:c∈s++[a]++l↔c∈s++a::l:=by simp
   show (if a∈s then dS (s++[a]) (l++[c]) else a::dS (s++[a]) (l++[c]))=_;show _=if c∈s++a::l then (if a∈s then dS (s++[a]) l else a::dS (s++[a]) l) else (if a∈s then dS (s++[a]) l else a::dS (s++[a]) l)++[c];rw [ih];by_cases h:c∈s++a::l
   ·rw [if_pos (e.2 h),if_pos h]
   ·rw [if_neg (fun x=>h (e.1 x)),if_neg h]
    split <;> rfl
theorem Di:∀(l s:List Nat),(dS s l).length≤l.length
 | [],_=>Nat.le_refl _
 | a::l,s=>by
   have:=Di l (s++[a]);unfold dS
   split
   ·simp only [List.length_cons];omega
   ·simp only [List.length_cons];omega
theorem Fq (X:List Nat):(fK X).length≤7*X.length:=by
 have h:∀l:List Nat,(bS (l.map bI)).length≤7*l.length:=by
  intro l
  induction l with
  | nil=>simp [bS]
  | cons c l ih=>
    have:=bW c;simp only [bS,List.map_cons,List.flatMap_cons,List.length_append,List.length_cons,List.length_nil] at ih ⊢;omega
 have h1:=h (dS [] X);have h2:=Di X [];unfold fK;omega
theorem Mc (l:List Nat) (c:Nat):fK (l++[c])=if c∈l then fK l else fK l++(bI c++[10]):=by
 unfold fK;rw [Ak,List.nil_append]
 split
 ·rfl
 ·rw [List.map_append,List.map_singleton,xA]
theorem TI {w:World} {v:Value} {T:List aH} {X:List Nat} (h:iV w v T X) (hT:∀r∈T,r.code<1114112∧r.cls<1000∧r.map.length≤2∧∀x∈r.map,x<1114112) (hl:T.length<1000000) (hX:∀x∈X,x<1114112) (Xh:X.length<1000000) :
 Calls Tryz.prog 34 #[v] w fun e w'=>e=.returned (.tuple #[.string (tx (gp T)),.string (tx (fK X))])∧Below w.heap.size w w':=by
 obtain ⟨r,x,rfl,hr,hx⟩:=h;have HR:=aa hr;obtain ⟨a,cap,rfl,_,_⟩:=hr;obtain ⟨nt,hnt⟩:∃n,n=T.length:=⟨_,rfl⟩;rw [←hnt] at HR ⊢;obtain ⟨n,hn⟩:=ae X.length;obtain ⟨ax,cx,rfl,hcx,vL⟩:=bB.kD hx hn;have HN:=aa hn;have HX:=aa vL;have HXC:=aa hX;have TX:=aa (fun (W:World) (E:Below w.heap.size w W)=>JC (HR.out.mono E) hT hl);have HT:=aa (fun (W:World) (x:Nat) (h:x<1114112)=>kW (w:=W) x h);have HS:=aa (show ∀j,(tx (fK (X.take j))).size≤7*j from fun j=>by rw [bC];have:=Fq (X.take j);rw [List.length_take] at this;omega);have HH:=aa (show ∀c,(tx (bI c)).size≤6 from fun c=>by rw [bC];exact (bW c).2);obtain ⟨W0,hW⟩:=ae (w.alloc (.cells #[.slice a nt cap,.slice ax n cx] 25));have hb:Below w.heap.size w W0:=by rw [hW];exact af _
 have d0:W0.cell? ⟨w.heap.size,0,none⟩=some (.slice a nt cap):=by rw [hW];unfold World.cell?;rw [heap_alloc_new];rfl
 have d1:W0.cell? ⟨w.heap.size,1,none⟩=some (.slice ax n cx):=by rw [hW];unfold World.cell?;rw [heap_alloc_new];rfl
 rw [←hn] at Xh;clear hx vL hn hT hX hnt hl;go_enter Tryz.func34,Tryz.ntmps34;go_wp2_with fail;rw [←hW];clear hW;go_wp2_with fail;go_loopw [4,13] (fun sv iv wr=>∃j:Nat,j≤n∧iv=.int .i64 j∧sv=.string (tx (fK (X.take j)))∧Below W0.heap.size W0 wr) (fun _ iv _=>n-(intOf iv).toNat)
 case atStart=>exact ⟨0,Nat.zero_le _,rfl,rfl,Below.refl _ _⟩
 case round=>
  obtain ⟨j,hj,rfl,rfl,hE⟩:=hrel;have fo:=hb.trans (hE.mono hb.size);have e1:=aA hE d1;by_cases hjn:j<n
  ·have hjl:j<X.length:=by have:=HN.out;omega
   obtain ⟨b,off,rfl,hbs,hc⟩:=HX.out j hjl;have hc:=aA fo hc;have hx:=HXC.out _ (List.getElem_mem hjl);have ES:=aa (show fK (X.take (j+1))=if X[j]∈X.take j then fK (X.take j) else fK (X.take j)++(bI X[j]++[10]) by rw [List.take_succ_eq_append_getElem hjl,Mc]);have s1:=HS.out j;have s2:=HH.out X[j];generalize X[j]=x at *;have lD:=aa (fun (W:World)=>HT.out W x hx);obtain ⟨wo,jQ⟩:∃w',w'=wr:=⟨_,rfl⟩;subst jQ;clear hx;go_wp2_with fail;go_loopw [7,23] (fun dv kv w2=>∃(k:Nat) (d:Bool),k≤j∧kv=.int .i64 k∧dv=.bool d∧(d=true↔x∈X.take k)∧w2=wo) (fun _ kv _=>j-(intOf kv).toNat)
   case atStart=>exact ⟨0,false,Nat.zero_le _,rfl,rfl,by simp,(by first|rfl|trivial)⟩
   case round=>
    obtain ⟨k,d,hk,rfl,rfl,hd,rfl⟩:=hrel;have HD:=aa hd;clear hd;by_cases hkj:k<j
    ·have hkl:k<X.length:=by have:=HN.out;omega
     obtain ⟨b2,II,eb,_,hz⟩:=HX.out k hkl;simp only [Option.some.injEq,Addr.mk.injEq,and_true] at eb;obtain ⟨rfl,rfl⟩:=eb;have hz:=aA fo hz;have EK:=aa (show x∈X.take (k+1)↔x∈X.take k∨x=X[k] by rw [List.take_succ_eq_append_getElem hkl,List.mem_append,List.mem_singleton]);generalize X[k]=y at *;cases d with
     | true=>
       go_wp2;go_roundw
       case rel=>exact ⟨k+1,true,by omega,rfl,rfl,by rw [EK.out];simp [HD.out.1 rfl],(by first|rfl|trivial)⟩
       case measure=>simp [intOf];omega
     | false=>
       by_cases hxy:y=x
       ·have z:((y:Int)==(x:Int))=true:=by simp;omega
        have TZ:=aa hxy;clear hxy;go_wp2;go_roundw
        case rel=>exact ⟨k+1,true,by omega,rfl,rfl,by rw [EK.out];simp [TZ.out],(by first|rfl|trivial)⟩
        case measure=>simp [intOf];omega
       ·have z:((y:Int)==(x:Int))=false:=by simp;omega
        have TZ:=aa hxy;clear hxy;go_wp2;go_roundw
        case rel=>exact ⟨k+1,false,by omega,rfl,rfl,by rw [EK.out,←HD.out];simp;exact fun e=>TZ.out e.symm,(by first|rfl|trivial)⟩
        case measure=>simp [intOf];omega
    ·obtain rfl:j=k:=by omega
     cases d with
     | true=>
       have E0:=aa (show tx (fK (X.take j))=tx (fK (X.take (j+1))) by rw [ES.out,if_pos (HD.out.1 rfl)]);generalize tx (fK (X.take j))=S at *;clear ES;go_wp2;go_roundw
       case rel=>exact ⟨j+1,by omega,rfl,congrArg Value.string E0.out,hE⟩
       case measure=>simp [intOf];omega
     | false=>
       have E0:=aa (show tx (fK (X.take j))++(tx (bI x)++tx [10])=tx (fK (X.take (j+1))) by rw [ES.out,if_neg (fun h=>by have:=HD.out.2 h;cases this),gq,gq]);generalize tx (fK (X.take j))=S at *;generalize tx (bI x)=U at *;have q1:¬9223372036854775807<U.size+1:=by omega
       have q2:¬9223372036854775807<S.size+(U.size+1):=by omega
       clear ES;go_wp2_with fail;refine (lD.out _).mono ?_;rintro e w3 ⟨rfl,h3⟩;go_wp2;go_roundw
       case rel=>exact ⟨j+1,by omega,rfl,congrArg Value.string E0.out,ah hE h3⟩
       case measure=>simp [intOf];omega
  ·obtain rfl:n=j:=by omega
   rw [List.take_of_length_le (by rw [HN.out];exact Nat.le_refl _)];have e0:=aA hE d0;have TX2:=aa (TX.out _ fo);go_wp2_with fail;refine TX2.out.mono ?_;rintro e w3 ⟨rfl,h3⟩;go_wp2;go_ret2;exact ⟨rfl,fo.trans (h3.mono fo.size)⟩
structure Md (T:List aH) (X:List Nat):Prop where
 valid:aY T X
 says:∀q∈T,0<q.cls∨q.map≠[]
 len:T.length≤20
 adj:X.length≤30
 adk:∀y∈X,aP y
def xY (w:World) (k:Nat):Prop:=∃cs T,Is w k cs T∧∀u∈cs.toList,∃a n c,u=.slice a n c
theorem xY.int {w:World} {k o:Nat} (h:xY w k) {q:IntKind} {x:Int} (hc:w.cell? ⟨k,o,none⟩=some (.int q x)):False:=by
 obtain ⟨cs,T,h1,h2⟩:=h;rw [h1.cell] at hc;have hm:Value.int q x∈cs.toList:=by rw [←Array.getElem?_toList] at hc;exact List.mem_of_getElem? hc
 obtain ⟨a,n,c,e⟩:=h2 _ hm;cases e
theorem sZ {w:World} {k o b o':Nat} {u:Value} (hb:b≠k):(w.setCell ⟨k,o,none⟩ u).cell? ⟨b,o',none⟩=w.cell? ⟨b,o',none⟩:=
 World.cell?_of_block (a:=⟨b,o',none⟩) (Below.heap_setCell _ _ _ _ (by simp only;exact fun e=>hb e))
theorem bB.Al {w:World} {v:Value} {l:List Nat} (h:bB w v (ints l)) {k:Nat} (hk:xY w k) (o:Nat) (u:Value):bB (w.setCell ⟨k,o,none⟩ u) v (ints l):=by
 obtain ⟨a,cap,hv,hc,h⟩:=h;refine ⟨a,cap,hv,hc,?_⟩;rcases h with h|⟨b,off,cs,e,fr,ha,hh,hx⟩
 ·exact .inl h
 ·cases hl:l with
  | nil=>subst hl;exact .inl ⟨rfl,fun e=>by rw [ha] at e;cases e⟩
  | cons x l'=>
    subst hl;have hbk:b≠k:=fun e1=>by
     subst e1;have h0:=hx 0 (by simp);refine hk.int (o:=off) (q:=.i64) (x:=(x:Nat)) ?_;unfold World.cell?;rw [hh];simpa [ints] using h0
    exact .inr ⟨b,off,cs,e,fr,ha,(Below.heap_setCell _ _ _ _ (by simp only;exact fun e=>hbk e)).trans hh,hx⟩
theorem bB.dG {w:World} {v:Value} {l:List Nat} (h:bB w v (aN l)) {k:Nat} (hk:xY w k) (o:Nat) (u:Value):bB (w.setCell ⟨k,o,none⟩ u) v (aN l):=by
 obtain ⟨a,cap,hv,hc,h⟩:=h;refine ⟨a,cap,hv,hc,?_⟩;rcases h with h|⟨b,off,cs,e,fr,ha,hh,hx⟩
 ·exact .inl h
 ·cases hl:l with
  | nil=>subst hl;exact .inl ⟨rfl,fun e=>by rw [ha] at e;cases e⟩
  | cons x l'=>
    subst hl;have hbk:b≠k:=fun e1=>by
     subst e1;have h0:=hx 0 (by simp);refine hk.int (o:=off) (q:=.i32) (x:=(x:Nat)) ?_;unfold World.cell?;rw [hh];simpa [aN] using h0
    exact .inr ⟨b,off,cs,e,fr,ha,(Below.heap_setCell _ _ _ _ (by simp only;exact fun e=>hbk e)).trans hh,hx⟩
theorem b_.put {w:World} {p k:Nat} {T:List aH} {X:List Nat} (h:b_ w p T X) {cs:Array Value} {t:TypeId} (hk:Is w k cs t) (hs:xY w k) (hz:cs.size≤100) (h1:101≠t) (h2:mV≠t) (h3:86≠t) (h4:aM≠t) (o:Nat) (u:Value) :
 b_ (w.setCell ⟨k,o,none⟩ u) p T X:=by
 obtain ⟨E,rv,xv,ev,bM,jM,cp,pp,iv,sv,mv,d,p1,p2,s1,s2,s3,x1⟩:=h;have c:=bD.put (o:=o) hk u;obtain ⟨R,r1,r2,r3⟩:=d.rows;obtain ⟨G,g1,g2,g3⟩:=d.bm
 exact ⟨E,rv,xv,ev,bM,jM,cp,pp,iv,sv,mv,⟨c.is d.is h1,⟨R,r1,c.own r2 h2,fun x hx=>c.own (r3 x hx) h4⟩,c.own d.oC h3,d.lC,fun x hx=>c.own (d.full x hx) h4,fun x hx=>c.own (d.maps x hx) h4,d.pE,
  ⟨G,c.map g1,fun x u hg=>by obtain ⟨y,e,hv⟩:=g2 x u hg;exact ⟨y,e,c.own hv h4⟩,g3⟩,c.map d.jm⟩,p1.put hk hz u,p2.put hk hz u,c.own s1 h4,c.own s2 h4,c.own s3 h4,bB.dG x1 hs o u⟩
theorem iV.Al {w:World} {v:Value} {T:List aH} {X:List Nat} (h:iV w v T X) {k:Nat} (hk:xY w k) (o:Nat) (u:Value):iV (w.setCell ⟨k,o,none⟩ u) v T X:=by
 obtain ⟨r,x,hv,⟨a,cap,hr,hc,hx⟩,h2⟩:=h;refine ⟨r,x,hv,⟨a,cap,hr,hc,fun i hi=>?_⟩,bB.Al h2 hk o u⟩;obtain ⟨b,off,m,ha,hbs,e1,e2,e3,e4⟩:=hx i hi;have hbk:b≠k:=fun e=>hk.int (e▸e1);exact ⟨b,off,m,ha,by simpa using hbs,(sZ hbk).trans e1,(sZ hbk).trans e2,(sZ hbk).trans e3,bB.Al e4 hk o u⟩
theorem Me {T:List aH} {X:List Nat} (h:Md T X):DU T:=by
 refine ⟨fun r hr=>?_,fun r hr=>(h.says r hr).imp (fun h=>by omega) id,fun r hr=>(h.valid.fine r hr).1,h.valid.rise,by have:=h.len;omega⟩;obtain ⟨h1,h2,h3,_,h5⟩:=h.valid.fine r hr;exact ⟨h1.1,h2,h3,fun x hx=>(h5 x hx).2.1⟩
theorem P8 {r:aH} (h:r.map.length≤2):(dh r).length≤100:=by
 have h1:=bW r.code;have h2:(iR r.cls).length≤3:=by unfold iR;split <;> (try split) <;> simp
 have h3:(dI r.map).length≤13:=by
  match r.map,h with
  | [],_=>simp [dI]
  | [a],_=>have:=bW a;simp [dI];omega
  | [a,b],_=>have:=bW a;have:=bW b;simp [dI];omega
 unfold dh;simp only [List.length_append,List.length_cons,List.length_nil];omega
theorem P9 {T:List aH} {X:List Nat} (h:Md T X):(gp T).length<1000000:=by
 have key:∀L:List aH,(∀r∈L,r.map.length≤2)→(gp L).length≤101*L.length:=fun L=>by
  induction L with
  | nil=>intro _;simp [gp,bS]
  | cons r L ih=>
    intro hl;have h1:=ih fun r hr=>hl r (by simp [hr]);have h2:=P8 (hl r (by simp));unfold gp bS at h1 ⊢;rw [List.map_cons,List.flatMap_cons,List.length_append,List.length_append,List.length_cons];simp only [List.length_cons,List.length_nil];omega
 have:=key T fun r hr=>(h.valid.fine r hr).2.2.1;have:=h.len;omega
theorem JD {T:List aH} {X:List Nat} (h:Md T X):(∀r∈T,r.code<1114112∧r.cls<1000∧r.map.length≤2∧∀x∈r.map,x<1114112)∧(∀x∈X,x<1114112):=
 ⟨fun r hr=>by
   obtain ⟨h1,h2,h3,_,h5⟩:=h.valid.fine r hr
   exact ⟨h1.1,by omega,h3,fun x hx=>(h5 x hx).2.1⟩,fun x hx=>(h.adk x hx).1⟩
theorem P_ {w:World} (hG:ek w) {v:Value} {T:List gB} {X:List Int} (h:L9 w v T X) :
 Calls Tryz.prog 13 #[v] w fun e w'=>∃p r T' X',e=.returned (.tuple #[.pointer (some ⟨p,0,none⟩),r])∧b_ w' p T' X'∧iV w' r T' X'∧Md T' X'∧Below w.heap.size w w':=by
 obtain ⟨r1,x1,rfl,hr1,hx1⟩:=id h;obtain ⟨ra,nt,rc,rfl⟩:∃a n c,r1=.slice a n c:=by obtain ⟨a,cap,rfl,_⟩:=hr1;exact ⟨_,_,_,rfl⟩
 obtain ⟨xa,nx,xc,rfl⟩:∃a n c,x1=.slice a n c:=by obtain ⟨a,cap,rfl,_⟩:=hx1.out;exact ⟨_,_,_,rfl⟩
 obtain ⟨w1,hw1⟩:=ae ((w.alloc (.cells #[.slice ra nt rc,.slice xa nx xc] 25)).alloc (.cells #[.slice none 0 0,.slice none 0 0] 25));have hb1:Below w.heap.size w w1:=by rw [hw1];exact ed _ _
 have k1:Is w1 w.heap.size #[.slice ra nt rc,.slice xa nx xc] 25:=by rw [hw1];exact (Is.new _ _ _).mono (af _)
 have j1:Is w1 (w.heap.size+1) #[.slice none 0 0,.slice none 0 0] 25:=by rw [hw1];exact Is.new' _ _ _ _ (by simp)
 have RT:=aa (TG (h.mono hb1));have e0:=k1.at 0 rfl;have e1:=k1.at 1 rfl;clear h hr1 hx1;go_enter Tryz.func13,Tryz.ntmps13;go_wp2_with fail;rw [←hw1];clear hw1;refine RT.out.mono ?_;rintro e w2 ⟨r,T',X',rfl,hT,hV,hS,hl,Xh,hXc,hb2⟩;have HT:=aa hT;obtain ⟨r2,x2,rfl,hr2,hx2⟩:=hT;obtain ⟨Ng,Nh,Ni,rfl⟩:∃a n c,r2=.slice a n c:=by obtain ⟨a,cap,rfl,_⟩:=hr2;exact ⟨_,_,_,rfl⟩
 obtain ⟨TJ,TL,TM,rfl⟩:∃a n c,x2=.slice a n c:=by obtain ⟨a,cap,rfl,_⟩:=hx2.out;exact ⟨_,_,_,rfl⟩
 have hF:Md T' X':=⟨hV,hS,hl,Xh,hXc⟩;have HF:=aa hF;clear hV hS hl Xh hXc hr2 hx2 e0 e1 RT hF;have iB:=ah hb1 hb2;have k2:=k1.mono hb2;have j2:=j1.mono hb2;have hs2:w.heap.size+1<w2.heap.size:=by have:=j2.lt;omega
 have e0:=k2.at 0 rfl;have e1:=k2.at 1 rfl;have f0:=k2.frozen 0;have f1:=k2.frozen 1;obtain ⟨w3,hw3⟩:=ae ((w2.setCell ⟨w.heap.size,0,none⟩ (.slice Ng Nh Ni)).setCell ⟨w.heap.size,1,none⟩ (.slice TJ TL TM));have sb2:xY w2 w.heap.size:=⟨_,_,k2,by simp⟩;have k2':=k2.set 0 (.slice Ng Nh Ni);have adl:xY (w2.setCell ⟨w.heap.size,0,none⟩ (.slice Ng Nh Ni)) w.heap.size:=⟨_,_,k2',by simp⟩;have hT3:iV w3 (.agg #[.slice Ng Nh Ni,.slice TJ TL TM]) T' X':=by rw [hw3];exact (HT.out.Al sb2 0 _).Al adl 1 _
 have k3:Is w3 w.heap.size #[.slice Ng Nh Ni,.slice TJ TL TM] 25:=by rw [hw3];exact k2'.set 1 _
 have j3:Is w3 (w.heap.size+1) #[.slice none 0 0,.slice none 0 0] 25:=by rw [hw3];exact (j2.put (by omega) _).put (by omega) _
 have hb3:Below w.heap.size w w3:=by rw [hw3];exact aj (aj iB (Nat.le_refl _)) (Nat.le_refl _)
 have hF:=HF.out;have TX:=aa (TI hT3 (JD hF).1 (by have:=hF.len;omega) (JD hF).2 (by have:=hF.adj;omega));have HT3:=aa hT3;have LD:=aa (fun (W:World) (E:Below w.heap.size w W)=>L8 (hG.mono E) (Me hF) (P9 hF) hF.valid (fun r hr=>(hF.says r hr).imp (fun h=>by omega) id) (by have:=hF.len;omega) (by have:=hF.adj;omega) hF.adk);obtain ⟨s1,hs1⟩:∃s,s=tx (gp T'):=⟨_,rfl⟩;obtain ⟨s2,Ps⟩:∃s,s=tx (fK X'):=⟨_,rfl⟩;rw [←hs1,←Ps] at TX;rw [←hs1,←Ps] at LD;clear hT3 sb2 adl k2' k1 j1 k2 j2 hF hs1 Ps HT hG;go_wp2_with fail;rw [←hw3];clear hw3 e0 e1 f0 f1;have e0:=k3.at 0 rfl;have e1:=k3.at 1 rfl;go_wp2_with fail;refine TX.out.mono ?_;rintro e w4 ⟨rfl,hb4⟩;have zU:=ah hb3 hb4;clear e0 e1;go_wp2_with fail;refine (LD.out w4 zU).mono ?_;rintro e w5 ⟨p,rfl,hD,hb5⟩;have Jp:=ah hb4 hb5;have k5:=k3.mono Jp;have j5:=j3.mono Jp;have e0:=k5.at 0 rfl;have e1:=k5.at 1 rfl;have g0:=j5.at 0 rfl;have g1:=j5.at 1 rfl;have q0:=j5.frozen 0;have q1:=j5.frozen 1;have hT5:=HT3.out.mono Jp;have HT5:=aa hT5;have HD:=aa hD;have J5:=aa j5;have ahh:Below w.heap.size w w5:=ah zU hb5;clear hT5 hD k5 j5 k3 j3 TX LD;go_wp2_with fail;go_region;have j5:=J5.out;have sb5:xY w5 (w.heap.size+1):=⟨_,_,j5,by simp⟩;have j5':=j5.set 0 (.slice Ng Nh Ni);have ZH:xY (w5.setCell ⟨w.heap.size+1,0,none⟩ (.slice Ng Nh Ni)) (w.heap.size+1):=⟨_,_,j5',by simp⟩;have hD6:=(HD.out.put j5 sb5 (show 2≤100 by omega) (by decide) (by decide) (by decide) (by decide) 0 (.slice Ng Nh Ni)).put j5' ZH (show 2≤100 by omega) (by decide) (by decide) (by decide) (by decide) 1 (.slice TJ TL TM);have Vz:=(HT5.out.Al sb5 0 (.slice Ng Nh Ni)).Al ZH 1 (.slice TJ TL TM);have k6:=j5'.set 1 (.slice TJ TL TM);have hb6:=(aj (off:=1) (u:=.slice TJ TL TM) (aj (off:=0) (u:=.slice Ng Nh Ni) ahh (Nat.le_succ _)) (Nat.le_succ _)).drew;obtain ⟨w6,UK⟩:=ae (((w5.setCell ⟨w.heap.size+1,0,none⟩ (.slice Ng Nh Ni)).setCell ⟨w.heap.size+1,1,none⟩ (.slice TJ TL TM)).drew);have k7:Is w6 (w.heap.size+1) #[.slice Ng Nh Ni,.slice TJ TL TM] 25:=by rw [UK];exact k6.mono (ag _)
 have v0:=k7.at 0 rfl;have v1:=k7.at 1 rfl;have HD6:=aa (show b_ w6 p T' X' from by rw [UK];exact hD6.mono (ag _));have HT6:=aa (show iV w6 (.agg #[.slice Ng Nh Ni,.slice TJ TL TM]) T' X' from by rw [UK];exact Vz.mono (ag _));rw [←UK] at hb6 ⊢;clear UK hD6 Vz k6 k7 sb5 ZH j5 j5' e0 e1 g0 g1 q0 q1;go_wp2_with fail;exact bodyPost_ret (v:=.tuple #[.pointer (some ⟨p,0,none⟩),.agg #[.slice Ng Nh Ni,.slice TJ TL TM]]) (by simp [results,Tryz.results13,go_sem,v0,v1]) rfl ⟨p,_,T',X',rfl,HD6.out,HT6.out,HF.out,hb6⟩
theorem TP (i:Int) {S:Nat} (h:1≤S) (hS:S≤281474976710656):∃A:Nat,A<S∧(wrap64 (i.tmod (S:Int)+(S:Int))).tmod (S:Int)=(A:Int):=by
 have h1:-(S:Int)<i.tmod (S:Int):=Int.neg_lt_of_neg_lt (by have:=Int.tmod_lt_of_pos (-i) (show (0:Int)<(S:Int) by omega);rw [Int.neg_tmod] at this;exact this);have h2:i.tmod (S:Int)<(S:Int):=Int.tmod_lt_of_pos i (by omega);generalize i.tmod (S:Int)=q at *;obtain ⟨m,hm⟩:∃m:Nat,q+(S:Int)=(m:Int):=⟨(q+(S:Int)).toNat,by omega⟩;have h3:wrap64 (q+(S:Int))=(m:Int):=by rw [hm];unfold wrap64;omega
 rw [h3,←Int.ofNat_tmod];exact ⟨m % S,Nat.mod_lt _ h,rfl⟩
def Dj (w:World) (v:Value) (T:List gB) (X:List Int) (pk mr:List Int):Prop:=∃r x p m,v=.agg #[r,x,p,m]∧L9 w (.agg #[r,x]) T X∧bB w p (bJ pk)∧bB w m (bJ mr)
theorem Dj.mono {w w':World} {v:Value} {T:List gB} {X pk mr:List Int} (h:Dj w v T X pk mr) (hb:Below w.heap.size w w'):Dj w' v T X pk mr:=by
 obtain ⟨r,x,p,m,hv,h1,h2,h3⟩:=h;exact ⟨r,x,p,m,hv,h1.mono hb,h2.mono hb,h3.mono hb⟩
theorem WQ {w:World} (hG:ek w) {v:Value} {T0:List gB} {X0 pk mr:List Int} (h:Dj w v T0 X0 pk mr) (hmr:mr.length<281474976710656) (most:Nat) (ajO:most≤100) :
 Calls Tryz.prog 4 #[v,.int .i64 most] w fun e w'=>∃p r T X lv L,e=.returned (.tuple #[.pointer (some ⟨p,0,none⟩),r,lv,.bool true])∧b_ w' p T X∧iV w' r T X∧Md T X∧bB w' lv (ints L)∧L.length≤most∧(∀c∈L,aP c)∧Below w.heap.size w w':=by
 obtain ⟨r0,x0,pv,mv,rfl,hT,hp,hm⟩:=h;obtain ⟨r0',x0',he,hr0,hx0⟩:=id hT;simp only [Value.agg.injEq,Array.mk.injEq,List.cons.injEq,and_true] at he;obtain ⟨rfl,rfl⟩:=he;obtain ⟨ra,nt,rc,rfl⟩:∃a n c,r0=.slice a n c:=by obtain ⟨a,cap,rfl,_⟩:=hr0;exact ⟨_,_,_,rfl⟩
 obtain ⟨xa,nx,xc,rfl⟩:∃a n c,x0=.slice a n c:=by obtain ⟨a,cap,rfl,_⟩:=hx0.out;exact ⟨_,_,_,rfl⟩
 obtain ⟨np,Qm⟩:=ae pk.length;obtain ⟨nm,hnm⟩:=ae mr.length;obtain ⟨pa,pc,rfl,_,hpx⟩:=Go.Proofs.YtmpkfkoficehpaaGreatDoor.bB.Jr hp Qm;obtain ⟨ma,mc,rfl,_,hmx⟩:=Go.Proofs.YtmpkfkoficehpaaGreatDoor.bB.Jr hm hnm;obtain ⟨w0,hw0⟩:=ae ((w.alloc (.cells #[.slice ra nt rc,.slice xa nx xc,.slice pa np pc,.slice ma nm mc] 27)).alloc (.cells #[.slice none 0 0,.slice none 0 0] 25));have hb0:Below w.heap.size w w0:=by rw [hw0];exact ed _ _
 have k0:Is w0 w.heap.size #[.slice ra nt rc,.slice xa nx xc,.slice pa np pc,.slice ma nm mc] 27:=by rw [hw0];exact (Is.new _ _ _).mono (af _)
 have k1:Is w0 (w.heap.size+1) #[.slice none 0 0,.slice none 0 0] 25:=by rw [hw0];exact Is.new' _ _ _ _ (by simp)
 have LD:=aa (P_ (hG.mono hb0) (hT.mono hb0));have e0:=k0.at 0 rfl;have e1:=k0.at 1 rfl;have HP:=aa hpx;have HM:=aa hmx;have TW:=aa Qm;have qM:=aa hnm;have ab4:w.heap.size+2≤w0.heap.size:=by rw [hw0];simp
 clear hG hT hr0 hx0 hp hm Qm hnm hpx hmx;go_enter Tryz.func4,Tryz.ntmps4;go_wp2_with fail;rw [←hw0];clear hw0;refine LD.out.mono ?_;rintro e w1 ⟨p,r,T,X,rfl,hD,WR,hF,hb1⟩;obtain ⟨rr,rx,rfl,⟨a1,c1,rfl,_,hrw⟩,hrx⟩:=id WR;obtain ⟨a2,n2,c2,rfl⟩:∃a n c,rx=.slice a n c:=by obtain ⟨a,c,h,_⟩:=bB.out hrx;exact ⟨_,_,_,h⟩
 obtain ⟨n,hn⟩:=ae T.length;rw [←hn] at WR ⊢;have anC:n≤20:=by rw [hn];exact hF.len
 have hB1:=hb0.trans (hb1.mono hb0.size);have hs1:=hB1.size;have k0:=k0.mono hb1;have k1:=k1.mono hb1;obtain ⟨w2,hw2⟩:=ae (w1.alloc (.cells #[.slice a1 n c1,.slice a2 n2 c2] 25));have iB:Below w1.heap.size w1 w2:=by rw [hw2];exact af _
 have k9:Is w2 w1.heap.size #[.slice a1 n c1,.slice a2 n2 c2] 25:=by rw [hw2];exact Is.new _ _ _
 have hB2:=hB1.trans (iB.mono hs1);have k0:=k0.mono iB;have k1:=k1.mono iB;have hs2:=hB2.size;have Lg:=iB.size;have hsz2:w2.heap.size=w1.heap.size+1:=by rw [hw2];simp
 have ajP:w.heap.size+2≤w1.heap.size:=Nat.le_trans ab4 hb1.size;have anD:=k9.lt;have HD:=aa hD;have Zb:=aa WR;have HF:=aa hF;have HN:=aa hn;have HRW:=aa hrw;have Pv:=af (w:=w2) (.cells #[.int .i64 65,.int .i64 97,.int .i64 768,.int .i64 4352,.int .i64 4449,.int .i64 4520,.int .i64 44032,.int .i64 44033] bq);have hon:=lK w2 #[.int .i64 65,.int .i64 97,.int .i64 768,.int .i64 4352,.int .i64 4449,.int .i64 4520,.int .i64 44032,.int .i64 44033] bq 8 rfl (by decide);have k93:=(k9.mono Pv).at 0 rfl;rw [hw2] at k93;clear hD WR hF hn hrw LD hrx e0 e1;go_wp2_with fail;rw [←hw2] at k93 ⊢;clear hw2;generalize w2.alloc (.cells #[.int .i64 65,.int .i64 97,.int .i64 768,.int .i64 4352,.int .i64 4449,.int .i64 4520,.int .i64 44032,.int .i64 44033] bq)=w3 at *;have adm:w3.ownsRow w2.heap.size bq 1 (.slice (some ⟨w1.heap.size+1,0,none⟩) 8 8) 8 [.int .i64 65,.int .i64 97,.int .i64 768,.int .i64 4352,.int .i64 4449,.int .i64 4520,.int .i64 44032,.int .i64 44033]:=by rw [←hsz2];exact hon
 go_loopw [10,12,29] (fun o _ jv wr=>∃j:Nat,j≤n∧jv=.int .i64 j∧(∃L:List Nat,wr.ownsRow w2.heap.size bq 1 o L.length (ints L)∧8≤L.length∧L.length≤8+3*j∧∀c∈L,aP c)∧Below w2.heap.size w2 wr) (fun _ _ jv _=>n-(intOf jv).toNat)
 case atStart=>
  refine ⟨0,Nat.zero_le _,rfl,⟨[65,97,768,4352,4449,4520,44032,44033],by simpa [ints] using adm,by simp,by simp,?_⟩,Pv⟩;decide
 case round=>
  obtain ⟨j,hj,rfl,⟨L,hrow,hL8,RO,ZI⟩,hE⟩:=hrel;have iM:=hB2.trans (hE.mono hs2);have Bf:=iM.size;have adn:=hE.size;have hE1:=iB.trans (hE.mono Lg);by_cases hjn:j<n
  ·have zj:decide ((j:Int)<(n:Int))=true:=decide_eq_true (by omega);have hjl:j<T.length:=by have:=HN.out;omega
   obtain ⟨b,off,m,rfl,_,d0,d1,d2,hm⟩:=HRW.out j hjl;have hfin:=(HF.out.valid.fine T[j] (List.getElem_mem hjl));obtain ⟨q,hq⟩:=ae (T[j]);rw [←hq] at d0 d1 hm hfin;obtain ⟨am,cm,rfl,_,_⟩:=bB.out hm;have hlm:(ints q.map).length=q.map.length:=by simp [ints]
   rw [hlm] at d2 hm;obtain ⟨nq,hnq⟩:=ae q.map.length;rw [←hnq] at d2 hm;obtain ⟨cd,hcd⟩:=ae q.code;obtain ⟨cl,hcl⟩:=ae q.cls;rw [←hcd] at d0;rw [←hcl] at d1;have d0:=aA hE1 d0;have d1:=aA hE1 d1;have d2:=aA hE1 d2;have HNQ:=aa hnq;have HCD:=aa hcd;have Uh:=aa hfin;clear hq hnq hcd hcl hfin;go_wp2_with fail;have hbn:=af (w:=wr) (.cells #[.int .i64 (cd:Nat),.int .i64 (cl:Nat),.slice am nq cm] 47);have kA:Is _ wr.heap.size #[.int .i64 (cd:Nat),.int .i64 (cl:Nat),.slice am nq cm] 47:=Is.new wr _ _;have XM:=aG hrow hbn;have JJ:=hE.trans (hbn.mono adn);have ZJ:=hE1.trans (hbn.mono hE1.size);have A_:=kA.lt;have anG:w2.heap.size≤wr.heap.size:=adn;generalize wr.alloc (.cells #[.int .i64 (cd:Nat),.int .i64 (cl:Nat),.slice am nq cm] 47)=wl at *;have XN:=aG XM (ag wl);have kAd:=kA.mono (ag wl);have g0:=uW.keeps (S:=fun k=>k=wr.heap.size) (kAd.at 0 rfl) rfl;have g2:=uW.keeps (S:=fun k=>k=wr.heap.size) (kAd.at 2 rfl) rfl;refine dY (KR.blocks fun k=>k=wr.heap.size) (Array.replicate 9 true) 9 0 mixed (by rfl) ?_;refine dL [0,1,2,5,6] 4 rfl (by kernel_rfl) ?_
   iterate 5 (refine aB rfl ?_;go_big_quiet_step (rfl))
   refine az ?_;have hb4:=af (w:=wl.drew) (.cells #[.int .i64 (cd:Nat)] bq);have kA4:=kAd.mono hb4;have hrow4:=aG XN hb4;have kZ:Below w2.heap.size w2 (wl.drew.alloc (.cells #[.int .i64 (cd:Nat)] bq)):=(JJ.trans ((ag wl).mono JJ.size)).trans (hb4.mono JJ.size);have ado:Below w1.heap.size w1 (wl.drew.alloc (.cells #[.int .i64 (cd:Nat)] bq)):=(ZJ.trans ((ag wl).mono ZJ.size)).trans (hb4.mono ZJ.size);refine bV 3 (by kernel_rfl) rfl ?_;go_wp2_with fail;refine bG (KR.of_below hb4 hb4.size (fun k (hk:k=wr.heap.size)=>by subst hk;exact A_)) ?_;refine bV 4 (by kernel_rfl) rfl ?_
   refine lS (W:=wl.drew.alloc (.cells #[.int .i64 (cd:Nat)] bq)) rfl _ _ 23 rfl w2.heap.size bq (.int .i64 0) 8 jh (by decide) rfl hrow4 (by have:=kZ.size;exact this) [.int .i64 (cd:Nat)] (by simp [Value.oneCell']) ⟨wl.drew.heap.size,0,none⟩ 1 1 rfl rfl (fun i u hi=>by
    rcases i with _|i
    ·cases hi;exact (Is.new wl.drew _ bq).at 0 rfl
    ·cases hi) (by omega) ?_
   intro v5 w5 o5 hg5 hn5;have ne5:=kA4.other hrow4 (by decide);have kA5:=(bD.bK hrow4 hg5).is kA4 (by decide);have jI:=kZ.grown hg5 kZ.size (fun k hk=>(hrow4.lt k hk).1);have ahj:=ado.grown hg5 (by have:=ado.size;exact this) (fun k hk=>by have:=(hrow4.lt k hk).1;omega);go_wp2_with fail;refine bG (KR.bK (w:=wl.drew.alloc (.cells #[.int .i64 (cd:Nat)] bq)) hg5 hg5.size (fun k (hk:k=wr.heap.size)=>by subst hk;exact ⟨kA4.lt,ne5⟩)) ?_;refine bV 7 (by kernel_rfl) rfl ?_;have hq2:nq≤2:=by rw [HNQ.out];exact Uh.out.2.2.1
   have ne6:=kA5.other o5 (by decide);refine bN rfl _ _ 23 rfl w2.heap.size bq (.int .i64 0) 8 jh _ _ _ rfl o5 _ (ints q.map) rfl (hm.mono ahj) (fun u hu=>by obtain ⟨y,_,rfl⟩:=List.mem_map.1 hu;rfl) (by rw [hlm,←HNQ.out];unfold maxLen;omega) (by rw [hlm,←HNQ.out];omega) jI.size ?_;intro v6 w6 o6 JH;have ahk:=jI.grown JH jI.size (fun k hk=>(o5.lt k hk).1);have kA6:=(bD.bK o5 JH).is kA5 (by decide);have O6:=aa o6;go_wp2_with fail;refine bG (KR.bK (w:=w5) JH JH.size (fun k (hk:k=wr.heap.size)=>by subst hk;exact ⟨kA5.lt,ne6⟩)) ?_;refine dL [8] 0 rfl (by kernel_rfl) ?_
   iterate 1 (refine aB rfl ?_;go_big_quiet_step (rfl))
   refine az ?_;refine fM [] (by kernel_rfl) ?_;refine tail_nil ?_;clear o6 o5 JH hg5 hn5 g0 g2 kA kAd kA4 kA5 kA6 hrow XM XN hrow4 d0 d1 d2;go_wp2_with fail;go_roundw
   case rel=>
    refine ⟨j+1,by omega,by simp,⟨L++[cd]++q.map,?_,?_,?_,?_⟩,ahk⟩
    ·have:=O6.out;rw [hlm] at this;have e1:ints (L++[cd]++q.map)=ints L++[.int .i64 (cd:Nat)]++ints q.map:=by simp [ints]
     have e2:(L++[cd]++q.map).length=L.length+1+q.map.length:=by simp;omega
     rw [e1,e2];exact this
    ·simp;omega
    ·rw [List.length_append,List.length_append,←HNQ.out];simp;omega
    ·intro c hc;rcases List.mem_append.1 hc with hc|hc
     ·rcases List.mem_append.1 hc with hc|hc
      ·exact ZI c hc
      ·rw [List.mem_singleton.1 hc,HCD.out];exact Uh.out.1
     ·exact (Uh.out.2.2.2.2 c hc).2
   case measure=>simp [intOf];omega
  ·have zj:decide ((j:Int)<(n:Int))=false:=decide_eq_false (by omega);obtain rfl:j=n:=by omega
   obtain ⟨oa,oc,rfl,_,_⟩:=ak hrow;have k0A:=k0.mono hE;have k1A:=k1.mono hE;have k9A:=k9.mono hE;obtain ⟨nl,hnl⟩:=ae L.length;rw [←hnl] at hrow hL8 RO ⊢;have T_:=aa hnl;have XU:=aa ZI;have ROW:=aa hrow;clear ZI hrow hnl k0 k1 k9 hon adm Pv;rename World=>wA;go_wp2_with fail;go_loopw [13,14,15] (fun lv iv _ wr2=>∃i:Nat,i≤np∧i≤most∧iv=.int .i64 i∧(∃M:List Nat,wr2.ownsRow wA.heap.size bq 1 lv M.length (ints M)∧M.length=i∧∀c∈M,aP c)∧Below wA.heap.size wA wr2) (fun _ iv _ _=>most-(intOf iv).toNat)
   case atStart=>exact ⟨0,Nat.zero_le _,Nat.zero_le _,rfl,⟨[],World.ownsRow_nil _ _ _ _,rfl,by simp⟩,Below.refl _ _⟩
   case round=>
    obtain ⟨i,hi,him,rfl,⟨M,WS,WJ,hMc⟩,GH⟩:=hrel;have hEz:=iM.trans (GH.mono Bf);have hsz:=hEz.size;have k0r:=k0A.mono GH;have t2:=k0r.at 2 rfl;have t3:=k0r.at 3 rfl;have hsA:=GH.size;by_cases hgo:i<np∧i<most
    ·obtain ⟨hin,anN⟩:=hgo;have zi:decide ((i:Int)<(np:Int))=true:=decide_eq_true (by omega);have zm:decide ((i:Int)<(most:Int))=true:=decide_eq_true (by omega);have ahm:i<pk.length:=by have:=TW.out;omega
     obtain ⟨pb,po,rfl,_,p0⟩:=HP.out i ahm;have p0:=aA hEz p0;obtain ⟨x,hx⟩:=ae (pk[i]);rw [←hx] at p0;have UO:=aa hMc;have BR:=aa WJ;have HRM:=aa WS;clear hx hMc WJ;by_cases hxn:x<0∧0<nm
     ·obtain ⟨hx0,hm0⟩:=hxn;have zx:decide (x<0)=true:=decide_eq_true hx0;have zn:decide ((0:Int)<(nm:Int))=true:=decide_eq_true (by omega);have ahn:nm≤281474976710656:=by rw [qM.out];omega
      obtain ⟨A,hA,hAi⟩:=TP x (S:=nm) (by omega) ahn;obtain ⟨mb,mo,rfl,_,m0⟩:=HM.out A (by rw [←qM.out];exact hA);have m0:=aA hEz m0;obtain ⟨y,hy⟩:∃y,y=mr[A]'(by rw [←qM.out];exact hA):=⟨_,rfl⟩;rw [←hy] at m0;clear hy;go_wp2_with fail;have G3:=Gr.cell (ag wr) t3;have G4:=Gr.cell (ag wr) m0;have znz:((nm:Int)==0)=false:=beq_eq_false_iff_ne.2 (by omega);refine aF #[true,true,true,true,true,true,true,true,true,true,true,true,true,true,true,true,true,true,true,true,true,false,false] 21 2 mixed (by rfl) ?_;refine ay [0,1,2,3,4,5,6,7,8,9,10,11,12,13,14,15,16,17] 3 rfl (by kernel_rfl) ?_
      iterate 18 (refine aB rfl ?_;go_big_quiet_step (rfl))
      refine az ?_;refine aI 18 (by kernel_rfl) rfl ?_;go_wp2_with fail;refine (jq (w:=wr.drew) y).mono ?_;rintro e w7 ⟨rfl,rfl⟩;have hcc:=qo (x:=(y % 2097152).toNat);obtain ⟨c,hc⟩:=ae (kz (y % 2097152).toNat);rw [←hc] at hcc ⊢;have Qd:=hcc.1;have Xz:=aa hcc;clear hc hcc;go_wp2_with fail;refine aD (Below.refl _ _) ?_;refine ay [19] 1 rfl (by kernel_rfl) ?_
      iterate 1 (refine aB rfl ?_;go_big_quiet_step (rfl))
      refine az ?_;refine aI 20 (by kernel_rfl) rfl ?_;go_wp2_with fail;refine aD (af _) ?_;have aho:=aG WS (ag wr);have TY:=GH.trans ((ag wr).mono hsA);have ahp:M.length≤100:=by have:=BR.out;omega
      clear t2 t3 G3 G4 p0 m0 k0r WS;refine aJ [21,22] (by kernel_rfl) ?_;refine tail_cons rfl ?_;refine fH rfl _ _ 23 rfl wA.heap.size bq (.int .i64 0) 8 jh _ M.length _ rfl aho (.int .i64 (c:Nat)) rfl rfl (by omega) (by unfold maxLen;omega) wA TY (Nat.le_refl _) ?_;intro v' w6 o6 oz;have O6:=aa o6;clear o6;refine tail_cons rfl ?_;go_wp2_with fail;refine tail_nil ?_;go_wp2_with fail;go_roundw
      case rel=>
       refine ⟨i+1,by omega,by omega,by simp,⟨M++[c],?_,by rw [List.length_append,BR.out];rfl,fun y hy=>?_⟩,oz⟩
       ·rw [show ints (M++[c])=ints M++[.int .i64 (c:Nat)] by simp [ints],show (M++[c]).length=M.length+1 by simp];exact O6.out
       ·rcases List.mem_append.1 hy with hy|hy
        ·exact UO.out y hy
        ·rw [List.mem_singleton.1 hy];exact Xz.out
      case measure=>simp [intOf];omega
     ·have ahq:nl≤281474976710656:=by omega
      obtain ⟨A,hA,hAi⟩:=TP x (S:=nl) (by omega) ahq;have A_:A<L.length:=by rw [←T_.out];exact hA
      obtain ⟨lb,anO,he,_,_,_,_,hcells⟩:=dw ROW.out (show 0<nl by omega);injection he with he1 _ Ja;subst he1 Ja;have m0:=aA GH (hcells A (.int .i64 (L[A]:Nat)) (by simp [ints,A_]));have hcc:=XU.out _ (List.getElem_mem A_);obtain ⟨c,hc⟩:=ae (L[A]);rw [←hc] at m0 hcc;have Xz:=aa hcc;have ahp:M.length≤100:=by have:=BR.out;omega
      have znl:((nl:Int)==0)=false:=beq_eq_false_iff_ne.2 (by omega);clear hc hcc hcells;by_cases hx0:x<0
      ·have zx:decide (x<0)=true:=decide_eq_true hx0;have zn:decide ((0:Int)<(nm:Int))=false:=decide_eq_false (fun h=>hxn ⟨hx0,by omega⟩);go_wp2_with (at_builtin;refine fH rfl _ _ 23 rfl wA.heap.size bq (.int .i64 0) 8 jh _ M.length _ rfl WS (.int .i64 (c:Nat)) rfl rfl (by omega) (by unfold maxLen;omega) wA GH (Nat.le_refl _) ?_;intro v' w6 o6 oz);go_roundw
       case rel=>
        refine ⟨i+1,by omega,by omega,by simp,⟨M++[c],?_,by rw [List.length_append,BR.out];rfl,fun y hy=>?_⟩,oz⟩
        ·rw [show ints (M++[c])=ints M++[.int .i64 (c:Nat)] by simp [ints],show (M++[c]).length=M.length+1 by simp];exact o6
        ·rcases List.mem_append.1 hy with hy|hy
         ·exact UO.out y hy
         ·rw [List.mem_singleton.1 hy];exact Xz.out
       case measure=>simp [intOf];omega
      ·have zx:decide (x<0)=false:=decide_eq_false hx0;rw [Int.tmod_eq_emod_of_nonneg (show 0≤x by omega)] at hAi;go_wp2_with (at_builtin;refine fH rfl _ _ 23 rfl wA.heap.size bq (.int .i64 0) 8 jh _ M.length _ rfl WS (.int .i64 (c:Nat)) rfl rfl (by omega) (by unfold maxLen;omega) wA GH (Nat.le_refl _) ?_;intro v' w6 o6 oz);go_roundw
       case rel=>
        refine ⟨i+1,by omega,by omega,by simp,⟨M++[c],?_,by rw [List.length_append,BR.out];rfl,fun y hy=>?_⟩,oz⟩
        ·rw [show ints (M++[c])=ints M++[.int .i64 (c:Nat)] by simp [ints],show (M++[c]).length=M.length+1 by simp];exact o6
        ·rcases List.mem_append.1 hy with hy|hy
         ·exact UO.out y hy
         ·rw [List.mem_singleton.1 hy];exact Xz.out
       case measure=>simp [intOf];omega
    ·have hend:(decide ((i:Int)<(np:Int))&&decide ((i:Int)<(most:Int)))=false:=by
      rcases Decidable.not_and_iff_or_not.1 hgo with h|h
      ·rw [decide_eq_false (show ¬((i:Int)<(np:Int)) by omega)];rfl
      ·rw [decide_eq_false (show ¬((i:Int)<(most:Int)) by omega),Bool.and_false]
     obtain ⟨ma',mc',rfl,_,_⟩:=ak WS;obtain ⟨nM,hnM⟩:=ae M.length;rw [←hnM] at WS WJ ⊢;have ahs:=aa hnM;have HRM:=aa WS;have UO:=aa hMc;have BR:=aa WJ;have k9r:=k9A.mono GH;have k1r:=k1A.mono GH;have j0:=k9r.at 0 rfl;have j1:=k9r.at 1 rfl;have anP:w.heap.size+2≤wA.heap.size:=by omega
     clear hnM WS hMc WJ;have k1d:=k1r;have f0:=k1d.at 0 rfl;have f1:=k1d.at 1 rfl;have q0:=k1d.frozen 0;have q1:=k1d.frozen 1;have v0:=(k1d.set 0 (.slice a1 j c1)).set 1 (.slice a2 n2 c2);have g0:=v0.at 0 rfl;have g1:=v0.at 1 rfl;have hfin:=(aj (off:=1) (u:=.slice a2 n2 c2) (b:=w.heap.size+1) (aj (off:=0) (u:=.slice a1 j c1) (b:=w.heap.size+1) hEz (by omega)) (by omega)).trans ((ag _).mono (by simp;omega));have ZK:=(hE1.trans (GH.mono hE1.size));have sb0:xY wr (w.heap.size+1):=⟨_,_,k1r,by intro u hu;simp at hu;exact ⟨none,0,0,hu⟩⟩
     have sb1:xY (wr.setCell ⟨w.heap.size+1,0,none⟩ (.slice a1 j c1)) (w.heap.size+1):=⟨_,_,k1r.set 0 (.slice a1 j c1),by
      intro u hu;simp at hu
      rcases hu with rfl|rfl <;> exact ⟨_,_,_,rfl⟩⟩
     have FIN:∃p' r' T' X' Ot L',Ending.returned (.tuple #[.pointer (some ⟨p,0,none⟩),.agg #[.slice a1 j c1,.slice a2 n2 c2],.slice ma' nM mc',.bool true])=.returned (.tuple #[.pointer (some ⟨p',0,none⟩),r',Ot,.bool true])∧b_ (((wr.setCell ⟨w.heap.size+1,0,none⟩ (.slice a1 j c1)).setCell ⟨w.heap.size+1,1,none⟩ (.slice a2 n2 c2)).drew) p' T' X'∧iV (((wr.setCell ⟨w.heap.size+1,0,none⟩ (.slice a1 j c1)).setCell ⟨w.heap.size+1,1,none⟩ (.slice a2 n2 c2)).drew) r' T' X'∧Md T' X'∧bB (((wr.setCell ⟨w.heap.size+1,0,none⟩ (.slice a1 j c1)).setCell ⟨w.heap.size+1,1,none⟩ (.slice a2 n2 c2)).drew) Ot (ints L')∧L'.length≤most∧(∀c∈L',aP c)∧Below w.heap.size w (((wr.setCell ⟨w.heap.size+1,0,none⟩ (.slice a1 j c1)).setCell ⟨w.heap.size+1,1,none⟩ (.slice a2 n2 c2)).drew):=by
      refine ⟨p,.agg #[.slice a1 j c1,.slice a2 n2 c2],T,X,.slice ma' nM mc',M,rfl,?_,?_,HF.out,?_,by have:=BR.out;have:=ahs.out;omega,UO.out,hfin⟩
      ·exact (((HD.out.mono ZK).put k1r sb0 (show 2≤100 by omega) (by decide) (by decide) (by decide) (by decide) 0 _).put (k1r.set 0 (.slice a1 j c1)) sb1 (show 2≤100 by omega) (by decide) (by decide) (by decide) (by decide) 1 _).mono (ag _)
      ·exact (((Zb.out.mono ZK).Al sb0 0 _).Al sb1 1 _).mono (ag _)
      ·have hm:=(Sl.aW (aG HRM.out (Below.refl _ wr))).any;exact (Go.Proofs.YtmpkfkoficehpaaGreatDoor.bB.Al (Go.Proofs.YtmpkfkoficehpaaGreatDoor.bB.Al hm sb0 0 (.slice a1 j c1)) sb1 1 (.slice a2 n2 c2)).mono (ag _)
     have FIN:=aa FIN;clear v0 k1d hfin ZK sb0 sb1 k1r k9r hend;by_cases hin:i<np
     ·have zi:decide ((i:Int)<(np:Int))=true:=decide_eq_true (by omega);have I_:i=most:=by omega
      have zm:decide ((i:Int)<(most:Int))=false:=decide_eq_false (by omega);clear hgo;subst I_;go_wp2_with fail;go_region;go_wp2_with fail;exact bodyPost_ret (v:=.tuple #[.pointer (some ⟨p,0,none⟩),.agg #[.slice a1 j c1,.slice a2 n2 c2],.slice ma' nM mc',.bool true]) (by simp [results,Tryz.results4,go_sem,g0,g1]) rfl FIN.out
     ·have zi:decide ((i:Int)<(np:Int))=false:=decide_eq_false (by omega);clear hgo;go_wp2_with fail;go_region;go_wp2_with fail;exact bodyPost_ret (v:=.tuple #[.pointer (some ⟨p,0,none⟩),.agg #[.slice a1 j c1,.slice a2 n2 c2],.slice ma' nM mc',.bool true]) (by simp [results,Tryz.results4,go_sem,g0,g1]) rfl FIN.out
end Go.Proofs.YtmpkfkoficehpaaGreatDoor
