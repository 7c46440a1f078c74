/- TraceSizes: a machine made of a text has as many states as the document says; no condition. -/
import Derived.Test.YtjidohgiigjifaaGreatDoorQ23
set_option maxRecDepth 100000
set_option maxHeartbeats 6400000
namespace Go.Proofs.YtjidohgiigjifaaGreatDoor
open Go.RowKit Go.Cd
theorem BF:∀(i c:Nat),ig (i+1) c=jC (c / 16 ^ i % 16)::ig i c
 | 0,c=>by simp [ig]
 | i+1,c=>by
   have h:=BF i (c / 16);rw [Nat.div_div_eq_div_mul,show 16*16 ^ i=16 ^ (i+1) by rw [Nat.pow_succ,Nat.mul_comm]] at h;show ig (i+1) (c / 16)++[jC (c % 16)]=_;rw [h];rfl
theorem ML {c i:Nat} (hc:c<1114112) (h4:4≤i) (h0:c / 16 ^ i=0) (hi:i≤4∨16 ^ (i-1)≤c):iX c=i:=by
 have hlt:c<16 ^ i:=by
  rcases Nat.div_eq_zero_iff.1 h0 with h|h
  ·exact absurd h (Nat.pos_iff_ne_zero.1 (Nat.pow_pos (by omega)))
  ·exact h
 have e4:(16:Nat) ^ 4=65536:=by decide
 have e5:(16:Nat) ^ 5=1048576:=by decide
 have e6:(16:Nat) ^ 6=16777216:=by decide
 unfold iX;rcases Nat.lt_or_ge i 7 with h7|h7
 ·have:i=4∨i=5∨i=6:=by omega
  rcases this with rfl|rfl|rfl
  ·rw [if_pos (by omega)]
  ·rw [if_neg (by rcases hi with h|h <;> simp at h ⊢ <;> omega),if_pos (by omega)]
  ·rw [if_neg (by rcases hi with h|h <;> simp at h ⊢ <;> omega),if_neg (by rcases hi with h|h <;> simp at h ⊢ <;> omega)]
 ·rcases hi with h|h
  ·omega
  ·have:(16:Nat) ^ 6≤16 ^ (i-1):=Nat.pow_le_pow_right (by decide) (by omega);omega
theorem j6 {w:World} (c:Nat) (hc:c<1114112) :
 Calls Tryz.prog 104 #[.int .i64 c] w fun e w'=>e=.returned (.string (tx (aS c)))∧Below w.heap.size w w':=by
 have HZ:=ae (show ∀i,(tx (ig i c)).size=i from fun i=>by rw [bn,mR]);have HD:=ae (show ∀i,c / 16 ^ (i+1)=c / 16 ^ i / 16 from fun i=>by rw [Nat.div_div_eq_div_mul,Nat.pow_succ]);have HS:=ae (show ∀i,tx (ig (i+1) c)=tx [jC (c / 16 ^ i % 16)]++tx (ig i c) from fun i=>by rw [cZ,BF];rfl);have HE:=ae (show ∀i,4≤i→c / 16 ^ i=0→(i≤4∨16 ^ (i-1)≤c)→tx (ig i c)=tx (aS c) from fun i h4 h0 hi=>by unfold aS;rw [ML hc h4 h0 hi]);have HP:=ae (show ∀i,0<c / 16 ^ i→16 ^ i≤c from fun i h=>Nat.le_of_not_lt fun h1=>by rw [Nat.div_eq_of_lt h1] at h;omega)
 have H7:=ae (show ∀i,(i≤4∨16 ^ (i-1)≤c)→i≤6 from fun i h=>by
  rcases h with h|h
  ·omega
  ·refine Nat.le_of_not_lt fun h1=>?_;have:(16:Nat) ^ 6≤16 ^ (i-1):=Nat.pow_le_pow_right (by decide) (by omega);have e6:(16:Nat) ^ 6=16777216:=by decide
   omega)
 have HL:=ae (show ∀i,c / 16 ^ i<1114112 from fun i=>Nat.lt_of_le_of_lt (Nat.div_le_self _ _) hc);go_enter Tryz.func104,Tryz.ntmps104;go_wp2_with fail;go_loopw [0,3,4] (fun nv sv iv wr=>∃i:Nat,i≤6∧(i≤4∨16 ^ (i-1)≤c)∧nv=.int .i64 ((c / 16 ^ i:Nat):Int)∧sv=.string (tx (ig i c))∧iv=.int .i64 i∧Below w.heap.size w wr) (fun _ _ iv _=>7-(intOf iv).toNat)
 case atStart=>exact ⟨0,by decide,.inl (by decide),by simp,rfl,rfl,Below.refl _ _⟩
 case round=>
  obtain ⟨i,R8,hi4,rfl,rfl,rfl,hE⟩:=hrel;have HI:=ae hi4;have hz:=HZ.out i;have hd:=ae (HD.out i);have hs:=ae (HS.out i);have hp:=ae (HP.out i);have he:=ae (HE.out i);have hl:=HL.out i;have h7:=ae (H7.out (i+1));clear hi4;generalize hN:c / 16 ^ i=N at *;generalize tx (ig i c)=S at *;clear hN;by_cases hgo:i<4∨0<N
  ·have WG:i+1≤4∨16 ^ (i+1-1)≤c:=by
    rcases hgo with h|h
    ·exact .inl h
    ·exact .inr (hp.out h)
   have JE:i+1≤6:=h7.out WG;have WI:=ae WG;clear WG;by_cases aam:N % 16<10
   ·have hcv:=w_ wr #[.int .u8 (48+(N:Int) % 16)] 1 [48+N % 16] rfl (by simp [Nq]) (fun d hd=>by rw [List.mem_singleton.1 hd];omega);have E2:str [48+N % 16]=tx [jC (N % 16)]:=by rw [Nr];unfold jC;rw [if_pos aam];rfl
    rw [E2] at hcv;have sz:(tx [jC (N % 16)]).size=1:=by rw [bn];rfl
    have hb:=ai (w:=wr) (.cells #[.int .u8 (48+(N:Int) % 16)] Xb);generalize tx [jC (N % 16)]=D at *;by_cases hi3:i<4
    ·clear hgo;go_wp2;go_roundw
     case rel=>exact ⟨i+1,JE,WI.out,by rw [hd.out];simp,by rw [hs.out],rfl,ag hE hb⟩
     case measure=>simp [intOf];omega
    ·have hN0:0<N:=by omega
     clear hgo;go_wp2;go_roundw
     case rel=>exact ⟨i+1,JE,WI.out,by rw [hd.out];simp,by rw [hs.out],rfl,ag hE hb⟩
     case measure=>simp [intOf];omega
   ·have hcv:=w_ wr #[.int .u8 (55+(N:Int) % 16)] 1 [55+N % 16] rfl (by simp [Nq]) (fun d hd=>by rw [List.mem_singleton.1 hd];omega);have E2:str [55+N % 16]=tx [jC (N % 16)]:=by rw [Nr];unfold jC;rw [if_neg aam];rfl
    rw [E2] at hcv;have sz:(tx [jC (N % 16)]).size=1:=by rw [bn];rfl
    have hb:=ai (w:=wr) (.cells #[.int .u8 (55+(N:Int) % 16)] Xb);generalize tx [jC (N % 16)]=D at *;by_cases hi3:i<4
    ·clear hgo;go_wp2;go_roundw
     case rel=>exact ⟨i+1,JE,WI.out,by rw [hd.out];simp,by rw [hs.out],rfl,ag hE hb⟩
     case measure=>simp [intOf];omega
    ·have hN0:0<N:=by omega
     clear hgo;go_wp2;go_roundw
     case rel=>exact ⟨i+1,JE,WI.out,by rw [hd.out];simp,by rw [hs.out],rfl,ag hE hb⟩
     case measure=>simp [intOf];omega
  ·obtain rfl:N=0:=by omega
   have E:=he.out (by omega) rfl HI.out;have hi3:¬i<4:=by omega
   clear hgo;go_wp2;go_ret;exact ⟨rfl,hE⟩
def uN:Nat→Nat→List UInt8
 | 0,_=>[]
 | i+1,n=>UInt8.ofNat (48+n / 10 ^ i % 10)::uN i n
theorem GU:∀i n,(uN i n).length=i
 | 0,_=>rfl
 | i+1,n=>by simp [uN,GU i]
theorem T_ {n i:Nat} (hn:n<1000) (h1:1≤i) (h0:n / 10 ^ i=0) (hi:i≤1∨10 ^ (i-1)≤n):uN i n=gD n:=by
 have hlt:n<10 ^ i:=by
  rcases Nat.div_eq_zero_iff.1 h0 with h|h
  ·exact absurd h (Nat.pos_iff_ne_zero.1 (Nat.pow_pos (by omega)))
  ·exact h
 unfold gD;rcases Nat.lt_or_ge i 4 with h7|h7
 ·have:i=1∨i=2∨i=3:=by omega
  rcases this with rfl|rfl|rfl
  ·simp at hlt;rw [if_pos hlt];simp [uN,Nat.mod_eq_of_lt hlt]
  ·simp at hlt hi;rw [if_neg (by omega),if_pos hlt];simp [uN,show n / 10 % 10=n / 10 by omega]
  ·simp at hlt hi;rw [if_neg (by omega),if_neg (by omega)];simp [uN,show n / 100 % 10=n / 100 by omega]
 ·rcases hi with h|h
  ·omega
  ·have:(10:Nat) ^ 3≤10 ^ (i-1):=Nat.pow_le_pow_right (by decide) (by omega);omega
theorem Ab {w:World} (c:Nat) (hc:c<1000) :
 Calls Tryz.prog 178 #[.int .i64 c] w fun e w'=>e=.returned (.string (tx (gD c)))∧Below w.heap.size w w':=by
 have HZ:=ae (show ∀i,(tx (uN i c)).size=i from fun i=>by rw [bn,GU]);have HD:=ae (show ∀i,c / 10 ^ (i+1)=c / 10 ^ i / 10 from fun i=>by rw [Nat.div_div_eq_div_mul,Nat.pow_succ]);have HS:=ae (show ∀i,tx (uN (i+1) c)=tx [UInt8.ofNat (48+c / 10 ^ i % 10)]++tx (uN i c) from fun i=>by rw [cZ];rfl);have HE:=ae (show ∀i,1≤i→c / 10 ^ i=0→(i≤1∨10 ^ (i-1)≤c)→tx (uN i c)=tx (gD c) from fun i h4 h0 hi=>by rw [T_ hc h4 h0 hi]);have HP:=ae (show ∀i,0<c / 10 ^ i→10 ^ i≤c from fun i h=>Nat.le_of_not_lt fun h1=>by rw [Nat.div_eq_of_lt h1] at h;omega)
 have H7:=ae (show ∀i,(i≤1∨10 ^ (i-1)≤c)→i≤3 from fun i h=>by
  rcases h with h|h
  ·omega
  ·refine Nat.le_of_not_lt fun h1=>?_;have:(10:Nat) ^ 3≤10 ^ (i-1):=Nat.pow_le_pow_right (by decide) (by omega)
   omega)
 have HL:=ae (show ∀i,c / 10 ^ i<1000 from fun i=>Nat.lt_of_le_of_lt (Nat.div_le_self _ _) hc);go_enter Tryz.func178,Tryz.ntmps178;go_wp2_with fail;go_loopw [0,3,4] (fun nv sv iv wr=>∃i:Nat,i≤3∧(i≤1∨10 ^ (i-1)≤c)∧nv=.int .i64 ((c / 10 ^ i:Nat):Int)∧sv=.string (tx (uN i c))∧iv=.int .i64 i∧Below w.heap.size w wr) (fun _ _ iv _=>4-(intOf iv).toNat)
 case atStart=>exact ⟨0,by decide,.inl (by decide),by simp,rfl,rfl,Below.refl _ _⟩
 case round=>
  obtain ⟨i,R8,hi4,rfl,rfl,rfl,hE⟩:=hrel;have HI:=ae hi4;have hz:=HZ.out i;have hd:=ae (HD.out i);have hs:=ae (HS.out i);have hp:=ae (HP.out i);have he:=ae (HE.out i);have hl:=HL.out i;have h7:=ae (H7.out (i+1));clear hi4;generalize hN:c / 10 ^ i=N at *;generalize tx (uN i c)=S at *;clear hN;by_cases hgo:i=0∨0<N
  ·have WG:i+1≤1∨10 ^ (i+1-1)≤c:=by
    rcases hgo with h|h
    ·exact .inl (by omega)
    ·exact .inr (hp.out h)
   have JE:i+1≤3:=h7.out WG;have WI:=ae WG;clear WG;have hcv:=w_ wr #[.int .u8 (48+(N:Int) % 10)] 1 [48+N % 10] rfl (by simp [Nq]) (fun d hd=>by rw [List.mem_singleton.1 hd];omega);have E2:str [48+N % 10]=tx [UInt8.ofNat (48+N % 10)]:=rfl;rw [E2] at hcv;have sz:(tx [UInt8.ofNat (48+N % 10)]).size=1:=by rw [bn];rfl
   have hb:=ai (w:=wr) (.cells #[.int .u8 (48+(N:Int) % 10)] Xb);generalize tx [UInt8.ofNat (48+N % 10)]=D at *;by_cases hi3:i=0
   ·have z:((i:Int)==0)=true:=by simp;omega
    clear hgo;go_wp2;go_roundw
    case rel=>exact ⟨i+1,JE,WI.out,by rw [hd.out];simp,by rw [hs.out],by (first|rfl|(subst hi3;rfl)),ag hE hb⟩
    case measure=>simp [intOf];omega
   ·have hN0:0<N:=by omega
    have z:((i:Int)==0)=false:=by simp;omega
    clear hgo;go_wp2;go_roundw
    case rel=>exact ⟨i+1,JE,WI.out,by rw [hd.out];simp,by rw [hs.out],rfl,ag hE hb⟩
    case measure=>simp [intOf];omega
  ·obtain rfl:N=0:=by omega
   have E:=he.out (by omega) rfl HI.out;have z:((i:Int)==0)=false:=by simp;omega
   clear hgo;go_wp2;go_ret;exact ⟨rfl,hE⟩
theorem BH:∀(l:List Nat) (c:Nat),b_ (l++[c])=if l=[] then aS c else b_ l++32::aS c
 | [],c=>rfl
 | [a],c=>rfl
 | a::b::l,c=>by
   have ih:=BH (b::l) c;rw [if_neg (by simp)] at ih ⊢;show aS a++32::b_ (b::l++[c])=aS a++32::b_ (b::l)++32::aS c;rw [ih];simp
theorem vS:∀l:List Nat,(b_ l).length≤7*l.length
 | []=>by simp [b_]
 | [c]=>by have:=bJ c;simp only [b_,List.length_singleton];omega
 | c::d::l=>by
   have:=bJ c;have ih:=vS (d::l);simp only [b_,List.length_append,List.length_cons] at ih ⊢;omega
theorem Ua (a b c:List UInt8):tx a++tx b++tx c=tx (a++b++c):=by rw [cZ,cZ]
theorem GV {w:World} {m:Value} (r:aF) (hm:bD w m (ints r.map)) (hc:r.code<1114112) (hcl:r.cls<1000) (ko:r.map.length≤4) (hx:∀x∈r.map,x<1114112) :
 Calls Tryz.prog 143 #[.agg #[.int .i64 r.code,.int .i64 r.cls,m]] w fun e w'=>e=.returned (.string (tx (jh r)))∧Below w.heap.size w w':=by
 obtain ⟨n,hn⟩:=af r.map.length;obtain ⟨am,cm,rfl,_,hxm⟩:=bD.kS hm hn;have MC:=ae hxm;have HN:=ae hn;have HX:=ae hx;have HT:=ae (fun (W:World) (x:Nat) (h:x<1114112)=>j6 (w:=W) x h);have HD:=ae (fun (W:World)=>Ab (w:=W) r.cls hcl);have HT0:=ae (fun (W:World)=>j6 (w:=W) r.code hc);have HS:=ae (show ∀j,(tx (b_ (r.map.take j))).size≤7*j from fun j=>by rw [bn];have:=vS (r.map.take j);rw [List.length_take] at this;omega);have HH:=ae (show ∀c,(tx (aS c)).size≤6 from fun c=>by rw [bn];exact (bJ c).2);have HDd:=ae (show (tx (gD r.cls)).size≤3 from by rw [bn];exact (qU r.cls).2)
 have HL:=ae (show tx (aS r.code)++tx [59,88,59,59]++tx (gD r.cls)++tx [59,59]++tx (b_ r.map)++tx [59,59,59,59,59,59,59,59,59]=tx (jh r) from by
  unfold jh;rw [cZ,cZ,cZ,cZ,cZ])
 obtain ⟨code,hcode⟩:∃c:Nat,c=r.code:=⟨_,rfl⟩;obtain ⟨cls,hcls⟩:∃c:Nat,c=r.cls:=⟨_,rfl⟩;rw [←hn] at ko;rw [←hcode,←hcls];rw [←hcode] at HT0;rw [←hcls] at HD;obtain ⟨W0,hW⟩:=af (w.alloc (.cells #[.int .i64 code,.int .i64 cls,.slice am n cm] d_));have hb:Below w.heap.size w W0:=by rw [hW];exact ai _
 have d0:W0.cell? ⟨w.heap.size,0,none⟩=some (.int .i64 code):=by rw [hW];unfold World.cell?;rw [heap_alloc_new];rfl
 have d1:W0.cell? ⟨w.heap.size,1,none⟩=some (.int .i64 cls):=by rw [hW];unfold World.cell?;rw [heap_alloc_new];rfl
 have d2:W0.cell? ⟨w.heap.size,2,none⟩=some (.slice am n cm):=by rw [hW];unfold World.cell?;rw [heap_alloc_new];rfl
 have HC:=ae hcode;have HCL:=ae hcls;clear hm hxm hn hx hc hcl hcode hcls;go_enter Tryz.func143,Tryz.ntmps143;go_wp2_with fail;rw [←hW];clear hW;go_wp2_with fail;go_loopw [3,9] (fun sv iv wr=>∃j:Nat,j≤n∧iv=.int .i64 j∧sv=.string (tx (b_ (r.map.take j)))∧Below W0.heap.size W0 wr) (fun _ iv _=>n-(intOf iv).toNat)
 case atStart=>exact ⟨0,Nat.zero_le _,rfl,rfl,Below.refl _ _⟩
 case round=>
  obtain ⟨j,hj,rfl,rfl,hE⟩:=hrel;have dC:=hb.trans (hE.mono hb.size);by_cases hjn:j<n
  ·have hjl:j<r.map.length:=by have:=HN.out;omega
   obtain ⟨b,off,rfl,hbs,hc⟩:=MC.out j hjl;have hc:=aA dC hc;have hx:=HX.out _ (List.getElem_mem hjl);have ES:=ae (show b_ (r.map.take (j+1))=if r.map.take j=[] then aS r.map[j] else b_ (r.map.take j)++32::aS r.map[j] by rw [List.take_succ_eq_append_getElem hjl,BH]);have s1:=HS.out j;have s2:=HH.out r.map[j];generalize r.map[j]=x at *;have Bo:=ae (fun (W:World)=>HT.out W x hx);by_cases hj0:j=0
   ·have E0:=ae (show tx ([]:List UInt8)++tx (aS x)=tx (b_ (r.map.take (j+1))) by rw [ES.out,if_pos (by rw [hj0];rfl),cZ];rfl);have E1:b_ (r.map.take j)=[]:=by rw [hj0];rfl
    rw [E1] at s1 ⊢;generalize tx (aS x)=U at *;have z1:(tx ([]:List UInt8)).size=0:=rfl;generalize tx ([]:List UInt8)=S at *;have j0:¬0<j:=by omega
    clear ES E1 hx hj0;go_wp2_with fail;refine (Bo.out _).mono ?_;rintro e w2 ⟨rfl,h2⟩;go_wp2;go_roundw
    case rel=>exact ⟨j+1,by omega,rfl,congrArg Value.string E0.out,ag hE h2⟩
    case measure=>simp [intOf];omega
   ·have E0:=ae (show tx (b_ (r.map.take j))++tx [32]++tx (aS x)=tx (b_ (r.map.take (j+1))) by
     rw [ES.out,if_neg (fun h=>by have:=congrArg List.length h;rw [List.length_take,List.length_nil] at this;omega),Ua];simp)
    generalize tx (aS x)=U at *;generalize tx (b_ (r.map.take j))=S at *;have j0:0<j:=by omega
    have z0:(tx [32]).size=1:=rfl;have z1:(S++tx [32]).size=S.size+1:=by rw [ByteArray.size_append];rfl
    clear ES hx;go_wp2_with fail;refine (Bo.out _).mono ?_;rintro e w2 ⟨rfl,h2⟩;go_wp2;go_roundw
    case rel=>exact ⟨j+1,by omega,rfl,congrArg Value.string E0.out,ag hE h2⟩
    case measure=>simp [intOf];omega
  ·obtain rfl:j=n:=by omega
   have sm:=HS.out j;rw [List.take_of_length_le (by rw [HN.out];exact Nat.le_refl _)] at sm ⊢;have e0:=aA hE d0;have e1:=aA hE d1;have g0:=Gr.cell (ah wr) e0;have g1:=Gr.cell (ah wr) e1;have sh:=HH.out code;have sd:=HDd.out;rw [←HCL.out] at sd;have HLL:=ae (show tx (aS code)++tx [59,88,59,59]++tx (gD cls)++tx [59,59]++tx (b_ r.map)++tx [59,59,59,59,59,59,59,59,59]=tx (jh r) by rw [HC.out,HCL.out];exact HL.out);generalize tx (aS code)=U at *;generalize tx (gD cls)=D at *;generalize tx (b_ r.map)=M at *;have q1:¬9223372036854775807<U.size+4:=by omega
   have q2:¬9223372036854775807<U.size+4+D.size:=by omega
   have q3:¬9223372036854775807<U.size+4+D.size+2:=by omega
   have q4:¬9223372036854775807<U.size+4+D.size+2+M.size:=by omega
   have q5:¬9223372036854775807<U.size+4+D.size+2+M.size+9:=by omega
   go_wp2_with fail;refine aD (Array.replicate 13 true) 13 0 mixed (by rfl) ?_;refine ay [0,1,4,5,9] 8 rfl (by kernel_rfl) ?_
   iterate 5 (refine aC rfl ?_;go_big_quiet_step (rfl))
   refine ak ?_;refine aL 2 (by kernel_rfl) rfl ?_;go_wp2_with fail;refine (HT0.out _).mono ?_;rintro e Zl ⟨rfl,Mh⟩;go_wp2_with fail;refine aH Mh ?_;refine ay [3] 6 rfl (by kernel_rfl) ?_
   iterate 1 (refine aC rfl ?_;go_big_quiet_step (rfl))
   refine ak ?_;refine aL 6 (by kernel_rfl) rfl ?_;go_wp2_with fail;refine (HD.out _).mono ?_;rintro e Jc ⟨rfl,Bv⟩;go_wp2_with fail;refine aH Bv ?_;refine ay [7,8,10,11,12] 0 rfl (by kernel_rfl) ?_
   iterate 5 (refine aC rfl ?_;go_big_quiet_step (rfl))
   refine ak ?_;refine aI [] (by kernel_rfl) ?_;refine tail_nil ?_;go_wp2;go_ret;exact ⟨congrArg (fun x=>Ending.returned (.string x)) HLL.out,dC.trans ((ag (ag (ah wr) Mh) Bv).mono dC.size)⟩
theorem vT (l:List (List UInt8)) (x:List UInt8):bq (l++[x])=bq l++(x++[10]):=by simp [bq]
theorem Dy {T:List aF} (h:∀r∈T,r.map.length≤2):(gF T).length≤38*T.length:=by
 induction T with
 | nil=>simp [gF,bq]
 | cons r T ih=>
   have h1:=Ai (h r (List.mem_cons_self ..));have h2:=ih fun q hq=>h q (List.mem_cons_of_mem _ hq);simp only [gF,bq,List.map_cons,List.flatMap_cons,List.length_append,List.length_cons,List.length_nil] at h2 ⊢;omega
theorem GX {w:World} {v:Value} {T:List aF} (h:uQ w v T) (hT:∀r∈T,r.code<1114112∧r.cls<1000∧r.map.length≤2∧∀x∈r.map,x<1114112) (hl:T.length<1000000) :
 Calls Tryz.prog 105 #[v] w fun e w'=>e=.returned (.string (tx (gF T)))∧Below w.heap.size w w':=by
 obtain ⟨a,cap,rfl,_,hx⟩:=h;obtain ⟨n,hn⟩:=af T.length;rw [←hn] at hl ⊢;have HN:=ae hn;have HX:=ae hx;have Mq:=ae hT;have HS:=ae (show ∀j,(tx (gF (T.take j))).size≤38*j from fun j=>by rw [bn];have:=Dy (T:=T.take j) (fun r hr=>(hT r (List.mem_of_mem_take hr)).2.2.1);rw [List.length_take] at this;omega);clear hx hn hT;go_enter Tryz.func105,Tryz.ntmps105;go_wp2_with fail;go_loopw [3,8] (fun sv iv wr=>∃j:Nat,j≤n∧iv=.int .i64 j∧sv=.string (tx (gF (T.take j)))∧Below w.heap.size w wr) (fun _ iv _=>n-(intOf iv).toNat)
 case atStart=>exact ⟨0,Nat.zero_le _,rfl,rfl,Below.refl _ _⟩
 case round=>
  obtain ⟨j,hj,rfl,rfl,hE⟩:=hrel;by_cases hjn:j<n
  ·have hjl:j<T.length:=by have:=HN.out;omega
   obtain ⟨b,off,m,rfl,hbs,c0,c1,c2,hm⟩:=HX.out j hjl;have c0:=aA hE c0;have c1:=aA hE c1;have c2:=aA hE c2;have hm:=hm.mono hE;obtain ⟨h1,h2,h3,h4⟩:=Mq.out _ (List.getElem_mem hjl)
   have ES:=ae (show tx (gF (T.take j))++(tx (jh T[j])++tx [10])=tx (gF (T.take (j+1))) by
    rw [cZ,cZ,List.take_succ_eq_append_getElem hjl];unfold gF;rw [List.map_append,List.map_singleton,vT])
   have s1:=HS.out j;have s2:(tx (jh T[j])).size≤37:=by rw [bn];exact Ai h3
   generalize T[j]=q at *;have LI:=ae (fun (W:World) (E:Below wr.heap.size wr W)=>GV (w:=W) q (hm.mono E) h1 h2 (by omega) h4);obtain ⟨nm,hnm⟩:=af q.map.length;obtain ⟨am,cm,rfl,_,_⟩:=bD.kS hm hnm;generalize tx (jh q)=U at *;generalize tx (gF (T.take j))=S at *;have q1:¬9223372036854775807<U.size+1:=by omega
   have q2:¬9223372036854775807<S.size+(U.size+1):=by omega
   have hb:=ai (w:=wr) (.cells #[.int .i64 q.code,.int .i64 q.cls,.slice am nm cm] d_);clear hm hnm h4;go_wp2_with fail;refine (LI.out _ hb).mono ?_;rintro e w2 ⟨rfl,h2⟩;go_wp2;go_roundw
   case rel=>exact ⟨j+1,by omega,rfl,congrArg Value.string ES.out,ag hE (ag hb h2)⟩
   case measure=>simp [intOf];omega
  ·obtain rfl:j=n:=by omega
   rw [List.take_of_length_le (by rw [HN.out];exact Nat.le_refl _)];go_wp2;go_ret;exact ⟨rfl,hE⟩
theorem yX:∀(l s:List Nat) (c:Nat),dz s (l++[c])=if c∈s++l then dz s l else dz s l++[c]
 | [],s,c=>by
   by_cases h:c∈s
   ·simp [dz,h]
   ·simp [dz,h]
 | a::l,s,c=>by
   have ih:=yX l (s++[a]) c;have e:c∈s++[a]++l↔c∈s++a::l:=by simp
   show (if a∈s then dz (s++[a]) (l++[c]) else a::dz (s++[a]) (l++[c]))=_;show _=if c∈s++a::l then (if a∈s then dz (s++[a]) l else a::dz (s++[a]) l) else (if a∈s then dz (s++[a]) l else a::dz (s++[a]) l)++[c];rw [ih];by_cases h:c∈s++a::l
   ·rw [if_pos (e.2 h),if_pos h]
   ·rw [if_neg (fun x=>h (e.1 x)),if_neg h]
    split <;> rfl
theorem BI:∀(l s:List Nat),(dz s l).length≤l.length
 | [],_=>Nat.le_refl _
 | a::l,s=>by
   have:=BI l (s++[a]);unfold dz
   split
   ·simp only [List.length_cons];omega
   ·simp only [List.length_cons];omega
theorem Dz (X:List Nat):(dS X).length≤7*X.length:=by
 have h:∀l:List Nat,(bq (l.map aS)).length≤7*l.length:=by
  intro l
  induction l with
  | nil=>simp [bq]
  | cons c l ih=>
    have:=bJ c;simp only [bq,List.map_cons,List.flatMap_cons,List.length_append,List.length_cons,List.length_nil] at ih ⊢;omega
 have h1:=h (dz [] X);have h2:=BI X [];unfold dS;omega
theorem JF (l:List Nat) (c:Nat):dS (l++[c])=if c∈l then dS l else dS l++(aS c++[10]):=by
 unfold dS;rw [yX,List.nil_append]
 split
 ·rfl
 ·rw [List.map_append,List.map_singleton,vT]
theorem Ql {w:World} {v:Value} {T:List aF} {X:List Nat} (h:iw w v T X) (hT:∀r∈T,r.code<1114112∧r.cls<1000∧r.map.length≤2∧∀x∈r.map,x<1114112) (hl:T.length<1000000) (hX:∀x∈X,x<1114112) (Xj:X.length<1000000) :
 Calls Tryz.prog 66 #[v] w fun e w'=>e=.returned (.tuple #[.string (tx (gF T)),.string (tx (dS X))])∧Below w.heap.size w w':=by
 obtain ⟨r,x,rfl,hr,hx⟩:=h;have HR:=ae hr;obtain ⟨a,cap,rfl,_,_⟩:=hr;obtain ⟨nt,hnt⟩:∃n,n=T.length:=⟨_,rfl⟩;rw [←hnt] at HR ⊢;obtain ⟨n,hn⟩:=af X.length;obtain ⟨ax,cx,rfl,hcx,SE⟩:=bD.kS hx hn;have HN:=ae hn;have HX:=ae SE;have HXC:=ae hX;have TX:=ae (fun (W:World) (E:Below w.heap.size w W)=>GX (HR.out.mono E) hT hl);have HT:=ae (fun (W:World) (x:Nat) (h:x<1114112)=>j6 (w:=W) x h);have HS:=ae (show ∀j,(tx (dS (X.take j))).size≤7*j from fun j=>by rw [bn];have:=Dz (X.take j);rw [List.length_take] at this;omega);have HH:=ae (show ∀c,(tx (aS c)).size≤6 from fun c=>by rw [bn];exact (bJ c).2);obtain ⟨W0,hW⟩:=af (w.alloc (.cells #[.slice a nt cap,.slice ax n cx] 25));have hb:Below w.heap.size w W0:=by rw [hW];exact ai _
 have d0:W0.cell? ⟨w.heap.size,0,none⟩=some (.slice a nt cap):=by rw [hW];unfold World.cell?;rw [heap_alloc_new];rfl
 have d1:W0.cell? ⟨w.heap.size,1,none⟩=some (.slice ax n cx):=by rw [hW];unfold World.cell?;rw [heap_alloc_new];rfl
 rw [←hn] at Xj;clear hx SE hn hT hX hnt hl;go_enter Tryz.func66,Tryz.ntmps66;go_wp2_with fail;rw [←hW];clear hW;go_wp2_with fail;go_loopw [4,13] (fun sv iv wr=>∃j:Nat,j≤n∧iv=.int .i64 j∧sv=.string (tx (dS (X.take j)))∧Below W0.heap.size W0 wr) (fun _ iv _=>n-(intOf iv).toNat)
 case atStart=>exact ⟨0,Nat.zero_le _,rfl,rfl,Below.refl _ _⟩
 case round=>
  obtain ⟨j,hj,rfl,rfl,hE⟩:=hrel;have dC:=hb.trans (hE.mono hb.size);have e1:=aA hE d1;by_cases hjn:j<n
  ·have hjl:j<X.length:=by have:=HN.out;omega
   obtain ⟨b,off,rfl,hbs,hc⟩:=HX.out j hjl;have hc:=aA dC hc;have hx:=HXC.out _ (List.getElem_mem hjl);have ES:=ae (show dS (X.take (j+1))=if X[j]∈X.take j then dS (X.take j) else dS (X.take j)++(aS X[j]++[10]) by rw [List.take_succ_eq_append_getElem hjl,JF]);have s1:=HS.out j;have s2:=HH.out X[j];generalize X[j]=x at *;have Bo:=ae (fun (W:World)=>HT.out W x hx);obtain ⟨wo,jf⟩:∃w',w'=wr:=⟨_,rfl⟩;subst jf;clear hx;go_wp2_with fail;go_loopw [7,23] (fun dv kv w2=>∃(k:Nat) (d:Bool),k≤j∧kv=.int .i64 k∧dv=.bool d∧(d=true↔x∈X.take k)∧w2=wo) (fun _ kv _=>j-(intOf kv).toNat)
   case atStart=>exact ⟨0,false,Nat.zero_le _,rfl,rfl,by simp,(by first|rfl|trivial)⟩
   case round=>
    obtain ⟨k,d,hk,rfl,rfl,hd,rfl⟩:=hrel;have HD:=ae hd;clear hd;by_cases hkj:k<j
    ·have hkl:k<X.length:=by have:=HN.out;omega
     obtain ⟨b2,oQ,eb,_,hz⟩:=HX.out k hkl;simp only [Option.some.injEq,Addr.mk.injEq,and_true] at eb;obtain ⟨rfl,rfl⟩:=eb;have hz:=aA dC hz;have EK:=ae (show x∈X.take (k+1)↔x∈X.take k∨x=X[k] by rw [List.take_succ_eq_append_getElem hkl,List.mem_append,List.mem_singleton]);generalize X[k]=y at *;cases d with
     | true=>
       go_wp2;go_roundw
       case rel=>exact ⟨k+1,true,by omega,rfl,rfl,by rw [EK.out];simp [HD.out.1 rfl],(by first|rfl|trivial)⟩
       case measure=>simp [intOf];omega
     | false=>
       by_cases hxy:y=x
       ·have z:((y:Int)==(x:Int))=true:=by simp;omega
        have QO:=ae hxy;clear hxy;go_wp2;go_roundw
        case rel=>exact ⟨k+1,true,by omega,rfl,rfl,by rw [EK.out];simp [QO.out],(by first|rfl|trivial)⟩
        case measure=>simp [intOf];omega
       ·have z:((y:Int)==(x:Int))=false:=by simp;omega
        have QO:=ae hxy;clear hxy;go_wp2;go_roundw
        case rel=>exact ⟨k+1,false,by omega,rfl,rfl,by rw [EK.out,←HD.out];simp;exact fun e=>QO.out e.symm,(by first|rfl|trivial)⟩
        case measure=>simp [intOf];omega
    ·obtain rfl:j=k:=by omega
     cases d with
     | true=>
       have E0:=ae (show tx (dS (X.take j))=tx (dS (X.take (j+1))) by rw [ES.out,if_pos (HD.out.1 rfl)]);generalize tx (dS (X.take j))=S at *;clear ES;go_wp2;go_roundw
       case rel=>exact ⟨j+1,by omega,rfl,congrArg Value.string E0.out,hE⟩
       case measure=>simp [intOf];omega
     | false=>
       have E0:=ae (show tx (dS (X.take j))++(tx (aS x)++tx [10])=tx (dS (X.take (j+1))) by rw [ES.out,if_neg (fun h=>by have:=HD.out.2 h;cases this),cZ,cZ]);generalize tx (dS (X.take j))=S at *;generalize tx (aS x)=U at *;have q1:¬9223372036854775807<U.size+1:=by omega
       have q2:¬9223372036854775807<S.size+(U.size+1):=by omega
       clear ES;go_wp2_with fail;refine (Bo.out _).mono ?_;rintro e w3 ⟨rfl,h3⟩;go_wp2;go_roundw
       case rel=>exact ⟨j+1,by omega,rfl,congrArg Value.string E0.out,ag hE h3⟩
       case measure=>simp [intOf];omega
  ·obtain rfl:n=j:=by omega
   rw [List.take_of_length_le (by rw [HN.out];exact Nat.le_refl _)];have e0:=aA hE d0;have TX2:=ae (TX.out _ dC);go_wp2_with fail;refine TX2.out.mono ?_;rintro e w3 ⟨rfl,h3⟩;go_wp2;go_ret2;exact ⟨rfl,dC.trans (h3.mono dC.size)⟩
structure JG (T:List aF) (X:List Nat):Prop where
 valid:bE T X
 says:∀q∈T,0<q.cls∨q.map≠[]
 len:T.length≤20
 aan:X.length≤30
 aao:∀y∈X,aX y
def wF (w:World) (k:Nat):Prop:=∃cs T,Is w k cs T∧∀u∈cs.toList,∃a n c,u=.slice a n c
theorem wF.int {w:World} {k o:Nat} (h:wF w k) {q:IntKind} {x:Int} (hc:w.cell? ⟨k,o,none⟩=some (.int q x)):False:=by
 obtain ⟨cs,T,h1,h2⟩:=h;rw [h1.cell] at hc;have hm:Value.int q x∈cs.toList:=by rw [←Array.getElem?_toList] at hc;exact List.mem_of_getElem? hc
 obtain ⟨a,n,c,e⟩:=h2 _ hm;cases e
theorem qO {w:World} {k o b o':Nat} {u:Value} (hb:b≠k):(w.setCell ⟨k,o,none⟩ u).cell? ⟨b,o',none⟩=w.cell? ⟨b,o',none⟩:=
 World.cell?_of_block (a:=⟨b,o',none⟩) (Below.heap_setCell _ _ _ _ (by simp only;exact fun e=>hb e))
theorem bD.yY {w:World} {v:Value} {l:List Nat} (h:bD w v (ints l)) {k:Nat} (hk:wF w k) (o:Nat) (u:Value):bD (w.setCell ⟨k,o,none⟩ u) v (ints l):=by
 obtain ⟨a,cap,hv,hc,h⟩:=h;refine ⟨a,cap,hv,hc,?_⟩;rcases h with h|⟨b,off,cs,e,fr,ha,hh,hx⟩
 ·exact .inl h
 ·cases hl:l with
  | nil=>subst hl;exact .inl ⟨rfl,fun e=>by rw [ha] at e;cases e⟩
  | cons x l'=>
    subst hl;have hbk:b≠k:=fun e1=>by
     subst e1;have h0:=hx 0 (by simp);refine hk.int (o:=off) (q:=.i64) (x:=(x:Nat)) ?_;unfold World.cell?;rw [hh];simpa [ints] using h0
    exact .inr ⟨b,off,cs,e,fr,ha,(Below.heap_setCell _ _ _ _ (by simp only;exact fun e=>hbk e)).trans hh,hx⟩
theorem bD.jL {w:World} {v:Value} {l:List Nat} (h:bD w v (aN l)) {k:Nat} (hk:wF w k) (o:Nat) (u:Value):bD (w.setCell ⟨k,o,none⟩ u) v (aN l):=by
 obtain ⟨a,cap,hv,hc,h⟩:=h;refine ⟨a,cap,hv,hc,?_⟩;rcases h with h|⟨b,off,cs,e,fr,ha,hh,hx⟩
 ·exact .inl h
 ·cases hl:l with
  | nil=>subst hl;exact .inl ⟨rfl,fun e=>by rw [ha] at e;cases e⟩
  | cons x l'=>
    subst hl;have hbk:b≠k:=fun e1=>by
     subst e1;have h0:=hx 0 (by simp);refine hk.int (o:=off) (q:=.i32) (x:=(x:Nat)) ?_;unfold World.cell?;rw [hh];simpa [aN] using h0
    exact .inr ⟨b,off,cs,e,fr,ha,(Below.heap_setCell _ _ _ _ (by simp only;exact fun e=>hbk e)).trans hh,hx⟩
theorem dZ.put {w:World} {p k:Nat} {T:List aF} {X:List Nat} (h:dZ w p T X) {cs:Array Value} {t:TypeId} (hk:Is w k cs t) (hs:wF w k) (hz:cs.size≤100) (h1:133≠t) (h2:fE≠t) (h3:103≠t) (h4:aM≠t) (o:Nat) (u:Value) :
 dZ (w.setCell ⟨k,o,none⟩ u) p T X:=by
 obtain ⟨E,rv,xv,ev,bM,jM,cp,pp,iv,sv,mv,d,p1,p2,s1,s2,s3,x1⟩:=h;have c:=bK.put (o:=o) hk u;obtain ⟨R,r1,r2,r3⟩:=d.rows;obtain ⟨G,g1,g2,g3⟩:=d.bm
 exact ⟨E,rv,xv,ev,bM,jM,cp,pp,iv,sv,mv,⟨c.is d.is h1,⟨R,r1,c.own r2 h2,fun x hx=>c.own (r3 x hx) h4⟩,c.own d.mM h3,d.kX,fun x hx=>c.own (d.full x hx) h4,fun x hx=>c.own (d.maps x hx) h4,d.nP,
  ⟨G,c.map g1,fun x u hg=>by obtain ⟨y,e,hv⟩:=g2 x u hg;exact ⟨y,e,c.own hv h4⟩,g3⟩,c.map d.jm⟩,p1.put hk hz u,p2.put hk hz u,c.own s1 h4,c.own s2 h4,c.own s3 h4,bD.jL x1 hs o u⟩
theorem iw.yY {w:World} {v:Value} {T:List aF} {X:List Nat} (h:iw w v T X) {k:Nat} (hk:wF w k) (o:Nat) (u:Value):iw (w.setCell ⟨k,o,none⟩ u) v T X:=by
 obtain ⟨r,x,hv,⟨a,cap,hr,hc,hx⟩,h2⟩:=h;refine ⟨r,x,hv,⟨a,cap,hr,hc,fun i hi=>?_⟩,bD.yY h2 hk o u⟩;obtain ⟨b,off,m,ha,hbs,e1,e2,e3,e4⟩:=hx i hi;have hbk:b≠k:=fun e=>hk.int (e▸e1);exact ⟨b,off,m,ha,by simpa using hbs,(qO hbk).trans e1,(qO hbk).trans e2,(qO hbk).trans e3,bD.yY e4 hk o u⟩
theorem JH {T:List aF} {X:List Nat} (h:JG T X):Ic T:=by
 refine ⟨fun r hr=>?_,fun r hr=>(h.says r hr).imp (fun h=>by omega) id,fun r hr=>(h.valid.fine r hr).1,h.valid.rise,by have:=h.len;omega⟩;obtain ⟨h1,h2,h3,_,h5⟩:=h.valid.fine r hr;exact ⟨h1.1,h2,h3,fun x hx=>(h5 x hx).2.1⟩
theorem MM {r:aF} (h:r.map.length≤2):(jh r).length≤100:=by
 have h1:=bJ r.code;have h2:(gD r.cls).length≤3:=by unfold gD;split <;> (try split) <;> simp
 have h3:(b_ r.map).length≤13:=by
  match r.map,h with
  | [],_=>simp [b_]
  | [a],_=>have:=bJ a;simp [b_];omega
  | [a,b],_=>have:=bJ a;have:=bJ b;simp [b_];omega
 unfold jh;simp only [List.length_append,List.length_cons,List.length_nil];omega
theorem MN {T:List aF} {X:List Nat} (h:JG T X):(gF T).length<1000000:=by
 have key:∀L:List aF,(∀r∈L,r.map.length≤2)→(gF L).length≤101*L.length:=fun L=>by
  induction L with
  | nil=>intro _;simp [gF,bq]
  | cons r L ih=>
    intro hl;have h1:=ih fun r hr=>hl r (by simp [hr]);have h2:=MM (hl r (by simp));unfold gF bq at h1 ⊢;rw [List.map_cons,List.flatMap_cons,List.length_append,List.length_append,List.length_cons];simp only [List.length_cons,List.length_nil];omega
 have:=key T fun r hr=>(h.valid.fine r hr).2.2.1;have:=h.len;omega
theorem GY {T:List aF} {X:List Nat} (h:JG T X):(∀r∈T,r.code<1114112∧r.cls<1000∧r.map.length≤2∧∀x∈r.map,x<1114112)∧(∀x∈X,x<1114112):=
 ⟨fun r hr=>by
   obtain ⟨h1,h2,h3,_,h5⟩:=h.valid.fine r hr
   exact ⟨h1.1,by omega,h3,fun x hx=>(h5 x hx).2.1⟩,fun x hx=>(h.aao x hx).1⟩
theorem MO {w:World} (hG:bZ w) {v:Value} {T:List fM} {X:List Int} (h:JC w v T X) :
 Calls Tryz.prog 29 #[v] w fun e w'=>∃p r T' X',e=.returned (.tuple #[.pointer (some ⟨p,0,none⟩),r])∧dZ w' p T' X'∧iw w' r T' X'∧JG T' X'∧Below w.heap.size w w':=by
 obtain ⟨r1,x1,rfl,hr1,hx1⟩:=id h;obtain ⟨ra,nt,rc,rfl⟩:∃a n c,r1=.slice a n c:=by obtain ⟨a,cap,rfl,_⟩:=hr1;exact ⟨_,_,_,rfl⟩
 obtain ⟨xa,nx,xc,rfl⟩:∃a n c,x1=.slice a n c:=by obtain ⟨a,cap,rfl,_⟩:=hx1.out;exact ⟨_,_,_,rfl⟩
 obtain ⟨w1,hw1⟩:=af ((w.alloc (.cells #[.slice ra nt rc,.slice xa nx xc] 25)).alloc (.cells #[.slice none 0 0,.slice none 0 0] 25));have hb1:Below w.heap.size w w1:=by rw [hw1];exact dF _ _
 have k1:Is w1 w.heap.size #[.slice ra nt rc,.slice xa nx xc] 25:=by rw [hw1];exact (Is.new _ _ _).mono (ai _)
 have j1:Is w1 (w.heap.size+1) #[.slice none 0 0,.slice none 0 0] 25:=by rw [hw1];exact Is.new' _ _ _ _ (by simp)
 have RT:=ae (Qj (h.mono hb1));have e0:=k1.at 0 rfl;have e1:=k1.at 1 rfl;clear h hr1 hx1;go_enter Tryz.func29,Tryz.ntmps29;go_wp2_with fail;rw [←hw1];clear hw1;refine RT.out.mono ?_;rintro e w2 ⟨r,T',X',rfl,hT,hV,hS,hl,Xj,Us,hb2⟩;have HT:=ae hT;obtain ⟨r2,x2,rfl,hr2,hx2⟩:=hT;obtain ⟨Ku,Kv,Kw,rfl⟩:∃a n c,r2=.slice a n c:=by obtain ⟨a,cap,rfl,_⟩:=hr2;exact ⟨_,_,_,rfl⟩
 obtain ⟨Qm,Qn,Qo,rfl⟩:∃a n c,x2=.slice a n c:=by obtain ⟨a,cap,rfl,_⟩:=hx2.out;exact ⟨_,_,_,rfl⟩
 have hF:JG T' X':=⟨hV,hS,hl,Xj,Us⟩;have HF:=ae hF;clear hV hS hl Xj Us hr2 hx2 e0 e1 RT hF;have iC:=ag hb1 hb2;have k2:=k1.mono hb2;have j2:=j1.mono hb2;have hs2:w.heap.size+1<w2.heap.size:=by have:=j2.lt;omega
 have e0:=k2.at 0 rfl;have e1:=k2.at 1 rfl;have f0:=k2.frozen 0;have f1:=k2.frozen 1;obtain ⟨w3,hw3⟩:=af ((w2.setCell ⟨w.heap.size,0,none⟩ (.slice Ku Kv Kw)).setCell ⟨w.heap.size,1,none⟩ (.slice Qm Qn Qo));have sb2:wF w2 w.heap.size:=⟨_,_,k2,by simp⟩;have k2':=k2.set 0 (.slice Ku Kv Kw);have aap:wF (w2.setCell ⟨w.heap.size,0,none⟩ (.slice Ku Kv Kw)) w.heap.size:=⟨_,_,k2',by simp⟩;have XM:iw w3 (.agg #[.slice Ku Kv Kw,.slice Qm Qn Qo]) T' X':=by rw [hw3];exact (HT.out.yY sb2 0 _).yY aap 1 _
 have k3:Is w3 w.heap.size #[.slice Ku Kv Kw,.slice Qm Qn Qo] 25:=by rw [hw3];exact k2'.set 1 _
 have j3:Is w3 (w.heap.size+1) #[.slice none 0 0,.slice none 0 0] 25:=by rw [hw3];exact (j2.put (by omega) _).put (by omega) _
 have hb3:Below w.heap.size w w3:=by rw [hw3];exact aj (aj iC (Nat.le_refl _)) (Nat.le_refl _)
 have hF:=HF.out;have TX:=ae (Ql XM (GY hF).1 (by have:=hF.len;omega) (GY hF).2 (by have:=hF.aan;omega));have HT3:=ae XM;have LD:=ae (fun (W:World) (E:Below w.heap.size w W)=>FV (hG.mono E) (JH hF) (MN hF) hF.valid (fun r hr=>(hF.says r hr).imp (fun h=>by omega) id) (by have:=hF.len;omega) (by have:=hF.aan;omega) hF.aao);obtain ⟨s1,hs1⟩:∃s,s=tx (gF T'):=⟨_,rfl⟩;obtain ⟨s2,WJ⟩:∃s,s=tx (dS X'):=⟨_,rfl⟩;rw [←hs1,←WJ] at TX;rw [←hs1,←WJ] at LD;clear XM sb2 aap k2' k1 j1 k2 j2 hF hs1 WJ HT hG;go_wp2_with fail;rw [←hw3];clear hw3 e0 e1 f0 f1;have e0:=k3.at 0 rfl;have e1:=k3.at 1 rfl;go_wp2_with fail;refine TX.out.mono ?_;rintro e w4 ⟨rfl,hb4⟩;have I5:=ag hb3 hb4;clear e0 e1;go_wp2_with fail;refine (LD.out w4 I5).mono ?_;rintro e w5 ⟨p,rfl,hD,hb5⟩;have FQ:=ag hb4 hb5;have k5:=k3.mono FQ;have j5:=j3.mono FQ;have e0:=k5.at 0 rfl;have e1:=k5.at 1 rfl;have g0:=j5.at 0 rfl;have g1:=j5.at 1 rfl;have q0:=j5.frozen 0;have q1:=j5.frozen 1;have hT5:=HT3.out.mono FQ;have HT5:=ae hT5;have HD:=ae hD;have J5:=ae j5;have aes:Below w.heap.size w w5:=ag I5 hb5;clear hT5 hD k5 j5 k3 j3 TX LD;go_wp2_with fail;go_region;have j5:=J5.out;have sb5:wF w5 (w.heap.size+1):=⟨_,_,j5,by simp⟩;have j5':=j5.set 0 (.slice Ku Kv Kw);have WK:wF (w5.setCell ⟨w.heap.size+1,0,none⟩ (.slice Ku Kv Kw)) (w.heap.size+1):=⟨_,_,j5',by simp⟩;have hD6:=(HD.out.put j5 sb5 (show 2≤100 by omega) (by decide) (by decide) (by decide) (by decide) 0 (.slice Ku Kv Kw)).put j5' WK (show 2≤100 by omega) (by decide) (by decide) (by decide) (by decide) 1 (.slice Qm Qn Qo);have Tx:=(HT5.out.yY sb5 0 (.slice Ku Kv Kw)).yY WK 1 (.slice Qm Qn Qo);have k6:=j5'.set 1 (.slice Qm Qn Qo);have hb6:=(aj (off:=1) (u:=.slice Qm Qn Qo) (aj (off:=0) (u:=.slice Ku Kv Kw) aes (Nat.le_succ _)) (Nat.le_succ _)).drew;obtain ⟨w6,wH⟩:=af (((w5.setCell ⟨w.heap.size+1,0,none⟩ (.slice Ku Kv Kw)).setCell ⟨w.heap.size+1,1,none⟩ (.slice Qm Qn Qo)).drew);have k7:Is w6 (w.heap.size+1) #[.slice Ku Kv Kw,.slice Qm Qn Qo] 25:=by rw [wH];exact k6.mono (ah _)
 have v0:=k7.at 0 rfl;have v1:=k7.at 1 rfl;have HD6:=ae (show dZ w6 p T' X' from by rw [wH];exact hD6.mono (ah _));have HT6:=ae (show iw w6 (.agg #[.slice Ku Kv Kw,.slice Qm Qn Qo]) T' X' from by rw [wH];exact Tx.mono (ah _));rw [←wH] at hb6 ⊢;clear wH hD6 Tx k6 k7 sb5 WK j5 j5' e0 e1 g0 g1 q0 q1;go_wp2_with fail;exact bodyPost_ret (v:=.tuple #[.pointer (some ⟨p,0,none⟩),.agg #[.slice Ku Kv Kw,.slice Qm Qn Qo]]) (by simp [results,Tryz.results29,go_sem,v0,v1]) rfl ⟨p,_,T',X',rfl,HD6.out,HT6.out,HF.out,hb6⟩
theorem UX (i:Int) {S:Nat} (h:1≤S) (hS:S≤281474976710656):∃A:Nat,A<S∧(wrap64 (i.tmod (S:Int)+(S:Int))).tmod (S:Int)=(A:Int):=by
 have h1:-(S:Int)<i.tmod (S:Int):=Int.neg_lt_of_neg_lt (by have:=Int.tmod_lt_of_pos (-i) (show (0:Int)<(S:Int) by omega);rw [Int.neg_tmod] at this;exact this);have h2:i.tmod (S:Int)<(S:Int):=Int.tmod_lt_of_pos i (by omega);generalize i.tmod (S:Int)=q at *;obtain ⟨m,hm⟩:∃m:Nat,q+(S:Int)=(m:Int):=⟨(q+(S:Int)).toNat,by omega⟩;have h3:wrap64 (q+(S:Int))=(m:Int):=by rw [hm];unfold wrap64;omega
 rw [h3,←Int.ofNat_tmod];exact ⟨m % S,Nat.mod_lt _ h,rfl⟩
def BJ (w:World) (v:Value) (T:List fM) (X:List Int) (pk mr:List Int):Prop:=∃r x p m,v=.agg #[r,x,p,m]∧JC w (.agg #[r,x]) T X∧bD w p (bH pk)∧bD w m (bH mr)
theorem BJ.mono {w w':World} {v:Value} {T:List fM} {X pk mr:List Int} (h:BJ w v T X pk mr) (hb:Below w.heap.size w w'):BJ w' v T X pk mr:=by
 obtain ⟨r,x,p,m,hv,h1,h2,h3⟩:=h;exact ⟨r,x,p,m,hv,h1.mono hb,h2.mono hb,h3.mono hb⟩
theorem Ub {w:World} (hG:bZ w) {v:Value} {T0:List fM} {X0 pk mr:List Int} (h:BJ w v T0 X0 pk mr) (hmr:mr.length<281474976710656) (most:Nat) (agT:most≤100) :
 Calls Tryz.prog 7 #[v,.int .i64 most] w fun e w'=>∃p r T X lv L,e=.returned (.tuple #[.pointer (some ⟨p,0,none⟩),r,lv,.bool true])∧dZ w' p T X∧iw w' r T X∧JG T X∧bD w' lv (ints L)∧L.length≤most∧(∀c∈L,aX c)∧Below w.heap.size w w':=by
 obtain ⟨r0,x0,pv,mv,rfl,hT,hp,hm⟩:=h;obtain ⟨r0',x0',he,hr0,hx0⟩:=id hT;simp only [Value.agg.injEq,Array.mk.injEq,List.cons.injEq,and_true] at he;obtain ⟨rfl,rfl⟩:=he;obtain ⟨ra,nt,rc,rfl⟩:∃a n c,r0=.slice a n c:=by obtain ⟨a,cap,rfl,_⟩:=hr0;exact ⟨_,_,_,rfl⟩
 obtain ⟨xa,nx,xc,rfl⟩:∃a n c,x0=.slice a n c:=by obtain ⟨a,cap,rfl,_⟩:=hx0.out;exact ⟨_,_,_,rfl⟩
 obtain ⟨np,Nb⟩:=af pk.length;obtain ⟨nm,hnm⟩:=af mr.length;obtain ⟨pa,pc,rfl,_,hpx⟩:=Go.Proofs.YtjidohgiigjifaaGreatDoor.bD.GH hp Nb;obtain ⟨ma,mc,rfl,_,hmx⟩:=Go.Proofs.YtjidohgiigjifaaGreatDoor.bD.GH hm hnm;obtain ⟨w0,hw0⟩:=af ((w.alloc (.cells #[.slice ra nt rc,.slice xa nx xc,.slice pa np pc,.slice ma nm mc] 27)).alloc (.cells #[.slice none 0 0,.slice none 0 0] 25));have hb0:Below w.heap.size w w0:=by rw [hw0];exact dF _ _
 have k0:Is w0 w.heap.size #[.slice ra nt rc,.slice xa nx xc,.slice pa np pc,.slice ma nm mc] 27:=by rw [hw0];exact (Is.new _ _ _).mono (ai _)
 have k1:Is w0 (w.heap.size+1) #[.slice none 0 0,.slice none 0 0] 25:=by rw [hw0];exact Is.new' _ _ _ _ (by simp)
 have LD:=ae (MO (hG.mono hb0) (hT.mono hb0));have e0:=k0.at 0 rfl;have e1:=k0.at 1 rfl;have HP:=ae hpx;have HM:=ae hmx;have QC:=ae Nb;have qh:=ae hnm;have ZW:w.heap.size+2≤w0.heap.size:=by rw [hw0];simp
 clear hG hT hr0 hx0 hp hm Nb hnm hpx hmx;go_enter Tryz.func7,Tryz.ntmps7;go_wp2_with fail;rw [←hw0];clear hw0;refine LD.out.mono ?_;rintro e w1 ⟨p,r,T,X,rfl,hD,Uc,hF,hb1⟩;obtain ⟨rr,rx,rfl,⟨a1,c1,rfl,_,hrw⟩,hrx⟩:=id Uc;obtain ⟨a2,n2,c2,rfl⟩:∃a n c,rx=.slice a n c:=by obtain ⟨a,c,h,_⟩:=bD.out hrx;exact ⟨_,_,_,h⟩
 obtain ⟨n,hn⟩:=af T.length;rw [←hn] at Uc ⊢;have aj5:n≤20:=by rw [hn];exact hF.len
 have hB1:=hb0.trans (hb1.mono hb0.size);have hs1:=hB1.size;have k0:=k0.mono hb1;have k1:=k1.mono hb1;obtain ⟨w2,hw2⟩:=af (w1.alloc (.cells #[.slice a1 n c1,.slice a2 n2 c2] 25));have iC:Below w1.heap.size w1 w2:=by rw [hw2];exact ai _
 have k9:Is w2 w1.heap.size #[.slice a1 n c1,.slice a2 n2 c2] 25:=by rw [hw2];exact Is.new _ _ _
 have hB2:=hB1.trans (iC.mono hs1);have k0:=k0.mono iC;have k1:=k1.mono iC;have hs2:=hB2.size;have We:=iC.size;have hsz2:w2.heap.size=w1.heap.size+1:=by rw [hw2];simp
 have agU:w.heap.size+2≤w1.heap.size:=Nat.le_trans ZW hb1.size;have aj6:=k9.lt;have HD:=ae hD;have HTB:=ae Uc;have HF:=ae hF;have HN:=ae hn;have HRW:=ae hrw;have WM:=ai (w:=w2) (.cells #[.int .i64 65,.int .i64 97,.int .i64 768,.int .i64 4352,.int .i64 4449,.int .i64 4520,.int .i64 44032,.int .i64 44033] aU);have hon:=kD w2 #[.int .i64 65,.int .i64 97,.int .i64 768,.int .i64 4352,.int .i64 4449,.int .i64 4520,.int .i64 44032,.int .i64 44033] aU 8 rfl (by decide);have k93:=(k9.mono WM).at 0 rfl;rw [hw2] at k93;clear hD Uc hF hn hrw LD hrx e0 e1;go_wp2_with fail;rw [←hw2] at k93 ⊢;clear hw2;generalize w2.alloc (.cells #[.int .i64 65,.int .i64 97,.int .i64 768,.int .i64 4352,.int .i64 4449,.int .i64 4520,.int .i64 44032,.int .i64 44033] aU)=w3 at *;have aaq:w3.ownsRow w2.heap.size aU 1 (.slice (some ⟨w1.heap.size+1,0,none⟩) 8 8) 8 [.int .i64 65,.int .i64 97,.int .i64 768,.int .i64 4352,.int .i64 4449,.int .i64 4520,.int .i64 44032,.int .i64 44033]:=by rw [←hsz2];exact hon
 go_loopw [10,12,29] (fun o _ jv wr=>∃j:Nat,j≤n∧jv=.int .i64 j∧(∃L:List Nat,wr.ownsRow w2.heap.size aU 1 o L.length (ints L)∧8≤L.length∧L.length≤8+3*j∧∀c∈L,aX c)∧Below w2.heap.size w2 wr) (fun _ _ jv _=>n-(intOf jv).toNat)
 case atStart=>
  refine ⟨0,Nat.zero_le _,rfl,⟨[65,97,768,4352,4449,4520,44032,44033],by simpa [ints] using aaq,by simp,by simp,?_⟩,WM⟩;decide
 case round=>
  obtain ⟨j,hj,rfl,⟨L,hrow,hL8,Vb,WN⟩,hE⟩:=hrel;have DD:=hB2.trans (hE.mono hs2);have Wm:=DD.size;have aar:=hE.size;have hE1:=iC.trans (hE.mono We);by_cases hjn:j<n
  ·have zj:decide ((j:Int)<(n:Int))=true:=decide_eq_true (by omega);have hjl:j<T.length:=by have:=HN.out;omega
   obtain ⟨b,off,m,rfl,_,d0,d1,d2,hm⟩:=HRW.out j hjl;have hfin:=(HF.out.valid.fine T[j] (List.getElem_mem hjl));obtain ⟨q,hq⟩:=af (T[j]);rw [←hq] at d0 d1 hm hfin;obtain ⟨am,cm,rfl,_,_⟩:=bD.out hm;have hlm:(ints q.map).length=q.map.length:=by simp [ints]
   rw [hlm] at d2 hm;obtain ⟨nq,hnq⟩:=af q.map.length;rw [←hnq] at d2 hm;obtain ⟨cd,hcd⟩:=af q.code;obtain ⟨cl,hcl⟩:=af q.cls;rw [←hcd] at d0;rw [←hcl] at d1;have d0:=aA hE1 d0;have d1:=aA hE1 d1;have d2:=aA hE1 d2;have HNQ:=ae hnq;have HCD:=ae hcd;have Uy:=ae hfin;clear hq hnq hcd hcl hfin;go_wp2_with fail;have hbn:=ai (w:=wr) (.cells #[.int .i64 (cd:Nat),.int .i64 (cl:Nat),.slice am nq cm] 68);have kA:Is _ wr.heap.size #[.int .i64 (cd:Nat),.int .i64 (cl:Nat),.slice am nq cm] 68:=Is.new wr _ _;have UY:=aG hrow hbn;have LA:=hE.trans (hbn.mono aar);have WO:=hE1.trans (hbn.mono hE1.size);have Kh:=kA.lt;have aj9:w2.heap.size≤wr.heap.size:=aar;generalize wr.alloc (.cells #[.int .i64 (cd:Nat),.int .i64 (cl:Nat),.slice am nq cm] 68)=wl at *;have UZ:=aG UY (ah wl);have kAd:=kA.mono (ah wl);have g0:=sW.keeps (S:=fun k=>k=wr.heap.size) (kAd.at 0 rfl) rfl;have g2:=sW.keeps (S:=fun k=>k=wr.heap.size) (kAd.at 2 rfl) rfl;refine dM (KR.blocks fun k=>k=wr.heap.size) (Array.replicate 9 true) 9 0 mixed (by rfl) ?_;refine di [0,1,2,5,6] 4 rfl (by kernel_rfl) ?_
   iterate 5 (refine aC rfl ?_;go_big_quiet_step (rfl))
   refine ak ?_;have hb4:=ai (w:=wl.drew) (.cells #[.int .i64 (cd:Nat)] aU);have kA4:=kAd.mono hb4;have hrow4:=aG UZ hb4;have kW:Below w2.heap.size w2 (wl.drew.alloc (.cells #[.int .i64 (cd:Nat)] aU)):=(LA.trans ((ah wl).mono LA.size)).trans (hb4.mono LA.size);have aas:Below w1.heap.size w1 (wl.drew.alloc (.cells #[.int .i64 (cd:Nat)] aU)):=(WO.trans ((ah wl).mono WO.size)).trans (hb4.mono WO.size);refine bT 3 (by kernel_rfl) rfl ?_;go_wp2_with fail;refine bB (KR.of_below hb4 hb4.size (fun k (hk:k=wr.heap.size)=>by subst hk;exact Kh)) ?_;refine bT 4 (by kernel_rfl) rfl ?_
   refine lT (W:=wl.drew.alloc (.cells #[.int .i64 (cd:Nat)] aU)) rfl _ _ 23 rfl w2.heap.size aU (.int .i64 0) 8 fA (by decide) rfl hrow4 (by have:=kW.size;exact this) [.int .i64 (cd:Nat)] (by simp [Value.oneCell']) ⟨wl.drew.heap.size,0,none⟩ 1 1 rfl rfl (fun i u hi=>by
    rcases i with _|i
    ·cases hi;exact (Is.new wl.drew _ aU).at 0 rfl
    ·cases hi) (by omega) ?_
   intro v5 w5 o5 hg5 hn5;have ne5:=kA4.other hrow4 (by decide);have kA5:=(bK.bP hrow4 hg5).is kA4 (by decide);have kV:=kW.grown hg5 kW.size (fun k hk=>(hrow4.lt k hk).1);have aeu:=aas.grown hg5 (by have:=aas.size;exact this) (fun k hk=>by have:=(hrow4.lt k hk).1;omega);go_wp2_with fail;refine bB (KR.bP (w:=wl.drew.alloc (.cells #[.int .i64 (cd:Nat)] aU)) hg5 hg5.size (fun k (hk:k=wr.heap.size)=>by subst hk;exact ⟨kA4.lt,ne5⟩)) ?_;refine bT 7 (by kernel_rfl) rfl ?_;have hq2:nq≤2:=by rw [HNQ.out];exact Uy.out.2.2.1
   have ne6:=kA5.other o5 (by decide);refine bG rfl _ _ 23 rfl w2.heap.size aU (.int .i64 0) 8 fA _ _ _ rfl o5 _ (ints q.map) rfl (hm.mono aeu) (fun u hu=>by obtain ⟨y,_,rfl⟩:=List.mem_map.1 hu;rfl) (by rw [hlm,←HNQ.out];unfold maxLen;omega) (by rw [hlm,←HNQ.out];omega) kV.size ?_;intro v6 w6 o6 G7;have aev:=kV.grown G7 kV.size (fun k hk=>(o5.lt k hk).1);have kA6:=(bK.bP o5 G7).is kA5 (by decide);have O6:=ae o6;go_wp2_with fail;refine bB (KR.bP (w:=w5) G7 G7.size (fun k (hk:k=wr.heap.size)=>by subst hk;exact ⟨kA5.lt,ne6⟩)) ?_;refine di [8] 0 rfl (by kernel_rfl) ?_
   iterate 1 (refine aC rfl ?_;go_big_quiet_step (rfl))
   refine ak ?_;refine fe [] (by kernel_rfl) ?_;refine tail_nil ?_;clear o6 o5 G7 hg5 hn5 g0 g2 kA kAd kA4 kA5 kA6 hrow UY UZ hrow4 d0 d1 d2;go_wp2_with fail;go_roundw
   case rel=>
    refine ⟨j+1,by omega,by simp,⟨L++[cd]++q.map,?_,?_,?_,?_⟩,aev⟩
    ·have:=O6.out;rw [hlm] at this;have e1:ints (L++[cd]++q.map)=ints L++[.int .i64 (cd:Nat)]++ints q.map:=by simp [ints]
     have e2:(L++[cd]++q.map).length=L.length+1+q.map.length:=by simp;omega
     rw [e1,e2];exact this
    ·simp;omega
    ·rw [List.length_append,List.length_append,←HNQ.out];simp;omega
    ·intro c hc;rcases List.mem_append.1 hc with hc|hc
     ·rcases List.mem_append.1 hc with hc|hc
      ·exact WN c hc
      ·rw [List.mem_singleton.1 hc,HCD.out];exact Uy.out.1
     ·exact (Uy.out.2.2.2.2 c hc).2
   case measure=>simp [intOf];omega
  ·have zj:decide ((j:Int)<(n:Int))=false:=decide_eq_false (by omega);obtain rfl:j=n:=by omega
   obtain ⟨oa,oc,rfl,_,_⟩:=az hrow;have k0A:=k0.mono hE;have k1A:=k1.mono hE;have k9A:=k9.mono hE;obtain ⟨nl,hnl⟩:=af L.length;rw [←hnl] at hrow hL8 Vb ⊢;have Tz:=ae hnl;have U5:=ae WN;have ROW:=ae hrow;clear WN hrow hnl k0 k1 k9 hon aaq WM;rename World=>wA;go_wp2_with fail;go_loopw [13,14,15] (fun lv iv _ wr2=>∃i:Nat,i≤np∧i≤most∧iv=.int .i64 i∧(∃M:List Nat,wr2.ownsRow wA.heap.size aU 1 lv M.length (ints M)∧M.length=i∧∀c∈M,aX c)∧Below wA.heap.size wA wr2) (fun _ iv _ _=>most-(intOf iv).toNat)
   case atStart=>exact ⟨0,Nat.zero_le _,Nat.zero_le _,rfl,⟨[],World.ownsRow_nil _ _ _ _,rfl,by simp⟩,Below.refl _ _⟩
   case round=>
    obtain ⟨i,hi,him,rfl,⟨M,Ud,TY,hMc⟩,EE⟩:=hrel;have hEz:=DD.trans (EE.mono Wm);have hsz:=hEz.size;have k0r:=k0A.mono EE;have t2:=k0r.at 2 rfl;have t3:=k0r.at 3 rfl;have hsA:=EE.size;by_cases hgo:i<np∧i<most
    ·obtain ⟨hin,akf⟩:=hgo;have zi:decide ((i:Int)<(np:Int))=true:=decide_eq_true (by omega);have zm:decide ((i:Int)<(most:Int))=true:=decide_eq_true (by omega);have aex:i<pk.length:=by have:=QC.out;omega
     obtain ⟨pb,po,rfl,_,p0⟩:=HP.out i aex;have p0:=aA hEz p0;obtain ⟨x,hx⟩:=af (pk[i]);rw [←hx] at p0;have RS:=ae hMc;have DZ:=ae TY;have HRM:=ae Ud;clear hx hMc TY;by_cases hxn:x<0∧0<nm
     ·obtain ⟨hx0,hm0⟩:=hxn;have zx:decide (x<0)=true:=decide_eq_true hx0;have zn:decide ((0:Int)<(nm:Int))=true:=decide_eq_true (by omega);have aey:nm≤281474976710656:=by rw [qh.out];omega
      obtain ⟨A,hA,hAi⟩:=UX x (S:=nm) (by omega) aey;obtain ⟨mb,mo,rfl,_,m0⟩:=HM.out A (by rw [←qh.out];exact hA);have m0:=aA hEz m0;obtain ⟨y,hy⟩:∃y,y=mr[A]'(by rw [←qh.out];exact hA):=⟨_,rfl⟩;rw [←hy] at m0;clear hy;go_wp2_with fail;have G3:=Gr.cell (ah wr) t3;have G4:=Gr.cell (ah wr) m0;have znz:((nm:Int)==0)=false:=beq_eq_false_iff_ne.2 (by omega);refine aD #[true,true,true,true,true,true,true,true,true,true,true,true,true,true,true,true,true,true,true,true,true,false,false] 21 2 mixed (by rfl) ?_;refine ay [0,1,2,3,4,5,6,7,8,9,10,11,12,13,14,15,16,17] 3 rfl (by kernel_rfl) ?_
      iterate 18 (refine aC rfl ?_;go_big_quiet_step (rfl))
      refine ak ?_;refine aL 18 (by kernel_rfl) rfl ?_;go_wp2_with fail;refine (iL (w:=wr.drew) y).mono ?_;rintro e w7 ⟨rfl,rfl⟩;have hcc:=ou (x:=(y % 2097152).toNat);obtain ⟨c,hc⟩:=af (jG (y % 2097152).toNat);rw [←hc] at hcc ⊢;have hc9:=hcc.1;have M9:=ae hcc;clear hc hcc;go_wp2_with fail;refine aH (Below.refl _ _) ?_;refine ay [19] 1 rfl (by kernel_rfl) ?_
      iterate 1 (refine aC rfl ?_;go_big_quiet_step (rfl))
      refine ak ?_;refine aL 20 (by kernel_rfl) rfl ?_;go_wp2_with fail;refine aH (ai _) ?_;have aez:=aG Ud (ah wr);have CJ:=EE.trans ((ah wr).mono hsA);have aeA:M.length≤100:=by have:=DZ.out;omega
      clear t2 t3 G3 G4 p0 m0 k0r Ud;refine aI [21,22] (by kernel_rfl) ?_;refine tail_cons rfl ?_;refine dK rfl _ _ 23 rfl wA.heap.size aU (.int .i64 0) 8 fA _ M.length _ rfl aez (.int .i64 (c:Nat)) rfl rfl (by omega) (by unfold maxLen;omega) wA CJ (Nat.le_refl _) ?_;intro v' w6 o6 kZ;have O6:=ae o6;clear o6;refine tail_cons rfl ?_;go_wp2_with fail;refine tail_nil ?_;go_wp2_with fail;go_roundw
      case rel=>
       refine ⟨i+1,by omega,by omega,by simp,⟨M++[c],?_,by rw [List.length_append,DZ.out];rfl,fun y hy=>?_⟩,kZ⟩
       ·rw [show ints (M++[c])=ints M++[.int .i64 (c:Nat)] by simp [ints],show (M++[c]).length=M.length+1 by simp];exact O6.out
       ·rcases List.mem_append.1 hy with hy|hy
        ·exact RS.out y hy
        ·rw [List.mem_singleton.1 hy];exact M9.out
      case measure=>simp [intOf];omega
     ·have aeB:nl≤281474976710656:=by omega
      obtain ⟨A,hA,hAi⟩:=UX x (S:=nl) (by omega) aeB;have Kh:A<L.length:=by rw [←Tz.out];exact hA
      obtain ⟨lb,akg,he,_,_,_,_,hcells⟩:=jU ROW.out (show 0<nl by omega);injection he with he1 _ Wi;subst he1 Wi;have m0:=aA EE (hcells A (.int .i64 (L[A]:Nat)) (by simp [ints,Kh]));have hcc:=U5.out _ (List.getElem_mem Kh);obtain ⟨c,hc⟩:=af (L[A]);rw [←hc] at m0 hcc;have M9:=ae hcc;have aeA:M.length≤100:=by have:=DZ.out;omega
      have znl:((nl:Int)==0)=false:=beq_eq_false_iff_ne.2 (by omega);clear hc hcc hcells;by_cases hx0:x<0
      ·have zx:decide (x<0)=true:=decide_eq_true hx0;have zn:decide ((0:Int)<(nm:Int))=false:=decide_eq_false (fun h=>hxn ⟨hx0,by omega⟩);go_wp2_with (at_builtin;refine dK rfl _ _ 23 rfl wA.heap.size aU (.int .i64 0) 8 fA _ M.length _ rfl Ud (.int .i64 (c:Nat)) rfl rfl (by omega) (by unfold maxLen;omega) wA EE (Nat.le_refl _) ?_;intro v' w6 o6 kZ);go_roundw
       case rel=>
        refine ⟨i+1,by omega,by omega,by simp,⟨M++[c],?_,by rw [List.length_append,DZ.out];rfl,fun y hy=>?_⟩,kZ⟩
        ·rw [show ints (M++[c])=ints M++[.int .i64 (c:Nat)] by simp [ints],show (M++[c]).length=M.length+1 by simp];exact o6
        ·rcases List.mem_append.1 hy with hy|hy
         ·exact RS.out y hy
         ·rw [List.mem_singleton.1 hy];exact M9.out
       case measure=>simp [intOf];omega
      ·have zx:decide (x<0)=false:=decide_eq_false hx0;rw [Int.tmod_eq_emod_of_nonneg (show 0≤x by omega)] at hAi;go_wp2_with (at_builtin;refine dK rfl _ _ 23 rfl wA.heap.size aU (.int .i64 0) 8 fA _ M.length _ rfl Ud (.int .i64 (c:Nat)) rfl rfl (by omega) (by unfold maxLen;omega) wA EE (Nat.le_refl _) ?_;intro v' w6 o6 kZ);go_roundw
       case rel=>
        refine ⟨i+1,by omega,by omega,by simp,⟨M++[c],?_,by rw [List.length_append,DZ.out];rfl,fun y hy=>?_⟩,kZ⟩
        ·rw [show ints (M++[c])=ints M++[.int .i64 (c:Nat)] by simp [ints],show (M++[c]).length=M.length+1 by simp];exact o6
        ·rcases List.mem_append.1 hy with hy|hy
         ·exact RS.out y hy
         ·rw [List.mem_singleton.1 hy];exact M9.out
       case measure=>simp [intOf];omega
    ·have hend:(decide ((i:Int)<(np:Int))&&decide ((i:Int)<(most:Int)))=false:=by
      rcases Decidable.not_and_iff_or_not.1 hgo with h|h
      ·rw [decide_eq_false (show ¬((i:Int)<(np:Int)) by omega)];rfl
      ·rw [decide_eq_false (show ¬((i:Int)<(most:Int)) by omega),Bool.and_false]
     obtain ⟨ma',mc',rfl,_,_⟩:=az Ud;obtain ⟨nM,hnM⟩:=af M.length;rw [←hnM] at Ud TY ⊢;have aeD:=ae hnM;have HRM:=ae Ud;have RS:=ae hMc;have DZ:=ae TY;have k9r:=k9A.mono EE;have XN:=k1A.mono EE;have j0:=k9r.at 0 rfl;have j1:=k9r.at 1 rfl;have akh:w.heap.size+2≤wA.heap.size:=by omega
     clear hnM Ud hMc TY;have XO:=XN;have f0:=XO.at 0 rfl;have f1:=XO.at 1 rfl;have q0:=XO.frozen 0;have q1:=XO.frozen 1;have v0:=(XO.set 0 (.slice a1 j c1)).set 1 (.slice a2 n2 c2);have g0:=v0.at 0 rfl;have g1:=v0.at 1 rfl;have hfin:=(aj (off:=1) (u:=.slice a2 n2 c2) (b:=w.heap.size+1) (aj (off:=0) (u:=.slice a1 j c1) (b:=w.heap.size+1) hEz (by omega)) (by omega)).trans ((ah _).mono (by simp;omega));have WQ:=(hE1.trans (EE.mono hE1.size));have sb0:wF wr (w.heap.size+1):=⟨_,_,XN,by intro u hu;simp at hu;exact ⟨none,0,0,hu⟩⟩
     have sb1:wF (wr.setCell ⟨w.heap.size+1,0,none⟩ (.slice a1 j c1)) (w.heap.size+1):=⟨_,_,XN.set 0 (.slice a1 j c1),by
      intro u hu;simp at hu
      rcases hu with rfl|rfl <;> exact ⟨_,_,_,rfl⟩⟩
     have FIN:∃p' r' T' X' Md L',Ending.returned (.tuple #[.pointer (some ⟨p,0,none⟩),.agg #[.slice a1 j c1,.slice a2 n2 c2],.slice ma' nM mc',.bool true])=.returned (.tuple #[.pointer (some ⟨p',0,none⟩),r',Md,.bool true])∧dZ (((wr.setCell ⟨w.heap.size+1,0,none⟩ (.slice a1 j c1)).setCell ⟨w.heap.size+1,1,none⟩ (.slice a2 n2 c2)).drew) p' T' X'∧iw (((wr.setCell ⟨w.heap.size+1,0,none⟩ (.slice a1 j c1)).setCell ⟨w.heap.size+1,1,none⟩ (.slice a2 n2 c2)).drew) r' T' X'∧JG T' X'∧bD (((wr.setCell ⟨w.heap.size+1,0,none⟩ (.slice a1 j c1)).setCell ⟨w.heap.size+1,1,none⟩ (.slice a2 n2 c2)).drew) Md (ints L')∧L'.length≤most∧(∀c∈L',aX c)∧Below w.heap.size w (((wr.setCell ⟨w.heap.size+1,0,none⟩ (.slice a1 j c1)).setCell ⟨w.heap.size+1,1,none⟩ (.slice a2 n2 c2)).drew):=by
      refine ⟨p,.agg #[.slice a1 j c1,.slice a2 n2 c2],T,X,.slice ma' nM mc',M,rfl,?_,?_,HF.out,?_,by have:=DZ.out;have:=aeD.out;omega,RS.out,hfin⟩
      ·exact (((HD.out.mono WQ).put XN sb0 (show 2≤100 by omega) (by decide) (by decide) (by decide) (by decide) 0 _).put (XN.set 0 (.slice a1 j c1)) sb1 (show 2≤100 by omega) (by decide) (by decide) (by decide) (by decide) 1 _).mono (ah _)
      ·exact (((HTB.out.mono WQ).yY sb0 0 _).yY sb1 1 _).mono (ah _)
      ·have hm:=(Sl.aT (aG HRM.out (Below.refl _ wr))).any;exact (Go.Proofs.YtjidohgiigjifaaGreatDoor.bD.yY (Go.Proofs.YtjidohgiigjifaaGreatDoor.bD.yY hm sb0 0 (.slice a1 j c1)) sb1 1 (.slice a2 n2 c2)).mono (ah _)
     have FIN:=ae FIN;clear v0 XO hfin WQ sb0 sb1 XN k9r hend;by_cases hin:i<np
     ·have zi:decide ((i:Int)<(np:Int))=true:=decide_eq_true (by omega);have Gx:i=most:=by omega
      have zm:decide ((i:Int)<(most:Int))=false:=decide_eq_false (by omega);clear hgo;subst Gx;go_wp2_with fail;go_region;go_wp2_with fail;exact bodyPost_ret (v:=.tuple #[.pointer (some ⟨p,0,none⟩),.agg #[.slice a1 j c1,.slice a2 n2 c2],.slice ma' nM mc',.bool true]) (by simp [results,Tryz.results7,go_sem,g0,g1]) rfl FIN.out
     ·have zi:decide ((i:Int)<(np:Int))=false:=decide_eq_false (by omega);clear hgo;go_wp2_with fail;go_region;go_wp2_with fail;exact bodyPost_ret (v:=.tuple #[.pointer (some ⟨p,0,none⟩),.agg #[.slice a1 j c1,.slice a2 n2 c2],.slice ma' nM mc',.bool true]) (by simp [results,Tryz.results7,go_sem,g0,g1]) rfl FIN.out
end Go.Proofs.YtjidohgiigjifaaGreatDoor
