/- TraceParts and TraceWalks: a machine takes a character as those of its full decomposition, one by one; texts that are alike go through it, and of others none; no condition. -/
import Derived.Lib.Hide
import Derived.Lib.Case
import Derived.Lib.Repeat
import Derived.Deep.Quiet
import Derived.Tactics
import Derived.Below
set_option maxRecDepth 100000
set_option maxHeartbeats 6400000
theorem ae {p:Prop} (h:p):Go.RowKit.Hid p:=h
theorem af {a:Sort _} (x:a):∃y,y=x:=⟨x,rfl⟩
namespace Go.Cd
def hk (c:Nat):Nat:=
 if 4352≤c∧c<4371 then 1 else if 4449≤c∧c<4470 then 2 else if 4520≤c∧c<4547 then 3
 else if ¬(44032≤c∧c<55204) then 0 else if (c-44032) % 28=0 then 4 else 5
def cO (c:Nat):List Nat:=
 if hk c=4 then [4352+(c-44032) / 588,4449+(c-44032) % 588 / 28]
 else if hk c=5 then [c-(c-44032) % 28,4519+(c-44032) % 28] else []
def hparts (c:Nat):List Nat:=
 if hk c=4 then [4352+(c-44032) / 588,4449+(c-44032) % 588 / 28]
 else if hk c=5 then [4352+(c-44032) / 588,4449+(c-44032) % 588 / 28,4519+(c-44032) % 28] else []
theorem Ae (c:Nat):hk c<6:=by unfold hk;repeat' split <;> first|decide|skip
theorem Nf {c:Nat}:4≤hk c↔44032≤c∧c<55204:=by
 unfold hk
 split
 ·omega
 split
 ·omega
 split
 ·omega
 split
 ·omega
 split <;> omega
theorem lX {c:Nat}:hk c=4↔44032≤c∧c<55204∧(c-44032) % 28=0:=by
 unfold hk
 split
 ·omega
 split
 ·omega
 split
 ·omega
 split
 ·omega
 split <;> omega
theorem ky {c:Nat}:hk c=5↔44032≤c∧c<55204∧(c-44032) % 28≠0:=by
 unfold hk
 split
 ·omega
 split
 ·omega
 split
 ·omega
 split
 ·omega
 split <;> omega
theorem Ng {c:Nat}:hk c=1↔4352≤c∧c<4371:=by
 unfold hk
 split
 ·simp [*]
 ·rename_i h;constructor
  ·split
   ·omega
   split
   ·omega
   split
   ·omega
   split <;> omega
  ·intro h';exact absurd h' h
theorem JL {c:Nat} (h:hk c=5):hk (c-(c-44032) % 28)=4:=by
 rw [ky] at h;rw [lX];omega
theorem wO {c:Nat} (h:hk c=5):cO (c-(c-44032) % 28)=[4352+(c-44032) / 588,4449+(c-44032) % 588 / 28]:=by
 have h4:=JL h;unfold cO;rw [if_pos h4];rw [ky] at h;have e1:(c-(c-44032) % 28-44032) / 588=(c-44032) / 588:=by omega
 have e2:(c-(c-44032) % 28-44032) % 588 / 28=(c-44032) % 588 / 28:=by omega
 rw [e1,e2]
theorem Af {c x:Nat} (h:x∈hparts c):x<4547∧4352≤x:=by
 have h3:=Nat.mod_lt (c-44032) (show 28 > 0 by decide);have h2:(c-44032) % 588 / 28<21:=by omega
 unfold hparts at h;by_cases h4:hk c=4
 ·rw [if_pos h4] at h;have h1:(c-44032) / 588<19:=by rw [lX] at h4;omega
  clear h4;generalize (c-44032) % 588 / 28=v at *;generalize (c-44032) / 588=l at *;simp only [List.mem_cons,List.not_mem_nil,or_false] at h;rcases h with rfl|rfl <;> omega
 ·rw [if_neg h4] at h;by_cases h5:hk c=5
  ·rw [if_pos h5] at h;have h1:(c-44032) / 588<19:=by rw [ky] at h5;omega
   clear h4 h5;generalize (c-44032) % 588 / 28=v at *;generalize (c-44032) / 588=l at *;generalize (c-44032) % 28=t at *;simp only [List.mem_cons,List.not_mem_nil,or_false] at h;rcases h with rfl|rfl|rfl <;> omega
  ·rw [if_neg h5] at h;simp at h
theorem tu {c:Nat}:cO c=[]↔hk c<4:=by
 unfold cO;have:=Ae c
 split
 ·simp;omega
 split
 ·simp;omega
 ·simp;omega
theorem fV {c:Nat}:hparts c=[]↔hk c<4:=by
 unfold hparts;have:=Ae c
 split
 ·simp;omega
 split
 ·simp;omega
 ·simp;omega
structure aF where
 code:Nat
 cls:Nat
 map:List Nat
deriving DecidableEq
def rowOf (T:List aF) (c:Nat):Option aF:=T.find? fun r=>r.code==c
def aB (T:List aF) (c:Nat):Nat:=match rowOf T c with|some r=>r.cls|none=>0
def bF (T:List aF) (c:Nat):List Nat:=match rowOf T c with|some r=>r.map|none=>[]
def mapOf (T:List aF) (c:Nat):List Nat:=if hk c<4 then bF T c else cO c
def fZ (M:Nat→List Nat):Nat→Nat→List Nat
 | 0,c=>[c]
 | n+1,c=>if M c=[] then [c] else (M c).flatMap (fZ M n)
def bX (M:Nat→List Nat) (l:List Nat):List Nat:=l.flatMap fun c=>if M c=[] then [c] else M c
def oZ (M:Nat→List Nat) (l:List Nat):Prop:=∀x∈l,M x=[]
theorem g_ {M:Nat→List Nat} {c:Nat} (h:M c=[]):∀n,fZ M n c=[c]
 | 0=>rfl
 | n+1=>by unfold fZ;rw [if_pos h]
theorem Ag {M:Nat→List Nat} {c:Nat} (h:¬M c=[]) (n:Nat):fZ M (n+1) c=(M c).flatMap (fZ M n):=by
 conv=>lhs;unfold fZ
 rw [if_neg h]
theorem Kz (M:Nat→List Nat) (n:Nat) (l:List Nat):l.flatMap (fZ M (n+1))=(bX M l).flatMap (fZ M n):=by
 unfold bX;rw [List.flatMap_assoc];congr 1;funext c;by_cases h:M c=[]
 ·rw [if_pos h,g_ h,List.flatMap_singleton,g_ h]
 ·rw [if_neg h,Ag h]
theorem mQ {M:Nat→List Nat}:∀{l:List Nat},oZ M l→bX M l=l
 | [],_=>rfl
 | c::l,h=>by
   unfold bX;rw [List.flatMap_cons,if_pos (h c (by simp))];have:=mQ (M:=M) (l:=l) (fun x hx=>h x (by simp [hx]));unfold bX at this;rw [this];rfl
theorem Ah (M:Nat→List Nat):∀l:List Nat,l.length≤(bX M l).length
 | []=>Nat.le_refl _
 | c::l=>by
   have ih:=Ah M l;unfold bX at ih ⊢;rw [List.flatMap_cons,List.length_append,List.length_cons];have:1≤(if M c=[] then [c] else M c).length:=by
    split
    ·simp
    ·rename_i h;exact List.length_pos_iff.2 h
   omega
def steps (M:Nat→List Nat):Nat→List Nat→List Nat
 | 0,l=>l
 | n+1,l=>steps M n (bX M l)
theorem wP (M:Nat→List Nat):∀(n:Nat) (l:List Nat),steps M n l=l.flatMap (fZ M n)
 | 0,l=>by
   show l=_;have:fZ M 0=fun c=>[c]:=rfl;rw [this]
   induction l with
   | nil=>rfl
   | cons c l ih=>rw [List.flatMap_cons,←ih];rfl
 | n+1,l=>by
   show steps M n (bX M l)=_;rw [wP M n,Kz]
theorem p_ (M:Nat→List Nat):∀(n:Nat) (l:List Nat),steps M (n+1) l=bX M (steps M n l)
 | 0,_=>rfl
 | n+1,l=>p_ M n (bX M l)
theorem uO {M:Nat→List Nat} {l:List Nat} (h:oZ M l):∀n,steps M n l=l
 | 0=>rfl
 | n+1=>by show steps M n (bX M l)=l;rw [mQ h];exact uO h n
theorem tC (M:Nat→List Nat):∀(n m:Nat) (l:List Nat),steps M (n+m) l=steps M m (steps M n l)
 | 0,m,l=>by rw [Nat.zero_add];rfl
 | n+1,m,l=>by rw [Nat.add_right_comm];exact tC M n m (bX M l)
theorem tF (M:Nat→List Nat):∀(n:Nat) (l:List Nat),l.length≤(steps M n l).length
 | 0,_=>Nat.le_refl _
 | n+1,l=>Nat.le_trans (Ah M l) (tF M n (bX M l))
def aK (T:List aF) (c:Nat):List Nat:=fZ (mapOf T) (T.length+3) c
def eO (T:List aF) (c:Nat):Prop:=oZ (mapOf T) (aK T c)∧(aK T c).length≤32
theorem h_ (T:List aF) (c:Nat):aK T c=steps (mapOf T) (T.length+3) [c]:=by
 unfold aK;rw [wP];simp
theorem BL {T:List aF} {c k:Nat} (hk:k≤T.length+3) (h:oZ (mapOf T) (steps (mapOf T) k [c])):aK T c=steps (mapOf T) k [c]:=by
 rw [h_,show T.length+3=k+(T.length+3-k) by omega,tC,uO h]
def aX (c:Nat):Prop:=c<1114112∧(c<55296∨57343<c)
instance (c:Nat):Decidable (aX c):=inferInstanceAs (Decidable (_∧_))
def rowFine (r:aF):Prop:=aX r.code∧r.cls<255∧r.map.length≤2∧hk r.code=0∧∀x∈r.map,hk x=0∧aX x
def rising:List aF→Prop
 | []=>True
 | r::T=>(∀q∈T,r.code<q.code)∧rising T
def Prim (T:List aF) (X:List Nat) (c:Nat):Prop:=4≤hk c∨∃a b,mapOf T c=[a,b]∧aB T c=0∧aB T a=0∧c∉X
structure bE (T:List aF) (X:List Nat):Prop where
 fine:∀r∈T,rowFine r
 rise:rising T
 full:∀r∈T,eO T r.code
 pair:∀r∈T,∀q∈T,r.map.length=2→r.map=q.map→Prim T X r.code→Prim T X q.code→r=q
theorem zo {l m:List aF}:rising (l++m)↔rising l∧rising m∧∀r∈l,∀q∈m,r.code<q.code:=by
 induction l with
 | nil=>simp [rising]
 | cons a l ih=>
   simp only [List.cons_append,rising,ih,List.mem_append,List.mem_cons];constructor
   ·rintro ⟨h1,h2,h3,h4⟩;refine ⟨⟨fun q hq=>h1 q (.inl hq),h2⟩,h3,?_⟩;rintro r (rfl|hr) q hq
    ·exact h1 q (.inr hq)
    ·exact h4 r hr q hq
   ·rintro ⟨⟨h1,h2⟩,h3,h4⟩;refine ⟨?_,h2,h3,fun r hr q hq=>h4 r (.inr hr) q hq⟩;rintro q (hq|hq)
    ·exact h1 q hq
    ·exact h4 a (.inl rfl) q hq
theorem nY:∀{T:List aF},rising T→∀{i j:Nat} (hi:i<T.length) (hj:j<T.length),i<j→T[i].code<T[j].code
 | _::T,h,0,j+1,_,hj,_=>h.1 _ (List.getElem_mem (by simpa using hj))
 | _::T,h,i+1,j+1,hi,hj,hij=>nY (T:=T) h.2 (by simpa using hi) (by simpa using hj) (by omega)
theorem Ha {T:List aF} (h:rising T) {r q:aF} (hr:r∈T) (hq:q∈T) (e:r.code=q.code):r=q:=by
 obtain ⟨i,hi,rfl⟩:=List.getElem_of_mem hr;obtain ⟨j,hj,rfl⟩:=List.getElem_of_mem hq;rcases Nat.lt_trichotomy i j with h1|rfl|h1
 ·have:=nY h hi hj h1;omega
 ·rfl
 ·have:=nY h hj hi h1;omega
theorem jy {T:List aF} (h:rising T) {r:aF} (hr:r∈T):rowOf T r.code=some r:=by
 unfold rowOf;cases e:T.find? fun q=>q.code==r.code with
 | none=>exact absurd (List.find?_eq_none.1 e r hr) (by simp)
 | some q=>
   have h1:=List.mem_of_find?_eq_some e;have h2:=List.find?_some e;rw [Ha h h1 hr (by simpa using h2)]
theorem ic {T:List aF} {c:Nat} {r:aF} (h:rowOf T c=some r):r∈T∧r.code=c:=
 ⟨List.mem_of_find?_eq_some h,by simpa using List.find?_some h⟩
theorem KA {T:List aF} (h:rising T) {r:aF} (hr:r∈T) (hk4:hk r.code<4):mapOf T r.code=r.map:=by
 unfold mapOf bF;rw [if_pos hk4,jy h hr]
theorem wQ {T:List aF} {X:List Nat} (h:rising T) {r:aF} (hr:r∈T) (hk4:hk r.code<4) (hp:Prim T X r.code):r.map.length=2:=by
 rcases hp with hp|⟨a,b,hp,_⟩
 ·omega
 ·rw [KA h hr hk4] at hp;rw [hp];rfl
theorem bE.nil (X:List Nat):bE [] X:=⟨by simp,trivial,by simp,by simp⟩
def jC (d:Nat):UInt8:=if d<10 then UInt8.ofNat (48+d) else UInt8.ofNat (55+d)
def ig:Nat→Nat→List UInt8
 | 0,_=>[]
 | k+1,n=>ig k (n / 16)++[jC (n % 16)]
def iX (n:Nat):Nat:=if n<65536 then 4 else if n<1048576 then 5 else 6
def aS (n:Nat):List UInt8:=ig (iX n) n
theorem mR:∀(k n:Nat),(ig k n).length=k
 | 0,_=>rfl
 | k+1,n=>by unfold ig;rw [List.length_append,mR];rfl
theorem KC (n:Nat):4≤iX n∧iX n≤6:=by
 unfold iX
 repeat' split
 all_goals decide
theorem bJ (n:Nat):4≤(aS n).length∧(aS n).length≤6:=by unfold aS;rw [mR];exact KC n
theorem Nh:∀d,d<16→(jC d).toNat=if d<10 then 48+d else 55+d:=by decide
def kg (v:Nat):List Nat→Nat
 | []=>v
 | d::l=>kg (v*16+d) l
theorem mU:∀(l m:List Nat) (v:Nat),kg v (l++m)=kg (kg v l) m
 | [],_,_=>rfl
 | _::l,m,_=>mU l m _
def fO:Nat→Nat→List Nat
 | 0,_=>[]
 | k+1,n=>fO k (n / 16)++[n % 16]
theorem jD:∀(k n:Nat),ig k n=(fO k n).map jC
 | 0,_=>rfl
 | k+1,n=>by unfold ig fO;rw [List.map_append,jD k];rfl
theorem lh:∀(k n:Nat),∀d∈fO k n,d<16
 | 0,_=>by simp [fO]
 | k+1,n=>by
   intro d hd;unfold fO at hd;rcases List.mem_append.1 hd with h|h
   ·exact lh k _ d h
   ·rw [List.mem_singleton.1 h];omega
theorem tH:∀(k n:Nat),(fO k n).length=k
 | 0,_=>rfl
 | k+1,n=>by unfold fO;rw [List.length_append,tH];rfl
theorem wR:∀(k n:Nat),n<16 ^ k→kg 0 (fO k n)=n
 | 0,n,h=>by simp at h;subst h;rfl
 | k+1,n,h=>by
   unfold fO;rw [mU,wR k (n / 16) (by rw [Nat.pow_succ] at h;omega)];show (n / 16)*16+n % 16=n;omega
theorem aaD:∀(k n:Nat),16 ^ k≤n→∀d,(fO (k+1) n)[0]? = some d→n<16 ^ (k+1)→d≠0
 | 0,n,h,d,hd,hn=>by
   simp [fO] at hd;simp at hn h;omega
 | k+1,n,h,d,hd,hn=>by
   unfold fO at hd;rw [List.getElem?_append_left (by rw [tH];omega)] at hd;refine aaD k (n / 16) ?_ d hd ?_
   ·rw [Nat.pow_succ] at h;rw [Nat.le_div_iff_mul_le (by decide)];exact h
   ·rw [Nat.pow_succ] at hn;exact Nat.div_lt_of_lt_mul (by rw [Nat.mul_comm];exact hn)
theorem Ni {n:Nat} (h:n<1114112):n<16 ^ iX n:=by
 unfold iX
 repeat' split
 ·simpa using ‹n<65536›
 ·simpa using ‹n<1048576›
 ·have:(16:Nat) ^ 6=16777216:=by decide
  omega
theorem KD {n:Nat} (h:n<1114112) (hl:4<(aS n).length):∀b,(aS n)[0]? = some b→b≠48:=by
 intro b hb;unfold aS at hl hb;rw [mR] at hl;rw [jD,List.getElem?_map] at hb;cases e:(fO (iX n) n)[0]? with
 | none=>rw [e] at hb;cases hb
 | some d=>
   rw [e] at hb;simp only [Option.map_some,Option.some.injEq] at hb;have h0:d≠0:=by
    unfold iX at hl e
    split at hl
    ·omega
    ·split at hl
     ·rename_i h1 h2;rw [if_neg h1,if_pos h2] at e;exact aaD 4 n (by simpa using h1) d e (by simpa using h2)
     ·rename_i h1 h2;rw [if_neg h1,if_neg h2] at e
      exact aaD 5 n (by simpa using h2) d e (by have:(16:Nat) ^ 6=16777216:=by decide
                                                omega)
   have hd:d<16:=lh _ _ d (List.mem_of_getElem? e);rintro rfl;have:=congrArg UInt8.toNat hb;rw [Nh d hd] at this
   split at this <;> simp at this <;> omega
def gD (n:Nat):List UInt8:=
 if n<10 then [UInt8.ofNat (48+n)] else if n<100 then [UInt8.ofNat (48+n / 10),UInt8.ofNat (48+n % 10)]
 else [UInt8.ofNat (48+n / 100),UInt8.ofNat (48+n / 10 % 10),UInt8.ofNat (48+n % 10)]
def b_:List Nat→List UInt8
 | []=>[]
 | [c]=>aS c
 | c::d::l=>aS c++32::b_ (d::l)
def XU (r:aF):List (List UInt8):=[aS r.code,[88],[],gD r.cls,[],b_ r.map,[],[],[],[],[],[],[],[],[]]
def jh (r:aF):List UInt8:=aS r.code++[59,88,59,59]++gD r.cls++[59,59]++b_ r.map++[59,59,59,59,59,59,59,59,59]
def bq (l:List (List UInt8)):List UInt8:=l.flatMap fun x=>x++[10]
def gF (T:List aF):List UInt8:=bq (T.map jh)
def dz:List Nat→List Nat→List Nat
 | _,[]=>[]
 | seen,c::l=>if c∈seen then dz (seen++[c]) l else c::dz (seen++[c]) l
def dS (X:List Nat):List UInt8:=bq ((dz [] X).map aS)
def dQ (b:UInt8):Prop:=32≤b.toNat∧b.toNat≤126
theorem Hd:∀d,d<16→dQ (jC d)∧jC d≠59∧jC d≠32∧jC d≠35∧jC d≠60:=by unfold dQ;decide
theorem dA (n:Nat):∀b∈aS n,dQ b∧b≠59∧b≠32∧b≠35∧b≠60:=by
 intro b hb;unfold aS at hb;rw [jD] at hb;obtain ⟨d,hd,rfl⟩:=List.mem_map.1 hb;exact Hd d (lh _ _ d hd)
theorem tJ:∀d,d<10→dQ (UInt8.ofNat (48+d))∧UInt8.ofNat (48+d)≠59:=by unfold dQ;decide
theorem He {n:Nat} (h:n<1000):∀b∈gD n,dQ b∧b≠59:=by
 intro b hb;unfold gD at hb
 repeat' split at hb
 all_goals simp only [List.mem_cons,List.not_mem_nil,or_false] at hb
 ·rw [hb];exact tJ _ (by omega)
 ·rcases hb with rfl|rfl <;> exact tJ _ (by omega)
 ·rcases hb with rfl|rfl|rfl <;> exact tJ _ (by omega)
theorem wS:∀(l:List Nat),∀b∈b_ l,dQ b∧b≠59
 | [],b,h=>by simp [b_] at h
 | [c],b,h=>⟨(dA c b h).1,(dA c b h).2.1⟩
 | c::d::l,b,h=>by
   unfold b_ at h;rcases List.mem_append.1 h with h|h
   ·exact ⟨(dA c b h).1,(dA c b h).2.1⟩
   ·rcases List.mem_cons.1 h with rfl|h
    ·unfold dQ;decide
    ·exact wS (d::l) b h
theorem qU (n:Nat):1≤(gD n).length∧(gD n).length≤3:=by
 unfold gD
 repeat' split
 all_goals simp
theorem ll {l:List Nat} (h:l.length≤2):(b_ l).length≤13:=by
 match l,h with
 | [],_=>simp [b_]
 | [c],_=>have:=bJ c;simp only [b_];omega
 | [c,d],_=>have:=bJ c;have:=bJ d;simp only [b_,List.length_append,List.length_cons];omega
theorem Ai {r:aF} (h:r.map.length≤2):(jh r).length≤37:=by
 have h1:=bJ r.code;have h2:=qU r.cls;have h3:=ll h;unfold jh;simp only [List.length_append,List.length_cons,List.length_nil];omega
def BM (d:Nat):UInt8:=if d<10 then UInt8.ofNat (48+d) else UInt8.ofNat (87+d)
def oL (k n:Nat):List UInt8:=(fO k n).map BM
theorem wT (k n:Nat):(oL k n).length=k:=by simp [oL,tH]
theorem aaE:∀(k n:Nat),fO (k+1) n=(n / 16 ^ k % 16)::fO k n
 | 0,n=>by simp [fO]
 | k+1,n=>by
   rw [fO,aaE k (n / 16)]
   conv=>rhs;rw [fO]
   rw [Nat.div_div_eq_div_mul,←Nat.pow_succ'];rfl
theorem Aj (k n:Nat):oL (k+1) n=BM (n / 16 ^ k % 16)::oL k n:=by unfold oL;rw [aaE];rfl
theorem JM:∀d,d<16→Lib.upperB (BM d)=jC d∧(BM d).toNat<128:=by decide
theorem QT (k n:Nat):Lib.toUpperA (oL k n)=ig k n:=by
 unfold Lib.toUpperA oL;rw [jD,List.map_map];exact List.map_congr_left fun d hd=>(JM d (lh k n d hd)).1
theorem Hf (k n:Nat) (j:Nat) (b:UInt8) (h:(oL k n)[j]? = some b):b.toNat<128:=by
 obtain ⟨d,hd,rfl⟩:=List.mem_map.1 (List.mem_of_getElem? h);exact (JM d (lh k n d hd)).2
theorem DI (k n:Nat) (h:n<16 ^ k):∀j,ig (k+j) n=Lib.repeatL [48] j++ig k n
 | 0=>rfl
 | j+1=>by
   have hl:n<16 ^ (k+j):=Nat.lt_of_lt_of_le h (Nat.pow_le_pow_right (by decide) (by omega));have e:ig (k+j+1) n=48::ig (k+j) n:=by
    rw [jD,aaE,Nat.div_eq_of_lt hl,List.map_cons,←jD];rfl
   rw [show k+(j+1)=k+j+1 from rfl,e,DI k n h j];rfl
def QU (k n:Nat):Prop:=n<16 ^ (k+1)∧(k=0∨16 ^ k≤n)
theorem Nj {k n:Nat} (h:QU k n) (hn:n<1114112):aS n=Lib.repeatL [48] (4-(k+1))++ig (k+1) n∧k+1≤6:=by
 obtain ⟨h1,h2⟩:=h;have hp:∀j,16 ^ j≤n→j≤5:=fun j hj=>by
  rcases Nat.lt_or_ge j 6 with h|h
  ·omega
  ·have:(16:Nat) ^ 6≤16 ^ j:=Nat.pow_le_pow_right (by decide) h;omega
 have hk5:k≤5:=by rcases h2 with h2|h2
                  ·omega
                  ·exact hp k h2
 refine ⟨?_,by omega⟩;unfold aS iX;have c4:(16:Nat) ^ 4=65536:=rfl;have c5:(16:Nat) ^ 5=1048576:=rfl;by_cases a:n<65536
 ·rw [if_pos a];have hk:k+1≤4:=by
   rcases h2 with h2|h2
   ·omega
   ·rcases Nat.lt_or_ge k 4 with h|h
    ·omega
    ·have:(16:Nat) ^ 4≤16 ^ k:=Nat.pow_le_pow_right (by decide) h;omega
  have:=DI (k+1) n h1 (4-(k+1));rw [show k+1+(4-(k+1))=4 by omega] at this;exact this
 ·have hk:4≤k:=by
   rcases Nat.lt_or_ge k 4 with h|h
   ·have:(16:Nat) ^ (k+1)≤16 ^ 4:=Nat.pow_le_pow_right (by decide) (by omega);omega
   ·exact h
  rw [show 4-(k+1)=0 by omega];show _=ig (k+1) n;rw [if_neg a];by_cases b:n<1048576
  ·rw [if_pos b];have:k=4:=by
    rcases Nat.lt_or_ge k 5 with h|h
    ·omega
    ·have h2:16 ^ k≤n:=by omega
     have:(16:Nat) ^ 5≤16 ^ k:=Nat.pow_le_pow_right (by decide) h;omega
   rw [this]
  ·rw [if_neg b];have:k=5:=by
    rcases Nat.lt_or_ge k 5 with h|h
    ·have:(16:Nat) ^ (k+1)≤16 ^ 5:=Nat.pow_le_pow_right (by decide) (by omega);omega
    ·omega
   rw [this]
section
open Go.RowKit
theorem wU (w:World):Below w.heap.size w w:=Below.refl _ _
theorem ag {a b c:World} (h:Below a.heap.size a b) (k:Below b.heap.size b c):Below a.heap.size a c:=h.trans (k.mono h.size)
structure Gr (w:World) where
 tw:World
 ext:Below w.heap.size w tw
section
variable {P : Program} {ops : Array Oper} {md : Region.Mode} {head : Array Bool}
def QP (Q:Exit→Act→World→Prop):Exit→Act→World→Prop
 | .panic _,_,_=>False
 | e,a,w=>Q e a w
theorem wG {Q:Exit→Act→World→Prop} {i:Nat} {a:Act} {w:World} {K:Act→World→Prop} (hh:wpOp P ops (QP Q) i K a w):wpOp P ops Q i K a w:=by
 unfold wpOp at *
 split
 ·rename_i ho;simpa only [ho] using hh
 ·rename_i o ho;simp only [ho] at hh
  split
  ·rename_i hw;simp only [hw,if_true] at hh;rcases hh with hh|⟨h1,h2⟩
   ·refine .inl ?_;unfold Oper.wp at *;generalize (execOp a.eval o).run P w=r at *;cases r with
    | ok n w'=>
      cases n <;> simp only [Oper.upon] at hh ⊢
      case enter f args=>
       refine Calls.mono hh fun e w'' he=>?_;cases e with
       | returned u=>exact he
       | panicked c=>exact he.elim
       | outgrown=>exact he
      all_goals exact hh
    | halt x w'=>cases x <;> simp only [Oper.upon] at hh ⊢;exact hh.elim
   ·exact .inr ⟨h1,h2⟩
  ·rename_i hw;simpa only [hw,if_false,Bool.false_eq_true] using hh
def sU (P:Program) (ops:Array Oper) (Q:Exit→Act→World→Prop) (i:Nat) (K:Act→World→Prop) (a:Act) (w:World):Prop:=
 wpOp P ops (QP Q) i (fun a' w'=>Below w.heap.size w w'∧K a' w') a w
def gG (head listed:Array Bool):Bool:=(List.range head.size).all fun i=>!head.getD i false||listed.getD i false
theorem fP {head listed:Array Bool} (h:gG head listed=true) {i:Nat} (hi:head.getD i false=true):listed.getD i false=true:=by
 have hlt:i<head.size:=by
  rcases Nat.lt_or_ge i head.size with h'|h'
  ·exact h'
  ·simp [Array.getElem?_eq_none h'] at hi
 have:=List.all_eq_true.1 h i (List.mem_range.2 hlt);rw [hi] at this;simpa using this
def JN (P:Program) (md:Region.Mode) (ops:Array Oper) (head:Array Bool) (Q:Exit→Act→World→Prop) (T:Array Bool→Act→World→Prop):Nat→Array Bool→Act→World→Prop
 | 0,listed,a,w=>gG head listed=true∧T listed a w
 | n+1,listed,a,w=>Region.ready md ops listed≠[]∧
   ∀i∈Region.ready md ops listed,head.getD i false=true∧sU P ops Q i (JN P md ops head Q T n (listed.setIfInBounds i true)) a w
theorem wV {Q:Exit→Act→World→Prop} {t:Nat}:∀(n:Nat) (listed:Array Bool) (a:Act) (w:World),
 JN P md ops head Q (fun l a w=>wpAny P md ops Q t l a w) n listed a w→wpAny P md ops Q (n+t) listed a w
 | 0,_,_,_,h=>by simpa using h.2
 | n+1,listed,a,w,h=>by
   rw [Nat.add_right_comm];refine ⟨fun h0=>absurd h0 h.1,fun i hi=>?_⟩;exact wpOp_mono (fun a' w' h'=>wV n _ a' w' h'.2) (wG (h.2 i hi).2)
def dI (P:Program) (ops:Array Oper) (w:World) (o:Oper) (v:Value) (a:Act):Prop:=
 (Region.wanted o (yielded ops a.tmps)=true∧∀w',Below w.heap.size w w'→((execOp a.eval o).run P w'=.ok (.value v) w'∨((execOp a.eval o).run P w'=.ok .skip w'∧v=undef)))∨
 (Region.wanted o (yielded ops a.tmps)=false∧v=undef)
theorem dI.mono {w w':World} {o:Oper} {v:Value} {a:Act} (h:dI P ops w o v a) (hw:Below w.heap.size w w'):dI P ops w' o v a:=
 h.imp (fun ⟨h1,h2⟩=>⟨h1,fun w'' hw''=>h2 w'' (ag hw hw'')⟩) id
theorem dI.of_same {w:World} {o:Oper} {v:Value} {a a':Act} (hy:dI P ops w o v a) (he:execOp a'.eval o=execOp a.eval o)
 (hw:Region.wanted o (yielded ops a'.tmps)=Region.wanted o (yielded ops a.tmps)):dI P ops w o v a':=by
 unfold dI at *;rw [he,hw];exact hy
theorem dI.sU {Q:Exit→Act→World→Prop} {w:World} {i:Nat} {o:Oper} {v:Value} {a:Act} (hi:ops[i]? = some o) (hy:dI P ops w o v a)
 {K:Act→World→Prop} (h:K (a.put o.dst v) w):sU P ops Q i K a w:=by
 unfold Cd.sU wpOp;simp only [hi];rcases hy with ⟨hw,hv⟩|⟨hw,rfl⟩
 ·have h1:=hv w (Below.refl _ _);clear hv;rcases h1 with h1|⟨h1,rfl⟩
  ·simp only [hw,if_true,Oper.wp,h1,Oper.upon];exact .inl ⟨Below.refl _ _,h⟩
  ·simp only [hw,if_true,Oper.wp,h1,Oper.upon];exact .inl ⟨Below.refl _ _,h⟩
 ·simp only [hw,Bool.false_eq_true,if_false];exact ⟨Below.refl _ _,h⟩
theorem JO {Q:Exit→Act→World→Prop} {j:Nat} {oi oj:Oper} {v:Value} (hj:ops[j]? = some oj) (hap:oi.apart ops oj=true)
 (hsi:∀cs b,oi.op≠.select cs b) (hsj:∀cs b,oj.op≠.select cs b)
 {K:Act→World→Prop} {a:Act} {w:World}
 (hy:dI P ops w oi v a) (h:sU P ops Q j K (a.put oi.dst v) w) :
 sU P ops Q j (fun a' w'=>dI P ops w' oi v a'∧K (a'.put oi.dst v) w') a w:=by
 obtain ⟨h1,h2,h3⟩:=Oper.apart_spec hap;have keep:∀(a:Act),dI P ops w oi v a→∀u,dI P ops w oi v (a.put oj.dst u):=fun a hy u=>
  hy.of_same (execOp_put oi hsi a oj.dst u h3) (wanted_put oi a oj.dst u h3)
 have keepD:∀d,dI P ops w oi v { a with defers:=d::a.defers }:=fun d=>hy.of_same rfl rfl;unfold sU wpOp at *;simp only [hj] at *;rw [wanted_put oj a oi.dst v h1] at h
 split
 ·rename_i hw;simp only [hw,if_true] at h;rcases h with h|⟨hasks,hlets⟩
  case inr=>exact .inr ⟨by unfold Oper.asks at *;rw [execOp_put oj hsj a oi.dst v h1] at hasks;exact hasks,hlets⟩
  refine .inl ?_;unfold Oper.wp at *;rw [execOp_put oj hsj a oi.dst v h1] at h;generalize (execOp a.eval oj).run P w=r at *;cases r with
  | ok n w'=>
    cases n <;> simp only [Oper.upon] at h ⊢
    case value u=>exact ⟨h.1,(keep a hy u).mono h.1,by rw [←Act.put_comm a v u h2];exact h.2⟩
    case skip=>exact ⟨h.1,(keep a hy _).mono h.1,by rw [←Act.put_comm a v undef h2];exact h.2⟩
    case defer d=>
     refine ⟨h.1,(dI.of_same (keepD d) (execOp_put oi hsi _ oj.dst _ h3) (wanted_put oi _ oj.dst _ h3)).mono h.1,?_⟩;rw [←Act.put_comm _ v undef h2,←Act.put_defers];exact h.2
    case enter f args=>
     refine Calls.mono h fun e w'' he=>?_;cases e with
     | returned u=>exact ⟨he.1,(keep a hy u).mono he.1,by rw [←Act.put_comm a v u h2];exact he.2⟩
     | panicked c=>exact he.elim
     | outgrown=>exact he
    case row row args=>exact Rows.mono h fun u w'' he=>⟨he.1,(keep a hy u).mono he.1,by rw [←Act.put_comm a v u h2];exact he.2⟩
  | halt x w'=>
    cases x <;> simp only [Oper.upon] at h ⊢
    case panic u=>exact h.elim
 ·rename_i hw;simp only [hw] at h;exact ⟨h.1,keep a hy _,by rw [←Act.put_comm a v undef h2];exact h.2⟩
theorem mV {Q:Exit→Act→World→Prop} {i:Nat} {a:Act} {w:World} {K K':Act→World→Prop} (h:∀a w,K a w→K' a w)
 (hh:sU P ops Q i K a w):sU P ops Q i K' a w:=wpOp_mono (fun _ _ ⟨h1,h2⟩=>⟨h1,h _ _ h2⟩) hh
def Closed (md:Region.Mode) (ops:Array Oper) (listed:Array Bool):Prop:=
 ∀j o,ops[j]? = some o→listed.getD j false=true→∀e∈o.after,Region.binds md e=true→listed.getD e.on false=true
def waits (md:Region.Mode) (ops:Array Oper) (i:Nat):Nat→Nat→Bool
 | 0,_=>false
 | n+1,j=>match ops[j]? with
   | some o=>o.after.any (fun e=>Region.binds md e&&e.on==i)||o.after.any (fun e=>Region.binds md e&&waits md ops i n e.on)
   | none=>false
theorem ik {i:Nat} {listed:Array Bool} (hc:Closed md ops listed) (hi:listed.getD i false=false):∀(n j:Nat) (oj:Oper),ops[j]? = some oj→waits md ops i n j=true→
 ¬∀e∈oj.after,Region.binds md e=true→listed.getD e.on false=true
 | 0,_,_,_,h=>by cases h
 | n+1,j,oj,hj,h=>by
   intro hall;simp only [waits,hj,Bool.or_eq_true] at h;rcases h with h|h
   ·obtain ⟨e,he,hb⟩:=Array.any_eq_true'.1 h;simp only [Bool.and_eq_true,beq_iff_eq] at hb;have:=hall e he hb.1;rw [hb.2,hi] at this;cases this
   ·obtain ⟨e,he,hb⟩:=Array.any_eq_true'.1 h;simp only [Bool.and_eq_true] at hb;have hl:=hall e he hb.1;cases ho:ops[e.on]? with
    | none=>rw [show waits md ops i n e.on=false from by cases n <;> simp [waits,ho]] at hb;exact absurd hb.2 (by simp)
    | some o=>exact ik hc hi n e.on o ho hb.2 (hc e.on o ho hl)
theorem Closed.step {listed:Array Bool} (hc:Closed md ops listed) {j:Nat} (hj:j∈Region.ready md ops listed):Closed md ops (listed.setIfInBounds j true):=by
 intro k o ho hk e he hb;apply getD_set_true;by_cases hkj:j=k
 ·subst hkj;obtain ⟨_,o',ho',hall⟩:=mem_ready.1 hj;rw [ho'] at ho;cases ho;exact hall e he hb
 ·rw [getD_set_ne false hkj] at hk;exact hc k o ho hk e he hb
theorem Ak {Q:Exit→Act→World→Prop} {T:Array Bool→Act→World→Prop} {i:Nat} {oi:Oper} {v:Value} (hi:ops[i]? = some oi) (hsel:∀(j:Nat) (o:Oper) cs b,ops[j]? = some o→o.op≠.select cs b)
 (hhi:head.getD i false=true) :
 ∀(n:Nat) (listed:Array Bool) (a:Act) (w:World),Closed md ops listed→
  (∀j oj,ops[j]? = some oj→j≠i→listed.getD j true=false→(∀e∈oj.after,Region.binds md e=true→e.on≠i)→(head.getD j false=true∧oi.apart ops oj=true)∨waits md ops i ops.size j=true)→
  i∈Region.ready md ops listed→dI P ops w oi v a→
  JN P md ops head Q T n (listed.setIfInBounds i true) (a.put oi.dst v) w→JN P md ops head Q T (n+1) listed a w:=by
 intro n;have key:∀(listed:Array Bool),Closed md ops listed→
  (∀j oj,ops[j]? = some oj→j≠i→listed.getD j true=false→(∀e∈oj.after,Region.binds md e=true→e.on≠i)→(head.getD j false=true∧oi.apart ops oj=true)∨waits md ops i ops.size j=true)→
  i∈Region.ready md ops listed→∀j,j∈Region.ready md ops listed→j≠i→∃oj,ops[j]? = some oj∧listed.getD j true=false∧head.getD j false=true∧oi.apart ops oj=true:=by
  intro listed hcl hfree hr j hj hji;obtain ⟨hjun,oj,hoj,hall⟩:=mem_ready.1 hj;have h0:=(mem_ready.1 hr).1;have hi0:listed.getD i false=false:=by
   rcases Nat.lt_or_ge i listed.size with h'|h'
   ·simp [h'] at h0 ⊢;exact h0
   ·simp [Array.getElem?_eq_none h']
  have hnot:∀e∈oj.after,Region.binds md e=true→e.on≠i:=fun e he hb heq=>by
   have h1:=hall e he hb;rw [heq,hi0] at h1;cases h1
  rcases hfree j oj hoj hji hjun hnot with h|h
  ·exact ⟨oj,hoj,hjun,h.1,h.2⟩
  ·exact absurd hall (ik hcl hi0 _ j oj hoj h)
 induction n with
 | zero=>
   intro listed a w hcl hfree hr hy H;refine ⟨fun h=>(by rw [h] at hr;cases hr),fun j hj=>?_⟩;by_cases hji:j=i
   ·subst hji;exact ⟨hhi,hy.sU hi H⟩
   ·obtain ⟨oj,hoj,hjun,hjh,_⟩:=key listed hcl hfree hr j hj hji;have h2:=fP H.1 hjh;rw [getD_set_ne false (Ne.symm hji)] at h2;rcases Nat.lt_or_ge j listed.size with h'|h'
    ·simp [h'] at hjun h2;rw [hjun] at h2;cases h2
    ·simp [Array.getElem?_eq_none h'] at h2
 | succ n ih=>
   intro listed a w hcl hfree hr hy H;refine ⟨fun h=>(by rw [h] at hr;cases hr),fun j hj=>?_⟩;by_cases hji:j=i
   ·subst hji;exact ⟨hhi,hy.sU hi H⟩
   ·obtain ⟨MW,h1⟩:=H.2 j (ready_mono hj hji);obtain ⟨oj,hoj,hjun,_,hap⟩:=key listed hcl hfree hr j hj hji;have h2:=JO hoj hap (fun cs b=>hsel i oi cs b hi) (fun cs b=>hsel j oj cs b hoj) hy h1;have hfree':∀k ok,ops[k]? = some ok→k≠i→(listed.setIfInBounds j true).getD k true=false→
     (∀e∈ok.after,Region.binds md e=true→e.on≠i)→(head.getD k false=true∧oi.apart ops ok=true)∨waits md ops i ops.size k=true:=fun k ok hk hki hun hno=>by
     refine hfree k ok hk hki ?_ hno;by_cases hjk:j=k
     ·subst hjk;exact hjun
     ·rw [getD_set_ne true hjk] at hun;exact hun
    refine ⟨MW,mV (fun a' w' h3=>ih (listed.setIfInBounds j true) a' w' (hcl.step hj) hfree' (ready_mono hr (Ne.symm hji)) h3.1 ?_) h2⟩;rw [Array.setIfInBounds_comm _ _ hji];exact h3.2
def Nk (md:Region.Mode) (ops:Array Oper) (head listed:Array Bool) (i:Nat):Bool:=
 match ops[i]? with
 | none=>false
 | some oi=>(List.range ops.size).all fun j=>j==i||listed.getD j true||match ops[j]? with
    | some oj=>oj.after.any (fun e=>Region.binds md e&&e.on==i)||(head.getD j false&&oi.apart ops oj)||waits md ops i ops.size j
    | none=>true
theorem eQ {i:Nat} {oi:Oper} {listed:Array Bool} (hi:ops[i]? = some oi) (h:Nk md ops head listed i=true) (j:Nat) (oj:Oper)
 (hj:ops[j]? = some oj) (hne:j≠i) (hun:listed.getD j true=false) (hno:∀e∈oj.after,Region.binds md e=true→e.on≠i) :
 (head.getD j false=true∧oi.apart ops oj=true)∨waits md ops i ops.size j=true:=by
 simp only [Nk,hi,List.all_eq_true,List.mem_range] at h;have h1:=h j (Array.getElem?_eq_some_iff.1 hj).1;simp only [hj,Bool.or_eq_true,beq_iff_eq,hne,false_or,hun,Bool.false_eq_true] at h1;rcases h1 with (h1|h1)|h1
 ·obtain ⟨e,he,hb⟩:=Array.any_eq_true'.1 h1;simp only [Bool.and_eq_true,beq_iff_eq] at hb;exact absurd hb.2 (hno e he hb.1)
 ·exact .inl (by simpa using h1)
 ·exact .inr h1
def nZ (md:Region.Mode) (ops:Array Oper) (listed:Array Bool):Bool:=
 (List.range ops.size).all fun j=>!listed.getD j false||match ops[j]? with
   | some o=>o.after.all fun e=>!Region.binds md e||listed.getD e.on false
   | none=>true
theorem gH {listed:Array Bool} (h:nZ md ops listed=true):Closed md ops listed:=by
 intro j o ho hj e he hb;have h1:=List.all_eq_true.1 h j (List.mem_range.2 (Array.getElem?_eq_some_iff.1 ho).1);simp only [hj,ho,Bool.not_true,Bool.false_or] at h1;have h2:=Array.all_eq_true_iff_forall_mem.1 h1 e he;simpa [hb] using h2
def iJ (md:Region.Mode) (ops:Array Oper) (head:Array Bool):List Nat→Array Bool→Bool
 | [],_=>true
 | i::l,listed=>(Region.ready md ops listed).contains i&&Nk md ops head listed i&&head.getD i false&&iJ md ops head l (listed.setIfInBounds i true)
def bI:List Nat→Array Bool→Array Bool
 | [],listed=>listed
 | i::l,listed=>bI l (listed.setIfInBounds i true)
def Al:Op→Bool
 | .move _|.assign _|.pick ..|.load ..|.binOp ..|.unOp ..|.convert ..|.slice ..|.fieldAddr ..|.field ..|.indexAddr ..|.index ..|.extract ..|.build ..|.nilCheck _=>true
 | .call { callee:=.builtin b,.. }=>match b with|.len|.cap|.max|.min=>true|_=>false
 | _=>false
theorem aaF (s:Sem Value) (w:World) (f:FuncId) (args:Array Value) (w':World):(s.bind fun x=>Sem.pure (Next.value x)).run P w≠.ok (.enter f args) w':=by
 rw [Sem.run_bind'];cases s.run P w with
 | ok x w1=>intro h;cases h
 | halt x w1=>intro h;cases h
theorem BN {P:Program} {ρ:Operand→Value} {x:Operand} {dst:Option Tmp} {type:TypeId} {pos:String} {after:Array Edge} {guard:Option (Nat×Bool)} (w:World) (f:FuncId) (args:Array Value) (w':World):(execOp ρ { dst:=dst,op:=.nilCheck x,type:=type,pos:=pos,after:=after,guard:=guard }).run P w≠.ok (.enter f args) w':=by
 simp only [execOp]
 split
 ·intro h;cases h
 ·intro h;cases h
 ·intro h;cases h
 ·split
  ·intro h;cases h
  ·show (Sem.bind _ _).run P w≠_;rw [Sem.run_bind'];cases (program:Sem Program).run P w with
   | halt x w1=>intro h;cases h
   | ok p w1=>
     show (Sem.bind _ _).run P w1≠_;rw [Sem.run_bind'];cases (nilAhead (p.types.size+Made.depth) _ _ _).run P w1 with
     | halt x w2=>intro h;cases h
     | ok b w2=>
       show Sem.run P (if (b !=some false)=true then _ else _) w2≠_
       split
       ·show (Sem.bind _ _).run P w2≠_;rw [Sem.run_bind'];intro h;generalize Sem.run P (unsupported _) w2=r at h;cases r with
        | halt x w3=>cases h
        | ok x w3=>cases h
       ·intro h;cases h
  ·intro h;cases h
 ·intro h;cases h
theorem qV {ρ:Operand→Value} {o:Oper} (h:Al o.op=true) (w:World) (f:FuncId) (args:Array Value) (w':World):(execOp ρ o).run P w≠.ok (.enter f args) w':=by
 obtain ⟨dst,op,type,pos,after,guard⟩:=o;cases op <;> simp only [Al,Bool.false_eq_true] at h
 case move x=>intro h;cases h
 case assign x=>intro h;cases h
 case nilCheck x=>exact BN _ _ _ _
 case pick c a b=>
  simp only [execOp];cases ρ c <;> first|(intro h;cases h;done)|(intro h;simp [asBool] at h)
 case call c=>
  obtain ⟨callee,args',ats⟩:=c;cases callee <;> simp only [Bool.false_eq_true] at h
  case builtin b=>
   cases b <;> simp only [Bool.false_eq_true] at h
   all_goals exact aaF _ _ _ _ _
 all_goals exact aaF _ _ _ _ _
def f_ (ops:Array Oper) (l:List Nat):Bool:=l.all fun i=>match ops[i]? with|some o=>Al o.op|none=>false
def aQ (ops:Array Oper) (l:List Nat):List Oper:=l.filterMap (ops[·]?)
theorem BO {Q:Exit→Act→World→Prop} {T:Array Bool→Act→World→Prop} (hs:Region.noSelect ops=true):∀(l:List Nat) (n:Nat) (listed:Array Bool) (a:Act) (w:World),Closed md ops listed→
 (f_ ops l&&iJ md ops head l listed)=true→wpQuiet P ops (fun w'=>∃g:Gr w,w'=g.tw) (fun a'=>JN P md ops head Q T n (bI l listed) a' w) (aQ ops l) a→JN P md ops head Q T (n+l.length) listed a w
 | [],n,listed,a,w,_,_,h=>h
 | i::l,n,listed,a,w,hcl,hB,h=>by
   simp only [iJ,f_,List.all_cons,Bool.and_eq_true] at hB;obtain ⟨⟨hfi,hfl⟩,⟨⟨hr,hf⟩,hh⟩,hB'⟩:=hB;cases ho:ops[i]? with
   | none=>rw [ho] at hfi;cases hfi
   | some o=>
     rw [ho] at hfi;simp only at hfi;have hp:aQ ops (i::l)=o::aQ ops l:=by simp [aQ,ho]
     rw [hp] at h;have hB2:(f_ ops l&&iJ md ops head l (listed.setIfInBounds i true))=true:=by simp only [f_,Bool.and_eq_true];exact ⟨hfl,hB'⟩
     simp only [wpQuiet] at h;by_cases hw:Region.wanted o (yielded ops a.tmps)=true
     ·rw [if_pos hw] at h;obtain ⟨v,hv,hK⟩:=h;refine Ak ho (Region.noSelect_spec hs) hh (n+l.length) listed a w hcl (eQ ho hf) (by simpa using hr) (.inl ⟨hw,fun w' hw'=>?_⟩)
       (BO hs l n _ _ w (hcl.step (by simpa using hr)) hB2 hK)
      have h1:=hv w' ⟨⟨w',hw'⟩,rfl⟩;unfold Oper.quietAt at h1;generalize hrun:(execOp a.eval o).run P w'=r at h1;cases r with
      | ok x w1=>
        cases x <;> simp only [Oper.quietUpon] at h1
        case value u=>rw [h1.1,h1.2];exact .inl rfl
        case skip=>rw [h1.1,h1.2];exact .inr ⟨rfl,rfl⟩
        case enter f args=>exact absurd hrun (qV hfi _ _ _ _)
      | halt x w1=>exact h1.elim
     ·rw [if_neg hw] at h;exact Ak ho (Region.noSelect_spec hs) hh (n+l.length) listed a w hcl (eQ ho hf) (by simpa using hr) (.inr ⟨by simpa using hw,rfl⟩)
       (BO hs l n _ _ w (hcl.step (by simpa using hr)) hB2 h)
def nth:List Oper→Nat→Option Oper
 | [],_=>none
 | o::_,0=>some o
 | _::l,i+1=>nth l i
theorem Hg:∀(l:List Oper) (i:Nat),nth l i=l[i]?
 | [],_=>by simp [nth]
 | _::_,0=>by simp [nth]
 | _::l,i+1=>by simp [nth,Hg l i]
theorem dG {i:Nat} {o:Oper} (h:nth ops.toList i=some o):ops[i]? = some o:=by rw [Hg] at h;simpa using h
theorem aC {C:World→Prop} {K:Act→Prop} {i:Nat} {o:Oper} {l:List Nat} {a:Act} (ho:nth ops.toList i=some o) (h:wpQuiet P ops C K (o::aQ ops l) a):wpQuiet P ops C K (aQ ops (i::l)) a:=by
 have hp:aQ ops (i::l)=o::aQ ops l:=by simp [aQ,dG ho]
 rw [hp];exact h
theorem ak {C:World→Prop} {K:Act→Prop} {a:Act} (h:K a):wpQuiet P ops C K (aQ ops []) a:=h
theorem tail_cons {Q:Exit→Act→World→Prop} {i:Nat} {o:Oper} {l:List Nat} {a:Act} {w:World} (ho:nth ops.toList i=some o) (h:wpList P ops Q (o::aQ ops l) a w):wpList P ops Q (aQ ops (i::l)) a w:=by
 have hp:aQ ops (i::l)=o::aQ ops l:=by simp [aQ,dG ho]
 rw [hp];exact h
theorem tail_nil {Q:Exit→Act→World→Prop} {a:Act} {w:World} (h:Q .normal a w):wpList P ops (QP Q) (aQ ops []) a w:=h
theorem ay {Q:Exit→Act→World→Prop} {T:Array Bool→Act→World→Prop} (l:List Nat) (n:Nat) {m:Nat} {listed:Array Bool} {a:Act} {w:World} (hn:m=n+l.length)
 (hB:((Region.noSelect ops&&nZ md ops listed)&&(f_ ops l&&iJ md ops head l listed))=true) (h:wpQuiet P ops (fun w'=>∃g:Gr w,w'=g.tw) (fun a'=>JN P md ops head Q T n (bI l listed) a' w) (aQ ops l) a):JN P md ops head Q T m listed a w:=by
 subst hn;rw [Bool.and_eq_true,Bool.and_eq_true] at hB;exact BO hB.1.1 l n listed a w (gH hB.1.2) hB.2 h
def QE (Q:Exit→Act→World→Prop) (w:World) (K:Act→World→Prop):Exit→Act→World→Prop
 | .normal,a,w'=>Below w.heap.size w w'∧K a w'
 | .panic _,_,_=>False
 | e,a,w'=>Q e a w'
theorem kz {Q:Exit→Act→World→Prop} {K:Act→World→Prop} {i:Nat} {o:Oper} {a:Act} {w:World} (hi:ops[i]? = some o)
 (h:wpList P ops (QE Q w K) [o] a w):sU P ops Q i K a w:=by
 unfold sU wpOp;simp only [hi];unfold wpList at h
 split
 ·rename_i hw;rw [if_pos hw] at h;rcases h with h|⟨h1,h2⟩
  ·refine .inl ?_;unfold Oper.wp at *;generalize (execOp a.eval o).run P w=r at *;cases r with
   | ok n w'=>
     cases n <;> simp only [Oper.upon] at h ⊢
     case enter f args=>
      refine Calls.mono h fun e w'' he=>?_;cases e with
      | returned u=>exact he
      | panicked c=>exact he
      | outgrown=>exact he
     case row row args=>exact Rows.mono h fun u w'' he=>he
     all_goals exact h
   | halt x w'=>cases x <;> simp only [Oper.upon] at h ⊢;exact h
  ·exact .inr ⟨h1,h2⟩
 ·rename_i hw;rw [if_neg hw] at h;exact h
theorem aL {Q:Exit→Act→World→Prop} {T:Array Bool→Act→World→Prop} {n:Nat} (i:Nat) {o:Oper} {listed:Array Bool} {a:Act} {w:World} (hB:(Region.ready md ops listed==[i]&&head.getD i false)=true) (hi:nth ops.toList i=some o)
 (h:wpList P ops (QE Q w (JN P md ops head Q T n (listed.setIfInBounds i true))) [o] a w):JN P md ops head Q T (n+1) listed a w:=by
 simp only [Bool.and_eq_true,beq_iff_eq] at hB;obtain ⟨hr,hh⟩:=hB;refine ⟨by rw [hr];simp,fun j hj=>?_⟩;rw [hr] at hj;obtain rfl:j=i:=by simpa using hj
 exact ⟨hh,kz (dG hi) h⟩
theorem aH {Q:Exit→Act→World→Prop} {w:World} {K:Act→World→Prop} {a:Act} {w':World} (h1:Below w.heap.size w w') (h2:K a w'):QE Q w K .normal a w':=⟨h1,h2⟩
def Hl:Op→Bool
 | .move _|.assign _|.pick ..|.extract ..=>true
 | _=>false
theorem pure_run {ρ:Operand→Value} {o:Oper} (h:Hl o.op=true):(∃v,∀w,(execOp ρ o).run P w=.ok (.value v) w∧∀es,((execOp ρ o).runT P w es).2=es)∨(∃s,∀w,(execOp ρ o).run P w=.halt (.stuck s) w∧∀es,((execOp ρ o).runT P w es).2=es):=by
 obtain ⟨dst,op,type,pos,after,guard⟩:=o;cases op <;> simp only [Hl,Bool.false_eq_true] at h
 case move x=>exact .inl ⟨ρ x,fun w=>⟨rfl,fun _=>rfl⟩⟩
 case assign x=>exact .inl ⟨ρ x,fun w=>⟨rfl,fun _=>rfl⟩⟩
 case pick c a b=>
  cases hc:ρ c
  case bool t=>cases t <;> exact .inl ⟨_,fun w=>by constructor;{ simp only [execOp,hc];rfl };{ intro es;simp only [execOp,hc];rfl }⟩
  all_goals exact .inr ⟨_,fun w=>by constructor;{ simp only [execOp,hc];rfl };{ intro es;simp only [execOp,hc];rfl }⟩
 case extract x ix=>
  cases hc:ρ x
  case tuple vs=>
   cases hv:vs[ix]? with
   | none=>exact .inr ⟨_,fun w=>by constructor;{ simp only [execOp,hc,Instr.extract,hv];rfl };{ intro es;simp only [execOp,hc,Instr.extract,hv];rfl }⟩
   | some y=>exact .inl ⟨y,fun w=>by constructor;{ simp only [execOp,hc,Instr.extract,hv];rfl };{ intro es;simp only [execOp,hc,Instr.extract,hv];rfl }⟩
  all_goals exact .inr ⟨_,fun w=>by constructor;{ simp only [execOp,hc,Instr.extract];rfl };{ intro es;simp only [execOp,hc,Instr.extract];rfl }⟩
def mW (md:Region.Mode) (ops:Array Oper):List Nat→Array Bool→Bool
 | [],listed=>(Region.ready md ops listed).isEmpty
 | i::l,listed=>(Region.ready md ops listed==[i]||((Region.ready md ops listed).contains i&&Region.free md ops listed i&&(match ops[i]? with|some o=>Hl o.op|none=>false)))&&mW md ops l (listed.setIfInBounds i true)
theorem eT {Q:Exit→Act→World→Prop} (hs:Region.noSelect ops=true):∀(l:List Nat) (listed:Array Bool) (a:Act) (w:World),
 mW md ops l listed=true→wpList P ops (QP Q) (aQ ops l) a w→wpAny P md ops (QP Q) l.length listed a w
 | [],listed,a,w,hB,h=>⟨by simpa [mW] using hB,h⟩
 | i::l,listed,a,w,hB,h=>by
   simp only [mW,Bool.and_eq_true,Bool.or_eq_true,beq_iff_eq] at hB;obtain ⟨hr,hB'⟩:=hB;rcases hr with hr|⟨⟨hr,hfree⟩,hp⟩
   ·refine wpAny_all hr (by simp) fun j hj=>?_;obtain rfl:j=i:=by simpa using hj
    have hj':j∈Region.ready md ops listed:=by rw [hr];simp
    obtain ⟨_,o,ho,_⟩:=mem_ready.1 hj';have hp:aQ ops (j::l)=o::aQ ops l:=by simp [aQ,ho]
    rw [hp] at h;unfold wpOp;simp only [ho];unfold wpList at h
    split
    ·rename_i hw;rw [if_pos hw] at h;exact h.imp (Oper.wp_mono fun a w h=>eT hs l _ a w hB' h) id
    ·rename_i hw;rw [if_neg hw] at h;exact eT hs l _ _ w hB' h
   ·cases ho:ops[i]? with
    | none=>rw [ho] at hp;cases hp
    | some o=>
      rw [ho] at hp;simp only at hp;have hpk:aQ ops (i::l)=o::aQ ops l:=by simp [aQ,ho]
      rw [hpk] at h;unfold wpList at h;by_cases hw:Region.wanted o (yielded ops a.tmps)=true
      ·rw [if_pos hw] at h;rcases pure_run (P:=P) (ρ:=a.eval) hp with ⟨v,hv⟩|⟨s,hv⟩
       ·refine wpAny_take ho hs hfree hr (fun _ _ _ h=>h.elim) (.inl ⟨hw,fun w=>(hv w).1⟩) (eT hs l _ _ w hB' ?_);rcases h with h|⟨h1,_⟩
        ·unfold Oper.wp at h;rw [(hv w).1] at h;exact h
        ·exfalso;have:=h1.1;rw [(hv w).2] at this;simp at this
       ·exfalso;rcases h with h|⟨h1,_⟩
        ·unfold Oper.wp at h;rw [(hv w).1] at h;exact h
        ·have:=h1.1;rw [(hv w).2] at this;simp at this
      ·rw [if_neg hw] at h;exact wpAny_take ho hs hfree hr (fun _ _ _ h=>h.elim) (.inr ⟨by simpa using hw,rfl⟩) (eT hs l _ _ w hB' h)
theorem mX {Q:Exit→Act→World→Prop}:∀(n:Nat) (listed:Array Bool) (a:Act) (w:World),wpAny P md ops (QP Q) n listed a w→wpAny P md ops Q n listed a w
 | 0,_,_,_,h=>⟨h.1,h.2⟩
 | n+1,_,_,_,h=>⟨fun h0=>h.1 h0,fun i hi=>wpOp_mono (fun a w h=>mX n _ a w h) (wG (h.2 i hi))⟩
theorem aI {Q:Exit→Act→World→Prop} (l:List Nat) {listed:Array Bool} {a:Act} {w:World} (hB:(gG head listed&&(Region.noSelect ops&&mW md ops l listed))=true)
 (h:wpList P ops (QP Q) (aQ ops l) a w):JN P md ops head Q (fun l' a w=>wpAny P md ops Q l.length l' a w) 0 listed a w:=by
 simp only [Bool.and_eq_true] at hB;exact ⟨hB.1,mX _ _ _ _ (eT hB.2.1 l listed a w hB.2.2 h)⟩
theorem aD {id:Nat} {Q:Exit→Act→World→Prop} {a:Act} {w:World} {l:List Oper} (head:Array Bool) (n t:Nat) (hm:P.follows .mixedOrders=true) (hn:n+t=l.length)
 (h:JN P .any l.toArray head Q (fun l' a w=>wpAny P .any l.toArray Q t l' a w) n (Array.replicate l.length false) a w.drew):(Code.region id l.toArray true).wp P Q a w:=by
 refine wp_region_any hm ?_;have:=wV n _ _ _ h;rw [hn] at this;simpa using this
end
end
def val (b:Nat):List Nat→Nat
 | []=>0
 | d::l=>d+b*val b l
def aV (b:Nat) (x:Nat):List Nat:=
 if _h:x=0∨b<2 then [] else x % b::aV b (x / b)
termination_by x
decreasing_by
 have h1:x≠0:=fun e=>_h (.inl e);exact Nat.div_lt_self (by omega) (by omega)
theorem bV (b:Nat):aV b 0=[]:=by unfold aV;simp
theorem iK {b x:Nat} (hb:2≤b) (hx:x≠0):aV b x=x % b::aV b (x / b):=by
 rw [aV];rw [dif_neg (by omega)]
theorem gI {b:Nat} (hb:2≤b) (x:Nat):val b (aV b x)=x:=by
 induction x using Nat.strongRecOn with
 | ind x ih=>
   by_cases h:x=0
   ·subst h;rw [bV];rfl
   ·rw [iK hb h];show x % b+b*val b (aV b (x / b))=x;rw [ih _ (Nat.div_lt_self (by omega) (by omega))];exact Nat.mod_add_div x b
theorem n_ {b:Nat} (hb:2≤b) (x:Nat):∀d∈aV b x,d<b:=by
 induction x using Nat.strongRecOn with
 | ind x ih=>
   by_cases h:x=0
   ·subst h;rw [bV];simp
   ·rw [iK hb h];intro d hd;rcases List.mem_cons.1 hd with rfl|hd
    ·exact Nat.mod_lt _ (by omega)
    ·exact ih _ (Nat.div_lt_self (by omega) (by omega)) d hd
theorem DJ {b x:Nat} (hb:2≤b):aV b x=[]↔x=0:=by
 constructor
 ·intro h;have:=gI hb x;rw [h] at this;exact this.symm
 ·rintro rfl;exact bV b
theorem Am {b:Nat} (hb:2≤b) (x:Nat):∀d,(aV b x).getLast? = some d→d≠0:=by
 induction x using Nat.strongRecOn with
 | ind x ih=>
   intro d hd;by_cases h:x=0
   ·subst h;rw [bV] at hd;simp at hd
   ·rw [iK hb h] at hd;by_cases h2:x / b=0
    ·rw [h2,bV] at hd;simp at hd;have:=Nat.mod_add_div x b;rw [h2] at this;omega
    ·have hne:aV b (x / b)≠[]:=fun e=>h2 ((DJ hb).1 e);rw [List.getLast?_cons_of_ne_nil hne] at hd;exact ih _ (Nat.div_lt_self (by omega) (by omega)) d hd
theorem val_append (b:Nat) (l m:List Nat):val b (l++m)=val b l+b ^ l.length*val b m:=by
 induction l with
 | nil=>simp [val]
 | cons d l ih=>
   simp only [List.cons_append,val,ih,List.length_cons,Nat.pow_succ];rw [Nat.mul_add,←Nat.mul_assoc,Nat.mul_comm b (b ^ l.length)];omega
theorem tK (b n:Nat):val b (List.replicate n 0)=0:=by
 induction n with
 | zero=>rfl
 | succ n ih=>simp [List.replicate_succ,val,ih]
theorem Hm {b:Nat}:∀l:List Nat,(∀d∈l,d<b)→val b l<b ^ l.length
 | [],_=>by simp [val]
 | d::l,h=>by
   have h1:=h d (by simp);have h2:=Hm l (fun x hx=>h x (by simp [hx]));simp only [val,List.length_cons,Nat.pow_succ]
   calc d+b*val b l<b+b*val b l:=by omega
    _=b*(val b l+1):=by rw [Nat.mul_add];omega
    _≤b*b ^ l.length:=Nat.mul_le_mul_left _ h2
    _=b ^ l.length*b:=Nat.mul_comm _ _
theorem DK {b:Nat} (hb:2≤b):∀l:List Nat,(∀d∈l,d<b)→(∀d,l.getLast? = some d→d≠0)→aV b (val b l)=l
 | [],_,_=>bV b
 | [d],h,hl=>by
   have h0:d≠0:=hl d rfl;have h1:d<b:=h d (by simp);have e:val b [d]=d:=by simp [val]
   rw [e,iK hb h0,Nat.mod_eq_of_lt h1,Nat.div_eq_of_lt h1,bV]
 | d::c::l,h,hl=>by
   have ih:=DK hb (c::l) (fun x hx=>h x (List.mem_cons_of_mem _ hx)) (fun x hx=>hl x (by rw [List.getLast?_cons_of_ne_nil (by simp)];exact hx));have h1:d<b:=h d (by simp);have hv:val b (d::c::l)=d+b*val b (c::l):=rfl;have hne:val b (c::l)≠0:=fun e=>by rw [e,bV] at ih;cases ih
   have hne':d+b*val b (c::l)≠0:=by
    have:0<b*val b (c::l):=Nat.mul_pos (by omega) (by omega);omega
   rw [hv,iK hb hne',Nat.add_mul_mod_self_left,Nat.mod_eq_of_lt h1,Nat.add_mul_div_left _ _ (by omega),Nat.div_eq_of_lt h1,Nat.zero_add,ih]
theorem Nl {b x y:Nat} (hb:2≤b) (h:aV b x=aV b y):x=y:=by
 rw [←gI hb x,←gI hb y,h]
theorem o_ {b:Nat} (hb:2≤b) (l:List Nat) (n:Nat) (hl:∀d∈l,d<b) (hz:∀d∈l.drop n,d=0) (hn:n≤l.length) (h0:n=0∨l[n-1]?≠some 0) :
 aV b (val b l)=l.take n:=by
 have e:l.drop n=List.replicate (l.drop n).length 0:=List.eq_replicate_iff.2 ⟨rfl,hz⟩;have hv:val b l=val b (l.take n):=by
  conv=>lhs;rw [←List.take_append_drop n l]
  rw [val_append,e,tK];omega
 rw [hv];refine DK hb _ (fun d hd=>hl d (List.mem_of_mem_take hd)) fun d hd=>?_;rw [List.getLast?_eq_getElem?,List.length_take,Nat.min_eq_left hn] at hd;rcases h0 with h0|h0
 ·subst h0;simp at hd
 ·rcases Nat.eq_zero_or_pos n with h1|h1
  ·subst h1;simp at hd
  ·rw [List.getElem?_take] at hd
   split at hd
   ·rintro rfl;exact h0 hd
   ·cases hd
theorem getElem?_digs {b:Nat} (hb:2≤b):∀(i x:Nat),((aV b x)[i]?).getD 0=x / b ^ i % b
 | 0,x=>by
   by_cases h:x=0
   ·subst h;simp [bV]
   ·rw [iK hb h];simp
 | i+1,x=>by
   by_cases h:x=0
   ·subst h;simp [bV]
   ·rw [iK hb h];simp only [List.getElem?_cons_succ];rw [getElem?_digs hb i (x / b),Nat.div_div_eq_div_mul,Nat.pow_succ,Nat.mul_comm]
def iG (b x i:Nat):Nat:=x / b ^ i % b
theorem qd {b:Nat} (hb:2≤b) (x i:Nat):iG b x i<b:=Nat.mod_lt _ (by omega)
theorem tL {b:Nat} (hb:2≤b) (x i:Nat):((aV b x)[i]?).getD 0=iG b x i:=getElem?_digs hb i x
def tN (x y:Nat):Int:=if x<y then -1 else if y<x then 1 else 0
theorem lq {b:Nat} (x j:Nat):x / b ^ j=b*(x / b ^ (j+1))+iG b x j:=by
 unfold iG;rw [Nat.pow_succ,←Nat.div_div_eq_div_mul];exact (Nat.div_add_mod _ _).symm
theorem og {b x y j:Nat} (h:x / b ^ (j+1)=y / b ^ (j+1)) (hd:iG b x j<iG b y j):x<y:=by
 have h1:=lq (b:=b) x j;have h2:=lq (b:=b) y j;rw [h] at h1;have h3:x / b ^ j<y / b ^ j:=by omega
 rcases Nat.lt_or_ge x y with h4|h4
 ·exact h4
 ·have:=Nat.div_le_div_right (c:=b ^ j) h4;omega
def lu (b x n:Nat):List Nat:=(List.range n).map (iG b x)
@[simp] theorem DL (b x n:Nat):(lu b x n).length=n:=by simp [lu]
theorem oh (b x n:Nat):lu b x (n+1)=lu b x n++[iG b x n]:=by simp [lu,List.range_succ]
theorem BP {b:Nat} (hb:2≤b) (x n:Nat):∀d∈lu b x n,d<b:=by
 intro d hd;obtain ⟨j,_,rfl⟩:=List.mem_map.1 hd;exact qd hb x j
theorem mod_succ (b x n:Nat):x % b ^ (n+1)=x % b ^ n+b ^ n*iG b x n:=by
 unfold iG;rw [Nat.pow_succ,Nat.mod_mul]
theorem wW (b x:Nat):∀n,val b (lu b x n)=x % b ^ n
 | 0=>by simp [lu,val,Nat.mod_one]
 | n+1=>by rw [oh,val_append,wW b x n,mod_succ,DL];simp [val]
def carry (b x y i:Nat):Nat:=(x % b ^ i+y % b ^ i) / b ^ i
theorem DN {b:Nat} (hb:2≤b) (x y i:Nat):carry b x y i≤1:=by
 unfold carry;have hp:0<b ^ i:=Nat.pow_pos (by omega);have h1:=Nat.mod_lt x hp;have h2:=Nat.mod_lt y hp;have:(x % b ^ i+y % b ^ i) / b ^ i<2:=Nat.div_lt_of_lt_mul (by omega);omega
theorem carry_zero (b x y:Nat):carry b x y 0=0:=by simp [carry,Nat.mod_one]
theorem carry_succ {b:Nat} (hb:2≤b) (x y i:Nat):(iG b x i+iG b y i+carry b x y i) / b=carry b x y (i+1):=by
 have hp:0<b ^ i:=Nat.pow_pos (by omega);have e:x % b ^ (i+1)+y % b ^ (i+1)=(x % b ^ i+y % b ^ i)+b ^ i*(iG b x i+iG b y i):=by rw [mod_succ,mod_succ,Nat.mul_add];omega
 show _=(x % b ^ (i+1)+y % b ^ (i+1)) / b ^ (i+1);rw [e,Nat.pow_succ,←Nat.div_div_eq_div_mul,Nat.add_mul_div_left _ _ hp];show _=(carry b x y i+_) / b;rw [Nat.add_comm]
theorem JP {b:Nat} (hb:2≤b) (x y i:Nat):(iG b x i+iG b y i+carry b x y i) % b=iG b (x+y) i:=by
 have hp:0<b ^ i:=Nat.pow_pos (by omega);have e:x+y=(x % b ^ i+y % b ^ i)+b ^ i*(x / b ^ i+y / b ^ i):=by
  have h1:=Nat.mod_add_div x (b ^ i);have h2:=Nat.mod_add_div y (b ^ i);rw [Nat.mul_add];omega
 have e2:(x+y) / b ^ i=carry b x y i+(x / b ^ i+y / b ^ i):=by
  conv=>lhs;rw [e]
  rw [Nat.add_mul_div_left _ _ hp];rfl
 unfold iG;rw [e2,Nat.add_comm (carry b x y i),Nat.add_mod (x / b ^ i+y / b ^ i),Nat.add_mod (x / b ^ i) (y / b ^ i)];simp [Nat.add_mod]
theorem wX {b:Nat} (hb:2≤b) {x y n:Nat} (hx:x<b ^ n) (hy:y<b ^ n):x+y<b ^ (n+1):=by
 rw [Nat.pow_succ];have:b ^ n*2≤b ^ n*b:=Nat.mul_le_mul_left _ hb;omega
theorem tO {x y:Nat} (h:x<y):tN x y=-1:=by simp [tN,h]
theorem tQ {x y:Nat} (h:y<x):tN x y=1:=by unfold tN;rw [if_neg (by omega),if_pos h]
theorem DR (x:Nat):tN x x=0:=by simp [tN]
theorem aR {b:Nat} (hb:2≤b) {x n:Nat}:(aV b x).length≤n↔x<b ^ n:=by
 constructor
 ·intro h;have h1:=Hm (b:=b) (aV b x) (n_ hb x);rw [gI hb] at h1;exact Nat.lt_of_lt_of_le h1 (Nat.pow_le_pow_right (by omega) h)
 ·intro h;rcases Nat.lt_or_ge n (aV b x).length with h1|h1
  ·exfalso;have hne:aV b x≠[]:=by intro e;rw [e] at h1;simp at h1
   obtain ⟨d,hd⟩:∃d,(aV b x).getLast? = some d:=⟨_,List.getLast?_eq_some_getLast hne⟩;have h0:=Am hb x d hd;rw [List.getLast?_eq_getElem?] at hd;have h2:=getElem?_digs hb ((aV b x).length-1) x;rw [hd] at h2;simp only [Option.getD_some] at h2;have h3:x / b ^ ((aV b x).length-1)=0:=by
    apply Nat.div_eq_of_lt;exact Nat.lt_of_lt_of_le h (Nat.pow_le_pow_right (by omega) (by omega))
   rw [h3] at h2;simp at h2;exact h0 h2
  ·exact h1
end Go.Cd
