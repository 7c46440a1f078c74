/- TraceParts and TraceWalks: a machine takes a character as those of its full decomposition, one by one; texts that are alike go through it, and of others none; no condition. -/
import Derived.Test.YtjidohgiigjifaaGreatDoorR20
set_option maxRecDepth 100000
set_option maxHeartbeats 6400000
namespace Go.Proofs.YtjidohgiigjifaaGreatDoor
section
open Go.RowKit Go.Cd
def aai:List Nat→List (Nat×List Nat)→List Nat
 | m::ms,x::L=>x.2.drop m++aai ms L
 | _,_=>[]
def abd (r:fJ):List Nat:=r.1::r.2.flatMap (·.2)
def aaH (R:List fJ) (s:vP):List Nat:=aai s.2 (aY R s.1).2++(R.drop (s.1+1)).flatMap abd
def zu (K:Nat→Nat) (c:Nat):List Nat→Option (List Nat)
 | []=>none
 | a::t=>if K c=0 then (if a=c then some t else none) else if K a=0 then none else if K a<K c then (zu K c t).map (a::·) else if a=c then some t else none
section
variable {K : Nat → Nat}
theorem aa0 (c:Nat):∀l,zu K c (jb K c l)=some l
 | []=>by by_cases h:K c=0 <;> simp [jb,zu,h]
 | d::l=>by
   by_cases h:0<K d∧K d<K c
   ·have h1:¬K c=0:=by omega
    have h2:¬K d=0:=by omega
    simp only [jb,if_pos h,zu,if_neg h1,if_neg h2,if_pos h.2,aa0 c l,Option.map_some]
   ·by_cases h1:K c=0 <;> simp [jb,if_neg h,zu,h1]
theorem abk {c:Nat}:∀{r r':List Nat},iQ K r→zu K c r=some r'→jb K c r'=r
 | [],_,_,h=>by simp [zu] at h
 | a::t,r',ho,h=>by
   unfold zu at h
   split at h
   ·rename_i h0
    split at h
    ·rename_i e;subst e;obtain rfl:=Option.some.inj h;cases t with
     | nil=>rfl
     | cons d t=>unfold jb;rw [if_neg (by omega)]
    ·cases h
   ·rename_i h0
    split at h
    ·cases h
    ·rename_i h1
     split at h
     ·rename_i h2;cases e:zu K c t with
      | none=>rw [e] at h;cases h
      | some t'=>
        rw [e] at h;obtain rfl:=Option.some.inj h;have:=abk (r:=t) (by cases t with|nil=>trivial|cons b t=>exact ho.2) e;show jb K c (a::t')=_;unfold jb;rw [if_pos ⟨by omega,h2⟩,this]
     ·split at h
      ·rename_i e;subst e;obtain rfl:=Option.some.inj h;cases t with
       | nil=>rfl
       | cons d t=>exact if_neg ho.1
      ·cases h
theorem abl {c:Nat}:∀{r r':List Nat},iQ K r→zu K c r=some r'→iQ K r'
 | [],_,_,h=>by simp [zu] at h
 | a::t,r',ho,h=>by
   have ht:iQ K t:=by cases t with|nil=>trivial|cons b t=>exact ho.2
   unfold zu at h
   split at h
   ·split at h
    ·obtain rfl:=Option.some.inj h;exact ht
    ·cases h
   ·split at h
    ·cases h
    ·split at h
     ·rename_i h1 h2;cases e:zu K c t with
      | none=>rw [e] at h;cases h
      | some t'=>
        rw [e] at h;obtain rfl:=Option.some.inj h;have hi:=abl ht e;show iQ K (a::t');cases t' with
        | nil=>trivial
        | cons d u=>
          refine ⟨?_,hi⟩;cases t with
          | nil=>simp [zu] at e
          | cons b v=>
            have ho1:=ho.1;unfold zu at e
            split at e
            ·omega
            ·split at e
             ·cases e
             ·split at e
              ·cases e2:zu K c v with
               | none=>rw [e2] at e;cases e
               | some v'=>
                 rw [e2] at e;have:=Option.some.inj e;simp only [List.cons.injEq] at this;rw [←this.1];exact ho1
              ·split at e
               ·rename_i e3;subst e3;obtain rfl:=Option.some.inj e;have:=ht.1;unfold swp at this ⊢;omega
               ·cases e
     ·split at h
      ·obtain rfl:=Option.some.inj h;exact ht
      ·cases h
def aal (n c:Nat):List Nat→List (Nat×List Nat)→Option (List Nat)
 | m::ms,x::L=>if x.1=n∧m<x.2.length∧x.2.getD m 0=c then some ((m+1)::ms) else (aal n c ms L).map (m::·)
 | _,_=>none
theorem aaN (n c:Nat):∀(ms:List Nat) (L:List (Nat×List Nat)),ms.length=L.length→((List.range L.length).find? (gz n c ms L)).map (fun i=>ms.set i (ms.getD i 0+1))=aal n c ms L
 | [],[],_=>rfl
 | [],_::_,h=>by simp at h
 | _::_,[],h=>by simp at h
 | m::ms,x::L,h=>by
   have ih:=aaN n c ms L (by simpa using h);rw [List.length_cons,List.range_succ_eq_map];have e0:gz n c (m::ms) (x::L) 0=decide (x.1=n∧m<x.2.length∧x.2.getD m 0=c):=by simp [gz,Bool.decide_and,Bool.and_assoc]
   by_cases hc:x.1=n∧m<x.2.length∧x.2.getD m 0=c
   ·rw [List.find?_cons_of_pos (by rw [e0];exact decide_eq_true hc)];unfold aal;rw [if_pos hc];rfl
   ·rw [List.find?_cons_of_neg (by rw [e0];simpa using hc),List.find?_map];unfold aal;rw [if_neg hc,←ih];have e1:(gz n c (m::ms) (x::L) ∘ Nat.succ)=gz n c ms L:=by funext i;rfl
    rw [e1];cases (List.range L.length).find? (gz n c ms L) <;> rfl
def aa1 (K:Nat→Nat) (L:List (Nat×List Nat)):Prop:=(∀x∈L,0<x.1∧∀y∈x.2,K y=x.1)∧L.Pairwise fun a b=>a.1<b.1
theorem aa1.tail {x:Nat×List Nat} {L:List (Nat×List Nat)} (h:aa1 K (x::L)):aa1 K L:=⟨fun y hy=>h.1 y (List.mem_cons_of_mem _ hy),(List.pairwise_cons.1 h.2).2⟩
theorem aaO {n c:Nat}:∀{ms:List Nat} {L:List (Nat×List Nat)},(∀x∈L,x.1≠n)→aal n c ms L=none
 | [],[],_=>rfl
 | [],_::_,_=>rfl
 | _::_,[],_=>rfl
 | m::ms,x::L,h=>by
   unfold aal;rw [if_neg (fun a=>h x (by simp) a.1),aaO fun y hy=>h y (List.mem_cons_of_mem _ hy)];rfl
theorem aa6 {c n:Nat} (h0:0<n) (h:n<K c) (X:List Nat):∀u:List Nat,(∀y∈u,K y=n)→zu K c (u++X)=(zu K c X).map (u++·)
 | [],_=>by simp
 | a::u,hu=>by
   have ha:=hu a (by simp);show zu K c (a::(u++X))=_;rw [zu,if_neg (by omega),if_neg (by omega),if_pos (by omega),aa6 h0 h X u fun y hy=>hu y (List.mem_cons_of_mem _ hy)];cases zu K c X <;> simp
theorem aaU {c:Nat} (hc:K c≠0) {rest:List Nat} (hr:∀a t,rest=a::t→K a=0):∀{ms:List Nat} {L:List (Nat×List Nat)},ms.length=L.length→aa1 K L→
 zu K c (aai ms L++rest)=(aal (K c) c ms L).map fun ms'=>aai ms' L++rest
 | [],[],_,_=>by
   show zu K c rest=none;cases rest with
   | nil=>rfl
   | cons a t=>unfold zu;rw [if_neg hc,if_pos (hr a t rfl)]
 | [],_::_,h,_=>by simp at h
 | _::_,[],h,_=>by simp at h
 | m::ms,x::L,h,hL=>by
   have ih:=aaU hc hr (ms:=ms) (L:=L) (by simpa using h) hL.tail;have hx:=hL.1 x (by simp);have hlt:=(List.pairwise_cons.1 hL.2).1;by_cases hm:m<x.2.length
   ·have hd:x.2.drop m=x.2[m]::x.2.drop (m+1):=List.drop_eq_getElem_cons hm;have hg:x.2.getD m 0=x.2[m]:=by rw [List.getD_eq_getElem?_getD,List.getElem?_eq_getElem hm];rfl
    have hK:K x.2[m]=x.1:=hx.2 _ (List.getElem_mem hm);by_cases h1:x.1<K c
    ·have hn:¬(x.1=K c∧m<x.2.length∧x.2.getD m 0=c):=fun a=>by omega
     unfold aal aai;rw [if_neg hn,List.append_assoc,aa6 hx.1 h1 _ _ (fun y hy=>hx.2 y (List.mem_of_mem_drop hy)),ih];cases aal (K c) c ms L <;> simp
    ·have hnone:(∀y∈L,y.1≠K c):=fun y hy e=>by have:=hlt y hy;omega
     unfold aal;show zu K c ((x.2.drop m++aai ms L)++rest)=_;rw [hd];show zu K c (x.2[m]::(x.2.drop (m+1)++aai ms L++rest))=_;unfold zu;rw [if_neg hc,if_neg (by omega),if_neg (by omega),hg];by_cases h2:x.2[m]=c
     ·have h3:x.1=K c:=by rw [←hK,h2]
      rw [if_pos h2,if_pos ⟨h3,hm,h2⟩];rfl
     ·rw [if_neg h2,if_neg (fun a=>h2 a.2.2),aaO hnone];rfl
   ·have hn:¬(x.1=K c∧m<x.2.length∧x.2.getD m 0=c):=fun a=>hm a.2.1;have hd:x.2.drop m=[]:=List.drop_eq_nil_of_le (by omega);unfold aal aai;rw [if_neg hn,hd,List.nil_append,ih];cases aal (K c) c ms L <;> simp [hd]
structure abr (K:Nat→Nat) (R:List fJ):Prop where
 lan:∀r∈R,aa1 K r.2
 head:∀r∈R.tail,K r.1=0
theorem abr.rest {R:List fJ} (h:abr K R) (k:Nat):∀a t,(R.drop (k+1)).flatMap abd=a::t→K a=0:=by
 intro a t e;cases hd:R.drop (k+1) with
 | nil=>rw [hd] at e;cases e
 | cons r u=>
   rw [hd,List.flatMap_cons] at e;have:a=r.1:=by unfold abd at e;exact (List.cons.inj e).1.symm
   rw [this];refine h.head r ?_;rw [show R.tail=R.drop 1 by simp];have:R.drop (k+1)=(R.drop 1).drop k:=by rw [List.drop_drop,Nat.add_comm]
   rw [this] at hd;exact List.mem_of_mem_drop (i:=k) (by rw [hd];simp)
theorem aaK:∀L:List (Nat×List Nat),aai (List.replicate L.length 0) L=L.flatMap (·.2)
 | []=>rfl
 | x::L=>by
   show x.2.drop 0++aai (List.replicate L.length 0) L=_;rw [aaK L];simp
theorem aay:∀{ms:List Nat} {L:List (Nat×List Nat)},ms.length=L.length→(qI (nz ms) L=true↔aai ms L=[])
 | [],[],_=>by simp [qI,nz,aai]
 | [],_::_,h=>by simp at h
 | _::_,[],h=>by simp at h
 | m::ms,x::L,h=>by
   have ih:=aay (ms:=ms) (L:=L) (by simpa using h);have e:qI (nz (m::ms)) (x::L)=(!decide ((m:Int)<(x.2.length:Nat))&&qI (nz ms) L):=by simp [qI,nz]
   rw [e,Bool.and_eq_true,ih];show _↔x.2.drop m++aai ms L=[];rw [List.append_eq_nil_iff,List.drop_eq_nil_iff];simp
theorem abG {ms:List Nat} {L:List (Nat×List Nat)} (hL:aa1 K L) {a:Nat} {t:List Nat} (h:aai ms L=a::t):K a≠0:=by
 induction L generalizing ms with
 | nil=>cases ms <;> cases h
 | cons x L ih=>
   cases ms with
   | nil=>cases h
   | cons m ms=>
     have hx:=hL.1 x (by simp);rw [aai] at h;cases hd:x.2.drop m with
     | nil=>rw [hd] at h;exact ih hL.tail h
     | cons b u=>
       rw [hd] at h;obtain rfl:=(List.cons.inj h).1;have:=hx.2 b (List.mem_of_mem_drop (i:=m) (by rw [hd];simp));omega
theorem abt {R:List fJ} (h:abr K R) (k:Nat):aa1 K (aY R k).2:=by
 unfold aY;rw [List.getD_eq_getElem?_getD];by_cases hk:k<R.length
 ·rw [List.getElem?_eq_getElem hk];exact h.lan _ (List.getElem_mem hk)
 ·rw [List.getElem?_eq_none (by omega)];exact ⟨fun x hx=>(by cases hx),List.Pairwise.nil⟩
theorem aa7 {R:List fJ} (h:abr K R) {s:vP} (hs:sM R s) (c:Nat):zu K c (aaH R s)=(lW K R s c).map (aaH R):=by
 have hL:=abt h s.1;unfold lW;by_cases hc:K c=0
 ·rw [if_pos hc];by_cases hw:qI (nz s.2) (aY R s.1).2=true
  ·have hm:=(aay hs.len).1 hw;unfold aaH;rw [hm,List.nil_append];by_cases hk:s.1+1<R.length
   ·rw [List.drop_eq_getElem_cons hk,List.flatMap_cons,←gV hk];show zu K c ((aY R (s.1+1)).1::_)=_;unfold zu;rw [if_pos hc];by_cases he:(aY R (s.1+1)).1=c
    ·rw [if_pos he,if_pos ⟨hw,hk,he⟩,Option.map_some];show _=some (aai _ _++_);rw [aaK];rfl
    ·rw [if_neg he,if_neg fun a=>he a.2.2];rfl
   ·rw [List.drop_eq_nil_of_le (by omega),if_neg fun a=>hk a.2.1];rfl
  ·rw [if_neg fun a=>hw a.1];have hm:aai s.2 (aY R s.1).2≠[]:=fun e=>hw ((aay hs.len).2 e);unfold aaH;cases hr:aai s.2 (aY R s.1).2 with
   | nil=>exact absurd hr hm
   | cons a t=>
     show zu K c (a::_)=none;unfold zu;rw [if_pos hc,if_neg fun e=>abG hL hr (by rw [e];exact hc)]
 ·rw [if_neg hc];have e1:=aaU hc (h.rest s.1) hs.len hL;rw [←aaN _ _ _ _ hs.len,Option.map_map] at e1;unfold aaH;rw [e1,Option.map_map];rfl
theorem aaP {R:List fJ} {s:vP} (hs:sM R s):aac R s=true↔aaH R s=[]:=by
 unfold aac aaH;rw [Bool.and_eq_true,decide_eq_true_eq,List.append_eq_nil_iff,aay hs.len];have hk:=hs.lt;constructor
 ·rintro ⟨a,b⟩;exact ⟨b,by rw [List.drop_eq_nil_of_le (by omega)];rfl⟩
 ·rintro ⟨a,b⟩;refine ⟨?_,a⟩;by_cases h1:s.1+1<R.length
  ·rw [List.drop_eq_getElem_cons h1,List.flatMap_cons] at b;simp [abd] at b
  ·omega
theorem aa8 {R:List fJ} (h:abr K R):∀(ys:List Nat) (s:vP),sM R s→iQ K (aaH R s)→
 ((∃s',ys.foldlM (lW K R) s=some s'∧aac R s'=true)↔iP K ys=aaH R s)
 | [],s,hs,_=>by
   constructor
   ·rintro ⟨s',e,ho⟩;obtain rfl:s=s':=Option.some.inj e;exact ((aaP hs).1 ho).symm
   ·intro e;exact ⟨s,rfl,(aaP hs).2 e.symm⟩
 | c::ys,s,hs,ho=>by
   have hd:=aa7 h hs c;show _↔jb K c (iP K ys)=_;rw [List.foldlM_cons];cases ht:lW K R s c with
   | none=>
     rw [ht,Option.map_none] at hd;constructor
     ·rintro ⟨s',e,_⟩;cases e
     ·intro e;rw [←e,aa0] at hd;cases hd
   | some s1=>
     rw [ht,Option.map_some] at hd;have ih:=aa8 h ys s1 (P8 hs ht) (abl ho hd);show (∃s',ys.foldlM (lW K R) s1=some s'∧_)↔_;rw [ih];constructor
     ·intro e;rw [e];exact abk ho hd
     ·intro e;rw [←e,aa0] at hd;exact Option.some.inj hd
structure TrF (K:Nat→Nat) (l:List Nat) (R:List fJ):Prop where
 fine:abr K R
 ne:R≠[]
 flat:(R.headD (0,[])).2.flatMap (·.2)++R.tail.flatMap abd=l
 last:∀x∈(R.getLastD (0,[])).2,l≠[]∧x.1≤K (l.getLastD 0)
theorem abu {a:List Nat} {c:Nat}:iQ K (a++[c])→iQ K a∧(a≠[]→¬swp K (a.getLastD 0) c):=by
 induction a with
 | nil=>intro _;exact ⟨trivial,fun h=>absurd rfl h⟩
 | cons x a ih=>
   intro h;cases a with
   | nil=>exact ⟨trivial,fun _=>h.1⟩
   | cons y a=>
     obtain ⟨h1,h2⟩:=ih h.2;exact ⟨⟨h.1,h1⟩,fun _=>by simpa using h2 (by simp)⟩
theorem abH {n c:Nat} {L:List (Nat×List Nat)} (hL:aa1 K L) (hn:K c=n) (h0:0<n) (hle:∀x∈L,x.1≤n) :
 aa1 K (uC n c L)∧(uC n c L).flatMap (·.2)=L.flatMap (·.2)++[c]∧∀x∈uC n c L,x.1≤n:=by
 rcases List.eq_nil_or_concat L with rfl|⟨A,x,rfl⟩
 ·have e:uC n c []=[(n,[c])]:=rfl;rw [e];refine ⟨⟨fun x hx=>?_,List.pairwise_singleton _ _⟩,rfl,fun x hx=>?_⟩
  ·obtain rfl:=List.mem_singleton.1 hx;exact ⟨h0,fun y hy=>by rw [List.mem_singleton.1 hy];exact hn⟩
  ·obtain rfl:=List.mem_singleton.1 hx;exact Nat.le_refl _
 ·obtain ⟨m,l⟩:=x;rw [List.concat_eq_append] at *;by_cases hm:m=n
  ·rw [uD hm];have hA:=List.pairwise_append.1 hL.2;refine ⟨⟨fun x hx=>?_,?_⟩,by simp,fun x hx=>?_⟩
   ·rcases List.mem_append.1 hx with hx|hx
    ·exact hL.1 x (List.mem_append_left _ hx)
    ·obtain rfl:=List.mem_singleton.1 hx;have:=hL.1 (m,l) (by simp);refine ⟨this.1,fun y hy=>?_⟩;rcases List.mem_append.1 hy with hy|hy
     ·exact this.2 y hy
     ·rw [List.mem_singleton.1 hy];exact hn.trans hm.symm
   ·exact List.pairwise_append.2 ⟨hA.1,List.pairwise_singleton _ _,fun a ha b hb=>by
     rw [List.mem_singleton.1 hb];exact hA.2.2 a ha (m,l) (by simp)⟩
   ·rcases List.mem_append.1 hx with hx|hx
    ·exact hle x (List.mem_append_left _ hx)
    ·rw [List.mem_singleton.1 hx];exact Nat.le_of_eq hm
  ·rw [sJ (fun x hx=>by rw [List.getLast?_concat] at hx;obtain rfl:=Option.some.inj hx;exact hm)];have hmx:m≤n:=hle (m,l) (by simp);have hA:=List.pairwise_append.1 hL.2;have hall:∀x∈A++[(m,l)],x.1<n:=fun x hx=>by
    rcases List.mem_append.1 hx with hx|hx
    ·have:=hA.2.2 x hx (m,l) (by simp);simp at this;omega
    ·rw [List.mem_singleton.1 hx];show m<n;omega
   refine ⟨⟨fun x hx=>?_,?_⟩,by simp,fun x hx=>?_⟩
   ·rcases List.mem_append.1 hx with hx|hx
    ·exact hL.1 x hx
    ·obtain rfl:=List.mem_singleton.1 hx;exact ⟨h0,fun y hy=>by rw [List.mem_singleton.1 hy];exact hn⟩
   ·exact List.pairwise_append.2 ⟨hL.2,List.pairwise_singleton _ _,fun a ha b hb=>by rw [List.mem_singleton.1 hb];exact hall a ha⟩
   ·rcases List.mem_append.1 hx with hx|hx
    ·exact hle x hx
    ·rw [List.mem_singleton.1 hx];exact Nat.le_refl _
theorem aa9:∀(n:Nat) {l:List Nat},l.length=n→iQ K l→TrF K l (dU K l)
 | 0,l,hl,_=>by
   obtain rfl:=List.length_eq_zero_iff.1 hl;exact ⟨⟨fun r hr=>by rw [show dU K []=[(0,[])] from rfl] at hr;rw [List.mem_singleton.1 hr];exact ⟨fun x hx=>(by cases hx),List.Pairwise.nil⟩,fun r hr=>(by cases hr)⟩,by simp [dU],rfl,fun x hx=>(by cases hx)⟩
 | n+1,l,hl,ho=>by
   rcases List.eq_nil_or_concat l with rfl|⟨l,c,rfl⟩
   ·cases hl
   rw [List.concat_eq_append] at *;have ih:=aa9 n (l:=l) (by simpa using hl);obtain ⟨h1,h2⟩:=abu ho;obtain ⟨hF,hne,hfl,hla⟩:=ih h1;have e:dU K (l++[c])=yF K (dU K l) c:=by unfold dU;rw [List.foldl_append];rfl
   rw [e];generalize dU K l=R at *;rcases List.eq_nil_or_concat R with rfl|⟨A,r,rfl⟩
   ·exact absurd rfl hne
   rw [List.concat_eq_append] at *;by_cases hc:K c=0
   ·rw [yG hc];refine ⟨⟨fun q hq=>?_,fun q hq=>?_⟩,by simp,?_,fun x hx=>by simp at hx⟩
    ·rcases List.mem_append.1 hq with hq|hq
     ·exact hF.lan q hq
     ·rw [List.mem_singleton.1 hq];exact ⟨fun x hx=>(by cases hx),List.Pairwise.nil⟩
    ·rw [List.tail_append_of_ne_nil (by simp)] at hq;rcases List.mem_append.1 hq with hq|hq
     ·exact hF.head q hq
     ·rw [List.mem_singleton.1 hq];exact hc
    ·rw [List.tail_append_of_ne_nil (by simp),List.flatMap_append,←List.append_assoc,←hfl];cases A <;> simp [abd]
   ·rw [uE hc];have hlr:(A++[r]).getLastD (0,[])=r:=List.getLastD_concat ..;rw [hlr] at hla;have hle:∀x∈r.2,x.1≤K c:=fun x hx=>by
     have h3:=hla x hx;have h4:=(hF.lan r (by simp)).1 x hx;have h5:=h2 h3.1;unfold swp at h5;have h6:=h3.2;omega
    obtain ⟨g1,g2,g3⟩:=abH (hF.lan r (by simp)) rfl (by omega) hle;refine ⟨⟨fun q hq=>?_,fun q hq=>?_⟩,by simp,?_,fun x hx=>?_⟩
    ·rcases List.mem_append.1 hq with hq|hq
     ·exact hF.lan q (List.mem_append_left _ hq)
     ·rw [List.mem_singleton.1 hq];exact g1
    ·cases A with
     | nil=>cases hq
     | cons a A=>
       rw [List.cons_append,List.tail_cons] at hq;rcases List.mem_append.1 hq with hq|hq
       ·exact hF.head q (by simp [hq])
       ·rw [List.mem_singleton.1 hq];exact hF.head r (by simp)
    ·rw [←hfl];cases A with
     | nil=>simp [g2]
     | cons a A=>simp [abd,g2]
    ·rw [List.getLastD_concat] at hx ⊢;exact ⟨by simp,g3 x hx⟩
def s0 (R:List fJ):vP:=(0,List.replicate (aY R 0).2.length 0)
theorem abe {R:List fJ} (h:R≠[]):aY R 0=R.headD (0,[]):=by cases R with|nil=>exact absurd rfl h|cons a R=>rfl
theorem acd {R:List fJ} (h:R≠[]):sM R (s0 R):=⟨List.length_pos_iff.2 h,by simp [s0],fun i a b=>by simp [s0]⟩
theorem abI {l:List Nat} {R:List fJ} (h:TrF K l R):aaH R (s0 R)=l:=by
 conv=>rhs;rw [←h.flat]
 unfold aaH s0;rw [aaK,abe h.ne];simp
theorem aaQ {F:Nat→List Nat} {f:vP→Nat→Option vP}:∀(ys:List Nat) (s:vP),(ys.flatMap F).foldlM f s=ys.foldlM (fun s c=>(F c).foldlM f s) s
 | [],_=>rfl
 | c::ys,s=>by
   rw [List.flatMap_cons,List.foldlM_append,List.foldlM_cons];congr 1;funext s';exact aaQ ys s'
def ace (K:Nat→Nat) (F:Nat→List Nat) (R:List fJ) (s:vP) (ys:List Nat):Bool:=
 match ys.foldlM (yQ K F R) s with
 | some s'=>aac R s'
 | none=>false
theorem abJ {F:Nat→List Nat} {l:List Nat} (hl:iQ K l) (ys:List Nat):ace K F (dU K l) (s0 (dU K l)) ys=decide (iP K (ys.flatMap F)=l):=by
 have hT:=aa9 l.length rfl hl;have hw:=aa8 hT.fine (ys.flatMap F) (s0 (dU K l)) (acd hT.ne) (by rw [abI hT];exact hl);rw [abI hT,aaQ] at hw;unfold ace;show (match ys.foldlM (fun s c=>(F c).foldlM (lW K (dU K l)) s) (s0 (dU K l)) with|some s'=>aac (dU K l) s'|none=>false)=_;cases e:ys.foldlM (fun s c=>(F c).foldlM (lW K (dU K l)) s) (s0 (dU K l)) with
 | none=>
   rw [e] at hw
   symm
   rw [decide_eq_false_iff_not];intro h;obtain ⟨_,h1,_⟩:=hw.2 h;cases h1
 | some s'=>
   rw [e] at hw;rw [Bool.eq_iff_iff,decide_eq_true_eq];constructor
   ·intro h;exact hw.1 ⟨s',rfl,h⟩
   ·intro h;obtain ⟨_,h1,h2⟩:=hw.2 h;obtain rfl:=Option.some.inj h1;exact h2
theorem aa_ {ms:List Nat} {L:List (Nat×List Nat)} (hl:ms.length=L.length) (h:qI (nz ms) L=true):gW ms L L.length=[]:=by
 unfold gW;rw [List.flatMap_eq_nil_iff];intro i hi;rw [List.mem_range] at hi;have hm:i<(nz ms).length:=by rw [uL];omega
 have h1:=List.all_eq_true.1 h _ (List.getElem_mem (l:=(nz ms).zip L) (n:=i) (by simp;omega));rw [List.getElem_zip] at h1;unfold sN;rw [List.getD_eq_getElem?_getD,List.getD_eq_getElem?_getD,List.getElem?_eq_getElem hi,List.getElem?_eq_getElem (show i<ms.length by omega)];simp [nz] at h1;rw [if_neg (by simpa using h1)]
theorem aba {R:List fJ} {s:vP} (hs:sM R s) {c:Nat} (h:(lW K R s c).isSome=true):c∈jZ R s:=by
 unfold lW at h;unfold jZ
 split at h
 ·split at h
  ·rename_i h1;rw [if_pos (aa_ hs.len h1.1),if_pos h1.2.1,h1.2.2];simp
  ·cases h
 ·rw [Option.isSome_map] at h;obtain ⟨i,hi⟩:=Option.isSome_iff_exists.1 h;have h1:=List.find?_some hi;have h2:=List.mem_range.1 (List.mem_of_find?_eq_some hi);unfold gz at h1;simp only [Bool.and_eq_true,decide_eq_true_eq] at h1;have hm:c∈gW s.2 (aY R s.1).2 (aY R s.1).2.length:=by
   unfold gW;rw [List.mem_flatMap];refine ⟨i,List.mem_range.2 h2,?_⟩;unfold sN;rw [if_pos h1.1.2,h1.2];simp
  rw [if_neg (fun e=>by rw [e] at hm;cases hm)];exact hm
theorem abm:∀{ms:List Nat} {L:List (Nat×List Nat)} {a:Nat},a∈aai ms L→a∈L.flatMap (·.2)
 | [],_,_,h=>by cases h
 | _::_,[],_,h=>by cases h
 | m::ms,x::L,a,h=>by
   rw [aai] at h;rw [List.flatMap_cons];rcases List.mem_append.1 h with h|h
   ·exact List.mem_append_left _ (List.mem_of_mem_drop h)
   ·exact List.mem_append_right _ (abm h)
theorem abK {l:List Nat} {R:List fJ} (h:TrF K l R) {s:vP} (hs:sM R s) {a:Nat} (ha:a∈aaH R s):a∈l:=by
 rw [←h.flat];obtain ⟨k,ms⟩:=s;have hk:=hs.lt;unfold aaH at ha;cases R with
 | nil=>exact absurd rfl h.ne
 | cons r R=>
   rcases List.mem_append.1 ha with ha|ha
   ·have ha:=abm ha;cases k with
    | zero=>exact List.mem_append_left _ ha
    | succ k=>
      refine List.mem_append_right _ (List.mem_flatMap.2 ⟨aY (r::R) (k+1),?_,List.mem_cons_of_mem _ ha⟩);rw [gV hk];exact List.getElem_mem (l:=R) (by simpa using hk)
   ·obtain ⟨q,hq,ha⟩:=List.mem_flatMap.1 ha;exact List.mem_append_right _ (List.mem_flatMap.2 ⟨q,List.mem_of_mem_drop (i:=k) hq,ha⟩)
theorem ab1 {l:List Nat} {R:List fJ} (h:TrF K l R) {s:vP} (hs:sM R s) (ho:aac R s=false):∃a∈l,a∈jZ R s∧(lW K R s a).isSome=true:=by
 cases hr:aaH R s with
 | nil=>rw [(aaP hs).2 hr] at ho;cases ho
 | cons a t=>
   have hd:=aa7 h.fine hs a;have h1:(zu K a (aaH R s)).isSome=true:=by
    rw [hr];unfold zu;by_cases hc:K a=0 <;> simp [hc]
   rw [hd,Option.isSome_map] at h1;exact ⟨a,abK h hs (by rw [hr];simp),aba hs h1,h1⟩
end
end
open Go.RowKit Go.Cd
theorem abf {w:World} {u v:Value} {s:vP} (hu:G_ w u s) (hv:G_ w v s) (hl:s.2.length<10000) :
 Calls Tryz.prog 25 #[u,v] w fun e w'=>e=.returned (.bool true)∧Below w.heap.size w w':=by
 obtain ⟨su,rfl,hsu⟩:=hu;obtain ⟨sv,rfl,hsv⟩:=hv;obtain ⟨sa,sc,rfl,_,hx⟩:=bD.out hsu.any;obtain ⟨ta,tc,rfl,_,hy⟩:=bD.out hsv.any;obtain ⟨n,hn⟩:=af ((bH (nz s.2)).length);have Qy:n<10000:=by rw [hn];simpa [bH] using hl
 have hns:n=s.2.length:=by rw [hn];simp [bH]
 rw [←hn];obtain ⟨k,hk⟩:=af s.1;rw [←hk];have HX:=ae hx;have HY:=ae hy;have HN:=ae hn;have HNS:=ae hns;obtain ⟨w2,hw2⟩:=af ((w.alloc (.cells #[.int .i64 (k:Nat),.slice sa n sc] 53)).alloc (.cells #[.int .i64 (k:Nat),.slice ta n tc] 53));have hb:Below w.heap.size w w2:=by rw [hw2];exact dF _ _
 have k1:Is w2 w.heap.size #[.int .i64 (k:Nat),.slice sa n sc] 53:=by rw [hw2];exact (Is.new _ _ _).mono (ai _)
 have k2:Is w2 (w.heap.size+1) #[.int .i64 (k:Nat),.slice ta n tc] 53:=by rw [hw2];exact Is.new' _ _ _ _ (by simp)
 have e0:=k1.at 0 rfl;have e1:=k1.at 1 rfl;have f0:=k2.at 0 rfl;have f1:=k2.at 1 rfl;have zk:((k:Int)==(k:Int))=true:=by simp
 have zn:((n:Int)==(n:Int))=true:=by simp
 clear hx hy hn hns hsu hsv k1 k2 hk hl;go_enter Tryz.func25,Tryz.ntmps25;go_wp2_with fail;rw [←hw2];clear hw2;go_wp2_with fail;go_loopw [5,23] (fun _ iv wr=>∃i:Nat,i≤n∧iv=.int .i64 i∧Below w2.heap.size w2 wr) (fun _ iv _=>n-(intOf iv).toNat)
 case atStart=>exact ⟨0,Nat.zero_le _,rfl,Below.refl _ _⟩
 case round=>
  obtain ⟨i,hi,rfl,hE⟩:=hrel;by_cases hin:i<n
  ·have zi:decide ((i:Int)<(n:Int))=true:=decide_eq_true (by omega);have R8:i<(bH (nz s.2)).length:=by have:=HN.out;omega
   have WG:i<s.2.length:=by have:=HNS.out;omega
   obtain ⟨b,off,rfl,_,c0⟩:=HX.out i R8;obtain ⟨b',off',rfl,_,c1⟩:=HY.out i R8;rw [show (bH (nz s.2))[i]=.int .i64 ((s.2[i]:Nat):Int) by simp [bH,nz]] at c0 c1;obtain ⟨mi,G9⟩:=af (s.2[i]);rw [←G9] at c0 c1;clear G9 R8 WG;have c0:=aA hE (aA hb c0);have c1:=aA hE (aA hb c1);have e1:=aA hE e1;have f1:=aA hE f1;have zm:((mi:Int)==(mi:Int))=true:=by simp
   go_wp2_with fail;go_quiet (fail);go_wp2_with fail;go_roundw
   case rel=>exact ⟨i+1,by omega,by simp,hE.trans ⟨rfl,rfl,rfl,Nat.le_refl _,fun _ _=>rfl⟩⟩
   case measure=>simp [intOf];omega
  ·have zi:decide ((i:Int)<(n:Int))=false:=decide_eq_false (by omega);go_wp2_with fail;go_ret;exact ⟨rfl,hb.trans (hE.mono hb.size)⟩
theorem ab4 {T:List aF} {X l:List Nat} (hV:bE T X) (hl:Ky T l) {s:vP} (hs:sM (dU (aB T) l) s) (ho:aac (dU (aB T) l) s=false) :
 dD (P9 (aB T) (aK T) (Ko T) (dU (aB T) l) s)≠[]:=by
 obtain ⟨a,ha,h1,h2⟩:=ab1 (aa9 _ rfl hl.ord) hs ho;have hf:=hl.leaf a ha;have hm:a∈P9 (aB T) (aK T) (Ko T) (dU (aB T) l) s:=by
  unfold P9;rw [List.mem_flatMap];refine ⟨a,h1,List.mem_filter.2 ⟨?_,?_⟩⟩
  ·unfold Ko;rw [AJ];unfold Wn;have hp:qL T a=true:=by
    have hm:mapOf T a=[]:=by
     have h3:=(l7 hV a).1;rw [hf] at h3;exact h3 a (by simp)
    unfold qL;unfold mapOf at hm;by_cases h4:hk a<4
    ·rw [if_pos h4] at hm;rw [decide_eq_true hm,decide_eq_true h4];rfl
    ·rw [if_neg h4] at hm;have:=tu.1 hm;omega
   rw [if_pos hp];simp
  ·unfold yQ;rw [hf,List.foldlM_cons];cases e:lW (aB T) (dU (aB T) l) s a with
   | none=>rw [e] at h2;cases h2
   | some s1=>rfl
 intro e;have h3:=(AJ (l:=P9 (aB T) (aK T) (Ko T) (dU (aB T) l) s)).2 hm;rw [e] at h3;cases h3
theorem abv {T:List aF} {l:List Nat} {s:vP} {c:Nat} (h:c∈dD (P9 (aB T) (aK T) (Ko T) (dU (aB T) l) s)):∃s1,yQ (aB T) (aK T) (dU (aB T) l) s c=some s1:=by
 rw [AJ] at h;obtain ⟨x,_,hc⟩:=List.mem_flatMap.1 h;exact Option.isSome_iff_exists.1 (List.mem_filter.1 hc).2
theorem abL {T:List aF} (hT:T.length<1000) {K:Nat→Nat} {l:List Nat} (hl:l.length<400) {s:vP} (ho:sM (dU K l) s) (F:Nat→List Nat):(dD (P9 K F (Ko T) (dU K l) s)).length≤802000:=by
 rw [fD];have h1:=Jn (dU K l) s;have h2:=((kM K l).2.2 _ (show aY (dU K l) s.1∈dU K l by rw [gV ho.lt];exact List.getElem_mem _)).1;refine Nat.le_trans (uM (fun x=>Nat.le_trans (List.length_filter_le _ _) (TL hT x)) _) ?_;omega
structure adM (sm:Prop) (w:World) (p dp:Nat) (R:List fJ) (F:Nat→List Nat) (tk:vP→Nat→Option vP) (O:vP→List Nat):Prop where
 start:∀(W:World),Below w.heap.size w W→Calls Tryz.prog 20 #[.pointer (some ⟨p,0,none⟩)] W fun e w'=>∃v,e=.returned v∧G_ w' v (s0 R)∧Below W.heap.size W w'
 sok:sM R (s0 R)
 over:∀(W:World),Below w.heap.size w W→∀(u:Value) (s:vP),G_ W u s→sM R s→
  Calls Tryz.prog 21 #[.pointer (some ⟨p,0,none⟩),u] W fun e w'=>e=.returned (.bool (aac R s))∧Below W.heap.size W w'
 step:∀(W:World),Below w.heap.size w W→∀(u:Value) (s:vP),G_ W u s→sM R s→∀c,aX c→
  Calls Tryz.prog 23 #[.pointer (some ⟨p,0,none⟩),u,.int .i32 c] W fun e w'=>BC e w' ((F c).foldlM tk s)∧Below W.heap.size W w'
 full:∀(W:World),Below w.heap.size w W→∀c,aX c→
  Calls Tryz.prog 24 #[.pointer (some ⟨dp,0,none⟩),.int .i32 c] W fun e w'=>∃r,e=.returned r∧w'.ownsRow W.heap.size aM 1 r (F c).length (aN (F c))∧Below W.heap.size W w'
 opts:sm→∀(W:World),Below w.heap.size w W→∀(u:Value) (s:vP),G_ W u s→sM R s→
  Calls Tryz.prog 22 #[.pointer (some ⟨p,0,none⟩),u] W fun e w'=>∃r,e=.returned r∧w'.ownsRow W.heap.size aM 1 r (O s).length (aN (O s))∧Below W.heap.size W w'
 ok:∀{s s':vP} {y:Nat},sM R s→tk s y=some s'→sM R s'
 leaf:∀{c y:Nat},y∈F c→F y=[y]
 chr:∀{c y:Nat},aX c→y∈F c→aX y
 adN:∀c,(F c).length≤32
 few:∀{s:vP},sM R s→s.2.length<10000
 one:∀{s:vP},sM R s→aac R s=false→O s≠[]
 och:∀{s:vP} {c:Nat},c∈O s→aX c
 ole:sm→∀{s:vP},sM R s→(O s).length≤802000
 ost:∀{s:vP} {c:Nat},c∈O s→∃s1,(F c).foldlM tk s=some s1
theorem abn {w:World} {B p dp:Nat} {T:List aF} {X l:List Nat} (hD:dZ w dp T X) (hV:bE T X) (XH:T.length<1000) (hM:jk w B p dp (aB T) l) (hl:Ky T l) (hc:∀c∈l,aX c) (hlen:l.length<500) :
 adM (l.length<400) w p dp (dU (aB T) l) (aK T) (lW (aB T) (dU (aB T) l)) (fun s=>dD (P9 (aB T) (aK T) (Ko T) (dU (aB T) l) s)) where
 start W E:=by
  have hne:=(aa9 l.length rfl hl.ord).ne;have h0:0<(dU (aB T) l).length:=List.length_pos_iff.2 hne;refine (Jz (hM.mono E) (by omega) h0).mono ?_;rintro e w' ⟨v,rfl,hs,hb⟩;refine ⟨v,rfl,?_,hb⟩;have e1:(dU (aB T) l)[0].2.length=(aY (dU (aB T) l) 0).2.length:=by rw [gV h0]
  rw [e1] at hs;show Kk w' v (0:Nat) (nz (List.replicate _ 0));rw [show nz (List.replicate (aY (dU (aB T) l) 0).2.length 0)=List.replicate (aY (dU (aB T) l) 0).2.length 0 by simp [nz]];exact hs
 sok:=acd (aa9 l.length rfl hl.ord).ne
 over W E u s hu ho:=abq (hM.mono E) (by omega) hu ho
 step W E u s hu ho c h:=Mw (hD.mono E) hV XH (hM.mono E) (by omega) hu ho c h
 full W E c h:=I8 (hD.mono E) hV XH c h.1
 opts hsm W E u s hu ho:=Dp (hD.mono E) hV XH (hM.mono E) hsm hc hu ho
 ok h e:=P8 h e
 leaf h:=K6 hV h
 chr h k:=rT hV h k
 adN c:=iR hV c
 few {s} h:=by
  have h2:=((kM (aB T) l).2.2 _ (show aY (dU (aB T) l) s.1∈dU (aB T) l by rw [gV h.lt];exact List.getElem_mem _)).1;have:=h.len;omega
 one h e:=ab4 hV hl h e
 och {s c} h:=by
  rw [AJ] at h;obtain ⟨x,hx,h⟩:=List.mem_flatMap.1 h;exact TM hV (Jw (TI (aB T) hc) s x hx) c (List.mem_filter.1 h).1
 ole hsm _ h:=abL XH hsm h (aK T)
 ost h:=abv h
theorem JB {w:World} {v:Value} (l:List Nat) (h:bD w v (ints l)) (hl:l.length<1000000) (hc:∀c∈l,c<2147483648) :
 Calls Tryz.prog 14 #[v] w fun e w'=>∃r,e=.returned r∧w'.ownsRow w.heap.size aM 1 r l.length (aN l)∧Below w.heap.size w w':=by
 obtain ⟨n,hn⟩:=af l.length;obtain ⟨a,cap,rfl,_,hx⟩:=bD.kS h hn;have HX:=ae hx;have HN:=ae hn;have HC:=ae hc;rw [←hn] at hl;clear hx h hn hc;go_enter Tryz.func14,Tryz.ntmps14;go_wp2_with fail;go_loopw [3,5,8] (fun rv _ iv wr=>∃j:Nat,j≤n∧iv=.int .i64 j∧wr.ownsRow w.heap.size aM 1 rv j (aN (l.take j))∧Below w.heap.size w wr) (fun _ _ iv _=>n-(intOf iv).toNat)
 case atStart=>exact ⟨0,Nat.zero_le _,rfl,World.ownsRow_nil _ _ _ _,Below.refl _ _⟩
 case round=>
  obtain ⟨j,hj,rfl,ho,hE⟩:=hrel;by_cases hjn:j<n
  ·have zj:decide ((j:Int)<(n:Int))=true:=by simp;omega
   have hjl:j<l.length:=by have:=HN.out;omega
   obtain ⟨b,off,rfl,_,c0⟩:=HX.out j hjl;have c0:=aA hE c0;have hcc:=HC.out _ (List.getElem_mem hjl);have HT:=ae (show aN (l.take (j+1))=aN (l.take j)++[.int .i32 (l[j]:Nat)] by rw [List.take_succ_eq_append_getElem hjl];unfold aN;rw [List.map_append];rfl);generalize l[j]=c at *;have z1:IntKind.i32.wrap (c:Int)=c:=by rw [IntKind.wrap_i32];omega
   have HO:=ae ho;have hs:=hE.size;clear ho
   go_wp2_with (
    refine pg rfl _ _ 39 rfl w.heap.size aM _ 4 bS u3 j _ rfl HO.out (.int .i32 (c:Nat)) rfl rfl (by omega) (by unfold maxLen;omega) wr (Below.refl _ _) hs ?_;intro v1 w9 o9 sV _ _;have N_:=ae (show w9.ownsRow w.heap.size aM 1 v1 (j+1) (aN (l.take (j+1))) from by rw [HT.out];exact o9)
    clear o9)
   go_roundw
   case rel=>exact ⟨j+1,by omega,by simp,N_.out,hE.trans sV⟩
   case measure=>simp [intOf];omega
  ·have zj:decide ((j:Int)<(n:Int))=false:=by simp;omega
   obtain rfl:j=n:=by omega
   rw [List.take_of_length_le (by have:=HN.out;omega)] at ho;go_wp2;go_ret;exact ⟨_,rfl,by rw [←HN.out];exact ho,hE⟩
structure fM where
 code:Int
 cls:Int
 map:List Int
def GG (w:World) (v:Value) (T:List fM):Prop:=
 ∃a cap,v=.slice a T.length cap∧T.length≤cap∧∀i (hi:i<T.length),∃b off m,a=some ⟨b,off,none⟩∧b<w.heap.size∧
  w.cell? ⟨b,off+i*3,none⟩=some (.int .i64 T[i].code)∧w.cell? ⟨b,off+i*3+1,none⟩=some (.int .i64 T[i].cls)∧w.cell? ⟨b,off+i*3+2,none⟩=some m∧bD w m (bH T[i].map)
theorem GG.mono {w w':World} {v:Value} {T:List fM} (h:GG w v T) (hb:Below w.heap.size w w'):GG w' v T:=by
 obtain ⟨a,cap,hv,hc,h⟩:=h;refine ⟨a,cap,hv,hc,fun i hi=>?_⟩;obtain ⟨b,off,m,ha,hbs,h1,h2,h3,h4⟩:=h i hi;exact ⟨b,off,m,ha,Nat.lt_of_lt_of_le hbs hb.size,aA hb h1,aA hb h2,aA hb h3,h4.mono hb⟩
def JC (w:World) (v:Value) (T:List fM) (X:List Int):Prop:=∃r x,v=.agg #[r,x]∧GG w r T∧bD w x (bH X)
theorem JC.mono {w w':World} {v:Value} {T:List fM} {X:List Int} (h:JC w v T X) (hb:Below w.heap.size w w'):JC w' v T X:=by
 obtain ⟨r,x,hv,h1,h2⟩:=h;exact ⟨r,x,hv,h1.mono hb,h2.mono hb⟩
theorem bD.GH {w:World} {v:Value} {l:List Int} {n:Nat} (h:bD w v (bH l)) (hn:n=l.length):∃a cap,v=.slice a n cap∧n≤cap∧
 ∀i (hi:i<l.length),∃b off,a=some ⟨b,off,none⟩∧b<w.heap.size∧w.cell? ⟨b,off+i,none⟩=some (.int .i64 l[i]):=by
 subst hn;obtain ⟨a,cap,rfl,hc,hx⟩:=Go.Cd.bD.out h;have el:(bH l).length=l.length:=ed _;refine ⟨a,cap,by rw [el],by omega,fun i hi=>?_⟩;obtain ⟨b,off,h1,h2,h3⟩:=hx i (by omega);exact ⟨b,off,h1,h2,by rw [h3];simp [bH]⟩
abbrev d_:TypeId:=68
theorem mF:lF Tryz.prog 22 d_ (.agg #[.int .i64 0,.int .i64 0,.slice none 0 0]) 3 40:=⟨rfl,Tryz.underlying22,info_parts (by kernel_rfl)⟩
def j4 (p:fM×Value):List Value:=[.int .i64 p.1.code,.int .i64 p.1.cls,p.2]
def eF (p:aF×Value):List Value:=[.int .i64 p.1.code,.int .i64 p.1.cls,p.2]
structure ku (B:Nat) (w:World) (r:Value) (L:List (fM×Value)):Prop where
 rows:w.ownsRow B d_ 3 r L.length (L.flatMap j4)
 maps:∀p∈L,w.ownsRow B aU 1 p.2 p.1.map.length (bH p.1.map)
 apart:L.Pairwise fun p q=>uS p.2 q.2
 kY:∀p∈L,uS r p.2
 four:∀p∈L,p.1.map.length≤4
theorem ku.nil (B:Nat) (w:World):ku B w (.slice none 0 0) []:=⟨World.ownsRow_nil _ _ _ _,by simp,by simp,by simp,by simp⟩
theorem ku.kept {B:Nat} {w w':World} {r:Value} {L:List (fM×Value)} {row:Option Nat} (h:ku B w r L) (hg:w.grownBy w' row) (hr:∀k,row=some k→k<B):ku B w' r L:=by
 have H:∀{e:TypeId} {size:Nat} {v:Value} {n:Nat} {xs:List Value},w.ownsRow B e size v n xs→w'.ownsRow B e size v n xs:=by
  intro e size v n xs ho;refine ho.kept hg ?_;cases hk:v.ownBlock with
  | none=>exact .inl rfl
  | some k=>exact .inr fun e1=>by have:=(ho.lt k hk).1;have:=hr k e1.symm;omega
 exact ⟨H h.rows,fun p hp=>H (h.maps p hp),h.apart,h.kY,h.four⟩
theorem ku.ext {B:Nat} {w w':World} {r:Value} {L:List (fM×Value)} (h:ku B w r L) (hb:Below w.heap.size w w'):ku B w' r L:=
 ⟨aG h.rows hb,fun p hp=>aG (h.maps p hp) hb,h.apart,h.kY,h.four⟩
theorem ku.push {B:Nat} {w w':World} {r r' m:Value} {L:List (fM×Value)} {p:fM} (h:ku B w r L) (hm:w.ownsRow B aU 1 m p.map.length (bH p.map)) (DY:p.map.length≤4)
 (hnew:∀q∈L,uS q.2 m) (hrm:uS r m) (ho:w'.ownsRow B d_ 3 r' (L.length+1) (L.flatMap j4++j4 (p,m))) (hg:w.grownBy w' r.ownBlock) (hN:jo w r r'):ku B w' r' (L++[(p,m)]):=by
 refine ⟨by simpa using ho,?_,?_,?_,?_⟩
 ·intro q hq;rcases List.mem_append.1 hq with hq|hq
  ·exact (h.kY q hq).symm.stays (h.maps q hq) hg
  ·rw [List.mem_singleton.1 hq];exact hrm.symm.stays hm hg
 ·rw [List.pairwise_append];refine ⟨h.apart,by simp,fun q hq q' hq'=>?_⟩;rw [List.mem_singleton.1 hq'];exact hnew q hq
 ·intro q hq;rcases List.mem_append.1 hq with hq|hq
  ·exact ((h.kY q hq).symm.push (fun k hk=>((h.maps q hq).lt k hk).2) hN).symm
  ·rw [List.mem_singleton.1 hq];exact (hrm.symm.push (fun k hk=>(hm.lt k hk).2) hN).symm
 ·intro q hq;rcases List.mem_append.1 hq with hq|hq
  ·exact h.four q hq
  ·rw [List.mem_singleton.1 hq];exact DY
theorem kQ {w:World} {B B' n n' s s':Nat} {e e':TypeId} {u v:Value} {xs ys:List Value} {w':World} (hu:w.ownsRow B e s u n xs) (hv:w'.ownsRow B' e' s' v n' ys) (h:w.heap.size≤B'):uS u v:=by
 intro k hk hk';have:=(hu.lt k hk).2;have:=(hv.lt k hk').1;omega
theorem ku.past {B:Nat} {w4 w w':World} {r:Value} {L:List (fM×Value)} {row:Option Nat} (h4:ku B w4 r L) (h:ku B w r L) (hg:w.grownBy w' row) (hr:∀k,row=some k→w4.heap.size≤k):ku B w' r L:=by
 have H:∀{e:TypeId} {size:Nat} {v:Value} {n:Nat} {xs:List Value},w4.ownsRow B e size v n xs→w.ownsRow B e size v n xs→w'.ownsRow B e size v n xs:=by
  intro e size v n xs ho4 ho;refine ho.kept hg ?_;cases hk:v.ownBlock with
  | none=>exact .inl rfl
  | some k=>exact .inr fun e1=>by have:=(ho4.lt k hk).2;have:=hr k e1.symm;omega
 exact ⟨H h4.rows h.rows,fun p hp=>H (h4.maps p hp) (h.maps p hp),h.apart,h.kY,h.four⟩
abbrev gX:TypeId:=25
theorem Wq {w:World} {v:Value} {T:List fM} {X:List Int} (h:JC w v T X) :
 Calls Tryz.prog 102 #[v] w fun e w'=>∃r x L Y,e=.returned (.agg #[r,x])∧ku w.heap.size w' r L∧w'.ownsRow w.heap.size aU 1 x Y.length (ints Y)∧(∀p∈L,uS x p.2)∧L.length≤20∧Y.length≤30∧(∀y∈Y,aX y)∧Below w.heap.size w w':=by
 obtain ⟨r,x,rfl,⟨a,cap,rfl,_,hx⟩,h2⟩:=h;obtain ⟨nx,hnx⟩:∃n,n=X.length:=⟨_,rfl⟩;obtain ⟨ax,cx,rfl,_,hy⟩:=bD.GH h2 hnx;obtain ⟨n,hn⟩:=af T.length;rw [←hn];have HX:=ae hx;have HY:=ae hy;have HN:=ae hn;have XF:=ae hnx;obtain ⟨W1,hW1⟩:=af (w.alloc (.cells #[.slice a n cap,.slice ax nx cx] gX));obtain ⟨W2,hW2⟩:=af (W1.alloc (.cells #[.slice none 0 0,.slice none 0 0] gX));obtain ⟨W0,hW⟩:=af (W2.alloc (.cells #[.slice none 0 0,.slice none 0 0] gX));have e1:W1.heap.size=w.heap.size+1:=by rw [hW1];simp
 have e2:W2.heap.size=w.heap.size+2:=by rw [hW2];simp [e1]
 have e3:W0.heap.size=w.heap.size+3:=by rw [hW];simp [e2]
 have b1:Below w.heap.size w W1:=by rw [hW1];exact ai _
 have b2:Below W1.heap.size W1 W2:=by rw [hW2];exact ai _
 have b3:Below W2.heap.size W2 W0:=by rw [hW];exact ai _
 have i1:Is W0 w.heap.size #[.slice a n cap,.slice ax nx cx] gX:=by
  have:Is W1 w.heap.size #[.slice a n cap,.slice ax nx cx] gX:=by rw [hW1];exact Is.new _ _ _
  exact (this.mono b2).mono b3
 have i2:Is W0 (w.heap.size+1) #[.slice none 0 0,.slice none 0 0] gX:=by
  have:Is W2 (w.heap.size+1) #[.slice none 0 0,.slice none 0 0] gX:=by rw [hW2];exact Is.new' _ _ _ _ e1.symm
  exact this.mono b3
 have i3:Is W0 (w.heap.size+2) #[.slice none 0 0,.slice none 0 0] gX:=by rw [hW];exact Is.new' _ _ _ _ e2.symm
 have b0:=ag (ag b1 b2) b3;rw [hW2,hW1] at hW;clear hx hy hn hnx h2 b1 b2 b3 e1 e2 hW1 hW2;go_enter Tryz.func102,Tryz.ntmps102;go_wp2_with fail;rw [←hW];clear hW;go_loopw [4] (fun iv wr=>∃(j:Nat) (L:List (fM×Value)) (rv:Value),j≤20∧iv=.int .i64 j∧L.length≤j∧ku (w.heap.size+3) wr rv L∧Is wr w.heap.size #[.slice a n cap,.slice ax nx cx] gX∧Is wr (w.heap.size+1) #[.slice none 0 0,.slice none 0 0] gX∧Is wr (w.heap.size+2) #[rv,.slice none 0 0] gX∧w.heap.size+3≤wr.heap.size∧Below w.heap.size w wr) (fun iv _=>20-(intOf iv).toNat)
 case atStart=>exact ⟨0,[],_,by decide,rfl,by decide,ku.nil _ _,i1,i2,i3,by omega,b0⟩
 case round=>
  clear i1 i2 i3 e3 b0;obtain ⟨j,L,rv,hj,rfl,Vb,hF,k1,k2,k3,hsz,hB⟩:=hrel;have d0:=k1.at 0 rfl;have d1:=k1.at 1 rfl;by_cases hjn:j<n
  ·by_cases hj2:j<20
   ·have hjl:j<T.length:=by have:=HN.out;omega
    have zj:decide ((j:Int)<20)=true:=by simp;omega
    obtain ⟨b,off,m,rfl,hbs,c0,c1,c2,hm⟩:=HX.out j hjl;have c0:=aA hB c0;have c1:=aA hB c1;have c2:=aA hB c2;have hm:=hm.mono hB;generalize T[j]=q at *;obtain ⟨nm,hnm⟩:=af q.map.length;obtain ⟨am,cm,rfl,_,hxm⟩:=bD.GH hm hnm;have MC:=ae hxm;have qh:=ae hnm;have HF:=ae hF;have HY2:=HY;clear hm hxm hnm hF;have g0:=Gr.cell (ah wr) d0;have g1:=Gr.cell (ah wr) c0;have g2:=Gr.cell (ah wr) c1;go_wp2_with fail;refine aD #[true,true,true,true,true,true,true,true,true,true,true,true,true,true,true,true,false] 16 1 mixed (by rfl) ?_;refine ay [0,1,2,3,4,5,6,7,8,9,10,11,12,13,14] 1 rfl (by kernel_rfl) ?_;refine aZ ?_
    iterate 15 (refine aO rfl ?_)
    refine a_ ?_
    iterate 15 (go_big_quiet_step (rfl))
    refine ak ?_;refine aL 15 (by kernel_rfl) rfl ?_;go_wp2_with fail;refine aH (ai _) ?_;refine aI [16] (by kernel_rfl) ?_;refine tail_cons rfl ?_;go_wp2_with fail;refine tail_nil ?_;generalize wrap64 (wrap32 q.code)=C at *;obtain ⟨wo,jf⟩:∃w',w'=wr:=⟨_,rfl⟩;subst jf;obtain ⟨w5,vY⟩:=af ((wo.alloc (.cells #[.int .i64 C,.int .i64 q.cls,.slice none 0 0] d_)).drew);have kV:Below wo.heap.size wo w5:=by rw [vY];exact ag (ai _) (ah _)
    have r5:Is w5 wo.heap.size #[.int .i64 C,.int .i64 q.cls,.slice none 0 0] d_:=by rw [vY];exact (Is.new _ _ _).mono (ah _)
    go_wp2_with fail;rw [←vY];clear vY g0 g1 g2 c0 c1;go_loopw [6] (fun kv w2=>∃(k:Nat) (M:List Int) (mv:Value),k≤4∧kv=.int .i64 k∧M.length≤k∧w2.ownsRow wo.heap.size aU 1 mv M.length (bH M)∧Is w2 wo.heap.size #[.int .i64 C,.int .i64 q.cls,mv] d_∧Below wo.heap.size wo w2) (fun kv _=>4-(intOf kv).toNat)
    case atStart=>exact ⟨0,[],_,by decide,rfl,by decide,World.ownsRow_nil _ _ _ _,r5,kV⟩
    case round=>
     clear r5 kV;obtain ⟨k,M,mv,hk,rfl,hMk,hM,r2,hE⟩:=hrel;have c2:=aA hE c2;have e0:=aA hE d0;by_cases hkn:k<nm
     ·by_cases hk4:k<4
      ·have zk:decide ((k:Int)<4)=true:=by simp;omega
       have hkl:k<q.map.length:=by have:=qh.out;omega
       obtain ⟨bm,fm,rfl,_,hz⟩:=MC.out k hkl;have hz:=aA hE hz;generalize q.map[k]=y at *;have g0:=Gr.cell (ah wr) e0;have g1:=Gr.cell (ah wr) c2;have g2:=Gr.cell (ah wr) hz;have g3:=Gr.cell (ah wr) (r2.at 2 rfl);have hM2:=ae (aG hM (ah wr));have hE2:=ae (ag hE (ah wr));have R2:=ae (r2.mono (ah wr));obtain ⟨av,cv,rfl,_,_⟩:=az hM;go_wp2_with fail;refine aD #[true,true,true,true,true,true,true,true,true,true,true,true,true,true,false,false,false] 14 3 mixed (by rfl) ?_;refine ay [0,1,2,3,4,5,6,7,8,9,10,11,12] 1 rfl (by kernel_rfl) ?_;refine aZ ?_
       iterate 13 (refine aO rfl ?_)
       refine a_ ?_
       iterate 13 (go_big_quiet_step (rfl))
       refine ak ?_;refine aL 13 (by kernel_rfl) rfl ?_;go_wp2_with fail;refine aH (ai _) ?_;refine aI [14,15,16] (by kernel_rfl) ?_;refine tail_cons rfl ?_;refine pg (W:=wr.drew) rfl _ _ 23 rfl wo.heap.size aU _ 8 gL (.slice av M.length cv) M.length (bH M) rfl hM2.out _ rfl rfl (by omega) (by unfold maxLen;omega) wo hE2.out (Nat.le_refl _) ?_;intro v1 w3 o1 hb1 hal hg1;have R3:=((R2.out.mono (ai _)).grown hg1 (Is.other (R2.out.mono (ai _)) hal (by decide)));obtain ⟨a1,wI,rfl,_,_⟩:=az o1;have c3:=R3.at 2 rfl;have f3:=R3.frozen 2;refine tail_cons rfl ?_;go_wp2_with fail;refine tail_nil ?_;go_wp2;go_roundw
       case rel=>exact ⟨k+1,M++[wrap64 (wrap32 y)],_,by omega,rfl,by simp;omega,by
        have:=bf o1 (Is.other R3 o1 (by decide)) 2 (.slice a1 (M.length+1) wI)
        simpa [bH] using this,R3.set 2 _,aj hb1 (Nat.le_refl _)⟩
       case measure=>simp [intOf];omega
      ·have zk:decide ((k:Int)<4)=false:=by simp;omega
       have o3:=k3.mono hE;have c30:=o3.at 0 rfl;have f30:=o3.frozen 0;have c50:=r2.at 0 rfl;have c51:=r2.at 1 rfl;have c52:=r2.at 2 rfl;have TT:=HF.out.ext hE;obtain ⟨nW,nX,rfl,_,_⟩:=az TT.rows;obtain ⟨Z9,Z_,rfl,_,_⟩:=az hM
       have HP:=ae (fun (w3:World) (v1:Value) (ho:w3.ownsRow (w.heap.size+3) d_ 3 v1 (L.length+1) (L.flatMap j4++j4 (⟨C,q.cls,M⟩,.slice Z9 M.length Z_))) (hg:wr.grownBy w3 (Value.slice nW L.length nX).ownBlock) (hN:jo wr (.slice nW L.length nX) v1)=>
        ku.push (p:=⟨C,q.cls,M⟩) TT (aW hM (by omega)) (by show M.length≤4;omega) (fun p hp=>kQ (HF.out.maps p hp) hM (Nat.le_refl _)) (kQ HF.out.rows hM (Nat.le_refl _)) ho hg hN)
       have HR:=ae TT.rows;have hlen:=Vb;clear TT MC qh;go_wp2_with (at_builtin;go_loud (refine mY (W:=wr) rfl _ _ 22 rfl (w.heap.size+3) d_ _ 3 40 mF (by decide) (by decide) (by decide) (by decide) (.slice nW L.length nX) L.length (L.flatMap j4) rfl HR.out _ rfl rfl (by simp [Value.oneCell']) (by omega) wr (Below.refl _ _) (by have:=hE.size;omega) ?_);intro v1 w3 o1 hb1 hg1 hN1;have R3:=o3.low hb1 (by omega);have c31:=R3.at 0 rfl;have f31:=R3.frozen 0;obtain ⟨a1,wI,rfl,_,_⟩:=az o1);go_roundw
       case rel=>
        have M4:Below w.heap.size w w3:=(hB.trans (hE.mono hB.size)).trans (hb1.mono (by omega))
        exact ⟨j+1,L++[(⟨C,q.cls,M⟩,.slice Z9 M.length Z_)],_,by omega,rfl,by simp;omega,(HP.out w3 _ o1 hg1 hN1).kept (bN _ (w.heap.size+2) 0 _) (fun k hk=>by cases hk;omega),
         ((k1.mono hE).low hb1 (by omega)).put (by omega) _,((k2.mono hE).low hb1 (by omega)).put (by omega) _,R3.set 0 _,by have:=hE.size;have:=hb1.size;simp;omega,aj M4 (by omega)⟩
       case measure=>simp [intOf];omega
     ·have o3:=k3.mono hE;have c30:=o3.at 0 rfl;have f30:=o3.frozen 0;have c50:=r2.at 0 rfl;have c51:=r2.at 1 rfl;have c52:=r2.at 2 rfl;have TT:=HF.out.ext hE;obtain ⟨nW,nX,rfl,_,_⟩:=az TT.rows;obtain ⟨Z9,Z_,rfl,_,_⟩:=az hM
      have HP:=ae (fun (w3:World) (v1:Value) (ho:w3.ownsRow (w.heap.size+3) d_ 3 v1 (L.length+1) (L.flatMap j4++j4 (⟨C,q.cls,M⟩,.slice Z9 M.length Z_))) (hg:wr.grownBy w3 (Value.slice nW L.length nX).ownBlock) (hN:jo wr (.slice nW L.length nX) v1)=>
       ku.push (p:=⟨C,q.cls,M⟩) TT (aW hM (by omega)) (by show M.length≤4;omega) (fun p hp=>kQ (HF.out.maps p hp) hM (Nat.le_refl _)) (kQ HF.out.rows hM (Nat.le_refl _)) ho hg hN)
      have HR:=ae TT.rows;have hlen:=Vb;clear TT MC qh;go_wp2_with (at_builtin;go_loud (refine mY (W:=wr) rfl _ _ 22 rfl (w.heap.size+3) d_ _ 3 40 mF (by decide) (by decide) (by decide) (by decide) (.slice nW L.length nX) L.length (L.flatMap j4) rfl HR.out _ rfl rfl (by simp [Value.oneCell']) (by omega) wr (Below.refl _ _) (by have:=hE.size;omega) ?_);intro v1 w3 o1 hb1 hg1 hN1;have R3:=o3.low hb1 (by omega);have c31:=R3.at 0 rfl;have f31:=R3.frozen 0;obtain ⟨a1,wI,rfl,_,_⟩:=az o1);go_roundw
      case rel=>
       have M4:Below w.heap.size w w3:=(hB.trans (hE.mono hB.size)).trans (hb1.mono (by omega))
       exact ⟨j+1,L++[(⟨C,q.cls,M⟩,.slice Z9 M.length Z_)],_,by omega,rfl,by simp;omega,(HP.out w3 _ o1 hg1 hN1).kept (bN _ (w.heap.size+2) 0 _) (fun k hk=>by cases hk;omega),
        ((k1.mono hE).low hb1 (by omega)).put (by omega) _,((k2.mono hE).low hb1 (by omega)).put (by omega) _,R3.set 0 _,by have:=hE.size;have:=hb1.size;simp;omega,aj M4 (by omega)⟩
      case measure=>simp [intOf];omega
   ·have zj:decide ((j:Int)<20)=false:=by simp;omega
    obtain ⟨w4,jf⟩:∃w',w'=wr:=⟨_,rfl⟩;subst jf;have HF:=ae hF;clear hF;go_wp2_with fail;go_loopw [7] (fun kv w2=>∃(m:Nat) (Y:List Nat) (yv:Value),m≤30∧kv=.int .i64 m∧Y.length≤m∧(∀y∈Y,aX y)∧w2.ownsRow w4.heap.size aU 1 yv Y.length (ints Y)∧ku (w.heap.size+3) w2 rv L∧Is w2 w.heap.size #[.slice a n cap,.slice ax nx cx] gX∧Is w2 (w.heap.size+1) #[.slice none 0 0,.slice none 0 0] gX∧Is w2 (w.heap.size+2) #[rv,yv] gX∧w4.heap.size≤w2.heap.size∧Below w.heap.size w w2) (fun kv _=>30-(intOf kv).toNat)
    case atStart=>exact ⟨0,[],_,by decide,rfl,by decide,by simp,World.ownsRow_nil _ _ _ _,HF.out,k1,k2,k3,Nat.le_refl _,hB⟩
    case round=>
     clear k1 k2 k3 hB d0 d1;obtain ⟨m,Y,yv,hm,rfl,hYm,Cm,hY,hF2,k1,k2,k3,hs4,hB⟩:=hrel;have d1:=k1.at 1 rfl;by_cases G6:m<nx
     ·by_cases Ut:m<30
      ·have zm:decide ((m:Int)<30)=true:=by simp;omega
       have ko:m<X.length:=by have:=XF.out;omega
       obtain ⟨bx,fx,rfl,_,hz⟩:=HY.out m ko;have hz:=aA hB hz;generalize X[m]=x at *;have CH:=ae (fun W=>iL (w:=W) x);have hch:=(ou (x:=(x % 2097152).toNat));have hc9:=hch.1;have Rt:=ae hch;generalize jG (x % 2097152).toNat=ch at *;have g1:=Gr.cell (ah wr) d1;have g2:=Gr.cell (ah wr) hz;have g3:=Gr.cell (ah wr) (k3.at 1 rfl);obtain ⟨sP,sQ,rfl,_,_⟩:=az hY;have Uz:=ae hF2;have G8:=ae Cm;clear hF2 Cm hch;go_wp2_with fail;refine aD #[true,true,true,true,true,true,true,true,true,true,false,false,false] 10 3 mixed (by rfl) ?_;refine ay [0,1,2,3,4,5,6] 3 rfl (by kernel_rfl) ?_;refine aZ ?_
       iterate 7 (refine aO rfl ?_)
       refine a_ ?_
       iterate 7 (go_big_quiet_step (rfl))
       refine ak ?_;refine aL 7 (by kernel_rfl) rfl ?_;go_wp2_with fail;refine (CH.out _).mono ?_;rintro e Zl ⟨rfl,rfl⟩;go_wp2_with fail;refine aH (Below.refl _ _) ?_;refine ay [8] 1 rfl (by kernel_rfl) ?_
       iterate 1 (refine aC rfl ?_;go_big_quiet_step (rfl))
       refine ak ?_;refine aL 9 (by kernel_rfl) rfl ?_;go_wp2_with fail;refine aH (ai _) ?_;refine aI [10,11,12] (by kernel_rfl) ?_;refine tail_cons rfl ?_;refine pg (W:=wr.drew) rfl _ _ 23 rfl w4.heap.size aU _ 8 gL (.slice sP Y.length sQ) Y.length (ints Y) rfl (aG hY (ah wr)) _ rfl rfl (by omega) (by unfold maxLen;omega) wr.drew (Below.refl _ _) hs4 ?_;intro v1 w3 o1 hb1 hal hg1;have hex:Below wr.heap.size wr (wr.drew.alloc (.cells #[.int .i64 (ch:Nat)] aU)):=ag (ah wr) (ai _);have hlow:∀k,(Value.slice sP Y.length sQ).ownBlock=some k→w4.heap.size≤k:=fun k hk=>(hY.lt k hk).1;have hbw:Below w4.heap.size wr w3:=((ah wr).mono hs4).trans hb1;have K1:=k1.low hbw (by omega);have K2:=k2.low hbw (by omega);have K3:=k3.low hbw (by omega);obtain ⟨a1,wI,rfl,_,_⟩:=az o1;have c3:=K3.at 1 rfl;have f3:=K3.frozen 1;refine tail_cons rfl ?_;go_wp2_with fail;refine tail_nil ?_;go_wp2;go_roundw
       case rel=>
        refine ⟨m+1,Y++[ch],_,by omega,rfl,by simp;omega,?_,?_,?_,K1.put (by omega) _,K2.put (by omega) _,K3.set 1 _,by have:=hbw.size;simp;omega,aj (hB.trans (hbw.mono (by omega))) (by omega)⟩
        ·intro y hy;rcases List.mem_append.1 hy with h|h
         ·exact G8.out y h
         ·rw [List.mem_singleton.1 h];exact Rt.out
        ·have:=bf o1 (aP o1 (k:=w.heap.size+2) (by omega)) 1 (.slice a1 (Y.length+1) wI);simpa [ints] using this
        ·exact ((HF.out.past (Uz.out.ext hex) hg1 hlow).kept (bN _ (w.heap.size+2) 1 _) (fun k hk=>by cases hk;omega))
       case measure=>simp [intOf];omega
      ·have zm:decide ((m:Int)<30)=false:=by simp;omega
       have e0:=k3.at 0 rfl;have e1:=k3.at 1 rfl;have s0:=k2.at 0 rfl;have s1:=k2.at 1 rfl;have t0:=k2.frozen 0;have t1:=k2.frozen 1;obtain ⟨sP,sQ,rfl,_,_⟩:=az hY;obtain ⟨nW,nX,rfl,_,_⟩:=az hF2.rows;have u1:=fun u=>(k2.set 0 u).at 1 rfl;have u2:=fun u=>(k2.set 0 u).frozen 1;have K:=(k2.set 0 (.slice nW L.length nX)).set 1 (.slice sP Y.length sQ);have v0:=K.at 0 rfl;have v1:=K.at 1 rfl;have yV:=ae ((hF2.kept (bN _ (w.heap.size+1) 0 (.slice nW L.length nX)) (fun k hk=>by cases hk;omega)).kept (bN _ (w.heap.size+1) 1 (.slice sP Y.length sQ)) (fun k hk=>by cases hk;omega));have Wt:=ae (bf (bf hY (aP hY (k:=w.heap.size+1) (by omega)) 0 (.slice nW L.length nX)) (aP (bf hY (aP hY (k:=w.heap.size+1) (by omega)) 0 (.slice nW L.length nX)) (k:=w.heap.size+1) (by omega)) 1 (.slice sP Y.length sQ));have HA:=ae (fun (p:fM×Value) (hp:p∈L)=>(kQ (HF.out.maps p hp) hY (Nat.le_refl _)).symm);have G8:=ae Cm;have HB:=ae (aj (aj hB (b:=w.heap.size+1) (off:=0) (u:=.slice nW L.length nX) (by omega)) (b:=w.heap.size+1) (off:=1) (u:=.slice sP Y.length sQ) (by omega));clear hY hF2 Cm hB HF;go_wp2
       (try simp only [Exit.inBlock,Exit.then])
       refine bodyPost_ret (v:=.agg #[.slice nW L.length nX,.slice sP Y.length sQ]) (by simp [results,Tryz.results102,go_sem,v0,v1]) rfl ?_;exact ⟨_,_,L,Y,rfl,⟨aW yV.out.rows (by omega),fun p hp=>aW (yV.out.maps p hp) (by omega),yV.out.apart,yV.out.kY,yV.out.four⟩,aW Wt.out (by omega),HA.out,by omega,by omega,G8.out,HB.out⟩
     ·have e0:=k3.at 0 rfl;have e1:=k3.at 1 rfl;have s0:=k2.at 0 rfl;have s1:=k2.at 1 rfl;have t0:=k2.frozen 0;have t1:=k2.frozen 1;obtain ⟨sP,sQ,rfl,_,_⟩:=az hY;obtain ⟨nW,nX,rfl,_,_⟩:=az hF2.rows;have u1:=fun u=>(k2.set 0 u).at 1 rfl;have u2:=fun u=>(k2.set 0 u).frozen 1;have K:=(k2.set 0 (.slice nW L.length nX)).set 1 (.slice sP Y.length sQ);have v0:=K.at 0 rfl;have v1:=K.at 1 rfl;have yV:=ae ((hF2.kept (bN _ (w.heap.size+1) 0 (.slice nW L.length nX)) (fun k hk=>by cases hk;omega)).kept (bN _ (w.heap.size+1) 1 (.slice sP Y.length sQ)) (fun k hk=>by cases hk;omega));have Wt:=ae (bf (bf hY (aP hY (k:=w.heap.size+1) (by omega)) 0 (.slice nW L.length nX)) (aP (bf hY (aP hY (k:=w.heap.size+1) (by omega)) 0 (.slice nW L.length nX)) (k:=w.heap.size+1) (by omega)) 1 (.slice sP Y.length sQ));have HA:=ae (fun (p:fM×Value) (hp:p∈L)=>(kQ (HF.out.maps p hp) hY (Nat.le_refl _)).symm);have G8:=ae Cm;have HB:=ae (aj (aj hB (b:=w.heap.size+1) (off:=0) (u:=.slice nW L.length nX) (by omega)) (b:=w.heap.size+1) (off:=1) (u:=.slice sP Y.length sQ) (by omega));clear hY hF2 Cm hB HF;go_wp2
      (try simp only [Exit.inBlock,Exit.then])
      refine bodyPost_ret (v:=.agg #[.slice nW L.length nX,.slice sP Y.length sQ]) (by simp [results,Tryz.results102,go_sem,v0,v1]) rfl ?_;exact ⟨_,_,L,Y,rfl,⟨aW yV.out.rows (by omega),fun p hp=>aW (yV.out.maps p hp) (by omega),yV.out.apart,yV.out.kY,yV.out.four⟩,aW Wt.out (by omega),HA.out,by omega,by omega,G8.out,HB.out⟩
  ·obtain ⟨w4,jf⟩:∃w',w'=wr:=⟨_,rfl⟩;subst jf;have HF:=ae hF;clear hF;go_wp2_with fail;go_loopw [7] (fun kv w2=>∃(m:Nat) (Y:List Nat) (yv:Value),m≤30∧kv=.int .i64 m∧Y.length≤m∧(∀y∈Y,aX y)∧w2.ownsRow w4.heap.size aU 1 yv Y.length (ints Y)∧ku (w.heap.size+3) w2 rv L∧Is w2 w.heap.size #[.slice a n cap,.slice ax nx cx] gX∧Is w2 (w.heap.size+1) #[.slice none 0 0,.slice none 0 0] gX∧Is w2 (w.heap.size+2) #[rv,yv] gX∧w4.heap.size≤w2.heap.size∧Below w.heap.size w w2) (fun kv _=>30-(intOf kv).toNat)
   case atStart=>exact ⟨0,[],_,by decide,rfl,by decide,by simp,World.ownsRow_nil _ _ _ _,HF.out,k1,k2,k3,Nat.le_refl _,hB⟩
   case round=>
    clear k1 k2 k3 hB d0 d1;obtain ⟨m,Y,yv,hm,rfl,hYm,Cm,hY,hF2,k1,k2,k3,hs4,hB⟩:=hrel;have d1:=k1.at 1 rfl;by_cases G6:m<nx
    ·by_cases Ut:m<30
     ·have zm:decide ((m:Int)<30)=true:=by simp;omega
      have ko:m<X.length:=by have:=XF.out;omega
      obtain ⟨bx,fx,rfl,_,hz⟩:=HY.out m ko;have hz:=aA hB hz;generalize X[m]=x at *;have CH:=ae (fun W=>iL (w:=W) x);have hch:=(ou (x:=(x % 2097152).toNat));have hc9:=hch.1;have Rt:=ae hch;generalize jG (x % 2097152).toNat=ch at *;have g1:=Gr.cell (ah wr) d1;have g2:=Gr.cell (ah wr) hz;have g3:=Gr.cell (ah wr) (k3.at 1 rfl);obtain ⟨sP,sQ,rfl,_,_⟩:=az hY;have Uz:=ae hF2;have G8:=ae Cm;clear hF2 Cm hch;go_wp2_with fail;refine aD #[true,true,true,true,true,true,true,true,true,true,false,false,false] 10 3 mixed (by rfl) ?_;refine ay [0,1,2,3,4,5,6] 3 rfl (by kernel_rfl) ?_;refine aZ ?_
      iterate 7 (refine aO rfl ?_)
      refine a_ ?_
      iterate 7 (go_big_quiet_step (rfl))
      refine ak ?_;refine aL 7 (by kernel_rfl) rfl ?_;go_wp2_with fail;refine (CH.out _).mono ?_;rintro e Zl ⟨rfl,rfl⟩;go_wp2_with fail;refine aH (Below.refl _ _) ?_;refine ay [8] 1 rfl (by kernel_rfl) ?_
      iterate 1 (refine aC rfl ?_;go_big_quiet_step (rfl))
      refine ak ?_;refine aL 9 (by kernel_rfl) rfl ?_;go_wp2_with fail;refine aH (ai _) ?_;refine aI [10,11,12] (by kernel_rfl) ?_;refine tail_cons rfl ?_;refine pg (W:=wr.drew) rfl _ _ 23 rfl w4.heap.size aU _ 8 gL (.slice sP Y.length sQ) Y.length (ints Y) rfl (aG hY (ah wr)) _ rfl rfl (by omega) (by unfold maxLen;omega) wr.drew (Below.refl _ _) hs4 ?_;intro v1 w3 o1 hb1 hal hg1;have hex:Below wr.heap.size wr (wr.drew.alloc (.cells #[.int .i64 (ch:Nat)] aU)):=ag (ah wr) (ai _);have hlow:∀k,(Value.slice sP Y.length sQ).ownBlock=some k→w4.heap.size≤k:=fun k hk=>(hY.lt k hk).1;have hbw:Below w4.heap.size wr w3:=((ah wr).mono hs4).trans hb1;have K1:=k1.low hbw (by omega);have K2:=k2.low hbw (by omega);have K3:=k3.low hbw (by omega);obtain ⟨a1,wI,rfl,_,_⟩:=az o1;have c3:=K3.at 1 rfl;have f3:=K3.frozen 1;refine tail_cons rfl ?_;go_wp2_with fail;refine tail_nil ?_;go_wp2;go_roundw
      case rel=>
       refine ⟨m+1,Y++[ch],_,by omega,rfl,by simp;omega,?_,?_,?_,K1.put (by omega) _,K2.put (by omega) _,K3.set 1 _,by have:=hbw.size;simp;omega,aj (hB.trans (hbw.mono (by omega))) (by omega)⟩
       ·intro y hy;rcases List.mem_append.1 hy with h|h
        ·exact G8.out y h
        ·rw [List.mem_singleton.1 h];exact Rt.out
       ·have:=bf o1 (aP o1 (k:=w.heap.size+2) (by omega)) 1 (.slice a1 (Y.length+1) wI);simpa [ints] using this
       ·exact ((HF.out.past (Uz.out.ext hex) hg1 hlow).kept (bN _ (w.heap.size+2) 1 _) (fun k hk=>by cases hk;omega))
      case measure=>simp [intOf];omega
     ·have zm:decide ((m:Int)<30)=false:=by simp;omega
      have e0:=k3.at 0 rfl;have e1:=k3.at 1 rfl;have s0:=k2.at 0 rfl;have s1:=k2.at 1 rfl;have t0:=k2.frozen 0;have t1:=k2.frozen 1;obtain ⟨sP,sQ,rfl,_,_⟩:=az hY;obtain ⟨nW,nX,rfl,_,_⟩:=az hF2.rows;have u1:=fun u=>(k2.set 0 u).at 1 rfl;have u2:=fun u=>(k2.set 0 u).frozen 1;have K:=(k2.set 0 (.slice nW L.length nX)).set 1 (.slice sP Y.length sQ);have v0:=K.at 0 rfl;have v1:=K.at 1 rfl;have yV:=ae ((hF2.kept (bN _ (w.heap.size+1) 0 (.slice nW L.length nX)) (fun k hk=>by cases hk;omega)).kept (bN _ (w.heap.size+1) 1 (.slice sP Y.length sQ)) (fun k hk=>by cases hk;omega));have Wt:=ae (bf (bf hY (aP hY (k:=w.heap.size+1) (by omega)) 0 (.slice nW L.length nX)) (aP (bf hY (aP hY (k:=w.heap.size+1) (by omega)) 0 (.slice nW L.length nX)) (k:=w.heap.size+1) (by omega)) 1 (.slice sP Y.length sQ));have HA:=ae (fun (p:fM×Value) (hp:p∈L)=>(kQ (HF.out.maps p hp) hY (Nat.le_refl _)).symm);have G8:=ae Cm;have HB:=ae (aj (aj hB (b:=w.heap.size+1) (off:=0) (u:=.slice nW L.length nX) (by omega)) (b:=w.heap.size+1) (off:=1) (u:=.slice sP Y.length sQ) (by omega));clear hY hF2 Cm hB HF;go_wp2
      (try simp only [Exit.inBlock,Exit.then])
      refine bodyPost_ret (v:=.agg #[.slice nW L.length nX,.slice sP Y.length sQ]) (by simp [results,Tryz.results102,go_sem,v0,v1]) rfl ?_;exact ⟨_,_,L,Y,rfl,⟨aW yV.out.rows (by omega),fun p hp=>aW (yV.out.maps p hp) (by omega),yV.out.apart,yV.out.kY,yV.out.four⟩,aW Wt.out (by omega),HA.out,by omega,by omega,G8.out,HB.out⟩
    ·have e0:=k3.at 0 rfl;have e1:=k3.at 1 rfl;have s0:=k2.at 0 rfl;have s1:=k2.at 1 rfl;have t0:=k2.frozen 0;have t1:=k2.frozen 1;obtain ⟨sP,sQ,rfl,_,_⟩:=az hY;obtain ⟨nW,nX,rfl,_,_⟩:=az hF2.rows;have u1:=fun u=>(k2.set 0 u).at 1 rfl;have u2:=fun u=>(k2.set 0 u).frozen 1;have K:=(k2.set 0 (.slice nW L.length nX)).set 1 (.slice sP Y.length sQ);have v0:=K.at 0 rfl;have v1:=K.at 1 rfl;have yV:=ae ((hF2.kept (bN _ (w.heap.size+1) 0 (.slice nW L.length nX)) (fun k hk=>by cases hk;omega)).kept (bN _ (w.heap.size+1) 1 (.slice sP Y.length sQ)) (fun k hk=>by cases hk;omega));have Wt:=ae (bf (bf hY (aP hY (k:=w.heap.size+1) (by omega)) 0 (.slice nW L.length nX)) (aP (bf hY (aP hY (k:=w.heap.size+1) (by omega)) 0 (.slice nW L.length nX)) (k:=w.heap.size+1) (by omega)) 1 (.slice sP Y.length sQ));have HA:=ae (fun (p:fM×Value) (hp:p∈L)=>(kQ (HF.out.maps p hp) hY (Nat.le_refl _)).symm);have G8:=ae Cm;have HB:=ae (aj (aj hB (b:=w.heap.size+1) (off:=0) (u:=.slice nW L.length nX) (by omega)) (b:=w.heap.size+1) (off:=1) (u:=.slice sP Y.length sQ) (by omega));clear hY hF2 Cm hB HF;go_wp2
     (try simp only [Exit.inBlock,Exit.then])
     refine bodyPost_ret (v:=.agg #[.slice nW L.length nX,.slice sP Y.length sQ]) (by simp [results,Tryz.results102,go_sem,v0,v1]) rfl ?_;exact ⟨_,_,L,Y,rfl,⟨aW yV.out.rows (by omega),fun p hp=>aW (yV.out.maps p hp) (by omega),yV.out.apart,yV.out.kY,yV.out.four⟩,aW Wt.out (by omega),HA.out,by omega,by omega,G8.out,HB.out⟩
end Go.Proofs.YtjidohgiigjifaaGreatDoor
