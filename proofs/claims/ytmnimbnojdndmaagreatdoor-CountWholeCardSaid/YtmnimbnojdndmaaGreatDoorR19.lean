/- One machine of an NFD counts as its units do, multiplied; no condition. -/
import Derived.Test.YtmnimbnojdndmaaGreatDoorR18
import Derived.OrdersIn
set_option maxRecDepth 100000
set_option maxHeartbeats 6400000
set_option linter.all false
namespace Go.Proofs.YtmnimbnojdndmaaGreatDoor
open Go.RowKit Go.Cd _root_.Go.Proofs.Tryz
variable {T:List aG} {w:World} {p n c x i B dp g:Nat} {X l:List Nat} {G:Nat->List Nat} {v:Value} {s:eZ} {K:Nat->Nat}
def bgU (T:List aG) (c:Nat):List Nat:=(((mapped T).map (·.code)).filter λx=>(aD T x).head? == some c)++gK c++if uX T c=true then [c] else []
def uY (T:List aG) (c:Nat):List Nat:=b_ (bgU T c)
def OM {E:List eB} (h:E.map (·.1)=(mapped T).map (·.code)) (c:Nat):wK T E c=((mapped T).map (·.code)).filter λx=>(aD T x).head? == some c:=by
 rw[<-h];unfold wK;rw[List.filter_map];rfl
def zU (c:Nat):(gK c).length<=1000:=by
 unfold gK
 split
 ·simp
 first
 | (split <;> simp)
 | simp
def Il (h:cK w p T X) (hV:aY T X) (hl:T.length<1000) (c:Nat) (Z:aP c) :
 Calls prog 65 #[.pointer (some ⟨p,0,none⟩),.int .i32 c] w λe w'=>∃r,e=.returned r/\w'.ownsRow w.heap.size aN 1 r (uY T c).length (aM (uY T c))/\Below w.heap.size w w':=by
 have h':=h;obtain⟨E,rv,xv,ev,J,jM,cp,pp,iv,sv,mv,h1,h2,h3,_⟩:=h;obtain⟨G,hG,Q,Y⟩:=h1.bm;obtain⟨a,j⟩:=ae (((mapped T).map (·.code)).filter λx=>(aD T x).head? == some c);have z:wK T E c=a:=by rw[j];exact OM h1.mG c
 obtain⟨M,D,LC⟩:∃M,bG w M (aM a)/\(((∀v,¬G (.int .i32 c) v)/\M=.slice none 0 0)\/G (.int .i32 c) M):=by
  by_cases hg:∃v,G (.int .i32 c) v
  ·obtain⟨v,hv⟩:=hg;obtain⟨c2,e,hw⟩:=Q _ _ hv;have:c2=c:=by injection e with _ e;omega
   subst this;rw[z,<-bF] at hw;exact⟨v,(Sl.aU hw).any,.inr hv⟩
  have P:∀u,¬G (.int .i32 c) u:=λu hu=>hg ⟨u,hu⟩;have:=Y c P;rw[z] at this;rw[this];exact⟨_,⟨none,0,rfl,Nat.le_refl _,.inl ⟨rfl,λ_=>rfl⟩⟩,.inl ⟨P,rfl⟩⟩
 have ax:a.length<1000:=by
  rw[j];refine Nat.lt_of_le_of_lt (List.length_filter_le _ _) ?_;rw[List.length_map];exact Nat.lt_of_le_of_lt (List.length_filter_le _ _) hl
 obtain⟨m,o,am,_,_⟩:=bG.out D;subst am;obtain⟨M,aj⟩:=ae (Value.slice m (aM a).length o);obtain⟨y,U⟩:=ae ((aM a).length);rw[<-U] at D LC;clear aj M U;have l:=Ap c (by have:=Z.1;omega);have hz:=λW=>zeroValue35 W;have I:=aa (λ(W:World)=>JD (w:=W) c Z.1);have ac:=zU c;have IS:=aa (λ(W:World)=>gZ (w:=W) c (by have:=Z.1;omega));rw[decide_eq_true Z] at IS;have PL:=aa (λ(W:World) (E:Below w.heap.size w W)=>LB (h'.mono E) hV hl c Z.1);obtain⟨H,hH⟩:=ae (gK c);obtain⟨pb,A⟩:=ae (uX T c);rw[<-hH] at I ac;rw[<-A] at PL;have hR:uY T c=b_ (a++H++if pb=true then [c] else []):=by unfold uY bgU;rw[j,hH,A]
 rw[hR];have i1:=h1.is;have aw:J<w.heap.size:=hG.lt;have g0:=vG.keeps (S:=λk=>k=p\/k=J) ((i1.mono (ag w)).at 5 rfl) (.inl rfl);have R:=hG.mono (ag w);have aB:=i1.lt;clear h1 h2 h3 Q Y z hH A hR j h' hG i1;go_enter func65,ntmps65;go_wp2_with fail;refine dF (KR.blocks λk=>k=p\/k=J) (Array.replicate 11 true) 11 0 mixed ?_;refine bZ [0,1,2,3,4,5,6] 4 ?_
 iterate 5 (refine aA rfl ?_;go_big_quiet_step (rfl))
 refine aA rfl ?_;refine BD rfl ?_;refine zJ _ _ 153 35 rfl jR underlying153 R (.inr rfl) rfl rfl l hz (.slice m y o) LC ?_;simp only[Act.put,List.setIfInBounds_toArray,List.set_cons_succ,List.set_cons_zero]
 iterate 1 (refine aA rfl ?_;go_big_quiet_step (rfl))
 refine az ?_;refine bN 7 ?_;go_wp2_with fail;refine(I.out w.drew).mono ?_;rintro e t⟨r1,rfl,o1,f⟩;obtain⟨s,C,rfl,_,_⟩:=ak o1;have ad:=f.size;have av:w.drew.heap.size=w.heap.size:=rfl;go_wp2_with fail;refine bK (KR.of_below f f.size (λk (g:k=p\/k=J)=>by rcases g with rfl|rfl <;> omega)) ?_;refine bN 8 ?_;go_wp2_with fail;have d:=ah (w:=t) (.cells #[.slice m y o,.slice s H.length C] 35);refine bK (KR.of_below d d.size (λk (g:k=p\/k=J)=>by rcases g with rfl|rfl <;> omega)) ?_;have ab:Below w.heap.size w (t.alloc (.cells #[.slice m y o,.slice s H.length C] 35)):=((ag w).trans f).trans (d.mono ad);have i2:=Is.new t #[.slice m y o,.slice s H.length C] 35;have O:bG t (.slice s H.length C) (aM H):=(Sl.aU o1).any
 have CC:=aa (OL (w:=t.alloc (.cells #[.slice m y o,.slice s H.length C] 35)) (b:=t.heap.size) (n:=2) (c:=2) (Ls:=[a,H]) (vs:=[.slice m y o,.slice s H.length C]) rfl rfl (λk g au=>by
  rcases k with _|_|k
  ·exact⟨i2.at 0 rfl,D.mono ab⟩
  ·exact⟨i2.at 1 rfl,O.mono d⟩
  exact absurd g (by simp)) (by simp;omega) (by decide))
 rw[show [a,H].flatten=a++H by simp] at CC;refine bN 9 ?_;go_wp2_with fail;refine CC.out.mono ?_;rintro e w3⟨r3,rfl,K,i⟩;obtain⟨a3,c3,rfl,_,_⟩:=ak K;rw[List.length_append] at K⊢;go_wp2_with fail;refine bK (KR.of_below i i.size (λk (g:k=p\/k=J)=>by simp;rcases g with rfl|rfl <;> omega)) ?_;refine bZ [10] 0 ?_
 iterate 1 (refine aA rfl ?_;go_big_quiet_step (rfl))
 refine az ?_;refine eU [] ?_;refine tail_nil ?_;have F:Below w.heap.size w w3:=ab.trans (i.mono (by simp;omega));have K:=aT K (show w.heap.size<=(t.alloc (.cells #[.slice m y o,.slice s H.length C] 35)).heap.size by simp;omega);have ap:=aa (IS.out w3);have ai:=aa (PL.out w3 F);have O3:=aa K;have ar:=F.size;have an:(a++H).length<2000:=by rw[List.length_append];omega
 clear CC I IS PL O i2 o1 f d i LC R g0 l hz K;go_wp2_with fail;refine ap.out.mono ?_;rintro e w4⟨rfl,rfl⟩;go_wp2_with fail;refine ai.out.mono ?_;rintro e w5⟨rfl,q⟩;have rX:=F.trans (q.mono ar);have al:=rX.size;obtain⟨L,hL⟩:=ae (a++H);rw[<-hL] at O3 an;have HL:=aa hL;have o5:=aH O3.out q;have ay:=q.size;clear hL;have ao:a.length+H.length=L.length:=by rw[HL.out,List.length_append]
 rw[ao] at o5⊢;cases pb with
 | false=>
   have V:=aa (wh L o5 (by omega));clear O3 o5;go_wp2_with fail;refine V.out.mono ?_;rintro e w6⟨rfl,B,M4⟩;have mF:=rX.grown M4 al (λk g=>(B.lt k g).1);have O6:=aa B;clear V B M4;go_wp2;go_ret;refine⟨_,rfl,?_,mF⟩;rw[<-HL.out,fP];exact O6.out
 | true=>
   go_wp2_with (at_builtin;refine gp rfl _ _ 35 rfl w.heap.size aN _ 4 bW _ L.length _ rfl o5 _ rfl rfl (by omega) (by unfold maxLen;omega) w rX (Nat.le_refl _) ?_;intro v' w6 B mF);rw[show aM L++[.int .i32 (c:Nat)]=aM (L++[c]) by rw[a_];rfl,show L.length+1=(L++[c]).length by simp] at B;have V:=aa (wh (L++[c]) B (by simp;omega));have af:=mF.size;clear O3 o5 B;go_wp2_with fail;refine V.out.mono ?_;rintro e w7⟨rfl,o7,N⟩;have aq:=mF.grown N af (λk g=>(o7.lt k g).1);have O7:=aa o7;clear V o7 N;go_wp2;go_ret;refine⟨_,rfl,?_,aq⟩;rw[<-List.append_assoc,<-HL.out,fP];exact O7.out
def aab (rs:List bS):Prop:=∀r∈rs,aP r.1/\∀x∈r.2,∀y∈x.2,aP y
def Ww {Ls:List (Nat×List Nat)} (e:aP c) (h:∀x∈Ls,∀y∈x.2,aP y):∀x∈sQ n c Ls,∀y∈x.2,aP y:=by
 unfold sQ
 split
 ·rename_i m l d
  have f:(m,l)∈Ls:=List.mem_of_getLast? d
  split
  ·intro x a y b
   rcases List.mem_append.1 a with a|a
   ·exact h x (List.dropLast_subset _ a) y b
   rw[List.mem_singleton.1 a] at b
   rcases List.mem_append.1 b with b|b
   ·exact h _ f y b
   rw[List.mem_singleton.1 b];exact e
  intro x a y b
  rcases List.mem_append.1 a with a|a
  ·exact h x a y b
  rw[List.mem_singleton.1 a] at b
  rw[List.mem_singleton.1 b];exact e
 intro x a y b
 rcases List.mem_append.1 a with a|a
 ·exact h x a y b
 rw[List.mem_singleton.1 a] at b
 rw[List.mem_singleton.1 b];exact e
def uZ:aP 0:=by decide
def Qy (K:Nat->Nat) (i:∀c∈l,aP c):aab (bq K l):=by
 have key:∀(l:List Nat) (d:List bS),(∀c∈l,aP c)->aab d->aab (l.foldl (BU K) d):=λl=>by
  induction l with
  | nil=>intro d _ h;exact h
  | cons c l ih=>
    intro d f h
    refine ih _ (λy g=>f y (.tail _ g)) ?_
    have h0:=f c (.head _)
    unfold BU
    split
    ·intro r a
     rcases List.mem_append.1 a with a|a
     ·exact h r a
     rw[List.mem_singleton.1 a]
     exact⟨h0,by simp⟩
    have b:aP (d.getLastD (0,[])).1/\∀x∈(d.getLastD (0,[])).2,∀y∈x.2,aP y:=by
     rcases List.eq_nil_or_concat d with e|⟨q,z,e⟩
     ·subst e
      exact⟨uZ,by simp⟩
     have e:d=q++[z]:=by simpa using e
     rw[e,List.getLastD_concat]
     exact h z (by rw[e];simp)
    intro r a
    rcases List.mem_append.1 a with a|a
    ·exact h r (List.dropLast_subset _ a)
    rw[List.mem_singleton.1 a]
    exact⟨b.1,Ww h0 b.2⟩
 refine key l _ i λr a=>?_
 rw[List.mem_singleton.1 a]
 exact⟨uZ,by simp⟩
def Cv {R:List bS} (h:aab R) (s:eZ):∀x∈ko R s,aP x:=by
 have b:∀k,aP (aL R k).1/\∀x∈(aL R k).2,∀y∈x.2,aP y:=λk=>by
  unfold aL
  rw[List.getD_eq_getElem?_getD]
  by_cases j:k<R.length
  ·rw[List.getElem?_eq_getElem j]
   exact h _ (List.getElem_mem j)
  rw[List.getElem?_eq_none (by omega)]
  exact⟨uZ,by simp⟩
 have f:∀(ms:List Nat) (L:List (Nat×List Nat)) (n:Nat),(∀x∈L,∀y∈x.2,aP y)->∀x∈gW ms L n,aP x:=λms L n l x c=>by
  obtain⟨i,_,d⟩:=List.mem_flatMap.1 c
  unfold lZ at d
  split at d
  ·rename_i a
   rw[List.mem_singleton.1 d]
   by_cases g:i<L.length
   ·have e:L.getD i (0,[])=L[i]:=by rw[List.getD_eq_getElem?_getD,List.getElem?_eq_getElem g];rfl
    rw[e] at a⊢
    rw[List.getD_eq_getElem?_getD,List.getElem?_eq_getElem a]
    exact l _ (List.getElem_mem g) _ (List.getElem_mem a)
   have e:L.getD i (0,[])=(0,[]):=by rw[List.getD_eq_getElem?_getD,List.getElem?_eq_none (by omega)];rfl
   rw[e] at a
   exact absurd a (by simp)
  cases d
 intro x c
 unfold ko at c
 split at c
 ·split at c
  ·rw[List.mem_singleton.1 c];exact(b _).1
  cases c
 exact f _ _ _ (b _).2 x c
def aac (h:T.length<1000) (c:Nat):(bgU T c).length<=2000:=by
 have:=zU c
 have:(((mapped T).map (·.code)).filter λx=>(aD T x).head? == some c).length<=T.length:=by
  refine Nat.le_trans (List.length_filter_le _ _) ?_
  rw[List.length_map]
  exact List.length_filter_le _ _
 unfold bgU
 rw[List.length_append,List.length_append]
 split
 ·simp;omega
 simp;omega
def Qz (h:T.length<1000) (c:Nat):(uY T c).length<=2000:=by unfold uY;rw[fP];exact aac h c
def LF (h:x∈gK c) (d:aP c):aP x:=by
 unfold gK at h
 split at h
 ·rename_i b
  have:=UM.1 b
  obtain⟨i,a,rfl⟩:=List.mem_map.1 h
  have:=List.mem_range.1 a
  unfold aP
  omega
 cases h
def QA (e:aY T X) (b:aP c):∀x∈uY T c,aP x:=by
 intro x a
 rw[uY,xQ] at a
 unfold bgU at a
 rcases List.mem_append.1 a with a|a
 ·rcases List.mem_append.1 a with a|a
  ·obtain⟨r,d,rfl⟩:=List.mem_map.1 (List.mem_filter.1 a).1
   exact(e.fine r (List.mem_filter.1 d).1).1
  exact LF a b
 split at a
 ·rw[List.mem_singleton.1 a];exact b
 cases a
def FY.form {e:Ending} {o:Option eZ} (h:FY e w o):∃k a m c,e=.returned (.tuple #[.agg #[.int .i64 k,.slice a m c],.bool o.isSome]):=by
 cases o with
 | none=>exact⟨_,_,_,_,h⟩
 | some s=>
   obtain⟨v,rfl,d,rfl,b⟩:=h
   obtain⟨a,c,rfl,_,_⟩:=bG.out b.any
   exact⟨_,_,_,_,rfl⟩
def OQ (a:i<l.length):(l.take (i+1)).flatMap G=(l.take i).flatMap G++G l[i]:=by
 rw[List.take_succ_eq_append_getElem a,List.flatMap_append];simp
def sD {b:Nat} (a:∀x,(G x).length<=b):∀l:List Nat,(l.flatMap G).length<=l.length*b
 | []=>by simp
 | x::l=>by
   have:=sD a l
   have:=a x
   rw[List.flatMap_cons,List.length_append,List.length_cons,Nat.succ_mul];omega
def Te {q:Nat->Bool} {j:Nat} (a:j<l.length):(l.take (j+1)).filter q=(l.take j).filter q++if q l[j]=true then [l[j]] else []:=by
 rw[List.take_succ_eq_append_getElem a,List.filter_append]
 congr 1
 cases h:q l[j] <;> simp[h]
def Im (hD:cK w dp T X) (hV:aY T X) (zT:T.length<1000) (h:dP w B p dp (ai T) l) (hl:l.length<400) (bh:∀c∈l,aP c) (hs:AA w v s) (ho:eQ (bq (ai T) l) s) :
 Calls prog 30 #[.pointer (some ⟨p,0,none⟩),v] w λe w'=>∃r,e=.returned r/\w'.ownsRow w.heap.size aN 1 r (b_ (pO (ai T) (aD T) (uY T) (bq (ai T) l) s)).length (aM (b_ (pO (ai T) (aD T) (uY T) (bq (ai T) l) s)))/\Below w.heap.size w w':=by
 obtain⟨g,rc,iT,bk,Es,hR⟩:=h.read
 obtain⟨sv,rfl,ag⟩:=id hs
 obtain⟨sa,sc,rfl,_,_⟩:=bG.out ag.any
 obtain⟨m,hm⟩:=ae ((bO (nz s.2)).length)
 rw[<-hm] at hs ag⊢
 have O:=ah (w:=w) (.cells #[.int .i64 (s.1:Nat),.slice sa m sc] 54)
 have ac:=Cv (Qy (ai T) bh) s
 have ax:=Cr (bq (ai T) l) s
 have U:=(fD (ai T) l).2.2 _ (show aL (bq (ai T) l) s.1∈bq (ai T) l by rw[df ho.lt];exact List.getElem_mem _)
 have FI:=aa (OJ (h.mono O) (by omega) (hs.mono O) ho)
 have BG:=aa (λ(W:World) (E:Below w.heap.size w W) (c:Nat) (V:aP c)=>Il (hD.mono E) hV zT c V)
 have ST:=aa (λ(W:World) (E:Below w.heap.size w W) (c:Nat) (V:aP c)=>FZ (hD.mono E) hV zT (h.mono E) (by omega) (hs.mono E) ho c V)
 have ap:=λ(c:Nat) (V:aP c)=>QA hV V
 have N:=λc=>Qz zT c
 have hO:pO (ai T) (aD T) (uY T) (bq (ai T) l) s=(ko (bq (ai T) l) s).flatMap λx=>(uY T x).filter λc=>(fw (ai T) (aD T) (bq (ai T) l) s c).isSome:=rfl
 rw[hO]
 obtain⟨F,hF⟩:=ae (ko (bq (ai T) l) s)
 obtain⟨q,hq⟩:∃q:Nat->Bool,q=λc=>(fw (ai T) (aD T) (bq (ai T) l) s c).isSome:=⟨_,rfl⟩
 obtain⟨A,am⟩:=ae (uY T)
 rw[<-hF] at ac ax FI
 rw[<-hF,<-hq,<-am]
 rw[<-am] at ap N BG
 have aX:∀(W:World) (E:Below w.heap.size w W) (c:Nat) (V:aP c),Calls prog 31 #[.pointer (some ⟨p,0,none⟩),.agg #[.int .i64 (s.1:Nat),.slice sa m sc],.int .i32 c] W λe w'=>(∃k a m c',e=.returned (.tuple #[.agg #[.int .i64 k,.slice a m c'],.bool (q c)]))/\Below W.heap.size W w':=λW E c V=>(ST.out W E c V).mono λe w' ⟨h1,h2⟩=>⟨by rw[hq];exact h1.form,h2⟩
 have aE:=aa aX
 have bj:=aa ap
 have a5:=aa ac
 have bi:=hR.is
 have aR:F.length<=401:=by have:=U.1;omega
 obtain⟨G,hG⟩:∃G:Nat->List Nat,G=λx=>(A x).filter q:=⟨_,rfl⟩
 have Qq:∀x,(G x).length<=2000:=λx=>by rw[hG];exact Nat.le_trans (List.length_filter_le _ _) (N x)
 have HG:=aa hG
 have a3:=aa Qq
 have bl:=aa N
 rw[<-hG]
 obtain⟨k,L⟩:=ae s.1
 rw[<-L] at O FI aE⊢
 clear h hR ag hs hm hF hq am hO ST aX ac ax ap N U hG Qq hD ho L
 go_enter func30,ntmps30
 go_wp2_with fail
 refine FI.out.mono ?_
 rintro e K⟨r1,rfl,o1,aQ⟩
 have I:=af O aQ
 have H:=I.size
 have k0:Is K w.heap.size #[.int .i64 (k:Nat),.slice sa m sc] 54:=(Is.new w _ _).mono aQ
 obtain⟨n,hn⟩:=ae F.length
 have aO:=(Sl.aU o1).any
 obtain⟨a1,c1,rfl,_,hx⟩:=Go.Proofs.YtmnimbnojdndmaaGreatDoor.bG.Hl aO hn
 have HX:=aa hx
 have HN:=aa hn
 have:n<=401:=by rw[hn];exact aR
 clear o1 aO hx hn FI aR
 go_wp2_with fail
 go_loopw [5,7,9,10,11,16,27] (λo _ _ _ _ iv _ wr=>∃i:Nat,i<=n/\iv=.int .i64 i/\wr.ownsRow K.heap.size aN 1 o ((F.take i).flatMap G).length (aM ((F.take i).flatMap G))/\Below K.heap.size K wr) (λ_ _ _ _ _ iv _ _=>n-(intOf iv).toNat)
 case atStart=>exact⟨0,Nat.zero_le _,rfl,World.ownsRow_nil _ _ _ _,Below.refl _ _⟩
 case round=>
  obtain⟨i,hi,rfl,d,hE⟩:=hrel
  by_cases bp:i<n
  ·have zi:=eG (show i<n by omega)
   have Z:i<F.length:=by have:=HN.out;omega
   obtain⟨b,off,rfl,_,c0⟩:=HX.out i Z
   have c0:=aB hE c0
   have f:=OQ (G:=G) Z
   have J:=sD a3.out (F.take i)
   rw[List.length_take,Nat.min_eq_left (by omega)] at J
   have ak:=a5.out _ (List.getElem_mem Z)
   obtain⟨x,hx⟩:=ae (F[i])
   obtain⟨P,hP⟩:=ae ((F.take i).flatMap G)
   rw[<-hx] at c0 f ak
   rw[<-hP] at f J d
   have a9:=aa f
   have C:=I.trans (hE.mono H)
   have Je:=C.size
   have aI:=aa (BG.out wr C x ak)
   have aZ:=bj.out x ak
   have aF:=bl.out x
   have p0:=(bi.mono C).at 0 rfl
   clear f hx hP
   go_wp2_with fail
   refine aI.out.mono ?_
   rintro e w2⟨r2,rfl,o2,ad⟩
   have a7:=af hE ad
   have:=C.trans (ad.mono Je)
   obtain⟨z,D⟩:=ae ((A x).length)
   have R:=(Sl.aU o2).any
   obtain⟨a2,c2,rfl,_,aV⟩:=Go.Proofs.YtmnimbnojdndmaaGreatDoor.bG.Hl R D
   have:=aa aV
   have au:=aa D
   have bg:=aa aZ
   have aq:=aH d ad
   have:z<=2000:=by rw[D];exact aF
   have ba:w2.ownsRow K.heap.size aN 1 (.slice a2 z c2) z (aM (A x)):=aT (D▸o2) hE.size
   have bf:za (.slice a2 z c2) u5:=λk L a4=>by
    have h1:=(o2.lt k L).1
    have h2:=(d.lt k a4).2
    omega
   clear o2 R aV D aZ aI p0 aF d
   go_wp2_with fail
   go_loopw [5,9,10,11,27] (λo _ _ _ jv wr=>∃j:Nat,j<=z/\jv=.int .i64 j/\wr.ownsRow K.heap.size aN 1 o (P++((A x).take j).filter q).length (aM (P++((A x).take j).filter q))/\Below K.heap.size K wr/\wr.ownsRow K.heap.size aN 1 (.slice a2 z c2) z (aM (A x))/\za (.slice a2 z c2) o) (λ_ _ _ _ jv _=>z-(intOf jv).toNat)
   case atStart=>exact⟨0,Nat.zero_le _,rfl,by rw[List.take_zero,List.filter_nil,List.append_nil];exact aq,a7,ba,bf⟩
   case round=>
    obtain⟨j,hj,rfl,t,Zw,al,aS⟩:=hrel
    by_cases bs:j<z
    ·have zj:=eG (show j<z by omega)
     have M:j<(A x).length:=by have:=au.out;omega
     obtain⟨b2,bm,ao,_,_,_,_,av⟩:=dz al (show 0<z by omega)
     injection ao with ao _ a6
     subst ao a6
     have d0:=av j (.int .i32 ((A x)[j]:Nat)) (by rw[List.getElem?_eq_getElem (by rw[bF];exact M),dR _ _ M])
     clear av
     have f:=Te (q:=q) M
     have ay:=bg.out _ (List.getElem_mem M)
     have aJ:=List.length_filter_le q ((A x).take j)
     rw[List.length_take,Nat.min_eq_left (by omega)] at aJ
     obtain⟨y,hy⟩:=ae ((A x)[j])
     obtain⟨S,hS⟩:=ae (((A x).take j).filter q)
     rw[<-hy] at d0 f ay
     rw[<-hS] at f t aJ
     have aw:=aa f
     have aA:=I.trans (Zw.mono H)
     have:=aA.size
     have az:=aa (aE.out wr aA y ay)
     have e0:=(k0.mono Zw).at 0 rfl
     have e1:=(k0.mono Zw).at 1 rfl
     have be:(P++S).length<900000:=by rw[List.length_append];omega
     obtain⟨Q,hQ⟩:=ae (P++S)
     rw[<-hQ] at t be
     have HQ:=aa hQ
     clear f hy hS hQ
     go_wp2_with fail
     refine az.out.mono ?_
     rintro e w6⟨⟨k',a',m',c',rfl⟩,an⟩
     have ji:=af Zw an
     have aj:=ah (w:=w6) (.cells #[.int .i64 k',.slice a' m' c'] 54)
     have uK:=af ji aj
     have aC:=aH (aH al an) aj
     have Y:=aa aS
     have aW:=aH (aH t an) aj
     obtain⟨qy,ab⟩:=ae (q y)
     rw[<-ab]
     have ar:=aa ab
     clear az e0 e1 t ab ji al aS
     cases qy with
     | true=>
       have aK:=aH aW (ah (.cells #[.int .i32 (y:Nat)] aN))
       have a0:=aa (aH aC (ah (.cells #[.int .i32 (y:Nat)] aN)))
       have kL:=aa (uK.trans ((ah (.cells #[.int .i32 (y:Nat)] aN)).mono uK.size))
       have a8:=kL.out.size
       simp only[World.size_alloc] at a8
       have bc:=uK.size
       simp only[World.size_alloc] at bc
       go_wp2_with (at_builtin;refine ng rfl _ _ 35 rfl K.heap.size aN (.int .i32 0) 4 bW (by decide) rfl aK (by simp;omega) [.int .i32 (y:Nat)] (by simp[Value.oneCell']) ⟨w6.heap.size+1,0,none⟩ 1 1 rfl rfl (λi u hi=>by rcases i with _|i;cases hi;exact(Is.new' (w6.alloc (.cells #[.int .i64 k',.slice a' m' c'] 54)) #[.int .i32 (y:Nat)] aN (w6.heap.size+1) (by simp)).at 0 rfl;cases hi) (by omega) ?_;intro v' w8 o8 OT bd)
       go_roundw
       case rel=>
        refine⟨j+1,by omega,by simp,?_,kL.out.grown OT (by simp;omega) (λk L=>(aK.lt k L).1),za.stays Y.out a0.out OT,Y.out.push (λk L=>(a0.out.lt k L).2) bd⟩
        rw[aw.out,<-ar.out,if_pos rfl,<-List.append_assoc,<-HQ.out,a_,List.length_append]
        exact o8
       case measure=>simp[intOf];omega
     | false=>
       go_wp2_with fail
       go_roundw
       case rel=>
        refine⟨j+1,by omega,by simp,?_,uK,aC,Y.out⟩
        rw[aw.out,<-ar.out,if_neg (by simp),List.append_nil,<-HQ.out]
        exact aW
       case measure=>simp[intOf];omega
    have zj:=gI (show z<=j by omega)
    obtain rfl:j=z:=by omega
    have ht:(A x).take j=A x:=List.take_of_length_le (by rw[<-au.out];exact Nat.le_refl _)
    rw[ht] at t
    have bb:=aa t
    clear t ht
    go_wp2_with fail
    go_roundw
    case rel=>
     refine⟨i+1,by omega,by simp,?_,Zw⟩
     rw[a9.out,HG.out]
     exact bb.out
    case measure=>simp[intOf];omega
  have zi:=gI (show n<=i by omega)
  obtain rfl:i=n:=by omega
  have ht:F.take i=F:=List.take_of_length_le (by rw[<-HN.out];exact Nat.le_refl _)
  rw[ht] at d
  have J:=sD a3.out F
  rw[<-HN.out] at J
  obtain⟨P,hP⟩:=ae (F.flatMap G)
  rw[<-hP] at d J
  have SO:=aa (wh P d (by omega))
  have HP:=aa hP
  have C:=I.trans (hE.mono H)
  clear d ht hP
  go_wp2_with fail
  refine SO.out.mono ?_
  rintro e w6⟨rfl,o6,M4⟩
  have mF:=hE.grown M4 hE.size (λk L=>(o6.lt k L).1)
  have O6:=aa (aT o6 H)
  clear SO o6 M4
  go_wp2
  go_ret
  rw[<-HP.out,fP]
  exact⟨_,rfl,O6.out,I.trans (mF.mono H)⟩
def OU {bs:List Nat} (h:gB w v bs) (f:∀b∈bs,1<=b) (l:aW bs<=1073741824) (N:bs.length<1099511627776) (i:Int) :
 Calls prog 63 #[v,.int .i64 i] w λe w'=>∃r,e=.returned (.tuple #[r,.bool (decide (0<=i/\i<(aW bs:Nat)))])/\Below w.heap.size w w'/\
  (0<=i/\i<(aW bs:Nat)->w'.ownsRow w.heap.size bB 1 r bs.length (ds (Cn bs i.toNat)))/\(¬(0<=i/\i<(aW bs:Nat))->r=.slice none 0 0):=by
 have A:=h;obtain⟨B,F,K,G,rfl,_⟩:=h.out;have I:=ah (w:=w) (.cells #[.slice B bs.length F,.slice K bs.length G,.int .i64 (aW bs:Nat)] dh);have O:qj (w.alloc (.cells #[.slice B bs.length F,.slice K bs.length G,.int .i64 (aW bs:Nat)] dh)) w.heap.size (.slice B bs.length F) (.slice K bs.length G) (.int .i64 (aW bs:Nat)) dh:=⟨heap_alloc_new' _ _ _ rfl⟩;obtain⟨e0,e1,e2⟩:=O.cell;have y:=aa (aga (A.mono I) f l i);have T:=aa (λ(W:World) (E:Below w.heap.size w W) (n j:Nat) (D:n<aW bs) (Y:j<bs.length)=>Wo (A.mono E) f l D Y);clear h A f;by_cases g:0<=i/\i<(aW bs:Nat)
 ·obtain⟨n,rfl⟩:∃n:Nat,i=n:=⟨i.toNat,by omega⟩;have D:n<aW bs:=by omega
  have a:decide (0<=(n:Int)/\(n:Int)<(aW bs:Nat))=true:=decide_eq_true g;rw[a] at y⊢;have z:=aa g;have t:=aa (uT bs n);clear a g;go_enter func63,ntmps63;go_wp2_with fail;refine y.out.mono ?_;rintro e s⟨rfl,u⟩;have P:=O.mono u;have c:=af I u;obtain⟨f0,f1,f2⟩:=P.cell;go_wp2_with fail;have:=c.size;go_loopw [6,15] (λo i wr=>∃k:Nat,k<=bs.length/\i=.int .i64 k/\wr.ownsRow s.heap.size bB 1 o k (ds ((Cn bs n).take k))/\Below s.heap.size s wr)
   (λ_ i _=>bs.length-(intOf i).toNat)
  case atStart=>exact⟨0,Nat.zero_le _,rfl,⟨by simp[ds],.inl (by simp)⟩,Below.refl _ _⟩
  case round=>
   obtain⟨k,hk,rfl,M,x⟩:=hrel;obtain⟨R,U,Z⟩:=(P.mono x).cell;by_cases p:k<bs.length
   ·have X:=aa (List.take_succ_eq_append_getElem (show k<(Cn bs n).length by rw[t.out];exact p));have H:=aa (T.out wr (c.trans (x.mono c.size)) n k D p);generalize (Cn bs n)[k]'(by rw[t.out];exact p)=d at *;go_wp2_with fail;refine H.out.mono ?_;rintro e w4⟨rfl,Q⟩;have L:=aH M Q;have S:=af x Q;clear R U Z;go_wp2_with (at_builtin;refine gp rfl _ _ 23 rfl s.heap.size bB _ 8 jI _ k _ rfl L _ rfl rfl (by omega) (by unfold maxLen;omega) s S (Nat.le_refl _) ?_;intro v' w' q C);go_roundw
    case rel=>exact⟨k+1,by omega,rfl,by rw[X.out];simpa [ds] using q,C⟩
    case measure=>simp[intOf];omega
   obtain rfl:k=bs.length:=by omega
   go_wp2;go_ret2;have m:(Cn bs n).take bs.length=Cn bs n:=List.take_of_length_le (by simp);rw[m] at M;refine⟨_,rfl,c.trans (x.mono c.size),λ_=>?_,λJ=>absurd z.out J⟩;rw[Int.toNat_natCast];exact aT M c.size
 have a:decide (0<=i/\i<(aW bs:Nat))=false:=decide_eq_false g;rw[a] at y⊢;clear a;go_enter func63,ntmps63;go_wp2_with fail;refine y.out.mono ?_;rintro e s⟨rfl,u⟩;go_wp2;go_ret2;exact⟨_,rfl,af I u,λJ=>absurd J g,λ_=>rfl⟩
def OW (h:dP w B p dp K l) (hl:l.length<9000) (d:dO (bq K l)<=16384) (G:AA w v s) (j:eQ (bq K l) s) :
 Calls prog 52 #[.pointer (some ⟨p,0,none⟩),v] w λe w'=>e=.returned (.tuple #[.int .i64 (fK (bq K l) s:Nat),.bool true])/\Below w.heap.size w w':=by
 obtain⟨k,ms⟩:=s;have hF:=fD K l;obtain⟨g,rc,iT,Z,Es,P⟩:=h.read;obtain⟨sv,rfl,c⟩:=id G;obtain⟨sa,sc,rfl,_,_⟩:=bG.out c.any;obtain⟨m,hm⟩:=ae ((bO (nz ms)).length);dsimp only at G c⊢;rw[<-hm] at G c⊢;have r:=ah (w:=w) (.cells #[.int .i64 (k:Nat),.slice sa m sc] 54);have O:=aa (rD (h.mono r) hl (G.mono r) j);have b:=hF.2.2 _ (show aL (bq K l) k∈bq K l by rw[df j.lt];exact List.getElem_mem _);have Y:aW (kM (aL (bq K l) k))<=16384:=by
  have hk:k<(bq K l).length:=j.lt;rw[<-uV,df hk];have h1:=jW hk;have:=gG (bq K l) (k+1);omega
 have A:=aa (λ(W:World) (E:Below w.heap.size w W) (rv:Value) (hr:gB W rv (kM (aL (bq K l) k)))=>VT hr (c.any.mono E) (by omega) (pQ _) (by have h1:ms.length=(aL (bq K l) k).2.length:=j.len;rw[jF,h1];have:=b.1;omega) (by rw[eO];have:=b.1;omega));have t:=j.vld;dsimp only at t;simp only[t,if_true] at A;have o:=nD j;have a:fK (bq K l) (k,ms)=dO ((bq K l).take k)+gU (kM (aL (bq K l) k)) (nz ms) (kM (aL (bq K l) k)).length:=rfl;dsimp only at O;have H:=P.le;rw[decide_eq_true d] at H;subst H;obtain⟨R,L⟩:=ae (bq K l);simp only[<-L] at hF P O j a o A d⊢;obtain⟨S,F⟩:=ae (gU (kM (aL R k)) (nz ms) (kM (aL R k)).length);obtain⟨N,u⟩:=ae (dO (R.take k));obtain⟨ix,J⟩:=ae (fK R (k,ms));rw[<-J] at a o⊢;rw[<-F] at a A;rw[<-u] at a;have:ix<16384:=by omega
 have ac:=aa u;have V:=P.is;have U:=aa d;clear h P c G hm hF b F u J L j t Y o d;go_enter func52,ntmps52;go_wp2_with fail;refine O.out.mono ?_;rintro e w1⟨rv,rfl,hW,I⟩;obtain⟨la,lc,x1,m1,y1,x2,m2,y2,z,f,rfl,hL,T⟩:=id hW;obtain⟨y,hf⟩:=T U.out;have ab:f=(N:Int):=by rw[hf,ac.out]
 clear hf;subst ab;obtain⟨n,hn⟩:=ae ((aL R k).2.length);obtain⟨hd,C⟩:=ae ((aL R k).1);rw[<-hn,<-C];have ad:=af r I;have M:=(Is.new w #[.int .i64 (k:Nat),.slice sa m sc] 54).mono I;have q:=ah (w:=w1) (.cells #[.int .i32 hd,.slice la n lc,.slice x1 m1 y1,.slice x2 m2 y2,.int .i64 z,.int .i64 N] eX);have D:=Is.new w1 #[.int .i32 hd,.slice la n lc,.slice x1 m1 y1,.slice x2 m2 y2,.int .i64 z,.int .i64 N] eX;have i:=af ad q;have M:=M.mono q;have:=M.at 1 rfl;have:=D.at 2 rfl;have:=D.at 3 rfl;have:=D.at 4 rfl;have:=(V.mono i).at 3 rfl;have X:=aa (A.out _ i _ (y.mono q));have K2:=aa D;clear hL hn C O hW y A M D;go_wp2_with fail;refine X.out.mono ?_;rintro e w3⟨rfl,x⟩;have:=(K2.out.mono x).at 5 rfl;have w9:wrap64 ((N:Int)+(S:Int))=(ix:Int):=by rw[a];unfold wrap64;omega
 have Q:=aa w9;clear a w9;go_wp2;go_ret2;exact⟨by first|rfl|(rw[<-Q.out];rfl),i.trans (x.mono i.size)⟩
def OX (h:dP w B p dp K l) (hl:l.length<9000) (D:dO (bq K l)<=16384) (aX:i<16384) :
 Calls prog 29 #[.pointer (some ⟨p,0,none⟩),.int .i64 i] w λe w'=>∃v,e=.returned (.tuple #[v,.bool (decide (i<dO (bq K l)))])/\(i<dO (bq K l)->AA w' v (sW (bq K l) i))/\(¬i<dO (bq K l)->v=.agg #[.int .i64 0,.slice none 0 0])/\Below w.heap.size w w':=by
 have hF:=fD K l;obtain⟨g,rc,iT,aO,Es,hR⟩:=h.read;have s:=hR.le;rw[decide_eq_true D] at s;subst s;obtain⟨R,az⟩:=ae (bq K l);simp only[<-az] at hF hR D⊢;have an:∀k (a:k<R.length),∃la lc M O T U N S z,(∀j<6,w.cell? ⟨g,k*6+j,none⟩=[Value.int .i32 (aL R k).1,.slice la (aL R k).2.length lc,.slice M O T,.slice U N S,.int .i64 z,.int .i64 (dO (R.take k):Nat)][j]?)/\gB w (.agg #[.slice M O T,.slice U N S,.int .i64 z]) (kM (aL R k)):=λk a=>by
  obtain⟨la,lc,M,O,T,U,N,S,z,f,C,_,hW⟩:=hR.at_ a;obtain⟨aY,SX,aT,aR,aS,aQ,aV,aZ,z',f',he,_,aH⟩:=hW;obtain⟨t,hf⟩:=aH D;simp only[Value.agg.injEq,Array.mk.injEq,List.cons.injEq,and_true,Value.int.injEq,true_and,Value.slice.injEq] at he;obtain⟨_,⟨rfl,rfl,rfl⟩,⟨rfl,rfl,rfl⟩,rfl,rfl⟩:=he;subst hf;exact⟨la,lc,M,O,T,U,N,S,z,C,t⟩
 have H:∀k (a:k<R.length),dO (R.take (k+1))=dO (R.take k)+aW (kM (aL R k))/\aW (kM (aL R k))<=16384/\dO (R.take k)<=16384:=λk a=>by
  have h1:=jW a;have h2:=gG R (k+1);rw[<-uV,df a];omega
 have X:∀k (a:k<R.length),(kM (aL R k)).length<9000:=λk a=>by
  rw[eO,df a];have:=(hF.2.2 _ (List.getElem_mem a)).1;omega
 have x:∀k (a:k<R.length),dO (R.take k)<=i->i-dO (R.take k)<aW (kM (aL R k))->sW R i=(k,Cn (kM (aL R k)) (i-dO (R.take k))):=λk a h1 h2=>by
  rw[df a] at h2⊢;exact Wp a h1 (by rw[uV];exact h2)
 have SZ:=aa (λ(W:World) (rv:Value) (k:Nat) (a:k<R.length) (t:gB W rv (kM (aL R k)))=>H6 t (pQ _) (Nat.le_trans (H k a).2.1 (by decide)));have DG:=aa (λ(W:World) (rv:Value) (k:Nat) (a:k<R.length) (t:gB W rv (kM (aL R k))) (n:Nat)=>OU t (pQ _) (Nat.le_trans (H k a).2.1 (by decide)) (by have:=X k a;omega) (n:Int));obtain⟨nr,A⟩:=ae R.length;have:nr<10000:=by rw[A];have:=hF.2.1;omega
 have ad:=hR.is;rw[<-A] at ad;have aF:=aa (show dO (R.take nr)=dO R by rw[A,List.take_length]);have aI:=aa (gG R);have aE:=aa an;have aP:=aa H;have ab:=aa x;have aK:=aa X;have Yq:=aa A;have L:=ah (w:=w) (.cells #[.int .i64 0,.slice none 0 0] 54);have k0:=Is.new w #[.int .i64 0,.slice none 0 0] 54;have:=(ad.mono L).at 1 rfl;have:=(ad.mono L).at 3 rfl;have:w.heap.size+1<=(w.alloc (.cells #[.int .i64 0,.slice none 0 0] 54)).heap.size:=by simp
 clear h hF hR az an H x X A D;go_enter func29,ntmps29;go_wp2_with fail;generalize w.alloc (.cells #[.int .i64 0,.slice none 0 0] 54)=w0 at *;go_loopw [6,7,8,26] (λ_ _ _ kv wr=>∃k:Nat,k<=nr/\kv=.int .i64 k/\dO (R.take k)<=i/\Below w0.heap.size w0 wr) (λ_ _ _ kv _=>nr-(intOf kv).toNat)
 case atStart=>exact⟨0,Nat.zero_le _,rfl,by simp[dO],Below.refl _ _⟩
 case round=>
  obtain⟨k,a,rfl,s,hE⟩:=hrel;by_cases a2:k<nr
  ·have d:k<R.length:=by have:=Yq.out;omega
   have zk:=eG (show k<nr by omega);have J:=af L hE;obtain⟨la,lc,M,O,T,U,N,S,z,C,Z⟩:=aE.out k d;obtain⟨y,ap,aN⟩:=aP.out k d;have Wx:=aa (ab.out k d s);obtain⟨fr,ac⟩:=ae (dO (R.take k));obtain⟨hd,ax⟩:=ae ((aL R k).1);obtain⟨n,hn⟩:=ae ((aL R k).2.length);have aM:=SZ.out;obtain⟨bs,ar⟩:=ae (kM (aL R k));have aG:=aK.out k d;have I:=aa (λ(W:World) (E:Below w.heap.size w W)=>SZ.out W _ k d (Z.mono E));have G:=aa (λ(W:World) (E:Below w.heap.size w W) (q:Nat)=>DG.out W _ k d (Z.mono E) q);rw[<-ac,<-ax,<-hn] at C;rw[<-ac] at s y aN Wx;rw[<-ar] at y ap I G Wx aG;obtain⟨P,hP⟩:=ae (aW bs);rw[<-hP] at y ap I G Wx;have ao:=aa y;have d0:w.cell? ⟨g,k*6,none⟩=some (.int .i32 hd):=C 0 (by decide);have d1:w.cell? ⟨g,k*6+1,none⟩=some (.slice la n lc):=C 1 (by decide);have d2:w.cell? ⟨g,k*6+2,none⟩=some (.slice M O T):=C 2 (by decide);have d3:w.cell? ⟨g,k*6+3,none⟩=some (.slice U N S):=C 3 (by decide);have d4:w.cell? ⟨g,k*6+4,none⟩=some (.int .i64 z):=C 4 (by decide);have d5:w.cell? ⟨g,k*6+5,none⟩=some (.int .i64 fr):=C 5 (by decide);have d0:=aB J d0;have d1:=aB J d1;have d2:=aB J d2;have d3:=aB J d3;have d4:=aB J d4;have d5:=aB J d5;have am:=ah (w:=wr) (.cells #[.int .i32 hd,.slice la n lc,.slice M O T,.slice U N S,.int .i64 z,.int .i64 fr] eX);have k2:=Is.new wr #[.int .i32 hd,.slice la n lc,.slice M O T,.slice U N S,.int .i64 z,.int .i64 fr] eX;have b2:=k2.at 2 rfl;have b3:=k2.at 3 rfl;have b4:=k2.at 4 rfl;have b5:=k2.at 5 rfl;have NV:=af hE am;have av:=af J am;have ag:=aa (I.out _ av);obtain⟨q,hq⟩:=ae (i-fr);rw[<-hq] at Wx;have wq:wrap64 ((i:Int)-(fr:Int))=(q:Int):=by unfold wrap64;omega
   have aJ:(i:Int)-(fr:Int)=(q:Int):=by omega
   have K2:=aa k2;have:q<=i:=by omega
   clear C Z ac ax hn ar hP aM y k2;go_wp2_with fail;rw[<-hq];have HQ:=aa hq;clear hq;refine ag.out.mono ?_;rintro e w4⟨rfl,Y⟩;have lN:=af av Y;have ay:=af NV Y;have k4:=K2.out.mono Y;have:=k4.at 2 rfl;have:=k4.at 3 rfl;have:=k4.at 4 rfl;have aw:=aa (G.out w4 lN q);clear I ag G b2 b3 b4 b5 d0 d1 d2 d3 d4 d5 k4 wq aJ;by_cases aD:q<P
   ·have zq:=eG (show q<P by omega);have x:=Wx.out aD;have ab:=aa x;have Q:=aa (show i<dO R by have h1:=ao.out;have h2:=aI.out (k+1);have:=HQ.out;omega);have V:decide (0<=(q:Int)/\(q:Int)<(P:Int))=true:=decide_eq_true ⟨by omega,by omega⟩;rw[V] at aw;clear x V;go_wp2_with fail;refine aw.out.mono ?_;rintro e w5⟨r,rfl,ai,aq,_⟩;have t:=aq ⟨by omega,by omega⟩;rw[Int.toNat_natCast] at t;obtain⟨ra,F,rfl,_,_⟩:=ak t;obtain⟨nb,au⟩:=ae bs.length;rw[<-au] at t⊢;have aA:=af ay ai;have aC:=af lN ai;have c:=k0.mono aA;have f0:=c.at 0 rfl;have f1:=c.at 1 rfl;have q0:=c.frozen 0;have q1:=c.frozen 1;have v0:=(c.set 0 (.int .i64 (k:Nat))).set 1 (.slice ra nb F);have g0:=v0.at 0 rfl;have g1:=v0.at 1 rfl;have o9:=aa (((bJ.put (o:=0) c (.int .i64 (k:Nat))).trans (bJ.put (o:=1) (c.set 0 (.int .i64 (k:Nat))) (.slice ra nb F))).own t (by decide));have m:=aa (aj (off:=1) (u:=.slice ra nb F) (b:=w.heap.size) (aj (off:=0) (u:=.int .i64 (k:Nat)) (b:=w.heap.size) aC (Nat.le_refl _)) (Nat.le_refl _));clear aq t au c v0;go_wp2_with fail;refine bodyPost_ret (v:=.tuple #[.agg #[.int .i64 (k:Nat),.slice ra nb F],.bool true]) (by simp[results,results29,go_sem,g0,g1]) rfl ⟨_,by rw[decide_eq_true Q.out],λ_=>?_,λh=>absurd Q.out h,m.out⟩;rw[ab.out];refine⟨_,rfl,?_⟩;rw[Z8];exact Sl.aU o9.out
   have zq:=gI (show P<=q by omega);go_wp2_with fail;go_roundw
   case rel=>exact⟨k+1,by omega,by simp,by rw[ao.out];have:=HQ.out;omega,ay⟩
   case measure=>simp[intOf];omega
  obtain rfl:k=nr:=by omega
  have zk:=gI (show k<=k by omega);have al:=aa (show ¬i<dO R by have:=aF.out;omega);have J:=af L hE;have c:=k0.mono hE;have f0:=c.at 0 rfl;have f1:=c.at 1 rfl;have q0:=c.frozen 0;have q1:=c.frozen 1;have v0:=(c.set 0 (.int .i64 0)).set 1 (.slice none 0 0);have g0:=v0.at 0 rfl;have g1:=v0.at 1 rfl;have m:=aa (aj (off:=1) (u:=.slice none 0 0) (b:=w.heap.size) (aj (off:=0) (u:=.int .i64 0) (b:=w.heap.size) J (Nat.le_refl _)) (Nat.le_refl _));clear c v0;go_wp2_with fail;exact bodyPost_ret (v:=.tuple #[.agg #[.int .i64 0,.slice none 0 0],.bool false]) (by simp[results,results29,go_sem,g0,g1]) rfl ⟨_,by rw[decide_eq_false al.out],λh=>absurd h al.out,λ_=>rfl,m.out⟩
abbrev eD:TypeId:=44
abbrev QB:TypeId:=102
structure jX (w:World) (B pp g mp:Nat) (xs:List Nat):Prop where
 is:Is w pp #[.pointer (some ⟨mp,0,none⟩),.slice (some ⟨g,0,none⟩) xs.length xs.length] QB
 row:∃vals:List Value,w.ownsRow B eD 1 (.slice (some ⟨g,0,none⟩) xs.length xs.length) xs.length vals/\∀k (hk:k<xs.length),∃a n c,vals[k]? = some (.slice a n c)/\bT w (.agg #[.slice a n c]) xs[k]
def jX.mono {w':World} {e f:Nat} {i:List Nat} (h:jX w B e g f i) (d:Below w.heap.size w w'):jX w' B e g f i:=by
 obtain⟨p,b,j,l⟩:=h;refine⟨p.mono d,b,aH j d,λk o=>?_⟩;obtain⟨a,n,c,m,q⟩:=l k o;exact⟨a,n,c,m,q.mono d⟩
def jX.at_ {f l:Nat} {d:List Nat} (h:jX w B f g l d) {k:Nat} (o:k<d.length):∃a n c,w.cell? ⟨g,k,none⟩=some (.slice a n c)/\bT w (.agg #[.slice a n c]) d[k]:=by
 obtain⟨r,e,i,j⟩:=h;obtain⟨a,n,c,m,q⟩:=j k o;obtain⟨_,_,b,_,_,_,_,p⟩:=dz i (by omega);injection b with b _ _;cases b;exact⟨a,n,c,p _ _ m,q⟩
def aag {mp PB pp:Nat} (h:dP w B mp dp K l) (hl:l.length<9000) (i:dO (bq K l)<=16384) {q:List Nat} (T:jX w PB pp g mp q) (z:q.length=dO (bq K l)) (Q:AA w v s) (U:eQ (bq K l) s) :
 Calls prog 19 #[.pointer (some ⟨pp,0,none⟩),v] w λe w'=>∃r,e=.returned r/\bT w' r (q.getD (fK (bq K l) s) 0)/\Below w.heap.size w w':=by
 obtain⟨sv,rfl,t⟩:=id Q;obtain⟨P,O,rfl,_,_⟩:=bG.out t.any;obtain⟨m,Z⟩:=ae ((bO (nz s.2)).length);rw[<-Z] at Q t⊢;have c:=dH (w:=w) (.cells #[.int .i64 (s.1:Nat),.slice P m O] 54) (.cells #[.slice none 0 0] eD);have a:=nD U;rw[<-z] at a;obtain⟨J,L,N,j,n⟩:=T.at_ a;have f:q.getD (fK (bq K l) s) 0=q[fK (bq K l) s]:=by rw[List.getD_eq_getElem?_getD,List.getElem?_eq_getElem a];rfl
 rw[f];have M:=aa (λ(W:World) (E:Below w.heap.size w W)=>OW (h.mono E) hl i (Q.mono E) U);obtain⟨x,X⟩:=ae (q[fK (bq K l) s]);obtain⟨ix,I⟩:=ae (fK (bq K l) s);rw[<-X] at n⊢;simp only[<-I] at M j a;obtain⟨nx,y⟩:=ae q.length;have p:=T.is;rw[<-y] at p a;have:nx<=16384:=by rw[y,z];exact i
 obtain⟨k,V⟩:=ae s.1;rw[<-V] at c M⊢;have S:Is _ w.heap.size #[.int .i64 (k:Nat),.slice P m O] 54:=(Is.new w _ _).mono (ah (.cells #[.slice none 0 0] eD));have Y:Is _ (w.heap.size+1) #[.slice none 0 0] eD:=Is.new' (w.alloc (.cells #[.int .i64 (k:Nat),.slice P m O] 54)) _ _ _ (by simp);clear h T t Q Z X I y U V f i z;go_enter func19,ntmps19;go_wp2_with fail;generalize (w.alloc (.cells #[.int .i64 (k:Nat),.slice P m O] 54)).alloc (.cells #[.slice none 0 0] eD)=w0 at *;have G:=c.size;have R:=c.trans ((ag w0).mono G);have D:=aa (M.out w0.drew R);have e0:=S.gd 0 rfl;have e1:=S.gd 1 rfl;have p0:=Gr.cell (ag w0) ((p.mono c).at 0 rfl);refine aC (Array.replicate 11 true) 11 0 mixed ?_;refine ay [0,1,2,3,4] 6 ?_
 iterate 5 (refine aA rfl ?_;go_big_quiet_step (rfl))
 refine az ?_;refine aI 5 ?_;go_wp2_with fail;refine D.out.mono ?_;rintro e w3⟨rfl,A⟩;go_wp2_with fail;refine aF A ?_;refine ay [6,7,8,9,10] 0 ?_
 iterate 5 (refine aA rfl ?_;go_big_quiet_step (rfl))
 refine az ?_;refine aJ [] ?_;refine tail_nil ?_;have C:=(ag w0).trans A;have d:=c.trans (C.mono G);have:=d.size;have F:=Y.mono C;have:=(p.mono d).at 1 rfl;have:=aB d j;have:=F.at 0 rfl;have:=F.frozen 0;have v0:=F.set 0 (.slice J L N);have g0:=v0.at 0 rfl;have hN:=aa (bT.iQ (n.mono d) (bJ.put (o:=0) F (.slice J L N)) (by decide));have H:=aa (aj (off:=0) (u:=.slice J L N) (b:=w.heap.size+1) d (by omega));clear M D e0 e1 p0 F v0 n j S Y;go_wp2_with fail;exact bodyPost_ret (v:=.agg #[.slice J L N]) (by simp[results,results19,go_sem,g0]) rfl ⟨_,rfl,hN.out,H.out⟩
def Tf (R:List bS) (nS:eZ->Nat->Option eZ) (xs:List Nat) (s:eZ) (c:Nat):Nat:=match nS s c with|some s'=>xs.getD (fK R s') 0|none=>0
def aah {R:List bS} {nS:eZ->Nat->Option eZ} {a:List Nat} {P:Nat} (h:∀x∈a,x<=P) (s:eZ) (c:Nat):Tf R nS a s c<=P:=by
 unfold Tf
 split
 ·rename_i d _;rw[List.getD_eq_getElem?_getD];by_cases b:fK R d<a.length
  ·rw[List.getElem?_eq_getElem b];exact h _ (List.getElem_mem b)
  rw[List.getElem?_eq_none (by omega)];exact Nat.zero_le _
 exact Nat.zero_le _
def sF (h:x<=1000000*Go.Cd.B ^ n):(bY Go.Cd.B x).length<=n+1:=by
 rw[cZ bE,Nat.pow_succ'];exact Nat.lt_of_le_of_lt h (Nat.mul_lt_mul_of_pos_right (by unfold Go.Cd.B;decide) (Nat.pow_pos (by unfold Go.Cd.B;decide)))
def l5 (h:x<=Go.Cd.B ^ n):(bY Go.Cd.B x).length<=n+1:=sF (Nat.le_trans h (Nat.le_mul_of_pos_left _ (by decide)))
def Cw {M:Nat} (h:x<=Go.Cd.B ^ c) (a:c<=M):(bY Go.Cd.B x).length<=M+1:=l5 (Nat.le_trans h (Nat.pow_le_pow_right (by unfold Go.Cd.B;decide) a))
def tP:Nat:=16384
def Wy {f:Nat->Nat} {j:Nat} (a:j<l.length):((l.take (j+1)).map f).sum=((l.take j).map f).sum+f l[j]:=by
 rw[List.take_succ_eq_append_getElem a,List.map_append,List.sum_append];simp
def Cx (a:T.length<1000) (e:l.length<400) (b:eQ (bq K l) s) (F:Nat->List Nat):(b_ (pO K F (uY T) (bq K l) s)).length<=802000:=by
 rw[fP];have:=Cr (bq K l) s;have:=((fD K l).2.2 _ (show aL (bq K l) s.1∈bq K l by rw[df b.lt];exact List.getElem_mem _)).1;refine Nat.le_trans (sD (λx=>Nat.le_trans (List.length_filter_le _ _) (Qz a x)) _) ?_;omega
def Tg {MB mp PB pp:Nat} (hD:cK w dp T X) (hV:aY T X) (zT:T.length<1000) (h:dP w MB mp dp (ai T) l) (hl:l.length<400) (bt:∀c∈l,aP c) (a6:dO (bq (ai T) l)<=16384) {xs:List Nat} (hp:jX w PB pp g mp xs) (bm:xs.length=dO (bq (ai T) l)) (aO:∀x∈xs,x<=Go.Cd.B ^ tP) (hi:i<dO (bq (ai T) l)) :
 Calls prog 46 #[.pointer (some ⟨pp,0,none⟩),.int .i64 i] w λe w'=>∃r,e=.returned r/\bT w' r (jk (bq (ai T) l) (λs=>b_ (pO (ai T) (aD T) (uY T) (bq (ai T) l) s)) (fw (ai T) (aD T) (bq (ai T) l)) xs i)/\Below w.heap.size w w':=by
 have aX:=ah (w:=w) (.cells #[.slice none 0 0] eD);have D:=uW hi
 have SA:=aa ((OX (h.mono aX) (by omega) a6 (show i<16384 by omega)).mono (R':=λe w'=>∃v,e=.returned (.tuple #[v,.bool true])/\AA w' v (sW (bq (ai T) l) i)/\Below (w.alloc (.cells #[.slice none 0 0] eD)).heap.size (w.alloc (.cells #[.slice none 0 0] eD)) w') (by
  rintro e w'⟨v,rfl,h1,_,h3⟩
  exact⟨v,by rw[decide_eq_true hi],h1 hi,h3⟩))
 have bo:jk (bq (ai T) l) (λs=>b_ (pO (ai T) (aD T) (uY T) (bq (ai T) l) s)) (fw (ai T) (aD T) (bq (ai T) l)) xs i=if Co (bq (ai T) l) (sW (bq (ai T) l) i)=true then 1 else ((b_ (pO (ai T) (aD T) (uY T) (bq (ai T) l) (sW (bq (ai T) l) i))).map (Tf (bq (ai T) l) (fw (ai T) (aD T) (bq (ai T) l)) xs (sW (bq (ai T) l) i))).sum:=rfl;rw[bo];obtain⟨s,hs⟩:=ae (sW (bq (ai T) l) i);rw[<-hs] at D SA⊢;have OV:=aa (λ(W:World) (E:Below w.heap.size w W) (u:Value) (hu:AA W u s)=>Tc (h.mono E) (by omega) hu D);have OP:=aa (λ(W:World) (E:Below w.heap.size w W) (u:Value) (hu:AA W u s)=>Im (hD.mono E) hV zT (h.mono E) hl bt hu D);have ST:=aa (λ(W:World) (E:Below w.heap.size w W) (u:Value) (hu:AA W u s) (c:Nat) (hc:aP c)=>FZ (hD.mono E) hV zT (h.mono E) (by omega) hu D c hc);have AT:=aa (λ(W:World) (E:Below w.heap.size w W) (u:Value) (A:eZ) (hu:AA W u A) (bX:eQ (bq (ai T) l) A)=>aag (h.mono E) (by omega) a6 (hp.mono E) bm hu bX);have a9:∀(c:Nat) (A:eZ),fw (ai T) (aD T) (bq (ai T) l) s c=some A->eQ (bq (ai T) l) A:=λc A h=>Cq D h;have aV:∀c∈b_ (pO (ai T) (aD T) (uY T) (bq (ai T) l) s),aP c/\∃A,fw (ai T) (aD T) (bq (ai T) l) s c=some A:=λc hc=>by
  rw[xQ] at hc;obtain⟨x,hx,hc⟩:=List.mem_flatMap.1 hc;have h1:=List.mem_filter.1 hc;exact⟨QA hV (Cv (Qy (ai T) bt) s x hx) c h1.1,Option.isSome_iff_exists.1 h1.2⟩
 have bj:=Cx zT hl D (aD T);have aL:=λc=>aah (R:=bq (ai T) l) (nS:=fw (ai T) (aD T) (bq (ai T) l)) aO s c;have a4:∀c A,fw (ai T) (aD T) (bq (ai T) l) s c=some A->Tf (bq (ai T) l) (fw (ai T) (aD T) (bq (ai T) l)) xs s c=xs.getD (fK (bq (ai T) l) A) 0:=λc A h=>by unfold Tf;rw[h]
 obtain⟨O,hO⟩:=ae (b_ (pO (ai T) (aD T) (uY T) (bq (ai T) l) s));obtain⟨ov,bk⟩:=ae (Co (bq (ai T) l) s);obtain⟨f,hf⟩:=ae (Tf (bq (ai T) l) (fw (ai T) (aD T) (bq (ai T) l)) xs s);simp only[<-hO,<-bk,<-hf] at OV OP aV bj aL a4⊢;have bZ:=aa a9;have bV:=aa aV;have Ow:=aa aL;have bW:=aa a4;have:=aa aO;have ap:=hp.is;have k0:=Is.new w #[.slice none 0 0] eD;have bR:=(ap.mono aX).at 0 rfl;obtain⟨bc,U⟩:=ae (if ov=true then 1 else (O.map f).sum);rw[<-U];have rE:=aa U;have:w.heap.size+1<=(w.alloc (.cells #[.slice none 0 0] eD)).heap.size:=by simp
 clear hD h hp bm aO hi D bo hs a9 aV aL a4 hO bk hf U;go_enter func46,ntmps46;go_wp2_with fail;refine SA.out.mono ?_;rintro e w1⟨v1,rfl,aZ,a3⟩;generalize w.alloc (.cells #[.slice none 0 0] eD)=w0 at *;have bU:=af aX a3;have k0:=k0.mono a3;obtain⟨sv,rfl,bf⟩:=id aZ;obtain⟨sa,sc,rfl,_,_⟩:=bG.out bf.any;obtain⟨m,hm⟩:=ae ((bO (nz s.2)).length);obtain⟨k,hk⟩:=ae s.1;rw[<-hm,<-hk] at aZ⊢;have am:=ah (w:=w1) (.cells #[.int .i64 (k:Nat),.slice sa m sc] 54);have Z:=Is.new w1 #[.int .i64 (k:Nat),.slice sa m sc] 54;have P:=af bU am;have:=a3.size;clear SA bf hm hk bR;go_wp2_with fail;obtain⟨w2,aB⟩:=ae (w1.alloc (.cells #[.int .i64 (k:Nat),.slice sa m sc] 54));rw[<-aB] at am Z P⊢;have:w1.heap.size+1<=w2.heap.size:=by rw[aB];simp
 clear aB;have bg:=aZ.mono am;have k0:=k0.mono am;have bp:=P.size;have aE:=P.trans ((ag w2).mono bp);have bb:=aa (OV.out w2.drew aE _ (bg.mono (ag w2)));have p0:=Gr.cell (ag w2) ((ap.mono P).at 0 rfl);have e0:=Z.gd 0 rfl;have e1:=Z.gd 1 rfl;refine aC (Array.replicate 6 true) 6 0 mixed ?_;refine ay [0,1,2,3,4] 1 ?_
 iterate 5 (refine aA rfl ?_;go_big_quiet_step (rfl))
 refine az ?_;refine aI 5 ?_;go_wp2_with fail;refine bb.out.mono ?_;rintro e C⟨rfl,bs⟩;go_wp2_with fail;refine aF bs ?_;refine aJ [] ?_;refine tail_nil ?_;have M:=(ag w2).trans bs;have V:=P.trans (M.mono bp);have k0:=k0.mono M;have Z:=Z.mono M;have bx:=bg.mono M;have au:=V.size;have:=M.size;clear OV bb p0 e0 e1;cases ov with
 | true=>
   have J:bc=1:=rE.out;have a5:=aa J;clear J;go_wp2_with fail;refine(uf 1 (by decide) C).mono ?_;rintro e w4⟨r4,rfl,ac,p⟩;obtain⟨ua,un,uc,rfl,ac⟩:=ac.out;have K:=k0.mono p;have f0:=K.at 0 rfl;have q0:=K.frozen 0;have v0:=K.set 0 (.slice ua un uc);have g0:=v0.at 0 rfl;have G:=V.trans (p.mono au);have hN:=aa (bT.iQ ac (bJ.put (o:=0) K (.slice ua un uc)) (by decide));have H:=aa (aj (off:=0) (u:=.slice ua un uc) (b:=w.heap.size) G (Nat.le_refl _));clear K v0 ac;go_wp2_with fail;refine bodyPost_ret (v:=.agg #[.slice ua un uc]) (by simp[results,results46,go_sem,g0]) rfl ⟨_,rfl,?_,H.out⟩;rw[a5.out];exact hN.out
 | false=>
   have J:bc=(O.map f).sum:=by rw[rE.out];exact if_neg (by simp)
   have a5:=aa J;clear J;have p:=ah (w:=C) (.cells #[.slice none 0 0] eD);have kA:=Is.new C #[.slice none 0 0] eD;have G:=V.trans (p.mono au);have bQ:=Z;have bD:=bx;have Z:=Z.mono p;have bN:=bx.mono p;have aU:bT (C.alloc (.cells #[.slice none 0 0] eD)) (.agg #[.slice none 0 0]) 0:=⟨_,rfl,by rw[di];exact .nil _ _ _ _ (λ_=>rfl)⟩;have:C.heap.size+1<=(C.alloc (.cells #[.slice none 0 0] eD)).heap.size:=by simp
   go_wp2_with fail;generalize C.alloc (.cells #[.slice none 0 0] eD)=w4 at *;have bv:=G.size;have aE:=G.trans ((ag w4).mono bv);have ba:=aa (OP.out w4.drew aE _ (bN.mono (ag w4)));have p0:=Gr.cell (ag w4) ((ap.mono G).at 0 rfl);have e0:=Z.gd 0 rfl;have e1:=Z.gd 1 rfl;refine aC (Array.replicate 8 true) 8 0 mixed ?_;refine ay [0,1,2,3,4,7] 2 ?_
   iterate 6 (refine aA rfl ?_;go_big_quiet_step (rfl))
   refine az ?_;refine aI 5 ?_;go_wp2_with fail;refine ba.out.mono ?_;rintro e w5⟨ro,rfl,oO,a8⟩;obtain⟨n,hn⟩:=ae O.length;rw[<-hn] at oO bj;have HN:=aa hn;clear hn;obtain⟨a1,c1,rfl,_,_⟩:=ak oO;go_wp2_with fail;refine aF a8 ?_;refine ay [6] 0 ?_
   iterate 1 (refine aA rfl ?_;go_big_quiet_step (rfl))
   refine az ?_;refine aJ [] ?_;refine tail_nil ?_;have ab:=(ag w4).trans a8;have:=G.trans (ab.mono bv);have bi:=af p ab;have kA:=kA.mono ab;have aU:=aU.mono ab;have:Below C.heap.size C w5:=bi;have oO:=aT oO (show C.heap.size<=w4.drew.heap.size from p.size);have OO:=aa oO;clear OP ba p0 e0 e1 oO;go_wp2_with fail;go_loopw [9,10,11,35] (λ_ _ _ jv wr=>∃j:Nat,j<=n/\jv=.int .i64 j/\(∃a q c,Is wr C.heap.size #[.slice a q c] eD/\bT wr (.agg #[.slice a q c]) ((O.take j).map f).sum)/\wr.ownsRow C.heap.size aN 1 (.slice a1 n c1) n (aM O)/\Below C.heap.size C wr) (λ_ _ _ jv _=>n-(intOf jv).toNat)
   case atStart=>exact⟨0,Nat.zero_le _,rfl,⟨_,_,_,kA,aU⟩,OO.out,bi⟩
   case round=>
    obtain⟨j,hj,rfl,⟨qa,qn,qc,jA,Ti⟩,L,hE⟩:=hrel;have ji:=V.trans (hE.mono au);have Je:=ji.size;have bA:=hE.size;by_cases cb:j<n
    ·have zj:=eG (show j<n by omega);obtain⟨rb,Vd,he,_,_,_,_,F⟩:=dz L (show 0<n by omega);injection he with bB _ bS;subst bB bS;have ad:j<O.length:=by have:=HN.out;omega
     have cy:=F j (.int .i32 (O[j]:Nat)) (by rw[List.getElem?_eq_getElem (by rw[bF];exact ad),dR _ _ ad]);obtain⟨bd,A,an⟩:=bV.out _ (List.getElem_mem ad);have z:=Wy (f:=f) ad;have aW:((O.take j).map f).sum<=1000000*Go.Cd.B ^ tP:=by
      refine Nat.le_trans (Ij f (Go.Cd.B ^ tP) (O.take j) λc _=>Ow.out c) (Nat.mul_le_mul_right _ ?_);rw[List.length_take];omega
     have av:=bW.out _ _ an;have ar:f O[j]<=Go.Cd.B ^ tP:=Ow.out _;obtain⟨y,hy⟩:=ae (O[j]);rw[<-hy] at cy bd an z av ar;obtain⟨S,hS⟩:=ae (((O.take j).map f).sum);rw[<-hS] at Ti z aW;obtain⟨t,ht⟩:=ae (f y);rw[<-ht] at z av ar;have:(bY Go.Cd.B S).length<=16385:=sF (n:=tP) aW;have:(bY Go.Cd.B t).length<=16385:=l5 (n:=tP) ar;have u_:=aa z;have aS:=bQ.mono hE;have bz:=bD.mono hE;clear F hy hS ht z aW ar;go_wp2_with fail;have e0:=aS.gd 0 rfl;have e1:=aS.gd 1 rfl;have p0:=Gr.cell (ag wr) ((ap.mono ji).at 0 rfl);refine La #[true,true,true,true,true,true,true,true,false,false,false,false,false] [10] [8,9] (λ_ v W=>∃k,v=.pointer (some ⟨k,0,none⟩)/\W.heap[k]? = some (.cells #[.int .i64 0,.slice none 0 0] 54)) rq 8 4 mixed (by rfl) (by kernel_rfl) (λ_ _ _ _ hb h=>wV hb h) ?_ ?_
     ·intro i hi o ho;simp only[List.mem_cons,List.not_mem_nil,or_false] at hi;subst hi;cases ho;exact wU rfl rfl (λW=>by go_simp)
     refine oC [0,1,2,3,4,5] 2 ?_
     iterate 6 (refine aA rfl ?_;go_big_quiet_step (rfl))
     refine az ?_;refine pI 6 ?_;intro wa RJ;have N:=(ag wr).trans RJ;have aQ:=ji.trans (N.mono Je);have bP:=aQ.size;go_wp2_with fail;refine(ST.out wa aQ _ (bz.mono N) y bd).mono ?_;rintro e wc⟨br,ao⟩;rw[an] at br;obtain⟨v2,rfl,al⟩:=br;obtain⟨b6,rfl,Tj⟩:=id al;obtain⟨a2,c2,rfl,_,_⟩:=bG.out Tj.any;obtain⟨m2,bw⟩:=ae ((bO (nz A.2)).length);obtain⟨kk,bn⟩:=ae A.1;rw[<-bw,<-bn] at al⊢;clear Tj bw bn;go_wp2_with fail;refine aF ao ?_;refine oC [7] 0 ?_;refine aA rfl ?_;go_big_quiet_step (rfl);refine az ?_;refine rf [8,9,11,12] ?_;intro W Wb us hR hD;obtain⟨⟨Y,hv,hh⟩,aq,aR⟩:=hR 10 (by simp);rw[hv] at aq aR;simp only[rq] at aq aR;rw[ru (d:=some 10) rfl,hv];have:wr.heap.size<=Y:=aq;have Q:Below wr.heap.size wr W:=N.trans ((ao.trans (Wb.mono ao.size)).mono N.size);have iY:Is W Y #[.int .i64 0,.slice none 0 0] 54:=⟨hh⟩;have a0:=iY.at 0 rfl;have bK:=iY.at 1 rfl;have b0:=iY.frozen 0;have b1:=iY.frozen 1;have ch:=(bJ.put (o:=0) iY (.int .i64 (kk:Nat))).trans (bJ.put (o:=1) (iY.set 0 (.int .i64 (kk:Nat))) (.slice a2 m2 c2));have I:=aa ((iY.set 0 (.int .i64 (kk:Nat))).set 1 (.slice a2 m2 c2));have be:=aa (Qu.OC (al.mono Wb) ch (by decide));have bl:=aa (ch.is (jA.mono Q) (by decide));have bC:=aa (bT.iQ (Ti.mono Q) ch (by decide));have bH:=aa (ch.own (aH L Q) (by decide));have:C.heap.size<wr.heap.size:=jA.lt;have bu:=aa (aj (off:=1) (u:=.slice a2 m2 c2) (b:=Y) (aj (off:=0) (u:=.int .i64 (kk:Nat)) (b:=Y) (hE.trans (Q.mono bA)) (by omega)) (by omega));clear iY ch hR hD e0 e1 p0 hv hh aq aR RJ N aQ bP ao Wb al Q Ti L aS bz cy;refine uO (os:=[_,_,_,_]) rfl ?_;go_wp2_with fail;refine uP ?_;clear a0 bK b0 b1;generalize (W.setCell ⟨Y,0,none⟩ (.int .i64 (kk:Nat))).setCell ⟨Y,1,none⟩ (.slice a2 m2 c2)=w6 at *;have I:=I.out;have aK:=bl.out;have ax:=bu.out;have a_:=V.trans (ax.mono au);have bL:=a_.size;have a7:=aa (AT.out w6.drew (a_.trans ((ag w6).mono bL)) _ A (be.out.mono (ag w6)) (bZ.out y A an));rw[<-av] at a7;have e0:=aK.gd 0 rfl;have e1:=I.gd 0 rfl;have e2:=I.gd 1 rfl;clear be bl bu;go_wp2_with fail;refine aC #[true,true,true,true,true,false] 5 1 mixed ?_;refine ay [0,1,2] 2 ?_
     iterate 3 (refine aA rfl ?_;go_big_quiet_step (rfl))
     refine az ?_;refine aI 3 ?_;go_wp2_with fail;refine a7.out.mono ?_;rintro e w7⟨r7,rfl,OZ,jh⟩;have bh:=(ag w6).trans jh;go_wp2_with fail;refine aF jh ?_;refine aI 4 ?_;go_wp2_with fail;refine(Oo (bC.out.mono bh) OZ (by omega) (by omega)).mono ?_;rintro e w8⟨r8,rfl,O4,iH⟩;obtain⟨ua,un,uc,rfl,O4⟩:=O4.out;have aw:=af bh iH;go_wp2_with fail;refine aF iH ?_;have Wz:=aK.mono aw;have f0:=Wz.at 0 rfl;have q0:=Wz.frozen 0;have b2:=ax.size;have bE:=aa (Wz.set 0 (.slice ua un uc));have ch:=bJ.put (o:=0) Wz (.slice ua un uc);have bI:=aa (bT.iQ O4 ch (by decide));have bM:=aa (ch.own (aH bH.out aw) (by decide));have yf:=aa (aj (off:=0) (u:=.slice ua un uc) (b:=C.heap.size) (ax.trans (aw.mono b2)) (Nat.le_refl _));clear ch Wz O4 OZ aK I e0 e1 e2 jh iH;refine aJ [5] ?_;refine tail_cons rfl ?_;go_wp2_with fail;refine tail_nil ?_;go_wp2_with fail;go_roundw
     case rel=>exact⟨j+1,by omega,by simp,⟨_,_,_,bE.out,by rw[u_.out];exact bI.out⟩,bM.out,yf.out⟩
     case measure=>simp[intOf];omega
    have zj:=gI (show n<=j by omega);obtain rfl:j=n:=by omega
    have ht:O.take j=O:=List.take_of_length_le (by rw[<-HN.out];exact Nat.le_refl _);rw[ht,<-a5.out] at Ti;have:=jA.at 0 rfl;have K:=k0.mono hE;have f0:=K.at 0 rfl;have q0:=K.frozen 0;have v0:=K.set 0 (.slice qa qn qc);have g0:=v0.at 0 rfl;have hN:=aa (bT.iQ Ti (bJ.put (o:=0) K (.slice qa qn qc)) (by decide));have H:=aa (aj (off:=0) (u:=.slice qa qn qc) (b:=w.heap.size) ji (Nat.le_refl _));clear K v0 Ti ht;go_wp2_with fail;exact bodyPost_ret (v:=.agg #[.slice qa qn qc]) (by simp[results,results46,go_sem,g0]) rfl ⟨_,rfl,hN.out,H.out⟩
end Go.Proofs.YtmnimbnojdndmaaGreatDoor
namespace Go.Cd
section
open Go.RowKit
section
variable {l n : Nat} {P : Program} {ops : Array Oper} {Q : Exit -> Act -> World -> Prop} {md : Region.Mode}
def aaj {o:Oper} {a:Act} {K:Act->World->Prop} {r:Result Next} (h:o.upon P a K Q r):o.uponIn (Fence.wide.inRound l) n P a K Q r:=by
 have hd:(Fence.wide.inRound l).depth.isSome=true->1<=n:=λh=>by cases h
 cases r with
 | ok x w'=>
   cases x with
   | value v=>exact h
   | skip=>exact h
   | defer d=>exact h
   | enter f args=>exact⟨hd,(callsIn_wide (n:=n-1)).2 h⟩
   | row row args=>exact⟨hd,λc i _=>by
      obtain⟨v,b,g,e⟩:=h c i
      exact⟨v,b,g,stepsIn_wide.2 e⟩⟩
   | _=>exact absurd h (by simp[Oper.upon])
 | halt x w'=>cases x <;> exact h
def aak {i:Nat} {K:Act->World->Prop} {a:Act} {w:World} (hd:∀(i:Nat) (o:Oper),ops[i]? = some o->∀c,o.op≠.defer c) (e:¬LetsOut Q) (h:wpOp P ops Q i K a w):wpOpIn (Fence.wide.inRound l) n P ops Q i K a w:=by
 unfold wpOp at h;unfold wpOpIn;cases b:ops[i]? with
 | none=>rw[b] at h;exact h
 | some o=>
   rw[b] at h;simp only at h⊢;by_cases d:Region.wanted o (yielded ops a.tmps)=true
   ·rw[if_pos d] at h⊢;rcases h with h|h
    ·refine⟨λ_ _=>trivial,?_⟩;have:Oper.semAt (Fence.wide.inRound l).round a.eval o=execOp a.eval o:=Oper.semAt_some l _ _ (hd i o b);rw[this];exact aaj h
    exact absurd h.2 e
   rw[if_neg d] at h⊢;exact⟨λ_ _=>trivial,h⟩
def LG (hd:∀(i:Nat) (o:Oper),ops[i]? = some o->∀c,o.op≠.defer c) (e:¬LetsOut Q):∀(d:Nat) (b:Array Bool) (a:Act) (w:World),wpAny P md ops Q d b a w->wpAnyIn (Fence.wide.inRound l) n P md ops Q d b a w
 | 0,_,_,_,h=>h
 | d+1,b,a,w,h=>⟨h.1,λi f=>wpOpIn_mono (λa w=>LG hd e d _ a w) (aak hd e (h.2 i f))⟩
end
def abM:Op->Bool
 | .defer _=>false
 | _=>true
def Tk {os:List Oper} (h:os.all (λo=>abM o.op)=true) (i:Nat) (o:Oper) (a:os.toArray[i]? = some o) (c:Call):o.op≠.defer c:=λe=>by
 have b:o∈os:=by
  rw[List.getElem?_toArray] at a;exact List.mem_of_getElem? a
 have:=List.all_eq_true.1 h o b;rw[e] at this;cases this
def D_ {l n:Nat} {P:Program} {d:Nat} {Q:Exit->Act->World->Prop} {a:Act} {w:World} {os:List Oper} (head:Array Bool) (k t:Nat) (c:P.follows .mixedOrders=true) (e:k+t=os.length)
 (hd:os.all (λo=>abM o.op)=true) (b:¬LetsOut Q)
 (h:QX P .any os.toArray head Q (λl' a w=>wpAny P .any os.toArray Q t l' a w) k (Array.replicate os.length false) a w.drew):(Code.region d os.toArray true).wpIn (Fence.wide.inRound l) n P Q a w:=by
 refine wpIn_region_any c ?_;refine LG (Tk hd) b _ _ _ _ ?_;have:=AR k _ _ _ h;rw[e] at this;simpa using this
def KeepsOthers.of_below {A B:World} (h:Below A.heap.size A B):KeepsOthers A B:=⟨h.size,λk _ a _=>(h.block k (Array.getElem?_eq_some_iff.1 a).1).trans a⟩
end
end Go.Cd
namespace Go.Proofs.YtmnimbnojdndmaaGreatDoor
section
open Go.RowKit Go.Cd Go.Shelf _root_.Go.Proofs.Tryz
attribute [local go_sem] Oper.semAt_some
structure ui (Bs b n:Nat) (A B:World):Prop where
 box:B.cell? ⟨Bs,0,none⟩=A.cell? ⟨Bs,0,none⟩
 row:∀j,j<n->(∃a m c,A.cell? ⟨b,j,none⟩=some (.slice a m c))->∃a m c,B.cell? ⟨b,j,none⟩=some (.slice a m c)
def ui.refl (Bs b n:Nat) (A:World):ui Bs b n A A:=⟨rfl,λ_ _ h=>h⟩
def ui.trans {Bs b n:Nat} {A B C:World} (h:ui Bs b n A B) (k:ui Bs b n B C):ui Bs b n A C:=⟨k.box.trans h.box,λj a c=>k.row j a (h.row j a c)⟩
abbrev BN (n:Nat):Type:={ x:Nat×Value // x.1<n }
def adi (F:Fence) (m:Nat) (O:F.fn 84) (y:F.round=none) (U:1<=m) (l Bs b n cap:Nat) (D:n<1099511627776) (J B:List (BN n)->World->Prop)
 (E:∀d x W,J d W->d.length<n->YieldAt F (m-1) prog l #[.int .i64 (x.1.1:Nat),x.1.2] W λe o=>
   (e=.returned (.bool true)/\J (d++[x]) o/\ui Bs b n W o)\/(e=.returned (.bool false)/\B (d++[x]) o))
 (W:World) (P:W.cell? ⟨Bs,0,none⟩=some (.slice (some ⟨b,0,none⟩) n cap)) (N:∀j,j<n->∃a m c,W.cell? ⟨b,j,none⟩=some (.slice a m c)) (h0:J [] W) :
 CallsIn F m prog 84 #[.func (.yield l) #[] #[],.pointer (some ⟨Bs,0,none⟩)] W λe o=>(∃v,e=.returned v)/\
  ((∃A:List (BN n),A.map (λx=>x.1.1)=mE id n n/\J A o)\/(∃d:List (BN n),True/\B d o)):=by
 refine callsIn_of_wp func84 rfl O ?_ y;simp only[ntmps84,List.size_toArray,List.length_cons,List.length_nil,Nat.reduceAdd,Nat.reduceSub,Array.replicate_succ,Array.replicate_zero,List.push_toArray,List.append_toArray,List.nil_append,List.cons_append]
 gi_wp2
 gi_loopw [3] (λi wr=>∃(k:Nat) (d:List (BN n)),k<=n/\i=.int .i64 ((n:Int)-1-(k:Int))/\d.map (λx=>x.1.1)=mE id n k/\J d wr/\ui Bs b n W wr)
  (λi _=>(intOf i+1).toNat)
 case atStart=>exact⟨0,[],Nat.zero_le _,by simp,by simp[mE],h0,ui.refl _ _ _ _⟩
 case round=>
  obtain⟨k,d,T,rfl,f,t,g⟩:=hrel;have z:=g.box.trans P;have R:d.length=k:=by have:=congrArg List.length f;simpa [zu] using this
  by_cases S:k<n
  ·obtain⟨i,C⟩:∃i:Nat,(n:Int)-1-(k:Int)=(i:Int):=⟨n-1-k,by omega⟩;have h:i<n:=by omega
   have p:n-1-k=i:=by omega
   obtain⟨G,H,I,M⟩:=g.row i h (N i h);obtain⟨V,tmps,assign,body,X,Q⟩:=E _ (⟨(i,.agg #[.slice G H I]),h⟩:BN n) wr t (by omega);have w:=aa f;have q:=aa p;rw[C];clear C f p
   gi_wp2
   refine Q.mono ?_;rintro e Y (⟨rfl,u,s⟩|⟨rfl,r⟩)
   ·have K:=s.box.trans z
    gi_wp2
    go_roundw
    case rel=>exact⟨k+1,_,by omega,congrArg (Value.int .i64) (by have:=q.out;omega),by rw[kW,q.out,List.map_append,w.out];rfl,u,g.trans s⟩
    case measure=>simp[intOf]
   gi_wp2
   refine bodyPost_ret (results_none rfl _ _ _) rfl ?_;exact⟨⟨_,rfl⟩,.inr ⟨_,trivial,r⟩⟩
  obtain rfl:k=n:=by omega
  have L:(k:Int)-1-(k:Int)=-1:=by omega
  rw[L]
  gi_wp2
  go_end0
  exact⟨⟨_,rfl⟩,.inl ⟨_,f,t⟩⟩
def Io (v:Value) (w:World) (b:∃a n cap,v=.slice a n cap) :
 Calls prog 45 #[v] w λe w'=>e=.returned (.func (.func 84) #[] #[.pointer (some ⟨w.heap.size,0,none⟩)])/\w'=w.alloc (.cells #[v] 100):=by
 obtain⟨a,n,cap,rfl⟩:=b;go_enter func45,ntmps45;go_wp2;go_ret;exact⟨rfl,rfl⟩
def LH (F:Fence) (m:Nat) (i:F.fn 84) (f:F.round=none) (k:1<=m) (Bs b n cap:Nat) (e:n<1099511627776) (w:World) (u:Bs<w.heap.size) (t:b<w.heap.size)
 (d:w.cell? ⟨Bs,0,none⟩=some (.slice (some ⟨b,0,none⟩) n cap)) (v:∀j,j<n->∃a m c,w.cell? ⟨b,j,none⟩=some (.slice a m c)) :
 SeqStopsK F m prog 84 #[.pointer (some ⟨Bs,0,none⟩)] (λx:BN n=>#[.int .i64 (x.1.1:Nat),x.1.2]) (ui Bs b n) (λq=>q.map (λx=>x.1.1)=mE id n n) (λ_=>True) n w:=λl J r W g _ _ s h0=>
 adi F m i f k l Bs b n cap e J r s W ((g.cell (p:=⟨Bs,0,none⟩) u).trans d) (λj o=>by
  obtain⟨a,m,c,h⟩:=v j o
  exact⟨a,m,c,(g.cell (p:=⟨b,j,none⟩) t).trans h⟩) h0
end
end Go.Proofs.YtmnimbnojdndmaaGreatDoor
