/- State by state it is added up what is possible; no condition. -/
import Derived.Test.YtmnimbnojdndmaaGreatDoorS21
set_option maxRecDepth 100000
set_option maxHeartbeats 6400000
set_option linter.all false
namespace Go.Proofs.YtmnimbnojdndmaaGreatDoor
open Go.RowKit Go.Cd _root_.Go.Proofs.Tryz
variable {c:Nat} {l:List Nat} {T:List aG} {G:Nat->List Nat}
def aab (rs:List bS):Prop:=∀r∈rs,aP r.1/\∀x∈r.2,∀y∈x.2,aP y
def Ww {n:Nat} {Ls:List (Nat×List Nat)} (e:aP c) (h:∀x∈Ls,∀y∈x.2,aP y):∀x∈sQ n c Ls,∀y∈x.2,aP y:=by
 unfold sQ
 split
 ·rename_i m l d
  have f:(m,l)∈Ls:=List.mem_of_getLast? d
  split
  ·intro x a y b
   rcases ie.1 a with a|a
   ·exact h x (tI _ a) y b
   rw[gE.1 a] at b
   rcases ie.1 b with b|b
   ·exact h _ f y b
   rw[gE.1 b];exact e
  intro x a y b
  rcases ie.1 a with a|a
  ·exact h x a y b
  rw[gE.1 a] at b
  rw[gE.1 b];exact e
 intro x a y b
 rcases ie.1 a with a|a
 ·exact h x a y b
 rw[gE.1 a] at b
 rw[gE.1 b];exact e
def uZ:aP 0:=by decide
def Qy (K:Nat->Nat) (g:∀c∈l,aP c):aab (bq K l):=by
 have key:∀(l:List Nat) (d:List bS),(∀c∈l,aP c)->aab d->aab (l.foldl (BU K) d):=λl=>by
  induction l with
  | nil=>intro d _ h;exact h
  | cons c l ih=>
    intro d f h
    refine ih _ (λy i=>f y (.tail _ i)) ?_
    have h0:=f c (.head _)
    unfold BU
    split
    ·intro r a
     rcases ie.1 a with a|a
     ·exact h r a
     rw[gE.1 a]
     exact⟨h0,by simp⟩
    have b:aP (d.getLastD (0,[])).1/\∀x∈(d.getLastD (0,[])).2,∀y∈x.2,aP y:=by
     rcases oR d with e|⟨q,z,e⟩
     ·subst e
      exact⟨uZ,by simp⟩
     have e:d=q++[z]:=by simpa using e
     rw[e,tE]
     exact h z (by rw[e];simp)
    intro r a
    rcases ie.1 a with a|a
    ·exact h r (tI _ a)
    rw[gE.1 a]
    exact⟨b.1,Ww h0 b.2⟩
 refine key l _ g λr a=>?_
 rw[gE.1 a]
 exact⟨uZ,by simp⟩
def Cv {R:List bS} (h:aab R) (s:eZ):∀x∈ko R s,aP x:=by
 have b:∀k,aP (aL R k).1/\∀x∈(aL R k).2,∀y∈x.2,aP y:=λk=>by
  unfold aL
  rw[ir]
  by_cases j:k<R.length
  ·rw[gx j]
   exact h _ (gw j)
  rw[pA (by omega)]
  exact⟨uZ,by simp⟩
 have f:∀(ms:List Nat) (L:List (Nat×List Nat)) (n:Nat),(∀x∈L,∀y∈x.2,aP y)->∀x∈au ms L n,aP x:=λms L n l x c=>by
  obtain⟨i,_,d⟩:=lP.1 c
  unfold lZ at d
  split at d
  ·rename_i a
   rw[gE.1 d]
   by_cases g:i<L.length
   ·have e:L.getD i (0,[])=L[i]:=by rw[ir,gx g];rfl
    rw[e] at a⊢
    rw[ir,gx a]
    exact l _ (gw g) _ (gw a)
   have e:L.getD i (0,[])=(0,[]):=by rw[ir,pA (by omega)];rfl
   rw[e] at a
   exact absurd a (by simp)
  cases d
 intro x c
 unfold ko at c
 split at c
 ·split at c
  ·rw[gE.1 c];exact(b _).1
  cases c
 exact f _ _ _ (b _).2 x c
def aac (h:T.length<1000) (c:Nat):(bgU T c).length<=2000:=by
 have:=zU c
 have:(((mapped T).map (·.code)).filter λx=>(aD T x).head? == some c).length<=T.length:=by
  refine ia (lr _ _) ?_
  rw[iz]
  exact lr _ _
 unfold bgU
 rw[gn,gn]
 split
 ·simp;omega
 simp;omega
def Qz (h:T.length<1000) (c:Nat):(uY T c).length<=2000:=by unfold uY;rw[fP];exact aac h c
def LF {x:Nat} (h:x∈gK c) (d:aP c):aP x:=by
 unfold gK at h
 split at h
 ·rename_i a
  have:=UM.1 a
  obtain⟨i,b,rfl⟩:=j8.1 h
  have:=nf.1 b
  unfold aP
  omega
 cases h
def QA {X:List Nat} (d:aY T X) (b:aP c):∀x∈uY T c,aP x:=by
 intro x a
 rw[uY,xQ] at a
 unfold bgU at a
 rcases ie.1 a with a|a
 ·rcases ie.1 a with a|a
  ·obtain⟨r,e,rfl⟩:=j8.1 (i_.1 a).1
   exact(d.fine r (i_.1 e).1).1
  exact LF a b
 split at a
 ·rw[gE.1 a];exact b
 cases a
def FY.form {e:Ending} {w:World} {o:Option eZ} (h:FY e w o):∃k a m c,e=.returned (.tuple #[.agg #[.int .i64 k,.slice a m c],.bool o.isSome]):=by
 cases o with
 | none=>exact⟨_,_,_,_,h⟩
 | some s=>
   obtain⟨v,rfl,d,rfl,b⟩:=h
   obtain⟨a,c,rfl,_,_⟩:=bG.out b.any
   exact⟨_,_,_,_,rfl⟩
def OQ {i:Nat} (a:i<l.length):(l.take (i+1)).flatMap G=(l.take i).flatMap G++G l[i]:=by
 rw[gR a,j7];simp
def sD {b:Nat} (a:∀x,(G x).length<=b):∀l:List Nat,(l.flatMap G).length<=l.length*b
 | []=>by simp
 | x::l=>by
   have:=sD a l
   have:=a x
   rw[jx,gn,im,Nat.succ_mul];omega
def Te {q:Nat->Bool} {j:Nat} (a:j<l.length):(l.take (j+1)).filter q=(l.take j).filter q++if q l[j]=true then [l[j]] else []:=by
 rw[gR a,n7]
 congr 1
 cases h:q l[j] <;> simp[h]
def Im {w:World} {B p dp:Nat} {X:List Nat} (hD:cK w dp T X) (hV:aY T X) (zT:T.length<1000) (h:dP w B p dp (ai T) l) (hl:l.length<400) (bj:∀c∈l,aP c) {v:Value} {s:eZ} (hs:AA w v s) (ho:eQ (bq (ai T) l) s) :
 Calls prog 30 #[.pointer (some ⟨p,0,none⟩),v] w λe w'=>∃r,e=.returned r/\w'.ownsRow w.heap.size aN 1 r (b_ (pO (ai T) (aD T) (uY T) (bq (ai T) l) s)).length (aM (b_ (pO (ai T) (aD T) (uY T) (bq (ai T) l) s)))/\Below w.heap.size w w':=by
 obtain⟨g,rc,iT,a7,Es,hR⟩:=h.read
 obtain⟨sv,rfl,ar⟩:=id hs
 obtain⟨sa,sc,rfl,_,_⟩:=bG.out ar.any
 obtain⟨m,hm⟩:=ae ((bO (nz s.2)).length)
 rw[<-hm] at hs ar⊢
 have O:=ah (w:=w) (.cells #[.int .i64 (s.1:Nat),.slice sa m sc] 54)
 have Z:=Cv (Qy (ai T) bj) s
 have aA:=Cr (bq (ai T) l) s
 have V:=(fD (ai T) l).2.2 _ (show aL (bq (ai T) l) s.1∈bq (ai T) l by rw[df ho.lt];exact gw _)
 have FI:=aa (OJ (h.mono O) (by omega) (hs.mono O) ho)
 have BG:=aa (λ(W:World) (E:Below w.heap.size w W) (c:Nat) (U:aP c)=>Il (hD.mono E) hV zT c U)
 have ST:=aa (λ(W:World) (E:Below w.heap.size w W) (c:Nat) (U:aP c)=>FZ (hD.mono E) hV zT (h.mono E) (by omega) (hs.mono E) ho c U)
 have aq:=λ(c:Nat) (U:aP c)=>QA hV U
 have N:=λc=>Qz zT c
 have hO:pO (ai T) (aD T) (uY T) (bq (ai T) l) s=(ko (bq (ai T) l) s).flatMap λx=>(uY T x).filter λc=>(fw (ai T) (aD T) (bq (ai T) l) s c).isSome:=rfl
 rw[hO]
 obtain⟨F,hF⟩:=ae (ko (bq (ai T) l) s)
 obtain⟨q,hq⟩:∃q:Nat->Bool,q=λc=>(fw (ai T) (aD T) (bq (ai T) l) s c).isSome:=⟨_,rfl⟩
 obtain⟨A,ad⟩:=ae (uY T)
 rw[<-hF] at Z aA FI
 rw[<-hF,<-hq,<-ad]
 rw[<-ad] at aq N BG
 have aE:∀(W:World) (E:Below w.heap.size w W) (c:Nat) (U:aP c),Calls prog 31 #[.pointer (some ⟨p,0,none⟩),.agg #[.int .i64 (s.1:Nat),.slice sa m sc],.int .i32 c] W λe w'=>(∃k a m c',e=.returned (.tuple #[.agg #[.int .i64 k,.slice a m c'],.bool (q c)]))/\Below W.heap.size W w':=λW E c U=>(ST.out W E c U).mono λe w' ⟨h1,h2⟩=>⟨by rw[hq];exact h1.form,h2⟩
 have aV:=aa aE
 have bd:=aa aq
 have a9:=aa Z
 have bg:=hR.is
 have ax:F.length<=401:=by have:=V.1;omega
 obtain⟨G,hG⟩:∃G:Nat->List Nat,G=λx=>(A x).filter q:=⟨_,rfl⟩
 have Qq:∀x,(G x).length<=2000:=λx=>by rw[hG];exact ia (lr _ _) (N x)
 have HG:=aa hG
 have aR:=aa Qq
 have a8:=aa N
 rw[<-hG]
 obtain⟨k,K⟩:=ae s.1
 rw[<-K] at O FI aV⊢
 clear h hR ar hs hm hF hq ad hO ST aE Z aA aq N V hG Qq hD ho K
 go_enter func30,ntmps30
 go_wp2_with fail
 refine FI.out.mono ?_
 rintro e L⟨r1,rfl,o1,a3⟩
 have I:=af O a3
 have J:=I.size
 have k0:Is L w.heap.size #[.int .i64 (k:Nat),.slice sa m sc] 54:=(Is.new w _ _).mono a3
 obtain⟨n,hn⟩:=ae F.length
 have av:=(Sl.aU o1).any
 obtain⟨a1,c1,rfl,_,hx⟩:=Go.Proofs.YtmnimbnojdndmaaGreatDoor.bG.Hl av hn
 have HX:=aa hx
 have HN:=aa hn
 have:n<=401:=by rw[hn];exact ax
 clear o1 av hx hn FI ax
 go_wp2_with fail
 go_loopw [5,7,9,10,11,16,27] (λo _ _ _ _ iv _ wr=>∃i:Nat,i<=n/\iv=.int .i64 i/\wr.ownsRow L.heap.size aN 1 o ((F.take i).flatMap G).length (aM ((F.take i).flatMap G))/\Below L.heap.size L wr) (λ_ _ _ _ _ iv _ _=>n-(intOf iv).toNat)
 case atStart=>exact⟨0,ic _,rfl,iS _ _ _ _,gS _ _⟩
 case round=>
  obtain⟨i,hi,rfl,d,Y⟩:=hrel
  by_cases bt:i<n
  ·have zi:=eG (show i<n by omega)
   have al:i<F.length:=by have:=HN.out;omega
   obtain⟨b,off,rfl,_,c0⟩:=HX.out i al
   have c0:=aB Y c0
   have f:=OQ (G:=G) al
   have D:=sD aR.out (F.take i)
   rw[jn,pZ (by omega)] at D
   have ak:=a9.out _ (gw al)
   obtain⟨x,hx⟩:=ae (F[i])
   obtain⟨P,hP⟩:=ae ((F.take i).flatMap G)
   rw[<-hx] at c0 f ak
   rw[<-hP] at f D d
   have a6:=aa f
   have H:=I.trans (Y.mono J)
   have Je:=H.size
   have aI:=aa (BG.out wr H x ak)
   have aW:=bd.out x ak
   have a4:=a8.out x
   have p0:=(bg.mono H).at 0 rfl
   clear f hx hP
   go_wp2_with fail
   refine aI.out.mono ?_
   rintro e w2⟨r2,rfl,o2,am⟩
   have ba:=af Y am
   have:=H.trans (am.mono Je)
   obtain⟨z,C⟩:=ae ((A x).length)
   have R:=(Sl.aU o2).any
   obtain⟨a2,c2,rfl,_,ay⟩:=Go.Proofs.YtmnimbnojdndmaaGreatDoor.bG.Hl R C
   have:=aa ay
   have aS:=aa C
   have bm:=aa aW
   have aj:=aH d am
   have:z<=2000:=by rw[C];exact a4
   have bk:w2.ownsRow L.heap.size aN 1 (.slice a2 z c2) z (aM (A x)):=aT (C▸o2) Y.size
   have bl:Apt (.slice a2 z c2) u5:=λk K bb=>by
    have h1:=(o2.lt k K).1
    have h2:=(d.lt k bb).2
    omega
   clear o2 R ay C aW aI p0 a4 d
   go_wp2_with fail
   go_loopw [5,9,10,11,27] (λo _ _ _ jv wr=>∃j:Nat,j<=z/\jv=.int .i64 j/\wr.ownsRow L.heap.size aN 1 o (P++((A x).take j).filter q).length (aM (P++((A x).take j).filter q))/\Below L.heap.size L wr/\wr.ownsRow L.heap.size aN 1 (.slice a2 z c2) z (aM (A x))/\Apt (.slice a2 z c2) o) (λ_ _ _ _ jv _=>z-(intOf jv).toNat)
   case atStart=>exact⟨0,ic _,rfl,by rw[List.take_zero,List.filter_nil,me];exact aj,ba,bk,bl⟩
   case round=>
    obtain⟨j,hj,rfl,t,Zw,ac,aF⟩:=hrel
    by_cases bp:j<z
    ·have zj:=eG (show j<z by omega)
     have M:j<(A x).length:=by have:=aS.out;omega
     obtain⟨b2,bn,ag,_,_,_,_,aO⟩:=dz ac (show 0<z by omega)
     injection ag with ag _ a5
     subst ag a5
     have d0:=aO j (.int .i32 ((A x)[j]:Nat)) (by rw[gx (by rw[bF];exact M),dR _ _ M])
     clear aO
     have f:=Te (q:=q) M
     have aQ:=bm.out _ (gw M)
     have aJ:=lr q ((A x).take j)
     rw[jn,pZ (by omega)] at aJ
     obtain⟨y,hy⟩:=ae ((A x)[j])
     obtain⟨S,hS⟩:=ae (((A x).take j).filter q)
     rw[<-hy] at d0 f aQ
     rw[<-hS] at f t aJ
     have aK:=aa f
     have aC:=I.trans (Zw.mono J)
     have:=aC.size
     have aZ:=aa (aV.out wr aC y aQ)
     have e0:=(k0.mono Zw).at 0 rfl
     have e1:=(k0.mono Zw).at 1 rfl
     have bh:(P++S).length<900000:=by rw[gn];omega
     obtain⟨Q,hQ⟩:=ae (P++S)
     rw[<-hQ] at t bh
     have HQ:=aa hQ
     clear f hy hS hQ
     go_wp2_with fail
     refine aZ.out.mono ?_
     rintro e w6⟨⟨k',a',m',c',rfl⟩,ao⟩
     have ji:=af Zw ao
     have ap:=ah (w:=w6) (.cells #[.int .i64 k',.slice a' m' c'] 54)
     have uK:=af ji ap
     have aw:=aH (aH ac ao) ap
     have an:=aa aF
     have az:=aH (aH t ao) ap
     obtain⟨qy,ab⟩:=ae (q y)
     rw[<-ab]
     have aX:=aa ab
     clear aZ e0 e1 t ab ji ac aF
     cases qy with
     | true=>
       have a0:=aH az (ah (.cells #[.int .i32 (y:Nat)] aN))
       have au:=aa (aH aw (ah (.cells #[.int .i32 (y:Nat)] aN)))
       have kL:=aa (uK.trans ((ah (.cells #[.int .i32 (y:Nat)] aN)).mono uK.size))
       have bi:=kL.out.size
       simp only[nh] at bi
       have bc:=uK.size
       simp only[nh] at bc
       go_wp2_with (at_builtin;refine ng rfl _ _ 35 rfl L.heap.size aN (.int .i32 0) 4 bW (by decide) rfl a0 (by simp;omega) [.int .i32 (y:Nat)] (by simp[Value.oneCell']) ⟨w6.heap.size+1,0,none⟩ 1 1 rfl rfl (λi u hi=>by rcases i with _|i;cases hi;exact(Is.new' (w6.alloc (.cells #[.int .i64 k',.slice a' m' c'] 54)) #[.int .i32 (y:Nat)] aN (w6.heap.size+1) (by simp)).at 0 rfl;cases hi) (by omega) ?_;intro v' w8 o8 OT bf)
       go_roundw
       case rel=>
        refine⟨j+1,by omega,by simp,?_,kL.out.grown OT (by simp;omega) (λk K=>(a0.lt k K).1),Apt.stays an.out au.out OT,an.out.push (λk K=>(au.out.lt k K).2) bf⟩
        rw[aK.out,<-aX.out,if_pos rfl,<-kl,<-HQ.out,a_,gn]
        exact o8
       case measure=>simp[intOf];omega
     | false=>
       go_wp2_with fail
       go_roundw
       case rel=>
        refine⟨j+1,by omega,by simp,?_,uK,aw,an.out⟩
        rw[aK.out,<-aX.out,if_neg (by simp),me,<-HQ.out]
        exact az
       case measure=>simp[intOf];omega
    have zj:=gI (show z<=j by omega)
    obtain rfl:j=z:=by omega
    have ht:(A x).take j=A x:=iu (by rw[<-aS.out];exact d' _)
    rw[ht] at t
    have be:=aa t
    clear t ht
    go_wp2_with fail
    go_roundw
    case rel=>
     refine⟨i+1,by omega,by simp,?_,Zw⟩
     rw[a6.out,HG.out]
     exact be.out
    case measure=>simp[intOf];omega
  have zi:=gI (show n<=i by omega)
  obtain rfl:i=n:=by omega
  have ht:F.take i=F:=iu (by rw[<-HN.out];exact d' _)
  rw[ht] at d
  have D:=sD aR.out F
  rw[<-HN.out] at D
  obtain⟨P,hP⟩:=ae (F.flatMap G)
  rw[<-hP] at d D
  have SO:=aa (wh P d (by omega))
  have HP:=aa hP
  have H:=I.trans (Y.mono J)
  clear d ht hP
  go_wp2_with fail
  refine SO.out.mono ?_
  rintro e w6⟨rfl,o6,M4⟩
  have mF:=Y.grown M4 Y.size (λk K=>(o6.lt k K).1)
  have O6:=aa (aT o6 J)
  clear SO o6 M4
  go_wp2
  go_ret
  rw[<-HP.out,fP]
  exact⟨_,rfl,O6.out,I.trans (mF.mono J)⟩
end Go.Proofs.YtmnimbnojdndmaaGreatDoor
namespace Go.Proofs.YtmnimbnojdndmaaGreatDoor
open Go.RowKit Go.Cd Go.Shelf _root_.Go.Proofs.Tryz
def abC {w:World} {B p D:Nat} {K:Nat->Nat} {l:List Nat} (h:dP w B p D K l) (y:l.length<9000) (z:0<(bq K l).length) :
 Calls prog 28 #[.pointer (some ⟨p,0,none⟩)] w λe w'=>∃v,e=.returned v/\Qu w' v (0:Nat) (List.replicate (bq K l)[0].2.length 0)/\Below w.heap.size w w':=by
 obtain⟨J,b⟩:=ae (w.alloc (.cells #[.int .i64 0,.slice none 0 0] 54));have i:=aO b;have s:=Is.nw b;have r:=aa (Z6 (h.mono i) y z);clear h;go_enter func28,ntmps28;go_wp2_with fail;rw[<-b];clear b;refine r.out.mono ?_;rintro e x⟨v,rfl,⟨C,rfl,k⟩,m⟩;obtain⟨d,f,g,rfl⟩:∃d f g,C=.slice d f g:=by obtain⟨a,cap,h,_⟩:=k;exact⟨_,_,_,h⟩
 have c:=s.mono m;have:=c.at 0 rfl;have:=c.frozen 0;have j:=c.set 0 (.int .i64 0);have:=c.at 1 rfl;have:=c.frozen 1;have q:=j.set 1 (.slice d f g);have t:=q.at 0 rfl;have A:=q.at 1 rfl;have E:=aa ((k.put c.at_ (o:=0) (u:=.int .i64 0) (by decide)).put j.at_ (o:=1) (u:=.slice d f g) (by decide));have n:Below w.heap.size w ((x.setCell ⟨w.heap.size,0,none⟩ (.int .i64 0)).setCell ⟨w.heap.size,1,none⟩ (.slice d f g)):=aj (aj (af i m) (d' _)) (d' _);clear k r s c j q m;go_wp2;refine bodyPost_ret (v:=.agg #[.int .i64 0,.slice d f g]) (by simp[results,results28,go_sem,t,A]) rfl ?_;exact⟨_,rfl,⟨_,rfl,E.out⟩,n⟩
end Go.Proofs.YtmnimbnojdndmaaGreatDoor
namespace Go.Cd
def fZ (ap:Nat->Bool) (out:List (List Nat)) (c:Nat):List (List Nat):=
 if out=[]\/ap c=true then out++[[c]] else out.dropLast++[out.getLastD []++[c]]
def bf (ap:Nat->Bool) (l:List Nat):List (List Nat):=l.foldl (fZ ap) []
def Tn {ap:Nat->Bool} {a:List (List Nat)} {c:Nat}:fZ ap a c≠[]:=by
 unfold fZ;split <;> simp
def gH {ap:Nat->Bool} (l:List Nat):(bf ap l).flatten=l:=by
 have:∀(l:List Nat) (o:List (List Nat)),(l.foldl (fZ ap) o).flatten=o.flatten++l:=by
  intro l
  induction l with
  | nil=>intro o;simp
  | cons c l ih=>
    intro o;rw[ot,ih];have:(fZ ap o c).flatten=o.flatten++[c]:=by
     unfold fZ;by_cases a:o=[]
     ·subst a;simp
     split
     ·simp
     obtain⟨q,x,rfl⟩:∃q x,o=q++[x]:=⟨o.dropLast,o.getLast a,(p6 a).symm⟩;simp[re]
    rw[this];simp
 simpa [bf] using this l []
def sH {ap:Nat->Bool} {l u:List Nat} (h:u∈bf ap l):∀c∈u,c∈l:=by
 intro c a;rw[<-gH (ap:=ap) l];exact List.mem_flatten.2 ⟨u,h,a⟩
end Go.Cd
namespace Go.Proofs.YtmnimbnojdndmaaGreatDoor
open Go.RowKit Go.Cd
def ve {K:Nat->Nat} {a:Nat}:∀{l:List Nat},dJ K (a::l)↔(∀b,l.head? = some b->¬swp K a b)/\dJ K l
 | []=>by simp[dJ]
 | b::l=>by simp[dJ]
def Tp {K:Nat->Nat} {c x:Nat}:∀{l:List Nat},(j_ K c l).head? = some x->x=c\/l.head? = some x
 | [],h=>.inl (by simpa [j_] using h.symm)
 | d::l,h=>by
   unfold j_ at h
   split at h
   ·right;simpa using h
   left;simpa using h.symm
def CE {K:Nat->Nat} {c:Nat}:∀{l:List Nat},dJ K l->dJ K (j_ K c l)
 | [],_=>by simp[j_,dJ]
 | d::l,h=>by
   unfold j_
   split
   ·rename_i hd;rw[ve] at h⊢;refine⟨λb a e=>?_,CE h.2⟩;rcases Tp a with rfl|a
    ·unfold swp at e;omega
    exact h.1 b a e
   rename_i hd;exact⟨hd,h⟩
def CG (K:Nat->Nat):∀l:List Nat,dJ K (gL K l)
 | []=>trivial
 | _::l=>CE (CG K l)
def zV {K:Nat->Nat}:∀{a b:List Nat},dJ K (a++b)->dJ K a/\dJ K b
 | [],_,h=>⟨trivial,h⟩
 | x::a,b,h=>by
   rw[lz,ve] at h;have d:=zV h.2;refine⟨ve.2 ⟨λy c=>h.1 y ?_,d.1⟩,d.2⟩;cases a with
   | nil=>cases c
   | cons z a=>exact c
def vg {K:Nat->Nat}:∀{L:List (List Nat)},dJ K L.flatten->∀u∈L,dJ K u
 | [],_,_,hu=>by cases hu
 | v::L,h,u,hu=>by
   rw[vu] at h;have:=zV h;rcases jt.1 hu with rfl|hu
   ·exact this.1
   exact vg this.2 u hu
structure nG (T:List aG) (l:List Nat):Prop where
 leaf:∀x∈l,aD T x=[x]
 ord:dJ (ai T) l
def nG.of {T:List aG} {X:List Nat} (b:aY T X) (l:List Nat):nG T (gQ T l):=by
 refine⟨λx c=>?_,CG _ _⟩;obtain⟨y,_,a⟩:=lP.1 ((KW _).1 c);exact R7 b a
section
open Go.RowKit Go.Cd
def kQ:List Nat->List (Nat×List Nat)->List Nat
 | m::ms,x::L=>x.2.drop m++kQ ms L
 | _,_=>[]
def LP (r:bS):List Nat:=r.1::r.2.flatMap (·.2)
def mJ (R:List bS) (s:eZ):List Nat:=kQ s.2 (aL R s.1).2++(R.drop (s.1+1)).flatMap LP
def fE (K:Nat->Nat) (c:Nat):List Nat->Option (List Nat)
 | []=>none
 | a::t=>if K c=0 then (if a=c then some t else none) else if K a=0 then none else if K a<K c then (fE K c t).map (a::·) else if a=c then some t else none
section
variable {K : Nat -> Nat}
variable {L:List (Nat×List Nat)} {n c:Nat} {R:List bS} {s:eZ} {l:List Nat}
def ql (n c:Nat):List Nat->List (Nat×List Nat)->Option (List Nat)
 | m::ms,x::L=>if x.1=n/\m<x.2.length/\x.2.getD m 0=c then some ((m+1)::ms) else (ql n c ms L).map (m::·)
 | _,_=>none
def Cy (n c:Nat):∀(ms:List Nat) (L:List (Nat×List Nat)),ms.length=L.length->((List.range L.length).find? (ed n c ms L)).map (λi=>ms.set i (ms.getD i 0+1))=ql n c ms L
 | [],[],_=>rfl
 | [],_::_,h=>by simp at h
 | _::_,[],h=>by simp at h
 | m::ms,x::L,h=>by
   have e:=Cy n c ms L (by simpa using h);rw[im,List.range_succ_eq_map];have b:ed n c (m::ms) (x::L) 0=decide (x.1=n/\m<x.2.length/\x.2.getD m 0=c):=by simp[ed,Bool.decide_and,Bool.and_assoc]
   by_cases a:x.1=n/\m<x.2.length/\x.2.getD m 0=c
   ·rw[List.find?_cons_of_pos (by rw[b];exact decide_eq_true a)];unfold ql;rw[if_pos a];rfl
   rw[List.find?_cons_of_neg (by rw[b];simpa using a),List.find?_map];unfold ql;rw[if_neg a,<-e];have d:(ed n c (m::ms) (x::L) ∘ Nat.succ)=ed n c ms L:=by funext i;rfl
   rw[d];cases (List.range L.length).find? (ed n c ms L) <;> rfl
def Ea (K:Nat->Nat) (L:List (Nat×List Nat)):Prop:=(∀x∈L,0<x.1/\∀y∈x.2,K y=x.1)/\L.Pairwise λa b=>a.1<b.1
def Ea.tail {x:Nat×List Nat} (h:Ea K (x::L)):Ea K L:=⟨λy a=>h.1 y (kq _ a),(mT.1 h.2).2⟩
def Cz :∀{ms:List Nat} {L:List (Nat×List Nat)},(∀x∈L,x.1≠n)->ql n c ms L=none
 | [],[],_=>rfl
 | [],_::_,_=>rfl
 | _::_,[],_=>rfl
 | m::ms,x::L,h=>by
   unfold ql;rw[if_neg (λa=>h x (by simp) a.1),Cz λy b=>h y (kq _ b)];rfl
def LQ (h0:0<n) (h:n<K c) (X:List Nat):∀u:List Nat,(∀y∈u,K y=n)->fE K c (u++X)=(fE K c X).map (u++·)
 | [],_=>by simp
 | a::u,hu=>by
   have:=hu a (by simp);show fE K c (a::(u++X))=_;rw[fE,if_neg (by omega),if_neg (by omega),if_pos (by omega),LQ h0 h X u λy b=>hu y (kq _ b)];cases fE K c X <;> simp
def F6 (i:K c≠0) {rest:List Nat} (o:∀a t,rest=a::t->K a=0):∀{ms:List Nat} {L:List (Nat×List Nat)},ms.length=L.length->Ea K L->
 fE K c (kQ ms L++rest)=(ql (K c) c ms L).map λg=>kQ g L++rest
 | [],[],_,_=>by
   show fE K c rest=none;cases rest with
   | nil=>rfl
   | cons a t=>unfold fE;rw[if_neg i,if_pos (o a t rfl)]
 | [],_::_,h,_=>by simp at h
 | _::_,[],h,_=>by simp at h
 | m::ms,x::L,h,hL=>by
   have p:=F6 i o (ms:=ms) (L:=L) (by simpa using h) hL.tail;have k:=hL.1 x (by simp);have j:=(mT.1 hL.2).1;by_cases d:m<x.2.length
   ·have hd:x.2.drop m=x.2[m]::x.2.drop (m+1):=jf d;have s:x.2.getD m 0=x.2[m]:=by rw[ir,gx d];rfl
    have r:K x.2[m]=x.1:=k.2 _ (gw d);by_cases q:x.1<K c
    ·have l:¬(x.1=K c/\m<x.2.length/\x.2.getD m 0=c):=λa=>by omega
     unfold ql kQ;rw[if_neg l,kl,LQ k.1 q _ _ (λy n=>k.2 y (l3 n)),p];cases ql (K c) c ms L <;> simp[kQ]
    have b:(∀y∈L,y.1≠K c):=λy n e=>by have:=j y n;omega
    unfold ql;show fE K c ((x.2.drop m++kQ ms L)++rest)=_;rw[hd];show fE K c (x.2[m]::(x.2.drop (m+1)++kQ ms L++rest))=_;unfold fE;rw[if_neg i,if_neg (by omega),if_neg (by omega),s];by_cases f:x.2[m]=c
    ·have u:x.1=K c:=by rw[<-r,f]
     rw[if_pos f,if_pos ⟨u,d,f⟩];rfl
    rw[if_neg f,if_neg (λa=>f a.2.2),Cz b];rfl
   have l:¬(x.1=K c/\m<x.2.length/\x.2.getD m 0=c):=λa=>d a.2.1;have hd:x.2.drop m=[]:=qq (by omega);unfold ql kQ;rw[if_neg l,hd,lf,p];cases ql (K c) c ms L <;> simp[kQ,hd]
structure Ip (K:Nat->Nat) (R:List bS):Prop where
 lan:∀r∈R,Ea K r.2
 head:∀r∈R.tail,K r.1=0
def Ip.rest (h:Ip K R) (k:Nat):∀a t,(R.drop (k+1)).flatMap LP=a::t->K a=0:=by
 intro a t e;cases hd:R.drop (k+1) with
 | nil=>rw[hd] at e;cases e
 | cons r u=>
   rw[hd,jx] at e;have:a=r.1:=by unfold LP at e;exact(List.cons.inj e).1.symm
   rw[this];refine h.head r ?_;rw[show R.tail=R.drop 1 by simp];have:R.drop (k+1)=(R.drop 1).drop k:=by rw[AG,xi]
   rw[this] at hd;exact l3 (i:=k) (by rw[hd];simp)
def yH:∀L:List (Nat×List Nat),kQ (List.replicate L.length 0) L=L.flatMap (·.2)
 | []=>rfl
 | x::L=>by
   show x.2.drop 0++kQ (List.replicate L.length 0) L=_;rw[yH L];simp
def sG:∀{ms:List Nat} {L:List (Nat×List Nat)},ms.length=L.length->(gV (nz ms) L=true↔kQ ms L=[])
 | [],[],_=>by simp[gV,nz,kQ]
 | [],_::_,h=>by simp at h
 | _::_,[],h=>by simp at h
 | m::ms,x::L,h=>by
   have a:=sG (ms:=ms) (L:=L) (by simpa using h);have e:gV (nz (m::ms)) (x::L)=(!decide ((m:Int)<(x.2.length:Nat))&&gV (nz ms) L):=by simp[gV,nz]
   rw[e,js,a];show _↔x.2.drop m++kQ ms L=[];rw[List.append_eq_nil_iff,List.drop_eq_nil_iff];simp
def LU {ms:List Nat} (c:Ea K L) {a:Nat} {t:List Nat} (h:kQ ms L=a::t):K a≠0:=by
 induction L generalizing ms with
 | nil=>cases ms <;> cases h
 | cons x L ih=>
   cases ms with
   | nil=>cases h
   | cons m ms=>
     have d:=c.1 x (by simp);rw[kQ] at h;cases hd:x.2.drop m with
     | nil=>rw[hd] at h;exact ih c.tail h
     | cons b u=>
       rw[hd] at h;obtain rfl:=(List.cons.inj h).1;have:=d.2 b (l3 (i:=m) (by rw[hd];simp));omega
def F9 (h:Ip K R) (k:Nat):Ea K (aL R k).2:=by
 unfold aL;rw[ir];by_cases a:k<R.length
 ·rw[gx a];exact h.lan _ (gw a)
 rw[pA (by omega)];exact⟨λx b=>(by cases b),List.Pairwise.nil⟩
def WJ (h:Ip K R) (i:eQ R s) (c:Nat):fE K c (mJ R s)=(iy K R s c).map (mJ R):=by
 have k:=F9 h s.1;unfold iy;by_cases b:K c=0
 ·rw[if_pos b];by_cases d:gV (nz s.2) (aL R s.1).2=true
  ·have j:=(sG i.len).1 d;unfold mJ;rw[j,lf];by_cases g:s.1+1<R.length
   ·rw[jf g,jx,<-df g];show fE K c ((aL R (s.1+1)).1::_)=_;unfold fE;rw[if_pos b];by_cases f:(aL R (s.1+1)).1=c
    ·rw[if_pos f,if_pos ⟨d,g,f⟩,xo];show _=some (kQ _ _++_);rw[yH];rfl
    rw[if_neg f,if_neg λa=>f a.2.2];rfl
   rw[qq (by omega),if_neg λa=>g a.2.1];rfl
  rw[if_neg λa=>d a.1];have j:kQ s.2 (aL R s.1).2≠[]:=λe=>d ((sG i.len).2 e);unfold mJ;cases l:kQ s.2 (aL R s.1).2 with
  | nil=>exact absurd l j
  | cons a t=>
    show fE K c (a::_)=none;unfold fE;rw[if_pos b,if_neg λe=>LU k l (by rw[e];exact b)]
 rw[if_neg b];have m:=F6 b (h.rest s.1) i.len k;rw[<-Cy _ _ _ _ i.len,Option.map_map] at m;unfold mJ;rw[m,Option.map_map];rfl
def CB (c:eQ R s):Co R s=true↔mJ R s=[]:=by
 unfold Co mJ;rw[js,decide_eq_true_eq,List.append_eq_nil_iff,sG c.len];have:=c.lt;constructor
 ·rintro⟨a,b⟩;exact⟨b,by rw[qq (by omega)];rfl⟩
 rintro⟨a,b⟩;refine⟨?_,a⟩;by_cases d:s.1+1<R.length
 ·rw[jf d,jx] at b;simp[LP] at b
 omega
structure TrF (K:Nat->Nat) (l:List Nat) (R:List bS):Prop where
 fine:Ip K R
 ne:R≠[]
 flat:(R.headD (0,[])).2.flatMap (·.2)++R.tail.flatMap LP=l
 last:∀x∈(R.getLastD (0,[])).2,l≠[]/\x.1<=K (l.getLastD 0)
def Tm {a:List Nat} :dJ K (a++[c])->dJ K a/\(a≠[]->¬swp K (a.getLastD 0) c):=by
 induction a with
 | nil=>intro _;exact⟨trivial,λh=>absurd rfl h⟩
 | cons x a ih=>
   intro h;cases a with
   | nil=>exact⟨trivial,λ_=>h.1⟩
   | cons y a=>
     obtain⟨d,b⟩:=ih h.2;exact⟨⟨h.1,d⟩,λ_=>by simpa using b (by simp)⟩
def WK (h:Ea K L) (o:K c=n) (h0:0<n) (g:∀x∈L,x.1<=n) :
 Ea K (sQ n c L)/\(sQ n c L).flatMap (·.2)=L.flatMap (·.2)++[c]/\∀x∈sQ n c L,x.1<=n:=by
 rcases oR L with rfl|⟨A,x,rfl⟩
 ·have e:sQ n c []=[(n,[c])]:=rfl;rw[e];refine⟨⟨λx d=>?_,rI _ _⟩,rfl,λx d=>?_⟩
  ·obtain rfl:=gE.1 d;exact⟨h0,λy f=>by rw[gE.1 f];exact o⟩
  obtain rfl:=gE.1 d;exact d' _
 obtain⟨m,l⟩:=x;rw[x3] at *;by_cases k:m=n
 ·rw[yh k];have j:=lE.1 h.2;refine⟨⟨λx d=>?_,?_⟩,by simp,λx d=>?_⟩
  ·rcases ie.1 d with d|d
   ·exact h.1 x (ks _ d)
   obtain rfl:=gE.1 d;have:=h.1 (m,l) (by simp);refine⟨this.1,λy f=>?_⟩;rcases ie.1 f with f|f
   ·exact this.2 y f
   rw[gE.1 f];exact o.trans k.symm
  ·exact lE.2 ⟨j.1,rI _ _,λa q b p=>by
    rw[gE.1 p];exact j.2.2 a q (m,l) (by simp)⟩
  rcases ie.1 d with d|d
  ·exact g x (ks _ d)
  rw[gE.1 d];exact vb k
 rw[abj (λx d=>by rw[mx] at d;obtain rfl:=m6 d;exact k)];have r:m<=n:=g (m,l) (by simp);have j:=lE.1 h.2;have i:∀x∈A++[(m,l)],x.1<n:=λx d=>by
  rcases ie.1 d with d|d
  ·have:=j.2.2 x d (m,l) (by simp);simp at this;omega
  rw[gE.1 d];show m<n;omega
 refine⟨⟨λx d=>?_,?_⟩,by simp,λx d=>?_⟩
 ·rcases ie.1 d with d|d
  ·exact h.1 x d
  obtain rfl:=gE.1 d;exact⟨h0,λy f=>by rw[gE.1 f];exact o⟩
 ·exact lE.2 ⟨h.2,rI _ _,λa q b p=>by rw[gE.1 p];exact i a q⟩
 rcases ie.1 d with d|d
 ·exact g x d
 rw[gE.1 d];exact d' _
def WM:∀(n:Nat) {l:List Nat},l.length=n->dJ K l->TrF K l (bq K l)
 | 0,l,hl,_=>by
   obtain rfl:=iJ.1 hl;exact⟨⟨λr i=>by rw[show bq K []=[(0,[])] from rfl] at i;rw[gE.1 i];exact⟨λx d=>(by cases d),List.Pairwise.nil⟩,λr i=>(by cases i)⟩,by simp[bq],rfl,λx d=>(by cases d)⟩
 | n+1,l,hl,ho=>by
   rcases oR l with rfl|⟨l,c,rfl⟩
   ·cases hl
   rw[x3] at *;have v:=WM n (l:=l) (by simpa using hl);obtain⟨t,w⟩:=Tm ho;obtain⟨f,k,h,g⟩:=v t;have e:bq K (l++[c])=BU K (bq K l) c:=by unfold bq;rw[rk];rfl
   rw[e];generalize bq K l=R at *;rcases oR R with rfl|⟨A,r,rfl⟩
   ·exact absurd rfl k
   rw[x3] at *;by_cases m:K c=0
   ·rw[BV m];refine⟨⟨λq b=>?_,λq b=>?_⟩,by simp,?_,λx d=>by simp at d⟩
    ·rcases ie.1 b with b|b
     ·exact f.lan q b
     rw[gE.1 b];exact⟨λx d=>(by cases d),List.Pairwise.nil⟩
    ·rw[AF (by simp)] at b;rcases ie.1 b with b|b
     ·exact f.head q b
     rw[gE.1 b];exact m
    rw[AF (by simp),j7,<-kl,<-h];cases A <;> simp[LP]
   rw[yj m];have o:(A++[r]).getLastD (0,[])=r:=tE ..;rw[o] at g;have j:∀x∈r.2,x.1<=K c:=λx d=>by
    have p:=g x d;have:=(f.lan r (by simp)).1 x d;have y:=w p.1;unfold swp at y;have:=p.2;omega
   obtain⟨z,s,u⟩:=WK (f.lan r (by simp)) rfl (by omega) j;refine⟨⟨λq b=>?_,λq b=>?_⟩,by simp,?_,λx d=>?_⟩
   ·rcases ie.1 b with b|b
    ·exact f.lan q (ks _ b)
    rw[gE.1 b];exact z
   ·cases A with
    | nil=>cases b
    | cons a A=>
      rw[lz,List.tail_cons] at b;rcases ie.1 b with b|b
      ·exact f.head q (by simp[b])
      rw[gE.1 b];exact f.head r (by simp)
   ·rw[<-h];cases A with
    | nil=>simp[s]
    | cons a A=>simp[LP,s]
   rw[tE] at d⊢;exact⟨by simp,u x d⟩
def s0 (R:List bS):eZ:=(0,List.replicate (aL R 0).2.length 0)
def O_ (h:R≠[]):aL R 0=R.headD (0,[]):=by cases R with|nil=>exact absurd rfl h|cons a R=>rfl
def agA (h:R≠[]):eQ R (s0 R):=⟨ke.2 h,by simp[s0],λi a b=>by simp[s0]⟩
def adj (h:TrF K l R):mJ R (s0 R)=l:=by
 conv=>rhs;rw[<-h.flat]
 unfold mJ s0;rw[yH,O_ h.ne];simp
def abv {ms:List Nat} (d:ms.length=L.length) (h:gV (nz ms) L=true):au ms L L.length=[]:=by
 unfold au;rw[List.flatMap_eq_nil_iff];intro i b;rw[nf] at b;have:i<(nz ms).length:=by rw[jF];omega
 have a:=lR.1 h _ (gw (l:=(nz ms).zip L) (n:=i) (by simp;omega));rw[List.getElem_zip] at a;unfold lZ;rw[ir,ir,gx b,gx (show i<ms.length by omega)];simp[nz] at a;rw[if_neg (by simpa using a)]
def abw (f:eQ R s) (h:(iy K R s c).isSome=true):c∈ko R s:=by
 unfold iy at h;unfold ko
 split at h
 ·split at h
  ·rename_i a;rw[if_pos (abv f.len a.1),if_pos a.2.1,a.2.2];simp
  cases h
 rw[Option.isSome_map] at h;obtain⟨i,d⟩:=vA.1 h;have a:=tU d;have g:=nf.1 (mB d);unfold ed at a;simp only[js,decide_eq_true_eq] at a;have b:c∈au s.2 (aL R s.1).2 (aL R s.1).2.length:=by
  unfold au;rw[lP];refine⟨i,nf.2 g,?_⟩;unfold lZ;rw[if_pos a.1.2,a.2];simp
 rw[if_neg (λe=>by rw[e] at b;cases b)];exact b
def abG:∀{ms:List Nat} {L:List (Nat×List Nat)} {a:Nat},a∈kQ ms L->a∈L.flatMap (·.2)
 | [],_,_,h=>by cases h
 | _::_,[],_,h=>by cases h
 | m::ms,x::L,a,h=>by
   rw[kQ] at h;rw[jx];rcases ie.1 h with h|h
   ·exact ks _ (l3 h)
   exact nj _ (abG h)
def abV (h:TrF K l R) (e:eQ R s) {a:Nat} (b:a∈mJ R s):a∈l:=by
 rw[<-h.flat];obtain⟨k,ms⟩:=s;have c:=e.lt;unfold mJ at b;cases R with
 | nil=>exact absurd rfl h.ne
 | cons r R=>
   rcases ie.1 b with b|b
   ·have b:=abG b;cases k with
    | zero=>exact ks _ b
    | succ k=>
      refine nj _ (lP.2 ⟨aL (r::R) (k+1),?_,kq _ b⟩);rw[df c];exact gw (l:=R) (by simpa using c)
   obtain⟨q,d,b⟩:=lP.1 b;exact nj _ (lP.2 ⟨q,l3 (i:=k) d,b⟩)
def acu (h:TrF K l R) (b:eQ R s) (e:Co R s=false):∃a∈l,a∈ko R s/\(iy K R s a).isSome=true:=by
 cases d:mJ R s with
 | nil=>rw[(CB b).2 d] at e;cases e
 | cons a t=>
   have hd:=WJ h.fine b a;have c:(fE K a (mJ R s)).isSome=true:=by
    rw[d];unfold fE;by_cases f:K a=0 <;> simp[f]
   rw[hd,Option.isSome_map] at c;exact⟨a,abV h b (by rw[d];simp),abw b c,c⟩
end
end
def abH {T:List aG} {X l:List Nat} (i:aY T X) (f:nG T l) {s:eZ} (m:eQ (bq (ai T) l) s) (k:Co (bq (ai T) l) s=false) :
 b_ (pO (ai T) (aD T) (uY T) (bq (ai T) l) s)≠[]:=by
 obtain⟨a,n,h,g⟩:=acu (WM _ rfl f.ord) m k;have hf:=f.leaf a n;have b:a∈pO (ai T) (aD T) (uY T) (bq (ai T) l) s:=by
  unfold pO;rw[lP];refine⟨a,h,i_.2 ⟨?_,?_⟩⟩
  ·unfold uY;rw[xQ];unfold bgU;have j:uX T a=true:=by
    have b:mapOf T a=[]:=by
     have c:=(pE i a).1;rw[hf] at c;exact c a (by simp)
    unfold uX;unfold mapOf at b;by_cases d:hk a<4
    ·rw[if_pos d] at b;rw[decide_eq_true b,decide_eq_true d];rfl
    rw[if_neg d] at b;have:=xS.1 b;omega
   rw[if_pos j];simp
  unfold fw;rw[hf,oB];cases e:iy (ai T) (bq (ai T) l) s a with
  | none=>rw[e] at g;cases g
  | some s1=>rfl
 intro e;have c:=(xQ (l:=pO (ai T) (aD T) (uY T) (bq (ai T) l) s)).2 b;rw[e] at c;cases c
def abt {T:List aG} {l:List Nat} {s:eZ} {c:Nat} (h:c∈b_ (pO (ai T) (aD T) (uY T) (bq (ai T) l) s)):∃s1,fw (ai T) (aD T) (bq (ai T) l) s c=some s1:=by
 rw[xQ] at h;obtain⟨x,_,a⟩:=lP.1 h;exact vA.1 (i_.1 a).2
end Go.Proofs.YtmnimbnojdndmaaGreatDoor
namespace Go.Proofs.YtmnimbnojdndmaaGreatDoor
open Go.RowKit Go.Cd _root_.Go.Proofs.Tryz
def abW {T:List aG} (a:T.length<1000) {K:Nat->Nat} {l:List Nat} (d:l.length<400) {s:eZ} (b:eQ (bq K l) s) (F:Nat->List Nat):(b_ (pO K F (uY T) (bq K l) s)).length<=802000:=by
 rw[fP];have:=Cr (bq K l) s;have:=((fD K l).2.2 _ (show aL (bq K l) s.1∈bq K l by rw[df b.lt];exact gw _)).1;refine ia (sD (λx=>ia (lr _ _) (Qz a x)) _) ?_;omega
structure anP (sm:Prop) (w:World) (p dp:Nat) (R:List bS) (F:Nat->List Nat) (tk:eZ->Nat->Option eZ) (O:eZ->List Nat):Prop where
 start:∀(W:World),Below w.heap.size w W->Calls prog 28 #[.pointer (some ⟨p,0,none⟩)] W λe w'=>∃v,e=.returned v/\AA w' v (s0 R)/\Below W.heap.size W w'
 sok:eQ R (s0 R)
 over:∀(W:World),Below w.heap.size w W->∀(u:Value) (s:eZ),AA W u s->eQ R s->
  Calls prog 32 #[.pointer (some ⟨p,0,none⟩),u] W λe w'=>e=.returned (.bool (Co R s))/\Below W.heap.size W w'
 step:∀(W:World),Below w.heap.size w W->∀(u:Value) (s:eZ),AA W u s->eQ R s->∀c,aP c->
  Calls prog 31 #[.pointer (some ⟨p,0,none⟩),u,.int .i32 c] W λe w'=>FY e w' ((F c).foldlM tk s)/\Below W.heap.size W w'
 full:∀(W:World),Below w.heap.size w W->∀c,aP c->
  Calls prog 67 #[.pointer (some ⟨dp,0,none⟩),.int .i32 c] W λe w'=>∃r,e=.returned r/\w'.ownsRow W.heap.size aN 1 r (F c).length (aM (F c))/\Below W.heap.size W w'
 opts:sm->∀(W:World),Below w.heap.size w W->∀(u:Value) (s:eZ),AA W u s->eQ R s->
  Calls prog 30 #[.pointer (some ⟨p,0,none⟩),u] W λe w'=>∃r,e=.returned r/\w'.ownsRow W.heap.size aN 1 r (O s).length (aM (O s))/\Below W.heap.size W w'
 ok:∀{s s':eZ} {y:Nat},eQ R s->tk s y=some s'->eQ R s'
 leaf:∀{c y:Nat},y∈F c->F y=[y]
 chr:∀{c y:Nat},aP c->y∈F c->aP y
 anQ:∀c,(F c).length<=32
 few:∀{s:eZ},eQ R s->s.2.length<10000
 one:∀{s:eZ},eQ R s->Co R s=false->O s≠[]
 och:∀{s:eZ} {c:Nat},c∈O s->aP c
 ole:sm->∀{s:eZ},eQ R s->(O s).length<=802000
 ost:∀{s:eZ} {c:Nat},c∈O s->∃s1,(F c).foldlM tk s=some s1
def acv {w:World} {B p i:Nat} {T:List aG} {X l:List Nat} (j:cK w i T X) (a:aY T X) (b:T.length<1000) (d:dP w B p i (ai T) l) (f:nG T l) (m:∀c∈l,aP c) (n:l.length<500) :
 anP (l.length<400) w p i (bq (ai T) l) (aD T) (iy (ai T) (bq (ai T) l)) (λs=>b_ (pO (ai T) (aD T) (uY T) (bq (ai T) l) s)) where
 start W E:=by
  have g:=(WM l.length rfl f.ord).ne;have h0:0<(bq (ai T) l).length:=ke.2 g;refine(abC (d.mono E) (by omega) h0).mono ?_;rintro e w'⟨v,rfl,o,t⟩;refine⟨v,rfl,?_,t⟩;have r:(bq (ai T) l)[0].2.length=(aL (bq (ai T) l) 0).2.length:=by rw[df h0]
  rw[r] at o;show Qu w' v (0:Nat) (nz (List.replicate _ 0));rw[show nz (List.replicate (aL (bq (ai T) l) 0).2.length 0)=List.replicate (aL (bq (ai T) l) 0).2.length 0 by simp[nz]];exact o
 sok:=agA (WM l.length rfl f.ord).ne
 over W E u s hu ho:=Tc (d.mono E) (by omega) hu ho
 step W E u s hu ho c h:=FZ (j.mono E) a b (d.mono E) (by omega) hu ho c h
 full W E c h:=pG (j.mono E) a b c h.1
 opts hsm W E u s hu ho:=Im (j.mono E) a b (d.mono E) hsm m hu ho
 ok h e:=aa5 h e
 leaf h:=R7 a h
 chr h k:=ow a h k
 anQ c:=il a c
 few {s} h:=by
  have:=((fD (ai T) l).2.2 _ (show aL (bq (ai T) l) s.1∈bq (ai T) l by rw[df h.lt];exact gw _)).1;have:=h.len;omega
 one h e:=abH a f h e
 och {s c} h:=by
  rw[xQ] at h;obtain⟨x,q,h⟩:=lP.1 h;exact QA a (Cv (Qy (ai T) m) s x q) c (i_.1 h).1
 ole hsm _ h:=abW b hsm h (aD T)
 ost h:=abt h
section
open Go.RowKit Go.Cd
def LK {bs l:List Nat} (d:∀b∈bs,1<=b) {m:Nat} (a:m<l.length):∀j,j<=bs.length->
 (j<=m->gU bs (nz (l.set m (l.getD m 0+1))) j=gU bs (nz l) j)/\(m<j->gU bs (nz l) j<gU bs (nz (l.set m (l.getD m 0+1))) j)
 | 0,_=>⟨λ_=>rfl,λh=>by omega⟩
 | j+1,hj=>by
   obtain⟨c,n⟩:=LK d a j (by omega);have o:bs[j]?.getD 0=bs[j]:=by rw[gx (by omega)];rfl
   have:1<=bs[j]:=d _ (gw (by omega));have f:j≠m->(nz (l.set m (l.getD m 0+1)))[j]?.getD 0=(nz l)[j]?.getD 0:=λh=>by
    simp only[nz,nu];rw[su (pr h)]
   simp only[gU];rw[o];refine⟨λh=>?_,λh=>?_⟩
   ·rw[c (by omega),f (by omega)]
   by_cases e:j=m
   ·subst e;rw[c (d' _)];have i:(nz (l.set j (l.getD j 0+1)))[j]?.getD 0=((l.getD j 0+1:Nat):Int):=by
     simp only[nz,nu];rw[tj a];rfl
    have g:(nz l)[j]?.getD 0=((l.getD j 0:Nat):Int):=by
     simp only[nz,nu,ir];rw[gx a];rfl
    rw[i,g];simp only[pw];omega
   rw[f e];have:=ux (n (by omega)) (show 0<bs[j] by omega);omega
def WA {K:Nat->Nat} {R:List bS} {s a:eZ} {c:Nat} (h:eQ R s) (e:iy K R s c=some a):fK R s<fK R a:=by
 unfold iy at e
 split at e
 ·split at e
  ·cases e;have f:=Az h;have d:=aae h.lt;rw[<-df h.lt] at d;show dO (R.take s.1)+_<dO (R.take (s.1+1))+_;omega
  cases e
 cases hf:(List.range (aL R s.1).2.length).find? (ed (K c) c s.2 (aL R s.1).2) with
 | none=>rw[hf] at e;cases e
 | some i=>
   rw[hf] at e;cases e;have b:=nf.1 (mB hf);have:=(LK (l:=s.2) (pQ (aL R s.1)) (m:=i) (by rw[h.len];exact b) (kM (aL R s.1)).length (d' _)).2 (by rw[eO];exact b);exact Nat.add_lt_add_left this _
def LM {K:Nat->Nat} {R:List bS}:∀(l:List Nat) (s a:eZ),eQ R s->l.foldlM (iy K R) s=some a->fK R s<=fK R a/\(l≠[]->fK R s<fK R a)
 | [],s,a,_,e=>by
   have:s=a:=by simpa using e
   subst this;exact⟨d' _,λh=>absurd rfl h⟩
 | c::l,s,a,h,e=>by
   rw[oB] at e;cases b:iy K R s c with
   | none=>rw[b] at e;cases e
   | some s1=>
     rw[b] at e;have d:=WA h b;have f:=(LM l s1 a (aa5 h b) e).1;exact⟨by omega,λ_=>by omega⟩
def WB {K:Nat->Nat} {F:Nat->List Nat} {R:List bS} {s a:eZ} {c:Nat} (h:eQ R s) (b:F c≠[]) (e:fw K F R s c=some a):fK R s<fK R a:=
 (LM (F c) s a h e).2 b
section
variable {R : List bS} {opt : eZ -> List Nat} {nS : eZ -> Nat -> Option eZ}
def yG {n:Nat}:∀j d,j+d<=n->∀i,n-j<=i->(jl R opt nS n (j+d)).getD i 0=(jl R opt nS n j).getD i 0
 | j,0,_,_,_=>rfl
 | j,d+1,h,i,hi=>by
   rw[<-tA,jl,<-yG j d (by omega) i hi];rw[ir,su (by omega),<-ir]
def abF {l m:List Nat} {i:Nat} (h:∀c s,c∈opt (sW R i)->nS (sW R i) c=some s->l.getD (fK R s) 0=m.getD (fK R s) 0):jk R opt nS l i=jk R opt nS m i:=by
 unfold jk
 split
 ·rfl
 refine congrArg List.sum (mL λc a=>?_);cases b:nS (sW R i) c with
 | none=>rfl
 | some s=>exact h c s a b
def WG {n:Nat} (k:n=dO R) (a:∀i c s,i<n->c∈opt (sW R i)->nS (sW R i) c=some s->i<fK R s) {i:Nat} (d:i<n) :
 (jl R opt nS n n).getD i 0=jk R opt nS (jl R opt nS n n) i:=by
 have b:=yG (R:=R) (opt:=opt) (nS:=nS) (n:=n) (n-i) i (by omega) i (by omega);rw[show n-i+i=n by omega] at b;rw[b];obtain⟨j,f⟩:∃j,n-i=j+1:=⟨n-i-1,by omega⟩;rw[f,jl,show n-1-j=i by omega];rw[ir,tj (by rw[FW];exact d)];show jk R opt nS (jl R opt nS n j) i=_;refine abF λc s g h=>?_;have e:=yG (R:=R) (opt:=opt) (nS:=nS) (n:=n) j (n-j) (by omega) (fK R s) (by have:=a i c s d g h;omega);rw[show j+(n-j)=n by omega] at e;exact e.symm
def abY {n:Nat} (r:n=dO R) (a:∀i c s,i<n->c∈opt (sW R i)->nS (sW R i) c=some s->i<fK R s/\fK R s<n)
 (d:∀i,i<n->Co R (sW R i)=false->∃c s,c∈opt (sW R i)/\nS (sW R i) c=some s):∀k i,i+k=n->i<n->0<(jl R opt nS n n).getD i 0:=by
 intro k
 induction k using Nat.strongRecOn with
 | _ k ih=>
   intro i t b;rw[WG r (λi c s f e o=>(a i c s f e o).1) b];unfold jk
   split
   ·exact Nat.one_pos
   rename_i q;obtain⟨c,s,g,m⟩:=d i b (by simpa using q);obtain⟨f,e⟩:=a i c s b g m;have p:=ih (n-fK R s) (by omega) (fK R s) (by omega) e;have j:(match nS (sW R i) c with|some s=>(jl R opt nS n n).getD (fK R s) 0|none=>0)∈(opt (sW R i)).map λc=>(match nS (sW R i) c with|some s=>(jl R opt nS n n).getD (fK R s) 0|none=>0):=j8.2 ⟨c,g,rfl⟩;rw[m] at j;have:∀(l:List Nat) (x:Nat),x∈l->x<=l.sum:=λl=>by
    induction l with
    | nil=>intro x h;cases h
    | cons y l ih=>
      intro x h;rw[oS];rcases jt.1 h with rfl|h
      ·omega
      have:=ih x h;omega
   exact kh p (this _ _ j)
end
end
end Go.Proofs.YtmnimbnojdndmaaGreatDoor
namespace Go.Proofs.YtmnimbnojdndmaaGreatDoor
open Go.RowKit Go.Cd
def adk (l:List Nat):nz l=l.map (λd:Nat=>(d:Int)):=rfl
def Pb:∀{R:List bS} {i:Nat},i<dO R->fK R (sW R i)=i
 | [],i,h=>absurd h (by simp[dO])
 | r::R,i,h=>by
   rw[wZ] at h;unfold sW;by_cases a:i<xD r
   ·rw[if_pos a];have c:gU (kM r) (nz (Cn (kM r) i)) (kM r).length=i:=by
     rw[Wn (kM r) i (pQ r) (by rw[<-uV];exact a) _ (adk _) _ (d' _),qK];simp[aW]
    show dO []+gU (kM r) (nz (Cn (kM r) i)) (kM r).length=i;rw[c];show 0+i=i;omega
   rw[if_neg a];have b:=Pb (R:=R) (i:=i-xD r) (by omega);unfold fK at b;show dO ((r::R).take ((sW R (i-xD r)).1+1))+gU (kM (aL R (sW R (i-xD r)).1)) (nz (sW R (i-xD r)).2) (kM (aL R (sW R (i-xD r)).1)).length=i;rw[List.take_succ_cons,wZ];omega
def F_ (bs:List Nat) (n:Nat):∀j,gU bs (nz (List.replicate n 0)) j=0
 | 0=>rfl
 | j+1=>by
   have a:(nz (List.replicate n 0))[j]?.getD 0=0:=by
    simp only[nz,nu];cases e:(List.replicate n 0)[j]? with
    | none=>rfl
    | some x=>
      have:=we (lO e);subst this;rfl
   simp only[gU];rw[F_ bs n j,a];simp
def adl (R:List bS):fK R (s0 R)=0:=by
 unfold fK s0;rw[F_];simp[dO]
def l6 (T:List aG) (l:List Nat):List Nat:=jl (bq (ai T) l) (λs=>b_ (pO (ai T) (aD T) (uY T) (bq (ai T) l) s)) (fw (ai T) (aD T) (bq (ai T) l)) (dO (bq (ai T) l)) (dO (bq (ai T) l))
def w_ (T:List aG) (u:List Nat):(l6 T u).length=dO (bq (ai T) u):=FW _ _ _ _ _
def aal {T:List aG} {l:List Nat} {i c:Nat} {s:eZ} (a:i<dO (bq (ai T) l)) (e:fw (ai T) (aD T) (bq (ai T) l) (sW (bq (ai T) l) i) c=some s):i<fK (bq (ai T) l) s/\fK (bq (ai T) l) s<dO (bq (ai T) l):=by
 have b:=WB (uW a) (pF T c) e;rw[Pb a] at b;exact⟨b,nD (Cq (uW a) e)⟩
def CJ {T:List aG} {l:List Nat} {i:Nat} (a:i<dO (bq (ai T) l)):(l6 T l).getD i 0=jk (bq (ai T) l) (λs=>b_ (pO (ai T) (aD T) (uY T) (bq (ai T) l) s)) (fw (ai T) (aD T) (bq (ai T) l)) (l6 T l) i:=
 WG rfl (λ_ _ _ h _ e=>(aal h e).1) a
def abZ {T:List aG} {X l:List Nat} (f:aY T X) (g:nG T l) {i:Nat} (a:i<dO (bq (ai T) l)):0<(l6 T l).getD i 0:=
 abY rfl (λ_ _ _ h _ e=>aal h e) (λi a j=>by
  have d:=abH f g (uW a) j;obtain⟨c,b⟩:=List.exists_mem_of_ne_nil _ d;obtain⟨s,k⟩:=abt b
  exact⟨c,s,b,k⟩) _ i (Nat.add_sub_cancel' (oT a)) a
section
open Go.RowKit Go.Cd
def WR (l:List Nat) (j:Nat):((nz l)[j]?.getD 0).toNat=l.getD j 0:=by
 simp only[nz,nu,ir];cases l[j]? <;> simp
def QD {bs l m:List Nat} (vl:∀i,i<bs.length->l.getD i 0<bs.getD i 0) (c:∀i,i<bs.length->m.getD i 0<bs.getD i 0) :
 ∀j,j<=bs.length->gU bs (nz l) j=gU bs (nz m) j->∀i,i<j->l.getD i 0=m.getD i 0
 | 0,_,_,_,h=>by omega
 | j+1,hj,e,i,hi=>by
   simp only[gU] at e;rw[WR,WR,show bs[j]?.getD 0=bs.getD j 0 from (ir).symm] at e;have f:=vl j (by omega);have d:=c j (by omega);generalize bs.getD j 0=b at *;generalize g:l.getD j 0=x at *;generalize n:m.getD j 0=y at *;have a:x=y:=by
    have:=congrArg (· % b) e;simpa [vr,rH f,rH d] using this
   have k:gU bs (nz l) j=gU bs (nz m) j:=by
    rw[a] at e;exact Nat.eq_of_mul_eq_mul_right (show 0<b by omega) (Nat.add_right_cancel e)
   by_cases h:i=j
   ·subst h;rw[g,n,a]
   exact QD vl c j (by omega) k i (by omega)
def eQ.oJ {R:List bS} {s:eZ} (h:eQ R s):∀i,i<(kM (aL R s.1)).length->s.2.getD i 0<(kM (aL R s.1)).getD i 0:=by
 intro i c;have a:i<(aL R s.1).2.length:=by rw[<-eO];exact c
 have b:i<s.2.length:=by rw[h.len];exact a
 have:=h.le i b a;rw[ir,ir,gx c,gx b,ox,ox,Ii a];omega
def aas {R:List bS} {s a:eZ} (h:eQ R s) (c:eQ R a) (e:fK R s=fK R a):s=a:=by
 have u:=Az h;have q:=aae h.lt;rw[<-df h.lt] at q;have t:=Az c;have o:=aae c.lt;rw[<-df c.lt] at o;unfold fK at e;have b:∀i k,i<=k->dO (R.take i)<=dO (R.take k):=λi k d=>by
  have:=gG (R.take k) i
  rwa [AC,pZ d] at this
 have p:s.1=a.1:=by
  rcases pR s.1 a.1 with hlt|he|hlt
  ·have:=b (s.1+1) a.1 hlt;omega
  ·exact he
  have:=b (a.1+1) s.1 hlt;omega
 obtain⟨k,ms⟩:=s;obtain⟨m,f⟩:=a;obtain rfl:k=m:=p;have r:=QD h.oJ c.oJ _ (d' _) (by simpa using e);have g:=h.len;have l:=c.len;have:ms=f:=by
  refine List.ext_getElem (g.trans l.symm) λi j n=>?_;have:=r i (by rw[eO];show i<(aL R k).2.length;rw[<-g];exact j);rw[ir,ir,gx j,gx n] at this;exact this
 rw[this]
def Pj {R:List bS} {s:eZ} (h:eQ R s):sW R (fK R s)=s:=aas (uW (nD h)) h (Pb (nD h))
section
variable {K : Nat -> Nat}
def pV (K:Nat->Nat):Nat->List Nat->List Nat
 | _,[]=>[]
 | p,a::t=>if K a=0 then [] else if K a=p then pV K p t else a::pV K (K a) t
def Pk (K:Nat->Nat):List Nat->List Nat
 | []=>[]
 | a::t=>if K a=0 then [a] else pV K 0 (a::t)
def WT:List Nat->List (Nat×List Nat)->List Nat
 | m::ms,x::L=>(if m<x.2.length then [x.2.getD m 0] else [])++WT ms L
 | _,_=>[]
def Gc:∀(ms:List Nat) (L:List (Nat×List Nat)),ms.length=L.length->au ms L L.length=WT ms L
 | [],[],_=>rfl
 | [],_::_,h=>by simp at h
 | _::_,[],h=>by simp at h
 | m::ms,x::L,h=>by
   have a:=Gc ms L (by simpa using h);unfold au at a⊢;rw[im,List.range_succ_eq_map,jx,sO];have e:(λi=>lZ (m::ms) (x::L) (i+1))=lZ ms L:=by funext i;simp[lZ]
   show lZ (m::ms) (x::L) 0++(List.range L.length).flatMap (λi=>lZ (m::ms) (x::L) (i+1))=_;rw[e,a];simp[lZ,WT]
def Mc {n:Nat} (e:n≠0) (b:List Nat):∀t:List Nat,(∀y∈t,K y=n)->pV K n (t++b)=pV K n b
 | [],_=>rfl
 | a::t,h=>by
   have d:=h a (by simp);show(if K a=0 then [] else if K a=n then pV K n (t++b) else _)=_;rw[if_neg (by omega),if_pos d];exact Mc e b t λy c=>h y (kq _ c)
def Md {p:Nat} {rest:List Nat} (h:∀a t,rest=a::t->K a=0):pV K p rest=[]:=by
 cases rest with
 | nil=>rfl
 | cons a t=>
   show(if K a=0 then _ else _)=_;rw[if_pos (h a t rfl)]
def Iq {rest:List Nat} (d:∀a t,rest=a::t->K a=0):∀(ms:List Nat) (L:List (Nat×List Nat)) (p:Nat),ms.length=L.length->Ea K L->(∀x∈L,p<x.1)->pV K p (kQ ms L++rest)=WT ms L
 | [],[],p,_,_,_=>Md d
 | [],_::_,_,h,_,_=>by simp at h
 | _::_,[],_,h,_,_=>by simp at h
 | m::ms,x::L,p,h,hL,hp=>by
   have f:=hL.1 x (by simp);have c:=(mT.1 hL.2).1;show pV K p ((x.2.drop m++kQ ms L)++rest)=(if m<x.2.length then [x.2.getD m 0] else [])++WT ms L;by_cases b:m<x.2.length
   ·rw[if_pos b,jf b,ir,gx b,ox];have i:K x.2[m]=x.1:=f.2 _ (gw b);have:=hp x (by simp);show(if K x.2[m]=0 then [] else if K x.2[m]=p then _ else x.2[m]::pV K (K x.2[m]) ((x.2.drop (m+1)++kQ ms L)++rest))=_;rw[if_neg (by omega),if_neg (by omega),i,kl,Mc (by omega) _ _ (λy j=>f.2 y (l3 j)),Iq d ms L x.1 (by simpa using h) hL.tail (λz e=>c z e)];rfl
   rw[if_neg b,qq (by omega),lf,lf];exact Iq d ms L p (by simpa using h) hL.tail (λz e=>hp z (kq _ e))
def Tv {R:List bS} (h:Ip K R) {s:eZ} (g:eQ R s):ko R s=Pk K (mJ R s):=by
 have c:=F9 h s.1;have d:=h.rest s.1;have i:=Iq d s.2 (aL R s.1).2 0 g.len c (λx j=>(c.1 x j).1);unfold ko;rw[Gc _ _ g.len,<-i];unfold mJ;cases k:kQ s.2 (aL R s.1).2 with
 | nil=>
   rw[lf,Md d,if_pos rfl];by_cases b:s.1+1<R.length
   ·rw[if_pos b,jf b,jx,df b];have h0:K R[s.1+1].1=0:=d _ _ (by rw[jf b,jx];rfl);show _=(if K R[s.1+1].1=0 then _ else _);rw[if_pos h0]
   rw[if_neg b,qq (by omega)];rfl
 | cons a t=>
   have f:K a≠0:=LU c k;have e:pV K 0 (a::t++(R.drop (s.1+1)).flatMap LP)≠[]:=by
    show(if K a=0 then [] else if K a=0 then _ else a::_)≠[];rw[if_neg f,if_neg f];exact List.cons_ne_nil _ _
   rw[if_neg e];show _=(if K a=0 then _ else _);rw[if_neg f];rfl
def Me {R:List bS} (h:Ip K R):∀(l:List Nat) {s:eZ},eQ R s->l.foldlM (λr c=>fE K c r) (mJ R s)=(l.foldlM (iy K R) s).map (mJ R)
 | [],_,_=>rfl
 | c::l,s,hs=>by
   rw[oB,oB];show(fE K c (mJ R s)).bind _=_;rw[WJ h hs];cases a:iy K R s c with
   | none=>rfl
   | some s1=>exact Me h l (aa5 hs a)
def QF {c:Nat}:∀{l l':List Nat},fE K c l=some l'->l'.length+1=l.length
 | [],_,e=>by cases e
 | a::t,l',e=>by
   unfold fE at e
   split at e
   ·split at e
    ·cases e;rfl
    cases e
   split at e
   ·cases e
   split at e
   ·cases hd:fE K c t with
    | none=>rw[hd] at e;cases e
    | some t'=>
      rw[hd] at e;cases e;have:=QF hd;simp only[im];omega
   split at e
   ·cases e;rfl
   cases e
def Mf:∀(F l l':List Nat),F.foldlM (λr c=>fE K c r) l=some l'->l'.length+F.length=l.length
 | [],l,l',e=>by
   have:l=l':=by simpa using e
   rw[this];rfl
 | c::F,l,l',e=>by
   rw[oB] at e;cases hd:fE K c l with
   | none=>rw[hd] at e;cases e
   | some l1=>
     rw[hd] at e;have b:=QF hd;have a:=Mf F l1 l' e;simp only[im];omega
end
variable {T:List aG} {l:List Nat}
def vk (T:List aG) (c:Nat) (l:List Nat):Option (List Nat):=(aD T c).foldlM (λr c=>fE (ai T) c r) l
def Ir (T:List aG) (l:List Nat):List Nat:=b_ ((Pk (ai T) l).flatMap λx=>(uY T x).filter λc=>(vk T c l).isSome)
def cntF (T:List aG):Nat->List Nat->Nat
 | 0,_=>0
 | f+1,l=>if l=[] then 1 else ((Ir T l).map λc=>match vk T c l with|some r=>cntF T f r|none=>0).sum
def oI (T:List aG) (l:List Nat):Nat:=cntF T (l.length+1) l
def xg {c:Nat} {r:List Nat} (h:vk T c l=some r):r.length<l.length:=by
 have:=Mf _ _ _ h;have:=ke.2 (pF T c);omega
def Gd :∀(f g:Nat) (l:List Nat),l.length<f->l.length<g->cntF T f l=cntF T g l
 | 0,_,l,h,_=>by omega
 | _,0,l,_,h=>by omega
 | f+1,g+1,l,hf,hg=>by
   unfold cntF
   split
   ·rfl
   refine congrArg List.sum (mL λc _=>?_);cases hd:vk T c l with
   | none=>rfl
   | some r=>
     have:=xg hd;exact Gd f g r (by omega) (by omega)
def xh (T:List aG):oI T []=1:=rfl
def CY (h:l≠[]):oI T l=((Ir T l).map λc=>match vk T c l with|some r=>oI T r|none=>0).sum:=by
 show(if l=[] then 1 else _)=_;rw[if_neg h];refine congrArg List.sum (mL λc _=>?_);cases hd:vk T c l with
 | none=>rfl
 | some r=>exact Gd _ _ r (xg hd) (sA _)
def Mg {R:List bS} (h:Ip (ai T) R) {s:eZ} (a:eQ R s) (c:Nat):vk T c (mJ R s)=(fw (ai T) (aD T) R s c).map (mJ R):=Me h _ a
def aat {R:List bS} (h:Ip (ai T) R) {s:eZ} (a:eQ R s):b_ (pO (ai T) (aD T) (uY T) R s)=Ir T (mJ R s):=by
 unfold pO Ir;rw[Tv h a];congr 1;refine congrArg (λf=>(Pk (ai T) (mJ R s)).flatMap f) (funext λx=>?_);refine congrArg (λf=>(uY T x).filter f) (funext λc=>?_);rw[Mg h a];cases fw (ai T) (aD T) R s c <;> rfl
def WU (f:nG T l):∀(n:Nat) {s:eZ},eQ (bq (ai T) l) s->(mJ (bq (ai T) l) s).length<=n->(l6 T l).getD (fK (bq (ai T) l) s) 0=oI T (mJ (bq (ai T) l) s):=by
 have d:=WM l.length rfl f.ord;intro n
 induction n with
 | zero=>
   intro s a g;have h0:mJ (bq (ai T) l) s=[]:=tG (by omega);rw[CJ (nD a),h0,xh];unfold jk;rw[Pj a,if_pos ((CB a).2 h0)]
 | succ n ih=>
   intro s a g;by_cases h0:mJ (bq (ai T) l) s=[]
   ·rw[CJ (nD a),h0,xh];unfold jk;rw[Pj a,if_pos ((CB a).2 h0)]
   rw[CJ (nD a),CY h0];unfold jk;rw[Pj a,if_neg (λe=>h0 ((CB a).1 e))];show List.sum ((b_ (pO _ _ _ _ s)).map _)=_;rw[aat d.fine a];refine congrArg List.sum (mL λc _=>?_);have hd:=Mg d.fine a c;rw[hd];cases b:fw (ai T) (aD T) (bq (ai T) l) s c with
   | none=>rfl
   | some s'=>
     rw[b] at hd;have:=xg hd;exact ih (Cq a b) (by omega)
def yJ (b:nG T l):(l6 T l).getD 0 0=oI T l:=by
 have a:=WM l.length rfl b.ord;have h:=WU b _ (agA a.ne) (d' _)
 rwa [adl,adj a] at h
end
end Go.Proofs.YtmnimbnojdndmaaGreatDoor
namespace Go.Proofs.YtmnimbnojdndmaaGreatDoor
open Go.RowKit Go.Cd _root_.Go.Proofs.Tryz
variable {T:List aG} {X:List Nat}
def yI (T:List aG):List Nat:=(mapped T).flatMap λr=>(aD T r.code).drop 1
def adm {E:List eB} (h:E.map (·.1)=(mapped T).map (·.code)):BH T E=yI T:=by
 have a:BH T E=(E.map (·.1)).flatMap λc=>(aD T c).drop 1:=by unfold BH;rw[sO]
 have b:yI T=((mapped T).map (·.code)).flatMap λc=>(aD T c).drop 1:=by unfold yI;rw[sO]
 rw[a,b,h]
def CQ (T:List aG) (c:Nat):Bool:=decide (c∈yI T)||(hk c==2||hk c==3)
def WN (a:aY T X):(yI T).length<=32*T.length:=by
 have key:∀L:List aG,(L.flatMap λr=>(aD T r.code).drop 1).length<=32*L.length:=λL=>by
  induction L with
  | nil=>simp
  | cons r L ih=>
    rw[jx,gn,rK,im];have:=il a r.code;omega
 refine ia (key _) (sT _ (lr _ _))
def LW {w:World} {p:Nat} (h:cK w p T X) (x:aY T X) (J:T.length<1000) (c:Nat) (B:c<1114112) :
 Calls prog 132 #[.pointer (some ⟨p,0,none⟩),.int .i32 c] w λe w'=>e=.returned (.bool (CQ T c))/\Below w.heap.size w w':=by
 obtain⟨E,K,xv,S,O,R,N,L,F,Q,P,f,_,_,i,_⟩:=h;have u:=f.is;rw[adm f.mG] at i;have o:=(lq (yI T)).1;have a:(lC (gu (yI T))).length<1000000:=by
  have f:=AZ (gu (yI T));have q:=xR (yI T);have j:=WN x;omega
 obtain⟨t,b⟩:=ae (decide (places (lC (gu (yI T))) c % 2=1));have r:=aa (λ(W:World) (E:Below w.heap.size w W)=>J8 (w:=W) (lC (gu (yI T))) c ((Sl.aU i).any.mono E) a (Ey o));rw[<-b] at r;have s:CQ T c=(t||(hk c==2||hk c==3)):=by
  unfold CQ;congr 1;rw[b,decide_eq_decide,JA o,(lq (yI T)).2]
 rw[s];have l:=aa (rQ (w:=w) c B);obtain⟨k,d⟩:=ae (hk c);have m:=vU c;rw[<-d] at l m⊢;have n:=ak i;obtain⟨I,H,rfl,_,_⟩:=n;have y:=u.at 7 rfl;clear f i u o a b s d;go_enter func132,ntmps132;go_wp2_with fail;refine l.out.mono ?_;rintro e v⟨rfl,A⟩;obtain rfl:v=w:=A;go_wp2_with fail;refine(r.out v (gS _ _)).mono ?_;rintro e M⟨rfl,g⟩;clear r l y;cases t with
 | true=>
   go_wp2_with fail;go_ret;exact⟨by simp,g⟩
 | false=>
   by_cases q:k=2
   ·subst q;go_wp2_with fail;go_ret;exact⟨by simp,g⟩
   have:((k:Int)==2)=false:=by simp;omega
   have z:(k==2)=false:=by simp[q]
   by_cases j:k=3
   ·subst j;go_wp2_with fail;go_ret;exact⟨by simp,g⟩
   have:((k:Int)==3)=false:=by simp;omega
   have C:(k==3)=false:=by simp[j]
   go_wp2_with fail;go_ret;exact⟨by simp[z,C],g⟩
def kF (T:List aG) (c:Nat):Bool:=(ai T ((aD T c).headD 0)==0)&&!CQ T ((aD T c).headD 0)
def Ga {c:Nat}:(aD T c).head? = some ((aD T c).headD 0):=by
 have:=pF T c;cases h:aD T c with
 | nil=>exact absurd h this
 | cons a l=>rfl
def LZ {w:World} {p:Nat} (h:cK w p T X) (s:aY T X) (A:T.length<1000) (c:Nat) (u:aP c) :
 Calls prog 90 #[.pointer (some ⟨p,0,none⟩),.int .i32 c] w λe w'=>e=.returned (.bool (kF T c))/\Below w.heap.size w w':=by
 have t:c<1114112:=u.1;have x:=aa (gZ (w:=w) c (by omega));rw[decide_eq_true u] at x;have K:=aa (pG h s A c t);obtain⟨f,hf⟩:=ae ((aD T c).headD 0);have q:f∈aD T c:=by
  have i:=Ga (T:=T) (c:=c);rw[<-hf] at i;exact List.mem_of_head? i
 have m:=(ow s u q).1;have H:=aa (λ(W:World) (E:Below w.heap.size w W)=>iM (h.mono E) s f m);have I:=aa (λ(W:World) (E:Below w.heap.size w W)=>LW (h.mono E) s A f m);have v:kF T c=((ai T f==0)&&!CQ T f):=by unfold kF;rw[<-hf]
 rw[v];obtain⟨k,B⟩:=ae (ai T f);obtain⟨b,o⟩:=ae (CQ T f);rw[<-B] at H⊢;rw[<-o] at I⊢;have Q:=aa hf;have a:=ke.2 (pF T c);clear h B o v hf q;go_enter func90,ntmps90;go_wp2_with fail;refine x.out.mono ?_;rintro e N⟨rfl,P⟩;obtain rfl:N=w:=P;go_wp2_with fail;refine K.out.mono ?_;rintro e D⟨r,rfl,F,C⟩;obtain⟨g,cap,rfl,_,_,_,_,d⟩:=dz F a;have L:D.cell? ⟨g,0,none⟩=some (.int .i32 (f:Nat)):=by
  refine d 0 _ ?_;rw[Q.out,gx (by simpa using a),dR _ _ a];congr 2;have i:=Ga (T:=T) (c:=c);rw[List.head?_eq_getElem?,gx a] at i;injection i with i;rw[i]
 obtain⟨n,G⟩:=ae ((aD T c).length);rw[<-G] at a⊢;clear F d G;go_wp2_with fail;refine(H.out D C).mono ?_;rintro e M⟨rfl,J⟩;have j:=af C J;clear L;by_cases l:k=0
 ·subst l;have z:((0:Nat):Int)=0:=rfl;go_wp2_with fail;refine(I.out M j).mono ?_;rintro e R⟨rfl,O⟩;go_wp2_with fail;go_ret;exact⟨by simp,af j O⟩
 have z:((k:Int)==0)=false:=by simp;omega
 have y:(k==0)=false:=by simp[l]
 go_wp2_with fail;go_ret;exact⟨by simp[y],j⟩
section
open Go.RowKit Go.Cd
section
variable {K : Nat -> Nat}
end
def Tw {T:List aG} {c:Nat} (h:mapOf T c=[]):aD T c=[c]:=iK h _
end
end Go.Proofs.YtmnimbnojdndmaaGreatDoor
