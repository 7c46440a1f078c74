/- Texts that are alike cost, and count, the same; no condition. -/
import Derived.Test.YtmnimbnojdndmaaGreatDoorU05
import Derived.Lib.Split
import Derived.Lib.Atoi
import Derived.Lib.QuietBelow
import Derived.Maps.AppendAt
set_option maxRecDepth 100000
set_option maxHeartbeats 6400000
set_option linter.all false
namespace Go.Cd
def lJ (d:Nat):UInt8:=if d<10 then UInt8.ofNat (48+d) else UInt8.ofNat (55+d)
def jw:Nat->Nat->List UInt8
 | 0,_=>[]
 | k+1,n=>jw k (n / 16)++[lJ (n % 16)]
def j6 (n:Nat):Nat:=if n<65536 then 4 else if n<1048576 then 5 else 6
def aV (n:Nat):List UInt8:=jw (j6 n) n
theorem qH:∀(k n:Nat),(jw k n).length=k
 | 0,_=>rfl
 | k+1,n=>by unfold jw;rw [d',qH];rfl
theorem Rf (n:Nat):4<=j6 n∧j6 n<=6:=by
 unfold j6
 repeat' split
 all_goals decide
theorem bU (n:Nat):4<=(aV n).length∧(aV n).length<=6:=by unfold aV;rw [qH];exact Rf n
theorem UW:∀d,d<16->(lJ d).toNat=if d<10 then 48+d else 55+d:=by decide
def mD (v:Nat):List Nat->Nat
 | []=>v
 | d::l=>mD (v*16+d) l
theorem qI:∀(l m:List Nat) (v:Nat),mD v (l++m)=mD (mD v l) m
 | [],_,_=>rfl
 | d::l,m,v=>qI l m _
def g_:Nat->Nat->List Nat
 | 0,_=>[]
 | k+1,n=>g_ k (n / 16)++[n % 16]
theorem lK:∀(k n:Nat),jw k n=(g_ k n).map lJ
 | 0,_=>rfl
 | k+1,n=>by unfold jw g_;rw [js,lK k];rfl
theorem nZ:∀(k n:Nat),∀d∈g_ k n,d<16
 | 0,_=>by simp [g_]
 | k+1,n=>by
   intro d hd;unfold g_ at hd;rcases gR.1 hd with h|h
   ·exact nZ k _ d h
   ·rw [gC.1 h];omega
theorem xW:∀(k n:Nat),(g_ k n).length=k
 | 0,_=>rfl
 | k+1,n=>by unfold g_;rw [d',xW];rfl
theorem Bc:∀(k n:Nat),n<16 ^ k->mD 0 (g_ k n)=n
 | 0,n,h=>by simp at h;subst h;rfl
 | k+1,n,h=>by
   unfold g_;rw [qI,Bc k (n / 16) (by rw [me] at h;omega)];show (n / 16)*16+n % 16=n;omega
theorem uB:∀(k n:Nat),16 ^ k<=n->∀d,(g_ (k+1) n)[0]? = some d->n<16 ^ (k+1)->d≠0
 | 0,n,h,d,hd,hn=>by
   simp [g_] at hd;simp at hn h;omega
 | k+1,n,h,d,hd,hn=>by
   unfold g_ at hd;rw [kn (by rw [xW];omega)] at hd;refine uB k (n / 16) ?_ d hd ?_
   ·rw [me] at h;rw [Nat.le_div_iff_mul_le (by decide)];exact h
   ·rw [me] at hn;exact tM (by rw [mS];exact hn)
theorem UX {n:Nat} (h:n<1114112):n<16 ^ j6 n:=by
 unfold j6
 repeat' split
 ·simpa using ‹n<65536›
 ·simpa using ‹n<1048576›
 ·have:(16:Nat) ^ 6=16777216:=by decide
  omega
theorem Rh {n:Nat} (h:n<1114112) (hl:4<(aV n).length):∀b,(aV n)[0]? = some b->b≠48:=by
 intro b hb;unfold aV at hl hb;rw [qH] at hl;rw [lK,nE] at hb;cases e:(g_ (j6 n) n)[0]? with
 | none=>rw [e] at hb;cases hb
 | some d=>
   rw [e] at hb;simp only [xp,yy] at hb;have h0:d≠0:=by
    unfold j6 at hl e
    split at hl
    ·omega
    ·split at hl
     ·rename_i h1 h2;rw [if_neg h1,if_pos h2] at e;exact uB 4 n (by simpa using h1) d e (by simpa using h2)
     ·rename_i h1 h2;rw [if_neg h1,if_neg h2] at e
      exact uB 5 n (by simpa using h2) d e (by have:(16:Nat) ^ 6=16777216:=by decide
                                               omega)
   have hd:d<16:=nZ _ _ d (lA e);rintro rfl;have:=congrArg UInt8.toNat hb;rw [UW d hd] at this
   split at this <;> simp at this <;> omega
def iP (n:Nat):List UInt8:=
 if n<10 then [UInt8.ofNat (48+n)] else if n<100 then [UInt8.ofNat (48+n / 10),UInt8.ofNat (48+n % 10)]
 else [UInt8.ofNat (48+n / 100),UInt8.ofNat (48+n / 10 % 10),UInt8.ofNat (48+n % 10)]
def dD:List Nat->List UInt8
 | []=>[]
 | [c]=>aV c
 | c::d::l=>aV c++32::dD (d::l)
def ae5 (r:aG):List (List UInt8):=[aV r.code,[88],[],iP r.cls,[],dD r.map,[],[],[],[],[],[],[],[],[]]
def kD (r:aG):List UInt8:=aV r.code++[59,88,59,59]++iP r.cls++[59,59]++dD r.map++[59,59,59,59,59,59,59,59,59]
def bA (l:List (List UInt8)):List UInt8:=l.flatMap fun x=>x++[10]
def iV (T:List aG):List UInt8:=bA (T.map kD)
def dW:List Nat->List Nat->List Nat
 | _,[]=>[]
 | seen,c::l=>if c∈seen then dW (seen++[c]) l else c::dW (seen++[c]) l
def eP (X:List Nat):List UInt8:=bA ((dW [] X).map aV)
def eH (b:UInt8):Prop:=32<=b.toNat∧b.toNat<=126
theorem Nu:∀d,d<16->eH (lJ d)∧lJ d≠59∧lJ d≠32∧lJ d≠35∧lJ d≠60:=by unfold eH;decide
theorem dX (n:Nat):∀b∈aV n,eH b∧b≠59∧b≠32∧b≠35∧b≠60:=by
 intro b hb;unfold aV at hb;rw [lK] at hb;obtain ⟨d,hd,rfl⟩:=jx.1 hb;exact Nu d (nZ _ _ d hd)
theorem xX:∀d,d<10->eH (UInt8.ofNat (48+d))∧UInt8.ofNat (48+d)≠59:=by unfold eH;decide
theorem Nv {n:Nat} (h:n<1000):∀b∈iP n,eH b∧b≠59:=by
 intro b hb;unfold iP at hb
 repeat' split at hb
 all_goals simp only [jf,km,or_false] at hb
 ·rw [hb];exact xX _ (by omega)
 ·rcases hb with rfl|rfl <;> exact xX _ (by omega)
 ·rcases hb with rfl|rfl|rfl <;> exact xX _ (by omega)
theorem Bd:∀(l:List Nat),∀b∈dD l,eH b∧b≠59
 | [],b,h=>by simp [dD] at h
 | [c],b,h=>⟨(dX c b h).1,(dX c b h).2.1⟩
 | c::d::l,b,h=>by
   unfold dD at h;rcases gR.1 h with h|h
   ·exact ⟨(dX c b h).1,(dX c b h).2.1⟩
   ·rcases jf.1 h with rfl|h
    ·unfold eH;decide
    ·exact Bd (d::l) b h
theorem vY (n:Nat):1<=(iP n).length∧(iP n).length<=3:=by
 unfold iP
 repeat' split
 all_goals simp
theorem n_ {l:List Nat} (h:l.length<=2):(dD l).length<=13:=by
 match l,h with
 | [],_=>simp [dD]
 | [c],_=>have:=bU c;simp only [dD];omega
 | [c,d],_=>have:=bU c;have:=bU d;simp only [dD,d',hU];omega
theorem EY {r:aG} (h:r.map.length<=2):(kD r).length<=37:=by
 have h1:=bU r.code;have h2:=vY r.cls;have h3:=n_ h;unfold kD;simp only [d',hU,ki];omega
end Go.Cd
namespace Go.Cd
open Go.Lib
def uC (c:UInt8):∀(p r:List UInt8),c∉p->index (p++c::r) [c]=p.length
 | [],r,_=>by
   show index (c::r) [c]=0;unfold index;rw[if_pos (by simp[List.isPrefixOf])]
 | b::p,r,h=>by
   have d:=uC c p r (λa=>h (by simp[a]));show index (b::(p++c::r)) [c]=_;unfold index;have e:c≠b:=λa=>h (by simp[a]);rw[if_neg (by simp[List.isPrefixOf,e]),d];rw[if_neg (by simp)];simp
def mW (c:UInt8):∀(p:List UInt8),c∉p->index p [c]=-1
 | [],_=>rfl
 | b::p,h=>by
   have d:=mW c p (λa=>h (by simp[a]));unfold index;have e:c≠b:=λa=>h (by simp[a]);rw[if_neg (by simp[List.isPrefixOf,e]),d];rfl
def bH (c:UInt8):List (List UInt8)->List UInt8
 | []=>[]
 | [p]=>p
 | p::q::l=>p++c::bH c (q::l)
def Be (c:UInt8):∀(l:List (List UInt8)),l≠[]->(∀p∈l,c∉p)->split (bH c l) [c]=l
 | [],h,_=>absurd rfl h
 | [p],_,h=>by
   have:=mW c p (h p (by simp));show splitK [c] 0 (count p [c]) p=[p];rw[count_miss this];rfl
 | p::q::l,_,h=>by
   have e:=Be c (q::l) (by simp) (λx d=>h x (by simp[d]));have b:=uC c p (bH c (q::l)) (h p (by simp));show splitK [c] 0 (count (p++c::bH c (q::l)) [c]) (p++c::bH c (q::l))=_;have hd:(p++c::bH c (q::l)).drop (p.length+1)=bH c (q::l):=by
    rw[show p++c::bH c (q::l)=(p++[c])++bH c (q::l) by simp,List.drop_left' (by simp)]
   rw[count_hit (by simp) b,xj 1];unfold splitK;rw[b,if_neg (by simp)];show(p++c::bH c (q::l)).take (p.length+0)::splitK [c] 0 _ ((p++c::bH c (q::l)).drop (p.length+1))=_;rw[List.take_left' (by simp)];simp only[q_];rw[hd];have a:splitK [c] 0 (count (bH c (q::l)) [c]) (bH c (q::l))=q::l:=e;rw[a]
def Nw (r:aG):kD r=bH 59 (ae5 r):=by
 unfold kD ae5;simp[bH]
def rV:∀(l:List Nat),dD l=bH 32 (l.map aV)
 | []=>rfl
 | [c]=>rfl
 | c::d::l=>by
   show aV c++32::dD (d::l)=aV c++32::bH 32 (aV d::l.map aV);rw[rV (d::l)];rfl
def UY:List UInt8:=[48,49,50,51,52,53,54,55,56,57,65,66,67,68,69,70]
def Ac:∀d,d<16->indexByte UY (lJ d)=d:=by decide
def UZ (n:Nat):cut (aV n) [35]=(aV n,[],false):=by
 unfold cut;rw[mW 35 (aV n) (λh=>(dX n _ h).2.2.2.1 rfl)];rfl
def Ri:∀n,n<255->atoi (iP n)=some (n:Int):=by decide
end Go.Cd
namespace Go.Proofs.YtmnimbnojdndmaaGreatDoor
open Go.RowKit Go.Cd _root_.Go.Proofs.Tryz
def EZ (l:List Nat) (d:Nat):mD 0 (l++[d])=mD 0 l*16+d:=by rw[qI];rfl
def Qh:∀(l:List Nat) (v:Nat),(∀d∈l,d<16)->mD v l<(v+1)*16 ^ l.length
 | [],v,_=>by simp[mD]
 | d::l,v,h=>by
   have a:=Qh l (v*16+d) λx b=>h x (kj _ b);have:=h d (n7 ..);show mD (v*16+d) l<_;refine j9 a ?_;rw[hU,me,mS (16 ^ l.length) 16,<-qS];exact nh _ (by omega)
def toUInt8_toNat (b:UInt8):b.toNat.toUInt8=b:=by simp
def qJ {w:World} (c:Nat) (K:c<1114112) :
 Calls prog 188 #[.string (tx (aV c))] w λe w'=>e=.returned (.tuple #[.int .i32 c,.bool true])/\w'=w:=by
 obtain⟨s,i⟩:=ae (tx (aV c));obtain⟨a,l⟩:=ae (g_ (j6 c) c);have z:aV c=a.map lJ:=by rw[l];exact lK _ _
 have m:∀d∈a,d<16:=by rw[l];exact nZ _ _
 have o:mD 0 a=c:=by rw[l];exact Bc _ _ (UX K)
 obtain⟨n,u⟩:=ae a.length;have C:s.size=n:=by rw[i,aX,z,ia,u]
 have L:4<=n/\n<=6:=by
  have:=bU c;rw[z,ia,<-u] at this;exact this
 have k:0<s.size:=by omega
 have p:4<n->(s[0]'k).toNat≠48:=by
  intro D e;subst i;rw[EW] at e;have h:=Rh K (by rw[z,ia,<-u];exact D) ((aV c)[0]'(by rwa [aX] at k)) (gA _);apply h;rw[<-UInt8.toNat_inj];exact e
 have v:=aa (show ∀(W:World) (j:Nat) (t:j<s.size) (H:j<a.length),Calls prog 210 #[.string ⟨#[48,49,50,51,52,53,54,55,56,57,65,66,67,68,69,70]⟩,.int .u8 ((s[j]'t).toNat:Int)] W λe w'=>e=.returned (.int .i64 (a[j]:Nat))/\w'=W from λW j t H=>by
  have h:=Tryz.strings_IndexByte ⟨#[48,49,50,51,52,53,54,55,56,57,65,66,67,68,69,70]⟩ ((s[j]'t).toNat:Int) W;have q:(((s[j]'t).toNat:Int)).toNat.toUInt8=lJ a[j]:=by
   rw[oT,toUInt8_toNat];subst i;rw[EW];simp only[z,nf]
  rw[q,show(⟨#[48,49,50,51,52,53,54,55,56,57,65,66,67,68,69,70]⟩:ByteArray).data.toList=UY from rfl,Ac _ (m _ (gx _))] at h
  exact h)
 have I:=aa (show ∀j,mD 0 (a.take j)<16777216 from λj=>by
  have:=Qh (a.take j) 0 λd hd=>m d (rl hd);have S:(16:Nat) ^ (a.take j).length<=16 ^ 6:=kf (by decide) (by rw[iS];omega);have T:(16:Nat) ^ 6=16777216:=by decide
  omega)
 have x:=aa o;have J:=aa m;have A:=aa u;have U:=aa C;rw[<-i];clear i l z m o u;go_enter func188,ntmps188;by_cases D:4<n
 ·obtain⟨B,g⟩:∃B:Nat,B=(s[0]'k).toNat:=⟨_,rfl⟩;have X:((s[0]'k).toNat:Int)=(B:Int):=by rw[g]
  have P:((B:Int)==48)=false:=by have:=p D;rw[<-g] at this;simp;omega
  clear p g;go_wp2_with fail;go_loopw [4,27] (λnv r wr=>∃j:Nat,j<=n/\r=.int .i64 j/\nv=.int .i64 ((mD 0 (a.take j):Nat):Int)/\wr=w) (λ_ r _=>n-(intOf r).toNat)
  case atStart=>exact⟨0,gW _,rfl,rfl,(by first|rfl|trivial)⟩
  case round=>
   obtain⟨j,t,rfl,rfl,rfl⟩:=hrel;by_cases E:j<n
   ·have b:j<s.size:=by omega
    have f:j<a.length:=by have:=A.out;omega
    have y:=aa (λW=>v.out W j b f);have hd:=J.out _ (gx f);have F:=aa (show mD 0 (a.take (j+1))=mD 0 (a.take j)*16+a[j] by rw[gE f,EZ]);have R:=I.out j;generalize a[j]=d at *;generalize mD 0 (a.take j)=V at *;obtain⟨B,g⟩:∃B:Nat,B=(s[j]'b).toNat:=⟨_,rfl⟩;rw[<-g] at y;have M:((s[j]'b).toNat:Int)=(B:Int):=by rw[g]
    clear g;go_wp2_with fail;refine(y.out _).mono ?_;rintro e N⟨rfl,rfl⟩;go_wp2;go_roundw
    case rel=>exact⟨j+1,by omega,rfl,by rw[F.out];simp,(by first|rfl|trivial)⟩
    case measure=>simp[intOf];omega
   have G:j=n:=by omega
   have q:mD 0 (a.take j)=c:=by rw[ie (by rw[<-A.out];omega)];exact x.out
   have Q:¬(1114111:Int)<(c:Int):=by omega
   have O:¬(j:Int)<(n:Int):=by omega
   rw[q];clear q G;go_wp2;go_ret2;exact⟨rfl,rfl⟩
 clear p;go_wp2_with fail;go_loopw [4,27] (λnv r wr=>∃j:Nat,j<=n/\r=.int .i64 j/\nv=.int .i64 ((mD 0 (a.take j):Nat):Int)/\wr=w) (λ_ r _=>n-(intOf r).toNat)
 case atStart=>exact⟨0,gW _,rfl,rfl,(by first|rfl|trivial)⟩
 case round=>
  obtain⟨j,t,rfl,rfl,rfl⟩:=hrel;by_cases E:j<n
  ·have b:j<s.size:=by omega
   have f:j<a.length:=by have:=A.out;omega
   have y:=aa (λW=>v.out W j b f);have hd:=J.out _ (gx f);have F:=aa (show mD 0 (a.take (j+1))=mD 0 (a.take j)*16+a[j] by rw[gE f,EZ]);have R:=I.out j;generalize a[j]=d at *;generalize mD 0 (a.take j)=V at *;obtain⟨B,g⟩:∃B:Nat,B=(s[j]'b).toNat:=⟨_,rfl⟩;rw[<-g] at y;have M:((s[j]'b).toNat:Int)=(B:Int):=by rw[g]
   clear g;go_wp2_with fail;refine(y.out _).mono ?_;rintro e N⟨rfl,rfl⟩;go_wp2;go_roundw
   case rel=>exact⟨j+1,by omega,rfl,by rw[F.out];simp,(by first|rfl|trivial)⟩
   case measure=>simp[intOf];omega
  have G:j=n:=by omega
  have q:mD 0 (a.take j)=c:=by rw[ie (by rw[<-A.out];omega)];exact x.out
  have Q:¬(1114111:Int)<(c:Int):=by omega
  have O:¬(j:Int)<(n:Int):=by omega
  rw[q];clear q G;go_wp2;go_ret2;exact⟨rfl,rfl⟩
end Go.Proofs.YtmnimbnojdndmaaGreatDoor
namespace Go.Cd
section
open Go.Lib
def gz (nm:List UInt8) (r:aG):List (List UInt8):=[aV r.code,nm,[],iP r.cls,[],dD r.map,[],[],[],[],[],[],[],[],[]]
def eu (nm:List UInt8) (r:aG):List UInt8:=bH 59 (gz nm r)
def YY (r:aG):eu [88] r=kD r:=(Nw r).symm
def kS:List UInt8:=[44,32,70,105,114,115,116,62]
def Ny:List UInt8:=[44,32,76,97,115,116,62]
def U0:List (List UInt8):=[[60,72,97,110,103,117,108,32,83,121,108,108,97,98,108,101],
 [60,78,111,110,32,80,114,105,118,97,116,101,32,85,115,101,32,72,105,103,104,32,83,117,114,114,111,103,97,116,101],
 [60,80,114,105,118,97,116,101,32,85,115,101]]
inductive qg:List UInt8->List UInt8->List UInt8->Bool->Prop
 | row:qg [] [88] [] false
 | fst (b:List UInt8) (hb:b∈U0):qg [] (b++kS) (b++kS) true
 | lst (b:List UInt8) (hb:b∈U0):qg (b++kS) (b++Ny) [] true
def Bf:∀b∈U0,(b++kS≠[]/\b++Ny≠[]/\(b++kS).length<=60/\(b++Ny).length<=60/\(∀x∈b++kS,(32<=x.toNat/\x.toNat<=126)/\x≠59)/\∀x∈b++Ny,(32<=x.toNat/\x.toNat<=126)/\x≠59):=by decide
def qg.name {o nm o':List UInt8} {a:Bool} (h:qg o nm o' a):nm≠[]/\nm.length<=60/\∀x∈nm,eH x/\x≠59:=by
 cases h with
 | row=>refine⟨by simp,by simp,?_⟩;unfold eH;decide
 | fst b hb=>have:=Bf b hb;exact⟨this.1,this.2.2.1,this.2.2.2.2.1⟩
 | lst b hb=>have:=Bf b hb;exact⟨this.2.1,this.2.2.2.1,this.2.2.2.2.2⟩
def wC (c:UInt8):∀l:List (List UInt8),(bH c l).length<=(l.map λp=>p.length+1).sum
 | []=>by simp[bH]
 | [p]=>by simp[bH]
 | p::q::l=>by
   have:=wC c (q::l);show(p++c::bH c (q::l)).length<=_;rw[d',hU,kt,pd];omega
def E9 {P:UInt8->Prop} {c:UInt8} (d:P c):∀{l:List (List UInt8)},(∀p∈l,∀b∈p,P b)->∀b∈bH c l,P b
 | [],_,b,a=>by simp[bH] at a
 | [p],h,b,a=>h p (by simp) b a
 | p::q::l,h,b,a=>by
   have a:b∈p++c::bH c (q::l):=a;rcases gR.1 a with a|a
   ·exact h p (by simp) b a
   rcases jf.1 a with rfl|a
   ·exact d
   exact E9 d (l:=q::l) (λp e=>h p (by simp[e])) b a
section
variable {nm : List UInt8} {r : aG} (hn : nm.length <= 60 /\ ∀ x ∈ nm, eH x /\ x ≠ 59) (hc : r.cls < 255)
include hn hc
def Bh:∀p∈gz nm r,∀b∈p,eH b/\b≠59:=by
 intro p c b a;unfold gz at c;simp only[jf,km,or_false] at c;rcases c with rfl|rfl|rfl|rfl|rfl|rfl|rfl|rfl|rfl|rfl|rfl|rfl|rfl|rfl|rfl
 ·exact⟨(dX _ b a).1,(dX _ b a).2.1⟩
 ·exact hn.2 b a
 ·simp at a
 ·exact Nv (by omega) b a
 ·simp at a
 ·exact Bd _ b a
 all_goals simp at a
def JM:∀b∈eu nm r,eH b:=E9 (by unfold eH;decide) λp c b a=>(Bh hn hc p c b a).1
def kU (a:r.map.length<=2):(eu nm r).length<=100:=by
 have _:=hc;have b:=bU r.code;have d:=vY r.cls;have c:=n_ a;have:=wC 59 (gz nm r);have h0:=hn.1;unfold eu;refine gS this ?_;simp only[gz,kt,sR,pd,List.sum_nil,ki];omega
end
structure iE where
 nm:List UInt8
 r:aG
 op:List UInt8
 pl:Bool
def iE.t (l:iE):List UInt8:=eu l.nm l.r
def tL (r:aG):iE:=⟨[88],r,[],false⟩
def og (I:List iE):List aG:=(I.filter λl=>!l.pl).map (·.r)
def E_ (T:List aG):og (T.map tL)=T:=by
 unfold og;rw[qt.2 (by intro l a;obtain⟨r,_,rfl⟩:=jx.1 a;rfl),mB];exact tj _
def Rj (T:List aG):(T.map tL).map iE.t=T.map kD:=by
 rw[mB];exact mw λr _=>YY r
end
end Go.Cd
section
namespace Go.Cd
open Go.Lib
def Bi (c:UInt8):∀(l:List (List UInt8)),l≠[]->(∀p∈l,c∉p)->count (bH c l) [c]+1=l.length
 | [],h,_=>absurd rfl h
 | [p],_,h=>by
   have:=mW c p (h p (by simp));show count p [c]+1=1;rw[count_miss this]
 | p::q::l,_,h=>by
   have a:=Bi c (q::l) (by simp) (λx d=>h x (by simp[d]));have b:=uC c p (bH c (q::l)) (h p (by simp));have hd:(p++c::bH c (q::l)).drop (p.length+1)=bH c (q::l):=by
    rw[show p++c::bH c (q::l)=(p++[c])++bH c (q::l) by simp,List.drop_left' (by simp)]
   show count (p++c::bH c (q::l)) [c]+1=_;rw[count_hit (by simp) b];simp only[q_];rw[hd,hU,<-a];omega
end Go.Cd
namespace Go.Proofs.YtmnimbnojdndmaaGreatDoor
open Go.RowKit Go.Cd Go.Sort
structure dL (w:World):Prop where
 ml:∃m,w.cell? ⟨1,0,none⟩=some (.int .i64 m)
 p10:Lib.TabIs Tryz.prog w "internal/strconv.uint64pow10" .u64 Lib.pow10Tab
 dbr:w.cell? ⟨9,15,none⟩=some (.int .u8 4)
def Nz {P:Program} {w w':World} {s:String} {k:IntKind} {zs:List Int} (h:Lib.TabIs P w s k zs) (b:Below w.heap.size w w'):Lib.TabIs P w' s k zs:=by
 unfold Lib.TabIs World.var? at *;cases e:P.globalNamed s with
 | none=>rw[e] at h;cases h
 | some g=>
   rw[e] at h;simp only[Option.bind_some] at h⊢;have a:g<w.heap.size:=by
    rcases j' g w.heap.size with h1|h1
    ·exact h1
    rw[kp h1] at h;cases h
   rw[b.block g a];exact h
def dL.mono {w w':World} (h:dL w) (a:Below w.heap.size w w'):dL w':=
 ⟨by obtain⟨m,b⟩:=h.ml;exact⟨m,aB a b⟩,Nz h.p10 a,aB a h.dbr⟩
def JN (w:World) (e:TypeId) (s:ByteArray):Below w.heap.size w (Lib.bytesWorld w e s):=
 ⟨rfl,rfl,rfl,by rw[Lib.bytesWorld_size];omega,λk a=>Lib.bytesWorld_at_old w _ s k a⟩
def zo (w:World) (k:Nat) (os:Array Obj):Below w.heap.size w (grow (w.drewN k) os):=
 ⟨rfl,rfl,rfl,by show w.heap.size<=(w.heap++os).size;rw[Array.size_append];omega,λj a=>by
   show(w.heap++os)[j]? = _
   rw[Array.getElem?_append_left a]⟩
def Fa (n:Nat) (h:n<1000):Lib.itoa (n:Int)=iP n:=by
 unfold Lib.itoa iP;rw[if_neg (by omega),oT];by_cases a:n<10
 ·rw[if_pos a,Lib.decDigits_one a]
 rw[if_neg a];by_cases b:n<100
 ·rw[if_pos b,Lib.decDigits_two a b]
 rw[if_neg b,Lib.decDigits,dif_neg a,Lib.decDigits_two (by omega) (by omega)];rw[my];rfl
def dM (l:List UInt8):(tx l).data.toList=l:=by simp[tx]
def JO {w:World} (n:dL w) (c:Nat) (l:c<255) :
 Calls Tryz.prog 213 #[.string (tx (iP c)),.int .i64 254] w λe w'=>e=.returned (.tuple #[.int .i64 c,.bool true])/\Below w.heap.size w w':=by
 have i:=aa (Tryz.strconv_Atoi (tx (iP c)) c (by rw[aX];have:=(vY c).2;omega) (by rw[dM];exact Ri c l) w)
 have f:=aa (show ∀W,dL W->Calls Tryz.prog 159 #[.int .i64 c] W λe w'=>e=.returned (.string (tx (iP c)))/\∃k os,w'=grow (W.drewN k) os from λW h=>by
  have:=Tryz.strconv_Itoa c (by omega) (by omega) W h.p10;rw[Fa c (by omega)] at this
  exact this)
 have j:=aa n;generalize tx (iP c)=S at *;have o:¬(c:Int)<0:=by omega
 have p:¬(254:Int)<(c:Int):=by omega
 go_enter Tryz.func213,Tryz.ntmps213;go_wp2_with fail;refine i.out.mono ?_;rintro e a⟨rfl,t,rfl⟩;have d:=JN w 5 t;have g:=aa (j.out.mono d);generalize Lib.bytesWorld w 5 t=a at *;go_wp2_with fail;refine(f.out _ g.out).mono ?_;rintro e m⟨rfl,k,os,rfl⟩;have b:=zo a k os;generalize grow (a.drewN k) os=m at *;go_wp2;go_ret2;exact⟨rfl,af d b⟩
def DI {w:World} (u:dL w) (c:Nat) :
 Calls Tryz.prog 150 #[.string (tx (aV c))] w λe w'=>e=.returned (.string (tx (aV c)))/\Below w.heap.size w w':=by
 obtain⟨m,o⟩:=u.ml;have v:(tx (aV c)).size<=6:=by rw[aX];exact(bU c).2
 have p:=aa (show Calls Tryz.prog 186 #[.string (tx (aV c)),.string ⟨#[35]⟩] w λe w'=>e=.returned (.tuple #[.string (tx (aV c)),.string ⟨#[]⟩,.bool false])/\∃n,w'=w.drewN n from by
  have h:=Tryz.strings_Cut (tx (aV c)) ⟨#[35]⟩ m w (by omega) o;rw[dM,show(⟨#[35]⟩:ByteArray).data.toList=[35] from rfl,UZ] at h
  exact h)
 have t:=aa (show ∀W,Calls Tryz.prog 187 #[.string (tx (aV c)),.string ⟨#[32]⟩] W λe w'=>e=.returned (.string (tx (aV c)))/\(w'=W\/w'=W.drew) from λW=>by
  have h:=Tryz.strings_Trim_one (tx (aV c)) 32 (by decide) W (by omega);have r:Lib.trimB (aV c) 32=aV c:=by
   have g:∀b∈aV c,(b==(32:UInt8))=false:=λb i=>by
    have:=(dX c b i).2.2.1;simpa using this
   have d:∀l:List UInt8,(∀b∈l,(b==(32:UInt8))=false)->l.dropWhile (·==32)=l:=by
    intro l q;cases l with
    | nil=>rfl
    | cons a l=>rw[List.dropWhile_cons,if_neg];rw[q a (n7 ..)];decide
   unfold Lib.trimB Lib.trimLeftB Lib.trimRightB;rw[d (aV c).reverse (λb i=>g b (List.mem_reverse.1 i)),List.reverse_reverse,d _ g]
  rw[dM,r] at h
  exact h)
 generalize tx (aV c)=S at *;clear o v;go_enter Tryz.func150,Tryz.ntmps150;go_wp2_with fail;refine p.out.mono ?_;rintro e j⟨rfl,n,rfl⟩;have i:Below w.heap.size w (w.drewN n):=below_drewN (gO _ _) n;generalize w.drewN n=j at *;go_wp2_with fail;refine(t.out _).mono ?_;rintro e s⟨rfl,f⟩;have k:Below j.heap.size j s:=by rcases f with rfl|rfl;exact gO _ _;exact ag _
 clear f;go_wp2;go_ret;exact⟨rfl,af i k⟩
def tN {w:World} (n:dL w) (F:List (List UInt8)) (f:F.length=15) (b:∀p∈F,(59:UInt8)∉p) (k:(bH 59 F).length<=100) :
 Calls Tryz.prog 182 #[.string (tx (bH 59 F))] w λe w'=>e=.returned (.slice (some ⟨w.heap.size,0,none⟩) 15 15)/\w'=w.alloc (.cells (F.map λl=>Value.string (tx l)).toArray 9):=by
 obtain⟨m,g⟩:=n.ml;have c:F≠[]:=λe=>by rw[e] at f;cases f
 have o:(tx (bH 59 F)).size<=100:=by rw[aX];exact k
 have d:=Tryz.strings_Split (tx (bH 59 F)) ⟨#[59]⟩ m w (by omega) g (by decide);have a:Lib.countB (tx (bH 59 F)) ⟨#[59]⟩=Lib.count (bH 59 F) [59]:=by
  have:=dM (bH 59 F);unfold Lib.countB;simp only[this]
 have h:(Lib.splitB ⟨#[59]⟩ 0 (Lib.countB (tx (bH 59 F)) ⟨#[59]⟩) (tx (bH 59 F))).map (·.data.toList)=F:=by
  rw[Lib.splitB_data,dM,a];exact Be 59 F c b
 have i:Lib.splitB ⟨#[59]⟩ 0 (Lib.countB (tx (bH 59 F)) ⟨#[59]⟩) (tx (bH 59 F))=F.map tx:=by
  conv=>rhs;rw[<-h]
  rw[mB];have:(tx ∘ λx:ByteArray=>x.data.toList)=id:=by
   funext x;apply wt;simp[tx]
  rw[this,tj]
 have j:Lib.countB (tx (bH 59 F)) ⟨#[59]⟩+1=15:=by
  rw[a,<-f];exact Bi 59 F c b
 rw[i,j,mB] at d;have d:=aa d;generalize tx (bH 59 F)=S at *;clear i h j a o g;go_enter Tryz.func182,Tryz.ntmps182;go_wp2_with fail;refine d.out.mono ?_;rintro e q⟨rfl,rfl⟩;go_wp2;go_ret;exact⟨rfl,rfl⟩
end Go.Proofs.YtmnimbnojdndmaaGreatDoor
end
section
namespace Go.Cd
open Go.Lib
def lL (c:UInt8):∀(p r:List UInt8),c∉p->indexByte (p++c::r) c=(p.length:Int)
 | [],r,_=>by simp[indexByte]
 | a::p,r,h=>by
   have b:=lL c p r (λx=>h (kj _ x));have d:(a==c)=false:=by
    have:c≠a:=λe=>h (by rw[e];exact n7 ..);simpa using λe=>this e.symm
   show(if (a==c)=true then (0:Int) else if (indexByte (p++c::r) c==-1)=true then -1 else indexByte (p++c::r) c+1)=_;rw[b,if_neg (by rw[d];decide),if_neg (by simp),hU];omega
def qh (c:UInt8):∀(p:List UInt8),c∉p->indexByte p c=-1
 | [],_=>rfl
 | a::p,h=>by
   have b:=qh c p (λx=>h (kj _ x));have d:(a==c)=false:=by
    have:c≠a:=λe=>h (by rw[e];exact n7 ..);simpa using λe=>this e.symm
   show(if (a==c)=true then (0:Int) else if (indexByte p c==-1)=true then -1 else indexByte p c+1)=_;rw[b,if_neg (by rw[d];decide)];rfl
def DJ (c:UInt8) (p:List UInt8) (l:List (List UInt8)):(bH c l).length<=(bH c (p::l)).length:=by
 cases l with
 | nil=>simp[bH]
 | cons q l=>simp only[bH,d',hU];omega
def tO (c:UInt8):∀(l:List (List UInt8)) (k:Nat),(bH c (l.drop k)).length<=(bH c l).length
 | l,0=>by simp
 | [],k+1=>by simp
 | p::l,k+1=>gS (tO c l k) (DJ c p l)
end Go.Cd
namespace Go.Proofs.YtmnimbnojdndmaaGreatDoor
open Go.RowKit Go.Cd Go.Shelf
attribute [local go_sem] Oper.semAt_some
def JP (a b:List UInt8):(tx (a++b)).extract 0 a.length=tx a:=by
 apply wt;rw[ByteArray.data_extract];apply Array.ext';simp[tx]
def vZ (W:World) (b:Nat):Nat:=match W.cell? ⟨b,0,none⟩ with
 | some (.string s)=>s.size
 | _=>0
def NA (m:Nat) (hm:1<=m) (A Bs o:Nat) (Q:A≠Bs) (O:o≠Bs) {α:Type} (c:List α) (Y:c≠[]) (val:α->List UInt8) (X:∀y∈c,(32:UInt8)∉val y) (af:(bH 32 (c.map val)).length<1000000)
 (w:World) (t:w.cell? ⟨A,0,none⟩=some (.string ⟨#[32]⟩)) (cs:w.cell? ⟨Bs,0,none⟩=some (.string (tx (bH 32 (c.map val))))) (fs:w.frozen? ⟨Bs,0,none⟩=false) (u:w.cell? ⟨o,0,none⟩=some (.int .i64 0)) :
 GH Fence.wide m Tryz.prog 305 #[.pointer (some ⟨A,0,none⟩),.pointer (some ⟨Bs,0,none⟩),.pointer (some ⟨o,0,none⟩)] (λx=>#[.string (tx (val x))]) [A,Bs,o] Bs c w:=by
 intro l J W I hJ L h0;have t:=aB I t;have cs:=aB I cs;have u:=aB I u;refine callsIn_of_wp Tryz.func305 rfl trivial ?_ rfl;simp only[Tryz.ntmps305,py,hU,ki,Nat.reduceAdd,Nat.reduceSub,ot,oe,pz,oR,ks,ld];have g:W.frozen? ⟨Bs,0,none⟩=false:=(I.frozen (p:=⟨Bs,0,none⟩) (xb w ⟨Bs,0,none⟩ (by assumption))).trans fs
 gi_wp2_with fail
 gi_loopw [7] (λiv wr=>∃k:Nat,k<c.length/\J (c.take k) wr/\wr.cell? ⟨A,0,none⟩=some (.string ⟨#[32]⟩)/\wr.cell? ⟨Bs,0,none⟩=some (.string (tx (bH 32 ((c.drop k).map val))))/\wr.frozen? ⟨Bs,0,none⟩=false/\wr.cell? ⟨o,0,none⟩=some (.int .i64 0)) (λiv wr=>vZ wr Bs)
 case atStart=>exact⟨0,jz.2 Y,h0,t,cs,g,u⟩
 case round=>
  clear t cs u g h0;obtain⟨k,hk,V,t,cs,g,u⟩:=hrel;obtain⟨y,f⟩:=ae (c[k]);have E:y∈c:=by rw[f];exact gx hk
  have hd:c.drop k=y::c.drop (k+1):=by rw[f];exact iz hk
  have H:c.take (k+1)=c.take k++[y]:=by rw[f];exact gE hk
  have h3:=X y E;by_cases T:k+1=c.length
  ·have B:c.drop (k+1)=[]:=rS (by omega);have j:c.take k++[y]=c:=by rw[<-H];exact ie (by omega)
   rw[hd,B] at cs
   replace cs:wr.cell? ⟨Bs,0,none⟩=some (.string (tx (val y))):=cs
   obtain⟨fn,tmps,assign,body,M,q⟩:=L (c.take k) y wr V (by rw[iS];omega)
   (try dsimp only at M)
   have K:=aa (show Calls Tryz.prog 269 #[.string (tx (val y)),.string ⟨#[32]⟩] wr λe w'=>e=.returned (.int .i64 (-1))/\w'=wr from by
    have h:=Tryz.strings_Index_one (tx (val y)) 32 wr;rw[dM,qh 32 _ h3] at h
    exact h)
   rw[j] at q;have U:=aa q;clear B j hd H q f hJ L
   gi_wp2_with (refine⟨trivial,?_⟩;gi_at_call 269;refine(callsIn_wide.2 K.out).mono ?_;rintro e w2⟨rfl,rfl⟩)
   refine U.out.mono ?_;rintro e G⟨rfl,i,_⟩
   gi_wp2
   refine bodyPost_end (results_none rfl _ _ _) rfl ?_;exact⟨⟨_,rfl⟩,i⟩
  obtain⟨z,r,F⟩:∃z r,c.drop (k+1)=z::r:=by
   cases e:c.drop (k+1) with
   | nil=>have:=congrArg List.length e;rw[ps] at this;simp at this;omega
   | cons z r=>exact⟨z,r,rfl⟩
  obtain⟨R,s⟩:=ae (bH 32 ((c.drop (k+1)).map val));have P:bH 32 ((c.drop k).map val)=val y++32::R:=by rw[s,hd,F];rfl
  rw[P] at cs;obtain⟨fn,tmps,assign,body,M,q⟩:=L (c.take k) y wr V (by rw[iS];omega);rw[<-H] at q;have U:=aa q
  have K:=aa (show Calls Tryz.prog 269 #[.string (tx (val y++32::R)),.string ⟨#[32]⟩] wr λe w'=>e=.returned (.int .i64 ((val y).length:Nat))/\w'=wr from by
   have h:=Tryz.strings_Index_one (tx (val y++32::R)) 32 wr;rw[dM,lL 32 _ _ h3] at h
   exact h)
  have n:(tx (val y++32::R)).size=(val y).length+1+R.length:=by rw[aX,d',hU];omega
  have vH:=aa (show(tx (val y++32::R)).extract 0 (val y).length=tx (val y) from JP (val y) (32::R))
  have D:=aa (show(tx (val y++32::R)).extract ((val y).length+1) ((val y).length+1+R.length)=tx R from by
   have:=Nt (val y++[32]) R ((val y).length+1) (by simp)
   rwa [kc] at this)
  have Y0:=aa s;obtain⟨v,Z⟩:=ae ((val y).length);have HV:=aa Z;rw[<-Z] at K n vH D;have ah:v+1+R.length<1000000:=by
   have h1:=tO 32 (c.map val) k;rw[<-List.map_drop,P,<-aX,n] at h1;omega
  clear F P hd H q f L s Z
  gi_wp2_with (refine⟨trivial,?_⟩;gi_at_call 269;refine(callsIn_wide.2 K.out).mono ?_;rintro e w2⟨rfl,rfl⟩)
  rw[vH.out,M]
  gi_wp2
  refine U.out.mono ?_;rintro e G⟨rfl,i,d⟩;have ac:=(d A (by simp)).1.trans t;have C:=(d Bs (by simp)).1.trans cs;have ab:=(d Bs (by simp)).2.trans g;have ad:=(d o (by simp)).1.trans u;have N:=aa cs;clear t cs g u M V;have S:=aa i;have ag:=aa d;clear i d
  gi_wp2
  rw[D.out];go_roundw
  case rel=>
   refine⟨k+1,by omega,hJ _ _ _ _ S.out (bX G Bs 0 _) (λr e=>by cases e;rfl),?_,?_,?_,?_⟩
   ·exact(A3 G (a:=⟨Bs,0,none⟩) (b:=⟨A,0,none⟩) _ (λe=>Q (by injection e with e;exact e.symm))).trans ac
   ·rw[<-Y0.out];exact vq _ _ _ (by rw[C];rfl)
   ·rw[World.frozen?_setCell];exact ab
   exact(A3 G (a:=⟨Bs,0,none⟩) (b:=⟨o,0,none⟩) _ (λe=>O (by injection e with e;exact e.symm))).trans ad
  case measure=>
   have e1:vZ (G.setCell ⟨Bs,0,none⟩ (.string (tx R))) Bs=R.length:=by
    unfold vZ;rw[vq _ _ _ (by rw[C];rfl)];exact aX _
   rw[e1];unfold vZ;rw[N.out];show R.length<(tx (val y++32::R)).size;rw[n];omega
end Go.Proofs.YtmnimbnojdndmaaGreatDoor
end
namespace Go.Proofs.YtmnimbnojdndmaaGreatDoor
section
open Go.RowKit Go.Cd Go.Shelf _root_.Go.Proofs.Tryz
attribute [local go_sem] Oper.semAt_some
def mY (p:List UInt8) (l:List (List UInt8)):bA (p::l)=p++10::bA l:=by simp[bA]
def qL:∀(l:List (List UInt8)) (k:Nat),(bA (l.drop k)).length<=(bA l).length
 | l,0=>by simp
 | [],k+1=>by simp
 | p::l,k+1=>by
   have:=qL l k;rw[mY,d',hU];simp only[ye];omega
def Y4 (m:Nat) (hm:1<=m) (Bs:Nat) {α:Type} (a:List α) (val:α->List UInt8) (M:∀y∈a,(10:UInt8)∉val y) (Y:(bA (a.map val)).length<1000000)
 (w:World) (cs:w.cell? ⟨Bs,0,none⟩=some (.string (tx (bA (a.map val))))) (fs:w.frozen? ⟨Bs,0,none⟩=false) :
 GH Fence.wide m prog 209 #[.pointer (some ⟨Bs,0,none⟩)] (λx=>#[.string (tx (val x++[10]))]) [Bs] Bs a w:=by
 intro l J W Q O V h0;have b:W.frozen? ⟨Bs,0,none⟩=false:=(Q.frozen (p:=⟨Bs,0,none⟩) (xb w ⟨Bs,0,none⟩ cs)).trans fs
 replace cs:=aB Q cs
 refine callsIn_of_wp func209 rfl trivial ?_ rfl;simp only[ntmps209,py,hU,ki,Nat.reduceAdd,Nat.reduceSub,ot,oe,pz,oR,ks,ld]
 gi_wp2_with fail
 gi_loopw [4] (λiv wr=>∃k:Nat,k<=a.length/\J (a.take k) wr/\wr.cell? ⟨Bs,0,none⟩=some (.string (tx (bA ((a.drop k).map val))))/\wr.frozen? ⟨Bs,0,none⟩=false) (λiv wr=>vZ wr Bs)
 case atStart=>exact⟨0,gW _,h0,cs,b⟩
 case round=>
  clear cs b h0;obtain⟨k,hk,C,cs,b⟩:=hrel;by_cases o:k=a.length
  ·have d:a.take k=a:=ie (by omega);rw[rS (by omega)] at cs
   replace cs:wr.cell? ⟨Bs,0,none⟩=some (.string ⟨#[]⟩):=cs
   rw[d] at C;have HJ:=aa C;clear C d o
   gi_wp2
   refine bodyPost_end (results_none rfl _ _ _) rfl ?_;exact⟨⟨_,rfl⟩,HJ.out⟩
  have i:k<a.length:=by omega
  obtain⟨y,c⟩:=ae (a[k]);have F:y∈a:=by rw[c];exact gx i
  have hd:a.drop k=y::a.drop (k+1):=by rw[c];exact iz i
  have P:a.take (k+1)=a.take k++[y]:=by rw[c];exact gE i
  have h3:=M y F;obtain⟨R,q⟩:=ae (bA ((a.drop (k+1)).map val));have I:bA ((a.drop k).map val)=val y++10::R:=by rw[q,hd,kt,mY]
  rw[I] at cs
  have T:=aa (show Calls prog 210 #[.string (tx (val y++10::R)),.int .u8 10] wr λe w'=>e=.returned (.int .i64 ((val y).length:Nat))/\w'=wr from by
   have h:=Tryz.strings_IndexByte (tx (val y++10::R)) 10 wr;rw[dM,show((10:Int)).toNat.toUInt8=10 from rfl,lL 10 _ _ h3] at h
   exact h)
  have f:(tx (val y++10::R)).size=(val y).length+1+R.length:=by rw[aX,d',hU];omega
  have Z:=aa (show(tx (val y++10::R)).extract 0 ((val y).length+1)=tx (val y++[10]) from by
   have:=JP (val y++[10]) R;rw[kc,d'] at this
   exact this)
  have D:=aa (show(tx (val y++10::R)).extract ((val y).length+1) ((val y).length+1+R.length)=tx R from by
   have:=Nt (val y++[10]) R ((val y).length+1) (by simp)
   rwa [kc] at this)
  have Y0:=aa q;obtain⟨v,U⟩:=ae ((val y).length);rw[<-U] at T f Z D;have ab:v+1+R.length<1000000:=by
   have h1:=qL (a.map val) k;rw[<-List.map_drop,I,<-aX,f] at h1;omega
  have S:0<(tx (val y++10::R)).size:=by omega
  have u:=aa cs;have K:=aa C;have H:=aa P;have g1:=Gr.cell (ag wr) cs;clear I hd P c q U C
  gi_wp2_with (refine⟨trivial,?_⟩;gi_at_call 210;refine(callsIn_wide.2 T.out).mono ?_;rintro e t⟨rfl,rfl⟩)
  refine(wpIn_wide (n:=m)).2 ?_;refine aC #[true,true,true,true,true,true,true,true,true,false] 9 1 mixed ?_;refine ay [0,1,2,3,4,5,6,7,8] 0 ?_
  iterate 9 (refine aA rfl ?_;go_big_quiet_step (rfl))
  refine az ?_;refine aJ [9] ?_;refine tail_cons rfl ?_;go_wp2_with fail;refine tail_nil ?_;rw[Z.out,D.out];have z:J (a.take k) (t.setCell ⟨Bs,0,none⟩ (.string (tx R))).drew:=O _ _ _ none (O _ _ _ _ K.out (bX t Bs 0 _) (λr e=>by cases e;rfl)) ⟨rfl,rfl,rfl,gw _,λ_ _ _=>rfl⟩ (λr e=>by cases e);obtain⟨fn,tmps,assign,body,X,G⟩:=V (a.take k) y _ z (by rw[iS];omega);rw[<-H.out] at G;have g:(t.setCell ⟨Bs,0,none⟩ (.string (tx R))).drew.cell? ⟨Bs,0,none⟩=some (.string (tx R)):=vq _ _ _ (by rw[u.out];rfl);have j:(t.setCell ⟨Bs,0,none⟩ (.string (tx R))).drew.frozen? ⟨Bs,0,none⟩=false:=(World.frozen?_setCell ..).trans b;obtain⟨Ws,B⟩:=ae ((t.setCell ⟨Bs,0,none⟩ (.string (tx R))).drew);rw[<-B] at X G g j⊢;have HR:=aa G;have YT:=aa (show vZ t Bs=v+1+R.length from by unfold vZ;rw[u.out];exact f);clear B z G V g1 cs b
  gi_wp2
  refine HR.out.mono ?_;rintro e W3⟨rfl,E,s⟩;have A:=(s Bs (by simp)).1.trans g;have N:=(s Bs (by simp)).2.trans j;have L:=aa E;clear s E g j X
  gi_wp2
  go_roundw
  case rel=>exact⟨k+1,by omega,L.out,by rw[<-Y0.out];exact A,N⟩
  case measure=>
   have e1:vZ W3 Bs=R.length:=by unfold vZ;rw[A];exact aX _
   rw[e1,YT.out];omega
def U1 (s:ByteArray) (w:World) :
 Calls prog 179 #[.string s] w λe w'=>e=.returned (.func (.func 209) #[] #[.pointer (some ⟨w.heap.size,0,none⟩)])/\w'=w.alloc (.cells #[.string s] 9):=by
 go_enter func179,ntmps179;go_wp2;go_ret;exact⟨rfl,rfl⟩
def JQ (s p:ByteArray) (w:World) :
 Calls prog 293 #[.string s,.string p,.int .i64 0] w λe w'=>e=.returned (.func (.func 305) #[] #[.pointer (some ⟨w.heap.size+1,0,none⟩),.pointer (some ⟨w.heap.size,0,none⟩),.pointer (some ⟨w.heap.size+2,0,none⟩)])/\w'=((w.alloc (.cells #[.string s] 9)).alloc (.cells #[.string p] 9)).alloc (.cells #[.int .i64 0] 3):=by
 go_enter func293,ntmps293;go_wp2;go_ret;exact⟨rfl,rfl⟩
def GQ (s p:ByteArray) (w:World) :
 Calls prog 272 #[.string s,.string p] w λe w'=>e=.returned (.func (.func 305) #[] #[.pointer (some ⟨w.heap.size+1,0,none⟩),.pointer (some ⟨w.heap.size,0,none⟩),.pointer (some ⟨w.heap.size+2,0,none⟩)])/\w'=((w.alloc (.cells #[.string s] 9)).alloc (.cells #[.string p] 9)).alloc (.cells #[.int .i64 0] 3):=by
 have a:=aa (JQ s p w);go_enter func272,ntmps272;go_wp2_with fail;refine a.out.mono ?_;rintro e b⟨rfl,rfl⟩;go_wp2;go_ret;exact⟨rfl,rfl⟩
end
open Go.RowKit Go.Cd Go.Shelf
variable {α:Type} {p q base a n:Nat} {A B:World} {e:TypeId} {v:Value} {cs:Array Value} {row:Option Nat}
def mE (el:Nat->α) (n k:Nat):List α:=(List.range k).map λt=>el (n-1-t)
def aaV (a:Nat->α) (n k:Nat):mE a n (k+1)=mE a n k++[a (n-1-k)]:=by simp[mE,tf]
def zu (a:Nat->α) (n k:Nat):(mE a n k).length=k:=by simp[mE]
def lM (p q:Nat) (A B:World):Prop:=B.heap[p]? = A.heap[p]?/\B.heap[q]? = A.heap[q]?
def lM.refl (p q:Nat) (A:World):lM p q A A:=⟨rfl,rfl⟩
def lM.trans {C:World} (h:lM p q A B) (k:lM p q B C):lM p q A C:=⟨k.1.trans h.1,k.2.trans h.2⟩
def lM.cellP (h:lM p q A B) (o:Nat):B.cell? ⟨p,o,none⟩=A.cell? ⟨p,o,none⟩:=nF h.1
def lM.ae8 (h:lM p q A B) (o:Nat):B.cell? ⟨q,o,none⟩=A.cell? ⟨q,o,none⟩:=nF h.2
def iW {P:Program} {f:FuncId} {a:Func} {c:Code} {args:Array Value} {w:World} {R:Ending->World->Prop} (hf:P.funcs[f]? = some a) (b:a.body=some c)
 (h:c.wp P (bodyPostM Fence.wide 5 P a R) { tmps:=args++Array.replicate (a.ntmps-args.size) undef,defers:=[] } w):Calls P f args w R:=
 (callsIn_wide (n:=5)).1 (callsIn_of_wp_marks hf b trivial (wpIn_wide.2 h) rfl)
def own_ne {W:World} {f:List Value} (h:W.ownsRow base e a v n f) {k:Nat} {T:TypeId} {d:Nat×Nat} (i:W.heap[k]? = some (.cells cs T d)) (j:T≠e):v.ownBlock≠some k:=by
 intro b;rcases h.2 with⟨h,_⟩|⟨l,_,g,h,_,c,_⟩
 ·rw[h] at b;cases b
 rw[h] at b;cases b;rw[i] at c;cases c;exact j rfl
def oh (c:A.grownBy B row) (f:∀r,row=some r->∃o:Obj,A.heap[r]? = some o/\o.isCells=false) {k:Nat} {T:TypeId} {a:Nat×Nat} (h:A.heap[k]? = some (.cells cs T a)):B.heap[k]? = some (.cells cs T a):=by
 refine(c.block k (block_lt h) (λe=>?_)).trans h;obtain⟨o,b,d⟩:=f k e.symm;rw[h] at b;cases b;cases d
def U2 (i:A.grownBy B row) (l:∀r,row=some r->∃o:Obj,A.heap[r]? = some o/\o.isCells=false) {c:List Value} (h:A.ownsRow base e a v n c):B.ownsRow base e a v n c:=by
 obtain⟨j,d⟩:=h;refine⟨j,d.imp id ?_⟩;rintro⟨g,cap,b,m,k,f,r⟩;exact⟨g,cap,b,m,k,oh i l f,r⟩
def oo {w:World} {b:Nat} {d:List Value} (h:w.ownsRow base e b v n d) (k:a<=base):w.ownsRow a e b v n d:=by
 obtain⟨j,f⟩:=h;refine⟨j,f.imp id ?_⟩;rintro⟨g,cap,c,l,i,r⟩;exact⟨g,cap,c,l,gS k i,r⟩
end Go.Proofs.YtmnimbnojdndmaaGreatDoor
section
namespace Go.Cd
open Go.RowKit
variable {W A B:World} {n Bs L:Nat} {cs:Array Value} {row:Option Nat}
def abT {F:Fence} {A:Nat} {P:Program} {W:World} {ops:Array Oper} {rest:List Oper} {o:Oper} {a:Act} {Q:Exit->Act->World->Prop} (q:o.guard=none) (s x:Operand) (t:TypeId)
 (C:o.op=.call { callee:=.builtin .append,args:=#[s,x],argTypes:=#[t,t] })
 (base:Nat) (e:TypeId) (z:Value) (b:Nat) (I:Elem P t e z b)
 (v:Value) (n:Nat) (g:List Value) (M:a.eval s=v) (d:W.ownsRow base e 1 v n g)
 (u:Value) (K:a.eval x=.slice (some ⟨W.heap.size,0,none⟩) 1 1) (J:u.oneCell'=true)
 (c:(n+1)*b<=140737488355328) (j:n+1<=maxLen) (r:World) (w:Below base r W) (l:base<=r.heap.size)
 (h:∀v' w',w'.ownsRow base e 1 v' (n+1) (g++[u])->Below base r w'->(W.alloc (.cells #[u] e)).grownBy w' v.ownBlock->wpListIn F A P ops Q rest (a.put o.dst v') w'):wpListIn F A P ops Q (o::rest) a (W.alloc (.cells #[u] e)):=by
 have:=w.size;obtain⟨m,D,i,H,G,f,p⟩:=I;refine wpListIn_append_own _ q s x t C base e i z 1 b D H G f p (kG m) (by decide) v n g M (d.alloc _) ⟨W.heap.size,0,none⟩ 1 1 [u] K (by simp) (cell_one_new _ _ _) (by simpa using J) j c (by simp;omega) ?_;intro v' w' E y _;refine h v' w' E ((w.alloc (by omega) _).grown y (by simp;omega) ?_) y;intro k L;exact(d.lt k L).1
def NB {P:Program} {f:FuncId} {args:Array Value} {w:World} {R:Ending->World->Prop} (l:Nat) (h:Calls P f args w R):CallsIn (Fence.wide.inRound l) n P f args w R:=(callsIn_wide (n:=n)).2 h
def Bj (Bs L:Nat) (A:World) (row:Option Nat):Prop:=∀r,row=some r->r=Bs\/(L<=r/\∃o:Obj,A.heap[r]? = some o/\o.isCells=false)
def Is.turn {k:Nat} {T:TypeId} (h:Is A k cs T) (b:A.grownBy B row) (g:Bj Bs L A row) (f:k≠Bs):Is B k cs T:=
 h.grown b λe=>by
  rcases g k e with c|⟨_,o,a,d⟩
  ·exact f c
  rw[h.at_] at a;cases a;cases d
def JR {base a:Nat} {e:TypeId} {v:Value} {c:List Value} (h:A.ownsRow base e a v n c) (f:A.grownBy B row) (l:Bj Bs L A row) (q:Bs<base):B.ownsRow base e a v n c:=by
 refine h.kept f ?_;rcases h.2 with⟨rfl,_⟩|⟨g,cap,i,rfl,m,b,_⟩
 ·exact .inl rfl
 refine .inr λj=>?_;rcases l g (by simpa [Value.ownBlock] using j.symm) with p|⟨_,o,d,k⟩
 ·omega
 rw[b] at d;cases d;cases k
def Bn {w:World} {m:Nat} (h:Below m w A) (a:A.grownBy B row) (c:Bj Bs L A row) (f:m<=Bs) (g:m<=L) (e:m<=A.heap.size):Below m w B:=
 h.grown a e λk b=>by rcases c k b with d|⟨d,_⟩ <;> omega
def Is.putObj {k D:Nat} {T:TypeId} {o o':Obj} (h:Is W k cs T) (a:W.heap[D]? = some o) (b:o.isCells=false):Is (W.putObj D o') k cs T:=
 h.grown (grownBy_putObj' W D o') λe=>by cases e;rw[h.at_] at a;cases a;cases b
def v_ {f:World} {base a:Nat} {e:TypeId} {v:Value} {i:List Value} (h:W.ownsRow base e a v n i) (k:W.grownBy f v.ownBlock):KeepsOthers W f:=
 KeepsOthers.of_grownBy k λj o c d=>by
  rcases h.2 with⟨rfl,_⟩|⟨g,cap,l,rfl,_,b,_⟩
  ·simp[Value.ownBlock] at c
  obtain rfl:g=j:=by simpa [Value.ownBlock] using c
  rw[b] at d;cases d;rfl
end Go.Cd
namespace Go.Proofs.YtmnimbnojdndmaaGreatDoor
open Go.RowKit Go.Cd Go.Shelf
attribute [local go_sem] Oper.semAt_some
abbrev Ch:Type:={ c:Nat // c<1114112 }
def U4:∀(l:List Nat),(∀c∈l,c<1114112)->∃a:List Ch,a.map (·.1)=l
 | [],_=>⟨[],rfl⟩
 | c::l,h=>by
   obtain⟨a,e⟩:=U4 l λx b=>h x (kj _ b);exact⟨⟨c,h c (n7 ..)⟩::a,by rw[kt,e]⟩
def n_:∀(l:List Nat),(∀c∈l,c<1114112)->(dD l).length<=l.length*7
 | [],_=>by simp[dD]
 | [c],h=>by
   have:=(bU c).2;show(aV c).length<=_;simp;omega
 | c::d::l,h=>by
   have:=n_ (d::l) λx a=>h x (kj _ a);have:=(bU c).2;show(aV c++32::dD (d::l)).length<=_;simp only[d',hU] at *;omega
def DK {w:World} (l:List Nat) (h0:l≠[]) (hl:∀c∈l,c<1114112) (hn:l.length<1000) :
 Calls Tryz.prog 244 #[.string (tx (dD l))] w λe w'=>∃v,e=.returned (.tuple #[v,.bool true])/\w'.ownsRow w.heap.size aN 1 v l.length (aM l)/\Below w.heap.size w w':=by
 obtain⟨d,G⟩:=U4 l hl;have mX:dD l=bH 32 (d.map λy=>aV y.1):=by rw[rV,<-G,mB];rfl
 have I:(bH 32 (d.map λy=>aV y.1)).length<1000000:=by
  rw[<-mX];have:=n_ l hl;omega
 have R:d≠[]:=by rintro rfl;exact h0 (by rw[<-G];rfl)
 have ai:d.length<1000:=by rw[<-G,ia] at hn;exact hn
 have T:∀y∈d,(32:UInt8)∉aV y.1:=λy _ h=>(dX y.1 _ h).2.2.1 rfl;rw[mX];have ab:=aa G;have U:=aa I;obtain⟨s,hs⟩:=ae (tx (bH 32 (d.map λy=>aV y.1)));rw[<-hs];have HS:=aa hs;clear G I mX hs h0 hl hn;have SQ:=aa (λW=>GQ s ⟨#[32]⟩ W);refine iW Tryz.func244 rfl ?_;simp only[Tryz.ntmps244,py,hU,ki,Nat.reduceAdd,Nat.reduceSub,ot,oe,pz,oR,ks,ld];go_wp2_with fail;obtain⟨g,f⟩:=ae (((w.alloc (.cells #[.slice none 0 0] 35)).alloc (.cells #[.bool false] 4)).alloc (.cells #[.slice none 0 0] 35));have O:g.heap.size=w.heap.size+3:=by rw[f];simp
 have S:Below w.heap.size w g:=by rw[f];exact(((gO _ w).alloc (gw _) _).alloc (by simp) _).alloc (by simp;omega) _
 have k0:Is g w.heap.size #[.slice none 0 0] 35:=by rw[f];exact((Is.new w _ _).mono (ah _)).mono (ah _)
 have k1:Is g (w.heap.size+1) #[.bool false] 4:=by rw[f];exact(Is.new' _ _ _ _ (by simp)).mono (ah _)
 have Y:Is g (w.heap.size+2) #[.slice none 0 0] 35:=by rw[f];exact Is.new' _ _ _ _ (by simp)
 rw[<-f];refine(SQ.out _).mono ?_;rintro e t⟨rfl,i⟩;have E:Below g.heap.size g t:=by rw[i];exact(((gO _ g).alloc (gw _) _).alloc (by simp) _).alloc (by simp;omega) _
 have ag:t.heap.size=g.heap.size+3:=by rw[i];simp
 have j0:Is t g.heap.size #[.string s] 9:=by rw[i];exact((Is.new g _ _).mono (ah _)).mono (ah _)
 have j1:Is t (g.heap.size+1) #[.string ⟨#[32]⟩] 9:=by rw[i];exact(Is.new' _ _ _ _ (by simp)).mono (ah _)
 have j2:Is t (g.heap.size+2) #[.int .i64 0] 3:=by rw[i];exact Is.new' _ _ _ _ (by simp)
 replace k0:=k0.mono E
 replace k1:=k1.mono E
 replace Y:=Y.mono E
 have ad:Below w.heap.size w t:=af S E;clear SQ i f S E;rw[O] at *;rw[show w.heap.size+3+1=w.heap.size+4 from rfl,show w.heap.size+3+2=w.heap.size+5 from rfl] at *;clear O g;have P:=NA 4 (by omega) (w.heap.size+4) (w.heap.size+3) (w.heap.size+5) (by omega) (by omega) d R (λy:Ch=>aV y.1) T U.out t (j1.at 0 rfl) (by rw[<-HS.out];exact j0.at 0 rfl) (j0.frozen 0) (j2.at 0 rfl);clear j0 j1 j2 T R;go_wp2_with fail;refine(wpIn_wide (n:=5)).1 ?_;refine nY (F:=Fence.wide) rfl (by omega) (gf:=305) (lb:=#[.pointer (some ⟨w.heap.size+4,0,none⟩),.pointer (some ⟨w.heap.size+3,0,none⟩),.pointer (some ⟨w.heap.size+5,0,none⟩)]) rfl trivial (enters_of Tryz.func305 (by kernel_rfl) rfl)
  P (by omega) (by intro b hb;simp at hb;omega) (λ_=>rfl)
  (λa W=>∃v,Is W (w.heap.size+2) #[v] 35/\W.ownsRow t.heap.size aN 1 v a.length (aM (a.map (·.1)))/\Is W w.heap.size #[.slice none 0 0] 35/\Is W (w.heap.size+1) #[.bool false] 4/\Below w.heap.size w W/\t.heap.size<=W.heap.size)
  ?hI ?h0 (λx=>{ tmps:=#[.string s,undef,.pointer (some ⟨w.heap.size,0,none⟩),.pointer (some ⟨w.heap.size+1,0,none⟩),.pointer (some ⟨w.heap.size+1+1,0,none⟩),.string (tx (aV x.1)),undef,undef,.string s,.func (.func 305) #[] #[.pointer (some ⟨w.heap.size+4,0,none⟩),.pointer (some ⟨w.heap.size+3,0,none⟩),.pointer (some ⟨w.heap.size+5,0,none⟩)],.string (tx (aV x.1)),undef,undef,undef,undef,undef,undef,undef,undef,undef,undef,undef,undef],defers:=[] }) ?assign ?body ?done
 case hI=>
  rintro a A B row⟨v,J,q,L,H,N,X⟩ M hr;have z:Bj (w.heap.size+3) t.heap.size A row:=hr;exact⟨v,J.turn M z (by omega),JR q M z (by omega),L.turn M z (by omega),H.turn M z (by omega),Bn N M z (by omega) (by omega) N.size,gS X M.size⟩
 case h0=>exact⟨_,Y,iu _ _ _ _,k0,k1,ad,gw _⟩
 case assign=>
  intro l x W K hK
  gi_wp2
  exact hK
 case body=>
  rintro l a x W⟨v,J,q,L,H,N,X⟩ ac;obtain⟨c,hc⟩:=x;have HX:=aa (qJ (w:=W) c hc);have e1:=J.at 0 rfl;obtain⟨r,C,rfl,_,_⟩:=ak q;obtain⟨m,hm⟩:=ae a.length;have Ja:m<1000:=by omega
  have e2:a.map (·.1)++[c]=(a++[(⟨c,hc⟩:Ch)]).map (·.1):=by simp
  have e3:m+1=(a++[(⟨c,hc⟩:Ch)]).length:=by simp[hm]
  have E2:=aa e2;have E3:=aa e3;rw[<-hm] at q e1 J;clear e2 e3 ac hm P
  gi_wp2_with (first
   | (refine⟨trivial,?_⟩;gi_at_call 188;refine(NB l HX.out).mono ?_;rintro e w3⟨rfl,rfl⟩)
   | (gi_at_builtin;refine abT rfl _ _ 35 rfl t.heap.size aN _ 4 bW (.slice r m C) m _ rfl q (.int .i32 (c:Nat)) rfl rfl (by omega) (by unfold maxLen;omega) _ (gO _ _) X ?_;intro v1 w4 Z p Q
      obtain⟨a1,c1,rfl,_,_⟩:=ak Z;have g1:=J.low p (by omega);have g3:=L.low p (by omega);have g4:=H.low p (by omega);have e4:=g1.at 0 rfl;have e5:=g1.frozen 0;have ho:=q.alloc (.cells #[.int .i32 (c:Nat)] aN);have hk:=v_ ho Q
      clear Q ho))
  refine⟨((KeepsOthers.alloc _ _).trans (hk.trans (KeepsOthers.setCell _ _ _))).from _,nX.of_block λb hb=>?_,_,g1.set 0 _,?_,g3.put (by omega) _,g4.put (by omega) _,aj (N.trans (p.mono (by omega))) (by omega),?_⟩
  ·simp at hb;rw[i_ _ _ _ _ (by simp only;omega)];exact p.block b (by omega)
  ·have:=bn Z (Go.Cd.aQ Z (k:=w.heap.size+1+1) (by omega)) 0 (.slice a1 (m+1) c1);rw[<-E3.out,<-E2.out,a_];exact this
  have:=p.size;simp only[lO];omega
 case done=>
  rintro D W hD⟨v,J,q,L,H,N,X⟩ hK;have e0:=J.at 0 rfl;have e1:=L.at 0 rfl;have e2:=H.at 0 rfl;have e3:=L.frozen 0;have e4:=H.frozen 0;obtain⟨r,C,rfl,_,_⟩:=ak q;have f1:=λu=>(H.put (j:=w.heap.size) (o:=0) (by omega) u).at 0 rfl;have f2:=λu=>(H.put (j:=w.heap.size) (o:=0) (by omega) u).frozen 0;go_wp2;have n0:(Value.slice r d.length C).ownBlock≠some w.heap.size:=Go.Cd.aQ q (by omega);have n1:(Value.slice r d.length C).ownBlock≠some (w.heap.size+1):=Go.Cd.aQ q (by omega);have q2:=bn (bn q n0 0 (.slice r d.length C)) n1 0 (.bool true);have q3:=(L.set 0 (.slice r d.length C)).put (j:=w.heap.size+1) (o:=0) (by omega) (.bool true);have q4:=(H.put (j:=w.heap.size) (o:=0) (by omega) (.slice r d.length C)).set 0 (.bool true);have q5:=aj (off:=0) (u:=.bool true) (b:=w.heap.size+1) (aj (off:=0) (u:=.slice r d.length C) (b:=w.heap.size) N (gw _)) (by omega);have V:=(i_ (W.setCell ⟨w.heap.size,0,none⟩ (.slice r d.length C)) ⟨w.heap.size+1,0,none⟩ (.bool true) D (by simp only;omega)).trans ((i_ W ⟨w.heap.size,0,none⟩ (.slice r d.length C) D (by simp only;omega)).trans hK);have r3:=(q3.putObj (o':=.deferred none) V rfl).at 0 rfl;have r4:=(q4.putObj (o':=.deferred none) V rfl).at 0 rfl;refine⟨by simp,.inl ⟨_,_,rfl,run_takeDeferred V,?_⟩⟩;refine⟨.tuple #[.slice r d.length C,.bool true],by simp[results,Tryz.results244,go_sem,r3,r4],_,rfl,?_,?_⟩
  ·have:=ownsRow_putObj q2 (.deferred none) V rfl;rw[<-ab.out,ia];exact aT this (by omega)
  exact q5.trans (belowK_b (w:=w) (gw _) _ D _ (.deferred none) (by omega) V rfl rfl)
end Go.Proofs.YtmnimbnojdndmaaGreatDoor
end
namespace Go.Proofs.YtmnimbnojdndmaaGreatDoor
open Go.RowKit Go.Cd _root_.Go.Proofs.Tryz
def DL {w:World} (l:List UInt8) (m:∀b∈l,eH b) (u:l.length<1000000) :
 Calls prog 181 #[.string (tx l)] w λe w'=>e=.returned (.bool true)/\w'=w:=by
 obtain⟨s,a⟩:=ae (tx l);have d:s.size=l.length:=by rw[a,aX]
 obtain⟨n,f⟩:=ae s.size
 have o:=aa (show ∀i (h:i<s.size),32<=(s[i]'h).toNat/\(s[i]'h).toNat<=126 from λi h=>by
  subst a;rw[EW]
  exact m _ (gx _))
 rw[<-a];have t:=aa f;have:n<1000000:=by omega
 clear m a u d;go_enter func181,ntmps181;go_wp2_with fail;rw[<-f];clear f;go_loopw [6] (λk wr=>∃j:Nat,j<=n/\k=.int .i64 j/\wr=w) (λk _=>n-(intOf k).toNat)
 case atStart=>exact⟨0,gW _,rfl,(by first|rfl|trivial)⟩
 case round=>
  obtain⟨j,y,rfl,rfl⟩:=hrel;by_cases q:j<n
  ·have c:j<s.size:=by have:=t.out;omega
   obtain⟨r,p⟩:=o.out j c;obtain⟨b,g⟩:∃b:Nat,b=(s[j]'c).toNat:=⟨_,rfl⟩;rw[<-g] at r p;have:((s[j]'c).toNat:Int)=(b:Int):=by rw[g]
   have:¬(b:Int)<32:=by omega
   have:¬(126:Int)<(b:Int):=by omega
   clear g;go_wp2;go_roundw
   case rel=>exact⟨j+1,by omega,rfl,(by first|rfl|trivial)⟩
   case measure=>simp[intOf];omega
  have:¬(j:Int)<(n:Int):=by omega
  go_wp2;go_ret;exact⟨rfl,rfl⟩
end Go.Proofs.YtmnimbnojdndmaaGreatDoor
section
namespace Go.Cd
open Go.RowKit Go.Lib
abbrev zw:TypeId:=9
def JS:Elem Go.Proofs.Tryz.prog 242 zw (.string ⟨#[]⟩) 16:=⟨rfl,Go.Proofs.Tryz.underlying242,info_parts (by kernel_rfl)⟩
def qM (l:List (List UInt8)):List Value:=l.map λp=>Value.string (Go.Proofs.YtmnimbnojdndmaaGreatDoor.tx p)
@[simp] theorem qN (l:List (List UInt8)):(qM l).length=l.length:=by simp[qM]
def zA (l m:List (List UInt8)):qM (l++m)=qM l++qM m:=by simp[qM]
def DN (p:List UInt8):trimSuffix (p++[10]) [10]=p:=by
 unfold trimSuffix hasSuffix;rw[if_pos (by rw[List.isSuffixOf_iff_suffix];exact List.suffix_append p [10])];simp
abbrev Ln:Type:={ p:List UInt8 // (∀b∈p,eH b)/\p.length<=1000 }
def U5:∀(l:List (List UInt8)),(∀p∈l,(∀b∈p,eH b)/\p.length<=1000)->∃a:List Ln,a.map (·.1)=l
 | [],_=>⟨[],rfl⟩
 | p::l,h=>by
   obtain⟨a,e⟩:=U5 l λx c=>h x (kj _ c);exact⟨⟨p,h p (n7 ..)⟩::a,by rw[kt,e]⟩
end Go.Cd
namespace Go.Proofs.YtmnimbnojdndmaaGreatDoor
open Go.RowKit Go.Cd Go.Shelf
attribute [local go_sem] Oper.semAt_some
def tT {w:World} (I:List (List UInt8)) (hl:∀p∈I,(∀b∈p,eH b)/\p.length<=1000) (hn:(bA I).length<1000000) :
 Calls Tryz.prog 147 #[.string (tx (bA I))] w λe w'=>∃v,e=.returned (.tuple #[v,.nilIface])/\w'.ownsRow w.heap.size zw 1 v I.length (qM I)/\Below w.heap.size w w':=by
 obtain⟨d,z⟩:=U5 I hl;have mX:bA I=bA (d.map λy=>y.1):=by rw[z]
 have ai:d.length<1000000:=by
  have:∀l:List (List UInt8),l.length<=(bA l).length:=λl=>by
   induction l with
   | nil=>simp
   | cons p l ih=>rw[mY,d',hU,hU];omega
  have:=this I;rw[<-z,ia,z] at this;omega
 have P:∀y∈d,(10:UInt8)∉y.1:=λy _ h=>by
  have:=(y.2.1 10 h).1;simp at this
 rw[mX] at hn⊢;have ab:=aa z;have U:=aa hn;obtain⟨s,hs⟩:=ae (tx (bA (d.map λy=>y.1)));rw[<-hs];have HS:=aa hs;clear z mX hs hl hn;have SQ:=aa (λW=>U1 s W);refine iW Tryz.func147 rfl ?_;simp only[Tryz.ntmps147,py,hU,ki,Nat.reduceAdd,Nat.reduceSub,ot,oe,pz,oR,ks,ld];go_wp2_with fail;obtain⟨G,c⟩:=ae (((w.alloc (.cells #[.slice none 0 0] 242)).alloc (.cells #[.nilIface] 134)).alloc (.cells #[.slice none 0 0] 242));have Q:G.heap.size=w.heap.size+3:=by rw[c];simp
 have T:Below w.heap.size w G:=by rw[c];exact(((gO _ w).alloc (gw _) _).alloc (by simp) _).alloc (by simp;omega) _
 have k0:Is G w.heap.size #[.slice none 0 0] 242:=by rw[c];exact((Is.new w _ _).mono (ah _)).mono (ah _)
 have k1:Is G (w.heap.size+1) #[.nilIface] 134:=by rw[c];exact(Is.new' _ _ _ _ (by simp)).mono (ah _)
 have Y:Is G (w.heap.size+2) #[.slice none 0 0] 242:=by rw[c];exact Is.new' _ _ _ _ (by simp)
 rw[<-c];refine(SQ.out _).mono ?_;rintro e H⟨rfl,E⟩;have t:=aO E;have ag:H.heap.size=G.heap.size+1:=by rw[E];simp
 have j0:Is H G.heap.size #[.string s] 9:=by rw[E];exact Is.new G _ _
 replace k0:=k0.mono t
 replace k1:=k1.mono t
 replace Y:=Y.mono t
 have ad:Below w.heap.size w H:=af T t;clear SQ E c T t;rw[Q] at *;clear Q G;have R:=Y4 4 (by omega) (w.heap.size+3) d (λy:Ln=>y.1) P U.out H (by rw[<-HS.out];exact j0.at 0 rfl) (j0.frozen 0);clear j0 P;go_wp2_with fail;refine(wpIn_wide (n:=5)).1 ?_;refine nY (F:=Fence.wide) rfl (by omega) (gf:=209) (lb:=#[.pointer (some ⟨w.heap.size+3,0,none⟩)]) rfl trivial (enters_of Tryz.func209 (by kernel_rfl) rfl)
  R (by omega) (by intro b hb;simp at hb;omega) (λ_=>rfl)
  (λa W=>∃v,Is W (w.heap.size+2) #[v] 242/\W.ownsRow H.heap.size zw 1 v a.length (qM (a.map (·.1)))/\Is W w.heap.size #[.slice none 0 0] 242/\Is W (w.heap.size+1) #[.nilIface] 134/\Below w.heap.size w W/\H.heap.size<=W.heap.size)
  ?hI ?h0 (λx=>{ tmps:=#[.string s,undef,.pointer (some ⟨w.heap.size,0,none⟩),.pointer (some ⟨w.heap.size+1,0,none⟩),.pointer (some ⟨w.heap.size+1+1,0,none⟩),.string (tx (x.1++[10])),undef,.string s,.func (.func 209) #[] #[.pointer (some ⟨w.heap.size+3,0,none⟩)],.string (tx (x.1++[10])),undef,undef,undef,undef,undef,undef,undef,undef,undef,undef,undef,undef,undef,undef,undef,undef,undef,undef,undef,undef,undef,undef],defers:=[] }) ?assign ?body ?done
 case hI=>
  rintro a A B row⟨v,J,g,L,C,N,X⟩ M hr;have q:Bj (w.heap.size+3) H.heap.size A row:=hr;exact⟨v,J.turn M q (by omega),JR g M q (by omega),L.turn M q (by omega),C.turn M q (by omega),Bn N M q (by omega) (by omega) N.size,gS X M.size⟩
 case h0=>exact⟨_,Y,iu _ _ _ _,k0,k1,ad,gw _⟩
 case assign=>
  intro l x W K hK
  gi_wp2
  exact hK
 case body=>
  rintro l a x W⟨v,J,g,L,C,N,X⟩ ac;obtain⟨p,hp,O⟩:=x
  have HX:=aa (show Calls Tryz.prog 180 #[.string (tx (p++[10])),.string ⟨#[10]⟩] W λe w'=>e=.returned (.string (tx p))/\w'=W from by
   have h:=Tryz.strings_TrimSuffix (tx (p++[10])) ⟨#[10]⟩ W (by rw[aX,d'];simp;omega);rw[dM,show(⟨#[10]⟩:ByteArray).data.toList=[10] from rfl,DN] at h
   exact h)
  have HP:=aa (DL (w:=W) p hp (by omega));have e1:=J.at 0 rfl;obtain⟨i,r,rfl,_,_⟩:=ak g;obtain⟨m,hm⟩:=ae a.length;have Ja:m<1000000:=by omega
  have e2:a.map (·.1)++[p]=(a++[(⟨p,hp,O⟩:Ln)]).map (·.1):=by simp
  have e3:m+1=(a++[(⟨p,hp,O⟩:Ln)]).length:=by simp[hm]
  have E2:=aa e2;have E3:=aa e3;rw[<-hm] at g e1 J;have hz:¬1000<(tx p).size:=by rw[aX];omega
  clear e2 e3 ac hm R
  gi_wp2_with (first
   | (refine⟨trivial,?_⟩;gi_at_call 180;refine(NB l HX.out).mono ?_;rintro e w3⟨rfl,rfl⟩)
   | (refine⟨trivial,?_⟩;gi_at_call 181;refine(NB l HP.out).mono ?_;rintro e w3⟨rfl,rfl⟩)
   | (gi_at_builtin;refine abT rfl _ _ 242 rfl H.heap.size zw _ 16 JS (.slice i m r) m _ rfl g (.string (tx p)) rfl rfl (by omega) (by unfold maxLen;omega) _ (gO _ _) X ?_;intro v1 w4 Z f S
      obtain⟨a1,c1,rfl,_,_⟩:=ak Z;have g1:=J.low f (by omega);have g3:=L.low f (by omega);have g4:=C.low f (by omega);have e4:=g1.at 0 rfl;have e5:=g1.frozen 0;have ho:=g.alloc (.cells #[.string (tx p)] zw);have hk:=v_ ho S
      clear S ho))
  refine⟨((KeepsOthers.alloc _ _).trans (hk.trans (KeepsOthers.setCell _ _ _))).from _,nX.of_block λb hb=>?_,_,g1.set 0 _,?_,g3.put (by omega) _,g4.put (by omega) _,aj (N.trans (f.mono (by omega))) (by omega),?_⟩
  ·simp at hb;rw[i_ _ _ _ _ (by simp only;omega)];exact f.block b (by omega)
  ·have:=bn Z (Go.Cd.aQ Z (k:=w.heap.size+1+1) (by omega)) 0 (.slice a1 (m+1) c1);rw[<-E3.out,<-E2.out,zA];exact this
  have:=f.size;simp only[lO];omega
 case done=>
  rintro D W hD⟨v,J,g,L,C,N,X⟩ hK;have e0:=J.at 0 rfl;have e1:=L.at 0 rfl;have e2:=C.at 0 rfl;have e3:=L.frozen 0;have e4:=C.frozen 0;obtain⟨i,r,rfl,_,_⟩:=ak g;have f1:=λu=>(C.put (j:=w.heap.size) (o:=0) (by omega) u).at 0 rfl;have f2:=λu=>(C.put (j:=w.heap.size) (o:=0) (by omega) u).frozen 0;go_wp2;have n0:(Value.slice i d.length r).ownBlock≠some w.heap.size:=Go.Cd.aQ g (by omega);have n1:(Value.slice i d.length r).ownBlock≠some (w.heap.size+1):=Go.Cd.aQ g (by omega);have q2:=bn (bn g n0 0 (.slice i d.length r)) n1 0 .nilIface;have q3:=(L.set 0 (.slice i d.length r)).put (j:=w.heap.size+1) (o:=0) (by omega) .nilIface;have q4:=(C.put (j:=w.heap.size) (o:=0) (by omega) (.slice i d.length r)).set 0 .nilIface;have q5:=aj (off:=0) (u:=.nilIface) (b:=w.heap.size+1) (aj (off:=0) (u:=.slice i d.length r) (b:=w.heap.size) N (gw _)) (by omega);have V:=(i_ (W.setCell ⟨w.heap.size,0,none⟩ (.slice i d.length r)) ⟨w.heap.size+1,0,none⟩ .nilIface D (by simp only;omega)).trans ((i_ W ⟨w.heap.size,0,none⟩ (.slice i d.length r) D (by simp only;omega)).trans hK);have r3:=(q3.putObj (o':=.deferred none) V rfl).at 0 rfl;have r4:=(q4.putObj (o':=.deferred none) V rfl).at 0 rfl;refine⟨by simp,.inl ⟨_,_,rfl,run_takeDeferred V,?_⟩⟩;refine⟨.tuple #[.slice i d.length r,.nilIface],by simp[results,Tryz.results147,go_sem,r3,r4],_,rfl,?_,?_⟩
  ·have:=ownsRow_putObj q2 (.deferred none) V rfl;rw[<-ab.out,ia];exact aT this (by omega)
  exact q5.trans (belowK_b (w:=w) (gw _) _ D _ (.deferred none) (by omega) V rfl rfl)
end Go.Proofs.YtmnimbnojdndmaaGreatDoor
end
