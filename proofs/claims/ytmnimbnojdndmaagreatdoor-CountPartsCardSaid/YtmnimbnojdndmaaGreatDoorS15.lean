/- State by state it is added up what is possible; no condition. -/
import Derived.Test.YtmnimbnojdndmaaGreatDoorS14
import Derived.BigRegion
set_option maxRecDepth 100000
set_option maxHeartbeats 6400000
set_option linter.all false
namespace Go.Proofs.YtmnimbnojdndmaaGreatDoor
open Go.RowKit Go.Cd _root_.Go.Proofs.Tryz
def gT (Ls:List d_):List Nat:=Ls.map λx=>x.2.2.length+1
def Sd {Ls:List d_} {j:Nat} (a:j<Ls.length):gT (Ls.take (j+1))=gT (Ls.take j)++[Ls[j].2.2.length+1]:=by
 rw[gR a];unfold gT;rw[j5];rfl
def BZ (Ls:List d_):(gT Ls).length=Ls.length:=by simp[gT]
def B_ {w:World} {F:Nat} {hd:Nat} {la:Option Addr} {ln lc:Nat} {Ls:List d_} (h:wM w F (hd,.slice la ln lc,Ls)) (hl:Ls.length<10000) (hm:∀x∈Ls,x.2.2.length<10000) (z H:Option Addr) (I u C D:Nat) (B G:Int) :
 Calls prog 43 #[.agg #[.int .i32 hd,.slice la ln lc,.slice z I u,.slice H C D,.int .i64 B,.int .i64 G]] w λe w'=>∃v,e=.returned v/\w'.ownsRow w.heap.size bB 1 v Ls.length (ds (gT Ls))/\Below w.heap.size w w':=by
 have a:=h.1.1;have R:ln=Ls.length:=by
  obtain⟨_,_,e,_⟩:=ak a;injection e with _ e _
 subst R;have HX:=aa (λ(i:Nat) (hi:i<Ls.length)=>dC (f:=fB) jC rfl a hi);have HS:=aa (λx (t:x∈Ls)=>ak (h.2 x t).1);have HM:=aa hm;obtain⟨n,A⟩:=ae Ls.length;have HN:=aa A;have r:=ah (w:=w) (.cells #[.int .i32 hd,.slice la Ls.length lc,.slice z I u,.slice H C D,.int .i64 B,.int .i64 G] eX);have X:=Is.new w #[.int .i32 hd,.slice la Ls.length lc,.slice z I u,.slice H C D,.int .i64 B,.int .i64 G] eX;have e1:=X.at 1 rfl;rw[<-A] at hl⊢;rw[<-A] at r X e1;clear h a hm A;go_enter func43,ntmps43;go_wp2_with fail;generalize w.alloc (.cells #[.int .i32 hd,.slice la n lc,.slice z I u,.slice H C D,.int .i64 B,.int .i64 G] eX)=w1 at *;go_loopw [3,5,9] (λov _ J wr=>∃j:Nat,j<=n/\J=.int .i64 j/\wr.ownsRow w.heap.size bB 1 ov j (ds (gT (Ls.take j)))/\Below w.heap.size w wr) (λ_ _ J _=>n-(intOf J).toNat)
 case atStart=>exact⟨0,ic _,rfl,iS _ _ _ _,r⟩
 case round=>
  obtain⟨j,hj,rfl,s,p⟩:=hrel;by_cases ab:j<n
  ·have zj:=eG (show j<n by omega);have k:j<Ls.length:=by have:=HN.out;omega
   obtain⟨g,Z,m,_,_,_,E⟩:=HX.out j k;injection m with m _ Q;subst Q;subst m;have q:=HM.out _ (gw k);obtain⟨ya,T,c,_,_⟩:=HS.out _ (gw k);have b:=Sd k;obtain⟨x,t⟩:=ae (Ls[j]);rw[<-t] at E q c b;obtain⟨y,V⟩:=ae x.2.2.length;rw[<-V] at q c b;have c0:=aB p (show w.cell? ⟨g,j*2,none⟩=some (.int .i64 (x.1:Nat)) from (E 0 (by decide)).1);have N:=aB p (show w.cell? ⟨g,j*2+1,none⟩=some (.slice ya y T) from by rw[(E 1 (by decide)).1];simp[fB,c]);obtain⟨U,o⟩:=ae (y+1);rw[<-o] at b;have:IntKind.i64.wrap ((y:Int)+1)=(U:Int):=by rw[kf _ (by omega)];omega
   have K:=aa b;have L:=aa s;have:=aa o;have hs:=p.size;clear E c b t V o s;obtain⟨Y,d⟩:=ae (wr.alloc (.cells #[.int .i64 (x.1:Nat),.slice ya y T] fu));have l:=aO d;have P:=p.trans (l.mono hs);have M:=aH L.out l;have k2:=Is.nw d;have:=k2.at 1 rfl;have:w.heap.size<=Y.heap.size:=ia hs l.size;go_upto_region 5 with fail;rw[<-d];clear d c0 N
   go_wp2_with (
    refine f_ (W:=Y) rfl _ _ 23 rfl w.heap.size bB (.int .i64 0) 8 jI u3 j _ rfl M (.int .i64 (U:Nat)) rfl rfl (by omega) (by unfold maxLen;omega) w P (d' _) ?_;intro v3 w3 S O _ _;have M6:=aa (show w3.ownsRow w.heap.size bB 1 v3 (j+1) (ds (gT (Ls.take (j+1)))) from by rw[K.out,Q3];exact S)
    clear S)
   go_roundw
   case rel=>exact⟨j+1,by omega,by simp,M6.out,O⟩
   case measure=>simp[intOf];omega
  have zj:=gI (show n<=j by omega);obtain rfl:j=n:=by omega
  have ht:Ls.take j=Ls:=iu (by rw[HN.out];exact d' _);rw[ht] at s;have L:=aa s;clear s ht;go_wp2_with fail;go_ret;exact⟨_,rfl,L.out,p⟩
end Go.Proofs.YtmnimbnojdndmaaGreatDoor
namespace Go.Proofs.YtmnimbnojdndmaaGreatDoor
open Go.RowKit Go.Cd
structure nk (w:World):Prop where
 acp:dL w
 heads:dB w
def nk.mono {w w':World} (h:nk w) (a:Below w.heap.size w w'):nk w':=⟨h.acp.mono a,h.heads.mono a⟩
section
open Go.RowKit Go.Cd _root_.Go.Proofs.Tryz
def bI (W:World) (b:Nat) (p l:List Nat) (q:List Value):Prop:=Is W b (aM p++(aM l++q)).toArray aN
section
variable {W W' : World} {b : Nat} {p l : List Nat} {q : List Value}
def bI.at (h:bI W b p l q) {k c o:Nat} (e:o=p.length+k) (f:l[k]? = some c):W.cell? ⟨b,o,none⟩=some (.int .i32 (c:Nat)):=by
 subst e;refine Is.at h _ ?_;obtain⟨a,d⟩:=iR.1 f;rw[tn,j' (by simp),bF,lk,kB (by simpa using a),gx (by simpa using a),dR _ _ a,d]
def bI.frozen (h:bI W b p l q) (o:Nat):W.frozen? ⟨b,o,none⟩=false:=Is.frozen h o
def bI.lt (h:bI W b p l q):b<W.heap.size:=Is.lt h
def bI.set (h:bI W b p l q) {k o:Nat} (a:o=p.length+k) (d:k<l.length) (c:Nat):bI (W.setCell ⟨b,o,none⟩ (.int .i32 (c:Nat))) b p (l.set k c) q:=by
 subst a;have:=Is.set h (p.length+k) (.int .i32 (c:Nat));have e:(aM p++(aM l++q)).toArray.setIfInBounds (p.length+k) (.int .i32 (c:Nat))=(aM p++(aM (l.set k c)++q)).toArray:=by
  rw[vh,mm (h:=by simp),bF,lk,x5 (h:=by simpa using d)];simp[aM,th]
 unfold bI;rw[<-e];exact this
def bI.mono (h:bI W b p l q) (a:Below W.heap.size W W'):bI W' b p l q:=Is.mono h a
end
def set_mid (A Z:List Nat) (x y k:Nat) (h:k=A.length):(A++x::Z).set k y=A++y::Z:=by
 subst h;rw[mm (h:=d' _),ns];rfl
def gM (A Z:List Nat) (x k:Nat) (h:k=A.length):(A++x::Z)[k]? = some x:=by
 subst h;rw[j' (d' _),ns];rfl
def Sg (P a c M b d S:List Nat) (x y f e:Nat) (g:f=P.length+a.length) (i:e=P.length+a.length+1+c.length+M.length+b.length) :
 (P++(a++(x::c++(M++(b++(y::d++S))))))[f]? = some x/\(P++(a++(x::c++(M++(b++(y::d++S))))))[e]? = some y/\
 ((P++(a++(x::c++(M++(b++(y::d++S)))))).set f y).set e x=P++((a++[y])++(c++(M++((b++[x])++(d++S))))):=by
 have h:P++(a++(x::c++(M++(b++(y::d++S)))))=(P++a)++x::(c++(M++(b++(y::d++S)))):=by simp
 have j:P++(a++(x::c++(M++(b++(y::d++S)))))=(P++a++x::c++M++b)++y::(d++S):=by simp
 have k:(P++a)++y::(c++(M++(b++(y::d++S))))=(P++a++y::c++M++b)++y::(d++S):=by simp
 refine⟨by rw[h];exact gM _ _ _ _ (by simp[g]),by rw[j];exact gM _ _ _ _ (by simp[i];omega),?_⟩;rw[h,set_mid _ _ _ _ _ (by simp[g]),k,set_mid _ _ _ _ _ (by simp[i];omega)];simp
def yl {w:World} {b N:Nat} (V:N<=b) {p:List Nat} {q:List Value} (P X M Y S:List Nat) (h:bI w b p (P++(X++(M++(Y++S)))) q) (Z:Y.length=X.length) {off n cap a c k:Nat} (ho:off=p.length) (Q:(P++(X++(M++(Y++S)))).length=n) (rW:n<1000000) (W:a=P.length) (hc:c=P.length+X.length+M.length) (hk:k=X.length) (f:Value) :
 Calls prog 301 #[.slice (some ⟨b,off,none⟩) n cap,.int .i64 a,.int .i64 c,.int .i64 k,f] w λe w'=>e=.returned (.tuple #[])/\bI w' b p (P++(Y++(M++(X++S)))) q/\Below N w w':=by
 have:c+k<=n/\a+k<=c:=by
  simp only[gn] at Q;omega
 have H:=aa ho;have HA:=aa W;have HC:=aa hc;have v:=aa hk;have HL:=aa Z;have HD:=aa h;have:=aa Q;clear ho W hc hk Z h Q;go_enter func301,ntmps301;go_wp2;go_loopw [10] (λK wr=>∃i:Nat,i<=k/\K=.int .i64 i/\(∃A C u B,X=A++C/\Y=u++B/\A.length=i/\u.length=i/\bI wr b p (P++(u++(C++(M++(A++(B++S)))))) q)/\Below N w wr) (λK _=>k-(intOf K).toNat)
 case atStart=>exact⟨0,ic _,rfl,⟨[],X,[],Y,rfl,rfl,rfl,rfl,by simpa using HD.out⟩,gS _ _⟩
 case round=>
  obtain⟨i,hi,rfl,⟨A,C,u,B,hX,U,D,F,hd⟩,T⟩:=hrel;have G:=aa hX;have I:=aa U;have E:=aa D;have d:=aa F;clear hX U D F;by_cases ac:i<k
  ·have z:=eG (show i<k by omega);obtain⟨x,l,rfl⟩:∃x l,C=x::l:=by
    cases C with
    | nil=>have:=congrArg List.length G.out;have:=E.out;have:=v.out;simp at *;omega
    | cons x l=>exact⟨x,l,rfl⟩
   obtain⟨y,t,rfl⟩:∃y t,B=y::t:=by
    cases B with
    | nil=>have:=congrArg List.length I.out;have:=d.out;have:=v.out;have:=HL.out;simp at *;omega
    | cons y t=>exact⟨y,t,rfl⟩
   obtain⟨j,m⟩:=ae (a+i);obtain⟨g,s⟩:=ae (c+i);have:l.length+i+1=k:=by have:=congrArg List.length G.out;have:=E.out;have:=v.out;simp at *;omega
   obtain⟨R,O,g3⟩:=Sg P u l M A t S x y j g (by rw[m,HA.out,d.out]) (by rw[s,HC.out,d.out,E.out,<-v.out];omega);have:IntKind.i64.wrap ((a:Int)+(i:Int))=(j:Int):=by rw[m,kf _ (by omega)];simp
   have:IntKind.i64.wrap ((c:Int)+(i:Int))=(g:Int):=by rw[s,kf _ (by omega)];simp
   have:=hd.at (o:=off+j) (by rw[H.out]) R;have:=hd.at (o:=off+g) (by rw[H.out]) O;have:=hd.frozen (off+j);have:=hd.frozen (off+g);have r:=(hd.set (o:=off+j) (by rw[H.out]) (iR.1 R).1 y).set (o:=off+g) (k:=g) (by rw[H.out]) (by rw[m7];exact(iR.1 O).1) x;rw[g3] at r;have L:=aa r;have:j<n/\g<n/\j≠g:=by omega
   clear R O g3 hd r m s;go_wp2_with fail;go_region;go_wp2;go_roundw
   case rel=>exact⟨i+1,by omega,by simp,⟨A++[x],l,u++[y],t,by rw[G.out];simp,by rw[I.out];simp,by simp[E.out],by simp[d.out],L.out.mono (ag _)⟩,(aj (aj T V) V).drew⟩
   case measure=>simp[intOf];omega
  have z:=gI (show k<=i by omega);obtain rfl:i=k:=by omega
  obtain rfl:C=[]:=by
   have J:=congrArg List.length G.out;rw[gn,E.out,<-v.out] at J;exact iJ.1 (by omega)
  obtain rfl:B=[]:=by
   have J:=congrArg List.length I.out;rw[gn,d.out,HL.out,<-v.out] at J;exact iJ.1 (by omega)
  go_wp2_with fail
  go_end0
  refine⟨rfl,?_,T⟩;rw[G.out,I.out];simpa using hd
def abk {w:World} {b N:Nat} (Z:N<=b) {p:List Nat} {q:List Value} (P A C S:List Nat) (h:bI w b p (P++(A++(C++S))) q) (R:A≠[]) (Q:C≠[]) {off n cap a m c:Nat} (ho:off=p.length) (hn:(P++(A++(C++S))).length=n) (rW:n<1000000) (ha:a=P.length) (hm:m=P.length+A.length) (hc:c=P.length+A.length+C.length) (f:Value) :
 Calls prog 285 #[.slice (some ⟨b,off,none⟩) n cap,.int .i64 a,.int .i64 m,.int .i64 c,f] w λe w'=>e=.returned (.tuple #[])/\bI w' b p (P++(C++(A++S))) q/\Below N w w':=by
 have al:a<m/\m<c/\c<=n:=by
  have:=ke.2 R;have:=ke.2 Q;simp only[gn] at hn;omega
 obtain⟨V,D⟩:=ae A.length;obtain⟨X,x⟩:=ae C.length;have w1:IntKind.i64.wrap ((m:Int)-(a:Int))=(V:Int):=by rw[kf _ (by omega)];omega
 have w2:IntKind.i64.wrap ((c:Int)-(m:Int))=(X:Int):=by rw[kf _ (by omega)];omega
 have HO:=aa ho;have HI:=aa D;have HJ:=aa x;have HM:=aa hm;have HD:=aa h;have nR:=aa hn;have B:0<V/\0<X/\V<=m/\m+X<=n:=by omega
 have HA:=aa ha;have HC:=aa hc;clear ho D x hm h hn ha hc R Q;go_enter func285,ntmps285;go_wp2;go_loopw [10,11] (λiv jv wr=>∃i j:Nat,0<i/\0<j/\i<=m/\m+j<=n/\iv=.int .i64 i/\jv=.int .i64 j/\(∃g r l o,P++(C++(A++S))=g++(l++(r++o))/\r.length=i/\l.length=j/\g.length+i=m/\bI wr b p (g++(r++(l++o))) q)/\Below N w wr) (λiv jv _=>(intOf iv).toNat+(intOf jv).toNat)
 case atStart=>exact⟨V,X,B.1,B.2.1,B.2.2.1,B.2.2.2,rfl,rfl,⟨P,A,C,S,rfl,HI.out.symm,HJ.out.symm,by rw[HM.out,HI.out],HD.out⟩,gS _ _⟩
 case round=>
  obtain⟨i,j,D,x,ab,aj,rfl,rfl,⟨g,r,l,o,hS,R,Q,hP,hd⟩,Y⟩:=hrel;have HS:=aa hS;have d:=aa R;have s:=aa Q;have F:=aa hP;have G:=aa hd;have E:(g++(r++(l++o))).length=n:=by
   have h1:=congrArg List.length hS;rw[<-nR.out];simp only[gn] at h1⊢;omega
  have BA:=aa E;clear hS R Q hP hd E;have e1:IntKind.i64.wrap ((m:Int)-(i:Int))=((m-i:Nat):Int):=by rw[kf _ (by omega)];omega
  obtain⟨mi,vL⟩:=ae (m-i);have Zo:=aa vL;rw[<-vL] at e1;clear vL;by_cases ah:i=j
  ·subst ah;have z:((i:Int) !=(i:Int))=false:=by simp
   have U:=aa (λW (hd:bI W b p (g++(r++([]++(l++o)))) q)=>yl (w:=W) Z g r [] l o hd (by rw[d.out,s.out]) (n:=n) (cap:=cap) (a:=mi) (c:=m) (k:=i) HO.out (by simpa using BA.out) rW (by rw[Zo.out];have:=F.out;omega) (by have:=F.out;have:=d.out;simp;omega) d.out.symm f);go_wp2_with (go_at_call 301;refine(U.out _ (by simpa using G.out)).mono ?_;rintro e w6⟨rfl,u,t⟩)
   go_end0
   refine⟨rfl,?_,Y.trans t⟩;rw[HS.out];simpa using u
  have z:((i:Int) !=(j:Int))=true:=by simp;omega
  by_cases am:j<i
  ·have z2:=eG (show j<i by omega);obtain⟨I,K,O,v⟩:∃I K,r=I++K/\I.length=j:=⟨r.take j,r.drop j,(km _ _).symm,by rw[jn,d.out];omega⟩;have L:K.length=i-j:=by have:=congrArg List.length O;rw[gn,d.out,v] at this;omega
   have e2:IntKind.i64.wrap ((i:Int)-(j:Int))=((i-j:Nat):Int):=by rw[kf _ (by omega)];omega
   have U:=aa (λW (hd:bI W b p (g++(I++(K++(l++o)))) q)=>yl (w:=W) Z g I K l o hd (by rw[v,s.out]) (n:=n) (cap:=cap) (a:=mi) (c:=m) (k:=j) HO.out (by rw[<-BA.out,O];simp) rW (by rw[Zo.out];have:=F.out;omega) (by have:=F.out;omega) v.symm f);have HR:=aa (show P++(C++(A++S))=(g++l)++(I++(K++o)) from by rw[HS.out,O];simp);have ag:=aa O;have ac:=aa v;have ad:=aa L;clear O v L;go_wp2_with (go_at_call 301;refine(U.out _ (by have:=G.out;rw[ag.out] at this;simpa using this)).mono ?_;rintro e w6⟨rfl,u,t⟩);go_roundw
   case rel=>exact⟨i-j,j,by omega,x,by omega,aj,by go_num,rfl,⟨g++l,K,I,o,HR.out,ad.out,ac.out,by rw[gn,s.out];have:=F.out;omega,by simpa using u⟩,Y.trans t⟩
   case measure=>simp[intOf];omega
  have z2:=gI (show i<=j by omega);obtain⟨H,J,T,y⟩:∃H J,l=H++J/\H.length=j-i:=⟨l.take (j-i),l.drop (j-i),(km _ _).symm,by rw[jn,s.out];omega⟩;have L:J.length=i:=by have:=congrArg List.length T;rw[gn,s.out,y] at this;omega
  obtain⟨mj,M⟩:=ae (m+j-i);have af:=aa M;have e2:IntKind.i64.wrap ((j:Int)-(i:Int))=((j-i:Nat):Int):=by rw[kf _ (by omega)];omega
  have e3:IntKind.i64.wrap ((m:Int)+(j:Int)-(i:Int))=(mj:Int):=by rw[kf _ (by omega)];omega
  clear M;have U:=aa (λW (hd:bI W b p (g++(r++(H++(J++o)))) q)=>yl (w:=W) Z g r H J o hd (by rw[L,d.out]) (n:=n) (cap:=cap) (a:=mi) (c:=mj) (k:=i) HO.out (by rw[<-BA.out,T];simp) rW (by rw[Zo.out];have:=F.out;omega) (by rw[af.out,y,d.out];have:=F.out;omega) d.out.symm f);have HR:=aa (show P++(C++(A++S))=g++(H++(J++(r++o))) from by rw[HS.out,T];simp);have ai:=aa T;have vH:=aa y;have ak:=aa L;clear T y L;go_wp2_with (go_at_call 301;refine(U.out _ (by have:=G.out;rw[ai.out] at this;simpa using this)).mono ?_;rintro e w6⟨rfl,u,t⟩);go_roundw
  case rel=>exact⟨i,j-i,D,by omega,ab,by omega,rfl,by go_num,⟨g,J,H,r++o,HR.out,ak.out,vH.out,F.out,by simpa using u⟩,Y.trans t⟩
  case measure=>simp[intOf];omega
end
end Go.Proofs.YtmnimbnojdndmaaGreatDoor
namespace Go.Proofs.YtmnimbnojdndmaaGreatDoor
open Go.RowKit Go.Cd _root_.Go.Proofs.Tryz
variable {w0 w:World} {b N off n cap a c:Nat} {K:Nat->Nat} {cv:Value} {p:List Nat} {q:List Value}
def wP (x y:Nat):Int:=if x<y then -1 else if y<x then 1 else 0
def Aw {x y:Nat}:wP x y<0↔x<y:=by unfold wP;split <;> (try split) <;> omega
def zO (w0:World) (N:Nat) (K:Nat->Nat) (cap:Value):Prop:=
 ∀W,Below N w0 W->∀a b:Nat,a<1114112->b<1114112->Calls prog 204 #[.int .i32 a,.int .i32 b,cap] W λe w'=>e=.returned (.int .i64 (wP (K a) (K b)))/\Below W.heap.size W w'
abbrev ym (cap:Value):Value:=.func (.func 204) #[] #[cap]
def VC (hN:N<=b) (hC:zO w0 N K cv) (aw:Below N w0 w) (aN:N<=w.heap.size) (P M S:List Nat) (h:bI w b p (P++(M++S)) q) (hM:∀x∈M,0<K x/\x<1114112) (ho:off=p.length) (hn:(P++(M++S)).length=n) (rW:n<1000000) (ha:a=P.length) (hc:c=P.length+M.length) :
 Calls prog 263 #[.slice (some ⟨b,off,none⟩) n cap,.int .i64 a,.int .i64 c,ym cv] w λe w'=>e=.returned (.tuple #[])/\(∃M',fe K M M'/\up K M'/\bI w' b p (P++(M'++S)) q)/\Below N w w':=by
 have aH:a<=c/\c<=n:=by
  simp only[gn] at hn;omega
 have HO:=aa ho;have HA:=aa ha;have HC:=aa hc;have HD:=aa h;have nR:=aa hn;have HM:=aa hM;have ar:=aa hC;clear ho ha hc h hn hM hC;go_enter func263,ntmps263;go_wp2;go_loopw [8] (λiv wr=>∃i:Nat,a<i/\i<=n+1/\iv=.int .i64 i/\(∃M0 C R,M=M0++R/\(i<=c->M0.length+a=i)/\(c<i->R=[])/\fe K M0 C/\up K C/\bI wr b p (P++(C++(R++S))) q)/\Below N w wr) (λiv _=>n+1-(intOf iv).toNat)
 case atStart=>
  refine⟨a+1,by omega,by omega,by simp,?_,gS _ _⟩;cases I:M with
  | nil=>exact⟨[],[],[],rfl,λh=>by have:=HC.out;have:=HA.out;rw[I] at *;simp at *;omega,λ_=>rfl,fe.refl _,acm,by have:=HD.out;rw[I] at this;simpa using this⟩
  | cons x M'=>exact⟨[x],[x],M',rfl,λ_=>by simp;omega,λh=>by have:=HC.out;have:=HA.out;rw[I] at *;simp at *;omega,fe.refl _,acn x,by have:=HD.out;rw[I] at this;simpa using this⟩
 case round=>
  obtain⟨i,aG,aO,rfl,⟨M0,C,R,f,H,V,hs,hu,hd⟩,L⟩:=hrel;by_cases aR:i<c
  ·have z:=eG (show i<c by omega);have h0:=H (by omega);obtain⟨x,R',rfl⟩:∃x R',R=x::R':=by
    cases R with
    | nil=>exfalso;have D:=congrArg List.length f;have h2:=HC.out;have h3:=HA.out;simp at D;omega
    | cons x R'=>exact⟨x,R',rfl⟩
   have ao:C.length+a=i:=by rw[hs.len];exact h0
   have qY:=aa (And.intro f (And.intro h0 (And.intro hs hu)));have hx:0<K x/\x<1114112:=HM.out x (by rw[f];simp);have HX:=aa hx;have O:(P++(C++(x::R'++S))).length=n:=by
    have D:=congrArg List.length f;have h2:=nR.out;simp only[gn,im] at D h2⊢;have:=hs.len;omega
   have ak:=aa O;have aD:=aa ao;have aB:=aa hd;clear f H V hs hu h0 hx O ao hd;go_wp2_with fail;go_loopw [9] (λjv wq=>∃j:Nat,a<=j/\j<=i/\jv=.int .i64 j/\(∃X Y,C=X++Y/\X.length+a=j/\(∀y,Y.head? = some y->K x<K y)/\bI wq b p (P++(X++x::(Y++(R'++S)))) q)/\Below N w wq) (λjv _=>(intOf jv).toNat)
   case atStart=>exact⟨i,by omega,d' _,rfl,⟨C,[],by simp,aD.out,by simp,by simpa using aB.out⟩,L⟩
   case round=>
    clear L;obtain⟨j,aP,aE,rfl,⟨X,Y,u,Yk,J,hd⟩,L⟩:=hrel
    have t:(∀y,X.getLast? = some y->K y<=K x)->Hid (∃r s m,M=r++m/\(i+1<=c->r.length+a=i+1)/\(c<i+1->m=[])/\fe K r s/\up K s/\∀W,bI W b p (P++(X++x::(Y++(R'++S)))) q->bI W b p (P++(s++(m++S))) q):=λhl=>aa (by
     obtain⟨T,r2,Q,r4⟩:=qY.out;rw[u] at Q r4;obtain⟨s1,s2⟩:=KM r4 HX.out.1 hl J;refine⟨M0++[x],X++x::Y,R',by rw[T];simp,λ_=>by rw[gn,<-r2];simp;omega,λh=>?_,(Q.app (fe.refl [x])).trans s1,s2,λW hd=>by simpa using hd⟩;have D:=congrArg List.length T;have h2:=HC.out;have h3:=HA.out;simp only[gn,im] at D
     exact iJ.1 (by omega))
    by_cases aM:a<j
    ·have z:=eG (show a<j by omega);obtain⟨l,ab⟩:∃l,j=l+1:=⟨j-1,by omega⟩;have e1:IntKind.i64.wrap ((j:Int)-1)=(l:Int):=by rw[kf _ (by omega)];omega
     obtain⟨d,y,rfl⟩:∃d y,X=d++[y]:=by
      rcases oR X with rfl|⟨d,y,h⟩
      ·simp at Yk;omega
      exact⟨d,y,by simpa using h⟩
     have am:d.length+a=l:=by simp at Yk;omega
     have hL:P++((d++[y])++x::(Y++(R'++S)))=(P++d)++y::x::(Y++(R'++S)):=by simp
     rw[hL] at hd;have E:(P++d).length=l:=by rw[gn,<-HA.out];omega
     have g1:((P++d)++y::x::(Y++(R'++S)))[l]? = some y:=gM _ _ _ _ E.symm;have g2:((P++d)++y::x::(Y++(R'++S)))[j]? = some x:=by
      have:=gM ((P++d)++[y]) (Y++(R'++S)) x j (by rw[gn,E,ab];rfl);simpa using this
     have ah:y<1114112:=by
      have aq:y∈C:=by rw[u];simp
      have au:y∈M:=by
       obtain⟨T,_,Q,_⟩:=qY.out;rw[T];exact ks _ (Q.mem.1 aq)
      exact(HM.out y au).2
     have aL:j<n:=by
      have:=(iR.1 g2).1;have h3:=ak.out;have h4:=congrArg List.length u;simp only[gn,im,kp] at this h3 h4;omega
     have c1:=hd.at (o:=off+l) (by rw[HO.out]) g1;have c2:=hd.at (o:=off+j) (by rw[HO.out]) g2;have E0:=ag wr;have b1:=Gr.cell E0 c1;have b2:=Gr.cell E0 c2;have CC:=aa (ar.out wr.drew (aw.trans L.drew) x y HX.out.2 ah);have HD:=aa hd;have VD:=aa am;have F:=aa E;have Yl:=aa u;have aQ:=aa J;have kT:=hd.lt;obtain⟨kx,Z⟩:=ae (K x);obtain⟨ky,ad⟩:=ae (K y);rw[<-Z,<-ad] at CC;have KP:=aa Z;have an:=aa ad;obtain⟨cz,U⟩:=ae (wP kx ky);rw[<-U] at CC;have ap:cz<0↔kx<ky:=by rw[U];exact Aw
     have NU:=aa ap;have aK:l<j:=by omega
     have ai:=aa ab;clear hL E hd Yk am u J Z ad U ap g1 g2 ah ab c1 c2;go_wp2_with fail;refine aC (Array.replicate 17 true) 17 0 mixed ?_;refine ay [0,1,2,3,4,5,6,7,8,9,10,11,12,13] 3 ?_
     iterate 14 (refine aA rfl ?_;go_big_quiet_step (rfl))
     refine az ?_;refine aI 14 ?_;go_wp2_with fail;refine CC.out.mono ?_;rintro e w6⟨rfl,G⟩;go_wp2_with fail;refine aF G ?_;refine ay [15,16] 0 ?_
     iterate 2 (refine aA rfl ?_;go_big_quiet_step (rfl))
     refine az ?_;refine aJ [] ?_;refine tail_nil ?_;have g:=HD.out.mono (af E0 G);have ji:=(L.drew).trans (G.mono (by show N<=wr.heap.size;omega));have av:=aa t;clear t b1 b2 CC E0 G L;by_cases v:kx<ky
     ·have z3:cz<0:=NU.out.2 v;have z2:decide (cz<0)=true:=by simp;exact z3
      have Vh:(P++d++y::x::(Y++(R'++S)))[l]? = some y:=gM _ _ _ _ F.out.symm;have ac:(P++d++y::x::(Y++(R'++S)))[j]? = some x:=by
       have:=gM ((P++d)++[y]) (Y++(R'++S)) x j (by rw[gn,F.out,ai.out];rfl);simpa using this
      have al:((P++d++y::x::(Y++(R'++S))).set j y).set l x=P++(d++x::((y::Y)++(R'++S))):=by
       have D:=set_mid ((P++d)++[y]) (Y++(R'++S)) x y j (by rw[gn,F.out,ai.out];rfl);simp only[kl,lz,lf] at D⊢;rw[D];have h2:=set_mid (P++d) (y::(Y++(R'++S))) y x l F.out.symm;simpa using h2
      have c1:=g.at (o:=off+l) (by rw[HO.out]) Vh;have c2:=g.at (o:=off+j) (by rw[HO.out]) ac;have f1:=g.frozen (off+l);have f2:=g.frozen (off+j);have A:=(g.set (o:=off+j) (by rw[HO.out]) (iR.1 ac).1 y).set (o:=off+l) (k:=l) (by rw[HO.out]) (by rw[m7];exact(iR.1 Vh).1) x;rw[al] at A;have B:=aa A;have Qo:=aa v;clear Vh ac al g A v;go_wp2_with fail;go_region;go_wp2_with fail;go_roundw
      case rel=>exact⟨l,by have:=VD.out;omega,by omega,by first|rfl|go_num,⟨d,y::Y,by rw[Yl.out];simp,VD.out,λy' h=>by cases h;rw[<-KP.out,<-an.out];exact Qo.out,B.out.mono (ag _)⟩,(aj (aj ji hN) hN).drew⟩
      case measure=>simp[intOf];omega
     have z2:decide (cz<0)=false:=by simp;exact xm.1 λh=>v (NU.out.1 h)
     have z3:¬cz<0:=λh=>v (NU.out.1 h);have z4:0<=cz:=xm.1 z3
     have HR:=av.out (λy' h=>by
      rw[mx] at h;injection h with h
      rw[<-h,<-KP.out,<-an.out];omega)
     have A:bI w6 b p (P++((d++[y])++x::(Y++(R'++S)))) q:=by simpa using g
     have B:=aa A;clear g A v;go_wp2_with fail;go_roundw
     case rel=>
      obtain⟨r,s,m,T,r2,Q,r4,r5,r6⟩:=HR.out;exact⟨i+1,by omega,by omega,by simp,⟨r,s,m,T,r2,Q,r4,r5,r6 _ B.out⟩,ji⟩
     case measure=>simp[intOf];omega
    have z:=gI (show j<=a by omega);obtain rfl:X=[]:=iJ.1 (by omega);have HR:=t (λy' h=>by cases h);have HD:=aa hd;clear hd t u J;go_wp2_with fail;go_quiet (fail);have uK:Below N w (wr.drewN nq):=L.trans ⟨rfl,rfl,rfl,d' _,λ_ _=>rfl⟩;have B:Hid (bI (wr.drewN nq) b p (P++([]++x::(Y++(R'++S)))) q):=aa (HD.out.mono ⟨rfl,rfl,rfl,d' _,λ_ _=>rfl⟩);go_wp2_with fail;go_roundw
    case rel=>
     obtain⟨r,s,m,T,r2,Q,r4,r5,r6⟩:=HR.out;exact⟨i+1,by omega,by omega,by simp,⟨r,s,m,T,r2,Q,r4,r5,r6 _ B.out⟩,uK⟩
    case measure=>simp[intOf];omega
  have z:=gI (show c<=i by omega);have hR:R=[]:=by
   by_cases h:c<i
   ·exact V h
   have D:=congrArg List.length f;have h2:=HC.out;have h3:=HA.out;have h4:=H (by omega);rw[gn] at D;exact iJ.1 (by omega)
  subst hR;rw[me] at f;have ax:=aa f;clear f H V;go_wp2_with fail
  go_end0
  exact⟨rfl,⟨C,by rw[ax.out];exact hs,hu,by simpa using hd⟩,L⟩
def yn {R:List Nat} {t y:Nat} (h:R[t]? = some y):(R.take (t+1)).getLast? = some y:=by
 rw[vt,h];simp
def yt {R:List Nat} {t:Nat}:(R.drop t).head? = R[t]?:=by rw[List.head?_drop]
def Sk (hN:N<=b) (hC:zO w0 N K cv) (ad:Below N w0 w) (P:List Nat) (x:Nat) (R S:List Nat) (h:bI w b p (P++(x::(R++S))) q) (hR:∀y∈R,0<K y/\y<1114112) (hu:up K R) (hx:x<1114112)
 {m:Nat} (ho:off=p.length) (hn:(P++(x::(R++S))).length=n) (rW:n<1000000) (ha:a=P.length) (hm:m=a+1) (hc:c=m+R.length) :
 Calls prog 264 #[.slice (some ⟨b,off,none⟩) n cap,.int .i64 a,.int .i64 m,.int .i64 c,ym cv] w λe w'=>e=.returned (.tuple #[])/\(∃M',fe K (x::R) M'/\up K M'/\bI w' b p (P++(M'++S)) q)/\Below N w w':=by
 have ab:a<m/\m<=c/\c<=n:=by
  simp only[gn,im] at hn;omega
 have E:=aa ho;have HA:=aa ha;have HC:=aa hc;have HM:=aa hm;have HD:=aa h;have nR:=aa hn;have HR:=aa hR;have Z:=aa hC;have HU:=aa hu;have e1:IntKind.i64.wrap ((m:Int)-(a:Int))=1:=by rw[kf _ (by omega)];omega
 have ao:=h.lt;clear ho ha hc hm h hn hR hC hu;go_enter func264,ntmps264;go_wp2;go_loopw [10,11] (λiv jv wr=>∃i j:Nat,m<=i/\i<=j/\j<=c/\iv=.int .i64 i/\jv=.int .i64 j/\(∀z,(R.take (i-m)).getLast? = some z->K z<K x)/\(∀z,(R.drop (j-m)).head? = some z->K x<=K z)/\bI wr b p (P++(x::(R++S))) q/\Below N w wr) (λiv jv _=>(intOf jv).toNat-(intOf iv).toNat)
 case atStart=>exact⟨m,c,d' _,ab.2.1,d' _,rfl,rfl,(λz h=>by rw[ns] at h;cases h),(λz h=>by rw[HC.out,lk,qK] at h;cases h),HD.out,gS _ _⟩
 case round=>
  obtain⟨i,j,vL,ar,ai,rfl,rfl,hi,hj,hd,u⟩:=hrel;have HI:=aa hi;have HJ:=aa hj;clear hi hj;by_cases C:i<j
  ·have z:=eG (show i<j by omega);obtain⟨h,hh⟩:=ae ((i+j) / 2);have al:i<=h/\h<j:=by omega
   have e2:((i:Int)+(j:Int)) / 2=(h:Int):=by omega
   obtain⟨y,f⟩:∃y,R[h-m]? = some y:=⟨_,gx (by have:=HC.out;omega)⟩;have G:(P++(x::(R++S)))[a]? = some x:=gM _ _ _ _ HA.out;have F:(P++(x::(R++S)))[h]? = some y:=by
    have hl:=HM.out;have am:=HA.out;rw[j' (by omega),show h-P.length=(h-m)+1 by omega,tf,kB (iR.1 f).1];exact f
   have H:=HR.out y (lO f);have c1:=hd.at (o:=off+a) (by rw[E.out]) G;have c2:=hd.at (o:=off+h) (by rw[E.out]) F;have V:=ag wr;have b1:=Gr.cell V c1;have b2:=Gr.cell V c2;have CC:=aa (Z.out wr.drew (ad.trans u.drew) y x H.2 hx);obtain⟨L,v⟩:=ae (wP (K y) (K x));rw[<-v] at CC;have NU:=aa (show L<0↔K y<K x from by rw[v];exact Aw);have HY:=aa f;have s:=aa hd;have ak:h<n/\a<n:=by omega
   clear hh G F H c1 c2 v f hd;go_wp2_with fail;refine aC (Array.replicate 11 true) 11 0 mixed ?_;refine ay [0,1,2,3,4,5,6,7,8] 2 ?_
   iterate 9 (refine aA rfl ?_;go_big_quiet_step (rfl))
   refine az ?_;refine aI 9 ?_;go_wp2_with fail;refine CC.out.mono ?_;rintro e w6⟨rfl,r⟩;go_wp2_with fail;refine aF r ?_;refine ay [10] 0 ?_
   iterate 1 (refine aA rfl ?_;go_big_quiet_step (rfl))
   refine az ?_;refine aJ [] ?_;refine tail_nil ?_;have T:=aa (s.out.mono (af V r));have ji:=(u.drew).trans (r.mono (by have:=s.out.lt;show N<=wr.heap.size;omega));clear b1 b2 CC V r u;by_cases g:L<0
   ·have z2:decide (L<0)=true:=by simp;exact g
    go_wp2_with fail;go_roundw
    case rel=>exact⟨h+1,j,by omega,by omega,ai,by simp,rfl,λz A=>by
     rw[show h+1-m=(h-m)+1 by omega,yn HY.out] at A;cases A
     exact NU.out.1 g,HJ.out,T.out,ji⟩
    case measure=>simp[intOf];omega
   have z2:decide (L<0)=false:=by simp;omega
   have z4:0<=L:=by omega
   go_wp2_with fail;go_roundw
   case rel=>exact⟨i,h,vL,by omega,by omega,rfl,rfl,HI.out,λz A=>by
    rw[yt,HY.out] at A;cases A
    exact Nat.not_lt.1 λhk=>g (NU.out.2 hk),T.out,ji⟩
   case measure=>simp[intOf];omega
  have z:=gI (show j<=i by omega);obtain rfl:i=j:=by omega
  obtain⟨l,I⟩:∃l,i=l+1:=⟨i-1,by omega⟩;have e3:IntKind.i64.wrap ((i:Int)-1)=(l:Int):=by rw[kf _ (by omega)];omega
  have Q:=aa I;have ah:a<=l/\l<i:=by omega
  have s:=aa hd;clear I hd;go_wp2_with fail;obtain⟨wo,rfl⟩:∃wo:World,wo=wr:=⟨_,rfl⟩;go_loopw [13] (λkv wr=>∃k:Nat,a<=k/\k<=l/\kv=.int .i64 k/\bI wr b p (P++(R.take (k-a)++x::(R.drop (k-a)++S))) q/\Below N w wr) (λkv _=>l-(intOf kv).toNat)
  case atStart=>exact⟨a,d' _,ah.1,rfl,by simpa using s.out,u⟩
  case round=>
   clear u;obtain⟨k,an,ap,rfl,hd,u⟩:=hrel;by_cases hk:k<l
   ·have z5:=eG (show k<l by omega);obtain⟨d,t⟩:=ae (k+1);have e4:IntKind.i64.wrap ((k:Int)+1)=(d:Int):=by rw[kf _ (by omega)];omega
    obtain⟨y,f⟩:∃y,R[k-a]? = some y:=⟨_,gx (by have:=HC.out;have:=HM.out;have:=Q.out;omega)⟩;have J:R.drop (k-a)=y::R.drop (d-a):=by
     rw[show d-a=(k-a)+1 by omega,<-(iR.1 f).2];exact jf (iR.1 f).1
    have M:R.take (d-a)=R.take (k-a)++[y]:=by rw[show d-a=(k-a)+1 by omega,vt,f];rfl
    have C:(R.take (k-a)).length=k-a:=by rw[jn];have:=(iR.1 f).1;omega
    rw[J] at hd;have W:(P++R.take (k-a)).length=k:=by rw[gn,C,<-HA.out];omega
    have O:P++(R.take (k-a)++x::(y::R.drop (d-a)++S))=(P++R.take (k-a))++x::y::(R.drop (d-a)++S):=by simp
    rw[O] at hd;have G:((P++R.take (k-a))++x::y::(R.drop (d-a)++S))[k]? = some x:=gM _ _ _ _ W.symm;have F:((P++R.take (k-a))++x::y::(R.drop (d-a)++S))[d]? = some y:=by
     have:=gM ((P++R.take (k-a))++[x]) (R.drop (d-a)++S) y d (by rw[gn,W,t];rfl);simpa using this
    have B:=Sc (P++R.take (k-a)) (R.drop (d-a)++S) x y;rw[W,<-t] at B;have c1:=hd.at (o:=off+k) (by rw[E.out]) G;have c2:=hd.at (o:=off+d) (by rw[E.out]) F;have f1:=hd.frozen (off+k);have f2:=hd.frozen (off+d);have D:=(hd.set (o:=off+k) (by rw[E.out]) (iR.1 G).1 y).set (o:=off+d) (k:=d) (by rw[E.out]) (by rw[m7];exact(iR.1 F).1) x;rw[B] at D;have ac:=aa (show bI _ b p (P++(R.take (d-a)++x::(R.drop (d-a)++S))) q from by rw[M];simpa using D);have aq:k<n/\d<n/\k≠d:=by omega
    have U:=aa t;clear t J M C W O G F B hd D f;go_wp2_with fail;go_region;go_wp2_with fail;go_roundw
    case rel=>exact⟨d,by have:=U.out;omega,by have:=U.out;omega,by first|rfl|(rw[U.out];go_num),ac.out.mono (ag _),(aj (aj u hN) hN).drew⟩
    case measure=>have:=U.out;simp[intOf];omega
   have z5:=gI (show l<=k by omega);obtain rfl:k=l:=by omega
   have ht:k-a=i-m:=by have:=Q.out;have:=HM.out;omega
   rw[ht] at hd;have HT:=aa hd;clear hd ht;go_wp2_with fail;obtain⟨s1,s2⟩:=Vz (X:=R.take (i-m)) (Y:=R.drop (i-m)) (c:=x) (by rw[km];exact HU.out) (λz A=>(HR.out z (rj A)).1) HI.out HJ.out;rw[km] at s1;exact bodyPost_ret (results_none rfl _ _ _) rfl ⟨rfl,⟨_,s1,s2,by have:=HT.out;simpa using this⟩,u⟩
def Sm (hN:N<=b) (hC:zO w0 N K cv) (ah:Below N w0 w) (P:List Nat) (x:Nat) (L S:List Nat) (h:bI w b p (P++(L++(x::S))) q) (hR:∀y∈L,y<1114112) (hu:up K L) (hx:0<K x/\x<1114112) (ar:L.length≠1)
 {m:Nat} (ho:off=p.length) (hn:(P++(L++(x::S))).length=n) (rW:n<1000000) (ha:a=P.length) (hm:m=a+L.length) (hc:c=m+1) :
 Calls prog 264 #[.slice (some ⟨b,off,none⟩) n cap,.int .i64 a,.int .i64 m,.int .i64 c,ym cv] w λe w'=>e=.returned (.tuple #[])/\(∃M',fe K (L++[x]) M'/\up K M'/\bI w' b p (P++(M'++S)) q)/\Below N w w':=by
 have ac:a<=m/\m<c/\c<=n:=by
  simp only[gn,im] at hn;omega
 have B:=aa ho;have HA:=aa ha;have HC:=aa hc;have G:=aa hm;have HD:=aa h;have nR:=aa hn;have HR:=aa hR;have ab:=aa hC;have HU:=aa hu;have al:m-a≠1:=by omega
 obtain⟨W,ak⟩:∃W:Nat,W=m-a:=⟨_,rfl⟩;have e1:IntKind.i64.wrap ((m:Int)-(a:Int))=(W:Int):=by rw[kf _ (by omega)];omega
 have Vh:IntKind.i64.wrap ((c:Int)-(m:Int))=1:=by rw[kf _ (by omega)];omega
 have z0:((W:Int)==1)=false:=by simp;omega
 have aq:=h.lt;clear ho ha hc hm h hn hR hC hu al ak;go_enter func264,ntmps264;go_wp2;go_loopw [14,15] (λiv jv wr=>∃i j:Nat,a<=i/\i<=j/\j<=m/\iv=.int .i64 i/\jv=.int .i64 j/\(∀z,(L.take (i-a)).getLast? = some z->K z<=K x)/\(∀z,(L.drop (j-a)).head? = some z->K x<K z)/\bI wr b p (P++(L++(x::S))) q/\Below N w wr) (λiv jv _=>(intOf jv).toNat-(intOf iv).toNat)
 case atStart=>exact⟨a,m,d' _,ac.1,d' _,rfl,rfl,(λz h=>by rw[ns] at h;cases h),(λz h=>by rw[G.out,lk,qK] at h;cases h),HD.out,gS _ _⟩
 case round=>
  obtain⟨i,j,vL,aw,Q,rfl,rfl,hi,hj,hd,s⟩:=hrel;have HI:=aa hi;have HJ:=aa hj;clear hi hj;by_cases v:i<j
  ·have z:=eG (show i<j by omega);obtain⟨h,hh⟩:=ae ((i+j) / 2);have an:i<=h/\h<j:=by omega
   have e2:((i:Int)+(j:Int)) / 2=(h:Int):=by omega
   obtain⟨y,f⟩:∃y,L[h-a]? = some y:=⟨_,gx (by have:=G.out;omega)⟩;have D:(P++(L++(x::S)))[m]? = some x:=by
    have:=gM (P++L) S x m (by rw[gn,G.out,HA.out]);simpa using this
   have C:(P++(L++(x::S)))[h]? = some y:=by
    have ao:=HA.out;rw[j' (by omega),show h-P.length=h-a by omega,kB (iR.1 f).1];exact f
   have E:=HR.out y (lO f);have c1:=hd.at (o:=off+m) (by rw[B.out]) D;have c2:=hd.at (o:=off+h) (by rw[B.out]) C;have U:=ag wr;have b1:=Gr.cell U c1;have b2:=Gr.cell U c2;have CC:=aa (ab.out wr.drew (ah.trans s.drew) x y hx.2 E);obtain⟨u,t⟩:=ae (wP (K x) (K y));rw[<-t] at CC;have NU:=aa (show u<0↔K x<K y from by rw[t];exact Aw);have HY:=aa f;have r:=aa hd;have am:h<n/\m<n:=by omega
   clear hh D C E c1 c2 t f hd;go_wp2_with fail;refine aC (Array.replicate 12 true) 12 0 mixed ?_;refine ay [0,1,2,3,4,5,6,7,8] 3 ?_
   iterate 9 (refine aA rfl ?_;go_big_quiet_step (rfl))
   refine az ?_;refine aI 9 ?_;go_wp2_with fail;refine CC.out.mono ?_;rintro e w6⟨rfl,l⟩;go_wp2_with fail;refine aF l ?_;refine ay [10,11] 0 ?_
   iterate 2 (refine aA rfl ?_;go_big_quiet_step (rfl))
   refine az ?_;refine aJ [] ?_;refine tail_nil ?_;have R:=aa (r.out.mono (af U l));have ji:=(s.drew).trans (l.mono (by have:=r.out.lt;show N<=wr.heap.size;omega));clear b1 b2 CC U l s;by_cases g:u<0
   ·have z2:decide (u<0)=true:=by simp;exact g
    go_wp2_with fail
    all_goals first|(exfalso;have T:=‹(!decide (u<0))=true›;rw[z2] at T;exact absurd T (by decide))|skip
    go_roundw
    case rel=>exact⟨i,h,vL,by omega,by omega,rfl,rfl,HI.out,λz F=>by
     rw[yt,HY.out] at F;cases F
     exact NU.out.1 g,R.out,ji⟩
    case measure=>simp[intOf];omega
   have z2:decide (u<0)=false:=by simp;omega
   have z4:0<=u:=by omega
   go_wp2_with fail
   all_goals first|(exfalso;have T:=‹(!decide (u<0))=false›;rw[z2] at T;exact absurd T (by decide))|skip
   go_roundw
   case rel=>exact⟨h+1,j,by omega,by omega,Q,by simp,rfl,λz F=>by
    rw[show h+1-a=(h-a)+1 by omega,yn HY.out] at F;cases F
    exact Nat.not_lt.1 λhk=>g (NU.out.2 hk),HJ.out,R.out,ji⟩
   case measure=>simp[intOf];omega
  have z:=gI (show j<=i by omega);obtain rfl:i=j:=by omega
  have r:=aa hd;clear hd;go_wp2_with fail;obtain⟨wo,rfl⟩:∃wo:World,wo=wr:=⟨_,rfl⟩;go_loopw [17] (λkv wr=>∃k:Nat,i<=k/\k<=m/\kv=.int .i64 k/\bI wr b p (P++(L.take (k-a)++x::(L.drop (k-a)++S))) q/\Below N w wr) (λkv _=>(intOf kv).toNat)
  case atStart=>exact⟨m,Q,d' _,rfl,by
   have Z:=r.out;have h2:m-a=L.length:=by have:=G.out;omega
   rw[h2,lB,qK]
   simpa using Z,s⟩
  case round=>
   clear s;obtain⟨k,ap,au,rfl,hd,s⟩:=hrel;by_cases hk:i<k
   ·have z5:=eG (show i<k by omega);obtain⟨d,V⟩:∃d,k=d+1:=⟨k-1,by omega⟩;have e4:IntKind.i64.wrap ((k:Int)-1)=(d:Int):=by rw[kf _ (by omega)];omega
    obtain⟨y,f⟩:∃y,L[d-a]? = some y:=⟨_,gx (by have:=G.out;omega)⟩;have I:L.drop (d-a)=y::L.drop (k-a):=by
     rw[show k-a=(d-a)+1 by omega,<-(iR.1 f).2];exact jf (iR.1 f).1
    have M:L.take (k-a)=L.take (d-a)++[y]:=by rw[show k-a=(d-a)+1 by omega,vt,f];rfl
    have v:(L.take (d-a)).length=d-a:=by rw[jn];have:=(iR.1 f).1;omega
    rw[M] at hd;have H:(P++L.take (d-a)).length=d:=by rw[gn,v,<-HA.out];omega
    have O:P++(L.take (d-a)++[y]++x::(L.drop (k-a)++S))=(P++L.take (d-a))++y::x::(L.drop (k-a)++S):=by simp
    rw[O] at hd;have D:((P++L.take (d-a))++y::x::(L.drop (k-a)++S))[d]? = some y:=gM _ _ _ _ H.symm;have C:((P++L.take (d-a))++y::x::(L.drop (k-a)++S))[k]? = some x:=by
     have:=gM ((P++L.take (d-a))++[y]) (L.drop (k-a)++S) x k (by rw[gn,H,V];rfl);simpa using this
    have J:((P++L.take (d-a)++y::x::(L.drop (k-a)++S)).set k y).set d x=P++L.take (d-a)++x::y::(L.drop (k-a)++S):=by
     have Z:=set_mid ((P++L.take (d-a))++[y]) (L.drop (k-a)++S) x y k (by rw[gn,H,V];rfl);simp only[kl,lz,lf] at Z⊢;rw[Z];have h2:=set_mid (P++L.take (d-a)) (y::(L.drop (k-a)++S)) y x d H.symm;simpa using h2
    have c1:=hd.at (o:=off+d) (by rw[B.out]) D;have c2:=hd.at (o:=off+k) (by rw[B.out]) C;have f1:=hd.frozen (off+d);have f2:=hd.frozen (off+k);have A:=(hd.set (o:=off+k) (by rw[B.out]) (iR.1 C).1 y).set (o:=off+d) (k:=d) (by rw[B.out]) (by rw[m7];exact(iR.1 D).1) x;rw[J] at A;have ad:=aa (show bI _ b p (P++(L.take (d-a)++x::(L.drop (d-a)++S))) q from by rw[I];simpa using A);have av:k<n/\d<n/\d≠k:=by omega
    have Oa:=aa V;have ai:d<k/\i<=d:=by omega
    clear V I M v H O D C J hd A f;go_wp2_with fail;go_region;go_wp2_with fail;go_roundw
    case rel=>exact⟨d,ai.2,by omega,by first|rfl|(rw[Oa.out];go_num),ad.out.mono (ag _),(aj (aj s hN) hN).drew⟩
    case measure=>simp[intOf];omega
   have z5:=gI (show k<=i by omega);obtain rfl:i=k:=by omega
   have HT:=aa hd;clear hd;go_wp2_with fail;obtain⟨s1,s2⟩:=KM (X:=L.take (i-a)) (Y:=L.drop (i-a)) (c:=x) (by rw[km];exact HU.out) hx.1 HI.out HJ.out;rw[km] at s1;exact bodyPost_ret (results_none rfl _ _ _) rfl ⟨rfl,⟨_,s1,s2,by have:=HT.out;simpa using this⟩,s⟩
end Go.Proofs.YtmnimbnojdndmaaGreatDoor
