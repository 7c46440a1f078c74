/- Texts that are alike cost, and count, the same; no condition. -/
import Derived.Test.YtmnimbnojdndmaaGreatDoorU10
import Derived.BigRegion
import Derived.Deep.CutRange
set_option maxRecDepth 100000
set_option maxHeartbeats 6400000
set_option linter.all false
namespace Go.Proofs.YtmnimbnojdndmaaGreatDoor
section
open Go.RowKit Go.Cd _root_.Go.Proofs.Tryz
def bI (W:World) (b:Nat) (p l:List Nat) (q:List Value):Prop:=Is W b (aM p++(aM l++q)).toArray aN
section
variable {W W' : World} {b : Nat} {p l : List Nat} {q : List Value}
def bI.at (h:bI W b p l q) {k c o:Nat} (d:o=p.length+k) (f:l[k]? = some c):W.cell? ⟨b,o,none⟩=some (.int .i32 (c:Nat)):=by
 subst d;refine Is.at h _ ?_;obtain⟨a,e⟩:=ir.1 f;rw[tD,j7 (by simp),bF,kB,kn (by simpa using a),gA (by simpa using a),dR _ _ a,e]
def bI.frozen (h:bI W b p l q) (o:Nat):W.frozen? ⟨b,o,none⟩=false:=Is.frozen h o
def bI.lt (h:bI W b p l q):b<W.heap.size:=Is.lt h
def bI.set (h:bI W b p l q) {k o:Nat} (a:o=p.length+k) (d:k<l.length) (c:Nat):bI (W.setCell ⟨b,o,none⟩ (.int .i32 (c:Nat))) b p (l.set k c) q:=by
 subst a;have:=Is.set h (p.length+k) (.int .i32 (c:Nat));have e:(aM p++(aM l++q)).toArray.setIfInBounds (p.length+k) (.int .i32 (c:Nat))=(aM p++(aM (l.set k c)++q)).toArray:=by
  rw[vi,k_ (h:=by simp),bF,kB,x6 (h:=by simpa using d)];simp[aM,tt]
 unfold bI;rw[<-e];exact this
def bI.mono (h:bI W b p l q) (a:Below W.heap.size W W'):bI W' b p l q:=Is.mono h a
end
def set_mid (A Z:List Nat) (x y k:Nat) (h:k=A.length):(A++x::Z).set k y=A++y::Z:=by
 subst h;rw[k_ (h:=gw _),m_];rfl
def gM (A Z:List Nat) (x k:Nat) (h:k=A.length):(A++x::Z)[k]? = some x:=by
 subst h;rw[j7 (gw _),m_];rfl
def Sg (P a b M c d S:List Nat) (x y f e:Nat) (h:f=P.length+a.length) (i:e=P.length+a.length+1+b.length+M.length+c.length) :
 (P++(a++(x::b++(M++(c++(y::d++S))))))[f]? = some x/\(P++(a++(x::b++(M++(c++(y::d++S))))))[e]? = some y/\
 ((P++(a++(x::b++(M++(c++(y::d++S)))))).set f y).set e x=P++((a++[y])++(b++(M++((c++[x])++(d++S))))):=by
 have g:P++(a++(x::b++(M++(c++(y::d++S)))))=(P++a)++x::(b++(M++(c++(y::d++S)))):=by simp
 have j:P++(a++(x::b++(M++(c++(y::d++S)))))=(P++a++x::b++M++c)++y::(d++S):=by simp
 have k:(P++a)++y::(b++(M++(c++(y::d++S))))=(P++a++y::b++M++c)++y::(d++S):=by simp
 refine⟨by rw[g];exact gM _ _ _ _ (by simp[h]),by rw[j];exact gM _ _ _ _ (by simp[i];omega),?_⟩;rw[g,set_mid _ _ _ _ _ (by simp[h]),k,set_mid _ _ _ _ _ (by simp[i];omega)];simp
def yl {w:World} {b N:Nat} (hN:N<=b) {p:List Nat} {q:List Value} (P X M Y S:List Nat) (h:bI w b p (P++(X++(M++(Y++S)))) q) (hl:Y.length=X.length) {off n cap a c k:Nat} (T:off=p.length) (K:(P++(X++(M++(Y++S)))).length=n) (rW:n<1000000) (ha:a=P.length) (hc:c=P.length+X.length+M.length) (hk:k=X.length) (f:Value) :
 Calls prog 301 #[.slice (some ⟨b,off,none⟩) n cap,.int .i64 a,.int .i64 c,.int .i64 k,f] w λe w'=>e=.returned (.tuple #[])/\bI w' b p (P++(Y++(M++(X++S)))) q/\Below N w w':=by
 have:c+k<=n/\a+k<=c:=by
  simp only[d'] at K;omega
 have I:=aa T;have HA:=aa ha;have HC:=aa hc;have C:=aa hk;have U:=aa hl;have HD:=aa h;have:=aa K;clear T ha hc hk hl h K;go_enter func301,ntmps301;go_wp2;go_loopw [10] (λO wr=>∃i:Nat,i<=k/\O=.int .i64 i/\(∃B t v A,X=B++t/\Y=v++A/\B.length=i/\v.length=i/\bI wr b p (P++(v++(t++(M++(B++(A++S)))))) q)/\Below N w wr) (λO _=>k-(intOf O).toNat)
 case atStart=>exact⟨0,gW _,rfl,⟨[],X,[],Y,rfl,rfl,rfl,rfl,by simpa using HD.out⟩,gO _ _⟩
 case round=>
  obtain⟨i,hi,rfl,⟨B,t,v,A,V,hY,F,E,hd⟩,W⟩:=hrel;have D:=aa V;have H:=aa hY;have G:=aa F;have d:=aa E;clear V hY F E;by_cases ad:i<k
  ·have z:=eG (show i<k by omega);obtain⟨x,r,rfl⟩:∃x r,t=x::r:=by
    cases t with
    | nil=>have:=congrArg List.length D.out;have:=G.out;have:=C.out;simp at *;omega
    | cons x r=>exact⟨x,r,rfl⟩
   obtain⟨y,u,rfl⟩:∃y u,A=y::u:=by
    cases A with
    | nil=>have:=congrArg List.length H.out;have:=d.out;have:=C.out;have:=U.out;simp at *;omega
    | cons y u=>exact⟨y,u,rfl⟩
   obtain⟨j,s⟩:=ae (a+i);obtain⟨g,m⟩:=ae (c+i);have:r.length+i+1=k:=by have:=congrArg List.length D.out;have:=G.out;have:=C.out;simp at *;omega
   obtain⟨J,Q,Z⟩:=Sg P v r M B u S x y j g (by rw[s,HA.out,d.out]) (by rw[m,HC.out,d.out,G.out,<-C.out];omega);have:IntKind.i64.wrap ((a:Int)+(i:Int))=(j:Int):=by rw[s,j8 _ (by omega)];simp
   have:IntKind.i64.wrap ((c:Int)+(i:Int))=(g:Int):=by rw[m,j8 _ (by omega)];simp
   have:=hd.at (o:=off+j) (by rw[I.out]) J;have:=hd.at (o:=off+g) (by rw[I.out]) Q;have:=hd.frozen (off+j);have:=hd.frozen (off+g);have l:=(hd.set (o:=off+j) (by rw[I.out]) (ir.1 J).1 y).set (o:=off+g) (k:=g) (by rw[I.out]) (by rw[mN];exact(ir.1 Q).1) x;rw[Z] at l;have L:=aa l;have:j<n/\g<n/\j≠g:=by omega
   clear J Q Z hd l s m;go_wp2_with fail;go_region;go_wp2;go_roundw
   case rel=>exact⟨i+1,by omega,by simp,⟨B++[x],r,v++[y],u,by rw[D.out];simp,by rw[H.out];simp,by simp[G.out],by simp[d.out],L.out.mono (ag _)⟩,(aj (aj W hN) hN).drew⟩
   case measure=>simp[intOf];omega
  have z:=gI (show k<=i by omega);obtain rfl:i=k:=by omega
  obtain rfl:t=[]:=by
   have R:=congrArg List.length D.out;rw[d',G.out,<-C.out] at R;exact im.1 (by omega)
  obtain rfl:A=[]:=by
   have R:=congrArg List.length H.out;rw[d',d.out,U.out,<-C.out] at R;exact im.1 (by omega)
  go_wp2_with fail
  go_end0
  refine⟨rfl,?_,W⟩;rw[D.out,H.out];simpa using hd
def abk {w:World} {b N:Nat} (hN:N<=b) {p:List Nat} {q:List Value} (P A C S:List Nat) (h:bI w b p (P++(A++(C++S))) q) (U:A≠[]) (R:C≠[]) {off n cap a m c:Nat} (ho:off=p.length) (hn:(P++(A++(C++S))).length=n) (Z:n<1000000) (ha:a=P.length) (hm:m=P.length+A.length) (hc:c=P.length+A.length+C.length) (f:Value) :
 Calls prog 285 #[.slice (some ⟨b,off,none⟩) n cap,.int .i64 a,.int .i64 m,.int .i64 c,f] w λe w'=>e=.returned (.tuple #[])/\bI w' b p (P++(C++(A++S))) q/\Below N w w':=by
 have al:a<m/\m<c/\c<=n:=by
  have:=jz.2 U;have:=jz.2 R;simp only[d'] at hn;omega
 obtain⟨V,D⟩:=ae A.length;obtain⟨X,y⟩:=ae C.length;have w1:IntKind.i64.wrap ((m:Int)-(a:Int))=(V:Int):=by rw[j8 _ (by omega)];omega
 have w2:IntKind.i64.wrap ((c:Int)-(m:Int))=(X:Int):=by rw[j8 _ (by omega)];omega
 have HO:=aa ho;have HI:=aa D;have HJ:=aa y;have HM:=aa hm;have HD:=aa h;have nR:=aa hn;have B:0<V/\0<X/\V<=m/\m+X<=n:=by omega
 have HA:=aa ha;have HC:=aa hc;clear ho D y hm h hn ha hc U R;go_enter func285,ntmps285;go_wp2;go_loopw [10,11] (λiv jv wr=>∃i j:Nat,0<i/\0<j/\i<=m/\m+j<=n/\iv=.int .i64 i/\jv=.int .i64 j/\(∃g o l r,P++(C++(A++S))=g++(l++(o++r))/\o.length=i/\l.length=j/\g.length+i=m/\bI wr b p (g++(o++(l++r))) q)/\Below N w wr) (λiv jv _=>(intOf iv).toNat+(intOf jv).toNat)
 case atStart=>exact⟨V,X,B.1,B.2.1,B.2.2.1,B.2.2.2,rfl,rfl,⟨P,A,C,S,rfl,HI.out.symm,HJ.out.symm,by rw[HM.out,HI.out],HD.out⟩,gO _ _⟩
 case round=>
  obtain⟨i,j,D,y,aj,ab,rfl,rfl,⟨g,o,l,r,hS,U,R,hP,hd⟩,hE⟩:=hrel;have HS:=aa hS;have d:=aa U;have s:=aa R;have E:=aa hP;have K:=aa hd;have F:(g++(o++(l++r))).length=n:=by
   have h1:=congrArg List.length hS;rw[<-nR.out];simp only[d'] at h1⊢;omega
  have BA:=aa F;clear hS U R hP hd F;have e1:IntKind.i64.wrap ((m:Int)-(i:Int))=((m-i:Nat):Int):=by rw[j8 _ (by omega)];omega
  obtain⟨mi,vL⟩:=ae (m-i);have Zo:=aa vL;rw[<-vL] at e1;clear vL;by_cases af:i=j
  ·subst af;have z:((i:Int) !=(i:Int))=false:=by simp
   have M:=aa (λW (hd:bI W b p (g++(o++([]++(l++r)))) q)=>yl (w:=W) hN g o [] l r hd (by rw[d.out,s.out]) (n:=n) (cap:=cap) (a:=mi) (c:=m) (k:=i) HO.out (by simpa using BA.out) Z (by rw[Zo.out];have:=E.out;omega) (by have:=E.out;have:=d.out;simp;omega) d.out.symm f);go_wp2_with (go_at_call 301;refine(M.out _ (by simpa using K.out)).mono ?_;rintro e w6⟨rfl,u,t⟩)
   go_end0
   refine⟨rfl,?_,hE.trans t⟩;rw[HS.out];simpa using u
  have z:((i:Int) !=(j:Int))=true:=by simp;omega
  by_cases ak:j<i
  ·have z2:=eG (show j<i by omega);obtain⟨I,H,O,v⟩:∃I H,o=I++H/\I.length=j:=⟨o.take j,o.drop j,(ke _ _).symm,by rw[iS,d.out];omega⟩;have L:H.length=i-j:=by have:=congrArg List.length O;rw[d',d.out,v] at this;omega
   have e2:IntKind.i64.wrap ((i:Int)-(j:Int))=((i-j:Nat):Int):=by rw[j8 _ (by omega)];omega
   have M:=aa (λW (hd:bI W b p (g++(I++(H++(l++r)))) q)=>yl (w:=W) hN g I H l r hd (by rw[v,s.out]) (n:=n) (cap:=cap) (a:=mi) (c:=m) (k:=j) HO.out (by rw[<-BA.out,O];simp) Z (by rw[Zo.out];have:=E.out;omega) (by have:=E.out;omega) v.symm f);have HR:=aa (show P++(C++(A++S))=(g++l)++(I++(H++r)) from by rw[HS.out,O];simp);have ac:=aa O;have ad:=aa v;have ah:=aa L;clear O v L;go_wp2_with (go_at_call 301;refine(M.out _ (by have:=K.out;rw[ac.out] at this;simpa using this)).mono ?_;rintro e w6⟨rfl,u,t⟩);go_roundw
   case rel=>exact⟨i-j,j,by omega,y,by omega,ab,by go_num,rfl,⟨g++l,H,I,r,HR.out,ah.out,ad.out,by rw[d',s.out];have:=E.out;omega,by simpa using u⟩,hE.trans t⟩
   case measure=>simp[intOf];omega
  have z2:=gI (show i<=j by omega);obtain⟨J,G,T,x⟩:∃J G,l=J++G/\J.length=j-i:=⟨l.take (j-i),l.drop (j-i),(ke _ _).symm,by rw[iS,s.out];omega⟩;have L:G.length=i:=by have:=congrArg List.length T;rw[d',s.out,x] at this;omega
  obtain⟨mj,Q⟩:=ae (m+j-i);have ai:=aa Q;have e2:IntKind.i64.wrap ((j:Int)-(i:Int))=((j-i:Nat):Int):=by rw[j8 _ (by omega)];omega
  have e3:IntKind.i64.wrap ((m:Int)+(j:Int)-(i:Int))=(mj:Int):=by rw[j8 _ (by omega)];omega
  clear Q;have M:=aa (λW (hd:bI W b p (g++(o++(J++(G++r)))) q)=>yl (w:=W) hN g o J G r hd (by rw[L,d.out]) (n:=n) (cap:=cap) (a:=mi) (c:=mj) (k:=i) HO.out (by rw[<-BA.out,T];simp) Z (by rw[Zo.out];have:=E.out;omega) (by rw[ai.out,x,d.out];have:=E.out;omega) d.out.symm f);have HR:=aa (show P++(C++(A++S))=g++(J++(G++(o++r))) from by rw[HS.out,T];simp);have Y:=aa T;have vH:=aa x;have ag:=aa L;clear T x L;go_wp2_with (go_at_call 301;refine(M.out _ (by have:=K.out;rw[Y.out] at this;simpa using this)).mono ?_;rintro e w6⟨rfl,u,t⟩);go_roundw
  case rel=>exact⟨i,j-i,D,by omega,aj,by omega,rfl,by go_num,⟨g,G,J,o++r,HR.out,ag.out,vH.out,E.out,by simpa using u⟩,hE.trans t⟩
  case measure=>simp[intOf];omega
end
open Go.RowKit Go.Cd _root_.Go.Proofs.Tryz
variable {w0 w:World} {b N off n cap a c m:Nat} {K:Nat->Nat} {cv:Value} {p R:List Nat} {q:List Value}
def wP (x y:Nat):Int:=if x<y then -1 else if y<x then 1 else 0
def Aw {x y:Nat}:wP x y<0↔x<y:=by unfold wP;split <;> (try split) <;> omega
def zO (w0:World) (N:Nat) (K:Nat->Nat) (cap:Value):Prop:=
 ∀W,Below N w0 W->∀a b:Nat,a<1114112->b<1114112->Calls prog 204 #[.int .i32 a,.int .i32 b,cap] W λe w'=>e=.returned (.int .i64 (wP (K a) (K b)))/\Below W.heap.size W w'
abbrev ym (cap:Value):Value:=.func (.func 204) #[] #[cap]
def VC (hN:N<=b) (hC:zO w0 N K cv) (au:Below N w0 w) (aM:N<=w.heap.size) (P M S:List Nat) (h:bI w b p (P++(M++S)) q) (hM:∀x∈M,0<K x/\x<1114112) (ho:off=p.length) (hn:(P++(M++S)).length=n) (rW:n<1000000) (ha:a=P.length) (hc:c=P.length+M.length) :
 Calls prog 263 #[.slice (some ⟨b,off,none⟩) n cap,.int .i64 a,.int .i64 c,ym cv] w λe w'=>e=.returned (.tuple #[])/\(∃M',fe K M M'/\up K M'/\bI w' b p (P++(M'++S)) q)/\Below N w w':=by
 have aP:a<=c/\c<=n:=by
  simp only[d'] at hn;omega
 have HO:=aa ho;have HA:=aa ha;have HC:=aa hc;have HD:=aa h;have nR:=aa hn;have HM:=aa hM;have aD:=aa hC;clear ho ha hc h hn hM hC;go_enter func263,ntmps263;go_wp2;go_loopw [8] (λiv wr=>∃i:Nat,a<i/\i<=n+1/\iv=.int .i64 i/\(∃M0 D R,M=M0++R/\(i<=c->M0.length+a=i)/\(c<i->R=[])/\fe K M0 D/\up K D/\bI wr b p (P++(D++(R++S))) q)/\Below N w wr) (λiv _=>n+1-(intOf iv).toNat)
 case atStart=>
  refine⟨a+1,by omega,by omega,by simp,?_,gO _ _⟩;cases F:M with
  | nil=>exact⟨[],[],[],rfl,λh=>by have:=HC.out;have:=HA.out;rw[F] at *;simp at *;omega,λ_=>rfl,fe.refl _,acm,by have:=HD.out;rw[F] at this;simpa using this⟩
  | cons x M'=>exact⟨[x],[x],M',rfl,λ_=>by simp;omega,λh=>by have:=HC.out;have:=HA.out;rw[F] at *;simp at *;omega,fe.refl _,acn x,by have:=HD.out;rw[F] at this;simpa using this⟩
 case round=>
  obtain⟨i,aK,aH,rfl,⟨M0,D,R,f,H,U,hs,hu,hd⟩,T⟩:=hrel;by_cases aQ:i<c
  ·have z:=eG (show i<c by omega);have h0:=H (by omega);obtain⟨x,R',rfl⟩:∃x R',R=x::R':=by
    cases R with
    | nil=>exfalso;have C:=congrArg List.length f;have h2:=HC.out;have h3:=HA.out;simp at C;omega
    | cons x R'=>exact⟨x,R',rfl⟩
   have ah:D.length+a=i:=by rw[hs.len];exact h0
   have qY:=aa (And.intro f (And.intro h0 (And.intro hs hu)));have hx:0<K x/\x<1114112:=HM.out x (by rw[f];simp);have HX:=aa hx;have Q:(P++(D++(x::R'++S))).length=n:=by
    have C:=congrArg List.length f;have h2:=nR.out;simp only[d',hU] at C h2⊢;have:=hs.len;omega
   have ao:=aa Q;have aw:=aa ah;have ax:=aa hd;clear f H U hs hu h0 hx Q ah hd;go_wp2_with fail;go_loopw [9] (λjv wq=>∃j:Nat,a<=j/\j<=i/\jv=.int .i64 j/\(∃X Y,D=X++Y/\X.length+a=j/\(∀y,Y.head? = some y->K x<K y)/\bI wq b p (P++(X++x::(Y++(R'++S)))) q)/\Below N w wq) (λjv _=>(intOf jv).toNat)
   case atStart=>exact⟨i,by omega,gw _,rfl,⟨D,[],by simp,aw.out,by simp,by simpa using ax.out⟩,T⟩
   case round=>
    clear T;obtain⟨j,aO,aG,rfl,⟨X,Y,v,Yk,J,hd⟩,T⟩:=hrel
    have t:(∀y,X.getLast? = some y->K y<=K x)->Hid (∃s m r,M=s++r/\(i+1<=c->s.length+a=i+1)/\(c<i+1->r=[])/\fe K s m/\up K m/\∀W,bI W b p (P++(X++x::(Y++(R'++S)))) q->bI W b p (P++(m++(r++S))) q):=λhl=>aa (by
     obtain⟨L,r2,O,r4⟩:=qY.out;rw[v] at O r4;obtain⟨s1,s2⟩:=KM r4 HX.out.1 hl J;refine⟨M0++[x],X++x::Y,R',by rw[L];simp,λ_=>by rw[d',<-r2];simp;omega,λh=>?_,(O.app (fe.refl [x])).trans s1,s2,λW hd=>by simpa using hd⟩;have C:=congrArg List.length L;have h2:=HC.out;have h3:=HA.out;simp only[d',hU] at C
     exact im.1 (by omega))
    by_cases aN:a<j
    ·have z:=eG (show a<j by omega);obtain⟨l,V⟩:∃l,j=l+1:=⟨j-1,by omega⟩;have e1:IntKind.i64.wrap ((j:Int)-1)=(l:Int):=by rw[j8 _ (by omega)];omega
     obtain⟨d,y,rfl⟩:∃d y,X=d++[y]:=by
      rcases oX X with rfl|⟨d,y,h⟩
      ·simp at Yk;omega
      exact⟨d,y,by simpa using h⟩
     have ak:d.length+a=l:=by simp at Yk;omega
     have hL:P++((d++[y])++x::(Y++(R'++S)))=(P++d)++y::x::(Y++(R'++S)):=by simp
     rw[hL] at hd;have I:(P++d).length=l:=by rw[d',<-HA.out];omega
     have g1:((P++d)++y::x::(Y++(R'++S)))[l]? = some y:=gM _ _ _ _ I.symm;have g2:((P++d)++y::x::(Y++(R'++S)))[j]? = some x:=by
      have:=gM ((P++d)++[y]) (Y++(R'++S)) x j (by rw[d',I,V];rfl);simpa using this
     have am:y<1114112:=by
      have aB:y∈D:=by rw[v];simp
      have ar:y∈M:=by
       obtain⟨L,_,O,_⟩:=qY.out;rw[L];exact kl _ (O.mem.1 aB)
      exact(HM.out y ar).2
     have aE:j<n:=by
      have:=(ir.1 g2).1;have h3:=ao.out;have h4:=congrArg List.length v;simp only[d',hU,ki] at this h3 h4;omega
     have c1:=hd.at (o:=off+l) (by rw[HO.out]) g1;have c2:=hd.at (o:=off+j) (by rw[HO.out]) g2;have E0:=ag wr;have b1:=Gr.cell E0 c1;have b2:=Gr.cell E0 c2;have CC:=aa (aD.out wr.drew (au.trans T.drew) x y HX.out.2 am);have HD:=aa hd;have VD:=aa ak;have E:=aa I;have Yl:=aa v;have aR:=aa J;have kT:=hd.lt;obtain⟨kx,ac⟩:=ae (K x);obtain⟨ky,Z⟩:=ae (K y);rw[<-ac,<-Z] at CC;have KP:=aa ac;have an:=aa Z;obtain⟨cz,ab⟩:=ae (wP kx ky);rw[<-ab] at CC;have al:cz<0↔kx<ky:=by rw[ab];exact Aw
     have NU:=aa al;have aL:l<j:=by omega
     have ap:=aa V;clear hL I hd Yk ak v J ac Z ab al g1 g2 am V c1 c2;go_wp2_with fail;refine aC (Array.replicate 17 true) 17 0 mixed ?_;refine ay [0,1,2,3,4,5,6,7,8,9,10,11,12,13] 3 ?_
     iterate 14 (refine aA rfl ?_;go_big_quiet_step (rfl))
     refine az ?_;refine aI 14 ?_;go_wp2_with fail;refine CC.out.mono ?_;rintro e w6⟨rfl,G⟩;go_wp2_with fail;refine aF G ?_;refine ay [15,16] 0 ?_
     iterate 2 (refine aA rfl ?_;go_big_quiet_step (rfl))
     refine az ?_;refine aJ [] ?_;refine tail_nil ?_;have g:=HD.out.mono (af E0 G);have ji:=(T.drew).trans (G.mono (by show N<=wr.heap.size;omega));have av:=aa t;clear t b1 b2 CC E0 G T;by_cases u:kx<ky
     ·have z3:cz<0:=NU.out.2 u;have z2:decide (cz<0)=true:=by simp;exact z3
      have Vh:(P++d++y::x::(Y++(R'++S)))[l]? = some y:=gM _ _ _ _ E.out.symm;have ad:(P++d++y::x::(Y++(R'++S)))[j]? = some x:=by
       have:=gM ((P++d)++[y]) (Y++(R'++S)) x j (by rw[d',E.out,ap.out];rfl);simpa using this
      have ai:((P++d++y::x::(Y++(R'++S))).set j y).set l x=P++(d++x::((y::Y)++(R'++S))):=by
       have C:=set_mid ((P++d)++[y]) (Y++(R'++S)) x y j (by rw[d',E.out,ap.out];rfl);simp only[kc,ld,ks] at C⊢;rw[C];have h2:=set_mid (P++d) (y::(Y++(R'++S))) y x l E.out.symm;simpa using h2
      have c1:=g.at (o:=off+l) (by rw[HO.out]) Vh;have c2:=g.at (o:=off+j) (by rw[HO.out]) ad;have f1:=g.frozen (off+l);have f2:=g.frozen (off+j);have A:=(g.set (o:=off+j) (by rw[HO.out]) (ir.1 ad).1 y).set (o:=off+l) (k:=l) (by rw[HO.out]) (by rw[mN];exact(ir.1 Vh).1) x;rw[ai] at A;have B:=aa A;have Qo:=aa u;clear Vh ad ai g A u;go_wp2_with fail;go_region;go_wp2_with fail;go_roundw
      case rel=>exact⟨l,by have:=VD.out;omega,by omega,by first|rfl|go_num,⟨d,y::Y,by rw[Yl.out];simp,VD.out,λy' h=>by cases h;rw[<-KP.out,<-an.out];exact Qo.out,B.out.mono (ag _)⟩,(aj (aj ji hN) hN).drew⟩
      case measure=>simp[intOf];omega
     have z2:decide (cz<0)=false:=by simp;exact xo.1 λh=>u (NU.out.1 h)
     have z3:¬cz<0:=λh=>u (NU.out.1 h);have z4:0<=cz:=xo.1 z3
     have HR:=av.out (λy' h=>by
      rw[l4] at h;injection h with h
      rw[<-h,<-KP.out,<-an.out];omega)
     have A:bI w6 b p (P++((d++[y])++x::(Y++(R'++S)))) q:=by simpa using g
     have B:=aa A;clear g A u;go_wp2_with fail;go_roundw
     case rel=>
      obtain⟨s,m,r,L,r2,O,r4,r5,r6⟩:=HR.out;exact⟨i+1,by omega,by omega,by simp,⟨s,m,r,L,r2,O,r4,r5,r6 _ B.out⟩,ji⟩
     case measure=>simp[intOf];omega
    have z:=gI (show j<=a by omega);obtain rfl:X=[]:=im.1 (by omega);have HR:=t (λy' h=>by cases h);have HD:=aa hd;clear hd t v J;go_wp2_with fail;go_quiet (fail);have uK:Below N w (wr.drewN nq):=T.trans ⟨rfl,rfl,rfl,gw _,λ_ _=>rfl⟩;have B:Hid (bI (wr.drewN nq) b p (P++([]++x::(Y++(R'++S)))) q):=aa (HD.out.mono ⟨rfl,rfl,rfl,gw _,λ_ _=>rfl⟩);go_wp2_with fail;go_roundw
    case rel=>
     obtain⟨s,m,r,L,r2,O,r4,r5,r6⟩:=HR.out;exact⟨i+1,by omega,by omega,by simp,⟨s,m,r,L,r2,O,r4,r5,r6 _ B.out⟩,uK⟩
    case measure=>simp[intOf];omega
  have z:=gI (show c<=i by omega);have hR:R=[]:=by
   by_cases h:c<i
   ·exact U h
   have C:=congrArg List.length f;have h2:=HC.out;have h3:=HA.out;have h4:=H (by omega);rw[d'] at C;exact im.1 (by omega)
  subst hR;rw[lE] at f;have aq:=aa f;clear f H U;go_wp2_with fail
  go_end0
  exact⟨rfl,⟨D,by rw[aq.out];exact hs,hu,by simpa using hd⟩,T⟩
def yn {t y:Nat} (h:R[t]? = some y):(R.take (t+1)).getLast? = some y:=by
 rw[vA,h];simp
def yt {t:Nat}:(R.drop t).head? = R[t]?:=by rw[List.head?_drop]
def Sk (hN:N<=b) (hC:zO w0 N K cv) (ab:Below N w0 w) (P:List Nat) (x:Nat) (R S:List Nat) (h:bI w b p (P++(x::(R++S))) q) (hR:∀y∈R,0<K y/\y<1114112) (hu:up K R) (hx:x<1114112)
 (ho:off=p.length) (hn:(P++(x::(R++S))).length=n) (rW:n<1000000) (ha:a=P.length) (hm:m=a+1) (hc:c=m+R.length) :
 Calls prog 264 #[.slice (some ⟨b,off,none⟩) n cap,.int .i64 a,.int .i64 m,.int .i64 c,ym cv] w λe w'=>e=.returned (.tuple #[])/\(∃M',fe K (x::R) M'/\up K M'/\bI w' b p (P++(M'++S)) q)/\Below N w w':=by
 have ah:a<m/\m<=c/\c<=n:=by
  simp only[d',hU] at hn;omega
 have E:=aa ho;have HA:=aa ha;have HC:=aa hc;have Z:=aa hm;have HD:=aa h;have nR:=aa hn;have HR:=aa hR;have ak:=aa hC;have HU:=aa hu;have e1:IntKind.i64.wrap ((m:Int)-(a:Int))=1:=by rw[j8 _ (by omega)];omega
 have au:=h.lt;clear ho ha hc hm h hn hR hC hu;go_enter func264,ntmps264;go_wp2;go_loopw [10,11] (λiv jv wr=>∃i j:Nat,m<=i/\i<=j/\j<=c/\iv=.int .i64 i/\jv=.int .i64 j/\(∀z,(R.take (i-m)).getLast? = some z->K z<K x)/\(∀z,(R.drop (j-m)).head? = some z->K x<=K z)/\bI wr b p (P++(x::(R++S))) q/\Below N w wr) (λiv jv _=>(intOf jv).toNat-(intOf iv).toNat)
 case atStart=>exact⟨m,c,gw _,ah.2.1,gw _,rfl,rfl,(λz h=>by rw[m_] at h;cases h),(λz h=>by rw[HC.out,kB,qT] at h;cases h),HD.out,gO _ _⟩
 case round=>
  obtain⟨i,j,vL,ap,ad,rfl,rfl,hi,hj,hd,u⟩:=hrel;have HI:=aa hi;have HJ:=aa hj;clear hi hj;by_cases A:i<j
  ·have z:=eG (show i<j by omega);obtain⟨h,hh⟩:=ae ((i+j) / 2);have an:i<=h/\h<j:=by omega
   have e2:((i:Int)+(j:Int)) / 2=(h:Int):=by omega
   obtain⟨y,l⟩:∃y,R[h-m]? = some y:=⟨_,gA (by have:=HC.out;omega)⟩;have G:(P++(x::(R++S)))[a]? = some x:=gM _ _ _ _ HA.out;have F:(P++(x::(R++S)))[h]? = some y:=by
    have hl:=Z.out;have ar:=HA.out;rw[j7 (by omega),show h-P.length=(h-m)+1 by omega,tl,kn (ir.1 l).1];exact l
   have O:=HR.out y (lA l);have c1:=hd.at (o:=off+a) (by rw[E.out]) G;have c2:=hd.at (o:=off+h) (by rw[E.out]) F;have V:=ag wr;have b1:=Gr.cell V c1;have b2:=Gr.cell V c2;have CC:=aa (ak.out wr.drew (ab.trans u.drew) y x O.2 hx);obtain⟨L,C⟩:=ae (wP (K y) (K x));rw[<-C] at CC;have NU:=aa (show L<0↔K y<K x from by rw[C];exact Aw);have HY:=aa l;have s:=aa hd;have am:h<n/\a<n:=by omega
   clear hh G F O c1 c2 C l hd;go_wp2_with fail;refine aC (Array.replicate 11 true) 11 0 mixed ?_;refine ay [0,1,2,3,4,5,6,7,8] 2 ?_
   iterate 9 (refine aA rfl ?_;go_big_quiet_step (rfl))
   refine az ?_;refine aI 9 ?_;go_wp2_with fail;refine CC.out.mono ?_;rintro e w6⟨rfl,r⟩;go_wp2_with fail;refine aF r ?_;refine ay [10] 0 ?_
   iterate 1 (refine aA rfl ?_;go_big_quiet_step (rfl))
   refine az ?_;refine aJ [] ?_;refine tail_nil ?_;have I:=aa (s.out.mono (af V r));have ji:=(u.drew).trans (r.mono (by have:=s.out.lt;show N<=wr.heap.size;omega));clear b1 b2 CC V r u;by_cases f:L<0
   ·have z2:decide (L<0)=true:=by simp;exact f
    go_wp2_with fail;go_roundw
    case rel=>exact⟨h+1,j,by omega,by omega,ad,by simp,rfl,λz v=>by
     rw[show h+1-m=(h-m)+1 by omega,yn HY.out] at v;cases v
     exact NU.out.1 f,HJ.out,I.out,ji⟩
    case measure=>simp[intOf];omega
   have z2:decide (L<0)=false:=by simp;omega
   have z4:0<=L:=by omega
   go_wp2_with fail;go_roundw
   case rel=>exact⟨i,h,vL,by omega,by omega,rfl,rfl,HI.out,λz v=>by
    rw[yt,HY.out] at v;cases v
    exact Nat.not_lt.1 λhk=>f (NU.out.2 hk),I.out,ji⟩
   case measure=>simp[intOf];omega
  have z:=gI (show j<=i by omega);obtain rfl:i=j:=by omega
  obtain⟨g,T⟩:∃g,i=g+1:=⟨i-1,by omega⟩;have e3:IntKind.i64.wrap ((i:Int)-1)=(g:Int):=by rw[j8 _ (by omega)];omega
  have H:=aa T;have ac:a<=g/\g<i:=by omega
  have s:=aa hd;clear T hd;go_wp2_with fail;obtain⟨wo,rfl⟩:∃wo:World,wo=wr:=⟨_,rfl⟩;go_loopw [13] (λkv wr=>∃k:Nat,a<=k/\k<=g/\kv=.int .i64 k/\bI wr b p (P++(R.take (k-a)++x::(R.drop (k-a)++S))) q/\Below N w wr) (λkv _=>g-(intOf kv).toNat)
  case atStart=>exact⟨a,gw _,ac.1,rfl,by simpa using s.out,u⟩
  case round=>
   clear u;obtain⟨k,aq,al,rfl,hd,u⟩:=hrel;by_cases hk:k<g
   ·have z5:=eG (show k<g by omega);obtain⟨d,t⟩:=ae (k+1);have e4:IntKind.i64.wrap ((k:Int)+1)=(d:Int):=by rw[j8 _ (by omega)];omega
    obtain⟨y,l⟩:∃y,R[k-a]? = some y:=⟨_,gA (by have:=HC.out;have:=Z.out;have:=H.out;omega)⟩;have M:R.drop (k-a)=y::R.drop (d-a):=by
     rw[show d-a=(k-a)+1 by omega,<-(ir.1 l).2];exact iz (ir.1 l).1
    have J:R.take (d-a)=R.take (k-a)++[y]:=by rw[show d-a=(k-a)+1 by omega,vA,l];rfl
    have A:(R.take (k-a)).length=k-a:=by rw[iS];have:=(ir.1 l).1;omega
    rw[M] at hd;have U:(P++R.take (k-a)).length=k:=by rw[d',A,<-HA.out];omega
    have Q:P++(R.take (k-a)++x::(y::R.drop (d-a)++S))=(P++R.take (k-a))++x::y::(R.drop (d-a)++S):=by simp
    rw[Q] at hd;have G:((P++R.take (k-a))++x::y::(R.drop (d-a)++S))[k]? = some x:=gM _ _ _ _ U.symm;have F:((P++R.take (k-a))++x::y::(R.drop (d-a)++S))[d]? = some y:=by
     have:=gM ((P++R.take (k-a))++[x]) (R.drop (d-a)++S) y d (by rw[d',U,t];rfl);simpa using this
    have D:=Sc (P++R.take (k-a)) (R.drop (d-a)++S) x y;rw[U,<-t] at D;have c1:=hd.at (o:=off+k) (by rw[E.out]) G;have c2:=hd.at (o:=off+d) (by rw[E.out]) F;have f1:=hd.frozen (off+k);have f2:=hd.frozen (off+d);have B:=(hd.set (o:=off+k) (by rw[E.out]) (ir.1 G).1 y).set (o:=off+d) (k:=d) (by rw[E.out]) (by rw[mN];exact(ir.1 F).1) x;rw[D] at B;have ai:=aa (show bI _ b p (P++(R.take (d-a)++x::(R.drop (d-a)++S))) q from by rw[J];simpa using B);have ao:k<n/\d<n/\k≠d:=by omega
    have W:=aa t;clear t M J A U Q G F D hd B l;go_wp2_with fail;go_region;go_wp2_with fail;go_roundw
    case rel=>exact⟨d,by have:=W.out;omega,by have:=W.out;omega,by first|rfl|(rw[W.out];go_num),ai.out.mono (ag _),(aj (aj u hN) hN).drew⟩
    case measure=>have:=W.out;simp[intOf];omega
   have z5:=gI (show g<=k by omega);obtain rfl:k=g:=by omega
   have ht:k-a=i-m:=by have:=H.out;have:=Z.out;omega
   rw[ht] at hd;have HT:=aa hd;clear hd ht;go_wp2_with fail;obtain⟨s1,s2⟩:=Vz (X:=R.take (i-m)) (Y:=R.drop (i-m)) (c:=x) (by rw[ke];exact HU.out) (λz v=>(HR.out z (rl v)).1) HI.out HJ.out;rw[ke] at s1;exact bodyPost_ret (results_none rfl _ _ _) rfl ⟨rfl,⟨_,s1,s2,by have:=HT.out;simpa using this⟩,u⟩
def Sm (hN:N<=b) (hC:zO w0 N K cv) (ac:Below N w0 w) (P:List Nat) (x:Nat) (L S:List Nat) (h:bI w b p (P++(L++(x::S))) q) (hR:∀y∈L,y<1114112) (hu:up K L) (hx:0<K x/\x<1114112) (ao:L.length≠1)
 (ho:off=p.length) (hn:(P++(L++(x::S))).length=n) (rW:n<1000000) (ha:a=P.length) (hm:m=a+L.length) (hc:c=m+1) :
 Calls prog 264 #[.slice (some ⟨b,off,none⟩) n cap,.int .i64 a,.int .i64 m,.int .i64 c,ym cv] w λe w'=>e=.returned (.tuple #[])/\(∃M',fe K (L++[x]) M'/\up K M'/\bI w' b p (P++(M'++S)) q)/\Below N w w':=by
 have ad:a<=m/\m<c/\c<=n:=by
  simp only[d',hU] at hn;omega
 have B:=aa ho;have HA:=aa ha;have HC:=aa hc;have E:=aa hm;have HD:=aa h;have nR:=aa hn;have HR:=aa hR;have al:=aa hC;have HU:=aa hu;have ab:m-a≠1:=by omega
 obtain⟨U,ak⟩:∃U:Nat,U=m-a:=⟨_,rfl⟩;have e1:IntKind.i64.wrap ((m:Int)-(a:Int))=(U:Int):=by rw[j8 _ (by omega)];omega
 have Vh:IntKind.i64.wrap ((c:Int)-(m:Int))=1:=by rw[j8 _ (by omega)];omega
 have z0:((U:Int)==1)=false:=by simp;omega
 have aw:=h.lt;clear ho ha hc hm h hn hR hC hu ab ak;go_enter func264,ntmps264;go_wp2;go_loopw [14,15] (λiv jv wr=>∃i j:Nat,a<=i/\i<=j/\j<=m/\iv=.int .i64 i/\jv=.int .i64 j/\(∀z,(L.take (i-a)).getLast? = some z->K z<=K x)/\(∀z,(L.drop (j-a)).head? = some z->K x<K z)/\bI wr b p (P++(L++(x::S))) q/\Below N w wr) (λiv jv _=>(intOf jv).toNat-(intOf iv).toNat)
 case atStart=>exact⟨a,m,gw _,ad.1,gw _,rfl,rfl,(λz h=>by rw[m_] at h;cases h),(λz h=>by rw[E.out,kB,qT] at h;cases h),HD.out,gO _ _⟩
 case round=>
  obtain⟨i,j,vL,ar,J,rfl,rfl,hi,hj,hd,s⟩:=hrel;have HI:=aa hi;have HJ:=aa hj;clear hi hj;by_cases t:i<j
  ·have z:=eG (show i<j by omega);obtain⟨h,hh⟩:=ae ((i+j) / 2);have ap:i<=h/\h<j:=by omega
   have e2:((i:Int)+(j:Int)) / 2=(h:Int):=by omega
   obtain⟨y,g⟩:∃y,L[h-a]? = some y:=⟨_,gA (by have:=E.out;omega)⟩;have D:(P++(L++(x::S)))[m]? = some x:=by
    have:=gM (P++L) S x m (by rw[d',E.out,HA.out]);simpa using this
   have C:(P++(L++(x::S)))[h]? = some y:=by
    have av:=HA.out;rw[j7 (by omega),show h-P.length=h-a by omega,kn (ir.1 g).1];exact g
   have Q:=HR.out y (lA g);have c1:=hd.at (o:=off+m) (by rw[B.out]) D;have c2:=hd.at (o:=off+h) (by rw[B.out]) C;have W:=ag wr;have b1:=Gr.cell W c1;have b2:=Gr.cell W c2;have CC:=aa (al.out wr.drew (ac.trans s.drew) x y hx.2 Q);obtain⟨A,v⟩:=ae (wP (K x) (K y));rw[<-v] at CC;have NU:=aa (show A<0↔K x<K y from by rw[v];exact Aw);have HY:=aa g;have r:=aa hd;have an:h<n/\m<n:=by omega
   clear hh D C Q c1 c2 v g hd;go_wp2_with fail;refine aC (Array.replicate 12 true) 12 0 mixed ?_;refine ay [0,1,2,3,4,5,6,7,8] 3 ?_
   iterate 9 (refine aA rfl ?_;go_big_quiet_step (rfl))
   refine az ?_;refine aI 9 ?_;go_wp2_with fail;refine CC.out.mono ?_;rintro e w6⟨rfl,l⟩;go_wp2_with fail;refine aF l ?_;refine ay [10,11] 0 ?_
   iterate 2 (refine aA rfl ?_;go_big_quiet_step (rfl))
   refine az ?_;refine aJ [] ?_;refine tail_nil ?_;have G:=aa (r.out.mono (af W l));have ji:=(s.drew).trans (l.mono (by have:=r.out.lt;show N<=wr.heap.size;omega));clear b1 b2 CC W l s;by_cases f:A<0
   ·have z2:decide (A<0)=true:=by simp;exact f
    go_wp2_with fail
    all_goals first|(exfalso;have M:=‹(!decide (A<0))=true›;rw[z2] at M;exact absurd M (by decide))|skip
    go_roundw
    case rel=>exact⟨i,h,vL,by omega,by omega,rfl,rfl,HI.out,λz H=>by
     rw[yt,HY.out] at H;cases H
     exact NU.out.1 f,G.out,ji⟩
    case measure=>simp[intOf];omega
   have z2:decide (A<0)=false:=by simp;omega
   have z4:0<=A:=by omega
   go_wp2_with fail
   all_goals first|(exfalso;have M:=‹(!decide (A<0))=false›;rw[z2] at M;exact absurd M (by decide))|skip
   go_roundw
   case rel=>exact⟨h+1,j,by omega,by omega,J,by simp,rfl,λz H=>by
    rw[show h+1-a=(h-a)+1 by omega,yn HY.out] at H;cases H
    exact Nat.not_lt.1 λhk=>f (NU.out.2 hk),HJ.out,G.out,ji⟩
   case measure=>simp[intOf];omega
  have z:=gI (show j<=i by omega);obtain rfl:i=j:=by omega
  have r:=aa hd;clear hd;go_wp2_with fail;obtain⟨wo,rfl⟩:∃wo:World,wo=wr:=⟨_,rfl⟩;go_loopw [17] (λkv wr=>∃k:Nat,i<=k/\k<=m/\kv=.int .i64 k/\bI wr b p (P++(L.take (k-a)++x::(L.drop (k-a)++S))) q/\Below N w wr) (λkv _=>(intOf kv).toNat)
  case atStart=>exact⟨m,J,gw _,rfl,by
   have V:=r.out;have h2:m-a=L.length:=by have:=E.out;omega
   rw[h2,kO,qT]
   simpa using V,s⟩
  case round=>
   clear s;obtain⟨k,au,am,rfl,hd,s⟩:=hrel;by_cases hk:i<k
   ·have z5:=eG (show i<k by omega);obtain⟨d,Z⟩:∃d,k=d+1:=⟨k-1,by omega⟩;have e4:IntKind.i64.wrap ((k:Int)-1)=(d:Int):=by rw[j8 _ (by omega)];omega
    obtain⟨y,g⟩:∃y,L[d-a]? = some y:=⟨_,gA (by have:=E.out;omega)⟩;have O:L.drop (d-a)=y::L.drop (k-a):=by
     rw[show k-a=(d-a)+1 by omega,<-(ir.1 g).2];exact iz (ir.1 g).1
    have I:L.take (k-a)=L.take (d-a)++[y]:=by rw[show k-a=(d-a)+1 by omega,vA,g];rfl
    have t:(L.take (d-a)).length=d-a:=by rw[iS];have:=(ir.1 g).1;omega
    rw[I] at hd;have F:(P++L.take (d-a)).length=d:=by rw[d',t,<-HA.out];omega
    have R:P++(L.take (d-a)++[y]++x::(L.drop (k-a)++S))=(P++L.take (d-a))++y::x::(L.drop (k-a)++S):=by simp
    rw[R] at hd;have D:((P++L.take (d-a))++y::x::(L.drop (k-a)++S))[d]? = some y:=gM _ _ _ _ F.symm;have C:((P++L.take (d-a))++y::x::(L.drop (k-a)++S))[k]? = some x:=by
     have:=gM ((P++L.take (d-a))++[y]) (L.drop (k-a)++S) x k (by rw[d',F,Z];rfl);simpa using this
    have T:((P++L.take (d-a)++y::x::(L.drop (k-a)++S)).set k y).set d x=P++L.take (d-a)++x::y::(L.drop (k-a)++S):=by
     have V:=set_mid ((P++L.take (d-a))++[y]) (L.drop (k-a)++S) x y k (by rw[d',F,Z];rfl);simp only[kc,ld,ks] at V⊢;rw[V];have h2:=set_mid (P++L.take (d-a)) (y::(L.drop (k-a)++S)) y x d F.symm;simpa using h2
    have c1:=hd.at (o:=off+d) (by rw[B.out]) D;have c2:=hd.at (o:=off+k) (by rw[B.out]) C;have f1:=hd.frozen (off+d);have f2:=hd.frozen (off+k);have u:=(hd.set (o:=off+k) (by rw[B.out]) (ir.1 C).1 y).set (o:=off+d) (k:=d) (by rw[B.out]) (by rw[mN];exact(ir.1 D).1) x;rw[T] at u;have ai:=aa (show bI _ b p (P++(L.take (d-a)++x::(L.drop (d-a)++S))) q from by rw[O];simpa using u);have aq:k<n/\d<n/\d≠k:=by omega
    have Oa:=aa Z;have ah:d<k/\i<=d:=by omega
    clear Z O I t F R D C T hd u g;go_wp2_with fail;go_region;go_wp2_with fail;go_roundw
    case rel=>exact⟨d,ah.2,by omega,by first|rfl|(rw[Oa.out];go_num),ai.out.mono (ag _),(aj (aj s hN) hN).drew⟩
    case measure=>simp[intOf];omega
   have z5:=gI (show k<=i by omega);obtain rfl:i=k:=by omega
   have HT:=aa hd;clear hd;go_wp2_with fail;obtain⟨s1,s2⟩:=KM (X:=L.take (i-a)) (Y:=L.drop (i-a)) (c:=x) (by rw[ke];exact HU.out) hx.1 HI.out HJ.out;rw[ke] at s1;exact bodyPost_ret (results_none rfl _ _ _) rfl ⟨rfl,⟨_,s1,s2,by have:=HT.out;simpa using this⟩,s⟩
def getD_at {l:List Nat} {k:Nat} (h:k<l.length):l[k]? = some (l.getD k 0):=by
 rw[ic,gA h];rfl
def Sn {P L S:List Nat} {d s s0 e:Nat} (D:a=P.length) (M:m=a+L.length) (X:c=m+R.length) (F:d=(a+c) / 2) (J:b=d+m)
 (Z:a<=s0) (T:s0<=s) (Y:s<=e) (V:e<=m) (N:e<=d) (W:b<=s0+c) (U:s0=a\/s0+c=b) (Q:e=m\/e=d)
 (n:s=s0\/¬K ((P++(L++(R++S))).getD (b-s) 0)<K ((P++(L++(R++S))).getD (s-1) 0)) (i:s=e\/K ((P++(L++(R++S))).getD (b-1-s) 0)<K ((P++(L++(R++S))).getD s 0)) :
 ∃p B u C,L=p++B/\R=u++C/\p.length+a=s/\u.length+m=b-s/\(∀x y,p.getLast? = some x->C.head? = some y->K x<=K y)/\(∀x y,B.head? = some x->u.getLast? = some y->K y<K x):=by
 have:(L.take (s-a)).length=s-a:=by rw[iS];omega
 have:(R.take (b-s-m)).length=b-s-m:=by rw[iS];omega
 have A:∀k,k<L.length->(P++(L++(R++S))).getD (a+k) 0=L.getD k 0:=λk z=>by
  rw[ic,ic,j7 (by omega),D,kB,kn z]
 have G:∀k,k<R.length->(P++(L++(R++S))).getD (m+k) 0=R.getD k 0:=λk z=>by
  rw[ic,ic,j7 (by omega),M,D,show P.length+L.length+k-P.length=L.length+k by omega,j7 (by omega),kB,kn z]
 have f:∀(l:List Nat) (t x:Nat),t<=l.length->(l.take t).getLast? = some x->0<t/\l.getD (t-1) 0=x:=λl t x O h=>by
  cases t with
  | zero=>simp at h
  | succ t=>
    have o:=yn (getD_at (l:=l) (k:=t) (by omega));rw[o] at h;injection h with h;exact⟨by omega,h⟩
 have hd:∀(l:List Nat) (t x:Nat),(l.drop t).head? = some x->t<l.length/\l.getD t 0=x:=λl t x h=>by
  rw[yt] at h;exact⟨(ir.1 h).1,by rw[ic,h];rfl⟩
 refine⟨L.take (s-a),L.drop (s-a),R.take (b-s-m),R.drop (b-s-m),(ke _ _).symm,(ke _ _).symm,by omega,by omega,λx y w v=>?_,λx y w v=>?_⟩
 ·obtain⟨o,r⟩:=f L (s-a) x (by omega) w;obtain⟨E,q⟩:=hd R (b-s-m) y v;rcases n with n|n
  ·omega
  have g:=A (s-a-1) (by omega);have j:=G (b-s-m) E;rw[show a+(s-a-1)=s-1 by omega,r] at g;rw[show m+(b-s-m)=b-s by omega,q] at j;rw[g,j] at n;omega
 obtain⟨o,r⟩:=hd L (s-a) x w;obtain⟨E,q⟩:=f R (b-s-m) y (by omega) v;rcases i with i|i
 ·omega
 have g:=A (s-a) o;have j:=G (b-s-m-1) (by omega);rw[show a+(s-a)=s by omega,r] at g;rw[show m+(b-s-m-1)=b-1-s by omega,q] at j;rw[g,j] at i;exact i
def afz (w0:World) (N:Nat) (K:Nat->Nat) (cv:Value) (b:Nat) (p:List Nat) (q:List Value) (off n cap:Nat) (s:Nat):Prop:=
 ∀(w:World) (P L R S:List Nat),Below N w0 w->bI w b p (P++(L++(R++S))) q->(P++(L++(R++S))).length=n->L≠[]->R≠[]->L.length+R.length<=s->(∀y∈L,0<K y/\y<1114112)->(∀y∈R,0<K y/\y<1114112)->up K L->up K R->∀a m c:Nat,a=P.length->m=a+L.length->c=m+R.length->
  Calls prog 264 #[.slice (some ⟨b,off,none⟩) n cap,.int .i64 a,.int .i64 m,.int .i64 c,ym cv] w λe w'=>e=.returned (.tuple #[])/\(∃d,fe K (L++R) d/\up K d/\bI w' b p (P++(d++S)) q)/\Below N w w'
def Sq (hN:N<=b) (hC:zO w0 N K cv) {s:Nat} (ho:off=p.length) (rW:n<1000000) (ih:afz w0 N K cv b p q off n cap s)
 (w:World) (P L R S:List Nat) (ac:Below N w0 w) (h:bI w b p (P++(L++(R++S))) q) (hn:(P++(L++(R++S))).length=n) (a0:2<=L.length) (a2:2<=R.length) (hs:L.length+R.length<=s+1)
 (hL:∀y∈L,0<K y/\y<1114112) (hR:∀y∈R,0<K y/\y<1114112) (uL:up K L) (uR:up K R) (a m c:Nat) (ha:a=P.length) (hm:m=a+L.length) (hc:c=m+R.length) :
 Calls prog 264 #[.slice (some ⟨b,off,none⟩) n cap,.int .i64 a,.int .i64 m,.int .i64 c,ym cv] w λe w'=>e=.returned (.tuple #[])/\(∃M',fe K (L++R) M'/\up K M'/\bI w' b p (P++(M'++S)) q)/\Below N w w':=by
 obtain⟨D,hD⟩:=ae (P++(L++(R++S)));have bd:a+2<=m/\m+2<=c/\c<=n:=by
  simp only[d'] at hn;omega
 obtain⟨d1,a4⟩:∃d1:Nat,d1=m-a:=⟨_,rfl⟩;obtain⟨d2,a3⟩:∃d2:Nat,d2=c-m:=⟨_,rfl⟩;have e1:IntKind.i64.wrap ((m:Int)-(a:Int))=(d1:Int):=by rw[j8 _ (by omega)];omega
 have e2:IntKind.i64.wrap ((c:Int)-(m:Int))=(d2:Int):=by rw[j8 _ (by omega)];omega
 have z1:((d1:Int)==1)=false:=by simp;omega
 have z2:((d2:Int)==1)=false:=by simp;omega
 obtain⟨f,av⟩:=ae ((a+c) / 2);obtain⟨Z,aV⟩:=ae (f+m);have e3:((a:Int)+(c:Int)) / 2=(f:Int):=by omega
 have e4:IntKind.i64.wrap ((f:Int)+(m:Int))=(Z:Int):=by rw[j8 _ (by omega)];omega
 have HO:=aa ho;have U:=aa ha;have HM:=aa hm;have HC:=aa hc;have Hf:=aa av;have O:=aa aV;have a5:=aa hC;have a7:=aa hn;have HL:=aa hL;have HR:=aa hR;have KQ:=aa uL;have KS:=aa uR;have ak:=aa ih;have HS:=aa hs;have be:=h.lt;have bf:a<f/\f<c/\Z<a+c+c/\f<=Z/\m<=Z:=by omega
 rw[<-hD] at h hn;have ah:=aa hD;have HD:=aa h;have GN:=aa hn;clear ho ha hm hc av aV hC hn hL hR uL uR ih hs hD h a0 a2 a4 a3;go_enter func264,ntmps264;go_upto_if 140 with fail;go_cut [20,21] from 141 to 146 (λsv rv wx=>∃s0 r0:Nat,sv=.int .i64 s0/\rv=.int .i64 r0/\a<=s0/\s0<=r0/\r0<=m/\r0<=f/\Z<=s0+c/\(s0=a\/s0+c=Z)/\(r0=m\/r0=f)/\wx=w)
 case first=>
  by_cases a_:f<m
  ·have z3:=eG (show f<m by omega);obtain⟨s0,aK⟩:=ae (Z-c);have e5:IntKind.i64.wrap ((Z:Int)-(c:Int))=(s0:Int):=by rw[j8 _ (by omega)];have:=O.out;have:=Hf.out;omega
   have Ym:=aa aK;clear aK;go_wp2_with fail;go_meet;exact⟨s0,f,rfl,rfl,by have:=Ym.out;have:=O.out;have:=Hf.out;omega,by have:=Ym.out;have:=O.out;have:=Hf.out;omega,by omega,gw _,by have:=Ym.out;omega,.inr (by have:=Ym.out;have:=O.out;have:=Hf.out;omega),.inr rfl,rfl⟩
  have z3:=gI (show m<=f by omega);go_wp2_with fail;go_meet;exact⟨a,m,rfl,rfl,gw _,by omega,gw _,by omega,by have:=O.out;have:=Hf.out;omega,.inl rfl,.inl rfl,rfl⟩
 case rest=>
  obtain⟨s0,r0,rfl,rfl,b1,b2,b3,b4,b5,b6,b7,aZ⟩:=hcut;obtain rfl:wc=w:=aZ;obtain⟨pp,Nh⟩:∃pp,Z=pp+1:=⟨Z-1,by omega⟩;have e6:IntKind.i64.wrap ((Z:Int)-1)=(pp:Int):=by rw[j8 _ (by omega)];omega
  have aq:=aa Nh;have aD:=aa (And.intro b6 b7);have a8:pp<Z:=by omega
  clear b6 b7 Nh;go_wp2_with fail;go_loopw [20,21] (λsv rv wr=>∃s r:Nat,s0<=s/\s<=r/\r<=r0/\sv=.int .i64 s/\rv=.int .i64 r/\(s=s0\/¬K (D.getD (Z-s) 0)<K (D.getD (s-1) 0))/\(r=r0\/K (D.getD (Z-1-r) 0)<K (D.getD r 0))/\bI wr b p D q/\Below N wc wr) (λsv rv _=>(intOf rv).toNat-(intOf sv).toNat)
  case atStart=>exact⟨s0,r0,gw _,b2,gw _,rfl,rfl,.inl rfl,.inl rfl,HD.out,gO _ _⟩
  case round=>
   obtain⟨s1,r1,c1,c2,c3,rfl,rfl,i1,i2,hd,hE⟩:=hrel;have aw:=aa i1;have aE:=aa i2;clear i1 i2;by_cases a9:s1<r1
   ·have z:=eG (show s1<r1 by omega);obtain⟨h,hh⟩:=ae ((s1+r1) / 2);have ba:s1<=h/\h<r1:=by omega
    have e7:((s1:Int)+(r1:Int)) / 2=(h:Int):=by omega
    obtain⟨k,hk⟩:∃k,k+h=pp:=⟨pp-h,by have:=aq.out;have:=O.out;omega⟩;have bc:k<n/\h<n:=by have:=aq.out;have:=O.out;have:=Hf.out;omega
    have e8:IntKind.i64.wrap ((pp:Int)-(h:Int))=(k:Int):=by rw[j8 _ (by omega)];omega
    have aU:k=Z-1-h/\k=Z-(h+1):=by have:=aq.out;omega
    have ar:m<=k/\k<c/\a<=h/\h<m:=by have:=aq.out;have:=O.out;have:=Hf.out;omega
    have g1:D[k]? = some (D.getD k 0):=getD_at (by rw[GN.out];omega);have g2:D[h]? = some (D.getD h 0):=getD_at (by rw[GN.out];omega);obtain⟨x,hx⟩:=ae (D.getD k 0);obtain⟨y,J⟩:=ae (D.getD h 0);rw[<-hx] at g1;rw[<-J] at g2;have aM:x∈R:=by
     rw[ah.out,j7 (by have:=U.out;omega),j7 (by have:=U.out;have:=HM.out;omega),kn (by have:=U.out;have:=HM.out;have:=HC.out;omega)] at g1;exact lA g1
    have aQ:y∈L:=by
     rw[ah.out,j7 (by have:=U.out;omega),kn (by have:=U.out;have:=HM.out;omega)] at g2;exact lA g2
    have aT:=hd.at (o:=off+k) (by rw[HO.out]) g1;have aP:=hd.at (o:=off+h) (by rw[HO.out]) g2;have E0:=ag wr;have q1:=Gr.cell E0 aT;have q2:=Gr.cell E0 aP;have CC:=aa (a5.out wr.drew (ac.trans hE.drew) x y (HR.out x aM).2 (HL.out y aQ).2);obtain⟨cz,aB⟩:=ae (wP (K x) (K y));rw[<-aB] at CC;have NU:=aa (show cz<0↔K x<K y from by rw[aB];exact Aw);have HX:=aa hx;have HY:=aa J;have aY:=aa aU;have a1:=aa hd;have kT:=hd.lt;clear hh hk aU g1 g2 hx J aM aQ aT aP aB hd ar;go_wp2_with fail;refine aC (Array.replicate 14 true) 14 0 mixed ?_;refine ay [0,1,2,3,4,5,6,7,8,9,10] 3 ?_
    iterate 11 (refine aA rfl ?_;go_big_quiet_step (rfl))
    refine az ?_;refine aI 11 ?_;go_wp2_with fail;refine CC.out.mono ?_;rintro e w6⟨rfl,au⟩;go_wp2_with fail;refine aF au ?_;refine ay [12,13] 0 ?_
    iterate 2 (refine aA rfl ?_;go_big_quiet_step (rfl))
    refine az ?_;refine aJ [] ?_;refine tail_nil ?_;have aG:=aa (a1.out.mono (af E0 au));have ji:=(hE.drew).trans (au.mono (by show N<=wr.heap.size;omega));clear q1 q2 CC E0 au hE;by_cases ap:cz<0
    ·have z5:decide (cz<0)=true:=by simp;exact ap
     go_wp2_with fail
     all_goals first|(exfalso;have V:=‹(!decide (cz<0))=true›;rw[z5] at V;exact absurd V (by decide))|skip
     go_roundw
     case rel=>exact⟨s1,h,c1,by omega,by omega,rfl,rfl,aw.out,.inr (by rw[<-aY.out.1,<-HX.out,<-HY.out];exact NU.out.1 ap),aG.out,ji⟩
     case measure=>simp[intOf];omega
    have z5:decide (cz<0)=false:=by simp;omega
    have z6:0<=cz:=by omega
    go_wp2_with fail
    all_goals first|(exfalso;have V:=‹(!decide (cz<0))=false›;rw[z5] at V;exact absurd V (by decide))|skip
    go_roundw
    case rel=>exact⟨h+1,r1,by omega,by omega,c3,by simp,rfl,.inr (by rw[<-aY.out.2,tg,<-HX.out,<-HY.out];exact λhk=>ap (NU.out.2 hk)),aE.out,aG.out,ji⟩
    case measure=>simp[intOf];omega
   have z:=gI (show r1<=s1 by omega);obtain rfl:s1=r1:=by omega
   obtain⟨T,A,M,G,VE,Ca,aH,ax,h1,h2⟩:=Sn (K:=K) U.out HM.out HC.out Hf.out O.out b1 c1 c3 b3 b4 b5 aD.out.1 aD.out.2 (by rw[<-ah.out];exact aw.out) (by rw[<-ah.out];exact aE.out);obtain⟨B,aO⟩:=ae (Z-s1);have bg:m<=B/\B<=c/\B+s1=Z:=by have:=aq.out;have:=O.out;have:=Hf.out;omega
   have e9:IntKind.i64.wrap ((Z:Int)-(s1:Int))=(B:Int):=by rw[j8 _ (by omega)];omega
   rw[<-aO] at ax;have aS:A.length+s1=m:=by have:=congrArg List.length VE;rw[d'] at this;have:=HM.out;omega
   have aX:G.length+B=c:=by have:=congrArg List.length Ca;rw[d'] at this;have:=HC.out;omega
   have aW:bI wr b p (P++(T++(A++(M++(G++S))))) q:=by
    have:=hd;rw[ah.out,VE,Ca] at this;simpa using this
   have aL:(P++(T++(A++(M++(G++S))))).length=n:=by
    rw[<-GN.out,ah.out,VE,Ca];simp
   have H:=aa VE;have u:=aa Ca;have E:=aa aH;have C:=aa ax;have F:=aa aS;have Qp:=aa aX;have ad:=aa h1;have ab:=aa h2;have v:=aa aW;have BA:=aa aL;have bb:s1<=m/\s1<=f/\a<=s1:=by omega
   clear VE Ca aH ax aS aX h1 h2 aW aL aO hd HD aw aE aD;have aN:=O.out;have sN:=aa aN;clear aN;have a6:B+s1=f+m:=by have:=sN.out;omega
   by_cases k1:s1<m
   ·by_cases k2:m<B
    ·by_cases k3:a<s1
     ·by_cases k4:B<c
      ·have am:=eG (show s1<m by omega);have ao:=eG (show m<B by omega);have al:=eG (show a<s1 by omega);have ai:=eG (show s1<f by omega);have an:=eG (show f<B by omega);have aj:=eG (show B<c by omega);have t:=v.out;have I:=hE;go_wp2_with fail;refine(abk hN (P++T) A M (G++S) (w:=wr) (by simpa using v.out) (λh=>by rw[h] at F;have:=F.out;simp at this;omega) (λh=>by rw[h] at C;have:=C.out;simp at this;omega) HO.out (by rw[<-BA.out];simp) rW (by rw[d'];have:=E.out;have:=U.out;omega) (by rw[d'];have:=E.out;have:=U.out;have:=F.out;omega) (by rw[d'];have:=E.out;have:=U.out;have:=F.out;have:=C.out;omega) (ym cv)).mono ?_;rintro e w7⟨rfl,W,jh⟩;have Y:=aa (show bI w7 b p (P++(T++(M++(A++(G++S))))) q from by simpa using W);have uK:=hE.trans jh;clear W;clear t I v;go_wp2_with fail;refine(ak.out w7 P T M (A++(G++S)) (ac.trans uK) Y.out (by rw[<-BA.out];simp only[d'];omega) (λh=>by rw[h] at E;have:=E.out;simp at this;omega) (λh=>by rw[h] at C;have:=C.out;simp at this;omega) (by have:=E.out;have:=C.out;have:=HS.out;have:=HM.out;have:=HC.out;omega) (λy J=>HL.out y (by rw[H.out];exact kl _ J)) (λy J=>HR.out y (by rw[u.out];exact kl _ J)) (by have:=KQ.out;rw[H.out] at this;exact(aR.1 this).1) (by have:=KS.out;rw[u.out] at this;exact(aR.1 this).1) a s1 f U.out (by have:=E.out;omega) (by have:=C.out;have:=O.out;omega)).mono ?_;rintro e w8⟨rfl,⟨l,t1,t2,Fz⟩,iH⟩;have g:=aa (And.intro t1 t2);have Jc:=aa Fz;have kL:=uK.trans iH;clear t1 t2 Fz;have KO:=aa (show l.length+a=f from by have i:=g.out.1.len;rw[d'] at i;have:=E.out;have:=C.out;have:=O.out;omega);clear Y;go_wp2_with fail;refine(ak.out w8 (P++l) A G S (ac.trans kL) (by simpa using Jc.out) (by rw[<-BA.out];have i:=g.out.1.len;simp only[d'] at i⊢;omega) (λh=>by rw[h] at F;have:=F.out;simp at this;omega) (λh=>by rw[h] at Qp;have:=Qp.out;simp at this;omega) (by have:=F.out;have:=Qp.out;have:=HS.out;have:=HM.out;have:=HC.out;omega) (λy J=>HL.out y (by rw[H.out];exact mT _ J)) (λy J=>HR.out y (by rw[u.out];exact mT _ J)) (by have:=KQ.out;rw[H.out] at this;exact(aR.1 this).2.1) (by have:=KS.out;rw[u.out] at this;exact(aR.1 this).2.1) f B c (by rw[d',<-U.out];have:=KO.out;omega) (by have:=F.out;have:=O.out;omega) (by have:=Qp.out;omega)).mono ?_;rintro e w9⟨rfl,⟨Q,t1,t2,Zq⟩,kT⟩;have j:=aa (And.intro t1 t2);have Sr:=aa (show bI w9 b p (P++(l++(Q++S))) q from by simpa using Zq);have yf:=kL.trans kT;clear t1 t2 Zq;go_wp2_with fail;have d:=iI (by have:=KQ.out;rw[H.out] at this;exact this) (by have:=KS.out;rw[u.out] at this;exact this) (λx hx=>(HR.out x (by rw[u.out];exact kl _ hx)).1) ad.out ab.out g.out.1 j.out.1 g.out.2 j.out.2;rw[<-H.out,<-u.out] at d
       go_end0
       exact⟨rfl,⟨_,d.1,d.2,by have:=Sr.out;simpa using this⟩,yf⟩
      have am:=eG (show s1<m by omega);have ao:=eG (show m<B by omega);have al:=eG (show a<s1 by omega);have ai:=eG (show s1<f by omega);have an:=eG (show f<B by omega);have aj:=gI (show c<=B by omega);have t:=v.out;have I:=hE;go_wp2_with fail;refine(abk hN (P++T) A M (G++S) (w:=wr) (by simpa using v.out) (λh=>by rw[h] at F;have:=F.out;simp at this;omega) (λh=>by rw[h] at C;have:=C.out;simp at this;omega) HO.out (by rw[<-BA.out];simp) rW (by rw[d'];have:=E.out;have:=U.out;omega) (by rw[d'];have:=E.out;have:=U.out;have:=F.out;omega) (by rw[d'];have:=E.out;have:=U.out;have:=F.out;have:=C.out;omega) (ym cv)).mono ?_;rintro e w7⟨rfl,W,jh⟩;have Y:=aa (show bI w7 b p (P++(T++(M++(A++(G++S))))) q from by simpa using W);have uK:=hE.trans jh;clear W;clear t I v;go_wp2_with fail;refine(ak.out w7 P T M (A++(G++S)) (ac.trans uK) Y.out (by rw[<-BA.out];simp only[d'];omega) (λh=>by rw[h] at E;have:=E.out;simp at this;omega) (λh=>by rw[h] at C;have:=C.out;simp at this;omega) (by have:=E.out;have:=C.out;have:=HS.out;have:=HM.out;have:=HC.out;omega) (λy J=>HL.out y (by rw[H.out];exact kl _ J)) (λy J=>HR.out y (by rw[u.out];exact kl _ J)) (by have:=KQ.out;rw[H.out] at this;exact(aR.1 this).1) (by have:=KS.out;rw[u.out] at this;exact(aR.1 this).1) a s1 f U.out (by have:=E.out;omega) (by have:=C.out;have:=O.out;omega)).mono ?_;rintro e w8⟨rfl,⟨l,t1,t2,Fz⟩,iH⟩;have g:=aa (And.intro t1 t2);have Jc:=aa Fz;have kL:=uK.trans iH;clear t1 t2 Fz;have KO:=aa (show l.length+a=f from by have i:=g.out.1.len;rw[d'] at i;have:=E.out;have:=C.out;have:=O.out;omega);clear Y;obtain⟨Q,j,Sr⟩:∃Q,Hid (fe K (A++G) Q/\up K Q)/\Hid (bI w8 b p (P++(l++(Q++S))) q):=by
       have V:G=[]:=im.1 (by have:=Qp.out;omega);have i:=KQ.out;rw[H.out] at i;have X:=Jc.out;rw[V] at X⊢;exact⟨A,aa ⟨by rw[lE];exact fe.refl _,(aR.1 i).2.1⟩,aa (by simpa using X)⟩
      have yf:=kL;go_wp2_with fail;have d:=iI (by have:=KQ.out;rw[H.out] at this;exact this) (by have:=KS.out;rw[u.out] at this;exact this) (λx hx=>(HR.out x (by rw[u.out];exact kl _ hx)).1) ad.out ab.out g.out.1 j.out.1 g.out.2 j.out.2;rw[<-H.out,<-u.out] at d
      go_end0
      exact⟨rfl,⟨_,d.1,d.2,by have:=Sr.out;simpa using this⟩,yf⟩
     by_cases k4:B<c
     ·have am:=eG (show s1<m by omega);have ao:=eG (show m<B by omega);have al:=gI (show s1<=a by omega);have ai:=eG (show s1<f by omega);have an:=eG (show f<B by omega);have aj:=eG (show B<c by omega);have t:=v.out;have I:=hE;go_wp2_with fail;refine(abk hN (P++T) A M (G++S) (w:=wr) (by simpa using v.out) (λh=>by rw[h] at F;have:=F.out;simp at this;omega) (λh=>by rw[h] at C;have:=C.out;simp at this;omega) HO.out (by rw[<-BA.out];simp) rW (by rw[d'];have:=E.out;have:=U.out;omega) (by rw[d'];have:=E.out;have:=U.out;have:=F.out;omega) (by rw[d'];have:=E.out;have:=U.out;have:=F.out;have:=C.out;omega) (ym cv)).mono ?_;rintro e w7⟨rfl,W,jh⟩;have Y:=aa (show bI w7 b p (P++(T++(M++(A++(G++S))))) q from by simpa using W);have uK:=hE.trans jh;clear W;clear t I v;obtain⟨l,g,Jc⟩:∃l,Hid (fe K (T++M) l/\up K l)/\Hid (bI w7 b p (P++(l++(A++(G++S)))) q):=by
       have V:T=[]:=im.1 (by have:=E.out;omega);have i:=KS.out;rw[u.out] at i;have X:=Y.out;rw[V] at X⊢;exact⟨M,aa ⟨fe.refl _,(aR.1 i).1⟩,aa X⟩
      have kL:=uK;have KO:=aa (show l.length+a=f from by have i:=g.out.1.len;rw[d'] at i;have:=E.out;have:=C.out;have:=O.out;omega);clear Y;go_wp2_with fail;refine(ak.out w7 (P++l) A G S (ac.trans kL) (by simpa using Jc.out) (by rw[<-BA.out];have i:=g.out.1.len;simp only[d'] at i⊢;omega) (λh=>by rw[h] at F;have:=F.out;simp at this;omega) (λh=>by rw[h] at Qp;have:=Qp.out;simp at this;omega) (by have:=F.out;have:=Qp.out;have:=HS.out;have:=HM.out;have:=HC.out;omega) (λy J=>HL.out y (by rw[H.out];exact mT _ J)) (λy J=>HR.out y (by rw[u.out];exact mT _ J)) (by have:=KQ.out;rw[H.out] at this;exact(aR.1 this).2.1) (by have:=KS.out;rw[u.out] at this;exact(aR.1 this).2.1) f B c (by rw[d',<-U.out];have:=KO.out;omega) (by have:=F.out;have:=O.out;omega) (by have:=Qp.out;omega)).mono ?_;rintro e w9⟨rfl,⟨Q,t1,t2,Zq⟩,kT⟩;have j:=aa (And.intro t1 t2);have Sr:=aa (show bI w9 b p (P++(l++(Q++S))) q from by simpa using Zq);have yf:=kL.trans kT;clear t1 t2 Zq;go_wp2_with fail;have d:=iI (by have:=KQ.out;rw[H.out] at this;exact this) (by have:=KS.out;rw[u.out] at this;exact this) (λx hx=>(HR.out x (by rw[u.out];exact kl _ hx)).1) ad.out ab.out g.out.1 j.out.1 g.out.2 j.out.2;rw[<-H.out,<-u.out] at d
      go_end0
      exact⟨rfl,⟨_,d.1,d.2,by have:=Sr.out;simpa using this⟩,yf⟩
     have am:=eG (show s1<m by omega);have ao:=eG (show m<B by omega);have al:=gI (show s1<=a by omega);have ai:=eG (show s1<f by omega);have an:=eG (show f<B by omega);have aj:=gI (show c<=B by omega);have t:=v.out;have I:=hE;go_wp2_with fail;refine(abk hN (P++T) A M (G++S) (w:=wr) (by simpa using v.out) (λh=>by rw[h] at F;have:=F.out;simp at this;omega) (λh=>by rw[h] at C;have:=C.out;simp at this;omega) HO.out (by rw[<-BA.out];simp) rW (by rw[d'];have:=E.out;have:=U.out;omega) (by rw[d'];have:=E.out;have:=U.out;have:=F.out;omega) (by rw[d'];have:=E.out;have:=U.out;have:=F.out;have:=C.out;omega) (ym cv)).mono ?_;rintro e w7⟨rfl,W,jh⟩;have Y:=aa (show bI w7 b p (P++(T++(M++(A++(G++S))))) q from by simpa using W);have uK:=hE.trans jh;clear W;clear t I v;obtain⟨l,g,Jc⟩:∃l,Hid (fe K (T++M) l/\up K l)/\Hid (bI w7 b p (P++(l++(A++(G++S)))) q):=by
      have V:T=[]:=im.1 (by have:=E.out;omega);have i:=KS.out;rw[u.out] at i;have X:=Y.out;rw[V] at X⊢;exact⟨M,aa ⟨fe.refl _,(aR.1 i).1⟩,aa X⟩
     have kL:=uK;have KO:=aa (show l.length+a=f from by have i:=g.out.1.len;rw[d'] at i;have:=E.out;have:=C.out;have:=O.out;omega);clear Y;obtain⟨Q,j,Sr⟩:∃Q,Hid (fe K (A++G) Q/\up K Q)/\Hid (bI w7 b p (P++(l++(Q++S))) q):=by
      have V:G=[]:=im.1 (by have:=Qp.out;omega);have i:=KQ.out;rw[H.out] at i;have X:=Jc.out;rw[V] at X⊢;exact⟨A,aa ⟨by rw[lE];exact fe.refl _,(aR.1 i).2.1⟩,aa (by simpa using X)⟩
     have yf:=kL;go_wp2_with fail;have d:=iI (by have:=KQ.out;rw[H.out] at this;exact this) (by have:=KS.out;rw[u.out] at this;exact this) (λx hx=>(HR.out x (by rw[u.out];exact kl _ hx)).1) ad.out ab.out g.out.1 j.out.1 g.out.2 j.out.2;rw[<-H.out,<-u.out] at d
     go_end0
     exact⟨rfl,⟨_,d.1,d.2,by have:=Sr.out;simpa using this⟩,yf⟩
    have am:=eG (show s1<m by omega);have ao:=gI (show B<=m by omega);have al:=eG (show a<s1 by omega);have ai:=gI (show f<=s1 by omega);have an:=eG (show f<B by omega);have aj:=eG (show B<c by omega);have t:=v.out;have I:=hE;have Y:=aa (show bI wr b p (P++(T++(M++(A++(G++S))))) q from by have V:=C.out;rw[show M=[] from im.1 (by omega)];rw[show M=[] from im.1 (by omega)] at t;simpa using t);have uK:=hE;clear t I v;obtain⟨l,g,Jc⟩:∃l,Hid (fe K (T++M) l/\up K l)/\Hid (bI wr b p (P++(l++(A++(G++S)))) q):=by
     have V:M=[]:=im.1 (by have:=C.out;omega);have i:=KQ.out;rw[H.out] at i;have X:=Y.out;rw[V] at X⊢;exact⟨T,aa ⟨by rw[lE];exact fe.refl _,(aR.1 i).1⟩,aa (by simpa using X)⟩
    have kL:=uK;have KO:=aa (show l.length+a=f from by have i:=g.out.1.len;rw[d'] at i;have:=E.out;have:=C.out;have:=O.out;omega);clear Y;go_wp2_with fail;refine(ak.out wr (P++l) A G S (ac.trans kL) (by simpa using Jc.out) (by rw[<-BA.out];have i:=g.out.1.len;simp only[d'] at i⊢;omega) (λh=>by rw[h] at F;have:=F.out;simp at this;omega) (λh=>by rw[h] at Qp;have:=Qp.out;simp at this;omega) (by have:=F.out;have:=Qp.out;have:=HS.out;have:=HM.out;have:=HC.out;omega) (λy J=>HL.out y (by rw[H.out];exact mT _ J)) (λy J=>HR.out y (by rw[u.out];exact mT _ J)) (by have:=KQ.out;rw[H.out] at this;exact(aR.1 this).2.1) (by have:=KS.out;rw[u.out] at this;exact(aR.1 this).2.1) f B c (by rw[d',<-U.out];have:=KO.out;omega) (by have:=F.out;have:=O.out;omega) (by have:=Qp.out;omega)).mono ?_;rintro e w9⟨rfl,⟨Q,t1,t2,Zq⟩,kT⟩;have j:=aa (And.intro t1 t2);have Sr:=aa (show bI w9 b p (P++(l++(Q++S))) q from by simpa using Zq);have yf:=kL.trans kT;clear t1 t2 Zq;go_wp2_with fail;have d:=iI (by have:=KQ.out;rw[H.out] at this;exact this) (by have:=KS.out;rw[u.out] at this;exact this) (λx hx=>(HR.out x (by rw[u.out];exact kl _ hx)).1) ad.out ab.out g.out.1 j.out.1 g.out.2 j.out.2;rw[<-H.out,<-u.out] at d
    go_end0
    exact⟨rfl,⟨_,d.1,d.2,by have:=Sr.out;simpa using this⟩,yf⟩
   by_cases k2:m<B
   ·have am:=gI (show m<=s1 by omega);have ao:=eG (show m<B by omega);have al:=eG (show a<s1 by omega);have ai:=eG (show s1<f by omega);have an:=gI (show B<=f by omega);have aj:=eG (show B<c by omega);have t:=v.out;have I:=hE;have Y:=aa (show bI wr b p (P++(T++(M++(A++(G++S))))) q from by have V:=F.out;rw[show A=[] from im.1 (by omega)];rw[show A=[] from im.1 (by omega)] at t;simpa using t);have uK:=hE;clear t I v;go_wp2_with fail;refine(ak.out wr P T M (A++(G++S)) (ac.trans uK) Y.out (by rw[<-BA.out];simp only[d'];omega) (λh=>by rw[h] at E;have:=E.out;simp at this;omega) (λh=>by rw[h] at C;have:=C.out;simp at this;omega) (by have:=E.out;have:=C.out;have:=HS.out;have:=HM.out;have:=HC.out;omega) (λy J=>HL.out y (by rw[H.out];exact kl _ J)) (λy J=>HR.out y (by rw[u.out];exact kl _ J)) (by have:=KQ.out;rw[H.out] at this;exact(aR.1 this).1) (by have:=KS.out;rw[u.out] at this;exact(aR.1 this).1) a s1 f U.out (by have:=E.out;omega) (by have:=C.out;have:=O.out;omega)).mono ?_;rintro e w8⟨rfl,⟨l,t1,t2,Fz⟩,iH⟩;have g:=aa (And.intro t1 t2);have Jc:=aa Fz;have kL:=uK.trans iH;clear t1 t2 Fz;have KO:=aa (show l.length+a=f from by have i:=g.out.1.len;rw[d'] at i;have:=E.out;have:=C.out;have:=O.out;omega);clear Y;obtain⟨Q,j,Sr⟩:∃Q,Hid (fe K (A++G) Q/\up K Q)/\Hid (bI w8 b p (P++(l++(Q++S))) q):=by
     have V:A=[]:=im.1 (by have:=F.out;have:=O.out;omega);have i:=KS.out;rw[u.out] at i;have X:=Jc.out;rw[V] at X⊢;exact⟨G,aa ⟨fe.refl _,(aR.1 i).2.1⟩,aa X⟩
    have yf:=kL;go_wp2_with fail;have d:=iI (by have:=KQ.out;rw[H.out] at this;exact this) (by have:=KS.out;rw[u.out] at this;exact this) (λx hx=>(HR.out x (by rw[u.out];exact kl _ hx)).1) ad.out ab.out g.out.1 j.out.1 g.out.2 j.out.2;rw[<-H.out,<-u.out] at d
    go_end0
    exact⟨rfl,⟨_,d.1,d.2,by have:=Sr.out;simpa using this⟩,yf⟩
   have am:=gI (show m<=s1 by omega);have ao:=gI (show B<=m by omega);have al:=eG (show a<s1 by omega);have ai:=gI (show f<=s1 by omega);have an:=gI (show B<=f by omega);have aj:=eG (show B<c by omega);have t:=v.out;have I:=hE;have Y:=aa (show bI wr b p (P++(T++(M++(A++(G++S))))) q from by have V:=F.out;rw[show A=[] from im.1 (by omega)];rw[show A=[] from im.1 (by omega)] at t;simpa using t);have uK:=hE;clear t I v;obtain⟨l,g,Jc⟩:∃l,Hid (fe K (T++M) l/\up K l)/\Hid (bI wr b p (P++(l++(A++(G++S)))) q):=by
    have V:M=[]:=im.1 (by have:=C.out;omega);have i:=KQ.out;rw[H.out] at i;have X:=Y.out;rw[V] at X⊢;exact⟨T,aa ⟨by rw[lE];exact fe.refl _,(aR.1 i).1⟩,aa (by simpa using X)⟩
   have kL:=uK;have KO:=aa (show l.length+a=f from by have i:=g.out.1.len;rw[d'] at i;have:=E.out;have:=C.out;have:=O.out;omega);clear Y;obtain⟨Q,j,Sr⟩:∃Q,Hid (fe K (A++G) Q/\up K Q)/\Hid (bI wr b p (P++(l++(Q++S))) q):=by
    have V:A=[]:=im.1 (by have:=F.out;have:=O.out;omega);have i:=KS.out;rw[u.out] at i;have X:=Jc.out;rw[V] at X⊢;exact⟨G,aa ⟨fe.refl _,(aR.1 i).2.1⟩,aa X⟩
   have yf:=kL;go_wp2_with fail;have d:=iI (by have:=KQ.out;rw[H.out] at this;exact this) (by have:=KS.out;rw[u.out] at this;exact this) (λx hx=>(HR.out x (by rw[u.out];exact kl _ hx)).1) ad.out ab.out g.out.1 j.out.1 g.out.2 j.out.2;rw[<-H.out,<-u.out] at d
   go_end0
   exact⟨rfl,⟨_,d.1,d.2,by have:=Sr.out;simpa using this⟩,yf⟩
def KT {D:World} (g:N<=b) {z:Value} (f:zO D N K z) (d:off=p.length) (e:n<1000000):∀s,afz D N K z b p q off n cap s
 | 0=>λw P L R S _ _ _ v l E=>by
   have:=jz.2 v;have:=jz.2 l;omega
 | s+1=>λw P L R S o h k v l E j i B C a m c t r u=>by
   have:=jz.2 v;have:=jz.2 l;by_cases A:L.length=1
   ·obtain⟨x,rfl⟩:=List.length_eq_one_iff.1 A;exact Sk g f o P x R S (by simpa using h) i C (j x (by simp)).2 d (by simpa using k) e t r u
   by_cases F:R.length=1
   ·obtain⟨x,rfl⟩:=List.length_eq_one_iff.1 F;exact Sm g f o P x L S (by simpa using h) (λy G=>(j y G).2) B (i x (by simp)) A d (by simpa using k) e t r (by simpa using u)
   exact Sq g f d e (KT g f d e s) w P L R S o h k (by omega) (by omega) E j i B C a m c t r u
end Go.Proofs.YtmnimbnojdndmaaGreatDoor
