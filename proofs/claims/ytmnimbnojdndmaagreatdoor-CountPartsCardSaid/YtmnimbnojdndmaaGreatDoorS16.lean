/- State by state it is added up what is possible; no condition. -/
import Derived.Test.YtmnimbnojdndmaaGreatDoorS15
set_option maxRecDepth 100000
set_option maxHeartbeats 6400000
set_option linter.all false
namespace Go.Proofs.YtmnimbnojdndmaaGreatDoor
open Go.RowKit Go.Cd _root_.Go.Proofs.Tryz
variable {l p:List Nat} {k b N off n cap:Nat} {K:Nat->Nat} {q:List Value} {w W:World}
def getD_at (h:k<l.length):l[k]? = some (l.getD k 0):=by
 rw[ir,gx h];rfl
def Sn {P L R S:List Nat} {a m c d s s0 e:Nat} (C:a=P.length) (M:m=a+L.length) (W:c=m+R.length) (B:d=(a+c) / 2) (H:b=d+m)
 (O:a<=s0) (V:s0<=s) (U:s<=e) (N:e<=m) (Q:e<=d) (X:b<=s0+c) (T:s0=a\/s0+c=b) (Z:e=m\/e=d)
 (o:s=s0\/¬K ((P++(L++(R++S))).getD (b-s) 0)<K ((P++(L++(R++S))).getD (s-1) 0)) (j:s=e\/K ((P++(L++(R++S))).getD (b-1-s) 0)<K ((P++(L++(R++S))).getD s 0)) :
 ∃r E q D,L=r++E/\R=q++D/\r.length+a=s/\q.length+m=b-s/\(∀x y,r.getLast? = some x->D.head? = some y->K x<=K y)/\(∀x y,E.head? = some x->q.getLast? = some y->K y<K x):=by
 have:(L.take (s-a)).length=s-a:=by rw[jn];omega
 have:(R.take (b-s-m)).length=b-s-m:=by rw[jn];omega
 have G:∀k,k<L.length->(P++(L++(R++S))).getD (a+k) 0=L.getD k 0:=λk u=>by
  rw[ir,ir,j' (by omega),C,lk,kB u]
 have F:∀k,k<R.length->(P++(L++(R++S))).getD (m+k) 0=R.getD k 0:=λk u=>by
  rw[ir,ir,j' (by omega),M,C,show P.length+L.length+k-P.length=L.length+k by omega,j' (by omega),lk,kB u]
 have f:∀(l:List Nat) (t x:Nat),t<=l.length->(l.take t).getLast? = some x->0<t/\l.getD (t-1) 0=x:=λl t x Y h=>by
  cases t with
  | zero=>simp at h
  | succ t=>
    have n:=yn (getD_at (l:=l) (k:=t) (by omega));rw[n] at h;injection h with h;exact⟨by omega,h⟩
 have hd:∀(l:List Nat) (t x:Nat),(l.drop t).head? = some x->t<l.length/\l.getD t 0=x:=λl t x h=>by
  rw[yt] at h;exact⟨(iR.1 h).1,by rw[ir,h];rfl⟩
 refine⟨L.take (s-a),L.drop (s-a),R.take (b-s-m),R.drop (b-s-m),(km _ _).symm,(km _ _).symm,by omega,by omega,λx y p z=>?_,λx y p z=>?_⟩
 ·obtain⟨n,v⟩:=f L (s-a) x (by omega) p;obtain⟨A,w⟩:=hd R (b-s-m) y z;rcases o with o|o
  ·omega
  have g:=G (s-a-1) (by omega);have i:=F (b-s-m) A;rw[show a+(s-a-1)=s-1 by omega,v] at g;rw[show m+(b-s-m)=b-s by omega,w] at i;rw[g,i] at o;omega
 obtain⟨n,v⟩:=hd L (s-a) x p;obtain⟨A,w⟩:=f R (b-s-m) y (by omega) z;rcases j with j|j
 ·omega
 have g:=G (s-a) n;have i:=F (b-s-m-1) (by omega);rw[show a+(s-a)=s by omega,v] at g;rw[show m+(b-s-m-1)=b-1-s by omega,w] at i;rw[g,i] at j;exact j
def afz (w0:World) (N:Nat) (K:Nat->Nat) (cv:Value) (b:Nat) (p:List Nat) (q:List Value) (off n cap:Nat) (s:Nat):Prop:=
 ∀(w:World) (P L R S:List Nat),Below N w0 w->bI w b p (P++(L++(R++S))) q->(P++(L++(R++S))).length=n->L≠[]->R≠[]->L.length+R.length<=s->(∀y∈L,0<K y/\y<1114112)->(∀y∈R,0<K y/\y<1114112)->up K L->up K R->∀a m c:Nat,a=P.length->m=a+L.length->c=m+R.length->
  Calls prog 264 #[.slice (some ⟨b,off,none⟩) n cap,.int .i64 a,.int .i64 m,.int .i64 c,ym cv] w λe w'=>e=.returned (.tuple #[])/\(∃d,fe K (L++R) d/\up K d/\bI w' b p (P++(d++S)) q)/\Below N w w'
def Sq {w0:World} (hN:N<=b) {cv:Value} (hC:zO w0 N K cv) {s:Nat} (ho:off=p.length) (rW:n<1000000) (ih:afz w0 N K cv b p q off n cap s)
 (w:World) (P L R S:List Nat) (ac:Below N w0 w) (h:bI w b p (P++(L++(R++S))) q) (hn:(P++(L++(R++S))).length=n) (a0:2<=L.length) (a4:2<=R.length) (hs:L.length+R.length<=s+1)
 (hL:∀y∈L,0<K y/\y<1114112) (hR:∀y∈R,0<K y/\y<1114112) (uL:up K L) (uR:up K R) (a m c:Nat) (ha:a=P.length) (hm:m=a+L.length) (hc:c=m+R.length) :
 Calls prog 264 #[.slice (some ⟨b,off,none⟩) n cap,.int .i64 a,.int .i64 m,.int .i64 c,ym cv] w λe w'=>e=.returned (.tuple #[])/\(∃M',fe K (L++R) M'/\up K M'/\bI w' b p (P++(M'++S)) q)/\Below N w w':=by
 obtain⟨D,hD⟩:=ae (P++(L++(R++S)));have a_:a+2<=m/\m+2<=c/\c<=n:=by
  simp only[gn] at hn;omega
 obtain⟨d1,a2⟩:∃d1:Nat,d1=m-a:=⟨_,rfl⟩;obtain⟨d2,a5⟩:∃d2:Nat,d2=c-m:=⟨_,rfl⟩;have e1:IntKind.i64.wrap ((m:Int)-(a:Int))=(d1:Int):=by rw[kf _ (by omega)];omega
 have e2:IntKind.i64.wrap ((c:Int)-(m:Int))=(d2:Int):=by rw[kf _ (by omega)];omega
 have z1:((d1:Int)==1)=false:=by simp;omega
 have z2:((d2:Int)==1)=false:=by simp;omega
 obtain⟨f,av⟩:=ae ((a+c) / 2);obtain⟨Z,aK⟩:=ae (f+m);have e3:((a:Int)+(c:Int)) / 2=(f:Int):=by omega
 have e4:IntKind.i64.wrap ((f:Int)+(m:Int))=(Z:Int):=by rw[kf _ (by omega)];omega
 have HO:=aa ho;have T:=aa ha;have HM:=aa hm;have HC:=aa hc;have Hf:=aa av;have M:=aa aK;have aZ:=aa hC;have a7:=aa hn;have HL:=aa hL;have HR:=aa hR;have KQ:=aa uL;have KS:=aa uR;have am:=aa ih;have HS:=aa hs;have be:=h.lt;have bc:a<f/\f<c/\Z<a+c+c/\f<=Z/\m<=Z:=by omega
 rw[<-hD] at h hn;have ak:=aa hD;have HD:=aa h;have GN:=aa hn;clear ho ha hm hc av aK hC hn hL hR uL uR ih hs hD h a0 a4 a2 a5;go_enter func264,ntmps264;go_upto_if 140 with fail;go_cut [20,21] from 141 to 146 (λsv rv wx=>∃s0 r0:Nat,sv=.int .i64 s0/\rv=.int .i64 r0/\a<=s0/\s0<=r0/\r0<=m/\r0<=f/\Z<=s0+c/\(s0=a\/s0+c=Z)/\(r0=m\/r0=f)/\wx=w)
 case first=>
  by_cases bd:f<m
  ·have z3:=eG (show f<m by omega);obtain⟨s0,aL⟩:=ae (Z-c);have e5:IntKind.i64.wrap ((Z:Int)-(c:Int))=(s0:Int):=by rw[kf _ (by omega)];have:=M.out;have:=Hf.out;omega
   have Ym:=aa aL;clear aL;go_wp2_with fail;go_meet;exact⟨s0,f,rfl,rfl,by have:=Ym.out;have:=M.out;have:=Hf.out;omega,by have:=Ym.out;have:=M.out;have:=Hf.out;omega,by omega,d' _,by have:=Ym.out;omega,.inr (by have:=Ym.out;have:=M.out;have:=Hf.out;omega),.inr rfl,rfl⟩
  have z3:=gI (show m<=f by omega);go_wp2_with fail;go_meet;exact⟨a,m,rfl,rfl,d' _,by omega,d' _,by omega,by have:=M.out;have:=Hf.out;omega,.inl rfl,.inl rfl,rfl⟩
 case rest=>
  obtain⟨s0,r0,rfl,rfl,b1,b2,b3,b4,b5,b6,b7,a3⟩:=hcut;obtain rfl:wc=w:=a3;obtain⟨pp,Nh⟩:∃pp,Z=pp+1:=⟨Z-1,by omega⟩;have e6:IntKind.i64.wrap ((Z:Int)-1)=(pp:Int):=by rw[kf _ (by omega)];omega
  have ap:=aa Nh;have ax:=aa (And.intro b6 b7);have ba:pp<Z:=by omega
  clear b6 b7 Nh;go_wp2_with fail;go_loopw [20,21] (λsv rv wr=>∃s r:Nat,s0<=s/\s<=r/\r<=r0/\sv=.int .i64 s/\rv=.int .i64 r/\(s=s0\/¬K (D.getD (Z-s) 0)<K (D.getD (s-1) 0))/\(r=r0\/K (D.getD (Z-1-r) 0)<K (D.getD r 0))/\bI wr b p D q/\Below N wc wr) (λsv rv _=>(intOf rv).toNat-(intOf sv).toNat)
  case atStart=>exact⟨s0,r0,d' _,b2,d' _,rfl,rfl,.inl rfl,.inl rfl,HD.out,gS _ _⟩
  case round=>
   obtain⟨s1,r1,c1,c2,c3,rfl,rfl,i1,i2,hd,hE⟩:=hrel;have aE:=aa i1;have aD:=aa i2;clear i1 i2;by_cases bf:s1<r1
   ·have z:=eG (show s1<r1 by omega);obtain⟨h,hh⟩:=ae ((s1+r1) / 2);have a9:s1<=h/\h<r1:=by omega
    have e7:((s1:Int)+(r1:Int)) / 2=(h:Int):=by omega
    obtain⟨k,hk⟩:∃k,k+h=pp:=⟨pp-h,by have:=ap.out;have:=M.out;omega⟩;have bg:k<n/\h<n:=by have:=ap.out;have:=M.out;have:=Hf.out;omega
    have e8:IntKind.i64.wrap ((pp:Int)-(h:Int))=(k:Int):=by rw[kf _ (by omega)];omega
    have aM:k=Z-1-h/\k=Z-(h+1):=by have:=ap.out;omega
    have au:m<=k/\k<c/\a<=h/\h<m:=by have:=ap.out;have:=M.out;have:=Hf.out;omega
    have g1:D[k]? = some (D.getD k 0):=getD_at (by rw[GN.out];omega);have g2:D[h]? = some (D.getD h 0):=getD_at (by rw[GN.out];omega);obtain⟨x,hx⟩:=ae (D.getD k 0);obtain⟨y,J⟩:=ae (D.getD h 0);rw[<-hx] at g1;rw[<-J] at g2;have aN:x∈R:=by
     rw[ak.out,j' (by have:=T.out;omega),j' (by have:=T.out;have:=HM.out;omega),kB (by have:=T.out;have:=HM.out;have:=HC.out;omega)] at g1;exact lO g1
    have aG:y∈L:=by
     rw[ak.out,j' (by have:=T.out;omega),kB (by have:=T.out;have:=HM.out;omega)] at g2;exact lO g2
    have aT:=hd.at (o:=off+k) (by rw[HO.out]) g1;have aO:=hd.at (o:=off+h) (by rw[HO.out]) g2;have E0:=ag wr;have q1:=Gr.cell E0 aT;have q2:=Gr.cell E0 aO;have CC:=aa (aZ.out wr.drew (ac.trans hE.drew) x y (HR.out x aN).2 (HL.out y aG).2);obtain⟨cz,aw⟩:=ae (wP (K x) (K y));rw[<-aw] at CC;have NU:=aa (show cz<0↔K x<K y from by rw[aw];exact Aw);have HX:=aa hx;have HY:=aa J;have aW:=aa aM;have a1:=aa hd;have kT:=hd.lt;clear hh hk aM g1 g2 hx J aN aG aT aO aw hd au;go_wp2_with fail;refine aC (Array.replicate 14 true) 14 0 mixed ?_;refine ay [0,1,2,3,4,5,6,7,8,9,10] 3 ?_
    iterate 11 (refine aA rfl ?_;go_big_quiet_step (rfl))
    refine az ?_;refine aI 11 ?_;go_wp2_with fail;refine CC.out.mono ?_;rintro e w6⟨rfl,ar⟩;go_wp2_with fail;refine aF ar ?_;refine ay [12,13] 0 ?_
    iterate 2 (refine aA rfl ?_;go_big_quiet_step (rfl))
    refine az ?_;refine aJ [] ?_;refine tail_nil ?_;have aY:=aa (a1.out.mono (af E0 ar));have ji:=(hE.drew).trans (ar.mono (by show N<=wr.heap.size;omega));clear q1 q2 CC E0 ar hE;by_cases aq:cz<0
    ·have z5:decide (cz<0)=true:=by simp;exact aq
     go_wp2_with fail
     all_goals first|(exfalso;have V:=‹(!decide (cz<0))=true›;rw[z5] at V;exact absurd V (by decide))|skip
     go_roundw
     case rel=>exact⟨s1,h,c1,by omega,by omega,rfl,rfl,aE.out,.inr (by rw[<-aW.out.1,<-HX.out,<-HY.out];exact NU.out.1 aq),aY.out,ji⟩
     case measure=>simp[intOf];omega
    have z5:decide (cz<0)=false:=by simp;omega
    have z6:0<=cz:=by omega
    go_wp2_with fail
    all_goals first|(exfalso;have V:=‹(!decide (cz<0))=false›;rw[z5] at V;exact absurd V (by decide))|skip
    go_roundw
    case rel=>exact⟨h+1,r1,by omega,by omega,c3,by simp,rfl,.inr (by rw[<-aW.out.2,ta,<-HX.out,<-HY.out];exact λhk=>aq (NU.out.2 hk)),aD.out,aY.out,ji⟩
    case measure=>simp[intOf];omega
   have z:=gI (show r1<=s1 by omega);obtain rfl:s1=r1:=by omega
   obtain⟨U,A,O,F,VE,Ca,aP,aB,h1,h2⟩:=Sn (K:=K) T.out HM.out HC.out Hf.out M.out b1 c1 c3 b3 b4 b5 ax.out.1 ax.out.2 (by rw[<-ak.out];exact aE.out) (by rw[<-ak.out];exact aD.out);obtain⟨C,aQ⟩:=ae (Z-s1);have a8:m<=C/\C<=c/\C+s1=Z:=by have:=ap.out;have:=M.out;have:=Hf.out;omega
   have e9:IntKind.i64.wrap ((Z:Int)-(s1:Int))=(C:Int):=by rw[kf _ (by omega)];omega
   rw[<-aQ] at aB;have aH:A.length+s1=m:=by have:=congrArg List.length VE;rw[gn] at this;have:=HM.out;omega
   have aV:F.length+C=c:=by have:=congrArg List.length Ca;rw[gn] at this;have:=HC.out;omega
   have aX:bI wr b p (P++(U++(A++(O++(F++S))))) q:=by
    have:=hd;rw[ak.out,VE,Ca] at this;simpa using this
   have aU:(P++(U++(A++(O++(F++S))))).length=n:=by
    rw[<-GN.out,ak.out,VE,Ca];simp
   have H:=aa VE;have u:=aa Ca;have E:=aa aP;have B:=aa aB;have G:=aa aH;have Qp:=aa aV;have ad:=aa h1;have ab:=aa h2;have v:=aa aX;have BA:=aa aU;have bb:s1<=m/\s1<=f/\a<=s1:=by omega
   clear VE Ca aP aB aH aV h1 h2 aX aU aQ hd HD aE aD ax;have aS:=M.out;have sN:=aa aS;clear aS;have a6:C+s1=f+m:=by have:=sN.out;omega
   by_cases k1:s1<m
   ·by_cases k2:m<C
    ·by_cases k3:a<s1
     ·by_cases k4:C<c
      ·have aj:=eG (show s1<m by omega);have ah:=eG (show m<C by omega);have ao:=eG (show a<s1 by omega);have ai:=eG (show s1<f by omega);have al:=eG (show f<C by omega);have an:=eG (show C<c by omega);have t:=v.out;have I:=hE;go_wp2_with fail;refine(abk hN (P++U) A O (F++S) (w:=wr) (by simpa using v.out) (λh=>by rw[h] at G;have:=G.out;simp at this;omega) (λh=>by rw[h] at B;have:=B.out;simp at this;omega) HO.out (by rw[<-BA.out];simp) rW (by rw[gn];have:=E.out;have:=T.out;omega) (by rw[gn];have:=E.out;have:=T.out;have:=G.out;omega) (by rw[gn];have:=E.out;have:=T.out;have:=G.out;have:=B.out;omega) (ym cv)).mono ?_;rintro e w7⟨rfl,X,jh⟩;have Y:=aa (show bI w7 b p (P++(U++(O++(A++(F++S))))) q from by simpa using X);have uK:=hE.trans jh;clear X;clear t I v;go_wp2_with fail;refine(am.out w7 P U O (A++(F++S)) (ac.trans uK) Y.out (by rw[<-BA.out];simp only[gn];omega) (λh=>by rw[h] at E;have:=E.out;simp at this;omega) (λh=>by rw[h] at B;have:=B.out;simp at this;omega) (by have:=E.out;have:=B.out;have:=HS.out;have:=HM.out;have:=HC.out;omega) (λy J=>HL.out y (by rw[H.out];exact ks _ J)) (λy J=>HR.out y (by rw[u.out];exact ks _ J)) (by have:=KQ.out;rw[H.out] at this;exact(aR.1 this).1) (by have:=KS.out;rw[u.out] at this;exact(aR.1 this).1) a s1 f T.out (by have:=E.out;omega) (by have:=B.out;have:=M.out;omega)).mono ?_;rintro e w8⟨rfl,⟨l,t1,t2,Fz⟩,iH⟩;have g:=aa (And.intro t1 t2);have Jc:=aa Fz;have kL:=uK.trans iH;clear t1 t2 Fz;have KO:=aa (show l.length+a=f from by have i:=g.out.1.len;rw[gn] at i;have:=E.out;have:=B.out;have:=M.out;omega);clear Y;go_wp2_with fail;refine(am.out w8 (P++l) A F S (ac.trans kL) (by simpa using Jc.out) (by rw[<-BA.out];have i:=g.out.1.len;simp only[gn] at i⊢;omega) (λh=>by rw[h] at G;have:=G.out;simp at this;omega) (λh=>by rw[h] at Qp;have:=Qp.out;simp at this;omega) (by have:=G.out;have:=Qp.out;have:=HS.out;have:=HM.out;have:=HC.out;omega) (λy J=>HL.out y (by rw[H.out];exact nj _ J)) (λy J=>HR.out y (by rw[u.out];exact nj _ J)) (by have:=KQ.out;rw[H.out] at this;exact(aR.1 this).2.1) (by have:=KS.out;rw[u.out] at this;exact(aR.1 this).2.1) f C c (by rw[gn,<-T.out];have:=KO.out;omega) (by have:=G.out;have:=M.out;omega) (by have:=Qp.out;omega)).mono ?_;rintro e w9⟨rfl,⟨Q,t1,t2,Zq⟩,kT⟩;have j:=aa (And.intro t1 t2);have Sr:=aa (show bI w9 b p (P++(l++(Q++S))) q from by simpa using Zq);have yf:=kL.trans kT;clear t1 t2 Zq;go_wp2_with fail;have d:=iI (by have:=KQ.out;rw[H.out] at this;exact this) (by have:=KS.out;rw[u.out] at this;exact this) (λx hx=>(HR.out x (by rw[u.out];exact ks _ hx)).1) ad.out ab.out g.out.1 j.out.1 g.out.2 j.out.2;rw[<-H.out,<-u.out] at d
       go_end0
       exact⟨rfl,⟨_,d.1,d.2,by have:=Sr.out;simpa using this⟩,yf⟩
      have aj:=eG (show s1<m by omega);have ah:=eG (show m<C by omega);have ao:=eG (show a<s1 by omega);have ai:=eG (show s1<f by omega);have al:=eG (show f<C by omega);have an:=gI (show c<=C by omega);have t:=v.out;have I:=hE;go_wp2_with fail;refine(abk hN (P++U) A O (F++S) (w:=wr) (by simpa using v.out) (λh=>by rw[h] at G;have:=G.out;simp at this;omega) (λh=>by rw[h] at B;have:=B.out;simp at this;omega) HO.out (by rw[<-BA.out];simp) rW (by rw[gn];have:=E.out;have:=T.out;omega) (by rw[gn];have:=E.out;have:=T.out;have:=G.out;omega) (by rw[gn];have:=E.out;have:=T.out;have:=G.out;have:=B.out;omega) (ym cv)).mono ?_;rintro e w7⟨rfl,X,jh⟩;have Y:=aa (show bI w7 b p (P++(U++(O++(A++(F++S))))) q from by simpa using X);have uK:=hE.trans jh;clear X;clear t I v;go_wp2_with fail;refine(am.out w7 P U O (A++(F++S)) (ac.trans uK) Y.out (by rw[<-BA.out];simp only[gn];omega) (λh=>by rw[h] at E;have:=E.out;simp at this;omega) (λh=>by rw[h] at B;have:=B.out;simp at this;omega) (by have:=E.out;have:=B.out;have:=HS.out;have:=HM.out;have:=HC.out;omega) (λy J=>HL.out y (by rw[H.out];exact ks _ J)) (λy J=>HR.out y (by rw[u.out];exact ks _ J)) (by have:=KQ.out;rw[H.out] at this;exact(aR.1 this).1) (by have:=KS.out;rw[u.out] at this;exact(aR.1 this).1) a s1 f T.out (by have:=E.out;omega) (by have:=B.out;have:=M.out;omega)).mono ?_;rintro e w8⟨rfl,⟨l,t1,t2,Fz⟩,iH⟩;have g:=aa (And.intro t1 t2);have Jc:=aa Fz;have kL:=uK.trans iH;clear t1 t2 Fz;have KO:=aa (show l.length+a=f from by have i:=g.out.1.len;rw[gn] at i;have:=E.out;have:=B.out;have:=M.out;omega);clear Y;obtain⟨Q,j,Sr⟩:∃Q,Hid (fe K (A++F) Q/\up K Q)/\Hid (bI w8 b p (P++(l++(Q++S))) q):=by
       have V:F=[]:=iJ.1 (by have:=Qp.out;omega);have i:=KQ.out;rw[H.out] at i;have W:=Jc.out;rw[V] at W⊢;exact⟨A,aa ⟨by rw[me];exact fe.refl _,(aR.1 i).2.1⟩,aa (by simpa using W)⟩
      have yf:=kL;go_wp2_with fail;have d:=iI (by have:=KQ.out;rw[H.out] at this;exact this) (by have:=KS.out;rw[u.out] at this;exact this) (λx hx=>(HR.out x (by rw[u.out];exact ks _ hx)).1) ad.out ab.out g.out.1 j.out.1 g.out.2 j.out.2;rw[<-H.out,<-u.out] at d
      go_end0
      exact⟨rfl,⟨_,d.1,d.2,by have:=Sr.out;simpa using this⟩,yf⟩
     by_cases k4:C<c
     ·have aj:=eG (show s1<m by omega);have ah:=eG (show m<C by omega);have ao:=gI (show s1<=a by omega);have ai:=eG (show s1<f by omega);have al:=eG (show f<C by omega);have an:=eG (show C<c by omega);have t:=v.out;have I:=hE;go_wp2_with fail;refine(abk hN (P++U) A O (F++S) (w:=wr) (by simpa using v.out) (λh=>by rw[h] at G;have:=G.out;simp at this;omega) (λh=>by rw[h] at B;have:=B.out;simp at this;omega) HO.out (by rw[<-BA.out];simp) rW (by rw[gn];have:=E.out;have:=T.out;omega) (by rw[gn];have:=E.out;have:=T.out;have:=G.out;omega) (by rw[gn];have:=E.out;have:=T.out;have:=G.out;have:=B.out;omega) (ym cv)).mono ?_;rintro e w7⟨rfl,X,jh⟩;have Y:=aa (show bI w7 b p (P++(U++(O++(A++(F++S))))) q from by simpa using X);have uK:=hE.trans jh;clear X;clear t I v;obtain⟨l,g,Jc⟩:∃l,Hid (fe K (U++O) l/\up K l)/\Hid (bI w7 b p (P++(l++(A++(F++S)))) q):=by
       have V:U=[]:=iJ.1 (by have:=E.out;omega);have i:=KS.out;rw[u.out] at i;have W:=Y.out;rw[V] at W⊢;exact⟨O,aa ⟨fe.refl _,(aR.1 i).1⟩,aa W⟩
      have kL:=uK;have KO:=aa (show l.length+a=f from by have i:=g.out.1.len;rw[gn] at i;have:=E.out;have:=B.out;have:=M.out;omega);clear Y;go_wp2_with fail;refine(am.out w7 (P++l) A F S (ac.trans kL) (by simpa using Jc.out) (by rw[<-BA.out];have i:=g.out.1.len;simp only[gn] at i⊢;omega) (λh=>by rw[h] at G;have:=G.out;simp at this;omega) (λh=>by rw[h] at Qp;have:=Qp.out;simp at this;omega) (by have:=G.out;have:=Qp.out;have:=HS.out;have:=HM.out;have:=HC.out;omega) (λy J=>HL.out y (by rw[H.out];exact nj _ J)) (λy J=>HR.out y (by rw[u.out];exact nj _ J)) (by have:=KQ.out;rw[H.out] at this;exact(aR.1 this).2.1) (by have:=KS.out;rw[u.out] at this;exact(aR.1 this).2.1) f C c (by rw[gn,<-T.out];have:=KO.out;omega) (by have:=G.out;have:=M.out;omega) (by have:=Qp.out;omega)).mono ?_;rintro e w9⟨rfl,⟨Q,t1,t2,Zq⟩,kT⟩;have j:=aa (And.intro t1 t2);have Sr:=aa (show bI w9 b p (P++(l++(Q++S))) q from by simpa using Zq);have yf:=kL.trans kT;clear t1 t2 Zq;go_wp2_with fail;have d:=iI (by have:=KQ.out;rw[H.out] at this;exact this) (by have:=KS.out;rw[u.out] at this;exact this) (λx hx=>(HR.out x (by rw[u.out];exact ks _ hx)).1) ad.out ab.out g.out.1 j.out.1 g.out.2 j.out.2;rw[<-H.out,<-u.out] at d
      go_end0
      exact⟨rfl,⟨_,d.1,d.2,by have:=Sr.out;simpa using this⟩,yf⟩
     have aj:=eG (show s1<m by omega);have ah:=eG (show m<C by omega);have ao:=gI (show s1<=a by omega);have ai:=eG (show s1<f by omega);have al:=eG (show f<C by omega);have an:=gI (show c<=C by omega);have t:=v.out;have I:=hE;go_wp2_with fail;refine(abk hN (P++U) A O (F++S) (w:=wr) (by simpa using v.out) (λh=>by rw[h] at G;have:=G.out;simp at this;omega) (λh=>by rw[h] at B;have:=B.out;simp at this;omega) HO.out (by rw[<-BA.out];simp) rW (by rw[gn];have:=E.out;have:=T.out;omega) (by rw[gn];have:=E.out;have:=T.out;have:=G.out;omega) (by rw[gn];have:=E.out;have:=T.out;have:=G.out;have:=B.out;omega) (ym cv)).mono ?_;rintro e w7⟨rfl,X,jh⟩;have Y:=aa (show bI w7 b p (P++(U++(O++(A++(F++S))))) q from by simpa using X);have uK:=hE.trans jh;clear X;clear t I v;obtain⟨l,g,Jc⟩:∃l,Hid (fe K (U++O) l/\up K l)/\Hid (bI w7 b p (P++(l++(A++(F++S)))) q):=by
      have V:U=[]:=iJ.1 (by have:=E.out;omega);have i:=KS.out;rw[u.out] at i;have W:=Y.out;rw[V] at W⊢;exact⟨O,aa ⟨fe.refl _,(aR.1 i).1⟩,aa W⟩
     have kL:=uK;have KO:=aa (show l.length+a=f from by have i:=g.out.1.len;rw[gn] at i;have:=E.out;have:=B.out;have:=M.out;omega);clear Y;obtain⟨Q,j,Sr⟩:∃Q,Hid (fe K (A++F) Q/\up K Q)/\Hid (bI w7 b p (P++(l++(Q++S))) q):=by
      have V:F=[]:=iJ.1 (by have:=Qp.out;omega);have i:=KQ.out;rw[H.out] at i;have W:=Jc.out;rw[V] at W⊢;exact⟨A,aa ⟨by rw[me];exact fe.refl _,(aR.1 i).2.1⟩,aa (by simpa using W)⟩
     have yf:=kL;go_wp2_with fail;have d:=iI (by have:=KQ.out;rw[H.out] at this;exact this) (by have:=KS.out;rw[u.out] at this;exact this) (λx hx=>(HR.out x (by rw[u.out];exact ks _ hx)).1) ad.out ab.out g.out.1 j.out.1 g.out.2 j.out.2;rw[<-H.out,<-u.out] at d
     go_end0
     exact⟨rfl,⟨_,d.1,d.2,by have:=Sr.out;simpa using this⟩,yf⟩
    have aj:=eG (show s1<m by omega);have ah:=gI (show C<=m by omega);have ao:=eG (show a<s1 by omega);have ai:=gI (show f<=s1 by omega);have al:=eG (show f<C by omega);have an:=eG (show C<c by omega);have t:=v.out;have I:=hE;have Y:=aa (show bI wr b p (P++(U++(O++(A++(F++S))))) q from by have V:=B.out;rw[show O=[] from iJ.1 (by omega)];rw[show O=[] from iJ.1 (by omega)] at t;simpa using t);have uK:=hE;clear t I v;obtain⟨l,g,Jc⟩:∃l,Hid (fe K (U++O) l/\up K l)/\Hid (bI wr b p (P++(l++(A++(F++S)))) q):=by
     have V:O=[]:=iJ.1 (by have:=B.out;omega);have i:=KQ.out;rw[H.out] at i;have W:=Y.out;rw[V] at W⊢;exact⟨U,aa ⟨by rw[me];exact fe.refl _,(aR.1 i).1⟩,aa (by simpa using W)⟩
    have kL:=uK;have KO:=aa (show l.length+a=f from by have i:=g.out.1.len;rw[gn] at i;have:=E.out;have:=B.out;have:=M.out;omega);clear Y;go_wp2_with fail;refine(am.out wr (P++l) A F S (ac.trans kL) (by simpa using Jc.out) (by rw[<-BA.out];have i:=g.out.1.len;simp only[gn] at i⊢;omega) (λh=>by rw[h] at G;have:=G.out;simp at this;omega) (λh=>by rw[h] at Qp;have:=Qp.out;simp at this;omega) (by have:=G.out;have:=Qp.out;have:=HS.out;have:=HM.out;have:=HC.out;omega) (λy J=>HL.out y (by rw[H.out];exact nj _ J)) (λy J=>HR.out y (by rw[u.out];exact nj _ J)) (by have:=KQ.out;rw[H.out] at this;exact(aR.1 this).2.1) (by have:=KS.out;rw[u.out] at this;exact(aR.1 this).2.1) f C c (by rw[gn,<-T.out];have:=KO.out;omega) (by have:=G.out;have:=M.out;omega) (by have:=Qp.out;omega)).mono ?_;rintro e w9⟨rfl,⟨Q,t1,t2,Zq⟩,kT⟩;have j:=aa (And.intro t1 t2);have Sr:=aa (show bI w9 b p (P++(l++(Q++S))) q from by simpa using Zq);have yf:=kL.trans kT;clear t1 t2 Zq;go_wp2_with fail;have d:=iI (by have:=KQ.out;rw[H.out] at this;exact this) (by have:=KS.out;rw[u.out] at this;exact this) (λx hx=>(HR.out x (by rw[u.out];exact ks _ hx)).1) ad.out ab.out g.out.1 j.out.1 g.out.2 j.out.2;rw[<-H.out,<-u.out] at d
    go_end0
    exact⟨rfl,⟨_,d.1,d.2,by have:=Sr.out;simpa using this⟩,yf⟩
   by_cases k2:m<C
   ·have aj:=gI (show m<=s1 by omega);have ah:=eG (show m<C by omega);have ao:=eG (show a<s1 by omega);have ai:=eG (show s1<f by omega);have al:=gI (show C<=f by omega);have an:=eG (show C<c by omega);have t:=v.out;have I:=hE;have Y:=aa (show bI wr b p (P++(U++(O++(A++(F++S))))) q from by have V:=G.out;rw[show A=[] from iJ.1 (by omega)];rw[show A=[] from iJ.1 (by omega)] at t;simpa using t);have uK:=hE;clear t I v;go_wp2_with fail;refine(am.out wr P U O (A++(F++S)) (ac.trans uK) Y.out (by rw[<-BA.out];simp only[gn];omega) (λh=>by rw[h] at E;have:=E.out;simp at this;omega) (λh=>by rw[h] at B;have:=B.out;simp at this;omega) (by have:=E.out;have:=B.out;have:=HS.out;have:=HM.out;have:=HC.out;omega) (λy J=>HL.out y (by rw[H.out];exact ks _ J)) (λy J=>HR.out y (by rw[u.out];exact ks _ J)) (by have:=KQ.out;rw[H.out] at this;exact(aR.1 this).1) (by have:=KS.out;rw[u.out] at this;exact(aR.1 this).1) a s1 f T.out (by have:=E.out;omega) (by have:=B.out;have:=M.out;omega)).mono ?_;rintro e w8⟨rfl,⟨l,t1,t2,Fz⟩,iH⟩;have g:=aa (And.intro t1 t2);have Jc:=aa Fz;have kL:=uK.trans iH;clear t1 t2 Fz;have KO:=aa (show l.length+a=f from by have i:=g.out.1.len;rw[gn] at i;have:=E.out;have:=B.out;have:=M.out;omega);clear Y;obtain⟨Q,j,Sr⟩:∃Q,Hid (fe K (A++F) Q/\up K Q)/\Hid (bI w8 b p (P++(l++(Q++S))) q):=by
     have V:A=[]:=iJ.1 (by have:=G.out;have:=M.out;omega);have i:=KS.out;rw[u.out] at i;have W:=Jc.out;rw[V] at W⊢;exact⟨F,aa ⟨fe.refl _,(aR.1 i).2.1⟩,aa W⟩
    have yf:=kL;go_wp2_with fail;have d:=iI (by have:=KQ.out;rw[H.out] at this;exact this) (by have:=KS.out;rw[u.out] at this;exact this) (λx hx=>(HR.out x (by rw[u.out];exact ks _ hx)).1) ad.out ab.out g.out.1 j.out.1 g.out.2 j.out.2;rw[<-H.out,<-u.out] at d
    go_end0
    exact⟨rfl,⟨_,d.1,d.2,by have:=Sr.out;simpa using this⟩,yf⟩
   have aj:=gI (show m<=s1 by omega);have ah:=gI (show C<=m by omega);have ao:=eG (show a<s1 by omega);have ai:=gI (show f<=s1 by omega);have al:=gI (show C<=f by omega);have an:=eG (show C<c by omega);have t:=v.out;have I:=hE;have Y:=aa (show bI wr b p (P++(U++(O++(A++(F++S))))) q from by have V:=G.out;rw[show A=[] from iJ.1 (by omega)];rw[show A=[] from iJ.1 (by omega)] at t;simpa using t);have uK:=hE;clear t I v;obtain⟨l,g,Jc⟩:∃l,Hid (fe K (U++O) l/\up K l)/\Hid (bI wr b p (P++(l++(A++(F++S)))) q):=by
    have V:O=[]:=iJ.1 (by have:=B.out;omega);have i:=KQ.out;rw[H.out] at i;have W:=Y.out;rw[V] at W⊢;exact⟨U,aa ⟨by rw[me];exact fe.refl _,(aR.1 i).1⟩,aa (by simpa using W)⟩
   have kL:=uK;have KO:=aa (show l.length+a=f from by have i:=g.out.1.len;rw[gn] at i;have:=E.out;have:=B.out;have:=M.out;omega);clear Y;obtain⟨Q,j,Sr⟩:∃Q,Hid (fe K (A++F) Q/\up K Q)/\Hid (bI wr b p (P++(l++(Q++S))) q):=by
    have V:A=[]:=iJ.1 (by have:=G.out;have:=M.out;omega);have i:=KS.out;rw[u.out] at i;have W:=Jc.out;rw[V] at W⊢;exact⟨F,aa ⟨fe.refl _,(aR.1 i).2.1⟩,aa W⟩
   have yf:=kL;go_wp2_with fail;have d:=iI (by have:=KQ.out;rw[H.out] at this;exact this) (by have:=KS.out;rw[u.out] at this;exact this) (λx hx=>(HR.out x (by rw[u.out];exact ks _ hx)).1) ad.out ab.out g.out.1 j.out.1 g.out.2 j.out.2;rw[<-H.out,<-u.out] at d
   go_end0
   exact⟨rfl,⟨_,d.1,d.2,by have:=Sr.out;simpa using this⟩,yf⟩
def KT {D:World} (d:N<=b) {z:Value} (e:zO D N K z) (g:off=p.length) (f:n<1000000):∀s,afz D N K z b p q off n cap s
 | 0=>λw P L R S _ _ _ k l E=>by
   have:=ke.2 k;have:=ke.2 l;omega
 | s+1=>λw P L R S i h t k l E o r C A a m c j v u=>by
   have:=ke.2 k;have:=ke.2 l;by_cases B:L.length=1
   ·obtain⟨x,rfl⟩:=List.length_eq_one_iff.1 B;exact Sk d e i P x R S (by simpa using h) r A (o x (by simp)).2 g (by simpa using t) f j v u
   by_cases F:R.length=1
   ·obtain⟨x,rfl⟩:=List.length_eq_one_iff.1 F;exact Sm d e i P x L S (by simpa using h) (λy G=>(o y G).2) C (r x (by simp)) B g (by simpa using t) f j v (by simpa using u)
   exact Sq d e g f (KT d e g f s) w P L R S i h t (by omega) (by omega) E o r C A a m c j v u
def VG (K:Nat->Nat) (k:Nat) (Bs:List (List Nat)):Prop:=∀B∈Bs,B.length=k/\up K B
def VG.len :∀{Bs:List (List Nat)},VG K k Bs->Bs.flatten.length=Bs.length*k
 | [],_=>by simp
 | B::Bs,h=>by
   have b:=VG.len (Bs:=Bs) λC a=>h C (by simp[a]);rw[vu,gn,b,(h B (by simp)).1,im,mw];omega
def VG.snoc {Bs:List (List Nat)} (h:VG K k Bs) {B:List Nat} (c:B.length=k) (b:up K B):VG K k (Bs++[B]):=λC a=>by
 rcases ie.1 a with a|a
 ·exact h C a
 rw[gE.1 a];exact⟨c,b⟩
def yu (K:Nat->Nat) (k:Nat) (l:List Nat):Prop:=∃Bs R,l=Bs.flatten++R/\VG K k Bs/\R.length<k/\up K R
def yu.done (h:yu K k l) (a:l.length<=k) (c:0<k):up K l:=by
 obtain⟨Bs,R,rfl,b,e,d⟩:=h;rw[gn,b.len] at a
 match Bs,b,a with
 | [],_,_=>simpa using d
 | [B],b,a=>
   have:R=[]:=iJ.1 (by simp at a;omega);rw[this];simpa using (b B (by simp)).2
 | B::C::Bs,_,a=>
   exfalso;simp only[im] at a;rw[mw,mw] at a;omega
def KU {w0:World} (hN:N<=b) {cv:Value} (hC:zO w0 N K cv) (Y:Below N w0 w) (M:List Nat) (h:bI w b p M q) (hM:∀x∈M,0<K x/\x<1114112) (ho:off=p.length) (hn:M.length=n) (rW:n<1000000) :
 Calls prog 238 #[.slice (some ⟨b,off,none⟩) n cap,.int .i64 n,ym cv] w λe w'=>e=.returned (.tuple #[])/\(∃i,fe K M i/\up K i/\bI w' b p i q)/\Below N w w':=by
 have SY:=KT hN hC (q:=q) (cap:=cap) ho rW;have IN:=λ(W:World) (l:Below N w0 W) (P L S:List Nat) (h:bI W b p (P++(L++S)) q) (hM:∀x∈L,0<K x/\x<1114112) (hn:(P++(L++S)).length=n) (a c:Nat) (ha:a=P.length) (hc:c=P.length+L.length)=>VC (w:=W) hN hC l (by have:=h.lt;omega) P L S h hM ho hn rW (cap:=cap) ha hc;have HD:=aa h;have nR:=aa hn;have HM:=aa hM;have aB:=aa SY;have aC:=aa IN;have a0:=h.lt;clear ho h hn hM hC SY IN;go_enter func238,ntmps238;go_wp2;go_loopw [7,8] (λav bv wr=>∃a g:Nat,av=.int .i64 a/\bv=.int .i64 g/\g=a+20/\a<=n/\(∃Bs R i,i=Bs.flatten++R/\VG K 20 Bs/\Bs.flatten.length=a/\fe K M i/\bI wr b p i q)/\Below N w wr) (λav _ _=>n-(intOf av).toNat)
 case atStart=>exact⟨0,20,rfl,rfl,rfl,ic _,⟨[],M,M,rfl,λ_ h=>(by cases h),rfl,fe.refl _,HD.out⟩,gS _ _⟩
 case round=>
  obtain⟨a,g,rfl,rfl,aj,a1,⟨Bs,R,i,af,hB,ag,Q,hd⟩,l⟩:=hrel;have kz:(Bs.flatten++R).length=n:=by rw[<-af,Q.len];exact nR.out
  have aL:a+R.length=n:=by rw[gn,ag] at kz;exact kz
  have ER:=aa kz;have HB:=aa hB;have B:=aa ag;have HS:=aa Q;have Rt:=aa af;have m:∀x∈i,0<K x/\x<1114112:=λx hx=>HM.out x (Q.mem.1 hx);have D5:=aa m;have J:=aa hd;clear kz hB ag Q af m hd;by_cases aN:g<=n
  ·have z:decide ((g:Int)<=(n:Int))=true:=by simp;omega
   obtain⟨R1,R2,Ca,ak⟩:∃R1 R2,R=R1++R2/\R1.length=20:=⟨R.take 20,R.drop 20,(km _ _).symm,by rw[jn];omega⟩;have E:=aa (aC.out wr (Y.trans l) Bs.flatten R1 R2 (by rw[<-Ca,<-Rt.out];exact J.out) (λx hx=>D5.out x (by rw[Rt.out,Ca];simp[hx])) (by rw[<-Ca];exact ER.out) a g B.out.symm (by rw[B.out,ak];exact aj));have fC:=aa Ca;have aE:=aa ak;obtain⟨aI,aJ⟩:=ae (g+20);have e1:IntKind.i64.wrap ((g:Int)+20)=(aI:Int):=by rw[kf _ (by omega)];omega
   have aq:=aa aJ;have aH:=aa aj;clear Ca ak aJ aj;go_wp2_with fail;refine E.out.mono ?_;rintro e w6⟨rfl,⟨H,s1,s2,I⟩,ac⟩;have Zr:=aa s1;have al:=aa s2;have aR:=aa I;clear s1 s2 I E;go_wp2_with fail;go_roundw
   case rel=>
    refine⟨g,aI,rfl,by first|rfl|(rw[aq.out];go_num),aq.out,aN,⟨Bs++[H],R2,_,rfl,HB.out.snoc (by rw[Zr.out.len];exact aE.out) al.out,?_,HS.out.trans ?_,?_⟩,l.trans ac⟩
    ·rw[t_,gn,B.out];simp;rw[Zr.out.len,aE.out,aH.out]
    ·rw[Rt.out,fC.out];have:=(fe.refl (K:=K) Bs.flatten).app (Zr.out.app (fe.refl R2));simpa using this
    simpa using aR.out
   case measure=>have:=aH.out;simp[intOf];omega
  have z:decide ((g:Int)<=(n:Int))=false:=by simp;omega
  have E:=aa (aC.out wr (Y.trans l) Bs.flatten R [] (by have:=J.out;rw[Rt.out] at this;simpa using this) (λx hx=>D5.out x (by rw[Rt.out];simp[hx])) (by simpa using ER.out) a n B.out.symm (by rw[B.out];exact aL.symm));go_wp2_with fail;refine E.out.mono ?_;rintro e w6⟨rfl,⟨H,s1,s2,I⟩,ac⟩;have Y0:=aa (show yu K 20 (Bs.flatten++H)/\fe K M (Bs.flatten++H)/\bI w6 b p (Bs.flatten++H) q from ⟨⟨Bs,H,rfl,HB.out,by rw[s1.len];omega,s2⟩,HS.out.trans (by rw[Rt.out];exact(fe.refl _).app s1),by simpa using I⟩);have ji:=l.trans ac;clear s1 s2 I E ac l J D5 HS Rt;go_wp2_with fail;obtain⟨wi,rfl⟩:∃wi:World,wi=w6:=⟨_,rfl⟩;go_loopw [6,7,8,9] (λkv _ _ _ wr=>∃k:Nat,kv=.int .i64 k/\0<k/\k<=2*n+20/\(∃i,yu K k i/\fe K M i/\bI wr b p i q)/\Below N w wr) (λkv _ _ _ _=>n-(intOf kv).toNat)
  case atStart=>exact⟨20,rfl,by decide,by omega,⟨_,Y0.out.1,Y0.out.2.1,Y0.out.2.2⟩,ji⟩
  case round=>
   clear ji;obtain⟨k,rfl,aO,a3,⟨M1,hr,Q,hd⟩,l⟩:=hrel;have aA:M1.length=n:=by rw[Q.len];exact nR.out
   by_cases a5:k<n
   ·have z8:=eG (show k<n by omega);obtain⟨B0,D,au,ay,aZ,aG⟩:=hr;obtain⟨v,ax⟩:=ae (2*k);have e2:IntKind.i64.wrap (2*(k:Int))=(v:Int):=by rw[kf _ (by omega)];omega
    have aY:IntKind.i64.wrap ((k:Int)*2)=(v:Int):=by rw[kf _ (by omega)];omega
    have t:=aa ax;have KO:=aa au;have aV:=aa ay;have aw:=aa aG;have HS:=aa Q;have J:=aa hd;have m:∀x∈M1,0<K x/\x<1114112:=λx hx=>HM.out x (Q.mem.1 hx);have D5:=aa m;have aW:=aa aA;have aX:v<=2*n/\k<v:=by omega
    clear ax au ay aG Q hd m aA;go_wp2_with fail;obtain⟨wo,aU⟩:∃wo:World,wo=wr:=⟨_,rfl⟩;subst aU;go_loopw [7,8] (λav bv wr=>∃a T:Nat,av=.int .i64 a/\bv=.int .i64 T/\T=a+v/\a<=n/\(∃s Bs,VG K v s/\VG K k Bs/\s.flatten.length=a/\fe K M (s.flatten++(Bs.flatten++D))/\bI wr b p (s.flatten++(Bs.flatten++D)) q)/\Below N w wr) (λav _ _=>n-(intOf av).toNat)
    case atStart=>exact⟨0,v,rfl,rfl,by omega,ic _,⟨[],B0,λ_ h=>(by cases h),aV.out,rfl,by have:=HS.out;rw[KO.out] at this;simpa using this,by have:=J.out;rw[KO.out] at this;simpa using this⟩,l⟩
    case round=>
     clear l;obtain⟨a,T,rfl,rfl,A,a6,⟨s,V,U,d,an,o,u⟩,l⟩:=hrel;have ad:(s.flatten++(V.flatten++D)).length=n:=by rw[o.len];exact nR.out
     have az:=d.len;have Ob:a+V.length*k+D.length=n:=by
      simp only[gn] at ad;rw[an,az] at ad;omega
     have G:∀x∈s.flatten++(V.flatten++D),0<K x/\x<1114112:=λx hx=>HM.out x (o.mem.1 hx);have Si:=aa G;have ah:=aa an;have BA:=aa ad;clear G an ad az;by_cases ar:T<=n
     ·have z9:decide ((T:Int)<=(n:Int))=true:=by simp;omega
      obtain⟨j,B2,X,rfl⟩:∃j B2 X,V=j::B2::X:=by
       match V,Ob with
       | [],h=>exfalso;simp at h;omega
       | [j],h=>exfalso;have:=t.out;simp at h;omega
       | j::B2::X,_=>exact⟨j,B2,X,rfl⟩
      obtain⟨f,O⟩:=d j (by simp);obtain⟨F,aF⟩:=d B2 (by simp);obtain⟨am,r⟩:=ae (a+k);obtain⟨a4,ap⟩:=ae (T+v);have e3:IntKind.i64.wrap ((a:Int)+(k:Int))=(am:Int):=by rw[kf _ (by omega)];omega
      have e4:IntKind.i64.wrap ((T:Int)+(v:Int))=(a4:Int):=by rw[kf _ (by omega)];omega
      have E:=aa (aB.out (k+k) wr s.flatten j B2 (X.flatten++D) (Y.trans l) (by simpa using u) (by have:=BA.out;simpa using this) (by intro h;rw[h] at f;simp at f;omega) (by intro h;rw[h] at F;simp at F;omega) (by omega) (λy hy=>Si.out y (by simp[hy])) (λy hy=>Si.out y (by simp[hy])) O aF a am T ah.out.symm (by rw[r,f]) (by rw[A,t.out,r,F];omega));have aQ:=aa d;have ai:=aa o;have Z:=aa f;have ao:=aa F;have aD:=aa A;have aM:=aa ap;clear d o u f F O aF r A ap Ob;go_wp2_with fail;refine E.out.mono ?_;rintro e w8⟨rfl,⟨H,s1,s2,Fz⟩,iH⟩;have Zr:=aa s1;have al:=aa s2;have aS:=aa Fz;clear s1 s2 Fz E;go_wp2_with fail;go_roundw
      case rel=>
       refine⟨T,a4,rfl,rfl,aM.out,ar,⟨s++[H],X,VG.snoc (by assumption) (by rw[Zr.out.len,gn,Z.out,ao.out,t.out];omega) al.out,λC hC=>aQ.out C (by simp[hC]),?_,ai.out.trans ?_,by simpa using aS.out⟩,l.trans iH⟩
       ·rw[t_,gn,ah.out];simp;rw[Zr.out.len,gn,Z.out,ao.out,aD.out,t.out];omega
       have:=(fe.refl (K:=K) s.flatten).app (Zr.out.app (fe.refl (X.flatten++D)));simpa using this
      case measure=>have:=aD.out;simp[intOf];omega
     have z9:decide ((T:Int)<=(n:Int))=false:=by simp;omega
     obtain⟨am,r⟩:=ae (a+k);have e3:IntKind.i64.wrap ((a:Int)+(k:Int))=(am:Int):=by rw[kf _ (by omega)];omega
     by_cases Ja:am<n
     ·have aK:=eG (show am<n by omega);obtain⟨j,rfl⟩:∃j,V=[j]:=by
       match V,Ob with
       | [],h=>exfalso;simp at h;omega
       | [j],_=>exact⟨j,rfl⟩
       | j::B2::X,h=>exfalso;have:=t.out;simp only[im] at h;rw[mw,mw] at h;omega
      obtain⟨f,O⟩:=d j (by simp);have ab:am+D.length=n:=by simp at Ob;omega
      have E:=aa (aB.out (k+k) wr s.flatten j D [] (Y.trans l) (by simpa using u) (by have:=BA.out;simpa using this) (by intro h;rw[h] at f;simp at f;omega) (by intro h;rw[h] at ab;simp at ab;omega) (by omega) (λy hy=>Si.out y (by simp[hy])) (λy hy=>Si.out y (by simp[hy])) O aw.out a am n ah.out.symm (by rw[r,f]) ab.symm);have aP:=aa U;have ai:=aa o;have Z:=aa f;clear d U o u f O r A Ob ab;go_wp2_with fail;refine E.out.mono ?_;rintro e w8⟨rfl,⟨H,s1,s2,Fz⟩,iH⟩
      have qY:=aa (show ∃i,yu K v i/\fe K M i/\bI w8 b p i q from ⟨s.flatten++H,⟨s,H,rfl,aP.out,by rw[s1.len,gn,Z.out,t.out];omega,s2⟩,ai.out.trans (by
       have:=(fe.refl (K:=K) s.flatten).app s1
       simpa using this),by simpa using Fz⟩)
      clear s1 s2 Fz E;go_wp2_with fail;go_roundw
      case rel=>exact⟨v,rfl,by omega,by omega,qY.out,l.trans iH⟩
      case measure=>simp[intOf];omega
     have aK:=gI (show n<=am by omega)
     have qY:=aa (show ∃i,yu K v i/\fe K M i/\bI wr b p i q from by
      refine⟨_,⟨s,V.flatten++D,rfl,U,?_,?_⟩,o,u⟩
      ·rw[gn,d.len];omega
      match V,Ob,d with
      | [],_,_=>simpa using aw.out
      | [j],h,d=>
        have:D=[]:=iJ.1 (by simp at h;omega);rw[this];simpa using (d j (by simp)).2
      | j::B2::X,h,_=>exfalso;have:=t.out;simp only[im] at h;rw[mw,mw] at h;omega)
     clear d U o u r A Ob;go_wp2_with fail;go_roundw
     case rel=>exact⟨v,rfl,by omega,by omega,qY.out,l⟩
     case measure=>simp[intOf];omega
   have z8:=gI (show n<=k by omega);have aT:=hr.done (by omega) aO;go_wp2_with fail
   go_end0
   exact⟨rfl,⟨M1,Q,aT,hd⟩,l⟩
def Su (x y:Nat) (l:x<1000000) (m:y<1000000) :
 Calls prog 205 #[.int .i64 x,.int .i64 y] w λe w'=>e=.returned (.int .i64 (wP x y))/\w'=w:=by
 have h:∀z:Int,Calls prog 237 #[.int .i64 z] w λe w'=>e=.returned (.bool false)/\w'=w:=λz=>by
  go_enter func237,ntmps237;go_wp2;go_ret;exact⟨by simp,rfl⟩
 have g:=aa h;obtain⟨r,d⟩:=ae (wP x y);have a:=aa d;clear h d;rw[<-a.out];go_enter func205,ntmps205;go_wp2_with fail;refine(g.out _).mono ?_;rintro e f⟨rfl,c⟩;obtain rfl:f=w:=c;go_wp2_with fail;refine(g.out _).mono ?_;rintro e k⟨rfl,c⟩;obtain rfl:k=f:=c;by_cases b:x<y
 ·have z:=eG (show x<y by omega);go_wp2_with fail;go_ret;exact⟨by rw[a.out];unfold wP;rw[if_pos b];rfl,rfl⟩
 have z:=gI (show y<=x by omega);by_cases i:y<x
 ·have j:=eG (show y<x by omega);go_wp2_with fail;go_ret;exact⟨by rw[a.out];unfold wP;rw[if_neg b,if_pos i];rfl,rfl⟩
 have j:=gI (show x<=y by omega);go_wp2_with fail;go_ret;exact⟨by rw[a.out];unfold wP;rw[if_neg b,if_neg i];rfl,rfl⟩
def Sv {p v:Nat} {T:List aG} {X:List Nat} (h:cK w p T X) (s:aY T X) (A:w.cell? ⟨v,0,none⟩=some (.pointer (some ⟨p,0,none⟩))) (a b:Nat) (D:a<1114112) (C:b<1114112) :
 Calls prog 204 #[.int .i32 a,.int .i32 b,.pointer (some ⟨v,0,none⟩)] w λe w'=>e=.returned (.int .i64 (wP (ai T a) (ai T b)))/\Below w.heap.size w w':=by
 have f:∀c,ai T c<1000000:=λc=>by
  unfold ai;cases e:rowOf T c with
  | none=>decide
  | some r=>
    have:=(s.fine r (gy e).1).2.1;show r.cls<1000000;omega
 have k:=aa (λ(W:World) (E:Below w.heap.size w W) c (F:c<1114112)=>iM (h.mono E) s c F);have l:=f a;have m:=f b;obtain⟨x,t⟩:=ae (ai T a);obtain⟨y,j⟩:=ae (ai T b);have n:=aa (λ(W:World) (E:Below w.heap.size w W)=>k.out W E a D);have u:=aa (λ(W:World) (E:Below w.heap.size w W)=>k.out W E b C);rw[<-t] at n l⊢;rw[<-j] at u m⊢;have:=Gr.cell (ag w) A;have q:=aa (λW=>Su (w:=W) x y l m);obtain⟨r,z⟩:=ae (wP x y);rw[<-z] at q⊢;clear h f k t j z;go_enter func204,ntmps204;go_wp2_with fail;refine aC (Array.replicate 8 true) 8 0 mixed ?_;refine ay [0,1,3,4] 4 ?_
 iterate 4 (refine aA rfl ?_;go_big_quiet_step (rfl))
 refine az ?_;refine aI 2 ?_;go_wp2_with fail;refine(n.out w.drew (ag w)).mono ?_;rintro e H⟨rfl,i⟩;go_wp2_with fail;refine aF i ?_;have d:=af (ag w) i;refine aI 5 ?_;go_wp2_with fail;refine(u.out H d).mono ?_;rintro e o⟨rfl,g⟩;go_wp2_with fail;refine aF g ?_;refine aI 6 ?_;go_wp2_with fail;refine(q.out o).mono ?_;rintro e B⟨rfl,G⟩;obtain rfl:B=o:=G;go_wp2_with fail;refine aF (gS _ _) ?_;refine ay [7] 0 ?_
 iterate 1 (refine aA rfl ?_;go_big_quiet_step (rfl))
 refine az ?_;refine aJ [] ?_;refine tail_nil ?_;go_wp2_with fail;go_ret;exact⟨rfl,af d g⟩
def FB {j:World} (m:N<=b) {g:Value} (l:zO j N K g) (c:Below N j w) (M:List Nat) (h:bI w b p M q) (f:∀x∈M,0<K x/\x<1114112) (i:off=p.length) (k:M.length=n) (o:n<1000000) :
 Calls prog 206 #[.slice (some ⟨b,off,none⟩) n cap,ym g] w λe w'=>e=.returned (.tuple #[])/\(∃a,fe K M a/\up K a/\bI w' b p a q)/\Below N w w':=by
 have r:=aa (KU m l c M h f i k o (cap:=cap));clear h f i l k;go_enter func206,ntmps206;go_wp2_with fail;refine r.out.mono ?_;rintro e u⟨rfl,d,t⟩;have s:=aa d;clear d;go_wp2_with fail
 go_end0
 exact⟨rfl,s.out,t⟩
def Cb {m:List Nat} (e:dJ K l) (d:dJ K m) (h0:∀a,l.getLast? = some a->K a=0):dJ K (l++m):=by
 induction l with
 | nil=>exact d
 | cons a l ih=>
   cases l with
   | nil=>
     cases m with
     | nil=>trivial
     | cons c m=>exact⟨by unfold swp;have:=h0 a rfl;omega,d⟩
   | cons b l=>exact⟨e.1,ih e.2 λz f=>h0 z (by rw[List.getLast?_cons_cons];exact f)⟩
def KV (K:Nat->Nat):∀l:List Nat,(gL K l).length=l.length:=by
 have a:∀(c:Nat) (l:List Nat),(j_ K c l).length=l.length+1:=λc l=>by
  induction l with
  | nil=>rfl
  | cons d l ih=>unfold j_;split <;> simp[ih]
 intro l
 induction l with
 | nil=>rfl
 | cons c l ih=>unfold gL;rw[a,ih];rfl
def KW (K:Nat->Nat) {x:Nat}:∀{l:List Nat},x∈gL K l↔x∈l:=by
 have a:∀(c:Nat) (l:List Nat),x∈j_ K c l↔x=c\/x∈l:=λc l=>by
  induction l with
  | nil=>simp[j_]
  | cons d l ih=>
    unfold j_
    split
    ·rw[jt,ih,jt];exact or_left_comm
    rw[jt]
 intro l
 induction l with
 | nil=>simp[gL]
 | cons c l ih=>unfold gL;rw[a,ih,jt]
def bI.split {A G D:List Nat} :bI W b [] (A++(G++D)) q↔bI W b A G (aM D++q):=by
 unfold bI;have e:aM []++(aM (A++(G++D))++q)=aM A++(aM G++(aM D++q)):=by
  rw[a_,a_];simp[aM]
 rw[e]
def bI.aU {base:Nat} (h:W.ownsRow base aN 1 (.slice (some ⟨b,0,none⟩) n cap) n (aM l)):∃q,bI W b [] l q/\n+q.length=cap/\l.length=n/\base<=b/\cap<=maxLen:=by
 have f:l.length=n:=by have:=h.1;simpa using this
 rcases h.2 with⟨e,_⟩|⟨g,c,a,e,o,d,p,i,k,j⟩
 ·cases e
 injection e with e1 _ e3;injection e1 with e1;injection e1 with e1;subst e1;subst e3;refine⟨a.toList.drop n,⟨?_⟩,?_,f,o,i⟩
 ·have m:(aM []++(aM l++a.toList.drop n)).toArray=a:=by
   rw[<-j,qt];simp[aM]
  rw[m];exact d
 rw[rK,sY,k];omega
def bI.own {base:Nat} (h:bI W b [] l q) (d:n+q.length=cap) (a:l.length=n) (c:base<=b) (e:cap<=maxLen):W.ownsRow base aN 1 (.slice (some ⟨b,0,none⟩) n cap) n (aM l):=by
 refine⟨by simp[a],.inr ⟨b,cap,_,rfl,c,Is.at_ h,by omega,e,?_,?_⟩⟩
 ·simp[aM,a,d]
 simp[aM,<-a]
def acG (K:Nat->Nat) (n f:Nat) (l:List Nat):Prop:=(f<=n/\∃A C,l=A++C/\A.length=f/\dJ K A/\∀a,A.getLast? = some a->K a=0)\/(f=n+1/\dJ K l)
def VH {p:Nat} {T:List aG} {X:List Nat} (h:cK w p T X) (hV:aY T X) {v:Value} (l:List Nat) (hv:Sl aN w v (aM l)) (hp:fU v) (hc:∀c∈l,c<1114112) (aS:l.length<100000) :
 Calls prog 169 #[.pointer (some ⟨p,0,none⟩),v] w λe w'=>∃r,e=.returned r/\w'.ownsRow w.heap.size aN 1 r l.length (aM (gL (ai T) l))/\Below w.heap.size w w':=by
 obtain⟨K,hK⟩:=ae (ai T);obtain⟨k,M⟩:=ae (w.alloc (.cells #[.pointer (some ⟨p,0,none⟩)] 29));have m:=aO M;have k1:=Is.nw M;have CL:=aa (kX l (hv.mono m) hp (by omega));have au:zO k k.heap.size K (.pointer (some ⟨w.heap.size,0,none⟩)):=λW hW a b ha hb=>by
  rw[hK];exact Sv (h.mono (m.trans (hW.mono m.size))) hV ((k1.mono hW).at 0 rfl) a b ha hb
 have al:=aa au;have aB:=aa (λ(W:World) (E:Below k.heap.size k W) c (hc:c<1114112)=>iM (h.mono (m.trans (E.mono m.size))) hV c hc);rw[<-hK] at aB⊢;have HC:=aa hc;obtain⟨va,vn,vc,rfl,_⟩:=id hp;have V:=m.size;obtain⟨n,hn⟩:=ae l.length;rw[<-hn] at CL aS⊢;have HN:=aa hn;clear h hv hp hc au hK hn;go_enter func169,ntmps169;go_wp2_with fail;rw[<-M];clear M;refine CL.out.mono ?_;rintro e w2⟨r,rfl,ho,R⟩;have NP:=af m R;by_cases Q:l=[]
 ·subst Q;obtain rfl:n=0:=HN.out;obtain⟨a,cap,rfl,_,_⟩:=ak ho;have HO:=aa ho;clear ho;go_wp2_with fail;refine wp_loop_rounds 1 ?_;rw[rounds_succ];go_wp2_with fail;exact bodyPost_ret (results_tmp rfl _ _ _) rfl ⟨_,rfl,aT HO.out V,NP⟩
 have aH:0<n:=by rw[HN.out];exact ke.2 Q
 obtain⟨b,cap,rfl,_,_,_,_,_⟩:=dz ho aH;obtain⟨q,hd,hq,_,hb,ao⟩:=bI.aU ho;have a0:n<=cap:=by omega
 have HQ:=aa (And.intro hq ao);have HD:=aa hd;have an:Below k.heap.size k w2:=R;have a5:=k1.mono R;clear hd ho hq ao Q CL;go_wp2_with fail;go_loopw [7,8] (λfv _ wr=>∃f:Nat,f<=n+1/\fv=.int .i64 f/\(∃s,acG K n f s/\fe K l s/\bI wr b [] s q)/\Below k.heap.size k wr) (λfv _ _=>n+1-(intOf fv).toNat)
 case atStart=>exact⟨0,by omega,rfl,⟨l,.inl ⟨ic _,[],l,rfl,rfl,trivial,λa h=>by cases h⟩,fe.refl _,HD.out⟩,an⟩
 case round=>
  obtain⟨f,a2,rfl,⟨s,hS,Sw,hd⟩,H⟩:=hrel;have u:s.length=n:=by rw[Sw.len];exact HN.out.symm
  by_cases a1:f<n
  ·have z:=eG (show f<n by omega);obtain⟨A,C,ad,hA,ax,aj⟩:∃A C,s=A++C/\A.length=f/\dJ K A/\∀a,A.getLast? = some a->K a=0:=by
    rcases hS with⟨_,h⟩|⟨h,_⟩
    ·exact h
    omega
   have aL:=aa ad;have HA:=aa hA;have J:=aa (And.intro ax aj);have ac:=aa Sw;have aR:=aa hd;have aE:=aa u;have ah:=hd.lt;have VJ:∀x∈s,x<1114112:=λx hx=>HC.out x (Sw.mem.1 hx);have Ro:=aa VJ;clear hS Sw ad hA ax aj hd u VJ;go_wp2_with fail;obtain⟨wo,aZ⟩:∃wo:World,wo=wr:=⟨_,rfl⟩;subst aZ;go_loopw [8] (λtv wr=>∃t:Nat,f<=t/\t<=n/\tv=.int .i64 t/\(∃G D,C=G++D/\G.length+f=t/\∀x∈G,0<K x)/\bI wr b [] s q/\Below k.heap.size k wr) (λtv _=>n-(intOf tv).toNat)
   case atStart=>exact⟨f,d' _,by omega,rfl,⟨[],C,rfl,by simp,by simp⟩,aR.out,H⟩
   case round=>
    clear H ah;obtain⟨t,a4,a3,rfl,⟨G,D,ab,Qq,av⟩,hd,H⟩:=hrel;have Z:s=A++(G++D):=by rw[aL.out,ab]
    have aq:t+D.length=n:=by
     have:=aE.out;rw[Z] at this;simp only[gn] at this;have:=HA.out;omega
    have ah:=hd.lt;have aQ:=aa ab;have F:=aa Qq;have Y:=aa av;have N:=aa Z;have S:=aa hd;have GN:=aa aq;clear ab Qq av Z hd aq;by_cases ht:t<n
    ·have z2:=eG (show t<n by omega);obtain⟨x,I,rfl⟩:∃x I,D=x::I:=by
      cases D with
      | nil=>have:=GN.out;simp at this;omega
      | cons x I=>exact⟨x,I,rfl⟩
     have g1:s[t]? = some x:=by
      have:=gM (A++G) I x t (by rw[gn,HA.out];have:=F.out;omega);rw[N.out];simpa using this
     have ap:=Ro.out x (lO g1);have c1:=S.out.at (o:=t) (by simp) g1;have E0:=ag wr;have q1:=Gr.cell E0 c1;have q2:=Gr.cell E0 ((k1.mono H).at 0 rfl);have CC:=aa (aB.out wr.drew H.drew x ap);obtain⟨kx,P⟩:=ae (K x);rw[<-P] at CC;have KP:=aa P;clear g1 ap c1 P;go_wp2_with fail;refine aC (Array.replicate 13 true) 13 0 mixed ?_;refine ay [0,1,2,3,4,5,6,7,8,9] 3 ?_
     iterate 10 (refine aA rfl ?_;go_big_quiet_step (rfl))
     refine az ?_;refine aI 10 ?_;go_wp2_with fail;refine CC.out.mono ?_;rintro e w6⟨rfl,L⟩;go_wp2_with fail;refine aF L ?_;refine ay [11,12] 0 ?_
     iterate 2 (refine aA rfl ?_;go_big_quiet_step (rfl))
     refine az ?_;refine aJ [] ?_;refine tail_nil ?_;have ji:=H.drew.trans (L.mono (by show k.heap.size<=wr.heap.size;have:=H.size;omega));have aw:=aa (S.out.mono (af E0 L));clear q1 q2 CC E0 L;by_cases aV:0<kx
     ·have z3:decide ((0:Int)<(kx:Int))=true:=decide_eq_true (by omega);obtain⟨t1,j⟩:=ae (t+1);have e1:IntKind.i64.wrap ((t:Int)+1)=(t1:Int):=by rw[kf _ (by omega)];omega
      have i:=aa j
      have qY:=aa (show ∃G D,C=G++D/\G.length+f=t+1/\∀x∈G,0<K x from ⟨G++[x],I,by rw[aQ.out];simp,by rw[gn];have:=F.out;simp;omega,λy B=>by
       rcases ie.1 B with B|B
       ·exact Y.out y B
       rw[gE.1 B,<-KP.out];exact aV⟩)
      clear j;go_wp2_with fail;go_roundw
      case rel=>exact⟨t+1,by omega,by omega,by have:=i.out;simp;omega,qY.out,aw.out,ji⟩
      case measure=>have:=i.out;simp[intOf];omega
     have z3:decide ((0:Int)<(kx:Int))=false:=decide_eq_false (by omega);have ar:kx=0:=by omega
     have am:=aa ar;have aP:f≠cap:=by omega
     have g:=aa (show ∀d,Calls prog 206 #[.slice (some ⟨b,f,none⟩) (t-f) d,ym (.pointer (some ⟨w.heap.size,0,none⟩))] w6 λe w'=>e=.returned (.tuple #[])/\(∃M',fe K G M'/\up K M'/\bI w' b A M' (aM (x::I)++q))/\Below k.heap.size k w' from λd=>(FB hb al.out ji G (bI.split.1 (by have:=aw.out;rw[N.out] at this;exact this)) (λy B=>⟨Y.out y B,Ro.out y (by rw[N.out];simp[B])⟩) HA.out.symm (by have:=F.out;omega) (by omega) (cap:=d)).mono λe w' ⟨U,h2,h3⟩=>⟨U,h2,ji.trans h3⟩);obtain⟨t1,j⟩:=ae (t+1);have e1:IntKind.i64.wrap ((t:Int)+1)=(t1:Int):=by rw[kf _ (by omega)];omega
     have i:=aa j;clear j ar;have aK:f<=t/\t<=cap:=by omega
     go_wp2_with fail;refine(g.out _).mono ?_;rintro e w8⟨rfl,⟨G',s1,s2,Fz⟩,kL⟩
     have qY:=aa (show ∃O,acG K n (t+1) O/\fe K l O/\bI w8 b [] O q from by
      refine⟨A++(G'++(x::I)),.inl ⟨by omega,A++(G'++[x]),I,by simp,?_,?_,λa ha=>?_⟩,ac.out.trans ?_,bI.split.2 Fz⟩
      ·rw[gn,gn,s1.len,HA.out];have:=F.out;simp;omega
      ·refine Cb J.out.1 (Sb K (BR K s2) trivial λc hc=>?_) J.out.2;cases hc;rw[<-KP.out];exact am.out
      ·rw[show A++(G'++[x])=(A++G')++[x] by simp,mx] at ha;injection ha with ha;rw[<-ha,<-KP.out];exact am.out
      rw[N.out]
      exact(fe.refl A).app (s1.app (fe.refl _)))
     clear s1 s2 Fz g;go_wp2_with fail;go_roundw
     case rel=>exact⟨t+1,by omega,by have:=i.out;simp;omega,qY.out,kL⟩
     case measure=>have:=i.out;simp[intOf];omega
    have z2:=gI (show n<=t by omega);obtain rfl:n=t:=by omega
    obtain rfl:D=[]:=iJ.1 (by have:=GN.out;omega);have aP:f≠cap:=by omega
    have aK:f<=n/\n<=cap:=by omega
    have g:=aa (show ∀nq d,Calls prog 206 #[.slice (some ⟨b,f,none⟩) (n-f) d,ym (.pointer (some ⟨w.heap.size,0,none⟩))] (wr.drewN nq) λe w'=>e=.returned (.tuple #[])/\(∃M',fe K G M'/\up K M'/\bI w' b A M' (aM []++q))/\Below k.heap.size k w' from λnq d=>
     have ji:Below k.heap.size k (wr.drewN nq):=H.trans ⟨rfl,rfl,rfl,d' _,λ_ _=>rfl⟩
     (FB hb al.out ji G (bI.split.1 (by have:=S.out;rw[N.out] at this;exact this.mono ⟨rfl,rfl,rfl,d' _,λ_ _=>rfl⟩)) (λy B=>⟨Y.out y B,Ro.out y (by rw[N.out];simp[B])⟩) HA.out.symm (by have:=F.out;omega) (by omega) (cap:=d)).mono λe w' ⟨U,h2,h3⟩=>⟨U,h2,ji.trans h3⟩)
    obtain⟨t1,j⟩:=ae (n+1);have e1:IntKind.i64.wrap ((n:Int)+1)=(t1:Int):=by rw[kf _ (by omega)];omega
    have i:=aa j;clear j H;go_wp2_with fail;go_quiet (fail);go_wp2_with fail;refine(g.out _ _).mono ?_;rintro e w8⟨rfl,⟨G',s1,s2,Fz⟩,kL⟩
    have qY:=aa (show ∃O,acG K n (n+1) O/\fe K l O/\bI w8 b [] O q from by
     refine⟨A++(G'++[]),.inr ⟨rfl,?_⟩,ac.out.trans ?_,bI.split.2 Fz⟩
     ·rw[me];exact Cb J.out.1 (BR K s2) J.out.2
     rw[N.out]
     exact(fe.refl A).app (s1.app (fe.refl _)))
    clear s1 s2 Fz g;go_wp2_with fail;go_roundw
    case rel=>exact⟨n+1,by omega,by have:=i.out;simp;omega,qY.out,kL⟩
    case measure=>have:=i.out;simp[intOf];omega
  have z:=gI (show n<=f by omega);have aD:dJ K s:=by
   rcases hS with⟨U,A,C,h2,h3,h4,_⟩|⟨_,h⟩
   ·have:C=[]:=by
     rw[h2,gn] at u;exact iJ.1 (by omega)
    rw[h2,this,me];exact h4
   exact h
  have hL:s=gL K l:=by
   have U:=Sw.2 [] [];simp only[lf,me] at U;rw[U,uI K aD]
  have aX:=aa (hd.own HQ.out.1 u hb HQ.out.2);have aW:=aa hL;clear hS Sw hd aD hL u;go_wp2_with fail;go_ret;exact⟨_,rfl,by rw[<-aW.out];exact aT aX.out V,m.trans (H.mono V)⟩
end Go.Proofs.YtmnimbnojdndmaaGreatDoor
