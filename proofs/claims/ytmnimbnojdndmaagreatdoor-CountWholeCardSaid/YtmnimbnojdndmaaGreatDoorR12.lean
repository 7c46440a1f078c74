/- One machine of an NFD counts as its units do, multiplied; no condition. -/
import Derived.Test.YtmnimbnojdndmaaGreatDoorR11
import Derived.Deep.CutRange
set_option maxRecDepth 100000
set_option maxHeartbeats 6400000
set_option linter.all false
namespace Go.Proofs.YtmnimbnojdndmaaGreatDoor
open Go.RowKit Go.Cd _root_.Go.Proofs.Tryz
variable {w0 w:World} {b N off n cap k:Nat} {K:Nat->Nat} {cv:Value} {p:List Nat} {q:List Value}
def Sm (hN:N<=b) (hC:zO w0 N K cv) (ai:Below N w0 w) (P:List Nat) (x:Nat) (L S:List Nat) (h:bI w b p (P++(L++(x::S))) q) (hR:∀y∈L,y<1114112) (hu:up K L) (hx:0<K x/\x<1114112) (aq:L.length≠1)
 {a m c:Nat} (ho:off=p.length) (hn:(P++(L++(x::S))).length=n) (rW:n<1000000) (ha:a=P.length) (hm:m=a+L.length) (hc:c=m+1) :
 Calls prog 264 #[.slice (some ⟨b,off,none⟩) n cap,.int .i64 a,.int .i64 m,.int .i64 c,ym cv] w λe w'=>e=.returned (.tuple #[])/\(∃M',fe K (L++[x]) M'/\up K M'/\bI w' b p (P++(M'++S)) q)/\Below N w w':=by
 have ad:a<=m/\m<c/\c<=n:=by
  simp only[List.length_append,List.length_cons] at hn;omega
 have B:=aa ho;have HA:=aa ha;have HC:=aa hc;have I:=aa hm;have HD:=aa h;have nR:=aa hn;have HR:=aa hR;have ah:=aa hC;have HU:=aa hu;have ak:m-a≠1:=by omega
 obtain⟨U,ac⟩:∃U:Nat,U=m-a:=⟨_,rfl⟩;have e1:IntKind.i64.wrap ((m:Int)-(a:Int))=(U:Int):=by rw[IntWalk.i64_in _ (by omega)];omega
 have Vh:IntKind.i64.wrap ((c:Int)-(m:Int))=1:=by rw[IntWalk.i64_in _ (by omega)];omega
 have z0:((U:Int)==1)=false:=by simp;omega
 have ar:=h.lt;clear ho ha hc hm h hn hR hC hu ak ac;go_enter func264,ntmps264;go_wp2;go_loopw [14,15] (λiv jv wr=>∃i j:Nat,a<=i/\i<=j/\j<=m/\iv=.int .i64 i/\jv=.int .i64 j/\(∀z,(L.take (i-a)).getLast? = some z->K z<=K x)/\(∀z,(L.drop (j-a)).head? = some z->K x<K z)/\bI wr b p (P++(L++(x::S))) q/\Below N w wr) (λiv jv _=>(intOf jv).toNat-(intOf iv).toNat)
 case atStart=>exact⟨a,m,Nat.le_refl _,ad.1,Nat.le_refl _,rfl,rfl,(λz h=>by rw[Nat.sub_self] at h;cases h),(λz h=>by rw[I.out,Nat.add_sub_cancel_left,List.drop_length] at h;cases h),HD.out,Below.refl _ _⟩
 case round=>
  obtain⟨i,j,vL,ap,G,rfl,rfl,hi,hj,hd,s⟩:=hrel;have HI:=aa hi;have HJ:=aa hj;clear hi hj;by_cases t:i<j
  ·have z:=eG (show i<j by omega);obtain⟨h,hh⟩:=ae ((i+j) / 2);have ao:i<=h/\h<j:=by omega
   have e2:((i:Int)+(j:Int)) / 2=(h:Int):=by omega
   obtain⟨y,f⟩:∃y,L[h-a]? = some y:=⟨_,List.getElem?_eq_getElem (by have:=I.out;omega)⟩;have D:(P++(L++(x::S)))[m]? = some x:=by
    have:=gM (P++L) S x m (by rw[List.length_append,I.out,HA.out]);simpa using this
   have C:(P++(L++(x::S)))[h]? = some y:=by
    have aw:=HA.out;rw[List.getElem?_append_right (by omega),show h-P.length=h-a by omega,List.getElem?_append_left (List.getElem?_eq_some_iff.1 f).1];exact f
   have E:=HR.out y (List.mem_of_getElem? f);have c1:=hd.at (o:=off+m) (by rw[B.out]) D;have c2:=hd.at (o:=off+h) (by rw[B.out]) C;have V:=ag wr;have b1:=Gr.cell V c1;have b2:=Gr.cell V c2;have CC:=aa (ah.out wr.drew (ai.trans s.drew) x y hx.2 E);obtain⟨v,u⟩:=ae (wP (K x) (K y));rw[<-u] at CC;have NU:=aa (show v<0↔K x<K y from by rw[u];exact Aw);have HY:=aa f;have l:=aa hd;have an:h<n/\m<n:=by omega
   clear hh D C E c1 c2 u f hd;go_wp2_with fail;refine aC (Array.replicate 12 true) 12 0 mixed ?_;refine ay [0,1,2,3,4,5,6,7,8] 3 ?_
   iterate 9 (refine aA rfl ?_;go_big_quiet_step (rfl))
   refine az ?_;refine aI 9 ?_;go_wp2_with fail;refine CC.out.mono ?_;rintro e w6⟨rfl,r⟩;go_wp2_with fail;refine aF r ?_;refine ay [10,11] 0 ?_
   iterate 2 (refine aA rfl ?_;go_big_quiet_step (rfl))
   refine az ?_;refine aJ [] ?_;refine tail_nil ?_;have R:=aa (l.out.mono (af V r));have ji:=(s.drew).trans (r.mono (by have:=l.out.lt;show N<=wr.heap.size;omega));clear b1 b2 CC V r s;by_cases g:v<0
   ·have z2:decide (v<0)=true:=by simp;exact g
    go_wp2_with fail
    all_goals first|(exfalso;have T:=‹(!decide (v<0))=true›;rw[z2] at T;exact absurd T (by decide))|skip
    go_roundw
    case rel=>exact⟨i,h,vL,by omega,by omega,rfl,rfl,HI.out,λz H=>by
     rw[yt,HY.out] at H;cases H
     exact NU.out.1 g,R.out,ji⟩
    case measure=>simp[intOf];omega
   have z2:decide (v<0)=false:=by simp;omega
   have z4:0<=v:=by omega
   go_wp2_with fail
   all_goals first|(exfalso;have T:=‹(!decide (v<0))=false›;rw[z2] at T;exact absurd T (by decide))|skip
   go_roundw
   case rel=>exact⟨h+1,j,by omega,by omega,G,by simp,rfl,λz H=>by
    rw[show h+1-a=(h-a)+1 by omega,yn HY.out] at H;cases H
    exact Nat.not_lt.1 λhk=>g (NU.out.2 hk),HJ.out,R.out,ji⟩
   case measure=>simp[intOf];omega
  have z:=gI (show j<=i by omega);obtain rfl:i=j:=by omega
  have l:=aa hd;clear hd;go_wp2_with fail;obtain⟨wo,rfl⟩:∃wo:World,wo=wr:=⟨_,rfl⟩;go_loopw [17] (λkv wr=>∃k:Nat,i<=k/\k<=m/\kv=.int .i64 k/\bI wr b p (P++(L.take (k-a)++x::(L.drop (k-a)++S))) q/\Below N w wr) (λkv _=>(intOf kv).toNat)
  case atStart=>exact⟨m,G,Nat.le_refl _,rfl,by
   have Z:=l.out;have h2:m-a=L.length:=by have:=I.out;omega
   rw[h2,List.take_length,List.drop_length]
   simpa using Z,s⟩
  case round=>
   clear s;obtain⟨k,av,au,rfl,hd,s⟩:=hrel;by_cases hk:i<k
   ·have z5:=eG (show i<k by omega);obtain⟨d,W⟩:∃d,k=d+1:=⟨k-1,by omega⟩;have e4:IntKind.i64.wrap ((k:Int)-1)=(d:Int):=by rw[IntWalk.i64_in _ (by omega)];omega
    obtain⟨y,f⟩:∃y,L[d-a]? = some y:=⟨_,List.getElem?_eq_getElem (by have:=I.out;omega)⟩;have F:L.drop (d-a)=y::L.drop (k-a):=by
     rw[show k-a=(d-a)+1 by omega,<-(List.getElem?_eq_some_iff.1 f).2];exact List.drop_eq_getElem_cons (List.getElem?_eq_some_iff.1 f).1
    have M:L.take (k-a)=L.take (d-a)++[y]:=by rw[show k-a=(d-a)+1 by omega,List.take_add_one,f];rfl
    have t:(L.take (d-a)).length=d-a:=by rw[List.length_take];have:=(List.getElem?_eq_some_iff.1 f).1;omega
    rw[M] at hd;have Q:(P++L.take (d-a)).length=d:=by rw[List.length_append,t,<-HA.out];omega
    have J:P++(L.take (d-a)++[y]++x::(L.drop (k-a)++S))=(P++L.take (d-a))++y::x::(L.drop (k-a)++S):=by simp
    rw[J] at hd;have D:((P++L.take (d-a))++y::x::(L.drop (k-a)++S))[d]? = some y:=gM _ _ _ _ Q.symm;have C:((P++L.take (d-a))++y::x::(L.drop (k-a)++S))[k]? = some x:=by
     have:=gM ((P++L.take (d-a))++[y]) (L.drop (k-a)++S) x k (by rw[List.length_append,Q,W];rfl);simpa using this
    have O:((P++L.take (d-a)++y::x::(L.drop (k-a)++S)).set k y).set d x=P++L.take (d-a)++x::y::(L.drop (k-a)++S):=by
     have Z:=set_mid ((P++L.take (d-a))++[y]) (L.drop (k-a)++S) x y k (by rw[List.length_append,Q,W];rfl);simp only[List.append_assoc,List.cons_append,List.nil_append] at Z⊢;rw[Z];have h2:=set_mid (P++L.take (d-a)) (y::(L.drop (k-a)++S)) y x d Q.symm;simpa using h2
    have c1:=hd.at (o:=off+d) (by rw[B.out]) D;have c2:=hd.at (o:=off+k) (by rw[B.out]) C;have f1:=hd.frozen (off+d);have f2:=hd.frozen (off+k);have A:=(hd.set (o:=off+k) (by rw[B.out]) (List.getElem?_eq_some_iff.1 C).1 y).set (o:=off+d) (k:=d) (by rw[B.out]) (by rw[List.length_set];exact(List.getElem?_eq_some_iff.1 D).1) x;rw[O] at A;have al:=aa (show bI _ b p (P++(L.take (d-a)++x::(L.drop (d-a)++S))) q from by rw[F];simpa using A);have am:k<n/\d<n/\d≠k:=by omega
    have Oa:=aa W;have ab:d<k/\i<=d:=by omega
    clear W F M t Q J D C O hd A f;go_wp2_with fail;go_region;go_wp2_with fail;go_roundw
    case rel=>exact⟨d,ab.2,by omega,by first|rfl|(rw[Oa.out];go_num),al.out.mono (ag _),(aj (aj s hN) hN).drew⟩
    case measure=>simp[intOf];omega
   have z5:=gI (show k<=i by omega);obtain rfl:i=k:=by omega
   have HT:=aa hd;clear hd;go_wp2_with fail;obtain⟨s1,s2⟩:=KM (X:=L.take (i-a)) (Y:=L.drop (i-a)) (c:=x) (by rw[List.take_append_drop];exact HU.out) hx.1 HI.out HJ.out;rw[List.take_append_drop] at s1;exact bodyPost_ret (results_none rfl _ _ _) rfl ⟨rfl,⟨_,s1,s2,by have:=HT.out;simpa using this⟩,s⟩
def getD_at {l:List Nat} (h:k<l.length):l[k]? = some (l.getD k 0):=by
 rw[List.getD_eq_getElem?_getD,List.getElem?_eq_getElem h];rfl
def Sn {P L R S:List Nat} {a m c d s s0 e:Nat} (B:a=P.length) (H:m=a+L.length) (V:c=m+R.length) (A:d=(a+c) / 2) (I:b=d+m)
 (Q:a<=s0) (O:s0<=s) (U:s<=e) (T:e<=m) (Z:e<=d) (W:b<=s0+c) (X:s0=a\/s0+c=b) (N:e=m\/e=d)
 (n:s=s0\/¬K ((P++(L++(R++S))).getD (b-s) 0)<K ((P++(L++(R++S))).getD (s-1) 0)) (i:s=e\/K ((P++(L++(R++S))).getD (b-1-s) 0)<K ((P++(L++(R++S))).getD s 0)) :
 ∃w D u F,L=w++D/\R=u++F/\w.length+a=s/\u.length+m=b-s/\(∀x y,w.getLast? = some x->F.head? = some y->K x<=K y)/\(∀x y,D.head? = some x->u.getLast? = some y->K y<K x):=by
 have:(L.take (s-a)).length=s-a:=by rw[List.length_take];omega
 have:(R.take (b-s-m)).length=b-s-m:=by rw[List.length_take];omega
 have C:∀k,k<L.length->(P++(L++(R++S))).getD (a+k) 0=L.getD k 0:=λk q=>by
  rw[List.getD_eq_getElem?_getD,List.getD_eq_getElem?_getD,List.getElem?_append_right (by omega),B,Nat.add_sub_cancel_left,List.getElem?_append_left q]
 have G:∀k,k<R.length->(P++(L++(R++S))).getD (m+k) 0=R.getD k 0:=λk q=>by
  rw[List.getD_eq_getElem?_getD,List.getD_eq_getElem?_getD,List.getElem?_append_right (by omega),H,B,show P.length+L.length+k-P.length=L.length+k by omega,List.getElem?_append_right (by omega),Nat.add_sub_cancel_left,List.getElem?_append_left q]
 have f:∀(l:List Nat) (t x:Nat),t<=l.length->(l.take t).getLast? = some x->0<t/\l.getD (t-1) 0=x:=λl t x Y h=>by
  cases t with
  | zero=>simp at h
  | succ t=>
    have o:=yn (getD_at (l:=l) (k:=t) (by omega));rw[o] at h;injection h with h;exact⟨by omega,h⟩
 have hd:∀(l:List Nat) (t x:Nat),(l.drop t).head? = some x->t<l.length/\l.getD t 0=x:=λl t x h=>by
  rw[yt] at h;exact⟨(List.getElem?_eq_some_iff.1 h).1,by rw[List.getD_eq_getElem?_getD,h];rfl⟩
 refine⟨L.take (s-a),L.drop (s-a),R.take (b-s-m),R.drop (b-s-m),(List.take_append_drop _ _).symm,(List.take_append_drop _ _).symm,by omega,by omega,λx y r v=>?_,λx y r v=>?_⟩
 ·obtain⟨o,p⟩:=f L (s-a) x (by omega) r;obtain⟨E,z⟩:=hd R (b-s-m) y v;rcases n with n|n
  ·omega
  have g:=C (s-a-1) (by omega);have j:=G (b-s-m) E;rw[show a+(s-a-1)=s-1 by omega,p] at g;rw[show m+(b-s-m)=b-s by omega,z] at j;rw[g,j] at n;omega
 obtain⟨o,p⟩:=hd L (s-a) x r;obtain⟨E,z⟩:=f R (b-s-m) y (by omega) v;rcases i with i|i
 ·omega
 have g:=C (s-a) o;have j:=G (b-s-m-1) (by omega);rw[show a+(s-a)=s by omega,p] at g;rw[show m+(b-s-m-1)=b-1-s by omega,z] at j;rw[g,j] at i;exact i
def afz (w0:World) (N:Nat) (K:Nat->Nat) (cv:Value) (b:Nat) (p:List Nat) (q:List Value) (off n cap:Nat) (s:Nat):Prop:=
 ∀(w:World) (P L R S:List Nat),Below N w0 w->bI w b p (P++(L++(R++S))) q->(P++(L++(R++S))).length=n->L≠[]->R≠[]->L.length+R.length<=s->(∀y∈L,0<K y/\y<1114112)->(∀y∈R,0<K y/\y<1114112)->up K L->up K R->∀a m c:Nat,a=P.length->m=a+L.length->c=m+R.length->
  Calls prog 264 #[.slice (some ⟨b,off,none⟩) n cap,.int .i64 a,.int .i64 m,.int .i64 c,ym cv] w λe w'=>e=.returned (.tuple #[])/\(∃d,fe K (L++R) d/\up K d/\bI w' b p (P++(d++S)) q)/\Below N w w'
def Sq (hN:N<=b) (hC:zO w0 N K cv) {s:Nat} (ho:off=p.length) (rW:n<1000000) (ih:afz w0 N K cv b p q off n cap s)
 (w:World) (P L R S:List Nat) (ac:Below N w0 w) (h:bI w b p (P++(L++(R++S))) q) (hn:(P++(L++(R++S))).length=n) (aZ:2<=L.length) (a5:2<=R.length) (hs:L.length+R.length<=s+1)
 (hL:∀y∈L,0<K y/\y<1114112) (hR:∀y∈R,0<K y/\y<1114112) (uL:up K L) (uR:up K R) (a m c:Nat) (ha:a=P.length) (hm:m=a+L.length) (hc:c=m+R.length) :
 Calls prog 264 #[.slice (some ⟨b,off,none⟩) n cap,.int .i64 a,.int .i64 m,.int .i64 c,ym cv] w λe w'=>e=.returned (.tuple #[])/\(∃M',fe K (L++R) M'/\up K M'/\bI w' b p (P++(M'++S)) q)/\Below N w w':=by
 obtain⟨D,hD⟩:=ae (P++(L++(R++S)));have be:a+2<=m/\m+2<=c/\c<=n:=by
  simp only[List.length_append] at hn;omega
 obtain⟨d1,a1⟩:∃d1:Nat,d1=m-a:=⟨_,rfl⟩;obtain⟨d2,a4⟩:∃d2:Nat,d2=c-m:=⟨_,rfl⟩;have e1:IntKind.i64.wrap ((m:Int)-(a:Int))=(d1:Int):=by rw[IntWalk.i64_in _ (by omega)];omega
 have e2:IntKind.i64.wrap ((c:Int)-(m:Int))=(d2:Int):=by rw[IntWalk.i64_in _ (by omega)];omega
 have z1:((d1:Int)==1)=false:=by simp;omega
 have z2:((d2:Int)==1)=false:=by simp;omega
 obtain⟨f,av⟩:=ae ((a+c) / 2);obtain⟨Z,aL⟩:=ae (f+m);have e3:((a:Int)+(c:Int)) / 2=(f:Int):=by omega
 have e4:IntKind.i64.wrap ((f:Int)+(m:Int))=(Z:Int):=by rw[IntWalk.i64_in _ (by omega)];omega
 have HO:=aa ho;have T:=aa ha;have HM:=aa hm;have HC:=aa hc;have Hf:=aa av;have O:=aa aL;have a2:=aa hC;have a7:=aa hn;have HL:=aa hL;have HR:=aa hR;have KQ:=aa uL;have KS:=aa uR;have am:=aa ih;have HS:=aa hs;have bd:=h.lt;have bg:a<f/\f<c/\Z<a+c+c/\f<=Z/\m<=Z:=by omega
 rw[<-hD] at h hn;have ah:=aa hD;have HD:=aa h;have GN:=aa hn;clear ho ha hm hc av aL hC hn hL hR uL uR ih hs hD h aZ a5 a1 a4;go_enter func264,ntmps264;go_upto_if 140 with fail;go_cut [20,21] from 141 to 146 (λsv rv wx=>∃s0 r0:Nat,sv=.int .i64 s0/\rv=.int .i64 r0/\a<=s0/\s0<=r0/\r0<=m/\r0<=f/\Z<=s0+c/\(s0=a\/s0+c=Z)/\(r0=m\/r0=f)/\wx=w)
 case first=>
  by_cases bf:f<m
  ·have z3:=eG (show f<m by omega);obtain⟨s0,aY⟩:=ae (Z-c);have e5:IntKind.i64.wrap ((Z:Int)-(c:Int))=(s0:Int):=by rw[IntWalk.i64_in _ (by omega)];have:=O.out;have:=Hf.out;omega
   have Ym:=aa aY;clear aY;go_wp2_with fail;go_meet;exact⟨s0,f,rfl,rfl,by have:=Ym.out;have:=O.out;have:=Hf.out;omega,by have:=Ym.out;have:=O.out;have:=Hf.out;omega,by omega,Nat.le_refl _,by have:=Ym.out;omega,.inr (by have:=Ym.out;have:=O.out;have:=Hf.out;omega),.inr rfl,rfl⟩
  have z3:=gI (show m<=f by omega);go_wp2_with fail;go_meet;exact⟨a,m,rfl,rfl,Nat.le_refl _,by omega,Nat.le_refl _,by omega,by have:=O.out;have:=Hf.out;omega,.inl rfl,.inl rfl,rfl⟩
 case rest=>
  obtain⟨s0,r0,rfl,rfl,b1,b2,b3,b4,b5,b6,b7,a0⟩:=hcut;obtain rfl:wc=w:=a0;obtain⟨pp,Nh⟩:∃pp,Z=pp+1:=⟨Z-1,by omega⟩;have e6:IntKind.i64.wrap ((Z:Int)-1)=(pp:Int):=by rw[IntWalk.i64_in _ (by omega)];omega
  have aq:=aa Nh;have aE:=aa (And.intro b6 b7);have bc:pp<Z:=by omega
  clear b6 b7 Nh;go_wp2_with fail;go_loopw [20,21] (λsv rv wr=>∃s r:Nat,s0<=s/\s<=r/\r<=r0/\sv=.int .i64 s/\rv=.int .i64 r/\(s=s0\/¬K (D.getD (Z-s) 0)<K (D.getD (s-1) 0))/\(r=r0\/K (D.getD (Z-1-r) 0)<K (D.getD r 0))/\bI wr b p D q/\Below N wc wr) (λsv rv _=>(intOf rv).toNat-(intOf sv).toNat)
  case atStart=>exact⟨s0,r0,Nat.le_refl _,b2,Nat.le_refl _,rfl,rfl,.inl rfl,.inl rfl,HD.out,Below.refl _ _⟩
  case round=>
   obtain⟨s1,r1,c1,c2,c3,rfl,rfl,i1,i2,hd,hE⟩:=hrel;have aw:=aa i1;have ax:=aa i2;clear i1 i2;by_cases bb:s1<r1
   ·have z:=eG (show s1<r1 by omega);obtain⟨h,hh⟩:=ae ((s1+r1) / 2);have a_:s1<=h/\h<r1:=by omega
    have e7:((s1:Int)+(r1:Int)) / 2=(h:Int):=by omega
    obtain⟨k,hk⟩:∃k,k+h=pp:=⟨pp-h,by have:=aq.out;have:=O.out;omega⟩;have a9:k<n/\h<n:=by have:=aq.out;have:=O.out;have:=Hf.out;omega
    have e8:IntKind.i64.wrap ((pp:Int)-(h:Int))=(k:Int):=by rw[IntWalk.i64_in _ (by omega)];omega
    have aO:k=Z-1-h/\k=Z-(h+1):=by have:=aq.out;omega
    have ar:m<=k/\k<c/\a<=h/\h<m:=by have:=aq.out;have:=O.out;have:=Hf.out;omega
    have g1:D[k]? = some (D.getD k 0):=getD_at (by rw[GN.out];omega);have g2:D[h]? = some (D.getD h 0):=getD_at (by rw[GN.out];omega);obtain⟨x,hx⟩:=ae (D.getD k 0);obtain⟨y,I⟩:=ae (D.getD h 0);rw[<-hx] at g1;rw[<-I] at g2;have aU:x∈R:=by
     rw[ah.out,List.getElem?_append_right (by have:=T.out;omega),List.getElem?_append_right (by have:=T.out;have:=HM.out;omega),List.getElem?_append_left (by have:=T.out;have:=HM.out;have:=HC.out;omega)] at g1;exact List.mem_of_getElem? g1
    have aK:y∈L:=by
     rw[ah.out,List.getElem?_append_right (by have:=T.out;omega),List.getElem?_append_left (by have:=T.out;have:=HM.out;omega)] at g2;exact List.mem_of_getElem? g2
    have aT:=hd.at (o:=off+k) (by rw[HO.out]) g1;have aP:=hd.at (o:=off+h) (by rw[HO.out]) g2;have E0:=ag wr;have q1:=Gr.cell E0 aT;have q2:=Gr.cell E0 aP;have CC:=aa (a2.out wr.drew (ac.trans hE.drew) x y (HR.out x aU).2 (HL.out y aK).2);obtain⟨cz,aB⟩:=ae (wP (K x) (K y));rw[<-aB] at CC;have NU:=aa (show cz<0↔K x<K y from by rw[aB];exact Aw);have HX:=aa hx;have HY:=aa I;have aG:=aa aO;have a3:=aa hd;have kT:=hd.lt;clear hh hk aO g1 g2 hx I aU aK aT aP aB hd ar;go_wp2_with fail;refine aC (Array.replicate 14 true) 14 0 mixed ?_;refine ay [0,1,2,3,4,5,6,7,8,9,10] 3 ?_
    iterate 11 (refine aA rfl ?_;go_big_quiet_step (rfl))
    refine az ?_;refine aI 11 ?_;go_wp2_with fail;refine CC.out.mono ?_;rintro e w6⟨rfl,au⟩;go_wp2_with fail;refine aF au ?_;refine ay [12,13] 0 ?_
    iterate 2 (refine aA rfl ?_;go_big_quiet_step (rfl))
    refine az ?_;refine aJ [] ?_;refine tail_nil ?_;have aQ:=aa (a3.out.mono (af E0 au));have ji:=(hE.drew).trans (au.mono (by show N<=wr.heap.size;omega));clear q1 q2 CC E0 au hE;by_cases ap:cz<0
    ·have z5:decide (cz<0)=true:=by simp;exact ap
     go_wp2_with fail
     all_goals first|(exfalso;have U:=‹(!decide (cz<0))=true›;rw[z5] at U;exact absurd U (by decide))|skip
     go_roundw
     case rel=>exact⟨s1,h,c1,by omega,by omega,rfl,rfl,aw.out,.inr (by rw[<-aG.out.1,<-HX.out,<-HY.out];exact NU.out.1 ap),aQ.out,ji⟩
     case measure=>simp[intOf];omega
    have z5:decide (cz<0)=false:=by simp;omega
    have z6:0<=cz:=by omega
    go_wp2_with fail
    all_goals first|(exfalso;have U:=‹(!decide (cz<0))=false›;rw[z5] at U;exact absurd U (by decide))|skip
    go_roundw
    case rel=>exact⟨h+1,r1,by omega,by omega,c3,by simp,rfl,.inr (by rw[<-aG.out.2,Nat.add_sub_cancel,<-HX.out,<-HY.out];exact λhk=>ap (NU.out.2 hk)),ax.out,aQ.out,ji⟩
    case measure=>simp[intOf];omega
   have z:=gI (show r1<=s1 by omega);obtain rfl:s1=r1:=by omega
   obtain⟨V,A,M,F,VE,Ca,aV,aD,h1,h2⟩:=Sn (K:=K) T.out HM.out HC.out Hf.out O.out b1 c1 c3 b3 b4 b5 aE.out.1 aE.out.2 (by rw[<-ah.out];exact aw.out) (by rw[<-ah.out];exact ax.out);obtain⟨C,aN⟩:=ae (Z-s1);have ba:m<=C/\C<=c/\C+s1=Z:=by have:=aq.out;have:=O.out;have:=Hf.out;omega
   have e9:IntKind.i64.wrap ((Z:Int)-(s1:Int))=(C:Int):=by rw[IntWalk.i64_in _ (by omega)];omega
   rw[<-aN] at aD;have aW:A.length+s1=m:=by have:=congrArg List.length VE;rw[List.length_append] at this;have:=HM.out;omega
   have aX:F.length+C=c:=by have:=congrArg List.length Ca;rw[List.length_append] at this;have:=HC.out;omega
   have aH:bI wr b p (P++(V++(A++(M++(F++S))))) q:=by
    have:=hd;rw[ah.out,VE,Ca] at this;simpa using this
   have aS:(P++(V++(A++(M++(F++S))))).length=n:=by
    rw[<-GN.out,ah.out,VE,Ca];simp
   have H:=aa VE;have u:=aa Ca;have E:=aa aV;have B:=aa aD;have G:=aa aW;have Qp:=aa aX;have ad:=aa h1;have ab:=aa h2;have v:=aa aH;have BA:=aa aS;have a8:s1<=m/\s1<=f/\a<=s1:=by omega
   clear VE Ca aV aD aW aX h1 h2 aH aS aN hd HD aw ax aE;have aM:=O.out;have sN:=aa aM;clear aM;have a6:C+s1=f+m:=by have:=sN.out;omega
   by_cases k1:s1<m
   ·by_cases k2:m<C
    ·by_cases k3:a<s1
     ·by_cases k4:C<c
      ·have aj:=eG (show s1<m by omega);have an:=eG (show m<C by omega);have ai:=eG (show a<s1 by omega);have ak:=eG (show s1<f by omega);have ao:=eG (show f<C by omega);have al:=eG (show C<c by omega);have l:=v.out;have J:=hE;go_wp2_with fail;refine(wO hN (P++V) A M (F++S) (w:=wr) (by simpa using v.out) (λh=>by rw[h] at G;have:=G.out;simp at this;omega) (λh=>by rw[h] at B;have:=B.out;simp at this;omega) HO.out (by rw[<-BA.out];simp) rW (by rw[List.length_append];have:=E.out;have:=T.out;omega) (by rw[List.length_append];have:=E.out;have:=T.out;have:=G.out;omega) (by rw[List.length_append];have:=E.out;have:=T.out;have:=G.out;have:=B.out;omega) (ym cv)).mono ?_;rintro e w7⟨rfl,X,jh⟩;have Y:=aa (show bI w7 b p (P++(V++(M++(A++(F++S))))) q from by simpa using X);have uK:=hE.trans jh;clear X;clear l J v;go_wp2_with fail;refine(am.out w7 P V M (A++(F++S)) (ac.trans uK) Y.out (by rw[<-BA.out];simp only[List.length_append];omega) (λh=>by rw[h] at E;have:=E.out;simp at this;omega) (λh=>by rw[h] at B;have:=B.out;simp at this;omega) (by have:=E.out;have:=B.out;have:=HS.out;have:=HM.out;have:=HC.out;omega) (λy I=>HL.out y (by rw[H.out];exact List.mem_append_left _ I)) (λy I=>HR.out y (by rw[u.out];exact List.mem_append_left _ I)) (by have:=KQ.out;rw[H.out] at this;exact(aR.1 this).1) (by have:=KS.out;rw[u.out] at this;exact(aR.1 this).1) a s1 f T.out (by have:=E.out;omega) (by have:=B.out;have:=O.out;omega)).mono ?_;rintro e w8⟨rfl,⟨t,t1,t2,Fz⟩,iH⟩;have g:=aa (And.intro t1 t2);have Jc:=aa Fz;have kL:=uK.trans iH;clear t1 t2 Fz;have KO:=aa (show t.length+a=f from by have i:=g.out.1.len;rw[List.length_append] at i;have:=E.out;have:=B.out;have:=O.out;omega);clear Y;go_wp2_with fail;refine(am.out w8 (P++t) A F S (ac.trans kL) (by simpa using Jc.out) (by rw[<-BA.out];have i:=g.out.1.len;simp only[List.length_append] at i⊢;omega) (λh=>by rw[h] at G;have:=G.out;simp at this;omega) (λh=>by rw[h] at Qp;have:=Qp.out;simp at this;omega) (by have:=G.out;have:=Qp.out;have:=HS.out;have:=HM.out;have:=HC.out;omega) (λy I=>HL.out y (by rw[H.out];exact List.mem_append_right _ I)) (λy I=>HR.out y (by rw[u.out];exact List.mem_append_right _ I)) (by have:=KQ.out;rw[H.out] at this;exact(aR.1 this).2.1) (by have:=KS.out;rw[u.out] at this;exact(aR.1 this).2.1) f C c (by rw[List.length_append,<-T.out];have:=KO.out;omega) (by have:=G.out;have:=O.out;omega) (by have:=Qp.out;omega)).mono ?_;rintro e w9⟨rfl,⟨Q,t1,t2,Zq⟩,kT⟩;have j:=aa (And.intro t1 t2);have Sr:=aa (show bI w9 b p (P++(t++(Q++S))) q from by simpa using Zq);have yf:=kL.trans kT;clear t1 t2 Zq;go_wp2_with fail;have d:=iI (by have:=KQ.out;rw[H.out] at this;exact this) (by have:=KS.out;rw[u.out] at this;exact this) (λx hx=>(HR.out x (by rw[u.out];exact List.mem_append_left _ hx)).1) ad.out ab.out g.out.1 j.out.1 g.out.2 j.out.2;rw[<-H.out,<-u.out] at d
       go_end0
       exact⟨rfl,⟨_,d.1,d.2,by have:=Sr.out;simpa using this⟩,yf⟩
      have aj:=eG (show s1<m by omega);have an:=eG (show m<C by omega);have ai:=eG (show a<s1 by omega);have ak:=eG (show s1<f by omega);have ao:=eG (show f<C by omega);have al:=gI (show c<=C by omega);have l:=v.out;have J:=hE;go_wp2_with fail;refine(wO hN (P++V) A M (F++S) (w:=wr) (by simpa using v.out) (λh=>by rw[h] at G;have:=G.out;simp at this;omega) (λh=>by rw[h] at B;have:=B.out;simp at this;omega) HO.out (by rw[<-BA.out];simp) rW (by rw[List.length_append];have:=E.out;have:=T.out;omega) (by rw[List.length_append];have:=E.out;have:=T.out;have:=G.out;omega) (by rw[List.length_append];have:=E.out;have:=T.out;have:=G.out;have:=B.out;omega) (ym cv)).mono ?_;rintro e w7⟨rfl,X,jh⟩;have Y:=aa (show bI w7 b p (P++(V++(M++(A++(F++S))))) q from by simpa using X);have uK:=hE.trans jh;clear X;clear l J v;go_wp2_with fail;refine(am.out w7 P V M (A++(F++S)) (ac.trans uK) Y.out (by rw[<-BA.out];simp only[List.length_append];omega) (λh=>by rw[h] at E;have:=E.out;simp at this;omega) (λh=>by rw[h] at B;have:=B.out;simp at this;omega) (by have:=E.out;have:=B.out;have:=HS.out;have:=HM.out;have:=HC.out;omega) (λy I=>HL.out y (by rw[H.out];exact List.mem_append_left _ I)) (λy I=>HR.out y (by rw[u.out];exact List.mem_append_left _ I)) (by have:=KQ.out;rw[H.out] at this;exact(aR.1 this).1) (by have:=KS.out;rw[u.out] at this;exact(aR.1 this).1) a s1 f T.out (by have:=E.out;omega) (by have:=B.out;have:=O.out;omega)).mono ?_;rintro e w8⟨rfl,⟨t,t1,t2,Fz⟩,iH⟩;have g:=aa (And.intro t1 t2);have Jc:=aa Fz;have kL:=uK.trans iH;clear t1 t2 Fz;have KO:=aa (show t.length+a=f from by have i:=g.out.1.len;rw[List.length_append] at i;have:=E.out;have:=B.out;have:=O.out;omega);clear Y;obtain⟨Q,j,Sr⟩:∃Q,Hid (fe K (A++F) Q/\up K Q)/\Hid (bI w8 b p (P++(t++(Q++S))) q):=by
       have U:F=[]:=List.length_eq_zero_iff.1 (by have:=Qp.out;omega);have i:=KQ.out;rw[H.out] at i;have W:=Jc.out;rw[U] at W⊢;exact⟨A,aa ⟨by rw[List.append_nil];exact fe.refl _,(aR.1 i).2.1⟩,aa (by simpa using W)⟩
      have yf:=kL;go_wp2_with fail;have d:=iI (by have:=KQ.out;rw[H.out] at this;exact this) (by have:=KS.out;rw[u.out] at this;exact this) (λx hx=>(HR.out x (by rw[u.out];exact List.mem_append_left _ hx)).1) ad.out ab.out g.out.1 j.out.1 g.out.2 j.out.2;rw[<-H.out,<-u.out] at d
      go_end0
      exact⟨rfl,⟨_,d.1,d.2,by have:=Sr.out;simpa using this⟩,yf⟩
     by_cases k4:C<c
     ·have aj:=eG (show s1<m by omega);have an:=eG (show m<C by omega);have ai:=gI (show s1<=a by omega);have ak:=eG (show s1<f by omega);have ao:=eG (show f<C by omega);have al:=eG (show C<c by omega);have l:=v.out;have J:=hE;go_wp2_with fail;refine(wO hN (P++V) A M (F++S) (w:=wr) (by simpa using v.out) (λh=>by rw[h] at G;have:=G.out;simp at this;omega) (λh=>by rw[h] at B;have:=B.out;simp at this;omega) HO.out (by rw[<-BA.out];simp) rW (by rw[List.length_append];have:=E.out;have:=T.out;omega) (by rw[List.length_append];have:=E.out;have:=T.out;have:=G.out;omega) (by rw[List.length_append];have:=E.out;have:=T.out;have:=G.out;have:=B.out;omega) (ym cv)).mono ?_;rintro e w7⟨rfl,X,jh⟩;have Y:=aa (show bI w7 b p (P++(V++(M++(A++(F++S))))) q from by simpa using X);have uK:=hE.trans jh;clear X;clear l J v;obtain⟨t,g,Jc⟩:∃t,Hid (fe K (V++M) t/\up K t)/\Hid (bI w7 b p (P++(t++(A++(F++S)))) q):=by
       have U:V=[]:=List.length_eq_zero_iff.1 (by have:=E.out;omega);have i:=KS.out;rw[u.out] at i;have W:=Y.out;rw[U] at W⊢;exact⟨M,aa ⟨fe.refl _,(aR.1 i).1⟩,aa W⟩
      have kL:=uK;have KO:=aa (show t.length+a=f from by have i:=g.out.1.len;rw[List.length_append] at i;have:=E.out;have:=B.out;have:=O.out;omega);clear Y;go_wp2_with fail;refine(am.out w7 (P++t) A F S (ac.trans kL) (by simpa using Jc.out) (by rw[<-BA.out];have i:=g.out.1.len;simp only[List.length_append] at i⊢;omega) (λh=>by rw[h] at G;have:=G.out;simp at this;omega) (λh=>by rw[h] at Qp;have:=Qp.out;simp at this;omega) (by have:=G.out;have:=Qp.out;have:=HS.out;have:=HM.out;have:=HC.out;omega) (λy I=>HL.out y (by rw[H.out];exact List.mem_append_right _ I)) (λy I=>HR.out y (by rw[u.out];exact List.mem_append_right _ I)) (by have:=KQ.out;rw[H.out] at this;exact(aR.1 this).2.1) (by have:=KS.out;rw[u.out] at this;exact(aR.1 this).2.1) f C c (by rw[List.length_append,<-T.out];have:=KO.out;omega) (by have:=G.out;have:=O.out;omega) (by have:=Qp.out;omega)).mono ?_;rintro e w9⟨rfl,⟨Q,t1,t2,Zq⟩,kT⟩;have j:=aa (And.intro t1 t2);have Sr:=aa (show bI w9 b p (P++(t++(Q++S))) q from by simpa using Zq);have yf:=kL.trans kT;clear t1 t2 Zq;go_wp2_with fail;have d:=iI (by have:=KQ.out;rw[H.out] at this;exact this) (by have:=KS.out;rw[u.out] at this;exact this) (λx hx=>(HR.out x (by rw[u.out];exact List.mem_append_left _ hx)).1) ad.out ab.out g.out.1 j.out.1 g.out.2 j.out.2;rw[<-H.out,<-u.out] at d
      go_end0
      exact⟨rfl,⟨_,d.1,d.2,by have:=Sr.out;simpa using this⟩,yf⟩
     have aj:=eG (show s1<m by omega);have an:=eG (show m<C by omega);have ai:=gI (show s1<=a by omega);have ak:=eG (show s1<f by omega);have ao:=eG (show f<C by omega);have al:=gI (show c<=C by omega);have l:=v.out;have J:=hE;go_wp2_with fail;refine(wO hN (P++V) A M (F++S) (w:=wr) (by simpa using v.out) (λh=>by rw[h] at G;have:=G.out;simp at this;omega) (λh=>by rw[h] at B;have:=B.out;simp at this;omega) HO.out (by rw[<-BA.out];simp) rW (by rw[List.length_append];have:=E.out;have:=T.out;omega) (by rw[List.length_append];have:=E.out;have:=T.out;have:=G.out;omega) (by rw[List.length_append];have:=E.out;have:=T.out;have:=G.out;have:=B.out;omega) (ym cv)).mono ?_;rintro e w7⟨rfl,X,jh⟩;have Y:=aa (show bI w7 b p (P++(V++(M++(A++(F++S))))) q from by simpa using X);have uK:=hE.trans jh;clear X;clear l J v;obtain⟨t,g,Jc⟩:∃t,Hid (fe K (V++M) t/\up K t)/\Hid (bI w7 b p (P++(t++(A++(F++S)))) q):=by
      have U:V=[]:=List.length_eq_zero_iff.1 (by have:=E.out;omega);have i:=KS.out;rw[u.out] at i;have W:=Y.out;rw[U] at W⊢;exact⟨M,aa ⟨fe.refl _,(aR.1 i).1⟩,aa W⟩
     have kL:=uK;have KO:=aa (show t.length+a=f from by have i:=g.out.1.len;rw[List.length_append] at i;have:=E.out;have:=B.out;have:=O.out;omega);clear Y;obtain⟨Q,j,Sr⟩:∃Q,Hid (fe K (A++F) Q/\up K Q)/\Hid (bI w7 b p (P++(t++(Q++S))) q):=by
      have U:F=[]:=List.length_eq_zero_iff.1 (by have:=Qp.out;omega);have i:=KQ.out;rw[H.out] at i;have W:=Jc.out;rw[U] at W⊢;exact⟨A,aa ⟨by rw[List.append_nil];exact fe.refl _,(aR.1 i).2.1⟩,aa (by simpa using W)⟩
     have yf:=kL;go_wp2_with fail;have d:=iI (by have:=KQ.out;rw[H.out] at this;exact this) (by have:=KS.out;rw[u.out] at this;exact this) (λx hx=>(HR.out x (by rw[u.out];exact List.mem_append_left _ hx)).1) ad.out ab.out g.out.1 j.out.1 g.out.2 j.out.2;rw[<-H.out,<-u.out] at d
     go_end0
     exact⟨rfl,⟨_,d.1,d.2,by have:=Sr.out;simpa using this⟩,yf⟩
    have aj:=eG (show s1<m by omega);have an:=gI (show C<=m by omega);have ai:=eG (show a<s1 by omega);have ak:=gI (show f<=s1 by omega);have ao:=eG (show f<C by omega);have al:=eG (show C<c by omega);have l:=v.out;have J:=hE;have Y:=aa (show bI wr b p (P++(V++(M++(A++(F++S))))) q from by have U:=B.out;rw[show M=[] from List.length_eq_zero_iff.1 (by omega)];rw[show M=[] from List.length_eq_zero_iff.1 (by omega)] at l;simpa using l);have uK:=hE;clear l J v;obtain⟨t,g,Jc⟩:∃t,Hid (fe K (V++M) t/\up K t)/\Hid (bI wr b p (P++(t++(A++(F++S)))) q):=by
     have U:M=[]:=List.length_eq_zero_iff.1 (by have:=B.out;omega);have i:=KQ.out;rw[H.out] at i;have W:=Y.out;rw[U] at W⊢;exact⟨V,aa ⟨by rw[List.append_nil];exact fe.refl _,(aR.1 i).1⟩,aa (by simpa using W)⟩
    have kL:=uK;have KO:=aa (show t.length+a=f from by have i:=g.out.1.len;rw[List.length_append] at i;have:=E.out;have:=B.out;have:=O.out;omega);clear Y;go_wp2_with fail;refine(am.out wr (P++t) A F S (ac.trans kL) (by simpa using Jc.out) (by rw[<-BA.out];have i:=g.out.1.len;simp only[List.length_append] at i⊢;omega) (λh=>by rw[h] at G;have:=G.out;simp at this;omega) (λh=>by rw[h] at Qp;have:=Qp.out;simp at this;omega) (by have:=G.out;have:=Qp.out;have:=HS.out;have:=HM.out;have:=HC.out;omega) (λy I=>HL.out y (by rw[H.out];exact List.mem_append_right _ I)) (λy I=>HR.out y (by rw[u.out];exact List.mem_append_right _ I)) (by have:=KQ.out;rw[H.out] at this;exact(aR.1 this).2.1) (by have:=KS.out;rw[u.out] at this;exact(aR.1 this).2.1) f C c (by rw[List.length_append,<-T.out];have:=KO.out;omega) (by have:=G.out;have:=O.out;omega) (by have:=Qp.out;omega)).mono ?_;rintro e w9⟨rfl,⟨Q,t1,t2,Zq⟩,kT⟩;have j:=aa (And.intro t1 t2);have Sr:=aa (show bI w9 b p (P++(t++(Q++S))) q from by simpa using Zq);have yf:=kL.trans kT;clear t1 t2 Zq;go_wp2_with fail;have d:=iI (by have:=KQ.out;rw[H.out] at this;exact this) (by have:=KS.out;rw[u.out] at this;exact this) (λx hx=>(HR.out x (by rw[u.out];exact List.mem_append_left _ hx)).1) ad.out ab.out g.out.1 j.out.1 g.out.2 j.out.2;rw[<-H.out,<-u.out] at d
    go_end0
    exact⟨rfl,⟨_,d.1,d.2,by have:=Sr.out;simpa using this⟩,yf⟩
   by_cases k2:m<C
   ·have aj:=gI (show m<=s1 by omega);have an:=eG (show m<C by omega);have ai:=eG (show a<s1 by omega);have ak:=eG (show s1<f by omega);have ao:=gI (show C<=f by omega);have al:=eG (show C<c by omega);have l:=v.out;have J:=hE;have Y:=aa (show bI wr b p (P++(V++(M++(A++(F++S))))) q from by have U:=G.out;rw[show A=[] from List.length_eq_zero_iff.1 (by omega)];rw[show A=[] from List.length_eq_zero_iff.1 (by omega)] at l;simpa using l);have uK:=hE;clear l J v;go_wp2_with fail;refine(am.out wr P V M (A++(F++S)) (ac.trans uK) Y.out (by rw[<-BA.out];simp only[List.length_append];omega) (λh=>by rw[h] at E;have:=E.out;simp at this;omega) (λh=>by rw[h] at B;have:=B.out;simp at this;omega) (by have:=E.out;have:=B.out;have:=HS.out;have:=HM.out;have:=HC.out;omega) (λy I=>HL.out y (by rw[H.out];exact List.mem_append_left _ I)) (λy I=>HR.out y (by rw[u.out];exact List.mem_append_left _ I)) (by have:=KQ.out;rw[H.out] at this;exact(aR.1 this).1) (by have:=KS.out;rw[u.out] at this;exact(aR.1 this).1) a s1 f T.out (by have:=E.out;omega) (by have:=B.out;have:=O.out;omega)).mono ?_;rintro e w8⟨rfl,⟨t,t1,t2,Fz⟩,iH⟩;have g:=aa (And.intro t1 t2);have Jc:=aa Fz;have kL:=uK.trans iH;clear t1 t2 Fz;have KO:=aa (show t.length+a=f from by have i:=g.out.1.len;rw[List.length_append] at i;have:=E.out;have:=B.out;have:=O.out;omega);clear Y;obtain⟨Q,j,Sr⟩:∃Q,Hid (fe K (A++F) Q/\up K Q)/\Hid (bI w8 b p (P++(t++(Q++S))) q):=by
     have U:A=[]:=List.length_eq_zero_iff.1 (by have:=G.out;have:=O.out;omega);have i:=KS.out;rw[u.out] at i;have W:=Jc.out;rw[U] at W⊢;exact⟨F,aa ⟨fe.refl _,(aR.1 i).2.1⟩,aa W⟩
    have yf:=kL;go_wp2_with fail;have d:=iI (by have:=KQ.out;rw[H.out] at this;exact this) (by have:=KS.out;rw[u.out] at this;exact this) (λx hx=>(HR.out x (by rw[u.out];exact List.mem_append_left _ hx)).1) ad.out ab.out g.out.1 j.out.1 g.out.2 j.out.2;rw[<-H.out,<-u.out] at d
    go_end0
    exact⟨rfl,⟨_,d.1,d.2,by have:=Sr.out;simpa using this⟩,yf⟩
   have aj:=gI (show m<=s1 by omega);have an:=gI (show C<=m by omega);have ai:=eG (show a<s1 by omega);have ak:=gI (show f<=s1 by omega);have ao:=gI (show C<=f by omega);have al:=eG (show C<c by omega);have l:=v.out;have J:=hE;have Y:=aa (show bI wr b p (P++(V++(M++(A++(F++S))))) q from by have U:=G.out;rw[show A=[] from List.length_eq_zero_iff.1 (by omega)];rw[show A=[] from List.length_eq_zero_iff.1 (by omega)] at l;simpa using l);have uK:=hE;clear l J v;obtain⟨t,g,Jc⟩:∃t,Hid (fe K (V++M) t/\up K t)/\Hid (bI wr b p (P++(t++(A++(F++S)))) q):=by
    have U:M=[]:=List.length_eq_zero_iff.1 (by have:=B.out;omega);have i:=KQ.out;rw[H.out] at i;have W:=Y.out;rw[U] at W⊢;exact⟨V,aa ⟨by rw[List.append_nil];exact fe.refl _,(aR.1 i).1⟩,aa (by simpa using W)⟩
   have kL:=uK;have KO:=aa (show t.length+a=f from by have i:=g.out.1.len;rw[List.length_append] at i;have:=E.out;have:=B.out;have:=O.out;omega);clear Y;obtain⟨Q,j,Sr⟩:∃Q,Hid (fe K (A++F) Q/\up K Q)/\Hid (bI wr b p (P++(t++(Q++S))) q):=by
    have U:A=[]:=List.length_eq_zero_iff.1 (by have:=G.out;have:=O.out;omega);have i:=KS.out;rw[u.out] at i;have W:=Jc.out;rw[U] at W⊢;exact⟨F,aa ⟨fe.refl _,(aR.1 i).2.1⟩,aa W⟩
   have yf:=kL;go_wp2_with fail;have d:=iI (by have:=KQ.out;rw[H.out] at this;exact this) (by have:=KS.out;rw[u.out] at this;exact this) (λx hx=>(HR.out x (by rw[u.out];exact List.mem_append_left _ hx)).1) ad.out ab.out g.out.1 j.out.1 g.out.2 j.out.2;rw[<-H.out,<-u.out] at d
   go_end0
   exact⟨rfl,⟨_,d.1,d.2,by have:=Sr.out;simpa using this⟩,yf⟩
def KT {z:World} (e:N<=b) {E:Value} (f:zO z N K E) (g:off=p.length) (d:n<1000000):∀s,afz z N K E b p q off n cap s
 | 0=>λw P L R S _ _ _ o v D=>by
   have:=List.length_pos_iff.2 o;have:=List.length_pos_iff.2 v;omega
 | s+1=>λw P L R S k h r o v D u i A B a m c j l t=>by
   have:=List.length_pos_iff.2 o;have:=List.length_pos_iff.2 v;by_cases C:L.length=1
   ·obtain⟨x,rfl⟩:=List.length_eq_one_iff.1 C;exact Sk e f k P x R S (by simpa using h) i B (u x (by simp)).2 g (by simpa using r) d j l t
   by_cases G:R.length=1
   ·obtain⟨x,rfl⟩:=List.length_eq_one_iff.1 G;exact Sm e f k P x L S (by simpa using h) (λy F=>(u y F).2) A (i x (by simp)) C g (by simpa using r) d j l (by simpa using t)
   exact Sq e f g d (KT e f g d s) w P L R S k h r (by omega) (by omega) D u i A B a m c j l t
def VG (K:Nat->Nat) (k:Nat) (Bs:List (List Nat)):Prop:=∀B∈Bs,B.length=k/\up K B
def VG.len :∀{Bs:List (List Nat)},VG K k Bs->Bs.flatten.length=Bs.length*k
 | [],_=>by simp
 | B::Bs,h=>by
   have a:=VG.len (Bs:=Bs) λC b=>h C (by simp[b]);rw[List.flatten_cons,List.length_append,a,(h B (by simp)).1,List.length_cons,Nat.add_mul];omega
def VG.snoc {Bs:List (List Nat)} (h:VG K k Bs) {B:List Nat} (b:B.length=k) (c:up K B):VG K k (Bs++[B]):=λC a=>by
 rcases List.mem_append.1 a with a|a
 ·exact h C a
 rw[List.mem_singleton.1 a];exact⟨b,c⟩
def yu (K:Nat->Nat) (k:Nat) (l:List Nat):Prop:=∃Bs R,l=Bs.flatten++R/\VG K k Bs/\R.length<k/\up K R
def yu.done {l:List Nat} (h:yu K k l) (a:l.length<=k) (d:0<k):up K l:=by
 obtain⟨Bs,R,rfl,b,e,c⟩:=h;rw[List.length_append,b.len] at a
 match Bs,b,a with
 | [],_,_=>simpa using c
 | [B],b,a=>
   have:R=[]:=List.length_eq_zero_iff.1 (by simp at a;omega);rw[this];simpa using (b B (by simp)).2
 | B::C::Bs,_,a=>
   exfalso;simp only[List.length_cons] at a;rw[Nat.add_mul,Nat.add_mul] at a;omega
def KU (hN:N<=b) (hC:zO w0 N K cv) (ab:Below N w0 w) (M:List Nat) (h:bI w b p M q) (hM:∀x∈M,0<K x/\x<1114112) (ho:off=p.length) (hn:M.length=n) (rW:n<1000000) :
 Calls prog 238 #[.slice (some ⟨b,off,none⟩) n cap,.int .i64 n,ym cv] w λe w'=>e=.returned (.tuple #[])/\(∃i,fe K M i/\up K i/\bI w' b p i q)/\Below N w w':=by
 have SY:=KT hN hC (q:=q) (cap:=cap) ho rW;have IN:=λ(W:World) (l:Below N w0 W) (P L S:List Nat) (h:bI W b p (P++(L++S)) q) (hM:∀x∈L,0<K x/\x<1114112) (hn:(P++(L++S)).length=n) (a c:Nat) (ha:a=P.length) (hc:c=P.length+L.length)=>VC (w:=W) hN hC l (by have:=h.lt;omega) P L S h hM ho hn rW (cap:=cap) ha hc;have HD:=aa h;have nR:=aa hn;have HM:=aa hM;have aI:=aa SY;have ap:=aa IN;have aY:=h.lt;clear ho h hn hM hC SY IN;go_enter func238,ntmps238;go_wp2;go_loopw [7,8] (λav bv wr=>∃a g:Nat,av=.int .i64 a/\bv=.int .i64 g/\g=a+20/\a<=n/\(∃Bs R i,i=Bs.flatten++R/\VG K 20 Bs/\Bs.flatten.length=a/\fe K M i/\bI wr b p i q)/\Below N w wr) (λav _ _=>n-(intOf av).toNat)
 case atStart=>exact⟨0,20,rfl,rfl,rfl,Nat.zero_le _,⟨[],M,M,rfl,λ_ h=>(by cases h),rfl,fe.refl _,HD.out⟩,Below.refl _ _⟩
 case round=>
  obtain⟨a,g,rfl,rfl,ao,a0,⟨Bs,R,i,aj,hB,al,Q,hd⟩,l⟩:=hrel;have kz:(Bs.flatten++R).length=n:=by rw[<-aj,Q.len];exact nR.out
  have aS:a+R.length=n:=by rw[List.length_append,al] at kz;exact kz
  have ER:=aa kz;have HB:=aa hB;have O:=aa al;have HS:=aa Q;have Rt:=aa aj;have m:∀x∈i,0<K x/\x<1114112:=λx Z=>HM.out x (Q.mem.1 Z);have D5:=aa m;have A:=aa hd;clear kz hB al Q aj m hd;by_cases aP:g<=n
  ·have z:decide ((g:Int)<=(n:Int))=true:=by simp;omega
   obtain⟨R1,R2,Ca,ai⟩:∃R1 R2,R=R1++R2/\R1.length=20:=⟨R.take 20,R.drop 20,(List.take_append_drop _ _).symm,by rw[List.length_take];omega⟩;have E:=aa (ap.out wr (ab.trans l) Bs.flatten R1 R2 (by rw[<-Ca,<-Rt.out];exact A.out) (λx Z=>D5.out x (by rw[Rt.out,Ca];simp[Z])) (by rw[<-Ca];exact ER.out) a g O.out.symm (by rw[O.out,ai];exact ao));have fC:=aa Ca;have aG:=aa ai;obtain⟨ax,az⟩:=ae (g+20);have e1:IntKind.i64.wrap ((g:Int)+20)=(ax:Int):=by rw[IntWalk.i64_in _ (by omega)];omega
   have ar:=aa az;have aA:=aa ao;clear Ca ai az ao;go_wp2_with fail;refine E.out.mono ?_;rintro e w6⟨rfl,⟨G,s1,s2,D⟩,ac⟩;have Zr:=aa s1;have ah:=aa s2;have aV:=aa D;clear s1 s2 D E;go_wp2_with fail;go_roundw
   case rel=>
    refine⟨g,ax,rfl,by first|rfl|(rw[ar.out];go_num),ar.out,aP,⟨Bs++[G],R2,_,rfl,HB.out.snoc (by rw[Zr.out.len];exact aG.out) ah.out,?_,HS.out.trans ?_,?_⟩,l.trans ac⟩
    ·rw[List.flatten_append,List.length_append,O.out];simp;rw[Zr.out.len,aG.out,aA.out]
    ·rw[Rt.out,fC.out];have:=(fe.refl (K:=K) Bs.flatten).app (Zr.out.app (fe.refl R2));simpa using this
    simpa using aV.out
   case measure=>have:=aA.out;simp[intOf];omega
  have z:decide ((g:Int)<=(n:Int))=false:=by simp;omega
  have E:=aa (ap.out wr (ab.trans l) Bs.flatten R [] (by have:=A.out;rw[Rt.out] at this;simpa using this) (λx Z=>D5.out x (by rw[Rt.out];simp[Z])) (by simpa using ER.out) a n O.out.symm (by rw[O.out];exact aS.symm));go_wp2_with fail;refine E.out.mono ?_;rintro e w6⟨rfl,⟨G,s1,s2,D⟩,ac⟩;have Y0:=aa (show yu K 20 (Bs.flatten++G)/\fe K M (Bs.flatten++G)/\bI w6 b p (Bs.flatten++G) q from ⟨⟨Bs,G,rfl,HB.out,by rw[s1.len];omega,s2⟩,HS.out.trans (by rw[Rt.out];exact(fe.refl _).app s1),by simpa using D⟩);have ji:=l.trans ac;clear s1 s2 D E ac l A D5 HS Rt;go_wp2_with fail;obtain⟨wi,rfl⟩:∃wi:World,wi=w6:=⟨_,rfl⟩;go_loopw [6,7,8,9] (λkv _ _ _ wr=>∃k:Nat,kv=.int .i64 k/\0<k/\k<=2*n+20/\(∃i,yu K k i/\fe K M i/\bI wr b p i q)/\Below N w wr) (λkv _ _ _ _=>n-(intOf kv).toNat)
  case atStart=>exact⟨20,rfl,by decide,by omega,⟨_,Y0.out.1,Y0.out.2.1,Y0.out.2.2⟩,ji⟩
  case round=>
   clear ji;obtain⟨k,rfl,aM,a6,⟨M1,hr,Q,hd⟩,l⟩:=hrel;have aH:M1.length=n:=by rw[Q.len];exact nR.out
   by_cases aX:k<n
   ·have z8:=eG (show k<n by omega);obtain⟨B0,I,aB,aD,a7,aw⟩:=hr;obtain⟨v,au⟩:=ae (2*k);have e2:IntKind.i64.wrap (2*(k:Int))=(v:Int):=by rw[IntWalk.i64_in _ (by omega)];omega
    have aZ:IntKind.i64.wrap ((k:Int)*2)=(v:Int):=by rw[IntWalk.i64_in _ (by omega)];omega
    have s:=aa au;have KO:=aa aB;have aL:=aa aD;have aq:=aa aw;have HS:=aa Q;have A:=aa hd;have m:∀x∈M1,0<K x/\x<1114112:=λx Z=>HM.out x (Q.mem.1 Z);have D5:=aa m;have a5:=aa aH;have a3:v<=2*n/\k<v:=by omega
    clear au aB aD aw Q hd m aH;go_wp2_with fail;obtain⟨wo,aN⟩:∃wo:World,wo=wr:=⟨_,rfl⟩;subst aN;go_loopw [7,8] (λav bv wr=>∃a T:Nat,av=.int .i64 a/\bv=.int .i64 T/\T=a+v/\a<=n/\(∃r Bs,VG K v r/\VG K k Bs/\r.flatten.length=a/\fe K M (r.flatten++(Bs.flatten++I))/\bI wr b p (r.flatten++(Bs.flatten++I)) q)/\Below N w wr) (λav _ _=>n-(intOf av).toNat)
    case atStart=>exact⟨0,v,rfl,rfl,by omega,Nat.zero_le _,⟨[],B0,λ_ h=>(by cases h),aL.out,rfl,by have:=HS.out;rw[KO.out] at this;simpa using this,by have:=A.out;rw[KO.out] at this;simpa using this⟩,l⟩
    case round=>
     clear l;obtain⟨a,T,rfl,rfl,H,a1,⟨r,Zt,Y,d,an,o,u⟩,l⟩:=hrel;have ad:(r.flatten++(Zt.flatten++I)).length=n:=by rw[o.len];exact nR.out
     have aE:=d.len;have Ob:a+Zt.length*k+I.length=n:=by
      simp only[List.length_append] at ad;rw[an,aE] at ad;omega
     have J:∀x∈r.flatten++(Zt.flatten++I),0<K x/\x<1114112:=λx Z=>HM.out x (o.mem.1 Z);have Si:=aa J;have ag:=aa an;have BA:=aa ad;clear J an ad aE;by_cases aK:T<=n
     ·have z9:decide ((T:Int)<=(n:Int))=true:=by simp;omega
      obtain⟨j,B2,V,rfl⟩:∃j B2 V,Zt=j::B2::V:=by
       match Zt,Ob with
       | [],h=>exfalso;simp at h;omega
       | [j],h=>exfalso;have:=s.out;simp at h;omega
       | j::B2::V,_=>exact⟨j,B2,V,rfl⟩
      obtain⟨f,B⟩:=d j (by simp);obtain⟨F,ay⟩:=d B2 (by simp);obtain⟨X,t⟩:=ae (a+k);obtain⟨a4,aJ⟩:=ae (T+v);have e3:IntKind.i64.wrap ((a:Int)+(k:Int))=(X:Int):=by rw[IntWalk.i64_in _ (by omega)];omega
      have e4:IntKind.i64.wrap ((T:Int)+(v:Int))=(a4:Int):=by rw[IntWalk.i64_in _ (by omega)];omega
      have E:=aa (aI.out (k+k) wr r.flatten j B2 (V.flatten++I) (ab.trans l) (by simpa using u) (by have:=BA.out;simpa using this) (by intro h;rw[h] at f;simp at f;omega) (by intro h;rw[h] at F;simp at F;omega) (by omega) (λy hy=>Si.out y (by simp[hy])) (λy hy=>Si.out y (by simp[hy])) B ay a X T ag.out.symm (by rw[t,f]) (by rw[H,s.out,t,F];omega));have aW:=aa d;have ak:=aa o;have af:=aa f;have aF:=aa F;have aC:=aa H;have aU:=aa aJ;clear d o u f F B ay t H aJ Ob;go_wp2_with fail;refine E.out.mono ?_;rintro e w8⟨rfl,⟨G,s1,s2,Fz⟩,iH⟩;have Zr:=aa s1;have ah:=aa s2;have aO:=aa Fz;clear s1 s2 Fz E;go_wp2_with fail;go_roundw
      case rel=>
       refine⟨T,a4,rfl,rfl,aU.out,aK,⟨r++[G],V,VG.snoc (by assumption) (by rw[Zr.out.len,List.length_append,af.out,aF.out,s.out];omega) ah.out,λC hC=>aW.out C (by simp[hC]),?_,ak.out.trans ?_,by simpa using aO.out⟩,l.trans iH⟩
       ·rw[List.flatten_append,List.length_append,ag.out];simp;rw[Zr.out.len,List.length_append,af.out,aF.out,aC.out,s.out];omega
       have:=(fe.refl (K:=K) r.flatten).app (Zr.out.app (fe.refl (V.flatten++I)));simpa using this
      case measure=>have:=aC.out;simp[intOf];omega
     have z9:decide ((T:Int)<=(n:Int))=false:=by simp;omega
     obtain⟨X,t⟩:=ae (a+k);have e3:IntKind.i64.wrap ((a:Int)+(k:Int))=(X:Int):=by rw[IntWalk.i64_in _ (by omega)];omega
     by_cases Ja:X<n
     ·have aQ:=eG (show X<n by omega);obtain⟨j,rfl⟩:∃j,Zt=[j]:=by
       match Zt,Ob with
       | [],h=>exfalso;simp at h;omega
       | [j],_=>exact⟨j,rfl⟩
       | j::B2::V,h=>exfalso;have:=s.out;simp only[List.length_cons] at h;rw[Nat.add_mul,Nat.add_mul] at h;omega
      obtain⟨f,B⟩:=d j (by simp);have U:X+I.length=n:=by simp at Ob;omega
      have E:=aa (aI.out (k+k) wr r.flatten j I [] (ab.trans l) (by simpa using u) (by have:=BA.out;simpa using this) (by intro h;rw[h] at f;simp at f;omega) (by intro h;rw[h] at U;simp at U;omega) (by omega) (λy hy=>Si.out y (by simp[hy])) (λy hy=>Si.out y (by simp[hy])) B aq.out a X n ag.out.symm (by rw[t,f]) U.symm);have aT:=aa Y;have ak:=aa o;have af:=aa f;clear d Y o u f B t H Ob U;go_wp2_with fail;refine E.out.mono ?_;rintro e w8⟨rfl,⟨G,s1,s2,Fz⟩,iH⟩
      have qY:=aa (show ∃i,yu K v i/\fe K M i/\bI w8 b p i q from ⟨r.flatten++G,⟨r,G,rfl,aT.out,by rw[s1.len,List.length_append,af.out,s.out];omega,s2⟩,ak.out.trans (by
       have:=(fe.refl (K:=K) r.flatten).app s1
       simpa using this),by simpa using Fz⟩)
      clear s1 s2 Fz E;go_wp2_with fail;go_roundw
      case rel=>exact⟨v,rfl,by omega,by omega,qY.out,l.trans iH⟩
      case measure=>simp[intOf];omega
     have aQ:=gI (show n<=X by omega)
     have qY:=aa (show ∃i,yu K v i/\fe K M i/\bI wr b p i q from by
      refine⟨_,⟨r,Zt.flatten++I,rfl,Y,?_,?_⟩,o,u⟩
      ·rw[List.length_append,d.len];omega
      match Zt,Ob,d with
      | [],_,_=>simpa using aq.out
      | [j],h,d=>
        have:I=[]:=List.length_eq_zero_iff.1 (by simp at h;omega);rw[this];simpa using (d j (by simp)).2
      | j::B2::V,h,_=>exfalso;have:=s.out;simp only[List.length_cons] at h;rw[Nat.add_mul,Nat.add_mul] at h;omega)
     clear d Y o u t H Ob;go_wp2_with fail;go_roundw
     case rel=>exact⟨v,rfl,by omega,by omega,qY.out,l⟩
     case measure=>simp[intOf];omega
   have z8:=gI (show n<=k by omega);have aR:=hr.done (by omega) aM;go_wp2_with fail
   go_end0
   exact⟨rfl,⟨M1,Q,aR,hd⟩,l⟩
def Su (x y:Nat) (m:x<1000000) (l:y<1000000) :
 Calls prog 205 #[.int .i64 x,.int .i64 y] w λe w'=>e=.returned (.int .i64 (wP x y))/\w'=w:=by
 have h:∀z:Int,Calls prog 237 #[.int .i64 z] w λe w'=>e=.returned (.bool false)/\w'=w:=λz=>by
  go_enter func237,ntmps237;go_wp2;go_ret;exact⟨by simp,rfl⟩
 have g:=aa h;obtain⟨r,i⟩:=ae (wP x y);have a:=aa i;clear h i;rw[<-a.out];go_enter func205,ntmps205;go_wp2_with fail;refine(g.out _).mono ?_;rintro e d⟨rfl,b⟩;obtain rfl:d=w:=b;go_wp2_with fail;refine(g.out _).mono ?_;rintro e j⟨rfl,b⟩;obtain rfl:j=d:=b;by_cases c:x<y
 ·have z:=eG (show x<y by omega);go_wp2_with fail;go_ret;exact⟨by rw[a.out];unfold wP;rw[if_pos c];rfl,rfl⟩
 have z:=gI (show y<=x by omega);by_cases f:y<x
 ·have k:=eG (show y<x by omega);go_wp2_with fail;go_ret;exact⟨by rw[a.out];unfold wP;rw[if_neg c,if_pos f];rfl,rfl⟩
 have k:=gI (show x<=y by omega);go_wp2_with fail;go_ret;exact⟨by rw[a.out];unfold wP;rw[if_neg c,if_neg f];rfl,rfl⟩
def Sv {p u:Nat} {T:List aG} {X:List Nat} (h:cK w p T X) (s:aY T X) (C:w.cell? ⟨u,0,none⟩=some (.pointer (some ⟨p,0,none⟩))) (a b:Nat) (B:a<1114112) (D:b<1114112) :
 Calls prog 204 #[.int .i32 a,.int .i32 b,.pointer (some ⟨u,0,none⟩)] w λe w'=>e=.returned (.int .i64 (wP (ai T a) (ai T b)))/\Below w.heap.size w w':=by
 have f:∀c,ai T c<1000000:=λc=>by
  unfold ai;cases e:rowOf T c with
  | none=>decide
  | some r=>
    have:=(s.fine r (gy e).1).2.1;show r.cls<1000000;omega
 have k:=aa (λ(W:World) (E:Below w.heap.size w W) c (F:c<1114112)=>iM (h.mono E) s c F);have o:=f a;have m:=f b;obtain⟨x,n⟩:=ae (ai T a);obtain⟨y,i⟩:=ae (ai T b);have v:=aa (λ(W:World) (E:Below w.heap.size w W)=>k.out W E a B);have z:=aa (λ(W:World) (E:Below w.heap.size w W)=>k.out W E b D);rw[<-n] at v o⊢;rw[<-i] at z m⊢;have:=Gr.cell (ag w) C;have l:=aa (λW=>Su (w:=W) x y o m);obtain⟨r,t⟩:=ae (wP x y);rw[<-t] at l⊢;clear h f k n i t;go_enter func204,ntmps204;go_wp2_with fail;refine aC (Array.replicate 8 true) 8 0 mixed ?_;refine ay [0,1,3,4] 4 ?_
 iterate 4 (refine aA rfl ?_;go_big_quiet_step (rfl))
 refine az ?_;refine aI 2 ?_;go_wp2_with fail;refine(v.out w.drew (ag w)).mono ?_;rintro e G⟨rfl,j⟩;go_wp2_with fail;refine aF j ?_;have d:=af (ag w) j;refine aI 5 ?_;go_wp2_with fail;refine(z.out G d).mono ?_;rintro e q⟨rfl,g⟩;go_wp2_with fail;refine aF g ?_;refine aI 6 ?_;go_wp2_with fail;refine(l.out q).mono ?_;rintro e H⟨rfl,A⟩;obtain rfl:H=q:=A;go_wp2_with fail;refine aF (Below.refl _ _) ?_;refine ay [7] 0 ?_
 iterate 1 (refine aA rfl ?_;go_big_quiet_step (rfl))
 refine az ?_;refine aJ [] ?_;refine tail_nil ?_;go_wp2_with fail;go_ret;exact⟨rfl,af d g⟩
def FB {d:World} (m:N<=b) {k:Value} (f:zO d N K k) (c:Below N d w) (M:List Nat) (h:bI w b p M q) (g:∀x∈M,0<K x/\x<1114112) (l:off=p.length) (j:M.length=n) (s:n<1000000) :
 Calls prog 206 #[.slice (some ⟨b,off,none⟩) n cap,ym k] w λe w'=>e=.returned (.tuple #[])/\(∃a,fe K M a/\up K a/\bI w' b p a q)/\Below N w w':=by
 have r:=aa (KU m f c M h g l j s (cap:=cap));clear h g l f j;go_enter func206,ntmps206;go_wp2_with fail;refine r.out.mono ?_;rintro e u⟨rfl,i,o⟩;have t:=aa i;clear i;go_wp2_with fail
 go_end0
 exact⟨rfl,t.out,o⟩
end Go.Proofs.YtmnimbnojdndmaaGreatDoor
