/- State by state it is added up what is possible; no condition. -/
import Derived.Test.YtmnimbnojdndmaaGreatDoorS26
set_option maxRecDepth 100000
set_option maxHeartbeats 6400000
set_option linter.all false
namespace Go.Proofs.YtmnimbnojdndmaaGreatDoor
open Go.RowKit Go.Cd _root_.Go.Proofs.Tryz
variable {w:World} {k:Nat} {u v:Value} {l X:List Nat} {T:List aG}
structure P5 (T:List aG) (X:List Nat):Prop where
 valid:aY T X
 says:∀q∈T,0<q.cls\/q.map≠[]
 len:T.length<=20
 ahH:X.length<=30
 ahI:∀y∈X,aP y
def Al (w:World) (k:Nat):Prop:=∃b T,Is w k b T/\∀u∈b.toList,∃a n c,u=.slice a n c
def Al.int {o:Nat} (h:Al w k) {q:IntKind} {x:Int} (b:w.cell? ⟨k,o,none⟩=some (.int q x)):False:=by
 obtain⟨f,T,d,i⟩:=h;rw[d.cell] at b;have g:Value.int q x∈f.toList:=by rw[<-mz] at b;exact lO b
 obtain⟨a,n,c,e⟩:=i _ g;cases e
def vF {o b o':Nat} (c:b≠k):(w.setCell ⟨k,o,none⟩ u).cell? ⟨b,o',none⟩=w.cell? ⟨b,o',none⟩:=
 nB (a:=⟨b,o',none⟩) (jj _ _ _ _ (by simp only;exact λe=>c e))
def bG.Dt (h:bG w v (ints l)) (s:Al w k) (o:Nat) (u:Value):bG (w.setCell ⟨k,o,none⟩ u) v (ints l):=by
 obtain⟨a,cap,r,j,h⟩:=h;refine⟨a,cap,r,j,?_⟩;rcases h with h|⟨b,off,n,e,m,i,f,d⟩
 ·exact .inl h
 cases g:l with
 | nil=>subst g;exact .inl ⟨rfl,λe=>by rw[i] at e;cases e⟩
 | cons x l'=>
   subst g;have c:b≠k:=λp=>by
    subst p;have h0:=d 0 (by simp);refine s.int (o:=off) (q:=.i64) (x:=(x:Nat)) ?_;unfold World.cell?;rw[f];simpa [ints] using h0
   exact .inr ⟨b,off,n,e,m,i,(jj _ _ _ _ (by simp only;exact λe=>c e)).trans f,d⟩
def bG.dK (h:bG w v (aM l)) (s:Al w k) (o:Nat) (u:Value):bG (w.setCell ⟨k,o,none⟩ u) v (aM l):=by
 obtain⟨a,cap,r,j,h⟩:=h;refine⟨a,cap,r,j,?_⟩;rcases h with h|⟨b,off,n,e,m,i,f,d⟩
 ·exact .inl h
 cases g:l with
 | nil=>subst g;exact .inl ⟨rfl,λe=>by rw[i] at e;cases e⟩
 | cons x l'=>
   subst g;have c:b≠k:=λp=>by
    subst p;have h0:=d 0 (by simp);refine s.int (o:=off) (q:=.i32) (x:=(x:Nat)) ?_;unfold World.cell?;rw[f];simpa [aM] using h0
   exact .inr ⟨b,off,n,e,m,i,(jj _ _ _ _ (by simp only;exact λe=>c e)).trans f,d⟩
def cK.put {p:Nat} (h:cK w p T X) {i:Array Value} {t:TypeId} (f:Is w k i t) (I:Al w k) (g:i.size<=100) (j:156≠t) (J:h_≠t) (q:178≠t) (a:aN≠t) (o:Nat) (u:Value) :
 cK (w.setCell ⟨k,o,none⟩ u) p T X:=by
 obtain⟨E,z,xv,O,F,L,C,B,m,K,H,d,s,r,s1,s2,s3,Q⟩:=h;have c:=bJ.put (o:=o) f u;obtain⟨R,l,v,M⟩:=d.rows;obtain⟨G,N,D,A⟩:=d.bm
 exact⟨E,z,xv,O,F,L,C,B,m,K,H,⟨c.is d.is j,⟨R,l,c.own v J,λx b=>c.own (M x b) a⟩,c.own d.qp q,d.mG,λx b=>c.own (d.full x b) a,λx b=>c.own (d.maps x b) a,d.qV,
  ⟨G,c.map N,λx u n=>by obtain⟨y,e,P⟩:=D x u n;exact⟨y,e,c.own P a⟩,A⟩,c.map d.jm⟩,s.put f g u,r.put f g u,c.own s1 a,c.own s2 a,c.own s3 a,bG.dK Q I o u⟩
def jq.Dt (h:jq w v T X) (f:Al w k) (o:Nat) (u:Value):jq (w.setCell ⟨k,o,none⟩ u) v T X:=by
 obtain⟨r,x,y,⟨a,cap,p,j,q⟩,z⟩:=h;refine⟨r,x,y,⟨a,cap,p,j,λi t=>?_⟩,bG.Dt z f o u⟩;obtain⟨b,off,m,A,d,g,l,s,n⟩:=q i t;have c:b≠k:=λe=>f.int (e▸g);exact⟨b,off,m,A,by simpa using d,(vF c).trans g,(vF c).trans l,(vF c).trans s,bG.Dt n f o u⟩
def P6 (h:P5 T X):NG T:=by
 refine⟨λr a=>?_,λr a=>(h.says r a).imp (λh=>by omega) id,λr a=>(h.valid.fine r a).1,h.valid.rise,by have:=h.len;omega⟩;obtain⟨b,f,d,_,c⟩:=h.valid.fine r a;exact⟨b.1,f,d,λx e=>(c x e).2.1⟩
def Uj {r:aG} (h:r.map.length<=2):(kD r).length<=100:=by
 have:=bU r.code;have:(iP r.cls).length<=3:=by unfold iP;split <;> (try split) <;> simp
 have:(dD r.map).length<=13:=by
  match r.map,h with
  | [],_=>simp[dD]
  | [a],_=>have:=bU a;simp[dD];omega
  | [a,b],_=>have:=bU a;have:=bU b;simp[dD];omega
 unfold kD;simp only[gn,im,kp];omega
def Uk (h:P5 T X):(iV T).length<1000000:=by
 have key:∀L:List aG,(∀r∈L,r.map.length<=2)->(iV L).length<=101*L.length:=λL=>by
  induction L with
  | nil=>intro _;simp[iV,bA]
  | cons r L ih=>
    intro b;have c:=ih λr a=>b r (by simp[a]);have:=Uj (b r (by simp));unfold iV bA at c⊢;rw[lj,jx,gn,gn,im];simp only[im,kp];omega
 have:=key T λr a=>(h.valid.fine r a).2.2.1;have:=h.len;omega
def MW (h:P5 T X):(∀r∈T,r.code<1114112/\r.cls<1000/\r.map.length<=2/\∀x∈r.map,x<1114112)/\(∀x∈X,x<1114112):=
 ⟨λr c=>by
   obtain⟨b,f,d,_,e⟩:=h.valid.fine r c
   exact⟨b.1,by omega,d,λx a=>(e x a).2.1⟩,λx a=>(h.ahI x a).1⟩
def Ul (hG:dL w) {T:List gX} {X:List Int} (h:PT w v T X) :
 Calls prog 34 #[v] w λe w'=>∃p r q t,e=.returned (.tuple #[.pointer (some ⟨p,0,none⟩),r])/\cK w' p q t/\jq w' r q t/\P5 q t/\Below w.heap.size w w':=by
 obtain⟨r1,x1,rfl,P,L⟩:=id h;obtain⟨ra,nt,rc,rfl⟩:∃a n c,r1=.slice a n c:=by obtain⟨a,cap,rfl,_⟩:=P;exact⟨_,_,_,rfl⟩
 obtain⟨xa,nx,xc,rfl⟩:∃a n c,x1=.slice a n c:=by obtain⟨a,cap,rfl,_⟩:=L.out;exact⟨_,_,_,rfl⟩
 obtain⟨w1,o⟩:=ae ((w.alloc (.cells #[.slice ra nt rc,.slice xa nx xc] 25)).alloc (.cells #[.slice none 0 0,.slice none 0 0] 25));have V:Below w.heap.size w w1:=by rw[o];exact dH _ _
 have k1:Is w1 w.heap.size #[.slice ra nt rc,.slice xa nx xc] 25:=by rw[o];exact(Is.new _ _ _).mono (ah _)
 have j1:Is w1 (w.heap.size+1) #[.slice none 0 0,.slice none 0 0] 25:=by rw[o];exact Is.new' _ _ _ _ (by simp)
 have RT:=aa (XW (h.mono V));have y:=k1.at 0 rfl;have C:=k1.at 1 rfl;clear h P L;go_enter func34,ntmps34;go_wp2_with fail;rw[<-o];clear o;refine RT.out.mono ?_;rintro e w2⟨r,q,t,rfl,hT,hV,hS,hl,Yk,Y,D⟩;have HT:=aa hT;obtain⟨r2,x2,rfl,S,K⟩:=hT;obtain⟨f,g,d,rfl⟩:∃a n c,r2=.slice a n c:=by obtain⟨a,cap,rfl,_⟩:=S;exact⟨_,_,_,rfl⟩
 obtain⟨l,k,m,rfl⟩:∃a n c,x2=.slice a n c:=by obtain⟨a,cap,rfl,_⟩:=K.out;exact⟨_,_,_,rfl⟩
 have b:P5 q t:=⟨hV,hS,hl,Yk,Y⟩;have HF:=aa b;clear hV hS hl Yk Y S K y C RT b;have NP:=af V D;have H:=k1.mono D;have j2:=j1.mono D;have:w.heap.size+1<w2.heap.size:=by have:=j2.lt;omega
 have y:=H.at 0 rfl;have C:=H.at 1 rfl;have f0:=H.frozen 0;have f1:=H.frozen 1;obtain⟨Z,i⟩:=ae ((w2.setCell ⟨w.heap.size,0,none⟩ (.slice f g d)).setCell ⟨w.heap.size,1,none⟩ (.slice l k m));have O:Al w2 w.heap.size:=⟨_,_,H,by simp⟩;have z:=H.set 0 (.slice f g d);have R:Al (w2.setCell ⟨w.heap.size,0,none⟩ (.slice f g d)) w.heap.size:=⟨_,_,z,by simp⟩;have A:jq Z (.agg #[.slice f g d,.slice l k m]) q t:=by rw[i];exact(HT.out.Dt O 0 _).Dt R 1 _
 have k3:Is Z w.heap.size #[.slice f g d,.slice l k m] 25:=by rw[i];exact z.set 1 _
 have j3:Is Z (w.heap.size+1) #[.slice none 0 0,.slice none 0 0] 25:=by rw[i];exact(j2.put (by omega) _).put (by omega) _
 have ab:Below w.heap.size w Z:=by rw[i];exact aj (aj NP (d' _)) (d' _)
 have b:=HF.out;have TX:=aa (XY A (MW b).1 (by have:=b.len;omega) (MW b).2 (by have:=b.ahH;omega));have ad:=aa A;have LD:=aa (λ(W:World) (E:Below w.heap.size w W)=>MG (hG.mono E) (P6 b) (Uk b) b.valid (λr hr=>(b.says r hr).imp (λh=>by omega) id) (by have:=b.len;omega) (by have:=b.ahH;omega) b.ahI);obtain⟨s1,G⟩:∃s,s=tx (iV q):=⟨_,rfl⟩;obtain⟨s2,Tj⟩:∃s,s=tx (eP t):=⟨_,rfl⟩;rw[<-G,<-Tj] at TX;rw[<-G,<-Tj] at LD;clear A O R z k1 j1 H j2 b G Tj HT hG;go_wp2_with fail;rw[<-i];clear i y C f0 f1;have y:=k3.at 0 rfl;have C:=k3.at 1 rfl;go_wp2_with fail;refine TX.out.mono ?_;rintro e w4⟨rfl,I⟩;have CP:=af ab I;clear y C;go_wp2_with fail;refine(LD.out w4 CP).mono ?_;rintro e w5⟨p,rfl,hD,M⟩;have MC:=af I M;have k5:=k3.mono MC;have j:=j3.mono MC;have y:=k5.at 0 rfl;have C:=k5.at 1 rfl;have g0:=j.at 0 rfl;have g1:=j.at 1 rfl;have q0:=j.frozen 0;have q1:=j.frozen 1;have J:=ad.out.mono MC;have al:=aa J;have HD:=aa hD;have J5:=aa j;have ai:Below w.heap.size w w5:=af CP M;clear J hD k5 j k3 j3 TX LD;go_wp2_with fail;go_region;have j:=J5.out;have B:Al w5 (w.heap.size+1):=⟨_,_,j,by simp⟩;have x:=j.set 0 (.slice f g d);have F:Al (w5.setCell ⟨w.heap.size+1,0,none⟩ (.slice f g d)) (w.heap.size+1):=⟨_,_,x,by simp⟩;have N:=(HD.out.put j B (show 2<=100 by omega) (by decide) (by decide) (by decide) (by decide) 0 (.slice f g d)).put x F (show 2<=100 by omega) (by decide) (by decide) (by decide) (by decide) 1 (.slice l k m);have ZU:=(al.out.Dt B 0 (.slice f g d)).Dt F 1 (.slice l k m);have k6:=x.set 1 (.slice l k m);have Q:=(aj (off:=1) (u:=.slice l k m) (aj (off:=0) (u:=.slice f g d) ai (pz _)) (pz _)).drew;obtain⟨w6,U⟩:=ae (((w5.setCell ⟨w.heap.size+1,0,none⟩ (.slice f g d)).setCell ⟨w.heap.size+1,1,none⟩ (.slice l k m)).drew);have k7:Is w6 (w.heap.size+1) #[.slice f g d,.slice l k m] 25:=by rw[U];exact k6.mono (ag _)
 have v0:=k7.at 0 rfl;have v1:=k7.at 1 rfl;have ak:=aa (show cK w6 p q t from by rw[U];exact N.mono (ag _));have ac:=aa (show jq w6 (.agg #[.slice f g d,.slice l k m]) q t from by rw[U];exact ZU.mono (ag _));rw[<-U] at Q⊢;clear U N ZU k6 k7 B F j x y C g0 g1 q0 q1;go_wp2_with fail;exact bodyPost_ret (v:=.tuple #[.pointer (some ⟨p,0,none⟩),.agg #[.slice f g d,.slice l k m]]) (by simp[results,results34,go_sem,v0,v1]) rfl ⟨p,_,q,t,rfl,ak.out,ac.out,HF.out,Q⟩
def ab1 (i:Int) {S:Nat} (h:1<=S) (d:S<=281474976710656):∃A:Nat,A<S/\(wrap64 (i.tmod (S:Int)+(S:Int))).tmod (S:Int)=(A:Int):=by
 have c:-(S:Int)<i.tmod (S:Int):=Int.neg_lt_of_neg_lt (by have:=Int.tmod_lt_of_pos (-i) (show(0:Int)<(S:Int) by omega);rw[Int.neg_tmod] at this;exact this);have e:i.tmod (S:Int)<(S:Int):=Int.tmod_lt_of_pos i (by omega);generalize i.tmod (S:Int)=q at *;obtain⟨m,b⟩:∃m:Nat,q+(S:Int)=(m:Int):=⟨(q+(S:Int)).toNat,by omega⟩;have a:wrap64 (q+(S:Int))=(m:Int):=by rw[b];unfold wrap64;omega
 rw[a,<-Int.ofNat_tmod];exact⟨m % S,mS _ h,rfl⟩
def Gq (w:World) (v:Value) (T:List gX) (X:List Int) (pk mr:List Int):Prop:=∃r x p m,v=.agg #[r,x,p,m]/\PT w (.agg #[r,x]) T X/\bG w p (bO pk)/\bG w m (bO mr)
def Gq.mono {w':World} {T:List gX} {X c b:List Int} (h:Gq w v T X c b) (a:Below w.heap.size w w'):Gq w' v T X c b:=by
 obtain⟨r,x,p,m,f,d,g,e⟩:=h;exact⟨r,x,p,m,f,d.mono a,g.mono a,e.mono a⟩
def aa9 (hG:dL w) {T0:List gX} {X0 pk mr:List Int} (h:Gq w v T0 X0 pk mr) (ca:mr.length<281474976710656) (d:Nat) (b7:d<=100) :
 Calls prog 7 #[v,.int .i64 d] w λe w'=>∃p r T X lv L,e=.returned (.tuple #[.pointer (some ⟨p,0,none⟩),r,lv,.bool true])/\cK w' p T X/\jq w' r T X/\P5 T X/\bG w' lv (ints L)/\L.length<=d/\(∀c∈L,aP c)/\Below w.heap.size w w':=by
 obtain⟨r0,x0,pv,mv,rfl,hT,hp,hm⟩:=h;obtain⟨b5,b9,he,bb,z⟩:=id hT;simp only[Ai,AM,oX,and_true] at he;obtain⟨rfl,rfl⟩:=he;obtain⟨ra,nt,rc,rfl⟩:∃a n c,r0=.slice a n c:=by obtain⟨a,cap,rfl,_⟩:=bb;exact⟨_,_,_,rfl⟩
 obtain⟨xa,nx,xc,rfl⟩:∃a n c,x0=.slice a n c:=by obtain⟨a,cap,rfl,_⟩:=z.out;exact⟨_,_,_,rfl⟩
 obtain⟨np,Ux⟩:=ae pk.length;obtain⟨nm,aQ⟩:=ae mr.length;obtain⟨pa,pc,rfl,_,be⟩:=Go.Proofs.YtmnimbnojdndmaaGreatDoor.bG.MI hp Ux;obtain⟨ma,mc,rfl,_,aY⟩:=Go.Proofs.YtmnimbnojdndmaaGreatDoor.bG.MI hm aQ;obtain⟨w0,J⟩:=ae ((w.alloc (.cells #[.slice ra nt rc,.slice xa nx xc,.slice pa np pc,.slice ma nm mc] 27)).alloc (.cells #[.slice none 0 0,.slice none 0 0] 25));have aR:Below w.heap.size w w0:=by rw[J];exact dH _ _
 have k0:Is w0 w.heap.size #[.slice ra nt rc,.slice xa nx xc,.slice pa np pc,.slice ma nm mc] 27:=by rw[J];exact(Is.new _ _ _).mono (ah _)
 have k1:Is w0 (w.heap.size+1) #[.slice none 0 0,.slice none 0 0] 25:=by rw[J];exact Is.new' _ _ _ _ (by simp)
 have LD:=aa (Ul (hG.mono aR) (hT.mono aR));have e0:=k0.at 0 rfl;have e1:=k0.at 1 rfl;have HP:=aa be;have HM:=aa aY;have Yj:=aa Ux;have sN:=aa aQ;have bD:w.heap.size+2<=w0.heap.size:=by rw[J];simp
 clear hG hT bb z hp hm Ux aQ be aY;go_enter func7,ntmps7;go_wp2_with fail;rw[<-J];clear J;refine LD.out.mono ?_;rintro e w1⟨p,r,T,X,rfl,hD,ao,hF,aw⟩;obtain⟨rr,rx,rfl,⟨C,E,rfl,_,bh⟩,bg⟩:=id ao;obtain⟨V,R,U,rfl⟩:∃a n c,rx=.slice a n c:=by obtain⟨a,c,h,_⟩:=bG.out bg;exact⟨_,_,_,h⟩
 obtain⟨n,hn⟩:=ae T.length;rw[<-hn] at ao⊢;have bX:n<=20:=by rw[hn];exact hF.len
 have bd:=af aR aw;have bM:=bd.size;have k0:=k0.mono aw;have k1:=k1.mono aw;obtain⟨P,O⟩:=ae (w1.alloc (.cells #[.slice C n E,.slice V R U] 25));have NP:=aO O;have k9:=Is.nw O;have a3:=bd.trans (NP.mono bM);have k0:=k0.mono NP;have k1:=k1.mono NP;have bC:=a3.size;have Z_:=NP.size;have a5:P.heap.size=w1.heap.size+1:=by rw[O];simp
 have b0:w.heap.size+2<=w1.heap.size:=ia bD aw.size;have bY:=k9.lt;have HD:=aa hD;have bO:=aa ao;have HF:=aa hF;have HN:=aa hn;have bv:=aa bh;have Tq:=ah (w:=P) (.cells #[.int .i64 65,.int .i64 97,.int .i64 768,.int .i64 4352,.int .i64 4449,.int .i64 4520,.int .i64 44032,.int .i64 44033] bB);have bf:=mU P #[.int .i64 65,.int .i64 97,.int .i64 768,.int .i64 4352,.int .i64 4449,.int .i64 4520,.int .i64 44032,.int .i64 44033] bB 8 rfl (by decide);have ba:=(k9.mono Tq).at 0 rfl;rw[O] at ba;clear hD ao hF hn bh LD bg e0 e1;go_wp2_with fail;rw[<-O] at ba⊢;clear O;generalize P.alloc (.cells #[.int .i64 65,.int .i64 97,.int .i64 768,.int .i64 4352,.int .i64 4449,.int .i64 4520,.int .i64 44032,.int .i64 44033] bB)=w3 at *;have a7:w3.ownsRow P.heap.size bB 1 (.slice (some ⟨w1.heap.size+1,0,none⟩) 8 8) 8 [.int .i64 65,.int .i64 97,.int .i64 768,.int .i64 4352,.int .i64 4449,.int .i64 4520,.int .i64 44032,.int .i64 44033]:=by rw[<-a5];exact bf
 go_loopw [10,12,29] (λo _ jv wr=>∃j:Nat,j<=n/\jv=.int .i64 j/\(∃L:List Nat,wr.ownsRow P.heap.size bB 1 o L.length (ints L)/\8<=L.length/\L.length<=8+3*j/\∀c∈L,aP c)/\Below P.heap.size P wr) (λ_ _ jv _=>n-(intOf jv).toNat)
 case atStart=>
  refine⟨0,ic _,rfl,⟨[65,97,768,4352,4449,4520,44032,44033],by simpa [ints] using a7,by simp,by simp,?_⟩,Tq⟩;decide
 case round=>
  obtain⟨j,hj,rfl,⟨L,l,bA,Qr,aG⟩,hE⟩:=hrel;have ji:=a3.trans (hE.mono bC);have Je:=ji.size;have a4:=hE.size;have G:=NP.trans (hE.mono Z_);by_cases b6:j<n
  ·have zj:=eG (show j<n by omega);have a0:j<T.length:=by have:=HN.out;omega
   obtain⟨b,off,m,rfl,_,d0,d1,d2,hm⟩:=bv.out j a0;have s:=(HF.out.valid.fine T[j] (gw a0));obtain⟨q,hq⟩:=ae (T[j]);rw[<-hq] at d0 d1 hm s;obtain⟨am,cm,rfl,_,_⟩:=bG.out hm;have av:(ints q.map).length=q.map.length:=by simp[ints]
   rw[av] at d2 hm;obtain⟨nq,aS⟩:=ae q.map.length;rw[<-aS] at d2 hm;obtain⟨N,aL⟩:=ae q.code;obtain⟨cl,bj⟩:=ae q.cls;rw[<-aL] at d0;rw[<-bj] at d1;have d0:=aB G d0;have d1:=aB G d1;have d2:=aB G d2;have aE:=aa aS;have bx:=aa aL;have Yu:=aa s;clear hq aS aL bj s;go_wp2_with fail;have aT:=ah (w:=wr) (.cells #[.int .i64 (N:Nat),.int .i64 (cl:Nat),.slice am nq cm] 78);have kA:Is _ wr.heap.size #[.int .i64 (N:Nat),.int .i64 (cl:Nat),.slice am nq cm] 78:=Is.new wr _ _;have bk:=aH l aT;have NV:=hE.trans (aT.mono a4);have aX:=af G aT;have DZ:=kA.lt;have b8:P.heap.size<=wr.heap.size:=a4;generalize wr.alloc (.cells #[.int .i64 (N:Nat),.int .i64 (cl:Nat),.slice am nq cm] 78)=wl at *;have bi:=aH bk (ag wl);have au:=kA.mono (ag wl);have g0:=vG.keeps (S:=λk=>k=wr.heap.size) (au.at 0 rfl) rfl;have g2:=vG.keeps (S:=λk=>k=wr.heap.size) (au.at 2 rfl) rfl;refine dF (KR.blocks λk=>k=wr.heap.size) (Array.replicate 9 true) 9 0 mixed ?_;refine bZ [0,1,2,5,6] 4 ?_
   iterate 5 (refine aA rfl ?_;go_big_quiet_step (rfl))
   refine az ?_;have H:=ah (w:=wl.drew) (.cells #[.int .i64 (N:Nat)] bB);have al:=au.mono H;have f:=aH bi H;have lN:Below P.heap.size P (wl.drew.alloc (.cells #[.int .i64 (N:Nat)] bB)):=(NV.trans ((ag wl).mono NV.size)).trans (H.mono NV.size);have a9:Below w1.heap.size w1 (wl.drew.alloc (.cells #[.int .i64 (N:Nat)] bB)):=(aX.trans ((ag wl).mono aX.size)).trans (H.mono aX.size);refine bN 3 ?_;go_wp2_with fail;refine bK (KR.of_below H H.size (λk (Y:k=wr.heap.size)=>by subst Y;exact DZ)) ?_;refine bN 4 ?_
   refine ng (W:=wl.drew.alloc (.cells #[.int .i64 (N:Nat)] bB)) rfl _ _ 23 rfl P.heap.size bB (.int .i64 0) 8 jI (by decide) rfl f (by have:=lN.size;exact this) [.int .i64 (N:Nat)] (by simp[Value.oneCell']) ⟨wl.drew.heap.size,0,none⟩ 1 1 rfl rfl (λi u hi=>by
    rcases i with _|i
    ·cases hi;exact(Is.new wl.drew _ bB).at 0 rfl
    cases hi) (by omega) ?_
   intro v5 w5 o5 I bI;have bz:=al.other f (by decide);have ac:=(bJ.bQ f I).is al (by decide);have jP:=lN.grown I lN.size (λk Y=>(f.lt k Y).1);have bl:=a9.grown I (by have:=a9.size;exact this) (λk Y=>by have:=(f.lt k Y).1;omega);go_wp2_with fail;refine bK (KR.bQ (w:=wl.drew.alloc (.cells #[.int .i64 (N:Nat)] bB)) I I.size (λk (Y:k=wr.heap.size)=>by subst Y;exact⟨al.lt,bz⟩)) ?_;refine bN 7 ?_;have bU:nq<=2:=by rw[aE.out];exact Yu.out.2.2.1
   have br:=ac.other o5 (by decide);refine bR rfl _ _ 23 rfl P.heap.size bB (.int .i64 0) 8 jI _ _ _ rfl o5 _ (ints q.map) rfl (hm.mono bl) (λu hu=>by obtain⟨y,_,rfl⟩:=j8.1 hu;rfl) (by rw[av,<-aE.out];unfold maxLen;omega) (by rw[av,<-aE.out];omega) jP.size ?_;intro v6 w6 o6 M4;have bu:=jP.grown M4 jP.size (λk Y=>(o5.lt k Y).1);have bE:=(bJ.bQ o5 M4).is ac (by decide);have O6:=aa o6;go_wp2_with fail;refine bK (KR.bQ (w:=w5) M4 M4.size (λk (Y:k=wr.heap.size)=>by subst Y;exact⟨ac.lt,br⟩)) ?_;refine bZ [8] 0 ?_
   iterate 1 (refine aA rfl ?_;go_big_quiet_step (rfl))
   refine az ?_;refine eU [] ?_;refine tail_nil ?_;clear o6 o5 M4 I bI g0 g2 kA au al ac bE l bk bi f d0 d1 d2;go_wp2_with fail;go_roundw
   case rel=>
    refine⟨j+1,by omega,by simp,⟨L++[N]++q.map,?_,?_,?_,?_⟩,bu⟩
    ·have:=O6.out;rw[av] at this;have e1:ints (L++[N]++q.map)=ints L++[.int .i64 (N:Nat)]++ints q.map:=by simp[ints]
     have e2:(L++[N]++q.map).length=L.length+1+q.map.length:=by simp;omega
     rw[e1,e2];exact this
    ·simp;omega
    ·rw[gn,gn,<-aE.out];simp;omega
    intro c D;rcases ie.1 D with D|D
    ·rcases ie.1 D with D|D
     ·exact aG c D
     rw[gE.1 D,bx.out];exact Yu.out.1
    exact(Yu.out.2.2.2.2 c D).2
   case measure=>simp[intOf];omega
  have zj:=gI (show n<=j by omega);obtain rfl:j=n:=by omega
  obtain⟨oa,oc,rfl,_,_⟩:=ak l;have bT:=k0.mono hE;have bw:=k1.mono hE;have bF:=k9.mono hE;obtain⟨nl,aM⟩:=ae L.length;rw[<-aM] at l bA Qr⊢;have Yn:=aa aM;have Yh:=aa aG;have bL:=aa l;clear aG l aM k0 k1 k9 bf a7 Tq;rename World=>wA;go_wp2_with fail;go_loopw [13,14,15] (λlv iv _ aZ=>∃i:Nat,i<=np/\i<=d/\iv=.int .i64 i/\(∃M:List Nat,aZ.ownsRow wA.heap.size bB 1 lv M.length (ints M)/\M.length=i/\∀c∈M,aP c)/\Below wA.heap.size wA aZ) (λ_ iv _ _=>d-(intOf iv).toNat)
  case atStart=>exact⟨0,ic _,ic _,rfl,⟨[],iS _ _ _ _,rfl,by simp⟩,gS _ _⟩
  case round=>
   obtain⟨i,hi,b3,rfl,⟨M,t,Z,ax⟩,MZ⟩:=hrel;have aq:=ji.trans (MZ.mono Je);have b4:=aq.size;have aK:=bT.mono MZ;have t2:=aK.at 2 rfl;have t3:=aK.at 3 rfl;have bs:=MZ.size;by_cases ab:i<np/\i<d
   ·obtain⟨bP,bW⟩:=ab;have zi:=eG (show i<np by omega);have zm:=eG (show i<d by omega);have bo:i<pk.length:=by have:=Yj.out;omega
    obtain⟨pb,po,rfl,_,p0⟩:=HP.out i bo;have p0:=aB aq p0;obtain⟨x,hx⟩:=ae (pk[i]);rw[<-hx] at p0;have Y7:=aa ax;have ER:=aa Z;have bc:=aa t;clear hx ax Z;by_cases a_:x<0/\0<nm
    ·obtain⟨z,cb⟩:=a_;have zx:decide (x<0)=true:=decide_eq_true z;have zn:decide ((0:Int)<(nm:Int))=true:=decide_eq_true (by omega);have bS:nm<=281474976710656:=by rw[sN.out];omega
     obtain⟨A,hA,a6⟩:=ab1 x (S:=nm) (by omega) bS;obtain⟨mb,mo,rfl,_,m0⟩:=HM.out A (by rw[<-sN.out];exact hA);have m0:=aB aq m0;obtain⟨y,g⟩:∃y,y=mr[A]'(by rw[<-sN.out];exact hA):=⟨_,rfl⟩;rw[<-g] at m0;clear g;go_wp2_with fail;have G3:=Gr.cell (ag wr) t3;have G4:=Gr.cell (ag wr) m0;have bV:((nm:Int)==0)=false:=beq_eq_false_iff_ne.2 (by omega);refine aC #[true,true,true,true,true,true,true,true,true,true,true,true,true,true,true,true,true,true,true,true,true,false,false] 21 2 mixed ?_;refine ay [0,1,2,3,4,5,6,7,8,9,10,11,12,13,14,15,16,17] 3 ?_
     iterate 18 (refine aA rfl ?_;go_big_quiet_step (rfl))
     refine az ?_;refine aI 18 ?_;go_wp2_with fail;refine(jL (w:=wr.drew) y).mono ?_;rintro e w7⟨rfl,rfl⟩;have B:=rT (x:=(y % 2097152).toNat);obtain⟨c,D⟩:=ae (lG (y % 2097152).toNat);rw[<-D] at B⊢;have Uq:=B.1;have aD:=aa B;clear D B;go_wp2_with fail;refine aF (gS _ _) ?_;refine ay [19] 1 ?_
     iterate 1 (refine aA rfl ?_;go_big_quiet_step (rfl))
     refine az ?_;refine aI 20 ?_;go_wp2_with fail;refine aF (ah _) ?_;have bn:=aH t (ag wr);have Za:=MZ.trans ((ag wr).mono bs);have bq:M.length<=100:=by have:=ER.out;omega
     clear t2 t3 G3 G4 p0 m0 aK t;refine aJ [21,22] ?_;refine tail_cons rfl ?_;refine gp rfl _ _ 23 rfl wA.heap.size bB (.int .i64 0) 8 jI _ M.length _ rfl bn (.int .i64 (c:Nat)) rfl rfl (by omega) (by unfold maxLen;omega) wA Za (d' _) ?_;intro v' w6 o6 mF;have O6:=aa o6;clear o6;refine tail_cons rfl ?_;go_wp2_with fail;refine tail_nil ?_;go_wp2_with fail;go_roundw
     case rel=>
      refine⟨i+1,by omega,by omega,by simp,⟨M++[c],?_,by rw[gn,ER.out];rfl,λy g=>?_⟩,mF⟩
      ·rw[show ints (M++[c])=ints M++[.int .i64 (c:Nat)] by simp[ints],show(M++[c]).length=M.length+1 by simp];exact O6.out
      rcases ie.1 g with g|g
      ·exact Y7.out y g
      rw[gE.1 g];exact aD.out
     case measure=>simp[intOf];omega
    have bt:nl<=281474976710656:=by omega
    obtain⟨A,hA,a6⟩:=ab1 x (S:=nl) (by omega) bt;have DZ:A<L.length:=by rw[<-Yn.out];exact hA
    obtain⟨lb,b2,he,_,_,_,_,F⟩:=dz bL.out (show 0<nl by omega);injection he with bH _ bm;subst bH bm;have m0:=aB MZ (F A (.int .i64 (L[A]:Nat)) (by simp[ints,DZ]));have B:=Yh.out _ (gw DZ);obtain⟨c,D⟩:=ae (L[A]);rw[<-D] at m0 B;have aD:=aa B;have bq:M.length<=100:=by have:=ER.out;omega
    have b_:((nl:Int)==0)=false:=beq_eq_false_iff_ne.2 (by omega);clear D B F;by_cases z:x<0
    ·have zx:decide (x<0)=true:=decide_eq_true z;have zn:decide ((0:Int)<(nm:Int))=false:=decide_eq_false (λh=>a_ ⟨z,by omega⟩);go_wp2_with (at_builtin;refine gp rfl _ _ 23 rfl wA.heap.size bB (.int .i64 0) 8 jI _ M.length _ rfl t (.int .i64 (c:Nat)) rfl rfl (by omega) (by unfold maxLen;omega) wA MZ (d' _) ?_;intro v' w6 o6 mF);go_roundw
     case rel=>
      refine⟨i+1,by omega,by omega,by simp,⟨M++[c],?_,by rw[gn,ER.out];rfl,λy g=>?_⟩,mF⟩
      ·rw[show ints (M++[c])=ints M++[.int .i64 (c:Nat)] by simp[ints],show(M++[c]).length=M.length+1 by simp];exact o6
      rcases ie.1 g with g|g
      ·exact Y7.out y g
      rw[gE.1 g];exact aD.out
     case measure=>simp[intOf];omega
    have zx:decide (x<0)=false:=decide_eq_false z;rw[px (show 0<=x by omega)] at a6;go_wp2_with (at_builtin;refine gp rfl _ _ 23 rfl wA.heap.size bB (.int .i64 0) 8 jI _ M.length _ rfl t (.int .i64 (c:Nat)) rfl rfl (by omega) (by unfold maxLen;omega) wA MZ (d' _) ?_;intro v' w6 o6 mF);go_roundw
    case rel=>
     refine⟨i+1,by omega,by omega,by simp,⟨M++[c],?_,by rw[gn,ER.out];rfl,λy g=>?_⟩,mF⟩
     ·rw[show ints (M++[c])=ints M++[.int .i64 (c:Nat)] by simp[ints],show(M++[c]).length=M.length+1 by simp];exact o6
     rcases ie.1 g with g|g
     ·exact Y7.out y g
     rw[gE.1 g];exact aD.out
    case measure=>simp[intOf];omega
   have a8:(decide ((i:Int)<(np:Int))&&decide ((i:Int)<(d:Int)))=false:=by
    rcases Decidable.not_and_iff_or_not.1 ab with h|h
    ·rw[decide_eq_false (show ¬((i:Int)<(np:Int)) by omega)];rfl
    rw[decide_eq_false (show ¬((i:Int)<(d:Int)) by omega),AK]
   obtain⟨ad,ap,rfl,_,_⟩:=ak t;obtain⟨nM,aV⟩:=ae M.length;rw[<-aV] at t Z⊢;have bp:=aa aV;have bc:=aa t;have Y7:=aa ax;have ER:=aa Z;have aW:=bF.mono MZ;have Q:=bw.mono MZ;have j0:=aW.at 0 rfl;have j1:=aW.at 1 rfl;have b1:w.heap.size+2<=wA.heap.size:=by omega
   clear aV t ax Z;have K:=Q;have f0:=K.at 0 rfl;have f1:=K.at 1 rfl;have q0:=K.frozen 0;have q1:=K.frozen 1;have v0:=(K.set 0 (.slice C j E)).set 1 (.slice V R U);have g0:=v0.at 0 rfl;have g1:=v0.at 1 rfl;have s:=(aj (off:=1) (u:=.slice V R U) (b:=w.heap.size+1) (aj (off:=0) (u:=.slice C j E) (b:=w.heap.size+1) aq (by omega)) (by omega)).trans ((ag _).mono (by simp;omega));have aN:=(G.trans (MZ.mono G.size));have ar:Al wr (w.heap.size+1):=⟨_,_,Q,by intro u hu;simp at hu;exact⟨none,0,0,hu⟩⟩
   have ai:Al (wr.setCell ⟨w.heap.size+1,0,none⟩ (.slice C j E)) (w.heap.size+1):=⟨_,_,Q.set 0 (.slice C j E),by
    intro u hu;simp at hu
    rcases hu with rfl|rfl <;> exact⟨_,_,_,rfl⟩⟩
   have an:∃p' r' T' X' Sa L',Ending.returned (.tuple #[.pointer (some ⟨p,0,none⟩),.agg #[.slice C j E,.slice V R U],.slice ad nM ap,.bool true])=.returned (.tuple #[.pointer (some ⟨p',0,none⟩),r',Sa,.bool true])/\cK (((wr.setCell ⟨w.heap.size+1,0,none⟩ (.slice C j E)).setCell ⟨w.heap.size+1,1,none⟩ (.slice V R U)).drew) p' T' X'/\jq (((wr.setCell ⟨w.heap.size+1,0,none⟩ (.slice C j E)).setCell ⟨w.heap.size+1,1,none⟩ (.slice V R U)).drew) r' T' X'/\P5 T' X'/\bG (((wr.setCell ⟨w.heap.size+1,0,none⟩ (.slice C j E)).setCell ⟨w.heap.size+1,1,none⟩ (.slice V R U)).drew) Sa (ints L')/\L'.length<=d/\(∀c∈L',aP c)/\Below w.heap.size w (((wr.setCell ⟨w.heap.size+1,0,none⟩ (.slice C j E)).setCell ⟨w.heap.size+1,1,none⟩ (.slice V R U)).drew):=by
    refine⟨p,.agg #[.slice C j E,.slice V R U],T,X,.slice ad nM ap,M,rfl,?_,?_,HF.out,?_,by have:=ER.out;have:=bp.out;omega,Y7.out,s⟩
    ·exact(((HD.out.mono aN).put Q ar (show 2<=100 by omega) (by decide) (by decide) (by decide) (by decide) 0 _).put (Q.set 0 (.slice C j E)) ai (show 2<=100 by omega) (by decide) (by decide) (by decide) (by decide) 1 _).mono (ag _)
    ·exact(((bO.out.mono aN).Dt ar 0 _).Dt ai 1 _).mono (ag _)
    have hm:=(Sl.aU (aH bc.out (gS _ wr))).any;exact(Go.Proofs.YtmnimbnojdndmaaGreatDoor.bG.Dt (Go.Proofs.YtmnimbnojdndmaaGreatDoor.bG.Dt hm ar 0 (.slice C j E)) ai 1 (.slice V R U)).mono (ag _)
   have an:=aa an;clear v0 K s aN ar ai Q aW a8;by_cases bP:i<np
   ·have zi:=eG (show i<np by omega);have LA:i=d:=by omega
    have zm:=gI (show d<=i by omega);clear ab;subst LA;go_wp2_with fail;go_region;go_wp2_with fail;exact bodyPost_ret (v:=.tuple #[.pointer (some ⟨p,0,none⟩),.agg #[.slice C j E,.slice V R U],.slice ad nM ap,.bool true]) (by simp[results,results7,go_sem,g0,g1]) rfl an.out
   have zi:=gI (show np<=i by omega);clear ab;go_wp2_with fail;go_region;go_wp2_with fail;exact bodyPost_ret (v:=.tuple #[.pointer (some ⟨p,0,none⟩),.agg #[.slice C j E,.slice V R U],.slice ad nM ap,.bool true]) (by simp[results,results7,go_sem,g0,g1]) rfl an.out
def abb {B n cap:Nat} {a:Option Addr} (h:w.ownsRow B bB 1 (.slice a n cap) n (ints l)) (h0:0<n):∃g,a=some ⟨g,0,none⟩/\B<=g/\g<w.heap.size:=by
 rcases h.2 with⟨b,i⟩|⟨g,c,f,b,d,e,_⟩
 ·omega
 cases b;exact⟨g,rfl,d,block_lt e⟩
def ints_at (a:k<(ints l).length) {x:Nat} (h:l[k]? = some x):(ints l)[k]=.int .i64 x:=by
 have e:(ints l)[k]? = some (.int .i64 x):=by simp[ints,h]
 rw[gx a] at e;exact m6 e
def P7 {L:List Nat} (h:jq w v T X) (hl:bG w u (ints L)) (aw:T.length<1000000) (YS:L.length<1000000) :
 Calls prog 37 #[v,u] w λe w'=>∃r,e=.returned r/\w'.ownsRow w.heap.size bB 1 r L.length (ints (gL (ai T) L))/\Below w.heap.size w w':=by
 have HT:=aa h;obtain⟨a,nt,cap,ax,nx,cx,rfl⟩:=h.shape;obtain⟨n,hn⟩:=ae L.length;have HL:=aa hl;obtain⟨al,cl,rfl,_,_⟩:=bG.nO hl hn;have HN:=aa hn;rw[<-hn] at YS;have J:(ints L).length=n:=by rw[ek,hn]
 obtain⟨Z,hW⟩:=ae (w.alloc (.cells #[.slice a nt cap,.slice ax nx cx] 25));have hb:=aO hW;have i0:=Is.nw hW;have H:Z.heap.size=w.heap.size+1:=by rw[hW];simp
 have o0:(Z.alloc (.cells #[] bB)).ownsRow (w.heap.size+1) bB 1 (.slice (some ⟨w.heap.size+1,0,none⟩) 0 0) 0 []:=by
  have:=rM Z bB;rw[H] at this;exact this
 have q:Below (w.heap.size+1) Z (Z.alloc (.cells #[] bB)):=by rw[<-H];exact ah _
 have UA:=aa (HL.out.mono (hb.trans (q.mono (by omega))));have Q:(Z.alloc (.cells #[] bB)).heap.size=w.heap.size+2:=by simp[H]
 obtain⟨W1,F⟩:=ae (Z.alloc (.cells #[] bB));rw[<-F] at o0 q UA Q;rw[hW] at F;have an:w.heap.size+1<=W1.heap.size:=by omega
 have aK:Below w.heap.size w W1:=hb.trans (q.mono (by omega));have i1:Is W1 w.heap.size #[.slice a nt cap,.slice ax nx cx] 25:=i0.low q (by omega);have HK:=aa (λ(W:World) (E:Below w.heap.size w W) (c:Nat)=>tK (HT.out.mono E) c aw);have aq:=aa i1;have G:=aa aK;have O0:=aa o0;rw[F] at aq G O0 UA an;clear h hl hn o0 hW Q H i0 q i1 aK hb F HL;go_enter func37,ntmps37;go_wp2_with (at_builtin;refine bR rfl _ _ 23 rfl (w.heap.size+1) bB _ 8 jN _ 0 _ rfl O0.out _ (ints L) rfl UA.out (kJ L) (by rw[J];unfold maxLen;omega) (by rw[J];omega) an ?_;intro v1 w3 o1 ac;obtain⟨a1,Ao,rfl,_,_⟩:=ak o1);have ap:Below w.heap.size w w3:=G.out.grown ac G.out.size (λk hk=>by have:=(O0.out.lt k hk).1;omega);have I3:=aq.out.keep O0.out ac (by omega);have o3:w3.ownsRow (w.heap.size+1) bB 1 (.slice a1 n Ao) n (ints L):=by
  have:=o1;rw[J] at this;simpa using this
 (try simp only[ek,<-HN.out,J,k_])
 have D6:=ap.size;have c3:=I3.at 0 rfl;clear O0 UA aq G ac o1 an;obtain⟨K,hK⟩:=ae (ai T);rw[<-hK] at HK;have a2:=aa hK;clear hK;go_loopw [6] (λtv wr=>∃(t:Nat) (O:List Nat),t<=n/\tv=.int .i64 t/\O.length=n/\passes K (n-t) O=passes K n L/\wr.ownsRow (w.heap.size+1) bB 1 (.slice a1 n Ao) n (ints O)/\Is wr w.heap.size #[.slice a nt cap,.slice ax nx cx] 25/\Below w.heap.size w wr) (λtv _=>n-(intOf tv).toNat)
 case atStart=>exact⟨0,L,ic _,rfl,HN.out.symm,by simp,o3,I3,ap⟩
 case round=>
  clear o3 I3 ap D6 c3;obtain⟨t,O,ht,rfl,N,B,m,hI,S⟩:=hrel;by_cases a6:t<n
  ·obtain⟨C,s,rfl⟩:∃C s,O=C::s:=by
    cases O with
    | nil=>simp at N;omega
    | cons C s=>exact⟨C,s,rfl⟩
   have aV:=aa (show ∀O',O'=pass K (C::s)->passes K (n-(t+1)) O'=passes K n L from λO' e=>by
    rw[<-B,show n-t=(n-(t+1))+1 by omega,e];rfl)
   have Y0:=aa (show s.length+1=n by simpa using N);clear B N;have HO:=aa m;clear m;go_wp2_with fail;go_loopw [7] (λiv w2=>∃(i k:Nat) (D R:List Nat) (b:Nat),k+1=i/\i<=n/\iv=.int .i64 i/\D.length=k/\i+R.length=n/\D++Ky K b R=pass K (C::s)/\w2.ownsRow (w.heap.size+1) bB 1 (.slice a1 n Ao) n (ints (D++b::R))/\Is w2 w.heap.size #[.slice a nt cap,.slice ax nx cx] 25/\Below w.heap.size w w2) (λiv _=>n-(intOf iv).toNat)
   case atStart=>exact⟨1,0,[],s,C,rfl,by omega,rfl,rfl,by have:=Y0.out;omega,rfl,HO.out,hI,S⟩
   case round=>
    clear hI S;obtain⟨i,k,D,R,b,aM,ba,rfl,z,A,I,m,hI,S⟩:=hrel;by_cases a4:i<n
    ·obtain⟨f,l,rfl⟩:∃f l,R=f::l:=by
      cases R with
      | nil=>simp at A;omega
      | cons f l=>exact⟨f,l,rfl⟩
     obtain⟨g,rfl,a7,Dw⟩:=abb m (by omega);have a8:(i:Int)-1=(k:Int):=by omega
     have au:=aa I;have d:(ints (D++b::f::l)).length=n:=by rw[ek];simp at A⊢;omega
     obtain⟨o,aS⟩:=jY m (j:=k) (by rw[d];omega);obtain⟨p,aW⟩:=jY m (j:=i) (by rw[d];omega);rw[ints_at (x:=b) _ (by rw[j' (by omega),z];simp)] at o;rw[ints_at (x:=f) _ (by rw[j' (by omega),z,<-aM,lk];rfl)] at p;have aQ:=aa (λ(u u':Value)=>((m.stored k u).1.stored i u').1);have M:=aa z;have aE:=aa m;have Y:=aa A;have a5:k≠i:=by omega
     have ar:=aa (λ(W:World) (E:Below w.heap.size w W)=>HK.out W E b);have ao:=aa (λ(W:World) (E:Below w.heap.size w W)=>HK.out W E f);obtain⟨ka,ad⟩:=ae (K b);obtain⟨kb,U⟩:=ae (K f);rw[<-ad] at ar;rw[<-U] at ao;have aP:=aa ad;have aL:=aa U;have t0:=hI.at 0 rfl;have t1:=hI.at 1 rfl;have g0:=Gr.cell (ag wr) t0;have g1:=Gr.cell (ag wr) t1;have g2:=Gr.cell (ag wr) o;clear I z d ad U m A;go_wp2_with fail;refine aC (Array.replicate 8 true) 8 0 mixed ?_;refine ay [0,1,2,3,4,5] 2 ?_
     iterate 6 (refine aA rfl ?_;go_big_quiet_step (rfl))
     refine az ?_;refine aI 6 ?_;go_wp2_with fail;refine(ar.out _ S.drew).mono ?_;rintro e w5⟨rfl,h5⟩;go_wp2_with fail;refine aF h5 ?_;refine ay [7] 0 ?_
     iterate 1 (refine aA rfl ?_;go_big_quiet_step (rfl))
     refine az ?_;refine aJ [] ?_;refine tail_nil ?_;have P:=af (ag wr) h5;have rX:=af S P;have t0:=aB P t0;have t1:=aB P t1;have o:=aB P o;have p:=aB P p;have g0:=Gr.cell (ag w5) t0;have g1:=Gr.cell (ag w5) t1;have g2:=Gr.cell (ag w5) p;have aR:=aa (aH aE.out P);have av:=hI.mono P;clear aE S hI h5 P ar;go_wp2_with fail;refine aC (Array.replicate 7 true) 7 0 mixed ?_;refine ay [0,1,2,3,4] 2 ?_
     iterate 5 (refine aA rfl ?_;go_big_quiet_step (rfl))
     refine az ?_;refine aI 5 ?_;go_wp2_with fail;refine(ao.out _ rX.drew).mono ?_;rintro e w6⟨rfl,h6⟩;go_wp2_with fail;refine aF h6 ?_;refine ay [6] 0 ?_
     iterate 1 (refine aA rfl ?_;go_big_quiet_step (rfl))
     refine az ?_;refine aJ [] ?_;refine tail_nil ?_;have E6:=af (ag w5) h6;have mF:=af rX E6;have o:=aB E6 o;have p:=aB E6 p;have Us:=aH aR.out E6;have V:=av.mono E6;have d:(ints (D++b::f::l)).length=n:=by rw[ek];have:=Y.out;have:=M.out;simp at *;omega
     have aS:=(jY Us (j:=k) (by rw[d];omega)).2;have aW:=(jY Us (j:=i) (by rw[d];omega)).2;have aQ:=aa (λ(u u':Value)=>((Us.stored k u).1.stored i u').1);have aY:=aa Us;clear aR rX av h6 E6 ao Us d;by_cases y:0<kb/\kb<ka
     ·obtain⟨s1,s2⟩:=y
      have ab:=aa (show(D++[f])++Ky K b l=pass K (C::s) by
       rw[<-au.out,qW,if_pos (by rw[<-aP.out,<-aL.out];exact⟨s1,s2⟩)];simp)
      go_wp2_with fail;go_region;go_wp2;go_roundw
      case rel=>
       have aX:(ints (D++b::f::l)).set k (.int .i64 f)=ints (D++f::f::l):=by
        simp only[ints,j5,lj];rw[mm _ _ (by rw[iz,M.out];exact d' _),iz,M.out,ns];rfl
       have aU:(ints (D++f::f::l)).set i (.int .i64 b)=ints ((D++[f])++b::l):=by
        simp only[ints,j5,lj,sE];rw[mm _ _ (by rw[iz,M.out];omega),iz,M.out,<-aM,lk];simp
       have aN:=aQ.out (.int .i64 f) (.int .i64 b);rw[aX,aU] at aN;refine⟨i+1,i,D++[f],l,b,rfl,by omega,rfl,by simp[M.out];omega,by have:=Y.out;simp at this;omega,ab.out,aH aN (ag _),((V.put (by omega) _).put (by omega) _).mono (ag _),(aj (aj mF (by omega)) (by omega)).drew⟩
      case measure=>simp[intOf];omega
     have ab:=aa (show(D++[b])++Ky K f l=pass K (C::s) by
      rw[<-au.out,qW,if_neg (by rw[<-aP.out,<-aL.out];exact y)];simp)
     have qY:=aa (show ∃(i' k':Nat) (D' R':List Nat) (b':Nat),k'+1=i'/\i'<=n/\i'=i+1/\D'.length=k'/\i'+R'.length=n/\D'++Ky K b' R'=pass K (C::s)/\w6.ownsRow (w.heap.size+1) bB 1 (.slice (some ⟨g,0,none⟩) n Ao) n (ints (D'++b'::R')) from
      ⟨i+1,i,D++[b],l,f,rfl,by omega,rfl,by simp[M.out];omega,by have:=Y.out;simp at this;omega,ab.out,by have:=aY.out;simpa using this⟩)
     by_cases a3:0<kb
     ·have a9:¬kb<ka:=λh=>y ⟨a3,h⟩;clear y;go_wp2;go_roundw
      case rel=>
       obtain⟨i',k',D',R',b',h1,h2,rfl,h4,h5,h6,h7⟩:=qY.out;exact⟨i+1,k',D',R',b',h1,h2,rfl,h4,h5,h6,h7,V,mF⟩
      case measure=>simp[intOf];omega
     clear y;go_wp2;go_roundw
     case rel=>
      obtain⟨i',k',D',R',b',h1,h2,rfl,h4,h5,h6,h7⟩:=qY.out;exact⟨i+1,k',D',R',b',h1,h2,rfl,h4,h5,h6,h7,V,mF⟩
     case measure=>simp[intOf];omega
    have a_:i=n:=by omega
    have am:R=[]:=iJ.1 (by omega);have R9:=aa (aV.out (D++[b]) (by rw[<-I,am];rfl));have aZ:=aa (show wr.ownsRow (w.heap.size+1) bB 1 (.slice a1 n Ao) n (ints (D++[b])) from by rw[am] at m;exact m);have M:=aa (show(D++[b]).length=n by simp;omega);clear I am m z A;go_wp2;go_roundw
    case rel=>exact⟨t+1,D++[b],by omega,rfl,M.out,R9.out,aZ.out,hI,S⟩
    case measure=>simp[intOf];omega
  have aD:t=n:=by omega
  have HF:=aa (show wr.ownsRow w.heap.size bB 1 (.slice a1 n Ao) L.length (ints (gL K L)) from by
   rw[aD,ns] at B;have e1:O=gL K L:=by rw[<-BM,<-HN.out,<-B];rfl
   rw[<-e1,<-HN.out]
   exact aT m (by omega))
  clear B m N aD;go_wp2;go_ret;exact⟨_,rfl,by rw[<-a2.out];exact HF.out,S⟩
def Em {L:List Nat} (h:jq w v T X) (p:aY T X) (hl:bG w u (ints L)) (hL:∀x∈L,aP x) (o:T.length<1000000) (YS:L.length<10000) :
 Calls prog 8 #[v,u] w λe w'=>∃r,e=.returned r/\w'.ownsRow w.heap.size bB 1 r (gQ T L).length (ints (gQ T L))/\Below w.heap.size w w':=by
 have HT:=aa h;obtain⟨a,P,cap,Q,O,K,rfl⟩:=h.shape;obtain⟨n,hn⟩:=ae L.length;obtain⟨al,cl,rfl,_,A⟩:=bG.nO hl hn;have M:=aa hn;have HX:=aa A;have HL:=aa hL;have Ja:n<10000:=by omega
 have HV:=aa p;have Q_:=aa (λl=>jJ p l);have Vx:=aa (λc=>il p c);have ac:=aa (λ(W:World) (E:Below w.heap.size w W) (c:Nat) (s:c<1114112)=>wD (HT.out.mono E) c s (λr V x A=>((p.fine r V).2.2.2.2 x A).2.1) (λr V=>ia (p.fine r V).2.2.1 (by decide)) o);have ab:=aa (show ∀(W:World) (E:Below w.heap.size w W) (c:Nat) (s:c<1114112),Calls prog 36 #[.agg #[.slice a P cap,.slice Q O K],.int .i64 c] W λe w'=>∃r,e=.returned (.tuple #[r,.bool true])/\bG w' r (ints (aD T c))/\Below W.heap.size W w' from λW E c s=>(ac.out W E c s).mono λe w' ⟨r,h1,N,Y⟩=>⟨r,by rw[h1,decide_eq_true (pE p c)],N (pE p c),Y⟩);have hb:=ah (w:=w) (.cells #[.slice a P cap,.slice Q O K] 25);obtain⟨d,z⟩:=ae (w.alloc (.cells #[.slice a P cap,.slice Q O K] 25));have d0:d.cell? ⟨w.heap.size,0,none⟩=some (.slice a P cap):=by rw[z];unfold World.cell?;rw[heap_alloc_new];rfl
 have d1:d.cell? ⟨w.heap.size,1,none⟩=some (.slice Q O K):=by rw[z];unfold World.cell?;rw[heap_alloc_new];rfl
 rw[<-z] at hb;obtain⟨W1,f⟩:=ae (d.alloc (.cells #[] bB));have I:Below d.heap.size d W1:=by subst f;exact ah _
 have o1:W1.ownsRow d.heap.size bB 1 (.slice (some ⟨w.heap.size+1,0,none⟩) 0 0) 0 (ints []):=by
  subst f;have:=rM d bB;rw[show d.heap.size=w.heap.size+1 by rw[z];simp] at this⊢;exact this
 rw[z] at f;have am:d.heap.size=w.heap.size+1:=by rw[z];simp
 have U:=aa (λ(W:World) (E:Below w.heap.size w W)=>HT.out.mono E);clear z h hl A hn hL p YS;go_enter func8,ntmps8;go_wp2_with fail;rw[<-f];clear f;go_loopw [5,13] (λov iv wr=>∃j:Nat,j<=n/\iv=.int .i64 j/\wr.ownsRow d.heap.size bB 1 ov ((L.take j).flatMap (aD T)).length (ints ((L.take j).flatMap (aD T)))/\Below d.heap.size d wr) (λ_ iv _=>n-(intOf iv).toNat)
 case atStart=>exact⟨0,ic _,rfl,o1,I⟩
 case round=>
  clear o1 I;obtain⟨j,hj,rfl,D,J⟩:=hrel;have F:=af hb J;have e0:=aB J d0;have e1:=aB J d1;obtain⟨YW,ag,rfl,_,_⟩:=ak D;by_cases an:j<n
  ·have q:j<L.length:=by have:=M.out;omega
   obtain⟨b,off,rfl,aj,s⟩:=HX.out j q;have s:=aB F s;have A:=(HL.out _ (gw q)).1;have g:=Q_.out (L.take j);rw[jn] at g;have ES:=aa (show(L.take (j+1)).flatMap (aD T)=(L.take j).flatMap (aD T)++aD T L[j] by rw[gR q,j7];simp);generalize (L.take j).flatMap (aD T)=S at *;generalize L[j]=x at *;have FA:=aa (ab.out wr F x A);have Z:=Vx.out x;have HO:=aa D;clear D A;go_wp2_with fail;refine FA.out.mono ?_;rintro e w2⟨r2,rfl,s2,N⟩;have t:=af J N;have H:=aa (aH HO.out N);have S2:=aa s2;generalize aD T x=m at *;obtain⟨nm,i⟩:=ae m.length;obtain⟨a2,c2,rfl,_,_⟩:=bG.nO s2 i;have y:(ints m).length=nm:=by rw[ek,i]
   have sN:=aa i;have ad:S.length<=320000:=by omega
   rw[<-i] at Z;clear FA s2 i HO e0 e1;go_wp2_with (at_builtin;refine bR rfl _ _ 23 rfl d.heap.size bB _ 8 jN _ S.length _ rfl H.out _ (ints m) rfl S2.out (kJ m) (by rw[y];unfold maxLen;omega) (by rw[y];omega) t.size ?_;intro v' w3 C B);have lH:=t.grown B t.size (λk hk=>(H.out.lt k hk).1);go_roundw
   case rel=>exact⟨j+1,by omega,rfl,by rw[ES.out,qG,gn,<-sN.out,<-y];exact C,lH⟩
   case measure=>simp[intOf];omega
  obtain rfl:n=j:=by omega
  have g:=Q_.out L;rw[<-M.out] at g;have G:=aa (P7 (U.out wr F) (Sl.aU D).any o (by rw[iu (by rw[M.out];exact d' _)];omega));have EQ:=aa (show gL (ai T) ((L.take n).flatMap (aD T))=gQ T L by rw[iu (by rw[M.out];exact d' _)];rfl);have R:=aa (show((L.take n).flatMap (aD T)).length=(gQ T L).length by rw[<-EQ.out];exact(by rw[<-BM,BK]));rw[EQ.out,R.out] at G;rw[R.out];rw[R.out] at D;clear D;go_wp2_with fail;refine G.out.mono ?_;rintro e w3⟨r3,rfl,o3,Y⟩;go_wp2;go_ret;exact⟨_,rfl,aT o3 (by have:=F.size;omega),F.trans (Y.mono F.size)⟩
end Go.Proofs.YtmnimbnojdndmaaGreatDoor
