/- An NFD counts as its units do, multiplied; no condition. -/
import Derived.Test.YtmnimbnojdndmaaGreatDoorR27
import Derived.OpenShut
import Derived.DataShut
import Derived.Deep.Slices
import Derived.Deep.Strs
import Derived.SizedLaws
import Derived.Lib.LaidTab
import Derived.Lib.LaidU8
import Derived.ShapedOpen
set_option maxRecDepth 100000
set_option maxHeartbeats 6400000
set_option linter.all false
def z_:=@Nat.le_refl
def z0:=@List.length_append
def z1:=@Nat.zero_le
def z2:=@List.mem_append
def z3:=@List.mem_singleton
def z4:=@Option.some.inj
def z5:=@List.length_map
def z6:=@List.length_cons
def z7:=@List.getElem_mem
def z8:=@List.getElem?_eq_getElem
def z9:=@List.getElem?_append_right
namespace Go.Proofs.YtmnimbnojdndmaaGreatDoor
open Go.RowKit Go.Cd _root_.Go.Proofs.Tryz
variable {w:World} {k:Nat} {u v:Value} {l X:List Nat} {T:List aG}
structure P5 (T:List aG) (X:List Nat):Prop where
 valid:aY T X
 says:∀q∈T,0<q.cls\/q.map≠[]
 len:T.length<=20
 ahH:X.length<=30
 ahI:∀y∈X,aP y
def Al (w:World) (k:Nat):Prop:=∃b T,Is w k b T/\∀u∈b.toList,∃a n c,u=.slice a n c
def Al.int {o:Nat} (h:Al w k) {q:IntKind} {x:Int} (b:w.cell? ⟨k,o,none⟩=some (.int q x)):False:=by
 obtain⟨i,T,g,d⟩:=h;rw[g.cell] at b;have f:Value.int q x∈i.toList:=by rw[<-Array.getElem?_toList] at b;exact List.mem_of_getElem? b
 obtain⟨a,n,c,e⟩:=d _ f;cases e
def vF {o b o':Nat} (c:b≠k):(w.setCell ⟨k,o,none⟩ u).cell? ⟨b,o',none⟩=w.cell? ⟨b,o',none⟩:=
 World.cell?_of_block (a:=⟨b,o',none⟩) (Below.heap_setCell _ _ _ _ (by simp only;exact λe=>c e))
def bG.Dt (h:bG w v (ints l)) (n:Al w k) (o:Nat) (u:Value):bG (w.setCell ⟨k,o,none⟩ u) v (ints l):=by
 obtain⟨a,cap,j,s,h⟩:=h;refine⟨a,cap,j,s,?_⟩;rcases h with h|⟨b,off,r,e,p,d,f,g⟩
 ·exact .inl h
 cases i:l with
 | nil=>subst i;exact .inl ⟨rfl,λe=>by rw[d] at e;cases e⟩
 | cons x l'=>
   subst i;have c:b≠k:=λm=>by
    subst m;have h0:=g 0 (by simp);refine n.int (o:=off) (q:=.i64) (x:=(x:Nat)) ?_;unfold World.cell?;rw[f];simpa [ints] using h0
   exact .inr ⟨b,off,r,e,p,d,(Below.heap_setCell _ _ _ _ (by simp only;exact λe=>c e)).trans f,g⟩
def bG.dK (h:bG w v (aM l)) (n:Al w k) (o:Nat) (u:Value):bG (w.setCell ⟨k,o,none⟩ u) v (aM l):=by
 obtain⟨a,cap,j,s,h⟩:=h;refine⟨a,cap,j,s,?_⟩;rcases h with h|⟨b,off,r,e,p,d,f,g⟩
 ·exact .inl h
 cases i:l with
 | nil=>subst i;exact .inl ⟨rfl,λe=>by rw[d] at e;cases e⟩
 | cons x l'=>
   subst i;have c:b≠k:=λm=>by
    subst m;have h0:=g 0 (by simp);refine n.int (o:=off) (q:=.i32) (x:=(x:Nat)) ?_;unfold World.cell?;rw[f];simpa [aM] using h0
   exact .inr ⟨b,off,r,e,p,d,(Below.heap_setCell _ _ _ _ (by simp only;exact λe=>c e)).trans f,g⟩
def cK.put {p:Nat} (h:cK w p T X) {i:Array Value} {t:TypeId} (f:Is w k i t) (F:Al w k) (g:i.size<=100) (O:156≠t) (j:h_≠t) (B:178≠t) (a:aN≠t) (o:Nat) (u:Value) :
 cK (w.setCell ⟨k,o,none⟩ u) p T X:=by
 obtain⟨E,N,xv,C,m,L,z,n,H,I,q,d,K,v,s1,s2,s3,D⟩:=h;have c:=bJ.put (o:=o) f u;obtain⟨R,A,P,M⟩:=d.rows;obtain⟨G,s,Q,J⟩:=d.bm
 exact⟨E,N,xv,C,m,L,z,n,H,I,q,⟨c.is d.is O,⟨R,A,c.own P j,λx b=>c.own (M x b) a⟩,c.own d.qp B,d.mG,λx b=>c.own (d.full x b) a,λx b=>c.own (d.maps x b) a,d.qV,
  ⟨G,c.map s,λx u l=>by obtain⟨y,e,r⟩:=Q x u l;exact⟨y,e,c.own r a⟩,J⟩,c.map d.jm⟩,K.put f g u,v.put f g u,c.own s1 a,c.own s2 a,c.own s3 a,bG.dK D F o u⟩
def jq.Dt (h:jq w v T X) (f:Al w k) (o:Nat) (u:Value):jq (w.setCell ⟨k,o,none⟩ u) v T X:=by
 obtain⟨r,x,q,⟨a,cap,n,t,y⟩,l⟩:=h;refine⟨r,x,q,⟨a,cap,n,t,λi p=>?_⟩,bG.Dt l f o u⟩;obtain⟨b,off,m,s,d,g,z,j,A⟩:=y i p;have c:b≠k:=λe=>f.int (e▸g);exact⟨b,off,m,s,by simpa using d,(vF c).trans g,(vF c).trans z,(vF c).trans j,bG.Dt A f o u⟩
def P6 (h:P5 T X):NG T:=by
 refine⟨λr a=>?_,λr a=>(h.says r a).imp (λh=>by omega) id,λr a=>(h.valid.fine r a).1,h.valid.rise,by have:=h.len;omega⟩;obtain⟨d,b,c,_,f⟩:=h.valid.fine r a;exact⟨d.1,b,c,λx e=>(f x e).2.1⟩
def Uj {r:aG} (h:r.map.length<=2):(kD r).length<=100:=by
 have:=bU r.code;have:(iP r.cls).length<=3:=by unfold iP;split <;> (try split) <;> simp
 have:(dD r.map).length<=13:=by
  match r.map,h with
  | [],_=>simp[dD]
  | [a],_=>have:=bU a;simp[dD];omega
  | [a,b],_=>have:=bU a;have:=bU b;simp[dD];omega
 unfold kD;simp only[z0,z6,List.length_nil];omega
def Uk (h:P5 T X):(iV T).length<1000000:=by
 have key:∀L:List aG,(∀r∈L,r.map.length<=2)->(iV L).length<=101*L.length:=λL=>by
  induction L with
  | nil=>intro _;simp[iV,bA]
  | cons r L ih=>
    intro b;have c:=ih λr a=>b r (by simp[a]);have:=Uj (b r (by simp));unfold iV bA at c⊢;rw[List.map_cons,List.flatMap_cons,z0,z0,z6];simp only[z6,List.length_nil];omega
 have:=key T λr a=>(h.valid.fine r a).2.2.1;have:=h.len;omega
def MW (h:P5 T X):(∀r∈T,r.code<1114112/\r.cls<1000/\r.map.length<=2/\∀x∈r.map,x<1114112)/\(∀x∈X,x<1114112):=
 ⟨λr d=>by
   obtain⟨c,f,b,_,e⟩:=h.valid.fine r d
   exact⟨c.1,by omega,b,λx a=>(e x a).2.1⟩,λx a=>(h.ahI x a).1⟩
def Ul (hG:dL w) {T:List gX} {X:List Int} (h:PT w v T X) :
 Calls prog 34 #[v] w λe w'=>∃p r q t,e=.returned (.tuple #[.pointer (some ⟨p,0,none⟩),r])/\cK w' p q t/\jq w' r q t/\P5 q t/\Below w.heap.size w w':=by
 obtain⟨r1,x1,rfl,O,N⟩:=id h;obtain⟨ra,nt,rc,rfl⟩:∃a n c,r1=.slice a n c:=by obtain⟨a,cap,rfl,_⟩:=O;exact⟨_,_,_,rfl⟩
 obtain⟨xa,nx,xc,rfl⟩:∃a n c,x1=.slice a n c:=by obtain⟨a,cap,rfl,_⟩:=N.out;exact⟨_,_,_,rfl⟩
 obtain⟨w1,m⟩:=ae ((w.alloc (.cells #[.slice ra nt rc,.slice xa nx xc] 25)).alloc (.cells #[.slice none 0 0,.slice none 0 0] 25));have Q:Below w.heap.size w w1:=by rw[m];exact dH _ _
 have Z:Is w1 w.heap.size #[.slice ra nt rc,.slice xa nx xc] 25:=by rw[m];exact(Is.new _ _ _).mono (ah _)
 have j1:Is w1 (w.heap.size+1) #[.slice none 0 0,.slice none 0 0] 25:=by rw[m];exact Is.new' _ _ _ _ (by simp)
 have RT:=aa (XW (h.mono Q));have B:=Z.at 0 rfl;have y:=Z.at 1 rfl;clear h O N;go_enter func34,ntmps34;go_wp2_with fail;rw[<-m];clear m;refine RT.out.mono ?_;rintro e w2⟨r,q,t,rfl,hT,hV,hS,hl,Yk,P,C⟩;have HT:=aa hT;obtain⟨r2,x2,rfl,V,S⟩:=hT;obtain⟨g,d,f,rfl⟩:∃a n c,r2=.slice a n c:=by obtain⟨a,cap,rfl,_⟩:=V;exact⟨_,_,_,rfl⟩
 obtain⟨j,k,l,rfl⟩:∃a n c,x2=.slice a n c:=by obtain⟨a,cap,rfl,_⟩:=S.out;exact⟨_,_,_,rfl⟩
 have b:P5 q t:=⟨hV,hS,hl,Yk,P⟩;have HF:=aa b;clear hV hS hl Yk P V S B y RT b;have gN:=af Q C;have H:=Z.mono C;have j2:=j1.mono C;have:w.heap.size+1<w2.heap.size:=by have:=j2.lt;omega
 have B:=H.at 0 rfl;have y:=H.at 1 rfl;have f0:=H.frozen 0;have f1:=H.frozen 1;obtain⟨w3,i⟩:=ae ((w2.setCell ⟨w.heap.size,0,none⟩ (.slice g d f)).setCell ⟨w.heap.size,1,none⟩ (.slice j k l));have M:Al w2 w.heap.size:=⟨_,_,H,by simp⟩;have F:=H.set 0 (.slice g d f);have U:Al (w2.setCell ⟨w.heap.size,0,none⟩ (.slice g d f)) w.heap.size:=⟨_,_,F,by simp⟩;have G:jq w3 (.agg #[.slice g d f,.slice j k l]) q t:=by rw[i];exact(HT.out.Dt M 0 _).Dt U 1 _
 have k3:Is w3 w.heap.size #[.slice g d f,.slice j k l] 25:=by rw[i];exact F.set 1 _
 have j3:Is w3 (w.heap.size+1) #[.slice none 0 0,.slice none 0 0] 25:=by rw[i];exact(j2.put (by omega) _).put (by omega) _
 have ak:Below w.heap.size w w3:=by rw[i];exact aj (aj gN (z_ _)) (z_ _)
 have b:=HF.out;have TX:=aa (XY G (MW b).1 (by have:=b.len;omega) (MW b).2 (by have:=b.ahH;omega));have ab:=aa G;have LD:=aa (λ(W:World) (E:Below w.heap.size w W)=>MG (hG.mono E) (P6 b) (Uk b) b.valid (λr hr=>(b.says r hr).imp (λh=>by omega) id) (by have:=b.len;omega) (by have:=b.ahH;omega) b.ahI);obtain⟨s1,A⟩:∃s,s=tx (iV q):=⟨_,rfl⟩;obtain⟨s2,Tj⟩:∃s,s=tx (eP t):=⟨_,rfl⟩;rw[<-A,<-Tj] at TX;rw[<-A,<-Tj] at LD;clear G M U F Z j1 H j2 b A Tj HT hG;go_wp2_with fail;rw[<-i];clear i B y f0 f1;have B:=k3.at 0 rfl;have y:=k3.at 1 rfl;go_wp2_with fail;refine TX.out.mono ?_;rintro e w4⟨rfl,K⟩;have CP:=af ak K;clear B y;go_wp2_with fail;refine(LD.out w4 CP).mono ?_;rintro e w5⟨p,rfl,hD,I⟩;have MC:=af K I;have k5:=k3.mono MC;have o:=j3.mono MC;have B:=k5.at 0 rfl;have y:=k5.at 1 rfl;have g0:=o.at 0 rfl;have g1:=o.at 1 rfl;have q0:=o.frozen 0;have q1:=o.frozen 1;have J:=ab.out.mono MC;have al:=aa J;have HD:=aa hD;have J5:=aa o;have ac:Below w.heap.size w w5:=af CP I;clear J hD k5 o k3 j3 TX LD;go_wp2_with fail;go_region;have o:=J5.out;have D:Al w5 (w.heap.size+1):=⟨_,_,o,by simp⟩;have x:=o.set 0 (.slice g d f);have z:Al (w5.setCell ⟨w.heap.size+1,0,none⟩ (.slice g d f)) (w.heap.size+1):=⟨_,_,x,by simp⟩;have L:=(HD.out.put o D (show 2<=100 by omega) (by decide) (by decide) (by decide) (by decide) 0 (.slice g d f)).put x z (show 2<=100 by omega) (by decide) (by decide) (by decide) (by decide) 1 (.slice j k l);have ZU:=(al.out.Dt D 0 (.slice g d f)).Dt z 1 (.slice j k l);have k6:=x.set 1 (.slice j k l);have R:=(aj (off:=1) (u:=.slice j k l) (aj (off:=0) (u:=.slice g d f) ac (Nat.le_succ _)) (Nat.le_succ _)).drew;obtain⟨w6,Y⟩:=ae (((w5.setCell ⟨w.heap.size+1,0,none⟩ (.slice g d f)).setCell ⟨w.heap.size+1,1,none⟩ (.slice j k l)).drew);have k7:Is w6 (w.heap.size+1) #[.slice g d f,.slice j k l] 25:=by rw[Y];exact k6.mono (ag _)
 have v0:=k7.at 0 rfl;have v1:=k7.at 1 rfl;have ai:=aa (show cK w6 p q t from by rw[Y];exact L.mono (ag _));have ad:=aa (show jq w6 (.agg #[.slice g d f,.slice j k l]) q t from by rw[Y];exact ZU.mono (ag _));rw[<-Y] at R⊢;clear Y L ZU k6 k7 D z o x B y g0 g1 q0 q1;go_wp2_with fail;exact bodyPost_ret (v:=.tuple #[.pointer (some ⟨p,0,none⟩),.agg #[.slice g d f,.slice j k l]]) (by simp[results,results34,go_sem,v0,v1]) rfl ⟨p,_,q,t,rfl,ai.out,ad.out,HF.out,R⟩
def ab1 (i:Int) {S:Nat} (h:1<=S) (d:S<=281474976710656):∃A:Nat,A<S/\(wrap64 (i.tmod (S:Int)+(S:Int))).tmod (S:Int)=(A:Int):=by
 have e:-(S:Int)<i.tmod (S:Int):=Int.neg_lt_of_neg_lt (by have:=Int.tmod_lt_of_pos (-i) (show(0:Int)<(S:Int) by omega);rw[Int.neg_tmod] at this;exact this);have c:i.tmod (S:Int)<(S:Int):=Int.tmod_lt_of_pos i (by omega);generalize i.tmod (S:Int)=q at *;obtain⟨m,a⟩:∃m:Nat,q+(S:Int)=(m:Int):=⟨(q+(S:Int)).toNat,by omega⟩;have b:wrap64 (q+(S:Int))=(m:Int):=by rw[a];unfold wrap64;omega
 rw[b,<-Int.ofNat_tmod];exact⟨m % S,Nat.mod_lt _ h,rfl⟩
def Gq (w:World) (v:Value) (T:List gX) (X:List Int) (pk mr:List Int):Prop:=∃r x p m,v=.agg #[r,x,p,m]/\PT w (.agg #[r,x]) T X/\bG w p (bO pk)/\bG w m (bO mr)
def Gq.mono {w':World} {T:List gX} {X b c:List Int} (h:Gq w v T X b c) (a:Below w.heap.size w w'):Gq w' v T X b c:=by
 obtain⟨r,x,p,m,e,g,d,f⟩:=h;exact⟨r,x,p,m,e,g.mono a,d.mono a,f.mono a⟩
def aa9 (hG:dL w) {T0:List gX} {X0 pk mr:List Int} (h:Gq w v T0 X0 pk mr) (b0:mr.length<281474976710656) (d:Nat) (b4:d<=100) :
 Calls prog 7 #[v,.int .i64 d] w λe w'=>∃p r T X lv L,e=.returned (.tuple #[.pointer (some ⟨p,0,none⟩),r,lv,.bool true])/\cK w' p T X/\jq w' r T X/\P5 T X/\bG w' lv (ints L)/\L.length<=d/\(∀c∈L,aP c)/\Below w.heap.size w w':=by
 obtain⟨r0,x0,pv,mv,rfl,hT,hp,hm⟩:=h;obtain⟨bW,b5,he,aY,z⟩:=id hT;simp only[Value.agg.injEq,Array.mk.injEq,List.cons.injEq,and_true] at he;obtain⟨rfl,rfl⟩:=he;obtain⟨ra,nt,rc,rfl⟩:∃a n c,r0=.slice a n c:=by obtain⟨a,cap,rfl,_⟩:=aY;exact⟨_,_,_,rfl⟩
 obtain⟨xa,nx,xc,rfl⟩:∃a n c,x0=.slice a n c:=by obtain⟨a,cap,rfl,_⟩:=z.out;exact⟨_,_,_,rfl⟩
 obtain⟨np,Ux⟩:=ae pk.length;obtain⟨nm,aT⟩:=ae mr.length;obtain⟨pa,pc,rfl,_,bh⟩:=Go.Proofs.YtmnimbnojdndmaaGreatDoor.bG.MI hp Ux;obtain⟨ma,mc,rfl,_,be⟩:=Go.Proofs.YtmnimbnojdndmaaGreatDoor.bG.MI hm aT;obtain⟨w0,J⟩:=ae ((w.alloc (.cells #[.slice ra nt rc,.slice xa nx xc,.slice pa np pc,.slice ma nm mc] 27)).alloc (.cells #[.slice none 0 0,.slice none 0 0] 25));have aS:Below w.heap.size w w0:=by rw[J];exact dH _ _
 have k0:Is w0 w.heap.size #[.slice ra nt rc,.slice xa nx xc,.slice pa np pc,.slice ma nm mc] 27:=by rw[J];exact(Is.new _ _ _).mono (ah _)
 have k1:Is w0 (w.heap.size+1) #[.slice none 0 0,.slice none 0 0] 25:=by rw[J];exact Is.new' _ _ _ _ (by simp)
 have LD:=aa (Ul (hG.mono aS) (hT.mono aS));have e0:=k0.at 0 rfl;have e1:=k0.at 1 rfl;have HP:=aa bh;have HM:=aa be;have Yj:=aa Ux;have sN:=aa aT;have bu:w.heap.size+2<=w0.heap.size:=by rw[J];simp
 clear hG hT aY z hp hm Ux aT bh be;go_enter func7,ntmps7;go_wp2_with fail;rw[<-J];clear J;refine LD.out.mono ?_;rintro e w1⟨p,r,T,X,rfl,hD,ai,hF,ar⟩;obtain⟨rr,rx,rfl,⟨E,C,rfl,_,bc⟩,aZ⟩:=id ai;obtain⟨U,V,R,rfl⟩:∃a n c,rx=.slice a n c:=by obtain⟨a,c,h,_⟩:=bG.out aZ;exact⟨_,_,_,h⟩
 obtain⟨n,hn⟩:=ae T.length;rw[<-hn] at ai⊢;have bV:n<=20:=by rw[hn];exact hF.len
 have bf:=af aS ar;have bs:=bf.size;have k0:=k0.mono ar;have k1:=k1.mono ar;obtain⟨H,P⟩:=ae (w1.alloc (.cells #[.slice E n C,.slice U V R] 25));have gN:=aO P;have k9:=Is.nw P;have bi:=bf.trans (gN.mono bs);have k0:=k0.mono gN;have k1:=k1.mono gN;have bO:=bi.size;have Z_:=gN.size;have a7:H.heap.size=w1.heap.size+1:=by rw[P];simp
 have b3:w.heap.size+2<=w1.heap.size:=Nat.le_trans bu ar.size;have b8:=k9.lt;have HD:=aa hD;have bo:=aa ai;have HF:=aa hF;have HN:=aa hn;have bP:=aa bc;have Tq:=ah (w:=H) (.cells #[.int .i64 65,.int .i64 97,.int .i64 768,.int .i64 4352,.int .i64 4449,.int .i64 4520,.int .i64 44032,.int .i64 44033] bB);have a6:=mU H #[.int .i64 65,.int .i64 97,.int .i64 768,.int .i64 4352,.int .i64 4449,.int .i64 4520,.int .i64 44032,.int .i64 44033] bB 8 rfl (by decide);have a5:=(k9.mono Tq).at 0 rfl;rw[P] at a5;clear hD ai hF hn bc LD aZ e0 e1;go_wp2_with fail;rw[<-P] at a5⊢;clear P;generalize H.alloc (.cells #[.int .i64 65,.int .i64 97,.int .i64 768,.int .i64 4352,.int .i64 4449,.int .i64 4520,.int .i64 44032,.int .i64 44033] bB)=w3 at *;have bb:w3.ownsRow H.heap.size bB 1 (.slice (some ⟨w1.heap.size+1,0,none⟩) 8 8) 8 [.int .i64 65,.int .i64 97,.int .i64 768,.int .i64 4352,.int .i64 4449,.int .i64 4520,.int .i64 44032,.int .i64 44033]:=by rw[<-a7];exact a6
 go_loopw [10,12,29] (λo _ jv wr=>∃j:Nat,j<=n/\jv=.int .i64 j/\(∃L:List Nat,wr.ownsRow H.heap.size bB 1 o L.length (ints L)/\8<=L.length/\L.length<=8+3*j/\∀c∈L,aP c)/\Below H.heap.size H wr) (λ_ _ jv _=>n-(intOf jv).toNat)
 case atStart=>
  refine⟨0,z1 _,rfl,⟨[65,97,768,4352,4449,4520,44032,44033],by simpa [ints] using bb,by simp,by simp,?_⟩,Tq⟩;decide
 case round=>
  obtain⟨j,hj,rfl,⟨L,s,bl,Qr,aX⟩,hE⟩:=hrel;have ji:=bi.trans (hE.mono bO);have Je:=ji.size;have bk:=hE.size;have Q:=gN.trans (hE.mono Z_);by_cases b9:j<n
  ·have zj:=eG (show j<n by omega);have a3:j<T.length:=by have:=HN.out;omega
   obtain⟨b,off,m,rfl,_,d0,d1,d2,hm⟩:=bP.out j a3;have l:=(HF.out.valid.fine T[j] (z7 a3));obtain⟨q,hq⟩:=ae (T[j]);rw[<-hq] at d0 d1 hm l;obtain⟨am,cm,rfl,_,_⟩:=bG.out hm;have au:(ints q.map).length=q.map.length:=by simp[ints]
   rw[au] at d2 hm;obtain⟨nq,aQ⟩:=ae q.map.length;rw[<-aQ] at d2 hm;obtain⟨I,aV⟩:=ae q.code;obtain⟨cl,a8⟩:=ae q.cls;rw[<-aV] at d0;rw[<-a8] at d1;have d0:=aB Q d0;have d1:=aB Q d1;have d2:=aB Q d2;have ap:=aa aQ;have bq:=aa aV;have Yu:=aa l;clear hq aQ aV a8 l;go_wp2_with fail;have aM:=ah (w:=wr) (.cells #[.int .i64 (I:Nat),.int .i64 (cl:Nat),.slice am nq cm] 78);have kA:Is _ wr.heap.size #[.int .i64 (I:Nat),.int .i64 (cl:Nat),.slice am nq cm] 78:=Is.new wr _ _;have a9:=aH s aM;have NV:=hE.trans (aM.mono bk);have aL:=af Q aM;have DZ:=kA.lt;have bX:H.heap.size<=wr.heap.size:=bk;generalize wr.alloc (.cells #[.int .i64 (I:Nat),.int .i64 (cl:Nat),.slice am nq cm] 78)=wl at *;have ba:=aH a9 (ag wl);have al:=kA.mono (ag wl);have g0:=vG.keeps (S:=λk=>k=wr.heap.size) (al.at 0 rfl) rfl;have g2:=vG.keeps (S:=λk=>k=wr.heap.size) (al.at 2 rfl) rfl;refine dF (KR.blocks λk=>k=wr.heap.size) (Array.replicate 9 true) 9 0 mixed ?_;refine bZ [0,1,2,5,6] 4 ?_
   iterate 5 (refine aA rfl ?_;go_big_quiet_step (rfl))
   refine az ?_;have O:=ah (w:=wl.drew) (.cells #[.int .i64 (I:Nat)] bB);have aD:=al.mono O;have f:=aH ba O;have lN:Below H.heap.size H (wl.drew.alloc (.cells #[.int .i64 (I:Nat)] bB)):=(NV.trans ((ag wl).mono NV.size)).trans (O.mono NV.size);have a4:Below w1.heap.size w1 (wl.drew.alloc (.cells #[.int .i64 (I:Nat)] bB)):=(aL.trans ((ag wl).mono aL.size)).trans (O.mono aL.size);refine bN 3 ?_;go_wp2_with fail;refine bK (KR.of_below O O.size (λk (Y:k=wr.heap.size)=>by subst Y;exact DZ)) ?_;refine bN 4 ?_
   refine ng (W:=wl.drew.alloc (.cells #[.int .i64 (I:Nat)] bB)) rfl _ _ 23 rfl H.heap.size bB (.int .i64 0) 8 jI (by decide) rfl f (by have:=lN.size;exact this) [.int .i64 (I:Nat)] (by simp[Value.oneCell']) ⟨wl.drew.heap.size,0,none⟩ 1 1 rfl rfl (λi u hi=>by
    rcases i with _|i
    ·cases hi;exact(Is.new wl.drew _ bB).at 0 rfl
    cases hi) (by omega) ?_
   intro v5 w5 o5 K bm;have bA:=aD.other f (by decide);have ab:=(bJ.bQ f K).is aD (by decide);have jP:=lN.grown K lN.size (λk Y=>(f.lt k Y).1);have bM:=a4.grown K (by have:=a4.size;exact this) (λk Y=>by have:=(f.lt k Y).1;omega);go_wp2_with fail;refine bK (KR.bQ (w:=wl.drew.alloc (.cells #[.int .i64 (I:Nat)] bB)) K K.size (λk (Y:k=wr.heap.size)=>by subst Y;exact⟨aD.lt,bA⟩)) ?_;refine bN 7 ?_;have bY:nq<=2:=by rw[ap.out];exact Yu.out.2.2.1
   have bH:=ab.other o5 (by decide);refine bR rfl _ _ 23 rfl H.heap.size bB (.int .i64 0) 8 jI _ _ _ rfl o5 _ (ints q.map) rfl (hm.mono bM) (λu hu=>by obtain⟨y,_,rfl⟩:=List.mem_map.1 hu;rfl) (by rw[au,<-ap.out];unfold maxLen;omega) (by rw[au,<-ap.out];omega) jP.size ?_;intro v6 w6 o6 M4;have bv:=jP.grown M4 jP.size (λk Y=>(o5.lt k Y).1);have bp:=(bJ.bQ o5 M4).is ab (by decide);have O6:=aa o6;go_wp2_with fail;refine bK (KR.bQ (w:=w5) M4 M4.size (λk (Y:k=wr.heap.size)=>by subst Y;exact⟨ab.lt,bH⟩)) ?_;refine bZ [8] 0 ?_
   iterate 1 (refine aA rfl ?_;go_big_quiet_step (rfl))
   refine az ?_;refine eU [] ?_;refine tail_nil ?_;clear o6 o5 M4 K bm g0 g2 kA al aD ab bp s a9 ba f d0 d1 d2;go_wp2_with fail;go_roundw
   case rel=>
    refine⟨j+1,by omega,by simp,⟨L++[I]++q.map,?_,?_,?_,?_⟩,bv⟩
    ·have:=O6.out;rw[au] at this;have e1:ints (L++[I]++q.map)=ints L++[.int .i64 (I:Nat)]++ints q.map:=by simp[ints]
     have e2:(L++[I]++q.map).length=L.length+1+q.map.length:=by simp;omega
     rw[e1,e2];exact this
    ·simp;omega
    ·rw[z0,z0,<-ap.out];simp;omega
    intro c D;rcases z2.1 D with D|D
    ·rcases z2.1 D with D|D
     ·exact aX c D
     rw[z3.1 D,bq.out];exact Yu.out.1
    exact(Yu.out.2.2.2.2 c D).2
   case measure=>simp[intOf];omega
  have zj:=gI (show n<=j by omega);obtain rfl:j=n:=by omega
  obtain⟨oa,oc,rfl,_,_⟩:=ak s;have bF:=k0.mono hE;have bT:=k1.mono hE;have bC:=k9.mono hE;obtain⟨nl,aW⟩:=ae L.length;rw[<-aW] at s bl Qr⊢;have Yn:=aa aW;have Yh:=aa aX;have bz:=aa s;clear aX s aW k0 k1 k9 a6 bb Tq;rename World=>wA;go_wp2_with fail;go_loopw [13,14,15] (λlv iv _ bj=>∃i:Nat,i<=np/\i<=d/\iv=.int .i64 i/\(∃M:List Nat,bj.ownsRow wA.heap.size bB 1 lv M.length (ints M)/\M.length=i/\∀c∈M,aP c)/\Below wA.heap.size wA bj) (λ_ iv _ _=>d-(intOf iv).toNat)
  case atStart=>exact⟨0,z1 _,z1 _,rfl,⟨[],World.ownsRow_nil _ _ _ _,rfl,by simp⟩,Below.refl _ _⟩
  case round=>
   obtain⟨i,hi,cb,rfl,⟨M,t,Z,ac⟩,MZ⟩:=hrel;have aw:=ji.trans (MZ.mono Je);have b6:=aw.size;have aK:=bF.mono MZ;have t2:=aK.at 2 rfl;have t3:=aK.at 3 rfl;have bn:=MZ.size;by_cases aE:i<np/\i<d
   ·obtain⟨bL,b7⟩:=aE;have zi:=eG (show i<np by omega);have zm:=eG (show i<d by omega);have bw:i<pk.length:=by have:=Yj.out;omega
    obtain⟨pb,po,rfl,_,p0⟩:=HP.out i bw;have p0:=aB aw p0;obtain⟨x,hx⟩:=ae (pk[i]);rw[<-hx] at p0;have Y7:=aa ac;have ER:=aa Z;have a0:=aa t;clear hx ac Z;by_cases bd:x<0/\0<nm
    ·obtain⟨z,b_⟩:=bd;have zx:decide (x<0)=true:=decide_eq_true z;have zn:decide ((0:Int)<(nm:Int))=true:=decide_eq_true (by omega);have bD:nm<=281474976710656:=by rw[sN.out];omega
     obtain⟨A,hA,bg⟩:=ab1 x (S:=nm) (by omega) bD;obtain⟨mb,mo,rfl,_,m0⟩:=HM.out A (by rw[<-sN.out];exact hA);have m0:=aB aw m0;obtain⟨y,g⟩:∃y,y=mr[A]'(by rw[<-sN.out];exact hA):=⟨_,rfl⟩;rw[<-g] at m0;clear g;go_wp2_with fail;have G3:=Gr.cell (ag wr) t3;have G4:=Gr.cell (ag wr) m0;have b2:((nm:Int)==0)=false:=beq_eq_false_iff_ne.2 (by omega);refine aC #[true,true,true,true,true,true,true,true,true,true,true,true,true,true,true,true,true,true,true,true,true,false,false] 21 2 mixed ?_;refine ay [0,1,2,3,4,5,6,7,8,9,10,11,12,13,14,15,16,17] 3 ?_
     iterate 18 (refine aA rfl ?_;go_big_quiet_step (rfl))
     refine az ?_;refine aI 18 ?_;go_wp2_with fail;refine(jL (w:=wr.drew) y).mono ?_;rintro e w7⟨rfl,rfl⟩;have B:=rT (x:=(y % 2097152).toNat);obtain⟨c,D⟩:=ae (lG (y % 2097152).toNat);rw[<-D] at B⊢;have Uq:=B.1;have ax:=aa B;clear D B;go_wp2_with fail;refine aF (Below.refl _ _) ?_;refine ay [19] 1 ?_
     iterate 1 (refine aA rfl ?_;go_big_quiet_step (rfl))
     refine az ?_;refine aI 20 ?_;go_wp2_with fail;refine aF (ah _) ?_;have bE:=aH t (ag wr);have Za:=MZ.trans ((ag wr).mono bn);have bI:M.length<=100:=by have:=ER.out;omega
     clear t2 t3 G3 G4 p0 m0 aK t;refine aJ [21,22] ?_;refine tail_cons rfl ?_;refine gp rfl _ _ 23 rfl wA.heap.size bB (.int .i64 0) 8 jI _ M.length _ rfl bE (.int .i64 (c:Nat)) rfl rfl (by omega) (by unfold maxLen;omega) wA Za (z_ _) ?_;intro v' w6 o6 mF;have O6:=aa o6;clear o6;refine tail_cons rfl ?_;go_wp2_with fail;refine tail_nil ?_;go_wp2_with fail;go_roundw
     case rel=>
      refine⟨i+1,by omega,by omega,by simp,⟨M++[c],?_,by rw[z0,ER.out];rfl,λy g=>?_⟩,mF⟩
      ·rw[show ints (M++[c])=ints M++[.int .i64 (c:Nat)] by simp[ints],show(M++[c]).length=M.length+1 by simp];exact O6.out
      rcases z2.1 g with g|g
      ·exact Y7.out y g
      rw[z3.1 g];exact ax.out
     case measure=>simp[intOf];omega
    have bx:nl<=281474976710656:=by omega
    obtain⟨A,hA,bg⟩:=ab1 x (S:=nl) (by omega) bx;have DZ:A<L.length:=by rw[<-Yn.out];exact hA
    obtain⟨lb,ca,he,_,_,_,_,F⟩:=dz bz.out (show 0<nl by omega);injection he with bt _ br;subst bt br;have m0:=aB MZ (F A (.int .i64 (L[A]:Nat)) (by simp[ints,DZ]));have B:=Yh.out _ (z7 DZ);obtain⟨c,D⟩:=ae (L[A]);rw[<-D] at m0 B;have ax:=aa B;have bI:M.length<=100:=by have:=ER.out;omega
    have b1:((nl:Int)==0)=false:=beq_eq_false_iff_ne.2 (by omega);clear D B F;by_cases z:x<0
    ·have zx:decide (x<0)=true:=decide_eq_true z;have zn:decide ((0:Int)<(nm:Int))=false:=decide_eq_false (λh=>bd ⟨z,by omega⟩);go_wp2_with (at_builtin;refine gp rfl _ _ 23 rfl wA.heap.size bB (.int .i64 0) 8 jI _ M.length _ rfl t (.int .i64 (c:Nat)) rfl rfl (by omega) (by unfold maxLen;omega) wA MZ (z_ _) ?_;intro v' w6 o6 mF);go_roundw
     case rel=>
      refine⟨i+1,by omega,by omega,by simp,⟨M++[c],?_,by rw[z0,ER.out];rfl,λy g=>?_⟩,mF⟩
      ·rw[show ints (M++[c])=ints M++[.int .i64 (c:Nat)] by simp[ints],show(M++[c]).length=M.length+1 by simp];exact o6
      rcases z2.1 g with g|g
      ·exact Y7.out y g
      rw[z3.1 g];exact ax.out
     case measure=>simp[intOf];omega
    have zx:decide (x<0)=false:=decide_eq_false z;rw[Int.tmod_eq_emod_of_nonneg (show 0<=x by omega)] at bg;go_wp2_with (at_builtin;refine gp rfl _ _ 23 rfl wA.heap.size bB (.int .i64 0) 8 jI _ M.length _ rfl t (.int .i64 (c:Nat)) rfl rfl (by omega) (by unfold maxLen;omega) wA MZ (z_ _) ?_;intro v' w6 o6 mF);go_roundw
    case rel=>
     refine⟨i+1,by omega,by omega,by simp,⟨M++[c],?_,by rw[z0,ER.out];rfl,λy g=>?_⟩,mF⟩
     ·rw[show ints (M++[c])=ints M++[.int .i64 (c:Nat)] by simp[ints],show(M++[c]).length=M.length+1 by simp];exact o6
     rcases z2.1 g with g|g
     ·exact Y7.out y g
     rw[z3.1 g];exact ax.out
    case measure=>simp[intOf];omega
   have a_:(decide ((i:Int)<(np:Int))&&decide ((i:Int)<(d:Int)))=false:=by
    rcases Decidable.not_and_iff_or_not.1 aE with h|h
    ·rw[decide_eq_false (show ¬((i:Int)<(np:Int)) by omega)];rfl
    rw[decide_eq_false (show ¬((i:Int)<(d:Int)) by omega),Bool.and_false]
   obtain⟨an,ad,rfl,_,_⟩:=ak t;obtain⟨nM,aR⟩:=ae M.length;rw[<-aR] at t Z⊢;have bS:=aa aR;have a0:=aa t;have Y7:=aa ac;have ER:=aa Z;have aN:=bC.mono MZ;have G:=bT.mono MZ;have j0:=aN.at 0 rfl;have j1:=aN.at 1 rfl;have bU:w.heap.size+2<=wA.heap.size:=by omega
   clear aR t ac Z;have N:=G;have f0:=N.at 0 rfl;have f1:=N.at 1 rfl;have q0:=N.frozen 0;have q1:=N.frozen 1;have v0:=(N.set 0 (.slice E j C)).set 1 (.slice U V R);have g0:=v0.at 0 rfl;have g1:=v0.at 1 rfl;have l:=(aj (off:=1) (u:=.slice U V R) (b:=w.heap.size+1) (aj (off:=0) (u:=.slice E j C) (b:=w.heap.size+1) aw (by omega)) (by omega)).trans ((ag _).mono (by simp;omega));have aG:=(Q.trans (MZ.mono Q.size));have av:Al wr (w.heap.size+1):=⟨_,_,G,by intro u hu;simp at hu;exact⟨none,0,0,hu⟩⟩
   have ao:Al (wr.setCell ⟨w.heap.size+1,0,none⟩ (.slice E j C)) (w.heap.size+1):=⟨_,_,G.set 0 (.slice E j C),by
    intro u hu;simp at hu
    rcases hu with rfl|rfl <;> exact⟨_,_,_,rfl⟩⟩
   have aq:∃p' r' T' X' Sa L',Ending.returned (.tuple #[.pointer (some ⟨p,0,none⟩),.agg #[.slice E j C,.slice U V R],.slice an nM ad,.bool true])=.returned (.tuple #[.pointer (some ⟨p',0,none⟩),r',Sa,.bool true])/\cK (((wr.setCell ⟨w.heap.size+1,0,none⟩ (.slice E j C)).setCell ⟨w.heap.size+1,1,none⟩ (.slice U V R)).drew) p' T' X'/\jq (((wr.setCell ⟨w.heap.size+1,0,none⟩ (.slice E j C)).setCell ⟨w.heap.size+1,1,none⟩ (.slice U V R)).drew) r' T' X'/\P5 T' X'/\bG (((wr.setCell ⟨w.heap.size+1,0,none⟩ (.slice E j C)).setCell ⟨w.heap.size+1,1,none⟩ (.slice U V R)).drew) Sa (ints L')/\L'.length<=d/\(∀c∈L',aP c)/\Below w.heap.size w (((wr.setCell ⟨w.heap.size+1,0,none⟩ (.slice E j C)).setCell ⟨w.heap.size+1,1,none⟩ (.slice U V R)).drew):=by
    refine⟨p,.agg #[.slice E j C,.slice U V R],T,X,.slice an nM ad,M,rfl,?_,?_,HF.out,?_,by have:=ER.out;have:=bS.out;omega,Y7.out,l⟩
    ·exact(((HD.out.mono aG).put G av (show 2<=100 by omega) (by decide) (by decide) (by decide) (by decide) 0 _).put (G.set 0 (.slice E j C)) ao (show 2<=100 by omega) (by decide) (by decide) (by decide) (by decide) 1 _).mono (ag _)
    ·exact(((bo.out.mono aG).Dt av 0 _).Dt ao 1 _).mono (ag _)
    have hm:=(Sl.aU (aH a0.out (Below.refl _ wr))).any;exact(Go.Proofs.YtmnimbnojdndmaaGreatDoor.bG.Dt (Go.Proofs.YtmnimbnojdndmaaGreatDoor.bG.Dt hm av 0 (.slice E j C)) ao 1 (.slice U V R)).mono (ag _)
   have aq:=aa aq;clear v0 N l aG av ao G aN a_;by_cases bL:i<np
   ·have zi:=eG (show i<np by omega);have LA:i=d:=by omega
    have zm:=gI (show d<=i by omega);clear aE;subst LA;go_wp2_with fail;go_region;go_wp2_with fail;exact bodyPost_ret (v:=.tuple #[.pointer (some ⟨p,0,none⟩),.agg #[.slice E j C,.slice U V R],.slice an nM ad,.bool true]) (by simp[results,results7,go_sem,g0,g1]) rfl aq.out
   have zi:=gI (show np<=i by omega);clear aE;go_wp2_with fail;go_region;go_wp2_with fail;exact bodyPost_ret (v:=.tuple #[.pointer (some ⟨p,0,none⟩),.agg #[.slice E j C,.slice U V R],.slice an nM ad,.bool true]) (by simp[results,results7,go_sem,g0,g1]) rfl aq.out
def abb {B n cap:Nat} {a:Option Addr} (h:w.ownsRow B bB 1 (.slice a n cap) n (ints l)) (h0:0<n):∃g,a=some ⟨g,0,none⟩/\B<=g/\g<w.heap.size:=by
 rcases h.2 with⟨c,i⟩|⟨g,b,f,c,e,d,_⟩
 ·omega
 cases c;exact⟨g,rfl,e,block_lt d⟩
def ints_at (a:k<(ints l).length) {x:Nat} (h:l[k]? = some x):(ints l)[k]=.int .i64 x:=by
 have e:(ints l)[k]? = some (.int .i64 x):=by simp[ints,h]
 rw[z8 a] at e;exact z4 e
def P7 {L:List Nat} (h:jq w v T X) (hl:bG w u (ints L)) (aM:T.length<1000000) (YS:L.length<1000000) :
 Calls prog 37 #[v,u] w λe w'=>∃r,e=.returned r/\w'.ownsRow w.heap.size bB 1 r L.length (ints (gL (ai T) L))/\Below w.heap.size w w':=by
 have HT:=aa h;obtain⟨a,nt,cap,ax,nx,cx,rfl⟩:=h.shape;obtain⟨n,hn⟩:=ae L.length;have HL:=aa hl;obtain⟨al,cl,rfl,_,_⟩:=bG.nO hl hn;have HN:=aa hn;rw[<-hn] at YS;have F:(ints L).length=n:=by rw[ek,hn]
 obtain⟨W0,hW⟩:=ae (w.alloc (.cells #[.slice a nt cap,.slice ax nx cx] 25));have hb:=aO hW;have i0:=Is.nw hW;have N:W0.heap.size=w.heap.size+1:=by rw[hW];simp
 have o0:(W0.alloc (.cells #[] bB)).ownsRow (w.heap.size+1) bB 1 (.slice (some ⟨w.heap.size+1,0,none⟩) 0 0) 0 []:=by
  have:=rM W0 bB;rw[N] at this;exact this
 have y:Below (w.heap.size+1) W0 (W0.alloc (.cells #[] bB)):=by rw[<-N];exact ah _
 have UA:=aa (HL.out.mono (hb.trans (y.mono (by omega))));have Q:(W0.alloc (.cells #[] bB)).heap.size=w.heap.size+2:=by simp[N]
 obtain⟨W1,M⟩:=ae (W0.alloc (.cells #[] bB));rw[<-M] at o0 y UA Q;rw[hW] at M;have ac:w.heap.size+1<=W1.heap.size:=by omega
 have aw:Below w.heap.size w W1:=hb.trans (y.mono (by omega));have i1:Is W1 w.heap.size #[.slice a nt cap,.slice ax nx cx] 25:=i0.low y (by omega);have HK:=aa (λ(W:World) (E:Below w.heap.size w W) (c:Nat)=>tK (HT.out.mono E) c aM);have U:=aa i1;have I:=aa aw;have O0:=aa o0;rw[M] at U I O0 UA ac;clear h hl hn o0 hW Q N i0 y i1 aw hb M HL;go_enter func37,ntmps37;go_wp2_with (at_builtin;refine bR rfl _ _ 23 rfl (w.heap.size+1) bB _ 8 jN _ 0 _ rfl O0.out _ (ints L) rfl UA.out (kJ L) (by rw[F];unfold maxLen;omega) (by rw[F];omega) ac ?_;intro v1 w3 o1 ap;obtain⟨a1,Ao,rfl,_,_⟩:=ak o1);have ad:Below w.heap.size w w3:=I.out.grown ap I.out.size (λk hk=>by have:=(O0.out.lt k hk).1;omega);have I3:=U.out.keep O0.out ap (by omega);have o3:w3.ownsRow (w.heap.size+1) bB 1 (.slice a1 n Ao) n (ints L):=by
  have:=o1;rw[F] at this;simpa using this
 (try simp only[ek,<-HN.out,F,Nat.zero_add])
 have D6:=ad.size;have c3:=I3.at 0 rfl;clear O0 UA U I ap o1 ac;obtain⟨K,hK⟩:=ae (ai T);rw[<-hK] at HK;have aU:=aa hK;clear hK;go_loopw [6] (λtv wr=>∃(t:Nat) (O:List Nat),t<=n/\tv=.int .i64 t/\O.length=n/\passes K (n-t) O=passes K n L/\wr.ownsRow (w.heap.size+1) bB 1 (.slice a1 n Ao) n (ints O)/\Is wr w.heap.size #[.slice a nt cap,.slice ax nx cx] 25/\Below w.heap.size w wr) (λtv _=>n-(intOf tv).toNat)
 case atStart=>exact⟨0,L,z1 _,rfl,HN.out.symm,by simp,o3,I3,ad⟩
 case round=>
  clear o3 I3 ad D6 c3;obtain⟨t,O,ht,rfl,J,z,m,hI,P⟩:=hrel;by_cases a5:t<n
  ·obtain⟨C,B,rfl⟩:∃C B,O=C::B:=by
    cases O with
    | nil=>simp at J;omega
    | cons C B=>exact⟨C,B,rfl⟩
   have aV:=aa (show ∀O',O'=pass K (C::B)->passes K (n-(t+1)) O'=passes K n L from λO' e=>by
    rw[<-z,show n-t=(n-(t+1))+1 by omega,e];rfl)
   have Y0:=aa (show B.length+1=n by simpa using J);clear z J;have HO:=aa m;clear m;go_wp2_with fail;go_loopw [7] (λiv w2=>∃(i k:Nat) (D R:List Nat) (b:Nat),k+1=i/\i<=n/\iv=.int .i64 i/\D.length=k/\i+R.length=n/\D++Ky K b R=pass K (C::B)/\w2.ownsRow (w.heap.size+1) bB 1 (.slice a1 n Ao) n (ints (D++b::R))/\Is w2 w.heap.size #[.slice a nt cap,.slice ax nx cx] 25/\Below w.heap.size w w2) (λiv _=>n-(intOf iv).toNat)
   case atStart=>exact⟨1,0,[],B,C,rfl,by omega,rfl,rfl,by have:=Y0.out;omega,rfl,HO.out,hI,P⟩
   case round=>
    clear hI P;obtain⟨i,k,D,R,b,aL,a9,rfl,q,A,G,m,hI,P⟩:=hrel;by_cases a3:i<n
    ·obtain⟨f,l,rfl⟩:∃f l,R=f::l:=by
      cases R with
      | nil=>simp at A;omega
      | cons f l=>exact⟨f,l,rfl⟩
     obtain⟨g,rfl,a8,Dw⟩:=abb m (by omega);have a7:(i:Int)-1=(k:Int):=by omega
     have av:=aa G;have d:(ints (D++b::f::l)).length=n:=by rw[ek];simp at A⊢;omega
     obtain⟨o,aZ⟩:=jY m (j:=k) (by rw[d];omega);obtain⟨p,aS⟩:=jY m (j:=i) (by rw[d];omega);rw[ints_at (x:=b) _ (by rw[z9 (by omega),q];simp)] at o;rw[ints_at (x:=f) _ (by rw[z9 (by omega),q,<-aL,Nat.add_sub_cancel_left];rfl)] at p;have aE:=aa (λ(u u':Value)=>((m.stored k u).1.stored i u').1);have H:=aa q;have au:=aa m;have ao:=aa A;have a4:k≠i:=by omega
     have Z:=aa (λ(W:World) (E:Below w.heap.size w W)=>HK.out W E b);have Y:=aa (λ(W:World) (E:Below w.heap.size w W)=>HK.out W E f);obtain⟨ka,am⟩:=ae (K b);obtain⟨kb,V⟩:=ae (K f);rw[<-am] at Z;rw[<-V] at Y;have aN:=aa am;have ar:=aa V;have t0:=hI.at 0 rfl;have t1:=hI.at 1 rfl;have g0:=Gr.cell (ag wr) t0;have g1:=Gr.cell (ag wr) t1;have g2:=Gr.cell (ag wr) o;clear G q d am V m A;go_wp2_with fail;refine aC (Array.replicate 8 true) 8 0 mixed ?_;refine ay [0,1,2,3,4,5] 2 ?_
     iterate 6 (refine aA rfl ?_;go_big_quiet_step (rfl))
     refine az ?_;refine aI 6 ?_;go_wp2_with fail;refine(Z.out _ P.drew).mono ?_;rintro e w5⟨rfl,h5⟩;go_wp2_with fail;refine aF h5 ?_;refine ay [7] 0 ?_
     iterate 1 (refine aA rfl ?_;go_big_quiet_step (rfl))
     refine az ?_;refine aJ [] ?_;refine tail_nil ?_;have S:=af (ag wr) h5;have rX:=af P S;have t0:=aB S t0;have t1:=aB S t1;have o:=aB S o;have p:=aB S p;have g0:=Gr.cell (ag w5) t0;have g1:=Gr.cell (ag w5) t1;have g2:=Gr.cell (ag w5) p;have aQ:=aa (aH au.out S);have aP:=hI.mono S;clear au P hI h5 S Z;go_wp2_with fail;refine aC (Array.replicate 7 true) 7 0 mixed ?_;refine ay [0,1,2,3,4] 2 ?_
     iterate 5 (refine aA rfl ?_;go_big_quiet_step (rfl))
     refine az ?_;refine aI 5 ?_;go_wp2_with fail;refine(Y.out _ rX.drew).mono ?_;rintro e w6⟨rfl,h6⟩;go_wp2_with fail;refine aF h6 ?_;refine ay [6] 0 ?_
     iterate 1 (refine aA rfl ?_;go_big_quiet_step (rfl))
     refine az ?_;refine aJ [] ?_;refine tail_nil ?_;have E6:=af (ag w5) h6;have mF:=af rX E6;have o:=aB E6 o;have p:=aB E6 p;have Us:=aH aQ.out E6;have ab:=aP.mono E6;have d:(ints (D++b::f::l)).length=n:=by rw[ek];have:=ao.out;have:=H.out;simp at *;omega
     have aZ:=(jY Us (j:=k) (by rw[d];omega)).2;have aS:=(jY Us (j:=i) (by rw[d];omega)).2;have aE:=aa (λ(u u':Value)=>((Us.stored k u).1.stored i u').1);have aR:=aa Us;clear aQ rX aP h6 E6 Y Us d;by_cases s:0<kb/\kb<ka
     ·obtain⟨s1,s2⟩:=s
      have an:=aa (show(D++[f])++Ky K b l=pass K (C::B) by
       rw[<-av.out,qW,if_pos (by rw[<-aN.out,<-ar.out];exact⟨s1,s2⟩)];simp)
      go_wp2_with fail;go_region;go_wp2;go_roundw
      case rel=>
       have aY:(ints (D++b::f::l)).set k (.int .i64 f)=ints (D++f::f::l):=by
        simp only[ints,List.map_append,List.map_cons];rw[List.set_append_right _ _ (by rw[z5,H.out];exact z_ _),z5,H.out,Nat.sub_self];rfl
       have a2:(ints (D++f::f::l)).set i (.int .i64 b)=ints ((D++[f])++b::l):=by
        simp only[ints,List.map_append,List.map_cons,List.map_nil];rw[List.set_append_right _ _ (by rw[z5,H.out];omega),z5,H.out,<-aL,Nat.add_sub_cancel_left];simp
       have aK:=aE.out (.int .i64 f) (.int .i64 b);rw[aY,a2] at aK;refine⟨i+1,i,D++[f],l,b,rfl,by omega,rfl,by simp[H.out];omega,by have:=ao.out;simp at this;omega,an.out,aH aK (ag _),((ab.put (by omega) _).put (by omega) _).mono (ag _),(aj (aj mF (by omega)) (by omega)).drew⟩
      case measure=>simp[intOf];omega
     have an:=aa (show(D++[b])++Ky K f l=pass K (C::B) by
      rw[<-av.out,qW,if_neg (by rw[<-aN.out,<-ar.out];exact s)];simp)
     have qY:=aa (show ∃(i' k':Nat) (D' R':List Nat) (b':Nat),k'+1=i'/\i'<=n/\i'=i+1/\D'.length=k'/\i'+R'.length=n/\D'++Ky K b' R'=pass K (C::B)/\w6.ownsRow (w.heap.size+1) bB 1 (.slice (some ⟨g,0,none⟩) n Ao) n (ints (D'++b'::R')) from
      ⟨i+1,i,D++[b],l,f,rfl,by omega,rfl,by simp[H.out];omega,by have:=ao.out;simp at this;omega,an.out,by have:=aR.out;simpa using this⟩)
     by_cases aX:0<kb
     ·have a_:¬kb<ka:=λh=>s ⟨aX,h⟩;clear s;go_wp2;go_roundw
      case rel=>
       obtain⟨i',k',D',R',b',h1,h2,rfl,h4,h5,h6,h7⟩:=qY.out;exact⟨i+1,k',D',R',b',h1,h2,rfl,h4,h5,h6,h7,ab,mF⟩
      case measure=>simp[intOf];omega
     clear s;go_wp2;go_roundw
     case rel=>
      obtain⟨i',k',D',R',b',h1,h2,rfl,h4,h5,h6,h7⟩:=qY.out;exact⟨i+1,k',D',R',b',h1,h2,rfl,h4,h5,h6,h7,ab,mF⟩
     case measure=>simp[intOf];omega
    have a6:i=n:=by omega
    have aq:R=[]:=List.length_eq_zero_iff.1 (by omega);have R9:=aa (aV.out (D++[b]) (by rw[<-G,aq];rfl));have aW:=aa (show wr.ownsRow (w.heap.size+1) bB 1 (.slice a1 n Ao) n (ints (D++[b])) from by rw[aq] at m;exact m);have H:=aa (show(D++[b]).length=n by simp;omega);clear G aq m q A;go_wp2;go_roundw
    case rel=>exact⟨t+1,D++[b],by omega,rfl,H.out,R9.out,aW.out,hI,P⟩
    case measure=>simp[intOf];omega
  have aD:t=n:=by omega
  have HF:=aa (show wr.ownsRow w.heap.size bB 1 (.slice a1 n Ao) L.length (ints (gL K L)) from by
   rw[aD,Nat.sub_self] at z;have e1:O=gL K L:=by rw[<-BM,<-HN.out,<-z];rfl
   rw[<-e1,<-HN.out]
   exact aT m (by omega))
  clear z m J aD;go_wp2;go_ret;exact⟨_,rfl,by rw[<-aU.out];exact HF.out,P⟩
def Em {L:List Nat} (h:jq w v T X) (p:aY T X) (hl:bG w u (ints L)) (hL:∀x∈L,aP x) (o:T.length<1000000) (YS:L.length<10000) :
 Calls prog 8 #[v,u] w λe w'=>∃r,e=.returned r/\w'.ownsRow w.heap.size bB 1 r (gQ T L).length (ints (gQ T L))/\Below w.heap.size w w':=by
 have HT:=aa h;obtain⟨a,M,cap,J,K,P,rfl⟩:=h.shape;obtain⟨n,V⟩:=ae L.length;obtain⟨al,cl,rfl,_,A⟩:=bG.nO hl V;have N:=aa V;have HX:=aa A;have HL:=aa hL;have Ja:n<10000:=by omega
 have HV:=aa p;have Q_:=aa (λl=>jJ p l);have Vx:=aa (λc=>il p c);have ab:=aa (λ(W:World) (E:Below w.heap.size w W) (c:Nat) (B:c<1114112)=>wD (HT.out.mono E) c B (λr hr x A=>((p.fine r hr).2.2.2.2 x A).2.1) (λr hr=>Nat.le_trans (p.fine r hr).2.2.1 (by decide)) o);have U:=aa (show ∀(W:World) (E:Below w.heap.size w W) (c:Nat) (B:c<1114112),Calls prog 36 #[.agg #[.slice a M cap,.slice J K P],.int .i64 c] W λe w'=>∃r,e=.returned (.tuple #[r,.bool true])/\bG w' r (ints (aD T c))/\Below W.heap.size W w' from λW E c B=>(ab.out W E c B).mono λe w' ⟨r,h1,Q,Y⟩=>⟨r,by rw[h1,decide_eq_true (pE p c)],Q (pE p c),Y⟩);have hb:=ah (w:=w) (.cells #[.slice a M cap,.slice J K P] 25);obtain⟨d,t⟩:=ae (w.alloc (.cells #[.slice a M cap,.slice J K P] 25));have d0:d.cell? ⟨w.heap.size,0,none⟩=some (.slice a M cap):=by rw[t];unfold World.cell?;rw[heap_alloc_new];rfl
 have d1:d.cell? ⟨w.heap.size,1,none⟩=some (.slice J K P):=by rw[t];unfold World.cell?;rw[heap_alloc_new];rfl
 rw[<-t] at hb;obtain⟨W1,i⟩:=ae (d.alloc (.cells #[] bB));have I:Below d.heap.size d W1:=by subst i;exact ah _
 have o1:W1.ownsRow d.heap.size bB 1 (.slice (some ⟨w.heap.size+1,0,none⟩) 0 0) 0 (ints []):=by
  subst i;have:=rM d bB;rw[show d.heap.size=w.heap.size+1 by rw[t];simp] at this⊢;exact this
 rw[t] at i;have an:d.heap.size=w.heap.size+1:=by rw[t];simp
 have R:=aa (λ(W:World) (E:Below w.heap.size w W)=>HT.out.mono E);clear t h hl A V hL p YS;go_enter func8,ntmps8;go_wp2_with fail;rw[<-i];clear i;go_loopw [5,13] (λov iv wr=>∃j:Nat,j<=n/\iv=.int .i64 j/\wr.ownsRow d.heap.size bB 1 ov ((L.take j).flatMap (aD T)).length (ints ((L.take j).flatMap (aD T)))/\Below d.heap.size d wr) (λ_ iv _=>n-(intOf iv).toNat)
 case atStart=>exact⟨0,z1 _,rfl,o1,I⟩
 case round=>
  clear o1 I;obtain⟨j,hj,rfl,F,O⟩:=hrel;have D:=af hb O;have e0:=aB O d0;have e1:=aB O d1;obtain⟨YW,ad,rfl,_,_⟩:=ak F;by_cases am:j<n
  ·have y:j<L.length:=by have:=N.out;omega
   obtain⟨b,off,rfl,aj,B⟩:=HX.out j y;have B:=aB D B;have A:=(HL.out _ (z7 y)).1;have f:=Q_.out (L.take j);rw[List.length_take] at f;have ES:=aa (show(L.take (j+1)).flatMap (aD T)=(L.take j).flatMap (aD T)++aD T L[j] by rw[List.take_succ_eq_append_getElem y,List.flatMap_append];simp);generalize (L.take j).flatMap (aD T)=S at *;generalize L[j]=x at *;have FA:=aa (U.out wr D x A);have ac:=Vx.out x;have HO:=aa F;clear F A;go_wp2_with fail;refine FA.out.mono ?_;rintro e w2⟨r2,rfl,s2,Q⟩;have z:=af O Q;have G:=aa (aH HO.out Q);have S2:=aa s2;generalize aD T x=m at *;obtain⟨nm,g⟩:=ae m.length;obtain⟨a2,c2,rfl,_,_⟩:=bG.nO s2 g;have q:(ints m).length=nm:=by rw[ek,g]
   have sN:=aa g;have ag:S.length<=320000:=by omega
   rw[<-g] at ac;clear FA s2 g HO e0 e1;go_wp2_with (at_builtin;refine bR rfl _ _ 23 rfl d.heap.size bB _ 8 jN _ S.length _ rfl G.out _ (ints m) rfl S2.out (kJ m) (by rw[q];unfold maxLen;omega) (by rw[q];omega) z.size ?_;intro v' w3 C s);have lH:=z.grown s z.size (λk hk=>(G.out.lt k hk).1);go_roundw
   case rel=>exact⟨j+1,by omega,rfl,by rw[ES.out,qG,z0,<-sN.out,<-q];exact C,lH⟩
   case measure=>simp[intOf];omega
  obtain rfl:n=j:=by omega
  have f:=Q_.out L;rw[<-N.out] at f;have H:=aa (P7 (R.out wr D) (Sl.aU F).any o (by rw[List.take_of_length_le (by rw[N.out];exact z_ _)];omega));have EQ:=aa (show gL (ai T) ((L.take n).flatMap (aD T))=gQ T L by rw[List.take_of_length_le (by rw[N.out];exact z_ _)];rfl);have Z:=aa (show((L.take n).flatMap (aD T)).length=(gQ T L).length by rw[<-EQ.out];exact(by rw[<-BM,BK]));rw[EQ.out,Z.out] at H;rw[Z.out];rw[Z.out] at F;clear F;go_wp2_with fail;refine H.out.mono ?_;rintro e w3⟨r3,rfl,o3,Y⟩;go_wp2;go_ret;exact⟨_,rfl,aT o3 (by have:=D.size;omega),D.trans (Y.mono D.size)⟩
def En (hG:nk w) {T0:List gX} {X0 pk mr:List Int} (h:Gq w v T0 X0 pk mr) (av:mr.length<281474976710656) :
 Calls prog 3 #[v] w λe w'=>e=.returned (.bool true)/\Below w.heap.size w w':=by
 obtain⟨r0,x0,pv,mv,rfl,hT,hp,hm⟩:=id h;obtain⟨bd,bh,he,ad,ab⟩:=id hT;simp only[Value.agg.injEq,Array.mk.injEq,List.cons.injEq,and_true] at he;obtain⟨rfl,rfl⟩:=he;obtain⟨ra,nt,rc,rfl⟩:∃a n c,r0=.slice a n c:=by obtain⟨a,cap,rfl,_⟩:=ad;exact⟨_,_,_,rfl⟩
 obtain⟨xa,nx,xc,rfl⟩:∃a n c,x0=.slice a n c:=by obtain⟨a,cap,rfl,_⟩:=ab.out;exact⟨_,_,_,rfl⟩
 obtain⟨pa,np,pc,rfl⟩:∃a n c,pv=.slice a n c:=by obtain⟨a,cap,rfl,_⟩:=hp.out;exact⟨_,_,_,rfl⟩
 obtain⟨ma,nm,mc,rfl⟩:∃a n c,mv=.slice a n c:=by obtain⟨a,cap,rfl,_⟩:=hm.out;exact⟨_,_,_,rfl⟩
 obtain⟨w0,l⟩:=ae (w.alloc (.cells #[.slice ra nt rc,.slice xa nx xc,.slice pa np pc,.slice ma nm mc] 27));have P:=aO l;have k0:=Is.nw l;have AW:=aa (PQ (hG.mono P));have MD:=aa (λ(W:World) (E:Below w.heap.size w W)=>aa9 (hG.mono E).acp (h.mono E) av 8 (by decide));have HG:=aa hG;clear hG h hT ad ab hp hm av;go_enter func3,ntmps3;go_wp2_with fail;rw[<-l];clear l;refine AW.out.mono ?_;rintro e wa⟨rfl,WQ⟩;have k1:=k0.mono WQ;have N:=af P WQ;have e0:=k1.at 0 rfl;have e1:=k1.at 1 rfl;have e2:=k1.at 2 rfl;have e3:=k1.at 3 rfl;clear AW k0 P WQ;go_wp2_with fail;refine(MD.out wa N).mono ?_;rintro e w1⟨p,r,T,X,lv,L,rfl,hD,o,hF,O,YS,z,aG⟩;obtain⟨rr,rx,rfl,⟨a1,c1,rfl,_,a7⟩,al⟩:=id o;obtain⟨a2,n2,c2,rfl⟩:∃a n c,rx=.slice a n c:=by obtain⟨a,c,h,_⟩:=bG.out al;exact⟨_,_,_,h⟩
 obtain⟨a3,n3,c3,rfl⟩:∃a n c,lv=.slice a n c:=by obtain⟨a,c,h,_⟩:=bG.out O;exact⟨_,_,_,h⟩
 have hV:=hF.valid;have zT:T.length<1000:=by have:=hF.len;omega
 have t:(gQ T L).length<400:=by
  have:=jJ hV L;rw[wR];omega
 have aK:=af N aG;obtain⟨n,hn⟩:=ae T.length;rw[<-hn] at o⊢;obtain⟨w2,m⟩:=ae (w1.alloc (.cells #[.slice a1 n c1,.slice a2 n2 c2] 25));have i:=aO m;have t2:=Is.nw m;have aS:=af aK i;have an:=o.mono i;have aD:=hD.mono i;have R:=O.mono i;have CH:=aa (Em an hV R z (by omega) (by omega));have HV:=aa hV;have HW:=aa (nG.of hV L);have HC:=aa (qZ hV z);have Yh:=aa z;have a_:=aa t;have I:=aa zT;clear hD o hF z a7 al hn hV k1 e0 e1 e2 e3 N aG aK i MD zT O;obtain⟨U,hU⟩:=ae (gQ T L);have aY:=aa hU;rw[<-hU] at CH HW HC t;clear hU;have e0:=t2.at 0 rfl;have e1:=t2.at 1 rfl;go_wp2_with fail;rw[<-m];obtain⟨tb,am⟩:=ae w1.heap.size;rw[<-am] at t2⊢;clear m e0 e1 am;refine CH.out.mono ?_;rintro e w3⟨u,rfl,hu,y⟩;obtain⟨au,cu,rfl,_,_⟩:=ak hu;have RU:=aa (PS U (Sl.aU hu).any (by omega) (λc hc=>by have:=(HC.out c hc).1;omega));have aT:=af aS y;have S:=aa (aD.mono y);have aB:=aa (R.mono y);clear hu an aD t2 aS y CH R;go_wp2_with fail;refine RU.out.mono ?_;rintro e w4⟨rr,rfl,aR,f⟩;have NW:=aa (Lr (S.out.mono f) HV.out U (Sl.aU aR).any (λc hc=>(HC.out c hc).1) HW.out.ord (by omega));have aE:=aa (S.out.mono f);have aN:=aa (aB.out.mono f);have aj:=af aT f;clear aR f aT RU S aB;go_wp2_with fail;refine NW.out.mono ?_;rintro e w5⟨mp,rfl,hM,j⟩;have aw:=aE.out.mono j;have aQ:=aN.out.mono j;have rX:=af aj j;clear j aj NW aE aN;have Z:=aa hM;have HD:=aa aw;have HL:=aa aQ;have aW:(bY Go.Cd.B (dO (bq (ai T) U))).length<=20003:=l5 (n:=tQ) (sI (by omega));obtain⟨sz,Q⟩:=ae (dO (bq (ai T) U));have Re:=aa Q;rw[<-Q] at aW;clear hM aw aQ Q;by_cases J:sz<=16384
 ·have NP:=aa (LV HD.out HV.out I.out Z.out t HC.out (by rw[<-Re.out];exact J));go_wp2_with fail;refine NP.out.mono ?_;rintro e w6⟨pp,g,rfl,hP,b⟩;have HP:=aa hP;have mF:=af rX b;have V:=aa (Z.out.mono b);have K:=aa (oG V.out);rw[<-Re.out] at K;have aL:=aa (HD.out.mono b);have aM:=aa (HL.out.mono b);clear hP NP b rX Z HD HL;go_wp2_with fail;refine K.out.mono ?_;rintro e w7⟨zv,rfl,hz,jh⟩;clear K;go_wp2_with fail;refine(uf 16384 (by decide) w7).mono ?_;rintro e w8⟨tv,rfl,ht,G⟩;have CM:=aa (pK (hz.mono G) ht (by omega) (Nat.lt_of_le_of_lt (sF (n:=0) (by decide)) (by decide)));have k:=af jh G;clear hz ht jh G;go_wp2_with fail;refine CM.out.mono ?_;rintro e w9⟨rfl,kT⟩;have d:=af k kT;have o_:=af mF d;have zc:decide ((0:Int)<sK sz 16384)=false:=by
   refine decide_eq_false ?_;unfold sK;rcases Nat.lt_or_ge sz 16384 with h|h
   ·rw[if_pos h];decide
   rw[if_neg (by omega),if_neg (by omega)];decide
  have EN:=aa (DD (aM.out.mono d) (λx hx=>(Yh.out x hx).1) (by omega));have ap:=aa (aL.out.mono d);have ax:=aa (HP.out.mono d);have aq:=aa (V.out.mono d);clear CM k d kT mF aL aM HP V;go_wp2_with fail;refine EN.out.mono ?_;rintro e zL⟨rfl,sO⟩;have Y6:=af o_ sO;have Y:=aa (QI (HG.out.mono Y6) (ap.out.mono sO) HV.out I.out L Yh.out a_.out 16384 (by decide));rw[Nat.min_self,CZ HV.out (nG.of HV.out L),<-aY.out] at Y;have ac:=aa (ax.out.mono sO);have aH:=aa (aq.out.mono sO);obtain⟨s,hs⟩:=ae (tx (dQ L));rw[<-hs] at Y⊢;obtain⟨a8,Ma⟩:=ae (eF (ai T) (bf (kF T) U));rw[<-Ma] at Y;clear EN ap ax aq hs Ma sO o_ zc;go_wp2_with fail;refine Y.out.mono ?_;rintro e FT⟨A,Po,C⟩;have D:=af Y6 A;by_cases aV:a8<=16384
  ·obtain⟨be,rfl,hN⟩:=Po aV;obtain⟨ua,un,uc,rfl,hN⟩:=hN.out;obtain⟨xw,TM⟩:=ae (FT.alloc (.cells #[.slice ua un uc] eD));have i:=aO TM;have ar:=Is.nw TM;have aZ:=af D i;have Yb:=af A i;have aP:=aa ((ac.out.mono Yb).mono (ag xw));have a5:=aa ((aH.out.mono Yb).mono (ag xw));have HN:=aa ((hN.mono i).mono (ag xw));have h0:0<(l6 T U).length:=by rw[w_];exact QH _ _
   have h9:(l6 T U).length<=16384:=by rw[w_,<-Re.out];exact J
   have AL:=aa (L8 aP.out h0 h9);rw[yJ HW.out] at AL;have a4:(bY Go.Cd.B (oI T U)).length<=16385:=by
    rw[<-yJ HW.out];exact Cw (M:=16384) (Iz I.out t) (by rw[<-Re.out];exact J)
   obtain⟨q,hq⟩:=ae (oI T U);rw[<-hq] at AL HN a4;clear Po C Y hN A D i Yb ac aH hq h0 h9;go_wp2_with fail;rw[<-TM];obtain⟨bg,TL⟩:=ae FT.heap.size;rw[<-TL] at ar⊢;clear TM TL;have e0:=ar.gd 0 rfl;refine aC (Array.replicate 11 true) 11 0 mixed ?_;refine ay [0,1] 9 ?_
   iterate 2 (refine aA rfl ?_;go_big_quiet_step (rfl))
   refine az ?_;refine aI 2 ?_;go_wp2_with fail;refine AL.out.mono ?_;rintro e Ck⟨bc,rfl,aX,F⟩;go_wp2_with fail;refine aF F ?_;have SM:=aa (H9 (HN.out.mono F) aX (by omega));rw[decide_eq_true rfl] at SM;refine aI 3 ?_;go_wp2_with fail;refine SM.out.mono ?_;rintro e bj⟨rfl,ao⟩;have H:=af F ao;go_wp2_with fail;refine aF ao ?_;refine ay [4,5,6] 4 ?_
   iterate 3 (refine aA rfl ?_;go_big_quiet_step (rfl))
   refine az ?_;have AT:=aa (Ty (a5.out.mono H) (aP.out.mono H));refine aI 7 ?_;go_wp2_with fail;refine AT.out.mono ?_;rintro e ba⟨bi,rfl,a6,Di⟩;have a0:=af H Di;go_wp2_with fail;refine aF Di ?_;have ZE:=aa (ZL a6);refine aI 8 ?_;go_wp2_with fail;refine ZE.out.mono ?_;rintro e bb⟨rfl,KG⟩;have a9:=af a0 KG;go_wp2_with fail;refine aF KG ?_;refine ay [9,10] 0 ?_
   iterate 2 (refine aA rfl ?_;go_big_quiet_step (rfl))
   refine az ?_;refine aJ [] ?_;refine tail_nil ?_;go_wp2;go_ret;exact⟨rfl,af aZ ((ag xw).trans a9)⟩
  obtain rfl:=C aV;clear Po C Y;go_wp2_with fail;go_ret;exact⟨rfl,af D (ah _)⟩
 have NP:=aa (Mk Z.out (by omega) (by rw[<-Re.out];omega));go_wp2_with fail;refine NP.out.mono ?_;rintro e w6⟨rfl,b⟩;have mF:=af rX b;have K:=aa (oG (Z.out.mono b));rw[<-Re.out] at K;clear NP b rX Z HD HL;go_wp2_with fail;refine K.out.mono ?_;rintro e w7⟨zv,rfl,hz,jh⟩;clear K;go_wp2_with fail;refine(uf 16384 (by decide) w7).mono ?_;rintro e w8⟨tv,rfl,ht,G⟩;have CM:=aa (pK (hz.mono G) ht (by omega) (Nat.lt_of_le_of_lt (sF (n:=0) (by decide)) (by decide)));have k:=af jh G;clear hz ht jh G;go_wp2_with fail;refine CM.out.mono ?_;rintro e w9⟨rfl,kT⟩;have d:=af k kT;have zc:decide ((0:Int)<sK sz 16384)=true:=by rw[xJ (by omega)];rfl
 go_wp2_with fail;go_ret;exact⟨rfl,af mF d⟩
end Go.Proofs.YtmnimbnojdndmaaGreatDoor
namespace Go.Cd
open Go.RowKit
def Um {k:IntKind} {w:World} {a:Option Addr} {len cap:Nat} {zs:List Int}
 (h:(a=none/\len=0/\cap=0/\zs=[])\/∃x,a=some x/\len<=cap/\cap<=maxLen/\zs.length=cap/\(∀i,i<zs.length->w.cell? (x.add i)=some (.int k (zs.getD i 0)))/\∀n∈zs,(Lit.int k n).wf=true) :
 bG w (.slice a len cap) ((zs.take len).map (Value.int k))/\len<=maxLen/\(zs.take len).length=len/\∀n∈zs,(Lit.int k n).wf=true:=by
 rcases h with⟨rfl,rfl,rfl,rfl⟩|⟨x,rfl,r,B,C,g,q⟩
 ·exact⟨⟨none,0,rfl,Nat.le_refl _,.inl ⟨rfl,λ_=>rfl⟩⟩,Nat.zero_le _,rfl,by simp⟩
 have d:((zs.take len).map (Value.int k)).length=len:=by simp;omega
 refine⟨⟨some x,cap,by rw[d],by rw[d];exact r,?_⟩,by omega,by simp;omega,q⟩;by_cases h0:len=0
 ·subst h0;exact .inl ⟨by simp,λe=>by cases e⟩
 right;have p:=g 0 (by omega);have A:x.add 0=x:=by unfold Addr.add;simp
 rw[A] at p;unfold World.cell? at p
 split at p
 ·rename_i c e f t;have u:x.spot.isSome=false:=by
   cases u:x.spot.isSome with
   | false=>rfl
   | true=>simp[u] at p
  have l:x=⟨x.block,x.off,none⟩:=by
   cases x with
   | mk b o s=>cases s with
     | none=>rfl
     | some s=>simp at u
  refine⟨x.block,x.off,c,e,f,by rw[<-l],t,λi v=>?_⟩;rw[d] at v;have j:=g i (by omega);rw[l] at j;unfold World.cell? Addr.add at j;have y:zs.getD i 0=zs[i]'(by omega):=by rw[List.getD_eq_getElem?_getD,z8 (by omega)];rfl
  rw[y] at j;have z:((zs.take len).map (Value.int k))[i]'(by rw[d];exact v)=.int k (zs[i]'(by omega)):=by simp
  rw[z];by_cases m:i=0
  ·subst m;simp only[if_true] at j;rw[t] at j;simpa using j
  rw[if_neg m] at j;simp only at j;rw[t] at j;simpa using j
 simp at p
def P8 {w:World} {a:Option Addr} {len cap:Nat} {zs:List Int}
 (h:(a=none/\len=0/\cap=0/\zs=[])\/∃x,a=some x/\len<=cap/\cap<=maxLen/\zs.length=cap/\(∀i,i<zs.length->w.cell? (x.add i)=some (.int .i64 (zs.getD i 0)))/\∀n∈zs,(Lit.int .i64 n).wf=true) :
 ∃l:List Int,bG w (.slice a len cap) (bO l)/\l.length=len/\len<=maxLen/\∀d∈l,-9223372036854775808<=d/\d<=9223372036854775807:=by
 obtain⟨f,b,c,e⟩:=Um h;refine⟨_,f,c,b,λn g=>?_⟩;have:=e n (List.mem_of_mem_take g);simp[Lit.wf,IntKind.min,IntKind.max,IntKind.bits,IntKind.signed] at this;omega
end Go.Cd
namespace Go.Proofs.YtmnimbnojdndmaaGreatDoor
section
open Go.RowKit Go.Cd Go.ChangeShapes Go.WideShapes Go.Deep _root_.Go.Proofs.Tryz
def abe {w:World} {b o:Nat} {v:Value} (h:w.cell? ⟨b,o,none⟩=some v):b<w.heap.size:=by
 rcases Nat.lt_or_ge b w.heap.size with h1|h1
 ·exact h1
 unfold World.cell? at h;rw[Array.getElem?_eq_none h1] at h;cases h
section
variable {H : Type} {enc : TypeId × Value -> H} {w : World} {base : Nat} {held : Bool}
def sJ {c:Nat} {i:List Value} {x:DataW H×List MemPlace} (h:DataW.trod enc prog w base (λ_=>true) held c 23 i=some x) :
 ∃a len cap l,i=[.slice a len cap]/\bG w (.slice a len cap) (bO l)/\l.length=len/\((x.1=.nil/\len=0)\/∃g n,x.1=.slice g n/\g.length=len):=by
 rcases open_ints underlying23 underlying3 (by kernel_rfl) h with⟨rfl,rfl⟩|⟨a,len,cap,zs,rfl,_,o,j,f,rfl,b,e⟩
 ·exact⟨none,0,0,[],rfl,⟨none,0,rfl,z_ _,.inl ⟨rfl,λ_=>rfl⟩⟩,rfl,.inl ⟨rfl,rfl⟩⟩
 obtain⟨l,k,d,_,_⟩:=P8 (w:=w) (a:=some a) (len:=len) (cap:=cap) (zs:=zs) (.inr ⟨a,rfl,o,j,by simpa using f,b,e⟩);refine⟨_,_,_,l,rfl,k,d,.inr ⟨_,_,rfl,?_⟩⟩;have:zs.length=cap:=by simpa using f
 simp[lits,List.length_take];omega
instance:Inhabited gX:=⟨⟨0,0,[]⟩⟩
def Un {u:Nat} {G:List Value} {x:DataW H×List MemPlace} (h:DataW.trod enc prog w base (λ_=>true) held u 22 G=some x) :
 ∃a len cap T,G=[.slice a len cap]/\MH w (.slice a len cap) T:=by
 rcases open_slice underlying22 h with⟨rfl,_⟩|⟨a,len,cap,m,n,D,Z,rfl,_,N,W,y,_,t⟩
 ·exact⟨none,0,0,[],rfl,none,0,rfl,z_ _,λi s=>absurd s (Nat.not_lt_zero _)⟩
 simp only[if_true] at y;subst y;have F:prog.cellsOf 78=3:=by kernel_rfl
 have e:0<len->a.spot=none:=λh0=>by
  obtain⟨q,d,_⟩:=t 0 (by omega);rw[F] at d;obtain⟨_,j,c⟩:=World.cells?_some d;have g:=c 0 (by omega);rw[z8 (by omega)] at g;have:=World.cell?_spot g;rw[add_add] at this;simpa [Addr.add] using this
 obtain⟨f,hf⟩:=choose_lt (n:=len) (p:=λi (r:gX)=>∃b off A,a=⟨b,off,none⟩/\b<w.heap.size/\w.cell? ⟨b,off+i*3,none⟩=some (.int .i64 r.code)/\w.cell? ⟨b,off+i*3+1,none⟩=some (.int .i64 r.cls)/\w.cell? ⟨b,off+i*3+2,none⟩=some A/\bG w A (bO r.map)) (λi s=>by
  obtain⟨q,d,B⟩:=t i (by omega);rw[F] at d;obtain⟨_,j,c⟩:=World.cells?_some d;obtain⟨K,S,R,k,_,_,h0,v,o⟩:=trod_struct3 underlying78 B
  match q,j with
  | [c0,c1,c2],_=>
    have h0:DataW.trod enc prog w base (λ_=>true) held k 3 [c0]=some K:=h0;have v:DataW.trod enc prog w base (λ_=>true) held k 3 [c1]=some S:=v;have o:DataW.trod enc prog w base (λ_=>true) held k 23 [c2]=some R:=o;obtain⟨O,I,_,_⟩:=DataW.trod_int underlying3 h0;obtain⟨J,P,_,_⟩:=DataW.trod_int underlying3 v;obtain⟨Y,X,V,l,U,Q,_,_⟩:=sJ o;cases I;cases P;cases U;have z:=c 0 (by omega);have C:=c 1 (by omega);have E:=c 2 (by omega);rw[add_add] at z C E;obtain⟨b,off,rfl⟩:∃b off,a=⟨b,off,none⟩:=⟨a.block,a.off,by have e:=e (by omega);cases a;simp at e;subst e;rfl⟩;rw[add_plain] at z C E;refine⟨⟨O,J,l⟩,b,off,_,rfl,abe z,?_,?_,?_,Q⟩
    ·simpa using z
    ·simpa [Nat.add_assoc] using C
    simpa [Nat.add_assoc] using E)
 refine⟨some a,len,m,(List.range len).map f,rfl,some a,m,by simp,by simpa using N,λi s=>?_⟩;simp at s;obtain⟨b,off,A,rfl,M,h0,v,o,L⟩:=hf i s;exact⟨b,off,A,rfl,M,by simpa using h0,by simpa using v,o,by simpa using L⟩
def Uo {v:Value} {d:DataW H} {z:List MemPlace} (L:∃c,v=.agg c/\c.size=prog.cellsOf 27) (h:DataW.Trod enc prog w base (λ_=>true) held 27 v d z) (q:∀n∈d.weights prog 27,n<=reachBytes) :
 ∃T X s m,Gq w v T X s m/\m.length<281474976710656:=by
 obtain⟨c,rfl,g⟩:=L;obtain⟨i,h⟩:=h;have h:DataW.trod enc prog w base (λ_=>true) held i 27 c.toList=some (d,z):=h;obtain⟨y,B,A,n,hd,hl,h0,x,p⟩:=trod_struct3 underlying27 h;have R:prog.cellsOf 27=4:=by kernel_rfl
 rw[R] at g;obtain⟨b,a,f,e,rfl⟩:∃b a f e,c=#[b,a,f,e]:=by
  match c,g with
  | ⟨[b,a,f,e]⟩,_=>exact⟨b,a,f,e,rfl⟩
 have h0:DataW.trod enc prog w base (λ_=>true) held n 25 [b,a]=some y:=h0;have x:DataW.trod enc prog w base (λ_=>true) held n 23 [f]=some B:=x;have p:DataW.trod enc prog w base (λ_=>true) held n 23 [e]=some A:=p;obtain⟨I,M,k,_,_,o,r⟩:=trod_struct2 underlying25 h0;have o:DataW.trod enc prog w base (λ_=>true) held k 22 [b]=some I:=o;have r:DataW.trod enc prog w base (λ_=>true) held k 23 [a]=some M:=r;obtain⟨a0,n0,Y,T,D,E⟩:=Un o;obtain⟨a1,n1,p1,X,U,V,_,_⟩:=sJ r;obtain⟨a2,n2,p2,s,F,O,_,_⟩:=sJ x;obtain⟨Z,n3,p3,m,J,K,W,u⟩:=sJ p;cases D;cases U;cases F;cases J;refine⟨T,X,s,m,⟨_,_,_,_,rfl,⟨_,_,rfl,E,V⟩,O,K⟩,?_⟩;rcases u with⟨_,h0⟩|⟨C,P,N,S⟩
 ·omega
 have Q:prog.bytesOf 3=8:=by kernel_rfl
 have G:d=.agg [y.1,B.1,A.1]:=congrArg Prod.fst hd
 have l:=q ((C.length+P.length)*prog.bytesOf 3) (by
  rw[G,DataW.weights,underlying27]
  exact DataW.weights_mem_each (j:=2) (t:=23) rfl (by simp[N];rfl) _ (by simp[DataW.weights,underlying23]))
 rw[Q] at l;unfold reachBytes at l;omega
end
end
open Go.RowKit Go.Cd Go.ChangeShapes Go.WideShapes Go.Deep _root_.Go.Proofs.Tryz
def ab6:List Int:=[0,1,56,2,57,49,28,3,61,58,42,50,38,29,17,4,62,47,59,36,45,43,51,22,53,39,33,30,24,18,12,5,63,55,48,27,60,41,37,16,46,35,44,21,52,32,23,11,54,26,40,15,34,20,31,10,25,14,19,9,13,8,7,6]
theorem MX {w:World} (hd:Lib.VarReads prog w "math/bits.deBruijn64tab" (Lib.tabData .u8 ab6)) (hp:Lib.VarReads prog w "internal/strconv.uint64pow10" (Lib.tabData .u64 Lib.pow10Tab)) (hs:w.ShapedOpen prog):dL w:=by
 refine ⟨?_,?_,?_⟩
 ·exact Go.Proofs.cell_of_shapedOpen_int (zero:=#[.int .i64 0]) (t:=3) hs (of_decide_eq_true (by kernel_rfl)) (by kernel_rfl) rfl (by kernel_rfl) (by kernel_rfl) underlying3
 ·obtain ⟨g,t,cs,fuel,p,hg,hty,hv,htr⟩:=hp;have h6:(prog.globalNamed "internal/strconv.uint64pow10").bind (fun g=>(prog.globals[g]?).map (·.type))=some 382:=by kernel_rfl
  rw [hg,Option.bind_some,hty] at h6;obtain rfl:t=382:=z4 h6;have e:=Lib.cells_of_tab underlying382 underlying47 (by kernel_rfl) (by kernel_rfl) htr;unfold Lib.TabIs;rw [hv,<-e]
 ·obtain ⟨g,t,cs,fuel,p,hg,hty,hv,htr⟩:=hd;obtain rfl:g=9:=z4 (hg.symm.trans (by kernel_rfl));obtain rfl:t=409:=z4 (hty.symm.trans (by kernel_rfl));have e:=Lib.cells_of_tab underlying409 underlying5 (by kernel_rfl) (by kernel_rfl) htr;have hc:=World.var?_cell hg hv 15;rw [hc,<-Array.getElem?_toList,e];rfl
end Go.Proofs.YtmnimbnojdndmaaGreatDoor
