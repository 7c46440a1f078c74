/- State by state it is added up what is possible; no condition. -/
import Derived.Test.YtmnimbnojdndmaaGreatDoorS09
import Derived.DeepKeys5
set_option maxRecDepth 100000
set_option maxHeartbeats 6400000
set_option linter.all false
namespace Go.Proofs.YtmnimbnojdndmaaGreatDoor
open Go.RowKit Go.Cd Go.Shelf _root_.Go.Proofs.Tryz
abbrev Pw:TypeId:=325
def aaL:mV prog 322 Pw (.agg #[.int .i32 0,.int .i32 0]) 2 8:=⟨rfl,underlying322,info_parts (by kernel_rfl)⟩
def IL (p:Nat×Nat):List Value:=[.int .i32 (p.1:Nat),.int .i32 (p.2:Nat)]
def xu (p:Nat×Nat):List Nat:=[p.1,p.2+1]
def Ms (p:Nat×Nat):(xu p).length=2:=rfl
def Mt (p:Nat×Nat):(IL p).length=2:=rfl
def Mv {w:World} {v:Value} (R:List (Nat×Nat)) (Q:bG w v (aM (R.flatMap xu))) (hl:R.length<1000) (J:∀p∈R,p.1<1114112/\p.2<1114112) :
 Calls prog 201 #[.agg #[v]] w λe w'=>∃r,e=.returned r/\w'.ownsRow w.heap.size Pw 2 r R.length (R.flatMap IL)/\Below w.heap.size w w':=by
 obtain⟨a,cap,rfl,_,H⟩:=Go.Cd.bG.nN Q rfl;have f:=vW xu 2 Ms R;have P:=aa H;have HR:=aa J;obtain⟨n,E⟩:=ae ((R.flatMap xu).length);rw[<-E] at f⊢;obtain⟨F,d⟩:=ae (w.alloc (.cells #[.slice a n cap] 148));have D:=aO d;have Y:=Is.nw d;have ac:F.heap.size=w.heap.size+1:=by rw[d];simp
 have M:=aa E;have z:=aa f;have rW:n<2000:=by omega
 clear H J Q E f;go_enter func201,ntmps201;go_wp2_with fail;rw[<-d];clear d;go_loopw [3,4] (λZ B wr=>∃j:Nat,j<=R.length/\B=.int .i64 (j*2:Nat)/\wr.ownsRow (w.heap.size+1) Pw 2 Z j ((R.take j).flatMap IL)/\Below (w.heap.size+1) F wr) (λ_ B _=>n-(intOf B).toNat)
 case atStart=>exact⟨0,ic _,rfl,iS _ _ _ _,gS _ _⟩
 case round=>
  obtain⟨j,hj,rfl,A,y⟩:=hrel;have k2:=Y.low y (sA _);have X:wr.cell? ⟨w.heap.size,0,none⟩=some (.slice a n cap):=k2.at 0 rfl;have m:Below w.heap.size w wr:=D.trans (y.mono (pz _));obtain⟨i,u⟩:=ae (j*2);rw[<-u];by_cases l:j<R.length
  ·have T:decide (i<n)=true:=by have:=z.out;simp;omega
   have U:i+1<n:=by have:=z.out;omega
   have k:i<(R.flatMap xu).length:=by have:=M.out;omega
   have c:i+1<(R.flatMap xu).length:=by have:=M.out;omega
   obtain⟨b,off,rfl,_,t⟩:=P.out i k;obtain⟨b',L,h,_,s⟩:=P.out (i+1) c;injection h with h;injection h with x q;subst x;subst q;have g:=vV xu 2 Ms R j l;have O:(R.flatMap xu)[i]=R[j].1:=by
    have:=g 0 (by decide);rw[sC,<-u,gx k] at this;exact m6 this
   have N:(R.flatMap xu)[i+1]=R[j].2+1:=by
    have:=g 1 (by decide);rw[<-u,gx c] at this;exact m6 this
   rw[O] at t;rw[N] at s;have hp:=HR.out _ (gw l);have K:=aa (show(R.take (j+1)).flatMap IL=(R.take j).flatMap IL++IL R[j] by rw[gR l,j7];simp);obtain⟨p,o⟩:=ae (R[j]);rw[<-o] at t s hp K;have t:=aB m t;have s:=aB m s;have z1:IntKind.i32.wrap (((p.2+1:Nat):Int)-1)=(p.2:Nat):=by rw[xd];omega
   have z2:IntKind.i64.wrap ((i:Int)+1)=((i+1:Nat):Int):=by rw[ph];omega
   have HI:=aa u;have S:=aa A;clear O N g k c o u A;go_upto_region 5 with fail;have g0:=Gr.cell (ag wr) X;have g1:=Gr.cell (ag wr) t;have g2:=Gr.cell (ag wr) s;refine aC #[true,true,true,true,true,true,true,true,true,true,true,true,true,true,true,false,false] 15 2 mixed ?_;refine ay [0,1,2,3,4,5,6,7,8,9,10,11,12,13] 1 ?_
   iterate 14 (refine aA rfl ?_;go_big_quiet_step (rfl))
   refine az ?_;refine aI 14 ?_;clear g0 g1 g2;have ad:=ag wr;go_wp2_with fail;refine aF (ah _) ?_;refine aJ [15,16] ?_;refine uO (os:=[_,_]) rfl ?_;have ab:=y.size;refine Bt (W:=wr.drew) rfl _ _ 322 rfl (w.heap.size+1) Pw _ 2 8 aaL (by decide) (by decide) u3 j _ rfl (aH S.out (ag wr)) #[.int .i32 (p.1:Nat),.int .i32 (p.2:Nat)] rfl rfl (by simp[Value.oneCell']) (by omega) (by show w.heap.size+1<=wr.heap.size;omega) ?_;intro v1 G I V _;have C:=aa (show G.ownsRow (w.heap.size+1) Pw 2 v1 (j+1) ((R.take (j+1)).flatMap IL) from by rw[K.out];exact I);clear I;have yf:Below (w.heap.size+1) F G:=y.trans ((((ag wr).mono (by omega)).trans ((ah _).mono (by show w.heap.size+1<=wr.heap.size;omega))).trans V);have z3:IntKind.i64.wrap ((i:Int)+2)=((i+2:Nat):Int):=by rw[ph];omega
   go_wp2_with fail;refine uP ?_;go_wp2;go_roundw
   case rel=>exact⟨j+1,by omega,by have:=HI.out;congr 1;omega,C.out,yf⟩
   case measure=>simp[intOf];omega
  have T:decide ((i:Int)<(n:Int))=false:=by have:=z.out;simp;omega
  have af:¬i<n:=by have:=z.out;omega
  obtain rfl:j=R.length:=by omega
  rw[lB] at A;go_wp2;go_ret;exact⟨_,rfl,aT A (pz _),m⟩
def vC (p:Nat×Nat):List Nat:=List.range' p.1 (p.2+1-p.1)
def Ef {w:World} {v:Value} (R:List (Nat×Nat)) (M:bG w v (aM (R.flatMap xu))) (K:R.length<1000) (L:∀p∈R,p.1<1114112/\p.2<1114112/\p.1<=p.2) :
 Calls prog 161 #[.agg #[v]] w λe w'=>∃r,e=.returned r/\w'.ownsRow w.heap.size aN 1 r (R.flatMap vC).length (aM (R.flatMap vC))/\Below w.heap.size w w':=by
 obtain⟨a,cap,rfl,_,_⟩:=Go.Cd.bG.nN M rfl;obtain⟨n,hn⟩:=ae ((R.flatMap xu).length);rw[<-hn] at M⊢;obtain⟨w1,h⟩:=ae (w.alloc (.cells #[.slice a n cap] 148));have x:=aO h;have k1:=Is.nw h;have X:w1.heap.size=w.heap.size+1:=by rw[h];simp
 have RA:=aa (Mv R (M.mono x) K (λp B=>⟨(L p B).1,(L p B).2.1⟩));have HR:=aa L;have e0:w1.cell? ⟨w.heap.size,0,none⟩=some (.slice a n cap):=k1.at 0 rfl;clear M L hn k1;go_enter func161,ntmps161;go_wp2_with fail;rw[<-h];clear h;refine RA.out.mono ?_;rintro e b⟨r,rfl,Z,C⟩;have d:=af x C;obtain⟨ra,rc,rfl,_,_⟩:=ak Z;have Q:=aa Z;clear RA e0 Z C X x;go_wp2_with fail;go_loopw [3,10] (λN P wr=>∃j:Nat,j<=R.length/\P=.int .i64 j/\wr.ownsRow b.heap.size aN 1 N ((R.take j).flatMap vC).length (aM ((R.take j).flatMap vC))/\Below b.heap.size b wr/\((R.take j).flatMap vC).length<=1200000*j) (λ_ P _=>R.length-(intOf P).toNat)
 case atStart=>exact⟨0,ic _,rfl,iS _ _ _ _,gS _ _,by simp⟩
 case round=>
  obtain⟨j,hj,rfl,i,o,G⟩:=hrel;by_cases y:j<R.length
  ·have zj:decide ((j:Int)<(R.length:Int))=true:=by simp;omega
   obtain⟨g,rfl⟩:∃g,ra=some ⟨g,0,none⟩:=by
    rcases Q.out.2 with⟨I,h2⟩|⟨g,_,_,I,_⟩
    ·have h2:R.length=0:=h2;omega
    injection I with I;exact⟨g,I⟩
   have t:=vV IL 2 Mt R j y;have T:=vW IL 2 Mt R;have V:=aB o ((Q.out.cellAt (j*2) (by omega)).trans ((t 0 (by decide)).trans rfl));have U:=aB o ((Q.out.cellAt (j*2+1) (by omega)).trans ((t 1 (by decide)).trans rfl));have B:=HR.out _ (gw y);have A:=aa (show(R.take (j+1)).flatMap vC=(R.take j).flatMap vC++vC R[j] by rw[gR y,j7];simp);obtain⟨p,D⟩:=ae (R[j]);rw[<-D] at V U B A;obtain⟨S,hS⟩:=ae ((R.take j).flatMap vC);rw[<-hS] at i G A;obtain⟨m,H⟩:=ae (p.2+1-p.1);have F:vC p=List.range' p.1 m:=by rw[H];rfl
   rw[F] at A;obtain⟨f,hf⟩:=ae p.1;obtain⟨l,K⟩:=ae p.2;rw[<-hf] at A H B V;rw[<-K] at H B U;obtain⟨w4,k⟩:=ae (wr.alloc (.cells #[.int .i32 (f:Nat),.int .i32 (l:Nat)] Pw));have u:=aO k;have J:=Is.nw k;have o4:=aH i u;have lN:Below b.heap.size b w4:=af o u;have Y:=aa H;have:m<=1200000:=by omega
   have:S.length+1200000<=1200000*(j+1):=by omega
   have f0:=J.at 0 rfl;clear i t T hS F H hf K D;go_wp2_with fail;rw[<-k];obtain⟨rb,E⟩:=ae wr.heap.size;rw[<-E] at J⊢;clear k V U u E f0;go_loopw [3,6] (λN O wr=>∃q c:Nat,q<=m/\c=f+q/\O=.int .i32 c/\wr.ownsRow b.heap.size aN 1 N (S.length+q) (aM (S++List.range' f q))/\Below b.heap.size b wr/\Is wr rb #[.int .i32 (f:Nat),.int .i32 (l:Nat)] Pw) (λ_ O _=>f+m-(intOf O).toNat)
   case atStart=>exact⟨0,f,ic _,rfl,rfl,by simpa using o4,lN,J⟩
   case round=>
    clear o4 lN J;obtain⟨q,c,hq,hc,rfl,i,o,pr⟩:=hrel;have:=pr.at 1 rfl;have z:=aa hc;clear hc;by_cases ac:q<m
    ·have W:c<=l:=by have:=Y.out;have:=z.out;omega
     have zc:decide ((c:Int)<=(l:Int))=true:=by simp;omega
     have:IntKind.i32.wrap ((c:Int)+1)=((c+1:Nat):Int):=by rw[xd];have:=Y.out;have:=z.out;omega
     have HS:=aa (show aM (S++List.range' f (q+1))=aM (S++List.range' f q)++[.int .i32 (c:Nat)] by
      rw[List.range'_concat,<-kl,z.out];simp[aM])
     have Yi:=aa i;have hs:=o.size;clear i
     go_wp2_with (
      refine f_ rfl _ _ 35 rfl b.heap.size aN _ 4 bW u3 (S.length+q) _ rfl Yi.out (.int .i32 (c:Nat)) rfl rfl (by omega) (by unfold maxLen;omega) wr (gS _ _) hs ?_;intro v1 w9 o9 o_ oA Dw;have s:=aa (show w9.ownsRow b.heap.size aN 1 v1 (S.length+(q+1)) (aM (S++List.range' f (q+1))) from by rw[HS.out];exact o9);have p9:=(pr.mono (ah _)).grown Dw ((pr.mono (ah _)).other oA (by decide))
      clear o9 Dw oA)
     go_roundw
     case rel=>exact⟨q+1,c+1,by omega,by have:=z.out;omega,by simp,s.out,o.trans o_,p9⟩
     case measure=>have:=z.out;simp[intOf];omega
    have W:¬c<=l:=by have:=Y.out;have:=z.out;omega
    have zc:decide ((c:Int)<=(l:Int))=false:=by simp;omega
    obtain rfl:q=m:=by omega
    have s:=aa (show wr.ownsRow b.heap.size aN 1 u3 ((R.take (j+1)).flatMap vC).length (aM ((R.take (j+1)).flatMap vC)) from by rw[A.out,gn,List.length_range'];exact i);have HL:=aa (show((R.take (j+1)).flatMap vC).length<=1200000*(j+1) from by rw[A.out,gn,List.length_range'];omega);clear i;go_wp2;go_roundw
    case rel=>exact⟨j+1,by omega,by simp,s.out,o,HL.out⟩
    case measure=>simp[intOf];omega
  have zj:decide ((j:Int)<(R.length:Int))=false:=by simp;omega
  obtain rfl:j=R.length:=by omega
  rw[lB] at i;go_wp2;go_ret;exact⟨_,rfl,aT i d.size,d.trans (o.mono d.size)⟩
end Go.Proofs.YtmnimbnojdndmaaGreatDoor
section
namespace Go.Cd
def Xh:gu Gf=Gf:=by
 have h:=lq Gf;have c:Gf.Pairwise (· < ·):=by decide
 have d:(gu Gf).Nodup:=h.1.imp (λh=>xf h);have e:Gf.Nodup:=c.imp (λh=>xf h);exact List.Perm.eq_of_pairwise (λa b _ _ f g=>by omega) h.1 c ((List.perm_ext_iff_of_nodup d e).2 h.2)
def Xi:List (Nat×Nat):=[(2392,2393),(10972,10972),(64285,64285),(64287,64287),(119134,119134)]
end Go.Cd
namespace Go.Proofs.YtmnimbnojdndmaaGreatDoor
open Go.RowKit Go.Cd Go.Shelf
def TG:lC (gu Gf)=Xi.flatMap xu:=by rw[Xh];decide
def TH:Xi.flatMap vC=Gf:=by decide
def Mw {w:World} (hG:dL w) {v:Value} (R:List (Nat×Nat)) (k:bG w v (aM (R.flatMap xu))) (hl:R.length<100) (hR:∀p∈R,p.1<1114112/\p.2<1114112/\p.1<=p.2) (X:List Nat) (hX:R.flatMap vC=X) (Y:∀c∈X,c<1114112) (Yk:0<X.length/\X.length<1000) :
 Calls Tryz.prog 114 #[.agg #[v]] w λe w'=>e=.returned (.string (tx (bA (X.map aV))))/\Below w.heap.size w w':=by
 have Qq:=aa (λ(W:World) (E:Below w.heap.size w W)=>hG.mono E);obtain⟨a,cap,rfl,_,_⟩:=Go.Cd.bG.nN k rfl;obtain⟨n,hn⟩:=ae ((R.flatMap xu).length);rw[<-hn] at k⊢;obtain⟨A,f⟩:=ae (w.alloc (.cells #[.slice a n cap] 148));have i:=aO f;have k1:=Is.nw f;have o:A.heap.size=w.heap.size+1:=by rw[f];simp
 obtain⟨w2,d⟩:=ae (A.alloc (.cells #[.pointer none,.slice none 0 0] 191));have g:=aO d;have u2:pW A.heap.size A.heap.size [] w2:=by rw[d];exact pW.new
 have k2:=k1.mono g;have e0:w2.cell? ⟨w.heap.size,0,none⟩=some (.slice a n cap):=k2.at 0 rfl;have M:=aa (Ef R ((k.mono i).mono g) (by omega) hR);rw[hX] at M;have NP:=af i g;rw[f] at d;rw[o] at u2;clear k hn hG hR k1 k2 i g f o hX;go_enter Tryz.func114,Tryz.ntmps114;go_wp2_with fail;rw[<-d];clear d;refine M.out.mono ?_;rintro e w3⟨r,rfl,G,h⟩;have u3:=u2.below h;have V:=aa (Sl.aU G);obtain⟨ra,rc,rfl,_,_⟩:=ak G;have u:=af NP h;have q:w.heap.size+1<=w3.heap.size:=by obtain⟨_,k⟩:=u3.block;have:=block_lt k;omega
 obtain⟨N,y⟩:=ae X.length;rw[<-y] at V⊢;have z:=aa y;have ah:0<N/\N<1000:=by rw[y];exact Yk
 clear M e0 G h u2 y;go_wp2_with fail;go_loopw [5,9] (λ_ O wr=>∃j:Nat,j<=N/\O=.int .i64 j/\pW (w.heap.size+1) (w.heap.size+1) (bA ((X.take j).map aV)) wr/\Sl aN wr (.slice ra N rc) (aM X)/\Below w.heap.size w wr/\w.heap.size+1<=wr.heap.size/\(bA ((X.take j).map aV)).length<=7*j) (λ_ O _=>N-(intOf O).toNat)
 case atStart=>exact⟨0,ic _,rfl,u3,V.out,u,q,by simp[bA]⟩
 case round=>
  clear u3 V u q;obtain⟨j,hj,rfl,x,I,S,hz,t⟩:=hrel;by_cases ag:j<N
  ·have zj:=eG (show j<N by omega);have L:j<X.length:=by have:=z.out;omega
   obtain⟨a',ab,P,_,hx⟩:=Go.Cd.bG.nN I.any z.out;injection P with J _ T;subst J;obtain⟨b,off,rfl,_,c0⟩:=hx j L;have hc:=Y _ (gw L)
   have HT:=aa (show bA ((X.take (j+1)).map aV)=bA ((X.take j).map aV)++(aV X[j]++[10]) by
    rw[gR L,j5];simp[bA])
   generalize X[j]=c at *;have H1:=aa (vw (Qq.out wr S) c hc);have K:=(bU c).2;have ad:(tx (aV c)).size<=6:=by rw[aX];exact K
   have ac:(⟨#[10]⟩:ByteArray).size=1:=rfl;have H:=aa (show tx (aV c)++(⟨#[10]⟩:ByteArray)=tx (aV c++[10]) from dA _ [10]);generalize tx (aV c)=t1 at *;clear hx T hc;go_wp2_with fail;refine H1.out.mono ?_;rintro e w7⟨rfl,s⟩;have Z:=x.below s;have S7:=aa (I.mono s);have B7:=af S s;have z7:=ia hz s.size;have Q:=aa (jb Z (aV c++[10]) (by rw[gn,qS];omega) z7);rw[<-H.out] at Q;clear x I c0 H1 s;go_wp2_with fail;refine Q.out.mono ?_;rintro e w9⟨rfl,kT,B,TF⟩;obtain⟨bv,l⟩:=Z.block;have S9:=aa (IK S7.out TF l (by decide) (by decide));have F:=aa (show pW (w.heap.size+1) (w.heap.size+1) (bA ((X.take (j+1)).map aV)) w9 from by rw[HT.out];exact kT);have D:=aa (show(bA ((X.take (j+1)).map aV)).length<=7*(j+1) from by rw[HT.out,gn,gn,qS];omega);have C:=B7.trans (B.mono (pz _));have U:=ia z7 B.size;clear kT TF l Z S7 Q t;go_wp2;go_roundw
   case rel=>exact⟨j+1,by omega,by simp,F.out,S9.out,C,U,D.out⟩
   case measure=>simp[intOf];omega
  have zj:=gI (show N<=j by omega);obtain rfl:j=N:=by omega
  have ht:X.take j=X:=iu (by have:=z.out;omega);rw[ht] at x;have m:bA (X.map aV)≠[]:=by
   have:=z.out;cases X with
   | nil=>simp at this;omega
   | cons c X=>simp[bA]
  have ST:=aa (Da x m);clear x m ht;go_wp2_with fail;refine ST.out.mono ?_;rintro e w9⟨rfl,B⟩;go_wp2;go_ret;exact⟨rfl,S.trans (B.mono (pz _))⟩
def TI {w:World} (j:dL w) :
 Calls Tryz.prog 73 #[] w λe w'=>e=.returned (.string (tx (eP Gf)))/\Below w.heap.size w w':=by
 obtain⟨m,a⟩:=ae (w.alloc (.cells #[.int .i32 2392,.int .i32 2393,.int .i32 10972,.int .i32 64285,.int .i32 64287,.int .i32 119134] 21));have h:=aO a;have i:Sl aN m (.slice (some ⟨w.heap.size,0,none⟩) 6 6) (aM Gf):=by rw[a];exact Xb w #[.int .i32 2392,.int .i32 2393,.int .i32 10972,.int .i32 64285,.int .i32 64287,.int .i32 119134] aN
 have d:=aa (uD Gf i ⟨_,6,6,rfl,.inr ⟨_,_,rfl⟩⟩ (by decide) (by decide));rw[TG] at d;have k:eP Gf=bA (Gf.map aV):=by
  have:dW [] Gf=Gf:=by decide
  unfold eP;rw[this]
 rw[k];have l:=aa (λ(W:World) (E:Below w.heap.size w W)=>j.mono E);clear j i k;go_enter Tryz.func73,Tryz.ntmps73;go_wp2_with fail;rw[<-a];clear a;refine d.out.mono ?_;rintro e n⟨r,rfl,g,f⟩;have b:=af h f;have o:=aa (Mw (l.out n b) Xi (Sl.aU g).any (by decide) (by decide) Gf TH (by decide) (by decide));obtain⟨q,p,rfl,_,_⟩:=ak g;clear d g;go_wp2_with fail;refine o.out.mono ?_;rintro e s⟨rfl,c⟩;go_wp2;go_ret;exact⟨rfl,af b c⟩
end Go.Proofs.YtmnimbnojdndmaaGreatDoor
end
namespace Go.Proofs.YtmnimbnojdndmaaGreatDoor
open Go.RowKit Go.Cd _root_.Go.Proofs.Tryz
variable {w:World} {v:Value} {T:List aG} {X:List Nat} {c:Nat}
def zD (w:World) (v:Value) (T:List aG):Prop:=
 ∃a cap,v=.slice a T.length cap/\T.length<=cap/\∀i (c:i<T.length),∃b off m,a=some ⟨b,off,none⟩/\b<w.heap.size/\
  w.cell? ⟨b,off+i*3,none⟩=some (.int .i32 T[i].code)/\w.cell? ⟨b,off+i*3+1,none⟩=some (.int .i64 T[i].cls)/\w.cell? ⟨b,off+i*3+2,none⟩=some m/\Sl aN w m (aM T[i].map)/\fU m
def zD.mono {w':World} (h:zD w v T) (c:Below w.heap.size w w'):zD w' v T:=by
 obtain⟨a,cap,n,f,h⟩:=h;refine⟨a,cap,n,f,λi l=>?_⟩;obtain⟨b,off,m,p,d,e,o,j,k,g⟩:=h i l;exact⟨b,off,m,p,kh d c.size,aB c e,aB c o,aB c j,k.mono c,g⟩
def zD.aU {base:Nat} {L:List (aG×Value)} (h:w.ownsRow base h_ 3 v L.length (L.flatMap dY)) (n:∀x∈L,Sl aN w x.2 (aM x.1.map)/\fU x.2):zD w v (L.map (·.1)):=by
 obtain⟨a,cap,rfl,j,_⟩:=ak h;refine⟨a,cap,by rw[iz],by rw[iz];exact j,λi o=>?_⟩;have b:i<L.length:=by simpa using o
 obtain⟨g,d,k,_,l,_,c⟩:=dC Bu rfl h b;cases k;obtain⟨f,p⟩:=n _ (gw b);have e:=(c 0 (by decide)).1;have m:=(c 1 (by decide)).1;have q:=(c 2 (by decide)).1;refine⟨g,0,L[i].2,rfl,l,?_,?_,?_,?_,p⟩
 ·rw[k_];simpa [dY] using e
 ·rw[k_];simpa [dY] using m
 ·rw[k_];simpa [dY] using q
 simpa using f
def qQ (w:World) (v:Value) (T:List aG) (X:List Nat):Prop:=∃r x,v=.agg #[r,x]/\zD w r T/\bG w x (aM (kE X))
def qQ.mono {w':World} (h:qQ w v T X) (a:Below w.heap.size w w'):qQ w' v T X:=by
 obtain⟨r,x,d,c,b⟩:=h;exact⟨r,x,d,c.mono a,b.mono a⟩
def nP (T:List aG) (c:Nat):aG:=(rowOf T c).getD ⟨0,0,[]⟩
def G5 (T:List aG) (c:Nat):ai T c=(nP T c).cls:=by
 unfold ai nP;cases rowOf T c <;> rfl
def Ka (a b:Int) (m:Value) (c:Int) (i:0<=a/\a<2147483648) (g:0<=c/\c<2147483648) :
 Calls prog 228 #[.agg #[.int .i32 a,.int .i64 b,m],.int .i32 c] w λe w'=>e=.returned (.int .i64 (a-c))/\Below w.heap.size w w':=by
 have f:=ah (w:=w) (.cells #[.int .i32 a,.int .i64 b,m] 196);have d:=Is.new w #[.int .i32 a,.int .i64 b,m] 196;have:=d.at 0 rfl;go_enter func228,ntmps228;go_wp2;go_ret;exact⟨rfl,f⟩
def Fg {k:Nat} (e:k<T.length) (b:∀t (a:t<T.length),t<k->T[t].code<c) (h:T[k].code=c):rowOf T c=some T[k]:=by
 refine Ba e (λr d=>?_) h;obtain⟨t,a,rfl⟩:=l4.1 d;rw[jn] at a;rw[y6];have:=b t (by omega) (by omega);omega
def Bw {k:Nat} (e:rising T) (b:∀t (a:t<T.length),t<k->T[t].code<c) (f:∀t (a:t<T.length),k<=t->c<=T[t].code) (h:∀i:k<T.length,T[k].code≠c):rowOf T c=none:=by
 refine oV λr d=>?_;obtain⟨t,a,rfl⟩:=l4.1 d;rcases pR t k with h3|h3|h3
 ·have:=b t a h3;omega
 ·subst h3;exact h a
 have:=jy e k t (by omega) a h3;have:=f k (by omega) (d' _);omega
def acb (h:zD w v T) (X:rising T) (Y:∀r∈T,r.code<1114112) (hl:T.length<1000000) (c:Nat) (hc:c<1114112) :
 Calls prog 227 #[v,.int .i32 c,.func (.func 228) #[] #[]] w λe w'=>
  ∃k:Nat,e=.returned (.tuple #[.int .i64 k,.bool (rowOf T c).isSome])/\((rowOf T c).isSome=true->rowOf T c=T[k]?)/\Below w.heap.size w w':=by
 obtain⟨a,cap,rfl,_,S⟩:=h;have Z:=aa S;obtain⟨n,E⟩:=ae T.length;have D:=aa E;have F:=aa X;have U:=aa Y;rw[<-E] at hl⊢;clear S E X Y;go_enter func227,ntmps227;go_wp2
 go_loopg [9,10] n (λg s7 s8 wr=>∃f d:Nat,s7=.int .i64 f/\s8=.int .i64 d/\f<=d/\d<=n/\d-f<=g/\Below w.heap.size w wr/\(∀t (l:t<T.length),t<f->T[t].code<c)/\(∀t (l:t<T.length),d<=t->c<=T[t].code))
 case atStart=>exact⟨0,n,rfl,rfl,ic _,d' _,by omega,gS _ _,λt _ l=>absurd l (tM _),λt G P=>by have:=D.out;omega⟩
 case round=>
  obtain⟨f,d,rfl,rfl,ac,O,hg,o,G,P⟩:=hrel;have I:=aa (And.intro G P);clear G P;by_cases ab:f<d
  ·have s:(f+d) / 2<T.length:=by have:=D.out;omega
   obtain⟨b,off,m,rfl,_,B,A,C,R,x⟩:=Z.out ((f+d) / 2) s;have B:=aB o B;have A:=aB o A;have C:=aB o C;have N:=U.out _ (gw s);obtain⟨Q,nm,H,rfl,_⟩:=x;have z:=aa (λW=>Ka (w:=W) (T[(f+d) / 2].code:Nat) (T[(f+d) / 2].cls:Nat) (.slice Q nm H) (c:Nat) ⟨by omega,by omega⟩ ⟨by omega,by omega⟩);have Y1:=aa (λt (l:t<T.length) (h:t<(f+d) / 2)=>jy F.out t _ l s h);have Y2:=aa (λt (l:t<T.length) (h:(f+d) / 2<t)=>jy F.out _ t s l h);have V:=aa (show ∀t (l:t<T.length),t=(f+d) / 2->T[t].code=T[(f+d) / 2].code from λt l e=>by subst e;rfl);clear R;generalize T[(f+d) / 2].code=y at *;generalize T[(f+d) / 2].cls=yc at *;by_cases p:y<c
   ·have L:decide ((y:Int)-(c:Int)<0)=true:=by simp;omega
    go_wp2_with (go_at_call 228;refine(z.out _).mono ?_;rintro e M⟨rfl,j⟩)
    go_roundg (d-((f+d) / 2+1))
    case measure=>omega
    case rel=>
     refine⟨(f+d) / 2+1,d,by rw[show((f:Int)+(d:Int)) / 2+1=(((f+d) / 2+1:Nat):Int) by omega],rfl,by omega,O,d' _,af o j,λt l h=>?_,I.out.2⟩;rcases ki t ((f+d) / 2) with h3|h3
     ·have:=Y1.out t l h3;omega
     have:=V.out t l (by omega);omega
   have L:decide ((y:Int)-(c:Int)<0)=false:=by simp;omega
   go_wp2_with (go_at_call 228;refine(z.out _).mono ?_;rintro e M⟨rfl,j⟩)
   go_roundg ((f+d) / 2-f)
   case measure=>omega
   case rel=>
    refine⟨f,(f+d) / 2,rfl,by rw[show((f:Int)+(d:Int)) / 2=(((f+d) / 2:Nat):Int) by omega],by omega,by omega,d' _,af o j,I.out.1,λt l h=>?_⟩;rcases ki ((f+d) / 2) t with h3|h3
    ·have:=Y2.out t l h3;omega
    have:=V.out t l (by omega);omega
  have:d=f:=by omega
  subst this;by_cases E:d<n
  ·have s:d<T.length:=by have:=D.out;omega
   obtain⟨b,off,m,rfl,_,B,A,C,R,x⟩:=Z.out d s;have B:=aB o B;have A:=aB o A;have C:=aB o C;have N:=U.out _ (gw s);obtain⟨Q,nm,H,rfl,_⟩:=x;have z:=aa (λW=>Ka (w:=W) (T[d].code:Nat) (T[d].cls:Nat) (.slice Q nm H) (c:Nat) ⟨by omega,by omega⟩ ⟨by omega,by omega⟩);clear R;have K:=aa (show T[d].code=c->rowOf T c=some T[d] from λh=>Fg s I.out.1 h);have J:=aa (show T[d].code≠c->rowOf T c=none from λh=>Bw F.out I.out.1 I.out.2 (λ_=>h));have R3:=aa (show some T[d]=T[d]? from (gx s).symm);have R4:∃y,y=T[d].code:=⟨_,rfl⟩;generalize T[d]=q at *;by_cases p:q.code=c
   ·have L:(((q.code:Int)-(c:Int))==0)=true:=by simp;omega
    have i:=K.out p;have u:=aa i;clear i p K J;go_wp2_with (go_at_call 228;refine(z.out _).mono ?_;rintro e M⟨rfl,j⟩);go_ret2;refine⟨d,?_,λ_=>by rw[u.out,R3.out],af o j⟩;rw[u.out];rfl
   have L:(((q.code:Int)-(c:Int))==0)=false:=by simp;omega
   have i:=J.out p;have u:=aa i;clear i p K J;go_wp2_with (go_at_call 228;refine(z.out _).mono ?_;rintro e M⟨rfl,j⟩);go_ret2;refine⟨d,?_,λh=>?_,af o j⟩
   ·rw[u.out];rfl
   rw[u.out] at h;cases h
  have u:=aa (Bw F.out I.out.1 I.out.2 (λhk=>absurd hk (by have:=D.out;omega)));go_wp2_with (go_at_call 228;trivial);go_ret2;refine⟨d,?_,λh=>?_,o⟩
  ·rw[u.out];rfl
  rw[u.out] at h;cases h
structure iX (T:List aG):Prop where
 rise:rising T
 code:∀r∈T,r.code<1114112
 map:∀r∈T,r.map.length<=2
 acd:∀r∈T,∀x∈r.map,x<1114112
 len:T.length<40000
def xZ (h:qQ w v T X) (A:iX T) (c:Nat) (hc:c<1114112) :
 Calls prog 194 #[v,.int .i32 c] w λe w'=>∃m,e=.returned (.tuple #[.agg #[.int .i32 (nP T c).code,.int .i64 (nP T c).cls,m],.bool (rowOf T c).isSome])/\Sl aN w' m (aM (nP T c).map)/\fU m/\Below w.heap.size w w':=by
 obtain⟨r,x,rfl,I,h2⟩:=h;obtain⟨ra,Vd,rfl,_,Y⟩:=id I;obtain⟨nx,t⟩:∃n,n=(kE X).length:=⟨_,rfl⟩;obtain⟨xa,xc,rfl,_,_⟩:=bG.nN h2 t;clear t;obtain⟨w1,f⟩:=ae (w.alloc (.cells #[.slice ra T.length Vd,.slice xa nx xc] 150));have Z:=Is.nw f;have B:=aO f;obtain⟨w2,d⟩:=ae (w1.alloc (.cells #[.int .i32 0,.int .i64 0,.slice none 0 0] 196));have o:=aO d;have k2:=Z.mono o;have l2:=Is.nw d;have C:w1.heap.size=w.heap.size+1:=by rw[f];simp
 rw[C] at l2;have K:=af B o;have R:=aa (acb (I.mono K) A.rise A.code (by have:=A.len;omega) c hc);have HX:=aa Y;have:w2.heap.size=w.heap.size+2:=by rw[d,nh,C]
 have e0:=k2.at 0 rfl;have a:nP T c=(rowOf T c).getD ⟨0,0,[]⟩:=rfl;have l:=aa a;rw[f] at d;clear Y I h2 Z B o f a;go_enter func194,ntmps194;go_wp2_with fail;rw[<-d];clear d;refine R.out.mono ?_;rintro e w3⟨k,rfl,G,j⟩;have k3:=k2.mono j;have g:=l2.mono j;have e0:=k3.at 0 rfl;have:=g.at 0 rfl;have:=g.at 1 rfl;have:=g.at 2 rfl;have:=g.frozen 0;have:=g.frozen 1;have:=g.frozen 2;cases s:rowOf T c with
 | none=>
   have a:=l.out;rw[s] at a;have N:=aa s;have z:=aa a;clear s G R a l A;go_wp2
   (try simp only[Exit.inBlock,Exit.then])
   have P:=((g.set 0 (.int .i32 0)).set 1 (.int .i64 0)).set 2 (.slice none 0 0);have W:=P.at 0 rfl;have V:=P.at 1 rfl;have J:=P.at 2 rfl;refine bodyPost_ret (v:=.tuple #[.agg #[.int .i32 0,.int .i64 0,.slice none 0 0],.bool false]) (by simp[results,results194,go_sem,W,V,J]) rfl ?_;have hB:=af K j;refine⟨.slice none 0 0,?_,?_,⟨none,0,0,rfl,.inl rfl⟩,aj (aj (aj hB (by omega)) (by omega)) (by omega)⟩
   ·rw[z.out,N.out];rfl
   rw[z.out];exact Sl.nil _ _ _ _ (λ_=>rfl)
 | some q=>
   have a:=l.out;rw[s] at a G;have N:=aa s;have hq:some q=T[k]?:=G rfl;obtain⟨M,E⟩:=iR.1 hq.symm;obtain⟨b,off,m,rfl,ac,O,L,c2,U,i⟩:=HX.out k M;rw[E] at O L U;have D:=af K j;have O:=aB D O;have L:=aB D L;have c2:=aB D c2;have y:=U.mono D;obtain⟨H,nm,F,rfl,i⟩:=i;have z:=aa a;have Rt:=aa y;have Q:=aa i;clear s G R a l A hq E U y i;have p:=z.out;simp only[ox] at p;have u:=aa p;clear p z;go_wp2
   (try simp only[Exit.inBlock,Exit.then])
   have P:=((g.set 0 (.int .i32 (q.code:Nat))).set 1 (.int .i64 (q.cls:Nat))).set 2 (.slice H nm F);have W:=P.at 0 rfl;have V:=P.at 1 rfl;have J:=P.at 2 rfl;refine bodyPost_ret (v:=.tuple #[.agg #[.int .i32 (q.code:Nat),.int .i64 (q.cls:Nat),.slice H nm F],.bool true]) (by simp[results,results194,go_sem,W,V,J]) rfl ?_;have S:196≠aN:=by decide
   refine⟨.slice H nm F,?_,?_,⟨H,nm,F,rfl,Q.out⟩,aj (aj (aj D (by omega)) (by omega)) (by omega)⟩
   ·rw[u.out,N.out];rfl
   rw[u.out];exact((Rt.out.put g.at_ S).put (g.set 0 _).at_ S).put ((g.set 0 _).set 1 _).at_ S
def qQ.shape (h:qQ w v T X):∃k f e g i d,v=.agg #[.slice k f e,.slice g i d]:=by
 obtain⟨r,x,rfl,⟨a,cap,rfl,_⟩,j⟩:=h;obtain⟨b,c,rfl,_⟩:=bG.out j;exact⟨_,_,_,_,_,_,rfl⟩
def NI (h:qQ w v T X) (l:iX T) (c:Nat) (u:c<1114112) :
 Calls prog 226 #[v,.int .i32 c] w λe w'=>e=.returned (.int .i64 (ai T c))/\Below w.heap.size w w':=by
 obtain⟨z,x,o,p,y,r,rfl⟩:=h.shape;obtain⟨A,a⟩:=ae (w.alloc (.cells #[.slice z x o,.slice p y r] 150));have j:=Is.nw a;have b:=aO a;have i:=aa (xZ (h.mono b) l c u);have q:=j.at 0 rfl;have t:=j.at 1 rfl;rw[G5];clear h l;go_enter func226,ntmps226;go_wp2_with fail;rw[<-a];clear a;refine i.out.mono ?_;rintro e k⟨m,rfl,_,⟨n,nm,g,rfl,_⟩,f⟩;have d:=ah (w:=k) (.cells #[.int .i32 (nP T c).code,.int .i64 (nP T c).cls,.slice n nm g] 196);have s:=Is.new k #[.int .i32 (nP T c).code,.int .i64 (nP T c).cls,.slice n nm g] 196;have:=s.at 1 rfl;clear i q t;go_wp2;go_ret;exact⟨rfl,b.trans ((af f d).mono b.size)⟩
def Fh (h:4<=hk c):∃a b,dI c=[a,b]:=by
 have d:dI c≠[]:=λe=>by have:=xS.1 e;omega
 unfold dI at *;by_cases g:hk c=4
 ·exact⟨_,_,if_pos g⟩
 rw[if_neg g] at d⊢;by_cases f:hk c=5
 ·exact⟨_,_,if_pos f⟩
 rw[if_neg f] at d;exact absurd rfl d
def Ru (h:hk c<4):mapOf T c=(nP T c).map:=by
 unfold mapOf bP nP;rw[if_pos h];cases rowOf T c <;> rfl
def Kb (h:qQ w v T X) (p:iX T) (c:Nat) (z:c<1114112) :
 Calls prog 225 #[v,.int .i32 c] w λe w'=>∃r,e=.returned r/\w'.ownsRow w.heap.size aN 1 r (mapOf T c).length (aM (mapOf T c))/\Below w.heap.size w w':=by
 obtain⟨U,R,I,J,Q,L,rfl⟩:=h.shape;obtain⟨o,d⟩:=ae (w.alloc (.cells #[.slice U R I,.slice J Q L] 150));have u:=Is.nw d;have g:=aO d;have y:o.heap.size=w.heap.size+1:=by rw[d];simp
 by_cases S:4<=hk c
 ·obtain⟨a,b,j⟩:=Fh S;have s:=aa (lF (w:=o) z j);have n:mapOf T c=[a,b]:=by unfold mapOf;rw[if_neg (by omega),j]
  rw[n];have A:=mU o #[.int .i32 (a:Nat),.int .i32 (b:Nat)] aN 2 rfl (by decide);rw[y] at A;have t:=ah (w:=o) (.cells #[.int .i32 a,.int .i32 b] aN);clear n j h p u;go_enter func225,ntmps225;go_wp2_with fail;rw[<-d];clear d;refine s.out.mono ?_;rintro e C⟨rfl,rfl⟩;go_wp2;go_ret;exact⟨_,rfl,aT A (by omega),g.trans (t.mono g.size)⟩
 have B:=aa (xZ (h.mono g) p c z);have s:=aa (rR (w:=o) z (by omega));have H:(nP T c).map.length<1000000:=by
  unfold nP;cases O:rowOf T c with
  | none=>simp
  | some q=>
    have:=p.map q (mB O);simp only[ox];omega
 rw[Ru (by omega)];generalize nP T c=q at *;have K:=u.at 0 rfl;have M:=u.at 1 rfl;clear h p;go_enter func225,ntmps225;go_wp2_with fail;rw[<-d];clear d;refine s.out.mono ?_;rintro e C⟨⟨a,b,rfl⟩,rfl⟩;go_wp2_with fail;refine B.out.mono ?_;rintro e G⟨m,rfl,n,k,l⟩;obtain⟨w4,f⟩:=ae (G.alloc (.cells #[.int .i32 q.code,.int .i64 q.cls,m] 196));have i:=aO f;have P:=Is.nw f;have E:=aa (kX q.map (n.mono i) k H);obtain⟨Z,nm,V,rfl,_⟩:=k;have D:=P.at 2 rfl;clear B K M n;rw[f] at D;go_wp2_with fail;rw[<-f];refine E.out.mono ?_;rintro e w5⟨r,rfl,x,N⟩;have:C.heap.size<=w4.heap.size:=ia l.size i.size;obtain⟨ar,W,rfl,_,_⟩:=ak x;clear D f E;have F:=aa x;clear x;go_wp2;go_ret;exact⟨_,rfl,aT F.out (by omega),g.trans ((af (af l i) N).mono g.size)⟩
def Rv {A B C:World} {u:Value} (a:A.grownBy B u.ownBlock) (d:kK A u v) (c:B.grownBy C v.ownBlock):A.grownBy C u.ownBlock:=by
 refine⟨c.os.trans a.os,c.tape.trans a.tape,c.output.trans a.output,ia a.size c.size,λk f b=>?_⟩;refine(c.block k (kh f a.size) λe=>?_).trans (a.block k f b);rcases d with d|⟨h,g,i⟩
 ·exact b (e.trans d)
 rw[g] at e;cases e;omega
def NK (h:∀r∈T,r.map.length<=2) (c:Nat):(mapOf T c).length<=2:=by
 unfold mapOf
 split
 ·unfold bP;cases a:rowOf T c with
  | none=>simp
  | some r=>exact h r (mB a)
 exact EO c
def tV {p:World} (h:qQ p v T X) (U:iX T) (l:Nat) (c:Nat) (w:World) (base:Nat) (b:List Nat) (n:Value) (hc:c<1114112)
 (C:mapOf T c=[]) (ab:b.length<32) (H:Below p.heap.size p w) (M:p.heap.size<=base) (ac:base<=w.heap.size) (A:w.ownsRow base aN 1 n b.length (aM b)) :
 Calls prog 192 #[v,n,.int .i32 c,.int .i64 l] w λe w'=>∃r,e=.returned (.tuple #[r,.bool true])/\w'.ownsRow base aN 1 r (b++[c]).length (aM (b++[c]))/\w.grownBy w' n.ownBlock/\kK w n r:=by
 have E:=h.mono H;obtain⟨K,F,O,P,nx,S,rfl⟩:=h.shape;have m:F=T.length:=by
  obtain⟨r,x,y,⟨a,cap,hr,_⟩,_⟩:=h;subst hr;injection y with y;have:=congrArg (λs:Array Value=>s[0]?) y;simp at this;exact this.2.1
 have vI:=aa m;clear m;obtain⟨w1,g⟩:=ae (w.alloc (.cells #[.slice K F O,.slice P nx S] 150));have o:=Is.nw g;have j:=aO g;have Z:w1.heap.size=w.heap.size+1:=by rw[g];simp
 have G:=aa (Kb (E.mono j) U c hc);have Q:=o.at 0 rfl;have V:=o.at 1 rfl;obtain⟨oa,L,rfl,_,_⟩:=ak A;go_enter func192,ntmps192;go_wp2_with fail;rw[<-g];refine G.out.mono ?_;rintro e t⟨mv,rfl,B,i⟩;have k2:=o.mono i;have d:=af j i;have q:=aH A d;have N:w.heap.size+1<=t.heap.size:=by have:=i.size;omega
 clear Q V g G o A E;rw[C] at B;obtain⟨ma,mc,rfl,_,_⟩:=ak B;have zl:decide ((b.length:Int)<32)=true:=by simp;omega
 clear B;go_wp2_with (at_builtin;go_loud (refine qf (W:=t) rfl _ _ 35 rfl base aN _ 1 4 (Elem.ae2 bW) (by decide) (by decide) (by decide) (by decide) (.slice oa b.length L) b.length (aM b) rfl q _ rfl rfl (by simp[Value.oneCell']) (by omega) t (gS _ _) (by omega) ?_);intro v1 w3 D J f u;obtain⟨a1,Ao,rfl,_,_⟩:=ak D);go_ret2;refine⟨_,rfl,?_,?_,?_⟩
 ·rw[a_];exact D
 ·refine⟨f.os.trans d.os,f.tape.trans d.tape,f.output.trans d.output,ia d.size f.size,λk R z=>(f.block k (by omega) z).trans (d.block k R)⟩
 rcases u with Y|⟨k,I,h2⟩
 ·exact .inl Y
 exact .inr ⟨k,I,by omega⟩
def zG {P:World} (h:qQ P v T X) (L:iX T):∀(f d:Nat) (c:Nat) (w:World) (base:Nat) (b:List Nat) (C:Value),d+f=T.length+3->c<1114112->
 tJ (mapOf T) (iD (mapOf T) f c)->b.length+(iD (mapOf T) f c).length<=32->Below P.heap.size P w->P.heap.size<=base->base<=w.heap.size->w.ownsRow base aN 1 C b.length (aM b)->
 Calls prog 192 #[v,C,.int .i32 c,.int .i64 d] w λe w'=>∃r,e=.returned (.tuple #[r,.bool true])/\w'.ownsRow base aN 1 r (b++iD (mapOf T) f c).length (aM (b++iD (mapOf T) f c))/\w.grownBy w' C.ownBlock/\kK w C r:=by
 intro f
 induction f with
 | zero=>
   intro d c w base b C ap S t i D q J H;have l:mapOf T c=[]:=t c (by simp[iD]);rw[iK l] at i⊢;exact tV h L d c w base b C S l (by simp at i;omega) D q J H
 | succ f ih=>
   intro d c w base b C ap S t i D q J H;by_cases l:mapOf T c=[]
   ·rw[iK l] at i⊢;exact tV h L d c w base b C S l (by simp at i;omega) D q J H
   rw[EJ l] at t i⊢;have aK:=aa h;have az:=NK L.map c;have Y7:=aa (λx (N:x∈mapOf T c)=>Kc L.acd S N);have hT:=h.mono D;obtain⟨ra,nt,rc,xa,nx,xc,rfl⟩:=h.shape;have ac:nt=T.length:=by
    obtain⟨r,x,K,⟨a,cap,hr,_⟩,_⟩:=h;subst hr;injection K with K;have:=congrArg (λs:Array Value=>s[0]?) K;simp at this;exact this.2.1
   have vI:=aa ac;clear ac;obtain⟨w1,y⟩:=ae (w.alloc (.cells #[.slice ra nt rc,.slice xa nx xc] 150));have k1:=Is.nw y;have ag:=aO y;have aF:w1.heap.size=w.heap.size+1:=by rw[y];simp
   have MP:=aa (Kb (hT.mono ag) L c S);have R:=k1.at 0 rfl;have Y:=k1.at 1 rfl;obtain⟨oa,W,rfl,_,_⟩:=ak H;go_enter func192,ntmps192;go_wp2_with fail;rw[<-y];refine MP.out.mono ?_;rintro e w2⟨mv,rfl,hm,G⟩;have k2:=k1.mono G;have o:=af ag G;have I:=aH H o;have aC:w.heap.size+1<=w2.heap.size:=by have:=G.size;omega
   have ai:0<(mapOf T c).length:=ke.2 l;have av:=aa ih;have aA:=aa (λk (F:(Value.slice oa b.length W).ownBlock=some k)=>H.lt k F);clear R Y y MP k1 H hT l ih;generalize Q:mapOf T c=m at *;have aw:=aa Q;have aE:nt<40000:=by have:=vI.out;have:=L.len;omega
   clear Q;obtain⟨n,Z⟩:=ae m.length;obtain⟨ma,mc,rfl,_,_⟩:=ak hm;have HN:=aa Z;have aq:=aa t;have BA:=aa i;have HM:=aa hm;have R:=k2.at 0 rfl;have zd:decide ((nt:Int)+2<(d:Int))=false:=by have:=vI.out;simp;omega
   rw[<-Z] at ai az⊢;clear Z t i hm;have zn:((n:Int)==0)=false:=by simp;omega
   go_wp2_with fail;have Yi:=aa I;go_loopw [1,36] (λuv iv wr=>∃j:Nat,j<=n/\iv=.int .i64 j/\wr.ownsRow base aN 1 uv (b++(m.take j).flatMap (iD (mapOf T) f)).length (aM (b++(m.take j).flatMap (iD (mapOf T) f)))/\w2.grownBy wr (Value.slice oa b.length W).ownBlock/\kK w2 (.slice oa b.length W) uv) (λ_ iv _=>n-(intOf iv).toNat)
   case atStart=>exact⟨0,ic _,rfl,by simpa using I,⟨rfl,rfl,rfl,d' _,λ_ _ _=>rfl⟩,kK.refl _ _⟩
   case round=>
    clear R zd I;obtain⟨j,hj,rfl,g,z,hN⟩:=hrel;have NL:∀k,(Value.slice oa b.length W).ownBlock=some k->base<=k/\k<w.heap.size:=λk F=>aA.out k F;have kr:=k2.grown z (λe=>by have:=(NL _ e).2;omega);have au:Below P.heap.size P wr:=(D.trans (o.mono D.size)).grown z (by have:=D.size;omega) λk F=>ia q (NL k F).1;have an:=z.size;by_cases aJ:j<n
    ·obtain⟨ua,uc,rfl,_,_⟩:=ak g;have zj:=eG (show j<n by omega);have A:j<m.length:=by have:=HN.out;omega
     have ah:=Apt.stays (u:=.slice ma m.length mc) (v:=.slice oa b.length W) (λk M h2=>by have:=(HM.out.lt k M).1;have:=(NL k h2).2;omega) HM.out z;obtain⟨a',c',K,_,N⟩:=bG.nN (Sl.aU ah).any rfl;obtain⟨bm,off,ad,_,aB⟩:=N j A;have ax:ma=some ⟨bm,off,none⟩:=by injection K with Y;rw[Y];exact ad
     subst ax;have p:=gw A;have R:=kr.at 0 rfl;have Y:=kr.at 1 rfl;have ab:m.take (j+1)=m.take j++[m[j]]:=gR A;have B:(b++(m.take j).flatMap (iD (mapOf T) f)).length+(iD (mapOf T) f m[j]).length<=32:=by
      have M:=BA.out;have h2:m.flatMap (iD (mapOf T) f)=(m.take j).flatMap (iD (mapOf T) f)++(iD (mapOf T) f m[j]++(m.drop (j+1)).flatMap (iD (mapOf T) f)):=by
       conv=>lhs;rw[<-km j m,jf A]
       rw[j7,jx]
      rw[h2] at M;simp only[gn] at M⊢;omega
     have V:tJ (mapOf T) (iD (mapOf T) f m[j]):=λx N=>aq.out x (lP.2 ⟨_,p,N⟩);have E:=av.out (d+1) m[j] wr base _ _ (by omega) (Y7.out _ p) V B au q (by omega) g;rw[show((d+1:Nat):Int)=(d:Int)+1 from by omega] at E;have HR:=aa E;have aP:d<50000:=by have:=vI.out;omega
     clear E;have am:=aa (show b++(m.take (j+1)).flatMap (iD (mapOf T) f)=(b++(m.take j).flatMap (iD (mapOf T) f))++iD (mapOf T) f m[j] by rw[ab,j7,kl];simp);clear N ah B V p ab K ad;generalize m[j]=cj at *;generalize b++(m.take j).flatMap (iD (mapOf T) f)=O at *;have aD:=aa g;clear g;go_wp2_with fail;refine HR.out.mono ?_;rintro e w5⟨r,rfl,o5,al,ay⟩;rw[gn] at o5;obtain⟨aL,aI,rfl,_,_⟩:=ak o5;clear HR aB R Y;go_wp2_with fail;go_roundw
     case rel=>
      refine⟨j+1,by omega,by simp,?_,Rv z hN al,kK.trans hN ay an⟩;rw[am.out,gn];exact o5
     case measure=>simp[intOf];omega
    have zj:=gI (show n<=j by omega);obtain rfl:j=n:=by omega
    have U:m.take j=m:=iu (by have:=HN.out;omega);rw[U] at g;generalize hO:b++m.flatMap (iD (mapOf T) f)=O at g;have ar:=aa hO;clear hO;obtain⟨ua,uc,rfl,_,_⟩:=ak g;have ao:=aa g;clear g U;go_wp2;go_ret2;rw[aw.out,ar.out];refine⟨_,rfl,ao.out,?_,?_⟩
    ·exact⟨z.os.trans o.os,z.tape.trans o.tape,z.output.trans o.output,ia o.size z.size,λk F aj=>(z.block k (by omega) aj).trans (o.block k F)⟩
    rcases hN with Z|⟨k,M,h2⟩
    ·exact .inl Z
    exact .inr ⟨k,M,by omega⟩
def Rw (h:qQ w v T X) (k:iX T) (c:Nat) (u:c<1114112) (f:fQ T c) :
 Calls prog 154 #[v,.int .i32 c] w λe w'=>∃r,e=.returned r/\w'.ownsRow w.heap.size aN 1 r (aD T c).length (aM (aD T c))/\Below w.heap.size w w':=by
 obtain⟨z,y,p,q,x,s,rfl⟩:=h.shape;obtain⟨l,b⟩:=ae (w.alloc (.cells #[.slice z y p,.slice q x s] 150));have j:=Is.nw b;have d:=aO b;have:l.heap.size=w.heap.size+1:=by rw[b];simp
 have i:=aa (zG h k (T.length+3) 0 c l w.heap.size [] (.slice none 0 0) (by omega) u f.1 (by rw[kp,k_];exact f.2) d (d' _) d.size (iS _ _ _ _));rw[lf,show iD (mapOf T) (T.length+3) c=aD T c from rfl] at i;have:=j.at 0 rfl;have:=j.at 1 rfl;clear h k f;go_enter func154,ntmps154;go_wp2_with fail;rw[<-b];clear b;refine i.out.mono ?_;rintro e B⟨r,rfl,g,m,_⟩;have o:=fO m;obtain⟨a,C,rfl,_,_⟩:=ak g;have n:=aa g;clear g i;go_wp2;go_ret;exact⟨_,rfl,n.out,d.trans (o.mono d.size)⟩
def qi (T:List aG) (X:List Nat) (q:aG):Prop:=q.cls=0/\∃a b,q.map=[a,b]/\ai T a=0/\q.code∉X
def qR (h:qQ w v T X) (hF:iX T) (hX:X.length<10000) (q:aG) (hq:q.code<1114112) (z:∀x∈q.map,x<1114112) {m:Value} (hm:Sl aN w m (aM q.map)) :
 Calls prog 193 #[v,.agg #[.int .i32 q.code,.int .i64 q.cls,m]] w λe w'=>∃b:Bool,e=.returned (.bool b)/\(b=true↔qi T X q)/\Below w.heap.size w w':=by
 have hT:=aa h;obtain⟨rv,xv,C,_,A⟩:=id h;obtain⟨ra,nt,Z,J,R,K,rfl⟩:=h.shape;have O:xv=.slice J R K:=by
  injection C with C;have:=congrArg (λs:Array Value=>s[1]?) C;simpa using this.symm
 subst O;obtain⟨n,M⟩:=ae q.map.length;obtain⟨V,Y,rfl,_,U⟩:=bG.nN hm.any M;obtain⟨f,g⟩:=ae ((w.alloc (.cells #[.slice ra nt Z,.slice J R K] 150)).alloc (.cells #[.int .i32 q.code,.int .i64 q.cls,.slice V n Y] 196));have D:Is f w.heap.size #[.slice ra nt Z,.slice J R K] 150:=by rw[g];exact(Is.new _ _ _).mono (ah _)
 have B:Is f (w.heap.size+1) #[.int .i32 q.code,.int .i64 q.cls,.slice V n Y] 196:=by rw[g];exact Is.new' _ _ _ _ (by simp)
 have d:Below w.heap.size w f:=by rw[g];exact((gS _ w).alloc (d' _) _).alloc (by simp) _
 have HS:=aa (λ(W:World) (E:Below f.heap.size f W)=>J8 (w:=W) (kE X) q.code ((A.mono d).mono E) (by have:=Rq X;omega) (NH X));have o:=Rp X q.code;generalize places (kE X) q.code=pl at *;have N:=aa o;have HX:=aa U;have F:=aa M;have I:=aa z;have g0:=B.gd 0 rfl;have g1:=B.gd 1 rfl;have g2:=B.gd 2 rfl;have g3:=D.gd 0 rfl;have g4:=D.gd 1 rfl;have k:=aa (show qi T X q↔(q.cls=0/\∃a b,q.map=[a,b]/\ai T a=0/\q.code∉X) from Iff.rfl);clear A C hm U M z o h;go_enter func193,ntmps193;go_wp2_with fail;rw[<-g];clear g;by_cases S:q.cls=0
 ·have z1:((q.cls:Int)==0)=true:=by simp;omega
  by_cases h2:n=2
  ·have z2:((n:Int)==2)=true:=by simp;omega
   obtain⟨a,b,j⟩:∃a b,q.map=[a,b]:=by
    have:=F.out;rcases hq':q.map with _|⟨a,_|⟨b,_|⟨c,l⟩⟩⟩
    ·rw[hq'] at this;simp at this;omega
    ·rw[hq'] at this;simp at this;omega
    ·exact⟨a,b,rfl⟩
    rw[hq'] at this;simp at this;omega
   obtain⟨mb,off,rfl,_,u⟩:=HX.out 0 (by have:=F.out;omega);have ea:q.map[0]'(by have:=F.out;omega)=a:=by simp[j]
   rw[ea,sC] at u;have g7:=Gr.cell (ag f) (aB d u);have ha:a<1114112:=I.out a (by rw[j];simp);have G:=aa (λ(W:World) (E:Below f.heap.size f W)=>NI ((hT.out.mono d).mono E) hF a ha);have y:=aa j;clear j ea HX;subst h2;by_cases t:ai T a=0
   ·rw[t] at G;have H:=aa t;clear t;refine aC (Array.replicate 27 true) 27 0 mixed ?_;refine ay [0,1,2,3,4,5,6,7,8,9,10,11,12,13,14] 12 ?_;refine bC ?_
    iterate 15 (refine aZ rfl ?_)
    refine bD ?_
    iterate 15 (go_big_quiet_step (rfl))
    refine az ?_;refine aI 15 ?_;go_wp2_with fail;refine(G.out _ (ag _)).mono ?_;rintro e w4⟨rfl,i⟩;go_wp2_with fail;refine aF i ?_;have p:=af (ag f) i;have Q:=D.mono p;have L:=B.mono p;have g5:=Gr.cell (gS _ _) (Q.at 1 rfl);have g6:=Gr.cell (gS _ _) (L.at 0 rfl);refine ay [16,17,18,19,20,21,22] 4 ?_;refine bC ?_
    iterate 7 (refine aZ rfl ?_)
    refine bD ?_
    iterate 7 (go_big_quiet_step (rfl))
    refine az ?_;refine aI 23 ?_;go_wp2_with fail;refine(HS.out _ p).mono ?_;rintro e w5⟨rfl,rX⟩;go_wp2_with fail;refine aF rX ?_;refine ay [24,25,26] 0 ?_;refine bC ?_
    iterate 3 (refine aZ rfl ?_)
    refine bD ?_
    iterate 3 (go_big_quiet_step (rfl))
    refine az ?_;refine aJ [] ?_;refine tail_nil ?_;go_wp2;go_ret;refine⟨_,rfl,?_,d.trans ((af p rX).mono d.size)⟩;rw[k.out];have h5:=N.out;constructor
    ·intro hd;refine⟨S,a,b,y.out,H.out,λP=>?_⟩;have:=h5.2 P;simp[this] at hd
    rintro⟨_,_,_,_,_,P⟩;have:¬pl % 2=1:=λe=>P (h5.1 e);simp[this]
   have z3:((ai T a:Int)==0)=false:=by simp;omega
   have H:=aa t;generalize ai T a=ka at G z3;clear t;refine aC (Array.replicate 27 true) 27 0 mixed ?_;refine ay [0,1,2,3,4,5,6,7,8,9,10,11,12,13,14] 12 ?_;refine bC ?_
   iterate 15 (refine aZ rfl ?_)
   refine bD ?_
   iterate 15 (go_big_quiet_step (rfl))
   refine az ?_;refine aI 15 ?_;go_wp2_with fail;refine(G.out _ (ag _)).mono ?_;rintro e w4⟨rfl,i⟩;go_wp2_with fail;refine aF i ?_;have p:=af (ag f) i;have Q:=D.mono p;have L:=B.mono p;have g5:=Gr.cell (gS _ _) (Q.at 1 rfl);have g6:=Gr.cell (gS _ _) (L.at 0 rfl);refine ay [16,17,18,19,20,21,22] 4 ?_;refine bC ?_
   iterate 7 (refine aZ rfl ?_)
   refine bD ?_
   iterate 7 (go_big_quiet_step (rfl))
   refine az ?_;refine aI 23 ?_;go_wp2_with fail;refine aF (gS _ _) ?_;refine ay [24,25,26] 0 ?_;refine bC ?_
   iterate 3 (refine aZ rfl ?_)
   refine bD ?_
   iterate 3 (go_big_quiet_step (rfl))
   refine az ?_;refine aJ [] ?_;refine tail_nil ?_;go_wp2;go_ret;refine⟨_,rfl,?_,d.trans (p.mono d.size)⟩;rw[k.out];constructor
   ·intro hd;cases hd
   rintro⟨_,a',b',r,h7,_⟩;rw[y.out] at r;cases r;exact absurd h7 H.out
  have z2:((n:Int)==2)=false:=by simp;omega
  refine aC (Array.replicate 27 true) 27 0 mixed ?_;refine ay [0,1,2,3,4,5,6,7,8,9,10,11,12,13,14] 12 ?_;refine bC ?_
  iterate 15 (refine aZ rfl ?_)
  refine bD ?_
  iterate 15 (go_big_quiet_step (rfl))
  refine az ?_;refine aI 15 ?_;go_wp2_with fail;refine aF (gS _ _) ?_;refine ay [16,17,18,19,20,21,22] 4 ?_;refine bC ?_
  iterate 7 (refine aZ rfl ?_)
  refine bD ?_
  iterate 7 (go_big_quiet_step (rfl))
  refine az ?_;refine aI 23 ?_;go_wp2_with fail;refine aF (gS _ _) ?_;refine ay [24,25,26] 0 ?_;refine bC ?_
  iterate 3 (refine aZ rfl ?_)
  refine bD ?_
  iterate 3 (go_big_quiet_step (rfl))
  refine az ?_;refine aJ [] ?_;refine tail_nil ?_;go_wp2;go_ret;refine⟨_,rfl,?_,d.trans ((ag f).mono d.size)⟩;rw[k.out];constructor
  ·intro hd;cases hd
  rintro⟨_,a',b',r,_⟩;have:=F.out;rw[r] at this;exact absurd this h2
 have z1:((q.cls:Int)==0)=false:=by simp;omega
 refine aC (Array.replicate 27 true) 27 0 mixed ?_;refine ay [0,1,2,3,4,5,6,7,8,9,10,11,12,13,14] 12 ?_;refine bC ?_
 iterate 15 (refine aZ rfl ?_)
 refine bD ?_
 iterate 15 (go_big_quiet_step (rfl))
 refine az ?_;refine aI 15 ?_;go_wp2_with fail;refine aF (gS _ _) ?_;refine ay [16,17,18,19,20,21,22] 4 ?_;refine bC ?_
 iterate 7 (refine aZ rfl ?_)
 refine bD ?_
 iterate 7 (go_big_quiet_step (rfl))
 refine az ?_;refine aI 23 ?_;go_wp2_with fail;refine aF (gS _ _) ?_;refine ay [24,25,26] 0 ?_;refine bC ?_
 iterate 3 (refine aZ rfl ?_)
 refine bD ?_
 iterate 3 (go_big_quiet_step (rfl))
 refine az ?_;refine aJ [] ?_;refine tail_nil ?_;go_wp2;go_ret;refine⟨_,rfl,?_,d.trans ((ag f).mono d.size)⟩;rw[k.out];constructor
 ·intro hd;cases hd
 rintro⟨r,_⟩;exact absurd r S
def BB {q:aG} (h:rowOf T c=some q):q∈T/\q.code=c:=by
 refine⟨mB h,?_⟩;have:=tU h;simpa using this
def Kg {q:aG} (l:hk c<4) (h:rowOf T c=some q):Prim T X c↔qi T X q:=by
 have j:=(BB h).2;have k:mapOf T c=q.map:=by unfold mapOf bP;rw[if_pos l,h]
 have g:ai T c=q.cls:=by unfold ai;rw[h]
 unfold Prim qi;rw[k,g,j];constructor
 ·rintro (d|⟨a,b,e,i,f,d⟩)
  ·omega
  exact⟨i,a,b,e,f,d⟩
 rintro⟨i,a,b,e,f,d⟩;exact .inr ⟨a,b,e,i,f,d⟩
def Rx (e:hk c<4) (h:rowOf T c=none):¬Prim T X c:=by
 have f:mapOf T c=[]:=by unfold mapOf bP;rw[if_pos e,h]
 unfold Prim;rw[f];rintro (g|⟨a,b,d,_⟩)
 ·omega
 cases d
def G6 (h:qQ w v T X) (p:iX T) (hX:X.length<10000) (c:Nat) (F:c<1114112) :
 Calls prog 155 #[v,.int .i32 c] w λe w'=>∃b:Bool,e=.returned (.bool b)/\(b=true↔Prim T X c)/\Below w.heap.size w w':=by
 obtain⟨ra,nt,S,U,nx,W,rfl⟩:=h.shape;obtain⟨G,g⟩:=ae (w.alloc (.cells #[.slice ra nt S,.slice U nx W] 150));have s:=Is.nw g;have f:=aO g;have:G.heap.size=w.heap.size+1:=by rw[g];simp
 by_cases O:4<=hk c
 ·obtain⟨a,b,r⟩:=Fh O;have y:=aa (lF (w:=G) F r);clear r h p s;go_enter func155,ntmps155;go_wp2_with fail;rw[<-g];clear g;refine y.out.mono ?_;rintro e V⟨rfl,rfl⟩;go_wp2;go_ret;exact⟨true,rfl,⟨λ_=>.inl O,λ_=>rfl⟩,f⟩
 have z:=aa (xZ (h.mono f) p c F);have y:=aa (rR (w:=G) F (by omega));have E:=aa (h.mono f);have I:=s.at 0 rfl;have M:=s.at 1 rfl;clear h;go_enter func155,ntmps155;go_wp2_with fail;rw[<-g];clear g;refine y.out.mono ?_;rintro e V⟨⟨a,b,rfl⟩,rfl⟩;go_wp2_with fail;refine z.out.mono ?_;rintro e Q⟨m,rfl,u,C,k⟩;obtain⟨w4,d⟩:=ae (Q.alloc (.cells #[.int .i32 (nP T c).code,.int .i64 (nP T c).cls,m] 196));have i:=aO d;have o:=Is.nw d;have t:=(s.mono k).mono i;obtain⟨am,nm,cm,rfl,_⟩:=C;have D:=af k i;cases l:rowOf T c with
 | none=>
   have n:nP T c=⟨0,0,[]⟩:=by unfold nP;rw[l];rfl
   have Yj:=aa (Rx (X:=X) (by omega) l);rw[n];clear n l z I M u o t D i d;go_wp2;go_ret;exact⟨false,rfl,⟨λh=>(by cases h),λh=>absurd h Yj.out⟩,f.trans ((af k (ah _)).mono f.size)⟩
 | some q=>
   have n:nP T c=q:=by unfold nP;rw[l];rfl
   have B:=aa (Kg (X:=X) (by omega) l);have j:=(BB l).1;rw[n] at d o u;rw[n];have R:=aa (qR (E.out.mono D) p hX q (p.code q j) (λx P=>p.acd q j x P) (u.mono i));have K:=o.at 0 rfl;have J:=o.at 1 rfl;have L:=o.at 2 rfl;have H:=t.at 0 rfl;have N:=t.at 1 rfl;rw[d] at K J L H N;clear n l z I M u o t j;go_wp2_with fail;rw[<-d];refine R.out.mono ?_;rintro e w5⟨bb,rfl,A,Y⟩;clear K J L H N d;go_wp2;go_ret;exact⟨bb,rfl,A.trans B.out.symm,f.trans ((af D Y).mono f.size)⟩
def Vg (q:aG) (M:Go.Cd.rowFine q) (a:Int) (K:a<q.code) {m:Value} (B:Sl aN w m (aM q.map)) :
 Calls prog 190 #[.agg #[.int .i32 q.code,.int .i64 q.cls,m],.int .i32 a] w λe w'=>e=.returned (.string ⟨#[]⟩)/\Below w.heap.size w w':=by
 obtain⟨k,Y,E,C,A⟩:=M;obtain⟨n,o⟩:=ae q.map.length;obtain⟨H,I,rfl,_,u⟩:=bG.nN B.any o;obtain⟨P,d⟩:=ae (w.alloc (.cells #[.int .i32 q.code,.int .i64 q.cls,.slice H n I] 196));have s:=Is.nw d;have g:=aO d;have t:=aa (rQ (w:=P) q.code k.1);rw[C] at t;have y:=aa (λW=>gZ (w:=W) q.code (by have:=k.1;omega));rw[decide_eq_true k] at y;have O:=aa u;have L:=aa o;have D:=aa A;rw[<-o] at E;have:=s.at 0 rfl;have:=s.at 1 rfl;have:=s.at 2 rfl;clear C A B u o;generalize q.code=c at *;generalize q.cls=l at *;clear k;go_enter func190,ntmps190;go_wp2_with fail;rw[<-d];clear d;refine t.out.mono ?_;rintro e J⟨rfl,rfl⟩;go_wp2_with fail;go_loopw [5,6,16] (λs5 s6 r wr=>∃j:Nat,j<=n/\r=.int .i64 j/\s5=.bool false/\s6=.bool false/\wr=J) (λ_ _ r _=>n-(intOf r).toNat)
 case atStart=>exact⟨0,ic _,rfl,rfl,rfl,rfl⟩
 case round=>
  obtain⟨j,Z,rfl,rfl,rfl,rfl⟩:=hrel;by_cases N:j<n
  ·have F:=eG (show j<n by omega);have f:j<q.map.length:=by have:=L.out;omega
   obtain⟨b,off,rfl,_,h⟩:=O.out j f;have h:=aB g h;obtain⟨z,p⟩:=D.out _ (gw f);generalize q.map[j]=x at *;have v:=aa (rQ (w:=wr) x p.1);rw[z] at v;have i:=aa (gZ (w:=wr) x (by have:=p.1;omega));rw[decide_eq_true p] at i;clear z p;go_wp2_with fail;refine v.out.mono ?_;rintro e G⟨rfl,rfl⟩;go_wp2_with fail;refine i.out.mono ?_;rintro e w4⟨rfl,rfl⟩;go_wp2_with fail;go_roundw
   case rel=>exact⟨j+1,by omega,by simp,by simp⟩
   case measure=>simp[intOf];omega
  have F:=gI (show n<=j by omega);have:decide ((c:Int)<=a)=false:=by simp;omega
  have:decide ((l:Int)<0)=false:=decide_eq_false (by omega);have:decide ((254:Int)<(l:Int))=false:=decide_eq_false (by omega);have:decide ((2:Int)<(n:Int))=false:=decide_eq_false (by omega);go_wp2_with (go_at_call 96;refine(y.out _).mono ?_;rintro e G⟨rfl,rfl⟩);go_ret;exact⟨rfl,g⟩
end Go.Proofs.YtmnimbnojdndmaaGreatDoor
namespace Go.Cd
section
open Go.RowKit
variable {P : Program} {k : TypeId}
variable {w:World} {r:Nat} {G:Value->Value->Prop} {x:Value} {elem:TypeId} {ops:Array Oper} {rest:List Oper} {Q:Exit->Act->World->Prop}
def iF (P:Program) (k:TypeId) (x:Value):Prop:=∃l,keyOf P k x=some l
def dE (P:Program) (k:TypeId) (w:World) (r:Nat) (G:Value->Value->Prop):Prop:=
 ∃(es:Array MapEntry) (ck:Nat),w.heap[r]? = some (.map es ck)∧(∀e∈es.toList,iF P k e.key)∧(∀(i j:Nat) (e e':MapEntry),es[i]? = some e->es[j]? = some e'->e.key=e'.key->i=j)∧∀x v,G x v↔∃e∈es.toList,e.key=x∧e.val=v
theorem dE.block {w':World} (h:dE P k w r G) (hb:w'.heap[r]? = w.heap[r]?):dE P k w' r G:=by
 obtain ⟨es,ck,h1,h2⟩:=h;exact ⟨es,ck,hb.trans h1,h2⟩
theorem dE.lt (h:dE P k w r G):r<w.heap.size:=by
 obtain ⟨es,ck,h1,_⟩:=h;exact (ju.1 h1).1
theorem dE.mono {w':World} (h:dE P k w r G) (hb:Below w.heap.size w w'):dE P k w' r G:=h.block (hb.block r h.lt)
theorem dE.new (w:World) (ck:Nat):dE P k (w.alloc (.map #[] ck)) w.heap.size (fun _ _=>False):=
 ⟨#[],ck,heap_alloc_new _ _,by simp,by simp,by simp⟩
theorem dE.one (h:dE P k w r G) {u v:Value} (h1:G x u) (h2:G x v):u=v:=by
 obtain ⟨es,ck,_,_,h3,h4⟩:=h;obtain ⟨e,he,e1,e2⟩:=(h4 x u).1 h1;obtain ⟨e',he',Vh,e2'⟩:=(h4 x v).1 h2;obtain ⟨i,hi,ei⟩:=l4.1 he;obtain ⟨j,hj,ej⟩:=l4.1 he';have a1:es[i]? = some e:=by rw [<-mz,gx hi,ei]
 have a2:es[j]? = some e':=by rw [<-mz,gx hj,ej]
 have:=h3 i j e e' a1 a2 (e1.trans Vh.symm);subst this;rw [a1] at a2;cases a2;exact e2.symm.trans e2'
theorem dE.find (K:Maps.Keyed P k) {W:World} {es:Array MapEntry} (h2:∀e∈es.toList,iF P k e.key) (h4:∀x v,G x v↔∃e∈es.toList,e.key=x∧e.val=v) (hx:iF P k x) :
 ((Instr.findKey k x es.toList).run P W=.ok none W∧∀v,¬G x v)∨∃j e,(Instr.findKey k x es.toList).run P W=.ok (some (j,e.val)) W∧es[j]? = some e∧e.key=x∧G x e.val:=by
 obtain ⟨l,hl⟩:=hx;rcases K.find W hl es.toList h2 with ⟨h5,h6⟩|⟨j,e,h5,h6,h7⟩
 ·refine .inl ⟨h5,fun v hg=>?_⟩;obtain ⟨e,he,e1,_⟩:=(h4 x v).1 hg;exact h6 e he e1
 ·refine .inr ⟨j,e,h5,by rw [<-mz];exact h6,h7,(h4 x e.val).2 ⟨e,lO h6,h7,rfl⟩⟩
theorem qU (K:Maps.Keyed P k) {t:TypeId} (ht:P.underlying t=some (.map k elem)) (h:dE P k w r G) (hx:iF P k x) {z:Value} (hz:(zeroValue elem).run P w=.ok z w) (c:Bool) :
 ((Instr.lookup t (.map (some r)) x c).run P w=.ok (if c then .tuple #[z,.bool false] else z) w∧∀v,¬G x v)∨∃v,(Instr.lookup t (.map (some r)) x c).run P w=.ok (if c then .tuple #[v,.bool true] else v) w∧G x v:=by
 obtain ⟨es,ck,h1,h2,h3,h4⟩:=h;obtain ⟨l,hl⟩:=id hx;rcases dE.find K (W:=w) h2 h4 hx with ⟨h5,h6⟩|⟨j,e,h5,h6,h7,h8⟩
 ·exact .inl ⟨by simp [Instr.lookup,run_underlying ht,tg h1,K.check w _ hl,h5,hz,Result.andThen],h6⟩
 ·exact .inr ⟨e.val,by simp [Instr.lookup,run_underlying ht,tg h1,K.check w _ hl,h5,Result.andThen],h8⟩
def Ad (G:Value->Value->Prop) (x v:Value):Value->Value->Prop:=fun y u=>(y=x∧u=v)∨(y≠x∧G y u)
theorem Kh (K:Maps.Keyed P k) {t:TypeId} (ht:P.underlying t=some (.map k elem)) (h:dE P k w r G) (hx:iF P k x) (v:Value) :
 ∃w',(Instr.mapUpdate t (.map (some r)) x v).run P w=.ok () w'∧dE P k w' r (Ad G x v)∧w.grownBy w' (some r):=by
 obtain ⟨es,ck,h1,h2,h3,h4⟩:=h;have hlt:r<w.heap.size:=(ju.1 h1).1;obtain ⟨l,hl⟩:=id hx;have hset:∀o:Obj,({ w with heap:=w.heap.setIfInBounds r o }:World).heap[r]? = some o:=fun o=>by simp [hlt]
 have hgr:∀o:Obj,w.grownBy { w with heap:=w.heap.setIfInBounds r o } (some r):=fun o=>⟨rfl,rfl,rfl,by simp,fun j _ hj=>by
  have:r≠j:=fun e=>hj (by rw [e])
  simp [this]⟩
 rcases dE.find K (W:=w) h2 h4 hx with ⟨h5,h6⟩|⟨j,e,h5,h6,h7,h8⟩
 ·refine ⟨_,by simp [Instr.mapUpdate,run_underlying ht,tg h1,K.check w _ hl,h5,MapKept.run_setObj_map _ h1,Result.andThen];rfl,⟨_,_,hset _,?_,?_,?_⟩,hgr _⟩
  ·intro e he;rw [Array.toList_push] at he;rcases ie.1 he with he|he
   ·exact h2 e he
   ·rw [gE.1 he];exact hx
  ·intro i j e e' hi hj he;have hno:∀e∈es.toList,e.key≠x:=fun e he hk=>h6 e.val ((h4 x e.val).2 ⟨e,he,hk,rfl⟩);rw [Array.getElem?_push] at hi hj
   split at hi <;> split at hj
   ·omega
   ·cases hi;exact absurd he.symm (hno e' (by rw [<-mz] at hj;exact lO hj))
   ·cases hj;exact absurd he (hno e (by rw [<-mz] at hi;exact lO hi))
   ·exact h3 i j e e' hi hj he
  ·intro y u;unfold Ad;rw [Array.toList_push];constructor
   ·rintro (⟨rfl,rfl⟩|⟨hy,hg⟩)
    ·exact ⟨{ key:=y,val:=u,born:=ck },by simp,rfl,rfl⟩
    ·obtain ⟨e,he,e1,e2⟩:=(h4 y u).1 hg;exact ⟨e,by simp [he],e1,e2⟩
   ·rintro ⟨e,he,e1,e2⟩;rcases ie.1 he with he|he
    ·have hg:=(h4 y u).2 ⟨e,he,e1,e2⟩;refine .inr ⟨fun e3=>?_,hg⟩;subst e3;exact h6 u hg
    ·rw [gE.1 he] at e1 e2;exact .inl ⟨e1.symm,e2.symm⟩
 ·have hj:j<es.size:=(ju.1 h6).1;have hst:=K.stays w hl;refine ⟨_,by simp [Instr.mapUpdate,run_underlying ht,tg h1,K.check w _ hl,h5,h6,h7,hst,MapKept.run_setObj_map _ h1,Result.andThen];rfl,⟨_,_,hset _,?_,?_,?_⟩,hgr _⟩
  ·intro e' he;obtain ⟨i,hi,rfl⟩:=l4.1 he;rw [sY,Array.size_modify] at hi;rw [rm,sy]
   split
   ·exact hx
   ·exact h2 _ (by simp)
  ·intro i i' e1 e2 hi hi' he;rw [sq] at hi hi';have key:∀(m:Nat) (y:MapEntry),(if j=m then (es[m]?).map fun e=>{ e with key:=x,val:=v } else es[m]?)=some y->∃y0,es[m]? = some y0∧y0.key=y.key:=by
    intro m y hy
    split at hy
    ·rename_i hm;subst hm;rw [h6] at hy;cases hy;exact ⟨e,h6,h7⟩
    ·exact ⟨y,hy,rfl⟩
   obtain ⟨y1,a1,b1⟩:=key i e1 hi;obtain ⟨y2,a2,b2⟩:=key i' e2 hi';exact h3 i i' y1 y2 a1 a2 (b1.trans (he.trans b2.symm))
  ·intro y u;unfold Ad;constructor
   ·rintro (⟨rfl,rfl⟩|⟨hy,hg⟩)
    ·refine ⟨{ e with key:=y,val:=u },?_,rfl,rfl⟩;refine l4.2 ⟨j,by simp [hj],?_⟩;rw [rm,sy,if_pos rfl];congr 1;exact (ju.1 h6).2▸rfl
    ·obtain ⟨e',he,e1,e2⟩:=(h4 y u).1 hg;obtain ⟨i,hi,rfl⟩:=l4.1 he;have hij:j≠i:=fun h=>by
      subst h;have:=(ju.1 h6).2;rw [rm,this,h7] at e1;exact hy e1.symm
     refine ⟨_,l4.2 ⟨i,by simpa using hi,rfl⟩,?_,?_⟩
     ·rw [rm,sy,if_neg hij];simpa using e1
     ·rw [rm,sy,if_neg hij];simpa using e2
   ·rintro ⟨e',he,e1,e2⟩;obtain ⟨i,hi,rfl⟩:=l4.1 he;rw [sY,Array.size_modify] at hi;rw [rm,sy] at e1 e2;by_cases hij:j=i
    ·rw [if_pos hij] at e1 e2;exact .inl ⟨e1.symm,e2.symm⟩
    ·rw [if_neg hij] at e1 e2;refine .inr ⟨fun h=>hij ?_,(h4 y u).2 ⟨es[i],by simp,e1,e2⟩⟩;exact h3 j i e es[i] h6 (rh hi) (h7.trans (h.symm.trans e1.symm))
theorem iL {o:Oper} {a:Act} (hg:o.guard=none) (m x:Operand) (t elem:TypeId) (c:Bool) (ho:o.op=Op.lookup t m x c)
 (K:Maps.Keyed P k) (ht:P.underlying t=some (.map k elem)) (h:dE P k w r G) (hm:a.eval m=.map (some r)) {xv:Value} (hx:a.eval x=xv) (hk:iF P k xv) {z:Value} (hz:(zeroValue elem).run P w=.ok z w)
 (h1:(∀v,¬G xv v)->wpList P ops Q rest (a.put o.dst (if c then .tuple #[z,.bool false] else z)) w) (h2:∀v,G xv v->wpList P ops Q rest (a.put o.dst (if c then .tuple #[v,.bool true] else v)) w):wpList P ops Q (o::rest) a w:=by
 refine wpList_plain hg fun K' hK'=>?_;rcases qU K ht h hk hz c with ⟨hr,hn⟩|⟨v,hr,hv⟩
 ·unfold Oper.wp;simp [execOp,ho,hm,hx,hr,Result.andThen];exact hK' _ _ (h1 hn)
 ·unfold Oper.wp;simp [execOp,ho,hm,hx,hr,Result.andThen];exact hK' _ _ (h2 v hv)
theorem jQ {o:Oper} {a:Act} (hg:o.guard=none) (m x v:Operand) (t elem:TypeId) (ho:o.op=Op.mapUpdate t m x v)
 (K:Maps.Keyed P k) (ht:P.underlying t=some (.map k elem)) (h:dE P k w r G) (hm:a.eval m=.map (some r)) {xv vv:Value} (hx:a.eval x=xv) (hv:a.eval v=vv) (hk:iF P k xv)
 (h1:∀w',dE P k w' r (Ad G xv vv)->w.grownBy w' (some r)->wpList P ops Q rest (a.put o.dst undef) w'):wpList P ops Q (o::rest) a w:=by
 refine wpList_plain hg fun K' hK'=>?_;obtain ⟨w',hr,r1,r2⟩:=Kh K ht h hk vv;unfold Oper.wp;simp [execOp,ho,hm,hx,hv,hr,Result.andThen];exact hK' _ _ (h1 w' r1 r2)
theorem mapM_some {α β:Type} {f:α->Option β}:∀(l:List α),(∀x∈l,∃y,f x=some y)->∃ys,l.mapM f=some ys
 | [],_=>⟨[],rfl⟩
 | a::l,h=>by
   obtain ⟨y,hy⟩:=h a (by simp);obtain ⟨ys,hys⟩:=mapM_some l fun x hx=>h x (by simp [hx]);exact ⟨y::ys,by simp [List.mapM_cons,hy,hys]⟩
theorem Qi {k e:TypeId} {n:Nat} {q:IntKind} (hk:P.underlying k=some (.array n e)) (he:P.underlying e=some (.int q)) (h1:P.cellsOf e=1) (hn:P.cellsOf k=n) (hkt:P.keyType k=true) {m:Nat} (hm:P.types.size=m+1) (cs:Array Value) (hcs:cs.size=n)
 (hall:∀i,i<n->∃x,cs[i]? = some (.int q x)∧(Lit.int q x).wf=true):iF P k (.agg cs):=by
 have hl:cs.toList.length=n:=by simpa using hcs
 have hmm:∃ys,(List.range n).mapM (fun i=>P.keyLits (m+1) e ((cs.toList.drop (i*1)).take 1))=some ys:=by
  refine mapM_some _ fun i hi=>?_;obtain ⟨x,hx,hw⟩:=hall i (nf.1 hi);refine ⟨[.int q x],?_⟩;have hi':i<cs.toList.length:=by rw [hl];exact nf.1 hi
  have e1:(cs.toList.drop (i*1)).take 1=[.int q x]:=by
   rw [qt,jf hi'];have:=(ju.1 hx).2;simp [this]
  rw [e1];unfold Program.keyLits;simp [he,hw]
 obtain ⟨ys,hys⟩:=hmm;refine ⟨.string (keyBytes ys.flatten),?_⟩;unfold keyOf;have hf:Value.formed P k (.agg cs)=true:=by simp [Value.formed,hk,hcs,hn]
 have hkl:P.keyLits (P.types.size+1) k cs.toList=some ys.flatten:=by
  rw [hm]
  conv=>lhs;unfold Program.keyLits
  simp only [hk];rw [if_pos (by rw [hl,hn]),h1,hys];rfl
 simp only [hk];rw [hkt,hf];simp only [Bool.and_self,if_true];show (P.keyLits (P.types.size+1) k cs.toList).map _=_;rw [hkl];rfl
end
end Go.Cd
