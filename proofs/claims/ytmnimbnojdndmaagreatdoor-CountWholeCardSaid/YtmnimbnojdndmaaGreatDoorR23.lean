/- One machine of an NFD counts as its units do, multiplied; no condition. -/
import Derived.Test.YtmnimbnojdndmaaGreatDoorR22
set_option maxRecDepth 100000
set_option maxHeartbeats 6400000
set_option linter.all false
namespace Go.Proofs.YtmnimbnojdndmaaGreatDoor
open Go.RowKit Go.Cd Go.Shelf _root_.Go.Proofs.Tryz
abbrev Pw:TypeId:=325
def aaL:mV prog 322 Pw (.agg #[.int .i32 0,.int .i32 0]) 2 8:=⟨rfl,underlying322,info_parts (by kernel_rfl)⟩
def IL (p:Nat×Nat):List Value:=[.int .i32 (p.1:Nat),.int .i32 (p.2:Nat)]
def xu (p:Nat×Nat):List Nat:=[p.1,p.2+1]
def Ms (p:Nat×Nat):(xu p).length=2:=rfl
def Mt (p:Nat×Nat):(IL p).length=2:=rfl
def Mv {w:World} {v:Value} (R:List (Nat×Nat)) (L:bG w v (aM (R.flatMap xu))) (hl:R.length<1000) (P:∀p∈R,p.1<1114112/\p.2<1114112) :
 Calls prog 201 #[.agg #[v]] w λe w'=>∃r,e=.returned r/\w'.ownsRow w.heap.size Pw 2 r R.length (R.flatMap IL)/\Below w.heap.size w w':=by
 obtain⟨a,cap,rfl,_,I⟩:=Go.Cd.bG.nN L rfl;have l:=vW xu 2 Ms R;have K:=aa I;have HR:=aa P;obtain⟨n,C⟩:=ae ((R.flatMap xu).length);rw[<-C] at l⊢;obtain⟨E,d⟩:=ae (w.alloc (.cells #[.slice a n cap] 148));have F:=aO d;have X:=Is.nw d;have ac:E.heap.size=w.heap.size+1:=by rw[d];simp
 have N:=aa C;have z:=aa l;have rW:n<2000:=by omega
 clear I P L C l;go_enter func201,ntmps201;go_wp2_with fail;rw[<-d];clear d;go_loopw [3,4] (λrv D wr=>∃j:Nat,j<=R.length/\D=.int .i64 (j*2:Nat)/\wr.ownsRow (w.heap.size+1) Pw 2 rv j ((R.take j).flatMap IL)/\Below (w.heap.size+1) E wr) (λ_ D _=>n-(intOf D).toNat)
 case atStart=>exact⟨0,Nat.zero_le _,rfl,World.ownsRow_nil _ _ _ _,Below.refl _ _⟩
 case round=>
  obtain⟨j,hj,rfl,A,y⟩:=hrel;have k2:=X.low y (Nat.lt_succ_self _);have U:wr.cell? ⟨w.heap.size,0,none⟩=some (.slice a n cap):=k2.at 0 rfl;have f:Below w.heap.size w wr:=F.trans (y.mono (Nat.le_succ _));obtain⟨i,u⟩:=ae (j*2);rw[<-u];by_cases h:j<R.length
  ·have zj:decide (i<n)=true:=by have:=z.out;simp;omega
   have Y:i+1<n:=by have:=z.out;omega
   have k:i<(R.flatMap xu).length:=by have:=N.out;omega
   have c:i+1<(R.flatMap xu).length:=by have:=N.out;omega
   obtain⟨b,off,rfl,_,x⟩:=K.out i k;obtain⟨b',G,g,_,t⟩:=K.out (i+1) c;injection g with g;injection g with o q;subst o;subst q;have m:=vV xu 2 Ms R j h;have J:(R.flatMap xu)[i]=R[j].1:=by
    have:=m 0 (by decide);rw[Nat.add_zero,<-u,List.getElem?_eq_getElem k] at this;exact Option.some.inj this
   have M:(R.flatMap xu)[i+1]=R[j].2+1:=by
    have:=m 1 (by decide);rw[<-u,List.getElem?_eq_getElem c] at this;exact Option.some.inj this
   rw[J] at x;rw[M] at t;have hp:=HR.out _ (List.getElem_mem h);have O:=aa (show(R.take (j+1)).flatMap IL=(R.take j).flatMap IL++IL R[j] by rw[List.take_succ_eq_append_getElem h,List.flatMap_append];simp);obtain⟨p,s⟩:=ae (R[j]);rw[<-s] at x t hp O;have x:=aB f x;have t:=aB f t;have z1:IntKind.i32.wrap (((p.2+1:Nat):Int)-1)=(p.2:Nat):=by rw[IntKind.wrap_i32];omega
   have z2:IntKind.i64.wrap ((i:Int)+1)=((i+1:Nat):Int):=by rw[IntKind.wrap_i64];omega
   have HI:=aa u;have HO:=aa A;clear J M m k c s u A;go_upto_region 5 with fail;have T:=Gr.cell (ag wr) U;have g1:=Gr.cell (ag wr) x;have g2:=Gr.cell (ag wr) t;refine aC #[true,true,true,true,true,true,true,true,true,true,true,true,true,true,true,false,false] 15 2 mixed ?_;refine ay [0,1,2,3,4,5,6,7,8,9,10,11,12,13] 1 ?_
   iterate 14 (refine aA rfl ?_;go_big_quiet_step (rfl))
   refine az ?_;refine aI 14 ?_;clear T g1 g2;have ab:=ag wr;go_wp2_with fail;refine aF (ah _) ?_;refine aJ [15,16] ?_;refine uO (os:=[_,_]) rfl ?_;have V:=y.size;refine Bt (W:=wr.drew) rfl _ _ 322 rfl (w.heap.size+1) Pw _ 2 8 aaL (by decide) (by decide) u3 j _ rfl (aH HO.out (ag wr)) #[.int .i32 (p.1:Nat),.int .i32 (p.2:Nat)] rfl rfl (by simp[Value.oneCell']) (by omega) (by show w.heap.size+1<=wr.heap.size;omega) ?_;intro v1 Q H S _;have B:=aa (show Q.ownsRow (w.heap.size+1) Pw 2 v1 (j+1) ((R.take (j+1)).flatMap IL) from by rw[O.out];exact H);clear H;have yf:Below (w.heap.size+1) E Q:=y.trans ((((ag wr).mono (by omega)).trans ((ah _).mono (by show w.heap.size+1<=wr.heap.size;omega))).trans S);have z3:IntKind.i64.wrap ((i:Int)+2)=((i+2:Nat):Int):=by rw[IntKind.wrap_i64];omega
   go_wp2_with fail;refine uP ?_;go_wp2;go_roundw
   case rel=>exact⟨j+1,by omega,by have:=HI.out;congr 1;omega,B.out,yf⟩
   case measure=>simp[intOf];omega
  have zj:decide ((i:Int)<(n:Int))=false:=by have:=z.out;simp;omega
  have Z:¬i<n:=by have:=z.out;omega
  obtain rfl:j=R.length:=by omega
  rw[List.take_length] at A;go_wp2;go_ret;exact⟨_,rfl,aT A (Nat.le_succ _),f⟩
def vC (p:Nat×Nat):List Nat:=List.range' p.1 (p.2+1-p.1)
def Ef {w:World} {v:Value} (R:List (Nat×Nat)) (I:bG w v (aM (R.flatMap xu))) (J:R.length<1000) (M:∀p∈R,p.1<1114112/\p.2<1114112/\p.1<=p.2) :
 Calls prog 161 #[.agg #[v]] w λe w'=>∃r,e=.returned r/\w'.ownsRow w.heap.size aN 1 r (R.flatMap vC).length (aM (R.flatMap vC))/\Below w.heap.size w w':=by
 obtain⟨a,cap,rfl,_,_⟩:=Go.Cd.bG.nN I rfl;obtain⟨n,hn⟩:=ae ((R.flatMap xu).length);rw[<-hn] at I⊢;obtain⟨w1,h⟩:=ae (w.alloc (.cells #[.slice a n cap] 148));have x:=aO h;have k1:=Is.nw h;have ab:w1.heap.size=w.heap.size+1:=by rw[h];simp
 have RA:=aa (Mv R (I.mono x) J (λp z=>⟨(M p z).1,(M p z).2.1⟩));have HR:=aa M;have e0:w1.cell? ⟨w.heap.size,0,none⟩=some (.slice a n cap):=k1.at 0 rfl;clear I M hn k1;go_enter func161,ntmps161;go_wp2_with fail;rw[<-h];clear h;refine RA.out.mono ?_;rintro e d⟨r,rfl,Q,E⟩;have b:=af x E;obtain⟨ra,rc,rfl,_,_⟩:=ak Q;have U:=aa Q;clear RA e0 Q E ab x;go_wp2_with fail;go_loopw [3,10] (λT V wr=>∃j:Nat,j<=R.length/\V=.int .i64 j/\wr.ownsRow d.heap.size aN 1 T ((R.take j).flatMap vC).length (aM ((R.take j).flatMap vC))/\Below d.heap.size d wr/\((R.take j).flatMap vC).length<=1200000*j) (λ_ V _=>R.length-(intOf V).toNat)
 case atStart=>exact⟨0,Nat.zero_le _,rfl,World.ownsRow_nil _ _ _ _,Below.refl _ _,by simp⟩
 case round=>
  obtain⟨j,hj,rfl,i,o,G⟩:=hrel;by_cases u:j<R.length
  ·have zj:decide ((j:Int)<(R.length:Int))=true:=by simp;omega
   obtain⟨g,rfl⟩:∃g,ra=some ⟨g,0,none⟩:=by
    rcases U.out.2 with⟨L,h2⟩|⟨g,_,_,L,_⟩
    ·have h2:R.length=0:=h2;omega
    injection L with L;exact⟨g,L⟩
   have y:=vV IL 2 Mt R j u;have X:=vW IL 2 Mt R;have Y:=aB o ((U.out.cellAt (j*2) (by omega)).trans ((y 0 (by decide)).trans rfl));have P:=aB o ((U.out.cellAt (j*2+1) (by omega)).trans ((y 1 (by decide)).trans rfl));have z:=HR.out _ (List.getElem_mem u);have A:=aa (show(R.take (j+1)).flatMap vC=(R.take j).flatMap vC++vC R[j] by rw[List.take_succ_eq_append_getElem u,List.flatMap_append];simp);obtain⟨p,H⟩:=ae (R[j]);rw[<-H] at Y P z A;obtain⟨S,hS⟩:=ae ((R.take j).flatMap vC);rw[<-hS] at i G A;obtain⟨m,F⟩:=ae (p.2+1-p.1);have C:vC p=List.range' p.1 m:=by rw[F];rfl
   rw[C] at A;obtain⟨f,hf⟩:=ae p.1;obtain⟨l,J⟩:=ae p.2;rw[<-hf] at A F z Y;rw[<-J] at F z P;obtain⟨w4,k⟩:=ae (wr.alloc (.cells #[.int .i32 (f:Nat),.int .i32 (l:Nat)] Pw));have s:=aO k;have K:=Is.nw k;have o4:=aH i s;have lN:Below d.heap.size d w4:=af o s;have N:=aa F;have:m<=1200000:=by omega
   have:S.length+1200000<=1200000*(j+1):=by omega
   have f0:=K.at 0 rfl;clear i y X hS C F hf J H;go_wp2_with fail;rw[<-k];obtain⟨rb,D⟩:=ae wr.heap.size;rw[<-D] at K⊢;clear k Y P s D f0;go_loopw [3,6] (λT Z wr=>∃q c:Nat,q<=m/\c=f+q/\Z=.int .i32 c/\wr.ownsRow d.heap.size aN 1 T (S.length+q) (aM (S++List.range' f q))/\Below d.heap.size d wr/\Is wr rb #[.int .i32 (f:Nat),.int .i32 (l:Nat)] Pw) (λ_ Z _=>f+m-(intOf Z).toNat)
   case atStart=>exact⟨0,f,Nat.zero_le _,rfl,rfl,by simpa using o4,lN,K⟩
   case round=>
    clear o4 lN K;obtain⟨q,c,hq,hc,rfl,i,o,O⟩:=hrel;have:=O.at 1 rfl;have B:=aa hc;clear hc;by_cases ac:q<m
    ·have W:c<=l:=by have:=N.out;have:=B.out;omega
     have zc:decide ((c:Int)<=(l:Int))=true:=by simp;omega
     have:IntKind.i32.wrap ((c:Int)+1)=((c+1:Nat):Int):=by rw[IntKind.wrap_i32];have:=N.out;have:=B.out;omega
     have HS:=aa (show aM (S++List.range' f (q+1))=aM (S++List.range' f q)++[.int .i32 (c:Nat)] by
      rw[List.range'_concat,<-List.append_assoc,B.out];simp[aM])
     have Yi:=aa i;have hs:=o.size;clear i
     go_wp2_with (
      refine f_ rfl _ _ 35 rfl d.heap.size aN _ 4 bW u3 (S.length+q) _ rfl Yi.out (.int .i32 (c:Nat)) rfl rfl (by omega) (by unfold maxLen;omega) wr (Below.refl _ _) hs ?_;intro v1 w9 o9 o_ oA Dw;have t:=aa (show w9.ownsRow d.heap.size aN 1 v1 (S.length+(q+1)) (aM (S++List.range' f (q+1))) from by rw[HS.out];exact o9);have p9:=(O.mono (ah _)).grown Dw ((O.mono (ah _)).other oA (by decide))
      clear o9 Dw oA)
     go_roundw
     case rel=>exact⟨q+1,c+1,by omega,by have:=B.out;omega,by simp,t.out,o.trans o_,p9⟩
     case measure=>have:=B.out;simp[intOf];omega
    have W:¬c<=l:=by have:=N.out;have:=B.out;omega
    have zc:decide ((c:Int)<=(l:Int))=false:=by simp;omega
    obtain rfl:q=m:=by omega
    have t:=aa (show wr.ownsRow d.heap.size aN 1 u3 ((R.take (j+1)).flatMap vC).length (aM ((R.take (j+1)).flatMap vC)) from by rw[A.out,List.length_append,List.length_range'];exact i);have HL:=aa (show((R.take (j+1)).flatMap vC).length<=1200000*(j+1) from by rw[A.out,List.length_append,List.length_range'];omega);clear i;go_wp2;go_roundw
    case rel=>exact⟨j+1,by omega,by simp,t.out,o,HL.out⟩
    case measure=>simp[intOf];omega
  have zj:decide ((j:Int)<(R.length:Int))=false:=by simp;omega
  obtain rfl:j=R.length:=by omega
  rw[List.take_length] at i;go_wp2;go_ret;exact⟨_,rfl,aT i b.size,b.trans (o.mono b.size)⟩
end Go.Proofs.YtmnimbnojdndmaaGreatDoor
section
namespace Go.Cd
def Xh:gu Gf=Gf:=by
 have h:=lq Gf;have c:Gf.Pairwise (· < ·):=by decide
 have e:(gu Gf).Nodup:=h.1.imp (λh=>Nat.ne_of_lt h);have d:Gf.Nodup:=c.imp (λh=>Nat.ne_of_lt h);exact List.Perm.eq_of_pairwise (λa b _ _ g f=>by omega) h.1 c ((List.perm_ext_iff_of_nodup e d).2 h.2)
def Xi:List (Nat×Nat):=[(2392,2393),(10972,10972),(64285,64285),(64287,64287),(119134,119134)]
end Go.Cd
namespace Go.Proofs.YtmnimbnojdndmaaGreatDoor
open Go.RowKit Go.Cd Go.Shelf
def TG:lC (gu Gf)=Xi.flatMap xu:=by rw[Xh];decide
def TH:Xi.flatMap vC=Gf:=by decide
def Mw {w:World} (hG:dL w) {v:Value} (R:List (Nat×Nat)) (k:bG w v (aM (R.flatMap xu))) (hl:R.length<100) (hR:∀p∈R,p.1<1114112/\p.2<1114112/\p.1<=p.2) (X:List Nat) (hX:R.flatMap vC=X) (S:∀c∈X,c<1114112) (Yk:0<X.length/\X.length<1000) :
 Calls Tryz.prog 114 #[.agg #[v]] w λe w'=>e=.returned (.string (tx (bA (X.map aV))))/\Below w.heap.size w w':=by
 have Qq:=aa (λ(W:World) (E:Below w.heap.size w W)=>hG.mono E);obtain⟨a,cap,rfl,_,_⟩:=Go.Cd.bG.nN k rfl;obtain⟨n,hn⟩:=ae ((R.flatMap xu).length);rw[<-hn] at k⊢;obtain⟨z,f⟩:=ae (w.alloc (.cells #[.slice a n cap] 148));have h:=aO f;have k1:=Is.nw f;have t:z.heap.size=w.heap.size+1:=by rw[f];simp
 obtain⟨w2,d⟩:=ae (z.alloc (.cells #[.pointer none,.slice none 0 0] 191));have g:=aO d;have u2:pW z.heap.size z.heap.size [] w2:=by rw[d];exact pW.new
 have k2:=k1.mono g;have e0:w2.cell? ⟨w.heap.size,0,none⟩=some (.slice a n cap):=k2.at 0 rfl;have Z:=aa (Ef R ((k.mono h).mono g) (by omega) hR);rw[hX] at Z;have gN:=af h g;rw[f] at d;rw[t] at u2;clear k hn hG hR k1 k2 h g f t hX;go_enter Tryz.func114,Tryz.ntmps114;go_wp2_with fail;rw[<-d];clear d;refine Z.out.mono ?_;rintro e w3⟨r,rfl,P,i⟩;have u3:=u2.below i;have K:=aa (Sl.aU P);obtain⟨ra,rc,rfl,_,_⟩:=ak P;have q:=af gN i;have u:w.heap.size+1<=w3.heap.size:=by obtain⟨_,k⟩:=u3.block;have:=block_lt k;omega
 obtain⟨N,B⟩:=ae X.length;rw[<-B] at K⊢;have y:=aa B;have ac:0<N/\N<1000:=by rw[B];exact Yk
 clear Z e0 P i u2 B;go_wp2_with fail;go_loopw [5,9] (λ_ Q wr=>∃j:Nat,j<=N/\Q=.int .i64 j/\pW (w.heap.size+1) (w.heap.size+1) (bA ((X.take j).map aV)) wr/\Sl aN wr (.slice ra N rc) (aM X)/\Below w.heap.size w wr/\w.heap.size+1<=wr.heap.size/\(bA ((X.take j).map aV)).length<=7*j) (λ_ Q _=>N-(intOf Q).toNat)
 case atStart=>exact⟨0,Nat.zero_le _,rfl,u3,K.out,q,u,by simp[bA]⟩
 case round=>
  clear u3 K q u;obtain⟨j,hj,rfl,x,J,H,hz,l⟩:=hrel;by_cases ad:j<N
  ·have zj:=eG (show j<N by omega);have O:j<X.length:=by have:=y.out;omega
   obtain⟨a',ab,U,_,hx⟩:=Go.Cd.bG.nN J.any y.out;injection U with D _ F;subst D;obtain⟨b,off,rfl,_,c0⟩:=hx j O;have hc:=S _ (List.getElem_mem O)
   have HT:=aa (show bA ((X.take (j+1)).map aV)=bA ((X.take j).map aV)++(aV X[j]++[10]) by
    rw[List.take_succ_eq_append_getElem O,List.map_append];simp[bA])
   generalize X[j]=c at *;have H1:=aa (vw (Qq.out wr H) c hc);have Y:=(bU c).2;have ag:(tx (aV c)).size<=6:=by rw[aX];exact Y
   have ah:(⟨#[10]⟩:ByteArray).size=1:=rfl;have T:=aa (show tx (aV c)++(⟨#[10]⟩:ByteArray)=tx (aV c++[10]) from dA _ [10]);generalize tx (aV c)=t1 at *;clear hx F hc;go_wp2_with fail;refine H1.out.mono ?_;rintro e w7⟨rfl,s⟩;have I:=x.below s;have S7:=aa (J.mono s);have B7:=af H s;have z7:=Nat.le_trans hz s.size;have V:=aa (jb I (aV c++[10]) (by rw[List.length_append,List.length_singleton];omega) z7);rw[<-T.out] at V;clear x J c0 H1 s;go_wp2_with fail;refine V.out.mono ?_;rintro e w9⟨rfl,kT,A,TF⟩;obtain⟨bv,o⟩:=I.block;have S9:=aa (IK S7.out TF o (by decide) (by decide));have G:=aa (show pW (w.heap.size+1) (w.heap.size+1) (bA ((X.take (j+1)).map aV)) w9 from by rw[HT.out];exact kT);have M:=aa (show(bA ((X.take (j+1)).map aV)).length<=7*(j+1) from by rw[HT.out,List.length_append,List.length_append,List.length_singleton];omega);have L:=B7.trans (A.mono (Nat.le_succ _));have C:=Nat.le_trans z7 A.size;clear kT TF o I S7 V l;go_wp2;go_roundw
   case rel=>exact⟨j+1,by omega,by simp,G.out,S9.out,L,C,M.out⟩
   case measure=>simp[intOf];omega
  have zj:=gI (show N<=j by omega);obtain rfl:j=N:=by omega
  have ht:X.take j=X:=List.take_of_length_le (by have:=y.out;omega);rw[ht] at x;have m:bA (X.map aV)≠[]:=by
   have:=y.out;cases X with
   | nil=>simp at this;omega
   | cons c X=>simp[bA]
  have ST:=aa (Da x m);clear x m ht;go_wp2_with fail;refine ST.out.mono ?_;rintro e w9⟨rfl,A⟩;go_wp2;go_ret;exact⟨rfl,H.trans (A.mono (Nat.le_succ _))⟩
def TI {w:World} (i:dL w) :
 Calls Tryz.prog 73 #[] w λe w'=>e=.returned (.string (tx (eP Gf)))/\Below w.heap.size w w':=by
 obtain⟨l,a⟩:=ae (w.alloc (.cells #[.int .i32 2392,.int .i32 2393,.int .i32 10972,.int .i32 64285,.int .i32 64287,.int .i32 119134] 21));have d:=aO a;have j:Sl aN l (.slice (some ⟨w.heap.size,0,none⟩) 6 6) (aM Gf):=by rw[a];exact Xb w #[.int .i32 2392,.int .i32 2393,.int .i32 10972,.int .i32 64285,.int .i32 64287,.int .i32 119134] aN
 have g:=aa (uD Gf j ⟨_,6,6,rfl,.inr ⟨_,_,rfl⟩⟩ (by decide) (by decide));rw[TG] at g;have k:eP Gf=bA (Gf.map aV):=by
  have:dW [] Gf=Gf:=by decide
  unfold eP;rw[this]
 rw[k];have o:=aa (λ(W:World) (E:Below w.heap.size w W)=>i.mono E);clear i j k;go_enter Tryz.func73,Tryz.ntmps73;go_wp2_with fail;rw[<-a];clear a;refine g.out.mono ?_;rintro e m⟨r,rfl,h,c⟩;have b:=af d c;have n:=aa (Mw (o.out m b) Xi (Sl.aU h).any (by decide) (by decide) Gf TH (by decide) (by decide));obtain⟨s,q,rfl,_,_⟩:=ak h;clear g h;go_wp2_with fail;refine n.out.mono ?_;rintro e p⟨rfl,f⟩;go_wp2;go_ret;exact⟨rfl,af b f⟩
end Go.Proofs.YtmnimbnojdndmaaGreatDoor
end
