/- Texts that are alike cost, and count, the same; no condition. -/
import Derived.Test.YtmnimbnojdndmaaGreatDoorU16
set_option maxRecDepth 100000
set_option maxHeartbeats 6400000
set_option linter.all false
namespace Go.Proofs.YtmnimbnojdndmaaGreatDoor
open Go.RowKit Go.Cd _root_.Go.Proofs.Tryz
variable {w w':World} {v:Value} {s:eZ} {k p B dp i:Nat} {K:Nat->Nat} {l X:List Nat} {t:TypeId} {T:List aG} {Ls:List (List Nat)}
def AA (w:World) (v:Value) (s:eZ):Prop:=Qu w v s.1 (nz s.2)
def AA.mono (h:AA w v s) (a:Below w.heap.size w w'):AA w' v s:=Qu.mono h a
def Ik (w:World) (v:Value) (R:List bS) (k:Nat):Prop:=
 ∃la lc d g e a b c z f,v=.agg #[.int .i32 (aL R k).1,.slice la (aL R k).2.length lc,.slice d g e,.slice a b c,.int .i64 z,.int .i64 f]/\Oz w (.slice la (aL R k).2.length lc) (aL R k).2/\
  (dO R<=16384->gB w (.agg #[.slice d g e,.slice a b c,.int .i64 z]) (kM (aL R k))/\f=(dO (R.take k):Nat))
def Ik.run {R:List bS} (h:Ik w v R k):af9 w v (aL R k):=by
 obtain⟨la,lc,e,i,g,a,b,d,z,f,j,c,_⟩:=h;exact⟨_,e,i,g,a,b,d,z,f,j,c⟩
def Ik.mono {R:List bS} (h:Ik w v R k) (a:Below w.heap.size w w'):Ik w' v R k:=by
 obtain⟨la,lc,i,l,j,c,d,g,z,f,m,e,b⟩:=h;exact⟨la,lc,i,l,j,c,d,g,z,f,m,e.mono a,λk=>⟨(b k).1.mono a,(b k).2⟩⟩
def Wm.at_ {S:Nat} {a:List bS} {g J:Nat} {R:Value} {l:Bool} {d:List qx} (h:Wm w p S a g J R l d) (H:k<a.length) :
 ∃la lc r y s o v q z f,(∀j<6,w.cell? ⟨g,k*6+j,none⟩=[Value.int .i32 (aL a k).1,.slice la (aL a k).2.length lc,.slice r y s,.slice o v q,.int .i64 z,.int .i64 f][j]?)/\
  Oz w (.slice la (aL a k).2.length lc) (aL a k).2/\Ik w (.agg #[.int .i32 (aL a k).1,.slice la (aL a k).2.length lc,.slice r y s,.slice o v q,.int .i64 z,.int .i64 f]) a k:=by
 have m:k<d.length:=by rw[<-ia (f:=λe=>cB.sp e.1),h.sp];exact H
 have c:cB.sp d[k].1=aL a k:=by rw[df H];simp[<-h.sp]
 have b:=λt:dO a<=16384=>h.ZQ (by rw[h.le];exact decide_eq_true t) k m;obtain⟨⟨r,y,s,B⟩,o,v,q,D⟩:=h.shp _ (gx m);rw[c] at b;unfold Wh at b;rw[B,D] at b;obtain⟨la,lc,F⟩:=h.sl _ (gx m);have P:d[k].1.2.2.length=(aL a k).2.length:=by rw[<-c];simp[cB.sp]
 have K:d[k].1.1=(aL a k).1:=by rw[<-c];rfl
 have I:Oz w (.slice la (aL a k).2.length lc) (aL a k).2:=by
  refine⟨la,lc,rfl,λi T=>?_⟩;have n:i<d[k].1.2.2.length:=by omega
  obtain⟨A,_,G,N,E⟩:=h.lane _ (gx m) i n;have u:=h.marks _ (gx m) _ (gx n);have x:(aL a k).2[i]=((d[k].1.2.2[i]).1,(d[k].1.2.2[i]).2.2):=by
   have:(aL a k).2=d[k].1.2.2.map d_.sp:=by rw[<-c];rfl
   simp only[this,nf];rfl
  obtain⟨L,Q,C,_,_⟩:=bG.out u;rw[bF] at C;rw[C] at u E;rw[F] at G;have M:la=some ⟨A,0,none⟩:=by injection G
  refine⟨A,L,Q,M,?_,?_,?_⟩
  ·rw[x];exact N
  ·rw[x];exact E
  rw[x];exact u
 refine⟨la,lc,r,_,s,o,_,q,_,_,λj O=>?_,I,la,lc,r,_,s,o,_,q,_,_,rfl,I,b⟩;rw[h.run k m j O];unfold nC;rw[B,D,F,P,K]
def rD (h:dP w B p dp K l) (hl:l.length<9000) (hs:AA w v s) (E:eQ (bq K l) s) :
 Calls prog 69 #[.pointer (some ⟨p,0,none⟩),v] w λe w'=>∃rv,e=.returned (.tuple #[rv,.bool true])/\Ik w' rv (bq K l) s.1/\Below w.heap.size w w':=by
 have hF:=fD K l;obtain⟨R,S⟩:=ae (bq K l);obtain⟨g,rc,iT,ac,Es,hR⟩:=h.read;rw[<-S] at hF hR E⊢;obtain⟨sv,rfl,U⟩:=hs;obtain⟨la,lc,M,O,N,I,L,J,z,f,n,hL,hW⟩:=hR.at_ E.lt;obtain⟨al,SX,e9,Q⟩:=id hL;injection e9 with e8 _ e7;subst e8 e7;obtain⟨sa,sc,rfl,_,hx⟩:=bG.out U.any;have j:=hF.2.2 _ (show aL R s.1∈R by rw[df E.lt];exact gx _);have c:(bO (nz s.2)).length=(aL R s.1).2.length:=by rw[<-E.len];simp[bO]
 rw[c];obtain⟨m,hm⟩:=ae ((aL R s.1).2.length);obtain⟨nr,x⟩:=ae R.length;obtain⟨hd,P⟩:=ae ((aL R s.1).1);rw[<-hm] at n hW c⊢;rw[<-P] at n hW;have G:=hR.is;rw[<-x] at G;obtain⟨k,hk⟩:=ae s.1;rw[<-hk] at n;have:k<nr:=by rw[hk,x];exact E.lt
 have:nr<10000:=by rw[x];have:=hF.2.1;omega
 have:m<10000:=by rw[hm];have:=j.1;omega
 rw[show((s.1:Nat):Int)=(k:Int) by rw[hk]];have HL:=aa Q;have HX:=aa hx;have HO:=aa E;have HM:=aa hm;have W:=aa c;have:=aa j;have d0:w.cell? ⟨g,k*6,none⟩=some (.int .i32 hd):=n 0 (by decide);have X:w.cell? ⟨g,k*6+1,none⟩=some (.slice la m lc):=n 1 (by decide);have Y:w.cell? ⟨g,k*6+2,none⟩=some (.slice M O N):=n 2 (by decide);have d3:w.cell? ⟨g,k*6+3,none⟩=some (.slice I L J):=n 3 (by decide);have Z:w.cell? ⟨g,k*6+4,none⟩=some (.int .i64 z):=n 4 (by decide);have d5:w.cell? ⟨g,k*6+5,none⟩=some (.int .i64 f):=n 5 (by decide);have HW:=aa hW;clear h hR U hx n hL Q hW E hF j hm c hk P x S;obtain⟨A,d⟩:=ae ((w.alloc (.cells #[.int .i64 k,.slice sa m sc] 54)).alloc (.cells #[.int .i32 0,.slice none 0 0,.slice none 0 0,.slice none 0 0,.int .i64 0,.int .i64 0] eX));have hb:Below w.heap.size w A:=by rw[d];exact dH _ _
 have r:Is A w.heap.size #[.int .i64 k,.slice sa m sc] 54:=by rw[d];exact(Is.new _ _ _).mono (ah _)
 have H:Is A (w.heap.size+1) #[.int .i32 0,.slice none 0 0,.slice none 0 0,.slice none 0 0,.int .i64 0,.int .i64 0] eX:=by rw[d];exact Is.new' _ _ _ _ (by simp)
 have e0:=r.at 0 rfl;have e1:=r.at 1 rfl;have p1:=(G.mono hb).at 1 rfl;have:decide ((k:Int)<0)=false:=decide_eq_false (by omega);have:decide ((nr:Int)<=(k:Int))=false:=decide_eq_false (by omega);go_enter func69,ntmps69;go_wp2_with fail;rw[<-d];clear d;go_quiet (fail);go_wp2_with fail;have q:Below A.heap.size A (A.drewN nq):=⟨rfl,rfl,rfl,gw _,λ_ _=>rfl⟩;generalize A.drewN nq=w3 at *;have o:=af hb q;have r:=r.mono q;have H:=H.mono q;have e0:=r.gd 0 rfl;have p1:=Gr.cell (ag w3) ((G.mono o).at 1 rfl);have d0:=Gr.cell (ag w3) (aB o d0);have X:=Gr.cell (ag w3) (aB o X);have Y:=Gr.cell (ag w3) (aB o Y);have d3:=Gr.cell (ag w3) (aB o d3);have Z:=Gr.cell (ag w3) (aB o Z);have d5:=Gr.cell (ag w3) (aB o d5);refine aC #[true,true,true,true,true,true,true,true,true,false] 9 1 mixed ?_;refine ay [0,1,2,3,4,5,6,7] 1 ?_
 iterate 8 (refine aA rfl ?_;go_big_quiet_step (rfl))
 refine az ?_;refine aI 8 ?_;go_wp2_with fail;refine aF (ah _) ?_;refine aJ [9] ?_;refine tail_cons rfl ?_;go_wp2_with fail;refine tail_nil ?_;obtain⟨w4,t⟩:=ae ((w3.alloc (.cells #[.int .i32 hd,.slice la m lc,.slice M O N,.slice I L J,.int .i64 z,.int .i64 f] eX)).drew);have T:Below w3.heap.size w3 w4:=by rw[t];exact(ah _).trans ((ag _).mono (by simp))
 have k3:Is w4 w3.heap.size #[.int .i32 hd,.slice la m lc,.slice M O N,.slice I L J,.int .i64 z,.int .i64 f] eX:=by rw[t];exact(Is.new w3 _ _).mono (ag _)
 have lN:=af o T;have r:=r.mono T;have H:=H.mono T;have:=T.size;have:=o.size;rw[<-t];have:((m:Int)==(m:Int))=true:=by simp
 have e1:=r.at 1 rfl;have c1:=k3.at 1 rfl;clear t T d0 X Y d3 Z d5 e0 p1 q;go_wp2_with fail;go_loopw [7,8,42] (λ_ _ iv wr=>∃i:Nat,i<=m/\iv=.int .i64 i/\Below w4.heap.size w4 wr) (λ_ _ iv _=>m-(intOf iv).toNat)
 case atStart=>exact⟨0,gW _,rfl,gO _ _⟩
 case round=>
  obtain⟨i,hi,rfl,V⟩:=hrel;have jP:=af lN V;by_cases aq:i<m
  ·have zi:=eG (show i<m by omega);have M8:i<(aL R s.1).2.length:=by have:=HM.out;omega
   have ab:i<s.2.length:=by rw[HO.out.len];exact M8
   have Zc:i<(bO (nz s.2)).length:=by have:=W.out;omega
   obtain⟨b,off,rfl,_,c0⟩:=HX.out i Zc;obtain⟨lg,va,vc,rfl,_,l1,_⟩:=HL.out i M8;rw[show(bO (nz s.2))[i]=.int .i64 ((s.2[i]:Nat):Int) by simp[bO,nz]] at c0;obtain⟨mi,vL⟩:=ae (s.2[i]);obtain⟨xl,F⟩:=ae ((aL R s.1).2[i].2.length);have:mi<=xl:=by rw[vL,F];exact HO.out.le i ab M8
   rw[<-vL] at c0;rw[<-F] at l1;have c0:=aB jP c0;have l1:=aB jP l1;have c1:=aB V c1;clear vL F;have:decide ((mi:Int)<0)=false:=decide_eq_false (by omega);have:=gI (show mi<=xl by omega);go_wp2_with fail;go_roundw
   case rel=>exact⟨i+1,by omega,by simp,V⟩
   case measure=>simp[intOf];omega
  have zi:=gI (show m<=i by omega);obtain rfl:i=m:=by omega
  have a:=H.mono V;have D:=k3.mono V;have d0:=D.at 0 rfl;have X:=D.at 1 rfl;have Y:=D.at 2 rfl;have d3:=D.at 3 rfl;have Z:=D.at 4 rfl;have d5:=D.at 5 rfl;have:=a.at 0 rfl;have:=a.at 1 rfl;have:=a.at 2 rfl;have:=a.at 3 rfl;have:=a.at 4 rfl;have:=a.at 5 rfl;have:=a.frozen 0;have:=a.frozen 1;have:=a.frozen 2;have:=a.frozen 3;have:=a.frozen 4;have:=a.frozen 5;have C:=(((((a.set 0 (.int .i32 hd)).set 1 (.slice la i lc)).set 2 (.slice M O N)).set 3 (.slice I L J)).set 4 (.int .i64 z)).set 5 (.int .i64 f);have g0:=C.at 0 rfl;have g1:=C.at 1 rfl;have g2:=C.at 2 rfl;have g3:=C.at 3 rfl;have g4:=C.at 4 rfl;have g5:=C.at 5 rfl;have y:=aa (aj (off:=5) (u:=.int .i64 f) (aj (off:=4) (u:=.int .i64 z) (aj (off:=3) (u:=.slice I L J) (aj (off:=2) (u:=.slice M O N) (aj (off:=1) (u:=.slice la i lc) (aj (off:=0) (u:=.int .i32 hd) (b:=w.heap.size+1) jP (by omega)) (b:=w.heap.size+1) (by omega)) (b:=w.heap.size+1) (by omega)) (b:=w.heap.size+1) (by omega)) (b:=w.heap.size+1) (by omega)) (b:=w.heap.size+1) (by omega));clear a D C r H k3 c1 e1;go_wp2_with fail;exact bodyPost_ret (v:=.tuple #[.agg #[.int .i32 hd,.slice la i lc,.slice M O N,.slice I L J,.int .i64 z,.int .i64 f],.bool true]) (by simp[results,results69,go_sem,g0,g1,g2,g3,g4,g5]) rfl ⟨_,rfl,HW.out.mono y.out,y.out⟩
def Tc (h:dP w B p dp K l) (hl:l.length<9000) (C:AA w v s) (u:eQ (bq K l) s) :
 Calls prog 32 #[.pointer (some ⟨p,0,none⟩),v] w λe w'=>e=.returned (.bool (Co (bq K l) s))/\Below w.heap.size w w':=by
 obtain⟨k,ms⟩:=s;have N:=fD K l;obtain⟨g,rc,iT,S,Es,Q⟩:=h.read;obtain⟨sv,rfl,d⟩:=id C;obtain⟨X,sc,rfl,_,_⟩:=bG.out d.any;obtain⟨m,hm⟩:=ae ((bO (nz ms)).length);dsimp only at C d⊢;rw[<-hm] at C d⊢;have r:=ah (w:=w) (.cells #[.int .i64 (k:Nat),.slice X m sc] 54);have O:=aa (rD (h.mono r) hl (C.mono r) u);have b:=N.2.2 _ (show aL (bq K l) k∈bq K l by rw[df u.lt];exact gx _);have I:=aa (λ(W:World) (E:Below w.heap.size w W) (V:Value) (hr:Ik W V (bq K l) k)=>Cm hr.run (C.mono E) (by rw[jF];exact u.len) (by have:=b.1;omega) (λx hx=>by have:=b.2 x hx;omega));have L:Co (bq K l) (k,ms)=(decide (k+1=(bq K l).length)&&gV (nz ms) (aL (bq K l) k).2):=rfl;rw[L];dsimp only at O I;obtain⟨R,H⟩:=ae (bq K l);rw[<-H] at N Q O I u⊢;obtain⟨wb,J⟩:=ae (gV (nz ms) (aL R k).2);rw[<-J] at I⊢;obtain⟨q,c⟩:=ae R.length;have t:=Q.is;rw[<-c] at t⊢;have:k<q:=by rw[c];exact u.lt
 have:q<10000:=by rw[c];have:=N.2.1;omega
 clear h Q d C hm N b J c H u L;go_enter func32,ntmps32;go_wp2_with fail;refine O.out.mono ?_;rintro e w1⟨V,rfl,y,D⟩;obtain⟨la,lc,x1,m1,y1,x2,m2,y2,z,f,rfl,hL,P⟩:=id y;clear P;obtain⟨n,Z⟩:=ae ((aL R k).2.length);obtain⟨hd,F⟩:=ae ((aL R k).1);rw[<-Z,<-F] at y⊢;have T:=af r D;have G:=(Is.new w #[.int .i64 (k:Nat),.slice X m sc] 54).mono D;obtain⟨A,i⟩:=ae (w1.alloc (.cells #[.int .i32 hd,.slice la n lc,.slice x1 m1 y1,.slice x2 m2 y2,.int .i64 z,.int .i64 f] eX));have j:=aO i;have o:=Is.nw i;have a:=af T j;have G:=G.mono j;clear hL Z F O;go_wp2_with fail;rw[<-i];have y:=(y.mono j).mono (ag A);have WC:=aa (I.out A.drew (a.trans ((ag A).mono a.size)) _ y);have:=Gr.cell (ag A) ((t.mono a).at 1 rfl);have:=G.gd 0 rfl;have:=G.gd 1 rfl;have:=o.gd 0 rfl;have:=o.gd 1 rfl;have:=o.gd 2 rfl;have:=o.gd 3 rfl;have:=o.gd 4 rfl;have:=o.gd 5 rfl;clear i I y t G o;by_cases Y:k+1=q
 ·have zq:((k:Int)==(q:Int)-1)=true:=by simp;omega
  have U:decide (k+1=q)=true:=decide_eq_true Y;refine aC (Array.replicate 18 true) 18 0 mixed ?_;refine ay [0,1,2,3,4,5,6,7,8,9,10,11,12,13,14] 3 ?_
  iterate 15 (refine aA rfl ?_;go_big_quiet_step (rfl))
  refine az ?_;refine aI 15 ?_;go_wp2_with fail;refine WC.out.mono ?_;rintro e w3⟨rfl,M⟩;go_wp2_with fail;refine aF M ?_;refine ay [16,17] 0 ?_
  iterate 2 (refine aA rfl ?_;go_big_quiet_step (rfl))
  refine az ?_;refine aJ [] ?_;refine tail_nil ?_;go_wp2;go_ret;exact⟨by rw[U];rfl,a.trans (((ag A).trans M).mono a.size)⟩
 have zq:((k:Int)==(q:Int)-1)=false:=beq_eq_false_iff_ne.2 (by omega);have U:decide (k+1=q)=false:=decide_eq_false Y;refine aC (Array.replicate 18 true) 18 0 mixed ?_;refine ay [0,1,2,3,4,5,6,7,8,9,10,11,12,13,14] 3 ?_
 iterate 15 (refine aA rfl ?_;go_big_quiet_step (rfl))
 refine az ?_;refine aI 15 ?_;go_wp2_with fail;refine aF (gO _ _) ?_;refine ay [16,17] 0 ?_
 iterate 2 (refine aA rfl ?_;go_big_quiet_step (rfl))
 refine az ?_;refine aJ [] ?_;refine tail_nil ?_;go_wp2;go_ret;exact⟨by rw[U];rfl,a.trans ((ag A).mono a.size)⟩
def Sl.OC {e:TypeId} {s:Value} {j:List Value} (h:Sl e w s j) (n:bJ w w' t) (g:e≠t):Sl e w' s j:=by
 obtain⟨a,cap,o,c,i⟩:=h;refine⟨a,cap,o,c,i.imp id ?_⟩;rintro⟨b,off,cs,k,m,f,i⟩;exact⟨b,off,cs,k,m,(n.keep b (block_lt f) (λ⟨l,d⟩=>g (by rw[f] at d;injection d with d;injection d))).trans f,i⟩
def Qu.OC {h:Int} {ms:List Int} (k:Qu w v h ms) (b:bJ w w' t) (a:bB≠t):Qu w' v h ms:=by
 obtain⟨c,e,d⟩:=k;exact⟨c,e,Go.Proofs.YtmnimbnojdndmaaGreatDoor.Sl.OC d b a⟩
def FY (e:Ending) (w:World):Option eZ->Prop
 | some s=>∃v,e=.returned (.tuple #[v,.bool true])/\AA w v s
 | none=>e=.returned (.tuple #[.agg #[.int .i64 0,.slice none 0 0],.bool false])
def OD (hD:cK w dp T X) (hV:aY T X) (h:dP w B p dp (ai T) l) (hl:l.length<9000) (hs:AA w v s) (ho:eQ (bq (ai T) l) s) (c:Nat) (hc:c<1114112) (h0:ai T c=0) :
 Calls prog 68 #[.pointer (some ⟨p,0,none⟩),v,.int .i32 c] w λe w'=>FY e w' (iy (ai T) (bq (ai T) l) s c)/\Below w.heap.size w w':=by
 obtain⟨k,ms⟩:=s;have hF:=fD (ai T) l;obtain⟨g,rc,iT,ax,Es,hR⟩:=h.read;obtain⟨sv,rfl,K⟩:=id hs;obtain⟨sa,sc,rfl,_,_⟩:=bG.out K.any;obtain⟨m,hm⟩:=ae ((bO (nz ms)).length);dsimp only at hs K⊢;rw[<-hm] at hs K⊢;have Y:=dH (w:=w) (.cells #[.int .i64 (k:Nat),.slice sa m sc] 54) (.cells #[.int .i64 0,.slice none 0 0] 54);have RU:=aa (rD (h.mono Y) hl (hs.mono Y) ho);have A:=hF.2.2 _ (show aL (bq (ai T) l) k∈bq (ai T) l by rw[df ho.lt];exact gx _);have WH:=aa (λ(W:World) (E:Below w.heap.size w W) (rv:Value) (hr:Ik W rv (bq (ai T) l) k)=>Cm hr.run (hs.mono E) (by rw[jF];exact ho.len) (by have:=A.1;omega) (λx hx=>by have:=A.2 x hx;omega));have CL:=aa (λ(W:World) (E:Below w.heap.size w W)=>iM (hD.mono E) hV c hc);rw[h0] at CL;have AT:∀(W:World),Below w.heap.size w W->k+1<(bq (ai T) l).length->Calls prog 61 #[.pointer (some ⟨p,0,none⟩),.int .i64 ((k:Int)+1)] W λe w'=>∃v,e=.returned v/\Qu w' v ((k+1:Nat):Int) (List.replicate (aL (bq (ai T) l) (k+1)).2.length 0)/\Below W.heap.size W w':=λW E hk=>by
  rw[df hk,show(k:Int)+1=((k+1:Nat):Int) by omega];exact Z6 (h.mono E) hl hk
 have AT:=aa AT;have a:iy (ai T) (bq (ai T) l) (k,ms) c=if gV (nz ms) (aL (bq (ai T) l) k).2=true/\k+1<(bq (ai T) l).length/\(aL (bq (ai T) l) (k+1)).1=c then some (k+1,List.replicate (aL (bq (ai T) l) (k+1)).2.length 0) else none:=by unfold iy;rw[if_pos h0]
 rw[a];dsimp only at RU WH;obtain⟨R,O⟩:=ae (bq (ai T) l);have V:k+1<R.length->∃la lc x1 m1 y1 x2 m2 y2 z f,∀j<6,w.cell? ⟨g,(k+1)*6+j,none⟩=[Value.int .i32 (aL R (k+1)).1,.slice la (aL R (k+1)).2.length lc,.slice x1 m1 y1,.slice x2 m2 y2,.int .i64 z,.int .i64 f][j]?:=λhk=>by
  rw[O] at hk⊢;obtain⟨la,lc,x1,m1,y1,x2,m2,y2,z,f,hc,_⟩:=hR.at_ hk;exact⟨la,lc,x1,m1,y1,x2,m2,y2,z,f,hc⟩
 simp only[<-O] at hF hR RU WH ho AT⊢;obtain⟨wb,ad⟩:=ae (gV (nz ms) (aL R k).2);rw[<-ad] at WH⊢;obtain⟨nr,I⟩:=ae R.length;have L:=hR.is;have aQ:k<nr:=by rw[I];exact ho.lt
 have Z9:nr<10000:=by rw[I];have:=hF.2.1;omega
 simp only[<-I] at L V AT⊢;have av:=aa V;obtain⟨q,C⟩:∃q:Option eZ,q=if wb=true/\k+1<nr/\(aL R (k+1)).1=c then some (k+1,List.replicate (aL R (k+1)).2.length 0) else none:=⟨_,rfl⟩;rw[<-C];have rE:=aa C;clear C;clear h hR K hs hm hF A ad I O ho a hD V;go_enter func68,ntmps68;go_wp2_with fail;refine RU.out.mono ?_;rintro e w1⟨rv,rfl,M,Z⟩;obtain⟨la,lc,x1,m1,y1,x2,m2,y2,z,f,rfl,hL,aE⟩:=id M;clear aE;obtain⟨n,hn⟩:=ae ((aL R k).2.length);obtain⟨hd,ab⟩:=ae ((aL R k).1);rw[<-hn,<-ab] at M⊢;have au:=af Y Z;have N:Is w1 w.heap.size #[.int .i64 (k:Nat),.slice sa m sc] 54:=((Is.new w _ _).mono (ah _)).mono Z;have d:Is w1 (w.heap.size+1) #[.int .i64 0,.slice none 0 0] 54:=(Is.new' _ _ _ _ (by simp)).mono Z;obtain⟨w2,y⟩:=ae (w1.alloc (.cells #[.int .i32 hd,.slice la n lc,.slice x1 m1 y1,.slice x2 m2 y2,.int .i64 z,.int .i64 f] eX));have G:=aO y;have D:=Is.nw y;have H:=af au G;have N:=N.mono G;have d:=d.mono G;have M:=M.mono G;have ap:=aa (CL.out w2 H);have p0:=(L.mono H).at 0 rfl;rw[y] at p0;clear hL hn ab RU CL;go_wp2_with fail;rw[<-y];clear y p0;refine ap.out.mono ?_;rintro e S⟨rfl,t⟩;have aB:=H.size;have F:=H.trans (t.mono aB);have N:=N.mono t;have d:=d.mono t;have D:=D.mono t;have al:=F.size;have M:=(M.mono t).mono (ag S);have ac:=F.trans ((ag S).mono al);have WC:=aa (WH.out S.drew ac _ M);have pm:=Gr.cell (ag S) ((L.mono F).at 1 rfl);have e0:=N.gd 0 rfl;have e1:=N.gd 1 rfl;have d0:=D.gd 0 rfl;have d1:=D.gd 1 rfl;have d2:=D.gd 2 rfl;have d3:=D.gd 3 rfl;have d4:=D.gd 4 rfl;have d5:=D.gd 5 rfl;clear WH ap;go_wp2_with fail;refine aC (Array.replicate 29 true) 29 0 mixed ?_;refine ay [0,1] 27 ?_
 iterate 2 (refine aA rfl ?_;go_big_quiet_step (rfl))
 refine az ?_;refine aI 2 ?_;go_wp2_with fail;refine WC.out.mono ?_;rintro e w4⟨rfl,aq⟩;go_wp2_with fail;refine aF aq ?_;have Yt:Below S.heap.size S w4:=(ag S).trans aq;have r:=F.trans (Yt.mono al);have aw:=r.size;have d:=d.mono Yt;have pm:=Gr.cell (gO _ w4) ((L.mono r).at 1 rfl);have e0:=Gr.cell Yt (N.at 0 rfl);have f0:=d.at 0 rfl;have f1:=d.at 1 rfl;have q0:=d.frozen 0;have q1:=d.frozen 1;have P:=(d.set 0 (.int .i64 0)).set 1 (.slice none 0 0);have g0:=P.at 0 rfl;have g1:=P.at 1 rfl;have i:=aa (aj (off:=1) (u:=.slice none 0 0) (b:=w.heap.size+1) (aj (off:=0) (u:=.int .i64 0) (b:=w.heap.size+1) r (by omega)) (by omega));clear P d0 d1 d2 d3 d4 d5 e1 D WC ac M;by_cases hw:wb=true
 ·subst hw;by_cases hq:k+1<nr
  ·obtain⟨aU,aN,aX,aR,aM,aP,aS,aW,z2,f2,U⟩:=av.out hq;obtain⟨Q,OE⟩:=ae ((aL R (k+1)).1);rw[<-OE] at U;have d0:=U 0 (by decide);simp only[sE,xd] at d0;have d0:=Gr.cell r d0;have am:=aa OE;clear U OE;have zq:((k:Int)+1==(nr:Int))=false:=beq_eq_false_iff_ne.2 (by omega);by_cases hh:Q=c
   ·have zh:((Q:Int)==(c:Int))=true:=by simp;omega
    have a:q=some (k+1,List.replicate (aL R (k+1)).2.length 0):=by rw[rE.out];exact if_pos ⟨rfl,hq,by rw[<-am.out];exact hh⟩
    have Qw:=aa a;clear a g0 g1 i;have ao:=aa (AT.out w4 r hq);have aT:=N.mono Yt |>.at 0 rfl;obtain⟨j,hj⟩:∃j:Nat,j=k+1:=⟨_,rfl⟩;rw[<-hj] at ao Qw;clear hh hj;refine ay [3,4,5,6,7,8,9,10,11,12,13,14,15,16,17,18,19,20,21,22,23,24,25,26,27,28] 0 ?_;refine bC ?_
    iterate 26 (refine aZ rfl ?_)
    refine bD ?_
    iterate 26 (go_big_quiet_step (rfl))
    refine az ?_;refine aJ [] ?_;refine tail_nil ?_;clear f0 f1 q0 q1;go_wp2_with fail;refine ao.out.mono ?_;rintro e w5⟨v5,rfl,J,ak⟩;obtain⟨aV,rfl,ar⟩:=id J;obtain⟨a5,c5,rfl,_,_⟩:=bG.out ar.any;obtain⟨n5,an⟩:=ae ((bO (List.replicate (aL R j).2.length 0)).length);rw[<-an] at J⊢;have d:=d.mono ak;have f0:=d.at 0 rfl;have f1:=d.at 1 rfl;have q0:=d.frozen 0;have q1:=d.frozen 1;have P:=(d.set 0 (.int .i64 (j:Int))).set 1 (.slice a5 n5 c5);have g0:=P.at 0 rfl;have g1:=P.at 1 rfl;have rX:=r.trans (ak.mono aw);have aK:=aj (off:=1) (u:=.slice a5 n5 c5) (b:=w.heap.size+1) (aj (off:=0) (u:=.int .i64 (j:Int)) (b:=w.heap.size+1) rX (by omega)) (by omega);have aH:=aa ((J.OC (bJ.put (o:=0) d (.int .i64 (j:Int))) (by decide)).OC (bJ.put (o:=1) (d.set 0 (.int .i64 (j:Int))) (.slice a5 n5 c5)) (by decide));clear P ar an J;go_wp2_with fail;refine bodyPost_ret (v:=.tuple #[.agg #[.int .i64 (j:Int),.slice a5 n5 c5],.bool true]) (by simp[results,results68,go_sem,g0,g1]) rfl ⟨?_,aK⟩;rw[Qw.out];refine⟨_,rfl,?_⟩;have:=aH.out;unfold AA;simpa [nz] using this
   have zh:((Q:Int)==(c:Int))=false:=beq_eq_false_iff_ne.2 (by omega);have a:q=none:=by rw[rE.out];exact if_neg λe=>hh (by rw[am.out];exact e.2.2)
   clear hh;refine ay [3,4,5,6,7,8,9,10,11,12,13,14,15,16,17,18,19,20,21,22,23,24,25,26,27,28] 0 ?_;refine bC ?_
   iterate 26 (refine aZ rfl ?_)
   refine bD ?_
   iterate 26 (go_big_quiet_step (rfl))
   refine az ?_;refine aJ [] ?_;refine tail_nil ?_;go_wp2_with fail;exact bodyPost_ret (v:=.tuple #[.agg #[.int .i64 0,.slice none 0 0],.bool false]) (by simp[results,results68,go_sem,g0,g1]) rfl ⟨by first|rfl|(rw[a];rfl),i.out⟩
  have a:q=none:=by rw[rE.out];exact if_neg λe=>hq e.2.1
  have zq:((k:Int)+1==(nr:Int))=true:=by simp;omega
  refine ay [3,4,5,6,7,8,9,10,11,12,13,14,15,16,17,18,19,20,21,22,23,24,25,26,27,28] 0 ?_;refine bC ?_
  iterate 26 (refine aZ rfl ?_)
  refine bD ?_
  iterate 26 (go_big_quiet_step (rfl))
  refine az ?_;refine aJ [] ?_;refine tail_nil ?_;go_wp2_with fail;exact bodyPost_ret (v:=.tuple #[.agg #[.int .i64 0,.slice none 0 0],.bool false]) (by simp[results,results68,go_sem,g0,g1]) rfl ⟨by first|rfl|(rw[a];rfl),i.out⟩
 have aD:wb=false:=by simpa using hw
 have a:q=none:=by rw[rE.out];exact if_neg λe=>hw e.1
 clear hw;subst aD;refine ay [3,4,5,6,7,8,9,10,11,12,13,14,15,16,17,18,19,20,21,22,23,24,25,26,27,28] 0 ?_;refine bC ?_
 iterate 26 (refine aZ rfl ?_)
 refine bD ?_
 iterate 26 (go_big_quiet_step (rfl))
 refine az ?_;refine aJ [] ?_;refine tail_nil ?_;go_wp2_with fail;exact bodyPost_ret (v:=.tuple #[.agg #[.int .i64 0,.slice none 0 0],.bool false]) (by simp[results,results68,go_sem,g0,g1]) rfl ⟨by first|rfl|(rw[a];rfl),i.out⟩
def OG (hD:cK w dp T X) (hV:aY T X) (h:dP w B p dp (ai T) l) (hl:l.length<9000) (hs:AA w v s) (ho:eQ (bq (ai T) l) s) (c:Nat) (hc:c<1114112) (h0:ai T c≠0) :
 Calls prog 68 #[.pointer (some ⟨p,0,none⟩),v,.int .i32 c] w λe w'=>FY e w' (iy (ai T) (bq (ai T) l) s c)/\Below w.heap.size w w':=by
 obtain⟨k,ms⟩:=s;have hF:=fD (ai T) l;obtain⟨g,rc,iT,bk,Es,hR⟩:=h.read;obtain⟨sv,rfl,U⟩:=id hs;obtain⟨sa,sc,rfl,_,hx⟩:=bG.out U.any;obtain⟨m,hm⟩:=ae ((bO (nz ms)).length);dsimp only at hs U⊢;have aS:m=ms.length:=by rw[hm];simp[bO]
 rw[<-hm] at hs U⊢;have aD:=dH (w:=w) (.cells #[.int .i64 (k:Nat),.slice sa m sc] 54) (.cells #[.int .i64 0,.slice none 0 0] 54);have RU:=aa (rD (h.mono aD) hl (hs.mono aD) ho);have x:=hF.2.2 _ (show aL (bq (ai T) l) k∈bq (ai T) l by rw[df ho.lt];exact gx _);have CL:=aa (λ(W:World) (E:Below w.heap.size w W)=>iM (hD.mono E) hV c hc);have CN:=aa (λ(W:World) (E:Below w.heap.size w W)=>FM (U.any.mono E) (by have h1:ms.length=(aL (bq (ai T) l) k).2.length:=ho.len;have h2:=x.1;rw[jF];omega));have F:iy (ai T) (bq (ai T) l) (k,ms) c=((List.range (aL (bq (ai T) l) k).2.length).find? (ed (ai T c) c ms (aL (bq (ai T) l) k).2)).map λi=>(k,ms.set i (ms.getD i 0+1)):=by unfold iy;rw[if_neg h0]
 rw[F];dsimp only at RU;have aI:∀c,ai T c<1000000:=λc=>by
  unfold ai;cases e:rowOf T c with
  | none=>decide
  | some r=>
    have:=(hV.fine r (gy e).1).2.1;show r.cls<1000000;omega
 have aI:=aI c;obtain⟨H,a5⟩:=ae (ai T c);obtain⟨R,aQ⟩:=ae (bq (ai T) l);simp only[<-aQ,<-a5] at hF hR RU ho CL h0 x aI⊢;obtain⟨L,O⟩:=ae ((aL R k).2);have kz:ms.length=L.length:=by rw[O];exact ho.len
 have aZ:∀i (a:i<ms.length) (b:i<L.length),ms[i]<=L[i].2.length:=by subst O;exact ho.le
 rw[<-O] at x⊢;have rE:∃ab:Option eZ,ab=((List.range L.length).find? (ed H c ms L)).map λi=>(k,ms.set i (ms.getD i 0+1)):=⟨_,rfl⟩;obtain⟨ab,Q⟩:=rE;rw[<-Q];have rE:=aa Q;have HX:=aa hx;have Q_:=aa aZ;have ER:=aa kz;have D9:=aa aS;have bc:=aa O;have bh:=aa x;have bp:=hR.is;have zc:((H:Int)==0)=false:=beq_eq_false_iff_ne.2 (by omega);have bu:m<10000:=by have:=x.1;omega
 clear h hR U hs hm hF x aQ ho F hD Q hx aZ kz aS O a5;go_enter func68,ntmps68;go_wp2_with fail;refine RU.out.mono ?_;rintro e w1⟨rv,rfl,hW,al⟩;obtain⟨la,lc,x1,m1,y1,x2,m2,y2,z,f,rfl,hL,bo⟩:=id hW;clear bo hW;rw[<-bc.out] at hL⊢;obtain⟨n,hn⟩:=ae L.length;obtain⟨hd,aM⟩:=ae ((aL R k).1);obtain⟨bs,SX,e9,aP⟩:=hL;injection e9 with e8 _ e7;subst e8 e7;rw[<-hn,<-aM];have HN:=aa hn;have be:=aa aP;have a_:=af aD al;have Z_:w.heap.size+2<=w1.heap.size:=by have:=al.size;simpa using this
 have k0:Is w1 w.heap.size #[.int .i64 (k:Nat),.slice sa m sc] 54:=((Is.new w _ _).mono (ah _)).mono al;have k1:Is w1 (w.heap.size+1) #[.int .i64 0,.slice none 0 0] 54:=(Is.new' _ _ _ _ (by simp)).mono al;obtain⟨w2,M⟩:=ae (w1.alloc (.cells #[.int .i32 hd,.slice la n lc,.slice x1 m1 y1,.slice x2 m2 y2,.int .i64 z,.int .i64 f] eX));have ad:=aO M;have k2:=Is.nw M;have ak:=af a_ ad;have k0:=k0.mono ad;have k1:=k1.mono ad;have a6:=aa (CL.out w2 ak);have p0:=(bp.mono ak).at 0 rfl;rw[M] at p0;clear hn aM RU CL aP;go_wp2_with fail;rw[<-M];clear M p0;refine a6.out.mono ?_;rintro e w3⟨rfl,K⟩;have bl:=ak.size;have ar:=ak.trans (K.mono bl);have k0:=k0.mono K;have k1:=k1.mono K;have k2:=k2.mono K;have aX:=ar.size;have bb:=af ad K;have d1:=k2.at 1 rfl;clear a6;go_wp2_with fail;go_loopw [11,12,13,70] (λ_ _ _ iv wr=>∃i:Nat,i<=n/\iv=.int .i64 i/\(∀j,j<i->ed H c ms L j=false)/\Below w3.heap.size w3 wr) (λ_ _ _ iv _=>n-(intOf iv).toNat)
 case atStart=>exact⟨0,gW _,rfl,λj hj=>absurd hj (by omega),gO _ _⟩
 case round=>
  obtain⟨i,hi,rfl,an,Z⟩:=hrel;have jP:=ar.trans (Z.mono aX);have am:=af bb Z;by_cases bx:i<n
  ·have zi:=eG (show i<n by omega);have Wq:i<L.length:=by have:=HN.out;omega
   have LA:i<ms.length:=by have:=ER.out;omega
   have br:i<m:=by have:=D9.out;omega
   have Zc:i<(bO (nz ms)).length:=by simp[bO];exact LA
   obtain⟨b,off,rfl,_,c0⟩:=HX.out i Zc;obtain⟨lg,va,vc,rfl,l0,l1,A⟩:=be.out i Wq;rw[show(bO (nz ms))[i]=.int .i64 ((ms[i]:Nat):Int) by simp[bO,nz]] at c0;obtain⟨D,vL⟩:=ae (ms[i]);obtain⟨t,J⟩:=ae (L[i].1);obtain⟨ln,ac⟩:=ae (L[i].2);have Ct:ed H c ms L i=(decide (t=H)&&decide (D<ln.length)&&decide (ln.getD D 0=c)):=by
    unfold ed;rw[vL,J,ac,ic (l:=L),gA Wq,ic (l:=ms),gA LA];rfl
   have a4:ln.length<10000:=by rw[ac];have:=(bh.out.2 _ (gx Wq));omega
   rw[<-vL] at c0;rw[<-J] at l0;rw[<-ac] at l1 A;obtain⟨xl,aE⟩:=ae ln.length;rw[<-aE] at l1 A Ct a4;have c0:=aB jP c0;have l1:=aB am l1;have l0:=aB am l0;have A:=A.mono am;have aR:=k0.mono Z;have e1:=aR.at 1 rfl;have Ur:=aa an;have ao:=aa Ct;have Zo:=aa vL;have VD:=aa aE;have C:=ah (w:=wr) (.cells #[.int .i64 (t:Nat),.slice va xl vc] 95);have i0:=Is.new wr #[.int .i64 (t:Nat),.slice va xl vc] 95;have n0:=i0.at 0 rfl;have n1:=i0.at 1 rfl;have Vh:=aB C e1;have bn:=aB C c0;have S:ed H c ms L i=false->∀j,j<i+1->ed H c ms L j=false:=λhf j hj=>by
    rcases Nat.lt_succ_iff_lt_or_eq.1 hj with h1|rfl
    ·exact Ur.out j h1
    exact hf
   have au:=aa S;clear an Ct vL aE J ac aR S;by_cases aW:t=H
   ·subst aW;have z1:((t:Int)==(t:Int))=true:=by simp
    by_cases aq:D<xl
    ·have z2:=eG (show D<xl by omega);obtain⟨q,hq⟩:=ae (ln.getD D 0);have Wt:D<ln.length:=by have:=VD.out;omega
     obtain⟨ya,yc,he,_,hy⟩:=Go.Proofs.YtmnimbnojdndmaaGreatDoor.bG.Hl A VD.out;injection he with he _ bi;subst he bi;obtain⟨yb,yo,rfl,_,y0⟩:=hy D Wt;rw[show ln[D]=q by rw[hq,ic,gA Wt];rfl] at y0;have bd:=aB C y0;have HQ:=aa hq;clear hy hq A;by_cases a8:q=c
     ·have z3:((q:Int)==(c:Int))=true:=by simp;omega
      have a2:Below wr.heap.size wr (wr.alloc (.cells #[.int .i64 (t:Nat),.slice (some ⟨yb,yo,none⟩) xl vc] 95)):=C;have P:ed t c ms L i=true:=by rw[ao.out,<-HQ.out,a8,decide_eq_true rfl,decide_eq_true aq,decide_eq_true rfl];rfl
      have F:ab=some (k,ms.set i (D+1)):=by
       rw[rE.out];rw[show(List.range L.length).find? (ed t c ms L)=some i from List.find?_range_eq_some.2 ⟨P,nj.2 Wq,λj hj=>by rw[Ur.out j hj];rfl⟩];rw[xp,ic,gA LA,Zo.out];rfl
      have Qw:=aa F;clear F P;go_wp2_with fail;generalize wr.alloc (.cells #[.int .i64 (t:Nat),.slice (some ⟨yb,yo,none⟩) xl vc] 95)=wl at *;have bw:D<10000:=by omega
      have ax:=af Z a2;have fT:=ar.trans (ax.mono aX);have A:=fT.size;have aK:=k0.mono ax;have a3:=k1.mono ax;have e0:=aK.gd 0 rfl;have bg:=aK.gd 1 rfl;clear e1 Vh c0 bn l0 l1 n0 n1 i0 y0 bd C z1 z2 z3 aq;refine aC #[true,true,true,true,true,true,true,false] 7 1 mixed ?_;refine ay [0,1,2,3] 3 ?_
      iterate 4 (refine aA rfl ?_;go_big_quiet_step (rfl))
      refine az ?_;refine Oe [6] (λ_ v W=>∃k,v=.pointer (some ⟨k,0,none⟩)/\W.heap[k]? = some (.cells #[.int .i64 0,.slice none 0 0] 54)) rq 2 rfl (by kernel_rfl) (λ_ _ _ _ hb h=>wV hb h) ?_ ?_
      ·intro i hi o ho;simp only[jf,km,or_false] at hi;subst hi;cases ho;exact wU rfl rfl (λW=>by go_simp)
      refine pI 4 ?_;intro wa RJ;have ap:=fT.trans (((ag wl).trans RJ).mono A);have bj:=ap.size;go_wp2_with fail;refine(CN.out wa ap).mono ?_;rintro e wc⟨r,rfl,oc,V⟩;rw[jF,<-D9.out] at oc;obtain⟨cb,cc,rfl,_,bt,_,_,_⟩:=dz oc (show 0<m by omega);have Ql:=ap.trans (V.mono bj);go_wp2_with fail;refine aF V ?_;refine oC [5] 0 ?_;refine aA rfl ?_;go_big_quiet_step (rfl);refine az ?_;refine aa3 [7] ?_;intro W Wb us hR hD;obtain⟨⟨Y,hv,hh⟩,hN,aw⟩:=hR 6 (by simp);rw[hv] at hN aw;simp only[rq] at hN aw;rw[ru (d:=some 14) rfl,hv];have hY:wl.heap.size<=Y:=hN;have a9:=af Ql Wb;have a7:Below wl.heap.size wl W:=((ag wl).trans RJ).trans ((V.trans (Wb.mono V.size)).mono (show wl.heap.size<=wa.heap.size from RJ.size));have oW:=aH oc Wb;have aT:=a3.mono a7;have G:Is W Y #[.int .i64 0,.slice none 0 0] 54:=⟨hh⟩;have a0:=G.at 0 rfl;have a1:=G.at 1 rfl;have b0:=G.frozen 0;have b1:=G.frozen 1;have ch:=(bJ.put (o:=0) G (.int .i64 (k:Nat))).trans (bJ.put (o:=1) (G.set 0 (.int .i64 (k:Nat))) (.slice (some ⟨cb,0,none⟩) m cc));have aV:=(G.set 0 (.int .i64 (k:Nat))).set 1 (.slice (some ⟨cb,0,none⟩) m cc);have oY:=ch.own oW (by decide);have bv:w.heap.size+2<=Y:=by have:=am.size;have:=a2.size;omega
      have N:=(aT.put (show w.heap.size+1≠Y by omega) (o:=0) (.int .i64 (k:Nat))).put (show w.heap.size+1≠Y by omega) (o:=1) (.slice (some ⟨cb,0,none⟩) m cc);have ba:=aj (off:=1) (u:=.slice (some ⟨cb,0,none⟩) m cc) (b:=Y) (aj (off:=0) (u:=.int .i64 (k:Nat)) (b:=Y) a9 (by omega)) (by omega);have OY:=aa oY;have bm:=aa aV;have bf:=aa N;clear G aV oY N ch oW aT hR hD e0 bg hv hh hN aw aK a3 oc RJ V a7 Wb;refine uO (os:=[_]) rfl ?_;go_wp2_with fail;refine uP ?_;clear a0 a1 b0 b1;generalize (W.setCell ⟨Y,0,none⟩ (.int .i64 (k:Nat))).setCell ⟨Y,1,none⟩ (.slice (some ⟨cb,0,none⟩) m cc)=w6 at *;have G:=bm.out;have oY:=OY.out;have N:=bf.out;have y1:=G.at 1 rfl;obtain⟨cm,fm⟩:=jY oY (j:=i) Zc;rw[show(bO (nz ms))[i]=.int .i64 ((ms[i]:Nat):Int) by simp[bO,nz],<-Zo.out] at cm;obtain⟨o7,aN⟩:=oY.stored i (.int .i64 ((D:Int)+1));have aJ:=bJ.bQ oY aN;have av:=aJ.is G (by decide);have y:=aJ.is N (by decide);have u0:=av.at 0 rfl;have u1:=av.at 1 rfl;have f0:=y.at 0 rfl;have f1:=y.at 1 rfl;have q0:=y.frozen 0;have q1:=y.frozen 1;have v0:=(y.set 0 (.int .i64 (k:Nat))).set 1 (.slice (some ⟨cb,0,none⟩) m cc);have g0:=v0.at 0 rfl;have g1:=v0.at 1 rfl;have o9:=aa (((bJ.put (o:=0) y (.int .i64 (k:Nat))).trans (bJ.put (o:=1) (y.set 0 (.int .i64 (k:Nat))) (.slice (some ⟨cb,0,none⟩) m cc))).own o7 (by decide));have I:=aa (aj (off:=1) (u:=.slice (some ⟨cb,0,none⟩) m cc) (b:=w.heap.size+1) (aj (off:=0) (u:=.int .i64 (k:Nat)) (b:=w.heap.size+1) (aj (off:=i) (u:=.int .i64 ((D:Int)+1)) (b:=cb) ba (by omega)) (by omega)) (by omega));clear G oY N o7 aN aJ av y v0;go_wp2_with fail;refine bodyPost_ret (v:=.tuple #[.agg #[.int .i64 (k:Nat),.slice (some ⟨cb,0,none⟩) m cc],.bool true]) (by simp[results,results68,go_sem,g0,g1]) rfl ⟨?_,I.out⟩;rw[Qw.out];refine⟨_,rfl,_,rfl,?_⟩;have h9:=Sl.aU o9.out;rw[show(bO (nz ms)).set i (.int .i64 ((D:Int)+1))=bO (nz (ms.set i (D+1))) by simp[bO,nz,tt]] at h9;exact h9
     have z3:((q:Int)==(c:Int))=false:=beq_eq_false_iff_ne.2 (by omega);have hf:ed t c ms L i=false:=by rw[ao.out,<-HQ.out,decide_eq_false a8,A1]
     have HF:=aa (au.out hf);clear hf;go_wp2_with fail;go_roundw
     case rel=>exact⟨i+1,by omega,by simp,HF.out,Z.trans (C.mono Z.size)⟩
     case measure=>simp[intOf];omega
    have z2:=gI (show xl<=D by omega);have hf:ed t c ms L i=false:=by rw[ao.out,decide_eq_false aq,A1,x7]
    have HF:=aa (au.out hf);clear hf;go_wp2_with fail;go_roundw
    case rel=>exact⟨i+1,by omega,by simp,HF.out,Z.trans (C.mono Z.size)⟩
    case measure=>simp[intOf];omega
   have z1:((t:Int)==(H:Int))=false:=beq_eq_false_iff_ne.2 (by omega);have hf:ed H c ms L i=false:=by rw[ao.out,decide_eq_false aW,x7,x7]
   have HF:=aa (au.out hf);clear hf;go_wp2_with fail;go_roundw
   case rel=>exact⟨i+1,by omega,by simp,HF.out,Z.trans (C.mono Z.size)⟩
   case measure=>simp[intOf];omega
  have zi:=gI (show n<=i by omega);obtain rfl:i=n:=by omega
  have F:ab=none:=by
   rw[rE.out];rw[show(List.range L.length).find? (ed H c ms L)=none from List.find?_range_eq_none.2 λj hj=>by rw[an j (by rw[HN.out];exact hj)];rfl];rfl
  have k5:=k1.mono Z;have f0:=k5.at 0 rfl;have f1:=k5.at 1 rfl;have q0:=k5.frozen 0;have q1:=k5.frozen 1;have v0:=(k5.set 0 (.int .i64 0)).set 1 (.slice none 0 0);have g0:=v0.at 0 rfl;have g1:=v0.at 1 rfl;have I:=aa (aj (off:=1) (u:=.slice none 0 0) (b:=w.heap.size+1) (aj (off:=0) (u:=.int .i64 0) (b:=w.heap.size+1) jP (by omega)) (by omega));clear v0 k5 an;go_wp2_with fail;exact bodyPost_ret (v:=.tuple #[.agg #[.int .i64 0,.slice none 0 0],.bool false]) (by simp[results,results68,go_sem,g0,g1]) rfl ⟨by first|rfl|(rw[F];rfl),I.out⟩
def Td (b:cK w i T X) (d:aY T X) (h:dP w B p i (ai T) l) (a:l.length<9000) (j:AA w v s) (f:eQ (bq (ai T) l) s) (c:Nat) (g:c<1114112) :
 Calls prog 68 #[.pointer (some ⟨p,0,none⟩),v,.int .i32 c] w λe w'=>FY e w' (iy (ai T) (bq (ai T) l) s c)/\Below w.heap.size w w':=by
 by_cases h0:ai T c=0
 ·exact OD b d h a j f c g h0
 exact OG b d h a j f c g h0
def OH {α β:Type} {f:α->β->Option α} {l:List β} (c:i<l.length) {a b:α} (h:(l.take i).foldlM f a=some b):(l.take (i+1)).foldlM f a=f b l[i]:=by
 rw[gE c,List.foldlM_append,h];show [l[i]].foldlM f b=_;rw[oE];cases f b l[i] <;> rfl
def OI {α β:Type} {f:α->β->Option α} {l:List β} {a:α} (h:(l.take i).foldlM f a=none):l.foldlM f a=none:=by
 conv=>lhs;rw[<-ke i l,List.foldlM_append,h]
 rfl
def FZ (hD:cK w dp T X) (hV:aY T X) (zT:T.length<1000) (h:dP w B p dp (ai T) l) (hl:l.length<9000) (hs:AA w v s) (ho:eQ (bq (ai T) l) s) (c:Nat) (hc:aP c) :
 Calls prog 31 #[.pointer (some ⟨p,0,none⟩),v,.int .i32 c] w λe w'=>FY e w' (fw (ai T) (aD T) (bq (ai T) l) s c)/\Below w.heap.size w w':=by
 obtain⟨g,rc,iT,aJ,Es,hR⟩:=h.read;obtain⟨sv,rfl,ab⟩:=id hs;obtain⟨Z,sc,rfl,_,hx⟩:=bG.out ab.any;obtain⟨m,hm⟩:=ae ((bO (nz s.2)).length);rw[<-hm] at hs ab⊢;have C:=dH (w:=w) (.cells #[.int .i64 (s.1:Nat),.slice Z m sc] 54) (.cells #[.int .i64 0,.slice none 0 0] 54);have FU:=aa (pG (hD.mono C) hV zT c hc.1);have Y:∀y∈aD T c,y<1114112:=λy Q=>(ow hV hc Q).1;have ac:=il hV c;have TK:=aa (λ(W:World) (E:Below w.heap.size w W) (u:Value) (d:eZ) (hu:AA W u d) (z:eQ (bq (ai T) l) d) (y:Nat) (Q:y<1114112)=>Td (hD.mono E) hV (h.mono E) hl hu z y Q);have O:∀(d s2:eZ) (y:Nat),eQ (bq (ai T) l) d->iy (ai T) (bq (ai T) l) d y=some s2->eQ (bq (ai T) l) s2:=λd s2 y h1 h2=>aa5 h1 h2;have an:fw (ai T) (aD T) (bq (ai T) l) s c=(aD T c).foldlM (iy (ai T) (bq (ai T) l)) s:=rfl;rw[an];obtain⟨tk,ap⟩:=ae (iy (ai T) (bq (ai T) l));obtain⟨F,hF⟩:=ae (aD T c);obtain⟨R,ag⟩:=ae (bq (ai T) l);simp only[<-ap] at TK O⊢;simp only[<-hF,<-ag] at FU Y ac TK O ho hR⊢;obtain⟨ad,D⟩:=ae (F.foldlM tk s);rw[<-D];have rE:=aa D;have aL:=aa Y;have Yp:=aa O;have aQ:=hR.is;have p0:=(aQ.mono C).at 0 rfl;have Ym:AA (( w.alloc (.cells #[.int .i64 (s.1:Nat),.slice Z m sc] 54)).alloc (.cells #[.int .i64 0,.slice none 0 0] 54)) (.agg #[.int .i64 (s.1:Nat),.slice Z m sc]) s:=hs.mono C;have Ym:=aa Ym;have HO:=aa ho;clear h hR ab hs hm ag ap hF an D Y O hx hD ho;obtain⟨k,hk⟩:=ae s.1;rw[<-hk] at Ym C FU p0⊢;have HK:=aa hk;clear hk;go_enter func31,ntmps31;go_wp2_with fail;refine FU.out.mono ?_;rintro e w1⟨r1,rfl,o1,N⟩;have aA:=af C N;obtain⟨n,hn⟩:=ae F.length;have av:=(Sl.aU o1).any;obtain⟨a1,c1,rfl,_,Q⟩:=Go.Proofs.YtmnimbnojdndmaaGreatDoor.bG.Hl av hn;have k0:Is w1 w.heap.size #[.int .i64 (k:Nat),.slice Z m sc] 54:=((Is.new w _ _).mono (ah _)).mono N;have k1:Is w1 (w.heap.size+1) #[.int .i64 0,.slice none 0 0] 54:=(Is.new' _ _ _ _ (by simp)).mono N;have ay:=Ym.out.mono N;have:n<=32:=by rw[hn];exact ac
 have HN:=aa hn;have O1:=aa o1;have:w.heap.size+2<=((w.alloc (.cells #[.int .i64 (k:Nat),.slice Z m sc] 54)).alloc (.cells #[.int .i64 0,.slice none 0 0] 54)).heap.size:=by simp
 generalize ((w.alloc (.cells #[.int .i64 (k:Nat),.slice Z m sc] 54)).alloc (.cells #[.int .i64 0,.slice none 0 0] 54))=w0 at *;clear o1 av Q Ym p0 ac;go_wp2_with fail
 go_loopw [8,10,18] (λaO _ iv wr=>∃i:Nat,i<=n/\iv=.int .i64 i/\aO=.bool true/\(∃(d:eZ) (a:Option Addr) (m c:Nat),(F.take i).foldlM tk s=some d/\eQ R d/\Is wr w.heap.size #[.int .i64 (d.1:Nat),.slice a m c] 54/\AA wr (.agg #[.int .i64 (d.1:Nat),.slice a m c]) d)/\
  Is wr (w.heap.size+1) #[.int .i64 0,.slice none 0 0] 54/\wr.ownsRow w0.heap.size aN 1 (.slice a1 n c1) n (aM F)/\Below w.heap.size w wr) (λ_ _ iv _=>n-(intOf iv).toNat)
 case atStart=>exact⟨0,gW _,rfl,rfl,⟨s,Z,m,sc,rfl,HO.out,HK.out▸k0,HK.out▸ay⟩,k1,HN.out▸O1.out,aA⟩
 case round=>
  obtain⟨i,hi,rfl,rfl,⟨d,a,m',c',hf,z,P,hS⟩,J,t,hE⟩:=hrel;have aC:=hE.size;by_cases aR:i<n
  ·have zi:=eG (show i<n by omega);obtain⟨rb,Vd,he,_,_,_,_,x⟩:=dz t (show 0<n by omega);injection he with aB _ aK;subst aB aK;have L:i<F.length:=by have:=HN.out;omega
   have cy:=x i (.int .i32 (F[i]:Nat)) (by rw[gA (by rw[bF];exact L),dR _ _ L]);have au:=aL.out _ (gx L);have S:=OH L hf;obtain⟨y,Q⟩:=ae (F[i]);rw[<-Q] at cy au S;have TC:=aa (TK.out wr hE _ d hS z y au);have e0:=P.at 0 rfl;have e1:=P.at 1 rfl;have aw:=aa S;have DT:=aa t;have az:=aa z;obtain⟨sk,ak⟩:=ae d.1;rw[<-ak] at e0 TC P;clear S x hf Q hS t z ak;go_wp2_with fail;refine TC.out.mono ?_;rintro e w2⟨j,M⟩;have ar:=hE.trans (M.mono aC);have q:=P.mono M;have U:=J.mono M;have:=q.at 0 rfl;have:=q.at 1 rfl;have:=q.frozen 0;have:=q.frozen 1;have H:=aH DT.out M;cases r:tk d y with
   | none=>
     rw[r] at j;obtain rfl:e=_:=j;have I:ad=none:=by rw[rE.out];exact OI (i:=i+1) (by rw[aw.out,r])
     have f:=(U.put (show w.heap.size+1≠w.heap.size by omega) (o:=0) (.int .i64 0)).put (show w.heap.size+1≠w.heap.size by omega) (o:=1) (.slice none 0 0);have f0:=f.at 0 rfl;have f1:=f.at 1 rfl;have q0:=f.frozen 0;have q1:=f.frozen 1;have V:=(f.set 0 (.int .i64 0)).set 1 (.slice none 0 0);have g0:=V.at 0 rfl;have g1:=V.at 1 rfl;have A:=aa (aj (off:=1) (u:=.slice none 0 0) (b:=w.heap.size+1) (aj (off:=0) (u:=.int .i64 0) (b:=w.heap.size+1) (aj (off:=1) (u:=.slice none 0 0) (b:=w.heap.size) (aj (off:=0) (u:=.int .i64 0) (b:=w.heap.size) ar (by omega)) (by omega)) (by omega)) (by omega));have Qw:=aa I;clear I V f r;go_wp2_with fail;refine bodyPost_ret (v:=.tuple #[.agg #[.int .i64 0,.slice none 0 0],.bool false]) (by simp[results,results31,go_sem,g0,g1]) rfl ⟨?_,A.out⟩;rw[Qw.out];rfl
   | some s2=>
     rw[r] at j;obtain⟨v2,rfl,K⟩:=j;obtain⟨aT,rfl,aq⟩:=id K;obtain⟨a2,c2,rfl,_,_⟩:=bG.out aq.any;obtain⟨m2,al⟩:=ae ((bO (nz s2.2)).length);rw[<-al] at K⊢;have ch:=(bJ.put (o:=0) q (.int .i64 (s2.1:Nat))).trans (bJ.put (o:=1) (q.set 0 (.int .i64 (s2.1:Nat))) (.slice a2 m2 c2));have am:=(q.set 0 (.int .i64 (s2.1:Nat))).set 1 (.slice a2 m2 c2);have f:=(U.put (show w.heap.size+1≠w.heap.size by omega) (o:=0) (.int .i64 (s2.1:Nat))).put (show w.heap.size+1≠w.heap.size by omega) (o:=1) (.slice a2 m2 c2);have G:=ch.own H (by decide);have ao:=Qu.OC K ch (by decide);have lH:=aj (off:=1) (u:=.slice a2 m2 c2) (b:=w.heap.size) (aj (off:=0) (u:=.int .i64 (s2.1:Nat)) (b:=w.heap.size) ar (by omega)) (by omega);have HJ:=aa am;have ax:=aa f;have aI:=aa G;have aE:=aa ao;have aF:=aa r;have Yi:=aa (Yp.out d s2 y az.out r);clear aq al K ch am f G ao r P J H q U;go_wp2_with fail;go_roundw
     case rel=>exact⟨i+1,by omega,by simp,rfl,⟨s2,a2,m2,c2,by rw[aw.out,aF.out],Yi.out,HJ.out,aE.out⟩,ax.out,aI.out,lH⟩
     case measure=>simp[intOf];omega
  have zi:=gI (show n<=i by omega);obtain rfl:i=n:=by omega
  have I:ad=some d:=by rw[rE.out,<-hf,ie (by rw[<-HN.out];exact gw _)]
  have e0:=P.at 0 rfl;have e1:=P.at 1 rfl;have f0:=J.at 0 rfl;have f1:=J.at 1 rfl;have q0:=J.frozen 0;have q1:=J.frozen 1;have V:=(J.set 0 (.int .i64 (d.1:Nat))).set 1 (.slice a m' c');have g0:=V.at 0 rfl;have g1:=V.at 1 rfl;have ch:=(bJ.put (o:=0) J (.int .i64 (d.1:Nat))).trans (bJ.put (o:=1) (J.set 0 (.int .i64 (d.1:Nat))) (.slice a m' c'));have HS:=aa (Qu.OC hS ch (by decide));have A:=aa (aj (off:=1) (u:=.slice a m' c') (b:=w.heap.size+1) (aj (off:=0) (u:=.int .i64 (d.1:Nat)) (b:=w.heap.size+1) hE (by omega)) (by omega));have Qw:=aa I;clear I V ch hS t hf z P J;go_wp2_with fail;refine bodyPost_ret (v:=.tuple #[.agg #[.int .i64 (d.1:Nat),.slice a m' c'],.bool true]) (by simp[results,results31,go_sem,g0,g1]) rfl ⟨?_,A.out⟩;rw[Qw.out];exact⟨_,rfl,HS.out⟩
def OJ (h:dP w B p dp K l) (hl:l.length<9000) (hs:AA w v s) (ho:eQ (bq K l) s) :
 Calls prog 64 #[.pointer (some ⟨p,0,none⟩),v] w λe w'=>∃r,e=.returned r/\w'.ownsRow w.heap.size aN 1 r (ko (bq K l) s).length (aM (ko (bq K l) s))/\Below w.heap.size w w':=by
 obtain⟨k,ms⟩:=s;have hF:=fD K l;obtain⟨g,rc,iT,aY,Es,hR⟩:=h.read;obtain⟨sv,rfl,S⟩:=id hs;obtain⟨sa,sc,rfl,_,hx⟩:=bG.out S.any;obtain⟨m,hm⟩:=ae ((bO (nz ms)).length);dsimp only at hs S⊢;have av:m=ms.length:=by rw[hm];simp[bO]
 rw[<-hm] at hs S⊢;have ac:=ah (w:=w) (.cells #[.int .i64 (k:Nat),.slice sa m sc] 54);have RU:=aa (rD (h.mono ac) hl (hs.mono ac) ho);have d:=hF.2.2 _ (show aL (bq K l) k∈bq K l by rw[df ho.lt];exact gx _);dsimp only at RU;obtain⟨R,V⟩:=ae (bq K l);have ab:k+1<R.length->∃la lc x1 m1 y1 x2 m2 y2 z f,∀j<6,w.cell? ⟨g,(k+1)*6+j,none⟩=[Value.int .i32 (aL R (k+1)).1,.slice la (aL R (k+1)).2.length lc,.slice x1 m1 y1,.slice x2 m2 y2,.int .i64 z,.int .i64 f][j]?:=λhk=>by
  rw[V] at hk⊢;obtain⟨la,lc,x1,m1,y1,x2,m2,y2,z,f,hc,_⟩:=hR.at_ hk;exact⟨la,lc,x1,m1,y1,x2,m2,y2,z,f,hc⟩
 simp only[<-V] at hF hR RU ho d⊢;obtain⟨L,C⟩:=ae ((aL R k).2);have kz:ms.length=L.length:=by rw[C];exact ho.len
 rw[<-C] at d;obtain⟨nr,E⟩:=ae R.length;have ba:k<nr:=by rw[E];exact ho.lt
 have Z9:nr<10000:=by rw[E];have:=hF.2.1;omega
 have am:=hR.is;simp only[<-E] at am ab;obtain⟨H,c⟩:=ae (ko R (k,ms));rw[<-c];have A:H=if au ms L L.length=[] then (if k+1<nr then [(aL R (k+1)).1] else []) else au ms L L.length:=by rw[c,E,C];rfl
 have rE:=aa A;have aQ:=aa ab;have HX:=aa hx;have ER:=aa kz;have D9:=aa av;have aR:=aa C;have aU:=aa d;have bd:m<10000:=by have:=d.1;omega
 clear h hR S hs hm hF d V ho c A hx kz av C E ab;go_enter func64,ntmps64;go_wp2_with fail;refine RU.out.mono ?_;rintro e w1⟨rv,rfl,hW,ad⟩;obtain⟨la,lc,x1,m1,y1,x2,m2,y2,z,f,rfl,hL,a3⟩:=id hW;clear a3 hW;rw[<-aR.out] at hL⊢;obtain⟨n,hn⟩:=ae L.length;obtain⟨hd,an⟩:=ae ((aL R k).1);obtain⟨a9,SX,e9,ao⟩:=hL;injection e9 with e8 _ e7;subst e8 e7;rw[<-hn,<-an];have HN:=aa hn;have aS:=aa ao;have rW:n<10000:=by have:=ER.out;have:=D9.out;omega
 have aP:=af ac ad;have Z_:w.heap.size+1<=w1.heap.size:=by have:=ad.size;simpa using this
 have k0:Is w1 w.heap.size #[.int .i64 (k:Nat),.slice sa m sc] 54:=(Is.new w _ _).mono ad;obtain⟨X,M⟩:=ae (w1.alloc (.cells #[.int .i32 hd,.slice la n lc,.slice x1 m1 y1,.slice x2 m2 y2,.int .i64 z,.int .i64 f] eX));have N:=aO M;have k2:=Is.nw M;have Z:=af aP N;have D:=Z.size;have k0:=k0.mono N;have d1:=k2.at 1 rfl;rw[M] at d1;clear hn an RU ao;go_wp2_with fail;rw[<-M];clear d1;have a2:=N.size;go_loopw [7,8,9,10,22] (λo _ _ _ iv wr=>∃i:Nat,i<=n/\iv=.int .i64 i/\wr.ownsRow X.heap.size aN 1 o (au ms L i).length (aM (au ms L i))/\Below X.heap.size X wr) (λ_ _ _ _ iv _=>n-(intOf iv).toNat)
 case atStart=>exact⟨0,gW _,rfl,iu _ _ _ _,gO _ _⟩
 case round=>
  obtain⟨i,hi,rfl,a,U⟩:=hrel;have jP:=Z.trans (U.mono D);have al:=N.trans (U.mono a2);by_cases bi:i<n
  ·have zi:=eG (show i<n by omega);have Wq:i<L.length:=by have:=HN.out;omega
   have LA:i<ms.length:=by have:=ER.out;omega
   have a7:i<m:=by have:=D9.out;omega
   have Zc:i<(bO (nz ms)).length:=by simp[bO];exact LA
   obtain⟨b,off,rfl,_,c0⟩:=HX.out i Zc;obtain⟨lg,va,vc,rfl,l0,l1,x⟩:=aS.out i Wq;rw[show(bO (nz ms))[i]=.int .i64 ((ms[i]:Nat):Int) by simp[bO,nz]] at c0;obtain⟨J,vL⟩:=ae (ms[i]);obtain⟨aq,T⟩:=ae (L[i].1);obtain⟨ln,I⟩:=ae (L[i].2);have Ct:lZ ms L i=if J<ln.length then [ln.getD J 0] else []:=by
    unfold lZ;rw[vL,I,ic (l:=L),gA Wq,ic (l:=ms),gA LA];rfl
   have aD:ln.length<10000:=by rw[I];have:=(aU.out.2 _ (gx Wq));omega
   rw[<-vL] at c0;rw[<-T] at l0;rw[<-I] at l1 x;obtain⟨xl,ai⟩:=ae ln.length;rw[<-ai] at l1 x Ct aD;have u:=zS ms L i;have Q:=uU ms L i;obtain⟨P,hP⟩:=ae (au ms L i);rw[<-hP] at a u Q;have c0:=aB jP c0;have l1:=aB al l1;have l0:=aB al l0;have x:=x.mono al;have ar:=k0.mono U;have e1:=ar.at 1 rfl;have aG:=aa Ct;have aw:=aa u;have VD:=aa ai;have F:=ah (w:=wr) (.cells #[.int .i64 (aq:Nat),.slice va xl vc] 95);have i0:=Is.new wr #[.int .i64 (aq:Nat),.slice va xl vc] 95;have n0:=i0.at 0 rfl;have n1:=i0.at 1 rfl;have Vh:=aB F e1;have bg:=aB F c0;have d1:=aB U (k2.at 1 rfl);have G:=aH a F;have NV:=af U F;clear Ct vL ai T I ar u hP;by_cases ap:J<xl
   ·have z2:=eG (show J<xl by omega);obtain⟨q,hq⟩:=ae (ln.getD J 0);have Wt:J<ln.length:=by have:=VD.out;omega
    obtain⟨ya,yc,he,_,hy⟩:=Go.Proofs.YtmnimbnojdndmaaGreatDoor.bG.Hl x VD.out;injection he with he _ aW;subst he aW;obtain⟨yb,yo,rfl,_,y0⟩:=hy J Wt;rw[show ln[J]=q by rw[hq,ic,gA Wt];rfl] at y0;have a8:=aB F y0;have y:lZ ms L i=[q]:=by rw[aG.out,if_pos ap,hq]
    have aj:=aa y;clear hy hq x y;go_wp2_with (at_builtin;refine gp rfl _ _ 35 rfl X.heap.size aN _ 4 bW _ P.length _ rfl G _ (by show Value.slice (some ⟨wr.heap.size+1,0,none⟩) 1 1=_;simp) rfl (by omega) (by unfold maxLen;omega) X NV (gw _) ?_;intro v' w6 o6 mF);go_roundw
    case rel=>
     refine⟨i+1,by omega,by simp,?_,mF⟩;rw[aw.out,aj.out,d',a_];exact o6
    case measure=>simp[intOf];omega
   have z2:=gI (show xl<=J by omega);have y:lZ ms L i=[]:=by rw[aG.out,if_neg ap]
   have aj:=aa y;clear y;go_wp2_with fail;go_roundw
   case rel=>
    refine⟨i+1,by omega,by simp,?_,NV⟩;rw[aw.out,aj.out,lE];exact G
   case measure=>simp[intOf];omega
  have zi:=gI (show n<=i by omega);obtain rfl:i=n:=by omega
  have Q:=uU ms L i;have c:=rE.out;rw[<-HN.out] at c;obtain⟨P,hP⟩:=ae (au ms L i);rw[<-hP] at a c Q;obtain⟨oa,oc,rfl,_,_⟩:=ak a;obtain⟨np,Ux⟩:=ae P.length;rw[<-Ux] at a Q⊢;have W:=aa c;have Yj:=aa Ux;have Je:=jP.size;have pm:=Gr.cell (ag wr) ((am.mono jP).at 1 rfl);have e0:=Gr.cell (ag wr) ((k0.mono U).at 0 rfl);clear c hP Ux;go_wp2_with fail;by_cases hp:np=0
  ·have zp:((np:Int)==0)=true:=by simp;omega
   have ax:P=[]:=im.1 (by rw[<-Yj.out];exact hp);have O:=aa ax;clear ax;by_cases hq:k+1<nr
   ·have zq:decide ((k:Int)+1<(nr:Int))=true:=decide_eq_true (by omega);obtain⟨be,a5,bh,bb,a4,a6,bc,bf,z2,f2,Y⟩:=aQ.out hq;obtain⟨aV,OE⟩:=ae ((aL R (k+1)).1);rw[<-OE] at Y;have d0:=Y 0 (by decide);simp only[sE,xd] at d0;have aX:=aH a (ag wr);have Za:=af U (ag wr);have aE:=jP.trans ((ag wr).mono Je);have a0:=(k0.mono U).mono (ag wr);have t:H=[aV]:=by rw[W.out,if_pos O.out,if_pos hq,OE]
    have Qw:=aa t;subst hp;clear Y OE t;refine aC (Array.replicate 14 true) 14 0 mixed ?_;refine ay [0,1,2,3,4,5,6,7,8,9,10,11,12,13] 0 ?_;refine bC ?_
    iterate 14 (refine aZ rfl ?_)
    refine bD ?_
    iterate 14 (go_big_quiet_step (rfl))
    refine az ?_;refine aJ [] ?_;refine tail_nil ?_;go_wp2_with fail;have pm:=Gr.cell (ag wr.drew) ((am.mono aE).at 1 rfl);have e0:=Gr.cell (ag wr.drew) (a0.at 0 rfl);have d0:=Gr.cell (ag wr.drew) (aB aE d0);have a1:=af Za (ag wr.drew);have aK:=aH aX (ag wr.drew);rw[O.out] at aK;refine aC #[true,true,true,true,true,true,true,true,true,true,true,true,false,false] 12 2 mixed ?_;refine ay [0,1,2,3,4,5,6,7,8,9,10] 1 ?_
    iterate 11 (refine aA rfl ?_;go_big_quiet_step (rfl))
    refine az ?_;refine aI 11 ?_;go_wp2_with fail;refine aF (ah _) ?_;refine aJ [12,13] ?_;refine tail_cons rfl ?_;refine gp rfl _ _ 35 rfl X.heap.size aN _ 4 bW _ 0 _ rfl aK _ rfl rfl (by omega) (by unfold maxLen;omega) X a1 (gw _) ?_;intro v' w6 o6 mF;refine tail_cons rfl ?_;go_wp2_with fail;refine tail_nil ?_;go_wp2;go_ret;rw[Qw.out];exact⟨_,rfl,aT o6 D,Z.trans (mF.mono D)⟩
   have zq:decide ((k:Int)+1<(nr:Int))=false:=decide_eq_false (by omega);have t:H=[]:=by rw[W.out,if_pos O.out,if_neg hq]
   have Qw:=aa t;clear t;refine aC (Array.replicate 14 true) 14 0 mixed ?_;refine ay [0,1,2,3,4,5,6,7,8,9,10,11,12,13] 0 ?_;refine bC ?_
   iterate 14 (refine aZ rfl ?_)
   refine bD ?_
   iterate 14 (go_big_quiet_step (rfl))
   refine az ?_;refine aJ [] ?_;refine tail_nil ?_;go_wp2_with fail;go_ret;rw[Qw.out];refine⟨_,rfl,?_,jP.trans ((ag wr).mono Je)⟩;have:=aT (aH a (ag wr)) D;rw[O.out,hp] at this;subst hp;exact this
  have zp:((np:Int)==0)=false:=beq_eq_false_iff_ne.2 (by omega);have t:H=P:=by rw[W.out,if_neg λe=>hp (by rw[Yj.out,e];rfl)]
  have Qw:=aa t;clear t;refine aC (Array.replicate 14 true) 14 0 mixed ?_;refine ay [0,1,2,3,4,5,6,7,8,9,10,11,12,13] 0 ?_;refine bC ?_
  iterate 14 (refine aZ rfl ?_)
  refine bD ?_
  iterate 14 (go_big_quiet_step (rfl))
  refine az ?_;refine aJ [] ?_;refine tail_nil ?_;go_wp2_with fail;go_ret;rw[Qw.out];refine⟨_,rfl,?_,jP.trans ((ag wr).mono Je)⟩;have:=aT (aH a (ag wr)) D;rw[Yj.out] at this;rw[Yj.out];exact this
def Wu {base e:Nat} {n:Nat} {c:List Value} (h:w.ownsRow base t e v n c):∃a cap,v=.slice a n cap/\w.ownsRow base t e (.slice a 0 cap) 0 []:=by
 rcases h.2 with⟨rfl,h0⟩|⟨g,cap,b,rfl,i,f,l,d,j,k⟩
 ·subst h0;exact⟨_,_,rfl,by simp,.inl ⟨rfl,rfl⟩⟩
 exact⟨_,_,rfl,by simp,.inr ⟨g,cap,b,rfl,i,f,gW _,d,j,by simp⟩⟩
def Wv (n:Nat) (i:n<1000000) :
 Calls prog 133 #[.slice none 0 0,.int .i64 n] w λe w'=>∃r,e=.returned r/\w'.ownsRow w.heap.size aN 1 r 0 []/\Below w.heap.size w w':=by
 have:decide ((n:Int)<0)=false:=decide_eq_false (by omega);by_cases h0:n=0
 ·have g:decide ((0:Int)<(n:Int))=false:=decide_eq_false (by omega);go_enter func133,ntmps133;go_wp2;go_ret;exact⟨_,rfl,iu _ _ _ _,gO _ _⟩
 have g:decide ((0:Int)<(n:Int))=true:=decide_eq_true (by omega);go_enter func133,ntmps133
 go_wp2_with (
  at_builtin
  refine sU rfl _ _ 35 3 rfl .i64 .i64 underlying3 w.heap.size aN _ 4 bW rfl (.slice none 0 0) 0 [] rfl (iu _ _ _ _) n rfl (by unfold maxLen;omega) (by omega) (gw _) ?_;intro o h c a;obtain⟨j,m,rfl,d⟩:=Wu c;rw[kh] at *;have b:=aa (gO w.heap.size w |>.grown a (gw _) (λk f=>by cases f))
  clear c a)
 go_ret;exact⟨_,rfl,d,b.out⟩
theorem Cu {j:Nat} (hj:j<Ls.length):(Ls.take (j+1)).flatten=(Ls.take j).flatten++Ls[j]:=by
 rw [gE hj,ux];simp
theorem Qx (Ls:List (List Nat)) (j:Nat):(Ls.take j).flatten.length<=Ls.flatten.length:=by
 conv=>rhs;rw [<-ke j Ls,ux,d']
 omega
theorem OL {b n c:Nat} {vs:List Value} (hn:n=Ls.length) (hvs:vs.length=n) (hc:∀k (hk:k<Ls.length) (hk':k<vs.length),w.cell? ⟨b,k,none⟩=some vs[k]∧bG w vs[k] (aM Ls[k])) (hsm:Ls.flatten.length<1000000) (rW:n<1000) :
 Calls prog 94 #[.slice (some ⟨b,0,none⟩) n c] w fun e w'=>∃r,e=.returned r∧w'.ownsRow w.heap.size aN 1 r Ls.flatten.length (aM Ls.flatten)∧Below w.heap.size w w':=by
 have HC:=aa hc;have HN:=aa hn;have HV:=aa hvs;have HSM:=aa hsm;clear hc hn hvs hsm;go_enter func94,ntmps94;go_wp2_with fail;go_loopw [3,5,11] (fun sz _ iv wr=>∃j:Nat,j<=n∧iv=.int .i64 j∧sz=.int .i64 ((Ls.take j).flatten.length:Nat)∧Below w.heap.size w wr) (fun _ _ iv _=>n-(intOf iv).toNat)
 case atStart=>exact ⟨0,gW _,rfl,rfl,gO _ _⟩
 case round=>
  obtain ⟨j,hj,rfl,rfl,hE0⟩:=hrel;by_cases hjn:j<n
  ·have zj:=eG (show j<n by omega);have hjl:j<Ls.length:=by have:=HN.out;omega
   have hjv:j<vs.length:=by have:=HV.out;omega
   obtain ⟨c0,hs⟩:=HC.out j hjl hjv;obtain ⟨x,hx⟩:=ae (vs[j]);rw [<-hx] at c0 hs;have c0:=aB hE0 c0;obtain ⟨a1,c1,rfl,_,_⟩:=bG.out hs;rw [bF] at c0;have h1:=Cu hjl;have h2:=Qx Ls (j+1);obtain ⟨q,hq⟩:=ae ((Ls.take j).flatten.length);obtain ⟨q2,hq2⟩:∃q,q=Ls[j].length:=⟨_,rfl⟩;have h3:(Ls.take (j+1)).flatten.length=q+q2:=by rw [h1,d',hq,hq2]
   have hq9:q+q2<1000000:=by rw [<-h3];exact lf h2 HSM.out
   rw [<-hq];rw [<-hq2] at c0;have z2:decide ((q:Int)+(q2:Int)<0)=false:=decide_eq_false (by omega);have H3:=aa h3;clear h1 h2 h3 hs hx hq hq2;go_wp2_with fail;go_roundw
   case rel=>exact ⟨j+1,by omega,by simp,by rw [H3.out];simp,hE0⟩
   case measure=>simp [intOf];omega
  ·have zj:=gI (show n<=j by omega);obtain rfl:j=n:=by omega
   have ht:Ls.take j=Ls:=ie (by rw [<-HN.out];exact gw _);rw [ht];obtain ⟨N,hN⟩:=ae Ls.flatten.length;rw [<-hN];have GR:=aa (Wv (w:=wr) N (by rw [hN];exact HSM.out));have nR:=aa hN;clear ht hN;go_wp2_with fail;refine GR.out.mono ?_;rintro e w1 ⟨r0,rfl,o0,hb1⟩;have hs1:=hb1.size;have hs0:=hE0.size;have hb1:=hE0.trans (hb1.mono hs0);have o0:=aT o0 hs0;go_wp2_with fail;go_loopw [6,8,27] (fun r _ iv wr=>∃i:Nat,i<=j∧iv=.int .i64 i∧wr.ownsRow w.heap.size aN 1 r (Ls.take i).flatten.length (aM (Ls.take i).flatten)∧Below w.heap.size w wr) (fun _ _ iv _=>j-(intOf iv).toNat)
   case atStart=>exact ⟨0,gW _,rfl,o0,hb1⟩
   case round=>
    obtain ⟨i,hi,rfl,hr,hE⟩:=hrel;by_cases hij:i<j
    ·have zi:=eG (show i<j by omega);have hil:i<Ls.length:=by have:=HN.out;omega
     have hiv:i<vs.length:=by have:=HV.out;omega
     obtain ⟨c0,hs⟩:=HC.out i hil hiv;obtain ⟨x,hx⟩:=ae (vs[i]);rw [<-hx] at c0 hs;have c0:=aB hE c0;have hs:=hs.mono hE;have h1:=Cu hil;have h2:=Qx Ls (i+1);obtain ⟨P,hP⟩:=ae ((Ls.take i).flatten);obtain ⟨L,hL⟩:=ae (Ls[i]);rw [<-hP] at hr h1;rw [<-hL] at hs h1;have hq9:P.length+L.length<1000000:=by
      have:=HSM.out;rw [h1,d'] at h2;omega
     have H1:=aa h1;have hE1:=hE.size;clear h1 h2 hx hP hL
     go_wp2_with (
      refine bR rfl _ _ 35 rfl w.heap.size aN (.int .i32 0) 4 bW _ _ _ rfl hr _ (aM L) rfl hs (by simp [aM,Value.oneCell']) (by rw [bF];unfold maxLen;omega) (by rw [bF];omega) (by omega) ?_
      intro v2 w2 o2 hg2)
     go_roundw
     case rel=>
      refine ⟨i+1,by omega,by simp,?_,hE.grown hg2 (by omega) (fun k hk=>(hr.lt k hk).1)⟩;rw [H1.out,d',a_];rw [bF] at o2;exact o2
     case measure=>simp [intOf];omega
    ·have zi:=gI (show j<=i by omega);obtain rfl:i=j:=by omega
     have ht:Ls.take i=Ls:=ie (by rw [<-HN.out];exact gw _);rw [ht,<-nR.out] at hr;have HR:=aa hr;clear hr ht;go_wp2;go_ret;exact ⟨_,rfl,by rw [nR.out] at HR;exact HR.out,hE⟩
def uX (T:List aG) (c:Nat):Bool:=decide (bP T c=[])&&decide (hk c<4)
theorem LB (h:cK w p T X) (hV:aY T X) (hl:T.length<1000) (c:Nat) (hc:c<1114112) :
 Calls prog 97 #[.pointer (some ⟨p,0,none⟩),.int .i32 c] w fun e w'=>e=.returned (.bool (uX T c))∧Below w.heap.size w w':=by
 by_cases hm:bP T c=[]
 ·have FI:=aa (BO h hV c hc hm);have HG:=aa (fun (W:World)=>rQ (w:=W) c hc);have hp:uX T c=decide (hk c<4):=by unfold uX;rw [decide_eq_true hm,Bool.true_and]
  rw [hp];obtain ⟨k,hk⟩:=ae (hk c);rw [<-hk] at HG ⊢;have hd:decide (k<4)=decide ((k:Int)<4):=by rw [decide_eq_decide];omega
  rw [hd];clear h hm hp hk hd;go_enter func97,ntmps97;go_wp2_with fail;refine FI.out.mono ?_;rintro e w1 ⟨rfl,hb1⟩;go_wp2_with fail;refine (HG.out _).mono ?_;rintro e w2 ⟨rfl,rfl⟩;go_wp2;go_ret;exact ⟨rfl,hb1.alloc hb1.size _⟩
 ·have FI:=aa (zN h hV hl c hc hm);have hp:uX T c=false:=by unfold uX;rw [decide_eq_false hm,x7]
  rw [hp];clear h hm hp;go_enter func97,ntmps97;go_wp2_with fail;refine FI.out.mono ?_;rintro e w1 ⟨a1,n1,c1,a2,n2,c2,b,rfl,_,hb1⟩;go_wp2;go_ret;exact ⟨rfl,hb1.alloc hb1.size _⟩
end Go.Proofs.YtmnimbnojdndmaaGreatDoor
