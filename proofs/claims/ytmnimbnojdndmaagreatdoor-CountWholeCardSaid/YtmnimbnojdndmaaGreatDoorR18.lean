/- One machine of an NFD counts as its units do, multiplied; no condition. -/
import Derived.Test.YtmnimbnojdndmaaGreatDoorR17
set_option maxRecDepth 100000
set_option maxHeartbeats 6400000
set_option linter.all false
namespace Go.Proofs.YtmnimbnojdndmaaGreatDoor
open Go.RowKit Go.Cd _root_.Go.Proofs.Tryz
variable {w w':World} {v:Value} {s:eZ} {k p B dp i:Nat} {K:Nat->Nat} {l X:List Nat} {t:TypeId} {T:List aG} {Ls:List (List Nat)}
def AA (w:World) (v:Value) (s:eZ):Prop:=Qu w v s.1 (nz s.2)
def AA.mono (h:AA w v s) (a:Below w.heap.size w w'):AA w' v s:=Qu.mono h a
def Ik (w:World) (v:Value) (R:List bS) (k:Nat):Prop:=
 ∃la lc d b g a c e z f,v=.agg #[.int .i32 (aL R k).1,.slice la (aL R k).2.length lc,.slice d b g,.slice a c e,.int .i64 z,.int .i64 f]/\Oz w (.slice la (aL R k).2.length lc) (aL R k).2/\
  (dO R<=16384->gB w (.agg #[.slice d b g,.slice a c e,.int .i64 z]) (kM (aL R k))/\f=(dO (R.take k):Nat))
def Ik.run {R:List bS} (h:Ik w v R k):af9 w v (aL R k):=by
 obtain⟨la,lc,e,b,i,a,d,g,z,f,c,j,_⟩:=h;exact⟨_,e,b,i,a,d,g,z,f,c,j⟩
def Ik.mono {R:List bS} (h:Ik w v R k) (a:Below w.heap.size w w'):Ik w' v R k:=by
 obtain⟨la,lc,i,d,l,c,g,j,z,f,e,m,b⟩:=h;exact⟨la,lc,i,d,l,c,g,j,z,f,e,m.mono a,λk=>⟨(b k).1.mono a,(b k).2⟩⟩
def Wm.at_ {L:Nat} {a:List bS} {g P:Nat} {Q:Value} {l:Bool} {b:List qx} (h:Wm w p L a g P Q l b) (B:k<a.length) :
 ∃la lc o u s n y r z f,(∀j<6,w.cell? ⟨g,k*6+j,none⟩=[Value.int .i32 (aL a k).1,.slice la (aL a k).2.length lc,.slice o u s,.slice n y r,.int .i64 z,.int .i64 f][j]?)/\
  Oz w (.slice la (aL a k).2.length lc) (aL a k).2/\Ik w (.agg #[.int .i32 (aL a k).1,.slice la (aL a k).2.length lc,.slice o u s,.slice n y r,.int .i64 z,.int .i64 f]) a k:=by
 have m:k<b.length:=by rw[<-List.length_map (f:=λe=>cB.sp e.1),h.sp];exact B
 have c:cB.sp b[k].1=aL a k:=by rw[df B];simp[<-h.sp]
 have d:=λt:dO a<=16384=>h.ZQ (by rw[h.le];exact decide_eq_true t) k m;obtain⟨⟨o,u,s,F⟩,n,y,r,G⟩:=h.shp _ (List.getElem_mem m);rw[c] at d;unfold Wh at d;rw[F,G] at d;obtain⟨la,lc,E⟩:=h.sl _ (List.getElem_mem m);have O:b[k].1.2.2.length=(aL a k).2.length:=by rw[<-c];simp[cB.sp]
 have S:b[k].1.1=(aL a k).1:=by rw[<-c];rfl
 have D:Oz w (.slice la (aL a k).2.length lc) (aL a k).2:=by
  refine⟨la,lc,rfl,λi T=>?_⟩;have q:i<b[k].1.2.2.length:=by omega
  obtain⟨C,_,I,J,H⟩:=h.lane _ (List.getElem_mem m) i q;have x:=h.marks _ (List.getElem_mem m) _ (List.getElem_mem q);have v:(aL a k).2[i]=((b[k].1.2.2[i]).1,(b[k].1.2.2[i]).2.2):=by
   have:(aL a k).2=b[k].1.2.2.map d_.sp:=by rw[<-c];rfl
   simp only[this,List.getElem_map];rfl
  obtain⟨K,M,A,_,_⟩:=bG.out x;rw[bF] at A;rw[A] at x H;rw[E] at I;have N:la=some ⟨C,0,none⟩:=by injection I
  refine⟨C,K,M,N,?_,?_,?_⟩
  ·rw[v];exact J
  ·rw[v];exact H
  rw[v];exact x
 refine⟨la,lc,o,_,s,n,_,r,_,_,λj R=>?_,D,la,lc,o,_,s,n,_,r,_,_,rfl,D,d⟩;rw[h.run k m j R];unfold nC;rw[F,G,E,O,S]
def rD (h:dP w B p dp K l) (hl:l.length<9000) (hs:AA w v s) (E:eQ (bq K l) s) :
 Calls prog 69 #[.pointer (some ⟨p,0,none⟩),v] w λe w'=>∃rv,e=.returned (.tuple #[rv,.bool true])/\Ik w' rv (bq K l) s.1/\Below w.heap.size w w':=by
 have hF:=fD K l;obtain⟨R,W⟩:=ae (bq K l);obtain⟨g,rc,iT,ac,Es,hR⟩:=h.read;rw[<-W] at hF hR E⊢;obtain⟨sv,rfl,S⟩:=hs;obtain⟨la,lc,H,J,M,N,I,L,z,f,n,hL,hW⟩:=hR.at_ E.lt;obtain⟨am,SX,e9,T⟩:=id hL;injection e9 with e8 _ e7;subst e8 e7;obtain⟨sa,sc,rfl,_,hx⟩:=bG.out S.any;have j:=hF.2.2 _ (show aL R s.1∈R by rw[df E.lt];exact List.getElem_mem _);have a:(bO (nz s.2)).length=(aL R s.1).2.length:=by rw[<-E.len];simp[bO]
 rw[a];obtain⟨m,hm⟩:=ae ((aL R s.1).2.length);obtain⟨nr,x⟩:=ae R.length;obtain⟨hd,U⟩:=ae ((aL R s.1).1);rw[<-hm] at n hW a⊢;rw[<-U] at n hW;have G:=hR.is;rw[<-x] at G;obtain⟨k,hk⟩:=ae s.1;rw[<-hk] at n;have:k<nr:=by rw[hk,x];exact E.lt
 have:nr<10000:=by rw[x];have:=hF.2.1;omega
 have:m<10000:=by rw[hm];have:=j.1;omega
 rw[show((s.1:Nat):Int)=(k:Int) by rw[hk]];have HL:=aa T;have HX:=aa hx;have HO:=aa E;have HM:=aa hm;have V:=aa a;have:=aa j;have d0:w.cell? ⟨g,k*6,none⟩=some (.int .i32 hd):=n 0 (by decide);have d1:w.cell? ⟨g,k*6+1,none⟩=some (.slice la m lc):=n 1 (by decide);have Z:w.cell? ⟨g,k*6+2,none⟩=some (.slice H J M):=n 2 (by decide);have Y:w.cell? ⟨g,k*6+3,none⟩=some (.slice N I L):=n 3 (by decide);have d4:w.cell? ⟨g,k*6+4,none⟩=some (.int .i64 z):=n 4 (by decide);have X:w.cell? ⟨g,k*6+5,none⟩=some (.int .i64 f):=n 5 (by decide);have HW:=aa hW;clear h hR S hx n hL T hW E hF j hm a hk U x W;obtain⟨A,d⟩:=ae ((w.alloc (.cells #[.int .i64 k,.slice sa m sc] 54)).alloc (.cells #[.int .i32 0,.slice none 0 0,.slice none 0 0,.slice none 0 0,.int .i64 0,.int .i64 0] eX));have hb:Below w.heap.size w A:=by rw[d];exact dH _ _
 have o:Is A w.heap.size #[.int .i64 k,.slice sa m sc] 54:=by rw[d];exact(Is.new _ _ _).mono (ah _)
 have O:Is A (w.heap.size+1) #[.int .i32 0,.slice none 0 0,.slice none 0 0,.slice none 0 0,.int .i64 0,.int .i64 0] eX:=by rw[d];exact Is.new' _ _ _ _ (by simp)
 have e0:=o.at 0 rfl;have e1:=o.at 1 rfl;have p1:=(G.mono hb).at 1 rfl;have:decide ((k:Int)<0)=false:=decide_eq_false (by omega);have:decide ((nr:Int)<=(k:Int))=false:=decide_eq_false (by omega);go_enter func69,ntmps69;go_wp2_with fail;rw[<-d];clear d;go_quiet (fail);go_wp2_with fail;have t:Below A.heap.size A (A.drewN nq):=⟨rfl,rfl,rfl,Nat.le_refl _,λ_ _=>rfl⟩;generalize A.drewN nq=w3 at *;have q:=af hb t;have o:=o.mono t;have O:=O.mono t;have e0:=o.gd 0 rfl;have p1:=Gr.cell (ag w3) ((G.mono q).at 1 rfl);have d0:=Gr.cell (ag w3) (aB q d0);have d1:=Gr.cell (ag w3) (aB q d1);have Z:=Gr.cell (ag w3) (aB q Z);have Y:=Gr.cell (ag w3) (aB q Y);have d4:=Gr.cell (ag w3) (aB q d4);have X:=Gr.cell (ag w3) (aB q X);refine aC #[true,true,true,true,true,true,true,true,true,false] 9 1 mixed ?_;refine ay [0,1,2,3,4,5,6,7] 1 ?_
 iterate 8 (refine aA rfl ?_;go_big_quiet_step (rfl))
 refine az ?_;refine aI 8 ?_;go_wp2_with fail;refine aF (ah _) ?_;refine aJ [9] ?_;refine tail_cons rfl ?_;go_wp2_with fail;refine tail_nil ?_;obtain⟨w4,r⟩:=ae ((w3.alloc (.cells #[.int .i32 hd,.slice la m lc,.slice H J M,.slice N I L,.int .i64 z,.int .i64 f] eX)).drew);have P:Below w3.heap.size w3 w4:=by rw[r];exact(ah _).trans ((ag _).mono (by simp))
 have k3:Is w4 w3.heap.size #[.int .i32 hd,.slice la m lc,.slice H J M,.slice N I L,.int .i64 z,.int .i64 f] eX:=by rw[r];exact(Is.new w3 _ _).mono (ag _)
 have lN:=af q P;have o:=o.mono P;have O:=O.mono P;have:=P.size;have:=q.size;rw[<-r];have:((m:Int)==(m:Int))=true:=by simp
 have e1:=o.at 1 rfl;have c1:=k3.at 1 rfl;clear r P d0 d1 Z Y d4 X e0 p1 t;go_wp2_with fail;go_loopw [7,8,42] (λ_ _ iv wr=>∃i:Nat,i<=m/\iv=.int .i64 i/\Below w4.heap.size w4 wr) (λ_ _ iv _=>m-(intOf iv).toNat)
 case atStart=>exact⟨0,Nat.zero_le _,rfl,Below.refl _ _⟩
 case round=>
  obtain⟨i,hi,rfl,Q⟩:=hrel;have jP:=af lN Q;by_cases ap:i<m
  ·have zi:=eG (show i<m by omega);have M8:i<(aL R s.1).2.length:=by have:=HM.out;omega
   have ab:i<s.2.length:=by rw[HO.out.len];exact M8
   have Zc:i<(bO (nz s.2)).length:=by have:=V.out;omega
   obtain⟨b,off,rfl,_,c0⟩:=HX.out i Zc;obtain⟨lg,va,vc,rfl,_,l1,_⟩:=HL.out i M8;rw[show(bO (nz s.2))[i]=.int .i64 ((s.2[i]:Nat):Int) by simp[bO,nz]] at c0;obtain⟨mi,vL⟩:=ae (s.2[i]);obtain⟨xl,F⟩:=ae ((aL R s.1).2[i].2.length);have:mi<=xl:=by rw[vL,F];exact HO.out.le i ab M8
   rw[<-vL] at c0;rw[<-F] at l1;have c0:=aB jP c0;have l1:=aB jP l1;have c1:=aB Q c1;clear vL F;have:decide ((mi:Int)<0)=false:=decide_eq_false (by omega);have:=gI (show mi<=xl by omega);go_wp2_with fail;go_roundw
   case rel=>exact⟨i+1,by omega,by simp,Q⟩
   case measure=>simp[intOf];omega
  have zi:=gI (show m<=i by omega);obtain rfl:i=m:=by omega
  have c:=O.mono Q;have C:=k3.mono Q;have d0:=C.at 0 rfl;have d1:=C.at 1 rfl;have Z:=C.at 2 rfl;have Y:=C.at 3 rfl;have d4:=C.at 4 rfl;have X:=C.at 5 rfl;have:=c.at 0 rfl;have:=c.at 1 rfl;have:=c.at 2 rfl;have:=c.at 3 rfl;have:=c.at 4 rfl;have:=c.at 5 rfl;have:=c.frozen 0;have:=c.frozen 1;have:=c.frozen 2;have:=c.frozen 3;have:=c.frozen 4;have:=c.frozen 5;have D:=(((((c.set 0 (.int .i32 hd)).set 1 (.slice la i lc)).set 2 (.slice H J M)).set 3 (.slice N I L)).set 4 (.int .i64 z)).set 5 (.int .i64 f);have g0:=D.at 0 rfl;have g1:=D.at 1 rfl;have g2:=D.at 2 rfl;have g3:=D.at 3 rfl;have g4:=D.at 4 rfl;have g5:=D.at 5 rfl;have y:=aa (aj (off:=5) (u:=.int .i64 f) (aj (off:=4) (u:=.int .i64 z) (aj (off:=3) (u:=.slice N I L) (aj (off:=2) (u:=.slice H J M) (aj (off:=1) (u:=.slice la i lc) (aj (off:=0) (u:=.int .i32 hd) (b:=w.heap.size+1) jP (by omega)) (b:=w.heap.size+1) (by omega)) (b:=w.heap.size+1) (by omega)) (b:=w.heap.size+1) (by omega)) (b:=w.heap.size+1) (by omega)) (b:=w.heap.size+1) (by omega));clear c C D o O k3 c1 e1;go_wp2_with fail;exact bodyPost_ret (v:=.tuple #[.agg #[.int .i32 hd,.slice la i lc,.slice H J M,.slice N I L,.int .i64 z,.int .i64 f],.bool true]) (by simp[results,results69,go_sem,g0,g1,g2,g3,g4,g5]) rfl ⟨_,rfl,HW.out.mono y.out,y.out⟩
def Tc (h:dP w B p dp K l) (hl:l.length<9000) (C:AA w v s) (y:eQ (bq K l) s) :
 Calls prog 32 #[.pointer (some ⟨p,0,none⟩),v] w λe w'=>e=.returned (.bool (Co (bq K l) s))/\Below w.heap.size w w':=by
 obtain⟨k,ms⟩:=s;have O:=fD K l;obtain⟨g,rc,iT,Q,Es,T⟩:=h.read;obtain⟨sv,rfl,d⟩:=id C;obtain⟨sa,Z,rfl,_,_⟩:=bG.out d.any;obtain⟨m,V⟩:=ae ((bO (nz ms)).length);dsimp only at C d⊢;rw[<-V] at C d⊢;have q:=ah (w:=w) (.cells #[.int .i64 (k:Nat),.slice sa m Z] 54);have N:=aa (rD (h.mono q) hl (C.mono q) y);have b:=O.2.2 _ (show aL (bq K l) k∈bq K l by rw[df y.lt];exact List.getElem_mem _);have F:=aa (λ(W:World) (E:Below w.heap.size w W) (rv:Value) (hr:Ik W rv (bq K l) k)=>Cm hr.run (C.mono E) (by rw[jF];exact y.len) (by have:=b.1;omega) (λx hx=>by have:=b.2 x hx;omega));have H:Co (bq K l) (k,ms)=(decide (k+1=(bq K l).length)&&gV (nz ms) (aL (bq K l) k).2):=rfl;rw[H];dsimp only at N F;obtain⟨R,M⟩:=ae (bq K l);rw[<-M] at O T N F y⊢;obtain⟨wb,I⟩:=ae (gV (nz ms) (aL R k).2);rw[<-I] at F⊢;obtain⟨t,i⟩:=ae R.length;have o:=T.is;rw[<-i] at o⊢;have:k<t:=by rw[i];exact y.lt
 have:t<10000:=by rw[i];have:=O.2.1;omega
 clear h T d C V O b I i M y H;go_enter func32,ntmps32;go_wp2_with fail;refine N.out.mono ?_;rintro e w1⟨rv,rfl,A,L⟩;obtain⟨la,lc,x1,m1,y1,x2,m2,y2,z,f,rfl,hL,S⟩:=id A;clear S;obtain⟨n,Y⟩:=ae ((aL R k).2.length);obtain⟨hd,J⟩:=ae ((aL R k).1);rw[<-Y,<-J] at A⊢;have U:=af q L;have G:=(Is.new w #[.int .i64 (k:Nat),.slice sa m Z] 54).mono L;obtain⟨u,c⟩:=ae (w1.alloc (.cells #[.int .i32 hd,.slice la n lc,.slice x1 m1 y1,.slice x2 m2 y2,.int .i64 z,.int .i64 f] eX));have j:=aO c;have r:=Is.nw c;have a:=af U j;have G:=G.mono j;clear hL Y J N;go_wp2_with fail;rw[<-c];have A:=(A.mono j).mono (ag u);have WC:=aa (F.out u.drew (a.trans ((ag u).mono a.size)) _ A);have:=Gr.cell (ag u) ((o.mono a).at 1 rfl);have:=G.gd 0 rfl;have:=G.gd 1 rfl;have:=r.gd 0 rfl;have:=r.gd 1 rfl;have:=r.gd 2 rfl;have:=r.gd 3 rfl;have:=r.gd 4 rfl;have:=r.gd 5 rfl;clear c F A o G r;by_cases X:k+1=t
 ·have zq:((k:Int)==(t:Int)-1)=true:=by simp;omega
  have P:decide (k+1=t)=true:=decide_eq_true X;refine aC (Array.replicate 18 true) 18 0 mixed ?_;refine ay [0,1,2,3,4,5,6,7,8,9,10,11,12,13,14] 3 ?_
  iterate 15 (refine aA rfl ?_;go_big_quiet_step (rfl))
  refine az ?_;refine aI 15 ?_;go_wp2_with fail;refine WC.out.mono ?_;rintro e w3⟨rfl,D⟩;go_wp2_with fail;refine aF D ?_;refine ay [16,17] 0 ?_
  iterate 2 (refine aA rfl ?_;go_big_quiet_step (rfl))
  refine az ?_;refine aJ [] ?_;refine tail_nil ?_;go_wp2;go_ret;exact⟨by rw[P];rfl,a.trans (((ag u).trans D).mono a.size)⟩
 have zq:((k:Int)==(t:Int)-1)=false:=beq_eq_false_iff_ne.2 (by omega);have P:decide (k+1=t)=false:=decide_eq_false X;refine aC (Array.replicate 18 true) 18 0 mixed ?_;refine ay [0,1,2,3,4,5,6,7,8,9,10,11,12,13,14] 3 ?_
 iterate 15 (refine aA rfl ?_;go_big_quiet_step (rfl))
 refine az ?_;refine aI 15 ?_;go_wp2_with fail;refine aF (Below.refl _ _) ?_;refine ay [16,17] 0 ?_
 iterate 2 (refine aA rfl ?_;go_big_quiet_step (rfl))
 refine az ?_;refine aJ [] ?_;refine tail_nil ?_;go_wp2;go_ret;exact⟨by rw[P];rfl,a.trans ((ag u).mono a.size)⟩
def Sl.OC {e:TypeId} {s:Value} {j:List Value} (h:Sl e w s j) (k:bJ w w' t) (g:e≠t):Sl e w' s j:=by
 obtain⟨a,cap,n,c,i⟩:=h;refine⟨a,cap,n,c,i.imp id ?_⟩;rintro⟨b,off,p,o,m,f,i⟩;exact⟨b,off,p,o,m,(k.keep b (block_lt f) (λ⟨l,d⟩=>g (by rw[f] at d;injection d with d;injection d))).trans f,i⟩
def Qu.OC {h:Int} {ms:List Int} (k:Qu w v h ms) (d:bJ w w' t) (a:bB≠t):Qu w' v h ms:=by
 obtain⟨e,b,c⟩:=k;exact⟨e,b,Go.Proofs.YtmnimbnojdndmaaGreatDoor.Sl.OC c d a⟩
def FY (e:Ending) (w:World):Option eZ->Prop
 | some s=>∃v,e=.returned (.tuple #[v,.bool true])/\AA w v s
 | none=>e=.returned (.tuple #[.agg #[.int .i64 0,.slice none 0 0],.bool false])
def OD (hD:cK w dp T X) (hV:aY T X) (h:dP w B p dp (ai T) l) (hl:l.length<9000) (hs:AA w v s) (ho:eQ (bq (ai T) l) s) (c:Nat) (hc:c<1114112) (h0:ai T c=0) :
 Calls prog 68 #[.pointer (some ⟨p,0,none⟩),v,.int .i32 c] w λe w'=>FY e w' (iy (ai T) (bq (ai T) l) s c)/\Below w.heap.size w w':=by
 obtain⟨k,ms⟩:=s;have hF:=fD (ai T) l;obtain⟨g,rc,iT,aK,Es,hR⟩:=h.read;obtain⟨sv,rfl,F⟩:=id hs;obtain⟨sa,sc,rfl,_,_⟩:=bG.out F.any;obtain⟨m,hm⟩:=ae ((bO (nz ms)).length);dsimp only at hs F⊢;rw[<-hm] at hs F⊢;have Q:=dH (w:=w) (.cells #[.int .i64 (k:Nat),.slice sa m sc] 54) (.cells #[.int .i64 0,.slice none 0 0] 54);have RU:=aa (rD (h.mono Q) hl (hs.mono Q) ho);have y:=hF.2.2 _ (show aL (bq (ai T) l) k∈bq (ai T) l by rw[df ho.lt];exact List.getElem_mem _);have WH:=aa (λ(W:World) (E:Below w.heap.size w W) (rv:Value) (hr:Ik W rv (bq (ai T) l) k)=>Cm hr.run (hs.mono E) (by rw[jF];exact ho.len) (by have:=y.1;omega) (λx hx=>by have:=y.2 x hx;omega));have CL:=aa (λ(W:World) (E:Below w.heap.size w W)=>iM (hD.mono E) hV c hc);rw[h0] at CL;have AT:∀(W:World),Below w.heap.size w W->k+1<(bq (ai T) l).length->Calls prog 61 #[.pointer (some ⟨p,0,none⟩),.int .i64 ((k:Int)+1)] W λe w'=>∃v,e=.returned v/\Qu w' v ((k+1:Nat):Int) (List.replicate (aL (bq (ai T) l) (k+1)).2.length 0)/\Below W.heap.size W w':=λW E hk=>by
  rw[df hk,show(k:Int)+1=((k+1:Nat):Int) by omega];exact Z6 (h.mono E) hl hk
 have AT:=aa AT;have a:iy (ai T) (bq (ai T) l) (k,ms) c=if gV (nz ms) (aL (bq (ai T) l) k).2=true/\k+1<(bq (ai T) l).length/\(aL (bq (ai T) l) (k+1)).1=c then some (k+1,List.replicate (aL (bq (ai T) l) (k+1)).2.length 0) else none:=by unfold iy;rw[if_pos h0]
 rw[a];dsimp only at RU WH;obtain⟨R,Z⟩:=ae (bq (ai T) l);have V:k+1<R.length->∃la lc x1 m1 y1 x2 m2 y2 z f,∀j<6,w.cell? ⟨g,(k+1)*6+j,none⟩=[Value.int .i32 (aL R (k+1)).1,.slice la (aL R (k+1)).2.length lc,.slice x1 m1 y1,.slice x2 m2 y2,.int .i64 z,.int .i64 f][j]?:=λhk=>by
  rw[Z] at hk⊢;obtain⟨la,lc,x1,m1,y1,x2,m2,y2,z,f,hc,_⟩:=hR.at_ hk;exact⟨la,lc,x1,m1,y1,x2,m2,y2,z,f,hc⟩
 simp only[<-Z] at hF hR RU WH ho AT⊢;obtain⟨wb,ap⟩:=ae (gV (nz ms) (aL R k).2);rw[<-ap] at WH⊢;obtain⟨nr,J⟩:=ae R.length;have G:=hR.is;have aP:k<nr:=by rw[J];exact ho.lt
 have Z9:nr<10000:=by rw[J];have:=hF.2.1;omega
 simp only[<-J] at G V AT⊢;have aw:=aa V;obtain⟨r,C⟩:∃r:Option eZ,r=if wb=true/\k+1<nr/\(aL R (k+1)).1=c then some (k+1,List.replicate (aL R (k+1)).2.length 0) else none:=⟨_,rfl⟩;rw[<-C];have rE:=aa C;clear C;clear h hR F hs hm hF y ap J Z ho a hD V;go_enter func68,ntmps68;go_wp2_with fail;refine RU.out.mono ?_;rintro e w1⟨rv,rfl,N,S⟩;obtain⟨la,lc,x1,m1,y1,x2,m2,y2,z,f,rfl,hL,aB⟩:=id N;clear aB;obtain⟨n,hn⟩:=ae ((aL R k).2.length);obtain⟨hd,aq⟩:=ae ((aL R k).1);rw[<-hn,<-aq] at N⊢;have aE:=af Q S;have M:Is w1 w.heap.size #[.int .i64 (k:Nat),.slice sa m sc] 54:=((Is.new w _ _).mono (ah _)).mono S;have d:Is w1 (w.heap.size+1) #[.int .i64 0,.slice none 0 0] 54:=(Is.new' _ _ _ _ (by simp)).mono S;obtain⟨w2,t⟩:=ae (w1.alloc (.cells #[.int .i32 hd,.slice la n lc,.slice x1 m1 y1,.slice x2 m2 y2,.int .i64 z,.int .i64 f] eX));have D:=aO t;have I:=Is.nw t;have K:=af aE D;have M:=M.mono D;have d:=d.mono D;have N:=N.mono D;have am:=aa (CL.out w2 K);have p0:=(G.mono K).at 0 rfl;rw[t] at p0;clear hL hn aq RU CL;go_wp2_with fail;rw[<-t];clear t p0;refine am.out.mono ?_;rintro e Y⟨rfl,A⟩;have aD:=K.size;have L:=K.trans (A.mono aD);have M:=M.mono A;have d:=d.mono A;have I:=I.mono A;have ar:=L.size;have N:=(N.mono A).mono (ag Y);have ak:=L.trans ((ag Y).mono ar);have WC:=aa (WH.out Y.drew ak _ N);have pm:=Gr.cell (ag Y) ((G.mono L).at 1 rfl);have e0:=M.gd 0 rfl;have e1:=M.gd 1 rfl;have d0:=I.gd 0 rfl;have d1:=I.gd 1 rfl;have d2:=I.gd 2 rfl;have d3:=I.gd 3 rfl;have d4:=I.gd 4 rfl;have d5:=I.gd 5 rfl;clear WH am;go_wp2_with fail;refine aC (Array.replicate 29 true) 29 0 mixed ?_;refine ay [0,1] 27 ?_
 iterate 2 (refine aA rfl ?_;go_big_quiet_step (rfl))
 refine az ?_;refine aI 2 ?_;go_wp2_with fail;refine WC.out.mono ?_;rintro e w4⟨rfl,ad⟩;go_wp2_with fail;refine aF ad ?_;have Yt:Below Y.heap.size Y w4:=(ag Y).trans ad;have q:=L.trans (Yt.mono ar);have aH:=q.size;have d:=d.mono Yt;have pm:=Gr.cell (Below.refl _ w4) ((G.mono q).at 1 rfl);have e0:=Gr.cell Yt (M.at 0 rfl);have f0:=d.at 0 rfl;have f1:=d.at 1 rfl;have q0:=d.frozen 0;have q1:=d.frozen 1;have P:=(d.set 0 (.int .i64 0)).set 1 (.slice none 0 0);have g0:=P.at 0 rfl;have g1:=P.at 1 rfl;have i:=aa (aj (off:=1) (u:=.slice none 0 0) (b:=w.heap.size+1) (aj (off:=0) (u:=.int .i64 0) (b:=w.heap.size+1) q (by omega)) (by omega));clear P d0 d1 d2 d3 d4 d5 e1 I WC ak N;by_cases hw:wb=true
 ·subst hw;by_cases hq:k+1<nr
  ·obtain⟨aM,aN,aR,aT,aW,aU,aS,aV,z2,f2,O⟩:=aw.out hq;obtain⟨U,OE⟩:=ae ((aL R (k+1)).1);rw[<-OE] at O;have d0:=O 0 (by decide);simp only[Nat.add_zero,List.getElem?_cons_zero] at d0;have d0:=Gr.cell q d0;have ao:=aa OE;clear O OE;have zq:((k:Int)+1==(nr:Int))=false:=beq_eq_false_iff_ne.2 (by omega);by_cases hh:U=c
   ·have zh:((U:Int)==(c:Int))=true:=by simp;omega
    have a:r=some (k+1,List.replicate (aL R (k+1)).2.length 0):=by rw[rE.out];exact if_pos ⟨rfl,hq,by rw[<-ao.out];exact hh⟩
    have Qw:=aa a;clear a g0 g1 i;have al:=aa (AT.out w4 q hq);have aX:=M.mono Yt |>.at 0 rfl;obtain⟨j,hj⟩:∃j:Nat,j=k+1:=⟨_,rfl⟩;rw[<-hj] at al Qw;clear hh hj;refine ay [3,4,5,6,7,8,9,10,11,12,13,14,15,16,17,18,19,20,21,22,23,24,25,26,27,28] 0 ?_;refine bC ?_
    iterate 26 (refine aZ rfl ?_)
    refine bD ?_
    iterate 26 (go_big_quiet_step (rfl))
    refine az ?_;refine aJ [] ?_;refine tail_nil ?_;clear f0 f1 q0 q1;go_wp2_with fail;refine al.out.mono ?_;rintro e w5⟨v5,rfl,H,ab⟩;obtain⟨aQ,rfl,an⟩:=id H;obtain⟨a5,c5,rfl,_,_⟩:=bG.out an.any;obtain⟨n5,ac⟩:=ae ((bO (List.replicate (aL R j).2.length 0)).length);rw[<-ac] at H⊢;have d:=d.mono ab;have f0:=d.at 0 rfl;have f1:=d.at 1 rfl;have q0:=d.frozen 0;have q1:=d.frozen 1;have P:=(d.set 0 (.int .i64 (j:Int))).set 1 (.slice a5 n5 c5);have g0:=P.at 0 rfl;have g1:=P.at 1 rfl;have rX:=q.trans (ab.mono aH);have av:=aj (off:=1) (u:=.slice a5 n5 c5) (b:=w.heap.size+1) (aj (off:=0) (u:=.int .i64 (j:Int)) (b:=w.heap.size+1) rX (by omega)) (by omega);have ax:=aa ((H.OC (bJ.put (o:=0) d (.int .i64 (j:Int))) (by decide)).OC (bJ.put (o:=1) (d.set 0 (.int .i64 (j:Int))) (.slice a5 n5 c5)) (by decide));clear P an ac H;go_wp2_with fail;refine bodyPost_ret (v:=.tuple #[.agg #[.int .i64 (j:Int),.slice a5 n5 c5],.bool true]) (by simp[results,results68,go_sem,g0,g1]) rfl ⟨?_,av⟩;rw[Qw.out];refine⟨_,rfl,?_⟩;have:=ax.out;unfold AA;simpa [nz] using this
   have zh:((U:Int)==(c:Int))=false:=beq_eq_false_iff_ne.2 (by omega);have a:r=none:=by rw[rE.out];exact if_neg λe=>hh (by rw[ao.out];exact e.2.2)
   clear hh;refine ay [3,4,5,6,7,8,9,10,11,12,13,14,15,16,17,18,19,20,21,22,23,24,25,26,27,28] 0 ?_;refine bC ?_
   iterate 26 (refine aZ rfl ?_)
   refine bD ?_
   iterate 26 (go_big_quiet_step (rfl))
   refine az ?_;refine aJ [] ?_;refine tail_nil ?_;go_wp2_with fail;exact bodyPost_ret (v:=.tuple #[.agg #[.int .i64 0,.slice none 0 0],.bool false]) (by simp[results,results68,go_sem,g0,g1]) rfl ⟨by first|rfl|(rw[a];rfl),i.out⟩
  have a:r=none:=by rw[rE.out];exact if_neg λe=>hq e.2.1
  have zq:((k:Int)+1==(nr:Int))=true:=by simp;omega
  refine ay [3,4,5,6,7,8,9,10,11,12,13,14,15,16,17,18,19,20,21,22,23,24,25,26,27,28] 0 ?_;refine bC ?_
  iterate 26 (refine aZ rfl ?_)
  refine bD ?_
  iterate 26 (go_big_quiet_step (rfl))
  refine az ?_;refine aJ [] ?_;refine tail_nil ?_;go_wp2_with fail;exact bodyPost_ret (v:=.tuple #[.agg #[.int .i64 0,.slice none 0 0],.bool false]) (by simp[results,results68,go_sem,g0,g1]) rfl ⟨by first|rfl|(rw[a];rfl),i.out⟩
 have au:wb=false:=by simpa using hw
 have a:r=none:=by rw[rE.out];exact if_neg λe=>hw e.1
 clear hw;subst au;refine ay [3,4,5,6,7,8,9,10,11,12,13,14,15,16,17,18,19,20,21,22,23,24,25,26,27,28] 0 ?_;refine bC ?_
 iterate 26 (refine aZ rfl ?_)
 refine bD ?_
 iterate 26 (go_big_quiet_step (rfl))
 refine az ?_;refine aJ [] ?_;refine tail_nil ?_;go_wp2_with fail;exact bodyPost_ret (v:=.tuple #[.agg #[.int .i64 0,.slice none 0 0],.bool false]) (by simp[results,results68,go_sem,g0,g1]) rfl ⟨by first|rfl|(rw[a];rfl),i.out⟩
def OG (hD:cK w dp T X) (hV:aY T X) (h:dP w B p dp (ai T) l) (hl:l.length<9000) (hs:AA w v s) (ho:eQ (bq (ai T) l) s) (c:Nat) (hc:c<1114112) (h0:ai T c≠0) :
 Calls prog 68 #[.pointer (some ⟨p,0,none⟩),v,.int .i32 c] w λe w'=>FY e w' (iy (ai T) (bq (ai T) l) s c)/\Below w.heap.size w w':=by
 obtain⟨k,ms⟩:=s;have hF:=fD (ai T) l;obtain⟨g,rc,iT,bo,Es,hR⟩:=h.read;obtain⟨sv,rfl,P⟩:=id hs;obtain⟨sa,sc,rfl,_,hx⟩:=bG.out P.any;obtain⟨m,hm⟩:=ae ((bO (nz ms)).length);dsimp only at hs P⊢;have a6:m=ms.length:=by rw[hm];simp[bO]
 rw[<-hm] at hs P⊢;have ax:=dH (w:=w) (.cells #[.int .i64 (k:Nat),.slice sa m sc] 54) (.cells #[.int .i64 0,.slice none 0 0] 54);have RU:=aa (rD (h.mono ax) hl (hs.mono ax) ho);have x:=hF.2.2 _ (show aL (bq (ai T) l) k∈bq (ai T) l by rw[df ho.lt];exact List.getElem_mem _);have CL:=aa (λ(W:World) (E:Below w.heap.size w W)=>iM (hD.mono E) hV c hc);have CN:=aa (λ(W:World) (E:Below w.heap.size w W)=>FM (P.any.mono E) (by have h1:ms.length=(aL (bq (ai T) l) k).2.length:=ho.len;have h2:=x.1;rw[jF];omega));have D:iy (ai T) (bq (ai T) l) (k,ms) c=((List.range (aL (bq (ai T) l) k).2.length).find? (ed (ai T c) c ms (aL (bq (ai T) l) k).2)).map λi=>(k,ms.set i (ms.getD i 0+1)):=by unfold iy;rw[if_neg h0]
 rw[D];dsimp only at RU;have au:∀c,ai T c<1000000:=λc=>by
  unfold ai;cases e:rowOf T c with
  | none=>decide
  | some r=>
    have:=(hV.fine r (gy e).1).2.1;show r.cls<1000000;omega
 have au:=au c;obtain⟨Q,aR⟩:=ae (ai T c);obtain⟨R,a8⟩:=ae (bq (ai T) l);simp only[<-a8,<-aR] at hF hR RU ho CL h0 x au⊢;obtain⟨L,J⟩:=ae ((aL R k).2);have kz:ms.length=L.length:=by rw[J];exact ho.len
 have aP:∀i (a:i<ms.length) (b:i<L.length),ms[i]<=L[i].2.length:=by subst J;exact ho.le
 rw[<-J] at x⊢;have rE:∃ac:Option eZ,ac=((List.range L.length).find? (ed Q c ms L)).map λi=>(k,ms.set i (ms.getD i 0+1)):=⟨_,rfl⟩;obtain⟨ac,Z⟩:=rE;rw[<-Z];have rE:=aa Z;have HX:=aa hx;have Q_:=aa aP;have ER:=aa kz;have D9:=aa a6;have be:=aa J;have a_:=aa x;have bn:=hR.is;have zc:((Q:Int)==0)=false:=beq_eq_false_iff_ne.2 (by omega);have bv:m<10000:=by have:=x.1;omega
 clear h hR P hs hm hF x a8 ho D hD Z hx aP kz a6 J aR;go_enter func68,ntmps68;go_wp2_with fail;refine RU.out.mono ?_;rintro e w1⟨rv,rfl,hW,am⟩;obtain⟨la,lc,x1,m1,y1,x2,m2,y2,z,f,rfl,hL,bi⟩:=id hW;clear bi hW;rw[<-be.out] at hL⊢;obtain⟨n,hn⟩:=ae L.length;obtain⟨hd,a4⟩:=ae ((aL R k).1);obtain⟨bu,SX,e9,aX⟩:=hL;injection e9 with e8 _ e7;subst e8 e7;rw[<-hn,<-a4];have HN:=aa hn;have bb:=aa aX;have bk:=af ax am;have Z_:w.heap.size+2<=w1.heap.size:=by have:=am.size;simpa using this
 have k0:Is w1 w.heap.size #[.int .i64 (k:Nat),.slice sa m sc] 54:=((Is.new w _ _).mono (ah _)).mono am;have k1:Is w1 (w.heap.size+1) #[.int .i64 0,.slice none 0 0] 54:=(Is.new' _ _ _ _ (by simp)).mono am;obtain⟨w2,M⟩:=ae (w1.alloc (.cells #[.int .i32 hd,.slice la n lc,.slice x1 m1 y1,.slice x2 m2 y2,.int .i64 z,.int .i64 f] eX));have ad:=aO M;have k2:=Is.nw M;have ao:=af bk ad;have k0:=k0.mono ad;have k1:=k1.mono ad;have aS:=aa (CL.out w2 ao);have p0:=(bn.mono ao).at 0 rfl;rw[M] at p0;clear hn a4 RU CL aX;go_wp2_with fail;rw[<-M];clear M p0;refine aS.out.mono ?_;rintro e w3⟨rfl,U⟩;have bj:=ao.size;have aJ:=ao.trans (U.mono bj);have k0:=k0.mono U;have k1:=k1.mono U;have k2:=k2.mono U;have a7:=aJ.size;have bm:=af ad U;have d1:=k2.at 1 rfl;clear aS;go_wp2_with fail;go_loopw [11,12,13,70] (λ_ _ _ iv wr=>∃i:Nat,i<=n/\iv=.int .i64 i/\(∀j,j<i->ed Q c ms L j=false)/\Below w3.heap.size w3 wr) (λ_ _ _ iv _=>n-(intOf iv).toNat)
 case atStart=>exact⟨0,Nat.zero_le _,rfl,λj hj=>absurd hj (by omega),Below.refl _ _⟩
 case round=>
  obtain⟨i,hi,rfl,ab,N⟩:=hrel;have jP:=aJ.trans (N.mono a7);have ak:=af bm N;by_cases bx:i<n
  ·have zi:=eG (show i<n by omega);have Wq:i<L.length:=by have:=HN.out;omega
   have LA:i<ms.length:=by have:=ER.out;omega
   have bw:i<m:=by have:=D9.out;omega
   have Zc:i<(bO (nz ms)).length:=by simp[bO];exact LA
   obtain⟨b,off,rfl,_,c0⟩:=HX.out i Zc;obtain⟨lg,va,vc,rfl,l0,l1,A⟩:=bb.out i Wq;rw[show(bO (nz ms))[i]=.int .i64 ((ms[i]:Nat):Int) by simp[bO,nz]] at c0;obtain⟨F,vL⟩:=ae (ms[i]);obtain⟨t,S⟩:=ae (L[i].1);obtain⟨ln,an⟩:=ae (L[i].2);have Ct:ed Q c ms L i=(decide (t=Q)&&decide (F<ln.length)&&decide (ln.getD F 0=c)):=by
    unfold ed;rw[vL,S,an,List.getD_eq_getElem?_getD (l:=L),List.getElem?_eq_getElem Wq,List.getD_eq_getElem?_getD (l:=ms),List.getElem?_eq_getElem LA];rfl
   have aN:ln.length<10000:=by rw[an];have:=(a_.out.2 _ (List.getElem_mem Wq));omega
   rw[<-vL] at c0;rw[<-S] at l0;rw[<-an] at l1 A;obtain⟨xl,aD⟩:=ae ln.length;rw[<-aD] at l1 A Ct aN;have c0:=aB jP c0;have l1:=aB ak l1;have l0:=aB ak l0;have A:=A.mono ak;have aQ:=k0.mono N;have e1:=aQ.at 1 rfl;have Ur:=aa ab;have al:=aa Ct;have Zo:=aa vL;have VD:=aa aD;have y:=ah (w:=wr) (.cells #[.int .i64 (t:Nat),.slice va xl vc] 95);have i0:=Is.new wr #[.int .i64 (t:Nat),.slice va xl vc] 95;have n0:=i0.at 0 rfl;have n1:=i0.at 1 rfl;have Vh:=aB y e1;have bl:=aB y c0;have I:ed Q c ms L i=false->∀j,j<i+1->ed Q c ms L j=false:=λhf j hj=>by
    rcases Nat.lt_succ_iff_lt_or_eq.1 hj with h1|rfl
    ·exact Ur.out j h1
    exact hf
   have av:=aa I;clear ab Ct vL aD S an aQ I;by_cases aW:t=Q
   ·subst aW;have z1:((t:Int)==(t:Int))=true:=by simp
    by_cases aw:F<xl
    ·have z2:=eG (show F<xl by omega);obtain⟨q,hq⟩:=ae (ln.getD F 0);have Wt:F<ln.length:=by have:=VD.out;omega
     obtain⟨ya,yc,he,_,hy⟩:=Go.Proofs.YtmnimbnojdndmaaGreatDoor.bG.Hl A VD.out;injection he with he _ a9;subst he a9;obtain⟨yb,yo,rfl,_,y0⟩:=hy F Wt;rw[show ln[F]=q by rw[hq,List.getD_eq_getElem?_getD,List.getElem?_eq_getElem Wt];rfl] at y0;have bp:=aB y y0;have HQ:=aa hq;clear hy hq A;by_cases aZ:q=c
     ·have z3:((q:Int)==(c:Int))=true:=by simp;omega
      have aT:Below wr.heap.size wr (wr.alloc (.cells #[.int .i64 (t:Nat),.slice (some ⟨yb,yo,none⟩) xl vc] 95)):=y;have H:ed t c ms L i=true:=by rw[al.out,<-HQ.out,aZ,decide_eq_true rfl,decide_eq_true aw,decide_eq_true rfl];rfl
      have D:ac=some (k,ms.set i (F+1)):=by
       rw[rE.out];rw[show(List.range L.length).find? (ed t c ms L)=some i from List.find?_range_eq_some.2 ⟨H,List.mem_range.2 Wq,λj hj=>by rw[Ur.out j hj];rfl⟩];rw[Option.map_some,List.getD_eq_getElem?_getD,List.getElem?_eq_getElem LA,Zo.out];rfl
      have Qw:=aa D;clear D H;go_wp2_with fail;generalize wr.alloc (.cells #[.int .i64 (t:Nat),.slice (some ⟨yb,yo,none⟩) xl vc] 95)=wl at *;have bs:F<10000:=by omega
      have ap:=af N aT;have fT:=aJ.trans (ap.mono a7);have A:=fT.size;have aE:=k0.mono ap;have a5:=k1.mono ap;have e0:=aE.gd 0 rfl;have bf:=aE.gd 1 rfl;clear e1 Vh c0 bl l0 l1 n0 n1 i0 y0 bp y z1 z2 z3 aw;refine aC #[true,true,true,true,true,true,true,false] 7 1 mixed ?_;refine ay [0,1,2,3] 3 ?_
      iterate 4 (refine aA rfl ?_;go_big_quiet_step (rfl))
      refine az ?_;refine Oe [6] (λ_ v W=>∃k,v=.pointer (some ⟨k,0,none⟩)/\W.heap[k]? = some (.cells #[.int .i64 0,.slice none 0 0] 54)) rq 2 rfl (by kernel_rfl) (λ_ _ _ _ hb h=>wV hb h) ?_ ?_
      ·intro i hi o ho;simp only[List.mem_cons,List.not_mem_nil,or_false] at hi;subst hi;cases ho;exact wU rfl rfl (λW=>by go_simp)
      refine pI 4 ?_;intro wa RJ;have aq:=fT.trans (((ag wl).trans RJ).mono A);have bh:=aq.size;go_wp2_with fail;refine(CN.out wa aq).mono ?_;rintro e wc⟨r,rfl,oc,V⟩;rw[jF,<-D9.out] at oc;obtain⟨cb,cc,rfl,_,bt,_,_,_⟩:=dz oc (show 0<m by omega);have Ql:=aq.trans (V.mono bh);go_wp2_with fail;refine aF V ?_;refine oC [5] 0 ?_;refine aA rfl ?_;go_big_quiet_step (rfl);refine az ?_;refine rf [7] ?_;intro W Wb us hR hD;obtain⟨⟨Y,hv,hh⟩,hN,ar⟩:=hR 6 (by simp);rw[hv] at hN ar;simp only[rq] at hN ar;rw[ru (d:=some 14) rfl,hv];have hY:wl.heap.size<=Y:=hN;have bd:=af Ql Wb;have a3:Below wl.heap.size wl W:=((ag wl).trans RJ).trans ((V.trans (Wb.mono V.size)).mono (show wl.heap.size<=wa.heap.size from RJ.size));have oW:=aH oc Wb;have a2:=a5.mono a3;have G:Is W Y #[.int .i64 0,.slice none 0 0] 54:=⟨hh⟩;have a0:=G.at 0 rfl;have a1:=G.at 1 rfl;have b0:=G.frozen 0;have b1:=G.frozen 1;have ch:=(bJ.put (o:=0) G (.int .i64 (k:Nat))).trans (bJ.put (o:=1) (G.set 0 (.int .i64 (k:Nat))) (.slice (some ⟨cb,0,none⟩) m cc));have aV:=(G.set 0 (.int .i64 (k:Nat))).set 1 (.slice (some ⟨cb,0,none⟩) m cc);have oY:=ch.own oW (by decide);have br:w.heap.size+2<=Y:=by have:=ak.size;have:=aT.size;omega
      have O:=(a2.put (show w.heap.size+1≠Y by omega) (o:=0) (.int .i64 (k:Nat))).put (show w.heap.size+1≠Y by omega) (o:=1) (.slice (some ⟨cb,0,none⟩) m cc);have ba:=aj (off:=1) (u:=.slice (some ⟨cb,0,none⟩) m cc) (b:=Y) (aj (off:=0) (u:=.int .i64 (k:Nat)) (b:=Y) bd (by omega)) (by omega);have OY:=aa oY;have bg:=aa aV;have bc:=aa O;clear G aV oY O ch oW a2 hR hD e0 bf hv hh hN ar aE a5 oc RJ V a3 Wb;refine uO (os:=[_]) rfl ?_;go_wp2_with fail;refine uP ?_;clear a0 a1 b0 b1;generalize (W.setCell ⟨Y,0,none⟩ (.int .i64 (k:Nat))).setCell ⟨Y,1,none⟩ (.slice (some ⟨cb,0,none⟩) m cc)=w6 at *;have G:=bg.out;have oY:=OY.out;have O:=bc.out;have y1:=G.at 1 rfl;obtain⟨cm,fm⟩:=jY oY (j:=i) Zc;rw[show(bO (nz ms))[i]=.int .i64 ((ms[i]:Nat):Int) by simp[bO,nz],<-Zo.out] at cm;obtain⟨o7,aM⟩:=oY.stored i (.int .i64 ((F:Int)+1));have aI:=bJ.bQ oY aM;have aK:=aI.is G (by decide);have C:=aI.is O (by decide);have u0:=aK.at 0 rfl;have u1:=aK.at 1 rfl;have f0:=C.at 0 rfl;have f1:=C.at 1 rfl;have q0:=C.frozen 0;have q1:=C.frozen 1;have v0:=(C.set 0 (.int .i64 (k:Nat))).set 1 (.slice (some ⟨cb,0,none⟩) m cc);have g0:=v0.at 0 rfl;have g1:=v0.at 1 rfl;have o9:=aa (((bJ.put (o:=0) C (.int .i64 (k:Nat))).trans (bJ.put (o:=1) (C.set 0 (.int .i64 (k:Nat))) (.slice (some ⟨cb,0,none⟩) m cc))).own o7 (by decide));have K:=aa (aj (off:=1) (u:=.slice (some ⟨cb,0,none⟩) m cc) (b:=w.heap.size+1) (aj (off:=0) (u:=.int .i64 (k:Nat)) (b:=w.heap.size+1) (aj (off:=i) (u:=.int .i64 ((F:Int)+1)) (b:=cb) ba (by omega)) (by omega)) (by omega));clear G oY O o7 aM aI aK C v0;go_wp2_with fail;refine bodyPost_ret (v:=.tuple #[.agg #[.int .i64 (k:Nat),.slice (some ⟨cb,0,none⟩) m cc],.bool true]) (by simp[results,results68,go_sem,g0,g1]) rfl ⟨?_,K.out⟩;rw[Qw.out];refine⟨_,rfl,_,rfl,?_⟩;have h9:=Sl.aU o9.out;rw[show(bO (nz ms)).set i (.int .i64 ((F:Int)+1))=bO (nz (ms.set i (F+1))) by simp[bO,nz,List.map_set]] at h9;exact h9
     have z3:((q:Int)==(c:Int))=false:=beq_eq_false_iff_ne.2 (by omega);have hf:ed t c ms L i=false:=by rw[al.out,<-HQ.out,decide_eq_false aZ,Bool.and_false]
     have HF:=aa (av.out hf);clear hf;go_wp2_with fail;go_roundw
     case rel=>exact⟨i+1,by omega,by simp,HF.out,N.trans (y.mono N.size)⟩
     case measure=>simp[intOf];omega
    have z2:=gI (show xl<=F by omega);have hf:ed t c ms L i=false:=by rw[al.out,decide_eq_false aw,Bool.and_false,Bool.false_and]
    have HF:=aa (av.out hf);clear hf;go_wp2_with fail;go_roundw
    case rel=>exact⟨i+1,by omega,by simp,HF.out,N.trans (y.mono N.size)⟩
    case measure=>simp[intOf];omega
   have z1:((t:Int)==(Q:Int))=false:=beq_eq_false_iff_ne.2 (by omega);have hf:ed Q c ms L i=false:=by rw[al.out,decide_eq_false aW,Bool.false_and,Bool.false_and]
   have HF:=aa (av.out hf);clear hf;go_wp2_with fail;go_roundw
   case rel=>exact⟨i+1,by omega,by simp,HF.out,N.trans (y.mono N.size)⟩
   case measure=>simp[intOf];omega
  have zi:=gI (show n<=i by omega);obtain rfl:i=n:=by omega
  have D:ac=none:=by
   rw[rE.out];rw[show(List.range L.length).find? (ed Q c ms L)=none from List.find?_range_eq_none.2 λj hj=>by rw[ab j (by rw[HN.out];exact hj)];rfl];rfl
  have k5:=k1.mono N;have f0:=k5.at 0 rfl;have f1:=k5.at 1 rfl;have q0:=k5.frozen 0;have q1:=k5.frozen 1;have v0:=(k5.set 0 (.int .i64 0)).set 1 (.slice none 0 0);have g0:=v0.at 0 rfl;have g1:=v0.at 1 rfl;have K:=aa (aj (off:=1) (u:=.slice none 0 0) (b:=w.heap.size+1) (aj (off:=0) (u:=.int .i64 0) (b:=w.heap.size+1) jP (by omega)) (by omega));clear v0 k5 ab;go_wp2_with fail;exact bodyPost_ret (v:=.tuple #[.agg #[.int .i64 0,.slice none 0 0],.bool false]) (by simp[results,results68,go_sem,g0,g1]) rfl ⟨by first|rfl|(rw[D];rfl),K.out⟩
def Td (f:cK w i T X) (d:aY T X) (h:dP w B p i (ai T) l) (j:l.length<9000) (b:AA w v s) (a:eQ (bq (ai T) l) s) (c:Nat) (g:c<1114112) :
 Calls prog 68 #[.pointer (some ⟨p,0,none⟩),v,.int .i32 c] w λe w'=>FY e w' (iy (ai T) (bq (ai T) l) s c)/\Below w.heap.size w w':=by
 by_cases h0:ai T c=0
 ·exact OD f d h j b a c g h0
 exact OG f d h j b a c g h0
def OH {α β:Type} {f:α->β->Option α} {l:List β} (c:i<l.length) {a b:α} (h:(l.take i).foldlM f a=some b):(l.take (i+1)).foldlM f a=f b l[i]:=by
 rw[List.take_succ_eq_append_getElem c,List.foldlM_append,h];show [l[i]].foldlM f b=_;rw[List.foldlM_cons];cases f b l[i] <;> rfl
def OI {α β:Type} {f:α->β->Option α} {l:List β} {a:α} (h:(l.take i).foldlM f a=none):l.foldlM f a=none:=by
 conv=>lhs;rw[<-List.take_append_drop i l,List.foldlM_append,h]
 rfl
def FZ (hD:cK w dp T X) (hV:aY T X) (zT:T.length<1000) (h:dP w B p dp (ai T) l) (hl:l.length<9000) (hs:AA w v s) (ho:eQ (bq (ai T) l) s) (c:Nat) (hc:aP c) :
 Calls prog 31 #[.pointer (some ⟨p,0,none⟩),v,.int .i32 c] w λe w'=>FY e w' (fw (ai T) (aD T) (bq (ai T) l) s c)/\Below w.heap.size w w':=by
 obtain⟨g,rc,iT,aQ,Es,hR⟩:=h.read;obtain⟨sv,rfl,U⟩:=id hs;obtain⟨sa,V,rfl,_,hx⟩:=bG.out U.any;obtain⟨m,hm⟩:=ae ((bO (nz s.2)).length);rw[<-hm] at hs U⊢;have G:=dH (w:=w) (.cells #[.int .i64 (s.1:Nat),.slice sa m V] 54) (.cells #[.int .i64 0,.slice none 0 0] 54);have FU:=aa (pG (hD.mono G) hV zT c hc.1);have Z:∀y∈aD T c,y<1114112:=λy P=>(ow hV hc P).1;have ac:=il hV c;have TK:=aa (λ(W:World) (E:Below w.heap.size w W) (u:Value) (d:eZ) (hu:AA W u d) (z:eQ (bq (ai T) l) d) (y:Nat) (P:y<1114112)=>Td (hD.mono E) hV (h.mono E) hl hu z y P);have L:∀(d s2:eZ) (y:Nat),eQ (bq (ai T) l) d->iy (ai T) (bq (ai T) l) d y=some s2->eQ (bq (ai T) l) s2:=λd s2 y h1 h2=>wY h1 h2;have ap:fw (ai T) (aD T) (bq (ai T) l) s c=(aD T c).foldlM (iy (ai T) (bq (ai T) l)) s:=rfl;rw[ap];obtain⟨tk,am⟩:=ae (iy (ai T) (bq (ai T) l));obtain⟨F,hF⟩:=ae (aD T c);obtain⟨R,aw⟩:=ae (bq (ai T) l);simp only[<-am] at TK L⊢;simp only[<-hF,<-aw] at FU Z ac TK L ho hR⊢;obtain⟨ag,I⟩:=ae (F.foldlM tk s);rw[<-I];have rE:=aa I;have aA:=aa Z;have Yp:=aa L;have aO:=hR.is;have p0:=(aO.mono G).at 0 rfl;have Ym:AA (( w.alloc (.cells #[.int .i64 (s.1:Nat),.slice sa m V] 54)).alloc (.cells #[.int .i64 0,.slice none 0 0] 54)) (.agg #[.int .i64 (s.1:Nat),.slice sa m V]) s:=hs.mono G;have Ym:=aa Ym;have HO:=aa ho;clear h hR U hs hm aw am hF ap I Z L hx hD ho;obtain⟨k,hk⟩:=ae s.1;rw[<-hk] at Ym G FU p0⊢;have HK:=aa hk;clear hk;go_enter func31,ntmps31;go_wp2_with fail;refine FU.out.mono ?_;rintro e w1⟨r1,rfl,o1,O⟩;have aL:=af G O;obtain⟨n,hn⟩:=ae F.length;have an:=(Sl.aU o1).any;obtain⟨a1,c1,rfl,_,P⟩:=Go.Proofs.YtmnimbnojdndmaaGreatDoor.bG.Hl an hn;have k0:Is w1 w.heap.size #[.int .i64 (k:Nat),.slice sa m V] 54:=((Is.new w _ _).mono (ah _)).mono O;have k1:Is w1 (w.heap.size+1) #[.int .i64 0,.slice none 0 0] 54:=(Is.new' _ _ _ _ (by simp)).mono O;have aI:=Ym.out.mono O;have:n<=32:=by rw[hn];exact ac
 have HN:=aa hn;have O1:=aa o1;have:w.heap.size+2<=((w.alloc (.cells #[.int .i64 (k:Nat),.slice sa m V] 54)).alloc (.cells #[.int .i64 0,.slice none 0 0] 54)).heap.size:=by simp
 generalize ((w.alloc (.cells #[.int .i64 (k:Nat),.slice sa m V] 54)).alloc (.cells #[.int .i64 0,.slice none 0 0] 54))=w0 at *;clear o1 an P Ym p0 ac;go_wp2_with fail
 go_loopw [8,10,18] (λaE _ iv wr=>∃i:Nat,i<=n/\iv=.int .i64 i/\aE=.bool true/\(∃(d:eZ) (a:Option Addr) (m c:Nat),(F.take i).foldlM tk s=some d/\eQ R d/\Is wr w.heap.size #[.int .i64 (d.1:Nat),.slice a m c] 54/\AA wr (.agg #[.int .i64 (d.1:Nat),.slice a m c]) d)/\
  Is wr (w.heap.size+1) #[.int .i64 0,.slice none 0 0] 54/\wr.ownsRow w0.heap.size aN 1 (.slice a1 n c1) n (aM F)/\Below w.heap.size w wr) (λ_ _ iv _=>n-(intOf iv).toNat)
 case atStart=>exact⟨0,Nat.zero_le _,rfl,rfl,⟨s,sa,m,V,rfl,HO.out,HK.out▸k0,HK.out▸aI⟩,k1,HN.out▸O1.out,aL⟩
 case round=>
  obtain⟨i,hi,rfl,rfl,⟨d,a,m',c',hf,z,Q,hS⟩,J,x,hE⟩:=hrel;have aB:=hE.size;by_cases aV:i<n
  ·have zi:=eG (show i<n by omega);obtain⟨rb,Vd,he,_,_,_,_,t⟩:=dz x (show 0<n by omega);injection he with aC _ aK;subst aC aK;have K:i<F.length:=by have:=HN.out;omega
   have cy:=t i (.int .i32 (F[i]:Nat)) (by rw[List.getElem?_eq_getElem (by rw[bF];exact K),dR _ _ K]);have ao:=aA.out _ (List.getElem_mem K);have S:=OH K hf;obtain⟨y,P⟩:=ae (F[i]);rw[<-P] at cy ao S;have TC:=aa (TK.out wr hE _ d hS z y ao);have e0:=Q.at 0 rfl;have e1:=Q.at 1 rfl;have ak:=aa S;have DT:=aa x;have ax:=aa z;obtain⟨sk,al⟩:=ae d.1;rw[<-al] at e0 TC Q;clear S t hf P hS x z al;go_wp2_with fail;refine TC.out.mono ?_;rintro e w2⟨f,M⟩;have ad:=hE.trans (M.mono aB);have q:=Q.mono M;have ab:=J.mono M;have:=q.at 0 rfl;have:=q.at 1 rfl;have:=q.frozen 0;have:=q.frozen 1;have H:=aH DT.out M;cases r:tk d y with
   | none=>
     rw[r] at f;obtain rfl:e=_:=f;have D:ag=none:=by rw[rE.out];exact OI (i:=i+1) (by rw[ak.out,r])
     have j:=(ab.put (show w.heap.size+1≠w.heap.size by omega) (o:=0) (.int .i64 0)).put (show w.heap.size+1≠w.heap.size by omega) (o:=1) (.slice none 0 0);have f0:=j.at 0 rfl;have f1:=j.at 1 rfl;have q0:=j.frozen 0;have q1:=j.frozen 1;have Y:=(j.set 0 (.int .i64 0)).set 1 (.slice none 0 0);have g0:=Y.at 0 rfl;have g1:=Y.at 1 rfl;have C:=aa (aj (off:=1) (u:=.slice none 0 0) (b:=w.heap.size+1) (aj (off:=0) (u:=.int .i64 0) (b:=w.heap.size+1) (aj (off:=1) (u:=.slice none 0 0) (b:=w.heap.size) (aj (off:=0) (u:=.int .i64 0) (b:=w.heap.size) ad (by omega)) (by omega)) (by omega)) (by omega));have Qw:=aa D;clear D Y j r;go_wp2_with fail;refine bodyPost_ret (v:=.tuple #[.agg #[.int .i64 0,.slice none 0 0],.bool false]) (by simp[results,results31,go_sem,g0,g1]) rfl ⟨?_,C.out⟩;rw[Qw.out];rfl
   | some s2=>
     rw[r] at f;obtain⟨v2,rfl,N⟩:=f;obtain⟨aR,rfl,aq⟩:=id N;obtain⟨a2,c2,rfl,_,_⟩:=bG.out aq.any;obtain⟨m2,au⟩:=ae ((bO (nz s2.2)).length);rw[<-au] at N⊢;have ch:=(bJ.put (o:=0) q (.int .i64 (s2.1:Nat))).trans (bJ.put (o:=1) (q.set 0 (.int .i64 (s2.1:Nat))) (.slice a2 m2 c2));have ar:=(q.set 0 (.int .i64 (s2.1:Nat))).set 1 (.slice a2 m2 c2);have j:=(ab.put (show w.heap.size+1≠w.heap.size by omega) (o:=0) (.int .i64 (s2.1:Nat))).put (show w.heap.size+1≠w.heap.size by omega) (o:=1) (.slice a2 m2 c2);have A:=ch.own H (by decide);have av:=Qu.OC N ch (by decide);have lH:=aj (off:=1) (u:=.slice a2 m2 c2) (b:=w.heap.size) (aj (off:=0) (u:=.int .i64 (s2.1:Nat)) (b:=w.heap.size) ad (by omega)) (by omega);have HJ:=aa ar;have aJ:=aa j;have az:=aa A;have aF:=aa av;have ay:=aa r;have Yi:=aa (Yp.out d s2 y ax.out r);clear aq au N ch ar j A av r Q J H q ab;go_wp2_with fail;go_roundw
     case rel=>exact⟨i+1,by omega,by simp,rfl,⟨s2,a2,m2,c2,by rw[ak.out,ay.out],Yi.out,HJ.out,aF.out⟩,aJ.out,az.out,lH⟩
     case measure=>simp[intOf];omega
  have zi:=gI (show n<=i by omega);obtain rfl:i=n:=by omega
  have D:ag=some d:=by rw[rE.out,<-hf,List.take_of_length_le (by rw[<-HN.out];exact Nat.le_refl _)]
  have e0:=Q.at 0 rfl;have e1:=Q.at 1 rfl;have f0:=J.at 0 rfl;have f1:=J.at 1 rfl;have q0:=J.frozen 0;have q1:=J.frozen 1;have Y:=(J.set 0 (.int .i64 (d.1:Nat))).set 1 (.slice a m' c');have g0:=Y.at 0 rfl;have g1:=Y.at 1 rfl;have ch:=(bJ.put (o:=0) J (.int .i64 (d.1:Nat))).trans (bJ.put (o:=1) (J.set 0 (.int .i64 (d.1:Nat))) (.slice a m' c'));have HS:=aa (Qu.OC hS ch (by decide));have C:=aa (aj (off:=1) (u:=.slice a m' c') (b:=w.heap.size+1) (aj (off:=0) (u:=.int .i64 (d.1:Nat)) (b:=w.heap.size+1) hE (by omega)) (by omega));have Qw:=aa D;clear D Y ch hS x hf z Q J;go_wp2_with fail;refine bodyPost_ret (v:=.tuple #[.agg #[.int .i64 (d.1:Nat),.slice a m' c'],.bool true]) (by simp[results,results31,go_sem,g0,g1]) rfl ⟨?_,C.out⟩;rw[Qw.out];exact⟨_,rfl,HS.out⟩
def OJ (h:dP w B p dp K l) (hl:l.length<9000) (hs:AA w v s) (ho:eQ (bq K l) s) :
 Calls prog 64 #[.pointer (some ⟨p,0,none⟩),v] w λe w'=>∃r,e=.returned r/\w'.ownsRow w.heap.size aN 1 r (ko (bq K l) s).length (aM (ko (bq K l) s))/\Below w.heap.size w w':=by
 obtain⟨k,ms⟩:=s;have hF:=fD K l;obtain⟨g,rc,iT,a2,Es,hR⟩:=h.read;obtain⟨sv,rfl,M⟩:=id hs;obtain⟨sa,sc,rfl,_,hx⟩:=bG.out M.any;obtain⟨m,hm⟩:=ae ((bO (nz ms)).length);dsimp only at hs M⊢;have aE:m=ms.length:=by rw[hm];simp[bO]
 rw[<-hm] at hs M⊢;have Z:=ah (w:=w) (.cells #[.int .i64 (k:Nat),.slice sa m sc] 54);have RU:=aa (rD (h.mono Z) hl (hs.mono Z) ho);have d:=hF.2.2 _ (show aL (bq K l) k∈bq K l by rw[df ho.lt];exact List.getElem_mem _);dsimp only at RU;obtain⟨R,am⟩:=ae (bq K l);have al:k+1<R.length->∃la lc x1 m1 y1 x2 m2 y2 z f,∀j<6,w.cell? ⟨g,(k+1)*6+j,none⟩=[Value.int .i32 (aL R (k+1)).1,.slice la (aL R (k+1)).2.length lc,.slice x1 m1 y1,.slice x2 m2 y2,.int .i64 z,.int .i64 f][j]?:=λhk=>by
  rw[am] at hk⊢;obtain⟨la,lc,x1,m1,y1,x2,m2,y2,z,f,hc,_⟩:=hR.at_ hk;exact⟨la,lc,x1,m1,y1,x2,m2,y2,z,f,hc⟩
 simp only[<-am] at hF hR RU ho d⊢;obtain⟨L,A⟩:=ae ((aL R k).2);have kz:ms.length=L.length:=by rw[A];exact ho.len
 rw[<-A] at d;obtain⟨nr,G⟩:=ae R.length;have a5:k<nr:=by rw[G];exact ho.lt
 have Z9:nr<10000:=by rw[G];have:=hF.2.1;omega
 have ai:=hR.is;simp only[<-G] at ai al;obtain⟨I,c⟩:=ae (ko R (k,ms));rw[<-c];have C:I=if gW ms L L.length=[] then (if k+1<nr then [(aL R (k+1)).1] else []) else gW ms L L.length:=by rw[c,G,A];rfl
 have rE:=aa C;have aV:=aa al;have HX:=aa hx;have ER:=aa kz;have D9:=aa aE;have aU:=aa A;have aQ:=aa d;have be:m<10000:=by have:=d.1;omega
 clear h hR M hs hm hF d am ho c C hx kz aE A G al;go_enter func64,ntmps64;go_wp2_with fail;refine RU.out.mono ?_;rintro e w1⟨rv,rfl,hW,ac⟩;obtain⟨la,lc,x1,m1,y1,x2,m2,y2,z,f,rfl,hL,aW⟩:=id hW;clear aW hW;rw[<-aU.out] at hL⊢;obtain⟨n,hn⟩:=ae L.length;obtain⟨hd,ax⟩:=ae ((aL R k).1);obtain⟨bd,SX,e9,aw⟩:=hL;injection e9 with e8 _ e7;subst e8 e7;rw[<-hn,<-ax];have HN:=aa hn;have aS:=aa aw;have rW:n<10000:=by have:=ER.out;have:=D9.out;omega
 have aX:=af Z ac;have Z_:w.heap.size+1<=w1.heap.size:=by have:=ac.size;simpa using this
 have k0:Is w1 w.heap.size #[.int .i64 (k:Nat),.slice sa m sc] 54:=(Is.new w _ _).mono ac;obtain⟨V,H⟩:=ae (w1.alloc (.cells #[.int .i32 hd,.slice la n lc,.slice x1 m1 y1,.slice x2 m2 y2,.int .i64 z,.int .i64 f] eX));have J:=aO H;have k2:=Is.nw H;have aj:=af aX J;have F:=aj.size;have k0:=k0.mono J;have d1:=k2.at 1 rfl;rw[H] at d1;clear hn ax RU aw;go_wp2_with fail;rw[<-H];clear d1;have aK:=J.size;go_loopw [7,8,9,10,22] (λo _ _ _ iv wr=>∃i:Nat,i<=n/\iv=.int .i64 i/\wr.ownsRow V.heap.size aN 1 o (gW ms L i).length (aM (gW ms L i))/\Below V.heap.size V wr) (λ_ _ _ _ iv _=>n-(intOf iv).toNat)
 case atStart=>exact⟨0,Nat.zero_le _,rfl,World.ownsRow_nil _ _ _ _,Below.refl _ _⟩
 case round=>
  obtain⟨i,hi,rfl,a,T⟩:=hrel;have jP:=aj.trans (T.mono F);have X:=J.trans (T.mono aK);by_cases bg:i<n
  ·have zi:=eG (show i<n by omega);have Wq:i<L.length:=by have:=HN.out;omega
   have LA:i<ms.length:=by have:=ER.out;omega
   have bf:i<m:=by have:=D9.out;omega
   have Zc:i<(bO (nz ms)).length:=by simp[bO];exact LA
   obtain⟨b,off,rfl,_,c0⟩:=HX.out i Zc;obtain⟨lg,va,vc,rfl,l0,l1,x⟩:=aS.out i Wq;rw[show(bO (nz ms))[i]=.int .i64 ((ms[i]:Nat):Int) by simp[bO,nz]] at c0;obtain⟨S,vL⟩:=ae (ms[i]);obtain⟨aG,U⟩:=ae (L[i].1);obtain⟨ln,Q⟩:=ae (L[i].2);have Ct:lZ ms L i=if S<ln.length then [ln.getD S 0] else []:=by
    unfold lZ;rw[vL,Q,List.getD_eq_getElem?_getD (l:=L),List.getElem?_eq_getElem Wq,List.getD_eq_getElem?_getD (l:=ms),List.getElem?_eq_getElem LA];rfl
   have an:ln.length<10000:=by rw[Q];have:=(aQ.out.2 _ (List.getElem_mem Wq));omega
   rw[<-vL] at c0;rw[<-U] at l0;rw[<-Q] at l1 x;obtain⟨xl,ab⟩:=ae ln.length;rw[<-ab] at l1 x Ct an;have u:=zS ms L i;have N:=uU ms L i;obtain⟨P,hP⟩:=ae (gW ms L i);rw[<-hP] at a u N;have c0:=aB jP c0;have l1:=aB X l1;have l0:=aB X l0;have x:=x.mono X;have aq:=k0.mono T;have e1:=aq.at 1 rfl;have ap:=aa Ct;have av:=aa u;have VD:=aa ab;have D:=ah (w:=wr) (.cells #[.int .i64 (aG:Nat),.slice va xl vc] 95);have i0:=Is.new wr #[.int .i64 (aG:Nat),.slice va xl vc] 95;have n0:=i0.at 0 rfl;have n1:=i0.at 1 rfl;have Vh:=aB D e1;have ba:=aB D c0;have d1:=aB T (k2.at 1 rfl);have E:=aH a D;have NV:=af T D;clear Ct vL ab U Q aq u hP;by_cases ar:S<xl
   ·have z2:=eG (show S<xl by omega);obtain⟨q,hq⟩:=ae (ln.getD S 0);have Wt:S<ln.length:=by have:=VD.out;omega
    obtain⟨ya,yc,he,_,hy⟩:=Go.Proofs.YtmnimbnojdndmaaGreatDoor.bG.Hl x VD.out;injection he with he _ aP;subst he aP;obtain⟨yb,yo,rfl,_,y0⟩:=hy S Wt;rw[show ln[S]=q by rw[hq,List.getD_eq_getElem?_getD,List.getElem?_eq_getElem Wt];rfl] at y0;have bh:=aB D y0;have y:lZ ms L i=[q]:=by rw[ap.out,if_pos ar,hq]
    have Y:=aa y;clear hy hq x y;go_wp2_with (at_builtin;refine gp rfl _ _ 35 rfl V.heap.size aN _ 4 bW _ P.length _ rfl E _ (by show Value.slice (some ⟨wr.heap.size+1,0,none⟩) 1 1=_;simp) rfl (by omega) (by unfold maxLen;omega) V NV (Nat.le_refl _) ?_;intro v' w6 o6 mF);go_roundw
    case rel=>
     refine⟨i+1,by omega,by simp,?_,mF⟩;rw[av.out,Y.out,List.length_append,a_];exact o6
    case measure=>simp[intOf];omega
   have z2:=gI (show xl<=S by omega);have y:lZ ms L i=[]:=by rw[ap.out,if_neg ar]
   have Y:=aa y;clear y;go_wp2_with fail;go_roundw
   case rel=>
    refine⟨i+1,by omega,by simp,?_,NV⟩;rw[av.out,Y.out,List.append_nil];exact E
   case measure=>simp[intOf];omega
  have zi:=gI (show n<=i by omega);obtain rfl:i=n:=by omega
  have N:=uU ms L i;have c:=rE.out;rw[<-HN.out] at c;obtain⟨P,hP⟩:=ae (gW ms L i);rw[<-hP] at a c N;obtain⟨oa,oc,rfl,_,_⟩:=ak a;obtain⟨np,Ux⟩:=ae P.length;rw[<-Ux] at a N⊢;have ad:=aa c;have Yj:=aa Ux;have Je:=jP.size;have pm:=Gr.cell (ag wr) ((ai.mono jP).at 1 rfl);have e0:=Gr.cell (ag wr) ((k0.mono T).at 0 rfl);clear c hP Ux;go_wp2_with fail;by_cases hp:np=0
  ·have zp:((np:Int)==0)=true:=by simp;omega
   have au:P=[]:=List.length_eq_zero_iff.1 (by rw[<-Yj.out];exact hp);have O:=aa au;clear au;by_cases hq:k+1<nr
   ·have zq:decide ((k:Int)+1<(nr:Int))=true:=decide_eq_true (by omega);obtain⟨a3,a4,a6,a8,bc,a9,a7,bb,z2,f2,W⟩:=aV.out hq;obtain⟨aY,OE⟩:=ae ((aL R (k+1)).1);rw[<-OE] at W;have d0:=W 0 (by decide);simp only[Nat.add_zero,List.getElem?_cons_zero] at d0;have a1:=aH a (ag wr);have Za:=af T (ag wr);have ao:=jP.trans ((ag wr).mono Je);have a0:=(k0.mono T).mono (ag wr);have t:I=[aY]:=by rw[ad.out,if_pos O.out,if_pos hq,OE]
    have Qw:=aa t;subst hp;clear W OE t;refine aC (Array.replicate 14 true) 14 0 mixed ?_;refine ay [0,1,2,3,4,5,6,7,8,9,10,11,12,13] 0 ?_;refine bC ?_
    iterate 14 (refine aZ rfl ?_)
    refine bD ?_
    iterate 14 (go_big_quiet_step (rfl))
    refine az ?_;refine aJ [] ?_;refine tail_nil ?_;go_wp2_with fail;have pm:=Gr.cell (ag wr.drew) ((ai.mono ao).at 1 rfl);have e0:=Gr.cell (ag wr.drew) (a0.at 0 rfl);have d0:=Gr.cell (ag wr.drew) (aB ao d0);have aR:=af Za (ag wr.drew);have aD:=aH a1 (ag wr.drew);rw[O.out] at aD;refine aC #[true,true,true,true,true,true,true,true,true,true,true,true,false,false] 12 2 mixed ?_;refine ay [0,1,2,3,4,5,6,7,8,9,10] 1 ?_
    iterate 11 (refine aA rfl ?_;go_big_quiet_step (rfl))
    refine az ?_;refine aI 11 ?_;go_wp2_with fail;refine aF (ah _) ?_;refine aJ [12,13] ?_;refine tail_cons rfl ?_;refine gp rfl _ _ 35 rfl V.heap.size aN _ 4 bW _ 0 _ rfl aD _ rfl rfl (by omega) (by unfold maxLen;omega) V aR (Nat.le_refl _) ?_;intro v' w6 o6 mF;refine tail_cons rfl ?_;go_wp2_with fail;refine tail_nil ?_;go_wp2;go_ret;rw[Qw.out];exact⟨_,rfl,aT o6 F,aj.trans (mF.mono F)⟩
   have zq:decide ((k:Int)+1<(nr:Int))=false:=decide_eq_false (by omega);have t:I=[]:=by rw[ad.out,if_pos O.out,if_neg hq]
   have Qw:=aa t;clear t;refine aC (Array.replicate 14 true) 14 0 mixed ?_;refine ay [0,1,2,3,4,5,6,7,8,9,10,11,12,13] 0 ?_;refine bC ?_
   iterate 14 (refine aZ rfl ?_)
   refine bD ?_
   iterate 14 (go_big_quiet_step (rfl))
   refine az ?_;refine aJ [] ?_;refine tail_nil ?_;go_wp2_with fail;go_ret;rw[Qw.out];refine⟨_,rfl,?_,jP.trans ((ag wr).mono Je)⟩;have:=aT (aH a (ag wr)) F;rw[O.out,hp] at this;subst hp;exact this
  have zp:((np:Int)==0)=false:=beq_eq_false_iff_ne.2 (by omega);have t:I=P:=by rw[ad.out,if_neg λe=>hp (by rw[Yj.out,e];rfl)]
  have Qw:=aa t;clear t;refine aC (Array.replicate 14 true) 14 0 mixed ?_;refine ay [0,1,2,3,4,5,6,7,8,9,10,11,12,13] 0 ?_;refine bC ?_
  iterate 14 (refine aZ rfl ?_)
  refine bD ?_
  iterate 14 (go_big_quiet_step (rfl))
  refine az ?_;refine aJ [] ?_;refine tail_nil ?_;go_wp2_with fail;go_ret;rw[Qw.out];refine⟨_,rfl,?_,jP.trans ((ag wr).mono Je)⟩;have:=aT (aH a (ag wr)) F;rw[Yj.out] at this;rw[Yj.out];exact this
def Wu {base e:Nat} {n:Nat} {j:List Value} (h:w.ownsRow base t e v n j):∃a cap,v=.slice a n cap/\w.ownsRow base t e (.slice a 0 cap) 0 []:=by
 rcases h.2 with⟨rfl,h0⟩|⟨g,cap,b,rfl,d,i,l,c,f,k⟩
 ·subst h0;exact⟨_,_,rfl,by simp,.inl ⟨rfl,rfl⟩⟩
 exact⟨_,_,rfl,by simp,.inr ⟨g,cap,b,rfl,d,i,Nat.zero_le _,c,f,by simp⟩⟩
def Wv (n:Nat) (m:n<1000000) :
 Calls prog 133 #[.slice none 0 0,.int .i64 n] w λe w'=>∃r,e=.returned r/\w'.ownsRow w.heap.size aN 1 r 0 []/\Below w.heap.size w w':=by
 have:decide ((n:Int)<0)=false:=decide_eq_false (by omega);by_cases h0:n=0
 ·have d:decide ((0:Int)<(n:Int))=false:=decide_eq_false (by omega);go_enter func133,ntmps133;go_wp2;go_ret;exact⟨_,rfl,World.ownsRow_nil _ _ _ _,Below.refl _ _⟩
 have d:decide ((0:Int)<(n:Int))=true:=decide_eq_true (by omega);go_enter func133,ntmps133
 go_wp2_with (
  at_builtin
  refine sU rfl _ _ 35 3 rfl .i64 .i64 underlying3 w.heap.size aN _ 4 bW rfl (.slice none 0 0) 0 [] rfl (World.ownsRow_nil _ _ _ _) n rfl (by unfold maxLen;omega) (by omega) (Nat.le_refl _) ?_;intro l i c a;obtain⟨j,o,rfl,g⟩:=Wu c;rw[Nat.zero_add] at *;have b:=aa (Below.refl w.heap.size w |>.grown a (Nat.le_refl _) (λk f=>by cases f))
  clear c a)
 go_ret;exact⟨_,rfl,g,b.out⟩
theorem Cu {j:Nat} (hj:j<Ls.length):(Ls.take (j+1)).flatten=(Ls.take j).flatten++Ls[j]:=by
 rw [List.take_succ_eq_append_getElem hj,List.flatten_append];simp
theorem Qx (Ls:List (List Nat)) (j:Nat):(Ls.take j).flatten.length<=Ls.flatten.length:=by
 conv=>rhs;rw [<-List.take_append_drop j Ls,List.flatten_append,List.length_append]
 omega
theorem OL {b n c:Nat} {vs:List Value} (hn:n=Ls.length) (hvs:vs.length=n) (hc:∀k (hk:k<Ls.length) (hk':k<vs.length),w.cell? ⟨b,k,none⟩=some vs[k]∧bG w vs[k] (aM Ls[k])) (hsm:Ls.flatten.length<1000000) (rW:n<1000) :
 Calls prog 94 #[.slice (some ⟨b,0,none⟩) n c] w fun e w'=>∃r,e=.returned r∧w'.ownsRow w.heap.size aN 1 r Ls.flatten.length (aM Ls.flatten)∧Below w.heap.size w w':=by
 have HC:=aa hc;have HN:=aa hn;have HV:=aa hvs;have HSM:=aa hsm;clear hc hn hvs hsm;go_enter func94,ntmps94;go_wp2_with fail;go_loopw [3,5,11] (fun sz _ iv wr=>∃j:Nat,j<=n∧iv=.int .i64 j∧sz=.int .i64 ((Ls.take j).flatten.length:Nat)∧Below w.heap.size w wr) (fun _ _ iv _=>n-(intOf iv).toNat)
 case atStart=>exact ⟨0,Nat.zero_le _,rfl,rfl,Below.refl _ _⟩
 case round=>
  obtain ⟨j,hj,rfl,rfl,hE0⟩:=hrel;by_cases hjn:j<n
  ·have zj:=eG (show j<n by omega);have hjl:j<Ls.length:=by have:=HN.out;omega
   have hjv:j<vs.length:=by have:=HV.out;omega
   obtain ⟨c0,hs⟩:=HC.out j hjl hjv;obtain ⟨x,hx⟩:=ae (vs[j]);rw [<-hx] at c0 hs;have c0:=aB hE0 c0;obtain ⟨a1,c1,rfl,_,_⟩:=bG.out hs;rw [bF] at c0;have h1:=Cu hjl;have h2:=Qx Ls (j+1);obtain ⟨q,hq⟩:=ae ((Ls.take j).flatten.length);obtain ⟨q2,hq2⟩:∃q,q=Ls[j].length:=⟨_,rfl⟩;have h3:(Ls.take (j+1)).flatten.length=q+q2:=by rw [h1,List.length_append,hq,hq2]
   have hq9:q+q2<1000000:=by rw [<-h3];exact Nat.lt_of_le_of_lt h2 HSM.out
   rw [<-hq];rw [<-hq2] at c0;have z2:decide ((q:Int)+(q2:Int)<0)=false:=decide_eq_false (by omega);have H3:=aa h3;clear h1 h2 h3 hs hx hq hq2;go_wp2_with fail;go_roundw
   case rel=>exact ⟨j+1,by omega,by simp,by rw [H3.out];simp,hE0⟩
   case measure=>simp [intOf];omega
  ·have zj:=gI (show n<=j by omega);obtain rfl:j=n:=by omega
   have ht:Ls.take j=Ls:=List.take_of_length_le (by rw [<-HN.out];exact Nat.le_refl _);rw [ht];obtain ⟨N,hN⟩:=ae Ls.flatten.length;rw [<-hN];have GR:=aa (Wv (w:=wr) N (by rw [hN];exact HSM.out));have nR:=aa hN;clear ht hN;go_wp2_with fail;refine GR.out.mono ?_;rintro e w1 ⟨r0,rfl,o0,hb1⟩;have hs1:=hb1.size;have hs0:=hE0.size;have hb1:=hE0.trans (hb1.mono hs0);have o0:=aT o0 hs0;go_wp2_with fail;go_loopw [6,8,27] (fun r _ iv wr=>∃i:Nat,i<=j∧iv=.int .i64 i∧wr.ownsRow w.heap.size aN 1 r (Ls.take i).flatten.length (aM (Ls.take i).flatten)∧Below w.heap.size w wr) (fun _ _ iv _=>j-(intOf iv).toNat)
   case atStart=>exact ⟨0,Nat.zero_le _,rfl,o0,hb1⟩
   case round=>
    obtain ⟨i,hi,rfl,hr,hE⟩:=hrel;by_cases hij:i<j
    ·have zi:=eG (show i<j by omega);have hil:i<Ls.length:=by have:=HN.out;omega
     have hiv:i<vs.length:=by have:=HV.out;omega
     obtain ⟨c0,hs⟩:=HC.out i hil hiv;obtain ⟨x,hx⟩:=ae (vs[i]);rw [<-hx] at c0 hs;have c0:=aB hE c0;have hs:=hs.mono hE;have h1:=Cu hil;have h2:=Qx Ls (i+1);obtain ⟨P,hP⟩:=ae ((Ls.take i).flatten);obtain ⟨L,hL⟩:=ae (Ls[i]);rw [<-hP] at hr h1;rw [<-hL] at hs h1;have hq9:P.length+L.length<1000000:=by
      have:=HSM.out;rw [h1,List.length_append] at h2;omega
     have H1:=aa h1;have hE1:=hE.size;clear h1 h2 hx hP hL
     go_wp2_with (
      refine bR rfl _ _ 35 rfl w.heap.size aN (.int .i32 0) 4 bW _ _ _ rfl hr _ (aM L) rfl hs (by simp [aM,Value.oneCell']) (by rw [bF];unfold maxLen;omega) (by rw [bF];omega) (by omega) ?_
      intro v2 w2 o2 hg2)
     go_roundw
     case rel=>
      refine ⟨i+1,by omega,by simp,?_,hE.grown hg2 (by omega) (fun k hk=>(hr.lt k hk).1)⟩;rw [H1.out,List.length_append,a_];rw [bF] at o2;exact o2
     case measure=>simp [intOf];omega
    ·have zi:=gI (show j<=i by omega);obtain rfl:i=j:=by omega
     have ht:Ls.take i=Ls:=List.take_of_length_le (by rw [<-HN.out];exact Nat.le_refl _);rw [ht,<-nR.out] at hr;have HR:=aa hr;clear hr ht;go_wp2;go_ret;exact ⟨_,rfl,by rw [nR.out] at HR;exact HR.out,hE⟩
def uX (T:List aG) (c:Nat):Bool:=decide (bP T c=[])&&decide (hk c<4)
theorem LB (h:cK w p T X) (hV:aY T X) (hl:T.length<1000) (c:Nat) (hc:c<1114112) :
 Calls prog 97 #[.pointer (some ⟨p,0,none⟩),.int .i32 c] w fun e w'=>e=.returned (.bool (uX T c))∧Below w.heap.size w w':=by
 by_cases hm:bP T c=[]
 ·have FI:=aa (BO h hV c hc hm);have HG:=aa (fun (W:World)=>rQ (w:=W) c hc);have hp:uX T c=decide (hk c<4):=by unfold uX;rw [decide_eq_true hm,Bool.true_and]
  rw [hp];obtain ⟨k,hk⟩:=ae (hk c);rw [<-hk] at HG ⊢;have hd:decide (k<4)=decide ((k:Int)<4):=by rw [decide_eq_decide];omega
  rw [hd];clear h hm hp hk hd;go_enter func97,ntmps97;go_wp2_with fail;refine FI.out.mono ?_;rintro e w1 ⟨rfl,hb1⟩;go_wp2_with fail;refine (HG.out _).mono ?_;rintro e w2 ⟨rfl,rfl⟩;go_wp2;go_ret;exact ⟨rfl,hb1.alloc hb1.size _⟩
 ·have FI:=aa (zN h hV hl c hc hm);have hp:uX T c=false:=by unfold uX;rw [decide_eq_false hm,Bool.false_and]
  rw [hp];clear h hm hp;go_enter func97,ntmps97;go_wp2_with fail;refine FI.out.mono ?_;rintro e w1 ⟨a1,n1,c1,a2,n2,c2,b,rfl,_,hb1⟩;go_wp2;go_ret;exact ⟨rfl,hb1.alloc hb1.size _⟩
end Go.Proofs.YtmnimbnojdndmaaGreatDoor
