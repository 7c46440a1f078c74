/- State by state it is added up what is possible; no condition. -/
import Derived.Test.YtmnimbnojdndmaaGreatDoorS13
set_option maxRecDepth 100000
set_option maxHeartbeats 6400000
set_option linter.all false
namespace Go.Proofs.YtmnimbnojdndmaaGreatDoor
open Go.RowKit Go.Cd Go.Shelf _root_.Go.Proofs.Tryz
def Fb.ext {w w':World} {p:Nat} {L:List (aG×Value)} {a:Int} {o:List UInt8} (h:Fb w p L a o) (b:Below w.heap.size w w'):Fb w' p L a o:=by
 obtain⟨⟨v,e,f⟩,c⟩:=h;exact⟨⟨v,e.mono b,aH f b⟩,λx d=>⟨(c x d).1.mono b,(c x d).2⟩⟩
def Fb.put {w:World} {p:Nat} {L:List (aG×Value)} {a last':Int} {o o':List UInt8} (h:Fb w p L a o) (k:Nat) (u:Value)
 (f:∀v,(#[v,.int .i32 a,.string (tx o)]:Array Value).setIfInBounds k u=#[v,.int .i32 last',.string (tx o')]):Fb (w.setCell ⟨p,k,none⟩ u) p L last' o':=by
 obtain⟨⟨v,b,e⟩,c⟩:=h;exact⟨⟨v,f v▸b.set k u,bn e (Go.Cd.aQ e (k:=p) (by omega)) k u⟩,λx d=>⟨(c x d).1.put b.at_ (by decide),(c x d).2⟩⟩
def xz {w:World} (c:Int) (d:Nat) (a:Option Addr) :
 Calls prog 185 #[.agg #[.int .i32 c,.int .i64 0,.slice a 0 d]] w λe w'=>e=.returned (.bool true)/\Below w.heap.size w w':=by
 have f:=ah (w:=w) (.cells #[.int .i32 c,.int .i64 0,.slice a 0 d] 196);have b:=Is.new w #[.int .i32 c,.int .i64 0,.slice a 0 d] 196;have:=b.at 0 rfl;have:=b.at 1 rfl;have:=b.at 2 rfl;go_enter func185,ntmps185;go_wp2;go_ret;exact⟨rfl,f⟩
def XK {s q:List UInt8} (a:s.length<=60) (W:World):Calls prog 215 #[.string (tx s),.string (tx q)] W λe w'=>e=.returned (.tuple #[.string (tx (Lib.trimSuffix s q)),.bool (Lib.hasSuffix s q)])/\w'=W:=by
 have:=Tryz.strings_CutSuffix (tx s) (tx q) W (by rw[aX];omega);rw[dM,dM] at this;exact this
def QM:∀b∈U0,Lib.trimSuffix (b++sfF) sfF=b/\Lib.hasSuffix (b++sfF) sfF=true/\Lib.hasSuffix (b++sfF) Ny=false/\Lib.trimSuffix (b++Ny) Ny=b/\Lib.hasSuffix (b++Ny) Ny=true/\Lib.hasSuffix (b++Ny) sfF=false:=by decide
def IP {w:World} {p:Nat} {L:List (aG×Value)} {f:Int} {o nm o':List UInt8} (D:Fb w p L f o) (O:qg o nm o' true) (c:Int) (I:Nat) (a:Option Addr) :
 Calls prog 184 #[.pointer (some ⟨p,0,none⟩),.string (tx nm),.agg #[.int .i32 c,.int .i64 0,.slice a 0 I]] w λe w'=>e=.returned (.bool true)/\Below p w w'/\w.heap.size<=w'.heap.size/\Fb w' p L f o'/\∀k B T,k≠p->Is w k B T->Is w' k B T:=by
 obtain⟨M,g⟩:=ae (w.alloc (.cells #[.int .i32 c,.int .i64 0,.slice a 0 I] 196));have d:=aO g;have n:=Is.nw g;have C:=O.name.2.1;have m:=aa (show ∀W,Calls prog 215 #[.string (tx nm),.string ⟨#[44,32,70,105,114,115,116,62]⟩] W λe w'=>e=.returned (.tuple #[.string (tx (Lib.trimSuffix nm sfF)),.bool (Lib.hasSuffix nm sfF)])/\w'=W from λW=>XK (q:=sfF) C W);have r:=aa (show ∀W,Calls prog 215 #[.string (tx nm),.string ⟨#[44,32,76,97,115,116,62]⟩] W λe w'=>e=.returned (.tuple #[.string (tx (Lib.trimSuffix nm Ny)),.bool (Lib.hasSuffix nm Ny)])/\w'=W from λW=>XK (q:=Ny) C W);have y:=D.ext d;have P:p<w.heap.size:=by obtain⟨⟨v,Q,_⟩,_⟩:=D;exact Q.lt
 have N:=aa (λW=>xz (w:=W) c I a);obtain⟨⟨v,G,_⟩,_⟩:=id y;have Z:=G.at 2 rfl;have d0:=G.frozen 2;have f0:=n.at 0 rfl;have f1:=n.at 1 rfl;have f2:=n.at 2 rfl;have l:p≠w.heap.size:=by omega
 have E:(⟨#[44,32,70,105,114,115,116,62]⟩:ByteArray)=tx sfF:=rfl;have K:∀s:List UInt8,s≠[]->(tx s).toList.isEmpty=false:=λs h=>by rw[pd,dM];cases s with|nil=>exact absurd rfl h|cons=>rfl
 cases O with
 | fst b hb=>
   obtain⟨z,A,x,_⟩:=QM b hb;rw[z,A] at m;rw[x] at r;have V:(tx []).toList.isEmpty=true:=by rw[pd];rfl
   have zs:(tx b++⟨#[44,32,70,105,114,115,116,62]⟩:ByteArray)=tx (b++sfF):=by rw[E,dA]
   have U:(tx b).size<=60:=by rw[aX];have:=(Bf b hb).2.2.1;rw[gn] at this;omega
   have X:(⟨#[44,32,70,105,114,115,116,62]⟩:ByteArray).size=8:=rfl;have Y:=aa (G.same 2 (u:=.string (tx [])) rfl);have t:=y.put 2 (.string (tx (b++sfF))) (o':=b++sfF) (last':=f) (λ_=>rfl);have J:=aa t;clear y t D E K z A x C;go_enter func184,ntmps184;go_wp2_with fail;rw[<-g];clear g;refine(m.out M).mono ?_;rintro e S⟨rfl,rfl⟩;go_wp2_with fail;refine(r.out _).mono ?_;rintro e F⟨rfl,rfl⟩;clear m r;have R:F.setCell ⟨p,2,none⟩ (.string ⟨#[]⟩)=F:=Y.out;go_wp2_with fail;refine(N.out _).mono ?_;rintro e w4⟨rfl,i⟩;go_wp2;go_ret;refine⟨rfl,(aj (d.mono (oT P)) (d' _)).trans (i.mono (by rw[mn];have:=d.size;omega)),by have:=i.size;rw[mn] at this;have:=d.size;omega,J.out.ext i,λk B T H h=>((h.mono d).put H _).mono i⟩
 | lst b hb=>
   obtain⟨_,_,_,z,A,x⟩:=QM b hb;rw[x] at m;rw[z,A] at r;have V:(tx (b++sfF)).toList.isEmpty=false:=K _ (Bf b hb).1;have zs:(tx b++⟨#[44,32,70,105,114,115,116,62]⟩:ByteArray)=tx (b++sfF):=by rw[E,dA]
   have U:(tx b).size<=60:=by rw[aX];have:=(Bf b hb).2.2.1;rw[gn] at this;omega
   have X:(⟨#[44,32,70,105,114,115,116,62]⟩:ByteArray).size=8:=rfl;have t:=y.put 2 (.string (tx [])) (o':=[]) (last':=f) (λ_=>rfl);have J:Hid (Fb (M.setCell ⟨p,2,none⟩ (.string ⟨#[]⟩)) p L f []):=aa t;have g0:=(n.put (k:=w.heap.size) (j:=p) (o:=2) (pr l) (.string ⟨#[]⟩)).at 0 rfl;have g1:=(n.put (k:=w.heap.size) (j:=p) (o:=2) (pr l) (.string ⟨#[]⟩)).at 1 rfl;have g2:=(n.put (k:=w.heap.size) (j:=p) (o:=2) (pr l) (.string ⟨#[]⟩)).at 2 rfl;clear y t D E K z A x C;go_enter func184,ntmps184;go_wp2_with fail;rw[<-g];clear g;refine(m.out M).mono ?_;rintro e S⟨rfl,rfl⟩;go_wp2_with fail;refine(r.out _).mono ?_;rintro e F⟨rfl,rfl⟩;clear m r;go_wp2_with fail;refine(N.out _).mono ?_;rintro e w4⟨rfl,i⟩;go_wp2;go_ret;refine⟨rfl,(aj (d.mono (oT P)) (d' _)).trans (i.mono (by rw[mn];have:=d.size;omega)),by have:=i.size;rw[mn] at this;have:=d.size;omega,J.out.ext i,λk B T H h=>((h.mono d).put H _).mono i⟩
def PM {w:World} {p:Nat} (hG:dL w) {L:List (aG×Value)} {f:Int} {o nm o':List UInt8} (hR:Fb w p L f o) (hs:qg o nm o' true) (r:aG) (I:Bq r) (h0:r.cls=0/\r.map=[]) (am:f<r.code) :
 Calls prog 149 #[.pointer (some ⟨p,0,none⟩),.string (tx (eu nm r))] w λe w'=>e=.returned (.string ⟨#[]⟩)/\Below p w w'/\w.heap.size<=w'.heap.size/\Fb w' p L r.code o':=by
 have i:=hs.name;have SP:=aa (tN hG (gz nm r) rfl (λq hq h=>(Bh i.2 I.cls q hq _ h).2 rfl) (kU i.2 I.cls I.len));have Y:=aa (λ(W:World) (h:dL W) (k:Nat) (hk:Is W k ((gz nm r).map λl=>Value.string (tx l)).toArray 9)=>Br h i.1 r I hk);obtain⟨s,G⟩:=ae (tx (eu nm r));have O:tx (bH 59 (gz nm r))=s:=G.symm;rw[O] at SP;rw[<-G];have hp:p<w.heap.size:=by obtain⟨⟨v,h1,_⟩,_⟩:=hR;exact h1.lt
 have al:=I.code;have an:=i.1;have HS:=aa hs;obtain⟨S,U⟩:=h0;rw[S,U] at Y;obtain⟨c,hc⟩:=ae r.code;rw[<-hc] at am al Y⊢;have RG:=aa (λ(W:World) (h:Fb W p L f o) (cp:Nat) (a:Option Addr)=>IP h HS.out (c:Nat) cp a);have PL:=aa (λW (cp:Nat) (a:Option Addr)=>xz (w:=W) (c:Nat) cp a);clear G O hs i hc I S U HS;go_enter func149,ntmps149;go_wp2_with fail;refine SP.out.mono ?_;rintro e w1⟨rfl,x⟩;have j:=aO x;have q1:Is w1 w.heap.size ((gz nm r).map λl=>Value.string (tx l)).toArray 9:=by rw[x];exact Is.new _ _ _
 have ac:w1.heap.size=w.heap.size+1:=by rw[x];simp
 clear x SP;go_wp2_with fail;refine(Y.out _ (hG.mono j) _ q1).mono ?_;rintro e K⟨mv,rfl,R,B⟩;have q2:K.cell? ⟨w.heap.size,1,none⟩=some (.string (tx nm)):=(q1.mono B).at 1 rfl;obtain⟨ma,mc,rfl,_,_⟩:=ak R;rw[kp];have m:=af j B;clear q1 Y R;obtain⟨A,g⟩:=ae (K.alloc (.cells #[.int .i32 (c:Nat),.int .i64 0,.slice ma 0 mc] 196));have t:=aO g;have b3:=Is.nw g;have R3:=(hR.ext m).ext t;have q3:=aB t q2;go_upto_region 5 with fail;rw[<-g];have z:=af m t;have N:A.heap.size=K.heap.size+1:=by rw[g];simp
 have ab:=B.size;clear g t m hR q2;have zl:decide ((c:Int)<=f)=false:=by simp;omega
 obtain⟨⟨ov,p3,_⟩,_⟩:=id R3;have g1:=b3.gd 0 rfl;have g2:=p3.gd 1 rfl;refine aC (Array.replicate 8 true) 8 0 mixed ?_;refine ay [0,1,2,3,4,5,6,7] 0 ?_
 iterate 8 (refine aA rfl ?_;go_big_quiet_step (rfl))
 refine az ?_;refine aJ [] ?_;refine tail_nil ?_;clear g1 g2 p3;have T:=b3.mono (ag A);have R4:=R3.ext (ag A);have q4:=aB (ag A) q3;have M:=af z (ag A);have Y5:A.drew.heap.size=K.heap.size+1:=N;clear b3 R3 q3 z N;generalize A.drew=w4 at *;go_upto_region 7 with fail;have g0:=Gr.cell (ag w4) q4;have g1:=T.gd 0 rfl;have g2:=T.gd 1 rfl;have g3:=T.gd 2 rfl;refine aC #[true,true,true,true,true,false,false,false] 5 3 mixed ?_;refine ay [0,1,2,3,4] 0 ?_
 iterate 5 (refine aA rfl ?_;go_big_quiet_step (rfl))
 refine az ?_;refine aJ [5,6,7] ?_;refine uO (os:=[_,_,_]) rfl ?_;clear g0 g1 g2 g3;have b5:=T.mono (ag w4);have R5:=R4.ext (ag w4);have rX:=af M (ag w4);have ad:w4.drew.heap.size=K.heap.size+1:=Y5;clear T R4 q4 M Y5;generalize w4.drew=w5 at *;go_wp2_with fail;refine(RG.out _ R5 _ _).mono ?_;rintro e w6⟨rfl,mF,ah,R6,y⟩;have E:p≠K.heap.size:=by have:=j.size;omega
 have C:=y _ _ _ (pr E) b5;clear y b5 R5 RG;go_wp2_with fail;refine uP ?_;have H:=aa (gZ (w:=w6) c (by omega));have u:Below p w w6:=(rX.mono (oT hp)).trans mF;have ao:w.heap.size<w6.heap.size:=by have:=j.size;omega
 clear rX ad mF ah ab j ac;have X:=C.at 0 rfl;have Z:=C.at 1 rfl;have e2:=C.at 2 rfl;by_cases Q:aP c
 ·rw[decide_eq_true Q] at H;go_upto_region 11 with (go_at_call 96;refine H.out.mono ?_;rintro e J⟨rfl,rfl⟩);have b:Below J.heap.size J J:=gS _ _;clear H X Z e2;have D:=C.mono b;have F:=R6.ext b;have P:=F.put 1 (.int .i32 (c:Nat)) (last':=c) (o':=o') (λ_=>rfl);obtain⟨⟨vz,V,_⟩,_⟩:=id F;have X:=D.at 0 rfl;have d1:=V.frozen 1;have Z:=V.at 1 rfl;have n:=D.put (pr E) (.int .i32 (c:Nat)) (o:=1);have f0:=n.at 0 rfl;have f1:=n.at 1 rfl;have f2:=n.at 2 rfl;have HC:=aa P;have Vk:Below p w J:=u.trans (b.mono (by omega));have ai:=b.size;clear R6 F P C D n u;go_wp2_with fail;refine(PL.out _ _ _).mono ?_;rintro e wy⟨rfl,d⟩;go_wp2;go_ret;exact⟨rfl,(aj Vk (d' _)).trans (d.mono (by rw[mn];omega)),by have:=d.size;rw[mn] at this;omega,HC.out.ext d⟩
 rw[decide_eq_false Q] at H;go_upto_region 9 with fail;go_wp2_with fail;refine H.out.mono ?_;rintro e w7⟨rfl,rfl⟩;go_wp2_with fail;refine(PL.out _ _ _).mono ?_;rintro e J⟨rfl,b⟩;clear H X Z e2;have D:=C.mono b;have F:=R6.ext b;have P:=F.put 1 (.int .i32 (c:Nat)) (last':=c) (o':=o') (λ_=>rfl);obtain⟨⟨vz,V,_⟩,_⟩:=id F;have X:=D.at 0 rfl;have d1:=V.frozen 1;have Z:=V.at 1 rfl;have n:=D.put (pr E) (.int .i32 (c:Nat)) (o:=1);have f0:=n.at 0 rfl;have f1:=n.at 1 rfl;have f2:=n.at 2 rfl;have HC:=aa P;have Vk:Below p w J:=u.trans (b.mono (by omega));have ai:=b.size;clear R6 F P C D n u;go_wp2_with fail;refine(PL.out _ _ _).mono ?_;rintro e wy⟨rfl,d⟩;go_wp2;go_ret;exact⟨rfl,(aj Vk (d' _)).trans (d.mono (by rw[mn];omega)),by have:=d.size;rw[mn] at this;omega,HC.out.ext d⟩
def opAt (I:List iE):Nat->List UInt8
 | 0=>[]
 | k+1=>match I[k]? with|some l=>l.op|none=>[]
def adO (l:iE):Prop:=Bq l.r/\(l.pl=true->l.r.cls=0/\l.r.map=[])/\(l.pl=false->(l.r.cls≠0\/l.r.map≠[])/\aP l.r.code)
structure ME (I:List iE):Prop where
 ok:∀l∈I,adO l
 step:∀j (h:j<I.length),qg (opAt I j) I[j].nm I[j].op I[j].pl
 rise:rising (I.map (·.r))
 fin:opAt I I.length=[]
 len:I.length<40000
def XL {w:World} {p:Nat} (m:dL w) {L:List (aG×Value)} {d:Int} {o:List UInt8} (k:Fb w p L d o) (l:iE) (g:qg o l.nm l.op l.pl) (h:adO l) (f:d<(l.r.code:Nat)) (q:L.length<100000) :
 Calls prog 149 #[.pointer (some ⟨p,0,none⟩),.string (tx l.t)] w λe w'=>e=.returned (.string ⟨#[]⟩)/\Below p w w'/\w.heap.size<=w'.heap.size/\∃n,n.map (·.1)=L.map (·.1)++(if l.pl then [] else [l.r])/\Fb w' p n l.r.code l.op:=by
 obtain⟨nm,r,op,u⟩:=l;obtain⟨i,s,j⟩:=h;cases u with
 | true=>
   refine(PM m k g r i (s rfl) f).mono ?_;rintro e w'⟨rfl,a,b,c⟩;exact⟨rfl,a,b,L,by simp,c⟩
 | false=>
   have g:qg o nm op false:=g;cases g;refine(JW m k r i f (j rfl).1 (j rfl).2 q).mono ?_;rintro e w'⟨rfl,a,b,v,c⟩;exact⟨rfl,a,b,L++[(r,v)],by simp,c⟩
def MF {d w:World} {p:Nat} {v:Value} {I:List iE} (S:ME I) (X:dL d) (T:bG d v (qM (I.map iE.t))) (E:d.heap.size<=p) (J:Below d.heap.size d w) (g:Fb w p [] (-1) []) :
 Calls prog 148 #[v,.func (.func 149) #[.pointer (some ⟨p,0,none⟩)] #[]] w λe w'=>e=.returned (.tuple #[.int .i64 0,.string ⟨#[]⟩])/\Below p w w'/\w.heap.size<=w'.heap.size/\∃L,L.map (·.1)=og I/\Fb w' p L (aa_ (I.map (·.r)) I.length) []:=by
 obtain⟨a,cap,s,_,N⟩:=T.out;obtain⟨n,m⟩:=ae I.length;have q:(qM (I.map iE.t)).length=n:=by simp[m]
 rw[q] at s;subst s
 have HX:=aa (show ∀i (Q:i<I.length),∃b off,a=some ⟨b,off,none⟩/\b<d.heap.size/\d.cell? ⟨b,off+i,none⟩=some (.string (tx I[i].t)) from λi Q=>by
  obtain⟨b,off,y,R,u⟩:=N i (by simpa using Q);refine⟨b,off,y,R,u.trans ?_⟩
  simp[qM])
 have P:=aa m;have x:=aa S;have ab:n<40000:=by rw[m];exact S.len
 rw[<-m];clear m N T q;go_enter func148,ntmps148;go_wp2_with fail;go_loopw [11] (λA wr=>∃j:Nat,j<=n/\A=.int .i64 j/\(∃L,L.map (·.1)=og (I.take j)/\Fb wr p L (aa_ (I.map (·.r)) j) (opAt I j))/\Below p w wr/\w.heap.size<=wr.heap.size) (λA _=>n-(intOf A).toNat)
 case atStart=>exact⟨0,ic _,rfl,⟨[],by simp[og],g⟩,gS _ _,d' _⟩
 case round=>
  clear g;obtain⟨j,hj,rfl,⟨L,k,g⟩,C,hs⟩:=hrel;by_cases ac:j<n
  ·have W:=eG (show j<n by omega);have c:j<I.length:=by have:=P.out;omega
   obtain⟨b,off,rfl,hb,K⟩:=HX.out j c;have M:Below d.heap.size d wr:=J.trans (C.mono E);have K:=aB M K;have f:=gw c;have YS:L.length<=j:=by
    have:=congrArg List.length k;rw[iz] at this;unfold og at this;rw[iz] at this;have:=lr (λl=>!l.pl) (I.take j);rw[jn] at this;omega
   have G:aa_ (I.map (·.r)) j<(I[j].r.code:Nat):=by
    have:=J9 x.out.rise j (by rw[iz];exact c);simpa using this
   have O:=aa (XL (X.mono M) g I[j] (x.out.step j c) (x.out.ok _ f) G (by omega));have F:=aa k
   have D:=aa (show og (I.take (j+1))=og (I.take j)++(if I[j].pl then [] else [I[j].r]) by
    unfold og;rw[gR c,n7,j5]
    cases h:I[j].pl <;> simp[h])
   have V:=aa (show aa_ (I.map (·.r)) (j+1)=(I[j].r.code:Nat) by rw[uE (by rw[iz];exact c)];simp);have B:=aa (show opAt I (j+1)=I[j].op by show(match I[j]? with|some l=>l.op|none=>[])=_;rw[gx c]);generalize I[j]=l at *;generalize l.t=lt at *;clear k g f;go_wp2_with fail;refine O.out.mono ?_;rintro e w2⟨rfl,y,R,Y,o,u⟩;clear O K;have z:(⟨#[]⟩:ByteArray).toList.isEmpty=true:=by rw[pd];rfl
   have U:=aa u;have H:=aa o;clear u o;go_wp2_with fail;go_roundw
   case rel=>
    exact⟨j+1,by omega,by simp,⟨Y,by rw[H.out,F.out,D.out],by rw[V.out,B.out];exact U.out⟩,C.trans y,by omega⟩
   case measure=>simp[intOf];omega
  have W:=gI (show n<=j by omega);obtain rfl:j=n:=by omega
  have Z:=aa g;have F:=aa k;clear g k;go_wp2;go_ret2;have e:=P.out;refine⟨rfl,C,hs,L,by rw[F.out,iu (by omega)],?_⟩;have:=Z.out;rw[e,x.out.fin] at this;rw[e];exact this
def IQ {w:World} (G:dL w) {I:List iE} (j:ME I) (g:(bA (I.map iE.t)).length<1000000) :
 Calls prog 104 #[.string (tx (bA (I.map iE.t)))] w λe w'=>∃(v:Value) (L:List (aG×Value)),e=.returned (.tuple #[v,.nilIface])/\L.map (·.1)=og I/\w'.ownsRow w.heap.size h_ 3 v L.length (L.flatMap dY)/\(∀x∈L,Sl aN w' x.2 (aM x.1.map)/\fU x.2)/\Below w.heap.size w w':=by
 have u:=aa (tT (w:=w) (I.map iE.t) (by
  intro p k;obtain⟨l,y,rfl⟩:=j8.1 k;obtain⟨i,H,rfl⟩:=rG y;have d:=(j.ok _ y).1;have o:=(j.step i H).name.2
  exact⟨JM o d.cls,ia (kU o d.cls d.len) (by decide)⟩) g)
 obtain⟨s,B⟩:=ae (tx (bA (I.map iE.t)));rw[<-B] at u⊢;clear B;have q:I.length<40000:=j.len;go_enter func104,ntmps104;go_wp2_with fail;refine u.out.mono ?_;rintro e r⟨v,rfl,c,b⟩;have a:=(Sl.aU c).any;obtain⟨P,O,rfl,_,_⟩:=ak c;rw[iz] at a⊢;have h:=ah (w:=r) (.cells #[.slice none 0 0,.int .i32 (-1),.string ⟨#[]⟩] 247);have z:Fb (r.alloc (.cells #[.slice none 0 0,.int .i32 (-1),.string ⟨#[]⟩] 247)) r.heap.size [] (-1) []:=⟨⟨.slice none 0 0,Is.new _ _ _,iS _ _ _ _⟩,by simp⟩;have m:=aa (MF j (G.mono b) a (d' _) h z);clear z a c u;obtain⟨n,A⟩:=ae I.length;rw[<-A] at m q⊢;have:decide ((40000:Int)<(n:Int))=false:=decide_eq_false (by omega);have D:(⟨#[]⟩:ByteArray).toList.isEmpty=true:=by rw[pd];rfl
 have:(tx []).toList.isEmpty=true:=D;clear A;go_wp2_with fail;refine m.out.mono ?_;rintro e R⟨rfl,d,o,L,F,⟨⟨K,k,c⟩,C⟩⟩;obtain⟨U,Q,rfl,_,_⟩:=ak c;have:=k.at 0 rfl;have:=k.at 2 rfl;have E:=aa c;have J:=aa C;clear m c C;go_wp2;go_ret2;have f:=b.size;exact⟨_,L,rfl,F,aT E.out (by omega),J.out,(b.trans ((h.mono f).trans (d.mono f)))⟩
end Go.Proofs.YtmnimbnojdndmaaGreatDoor
namespace Go.Proofs.YtmnimbnojdndmaaGreatDoor
open Go.RowKit Go.Cd _root_.Go.Proofs.Tryz
def Dp {w:World} (k:dL w) {I:List iE} {T:List aG} {X:List Nat} (z:ME I) (f:og I=T) (a:(bA (I.map iE.t)).length<1000000) (D:aY T X) (x:∀r∈T,r.cls≠0\/r.map≠[]) (O:T.length<1000) (H:X.length<10000) (o:∀c∈X,aP c) :
 Calls prog 71 #[.string (tx (bA (I.map iE.t))),.string (tx (eP X))] w λe w'=>∃p,e=.returned (.tuple #[.pointer (some ⟨p,0,none⟩),.nilIface])/\cK w' p T X/\Below w.heap.size w w':=by
 have q:=aa (IQ k z a);have u:=aa (λ(W:World) (E:Below w.heap.size w W)=>GY (k.mono E) o H);have F:=aa (λ(W:World) (v:Value) (h:qQ W v T X)=>Xj h D x O H);rw[f] at q;clear k z a D x f;obtain⟨s1,b⟩:∃s,s=tx (bA (I.map iE.t)):=⟨_,rfl⟩;obtain⟨s2,G⟩:∃s,s=tx (eP X):=⟨_,rfl⟩;rw[<-b] at q⊢;rw[<-G] at u⊢;clear b G;go_enter func71,ntmps71;go_wp2_with fail;refine q.out.mono ?_;rintro e R⟨v,L,rfl,y,m,J,d⟩;obtain⟨Y,N,rfl,_,_⟩:=ak m;have P:=aa y;have K:=aa m;have U:=aa J;clear y m J;go_wp2_with fail;refine(u.out R d).mono ?_;rintro e C⟨r,rfl,g,B⟩;obtain⟨j,l,rfl,_,_⟩:=ak g;have V:=aa g;clear g;have i:=ah (w:=C) (.cells #[.slice j (kE X).length l] 148);have f:qQ (C.alloc (.cells #[.slice j (kE X).length l] 148)) (.agg #[.slice Y L.length N,.slice j (kE X).length l]) T X:=by
  have b:=zD.aU K.out U.out;rw[P.out] at b;exact⟨_,_,rfl,b.mono (af B i),(Sl.aU V.out).any.mono i⟩
 have M:=af (af d B) i;have n:=aa (F.out _ _ f);clear f F;go_wp2_with fail;refine n.out.mono ?_;rintro e Z⟨p,rfl,A,S⟩;have Q:=aa A;clear A;go_wp2_with fail;go_ret2;exact⟨p,rfl,Q.out,af M S⟩
def Gl (T:List aG):∀j,opAt (T.map tL) j=[]
 | 0=>rfl
 | k+1=>by
   show(match (T.map tL)[k]? with|some l=>l.op|none=>[])=[];rw[nu];cases T[k]? <;> rfl
def XM {T:List aG} (h:NG T):ME (T.map tL):=by
 have c:(T.map tL).map (·.r)=T:=by rw[m5];exact te _
 refine⟨λl b=>?_,λj d=>?_,by rw[c];exact h.rise,Gl T _,by rw[iz];exact h.len⟩
 ·obtain⟨r,a,rfl⟩:=j8.1 b;exact⟨h.ok r a,λe=>(by cases e),λ_=>⟨h.says r a,h.chr r a⟩⟩
 rw[Gl,m8];exact .row
def MG {w:World} (h:dL w) {T:List aG} {X:List Nat} (g:NG T) (a:(iV T).length<1000000) (d:aY T X) (i:∀r∈T,r.cls≠0\/r.map≠[]) (f:T.length<1000) (j:X.length<10000) (b:∀c∈X,aP c) :
 Calls prog 71 #[.string (tx (iV T)),.string (tx (eP X))] w λe w'=>∃p,e=.returned (.tuple #[.pointer (some ⟨p,0,none⟩),.nilIface])/\cK w' p T X/\Below w.heap.size w w':=by
 have e:iV T=bA ((T.map tL).map iE.t):=by rw[Rj];rfl
 rw[e] at a⊢;exact Dp h (XM g) (E_ T) a d i f j b
end Go.Proofs.YtmnimbnojdndmaaGreatDoor
section
namespace Go.Cd
def XN (o:List UInt8) (l:iE):Bool:=(!l.pl&&(o==[]&&(l.nm==[88]&&l.op==[])))||(l.pl&&U0.any λb=>(o==[]&&(l.nm==b++sfF&&l.op==b++sfF))||(o==b++sfF&&(l.nm==b++Ny&&l.op==[])))
def XO {o:List UInt8} {l:iE} (h:XN o l=true):qg o l.nm l.op l.pl:=by
 obtain⟨nm,r,op,c⟩:=l;unfold XN at h;cases c with
 | false=>
   simp at h;obtain⟨rfl,rfl,rfl⟩:=h;exact .row
 | true=>
   simp at h;obtain⟨b,a,⟨rfl,rfl,rfl⟩|⟨rfl,rfl,rfl⟩⟩:=h
   ·exact .fst b a
   exact .lst b a
def lnB (l:iE):Bool:=decide (l.r.code<1114112)&&decide (l.r.cls<255)&&decide (l.r.map.length<=2)&&l.r.map.all (λc=>decide (c<1114112))&&(if l.pl then decide (l.r.cls=0)&&decide (l.r.map=[]) else (decide (l.r.cls≠0)||decide (l.r.map≠[]))&&decide (aP l.r.code))
end Go.Cd
namespace Go.Proofs.YtmnimbnojdndmaaGreatDoor
open Go.RowKit Go.Cd Go.Shelf
def adP {l:iE} (h:lnB l=true):adO l:=by
 obtain⟨nm,r,op,b⟩:=l;unfold lnB at h;simp only[js,decide_eq_true_eq,lR] at h;obtain⟨⟨⟨⟨c,g⟩,d⟩,f⟩,a⟩:=h;refine⟨⟨c,g,d,f⟩,λe=>?_,λe=>?_⟩
 ·have e:b=true:=e;subst e;simpa using a
 have e:b=false:=e;subst e;simpa using a
def adQ:ME Yw:=by
 have c:Yw.all lnB=true:=by decide +kernel
 have b:(List.range Yw.length).all (λj=>match Yw[j]? with|some l=>XN (opAt Yw j) l|none=>true)=true:=by decide +kernel
 refine⟨λl d=>adP (lR.1 c l d),λj a=>XO ?_,yK (by decide +kernel),by decide +kernel,by decide +kernel⟩;have:=lR.1 b j (nf.2 a);rw[gx a] at this;exact this
def IU {w:World} (b:Nat) :
 Calls Tryz.prog 74 #[.nilIface,.iface 251 (.pointer (some ⟨b,0,none⟩))] w λe w'=>e=.returned (.bool false)/\w'=w:=by
 have:∀W,(eqGuard BinOp.eql 134 (Operand.tmp 12) (Operand.tmp 13) Value.nilIface (.iface 251 (.pointer (some ⟨b,0,none⟩)))).run Tryz.prog W=.ok () W:=λ_=>by kernel_rfl
 have:∀W,(binOp BinOp.eql 134 Value.nilIface (.iface 251 (.pointer (some ⟨b,0,none⟩)))).run Tryz.prog W=.ok (.bool false) W:=λ_=>by kernel_rfl
 go_enter Tryz.func74,Tryz.ntmps74;go_wp2;go_ret;exact⟨rfl,rfl⟩
def PN {w:World}:Calls Tryz.prog 75 #[.int .i64 8] w λe w'=>e=.returned (.iface 251 (.pointer (some ⟨w.heap.size,0,none⟩)))/\Below w.heap.size w w':=by
 go_enter Tryz.func75,Tryz.ntmps75;go_wp2;go_ret;exact⟨rfl,ah _⟩
def T_ {w:World} (c:dL w) :
 Calls Tryz.prog 33 #[] w λe w'=>∃p,e=.returned (.pointer (some ⟨p,0,none⟩))/\cK w' p fo Gf/\Below w.heap.size w w':=by
 have d:=aa (TD c);have i:=aa (λ(W:World) (E:Below w.heap.size w W)=>TI (c.mono E));have f:=aa (λ(W:World) (E:Below w.heap.size w W)=>Dp (c.mono E) adQ aaI (by have:=Xa;omega) xk aaA (by decide) (by decide) (by decide));rw[IE] at d;have u:=aa (λW=>PN (w:=W));have q:=aa (λW b=>IU (w:=W) b);obtain⟨s1,j⟩:∃s,s=tx (bA (Yw.map iE.t)):=⟨_,rfl⟩;obtain⟨s2,o⟩:∃s,s=tx (eP Gf):=⟨_,rfl⟩;rw[<-j] at d f;rw[<-o] at i f;clear j o c;go_enter Tryz.func33,Tryz.ntmps33;go_wp2_with fail;refine d.out.mono ?_;rintro e y⟨rfl,g⟩;go_wp2_with fail;refine(i.out _ g).mono ?_;rintro e x⟨rfl,n⟩;have a:=af g n;go_wp2_with fail;refine(f.out _ a).mono ?_;rintro e v⟨p,rfl,l,m⟩;have h:=af a m;have r:=aa l;clear l g n a m d i f;go_wp2_with fail;refine(u.out _).mono ?_;rintro e w4⟨rfl,k⟩;go_wp2_with fail;refine(q.out _ _).mono ?_;rintro e w5⟨rfl,rfl⟩;go_wp2;go_ret;exact⟨p,rfl,r.out.mono k,af h k⟩
end Go.Proofs.YtmnimbnojdndmaaGreatDoor
end
namespace Go.Proofs.YtmnimbnojdndmaaGreatDoor
open Go.RowKit Go.Cd _root_.Go.Proofs.Tryz
def Ha {c:Nat}:∀(L:List (Nat×Nat)) (f:Nat->Nat),(∀x∈L,x.1≠c)->(L.foldl (λf x=>uG f x.1 x.2) f) c=f c
 | [],_,_=>rfl
 | x::L,f,h=>by
   rw[ot,Ha L _ λy a=>h y (by simp[a])];exact iG _ _ (pr (h x (by simp)))
def KD {c v:Nat}:∀(L:List (Nat×Nat)) (f:Nat->Nat),(L.map (·.1)).Nodup->(c,v)∈L->(L.foldl (λf x=>uG f x.1 x.2) f) c=v
 | [],_,_,h=>by cases h
 | x::L,f,hn,h=>by
   rw[lj,tS] at hn;rw[ot];rcases jt.1 h with rfl|h
   ·rw[Ha L _ λy a e=>hn.1 (j8.2 ⟨y,a,e⟩)];exact rZ _ _ _
   exact KD L _ hn.2 h
def KE {L:List (Nat×Nat)} {c:Nat} (h:∀x∈L,x.1≠c):iZ L c=0:=Ha L _ h
def Fx {L:List (Nat×Nat)} {c v:Nat} (a:(L.map (·.1)).Nodup) (h:(c,v)∈L):iZ L c=v:=KD L _ a h
def wL {T:List aG} (h:rising T):(T.map (·.code)).Nodup:=by
 rw[List.Nodup,y4,qT];intro i j c b a;exact xf (rU h c b a)
def Fy {T:List aG} (h:rising T) (c:Nat):iZ (BF T) c=ai T c:=by
 have g:((BF T).map (·.1)).Nodup:=by
  have:(BF T).map (·.1)=T.map (·.code):=by simp[BF]
  rw[this];exact wL h
 unfold ai;cases e:rowOf T c with
 | none=>
   refine KE λx f=>?_;obtain⟨r,d,rfl⟩:=j8.1 f;intro b;rw[<-(show r.code=c from b),aaJ h d] at e;cases e
 | some r=>
   obtain⟨a,i⟩:=gy e;exact Fx g (j8.2 ⟨r,a,by rw[i]⟩)
def KF {T:List aG} {E:List eB} (h:rising T) (m:E.map (·.1)=(mapped T).map (·.code)) (c:Nat) :
 (∃i,∃p:i<E.length,E[i].1=c/\iZ (sP E) c=i+1/\∃r∈T,r.code=c/\r.map≠[])\/(iZ (sP E) c=0/\bP T c=[]/\∀x∈E,x.1≠c):=by
 have u:(E.map (·.1)).Nodup:=by
  rw[m];exact((wL h).sublist ((List.filter_sublist).map _))
 have o:((sP E).map (·.1)).Nodup:=by
  have:(sP E).map (·.1)=E.map (·.1):=by
   unfold sP;rw[m5];have:(λx:eB×Nat=>x.1.1)=(λy:eB=>y.1) ∘ Prod.fst:=rfl;show E.zipIdx.map (λx=>x.1.1)=_;rw[this,<-m5,List.zipIdx_map_fst]
  rw[this];exact u
 by_cases d:∃x∈E,x.1=c
 ·obtain⟨x,d,rfl⟩:=d;obtain⟨i,p,rfl⟩:=l4.1 d;have g:E[i].1∈E.map (·.1):=sX d;rw[m] at g;obtain⟨r,n,e⟩:=j8.1 g;obtain⟨f,j⟩:=i_.1 n;refine .inl ⟨i,p,rfl,Fx o (j8.2 ⟨(E[i],i),?_,rfl⟩),r,f,e,by simpa using j⟩;rw[List.mem_zipIdx_iff_getElem?];exact gx p
 have b:∀x∈E,x.1≠c:=λx f j=>d ⟨x,f,j⟩;refine .inr ⟨KE λy v=>?_,?_,b⟩
 ·obtain⟨z,t,rfl⟩:=j8.1 v;have k:=List.mem_zipIdx t;exact b z.1 (by rw[k.2.2];exact gw _)
 unfold bP;cases e:rowOf T c with
 | none=>rfl
 | some r=>
   obtain⟨f,j⟩:=gy e;cases q:r.map with
   | nil=>exact q
   | cons a l=>
     exfalso;have n:r∈mapped T:=i_.2 ⟨f,by simp[q]⟩;have g:r.code∈(mapped T).map (·.code):=sX n;rw[<-m] at g;obtain⟨x,d,s⟩:=j8.1 g;exact b x d (s.trans j)
def iM {w:World} {p:Nat} {T:List aG} {X:List Nat} (h:cK w p T X) (b:aY T X) (c:Nat) (m:c<1114112) :
 Calls prog 38 #[.pointer (some ⟨p,0,none⟩),.int .i32 c] w λe w'=>e=.returned (.int .i64 (ai T c))/\Below w.heap.size w w':=by
 obtain⟨E,q,xv,C,u,B,t,s,o,A,v,g,j,_⟩:=h;have f:=aa (BC j c m);rw[Fy b.rise] at f;have d:ai T c<65536:=by
  rw[<-Fy b.rise];refine Kj (λx l=>?_) c;obtain⟨r,n,e⟩:=j8.1 l;have:=(b.fine r n).2.1;rw[<-e];exact uJ this (by decide)
 have z:=g.is.at 2 rfl;obtain⟨k,i⟩:=ae (ai T c);rw[<-i] at f d⊢;clear g j i;go_enter func38,ntmps38;go_wp2_with (go_at_call 80;refine f.out.mono ?_;rintro e y⟨rfl,a⟩);go_ret;exact⟨rfl,a⟩
def BO {w:World} {p:Nat} {T:List aG} {X:List Nat} (h:cK w p T X) (n:aY T X) (c:Nat) (y:c<1114112) (g:bP T c=[]) :
 Calls prog 101 #[.pointer (some ⟨p,0,none⟩),.int .i32 c] w λe w'=>e=.returned (.tuple #[.agg #[.slice none 0 0,.slice none 0 0,.bool false],.bool false])/\Below w.heap.size w w':=by
 obtain⟨E,G,xv,U,L,Q,I,H,D,P,M,k,x,l,_⟩:=h;have h0:iZ (sP E) c=0:=by
  rcases KF n.rise k.mG c with⟨i,O,e,_,r,A,B,q⟩|⟨C,_⟩
  ·unfold bP at g;rw[<-B,aaJ n.rise A] at g;exact absurd g q
  exact C
 have b:=ah (w:=w) (.cells #[.slice none 0 0,.slice none 0 0,.bool false] 178);have m:=Is.new w #[.slice none 0 0,.slice none 0 0,.bool false] 178;have o:=aa (BC (l.mono b) c y);rw[h0] at o;have:=(k.is.mono b).at 3 rfl;clear k x l h0 g;go_enter func101,ntmps101;go_wp2_with fail;refine o.out.mono ?_;rintro e N⟨rfl,f⟩;have a:=m.mono f;have:=a.at 0 rfl;have:=a.at 1 rfl;have:=a.at 2 rfl;have:=a.frozen 0;have:=a.frozen 1;have:=a.frozen 2;have j:=((a.set 0 (.slice none 0 0)).set 1 (.slice none 0 0)).set 2 (.bool false);have s:=j.at 0 rfl;have z:=j.at 1 rfl;have t:=j.at 2 rfl;have d:=aj (off:=2) (u:=.bool false) (aj (off:=1) (u:=.slice none 0 0) (aj (off:=0) (u:=.slice none 0 0) (af b f) (d' w.heap.size)) (d' w.heap.size)) (d' w.heap.size);clear m a j;go_wp2_with fail;exact bodyPost_ret (v:=.tuple #[.agg #[.slice none 0 0,.slice none 0 0,.bool false],.bool false]) (by simp[results,results101,go_sem,s,z,t]) rfl ⟨rfl,d⟩
structure afr (w:World) (T:List aG) (X:List Nat) (c:Nat) (x:eB):Prop where
 full:w.ownsRow 0 aN 1 x.2.2.1 (aD T c).length (aM (aD T c))
 maps:w.ownsRow 0 aN 1 x.2.1 (bP T c).length (aM (bP T c))
 qV:x.2.2.2=true↔Prim T X c
def zN {w:World} {p:Nat} {T:List aG} {X:List Nat} (h:cK w p T X) (hV:aY T X) (hl:T.length<1000) (c:Nat) (hc:c<1114112) (hm:bP T c≠[]) :
 Calls prog 101 #[.pointer (some ⟨p,0,none⟩),.int .i32 c] w λe w'=>∃r I q t D s b,e=.returned (.tuple #[.agg #[.slice r I q,.slice t D s,.bool b],.bool true])/\afr w T X c (c,.slice r I q,.slice t D s,b)/\Below w.heap.size w w':=by
 obtain⟨E,rv,xv,ev,bM,jM,cp,pp,iv,sv,mv,k,h2,Y,_⟩:=h;obtain⟨i,C,G,h0⟩:∃i,∃C:i<E.length,E[i].1=c/\iZ (sP E) c=i+1:=by
  rcases KF hV.rise k.mG c with⟨i,C,e,O,_⟩|⟨_,h4,_⟩
  ·exact⟨i,C,e,O⟩
  exact absurd h4 hm
 have yf:E.length<1000:=by
  have:=congrArg List.length k.mG;rw[iz,iz] at this;rw[this];exact lp (lr _ _) hl
 have B:=ah (w:=w) (.cells #[.slice none 0 0,.slice none 0 0,.bool false] 178);have k0:=Is.new w #[.slice none 0 0,.slice none 0 0,.bool false] 178;have U:=aa (BC (Y.mono B) c hc);rw[h0] at U;have P:=gw C;have J:=k.full _ P;have K:=k.maps _ P;have R:=k.qV _ P;obtain⟨g,cap,rfl,L,hg,_,a⟩:=dC (f:=Kr) Vl rfl k.qp C;obtain⟨x,Aq⟩:=ae (E[i]);rw[<-Aq] at a J K R G;rw[G] at J K R;obtain⟨r,q,W,_,_⟩:=ak K;obtain⟨t,s,O,_,_⟩:=ak J;rw[W] at K;rw[O] at J;have d:afr w T X c (c,.slice r (bP T c).length q,.slice t (aD T c).length s,x.2.2.2):=⟨J,K,R⟩;have Q:=(a 0 (by decide)).1;have l:=(a 1 (by decide)).1;have o:=(a 2 (by decide)).1;simp only[Kr,xb,tf,W,O,sC] at Q l o;obtain⟨I,A⟩:∃n,n=(bP T c).length:=⟨_,rfl⟩;obtain⟨D,H⟩:∃n,n=(aD T c).length:=⟨_,rfl⟩;obtain⟨b,V⟩:=ae x.2.2.2;obtain⟨Z,m⟩:∃n,n=E.length:=⟨_,rfl⟩;rw[<-A,<-H,<-V] at d;rw[<-A] at Q;rw[<-H] at l;rw[<-V] at o;have R9:=aa d;have e3:=(k.is.mono B).at 3 rfl;have ac:i<Z:=by rw[m];exact C
 have ab:Z<1000:=by rw[m];exact yf
 have w1:IntKind.u16.wrap (((i+1:Nat):Int)-1)=(i:Int):=by rw[IntKind.wrap_u16];omega
 have F:=k.is;have z:(((i+1:Nat):Int)==0)=false:=by simp;omega
 rw[<-m] at F L e3;clear k h2 Y h0 hm P J K R Aq a G W O A H V d m yf C;obtain⟨j,hj⟩:=ae (i+1);rw[<-hj] at U w1 z;have ad:j<65536:=by omega
 clear hj;go_enter func101,ntmps101;go_wp2_with fail;refine U.out.mono ?_;rintro e w6⟨rfl,N⟩;have M:=af B N;have y:=k0.mono N;have f0:=y.at 0 rfl;have f1:=y.at 1 rfl;have f2:=y.at 2 rfl;have q0:=y.frozen 0;have q1:=y.frozen 1;have q2:=y.frozen 2;have e4:=(F.mono M).at 4 rfl;have d0:=aB M Q;have d1:=aB M l;have d2:=aB M o;have S:=((y.set 0 (.slice r I q)).set 1 (.slice t D s)).set 2 (.bool b);have g0:=S.at 0 rfl;have g1:=S.at 1 rfl;have g2:=S.at 2 rfl;have d:=aa (aj (off:=2) (u:=.bool b) (aj (off:=1) (u:=.slice t D s) (aj (off:=0) (u:=.slice r I q) M (d' w.heap.size)) (d' w.heap.size)) (d' w.heap.size));clear k0 y S Q l o F e3 U;go_wp2_with fail;exact bodyPost_ret (v:=.tuple #[.agg #[.slice r I q,.slice t D s,.bool b],.bool true]) (by simp[results,results101,go_sem,g0,g1,g2]) rfl ⟨r,I,q,t,D,s,b,rfl,R9.out,d.out⟩
def pG {w:World} {p:Nat} {T:List aG} {X:List Nat} (h:cK w p T X) (v:aY T X) (N:T.length<1000) (c:Nat) (G:c<1114112) :
 Calls prog 67 #[.pointer (some ⟨p,0,none⟩),.int .i32 c] w λe w'=>∃r,e=.returned r/\w'.ownsRow w.heap.size aN 1 r (aD T c).length (aM (aD T c))/\Below w.heap.size w w':=by
 have g:=aa (Ng (w:=w) c G);by_cases U:4<=hk c
 ·have hf:=(qX v U).1;have i:hparts c≠[]:=λe=>by have:=iC.1 e;omega
  have k:=ke.2 i;rw[hf];obtain⟨n,j⟩:=ae ((hparts c).length);obtain⟨l,q⟩:=ae (aM (hparts c));rw[<-j] at k g⊢;rw[<-q] at g⊢;clear j q hf i h;go_enter func67,ntmps67;go_wp2_with fail;refine g.out.mono ?_;rintro e x⟨r,rfl,f,d⟩;obtain⟨a,cap,rfl,_,_⟩:=ak f;have:decide (0<n)=true:=by simp;omega
  have M:=aa f;clear f;go_wp2_with fail;go_ret;exact⟨_,rfl,M.out,d⟩
 have i:hparts c=[]:=iC.2 (by omega);rw[i] at g;by_cases s:bP T c=[]
 ·have hf:aD T c=[c]:=by
   unfold aD;exact iK (by unfold mapOf;rw[if_pos (by omega),s]) _
  rw[hf];have A:=aa (λ(W:World) (E:Below w.heap.size w W)=>BO (h.mono E) v c G s);clear hf h s i;go_enter func67,ntmps67;go_wp2_with fail;refine g.out.mono ?_;rintro e x⟨r,rfl,f,d⟩;obtain⟨a,cap,rfl,_,_⟩:=ak f;simp only[kp];clear f;go_wp2_with fail;refine(A.out x d).mono ?_;rintro e o⟨rfl,u⟩;have t:=af d u;go_wp2_with fail;go_ret;have f:=mU (o.alloc (.cells #[.slice none 0 0,.slice none 0 0,.bool false] 178)) #[.int .i32 (c:Nat)] aN 1 rfl (by decide);have K:=t.size;rw[nh] at f;exact⟨_,rfl,aT f (by omega),af t (dH _ _)⟩
 have A:=aa (λ(W:World) (E:Below w.heap.size w W)=>zN (h.mono E) v N c G s);have O:=aa (il v c);clear h s i;go_enter func67,ntmps67;go_wp2_with fail;refine g.out.mono ?_;rintro e x⟨r,rfl,f,d⟩;obtain⟨a,cap,rfl,_,_⟩:=ak f;simp only[kp];clear f;go_wp2_with fail;refine(A.out x d).mono ?_;rintro e o⟨B,I,y,H,D,F,b,rfl,C,u⟩;have t:=af d u;have Q:=Is.new o #[.slice B I y,.slice H D F,.bool b] 178;have:=Q.at 1 rfl;have J:=ah (w:=o) (.cells #[.slice B I y,.slice H D F,.bool b] 178);have S:=aa (kX (w:=o.alloc (.cells #[.slice B I y,.slice H D F,.bool b] 178)) (aD T c) ((Sl.aU C.full).mono (af u J)) (fU.aU C.full) (by have:=O.out;omega));have m:=af t J;have K:=m.size;clear C;go_wp2_with fail;refine S.out.mono ?_;rintro e V⟨r,rfl,L,R⟩;have P:=aa L;clear L;go_wp2_with fail;go_ret;exact⟨_,rfl,aT P.out K,af m R⟩
abbrev fu:TypeId:=95
abbrev eX:TypeId:=90
def jT (x:Nat×Value):List Value:=[.int .i64 x.1,x.2]
def R_ (x:Nat×Value):(jT x).length=2:=rfl
def BP:mV prog 86 fu (.agg #[.int .i64 0,.slice none 0 0]) 2 32:=⟨rfl,underlying86,info_parts (by kernel_rfl)⟩
def Zk (v:Value):Prop:=∃a n c,v=.slice a n c
def Zk.own {w:World} {base b n:Nat} {e:TypeId} {v:Value} {d:List Value} (h:w.ownsRow base e b v n d):Zk v:=by obtain⟨a,c,rfl,_⟩:=ak h;exact⟨_,_,_,rfl⟩
def KH {w:World} (x:Nat) (m:Value) (c:Nat) (f:x<1000000) (d:c<1000000) :
 Calls prog 40 #[.agg #[.int .i64 x,m],.int .i64 c] w λe w'=>e=.returned (.int .i64 ((x:Int)-c))/\Below w.heap.size w w':=by
 have b:=ah (w:=w) (.cells #[.int .i64 x,m] fu);have a:=Is.new w #[.int .i64 x,m] fu;have:=a.at 0 rfl;go_enter func40,ntmps40;go_wp2;go_ret;exact⟨by simp,b⟩
def abr (L:List (Nat×Value)) (c k:Nat) (b:Bool):Prop:=k<=L.length/\(∀t (a:t<L.length),t<k->L[t].1<c)/\(∀t (a:t<L.length),k<=t->c<=L[t].1)/\(b=true↔∃d:k<L.length,L[k].1=c)
def Hd {w:World} {base:Nat} {v:Value} {L:List (Nat×Value)} (h:w.ownsRow base fu 2 v L.length (L.flatMap jT)) (hv:∀x∈L,Zk x.2) (hs:L.Pairwise λa b=>a.1<b.1) (hT:∀r∈L,r.1<1000000) (hl:L.length<1000000) (c:Nat) (hc:c<1000000) :
 Calls prog 39 #[v,.int .i64 c,.func (.func 40) #[] #[]] w λe w'=>
  ∃(k:Nat) (b:Bool),e=.returned (.tuple #[.int .i64 k,.bool b])/\abr L c k b/\Below w.heap.size w w':=by
 have HX:=aa (λ(i:Nat) (d:i<L.length)=>dC (f:=jT) R_ rfl h d);obtain⟨a,cap,rfl,_,_⟩:=ak h;obtain⟨n,M⟩:=ae L.length;have F:=aa M;have Y:=aa hv;have HS:=aa (show ∀i j (d:i<L.length) (hj:j<L.length),i<j->L[i].1<L[j].1 from λi j d hj V=>(qT.1 hs) i j d hj V);have HT:=aa hT;rw[<-M] at hl⊢;clear h M hs hT hv;go_enter func39,ntmps39;go_wp2
 go_loopg [9,10] n (λg s7 s8 wr=>∃q d:Nat,s7=.int .i64 q/\s8=.int .i64 d/\q<=d/\d<=n/\d-q<=g/\Below w.heap.size w wr/\(∀t (p:t<L.length),t<q->L[t].1<c)/\(∀t (p:t<L.length),d<=t->c<=L[t].1))
 case atStart=>exact⟨0,n,rfl,rfl,ic _,d' _,by omega,gS _ _,λt _ p=>absurd p (tM _),λt N U=>by have:=F.out;omega⟩
 case round=>
  obtain⟨q,d,rfl,rfl,ad,D,hg,B,N,U⟩:=hrel;have I:=aa (And.intro N U);clear N U;by_cases ab:q<d
  ·obtain⟨h,hh⟩:=ae ((q+d) / 2);have A:h<L.length:=by have:=F.out;omega
   have ac:q<=h/\h<d:=by omega
   have e7:((q:Int)+(d:Int)) / 2=(h:Int):=by omega
   obtain⟨H,K,l,_,_,_,m⟩:=HX.out h A;have T:=aB B (show w.cell? ⟨H,h*2,none⟩=some (.int .i64 (L[h].1:Nat)) from (m 0 (by decide)).1);have S:=aB B (show w.cell? ⟨H,h*2+1,none⟩=some L[h].2 from (m 1 (by decide)).1);have s:=HT.out _ (gw A);obtain⟨X,nm,O,u⟩:=Y.out _ (gw A);rw[u] at S;obtain⟨y,E⟩:=ae (L[h].1);rw[<-E] at T s;have Y1:=aa (λt (p:t<L.length) (z:t<h)=>(show L[t].1<y from by rw[E];exact HS.out t h p A z));have Y2:=aa (λt (p:t<L.length) (z:h<t)=>(show y<L[t].1 from by rw[E];exact HS.out h t A p z));have YE:=aa (show ∀t (p:t<L.length),t=h->L[t].1=y from λt p e=>by subst e;exact E.symm);have J:=aa (λW=>KH (w:=W) y (.slice X nm O) c s hc);injection l with l _ G;subst G;subst l;clear m u E hh;by_cases C:y<c
   ·have Q:decide ((y:Int)-(c:Int)<0)=true:=by simp;omega
    go_wp2_with (go_at_call 40;refine(J.out _).mono ?_;rintro e R⟨rfl,o⟩)
    go_roundg (d-(h+1))
    case measure=>omega
    case rel=>
     refine⟨h+1,d,by simp,rfl,by omega,D,d' _,af B o,λt p z=>?_,I.out.2⟩;rcases ki t h with h3|h3
     ·have:=Y1.out t p h3;omega
     have:=YE.out t p (by omega);omega
   have Q:decide ((y:Int)-(c:Int)<0)=false:=by simp;omega
   go_wp2_with (go_at_call 40;refine(J.out _).mono ?_;rintro e R⟨rfl,o⟩)
   go_roundg (h-q)
   case measure=>omega
   case rel=>
    refine⟨q,h,rfl,rfl,by omega,by omega,d' _,af B o,I.out.1,λt p z=>?_⟩;rcases ki h t with h3|h3
    ·have:=Y2.out t p h3;omega
    have:=YE.out t p (by omega);omega
  have:d=q:=by omega
  subst this;by_cases M:d<n
  ·have A:d<L.length:=by have:=F.out;omega
   obtain⟨H,K,l,_,_,_,m⟩:=HX.out d A;have T:=aB B (show w.cell? ⟨H,d*2,none⟩=some (.int .i64 (L[d].1:Nat)) from (m 0 (by decide)).1);have S:=aB B (show w.cell? ⟨H,d*2+1,none⟩=some L[d].2 from (m 1 (by decide)).1);have s:=HT.out _ (gw A);obtain⟨X,nm,O,u⟩:=Y.out _ (gw A);rw[u] at S;obtain⟨y,E⟩:=ae (L[d].1);rw[<-E] at T s;have Z:=aa E;have J:=aa (λW=>KH (w:=W) y (.slice X nm O) c s hc);injection l with l _ G;subst G;subst l;clear m u E;by_cases C:y=c
   ·have Q:(((y:Int)-(c:Int))==0)=true:=by simp;omega
    have P:=aa C;clear C;go_wp2_with (go_at_call 40;refine(J.out _).mono ?_;rintro e R⟨rfl,o⟩);go_ret2;exact⟨d,true,by first|rfl|simp,⟨by rw[<-F.out];exact D,I.out.1,I.out.2,⟨λ_=>⟨A,by rw[<-Z.out];exact P.out⟩,λ_=>rfl⟩⟩,af B o⟩
   have Q:(((y:Int)-(c:Int))==0)=false:=by simp;omega
   go_wp2_with (go_at_call 40;refine(J.out _).mono ?_;rintro e R⟨rfl,o⟩);go_ret2;exact⟨d,false,by first|rfl|simp,⟨by rw[<-F.out];exact D,I.out.1,I.out.2,⟨λh=>(by cases h),λ⟨_,h⟩=>absurd (Z.out.trans h) C⟩⟩,af B o⟩
  go_wp2_with (go_at_call 40;trivial);go_ret2;exact⟨d,false,by first|rfl|simp,⟨by rw[<-F.out];exact D,I.out.1,I.out.2,⟨λh=>(by cases h),λ⟨hk,_⟩=>absurd hk (by have:=F.out;omega)⟩⟩,B⟩
def N8 {P:Program} {W:World} {ops:Array Oper} {rest:List Oper} {o:Oper} {a:Act} {Q:Exit->Act->World->Prop} (O:o.guard=none) (s x:Operand) (t:TypeId)
 (ho:o.op=.call { callee:=.builtin .append,args:=#[s,x],argTypes:=#[t,t] })
 (base:Nat) (e:TypeId) (z:Value) (d b:Nat) (Z:mV P t e z d b) (L:0<d) (aa:d<=1000) (kT:0<b) (Y:b<=100000)
 {v:Value} {n:Nat} {I:List Value} (hs:a.eval s=v) (k:W.ownsRow base e d v n I) (w:base<=W.heap.size)
 (us:List Value) (X:∀u∈us,u.oneCell'=true) (r:Addr) (m c:Nat) (J:us.length=m*d) (hx:a.eval x=.slice (some r) m c) (G:∀j u,us[j]? = some u->W.cell? (r.add j)=some u) (hn:n+m<1000000)
 (h:∀v' R,R.ownsRow base e d v' (n+m) (I++us)->W.grownBy R v.ownBlock->kK W v v'->wpList P ops Q rest (a.put o.dst v') R):wpList P ops Q (o::rest) a W:=by
 obtain⟨T,C,i,B,M,f,A⟩:=Z;have H:us.length=m*i.size:=by rw[f];exact J
 have N:(n+m)*b<=140737488355328:=by
  have:(n+m)*b<=1000000*100000:=pP (by omega) Y;omega
 obtain⟨v',w',q,h2,h3,_⟩:=run_append_own (P:=P) W base t o.type e i z d b C B M f A T L v n I k r m c us J G X (by unfold maxLen;omega) N w;refine so _ O s x _ _ ho v _ hs hx v' w' q (h v' w' h2 h3 ?_);rcases pB m with hm0|hm0
 ·have S:us=[]:=iJ.1 (by rw[J,hm0,ur]);subst S;subst hm0;have l:(Builtin.append_ #[t,t] o.type #[v,.slice (some r) 0 c]).run P W=.ok v W:=by
   rcases k.2 with⟨rfl,rfl⟩|⟨g,cap,F,rfl,K,V,D,U,E,y⟩
   ·simp[Builtin.append_,run_underlying C,sizeOf,typeInfo,B,Builtin.lenOf,run_firstCells_some (P:=P) W i.size 0 r 0 c [] H G]
   simp[Builtin.append_,run_underlying C,sizeOf,typeInfo,B,Builtin.lenOf,D,Builtin.firstCells,loadCells,loadCellsFrom,storeCells]
  rw[l] at q;injection q with e1 _;subst e1;exact .inl rfl
 rcases k.2 with⟨rfl,rfl⟩|⟨g,cap,F,rfl,K,V,D,U,E,y⟩
 ·have l:=run_append_nil (P:=P) W t o.type e i z C B M r m c us H G hm0 (by omega) (by rw[A];have:=pP (show m<=1000000 by omega) Y;omega);rw[l] at q;injection q with e1 _;subst e1;exact .inr ⟨_,rfl,d' _⟩
 by_cases p:n+m<=cap
 ·have l:=run_append_room (P:=P) W t o.type e i C B g n cap F V r m c us H G X p (by rw[J,f,E,<-mw];exact m9 _ p);rw[l] at q;injection q with e1 _;subst e1;exact .inl rfl
 have l:=run_append_grow (P:=P) W t o.type e i z C B M ⟨g,0,none⟩ n cap I (by rw[f];exact k.1) (k.cells (g:=g) rfl) r m c us H G (by omega) (by omega) (growslice_fits (by omega) (by rw[A];omega));rw[l] at q;injection q with e1 _;subst e1;exact .inr ⟨_,rfl,d' _⟩
def BQ {w:World} {base:Nat} {v:Value} {L:List (Nat×Value)} (o:w.ownsRow base fu 2 v L.length (L.flatMap jT)) (t:base<=w.heap.size) (E:L.length<100000) (x:Nat×Value) (p:x.2.oneCell'=true) {c:Nat} (m:Is w c (jT x).toArray fu) :
 Calls prog 41 #[v,.int .i64 L.length,.slice (some ⟨c,0,none⟩) 1 1] w λe w'=>∃v',e=.returned v'/\w'.ownsRow base fu 2 v' (L.length+1) ((L++[x]).flatMap jT)/\w.grownBy w' v.ownBlock/\kK w v v':=by
 obtain⟨n,y⟩:=ae L.length;obtain⟨H,l⟩:=ae (L.flatMap jT);have I:=aa (show(L++[x]).flatMap jT=H++jT x from by rw[j7,l];simp);rw[<-y] at E⊢;rw[<-y,<-l] at o;have a:∀(j:Nat) (u:Value),(jT x)[j]? = some u->w.cell? ((⟨c,0,none⟩:Addr).add j)=some u:=λj u G=>by
  have D:(⟨c,0,none⟩:Addr).add j=⟨c,j,none⟩:=by unfold Addr.add;split <;> simp_all
  rw[D];exact m.at j (by simpa using G)
 have s:=aa a;have r:=aa o;have i:∀u∈jT x,u.oneCell'=true:=λu A=>by
  simp only[jT,jt,kt,or_false] at A;rcases A with rfl|rfl
  ·rfl
  exact p
 have k:=aa i;clear y l a i m;rw[I.out];rcases o.2 with⟨rfl,h0⟩|⟨g,cap,F,rfl,_,_,z,_⟩
 ·subst h0;clear o;go_enter func41,ntmps41;go_wp2_with (refine N8 (W:=w) rfl _ _ 86 rfl base fu _ 2 32 BP (by decide) (by decide) (by decide) (by decide) (v:=.slice none 0 0) rfl r.out t (jT x) k.out ⟨c,0,none⟩ 1 1 rfl rfl s.out (by omega) ?_;intro C B d f h;have b:=aa (And.intro d (And.intro f h));clear d f h);go_ret;exact⟨_,rfl,b.out.1,b.out.2.1,b.out.2.2⟩
 clear o;by_cases q:n=cap
 ·subst q;go_enter func41,ntmps41;go_wp2_with (refine N8 (W:=w) rfl _ _ 86 rfl base fu _ 2 32 BP (by decide) (by decide) (by decide) (by decide) (v:=.slice (some ⟨g,0,none⟩) n n) rfl r.out t (jT x) k.out ⟨c,0,none⟩ 1 1 rfl rfl s.out (by omega) ?_;intro C B d f h;have b:=aa (And.intro d (And.intro f h));clear d f h);go_ret;exact⟨_,rfl,b.out.1,b.out.2.1,b.out.2.2⟩
 go_enter func41,ntmps41;go_wp2_with (refine N8 (W:=w) rfl _ _ 86 rfl base fu _ 2 32 BP (by decide) (by decide) (by decide) (by decide) (v:=.slice (some ⟨g,0,none⟩) n cap) rfl r.out t (jT x) k.out ⟨c,0,none⟩ 1 1 rfl rfl s.out (by omega) ?_;intro C B d f h;have b:=aa (And.intro d (And.intro f h));clear d f h);go_ret;exact⟨_,rfl,b.out.1,b.out.2.1,b.out.2.2⟩
section
open Go.RowKit Go.Cd
abbrev d_:=Nat×Value×List Nat
def fB (x:d_):List Value:=[.int .i64 x.1,x.2.1]
def jC (x:d_):(fB x).length=2:=rfl
abbrev cB:=Nat×Value×List d_
def lV (x:cB):List Value:=[.int .i32 x.1,x.2.1,.slice none 0 0,.slice none 0 0,.int .i64 0,.int .i64 0]
def aa1 (x:cB):(lV x).length=6:=rfl
def Zl:mV Tryz.prog 82 eX (.agg #[.int .i32 0,.slice none 0 0,.slice none 0 0,.slice none 0 0,.int .i64 0,.int .i64 0]) 6 96:=⟨rfl,Tryz.underlying82,info_parts (by kernel_rfl)⟩
def N_ (w:World) (F:Nat) (e:TypeId) (size:Nat) (v:Value) (n:Nat) (xs:List Value):Prop:=w.ownsRow 0 e size v n xs/\∀k,v.ownBlock=some k->k<F
def N_.low {w w':World} {F n a:Nat} {e:TypeId} {v:Value} {b:List Value} (h:N_ w F e a v n b) (c:Below F w w'):N_ w' F e a v n b:=⟨aad h.1 λk d=>c.block k (h.2 k d),h.2⟩
def N_.of {w:World} {B n a:Nat} {e:TypeId} {v:Value} {b:List Value} (h:w.ownsRow B e a v n b):N_ w w.heap.size e a v n b:=⟨aT h (ic _),λk c=>(h.lt k c).2⟩
def N_.le {w:World} {F c n a:Nat} {e:TypeId} {v:Value} {b:List Value} (h:N_ w F e a v n b) (d:F<=c):N_ w c e a v n b:=⟨h.1,λk f=>kh (h.2 k f) d⟩
structure oz (w w':World) (F:Nat) (e:TypeId):Prop where
 size:w.heap.size<=w'.heap.size
 keep:∀k,k<F->mZ w k e->w'.heap[k]? = w.heap[k]?
def oz.owF {w w':World} {F n a:Nat} {e:TypeId} (h:oz w w' F e) {v:Value} {c:List Value} (b:N_ w F e a v n c):N_ w' F e a v n c:=⟨aad b.1 λk d=>h.keep k (b.2 k d) (bV b.1 d),b.2⟩
def oz.fV {w w':World} {t e:TypeId} (h:bJ w w' t) (a:e≠t) (F:Nat) (d:F<=w.heap.size):oz w w' F e:=⟨h.size,λk f c=>h.keep k (by omega) λb=>a (c.one b)⟩
def oz.of_below {w w':World} {F:Nat} {e:TypeId} (h:Below F w w') (b:w.heap.size<=w'.heap.size):oz w w' F e:=⟨b,λk a _=>h.block k a⟩
def wM (w:World) (F:Nat) (r:cB):Prop:=N_ w F fu 2 r.2.1 r.2.2.length (r.2.2.flatMap fB)/\∀x∈r.2.2,N_ w F aN 1 x.2.1 x.2.2.length (aM x.2.2)
def wM.keep {w w':World} {F:Nat} {r:cB} (h:wM w F r) (b:oz w w' F fu) (a:oz w w' F aN):wM w' F r:=⟨b.owF h.1,λx c=>a.owF (h.2 x c)⟩
def wM.le {w:World} {F b:Nat} {r:cB} (h:wM w F r) (a:F<=b):wM w b r:=⟨h.1.le a,λx c=>(h.2 x c).le a⟩
structure He (w:World) (F G:Nat) (r:cB):Prop where
 row:w.ownsRow F fu 2 r.2.1 r.2.2.length (r.2.2.flatMap fB)
 old:∀x∈r.2.2.dropLast,N_ w G aN 1 x.2.1 x.2.2.length (aM x.2.2)
 last:∀x,r.2.2.getLast? = some x->w.ownsRow G aN 1 x.2.1 x.2.2.length (aM x.2.2)
 fg:F<=G
 gs:G<=w.heap.size
def He.Ae {w:World} {F G:Nat} {r:cB} (h:He w F G r):wM w w.heap.size r:=by
 refine⟨N_.of h.row,λx a=>?_⟩;rcases oR r.2.2 with e|⟨q,y,e⟩
 ·rw[e] at a;cases a
 have b:r.2.2=q++[y]:=by simpa using e
 rw[b] at a;rcases ie.1 a with a|a
 ·exact(h.old x (by rw[b];simpa using a)).le h.gs
 rw[gE.1 a];exact N_.of (h.last y (by rw[b];simp))
def He.ext {w w':World} {F G:Nat} {r:cB} (h:He w F G r) (a:Below w.heap.size w w'):He w' F G r:=
 ⟨aH h.row a,λx b=>(h.old x b).low (a.mono h.gs),λx b=>aH (h.last x b) a,h.fg,ia h.gs a.size⟩
def He.iQ {w w':World} {F G:Nat} {r:cB} (h:He w F G r) {t:TypeId} (a:bJ w w' t) (d:fu≠t) (c:aN≠t):He w' F G r:=
 ⟨a.own h.row d,λx b=>(oz.fV a c G h.gs).owF (h.old x b),λx b=>a.own (h.last x b) c,h.fg,ia h.gs a.size⟩
structure Jb (w:World) (B p:Nat) (dv rs:Value) (Rs:List cB) (c:cB) (F G:Nat):Prop where
 is:Is w p #[dv,rs,.slice none 0 0,.bool false] 84
 runs:w.ownsRow B eX 6 rs (Rs.length+1) ((Rs++[c]).flatMap lV)
 Ae:∀r∈Rs,wM w F r
 cur:He w F G c
 low:B<=p
section
variable {w w' : World} {B p : Nat} {dv rs : Value} {Rs : List cB} {c : cB} {F G : Nat}
def Jb.ext (h:Jb w B p dv rs Rs c F G) (a:Below w.heap.size w w'):Jb w' B p dv rs Rs c F G:=
 ⟨h.is.mono a,aH h.runs a,λr b=>(h.Ae r b).keep (.of_below (a.mono (ia h.cur.fg h.cur.gs)) a.size) (.of_below (a.mono (ia h.cur.fg h.cur.gs)) a.size),h.cur.ext a,h.low⟩
def Jb.Zm (h:Jb w B p dv rs Rs c F G) {a:Value} {hd:Nat} (k:w'.ownsRow B eX 6 a (Rs.length+2) ((Rs++[c]).flatMap lV++lV (hd,.slice none 0 0,[]))) (j:w.grownBy w' rs.ownBlock) :
 Jb (w'.setCell ⟨p,1,none⟩ a) B p dv a (Rs++[c]) (hd,.slice none 0 0,[]) w'.heap.size w'.heap.size:=by
 have b:=bJ.bQ h.runs j;have i:=b.is h.is (by decide);have g:=bJ.put (o:=1) i a;have e:F<=w.heap.size:=ia h.cur.fg h.cur.gs;have l:=(h.cur.iQ b (by decide) (by decide)).iQ g (by decide) (by decide);have f:(w'.setCell ⟨p,1,none⟩ a).heap.size=w'.heap.size:=by simp
 refine⟨i.set 1 a,?_,λr d=>?_,⟨iS _ _ _ _,by simp,by simp,d' _,by rw[f];exact d' _⟩,h.low⟩
 ·have:=g.own k (by decide);rw[j7,gn];simpa using this
 rcases ie.1 d with d|d
 ·refine wM.le (((h.Ae r d).keep (.fV b (by decide) F e) (.fV b (by decide) F e)).keep (.fV g (by decide) F (ia e b.size)) (.fV g (by decide) F (ia e b.size))) (ia e b.size)
 rw[gE.1 d];have:=l.Ae;rw[f] at this;exact this
end
def KJ {α:Type} (f:α->List Value) (m:Nat) (hf:∀a,(f a).length=m) (Rs:List α) (c b:α) (j:Nat) (u:Value) (e:j<m) (d:(f c).set j u=f b):((Rs++[c]).flatMap f).set (Rs.length*m+j) u=(Rs++[b]).flatMap f:=by
 rw[j7,j7,mm (h:=by rw[vW f m hf];omega),vW f m hf,lk];simp[d]
section
variable {w w' : World} {B p : Nat} {dv rs : Value} {Rs : List cB} {F G : Nat}
def yg {w w':World} {F B n a:Nat} {e t:TypeId} {v:Value} {c:List Value} (f:w.ownsRow B e a v n c) (b:w.grownBy w' v.ownBlock) (g:F<=B) (i:F<=w.heap.size):oz w w' F t:=
 ⟨b.size,λk h _=>b.block k (by omega) λd=>by have:=(f.lt k d.symm).1;omega⟩
def Jb.Vy {hd:Nat} {j:Value} {Ls:List d_} {g k cap:Nat} (h:Jb w B p dv (.slice (some ⟨g,0,none⟩) k cap) Rs (hd,j,Ls) F G) {b:Value} {n:Nat} (z:w'.ownsRow F fu 2 b (Ls.length+1) (Ls.flatMap fB++fB (n,.slice none 0 0,[]))) (q:w.grownBy w' j.ownBlock) :
 Jb (w'.setCell ⟨g,Rs.length*6+1,none⟩ b) B p dv (.slice (some ⟨g,0,none⟩) k cap) Rs (hd,b,Ls++[(n,.slice none 0 0,[])]) F w'.heap.size:=by
 have i:F<=w.heap.size:=ia h.cur.fg h.cur.gs;have a:=bJ.bQ h.cur.row q;have c:=a.own h.runs (by decide);obtain⟨v,m⟩:=bV c (k:=g) rfl;have d:=bJ.put (o:=Rs.length*6+1) (⟨m⟩:Is w' g v eX) b;have l:(w'.setCell ⟨g,Rs.length*6+1,none⟩ b).heap.size=w'.heap.size:=by simp
 have t:k=Rs.length+1:=by
  obtain⟨_,_,e,_⟩:=ak c;injection e with _ e _
 have s:=h.cur;refine⟨d.is (a.is h.is (by decide)) (by decide),?_,λr y=>?_,⟨?_,λx f=>?_,λx f=>?_,?_,by rw[l];exact d' _⟩,h.low⟩
 ·have:=(t▸c).stored (Rs.length*6+1) b;rw[KJ lV 6 aa1 Rs (hd,j,Ls) (hd,b,Ls++[(n,.slice none 0 0,[])]) 1 b (by decide) rfl] at this;rw[t];exact this.1
 ·exact((h.Ae r y).keep (yg s.row q (d' _) i) (.fV a (by decide) F i)).keep (.fV d (by decide) F (ia i a.size)) (.fV d (by decide) F (ia i a.size))
 ·have:=d.own z (by decide);rw[j7,gn];simpa using this
 ·rw[rl] at f;have u:=(s.Ae).2 x f;exact(oz.fV d (by decide) _ (d' _)).owF (((oz.fV a (by decide) _ (d' _)).owF u).le a.size)
 ·rw[mx] at f;cases f;exact iS _ _ _ _
 exact ia i a.size
def Jb.Zn {hd:Nat} {Ls:List d_} {n:Nat} {v v':Value} {l:List Nat} {gl k cap:Nat} (h:Jb w B p dv rs Rs (hd,.slice (some ⟨gl,0,none⟩) k cap,Ls++[(n,v,l)]) F G) {m:Nat} (D:w'.ownsRow G aN 1 v' (l++[m]).length (aM (l++[m]))) (j:w.grownBy w' v.ownBlock) :
 Jb (w'.setCell ⟨gl,Ls.length*2+1,none⟩ v') B p dv rs Rs (hd,.slice (some ⟨gl,0,none⟩) k cap,Ls++[(n,v',l++[m])]) F G:=by
 have b:=h.cur;have t:F<=w.heap.size:=ia b.fg b.gs;have a:=b.last (n,v,l) (by simp);have d:=bJ.bQ a j;have c:=d.own b.row (by decide);obtain⟨A,s⟩:=bV c (k:=gl) rfl;have i:=bJ.put (o:=Ls.length*2+1) (⟨s⟩:Is w' gl A fu) v';have q:F<=gl:=(c.lt gl rfl).1;have u:k=Ls.length+1:=by
  obtain⟨_,_,e,_⟩:=ak c;injection e with _ e _;simpa using e
 have g:Below F w' (w'.setCell ⟨gl,Ls.length*2+1,none⟩ v'):=(gS _ _).setCell q v';refine⟨i.is (d.is h.is (by decide)) (by decide),?_,λr C=>?_,⟨?_,λx f=>?_,λx f=>?_,b.fg,by have:=b.gs;have:=d.size;simp;omega⟩,h.low⟩
 ·have:=i.own (d.own h.runs (by decide)) (by decide);rw[j7] at this⊢;exact this
 ·exact((h.Ae r C).keep (.fV d (by decide) F t) (yg a j b.fg t)).keep (.of_below g g.size) (.of_below g g.size)
 ·have z:w'.ownsRow F fu 2 (.slice (some ⟨gl,0,none⟩) k cap) k ((Ls++[(n,v,l)]).flatMap fB):=by
   have:=c;rw[show(hd,Value.slice (some ⟨gl,0,none⟩) k cap,Ls++[(n,v,l)]).2.2.length=k by simp[u]] at this;exact this
  have:=z.stored (Ls.length*2+1) v';rw[KJ fB 2 jC Ls (n,v,l) (n,v',l++[m]) 1 v' (by decide) rfl] at this;rw[show(hd,Value.slice (some ⟨gl,0,none⟩) k cap,Ls++[(n,v',l++[m])]).2.2.length=k by simp[u]];exact this.1
 ·simp only[rl] at f;have y:=b.old x (by simpa using f);exact(oz.fV i (by decide) G (ia b.gs d.size)).owF ((yg a j (d' _) b.gs).owF y)
 simp only[mx] at f;cases f;exact i.own D (by decide)
end
end
end Go.Proofs.YtmnimbnojdndmaaGreatDoor
namespace Go.Cd
section
section
variable (K : Nat -> Nat)
def KL {a:Nat}:∀(B x y:List Nat),(∀b∈B,swp K a b)->gL K (x++a::(B++y))=gL K (x++(B++a::y))
 | [],_,_,_=>rfl
 | b::B,x,y,h=>by
   have e:=x_ K (h b (by simp)) (B++y) x;have d:=KL B (x++[b]) y (λc f=>h c (by simp[f]));simp only[kl,tm] at d;rw[lz,e,d];rfl
def Qn:∀(A B x y:List Nat),(∀a∈A,∀b∈B,swp K a b)->gL K (x++(A++(B++y)))=gL K (x++(B++(A++y)))
 | [],_,_,_,_=>rfl
 | a::A,B,x,y,h=>by
   have e:=Qn A B (x++[a]) y (λc g b d=>h c (by simp[g]) b d);have f:=KL K B x (A++y) (λb d=>h a (by simp) b d);simp only[kl,tm] at e;rw[lz,e,f];rfl
def up (l:List Nat):Prop:=l.Pairwise λa b=>K a<=K b
def BR:∀{l:List Nat},up K l->dJ K l
 | [],_=>trivial
 | [_],_=>trivial
 | a::b::l,h=>by
   unfold up at h;rw[mT] at h;refine⟨?_,BR h.2⟩;have:=h.1 b (by simp);unfold swp;omega
def Sb {l m:List Nat}:dJ K l->dJ K m->(∀c,m.head? = some c->K c=0)->dJ K (l++m):=by
 intro e d h0
 induction l with
 | nil=>exact d
 | cons a l ih=>
   cases l with
   | nil=>
     cases m with
     | nil=>trivial
     | cons c m=>exact⟨by unfold swp;have:=h0 c rfl;omega,d⟩
   | cons b l=>exact⟨e.1,ih e.2⟩
end
end
section
section
variable (K : Nat -> Nat)
def fe (l m:List Nat):Prop:=l.Perm m/\∀x y,gL K (x++(l++y))=gL K (x++(m++y))
variable {K}
def fe.refl (l:List Nat):fe K l l:=⟨.refl _,λ_ _=>rfl⟩
def fe.trans {l m n:List Nat} (h:fe K l m) (k:fe K m n):fe K l n:=⟨h.1.trans k.1,λx y=>(h.2 x y).trans (k.2 x y)⟩
def fe.len {l m:List Nat} (h:fe K l m):m.length=l.length:=h.1.length_eq.symm
def fe.mem {l m:List Nat} (h:fe K l m) {x:Nat}:x∈m↔x∈l:=h.1.mem_iff.symm
def fe.app {l m l' c:List Nat} (h:fe K l m) (k:fe K l' c):fe K (l++l') (m++c):=by
 refine⟨h.1.append k.1,λx y=>?_⟩;have b:=h.2 x (l'++y);have a:=k.2 (x++m) y;simp only[kl] at b a⊢;rw[b,a]
def fe.rot {A B:List Nat} (h:∀a∈A,∀b∈B,swp K a b):fe K (A++B) (B++A):=by
 refine⟨List.perm_append_comm,λx y=>?_⟩;have:=Qn K A B x y h;simp only[kl] at this⊢;exact this
def Ar {l:List Nat} {a:Nat} (h:a∈l):∃z,l.getLast? = some z:=by
 have b:l≠[]:=λe=>by rw[e] at h;cases h
 exact⟨_,rL b⟩
def acm:up K []:=List.Pairwise.nil
def acn (a:Nat):up K [a]:=by unfold up;simp
def aR {l m:List Nat}:up K (l++m)↔up K l/\up K m/\∀a∈l,∀b∈m,K a<=K b:=by unfold up;exact lE
def Au {l:List Nat} (h:up K l) {a z:Nat} (c:l.getLast? = some z) (b:a∈l):K a<=K z:=by
 obtain⟨l',rfl⟩:∃l',l=l'++[z]:=by
  have d:l≠[]:=λe=>by rw[e] at b;cases b
  refine⟨l.dropLast,?_⟩;rw[rL d] at c;injection c with c;rw[<-c,p6]
 rcases ie.1 b with b|b
 ·exact(aR.1 h).2.2 a b z (by simp)
 rw[gE.1 b];exact d' _
def Av {l:List Nat} (h:up K l) {a z:Nat} (d:l.head? = some z) (c:a∈l):K z<=K a:=by
 cases l with
 | nil=>cases c
 | cons b l=>
   cases d;rcases jt.1 c with rfl|c
   ·exact d' _
   unfold up at h;exact(mT.1 h).1 a c
def iI {h e g f k l:List Nat} (m:up K (h++e)) (n:up K (g++f)) (pos:∀x∈g,0<K x)
 (p:∀a b,h.getLast? = some a->f.head? = some b->K a<=K b) (u:∀a b,e.head? = some a->g.getLast? = some b->K b<K a)
 (s1:fe K (h++g) k) (s2:fe K (e++f) l) (u1:up K k) (u2:up K l):fe K (h++e++(g++f)) (k++l)/\up K (k++l):=by
 have t:∀a∈h,∀b∈f,K a<=K b:=λa d b c=>by
  obtain⟨z,i⟩:=Ar d;obtain⟨y,j⟩:∃y,f.head? = some y:=by
   cases f with
   | nil=>cases c
   | cons y f=>exact⟨y,rfl⟩
  have:=Au (aR.1 m).1 i d;have:=p z y i j;have:=Av (aR.1 n).2.1 j c;omega
 have o:∀a∈e,∀b∈g,K b<K a:=λa d b c=>by
  obtain⟨z,i⟩:=Ar c;obtain⟨y,j⟩:∃y,e.head? = some y:=by
   cases e with
   | nil=>cases d
   | cons y e=>exact⟨y,rfl⟩
  have:=Au (aR.1 n).1 i c;have:=u y z j i;have:=Av (aR.1 m).2.1 j d;omega
 have r:fe K (e++g) (g++e):=fe.rot λa d b c=>⟨pos b c,o a d b c⟩;refine⟨?_,aR.2 ⟨u1,u2,λa d b c=>?_⟩⟩
 ·have q:=(fe.refl (K:=K) h).app (r.app (fe.refl f));have s:=s1.app s2;refine fe.trans ?_ s;simpa only[kl] using q
 have d:=s1.mem.1 d;have c:=s2.mem.1 c;rcases ie.1 d with d|d <;> rcases ie.1 c with c|c
 ·exact(aR.1 m).2.2 a d b c
 ·exact t a d b c
 ·exact oT (o b c a d)
 exact(aR.1 n).2.2 a d b c
def KM {X Y:List Nat} {c:Nat} (h:up K (X++Y)) (pos:0<K c) (i:∀a,X.getLast? = some a->K a<=K c) (j:∀b,Y.head? = some b->K c<K b):fe K (X++Y++[c]) (X++c::Y)/\up K (X++c::Y):=by
 have f:∀b∈Y,K c<K b:=λb d=>by
  cases Y with
  | nil=>cases d
  | cons y Y=>
    have:=j y rfl;have:=Av (aR.1 h).2.1 rfl d;omega
 refine⟨?_,?_⟩
 ·have:=(fe.refl (K:=K) X).app (fe.rot (K:=K) (A:=Y) (B:=[c]) λa e b d=>by rw[gE.1 d];exact⟨pos,f a e⟩);simpa only[kl,tm] using this
 refine aR.2 ⟨(aR.1 h).1,?_,λa e b d=>?_⟩
 ·unfold up;rw[mT];exact⟨λb d=>oT (f b d),(aR.1 h).2.1⟩
 rcases jt.1 d with rfl|d
 ·obtain⟨z,g⟩:=Ar e;exact ia (Au (aR.1 h).1 g e) (i z g)
 exact(aR.1 h).2.2 a e b d
def Vz {X Y:List Nat} {c:Nat} (h:up K (X++Y)) (pos:∀x∈X,0<K x) (i:∀a,X.getLast? = some a->K a<K c) (j:∀b,Y.head? = some b->K c<=K b):fe K (c::(X++Y)) (X++c::Y)/\up K (X++c::Y):=by
 have g:∀b∈X,K b<K c:=λb d=>by
  obtain⟨z,f⟩:=Ar d;exact lp (Au (aR.1 h).1 f d) (i z f)
 refine⟨?_,?_⟩
 ·have:=(fe.rot (K:=K) (A:=[c]) (B:=X) λa e b d=>by rw[gE.1 e];exact⟨pos b d,g b d⟩).app (fe.refl Y);simpa only[kl,tm,lz,lf] using this
 refine aR.2 ⟨(aR.1 h).1,?_,λa e b d=>?_⟩
 ·unfold up;rw[mT];refine⟨λb d=>?_,(aR.1 h).2.1⟩;cases Y with
  | nil=>cases d
  | cons y Y=>exact ia (j y rfl) (Av (aR.1 h).2.1 rfl d)
 rcases jt.1 d with rfl|d
 ·exact oT (g a e)
 exact(aR.1 h).2.2 a e b d
end
def Sc (A Z:List Nat) (x y:Nat):((A++x::y::Z).set A.length y).set (A.length+1) x=A++y::x::Z:=by
 rw[mm (h:=d' _),ns,rN,mm (h:=by omega),show A.length+1-A.length=1 from by omega];rfl
end
def sQ (n c:Nat) (Ls:List (Nat×List Nat)):List (Nat×List Nat):=
 match Ls.getLast? with
 | some (m,l)=>if m=n then Ls.dropLast++[(m,l++[c])] else Ls++[(n,[c])]
 | none=>Ls++[(n,[c])]
abbrev bS:=Nat×List (Nat×List Nat)
def BU (K:Nat->Nat) (rs:List bS) (c:Nat):List bS:=
 if K c=0 then rs++[(c,[])] else rs.dropLast++[((rs.getLastD (0,[])).1,sQ (K c) c (rs.getLastD (0,[])).2)]
def bq (K:Nat->Nat) (l:List Nat):List bS:=l.foldl (BU K) [(0,[])]
def VA {K:Nat->Nat} {l:List Nat} {j:Nat} (a:j<l.length):bq K (l.take (j+1))=BU K (bq K (l.take j)) l[j]:=by
 unfold bq;rw[gR a,rk];rfl
def yh {n c m:Nat} {l:List Nat} {Ls:List (Nat×List Nat)} (h:m=n):sQ n c (Ls++[(m,l)])=Ls++[(m,l++[c])]:=by
 unfold sQ;rw[mx];simp[h]
def abj {n c:Nat} {Ls:List (Nat×List Nat)} (h:∀x,Ls.getLast? = some x->x.1≠n):sQ n c Ls=Ls++[(n,[c])]:=by
 unfold sQ
 split
 ·rename_i m l e;rw[if_neg (h _ e)]
 rfl
def BV {K:Nat->Nat} {a:List bS} {c:Nat} (h:K c=0):BU K a c=a++[(c,[])]:=by unfold BU;rw[if_pos h]
def yj {K:Nat->Nat} {a:List bS} {r:bS} {c:Nat} (h:K c≠0):BU K (a++[r]) c=a++[(r.1,sQ (K c) c r.2)]:=by
 unfold BU;rw[if_neg h,rl,tE]
def KN {K:Nat->Nat}:∀{l:List Nat},dJ K l->∀{j:Nat} (c:j+1<l.length),K l[j+1]=0\/K l[j]<=K l[j+1]
 | [],_,_,c=>absurd c (by simp)
 | [_],_,_,c=>absurd c (by simp)
 | a::b::l,h,0,_=>by
   have:=h.1;unfold swp at this;simp only[ti,xj,k_];omega
 | a::b::l,h,j+1,c=>by
   have:=KN h.2 (j:=j) (by simpa using c);simpa using this
end Go.Cd
