/- Texts that are alike cost, and count, the same; no condition. -/
import Derived.Test.YtmnimbnojdndmaaGreatDoorU23
import Derived.Test.YtmnimbnojdndmaaGreatDoorU22
set_option maxRecDepth 100000
set_option maxHeartbeats 6400000
set_option linter.all false
namespace Go.Proofs.YtmnimbnojdndmaaGreatDoor
open Go.RowKit Go.Cd Go.Shelf _root_.Go.Proofs.Tryz
def Fb.ext {w w':World} {p:Nat} {L:List (aG×Value)} {a:Int} {o:List UInt8} (h:Fb w p L a o) (b:Below w.heap.size w w'):Fb w' p L a o:=by
 obtain⟨⟨v,e,f⟩,d⟩:=h;exact⟨⟨v,e.mono b,aH f b⟩,λx c=>⟨(d x c).1.mono b,(d x c).2⟩⟩
def Fb.put {w:World} {p:Nat} {L:List (aG×Value)} {a last':Int} {o o':List UInt8} (h:Fb w p L a o) (k:Nat) (u:Value)
 (f:∀v,(#[v,.int .i32 a,.string (tx o)]:Array Value).setIfInBounds k u=#[v,.int .i32 last',.string (tx o')]):Fb (w.setCell ⟨p,k,none⟩ u) p L last' o':=by
 obtain⟨⟨v,b,e⟩,d⟩:=h;exact⟨⟨v,f v▸b.set k u,bn e (Go.Cd.aQ e (k:=p) (by omega)) k u⟩,λx c=>⟨(d x c).1.put b.at_ (by decide),(d x c).2⟩⟩
def xz {w:World} (c:Int) (b:Nat) (a:Option Addr) :
 Calls prog 185 #[.agg #[.int .i32 c,.int .i64 0,.slice a 0 b]] w λe w'=>e=.returned (.bool true)/\Below w.heap.size w w':=by
 have f:=ah (w:=w) (.cells #[.int .i32 c,.int .i64 0,.slice a 0 b] 196);have d:=Is.new w #[.int .i32 c,.int .i64 0,.slice a 0 b] 196;have:=d.at 0 rfl;have:=d.at 1 rfl;have:=d.at 2 rfl;go_enter func185,ntmps185;go_wp2;go_ret;exact⟨rfl,f⟩
def XK {s q:List UInt8} (a:s.length<=60) (W:World):Calls prog 215 #[.string (tx s),.string (tx q)] W λe w'=>e=.returned (.tuple #[.string (tx (Lib.trimSuffix s q)),.bool (Lib.hasSuffix s q)])/\w'=W:=by
 have:=Tryz.strings_CutSuffix (tx s) (tx q) W (by rw[aX];omega);rw[dM,dM] at this;exact this
def QM:∀b∈U0,Lib.trimSuffix (b++kS) kS=b/\Lib.hasSuffix (b++kS) kS=true/\Lib.hasSuffix (b++kS) Ny=false/\Lib.trimSuffix (b++Ny) Ny=b/\Lib.hasSuffix (b++Ny) Ny=true/\Lib.hasSuffix (b++Ny) kS=false:=by decide
def IP {w:World} {p:Nat} {L:List (aG×Value)} {f:Int} {o nm o':List UInt8} (C:Fb w p L f o) (O:qg o nm o' true) (c:Int) (H:Nat) (a:Option Addr) :
 Calls prog 184 #[.pointer (some ⟨p,0,none⟩),.string (tx nm),.agg #[.int .i32 c,.int .i64 0,.slice a 0 H]] w λe w'=>e=.returned (.bool true)/\Below p w w'/\w.heap.size<=w'.heap.size/\Fb w' p L f o'/\∀k cs T,k≠p->Is w k cs T->Is w' k cs T:=by
 obtain⟨G,g⟩:=ae (w.alloc (.cells #[.int .i32 c,.int .i64 0,.slice a 0 H] 196));have d:=aO g;have m:=Is.nw g;have D:=O.name.2.1;have r:=aa (show ∀W,Calls prog 215 #[.string (tx nm),.string ⟨#[44,32,70,105,114,115,116,62]⟩] W λe w'=>e=.returned (.tuple #[.string (tx (Lib.trimSuffix nm kS)),.bool (Lib.hasSuffix nm kS)])/\w'=W from λW=>XK (q:=kS) D W);have n:=aa (show ∀W,Calls prog 215 #[.string (tx nm),.string ⟨#[44,32,76,97,115,116,62]⟩] W λe w'=>e=.returned (.tuple #[.string (tx (Lib.trimSuffix nm Ny)),.bool (Lib.hasSuffix nm Ny)])/\w'=W from λW=>XK (q:=Ny) D W);have y:=C.ext d;have M:p<w.heap.size:=by obtain⟨⟨v,V,_⟩,_⟩:=C;exact V.lt
 have N:=aa (λW=>xz (w:=W) c H a);obtain⟨⟨v,F,_⟩,_⟩:=id y;have e0:=F.at 2 rfl;have d0:=F.frozen 2;have f0:=m.at 0 rfl;have f1:=m.at 1 rfl;have Z:=m.at 2 rfl;have l:p≠w.heap.size:=by omega
 have B:(⟨#[44,32,70,105,114,115,116,62]⟩:ByteArray)=tx kS:=rfl;have I:∀s:List UInt8,s≠[]->(tx s).toList.isEmpty=false:=λs h=>by rw[ph,dM];cases s with|nil=>exact absurd rfl h|cons=>rfl
 cases O with
 | fst b hb=>
   obtain⟨z,A,t,_⟩:=QM b hb;rw[z,A] at r;rw[t] at n;have P:(tx []).toList.isEmpty=true:=by rw[ph];rfl
   have zs:(tx b++⟨#[44,32,70,105,114,115,116,62]⟩:ByteArray)=tx (b++kS):=by rw[B,dA]
   have X:(tx b).size<=60:=by rw[aX];have:=(Bf b hb).2.2.1;rw[d'] at this;omega
   have S:(⟨#[44,32,70,105,114,115,116,62]⟩:ByteArray).size=8:=rfl;have R:=aa (F.same 2 (u:=.string (tx [])) rfl);have x:=y.put 2 (.string (tx (b++kS))) (o':=b++kS) (last':=f) (λ_=>rfl);have J:=aa x;clear y x C B I z A t D;go_enter func184,ntmps184;go_wp2_with fail;rw[<-g];clear g;refine(r.out G).mono ?_;rintro e Q⟨rfl,rfl⟩;go_wp2_with fail;refine(n.out _).mono ?_;rintro e E⟨rfl,rfl⟩;clear r n;have U:E.setCell ⟨p,2,none⟩ (.string ⟨#[]⟩)=E:=R.out;go_wp2_with fail;refine(N.out _).mono ?_;rintro e w4⟨rfl,i⟩;go_wp2;go_ret;refine⟨rfl,(aj (d.mono (nu M)) (gw _)).trans (i.mono (by rw[lO];have:=d.size;omega)),by have:=i.size;rw[lO] at this;have:=d.size;omega,J.out.ext i,λk cs T K h=>((h.mono d).put K _).mono i⟩
 | lst b hb=>
   obtain⟨_,_,_,z,A,t⟩:=QM b hb;rw[t] at r;rw[z,A] at n;have P:(tx (b++kS)).toList.isEmpty=false:=I _ (Bf b hb).1;have zs:(tx b++⟨#[44,32,70,105,114,115,116,62]⟩:ByteArray)=tx (b++kS):=by rw[B,dA]
   have X:(tx b).size<=60:=by rw[aX];have:=(Bf b hb).2.2.1;rw[d'] at this;omega
   have S:(⟨#[44,32,70,105,114,115,116,62]⟩:ByteArray).size=8:=rfl;have x:=y.put 2 (.string (tx [])) (o':=[]) (last':=f) (λ_=>rfl);have J:Hid (Fb (G.setCell ⟨p,2,none⟩ (.string ⟨#[]⟩)) p L f []):=aa x;have g0:=(m.put (k:=w.heap.size) (j:=p) (o:=2) (px l) (.string ⟨#[]⟩)).at 0 rfl;have Y:=(m.put (k:=w.heap.size) (j:=p) (o:=2) (px l) (.string ⟨#[]⟩)).at 1 rfl;have g2:=(m.put (k:=w.heap.size) (j:=p) (o:=2) (px l) (.string ⟨#[]⟩)).at 2 rfl;clear y x C B I z A t D;go_enter func184,ntmps184;go_wp2_with fail;rw[<-g];clear g;refine(r.out G).mono ?_;rintro e Q⟨rfl,rfl⟩;go_wp2_with fail;refine(n.out _).mono ?_;rintro e E⟨rfl,rfl⟩;clear r n;go_wp2_with fail;refine(N.out _).mono ?_;rintro e w4⟨rfl,i⟩;go_wp2;go_ret;refine⟨rfl,(aj (d.mono (nu M)) (gw _)).trans (i.mono (by rw[lO];have:=d.size;omega)),by have:=i.size;rw[lO] at this;have:=d.size;omega,J.out.ext i,λk cs T K h=>((h.mono d).put K _).mono i⟩
def PM {w:World} {p:Nat} (hG:dL w) {L:List (aG×Value)} {f:Int} {o nm o':List UInt8} (hR:Fb w p L f o) (hs:qg o nm o' true) (r:aG) (K:Bq r) (h0:r.cls=0/\r.map=[]) (ah:f<r.code) :
 Calls prog 149 #[.pointer (some ⟨p,0,none⟩),.string (tx (eu nm r))] w λe w'=>e=.returned (.string ⟨#[]⟩)/\Below p w w'/\w.heap.size<=w'.heap.size/\Fb w' p L r.code o':=by
 have j:=hs.name;have SP:=aa (tN hG (gz nm r) rfl (λq hq h=>(Bh j.2 K.cls q hq _ h).2 rfl) (kU j.2 K.cls K.len));have Y:=aa (λ(W:World) (h:dL W) (k:Nat) (hk:Is W k ((gz nm r).map λl=>Value.string (tx l)).toArray 9)=>Br h j.1 r K hk);obtain⟨s,F⟩:=ae (tx (eu nm r));have S:tx (bH 59 (gz nm r))=s:=F.symm;rw[S] at SP;rw[<-F];have hp:p<w.heap.size:=by obtain⟨⟨v,h1,_⟩,_⟩:=hR;exact h1.lt
 have am:=K.code;have an:=j.1;have HS:=aa hs;obtain⟨O,U⟩:=h0;rw[O,U] at Y;obtain⟨c,hc⟩:=ae r.code;rw[<-hc] at ah am Y⊢;have RG:=aa (λ(W:World) (h:Fb W p L f o) (cp:Nat) (a:Option Addr)=>IP h HS.out (c:Nat) cp a);have PL:=aa (λW (cp:Nat) (a:Option Addr)=>xz (w:=W) (c:Nat) cp a);clear F S hs j hc K O U HS;go_enter func149,ntmps149;go_wp2_with fail;refine SP.out.mono ?_;rintro e w1⟨rfl,x⟩;have g:=aO x;have q1:Is w1 w.heap.size ((gz nm r).map λl=>Value.string (tx l)).toArray 9:=by rw[x];exact Is.new _ _ _
 have ad:w1.heap.size=w.heap.size+1:=by rw[x];simp
 clear x SP;go_wp2_with fail;refine(Y.out _ (hG.mono g) _ q1).mono ?_;rintro e I⟨mv,rfl,T,D⟩;have q2:I.cell? ⟨w.heap.size,1,none⟩=some (.string (tx nm)):=(q1.mono D).at 1 rfl;obtain⟨ma,mc,rfl,_,_⟩:=ak T;rw[ki];have m:=af g D;clear q1 Y T;obtain⟨C,i⟩:=ae (I.alloc (.cells #[.int .i32 (c:Nat),.int .i64 0,.slice ma 0 mc] 196));have u:=aO i;have b3:=Is.nw i;have R3:=(hR.ext m).ext u;have q3:=aB u q2;go_upto_region 5 with fail;rw[<-i];have z:=af m u;have V:C.heap.size=I.heap.size+1:=by rw[i];simp
 have ab:=D.size;clear i u m hR q2;have zl:decide ((c:Int)<=f)=false:=by simp;omega
 obtain⟨⟨ov,p3,_⟩,_⟩:=id R3;have g1:=b3.gd 0 rfl;have g2:=p3.gd 1 rfl;refine aC (Array.replicate 8 true) 8 0 mixed ?_;refine ay [0,1,2,3,4,5,6,7] 0 ?_
 iterate 8 (refine aA rfl ?_;go_big_quiet_step (rfl))
 refine az ?_;refine aJ [] ?_;refine tail_nil ?_;clear g1 g2 p3;have Q:=b3.mono (ag C);have R4:=R3.ext (ag C);have q4:=aB (ag C) q3;have M:=af z (ag C);have Y5:C.drew.heap.size=I.heap.size+1:=V;clear b3 R3 q3 z V;generalize C.drew=w4 at *;go_upto_region 7 with fail;have g0:=Gr.cell (ag w4) q4;have g1:=Q.gd 0 rfl;have g2:=Q.gd 1 rfl;have g3:=Q.gd 2 rfl;refine aC #[true,true,true,true,true,false,false,false] 5 3 mixed ?_;refine ay [0,1,2,3,4] 0 ?_
 iterate 5 (refine aA rfl ?_;go_big_quiet_step (rfl))
 refine az ?_;refine aJ [5,6,7] ?_;refine uO (os:=[_,_,_]) rfl ?_;clear g0 g1 g2 g3;have b5:=Q.mono (ag w4);have R5:=R4.ext (ag w4);have rX:=af M (ag w4);have al:w4.drew.heap.size=I.heap.size+1:=Y5;clear Q R4 q4 M Y5;generalize w4.drew=w5 at *;go_wp2_with fail;refine(RG.out _ R5 _ _).mono ?_;rintro e w6⟨rfl,mF,ac,Z,y⟩;have G:p≠I.heap.size:=by have:=g.size;omega
 have A:=y _ _ _ (px G) b5;clear y b5 R5 RG;go_wp2_with fail;refine uP ?_;have J:=aa (gZ (w:=w6) c (by omega));have t:Below p w w6:=(rX.mono (nu hp)).trans mF;have ao:w.heap.size<w6.heap.size:=by have:=g.size;omega
 clear rX al mF ac ab g ad;have X:=A.at 0 rfl;have e1:=A.at 1 rfl;have e2:=A.at 2 rfl;by_cases N:aP c
 ·rw[decide_eq_true N] at J;go_upto_region 11 with (go_at_call 96;refine J.out.mono ?_;rintro e H⟨rfl,rfl⟩);have b:Below H.heap.size H H:=gO _ _;clear J X e1 e2;have B:=A.mono b;have E:=Z.ext b;have P:=E.put 1 (.int .i32 (c:Nat)) (last':=c) (o':=o') (λ_=>rfl);obtain⟨⟨vz,R,_⟩,_⟩:=id E;have X:=B.at 0 rfl;have d1:=R.frozen 1;have e1:=R.at 1 rfl;have n:=B.put (px G) (.int .i32 (c:Nat)) (o:=1);have f0:=n.at 0 rfl;have f1:=n.at 1 rfl;have f2:=n.at 2 rfl;have HC:=aa P;have Vk:Below p w H:=t.trans (b.mono (by omega));have ai:=b.size;clear Z E P A B n t;go_wp2_with fail;refine(PL.out _ _ _).mono ?_;rintro e wy⟨rfl,d⟩;go_wp2;go_ret;exact⟨rfl,(aj Vk (gw _)).trans (d.mono (by rw[lO];omega)),by have:=d.size;rw[lO] at this;omega,HC.out.ext d⟩
 rw[decide_eq_false N] at J;go_upto_region 9 with fail;go_wp2_with fail;refine J.out.mono ?_;rintro e w7⟨rfl,rfl⟩;go_wp2_with fail;refine(PL.out _ _ _).mono ?_;rintro e H⟨rfl,b⟩;clear J X e1 e2;have B:=A.mono b;have E:=Z.ext b;have P:=E.put 1 (.int .i32 (c:Nat)) (last':=c) (o':=o') (λ_=>rfl);obtain⟨⟨vz,R,_⟩,_⟩:=id E;have X:=B.at 0 rfl;have d1:=R.frozen 1;have e1:=R.at 1 rfl;have n:=B.put (px G) (.int .i32 (c:Nat)) (o:=1);have f0:=n.at 0 rfl;have f1:=n.at 1 rfl;have f2:=n.at 2 rfl;have HC:=aa P;have Vk:Below p w H:=t.trans (b.mono (by omega));have ai:=b.size;clear Z E P A B n t;go_wp2_with fail;refine(PL.out _ _ _).mono ?_;rintro e wy⟨rfl,d⟩;go_wp2;go_ret;exact⟨rfl,(aj Vk (gw _)).trans (d.mono (by rw[lO];omega)),by have:=d.size;rw[lO] at this;omega,HC.out.ext d⟩
def opAt (I:List iE):Nat->List UInt8
 | 0=>[]
 | k+1=>match I[k]? with|some l=>l.op|none=>[]
def adO (l:iE):Prop:=Bq l.r/\(l.pl=true->l.r.cls=0/\l.r.map=[])/\(l.pl=false->(l.r.cls≠0\/l.r.map≠[])/\aP l.r.code)
structure ME (I:List iE):Prop where
 ok:∀l∈I,adO l
 step:∀j (h:j<I.length),qg (opAt I j) I[j].nm I[j].op I[j].pl
 rise:rising (I.map (·.r))
 fin:opAt I I.length=[]
 len:I.length<40000
def XL {w:World} {p:Nat} (m:dL w) {L:List (aG×Value)} {d:Int} {o:List UInt8} (k:Fb w p L d o) (l:iE) (g:qg o l.nm l.op l.pl) (h:adO l) (f:d<(l.r.code:Nat)) (s:L.length<100000) :
 Calls prog 149 #[.pointer (some ⟨p,0,none⟩),.string (tx l.t)] w λe w'=>e=.returned (.string ⟨#[]⟩)/\Below p w w'/\w.heap.size<=w'.heap.size/\∃j,j.map (·.1)=L.map (·.1)++(if l.pl then [] else [l.r])/\Fb w' p j l.r.code l.op:=by
 obtain⟨nm,r,op,q⟩:=l;obtain⟨i,u,n⟩:=h;cases q with
 | true=>
   refine(PM m k g r i (u rfl) f).mono ?_;rintro e w'⟨rfl,a,b,c⟩;exact⟨rfl,a,b,L,by simp,c⟩
 | false=>
   have g:qg o nm op false:=g;cases g;refine(JW m k r i f (n rfl).1 (n rfl).2 s).mono ?_;rintro e w'⟨rfl,a,b,v,c⟩;exact⟨rfl,a,b,L++[(r,v)],by simp,c⟩
def MF {d w:World} {p:Nat} {v:Value} {I:List iE} (T:ME I) (Z:dL d) (Q:bG d v (qM (I.map iE.t))) (C:d.heap.size<=p) (D:Below d.heap.size d w) (g:Fb w p [] (-1) []) :
 Calls prog 148 #[v,.func (.func 149) #[.pointer (some ⟨p,0,none⟩)] #[]] w λe w'=>e=.returned (.tuple #[.int .i64 0,.string ⟨#[]⟩])/\Below p w w'/\w.heap.size<=w'.heap.size/\∃L,L.map (·.1)=og I/\Fb w' p L (aa_ (I.map (·.r)) I.length) []:=by
 obtain⟨a,cap,o,_,S⟩:=Q.out;obtain⟨n,m⟩:=ae I.length;have q:(qM (I.map iE.t)).length=n:=by simp[m]
 rw[q] at o;subst o
 have HX:=aa (show ∀i (O:i<I.length),∃b off,a=some ⟨b,off,none⟩/\b<d.heap.size/\d.cell? ⟨b,off+i,none⟩=some (.string (tx I[i].t)) from λi O=>by
  obtain⟨b,off,H,M,x⟩:=S i (by simpa using O);refine⟨b,off,H,M,x.trans ?_⟩
  simp[qM])
 have R:=aa m;have u:=aa T;have ab:n<40000:=by rw[m];exact T.len
 rw[<-m];clear m S Q q;go_enter func148,ntmps148;go_wp2_with fail;go_loopw [11] (λE wr=>∃j:Nat,j<=n/\E=.int .i64 j/\(∃L,L.map (·.1)=og (I.take j)/\Fb wr p L (aa_ (I.map (·.r)) j) (opAt I j))/\Below p w wr/\w.heap.size<=wr.heap.size) (λE _=>n-(intOf E).toNat)
 case atStart=>exact⟨0,gW _,rfl,⟨[],by simp[og],g⟩,gO _ _,gw _⟩
 case round=>
  clear g;obtain⟨j,hj,rfl,⟨L,s,g⟩,B,hs⟩:=hrel;by_cases X:j<n
  ·have Y:=eG (show j<n by omega);have c:j<I.length:=by have:=R.out;omega
   obtain⟨b,off,rfl,hb,J⟩:=HX.out j c;have P:Below d.heap.size d wr:=D.trans (B.mono C);have J:=aB P J;have f:=gx c;have YS:L.length<=j:=by
    have:=congrArg List.length s;rw[ia] at this;unfold og at this;rw[ia] at this;have:=lp (λl=>!l.pl) (I.take j);rw[iS] at this;omega
   have G:aa_ (I.map (·.r)) j<(I[j].r.code:Nat):=by
    have:=J9 u.out.rise j (by rw[ia];exact c);simpa using this
   have N:=aa (XL (Z.mono P) g I[j] (u.out.step j c) (u.out.ok _ f) G (by omega));have A:=aa s
   have y:=aa (show og (I.take (j+1))=og (I.take j)++(if I[j].pl then [] else [I[j].r]) by
    unfold og;rw[gE c,n8,js]
    cases h:I[j].pl <;> simp[h])
   have W:=aa (show aa_ (I.map (·.r)) (j+1)=(I[j].r.code:Nat) by rw[uE (by rw[ia];exact c)];simp);have K:=aa (show opAt I (j+1)=I[j].op by show(match I[j]? with|some l=>l.op|none=>[])=_;rw[gA c]);generalize I[j]=l at *;generalize l.t=lt at *;clear s g f;go_wp2_with fail;refine N.out.mono ?_;rintro e w2⟨rfl,H,M,U,k,x⟩;clear N J;have z:(⟨#[]⟩:ByteArray).toList.isEmpty=true:=by rw[ph];rfl
   have V:=aa x;have F:=aa k;clear x k;go_wp2_with fail;go_roundw
   case rel=>
    exact⟨j+1,by omega,by simp,⟨U,by rw[F.out,A.out,y.out],by rw[W.out,K.out];exact V.out⟩,B.trans H,by omega⟩
   case measure=>simp[intOf];omega
  have Y:=gI (show n<=j by omega);obtain rfl:j=n:=by omega
  have HR:=aa g;have A:=aa s;clear g s;go_wp2;go_ret2;have e:=R.out;refine⟨rfl,B,hs,L,by rw[A.out,ie (by omega)],?_⟩;have:=HR.out;rw[e,u.out.fin] at this;rw[e];exact this
def IQ {w:World} (G:dL w) {I:List iE} (k:ME I) (h:(bA (I.map iE.t)).length<1000000) :
 Calls prog 104 #[.string (tx (bA (I.map iE.t)))] w λe w'=>∃(v:Value) (L:List (aG×Value)),e=.returned (.tuple #[v,.nilIface])/\L.map (·.1)=og I/\w'.ownsRow w.heap.size h_ 3 v L.length (L.flatMap dY)/\(∀x∈L,Sl aN w' x.2 (aM x.1.map)/\fU x.2)/\Below w.heap.size w w':=by
 have q:=aa (tT (w:=w) (I.map iE.t) (by
  intro p j;obtain⟨l,B,rfl⟩:=jx.1 j;obtain⟨i,H,rfl⟩:=rH B;have g:=(k.ok _ B).1;have o:=(k.step i H).name.2
  exact⟨JM o g.cls,gS (kU o g.cls g.len) (by decide)⟩) h)
 obtain⟨s,C⟩:=ae (tx (bA (I.map iE.t)));rw[<-C] at q⊢;clear C;have m:I.length<40000:=k.len;go_enter func104,ntmps104;go_wp2_with fail;refine q.out.mono ?_;rintro e r⟨v,rfl,a,b⟩;have c:=(Sl.aU a).any;obtain⟨P,M,rfl,_,_⟩:=ak a;rw[ia] at c⊢;have d:=ah (w:=r) (.cells #[.slice none 0 0,.int .i32 (-1),.string ⟨#[]⟩] 247);have A:Fb (r.alloc (.cells #[.slice none 0 0,.int .i32 (-1),.string ⟨#[]⟩] 247)) r.heap.size [] (-1) []:=⟨⟨.slice none 0 0,Is.new _ _ _,iu _ _ _ _⟩,by simp⟩;have u:=aa (MF k (G.mono b) c (gw _) d A);clear A c a q;obtain⟨n,z⟩:=ae I.length;rw[<-z] at u m⊢;have:decide ((40000:Int)<(n:Int))=false:=decide_eq_false (by omega);have E:(⟨#[]⟩:ByteArray).toList.isEmpty=true:=by rw[ph];rfl
 have:(tx []).toList.isEmpty=true:=E;clear z;go_wp2_with fail;refine u.out.mono ?_;rintro e N⟨rfl,g,o,L,J,⟨⟨R,j,a⟩,y⟩⟩;obtain⟨O,K,rfl,_,_⟩:=ak a;have:=j.at 0 rfl;have:=j.at 2 rfl;have F:=aa a;have D:=aa y;clear u a y;go_wp2;go_ret2;have f:=b.size;exact⟨_,L,rfl,J,aT F.out (by omega),D.out,(b.trans ((d.mono f).trans (g.mono f)))⟩
end Go.Proofs.YtmnimbnojdndmaaGreatDoor
namespace Go.Proofs.YtmnimbnojdndmaaGreatDoor
open Go.RowKit Go.Cd _root_.Go.Proofs.Tryz
def Dp {w:World} (j:dL w) {I:List iE} {T:List aG} {X:List Nat} (D:ME I) (f:og I=T) (a:(bA (I.map iE.t)).length<1000000) (C:aY T X) (G:∀r∈T,r.cls≠0\/r.map≠[]) (V:T.length<1000) (J:X.length<10000) (i:∀c∈X,aP c) :
 Calls prog 71 #[.string (tx (bA (I.map iE.t))),.string (tx (eP X))] w λe w'=>∃p,e=.returned (.tuple #[.pointer (some ⟨p,0,none⟩),.nilIface])/\cK w' p T X/\Below w.heap.size w w':=by
 have k:=aa (IQ j D a);have u:=aa (λ(W:World) (E:Below w.heap.size w W)=>GY (j.mono E) i J);have x:=aa (λ(W:World) (v:Value) (h:qQ W v T X)=>Xj h C G V J);rw[f] at k;clear j D a C G f;obtain⟨s1,d⟩:∃s,s=tx (bA (I.map iE.t)):=⟨_,rfl⟩;obtain⟨s2,y⟩:∃s,s=tx (eP X):=⟨_,rfl⟩;rw[<-d] at k⊢;rw[<-y] at u⊢;clear d y;go_enter func71,ntmps71;go_wp2_with fail;refine k.out.mono ?_;rintro e P⟨v,L,rfl,H,g,F,b⟩;obtain⟨Y,K,rfl,_,_⟩:=ak g;have M:=aa H;have Q:=aa g;have N:=aa F;clear H g F;go_wp2_with fail;refine(u.out P b).mono ?_;rintro e z⟨r,rfl,q,B⟩;obtain⟨o,l,rfl,_,_⟩:=ak q;have S:=aa q;clear q;have n:=ah (w:=z) (.cells #[.slice o (kE X).length l] 148);have f:qQ (z.alloc (.cells #[.slice o (kE X).length l] 148)) (.agg #[.slice Y L.length K,.slice o (kE X).length l]) T X:=by
  have d:=zD.aU Q.out N.out;rw[M.out] at d;exact⟨_,_,rfl,d.mono (af B n),(Sl.aU S.out).any.mono n⟩
 have R:=af (af b B) n;have m:=aa (x.out _ _ f);clear f x;go_wp2_with fail;refine m.out.mono ?_;rintro e Z⟨p,rfl,A,O⟩;have U:=aa A;clear A;go_wp2_with fail;go_ret2;exact⟨p,rfl,U.out,af R O⟩
def Gl (T:List aG):∀j,opAt (T.map tL) j=[]
 | 0=>rfl
 | k+1=>by
   show(match (T.map tL)[k]? with|some l=>l.op|none=>[])=[];rw[nE];cases T[k]? <;> rfl
def XM {T:List aG} (h:NG T):ME (T.map tL):=by
 have c:(T.map tL).map (·.r)=T:=by rw[mB];exact tj _
 refine⟨λl b=>?_,λj d=>?_,by rw[c];exact h.rise,Gl T _,by rw[ia];exact h.len⟩
 ·obtain⟨r,a,rfl⟩:=jx.1 b;exact⟨h.ok r a,λe=>(by cases e),λ_=>⟨h.says r a,h.chr r a⟩⟩
 rw[Gl,nf];exact .row
def MG {w:World} (i:dL w) {T:List aG} {X:List Nat} (h:NG T) (a:(iV T).length<1000000) (g:aY T X) (d:∀r∈T,r.cls≠0\/r.map≠[]) (f:T.length<1000) (j:X.length<10000) (b:∀c∈X,aP c) :
 Calls prog 71 #[.string (tx (iV T)),.string (tx (eP X))] w λe w'=>∃p,e=.returned (.tuple #[.pointer (some ⟨p,0,none⟩),.nilIface])/\cK w' p T X/\Below w.heap.size w w':=by
 have e:iV T=bA ((T.map tL).map iE.t):=by rw[Rj];rfl
 rw[e] at a⊢;exact Dp i (XM h) (E_ T) a g d f j b
end Go.Proofs.YtmnimbnojdndmaaGreatDoor
section
namespace Go.Cd
def XN (o:List UInt8) (l:iE):Bool:=(!l.pl&&(o==[]&&(l.nm==[88]&&l.op==[])))||(l.pl&&U0.any λb=>(o==[]&&(l.nm==b++kS&&l.op==b++kS))||(o==b++kS&&(l.nm==b++Ny&&l.op==[])))
def XO {o:List UInt8} {l:iE} (h:XN o l=true):qg o l.nm l.op l.pl:=by
 obtain⟨nm,r,op,c⟩:=l;unfold XN at h;cases c with
 | false=>
   simp at h;obtain⟨rfl,rfl,rfl⟩:=h;exact .row
 | true=>
   simp at h;obtain⟨b,a,⟨rfl,rfl,rfl⟩|⟨rfl,rfl,rfl⟩⟩:=h
   ·exact .fst b a
   exact .lst b a
def lnB (l:iE):Bool:=decide (l.r.code<1114112)&&decide (l.r.cls<255)&&decide (l.r.map.length<=2)&&l.r.map.all (λc=>decide (c<1114112))&&(if l.pl then decide (l.r.cls=0)&&decide (l.r.map=[]) else (decide (l.r.cls≠0)||decide (l.r.map≠[]))&&decide (aP l.r.code))
end Go.Cd
namespace Go.Proofs.YtmnimbnojdndmaaGreatDoor
open Go.RowKit Go.Cd Go.Shelf
def adP {l:iE} (h:lnB l=true):adO l:=by
 obtain⟨nm,r,op,b⟩:=l;unfold lnB at h;simp only[jn,decide_eq_true_eq,lr] at h;obtain⟨⟨⟨⟨c,g⟩,f⟩,d⟩,a⟩:=h;refine⟨⟨c,g,f,d⟩,λe=>?_,λe=>?_⟩
 ·have e:b=true:=e;subst e;simpa using a
 have e:b=false:=e;subst e;simpa using a
def adQ:ME Yw:=by
 have b:Yw.all lnB=true:=by decide +kernel
 have c:(List.range Yw.length).all (λj=>match Yw[j]? with|some l=>XN (opAt Yw j) l|none=>true)=true:=by decide +kernel
 refine⟨λl d=>adP (lr.1 b l d),λj a=>XO ?_,yK (by decide +kernel),by decide +kernel,by decide +kernel⟩;have:=lr.1 c j (nj.2 a);rw[gA a] at this;exact this
def IU {w:World} (b:Nat) :
 Calls Tryz.prog 74 #[.nilIface,.iface 251 (.pointer (some ⟨b,0,none⟩))] w λe w'=>e=.returned (.bool false)/\w'=w:=by
 have:∀W,(eqGuard BinOp.eql 134 (Operand.tmp 12) (Operand.tmp 13) Value.nilIface (.iface 251 (.pointer (some ⟨b,0,none⟩)))).run Tryz.prog W=.ok () W:=λ_=>by kernel_rfl
 have:∀W,(binOp BinOp.eql 134 Value.nilIface (.iface 251 (.pointer (some ⟨b,0,none⟩)))).run Tryz.prog W=.ok (.bool false) W:=λ_=>by kernel_rfl
 go_enter Tryz.func74,Tryz.ntmps74;go_wp2;go_ret;exact⟨rfl,rfl⟩
def PN {w:World}:Calls Tryz.prog 75 #[.int .i64 8] w λe w'=>e=.returned (.iface 251 (.pointer (some ⟨w.heap.size,0,none⟩)))/\Below w.heap.size w w':=by
 go_enter Tryz.func75,Tryz.ntmps75;go_wp2;go_ret;exact⟨rfl,ah _⟩
def T_ {w:World} (c:dL w) :
 Calls Tryz.prog 33 #[] w λe w'=>∃p,e=.returned (.pointer (some ⟨p,0,none⟩))/\cK w' p fo Gf/\Below w.heap.size w w':=by
 have d:=aa (TD c);have g:=aa (λ(W:World) (E:Below w.heap.size w W)=>TI (c.mono E));have f:=aa (λ(W:World) (E:Below w.heap.size w W)=>Dp (c.mono E) adQ aaI (by have:=Xa;omega) xk aaA (by decide) (by decide) (by decide));rw[IE] at d;have u:=aa (λW=>PN (w:=W));have q:=aa (λW b=>IU (w:=W) b);obtain⟨s1,n⟩:∃s,s=tx (bA (Yw.map iE.t)):=⟨_,rfl⟩;obtain⟨s2,k⟩:∃s,s=tx (eP Gf):=⟨_,rfl⟩;rw[<-n] at d f;rw[<-k] at g f;clear n k c;go_enter Tryz.func33,Tryz.ntmps33;go_wp2_with fail;refine d.out.mono ?_;rintro e y⟨rfl,i⟩;go_wp2_with fail;refine(g.out _ i).mono ?_;rintro e x⟨rfl,j⟩;have a:=af i j;go_wp2_with fail;refine(f.out _ a).mono ?_;rintro e v⟨p,rfl,l,o⟩;have h:=af a o;have r:=aa l;clear l i j a o d g f;go_wp2_with fail;refine(u.out _).mono ?_;rintro e w4⟨rfl,m⟩;go_wp2_with fail;refine(q.out _ _).mono ?_;rintro e w5⟨rfl,rfl⟩;go_wp2;go_ret;exact⟨p,rfl,r.out.mono m,af h m⟩
end Go.Proofs.YtmnimbnojdndmaaGreatDoor
end
namespace Go.Proofs.YtmnimbnojdndmaaGreatDoor
open Go.RowKit Go.Cd _root_.Go.Proofs.Tryz
def Ua:eF (ai fo) (bf (kF fo) [0x41,0x30a])<=1000:=by decide +kernel
def Ub:eF (ai fo) (bf (kF fo) [0x73,0x323,0x307])<=1000:=by decide +kernel
def QN {w:World} (u:nk w) {g:Nat} (i:cK w g fo Gf) (c:Nat) (l:List Nat) (n:Nat) (o:aP c) (d:gQ fo [c]=l) (f:l.length<400) (j:oI fo l=n) (t:eF (ai fo) (bf (kF fo) l)<=1000) (s:ByteArray) (v:tx (dQ [c])=s) :
 Calls prog 15 #[.pointer (some ⟨g,0,none⟩),.string s,.int .i64 1000] w λe w'=>∃a m k,e=.returned (.tuple #[.agg #[.slice a m k],.int .i64 0])/\bT w' (.agg #[.slice a m k]) n/\Below w.heap.size w w':=by
 subst v;refine(QI u i xk (by decide) [c] (λx p=>by rw[gC.1 p];exact o) (by rw[d];exact f) 1000 (by decide)).mono ?_;rintro e w'⟨q,h,_⟩;obtain⟨r,rfl,b⟩:=h (by rw[d];exact t);rw[CZ xk (nG.of xk [c]),d,j] at b;obtain⟨a,m,k,rfl,b⟩:=b.out;exact⟨a,m,k,rfl,b,q⟩
def PQ {w:World} (B:nk w) :
 Calls prog 6 #[] w λe w'=>e=.returned (.bool true)/\Below w.heap.size w w':=by
 have R:=aa (T_ B.acp);have E:=aa B;clear B;go_enter func6,ntmps6;go_wp2_with fail;refine R.out.mono ?_;rintro e w1⟨p,rfl,x,D⟩;have J:=aa (QN (E.out.mono D) x 0x212b _ 3 (by decide) Ml.1 (by decide) Ml.2 Ua ⟨#[226,132,171]⟩ (by decide));have M:=aa x;clear R x;go_wp2_with fail;refine J.out.mono ?_;rintro e I⟨X,un,T,rfl,Q,u⟩;have l:=af D u;obtain⟨w3,b⟩:=ae (I.alloc (.cells #[.slice X un T] eD));have c:=aO b;have z:=Is.nw b;have d:=af l c;have N:=aa (QN (E.out.mono d) (M.out.mono (af u c)) 0x1e69 _ 5 (by decide) Mm.1 (by decide) Mm.2 Ub ⟨#[225,185,169]⟩ (by decide));have m:=aa (Q.mono c);clear J M Q u l c D;go_wp2_with fail;rw[<-b];obtain⟨g3,f⟩:=ae I.heap.size;rw[<-f] at z⊢;clear b f;refine N.out.mono ?_;rintro e w4⟨U,S,Z,rfl,G,r⟩;have H:=z.mono r;have i:=af d r;obtain⟨w5,q⟩:=ae (w4.alloc (.cells #[.slice U S Z] eD));have a:=aO q;have s:=Is.nw q;have A:=H.mono a;have y:=af i a;have t:=aa ((m.out.mono r).mono a);have rX:=aa (G.mono a);clear N m G r d i a z H;go_wp2_with fail;rw[<-q];obtain⟨g5,h⟩:=ae w4.heap.size;rw[<-h] at s⊢;clear q h;have:=A.gd 0 rfl;have:=s.gd 0 rfl;refine aC (Array.replicate 17 true) 17 0 mixed ?_;refine ay [0,1,2,3,4,5,6,7] 9 ?_;refine bC ?_
 iterate 8 (refine aZ rfl ?_)
 refine bD ?_
 iterate 8 (go_big_quiet_step (rfl))
 refine az ?_;refine aI 8 ?_;go_wp2_with fail;refine(uf 3 (by decide) w5.drew).mono ?_;rintro e w6⟨t6,rfl,V,O⟩;have j:=(ag w5).trans O;go_wp2_with fail;refine aF O ?_;have L:=aa (H9 (t.out.mono j) V (lf (l5 (n:=1) (by decide)) (by decide)));rw[decide_eq_true rfl] at L;refine aI 9 ?_;go_wp2_with fail;refine L.out.mono ?_;rintro e W⟨rfl,K⟩;have o:=af j K;go_wp2_with fail;refine aF K ?_;have:=Gr.cell o (s.at 0 rfl);refine ay [10,11,12] 4 ?_
 iterate 3 (refine aA rfl ?_;go_big_quiet_step (rfl))
 refine az ?_;refine aI 13 ?_;go_wp2_with fail;refine(uf 5 (by decide) W).mono ?_;rintro e w8⟨t8,rfl,v,F⟩;have k:=af o F;go_wp2_with fail;refine aF F ?_;have g:=aa (H9 (rX.out.mono k) v (lf (l5 (n:=1) (by decide)) (by decide)));rw[decide_eq_true rfl] at g;refine aI 14 ?_;go_wp2_with fail;refine g.out.mono ?_;rintro e w9⟨rfl,P⟩;have C:=af k P;go_wp2_with fail;refine aF P ?_;refine ay [15,16] 0 ?_
 iterate 2 (refine aA rfl ?_;go_big_quiet_step (rfl))
 refine az ?_;refine aJ [] ?_;refine tail_nil ?_;go_wp2;go_ret;exact⟨rfl,af y C⟩
end Go.Proofs.YtmnimbnojdndmaaGreatDoor
namespace Go.Proofs.YtmnimbnojdndmaaGreatDoor
open Go.RowKit Go.Cd
structure gX where
 code:Int
 cls:Int
 map:List Int
def MH (w:World) (v:Value) (T:List gX):Prop:=
 ∃a cap,v=.slice a T.length cap/\T.length<=cap/\∀i (c:i<T.length),∃b off m,a=some ⟨b,off,none⟩/\b<w.heap.size/\
  w.cell? ⟨b,off+i*3,none⟩=some (.int .i64 T[i].code)/\w.cell? ⟨b,off+i*3+1,none⟩=some (.int .i64 T[i].cls)/\w.cell? ⟨b,off+i*3+2,none⟩=some m/\bG w m (bO T[i].map)
def MH.mono {w w':World} {v:Value} {T:List gX} (h:MH w v T) (c:Below w.heap.size w w'):MH w' v T:=by
 obtain⟨a,cap,o,g,h⟩:=h;refine⟨a,cap,o,g,λi j=>?_⟩;obtain⟨b,off,m,e,d,f,n,l,k⟩:=h i j;exact⟨b,off,m,e,j9 d c.size,aB c f,aB c n,aB c l,k.mono c⟩
def PT (w:World) (v:Value) (T:List gX) (X:List Int):Prop:=∃r x,v=.agg #[r,x]/\MH w r T/\bG w x (bO X)
def PT.mono {w w':World} {v:Value} {T:List gX} {X:List Int} (h:PT w v T X) (a:Below w.heap.size w w'):PT w' v T X:=by
 obtain⟨r,x,c,d,b⟩:=h;exact⟨r,x,c,d.mono a,b.mono a⟩
def bG.MI {w:World} {v:Value} {l:List Int} {n:Nat} (h:bG w v (bO l)) (d:n=l.length):∃a cap,v=.slice a n cap/\n<=cap/\
 ∀i (f:i<l.length),∃b off,a=some ⟨b,off,none⟩/\b<w.heap.size/\w.cell? ⟨b,off+i,none⟩=some (.int .i64 l[i]):=by
 subst d;obtain⟨a,cap,rfl,m,g⟩:=Go.Cd.bG.out h;have c:(bO l).length=l.length:=fq _;refine⟨a,cap,by rw[c],by omega,λi f=>?_⟩;obtain⟨b,off,e,k,j⟩:=g i (by omega);exact⟨b,off,e,k,by rw[j];simp[bO]⟩
abbrev eY:TypeId:=78
def qb:mV Tryz.prog 22 eY (.agg #[.int .i64 0,.int .i64 0,.slice none 0 0]) 3 40:=⟨rfl,Tryz.underlying22,info_parts (by kernel_rfl)⟩
def mh (p:gX×Value):List Value:=[.int .i64 p.1.code,.int .i64 p.1.cls,p.2]
def fG (p:aG×Value):List Value:=[.int .i64 p.1.code,.int .i64 p.1.cls,p.2]
structure mK (B:Nat) (w:World) (r:Value) (L:List (gX×Value)):Prop where
 rows:w.ownsRow B eY 3 r L.length (L.flatMap mh)
 maps:∀p∈L,w.ownsRow B bB 1 p.2 p.1.map.length (bO p.1.map)
 apart:L.Pairwise λp q=>jW p.2 q.2
 nQ:∀p∈L,jW r p.2
 four:∀p∈L,p.1.map.length<=4
def mK.nil (B:Nat) (w:World):mK B w (.slice none 0 0) []:=⟨iu _ _ _ _,by simp,by simp,by simp,by simp⟩
def mK.kept {B:Nat} {w w':World} {r:Value} {L:List (gX×Value)} {row:Option Nat} (h:mK B w r L) (f:w.grownBy w' row) (j:∀k,row=some k->k<B):mK B w' r L:=by
 have H:∀{e:TypeId} {a:Nat} {v:Value} {n:Nat} {b:List Value},w.ownsRow B e a v n b->w'.ownsRow B e a v n b:=by
  intro e a v n b c;refine c.kept f ?_;cases i:v.ownBlock with
  | none=>exact .inl rfl
  | some k=>exact .inr λg=>by have:=(c.lt k i).1;have:=j k g.symm;omega
 exact⟨H h.rows,λp d=>H (h.maps p d),h.apart,h.nQ,h.four⟩
def mK.ext {B:Nat} {w w':World} {r:Value} {L:List (gX×Value)} (h:mK B w r L) (a:Below w.heap.size w w'):mK B w' r L:=
 ⟨aH h.rows a,λp b=>aH (h.maps p b) a,h.apart,h.nQ,h.four⟩
def mK.push {B:Nat} {w w':World} {r f m:Value} {L:List (gX×Value)} {p:gX} (h:mK B w r L) (g:w.ownsRow B bB 1 m p.map.length (bO p.map)) (n:p.map.length<=4)
 (b:∀q∈L,jW q.2 m) (c:jW r m) (l:w'.ownsRow B eY 3 f (L.length+1) (L.flatMap mh++mh (p,m))) (i:w.grownBy w' r.ownBlock) (j:kK w r f):mK B w' f (L++[(p,m)]):=by
 refine⟨by simpa using l,?_,?_,?_,?_⟩
 ·intro q a;rcases gR.1 a with a|a
  ·exact(h.nQ q a).symm.stays (h.maps q a) i
  rw[gC.1 a];exact c.symm.stays g i
 ·rw[lk];refine⟨h.apart,by simp,λq a o d=>?_⟩;rw[gC.1 d];exact b q a
 ·intro q a;rcases gR.1 a with a|a
  ·exact((h.nQ q a).symm.push (λk e=>((h.maps q a).lt k e).2) j).symm
  rw[gC.1 a];exact(c.symm.push (λk e=>(g.lt k e).2) j).symm
 intro q a;rcases gR.1 a with a|a
 ·exact h.four q a
 rw[gC.1 a];exact n
def nH {w:World} {B b n g s i:Nat} {e f:TypeId} {u v:Value} {d l:List Value} {w':World} (c:w.ownsRow B e s u n d) (m:w'.ownsRow b f i v g l) (h:w.heap.size<=b):jW u v:=by
 intro k j a;have:=(c.lt k j).2;have:=(m.lt k a).1;omega
end Go.Proofs.YtmnimbnojdndmaaGreatDoor
namespace Go.Proofs.YtmnimbnojdndmaaGreatDoor
open Go.RowKit Go.Cd _root_.Go.Proofs.Tryz
def mK.past {B:Nat} {w4 w w':World} {r:Value} {L:List (gX×Value)} {row:Option Nat} (f:mK B w4 r L) (h:mK B w r L) (i:w.grownBy w' row) (g:∀k,row=some k->w4.heap.size<=k):mK B w' r L:=by
 have H:∀{e:TypeId} {a:Nat} {v:Value} {n:Nat} {b:List Value},w4.ownsRow B e a v n b->w.ownsRow B e a v n b->w'.ownsRow B e a v n b:=by
  intro e a v n b c l;refine l.kept i ?_;cases m:v.ownBlock with
  | none=>exact .inl rfl
  | some k=>exact .inr λj=>by have:=(c.lt k m).2;have:=g k j.symm;omega
 exact⟨H f.rows h.rows,λp d=>H (f.maps p d) (h.maps p d),h.apart,h.nQ,h.four⟩
abbrev jd:TypeId:=25
def adR {w:World} {v:Value} {T:List gX} {X:List Int} (h:PT w v T X) :
 Calls prog 119 #[v] w λe w'=>∃r x L Y,e=.returned (.agg #[r,x])/\mK w.heap.size w' r L/\w'.ownsRow w.heap.size bB 1 x Y.length (ints Y)/\(∀p∈L,jW x p.2)/\L.length<=20/\Y.length<=30/\(∀y∈Y,aP y)/\Below w.heap.size w w':=by
 obtain⟨r,x,rfl,⟨a,cap,rfl,_,hx⟩,h2⟩:=h;obtain⟨nx,ap⟩:∃n,n=X.length:=⟨_,rfl⟩;obtain⟨ax,cx,rfl,_,hy⟩:=bG.MI h2 ap;obtain⟨n,hn⟩:=ae T.length;rw[<-hn];have HX:=aa hx;have HY:=aa hy;have HN:=aa hn;have aw:=aa ap;obtain⟨W1,ab⟩:=ae (w.alloc (.cells #[.slice a n cap,.slice ax nx cx] jd));obtain⟨W2,ad⟩:=ae (W1.alloc (.cells #[.slice none 0 0,.slice none 0 0] jd));obtain⟨W0,hW⟩:=ae (W2.alloc (.cells #[.slice none 0 0,.slice none 0 0] jd));have e1:W1.heap.size=w.heap.size+1:=by rw[ab];simp
 have e2:W2.heap.size=w.heap.size+2:=by rw[ad];simp[e1]
 have e3:W0.heap.size=w.heap.size+3:=by rw[hW];simp[e2]
 have b1:=aO ab;have b2:=aO ad;have b3:=aO hW;have i1:Is W0 w.heap.size #[.slice a n cap,.slice ax nx cx] jd:=by
  have:Is W1 w.heap.size #[.slice a n cap,.slice ax nx cx] jd:=by rw[ab];exact Is.new _ _ _
  exact(this.mono b2).mono b3
 have i2:Is W0 (w.heap.size+1) #[.slice none 0 0,.slice none 0 0] jd:=by
  have:Is W2 (w.heap.size+1) #[.slice none 0 0,.slice none 0 0] jd:=by rw[ad];exact Is.new' _ _ _ _ e1.symm
  exact this.mono b3
 have i3:Is W0 (w.heap.size+2) #[.slice none 0 0,.slice none 0 0] jd:=by rw[hW];exact Is.new' _ _ _ _ e2.symm
 have b0:=af (af b1 b2) b3;rw[ad,ab] at hW;clear hx hy hn ap h2 b1 b2 b3 e1 e2 ab ad;go_enter func119,ntmps119;go_wp2_with fail;rw[<-hW];clear hW;go_loopw [4] (λiv wr=>∃(j:Nat) (L:List (gX×Value)) (rv:Value),j<=20/\iv=.int .i64 j/\L.length<=j/\mK (w.heap.size+3) wr rv L/\Is wr w.heap.size #[.slice a n cap,.slice ax nx cx] jd/\Is wr (w.heap.size+1) #[.slice none 0 0,.slice none 0 0] jd/\Is wr (w.heap.size+2) #[rv,.slice none 0 0] jd/\w.heap.size+3<=wr.heap.size/\Below w.heap.size w wr) (λiv _=>20-(intOf iv).toNat)
 case atStart=>exact⟨0,[],_,by decide,rfl,by decide,mK.nil _ _,i1,i2,i3,by omega,b0⟩
 case round=>
  clear i1 i2 i3 e3 b0;obtain⟨j,L,rv,hj,rfl,Qr,hF,S,c,D,a5,z⟩:=hrel;have d0:=S.at 0 rfl;have d1:=S.at 1 rfl;by_cases a2:j<n
  ·by_cases a3:j<20
   ·have aX:j<T.length:=by have:=HN.out;omega
    have zj:decide ((j:Int)<20)=true:=by simp;omega
    obtain⟨b,off,m,rfl,a9,c0,c1,c2,hm⟩:=HX.out j aX;have c0:=aB z c0;have c1:=aB z c1;have c2:=aB z c2;have hm:=hm.mono z;generalize T[j]=q at *;obtain⟨nm,ar⟩:=ae q.map.length;obtain⟨am,cm,rfl,_,aD⟩:=bG.MI hm ar;have Uc:=aa aD;have sN:=aa ar;have E:=aa hF;have a4:=HY;clear hm aD ar hF;have g0:=Gr.cell (ag wr) d0;have g1:=Gr.cell (ag wr) c0;have g2:=Gr.cell (ag wr) c1;go_wp2_with fail;refine aC #[true,true,true,true,true,true,true,true,true,true,true,true,true,true,true,true,false] 16 1 mixed ?_;refine ay [0,1,2,3,4,5,6,7,8,9,10,11,12,13,14] 1 ?_;refine bC ?_
    iterate 15 (refine aZ rfl ?_)
    refine bD ?_
    iterate 15 (go_big_quiet_step (rfl))
    refine az ?_;refine aI 15 ?_;go_wp2_with fail;refine aF (ah _) ?_;refine aJ [16] ?_;refine tail_cons rfl ?_;go_wp2_with fail;refine tail_nil ?_;generalize wrap64 (wrap32 q.code)=C at *;obtain⟨wo,ku⟩:∃w',w'=wr:=⟨_,rfl⟩;subst ku;obtain⟨w5,vJ⟩:=ae ((wo.alloc (.cells #[.int .i64 C,.int .i64 q.cls,.slice none 0 0] eY)).drew);have jP:Below wo.heap.size wo w5:=by rw[vJ];exact af (ah _) (ag _)
    have r5:Is w5 wo.heap.size #[.int .i64 C,.int .i64 q.cls,.slice none 0 0] eY:=by rw[vJ];exact(Is.new _ _ _).mono (ag _)
    go_wp2_with fail;rw[<-vJ];clear vJ g0 g1 g2 c0 c1;go_loopw [6] (λkv F=>∃(k:Nat) (M:List Int) (mv:Value),k<=4/\kv=.int .i64 k/\M.length<=k/\F.ownsRow wo.heap.size bB 1 mv M.length (bO M)/\Is F wo.heap.size #[.int .i64 C,.int .i64 q.cls,mv] eY/\Below wo.heap.size wo F) (λkv _=>4-(intOf kv).toNat)
    case atStart=>exact⟨0,[],_,by decide,rfl,by decide,iu _ _ _ _,r5,jP⟩
    case round=>
     clear r5 jP;obtain⟨k,M,mv,t,rfl,a7,hM,r2,N⟩:=hrel;have c2:=aB N c2;have e0:=aB N d0;by_cases a6:k<nm
     ·by_cases a8:k<4
      ·have zk:decide ((k:Int)<4)=true:=by simp;omega
       have aK:k<q.map.length:=by have:=sN.out;omega
       obtain⟨bm,fm,rfl,_,hz⟩:=Uc.out k aK;have hz:=aB N hz;generalize q.map[k]=y at *;have g0:=Gr.cell (ag wr) e0;have g1:=Gr.cell (ag wr) c2;have g2:=Gr.cell (ag wr) hz;have g3:=r2.gd 2 rfl;have aN:=aa (aH hM (ag wr));have aW:=aa (af N (ag wr));have R2:=aa (r2.mono (ag wr));obtain⟨av,cv,rfl,_,_⟩:=ak hM;go_wp2_with fail;refine aC #[true,true,true,true,true,true,true,true,true,true,true,true,true,true,false,false,false] 14 3 mixed ?_;refine ay [0,1,2,3,4,5,6,7,8,9,10,11,12] 1 ?_;refine bC ?_
       iterate 13 (refine aZ rfl ?_)
       refine bD ?_
       iterate 13 (go_big_quiet_step (rfl))
       refine az ?_;refine aI 13 ?_;go_wp2_with fail;refine aF (ah _) ?_;refine aJ [14,15,16] ?_;refine tail_cons rfl ?_;refine f_ (W:=wr.drew) rfl _ _ 23 rfl wo.heap.size bB _ 8 jN (.slice av M.length cv) M.length (bO M) rfl aN.out _ rfl rfl (by omega) (by unfold maxLen;omega) wo aW.out (gw _) ?_;intro J P O i aq G;have V:=((R2.out.mono (ah _)).grown G (Is.other (R2.out.mono (ah _)) aq (by decide)));obtain⟨a1,Ao,rfl,_,_⟩:=ak O;have c3:=V.at 2 rfl;have f3:=V.frozen 2;refine tail_cons rfl ?_;go_wp2_with fail;refine tail_nil ?_;go_wp2;go_roundw
       case rel=>exact⟨k+1,M++[wrap64 (wrap32 y)],_,by omega,rfl,by simp;omega,by
        have:=bn O (Is.other V O (by decide)) 2 (.slice a1 (M.length+1) Ao)
        simpa [bO] using this,V.set 2 _,aj i (gw _)⟩
       case measure=>simp[intOf];omega
      have zk:decide ((k:Int)<4)=false:=by simp;omega
      have o3:=D.mono N;have Zv:=o3.at 0 rfl;have aL:=o3.frozen 0;have aU:=r2.at 0 rfl;have aY:=r2.at 1 rfl;have aG:=r2.at 2 rfl;have I:=E.out.ext N;obtain⟨g,f,rfl,_,_⟩:=ak I.rows;obtain⟨ac,ai,rfl,_,_⟩:=ak hM
      have HP:=aa (λ(P:World) (J:Value) (ho:P.ownsRow (w.heap.size+3) eY 3 J (L.length+1) (L.flatMap mh++mh (⟨C,q.cls,M⟩,.slice ac M.length ai))) (hg:wr.grownBy P (Value.slice g L.length f).ownBlock) (hN:kK wr (.slice g L.length f) J)=>
       mK.push (p:=⟨C,q.cls,M⟩) I (aT hM (by omega)) (by show M.length<=4;omega) (λp H=>nH (E.out.maps p H) hM (gw _)) (nH E.out.rows hM (gw _)) ho hg hN)
      have HR:=aa I.rows;have aE:=Qr;clear I Uc sN;go_wp2_with (at_builtin;go_loud (refine qf (W:=wr) rfl _ _ 22 rfl (w.heap.size+3) eY _ 3 40 qb (by decide) (by decide) (by decide) (by decide) (.slice g L.length f) L.length (L.flatMap mh) rfl HR.out _ rfl rfl (by simp[Value.oneCell']) (by omega) wr (gO _ _) (by have:=N.size;omega) ?_);intro J P O i G an;have V:=o3.low i (by omega);have aV:=V.at 0 rfl;have a0:=V.frozen 0;obtain⟨a1,Ao,rfl,_,_⟩:=ak O);go_roundw
      case rel=>
       have Vj:Below w.heap.size w P:=(z.trans (N.mono z.size)).trans (i.mono (by omega))
       exact⟨j+1,L++[(⟨C,q.cls,M⟩,.slice ac M.length ai)],_,by omega,rfl,by simp;omega,(HP.out P _ O G an).kept (bX _ (w.heap.size+2) 0 _) (λk t=>by cases t;omega),
        ((S.mono N).low i (by omega)).put (by omega) _,((c.mono N).low i (by omega)).put (by omega) _,V.set 0 _,by have:=N.size;have:=i.size;simp;omega,aj Vj (by omega)⟩
      case measure=>simp[intOf];omega
     have o3:=D.mono N;have Zv:=o3.at 0 rfl;have aL:=o3.frozen 0;have aU:=r2.at 0 rfl;have aY:=r2.at 1 rfl;have aG:=r2.at 2 rfl;have I:=E.out.ext N;obtain⟨g,f,rfl,_,_⟩:=ak I.rows;obtain⟨ac,ai,rfl,_,_⟩:=ak hM
     have HP:=aa (λ(P:World) (J:Value) (ho:P.ownsRow (w.heap.size+3) eY 3 J (L.length+1) (L.flatMap mh++mh (⟨C,q.cls,M⟩,.slice ac M.length ai))) (hg:wr.grownBy P (Value.slice g L.length f).ownBlock) (hN:kK wr (.slice g L.length f) J)=>
      mK.push (p:=⟨C,q.cls,M⟩) I (aT hM (by omega)) (by show M.length<=4;omega) (λp H=>nH (E.out.maps p H) hM (gw _)) (nH E.out.rows hM (gw _)) ho hg hN)
     have HR:=aa I.rows;have aE:=Qr;clear I Uc sN;go_wp2_with (at_builtin;go_loud (refine qf (W:=wr) rfl _ _ 22 rfl (w.heap.size+3) eY _ 3 40 qb (by decide) (by decide) (by decide) (by decide) (.slice g L.length f) L.length (L.flatMap mh) rfl HR.out _ rfl rfl (by simp[Value.oneCell']) (by omega) wr (gO _ _) (by have:=N.size;omega) ?_);intro J P O i G an;have V:=o3.low i (by omega);have aV:=V.at 0 rfl;have a0:=V.frozen 0;obtain⟨a1,Ao,rfl,_,_⟩:=ak O);go_roundw
     case rel=>
      have Vj:Below w.heap.size w P:=(z.trans (N.mono z.size)).trans (i.mono (by omega))
      exact⟨j+1,L++[(⟨C,q.cls,M⟩,.slice ac M.length ai)],_,by omega,rfl,by simp;omega,(HP.out P _ O G an).kept (bX _ (w.heap.size+2) 0 _) (λk t=>by cases t;omega),
       ((S.mono N).low i (by omega)).put (by omega) _,((c.mono N).low i (by omega)).put (by omega) _,V.set 0 _,by have:=N.size;have:=i.size;simp;omega,aj Vj (by omega)⟩
     case measure=>simp[intOf];omega
   have zj:decide ((j:Int)<20)=false:=by simp;omega
   obtain⟨w4,ku⟩:∃w',w'=wr:=⟨_,rfl⟩;subst ku;have E:=aa hF;clear hF;go_wp2_with fail;go_loopw [7] (λkv F=>∃(m:Nat) (Y:List Nat) (yv:Value),m<=30/\kv=.int .i64 m/\Y.length<=m/\(∀y∈Y,aP y)/\F.ownsRow w4.heap.size bB 1 yv Y.length (ints Y)/\mK (w.heap.size+3) F rv L/\Is F w.heap.size #[.slice a n cap,.slice ax nx cx] jd/\Is F (w.heap.size+1) #[.slice none 0 0,.slice none 0 0] jd/\Is F (w.heap.size+2) #[rv,yv] jd/\w4.heap.size<=F.heap.size/\Below w.heap.size w F) (λkv _=>30-(intOf kv).toNat)
   case atStart=>exact⟨0,[],_,by decide,rfl,by decide,by simp,iu _ _ _ _,E.out,S,c,D,gw _,z⟩
   case round=>
    clear S c D z d0 d1;obtain⟨m,Y,yv,hm,rfl,aM,U,d,l,S,c,D,al,z⟩:=hrel;have d1:=S.at 1 rfl;by_cases Ja:m<nx
    ·by_cases aS:m<30
     ·have zm:decide ((m:Int)<30)=true:=by simp;omega
      have kz:m<X.length:=by have:=aw.out;omega
      obtain⟨bx,fx,rfl,_,hz⟩:=HY.out m kz;have hz:=aB z hz;generalize X[m]=x at *;have CH:=aa (λW=>jL (w:=W) x);have R:=(rT (x:=(x % 2097152).toNat));have Uq:=R.1;have Ro:=aa R;generalize lG (x % 2097152).toNat=ch at *;have g1:=Gr.cell (ag wr) d1;have g2:=Gr.cell (ag wr) hz;have g3:=D.gd 1 rfl;obtain⟨o,s,rfl,_,_⟩:=ak d;have ao:=aa l;have M5:=aa U;clear l U R;go_wp2_with fail;refine aC #[true,true,true,true,true,true,true,true,true,true,false,false,false] 10 3 mixed ?_;refine ay [0,1,2,3,4,5,6] 3 ?_;refine bC ?_
      iterate 7 (refine aZ rfl ?_)
      refine bD ?_
      iterate 7 (go_big_quiet_step (rfl))
      refine az ?_;refine aI 7 ?_;go_wp2_with fail;refine(CH.out _).mono ?_;rintro e aR⟨rfl,rfl⟩;go_wp2_with fail;refine aF (gO _ _) ?_;refine ay [8] 1 ?_
      iterate 1 (refine aA rfl ?_;go_big_quiet_step (rfl))
      refine az ?_;refine aI 9 ?_;go_wp2_with fail;refine aF (ah _) ?_;refine aJ [10,11,12] ?_;refine tail_cons rfl ?_;refine f_ (W:=wr.drew) rfl _ _ 23 rfl w4.heap.size bB _ 8 jN (.slice o Y.length s) Y.length (ints Y) rfl (aH d (ag wr)) _ rfl rfl (by omega) (by unfold maxLen;omega) wr.drew (gO _ _) al ?_;intro J P O i aq G;have au:Below wr.heap.size wr (wr.drew.alloc (.cells #[.int .i64 (ch:Nat)] bB)):=af (ag wr) (ah _);have Z:∀k,(Value.slice o Y.length s).ownBlock=some k->w4.heap.size<=k:=λk t=>(d.lt k t).1;have B:Below w4.heap.size wr P:=((ag wr).mono al).trans i;have K1:=S.low B (by omega);have K2:=c.low B (by omega);have K3:=D.low B (by omega);obtain⟨a1,Ao,rfl,_,_⟩:=ak O;have c3:=K3.at 1 rfl;have f3:=K3.frozen 1;refine tail_cons rfl ?_;go_wp2_with fail;refine tail_nil ?_;go_wp2;go_roundw
      case rel=>
       refine⟨m+1,Y++[ch],_,by omega,rfl,by simp;omega,?_,?_,?_,K1.put (by omega) _,K2.put (by omega) _,K3.set 1 _,by have:=B.size;simp;omega,aj (z.trans (B.mono (by omega))) (by omega)⟩
       ·intro y hy;rcases gR.1 hy with h|h
        ·exact M5.out y h
        rw[gC.1 h];exact Ro.out
       ·have:=bn O (aQ O (k:=w.heap.size+2) (by omega)) 1 (.slice a1 (Y.length+1) Ao);simpa [ints] using this
       exact((E.out.past (ao.out.ext au) G Z).kept (bX _ (w.heap.size+2) 1 _) (λk t=>by cases t;omega))
      case measure=>simp[intOf];omega
     have zm:decide ((m:Int)<30)=false:=by simp;omega
     have e0:=D.at 0 rfl;have e1:=D.at 1 rfl;have s0:=c.at 0 rfl;have s1:=c.at 1 rfl;have t0:=c.frozen 0;have t1:=c.frozen 1;obtain⟨o,s,rfl,_,_⟩:=ak d;obtain⟨g,f,rfl,_,_⟩:=ak l.rows;have u1:=λu=>(c.set 0 u).at 1 rfl;have u2:=λu=>(c.set 0 u).frozen 1;have K:=(c.set 0 (.slice g L.length f)).set 1 (.slice o Y.length s);have v0:=K.at 0 rfl;have J:=K.at 1 rfl;have A:=aa ((l.kept (bX _ (w.heap.size+1) 0 (.slice g L.length f)) (λk t=>by cases t;omega)).kept (bX _ (w.heap.size+1) 1 (.slice o Y.length s)) (λk t=>by cases t;omega));have Q:=aa (bn (bn d (aQ d (k:=w.heap.size+1) (by omega)) 0 (.slice g L.length f)) (aQ (bn d (aQ d (k:=w.heap.size+1) (by omega)) 0 (.slice g L.length f)) (k:=w.heap.size+1) (by omega)) 1 (.slice o Y.length s));have HA:=aa (λ(p:gX×Value) (H:p∈L)=>(nH (E.out.maps p H) d (gw _)).symm);have M5:=aa U;have HB:=aa (aj (aj z (b:=w.heap.size+1) (off:=0) (u:=.slice g L.length f) (by omega)) (b:=w.heap.size+1) (off:=1) (u:=.slice o Y.length s) (by omega));clear d l U z E;go_wp2
     (try simp only[Exit.inBlock,Exit.then])
     refine bodyPost_ret (v:=.agg #[.slice g L.length f,.slice o Y.length s]) (by simp[results,results119,go_sem,v0,J]) rfl ?_;exact⟨_,_,L,Y,rfl,⟨aT A.out.rows (by omega),λp H=>aT (A.out.maps p H) (by omega),A.out.apart,A.out.nQ,A.out.four⟩,aT Q.out (by omega),HA.out,by omega,by omega,M5.out,HB.out⟩
    have e0:=D.at 0 rfl;have e1:=D.at 1 rfl;have s0:=c.at 0 rfl;have s1:=c.at 1 rfl;have t0:=c.frozen 0;have t1:=c.frozen 1;obtain⟨o,s,rfl,_,_⟩:=ak d;obtain⟨g,f,rfl,_,_⟩:=ak l.rows;have u1:=λu=>(c.set 0 u).at 1 rfl;have u2:=λu=>(c.set 0 u).frozen 1;have K:=(c.set 0 (.slice g L.length f)).set 1 (.slice o Y.length s);have v0:=K.at 0 rfl;have J:=K.at 1 rfl;have A:=aa ((l.kept (bX _ (w.heap.size+1) 0 (.slice g L.length f)) (λk t=>by cases t;omega)).kept (bX _ (w.heap.size+1) 1 (.slice o Y.length s)) (λk t=>by cases t;omega));have Q:=aa (bn (bn d (aQ d (k:=w.heap.size+1) (by omega)) 0 (.slice g L.length f)) (aQ (bn d (aQ d (k:=w.heap.size+1) (by omega)) 0 (.slice g L.length f)) (k:=w.heap.size+1) (by omega)) 1 (.slice o Y.length s));have HA:=aa (λ(p:gX×Value) (H:p∈L)=>(nH (E.out.maps p H) d (gw _)).symm);have M5:=aa U;have HB:=aa (aj (aj z (b:=w.heap.size+1) (off:=0) (u:=.slice g L.length f) (by omega)) (b:=w.heap.size+1) (off:=1) (u:=.slice o Y.length s) (by omega));clear d l U z E;go_wp2
    (try simp only[Exit.inBlock,Exit.then])
    refine bodyPost_ret (v:=.agg #[.slice g L.length f,.slice o Y.length s]) (by simp[results,results119,go_sem,v0,J]) rfl ?_;exact⟨_,_,L,Y,rfl,⟨aT A.out.rows (by omega),λp H=>aT (A.out.maps p H) (by omega),A.out.apart,A.out.nQ,A.out.four⟩,aT Q.out (by omega),HA.out,by omega,by omega,M5.out,HB.out⟩
  obtain⟨w4,ku⟩:∃w',w'=wr:=⟨_,rfl⟩;subst ku;have E:=aa hF;clear hF;go_wp2_with fail;go_loopw [7] (λkv F=>∃(m:Nat) (Y:List Nat) (yv:Value),m<=30/\kv=.int .i64 m/\Y.length<=m/\(∀y∈Y,aP y)/\F.ownsRow w4.heap.size bB 1 yv Y.length (ints Y)/\mK (w.heap.size+3) F rv L/\Is F w.heap.size #[.slice a n cap,.slice ax nx cx] jd/\Is F (w.heap.size+1) #[.slice none 0 0,.slice none 0 0] jd/\Is F (w.heap.size+2) #[rv,yv] jd/\w4.heap.size<=F.heap.size/\Below w.heap.size w F) (λkv _=>30-(intOf kv).toNat)
  case atStart=>exact⟨0,[],_,by decide,rfl,by decide,by simp,iu _ _ _ _,E.out,S,c,D,gw _,z⟩
  case round=>
   clear S c D z d0 d1;obtain⟨m,Y,yv,hm,rfl,aM,U,d,l,S,c,D,al,z⟩:=hrel;have d1:=S.at 1 rfl;by_cases Ja:m<nx
   ·by_cases aS:m<30
    ·have zm:decide ((m:Int)<30)=true:=by simp;omega
     have kz:m<X.length:=by have:=aw.out;omega
     obtain⟨bx,fx,rfl,_,hz⟩:=HY.out m kz;have hz:=aB z hz;generalize X[m]=x at *;have CH:=aa (λW=>jL (w:=W) x);have R:=(rT (x:=(x % 2097152).toNat));have Uq:=R.1;have Ro:=aa R;generalize lG (x % 2097152).toNat=ch at *;have g1:=Gr.cell (ag wr) d1;have g2:=Gr.cell (ag wr) hz;have g3:=D.gd 1 rfl;obtain⟨o,s,rfl,_,_⟩:=ak d;have ao:=aa l;have M5:=aa U;clear l U R;go_wp2_with fail;refine aC #[true,true,true,true,true,true,true,true,true,true,false,false,false] 10 3 mixed ?_;refine ay [0,1,2,3,4,5,6] 3 ?_;refine bC ?_
     iterate 7 (refine aZ rfl ?_)
     refine bD ?_
     iterate 7 (go_big_quiet_step (rfl))
     refine az ?_;refine aI 7 ?_;go_wp2_with fail;refine(CH.out _).mono ?_;rintro e aR⟨rfl,rfl⟩;go_wp2_with fail;refine aF (gO _ _) ?_;refine ay [8] 1 ?_
     iterate 1 (refine aA rfl ?_;go_big_quiet_step (rfl))
     refine az ?_;refine aI 9 ?_;go_wp2_with fail;refine aF (ah _) ?_;refine aJ [10,11,12] ?_;refine tail_cons rfl ?_;refine f_ (W:=wr.drew) rfl _ _ 23 rfl w4.heap.size bB _ 8 jN (.slice o Y.length s) Y.length (ints Y) rfl (aH d (ag wr)) _ rfl rfl (by omega) (by unfold maxLen;omega) wr.drew (gO _ _) al ?_;intro J P O i aq G;have au:Below wr.heap.size wr (wr.drew.alloc (.cells #[.int .i64 (ch:Nat)] bB)):=af (ag wr) (ah _);have Z:∀k,(Value.slice o Y.length s).ownBlock=some k->w4.heap.size<=k:=λk t=>(d.lt k t).1;have B:Below w4.heap.size wr P:=((ag wr).mono al).trans i;have K1:=S.low B (by omega);have K2:=c.low B (by omega);have K3:=D.low B (by omega);obtain⟨a1,Ao,rfl,_,_⟩:=ak O;have c3:=K3.at 1 rfl;have f3:=K3.frozen 1;refine tail_cons rfl ?_;go_wp2_with fail;refine tail_nil ?_;go_wp2;go_roundw
     case rel=>
      refine⟨m+1,Y++[ch],_,by omega,rfl,by simp;omega,?_,?_,?_,K1.put (by omega) _,K2.put (by omega) _,K3.set 1 _,by have:=B.size;simp;omega,aj (z.trans (B.mono (by omega))) (by omega)⟩
      ·intro y hy;rcases gR.1 hy with h|h
       ·exact M5.out y h
       rw[gC.1 h];exact Ro.out
      ·have:=bn O (aQ O (k:=w.heap.size+2) (by omega)) 1 (.slice a1 (Y.length+1) Ao);simpa [ints] using this
      exact((E.out.past (ao.out.ext au) G Z).kept (bX _ (w.heap.size+2) 1 _) (λk t=>by cases t;omega))
     case measure=>simp[intOf];omega
    have zm:decide ((m:Int)<30)=false:=by simp;omega
    have e0:=D.at 0 rfl;have e1:=D.at 1 rfl;have s0:=c.at 0 rfl;have s1:=c.at 1 rfl;have t0:=c.frozen 0;have t1:=c.frozen 1;obtain⟨o,s,rfl,_,_⟩:=ak d;obtain⟨g,f,rfl,_,_⟩:=ak l.rows;have u1:=λu=>(c.set 0 u).at 1 rfl;have u2:=λu=>(c.set 0 u).frozen 1;have K:=(c.set 0 (.slice g L.length f)).set 1 (.slice o Y.length s);have v0:=K.at 0 rfl;have J:=K.at 1 rfl;have A:=aa ((l.kept (bX _ (w.heap.size+1) 0 (.slice g L.length f)) (λk t=>by cases t;omega)).kept (bX _ (w.heap.size+1) 1 (.slice o Y.length s)) (λk t=>by cases t;omega));have Q:=aa (bn (bn d (aQ d (k:=w.heap.size+1) (by omega)) 0 (.slice g L.length f)) (aQ (bn d (aQ d (k:=w.heap.size+1) (by omega)) 0 (.slice g L.length f)) (k:=w.heap.size+1) (by omega)) 1 (.slice o Y.length s));have HA:=aa (λ(p:gX×Value) (H:p∈L)=>(nH (E.out.maps p H) d (gw _)).symm);have M5:=aa U;have HB:=aa (aj (aj z (b:=w.heap.size+1) (off:=0) (u:=.slice g L.length f) (by omega)) (b:=w.heap.size+1) (off:=1) (u:=.slice o Y.length s) (by omega));clear d l U z E;go_wp2
    (try simp only[Exit.inBlock,Exit.then])
    refine bodyPost_ret (v:=.agg #[.slice g L.length f,.slice o Y.length s]) (by simp[results,results119,go_sem,v0,J]) rfl ?_;exact⟨_,_,L,Y,rfl,⟨aT A.out.rows (by omega),λp H=>aT (A.out.maps p H) (by omega),A.out.apart,A.out.nQ,A.out.four⟩,aT Q.out (by omega),HA.out,by omega,by omega,M5.out,HB.out⟩
   have e0:=D.at 0 rfl;have e1:=D.at 1 rfl;have s0:=c.at 0 rfl;have s1:=c.at 1 rfl;have t0:=c.frozen 0;have t1:=c.frozen 1;obtain⟨o,s,rfl,_,_⟩:=ak d;obtain⟨g,f,rfl,_,_⟩:=ak l.rows;have u1:=λu=>(c.set 0 u).at 1 rfl;have u2:=λu=>(c.set 0 u).frozen 1;have K:=(c.set 0 (.slice g L.length f)).set 1 (.slice o Y.length s);have v0:=K.at 0 rfl;have J:=K.at 1 rfl;have A:=aa ((l.kept (bX _ (w.heap.size+1) 0 (.slice g L.length f)) (λk t=>by cases t;omega)).kept (bX _ (w.heap.size+1) 1 (.slice o Y.length s)) (λk t=>by cases t;omega));have Q:=aa (bn (bn d (aQ d (k:=w.heap.size+1) (by omega)) 0 (.slice g L.length f)) (aQ (bn d (aQ d (k:=w.heap.size+1) (by omega)) 0 (.slice g L.length f)) (k:=w.heap.size+1) (by omega)) 1 (.slice o Y.length s));have HA:=aa (λ(p:gX×Value) (H:p∈L)=>(nH (E.out.maps p H) d (gw _)).symm);have M5:=aa U;have HB:=aa (aj (aj z (b:=w.heap.size+1) (off:=0) (u:=.slice g L.length f) (by omega)) (b:=w.heap.size+1) (off:=1) (u:=.slice o Y.length s) (by omega));clear d l U z E;go_wp2
   (try simp only[Exit.inBlock,Exit.then])
   refine bodyPost_ret (v:=.agg #[.slice g L.length f,.slice o Y.length s]) (by simp[results,results119,go_sem,v0,J]) rfl ?_;exact⟨_,_,L,Y,rfl,⟨aT A.out.rows (by omega),λp H=>aT (A.out.maps p H) (by omega),A.out.apart,A.out.nQ,A.out.four⟩,aT Q.out (by omega),HA.out,by omega,by omega,M5.out,HB.out⟩
def IV {c:List Nat} {i:Nat} (a:i<c.length) {x:Nat}:x∈c.take (i+1)↔x∈c.take i\/x=c[i]:=by
 rw[gE a,gR,gC]
def PW {w:World} {v:Value} {l:List Nat} (h:bG w v (ints l)) (o:l.length<1000000) (t:Nat) :
 Calls prog 202 #[v,.int .i64 t] w λe w'=>e=.returned (.bool (decide (t∈l)))/\Below w.heap.size w w':=by
 obtain⟨n,k⟩:=ae l.length;obtain⟨a,cap,rfl,_,q⟩:=bG.nO h k;have r:=aa q;have p:=aa k;have:n<1000000:=by omega
 clear h q k;go_enter func202,ntmps202;go_wp2_with fail;go_loopw [9] (λi wr=>∃j:Nat,j<=n/\i=.int .i64 j/\t∉l.take j/\wr=w) (λi _=>n-(intOf i).toNat)
 case atStart=>exact⟨0,gW _,rfl,by simp,rfl⟩
 case round=>
  obtain⟨j,C,rfl,g,rfl⟩:=hrel;by_cases u:j<n
  ·have d:j<l.length:=by have:=p.out;omega
   obtain⟨b,off,rfl,_,D⟩:=r.out j d;have B:=aa g;have A:=aa (IV (c:=l) d (x:=t));have y:=aa (gx d);generalize l[j]=s at *;clear g;by_cases f:s=t
   ·subst f;have m:=aa (decide_eq_true y.out);have z:((s:Int)==s)=true:=by simp
    go_wp2;go_ret;exact⟨dV m.out.symm,gO _ _⟩
   have z:((s:Int)==t)=false:=by simp;omega
   go_wp2;go_roundw
   case rel=>exact⟨j+1,by omega,rfl,λh=>(A.out.1 h).elim B.out (λe=>f e.symm),trivial⟩
   case measure=>simp[intOf];omega
  obtain rfl:j=n:=by omega
  have m:=aa (decide_eq_false (λh=>g (by rw[p.out,kO];exact h)):decide (t∈l)=false);go_wp2;go_ret;exact⟨dV m.out.symm,gO _ _⟩
end Go.Proofs.YtmnimbnojdndmaaGreatDoor
