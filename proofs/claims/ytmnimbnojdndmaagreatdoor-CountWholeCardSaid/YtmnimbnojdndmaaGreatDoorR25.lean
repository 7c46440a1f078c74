/- One machine of an NFD counts as its units do, multiplied; no condition. -/
import Derived.Test.YtmnimbnojdndmaaGreatDoorR24
import Derived.Test.YtmnimbnojdndmaaGreatDoorR23
set_option maxRecDepth 100000
set_option maxHeartbeats 6400000
set_option linter.all false
namespace Go.Proofs.YtmnimbnojdndmaaGreatDoor
open Go.RowKit Go.Cd Go.Shelf _root_.Go.Proofs.Tryz
def Fb.ext {w w':World} {p:Nat} {L:List (aG×Value)} {a:Int} {o:List UInt8} (h:Fb w p L a o) (b:Below w.heap.size w w'):Fb w' p L a o:=by
 obtain⟨⟨v,f,e⟩,c⟩:=h;exact⟨⟨v,f.mono b,aH e b⟩,λx d=>⟨(c x d).1.mono b,(c x d).2⟩⟩
def Fb.put {w:World} {p:Nat} {L:List (aG×Value)} {a last':Int} {o o':List UInt8} (h:Fb w p L a o) (k:Nat) (u:Value)
 (f:∀v,(#[v,.int .i32 a,.string (tx o)]:Array Value).setIfInBounds k u=#[v,.int .i32 last',.string (tx o')]):Fb (w.setCell ⟨p,k,none⟩ u) p L last' o':=by
 obtain⟨⟨v,d,b⟩,c⟩:=h;exact⟨⟨v,f v▸d.set k u,bn b (Go.Cd.aQ b (k:=p) (by omega)) k u⟩,λx e=>⟨(c x e).1.put d.at_ (by decide),(c x e).2⟩⟩
def xz {w:World} (c:Int) (d:Nat) (a:Option Addr) :
 Calls prog 185 #[.agg #[.int .i32 c,.int .i64 0,.slice a 0 d]] w λe w'=>e=.returned (.bool true)/\Below w.heap.size w w':=by
 have f:=ah (w:=w) (.cells #[.int .i32 c,.int .i64 0,.slice a 0 d] 196);have b:=Is.new w #[.int .i32 c,.int .i64 0,.slice a 0 d] 196;have:=b.at 0 rfl;have:=b.at 1 rfl;have:=b.at 2 rfl;go_enter func185,ntmps185;go_wp2;go_ret;exact⟨rfl,f⟩
def XK {s q:List UInt8} (a:s.length<=60) (W:World):Calls prog 215 #[.string (tx s),.string (tx q)] W λe w'=>e=.returned (.tuple #[.string (tx (Lib.trimSuffix s q)),.bool (Lib.hasSuffix s q)])/\w'=W:=by
 have:=Tryz.strings_CutSuffix (tx s) (tx q) W (by rw[aX];omega);rw[dM,dM] at this;exact this
def QM:∀b∈U0,Lib.trimSuffix (b++zg) zg=b/\Lib.hasSuffix (b++zg) zg=true/\Lib.hasSuffix (b++zg) Ny=false/\Lib.trimSuffix (b++Ny) Ny=b/\Lib.hasSuffix (b++Ny) Ny=true/\Lib.hasSuffix (b++Ny) zg=false:=by decide
def IP {w:World} {p:Nat} {L:List (aG×Value)} {f:Int} {o nm o':List UInt8} (D:Fb w p L f o) (O:qg o nm o' true) (c:Int) (I:Nat) (a:Option Addr) :
 Calls prog 184 #[.pointer (some ⟨p,0,none⟩),.string (tx nm),.agg #[.int .i32 c,.int .i64 0,.slice a 0 I]] w λe w'=>e=.returned (.bool true)/\Below p w w'/\w.heap.size<=w'.heap.size/\Fb w' p L f o'/\∀k E T,k≠p->Is w k E T->Is w' k E T:=by
 obtain⟨J,g⟩:=ae (w.alloc (.cells #[.int .i32 c,.int .i64 0,.slice a 0 I] 196));have d:=aO g;have m:=Is.nw g;have C:=O.name.2.1;have n:=aa (show ∀W,Calls prog 215 #[.string (tx nm),.string ⟨#[44,32,70,105,114,115,116,62]⟩] W λe w'=>e=.returned (.tuple #[.string (tx (Lib.trimSuffix nm zg)),.bool (Lib.hasSuffix nm zg)])/\w'=W from λW=>XK (q:=zg) C W);have r:=aa (show ∀W,Calls prog 215 #[.string (tx nm),.string ⟨#[44,32,76,97,115,116,62]⟩] W λe w'=>e=.returned (.tuple #[.string (tx (Lib.trimSuffix nm Ny)),.bool (Lib.hasSuffix nm Ny)])/\w'=W from λW=>XK (q:=Ny) C W);have x:=D.ext d;have N:p<w.heap.size:=by obtain⟨⟨v,Y,_⟩,_⟩:=D;exact Y.lt
 have P:=aa (λW=>xz (w:=W) c I a);obtain⟨⟨v,K,_⟩,_⟩:=id x;have e0:=K.at 2 rfl;have d0:=K.frozen 2;have f0:=m.at 0 rfl;have f1:=m.at 1 rfl;have f2:=m.at 2 rfl;have l:p≠w.heap.size:=by omega
 have B:(⟨#[44,32,70,105,114,115,116,62]⟩:ByteArray)=tx zg:=rfl;have H:∀s:List UInt8,s≠[]->(tx s).toList.isEmpty=false:=λs h=>by rw[Lib.toList_data,dM];cases s with|nil=>exact absurd rfl h|cons=>rfl
 cases O with
 | fst b hb=>
   obtain⟨y,z,t,_⟩:=QM b hb;rw[y,z] at n;rw[t] at r;have X:(tx []).toList.isEmpty=true:=by rw[Lib.toList_data];rfl
   have zs:(tx b++⟨#[44,32,70,105,114,115,116,62]⟩:ByteArray)=tx (b++zg):=by rw[B,dA]
   have U:(tx b).size<=60:=by rw[aX];have:=(Bf b hb).2.2.1;rw[List.length_append] at this;omega
   have S:(⟨#[44,32,70,105,114,115,116,62]⟩:ByteArray).size=8:=rfl;have Q:=aa (K.same 2 (u:=.string (tx [])) rfl);have A:=x.put 2 (.string (tx (b++zg))) (o':=b++zg) (last':=f) (λ_=>rfl);have G:=aa A;clear x A D B H y z t C;go_enter func184,ntmps184;go_wp2_with fail;rw[<-g];clear g;refine(n.out J).mono ?_;rintro e V⟨rfl,rfl⟩;go_wp2_with fail;refine(r.out _).mono ?_;rintro e M⟨rfl,rfl⟩;clear n r;have R:M.setCell ⟨p,2,none⟩ (.string ⟨#[]⟩)=M:=Q.out;go_wp2_with fail;refine(P.out _).mono ?_;rintro e w4⟨rfl,i⟩;go_wp2;go_ret;refine⟨rfl,(aj (d.mono (Nat.le_of_lt N)) (Nat.le_refl _)).trans (i.mono (by rw[World.size_setCell];have:=d.size;omega)),by have:=i.size;rw[World.size_setCell] at this;have:=d.size;omega,G.out.ext i,λk E T F h=>((h.mono d).put F _).mono i⟩
 | lst b hb=>
   obtain⟨_,_,_,y,z,t⟩:=QM b hb;rw[t] at n;rw[y,z] at r;have X:(tx (b++zg)).toList.isEmpty=false:=H _ (Bf b hb).1;have zs:(tx b++⟨#[44,32,70,105,114,115,116,62]⟩:ByteArray)=tx (b++zg):=by rw[B,dA]
   have U:(tx b).size<=60:=by rw[aX];have:=(Bf b hb).2.2.1;rw[List.length_append] at this;omega
   have S:(⟨#[44,32,70,105,114,115,116,62]⟩:ByteArray).size=8:=rfl;have A:=x.put 2 (.string (tx [])) (o':=[]) (last':=f) (λ_=>rfl);have G:Hid (Fb (J.setCell ⟨p,2,none⟩ (.string ⟨#[]⟩)) p L f []):=aa A;have Z:=(m.put (k:=w.heap.size) (j:=p) (o:=2) (Ne.symm l) (.string ⟨#[]⟩)).at 0 rfl;have g1:=(m.put (k:=w.heap.size) (j:=p) (o:=2) (Ne.symm l) (.string ⟨#[]⟩)).at 1 rfl;have g2:=(m.put (k:=w.heap.size) (j:=p) (o:=2) (Ne.symm l) (.string ⟨#[]⟩)).at 2 rfl;clear x A D B H y z t C;go_enter func184,ntmps184;go_wp2_with fail;rw[<-g];clear g;refine(n.out J).mono ?_;rintro e V⟨rfl,rfl⟩;go_wp2_with fail;refine(r.out _).mono ?_;rintro e M⟨rfl,rfl⟩;clear n r;go_wp2_with fail;refine(P.out _).mono ?_;rintro e w4⟨rfl,i⟩;go_wp2;go_ret;refine⟨rfl,(aj (d.mono (Nat.le_of_lt N)) (Nat.le_refl _)).trans (i.mono (by rw[World.size_setCell];have:=d.size;omega)),by have:=i.size;rw[World.size_setCell] at this;have:=d.size;omega,G.out.ext i,λk E T F h=>((h.mono d).put F _).mono i⟩
def PM {w:World} {p:Nat} (hG:dL w) {L:List (aG×Value)} {f:Int} {o nm o':List UInt8} (hR:Fb w p L f o) (hs:qg o nm o' true) (r:aG) (K:Bq r) (h0:r.cls=0/\r.map=[]) (ac:f<r.code) :
 Calls prog 149 #[.pointer (some ⟨p,0,none⟩),.string (tx (eu nm r))] w λe w'=>e=.returned (.string ⟨#[]⟩)/\Below p w w'/\w.heap.size<=w'.heap.size/\Fb w' p L r.code o':=by
 have i:=hs.name;have SP:=aa (tN hG (gz nm r) rfl (λq hq h=>(Bh i.2 K.cls q hq _ h).2 rfl) (kU i.2 K.cls K.len));have Z:=aa (λ(W:World) (h:dL W) (k:Nat) (hk:Is W k ((gz nm r).map λl=>Value.string (tx l)).toArray 9)=>Br h i.1 r K hk);obtain⟨s,E⟩:=ae (tx (eu nm r));have V:tx (bH 59 (gz nm r))=s:=E.symm;rw[V] at SP;rw[<-E];have hp:p<w.heap.size:=by obtain⟨⟨v,h1,_⟩,_⟩:=hR;exact h1.lt
 have ai:=K.code;have an:=i.1;have HS:=aa hs;obtain⟨Q,U⟩:=h0;rw[Q,U] at Z;obtain⟨c,hc⟩:=ae r.code;rw[<-hc] at ac ai Z⊢;have RG:=aa (λ(W:World) (h:Fb W p L f o) (cp:Nat) (a:Option Addr)=>IP h HS.out (c:Nat) cp a);have PL:=aa (λW (cp:Nat) (a:Option Addr)=>xz (w:=W) (c:Nat) cp a);clear E V hs i hc K Q U HS;go_enter func149,ntmps149;go_wp2_with fail;refine SP.out.mono ?_;rintro e w1⟨rfl,t⟩;have j:=aO t;have q1:Is w1 w.heap.size ((gz nm r).map λl=>Value.string (tx l)).toArray 9:=by rw[t];exact Is.new _ _ _
 have al:w1.heap.size=w.heap.size+1:=by rw[t];simp
 clear t SP;go_wp2_with fail;refine(Z.out _ (hG.mono j) _ q1).mono ?_;rintro e H⟨mv,rfl,O,F⟩;have q2:H.cell? ⟨w.heap.size,1,none⟩=some (.string (tx nm)):=(q1.mono F).at 1 rfl;obtain⟨ma,mc,rfl,_,_⟩:=ak O;rw[List.length_nil];have m:=af j F;clear q1 Z O;obtain⟨G,g⟩:=ae (H.alloc (.cells #[.int .i32 (c:Nat),.int .i64 0,.slice ma 0 mc] 196));have x:=aO g;have b3:=Is.nw g;have R3:=(hR.ext m).ext x;have q3:=aB x q2;go_upto_region 5 with fail;rw[<-g];have z:=af m x;have S:G.heap.size=H.heap.size+1:=by rw[g];simp
 have ad:=F.size;clear g x m hR q2;have zl:decide ((c:Int)<=f)=false:=by simp;omega
 obtain⟨⟨ov,p3,_⟩,_⟩:=id R3;have g1:=b3.gd 0 rfl;have g2:=p3.gd 1 rfl;refine aC (Array.replicate 8 true) 8 0 mixed ?_;refine ay [0,1,2,3,4,5,6,7] 0 ?_
 iterate 8 (refine aA rfl ?_;go_big_quiet_step (rfl))
 refine az ?_;refine aJ [] ?_;refine tail_nil ?_;clear g1 g2 p3;have P:=b3.mono (ag G);have R4:=R3.ext (ag G);have q4:=aB (ag G) q3;have M:=af z (ag G);have Y5:G.drew.heap.size=H.heap.size+1:=S;clear b3 R3 q3 z S;generalize G.drew=w4 at *;go_upto_region 7 with fail;have g0:=Gr.cell (ag w4) q4;have g1:=P.gd 0 rfl;have g2:=P.gd 1 rfl;have g3:=P.gd 2 rfl;refine aC #[true,true,true,true,true,false,false,false] 5 3 mixed ?_;refine ay [0,1,2,3,4] 0 ?_
 iterate 5 (refine aA rfl ?_;go_big_quiet_step (rfl))
 refine az ?_;refine aJ [5,6,7] ?_;refine uO (os:=[_,_,_]) rfl ?_;clear g0 g1 g2 g3;have b5:=P.mono (ag w4);have R5:=R4.ext (ag w4);have rX:=af M (ag w4);have ab:w4.drew.heap.size=H.heap.size+1:=Y5;clear P R4 q4 M Y5;generalize w4.drew=w5 at *;go_wp2_with fail;refine(RG.out _ R5 _ _).mono ?_;rintro e w6⟨rfl,mF,ah,R6,y⟩;have A:p≠H.heap.size:=by have:=j.size;omega
 have C:=y _ _ _ (Ne.symm A) b5;clear y b5 R5 RG;go_wp2_with fail;refine uP ?_;have I:=aa (gZ (w:=w6) c (by omega));have n:Below p w w6:=(rX.mono (Nat.le_of_lt hp)).trans mF;have ao:w.heap.size<w6.heap.size:=by have:=j.size;omega
 clear rX ab mF ah ad j al;have Y:=C.at 0 rfl;have X:=C.at 1 rfl;have e2:=C.at 2 rfl;by_cases R:aP c
 ·rw[decide_eq_true R] at I;go_upto_region 11 with (go_at_call 96;refine I.out.mono ?_;rintro e J⟨rfl,rfl⟩);have b:Below J.heap.size J J:=Below.refl _ _;clear I Y X e2;have B:=C.mono b;have D:=R6.ext b;have N:=D.put 1 (.int .i32 (c:Nat)) (last':=c) (o':=o') (λ_=>rfl);obtain⟨⟨vz,T,_⟩,_⟩:=id D;have Y:=B.at 0 rfl;have d1:=T.frozen 1;have X:=T.at 1 rfl;have u:=B.put (Ne.symm A) (.int .i32 (c:Nat)) (o:=1);have f0:=u.at 0 rfl;have f1:=u.at 1 rfl;have f2:=u.at 2 rfl;have HC:=aa N;have Vk:Below p w J:=n.trans (b.mono (by omega));have am:=b.size;clear R6 D N C B u n;go_wp2_with fail;refine(PL.out _ _ _).mono ?_;rintro e wy⟨rfl,d⟩;go_wp2;go_ret;exact⟨rfl,(aj Vk (Nat.le_refl _)).trans (d.mono (by rw[World.size_setCell];omega)),by have:=d.size;rw[World.size_setCell] at this;omega,HC.out.ext d⟩
 rw[decide_eq_false R] at I;go_upto_region 9 with fail;go_wp2_with fail;refine I.out.mono ?_;rintro e w7⟨rfl,rfl⟩;go_wp2_with fail;refine(PL.out _ _ _).mono ?_;rintro e J⟨rfl,b⟩;clear I Y X e2;have B:=C.mono b;have D:=R6.ext b;have N:=D.put 1 (.int .i32 (c:Nat)) (last':=c) (o':=o') (λ_=>rfl);obtain⟨⟨vz,T,_⟩,_⟩:=id D;have Y:=B.at 0 rfl;have d1:=T.frozen 1;have X:=T.at 1 rfl;have u:=B.put (Ne.symm A) (.int .i32 (c:Nat)) (o:=1);have f0:=u.at 0 rfl;have f1:=u.at 1 rfl;have f2:=u.at 2 rfl;have HC:=aa N;have Vk:Below p w J:=n.trans (b.mono (by omega));have am:=b.size;clear R6 D N C B u n;go_wp2_with fail;refine(PL.out _ _ _).mono ?_;rintro e wy⟨rfl,d⟩;go_wp2;go_ret;exact⟨rfl,(aj Vk (Nat.le_refl _)).trans (d.mono (by rw[World.size_setCell];omega)),by have:=d.size;rw[World.size_setCell] at this;omega,HC.out.ext d⟩
def opAt (I:List iE):Nat->List UInt8
 | 0=>[]
 | k+1=>match I[k]? with|some l=>l.op|none=>[]
def adO (l:iE):Prop:=Bq l.r/\(l.pl=true->l.r.cls=0/\l.r.map=[])/\(l.pl=false->(l.r.cls≠0\/l.r.map≠[])/\aP l.r.code)
structure ME (I:List iE):Prop where
 ok:∀l∈I,adO l
 step:∀j (h:j<I.length),qg (opAt I j) I[j].nm I[j].op I[j].pl
 rise:rising (I.map (·.r))
 fin:opAt I I.length=[]
 len:I.length<40000
def XL {w:World} {p:Nat} (i:dL w) {L:List (aG×Value)} {d:Int} {o:List UInt8} (n:Fb w p L d o) (l:iE) (g:qg o l.nm l.op l.pl) (h:adO l) (f:d<(l.r.code:Nat)) (s:L.length<100000) :
 Calls prog 149 #[.pointer (some ⟨p,0,none⟩),.string (tx l.t)] w λe w'=>e=.returned (.string ⟨#[]⟩)/\Below p w w'/\w.heap.size<=w'.heap.size/\∃m,m.map (·.1)=L.map (·.1)++(if l.pl then [] else [l.r])/\Fb w' p m l.r.code l.op:=by
 obtain⟨nm,r,op,u⟩:=l;obtain⟨k,q,j⟩:=h;cases u with
 | true=>
   refine(PM i n g r k (q rfl) f).mono ?_;rintro e w'⟨rfl,a,b,c⟩;exact⟨rfl,a,b,L,by simp,c⟩
 | false=>
   have g:qg o nm op false:=g;cases g;refine(JW i n r k f (j rfl).1 (j rfl).2 s).mono ?_;rintro e w'⟨rfl,a,b,v,c⟩;exact⟨rfl,a,b,L++[(r,v)],by simp,c⟩
def MF {d w:World} {p:Nat} {v:Value} {I:List iE} (N:ME I) (U:dL d) (Q:bG d v (qM (I.map iE.t))) (B:d.heap.size<=p) (C:Below d.heap.size d w) (g:Fb w p [] (-1) []) :
 Calls prog 148 #[v,.func (.func 149) #[.pointer (some ⟨p,0,none⟩)] #[]] w λe w'=>e=.returned (.tuple #[.int .i64 0,.string ⟨#[]⟩])/\Below p w w'/\w.heap.size<=w'.heap.size/\∃L,L.map (·.1)=og I/\Fb w' p L (wC (I.map (·.r)) I.length) []:=by
 obtain⟨a,cap,s,_,O⟩:=Q.out;obtain⟨n,m⟩:=ae I.length;have o:(qM (I.map iE.t)).length=n:=by simp[m]
 rw[o] at s;subst s
 have X:=aa (show ∀i (R:i<I.length),∃b off,a=some ⟨b,off,none⟩/\b<d.heap.size/\d.cell? ⟨b,off+i,none⟩=some (.string (tx I[i].t)) from λi R=>by
  obtain⟨b,off,H,M,u⟩:=O i (by simpa using R);refine⟨b,off,H,M,u.trans ?_⟩
  simp[qM])
 have S:=aa m;have x:=aa N;have ab:n<40000:=by rw[m];exact N.len
 rw[<-m];clear m O Q o;go_enter func148,ntmps148;go_wp2_with fail;go_loopw [11] (λF wr=>∃j:Nat,j<=n/\F=.int .i64 j/\(∃L,L.map (·.1)=og (I.take j)/\Fb wr p L (wC (I.map (·.r)) j) (opAt I j))/\Below p w wr/\w.heap.size<=wr.heap.size) (λF _=>n-(intOf F).toNat)
 case atStart=>exact⟨0,Nat.zero_le _,rfl,⟨[],by simp[og],g⟩,Below.refl _ _,Nat.le_refl _⟩
 case round=>
  clear g;obtain⟨j,hj,rfl,⟨L,k,g⟩,A,hs⟩:=hrel;by_cases Y:j<n
  ·have zj:=eG (show j<n by omega);have c:j<I.length:=by have:=S.out;omega
   obtain⟨b,off,rfl,hb,G⟩:=X.out j c;have P:Below d.heap.size d wr:=C.trans (A.mono B);have G:=aB P G;have f:=List.getElem_mem c;have YS:L.length<=j:=by
    have:=congrArg List.length k;rw[List.length_map] at this;unfold og at this;rw[List.length_map] at this;have:=List.length_filter_le (λl=>!l.pl) (I.take j);rw[List.length_take] at this;omega
   have K:wC (I.map (·.r)) j<(I[j].r.code:Nat):=by
    have:=J9 x.out.rise j (by rw[List.length_map];exact c);simpa using this
   have T:=aa (XL (U.mono P) g I[j] (x.out.step j c) (x.out.ok _ f) K (by omega));have J:=aa k
   have y:=aa (show og (I.take (j+1))=og (I.take j)++(if I[j].pl then [] else [I[j].r]) by
    unfold og;rw[List.take_succ_eq_append_getElem c,List.filter_append,List.map_append]
    cases h:I[j].pl <;> simp[h])
   have Yh:=aa (show wC (I.map (·.r)) (j+1)=(I[j].r.code:Nat) by rw[uE (by rw[List.length_map];exact c)];simp);have D:=aa (show opAt I (j+1)=I[j].op by show(match I[j]? with|some l=>l.op|none=>[])=_;rw[List.getElem?_eq_getElem c]);generalize I[j]=l at *;generalize l.t=lt at *;clear k g f;go_wp2_with fail;refine T.out.mono ?_;rintro e w2⟨rfl,H,M,V,q,u⟩;clear T G;have z:(⟨#[]⟩:ByteArray).toList.isEmpty=true:=by rw[Lib.toList_data];rfl
   have Z:=aa u;have E:=aa q;clear u q;go_wp2_with fail;go_roundw
   case rel=>
    exact⟨j+1,by omega,by simp,⟨V,by rw[E.out,J.out,y.out],by rw[Yh.out,D.out];exact Z.out⟩,A.trans H,by omega⟩
   case measure=>simp[intOf];omega
  have zj:=gI (show n<=j by omega);obtain rfl:j=n:=by omega
  have W:=aa g;have J:=aa k;clear g k;go_wp2;go_ret2;have e:=S.out;refine⟨rfl,A,hs,L,by rw[J.out,List.take_of_length_le (by omega)],?_⟩;have:=W.out;rw[e,x.out.fin] at this;rw[e];exact this
def IQ {w:World} (E:dL w) {I:List iE} (j:ME I) (f:(bA (I.map iE.t)).length<1000000) :
 Calls prog 104 #[.string (tx (bA (I.map iE.t)))] w λe w'=>∃(v:Value) (L:List (aG×Value)),e=.returned (.tuple #[v,.nilIface])/\L.map (·.1)=og I/\w'.ownsRow w.heap.size h_ 3 v L.length (L.flatMap dY)/\(∀x∈L,Sl aN w' x.2 (aM x.1.map)/\fU x.2)/\Below w.heap.size w w':=by
 have r:=aa (tT (w:=w) (I.map iE.t) (by
  intro p k;obtain⟨l,B,rfl⟩:=List.mem_map.1 k;obtain⟨i,H,rfl⟩:=List.getElem_of_mem B;have h:=(j.ok _ B).1;have m:=(j.step i H).name.2
  exact⟨JM m h.cls,Nat.le_trans (kU m h.cls h.len) (by decide)⟩) f)
 obtain⟨s,A⟩:=ae (tx (bA (I.map iE.t)));rw[<-A] at r⊢;clear A;have u:I.length<40000:=j.len;go_enter func104,ntmps104;go_wp2_with fail;refine r.out.mono ?_;rintro e q⟨v,rfl,a,c⟩;have b:=(Sl.aU a).any;obtain⟨P,T,rfl,_,_⟩:=ak a;rw[List.length_map] at b⊢;have g:=ah (w:=q) (.cells #[.slice none 0 0,.int .i32 (-1),.string ⟨#[]⟩] 247);have C:Fb (q.alloc (.cells #[.slice none 0 0,.int .i32 (-1),.string ⟨#[]⟩] 247)) q.heap.size [] (-1) []:=⟨⟨.slice none 0 0,Is.new _ _ _,World.ownsRow_nil _ _ _ _⟩,by simp⟩;have o:=aa (MF j (E.mono c) b (Nat.le_refl _) g C);clear C b a r;obtain⟨n,y⟩:=ae I.length;rw[<-y] at o u⊢;have:decide ((40000:Int)<(n:Int))=false:=decide_eq_false (by omega);have J:(⟨#[]⟩:ByteArray).toList.isEmpty=true:=by rw[Lib.toList_data];rfl
 have:(tx []).toList.isEmpty=true:=J;clear y;go_wp2_with fail;refine o.out.mono ?_;rintro e S⟨rfl,h,m,L,F,⟨⟨Q,k,a⟩,z⟩⟩;obtain⟨R,N,rfl,_,_⟩:=ak a;have:=k.at 0 rfl;have:=k.at 2 rfl;have G:=aa a;have D:=aa z;clear o a z;go_wp2;go_ret2;have d:=c.size;exact⟨_,L,rfl,F,aT G.out (by omega),D.out,(c.trans ((g.mono d).trans (h.mono d)))⟩
end Go.Proofs.YtmnimbnojdndmaaGreatDoor
namespace Go.Proofs.YtmnimbnojdndmaaGreatDoor
open Go.RowKit Go.Cd _root_.Go.Proofs.Tryz
def Dp {w:World} (g:dL w) {I:List iE} {T:List aG} {X:List Nat} (H:ME I) (b:og I=T) (a:(bA (I.map iE.t)).length<1000000) (B:aY T X) (G:∀r∈T,r.cls≠0\/r.map≠[]) (V:T.length<1000) (J:X.length<10000) (q:∀c∈X,aP c) :
 Calls prog 71 #[.string (tx (bA (I.map iE.t))),.string (tx (eP X))] w λe w'=>∃p,e=.returned (.tuple #[.pointer (some ⟨p,0,none⟩),.nilIface])/\cK w' p T X/\Below w.heap.size w w':=by
 have m:=aa (IQ g H a);have x:=aa (λ(W:World) (E:Below w.heap.size w W)=>GY (g.mono E) q J);have y:=aa (λ(W:World) (v:Value) (h:qQ W v T X)=>Xj h B G V J);rw[b] at m;clear g H a B G b;obtain⟨s1,f⟩:∃s,s=tx (bA (I.map iE.t)):=⟨_,rfl⟩;obtain⟨s2,u⟩:∃s,s=tx (eP X):=⟨_,rfl⟩;rw[<-f] at m⊢;rw[<-u] at x⊢;clear f u;go_enter func71,ntmps71;go_wp2_with fail;refine m.out.mono ?_;rintro e P⟨v,L,rfl,A,n,z,d⟩;obtain⟨Q,U,rfl,_,_⟩:=ak n;have Y:=aa A;have R:=aa n;have K:=aa z;clear A n z;go_wp2_with fail;refine(x.out P d).mono ?_;rintro e C⟨r,rfl,j,F⟩;obtain⟨k,l,rfl,_,_⟩:=ak j;have O:=aa j;clear j;have i:=ah (w:=C) (.cells #[.slice k (kE X).length l] 148);have b:qQ (C.alloc (.cells #[.slice k (kE X).length l] 148)) (.agg #[.slice Q L.length U,.slice k (kE X).length l]) T X:=by
  have f:=zD.aU R.out K.out;rw[Y.out] at f;exact⟨_,_,rfl,f.mono (af F i),(Sl.aU O.out).any.mono i⟩
 have S:=af (af d F) i;have o:=aa (y.out _ _ b);clear b y;go_wp2_with fail;refine o.out.mono ?_;rintro e Z⟨p,rfl,D,N⟩;have M:=aa D;clear D;go_wp2_with fail;go_ret2;exact⟨p,rfl,M.out,af S N⟩
def Gl (T:List aG):∀j,opAt (T.map tL) j=[]
 | 0=>rfl
 | k+1=>by
   show(match (T.map tL)[k]? with|some l=>l.op|none=>[])=[];rw[List.getElem?_map];cases T[k]? <;> rfl
def XM {T:List aG} (h:NG T):ME (T.map tL):=by
 have b:(T.map tL).map (·.r)=T:=by rw[List.map_map];exact List.map_id _
 refine⟨λl c=>?_,λj d=>?_,by rw[b];exact h.rise,Gl T _,by rw[List.length_map];exact h.len⟩
 ·obtain⟨r,a,rfl⟩:=List.mem_map.1 c;exact⟨h.ok r a,λe=>(by cases e),λ_=>⟨h.says r a,h.chr r a⟩⟩
 rw[Gl,List.getElem_map];exact .row
def MG {w:World} (d:dL w) {T:List aG} {X:List Nat} (g:NG T) (a:(iV T).length<1000000) (h:aY T X) (f:∀r∈T,r.cls≠0\/r.map≠[]) (j:T.length<1000) (i:X.length<10000) (b:∀c∈X,aP c) :
 Calls prog 71 #[.string (tx (iV T)),.string (tx (eP X))] w λe w'=>∃p,e=.returned (.tuple #[.pointer (some ⟨p,0,none⟩),.nilIface])/\cK w' p T X/\Below w.heap.size w w':=by
 have e:iV T=bA ((T.map tL).map iE.t):=by rw[Rj];rfl
 rw[e] at a⊢;exact Dp d (XM g) (E_ T) a h f j i b
end Go.Proofs.YtmnimbnojdndmaaGreatDoor
section
namespace Go.Cd
def XN (o:List UInt8) (l:iE):Bool:=(!l.pl&&(o==[]&&(l.nm==[88]&&l.op==[])))||(l.pl&&U0.any λb=>(o==[]&&(l.nm==b++zg&&l.op==b++zg))||(o==b++zg&&(l.nm==b++Ny&&l.op==[])))
def XO {o:List UInt8} {l:iE} (h:XN o l=true):qg o l.nm l.op l.pl:=by
 obtain⟨nm,r,op,c⟩:=l;unfold XN at h;cases c with
 | false=>
   simp at h;obtain⟨rfl,rfl,rfl⟩:=h;exact .row
 | true=>
   simp at h;obtain⟨b,a,⟨rfl,rfl,rfl⟩|⟨rfl,rfl,rfl⟩⟩:=h
   ·exact .fst b a
   exact .lst b a
def lnB (l:iE):Bool:=decide (l.r.code<1114112)&&decide (l.r.cls<255)&&decide (l.r.map.length<=2)&&l.r.map.all (λc=>decide (c<1114112))&&(if l.pl then decide (l.r.cls=0)&&decide (l.r.map=[]) else (decide (l.r.cls≠0)||decide (l.r.map≠[]))&&decide (aP l.r.code))
end Go.Cd
namespace Go.Proofs.YtmnimbnojdndmaaGreatDoor
open Go.RowKit Go.Cd Go.Shelf
def adP {l:iE} (h:lnB l=true):adO l:=by
 obtain⟨nm,r,op,a⟩:=l;unfold lnB at h;simp only[Bool.and_eq_true,decide_eq_true_eq,List.all_eq_true] at h;obtain⟨⟨⟨⟨g,c⟩,d⟩,f⟩,b⟩:=h;refine⟨⟨g,c,d,f⟩,λe=>?_,λe=>?_⟩
 ·have e:a=true:=e;subst e;simpa using b
 have e:a=false:=e;subst e;simpa using b
def adQ:ME Yw:=by
 have b:Yw.all lnB=true:=by decide +kernel
 have c:(List.range Yw.length).all (λj=>match Yw[j]? with|some l=>XN (opAt Yw j) l|none=>true)=true:=by decide +kernel
 refine⟨λl d=>adP (List.all_eq_true.1 b l d),λj a=>XO ?_,yK (by decide +kernel),by decide +kernel,by decide +kernel⟩;have:=List.all_eq_true.1 c j (List.mem_range.2 a);rw[List.getElem?_eq_getElem a] at this;exact this
def IU {w:World} (b:Nat) :
 Calls Tryz.prog 74 #[.nilIface,.iface 251 (.pointer (some ⟨b,0,none⟩))] w λe w'=>e=.returned (.bool false)/\w'=w:=by
 have:∀W,(eqGuard BinOp.eql 134 (Operand.tmp 12) (Operand.tmp 13) Value.nilIface (.iface 251 (.pointer (some ⟨b,0,none⟩)))).run Tryz.prog W=.ok () W:=λ_=>by kernel_rfl
 have:∀W,(binOp BinOp.eql 134 Value.nilIface (.iface 251 (.pointer (some ⟨b,0,none⟩)))).run Tryz.prog W=.ok (.bool false) W:=λ_=>by kernel_rfl
 go_enter Tryz.func74,Tryz.ntmps74;go_wp2;go_ret;exact⟨rfl,rfl⟩
def PN {w:World}:Calls Tryz.prog 75 #[.int .i64 8] w λe w'=>e=.returned (.iface 251 (.pointer (some ⟨w.heap.size,0,none⟩)))/\Below w.heap.size w w':=by
 go_enter Tryz.func75,Tryz.ntmps75;go_wp2;go_ret;exact⟨rfl,ah _⟩
def T_ {w:World} (c:dL w) :
 Calls Tryz.prog 33 #[] w λe w'=>∃p,e=.returned (.pointer (some ⟨p,0,none⟩))/\cK w' p fo Gf/\Below w.heap.size w w':=by
 have d:=aa (TD c);have i:=aa (λ(W:World) (E:Below w.heap.size w W)=>TI (c.mono E));have f:=aa (λ(W:World) (E:Below w.heap.size w W)=>Dp (c.mono E) adQ aaI (by have:=Xa;omega) xk aaA (by decide) (by decide) (by decide));rw[IE] at d;have u:=aa (λW=>PN (w:=W));have q:=aa (λW b=>IU (w:=W) b);obtain⟨s1,o⟩:∃s,s=tx (bA (Yw.map iE.t)):=⟨_,rfl⟩;obtain⟨s2,j⟩:∃s,s=tx (eP Gf):=⟨_,rfl⟩;rw[<-o] at d f;rw[<-j] at i f;clear o j c;go_enter Tryz.func33,Tryz.ntmps33;go_wp2_with fail;refine d.out.mono ?_;rintro e x⟨rfl,g⟩;go_wp2_with fail;refine(i.out _ g).mono ?_;rintro e v⟨rfl,k⟩;have a:=af g k;go_wp2_with fail;refine(f.out _ a).mono ?_;rintro e y⟨p,rfl,n,m⟩;have h:=af a m;have r:=aa n;clear n g k a m d i f;go_wp2_with fail;refine(u.out _).mono ?_;rintro e w4⟨rfl,l⟩;go_wp2_with fail;refine(q.out _ _).mono ?_;rintro e w5⟨rfl,rfl⟩;go_wp2;go_ret;exact⟨p,rfl,r.out.mono l,af h l⟩
end Go.Proofs.YtmnimbnojdndmaaGreatDoor
end
namespace Go.Proofs.YtmnimbnojdndmaaGreatDoor
open Go.RowKit Go.Cd _root_.Go.Proofs.Tryz
def Ua:eF (ai fo) (bf (kF fo) [0x41,0x30a])<=1000:=by decide +kernel
def Ub:eF (ai fo) (bf (kF fo) [0x73,0x323,0x307])<=1000:=by decide +kernel
def QN {w:World} (h:nk w) {g:Nat} (t:cK w g fo Gf) (c:Nat) (l:List Nat) (n:Nat) (u:aP c) (f:gQ fo [c]=l) (d:l.length<400) (q:oI fo l=n) (j:eF (ai fo) (bf (kF fo) l)<=1000) (s:ByteArray) (p:tx (dQ [c])=s) :
 Calls prog 15 #[.pointer (some ⟨g,0,none⟩),.string s,.int .i64 1000] w λe w'=>∃a m k,e=.returned (.tuple #[.agg #[.slice a m k],.int .i64 0])/\bT w' (.agg #[.slice a m k]) n/\Below w.heap.size w w':=by
 subst p;refine(QI h t xk (by decide) [c] (λx v=>by rw[List.mem_singleton.1 v];exact u) (by rw[f];exact d) 1000 (by decide)).mono ?_;rintro e w'⟨o,i,_⟩;obtain⟨r,rfl,b⟩:=i (by rw[f];exact j);rw[CZ xk (nG.of xk [c]),f,q] at b;obtain⟨a,m,k,rfl,b⟩:=b.out;exact⟨a,m,k,rfl,b,o⟩
def PQ {w:World} (s:nk w) :
 Calls prog 6 #[] w λe w'=>e=.returned (.bool true)/\Below w.heap.size w w':=by
 have Q:=aa (T_ s.acp);have R:=aa s;clear s;go_enter func6,ntmps6;go_wp2_with fail;refine Q.out.mono ?_;rintro e w1⟨p,rfl,A,v⟩;have O:=aa (QN (R.out.mono v) A 0x212b _ 3 (by decide) Ml.1 (by decide) Ml.2 Ua ⟨#[226,132,171]⟩ (by decide));have H:=aa A;clear Q A;go_wp2_with fail;refine O.out.mono ?_;rintro e J⟨S,T,X,rfl,P,t⟩;have i:=af v t;obtain⟨w3,c⟩:=ae (J.alloc (.cells #[.slice S T X] eD));have b:=aO c;have y:=Is.nw c;have d:=af i b;have G:=aa (QN (R.out.mono d) (H.out.mono (af t b)) 0x1e69 _ 5 (by decide) Mm.1 (by decide) Mm.2 Ub ⟨#[225,185,169]⟩ (by decide));have j:=aa (P.mono b);clear O H P t i b v;go_wp2_with fail;rw[<-c];obtain⟨g3,k⟩:=ae J.heap.size;rw[<-k] at y⊢;clear c k;refine G.out.mono ?_;rintro e w4⟨V,U,W,rfl,I,r⟩;have L:=y.mono r;have h:=af d r;obtain⟨w5,q⟩:=ae (w4.alloc (.cells #[.slice V U W] eD));have a:=aO q;have x:=Is.nw q;have z:=L.mono a;have B:=af h a;have C:=aa ((j.out.mono r).mono a);have rX:=aa (I.mono a);clear G j I r d h a y L;go_wp2_with fail;rw[<-q];obtain⟨g5,m⟩:=ae w4.heap.size;rw[<-m] at x⊢;clear q m;have:=z.gd 0 rfl;have:=x.gd 0 rfl;refine aC (Array.replicate 17 true) 17 0 mixed ?_;refine ay [0,1,2,3,4,5,6,7] 9 ?_;refine bC ?_
 iterate 8 (refine aZ rfl ?_)
 refine bD ?_
 iterate 8 (go_big_quiet_step (rfl))
 refine az ?_;refine aI 8 ?_;go_wp2_with fail;refine(uf 3 (by decide) w5.drew).mono ?_;rintro e w6⟨t6,rfl,ht,M⟩;have g:=(ag w5).trans M;go_wp2_with fail;refine aF M ?_;have E:=aa (H9 (C.out.mono g) ht (Nat.lt_of_le_of_lt (l5 (n:=1) (by decide)) (by decide)));rw[decide_eq_true rfl] at E;refine aI 9 ?_;go_wp2_with fail;refine E.out.mono ?_;rintro e Z⟨rfl,N⟩;have l:=af g N;go_wp2_with fail;refine aF N ?_;have:=Gr.cell l (x.at 0 rfl);refine ay [10,11,12] 4 ?_
 iterate 3 (refine aA rfl ?_;go_big_quiet_step (rfl))
 refine az ?_;refine aI 13 ?_;go_wp2_with fail;refine(uf 5 (by decide) Z).mono ?_;rintro e w8⟨t8,rfl,D,F⟩;have f:=af l F;go_wp2_with fail;refine aF F ?_;have o:=aa (H9 (rX.out.mono f) D (Nat.lt_of_le_of_lt (l5 (n:=1) (by decide)) (by decide)));rw[decide_eq_true rfl] at o;refine aI 14 ?_;go_wp2_with fail;refine o.out.mono ?_;rintro e w9⟨rfl,K⟩;have u:=af f K;go_wp2_with fail;refine aF K ?_;refine ay [15,16] 0 ?_
 iterate 2 (refine aA rfl ?_;go_big_quiet_step (rfl))
 refine az ?_;refine aJ [] ?_;refine tail_nil ?_;go_wp2;go_ret;exact⟨rfl,af B u⟩
def PS {w:World} {v:Value} (l:List Nat) (h:bG w v (ints l)) (C:l.length<1000000) (s:∀c∈l,c<2147483648) :
 Calls prog 10 #[v] w λe w'=>∃r,e=.returned r/\w'.ownsRow w.heap.size aN 1 r l.length (aM l)/\Below w.heap.size w w':=by
 obtain⟨n,g⟩:=ae l.length;obtain⟨a,cap,rfl,_,q⟩:=bG.nO h g;have x:=aa q;have m:=aa g;have E:=aa s;rw[<-g] at C;clear q h g s;go_enter func10,ntmps10;go_wp2_with fail;go_loopw [3,5,8] (λG _ o wr=>∃j:Nat,j<=n/\o=.int .i64 j/\wr.ownsRow w.heap.size aN 1 G j (aM (l.take j))/\Below w.heap.size w wr) (λ_ _ o _=>n-(intOf o).toNat)
 case atStart=>exact⟨0,Nat.zero_le _,rfl,World.ownsRow_nil _ _ _ _,Below.refl _ _⟩
 case round=>
  obtain⟨j,K,rfl,i,f⟩:=hrel;by_cases y:j<n
  ·have F:=eG (show j<n by omega);have d:j<l.length:=by have:=m.out;omega
   obtain⟨b,off,rfl,_,t⟩:=x.out j d;have t:=aB f t;have:=E.out _ (List.getElem_mem d);have D:=aa (show aM (l.take (j+1))=aM (l.take j)++[.int .i32 (l[j]:Nat)] by rw[List.take_succ_eq_append_getElem d];unfold aM;rw[List.map_append];rfl);generalize l[j]=c at *;have:IntKind.i32.wrap (c:Int)=c:=by rw[IntKind.wrap_i32];omega
   have z:=aa i;have B:=f.size;clear i
   go_wp2_with (
    refine f_ rfl _ _ 35 rfl w.heap.size aN _ 4 bW u3 j _ rfl z.out (.int .i32 (c:Nat)) rfl rfl (by omega) (by unfold maxLen;omega) wr (Below.refl _ _) B ?_;intro A I p u _ _;have k:=aa (show I.ownsRow w.heap.size aN 1 A (j+1) (aM (l.take (j+1))) from by rw[D.out];exact p)
    clear p)
   go_roundw
   case rel=>exact⟨j+1,by omega,by simp,k.out,f.trans u⟩
   case measure=>simp[intOf];omega
  have F:=gI (show n<=j by omega);obtain rfl:j=n:=by omega
  rw[List.take_of_length_le (by have:=m.out;omega)] at i;go_wp2;go_ret;exact⟨_,rfl,by rw[<-m.out];exact i,f⟩
end Go.Proofs.YtmnimbnojdndmaaGreatDoor
namespace Go.Proofs.YtmnimbnojdndmaaGreatDoor
open Go.RowKit Go.Cd
structure gX where
 code:Int
 cls:Int
 map:List Int
def MH (w:World) (v:Value) (T:List gX):Prop:=
 ∃a cap,v=.slice a T.length cap/\T.length<=cap/\∀i (c:i<T.length),∃b off m,a=some ⟨b,off,none⟩/\b<w.heap.size/\
  w.cell? ⟨b,off+i*3,none⟩=some (.int .i64 T[i].code)/\w.cell? ⟨b,off+i*3+1,none⟩=some (.int .i64 T[i].cls)/\w.cell? ⟨b,off+i*3+2,none⟩=some m/\bG w m (bO T[i].map)
def MH.mono {w w':World} {v:Value} {T:List gX} (h:MH w v T) (c:Below w.heap.size w w'):MH w' v T:=by
 obtain⟨a,cap,k,o,h⟩:=h;refine⟨a,cap,k,o,λi f=>?_⟩;obtain⟨b,off,m,j,d,n,e,g,l⟩:=h i f;exact⟨b,off,m,j,Nat.lt_of_lt_of_le d c.size,aB c n,aB c e,aB c g,l.mono c⟩
def PT (w:World) (v:Value) (T:List gX) (X:List Int):Prop:=∃r x,v=.agg #[r,x]/\MH w r T/\bG w x (bO X)
def PT.mono {w w':World} {v:Value} {T:List gX} {X:List Int} (h:PT w v T X) (a:Below w.heap.size w w'):PT w' v T X:=by
 obtain⟨r,x,b,c,d⟩:=h;exact⟨r,x,b,c.mono a,d.mono a⟩
def bG.MI {w:World} {v:Value} {l:List Int} {n:Nat} (h:bG w v (bO l)) (j:n=l.length):∃a cap,v=.slice a n cap/\n<=cap/\
 ∀i (e:i<l.length),∃b off,a=some ⟨b,off,none⟩/\b<w.heap.size/\w.cell? ⟨b,off+i,none⟩=some (.int .i64 l[i]):=by
 subst j;obtain⟨a,cap,rfl,m,k⟩:=Go.Cd.bG.out h;have c:(bO l).length=l.length:=fq _;refine⟨a,cap,by rw[c],by omega,λi e=>?_⟩;obtain⟨b,off,g,d,f⟩:=k i (by omega);exact⟨b,off,g,d,by rw[f];simp[bO]⟩
abbrev eY:TypeId:=78
def qb:mV Tryz.prog 22 eY (.agg #[.int .i64 0,.int .i64 0,.slice none 0 0]) 3 40:=⟨rfl,Tryz.underlying22,info_parts (by kernel_rfl)⟩
def mh (p:gX×Value):List Value:=[.int .i64 p.1.code,.int .i64 p.1.cls,p.2]
def fG (p:aG×Value):List Value:=[.int .i64 p.1.code,.int .i64 p.1.cls,p.2]
structure mK (B:Nat) (w:World) (r:Value) (L:List (gX×Value)):Prop where
 rows:w.ownsRow B eY 3 r L.length (L.flatMap mh)
 maps:∀p∈L,w.ownsRow B bB 1 p.2 p.1.map.length (bO p.1.map)
 apart:L.Pairwise λp q=>za p.2 q.2
 nQ:∀p∈L,za r p.2
 four:∀p∈L,p.1.map.length<=4
def mK.nil (B:Nat) (w:World):mK B w (.slice none 0 0) []:=⟨World.ownsRow_nil _ _ _ _,by simp,by simp,by simp,by simp⟩
def mK.kept {B:Nat} {w w':World} {r:Value} {L:List (gX×Value)} {row:Option Nat} (h:mK B w r L) (d:w.grownBy w' row) (j:∀k,row=some k->k<B):mK B w' r L:=by
 have H:∀{e:TypeId} {a:Nat} {v:Value} {n:Nat} {b:List Value},w.ownsRow B e a v n b->w'.ownsRow B e a v n b:=by
  intro e a v n b c;refine c.kept d ?_;cases g:v.ownBlock with
  | none=>exact .inl rfl
  | some k=>exact .inr λf=>by have:=(c.lt k g).1;have:=j k f.symm;omega
 exact⟨H h.rows,λp i=>H (h.maps p i),h.apart,h.nQ,h.four⟩
def mK.ext {B:Nat} {w w':World} {r:Value} {L:List (gX×Value)} (h:mK B w r L) (a:Below w.heap.size w w'):mK B w' r L:=
 ⟨aH h.rows a,λp b=>aH (h.maps p b) a,h.apart,h.nQ,h.four⟩
def mK.push {B:Nat} {w w':World} {r d m:Value} {L:List (gX×Value)} {p:gX} (h:mK B w r L) (j:w.ownsRow B bB 1 m p.map.length (bO p.map)) (n:p.map.length<=4)
 (b:∀q∈L,za q.2 m) (c:za r m) (l:w'.ownsRow B eY 3 d (L.length+1) (L.flatMap mh++mh (p,m))) (i:w.grownBy w' r.ownBlock) (g:kK w r d):mK B w' d (L++[(p,m)]):=by
 refine⟨by simpa using l,?_,?_,?_,?_⟩
 ·intro q a;rcases List.mem_append.1 a with a|a
  ·exact(h.nQ q a).symm.stays (h.maps q a) i
  rw[List.mem_singleton.1 a];exact c.symm.stays j i
 ·rw[List.pairwise_append];refine⟨h.apart,by simp,λq a o f=>?_⟩;rw[List.mem_singleton.1 f];exact b q a
 ·intro q a;rcases List.mem_append.1 a with a|a
  ·exact((h.nQ q a).symm.push (λk e=>((h.maps q a).lt k e).2) g).symm
  rw[List.mem_singleton.1 a];exact(c.symm.push (λk e=>(j.lt k e).2) g).symm
 intro q a;rcases List.mem_append.1 a with a|a
 ·exact h.four q a
 rw[List.mem_singleton.1 a];exact n
def nH {w:World} {B b n c s m:Nat} {e d:TypeId} {u v:Value} {l g:List Value} {w':World} (j:w.ownsRow B e s u n l) (f:w'.ownsRow b d m v c g) (h:w.heap.size<=b):za u v:=by
 intro k i a;have:=(j.lt k i).2;have:=(f.lt k a).1;omega
end Go.Proofs.YtmnimbnojdndmaaGreatDoor
namespace Go.Proofs.YtmnimbnojdndmaaGreatDoor
open Go.RowKit Go.Cd _root_.Go.Proofs.Tryz
def mK.past {B:Nat} {w4 w w':World} {r:Value} {L:List (gX×Value)} {row:Option Nat} (d:mK B w4 r L) (h:mK B w r L) (g:w.grownBy w' row) (l:∀k,row=some k->w4.heap.size<=k):mK B w' r L:=by
 have H:∀{e:TypeId} {a:Nat} {v:Value} {n:Nat} {b:List Value},w4.ownsRow B e a v n b->w.ownsRow B e a v n b->w'.ownsRow B e a v n b:=by
  intro e a v n b c m;refine m.kept g ?_;cases j:v.ownBlock with
  | none=>exact .inl rfl
  | some k=>exact .inr λi=>by have:=(c.lt k j).2;have:=l k i.symm;omega
 exact⟨H d.rows h.rows,λp f=>H (d.maps p f) (h.maps p f),h.apart,h.nQ,h.four⟩
abbrev jd:TypeId:=25
def adR {w:World} {v:Value} {T:List gX} {X:List Int} (h:PT w v T X) :
 Calls prog 119 #[v] w λe w'=>∃r x L Y,e=.returned (.agg #[r,x])/\mK w.heap.size w' r L/\w'.ownsRow w.heap.size bB 1 x Y.length (ints Y)/\(∀p∈L,za x p.2)/\L.length<=20/\Y.length<=30/\(∀y∈Y,aP y)/\Below w.heap.size w w':=by
 obtain⟨r,x,rfl,⟨a,cap,rfl,_,hx⟩,h2⟩:=h;obtain⟨nx,au⟩:∃n,n=X.length:=⟨_,rfl⟩;obtain⟨ax,cx,rfl,_,hy⟩:=bG.MI h2 au;obtain⟨n,hn⟩:=ae T.length;rw[<-hn];have HX:=aa hx;have HY:=aa hy;have HN:=aa hn;have aE:=aa au;obtain⟨W1,ai⟩:=ae (w.alloc (.cells #[.slice a n cap,.slice ax nx cx] jd));obtain⟨W2,ad⟩:=ae (W1.alloc (.cells #[.slice none 0 0,.slice none 0 0] jd));obtain⟨W0,hW⟩:=ae (W2.alloc (.cells #[.slice none 0 0,.slice none 0 0] jd));have e1:W1.heap.size=w.heap.size+1:=by rw[ai];simp
 have e2:W2.heap.size=w.heap.size+2:=by rw[ad];simp[e1]
 have e3:W0.heap.size=w.heap.size+3:=by rw[hW];simp[e2]
 have b1:=aO ai;have b2:=aO ad;have b3:=aO hW;have i1:Is W0 w.heap.size #[.slice a n cap,.slice ax nx cx] jd:=by
  have:Is W1 w.heap.size #[.slice a n cap,.slice ax nx cx] jd:=by rw[ai];exact Is.new _ _ _
  exact(this.mono b2).mono b3
 have i2:Is W0 (w.heap.size+1) #[.slice none 0 0,.slice none 0 0] jd:=by
  have:Is W2 (w.heap.size+1) #[.slice none 0 0,.slice none 0 0] jd:=by rw[ad];exact Is.new' _ _ _ _ e1.symm
  exact this.mono b3
 have i3:Is W0 (w.heap.size+2) #[.slice none 0 0,.slice none 0 0] jd:=by rw[hW];exact Is.new' _ _ _ _ e2.symm
 have b0:=af (af b1 b2) b3;rw[ad,ai] at hW;clear hx hy hn au h2 b1 b2 b3 e1 e2 ai ad;go_enter func119,ntmps119;go_wp2_with fail;rw[<-hW];clear hW;go_loopw [4] (λiv wr=>∃(j:Nat) (L:List (gX×Value)) (rv:Value),j<=20/\iv=.int .i64 j/\L.length<=j/\mK (w.heap.size+3) wr rv L/\Is wr w.heap.size #[.slice a n cap,.slice ax nx cx] jd/\Is wr (w.heap.size+1) #[.slice none 0 0,.slice none 0 0] jd/\Is wr (w.heap.size+2) #[rv,.slice none 0 0] jd/\w.heap.size+3<=wr.heap.size/\Below w.heap.size w wr) (λiv _=>20-(intOf iv).toNat)
 case atStart=>exact⟨0,[],_,by decide,rfl,by decide,mK.nil _ _,i1,i2,i3,by omega,b0⟩
 case round=>
  clear i1 i2 i3 e3 b0;obtain⟨j,L,rv,hj,rfl,Qr,hF,S,c,E,a8,z⟩:=hrel;have d0:=S.at 0 rfl;have d1:=S.at 1 rfl;by_cases a9:j<n
  ·by_cases a3:j<20
   ·have aR:j<T.length:=by have:=HN.out;omega
    have zj:decide ((j:Int)<20)=true:=by simp;omega
    obtain⟨b,off,m,rfl,a7,c0,c1,c2,hm⟩:=HX.out j aR;have c0:=aB z c0;have c1:=aB z c1;have c2:=aB z c2;have hm:=hm.mono z;generalize T[j]=q at *;obtain⟨nm,aq⟩:=ae q.map.length;obtain⟨am,cm,rfl,_,aD⟩:=bG.MI hm aq;have Uc:=aa aD;have sN:=aa aq;have D:=aa hF;have a4:=HY;clear hm aD aq hF;have g0:=Gr.cell (ag wr) d0;have g1:=Gr.cell (ag wr) c0;have g2:=Gr.cell (ag wr) c1;go_wp2_with fail;refine aC #[true,true,true,true,true,true,true,true,true,true,true,true,true,true,true,true,false] 16 1 mixed ?_;refine ay [0,1,2,3,4,5,6,7,8,9,10,11,12,13,14] 1 ?_;refine bC ?_
    iterate 15 (refine aZ rfl ?_)
    refine bD ?_
    iterate 15 (go_big_quiet_step (rfl))
    refine az ?_;refine aI 15 ?_;go_wp2_with fail;refine aF (ah _) ?_;refine aJ [16] ?_;refine tail_cons rfl ?_;go_wp2_with fail;refine tail_nil ?_;generalize wrap64 (wrap32 q.code)=C at *;obtain⟨wo,ku⟩:∃w',w'=wr:=⟨_,rfl⟩;subst ku;obtain⟨w5,vJ⟩:=ae ((wo.alloc (.cells #[.int .i64 C,.int .i64 q.cls,.slice none 0 0] eY)).drew);have jP:Below wo.heap.size wo w5:=by rw[vJ];exact af (ah _) (ag _)
    have r5:Is w5 wo.heap.size #[.int .i64 C,.int .i64 q.cls,.slice none 0 0] eY:=by rw[vJ];exact(Is.new _ _ _).mono (ag _)
    go_wp2_with fail;rw[<-vJ];clear vJ g0 g1 g2 c0 c1;go_loopw [6] (λkv F=>∃(k:Nat) (M:List Int) (mv:Value),k<=4/\kv=.int .i64 k/\M.length<=k/\F.ownsRow wo.heap.size bB 1 mv M.length (bO M)/\Is F wo.heap.size #[.int .i64 C,.int .i64 q.cls,mv] eY/\Below wo.heap.size wo F) (λkv _=>4-(intOf kv).toNat)
    case atStart=>exact⟨0,[],_,by decide,rfl,by decide,World.ownsRow_nil _ _ _ _,r5,jP⟩
    case round=>
     clear r5 jP;obtain⟨k,M,mv,t,rfl,a5,hM,r2,J⟩:=hrel;have c2:=aB J c2;have e0:=aB J d0;by_cases a2:k<nm
     ·by_cases a6:k<4
      ·have zk:decide ((k:Int)<4)=true:=by simp;omega
       have aL:k<q.map.length:=by have:=sN.out;omega
       obtain⟨bm,fm,rfl,_,hz⟩:=Uc.out k aL;have hz:=aB J hz;generalize q.map[k]=y at *;have g0:=Gr.cell (ag wr) e0;have g1:=Gr.cell (ag wr) c2;have g2:=Gr.cell (ag wr) hz;have g3:=r2.gd 2 rfl;have aV:=aa (aH hM (ag wr));have aS:=aa (af J (ag wr));have R2:=aa (r2.mono (ag wr));obtain⟨av,cv,rfl,_,_⟩:=ak hM;go_wp2_with fail;refine aC #[true,true,true,true,true,true,true,true,true,true,true,true,true,true,false,false,false] 14 3 mixed ?_;refine ay [0,1,2,3,4,5,6,7,8,9,10,11,12] 1 ?_;refine bC ?_
       iterate 13 (refine aZ rfl ?_)
       refine bD ?_
       iterate 13 (go_big_quiet_step (rfl))
       refine az ?_;refine aI 13 ?_;go_wp2_with fail;refine aF (ah _) ?_;refine aJ [14,15,16] ?_;refine tail_cons rfl ?_;refine f_ (W:=wr.drew) rfl _ _ 23 rfl wo.heap.size bB _ 8 jN (.slice av M.length cv) M.length (bO M) rfl aV.out _ rfl rfl (by omega) (by unfold maxLen;omega) wo aS.out (Nat.le_refl _) ?_;intro N P O l ap H;have V:=((R2.out.mono (ah _)).grown H (Is.other (R2.out.mono (ah _)) ap (by decide)));obtain⟨a1,Ao,rfl,_,_⟩:=ak O;have c3:=V.at 2 rfl;have f3:=V.frozen 2;refine tail_cons rfl ?_;go_wp2_with fail;refine tail_nil ?_;go_wp2;go_roundw
       case rel=>exact⟨k+1,M++[wrap64 (wrap32 y)],_,by omega,rfl,by simp;omega,by
        have:=bn O (Is.other V O (by decide)) 2 (.slice a1 (M.length+1) Ao)
        simpa [bO] using this,V.set 2 _,aj l (Nat.le_refl _)⟩
       case measure=>simp[intOf];omega
      have zk:decide ((k:Int)<4)=false:=by simp;omega
      have o3:=E.mono J;have Zv:=o3.at 0 rfl;have aM:=o3.frozen 0;have aN:=r2.at 0 rfl;have aX:=r2.at 1 rfl;have aG:=r2.at 2 rfl;have G:=D.out.ext J;obtain⟨g,f,rfl,_,_⟩:=ak G.rows;obtain⟨Z,ab,rfl,_,_⟩:=ak hM
      have HP:=aa (λ(P:World) (N:Value) (ho:P.ownsRow (w.heap.size+3) eY 3 N (L.length+1) (L.flatMap mh++mh (⟨C,q.cls,M⟩,.slice Z M.length ab))) (hg:wr.grownBy P (Value.slice g L.length f).ownBlock) (hN:kK wr (.slice g L.length f) N)=>
       mK.push (p:=⟨C,q.cls,M⟩) G (aT hM (by omega)) (by show M.length<=4;omega) (λp I=>nH (D.out.maps p I) hM (Nat.le_refl _)) (nH D.out.rows hM (Nat.le_refl _)) ho hg hN)
      have HR:=aa G.rows;have aw:=Qr;clear G Uc sN;go_wp2_with (at_builtin;go_loud (refine qf (W:=wr) rfl _ _ 22 rfl (w.heap.size+3) eY _ 3 40 qb (by decide) (by decide) (by decide) (by decide) (.slice g L.length f) L.length (L.flatMap mh) rfl HR.out _ rfl rfl (by simp[Value.oneCell']) (by omega) wr (Below.refl _ _) (by have:=J.size;omega) ?_);intro N P O l H ar;have V:=o3.low l (by omega);have aY:=V.at 0 rfl;have aU:=V.frozen 0;obtain⟨a1,Ao,rfl,_,_⟩:=ak O);go_roundw
      case rel=>
       have Vj:Below w.heap.size w P:=(z.trans (J.mono z.size)).trans (l.mono (by omega))
       exact⟨j+1,L++[(⟨C,q.cls,M⟩,.slice Z M.length ab)],_,by omega,rfl,by simp;omega,(HP.out P _ O H ar).kept (bX _ (w.heap.size+2) 0 _) (λk t=>by cases t;omega),
        ((S.mono J).low l (by omega)).put (by omega) _,((c.mono J).low l (by omega)).put (by omega) _,V.set 0 _,by have:=J.size;have:=l.size;simp;omega,aj Vj (by omega)⟩
      case measure=>simp[intOf];omega
     have o3:=E.mono J;have Zv:=o3.at 0 rfl;have aM:=o3.frozen 0;have aN:=r2.at 0 rfl;have aX:=r2.at 1 rfl;have aG:=r2.at 2 rfl;have G:=D.out.ext J;obtain⟨g,f,rfl,_,_⟩:=ak G.rows;obtain⟨Z,ab,rfl,_,_⟩:=ak hM
     have HP:=aa (λ(P:World) (N:Value) (ho:P.ownsRow (w.heap.size+3) eY 3 N (L.length+1) (L.flatMap mh++mh (⟨C,q.cls,M⟩,.slice Z M.length ab))) (hg:wr.grownBy P (Value.slice g L.length f).ownBlock) (hN:kK wr (.slice g L.length f) N)=>
      mK.push (p:=⟨C,q.cls,M⟩) G (aT hM (by omega)) (by show M.length<=4;omega) (λp I=>nH (D.out.maps p I) hM (Nat.le_refl _)) (nH D.out.rows hM (Nat.le_refl _)) ho hg hN)
     have HR:=aa G.rows;have aw:=Qr;clear G Uc sN;go_wp2_with (at_builtin;go_loud (refine qf (W:=wr) rfl _ _ 22 rfl (w.heap.size+3) eY _ 3 40 qb (by decide) (by decide) (by decide) (by decide) (.slice g L.length f) L.length (L.flatMap mh) rfl HR.out _ rfl rfl (by simp[Value.oneCell']) (by omega) wr (Below.refl _ _) (by have:=J.size;omega) ?_);intro N P O l H ar;have V:=o3.low l (by omega);have aY:=V.at 0 rfl;have aU:=V.frozen 0;obtain⟨a1,Ao,rfl,_,_⟩:=ak O);go_roundw
     case rel=>
      have Vj:Below w.heap.size w P:=(z.trans (J.mono z.size)).trans (l.mono (by omega))
      exact⟨j+1,L++[(⟨C,q.cls,M⟩,.slice Z M.length ab)],_,by omega,rfl,by simp;omega,(HP.out P _ O H ar).kept (bX _ (w.heap.size+2) 0 _) (λk t=>by cases t;omega),
       ((S.mono J).low l (by omega)).put (by omega) _,((c.mono J).low l (by omega)).put (by omega) _,V.set 0 _,by have:=J.size;have:=l.size;simp;omega,aj Vj (by omega)⟩
     case measure=>simp[intOf];omega
   have zj:decide ((j:Int)<20)=false:=by simp;omega
   obtain⟨w4,ku⟩:∃w',w'=wr:=⟨_,rfl⟩;subst ku;have D:=aa hF;clear hF;go_wp2_with fail;go_loopw [7] (λkv F=>∃(m:Nat) (Y:List Nat) (yv:Value),m<=30/\kv=.int .i64 m/\Y.length<=m/\(∀y∈Y,aP y)/\F.ownsRow w4.heap.size bB 1 yv Y.length (ints Y)/\mK (w.heap.size+3) F rv L/\Is F w.heap.size #[.slice a n cap,.slice ax nx cx] jd/\Is F (w.heap.size+1) #[.slice none 0 0,.slice none 0 0] jd/\Is F (w.heap.size+2) #[rv,yv] jd/\w4.heap.size<=F.heap.size/\Below w.heap.size w F) (λkv _=>30-(intOf kv).toNat)
   case atStart=>exact⟨0,[],_,by decide,rfl,by decide,by simp,World.ownsRow_nil _ _ _ _,D.out,S,c,E,Nat.le_refl _,z⟩
   case round=>
    clear S c E z d0 d1;obtain⟨m,Y,yv,hm,rfl,a0,U,d,i,S,c,E,al,z⟩:=hrel;have d1:=S.at 1 rfl;by_cases Ja:m<nx
    ·by_cases aK:m<30
     ·have zm:decide ((m:Int)<30)=true:=by simp;omega
      have kz:m<X.length:=by have:=aE.out;omega
      obtain⟨bx,fx,rfl,_,hz⟩:=HY.out m kz;have hz:=aB z hz;generalize X[m]=x at *;have CH:=aa (λW=>jL (w:=W) x);have Q:=(rT (x:=(x % 2097152).toNat));have Uq:=Q.1;have Ro:=aa Q;generalize lG (x % 2097152).toNat=ch at *;have g1:=Gr.cell (ag wr) d1;have g2:=Gr.cell (ag wr) hz;have g3:=E.gd 1 rfl;obtain⟨s,o,rfl,_,_⟩:=ak d;have ao:=aa i;have M5:=aa U;clear i U Q;go_wp2_with fail;refine aC #[true,true,true,true,true,true,true,true,true,true,false,false,false] 10 3 mixed ?_;refine ay [0,1,2,3,4,5,6] 3 ?_;refine bC ?_
      iterate 7 (refine aZ rfl ?_)
      refine bD ?_
      iterate 7 (go_big_quiet_step (rfl))
      refine az ?_;refine aI 7 ?_;go_wp2_with fail;refine(CH.out _).mono ?_;rintro e aW⟨rfl,rfl⟩;go_wp2_with fail;refine aF (Below.refl _ _) ?_;refine ay [8] 1 ?_
      iterate 1 (refine aA rfl ?_;go_big_quiet_step (rfl))
      refine az ?_;refine aI 9 ?_;go_wp2_with fail;refine aF (ah _) ?_;refine aJ [10,11,12] ?_;refine tail_cons rfl ?_;refine f_ (W:=wr.drew) rfl _ _ 23 rfl w4.heap.size bB _ 8 jN (.slice s Y.length o) Y.length (ints Y) rfl (aH d (ag wr)) _ rfl rfl (by omega) (by unfold maxLen;omega) wr.drew (Below.refl _ _) al ?_;intro N P O l ap H;have an:Below wr.heap.size wr (wr.drew.alloc (.cells #[.int .i64 (ch:Nat)] bB)):=af (ag wr) (ah _);have ac:∀k,(Value.slice s Y.length o).ownBlock=some k->w4.heap.size<=k:=λk t=>(d.lt k t).1;have A:Below w4.heap.size wr P:=((ag wr).mono al).trans l;have K1:=S.low A (by omega);have K2:=c.low A (by omega);have K3:=E.low A (by omega);obtain⟨a1,Ao,rfl,_,_⟩:=ak O;have c3:=K3.at 1 rfl;have f3:=K3.frozen 1;refine tail_cons rfl ?_;go_wp2_with fail;refine tail_nil ?_;go_wp2;go_roundw
      case rel=>
       refine⟨m+1,Y++[ch],_,by omega,rfl,by simp;omega,?_,?_,?_,K1.put (by omega) _,K2.put (by omega) _,K3.set 1 _,by have:=A.size;simp;omega,aj (z.trans (A.mono (by omega))) (by omega)⟩
       ·intro y hy;rcases List.mem_append.1 hy with h|h
        ·exact M5.out y h
        rw[List.mem_singleton.1 h];exact Ro.out
       ·have:=bn O (aQ O (k:=w.heap.size+2) (by omega)) 1 (.slice a1 (Y.length+1) Ao);simpa [ints] using this
       exact((D.out.past (ao.out.ext an) H ac).kept (bX _ (w.heap.size+2) 1 _) (λk t=>by cases t;omega))
      case measure=>simp[intOf];omega
     have zm:decide ((m:Int)<30)=false:=by simp;omega
     have e0:=E.at 0 rfl;have e1:=E.at 1 rfl;have s0:=c.at 0 rfl;have s1:=c.at 1 rfl;have t0:=c.frozen 0;have t1:=c.frozen 1;obtain⟨s,o,rfl,_,_⟩:=ak d;obtain⟨g,f,rfl,_,_⟩:=ak i.rows;have u1:=λu=>(c.set 0 u).at 1 rfl;have u2:=λu=>(c.set 0 u).frozen 1;have K:=(c.set 0 (.slice g L.length f)).set 1 (.slice s Y.length o);have v0:=K.at 0 rfl;have N:=K.at 1 rfl;have B:=aa ((i.kept (bX _ (w.heap.size+1) 0 (.slice g L.length f)) (λk t=>by cases t;omega)).kept (bX _ (w.heap.size+1) 1 (.slice s Y.length o)) (λk t=>by cases t;omega));have R:=aa (bn (bn d (aQ d (k:=w.heap.size+1) (by omega)) 0 (.slice g L.length f)) (aQ (bn d (aQ d (k:=w.heap.size+1) (by omega)) 0 (.slice g L.length f)) (k:=w.heap.size+1) (by omega)) 1 (.slice s Y.length o));have HA:=aa (λ(p:gX×Value) (I:p∈L)=>(nH (D.out.maps p I) d (Nat.le_refl _)).symm);have M5:=aa U;have HB:=aa (aj (aj z (b:=w.heap.size+1) (off:=0) (u:=.slice g L.length f) (by omega)) (b:=w.heap.size+1) (off:=1) (u:=.slice s Y.length o) (by omega));clear d i U z D;go_wp2
     (try simp only[Exit.inBlock,Exit.then])
     refine bodyPost_ret (v:=.agg #[.slice g L.length f,.slice s Y.length o]) (by simp[results,results119,go_sem,v0,N]) rfl ?_;exact⟨_,_,L,Y,rfl,⟨aT B.out.rows (by omega),λp I=>aT (B.out.maps p I) (by omega),B.out.apart,B.out.nQ,B.out.four⟩,aT R.out (by omega),HA.out,by omega,by omega,M5.out,HB.out⟩
    have e0:=E.at 0 rfl;have e1:=E.at 1 rfl;have s0:=c.at 0 rfl;have s1:=c.at 1 rfl;have t0:=c.frozen 0;have t1:=c.frozen 1;obtain⟨s,o,rfl,_,_⟩:=ak d;obtain⟨g,f,rfl,_,_⟩:=ak i.rows;have u1:=λu=>(c.set 0 u).at 1 rfl;have u2:=λu=>(c.set 0 u).frozen 1;have K:=(c.set 0 (.slice g L.length f)).set 1 (.slice s Y.length o);have v0:=K.at 0 rfl;have N:=K.at 1 rfl;have B:=aa ((i.kept (bX _ (w.heap.size+1) 0 (.slice g L.length f)) (λk t=>by cases t;omega)).kept (bX _ (w.heap.size+1) 1 (.slice s Y.length o)) (λk t=>by cases t;omega));have R:=aa (bn (bn d (aQ d (k:=w.heap.size+1) (by omega)) 0 (.slice g L.length f)) (aQ (bn d (aQ d (k:=w.heap.size+1) (by omega)) 0 (.slice g L.length f)) (k:=w.heap.size+1) (by omega)) 1 (.slice s Y.length o));have HA:=aa (λ(p:gX×Value) (I:p∈L)=>(nH (D.out.maps p I) d (Nat.le_refl _)).symm);have M5:=aa U;have HB:=aa (aj (aj z (b:=w.heap.size+1) (off:=0) (u:=.slice g L.length f) (by omega)) (b:=w.heap.size+1) (off:=1) (u:=.slice s Y.length o) (by omega));clear d i U z D;go_wp2
    (try simp only[Exit.inBlock,Exit.then])
    refine bodyPost_ret (v:=.agg #[.slice g L.length f,.slice s Y.length o]) (by simp[results,results119,go_sem,v0,N]) rfl ?_;exact⟨_,_,L,Y,rfl,⟨aT B.out.rows (by omega),λp I=>aT (B.out.maps p I) (by omega),B.out.apart,B.out.nQ,B.out.four⟩,aT R.out (by omega),HA.out,by omega,by omega,M5.out,HB.out⟩
  obtain⟨w4,ku⟩:∃w',w'=wr:=⟨_,rfl⟩;subst ku;have D:=aa hF;clear hF;go_wp2_with fail;go_loopw [7] (λkv F=>∃(m:Nat) (Y:List Nat) (yv:Value),m<=30/\kv=.int .i64 m/\Y.length<=m/\(∀y∈Y,aP y)/\F.ownsRow w4.heap.size bB 1 yv Y.length (ints Y)/\mK (w.heap.size+3) F rv L/\Is F w.heap.size #[.slice a n cap,.slice ax nx cx] jd/\Is F (w.heap.size+1) #[.slice none 0 0,.slice none 0 0] jd/\Is F (w.heap.size+2) #[rv,yv] jd/\w4.heap.size<=F.heap.size/\Below w.heap.size w F) (λkv _=>30-(intOf kv).toNat)
  case atStart=>exact⟨0,[],_,by decide,rfl,by decide,by simp,World.ownsRow_nil _ _ _ _,D.out,S,c,E,Nat.le_refl _,z⟩
  case round=>
   clear S c E z d0 d1;obtain⟨m,Y,yv,hm,rfl,a0,U,d,i,S,c,E,al,z⟩:=hrel;have d1:=S.at 1 rfl;by_cases Ja:m<nx
   ·by_cases aK:m<30
    ·have zm:decide ((m:Int)<30)=true:=by simp;omega
     have kz:m<X.length:=by have:=aE.out;omega
     obtain⟨bx,fx,rfl,_,hz⟩:=HY.out m kz;have hz:=aB z hz;generalize X[m]=x at *;have CH:=aa (λW=>jL (w:=W) x);have Q:=(rT (x:=(x % 2097152).toNat));have Uq:=Q.1;have Ro:=aa Q;generalize lG (x % 2097152).toNat=ch at *;have g1:=Gr.cell (ag wr) d1;have g2:=Gr.cell (ag wr) hz;have g3:=E.gd 1 rfl;obtain⟨s,o,rfl,_,_⟩:=ak d;have ao:=aa i;have M5:=aa U;clear i U Q;go_wp2_with fail;refine aC #[true,true,true,true,true,true,true,true,true,true,false,false,false] 10 3 mixed ?_;refine ay [0,1,2,3,4,5,6] 3 ?_;refine bC ?_
     iterate 7 (refine aZ rfl ?_)
     refine bD ?_
     iterate 7 (go_big_quiet_step (rfl))
     refine az ?_;refine aI 7 ?_;go_wp2_with fail;refine(CH.out _).mono ?_;rintro e aW⟨rfl,rfl⟩;go_wp2_with fail;refine aF (Below.refl _ _) ?_;refine ay [8] 1 ?_
     iterate 1 (refine aA rfl ?_;go_big_quiet_step (rfl))
     refine az ?_;refine aI 9 ?_;go_wp2_with fail;refine aF (ah _) ?_;refine aJ [10,11,12] ?_;refine tail_cons rfl ?_;refine f_ (W:=wr.drew) rfl _ _ 23 rfl w4.heap.size bB _ 8 jN (.slice s Y.length o) Y.length (ints Y) rfl (aH d (ag wr)) _ rfl rfl (by omega) (by unfold maxLen;omega) wr.drew (Below.refl _ _) al ?_;intro N P O l ap H;have an:Below wr.heap.size wr (wr.drew.alloc (.cells #[.int .i64 (ch:Nat)] bB)):=af (ag wr) (ah _);have ac:∀k,(Value.slice s Y.length o).ownBlock=some k->w4.heap.size<=k:=λk t=>(d.lt k t).1;have A:Below w4.heap.size wr P:=((ag wr).mono al).trans l;have K1:=S.low A (by omega);have K2:=c.low A (by omega);have K3:=E.low A (by omega);obtain⟨a1,Ao,rfl,_,_⟩:=ak O;have c3:=K3.at 1 rfl;have f3:=K3.frozen 1;refine tail_cons rfl ?_;go_wp2_with fail;refine tail_nil ?_;go_wp2;go_roundw
     case rel=>
      refine⟨m+1,Y++[ch],_,by omega,rfl,by simp;omega,?_,?_,?_,K1.put (by omega) _,K2.put (by omega) _,K3.set 1 _,by have:=A.size;simp;omega,aj (z.trans (A.mono (by omega))) (by omega)⟩
      ·intro y hy;rcases List.mem_append.1 hy with h|h
       ·exact M5.out y h
       rw[List.mem_singleton.1 h];exact Ro.out
      ·have:=bn O (aQ O (k:=w.heap.size+2) (by omega)) 1 (.slice a1 (Y.length+1) Ao);simpa [ints] using this
      exact((D.out.past (ao.out.ext an) H ac).kept (bX _ (w.heap.size+2) 1 _) (λk t=>by cases t;omega))
     case measure=>simp[intOf];omega
    have zm:decide ((m:Int)<30)=false:=by simp;omega
    have e0:=E.at 0 rfl;have e1:=E.at 1 rfl;have s0:=c.at 0 rfl;have s1:=c.at 1 rfl;have t0:=c.frozen 0;have t1:=c.frozen 1;obtain⟨s,o,rfl,_,_⟩:=ak d;obtain⟨g,f,rfl,_,_⟩:=ak i.rows;have u1:=λu=>(c.set 0 u).at 1 rfl;have u2:=λu=>(c.set 0 u).frozen 1;have K:=(c.set 0 (.slice g L.length f)).set 1 (.slice s Y.length o);have v0:=K.at 0 rfl;have N:=K.at 1 rfl;have B:=aa ((i.kept (bX _ (w.heap.size+1) 0 (.slice g L.length f)) (λk t=>by cases t;omega)).kept (bX _ (w.heap.size+1) 1 (.slice s Y.length o)) (λk t=>by cases t;omega));have R:=aa (bn (bn d (aQ d (k:=w.heap.size+1) (by omega)) 0 (.slice g L.length f)) (aQ (bn d (aQ d (k:=w.heap.size+1) (by omega)) 0 (.slice g L.length f)) (k:=w.heap.size+1) (by omega)) 1 (.slice s Y.length o));have HA:=aa (λ(p:gX×Value) (I:p∈L)=>(nH (D.out.maps p I) d (Nat.le_refl _)).symm);have M5:=aa U;have HB:=aa (aj (aj z (b:=w.heap.size+1) (off:=0) (u:=.slice g L.length f) (by omega)) (b:=w.heap.size+1) (off:=1) (u:=.slice s Y.length o) (by omega));clear d i U z D;go_wp2
    (try simp only[Exit.inBlock,Exit.then])
    refine bodyPost_ret (v:=.agg #[.slice g L.length f,.slice s Y.length o]) (by simp[results,results119,go_sem,v0,N]) rfl ?_;exact⟨_,_,L,Y,rfl,⟨aT B.out.rows (by omega),λp I=>aT (B.out.maps p I) (by omega),B.out.apart,B.out.nQ,B.out.four⟩,aT R.out (by omega),HA.out,by omega,by omega,M5.out,HB.out⟩
   have e0:=E.at 0 rfl;have e1:=E.at 1 rfl;have s0:=c.at 0 rfl;have s1:=c.at 1 rfl;have t0:=c.frozen 0;have t1:=c.frozen 1;obtain⟨s,o,rfl,_,_⟩:=ak d;obtain⟨g,f,rfl,_,_⟩:=ak i.rows;have u1:=λu=>(c.set 0 u).at 1 rfl;have u2:=λu=>(c.set 0 u).frozen 1;have K:=(c.set 0 (.slice g L.length f)).set 1 (.slice s Y.length o);have v0:=K.at 0 rfl;have N:=K.at 1 rfl;have B:=aa ((i.kept (bX _ (w.heap.size+1) 0 (.slice g L.length f)) (λk t=>by cases t;omega)).kept (bX _ (w.heap.size+1) 1 (.slice s Y.length o)) (λk t=>by cases t;omega));have R:=aa (bn (bn d (aQ d (k:=w.heap.size+1) (by omega)) 0 (.slice g L.length f)) (aQ (bn d (aQ d (k:=w.heap.size+1) (by omega)) 0 (.slice g L.length f)) (k:=w.heap.size+1) (by omega)) 1 (.slice s Y.length o));have HA:=aa (λ(p:gX×Value) (I:p∈L)=>(nH (D.out.maps p I) d (Nat.le_refl _)).symm);have M5:=aa U;have HB:=aa (aj (aj z (b:=w.heap.size+1) (off:=0) (u:=.slice g L.length f) (by omega)) (b:=w.heap.size+1) (off:=1) (u:=.slice s Y.length o) (by omega));clear d i U z D;go_wp2
   (try simp only[Exit.inBlock,Exit.then])
   refine bodyPost_ret (v:=.agg #[.slice g L.length f,.slice s Y.length o]) (by simp[results,results119,go_sem,v0,N]) rfl ?_;exact⟨_,_,L,Y,rfl,⟨aT B.out.rows (by omega),λp I=>aT (B.out.maps p I) (by omega),B.out.apart,B.out.nQ,B.out.four⟩,aT R.out (by omega),HA.out,by omega,by omega,M5.out,HB.out⟩
def IV {c:List Nat} {i:Nat} (a:i<c.length) {x:Nat}:x∈c.take (i+1)↔x∈c.take i\/x=c[i]:=by
 rw[List.take_succ_eq_append_getElem a,List.mem_append,List.mem_singleton]
def PW {w:World} {v:Value} {l:List Nat} (h:bG w v (ints l)) (q:l.length<1000000) (t:Nat) :
 Calls prog 202 #[v,.int .i64 t] w λe w'=>e=.returned (.bool (decide (t∈l)))/\Below w.heap.size w w':=by
 obtain⟨n,m⟩:=ae l.length;obtain⟨a,cap,rfl,_,o⟩:=bG.nO h m;have u:=aa o;have p:=aa m;have:n<1000000:=by omega
 clear h o m;go_enter func202,ntmps202;go_wp2_with fail;go_loopw [9] (λi wr=>∃j:Nat,j<=n/\i=.int .i64 j/\t∉l.take j/\wr=w) (λi _=>n-(intOf i).toNat)
 case atStart=>exact⟨0,Nat.zero_le _,rfl,by simp,rfl⟩
 case round=>
  obtain⟨j,D,rfl,k,rfl⟩:=hrel;by_cases A:j<n
  ·have d:j<l.length:=by have:=p.out;omega
   obtain⟨b,off,rfl,_,E⟩:=u.out j d;have r:=aa k;have y:=aa (IV (c:=l) d (x:=t));have B:=aa (List.getElem_mem d);generalize l[j]=s at *;clear k;by_cases f:s=t
   ·subst f;have g:=aa (decide_eq_true B.out);have z:((s:Int)==s)=true:=by simp
    go_wp2;go_ret;exact⟨dV g.out.symm,Below.refl _ _⟩
   have z:((s:Int)==t)=false:=by simp;omega
   go_wp2;go_roundw
   case rel=>exact⟨j+1,by omega,rfl,λh=>(y.out.1 h).elim r.out (λe=>f e.symm),trivial⟩
   case measure=>simp[intOf];omega
  obtain rfl:j=n:=by omega
  have g:=aa (decide_eq_false (λh=>k (by rw[p.out,List.take_length];exact h)):decide (t∈l)=false);go_wp2;go_ret;exact⟨dV g.out.symm,Below.refl _ _⟩
end Go.Proofs.YtmnimbnojdndmaaGreatDoor
