/- State by state it is added up what is possible; no condition. -/
import Derived.Test.YtmnimbnojdndmaaGreatDoorS19
set_option maxRecDepth 100000
set_option maxHeartbeats 6400000
set_option linter.all false
namespace Go.Proofs.YtmnimbnojdndmaaGreatDoor
open Go.RowKit Go.Cd _root_.Go.Proofs.Tryz
def Lp {w:World} {B n g d:Nat} {Rs:List cB} {r:cB} (h:w.ownsRow B eX 6 (.slice (some ⟨g,0,none⟩) n d) (Rs.length+1) ((Rs++[r]).flatMap lV)) :
 w.cell? ⟨g,Rs.length*6+1,none⟩=some r.2.1/\w.frozen? ⟨g,Rs.length*6+1,none⟩=false:=by
 obtain⟨j,c,e,_,_,_,b⟩:=dC (f:=lV) aa1 (l:=Rs++[r]) (by simp) h (i:=Rs.length) (by simp);injection e with e _ _;injection e with e;injection e with e;subst e;have a:=b 1 (by decide);refine⟨a.1.trans ?_,a.2⟩;simp[lV]
def yF {w:World} {B n g d:Nat} {q:List d_} {y:d_} (h:w.ownsRow B fu 2 (.slice (some ⟨g,0,none⟩) n d) (q.length+1) ((q++[y]).flatMap fB)) :
 w.cell? ⟨g,q.length*2+1,none⟩=some y.2.1/\w.frozen? ⟨g,q.length*2+1,none⟩=false:=by
 obtain⟨j,c,e,_,_,_,b⟩:=dC (f:=fB) jC (l:=q++[y]) (by simp) h (i:=q.length) (by simp);injection e with e _ _;injection e with e;injection e with e;subst e;have a:=b 1 (by decide);refine⟨a.1.trans ?_,a.2⟩;simp[fB]
def Lr {w:World} {dp:Nat} {T:List aG} {X:List Nat} (h:cK w dp T X) (hV:aY T X) {v:Value} (l:List Nat) (hv:bG w v (aM l)) (hc:∀c∈l,c<1114112) (aW:dJ (ai T) l) (ar:l.length<8000) :
 Calls prog 9 #[.pointer (some ⟨dp,0,none⟩),v] w λe w'=>∃p,e=.returned (.pointer (some ⟨p,0,none⟩))/\dP w' w.heap.size p dp (ai T) l/\Below w.heap.size w w':=by
 obtain⟨n,hn⟩:=ae l.length;obtain⟨a,cap,rfl,c9,hx⟩:=bG.Hl hv hn;have HX:=aa hx;have HC:=aa hc;have HN:=aa hn;have CL:=aa (λ(W:World) (E:Below w.heap.size w W) c (hc:c<1114112)=>iM (h.mono E) hV c hc);have a8:∀c,ai T c<1000000:=λc=>by
  unfold ai;cases e:rowOf T c with
  | none=>decide
  | some r=>
    have:=(hV.fine r (gy e).1).2.1;show r.cls<1000000;omega
 obtain⟨K,hK⟩:=ae (ai T);rw[<-hK] at CL a8 aW⊢;have cx:=aa a8;have cm:=aa aW;rw[<-hn] at ar;have cM:∀W,(Instr.makeSlice 82 (.int .i64 1) (.int .i64 1)).run prog W=.ok (.slice (some ⟨W.heap.size,0,none⟩) 1 1) (W.alloc (.cells #[.int .i32 0,.slice none 0 0,.slice none 0 0,.slice none 0 0,.int .i64 0,.int .i64 0] eX)):=λW=>by kernel_rfl
 obtain⟨w1,an⟩:=ae ((w.alloc (.cells #[.int .i32 0,.slice none 0 0,.slice none 0 0,.slice none 0 0,.int .i64 0,.int .i64 0] eX)).alloc (.cells #[.pointer (some ⟨dp,0,none⟩),.slice (some ⟨w.heap.size,0,none⟩) 1 1,.slice none 0 0,.bool false] 84));have b3:Below w.heap.size w w1:=by rw[an];exact dH _ _
 have cH:w1.heap.size=w.heap.size+2:=by rw[an];simp
 have bj:Jb w1 w.heap.size (w.heap.size+1) (.pointer (some ⟨dp,0,none⟩)) (.slice (some ⟨w.heap.size,0,none⟩) 1 1) [] (0,.slice none 0 0,[]) w1.heap.size w1.heap.size:=by
  have i1:Is w1 (w.heap.size+1) #[.pointer (some ⟨dp,0,none⟩),.slice (some ⟨w.heap.size,0,none⟩) 1 1,.slice none 0 0,.bool false] 84:=by rw[an];exact Is.new' _ _ _ _ (by simp)
  have i0:Is w1 w.heap.size #[.int .i32 0,.slice none 0 0,.slice none 0 0,.slice none 0 0,.int .i64 0,.int .i64 0] eX:=by rw[an];exact(Is.new _ _ _).mono (ah _)
  exact⟨i1,⟨rfl,.inr ⟨w.heap.size,1,_,rfl,d' _,i0.at_,d' _,by decide,rfl,rfl⟩⟩,by simp,⟨iS _ _ _ _,by simp,by simp,d' _,d' _⟩,pz _⟩
 obtain⟨p,hp⟩:=ae (w.heap.size+1);obtain⟨B,hB⟩:=ae w.heap.size;rw[<-hp,<-hB] at bj;have ci:=aa bj;have HB:=aa hB;have a1:B<=p:=by omega
 clear h hV hv hc hx hn hK a8 aW bj;rw[<-hB] at b3 cH;clear hB;go_enter func9,ntmps9;go_wp2_with fail;rw[<-an];rw[<-hp];clear an cM hp;go_loopw [7,8,9,10,11,20] (λ_ _ _ _ _ iv wr=>∃j:Nat,j<=n/\iv=.int .i64 j/\(∃rs Rs c F G,Jb wr B p (.pointer (some ⟨dp,0,none⟩)) rs Rs c F G/\B<=F/\(Rs++[c]).map cB.sp=bq K (l.take j)/\gD K l j c/\Rs.length<=j)/\Below B w wr) (λ_ _ _ _ _ iv _=>n-(intOf iv).toNat)
 case atStart=>exact⟨0,ic _,rfl,⟨_,_,_,_,_,ci.out,by omega,rfl,gD.nil _ _ _ _ _,ic _⟩,b3⟩
 case round=>
  obtain⟨j,hj,rfl,⟨rs,Rs,⟨hd,lv,Ls⟩,F,G,hT,bI,M,hL,b4⟩,hE⟩:=hrel;by_cases dk:j<n
  ·have zj:=eG (show j<n by omega);have ad:j<l.length:=by have:=HN.out;omega
   obtain⟨b,off,rfl,dd,ch⟩:=HX.out j ad;have fT:Below w.heap.size w wr:=by rw[<-HB.out];exact hE
   have c0:=aB fT ch;clear ch;have a6:=HC.out _ (gw ad);have bb:=VA (K:=K) ad;obtain⟨x,Aq⟩:=ae (l[j]);have ZT:=aa Aq;rw[<-Aq] at c0 a6 bb;have CK:=aa (CL.out wr fT x a6);obtain⟨t,aE⟩:=ae (K x);have b9:t<1000000:=by rw[aE];exact cx.out x
   rw[<-aE] at CK;have KP:=aa aE;have b_:=aa bb;have aK:=aa M;have HL:=aa hL;have SS:=aa hT;have aD:=fT.size;obtain⟨m,hm⟩:=ae Rs.length;have rC:=hT.runs;rw[<-hm] at rC;obtain⟨g,rc,A,aT,_,bo,_⟩:=dC (f:=lV) aa1 (l:=Rs++[(hd,lv,Ls)]) (by rw[gn,hm];rfl) rC (i:=0) (by simp);subst A;have HM:=aa hm;rw[<-hm] at b4;have bk:B<=wr.heap.size:=by have:=HB.out;omega
   clear Aq a6 bb aE M hL hT rC hm fT aD;go_wp2_with fail;refine CK.out.mono ?_;rintro e w6⟨rfl,aV⟩;have ZU:=SS.out.ext aV;have ji:=hE.trans (aV.mono bk);have mF:B<=w6.heap.size:=ia bk aV.size;have i6:=ZU.is;have e1:=i6.at 1 rfl;clear c0 CK aV SS hE bk;by_cases bl:t=0
   ·subst bl;have z0:((0:Nat):Int)=0:=rfl;have cU:=aa ZU;have aQ:=ZU.runs;rw[<-HM.out] at aQ;clear ZU
    go_wp2_with (
     refine qf (W:=w6) rfl _ _ 82 rfl B eX _ 6 96 Zl (by decide) (by decide) (by decide) (by decide) (.slice (some ⟨g,0,none⟩) (m+1) rc) (m+1) _ rfl aQ #[.int .i32 (x:Nat),.slice none 0 0,.slice none 0 0,.slice none 0 0,.int .i64 0,.int .i64 0] rfl rfl (by simp[Value.oneCell']) (by omega) w6 (gS _ _) mF ?_;intro c_ w7 o7 b7 g7 _;obtain⟨dh,bC,rfl,_,_⟩:=ak o7;have b8:=cU.out.Zm (hd:=x) (by rw[<-HM.out];exact o7) g7;have i7:=(bJ.bQ aQ g7).is i6 (by decide);have e7:=i7.at 1 rfl;have q7:=i7.frozen 1;have cL:=aa b8
     clear b8 o7 g7 i7 aQ e1 i6)
    go_wp2_with fail;go_roundw
    case rel=>
     refine⟨j+1,by omega,by simp,⟨_,Rs++[(hd,lv,Ls)],(x,.slice none 0 0,[]),_,_,by have:=cL.out;rw[<-HM.out] at *;exact this,by have:=b7.size;omega,?_,gD.nil _ _ _ _ _,by rw[gn,<-HM.out];simp;omega⟩,aj (ji.trans b7) a1⟩;rw[b_.out,BV KP.out.symm,<-aK.out,j5];rfl
    case measure=>simp[intOf];omega
   have z0:((t:Int)==0)=false:=by simp;omega
   have e8:IntKind.i64.wrap (((m+1:Nat):Int)-1)=(m:Int):=by rw[kf _ (by omega)];omega
   go_upto_region 8 with fail;go_quiet (fail);obtain⟨wq,bm⟩:=ae (w6.drewN nq);have aP:Below w6.heap.size w6 wq:=by rw[bm];exact⟨rfl,rfl,rfl,d' _,λ_ _=>rfl⟩
   have al:=ZU.ext aP;have cb:=ji.trans (aP.mono mF);have ZV:B<=wq.heap.size:=ia mF aP.size;rw[<-bm];clear bm ZU ji mF aP i6 e1;obtain⟨la,lc,U,_,_⟩:=ak al.cur.row;simp only at U;subst U;obtain⟨nl,bh⟩:=ae Ls.length;have Yn:=aa bh;have bU:=HL.out.len;simp only at bU;have rC:=al.runs;rw[<-HM.out] at rC;obtain⟨g',bC,Ox,_,_,_,au⟩:=dC (f:=lV) aa1 (l:=Rs++[(hd,Value.slice la Ls.length lc,Ls)]) (by rw[gn,HM.out];rfl) rC (i:=m) (by rw[HM.out];simp);injection Ox with Ox _ akf;subst akf;injection Ox with Ox;injection Ox with Ox;subst Ox;have c1:wq.cell? ⟨g,m*6+1,none⟩=some (.slice la Ls.length lc):=by
    have:=(au 1 (by decide)).1;rw[this];simp[HM.out,lV]
   have ab:(Ls.map λx=>(x.1,x.2.1)).flatMap jT=Ls.flatMap fB:=by rw[sO];rfl
   have FD:=aa (Hd (w:=wq) (base:=F) (v:=.slice la Ls.length lc) (L:=Ls.map λx=>(x.1,x.2.1)) (by rw[iz,ab];exact al.cur.row) (λy P=>by
    obtain⟨z,hz,rfl⟩:=j8.1 P;exact Zk.own ((al.cur.Ae).2 z hz).1) (y4.2 HL.out.rise) (λy P=>by
    obtain⟨z,hz,rfl⟩:=j8.1 P
    exact HL.out.small z hz) (by rw[iz];omega) t b9)
   rw[<-bh] at c1 FD bU;have cg:=aa al;clear au ab rC al bh;go_wp2_with fail;refine FD.out.mono ?_;rintro e w8⟨k,fb,rfl,ao,iH⟩;have O:=cg.out.ext iH;have kL:=cb.trans (iH.mono ZV);have bu:B<=w8.heap.size:=ia ZV iH.size;have c1:=aB iH c1;have Lt:=HL.out.find cm.out ad (by rw[<-ZT.out,<-KP.out];exact bl) (by rw[<-ZT.out,<-KP.out];exact ao);rw[<-ZT.out,<-KP.out] at Lt;simp only at Lt;rw[<-Yn.out] at Lt;have bg:=aa O;clear ao iH FD cg cb ZV O;go_upto_if 61 with fail;go_cut [] from 62 to 73 (λwx=>(∃(D:Nat) (SX:Nat) (q:List d_) (va:Option Addr) (J vc:Nat) (I:List Nat) (F' G':Nat),Jb wx B p (.pointer (some ⟨dp,0,none⟩)) (.slice (some ⟨g,0,none⟩) (m+1) rc) Rs (hd,.slice (some ⟨D,0,none⟩) (k+1) SX,q++[(t,.slice va J vc,I)]) F' G'/\B<=F'/\k=q.length/\sQ t x (Ls.map d_.sp)=q.map d_.sp++[(t,I++[x])]/\(∀v',gD K l (j+1) (hd,.slice (some ⟨D,0,none⟩) (k+1) SX,q++[(t,v',I++[x])]))/\I.length<=j/\J=I.length)/\Below B w wx)
   case first=>
    rcases Lt with⟨rfl,hk,aX⟩|⟨rfl,q,y,hq,P,hk⟩
    ·have HK:=aa hk;have S_:=aa aX;clear hk aX;have kT:=ah (w:=w8) (.cells #[.int .i64 (t:Nat),.slice none 0 0] fu);have aw:=bg.out.ext kT;have yf:Below B w (w8.alloc (.cells #[.int .i64 (t:Nat),.slice none 0 0] fu)):=kL.trans (kT.mono bu);have ab:(Ls.map λx=>(x.1,x.2.1)).flatMap jT=Ls.flatMap fB:=by rw[sO];rfl
     have ax:=BQ (w:=w8.alloc (.cells #[.int .i64 (t:Nat),.slice none 0 0] fu)) (base:=F) (v:=.slice la Ls.length lc) (L:=Ls.map λx=>(x.1,x.2.1)) (by rw[iz,ab];exact aw.cur.row) (ia aw.cur.fg aw.cur.gs) (by rw[iz,<-Yn.out];omega) (t,.slice none 0 0) rfl (Is.new w8 _ fu);rw[iz,j7,ab] at ax;have Wi:=ax;rw[<-Yn.out] at Wi;have c7:=aa Wi;have aq:=aa aw;have H2:=aa (show(Value.slice la Ls.length lc).ownBlock=(Value.slice la nl lc).ownBlock from by cases la with|none=>rfl|some a=>cases a;rfl);clear ax Wi aw ab;have cI:=aa (show k=nl from HK.out);go_wp2_with fail;have c6:=cI.out;subst c6;refine c7.out.mono ?_;rintro e zL⟨Sa,rfl,bD,Wj,_⟩;have bs:zL.ownsRow F fu 2 Sa (k+1) (Ls.flatMap fB++fB (t,Value.slice none 0 0,[])):=bD;obtain⟨D,SX,bn,_,_,_,_⟩:=dC (f:=fB) jC (l:=Ls++[(t,Value.slice none 0 0,[])]) (by rw[gn,<-Yn.out]) (by rw[j7];exact bs) (i:=0) (by simp);subst bn;have ZW:(w8.alloc (.cells #[.int .i64 (t:Nat),.slice none 0 0] fu)).grownBy zL (Value.slice la Ls.length lc).ownBlock:=by rw[H2.out];exact Wj
     have bi:=aq.out.Vy (n:=t) (by rw[<-Yn.out];exact bs) ZW
     have Ko:Below B w zL:=yf.grown ZW (by have:=bu;simp;omega) (λi hi=>by
      have:=(aq.out.cur.row.lt i hi).1
      omega)
     obtain⟨r1,r2⟩:=Lp ((bJ.bQ aq.out.cur.row ZW).own aq.out.runs (by decide));rw[<-HM.out] at r1 r2 bi;simp only at r1;have cF:=aa bi;clear bD bs Wj ZW bi c1;go_wp2_with fail;go_meet;refine⟨⟨D,SX,Ls,none,0,0,[],_,_,cF.out,bI,Yn.out,abj (λy P=>?_),λv'=>?_,ic _,rfl⟩,aj Ko bo⟩
     ·have cA:y∈Ls.map d_.sp:=List.mem_of_getLast? P;obtain⟨z,hz,rfl⟩:=j8.1 cA;exact xf (S_.out z hz)
     have h9:=HL.out.new ad (by rw[<-ZT.out,<-KP.out];exact b9) (λy P=>by rw[<-ZT.out,<-KP.out];exact S_.out y P) (.slice (some ⟨D,0,none⟩) (k+1) SX) v' x;rw[<-ZT.out,<-KP.out] at h9;exact h9
    have O:=bg.out;subst hq;have s:=O.cur.last y (by simp only;rw[mx]);obtain⟨va,vc,a2,_,_⟩:=ak s;obtain⟨D,SX,bn,_,_,_,_⟩:=dC (f:=fB) jC (l:=q++[y]) rfl O.cur.row (i:=0) (by simp);injection bn with cd _ cq;have cV:nl=k+1:=by rw[Yn.out,hk];simp
    have bw:y.2.2.length<=j:=HL.out.marks y (by simp)
    have qY:=aa (show ∃(D:Nat) (SX:Nat) (q2:List d_) (va:Option Addr) (J vc:Nat) (I:List Nat) (F' G':Nat),Jb w8 B p (.pointer (some ⟨dp,0,none⟩)) (.slice (some ⟨g,0,none⟩) (m+1) rc) Rs (hd,.slice (some ⟨D,0,none⟩) (k+1) SX,q2++[(t,.slice va J vc,I)]) F' G'/\B<=F'/\k=q2.length/\sQ t x ((q++[y]).map d_.sp)=q2.map d_.sp++[(t,I++[x])]/\(∀v',gD K l (j+1) (hd,.slice (some ⟨D,0,none⟩) (k+1) SX,q2++[(t,v',I++[x])]))/\I.length<=j/\J=I.length from by
     have cp:y=(t,.slice va y.2.2.length vc,y.2.2):=by
      obtain⟨y1,y2,y3⟩:=y;simp only at P a2;rw[P,a2]
     have bx:(q++[y]).length=k+1:=by rw[hk];simp
     refine⟨D,lc,q,va,y.2.2.length,vc,y.2.2,F,G,?_,bI,hk,?_,λv'=>?_,bw,rfl⟩
     ·have h9:=O;rw[cd,bx] at h9;rw[<-cp];exact h9
     ·rw[j5];have:List.map d_.sp [y]=[(y.1,y.2.2)]:=rfl;rw[this,yh P,P]
     have h9:=(HL.out).more (v:=.slice la (q++[y]).length lc) ad (by rw[<-ZT.out,<-KP.out];exact P) v' x;rw[P] at h9
     exact⟨h9.rise,h9.small,h9.last,h9.len,h9.marks⟩)
    clear O s a2 cd cq cV bw hk P;go_wp2_with fail;go_meet;obtain⟨c8,aL,q',cG,cE,cl,co,F',G',t1,t2,t3,t4,t5,t6,t7⟩:=qY.out;exact⟨⟨c8,aL,q',cG,cE,cl,co,F',G',t1,t2,t3,t4,t5,t6,t7⟩,kL⟩
   case rest=>
    clear Lt bg c1 kL bu;obtain⟨⟨D,aL,q,va,J,vc,I,F2,G2,a9,be,bd,aZ,s,dn,bS⟩,Ql⟩:=hcut;obtain⟨FT,cn⟩:=ae wc;subst cn;have Z:=a9.ext (ag FT);have rC:=Z.runs;obtain⟨r1,_⟩:=Lp rC;rw[<-HM.out] at r1;have o:=Z.cur.row;simp only[gn,im,kp] at o;obtain⟨s1,_⟩:=yF o;rw[<-bd] at s1;have da:k<=j:=by
     have:=(s (.slice none 0 0)).len;simp at this;omega
    have bB:B<=G2:=ia be Z.cur.fg;have cj:B<=D:=ia be ((o.lt D rfl).1);have dm:=vG.keeps (S:=λi=>i=g\/i=D) r1 (.inl rfl);have dl:=vG.keeps (S:=λi=>i=g\/i=D) s1 (.inr rfl);have ct:B<=FT.heap.size:=ia bB a9.cur.gs;have bX:=Z.cur.last (t,.slice va J vc,I) (by simp only;rw[mx]);have dg:g<FT.heap.size/\D<FT.heap.size:=⟨(rC.lt g rfl).2,(o.lt D rfl).2⟩;have cQ:=aa aZ;have cC:=aa s;have bF:=aa bd;have UQ:=aa bS;have ca:=aa Z;have cJ:=aa bX;have Za:Below B w FT.drew:=Ql.drew;clear a9 Z rC o aZ s bd bS r1 s1 bX Ql;go_wp2_with fail;refine dF (KR.blocks λi=>i=g\/i=D) #[true,true,true,true,true,true,true,true,true,true,true,true,true,true,true,true,true,true,false] 18 1 mixed ?_;refine bZ [0,1,2,3,4,5,6,7,8,9,10,11,12,13] 4 ?_
    iterate 14 (refine aA rfl ?_;go_big_quiet_step (rfl))
    refine az ?_;have NP:=ah (w:=FT.drew) (.cells #[.int .i32 (x:Nat)] aN);have Ta:=ca.out.ext NP;have Ig:Below B w (FT.drew.alloc (.cells #[.int .i32 (x:Nat)] aN)):=Za.trans (NP.mono ct);refine bN 14 ?_;go_wp2_with fail;refine bK (KR.of_below NP NP.size (λi hi=>by rcases hi with rfl|rfl <;> (show _<FT.heap.size;omega))) ?_;have Oy:=aH cJ.out NP;rw[show(t,Value.slice va J vc,I).2.2.length=J from UQ.out.symm] at Oy;refine bN 15 ?_;refine ng (W:=FT.drew.alloc (.cells #[.int .i32 (x:Nat)] aN)) rfl _ _ 35 rfl G2 aN (.int .i32 0) 4 bW (by decide) (v:=.slice va J vc) rfl Oy (ia ca.out.cur.gs NP.size) [.int .i32 (x:Nat)] (by simp[Value.oneCell']) ⟨FT.drew.heap.size,0,none⟩ 1 1 rfl rfl (λi u hi=>?_) (by have:=UQ.out;omega) ?_
    ·rcases i with _|i
     ·cases hi;exact(Is.new FT.drew _ aN).at 0 rfl
     cases hi
    intro dr Ck a3 Wl ck;obtain⟨ZX,ZY,cu,_,_⟩:=ak a3;subst cu;have br:=Ta.Zn (gl:=D) (m:=x) (v':=.slice ZX (J+1) ZY) (by rw[gn,a_,<-UQ.out];exact a3) Wl;rw[<-bF.out] at br;have a5:=bJ.bQ Oy Wl;obtain⟨_,cN⟩:=yF (by have:=a5.own Ta.cur.row (by decide);simp only[gn,im,kp] at this;exact this);obtain⟨cr,_⟩:=yF (by have:=a5.own Ta.cur.row (by decide);simp only[gn,im,kp] at this;exact this);rw[<-bF.out] at cr cN;have ZZ:Below B w Ck:=Ig.grown Wl (by simp;omega) (λi hi=>ia bB (Oy.lt i hi).1);have cf:(.slice va J vc:Value).ownBlock≠some g/\(.slice va J vc:Value).ownBlock≠some D:=⟨λe=>absurd ((bV Oy e).one (bV Ta.runs (k:=g) rfl)) (by decide),λe=>absurd ((bV Oy e).one (bV Ta.cur.row (k:=D) rfl)) (by decide)⟩;have cO:=aa br;have b6:=aa cf;clear br Ta a3 ck a5 cf Oy;go_wp2_with fail;refine bK (KR.bQ (w:=FT.drew.alloc (.cells #[.int .i32 (x:Nat)] aN)) Wl Wl.size (λi hi=>?_)) ?_
    ·rcases hi with rfl|rfl
     ·exact⟨by simp;omega,b6.out.1⟩
     exact⟨by simp;omega,b6.out.2⟩
    refine bZ [16,17] 0 ?_
    iterate 2 (refine aA rfl ?_;go_big_quiet_step (rfl))
    refine az ?_;refine eU [18] ?_;refine tail_cons rfl ?_;go_wp2_with fail;refine tail_nil ?_;go_wp2_with fail;go_roundw
    case rel=>
     refine⟨j+1,by omega,by simp,⟨_,Rs,(hd,.slice (some ⟨D,0,none⟩) (k+1) aL,q++[(t,.slice ZX (J+1) ZY,I++[x])]),F2,G2,cO.out,be,?_,cC.out _,by rw[<-HM.out];omega⟩,aj ZZ cj⟩;rw[b_.out,<-aK.out];simp only[j5];have e9:List.map cB.sp [(hd,Value.slice la Ls.length lc,Ls)]=[(hd,Ls.map d_.sp)]:=rfl;rw[e9,yj (by rw[<-KP.out];exact bl),<-KP.out,cQ.out];have cR:List.map cB.sp [(hd,Value.slice (some ⟨D,0,none⟩) (k+1) aL,q++[(t,Value.slice ZX (J+1) ZY,I++[x])])]=[(hd,(q++[(t,Value.slice ZX (J+1) ZY,I++[x])]).map d_.sp)]:=rfl;rw[cR,j5];rfl
    case measure=>simp[intOf];omega
  obtain rfl:j=n:=by omega
  have zj:decide ((j:Int)<(j:Int))=false:=by simp
  have b2:l.take j=l:=iu (by rw[HN.out];exact d' _);rw[b2] at M;have H:=hT.made;have sV:Cj (Rs++[(hd,lv,Ls)]):=Cj.of (k:=l.length) (by rw[M];exact fD K l) (by rw[<-HN.out];omega);obtain⟨R,hR⟩:=ae (Rs++[(hd,lv,Ls)]);rw[<-hR] at H sV M;have aK:=aa M;obtain⟨nr,ac⟩:=ae R.length;have de:0<nr:=by rw[ac,hR];simp
  have dq:nr<10000:=by rw[ac];exact sV.1
  obtain⟨N,a4⟩:=ae wr.heap.size;rw[<-a4] at H;obtain⟨g,rc,A,aT,_,bo,-⟩:=dC (f:=lV) aa1 rfl H.runs (i:=0) (by omega);rw[<-ac] at A;subst A;have cS:(R.length:Nat)=nr:=ac.symm;have i1:=H.is;have e1:wr.cell? ⟨p,1,none⟩=some (.slice (some ⟨g,0,none⟩) nr rc):=i1.at 1 rfl;have Rt:=aa H;have HF:=aa sV;have Yq:=aa ac;have nR:=aa a4;clear H sV ac cS a4 aT hT hL M b2 hR b4 i1;go_wp2_with fail;go_loopw [13,98] (λ_ iv wq=>∃i:Nat,i<=nr/\iv=.int .i64 i/\(∃iT,D8 wq B N p (.pointer (some ⟨dp,0,none⟩)) (.slice (some ⟨g,0,none⟩) nr rc) iT false R/\bT wq (.agg #[iT]) (gF (R.take i)))/\Below B w wq) (λ_ iv _=>nr-(intOf iv).toNat)
  case atStart=>exact⟨0,ic _,rfl,⟨_,Rt.out,_,rfl,by rw[show gF (R.take 0)=0 from rfl,di];exact .nil _ _ _ _ (λ_=>rfl)⟩,hE⟩
  case round=>
   obtain⟨i,hi,rfl,⟨iT,H,hZ⟩,ba⟩:=hrel;by_cases aW:i<nr
   ·have zi:=eG (show i<nr by omega);have aR:i<R.length:=by have:=Yq.out;omega
    obtain⟨g',bC,A,_,_,_,hc⟩:=dC (f:=lV) aa1 rfl H.runs aR;injection A with A rW aT;clear rW;subst aT;injection A with A;injection A with A;subst A;have o:=H.Ae _ (gw aR);have sV:=HF.out.2 _ (gw aR);have aD:=yC aR;obtain⟨r,hr⟩:=ae (R[i]);rw[<-hr] at hc o sV aD;obtain⟨hd,lv,Ls⟩:=r;obtain⟨la,lc,U,_,_⟩:=ak o.1.1;simp only at U;obtain⟨ln,ar⟩:=ae Ls.length;rw[<-ar] at U;subst U;have c0:wr.cell? ⟨g,i*6,none⟩=some (.int .i32 hd):=(hc 0 (by decide)).1;have c1:wr.cell? ⟨g,i*6+1,none⟩=some (.slice la ln lc):=(hc 1 (by decide)).1;have c2:wr.cell? ⟨g,i*6+2,none⟩=some (.slice none 0 0):=(hc 2 (by decide)).1;have c3:wr.cell? ⟨g,i*6+3,none⟩=some (.slice none 0 0):=(hc 3 (by decide)).1;have c4:wr.cell? ⟨g,i*6+4,none⟩=some (.int .i64 0):=(hc 4 (by decide)).1;have c5:wr.cell? ⟨g,i*6+5,none⟩=some (.int .i64 0):=(hc 5 (by decide)).1;have C:=ah (w:=wr) (.cells #[.int .i32 hd,.slice la ln lc,.slice none 0 0,.slice none 0 0,.int .i64 0,.int .i64 0] eX);obtain⟨Y,aS⟩:=ae (wr.alloc (.cells #[.int .i32 hd,.slice la ln lc,.slice none 0 0,.slice none 0 0,.int .i64 0,.int .i64 0] eX));rw[<-aS] at C;have k2:=Is.nw aS;have bp:=H.ext C;have b5:=hZ.mono C;have i2:=bp.is;have g2:=i2.gd 2 rfl;have f0:=k2.gd 0 rfl;have f1:=k2.gd 1 rfl;have f2:=k2.gd 2 rfl;have f3:=k2.gd 3 rfl;have f4:=k2.gd 4 rfl;have f5:=k2.gd 5 rfl;have ZV:B<=wr.heap.size:=by have:=H.low;have:=H.hi;omega
    have lH:=ba.trans (C.mono ZV);have BS:=aa (λ(W:World) (E:Below Y.heap.size Y W)=>B_ (w:=W) (F:=N) (hd:=hd) (la:=la) (ln:=ln) (lc:=lc) (Ls:=Ls) ((o.keep (.of_below (C.mono H.hi.2) C.size) (.of_below (C.mono H.hi.2) C.size)).keep (.of_below (E.mono (ia H.hi.2 C.size)) E.size) (.of_below (E.mono (ia H.hi.2 C.size)) E.size)) sV.1 sV.2 none none 0 0 0 0 0 0);have Re:=aa aD;have D9:=aa bp;have cW:=aa b5;have bP:=aa sV;have BA:=aa ar;have b0:B<=Y.heap.size:=ia ZV C.size;clear hc o sV aD hr H hZ bp b5 ar i2 C ba ZV;go_upto_region 17 with fail;rw[<-aS];clear aS c0 c1 c2 c3 c4 c5 k2;refine aC #[true,true,true,true,true,true,true,true,true,true,true,false] 11 1 mixed ?_;refine ay [0,1,2,3,4,5] 5 ?_
    iterate 6 (refine aA rfl ?_;go_big_quiet_step (rfl))
    refine az ?_;refine aI 6 ?_;go_wp2_with fail;have cc:Below Y.heap.size Y Y.drew:=ag Y;refine(BS.out _ cc).mono ?_;rintro e w3⟨bv,rfl,ce,Q⟩;go_wp2_with fail;refine aF Q ?_;have ji:=lH.drew.trans (Q.mono b0);refine aI 7 ?_;go_wp2_with fail;have am:=uS (r:=(hd,.slice la ln lc,Ls)) bP.out.2;have bH:=BZ Ls;have df:Ls.length<10000:=bP.out.1;have ha:bG w3 bv (bO ((gT Ls).map λb:Nat=>(b:Int))):=by
     rw[<-bH,<-show(ds (gT Ls)).length=(gT Ls).length by simp[ds]] at ce;rw[Hy];exact(Sl.aU ce).any
    have cY:∀d∈(gT Ls).map λb:Nat=>(b:Int),d<9223372036854775808:=λd hd=>by
     obtain⟨b,hb,rfl⟩:=j8.1 hd;have h1:=am b hb;unfold Go.Cd.B at h1;omega
    have bz:∀k,k<=(gT Ls).length->(bY Go.Cd.B (dU ((gT Ls).take k))).length<274877906944:=λk hk=>by
     have h1:=Ci am k hk;have h2:k<=Ls.length:=by rw[<-bH];exact hk
     exact lp h1 (by omega)
    have PR:=Ou (w:=w3) (v:=bv) (l:=(gT Ls).map λb:Nat=>(b:Int)) ha (by rw[iz];omega) cY (λk hk=>by rw[Lg];rw[iz] at hk;exact bz k hk);rw[Lg] at PR;refine PR.mono ?_;rintro e w4⟨pv,rfl,cD,ap⟩;go_wp2_with fail;refine aF ap ?_;have aO:Below Y.heap.size Y w3:=af cc Q;have V:Below Y.heap.size Y w4:=af aO ap;refine aI 8 ?_;go_wp2_with fail;have a7:(bY Go.Cd.B (gF (R.take i))).length<549755813888:=by
     have:=Ib HF.out (j:=i) (by have:=Yq.out;omega);omega
    have bc:(bY Go.Cd.B (dU (gT Ls))).length<549755813888:=by
     have:=bz _ (d' _);rw[lB] at this;omega
    have AD:=Oo (cW.out.mono V) cD a7 bc;refine AD.mono ?_;rintro e w5⟨av,rfl,bt,bL⟩;go_wp2_with fail;refine aF bL ?_;have b1:Below Y.heap.size Y w5:=af V bL;refine ay [9,10] 0 ?_
    iterate 2 (refine aA rfl ?_;go_big_quiet_step (rfl))
    refine az ?_;have Yr:=D9.out.ext b1;obtain⟨sa,sn,sc,rfl,bt⟩:=bt.out;have i5:=Yr.is;have e5:=i5.at 2 rfl;have db:=i5.frozen 2;refine aJ [11] ?_;refine tail_cons rfl ?_;go_wp2_with fail;refine tail_nil ?_;go_wp2_with fail;go_roundw
    case rel=>
     refine⟨i+1,by omega,by simp,⟨_,Yr.put 2 _ rfl,?_⟩,aj (lH.trans (b1.mono b0)) a1⟩;rw[Re.out];exact bt.put i5.at_ (by decide)
    case measure=>simp[intOf];omega
   have zi:=gI (show nr<=i by omega);obtain rfl:i=nr:=by omega
   have ht:R.take i=R:=iu (by rw[Yq.out];exact d' _);rw[ht] at hZ;have i2:=H.is;have g2:=i2.gd 2 rfl;have cv:=aa H;have HZ:=aa hZ;have aq:=aa ht;have ZV:B<=wr.heap.size:=by have:=H.low;have:=H.hi;omega
   clear H hZ ht i2 e1;go_wp2_with fail;refine aC #[true,true,true,true,true,true,true,true,true,true,false] 10 1 mixed ?_;refine ay [0,1,2,3,4] 5 ?_
   iterate 5 (refine aA rfl ?_;go_big_quiet_step (rfl))
   refine az ?_;refine aI 5 ?_;go_wp2_with fail;refine(uf 16384 (by decide) wr.drew).mono ?_;rintro e w3⟨mv,rfl,cX,Q⟩;go_wp2_with fail;refine aF Q ?_;have aO:Below wr.heap.size wr w3:=(ag wr).trans (Q.mono (ag wr).size);refine aI 6 ?_;go_wp2_with fail;have a7:(bY Go.Cd.B (gF R)).length<1099511627776:=by
    have:=Ib HF.out (j:=R.length) (d' _);rw[lB] at this;omega
   have bc:(bY Go.Cd.B 16384).length<1099511627776:=by
    have:(bY Go.Cd.B 16384).length<=1:=by rw[cZ bE];unfold Go.Cd.B;decide
    omega
   have zc:decide (sK (gF R) 16384<=0)=decide (gF R<=16384):=by
    unfold sK;by_cases h1:gF R<16384
    ·rw[if_pos h1,decide_eq_true (by omega),decide_eq_true (by omega)]
    rw[if_neg h1];by_cases h2:16384<gF R
    ·rw[if_pos h2,decide_eq_false (by omega),decide_eq_false (by omega)]
    rw[if_neg h2,decide_eq_true (by omega),decide_eq_true (by omega)]
   obtain⟨sm,am⟩:=ae (decide (gF R<=16384));obtain⟨cz,a0⟩:=ae (sK (gF R) 16384);have CO:=pK (HZ.out.mono aO) cX a7 bc;rw[<-am,<-a0] at zc;rw[<-a0] at CO;have bA:=aa am;clear am a0;refine CO.mono ?_;rintro e w4⟨rfl,ap⟩;go_wp2_with fail;refine aF ap ?_;have V:Below wr.heap.size wr w4:=af aO ap;refine ay [7,8,9] 0 ?_
   iterate 3 (refine aA rfl ?_;go_big_quiet_step (rfl))
   refine az ?_;have Y9:=cv.out.ext V;have bR:=HZ.out.mono V;have i4:=Y9.is;have dj:=i4.at 3 rfl;have dc:=i4.frozen 3;have Yr:=Y9.put 3 (.bool sm) (acT:=iT) (Ov:=sm) rfl;have bM:bT (w4.setCell ⟨p,3,none⟩ (.bool sm)) (.agg #[iT]) (gF R):=bR.put i4.at_ (by decide);have jP:Below B w (w4.setCell ⟨p,3,none⟩ (.bool sm)):=aj (ba.trans (V.mono ZV)) a1;have cw:=aa (Lm Yr HF.out (λh=>by rw[bA.out] at h;exact of_decide_eq_true h) bo);have cP:=aa bM;have cy:=aa jP;clear Y9 bR i4 Yr bM jP;refine aJ [10] ?_;refine tail_cons rfl ?_;go_wp2_with fail;refine tail_nil ?_;go_wp2_with fail;refine cw.out.mono ?_;rintro e w6⟨rfl,Es,bf,cT,mF,cs⟩;go_wp2_with fail;go_ret;refine⟨p,rfl,?_,?_⟩
   ·rw[<-HB.out];exact⟨N,_,iT,Es,by rw[bf];exact aK.out,by rw[bf,<-bA.out];exact cT,by rw[bf];exact bT.iQ cP.out cs (by decide)⟩
   have:=cy.out.trans mF;rw[HB.out] at this;exact this
end Go.Proofs.YtmnimbnojdndmaaGreatDoor
namespace Go.Proofs.YtmnimbnojdndmaaGreatDoor
open Go.RowKit Go.Cd
def dP.mono {w w':World} {B p b:Nat} {K:Nat->Nat} {l:List Nat} (h:dP w B p b K l) (a:Below w.heap.size w w'):dP w' B p b K l:=by
 obtain⟨N,g,f,e,c,i,d⟩:=h;exact⟨N,g,f,e,c,i.ext a,d.mono a⟩
def kM (r:bS):List Nat:=r.2.map λx=>x.2.length+1
def xD (r:bS):Nat:=dU (kM r)
def dO (rs:List bS):Nat:=(rs.map xD).sum
def Qt (r:cB):gT r.2.2=kM (cB.sp r):=by
 unfold gT kM cB.sp;rw[m5];rfl
def Ih (Rs:List cB):gF Rs=dO (Rs.map cB.sp):=by
 unfold gF dO;rw[m5];congr 1;refine mL λr _=>?_;unfold V8;rw[Qt];rfl
structure Wm (w:World) (p dp:Nat) (rs:List bS) (g rc:Nat) (iT:Value) (small:Bool) (Es:List qx):Prop where
 sp:Es.map (λe=>cB.sp e.1)=rs
 is:Is w p #[.pointer (some ⟨dp,0,none⟩),.slice (some ⟨g,0,none⟩) rs.length rc,iT,.bool small] 84
 run:∀k (hk:k<Es.length),∀j<6,w.cell? ⟨g,k*6+j,none⟩=(nC Es[k])[j]?
 sl:∀e∈Es,∃la lc,e.1.2.1=.slice la e.1.2.2.length lc
 lane:∀e∈Es,∀k (hk:k<e.1.2.2.length),∃lg c,e.1.2.1=.slice (some ⟨lg,0,none⟩) e.1.2.2.length c/\w.cell? ⟨lg,k*2,none⟩=some (.int .i64 (e.1.2.2[k].1:Nat))/\w.cell? ⟨lg,k*2+1,none⟩=some e.1.2.2[k].2.1
 marks:∀e∈Es,∀x∈e.1.2.2,bG w x.2.1 (aM x.2.2)
 size:bT w (.agg #[iT]) (dO rs)
 le:small=decide (dO rs<=16384)
 shp:∀e∈Es,FQ e.2.1.1/\FQ e.2.1.2.1
 ZQ:small=true->∀k (hk:k<Es.length),gB w (Wh Es[k]) (kM (cB.sp Es[k].1))/\Es[k].2.2=(dO (rs.take k):Nat)
def dP.read {w:World} {B p A:Nat} {K:Nat->Nat} {l:List Nat} (h:dP w B p A K l):∃g u v b c,Wm w p A (bq K l) g u v b c:=by
 obtain⟨N,I,v,c,r,a,E⟩:=h;have d:c.map (λe=>cB.sp e.1)=bq K l:=by rw[<-r,m5];rfl
 have y:0<c.length:=by
  rw[<-iz (f:=λe=>cB.sp e.1),d];exact ke.2 (fD K l).1
 have m:gF (c.map (·.1))=dO (bq K l):=by rw[Ih,r]
 obtain⟨g,u,t,_,_,_,_⟩:=dC (f:=nC) yD rfl a.runs y;subst t;have o:c.length=(bq K l).length:=by rw[<-d,iz]
 refine⟨g,u,v,_,c,d,by rw[<-o];exact a.is,λk i j G=>(a.cells i j G).1,λe n=>?_,λe n k i=>?_,λe n x F=>?_,by rw[<-m];exact E,by rw[m],a.shp,λH k i=>?_⟩
 ·obtain⟨la,lc,z,_,_⟩:=ak (a.Ae e n).1.1;exact⟨la,lc,z⟩
 ·obtain⟨D,s,z,_,_,_,C⟩:=dC (f:=fB) jC rfl (a.Ae e n).1.1 i;refine⟨D,s,z,(C 0 (by decide)).1,(C 1 (by decide)).1⟩
 ·have q:=((a.Ae e n).2 x F).1;rw[show x.2.2.length=(aM x.2.2).length by simp[aM]] at q;exact(Sl.aU q).any
 have q:=a.ZQ k i (by rw[if_pos H];exact i);refine⟨?_,?_⟩
 ·rw[<-Qt];exact q.1.weak
 rw[q.2,Ih,List.map_take,r]
end Go.Proofs.YtmnimbnojdndmaaGreatDoor
namespace Go.Proofs.YtmnimbnojdndmaaGreatDoor
open Go.RowKit Go.Cd _root_.Go.Proofs.Tryz
def oG {w:World} {B p s:Nat} {K:Nat->Nat} {l:List Nat} (h:dP w B p s K l) :
 Calls prog 13 #[.pointer (some ⟨p,0,none⟩)] w λe w'=>∃v,e=.returned v/\bT w' v (dO (bq K l))/\Below w.heap.size w w':=by
 obtain⟨g,t,x,f,z,k⟩:=h.read;have j:=k.size;obtain⟨b,c,d,a,n⟩:=j.out;injection a with a;injection a with a;injection a with a _;subst a;have r:=ah (w:=w) (.cells #[.slice none 0 0] 44);have q:=k.is.mono r;have:=q.at 2 rfl;have m:=Is.new w #[.slice none 0 0] 44;have:=m.at 0 rfl;have:=m.frozen 0;have o:=aa (j.mono (ah (w:=w) (.cells #[.slice b c d] 44)));have i:=ah (w:=w) (.cells #[.slice b c d] 44);have s0:=(Is.new w #[.slice b c d] 44).at 0 rfl;clear h k j n q m;go_enter func13,ntmps13;go_wp2;exact bodyPost_ret (v:=.agg #[.slice b c d]) (by simp[results,results13,go_sem,s0]) rfl ⟨_,rfl,o.out,i⟩
def Qu (w:World) (v:Value) (h:Int) (ms:List Int):Prop:=∃a,v=.agg #[.int .i64 h,a]/\Sl bB w a (bO ms)
def Qu.mono {w w':World} {v:Value} {h:Int} {ms:List Int} (k:Qu w v h ms) (b:Below w.heap.size w w'):Qu w' v h ms:=by
 obtain⟨a,c,d⟩:=k;exact⟨a,c,d.mono b⟩
def Z6 {w:World} {B p R:Nat} {K:Nat->Nat} {l:List Nat} (h:dP w B p R K l) (Y:l.length<9000) {k:Nat} (x:k<(bq K l).length) :
 Calls prog 61 #[.pointer (some ⟨p,0,none⟩),.int .i64 k] w λe w'=>∃v,e=.returned v/\Qu w' v k (List.replicate (bq K l)[k].2.length 0)/\Below w.heap.size w w':=by
 obtain⟨g,N,W,s,y,c⟩:=h.read;have F:k<y.length:=by rw[<-iz (f:=λe=>cB.sp e.1),c.sp];exact x
 have d:cB.sp y[k].1=(bq K l)[k]:=by simp[<-c.sp]
 obtain⟨la,lc,D⟩:=c.sl _ (gw F);obtain⟨n,A⟩:=ae (y[k].1.2.2.length);have m:(bq K l)[k].2.length=n:=by rw[<-d,A];simp[cB.sp]
 have V:n<10000:=by
  have:=((fD K l).2.2 _ (gw x)).1;omega
 rw[<-A] at D;have G:w.cell? ⟨g,k*6+1,none⟩=some (.slice la n lc):=by rw[c.run k F 1 (by decide),<-D];rfl
 obtain⟨S,i⟩:=ae (w.alloc (.cells #[.int .i64 0,.slice none 0 0] 54));have t:=ah (w:=w) (.cells #[.int .i64 0,.slice none 0 0] 54);rw[<-i] at t;have H:=(c.is.mono t).at 1 rfl;obtain⟨T,b⟩:=ae ((bq K l).length);have U:S.cell? ⟨p,1,none⟩=some (.slice (some ⟨g,0,none⟩) T N):=by rw[b];exact H
 rw[m];rw[<-b] at x;have O:=aB t G;clear h c D A b d m H G;go_enter func61,ntmps61;subst i
 go_wp2_with (
  at_make
  refine gm _ rfl _ _ 23 rfl (w.heap.size+1) bB _ 8 jI rfl .i64 .i64 _ _ n rfl rfl (by omega) (by omega) (by omega) (by unfold maxLen;omega) (by simp) ?_;intro X E j;have a:=fO j;have q:=(Is.new w #[.int .i64 0,.slice none 0 0] 54).mono a;have I:=q.at 0 rfl;have Q:=q.frozen 0;have o:=q.set 0 (.int .i64 k);have P:=o.at 1 rfl;have M:=o.frozen 1;have C:=o.set 1 (.slice (some ⟨w.heap.size+1,0,none⟩) n n);have r:=C.at 0 rfl;have u:=C.at 1 rfl;have L:=aa E;have J:=aa a
  clear E j a q o C)
 have z:=bn (bn L.out (k:=w.heap.size) (by simp[Value.ownBlock]) 0 (.int .i64 k)) (k:=w.heap.size) (by simp[Value.ownBlock]) 1 (.slice (some ⟨w.heap.size+1,0,none⟩) n n);rw[show List.replicate n (Value.int IntKind.i64 0)=bO (List.replicate n 0) by simp[bO]] at z;rw[show n=(bO (List.replicate n 0)).length by simp[bO]] at z;refine bodyPost_ret (v:=.agg #[.int .i64 k,.slice (some ⟨w.heap.size+1,0,none⟩) n n]) (by simp[results,results61,go_sem,r,u]) rfl ⟨_,rfl,⟨_,rfl,?_⟩,aj (aj (ah (w:=w) _ |>.trans (J.out.mono (by simp))) (d' _)) (d' _)⟩;have:=Sl.aU z;simpa [bO] using this
def Oz (w:World) (lv:Value) (L:List (Nat×List Nat)):Prop:=
 ∃la lc,lv=.slice la L.length lc/\∀k (d:k<L.length),∃a c b,la=some ⟨a,0,none⟩/\w.cell? ⟨a,k*2,none⟩=some (.int .i64 (L[k].1:Nat))/\
  w.cell? ⟨a,k*2+1,none⟩=some (.slice c L[k].2.length b)/\bG w (.slice c L[k].2.length b) (aM L[k].2)
def Oz.mono {w w':World} {c:Value} {L:List (Nat×List Nat)} (h:Oz w c L) (b:Below w.heap.size w w'):Oz w' c L:=by
 obtain⟨la,lc,j,l⟩:=h;refine⟨la,lc,j,λk a=>?_⟩;obtain⟨f,e,m,d,n,g,i⟩:=l k a;exact⟨f,e,m,d,aB b n,aB b g,i.mono b⟩
def af9 (w:World) (v:Value) (S:bS):Prop:=∃a g b d c h e z f,v=.agg #[.int .i32 S.1,a,.slice g b d,.slice c h e,.int .i64 z,.int .i64 f]/\Oz w a S.2
def gV (ms:List Int) (L:List (Nat×List Nat)):Bool:=(ms.zip L).all λx=>!decide (x.1<(x.2.2.length:Nat))
def Cm {w:World} {v u:Value} {S:bS} {I:Int} {ms:List Int} (h:af9 w v S) (hs:Qu w u I ms) (y:ms.length=S.2.length) (g:S.2.length<10000) (t:∀x∈S.2,x.2.length<10000) :
 Calls prog 70 #[v,u] w λe w'=>e=.returned (.bool (gV ms S.2))/\Below w.heap.size w w':=by
 obtain⟨lv,x1,M,J,Q,W,V,z,f,rfl,la,lc,rfl,O⟩:=h;obtain⟨sv,rfl,q⟩:=hs;obtain⟨Z,sc,rfl,_,K⟩:=bG.out q.any;rw[show(bO ms).length=ms.length by simp[bO],y];obtain⟨n,G⟩:=ae S.2.length;rw[<-G] at y g⊢;obtain⟨r,c⟩:=ae ((w.alloc (.cells #[.int .i32 S.1,.slice la n lc,.slice x1 M J,.slice Q W V,.int .i64 z,.int .i64 f] eX)).alloc (.cells #[.int .i64 I,.slice Z n sc] 54));have l:Below w.heap.size w r:=by rw[c];exact dH _ _
 have N:Is r w.heap.size #[.int .i32 S.1,.slice la n lc,.slice x1 M J,.slice Q W V,.int .i64 z,.int .i64 f] eX:=by rw[c];exact(Is.new _ _ _).mono (ah _)
 have Y:Is r (w.heap.size+1) #[.int .i64 I,.slice Z n sc] 54:=by rw[c];exact Is.new' _ _ _ _ (by simp)
 have U:=N.at 1 rfl;have X:=Y.at 1 rfl;have HX:=aa K;have HK:=aa O;have R:=aa G;have P:=aa y;have HM:=aa t;have rW:n<10000:=g;clear K O G y t g q N Y;go_enter func70,ntmps70;go_wp2_with fail;rw[<-c];clear c;go_loopw [5,6,10] (λ_ _ B wr=>∃i:Nat,i<=n/\B=.int .i64 i/\(((ms.zip S.2).take i).all λx=>!decide (x.1<(x.2.2.length:Nat)))=true/\Below r.heap.size r wr) (λ_ _ B _=>n-(intOf B).toNat)
 case atStart=>exact⟨0,ic _,rfl,rfl,gS _ _⟩
 case round=>
  obtain⟨i,hi,rfl,a,d⟩:=hrel;by_cases ab:i<n
  ·have zi:=eG (show i<n by omega);have M8:i<S.2.length:=by have:=R.out;omega
   have p:i<ms.length:=by have:=P.out;omega
   obtain⟨b,off,rfl,_,A⟩:=HX.out i (by simpa [bO] using p);obtain⟨lg,va,vc,rfl,_,E,_⟩:=HK.out i M8;rw[show(bO ms)[i]'(by simpa [bO] using p)=.int .i64 ms[i] by simp[bO]] at A;obtain⟨D,C⟩:=ae (ms[i]);obtain⟨F,k⟩:=ae (S.2[i].2.length);rw[<-C] at A;rw[<-k] at E;have A:=aB d (aB l A);have E:=aB d (aB l E);have U:=aB d U;have X:=aB d X;have s:i<(ms.zip S.2).length:=by rw[List.length_zip];omega
   have o:(ms.zip S.2)[i]=(ms[i],S.2[i]):=List.getElem_zip;have m:=aa o;have H:=aa a;have L:=aa C;have VD:=aa k;clear o a C k;by_cases j:D<(F:Int)
   ·have T:decide (D<(F:Int))=true:=decide_eq_true j;go_wp2_with fail;go_ret;refine⟨?_,l.trans (d.mono l.size)⟩;have:gV ms S.2=false:=by
     unfold gV;rw[List.all_eq_false];refine⟨_,gw s,?_⟩;rw[m.out];simp only[<-L.out,<-VD.out];simp[j]
    rw[this];rfl
   have T:decide (D<(F:Int))=false:=decide_eq_false j;go_wp2_with fail;go_roundw
   case rel=>
    refine⟨i+1,by omega,by simp,?_,d⟩;rw[gR s,List.all_append,H.out,m.out];simp only[<-L.out,<-VD.out,List.all_cons,List.all_nil,T];rfl
   case measure=>simp[intOf];omega
  have zi:=gI (show n<=i by omega);obtain rfl:i=n:=by omega
  have ht:(ms.zip S.2).take i=ms.zip S.2:=iu (by rw[List.length_zip,P.out,<-R.out];omega);rw[ht] at a;have H:=aa a;clear a ht;go_wp2_with fail;go_ret;refine⟨?_,l.trans (d.mono l.size)⟩;have:gV ms S.2=true:=H.out;rw[this];rfl
end Go.Proofs.YtmnimbnojdndmaaGreatDoor
namespace Go.Proofs.YtmnimbnojdndmaaGreatDoor
open Go.RowKit Go.Cd
def Cn:List Nat->Nat->List Nat
 | [],_=>[]
 | _::bs,i=>i / aW bs::Cn bs (i % aW bs)
@[simp] theorem uT:∀(bs:List Nat) (i:Nat),(Cn bs i).length=bs.length
  | [],_=>rfl
  | _::bs,i=>by simp[Cn,uT bs]
def FV:∀(bs:List Nat) (j:Nat),aW (bs.drop j) ∣ aW bs
 | [],j=>by simp
 | b::bs,0=>Nat.dvd_refl _
 | b::bs,j+1=>Nat.dvd_trans (FV bs j) ⟨b,by simp[aW,m_]⟩
def Ay:∀(bs:List Nat) (i j:Nat) (h:j<bs.length),(∀b∈bs,1<=b)->i<aW bs->(Cn bs i)[j]'(by simpa using h)=i / aW (bs.drop (j+1)) % bs[j]
 | b::bs,i,0,h,hp,hi=>by
   have d:i / aW bs<b:=tD (by rw[m_];exact hi);simp[Cn,rH d]
 | b::bs,i,j+1,h,hp,hi=>by
   have a:∀b∈bs,1<=b:=λc g=>hp c (kq _ g);have f:j<bs.length:=by simpa using h
   have l:=jD a;have k:=Ay bs (i % aW bs) j f a (mS _ l);simp only[Cn,xj,yd];rw[k,<-Ax,<-Ax,Nat.mod_mod_of_dvd];have e:=FV bs j;rw[lY f] at e;rw[m_];exact e
def ac3 {bs:List Nat} {i j:Nat} (h:j<bs.length) (a:∀b∈bs,1<=b) (c:i<aW bs):(Cn bs i)[j]'(by simpa using h)<bs[j]:=by
 rw[Ay bs i j h a c];exact mS _ (a _ (gw _))
def Wn (bs:List Nat) (n:Nat) (e:∀b∈bs,1<=b) (g:n<aW bs) (f:List Int) (c:f=(Cn bs n).map (λd:Nat=>(d:Int))):∀j,j<=bs.length->gU bs f j=n / aW (bs.drop j):=by
 intro j
 induction j with
 | zero=>intro _;simp[gU,pC g]
 | succ j ih=>
   intro k;have a:j<bs.length:=by omega
   have:=jD (bs:=bs.drop (j+1)) (λb i=>e b (l3 i));have:=e _ (gw a);subst c;simp only[gU,ih (by omega),gx a,ox,nu,gx (show j<(Cn bs n).length by simpa using a),xo];rw[Ay bs n j a e g,lY a,pw];rw[m_ bs[j],<-mN,m_];exact xA _ _
end Go.Proofs.YtmnimbnojdndmaaGreatDoor
namespace Go.Proofs.YtmnimbnojdndmaaGreatDoor
open Go.RowKit Go.Cd _root_.Go.Proofs.Tryz
def aga {w:World} {v:Value} {bs:List Nat} (h:gB w v bs) (a:∀b∈bs,1<=b) (c:aW bs<=1073741824) (i:Int) :
 Calls prog 92 #[v,.int .i64 i] w λe w'=>e=.returned (.bool (decide (0<=i/\i<(aW bs:Nat))))/\Below w.heap.size w w':=by
 have l:=h;obtain⟨d,g,f,k,rfl,_⟩:=h.out;have j:=ah (w:=w) (.cells #[.slice d bs.length g,.slice f bs.length k,.int .i64 (aW bs:Nat)] dh);have n:qj (w.alloc (.cells #[.slice d bs.length g,.slice f bs.length k,.int .i64 (aW bs:Nat)] dh)) w.heap.size (.slice d bs.length g) (.slice f bs.length k) (.int .i64 (aW bs:Nat)) dh:=⟨heap_alloc_new' _ _ _ rfl⟩;obtain⟨p,r,s⟩:=n.cell;have o:=aa (H6 (l.mono j) a c);clear h l a;by_cases h0:0<=i
 ·go_enter func92,ntmps92;go_wp2_with fail;refine o.out.mono ?_;rintro e q⟨rfl,m⟩;go_wp2;go_ret;exact⟨by simp[h0],af j m⟩
 go_enter func92,ntmps92;go_wp2;go_ret;exact⟨by simp;omega,j⟩
def Wo {w:World} {v:Value} {bs:List Nat} (h:gB w v bs) (a:∀b∈bs,1<=b) (f:aW bs<=1073741824) {i j:Nat} (x:i<aW bs) (d:j<bs.length) :
 Calls prog 93 #[v,.int .i64 i,.int .i64 j] w λe w'=>e=.returned (.int .i64 ((Cn bs i)[j]'(by simpa using d):Nat))/\Below w.heap.size w w':=by
 have z:=aa (Ay bs i j d a x);obtain⟨I,r,L,t,rfl,_,B,A,g,k⟩:=h.out;obtain⟨m,n,rfl,s,u⟩:=g j d;obtain⟨o,l,rfl,q,y⟩:=k j d;have c:=ah (w:=w) (.cells #[.slice (some ⟨m,n,none⟩) bs.length r,.slice (some ⟨o,l,none⟩) bs.length t,.int .i64 (aW bs:Nat)] dh);have E:qj (w.alloc (.cells #[.slice (some ⟨m,n,none⟩) bs.length r,.slice (some ⟨o,l,none⟩) bs.length t,.int .i64 (aW bs:Nat)] dh)) w.heap.size (.slice (some ⟨m,n,none⟩) bs.length r) (.slice (some ⟨o,l,none⟩) bs.length t) (.int .i64 (aW bs:Nat)) dh:=⟨heap_alloc_new' _ _ _ rfl⟩;obtain⟨H,J,K⟩:=E.cell;have u:=(c.cell (p:=⟨m,n+j,none⟩) s).trans u;have y:=(c.cell (p:=⟨o,l+j,none⟩) q).trans y;have:=jD (bs:=bs.drop (j+1)) (λb c=>a b (l3 c));have:=a _ (gw d);have:i<1073741824:=by omega
 clear h g k a f x;generalize (Cn bs i)[j]'(by simpa using d)=D at *;generalize bs[j]=b at *;generalize aW (bs.drop (j+1))=Q at *;generalize aW bs=P at *;go_enter func93,ntmps93;go_wp2_with fail;go_quiet (fail);go_wp2;go_ret;have C:wrap64 ((i:Int) / (Q:Int))=((i / Q:Nat):Int):=by
  rw[<-zE];have:=tR i Q;exact wr1 (by omega)
 refine⟨?_,⟨c.os,c.tape,c.output,c.size,c.block⟩⟩;show Ending.returned (.int .i64 ((wrap64 ((i:Int) / (Q:Int))).tmod (b:Int)))=_;rw[C,z.out,Int.ofNat_tmod]
end Go.Proofs.YtmnimbnojdndmaaGreatDoor
namespace Go.Proofs.YtmnimbnojdndmaaGreatDoor
open Go.RowKit Go.Cd
abbrev eZ:=Nat×List Nat
def nz (l:List Nat):List Int:=l.map λd:Nat=>(d:Int)
@[simp] theorem jF (l:List Nat):(nz l).length=l.length:=by simp[nz]
def Z8 (l:List Nat):bO (nz l)=ds l:=by simp[bO,nz,ds]
def aL (R:List bS) (h:Nat):bS:=R.getD h (0,[])
def df {R:List bS} {h:Nat} (a:h<R.length):aL R h=R[h]:=by unfold aL;rw[ir,gx a];rfl
structure eQ (R:List bS) (s:eZ):Prop where
 lt:s.1<R.length
 len:s.2.length=(aL R s.1).2.length
 le:∀i (a:i<s.2.length) (b:i<(aL R s.1).2.length),s.2[i]<=((aL R s.1).2[i]).2.length
def Co (R:List bS) (s:eZ):Bool:=decide (s.1+1=R.length)&&gV (nz s.2) (aL R s.1).2
def ed (n c:Nat) (ms:List Nat) (L:List (Nat×List Nat)) (i:Nat):Bool:=
 decide ((L.getD i (0,[])).1=n)&&decide (ms.getD i 0<(L.getD i (0,[])).2.length)&&decide ((L.getD i (0,[])).2.getD (ms.getD i 0) 0=c)
def iy (K:Nat->Nat) (R:List bS) (s:eZ) (c:Nat):Option eZ:=
 if K c=0 then (if gV (nz s.2) (aL R s.1).2=true/\s.1+1<R.length/\(aL R (s.1+1)).1=c then some (s.1+1,List.replicate (aL R (s.1+1)).2.length 0) else none)
 else ((List.range (aL R s.1).2.length).find? (ed (K c) c s.2 (aL R s.1).2)).map λi=>(s.1,s.2.set i (s.2.getD i 0+1))
def aa5 {K:Nat->Nat} {R:List bS} {s k:eZ} {c:Nat} (h:eQ R s) (e:iy K R s c=some k):eQ R k:=by
 unfold iy at e
 split at e
 ·split at e
  ·rename_i m;cases e;refine⟨m.2.1,by simp,λi a b=>?_⟩;simp
  cases e
 rw[Option.map_eq_some_iff] at e;obtain⟨i,l,rfl⟩:=e;have g:i<(aL R s.1).2.length:=by simpa using mB l
 have d:=tU l;unfold ed at d;simp only[js,decide_eq_true_eq] at d;have n:(aL R s.1).2.getD i (0,[])=(aL R s.1).2[i]:=by rw[ir,gx g];rfl
 rw[n] at d;refine⟨h.lt,by simpa using h.len,λj a b=>?_⟩;simp only[List.getElem_set]
 split
 ·rename_i f;subst f;exact d.1.2
 exact h.le j (by simpa using a) b
def fw (K:Nat->Nat) (F:Nat->List Nat) (R:List bS) (s:eZ) (c:Nat):Option eZ:=(F c).foldlM (iy K R) s
def Lu {α β:Type} {P:α->Prop} {f:α->β->Option α} (hf:∀a b c,P a->f a b=some c->P c):∀(l:List β) (a c:α),P a->l.foldlM f a=some c->P c
 | [],a,c,h,e=>by
   have:a=c:=by simpa using e
   exact this▸h
 | b::l,a,c,h,e=>by
   rw[oB] at e;cases d:f a b with
   | none=>rw[d] at e;cases e
   | some a2=>
     rw[d] at e;exact Lu hf l a2 c (hf a b a2 h d) e
def Cq {K:Nat->Nat} {F:Nat->List Nat} {R:List bS} {s a:eZ} {c:Nat} (h:eQ R s) (e:fw K F R s c=some a):eQ R a:=
 Lu (λ_ _ _ h e=>aa5 h e) (F c) s a h e
def lZ (ms:List Nat) (L:List (Nat×List Nat)) (i:Nat):List Nat:=
 if ms.getD i 0<(L.getD i (0,[])).2.length then [(L.getD i (0,[])).2.getD (ms.getD i 0) 0] else []
def au (ms:List Nat) (L:List (Nat×List Nat)) (n:Nat):List Nat:=(List.range n).flatMap (lZ ms L)
def ko (R:List bS) (s:eZ):List Nat:=
 if au s.2 (aL R s.1).2 (aL R s.1).2.length=[] then (if s.1+1<R.length then [(aL R (s.1+1)).1] else []) else au s.2 (aL R s.1).2 (aL R s.1).2.length
def zS (ms:List Nat) (L:List (Nat×List Nat)) (n:Nat):au ms L (n+1)=au ms L n++lZ ms L n:=by
 unfold au;rw[s_,j7];simp
def uU (ms:List Nat) (L:List (Nat×List Nat)) (n:Nat):(au ms L n).length<=n:=by
 induction n with
 | zero=>simp[au]
 | succ n ih=>
   rw[zS,gn];have:(lZ ms L n).length<=1:=by unfold lZ;split <;> simp
   omega
def Cr (R:List bS) (s:eZ):(ko R s).length<=(aL R s.1).2.length+1:=by
 unfold ko
 split
 ·split <;> simp
 have:=uU s.2 (aL R s.1).2 (aL R s.1).2.length;omega
def pO (K:Nat->Nat) (F Bg:Nat->List Nat) (R:List bS) (s:eZ):List Nat:=(ko R s).flatMap λx=>(Bg x).filter λc=>(fw K F R s c).isSome
def fK (R:List bS) (s:eZ):Nat:=dO (R.take s.1)+gU (kM (aL R s.1)) (nz s.2) (kM (aL R s.1)).length
def eO (r:bS):(kM r).length=r.2.length:=by simp[kM]
def Ii {r:bS} {i:Nat} (a:i<r.2.length):(kM r)[i]'(by rw[eO];exact a)=r.2[i].2.length+1:=by simp[kM]
def pQ (r:bS):∀b∈kM r,1<=b:=by
 intro b a;obtain⟨x,_,rfl⟩:=j8.1 a;exact Nat.le_add_left _ _
def uV (r:bS):xD r=aW (kM r):=(Li _).symm
def wZ (r:bS) (R:List bS):dO (r::R)=xD r+dO R:=by simp[dO]
def aae {R:List bS} {k:Nat} (a:k<R.length):dO (R.take (k+1))=dO (R.take k)+xD R[k]:=by
 unfold dO;rw[gR a,j5,sg];simp
def gG (R:List bS) (k:Nat):dO (R.take k)<=dO R:=by
 conv=>rhs;rw[<-km k R]
 unfold dO;rw[j5,sg];omega
def Qv (r:bS):1<=xD r:=by rw[uV];exact jD (pQ r)
def eQ.vld {R:List bS} {s:eZ} (h:eQ R s):wX (kM (aL R s.1)) (nz s.2)=true:=by
 rw[oF];refine⟨by rw[jF,eO];exact h.len,λj b a=>?_⟩;rw[jF] at b;rw[eO] at a;have:=h.le j b a;rw[Ii a];simp only[nz,m8];omega
def Az {R:List bS} {s:eZ} (h:eQ R s):gU (kM (aL R s.1)) (nz s.2) (kM (aL R s.1)).length<xD (aL R s.1):=by
 have a:=(oF _ _).1 h.vld;have:=Hz (bs:=kM (aL R s.1)) (l:=nz s.2) (kM (aL R s.1)).length (d' _) (vb a.1.symm) (λt c b _=>a.2 t c b);rw[qK] at this;rw[uV];simp only[aW,qt] at this;exact this
def nD {R:List bS} {s:eZ} (h:eQ R s):fK R s<dO R:=by
 have:=Az h;have a:=aae h.lt;have:=gG R (s.1+1);rw[<-df h.lt] at a;unfold fK;omega
def sW:List bS->Nat->eZ
 | [],_=>(0,[])
 | r::R,i=>if i<xD r then (0,Cn (kM r) i) else ((sW R (i-xD r)).1+1,(sW R (i-xD r)).2)
def Wp:∀{R:List bS} {i k:Nat} (a:k<R.length),dO (R.take k)<=i->i-dO (R.take k)<xD R[k]->sW R i=(k,Cn (kM R[k]) (i-dO (R.take k)))
 | [],_,_,a,_,_=>absurd a (by simp)
 | r::R,i,0,_,_,h2=>by
   simp only[List.take_zero,ti] at h2⊢;have:dO []=0:=rfl;rw[this] at h2⊢;rw[Nat.sub_zero] at h2⊢;show(if i<xD r then _ else _)=_;rw[if_pos h2]
 | r::R,i,k+1,a,h1,h2=>by
   simp only[List.take_succ_cons,xj,wZ] at h1 h2⊢;have b:¬i<xD r:=by omega
   show(if i<xD r then _ else _)=_;rw[if_neg b];rw[Wp (R:=R) (i:=i-xD r) (k:=k) (by simpa using a) (by omega) (by rw[show i-xD r-dO (R.take k)=i-(xD r+dO (R.take k)) by omega];exact h2)];rw[show i-xD r-dO (R.take k)=i-(xD r+dO (R.take k)) by omega]
def uW:∀{R:List bS} {i:Nat},i<dO R->eQ R (sW R i)
 | [],i,h=>absurd h (by simp[dO])
 | r::R,i,h=>by
   rw[wZ] at h;unfold sW;by_cases c:i<xD r
   ·rw[if_pos c];rw[uV] at c;refine⟨by simp,?_,λj a b=>?_⟩
    ·show(Cn (kM r) i).length=r.2.length;rw[uT,eO]
    have f:j<r.2.length:=b;have:=ac3 (bs:=kM r) (i:=i) (j:=j) (by rw[eO];exact f) (pQ r) c;rw[Ii f] at this;exact Nat.le_of_lt_succ this
   rw[if_neg c];have d:=uW (R:=R) (i:=i-xD r) (by omega);have e:aL (r::R) ((sW R (i-xD r)).1+1)=aL R (sW R (i-xD r)).1:=rfl;refine⟨by simpa using d.lt,?_,λj a b=>?_⟩
   ·rw[e];exact d.len
   have:=d.le j a (by rw[e] at b;exact b);exact this
def jk (R:List bS) (opt:eZ->List Nat) (nS:eZ->Nat->Option eZ) (l:List Nat) (i:Nat):Nat:=
 if Co R (sW R i)=true then 1 else ((opt (sW R i)).map λc=>(match nS (sW R i) c with|some s=>l.getD (fK R s) 0|none=>0)).sum
def jl (R:List bS) (opt:eZ->List Nat) (nS:eZ->Nat->Option eZ) (n:Nat):Nat->List Nat
 | 0=>List.replicate n 0
 | j+1=>(jl R opt nS n j).set (n-1-j) (jk R opt nS (jl R opt nS n j) (n-1-j))
def FW (R:List bS) (opt:eZ->List Nat) (nS:eZ->Nat->Option eZ) (n j:Nat):(jl R opt nS n j).length=n:=by
 induction j with
 | zero=>simp[jl]
 | succ j ih=>rw[jl,m7,ih]
def Ij {α:Type} (f:α->Nat) (b:Nat):∀(l:List α),(∀x∈l,f x<=b)->(l.map f).sum<=l.length*b
 | [],_=>by simp
 | x::l,h=>by
   have:=Ij f b l λy a=>h y (.tail _ a);have:=h x (.head _);rw[lj,oS,im,Nat.succ_mul];omega
def one_le_pow {M:Nat} (h:1<=M) (j:Nat):1<=M ^ j:=tc h
def Lv {R:List bS} {opt:eZ->List Nat} {nS:eZ->Nat->Option eZ} {l:List Nat} {i M P:Nat} (g:1<=M) (f:1<=P) (e:(opt (sW R i)).length<=M) (d:∀x∈l,x<=P):jk R opt nS l i<=M*P:=by
 have b:1<=M*P:=Nat.mul_pos g f;unfold jk
 split
 ·exact b
 refine ia (Ij _ P _ λc _=>?_) (m9 P e)
 split
 ·rename_i s _;rw[ir];by_cases a:fK R s<l.length
  ·rw[gx a];exact d _ (gw a)
  rw[pA (by omega)];exact ic _
 exact ic _
def Lx {R:List bS} {opt:eZ->List Nat} {nS:eZ->Nat->Option eZ} {M:Nat} (a:1<=M) (b:∀i,i<dO R->(opt (sW R i)).length<=M):∀j,j<=dO R->∀x∈jl R opt nS (dO R) j,x<=M ^ j
 | 0,_,x,hx=>by
   rw[jl] at hx;rw[we hx];exact ic _
 | j+1,hj,x,hx=>by
   have c:=Lx (nS:=nS) a b j (by omega);rw[jl] at hx;rcases q_ hx with h|rfl
   ·exact ia (c x h) (kj a (pz j))
   have:=Lv (R:=R) (opt:=opt) (nS:=nS) (i:=dO R-1-j) a (one_le_pow a j) (b _ (by omega)) c
   rwa [my,m_]
end Go.Proofs.YtmnimbnojdndmaaGreatDoor
namespace Go.Proofs.YtmnimbnojdndmaaGreatDoor
open Go.RowKit Go.Cd _root_.Go.Proofs.Tryz
def AA (w:World) (v:Value) (s:eZ):Prop:=Qu w v s.1 (nz s.2)
def AA.mono {w w':World} {v:Value} {s:eZ} (h:AA w v s) (a:Below w.heap.size w w'):AA w' v s:=Qu.mono h a
def Ik (w:World) (v:Value) (R:List bS) (k:Nat):Prop:=
 ∃la lc e a c b g d z f,v=.agg #[.int .i32 (aL R k).1,.slice la (aL R k).2.length lc,.slice e a c,.slice b g d,.int .i64 z,.int .i64 f]/\Oz w (.slice la (aL R k).2.length lc) (aL R k).2/\
  (dO R<=16384->gB w (.agg #[.slice e a c,.slice b g d,.int .i64 z]) (kM (aL R k))/\f=(dO (R.take k):Nat))
def Ik.run {w:World} {v:Value} {R:List bS} {k:Nat} (h:Ik w v R k):af9 w v (aL R k):=by
 obtain⟨la,lc,i,a,c,b,j,e,z,f,g,d,_⟩:=h;exact⟨_,i,a,c,b,j,e,z,f,g,d⟩
def Ik.mono {w w':World} {v:Value} {R:List bS} {k:Nat} (h:Ik w v R k) (b:Below w.heap.size w w'):Ik w' v R k:=by
 obtain⟨la,lc,l,c,e,d,m,i,z,f,j,g,a⟩:=h;exact⟨la,lc,l,c,e,d,m,i,z,f,j,g.mono b,λk=>⟨(a k).1.mono b,(a k).2⟩⟩
def Wm.at_ {w:World} {p P:Nat} {a:List bS} {g K:Nat} {L:Value} {l:Bool} {c:List qx} (h:Wm w p P a g K L l c) {k:Nat} (E:k<a.length) :
 ∃la lc s t n o v q z f,(∀j<6,w.cell? ⟨g,k*6+j,none⟩=[Value.int .i32 (aL a k).1,.slice la (aL a k).2.length lc,.slice s t n,.slice o v q,.int .i64 z,.int .i64 f][j]?)/\
  Oz w (.slice la (aL a k).2.length lc) (aL a k).2/\Ik w (.agg #[.int .i32 (aL a k).1,.slice la (aL a k).2.length lc,.slice s t n,.slice o v q,.int .i64 z,.int .i64 f]) a k:=by
 have m:k<c.length:=by rw[<-iz (f:=λe=>cB.sp e.1),h.sp];exact E
 have d:cB.sp c[k].1=aL a k:=by rw[df E];simp[<-h.sp]
 have b:=λu:dO a<=16384=>h.ZQ (by rw[h.le];exact decide_eq_true u) k m;obtain⟨⟨s,t,n,G⟩,o,v,q,H⟩:=h.shp _ (gw m);rw[d] at b;unfold Wh at b;rw[G,H] at b;obtain⟨la,lc,I⟩:=h.sl _ (gw m);have N:c[k].1.2.2.length=(aL a k).2.length:=by rw[<-d];simp[cB.sp]
 have R:c[k].1.1=(aL a k).1:=by rw[<-d];rfl
 have C:Oz w (.slice la (aL a k).2.length lc) (aL a k).2:=by
  refine⟨la,lc,rfl,λi T=>?_⟩;have r:i<c[k].1.2.2.length:=by omega
  obtain⟨F,_,A,O,B⟩:=h.lane _ (gw m) i r;have y:=h.marks _ (gw m) _ (gw r);have x:(aL a k).2[i]=((c[k].1.2.2[i]).1,(c[k].1.2.2[i]).2.2):=by
   have:(aL a k).2=c[k].1.2.2.map d_.sp:=by rw[<-d];rfl
   simp only[this,m8];rfl
  obtain⟨J,M,D,_,_⟩:=bG.out y;rw[bF] at D;rw[D] at y B;rw[I] at A;have S:la=some ⟨F,0,none⟩:=by injection A
  refine⟨F,J,M,S,?_,?_,?_⟩
  ·rw[x];exact O
  ·rw[x];exact B
  rw[x];exact y
 refine⟨la,lc,s,_,n,o,_,q,_,_,λj Q=>?_,C,la,lc,s,_,n,o,_,q,_,_,rfl,C,b⟩;rw[h.run k m j Q];unfold nC;rw[G,H,I,N,R]
def rD {w:World} {B p dp:Nat} {K:Nat->Nat} {l:List Nat} (h:dP w B p dp K l) (hl:l.length<9000) {v:Value} {s:eZ} (hs:AA w v s) (C:eQ (bq K l) s) :
 Calls prog 69 #[.pointer (some ⟨p,0,none⟩),v] w λe w'=>∃rv,e=.returned (.tuple #[rv,.bool true])/\Ik w' rv (bq K l) s.1/\Below w.heap.size w w':=by
 have Z:=fD K l;obtain⟨R,S⟩:=ae (bq K l);obtain⟨g,rc,iT,ac,Es,hR⟩:=h.read;rw[<-S] at Z hR C⊢;obtain⟨sv,rfl,U⟩:=hs;obtain⟨la,lc,L,H,J,I,M,N,z,f,n,hL,hW⟩:=hR.at_ C.lt;obtain⟨an,SX,e9,W⟩:=id hL;injection e9 with e8 _ e7;subst e8 e7;obtain⟨sa,sc,rfl,_,hx⟩:=bG.out U.any;have d:=Z.2.2 _ (show aL R s.1∈R by rw[df C.lt];exact gw _);have a:(bO (nz s.2)).length=(aL R s.1).2.length:=by rw[<-C.len];simp[bO]
 rw[a];obtain⟨m,hm⟩:=ae ((aL R s.1).2.length);obtain⟨nr,x⟩:=ae R.length;obtain⟨hd,Q⟩:=ae ((aL R s.1).1);rw[<-hm] at n hW a⊢;rw[<-Q] at n hW;have E:=hR.is;rw[<-x] at E;obtain⟨k,X⟩:=ae s.1;rw[<-X] at n;have:k<nr:=by rw[X,x];exact C.lt
 have:nr<10000:=by rw[x];have:=Z.2.1;omega
 have:m<10000:=by rw[hm];have:=d.1;omega
 rw[show((s.1:Nat):Int)=(k:Int) by rw[X]];have HL:=aa W;have HX:=aa hx;have HO:=aa C;have HM:=aa hm;have T:=aa a;have:=aa d;have d0:w.cell? ⟨g,k*6,none⟩=some (.int .i32 hd):=n 0 (by decide);have d1:w.cell? ⟨g,k*6+1,none⟩=some (.slice la m lc):=n 1 (by decide);have d2:w.cell? ⟨g,k*6+2,none⟩=some (.slice L H J):=n 2 (by decide);have d3:w.cell? ⟨g,k*6+3,none⟩=some (.slice I M N):=n 3 (by decide);have d4:w.cell? ⟨g,k*6+4,none⟩=some (.int .i64 z):=n 4 (by decide);have Y:w.cell? ⟨g,k*6+5,none⟩=some (.int .i64 f):=n 5 (by decide);have HW:=aa hW;clear h hR U hx n hL W hW C Z d hm a X Q x S;obtain⟨G,j⟩:=ae ((w.alloc (.cells #[.int .i64 k,.slice sa m sc] 54)).alloc (.cells #[.int .i32 0,.slice none 0 0,.slice none 0 0,.slice none 0 0,.int .i64 0,.int .i64 0] eX));have hb:Below w.heap.size w G:=by rw[j];exact dH _ _
 have t:Is G w.heap.size #[.int .i64 k,.slice sa m sc] 54:=by rw[j];exact(Is.new _ _ _).mono (ah _)
 have O:Is G (w.heap.size+1) #[.int .i32 0,.slice none 0 0,.slice none 0 0,.slice none 0 0,.int .i64 0,.int .i64 0] eX:=by rw[j];exact Is.new' _ _ _ _ (by simp)
 have e0:=t.at 0 rfl;have e1:=t.at 1 rfl;have p1:=(E.mono hb).at 1 rfl;have:decide ((k:Int)<0)=false:=decide_eq_false (by omega);have:decide ((nr:Int)<=(k:Int))=false:=decide_eq_false (by omega);go_enter func69,ntmps69;go_wp2_with fail;rw[<-j];clear j;go_quiet (fail);go_wp2_with fail;have r:Below G.heap.size G (G.drewN nq):=⟨rfl,rfl,rfl,d' _,λ_ _=>rfl⟩;generalize G.drewN nq=w3 at *;have q:=af hb r;have t:=t.mono r;have O:=O.mono r;have e0:=t.gd 0 rfl;have p1:=Gr.cell (ag w3) ((E.mono q).at 1 rfl);have d0:=Gr.cell (ag w3) (aB q d0);have d1:=Gr.cell (ag w3) (aB q d1);have d2:=Gr.cell (ag w3) (aB q d2);have d3:=Gr.cell (ag w3) (aB q d3);have d4:=Gr.cell (ag w3) (aB q d4);have Y:=Gr.cell (ag w3) (aB q Y);refine aC #[true,true,true,true,true,true,true,true,true,false] 9 1 mixed ?_;refine ay [0,1,2,3,4,5,6,7] 1 ?_
 iterate 8 (refine aA rfl ?_;go_big_quiet_step (rfl))
 refine az ?_;refine aI 8 ?_;go_wp2_with fail;refine aF (ah _) ?_;refine aJ [9] ?_;refine tail_cons rfl ?_;go_wp2_with fail;refine tail_nil ?_;obtain⟨w4,o⟩:=ae ((w3.alloc (.cells #[.int .i32 hd,.slice la m lc,.slice L H J,.slice I M N,.int .i64 z,.int .i64 f] eX)).drew);have V:Below w3.heap.size w3 w4:=by rw[o];exact(ah _).trans ((ag _).mono (by simp))
 have k3:Is w4 w3.heap.size #[.int .i32 hd,.slice la m lc,.slice L H J,.slice I M N,.int .i64 z,.int .i64 f] eX:=by rw[o];exact(Is.new w3 _ _).mono (ag _)
 have lN:=af q V;have t:=t.mono V;have O:=O.mono V;have:=V.size;have:=q.size;rw[<-o];have:((m:Int)==(m:Int))=true:=by simp
 have e1:=t.at 1 rfl;have c1:=k3.at 1 rfl;clear o V d0 d1 d2 d3 d4 Y e0 p1 r;go_wp2_with fail;go_loopw [7,8,42] (λ_ _ iv wr=>∃i:Nat,i<=m/\iv=.int .i64 i/\Below w4.heap.size w4 wr) (λ_ _ iv _=>m-(intOf iv).toNat)
 case atStart=>exact⟨0,ic _,rfl,gS _ _⟩
 case round=>
  obtain⟨i,hi,rfl,P⟩:=hrel;have jP:=af lN P;by_cases ai:i<m
  ·have zi:=eG (show i<m by omega);have M8:i<(aL R s.1).2.length:=by have:=HM.out;omega
   have ab:i<s.2.length:=by rw[HO.out.len];exact M8
   have Zc:i<(bO (nz s.2)).length:=by have:=T.out;omega
   obtain⟨b,off,rfl,_,c0⟩:=HX.out i Zc;obtain⟨lg,va,vc,rfl,_,l1,_⟩:=HL.out i M8;rw[show(bO (nz s.2))[i]=.int .i64 ((s.2[i]:Nat):Int) by simp[bO,nz]] at c0;obtain⟨mi,vL⟩:=ae (s.2[i]);obtain⟨xl,D⟩:=ae ((aL R s.1).2[i].2.length);have:mi<=xl:=by rw[vL,D];exact HO.out.le i ab M8
   rw[<-vL] at c0;rw[<-D] at l1;have c0:=aB jP c0;have l1:=aB jP l1;have c1:=aB P c1;clear vL D;have:decide ((mi:Int)<0)=false:=decide_eq_false (by omega);have:=gI (show mi<=xl by omega);go_wp2_with fail;go_roundw
   case rel=>exact⟨i+1,by omega,by simp,P⟩
   case measure=>simp[intOf];omega
  have zi:=gI (show m<=i by omega);obtain rfl:i=m:=by omega
  have c:=O.mono P;have F:=k3.mono P;have d0:=F.at 0 rfl;have d1:=F.at 1 rfl;have d2:=F.at 2 rfl;have d3:=F.at 3 rfl;have d4:=F.at 4 rfl;have Y:=F.at 5 rfl;have:=c.at 0 rfl;have:=c.at 1 rfl;have:=c.at 2 rfl;have:=c.at 3 rfl;have:=c.at 4 rfl;have:=c.at 5 rfl;have:=c.frozen 0;have:=c.frozen 1;have:=c.frozen 2;have:=c.frozen 3;have:=c.frozen 4;have:=c.frozen 5;have A:=(((((c.set 0 (.int .i32 hd)).set 1 (.slice la i lc)).set 2 (.slice L H J)).set 3 (.slice I M N)).set 4 (.int .i64 z)).set 5 (.int .i64 f);have g0:=A.at 0 rfl;have g1:=A.at 1 rfl;have g2:=A.at 2 rfl;have g3:=A.at 3 rfl;have g4:=A.at 4 rfl;have g5:=A.at 5 rfl;have y:=aa (aj (off:=5) (u:=.int .i64 f) (aj (off:=4) (u:=.int .i64 z) (aj (off:=3) (u:=.slice I M N) (aj (off:=2) (u:=.slice L H J) (aj (off:=1) (u:=.slice la i lc) (aj (off:=0) (u:=.int .i32 hd) (b:=w.heap.size+1) jP (by omega)) (b:=w.heap.size+1) (by omega)) (b:=w.heap.size+1) (by omega)) (b:=w.heap.size+1) (by omega)) (b:=w.heap.size+1) (by omega)) (b:=w.heap.size+1) (by omega));clear c F A t O k3 c1 e1;go_wp2_with fail;exact bodyPost_ret (v:=.tuple #[.agg #[.int .i32 hd,.slice la i lc,.slice L H J,.slice I M N,.int .i64 z,.int .i64 f],.bool true]) (by simp[results,results69,go_sem,g0,g1,g2,g3,g4,g5]) rfl ⟨_,rfl,HW.out.mono y.out,y.out⟩
def Tc {w:World} {B p dp:Nat} {K:Nat->Nat} {l:List Nat} (h:dP w B p dp K l) (hl:l.length<9000) {v:Value} {s:eZ} (A:AA w v s) (C:eQ (bq K l) s) :
 Calls prog 32 #[.pointer (some ⟨p,0,none⟩),v] w λe w'=>e=.returned (.bool (Co (bq K l) s))/\Below w.heap.size w w':=by
 obtain⟨k,ms⟩:=s;have N:=fD K l;obtain⟨g,rc,iT,P,Es,Q⟩:=h.read;obtain⟨sv,rfl,c⟩:=id A;obtain⟨Z,sc,rfl,_,_⟩:=bG.out c.any;obtain⟨m,hm⟩:=ae ((bO (nz ms)).length);dsimp only at A c⊢;rw[<-hm] at A c⊢;have o:=ah (w:=w) (.cells #[.int .i64 (k:Nat),.slice Z m sc] 54);have O:=aa (rD (h.mono o) hl (A.mono o) C);have b:=N.2.2 _ (show aL (bq K l) k∈bq K l by rw[df C.lt];exact gw _);have L:=aa (λ(W:World) (E:Below w.heap.size w W) (V:Value) (hr:Ik W V (bq K l) k)=>Cm hr.run (A.mono E) (by rw[jF];exact C.len) (by have:=b.1;omega) (λx hx=>by have:=b.2 x hx;omega));have I:Co (bq K l) (k,ms)=(decide (k+1=(bq K l).length)&&gV (nz ms) (aL (bq K l) k).2):=rfl;rw[I];dsimp only at O L;obtain⟨R,M⟩:=ae (bq K l);rw[<-M] at N Q O L C⊢;obtain⟨wb,G⟩:=ae (gV (nz ms) (aL R k).2);rw[<-G] at L⊢;obtain⟨r,d⟩:=ae R.length;have q:=Q.is;rw[<-d] at q⊢;have:k<r:=by rw[d];exact C.lt
 have:r<10000:=by rw[d];have:=N.2.1;omega
 clear h Q c A hm N b G d M C I;go_enter func32,ntmps32;go_wp2_with fail;refine O.out.mono ?_;rintro e w1⟨V,rfl,y,J⟩;obtain⟨la,lc,x1,m1,y1,x2,m2,y2,z,f,rfl,hL,S⟩:=id y;clear S;obtain⟨n,X⟩:=ae ((aL R k).2.length);obtain⟨hd,F⟩:=ae ((aL R k).1);rw[<-X,<-F] at y⊢;have T:=af o J;have H:=(Is.new w #[.int .i64 (k:Nat),.slice Z m sc] 54).mono J;obtain⟨u,i⟩:=ae (w1.alloc (.cells #[.int .i32 hd,.slice la n lc,.slice x1 m1 y1,.slice x2 m2 y2,.int .i64 z,.int .i64 f] eX));have j:=aO i;have t:=Is.nw i;have a:=af T j;have H:=H.mono j;clear hL X F O;go_wp2_with fail;rw[<-i];have y:=(y.mono j).mono (ag u);have WC:=aa (L.out u.drew (a.trans ((ag u).mono a.size)) _ y);have:=Gr.cell (ag u) ((q.mono a).at 1 rfl);have:=H.gd 0 rfl;have:=H.gd 1 rfl;have:=t.gd 0 rfl;have:=t.gd 1 rfl;have:=t.gd 2 rfl;have:=t.gd 3 rfl;have:=t.gd 4 rfl;have:=t.gd 5 rfl;clear i L y q H t;by_cases Y:k+1=r
 ·have zq:((k:Int)==(r:Int)-1)=true:=by simp;omega
  have U:decide (k+1=r)=true:=decide_eq_true Y;refine aC (Array.replicate 18 true) 18 0 mixed ?_;refine ay [0,1,2,3,4,5,6,7,8,9,10,11,12,13,14] 3 ?_
  iterate 15 (refine aA rfl ?_;go_big_quiet_step (rfl))
  refine az ?_;refine aI 15 ?_;go_wp2_with fail;refine WC.out.mono ?_;rintro e w3⟨rfl,D⟩;go_wp2_with fail;refine aF D ?_;refine ay [16,17] 0 ?_
  iterate 2 (refine aA rfl ?_;go_big_quiet_step (rfl))
  refine az ?_;refine aJ [] ?_;refine tail_nil ?_;go_wp2;go_ret;exact⟨by rw[U];rfl,a.trans (((ag u).trans D).mono a.size)⟩
 have zq:((k:Int)==(r:Int)-1)=false:=beq_eq_false_iff_ne.2 (by omega);have U:decide (k+1=r)=false:=decide_eq_false Y;refine aC (Array.replicate 18 true) 18 0 mixed ?_;refine ay [0,1,2,3,4,5,6,7,8,9,10,11,12,13,14] 3 ?_
 iterate 15 (refine aA rfl ?_;go_big_quiet_step (rfl))
 refine az ?_;refine aI 15 ?_;go_wp2_with fail;refine aF (gS _ _) ?_;refine ay [16,17] 0 ?_
 iterate 2 (refine aA rfl ?_;go_big_quiet_step (rfl))
 refine az ?_;refine aJ [] ?_;refine tail_nil ?_;go_wp2;go_ret;exact⟨by rw[U];rfl,a.trans ((ag u).mono a.size)⟩
end Go.Proofs.YtmnimbnojdndmaaGreatDoor
