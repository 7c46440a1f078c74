/- Texts that are alike cost, and count, the same; no condition. -/
import Derived.Test.YtmnimbnojdndmaaGreatDoorU15
set_option maxRecDepth 100000
set_option maxHeartbeats 6400000
set_option linter.all false
namespace Go.Proofs.YtmnimbnojdndmaaGreatDoor
open Go.RowKit Go.Cd _root_.Go.Proofs.Tryz
def ZR (Rs:List cB) (j:Nat):gF (Rs.take j)<=gF Rs:=by
 have:gF Rs=gF (Rs.take j)+gF (Rs.drop j):=by unfold gF;rw[<-sg,<-js,ke]
 omega
def Ll (Ls:List d_):∀b∈gT Ls,1<=b:=λb a=>by
 obtain⟨x,_,rfl⟩:=jx.1 a;omega
def bJ.trans {a b c:World} {t:TypeId} (h:bJ a b t) (k:bJ b c t):bJ a c t:=
 ⟨gS h.size k.size,λi e d=>by
   have f:=h.keep i e d;refine(k.keep i (j9 e h.size) ?_).trans f;rintro⟨cs,g⟩
   exact d ⟨cs,f▸g⟩⟩
def bJ.of_below {a b:World} (t:TypeId) (h:Below a.heap.size a b):bJ a b t:=⟨h.size,λi c _=>h.block i c⟩
def bT.iQ {w w':World} {t:TypeId} {v:Value} {x:Nat} (h:bT w v x) (l:bJ w w' t) (f:nI≠t):bT w' v x:=by
 obtain⟨s,n,a,cap,m,d,g⟩:=h;refine⟨s,n,a,cap,m,d,g.imp id ?_⟩;rintro⟨b,off,cs,i,k,e,g⟩;refine⟨b,off,cs,i,k,(l.keep b (block_lt e) ?_).trans e,g⟩;rintro⟨j,c⟩;rw[e] at c;injection c with c;injection c with _ c _;exact f c
def Lm {w:World} {B N p g s rc:Nat} {dv iT:Value} {a:Bool} {Rs:List cB} (h:D8 w B N p dv (.slice (some ⟨g,0,none⟩) s rc) iT a Rs) (hf:Cj Rs) (hs:a=true->gF Rs<=16384) (E:B<=g) :
 Calls prog 44 #[.pointer (some ⟨p,0,none⟩)] w λe w'=>e=.returned (.tuple #[])/\∃Es,Es.map (·.1)=Rs/\kg w' B N p dv (.slice (some ⟨g,0,none⟩) s rc) iT a Es (if a=true then Es.length else 0)/\Below B w w'/\bJ w w' eX:=by
 have i1:=h.is;have e1:=i1.at 1 rfl;have e3:=i1.at 3 rfl;have T:s=Rs.length:=by
  obtain⟨_,_,e,_⟩:=ak h.runs;injection e with _ e _
 have HM:=aa (kg.of h);have Yq:=aa T;have aG:s<10000:=by rw[T];exact hf.1
 have HF:=aa hf;have ay:B<=w.heap.size:=by have:=h.low;have:=h.hi;omega
 clear h hf T i1;go_enter func44,ntmps44;cases a with
 | false=>
   go_wp2_with fail;exact bodyPost_ret (results_none rfl _ _ _) rfl ⟨rfl,_,by rw[mB];exact tj _,HM.out,gO _ _,.of_below _ (gO _ _)⟩
 | true=>
   have HS:=aa (hs rfl);clear hs;go_wp2_with fail;go_loopw [2,3,4,15] (λfv _ _ iv wr=>∃i:Nat,i<=s/\iv=.int .i64 i/\fv=.int .i64 (gF (Rs.take i):Nat)/\(∃A:List qx,A.map (·.1)=Rs.take i/\kg wr B N p dv (.slice (some ⟨g,0,none⟩) s rc) iT true (A++(Rs.drop i).map Ic) i)/\Below B w wr/\bJ w wr eX) (λ_ _ _ iv _=>s-(intOf iv).toNat)
   case atStart=>exact⟨0,gW _,rfl,rfl,⟨[],rfl,HM.out⟩,gO _ _,.of_below _ (gO _ _)⟩
   case round=>
    obtain⟨i,hi,rfl,rfl,⟨A,V,x⟩,hE,hC⟩:=hrel;have Y:A.length=i:=by
     have:=congrArg List.length V;rw[ia,iS,<-Yq.out] at this;omega
    by_cases az:i<s
    ·have zi:=eG (show i<s by omega);have C:i<Rs.length:=by have:=Yq.out;omega
     have U:Rs.drop i=Rs[i]::Rs.drop (i+1):=iz C;have L:Rs.take (i+1)=Rs.take i++[Rs[i]]:=gE C;have sV:=HF.out.2 _ (gx C);have j:=yC C;have ac:=gS (ZR Rs (i+1)) HS.out;obtain⟨r,hr⟩:=ae (Rs[i]);rw[<-hr] at U L sV j;rw[U,kt] at x;have M:=x.yE Y;have I:wM wr N r:=x.Ae (Ic r) (by simp);obtain⟨hd,lv,Ls⟩:=r;obtain⟨la,lc,R,_,_⟩:=ak I.1.1;simp only at R;obtain⟨ln,J⟩:=ae Ls.length;rw[<-J] at R;subst R;have c0:wr.cell? ⟨g,i*6,none⟩=some (.int .i32 hd):=(M 0 (by decide)).1;have c1:wr.cell? ⟨g,i*6+1,none⟩=some (.slice la ln lc):=(M 1 (by decide)).1;have c2:wr.cell? ⟨g,i*6+2,none⟩=some (.slice none 0 0):=(M 2 (by decide)).1;have c3:wr.cell? ⟨g,i*6+3,none⟩=some (.slice none 0 0):=(M 3 (by decide)).1;have c4:wr.cell? ⟨g,i*6+4,none⟩=some (.int .i64 0):=(M 4 (by decide)).1;have c5:wr.cell? ⟨g,i*6+5,none⟩=some (.int .i64 0):=(M 5 (by decide)).1;have Vh:wr.cell? ⟨p,1,none⟩=some (.slice (some ⟨g,0,none⟩) s rc):=x.is.at 1 rfl;have ao:=aa (B_ (w:=wr) (F:=N) (hd:=hd) (la:=la) (ln:=ln) (lc:=lc) (Ls:=Ls) I sV.1 sV.2 none none 0 0 0 0 0 0);have KO:=aa x;have X:=aa sV;have Re:=aa j;have BA:=aa J;have aw:=aa L;have HA:=aa V;have q:=aa Y;clear M I sV j hr x J U L V Y e1 e3;go_wp2_with fail;refine ao.out.mono ?_;rintro e w3⟨bv,rfl,y,ad⟩;go_wp2_with fail;have ag:=BZ Ls;have aB:ln<10000:=by rw[BA.out];exact X.out.1
     rw[<-BA.out] at ag y;have au:=uS (r:=(hd,.slice la ln lc,Ls)) X.out.2;have ha:bG w3 bv (ds (gT Ls)):=by
      rw[<-ag,<-show(ds (gT Ls)).length=(gT Ls).length by simp[ds]] at y;exact(Sl.aU y).any
     have NW:=ZF ha (by omega) (Ll Ls) (λb hb=>by have:=au b hb;unfold Go.Cd.B at this;omega);refine NW.mono ?_;rintro e w4⟨rv,e0,rfl,am,al⟩;have ax:V8 (hd,.slice la ln lc,Ls)=aW (gT Ls):=(Li _).symm;have j:=Re.out;rw[ax] at j;rw[j] at ac;have av:e0=0/\jE w4 rv (gT Ls):=by
      rcases al with⟨_,h2,h3⟩|⟨h1,_⟩
      ·exact⟨h2,h3⟩
      omega
     obtain⟨rfl,t⟩:=av;obtain⟨s1,s2,rfl,ab,ah⟩:=id t;obtain⟨c,d,rfl,_,_⟩:=ab.out;obtain⟨l,m,rfl,_,_⟩:=ah.out;have D:Below wr.heap.size wr w4:=af ad am;have ap:B<=wr.heap.size:=by have:=KO.out.low;have:=KO.out.hi;omega
     have lN:=hE.trans (D.mono ap);have Y9:=KO.out.ext D;obtain⟨P,hP⟩:=ae (aW (gT Ls));obtain⟨F,hF⟩:=ae (gF (Rs.take i));obtain⟨f,S⟩:=ae ((ds (gT Ls)).length);obtain⟨n,G⟩:=ae ((ds (weights (gT Ls))).length);rw[<-hP,<-S,<-G] at t;rw[<-hP,<-hF] at j ac;rw[<-hP,<-S,<-G,<-hF];have k4:=Y9.yE q.out;have Yr:=Y9.Ie q.out ((hd,.slice la ln lc,Ls),(.slice c f d,.slice none 0 0,0),0) 2 (.slice c f d) (by decide) rfl rfl ⟨FQ.mk,FQ.mk⟩ (o:=i*6+2) rfl;have k5:=Yr.yE q.out;have v:=Yr.Ie q.out ((hd,.slice la ln lc,Ls),(.slice c f d,.slice l n m,0),0) 3 (.slice l n m) (by decide) rfl rfl ⟨FQ.mk,FQ.mk⟩ (o:=i*6+2+1) rfl;have k6:=v.yE q.out;have z:=v.Ie q.out ((hd,.slice la ln lc,Ls),(.slice c f d,.slice l n m,P),0) 4 (.int .i64 P) (by decide) rfl rfl ⟨FQ.mk,FQ.mk⟩ (o:=i*6+2+2) rfl;have k7:=z.yE q.out;have K:=z.Ie q.out ((hd,.slice la ln lc,Ls),(.slice c f d,.slice l n m,P),F) 5 (.int .i64 F) (by decide) rfl rfl ⟨FQ.mk,FQ.mk⟩ (o:=i*6+5) rfl;have k8:=K.yE q.out;have t1:=bJ.put (o:=i*6+2) (⟨(bV Y9.runs (k:=g) rfl).choose_spec⟩:Is w4 g _ eX) (.slice c f d);have t2:=bJ.put (o:=i*6+2+1) (⟨(bV Yr.runs (k:=g) rfl).choose_spec⟩:Is _ g _ eX) (.slice l n m);have t3:=bJ.put (o:=i*6+2+2) (⟨(bV v.runs (k:=g) rfl).choose_spec⟩:Is _ g _ eX) (.int .i64 P);have t4:=bJ.put (o:=i*6+5) (⟨(bV z.runs (k:=g) rfl).choose_spec⟩:Is _ g _ eX) (.int .i64 F);have aq:=aa (hC.trans ((bJ.of_below eX D).trans (t1.trans (t2.trans (t3.trans t4)))));have Q:=(((t.iQ t1 (by decide)).iQ t2 (by decide)).iQ t3 (by decide)).iQ t4 (by decide);clear t1 t2 t3 t4 hC;have W:=K.af0 q.out Q (by rw[HA.out,hF]);have kL:Below B w _:=aj (aj (aj (aj lN (b:=g) (off:=i*6+2) (u:=.slice c f d) E) (b:=g) (off:=i*6+2+1) (u:=.slice l n m) E) (b:=g) (off:=i*6+2+2) (u:=.int .i64 P) E) (b:=g) (off:=i*6+5) (u:=.int .i64 F) E;have aH:w4.cell? ⟨g,i*6+2,none⟩=some (.slice none 0 0):=(k4 2 (by decide)).1;have aL:w4.frozen? ⟨g,i*6+2,none⟩=false:=(k4 2 (by decide)).2;have aA:(w4.setCell ⟨g,i*6+2,none⟩ (.slice c f d)).cell? ⟨g,i*6+2+1,none⟩=some (.slice none 0 0):=(k5 3 (by decide)).1;have aC:(w4.setCell ⟨g,i*6+2,none⟩ (.slice c f d)).frozen? ⟨g,i*6+2+1,none⟩=false:=(k5 3 (by decide)).2;have aF:((w4.setCell ⟨g,i*6+2,none⟩ (.slice c f d)).setCell ⟨g,i*6+2+1,none⟩ (.slice l n m)).cell? ⟨g,i*6+2+2,none⟩=some (.int .i64 0):=(k6 4 (by decide)).1;have aI:((w4.setCell ⟨g,i*6+2,none⟩ (.slice c f d)).setCell ⟨g,i*6+2+1,none⟩ (.slice l n m)).frozen? ⟨g,i*6+2+2,none⟩=false:=(k6 4 (by decide)).2;have aK:(((w4.setCell ⟨g,i*6+2,none⟩ (.slice c f d)).setCell ⟨g,i*6+2+1,none⟩ (.slice l n m)).setCell ⟨g,i*6+2+2,none⟩ (.int .i64 P)).cell? ⟨g,i*6+5,none⟩=some (.int .i64 0):=(k7 5 (by decide)).1;have aE:(((w4.setCell ⟨g,i*6+2,none⟩ (.slice c f d)).setCell ⟨g,i*6+2+1,none⟩ (.slice l n m)).setCell ⟨g,i*6+2+2,none⟩ (.int .i64 P)).frozen? ⟨g,i*6+5,none⟩=false:=(k7 5 (by decide)).2;have aM:((((w4.setCell ⟨g,i*6+2,none⟩ (.slice c f d)).setCell ⟨g,i*6+2+1,none⟩ (.slice l n m)).setCell ⟨g,i*6+2+2,none⟩ (.int .i64 P)).setCell ⟨g,i*6+5,none⟩ (.int .i64 F)).cell? ⟨g,i*6+2,none⟩=some (.slice c f d):=(k8 2 (by decide)).1;have aD:((((w4.setCell ⟨g,i*6+2,none⟩ (.slice c f d)).setCell ⟨g,i*6+2+1,none⟩ (.slice l n m)).setCell ⟨g,i*6+2+2,none⟩ (.int .i64 P)).setCell ⟨g,i*6+5,none⟩ (.int .i64 F)).cell? ⟨g,i*6+2+1,none⟩=some (.slice l n m):=(k8 3 (by decide)).1;have aN:((((w4.setCell ⟨g,i*6+2,none⟩ (.slice c f d)).setCell ⟨g,i*6+2+1,none⟩ (.slice l n m)).setCell ⟨g,i*6+2+2,none⟩ (.int .i64 P)).setCell ⟨g,i*6+5,none⟩ (.int .i64 F)).cell? ⟨g,i*6+2+2,none⟩=some (.int .i64 P):=(k8 4 (by decide)).1;have O:=aa W;have Z:=aa kL;have an:=aa Q;have aJ:=aa hF;have ai:=aa hP;clear k4 k5 k6 k7 k8 Y9 Yr v z K W kL t Q ab ah hF hP al lN hE D ad am y ha NW S G;go_wp2_with fail;refine(H6 an.out.weak (Ll Ls) (by rw[<-ai.out];omega)).mono ?_
     rintro e w5⟨rfl,H⟩;rw[<-ai.out];have ar:=O.out.ext H;have Ko:=Z.out.trans (H.mono (gS ay Z.out.size));have e9:IntKind.i64.wrap ((F:Int)+(P:Int))=((F+P:Nat):Int):=by rw[j8 _ (by omega)];omega
     go_wp2_with fail;go_roundw
     case rel=>
      refine⟨i+1,by omega,by simp,by rw[j,Int.natCast_add],⟨A++[(((hd,Value.slice la ln lc,Ls),(Value.slice c f d,Value.slice l n m,(P:Int)),(F:Int)):qx)],by rw[js,HA.out,aw.out];rfl,?_⟩,Ko,aq.out.trans (.of_below _ H)⟩;rw[kc];exact ar
     case measure=>simp[intOf];omega
    have zi:=gI (show s<=i by omega);obtain rfl:i=s:=by omega
    have ht:Rs.take i=Rs:=ie (by rw[Yq.out];exact gw _);have hd:Rs.drop i=[]:=qu (by rw[Yq.out];exact gw _);rw[ht] at V;rw[hd,sR,lE] at x;have HA:=aa V;have O:=aa x;have q:=aa Y;clear V x Y ht hd e1 e3;go_wp2_with fail
    go_end0
    refine⟨rfl,A,HA.out,?_,hE,hC⟩;simp only[q.out];exact O.out
def dP (w:World) (B p dp:Nat) (K:Nat->Nat) (l:List Nat):Prop:=
 ∃N c b a,(a.map (·.1)).map cB.sp=bq K l/\
  kg w B N p (.pointer (some ⟨dp,0,none⟩)) c b (decide (gF (a.map (·.1))<=16384)) a (if decide (gF (a.map (·.1))<=16384)=true then a.length else 0)/\
  bT w (.agg #[b]) (gF (a.map (·.1)))
def Lp {w:World} {B n g b:Nat} {Rs:List cB} {r:cB} (h:w.ownsRow B eX 6 (.slice (some ⟨g,0,none⟩) n b) (Rs.length+1) ((Rs++[r]).flatMap lV)) :
 w.cell? ⟨g,Rs.length*6+1,none⟩=some r.2.1/\w.frozen? ⟨g,Rs.length*6+1,none⟩=false:=by
 obtain⟨j,d,e,_,_,_,c⟩:=dC (f:=lV) aa1 (l:=Rs++[r]) (by simp) h (i:=Rs.length) (by simp);injection e with e _ _;injection e with e;injection e with e;subst e;have a:=c 1 (by decide);refine⟨a.1.trans ?_,a.2⟩;simp[lV]
def yF {w:World} {B n g b:Nat} {q:List d_} {y:d_} (h:w.ownsRow B fu 2 (.slice (some ⟨g,0,none⟩) n b) (q.length+1) ((q++[y]).flatMap fB)) :
 w.cell? ⟨g,q.length*2+1,none⟩=some y.2.1/\w.frozen? ⟨g,q.length*2+1,none⟩=false:=by
 obtain⟨j,d,e,_,_,_,c⟩:=dC (f:=fB) jC (l:=q++[y]) (by simp) h (i:=q.length) (by simp);injection e with e _ _;injection e with e;injection e with e;subst e;have a:=c 1 (by decide);refine⟨a.1.trans ?_,a.2⟩;simp[fB]
def Lr {w:World} {dp:Nat} {T:List aG} {X:List Nat} (h:cK w dp T X) (hV:aY T X) {v:Value} (l:List Nat) (hv:bG w v (aM l)) (hc:∀c∈l,c<1114112) (aP:dJ (ai T) l) (ar:l.length<8000) :
 Calls prog 9 #[.pointer (some ⟨dp,0,none⟩),v] w λe w'=>∃p,e=.returned (.pointer (some ⟨p,0,none⟩))/\dP w' w.heap.size p dp (ai T) l/\Below w.heap.size w w':=by
 obtain⟨n,hn⟩:=ae l.length;obtain⟨a,cap,rfl,c8,hx⟩:=bG.Hl hv hn;have HX:=aa hx;have HC:=aa hc;have HN:=aa hn;have CL:=aa (λ(W:World) (E:Below w.heap.size w W) c (hc:c<1114112)=>iM (h.mono E) hV c hc);have bd:∀c,ai T c<1000000:=λc=>by
  unfold ai;cases e:rowOf T c with
  | none=>decide
  | some r=>
    have:=(hV.fine r (gy e).1).2.1;show r.cls<1000000;omega
 obtain⟨K,hK⟩:=ae (ai T);rw[<-hK] at CL bd aP⊢;have cj:=aa bd;have cT:=aa aP;rw[<-hn] at ar;have cI:∀W,(Instr.makeSlice 82 (.int .i64 1) (.int .i64 1)).run prog W=.ok (.slice (some ⟨W.heap.size,0,none⟩) 1 1) (W.alloc (.cells #[.int .i32 0,.slice none 0 0,.slice none 0 0,.slice none 0 0,.int .i64 0,.int .i64 0] eX)):=λW=>by kernel_rfl
 obtain⟨w1,am⟩:=ae ((w.alloc (.cells #[.int .i32 0,.slice none 0 0,.slice none 0 0,.slice none 0 0,.int .i64 0,.int .i64 0] eX)).alloc (.cells #[.pointer (some ⟨dp,0,none⟩),.slice (some ⟨w.heap.size,0,none⟩) 1 1,.slice none 0 0,.bool false] 84));have cd:Below w.heap.size w w1:=by rw[am];exact dH _ _
 have cE:w1.heap.size=w.heap.size+2:=by rw[am];simp
 have br:Jb w1 w.heap.size (w.heap.size+1) (.pointer (some ⟨dp,0,none⟩)) (.slice (some ⟨w.heap.size,0,none⟩) 1 1) [] (0,.slice none 0 0,[]) w1.heap.size w1.heap.size:=by
  have i1:Is w1 (w.heap.size+1) #[.pointer (some ⟨dp,0,none⟩),.slice (some ⟨w.heap.size,0,none⟩) 1 1,.slice none 0 0,.bool false] 84:=by rw[am];exact Is.new' _ _ _ _ (by simp)
  have i0:Is w1 w.heap.size #[.int .i32 0,.slice none 0 0,.slice none 0 0,.slice none 0 0,.int .i64 0,.int .i64 0] eX:=by rw[am];exact(Is.new _ _ _).mono (ah _)
  exact⟨i1,⟨rfl,.inr ⟨w.heap.size,1,_,rfl,gw _,i0.at_,gw _,by decide,rfl,rfl⟩⟩,by simp,⟨iu _ _ _ _,by simp,by simp,gw _,gw _⟩,pj _⟩
 obtain⟨p,hp⟩:=ae (w.heap.size+1);obtain⟨B,hB⟩:=ae w.heap.size;rw[<-hp,<-hB] at br;have cP:=aa br;have HB:=aa hB;have a3:B<=p:=by omega
 clear h hV hv hc hx hn hK bd aP br;rw[<-hB] at cd cE;clear hB;go_enter func9,ntmps9;go_wp2_with fail;rw[<-am];rw[<-hp];clear am cI hp;go_loopw [7,8,9,10,11,20] (λ_ _ _ _ _ iv wr=>∃j:Nat,j<=n/\iv=.int .i64 j/\(∃rs Rs c F G,Jb wr B p (.pointer (some ⟨dp,0,none⟩)) rs Rs c F G/\B<=F/\(Rs++[c]).map cB.sp=bq K (l.take j)/\gD K l j c/\Rs.length<=j)/\Below B w wr) (λ_ _ _ _ _ iv _=>n-(intOf iv).toNat)
 case atStart=>exact⟨0,gW _,rfl,⟨_,_,_,_,_,cP.out,by omega,rfl,gD.nil _ _ _ _ _,gW _⟩,cd⟩
 case round=>
  obtain⟨j,hj,rfl,⟨rs,Rs,⟨hd,lv,Ls⟩,F,G,hT,b4,M,hL,b3⟩,hE⟩:=hrel;by_cases dm:j<n
  ·have zj:=eG (show j<n by omega);have Z:j<l.length:=by have:=HN.out;omega
   obtain⟨b,off,rfl,db,cg⟩:=HX.out j Z;have fT:Below w.heap.size w wr:=by rw[<-HB.out];exact hE
   have c0:=aB fT cg;clear cg;have bn:=HC.out _ (gx Z);have bh:=VA (K:=K) Z;obtain⟨x,Aq⟩:=ae (l[j]);have ZT:=aa Aq;rw[<-Aq] at c0 bn bh;have CK:=aa (CL.out wr fT x bn);obtain⟨t,aT⟩:=ae (K x);have b9:t<1000000:=by rw[aT];exact cj.out x
   rw[<-aT] at CK;have KP:=aa aT;have b2:=aa bh;have aV:=aa M;have HL:=aa hL;have SS:=aa hT;have aw:=fT.size;obtain⟨m,hm⟩:=ae Rs.length;have rC:=hT.runs;rw[<-hm] at rC;obtain⟨g,rc,A,aL,_,be,_⟩:=dC (f:=lV) aa1 (l:=Rs++[(hd,lv,Ls)]) (by rw[d',hm];rfl) rC (i:=0) (by simp);subst A;have HM:=aa hm;rw[<-hm] at b3;have bf:B<=wr.heap.size:=by have:=HB.out;omega
   clear Aq bn bh aT M hL hT rC hm fT aw;go_wp2_with fail;refine CK.out.mono ?_;rintro e w6⟨rfl,aR⟩;have ZU:=SS.out.ext aR;have ji:=hE.trans (aR.mono bf);have mF:B<=w6.heap.size:=gS bf aR.size;have i6:=ZU.is;have e1:=i6.at 1 rfl;clear c0 CK aR SS hE bf;by_cases ba:t=0
   ·subst ba;have z0:((0:Nat):Int)=0:=rfl;have cL:=aa ZU;have aE:=ZU.runs;rw[<-HM.out] at aE;clear ZU
    go_wp2_with (
     refine qf (W:=w6) rfl _ _ 82 rfl B eX _ 6 96 Zl (by decide) (by decide) (by decide) (by decide) (.slice (some ⟨g,0,none⟩) (m+1) rc) (m+1) _ rfl aE #[.int .i32 (x:Nat),.slice none 0 0,.slice none 0 0,.slice none 0 0,.int .i64 0,.int .i64 0] rfl rfl (by simp[Value.oneCell']) (by omega) w6 (gO _ _) mF ?_;intro dh w7 o7 b7 g7 _;obtain⟨dn,b6,rfl,_,_⟩:=ak o7;have bA:=cL.out.Zm (hd:=x) (by rw[<-HM.out];exact o7) g7;have i7:=(bJ.bQ aE g7).is i6 (by decide);have e7:=i7.at 1 rfl;have q7:=i7.frozen 1;have cW:=aa bA
     clear bA o7 g7 i7 aE e1 i6)
    go_wp2_with fail;go_roundw
    case rel=>
     refine⟨j+1,by omega,by simp,⟨_,Rs++[(hd,lv,Ls)],(x,.slice none 0 0,[]),_,_,by have:=cW.out;rw[<-HM.out] at *;exact this,by have:=b7.size;omega,?_,gD.nil _ _ _ _ _,by rw[d',<-HM.out];simp;omega⟩,aj (ji.trans b7) a3⟩;rw[b2.out,BV KP.out.symm,<-aV.out,js];rfl
    case measure=>simp[intOf];omega
   have z0:((t:Int)==0)=false:=by simp;omega
   have e8:IntKind.i64.wrap (((m+1:Nat):Int)-1)=(m:Int):=by rw[j8 _ (by omega)];omega
   go_upto_region 8 with fail;go_quiet (fail);obtain⟨wq,bc⟩:=ae (w6.drewN nq);have aD:Below w6.heap.size w6 wq:=by rw[bc];exact⟨rfl,rfl,rfl,gw _,λ_ _=>rfl⟩
   have ad:=ZU.ext aD;have bS:=ji.trans (aD.mono mF);have ZV:B<=wq.heap.size:=gS mF aD.size;rw[<-bc];clear bc ZU ji mF aD i6 e1;obtain⟨la,lc,Y,_,_⟩:=ak ad.cur.row;simp only at Y;subst Y;obtain⟨nl,a6⟩:=ae Ls.length;have Yn:=aa a6;have bx:=HL.out.len;simp only at bx;have rC:=ad.runs;rw[<-HM.out] at rC;obtain⟨g',b6,Ox,_,_,_,ao⟩:=dC (f:=lV) aa1 (l:=Rs++[(hd,Value.slice la Ls.length lc,Ls)]) (by rw[d',HM.out];rfl) rC (i:=m) (by rw[HM.out];simp);injection Ox with Ox _ akf;subst akf;injection Ox with Ox;injection Ox with Ox;subst Ox;have c1:wq.cell? ⟨g,m*6+1,none⟩=some (.slice la Ls.length lc):=by
    have:=(ao 1 (by decide)).1;rw[this];simp[HM.out,lV]
   have al:(Ls.map λx=>(x.1,x.2.1)).flatMap jT=Ls.flatMap fB:=by rw[sS];rfl
   have FD:=aa (Hd (w:=wq) (base:=F) (v:=.slice la Ls.length lc) (L:=Ls.map λx=>(x.1,x.2.1)) (by rw[ia,al];exact ad.cur.row) (λy P=>by
    obtain⟨z,hz,rfl⟩:=jx.1 P;exact Zk.own ((ad.cur.Ae).2 z hz).1) (zt.2 HL.out.rise) (λy P=>by
    obtain⟨z,hz,rfl⟩:=jx.1 P
    exact HL.out.small z hz) (by rw[ia];omega) t b9)
   rw[<-a6] at c1 FD bx;have bF:=aa ad;clear ao al rC ad a6;go_wp2_with fail;refine FD.out.mono ?_;rintro e w8⟨k,fb,rfl,au,iH⟩;have O:=bF.out.ext iH;have kL:=bS.trans (iH.mono ZV);have bg:B<=w8.heap.size:=gS ZV iH.size;have c1:=aB iH c1;have Lt:=HL.out.find cT.out Z (by rw[<-ZT.out,<-KP.out];exact ba) (by rw[<-ZT.out,<-KP.out];exact au);rw[<-ZT.out,<-KP.out] at Lt;simp only at Lt;rw[<-Yn.out] at Lt;have bl:=aa O;clear au iH FD bF bS ZV O;go_upto_if 61 with fail;go_cut [] from 62 to 73 (λwx=>(∃(D:Nat) (SX:Nat) (q:List d_) (va:Option Addr) (J vc:Nat) (I:List Nat) (F' G':Nat),Jb wx B p (.pointer (some ⟨dp,0,none⟩)) (.slice (some ⟨g,0,none⟩) (m+1) rc) Rs (hd,.slice (some ⟨D,0,none⟩) (k+1) SX,q++[(t,.slice va J vc,I)]) F' G'/\B<=F'/\k=q.length/\sQ t x (Ls.map d_.sp)=q.map d_.sp++[(t,I++[x])]/\(∀v',gD K l (j+1) (hd,.slice (some ⟨D,0,none⟩) (k+1) SX,q++[(t,v',I++[x])]))/\I.length<=j/\J=I.length)/\Below B w wx)
   case first=>
    rcases Lt with⟨rfl,hk,aX⟩|⟨rfl,q,y,hq,P,hk⟩
    ·have HK:=aa hk;have S_:=aa aX;clear hk aX;have kT:=ah (w:=w8) (.cells #[.int .i64 (t:Nat),.slice none 0 0] fu);have an:=bl.out.ext kT;have yf:Below B w (w8.alloc (.cells #[.int .i64 (t:Nat),.slice none 0 0] fu)):=kL.trans (kT.mono bg);have al:(Ls.map λx=>(x.1,x.2.1)).flatMap jT=Ls.flatMap fB:=by rw[sS];rfl
     have aq:=BQ (w:=w8.alloc (.cells #[.int .i64 (t:Nat),.slice none 0 0] fu)) (base:=F) (v:=.slice la Ls.length lc) (L:=Ls.map λx=>(x.1,x.2.1)) (by rw[ia,al];exact an.cur.row) (gS an.cur.fg an.cur.gs) (by rw[ia,<-Yn.out];omega) (t,.slice none 0 0) rfl (Is.new w8 _ fu);rw[ia,jj,al] at aq;have Wi:=aq;rw[<-Yn.out] at Wi;have cU:=aa Wi;have ap:=aa an;have H2:=aa (show(Value.slice la Ls.length lc).ownBlock=(Value.slice la nl lc).ownBlock from by cases la with|none=>rfl|some a=>cases a;rfl);clear aq Wi an al;have cq:=aa (show k=nl from HK.out);go_wp2_with fail;have cn:=cq.out;subst cn;refine cU.out.mono ?_;rintro e zL⟨Sa,rfl,bX,Wj,_⟩;have a0:zL.ownsRow F fu 2 Sa (k+1) (Ls.flatMap fB++fB (t,Value.slice none 0 0,[])):=bX;obtain⟨D,SX,a1,_,_,_,_⟩:=dC (f:=fB) jC (l:=Ls++[(t,Value.slice none 0 0,[])]) (by rw[d',<-Yn.out]) (by rw[jj];exact a0) (i:=0) (by simp);subst a1;have ZW:(w8.alloc (.cells #[.int .i64 (t:Nat),.slice none 0 0] fu)).grownBy zL (Value.slice la Ls.length lc).ownBlock:=by rw[H2.out];exact Wj
     have a4:=ap.out.Vy (n:=t) (by rw[<-Yn.out];exact a0) ZW
     have Ko:Below B w zL:=yf.grown ZW (by have:=bg;simp;omega) (λi hi=>by
      have:=(ap.out.cur.row.lt i hi).1
      omega)
     obtain⟨r1,r2⟩:=Lp ((bJ.bQ ap.out.cur.row ZW).own ap.out.runs (by decide));rw[<-HM.out] at r1 r2 a4;simp only at r1;have cG:=aa a4;clear bX a0 Wj ZW a4 c1;go_wp2_with fail;go_meet;refine⟨⟨D,SX,Ls,none,0,0,[],_,_,cG.out,b4,Yn.out,abj (λy P=>?_),λv'=>?_,gW _,rfl⟩,aj Ko be⟩
     ·have co:y∈Ls.map d_.sp:=List.mem_of_getLast? P;obtain⟨z,hz,rfl⟩:=jx.1 co;exact xi (S_.out z hz)
     have h9:=HL.out.new Z (by rw[<-ZT.out,<-KP.out];exact b9) (λy P=>by rw[<-ZT.out,<-KP.out];exact S_.out y P) (.slice (some ⟨D,0,none⟩) (k+1) SX) v' x;rw[<-ZT.out,<-KP.out] at h9;exact h9
    have O:=bl.out;subst hq;have s:=O.cur.last y (by simp only;rw[l4]);obtain⟨va,vc,bj,_,_⟩:=ak s;obtain⟨D,SX,a1,_,_,_,_⟩:=dC (f:=fB) jC (l:=q++[y]) rfl O.cur.row (i:=0) (by simp);injection a1 with bC _ c6;have cu:nl=k+1:=by rw[Yn.out,hk];simp
    have cc:y.2.2.length<=j:=HL.out.marks y (by simp)
    have qY:=aa (show ∃(D:Nat) (SX:Nat) (q2:List d_) (va:Option Addr) (J vc:Nat) (I:List Nat) (F' G':Nat),Jb w8 B p (.pointer (some ⟨dp,0,none⟩)) (.slice (some ⟨g,0,none⟩) (m+1) rc) Rs (hd,.slice (some ⟨D,0,none⟩) (k+1) SX,q2++[(t,.slice va J vc,I)]) F' G'/\B<=F'/\k=q2.length/\sQ t x ((q++[y]).map d_.sp)=q2.map d_.sp++[(t,I++[x])]/\(∀v',gD K l (j+1) (hd,.slice (some ⟨D,0,none⟩) (k+1) SX,q2++[(t,v',I++[x])]))/\I.length<=j/\J=I.length from by
     have cA:y=(t,.slice va y.2.2.length vc,y.2.2):=by
      obtain⟨y1,y2,y3⟩:=y;simp only at P bj;rw[P,bj]
     have bz:(q++[y]).length=k+1:=by rw[hk];simp
     refine⟨D,lc,q,va,y.2.2.length,vc,y.2.2,F,G,?_,b4,hk,?_,λv'=>?_,cc,rfl⟩
     ·have h9:=O;rw[bC,bz] at h9;rw[<-cA];exact h9
     ·rw[js];have:List.map d_.sp [y]=[(y.1,y.2.2)]:=rfl;rw[this,yh P,P]
     have h9:=(HL.out).more (v:=.slice la (q++[y]).length lc) Z (by rw[<-ZT.out,<-KP.out];exact P) v' x;rw[P] at h9
     exact⟨h9.rise,h9.small,h9.last,h9.len,h9.marks⟩)
    clear O s bj bC c6 cu cc hk P;go_wp2_with fail;go_meet;obtain⟨cr,aO,q',c7,cl,cx,cs,F',G',t1,t2,t3,t4,t5,t6,t7⟩:=qY.out;exact⟨⟨cr,aO,q',c7,cl,cx,cs,F',G',t1,t2,t3,t4,t5,t6,t7⟩,kL⟩
   case rest=>
    clear Lt bl c1 kL bg;obtain⟨⟨D,aO,q,va,J,vc,I,F2,G2,a5,a8,bi,aW,s,dg,b5⟩,Ql⟩:=hcut;obtain⟨FT,cH⟩:=ae wc;subst cH;have ac:=a5.ext (ag FT);have rC:=ac.runs;obtain⟨r1,_⟩:=Lp rC;rw[<-HM.out] at r1;have o:=ac.cur.row;simp only[d',hU,ki] at o;obtain⟨s1,_⟩:=yF o;rw[<-bi] at s1;have dl:k<=j:=by
     have:=(s (.slice none 0 0)).len;simp at this;omega
    have bL:B<=G2:=gS a8 ac.cur.fg;have cy:B<=D:=gS a8 ((o.lt D rfl).1);have da:=vG.keeps (S:=λi=>i=g\/i=D) r1 (.inl rfl);have c9:=vG.keeps (S:=λi=>i=g\/i=D) s1 (.inr rfl);have cN:B<=FT.heap.size:=gS bL a5.cur.gs;have bM:=ac.cur.last (t,.slice va J vc,I) (by simp only;rw[l4]);have de:g<FT.heap.size/\D<FT.heap.size:=⟨(rC.lt g rfl).2,(o.lt D rfl).2⟩;have cD:=aa aW;have ct:=aa s;have b8:=aa bi;have UQ:=aa b5;have b_:=aa ac;have cV:=aa bM;have Za:Below B w FT.drew:=Ql.drew;clear a5 ac rC o aW s bi b5 r1 s1 bM Ql;go_wp2_with fail;refine dF (KR.blocks λi=>i=g\/i=D) #[true,true,true,true,true,true,true,true,true,true,true,true,true,true,true,true,true,true,false] 18 1 mixed ?_;refine bZ [0,1,2,3,4,5,6,7,8,9,10,11,12,13] 4 ?_
    iterate 14 (refine aA rfl ?_;go_big_quiet_step (rfl))
    refine az ?_;have NP:=ah (w:=FT.drew) (.cells #[.int .i32 (x:Nat)] aN);have Ta:=b_.out.ext NP;have Ig:Below B w (FT.drew.alloc (.cells #[.int .i32 (x:Nat)] aN)):=Za.trans (NP.mono cN);refine bN 14 ?_;go_wp2_with fail;refine bK (KR.of_below NP NP.size (λi hi=>by rcases hi with rfl|rfl <;> (show _<FT.heap.size;omega))) ?_;have Oy:=aH cV.out NP;rw[show(t,Value.slice va J vc,I).2.2.length=J from UQ.out.symm] at Oy;refine bN 15 ?_;refine ng (W:=FT.drew.alloc (.cells #[.int .i32 (x:Nat)] aN)) rfl _ _ 35 rfl G2 aN (.int .i32 0) 4 bW (by decide) (v:=.slice va J vc) rfl Oy (gS b_.out.cur.gs NP.size) [.int .i32 (x:Nat)] (by simp[Value.oneCell']) ⟨FT.drew.heap.size,0,none⟩ 1 1 rfl rfl (λi u hi=>?_) (by have:=UQ.out;omega) ?_
    ·rcases i with _|i
     ·cases hi;exact(Is.new FT.drew _ aN).at 0 rfl
     cases hi
    intro dj Ck aZ Wl cJ;obtain⟨ZX,ZY,cX,_,_⟩:=ak aZ;subst cX;have a7:=Ta.Zn (gl:=D) (m:=x) (v':=.slice ZX (J+1) ZY) (by rw[d',a_,<-UQ.out];exact aZ) Wl;rw[<-b8.out] at a7;have a2:=bJ.bQ Oy Wl;obtain⟨_,cQ⟩:=yF (by have:=a2.own Ta.cur.row (by decide);simp only[d',hU,ki] at this;exact this);obtain⟨cp,_⟩:=yF (by have:=a2.own Ta.cur.row (by decide);simp only[d',hU,ki] at this;exact this);rw[<-b8.out] at cp cQ;have ZZ:Below B w Ck:=Ig.grown Wl (by simp;omega) (λi hi=>gS bL (Oy.lt i hi).1);have bB:(.slice va J vc:Value).ownBlock≠some g/\(.slice va J vc:Value).ownBlock≠some D:=⟨λe=>absurd ((bV Oy e).one (bV Ta.runs (k:=g) rfl)) (by decide),λe=>absurd ((bV Oy e).one (bV Ta.cur.row (k:=D) rfl)) (by decide)⟩;have ch:=aa a7;have bw:=aa bB;clear a7 Ta aZ cJ a2 bB Oy;go_wp2_with fail;refine bK (KR.bQ (w:=FT.drew.alloc (.cells #[.int .i32 (x:Nat)] aN)) Wl Wl.size (λi hi=>?_)) ?_
    ·rcases hi with rfl|rfl
     ·exact⟨by simp;omega,bw.out.1⟩
     exact⟨by simp;omega,bw.out.2⟩
    refine bZ [16,17] 0 ?_
    iterate 2 (refine aA rfl ?_;go_big_quiet_step (rfl))
    refine az ?_;refine eU [18] ?_;refine tail_cons rfl ?_;go_wp2_with fail;refine tail_nil ?_;go_wp2_with fail;go_roundw
    case rel=>
     refine⟨j+1,by omega,by simp,⟨_,Rs,(hd,.slice (some ⟨D,0,none⟩) (k+1) aO,q++[(t,.slice ZX (J+1) ZY,I++[x])]),F2,G2,ch.out,a8,?_,ct.out _,by rw[<-HM.out];omega⟩,aj ZZ cy⟩;rw[b2.out,<-aV.out];simp only[js];have e9:List.map cB.sp [(hd,Value.slice la Ls.length lc,Ls)]=[(hd,Ls.map d_.sp)]:=rfl;rw[e9,yj (by rw[<-KP.out];exact ba),<-KP.out,cD.out];have cm:List.map cB.sp [(hd,Value.slice (some ⟨D,0,none⟩) (k+1) aO,q++[(t,Value.slice ZX (J+1) ZY,I++[x])])]=[(hd,(q++[(t,Value.slice ZX (J+1) ZY,I++[x])]).map d_.sp)]:=rfl;rw[cm,js];rfl
    case measure=>simp[intOf];omega
  obtain rfl:j=n:=by omega
  have zj:decide ((j:Int)<(j:Int))=false:=by simp
  have bH:l.take j=l:=ie (by rw[HN.out];exact gw _);rw[bH] at M;have H:=hT.made;have sV:Cj (Rs++[(hd,lv,Ls)]):=Cj.of (k:=l.length) (by rw[M];exact fD K l) (by rw[<-HN.out];omega);obtain⟨R,hR⟩:=ae (Rs++[(hd,lv,Ls)]);rw[<-hR] at H sV M;have aV:=aa M;obtain⟨nr,ab⟩:=ae R.length;have dd:0<nr:=by rw[ab,hR];simp
  have dk:nr<10000:=by rw[ab];exact sV.1
  obtain⟨N,bt⟩:=ae wr.heap.size;rw[<-bt] at H;obtain⟨g,rc,A,aL,_,be,-⟩:=dC (f:=lV) aa1 rfl H.runs (i:=0) (by omega);rw[<-ab] at A;subst A;have cS:(R.length:Nat)=nr:=ab.symm;have i1:=H.is;have e1:wr.cell? ⟨p,1,none⟩=some (.slice (some ⟨g,0,none⟩) nr rc):=i1.at 1 rfl;have Rt:=aa H;have HF:=aa sV;have Yq:=aa ab;have nR:=aa bt;clear H sV ab cS bt aL hT hL M bH hR b3 i1;go_wp2_with fail;go_loopw [13,98] (λ_ iv wq=>∃i:Nat,i<=nr/\iv=.int .i64 i/\(∃iT,D8 wq B N p (.pointer (some ⟨dp,0,none⟩)) (.slice (some ⟨g,0,none⟩) nr rc) iT false R/\bT wq (.agg #[iT]) (gF (R.take i)))/\Below B w wq) (λ_ iv _=>nr-(intOf iv).toNat)
  case atStart=>exact⟨0,gW _,rfl,⟨_,Rt.out,_,rfl,by rw[show gF (R.take 0)=0 from rfl,di];exact .nil _ _ _ _ (λ_=>rfl)⟩,hE⟩
  case round=>
   obtain⟨i,hi,rfl,⟨iT,H,hZ⟩,bs⟩:=hrel;by_cases aP:i<nr
   ·have zi:=eG (show i<nr by omega);have aK:i<R.length:=by have:=Yq.out;omega
    obtain⟨g',b6,A,_,_,_,hc⟩:=dC (f:=lV) aa1 rfl H.runs aK;injection A with A rW aL;clear rW;subst aL;injection A with A;injection A with A;subst A;have o:=H.Ae _ (gx aK);have sV:=HF.out.2 _ (gx aK);have aw:=yC aK;obtain⟨r,hr⟩:=ae (R[i]);rw[<-hr] at hc o sV aw;obtain⟨hd,lv,Ls⟩:=r;obtain⟨la,lc,Y,_,_⟩:=ak o.1.1;simp only at Y;obtain⟨ln,ar⟩:=ae Ls.length;rw[<-ar] at Y;subst Y;have c0:wr.cell? ⟨g,i*6,none⟩=some (.int .i32 hd):=(hc 0 (by decide)).1;have c1:wr.cell? ⟨g,i*6+1,none⟩=some (.slice la ln lc):=(hc 1 (by decide)).1;have c2:wr.cell? ⟨g,i*6+2,none⟩=some (.slice none 0 0):=(hc 2 (by decide)).1;have c3:wr.cell? ⟨g,i*6+3,none⟩=some (.slice none 0 0):=(hc 3 (by decide)).1;have c4:wr.cell? ⟨g,i*6+4,none⟩=some (.int .i64 0):=(hc 4 (by decide)).1;have c5:wr.cell? ⟨g,i*6+5,none⟩=some (.int .i64 0):=(hc 5 (by decide)).1;have C:=ah (w:=wr) (.cells #[.int .i32 hd,.slice la ln lc,.slice none 0 0,.slice none 0 0,.int .i64 0,.int .i64 0] eX);obtain⟨w2,aS⟩:=ae (wr.alloc (.cells #[.int .i32 hd,.slice la ln lc,.slice none 0 0,.slice none 0 0,.int .i64 0,.int .i64 0] eX));rw[<-aS] at C;have k2:=Is.nw aS;have bo:=H.ext C;have cb:=hZ.mono C;have i2:=bo.is;have g2:=i2.gd 2 rfl;have f0:=k2.gd 0 rfl;have f1:=k2.gd 1 rfl;have f2:=k2.gd 2 rfl;have f3:=k2.gd 3 rfl;have f4:=k2.gd 4 rfl;have f5:=k2.gd 5 rfl;have ZV:B<=wr.heap.size:=by have:=H.low;have:=H.hi;omega
    have lH:=bs.trans (C.mono ZV);have BS:=aa (λ(W:World) (E:Below w2.heap.size w2 W)=>B_ (w:=W) (F:=N) (hd:=hd) (la:=la) (ln:=ln) (lc:=lc) (Ls:=Ls) ((o.keep (.of_below (C.mono H.hi.2) C.size) (.of_below (C.mono H.hi.2) C.size)).keep (.of_below (E.mono (gS H.hi.2 C.size)) E.size) (.of_below (E.mono (gS H.hi.2 C.size)) E.size)) sV.1 sV.2 none none 0 0 0 0 0 0);have Re:=aa aw;have D9:=aa bo;have cF:=aa cb;have bR:=aa sV;have BA:=aa ar;have ce:B<=w2.heap.size:=gS ZV C.size;clear hc o sV aw hr H hZ bo cb ar i2 C bs ZV;go_upto_region 17 with fail;rw[<-aS];clear aS c0 c1 c2 c3 c4 c5 k2;refine aC #[true,true,true,true,true,true,true,true,true,true,true,false] 11 1 mixed ?_;refine ay [0,1,2,3,4,5] 5 ?_
    iterate 6 (refine aA rfl ?_;go_big_quiet_step (rfl))
    refine az ?_;refine aI 6 ?_;go_wp2_with fail;have bu:Below w2.heap.size w2 w2.drew:=ag w2;refine(BS.out _ bu).mono ?_;rintro e w3⟨bv,rfl,b0,U⟩;go_wp2_with fail;refine aF U ?_;have ji:=lH.drew.trans (U.mono ce);refine aI 7 ?_;go_wp2_with fail;have V:=uS (r:=(hd,.slice la ln lc,Ls)) bR.out.2;have b1:=BZ Ls;have dc:Ls.length<10000:=bR.out.1;have ha:bG w3 bv (bO ((gT Ls).map λb:Nat=>(b:Int))):=by
     rw[<-b1,<-show(ds (gT Ls)).length=(gT Ls).length by simp[ds]] at b0;rw[Hy];exact(Sl.aU b0).any
    have cY:∀d∈(gT Ls).map λb:Nat=>(b:Int),d<9223372036854775808:=λd hd=>by
     obtain⟨b,hb,rfl⟩:=jx.1 hd;have h1:=V b hb;unfold Go.Cd.B at h1;omega
    have bI:∀k,k<=(gT Ls).length->(bY Go.Cd.B (dU ((gT Ls).take k))).length<274877906944:=λk hk=>by
     have h1:=Ci V k hk;have h2:k<=Ls.length:=by rw[<-b1];exact hk
     exact lf h1 (by omega)
    have PR:=Ou (w:=w3) (v:=bv) (l:=(gT Ls).map λb:Nat=>(b:Int)) ha (by rw[ia];omega) cY (λk hk=>by rw[Lg];rw[ia] at hk;exact bI k hk);rw[Lg] at PR;refine PR.mono ?_;rintro e w4⟨pv,rfl,cC,ax⟩;go_wp2_with fail;refine aF ax ?_;have aQ:Below w2.heap.size w2 w3:=af bu U;have Q:Below w2.heap.size w2 w4:=af aQ ax;refine aI 8 ?_;go_wp2_with fail;have bb:(bY Go.Cd.B (gF (R.take i))).length<549755813888:=by
     have:=Ib HF.out (j:=i) (by have:=Yq.out;omega);omega
    have a9:(bY Go.Cd.B (dU (gT Ls))).length<549755813888:=by
     have:=bI _ (gw _);rw[kO] at this;omega
    have AD:=Oo (cF.out.mono Q) cC bb a9;refine AD.mono ?_;rintro e w5⟨av,rfl,bp,ca⟩;go_wp2_with fail;refine aF ca ?_;have bU:Below w2.heap.size w2 w5:=af Q ca;refine ay [9,10] 0 ?_
    iterate 2 (refine aA rfl ?_;go_big_quiet_step (rfl))
    refine az ?_;have Yr:=D9.out.ext bU;obtain⟨sa,sn,sc,rfl,bp⟩:=bp.out;have i5:=Yr.is;have e5:=i5.at 2 rfl;have c_:=i5.frozen 2;refine aJ [11] ?_;refine tail_cons rfl ?_;go_wp2_with fail;refine tail_nil ?_;go_wp2_with fail;go_roundw
    case rel=>
     refine⟨i+1,by omega,by simp,⟨_,Yr.put 2 _ rfl,?_⟩,aj (lH.trans (bU.mono ce)) a3⟩;rw[Re.out];exact bp.put i5.at_ (by decide)
    case measure=>simp[intOf];omega
   have zi:=gI (show nr<=i by omega);obtain rfl:i=nr:=by omega
   have ht:R.take i=R:=ie (by rw[Yq.out];exact gw _);rw[ht] at hZ;have i2:=H.is;have g2:=i2.gd 2 rfl;have cM:=aa H;have HZ:=aa hZ;have ap:=aa ht;have ZV:B<=wr.heap.size:=by have:=H.low;have:=H.hi;omega
   clear H hZ ht i2 e1;go_wp2_with fail;refine aC #[true,true,true,true,true,true,true,true,true,true,false] 10 1 mixed ?_;refine ay [0,1,2,3,4] 5 ?_
   iterate 5 (refine aA rfl ?_;go_big_quiet_step (rfl))
   refine az ?_;refine aI 5 ?_;go_wp2_with fail;refine(uf 16384 (by decide) wr.drew).mono ?_;rintro e w3⟨mv,rfl,cv,U⟩;go_wp2_with fail;refine aF U ?_;have aQ:Below wr.heap.size wr w3:=(ag wr).trans (U.mono (ag wr).size);refine aI 6 ?_;go_wp2_with fail;have bb:(bY Go.Cd.B (gF R)).length<1099511627776:=by
    have:=Ib HF.out (j:=R.length) (gw _);rw[kO] at this;omega
   have a9:(bY Go.Cd.B 16384).length<1099511627776:=by
    have:(bY Go.Cd.B 16384).length<=1:=by rw[cZ bE];unfold Go.Cd.B;decide
    omega
   have zc:decide (sK (gF R) 16384<=0)=decide (gF R<=16384):=by
    unfold sK;by_cases h1:gF R<16384
    ·rw[if_pos h1,decide_eq_true (by omega),decide_eq_true (by omega)]
    rw[if_neg h1];by_cases h2:16384<gF R
    ·rw[if_pos h2,decide_eq_false (by omega),decide_eq_false (by omega)]
    rw[if_neg h2,decide_eq_true (by omega),decide_eq_true (by omega)]
   obtain⟨sm,V⟩:=ae (decide (gF R<=16384));obtain⟨cz,bk⟩:=ae (sK (gF R) 16384);have CO:=pK (HZ.out.mono aQ) cv bb a9;rw[<-V,<-bk] at zc;rw[<-bk] at CO;have bD:=aa V;clear V bk;refine CO.mono ?_;rintro e w4⟨rfl,ax⟩;go_wp2_with fail;refine aF ax ?_;have Q:Below wr.heap.size wr w4:=af aQ ax;refine ay [7,8,9] 0 ?_
   iterate 3 (refine aA rfl ?_;go_big_quiet_step (rfl))
   refine az ?_;have Y9:=cM.out.ext Q;have bP:=HZ.out.mono Q;have i4:=Y9.is;have dq:=i4.at 3 rfl;have df:=i4.frozen 3;have Yr:=Y9.put 3 (.bool sm) (acT:=iT) (Ov:=sm) rfl;have cf:bT (w4.setCell ⟨p,3,none⟩ (.bool sm)) (.agg #[iT]) (gF R):=bP.put i4.at_ (by decide);have jP:Below B w (w4.setCell ⟨p,3,none⟩ (.bool sm)):=aj (bs.trans (Q.mono ZV)) a3;have cw:=aa (Lm Yr HF.out (λh=>by rw[bD.out] at h;exact of_decide_eq_true h) be);have cO:=aa cf;have ck:=aa jP;clear Y9 bP i4 Yr cf jP;refine aJ [10] ?_;refine tail_cons rfl ?_;go_wp2_with fail;refine tail_nil ?_;go_wp2_with fail;refine cw.out.mono ?_;rintro e w6⟨rfl,Es,bm,cR,mF,ci⟩;go_wp2_with fail;go_ret;refine⟨p,rfl,?_,?_⟩
   ·rw[<-HB.out];exact⟨N,_,iT,Es,by rw[bm];exact aV.out,by rw[bm,<-bD.out];exact cR,by rw[bm];exact bT.iQ cO.out ci (by decide)⟩
   have:=ck.out.trans mF;rw[HB.out] at this;exact this
end Go.Proofs.YtmnimbnojdndmaaGreatDoor
namespace Go.Proofs.YtmnimbnojdndmaaGreatDoor
open Go.RowKit Go.Cd
def dP.mono {w w':World} {B p b:Nat} {K:Nat->Nat} {l:List Nat} (h:dP w B p b K l) (a:Below w.heap.size w w'):dP w' B p b K l:=by
 obtain⟨N,c,f,d,e,i,g⟩:=h;exact⟨N,c,f,d,e,i.ext a,g.mono a⟩
def kM (r:bS):List Nat:=r.2.map λx=>x.2.length+1
def xD (r:bS):Nat:=dU (kM r)
def dO (rs:List bS):Nat:=(rs.map xD).sum
def Qt (r:cB):gT r.2.2=kM (cB.sp r):=by
 unfold gT kM cB.sp;rw[mB];rfl
def Ih (Rs:List cB):gF Rs=dO (Rs.map cB.sp):=by
 unfold gF dO;rw[mB];congr 1;refine mw λr _=>?_;unfold V8;rw[Qt];rfl
structure Wm (w:World) (p dp:Nat) (rs:List bS) (g rc:Nat) (iT:Value) (small:Bool) (Es:List qx):Prop where
 sp:Es.map (λe=>cB.sp e.1)=rs
 is:Is w p #[.pointer (some ⟨dp,0,none⟩),.slice (some ⟨g,0,none⟩) rs.length rc,iT,.bool small] 84
 run:∀k (hk:k<Es.length),∀j<6,w.cell? ⟨g,k*6+j,none⟩=(nC Es[k])[j]?
 sl:∀e∈Es,∃la lc,e.1.2.1=.slice la e.1.2.2.length lc
 lane:∀e∈Es,∀k (hk:k<e.1.2.2.length),∃lg c,e.1.2.1=.slice (some ⟨lg,0,none⟩) e.1.2.2.length c/\w.cell? ⟨lg,k*2,none⟩=some (.int .i64 (e.1.2.2[k].1:Nat))/\w.cell? ⟨lg,k*2+1,none⟩=some e.1.2.2[k].2.1
 marks:∀e∈Es,∀x∈e.1.2.2,bG w x.2.1 (aM x.2.2)
 size:bT w (.agg #[iT]) (dO rs)
 le:small=decide (dO rs<=16384)
 shp:∀e∈Es,FQ e.2.1.1/\FQ e.2.1.2.1
 ZQ:small=true->∀k (hk:k<Es.length),gB w (Wh Es[k]) (kM (cB.sp Es[k].1))/\Es[k].2.2=(dO (rs.take k):Nat)
def dP.read {w:World} {B p C:Nat} {K:Nat->Nat} {l:List Nat} (h:dP w B p C K l):∃g s v b d,Wm w p C (bq K l) g s v b d:=by
 obtain⟨N,I,v,d,z,a,G⟩:=h;have c:d.map (λe=>cB.sp e.1)=bq K l:=by rw[<-z,mB];rfl
 have t:0<d.length:=by
  rw[<-ia (f:=λe=>cB.sp e.1),c];exact jz.2 (fD K l).1
 have m:gF (d.map (·.1))=dO (bq K l):=by rw[Ih,z]
 obtain⟨g,s,r,_,_,_,_⟩:=dC (f:=nC) yD rfl a.runs t;subst r;have o:d.length=(bq K l).length:=by rw[<-c,ia]
 refine⟨g,s,v,_,d,c,by rw[<-o];exact a.is,λk i j E=>(a.cells i j E).1,λe q=>?_,λe q k i=>?_,λe q x H=>?_,by rw[<-m];exact G,by rw[m],a.shp,λD k i=>?_⟩
 ·obtain⟨la,lc,y,_,_⟩:=ak (a.Ae e q).1.1;exact⟨la,lc,y⟩
 ·obtain⟨F,u,y,_,_,_,A⟩:=dC (f:=fB) jC rfl (a.Ae e q).1.1 i;refine⟨F,u,y,(A 0 (by decide)).1,(A 1 (by decide)).1⟩
 ·have n:=((a.Ae e q).2 x H).1;rw[show x.2.2.length=(aM x.2.2).length by simp[aM]] at n;exact(Sl.aU n).any
 have n:=a.ZQ k i (by rw[if_pos D];exact i);refine⟨?_,?_⟩
 ·rw[<-Qt];exact n.1.weak
 rw[n.2,Ih,List.map_take,z]
end Go.Proofs.YtmnimbnojdndmaaGreatDoor
namespace Go.Proofs.YtmnimbnojdndmaaGreatDoor
open Go.RowKit Go.Cd _root_.Go.Proofs.Tryz
def oG {w:World} {B p s:Nat} {K:Nat->Nat} {l:List Nat} (h:dP w B p s K l) :
 Calls prog 13 #[.pointer (some ⟨p,0,none⟩)] w λe w'=>∃v,e=.returned v/\bT w' v (dO (bq K l))/\Below w.heap.size w w':=by
 obtain⟨g,t,x,n,y,k⟩:=h.read;have i:=k.size;obtain⟨c,b,d,a,m⟩:=i.out;injection a with a;injection a with a;injection a with a _;subst a;have r:=ah (w:=w) (.cells #[.slice none 0 0] 44);have q:=k.is.mono r;have:=q.at 2 rfl;have o:=Is.new w #[.slice none 0 0] 44;have:=o.at 0 rfl;have:=o.frozen 0;have j:=aa (i.mono (ah (w:=w) (.cells #[.slice c b d] 44)));have f:=ah (w:=w) (.cells #[.slice c b d] 44);have s0:=(Is.new w #[.slice c b d] 44).at 0 rfl;clear h k i m q o;go_enter func13,ntmps13;go_wp2;exact bodyPost_ret (v:=.agg #[.slice c b d]) (by simp[results,results13,go_sem,s0]) rfl ⟨_,rfl,j.out,f⟩
def Qu (w:World) (v:Value) (h:Int) (ms:List Int):Prop:=∃a,v=.agg #[.int .i64 h,a]/\Sl bB w a (bO ms)
def Qu.mono {w w':World} {v:Value} {h:Int} {ms:List Int} (k:Qu w v h ms) (a:Below w.heap.size w w'):Qu w' v h ms:=by
 obtain⟨b,d,c⟩:=k;exact⟨b,d,c.mono a⟩
def Z6 {w:World} {B p T:Nat} {K:Nat->Nat} {l:List Nat} (h:dP w B p T K l) (W:l.length<9000) {k:Nat} (D:k<(bq K l).length) :
 Calls prog 61 #[.pointer (some ⟨p,0,none⟩),.int .i64 k] w λe w'=>∃v,e=.returned v/\Qu w' v k (List.replicate (bq K l)[k].2.length 0)/\Below w.heap.size w w':=by
 obtain⟨g,J,X,y,C,c⟩:=h.read;have E:k<C.length:=by rw[<-ia (f:=λe=>cB.sp e.1),c.sp];exact D
 have d:cB.sp C[k].1=(bq K l)[k]:=by simp[<-c.sp]
 obtain⟨la,lc,A⟩:=c.sl _ (gx E);obtain⟨n,u⟩:=ae (C[k].1.2.2.length);have i:(bq K l)[k].2.length=n:=by rw[<-d,u];simp[cB.sp]
 have U:n<10000:=by
  have:=((fD K l).2.2 _ (gx D)).1;omega
 rw[<-u] at A;have H:w.cell? ⟨g,k*6+1,none⟩=some (.slice la n lc):=by rw[c.run k E 1 (by decide),<-A];rfl
 obtain⟨P,j⟩:=ae (w.alloc (.cells #[.int .i64 0,.slice none 0 0] 54));have x:=ah (w:=w) (.cells #[.int .i64 0,.slice none 0 0] 54);rw[<-j] at x;have F:=(c.is.mono x).at 1 rfl;obtain⟨Q,b⟩:=ae ((bq K l).length);have Y:P.cell? ⟨p,1,none⟩=some (.slice (some ⟨g,0,none⟩) Q J):=by rw[b];exact F
 rw[i];rw[<-b] at D;have S:=aB x H;clear h c A u b d i F H;go_enter func61,ntmps61;subst j
 go_wp2_with (
  at_make
  refine gm _ rfl _ _ 23 rfl (w.heap.size+1) bB _ 8 jI rfl .i64 .i64 _ _ n rfl rfl (by omega) (by omega) (by omega) (by unfold maxLen;omega) (by simp) ?_;intro V G m;have a:=fO m;have q:=(Is.new w #[.int .i64 0,.slice none 0 0] 54).mono a;have R:=q.at 0 rfl;have M:=q.frozen 0;have o:=q.set 0 (.int .i64 k);have L:=o.at 1 rfl;have O:=o.frozen 1;have z:=o.set 1 (.slice (some ⟨w.heap.size+1,0,none⟩) n n);have t:=z.at 0 rfl;have r:=z.at 1 rfl;have N:=aa G;have I:=aa a
  clear G m a q o z)
 have s:=bn (bn N.out (k:=w.heap.size) (by simp[Value.ownBlock]) 0 (.int .i64 k)) (k:=w.heap.size) (by simp[Value.ownBlock]) 1 (.slice (some ⟨w.heap.size+1,0,none⟩) n n);rw[show List.replicate n (Value.int IntKind.i64 0)=bO (List.replicate n 0) by simp[bO]] at s;rw[show n=(bO (List.replicate n 0)).length by simp[bO]] at s;refine bodyPost_ret (v:=.agg #[.int .i64 k,.slice (some ⟨w.heap.size+1,0,none⟩) n n]) (by simp[results,results61,go_sem,t,r]) rfl ⟨_,rfl,⟨_,rfl,?_⟩,aj (aj (ah (w:=w) _ |>.trans (I.out.mono (by simp))) (gw _)) (gw _)⟩;have:=Sl.aU s;simpa [bO] using this
def Oz (w:World) (lv:Value) (L:List (Nat×List Nat)):Prop:=
 ∃la lc,lv=.slice la L.length lc/\∀k (d:k<L.length),∃a b c,la=some ⟨a,0,none⟩/\w.cell? ⟨a,k*2,none⟩=some (.int .i64 (L[k].1:Nat))/\
  w.cell? ⟨a,k*2+1,none⟩=some (.slice b L[k].2.length c)/\bG w (.slice b L[k].2.length c) (aM L[k].2)
def Oz.mono {w w':World} {c:Value} {L:List (Nat×List Nat)} (h:Oz w c L) (b:Below w.heap.size w w'):Oz w' c L:=by
 obtain⟨la,lc,n,i⟩:=h;refine⟨la,lc,n,λk a=>?_⟩;obtain⟨e,d,j,f,m,l,g⟩:=i k a;exact⟨e,d,j,f,aB b m,aB b l,g.mono b⟩
def af9 (w:World) (v:Value) (S:bS):Prop:=∃a e h g b c d z f,v=.agg #[.int .i32 S.1,a,.slice e h g,.slice b c d,.int .i64 z,.int .i64 f]/\Oz w a S.2
def gV (ms:List Int) (L:List (Nat×List Nat)):Bool:=(ms.zip L).all λx=>!decide (x.1<(x.2.2.length:Nat))
def Cm {w:World} {v u:Value} {S:bS} {B:Int} {ms:List Int} (h:af9 w v S) (hs:Qu w u B ms) (A:ms.length=S.2.length) (k:S.2.length<10000) (s:∀x∈S.2,x.2.length<10000) :
 Calls prog 70 #[v,u] w λe w'=>e=.returned (.bool (gV ms S.2))/\Below w.heap.size w w':=by
 obtain⟨lv,W,U,Y,Q,N,T,z,f,rfl,la,lc,rfl,hk⟩:=h;obtain⟨sv,rfl,o⟩:=hs;obtain⟨O,X,rfl,_,hx⟩:=bG.out o.any;rw[show(bO ms).length=ms.length by simp[bO],A];obtain⟨n,E⟩:=ae S.2.length;rw[<-E] at A k⊢;obtain⟨q,c⟩:=ae ((w.alloc (.cells #[.int .i32 S.1,.slice la n lc,.slice W U Y,.slice Q N T,.int .i64 z,.int .i64 f] eX)).alloc (.cells #[.int .i64 B,.slice O n X] 54));have l:Below w.heap.size w q:=by rw[c];exact dH _ _
 have J:Is q w.heap.size #[.int .i32 S.1,.slice la n lc,.slice W U Y,.slice Q N T,.int .i64 z,.int .i64 f] eX:=by rw[c];exact(Is.new _ _ _).mono (ah _)
 have K:Is q (w.heap.size+1) #[.int .i64 B,.slice O n X] 54:=by rw[c];exact Is.new' _ _ _ _ (by simp)
 have R:=J.at 1 rfl;have e2:=K.at 1 rfl;have HX:=aa hx;have HK:=aa hk;have Z:=aa E;have M:=aa A;have HM:=aa s;have rW:n<10000:=k;clear hx hk E A s k o J K;go_enter func70,ntmps70;go_wp2_with fail;rw[<-c];clear c;go_loopw [5,6,10] (λ_ _ G wr=>∃i:Nat,i<=n/\G=.int .i64 i/\(((ms.zip S.2).take i).all λx=>!decide (x.1<(x.2.2.length:Nat)))=true/\Below q.heap.size q wr) (λ_ _ G _=>n-(intOf G).toNat)
 case atStart=>exact⟨0,gW _,rfl,rfl,gO _ _⟩
 case round=>
  obtain⟨i,hi,rfl,a,g⟩:=hrel;by_cases ab:i<n
  ·have zi:=eG (show i<n by omega);have M8:i<S.2.length:=by have:=Z.out;omega
   have t:i<ms.length:=by have:=M.out;omega
   obtain⟨b,off,rfl,_,y⟩:=HX.out i (by simpa [bO] using t);obtain⟨lg,va,vc,rfl,_,D,_⟩:=HK.out i M8;rw[show(bO ms)[i]'(by simpa [bO] using t)=.int .i64 ms[i] by simp[bO]] at y;obtain⟨I,F⟩:=ae (ms[i]);obtain⟨H,d⟩:=ae (S.2[i].2.length);rw[<-F] at y;rw[<-d] at D;have y:=aB g (aB l y);have D:=aB g (aB l D);have R:=aB g R;have e2:=aB g e2;have p:i<(ms.zip S.2).length:=by rw[List.length_zip];omega
   have m:(ms.zip S.2)[i]=(ms[i],S.2[i]):=List.getElem_zip;have r:=aa m;have C:=aa a;have V:=aa F;have P:=aa d;clear m a F d;by_cases j:I<(H:Int)
   ·have zl:decide (I<(H:Int))=true:=decide_eq_true j;go_wp2_with fail;go_ret;refine⟨?_,l.trans (g.mono l.size)⟩;have:gV ms S.2=false:=by
     unfold gV;rw[List.all_eq_false];refine⟨_,gx p,?_⟩;rw[r.out];simp only[<-V.out,<-P.out];simp[j]
    rw[this];rfl
   have zl:decide (I<(H:Int))=false:=decide_eq_false j;go_wp2_with fail;go_roundw
   case rel=>
    refine⟨i+1,by omega,by simp,?_,g⟩;rw[gE p,List.all_append,C.out,r.out];simp only[<-V.out,<-P.out,List.all_cons,List.all_nil,zl];rfl
   case measure=>simp[intOf];omega
  have zi:=gI (show n<=i by omega);obtain rfl:i=n:=by omega
  have L:(ms.zip S.2).take i=ms.zip S.2:=ie (by rw[List.length_zip,M.out,<-Z.out];omega);rw[L] at a;have C:=aa a;clear a L;go_wp2_with fail;go_ret;refine⟨?_,l.trans (g.mono l.size)⟩;have:gV ms S.2=true:=C.out;rw[this];rfl
end Go.Proofs.YtmnimbnojdndmaaGreatDoor
namespace Go.Proofs.YtmnimbnojdndmaaGreatDoor
open Go.RowKit Go.Cd
def Cn:List Nat->Nat->List Nat
 | [],_=>[]
 | _::bs,i=>i / aW bs::Cn bs (i % aW bs)
@[simp] theorem uT:∀(bs:List Nat) (i:Nat),(Cn bs i).length=bs.length
  | [],_=>rfl
  | _::bs,i=>by simp[Cn,uT bs]
def FV:∀(bs:List Nat) (j:Nat),aW (bs.drop j) ∣ aW bs
 | [],j=>by simp
 | b::bs,0=>Nat.dvd_refl _
 | b::bs,j+1=>Nat.dvd_trans (FV bs j) ⟨b,by simp[aW,mS]⟩
def Ay:∀(bs:List Nat) (i j:Nat) (h:j<bs.length),(∀b∈bs,1<=b)->i<aW bs->(Cn bs i)[j]'(by simpa using h)=i / aW (bs.drop (j+1)) % bs[j]
 | b::bs,i,0,h,hp,hi=>by
   have d:i / aW bs<b:=tM (by rw[mS];exact hi);simp[Cn,rI d]
 | b::bs,i,j+1,h,hp,hi=>by
   have a:∀b∈bs,1<=b:=λc l=>hp c (kj _ l);have e:j<bs.length:=by simpa using h
   have g:=jD a;have k:=Ay bs (i % aW bs) j e a (mx _ g);simp only[Cn,xm,ye];rw[k,<-AI,<-AI,Nat.mod_mod_of_dvd];have f:=FV bs j;rw[lY e] at f;rw[mS];exact f
def ac3 {bs:List Nat} {i j:Nat} (h:j<bs.length) (a:∀b∈bs,1<=b) (c:i<aW bs):(Cn bs i)[j]'(by simpa using h)<bs[j]:=by
 rw[Ay bs i j h a c];exact mx _ (a _ (gx _))
def Wn (bs:List Nat) (n:Nat) (e:∀b∈bs,1<=b) (g:n<aW bs) (f:List Int) (c:f=(Cn bs n).map (λd:Nat=>(d:Int))):∀j,j<=bs.length->gU bs f j=n / aW (bs.drop j):=by
 intro j
 induction j with
 | zero=>intro _;simp[gU,pN g]
 | succ j ih=>
   intro k;have a:j<bs.length:=by omega
   have:=jD (bs:=bs.drop (j+1)) (λb i=>e b (lz i));have:=e _ (gx a);subst c;simp only[gU,ih (by omega),gA a,oy,nE,gA (show j<(Cn bs n).length by simpa using a),xp];rw[Ay bs n j a e g,lY a,oT];rw[mS bs[j],<-my,mS];exact xB _ _
end Go.Proofs.YtmnimbnojdndmaaGreatDoor
namespace Go.Proofs.YtmnimbnojdndmaaGreatDoor
open Go.RowKit Go.Cd _root_.Go.Proofs.Tryz
def aga {w:World} {v:Value} {bs:List Nat} (h:gB w v bs) (a:∀b∈bs,1<=b) (c:aW bs<=1073741824) (i:Int) :
 Calls prog 92 #[v,.int .i64 i] w λe w'=>e=.returned (.bool (decide (0<=i/\i<(aW bs:Nat))))/\Below w.heap.size w w':=by
 have l:=h;obtain⟨f,g,d,k,rfl,_⟩:=h.out;have j:=ah (w:=w) (.cells #[.slice f bs.length g,.slice d bs.length k,.int .i64 (aW bs:Nat)] dh);have o:qj (w.alloc (.cells #[.slice f bs.length g,.slice d bs.length k,.int .i64 (aW bs:Nat)] dh)) w.heap.size (.slice f bs.length g) (.slice d bs.length k) (.int .i64 (aW bs:Nat)) dh:=⟨heap_alloc_new' _ _ _ rfl⟩;obtain⟨q,r,s⟩:=o.cell;have m:=aa (H6 (l.mono j) a c);clear h l a;by_cases h0:0<=i
 ·go_enter func92,ntmps92;go_wp2_with fail;refine m.out.mono ?_;rintro e p⟨rfl,n⟩;go_wp2;go_ret;exact⟨by simp[h0],af j n⟩
 go_enter func92,ntmps92;go_wp2;go_ret;exact⟨by simp;omega,j⟩
def Wo {w:World} {v:Value} {bs:List Nat} (h:gB w v bs) (a:∀b∈bs,1<=b) (f:aW bs<=1073741824) {i j:Nat} (y:i<aW bs) (d:j<bs.length) :
 Calls prog 93 #[v,.int .i64 i,.int .i64 j] w λe w'=>e=.returned (.int .i64 ((Cn bs i)[j]'(by simpa using d):Nat))/\Below w.heap.size w w':=by
 have z:=aa (Ay bs i j d a y);obtain⟨L,s,F,t,rfl,_,C,A,k,g⟩:=h.out;obtain⟨o,l,rfl,r,u⟩:=k j d;obtain⟨m,n,rfl,q,x⟩:=g j d;have c:=ah (w:=w) (.cells #[.slice (some ⟨o,l,none⟩) bs.length s,.slice (some ⟨m,n,none⟩) bs.length t,.int .i64 (aW bs:Nat)] dh);have E:qj (w.alloc (.cells #[.slice (some ⟨o,l,none⟩) bs.length s,.slice (some ⟨m,n,none⟩) bs.length t,.int .i64 (aW bs:Nat)] dh)) w.heap.size (.slice (some ⟨o,l,none⟩) bs.length s) (.slice (some ⟨m,n,none⟩) bs.length t) (.int .i64 (aW bs:Nat)) dh:=⟨heap_alloc_new' _ _ _ rfl⟩;obtain⟨K,J,G⟩:=E.cell;have u:=(c.cell (p:=⟨o,l+j,none⟩) r).trans u;have x:=(c.cell (p:=⟨m,n+j,none⟩) q).trans x;have:=jD (bs:=bs.drop (j+1)) (λb c=>a b (lz c));have:=a _ (gx d);have:i<1073741824:=by omega
 clear h k g a f y;generalize (Cn bs i)[j]'(by simpa using d)=D at *;generalize bs[j]=b at *;generalize aW (bs.drop (j+1))=Q at *;generalize aW bs=P at *;go_enter func93,ntmps93;go_wp2_with fail;go_quiet (fail);go_wp2;go_ret;have B:wrap64 ((i:Int) / (Q:Int))=((i / Q:Nat):Int):=by
  rw[<-Ai];have:=tW i Q;exact wr1 (by omega)
 refine⟨?_,⟨c.os,c.tape,c.output,c.size,c.block⟩⟩;show Ending.returned (.int .i64 ((wrap64 ((i:Int) / (Q:Int))).tmod (b:Int)))=_;rw[B,z.out,A0]
end Go.Proofs.YtmnimbnojdndmaaGreatDoor
namespace Go.Proofs.YtmnimbnojdndmaaGreatDoor
open Go.RowKit Go.Cd
abbrev eZ:=Nat×List Nat
def nz (l:List Nat):List Int:=l.map λd:Nat=>(d:Int)
@[simp] theorem jF (l:List Nat):(nz l).length=l.length:=by simp[nz]
def Z8 (l:List Nat):bO (nz l)=ds l:=by simp[bO,nz,ds]
def aL (R:List bS) (h:Nat):bS:=R.getD h (0,[])
def df {R:List bS} {h:Nat} (a:h<R.length):aL R h=R[h]:=by unfold aL;rw[ic,gA a];rfl
structure eQ (R:List bS) (s:eZ):Prop where
 lt:s.1<R.length
 len:s.2.length=(aL R s.1).2.length
 le:∀i (a:i<s.2.length) (b:i<(aL R s.1).2.length),s.2[i]<=((aL R s.1).2[i]).2.length
def Co (R:List bS) (s:eZ):Bool:=decide (s.1+1=R.length)&&gV (nz s.2) (aL R s.1).2
def ed (n c:Nat) (ms:List Nat) (L:List (Nat×List Nat)) (i:Nat):Bool:=
 decide ((L.getD i (0,[])).1=n)&&decide (ms.getD i 0<(L.getD i (0,[])).2.length)&&decide ((L.getD i (0,[])).2.getD (ms.getD i 0) 0=c)
def iy (K:Nat->Nat) (R:List bS) (s:eZ) (c:Nat):Option eZ:=
 if K c=0 then (if gV (nz s.2) (aL R s.1).2=true/\s.1+1<R.length/\(aL R (s.1+1)).1=c then some (s.1+1,List.replicate (aL R (s.1+1)).2.length 0) else none)
 else ((List.range (aL R s.1).2.length).find? (ed (K c) c s.2 (aL R s.1).2)).map λi=>(s.1,s.2.set i (s.2.getD i 0+1))
def aa5 {K:Nat->Nat} {R:List bS} {s k:eZ} {c:Nat} (h:eQ R s) (e:iy K R s c=some k):eQ R k:=by
 unfold iy at e
 split at e
 ·split at e
  ·rename_i n;cases e;refine⟨n.2.1,by simp,λi a b=>?_⟩;simp
  cases e
 rw[Option.map_eq_some_iff] at e;obtain⟨i,l,rfl⟩:=e;have f:i<(aL R s.1).2.length:=by simpa using mu l
 have d:=ue l;unfold ed at d;simp only[jn,decide_eq_true_eq] at d;have m:(aL R s.1).2.getD i (0,[])=(aL R s.1).2[i]:=by rw[ic,gA f];rfl
 rw[m] at d;refine⟨h.lt,by simpa using h.len,λj a b=>?_⟩;simp only[List.getElem_set]
 split
 ·rename_i g;subst g;exact d.1.2
 exact h.le j (by simpa using a) b
def fw (K:Nat->Nat) (F:Nat->List Nat) (R:List bS) (s:eZ) (c:Nat):Option eZ:=(F c).foldlM (iy K R) s
def Lu {α β:Type} {P:α->Prop} {f:α->β->Option α} (hf:∀a b c,P a->f a b=some c->P c):∀(l:List β) (a c:α),P a->l.foldlM f a=some c->P c
 | [],a,c,h,e=>by
   have:a=c:=by simpa using e
   exact this▸h
 | b::l,a,c,h,e=>by
   rw[oE] at e;cases d:f a b with
   | none=>rw[d] at e;cases e
   | some a2=>
     rw[d] at e;exact Lu hf l a2 c (hf a b a2 h d) e
def Cq {K:Nat->Nat} {F:Nat->List Nat} {R:List bS} {s a:eZ} {c:Nat} (h:eQ R s) (e:fw K F R s c=some a):eQ R a:=
 Lu (λ_ _ _ h e=>aa5 h e) (F c) s a h e
def lZ (ms:List Nat) (L:List (Nat×List Nat)) (i:Nat):List Nat:=
 if ms.getD i 0<(L.getD i (0,[])).2.length then [(L.getD i (0,[])).2.getD (ms.getD i 0) 0] else []
def au (ms:List Nat) (L:List (Nat×List Nat)) (n:Nat):List Nat:=(List.range n).flatMap (lZ ms L)
def ko (R:List bS) (s:eZ):List Nat:=
 if au s.2 (aL R s.1).2 (aL R s.1).2.length=[] then (if s.1+1<R.length then [(aL R (s.1+1)).1] else []) else au s.2 (aL R s.1).2 (aL R s.1).2.length
def zS (ms:List Nat) (L:List (Nat×List Nat)) (n:Nat):au ms L (n+1)=au ms L n++lZ ms L n:=by
 unfold au;rw[tf,jj];simp
def uU (ms:List Nat) (L:List (Nat×List Nat)) (n:Nat):(au ms L n).length<=n:=by
 induction n with
 | zero=>simp[au]
 | succ n ih=>
   rw[zS,d'];have:(lZ ms L n).length<=1:=by unfold lZ;split <;> simp
   omega
def Cr (R:List bS) (s:eZ):(ko R s).length<=(aL R s.1).2.length+1:=by
 unfold ko
 split
 ·split <;> simp
 have:=uU s.2 (aL R s.1).2 (aL R s.1).2.length;omega
def pO (K:Nat->Nat) (F Bg:Nat->List Nat) (R:List bS) (s:eZ):List Nat:=(ko R s).flatMap λx=>(Bg x).filter λc=>(fw K F R s c).isSome
def fK (R:List bS) (s:eZ):Nat:=dO (R.take s.1)+gU (kM (aL R s.1)) (nz s.2) (kM (aL R s.1)).length
def eO (r:bS):(kM r).length=r.2.length:=by simp[kM]
def Ii {r:bS} {i:Nat} (a:i<r.2.length):(kM r)[i]'(by rw[eO];exact a)=r.2[i].2.length+1:=by simp[kM]
def pQ (r:bS):∀b∈kM r,1<=b:=by
 intro b a;obtain⟨x,_,rfl⟩:=jx.1 a;exact Nat.le_add_left _ _
def uV (r:bS):xD r=aW (kM r):=(Li _).symm
def wZ (r:bS) (R:List bS):dO (r::R)=xD r+dO R:=by simp[dO]
def aae {R:List bS} {k:Nat} (a:k<R.length):dO (R.take (k+1))=dO (R.take k)+xD R[k]:=by
 unfold dO;rw[gE a,js,sg];simp
def gG (R:List bS) (k:Nat):dO (R.take k)<=dO R:=by
 conv=>rhs;rw[<-ke k R]
 unfold dO;rw[js,sg];omega
def Qv (r:bS):1<=xD r:=by rw[uV];exact jD (pQ r)
def eQ.vld {R:List bS} {s:eZ} (h:eQ R s):wX (kM (aL R s.1)) (nz s.2)=true:=by
 rw[oF];refine⟨by rw[jF,eO];exact h.len,λj b a=>?_⟩;rw[jF] at b;rw[eO] at a;have:=h.le j b a;rw[Ii a];simp only[nz,nf];omega
def Az {R:List bS} {s:eZ} (h:eQ R s):gU (kM (aL R s.1)) (nz s.2) (kM (aL R s.1)).length<xD (aL R s.1):=by
 have a:=(oF _ _).1 h.vld;have:=Hz (bs:=kM (aL R s.1)) (l:=nz s.2) (kM (aL R s.1)).length (gw _) (zf a.1.symm) (λt c b _=>a.2 t c b);rw[qT] at this;rw[uV];simp only[aW,qK] at this;exact this
def nD {R:List bS} {s:eZ} (h:eQ R s):fK R s<dO R:=by
 have:=Az h;have a:=aae h.lt;have:=gG R (s.1+1);rw[<-df h.lt] at a;unfold fK;omega
def sW:List bS->Nat->eZ
 | [],_=>(0,[])
 | r::R,i=>if i<xD r then (0,Cn (kM r) i) else ((sW R (i-xD r)).1+1,(sW R (i-xD r)).2)
def Wp:∀{R:List bS} {i k:Nat} (a:k<R.length),dO (R.take k)<=i->i-dO (R.take k)<xD R[k]->sW R i=(k,Cn (kM R[k]) (i-dO (R.take k)))
 | [],_,_,a,_,_=>absurd a (by simp)
 | r::R,i,0,_,_,h2=>by
   simp only[List.take_zero,tz] at h2⊢;have:dO []=0:=rfl;rw[this] at h2⊢;rw[Nat.sub_zero] at h2⊢;show(if i<xD r then _ else _)=_;rw[if_pos h2]
 | r::R,i,k+1,a,h1,h2=>by
   simp only[List.take_succ_cons,xm,wZ] at h1 h2⊢;have b:¬i<xD r:=by omega
   show(if i<xD r then _ else _)=_;rw[if_neg b];rw[Wp (R:=R) (i:=i-xD r) (k:=k) (by simpa using a) (by omega) (by rw[show i-xD r-dO (R.take k)=i-(xD r+dO (R.take k)) by omega];exact h2)];rw[show i-xD r-dO (R.take k)=i-(xD r+dO (R.take k)) by omega]
def uW:∀{R:List bS} {i:Nat},i<dO R->eQ R (sW R i)
 | [],i,h=>absurd h (by simp[dO])
 | r::R,i,h=>by
   rw[wZ] at h;unfold sW;by_cases c:i<xD r
   ·rw[if_pos c];rw[uV] at c;refine⟨by simp,?_,λj a b=>?_⟩
    ·show(Cn (kM r) i).length=r.2.length;rw[uT,eO]
    have f:j<r.2.length:=b;have:=ac3 (bs:=kM r) (i:=i) (j:=j) (by rw[eO];exact f) (pQ r) c;rw[Ii f] at this;exact Nat.le_of_lt_succ this
   rw[if_neg c];have d:=uW (R:=R) (i:=i-xD r) (by omega);have e:aL (r::R) ((sW R (i-xD r)).1+1)=aL R (sW R (i-xD r)).1:=rfl;refine⟨by simpa using d.lt,?_,λj a b=>?_⟩
   ·rw[e];exact d.len
   have:=d.le j a (by rw[e] at b;exact b);exact this
def jk (R:List bS) (opt:eZ->List Nat) (nS:eZ->Nat->Option eZ) (l:List Nat) (i:Nat):Nat:=
 if Co R (sW R i)=true then 1 else ((opt (sW R i)).map λc=>(match nS (sW R i) c with|some s=>l.getD (fK R s) 0|none=>0)).sum
def jl (R:List bS) (opt:eZ->List Nat) (nS:eZ->Nat->Option eZ) (n:Nat):Nat->List Nat
 | 0=>List.replicate n 0
 | j+1=>(jl R opt nS n j).set (n-1-j) (jk R opt nS (jl R opt nS n j) (n-1-j))
def FW (R:List bS) (opt:eZ->List Nat) (nS:eZ->Nat->Option eZ) (n j:Nat):(jl R opt nS n j).length=n:=by
 induction j with
 | zero=>simp[jl]
 | succ j ih=>rw[jl,mN,ih]
def Ij {α:Type} (f:α->Nat) (b:Nat):∀(l:List α),(∀x∈l,f x<=b)->(l.map f).sum<=l.length*b
 | [],_=>by simp
 | x::l,h=>by
   have:=Ij f b l λy a=>h y (.tail _ a);have:=h x (.head _);rw[kt,pd,hU,Nat.succ_mul];omega
def one_le_pow {M:Nat} (h:1<=M) (j:Nat):1<=M ^ j:=th h
def Lv {R:List bS} {opt:eZ->List Nat} {nS:eZ->Nat->Option eZ} {l:List Nat} {i M P:Nat} (d:1<=M) (b:1<=P) (g:(opt (sW R i)).length<=M) (e:∀x∈l,x<=P):jk R opt nS l i<=M*P:=by
 have f:1<=M*P:=Nat.mul_pos d b;unfold jk
 split
 ·exact f
 refine gS (Ij _ P _ λc _=>?_) (nh P g)
 split
 ·rename_i s _;rw[ic];by_cases a:fK R s<l.length
  ·rw[gA a];exact e _ (gx a)
  rw[pD (by omega)];exact gW _
 exact gW _
def Lx {R:List bS} {opt:eZ->List Nat} {nS:eZ->Nat->Option eZ} {M:Nat} (a:1<=M) (b:∀i,i<dO R->(opt (sW R i)).length<=M):∀j,j<=dO R->∀x∈jl R opt nS (dO R) j,x<=M ^ j
 | 0,_,x,hx=>by
   rw[jl] at hx;rw[wm hx];exact gW _
 | j+1,hj,x,hx=>by
   have c:=Lx (nS:=nS) a b j (by omega);rw[jl] at hx;rcases rh hx with h|rfl
   ·exact gS (c x h) (kf a (pj j))
   have:=Lv (R:=R) (opt:=opt) (nS:=nS) (i:=dO R-1-j) a (one_le_pow a j) (b _ (by omega)) c
   rwa [me,mS]
end Go.Proofs.YtmnimbnojdndmaaGreatDoor
