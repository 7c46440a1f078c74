/- One machine of an NFD counts as its units do, multiplied; no condition. -/
import Derived.Test.YtmnimbnojdndmaaGreatDoorR16
set_option maxRecDepth 100000
set_option maxHeartbeats 6400000
set_option linter.all false
namespace Go.Proofs.YtmnimbnojdndmaaGreatDoor
open Go.RowKit Go.Cd _root_.Go.Proofs.Tryz
def ZR (Rs:List cB) (j:Nat):gF (Rs.take j)<=gF Rs:=by
 have:gF Rs=gF (Rs.take j)+gF (Rs.drop j):=by unfold gF;rw[<-List.sum_append,<-List.map_append,List.take_append_drop]
 omega
def Ll (Ls:List d_):∀b∈gT Ls,1<=b:=λb a=>by
 obtain⟨x,_,rfl⟩:=List.mem_map.1 a;omega
def bJ.trans {a b c:World} {t:TypeId} (h:bJ a b t) (k:bJ b c t):bJ a c t:=
 ⟨Nat.le_trans h.size k.size,λi d f=>by
   have e:=h.keep i d f;refine(k.keep i (Nat.lt_of_lt_of_le d h.size) ?_).trans e;rintro⟨j,g⟩
   exact f ⟨j,e▸g⟩⟩
def bJ.of_below {a b:World} (t:TypeId) (h:Below a.heap.size a b):bJ a b t:=⟨h.size,λi c _=>h.block i c⟩
def bT.iQ {w w':World} {t:TypeId} {v:Value} {x:Nat} (h:bT w v x) (o:bJ w w' t) (e:nI≠t):bT w' v x:=by
 obtain⟨s,k,a,cap,m,d,g⟩:=h;refine⟨s,k,a,cap,m,d,g.imp id ?_⟩;rintro⟨b,off,n,l,j,f,g⟩;refine⟨b,off,n,l,j,(o.keep b (block_lt f) ?_).trans f,g⟩;rintro⟨i,c⟩;rw[f] at c;injection c with c;injection c with _ c _;exact e c
def Lm {w:World} {B N p g q rc:Nat} {dv iT:Value} {a:Bool} {Rs:List cB} (h:D8 w B N p dv (.slice (some ⟨g,0,none⟩) q rc) iT a Rs) (hf:Cj Rs) (hs:a=true->gF Rs<=16384) (z:B<=g) :
 Calls prog 44 #[.pointer (some ⟨p,0,none⟩)] w λe w'=>e=.returned (.tuple #[])/\∃Es,Es.map (·.1)=Rs/\kg w' B N p dv (.slice (some ⟨g,0,none⟩) q rc) iT a Es (if a=true then Es.length else 0)/\Below B w w'/\bJ w w' eX:=by
 have i1:=h.is;have e1:=i1.at 1 rfl;have e3:=i1.at 3 rfl;have T:q=Rs.length:=by
  obtain⟨_,_,e,_⟩:=ak h.runs;injection e with _ e _
 have HM:=aa (kg.of h);have Yq:=aa T;have aM:q<10000:=by rw[T];exact hf.1
 have HF:=aa hf;have aq:B<=w.heap.size:=by have:=h.low;have:=h.hi;omega
 clear h hf T i1;go_enter func44,ntmps44;cases a with
 | false=>
   go_wp2_with fail;exact bodyPost_ret (results_none rfl _ _ _) rfl ⟨rfl,_,by rw[List.map_map];exact List.map_id _,HM.out,Below.refl _ _,.of_below _ (Below.refl _ _)⟩
 | true=>
   have HS:=aa (hs rfl);clear hs;go_wp2_with fail;go_loopw [2,3,4,15] (λfv _ _ iv wr=>∃i:Nat,i<=q/\iv=.int .i64 i/\fv=.int .i64 (gF (Rs.take i):Nat)/\(∃A:List qx,A.map (·.1)=Rs.take i/\kg wr B N p dv (.slice (some ⟨g,0,none⟩) q rc) iT true (A++(Rs.drop i).map Ic) i)/\Below B w wr/\bJ w wr eX) (λ_ _ _ iv _=>q-(intOf iv).toNat)
   case atStart=>exact⟨0,Nat.zero_le _,rfl,rfl,⟨[],rfl,HM.out⟩,Below.refl _ _,.of_below _ (Below.refl _ _)⟩
   case round=>
    obtain⟨i,hi,rfl,rfl,⟨A,V,E⟩,hE,hC⟩:=hrel;have DZ:A.length=i:=by
     have:=congrArg List.length V;rw[List.length_map,List.length_take,<-Yq.out] at this;omega
    by_cases aF:i<q
    ·have zi:=eG (show i<q by omega);have C:i<Rs.length:=by have:=Yq.out;omega
     have I:Rs.drop i=Rs[i]::Rs.drop (i+1):=List.drop_eq_getElem_cons C;have O:Rs.take (i+1)=Rs.take i++[Rs[i]]:=List.take_succ_eq_append_getElem C;have X:=HF.out.2 _ (List.getElem_mem C);have j:=yC C;have ag:=Nat.le_trans (ZR Rs (i+1)) HS.out;obtain⟨r,hr⟩:=ae (Rs[i]);rw[<-hr] at I O X j;rw[I,List.map_cons] at E;have Q:=E.yE DZ;have L:wM wr N r:=E.Ae (Ic r) (by simp);obtain⟨hd,lv,Ls⟩:=r;obtain⟨la,lc,M,_,_⟩:=ak L.1.1;simp only at M;obtain⟨ln,S⟩:=ae Ls.length;rw[<-S] at M;subst M;have c0:wr.cell? ⟨g,i*6,none⟩=some (.int .i32 hd):=(Q 0 (by decide)).1;have c1:wr.cell? ⟨g,i*6+1,none⟩=some (.slice la ln lc):=(Q 1 (by decide)).1;have c2:wr.cell? ⟨g,i*6+2,none⟩=some (.slice none 0 0):=(Q 2 (by decide)).1;have c3:wr.cell? ⟨g,i*6+3,none⟩=some (.slice none 0 0):=(Q 3 (by decide)).1;have c4:wr.cell? ⟨g,i*6+4,none⟩=some (.int .i64 0):=(Q 4 (by decide)).1;have c5:wr.cell? ⟨g,i*6+5,none⟩=some (.int .i64 0):=(Q 5 (by decide)).1;have Vh:wr.cell? ⟨p,1,none⟩=some (.slice (some ⟨g,0,none⟩) q rc):=E.is.at 1 rfl;have au:=aa (B_ (w:=wr) (F:=N) (hd:=hd) (la:=la) (ln:=ln) (lc:=lc) (Ls:=Ls) L X.1 X.2 none none 0 0 0 0 0 0);have KO:=aa E;have ab:=aa X;have Re:=aa j;have BA:=aa S;have ao:=aa O;have HA:=aa V;have s:=aa DZ;clear Q L X j hr E S I O V DZ e1 e3;go_wp2_with fail;refine au.out.mono ?_;rintro e w3⟨bv,rfl,t,am⟩;go_wp2_with fail;have ai:=BZ Ls;have aI:ln<10000:=by rw[BA.out];exact ab.out.1
     rw[<-BA.out] at ai t;have an:=uS (r:=(hd,.slice la ln lc,Ls)) ab.out.2;have ha:bG w3 bv (ds (gT Ls)):=by
      rw[<-ai,<-show(ds (gT Ls)).length=(gT Ls).length by simp[ds]] at t;exact(Sl.aU t).any
     have NW:=ZF ha (by omega) (Ll Ls) (λb hb=>by have:=an b hb;unfold Go.Cd.B at this;omega);refine NW.mono ?_;rintro e w4⟨rv,e0,rfl,Y,ac⟩;have ar:V8 (hd,.slice la ln lc,Ls)=aW (gT Ls):=(Li _).symm;have j:=Re.out;rw[ar] at j;rw[j] at ag;have ap:e0=0/\jE w4 rv (gT Ls):=by
      rcases ac with⟨_,h2,h3⟩|⟨h1,_⟩
      ·exact⟨h2,h3⟩
      omega
     obtain⟨rfl,v⟩:=ap;obtain⟨s1,s2,rfl,Z,al⟩:=id v;obtain⟨c,f,rfl,_,_⟩:=Z.out;obtain⟨n,m,rfl,_,_⟩:=al.out;have y:Below wr.heap.size wr w4:=af am Y;have aw:B<=wr.heap.size:=by have:=KO.out.low;have:=KO.out.hi;omega
     have lN:=hE.trans (y.mono aw);have Y9:=KO.out.ext y;obtain⟨P,hP⟩:=ae (aW (gT Ls));obtain⟨F,hF⟩:=ae (gF (Rs.take i));obtain⟨d,J⟩:=ae ((ds (gT Ls)).length);obtain⟨l,U⟩:=ae ((ds (weights (gT Ls))).length);rw[<-hP,<-J,<-U] at v;rw[<-hP,<-hF] at j ag;rw[<-hP,<-J,<-U,<-hF];have k4:=Y9.yE s.out;have Yr:=Y9.Ie s.out ((hd,.slice la ln lc,Ls),(.slice c d f,.slice none 0 0,0),0) 2 (.slice c d f) (by decide) rfl rfl ⟨FQ.mk,FQ.mk⟩ (o:=i*6+2) rfl;have k5:=Yr.yE s.out;have D:=Yr.Ie s.out ((hd,.slice la ln lc,Ls),(.slice c d f,.slice n l m,0),0) 3 (.slice n l m) (by decide) rfl rfl ⟨FQ.mk,FQ.mk⟩ (o:=i*6+2+1) rfl;have k6:=D.yE s.out;have x:=D.Ie s.out ((hd,.slice la ln lc,Ls),(.slice c d f,.slice n l m,P),0) 4 (.int .i64 P) (by decide) rfl rfl ⟨FQ.mk,FQ.mk⟩ (o:=i*6+2+2) rfl;have k7:=x.yE s.out;have R:=x.Ie s.out ((hd,.slice la ln lc,Ls),(.slice c d f,.slice n l m,P),F) 5 (.int .i64 F) (by decide) rfl rfl ⟨FQ.mk,FQ.mk⟩ (o:=i*6+5) rfl;have k8:=R.yE s.out;have t1:=bJ.put (o:=i*6+2) (⟨(bV Y9.runs (k:=g) rfl).choose_spec⟩:Is w4 g _ eX) (.slice c d f);have t2:=bJ.put (o:=i*6+2+1) (⟨(bV Yr.runs (k:=g) rfl).choose_spec⟩:Is _ g _ eX) (.slice n l m);have t3:=bJ.put (o:=i*6+2+2) (⟨(bV D.runs (k:=g) rfl).choose_spec⟩:Is _ g _ eX) (.int .i64 P);have t4:=bJ.put (o:=i*6+5) (⟨(bV x.runs (k:=g) rfl).choose_spec⟩:Is _ g _ eX) (.int .i64 F);have av:=aa (hC.trans ((bJ.of_below eX y).trans (t1.trans (t2.trans (t3.trans t4)))));have H:=(((v.iQ t1 (by decide)).iQ t2 (by decide)).iQ t3 (by decide)).iQ t4 (by decide);clear t1 t2 t3 t4 hC;have ah:=R.af0 s.out H (by rw[HA.out,hF]);have kL:Below B w _:=aj (aj (aj (aj lN (b:=g) (off:=i*6+2) (u:=.slice c d f) z) (b:=g) (off:=i*6+2+1) (u:=.slice n l m) z) (b:=g) (off:=i*6+2+2) (u:=.int .i64 P) z) (b:=g) (off:=i*6+5) (u:=.int .i64 F) z;have aH:w4.cell? ⟨g,i*6+2,none⟩=some (.slice none 0 0):=(k4 2 (by decide)).1;have aK:w4.frozen? ⟨g,i*6+2,none⟩=false:=(k4 2 (by decide)).2;have aL:(w4.setCell ⟨g,i*6+2,none⟩ (.slice c d f)).cell? ⟨g,i*6+2+1,none⟩=some (.slice none 0 0):=(k5 3 (by decide)).1;have aB:(w4.setCell ⟨g,i*6+2,none⟩ (.slice c d f)).frozen? ⟨g,i*6+2+1,none⟩=false:=(k5 3 (by decide)).2;have aE:((w4.setCell ⟨g,i*6+2,none⟩ (.slice c d f)).setCell ⟨g,i*6+2+1,none⟩ (.slice n l m)).cell? ⟨g,i*6+2+2,none⟩=some (.int .i64 0):=(k6 4 (by decide)).1;have aG:((w4.setCell ⟨g,i*6+2,none⟩ (.slice c d f)).setCell ⟨g,i*6+2+1,none⟩ (.slice n l m)).frozen? ⟨g,i*6+2+2,none⟩=false:=(k6 4 (by decide)).2;have aA:(((w4.setCell ⟨g,i*6+2,none⟩ (.slice c d f)).setCell ⟨g,i*6+2+1,none⟩ (.slice n l m)).setCell ⟨g,i*6+2+2,none⟩ (.int .i64 P)).cell? ⟨g,i*6+5,none⟩=some (.int .i64 0):=(k7 5 (by decide)).1;have az:(((w4.setCell ⟨g,i*6+2,none⟩ (.slice c d f)).setCell ⟨g,i*6+2+1,none⟩ (.slice n l m)).setCell ⟨g,i*6+2+2,none⟩ (.int .i64 P)).frozen? ⟨g,i*6+5,none⟩=false:=(k7 5 (by decide)).2;have aC:((((w4.setCell ⟨g,i*6+2,none⟩ (.slice c d f)).setCell ⟨g,i*6+2+1,none⟩ (.slice n l m)).setCell ⟨g,i*6+2+2,none⟩ (.int .i64 P)).setCell ⟨g,i*6+5,none⟩ (.int .i64 F)).cell? ⟨g,i*6+2,none⟩=some (.slice c d f):=(k8 2 (by decide)).1;have aJ:((((w4.setCell ⟨g,i*6+2,none⟩ (.slice c d f)).setCell ⟨g,i*6+2+1,none⟩ (.slice n l m)).setCell ⟨g,i*6+2+2,none⟩ (.int .i64 P)).setCell ⟨g,i*6+5,none⟩ (.int .i64 F)).cell? ⟨g,i*6+2+1,none⟩=some (.slice n l m):=(k8 3 (by decide)).1;have aD:((((w4.setCell ⟨g,i*6+2,none⟩ (.slice c d f)).setCell ⟨g,i*6+2+1,none⟩ (.slice n l m)).setCell ⟨g,i*6+2+2,none⟩ (.int .i64 P)).setCell ⟨g,i*6+5,none⟩ (.int .i64 F)).cell? ⟨g,i*6+2+2,none⟩=some (.int .i64 P):=(k8 4 (by decide)).1;have K:=aa ah;have W:=aa kL;have ax:=aa H;have aN:=aa hF;have ad:=aa hP;clear k4 k5 k6 k7 k8 Y9 Yr D x R ah kL v H Z al hF hP ac lN hE y am Y t ha NW J U;go_wp2_with fail;refine(H6 ax.out.weak (Ll Ls) (by rw[<-ad.out];omega)).mono ?_
     rintro e w5⟨rfl,G⟩;rw[<-ad.out];have ay:=K.out.ext G;have Ko:=W.out.trans (G.mono (Nat.le_trans aq W.out.size));have e9:IntKind.i64.wrap ((F:Int)+(P:Int))=((F+P:Nat):Int):=by rw[IntWalk.i64_in _ (by omega)];omega
     go_wp2_with fail;go_roundw
     case rel=>
      refine⟨i+1,by omega,by simp,by rw[j,Int.natCast_add],⟨A++[(((hd,Value.slice la ln lc,Ls),(Value.slice c d f,Value.slice n l m,(P:Int)),(F:Int)):qx)],by rw[List.map_append,HA.out,ao.out];rfl,?_⟩,Ko,av.out.trans (.of_below _ G)⟩;rw[List.append_assoc];exact ay
     case measure=>simp[intOf];omega
    have zi:=gI (show q<=i by omega);obtain rfl:i=q:=by omega
    have ht:Rs.take i=Rs:=List.take_of_length_le (by rw[Yq.out];exact Nat.le_refl _);have hd:Rs.drop i=[]:=List.drop_eq_nil_of_le (by rw[Yq.out];exact Nat.le_refl _);rw[ht] at V;rw[hd,List.map_nil,List.append_nil] at E;have HA:=aa V;have K:=aa E;have s:=aa DZ;clear V E DZ ht hd e1 e3;go_wp2_with fail
    go_end0
    refine⟨rfl,A,HA.out,?_,hE,hC⟩;simp only[s.out];exact K.out
def dP (w:World) (B p dp:Nat) (K:Nat->Nat) (l:List Nat):Prop:=
 ∃N c b a,(a.map (·.1)).map cB.sp=bq K l/\
  kg w B N p (.pointer (some ⟨dp,0,none⟩)) c b (decide (gF (a.map (·.1))<=16384)) a (if decide (gF (a.map (·.1))<=16384)=true then a.length else 0)/\
  bT w (.agg #[b]) (gF (a.map (·.1)))
def Lp {w:World} {B n g b:Nat} {Rs:List cB} {r:cB} (h:w.ownsRow B eX 6 (.slice (some ⟨g,0,none⟩) n b) (Rs.length+1) ((Rs++[r]).flatMap lV)) :
 w.cell? ⟨g,Rs.length*6+1,none⟩=some r.2.1/\w.frozen? ⟨g,Rs.length*6+1,none⟩=false:=by
 obtain⟨j,c,e,_,_,_,d⟩:=dC (f:=lV) kY (l:=Rs++[r]) (by simp) h (i:=Rs.length) (by simp);injection e with e _ _;injection e with e;injection e with e;subst e;have a:=d 1 (by decide);refine⟨a.1.trans ?_,a.2⟩;simp[lV]
def yF {w:World} {B n g b:Nat} {q:List d_} {y:d_} (h:w.ownsRow B fu 2 (.slice (some ⟨g,0,none⟩) n b) (q.length+1) ((q++[y]).flatMap fB)) :
 w.cell? ⟨g,q.length*2+1,none⟩=some y.2.1/\w.frozen? ⟨g,q.length*2+1,none⟩=false:=by
 obtain⟨j,c,e,_,_,_,d⟩:=dC (f:=fB) jC (l:=q++[y]) (by simp) h (i:=q.length) (by simp);injection e with e _ _;injection e with e;injection e with e;subst e;have a:=d 1 (by decide);refine⟨a.1.trans ?_,a.2⟩;simp[fB]
def Lr {w:World} {dp:Nat} {T:List aG} {X:List Nat} (h:cK w dp T X) (hV:aY T X) {v:Value} (l:List Nat) (hv:bG w v (aM l)) (Y:∀c∈l,c<1114112) (aQ:dJ (ai T) l) (aD:l.length<8000) :
 Calls prog 9 #[.pointer (some ⟨dp,0,none⟩),v] w λe w'=>∃p,e=.returned (.pointer (some ⟨p,0,none⟩))/\dP w' w.heap.size p dp (ai T) l/\Below w.heap.size w w':=by
 obtain⟨n,hn⟩:=ae l.length;obtain⟨a,cap,rfl,c9,hx⟩:=bG.Hl hv hn;have HX:=aa hx;have HC:=aa Y;have HN:=aa hn;have CL:=aa (λ(W:World) (E:Below w.heap.size w W) c (Y:c<1114112)=>iM (h.mono E) hV c Y);have a8:∀c,ai T c<1000000:=λc=>by
  unfold ai;cases e:rowOf T c with
  | none=>decide
  | some r=>
    have:=(hV.fine r (gy e).1).2.1;show r.cls<1000000;omega
 obtain⟨K,hK⟩:=ae (ai T);rw[<-hK] at CL a8 aQ⊢;have cx:=aa a8;have ci:=aa aQ;rw[<-hn] at aD;have cQ:∀W,(Instr.makeSlice 82 (.int .i64 1) (.int .i64 1)).run prog W=.ok (.slice (some ⟨W.heap.size,0,none⟩) 1 1) (W.alloc (.cells #[.int .i32 0,.slice none 0 0,.slice none 0 0,.slice none 0 0,.int .i64 0,.int .i64 0] eX)):=λW=>by kernel_rfl
 obtain⟨w1,Z⟩:=ae ((w.alloc (.cells #[.int .i32 0,.slice none 0 0,.slice none 0 0,.slice none 0 0,.int .i64 0,.int .i64 0] eX)).alloc (.cells #[.pointer (some ⟨dp,0,none⟩),.slice (some ⟨w.heap.size,0,none⟩) 1 1,.slice none 0 0,.bool false] 84));have cd:Below w.heap.size w w1:=by rw[Z];exact dH _ _
 have cU:w1.heap.size=w.heap.size+2:=by rw[Z];simp
 have bu:Jb w1 w.heap.size (w.heap.size+1) (.pointer (some ⟨dp,0,none⟩)) (.slice (some ⟨w.heap.size,0,none⟩) 1 1) [] (0,.slice none 0 0,[]) w1.heap.size w1.heap.size:=by
  have i1:Is w1 (w.heap.size+1) #[.pointer (some ⟨dp,0,none⟩),.slice (some ⟨w.heap.size,0,none⟩) 1 1,.slice none 0 0,.bool false] 84:=by rw[Z];exact Is.new' _ _ _ _ (by simp)
  have i0:Is w1 w.heap.size #[.int .i32 0,.slice none 0 0,.slice none 0 0,.slice none 0 0,.int .i64 0,.int .i64 0] eX:=by rw[Z];exact(Is.new _ _ _).mono (ah _)
  exact⟨i1,⟨rfl,.inr ⟨w.heap.size,1,_,rfl,Nat.le_refl _,i0.at_,Nat.le_refl _,by decide,rfl,rfl⟩⟩,by simp,⟨World.ownsRow_nil _ _ _ _,by simp,by simp,Nat.le_refl _,Nat.le_refl _⟩,Nat.le_succ _⟩
 obtain⟨p,hp⟩:=ae (w.heap.size+1);obtain⟨B,hB⟩:=ae w.heap.size;rw[<-hp,<-hB] at bu;have c7:=aa bu;have HB:=aa hB;have bm:B<=p:=by omega
 clear h hV hv Y hx hn hK a8 aQ bu;rw[<-hB] at cd cU;clear hB;go_enter func9,ntmps9;go_wp2_with fail;rw[<-Z];rw[<-hp];clear Z cQ hp;go_loopw [7,8,9,10,11,20] (λ_ _ _ _ _ iv wr=>∃j:Nat,j<=n/\iv=.int .i64 j/\(∃rs Rs c F G,Jb wr B p (.pointer (some ⟨dp,0,none⟩)) rs Rs c F G/\B<=F/\(Rs++[c]).map cB.sp=bq K (l.take j)/\gD K l j c/\Rs.length<=j)/\Below B w wr) (λ_ _ _ _ _ iv _=>n-(intOf iv).toNat)
 case atStart=>exact⟨0,Nat.zero_le _,rfl,⟨_,_,_,_,_,c7.out,by omega,rfl,gD.nil _ _ _ _ _,Nat.zero_le _⟩,cd⟩
 case round=>
  obtain⟨j,hj,rfl,⟨rs,Rs,⟨hd,lv,Ls⟩,F,G,hT,bI,P,hL,b_⟩,hE⟩:=hrel;by_cases db:j<n
  ·have zj:=eG (show j<n by omega);have al:j<l.length:=by have:=HN.out;omega
   obtain⟨b,off,rfl,dn,cg⟩:=HX.out j al;have fT:Below w.heap.size w wr:=by rw[<-HB.out];exact hE
   have c0:=aB fT cg;clear cg;have bt:=HC.out _ (List.getElem_mem al);have a5:=VA (K:=K) al;obtain⟨x,Aq⟩:=ae (l[j]);have ZT:=aa Aq;rw[<-Aq] at c0 bt a5;have CK:=aa (CL.out wr fT x bt);obtain⟨t,aL⟩:=ae (K x);have bz:t<1000000:=by rw[aL];exact cx.out x
   rw[<-aL] at CK;have KP:=aa aL;have bL:=aa a5;have aS:=aa P;have HL:=aa hL;have SS:=aa hT;have ax:=fT.size;obtain⟨m,hm⟩:=ae Rs.length;have rC:=hT.runs;rw[<-hm] at rC;obtain⟨g,rc,C,aK,_,a9,_⟩:=dC (f:=lV) kY (l:=Rs++[(hd,lv,Ls)]) (by rw[List.length_append,hm];rfl) rC (i:=0) (by simp);subst C;have HM:=aa hm;rw[<-hm] at b_;have bc:B<=wr.heap.size:=by have:=HB.out;omega
   clear Aq bt a5 aL P hL hT rC hm fT ax;go_wp2_with fail;refine CK.out.mono ?_;rintro e w6⟨rfl,aR⟩;have ZU:=SS.out.ext aR;have ji:=hE.trans (aR.mono bc);have mF:B<=w6.heap.size:=Nat.le_trans bc aR.size;have i6:=ZU.is;have e1:=i6.at 1 rfl;clear c0 CK aR SS hE bc;by_cases a6:t=0
   ·subst a6;have z0:((0:Nat):Int)=0:=rfl;have cE:=aa ZU;have aT:=ZU.runs;rw[<-HM.out] at aT;clear ZU
    go_wp2_with (
     refine qf (W:=w6) rfl _ _ 82 rfl B eX _ 6 96 Zl (by decide) (by decide) (by decide) (by decide) (.slice (some ⟨g,0,none⟩) (m+1) rc) (m+1) _ rfl aT #[.int .i32 (x:Nat),.slice none 0 0,.slice none 0 0,.slice none 0 0,.int .i64 0,.int .i64 0] rfl rfl (by simp[Value.oneCell']) (by omega) w6 (Below.refl _ _) mF ?_;intro dh w7 o7 b7 g7 _;obtain⟨dd,cb,rfl,_,_⟩:=ak o7;have b8:=cE.out.Zm (hd:=x) (by rw[<-HM.out];exact o7) g7;have i7:=(bJ.bQ aT g7).is i6 (by decide);have e7:=i7.at 1 rfl;have q7:=i7.frozen 1;have cR:=aa b8
     clear b8 o7 g7 i7 aT e1 i6)
    go_wp2_with fail;go_roundw
    case rel=>
     refine⟨j+1,by omega,by simp,⟨_,Rs++[(hd,lv,Ls)],(x,.slice none 0 0,[]),_,_,by have:=cR.out;rw[<-HM.out] at *;exact this,by have:=b7.size;omega,?_,gD.nil _ _ _ _ _,by rw[List.length_append,<-HM.out];simp;omega⟩,aj (ji.trans b7) bm⟩;rw[bL.out,BV KP.out.symm,<-aS.out,List.map_append];rfl
    case measure=>simp[intOf];omega
   have z0:((t:Int)==0)=false:=by simp;omega
   have e8:IntKind.i64.wrap (((m+1:Nat):Int)-1)=(m:Int):=by rw[IntWalk.i64_in _ (by omega)];omega
   go_upto_region 8 with fail;go_quiet (fail);obtain⟨wq,a3⟩:=ae (w6.drewN nq);have aV:Below w6.heap.size w6 wq:=by rw[a3];exact⟨rfl,rfl,rfl,Nat.le_refl _,λ_ _=>rfl⟩
   have V:=ZU.ext aV;have bx:=ji.trans (aV.mono mF);have ZV:B<=wq.heap.size:=Nat.le_trans mF aV.size;rw[<-a3];clear a3 ZU ji mF aV i6 e1;obtain⟨la,lc,U,_,_⟩:=ak V.cur.row;simp only at U;subst U;obtain⟨nl,bs⟩:=ae Ls.length;have Yn:=aa bs;have b6:=HL.out.len;simp only at b6;have rC:=V.runs;rw[<-HM.out] at rC;obtain⟨g',cb,Ox,_,_,_,ar⟩:=dC (f:=lV) kY (l:=Rs++[(hd,Value.slice la Ls.length lc,Ls)]) (by rw[List.length_append,HM.out];rfl) rC (i:=m) (by rw[HM.out];simp);injection Ox with Ox _ akf;subst akf;injection Ox with Ox;injection Ox with Ox;subst Ox;have c1:wq.cell? ⟨g,m*6+1,none⟩=some (.slice la Ls.length lc):=by
    have:=(ar 1 (by decide)).1;rw[this];simp[HM.out,lV]
   have ad:(Ls.map λx=>(x.1,x.2.1)).flatMap jT=Ls.flatMap fB:=by rw[List.flatMap_map];rfl
   have FD:=aa (Hd (w:=wq) (base:=F) (v:=.slice la Ls.length lc) (L:=Ls.map λx=>(x.1,x.2.1)) (by rw[List.length_map,ad];exact V.cur.row) (λy O=>by
    obtain⟨z,hz,rfl⟩:=List.mem_map.1 O;exact Zk.own ((V.cur.Ae).2 z hz).1) (List.pairwise_map.2 HL.out.rise) (λy O=>by
    obtain⟨z,hz,rfl⟩:=List.mem_map.1 O
    exact HL.out.small z hz) (by rw[List.length_map];omega) t bz)
   rw[<-bs] at c1 FD b6;have bB:=aa V;clear ar ad rC V bs;go_wp2_with fail;refine FD.out.mono ?_;rintro e w8⟨k,fb,rfl,ao,iH⟩;have M:=bB.out.ext iH;have kL:=bx.trans (iH.mono ZV);have a2:B<=w8.heap.size:=Nat.le_trans ZV iH.size;have c1:=aB iH c1;have Lt:=HL.out.find ci.out al (by rw[<-ZT.out,<-KP.out];exact a6) (by rw[<-ZT.out,<-KP.out];exact ao);rw[<-ZT.out,<-KP.out] at Lt;simp only at Lt;rw[<-Yn.out] at Lt;have bg:=aa M;clear ao iH FD bB bx ZV M;go_upto_if 61 with fail;go_cut [] from 62 to 73 (λwx=>(∃(D:Nat) (SX:Nat) (q:List d_) (va:Option Addr) (J vc:Nat) (I:List Nat) (F' G':Nat),Jb wx B p (.pointer (some ⟨dp,0,none⟩)) (.slice (some ⟨g,0,none⟩) (m+1) rc) Rs (hd,.slice (some ⟨D,0,none⟩) (k+1) SX,q++[(t,.slice va J vc,I)]) F' G'/\B<=F'/\k=q.length/\sQ t x (Ls.map d_.sp)=q.map d_.sp++[(t,I++[x])]/\(∀v',gD K l (j+1) (hd,.slice (some ⟨D,0,none⟩) (k+1) SX,q++[(t,v',I++[x])]))/\I.length<=j/\J=I.length)/\Below B w wx)
   case first=>
    rcases Lt with⟨rfl,hk,aX⟩|⟨rfl,q,y,hq,O,hk⟩
    ·have HK:=aa hk;have S_:=aa aX;clear hk aX;have kT:=ah (w:=w8) (.cells #[.int .i64 (t:Nat),.slice none 0 0] fu);have aw:=bg.out.ext kT;have yf:Below B w (w8.alloc (.cells #[.int .i64 (t:Nat),.slice none 0 0] fu)):=kL.trans (kT.mono a2);have ad:(Ls.map λx=>(x.1,x.2.1)).flatMap jT=Ls.flatMap fB:=by rw[List.flatMap_map];rfl
     have ap:=BQ (w:=w8.alloc (.cells #[.int .i64 (t:Nat),.slice none 0 0] fu)) (base:=F) (v:=.slice la Ls.length lc) (L:=Ls.map λx=>(x.1,x.2.1)) (by rw[List.length_map,ad];exact aw.cur.row) (Nat.le_trans aw.cur.fg aw.cur.gs) (by rw[List.length_map,<-Yn.out];omega) (t,.slice none 0 0) rfl (Is.new w8 _ fu);rw[List.length_map,List.flatMap_append,ad] at ap;have Wi:=ap;rw[<-Yn.out] at Wi;have c6:=aa Wi;have aq:=aa aw;have H2:=aa (show(Value.slice la Ls.length lc).ownBlock=(Value.slice la nl lc).ownBlock from by cases la with|none=>rfl|some a=>cases a;rfl);clear ap Wi aw ad;have cG:=aa (show k=nl from HK.out);go_wp2_with fail;have cJ:=cG.out;subst cJ;refine c6.out.mono ?_;rintro e zL⟨Sa,rfl,b9,Wj,_⟩;have a1:zL.ownsRow F fu 2 Sa (k+1) (Ls.flatMap fB++fB (t,Value.slice none 0 0,[])):=b9;obtain⟨D,SX,bh,_,_,_,_⟩:=dC (f:=fB) jC (l:=Ls++[(t,Value.slice none 0 0,[])]) (by rw[List.length_append,<-Yn.out]) (by rw[List.flatMap_append];exact a1) (i:=0) (by simp);subst bh;have ZW:(w8.alloc (.cells #[.int .i64 (t:Nat),.slice none 0 0] fu)).grownBy zL (Value.slice la Ls.length lc).ownBlock:=by rw[H2.out];exact Wj
     have br:=aq.out.Vy (n:=t) (by rw[<-Yn.out];exact a1) ZW
     have Ko:Below B w zL:=yf.grown ZW (by have:=a2;simp;omega) (λi hi=>by
      have:=(aq.out.cur.row.lt i hi).1
      omega)
     obtain⟨r1,r2⟩:=Lp ((bJ.bQ aq.out.cur.row ZW).own aq.out.runs (by decide));rw[<-HM.out] at r1 r2 br;simp only at r1;have cm:=aa br;clear b9 a1 Wj ZW br c1;go_wp2_with fail;go_meet;refine⟨⟨D,SX,Ls,none,0,0,[],_,_,cm.out,bI,Yn.out,wN (λy O=>?_),λv'=>?_,Nat.zero_le _,rfl⟩,aj Ko a9⟩
     ·have cl:y∈Ls.map d_.sp:=List.mem_of_getLast? O;obtain⟨z,hz,rfl⟩:=List.mem_map.1 cl;exact Nat.ne_of_lt (S_.out z hz)
     have h9:=HL.out.new al (by rw[<-ZT.out,<-KP.out];exact bz) (λy O=>by rw[<-ZT.out,<-KP.out];exact S_.out y O) (.slice (some ⟨D,0,none⟩) (k+1) SX) v' x;rw[<-ZT.out,<-KP.out] at h9;exact h9
    have M:=bg.out;subst hq;have s:=M.cur.last y (by simp only;rw[List.getLast?_concat]);obtain⟨va,vc,bj,_,_⟩:=ak s;obtain⟨D,SX,bh,_,_,_,_⟩:=dC (f:=fB) jC (l:=q++[y]) rfl M.cur.row (i:=0) (by simp);injection bh with bS _ cW;have cj:nl=k+1:=by rw[Yn.out,hk];simp
    have cc:y.2.2.length<=j:=HL.out.marks y (by simp)
    have qY:=aa (show ∃(D:Nat) (SX:Nat) (q2:List d_) (va:Option Addr) (J vc:Nat) (I:List Nat) (F' G':Nat),Jb w8 B p (.pointer (some ⟨dp,0,none⟩)) (.slice (some ⟨g,0,none⟩) (m+1) rc) Rs (hd,.slice (some ⟨D,0,none⟩) (k+1) SX,q2++[(t,.slice va J vc,I)]) F' G'/\B<=F'/\k=q2.length/\sQ t x ((q++[y]).map d_.sp)=q2.map d_.sp++[(t,I++[x])]/\(∀v',gD K l (j+1) (hd,.slice (some ⟨D,0,none⟩) (k+1) SX,q2++[(t,v',I++[x])]))/\I.length<=j/\J=I.length from by
     have c8:y=(t,.slice va y.2.2.length vc,y.2.2):=by
      obtain⟨y1,y2,y3⟩:=y;simp only at O bj;rw[O,bj]
     have bw:(q++[y]).length=k+1:=by rw[hk];simp
     refine⟨D,lc,q,va,y.2.2.length,vc,y.2.2,F,G,?_,bI,hk,?_,λv'=>?_,cc,rfl⟩
     ·have h9:=M;rw[bS,bw] at h9;rw[<-c8];exact h9
     ·rw[List.map_append];have:List.map d_.sp [y]=[(y.1,y.2.2)]:=rfl;rw[this,yh O,O]
     have h9:=(HL.out).more (v:=.slice la (q++[y]).length lc) al (by rw[<-ZT.out,<-KP.out];exact O) v' x;rw[O] at h9
     exact⟨h9.rise,h9.small,h9.last,h9.len,h9.marks⟩)
    clear M s bj bS cW cj cc hk O;go_wp2_with fail;go_meet;obtain⟨cS,aE,q',cC,cH,cq,cy,F',G',t1,t2,t3,t4,t5,t6,t7⟩:=qY.out;exact⟨⟨cS,aE,q',cC,cH,cq,cy,F',G',t1,t2,t3,t4,t5,t6,t7⟩,kL⟩
   case rest=>
    clear Lt bg c1 kL a2;obtain⟨⟨D,aE,q,va,J,vc,I,F2,G2,bi,be,bn,aZ,s,dg,bA⟩,Ql⟩:=hcut;obtain⟨FT,cY⟩:=ae wc;subst cY;have am:=bi.ext (ag FT);have rC:=am.runs;obtain⟨r1,_⟩:=Lp rC;rw[<-HM.out] at r1;have o:=am.cur.row;simp only[List.length_append,List.length_cons,List.length_nil] at o;obtain⟨s1,_⟩:=yF o;rw[<-bn] at s1;have dr:k<=j:=by
     have:=(s (.slice none 0 0)).len;simp at this;omega
    have ce:B<=G2:=Nat.le_trans be am.cur.fg;have cX:B<=D:=Nat.le_trans be ((o.lt D rfl).1);have df:=vG.keeps (S:=λi=>i=g\/i=D) r1 (.inl rfl);have dm:=vG.keeps (S:=λi=>i=g\/i=D) s1 (.inr rfl);have cL:B<=FT.heap.size:=Nat.le_trans ce bi.cur.gs;have b1:=am.cur.last (t,.slice va J vc,I) (by simp only;rw[List.getLast?_concat]);have da:g<FT.heap.size/\D<FT.heap.size:=⟨(rC.lt g rfl).2,(o.lt D rfl).2⟩;have cv:=aa aZ;have cs:=aa s;have bP:=aa bn;have UQ:=aa bA;have ch:=aa am;have cM:=aa b1;have Za:Below B w FT.drew:=Ql.drew;clear bi am rC o aZ s bn bA r1 s1 b1 Ql;go_wp2_with fail;refine dF (KR.blocks λi=>i=g\/i=D) #[true,true,true,true,true,true,true,true,true,true,true,true,true,true,true,true,true,true,false] 18 1 mixed ?_;refine bZ [0,1,2,3,4,5,6,7,8,9,10,11,12,13] 4 ?_
    iterate 14 (refine aA rfl ?_;go_big_quiet_step (rfl))
    refine az ?_;have gN:=ah (w:=FT.drew) (.cells #[.int .i32 (x:Nat)] aN);have Ta:=ch.out.ext gN;have Ig:Below B w (FT.drew.alloc (.cells #[.int .i32 (x:Nat)] aN)):=Za.trans (gN.mono cL);refine bN 14 ?_;go_wp2_with fail;refine bK (KR.of_below gN gN.size (λi hi=>by rcases hi with rfl|rfl <;> (show _<FT.heap.size;omega))) ?_;have Oy:=aH cM.out gN;rw[show(t,Value.slice va J vc,I).2.2.length=J from UQ.out.symm] at Oy;refine bN 15 ?_;refine ng (W:=FT.drew.alloc (.cells #[.int .i32 (x:Nat)] aN)) rfl _ _ 35 rfl G2 aN (.int .i32 0) 4 bW (by decide) (v:=.slice va J vc) rfl Oy (Nat.le_trans ch.out.cur.gs gN.size) [.int .i32 (x:Nat)] (by simp[Value.oneCell']) ⟨FT.drew.heap.size,0,none⟩ 1 1 rfl rfl (λi u hi=>?_) (by have:=UQ.out;omega) ?_
    ·rcases i with _|i
     ·cases hi;exact(Is.new FT.drew _ aN).at 0 rfl
     cases hi
    intro c_ Ck bf Wl cV;obtain⟨ZX,ZY,cr,_,_⟩:=ak bf;subst cr;have a4:=Ta.Zn (gl:=D) (m:=x) (v':=.slice ZX (J+1) ZY) (by rw[List.length_append,a_,<-UQ.out];exact bf) Wl;rw[<-bP.out] at a4;have bb:=bJ.bQ Oy Wl;obtain⟨_,cP⟩:=yF (by have:=bb.own Ta.cur.row (by decide);simp only[List.length_append,List.length_cons,List.length_nil] at this;exact this);obtain⟨cT,_⟩:=yF (by have:=bb.own Ta.cur.row (by decide);simp only[List.length_append,List.length_cons,List.length_nil] at this;exact this);rw[<-bP.out] at cT cP;have ZZ:Below B w Ck:=Ig.grown Wl (by simp;omega) (λi hi=>Nat.le_trans ce (Oy.lt i hi).1);have bF:(.slice va J vc:Value).ownBlock≠some g/\(.slice va J vc:Value).ownBlock≠some D:=⟨λe=>absurd ((bV Oy e).one (bV Ta.runs (k:=g) rfl)) (by decide),λe=>absurd ((bV Oy e).one (bV Ta.cur.row (k:=D) rfl)) (by decide)⟩;have cw:=aa a4;have b5:=aa bF;clear a4 Ta bf cV bb bF Oy;go_wp2_with fail;refine bK (KR.bQ (w:=FT.drew.alloc (.cells #[.int .i32 (x:Nat)] aN)) Wl Wl.size (λi hi=>?_)) ?_
    ·rcases hi with rfl|rfl
     ·exact⟨by simp;omega,b5.out.1⟩
     exact⟨by simp;omega,b5.out.2⟩
    refine bZ [16,17] 0 ?_
    iterate 2 (refine aA rfl ?_;go_big_quiet_step (rfl))
    refine az ?_;refine eU [18] ?_;refine tail_cons rfl ?_;go_wp2_with fail;refine tail_nil ?_;go_wp2_with fail;go_roundw
    case rel=>
     refine⟨j+1,by omega,by simp,⟨_,Rs,(hd,.slice (some ⟨D,0,none⟩) (k+1) aE,q++[(t,.slice ZX (J+1) ZY,I++[x])]),F2,G2,cw.out,be,?_,cs.out _,by rw[<-HM.out];omega⟩,aj ZZ cX⟩;rw[bL.out,<-aS.out];simp only[List.map_append];have e9:List.map cB.sp [(hd,Value.slice la Ls.length lc,Ls)]=[(hd,Ls.map d_.sp)]:=rfl;rw[e9,yj (by rw[<-KP.out];exact a6),<-KP.out,cv.out];have cD:List.map cB.sp [(hd,Value.slice (some ⟨D,0,none⟩) (k+1) aE,q++[(t,Value.slice ZX (J+1) ZY,I++[x])])]=[(hd,(q++[(t,Value.slice ZX (J+1) ZY,I++[x])]).map d_.sp)]:=rfl;rw[cD,List.map_append];rfl
    case measure=>simp[intOf];omega
  obtain rfl:j=n:=by omega
  have zj:decide ((j:Int)<(j:Int))=false:=by simp
  have bD:l.take j=l:=List.take_of_length_le (by rw[HN.out];exact Nat.le_refl _);rw[bD] at P;have H:=hT.made;have sV:Cj (Rs++[(hd,lv,Ls)]):=Cj.of (k:=l.length) (by rw[P];exact fD K l) (by rw[<-HN.out];omega);obtain⟨R,hR⟩:=ae (Rs++[(hd,lv,Ls)]);rw[<-hR] at H sV P;have aS:=aa P;obtain⟨nr,ac⟩:=ae R.length;have de:0<nr:=by rw[ac,hR];simp
  have dk:nr<10000:=by rw[ac];exact sV.1
  obtain⟨N,bp⟩:=ae wr.heap.size;rw[<-bp] at H;obtain⟨g,rc,C,aK,_,a9,-⟩:=dC (f:=lV) kY rfl H.runs (i:=0) (by omega);rw[<-ac] at C;subst C;have cA:(R.length:Nat)=nr:=ac.symm;have i1:=H.is;have e1:wr.cell? ⟨p,1,none⟩=some (.slice (some ⟨g,0,none⟩) nr rc):=i1.at 1 rfl;have Rt:=aa H;have HF:=aa sV;have Yq:=aa ac;have nR:=aa bp;clear H sV ac cA bp aK hT hL P bD hR b_ i1;go_wp2_with fail;go_loopw [13,98] (λ_ iv wq=>∃i:Nat,i<=nr/\iv=.int .i64 i/\(∃iT,D8 wq B N p (.pointer (some ⟨dp,0,none⟩)) (.slice (some ⟨g,0,none⟩) nr rc) iT false R/\bT wq (.agg #[iT]) (gF (R.take i)))/\Below B w wq) (λ_ iv _=>nr-(intOf iv).toNat)
  case atStart=>exact⟨0,Nat.zero_le _,rfl,⟨_,Rt.out,_,rfl,by rw[show gF (R.take 0)=0 from rfl,di];exact .nil _ _ _ _ (λ_=>rfl)⟩,hE⟩
  case round=>
   obtain⟨i,hi,rfl,⟨iT,H,hZ⟩,a0⟩:=hrel;by_cases aQ:i<nr
   ·have zi:=eG (show i<nr by omega);have aO:i<R.length:=by have:=Yq.out;omega
    obtain⟨g',cb,C,_,_,_,Y⟩:=dC (f:=lV) kY rfl H.runs aO;injection C with C rW aK;clear rW;subst aK;injection C with C;injection C with C;subst C;have o:=H.Ae _ (List.getElem_mem aO);have sV:=HF.out.2 _ (List.getElem_mem aO);have ax:=yC aO;obtain⟨r,hr⟩:=ae (R[i]);rw[<-hr] at Y o sV ax;obtain⟨hd,lv,Ls⟩:=r;obtain⟨la,lc,U,_,_⟩:=ak o.1.1;simp only at U;obtain⟨ln,aD⟩:=ae Ls.length;rw[<-aD] at U;subst U;have c0:wr.cell? ⟨g,i*6,none⟩=some (.int .i32 hd):=(Y 0 (by decide)).1;have c1:wr.cell? ⟨g,i*6+1,none⟩=some (.slice la ln lc):=(Y 1 (by decide)).1;have c2:wr.cell? ⟨g,i*6+2,none⟩=some (.slice none 0 0):=(Y 2 (by decide)).1;have c3:wr.cell? ⟨g,i*6+3,none⟩=some (.slice none 0 0):=(Y 3 (by decide)).1;have c4:wr.cell? ⟨g,i*6+4,none⟩=some (.int .i64 0):=(Y 4 (by decide)).1;have c5:wr.cell? ⟨g,i*6+5,none⟩=some (.int .i64 0):=(Y 5 (by decide)).1;have A:=ah (w:=wr) (.cells #[.int .i32 hd,.slice la ln lc,.slice none 0 0,.slice none 0 0,.int .i64 0,.int .i64 0] eX);obtain⟨w2,aP⟩:=ae (wr.alloc (.cells #[.int .i32 hd,.slice la ln lc,.slice none 0 0,.slice none 0 0,.int .i64 0,.int .i64 0] eX));rw[<-aP] at A;have k2:=Is.nw aP;have bd:=H.ext A;have bM:=hZ.mono A;have i2:=bd.is;have g2:=i2.gd 2 rfl;have f0:=k2.gd 0 rfl;have f1:=k2.gd 1 rfl;have f2:=k2.gd 2 rfl;have f3:=k2.gd 3 rfl;have f4:=k2.gd 4 rfl;have f5:=k2.gd 5 rfl;have ZV:B<=wr.heap.size:=by have:=H.low;have:=H.hi;omega
    have lH:=a0.trans (A.mono ZV);have BS:=aa (λ(W:World) (E:Below w2.heap.size w2 W)=>B_ (w:=W) (F:=N) (hd:=hd) (la:=la) (ln:=ln) (lc:=lc) (Ls:=Ls) ((o.keep (.of_below (A.mono H.hi.2) A.size) (.of_below (A.mono H.hi.2) A.size)).keep (.of_below (E.mono (Nat.le_trans H.hi.2 A.size)) E.size) (.of_below (E.mono (Nat.le_trans H.hi.2 A.size)) E.size)) sV.1 sV.2 none none 0 0 0 0 0 0);have Re:=aa ax;have D9:=aa bd;have co:=aa bM;have bH:=aa sV;have BA:=aa aD;have b3:B<=w2.heap.size:=Nat.le_trans ZV A.size;clear Y o sV ax hr H hZ bd bM aD i2 A a0 ZV;go_upto_region 17 with fail;rw[<-aP];clear aP c0 c1 c2 c3 c4 c5 k2;refine aC #[true,true,true,true,true,true,true,true,true,true,true,false] 11 1 mixed ?_;refine ay [0,1,2,3,4,5] 5 ?_
    iterate 6 (refine aA rfl ?_;go_big_quiet_step (rfl))
    refine az ?_;refine aI 6 ?_;go_wp2_with fail;have b0:Below w2.heap.size w2 w2.drew:=ag w2;refine(BS.out _ b0).mono ?_;rintro e w3⟨bv,rfl,b2,an⟩;go_wp2_with fail;refine aF an ?_;have ji:=lH.drew.trans (an.mono b3);refine aI 7 ?_;go_wp2_with fail;have Q:=uS (r:=(hd,.slice la ln lc,Ls)) bH.out.2;have b4:=BZ Ls;have dq:Ls.length<10000:=bH.out.1;have ha:bG w3 bv (bO ((gT Ls).map λb:Nat=>(b:Int))):=by
     rw[<-b4,<-show(ds (gT Ls)).length=(gT Ls).length by simp[ds]] at b2;rw[Hy];exact(Sl.aU b2).any
    have cO:∀d∈(gT Ls).map λb:Nat=>(b:Int),d<9223372036854775808:=λd hd=>by
     obtain⟨b,hb,rfl⟩:=List.mem_map.1 hd;have h1:=Q b hb;unfold Go.Cd.B at h1;omega
    have bU:∀k,k<=(gT Ls).length->(bY Go.Cd.B (dU ((gT Ls).take k))).length<274877906944:=λk hk=>by
     have h1:=Ci Q k hk;have h2:k<=Ls.length:=by rw[<-b4];exact hk
     exact Nat.lt_of_le_of_lt h1 (by omega)
    have PR:=Ou (w:=w3) (v:=bv) (l:=(gT Ls).map λb:Nat=>(b:Int)) ha (by rw[List.length_map];omega) cO (λk hk=>by rw[Lg];rw[List.length_map] at hk;exact bU k hk);rw[Lg] at PR;refine PR.mono ?_;rintro e w4⟨pv,rfl,cp,au⟩;go_wp2_with fail;refine aF au ?_;have aW:Below w2.heap.size w2 w3:=af b0 an;have ab:Below w2.heap.size w2 w4:=af aW au;refine aI 8 ?_;go_wp2_with fail;have bo:(bY Go.Cd.B (gF (R.take i))).length<549755813888:=by
     have:=Ib HF.out (j:=i) (by have:=Yq.out;omega);omega
    have ba:(bY Go.Cd.B (dU (gT Ls))).length<549755813888:=by
     have:=bU _ (Nat.le_refl _);rw[List.take_length] at this;omega
    have AD:=Oo (co.out.mono ab) cp bo ba;refine AD.mono ?_;rintro e w5⟨av,rfl,bl,bX⟩;go_wp2_with fail;refine aF bX ?_;have bR:Below w2.heap.size w2 w5:=af ab bX;refine ay [9,10] 0 ?_
    iterate 2 (refine aA rfl ?_;go_big_quiet_step (rfl))
    refine az ?_;have Yr:=D9.out.ext bR;obtain⟨sa,sn,sc,rfl,bl⟩:=bl.out;have i5:=Yr.is;have e5:=i5.at 2 rfl;have dj:=i5.frozen 2;refine aJ [11] ?_;refine tail_cons rfl ?_;go_wp2_with fail;refine tail_nil ?_;go_wp2_with fail;go_roundw
    case rel=>
     refine⟨i+1,by omega,by simp,⟨_,Yr.put 2 _ rfl,?_⟩,aj (lH.trans (bR.mono b3)) bm⟩;rw[Re.out];exact bl.put i5.at_ (by decide)
    case measure=>simp[intOf];omega
   have zi:=gI (show nr<=i by omega);obtain rfl:i=nr:=by omega
   have ht:R.take i=R:=List.take_of_length_le (by rw[Yq.out];exact Nat.le_refl _);rw[ht] at hZ;have i2:=H.is;have g2:=i2.gd 2 rfl;have cF:=aa H;have HZ:=aa hZ;have aq:=aa ht;have ZV:B<=wr.heap.size:=by have:=H.low;have:=H.hi;omega
   clear H hZ ht i2 e1;go_wp2_with fail;refine aC #[true,true,true,true,true,true,true,true,true,true,false] 10 1 mixed ?_;refine ay [0,1,2,3,4] 5 ?_
   iterate 5 (refine aA rfl ?_;go_big_quiet_step (rfl))
   refine az ?_;refine aI 5 ?_;go_wp2_with fail;refine(uf 16384 (by decide) wr.drew).mono ?_;rintro e w3⟨mv,rfl,ck,an⟩;go_wp2_with fail;refine aF an ?_;have aW:Below wr.heap.size wr w3:=(ag wr).trans (an.mono (ag wr).size);refine aI 6 ?_;go_wp2_with fail;have bo:(bY Go.Cd.B (gF R)).length<1099511627776:=by
    have:=Ib HF.out (j:=R.length) (Nat.le_refl _);rw[List.take_length] at this;omega
   have ba:(bY Go.Cd.B 16384).length<1099511627776:=by
    have:(bY Go.Cd.B 16384).length<=1:=by rw[cZ bE];unfold Go.Cd.B;decide
    omega
   have zc:decide (sK (gF R) 16384<=0)=decide (gF R<=16384):=by
    unfold sK;by_cases h1:gF R<16384
    ·rw[if_pos h1,decide_eq_true (by omega),decide_eq_true (by omega)]
    rw[if_neg h1];by_cases h2:16384<gF R
    ·rw[if_pos h2,decide_eq_false (by omega),decide_eq_false (by omega)]
    rw[if_neg h2,decide_eq_true (by omega),decide_eq_true (by omega)]
   obtain⟨sm,Q⟩:=ae (decide (gF R<=16384));obtain⟨cz,bk⟩:=ae (sK (gF R) 16384);have CO:=pK (HZ.out.mono aW) ck bo ba;rw[<-Q,<-bk] at zc;rw[<-bk] at CO;have bC:=aa Q;clear Q bk;refine CO.mono ?_;rintro e w4⟨rfl,au⟩;go_wp2_with fail;refine aF au ?_;have ab:Below wr.heap.size wr w4:=af aW au;refine ay [7,8,9] 0 ?_
   iterate 3 (refine aA rfl ?_;go_big_quiet_step (rfl))
   refine az ?_;have Y9:=cF.out.ext ab;have cf:=HZ.out.mono ab;have i4:=Y9.is;have dc:=i4.at 3 rfl;have dl:=i4.frozen 3;have Yr:=Y9.put 3 (.bool sm) (acT:=iT) (Ov:=sm) rfl;have ca:bT (w4.setCell ⟨p,3,none⟩ (.bool sm)) (.agg #[iT]) (gF R):=cf.put i4.at_ (by decide);have jP:Below B w (w4.setCell ⟨p,3,none⟩ (.bool sm)):=aj (a0.trans (ab.mono ZV)) bm;have ct:=aa (Lm Yr HF.out (λh=>by rw[bC.out] at h;exact of_decide_eq_true h) a9);have cN:=aa ca;have cI:=aa jP;clear Y9 cf i4 Yr ca jP;refine aJ [10] ?_;refine tail_cons rfl ?_;go_wp2_with fail;refine tail_nil ?_;go_wp2_with fail;refine ct.out.mono ?_;rintro e w6⟨rfl,Es,a7,cu,mF,cn⟩;go_wp2_with fail;go_ret;refine⟨p,rfl,?_,?_⟩
   ·rw[<-HB.out];exact⟨N,_,iT,Es,by rw[a7];exact aS.out,by rw[a7,<-bC.out];exact cu,by rw[a7];exact bT.iQ cN.out cn (by decide)⟩
   have:=cI.out.trans mF;rw[HB.out] at this;exact this
end Go.Proofs.YtmnimbnojdndmaaGreatDoor
namespace Go.Proofs.YtmnimbnojdndmaaGreatDoor
open Go.RowKit Go.Cd
def dP.mono {w w':World} {B p a:Nat} {K:Nat->Nat} {l:List Nat} (h:dP w B p a K l) (b:Below w.heap.size w w'):dP w' B p a K l:=by
 obtain⟨N,f,i,e,g,c,d⟩:=h;exact⟨N,f,i,e,g,c.ext b,d.mono b⟩
def kM (r:bS):List Nat:=r.2.map λx=>x.2.length+1
def xD (r:bS):Nat:=dU (kM r)
def dO (rs:List bS):Nat:=(rs.map xD).sum
def Qt (r:cB):gT r.2.2=kM (cB.sp r):=by
 unfold gT kM cB.sp;rw[List.map_map];rfl
def Ih (Rs:List cB):gF Rs=dO (Rs.map cB.sp):=by
 unfold gF dO;rw[List.map_map];congr 1;refine List.map_congr_left λr _=>?_;unfold V8;rw[Qt];rfl
structure Wm (w:World) (p dp:Nat) (rs:List bS) (g rc:Nat) (iT:Value) (small:Bool) (Es:List qx):Prop where
 sp:Es.map (λe=>cB.sp e.1)=rs
 is:Is w p #[.pointer (some ⟨dp,0,none⟩),.slice (some ⟨g,0,none⟩) rs.length rc,iT,.bool small] 84
 run:∀k (hk:k<Es.length),∀j<6,w.cell? ⟨g,k*6+j,none⟩=(nC Es[k])[j]?
 sl:∀e∈Es,∃la lc,e.1.2.1=.slice la e.1.2.2.length lc
 lane:∀e∈Es,∀k (hk:k<e.1.2.2.length),∃lg c,e.1.2.1=.slice (some ⟨lg,0,none⟩) e.1.2.2.length c/\w.cell? ⟨lg,k*2,none⟩=some (.int .i64 (e.1.2.2[k].1:Nat))/\w.cell? ⟨lg,k*2+1,none⟩=some e.1.2.2[k].2.1
 marks:∀e∈Es,∀x∈e.1.2.2,bG w x.2.1 (aM x.2.2)
 size:bT w (.agg #[iT]) (dO rs)
 le:small=decide (dO rs<=16384)
 shp:∀e∈Es,FQ e.2.1.1/\FQ e.2.1.2.1
 ZQ:small=true->∀k (hk:k<Es.length),gB w (Wh Es[k]) (kM (cB.sp Es[k].1))/\Es[k].2.2=(dO (rs.take k):Nat)
def dP.read {w:World} {B p A:Nat} {K:Nat->Nat} {l:List Nat} (h:dP w B p A K l):∃g t v d b,Wm w p A (bq K l) g t v d b:=by
 obtain⟨N,I,v,b,z,a,F⟩:=h;have c:b.map (λe=>cB.sp e.1)=bq K l:=by rw[<-z,List.map_map];rfl
 have u:0<b.length:=by
  rw[<-List.length_map (f:=λe=>cB.sp e.1),c];exact List.length_pos_iff.2 (fD K l).1
 have m:gF (b.map (·.1))=dO (bq K l):=by rw[Ih,z]
 obtain⟨g,t,y,_,_,_,_⟩:=dC (f:=nC) yD rfl a.runs u;subst y;have o:b.length=(bq K l).length:=by rw[<-c,List.length_map]
 refine⟨g,t,v,_,b,c,by rw[<-o];exact a.is,λk i j G=>(a.cells i j G).1,λe n=>?_,λe n k i=>?_,λe n x D=>?_,by rw[<-m];exact F,by rw[m],a.shp,λH k i=>?_⟩
 ·obtain⟨la,lc,r,_,_⟩:=ak (a.Ae e n).1.1;exact⟨la,lc,r⟩
 ·obtain⟨E,s,r,_,_,_,C⟩:=dC (f:=fB) jC rfl (a.Ae e n).1.1 i;refine⟨E,s,r,(C 0 (by decide)).1,(C 1 (by decide)).1⟩
 ·have q:=((a.Ae e n).2 x D).1;rw[show x.2.2.length=(aM x.2.2).length by simp[aM]] at q;exact(Sl.aU q).any
 have q:=a.ZQ k i (by rw[if_pos H];exact i);refine⟨?_,?_⟩
 ·rw[<-Qt];exact q.1.weak
 rw[q.2,Ih,List.map_take,z]
end Go.Proofs.YtmnimbnojdndmaaGreatDoor
namespace Go.Proofs.YtmnimbnojdndmaaGreatDoor
open Go.RowKit Go.Cd _root_.Go.Proofs.Tryz
def oG {w:World} {B p r:Nat} {K:Nat->Nat} {l:List Nat} (h:dP w B p r K l) :
 Calls prog 13 #[.pointer (some ⟨p,0,none⟩)] w λe w'=>∃v,e=.returned v/\bT w' v (dO (bq K l))/\Below w.heap.size w w':=by
 obtain⟨g,x,y,n,u,o⟩:=h.read;have k:=o.size;obtain⟨d,b,c,a,f⟩:=k.out;injection a with a;injection a with a;injection a with a _;subst a;have s:=ah (w:=w) (.cells #[.slice none 0 0] 44);have q:=o.is.mono s;have:=q.at 2 rfl;have m:=Is.new w #[.slice none 0 0] 44;have:=m.at 0 rfl;have:=m.frozen 0;have j:=aa (k.mono (ah (w:=w) (.cells #[.slice d b c] 44)));have i:=ah (w:=w) (.cells #[.slice d b c] 44);have s0:=(Is.new w #[.slice d b c] 44).at 0 rfl;clear h o k f q m;go_enter func13,ntmps13;go_wp2;exact bodyPost_ret (v:=.agg #[.slice d b c]) (by simp[results,results13,go_sem,s0]) rfl ⟨_,rfl,j.out,i⟩
def Qu (w:World) (v:Value) (h:Int) (ms:List Int):Prop:=∃a,v=.agg #[.int .i64 h,a]/\Sl bB w a (bO ms)
def Qu.mono {w w':World} {v:Value} {h:Int} {ms:List Int} (k:Qu w v h ms) (a:Below w.heap.size w w'):Qu w' v h ms:=by
 obtain⟨c,b,d⟩:=k;exact⟨c,b,d.mono a⟩
def Z6 {w:World} {B p N:Nat} {K:Nat->Nat} {l:List Nat} (h:dP w B p N K l) (X:l.length<9000) {k:Nat} (t:k<(bq K l).length) :
 Calls prog 61 #[.pointer (some ⟨p,0,none⟩),.int .i64 k] w λe w'=>∃v,e=.returned v/\Qu w' v k (List.replicate (bq K l)[k].2.length 0)/\Below w.heap.size w w':=by
 obtain⟨g,Q,W,C,r,c⟩:=h.read;have G:k<r.length:=by rw[<-List.length_map (f:=λe=>cB.sp e.1),c.sp];exact t
 have i:cB.sp r[k].1=(bq K l)[k]:=by simp[<-c.sp]
 obtain⟨la,lc,x⟩:=c.sl _ (List.getElem_mem G);obtain⟨n,y⟩:=ae (r[k].1.2.2.length);have j:(bq K l)[k].2.length=n:=by rw[<-i,y];simp[cB.sp]
 have V:n<10000:=by
  have:=((fD K l).2.2 _ (List.getElem_mem t)).1;omega
 rw[<-y] at x;have F:w.cell? ⟨g,k*6+1,none⟩=some (.slice la n lc):=by rw[c.run k G 1 (by decide),<-x];rfl
 obtain⟨S,d⟩:=ae (w.alloc (.cells #[.int .i64 0,.slice none 0 0] 54));have A:=ah (w:=w) (.cells #[.int .i64 0,.slice none 0 0] 54);rw[<-d] at A;have H:=(c.is.mono A).at 1 rfl;obtain⟨R,b⟩:=ae ((bq K l).length);have Y:S.cell? ⟨p,1,none⟩=some (.slice (some ⟨g,0,none⟩) R Q):=by rw[b];exact H
 rw[j];rw[<-b] at t;have J:=aB A F;clear h c x y b i j H F;go_enter func61,ntmps61;subst d
 go_wp2_with (
  at_make
  refine gm _ rfl _ _ 23 rfl (w.heap.size+1) bB _ 8 jI rfl .i64 .i64 _ _ n rfl rfl (by omega) (by omega) (by omega) (by unfold maxLen;omega) (by simp) ?_;intro U E m;have a:=fO m;have q:=(Is.new w #[.int .i64 0,.slice none 0 0] 54).mono a;have T:=q.at 0 rfl;have O:=q.frozen 0;have o:=q.set 0 (.int .i64 k);have I:=o.at 1 rfl;have L:=o.frozen 1;have z:=o.set 1 (.slice (some ⟨w.heap.size+1,0,none⟩) n n);have u:=z.at 0 rfl;have s:=z.at 1 rfl;have P:=aa E;have M:=aa a
  clear E m a q o z)
 have D:=bn (bn P.out (k:=w.heap.size) (by simp[Value.ownBlock]) 0 (.int .i64 k)) (k:=w.heap.size) (by simp[Value.ownBlock]) 1 (.slice (some ⟨w.heap.size+1,0,none⟩) n n);rw[show List.replicate n (Value.int IntKind.i64 0)=bO (List.replicate n 0) by simp[bO]] at D;rw[show n=(bO (List.replicate n 0)).length by simp[bO]] at D;refine bodyPost_ret (v:=.agg #[.int .i64 k,.slice (some ⟨w.heap.size+1,0,none⟩) n n]) (by simp[results,results61,go_sem,u,s]) rfl ⟨_,rfl,⟨_,rfl,?_⟩,aj (aj (ah (w:=w) _ |>.trans (M.out.mono (by simp))) (Nat.le_refl _)) (Nat.le_refl _)⟩;have:=Sl.aU D;simpa [bO] using this
def Oz (w:World) (lv:Value) (L:List (Nat×List Nat)):Prop:=
 ∃la lc,lv=.slice la L.length lc/\∀k (d:k<L.length),∃a b c,la=some ⟨a,0,none⟩/\w.cell? ⟨a,k*2,none⟩=some (.int .i64 (L[k].1:Nat))/\
  w.cell? ⟨a,k*2+1,none⟩=some (.slice b L[k].2.length c)/\bG w (.slice b L[k].2.length c) (aM L[k].2)
def Oz.mono {w w':World} {c:Value} {L:List (Nat×List Nat)} (h:Oz w c L) (b:Below w.heap.size w w'):Oz w' c L:=by
 obtain⟨la,lc,g,j⟩:=h;refine⟨la,lc,g,λk a=>?_⟩;obtain⟨m,n,e,l,d,f,i⟩:=j k a;exact⟨m,n,e,l,aB b d,aB b f,i.mono b⟩
def af9 (w:World) (v:Value) (S:bS):Prop:=∃a e b h c d g z f,v=.agg #[.int .i32 S.1,a,.slice e b h,.slice c d g,.int .i64 z,.int .i64 f]/\Oz w a S.2
def gV (ms:List Int) (L:List (Nat×List Nat)):Bool:=(ms.zip L).all λx=>!decide (x.1<(x.2.2.length:Nat))
def Cm {w:World} {v u:Value} {S:bS} {I:Int} {ms:List Int} (h:af9 w v S) (hs:Qu w u I ms) (y:ms.length=S.2.length) (d:S.2.length<10000) (q:∀x∈S.2,x.2.length<10000) :
 Calls prog 70 #[v,u] w λe w'=>e=.returned (.bool (gV ms S.2))/\Below w.heap.size w w':=by
 obtain⟨lv,X,J,y1,Q,m2,y2,z,f,rfl,la,lc,rfl,L⟩:=h;obtain⟨sv,rfl,p⟩:=hs;obtain⟨U,T,rfl,_,N⟩:=bG.out p.any;rw[show(bO ms).length=ms.length by simp[bO],y];obtain⟨n,E⟩:=ae S.2.length;rw[<-E] at y d⊢;obtain⟨m,c⟩:=ae ((w.alloc (.cells #[.int .i32 S.1,.slice la n lc,.slice X J y1,.slice Q m2 y2,.int .i64 z,.int .i64 f] eX)).alloc (.cells #[.int .i64 I,.slice U n T] 54));have l:Below w.heap.size w m:=by rw[c];exact dH _ _
 have O:Is m w.heap.size #[.int .i32 S.1,.slice la n lc,.slice X J y1,.slice Q m2 y2,.int .i64 z,.int .i64 f] eX:=by rw[c];exact(Is.new _ _ _).mono (ah _)
 have W:Is m (w.heap.size+1) #[.int .i64 I,.slice U n T] 54:=by rw[c];exact Is.new' _ _ _ _ (by simp)
 have Z:=O.at 1 rfl;have M:=W.at 1 rfl;have HX:=aa N;have HK:=aa L;have V:=aa E;have K:=aa y;have HM:=aa q;have rW:n<10000:=d;clear N L E y q d p O W;go_enter func70,ntmps70;go_wp2_with fail;rw[<-c];clear c;go_loopw [5,6,10] (λ_ _ G wr=>∃i:Nat,i<=n/\G=.int .i64 i/\(((ms.zip S.2).take i).all λx=>!decide (x.1<(x.2.2.length:Nat)))=true/\Below m.heap.size m wr) (λ_ _ G _=>n-(intOf G).toNat)
 case atStart=>exact⟨0,Nat.zero_le _,rfl,rfl,Below.refl _ _⟩
 case round=>
  obtain⟨i,hi,rfl,a,g⟩:=hrel;by_cases ab:i<n
  ·have zi:=eG (show i<n by omega);have M8:i<S.2.length:=by have:=V.out;omega
   have s:i<ms.length:=by have:=K.out;omega
   obtain⟨b,off,rfl,_,A⟩:=HX.out i (by simpa [bO] using s);obtain⟨lg,va,vc,rfl,_,F,_⟩:=HK.out i M8;rw[show(bO ms)[i]'(by simpa [bO] using s)=.int .i64 ms[i] by simp[bO]] at A;obtain⟨D,C⟩:=ae (ms[i]);obtain⟨H,j⟩:=ae (S.2[i].2.length);rw[<-C] at A;rw[<-j] at F;have A:=aB g (aB l A);have F:=aB g (aB l F);have Z:=aB g Z;have M:=aB g M;have o:i<(ms.zip S.2).length:=by rw[List.length_zip];omega
   have t:(ms.zip S.2)[i]=(ms[i],S.2[i]):=List.getElem_zip;have r:=aa t;have B:=aa a;have Y:=aa C;have R:=aa j;clear t a C j;by_cases k:D<(H:Int)
   ·have P:decide (D<(H:Int))=true:=decide_eq_true k;go_wp2_with fail;go_ret;refine⟨?_,l.trans (g.mono l.size)⟩;have:gV ms S.2=false:=by
     unfold gV;rw[List.all_eq_false];refine⟨_,List.getElem_mem o,?_⟩;rw[r.out];simp only[<-Y.out,<-R.out];simp[k]
    rw[this];rfl
   have P:decide (D<(H:Int))=false:=decide_eq_false k;go_wp2_with fail;go_roundw
   case rel=>
    refine⟨i+1,by omega,by simp,?_,g⟩;rw[List.take_succ_eq_append_getElem o,List.all_append,B.out,r.out];simp only[<-Y.out,<-R.out,List.all_cons,List.all_nil,P];rfl
   case measure=>simp[intOf];omega
  have zi:=gI (show n<=i by omega);obtain rfl:i=n:=by omega
  have ht:(ms.zip S.2).take i=ms.zip S.2:=List.take_of_length_le (by rw[List.length_zip,K.out,<-V.out];omega);rw[ht] at a;have B:=aa a;clear a ht;go_wp2_with fail;go_ret;refine⟨?_,l.trans (g.mono l.size)⟩;have:gV ms S.2=true:=B.out;rw[this];rfl
end Go.Proofs.YtmnimbnojdndmaaGreatDoor
namespace Go.Proofs.YtmnimbnojdndmaaGreatDoor
open Go.RowKit Go.Cd
def Cn:List Nat->Nat->List Nat
 | [],_=>[]
 | _::bs,i=>i / aW bs::Cn bs (i % aW bs)
@[simp] theorem uT:∀(bs:List Nat) (i:Nat),(Cn bs i).length=bs.length
  | [],_=>rfl
  | _::bs,i=>by simp[Cn,uT bs]
def FV:∀(bs:List Nat) (j:Nat),aW (bs.drop j) ∣ aW bs
 | [],j=>by simp
 | b::bs,0=>Nat.dvd_refl _
 | b::bs,j+1=>Nat.dvd_trans (FV bs j) ⟨b,by simp[aW,Nat.mul_comm]⟩
def Ay:∀(bs:List Nat) (i j:Nat) (h:j<bs.length),(∀b∈bs,1<=b)->i<aW bs->(Cn bs i)[j]'(by simpa using h)=i / aW (bs.drop (j+1)) % bs[j]
 | b::bs,i,0,h,hp,hi=>by
   have d:i / aW bs<b:=Nat.div_lt_of_lt_mul (by rw[Nat.mul_comm];exact hi);simp[Cn,Nat.mod_eq_of_lt d]
 | b::bs,i,j+1,h,hp,hi=>by
   have a:∀b∈bs,1<=b:=λc l=>hp c (List.mem_cons_of_mem _ l);have e:j<bs.length:=by simpa using h
   have g:=jD a;have k:=Ay bs (i % aW bs) j e a (Nat.mod_lt _ g);simp only[Cn,List.getElem_cons_succ,List.drop_succ_cons];rw[k,<-Nat.mod_mul_right_div_self,<-Nat.mod_mul_right_div_self,Nat.mod_mod_of_dvd];have f:=FV bs j;rw[lY e] at f;rw[Nat.mul_comm];exact f
def ac3 {bs:List Nat} {i j:Nat} (h:j<bs.length) (a:∀b∈bs,1<=b) (c:i<aW bs):(Cn bs i)[j]'(by simpa using h)<bs[j]:=by
 rw[Ay bs i j h a c];exact Nat.mod_lt _ (a _ (List.getElem_mem _))
def Wn (bs:List Nat) (n:Nat) (c:∀b∈bs,1<=b) (g:n<aW bs) (f:List Int) (e:f=(Cn bs n).map (λd:Nat=>(d:Int))):∀j,j<=bs.length->gU bs f j=n / aW (bs.drop j):=by
 intro j
 induction j with
 | zero=>intro _;simp[gU,Nat.div_eq_of_lt g]
 | succ j ih=>
   intro l;have a:j<bs.length:=by omega
   have:=jD (bs:=bs.drop (j+1)) (λb h=>c b (List.mem_of_mem_drop h));have:=c _ (List.getElem_mem a);subst e;simp only[gU,ih (by omega),List.getElem?_eq_getElem a,Option.getD_some,List.getElem?_map,List.getElem?_eq_getElem (show j<(Cn bs n).length by simpa using a),Option.map_some];rw[Ay bs n j a c g,lY a,Int.toNat_natCast];rw[Nat.mul_comm bs[j],<-Nat.div_div_eq_div_mul,Nat.mul_comm];exact Nat.div_add_mod _ _
end Go.Proofs.YtmnimbnojdndmaaGreatDoor
namespace Go.Proofs.YtmnimbnojdndmaaGreatDoor
open Go.RowKit Go.Cd _root_.Go.Proofs.Tryz
def aga {w:World} {v:Value} {bs:List Nat} (h:gB w v bs) (a:∀b∈bs,1<=b) (c:aW bs<=1073741824) (i:Int) :
 Calls prog 92 #[v,.int .i64 i] w λe w'=>e=.returned (.bool (decide (0<=i/\i<(aW bs:Nat))))/\Below w.heap.size w w':=by
 have l:=h;obtain⟨d,j,f,k,rfl,_⟩:=h.out;have g:=ah (w:=w) (.cells #[.slice d bs.length j,.slice f bs.length k,.int .i64 (aW bs:Nat)] dh);have o:qj (w.alloc (.cells #[.slice d bs.length j,.slice f bs.length k,.int .i64 (aW bs:Nat)] dh)) w.heap.size (.slice d bs.length j) (.slice f bs.length k) (.int .i64 (aW bs:Nat)) dh:=⟨heap_alloc_new' _ _ _ rfl⟩;obtain⟨q,r,s⟩:=o.cell;have n:=aa (H6 (l.mono g) a c);clear h l a;by_cases h0:0<=i
 ·go_enter func92,ntmps92;go_wp2_with fail;refine n.out.mono ?_;rintro e p⟨rfl,m⟩;go_wp2;go_ret;exact⟨by simp[h0],af g m⟩
 go_enter func92,ntmps92;go_wp2;go_ret;exact⟨by simp;omega,g⟩
def Wo {w:World} {v:Value} {bs:List Nat} (h:gB w v bs) (a:∀b∈bs,1<=b) (k:aW bs<=1073741824) {i j:Nat} (x:i<aW bs) (d:j<bs.length) :
 Calls prog 93 #[v,.int .i64 i,.int .i64 j] w λe w'=>e=.returned (.int .i64 ((Cn bs i)[j]'(by simpa using d):Nat))/\Below w.heap.size w w':=by
 have E:=aa (Ay bs i j d a x);obtain⟨H,r,J,s,rfl,_,B,C,g,f⟩:=h.out;obtain⟨o,m,rfl,t,u⟩:=g j d;obtain⟨l,n,rfl,q,y⟩:=f j d;have c:=ah (w:=w) (.cells #[.slice (some ⟨o,m,none⟩) bs.length r,.slice (some ⟨l,n,none⟩) bs.length s,.int .i64 (aW bs:Nat)] dh);have z:qj (w.alloc (.cells #[.slice (some ⟨o,m,none⟩) bs.length r,.slice (some ⟨l,n,none⟩) bs.length s,.int .i64 (aW bs:Nat)] dh)) w.heap.size (.slice (some ⟨o,m,none⟩) bs.length r) (.slice (some ⟨l,n,none⟩) bs.length s) (.int .i64 (aW bs:Nat)) dh:=⟨heap_alloc_new' _ _ _ rfl⟩;obtain⟨F,K,L⟩:=z.cell;have u:=(c.cell (p:=⟨o,m+j,none⟩) t).trans u;have y:=(c.cell (p:=⟨l,n+j,none⟩) q).trans y;have:=jD (bs:=bs.drop (j+1)) (λb c=>a b (List.mem_of_mem_drop c));have:=a _ (List.getElem_mem d);have:i<1073741824:=by omega
 clear h g f a k x;generalize (Cn bs i)[j]'(by simpa using d)=D at *;generalize bs[j]=b at *;generalize aW (bs.drop (j+1))=Q at *;generalize aW bs=P at *;go_enter func93,ntmps93;go_wp2_with fail;go_quiet (fail);go_wp2;go_ret;have A:wrap64 ((i:Int) / (Q:Int))=((i / Q:Nat):Int):=by
  rw[<-Int.natCast_ediv];have:=Nat.div_le_self i Q;exact wr1 (by omega)
 refine⟨?_,⟨c.os,c.tape,c.output,c.size,c.block⟩⟩;show Ending.returned (.int .i64 ((wrap64 ((i:Int) / (Q:Int))).tmod (b:Int)))=_;rw[A,E.out,Int.ofNat_tmod]
end Go.Proofs.YtmnimbnojdndmaaGreatDoor
namespace Go.Proofs.YtmnimbnojdndmaaGreatDoor
open Go.RowKit Go.Cd
abbrev eZ:=Nat×List Nat
def nz (l:List Nat):List Int:=l.map λd:Nat=>(d:Int)
@[simp] theorem jF (l:List Nat):(nz l).length=l.length:=by simp[nz]
def Z8 (l:List Nat):bO (nz l)=ds l:=by simp[bO,nz,ds]
def aL (R:List bS) (h:Nat):bS:=R.getD h (0,[])
def df {R:List bS} {h:Nat} (a:h<R.length):aL R h=R[h]:=by unfold aL;rw[List.getD_eq_getElem?_getD,List.getElem?_eq_getElem a];rfl
structure eQ (R:List bS) (s:eZ):Prop where
 lt:s.1<R.length
 len:s.2.length=(aL R s.1).2.length
 le:∀i (a:i<s.2.length) (b:i<(aL R s.1).2.length),s.2[i]<=((aL R s.1).2[i]).2.length
def Co (R:List bS) (s:eZ):Bool:=decide (s.1+1=R.length)&&gV (nz s.2) (aL R s.1).2
def ed (n c:Nat) (ms:List Nat) (L:List (Nat×List Nat)) (i:Nat):Bool:=
 decide ((L.getD i (0,[])).1=n)&&decide (ms.getD i 0<(L.getD i (0,[])).2.length)&&decide ((L.getD i (0,[])).2.getD (ms.getD i 0) 0=c)
def iy (K:Nat->Nat) (R:List bS) (s:eZ) (c:Nat):Option eZ:=
 if K c=0 then (if gV (nz s.2) (aL R s.1).2=true/\s.1+1<R.length/\(aL R (s.1+1)).1=c then some (s.1+1,List.replicate (aL R (s.1+1)).2.length 0) else none)
 else ((List.range (aL R s.1).2.length).find? (ed (K c) c s.2 (aL R s.1).2)).map λi=>(s.1,s.2.set i (s.2.getD i 0+1))
def wY {K:Nat->Nat} {R:List bS} {s l:eZ} {c:Nat} (h:eQ R s) (e:iy K R s c=some l):eQ R l:=by
 unfold iy at e
 split at e
 ·split at e
  ·rename_i m;cases e;refine⟨m.2.1,by simp,λi a b=>?_⟩;simp
  cases e
 rw[Option.map_eq_some_iff] at e;obtain⟨i,k,rfl⟩:=e;have f:i<(aL R s.1).2.length:=by simpa using List.mem_of_find?_eq_some k
 have d:=List.find?_some k;unfold ed at d;simp only[Bool.and_eq_true,decide_eq_true_eq] at d;have n:(aL R s.1).2.getD i (0,[])=(aL R s.1).2[i]:=by rw[List.getD_eq_getElem?_getD,List.getElem?_eq_getElem f];rfl
 rw[n] at d;refine⟨h.lt,by simpa using h.len,λj a b=>?_⟩;simp only[List.getElem_set]
 split
 ·rename_i g;subst g;exact d.1.2
 exact h.le j (by simpa using a) b
def fw (K:Nat->Nat) (F:Nat->List Nat) (R:List bS) (s:eZ) (c:Nat):Option eZ:=(F c).foldlM (iy K R) s
def Lu {α β:Type} {P:α->Prop} {f:α->β->Option α} (hf:∀a b c,P a->f a b=some c->P c):∀(l:List β) (a c:α),P a->l.foldlM f a=some c->P c
 | [],a,c,h,e=>by
   have:a=c:=by simpa using e
   exact this▸h
 | b::l,a,c,h,e=>by
   rw[List.foldlM_cons] at e;cases d:f a b with
   | none=>rw[d] at e;cases e
   | some a2=>
     rw[d] at e;exact Lu hf l a2 c (hf a b a2 h d) e
def Cq {K:Nat->Nat} {F:Nat->List Nat} {R:List bS} {s a:eZ} {c:Nat} (h:eQ R s) (e:fw K F R s c=some a):eQ R a:=
 Lu (λ_ _ _ h e=>wY h e) (F c) s a h e
def lZ (ms:List Nat) (L:List (Nat×List Nat)) (i:Nat):List Nat:=
 if ms.getD i 0<(L.getD i (0,[])).2.length then [(L.getD i (0,[])).2.getD (ms.getD i 0) 0] else []
def gW (ms:List Nat) (L:List (Nat×List Nat)) (n:Nat):List Nat:=(List.range n).flatMap (lZ ms L)
def ko (R:List bS) (s:eZ):List Nat:=
 if gW s.2 (aL R s.1).2 (aL R s.1).2.length=[] then (if s.1+1<R.length then [(aL R (s.1+1)).1] else []) else gW s.2 (aL R s.1).2 (aL R s.1).2.length
def zS (ms:List Nat) (L:List (Nat×List Nat)) (n:Nat):gW ms L (n+1)=gW ms L n++lZ ms L n:=by
 unfold gW;rw[List.range_succ,List.flatMap_append];simp
def uU (ms:List Nat) (L:List (Nat×List Nat)) (n:Nat):(gW ms L n).length<=n:=by
 induction n with
 | zero=>simp[gW]
 | succ n ih=>
   rw[zS,List.length_append];have:(lZ ms L n).length<=1:=by unfold lZ;split <;> simp
   omega
def Cr (R:List bS) (s:eZ):(ko R s).length<=(aL R s.1).2.length+1:=by
 unfold ko
 split
 ·split <;> simp
 have:=uU s.2 (aL R s.1).2 (aL R s.1).2.length;omega
def pO (K:Nat->Nat) (F Bg:Nat->List Nat) (R:List bS) (s:eZ):List Nat:=(ko R s).flatMap λx=>(Bg x).filter λc=>(fw K F R s c).isSome
def fK (R:List bS) (s:eZ):Nat:=dO (R.take s.1)+gU (kM (aL R s.1)) (nz s.2) (kM (aL R s.1)).length
def eO (r:bS):(kM r).length=r.2.length:=by simp[kM]
def Ii {r:bS} {i:Nat} (a:i<r.2.length):(kM r)[i]'(by rw[eO];exact a)=r.2[i].2.length+1:=by simp[kM]
def pQ (r:bS):∀b∈kM r,1<=b:=by
 intro b a;obtain⟨x,_,rfl⟩:=List.mem_map.1 a;exact Nat.le_add_left _ _
def uV (r:bS):xD r=aW (kM r):=(Li _).symm
def wZ (r:bS) (R:List bS):dO (r::R)=xD r+dO R:=by simp[dO]
def jW {R:List bS} {k:Nat} (a:k<R.length):dO (R.take (k+1))=dO (R.take k)+xD R[k]:=by
 unfold dO;rw[List.take_succ_eq_append_getElem a,List.map_append,List.sum_append];simp
def gG (R:List bS) (k:Nat):dO (R.take k)<=dO R:=by
 conv=>rhs;rw[<-List.take_append_drop k R]
 unfold dO;rw[List.map_append,List.sum_append];omega
def Qv (r:bS):1<=xD r:=by rw[uV];exact jD (pQ r)
def eQ.vld {R:List bS} {s:eZ} (h:eQ R s):wX (kM (aL R s.1)) (nz s.2)=true:=by
 rw[oF];refine⟨by rw[jF,eO];exact h.len,λj b a=>?_⟩;rw[jF] at b;rw[eO] at a;have:=h.le j b a;rw[Ii a];simp only[nz,List.getElem_map];omega
def Az {R:List bS} {s:eZ} (h:eQ R s):gU (kM (aL R s.1)) (nz s.2) (kM (aL R s.1)).length<xD (aL R s.1):=by
 have a:=(oF _ _).1 h.vld;have:=Hz (bs:=kM (aL R s.1)) (l:=nz s.2) (kM (aL R s.1)).length (Nat.le_refl _) (Nat.le_of_eq a.1.symm) (λt b c _=>a.2 t b c);rw[List.drop_length] at this;rw[uV];simp only[aW,Nat.mul_one] at this;exact this
def nD {R:List bS} {s:eZ} (h:eQ R s):fK R s<dO R:=by
 have:=Az h;have a:=jW h.lt;have:=gG R (s.1+1);rw[<-df h.lt] at a;unfold fK;omega
def sW:List bS->Nat->eZ
 | [],_=>(0,[])
 | r::R,i=>if i<xD r then (0,Cn (kM r) i) else ((sW R (i-xD r)).1+1,(sW R (i-xD r)).2)
def Wp:∀{R:List bS} {i k:Nat} (a:k<R.length),dO (R.take k)<=i->i-dO (R.take k)<xD R[k]->sW R i=(k,Cn (kM R[k]) (i-dO (R.take k)))
 | [],_,_,a,_,_=>absurd a (by simp)
 | r::R,i,0,_,_,h2=>by
   simp only[List.take_zero,List.getElem_cons_zero] at h2⊢;have:dO []=0:=rfl;rw[this] at h2⊢;rw[Nat.sub_zero] at h2⊢;show(if i<xD r then _ else _)=_;rw[if_pos h2]
 | r::R,i,k+1,a,h1,h2=>by
   simp only[List.take_succ_cons,List.getElem_cons_succ,wZ] at h1 h2⊢;have b:¬i<xD r:=by omega
   show(if i<xD r then _ else _)=_;rw[if_neg b];rw[Wp (R:=R) (i:=i-xD r) (k:=k) (by simpa using a) (by omega) (by rw[show i-xD r-dO (R.take k)=i-(xD r+dO (R.take k)) by omega];exact h2)];rw[show i-xD r-dO (R.take k)=i-(xD r+dO (R.take k)) by omega]
def uW:∀{R:List bS} {i:Nat},i<dO R->eQ R (sW R i)
 | [],i,h=>absurd h (by simp[dO])
 | r::R,i,h=>by
   rw[wZ] at h;unfold sW;by_cases c:i<xD r
   ·rw[if_pos c];rw[uV] at c;refine⟨by simp,?_,λj a b=>?_⟩
    ·show(Cn (kM r) i).length=r.2.length;rw[uT,eO]
    have f:j<r.2.length:=b;have:=ac3 (bs:=kM r) (i:=i) (j:=j) (by rw[eO];exact f) (pQ r) c;rw[Ii f] at this;exact Nat.le_of_lt_succ this
   rw[if_neg c];have d:=uW (R:=R) (i:=i-xD r) (by omega);have e:aL (r::R) ((sW R (i-xD r)).1+1)=aL R (sW R (i-xD r)).1:=rfl;refine⟨by simpa using d.lt,?_,λj a b=>?_⟩
   ·rw[e];exact d.len
   have:=d.le j a (by rw[e] at b;exact b);exact this
def jk (R:List bS) (opt:eZ->List Nat) (nS:eZ->Nat->Option eZ) (l:List Nat) (i:Nat):Nat:=
 if Co R (sW R i)=true then 1 else ((opt (sW R i)).map λc=>(match nS (sW R i) c with|some s=>l.getD (fK R s) 0|none=>0)).sum
def jl (R:List bS) (opt:eZ->List Nat) (nS:eZ->Nat->Option eZ) (n:Nat):Nat->List Nat
 | 0=>List.replicate n 0
 | j+1=>(jl R opt nS n j).set (n-1-j) (jk R opt nS (jl R opt nS n j) (n-1-j))
def FW (R:List bS) (opt:eZ->List Nat) (nS:eZ->Nat->Option eZ) (n j:Nat):(jl R opt nS n j).length=n:=by
 induction j with
 | zero=>simp[jl]
 | succ j ih=>rw[jl,List.length_set,ih]
def Ij {α:Type} (f:α->Nat) (b:Nat):∀(l:List α),(∀x∈l,f x<=b)->(l.map f).sum<=l.length*b
 | [],_=>by simp
 | x::l,h=>by
   have:=Ij f b l λy a=>h y (.tail _ a);have:=h x (.head _);rw[List.map_cons,List.sum_cons,List.length_cons,Nat.succ_mul];omega
def one_le_pow {M:Nat} (h:1<=M) (j:Nat):1<=M ^ j:=Nat.pow_pos h
def Lv {R:List bS} {opt:eZ->List Nat} {nS:eZ->Nat->Option eZ} {l:List Nat} {i M P:Nat} (e:1<=M) (d:1<=P) (b:(opt (sW R i)).length<=M) (g:∀x∈l,x<=P):jk R opt nS l i<=M*P:=by
 have f:1<=M*P:=Nat.mul_pos e d;unfold jk
 split
 ·exact f
 refine Nat.le_trans (Ij _ P _ λc _=>?_) (Nat.mul_le_mul_right P b)
 split
 ·rename_i s _;rw[List.getD_eq_getElem?_getD];by_cases a:fK R s<l.length
  ·rw[List.getElem?_eq_getElem a];exact g _ (List.getElem_mem a)
  rw[List.getElem?_eq_none (by omega)];exact Nat.zero_le _
 exact Nat.zero_le _
def Lx {R:List bS} {opt:eZ->List Nat} {nS:eZ->Nat->Option eZ} {M:Nat} (a:1<=M) (b:∀i,i<dO R->(opt (sW R i)).length<=M):∀j,j<=dO R->∀x∈jl R opt nS (dO R) j,x<=M ^ j
 | 0,_,x,hx=>by
   rw[jl] at hx;rw[List.eq_of_mem_replicate hx];exact Nat.zero_le _
 | j+1,hj,x,hx=>by
   have c:=Lx (nS:=nS) a b j (by omega);rw[jl] at hx;rcases List.mem_or_eq_of_mem_set hx with h|rfl
   ·exact Nat.le_trans (c x h) (Nat.pow_le_pow_right a (Nat.le_succ j))
   have:=Lv (R:=R) (opt:=opt) (nS:=nS) (i:=dO R-1-j) a (one_le_pow a j) (b _ (by omega)) c
   rwa [Nat.pow_succ,Nat.mul_comm]
end Go.Proofs.YtmnimbnojdndmaaGreatDoor
