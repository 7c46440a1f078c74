/- Texts that are alike cost, and count, the same; no condition. -/
import Derived.Test.YtmnimbnojdndmaaGreatDoorU19
set_option maxRecDepth 100000
set_option maxHeartbeats 6400000
set_option linter.all false
namespace Go.Proofs.YtmnimbnojdndmaaGreatDoor
open Go.RowKit Go.Cd _root_.Go.Proofs.Tryz
variable {w:World} {T:List aG} {X:List Nat}
abbrev aao:TypeId:=33
def aap:Elem prog 61 aao (.pointer none) 8:=⟨rfl,underlying61,info_parts (by kernel_rfl)⟩
def dP.iQ {w':World} {t:TypeId} {a p b:Nat} {K:Nat->Nat} {l:List Nat} (h:dP w a p b K l) (c:bJ w w' t) (n:84≠t) (v:eX≠t) (u:fu≠t) (r:aN≠t) (j:bB≠t) (q:nI≠t):dP w' a p b K l:=by
 obtain⟨N,g,o,i,m,h,s⟩:=h;exact⟨N,g,o,i,m,⟨c.is h.is n,c.own h.runs v,λe x=>(h.Ae e x).keep (.fV c u N h.hi.2) (.fV c r N h.hi.2),h.low,⟨h.hi.1,gS h.hi.2 c.size⟩,h.shp,λk f d=>⟨(h.ZQ k f d).1.iQ c j,(h.ZQ k f d).2⟩⟩,bT.iQ s c q⟩
def L_ (p:Nat):Value:=.pointer (some ⟨p,0,none⟩)
def Pg (hG:nk w) (h0:0<w.heap.size) {dp:Nat} (hD:cK w dp T X) (F:aY T X) (zT:T.length<1000) (L:List Nat) (A:∀c∈L,aP c) (V:(gQ T L).length<400) :
 Calls prog 24 #[.pointer (some ⟨dp,0,none⟩),.string (tx (dQ L))] w λe w'=>∃v,e=.returned (.tuple #[v,.int .i64 0])/\WO w' v dp (ai T) (bf (kF T) (gQ T L))/\Below w.heap.size w w':=by
 have D:=aa (VM hG h0 hD F zT L A (by rw[<-wR];omega));have B:=nG.of F L;have J:=qZ F A;obtain⟨l,hl⟩:=ae (gQ T L);rw[<-hl] at D B J V⊢;obtain⟨sL,I⟩:=ae (tx (dQ L));rw[<-I] at D⊢;have DC:=aa (λ(W:World) (E:Below w.heap.size w W)=>vX (hG.mono E).heads l J (by omega));have ab:=oH (ap:=kF T) l [];have Eb:(bf (kF T) l).length<=l.length:=by simpa [bf] using ab
 have TN:=aa (λ(W:World) (E:Below w.heap.size w W) (v:Value) (u:List Nat) (hu:u∈bf (kF T) l) (hv:bG W v (aM u))=>Lr (hD.mono E) F u hv (λc h=>(J c (sH hu c h)).1) (vg (by rw[gH];exact B.ord) u hu) (by
  have h1:u.length<=(bf (kF T) l).flatten.length:=pA (nB hu);rw[gH] at h1
  omega))
 obtain⟨us,ze⟩:=ae (bf (kF T) l);simp only[<-ze] at TN Eb⊢;have SU:∀(W:World),Below w.heap.size w W->∀(v:Value),bG W v (aM l)->Calls prog 58 #[.pointer (some ⟨dp,0,none⟩),v] W λe w'=>∃r f,e=.returned r/\w'.ownsRow W.heap.size eSl 1 r us.length f/\f.length=us.length/\(∀k (y:k<us.length),∃u,f[k]? = some u/\w'.ownsRow W.heap.size aN 1 u (us[k]).length (aM us[k]))/\Below W.heap.size W w':=λW E v hv=>by
  subst ze;exact L6 (hD.mono E) F zT l hv J (by omega)
 have SU:=aa SU;obtain⟨s,hs⟩:=ae (tx (dQ l));rw[<-hs] at D DC;clear hG h0 hD B J ab ze hs I hl A;go_enter func24,ntmps24;go_wp2_with fail;refine D.out.mono ?_;rintro e w1⟨rfl,q⟩;have am:=q.size;go_wp2_with fail;refine(DC.out w1 q).mono ?_;rintro e w2⟨r2,rfl,o2,N⟩;have p:=q.trans (N.mono am);have an:=p.size;have t:=(Sl.aU (by rw[<-bF] at o2;exact o2)).any;obtain⟨a2,c2,rfl,_,_⟩:=ak o2;go_wp2_with fail;refine(SU.out w2 p _ t).mono ?_;rintro e O⟨r3,f,rfl,o3,C,ac,H⟩;have M:=p.trans (H.mono an);have al:=M.size;obtain⟨n,B⟩:=ae us.length;rw[<-B] at o3 C;obtain⟨a3,c3,rfl,_,_⟩:=ak o3;have HN:=aa B;have af:=aa ac;have au:=aa C;have O3:=aa o3;have rW:n<400:=by omega
 clear D DC SU B C ac o2 t q N H p o3;go_wp2_with fail;go_loopw [10,12,31] (λo _ jv wr=>∃j:Nat,j<=n/\jv=.int .i64 j/\(∃i:List Nat,i.length=j/\wr.ownsRow O.heap.size aao 1 o j (i.map L_)/\∀k (y:k<i.length) (P:k<us.length),∃U,dP wr U i[k] dp (ai T) us[k])/\Below O.heap.size O wr) (λ_ _ jv _=>n-(intOf jv).toNat)
 case atStart=>exact⟨0,gW _,rfl,⟨[],rfl,iu _ _ _ _,λk y=>absurd y (by simp)⟩,gO _ _⟩
 case round=>
  obtain⟨j,hj,rfl,⟨i,aj,d,m⟩,hE⟩:=hrel;have ji:=M.trans (hE.mono al);have Je:=ji.size;have aq:=hE.size;by_cases ar:j<n
  ·have zj:=eG (show j<n by omega);have Z:j<us.length:=by have:=HN.out;omega
   obtain⟨b,cap,he,_,_,_,_,a⟩:=dz O3.out (show 0<n by omega);injection he with z _ R;subst z R;obtain⟨x,hx,g⟩:=af.out j Z;have c0:=aB hE (a j x hx);have g:=aH g hE;obtain⟨ax,cx,rfl,_,_⟩:=ak g;have ad:bG wr (.slice ax us[j].length cx) (aM us[j]):=(Sl.aU g).any;have Q:=aa (TN.out wr ji _ us[j] (gx Z) ad);obtain⟨lx,Y⟩:=ae (us[j].length);rw[<-Y] at c0 Q;have Uy:=aa m;clear a hx g ad Y m;go_wp2_with fail;refine Q.out.mono ?_;rintro e w7⟨K,rfl,hM,jh⟩;have ag:=aH d jh;have uK:=hE.trans (jh.mono aq);have HM:=aa hM;clear hM
   go_wp2_with (
    at_builtin
    refine f_ rfl _ _ 61 rfl O.heap.size aao _ 8 aap _ j _ rfl ag (L_ K) rfl rfl (by omega) (by unfold maxLen;omega) O uK (gw _) ?_
    intro v8 w8 o8 kL ao OT)
   go_roundw
   case rel=>
    have WQ:=ah (w:=w7) (.cells #[L_ K] aao);have ch:=bJ.bQ ao OT;refine⟨j+1,by omega,by simp,⟨i++[K],by simp[aj],by rw[js];exact o8,λk y P=>?_⟩,kL⟩;by_cases S:k<i.length
    ·obtain⟨U,h⟩:=Uy.out k S P;rw[rF S];exact⟨U,(((h.mono jh).mono WQ).iQ ch (by decide) (by decide) (by decide) (by decide) (by decide) (by decide))⟩
    obtain rfl:k=j:=by rw[d'] at y;simp at y;omega
    refine⟨wr.heap.size,?_⟩;have:(i++[K])[k]=K:=by rw[vt (by omega)];simp
    rw[this];exact((HM.out.mono WQ).iQ ch (by decide) (by decide) (by decide) (by decide) (by decide) (by decide))
   case measure=>simp[intOf];omega
  have zj:=gI (show n<=j by omega);obtain rfl:j=n:=by omega
  obtain⟨oa,oc,rfl,_,_⟩:=ak d;have HR:=aa d;have Uy:=aa m;clear d m;go_wp2;go_ret2;refine⟨_,rfl,⟨oa,oc,by rw[HN.out];rfl,λk y=>?_⟩,ji⟩;obtain⟨b,cap,he,_,_,_,_,a⟩:=dz HR.out (show 0<j by have:=HN.out;omega);injection he with z _ R;subst z;have G:k<i.length:=by have:=HN.out;omega
  obtain⟨U,h⟩:=Uy.out k G y;refine⟨b,0,i[k],U,rfl,?_,h⟩;rw[kh];exact a k (L_ i[k]) (by rw[nE,gA G];rfl)
def abx (G:nk w) {B:Nat} (D:cK w B T X) (z:aY T X) (V:T.length<1000) (L:List Nat) (h:∀c∈L,aP c) (d:(gQ T L).length<400) :
 Calls prog 22 #[.pointer (some ⟨B,0,none⟩),.string (tx (dQ L))] w λe w'=>∃r,e=.returned (.tuple #[r,.int .i64 0])/\bT w' r (eF (ai T) (bf (kF T) (gQ T L)))/\Below w.heap.size w w':=by
 have g:=ah (w:=w) (.cells #[.slice none 0 0] eD);have k:=aa (Pg (G.mono g) (by simp) (D.mono g) z V L h d);have E:=nG.of z L;have J:=qZ z h;obtain⟨l,I⟩:=ae (gQ T L);rw[<-I] at k E J d⊢;have U:(bf (kF T) l).length<=l.length:=by simpa [bf] using oH (ap:=kF T) l []
 have j:∀u∈bf (kF T) l,u.length<9000:=λu R=>by
  have S:u.length<=(bf (kF T) l).flatten.length:=pA (nB R);rw[gH] at S;omega
 have C:=aa (λ(W:World) (v:Value) (Q:WO W v B (ai T) (bf (kF T) l))=>Tu Q j (by omega));obtain⟨us,F⟩:=ae (bf (kF T) l);simp only[<-F] at k C⊢;obtain⟨s,K⟩:=ae (tx (dQ L));rw[<-K] at k⊢;have a:=Is.new w #[.slice none 0 0] eD;clear G D E J I h U j F K;go_enter func22,ntmps22;go_wp2_with fail;refine k.out.mono ?_;rintro e N⟨Z,rfl,y,f⟩;have:=f.size;obtain⟨a1,c1,rfl,_⟩:=id y;have M:=aa y;have m:=af g f;have a:=a.mono f;clear y k;go_wp2_with fail;refine(C.out N _ M.out).mono ?_;rintro e w2⟨Y,rfl,t,i⟩;obtain⟨q,x,p,rfl,t⟩:=t.out;have a:=a.mono i;have:=a.at 0 rfl;have:=a.frozen 0;have H:=a.set 0 (.slice q x p);have P:=H.at 0 rfl;have A:=aa (bT.iQ t (bJ.put (o:=0) a (.slice q x p)) (by decide));have n:=aa (aj (off:=0) (u:=.slice q x p) (b:=w.heap.size) (m.trans (i.mono m.size)) (gw _));clear t a H;go_wp2_with fail;exact bodyPost_ret (v:=.tuple #[.agg #[.slice q x p],.int .i64 0]) (by simp[results,results22,go_sem,P]) rfl ⟨_,rfl,A.out,n.out⟩
abbrev aaq:TypeId:=37
def aar:Elem prog 64 aaq (.pointer none) 8:=⟨rfl,underlying64,info_parts (by kernel_rfl)⟩
def jX.agG {w':World} {t:TypeId} {i e g f:Nat} {d:List Nat} (h:jX w i e g f d) (c:bJ w w' t) (p:QB≠t) (j:eD≠t) (v:nI≠t):jX w' i e g f d:=by
 obtain⟨o,b,u,s⟩:=h;refine⟨c.is o p,b,c.own u j,λk r=>?_⟩;obtain⟨a,n,m,q,l⟩:=s k r;exact⟨a,n,m,q,bT.iQ l c v⟩
def ak3 (w:World) (v:Value) (dp:Nat) (T:List aG) (us:List (List Nat)):Prop:=
 ∃a c,v=.slice a us.length c/\∀k (i:k<us.length),∃b off d g e h f,a=some ⟨b,off,none⟩/\w.cell? ⟨b,off+k,none⟩=some (.pointer (some ⟨d,0,none⟩))/\jX w h d g e (l6 T us[k])/\dP w f e dp (ai T) us[k]
def CW:∀{l:List Nat} {x:Nat},x∈l->x<=l.sum
 | y::l,x,h=>by
   rw[pd];rcases jf.1 h with rfl|h
   ·omega
   have:=CW h;omega
def Gb {K:Nat->Nat} {us:List (List Nat)} {u:List Nat} (h:u∈us):dO (bq K u)<=eF K us:=by
 unfold eF;exact CW (jx.2 ⟨u,h,rfl⟩)
def Ph (hG:nk w) (h0:0<w.heap.size) {Q:Nat} (hD:cK w Q T X) (hV:aY T X) (zT:T.length<1000) (L:List Nat) (M:∀c∈L,aP c) (D:(gQ T L).length<400) (r:Nat) (aM:r<9223372036854775808) :
 Calls prog 25 #[.pointer (some ⟨Q,0,none⟩),.string (tx (dQ L)),.int .i64 (r:Nat)] w λe w'=>Below w.heap.size w w'/\
  (eF (ai T) (bf (kF T) (gQ T L))<=min r 16384->∃v,e=.returned (.tuple #[v,.int .i64 0])/\ak3 w' v Q T (bf (kF T) (gQ T L)))/\(¬eF (ai T) (bf (kF T) (gQ T L))<=min r 16384->e=.returned (.tuple #[.slice none 0 0,.int .i64 9])):=by
 have S:=aa (Pg hG h0 hD hV zT L M D);have P:=nG.of hV L;have hc:=qZ hV M;obtain⟨l,hl⟩:=ae (gQ T L);rw[<-hl] at S P hc D⊢;have Eb:(bf (kF T) l).length<=l.length:=by simpa [bf] using oH (ap:=kF T) l []
 have q:∀u∈bf (kF T) l,u.length<400:=λu p=>by
  have h1:u.length<=(bf (kF T) l).flatten.length:=pA (nB p);rw[gH] at h1;omega
 have CO:=aa (λ(W:World) (v:Value) (hv:WO W v Q (ai T) (bf (kF T) l))=>Tu hv (λu p=>yW (q u p) (by decide)) (by omega));have NW:=aa (λ(W:World) (E:Below w.heap.size w W) (x m:Nat) (u:List Nat) (p:u∈bf (kF T) l) (i:dP W m x Q (ai T) u) (hs:dO (bq (ai T) u)<=16384)=>LV (hD.mono E) hV zT i (q u p) (λc h=>hc c (sH p c h)) hs);have Z:(bY Go.Cd.B (eF (ai T) (bf (kF T) l))).length<=20003:=by
  have:=L9 (K:=ai T) (us:=bf (kF T) l) (λu p=>yW (q u p) (by decide)) (by omega) (bf (kF T) l).length
  rwa [kO] at this
 have z:∀u∈bf (kF T) l,dO (bq (ai T) u)<=eF (ai T) (bf (kF T) l):=λu p=>Gb p;obtain⟨us,ze⟩:=ae (bf (kF T) l);simp only[<-ze] at S CO NW Eb Z z⊢;obtain⟨s,hs⟩:=ae (tx (dQ L));rw[<-hs] at S⊢;obtain⟨y,Ma⟩:=ae (eF (ai T) us);simp only[<-Ma] at CO Z z⊢;have aC:=aa z;have zb:decide ((r:Int)<0)=false:=decide_eq_false (by omega);have A:∃f:Nat,f=min r 16384:=⟨_,rfl⟩;obtain⟨f,A⟩:=A;rw[<-A];have Ja:(if (r:Int)<16384 then (r:Int) else 16384)=(f:Int):=by split <;> omega
 have aJ:min (r:Int) 16384=(f:Int):=by omega
 have vL:f<=16384:=by omega
 clear hG h0 hD P hc hl M q ze hs Ma z A;go_enter func25,ntmps25;go_wp2_with fail;refine S.out.mono ?_;rintro e w1⟨v1,rfl,i,aj⟩;have ax:=aj.size;obtain⟨a1,c1,rfl,al⟩:=id i;obtain⟨n,P⟩:=ae us.length;rw[<-P] at i Eb⊢;have HM:=aa i;have aI:=aa al;have HN:=aa P;clear i al P S;go_wp2_with fail;refine(CO.out w1 _ HM.out).mono ?_;rintro e w2⟨r2,rfl,hN,ab⟩;obtain⟨ua,un,uc,rfl,hN⟩:=hN.out;have ad:=aj.trans (ab.mono ax);have az:=ad.size;go_wp2_with fail;refine(uf f (by omega) w2).mono ?_;rintro e w3⟨r3,rfl,O,I⟩;have CM:=aa (pK (hN.mono I) O (by omega) (lf (sF (n:=0) (by rw[Nat.pow_zero];omega)) (by decide)));obtain⟨ub,um,ud,rfl,_⟩:=O.out;have Y:=ad.trans (I.mono az);have aw:=Y.size;have aq:=af ab I;clear hN O CO;go_wp2_with fail;refine CM.out.mono ?_;rintro e w4⟨rfl,am⟩;have G:=Y.trans (am.mono aw);have ay:=G.size;have aA:=af aq am;clear CM;by_cases H:y<=f
 ·have zc:decide ((0:Int)<sK y f)=false:=by
   refine decide_eq_false ?_;unfold sK;rcases j' y f with h|h
   ·rw[if_pos h];decide
   rw[if_neg (by omega),if_neg (by omega)];decide
  go_wp2_with fail;go_loopw [10,12,13,14,39] (λo _ _ _ jv wr=>∃j:Nat,j<=n/\jv=.int .i64 j/\(∃d:List Nat,d.length=j/\wr.ownsRow w4.heap.size aaq 1 o j (d.map L_)/\∀k (J:k<d.length) (ac:k<us.length),∃g x R m,jX wr R d[k] g x (l6 T us[k])/\dP wr m x Q (ai T) us[k])/\Below w4.heap.size w4 wr) (λ_ _ _ _ jv _=>n-(intOf jv).toNat)
  case atStart=>exact⟨0,gW _,rfl,⟨[],rfl,iu _ _ _ _,λk J=>absurd J (by simp)⟩,gO _ _⟩
  case round=>
   obtain⟨j,hj,rfl,⟨d,au,a,t⟩,hE⟩:=hrel;have ji:=G.trans (hE.mono ay);have Je:=ji.size;have aD:=hE.size;by_cases aK:j<n
   ·have zj:=eG (show j<n by omega);have N:j<us.length:=by have:=HN.out;omega
    have F:=af aA hE;obtain⟨b,off,x,m,rfl,c0,i⟩:=aI.out j N;have c0:=aB F c0;have an:=aa (NW.out wr ji x m us[j] (gx N) (i.mono F) (gS (aC.out _ (gx N)) (gS H vL)));have Uy:=aa t;have aF:=aa (i.mono F);clear i t;go_wp2_with fail;refine an.out.mono ?_;rintro e w7⟨V,g,rfl,hP,jh⟩;have ao:=aH a jh;have uK:=hE.trans (jh.mono aD);have HP:=aa hP;clear hP
    go_wp2_with (
     at_builtin
     refine f_ rfl _ _ 64 rfl w4.heap.size aaq _ 8 aar _ j _ rfl ao (L_ V) rfl rfl (by omega) (by unfold maxLen;omega) w4 uK (gw _) ?_
     intro v8 w8 o8 kL aE OT)
    go_roundw
    case rel=>
     have WQ:=ah (w:=w7) (.cells #[L_ V] aaq);have ch:=bJ.bQ aE OT;refine⟨j+1,by omega,by simp,⟨d++[V],by simp[au],by rw[js];exact o8,λk J ac=>?_⟩,kL⟩;by_cases ag:k<d.length
     ·obtain⟨g',av,R,m,h,h'⟩:=Uy.out k ag ac;rw[rF ag];exact⟨g',av,R,m,(((h.mono jh).mono WQ).agG ch (by decide) (by decide) (by decide)),(((h'.mono jh).mono WQ).iQ ch (by decide) (by decide) (by decide) (by decide) (by decide) (by decide))⟩
     obtain rfl:k=j:=by rw[d'] at J;simp at J;omega
     refine⟨g,x,wr.heap.size,m,?_,(((aF.out.mono jh).mono WQ).iQ ch (by decide) (by decide) (by decide) (by decide) (by decide) (by decide))⟩;have:(d++[V])[k]=V:=by rw[vt (by omega)];simp
     rw[this];exact((HP.out.mono WQ).agG ch (by decide) (by decide) (by decide))
    case measure=>simp[intOf];omega
   have zj:=gI (show n<=j by omega);obtain rfl:j=n:=by omega
   obtain⟨oa,oc,rfl,_,_⟩:=ak a;have HR:=aa a;have Uy:=aa t;clear a t;go_wp2;go_ret2;refine⟨ji,λ_=>⟨_,rfl,oa,oc,by rw[HN.out];rfl,λk J=>?_⟩,λh=>absurd H h⟩;obtain⟨b,cap,he,_,_,_,_,C⟩:=dz HR.out (show 0<j by have:=HN.out;omega);injection he with ar _ aL;subst ar;have U:k<d.length:=by have:=HN.out;omega
   obtain⟨g,x,R,m,h⟩:=Uy.out k U J;refine⟨b,0,d[k],g,x,R,m,rfl,?_,h⟩;rw[kh];exact C k (L_ d[k]) (by rw[nE,gA U];rfl)
 have zc:decide ((0:Int)<sK y f)=true:=by rw[xJ (by omega)];rfl
 go_wp2_with fail;go_ret2;exact⟨G,λh=>absurd h H,λ_=>rfl⟩
section
open Go.RowKit Go.Cd
def WR (l:List Nat) (j:Nat):((nz l)[j]?.getD 0).toNat=l.getD j 0:=by
 simp only[nz,nE,ic];cases l[j]? <;> simp
def QD {bs l m:List Nat} (vl:∀i,i<bs.length->l.getD i 0<bs.getD i 0) (c:∀i,i<bs.length->m.getD i 0<bs.getD i 0) :
 ∀j,j<=bs.length->gU bs (nz l) j=gU bs (nz m) j->∀i,i<j->l.getD i 0=m.getD i 0
 | 0,_,_,_,h=>by omega
 | j+1,hj,e,i,hi=>by
   simp only[gU] at e;rw[WR,WR,show bs[j]?.getD 0=bs.getD j 0 from (ic).symm] at e;have f:=vl j (by omega);have n:=c j (by omega);generalize bs.getD j 0=b at *;generalize g:l.getD j 0=x at *;generalize d:m.getD j 0=y at *;have a:x=y:=by
    have:=congrArg (· % b) e;simpa [vu,rI f,rI n] using this
   have k:gU bs (nz l) j=gU bs (nz m) j:=by
    rw[a] at e;exact Nat.eq_of_mul_eq_mul_right (show 0<b by omega) (Nat.add_right_cancel e)
   by_cases h:i=j
   ·subst h;rw[g,d,a]
   exact QD vl c j (by omega) k i (by omega)
def eQ.oJ {R:List bS} {s:eZ} (h:eQ R s):∀i,i<(kM (aL R s.1)).length->s.2.getD i 0<(kM (aL R s.1)).getD i 0:=by
 intro i c;have a:i<(aL R s.1).2.length:=by rw[<-eO];exact c
 have b:i<s.2.length:=by rw[h.len];exact a
 have:=h.le i b a;rw[ic,ic,gA c,gA b,oy,oy,Ii a];omega
def aas {R:List bS} {s a:eZ} (h:eQ R s) (c:eQ R a) (e:fK R s=fK R a):s=a:=by
 have t:=Az h;have o:=aae h.lt;rw[<-df h.lt] at o;have u:=Az c;have p:=aae c.lt;rw[<-df c.lt] at p;unfold fK at e;have b:∀i k,i<=k->dO (R.take i)<=dO (R.take k):=λi k f=>by
  have:=gG (R.take k) i
  rwa [AK,qk f] at this
 have n:s.1=a.1:=by
  rcases pZ s.1 a.1 with hlt|he|hlt
  ·have:=b (s.1+1) a.1 hlt;omega
  ·exact he
  have:=b (a.1+1) s.1 hlt;omega
 obtain⟨k,ms⟩:=s;obtain⟨q,d⟩:=a;obtain rfl:k=q:=n;have r:=QD h.oJ c.oJ _ (gw _) (by simpa using e);have g:=h.len;have l:=c.len;have:ms=d:=by
  refine List.ext_getElem (g.trans l.symm) λi j m=>?_;have:=r i (by rw[eO];show i<(aL R k).2.length;rw[<-g];exact j);rw[ic,ic,gA j,gA m] at this;exact this
 rw[this]
def Pj {R:List bS} {s:eZ} (h:eQ R s):sW R (fK R s)=s:=aas (uW (nD h)) h (Pb (nD h))
section
variable {K : Nat -> Nat}
def pV (K:Nat->Nat):Nat->List Nat->List Nat
 | _,[]=>[]
 | p,a::t=>if K a=0 then [] else if K a=p then pV K p t else a::pV K (K a) t
def Pk (K:Nat->Nat):List Nat->List Nat
 | []=>[]
 | a::t=>if K a=0 then [a] else pV K 0 (a::t)
def WT:List Nat->List (Nat×List Nat)->List Nat
 | m::ms,x::L=>(if m<x.2.length then [x.2.getD m 0] else [])++WT ms L
 | _,_=>[]
def Gc:∀(ms:List Nat) (L:List (Nat×List Nat)),ms.length=L.length->au ms L L.length=WT ms L
 | [],[],_=>rfl
 | [],_::_,h=>by simp at h
 | _::_,[],h=>by simp at h
 | m::ms,x::L,h=>by
   have a:=Gc ms L (by simpa using h);unfold au at a⊢;rw[hU,List.range_succ_eq_map,iR,sS];have e:(λi=>lZ (m::ms) (x::L) (i+1))=lZ ms L:=by funext i;simp[lZ]
   show lZ (m::ms) (x::L) 0++(List.range L.length).flatMap (λi=>lZ (m::ms) (x::L) (i+1))=_;rw[e,a];simp[lZ,WT]
def Mc {n:Nat} (e:n≠0) (b:List Nat):∀t:List Nat,(∀y∈t,K y=n)->pV K n (t++b)=pV K n b
 | [],_=>rfl
 | a::t,h=>by
   have d:=h a (by simp);show(if K a=0 then [] else if K a=n then pV K n (t++b) else _)=_;rw[if_neg (by omega),if_pos d];exact Mc e b t λy c=>h y (kj _ c)
def Md {p:Nat} {rest:List Nat} (h:∀a t,rest=a::t->K a=0):pV K p rest=[]:=by
 cases rest with
 | nil=>rfl
 | cons a t=>
   show(if K a=0 then _ else _)=_;rw[if_pos (h a t rfl)]
def Iq {rest:List Nat} (e:∀a t,rest=a::t->K a=0):∀(ms:List Nat) (L:List (Nat×List Nat)) (p:Nat),ms.length=L.length->Ea K L->(∀x∈L,p<x.1)->pV K p (kQ ms L++rest)=WT ms L
 | [],[],p,_,_,_=>Md e
 | [],_::_,_,h,_,_=>by simp at h
 | _::_,[],_,h,_,_=>by simp at h
 | m::ms,x::L,p,h,hL,hp=>by
   have f:=hL.1 x (by simp);have d:=(mz.1 hL.2).1;show pV K p ((x.2.drop m++kQ ms L)++rest)=(if m<x.2.length then [x.2.getD m 0] else [])++WT ms L;by_cases b:m<x.2.length
   ·rw[if_pos b,iz b,ic,gA b,oy];have i:K x.2[m]=x.1:=f.2 _ (gx b);have:=hp x (by simp);show(if K x.2[m]=0 then [] else if K x.2[m]=p then _ else x.2[m]::pV K (K x.2[m]) ((x.2.drop (m+1)++kQ ms L)++rest))=_;rw[if_neg (by omega),if_neg (by omega),i,kc,Mc (by omega) _ _ (λy g=>f.2 y (lz g)),Iq e ms L x.1 (by simpa using h) hL.tail (λz c=>d z c)];rfl
   rw[if_neg b,qu (by omega),ks,ks];exact Iq e ms L p (by simpa using h) hL.tail (λz c=>hp z (kj _ c))
def Tv {R:List bS} (h:Ip K R) {s:eZ} (g:eQ R s):ko R s=Pk K (mJ R s):=by
 have f:=F9 h s.1;have e:=h.rest s.1;have j:=Iq e s.2 (aL R s.1).2 0 g.len f (λx k=>(f.1 x k).1);unfold ko;rw[Gc _ _ g.len,<-j];unfold mJ;cases i:kQ s.2 (aL R s.1).2 with
 | nil=>
   rw[ks,Md e,if_pos rfl];by_cases b:s.1+1<R.length
   ·rw[if_pos b,iz b,iR,df b];have h0:K R[s.1+1].1=0:=e _ _ (by rw[iz b,iR];rfl);show _=(if K R[s.1+1].1=0 then _ else _);rw[if_pos h0]
   rw[if_neg b,qu (by omega)];rfl
 | cons a t=>
   have c:K a≠0:=LU f i;have d:pV K 0 (a::t++(R.drop (s.1+1)).flatMap LP)≠[]:=by
    show(if K a=0 then [] else if K a=0 then _ else a::_)≠[];rw[if_neg c,if_neg c];exact List.cons_ne_nil _ _
   rw[if_neg d];show _=(if K a=0 then _ else _);rw[if_neg c];rfl
def Me {R:List bS} (h:Ip K R):∀(l:List Nat) {s:eZ},eQ R s->l.foldlM (λr c=>fE K c r) (mJ R s)=(l.foldlM (iy K R) s).map (mJ R)
 | [],_,_=>rfl
 | c::l,s,hs=>by
   rw[oE,oE];show(fE K c (mJ R s)).bind _=_;rw[WJ h hs];cases a:iy K R s c with
   | none=>rfl
   | some s1=>exact Me h l (aa5 hs a)
def QF {c:Nat}:∀{l l':List Nat},fE K c l=some l'->l'.length+1=l.length
 | [],_,e=>by cases e
 | a::t,l',e=>by
   unfold fE at e
   split at e
   ·split at e
    ·cases e;rfl
    cases e
   split at e
   ·cases e
   split at e
   ·cases hd:fE K c t with
    | none=>rw[hd] at e;cases e
    | some t'=>
      rw[hd] at e;cases e;have:=QF hd;simp only[hU];omega
   split at e
   ·cases e;rfl
   cases e
def Mf:∀(F l l':List Nat),F.foldlM (λr c=>fE K c r) l=some l'->l'.length+F.length=l.length
 | [],l,l',e=>by
   have:l=l':=by simpa using e
   rw[this];rfl
 | c::F,l,l',e=>by
   rw[oE] at e;cases hd:fE K c l with
   | none=>rw[hd] at e;cases e
   | some l1=>
     rw[hd] at e;have b:=QF hd;have a:=Mf F l1 l' e;simp only[hU];omega
end
variable {T:List aG} {l:List Nat}
def vk (T:List aG) (c:Nat) (l:List Nat):Option (List Nat):=(aD T c).foldlM (λr c=>fE (ai T) c r) l
def Ir (T:List aG) (l:List Nat):List Nat:=b_ ((Pk (ai T) l).flatMap λx=>(uY T x).filter λc=>(vk T c l).isSome)
def cntF (T:List aG):Nat->List Nat->Nat
 | 0,_=>0
 | f+1,l=>if l=[] then 1 else ((Ir T l).map λc=>match vk T c l with|some r=>cntF T f r|none=>0).sum
def oI (T:List aG) (l:List Nat):Nat:=cntF T (l.length+1) l
def xg {c:Nat} {r:List Nat} (h:vk T c l=some r):r.length<l.length:=by
 have:=Mf _ _ _ h;have:=jz.2 (pF T c);omega
def Gd :∀(f g:Nat) (l:List Nat),l.length<f->l.length<g->cntF T f l=cntF T g l
 | 0,_,l,h,_=>by omega
 | _,0,l,_,h=>by omega
 | f+1,g+1,l,hf,hg=>by
   unfold cntF
   split
   ·rfl
   refine congrArg List.sum (mw λc _=>?_);cases hd:vk T c l with
   | none=>rfl
   | some r=>
     have:=xg hd;exact Gd f g r (by omega) (by omega)
def xh (T:List aG):oI T []=1:=rfl
def CY (h:l≠[]):oI T l=((Ir T l).map λc=>match vk T c l with|some r=>oI T r|none=>0).sum:=by
 show(if l=[] then 1 else _)=_;rw[if_neg h];refine congrArg List.sum (mw λc _=>?_);cases hd:vk T c l with
 | none=>rfl
 | some r=>exact Gd _ _ r (xg hd) (sB _)
def Mg {R:List bS} (h:Ip (ai T) R) {s:eZ} (a:eQ R s) (c:Nat):vk T c (mJ R s)=(fw (ai T) (aD T) R s c).map (mJ R):=Me h _ a
def aat {R:List bS} (h:Ip (ai T) R) {s:eZ} (a:eQ R s):b_ (pO (ai T) (aD T) (uY T) R s)=Ir T (mJ R s):=by
 unfold pO Ir;rw[Tv h a];congr 1;refine congrArg (λf=>(Pk (ai T) (mJ R s)).flatMap f) (funext λx=>?_);refine congrArg (λf=>(uY T x).filter f) (funext λc=>?_);rw[Mg h a];cases fw (ai T) (aD T) R s c <;> rfl
def WU (f:nG T l):∀(n:Nat) {s:eZ},eQ (bq (ai T) l) s->(mJ (bq (ai T) l) s).length<=n->(l6 T l).getD (fK (bq (ai T) l) s) 0=oI T (mJ (bq (ai T) l) s):=by
 have d:=WM l.length rfl f.ord;intro n
 induction n with
 | zero=>
   intro s a g;have h0:mJ (bq (ai T) l) s=[]:=oS (by omega);rw[CJ (nD a),h0,xh];unfold jk;rw[Pj a,if_pos ((jS a).2 h0)]
 | succ n ih=>
   intro s a g;by_cases h0:mJ (bq (ai T) l) s=[]
   ·rw[CJ (nD a),h0,xh];unfold jk;rw[Pj a,if_pos ((jS a).2 h0)]
   rw[CJ (nD a),CY h0];unfold jk;rw[Pj a,if_neg (λe=>h0 ((jS a).1 e))];show List.sum ((b_ (pO _ _ _ _ s)).map _)=_;rw[aat d.fine a];refine congrArg List.sum (mw λc _=>?_);have hd:=Mg d.fine a c;rw[hd];cases b:fw (ai T) (aD T) (bq (ai T) l) s c with
   | none=>rfl
   | some s'=>
     rw[b] at hd;have:=xg hd;exact ih (Cq a b) (by omega)
def yJ (b:nG T l):(l6 T l).getD 0 0=oI T l:=by
 have a:=WM l.length rfl b.ord;have h:=WU b _ (agA a.ne) (gw _)
 rwa [adl,adj a] at h
end
section
open Go.RowKit Go.Cd
section
variable {K : Nat -> Nat}
def Un (c:Nat) (y:List Nat):∀l,gL K (j_ K c l++y)=gL K (c::(l++y))
 | []=>rfl
 | d::l=>by
   by_cases h:0<K d/\K d<K c
   ·have e:j_ K c (d::l)=d::j_ K c l:=if_pos h;rw[e];show j_ K d (gL K (j_ K c l++y))=j_ K c (j_ K d (gL K (l++y)));rw[Un c y l];exact(Fu K (a:=c) (b:=d) h _).symm
   have e:j_ K c (d::l)=c::d::l:=if_neg h;rw[e];rfl
def abK (y:List Nat):∀x,gL K (gL K x++y)=gL K (x++y)
 | []=>rfl
 | c::x=>by
   show gL K (j_ K c (gL K x)++y)=j_ K c (gL K (x++y));rw[Un c y];show j_ K c (gL K (gL K x++y))=_;rw[abK y x]
end
variable {T:List aG} {X:List Nat} {c:Nat}
def ach (e:aY T X) (h:mapOf T c≠[]):(mapOf T c).flatMap (aD T)=aD T c:=by
 have a:aD T c=steps (mapOf T) (T.length+3) [c]:=jo T c;have b:steps (mapOf T) (T.length+3+1) [c]=steps (mapOf T) (T.length+3) (mapOf T c):=by
  show steps (mapOf T) (T.length+3) (dm (mapOf T) [c])=_;unfold dm;simp[h]
 have d:steps (mapOf T) (T.length+3+1) [c]=steps (mapOf T) (T.length+3) [c]:=by
  rw[uz,<-a,qF (pE e c).1]
 rw[a,<-d,b,A_];rfl
def Tw (h:mapOf T c=[]):aD T c=[c]:=iK h _
def abA (l:List Nat):l.length<=(l.flatMap (aD T)).length:=by
 induction l with
 | nil=>exact gw _
 | cons c l ih=>
   rw[iR,d',hU];have:=jz.2 (pF T c);omega
def O8 (a:aY T X) (h:mapOf T c≠[]) (A B:List Nat):gQ T (A++mapOf T c++B)=gQ T (A++c::B):=by
 unfold gQ;simp only[jj,iR,ach a h,kc]
def wS (a:aY T X) (A B:List Nat):gQ T (gQ T A++B)=gQ T (A++B):=by
 unfold gQ;have e:(gL (ai T) (A.flatMap (aD T))).flatMap (aD T)=gL (ai T) (A.flatMap (aD T)):=(nG.of a A).flat;rw[jj,e,jj];exact abK _ _
def ack {a b:Nat} (c:mapOf T a=[]) (e:mapOf T b=[]) (d:0<ai T a) (f:0<ai T b) (g:ai T a≠ai T b) (A B:List Nat):gQ T (A++b::a::B)=gQ T (A++a::b::B):=by
 unfold gQ;simp only[jj,iR,Tw c,Tw e,so];by_cases h:ai T b<ai T a
 ·exact(x_ _ (a:=a) (b:=b) ⟨f,h⟩ _ _).symm
 exact x_ _ (a:=b) (b:=a) ⟨d,by omega⟩ _ _
def gY (l:List Nat):l.length<=(gQ T l).length:=by
 unfold gQ;rw[KV];exact abA l
end
section
open Go.RowKit Go.Cd
theorem aau {T:List aG} {X:List Nat} (hV:aY T X) {b:Nat} (h:CQ T b=false) (c:Nat):b∉(aD T c).drop 1:=by
 unfold CQ at h;rw [sy,sy,decide_eq_false_iff_not] at h;obtain ⟨h1,h2,h3⟩:=h;intro hb;by_cases hk4:hk c<4
 ·by_cases hm:mapOf T c=[]
  ·rw [Tw hm] at hb;simp at hb
  ·refine h1 ?_;unfold yI;have hr:∃r,rowOf T c=some r∧r.map≠[]:=by
    unfold mapOf at hm;rw [if_pos hk4] at hm;unfold bP at hm;cases e:rowOf T c with
    | none=>rw [e] at hm;exact absurd rfl hm
    | some r=>rw [e] at hm;exact ⟨r,rfl,hm⟩
   obtain ⟨r,hr,hne⟩:=hr;obtain ⟨hrT,hrc⟩:=gy hr;refine lP.2 ⟨r,?_,by rw [hrc];exact hb⟩;unfold mapped;refine iJ.2 ⟨hrT,?_⟩;cases e:r.map with
   | nil=>exact absurd e hne
   | cons _ _=>rfl
 ·rw [(qX hV (by omega)).1] at hb;have n2:hk b≠2:=fun e=>by rw [e] at h2;simp at h2
  have n3:hk b≠3:=fun e=>by rw [e] at h3;simp at h3
  have e1:=mx (c-44032) (show 28 > 0 by decide);have e2:(c-44032) % 588 / 28<21:=by omega
  have hv:∀k,k<21->hk (4449+k)=2:=fun k hk=>by unfold Go.Cd.hk;rw [if_neg (by omega),if_pos (by omega)]
  have ht:∀k,0<k->k<28->hk (4519+k)=3:=fun k h0 hk=>by unfold Go.Cd.hk;rw [if_neg (by omega),if_neg (by omega),if_pos (by omega)]
  unfold hparts at hb;by_cases h4:hk c=4
  ·rw [if_pos h4] at hb;simp at hb;exact n2 (by rw [hb];exact hv _ e2)
  ·rw [if_neg h4,if_pos (by have:=vU c;omega)] at hb;have h5:hk c=5:=by have:=vU c;omega
   have h0:0<(c-44032) % 28:=by rw [kI] at h5;omega
   simp at hb;rcases hb with hb|hb
   ·exact n2 (by rw [hb];exact hv _ e2)
   ·exact n3 (by rw [hb];exact ht _ h0 e1)
section
variable {K : Nat -> Nat}
theorem Iu {b:Nat} (hb:K b=0) (t:List Nat):∀(A:List Nat) (p:Nat),pV K p (A++b::t)=pV K p A
 | [],p=>by
   show (if K b=0 then _ else _)=[];rw [if_pos hb]
 | a::A,p=>by
   show (if K a=0 then [] else if K a=p then pV K p (A++b::t) else a::pV K (K a) (A++b::t))=(if K a=0 then [] else if K a=p then pV K p A else a::pV K (K a) A);rw [Iu hb t A p,Iu hb t A (K a)]
theorem aav {b:Nat} (hb:K b=0) (t:List Nat) {A:List Nat} (hA:A≠[]):Pk K (A++b::t)=Pk K A:=by
 cases A with
 | nil=>exact absurd rfl hA
 | cons a A=>
   show (if K a=0 then [a] else pV K 0 ((a::A)++b::t))=(if K a=0 then [a] else pV K 0 (a::A));rw [Iu hb]
theorem Iw {b c:Nat} (hb:K b=0) (t:List Nat):∀A:List Nat,(A≠[]∨c≠b)->fE K c (A++b::t)=(fE K c A).map (·++b::t)
 | [],h=>by
   have hc:c≠b:=h.resolve_left fun e=>e rfl;show (if K c=0 then (if b=c then some t else none) else if K b=0 then none else _)=none;rw [if_pos hb,if_neg (px hc),ite_self]
 | a::A,_=>by
   by_cases hA:A=[]
   ·subst hA;have e0:K c≠0->fE K c ([]++b::t)=none:=fun h=>by
     show (if K c=0 then _ else if K b=0 then none else _)=_;rw [if_neg h,if_pos hb]
    show (if K c=0 then (if a=c then some ([]++b::t) else none) else if K a=0 then none else if K a<K c then (fE K c ([]++b::t)).map (a::·) else if a=c then some ([]++b::t) else none)=(if K c=0 then (if a=c then some [] else none) else if K a=0 then none else if K a<K c then (fE K c []).map (a::·) else if a=c then some [] else none:Option (List Nat)).map (·++b::t);by_cases h0:K c=0
    ·rw [if_pos h0,if_pos h0];split <;> rfl
    ·rw [if_neg h0,if_neg h0,e0 h0];show _=Option.map (·++b::t) (if K a=0 then none else if K a<K c then none else if a=c then some [] else none)
     split
     ·rfl
     ·split
      ·rfl
      ·split <;> rfl
   ·have ih:=Iw (c:=c) hb t A (.inl hA);show (if K c=0 then (if a=c then some (A++b::t) else none) else if K a=0 then none else if K a<K c then (fE K c (A++b::t)).map (a::·) else if a=c then some (A++b::t) else none)=(if K c=0 then (if a=c then some A else none) else if K a=0 then none else if K a<K c then (fE K c A).map (a::·) else if a=c then some A else none:Option (List Nat)).map (·++b::t);rw [ih]
    split
    ·split <;> rfl
    ·split
     ·rfl
     ·split
      ·cases fE K c A <;> rfl
      ·split <;> rfl
theorem Mh {b:Nat} (hb:K b=0) (t:List Nat):∀(F A:List Nat),(∀y∈F,y≠b)->F.foldlM (fun r c=>fE K c r) (A++b::t)=(F.foldlM (fun r c=>fE K c r) A).map (·++b::t)
 | [],_,_=>rfl
 | y::F,A,h=>by
   rw [oE,oE];show (fE K y (A++b::t)).bind _=_;rw [Iw hb t A (.inr (h y (by simp)))];cases fE K y A with
   | none=>rfl
   | some A'=>exact Mh hb t F A' fun z hz=>h z (kj _ hz)
end
variable {T:List aG} {X l:List Nat}
theorem Mi (hV:aY T X) {b:Nat} (hb:ai T b=0) (hi:CQ T b=false) (t:List Nat) (c:Nat) {A:List Nat} (hA:A≠[]):vk T c (A++b::t)=(vk T c A).map (·++b::t):=by
 unfold vk;have hn:=aau hV hi c;cases e:aD T c with
 | nil=>exact absurd e (pF T c)
 | cons y F=>
   rw [e] at hn;rw [oE,oE];show (fE (ai T) y (A++b::t)).bind _=_;rw [Iw hb t A (.inl hA)];cases fE (ai T) y A with
   | none=>rfl
   | some A'=>exact Mh hb t F A' fun z hz=>fun e=>hn (by rw [<-e];exact hz)
theorem WV (hV:aY T X) {b:Nat} (hb:ai T b=0) (hi:CQ T b=false) (t:List Nat):∀(n:Nat) (A:List Nat),A.length<=n->oI T (A++b::t)=oI T A*oI T (b::t):=by
 intro n
 induction n with
 | zero=>
   intro A h;rw [oS (Nat.le_zero.1 h),ks,xh,su]
 | succ n ih=>
   intro A h;by_cases hA:A=[]
   ·rw [hA,ks,xh,su]
   ·rw [CY (by simp),CY hA];have ho:Ir T (A++b::t)=Ir T A:=by
     unfold Ir;rw [aav hb t hA];refine congrArg b_ (congrArg (fun f=>(Pk (ai T) A).flatMap f) (funext fun x=>congrArg (fun f=>(uY T x).filter f) (funext fun c=>?_)));rw [Mi hV hb hi t c hA];cases vk T c A <;> rfl
    rw [ho];have hsum:∀(l:List Nat) (f g:Nat->Nat) (k:Nat),(∀c,f c=g c*k)->(l.map f).sum=(l.map g).sum*k:=fun l f g k hfg=>by
     induction l with
     | nil=>simp
     | cons c l ih=>rw [kt,pd,kt,pd,l3,ih,hfg]
    refine hsum _ _ _ _ fun c=>?_;rw [Mi hV hb hi t c hA];cases hd:vk T c A with
    | none=>simp
    | some r=>exact ih r (by have:=xg hd;omega)
theorem Pm {ap:Nat->Bool} (l:List Nat):∀u∈(bf ap l).tail,∃c t,u=c::t∧ap c=true:=by
 have key:∀(l:List Nat) (o:List (List Nat)),(∀u∈o,u≠[])->(∀u∈o.tail,∃c t,u=c::t∧ap c=true)->∀u∈(l.foldl (fZ ap) o).tail,∃c t,u=c::t∧ap c=true:=by
  intro l
  induction l with
  | nil=>intro o _ h;exact h
  | cons c l ih=>
    intro o hne h;refine ih (fZ ap o c) ?_ ?_
    ·unfold fZ
     split
     ·intro u hu;rcases gR.1 hu with hu|hu
      ·exact hne u hu
      ·rw [gC.1 hu];simp
     ·intro u hu;rcases gR.1 hu with hu|hu
      ·exact hne u (tS _ hu)
      ·rw [gC.1 hu];simp
    ·unfold fZ;by_cases ho:o=[]
     ·subst ho;rw [if_pos (.inl rfl)];intro u hu;simp at hu
     ·obtain ⟨x,q,rfl⟩:∃x q,o=x::q:=by cases o with|nil=>exact absurd rfl ho|cons x q=>exact ⟨x,q,rfl⟩
      by_cases ha:ap c=true
      ·rw [if_pos (.inr ha)];intro u hu;rcases gR.1 (show u∈q++[[c]] from hu) with hu|hu
       ·exact h u hu
       ·exact ⟨c,[],gC.1 hu,ha⟩
      ·rw [if_neg (by simp [ha])];cases q with
       | nil=>intro u hu;simp at hu
       | cons y q=>
         intro u hu;have hu2:u∈(y::q).dropLast++[((y::q).getLastD [])++[c]]:=by
          have e1:(x::y::q).dropLast=x::(y::q).dropLast:=rfl;have e2:(x::y::q).getLastD []=(y::q).getLastD []:=by simp [ri]
          rw [e1,e2] at hu;exact hu
         rcases gR.1 hu2 with hu|hu
         ·exact h u (tS _ hu)
         ·rw [gC.1 hu];have hl:(y::q).getLastD []∈(y::q):=by
           rw [ri,rL (by simp)];exact List.getLast_mem _
          obtain ⟨c',t',e,ha'⟩:=h _ hl;exact ⟨c',t'++[c],by rw [e];rfl,ha'⟩
 exact key l [] (fun u hu=>by cases hu) (fun u hu=>by cases hu)
theorem Pn (x:Nat) (l:List Nat):dU (x::l)=x*dU l:=by
 have:∀(l:List Nat) (x y:Nat),l.foldl (·*·) (x*y)=x*l.foldl (·*·) y:=fun l=>by
  induction l with
  | nil=>intro x y;rfl
  | cons z l ih=>intro x y;rw [ox,ox,qS,ih]
 unfold dU;rw [ox,su];have:=this l x 1
 rwa [qK] at this
theorem Mj (hV:aY T X):∀us:List (List Nat),(∀u∈us.tail,∃c t,u=c::t∧ai T c=0∧CQ T c=false)->oI T us.flatten=dU (us.map (oI T))
 | [],_=>rfl
 | [u],_=>by simp [dU]
 | u::v::us,h=>by
   obtain ⟨c,t,e,h0,hi⟩:=h v (by simp);have ih:=Mj hV (v::us) fun w hw=>h w (kj _ hw);have e1:(v::us).flatten=c::(t++us.flatten):=by rw [wg,e];rfl
   rw [wg,e1,WV hV h0 hi _ _ u (gw _),<-e1,ih];show _=dU (oI T u::(v::us).map (oI T));rw [Pn]
theorem Tx (hV:aY T X) (hl:nG T l):oI T l=dU ((bf (kF T) l).map (oI T)):=by
 have h:=Mj hV (bf (kF T) l) (fun u hu=>by
  obtain ⟨c,t,e,ha⟩:=Pm l u hu;have hc:c∈l:=sH (List.mem_of_mem_tail hu) c (by rw [e];simp);have hf:=hl.leaf c hc;unfold kF at ha;rw [hf,jn] at ha;obtain ⟨h1,h2⟩:=ha
  exact ⟨c,t,e,by simpa using h1,by simpa using h2⟩)
 rwa [gH] at h
def aaw (T:List aG) (us:List (List Nat)):Nat:=dU (us.map fun u=>(l6 T u).getD 0 0)
theorem WW (hl:nG T l) {u:List Nat} (hu:u∈bf (kF T) l):nG T u:=
 ⟨fun x hx=>hl.leaf x (sH hu x hx),vg (by rw [gH];exact hl.ord) u hu⟩
theorem CZ (hV:aY T X) (hl:nG T l):aaw T (bf (kF T) l)=oI T l:=by
 rw [Tx hV hl];unfold aaw;refine congrArg dU (mw fun u hu=>?_);exact yJ (WW hl hu)
theorem acr (hV:aY T X) (hl:nG T l):0<oI T l:=by
 rw [<-yJ hl];have hF:=WM l.length rfl hl.ord;have h:=nD (agA hF.ne);rw [adl] at h;exact abZ hV hl h
end
variable {T:List aG} {w:World} {X:List Nat}
def Iy (K:Nat->Nat) (a b:List (List Nat)):eF K (a++b)=eF K a+eF K b:=by unfold eF;rw[js,sg]
def Iz (c:T.length<1000) {u:List Nat} (a:u.length<400):(l6 T u).getD 0 0<=Go.Cd.B ^ dO (bq (ai T) u):=by
 have h:=Lx (R:=bq (ai T) u) (opt:=λs=>b_ (pO (ai T) (aD T) (uY T) (bq (ai T) u) s)) (nS:=fw (ai T) (aD T) (bq (ai T) u)) (M:=Go.Cd.B) (by unfold Go.Cd.B;decide)
  (λi b=>gS (Cx c a (uW b) _) (by unfold Go.Cd.B;decide)) _ (gw _)
 rw[ic];cases e:(l6 T u)[0]? with
 | none=>exact gW _
 | some x=>exact h x (lA e)
def QG (c:T.length<1000) {us:List (List Nat)} (b:∀u∈us,u.length<400):∀k,k<=us.length->dU ((us.map λu=>(l6 T u).getD 0 0).take k)<=Go.Cd.B ^ eF (ai T) (us.take k)
 | 0,_=>by simp[dU,eF]
 | k+1,hk=>by
   have d:=QG c b k (by omega);have a:k<us.length:=by omega
   rw[pM _ k (by simpa using a),CS a,Nat.pow_add];refine pT d ?_;rw[nf];exact Iz c (b _ (gx a))
def Ec (K:Nat->Nat) (us:List (List Nat)) (k:Nat):eF K (us.take k)<=eF K us:=by
 conv=>rhs;rw[<-ke k us,Iy]
 omega
def QH (K:Nat->Nat) (u:List Nat):0<dO (bq K u):=by
 have a:=jz.2 (fD K u).1;have b:=aae (R:=bq K u) (k:=0) a;have:=gG (bq K u) 1;have:=Qv ((bq K u)[0]'a);simp only[kh] at b;omega
def QI (hG:nk w) {dp:Nat} (hD:cK w dp T X) (hV:aY T X) (zT:T.length<1000) (L:List Nat) (S:∀c∈L,aP c) (F:(gQ T L).length<400) (V:Nat) (aL:V<9223372036854775808) :
 Calls prog 15 #[.pointer (some ⟨dp,0,none⟩),.string (tx (dQ L)),.int .i64 (V:Nat)] w λe w'=>Below w.heap.size w w'/\
  (eF (ai T) (bf (kF T) (gQ T L))<=min V 16384->∃r,e=.returned (.tuple #[r,.int .i64 0])/\bT w' r (aaw T (bf (kF T) (gQ T L))))/\(¬eF (ai T) (bf (kF T) (gQ T L))<=min V 16384->e=.returned (.tuple #[.agg #[.slice none 0 0],.int .i64 9])):=by
 have R:=ah (w:=w) (.cells #[.slice none 0 0] eD);have C:=aa (Ph (hG.mono R) (by simp) (hD.mono R) hV zT L S F V aL);have Y:=nG.of hV L;have hc:=qZ hV S;obtain⟨l,hl⟩:=ae (gQ T L);rw[<-hl] at C Y hc F⊢;have Eb:(bf (kF T) l).length<=l.length:=by simpa [bf] using oH (ap:=kF T) l []
 have I:∀u∈bf (kF T) l,u.length<400:=λu H=>by
  have P:u.length<=(bf (kF T) l).flatten.length:=pA (nB H);rw[gH] at P;omega
 have O:=QG zT I;have N:=λ(u:List Nat) (H:u∈bf (kF T) l)=>Iz zT (I u H);have t:=Ec (ai T) (bf (kF T) l);have p:=λ(u:List Nat) (H:u∈bf (kF T) l)=>Gb (K:=ai T) H;obtain⟨us,ze⟩:=ae (bf (kF T) l);simp only[<-ze] at C Eb O N t p⊢;obtain⟨s,hs⟩:=ae (tx (dQ L));rw[<-hs] at C⊢;obtain⟨aK,Ma⟩:=ae (eF (ai T) us);simp only[<-Ma] at C t p⊢;have aC:=aa O;have aJ:=aa N;have aI:=aa t;have av:=aa p;obtain⟨mb,ar⟩:∃mb:Nat,mb=min V 16384:=⟨_,rfl⟩;rw[<-ar] at C⊢;have vL:mb<=16384:=by omega
 have W:=Is.new w #[.slice none 0 0] eD;clear ar hG hD Y hc hl S I ze hs Ma O N t p;go_enter func15,ntmps15;go_wp2_with fail;refine C.out.mono ?_;rintro e w1⟨an,Po,U⟩;have J:=af R an;have az:=J.size;have W:=W.mono an;by_cases i:aK<=mb
 ·obtain⟨v1,rfl,aF⟩:=Po i;obtain⟨a1,c1,rfl,am⟩:=aF;obtain⟨n,Y⟩:=ae us.length;rw[<-Y] at Eb⊢;have HN:=aa Y;have aN:=aa am;clear Po U C Y am;go_wp2_with fail;go_loopw [10,12,26] (λo _ jv wr=>∃j:Nat,j<=n/\jv=.int .i64 j/\(∃d:List Value,wr.ownsRow w1.heap.size eD 1 o j d/\∀k (y:k<j) (al:k<us.length),∃a n c,d[k]? = some (.slice a n c)/\bT wr (.agg #[.slice a n c]) ((l6 T us[k]).getD 0 0))/\Below w1.heap.size w1 wr) (λ_ _ jv _=>n-(intOf jv).toNat)
  case atStart=>exact⟨0,gW _,rfl,⟨[],iu _ _ _ _,λk y=>absurd y (by omega)⟩,gO _ _⟩
  case round=>
   obtain⟨j,hj,rfl,⟨d,f,q⟩,hE⟩:=hrel;have ji:=J.trans (hE.mono az);have Je:=ji.size;have aA:=hE.size;by_cases aO:j<n
   ·have zj:=eG (show j<n by omega);have ao:j<us.length:=by have:=HN.out;omega
    obtain⟨b,off,pp,g,mp,PB,_,rfl,c0,hP,_⟩:=aN.out j ao;have c0:=aB hE c0;have ax:=gx ao;have aM:dO (bq (ai T) us[j])<=16384:=gS (av.out _ ax) (gS i vL);have AL:=aa (L8 (hP.mono hE) (by rw[w_];exact QH _ _) (by rw[w_];exact aM));have Uy:=aa q;have au:d.length=j:=by have:=f.1;omega
    obtain⟨x,hx⟩:=ae ((l6 T us[j]).getD 0 0);rw[<-hx] at AL;have HX:=aa hx;clear hP q hx;go_wp2_with fail;refine AL.out.mono ?_;rintro e w7⟨r7,rfl,A,Z⟩;obtain⟨G,E,D,rfl,A⟩:=A.out;have ac:=aH f Z;have uK:=hE.trans (Z.mono aA);have aw:=aa A;clear A
    go_wp2_with (
     at_builtin
     refine qf rfl _ _ 100 rfl w1.heap.size eD (.agg #[.slice none 0 0]) 1 24 abN (by decide) (by decide) (by decide) (by decide) _ j _ rfl ac #[.slice G E D] rfl rfl (by simp[Value.oneCell']) (by omega) w1 uK (gw _) ?_
     intro v8 w8 o8 kL OT aQ)
    go_roundw
    case rel=>
     have ch:=bJ.bQ ac OT;refine⟨j+1,by omega,by simp,⟨d++[.slice G E D],o8,λk y al=>?_⟩,kL⟩;by_cases Q:k<j
     ·obtain⟨a,n',c,P,h2⟩:=Uy.out k Q al;exact⟨a,n',c,by rw[kn (by omega)];exact P,bT.iQ (h2.mono Z) ch (by decide)⟩
     obtain rfl:k=j:=by omega
     refine⟨G,E,D,by rw[j7 (by omega),au,m_];rfl,?_⟩;rw[<-HX.out];exact bT.iQ aw.out ch (by decide)
    case measure=>simp[intOf];omega
   have zj:=gI (show n<=j by omega);obtain rfl:j=n:=by omega
   have au:d.length=j:=by have:=f.1;omega
   obtain⟨oa,oc,rfl,_,_⟩:=ak f;have ab:abE wr (.slice oa j oc) (us.map λu=>(l6 T u).getD 0 0):=by
    refine⟨oa,oc,by rw[ia,<-HN.out],λk y=>?_⟩;rw[ia] at y;have Q:k<j:=by have:=HN.out;omega
    obtain⟨a,n',c,P,h2⟩:=q k Q y;obtain⟨b,cap,he,_,_,aD,_,z⟩:=dz f (show 0<j by omega);injection he with ay _ aR;subst ay;refine⟨b,0,a,n',c,rfl,aD,?_,?_⟩
    ·rw[kh];exact z k _ P
    rw[nf];exact h2
   have ad:∀k,k<=(us.map λu=>(l6 T u).getD 0 0).length->(bY Go.Cd.B (dU ((us.map λu=>(l6 T u).getD 0 0).take k))).length<274877906944:=λk y=>by
    rw[ia] at y;have P:=aC.out k y;have h3:=Cw (M:=16384) P (gS (aI.out k) (gS i vL));omega
   have ag:∀x∈us.map λu=>(l6 T u).getD 0 0,(bY Go.Cd.B x).length<274877906944:=λx hx=>by
    obtain⟨u,H,rfl⟩:=jx.1 hx;have h3:=Cw (M:=16384) (aJ.out u H) (gS (av.out u H) (gS i vL));omega
   have PO:=aa (SK ab (by rw[ia,<-HN.out];omega) ad ag);have aq:dU (us.map λu=>(l6 T u).getD 0 0)=aaw T us:=rfl;rw[aq] at PO;clear ab ad ag aq q;go_wp2_with fail;refine PO.out.mono ?_;rintro e w7⟨r7,rfl,A,Z⟩;obtain⟨G,E,D,rfl,A⟩:=A.out;have j0:=(W.mono hE).mono Z;have f0:=j0.at 0 rfl;have q0:=j0.frozen 0;have v0:=j0.set 0 (.slice G E D);have g0:=v0.at 0 rfl;have aE:=aa (bT.iQ A (bJ.put (o:=0) j0 (.slice G E D)) (by decide));have m:=aa (aj (off:=0) (u:=.slice G E D) (b:=w.heap.size) (ji.trans (Z.mono Je)) (gw _));clear A j0 v0;go_wp2_with fail;exact bodyPost_ret (v:=.tuple #[.agg #[.slice G E D],.int .i64 0]) (by simp[results,results15,go_sem,g0]) rfl ⟨m.out,λ_=>⟨_,rfl,aE.out⟩,λh=>absurd i h⟩
 obtain rfl:=U i;have f0:=W.at 0 rfl;have q0:=W.frozen 0;have v0:=W.set 0 (.slice none 0 0);have g0:=v0.at 0 rfl;have m:=aa (aj (off:=0) (u:=.slice none 0 0) (b:=w.heap.size) J (gw _));clear v0 Po U C;go_wp2_with fail;exact bodyPost_ret (v:=.tuple #[.agg #[.slice none 0 0],.int .i64 9]) (by simp[results,results15,go_sem,g0]) rfl ⟨m.out,λh=>absurd h i,λ_=>rfl⟩
def abB (o:nk w) {t:Nat} (m:cK w t T X) (n:aY T X) (x:T.length<1000) (L:List Nat) (h:∀c∈L,aP c) (a:(gQ T L).length<400) (l:Int) (g:l<0) :
 Calls prog 15 #[.pointer (some ⟨t,0,none⟩),.string (tx (dQ L)),.int .i64 l] w λe w'=>e=.returned (.tuple #[.agg #[.slice none 0 0],.int .i64 1])/\Below w.heap.size w w':=by
 have f:=ah (w:=w) (.cells #[.slice none 0 0] eD);have p:=aa (Pg (o.mono f) (by simp) (m.mono f) n x L h a);have r:Hid (Calls prog 25 #[.pointer (some ⟨t,0,none⟩),.string (tx (dQ L)),.int .i64 l] (w.alloc (.cells #[.slice none 0 0] eD)) λe w'=>e=.returned (.tuple #[.slice none 0 0,.int .i64 1])/\Below (w.alloc (.cells #[.slice none 0 0] eD)).heap.size (w.alloc (.cells #[.slice none 0 0] eD)) w'):=by
  refine aa ?_;have:decide (l<0)=true:=decide_eq_true g;obtain⟨s,k⟩:=ae (tx (dQ L));rw[<-k] at p⊢;generalize w.alloc (.cells #[.slice none 0 0] eD)=w0 at *;clear o m n x h a k g;go_enter func25,ntmps25;go_wp2_with fail;refine p.out.mono ?_;rintro e A⟨C,rfl,y,d⟩;obtain⟨G,H,rfl,_⟩:=id y;clear y;go_wp2;go_ret2;exact⟨rfl,d⟩
 obtain⟨s,k⟩:=ae (tx (dQ L));rw[<-k] at r⊢;have i:=Is.new w #[.slice none 0 0] eD;clear o m n x h a k g p;go_enter func15,ntmps15;go_wp2_with fail;refine r.out.mono ?_;rintro e A⟨rfl,d⟩;have q:=af f d;have i:=i.mono d;have:=i.at 0 rfl;have:=i.frozen 0;have z:=i.set 0 (.slice none 0 0);have B:=z.at 0 rfl;have j:=aa (aj (off:=0) (u:=.slice none 0 0) (b:=w.heap.size) q (gw _));clear z r;go_wp2_with fail;exact bodyPost_ret (v:=.tuple #[.agg #[.slice none 0 0],.int .i64 1]) (by simp[results,results15,go_sem,B]) rfl ⟨rfl,j.out⟩
def acs (F:nk w) {K:Nat} (C:cK w K T X) (j:aY T X) (z:T.length<1000) (D:List Nat) {U:List Nat} (p:gQ T D=U) (g:U.length<400) {h:Nat} (G:h=eF (ai T) (bf (kF T) U)) (f:Int) (O:f<9223372036854775808) :
 ∃(d:Int) (m:Nat),((f<0/\d=1/\m=0)\/(0<=f/\h<=min f.toNat 16384/\d=0/\0<m)\/(0<=f/\¬h<=min f.toNat 16384/\d=9/\m=0))/\(bY Go.Cd.B m).length<=16385/\
  ∀(W:World),Below w.heap.size w W->∀L:List Nat,(∀c∈L,aP c)->gQ T L=U->
   Calls prog 15 #[.pointer (some ⟨K,0,none⟩),.string (tx (dQ L)),.int .i64 f] W λe w'=>∃a n c,e=.returned (.tuple #[.agg #[.slice a n c],.int .i64 d])/\bT w' (.agg #[.slice a n c]) m/\Below W.heap.size W w':=by
 have H:∀w':World,bT w' (.agg #[.slice none 0 0]) 0:=λw'=>⟨_,rfl,by rw[di];exact .nil _ _ _ _ (λ_=>rfl)⟩;have q:(bY Go.Cd.B 0).length<=16385:=by rw[di];exact gW _
 by_cases I:f<0
 ·refine⟨1,0,.inl ⟨I,rfl,rfl⟩,q,λW E L t k=>?_⟩;refine(abB (F.mono E) (C.mono E) j z L t (by rw[k];exact g) f I).mono ?_;rintro e w'⟨rfl,o⟩;exact⟨none,0,0,rfl,H w',o⟩
 obtain⟨b,rfl⟩:∃b:Nat,f=(b:Int):=⟨f.toNat,by omega⟩;rw[oT];by_cases i:h<=min b 16384
 ·have l:aaw T (bf (kF T) U)=oI T U:=by rw[<-p];exact CZ j (nG.of j D)
  refine⟨0,oI T U,.inr (.inl ⟨by omega,i,rfl,by rw[<-p];exact acr j (nG.of j D)⟩),?_,λW E L t k=>?_⟩
  ·have A:∀u∈bf (kF T) U,u.length<400:=λu N=>by
    have y:u.length<=(bf (kF T) U).flatten.length:=pA (nB N);rw[gH] at y;omega
   have y:=QG z A (bf (kF T) U).length (gw _);rw[kO,ie (by rw[ia];exact gw _)] at y;rw[<-l];refine Cw (M:=16384) (x:=aaw T (bf (kF T) U)) y ?_;rw[<-G];omega
  refine(QI (F.mono E) (C.mono E) j z L t (by rw[k];exact g) b (by omega)).mono ?_;rintro e w'⟨o,J,_⟩;rw[k] at J;obtain⟨r,rfl,v⟩:=J (by rw[<-G];exact i);rw[l] at v;obtain⟨a,n,c,rfl,v⟩:=v.out;exact⟨a,n,c,rfl,v,o⟩
 refine⟨9,0,.inr (.inr ⟨by omega,i,rfl,rfl⟩),q,λW E L t k=>?_⟩;refine(QI (F.mono E) (C.mono E) j z L t (by rw[k];exact g) b (by omega)).mono ?_;rintro e w'⟨o,_,s⟩;rw[k] at s;obtain rfl:=s (by rw[<-G];exact i);exact⟨none,0,0,rfl,H w',o⟩
def abb {B n cap:Nat} {a:Option Addr} {l:List Nat} (h:w.ownsRow B bB 1 (.slice a n cap) n (ints l)) (h0:0<n):∃g,a=some ⟨g,0,none⟩/\B<=g/\g<w.heap.size:=by
 rcases h.2 with⟨b,i⟩|⟨g,c,e,b,f,d,_⟩
 ·omega
 cases b;exact⟨g,rfl,f,block_lt d⟩
def ints_at {l:List Nat} {k:Nat} (a:k<(ints l).length) {x:Nat} (h:l[k]? = some x):(ints l)[k]=.int .i64 x:=by
 have e:(ints l)[k]? = some (.int .i64 x):=by simp[ints,h]
 rw[gA a] at e;exact mL e
def P7 {v u:Value} {L:List Nat} (h:jq w v T X) (hl:bG w u (ints L)) (aL:T.length<1000000) (YS:L.length<1000000) :
 Calls prog 37 #[v,u] w λe w'=>∃r,e=.returned r/\w'.ownsRow w.heap.size bB 1 r L.length (ints (gL (ai T) L))/\Below w.heap.size w w':=by
 have HT:=aa h;obtain⟨a,nt,cap,ax,nx,cx,rfl⟩:=h.shape;obtain⟨n,hn⟩:=ae L.length;have HL:=aa hl;obtain⟨al,cl,rfl,_,_⟩:=bG.nO hl hn;have HN:=aa hn;rw[<-hn] at YS;have J:(ints L).length=n:=by rw[ek,hn]
 obtain⟨V,hW⟩:=ae (w.alloc (.cells #[.slice a nt cap,.slice ax nx cx] 25));have hb:=aO hW;have i0:=Is.nw hW;have H:V.heap.size=w.heap.size+1:=by rw[hW];simp
 have o0:(V.alloc (.cells #[] bB)).ownsRow (w.heap.size+1) bB 1 (.slice (some ⟨w.heap.size+1,0,none⟩) 0 0) 0 []:=by
  have:=rM V bB;rw[H] at this;exact this
 have q:Below (w.heap.size+1) V (V.alloc (.cells #[] bB)):=by rw[<-H];exact ah _
 have UA:=aa (HL.out.mono (hb.trans (q.mono (by omega))));have S:(V.alloc (.cells #[] bB)).heap.size=w.heap.size+2:=by simp[H]
 obtain⟨W1,G⟩:=ae (V.alloc (.cells #[] bB));rw[<-G] at o0 q UA S;rw[hW] at G;have am:w.heap.size+1<=W1.heap.size:=by omega
 have aR:Below w.heap.size w W1:=hb.trans (q.mono (by omega));have i1:Is W1 w.heap.size #[.slice a nt cap,.slice ax nx cx] 25:=i0.low q (by omega);have HK:=aa (λ(W:World) (E:Below w.heap.size w W) (c:Nat)=>tK (HT.out.mono E) c aL);have ad:=aa i1;have M:=aa aR;have O0:=aa o0;rw[G] at ad M O0 UA am;clear h hl hn o0 hW S H i0 q i1 aR hb G HL;go_enter func37,ntmps37;go_wp2_with (at_builtin;refine bR rfl _ _ 23 rfl (w.heap.size+1) bB _ 8 jN _ 0 _ rfl O0.out _ (ints L) rfl UA.out (kJ L) (by rw[J];unfold maxLen;omega) (by rw[J];omega) am ?_;intro v1 w3 o1 ac;obtain⟨a1,Ao,rfl,_,_⟩:=ak o1);have ar:Below w.heap.size w w3:=M.out.grown ac M.out.size (λk hk=>by have:=(O0.out.lt k hk).1;omega);have I3:=ad.out.keep O0.out ac (by omega);have o3:w3.ownsRow (w.heap.size+1) bB 1 (.slice a1 n Ao) n (ints L):=by
  have:=o1;rw[J] at this;simpa using this
 (try simp only[ek,<-HN.out,J,kh])
 have D6:=ar.size;have c3:=I3.at 0 rfl;clear O0 UA ad M ac o1 am;obtain⟨K,hK⟩:=ae (ai T);rw[<-hK] at HK;have aW:=aa hK;clear hK;go_loopw [6] (λtv wr=>∃(t:Nat) (O:List Nat),t<=n/\tv=.int .i64 t/\O.length=n/\passes K (n-t) O=passes K n L/\wr.ownsRow (w.heap.size+1) bB 1 (.slice a1 n Ao) n (ints O)/\Is wr w.heap.size #[.slice a nt cap,.slice ax nx cx] 25/\Below w.heap.size w wr) (λtv _=>n-(intOf tv).toNat)
 case atStart=>exact⟨0,L,gW _,rfl,HN.out.symm,by simp,o3,I3,ar⟩
 case round=>
  clear o3 I3 ar D6 c3;obtain⟨t,O,ht,rfl,N,A,m,hI,Q⟩:=hrel;by_cases a8:t<n
  ·obtain⟨C,z,rfl⟩:∃C z,O=C::z:=by
    cases O with
    | nil=>simp at N;omega
    | cons C z=>exact⟨C,z,rfl⟩
   have aV:=aa (show ∀O',O'=pass K (C::z)->passes K (n-(t+1)) O'=passes K n L from λO' e=>by
    rw[<-A,show n-t=(n-(t+1))+1 by omega,e];rfl)
   have Y0:=aa (show z.length+1=n by simpa using N);clear A N;have HO:=aa m;clear m;go_wp2_with fail;go_loopw [7] (λiv w2=>∃(i k:Nat) (D R:List Nat) (b:Nat),k+1=i/\i<=n/\iv=.int .i64 i/\D.length=k/\i+R.length=n/\D++Ky K b R=pass K (C::z)/\w2.ownsRow (w.heap.size+1) bB 1 (.slice a1 n Ao) n (ints (D++b::R))/\Is w2 w.heap.size #[.slice a nt cap,.slice ax nx cx] 25/\Below w.heap.size w w2) (λiv _=>n-(intOf iv).toNat)
   case atStart=>exact⟨1,0,[],z,C,rfl,by omega,rfl,rfl,by have:=Y0.out;omega,rfl,HO.out,hI,Q⟩
   case round=>
    clear hI Q;obtain⟨i,k,D,R,b,aS,a6,rfl,s,y,F,m,hI,Q⟩:=hrel;by_cases a5:i<n
    ·obtain⟨f,l,rfl⟩:∃f l,R=f::l:=by
      cases R with
      | nil=>simp at y;omega
      | cons f l=>exact⟨f,l,rfl⟩
     obtain⟨g,rfl,a9,Dw⟩:=abb m (by omega);have ba:(i:Int)-1=(k:Int):=by omega
     have aK:=aa F;have d:(ints (D++b::f::l)).length=n:=by rw[ek];simp at y⊢;omega
     obtain⟨o,aZ⟩:=jY m (j:=k) (by rw[d];omega);obtain⟨p,a2⟩:=jY m (j:=i) (by rw[d];omega);rw[ints_at (x:=b) _ (by rw[j7 (by omega),s];simp)] at o;rw[ints_at (x:=f) _ (by rw[j7 (by omega),s,<-aS,kB];rfl)] at p;have av:=aa (λ(u u':Value)=>((m.stored k u).1.stored i u').1);have I:=aa s;have aD:=aa m;have au:=aa y;have a7:k≠i:=by omega
     have ab:=aa (λ(W:World) (E:Below w.heap.size w W)=>HK.out W E b);have Z:=aa (λ(W:World) (E:Below w.heap.size w W)=>HK.out W E f);obtain⟨ka,aq⟩:=ae (K b);obtain⟨kb,ao⟩:=ae (K f);rw[<-aq] at ab;rw[<-ao] at Z;have aw:=aa aq;have aQ:=aa ao;have t0:=hI.at 0 rfl;have t1:=hI.at 1 rfl;have g0:=Gr.cell (ag wr) t0;have g1:=Gr.cell (ag wr) t1;have g2:=Gr.cell (ag wr) o;clear F s d aq ao m y;go_wp2_with fail;refine aC (Array.replicate 8 true) 8 0 mixed ?_;refine ay [0,1,2,3,4,5] 2 ?_
     iterate 6 (refine aA rfl ?_;go_big_quiet_step (rfl))
     refine az ?_;refine aI 6 ?_;go_wp2_with fail;refine(ab.out _ Q.drew).mono ?_;rintro e w5⟨rfl,h5⟩;go_wp2_with fail;refine aF h5 ?_;refine ay [7] 0 ?_
     iterate 1 (refine aA rfl ?_;go_big_quiet_step (rfl))
     refine az ?_;refine aJ [] ?_;refine tail_nil ?_;have P:=af (ag wr) h5;have rX:=af Q P;have t0:=aB P t0;have t1:=aB P t1;have o:=aB P o;have p:=aB P p;have g0:=Gr.cell (ag w5) t0;have g1:=Gr.cell (ag w5) t1;have g2:=Gr.cell (ag w5) p;have aM:=aa (aH aD.out P);have aN:=hI.mono P;clear aD Q hI h5 P ab;go_wp2_with fail;refine aC (Array.replicate 7 true) 7 0 mixed ?_;refine ay [0,1,2,3,4] 2 ?_
     iterate 5 (refine aA rfl ?_;go_big_quiet_step (rfl))
     refine az ?_;refine aI 5 ?_;go_wp2_with fail;refine(Z.out _ rX.drew).mono ?_;rintro e w6⟨rfl,U⟩;go_wp2_with fail;refine aF U ?_;refine ay [6] 0 ?_
     iterate 1 (refine aA rfl ?_;go_big_quiet_step (rfl))
     refine az ?_;refine aJ [] ?_;refine tail_nil ?_;have E6:=af (ag w5) U;have mF:=af rX E6;have o:=aB E6 o;have p:=aB E6 p;have Us:=aH aM.out E6;have an:=aN.mono E6;have d:(ints (D++b::f::l)).length=n:=by rw[ek];have:=au.out;have:=I.out;simp at *;omega
     have aZ:=(jY Us (j:=k) (by rw[d];omega)).2;have a2:=(jY Us (j:=i) (by rw[d];omega)).2;have av:=aa (λ(u u':Value)=>((Us.stored k u).1.stored i u').1);have aY:=aa Us;clear aM rX aN U E6 Z Us d;by_cases B:0<kb/\kb<ka
     ·obtain⟨s1,s2⟩:=B
      have ap:=aa (show(D++[f])++Ky K b l=pass K (C::z) by
       rw[<-aK.out,qW,if_pos (by rw[<-aw.out,<-aQ.out];exact⟨s1,s2⟩)];simp)
      go_wp2_with fail;go_region;go_wp2;go_roundw
      case rel=>
       have aU:(ints (D++b::f::l)).set k (.int .i64 f)=ints (D++f::f::l):=by
        simp only[ints,js,kt];rw[k_ _ _ (by rw[ia,I.out];exact gw _),ia,I.out,m_];rfl
       have a3:(ints (D++f::f::l)).set i (.int .i64 b)=ints ((D++[f])++b::l):=by
        simp only[ints,js,kt,sR];rw[k_ _ _ (by rw[ia,I.out];omega),ia,I.out,<-aS,kB];simp
       have aE:=av.out (.int .i64 f) (.int .i64 b);rw[aU,a3] at aE;refine⟨i+1,i,D++[f],l,b,rfl,by omega,rfl,by simp[I.out];omega,by have:=au.out;simp at this;omega,ap.out,aH aE (ag _),((an.put (by omega) _).put (by omega) _).mono (ag _),(aj (aj mF (by omega)) (by omega)).drew⟩
      case measure=>simp[intOf];omega
     have ap:=aa (show(D++[b])++Ky K f l=pass K (C::z) by
      rw[<-aK.out,qW,if_neg (by rw[<-aw.out,<-aQ.out];exact B)];simp)
     have qY:=aa (show ∃(i' k':Nat) (D' R':List Nat) (b':Nat),k'+1=i'/\i'<=n/\i'=i+1/\D'.length=k'/\i'+R'.length=n/\D'++Ky K b' R'=pass K (C::z)/\w6.ownsRow (w.heap.size+1) bB 1 (.slice (some ⟨g,0,none⟩) n Ao) n (ints (D'++b'::R')) from
      ⟨i+1,i,D++[b],l,f,rfl,by omega,rfl,by simp[I.out];omega,by have:=au.out;simp at this;omega,ap.out,by have:=aY.out;simpa using this⟩)
     by_cases a4:0<kb
     ·have bb:¬kb<ka:=λh=>B ⟨a4,h⟩;clear B;go_wp2;go_roundw
      case rel=>
       obtain⟨i',k',D',R',b',h1,h2,rfl,h4,h5,U,h7⟩:=qY.out;exact⟨i+1,k',D',R',b',h1,h2,rfl,h4,h5,U,h7,an,mF⟩
      case measure=>simp[intOf];omega
     clear B;go_wp2;go_roundw
     case rel=>
      obtain⟨i',k',D',R',b',h1,h2,rfl,h4,h5,U,h7⟩:=qY.out;exact⟨i+1,k',D',R',b',h1,h2,rfl,h4,h5,U,h7,an,mF⟩
     case measure=>simp[intOf];omega
    have a_:i=n:=by omega
    have Y:R=[]:=im.1 (by omega);have R9:=aa (aV.out (D++[b]) (by rw[<-F,Y];rfl));have aX:=aa (show wr.ownsRow (w.heap.size+1) bB 1 (.slice a1 n Ao) n (ints (D++[b])) from by rw[Y] at m;exact m);have I:=aa (show(D++[b]).length=n by simp;omega);clear F Y m s y;go_wp2;go_roundw
    case rel=>exact⟨t+1,D++[b],by omega,rfl,I.out,R9.out,aX.out,hI,Q⟩
    case measure=>simp[intOf];omega
  have aP:t=n:=by omega
  have HF:=aa (show wr.ownsRow w.heap.size bB 1 (.slice a1 n Ao) L.length (ints (gL K L)) from by
   rw[aP,m_] at A;have e1:O=gL K L:=by rw[<-BM,<-HN.out,<-A];rfl
   rw[<-e1,<-HN.out]
   exact aT m (by omega))
  clear A m N aP;go_wp2;go_ret;exact⟨_,rfl,by rw[<-aW.out];exact HF.out,Q⟩
def Em {v u:Value} {L:List Nat} (h:jq w v T X) (o:aY T X) (hl:bG w u (ints L)) (hL:∀x∈L,aP x) (p:T.length<1000000) (YS:L.length<10000) :
 Calls prog 8 #[v,u] w λe w'=>∃r,e=.returned r/\w'.ownsRow w.heap.size bB 1 r (gQ T L).length (ints (gQ T L))/\Below w.heap.size w w':=by
 have HT:=aa h;obtain⟨a,N,cap,K,P,M,rfl⟩:=h.shape;obtain⟨n,hn⟩:=ae L.length;obtain⟨al,cl,rfl,_,s⟩:=bG.nO hl hn;have O:=aa hn;have HX:=aa s;have HL:=aa hL;have Ja:n<10000:=by omega
 have HV:=aa o;have Q_:=aa (λl=>jJ o l);have Vx:=aa (λc=>il o c);have ac:=aa (λ(W:World) (E:Below w.heap.size w W) (c:Nat) (t:c<1114112)=>wD (HT.out.mono E) c t (λr hr x s=>((o.fine r hr).2.2.2.2 x s).2.1) (λr hr=>gS (o.fine r hr).2.2.1 (by decide)) p);have R:=aa (show ∀(W:World) (E:Below w.heap.size w W) (c:Nat) (t:c<1114112),Calls prog 36 #[.agg #[.slice a N cap,.slice K P M],.int .i64 c] W λe w'=>∃r,e=.returned (.tuple #[r,.bool true])/\bG w' r (ints (aD T c))/\Below W.heap.size W w' from λW E c t=>(ac.out W E c t).mono λe w' ⟨r,h1,J,Z⟩=>⟨r,by rw[h1,decide_eq_true (pE o c)],J (pE o c),Z⟩);have hb:=ah (w:=w) (.cells #[.slice a N cap,.slice K P M] 25);obtain⟨d,z⟩:=ae (w.alloc (.cells #[.slice a N cap,.slice K P M] 25));have d0:d.cell? ⟨w.heap.size,0,none⟩=some (.slice a N cap):=by rw[z];unfold World.cell?;rw[heap_alloc_new];rfl
 have d1:d.cell? ⟨w.heap.size,1,none⟩=some (.slice K P M):=by rw[z];unfold World.cell?;rw[heap_alloc_new];rfl
 rw[<-z] at hb;obtain⟨W1,f⟩:=ae (d.alloc (.cells #[] bB));have H:Below d.heap.size d W1:=by subst f;exact ah _
 have o1:W1.ownsRow d.heap.size bB 1 (.slice (some ⟨w.heap.size+1,0,none⟩) 0 0) 0 (ints []):=by
  subst f;have:=rM d bB;rw[show d.heap.size=w.heap.size+1 by rw[z];simp] at this⊢;exact this
 rw[z] at f;have ag:d.heap.size=w.heap.size+1:=by rw[z];simp
 have U:=aa (λ(W:World) (E:Below w.heap.size w W)=>HT.out.mono E);clear z h hl s hn hL o YS;go_enter func8,ntmps8;go_wp2_with fail;rw[<-f];clear f;go_loopw [5,13] (λov Y wr=>∃j:Nat,j<=n/\Y=.int .i64 j/\wr.ownsRow d.heap.size bB 1 ov ((L.take j).flatMap (aD T)).length (ints ((L.take j).flatMap (aD T)))/\Below d.heap.size d wr) (λ_ Y _=>n-(intOf Y).toNat)
 case atStart=>exact⟨0,gW _,rfl,o1,H⟩
 case round=>
  clear o1 H;obtain⟨j,hj,rfl,D,Q⟩:=hrel;have F:=af hb Q;have e0:=aB Q d0;have e1:=aB Q d1;obtain⟨YW,aj,rfl,_,_⟩:=ak D;by_cases ad:j<n
  ·have B:j<L.length:=by have:=O.out;omega
   obtain⟨b,off,rfl,an,t⟩:=HX.out j B;have t:=aB F t;have s:=(HL.out _ (gx B)).1;have i:=Q_.out (L.take j);rw[iS] at i;have ES:=aa (show(L.take (j+1)).flatMap (aD T)=(L.take j).flatMap (aD T)++aD T L[j] by rw[gE B,jj];simp);generalize (L.take j).flatMap (aD T)=S at *;generalize L[j]=x at *;have FA:=aa (R.out wr F x s);have ab:=Vx.out x;have HO:=aa D;clear D s;go_wp2_with fail;refine FA.out.mono ?_;rintro e w2⟨r2,rfl,s2,J⟩;have A:=af Q J;have G:=aa (aH HO.out J);have S2:=aa s2;generalize aD T x=m at *;obtain⟨nm,g⟩:=ae m.length;obtain⟨a2,c2,rfl,_,_⟩:=bG.nO s2 g;have y:(ints m).length=nm:=by rw[ek,g]
   have sN:=aa g;have am:S.length<=320000:=by omega
   rw[<-g] at ab;clear FA s2 g HO e0 e1;go_wp2_with (at_builtin;refine bR rfl _ _ 23 rfl d.heap.size bB _ 8 jN _ S.length _ rfl G.out _ (ints m) rfl S2.out (kJ m) (by rw[y];unfold maxLen;omega) (by rw[y];omega) A.size ?_;intro v' w3 C q);have lH:=A.grown q A.size (λk hk=>(G.out.lt k hk).1);go_roundw
   case rel=>exact⟨j+1,by omega,rfl,by rw[ES.out,qG,d',<-sN.out,<-y];exact C,lH⟩
   case measure=>simp[intOf];omega
  obtain rfl:n=j:=by omega
  have i:=Q_.out L;rw[<-O.out] at i;have I:=aa (P7 (U.out wr F) (Sl.aU D).any p (by rw[ie (by rw[O.out];exact gw _)];omega));have EQ:=aa (show gL (ai T) ((L.take n).flatMap (aD T))=gQ T L by rw[ie (by rw[O.out];exact gw _)];rfl);have V:=aa (show((L.take n).flatMap (aD T)).length=(gQ T L).length by rw[<-EQ.out];exact(by rw[<-BM,BK]));rw[EQ.out,V.out] at I;rw[V.out];rw[V.out] at D;clear D;go_wp2_with fail;refine I.out.mono ?_;rintro e w3⟨r3,rfl,o3,Z⟩;go_wp2;go_ret;exact⟨_,rfl,aT o3 (by have:=F.size;omega),F.trans (Z.mono F.size)⟩
end Go.Proofs.YtmnimbnojdndmaaGreatDoor
