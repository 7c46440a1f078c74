/- One machine of an NFD counts as its units do, multiplied; no condition. -/
import Derived.Test.YtmnimbnojdndmaaGreatDoorR20
import Derived.Lib.Case
import Derived.Lib.Repeat
set_option maxRecDepth 100000
set_option maxHeartbeats 6400000
set_option linter.all false
namespace Go.Proofs.YtmnimbnojdndmaaGreatDoor
open Go.RowKit Go.Cd _root_.Go.Proofs.Tryz
abbrev aao:TypeId:=33
def aap:Elem prog 61 aao (.pointer none) 8:=⟨rfl,underlying61,info_parts (by kernel_rfl)⟩
def dP.iQ {w w':World} {t:TypeId} {d p b:Nat} {K:Nat->Nat} {l:List Nat} (h:dP w d p b K l) (c:bJ w w' t) (u:84≠t) (j:eX≠t) (m:fu≠t) (q:aN≠t) (x:bB≠t) (n:nI≠t):dP w' d p b K l:=by
 obtain⟨N,s,v,o,r,h,i⟩:=h;exact⟨N,s,v,o,r,⟨c.is h.is u,c.own h.runs j,λe g=>(h.Ae e g).keep (.fV c m N h.hi.2) (.fV c q N h.hi.2),h.low,⟨h.hi.1,Nat.le_trans h.hi.2 c.size⟩,h.shp,λk f a=>⟨(h.ZQ k f a).1.iQ c x,(h.ZQ k f a).2⟩⟩,bT.iQ i c n⟩
def L_ (p:Nat):Value:=.pointer (some ⟨p,0,none⟩)
def Pg {w:World} (hG:nk w) (h0:0<w.heap.size) {P:Nat} {T:List aG} {X:List Nat} (hD:cK w P T X) (hV:aY T X) (zT:T.length<1000) (L:List Nat) (A:∀c∈L,aP c) (D:(gQ T L).length<400) :
 Calls prog 24 #[.pointer (some ⟨P,0,none⟩),.string (tx (dQ L))] w λe w'=>∃v,e=.returned (.tuple #[v,.int .i64 0])/\WO w' v P (ai T) (bf (kF T) (gQ T L))/\Below w.heap.size w w':=by
 have H:=aa (VM hG h0 hD hV zT L A (by rw[<-wR];omega));have z:=nG.of hV L;have R:=qZ hV A;obtain⟨l,hl⟩:=ae (gQ T L);rw[<-hl] at H z R D⊢;obtain⟨sL,G⟩:=ae (tx (dQ L));rw[<-G] at H⊢;have DC:=aa (λ(W:World) (E:Below w.heap.size w W)=>vX (hG.mono E).heads l R (by omega));have Q:=oH (ap:=kF T) l [];have Eb:(bf (kF T) l).length<=l.length:=by simpa [bf] using Q
 have TN:=aa (λ(W:World) (E:Below w.heap.size w W) (v:Value) (u:List Nat) (hu:u∈bf (kF T) l) (hv:bG W v (aM u))=>Lr (hD.mono E) hV u hv (λc h=>(R c (sH hu c h)).1) (vg (by rw[gH];exact z.ord) u hu) (by
  have h1:u.length<=(bf (kF T) l).flatten.length:=List.Sublist.length_le (List.sublist_flatten_of_mem hu);rw[gH] at h1
  omega))
 obtain⟨us,ze⟩:=ae (bf (kF T) l);simp only[<-ze] at TN Eb⊢;have SU:∀(W:World),Below w.heap.size w W->∀(v:Value),bG W v (aM l)->Calls prog 58 #[.pointer (some ⟨P,0,none⟩),v] W λe w'=>∃r f,e=.returned r/\w'.ownsRow W.heap.size eSl 1 r us.length f/\f.length=us.length/\(∀k (y:k<us.length),∃u,f[k]? = some u/\w'.ownsRow W.heap.size aN 1 u (us[k]).length (aM us[k]))/\Below W.heap.size W w':=λW E v hv=>by
  subst ze;exact L6 (hD.mono E) hV zT l hv R (by omega)
 have SU:=aa SU;obtain⟨s,hs⟩:=ae (tx (dQ l));rw[<-hs] at H DC;clear hG h0 hD z R Q ze hs G hl A;go_enter func24,ntmps24;go_wp2_with fail;refine H.out.mono ?_;rintro e w1⟨rfl,p⟩;have aj:=p.size;go_wp2_with fail;refine(DC.out w1 p).mono ?_;rintro e w2⟨r2,rfl,o2,K⟩;have q:=p.trans (K.mono aj);have am:=q.size;have t:=(Sl.aU (by rw[<-bF] at o2;exact o2)).any;obtain⟨a2,c2,rfl,_,_⟩:=ak o2;go_wp2_with fail;refine(SU.out w2 q _ t).mono ?_;rintro e w3⟨r3,f,rfl,o3,C,M,V⟩;have ac:=q.trans (V.mono am);have aq:=ac.size;obtain⟨n,z⟩:=ae us.length;rw[<-z] at o3 C;obtain⟨a3,c3,rfl,_,_⟩:=ak o3;have HN:=aa z;have af:=aa M;have ar:=aa C;have O3:=aa o3;have rW:n<400:=by omega
 clear H DC SU z C M o2 t p K V q o3;go_wp2_with fail;go_loopw [10,12,31] (λo _ jv wr=>∃j:Nat,j<=n/\jv=.int .i64 j/\(∃i:List Nat,i.length=j/\wr.ownsRow w3.heap.size aao 1 o j (i.map L_)/\∀k (y:k<i.length) (F:k<us.length),∃Z,dP wr Z i[k] P (ai T) us[k])/\Below w3.heap.size w3 wr) (λ_ _ jv _=>n-(intOf jv).toNat)
 case atStart=>exact⟨0,Nat.zero_le _,rfl,⟨[],rfl,World.ownsRow_nil _ _ _ _,λk y=>absurd y (by simp)⟩,Below.refl _ _⟩
 case round=>
  obtain⟨j,hj,rfl,⟨i,an,d,m⟩,J⟩:=hrel;have ji:=ac.trans (J.mono aq);have Je:=ji.size;have ag:=J.size;by_cases au:j<n
  ·have zj:=eG (show j<n by omega);have I:j<us.length:=by have:=HN.out;omega
   obtain⟨b,cap,he,_,_,_,_,a⟩:=dz O3.out (show 0<n by omega);injection he with B _ S;subst B S;obtain⟨x,hx,g⟩:=af.out j I;have c0:=aB J (a j x hx);have g:=aH g J;obtain⟨ax,cx,rfl,_,_⟩:=ak g;have N:bG wr (.slice ax us[j].length cx) (aM us[j]):=(Sl.aU g).any;have ad:=aa (TN.out wr ji _ us[j] (List.getElem_mem I) N);obtain⟨lx,U⟩:=ae (us[j].length);rw[<-U] at c0 ad;have Uy:=aa m;clear a hx g N U m;go_wp2_with fail;refine ad.out.mono ?_;rintro e w7⟨Y,rfl,hM,jh⟩;have ao:=aH d jh;have uK:=J.trans (jh.mono ag);have HM:=aa hM;clear hM
   go_wp2_with (
    at_builtin
    refine f_ rfl _ _ 61 rfl w3.heap.size aao _ 8 aap _ j _ rfl ao (L_ Y) rfl rfl (by omega) (by unfold maxLen;omega) w3 uK (Nat.le_refl _) ?_
    intro v8 w8 o8 kL al OT)
   go_roundw
   case rel=>
    have WQ:=ah (w:=w7) (.cells #[L_ Y] aao);have ch:=bJ.bQ al OT;refine⟨j+1,by omega,by simp,⟨i++[Y],by simp[an],by rw[List.map_append];exact o8,λk y F=>?_⟩,kL⟩;by_cases ab:k<i.length
    ·obtain⟨Z,h⟩:=Uy.out k ab F;rw[List.getElem_append_left ab];exact⟨Z,(((h.mono jh).mono WQ).iQ ch (by decide) (by decide) (by decide) (by decide) (by decide) (by decide))⟩
    obtain rfl:k=j:=by rw[List.length_append] at y;simp at y;omega
    refine⟨wr.heap.size,?_⟩;have:(i++[Y])[k]=Y:=by rw[List.getElem_append_right (by omega)];simp
    rw[this];exact((HM.out.mono WQ).iQ ch (by decide) (by decide) (by decide) (by decide) (by decide) (by decide))
   case measure=>simp[intOf];omega
  have zj:=gI (show n<=j by omega);obtain rfl:j=n:=by omega
  obtain⟨oa,oc,rfl,_,_⟩:=ak d;have HR:=aa d;have Uy:=aa m;clear d m;go_wp2;go_ret2;refine⟨_,rfl,⟨oa,oc,by rw[HN.out];rfl,λk y=>?_⟩,ji⟩;obtain⟨b,cap,he,_,_,_,_,a⟩:=dz HR.out (show 0<j by have:=HN.out;omega);injection he with B _ S;subst B;have O:k<i.length:=by have:=HN.out;omega
  obtain⟨Z,h⟩:=Uy.out k O y;refine⟨b,0,i[k],Z,rfl,?_,h⟩;rw[Nat.zero_add];exact a k (L_ i[k]) (by rw[List.getElem?_map,List.getElem?_eq_getElem O];rfl)
abbrev aaq:TypeId:=37
def aar:Elem prog 64 aaq (.pointer none) 8:=⟨rfl,underlying64,info_parts (by kernel_rfl)⟩
def jX.agG {w w':World} {t:TypeId} {f d g e:Nat} {i:List Nat} (h:jX w f d g e i) (c:bJ w w' t) (s:QB≠t) (m:eD≠t) (o:nI≠t):jX w' f d g e i:=by
 obtain⟨q,b,u,l⟩:=h;refine⟨c.is q s,b,c.own u m,λk r=>?_⟩;obtain⟨a,n,j,p,v⟩:=l k r;exact⟨a,n,j,p,bT.iQ v c o⟩
def ak3 (w:World) (v:Value) (dp:Nat) (T:List aG) (us:List (List Nat)):Prop:=
 ∃a c,v=.slice a us.length c/\∀k (i:k<us.length),∃b off d g e h f,a=some ⟨b,off,none⟩/\w.cell? ⟨b,off+k,none⟩=some (.pointer (some ⟨d,0,none⟩))/\jX w h d g e (l6 T us[k])/\dP w f e dp (ai T) us[k]
def CW:∀{l:List Nat} {x:Nat},x∈l->x<=l.sum
 | y::l,x,h=>by
   rw[List.sum_cons];rcases List.mem_cons.1 h with rfl|h
   ·omega
   have:=CW h;omega
def Gb {K:Nat->Nat} {us:List (List Nat)} {u:List Nat} (h:u∈us):dO (bq K u)<=eF K us:=by
 unfold eF;exact CW (List.mem_map.2 ⟨u,h,rfl⟩)
def Ph {w:World} (hG:nk w) (h0:0<w.heap.size) {Q:Nat} {T:List aG} {X:List Nat} (hD:cK w Q T X) (hV:aY T X) (zT:T.length<1000) (L:List Nat) (G:∀c∈L,aP c) (D:(gQ T L).length<400) (y:Nat) (aJ:y<9223372036854775808) :
 Calls prog 25 #[.pointer (some ⟨Q,0,none⟩),.string (tx (dQ L)),.int .i64 (y:Nat)] w λe w'=>Below w.heap.size w w'/\
  (eF (ai T) (bf (kF T) (gQ T L))<=min y 16384->∃v,e=.returned (.tuple #[v,.int .i64 0])/\ak3 w' v Q T (bf (kF T) (gQ T L)))/\(¬eF (ai T) (bf (kF T) (gQ T L))<=min y 16384->e=.returned (.tuple #[.slice none 0 0,.int .i64 9])):=by
 have S:=aa (Pg hG h0 hD hV zT L G D);have P:=nG.of hV L;have hc:=qZ hV G;obtain⟨l,hl⟩:=ae (gQ T L);rw[<-hl] at S P hc D⊢;have Eb:(bf (kF T) l).length<=l.length:=by simpa [bf] using oH (ap:=kF T) l []
 have r:∀u∈bf (kF T) l,u.length<400:=λu f=>by
  have h1:u.length<=(bf (kF T) l).flatten.length:=List.Sublist.length_le (List.sublist_flatten_of_mem f);rw[gH] at h1;omega
 have CO:=aa (λ(W:World) (v:Value) (hv:WO W v Q (ai T) (bf (kF T) l))=>Tu hv (λu f=>Nat.lt_trans (r u f) (by decide)) (by omega));have NW:=aa (λ(W:World) (E:Below w.heap.size w W) (C m:Nat) (u:List Nat) (f:u∈bf (kF T) l) (p:dP W m C Q (ai T) u) (hs:dO (bq (ai T) u)<=16384)=>LV (hD.mono E) hV zT p (r u f) (λc h=>hc c (sH f c h)) hs);have R:(bY Go.Cd.B (eF (ai T) (bf (kF T) l))).length<=20003:=by
  have:=L9 (K:=ai T) (us:=bf (kF T) l) (λu f=>Nat.lt_trans (r u f) (by decide)) (by omega) (bf (kF T) l).length
  rwa [List.take_length] at this
 have t:∀u∈bf (kF T) l,dO (bq (ai T) u)<=eF (ai T) (bf (kF T) l):=λu f=>Gb f;obtain⟨us,ze⟩:=ae (bf (kF T) l);simp only[<-ze] at S CO NW Eb R t⊢;obtain⟨s,hs⟩:=ae (tx (dQ L));rw[<-hs] at S⊢;obtain⟨A,Ma⟩:=ae (eF (ai T) us);simp only[<-Ma] at CO R t⊢;have ay:=aa t;have zb:decide ((y:Int)<0)=false:=decide_eq_false (by omega);have z:∃i:Nat,i=min y 16384:=⟨_,rfl⟩;obtain⟨i,z⟩:=z;rw[<-z];have Ja:(if (y:Int)<16384 then (y:Int) else 16384)=(i:Int):=by split <;> omega
 have aK:min (y:Int) 16384=(i:Int):=by omega
 have vL:i<=16384:=by omega
 clear hG h0 hD P hc hl G r ze hs Ma t z;go_enter func25,ntmps25;go_wp2_with fail;refine S.out.mono ?_;rintro e w1⟨v1,rfl,p,ag⟩;have ar:=ag.size;obtain⟨a1,c1,rfl,ad⟩:=id p;obtain⟨n,P⟩:=ae us.length;rw[<-P] at p Eb⊢;have HM:=aa p;have ax:=aa ad;have HN:=aa P;clear p ad P S;go_wp2_with fail;refine(CO.out w1 _ HM.out).mono ?_;rintro e w2⟨r2,rfl,hN,ab⟩;obtain⟨ua,un,uc,rfl,hN⟩:=hN.out;have al:=ag.trans (ab.mono ar);have az:=al.size;go_wp2_with fail;refine(uf i (by omega) w2).mono ?_;rintro e w3⟨r3,rfl,I,N⟩;have CM:=aa (pK (hN.mono N) I (by omega) (Nat.lt_of_le_of_lt (sF (n:=0) (by rw[Nat.pow_zero];omega)) (by decide)));obtain⟨ub,um,ud,rfl,_⟩:=I.out;have am:=al.trans (N.mono az);have av:=am.size;have aE:=af ab N;clear hN I CO;go_wp2_with fail;refine CM.out.mono ?_;rintro e w4⟨rfl,Z⟩;have F:=am.trans (Z.mono av);have aF:=F.size;have an:=af aE Z;clear CM;by_cases J:A<=i
 ·have zc:decide ((0:Int)<sK A i)=false:=by
   refine decide_eq_false ?_;unfold sK;rcases Nat.lt_or_ge A i with h|h
   ·rw[if_pos h];decide
   rw[if_neg (by omega),if_neg (by omega)];decide
  go_wp2_with fail;go_loopw [10,12,13,14,39] (λo _ _ _ jv wr=>∃j:Nat,j<=n/\jv=.int .i64 j/\(∃d:List Nat,d.length=j/\wr.ownsRow w4.heap.size aaq 1 o j (d.map L_)/\∀k (O:k<d.length) (V:k<us.length),∃g C U m,jX wr U d[k] g C (l6 T us[k])/\dP wr m C Q (ai T) us[k])/\Below w4.heap.size w4 wr) (λ_ _ _ _ jv _=>n-(intOf jv).toNat)
  case atStart=>exact⟨0,Nat.zero_le _,rfl,⟨[],rfl,World.ownsRow_nil _ _ _ _,λk O=>absurd O (by simp)⟩,Below.refl _ _⟩
  case round=>
   obtain⟨j,hj,rfl,⟨d,aA,a,x⟩,hE⟩:=hrel;have ji:=F.trans (hE.mono aF);have Je:=ji.size;have aq:=hE.size;by_cases aM:j<n
   ·have zj:=eG (show j<n by omega);have H:j<us.length:=by have:=HN.out;omega
    have M:=af an hE;obtain⟨b,off,C,m,rfl,c0,p⟩:=ax.out j H;have c0:=aB M c0;have aI:=aa (NW.out wr ji C m us[j] (List.getElem_mem H) (p.mono M) (Nat.le_trans (ay.out _ (List.getElem_mem H)) (Nat.le_trans J vL)));have Uy:=aa x;have ao:=aa (p.mono M);clear p x;go_wp2_with fail;refine aI.out.mono ?_;rintro e w7⟨pp,g,rfl,hP,Y⟩;have aD:=aH a Y;have uK:=hE.trans (Y.mono aq);have HP:=aa hP;clear hP
    go_wp2_with (
     at_builtin
     refine f_ rfl _ _ 64 rfl w4.heap.size aaq _ 8 aar _ j _ rfl aD (L_ pp) rfl rfl (by omega) (by unfold maxLen;omega) w4 uK (Nat.le_refl _) ?_
     intro v8 w8 o8 kL aw OT)
    go_roundw
    case rel=>
     have WQ:=ah (w:=w7) (.cells #[L_ pp] aaq);have ch:=bJ.bQ aw OT;refine⟨j+1,by omega,by simp,⟨d++[pp],by simp[aA],by rw[List.map_append];exact o8,λk O V=>?_⟩,kL⟩;by_cases aj:k<d.length
     ·obtain⟨g',aC,U,m,h,h'⟩:=Uy.out k aj V;rw[List.getElem_append_left aj];exact⟨g',aC,U,m,(((h.mono Y).mono WQ).agG ch (by decide) (by decide) (by decide)),(((h'.mono Y).mono WQ).iQ ch (by decide) (by decide) (by decide) (by decide) (by decide) (by decide))⟩
     obtain rfl:k=j:=by rw[List.length_append] at O;simp at O;omega
     refine⟨g,C,wr.heap.size,m,?_,(((ao.out.mono Y).mono WQ).iQ ch (by decide) (by decide) (by decide) (by decide) (by decide) (by decide))⟩;have:(d++[pp])[k]=pp:=by rw[List.getElem_append_right (by omega)];simp
     rw[this];exact((HP.out.mono WQ).agG ch (by decide) (by decide) (by decide))
    case measure=>simp[intOf];omega
   have zj:=gI (show n<=j by omega);obtain rfl:j=n:=by omega
   obtain⟨oa,oc,rfl,_,_⟩:=ak a;have HR:=aa a;have Uy:=aa x;clear a x;go_wp2;go_ret2;refine⟨ji,λ_=>⟨_,rfl,oa,oc,by rw[HN.out];rfl,λk O=>?_⟩,λh=>absurd J h⟩;obtain⟨b,cap,he,_,_,_,_,q⟩:=dz HR.out (show 0<j by have:=HN.out;omega);injection he with au _ aL;subst au;have ac:k<d.length:=by have:=HN.out;omega
   obtain⟨g,C,U,m,h⟩:=Uy.out k ac O;refine⟨b,0,d[k],g,C,U,m,rfl,?_,h⟩;rw[Nat.zero_add];exact q k (L_ d[k]) (by rw[List.getElem?_map,List.getElem?_eq_getElem ac];rfl)
 have zc:decide ((0:Int)<sK A i)=true:=by rw[xJ (by omega)];rfl
 go_wp2_with fail;go_ret2;exact⟨F,λh=>absurd h J,λ_=>rfl⟩
section
open Go.RowKit Go.Cd
def WR (l:List Nat) (j:Nat):((nz l)[j]?.getD 0).toNat=l.getD j 0:=by
 simp only[nz,List.getElem?_map,List.getD_eq_getElem?_getD];cases l[j]? <;> simp
def QD {bs l m:List Nat} (vl:∀i,i<bs.length->l.getD i 0<bs.getD i 0) (a:∀i,i<bs.length->m.getD i 0<bs.getD i 0) :
 ∀j,j<=bs.length->gU bs (nz l) j=gU bs (nz m) j->∀i,i<j->l.getD i 0=m.getD i 0
 | 0,_,_,_,h=>by omega
 | j+1,hj,e,i,hi=>by
   simp only[gU] at e;rw[WR,WR,show bs[j]?.getD 0=bs.getD j 0 from (List.getD_eq_getElem?_getD).symm] at e;have g:=vl j (by omega);have d:=a j (by omega);generalize bs.getD j 0=b at *;generalize k:l.getD j 0=x at *;generalize f:m.getD j 0=y at *;have c:x=y:=by
    have:=congrArg (· % b) e;simpa [Nat.add_mod,Nat.mod_eq_of_lt g,Nat.mod_eq_of_lt d] using this
   have n:gU bs (nz l) j=gU bs (nz m) j:=by
    rw[c] at e;exact Nat.eq_of_mul_eq_mul_right (show 0<b by omega) (Nat.add_right_cancel e)
   by_cases h:i=j
   ·subst h;rw[k,f,c]
   exact QD vl a j (by omega) n i (by omega)
def eQ.oJ {R:List bS} {s:eZ} (h:eQ R s):∀i,i<(kM (aL R s.1)).length->s.2.getD i 0<(kM (aL R s.1)).getD i 0:=by
 intro i c;have a:i<(aL R s.1).2.length:=by rw[<-eO];exact c
 have b:i<s.2.length:=by rw[h.len];exact a
 have:=h.le i b a;rw[List.getD_eq_getElem?_getD,List.getD_eq_getElem?_getD,List.getElem?_eq_getElem c,List.getElem?_eq_getElem b,Option.getD_some,Option.getD_some,Ii a];omega
def aas {R:List bS} {s b:eZ} (h:eQ R s) (c:eQ R b) (e:fK R s=fK R b):s=b:=by
 have t:=Az h;have m:=jW h.lt;rw[<-df h.lt] at m;have u:=Az c;have l:=jW c.lt;rw[<-df c.lt] at l;unfold fK at e;have a:∀i k,i<=k->dO (R.take i)<=dO (R.take k):=λi k f=>by
  have:=gG (R.take k) i
  rwa [List.take_take,Nat.min_eq_left f] at this
 have n:s.1=b.1:=by
  rcases Nat.lt_trichotomy s.1 b.1 with hlt|he|hlt
  ·have:=a (s.1+1) b.1 hlt;omega
  ·exact he
  have:=a (b.1+1) s.1 hlt;omega
 obtain⟨k,ms⟩:=s;obtain⟨p,d⟩:=b;obtain rfl:k=p:=n;have r:=QD h.oJ c.oJ _ (Nat.le_refl _) (by simpa using e);have g:=h.len;have o:=c.len;have:ms=d:=by
  refine List.ext_getElem (g.trans o.symm) λi j q=>?_;have:=r i (by rw[eO];show i<(aL R k).2.length;rw[<-g];exact j);rw[List.getD_eq_getElem?_getD,List.getD_eq_getElem?_getD,List.getElem?_eq_getElem j,List.getElem?_eq_getElem q] at this;exact this
 rw[this]
def Pj {R:List bS} {s:eZ} (h:eQ R s):sW R (fK R s)=s:=aas (uW (nD h)) h (Pb (nD h))
section
variable {K : Nat -> Nat}
def pV (K:Nat->Nat):Nat->List Nat->List Nat
 | _,[]=>[]
 | p,a::t=>if K a=0 then [] else if K a=p then pV K p t else a::pV K (K a) t
def Pk (K:Nat->Nat):List Nat->List Nat
 | []=>[]
 | a::t=>if K a=0 then [a] else pV K 0 (a::t)
def WT:List Nat->List (Nat×List Nat)->List Nat
 | m::ms,x::L=>(if m<x.2.length then [x.2.getD m 0] else [])++WT ms L
 | _,_=>[]
def Gc:∀(ms:List Nat) (L:List (Nat×List Nat)),ms.length=L.length->gW ms L L.length=WT ms L
 | [],[],_=>rfl
 | [],_::_,h=>by simp at h
 | _::_,[],h=>by simp at h
 | m::ms,x::L,h=>by
   have a:=Gc ms L (by simpa using h);unfold gW at a⊢;rw[List.length_cons,List.range_succ_eq_map,List.flatMap_cons,List.flatMap_map];have e:(λi=>lZ (m::ms) (x::L) (i+1))=lZ ms L:=by funext i;simp[lZ]
   show lZ (m::ms) (x::L) 0++(List.range L.length).flatMap (λi=>lZ (m::ms) (x::L) (i+1))=_;rw[e,a];simp[lZ,WT]
def Mc {n:Nat} (e:n≠0) (b:List Nat):∀t:List Nat,(∀y∈t,K y=n)->pV K n (t++b)=pV K n b
 | [],_=>rfl
 | a::t,h=>by
   have c:=h a (by simp);show(if K a=0 then [] else if K a=n then pV K n (t++b) else _)=_;rw[if_neg (by omega),if_pos c];exact Mc e b t λy d=>h y (List.mem_cons_of_mem _ d)
def Md {p:Nat} {rest:List Nat} (h:∀a t,rest=a::t->K a=0):pV K p rest=[]:=by
 cases rest with
 | nil=>rfl
 | cons a t=>
   show(if K a=0 then _ else _)=_;rw[if_pos (h a t rfl)]
def Iq {rest:List Nat} (d:∀a t,rest=a::t->K a=0):∀(ms:List Nat) (L:List (Nat×List Nat)) (p:Nat),ms.length=L.length->Ea K L->(∀x∈L,p<x.1)->pV K p (kQ ms L++rest)=WT ms L
 | [],[],p,_,_,_=>Md d
 | [],_::_,_,h,_,_=>by simp at h
 | _::_,[],_,h,_,_=>by simp at h
 | m::ms,x::L,p,h,hL,hp=>by
   have f:=hL.1 x (by simp);have e:=(List.pairwise_cons.1 hL.2).1;show pV K p ((x.2.drop m++kQ ms L)++rest)=(if m<x.2.length then [x.2.getD m 0] else [])++WT ms L;by_cases b:m<x.2.length
   ·rw[if_pos b,List.drop_eq_getElem_cons b,List.getD_eq_getElem?_getD,List.getElem?_eq_getElem b,Option.getD_some];have i:K x.2[m]=x.1:=f.2 _ (List.getElem_mem b);have:=hp x (by simp);show(if K x.2[m]=0 then [] else if K x.2[m]=p then _ else x.2[m]::pV K (K x.2[m]) ((x.2.drop (m+1)++kQ ms L)++rest))=_;rw[if_neg (by omega),if_neg (by omega),i,List.append_assoc,Mc (by omega) _ _ (λy g=>f.2 y (List.mem_of_mem_drop g)),Iq d ms L x.1 (by simpa using h) hL.tail (λz c=>e z c)];rfl
   rw[if_neg b,List.drop_eq_nil_of_le (by omega),List.nil_append,List.nil_append];exact Iq d ms L p (by simpa using h) hL.tail (λz c=>hp z (List.mem_cons_of_mem _ c))
def Tv {R:List bS} (h:Ip K R) {s:eZ} (g:eQ R s):ko R s=Pk K (mJ R s):=by
 have c:=F9 h s.1;have f:=h.rest s.1;have i:=Iq f s.2 (aL R s.1).2 0 g.len c (λx k=>(c.1 x k).1);unfold ko;rw[Gc _ _ g.len,<-i];unfold mJ;cases j:kQ s.2 (aL R s.1).2 with
 | nil=>
   rw[List.nil_append,Md f,if_pos rfl];by_cases b:s.1+1<R.length
   ·rw[if_pos b,List.drop_eq_getElem_cons b,List.flatMap_cons,df b];have h0:K R[s.1+1].1=0:=f _ _ (by rw[List.drop_eq_getElem_cons b,List.flatMap_cons];rfl);show _=(if K R[s.1+1].1=0 then _ else _);rw[if_pos h0]
   rw[if_neg b,List.drop_eq_nil_of_le (by omega)];rfl
 | cons a t=>
   have d:K a≠0:=LU c j;have e:pV K 0 (a::t++(R.drop (s.1+1)).flatMap LP)≠[]:=by
    show(if K a=0 then [] else if K a=0 then _ else a::_)≠[];rw[if_neg d,if_neg d];exact List.cons_ne_nil _ _
   rw[if_neg e];show _=(if K a=0 then _ else _);rw[if_neg d];rfl
def Me {R:List bS} (h:Ip K R):∀(l:List Nat) {s:eZ},eQ R s->l.foldlM (λr c=>fE K c r) (mJ R s)=(l.foldlM (iy K R) s).map (mJ R)
 | [],_,_=>rfl
 | c::l,s,hs=>by
   rw[List.foldlM_cons,List.foldlM_cons];show(fE K c (mJ R s)).bind _=_;rw[WJ h hs];cases a:iy K R s c with
   | none=>rfl
   | some s1=>exact Me h l (wY hs a)
def QF {c:Nat}:∀{l l':List Nat},fE K c l=some l'->l'.length+1=l.length
 | [],_,e=>by cases e
 | a::t,l',e=>by
   unfold fE at e
   split at e
   ·split at e
    ·cases e;rfl
    cases e
   split at e
   ·cases e
   split at e
   ·cases hd:fE K c t with
    | none=>rw[hd] at e;cases e
    | some t'=>
      rw[hd] at e;cases e;have:=QF hd;simp only[List.length_cons];omega
   split at e
   ·cases e;rfl
   cases e
def Mf:∀(F l l':List Nat),F.foldlM (λr c=>fE K c r) l=some l'->l'.length+F.length=l.length
 | [],l,l',e=>by
   have:l=l':=by simpa using e
   rw[this];rfl
 | c::F,l,l',e=>by
   rw[List.foldlM_cons] at e;cases hd:fE K c l with
   | none=>rw[hd] at e;cases e
   | some l1=>
     rw[hd] at e;have a:=QF hd;have b:=Mf F l1 l' e;simp only[List.length_cons];omega
end
variable {T:List aG} {l:List Nat}
def vk (T:List aG) (c:Nat) (l:List Nat):Option (List Nat):=(aD T c).foldlM (λr c=>fE (ai T) c r) l
def Ir (T:List aG) (l:List Nat):List Nat:=b_ ((Pk (ai T) l).flatMap λx=>(uY T x).filter λc=>(vk T c l).isSome)
def cntF (T:List aG):Nat->List Nat->Nat
 | 0,_=>0
 | f+1,l=>if l=[] then 1 else ((Ir T l).map λc=>match vk T c l with|some r=>cntF T f r|none=>0).sum
def oI (T:List aG) (l:List Nat):Nat:=cntF T (l.length+1) l
def xg {c:Nat} {r:List Nat} (h:vk T c l=some r):r.length<l.length:=by
 have:=Mf _ _ _ h;have:=List.length_pos_iff.2 (pF T c);omega
def Gd :∀(f g:Nat) (l:List Nat),l.length<f->l.length<g->cntF T f l=cntF T g l
 | 0,_,l,h,_=>by omega
 | _,0,l,_,h=>by omega
 | f+1,g+1,l,hf,hg=>by
   unfold cntF
   split
   ·rfl
   refine congrArg List.sum (List.map_congr_left λc _=>?_);cases hd:vk T c l with
   | none=>rfl
   | some r=>
     have:=xg hd;exact Gd f g r (by omega) (by omega)
def xh (T:List aG):oI T []=1:=rfl
def CY (h:l≠[]):oI T l=((Ir T l).map λc=>match vk T c l with|some r=>oI T r|none=>0).sum:=by
 show(if l=[] then 1 else _)=_;rw[if_neg h];refine congrArg List.sum (List.map_congr_left λc _=>?_);cases hd:vk T c l with
 | none=>rfl
 | some r=>exact Gd _ _ r (xg hd) (Nat.lt_succ_self _)
def Mg {R:List bS} (h:Ip (ai T) R) {s:eZ} (a:eQ R s) (c:Nat):vk T c (mJ R s)=(fw (ai T) (aD T) R s c).map (mJ R):=Me h _ a
def aat {R:List bS} (h:Ip (ai T) R) {s:eZ} (a:eQ R s):b_ (pO (ai T) (aD T) (uY T) R s)=Ir T (mJ R s):=by
 unfold pO Ir;rw[Tv h a];congr 1;refine congrArg (λf=>(Pk (ai T) (mJ R s)).flatMap f) (funext λx=>?_);refine congrArg (λf=>(uY T x).filter f) (funext λc=>?_);rw[Mg h a];cases fw (ai T) (aD T) R s c <;> rfl
def WU (g:nG T l):∀(n:Nat) {s:eZ},eQ (bq (ai T) l) s->(mJ (bq (ai T) l) s).length<=n->(l6 T l).getD (fK (bq (ai T) l) s) 0=oI T (mJ (bq (ai T) l) s):=by
 have d:=WM l.length rfl g.ord;intro n
 induction n with
 | zero=>
   intro s a f;have h0:mJ (bq (ai T) l) s=[]:=List.eq_nil_of_length_eq_zero (by omega);rw[CJ (nD a),h0,xh];unfold jk;rw[Pj a,if_pos ((CB a).2 h0)]
 | succ n ih=>
   intro s a f;by_cases h0:mJ (bq (ai T) l) s=[]
   ·rw[CJ (nD a),h0,xh];unfold jk;rw[Pj a,if_pos ((CB a).2 h0)]
   rw[CJ (nD a),CY h0];unfold jk;rw[Pj a,if_neg (λe=>h0 ((CB a).1 e))];show List.sum ((b_ (pO _ _ _ _ s)).map _)=_;rw[aat d.fine a];refine congrArg List.sum (List.map_congr_left λc _=>?_);have hd:=Mg d.fine a c;rw[hd];cases b:fw (ai T) (aD T) (bq (ai T) l) s c with
   | none=>rfl
   | some s'=>
     rw[b] at hd;have:=xg hd;exact ih (Cq a b) (by omega)
def yJ (b:nG T l):(l6 T l).getD 0 0=oI T l:=by
 have a:=WM l.length rfl b.ord;have h:=WU b _ (agA a.ne) (Nat.le_refl _)
 rwa [adl,adj a] at h
end
section
open Go.RowKit Go.Cd
section
variable {K : Nat -> Nat}
end
def Tw {T:List aG} {c:Nat} (h:mapOf T c=[]):aD T c=[c]:=iK h _
end
section
open Go.RowKit Go.Cd
theorem aau {T:List aG} {X:List Nat} (hV:aY T X) {b:Nat} (h:CQ T b=false) (c:Nat):b∉(aD T c).drop 1:=by
 unfold CQ at h;rw [Bool.or_eq_false_iff,Bool.or_eq_false_iff,decide_eq_false_iff_not] at h;obtain ⟨h1,h2,h3⟩:=h;intro hb;by_cases hk4:hk c<4
 ·by_cases hm:mapOf T c=[]
  ·rw [Tw hm] at hb;simp at hb
  ·refine h1 ?_;unfold yI;have hr:∃r,rowOf T c=some r∧r.map≠[]:=by
    unfold mapOf at hm;rw [if_pos hk4] at hm;unfold bP at hm;cases e:rowOf T c with
    | none=>rw [e] at hm;exact absurd rfl hm
    | some r=>rw [e] at hm;exact ⟨r,rfl,hm⟩
   obtain ⟨r,hr,hne⟩:=hr;obtain ⟨hrT,hrc⟩:=gy hr;refine List.mem_flatMap.2 ⟨r,?_,by rw [hrc];exact hb⟩;unfold mapped;refine List.mem_filter.2 ⟨hrT,?_⟩;cases e:r.map with
   | nil=>exact absurd e hne
   | cons _ _=>rfl
 ·rw [(qX hV (by omega)).1] at hb;have n2:hk b≠2:=fun e=>by rw [e] at h2;simp at h2
  have n3:hk b≠3:=fun e=>by rw [e] at h3;simp at h3
  have e1:=Nat.mod_lt (c-44032) (show 28 > 0 by decide);have e2:(c-44032) % 588 / 28<21:=by omega
  have hv:∀k,k<21->hk (4449+k)=2:=fun k hk=>by unfold Go.Cd.hk;rw [if_neg (by omega),if_pos (by omega)]
  have ht:∀k,0<k->k<28->hk (4519+k)=3:=fun k h0 hk=>by unfold Go.Cd.hk;rw [if_neg (by omega),if_neg (by omega),if_pos (by omega)]
  unfold hparts at hb;by_cases h4:hk c=4
  ·rw [if_pos h4] at hb;simp at hb;exact n2 (by rw [hb];exact hv _ e2)
  ·rw [if_neg h4,if_pos (by have:=vU c;omega)] at hb;have h5:hk c=5:=by have:=vU c;omega
   have h0:0<(c-44032) % 28:=by rw [kI] at h5;omega
   simp at hb;rcases hb with hb|hb
   ·exact n2 (by rw [hb];exact hv _ e2)
   ·exact n3 (by rw [hb];exact ht _ h0 e1)
section
variable {K : Nat -> Nat}
theorem Iu {b:Nat} (hb:K b=0) (t:List Nat):∀(A:List Nat) (p:Nat),pV K p (A++b::t)=pV K p A
 | [],p=>by
   show (if K b=0 then _ else _)=[];rw [if_pos hb]
 | a::A,p=>by
   show (if K a=0 then [] else if K a=p then pV K p (A++b::t) else a::pV K (K a) (A++b::t))=(if K a=0 then [] else if K a=p then pV K p A else a::pV K (K a) A);rw [Iu hb t A p,Iu hb t A (K a)]
theorem aav {b:Nat} (hb:K b=0) (t:List Nat) {A:List Nat} (hA:A≠[]):Pk K (A++b::t)=Pk K A:=by
 cases A with
 | nil=>exact absurd rfl hA
 | cons a A=>
   show (if K a=0 then [a] else pV K 0 ((a::A)++b::t))=(if K a=0 then [a] else pV K 0 (a::A));rw [Iu hb]
theorem Iw {b c:Nat} (hb:K b=0) (t:List Nat):∀A:List Nat,(A≠[]∨c≠b)->fE K c (A++b::t)=(fE K c A).map (·++b::t)
 | [],h=>by
   have hc:c≠b:=h.resolve_left fun e=>e rfl;show (if K c=0 then (if b=c then some t else none) else if K b=0 then none else _)=none;rw [if_pos hb,if_neg (Ne.symm hc),ite_self]
 | a::A,_=>by
   by_cases hA:A=[]
   ·subst hA;have e0:K c≠0->fE K c ([]++b::t)=none:=fun h=>by
     show (if K c=0 then _ else if K b=0 then none else _)=_;rw [if_neg h,if_pos hb]
    show (if K c=0 then (if a=c then some ([]++b::t) else none) else if K a=0 then none else if K a<K c then (fE K c ([]++b::t)).map (a::·) else if a=c then some ([]++b::t) else none)=(if K c=0 then (if a=c then some [] else none) else if K a=0 then none else if K a<K c then (fE K c []).map (a::·) else if a=c then some [] else none:Option (List Nat)).map (·++b::t);by_cases h0:K c=0
    ·rw [if_pos h0,if_pos h0];split <;> rfl
    ·rw [if_neg h0,if_neg h0,e0 h0];show _=Option.map (·++b::t) (if K a=0 then none else if K a<K c then none else if a=c then some [] else none)
     split
     ·rfl
     ·split
      ·rfl
      ·split <;> rfl
   ·have ih:=Iw (c:=c) hb t A (.inl hA);show (if K c=0 then (if a=c then some (A++b::t) else none) else if K a=0 then none else if K a<K c then (fE K c (A++b::t)).map (a::·) else if a=c then some (A++b::t) else none)=(if K c=0 then (if a=c then some A else none) else if K a=0 then none else if K a<K c then (fE K c A).map (a::·) else if a=c then some A else none:Option (List Nat)).map (·++b::t);rw [ih]
    split
    ·split <;> rfl
    ·split
     ·rfl
     ·split
      ·cases fE K c A <;> rfl
      ·split <;> rfl
theorem Mh {b:Nat} (hb:K b=0) (t:List Nat):∀(F A:List Nat),(∀y∈F,y≠b)->F.foldlM (fun r c=>fE K c r) (A++b::t)=(F.foldlM (fun r c=>fE K c r) A).map (·++b::t)
 | [],_,_=>rfl
 | y::F,A,h=>by
   rw [List.foldlM_cons,List.foldlM_cons];show (fE K y (A++b::t)).bind _=_;rw [Iw hb t A (.inr (h y (by simp)))];cases fE K y A with
   | none=>rfl
   | some A'=>exact Mh hb t F A' fun z hz=>h z (List.mem_cons_of_mem _ hz)
end
variable {T:List aG} {X l:List Nat}
theorem Mi (hV:aY T X) {b:Nat} (hb:ai T b=0) (hi:CQ T b=false) (t:List Nat) (c:Nat) {A:List Nat} (hA:A≠[]):vk T c (A++b::t)=(vk T c A).map (·++b::t):=by
 unfold vk;have hn:=aau hV hi c;cases e:aD T c with
 | nil=>exact absurd e (pF T c)
 | cons y F=>
   rw [e] at hn;rw [List.foldlM_cons,List.foldlM_cons];show (fE (ai T) y (A++b::t)).bind _=_;rw [Iw hb t A (.inl hA)];cases fE (ai T) y A with
   | none=>rfl
   | some A'=>exact Mh hb t F A' fun z hz=>fun e=>hn (by rw [<-e];exact hz)
theorem WV (hV:aY T X) {b:Nat} (hb:ai T b=0) (hi:CQ T b=false) (t:List Nat):∀(n:Nat) (A:List Nat),A.length<=n->oI T (A++b::t)=oI T A*oI T (b::t):=by
 intro n
 induction n with
 | zero=>
   intro A h;rw [List.eq_nil_of_length_eq_zero (Nat.le_zero.1 h),List.nil_append,xh,Nat.one_mul]
 | succ n ih=>
   intro A h;by_cases hA:A=[]
   ·rw [hA,List.nil_append,xh,Nat.one_mul]
   ·rw [CY (by simp),CY hA];have ho:Ir T (A++b::t)=Ir T A:=by
     unfold Ir;rw [aav hb t hA];refine congrArg b_ (congrArg (fun f=>(Pk (ai T) A).flatMap f) (funext fun x=>congrArg (fun f=>(uY T x).filter f) (funext fun c=>?_)));rw [Mi hV hb hi t c hA];cases vk T c A <;> rfl
    rw [ho];have hsum:∀(l:List Nat) (f g:Nat->Nat) (k:Nat),(∀c,f c=g c*k)->(l.map f).sum=(l.map g).sum*k:=fun l f g k hfg=>by
     induction l with
     | nil=>simp
     | cons c l ih=>rw [List.map_cons,List.sum_cons,List.map_cons,List.sum_cons,Nat.add_mul,ih,hfg]
    refine hsum _ _ _ _ fun c=>?_;rw [Mi hV hb hi t c hA];cases hd:vk T c A with
    | none=>simp
    | some r=>exact ih r (by have:=xg hd;omega)
theorem Pm {ap:Nat->Bool} (l:List Nat):∀u∈(bf ap l).tail,∃c t,u=c::t∧ap c=true:=by
 have key:∀(l:List Nat) (o:List (List Nat)),(∀u∈o,u≠[])->(∀u∈o.tail,∃c t,u=c::t∧ap c=true)->∀u∈(l.foldl (fZ ap) o).tail,∃c t,u=c::t∧ap c=true:=by
  intro l
  induction l with
  | nil=>intro o _ h;exact h
  | cons c l ih=>
    intro o hne h;refine ih (fZ ap o c) ?_ ?_
    ·unfold fZ
     split
     ·intro u hu;rcases List.mem_append.1 hu with hu|hu
      ·exact hne u hu
      ·rw [List.mem_singleton.1 hu];simp
     ·intro u hu;rcases List.mem_append.1 hu with hu|hu
      ·exact hne u (List.dropLast_subset _ hu)
      ·rw [List.mem_singleton.1 hu];simp
    ·unfold fZ;by_cases ho:o=[]
     ·subst ho;rw [if_pos (.inl rfl)];intro u hu;simp at hu
     ·obtain ⟨x,q,rfl⟩:∃x q,o=x::q:=by cases o with|nil=>exact absurd rfl ho|cons x q=>exact ⟨x,q,rfl⟩
      by_cases ha:ap c=true
      ·rw [if_pos (.inr ha)];intro u hu;rcases List.mem_append.1 (show u∈q++[[c]] from hu) with hu|hu
       ·exact h u hu
       ·exact ⟨c,[],List.mem_singleton.1 hu,ha⟩
      ·rw [if_neg (by simp [ha])];cases q with
       | nil=>intro u hu;simp at hu
       | cons y q=>
         intro u hu;have hu2:u∈(y::q).dropLast++[((y::q).getLastD [])++[c]]:=by
          have e1:(x::y::q).dropLast=x::(y::q).dropLast:=rfl;have e2:(x::y::q).getLastD []=(y::q).getLastD []:=by simp [List.getLastD_eq_getLast?]
          rw [e1,e2] at hu;exact hu
         rcases List.mem_append.1 hu2 with hu|hu
         ·exact h u (List.dropLast_subset _ hu)
         ·rw [List.mem_singleton.1 hu];have hl:(y::q).getLastD []∈(y::q):=by
           rw [List.getLastD_eq_getLast?,List.getLast?_eq_some_getLast (by simp)];exact List.getLast_mem _
          obtain ⟨c',t',e,ha'⟩:=h _ hl;exact ⟨c',t'++[c],by rw [e];rfl,ha'⟩
 exact key l [] (fun u hu=>by cases hu) (fun u hu=>by cases hu)
theorem Pn (x:Nat) (l:List Nat):dU (x::l)=x*dU l:=by
 have:∀(l:List Nat) (x y:Nat),l.foldl (·*·) (x*y)=x*l.foldl (·*·) y:=fun l=>by
  induction l with
  | nil=>intro x y;rfl
  | cons z l ih=>intro x y;rw [List.foldl_cons,List.foldl_cons,Nat.mul_assoc,ih]
 unfold dU;rw [List.foldl_cons,Nat.one_mul];have:=this l x 1
 rwa [Nat.mul_one] at this
theorem Mj (hV:aY T X):∀us:List (List Nat),(∀u∈us.tail,∃c t,u=c::t∧ai T c=0∧CQ T c=false)->oI T us.flatten=dU (us.map (oI T))
 | [],_=>rfl
 | [u],_=>by simp [dU]
 | u::v::us,h=>by
   obtain ⟨c,t,e,h0,hi⟩:=h v (by simp);have ih:=Mj hV (v::us) fun w hw=>h w (List.mem_cons_of_mem _ hw);have e1:(v::us).flatten=c::(t++us.flatten):=by rw [List.flatten_cons,e];rfl
   rw [List.flatten_cons,e1,WV hV h0 hi _ _ u (Nat.le_refl _),<-e1,ih];show _=dU (oI T u::(v::us).map (oI T));rw [Pn]
theorem Tx (hV:aY T X) (hl:nG T l):oI T l=dU ((bf (kF T) l).map (oI T)):=by
 have h:=Mj hV (bf (kF T) l) (fun u hu=>by
  obtain ⟨c,t,e,ha⟩:=Pm l u hu;have hc:c∈l:=sH (List.mem_of_mem_tail hu) c (by rw [e];simp);have hf:=hl.leaf c hc;unfold kF at ha;rw [hf,Bool.and_eq_true] at ha;obtain ⟨h1,h2⟩:=ha
  exact ⟨c,t,e,by simpa using h1,by simpa using h2⟩)
 rwa [gH] at h
def aaw (T:List aG) (us:List (List Nat)):Nat:=dU (us.map fun u=>(l6 T u).getD 0 0)
theorem WW (hl:nG T l) {u:List Nat} (hu:u∈bf (kF T) l):nG T u:=
 ⟨fun x hx=>hl.leaf x (sH hu x hx),vg (by rw [gH];exact hl.ord) u hu⟩
theorem CZ (hV:aY T X) (hl:nG T l):aaw T (bf (kF T) l)=oI T l:=by
 rw [Tx hV hl];unfold aaw;refine congrArg dU (List.map_congr_left fun u hu=>?_);exact yJ (WW hl hu)
end
variable {T:List aG} {w:World} {B p:Nat} {K:Nat->Nat} {l:List Nat}
def Iy (K:Nat->Nat) (a b:List (List Nat)):eF K (a++b)=eF K a+eF K b:=by unfold eF;rw[List.map_append,List.sum_append]
def Iz (c:T.length<1000) {u:List Nat} (b:u.length<400):(l6 T u).getD 0 0<=Go.Cd.B ^ dO (bq (ai T) u):=by
 have h:=Lx (R:=bq (ai T) u) (opt:=λs=>b_ (pO (ai T) (aD T) (uY T) (bq (ai T) u) s)) (nS:=fw (ai T) (aD T) (bq (ai T) u)) (M:=Go.Cd.B) (by unfold Go.Cd.B;decide)
  (λi a=>Nat.le_trans (Cx c b (uW a) _) (by unfold Go.Cd.B;decide)) _ (Nat.le_refl _)
 rw[List.getD_eq_getElem?_getD];cases e:(l6 T u)[0]? with
 | none=>exact Nat.zero_le _
 | some x=>exact h x (List.mem_of_getElem? e)
def QG (c:T.length<1000) {us:List (List Nat)} (b:∀u∈us,u.length<400):∀k,k<=us.length->dU ((us.map λu=>(l6 T u).getD 0 0).take k)<=Go.Cd.B ^ eF (ai T) (us.take k)
 | 0,_=>by simp[dU,eF]
 | k+1,hk=>by
   have d:=QG c b k (by omega);have a:k<us.length:=by omega
   rw[pM _ k (by simpa using a),CS a,Nat.pow_add];refine Nat.mul_le_mul d ?_;rw[List.getElem_map];exact Iz c (b _ (List.getElem_mem a))
def Ec (K:Nat->Nat) (us:List (List Nat)) (k:Nat):eF K (us.take k)<=eF K us:=by
 conv=>rhs;rw[<-List.take_append_drop k us,Iy]
 omega
def QH (K:Nat->Nat) (u:List Nat):0<dO (bq K u):=by
 have a:=List.length_pos_iff.2 (fD K u).1;have b:=jW (R:=bq K u) (k:=0) a;have:=gG (bq K u) 1;have:=Qv ((bq K u)[0]'a);simp only[Nat.zero_add] at b;omega
def QI (hG:nk w) {dp:Nat} {X:List Nat} (hD:cK w dp T X) (hV:aY T X) (zT:T.length<1000) (L:List Nat) (N:∀c∈L,aP c) (D:(gQ T L).length<400) (M9:Nat) (aC:M9<9223372036854775808) :
 Calls prog 15 #[.pointer (some ⟨dp,0,none⟩),.string (tx (dQ L)),.int .i64 (M9:Nat)] w λe w'=>Below w.heap.size w w'/\
  (eF (ai T) (bf (kF T) (gQ T L))<=min M9 16384->∃r,e=.returned (.tuple #[r,.int .i64 0])/\bT w' r (aaw T (bf (kF T) (gQ T L))))/\(¬eF (ai T) (bf (kF T) (gQ T L))<=min M9 16384->e=.returned (.tuple #[.agg #[.slice none 0 0],.int .i64 9])):=by
 have O:=ah (w:=w) (.cells #[.slice none 0 0] eD);have H:=aa (Ph (hG.mono O) (by simp) (hD.mono O) hV zT L N D M9 aC);have W:=nG.of hV L;have hc:=qZ hV N;obtain⟨l,hl⟩:=ae (gQ T L);rw[<-hl] at H W hc D⊢;have Eb:(bf (kF T) l).length<=l.length:=by simpa [bf] using oH (ap:=kF T) l []
 have J:∀u∈bf (kF T) l,u.length<400:=λu F=>by
  have U:u.length<=(bf (kF T) l).flatten.length:=List.Sublist.length_le (List.sublist_flatten_of_mem F);rw[gH] at U;omega
 have P:=QG zT J;have S:=λ(u:List Nat) (F:u∈bf (kF T) l)=>Iz zT (J u F);have A:=Ec (ai T) (bf (kF T) l);have y:=λ(u:List Nat) (F:u∈bf (kF T) l)=>Gb (K:=ai T) F;obtain⟨us,ze⟩:=ae (bf (kF T) l);simp only[<-ze] at H Eb P S A y⊢;obtain⟨s,hs⟩:=ae (tx (dQ L));rw[<-hs] at H⊢;obtain⟨aK,Ma⟩:=ae (eF (ai T) us);simp only[<-Ma] at H A y⊢;have aN:=aa P;have az:=aa S;have aL:=aa A;have am:=aa y;obtain⟨mb,ao⟩:∃mb:Nat,mb=min M9 16384:=⟨_,rfl⟩;rw[<-ao] at H⊢;have vL:mb<=16384:=by omega
 have V:=Is.new w #[.slice none 0 0] eD;clear ao hG hD W hc hl N J ze hs Ma P S A y;go_enter func15,ntmps15;go_wp2_with fail;refine H.out.mono ?_;rintro e w1⟨an,Po,I⟩;have Q:=af O an;have aw:=Q.size;have V:=V.mono an;by_cases i:aK<=mb
 ·obtain⟨v1,rfl,aA⟩:=Po i;obtain⟨a1,c1,rfl,av⟩:=aA;obtain⟨n,W⟩:=ae us.length;rw[<-W] at Eb⊢;have HN:=aa W;have aF:=aa av;clear Po I H W av;go_wp2_with fail;go_loopw [10,12,26] (λo _ jv wr=>∃j:Nat,j<=n/\jv=.int .i64 j/\(∃d:List Value,wr.ownsRow w1.heap.size eD 1 o j d/\∀k (z:k<j) (ab:k<us.length),∃a n c,d[k]? = some (.slice a n c)/\bT wr (.agg #[.slice a n c]) ((l6 T us[k]).getD 0 0))/\Below w1.heap.size w1 wr) (λ_ _ jv _=>n-(intOf jv).toNat)
  case atStart=>exact⟨0,Nat.zero_le _,rfl,⟨[],World.ownsRow_nil _ _ _ _,λk z=>absurd z (by omega)⟩,Below.refl _ _⟩
  case round=>
   obtain⟨j,hj,rfl,⟨d,f,q⟩,Z⟩:=hrel;have ji:=Q.trans (Z.mono aw);have Je:=ji.size;have aI:=Z.size;by_cases aR:j<n
   ·have zj:=eG (show j<n by omega);have ac:j<us.length:=by have:=HN.out;omega
    obtain⟨b,off,pp,g,mp,PB,_,rfl,c0,hP,_⟩:=aF.out j ac;have c0:=aB Z c0;have aJ:=List.getElem_mem ac;have ay:dO (bq (ai T) us[j])<=16384:=Nat.le_trans (am.out _ aJ) (Nat.le_trans i vL);have AL:=aa (L8 (hP.mono Z) (by rw[w_];exact QH _ _) (by rw[w_];exact ay));have Uy:=aa q;have ag:d.length=j:=by have:=f.1;omega
    obtain⟨x,hx⟩:=ae ((l6 T us[j]).getD 0 0);rw[<-hx] at AL;have HX:=aa hx;clear hP q hx;go_wp2_with fail;refine AL.out.mono ?_;rintro e w7⟨r7,rfl,t,Y⟩;obtain⟨C,E,G,rfl,t⟩:=t.out;have aq:=aH f Y;have uK:=Z.trans (Y.mono aI);have aD:=aa t;clear t
    go_wp2_with (
     at_builtin
     refine qf rfl _ _ 100 rfl w1.heap.size eD (.agg #[.slice none 0 0]) 1 24 abN (by decide) (by decide) (by decide) (by decide) _ j _ rfl aq #[.slice C E G] rfl rfl (by simp[Value.oneCell']) (by omega) w1 uK (Nat.le_refl _) ?_
     intro v8 w8 o8 kL OT aQ)
    go_roundw
    case rel=>
     have ch:=bJ.bQ aq OT;refine⟨j+1,by omega,by simp,⟨d++[.slice C E G],o8,λk z ab=>?_⟩,kL⟩;by_cases R:k<j
     ·obtain⟨a,n',c,U,h2⟩:=Uy.out k R ab;exact⟨a,n',c,by rw[List.getElem?_append_left (by omega)];exact U,bT.iQ (h2.mono Y) ch (by decide)⟩
     obtain rfl:k=j:=by omega
     refine⟨C,E,G,by rw[List.getElem?_append_right (by omega),ag,Nat.sub_self];rfl,?_⟩;rw[<-HX.out];exact bT.iQ aD.out ch (by decide)
    case measure=>simp[intOf];omega
   have zj:=gI (show n<=j by omega);obtain rfl:j=n:=by omega
   have ag:d.length=j:=by have:=f.1;omega
   obtain⟨oa,oc,rfl,_,_⟩:=ak f;have ad:abE wr (.slice oa j oc) (us.map λu=>(l6 T u).getD 0 0):=by
    refine⟨oa,oc,by rw[List.length_map,<-HN.out],λk z=>?_⟩;rw[List.length_map] at z;have R:k<j:=by have:=HN.out;omega
    obtain⟨a,n',c,U,h2⟩:=q k R z;obtain⟨b,cap,he,_,_,aE,_,p⟩:=dz f (show 0<j by omega);injection he with ax _ aO;subst ax;refine⟨b,0,a,n',c,rfl,aE,?_,?_⟩
    ·rw[Nat.zero_add];exact p k _ U
    rw[List.getElem_map];exact h2
   have ar:∀k,k<=(us.map λu=>(l6 T u).getD 0 0).length->(bY Go.Cd.B (dU ((us.map λu=>(l6 T u).getD 0 0).take k))).length<274877906944:=λk z=>by
    rw[List.length_map] at z;have U:=aN.out k z;have h3:=Cw (M:=16384) U (Nat.le_trans (aL.out k) (Nat.le_trans i vL));omega
   have au:∀x∈us.map λu=>(l6 T u).getD 0 0,(bY Go.Cd.B x).length<274877906944:=λx hx=>by
    obtain⟨u,F,rfl⟩:=List.mem_map.1 hx;have h3:=Cw (M:=16384) (az.out u F) (Nat.le_trans (am.out u F) (Nat.le_trans i vL));omega
   have PO:=aa (SK ad (by rw[List.length_map,<-HN.out];omega) ar au);have al:dU (us.map λu=>(l6 T u).getD 0 0)=aaw T us:=rfl;rw[al] at PO;clear ad ar au al q;go_wp2_with fail;refine PO.out.mono ?_;rintro e w7⟨r7,rfl,t,Y⟩;obtain⟨C,E,G,rfl,t⟩:=t.out;have j0:=(V.mono Z).mono Y;have f0:=j0.at 0 rfl;have q0:=j0.frozen 0;have v0:=j0.set 0 (.slice C E G);have g0:=v0.at 0 rfl;have aM:=aa (bT.iQ t (bJ.put (o:=0) j0 (.slice C E G)) (by decide));have m:=aa (aj (off:=0) (u:=.slice C E G) (b:=w.heap.size) (ji.trans (Y.mono Je)) (Nat.le_refl _));clear t j0 v0;go_wp2_with fail;exact bodyPost_ret (v:=.tuple #[.agg #[.slice C E G],.int .i64 0]) (by simp[results,results15,go_sem,g0]) rfl ⟨m.out,λ_=>⟨_,rfl,aM.out⟩,λh=>absurd i h⟩
 obtain rfl:=I i;have f0:=V.at 0 rfl;have q0:=V.frozen 0;have v0:=V.set 0 (.slice none 0 0);have g0:=v0.at 0 rfl;have m:=aa (aj (off:=0) (u:=.slice none 0 0) (b:=w.heap.size) Q (Nat.le_refl _));clear v0 Po I H;go_wp2_with fail;exact bodyPost_ret (v:=.tuple #[.agg #[.slice none 0 0],.int .i64 9]) (by simp[results,results15,go_sem,g0]) rfl ⟨m.out,λh=>absurd h i,λ_=>rfl⟩
def Pp {n:Nat} (h:dP w B p n K l) :
 Calls prog 69 #[.pointer (some ⟨p,0,none⟩),.agg #[.int .i64 (-1),.slice none 0 0]] w λe w'=>e=.returned (.tuple #[.agg #[.int .i32 0,.slice none 0 0,.slice none 0 0,.slice none 0 0,.int .i64 0,.int .i64 0],.bool false])/\Below w.heap.size w w':=by
 obtain⟨d,c⟩:=ae ((w.alloc (.cells #[.int .i64 (-1),.slice none 0 0] 54)).alloc (.cells #[.int .i32 0,.slice none 0 0,.slice none 0 0,.slice none 0 0,.int .i64 0,.int .i64 0] eX));have r:Below w.heap.size w d:=by rw[c];exact dH _ _
 have j:Is d w.heap.size #[.int .i64 (-1),.slice none 0 0] 54:=by rw[c];exact(Is.new _ _ _).mono (ah _)
 have a:Is d (w.heap.size+1) #[.int .i32 0,.slice none 0 0,.slice none 0 0,.slice none 0 0,.int .i64 0,.int .i64 0] eX:=by rw[c];exact Is.new' _ _ _ _ (by simp)
 have m:=j.at 0 rfl;have x:=j.at 1 rfl;have:decide ((-1:Int)<0)=true:=rfl;clear h;go_enter func69,ntmps69;go_wp2_with fail;rw[<-c];clear c;go_quiet (fail);have g:Below d.heap.size d (d.drewN nq):=⟨rfl,rfl,rfl,Nat.le_refl _,λ_ _=>rfl⟩;generalize d.drewN nq=w3 at *;have z:=af r g;have a:=a.mono g;have:=a.at 0 rfl;have:=a.at 1 rfl;have:=a.at 2 rfl;have:=a.at 3 rfl;have:=a.at 4 rfl;have:=a.at 5 rfl;have:=a.frozen 0;have:=a.frozen 1;have:=a.frozen 2;have:=a.frozen 3;have:=a.frozen 4;have:=a.frozen 5;have f:=((((((a.set 0 (.int .i32 0)).set 1 (.slice none 0 0)).set 2 (.slice none 0 0)).set 3 (.slice none 0 0)).set 4 (.int .i64 0)).set 5 (.int .i64 0));have k:=f.at 0 rfl;have o:=f.at 1 rfl;have t:=f.at 2 rfl;have s:=f.at 3 rfl;have q:=f.at 4 rfl;have A:=f.at 5 rfl;have i:=aa (aj (off:=5) (u:=.int .i64 0) (b:=w.heap.size+1) (aj (off:=4) (u:=.int .i64 0) (b:=w.heap.size+1) (aj (off:=3) (u:=.slice none 0 0) (b:=w.heap.size+1) (aj (off:=2) (u:=.slice none 0 0) (b:=w.heap.size+1) (aj (off:=1) (u:=.slice none 0 0) (b:=w.heap.size+1) (aj (off:=0) (u:=.int .i32 0) (b:=w.heap.size+1) z (by omega)) (by omega)) (by omega)) (by omega)) (by omega)) (by omega));clear j a f m x;go_wp2_with fail;exact bodyPost_ret (v:=.tuple #[.agg #[.int .i32 0,.slice none 0 0,.slice none 0 0,.slice none 0 0,.int .i64 0,.int .i64 0],.bool false]) (by simp[results,results69,go_sem,k,o,t,s,q,A]) rfl ⟨rfl,i.out⟩
def IA {f:Nat} (h:dP w B p f K l) :
 Calls prog 52 #[.pointer (some ⟨p,0,none⟩),.agg #[.int .i64 (-1),.slice none 0 0]] w λe w'=>e=.returned (.tuple #[.int .i64 0,.bool false])/\Below w.heap.size w w':=by
 have a:=ah (w:=w) (.cells #[.int .i64 (-1),.slice none 0 0] 54);have d:=aa (Pp (h.mono a));clear h;go_enter func52,ntmps52;go_wp2_with fail;refine d.out.mono ?_;rintro e g⟨rfl,b⟩;have c:=af a b;clear d;go_wp2;go_ret2;exact⟨rfl,af c (ah _)⟩
def Ty {x H I t g:Nat} (h:dP w B x H K l) {A:List Nat} (z:jX w I t g x A) :
 Calls prog 19 #[.pointer (some ⟨t,0,none⟩),.agg #[.int .i64 (-1),.slice none 0 0]] w λe w'=>∃r,e=.returned r/\bT w' r 0/\Below w.heap.size w w':=by
 have a:=dH (w:=w) (.cells #[.int .i64 (-1),.slice none 0 0] 54) (.cells #[.slice none 0 0] eD);have y:=aa (λ(W:World) (E:Below w.heap.size w W)=>IA (h.mono E));obtain⟨M,j⟩:=ae A.length;have f:=z.is;rw[<-j] at f;have q:Is _ w.heap.size #[.int .i64 (-1),.slice none 0 0] 54:=(Is.new w _ _).mono (ah (.cells #[.slice none 0 0] eD));have s:Is _ (w.heap.size+1) #[.slice none 0 0] eD:=Is.new' (w.alloc (.cells #[.int .i64 (-1),.slice none 0 0] 54)) _ _ _ (by simp);clear h z j;go_enter func19,ntmps19;go_wp2_with fail;generalize (w.alloc (.cells #[.int .i64 (-1),.slice none 0 0] 54)).alloc (.cells #[.slice none 0 0] eD)=w0 at *;have k:=a.size;have p:=a.trans ((ag w0).mono k);have i:=aa (y.out w0.drew p);have F:=q.gd 0 rfl;have J:=q.gd 1 rfl;have G:=Gr.cell (ag w0) ((f.mono a).at 0 rfl);refine aC (Array.replicate 11 true) 11 0 mixed ?_;refine ay [0,1,2,3,4] 6 ?_
 iterate 5 (refine aA rfl ?_;go_big_quiet_step (rfl))
 refine az ?_;refine aI 5 ?_;go_wp2_with fail;refine i.out.mono ?_;rintro e P⟨rfl,c⟩;go_wp2_with fail;refine aF c ?_;refine ay [6,7,8,9,10] 0 ?_
 iterate 5 (refine aA rfl ?_;go_big_quiet_step (rfl))
 refine az ?_;refine aJ [] ?_;refine tail_nil ?_;have d:=(ag w0).trans c;have m:=a.trans (d.mono k);have:=m.size;have o:=s.mono d;have:=o.at 0 rfl;have:=o.frozen 0;have C:=o.set 0 (.slice none 0 0);have D:=C.at 0 rfl;have n:=aa (aj (off:=0) (u:=.slice none 0 0) (b:=w.heap.size+1) m (by omega));clear y i F J G o C q s;go_wp2_with fail;exact bodyPost_ret (v:=.agg #[.slice none 0 0]) (by simp[results,results19,go_sem,D]) rfl ⟨_,rfl,⟨_,rfl,by rw[di];exact .nil _ _ _ _ (λ_=>rfl)⟩,n.out⟩
def Mk {s k:Nat} (h:dP w s k p K l) (u:l.length<9000) (b:16384<dO (bq K l)) :
 Calls prog 11 #[.pointer (some ⟨k,0,none⟩)] w λe w'=>e=.returned (.tuple #[.pointer none,.int .i64 9])/\Below w.heap.size w w':=by
 have i:=aa (oG h);have f:(bY Go.Cd.B (dO (bq K l))).length<=20003:=l5 (n:=tQ) (sI u);obtain⟨n,m⟩:=ae (dO (bq K l));rw[<-m] at i f b;clear h m;go_enter func11,ntmps11;go_wp2_with fail;refine i.out.mono ?_;rintro e z⟨y,rfl,a,d⟩;clear i;by_cases g:n<18446744073709551616
 ·have j:=aa (FP a g);obtain⟨v,r,t,rfl,_⟩:=a.out;have:decide (16384<n)=true:=decide_eq_true b;have:decide ((16384:Int)<(n:Int))=true:=decide_eq_true (by omega);clear a;go_wp2_with fail;refine j.out.mono ?_;rintro e q⟨rfl,c⟩;go_wp2;go_ret2;exact⟨rfl,af d c⟩
 have j:=aa (Oq a (by omega) (by omega));obtain⟨v,r,t,rfl,_⟩:=a.out;clear a;go_wp2_with fail;refine j.out.mono ?_;rintro e q⟨rfl,c⟩;go_wp2;go_ret2;exact⟨rfl,af d c⟩
end Go.Proofs.YtmnimbnojdndmaaGreatDoor
namespace Go.Cd
def xtA:List aG:=[⟨192,0,[65,768]⟩,⟨193,0,[65,769]⟩,⟨194,0,[65,770]⟩,⟨195,0,[65,771]⟩,⟨196,0,[65,776]⟩,⟨197,0,[65,778]⟩,⟨199,0,[67,807]⟩,⟨200,0,[69,768]⟩,⟨201,0,[69,769]⟩,⟨202,0,[69,770]⟩,
 ⟨203,0,[69,776]⟩,⟨209,0,[78,771]⟩,⟨214,0,[79,776]⟩,⟨220,0,[85,776]⟩,⟨224,0,[97,768]⟩,⟨225,0,[97,769]⟩,⟨226,0,[97,770]⟩,⟨228,0,[97,776]⟩,⟨229,0,[97,778]⟩,⟨231,0,[99,807]⟩,
 ⟨233,0,[101,769]⟩,⟨234,0,[101,770]⟩,⟨241,0,[110,771]⟩,⟨244,0,[111,770]⟩,⟨246,0,[111,776]⟩,⟨252,0,[117,776]⟩,⟨258,0,[65,774]⟩,⟨259,0,[97,774]⟩,⟨346,0,[83,769]⟩,⟨347,0,[115,769]⟩,
 ⟨350,0,[83,807]⟩,⟨469,0,[220,772]⟩,⟨471,0,[220,769]⟩,⟨478,0,[196,772]⟩,⟨506,0,[197,769]⟩,⟨768,230,[]⟩,⟨769,230,[]⟩,⟨770,230,[]⟩,⟨771,230,[]⟩,⟨772,230,[]⟩,
 ⟨774,230,[]⟩,⟨775,230,[]⟩,⟨776,230,[]⟩,⟨778,230,[]⟩,⟨787,230,[]⟩,⟨795,216,[]⟩,⟨803,220,[]⟩,⟨807,202,[]⟩,⟨808,202,[]⟩,⟨817,220,[]⟩,
 ⟨824,1,[]⟩,⟨832,230,[768]⟩,⟨833,230,[769]⟩,⟨835,230,[787]⟩,⟨836,230,[776,769]⟩,⟨837,240,[]⟩,⟨884,0,[697]⟩,⟨894,0,[59]⟩,⟨901,0,[168,769]⟩,⟨903,0,[183]⟩,
 ⟨940,0,[945,769]⟩,⟨942,0,[951,769]⟩,⟨1460,14,[]⟩,⟨1463,17,[]⟩,⟨2345,0,[2344,2364]⟩,⟨2353,0,[2352,2364]⟩,⟨2356,0,[2355,2364]⟩,⟨2364,7,[]⟩,⟨2381,9,[]⟩,⟨2392,0,[2325,2364]⟩,
 ⟨2393,0,[2326,2364]⟩,⟨2507,0,[2503,2494]⟩,⟨2508,0,[2503,2519]⟩,⟨3953,129,[]⟩,⟨3954,130,[]⟩,⟨3955,0,[3953,3954]⟩,⟨3956,132,[]⟩,⟨3957,0,[3953,3956]⟩,⟨3958,0,[4018,3968]⟩,⟨3968,130,[]⟩,
 ⟨3969,0,[3953,3968]⟩,⟨7688,0,[199,769]⟩,⟨7690,0,[68,775]⟩,⟨7691,0,[100,775]⟩,⟨7692,0,[68,803]⟩,⟨7693,0,[100,803]⟩,⟨7776,0,[83,775]⟩,⟨7777,0,[115,775]⟩,⟨7778,0,[83,803]⟩,⟨7779,0,[115,803]⟩,
 ⟨7780,0,[346,775]⟩,⟨7781,0,[347,775]⟩,⟨7784,0,[7778,775]⟩,⟨7785,0,[7779,775]⟩,⟨7835,0,[383,775]⟩,⟨7840,0,[65,803]⟩,⟨7841,0,[97,803]⟩,⟨7852,0,[7840,770]⟩,⟨7853,0,[7841,770]⟩,⟨7862,0,[7840,774]⟩,
 ⟨7863,0,[7841,774]⟩,⟨8192,0,[8194]⟩,⟨8193,0,[8195]⟩,⟨8486,0,[937]⟩,⟨8490,0,[75]⟩,⟨8491,0,[197]⟩,⟨8800,0,[61,824]⟩,⟨8814,0,[60,824]⟩,⟨10972,0,[10973,824]⟩,⟨12364,0,[12363,12441]⟩,
 ⟨12400,0,[12399,12441]⟩,⟨12401,0,[12399,12442]⟩,⟨12441,8,[]⟩,⟨12442,8,[]⟩]
def xtB:List aG:=[⟨63744,0,[35912]⟩,⟨64285,0,[1497,1460]⟩,⟨64287,0,[1522,1463]⟩,⟨69786,0,[69785,69818]⟩,⟨69818,7,[]⟩,⟨119134,0,[119127,119141]⟩,⟨119141,216,[]⟩]
def fo:List aG:=xtA++xtB
def Gf:List Nat:=[2392,2393,10972,64285,64287,119134]
instance (r:aG):Decidable (rowFine r):=inferInstanceAs (Decidable (_/\_/\_/\_/\_))
def yK:∀{T:List aG},(T.map (·.code)).Pairwise (· < ·)->rising T
 | [],_=>trivial
 | r::T,h=>by
   rw[List.map_cons,List.pairwise_cons] at h;exact⟨λq a=>h.1 _ (List.mem_map_of_mem a),yK h.2⟩
def QJ:∀r∈fo,rowFine r:=by decide +kernel
def aax:rising fo:=yK (by decide +kernel)
def aay:∀r∈fo,fQ fo r.code:=by
 have:(fo.all λr=>(aD fo r.code).all (λx=>(mapOf fo x).isEmpty)&&decide ((aD fo r.code).length<=32))=true:=by decide +kernel
 intro r b;have h:=List.all_eq_true.1 this r b;rw[Bool.and_eq_true,List.all_eq_true] at h;exact⟨λx a=>List.isEmpty_iff.1 (h.1 x a),of_decide_eq_true h.2⟩
def aaz:∀r∈fo,∀q∈fo,r.map.length=2->r.map=q.map->r=q:=by
 have:(fo.all λr=>r.map.length !=2||fo.all λq=>!(r.map==q.map)||decide (r=q))=true:=by decide +kernel
 intro r e q d c b;have h:=List.all_eq_true.1 this r e;rw[c] at h;have a:=List.all_eq_true.1 (show(fo.all λq=>!(r.map==q.map)||decide (r=q))=true from h) q d;rw[b] at a;simpa using a
def xk:aY fo Gf:=⟨QJ,aax,aay,λr d q a c b _ _=>aaz r d q a c b⟩
def aaA:∀r∈fo,r.cls≠0\/r.map≠[]:=by decide +kernel
end Go.Cd
namespace Go.Proofs.YtmnimbnojdndmaaGreatDoor
open Go.RowKit Go.Cd
def ads (T:List aG) (l:List Nat):List Nat:=(Pk (ai T) l).flatMap λx=>(bgU T x).filter λc=>(vk T c l).isSome
def adt (T:List aG):Nat->List Nat->Nat
 | 0,_=>0
 | f+1,l=>if l=[] then 1 else ((ads T l).map λc=>match vk T c l with|some r=>adt T f r|none=>0).sum
def Gg {f g:Nat->List Nat} (h:∀x,(f x).Perm (g x)):∀l:List Nat,(l.flatMap f).Perm (l.flatMap g)
 | []=>.nil
 | x::l=>by
   rw[List.flatMap_cons,List.flatMap_cons];exact(h x).append (Gg h l)
def WX (T:List aG) (l:List Nat):(Ir T l).Perm (ads T l):=by
 unfold Ir ads;refine(oP _).trans (Gg (λx=>?_) _);unfold uY;exact(oP _).filter _
def WY {l m:List Nat} (h:l.Perm m):l.sum=m.sum:=by
 induction h with
 | nil=>rfl
 | cons x _ ih=>rw[List.sum_cons,List.sum_cons,ih]
 | swap x y l=>rw[List.sum_cons,List.sum_cons,List.sum_cons,List.sum_cons];omega
 | trans _ _ h1 h2=>exact h1.trans h2
def WZ (T:List aG):∀(f:Nat) (l:List Nat),cntF T f l=adt T f l
 | 0,_=>rfl
 | f+1,l=>by
   unfold cntF adt
   split
   ·rfl
   rw[WY ((WX T l).map _)];refine congrArg List.sum (List.map_congr_left λc _=>?_);cases vk T c l with
   | none=>rfl
   | some r=>exact WZ T f r
def Ml:gQ fo [0x212b]=[0x41,0x30a]/\oI fo [0x41,0x30a]=3:=⟨by decide +kernel,(WZ _ _ _).trans (by decide +kernel)⟩
def Mm:gQ fo [0x1e69]=[0x73,0x323,0x307]/\oI fo [0x73,0x323,0x307]=5:=⟨by decide +kernel,(WZ _ _ _).trans (by decide +kernel)⟩
end Go.Proofs.YtmnimbnojdndmaaGreatDoor
namespace Go.Cd
def IB (d:Nat):UInt8:=if d<10 then UInt8.ofNat (48+d) else UInt8.ofNat (87+d)
def sZ (k n:Nat):List UInt8:=(g_ k n).map IB
theorem C_ (k n:Nat):(sZ k n).length=k:=by simp [sZ,xW]
theorem vo:∀(k n:Nat),g_ (k+1) n=(n / 16 ^ k % 16)::g_ k n
 | 0,n=>by simp [g_]
 | k+1,n=>by
   rw [g_,vo k (n / 16)]
   conv=>rhs;rw [g_]
   rw [Nat.div_div_eq_div_mul,←Nat.pow_succ'];rfl
theorem Gh (k n:Nat):sZ (k+1) n=IB (n / 16 ^ k % 16)::sZ k n:=by unfold sZ;rw [vo];rfl
theorem QK:∀d,d<16→Lib.upperB (IB d)=lJ d∧(IB d).toNat<128:=by decide
theorem aaB (k n:Nat):Lib.toUpperA (sZ k n)=jw k n:=by
 unfold Lib.toUpperA sZ;rw [lK,List.map_map];exact List.map_congr_left fun d hd=>(QK d (nZ k n d hd)).1
theorem Pq (k n:Nat) (j:Nat) (b:UInt8) (h:(sZ k n)[j]? = some b):b.toNat<128:=by
 obtain ⟨d,hd,rfl⟩:=List.mem_map.1 (List.mem_of_getElem? h);exact (QK d (nZ k n d hd)).2
theorem Mo (k n:Nat) (h:n<16 ^ k):∀j,jw (k+j) n=Lib.repeatL [48] j++jw k n
 | 0=>rfl
 | j+1=>by
   have hl:n<16 ^ (k+j):=Nat.lt_of_lt_of_le h (Nat.pow_le_pow_right (by decide) (by omega));have e:jw (k+j+1) n=48::jw (k+j) n:=by
    rw [lK,vo,Nat.div_eq_of_lt hl,List.map_cons,←lK];rfl
   rw [show k+(j+1)=k+j+1 from rfl,e,Mo k n h j];rfl
def aaC (k n:Nat):Prop:=n<16 ^ (k+1)∧(k=0∨16 ^ k≤n)
theorem W9 {k n:Nat} (h:aaC k n) (hn:n<1114112):aV n=Lib.repeatL [48] (4-(k+1))++jw (k+1) n∧k+1≤6:=by
 obtain ⟨h1,h2⟩:=h;have hp:∀j,16 ^ j≤n→j≤5:=fun j hj=>by
  rcases Nat.lt_or_ge j 6 with h|h
  ·omega
  ·have:(16:Nat) ^ 6≤16 ^ j:=Nat.pow_le_pow_right (by decide) h;omega
 have hk5:k≤5:=by rcases h2 with h2|h2
                  ·omega
                  ·exact hp k h2
 refine ⟨?_,by omega⟩;unfold aV j6;have c4:(16:Nat) ^ 4=65536:=rfl;have c5:(16:Nat) ^ 5=1048576:=rfl;by_cases a:n<65536
 ·rw [if_pos a];have hk:k+1≤4:=by
   rcases h2 with h2|h2
   ·omega
   ·rcases Nat.lt_or_ge k 4 with h|h
    ·omega
    ·have:(16:Nat) ^ 4≤16 ^ k:=Nat.pow_le_pow_right (by decide) h;omega
  have:=Mo (k+1) n h1 (4-(k+1));rw [show k+1+(4-(k+1))=4 by omega] at this;exact this
 ·have hk:4≤k:=by
   rcases Nat.lt_or_ge k 4 with h|h
   ·have:(16:Nat) ^ (k+1)≤16 ^ 4:=Nat.pow_le_pow_right (by decide) (by omega);omega
   ·exact h
  rw [show 4-(k+1)=0 by omega];show _=jw (k+1) n;rw [if_neg a];by_cases b:n<1048576
  ·rw [if_pos b];have:k=4:=by
    rcases Nat.lt_or_ge k 5 with h|h
    ·omega
    ·have h2:16 ^ k≤n:=by omega
     have:(16:Nat) ^ 5≤16 ^ k:=Nat.pow_le_pow_right (by decide) h;omega
   rw [this]
  ·rw [if_neg b];have:k=5:=by
    rcases Nat.lt_or_ge k 5 with h|h
    ·have:(16:Nat) ^ (k+1)≤16 ^ 5:=Nat.pow_le_pow_right (by decide) (by omega);omega
    ·omega
   rw [this]
end Go.Cd
