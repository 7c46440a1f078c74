/- State by state it is added up what is possible; no condition. -/
import Derived.Test.YtmnimbnojdndmaaGreatDoorS23
set_option maxRecDepth 100000
set_option maxHeartbeats 6400000
set_option linter.all false
namespace Go.Proofs.YtmnimbnojdndmaaGreatDoor
open Go.RowKit Go.Cd _root_.Go.Proofs.Tryz
abbrev eSl:TypeId:=35
def ado:Elem prog 122 eSl (.slice none 0 0) 24:=⟨rfl,underlying122,info_parts (by kernel_rfl)⟩
structure xe (w:World) (B:Nat) (Z:ig) (ov:Value) (us:List (List Nat)) (vals:List Value):Prop where
 len:vals.length=us.length
 row:w.ownsRow B eSl 1 ov us.length vals
 z:Ut w Z
 zb:∀k,Z k≠none->B<=k
 own:∀k (hk:k<us.length),∃v,vals[k]? = some v/\si w B Z k v us[k]
def xe.ext {w w':World} {B:Nat} {Z:ig} {d:Value} {us:List (List Nat)} {a:List Value} (h:xe w B Z d us a) (c:Below w.heap.size w w'):xe w' B Z d us a:=
 have f:∀k,Z k≠none->w'.heap[k]? = w.heap[k]?:=λk b=>c.block k (h.z k b).1
 ⟨h.len,aH h.row c,h.z.mono c.size f,h.zb,λk b=>by obtain⟨v,e,o⟩:=h.own k b;exact⟨v,e,o.mono f⟩⟩
def xe.nil (w:World) (B:Nat):xe w B (λ_=>none) (.slice none 0 0) [] []:=⟨rfl,iS _ _ _ _,λ_ h=>absurd rfl h,λ_ h=>absurd rfl h,λ_ h=>absurd h (by simp)⟩
def xe.push {w w':World} {B:Nat} {Z:ig} {f b:Value} {us:List (List Nat)} {a:List Value} (h:xe w B Z f us a) (l:w'.ownsRow B eSl 1 b (us.length+1) (a++[.slice none 0 0])) (i:w.grownBy w' f.ownBlock) :
 xe w' B Z b (us++[[]]) (a++[.slice none 0 0]):=by
 have c:=bJ.bQ h.row i;have g:=c.z h.z (by decide);refine⟨by simp[h.len],by simpa using l,h.z.mono c.size g,h.zb,λk m=>?_⟩;by_cases e:k<us.length
 ·obtain⟨v,j,o⟩:=h.own k e;refine⟨v,?_,?_⟩
  ·rw[kB (by rw[h.len];exact e)];exact j
  rw[rB e];exact o.mono g
 have d:k=us.length:=by simp at m;omega
 subst d;refine⟨.slice none 0 0,?_,?_⟩
 ·rw[<-h.len,j' (d' _),ns];rfl
 rw[vq (d' _)];simp only[ns,ti];exact si.nil _ _ _ _
def xe.add {w w':World} {B:Nat} {Z i:ig} {g n cap:Nat} {us:List (List Nat)} {a:List Value} (h:xe w B Z (.slice (some ⟨g,0,none⟩) n cap) us a) {k:Nat} (E:k<us.length) (d:vK w Z k w' i) {v:Value} {u:List Nat} (C:si w' B i k v u) (D:B<=w.heap.size) :
 xe (w'.setCell ⟨g,k,none⟩ v) B i (.slice (some ⟨g,0,none⟩) n cap) (us.set k u) (a.set k v):=by
 have r:us.length=n:=by
  obtain⟨_,_,e,_⟩:=dz h.row (by omega);injection e with _ e _;exact e.symm
 have c:=d.iQ h.z;have m:=c.own h.row (by decide);have t:=bV m (k:=g) rfl;obtain⟨y,q⟩:=t;have s:=bJ.put (o:=k) (⟨q⟩:Is w' g y eSl) v;have p:=s.z d.z (by decide);rw[r] at m;refine⟨by simp[h.len],by rw[m7,r];exact(m.stored k v).1,d.z.mono s.size p,λj f=>?_,λj f=>?_⟩
 ·by_cases l:j<w.heap.size
  ·by_cases e:Z j=some k
   ·exact h.zb j (by rw[e];simp)
   rw[d.sub j l e] at f;exact h.zb j f
  omega
 have b:j<us.length:=by simpa using f
 by_cases e:j=k
 ·subst e;refine⟨v,by rw[tj (by rw[h.len];exact b)],?_⟩;rw[List.getElem_set_self];exact C.mono p
 obtain⟨x,A,o⟩:=h.own j b;refine⟨x,by rw[su (pr e)];exact A,?_⟩;rw[x7 (pr e)];exact(d.other e o).mono p
def CR {ap:Nat->Bool} {l:List Nat} {j:Nat} (a:j<l.length):bf ap (l.take (j+1))=fZ ap (bf ap (l.take j)) l[j]:=by
 unfold bf;rw[gR a,rk];rfl
def Tt {ap:Nat->Bool} {l:List Nat} {j:Nat} (a:j<=l.length):bf ap (l.take j)=[]↔j=0:=by
 cases j with
 | zero=>simp[bf]
 | succ j=>
   rw[CR (by omega)];simp[Tn]
def oH {ap:Nat->Bool}:∀(l:List Nat) (o:List (List Nat)),(l.foldl (fZ ap) o).length<=o.length+l.length
 | [],_=>d' _
 | c::l,o=>by
   have:=oH (ap:=ap) l (fZ ap o c);have:(fZ ap o c).length<=o.length+1:=by unfold fZ;split <;> simp <;> omega
   rw[ot,im];omega
def L6 {w:World} {p:Nat} {T:List aG} {X:List Nat} (h:cK w p T X) (hV:aY T X) (hl:T.length<1000) {v:Value} (l:List Nat) (hv:bG w v (aM l)) (hc:∀c∈l,aP c) (aK:l.length<3000) :
 Calls prog 58 #[.pointer (some ⟨p,0,none⟩),v] w λe w'=>∃r d,e=.returned r/\w'.ownsRow w.heap.size eSl 1 r (bf (kF T) l).length d/\d.length=(bf (kF T) l).length/\(∀k (hk:k<(bf (kF T) l).length),∃u,d[k]? = some u/\w'.ownsRow w.heap.size aN 1 u ((bf (kF T) l)[k]).length (aM (bf (kF T) l)[k]))/\Below w.heap.size w w':=by
 obtain⟨n,hn⟩:=ae l.length;obtain⟨a,cap,rfl,aT,hx⟩:=bG.Hl hv hn;have HX:=aa hx;have HC:=aa hc;have HN:=aa hn;have AP:=aa (λ(W:World) (E:Below w.heap.size w W) c (hc:aP c)=>LZ (h.mono E) hV hl c hc);obtain⟨ap,am⟩:=ae (kF T);rw[<-am] at AP⊢;rw[<-hn] at aK;clear h hV hl hv hc hx hn am;go_enter func58,ntmps58;go_wp2_with fail;go_loopw [5,8,11] (λov _ iv wr=>∃j:Nat,j<=n/\iv=.int .i64 j/\(∃Z d,xe wr w.heap.size Z ov (bf ap (l.take j)) d)/\Below w.heap.size w wr) (λ_ _ iv _=>n-(intOf iv).toNat)
 case atStart=>exact⟨0,ic _,rfl,⟨_,_,xe.nil _ _⟩,gS _ _⟩
 case round=>
  obtain⟨j,hj,rfl,⟨Z,d,hU⟩,Y⟩:=hrel;by_cases a1:j<n
  ·have zj:=eG (show j<n by omega);have J:j<l.length:=by have:=HN.out;omega
   obtain⟨b,off,rfl,aW,aw⟩:=HX.out j J;have c0:=aB Y aw;clear aw;have P:=HC.out _ (gw J);obtain⟨us,ze⟩:=ae (bf ap (l.take j));have M:=Tt (ap:=ap) (l:=l) (j:=j) (by omega);have H:=CR (ap:=ap) J;have aV:us.length<=j:=by
    rw[ze];refine ia (oH _ _) ?_;rw[jn];simp;omega
   have Eb:∀y∈us,y.length<=j:=λy L=>by
    have h1:=gH (ap:=ap) (l.take j);rw[<-ze] at h1;have h2:=congrArg List.length h1;rw[jn] at h2;have h3:=qs (pj L);omega
   have ad:=aa Eb;rw[<-ze] at hU M H;obtain⟨x,Aq⟩:=ae (l[j]);rw[<-Aq] at c0 P H;have HU:=aa hU;have aO:=aa H;have ax:=aa M;have CK:=aa (AP.out wr Y x P);obtain⟨bx,N⟩:=ae (ap x);rw[<-N] at CK;have az:=aa N;have aD:=Y.size;clear hU H M ze Aq N P Eb;go_upto_region 5 with fail;go_cut [22] from 16 to 21 (λtv wx=>∃tb:Bool,tv=.bool tb/\(tb=true↔us=[]\/ap x=true)/\Below wr.heap.size wr wx)
   case first=>
    by_cases ar:j=0
    ·subst ar;have H0:=aa (ax.out.2 rfl);go_wp2_with fail;go_meet;exact⟨true,rfl,by simp[H0.out],gS _ _⟩
    have z0:((j:Int)==0)=false:=by simp;omega
    go_wp2_with fail;refine CK.out.mono ?_;rintro e w6⟨rfl,aI⟩;go_wp2_with fail;go_meet;exact⟨bx,rfl,by rw[az.out];exact⟨λh=>.inr h,λh=>h.resolve_left λe=>ar (ax.out.1 e)⟩,aI⟩
   case rest=>
    clear c0;obtain⟨tb,rfl,al,Q⟩:=hcut;have U:=aa al;have B:=aa (HU.out.ext Q);have Ql:=Y.trans (Q.mono aD);have aA:=Ql.size;clear al Q Y;go_upto_if 22 with fail;go_cut [5] from 23 to 25 (λov wx=>(∃Z d s,xe wx w.heap.size Z ov s d/\s≠[]/\s.length<=j+1/\(∀y∈s,y.length<=j)/\fZ ap us x=s.set (s.length-1) (s.getLastD []++[x]))/\Below w.heap.size w wx)
    case first=>
     cases tb with
     | true=>
       have K:=B.out.row;have a5:=B.out.len;have vH:=aa (U.out.1 rfl);have jh:=ah (w:=wc) (.cells #[.slice none 0 0] eSl);go_wp2_with (refine f_ (W:=wc) rfl _ _ 122 rfl w.heap.size eSl (.slice none 0 0) 24 ado u5 us.length d rfl K (.slice none 0 0) rfl rfl (by omega) (by unfold maxLen;omega) w Ql (d' _) ?_;intro v7 w7 o7 b7 _ g7);have aC:=aa ((B.out.ext jh).push o7 g7);clear o7 g7 K;go_wp2_with fail;go_meet
       refine⟨⟨Z,_,us++[[]],aC.out,by simp,by simp;omega,λy L=>(by
        rcases ie.1 L with L|L
        ·exact ad.out y L
        rw[gE.1 L];exact ic _),?_⟩,b7⟩
       unfold fZ;rw[if_pos vH.out];simp
     | false=>
       have vH:=aa (show ¬(us=[]\/ap x=true) from λh=>by have:=U.out.2 h;cases this);go_wp2_with fail;go_meet;refine⟨⟨Z,d,us,B.out,λe=>vH.out (.inl e),by omega,ad.out,?_⟩,Ql⟩;unfold fZ;rw[if_neg vH.out];have af:us≠[]:=λe=>vH.out (.inl e);obtain⟨q,y,rfl⟩:∃q y,us=q++[y]:=⟨us.dropLast,us.getLast af,(p6 af).symm⟩;simp[re]
    case rest=>
     clear HU B Ql aA U;obtain⟨⟨Z1,a6,s,F,I,aX,ac,au⟩,ab⟩:=hcut;obtain⟨m,hm⟩:∃m,s.length=m+1:=⟨s.length-1,by have:=ke.2 I;omega⟩;have G:=F.row;rw[hm] at G;obtain⟨g,a0,A,aR,_,_,_,f⟩:=dz G (Nat.succ_pos m);subst A;obtain⟨lv,D,A⟩:=F.own m (by omega);obtain⟨la,lc,aJ,_,_⟩:=ak A.1;subst aJ;have c1:=f m _ D;have f1:=G.frozenAt m;obtain⟨u,hu⟩:=ae (s[m]);rw[<-hu] at A D c1;have ai:s.getLastD []=u:=by
      rw[hu,re,sS,show s.length-1=m by omega,gx (show m<s.length by omega)];rfl
     have aH:=aa D;have ao:=aa F;have HM:=aa hm;have ay:=aa (show bf ap (l.take (j+1))=s.set m (u++[x]) from by rw[aO.out,au,ai,hm,ta]);have aZ:u.length<=j:=by rw[hu];exact ac _ (gw _)
     have e1:IntKind.i64.wrap (((m+1:Nat):Int)-1)=(m:Int):=by rw[kf _ (by omega)];omega
     have aL:=ab.size;obtain⟨S,aS⟩:=ae wc;subst aS;have kT:=ah (w:=S) (.cells #[.int .i32 (x:Nat)] aN);have t:=ao.out.ext kT;have R:=A.mono (λk hk=>kT.block k (ao.out.z k hk).1);have yf:Below w.heap.size w (S.alloc (.cells #[.int .i32 (x:Nat)] aN)):=ab.trans (kT.mono aL);clear F G f D hu ai au I ac A;have av:∀(i:Nat) (u:Value),([.int .i32 (x:Nat)]:List Value)[i]? = some u->(S.alloc (.cells #[.int .i32 (x:Nat)] aN)).cell? ((⟨S.heap.size,0,none⟩:Addr).add i)=some u:=λi u hi=>by
      rcases i with _|i
      ·cases hi;exact(Is.new S _ aN).at 0 rfl
      cases hi
     have aQ:=aa av;clear av
     go_wp2_with (
      refine ng (W:=S.alloc (.cells #[.int .i32 (x:Nat)] aN)) rfl _ _ 35 rfl w.heap.size aN (.int .i32 0) 4 bW (by decide) (v:=.slice la u.length lc) rfl R.1 (by rw[nh];omega) [.int .i32 (x:Nat)] (λu hu=>by rw[gE.1 hu];rfl) ⟨S.heap.size,0,none⟩ 1 1 rfl rfl aQ.out (by omega) ?_;intro a2 zL V Wj ag;obtain⟨va,vc,rfl,_,_⟩:=ak V;obtain⟨Z5,C,an⟩:=vK.ja (l':=u++[x]) t.z R (by rw[a_,gn];exact V) Wj ag;have Ko:Below w.heap.size w zL:=yf.trans (C.below t.zb (by simp;omega));have aq:=t.add (k:=m) (by have:=HM.out;omega) C an (by simp;omega);have O:=(C.iQ t.z).own t.row (by decide);have aE:w.heap.size<=g:=(O.lt g rfl).1;have K:=O;rw[HM.out] at K;obtain⟨g',aU,e,_,_,_,_,f⟩:=dz K (Nat.succ_pos m);injection e with e1 _ e3;subst e3;injection e1 with e1;injection e1 with e1;subst e1;have a3:=f m _ aH.out;have a4:=K.frozenAt m;have aF:=aa aq
      clear V Wj ag C an aq t R O K f)
     go_roundw
     case rel=>exact⟨j+1,by omega,by simp,⟨_,_,by rw[ay.out];exact aF.out⟩,aj Ko aE⟩
     case measure=>simp[intOf];omega
  have zj:=gI (show n<=j by omega);obtain rfl:j=n:=by omega
  have ht:l.take j=l:=iu (by rw[HN.out];exact d' _);rw[ht] at hU;have HU:=aa hU;clear hU ht;go_wp2_with fail;go_ret;exact⟨_,d,rfl,HU.out.row,HU.out.len,λk hk=>by obtain⟨u,e,o⟩:=HU.out.own k hk;exact⟨u,e,o.1⟩,Y⟩
def L8 {w:World} {s p g y:Nat} {a:List Nat} (n:jX w s p g y a) (h0:0<a.length) (u:a.length<=16384) :
 Calls prog 18 #[.pointer (some ⟨p,0,none⟩)] w λe w'=>∃r,e=.returned r/\bT w' r (a.getD 0 0)/\Below w.heap.size w w':=by
 obtain⟨j,k,l,i,b⟩:=n.at_ h0;rw[show a.getD 0 0=a[0] by rw[ir,gx h0];rfl];obtain⟨x,o⟩:=ae (a[0]);rw[<-o] at b⊢;obtain⟨D,h⟩:=ae a.length;have c:=n.is;rw[<-h] at c h0 u;have d:=ah (w:=w) (.cells #[.slice none 0 0] eD);have m:=Is.new w #[.slice none 0 0] eD;have:=(c.mono d).at 1 rfl;have:=aB d i;have:=m.at 0 rfl;have:=m.frozen 0;have t:=(Is.new w #[.slice j k l] eD).at 0 rfl;have q:=aa (b.mono (ah (w:=w) (.cells #[.slice j k l] eD)));have f:=aa (ah (w:=w) (.cells #[.slice j k l] eD));clear n o h b i m c;go_enter func18,ntmps18;go_wp2_with fail;exact bodyPost_ret (v:=.agg #[.slice j k l]) (by simp[results,results18,go_sem,t]) rfl ⟨_,rfl,q.out,f.out⟩
def WO (w:World) (v:Value) (dp:Nat) (K:Nat->Nat) (us:List (List Nat)):Prop:=
 ∃a c,v=.slice a us.length c/\∀k (f:k<us.length),∃b off d e,a=some ⟨b,off,none⟩/\w.cell? ⟨b,off+k,none⟩=some (.pointer (some ⟨d,0,none⟩))/\dP w e d dp K us[k]
def WO.mono {w w':World} {v:Value} {e:Nat} {K:Nat->Nat} {us:List (List Nat)} (h:WO w v e K us) (d:Below w.heap.size w w'):WO w' v e K us:=by
 obtain⟨a,c,l,f⟩:=h;refine⟨a,c,l,λk m=>?_⟩;obtain⟨b,off,i,o,n,g,j⟩:=f k m;exact⟨b,off,i,o,n,aB d g,j.mono d⟩
def tQ:Nat:=20002
def sI {K:Nat->Nat} {l:List Nat} (d:l.length<9000):dO (bq K l)<=Go.Cd.B ^ tQ:=by
 obtain⟨Rs,a⟩:∃Rs:List cB,Rs.map cB.sp=bq K l:=⟨(bq K l).map λr=>(r.1,.slice none 0 0,r.2.map λx=>(x.1,.slice none 0 0,x.2)),by
  rw[m5]
  conv=>rhs;rw[<-te (bq K l)]
  refine mL λr _=>?_
  simp[cB.sp,d_.sp,Function.comp_def]⟩
 have c:=Cj.of (Rs:=Rs) (a▸fD K l) d;have b:_<=tQ:=Ib c (j:=Rs.length) (d' _);rw[lB,Ih,a,cZ bE] at b;exact oT b
def eF (K:Nat->Nat) (us:List (List Nat)):Nat:=(us.map λu=>dO (bq K u)).sum
def CS {K:Nat->Nat} {us:List (List Nat)} {j:Nat} (a:j<us.length):eF K (us.take (j+1))=eF K (us.take j)+dO (bq K us[j]):=by
 unfold eF;rw[gR a,j5,sg];simp
def L9 {K:Nat->Nat} {us:List (List Nat)} (h:∀u∈us,u.length<9000) (b:us.length<=1000000) (j:Nat):(bY Go.Cd.B (eF K (us.take j))).length<=20003:=by
 refine sF (n:=tQ) (ia (Ij _ (Go.Cd.B ^ tQ) (us.take j) λu a=>sI (h u (rj a))) (m9 _ ?_));rw[jn];omega
def Tu {w:World} {v:Value} {dp:Nat} {K:Nat->Nat} {us:List (List Nat)} (h:WO w v dp K us) (q:∀u∈us,u.length<9000) (hl:us.length<=10000) :
 Calls prog 55 #[v] w λe w'=>∃r,e=.returned r/\bT w' r (eF K us)/\Below w.heap.size w w':=by
 obtain⟨a,c,rfl,X⟩:=h;obtain⟨n,R⟩:=ae us.length;rw[<-R] at hl⊢;have Y:=aa R;have HK:=aa X;have HB:=aa (λj=>L9 (K:=K) q (by omega) j);have HU:=aa (λu h=>(show(bY Go.Cd.B (dO (bq K u))).length<=20003 from l5 (n:=tQ) (sI (q u h))));obtain⟨F,d⟩:=ae ((w.alloc (.cells #[.slice none 0 0] eD)).alloc (.cells #[.slice none 0 0] eD));have y:Below w.heap.size w F:=by rw[d];exact dH _ _
 have k0:Is F w.heap.size #[.slice none 0 0] eD:=by rw[d];exact(Is.new _ _ _).mono (ah _)
 have k1:Is F (w.heap.size+1) #[.slice none 0 0] eD:=by rw[d];exact Is.new' _ _ _ _ (by simp)
 have T:bT F (.agg #[.slice none 0 0]) 0:=⟨_,rfl,by rw[di];exact .nil _ _ _ _ (λ_=>rfl)⟩;clear R X q;go_enter func55,ntmps55;go_wp2_with fail;rw[<-d];clear d;have:=y.size;go_loopw [5,8] (λ_ P wr=>∃j:Nat,j<=n/\P=.int .i64 j/\(∃l p g,Is wr (w.heap.size+1) #[.slice l p g] eD/\bT wr (.agg #[.slice l p g]) (eF K (us.take j)))/\Is wr w.heap.size #[.slice none 0 0] eD/\Below w.heap.size w wr) (λ_ P _=>n-(intOf P).toNat)
 case atStart=>exact⟨0,ic _,rfl,⟨_,_,_,k1,T⟩,k0,y⟩
 case round=>
  obtain⟨j,hj,rfl,⟨l,p,g,D,s⟩,i,t⟩:=hrel;have Je:=t.size;by_cases ad:j<n
  ·have zj:=eG (show j<n by omega);have m:j<us.length:=by have:=Y.out;omega
   obtain⟨b,off,mp,MB,rfl,Z,C⟩:=HK.out j m;have Z:=aB t Z;have C:=C.mono t;have f:=CS (K:=K) m;have V:=HB.out j;have Q:=HU.out _ (gw m);obtain⟨u,q⟩:=ae (us[j]);rw[<-q] at C f Q;obtain⟨S,W⟩:=ae (eF K (us.take j));rw[<-W] at s f V;have SZ:=aa (oG (C.mono (ag wr)));have J:=aa f;have e0:=D.gd 0 rfl;clear C f q W;go_wp2_with fail;refine aC #[true,true,true,true,false] 4 1 mixed ?_;refine ay [0,1] 2 ?_
   iterate 2 (refine aA rfl ?_;go_big_quiet_step (rfl))
   refine az ?_;refine aI 2 ?_;go_wp2_with fail;refine SZ.out.mono ?_;rintro e w7⟨r7,rfl,OZ,O⟩;have A:=(ag wr).trans O;go_wp2_with fail;refine aF O ?_;refine aI 3 ?_;go_wp2_with fail;refine(Oo (s.mono A) OZ (by omega) (by omega)).mono ?_;rintro e w8⟨r8,rfl,H,M⟩;obtain⟨E,G,I,rfl,H⟩:=H.out;have k:=af A M;go_wp2_with fail;refine aF M ?_;have x:=D.mono k;have f0:=x.at 0 rfl;have q0:=x.frozen 0;have N:=aa (x.set 0 (.slice E G I));have U:=aa (bT.iQ H (bJ.put (o:=0) x (.slice E G I)) (by decide));have L:=aa ((i.mono k).put (show w.heap.size≠w.heap.size+1 by omega) (o:=0) (.slice E G I));have yf:=aa (aj (off:=0) (u:=.slice E G I) (b:=w.heap.size+1) (t.trans (k.mono Je)) (by omega));clear x H OZ s D i e0 O M;refine aJ [4] ?_;refine tail_cons rfl ?_;go_wp2_with fail;refine tail_nil ?_;go_wp2_with fail;go_roundw
   case rel=>exact⟨j+1,by omega,by simp,⟨_,_,_,N.out,by rw[J.out];exact U.out⟩,L.out,yf.out⟩
   case measure=>simp[intOf];omega
  have zj:=gI (show n<=j by omega);obtain rfl:j=n:=by omega
  have ht:us.take j=us:=iu (by rw[<-Y.out];exact d' _);rw[ht] at s;have:=D.at 0 rfl;have f0:=i.at 0 rfl;have q0:=i.frozen 0;have v0:=i.set 0 (.slice l p g);have g0:=v0.at 0 rfl;have hN:=aa (bT.iQ s (bJ.put (o:=0) i (.slice l p g)) (by decide));have z:=aa (aj (off:=0) (u:=.slice l p g) (b:=w.heap.size) t (d' _));clear i v0 s ht;go_wp2_with fail;exact bodyPost_ret (v:=.agg #[.slice l p g]) (by simp[results,results55,go_sem,g0]) rfl ⟨_,rfl,hN.out,z.out⟩
abbrev aao:TypeId:=33
def aap:Elem prog 61 aao (.pointer none) 8:=⟨rfl,underlying61,info_parts (by kernel_rfl)⟩
def dP.iQ {w w':World} {t:TypeId} {d p f:Nat} {K:Nat->Nat} {l:List Nat} (h:dP w d p f K l) (c:bJ w w' t) (g:84≠t) (x:eX≠t) (m:fu≠t) (v:aN≠t) (j:bB≠t) (u:nI≠t):dP w' d p f K l:=by
 obtain⟨N,s,r,n,q,h,o⟩:=h;exact⟨N,s,r,n,q,⟨c.is h.is g,c.own h.runs x,λe i=>(h.Ae e i).keep (.fV c m N h.hi.2) (.fV c v N h.hi.2),h.low,⟨h.hi.1,ia h.hi.2 c.size⟩,h.shp,λk b a=>⟨(h.ZQ k b a).1.iQ c j,(h.ZQ k b a).2⟩⟩,bT.iQ o c u⟩
def L_ (p:Nat):Value:=.pointer (some ⟨p,0,none⟩)
def Pg {w:World} (hG:nk w) (h0:0<w.heap.size) {Q:Nat} {T:List aG} {X:List Nat} (hD:cK w Q T X) (K:aY T X) (zT:T.length<1000) (L:List Nat) (z:∀c∈L,aP c) (V:(gQ T L).length<400) :
 Calls prog 24 #[.pointer (some ⟨Q,0,none⟩),.string (tx (dQ L))] w λe w'=>∃v,e=.returned (.tuple #[v,.int .i64 0])/\WO w' v Q (ai T) (bf (kF T) (gQ T L))/\Below w.heap.size w w':=by
 have NF:=aa (VM hG h0 hD K zT L z (by rw[<-wR];omega));have A:=nG.of K L;have R:=qZ K z;obtain⟨l,hl⟩:=ae (gQ T L);rw[<-hl] at NF A R V⊢;obtain⟨sL,G⟩:=ae (tx (dQ L));rw[<-G] at NF⊢;have DC:=aa (λ(W:World) (E:Below w.heap.size w W)=>vX (hG.mono E).heads l R (by omega));have P:=oH (ap:=kF T) l [];have Eb:(bf (kF T) l).length<=l.length:=by simpa [bf] using P
 have TN:=aa (λ(W:World) (E:Below w.heap.size w W) (v:Value) (u:List Nat) (hu:u∈bf (kF T) l) (hv:bG W v (aM u))=>Lr (hD.mono E) K u hv (λc h=>(R c (sH hu c h)).1) (vg (by rw[gH];exact A.ord) u hu) (by
  have h1:u.length<=(bf (kF T) l).flatten.length:=qs (pj hu);rw[gH] at h1
  omega))
 obtain⟨us,ze⟩:=ae (bf (kF T) l);simp only[<-ze] at TN Eb⊢;have SU:∀(W:World),Below w.heap.size w W->∀(v:Value),bG W v (aM l)->Calls prog 58 #[.pointer (some ⟨Q,0,none⟩),v] W λe w'=>∃r d,e=.returned r/\w'.ownsRow W.heap.size eSl 1 r us.length d/\d.length=us.length/\(∀k (t:k<us.length),∃u,d[k]? = some u/\w'.ownsRow W.heap.size aN 1 u (us[k]).length (aM us[k]))/\Below W.heap.size W w':=λW E v hv=>by
  subst ze;exact L6 (hD.mono E) K zT l hv R (by omega)
 have SU:=aa SU;obtain⟨s,hs⟩:=ae (tx (dQ l));rw[<-hs] at NF DC;clear hG h0 hD A R P ze hs G hl z;go_enter func24,ntmps24;go_wp2_with fail;refine NF.out.mono ?_;rintro e w1⟨rfl,q⟩;have ao:=q.size;go_wp2_with fail;refine(DC.out w1 q).mono ?_;rintro e w2⟨r2,rfl,o2,Z⟩;have m:=q.trans (Z.mono ao);have al:=m.size;have y:=(Sl.aU (by rw[<-bF] at o2;exact o2)).any;obtain⟨a2,c2,rfl,_,_⟩:=ak o2;go_wp2_with fail;refine(SU.out w2 m _ y).mono ?_;rintro e H⟨r3,d,rfl,o3,B,S,F⟩;have ad:=m.trans (F.mono al);have am:=ad.size;obtain⟨n,A⟩:=ae us.length;rw[<-A] at o3 B;obtain⟨a3,c3,rfl,_,_⟩:=ak o3;have HN:=aa A;have aj:=aa S;have au:=aa B;have O3:=aa o3;have rW:n<400:=by omega
 clear NF DC SU A B S o2 y q Z F m o3;go_wp2_with fail;go_loopw [10,12,31] (λo _ jv wr=>∃j:Nat,j<=n/\jv=.int .i64 j/\(∃g:List Nat,g.length=j/\wr.ownsRow H.heap.size aao 1 o j (g.map L_)/\∀k (t:k<g.length) (ab:k<us.length),∃I,dP wr I g[k] Q (ai T) us[k])/\Below H.heap.size H wr) (λ_ _ jv _=>n-(intOf jv).toNat)
 case atStart=>exact⟨0,ic _,rfl,⟨[],rfl,iS _ _ _ _,λk t=>absurd t (by simp)⟩,gS _ _⟩
 case round=>
  obtain⟨j,hj,rfl,⟨g,an,f,p⟩,D⟩:=hrel;have ji:=ad.trans (D.mono am);have Je:=ji.size;have aq:=D.size;by_cases av:j<n
  ·have zj:=eG (show j<n by omega);have N:j<us.length:=by have:=HN.out;omega
   obtain⟨b,cap,he,_,_,_,_,a⟩:=dz O3.out (show 0<n by omega);injection he with C _ M;subst C M;obtain⟨x,hx,i⟩:=aj.out j N;have c0:=aB D (a j x hx);have i:=aH i D;obtain⟨ax,cx,rfl,_,_⟩:=ak i;have O:bG wr (.slice ax us[j].length cx) (aM us[j]):=(Sl.aU i).any;have af:=aa (TN.out wr ji _ us[j] (gw N) O);obtain⟨lx,J⟩:=ae (us[j].length);rw[<-J] at c0 af;have Uy:=aa p;clear a hx i O J p;go_wp2_with fail;refine af.out.mono ?_;rintro e w7⟨Y,rfl,hM,jh⟩;have ag:=aH f jh;have uK:=D.trans (jh.mono aq);have HM:=aa hM;clear hM
   go_wp2_with (
    at_builtin
    refine f_ rfl _ _ 61 rfl H.heap.size aao _ 8 aap _ j _ rfl ag (L_ Y) rfl rfl (by omega) (by unfold maxLen;omega) H uK (d' _) ?_
    intro v8 w8 o8 kL ar OT)
   go_roundw
   case rel=>
    have WQ:=ah (w:=w7) (.cells #[L_ Y] aao);have ch:=bJ.bQ ar OT;refine⟨j+1,by omega,by simp,⟨g++[Y],by simp[an],by rw[j5];exact o8,λk t ab=>?_⟩,kL⟩;by_cases U:k<g.length
    ·obtain⟨I,h⟩:=Uy.out k U ab;rw[rB U];exact⟨I,(((h.mono jh).mono WQ).iQ ch (by decide) (by decide) (by decide) (by decide) (by decide) (by decide))⟩
    obtain rfl:k=j:=by rw[gn] at t;simp at t;omega
    refine⟨wr.heap.size,?_⟩;have:(g++[Y])[k]=Y:=by rw[vq (by omega)];simp
    rw[this];exact((HM.out.mono WQ).iQ ch (by decide) (by decide) (by decide) (by decide) (by decide) (by decide))
   case measure=>simp[intOf];omega
  have zj:=gI (show n<=j by omega);obtain rfl:j=n:=by omega
  obtain⟨oa,oc,rfl,_,_⟩:=ak f;have HR:=aa f;have Uy:=aa p;clear f p;go_wp2;go_ret2;refine⟨_,rfl,⟨oa,oc,by rw[HN.out];rfl,λk t=>?_⟩,ji⟩;obtain⟨b,cap,he,_,_,_,_,a⟩:=dz HR.out (show 0<j by have:=HN.out;omega);injection he with C _ M;subst C;have ac:k<g.length:=by have:=HN.out;omega
  obtain⟨I,h⟩:=Uy.out k ac t;refine⟨b,0,g[k],I,rfl,?_,h⟩;rw[k_];exact a k (L_ g[k]) (by rw[nu,gx ac];rfl)
def abx {w:World} (E:nk w) {A:Nat} {T:List aG} {X:List Nat} (F:cK w A T X) (z:aY T X) (O:T.length<1000) (L:List Nat) (f:∀c∈L,aP c) (d:(gQ T L).length<400) :
 Calls prog 22 #[.pointer (some ⟨A,0,none⟩),.string (tx (dQ L))] w λe w'=>∃r,e=.returned (.tuple #[r,.int .i64 0])/\bT w' r (eF (ai T) (bf (kF T) (gQ T L)))/\Below w.heap.size w w':=by
 have g:=ah (w:=w) (.cells #[.slice none 0 0] eD);have i:=aa (Pg (E.mono g) (by simp) (F.mono g) z O L f d);have H:=nG.of z L;have J:=qZ z f;obtain⟨l,D⟩:=ae (gQ T L);rw[<-D] at i H J d⊢;have R:(bf (kF T) l).length<=l.length:=by simpa [bf] using oH (ap:=kF T) l []
 have n:∀u∈bf (kF T) l,u.length<9000:=λu Q=>by
  have M:u.length<=(bf (kF T) l).flatten.length:=qs (pj Q);rw[gH] at M;omega
 have C:=aa (λ(W:World) (v:Value) (V:WO W v A (ai T) (bf (kF T) l))=>Tu V n (by omega));obtain⟨us,G⟩:=ae (bf (kF T) l);simp only[<-G] at i C⊢;obtain⟨s,I⟩:=ae (tx (dQ L));rw[<-I] at i⊢;have a:=Is.new w #[.slice none 0 0] eD;clear E F H J D f R n G I;go_enter func22,ntmps22;go_wp2_with fail;refine i.out.mono ?_;rintro e U⟨v1,rfl,B,h⟩;have:=h.size;obtain⟨a1,Z,rfl,_⟩:=id B;have S:=aa B;have m:=af g h;have a:=a.mono h;clear B i;go_wp2_with fail;refine(C.out U _ S.out).mono ?_;rintro e Y⟨r2,rfl,p,j⟩;obtain⟨q,t,x,rfl,p⟩:=p.out;have a:=a.mono j;have:=a.at 0 rfl;have:=a.frozen 0;have K:=a.set 0 (.slice q t x);have P:=K.at 0 rfl;have y:=aa (bT.iQ p (bJ.put (o:=0) a (.slice q t x)) (by decide));have k:=aa (aj (off:=0) (u:=.slice q t x) (b:=w.heap.size) (m.trans (j.mono m.size)) (d' _));clear p a K;go_wp2_with fail;exact bodyPost_ret (v:=.tuple #[.agg #[.slice q t x],.int .i64 0]) (by simp[results,results22,go_sem,P]) rfl ⟨_,rfl,y.out,k.out⟩
abbrev aaq:TypeId:=37
def aar:Elem prog 64 aaq (.pointer none) 8:=⟨rfl,underlying64,info_parts (by kernel_rfl)⟩
def jX.agG {w w':World} {t:TypeId} {d i g f:Nat} {e:List Nat} (h:jX w d i g f e) (c:bJ w w' t) (l:QB≠t) (j:eD≠t) (o:nI≠t):jX w' d i g f e:=by
 obtain⟨r,b,v,q⟩:=h;refine⟨c.is r l,b,c.own v j,λk u=>?_⟩;obtain⟨a,n,m,s,p⟩:=q k u;exact⟨a,n,m,s,bT.iQ p c o⟩
def ak3 (w:World) (v:Value) (dp:Nat) (T:List aG) (us:List (List Nat)):Prop:=
 ∃a c,v=.slice a us.length c/\∀k (i:k<us.length),∃b off e g d f h,a=some ⟨b,off,none⟩/\w.cell? ⟨b,off+k,none⟩=some (.pointer (some ⟨e,0,none⟩))/\jX w f e g d (l6 T us[k])/\dP w h d dp (ai T) us[k]
def ak3.mono {w w':World} {v:Value} {e:Nat} {T:List aG} {us:List (List Nat)} (h:ak3 w v e T us) (d:Below w.heap.size w w'):ak3 w' v e T us:=by
 obtain⟨a,c,p,f⟩:=h;refine⟨a,c,p,λk q=>?_⟩;obtain⟨b,off,i,g,n,j,s,r,m,o,l⟩:=f k q;exact⟨b,off,i,g,n,j,s,r,aB d m,o.mono d,l.mono d⟩
def CW:∀{l:List Nat} {x:Nat},x∈l->x<=l.sum
 | y::l,x,h=>by
   rw[oS];rcases jt.1 h with rfl|h
   ·omega
   have:=CW h;omega
def Gb {K:Nat->Nat} {us:List (List Nat)} {u:List Nat} (h:u∈us):dO (bq K u)<=eF K us:=by
 unfold eF;exact CW (j8.2 ⟨u,h,rfl⟩)
def Ph {w:World} (hG:nk w) (h0:0<w.heap.size) {P:Nat} {T:List aG} {X:List Nat} (hD:cK w P T X) (hV:aY T X) (zT:T.length<1000) (L:List Nat) (G:∀c∈L,aP c) (D:(gQ T L).length<400) (A:Nat) (aJ:A<9223372036854775808) :
 Calls prog 25 #[.pointer (some ⟨P,0,none⟩),.string (tx (dQ L)),.int .i64 (A:Nat)] w λe w'=>Below w.heap.size w w'/\
  (eF (ai T) (bf (kF T) (gQ T L))<=min A 16384->∃v,e=.returned (.tuple #[v,.int .i64 0])/\ak3 w' v P T (bf (kF T) (gQ T L)))/\(¬eF (ai T) (bf (kF T) (gQ T L))<=min A 16384->e=.returned (.tuple #[.slice none 0 0,.int .i64 9])):=by
 have Z:=aa (Pg hG h0 hD hV zT L G D);have Q:=nG.of hV L;have hc:=qZ hV G;obtain⟨l,hl⟩:=ae (gQ T L);rw[<-hl] at Z Q hc D⊢;have Eb:(bf (kF T) l).length<=l.length:=by simpa [bf] using oH (ap:=kF T) l []
 have t:∀u∈bf (kF T) l,u.length<400:=λu i=>by
  have h1:u.length<=(bf (kF T) l).flatten.length:=qs (pj i);rw[gH] at h1;omega
 have CO:=aa (λ(W:World) (v:Value) (hv:WO W v P (ai T) (bf (kF T) l))=>Tu hv (λu i=>uJ (t u i) (by decide)) (by omega));have NW:=aa (λ(W:World) (E:Below w.heap.size w W) (x f:Nat) (u:List Nat) (i:u∈bf (kF T) l) (m:dP W f x P (ai T) u) (hs:dO (bq (ai T) u)<=16384)=>LV (hD.mono E) hV zT m (t u i) (λc h=>hc c (sH i c h)) hs);have aj:(bY Go.Cd.B (eF (ai T) (bf (kF T) l))).length<=20003:=by
  have:=L9 (K:=ai T) (us:=bf (kF T) l) (λu i=>uJ (t u i) (by decide)) (by omega) (bf (kF T) l).length
  rwa [lB] at this
 have q:∀u∈bf (kF T) l,dO (bq (ai T) u)<=eF (ai T) (bf (kF T) l):=λu i=>Gb i;obtain⟨us,ze⟩:=ae (bf (kF T) l);simp only[<-ze] at Z CO NW Eb aj q⊢;obtain⟨s,hs⟩:=ae (tx (dQ L));rw[<-hs] at Z⊢;obtain⟨r,Ma⟩:=ae (eF (ai T) us);simp only[<-Ma] at CO aj q⊢;have ar:=aa q;have zb:decide ((A:Int)<0)=false:=decide_eq_false (by omega);have z:∃p:Nat,p=min A 16384:=⟨_,rfl⟩;obtain⟨p,z⟩:=z;rw[<-z];have Ja:(if (A:Int)<16384 then (A:Int) else 16384)=(p:Int):=by split <;> omega
 have aI:min (A:Int) 16384=(p:Int):=by omega
 have vL:p<=16384:=by omega
 clear hG h0 hD Q hc hl G t ze hs Ma q z;go_enter func25,ntmps25;go_wp2_with fail;refine Z.out.mono ?_;rintro e w1⟨v1,rfl,m,al⟩;have aC:=al.size;obtain⟨a1,c1,rfl,V⟩:=id m;obtain⟨n,Q⟩:=ae us.length;rw[<-Q] at m Eb⊢;have HM:=aa m;have am:=aa V;have HN:=aa Q;clear m V Q Z;go_wp2_with fail;refine(CO.out w1 _ HM.out).mono ?_;rintro e w2⟨r2,rfl,hN,ab⟩;obtain⟨ua,un,uc,rfl,hN⟩:=hN.out;have S:=al.trans (ab.mono aC);have au:=S.size;go_wp2_with fail;refine(uf p (by omega) w2).mono ?_;rintro e w3⟨r3,rfl,O,F⟩;have CM:=aa (pK (hN.mono F) O (by omega) (lp (sF (n:=0) (by rw[Nat.pow_zero];omega)) (by decide)));obtain⟨ub,um,ud,rfl,_⟩:=O.out;have ag:=S.trans (F.mono au);have ax:=ag.size;have aA:=af ab F;clear hN O CO;go_wp2_with fail;refine CM.out.mono ?_;rintro e w4⟨rfl,R⟩;have I:=ag.trans (R.mono ax);have an:=I.size;have aE:=af aA R;clear CM;by_cases N:r<=p
 ·have zc:decide ((0:Int)<sK r p)=false:=by
   refine decide_eq_false ?_;unfold sK;rcases ki r p with h|h
   ·rw[if_pos h];decide
   rw[if_neg (by omega),if_neg (by omega)];decide
  go_wp2_with fail;go_loopw [10,12,13,14,39] (λo _ _ _ jv wr=>∃j:Nat,j<=n/\jv=.int .i64 j/\(∃d:List Nat,d.length=j/\wr.ownsRow w4.heap.size aaq 1 o j (d.map L_)/\∀k (J:k<d.length) (ac:k<us.length),∃g x Y f,jX wr Y d[k] g x (l6 T us[k])/\dP wr f x P (ai T) us[k])/\Below w4.heap.size w4 wr) (λ_ _ _ _ jv _=>n-(intOf jv).toNat)
  case atStart=>exact⟨0,ic _,rfl,⟨[],rfl,iS _ _ _ _,λk J=>absurd J (by simp)⟩,gS _ _⟩
  case round=>
   obtain⟨j,hj,rfl,⟨d,az,a,y⟩,hE⟩:=hrel;have ji:=I.trans (hE.mono an);have Je:=ji.size;have aF:=hE.size;by_cases aL:j<n
   ·have zj:=eG (show j<n by omega);have M:j<us.length:=by have:=HN.out;omega
    have H:=af aE hE;obtain⟨b,off,x,f,rfl,c0,m⟩:=am.out j M;have c0:=aB H c0;have ao:=aa (NW.out wr ji x f us[j] (gw M) (m.mono H) (ia (ar.out _ (gw M)) (ia N vL)));have Uy:=aa y;have aw:=aa (m.mono H);clear m y;go_wp2_with fail;refine ao.out.mono ?_;rintro e w7⟨pp,g,rfl,hP,jh⟩;have aq:=aH a jh;have uK:=hE.trans (jh.mono aF);have HP:=aa hP;clear hP
    go_wp2_with (
     at_builtin
     refine f_ rfl _ _ 64 rfl w4.heap.size aaq _ 8 aar _ j _ rfl aq (L_ pp) rfl rfl (by omega) (by unfold maxLen;omega) w4 uK (d' _) ?_
     intro v8 w8 o8 kL aD OT)
    go_roundw
    case rel=>
     have WQ:=ah (w:=w7) (.cells #[L_ pp] aaq);have ch:=bJ.bQ aD OT;refine⟨j+1,by omega,by simp,⟨d++[pp],by simp[az],by rw[j5];exact o8,λk J ac=>?_⟩,kL⟩;by_cases U:k<d.length
     ·obtain⟨g',av,Y,f,h,h'⟩:=Uy.out k U ac;rw[rB U];exact⟨g',av,Y,f,(((h.mono jh).mono WQ).agG ch (by decide) (by decide) (by decide)),(((h'.mono jh).mono WQ).iQ ch (by decide) (by decide) (by decide) (by decide) (by decide) (by decide))⟩
     obtain rfl:k=j:=by rw[gn] at J;simp at J;omega
     refine⟨g,x,wr.heap.size,f,?_,(((aw.out.mono jh).mono WQ).iQ ch (by decide) (by decide) (by decide) (by decide) (by decide) (by decide))⟩;have:(d++[pp])[k]=pp:=by rw[vq (by omega)];simp
     rw[this];exact((HP.out.mono WQ).agG ch (by decide) (by decide) (by decide))
    case measure=>simp[intOf];omega
   have zj:=gI (show n<=j by omega);obtain rfl:j=n:=by omega
   obtain⟨oa,oc,rfl,_,_⟩:=ak a;have HR:=aa a;have Uy:=aa y;clear a y;go_wp2;go_ret2;refine⟨ji,λ_=>⟨_,rfl,oa,oc,by rw[HN.out];rfl,λk J=>?_⟩,λh=>absurd N h⟩;obtain⟨b,cap,he,_,_,_,_,C⟩:=dz HR.out (show 0<j by have:=HN.out;omega);injection he with ay _ aK;subst ay;have ad:k<d.length:=by have:=HN.out;omega
   obtain⟨g,x,Y,f,h⟩:=Uy.out k ad J;refine⟨b,0,d[k],g,x,Y,f,rfl,?_,h⟩;rw[k_];exact C k (L_ d[k]) (by rw[nu,gx ad];rfl)
 have zc:decide ((0:Int)<sK r p)=true:=by rw[xJ (by omega)];rfl
 go_wp2_with fail;go_ret2;exact⟨I,λh=>absurd h N,λ_=>rfl⟩
def Iy (K:Nat->Nat) (a b:List (List Nat)):eF K (a++b)=eF K a+eF K b:=by unfold eF;rw[j5,sg]
def Iz {T:List aG} (a:T.length<1000) {u:List Nat} (b:u.length<400):(l6 T u).getD 0 0<=Go.Cd.B ^ dO (bq (ai T) u):=by
 have h:=Lx (R:=bq (ai T) u) (opt:=λs=>b_ (pO (ai T) (aD T) (uY T) (bq (ai T) u) s)) (nS:=fw (ai T) (aD T) (bq (ai T) u)) (M:=Go.Cd.B) (by unfold Go.Cd.B;decide)
  (λi c=>ia (Cx a b (uW c) _) (by unfold Go.Cd.B;decide)) _ (d' _)
 rw[ir];cases e:(l6 T u)[0]? with
 | none=>exact ic _
 | some x=>exact h x (lO e)
def QG {T:List aG} (b:T.length<1000) {us:List (List Nat)} (c:∀u∈us,u.length<400):∀k,k<=us.length->dU ((us.map λu=>(l6 T u).getD 0 0).take k)<=Go.Cd.B ^ eF (ai T) (us.take k)
 | 0,_=>by simp[dU,eF]
 | k+1,hk=>by
   have d:=QG b c k (by omega);have a:k<us.length:=by omega
   rw[pM _ k (by simpa using a),CS a,Nat.pow_add];refine pP d ?_;rw[m8];exact Iz b (c _ (gw a))
def Ec (K:Nat->Nat) (us:List (List Nat)) (k:Nat):eF K (us.take k)<=eF K us:=by
 conv=>rhs;rw[<-km k us,Iy]
 omega
def QH (K:Nat->Nat) (u:List Nat):0<dO (bq K u):=by
 have a:=ke.2 (fD K u).1;have b:=aae (R:=bq K u) (k:=0) a;have:=gG (bq K u) 1;have:=Qv ((bq K u)[0]'a);simp only[k_] at b;omega
def QI {w:World} (hG:nk w) {dp:Nat} {T:List aG} {X:List Nat} (hD:cK w dp T X) (hV:aY T X) (zT:T.length<1000) (L:List Nat) (I:∀c∈L,aP c) (F:(gQ T L).length<400) (Z:Nat) (ay:Z<9223372036854775808) :
 Calls prog 15 #[.pointer (some ⟨dp,0,none⟩),.string (tx (dQ L)),.int .i64 (Z:Nat)] w λe w'=>Below w.heap.size w w'/\
  (eF (ai T) (bf (kF T) (gQ T L))<=min Z 16384->∃r,e=.returned (.tuple #[r,.int .i64 0])/\bT w' r (aaw T (bf (kF T) (gQ T L))))/\(¬eF (ai T) (bf (kF T) (gQ T L))<=min Z 16384->e=.returned (.tuple #[.agg #[.slice none 0 0],.int .i64 9])):=by
 have Q:=ah (w:=w) (.cells #[.slice none 0 0] eD);have C:=aa (Ph (hG.mono Q) (by simp) (hD.mono Q) hV zT L I F Z ay);have Y:=nG.of hV L;have hc:=qZ hV I;obtain⟨l,hl⟩:=ae (gQ T L);rw[<-hl] at C Y hc F⊢;have Eb:(bf (kF T) l).length<=l.length:=by simpa [bf] using oH (ap:=kF T) l []
 have O:∀u∈bf (kF T) l,u.length<400:=λu D=>by
  have U:u.length<=(bf (kF T) l).flatten.length:=qs (pj D);rw[gH] at U;omega
 have S:=QG zT O;have P:=λ(u:List Nat) (D:u∈bf (kF T) l)=>Iz zT (O u D);have y:=Ec (ai T) (bf (kF T) l);have q:=λ(u:List Nat) (D:u∈bf (kF T) l)=>Gb (K:=ai T) D;obtain⟨us,ze⟩:=ae (bf (kF T) l);simp only[<-ze] at C Eb S P y q⊢;obtain⟨s,hs⟩:=ae (tx (dQ L));rw[<-hs] at C⊢;obtain⟨az,Ma⟩:=ae (eF (ai T) us);simp only[<-Ma] at C y q⊢;have aM:=aa S;have aK:=aa P;have aw:=aa y;have ab:=aa q;obtain⟨mb,ar⟩:∃mb:Nat,mb=min Z 16384:=⟨_,rfl⟩;rw[<-ar] at C⊢;have vL:mb<=16384:=by omega
 have W:=Is.new w #[.slice none 0 0] eD;clear ar hG hD Y hc hl I O ze hs Ma S P y q;go_enter func15,ntmps15;go_wp2_with fail;refine C.out.mono ?_;rintro e w1⟨av,Po,J⟩;have R:=af Q av;have aL:=R.size;have W:=W.mono av;by_cases i:az<=mb
 ·obtain⟨v1,rfl,aE⟩:=Po i;obtain⟨a1,c1,rfl,al⟩:=aE;obtain⟨n,Y⟩:=ae us.length;rw[<-Y] at Eb⊢;have HN:=aa Y;have aI:=aa al;clear Po J C Y al;go_wp2_with fail;go_loopw [10,12,26] (λo _ jv wr=>∃j:Nat,j<=n/\jv=.int .i64 j/\(∃d:List Value,wr.ownsRow w1.heap.size eD 1 o j d/\∀k (p:k<j) (am:k<us.length),∃a n c,d[k]? = some (.slice a n c)/\bT wr (.agg #[.slice a n c]) ((l6 T us[k]).getD 0 0))/\Below w1.heap.size w1 wr) (λ_ _ jv _=>n-(intOf jv).toNat)
  case atStart=>exact⟨0,ic _,rfl,⟨[],iS _ _ _ _,λk p=>absurd p (by omega)⟩,gS _ _⟩
  case round=>
   obtain⟨j,hj,rfl,⟨d,f,t⟩,V⟩:=hrel;have ji:=R.trans (V.mono aL);have Je:=ji.size;have aC:=V.size;by_cases aQ:j<n
   ·have zj:=eG (show j<n by omega);have ac:j<us.length:=by have:=HN.out;omega
    obtain⟨b,off,pp,g,mp,PB,_,rfl,c0,hP,_⟩:=aI.out j ac;have c0:=aB V c0;have aN:=gw ac;have ax:dO (bq (ai T) us[j])<=16384:=ia (ab.out _ aN) (ia i vL);have AL:=aa (L8 (hP.mono V) (by rw[w_];exact QH _ _) (by rw[w_];exact ax));have Uy:=aa t;have ao:d.length=j:=by have:=f.1;omega
    obtain⟨x,hx⟩:=ae ((l6 T us[j]).getD 0 0);rw[<-hx] at AL;have HX:=aa hx;clear hP t hx;go_wp2_with fail;refine AL.out.mono ?_;rintro e w7⟨r7,rfl,z,jh⟩;obtain⟨G,E,H,rfl,z⟩:=z.out;have ag:=aH f jh;have uK:=V.trans (jh.mono aC);have aJ:=aa z;clear z
    go_wp2_with (
     at_builtin
     refine qf rfl _ _ 100 rfl w1.heap.size eD (.agg #[.slice none 0 0]) 1 24 abN (by decide) (by decide) (by decide) (by decide) _ j _ rfl ag #[.slice G E H] rfl rfl (by simp[Value.oneCell']) (by omega) w1 uK (d' _) ?_
     intro v8 w8 o8 kL OT aR)
    go_roundw
    case rel=>
     have ch:=bJ.bQ ag OT;refine⟨j+1,by omega,by simp,⟨d++[.slice G E H],o8,λk p am=>?_⟩,kL⟩;by_cases N:k<j
     ·obtain⟨a,n',c,U,h2⟩:=Uy.out k N am;exact⟨a,n',c,by rw[kB (by omega)];exact U,bT.iQ (h2.mono jh) ch (by decide)⟩
     obtain rfl:k=j:=by omega
     refine⟨G,E,H,by rw[j' (by omega),ao,ns];rfl,?_⟩;rw[<-HX.out];exact bT.iQ aJ.out ch (by decide)
    case measure=>simp[intOf];omega
   have zj:=gI (show n<=j by omega);obtain rfl:j=n:=by omega
   have ao:d.length=j:=by have:=f.1;omega
   obtain⟨oa,oc,rfl,_,_⟩:=ak f;have aq:abE wr (.slice oa j oc) (us.map λu=>(l6 T u).getD 0 0):=by
    refine⟨oa,oc,by rw[iz,<-HN.out],λk p=>?_⟩;rw[iz] at p;have N:k<j:=by have:=HN.out;omega
    obtain⟨a,n',c,U,h2⟩:=t k N p;obtain⟨b,cap,he,_,_,aA,_,A⟩:=dz f (show 0<j by omega);injection he with aF _ aO;subst aF;refine⟨b,0,a,n',c,rfl,aA,?_,?_⟩
    ·rw[k_];exact A k _ U
    rw[m8];exact h2
   have au:∀k,k<=(us.map λu=>(l6 T u).getD 0 0).length->(bY Go.Cd.B (dU ((us.map λu=>(l6 T u).getD 0 0).take k))).length<274877906944:=λk p=>by
    rw[iz] at p;have U:=aM.out k p;have h3:=Cw (M:=16384) U (ia (aw.out k) (ia i vL));omega
   have an:∀x∈us.map λu=>(l6 T u).getD 0 0,(bY Go.Cd.B x).length<274877906944:=λx hx=>by
    obtain⟨u,D,rfl⟩:=j8.1 hx;have h3:=Cw (M:=16384) (aK.out u D) (ia (ab.out u D) (ia i vL));omega
   have PO:=aa (SK aq (by rw[iz,<-HN.out];omega) au an);have ad:dU (us.map λu=>(l6 T u).getD 0 0)=aaw T us:=rfl;rw[ad] at PO;clear aq au an ad t;go_wp2_with fail;refine PO.out.mono ?_;rintro e w7⟨r7,rfl,z,jh⟩;obtain⟨G,E,H,rfl,z⟩:=z.out;have j0:=(W.mono V).mono jh;have f0:=j0.at 0 rfl;have q0:=j0.frozen 0;have v0:=j0.set 0 (.slice G E H);have g0:=v0.at 0 rfl;have aD:=aa (bT.iQ z (bJ.put (o:=0) j0 (.slice G E H)) (by decide));have m:=aa (aj (off:=0) (u:=.slice G E H) (b:=w.heap.size) (ji.trans (jh.mono Je)) (d' _));clear z j0 v0;go_wp2_with fail;exact bodyPost_ret (v:=.tuple #[.agg #[.slice G E H],.int .i64 0]) (by simp[results,results15,go_sem,g0]) rfl ⟨m.out,λ_=>⟨_,rfl,aD.out⟩,λh=>absurd i h⟩
 obtain rfl:=J i;have f0:=W.at 0 rfl;have q0:=W.frozen 0;have v0:=W.set 0 (.slice none 0 0);have g0:=v0.at 0 rfl;have m:=aa (aj (off:=0) (u:=.slice none 0 0) (b:=w.heap.size) R (d' _));clear v0 Po J C;go_wp2_with fail;exact bodyPost_ret (v:=.tuple #[.agg #[.slice none 0 0],.int .i64 9]) (by simp[results,results15,go_sem,g0]) rfl ⟨m.out,λh=>absurd h i,λ_=>rfl⟩
end Go.Proofs.YtmnimbnojdndmaaGreatDoor
namespace Go.Proofs.YtmnimbnojdndmaaGreatDoor
open Go.RowKit Go.Cd
def ads (T:List aG) (l:List Nat):List Nat:=(Pk (ai T) l).flatMap λx=>(bgU T x).filter λc=>(vk T c l).isSome
def adt (T:List aG):Nat->List Nat->Nat
 | 0,_=>0
 | f+1,l=>if l=[] then 1 else ((ads T l).map λc=>match vk T c l with|some r=>adt T f r|none=>0).sum
def Gg {f g:Nat->List Nat} (h:∀x,(f x).Perm (g x)):∀l:List Nat,(l.flatMap f).Perm (l.flatMap g)
 | []=>.nil
 | x::l=>by
   rw[jx,jx];exact(h x).append (Gg h l)
def WX (T:List aG) (l:List Nat):(Ir T l).Perm (ads T l):=by
 unfold Ir ads;refine(oP _).trans (Gg (λx=>?_) _);unfold uY;exact(oP _).filter _
def WY {l m:List Nat} (h:l.Perm m):l.sum=m.sum:=by
 induction h with
 | nil=>rfl
 | cons x _ ih=>rw[oS,oS,ih]
 | swap x y l=>rw[oS,oS,oS,oS];omega
 | trans _ _ h1 h2=>exact h1.trans h2
def WZ (T:List aG):∀(f:Nat) (l:List Nat),cntF T f l=adt T f l
 | 0,_=>rfl
 | f+1,l=>by
   unfold cntF adt
   split
   ·rfl
   rw[WY ((WX T l).map _)];refine congrArg List.sum (mL λc _=>?_);cases vk T c l with
   | none=>rfl
   | some r=>exact WZ T f r
def Ml:gQ fo [0x212b]=[0x41,0x30a]/\oI fo [0x41,0x30a]=3:=⟨by decide +kernel,(WZ _ _ _).trans (by decide +kernel)⟩
def Mm:gQ fo [0x1e69]=[0x73,0x323,0x307]/\oI fo [0x73,0x323,0x307]=5:=⟨by decide +kernel,(WZ _ _ _).trans (by decide +kernel)⟩
end Go.Proofs.YtmnimbnojdndmaaGreatDoor
namespace Go.Proofs.YtmnimbnojdndmaaGreatDoor
open Go.RowKit Go.Cd _root_.Go.Proofs.Tryz
def Ua:eF (ai fo) (bf (kF fo) [0x41,0x30a])<=1000:=by decide +kernel
def Ub:eF (ai fo) (bf (kF fo) [0x73,0x323,0x307])<=1000:=by decide +kernel
def QN {w:World} (j:nk w) {g:Nat} (t:cK w g fo Gf) (c:Nat) (l:List Nat) (n:Nat) (h:aP c) (f:gQ fo [c]=l) (d:l.length<400) (o:oI fo l=n) (q:eF (ai fo) (bf (kF fo) l)<=1000) (s:ByteArray) (p:tx (dQ [c])=s) :
 Calls prog 15 #[.pointer (some ⟨g,0,none⟩),.string s,.int .i64 1000] w λe w'=>∃a m k,e=.returned (.tuple #[.agg #[.slice a m k],.int .i64 0])/\bT w' (.agg #[.slice a m k]) n/\Below w.heap.size w w':=by
 subst p;refine(QI j t xk (by decide) [c] (λx i=>by rw[gE.1 i];exact h) (by rw[f];exact d) 1000 (by decide)).mono ?_;rintro e w'⟨v,u,_⟩;obtain⟨r,rfl,b⟩:=u (by rw[f];exact q);rw[CZ xk (nG.of xk [c]),f,o] at b;obtain⟨a,m,k,rfl,b⟩:=b.out;exact⟨a,m,k,rfl,b,v⟩
def PQ {w:World} (v:nk w) :
 Calls prog 6 #[] w λe w'=>e=.returned (.bool true)/\Below w.heap.size w w':=by
 have M:=aa (T_ v.acp);have G:=aa v;clear v;go_enter func6,ntmps6;go_wp2_with fail;refine M.out.mono ?_;rintro e w1⟨p,rfl,y,t⟩;have I:=aa (QN (G.out.mono t) y 0x212b _ 3 (by decide) Ml.1 (by decide) Ml.2 Ua ⟨#[226,132,171]⟩ (by decide));have J:=aa y;clear M y;go_wp2_with fail;refine I.out.mono ?_;rintro e H⟨U,X,Y,rfl,K,C⟩;have o:=af t C;obtain⟨w3,b⟩:=ae (H.alloc (.cells #[.slice U X Y] eD));have c:=aO b;have A:=Is.nw b;have d:=af o c;have N:=aa (QN (G.out.mono d) (J.out.mono (af C c)) 0x1e69 _ 5 (by decide) Mm.1 (by decide) Mm.2 Ub ⟨#[225,185,169]⟩ (by decide));have k:=aa (K.mono c);clear I J K C o c t;go_wp2_with fail;rw[<-b];obtain⟨g3,h⟩:=ae H.heap.size;rw[<-h] at A⊢;clear b h;refine N.out.mono ?_;rintro e w4⟨S,Z,T,rfl,F,q⟩;have O:=A.mono q;have g:=af d q;obtain⟨w5,r⟩:=ae (w4.alloc (.cells #[.slice S Z T] eD));have a:=aO r;have B:=Is.nw r;have x:=O.mono a;have u:=af g a;have z:=aa ((k.out.mono q).mono a);have W:=aa (F.mono a);clear N k F q d g a A O;go_wp2_with fail;rw[<-r];obtain⟨g5,f⟩:=ae w4.heap.size;rw[<-f] at B⊢;clear r f;have:=x.gd 0 rfl;have:=B.gd 0 rfl;refine aC (Array.replicate 17 true) 17 0 mixed ?_;refine ay [0,1,2,3,4,5,6,7] 9 ?_;refine bC ?_
 iterate 8 (refine aZ rfl ?_)
 refine bD ?_
 iterate 8 (go_big_quiet_step (rfl))
 refine az ?_;refine aI 8 ?_;go_wp2_with fail;refine(uf 3 (by decide) w5.drew).mono ?_;rintro e w6⟨t6,rfl,ht,Q⟩;have i:=(ag w5).trans Q;go_wp2_with fail;refine aF Q ?_;have P:=aa (H9 (z.out.mono i) ht (lp (l5 (n:=1) (by decide)) (by decide)));rw[decide_eq_true rfl] at P;refine aI 9 ?_;go_wp2_with fail;refine P.out.mono ?_;rintro e V⟨rfl,L⟩;have m:=af i L;go_wp2_with fail;refine aF L ?_;have:=Gr.cell m (B.at 0 rfl);refine ay [10,11,12] 4 ?_
 iterate 3 (refine aA rfl ?_;go_big_quiet_step (rfl))
 refine az ?_;refine aI 13 ?_;go_wp2_with fail;refine(uf 5 (by decide) V).mono ?_;rintro e w8⟨t8,rfl,D,R⟩;have l:=af m R;go_wp2_with fail;refine aF R ?_;have j:=aa (H9 (W.out.mono l) D (lp (l5 (n:=1) (by decide)) (by decide)));rw[decide_eq_true rfl] at j;refine aI 14 ?_;go_wp2_with fail;refine j.out.mono ?_;rintro e w9⟨rfl,E⟩;have s:=af l E;go_wp2_with fail;refine aF E ?_;refine ay [15,16] 0 ?_
 iterate 2 (refine aA rfl ?_;go_big_quiet_step (rfl))
 refine az ?_;refine aJ [] ?_;refine tail_nil ?_;go_wp2;go_ret;exact⟨rfl,af u s⟩
end Go.Proofs.YtmnimbnojdndmaaGreatDoor
namespace Go.Proofs.YtmnimbnojdndmaaGreatDoor
open Go.RowKit Go.Cd
structure gX where
 code:Int
 cls:Int
 map:List Int
def MH (w:World) (v:Value) (T:List gX):Prop:=
 ∃a cap,v=.slice a T.length cap/\T.length<=cap/\∀i (c:i<T.length),∃b off m,a=some ⟨b,off,none⟩/\b<w.heap.size/\
  w.cell? ⟨b,off+i*3,none⟩=some (.int .i64 T[i].code)/\w.cell? ⟨b,off+i*3+1,none⟩=some (.int .i64 T[i].cls)/\w.cell? ⟨b,off+i*3+2,none⟩=some m/\bG w m (bO T[i].map)
def MH.mono {w w':World} {v:Value} {T:List gX} (h:MH w v T) (c:Below w.heap.size w w'):MH w' v T:=by
 obtain⟨a,cap,l,f,h⟩:=h;refine⟨a,cap,l,f,λi k=>?_⟩;obtain⟨b,off,m,o,d,e,n,g,j⟩:=h i k;exact⟨b,off,m,o,kh d c.size,aB c e,aB c n,aB c g,j.mono c⟩
def PT (w:World) (v:Value) (T:List gX) (X:List Int):Prop:=∃r x,v=.agg #[r,x]/\MH w r T/\bG w x (bO X)
def PT.mono {w w':World} {v:Value} {T:List gX} {X:List Int} (h:PT w v T X) (a:Below w.heap.size w w'):PT w' v T X:=by
 obtain⟨r,x,d,c,b⟩:=h;exact⟨r,x,d,c.mono a,b.mono a⟩
def bG.MI {w:World} {v:Value} {l:List Int} {n:Nat} (h:bG w v (bO l)) (j:n=l.length):∃a cap,v=.slice a n cap/\n<=cap/\
 ∀i (g:i<l.length),∃b off,a=some ⟨b,off,none⟩/\b<w.heap.size/\w.cell? ⟨b,off+i,none⟩=some (.int .i64 l[i]):=by
 subst j;obtain⟨a,cap,rfl,m,e⟩:=Go.Cd.bG.out h;have f:(bO l).length=l.length:=fq _;refine⟨a,cap,by rw[f],by omega,λi g=>?_⟩;obtain⟨b,off,c,k,d⟩:=e i (by omega);exact⟨b,off,c,k,by rw[d];simp[bO]⟩
abbrev eY:TypeId:=78
def qb:mV Tryz.prog 22 eY (.agg #[.int .i64 0,.int .i64 0,.slice none 0 0]) 3 40:=⟨rfl,Tryz.underlying22,info_parts (by kernel_rfl)⟩
def mh (p:gX×Value):List Value:=[.int .i64 p.1.code,.int .i64 p.1.cls,p.2]
def fG (p:aG×Value):List Value:=[.int .i64 p.1.code,.int .i64 p.1.cls,p.2]
structure mK (B:Nat) (w:World) (r:Value) (L:List (gX×Value)):Prop where
 rows:w.ownsRow B eY 3 r L.length (L.flatMap mh)
 maps:∀p∈L,w.ownsRow B bB 1 p.2 p.1.map.length (bO p.1.map)
 apart:L.Pairwise λp q=>Apt p.2 q.2
 nQ:∀p∈L,Apt r p.2
 four:∀p∈L,p.1.map.length<=4
def mK.nil (B:Nat) (w:World):mK B w (.slice none 0 0) []:=⟨iS _ _ _ _,by simp,by simp,by simp,by simp⟩
def mK.kept {B:Nat} {w w':World} {r:Value} {L:List (gX×Value)} {row:Option Nat} (h:mK B w r L) (d:w.grownBy w' row) (f:∀k,row=some k->k<B):mK B w' r L:=by
 have H:∀{e:TypeId} {a:Nat} {v:Value} {n:Nat} {b:List Value},w.ownsRow B e a v n b->w'.ownsRow B e a v n b:=by
  intro e a v n b c;refine c.kept d ?_;cases j:v.ownBlock with
  | none=>exact .inl rfl
  | some k=>exact .inr λi=>by have:=(c.lt k j).1;have:=f k i.symm;omega
 exact⟨H h.rows,λp g=>H (h.maps p g),h.apart,h.nQ,h.four⟩
def mK.ext {B:Nat} {w w':World} {r:Value} {L:List (gX×Value)} (h:mK B w r L) (a:Below w.heap.size w w'):mK B w' r L:=
 ⟨aH h.rows a,λp b=>aH (h.maps p b) a,h.apart,h.nQ,h.four⟩
def mK.push {B:Nat} {w w':World} {r d m:Value} {L:List (gX×Value)} {p:gX} (h:mK B w r L) (j:w.ownsRow B bB 1 m p.map.length (bO p.map)) (n:p.map.length<=4)
 (c:∀q∈L,Apt q.2 m) (b:Apt r m) (l:w'.ownsRow B eY 3 d (L.length+1) (L.flatMap mh++mh (p,m))) (i:w.grownBy w' r.ownBlock) (g:kK w r d):mK B w' d (L++[(p,m)]):=by
 refine⟨by simpa using l,?_,?_,?_,?_⟩
 ·intro q a;rcases ie.1 a with a|a
  ·exact(h.nQ q a).symm.stays (h.maps q a) i
  rw[gE.1 a];exact b.symm.stays j i
 ·rw[lE];refine⟨h.apart,by simp,λq a o f=>?_⟩;rw[gE.1 f];exact c q a
 ·intro q a;rcases ie.1 a with a|a
  ·exact((h.nQ q a).symm.push (λk e=>((h.maps q a).lt k e).2) g).symm
  rw[gE.1 a];exact(b.symm.push (λk e=>(j.lt k e).2) g).symm
 intro q a;rcases ie.1 a with a|a
 ·exact h.four q a
 rw[gE.1 a];exact n
def nH {w:World} {B b n i s c:Nat} {e g:TypeId} {u v:Value} {d m:List Value} {w':World} (f:w.ownsRow B e s u n d) (j:w'.ownsRow b g c v i m) (h:w.heap.size<=b):Apt u v:=by
 intro k l a;have:=(f.lt k l).2;have:=(j.lt k a).1;omega
end Go.Proofs.YtmnimbnojdndmaaGreatDoor
