/- One machine of an NFD counts as its units do, multiplied; no condition. -/
import Derived.Test.YtmnimbnojdndmaaGreatDoorR12
set_option maxRecDepth 100000
set_option maxHeartbeats 6400000
set_option linter.all false
namespace Go.Proofs.YtmnimbnojdndmaaGreatDoor
open Go.RowKit Go.Cd _root_.Go.Proofs.Tryz
variable {l X:List Nat} {W w:World} {b base n p:Nat} {T:List aG} {v:Value}
def Cb {K:Nat->Nat} {m:List Nat} (d:dJ K l) (e:dJ K m) (h0:∀a,l.getLast? = some a->K a=0):dJ K (l++m):=by
 induction l with
 | nil=>exact e
 | cons a l ih=>
   cases l with
   | nil=>
     cases m with
     | nil=>trivial
     | cons c m=>exact⟨by unfold swp;have:=h0 a rfl;omega,e⟩
   | cons b l=>exact⟨d.1,ih d.2 λz f=>h0 z (by rw[List.getLast?_cons_cons];exact f)⟩
def KV (K:Nat->Nat):∀l:List Nat,(gL K l).length=l.length:=by
 have a:∀(c:Nat) (l:List Nat),(j_ K c l).length=l.length+1:=λc l=>by
  induction l with
  | nil=>rfl
  | cons d l ih=>unfold j_;split <;> simp[ih]
 intro l
 induction l with
 | nil=>rfl
 | cons c l ih=>unfold gL;rw[a,ih];rfl
def KW (K:Nat->Nat) {x:Nat}:∀{l:List Nat},x∈gL K l↔x∈l:=by
 have a:∀(c:Nat) (l:List Nat),x∈j_ K c l↔x=c\/x∈l:=λc l=>by
  induction l with
  | nil=>simp[j_]
  | cons d l ih=>
    unfold j_
    split
    ·rw[List.mem_cons,ih,List.mem_cons];exact or_left_comm
    rw[List.mem_cons]
 intro l
 induction l with
 | nil=>simp[gL]
 | cons c l ih=>unfold gL;rw[a,ih,List.mem_cons]
def bI.split {A G D:List Nat} {q:List Value}:bI W b [] (A++(G++D)) q↔bI W b A G (aM D++q):=by
 unfold bI;have e:aM []++(aM (A++(G++D))++q)=aM A++(aM G++(aM D++q)):=by
  rw[a_,a_];simp[aM]
 rw[e]
def bI.aU {cap:Nat} (h:W.ownsRow base aN 1 (.slice (some ⟨b,0,none⟩) n cap) n (aM l)):∃q,bI W b [] l q/\n+q.length=cap/\l.length=n/\base<=b/\cap<=maxLen:=by
 have o:l.length=n:=by have:=h.1;simpa using this
 rcases h.2 with⟨e,_⟩|⟨g,c,a,e,i,k,p,d,j,f⟩
 ·cases e
 injection e with e1 _ e3;injection e1 with e1;injection e1 with e1;subst e1;subst e3;refine⟨a.toList.drop n,⟨?_⟩,?_,o,i,d⟩
 ·have m:(aM []++(aM l++a.toList.drop n)).toArray=a:=by
   rw[<-f,Nat.mul_one];simp[aM]
  rw[m];exact k
 rw[List.length_drop,Array.length_toList,j];omega
def bI.own {cap:Nat} {q:List Value} (h:bI W b [] l q) (d:n+q.length=cap) (a:l.length=n) (c:base<=b) (e:cap<=maxLen):W.ownsRow base aN 1 (.slice (some ⟨b,0,none⟩) n cap) n (aM l):=by
 refine⟨by simp[a],.inr ⟨b,cap,_,rfl,c,Is.at_ h,by omega,e,?_,?_⟩⟩
 ·simp[aM,a,d]
 simp[aM,<-a]
def acG (K:Nat->Nat) (n f:Nat) (l:List Nat):Prop:=(f<=n/\∃A C,l=A++C/\A.length=f/\dJ K A/\∀a,A.getLast? = some a->K a=0)\/(f=n+1/\dJ K l)
def VH (h:cK w p T X) (hV:aY T X) (l:List Nat) (hv:Sl aN w v (aM l)) (hp:fU v) (hc:∀c∈l,c<1114112) (aW:l.length<100000) :
 Calls prog 169 #[.pointer (some ⟨p,0,none⟩),v] w λe w'=>∃r,e=.returned r/\w'.ownsRow w.heap.size aN 1 r l.length (aM (gL (ai T) l))/\Below w.heap.size w w':=by
 obtain⟨K,hK⟩:=ae (ai T);obtain⟨i,M⟩:=ae (w.alloc (.cells #[.pointer (some ⟨p,0,none⟩)] 29));have k:=aO M;have k1:=Is.nw M;have CL:=aa (kX l (hv.mono k) hp (by omega));have aj:zO i i.heap.size K (.pointer (some ⟨w.heap.size,0,none⟩)):=λW hW a b ha hb=>by
  rw[hK];exact Sv (h.mono (k.trans (hW.mono k.size))) hV ((k1.mono hW).at 0 rfl) a b ha hb
 have an:=aa aj;have aq:=aa (λ(W:World) (E:Below i.heap.size i W) c (hc:c<1114112)=>iM (h.mono (k.trans (E.mono k.size))) hV c hc);rw[<-hK] at aq⊢;have HC:=aa hc;obtain⟨va,vn,vc,rfl,_⟩:=id hp;have P:=k.size;obtain⟨n,hn⟩:=ae l.length;rw[<-hn] at CL aW⊢;have HN:=aa hn;clear h hv hp hc aj hK hn;go_enter func169,ntmps169;go_wp2_with fail;rw[<-M];clear M;refine CL.out.mono ?_;rintro e w2⟨r,rfl,ho,Q⟩;have gN:=af k Q;by_cases O:l=[]
 ·subst O;obtain rfl:n=0:=HN.out;obtain⟨a,cap,rfl,_,_⟩:=ak ho;have HO:=aa ho;clear ho;go_wp2_with fail;refine wp_loop_rounds 1 ?_;rw[rounds_succ];go_wp2_with fail;exact bodyPost_ret (results_tmp rfl _ _ _) rfl ⟨_,rfl,aT HO.out P,gN⟩
 have aR:0<n:=by rw[HN.out];exact List.length_pos_iff.2 O
 obtain⟨b,cap,rfl,_,_,_,_,_⟩:=dz ho aR;obtain⟨q,hd,hq,_,hb,au⟩:=bI.aU ho;have aZ:n<=cap:=by omega
 have HQ:=aa (And.intro hq au);have HD:=aa hd;have aw:Below i.heap.size i w2:=Q;have a4:=k1.mono Q;clear hd ho hq au O CL;go_wp2_with fail;go_loopw [7,8] (λfv _ wr=>∃f:Nat,f<=n+1/\fv=.int .i64 f/\(∃s,acG K n f s/\fe K l s/\bI wr b [] s q)/\Below i.heap.size i wr) (λfv _ _=>n+1-(intOf fv).toNat)
 case atStart=>exact⟨0,by omega,rfl,⟨l,.inl ⟨Nat.zero_le _,[],l,rfl,rfl,trivial,λa h=>by cases h⟩,fe.refl _,HD.out⟩,aw⟩
 case round=>
  obtain⟨f,a3,rfl,⟨s,hS,Sw,hd⟩,H⟩:=hrel;have u:s.length=n:=by rw[Sw.len];exact HN.out.symm
  by_cases a0:f<n
  ·have z:=eG (show f<n by omega);obtain⟨A,C,al,hA,ar,ap⟩:∃A C,s=A++C/\A.length=f/\dJ K A/\∀a,A.getLast? = some a->K a=0:=by
    rcases hS with⟨_,h⟩|⟨h,_⟩
    ·exact h
    omega
   have aV:=aa al;have HA:=aa hA;have J:=aa (And.intro ar ap);have ab:=aa Sw;have aD:=aa hd;have aP:=aa u;have aB:=hd.lt;have VJ:∀x∈s,x<1114112:=λx hx=>HC.out x (Sw.mem.1 hx);have Ro:=aa VJ;clear hS Sw al hA ar ap hd u VJ;go_wp2_with fail;obtain⟨wo,aK⟩:∃wo:World,wo=wr:=⟨_,rfl⟩;subst aK;go_loopw [8] (λtv wr=>∃t:Nat,f<=t/\t<=n/\tv=.int .i64 t/\(∃G D,C=G++D/\G.length+f=t/\∀x∈G,0<K x)/\bI wr b [] s q/\Below i.heap.size i wr) (λtv _=>n-(intOf tv).toNat)
   case atStart=>exact⟨f,Nat.le_refl _,by omega,rfl,⟨[],C,rfl,by simp,by simp⟩,aD.out,H⟩
   case round=>
    clear H aB;obtain⟨t,a1,a2,rfl,⟨G,D,N,Qq,am⟩,hd,H⟩:=hrel;have R:s=A++(G++D):=by rw[aV.out,N]
    have ax:t+D.length=n:=by
     have:=aP.out;rw[R] at this;simp only[List.length_append] at this;have:=HA.out;omega
    have aB:=hd.lt;have aE:=aa N;have F:=aa Qq;have Y:=aa am;have Z:=aa R;have V:=aa hd;have GN:=aa ax;clear N Qq am R hd ax;by_cases ht:t<n
    ·have z2:=eG (show t<n by omega);obtain⟨x,I,rfl⟩:∃x I,D=x::I:=by
      cases D with
      | nil=>have:=GN.out;simp at this;omega
      | cons x I=>exact⟨x,I,rfl⟩
     have g1:s[t]? = some x:=by
      have:=gM (A++G) I x t (by rw[List.length_append,HA.out];have:=F.out;omega);rw[Z.out];simpa using this
     have ah:=Ro.out x (List.mem_of_getElem? g1);have c1:=V.out.at (o:=t) (by simp) g1;have E0:=ag wr;have q1:=Gr.cell E0 c1;have q2:=Gr.cell E0 ((k1.mono H).at 0 rfl);have CC:=aa (aq.out wr.drew H.drew x ah);obtain⟨kx,U⟩:=ae (K x);rw[<-U] at CC;have KP:=aa U;clear g1 ah c1 U;go_wp2_with fail;refine aC (Array.replicate 13 true) 13 0 mixed ?_;refine ay [0,1,2,3,4,5,6,7,8,9] 3 ?_
     iterate 10 (refine aA rfl ?_;go_big_quiet_step (rfl))
     refine az ?_;refine aI 10 ?_;go_wp2_with fail;refine CC.out.mono ?_;rintro e w6⟨rfl,L⟩;go_wp2_with fail;refine aF L ?_;refine ay [11,12] 0 ?_
     iterate 2 (refine aA rfl ?_;go_big_quiet_step (rfl))
     refine az ?_;refine aJ [] ?_;refine tail_nil ?_;have ji:=H.drew.trans (L.mono (by show i.heap.size<=wr.heap.size;have:=H.size;omega));have av:=aa (V.out.mono (af E0 L));clear q1 q2 CC E0 L;by_cases aH:0<kx
     ·have z3:decide ((0:Int)<(kx:Int))=true:=decide_eq_true (by omega);obtain⟨t1,m⟩:=ae (t+1);have e1:IntKind.i64.wrap ((t:Int)+1)=(t1:Int):=by rw[IntWalk.i64_in _ (by omega)];omega
      have j:=aa m
      have qY:=aa (show ∃G D,C=G++D/\G.length+f=t+1/\∀x∈G,0<K x from ⟨G++[x],I,by rw[aE.out];simp,by rw[List.length_append];have:=F.out;simp;omega,λy B=>by
       rcases List.mem_append.1 B with B|B
       ·exact Y.out y B
       rw[List.mem_singleton.1 B,<-KP.out];exact aH⟩)
      clear m;go_wp2_with fail;go_roundw
      case rel=>exact⟨t+1,by omega,by omega,by have:=j.out;simp;omega,qY.out,av.out,ji⟩
      case measure=>have:=j.out;simp[intOf];omega
     have z3:decide ((0:Int)<(kx:Int))=false:=decide_eq_false (by omega);have ac:kx=0:=by omega
     have ad:=aa ac;have aS:f≠cap:=by omega
     have g:=aa (show ∀d,Calls prog 206 #[.slice (some ⟨b,f,none⟩) (t-f) d,ym (.pointer (some ⟨w.heap.size,0,none⟩))] w6 λe w'=>e=.returned (.tuple #[])/\(∃M',fe K G M'/\up K M'/\bI w' b A M' (aM (x::I)++q))/\Below i.heap.size i w' from λd=>(FB hb an.out ji G (bI.split.1 (by have:=av.out;rw[Z.out] at this;exact this)) (λy B=>⟨Y.out y B,Ro.out y (by rw[Z.out];simp[B])⟩) HA.out.symm (by have:=F.out;omega) (by omega) (cap:=d)).mono λe w' ⟨h1,h2,h3⟩=>⟨h1,h2,ji.trans h3⟩);obtain⟨t1,m⟩:=ae (t+1);have e1:IntKind.i64.wrap ((t:Int)+1)=(t1:Int):=by rw[IntWalk.i64_in _ (by omega)];omega
     have j:=aa m;clear m ac;have aL:f<=t/\t<=cap:=by omega
     go_wp2_with fail;refine(g.out _).mono ?_;rintro e w8⟨rfl,⟨G',s1,s2,Fz⟩,kL⟩
     have qY:=aa (show ∃S,acG K n (t+1) S/\fe K l S/\bI w8 b [] S q from by
      refine⟨A++(G'++(x::I)),.inl ⟨by omega,A++(G'++[x]),I,by simp,?_,?_,λa ha=>?_⟩,ab.out.trans ?_,bI.split.2 Fz⟩
      ·rw[List.length_append,List.length_append,s1.len,HA.out];have:=F.out;simp;omega
      ·refine Cb J.out.1 (Sb K (BR K s2) trivial λc hc=>?_) J.out.2;cases hc;rw[<-KP.out];exact ad.out
      ·rw[show A++(G'++[x])=(A++G')++[x] by simp,List.getLast?_concat] at ha;injection ha with ha;rw[<-ha,<-KP.out];exact ad.out
      rw[Z.out]
      exact(fe.refl A).app (s1.app (fe.refl _)))
     clear s1 s2 Fz g;go_wp2_with fail;go_roundw
     case rel=>exact⟨t+1,by omega,by have:=j.out;simp;omega,qY.out,kL⟩
     case measure=>have:=j.out;simp[intOf];omega
    have z2:=gI (show n<=t by omega);obtain rfl:n=t:=by omega
    obtain rfl:D=[]:=List.length_eq_zero_iff.1 (by have:=GN.out;omega);have aS:f≠cap:=by omega
    have aL:f<=n/\n<=cap:=by omega
    have g:=aa (show ∀nq d,Calls prog 206 #[.slice (some ⟨b,f,none⟩) (n-f) d,ym (.pointer (some ⟨w.heap.size,0,none⟩))] (wr.drewN nq) λe w'=>e=.returned (.tuple #[])/\(∃M',fe K G M'/\up K M'/\bI w' b A M' (aM []++q))/\Below i.heap.size i w' from λnq d=>
     have ji:Below i.heap.size i (wr.drewN nq):=H.trans ⟨rfl,rfl,rfl,Nat.le_refl _,λ_ _=>rfl⟩
     (FB hb an.out ji G (bI.split.1 (by have:=V.out;rw[Z.out] at this;exact this.mono ⟨rfl,rfl,rfl,Nat.le_refl _,λ_ _=>rfl⟩)) (λy B=>⟨Y.out y B,Ro.out y (by rw[Z.out];simp[B])⟩) HA.out.symm (by have:=F.out;omega) (by omega) (cap:=d)).mono λe w' ⟨h1,h2,h3⟩=>⟨h1,h2,ji.trans h3⟩)
    obtain⟨t1,m⟩:=ae (n+1);have e1:IntKind.i64.wrap ((n:Int)+1)=(t1:Int):=by rw[IntWalk.i64_in _ (by omega)];omega
    have j:=aa m;clear m H;go_wp2_with fail;go_quiet (fail);go_wp2_with fail;refine(g.out _ _).mono ?_;rintro e w8⟨rfl,⟨G',s1,s2,Fz⟩,kL⟩
    have qY:=aa (show ∃S,acG K n (n+1) S/\fe K l S/\bI w8 b [] S q from by
     refine⟨A++(G'++[]),.inr ⟨rfl,?_⟩,ab.out.trans ?_,bI.split.2 Fz⟩
     ·rw[List.append_nil];exact Cb J.out.1 (BR K s2) J.out.2
     rw[Z.out]
     exact(fe.refl A).app (s1.app (fe.refl _)))
    clear s1 s2 Fz g;go_wp2_with fail;go_roundw
    case rel=>exact⟨n+1,by omega,by have:=j.out;simp;omega,qY.out,kL⟩
    case measure=>have:=j.out;simp[intOf];omega
  have z:=gI (show n<=f by omega);have ao:dJ K s:=by
   rcases hS with⟨h1,A,C,h2,h3,h4,_⟩|⟨_,h⟩
   ·have:C=[]:=by
     rw[h2,List.length_append] at u;exact List.length_eq_zero_iff.1 (by omega)
    rw[h2,this,List.append_nil];exact h4
   exact h
  have hL:s=gL K l:=by
   have h1:=Sw.2 [] [];simp only[List.nil_append,List.append_nil] at h1;rw[h1,uI K ao]
  have aX:=aa (hd.own HQ.out.1 u hb HQ.out.2);have aQ:=aa hL;clear hS Sw hd ao hL u;go_wp2_with fail;go_ret;exact⟨_,rfl,by rw[<-aQ.out];exact aT aX.out P,k.trans (H.mono P)⟩
def lW (l:List Nat):List Nat:=l.flatMap fI
def Oc (l:List Nat) (x:Nat):lW (l++[x])=lW l++fI x:=by simp[lW]
def FC (l:List Nat):(lW l).map UInt8.ofNat=dQ l:=by
 induction l with
 | nil=>rfl
 | cons c l ih=>unfold lW dQ at *;rw[List.flatMap_cons,List.flatMap_cons,List.map_append,ih];rfl
def Sy (l:List Nat):(lW l).length=(dQ l).length:=by rw[<-FC,List.length_map]
def VK (h:∀x∈l,x<1114112):∀d∈lW l,d<256:=by
 intro d hd;obtain⟨c,a,hd⟩:=List.mem_flatMap.1 hd;exact GI (h c a) d hd
def or_zero:∀c:Nat,c<128->bits .or .u8 0 (c:Int)=(c:Int):=by decide
def Sz (hH:dB w) {m:Nat} {z:List Nat} (p:w.ownsRow base tF 1 v m (mR z)) (a:base<=w.heap.size) (hm:m<10000000) (c:Nat) (hc:aP c) (h0:0<base) :
 Calls prog 129 #[v,.int .i32 c] w λe w'=>∃r,e=.returned r/\w'.ownsRow base tF 1 r (m+fH c) (mR (z++fI c))/\Below base w w':=by
 have hw:=oU c;have Uq:=hc.1;have T:=aa hH;obtain⟨n,Y⟩:=ae (fH c);have WI:=aa (show ∀W,dB W->Calls prog 131 #[.int .i32 c] W λe w'=>e=.returned (.int .i64 n)/\w'=W from λW h=>by rw[Y];exact y_ h c hc);have A:=aa Y;rw[<-Y] at hw;obtain⟨G,H,rfl,_,_⟩:=ak p;have l:=aa p;have ab:n=1\/n=2\/n=3\/n=4:=by omega
 obtain⟨S,R,k2,X,k4,V,k6,Z,U,k9,E,F⟩:=hH;clear Y hw p;rcases ab with rfl|rfl|rfl|rfl
 ·have q:=aa (show fI c=[c] from by have:=A.out;unfold fH at this;unfold fI;(repeat' split at this) <;> first|omega|simp[*]);have ac:=or_zero c (by have:=A.out;unfold fH at this;(repeat' split at this) <;> omega);go_enter func129,ntmps129;go_wp2_with fail;refine(WI.out _ T.out).mono ?_;rintro e f⟨rfl,rfl⟩;go_wp2_with fail;obtain⟨o,d⟩:=ae (f.alloc (.cells #[.int .u8 0,.int .u8 127,.int .i32 0] 225));have i:=aO d;have L:o.cell? ⟨f.heap.size,0,none⟩=some (.int .u8 0):=by rw[d];unfold World.cell?;rw[heap_alloc_new];rfl
  rw[<-d];clear d S R k2 X k4 V k6 Z U k9 E F;have g0:=Gr.cell (ag o) L;have bb:(c:Int)<128:=by have:=A.out;unfold fH at this;(repeat' split at this) <;> omega
  refine aC #[true,true,true,true,true,true,true,true,true,true,true,false,false] 11 2 mixed ?_;refine ay [0,1,2,3,4,5,6,7,8,9] 1 ?_
  iterate 10 (refine aA rfl ?_;go_big_quiet_step (rfl))
  refine az ?_;refine aI 10 ?_;go_wp2_with fail;refine aF (ah _) ?_;refine aJ [11,12] ?_;refine tail_cons rfl ?_;have b:=aa ((Below.refl f.heap.size f).trans (i.trans (ag o |>.mono i.size)));have D:=aa (aH l.out b.out);have M:=b.out.size;refine f_ (W:=o.drew) rfl _ _ 163 rfl base tF _ 1 nL (.slice G m H) m (mR z) rfl D.out _ rfl rfl (by omega) (by unfold maxLen;omega) f (b.out.mono a) a ?_;intro v4 w4 u g _ _;obtain⟨N,I,rfl,_,_⟩:=ak u;have B:=aa u;clear u D l;refine tail_cons rfl ?_;go_wp2_with fail;refine tail_nil ?_;go_wp2_with fail
  have C:=aa (show w4.ownsRow base tF 1 (.slice N (m+1) I) (m+1) (mR (z++(fI c).take 1)) from by
   have:=B.out;rw[q.out]
   simpa [mR] using this)
  go_loopw [0,7] (λJ x wr=>∃k:Nat,k+1<=1/\x=.int .i64 ((1:Int)-2-k)/\wr.ownsRow base tF 1 J (m+1+k) (mR (z++(fI c).take (k+1)))/\Below base f wr) (λ_ x _=>((intOf x)+1).toNat)
  case atStart=>exact⟨0,by decide,rfl,C.out,g⟩
  case round=>
   clear C B g b M;obtain⟨k,hk,rfl,p,s⟩:=hrel;obtain⟨G,H,rfl,_,_⟩:=ak p;have l:=aa p;have K:=s.size;clear p;have y:k=0:=by omega
   rcases y with rfl
   ·go_wp2;go_ret
    exact⟨_,rfl,by
     have:=l.out;rw[<-A.out];rw[q.out] at this⊢
     simpa [mR] using this,s⟩
 ·have q:=aa (show fI c=[192+c / 64,128+c % 64] from by have:=A.out;unfold fH at this;unfold fI;(repeat' split at this) <;> first|omega|simp[*]);go_enter func129,ntmps129;go_wp2_with fail;refine(WI.out _ T.out).mono ?_;rintro e f⟨rfl,rfl⟩;go_wp2_with fail;obtain⟨o,d⟩:=ae (f.alloc (.cells #[.int .u8 192,.int .u8 31,.int .i32 128] 225));have i:=aO d;have L:o.cell? ⟨f.heap.size,0,none⟩=some (.int .u8 192):=by rw[d];unfold World.cell?;rw[heap_alloc_new];rfl
  rw[<-d];clear d S R k2 X k4 V k6 Z U k9 E F;have g0:=Gr.cell (ag o) L;have bb:(c:Int)<2048:=by have:=A.out;unfold fH at this;(repeat' split at this) <;> omega
  refine aC #[true,true,true,true,true,true,true,true,true,true,true,false,false] 11 2 mixed ?_;refine ay [0,1,2,3,4,5,6,7,8,9] 1 ?_
  iterate 10 (refine aA rfl ?_;go_big_quiet_step (rfl))
  refine az ?_;refine aI 10 ?_;go_wp2_with fail;refine aF (ah _) ?_;refine aJ [11,12] ?_;refine tail_cons rfl ?_;have b:=aa ((Below.refl f.heap.size f).trans (i.trans (ag o |>.mono i.size)));have D:=aa (aH l.out b.out);have M:=b.out.size;refine f_ (W:=o.drew) rfl _ _ 163 rfl base tF _ 1 nL (.slice G m H) m (mR z) rfl D.out _ rfl rfl (by omega) (by unfold maxLen;omega) f (b.out.mono a) a ?_;intro v4 w4 u g _ _;obtain⟨N,I,rfl,_,_⟩:=ak u;have B:=aa u;clear u D l;refine tail_cons rfl ?_;go_wp2_with fail;refine tail_nil ?_;go_wp2_with fail
  have C:=aa (show w4.ownsRow base tF 1 (.slice N (m+1) I) (m+1) (mR (z++(fI c).take 1)) from by
   have:=B.out;rw[q.out]
   simpa [mR] using this)
  go_loopw [0,7] (λJ x wr=>∃k:Nat,k+1<=2/\x=.int .i64 ((2:Int)-2-k)/\wr.ownsRow base tF 1 J (m+1+k) (mR (z++(fI c).take (k+1)))/\Below base f wr) (λ_ x _=>((intOf x)+1).toNat)
  case atStart=>exact⟨0,by decide,rfl,C.out,g⟩
  case round=>
   clear C B g b M;obtain⟨k,hk,rfl,p,s⟩:=hrel;obtain⟨G,H,rfl,_,_⟩:=ak p;have l:=aa p;have K:=s.size;clear p;have y:k=0\/k=1:=by omega
   rcases y with rfl|rfl
   ·go_wp2_with (at_builtin;refine f_ rfl _ _ 163 rfl base tF _ 1 nL _ (m+1+0) _ rfl l.out _ rfl rfl (by omega) (by unfold maxLen;omega) f s a ?_;intro O w5 t j _ _;obtain⟨Q,P,rfl,_,_⟩:=ak t);go_roundw
    case rel=>exact⟨1,by decide,congrArg (Value.int .i64) (by omega),by
     have:=t;rw[q.out] at this⊢
     simpa [mR] using this,j⟩
    case measure=>simp[intOf]
   go_wp2;go_ret
   exact⟨_,rfl,by
    have:=l.out;rw[<-A.out];rw[q.out] at this⊢
    simpa [mR] using this,s⟩
 ·have q:=aa (show fI c=[224+c / 4096,128+c / 64 % 64,128+c % 64] from by have:=A.out;unfold fH at this;unfold fI;(repeat' split at this) <;> first|omega|simp[*]);go_enter func129,ntmps129;go_wp2_with fail;refine(WI.out _ T.out).mono ?_;rintro e f⟨rfl,rfl⟩;go_wp2_with fail;obtain⟨o,d⟩:=ae (f.alloc (.cells #[.int .u8 224,.int .u8 15,.int .i32 2048] 225));have i:=aO d;have L:o.cell? ⟨f.heap.size,0,none⟩=some (.int .u8 224):=by rw[d];unfold World.cell?;rw[heap_alloc_new];rfl
  rw[<-d];clear d S R k2 X k4 V k6 Z U k9 E F;have g0:=Gr.cell (ag o) L;have bb:(c:Int)<65536:=by have:=A.out;unfold fH at this;(repeat' split at this) <;> omega
  refine aC #[true,true,true,true,true,true,true,true,true,true,true,false,false] 11 2 mixed ?_;refine ay [0,1,2,3,4,5,6,7,8,9] 1 ?_
  iterate 10 (refine aA rfl ?_;go_big_quiet_step (rfl))
  refine az ?_;refine aI 10 ?_;go_wp2_with fail;refine aF (ah _) ?_;refine aJ [11,12] ?_;refine tail_cons rfl ?_;have b:=aa ((Below.refl f.heap.size f).trans (i.trans (ag o |>.mono i.size)));have D:=aa (aH l.out b.out);have M:=b.out.size;refine f_ (W:=o.drew) rfl _ _ 163 rfl base tF _ 1 nL (.slice G m H) m (mR z) rfl D.out _ rfl rfl (by omega) (by unfold maxLen;omega) f (b.out.mono a) a ?_;intro v4 w4 u g _ _;obtain⟨N,I,rfl,_,_⟩:=ak u;have B:=aa u;clear u D l;refine tail_cons rfl ?_;go_wp2_with fail;refine tail_nil ?_;go_wp2_with fail
  have C:=aa (show w4.ownsRow base tF 1 (.slice N (m+1) I) (m+1) (mR (z++(fI c).take 1)) from by
   have:=B.out;rw[q.out]
   simpa [mR] using this)
  go_loopw [0,7] (λJ x wr=>∃k:Nat,k+1<=3/\x=.int .i64 ((3:Int)-2-k)/\wr.ownsRow base tF 1 J (m+1+k) (mR (z++(fI c).take (k+1)))/\Below base f wr) (λ_ x _=>((intOf x)+1).toNat)
  case atStart=>exact⟨0,by decide,rfl,C.out,g⟩
  case round=>
   clear C B g b M;obtain⟨k,hk,rfl,p,s⟩:=hrel;obtain⟨G,H,rfl,_,_⟩:=ak p;have l:=aa p;have K:=s.size;clear p;have y:k=0\/k=1\/k=2:=by omega
   rcases y with rfl|rfl|rfl
   ·go_wp2_with (at_builtin;refine f_ rfl _ _ 163 rfl base tF _ 1 nL _ (m+1+0) _ rfl l.out _ rfl rfl (by omega) (by unfold maxLen;omega) f s a ?_;intro O w5 t j _ _;obtain⟨Q,P,rfl,_,_⟩:=ak t);go_roundw
    case rel=>exact⟨1,by decide,congrArg (Value.int .i64) (by omega),by
     have:=t;rw[q.out] at this⊢
     simpa [mR] using this,j⟩
    case measure=>simp[intOf]
   ·go_wp2_with (at_builtin;refine f_ rfl _ _ 163 rfl base tF _ 1 nL _ (m+1+1) _ rfl l.out _ rfl rfl (by omega) (by unfold maxLen;omega) f s a ?_;intro O w5 t j _ _;obtain⟨Q,P,rfl,_,_⟩:=ak t);go_roundw
    case rel=>exact⟨2,by decide,congrArg (Value.int .i64) (by omega),by
     have:=t;rw[q.out] at this⊢
     simpa [mR] using this,j⟩
    case measure=>simp[intOf]
   go_wp2;go_ret
   exact⟨_,rfl,by
    have:=l.out;rw[<-A.out];rw[q.out] at this⊢
    simpa [mR] using this,s⟩
 have q:=aa (show fI c=[240+c / 262144,128+c / 4096 % 64,128+c / 64 % 64,128+c % 64] from by have:=A.out;unfold fH at this;unfold fI;(repeat' split at this) <;> first|omega|simp[*]);go_enter func129,ntmps129;go_wp2_with fail;refine(WI.out _ T.out).mono ?_;rintro e f⟨rfl,rfl⟩;go_wp2_with fail;obtain⟨o,d⟩:=ae (f.alloc (.cells #[.int .u8 240,.int .u8 7,.int .i32 65536] 225));have i:=aO d;have L:o.cell? ⟨f.heap.size,0,none⟩=some (.int .u8 240):=by rw[d];unfold World.cell?;rw[heap_alloc_new];rfl
 rw[<-d];clear d S R k2 X k4 V k6 Z U k9 E F;have g0:=Gr.cell (ag o) L;refine aC #[true,true,true,true,true,true,true,true,true,true,true,false,false] 11 2 mixed ?_;refine ay [0,1,2,3,4,5,6,7,8,9] 1 ?_
 iterate 10 (refine aA rfl ?_;go_big_quiet_step (rfl))
 refine az ?_;refine aI 10 ?_;go_wp2_with fail;refine aF (ah _) ?_;refine aJ [11,12] ?_;refine tail_cons rfl ?_;have b:=aa ((Below.refl f.heap.size f).trans (i.trans (ag o |>.mono i.size)));have D:=aa (aH l.out b.out);have M:=b.out.size;refine f_ (W:=o.drew) rfl _ _ 163 rfl base tF _ 1 nL (.slice G m H) m (mR z) rfl D.out _ rfl rfl (by omega) (by unfold maxLen;omega) f (b.out.mono a) a ?_;intro v4 w4 u g _ _;obtain⟨N,I,rfl,_,_⟩:=ak u;have B:=aa u;clear u D l;refine tail_cons rfl ?_;go_wp2_with fail;refine tail_nil ?_;go_wp2_with fail
 have C:=aa (show w4.ownsRow base tF 1 (.slice N (m+1) I) (m+1) (mR (z++(fI c).take 1)) from by
  have:=B.out;rw[q.out]
  simpa [mR] using this)
 go_loopw [0,7] (λJ x wr=>∃k:Nat,k+1<=4/\x=.int .i64 ((4:Int)-2-k)/\wr.ownsRow base tF 1 J (m+1+k) (mR (z++(fI c).take (k+1)))/\Below base f wr) (λ_ x _=>((intOf x)+1).toNat)
 case atStart=>exact⟨0,by decide,rfl,C.out,g⟩
 case round=>
  clear C B g b M;obtain⟨k,hk,rfl,p,s⟩:=hrel;obtain⟨G,H,rfl,_,_⟩:=ak p;have l:=aa p;have K:=s.size;clear p;have y:k=0\/k=1\/k=2\/k=3:=by omega
  rcases y with rfl|rfl|rfl|rfl
  ·go_wp2_with (at_builtin;refine f_ rfl _ _ 163 rfl base tF _ 1 nL _ (m+1+0) _ rfl l.out _ rfl rfl (by omega) (by unfold maxLen;omega) f s a ?_;intro O w5 t j _ _;obtain⟨Q,P,rfl,_,_⟩:=ak t);go_roundw
   case rel=>exact⟨1,by decide,congrArg (Value.int .i64) (by omega),by
    have:=t;rw[q.out] at this⊢
    simpa [mR] using this,j⟩
   case measure=>simp[intOf]
  ·go_wp2_with (at_builtin;refine f_ rfl _ _ 163 rfl base tF _ 1 nL _ (m+1+1) _ rfl l.out _ rfl rfl (by omega) (by unfold maxLen;omega) f s a ?_;intro O w5 t j _ _;obtain⟨Q,P,rfl,_,_⟩:=ak t);go_roundw
   case rel=>exact⟨2,by decide,congrArg (Value.int .i64) (by omega),by
    have:=t;rw[q.out] at this⊢
    simpa [mR] using this,j⟩
   case measure=>simp[intOf]
  ·go_wp2_with (at_builtin;refine f_ rfl _ _ 163 rfl base tF _ 1 nL _ (m+1+2) _ rfl l.out _ rfl rfl (by omega) (by unfold maxLen;omega) f s a ?_;intro O w5 t j _ _;obtain⟨Q,P,rfl,_,_⟩:=ak t);go_roundw
   case rel=>exact⟨3,by decide,congrArg (Value.int .i64) (by omega),by
    have:=t;rw[q.out] at this⊢
    simpa [mR] using this,j⟩
   case measure=>simp[intOf]
  go_wp2;go_ret
  exact⟨_,rfl,by
   have:=l.out;rw[<-A.out];rw[q.out] at this⊢
   simpa [mR] using this,s⟩
def Hg (E:dB w) {L:List Nat} (t:bG w v (aM L)) (m:∀x∈L,aP x) (M:L.length<1000000) (h0:0<w.heap.size) :
 Calls prog 88 #[v] w λe w'=>e=.returned (.tuple #[.string (tx (dQ L)),.int .i64 0])/\Below w.heap.size w w':=by
 have F:=aa E;have O:=aa m;obtain⟨n,k⟩:=ae L.length;obtain⟨T,Y,rfl,_,a⟩:=bG.nN t k;rw[<-k] at M;have o:=aa k;have B:=aa a;have l:=aa (show ∀j,(lW (L.take j)).length<=4*j from λj=>by have:=Sy (L.take j);have z:=qE (L.take j);rw[List.length_take] at z;omega);have i:=aa (show(lW L).map UInt8.ofNat=dQ L/\∀d∈lW L,d<256 from ⟨FC L,VK λx h=>(m x h).1⟩);clear t a k m;go_enter func88,ntmps88;go_wp2_with fail;go_loopw [4,9] (λI p wr=>∃j:Nat,j<=n/\p=.int .i64 j/\wr.ownsRow w.heap.size tF 1 I (lW (L.take j)).length (mR (lW (L.take j)))/\Below w.heap.size w wr) (λ_ p _=>n-(intOf p).toNat)
 case atStart=>exact⟨0,Nat.zero_le _,rfl,World.ownsRow_nil _ _ _ _,Below.refl _ _⟩
 case round=>
  obtain⟨j,U,rfl,f,g⟩:=hrel;obtain⟨Z,A,rfl,_,_⟩:=ak f;by_cases D:j<n
  ·have c:j<L.length:=by have:=o.out;omega
   obtain⟨b,off,rfl,_,u⟩:=B.out j c;have u:=aB g u;have a:=O.out _ (List.getElem_mem c);have G:=aa (show lW (L.take (j+1))=lW (L.take j)++fI L[j] from by rw[List.take_succ_eq_append_getElem c,Oc]);have K:=l.out j;have y:=F.out.mono g;generalize L[j]=x at *;generalize lW (L.take j)=S at *;have N:=a.1;have C:=aa (show ∀W,Calls prog 96 #[.int .i32 x] W λe w'=>e=.returned (.bool true)/\w'=W from λW=>by have:=gZ (w:=W) x (by omega);rwa [decide_eq_true a] at this);have H:=aa (Sz y f g.size (by omega) x a h0);clear f a y;go_wp2_with fail;refine(C.out _).mono ?_;rintro e R⟨rfl,rfl⟩;go_wp2_with fail;refine H.out.mono ?_;rintro e X⟨V,rfl,s,J⟩;obtain⟨Q,P,rfl,_,_⟩:=ak s;go_wp2;go_roundw
   case rel=>exact⟨j+1,by omega,rfl,by rw[G.out,List.length_append,A9];exact s,g.trans J⟩
   case measure=>simp[intOf];omega
  obtain rfl:n=j:=by omega
  rw[List.take_of_length_le (by rw[o.out];exact Nat.le_refl _)] at f;have q:=A7 (Sl.aU f).any i.out.2;rw[Nn,i.out.1] at q;clear f;have r:(L.take n)=L:=List.take_of_length_le (by rw[o.out];exact Nat.le_refl _);rw[r];clear r;go_wp2;go_ret2;exact⟨rfl,g⟩
def bG.Hl (h:bG w v (aM l)) (c:n=l.length):∃a cap,v=.slice a n cap/\n<=cap/\
 ∀i (d:i<l.length),∃b off,a=some ⟨b,off,none⟩/\b<w.heap.size/\w.cell? ⟨b,off+i,none⟩=some (.int .i32 (l[i]:Nat)):=Go.Cd.bG.nN h c
def yw {F:Nat->List Nat} {j:Nat} (a:j<l.length):(l.take (j+1)).flatMap F=(l.take j).flatMap F++F l[j]:=by
 rw[List.take_succ_eq_append_getElem a,List.flatMap_append];simp
def wQ (F:Nat->List Nat) (l:List Nat) (j:Nat):((l.take j).flatMap F).length<=(l.flatMap F).length:=by
 conv=>rhs;rw[<-List.take_append_drop j l,List.flatMap_append,List.length_append]
 omega
def KY (h:cK w p T X) (y:aY T X) (N:T.length<1000) (l:List Nat) (L:bG w v (aM l)) (z:∀c∈l,c<1114112) (B:l.length<3000) :
 Calls prog 170 #[.pointer (some ⟨p,0,none⟩),v] w λe w'=>∃r,e=.returned r/\w'.ownsRow w.heap.size aN 1 r (l.flatMap (aD T)).length (aM (l.flatMap (aD T)))/\Below w.heap.size w w':=by
 obtain⟨n,u⟩:=ae l.length;obtain⟨a,cap,rfl,Q,I⟩:=bG.Hl L u;have Z:=aa I;have HC:=aa z;have G:=aa u;have Y:=aa (jJ y l);have FU:=aa (λ(W:World) (E:Below w.heap.size w W) c (z:c<1114112)=>pG (h.mono E) y N c z);have:=aa (λc=>il y c);rw[<-u] at B;clear h y N L z I u;go_enter func170,ntmps170;go_wp2_with fail;go_loopw [5,10] (λov H wr=>∃j:Nat,j<=n/\H=.int .i64 j/\wr.ownsRow w.heap.size aN 1 ov ((l.take j).flatMap (aD T)).length (aM ((l.take j).flatMap (aD T)))/\Below w.heap.size w wr) (λ_ H _=>n-(intOf H).toNat)
 case atStart=>exact⟨0,Nat.zero_le _,rfl,World.ownsRow_nil _ _ _ _,Below.refl _ _⟩
 case round=>
  obtain⟨j,hj,rfl,q,t⟩:=hrel;by_cases ab:j<n
  ·have zj:=eG (show j<n by omega);have d:j<l.length:=by have:=G.out;omega
   obtain⟨b,off,rfl,ac,f⟩:=Z.out j d;have c0:=aB t f;clear f;have m:=HC.out _ (List.getElem_mem d);obtain⟨x,s⟩:=ae (l[j]);rw[<-s] at c0 m;have O:=aa (FU.out wr t x m);have HT:=aa (show(l.take (j+1)).flatMap (aD T)=(l.take j).flatMap (aD T)++aD T x from by rw[yw d,<-s])
   have P:=aa (show((l.take j).flatMap (aD T)).length+(aD T x).length<=32*n from by
    have h1:=wQ (aD T) l (j+1);rw[yw d,<-s,List.length_append] at h1;have S:=Y.out;rw[<-G.out] at S
    omega)
   have F:=aa q;clear s q;go_wp2_with fail;refine O.out.mono ?_;rintro e w6⟨r,rfl,D,o⟩;have J:=af t o;have C:=aH F.out o;have g:=J.size;have i:=(Sl.aU D).any;obtain⟨ra,Vd,rfl,_,_⟩:=ak D;clear D O;go_wp2_with (refine bR (w:=w6) rfl _ _ 35 rfl w.heap.size aN (.int .i32 0) 4 bW _ _ _ rfl C _ _ rfl i (gJ _) (by rw[bF];have:=P.out;unfold maxLen;omega) (by rw[bF];have:=P.out;omega) g ?_;intro U w7 K M);have uK:=J.grown M g (λk V=>(C.lt k V).1)
   have A:=aa (show w7.ownsRow w.heap.size aN 1 U ((l.take (j+1)).flatMap (aD T)).length (aM ((l.take (j+1)).flatMap (aD T))) from by
    rw[HT.out,a_,List.length_append]
    simpa using K)
   clear K M i C;go_wp2_with fail;go_roundw
   case rel=>exact⟨j+1,by omega,by simp,A.out,uK⟩
   case measure=>simp[intOf];omega
  have zj:=gI (show n<=j by omega);obtain rfl:j=n:=by omega
  have R:l.take j=l:=List.take_of_length_le (by rw[G.out];exact Nat.le_refl _);rw[R] at q;have F:=aa q;clear q R;go_wp2_with fail;go_ret;exact⟨_,rfl,F.out,t⟩
def KZ (h:cK w p T X) (f:aY T X) (A:T.length<1000) (l:List Nat) (n:bG w v (aM l)) (k:∀c∈l,aP c) (i:l.length<3000) :
 Calls prog 128 #[.pointer (some ⟨p,0,none⟩),v] w λe w'=>∃r,e=.returned r/\w'.ownsRow w.heap.size aN 1 r (gQ T l).length (aM (gQ T l))/\Below w.heap.size w w':=by
 have x:=aa (KY h f A l n (λc b=>(k c b).1) i);have m:=jJ f l
 have s:=aa (λ(W:World) (E:Below w.heap.size w W) (u:Value) (q:W.ownsRow w.heap.size aN 1 u (l.flatMap (aD T)).length (aM (l.flatMap (aD T))))=>VH (w:=W) (h.mono E) f (l.flatMap (aD T)) (Sl.aU q) (fU.aU q) (λc b=>by
  obtain⟨y,z,b⟩:=List.mem_flatMap.1 b
  exact(ow f (k y z) b).1) (by omega))
 have C:=aa (show(gQ T l).length=(l.flatMap (aD T)).length from KV _ _);clear h n k m;go_enter func128,ntmps128;go_wp2_with fail;refine x.out.mono ?_;rintro e B⟨r,rfl,o,a⟩;have g:=aa (s.out B a r o);clear o;go_wp2_with fail;refine g.out.mono ?_;rintro e D⟨F,rfl,d,j⟩;have t:=aa d;clear d;go_wp2_with fail;go_ret;exact⟨_,rfl,by rw[C.out];exact aT t.out a.size,af a j⟩
def qZ (d:aY T X) (a:∀c∈l,aP c):∀c∈gQ T l,aP c:=λc h=>by
 obtain⟨y,e,b⟩:=List.mem_flatMap.1 ((KW _).1 h);exact ow d (a y e) b
def wR (T:List aG) (l:List Nat):(gQ T l).length=(l.flatMap (aD T)).length:=KV _ _
def K5 (Q:nk w) (h:cK w p T X) (L:aY T X) (P:T.length<1000) (l:List Nat) (v:∀c∈l,aP c) (d:(l.flatMap (aD T)).length<=1024) :
 Calls prog 87 #[.pointer (some ⟨p,0,none⟩),.string (tx (dQ l))] w λe w'=>∃r,e=.returned (.tuple #[r,.int .i64 0])/\w'.ownsRow w.heap.size aN 1 r (gQ T l).length (aM (gQ T l))/\Below w.heap.size w w':=by
 have I:l.length<=1024:=by
  have key:∀l:List Nat,l.length<=(l.flatMap (aD T)).length:=λl=>by
   induction l with
   | nil=>simp
   | cons c l ih=>
     rw[List.flatMap_cons,List.length_append,List.length_cons];have:=List.length_pos_iff.2 (pF T c);omega
  exact Nat.le_trans (key l) d
 have F:=aa (vX Q.heads l v (by omega));have FU:=aa (λ(W:World) (E:Below w.heap.size w W) c (v:c<1114112)=>pG (h.mono E) L P c v);have CH:=aa (λ(W:World) (E:Below w.heap.size w W) (u:Value) (hu:bG W u (aM l))=>KZ (w:=W) (h.mono E) L P l hu v (by omega));have HC:=aa v;have B:=aa d;have:=aa (wR T l);obtain⟨s,V⟩:=ae (tx (dQ l));rw[<-V] at F⊢;obtain⟨n,M⟩:=ae l.length;have U:=aa M;rw[<-M] at I F;clear Q h L P v d V M;go_enter func87,ntmps87;go_wp2_with fail;refine F.out.mono ?_;rintro e Y⟨r,rfl,i,f⟩;have o:=(Sl.aU i).any;have N:=aa o;obtain⟨a,cap,J,Z,S⟩:=bG.Hl o U.out;subst J;have HX:=aa S;clear i o S F;go_wp2_with fail;go_loopw [8,21] (λkv O wr=>∃j k:Nat,j<=n/\O=.int .i64 j/\kv=.int .i64 k/\k=((l.take j).flatMap (aD T)).length/\Below Y.heap.size Y wr) (λ_ O _=>n-(intOf O).toNat)
 case atStart=>exact⟨0,0,Nat.zero_le _,rfl,rfl,rfl,Below.refl _ _⟩
 case round=>
  obtain⟨j,k,hj,rfl,rfl,R,g⟩:=hrel;have HK:=aa R;clear R;by_cases ac:j<n
  ·have zj:=eG (show j<n by omega);have t:j<l.length:=by have:=U.out;omega
   obtain⟨b,off,rfl,ag,y⟩:=HX.out j t;have c0:=aB g y;clear y;have C:=(HC.out _ (List.getElem_mem t)).1;obtain⟨x,H⟩:=ae (l[j]);rw[<-H] at c0 C;have G:=aa (FU.out wr (af f g) x C);obtain⟨m,K⟩:=ae ((aD T x).length);obtain⟨A,D⟩:=ae (k+m);have z:A=((l.take (j+1)).flatMap (aD T)).length:=by rw[D,K,HK.out,yw t,<-H,List.length_append]
   have:A<=1024:=by
    have:=wQ (aD T) l (j+1);have:=B.out;omega
   have:IntKind.i64.wrap ((k:Int)+(m:Int))=(A:Int):=by rw[IntWalk.i64_in _ (by omega)];omega
   have Oa:=aa z;have Rt:=aa K;have:k<=1024/\m<=1024:=by omega
   have:decide ((1024:Int)<(A:Int))=false:=decide_eq_false (by omega);clear H K z D;go_wp2_with fail;refine G.out.mono ?_;rintro e w6⟨r,rfl,i,q⟩;obtain⟨ra,Vd,rfl,_,_⟩:=ak i;rw[<-Rt.out];clear i G;go_wp2_with fail;go_roundw
   case rel=>exact⟨j+1,A,by omega,by simp,rfl,Oa.out,g.trans (q.mono g.size)⟩
   case measure=>simp[intOf];omega
  have zj:=gI (show n<=j by omega);obtain rfl:n=j:=by omega
  have G:=aa (CH.out wr (af f g) _ (bG.mono N.out g));clear CH;go_wp2_with fail;refine G.out.mono ?_;rintro e w6⟨r,rfl,i,q⟩;have HR:=aa i;clear i;go_wp2_with fail;go_ret2;exact⟨_,rfl,aT HR.out (af f g).size,af (af f g) q⟩
def VM (f:nk w) (h0:0<w.heap.size) (h:cK w p T X) (j:aY T X) (q:T.length<1000) (l:List Nat) (k:∀c∈l,aP c) (a:(l.flatMap (aD T)).length<=1024) :
 Calls prog 56 #[.pointer (some ⟨p,0,none⟩),.string (tx (dQ l))] w λe w'=>e=.returned (.tuple #[.string (tx (dQ (gQ T l))),.int .i64 0])/\Below w.heap.size w w':=by
 have i:=aa (K5 f h j q l k a);have m:=aa (λ(W:World) (E:Below w.heap.size w W) (u:Value) (x:bG W u (aM (gQ T l)))=>Hg (f.mono E).heads x (qZ j k) (by rw[wR];omega) (by have:=E.size;omega));obtain⟨s,o⟩:=ae (tx (dQ l));obtain⟨s2,d⟩:∃s,s=tx (dQ (gQ T l)):=⟨_,rfl⟩;rw[<-o] at i⊢;rw[<-d] at m⊢;clear f h j q k a o d;go_enter func56,ntmps56;go_wp2_with fail;refine i.out.mono ?_;rintro e t⟨r,rfl,n,b⟩;have v:=aa (m.out t b r (Sl.aU n).any);clear n i m;go_wp2_with fail;refine v.out.mono ?_;rintro e y⟨rfl,g⟩;go_wp2_with fail;go_ret2;exact⟨rfl,af b g⟩
end Go.Proofs.YtmnimbnojdndmaaGreatDoor
