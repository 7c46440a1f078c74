/- State by state it is added up what is possible; no condition. -/
import Derived.Test.YtmnimbnojdndmaaGreatDoorS16
set_option maxRecDepth 100000
set_option maxHeartbeats 6400000
set_option linter.all false
namespace Go.Proofs.YtmnimbnojdndmaaGreatDoor
open Go.RowKit Go.Cd _root_.Go.Proofs.Tryz
variable {l X:List Nat} {w:World} {v:Value} {p:Nat} {T:List aG}
def lW (l:List Nat):List Nat:=l.flatMap fI
def Oc (l:List Nat) (x:Nat):lW (l++[x])=lW l++fI x:=by simp[lW]
def FC (l:List Nat):(lW l).map UInt8.ofNat=dQ l:=by
 induction l with
 | nil=>rfl
 | cons c l ih=>unfold lW dQ at *;rw[jx,jx,j5,ih];rfl
def Sy (l:List Nat):(lW l).length=(dQ l).length:=by rw[<-FC,iz]
def VK (h:∀x∈l,x<1114112):∀d∈lW l,d<256:=by
 intro d hd;obtain⟨c,a,hd⟩:=lP.1 hd;exact GI (h c a) d hd
def or_zero:∀c:Nat,c<128->bits .or .u8 0 (c:Int)=(c:Int):=by decide
def Sz (hH:dB w) {base m:Nat} {z:List Nat} (p:w.ownsRow base tF 1 v m (mR z)) (a:base<=w.heap.size) (hm:m<10000000) (c:Nat) (hc:aP c) (h0:0<base) :
 Calls prog 129 #[v,.int .i32 c] w λe w'=>∃r,e=.returned r/\w'.ownsRow base tF 1 r (m+fH c) (mR (z++fI c))/\Below base w w':=by
 have hw:=oU c;have Uq:=hc.1;have X:=aa hH;obtain⟨n,hn⟩:=ae (fH c);have S:=aa (show ∀W,dB W->Calls prog 131 #[.int .i32 c] W λe w'=>e=.returned (.int .i64 n)/\w'=W from λW h=>by rw[hn];exact y_ h c hc);have A:=aa hn;rw[<-hn] at hw;obtain⟨H,G,rfl,_,_⟩:=ak p;have l:=aa p;have ab:n=1\/n=2\/n=3\/n=4:=by omega
 obtain⟨V,U,k2,Y,k4,Z,k6,T,k8,R,F,E⟩:=hH;clear hn hw p;rcases ab with rfl|rfl|rfl|rfl
 ·have s:=aa (show fI c=[c] from by have:=A.out;unfold fH at this;unfold fI;(repeat' split at this) <;> first|omega|simp[*]);have ac:=or_zero c (by have:=A.out;unfold fH at this;(repeat' split at this) <;> omega);go_enter func129,ntmps129;go_wp2_with fail;refine(S.out _ X.out).mono ?_;rintro e f⟨rfl,rfl⟩;go_wp2_with fail;obtain⟨o,b⟩:=ae (f.alloc (.cells #[.int .u8 0,.int .u8 127,.int .i32 0] 225));have g:=aO b;have I:o.cell? ⟨f.heap.size,0,none⟩=some (.int .u8 0):=by rw[b];unfold World.cell?;rw[heap_alloc_new];rfl
  rw[<-b];clear b V U k2 Y k4 Z k6 T k8 R F E;have g0:=Gr.cell (ag o) I;have bb:(c:Int)<128:=by have:=A.out;unfold fH at this;(repeat' split at this) <;> omega
  refine aC #[true,true,true,true,true,true,true,true,true,true,true,false,false] 11 2 mixed ?_;refine ay [0,1,2,3,4,5,6,7,8,9] 1 ?_
  iterate 10 (refine aA rfl ?_;go_big_quiet_step (rfl))
  refine az ?_;refine aI 10 ?_;go_wp2_with fail;refine aF (ah _) ?_;refine aJ [11,12] ?_;refine tail_cons rfl ?_;have d:=aa ((gS f.heap.size f).trans (g.trans (ag o |>.mono g.size)));have B:=aa (aH l.out d.out);have J:=d.out.size;refine f_ (W:=o.drew) rfl _ _ 163 rfl base tF _ 1 nL (.slice H m G) m (mR z) rfl B.out _ rfl rfl (by omega) (by unfold maxLen;omega) f (d.out.mono a) a ?_;intro v4 w4 y j _ _;obtain⟨N,L,rfl,_,_⟩:=ak y;have D:=aa y;clear y B l;refine tail_cons rfl ?_;go_wp2_with fail;refine tail_nil ?_;go_wp2_with fail
  have C:=aa (show w4.ownsRow base tF 1 (.slice N (m+1) L) (m+1) (mR (z++(fI c).take 1)) from by
   have:=D.out;rw[s.out]
   simpa [mR] using this)
  go_loopw [0,7] (λM u wr=>∃k:Nat,k+1<=1/\u=.int .i64 ((1:Int)-2-k)/\wr.ownsRow base tF 1 M (m+1+k) (mR (z++(fI c).take (k+1)))/\Below base f wr) (λ_ u _=>((intOf u)+1).toNat)
  case atStart=>exact⟨0,by decide,rfl,C.out,j⟩
  case round=>
   clear C D j d J;obtain⟨k,hk,rfl,p,q⟩:=hrel;obtain⟨H,G,rfl,_,_⟩:=ak p;have l:=aa p;have K:=q.size;clear p;have x:k=0:=by omega
   rcases x with rfl
   ·go_wp2;go_ret
    exact⟨_,rfl,by
     have:=l.out;rw[<-A.out];rw[s.out] at this⊢
     simpa [mR] using this,q⟩
 ·have s:=aa (show fI c=[192+c / 64,128+c % 64] from by have:=A.out;unfold fH at this;unfold fI;(repeat' split at this) <;> first|omega|simp[*]);go_enter func129,ntmps129;go_wp2_with fail;refine(S.out _ X.out).mono ?_;rintro e f⟨rfl,rfl⟩;go_wp2_with fail;obtain⟨o,b⟩:=ae (f.alloc (.cells #[.int .u8 192,.int .u8 31,.int .i32 128] 225));have g:=aO b;have I:o.cell? ⟨f.heap.size,0,none⟩=some (.int .u8 192):=by rw[b];unfold World.cell?;rw[heap_alloc_new];rfl
  rw[<-b];clear b V U k2 Y k4 Z k6 T k8 R F E;have g0:=Gr.cell (ag o) I;have bb:(c:Int)<2048:=by have:=A.out;unfold fH at this;(repeat' split at this) <;> omega
  refine aC #[true,true,true,true,true,true,true,true,true,true,true,false,false] 11 2 mixed ?_;refine ay [0,1,2,3,4,5,6,7,8,9] 1 ?_
  iterate 10 (refine aA rfl ?_;go_big_quiet_step (rfl))
  refine az ?_;refine aI 10 ?_;go_wp2_with fail;refine aF (ah _) ?_;refine aJ [11,12] ?_;refine tail_cons rfl ?_;have d:=aa ((gS f.heap.size f).trans (g.trans (ag o |>.mono g.size)));have B:=aa (aH l.out d.out);have J:=d.out.size;refine f_ (W:=o.drew) rfl _ _ 163 rfl base tF _ 1 nL (.slice H m G) m (mR z) rfl B.out _ rfl rfl (by omega) (by unfold maxLen;omega) f (d.out.mono a) a ?_;intro v4 w4 y j _ _;obtain⟨N,L,rfl,_,_⟩:=ak y;have D:=aa y;clear y B l;refine tail_cons rfl ?_;go_wp2_with fail;refine tail_nil ?_;go_wp2_with fail
  have C:=aa (show w4.ownsRow base tF 1 (.slice N (m+1) L) (m+1) (mR (z++(fI c).take 1)) from by
   have:=D.out;rw[s.out]
   simpa [mR] using this)
  go_loopw [0,7] (λM u wr=>∃k:Nat,k+1<=2/\u=.int .i64 ((2:Int)-2-k)/\wr.ownsRow base tF 1 M (m+1+k) (mR (z++(fI c).take (k+1)))/\Below base f wr) (λ_ u _=>((intOf u)+1).toNat)
  case atStart=>exact⟨0,by decide,rfl,C.out,j⟩
  case round=>
   clear C D j d J;obtain⟨k,hk,rfl,p,q⟩:=hrel;obtain⟨H,G,rfl,_,_⟩:=ak p;have l:=aa p;have K:=q.size;clear p;have x:k=0\/k=1:=by omega
   rcases x with rfl|rfl
   ·go_wp2_with (at_builtin;refine f_ rfl _ _ 163 rfl base tF _ 1 nL _ (m+1+0) _ rfl l.out _ rfl rfl (by omega) (by unfold maxLen;omega) f q a ?_;intro P w5 t i _ _;obtain⟨O,Q,rfl,_,_⟩:=ak t);go_roundw
    case rel=>exact⟨1,by decide,congrArg (Value.int .i64) (by omega),by
     have:=t;rw[s.out] at this⊢
     simpa [mR] using this,i⟩
    case measure=>simp[intOf]
   go_wp2;go_ret
   exact⟨_,rfl,by
    have:=l.out;rw[<-A.out];rw[s.out] at this⊢
    simpa [mR] using this,q⟩
 ·have s:=aa (show fI c=[224+c / 4096,128+c / 64 % 64,128+c % 64] from by have:=A.out;unfold fH at this;unfold fI;(repeat' split at this) <;> first|omega|simp[*]);go_enter func129,ntmps129;go_wp2_with fail;refine(S.out _ X.out).mono ?_;rintro e f⟨rfl,rfl⟩;go_wp2_with fail;obtain⟨o,b⟩:=ae (f.alloc (.cells #[.int .u8 224,.int .u8 15,.int .i32 2048] 225));have g:=aO b;have I:o.cell? ⟨f.heap.size,0,none⟩=some (.int .u8 224):=by rw[b];unfold World.cell?;rw[heap_alloc_new];rfl
  rw[<-b];clear b V U k2 Y k4 Z k6 T k8 R F E;have g0:=Gr.cell (ag o) I;have bb:(c:Int)<65536:=by have:=A.out;unfold fH at this;(repeat' split at this) <;> omega
  refine aC #[true,true,true,true,true,true,true,true,true,true,true,false,false] 11 2 mixed ?_;refine ay [0,1,2,3,4,5,6,7,8,9] 1 ?_
  iterate 10 (refine aA rfl ?_;go_big_quiet_step (rfl))
  refine az ?_;refine aI 10 ?_;go_wp2_with fail;refine aF (ah _) ?_;refine aJ [11,12] ?_;refine tail_cons rfl ?_;have d:=aa ((gS f.heap.size f).trans (g.trans (ag o |>.mono g.size)));have B:=aa (aH l.out d.out);have J:=d.out.size;refine f_ (W:=o.drew) rfl _ _ 163 rfl base tF _ 1 nL (.slice H m G) m (mR z) rfl B.out _ rfl rfl (by omega) (by unfold maxLen;omega) f (d.out.mono a) a ?_;intro v4 w4 y j _ _;obtain⟨N,L,rfl,_,_⟩:=ak y;have D:=aa y;clear y B l;refine tail_cons rfl ?_;go_wp2_with fail;refine tail_nil ?_;go_wp2_with fail
  have C:=aa (show w4.ownsRow base tF 1 (.slice N (m+1) L) (m+1) (mR (z++(fI c).take 1)) from by
   have:=D.out;rw[s.out]
   simpa [mR] using this)
  go_loopw [0,7] (λM u wr=>∃k:Nat,k+1<=3/\u=.int .i64 ((3:Int)-2-k)/\wr.ownsRow base tF 1 M (m+1+k) (mR (z++(fI c).take (k+1)))/\Below base f wr) (λ_ u _=>((intOf u)+1).toNat)
  case atStart=>exact⟨0,by decide,rfl,C.out,j⟩
  case round=>
   clear C D j d J;obtain⟨k,hk,rfl,p,q⟩:=hrel;obtain⟨H,G,rfl,_,_⟩:=ak p;have l:=aa p;have K:=q.size;clear p;have x:k=0\/k=1\/k=2:=by omega
   rcases x with rfl|rfl|rfl
   ·go_wp2_with (at_builtin;refine f_ rfl _ _ 163 rfl base tF _ 1 nL _ (m+1+0) _ rfl l.out _ rfl rfl (by omega) (by unfold maxLen;omega) f q a ?_;intro P w5 t i _ _;obtain⟨O,Q,rfl,_,_⟩:=ak t);go_roundw
    case rel=>exact⟨1,by decide,congrArg (Value.int .i64) (by omega),by
     have:=t;rw[s.out] at this⊢
     simpa [mR] using this,i⟩
    case measure=>simp[intOf]
   ·go_wp2_with (at_builtin;refine f_ rfl _ _ 163 rfl base tF _ 1 nL _ (m+1+1) _ rfl l.out _ rfl rfl (by omega) (by unfold maxLen;omega) f q a ?_;intro P w5 t i _ _;obtain⟨O,Q,rfl,_,_⟩:=ak t);go_roundw
    case rel=>exact⟨2,by decide,congrArg (Value.int .i64) (by omega),by
     have:=t;rw[s.out] at this⊢
     simpa [mR] using this,i⟩
    case measure=>simp[intOf]
   go_wp2;go_ret
   exact⟨_,rfl,by
    have:=l.out;rw[<-A.out];rw[s.out] at this⊢
    simpa [mR] using this,q⟩
 have s:=aa (show fI c=[240+c / 262144,128+c / 4096 % 64,128+c / 64 % 64,128+c % 64] from by have:=A.out;unfold fH at this;unfold fI;(repeat' split at this) <;> first|omega|simp[*]);go_enter func129,ntmps129;go_wp2_with fail;refine(S.out _ X.out).mono ?_;rintro e f⟨rfl,rfl⟩;go_wp2_with fail;obtain⟨o,b⟩:=ae (f.alloc (.cells #[.int .u8 240,.int .u8 7,.int .i32 65536] 225));have g:=aO b;have I:o.cell? ⟨f.heap.size,0,none⟩=some (.int .u8 240):=by rw[b];unfold World.cell?;rw[heap_alloc_new];rfl
 rw[<-b];clear b V U k2 Y k4 Z k6 T k8 R F E;have g0:=Gr.cell (ag o) I;refine aC #[true,true,true,true,true,true,true,true,true,true,true,false,false] 11 2 mixed ?_;refine ay [0,1,2,3,4,5,6,7,8,9] 1 ?_
 iterate 10 (refine aA rfl ?_;go_big_quiet_step (rfl))
 refine az ?_;refine aI 10 ?_;go_wp2_with fail;refine aF (ah _) ?_;refine aJ [11,12] ?_;refine tail_cons rfl ?_;have d:=aa ((gS f.heap.size f).trans (g.trans (ag o |>.mono g.size)));have B:=aa (aH l.out d.out);have J:=d.out.size;refine f_ (W:=o.drew) rfl _ _ 163 rfl base tF _ 1 nL (.slice H m G) m (mR z) rfl B.out _ rfl rfl (by omega) (by unfold maxLen;omega) f (d.out.mono a) a ?_;intro v4 w4 y j _ _;obtain⟨N,L,rfl,_,_⟩:=ak y;have D:=aa y;clear y B l;refine tail_cons rfl ?_;go_wp2_with fail;refine tail_nil ?_;go_wp2_with fail
 have C:=aa (show w4.ownsRow base tF 1 (.slice N (m+1) L) (m+1) (mR (z++(fI c).take 1)) from by
  have:=D.out;rw[s.out]
  simpa [mR] using this)
 go_loopw [0,7] (λM u wr=>∃k:Nat,k+1<=4/\u=.int .i64 ((4:Int)-2-k)/\wr.ownsRow base tF 1 M (m+1+k) (mR (z++(fI c).take (k+1)))/\Below base f wr) (λ_ u _=>((intOf u)+1).toNat)
 case atStart=>exact⟨0,by decide,rfl,C.out,j⟩
 case round=>
  clear C D j d J;obtain⟨k,hk,rfl,p,q⟩:=hrel;obtain⟨H,G,rfl,_,_⟩:=ak p;have l:=aa p;have K:=q.size;clear p;have x:k=0\/k=1\/k=2\/k=3:=by omega
  rcases x with rfl|rfl|rfl|rfl
  ·go_wp2_with (at_builtin;refine f_ rfl _ _ 163 rfl base tF _ 1 nL _ (m+1+0) _ rfl l.out _ rfl rfl (by omega) (by unfold maxLen;omega) f q a ?_;intro P w5 t i _ _;obtain⟨O,Q,rfl,_,_⟩:=ak t);go_roundw
   case rel=>exact⟨1,by decide,congrArg (Value.int .i64) (by omega),by
    have:=t;rw[s.out] at this⊢
    simpa [mR] using this,i⟩
   case measure=>simp[intOf]
  ·go_wp2_with (at_builtin;refine f_ rfl _ _ 163 rfl base tF _ 1 nL _ (m+1+1) _ rfl l.out _ rfl rfl (by omega) (by unfold maxLen;omega) f q a ?_;intro P w5 t i _ _;obtain⟨O,Q,rfl,_,_⟩:=ak t);go_roundw
   case rel=>exact⟨2,by decide,congrArg (Value.int .i64) (by omega),by
    have:=t;rw[s.out] at this⊢
    simpa [mR] using this,i⟩
   case measure=>simp[intOf]
  ·go_wp2_with (at_builtin;refine f_ rfl _ _ 163 rfl base tF _ 1 nL _ (m+1+2) _ rfl l.out _ rfl rfl (by omega) (by unfold maxLen;omega) f q a ?_;intro P w5 t i _ _;obtain⟨O,Q,rfl,_,_⟩:=ak t);go_roundw
   case rel=>exact⟨3,by decide,congrArg (Value.int .i64) (by omega),by
    have:=t;rw[s.out] at this⊢
    simpa [mR] using this,i⟩
   case measure=>simp[intOf]
  go_wp2;go_ret
  exact⟨_,rfl,by
   have:=l.out;rw[<-A.out];rw[s.out] at this⊢
   simpa [mR] using this,q⟩
def Hg (C:dB w) {L:List Nat} (y:bG w v (aM L)) (m:∀x∈L,aP x) (F:L.length<1000000) (h0:0<w.heap.size) :
 Calls prog 88 #[v] w λe w'=>e=.returned (.tuple #[.string (tx (dQ L)),.int .i64 0])/\Below w.heap.size w w':=by
 have H:=aa C;have G:=aa m;obtain⟨n,k⟩:=ae L.length;obtain⟨T,Z,rfl,_,a⟩:=bG.nN y k;rw[<-k] at F;have o:=aa k;have O:=aa a;have q:=aa (show ∀j,(lW (L.take j)).length<=4*j from λj=>by have:=Sy (L.take j);have M:=qE (L.take j);rw[jn] at M;omega);have i:=aa (show(lW L).map UInt8.ofNat=dQ L/\∀d∈lW L,d<256 from ⟨FC L,VK λx h=>(m x h).1⟩);clear y a k m;go_enter func88,ntmps88;go_wp2_with fail;go_loopw [4,9] (λA l wr=>∃j:Nat,j<=n/\l=.int .i64 j/\wr.ownsRow w.heap.size tF 1 A (lW (L.take j)).length (mR (lW (L.take j)))/\Below w.heap.size w wr) (λ_ l _=>n-(intOf l).toNat)
 case atStart=>exact⟨0,ic _,rfl,iS _ _ _ _,gS _ _⟩
 case round=>
  obtain⟨j,X,rfl,f,g⟩:=hrel;obtain⟨P,I,rfl,_,_⟩:=ak f;by_cases N:j<n
  ·have c:j<L.length:=by have:=o.out;omega
   obtain⟨b,off,rfl,_,t⟩:=O.out j c;have t:=aB g t;have a:=G.out _ (gw c);have K:=aa (show lW (L.take (j+1))=lW (L.take j)++fI L[j] from by rw[gR c,Oc]);have D:=q.out j;have u:=H.out.mono g;generalize L[j]=x at *;generalize lW (L.take j)=S at *;have J:=a.1;have E:=aa (show ∀W,Calls prog 96 #[.int .i32 x] W λe w'=>e=.returned (.bool true)/\w'=W from λW=>by have:=gZ (w:=W) x (by omega);rwa [decide_eq_true a] at this);have z:=aa (Sz u f g.size (by omega) x a h0);clear f a u;go_wp2_with fail;refine(E.out _).mono ?_;rintro e V⟨rfl,rfl⟩;go_wp2_with fail;refine z.out.mono ?_;rintro e Q⟨Y,rfl,r,B⟩;obtain⟨U,R,rfl,_,_⟩:=ak r;go_wp2;go_roundw
   case rel=>exact⟨j+1,by omega,rfl,by rw[K.out,gn,A9];exact r,g.trans B⟩
   case measure=>simp[intOf];omega
  obtain rfl:n=j:=by omega
  rw[iu (by rw[o.out];exact d' _)] at f;have p:=A7 (Sl.aU f).any i.out.2;rw[Nn,i.out.1] at p;clear f;have s:(L.take n)=L:=iu (by rw[o.out];exact d' _);rw[s];clear s;go_wp2;go_ret2;exact⟨rfl,g⟩
def bG.Hl {n:Nat} (h:bG w v (aM l)) (c:n=l.length):∃a cap,v=.slice a n cap/\n<=cap/\
 ∀i (d:i<l.length),∃b off,a=some ⟨b,off,none⟩/\b<w.heap.size/\w.cell? ⟨b,off+i,none⟩=some (.int .i32 (l[i]:Nat)):=Go.Cd.bG.nN h c
def yw {F:Nat->List Nat} {j:Nat} (a:j<l.length):(l.take (j+1)).flatMap F=(l.take j).flatMap F++F l[j]:=by
 rw[gR a,j7];simp
def wQ (F:Nat->List Nat) (l:List Nat) (j:Nat):((l.take j).flatMap F).length<=(l.flatMap F).length:=by
 conv=>rhs;rw[<-km j l,j7,gn]
 omega
def KY (h:cK w p T X) (t:aY T X) (M:T.length<1000) (l:List Nat) (R:bG w v (aM l)) (z:∀c∈l,c<1114112) (H:l.length<3000) :
 Calls prog 170 #[.pointer (some ⟨p,0,none⟩),v] w λe w'=>∃r,e=.returned r/\w'.ownsRow w.heap.size aN 1 r (l.flatMap (aD T)).length (aM (l.flatMap (aD T)))/\Below w.heap.size w w':=by
 obtain⟨n,u⟩:=ae l.length;obtain⟨a,cap,rfl,I,J⟩:=bG.Hl R u;have HX:=aa J;have Y:=aa z;have F:=aa u;have Vx:=aa (jJ t l);have FU:=aa (λ(W:World) (E:Below w.heap.size w W) c (z:c<1114112)=>pG (h.mono E) t M c z);have:=aa (λc=>il t c);rw[<-u] at H;clear h t M R z J u;go_enter func170,ntmps170;go_wp2_with fail;go_loopw [5,10] (λU A wr=>∃j:Nat,j<=n/\A=.int .i64 j/\wr.ownsRow w.heap.size aN 1 U ((l.take j).flatMap (aD T)).length (aM ((l.take j).flatMap (aD T)))/\Below w.heap.size w wr) (λ_ A _=>n-(intOf A).toNat)
 case atStart=>exact⟨0,ic _,rfl,iS _ _ _ _,gS _ _⟩
 case round=>
  obtain⟨j,hj,rfl,o,s⟩:=hrel;by_cases ab:j<n
  ·have V:=eG (show j<n by omega);have d:j<l.length:=by have:=F.out;omega
   obtain⟨b,off,rfl,ac,q⟩:=HX.out j d;have c0:=aB s q;clear q;have f:=Y.out _ (gw d);obtain⟨x,y⟩:=ae (l[j]);rw[<-y] at c0 f;have P:=aa (FU.out wr s x f);have HT:=aa (show(l.take (j+1)).flatMap (aD T)=(l.take j).flatMap (aD T)++aD T x from by rw[yw d,<-y])
   have L:=aa (show((l.take j).flatMap (aD T)).length+(aD T x).length<=32*n from by
    have S:=wQ (aD T) l (j+1);rw[yw d,<-y,gn] at S;have h2:=Vx.out;rw[<-F.out] at h2
    omega)
   have B:=aa o;clear y o;go_wp2_with fail;refine P.out.mono ?_;rintro e w6⟨r,rfl,G,m⟩;have K:=af s m;have C:=aH B.out m;have i:=K.size;have g:=(Sl.aU G).any;obtain⟨ra,Vd,rfl,_,_⟩:=ak G;clear G P;go_wp2_with (refine bR (w:=w6) rfl _ _ 35 rfl w.heap.size aN (.int .i32 0) 4 bW _ _ _ rfl C _ _ rfl g (gJ _) (by rw[bF];have:=L.out;unfold maxLen;omega) (by rw[bF];have:=L.out;omega) i ?_;intro v7 w7 O N);have Z:=K.grown N i (λk hk=>(C.lt k hk).1)
   have D:=aa (show w7.ownsRow w.heap.size aN 1 v7 ((l.take (j+1)).flatMap (aD T)).length (aM ((l.take (j+1)).flatMap (aD T))) from by
    rw[HT.out,a_,gn]
    simpa using O)
   clear O N g C;go_wp2_with fail;go_roundw
   case rel=>exact⟨j+1,by omega,by simp,D.out,Z⟩
   case measure=>simp[intOf];omega
  have V:=gI (show n<=j by omega);obtain rfl:j=n:=by omega
  have Q:l.take j=l:=iu (by rw[F.out];exact d' _);rw[Q] at o;have B:=aa o;clear o Q;go_wp2_with fail;go_ret;exact⟨_,rfl,B.out,s⟩
def KZ (h:cK w p T X) (f:aY T X) (s:T.length<1000) (l:List Nat) (q:bG w v (aM l)) (k:∀c∈l,aP c) (m:l.length<3000) :
 Calls prog 128 #[.pointer (some ⟨p,0,none⟩),v] w λe w'=>∃r,e=.returned r/\w'.ownsRow w.heap.size aN 1 r (gQ T l).length (aM (gQ T l))/\Below w.heap.size w w':=by
 have B:=aa (KY h f s l q (λc d=>(k c d).1) m);have i:=jJ f l
 have z:=aa (λ(W:World) (E:Below w.heap.size w W) (u:Value) (n:W.ownsRow w.heap.size aN 1 u (l.flatMap (aD T)).length (aM (l.flatMap (aD T))))=>VH (w:=W) (h.mono E) f (l.flatMap (aD T)) (Sl.aU n) (fU.aU n) (λc d=>by
  obtain⟨y,C,d⟩:=lP.1 d
  exact(ow f (k y C) d).1) (by omega))
 have t:=aa (show(gQ T l).length=(l.flatMap (aD T)).length from KV _ _);clear h q k i;go_enter func128,ntmps128;go_wp2_with fail;refine B.out.mono ?_;rintro e A⟨r,rfl,o,a⟩;have j:=aa (z.out A a r o);clear o;go_wp2_with fail;refine j.out.mono ?_;rintro e D⟨F,rfl,b,g⟩;have x:=aa b;clear b;go_wp2_with fail;go_ret;exact⟨_,rfl,by rw[t.out];exact aT x.out a.size,af a g⟩
def qZ (b:aY T X) (a:∀c∈l,aP c):∀c∈gQ T l,aP c:=λc h=>by
 obtain⟨y,d,e⟩:=lP.1 ((KW _).1 h);exact ow b (a y d) e
def wR (T:List aG) (l:List Nat):(gQ T l).length=(l.flatMap (aD T)).length:=KV _ _
def K5 (U:nk w) (h:cK w p T X) (J:aY T X) (I:T.length<1000) (l:List Nat) (v:∀c∈l,aP c) (d:(l.flatMap (aD T)).length<=1024) :
 Calls prog 87 #[.pointer (some ⟨p,0,none⟩),.string (tx (dQ l))] w λe w'=>∃r,e=.returned (.tuple #[r,.int .i64 0])/\w'.ownsRow w.heap.size aN 1 r (gQ T l).length (aM (gQ T l))/\Below w.heap.size w w':=by
 have P:l.length<=1024:=by
  have key:∀l:List Nat,l.length<=(l.flatMap (aD T)).length:=λl=>by
   induction l with
   | nil=>simp
   | cons c l ih=>
     rw[jx,gn,im];have:=ke.2 (pF T c);omega
  exact ia (key l) d
 have F:=aa (vX U.heads l v (by omega));have FU:=aa (λ(W:World) (E:Below w.heap.size w W) c (v:c<1114112)=>pG (h.mono E) J I c v);have S:=aa (λ(W:World) (E:Below w.heap.size w W) (u:Value) (hu:bG W u (aM l))=>KZ (w:=W) (h.mono E) J I l hu v (by omega));have HC:=aa v;have C:=aa d;have:=aa (wR T l);obtain⟨s,Z⟩:=ae (tx (dQ l));rw[<-Z] at F⊢;obtain⟨n,L⟩:=ae l.length;have Y:=aa L;rw[<-L] at P F;clear U h J I v d Z L;go_enter func87,ntmps87;go_wp2_with fail;refine F.out.mono ?_;rintro e w1⟨r,rfl,i,f⟩;have o:=(Sl.aU i).any;have K:=aa o;obtain⟨a,cap,M,Q,R⟩:=bG.Hl o Y.out;subst M;have HX:=aa R;clear i o R F;go_wp2_with fail;go_loopw [8,21] (λkv H wr=>∃j k:Nat,j<=n/\H=.int .i64 j/\kv=.int .i64 k/\k=((l.take j).flatMap (aD T)).length/\Below w1.heap.size w1 wr) (λ_ H _=>n-(intOf H).toNat)
 case atStart=>exact⟨0,0,ic _,rfl,rfl,rfl,gS _ _⟩
 case round=>
  obtain⟨j,k,hj,rfl,rfl,V,g⟩:=hrel;have HK:=aa V;clear V;by_cases ad:j<n
  ·have zj:=eG (show j<n by omega);have t:j<l.length:=by have:=Y.out;omega
   obtain⟨b,off,rfl,ag,B⟩:=HX.out j t;have c0:=aB g B;clear B;have y:=(HC.out _ (gw t)).1;obtain⟨x,N⟩:=ae (l[j]);rw[<-N] at c0 y;have G:=aa (FU.out wr (af f g) x y);obtain⟨m,O⟩:=ae ((aD T x).length);obtain⟨A,z⟩:=ae (k+m);have D:A=((l.take (j+1)).flatMap (aD T)).length:=by rw[z,O,HK.out,yw t,<-N,gn]
   have:A<=1024:=by
    have:=wQ (aD T) l (j+1);have:=C.out;omega
   have:IntKind.i64.wrap ((k:Int)+(m:Int))=(A:Int):=by rw[kf _ (by omega)];omega
   have Oa:=aa D;have Rt:=aa O;have:k<=1024/\m<=1024:=by omega
   have:decide ((1024:Int)<(A:Int))=false:=decide_eq_false (by omega);clear N O D z;go_wp2_with fail;refine G.out.mono ?_;rintro e w6⟨r,rfl,i,q⟩;obtain⟨ra,Vd,rfl,_,_⟩:=ak i;rw[<-Rt.out];clear i G;go_wp2_with fail;go_roundw
   case rel=>exact⟨j+1,A,by omega,by simp,rfl,Oa.out,g.trans (q.mono g.size)⟩
   case measure=>simp[intOf];omega
  have zj:=gI (show n<=j by omega);obtain rfl:n=j:=by omega
  have G:=aa (S.out wr (af f g) _ (bG.mono K.out g));clear S;go_wp2_with fail;refine G.out.mono ?_;rintro e w6⟨r,rfl,i,q⟩;have HR:=aa i;clear i;go_wp2_with fail;go_ret2;exact⟨_,rfl,aT HR.out (af f g).size,af (af f g) q⟩
def VM (m:nk w) (h0:0<w.heap.size) (h:cK w p T X) (g:aY T X) (o:T.length<1000) (l:List Nat) (f:∀c∈l,aP c) (a:(l.flatMap (aD T)).length<=1024) :
 Calls prog 56 #[.pointer (some ⟨p,0,none⟩),.string (tx (dQ l))] w λe w'=>e=.returned (.tuple #[.string (tx (dQ (gQ T l))),.int .i64 0])/\Below w.heap.size w w':=by
 have i:=aa (K5 m h g o l f a);have j:=aa (λ(W:World) (E:Below w.heap.size w W) (u:Value) (t:bG W u (aM (gQ T l)))=>Hg (m.mono E).heads t (qZ g f) (by rw[wR];omega) (by have:=E.size;omega));obtain⟨s,q⟩:=ae (tx (dQ l));obtain⟨s2,d⟩:∃s,s=tx (dQ (gQ T l)):=⟨_,rfl⟩;rw[<-q] at i⊢;rw[<-d] at j⊢;clear m h g o f a q d;go_enter func56,ntmps56;go_wp2_with fail;refine i.out.mono ?_;rintro e v⟨r,rfl,n,b⟩;have x:=aa (j.out v b r (Sl.aU n).any);clear n i j;go_wp2_with fail;refine x.out.mono ?_;rintro e y⟨rfl,k⟩;go_wp2_with fail;go_ret2;exact⟨rfl,af b k⟩
end Go.Proofs.YtmnimbnojdndmaaGreatDoor
namespace Go.Cd
section
open Go.RowKit
section
variable {P : Program} {ops : Array Oper} {md : Region.Mode} {head : Array Bool}
variable {vs us:Nat->Value} {a:Act} {Q:Exit->Act->World->Prop} {K:Act->World->Prop} {w:World}
def yA :∀(E:List Nat) (e:Nat) (a:Act),dK ops vs (E++[e]) a=(dK ops vs E a).put (bL ops e) (vs e)
 | [],_,_=>rfl
 | i::E,e,a=>by simp only[lz,dK];exact yA E e _
def ry:∀(E:List Nat) (e:Nat) (L:Array Bool),aS (E++[e]) L=(aS E L).setIfInBounds e true
 | [],_,_=>rfl
 | i::E,e,L=>by simp only[lz,aS];exact ry E e _
def uQ (P:Program) (o:Oper) (a:Act) (v:Value):Prop:=∀w,(execOp a.eval o).run P w=.ok (.value v) w/\∀b,((execOp a.eval o).runT P w b).2=b
inductive Early (P:Program) (md:Region.Mode) (ops:Array Oper) (L:Array Bool) (a:Act) (us:Nat->Value):List Nat->Prop
 | nil:Early P md ops L a us []
 | snoc (E:List Nat) (e:Nat) (o:Oper):Early P md ops L a us E->ops[e]? = some o->o.guard=none->e∈Region.ready md ops (aS E L)->uQ P o (dK ops us E a) (us e)->Early P md ops L a us (E++[e])
def K_ {L:Array Bool} {b:Nat->Value} {E:List Nat} (h:Early P md ops L a us E):(∀k∈E,us k=b k)->Early P md ops L a b E:=by
 induction h with
 | nil=>intro _;exact .nil
 | snoc E e o hE ho hg hr hp ih=>
   intro c;refine .snoc E e o (ih λk d=>c k (by simp[d])) ho hg hr ?_;rw[<-c e (by simp),<-pJ E a (λk d=>c k (by simp[d]))];exact hp
def FL {i:Nat} {o:Oper} {v:Value} (e:ops[i]? = some o) (c:o.guard=none) (b:uQ P o a v):wpOp P ops Q i K a w↔K (a.put o.dst v) w:=by
 have d:Region.wanted o (yielded ops a.tmps)=true:=by simp[Region.wanted,c]
 unfold wpOp;simp only[e,d,if_true,Oper.wp,(b w).1,Oper.upon];constructor
 ·rintro (h|⟨h,_⟩)
  ·exact h
  exfalso;have:=h.1;rw[(b w).2] at this;simp at this
 exact .inl
def yB {L:Array Bool} {S:List Nat} (p:Region.noSelect ops=true) :
 ∀{E:List Nat},Early P md ops L a us E->(∀e∈E,∀o,ops[e]? = some o->∀i∈S,(∀t,bL ops i=some t->t∉o.looksAt ops)/\∀t,o.dst=some t->bL ops i≠some t)->
 ∀t,wpAny P md ops Q (t+E.length) L (dK ops vs S a) w->wpAny P md ops Q t (aS E L) (dK ops vs S (dK ops us E a)) w:=by
 intro E l
 induction l with
 | nil=>intro _ t h;exact h
 | snoc E e o l ho hg hr hp ih=>
   intro b t h;have m:=ih (λk q=>b k (by simp[q])) (t+1) (by rw[gn] at h;simp only[im,kp] at h;rw[vd];exact h);have j:=m.2 e hr;have c:=b e (by simp) o ho;have d:=iN (vs:=vs) (lA p e o · · ho) S (dK ops us E a) (λi g=>(c i g).1);have f:uQ P o (dK ops vs S (dK ops us E a)) (us e):=by unfold uQ;rw[d.1];exact hp
   rw[FL ho hg f] at j;have hd:bL ops e=o.dst:=by simp[bL,ho]
   rw[wT S _ (λi g t n=>(c i g).2 t n)] at j;rw[ry,yA,hd];exact j
def VQ {R:Nat->Value->World->Prop} {g:Value->Nat} (y:∀i v w w',Below w.heap.size w w'->R i v w->R i v w'):∀(c:List Nat) (vs:Nat->Value) (w:World),c.Nodup->
 (∀i∈c,∃x,ops[i]? = some x/\mI P ops (R i) g x a w)->
 ∃(b:Nat->Value) (W:World),Below w.heap.size w W/\(∀k,k∉c->b k=vs k)/\(∀i∈c,R i (b i) W/\w.heap.size<=g (b i)/\g (b i)<W.heap.size)/\∀i∈c,∀k∈c,i≠k->g (b i)≠g (b k)
 | [],vs,w,_,_=>⟨vs,w,gS _ _,λ_ _=>rfl,λ_ h=>absurd h (by simp),λ_ h=>absurd h (by simp)⟩
 | i::c,vs,w,hnd,h=>by
   rw[tS] at hnd;obtain⟨x,C,t⟩:=h i (by simp);obtain⟨v,B,_,e,r,z,F⟩:=t.2 w (gS _ _)
   obtain⟨b,W,p,n,m,hd⟩:=VQ y c (upd vs i v) B hnd.2 (λk n=>by
    obtain⟨A,s,m⟩:=h k (by simp[n])
    exact⟨A,s,m.mono e⟩)
   have q:b i=v:=by rw[n i hnd.1];simp[upd]
   refine⟨b,W,af e p,λk f=>?_,λk d=>?_,λk o l u j=>?_⟩
   ·simp only[jt,not_or] at f;rw[n k f.2];simp[upd,f.1]
   ·rcases jt.1 d with rfl|d
    ·rw[q];exact⟨y _ _ _ _ p r,z,kh F p.size⟩
    obtain⟨G,E,D⟩:=m k d;exact⟨G,ia e.size E,D⟩
   rcases jt.1 o with e1|hk2 <;> rcases jt.1 u with e2|hl2
   ·exact absurd (e1.trans e2.symm) j
   ·subst e1;rw[q];have:=(m l hl2).2.1;omega
   ·subst e2;rw[q];have:=(m k hk2).2.1;omega
   exact hd k hk2 l hl2 j
def SC (S:List Nat) (R:Nat->Value->World->Prop) (bk:Value->Nat) (N t:Nat) (K7:∀i v w w',Below w.heap.size w w'->R i v w->R i v w') (hs:Region.noSelect ops=true) (ad:S.Nodup)
 (X:List Nat) (L:Array Bool) (a:Act)
 (hX:∀x∈X,x∉S/\∀o,ops[x]? = some o->xE o.op=true/\o.guard=none/\∀i∈S,(∀t,bL ops i=some t->t∉o.looksAt ops)/\(∀t,o.dst=some t->bL ops i≠some t)/\∀C,ops[i]? = some C->∀t,o.dst=some t->t∉C.looksAt ops)
 (hW:∀j r,ops[j]? = some r->j∉S->j∉X->L.getD j true=false->∀i∈S,waits md ops i ops.size j=true)
 (hM:∀i∈S,∃C,ops[i]? = some C/\∀k∈S,k≠i->(∀t,bL ops k=some t->t∉C.looksAt ops)/\∀t,C.dst=some t->bL ops k≠some t) :
 ∀(m:Nat) (done:Nat->Bool) (vs us:Nat->Value) (E:List Nat) (b:Array Bool) (w:World),m=(S.filter λi=>!done i).length+(t-E.length)->Closed md ops b->
  aS (S.filter λi=>!done i) b=aS E L->
  (∀i∈S,done i=false->i∈Region.ready md ops b/\∀C,ops[i]? = some C->mI P ops (R i) bk C a w)->
  (∀i∈S,done i=true->b.getD i false=true/\R i (vs i) w/\N<=bk (vs i)/\bk (vs i)<w.heap.size)->(∀i∈S,∀k∈S,done i=true->done k=true->i≠k->bk (vs i)≠bk (vs k))->N<=w.heap.size->
  Early P md ops L a us E->(∀e∈E,e∈X)->E.length<=t->
  (∀w',Below w.heap.size w w'->TMk ops S R bk N (λL a w=>wpAny P md ops Q t L a w) L a w')->
  wpAny P md ops Q m b (dK ops vs (S.filter done) (dK ops us E a)) w:=by
 have ac:∀{E:List Nat},(∀e∈E,e∈X)->∀e∈E,∀o,ops[e]? = some o->∀i∈S,(∀t,bL ops i=some t->t∉o.looksAt ops)/\∀t,o.dst=some t->bL ops i≠some t:=
  λM e he o ho i c=>⟨((hX e (M e he)).2 o ho).2.2 i c |>.1,((hX e (M e he)).2 o ho).2.2 i c |>.2.1⟩
 intro m
 induction m with
 | zero=>
   intro done vs us E b w hm Z O lX f jV hN M B Zw hT;have aB:(S.filter λi=>!done i).length=0:=by omega
   have aq:=iJ.1 aB;have n:∀i∈S,done i=true:=λi c=>by simpa using (tl.1 aq) i c
   rw[aq] at O;have ab:b=aS E L:=O;rw[ab,qk.2 n];refine yB hs M (ac B) 0 ?_;rw[show 0+E.length=t from by omega];exact hT w (gS _ _) vs (λi c=>(f i c (n i c)).2) (λi c k y=>jV i c k y (n i c) (n k y))
 | succ m ih=>
   intro done vs us E b w hm Z O lX f jV hN M B Zw hT;cases VR:S.filter (λi=>!done i) with
   | nil=>
     have n:∀i∈S,done i=true:=λi c=>by simpa using (tl.1 VR) i c
     rw[VR] at O hm;have ab:b=aS E L:=O;rw[ab,qk.2 n];refine yB hs M (ac B) (m+1) ?_;rw[show m+1+E.length=t from by simp at hm;omega];exact hT w (gS _ _) vs (λi c=>(f i c (n i c)).2) (λi c k y=>jV i c k y (n i c) (n k y))
   | cons i0 ap6=>
     have aH:i0∈S.filter (λi=>!done i):=by rw[VR];simp
     obtain⟨ae,Zx⟩:=i_.1 aH;have Zx:done i0=false:=by simpa using Zx
     obtain⟨W,W',ag,G,aa,au⟩:=VQ (P:=P) (ops:=ops) (a:=a) K7 (S.filter λi=>!done i) vs w (ad.filter _) (λi c=>by
      obtain⟨M8,d⟩:=i_.1 c;obtain⟨C,Y,_⟩:=hM i M8
      exact⟨C,Y,(lX i M8 (by simpa using d)).2 C Y⟩)
     have z:wpAny P md ops Q (t-E.length) (aS E L) (dK ops W S (dK ops us E a)) W':=by
      refine yB hs M (ac B) _ ?_;rw[Nat.sub_add_cancel Zw];refine hT W' ag W (λi c=>?_) (λi c k y D=>?_)
      ·cases d:done i
       ·obtain⟨I,F,g3⟩:=aa i (i_.2 ⟨c,by simp[d]⟩);exact⟨I,ia hN F,g3⟩
       rw[G i (λh=>by have:=(i_.1 h).2;simp[d] at this)];obtain⟨_,I,F,g3⟩:=f i c d;exact⟨K7 _ _ _ _ ag I,F,kh g3 ag.size⟩
      cases d:done i <;> cases p:done k
      ·exact au i (i_.2 ⟨c,by simp[d]⟩) k (i_.2 ⟨y,by simp[p]⟩) D
      ·rw[G k (λh=>by have:=(i_.1 h).2;simp[p] at this)];have:=(aa i (i_.2 ⟨c,by simp[d]⟩)).2.1;have:=(f k y p).2.2.2;omega
      ·rw[G i (λh=>by have:=(i_.1 h).2;simp[d] at this)];have:=(aa k (i_.2 ⟨y,by simp[p]⟩)).2.1;have:=(f i c d).2.2.2;omega
      rw[G i (λh=>by have:=(i_.1 h).2;simp[d] at this),G k (λh=>by have:=(i_.1 h).2;simp[p] at this)];exact jV i c k y d p D
     refine⟨λh=>(by have:=(lX i0 ae Zx).1;rw[h] at this;cases this),λj hj=>?_⟩;obtain⟨A,r,g,al⟩:=mem_ready.1 hj;have ak:j<b.size:=by
      rcases ki j b.size with h'|h'
      ·exact h'
      simp[ld h'] at A
     by_cases J:j∈S
     ·
      have H:done j=false:=by
       cases hd:done j
       ·rfl
       have h1:=(f j J hd).1;have U:=cO A;rw[h1] at U;cases U
      have aD:=(lX j J H).2 r g;have zP:bL ops j=r.dst:=by simp[bL,g]
      have qw:∀i∈S,i≠j->(∀t,bL ops i=some t->t∉r.looksAt ops)/\(∀t,bL ops j=some t->bL ops i≠some t):=by
       intro i c q;obtain⟨aI,VS,h⟩:=hM j J;rw[g] at VS;cases VS;rw[zP];exact h i c q
      have an:=iN (vs:=us) (lA hs j r · · g) E a (λe he t ht=>by
       cases ho:ops[e]? with
       | none=>exact absurd ht (by unfold bL;rw[ho];exact λh=>by cases h)
       | some o=>
         have hd:bL ops e=o.dst:=by simp[bL,ho]
         rw[hd] at ht
         exact(((hX e (B e he)).2 o ho).2.2 j J).2.2 r g t ht)
      have aj:=iN (vs:=vs) (lA hs j r · · g) (S.filter done) (dK ops us E a) (λi c=>(qw i (i_.1 c).1 (λe=>by have h:=(i_.1 c).2;rw[e,H] at h;cases h)).1);have ay:mI P ops (R j) bk r (dK ops vs (S.filter done) (dK ops us E a)) w:=(aD.same an.1 an.2).same aj.1 aj.2;refine wpOp_mono (λ_ _ h=>h.2) (Am (Q:=Q) (mI.xG (Q:=Q) (K:=λa w=>wpAny P md ops Q m (b.setIfInBounds j true) a w) g ay λv W1 hb hR h1 U=>?_));rw[<-zP,oD H S _ J ad (λi c q=>(qw i c q).2)];have VP:upd vs j v j=v:=by simp[upd]
      have Jd:∀i,i≠j->upd vs j v i=vs i:=λi c=>by simp[upd,c]
      refine ih (λi=>done i||i==j) (upd vs j v) us E (b.setIfInBounds j true) W1 (by have:=nA H S J ad;omega) (Z.step hj) ?_ ?_ ?_ ?_ (ia hN hb.size) M B Zw (λw' av=>hT w' (af hb av))
      ·rw[<-O];refine uN (by simp) λk y=>?_;simp only[wm] at y;simp only[i_];by_cases u:k=j
       ·subst u;simp[y,J,H]
       rw[getD_set_ne false (pr u)];simp[u]
      ·intro i c d;simp only[sx,beq_eq_false_iff_ne] at d;obtain⟨I,F⟩:=lX i c d.1;exact⟨ready_mono I d.2,λC Y=>(F C Y).mono hb⟩
      ·intro i c d;by_cases q:i=j
       ·subst q;rw[VP];exact⟨by simp[ak],hR,ia hN h1,U⟩
       simp only[mu,beq_iff_eq,q,or_false] at d;rw[Jd i q];obtain⟨I,F,g3,g4⟩:=f i c d;exact⟨getD_set_true I,K7 _ _ _ _ hb F,g3,kh g4 hb.size⟩
      intro i c k y d p D;by_cases q:i=j
      ·subst q;have ap:k≠i:=pr D;simp only[mu,beq_iff_eq,ap,or_false] at p;rw[VP,Jd k ap];have:=(f k y p).2.2.2;omega
      simp only[mu,beq_iff_eq,q,or_false] at d;rw[Jd i q];by_cases u:k=j
      ·subst u;rw[VP];have:=(f i c d).2.2.2;omega
      simp only[mu,beq_iff_eq,u,or_false] at p;rw[Jd k u];exact jV i c k y d p D
     ·
      have Qr:(aS E L).getD j true=b.getD j true:=by
       rw[<-O,dN,if_neg (λh=>J (i_.1 h.1).1)]
      have aG:L.getD j true=false:=by
       rw[A,dN] at Qr
       split at Qr
       ·cases Qr
       exact Qr
      have Og:j∈X:=Classical.byContradiction λOg=>by
       have h0:=cO (mem_ready.1 (lX i0 ae Zx).1).1;exact lh Z h0 _ j r g (hW j r g J Og aG i0 ae) al
      obtain⟨_,aF⟩:=hX j Og;obtain⟨aA,hg,VN⟩:=aF r g;have T:j∈Region.ready md ops (aS E L):=by
       rw[mem_ready];refine⟨by rw[Qr];exact A,r,g,λe he hb=>?_⟩;rw[<-O,dN]
       split
       ·rfl
       exact al e he hb
      have ax:=iN (vs:=vs) (lA hs j r · · g) (S.filter done) (dK ops us E a) (λi c=>(VN i (i_.1 c).1).1);have ai:=iN (vs:=W) (lA hs j r · · g) S (dK ops us E a) (λi c=>(VN i c).1);obtain⟨s,aE⟩:∃s,t-E.length=s+1:=by
       rcases pB (t-E.length) with h|h
       ·exfalso;rw[h] at z;have:=z.1;rw[this] at T;cases T
       exact⟨t-E.length-1,by omega⟩
      rw[aE] at z;have V:=z.2 j T;rcases pure_run (P:=P) (ρ:=(dK ops us E a).eval) aA with⟨v,hv⟩|⟨x,hv⟩
      ·have ah:uQ P r (dK ops us E a) v:=hv;have az:uQ P r (dK ops vs (S.filter done) (dK ops us E a)) v:=by unfold uQ;rw[ax.1];exact ah
       rw[FL g hg az];have aC:bL ops j=r.dst:=by simp[bL,g]
       have am:j∉E:=λh=>by
        have U:(aS E L).getD j true=true:=by
         rw[dN]
         split
         ·rfl
         rename_i hn;rcases ki j L.size with h'|h'
         ·exact absurd ⟨h,h'⟩ hn
         simp[ld h']
        rw[Qr,A] at U;cases U
       have ar:dK ops us E a=dK ops (upd us j v) E a:=pJ _ _ λk y=>by
        have:k≠j:=λe=>am (e▸y);simp[upd,this]
       have aw:Early P md ops L a (upd us j v) E:=K_ M λk y=>by
        have:k≠j:=λe=>am (e▸y);simp[upd,this]
       have ao:upd us j v j=v:=by simp[upd]
       rw[wT (S.filter done) _ (λi c t ht=>(VN i (i_.1 c).1).2.1 t ht),ar];have e1:((dK ops (upd us j v) E a).put r.dst v)=dK ops (upd us j v) (E++[j]) a:=by rw[yA,aC,ao]
       rw[e1];refine ih done vs (upd us j v) (E++[j]) (b.setIfInBounds j true) w (by simp;omega) (Z.step hj) ?_ ?_ ?_ jV hN (.snoc E j r aw g hg T (by rw[ao,<-ar];exact ah)) ?_ (by simp;omega) hT
       ·rw[ry,<-O];have U:∀(l:List Nat) (x:Array Bool),aS [j] (aS l x)=aS l (aS [j] x):=by
         intro l
         induction l with
         | nil=>intro x;rfl
         | cons k l ihl=>
           intro x;simp only[aS] at ihl⊢;rw[ihl];by_cases u:k=j
           ·subst u;rfl
           rw[rF _ _ u]
        exact(U _ _).symm
       ·intro i c d;obtain⟨I,F⟩:=lX i c d;exact⟨ready_mono I (λe=>J (e▸c)),F⟩
       ·intro i c d;obtain⟨I,F⟩:=f i c d;exact⟨getD_set_true I,F⟩
       intro e he;rcases ie.1 he with h|h
       ·exact B e h
       rw[gE.1 h];exact Og
      exfalso;have hw:Region.wanted r (yielded ops (dK ops W S (dK ops us E a)).tmps)=true:=by simp[Region.wanted,hg]
      unfold wpOp at V;simp only[g,hw,if_true,Oper.wp] at V;rw[ai.1] at V;rcases V with h|⟨h,_⟩
      ·rw[(hv W').1] at h;exact h
      have:=h.1;rw[ai.1,(hv W').2] at this;simp at this
def Qs {j:Nat} (h:xG P ops Q j K a w):wpOp P ops Q j K a w:=wpOp_mono (λ_ _ h=>h.2) (Am h)
def Hq (S:List Nat) (R:Nat->Value->World->Prop) (E:Value->Nat) (N t:Nat) (K7:∀i v w w',Below w.heap.size w w'->R i v w->R i v w') (hs:Region.noSelect ops=true) (W:S.Nodup)
 (X:List Nat)
 (hX:∀x∈X,x∉S/\∀o,ops[x]? = some o->xE o.op=true/\o.guard=none/\∀i∈S,(∀t,bL ops i=some t->t∉o.looksAt ops)/\(∀t,o.dst=some t->bL ops i≠some t)/\∀q,ops[i]? = some q->∀t,o.dst=some t->t∉q.looksAt ops)
 (hW:∀j A,ops[j]? = some A->j∉S->j∉X->head.getD j false=false->∀i∈S,waits md ops i ops.size j=true)
 (hH:∀j A,ops[j]? = some A->j∉S->head.getD j false=true->∀i∈S,(∀t,bL ops i=some t->t∉A.looksAt ops)/\(∀t,bL ops i=some t->A.dst≠some t)/\∀q,ops[i]? = some q->∀t,A.dst=some t->t∉q.looksAt ops)
 (hM:∀i∈S,∃q,ops[i]? = some q/\∀k∈S,k≠i->(∀t,bL ops k=some t->t∉q.looksAt ops)/\∀t,q.dst=some t->bL ops k≠some t) :
 ∀(m n:Nat) (done:Nat->Bool) (vs:Nat->Value) (c:Array Bool) (a:Act) (w:World),m=n+(S.filter λi=>!done i).length->Closed md ops c->
  (∀i∈S,done i=false->i∈Region.ready md ops c/\∀q,ops[i]? = some q->mI P ops (R i) E q a w)->
  (∀i∈S,done i=true->c.getD i false=true/\R i (vs i) w/\N<=E (vs i)/\E (vs i)<w.heap.size)->(∀i∈S,∀k∈S,done i=true->done k=true->i≠k->E (vs i)≠E (vs k))->N<=w.heap.size->
  Hm P md ops head Q (TMk ops S R E N (λL a w=>wpAny P md ops Q t L a w)) n (aS (S.filter λi=>!done i) c) a w->
  wpAny P md ops Q (m+t) c (dK ops vs (S.filter done) a) w:=by
 intro m
 induction m with
 | zero=>
   intro n done vs c a w hm I U p jV Z H;obtain⟨rfl,hr⟩:n=0/\(S.filter λi=>!done i).length=0:=by omega
   have ab:=iJ.1 hr;rw[ab] at H;have y:∀i∈S,done i=true:=λi g=>by simpa using (tl.1 ab) i g
   obtain⟨_,T⟩:=H w (gS _ _);rw[qk.2 y,k_];exact T vs (λi g=>(p i g (y i g)).2) (λi g k F=>jV i g k F (y i g) (y k F))
 | succ m ih=>
   intro n done vs c a w hm I U p jV Z H;cases n with
   | zero=>
     have aj:=(H w (gS _ _)).1;have:=SC (P:=P) (Q:=Q) S R E N t K7 hs W X (aS (S.filter λi=>!done i) c) a hX
      (λj A J B Og ag=>hW j A J B Og (by
        cases hh:head.getD j false
        ·rfl
        have:=jH aj hh
        rw[cO ag] at this;cases this)) hM (m+1+t) done vs vs [] c w (by simp;omega) I rfl U p jV Z .nil (λe he=>by cases he) (ic _)
      (λw' ae=>(H w' ae).2)
     exact this
   | succ n=>
     have yx:∀j,j∈Region.ready md ops c->j∉S->j∈Region.ready md ops (aS (S.filter λi=>!done i) c):=by
      intro j J B;rw[mem_ready] at J⊢;obtain⟨h0,o,ho,y⟩:=J;refine⟨?_,o,ho,λe he C=>?_⟩
      ·rw[dN,if_neg (λh=>B (i_.1 h.1).1)];exact h0
      rw[dN];split
      ·rfl
      exact y e he C
     rw[vd];constructor
     ·intro M;cases hf:S.filter (λi=>!done i) with
      | cons i l=>
        have g:i∈S.filter (λi=>!done i):=by rw[hf];simp
        obtain⟨M8,f⟩:=i_.1 g;have:=(U i M8 (by simpa using f)).1;rw[M] at this;cases this
      | nil=>
        rw[hf] at H;exact absurd M (H w (gS _ _)).1
     intro j J;obtain⟨O,A,z,_⟩:=mem_ready.1 J;have ad:j<c.size:=by
      rcases ki j c.size with h'|h'
      ·exact h'
      simp[ld h'] at O
     by_cases B:j∈S
     ·have D:done j=false:=by
       cases hd:done j
       ·rfl
       have h1:=(p j B hd).1;have T:=cO O;rw[h1] at T;cases T
      have am:=(U j B D).2 A z;have zP:bL ops j=A.dst:=by simp[bL,z]
      have V:∀i∈S,i≠j->(∀t,bL ops i=some t->t∉A.looksAt ops)/\(∀t,bL ops j=some t->bL ops i≠some t):=by
       intro i g r;obtain⟨an,VS,h⟩:=hM j B;rw[z] at VS;cases VS;rw[zP];exact h i g r
      have ac:=iN (vs:=vs) (lA hs j A · · z) (S.filter done) a (λi g=>(V i (i_.1 g).1 (λe=>by have h:=(i_.1 g).2;rw[e,D] at h;cases h)).1);refine Qs (mI.xG (Q:=Q) (K:=λa w=>wpAny P md ops Q (m+t) (c.setIfInBounds j true) a w) z (am.same ac.1 ac.2) λv W' C hR h1 T=>?_);rw[<-zP,oD D S a B W (λi g r=>(V i g r).2)];have VP:upd vs j v j=v:=by simp[upd]
      have Jd:∀i,i≠j->upd vs j v i=vs i:=λi g=>by simp[upd,g]
      refine ih (n+1) (λi=>done i||i==j) (upd vs j v) (c.setIfInBounds j true) a W' (by have:=nA D S B W;omega) (I.step J) ?_ ?_ ?_ (ia Z C.size) ?_
      ·intro i g f;simp only[sx,beq_eq_false_iff_ne] at f;obtain⟨g1,g2⟩:=U i g f.1;exact⟨ready_mono g1 f.2,λq s=>(g2 q s).mono C⟩
      ·intro i g f;by_cases r:i=j
       ·subst r;rw[VP];exact⟨by simp[ad],hR,ia Z h1,T⟩
       simp only[mu,beq_iff_eq,r,or_false] at f;rw[Jd i r];obtain⟨g1,g2,g3,g4⟩:=p i g f;exact⟨getD_set_true g1,K7 _ _ _ _ C g2,g3,kh g4 C.size⟩
      ·intro i g k F f G Y;by_cases r:i=j
       ·subst r;have aa:k≠i:=pr Y;simp only[mu,beq_iff_eq,aa,or_false] at G;rw[VP,Jd k aa];have:=(p k F G).2.2.2;omega
       simp only[mu,beq_iff_eq,r,or_false] at f;rw[Jd i r];by_cases u:k=j
       ·subst u;rw[VP];have:=(p i g f).2.2.2;omega
       simp only[mu,beq_iff_eq,u,or_false] at G;rw[Jd k u];exact jV i g k F f G Y
      have e:aS (S.filter λi=>!(done i||i==j)) (c.setIfInBounds j true)=aS (S.filter λi=>!done i) c:=by
       refine uN (by simp) λk F=>?_;simp only[wm] at F;simp only[i_];by_cases u:k=j
       ·subst u;simp[F,B,D]
       rw[getD_set_ne false (pr u)];simp[u]
      rw[e];exact aba (n:=n+1) C H
     obtain⟨Ye,ai⟩:=(H w (gS _ _)).2 j (yx j J B);have V:=hH j A z B Ye;have F:=K6 (Φ:=λa w'=>(∀i∈S,done i=false->∀q,ops[i]? = some q->mI P ops (R i) E q a w')/\(∀i∈S,done i=true->R i (vs i) w'/\N<=E (vs i)/\E (vs i)<w'.heap.size)/\N<=w'.heap.size) z
      (λa w' v h=>⟨λi g f q s=>(h.1 i g f q s).same (execOp_put q (lA hs i q · · s) a _ _ ((V i g).2.2 q s)) (wanted_put q a _ _ ((V i g).2.2 q s)),h.2⟩)
      (λa w' d h=>⟨λi g f q s=>(h.1 i g f q s).same rfl rfl,h.2⟩)
      (λa w' ao C h=>⟨λi g f q s=>(h.1 i g f q s).mono C,λi g f=>⟨K7 _ _ _ _ C (h.2.1 i g f).1,(h.2.1 i g f).2.1,kh (h.2.1 i g f).2.2 C.size⟩,ia h.2.2 C.size⟩)
      ai ⟨λi g f=>(U i g f).2,λi g f=>(p i g f).2,Z⟩
     have hu:=uM (vs:=vs) z (lA hs j A · · z) (S.filter done) (λi g=>⟨(V i (i_.1 g).1).1,(V i (i_.1 g).1).2.1⟩) F;refine Qs (qz (λa' w' h=>?_) hu);obtain⟨b,rfl,⟨ah,ak,af⟩,al⟩:=h;refine ih n done vs (c.setIfInBounds j true) b w' (by omega) (I.step J) ?_ ?_ jV af ?_
     ·intro i g f;exact⟨ready_mono (U i g f).1 (λe=>B (e▸g)),ah i g f⟩
     ·intro i g f;exact⟨getD_set_true (p i g f).1,ak i g f⟩
     have e:aS (S.filter λi=>!done i) (c.setIfInBounds j true)=(aS (S.filter λi=>!done i) c).setIfInBounds j true:=by
      have:(aS (S.filter λi=>!done i) c).setIfInBounds j true=aS [j] (aS (S.filter λi=>!done i) c):=rfl;rw[this];have T:∀(l:List Nat) (x:Array Bool),aS [j] (aS l x)=aS l (aS [j] x):=by
       intro l
       induction l with
       | nil=>intro x;rfl
       | cons k l ihl=>
         intro x;simp only[aS] at ihl⊢;rw[ihl];by_cases u:k=j
         ·subst u;rfl
         rw[rF _ _ u]
      rw[T];rfl
     rw[e];exact al
def abz (md:Region.Mode) (ops:Array Oper) (head:Array Bool) (S X:List Nat):Bool:=
 Region.noSelect ops&&decide S.Nodup&&(S.all λi=>match ops[i]? with
  | none=>false
  | some oi=>oi.after.all (λe=>!Region.binds md e)&&(List.range ops.size).all λj=>j==i||match ops[j]? with
    | some oj=>if S.contains j||X.contains j||head.getD j false then oi.apart ops oj&&oj.apart ops oi else waits md ops i ops.size j
    | none=>true)&&(X.all λx=>!S.contains x&&match ops[x]? with
  | none=>true
  | some o=>xE o.op&&o.guard.isNone)
def La {id:Nat} {l:List Oper} (head:Array Bool) (S X:List Nat) (R:Nat->Value->World->Prop) (M:Value->Nat) (n t:Nat) (hm:P.follows .mixedOrders=true) (hn:n+S.length+t=l.length)
 (hB:abz .any l.toArray head S X=true) (K7:∀i v w w',Below w.heap.size w w'->R i v w->R i v w') (J:∀i∈S,∀o,nth l i=some o->mI P l.toArray (R i) M o a w.drew)
 (h:Hm P .any l.toArray head Q (TMk l.toArray S R M w.drew.heap.size (λl' a w=>wpAny P .any l.toArray Q t l' a w)) n (aS S (Array.replicate l.length false)) a w.drew):(Code.region id l.toArray true).wp P Q a w:=by
 refine wp_region_any hm ?_;simp only[abz,js,decide_eq_true_eq,lR] at hB;obtain⟨⟨⟨hs,U⟩,hS⟩,hX⟩:=hB;have p:∀i∈S,∃c,l.toArray[i]? = some c/\(∀e∈c.after,Region.binds .any e=false)/\∀j g,l.toArray[j]? = some g->j≠i->
  (if S.contains j||X.contains j||head.getD j false then c.apart l.toArray g&&g.apart l.toArray c else waits .any l.toArray i l.toArray.size j)=true:=by
  intro i f;have q:=hS i f;cases z:l.toArray[i]? with
  | none=>rw[z] at q;cases q
  | some c=>
    rw[z] at q;simp only[js,zr,lR,nf] at q;refine⟨c,rfl,λe O=>by simpa using q.1 e O,λj g m u=>?_⟩;have y:=q.2 j (ju.1 m).1;simp only[m,mu,beq_iff_eq,u,false_or] at y;simpa using y
 have d:∀i∈S,∀j g,l.toArray[j]? = some g->j≠i->(j∈S\/j∈X\/head.getD j false=true)->∃c,l.toArray[i]? = some c/\c.apart l.toArray g=true/\g.apart l.toArray c=true:=by
  intro i f j g m u hc;obtain⟨c,b,_,y⟩:=p i f;have A:=y j g m u;rw[if_pos (by rcases hc with h|h|h <;> simp[h])] at A;simp only[js] at A;exact⟨c,b,A⟩
 have hf:S.filter (λ_=>false)=[]:=by simp
 have ft:S.filter (λi=>!(λ_=>false) i)=S:=qk.2 (by simp);have:=Hq (P:=P) (ops:=l.toArray) (md:=.any) (head:=head) (Q:=Q) S R M w.drew.heap.size t K7 hs U X
  (λx W=>by
    have I:=hX x W;refine⟨by simpa using I.1,λo z=>?_⟩;have q:=I.2;rw[z] at q;simp only[js,Option.isNone_iff_eq_none] at q;refine⟨q.1,q.2,λi f=>?_⟩;have K:x≠i:=λe=>by have:=I.1;simp at this;exact this (e▸f)
    obtain⟨c,b,E,N⟩:=d i f x o z K (.inr (.inl W));obtain⟨F,H,B⟩:=sf E;obtain⟨b1,b2,b3⟩:=sf N;have hd:bL l.toArray i=c.dst:=by simp[bL,b]
    rw[hd]
    exact⟨F,b2,λs r=>by rw[b] at r;cases r;exact B⟩)
  (λj g m G Og V i f=>by
    obtain⟨c,b,_,y⟩:=p i f;have A:=y j g m (λe=>G (e▸f));rw[if_neg (by simp[G,Og];simpa using V)] at A
    exact A)
  (λj g m G V i f=>by
    obtain⟨c,b,E,N⟩:=d i f j g m (λe=>G (e▸f)) (.inr (.inr V));obtain⟨F,H,B⟩:=sf E;have hd:bL l.toArray i=c.dst:=by simp[bL,b]
    rw[hd]
    exact⟨F,H,λs r=>by rw[b] at r;cases r;exact B⟩)
  (λi f=>by
    obtain⟨c,b,_,_⟩:=p i f;refine⟨c,b,λk hk L=>?_⟩;obtain⟨Y,D,_,_⟩:=p k hk;obtain⟨s,r,E,N⟩:=d i f k Y D L (.inl hk);rw[b] at r;cases r;obtain⟨F,H,B⟩:=sf E;have hd:bL l.toArray k=Y.dst:=by simp[bL,D]
    rw[hd]
    exact⟨B,H⟩)
  (n+S.length) n (λ_=>false) (λ_=>undef) (Array.replicate l.length false) a w.drew (by rw[ft]) (λj o z m=>by simp[Array.getElem?_replicate] at m;split at m <;> simp at m)
  (λi f _=>by
    obtain⟨c,b,C,_⟩:=p i f;have T:i<l.length:=by have:=(ju.1 b).1;simpa using this
    refine⟨?_,λs r=>J i f s (by rw[Gt];simpa using r)⟩;rw[mem_ready]
    exact⟨by simp[T],c,b,λe O Z=>by rw[C e O] at Z;cases Z⟩)
  (λi _ h=>by cases h) (λi _ k _ h=>by cases h) (d' _) (by rw[ft];exact h)
 rw[hf,hn] at this;simpa [dK] using this
end
end
end Go.Cd
namespace Go.Proofs.YtmnimbnojdndmaaGreatDoor
open Go.RowKit Go.Cd _root_.Go.Proofs.Tryz
variable {w:World} {v:Value} {l:List Int}
def bG.nN (h:bG w v (bO l)):∃a cap,v=.slice a l.length cap/\l.length<=cap/\∀i (d:i<l.length),∃b off,a=some ⟨b,off,none⟩/\b<w.heap.size/\w.cell? ⟨b,off+i,none⟩=some (.int .i64 l[i]):=by
 obtain⟨a,cap,j,c,g⟩:=bG.out h;refine⟨a,cap,by rw[j,fq],by rw[fq] at c;exact c,λi d=>?_⟩;obtain⟨b,off,e,k,f⟩:=g i (by rw[fq];exact d);exact⟨b,off,e,k,by rw[f];simp[bO]⟩
def Zy (w:World) (b:Int):Calls prog 126 #[.int .i64 b] w λe w'=>e=.returned (.bool (decide (b<1)))/\w'=w:=by
 go_enter func126,ntmps126;go_wp2;go_ret;exact⟨rfl,rfl⟩
def Hr (h:bG w v (bO l)) (y:l.length<1099511627776) :
 Calls prog 167 #[v,.func (.func 126) #[] #[]] w λe w'=>∃r:Int,e=.returned (.int .i64 r)/\(0<=r↔∃b∈l,b<1)/\Below w.heap.size w w':=by
 obtain⟨J,G,rfl,_,g⟩:=bG.nN h;have A:=aa g;clear h g;go_enter func167,ntmps167;go_wp2_with fail;go_loopw [8] (λi wr=>∃j:Nat,j<=l.length/\i=.int .i64 j/\(∀t (a:t<l.length),t<j->1<=l[t])/\Below w.heap.size w wr)
  (λi _=>l.length-(intOf i).toNat)
 case atStart=>exact⟨0,ic _,rfl,λ_ _ h=>by omega,gS _ _⟩
 case round=>
  obtain⟨j,I,rfl,k,n⟩:=hrel;have x:=aa k;clear k;by_cases q:j<l.length
  ·obtain⟨B,u,rfl,s,m⟩:=A.out j q;have m:=(n.cell (p:=⟨B,u+j,none⟩) s).trans m;have z:=aa (show ∃b∈l,b=l[j] from ⟨_,gw _,rfl⟩);have C:=aa (show ∀t (a:t<l.length),t=j->l[t]=l[j] from λt a e=>by subst e;rfl);generalize l[j]=b at *;go_wp2_with fail;refine(Zy wr b).mono ?_;rintro e H⟨rfl,rfl⟩;by_cases f:b<1
   ·have d:decide (b<1)=true:=decide_eq_true f;rw[d];go_wp2;go_ret;obtain⟨c,E,rfl⟩:=z.out;exact⟨j,rfl,⟨λ_=>⟨c,E,f⟩,λ_=>by omega⟩,n⟩
   have d:decide (b<1)=false:=decide_eq_false f;rw[d];go_wp2;go_roundw
   case rel=>
    refine⟨j+1,by omega,rfl,λt a D=>?_,n⟩;by_cases o:t=j
    ·rw[C.out t a o];exact f
    exact x.out t a (by omega)
   case measure=>simp[intOf];omega
  obtain rfl:j=l.length:=by omega
  go_wp2;go_ret;refine⟨-1,rfl,⟨λh=>by omega,λ⟨b,f,F⟩=>?_⟩,n⟩;obtain⟨t,a,rfl⟩:=rG f;have:=x.out t a a;omega
def Af (h:bG w v (bO l)) (a:l.length<1099511627776) :
 Calls prog 125 #[v,.func (.func 126) #[] #[]] w λe w'=>e=.returned (.bool (l.any λb=>decide (b<1)))/\Below w.heap.size w w':=by
 obtain⟨n,k,i,_,_⟩:=bG.nN h;subst i;have g:=aa (Hr h a);have key:∀r:Int,(0<=r↔∃b∈l,b<1)->decide (0<=r)=l.any λb=>decide (b<1):=λr c=>by
  rw[tW,decide_eq_true_iff,c];simp
 have d:=aa key;clear key h;go_enter func125,ntmps125;go_wp2_with fail;refine g.out.mono ?_;rintro e m⟨r,rfl,c,j⟩;have f:=aa c;clear c;go_wp2;go_ret;exact⟨dV (d.out r f.out),j⟩
def FM (h:bG w v (bO l)) (g:l.length<1099511627776) :
 Calls prog 103 #[v] w λe w'=>∃r,e=.returned r/\w'.ownsRow w.heap.size bB 1 r l.length (bO l)/\Below w.heap.size w w':=by
 rcases h.cases with⟨m,a,cap,rfl,h0⟩|⟨b,off,cap,rfl,n,o,d,i⟩
 ·have k:l=[]:=by simpa [bO] using m
  subst k;cases a with
  | none=>
    refine(Tryz.slices_Clone_int_nil 0 cap w).mono ?_;rintro e w'⟨rfl,rfl⟩;exact⟨_,rfl,iS _ _ _ _,gS _ _⟩
  | some a=>
    refine(Tryz.slices_Clone_int_zero a cap w).mono ?_;rintro e w'⟨r,rfl,c,_,d⟩;exact⟨r,rfl,c,d⟩
 rw[fq] at *;refine(Tryz.slices_Clone_int b off l.length cap l w (d' _) (by omega) (λj f=>?_)).mono ?_
 ·rw[i j (by rw[fq];exact f)];simp[bO,f]
 rintro e w'⟨r,rfl,c,_,d⟩;rw[lB] at c;exact⟨r,rfl,c,d⟩
section
open Go.RowKit Go.Cd Go.Shelf _root_.Go.Proofs.Tryz
attribute [local go_sem] Oper.semAt_some
def acM (F:Fence) (m:Nat) (L:F.fn 168) (y:F.round=none) (R:1<=m) (l Bs b off n cap:Nat) (z:n<1099511627776) {α:Type} (h:Nat->α) (c:α->Array Value) (val:Nat->Int)
 (s:∀j,j<n->c (h j)=#[.int .i64 (j:Int),.int .i64 (val j)]) (J C:List α->World->Prop)
 (D:∀a x W,J a W->a.length<n->YieldAt F (m-1) prog l (c x) W λe f=>
   (e=.returned (.bool true)/\J (a++[x]) f/\lM Bs b W f)\/(e=.returned (.bool false)/\C (a++[x]) f))
 (W:World) (I:W.cell? ⟨Bs,0,none⟩=some (.slice (some ⟨b,off,none⟩) n cap)) (M:∀j,j<n->W.cell? ⟨b,off+j,none⟩=some (.int .i64 (val j))) (h0:J [] W) :
 CallsIn F m prog 168 #[.func (.yield l) #[] #[],.pointer (some ⟨Bs,0,none⟩)] W λe f=>(∃v,e=.returned v)/\
  ((∃A,A=mE h n n/\J A f)\/(∃a,(∃k,k<=n/\a=mE h n k)/\C a f)):=by
 refine callsIn_of_wp func168 rfl L ?_ y;simp only[ntmps168,ps,im,kp,Nat.reduceAdd,Nat.reduceSub,oe,n8,pt,oE,lf,lz]
 gi_wp2
 gi_loopw [3] (λi wr=>∃k:Nat,k<=n/\i=.int .i64 ((n:Int)-1-(k:Int))/\J (mE h n k) wr/\lM Bs b W wr)
  (λi _=>(intOf i+1).toNat)
 case atStart=>exact⟨0,ic _,by simp,h0,lM.refl _ _ _⟩
 case round=>
  obtain⟨k,Q,rfl,r,d⟩:=hrel;have t:=(d.cellP 0).trans I;by_cases w:k<n
  ·obtain⟨i,B⟩:∃i:Nat,(n:Int)-1-(k:Int)=(i:Int):=⟨n-1-k,by omega⟩;have p:i<n:=by omega
   have g:n-1-k=i:=by omega
   have:=(d.ae8 (off+i)).trans (M i p);obtain⟨P,tmps,assign,body,N,H⟩:=D _ (h i) wr r (by rw[zu];exact w);rw[s i p] at N;rw[B];clear B
   gi_wp2
   refine H.mono ?_;rintro e O (⟨rfl,u,o⟩|⟨rfl,q⟩)
   ·have:=(o.cellP 0).trans t
    gi_wp2
    go_roundw
    case rel=>exact⟨k+1,by omega,congrArg (Value.int .i64) (by omega),by rw[aaV,g];exact u,d.trans o⟩
    case measure=>simp[intOf]
   gi_wp2
   refine bodyPost_ret (results_none rfl _ _ _) rfl ?_;exact⟨⟨_,rfl⟩,.inr ⟨_,⟨k+1,by omega,by rw[aaV,g]⟩,q⟩⟩
  obtain rfl:k=n:=by omega
  have E:(k:Int)-1-(k:Int)=-1:=by omega
  rw[E]
  gi_wp2
  go_end0
  exact⟨⟨_,rfl⟩,.inl ⟨_,rfl,r⟩⟩
def Zz (F:Fence) (m:Nat) (d:F.fn 168) (c:F.round=none) (l Bs:Nat) (a:Option Addr) (cap:Nat) {α:Type} (J:List α->World->Prop) (W:World) (g:W.cell? ⟨Bs,0,none⟩=some (.slice a 0 cap)) (h0:J [] W) :
 CallsIn F m prog 168 #[.func (.yield l) #[] #[],.pointer (some ⟨Bs,0,none⟩)] W λe f=>(∃v,e=.returned v)/\J [] f:=by
 refine callsIn_of_wp func168 rfl d ?_ c;simp only[ntmps168,ps,im,kp,Nat.reduceAdd,Nat.reduceSub,oe,n8,pt,oE,lf,lz]
 gi_wp2
 gi_loopw [3] (λi wr=>i=.int .i64 (-1)/\J [] wr) (λ_ _=>0)
 case atStart=>exact⟨rfl,h0⟩
 case round=>
  obtain⟨rfl,b⟩:=hrel
  gi_wp2
  go_end0
  exact⟨⟨_,rfl⟩,b⟩
def Ht (v:Value) (w:World) (b:∃a n cap,v=.slice a n cap) :
 Calls prog 127 #[v] w λe w'=>e=.returned (.func (.func 168) #[] #[.pointer (some ⟨w.heap.size,0,none⟩)])/\w'=w.alloc (.cells #[v] 23):=by
 obtain⟨a,n,cap,rfl⟩:=b;go_enter func127,ntmps127;go_wp2;go_ret;exact⟨rfl,rfl⟩
def Cc (b:Nat) (W:World) (sv:Value) (n:Nat) (val:Nat->Int):Prop:=
 (n=0/\∃a cap,sv=.slice a 0 cap)\/∃off cap,sv=.slice (some ⟨b,off,none⟩) n cap/\b<W.heap.size/\∀j,j<n->W.cell? ⟨b,off+j,none⟩=some (.int .i64 (val j))
def Cc.below {b:Nat} {A B:World} (h:Below A.heap.size A B) {a:Value} {n:Nat} {val:Nat->Int}:Cc b A a n val->Cc b B a n val
 | .inl e=>.inl e
 | .inr ⟨off,cap,e,hb,hc⟩=>.inr ⟨off,cap,e,kh hb h.size,λj c=>(h.cell (p:=⟨b,off+j,none⟩) hb).trans (hc j c)⟩
def Lb (F:Fence) (m:Nat) (s:F.fn 168) (g:F.round=none) (C:1<=m) (Bs b:Nat) (t:Value) (n:Nat) (d:n<1099511627776) {α:Type} (i:Nat->α) (c:α->Array Value) (val:Nat->Int)
 (h:∀j,j<n->c (i j)=#[.int .i64 (j:Int),.int .i64 (val j)]) (w:World) (y:Bs<w.heap.size) (A:w.cell? ⟨Bs,0,none⟩=some t) (hI:Cc b w t n val) :
 SeqStopsK F m prog 168 #[.pointer (some ⟨Bs,0,none⟩)] c (lM Bs b) (λv=>v=mE i n n) (λq=>∃k,k<=n/\q=mE i n k) n w:=λl J B W r _ _ u h0=>by
 have f:=(r.cell (p:=⟨Bs,0,none⟩) y).trans A;rcases hI.below r with⟨rfl,a,cap,rfl⟩|⟨off,cap,rfl,D,o⟩
 ·exact(Zz F m s g l Bs a cap J W f h0).mono λe E ⟨x,z⟩=>⟨x,.inl ⟨_,rfl,by simpa [mE] using z⟩⟩
 exact acM F m s g C l Bs b off n cap d i c val h J B u W f o h0
end
end Go.Proofs.YtmnimbnojdndmaaGreatDoor
