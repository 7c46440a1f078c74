/- One machine of an NFD counts as its units do, multiplied; no condition. -/
import Derived.Test.YtmnimbnojdndmaaGreatDoorR07
set_option maxRecDepth 100000
set_option maxHeartbeats 6400000
set_option linter.all false
namespace Go.Proofs.YtmnimbnojdndmaaGreatDoor
open Go.RowKit Go.Cd _root_.Go.Proofs.Tryz
variable {w:World} {v:Value} {X:List Nat} {T:List aG} {c:Nat}
def GX (l:List Nat) (c:Nat) (k:bG w v (aM l)) (q:fU v) (r:l.length<1000000) (o:c∉l) :
 Calls prog 189 #[v,.int .i32 c] w λe w'=>e=.returned (.bool false)/\w'=w:=by
 obtain⟨a,cap,rfl,_,g⟩:=bG.nN k rfl;rcases l with _|⟨x,l⟩
 ·exact AnyE.slices_Contains_empty Tryz.tC a cap (.int .i32 c) w
 obtain⟨b,off,rfl,_,_⟩:=g 0 (by simp)
 have h:=AnyE.slices_Contains Tryz.tC JZ (λx y=>decide (x=y)) (ae_ _ _) b off (x::l).length cap (x::l) c w (Nat.le_refl _) (by omega) (λj d=>by
  obtain⟨p,f,n,_,i⟩:=g j d;cases n;rw[i,getElem!_pos (x::l) j d]
  rfl)
 refine Calls.mono (h:Calls prog 189 #[.slice (some ⟨b,off,none⟩) (x::l).length cap,.int .i32 c] w _) ?_;rintro e w'⟨rfl,rfl⟩;refine⟨?_,rfl⟩;rw[List.take_length];congr 2;rw[List.any_eq_false];intro y m;simp only[decide_eq_true_eq];rintro rfl;exact o m
def J_ (c:Nat) (b:aP c) (l:List Nat) (d:bG w v (aM l)) (i:fU v) (m:l.length<1000000) (h:c∉l) :
 Calls prog 151 #[.string (tx (aV c)),v] w λe w'=>e=.returned (.tuple #[.int .i32 c,.string ⟨#[]⟩])/\w'=w:=by
 have j:=aa (qJ (w:=w) c b.1);have g:=aa (gZ (w:=w) c (by have:=b.1;omega));rw[decide_eq_true b] at g;have k:=aa (GX l c d i m h);generalize tx (aV c)=s at *;obtain⟨a,cap,rfl,_,_⟩:=bG.nN d rfl;clear d i h b;go_enter func151,ntmps151
 go_wp2_with (first
  | (go_at_call 188;refine j.out.mono ?_;rintro e f⟨rfl,rfl⟩)
  | (go_at_call 96;refine g.out.mono ?_;rintro e f⟨rfl,rfl⟩)
  | (go_at_call 189;refine k.out.mono ?_;rintro e f⟨rfl,rfl⟩))
 go_ret2;exact⟨rfl,rfl⟩
def rY:∀(l a:List Nat) (x:Nat),x∈dW a l↔x∈l/\x∉a
 | [],a,x=>by simp[dW]
 | c::l,a,x=>by
   unfold dW;have g:=rY l (a++[c]) x;by_cases h:c∈a
   ·rw[if_pos h,g];simp only[List.mem_append,List.mem_cons,List.not_mem_nil,or_false];constructor
    ·rintro⟨b,d⟩;exact⟨.inr b,λf=>d (.inl f)⟩
    rintro⟨b|b,d⟩
    ·subst b;exact absurd h d
    exact⟨b,λf=>f.elim d (λe=>by subst e;exact d h)⟩
   rw[if_neg h,List.mem_cons,g];simp only[List.mem_append,List.mem_cons,List.not_mem_nil,or_false];constructor
   ·rintro (b|⟨b,d⟩)
    ·subst b;exact⟨.inl rfl,h⟩
    exact⟨.inr b,λf=>d (.inl f)⟩
   rintro⟨b|b,d⟩
   ·exact .inl b
   by_cases e:x=c
   ·exact .inl e
   exact .inr ⟨b,λf=>f.elim d e⟩
def qP:∀(l a:List Nat),(dW a l).Nodup
 | [],a=>by simp[dW]
 | c::l,a=>by
   unfold dW;by_cases h:c∈a
   ·rw[if_pos h];exact qP l _
   rw[if_neg h,List.nodup_cons];exact⟨λb=>by have:=((rY l (a++[c]) c).1 b).2;simp at this,qP l _⟩
def xY:∀(l a:List Nat),(dW a l).length<=l.length
 | [],a=>by simp[dW]
 | c::l,a=>by
   unfold dW;have:=xY l (a++[c]);by_cases h:c∈a
   ·rw[if_pos h,List.length_cons];omega
   rw[if_neg h,List.length_cons,List.length_cons];omega
def kE (X:List Nat):List Nat:=lC (gu (dW [] X))
def Rp (X:List Nat) (c:Nat):places (kE X) c % 2=1↔c∈X:=by
 unfold kE;rw[JA (lq _).1,(lq _).2,rY];simp
def NH (X:List Nat):(kE X).Pairwise (· < ·):=Ey (lq _).1
def Rq (X:List Nat):(kE X).length<=2*X.length:=by
 have:=AZ (gu (dW [] X));have:=xR (dW [] X);have:=xY X [];unfold kE;omega
def GY (hG:dL w) (hX:∀c∈X,aP c) (z:X.length<10000) :
 Calls prog 106 #[.string (tx (eP X))] w λe w'=>∃r:Value,e=.returned (.tuple #[.agg #[r],.nilIface])/\w'.ownsRow w.heap.size aN 1 r (kE X).length (aM (kE X))/\Below w.heap.size w w':=by
 obtain⟨Y,t⟩:=ae (dW [] X);have ab:Y.length<10000:=by have:=xY X [];rw[<-t] at this;omega
 have GZ:∀c∈Y,aP c:=λc h=>hX c ((rY X [] c).1 (t▸h)).1;have H:Y.Nodup:=by rw[t];exact qP X []
 have D:kE X=lC (gu Y):=by rw[t];rfl
 have F:eP X=bA (Y.map aV):=by rw[t];rfl
 have J:(bA (Y.map aV)).length<1000000:=by
  have:∀l:List Nat,(bA (l.map aV)).length<=l.length*7:=λl=>by
   induction l with
   | nil=>simp[bA]
   | cons c l ih=>
     rw[List.map_cons,mY,List.length_append,List.length_cons,List.length_cons];have:=(bU c).2;omega
  have:=this Y;omega
 have LN:=aa (λW=>tT (w:=W) (Y.map aV) (by
  intro p hp;obtain⟨c,_,rfl⟩:=List.mem_map.1 hp
  exact⟨λb S=>(dX c b S).1,Nat.le_trans (bU c).2 (by decide)⟩) J)
 rw[D,F];obtain⟨s,hs⟩:=ae (tx (bA (Y.map aV)));rw[<-hs] at LN⊢;have M5:=aa GZ;have ac:=aa H;clear hs t GZ H D F J hX z;obtain⟨w0,a⟩:=ae (w.alloc (.cells #[.slice none 0 0] 148));have S:=aO a;have k0:=Is.nw a;have ai:w0.heap.size=w.heap.size+1:=by rw[a];simp
 obtain⟨n,O⟩:=ae Y.length;have B:=aa O;have C:(Y.map aV).length=n:=by rw[List.length_map,O]
 rw[<-O] at ab;clear O;go_enter func106,ntmps106;go_wp2_with fail;rw[<-a];clear a;refine(LN.out w0).mono ?_;rintro e g⟨v1,rfl,R,f⟩;rw[C] at R;obtain⟨a1,c1,rfl,_,_⟩:=ak R
 have HX:=aa (show ∀i (Q:i<Y.length),∃b off,a1=some ⟨b,off,none⟩/\b<g.heap.size/\g.cell? ⟨b,off+i,none⟩=some (.string (tx (aV Y[i]))) from λi Q=>by
  obtain⟨a',ag,h0,_,hx⟩:=(Sl.aU R).out;have ha:a'=a1:=by injection h0 with e1;exact e1.symm
  subst ha;obtain⟨b,off,T,h2,h3⟩:=hx i (by simpa using Q);refine⟨b,off,T,h2,h3.trans ?_⟩
  simp[qM])
 have k1:=k0.mono f;have A:=af S f;have ah:w.heap.size+1<=g.heap.size:=by have:=f.size;omega
 clear LN R C k0 S f;go_wp2_with fail;go_loopw [6,22] (λov iv wr=>∃j:Nat,j<=n/\iv=.int .i64 j/\wr.ownsRow g.heap.size aN 1 ov j (aM (Y.take j))/\Below g.heap.size g wr) (λ_ iv _=>n-(intOf iv).toNat)
 case atStart=>exact⟨0,Nat.zero_le _,rfl,World.ownsRow_nil _ _ _ _,Below.refl _ _⟩
 case round=>
  obtain⟨j,hj,rfl,m,u⟩:=hrel;by_cases al:j<n
  ·have zj:=eG (show j<n by omega);have d:j<Y.length:=by have:=B.out;omega
   obtain⟨b,off,rfl,_,G⟩:=HX.out j d;have G:=aB u G;have K:=M5.out _ (List.getElem_mem d);have HT:=aa (show Y.take (j+1)=Y.take j++[Y[j]] from List.take_succ_eq_append_getElem d);have I:Y[j]∉Y.take j:=λh=>by
    obtain⟨i,Q,e⟩:=List.mem_iff_getElem.1 h;rw[List.getElem_take] at e;rw[List.length_take] at Q;exact List.pairwise_iff_getElem.1 ac.out i j (by omega) d (by omega) e
   have ST:=aa (DI ((hG.mono A).mono u) Y[j]);have EC:=aa (λ(W:World) (v:Value) (h:W.ownsRow g.heap.size aN 1 v j (aM (Y.take j)))=>J_ (w:=W) Y[j] K (Y.take j) (Sl.aU h).any (fU.aU h) (by rw[List.length_take];omega) I);obtain⟨T,h2⟩:=bU Y[j];have z1:(tx (aV Y[j])).toList.isEmpty=false:=by
    rw[Lib.toList_data,dM];cases e:aV Y[j] with
    | nil=>rw[e] at T;simp at T
    | cons x r=>rfl
   have z2:(⟨#[]⟩:ByteArray).toList.isEmpty=true:=by rw[Lib.toList_data];rfl
   generalize Y[j]=c at *;generalize tx (aV c)=sc at *;clear I K;obtain⟨av,cv,rfl,_,_⟩:=ak m;go_wp2_with fail;refine ST.out.mono ?_;rintro e w2⟨rfl,M⟩;have y:=aH m M;have E:=af u M;have ad:=aa (EC.out w2 _ y);clear ST EC m
   go_wp2_with (first
    | (go_at_call 151;refine ad.out.mono ?_;rintro e w3⟨rfl,rfl⟩)
    | (at_builtin;refine f_ rfl _ _ 35 rfl g.heap.size aN _ 4 bW (.slice av j cv) j _ rfl y (.int .i32 (c:Nat)) rfl rfl (by omega) (by unfold maxLen;omega) _ (Below.refl _ _) E.size ?_;intro v1 w6 o6 mF _ _;obtain⟨a6,c6,rfl,_,_⟩:=ak o6))
   go_roundw
   case rel=>
    refine⟨j+1,by omega,by simp,?_,E.trans mF⟩;rw[HT.out,a_];exact o6
   case measure=>simp[intOf];omega
  have zj:=gI (show n<=j by omega);obtain rfl:j=n:=by omega
  rw[List.take_of_length_le (by have:=B.out;omega)] at m;obtain⟨av,cv,rfl,_,_⟩:=ak m;have L:=af A u;have o:=Sl.aU m;have q:=fU.aU m;rw[B.out] at o q;have CH:=aa (uD Y o q M5.out (by have:=B.out;omega));rw[<-B.out] at CH;have K1:=k1.mono u;clear m o q;go_wp2_with fail;refine CH.out.mono ?_;rintro e w3⟨r3,rfl,Z,N⟩;have V:=K1.mono N;obtain⟨U,c3,rfl,_,_⟩:=ak Z;have e0:=V.at 0 rfl;have f0:=V.frozen 0;have am:=u.size;have M6:=aa Z;clear Z;go_wp2
  (try simp only[Exit.inBlock,Exit.then])
  have P:=V.set 0 (.slice U (lC (gu Y)).length c3);have v0:=P.at 0 rfl;refine bodyPost_ret (v:=.tuple #[.agg #[.slice U (lC (gu Y)).length c3],.nilIface]) (by simp[results,results106,go_sem,v0]) rfl ?_;have hq:=bn M6.out (Go.Cd.aQ M6.out (k:=w.heap.size) (by omega)) 0 (.slice U (lC (gu Y)).length c3);exact⟨_,rfl,aT hq (show w.heap.size<=wr.heap.size by omega),aj (L.trans (N.mono L.size)) (Nat.le_refl _)⟩
def zD (w:World) (v:Value) (T:List aG):Prop:=
 ∃a cap,v=.slice a T.length cap/\T.length<=cap/\∀i (c:i<T.length),∃b off m,a=some ⟨b,off,none⟩/\b<w.heap.size/\
  w.cell? ⟨b,off+i*3,none⟩=some (.int .i32 T[i].code)/\w.cell? ⟨b,off+i*3+1,none⟩=some (.int .i64 T[i].cls)/\w.cell? ⟨b,off+i*3+2,none⟩=some m/\Sl aN w m (aM T[i].map)/\fU m
def zD.mono {w':World} (h:zD w v T) (c:Below w.heap.size w w'):zD w' v T:=by
 obtain⟨a,cap,k,o,h⟩:=h;refine⟨a,cap,k,o,λi f=>?_⟩;obtain⟨b,off,m,j,d,n,e,g,l,p⟩:=h i f;exact⟨b,off,m,j,Nat.lt_of_lt_of_le d c.size,aB c n,aB c e,aB c g,l.mono c,p⟩
def zD.aU {base:Nat} {L:List (aG×Value)} (h:w.ownsRow base h_ 3 v L.length (L.flatMap dY)) (k:∀x∈L,Sl aN w x.2 (aM x.1.map)/\fU x.2):zD w v (L.map (·.1)):=by
 obtain⟨a,cap,rfl,p,_⟩:=ak h;refine⟨a,cap,by rw[List.length_map],by rw[List.length_map];exact p,λi l=>?_⟩;have b:i<L.length:=by simpa using l
 obtain⟨g,d,e,_,j,_,c⟩:=dC Bu rfl h b;cases e;obtain⟨o,f⟩:=k _ (List.getElem_mem b);have n:=(c 0 (by decide)).1;have q:=(c 1 (by decide)).1;have m:=(c 2 (by decide)).1;refine⟨g,0,L[i].2,rfl,j,?_,?_,?_,?_,f⟩
 ·rw[Nat.zero_add];simpa [dY] using n
 ·rw[Nat.zero_add];simpa [dY] using q
 ·rw[Nat.zero_add];simpa [dY] using m
 simpa using o
def qQ (w:World) (v:Value) (T:List aG) (X:List Nat):Prop:=∃r x,v=.agg #[r,x]/\zD w r T/\bG w x (aM (kE X))
def qQ.mono {w':World} (h:qQ w v T X) (a:Below w.heap.size w w'):qQ w' v T X:=by
 obtain⟨r,x,b,c,d⟩:=h;exact⟨r,x,b,c.mono a,d.mono a⟩
def nP (T:List aG) (c:Nat):aG:=(rowOf T c).getD ⟨0,0,[]⟩
def G5 (T:List aG) (c:Nat):ai T c=(nP T c).cls:=by
 unfold ai nP;cases rowOf T c <;> rfl
def Ka (a b:Int) (m:Value) (c:Int) (g:0<=a/\a<2147483648) (i:0<=c/\c<2147483648) :
 Calls prog 228 #[.agg #[.int .i32 a,.int .i64 b,m],.int .i32 c] w λe w'=>e=.returned (.int .i64 (a-c))/\Below w.heap.size w w':=by
 have f:=ah (w:=w) (.cells #[.int .i32 a,.int .i64 b,m] 196);have d:=Is.new w #[.int .i32 a,.int .i64 b,m] 196;have:=d.at 0 rfl;go_enter func228,ntmps228;go_wp2;go_ret;exact⟨rfl,f⟩
def Fg {k:Nat} (b:k<T.length) (d:∀t (a:t<T.length),t<k->T[t].code<c) (h:T[k].code=c):rowOf T c=some T[k]:=by
 refine Ba b (λr e=>?_) h;obtain⟨t,a,rfl⟩:=List.mem_iff_getElem.1 e;rw[List.length_take] at a;rw[List.getElem_take];have:=d t (by omega) (by omega);omega
def Bw {k:Nat} (e:rising T) (d:∀t (a:t<T.length),t<k->T[t].code<c) (b:∀t (a:t<T.length),k<=t->c<=T[t].code) (h:∀i:k<T.length,T[k].code≠c):rowOf T c=none:=by
 refine oV λr f=>?_;obtain⟨t,a,rfl⟩:=List.mem_iff_getElem.1 f;rcases Nat.lt_trichotomy t k with h3|h3|h3
 ·have:=d t a h3;omega
 ·subst h3;exact h a
 have:=jy e k t (by omega) a h3;have:=b k (by omega) (Nat.le_refl _);omega
def acb (h:zD w v T) (X:rising T) (S:∀r∈T,r.code<1114112) (hl:T.length<1000000) (c:Nat) (hc:c<1114112) :
 Calls prog 227 #[v,.int .i32 c,.func (.func 228) #[] #[]] w λe w'=>
  ∃k:Nat,e=.returned (.tuple #[.int .i64 k,.bool (rowOf T c).isSome])/\((rowOf T c).isSome=true->rowOf T c=T[k]?)/\Below w.heap.size w w':=by
 obtain⟨a,cap,rfl,_,U⟩:=h;have V:=aa U;obtain⟨n,E⟩:=ae T.length;have F:=aa E;have D:=aa X;have Z:=aa S;rw[<-E] at hl⊢;clear U E X S;go_enter func227,ntmps227;go_wp2
 go_loopg [9,10] n (λg s7 s8 wr=>∃f d:Nat,s7=.int .i64 f/\s8=.int .i64 d/\f<=d/\d<=n/\d-f<=g/\Below w.heap.size w wr/\(∀t (l:t<T.length),t<f->T[t].code<c)/\(∀t (l:t<T.length),d<=t->c<=T[t].code))
 case atStart=>exact⟨0,n,rfl,rfl,Nat.zero_le _,Nat.le_refl _,by omega,Below.refl _ _,λt _ l=>absurd l (Nat.not_lt_zero _),λt R G=>by have:=F.out;omega⟩
 case round=>
  obtain⟨f,d,rfl,rfl,ab,P,hg,o,R,G⟩:=hrel;have I:=aa (And.intro R G);clear R G;by_cases ac:f<d
  ·have s:(f+d) / 2<T.length:=by have:=F.out;omega
   obtain⟨b,off,m,rfl,_,C,A,B,K,x⟩:=V.out ((f+d) / 2) s;have C:=aB o C;have A:=aB o A;have B:=aB o B;have O:=Z.out _ (List.getElem_mem s);obtain⟨Q,nm,J,rfl,_⟩:=x;have z:=aa (λW=>Ka (w:=W) (T[(f+d) / 2].code:Nat) (T[(f+d) / 2].cls:Nat) (.slice Q nm J) (c:Nat) ⟨by omega,by omega⟩ ⟨by omega,by omega⟩);have Y1:=aa (λt (l:t<T.length) (h:t<(f+d) / 2)=>jy D.out t _ l s h);have Y2:=aa (λt (l:t<T.length) (h:(f+d) / 2<t)=>jy D.out _ t s l h);have Y:=aa (show ∀t (l:t<T.length),t=(f+d) / 2->T[t].code=T[(f+d) / 2].code from λt l e=>by subst e;rfl);clear K;generalize T[(f+d) / 2].code=y at *;generalize T[(f+d) / 2].cls=yc at *;by_cases p:y<c
   ·have H:decide ((y:Int)-(c:Int)<0)=true:=by simp;omega
    go_wp2_with (go_at_call 228;refine(z.out _).mono ?_;rintro e L⟨rfl,j⟩)
    go_roundg (d-((f+d) / 2+1))
    case measure=>omega
    case rel=>
     refine⟨(f+d) / 2+1,d,by rw[show((f:Int)+(d:Int)) / 2+1=(((f+d) / 2+1:Nat):Int) by omega],rfl,by omega,P,Nat.le_refl _,af o j,λt l h=>?_,I.out.2⟩;rcases Nat.lt_or_ge t ((f+d) / 2) with h3|h3
     ·have:=Y1.out t l h3;omega
     have:=Y.out t l (by omega);omega
   have H:decide ((y:Int)-(c:Int)<0)=false:=by simp;omega
   go_wp2_with (go_at_call 228;refine(z.out _).mono ?_;rintro e L⟨rfl,j⟩)
   go_roundg ((f+d) / 2-f)
   case measure=>omega
   case rel=>
    refine⟨f,(f+d) / 2,rfl,by rw[show((f:Int)+(d:Int)) / 2=(((f+d) / 2:Nat):Int) by omega],by omega,by omega,Nat.le_refl _,af o j,I.out.1,λt l h=>?_⟩;rcases Nat.lt_or_ge ((f+d) / 2) t with h3|h3
    ·have:=Y2.out t l h3;omega
    have:=Y.out t l (by omega);omega
  have:d=f:=by omega
  subst this;by_cases E:d<n
  ·have s:d<T.length:=by have:=F.out;omega
   obtain⟨b,off,m,rfl,_,C,A,B,K,x⟩:=V.out d s;have C:=aB o C;have A:=aB o A;have B:=aB o B;have O:=Z.out _ (List.getElem_mem s);obtain⟨Q,nm,J,rfl,_⟩:=x;have z:=aa (λW=>Ka (w:=W) (T[d].code:Nat) (T[d].cls:Nat) (.slice Q nm J) (c:Nat) ⟨by omega,by omega⟩ ⟨by omega,by omega⟩);clear K;have M:=aa (show T[d].code=c->rowOf T c=some T[d] from λh=>Fg s I.out.1 h);have N:=aa (show T[d].code≠c->rowOf T c=none from λh=>Bw D.out I.out.1 I.out.2 (λ_=>h));have R3:=aa (show some T[d]=T[d]? from (List.getElem?_eq_getElem s).symm);have R4:∃y,y=T[d].code:=⟨_,rfl⟩;generalize T[d]=q at *;by_cases p:q.code=c
   ·have H:(((q.code:Int)-(c:Int))==0)=true:=by simp;omega
    have i:=M.out p;have u:=aa i;clear i p M N;go_wp2_with (go_at_call 228;refine(z.out _).mono ?_;rintro e L⟨rfl,j⟩);go_ret2;refine⟨d,?_,λ_=>by rw[u.out,R3.out],af o j⟩;rw[u.out];rfl
   have H:(((q.code:Int)-(c:Int))==0)=false:=by simp;omega
   have i:=N.out p;have u:=aa i;clear i p M N;go_wp2_with (go_at_call 228;refine(z.out _).mono ?_;rintro e L⟨rfl,j⟩);go_ret2;refine⟨d,?_,λh=>?_,af o j⟩
   ·rw[u.out];rfl
   rw[u.out] at h;cases h
  have u:=aa (Bw D.out I.out.1 I.out.2 (λhk=>absurd hk (by have:=F.out;omega)));go_wp2_with (go_at_call 228;trivial);go_ret2;refine⟨d,?_,λh=>?_,o⟩
  ·rw[u.out];rfl
  rw[u.out] at h;cases h
structure iX (T:List aG):Prop where
 rise:rising T
 code:∀r∈T,r.code<1114112
 map:∀r∈T,r.map.length<=2
 acd:∀r∈T,∀x∈r.map,x<1114112
 len:T.length<40000
def xZ (h:qQ w v T X) (A:iX T) (c:Nat) (hc:c<1114112) :
 Calls prog 194 #[v,.int .i32 c] w λe w'=>∃m,e=.returned (.tuple #[.agg #[.int .i32 (nP T c).code,.int .i64 (nP T c).cls,m],.bool (rowOf T c).isSome])/\Sl aN w' m (aM (nP T c).map)/\fU m/\Below w.heap.size w w':=by
 obtain⟨r,x,rfl,V,Y⟩:=h;obtain⟨ra,Vd,rfl,_,Z⟩:=id V;obtain⟨nx,y⟩:∃n,n=(kE X).length:=⟨_,rfl⟩;obtain⟨xa,xc,rfl,_,_⟩:=bG.nN Y y;clear y;obtain⟨w1,f⟩:=ae (w.alloc (.cells #[.slice ra T.length Vd,.slice xa nx xc] 150));have k1:=Is.nw f;have B:=aO f;obtain⟨w2,d⟩:=ae (w1.alloc (.cells #[.int .i32 0,.int .i64 0,.slice none 0 0] 196));have o:=aO d;have k2:=k1.mono o;have l2:=Is.nw d;have E:w1.heap.size=w.heap.size+1:=by rw[f];simp
 rw[E] at l2;have O:=af B o;have S:=aa (acb (V.mono O) A.rise A.code (by have:=A.len;omega) c hc);have HX:=aa Z;have:w2.heap.size=w.heap.size+2:=by rw[d,World.size_alloc,E]
 have e0:=k2.at 0 rfl;have a:nP T c=(rowOf T c).getD ⟨0,0,[]⟩:=rfl;have i:=aa a;rw[f] at d;clear Z V Y k1 B o f a;go_enter func194,ntmps194;go_wp2_with fail;rw[<-d];clear d;refine S.out.mono ?_;rintro e w3⟨k,rfl,G,l⟩;have k3:=k2.mono l;have g:=l2.mono l;have e0:=k3.at 0 rfl;have:=g.at 0 rfl;have:=g.at 1 rfl;have:=g.at 2 rfl;have:=g.frozen 0;have:=g.frozen 1;have:=g.frozen 2;cases s:rowOf T c with
 | none=>
   have a:=i.out;rw[s] at a;have J:=aa s;have t:=aa a;clear s G S a i A;go_wp2
   (try simp only[Exit.inBlock,Exit.then])
   have P:=((g.set 0 (.int .i32 0)).set 1 (.int .i64 0)).set 2 (.slice none 0 0);have U:=P.at 0 rfl;have Q:=P.at 1 rfl;have N:=P.at 2 rfl;refine bodyPost_ret (v:=.tuple #[.agg #[.int .i32 0,.int .i64 0,.slice none 0 0],.bool false]) (by simp[results,results194,go_sem,U,Q,N]) rfl ?_;have hB:=af O l;refine⟨.slice none 0 0,?_,?_,⟨none,0,0,rfl,.inl rfl⟩,aj (aj (aj hB (by omega)) (by omega)) (by omega)⟩
   ·rw[t.out,J.out];rfl
   rw[t.out];exact Sl.nil _ _ _ _ (λ_=>rfl)
 | some q=>
   have a:=i.out;rw[s] at a G;have J:=aa s;have hq:some q=T[k]?:=G rfl;obtain⟨R,D⟩:=List.getElem?_eq_some_iff.1 hq.symm;obtain⟨b,off,m,rfl,ac,W,M,c2,K,j⟩:=HX.out k R;rw[D] at W M K;have C:=af O l;have W:=aB C W;have M:=aB C M;have c2:=aB C c2;have u:=K.mono C;obtain⟨H,nm,F,rfl,j⟩:=j;have t:=aa a;have Rt:=aa u;have L:=aa j;clear s G S a i A hq D K u j;have p:=t.out;simp only[Option.getD_some] at p;have z:=aa p;clear p t;go_wp2
   (try simp only[Exit.inBlock,Exit.then])
   have P:=((g.set 0 (.int .i32 (q.code:Nat))).set 1 (.int .i64 (q.cls:Nat))).set 2 (.slice H nm F);have U:=P.at 0 rfl;have Q:=P.at 1 rfl;have N:=P.at 2 rfl;refine bodyPost_ret (v:=.tuple #[.agg #[.int .i32 (q.code:Nat),.int .i64 (q.cls:Nat),.slice H nm F],.bool true]) (by simp[results,results194,go_sem,U,Q,N]) rfl ?_;have I:196≠aN:=by decide
   refine⟨.slice H nm F,?_,?_,⟨H,nm,F,rfl,L.out⟩,aj (aj (aj C (by omega)) (by omega)) (by omega)⟩
   ·rw[z.out,J.out];rfl
   rw[z.out];exact((Rt.out.put g.at_ I).put (g.set 0 _).at_ I).put ((g.set 0 _).set 1 _).at_ I
def qQ.shape (h:qQ w v T X):∃j e g k i f,v=.agg #[.slice j e g,.slice k i f]:=by
 obtain⟨r,x,rfl,⟨a,cap,rfl,_⟩,d⟩:=h;obtain⟨b,c,rfl,_⟩:=bG.out d;exact⟨_,_,_,_,_,_,rfl⟩
def NI (h:qQ w v T X) (n:iX T) (c:Nat) (y:c<1114112) :
 Calls prog 226 #[v,.int .i32 c] w λe w'=>e=.returned (.int .i64 (ai T c))/\Below w.heap.size w w':=by
 obtain⟨u,r,x,q,p,s,rfl⟩:=h.shape;obtain⟨B,a⟩:=ae (w.alloc (.cells #[.slice u r x,.slice q p s] 150));have i:=Is.nw a;have b:=aO a;have k:=aa (xZ (h.mono b) n c y);have o:=i.at 0 rfl;have z:=i.at 1 rfl;rw[G5];clear h n;go_enter func226,ntmps226;go_wp2_with fail;rw[<-a];clear a;refine k.out.mono ?_;rintro e j⟨m,rfl,_,⟨l,nm,g,rfl,_⟩,f⟩;have d:=ah (w:=j) (.cells #[.int .i32 (nP T c).code,.int .i64 (nP T c).cls,.slice l nm g] 196);have t:=Is.new j #[.int .i32 (nP T c).code,.int .i64 (nP T c).cls,.slice l nm g] 196;have:=t.at 1 rfl;clear k o z;go_wp2;go_ret;exact⟨rfl,b.trans ((af f d).mono b.size)⟩
def Fh (h:4<=hk c):∃a b,dI c=[a,b]:=by
 have d:dI c≠[]:=λe=>by have:=xS.1 e;omega
 unfold dI at *;by_cases g:hk c=4
 ·exact⟨_,_,if_pos g⟩
 rw[if_neg g] at d⊢;by_cases f:hk c=5
 ·exact⟨_,_,if_pos f⟩
 rw[if_neg f] at d;exact absurd rfl d
def Ru (h:hk c<4):mapOf T c=(nP T c).map:=by
 unfold mapOf bP nP;rw[if_pos h];cases rowOf T c <;> rfl
def Kb (h:qQ w v T X) (p:iX T) (c:Nat) (x:c<1114112) :
 Calls prog 225 #[v,.int .i32 c] w λe w'=>∃r,e=.returned r/\w'.ownsRow w.heap.size aN 1 r (mapOf T c).length (aM (mapOf T c))/\Below w.heap.size w w':=by
 obtain⟨L,J,O,I,H,K,rfl⟩:=h.shape;obtain⟨n,d⟩:=ae (w.alloc (.cells #[.slice L J O,.slice I H K] 150));have t:=Is.nw d;have g:=aO d;have y:n.heap.size=w.heap.size+1:=by rw[d];simp
 by_cases Q:4<=hk c
 ·obtain⟨a,b,j⟩:=Fh Q;have s:=aa (lF (w:=n) x j);have k:mapOf T c=[a,b]:=by unfold mapOf;rw[if_neg (by omega),j]
  rw[k];have A:=mU n #[.int .i32 (a:Nat),.int .i32 (b:Nat)] aN 2 rfl (by decide);rw[y] at A;have u:=ah (w:=n) (.cells #[.int .i32 a,.int .i32 b] aN);clear k j h p t;go_enter func225,ntmps225;go_wp2_with fail;rw[<-d];clear d;refine s.out.mono ?_;rintro e B⟨rfl,rfl⟩;go_wp2;go_ret;exact⟨_,rfl,aT A (by omega),g.trans (u.mono g.size)⟩
 have D:=aa (xZ (h.mono g) p c x);have s:=aa (rR (w:=n) x (by omega));have F:(nP T c).map.length<1000000:=by
  unfold nP;cases M:rowOf T c with
  | none=>simp
  | some q=>
    have:=p.map q (List.mem_of_find?_eq_some M);simp only[Option.getD_some];omega
 rw[Ru (by omega)];generalize nP T c=q at *;have G:=t.at 0 rfl;have S:=t.at 1 rfl;clear h p;go_enter func225,ntmps225;go_wp2_with fail;rw[<-d];clear d;refine s.out.mono ?_;rintro e B⟨⟨a,b,rfl⟩,rfl⟩;go_wp2_with fail;refine D.out.mono ?_;rintro e U⟨m,rfl,k,l,o⟩;obtain⟨w4,f⟩:=ae (U.alloc (.cells #[.int .i32 q.code,.int .i64 q.cls,m] 196));have i:=aO f;have P:=Is.nw f;have C:=aa (kX q.map (k.mono i) l F);obtain⟨Z,nm,W,rfl,_⟩:=l;have E:=P.at 2 rfl;clear D G S k;rw[f] at E;go_wp2_with fail;rw[<-f];refine C.out.mono ?_;rintro e w5⟨r,rfl,z,R⟩;have:B.heap.size<=w4.heap.size:=Nat.le_trans o.size i.size;obtain⟨ar,V,rfl,_,_⟩:=ak z;clear E f C;have N:=aa z;clear z;go_wp2;go_ret;exact⟨_,rfl,aT N.out (by omega),g.trans ((af (af o i) R).mono g.size)⟩
def Bz {M:Nat->List Nat} {l:List Nat}:anyM M l=false↔tJ M l:=by
 unfold anyM tJ;rw[List.any_eq_false];constructor
 ·intro h x a;have:=h x a;simpa using this
 intro h x a;simp[h x a]
def Ve {x:Nat} (f:c<1114112) (h:x∈dI c):x<1114112:=by
 unfold dI at h
 split at h
 ·rename_i a;have:=oQ.1 a;have:(c-44032) % 588 / 28<21:=by omega
  have:(c-44032) / 588<19:=by omega
  generalize (c-44032) % 588 / 28=p at *;generalize (c-44032) / 588=q at *;simp only[List.mem_cons,List.not_mem_nil,or_false] at h;rcases h with rfl|rfl <;> omega
 split at h
 ·have:=Nat.mod_lt (c-44032) (show 28 > 0 by decide);generalize (c-44032) % 28=p at *;simp only[List.mem_cons,List.not_mem_nil,or_false] at h;rcases h with rfl|rfl <;> omega
 simp at h
def Kc (d:∀r∈T,∀x∈r.map,x<1114112) {x:Nat} (b:c<1114112) (h:x∈mapOf T c):x<1114112:=by
 unfold mapOf at h
 split at h
 ·unfold bP at h;cases a:rowOf T c with
  | none=>rw[a] at h;simp at h
  | some r=>rw[a] at h;exact d r (List.mem_of_find?_eq_some a) x h
 exact Ve b h
def Vf (e:∀r∈T,∀x∈r.map,x<1114112) {l:List Nat} (d:∀x∈l,x<1114112):∀x∈dm (mapOf T) l,x<1114112:=by
 intro x a;unfold dm at a;obtain⟨c,b,a⟩:=List.mem_flatMap.1 a
 split at a
 ·rw[List.mem_singleton.1 a];exact d c b
 exact Kc e (d c b) a
instance (T:List aG) (c:Nat):Decidable (fQ T c):=by unfold fQ tJ;exact inferInstance
def NJ {i:Nat} (b:i<=T.length+3) (h:32<(steps (mapOf T) i [c]).length):¬fQ T c:=by
 rintro⟨_,a⟩;rw[jo,show T.length+3=i+(T.length+3-i) by omega,xU] at a;have:=xV (mapOf T) (T.length+3-i) (steps (mapOf T) i [c]);omega
def Ke (h:32<(dm (mapOf T) (steps (mapOf T) (T.length+3) [c])).length) (b:(steps (mapOf T) (T.length+3) [c]).length<=32):¬fQ T c:=by
 rintro⟨a,_⟩;rw[jo] at a;rw[qF a] at h;omega
def wD (h:jq w v T X) (c:Nat) (hc:c<1114112) (hT:∀r∈T,∀x∈r.map,x<1114112) (JF:∀r∈T,r.map.length<=4) (J:T.length<1000000) :
 Calls prog 36 #[v,.int .i64 c] w λe w'=>∃r,e=.returned (.tuple #[r,.bool (decide (fQ T c))])/\(fQ T c->bG w' r (ints (aD T c)))/\Below w.heap.size w w':=by
 have HT:=aa h;obtain⟨r,x,rfl,⟨a,cap,rfl,_⟩,K⟩:=h;obtain⟨y,H,rfl,_,_⟩:=Go.Cd.bG.out K;obtain⟨d,t⟩:∃n,n=T.length:=⟨_,rfl⟩;obtain⟨z,R⟩:∃n,n=(ints X).length:=⟨_,rfl⟩;rw[<-t,<-R] at HT⊢;have O:=aa t;have ai:d<1000000:=by omega
 have hb:=ah (w:=w) (.cells #[.slice a d cap,.slice y z H] 25);have d0:(w.alloc (.cells #[.slice a d cap,.slice y z H] 25)).cell? ⟨w.heap.size,0,none⟩=some (.slice a d cap):=by unfold World.cell?;rw[heap_alloc_new];rfl
 have d1:(w.alloc (.cells #[.slice a d cap,.slice y z H] 25)).cell? ⟨w.heap.size,1,none⟩=some (.slice y z H):=by unfold World.cell?;rw[heap_alloc_new];rfl
 obtain⟨I,Y⟩:=ae (w.alloc (.cells #[.slice a d cap,.slice y z H] 25));rw[<-Y] at hb d0 d1;obtain⟨W1,g⟩:=ae (I.alloc (.cells #[.int .i64 c] bB));have k:Below I.heap.size I W1:=by subst g;exact ah _
 have s1:bG W1 (.slice (some ⟨w.heap.size+1,0,none⟩) 1 1) (ints [c]):=by
  subst g;have:=rP I #[.int .i64 c] bB;rw[show I.heap.size=w.heap.size+1 by rw[Y];simp] at this;exact this
 rw[Y] at g;obtain⟨P,hP⟩:=ae (decide (fQ T c));have HP:=aa hP;rw[<-hP];have N:=af hb k;have e0:=aB k d0;have e1:=aB k d1;have HH:=aa hT;clear Y K t R d0 d1 hP hT J;go_enter func36,ntmps36;go_wp2_with fail;rw[<-g];clear g;go_loopw [6,7] (λlv iv wr=>∃(i:Nat) (L:List Nat),i<=d+4/\iv=.int .i64 i/\L=steps (mapOf T) i [c]/\L.length<=32/\(∀x∈L,x<1114112)/\(i=d+4->¬fQ T c)/\bG wr lv (ints L)/\Below W1.heap.size W1 wr) (λ_ iv _=>d+4-(intOf iv).toNat)
 case atStart=>exact⟨0,[c],Nat.zero_le _,rfl,rfl,by simp,by simpa using hc,λh=>by omega,s1,Below.refl _ _⟩
 case round=>
  clear s1 k;obtain⟨i,L,hi,rfl,hL,YS,F,o,Z,hE⟩:=hrel;have fT:=af N hE;have f0:=aB hE e0;have f1:=aB hE e1;have M:=aa (GL (HT.out.mono fT) Z F JF (by have:=O.out;omega) (by omega));obtain⟨nl,Q⟩:∃n,n=L.length:=⟨_,rfl⟩;obtain⟨al,cl,rfl,_,_⟩:=bG.nO Z Q;have HS:=aa Z;have A:=aa hL;have HE:=aa o;clear Z Q hL o;by_cases ag:i<=d+3
  ·go_wp2_with fail;refine M.out.mono ?_;rintro e w2⟨r2,rfl,W,K⟩;have B:=af hE K;have S:=af N B;have s2:=(Sl.aU W).any;cases u:anyM (mapOf T) L
   ·have m:=Bz.1 u;have b:aD T c=L:=by rw[A.out] at m⊢;exact GK (by have:=O.out;omega) m
    have C:fQ T c:=⟨by rw[b];exact m,by rw[b];exact YS⟩;have E:P=true:=HP.out.trans (decide_eq_true C);have HF:=aa b;subst E;have q:=aa (HS.out.mono K);clear M W s2 u m C b;go_wp2;go_ret2;exact⟨_,rfl,λ_=>by rw[HF.out];exact q.out,S⟩
   obtain⟨n2,f⟩:∃n,n=(dm (mapOf T) L).length:=⟨_,rfl⟩;obtain⟨a2,c2,rfl,_,_⟩:=bG.nO s2 f;have ab:=aa f;have q:=aa s2;have l:dm (mapOf T) L=steps (mapOf T) (i+1) [c]:=by rw[A.out,uz]
   have ac:=aa l;by_cases s:32<n2
   ·have p:¬fQ T c:=by
     by_cases aj:i+1<=d+3
     ·exact NJ (i:=i+1) (by have:=O.out;omega) (by rw[<-l,<-f];exact s)
     have j:i=T.length+3:=by have:=O.out;omega
     rw[f,A.out,j] at s;exact Ke s (by rw[<-j,<-A.out];exact YS)
    have E:P=false:=HP.out.trans (decide_eq_false p);have Ur:=aa p;subst E;clear M W s2 u f l p;go_wp2;go_ret2;exact⟨_,rfl,λh=>absurd h Ur.out,S⟩
   have G:=aa (Vf HH.out F);have U:i+1=d+4->¬fQ T c:=by
    rintro D⟨V,_⟩;have j:i=T.length+3:=by have:=O.out;omega
    rw[jo,<-j,<-A.out] at V;rw[Bz.2 V] at u;cases u
   have ad:=aa U;clear M W s2 u f l U;go_wp2;go_roundw
   case rel=>exact⟨i+1,dm (mapOf T) L,by omega,rfl,ac.out,by rw[<-ab.out];omega,G.out,ad.out,q.out,B⟩
   case measure=>simp[intOf];omega
  have D:i=d+4:=by omega
  have Ur:=aa (HE.out D);have E:P=false:=HP.out.trans (decide_eq_false Ur.out);subst E;clear M;go_wp2;go_ret2;exact⟨_,rfl,λh=>absurd h Ur.out,fT⟩
def Rv {A B C:World} {u:Value} (a:A.grownBy B u.ownBlock) (d:kK A u v) (b:B.grownBy C v.ownBlock):A.grownBy C u.ownBlock:=by
 refine⟨b.os.trans a.os,b.tape.trans a.tape,b.output.trans a.output,Nat.le_trans a.size b.size,λk f c=>?_⟩;refine(b.block k (Nat.lt_of_lt_of_le f a.size) λe=>?_).trans (a.block k f c);rcases d with d|⟨i,g,h⟩
 ·exact c (e.trans d)
 rw[g] at e;cases e;omega
def NK (h:∀r∈T,r.map.length<=2) (c:Nat):(mapOf T c).length<=2:=by
 unfold mapOf
 split
 ·unfold bP;cases a:rowOf T c with
  | none=>simp
  | some r=>exact h r (List.mem_of_find?_eq_some a)
 exact EO c
def tV {o:World} (h:qQ o v T X) (hF:iX T) (j:Nat) (c:Nat) (w:World) (base:Nat) (b:List Nat) (p:Value) (hc:c<1114112)
 (A:mapOf T c=[]) (N:b.length<32) (P:Below o.heap.size o w) (Y:o.heap.size<=base) (H:base<=w.heap.size) (C:w.ownsRow base aN 1 p b.length (aM b)) :
 Calls prog 192 #[v,p,.int .i32 c,.int .i64 j] w λe w'=>∃r,e=.returned (.tuple #[r,.bool true])/\w'.ownsRow base aN 1 r (b++[c]).length (aM (b++[c]))/\w.grownBy w' p.ownBlock/\kK w p r:=by
 have D:=h.mono P;obtain⟨U,F,Z,O,L,R,rfl⟩:=h.shape;have l:F=T.length:=by
  obtain⟨r,x,u,⟨a,cap,V,_⟩,_⟩:=h;subst V;injection u with u;have:=congrArg (λs:Array Value=>s[0]?) u;simp at this;exact this.2.1
 have vI:=aa l;clear l;obtain⟨w1,g⟩:=ae (w.alloc (.cells #[.slice U F Z,.slice O L R] 150));have n:=Is.nw g;have m:=aO g;have ab:w1.heap.size=w.heap.size+1:=by rw[g];simp
 have G:=aa (Kb (D.mono m) hF c hc);have I:=n.at 0 rfl;have e1:=n.at 1 rfl;obtain⟨oa,Q,rfl,_,_⟩:=ak C;go_enter func192,ntmps192;go_wp2_with fail;rw[<-g];refine G.out.mono ?_;rintro e z⟨mv,rfl,y,i⟩;have k2:=n.mono i;have d:=af m i;have q:=aH C d;have M:w.heap.size+1<=z.heap.size:=by have:=i.size;omega
 clear I e1 g G n C D;rw[A] at y;obtain⟨ma,mc,rfl,_,_⟩:=ak y;have zl:decide ((b.length:Int)<32)=true:=by simp;omega
 clear y;go_wp2_with (at_builtin;go_loud (refine qf (W:=z) rfl _ _ 35 rfl base aN _ 1 4 (Elem.ae2 bW) (by decide) (by decide) (by decide) (by decide) (.slice oa b.length Q) b.length (aM b) rfl q _ rfl rfl (by simp[Value.oneCell']) (by omega) z (Below.refl _ _) (by omega) ?_);intro v1 w3 E J f t;obtain⟨a1,Ao,rfl,_,_⟩:=ak E);go_ret2;refine⟨_,rfl,?_,?_,?_⟩
 ·rw[a_];exact E
 ·refine⟨f.os.trans d.os,f.tape.trans d.tape,f.output.trans d.output,Nat.le_trans d.size f.size,λk K B=>(f.block k (by omega) B).trans (d.block k K)⟩
 rcases t with S|⟨k,h1,h2⟩
 ·exact .inl S
 exact .inr ⟨k,h1,by omega⟩
def zG {K:World} (h:qQ K v T X) (M:iX T):∀(f d:Nat) (c:Nat) (w:World) (base:Nat) (b:List Nat) (B:Value),d+f=T.length+3->c<1114112->
 tJ (mapOf T) (iD (mapOf T) f c)->b.length+(iD (mapOf T) f c).length<=32->Below K.heap.size K w->K.heap.size<=base->base<=w.heap.size->w.ownsRow base aN 1 B b.length (aM b)->
 Calls prog 192 #[v,B,.int .i32 c,.int .i64 d] w λe w'=>∃r,e=.returned (.tuple #[r,.bool true])/\w'.ownsRow base aN 1 r (b++iD (mapOf T) f c).length (aM (b++iD (mapOf T) f c))/\w.grownBy w' B.ownBlock/\kK w B r:=by
 intro f
 induction f with
 | zero=>
   intro d c w base b B ap hc t i E q G F;have l:mapOf T c=[]:=t c (by simp[iD]);rw[iK l] at i⊢;exact tV h M d c w base b B hc l (by simp at i;omega) E q G F
 | succ f ih=>
   intro d c w base b B ap hc t i E q G F;by_cases l:mapOf T c=[]
   ·rw[iK l] at i⊢;exact tV h M d c w base b B hc l (by simp at i;omega) E q G F
   rw[EJ l] at t i⊢;have aA:=aa h;have ax:=NK M.map c;have Y7:=aa (λx (N:x∈mapOf T c)=>Kc M.acd hc N);have hT:=h.mono E;obtain⟨ra,nt,rc,xa,nx,xc,rfl⟩:=h.shape;have ac:nt=T.length:=by
    obtain⟨r,x,L,⟨a,cap,hr,_⟩,_⟩:=h;subst hr;injection L with L;have:=congrArg (λs:Array Value=>s[0]?) L;simp at this;exact this.2.1
   have vI:=aa ac;clear ac;obtain⟨w1,y⟩:=ae (w.alloc (.cells #[.slice ra nt rc,.slice xa nx xc] 150));have k1:=Is.nw y;have ab:=aO y;have aE:w1.heap.size=w.heap.size+1:=by rw[y];simp
   have MP:=aa (Kb (hT.mono ab) M c hc);have U:=k1.at 0 rfl;have S:=k1.at 1 rfl;obtain⟨oa,oc,rfl,_,_⟩:=ak F;go_enter func192,ntmps192;go_wp2_with fail;rw[<-y];refine MP.out.mono ?_;rintro e w2⟨mv,rfl,hm,J⟩;have k2:=k1.mono J;have o:=af ab J;have D:=aH F o;have aD:w.heap.size+1<=w2.heap.size:=by have:=J.size;omega
   have av:0<(mapOf T c).length:=List.length_pos_iff.2 l;have au:=aa ih;have az:=aa (λk (H:(Value.slice oa b.length oc).ownBlock=some k)=>F.lt k H);clear U S y MP k1 F hT l ih;generalize W:mapOf T c=m at *;have aq:=aa W;have aB:nt<40000:=by have:=vI.out;have:=M.len;omega
   clear W;obtain⟨n,Q⟩:=ae m.length;obtain⟨ma,mc,rfl,_,_⟩:=ak hm;have HN:=aa Q;have aj:=aa t;have BA:=aa i;have HM:=aa hm;have U:=k2.at 0 rfl;have zd:decide ((nt:Int)+2<(d:Int))=false:=by have:=vI.out;simp;omega
   rw[<-Q] at av ax⊢;clear Q t i hm;have zn:((n:Int)==0)=false:=by simp;omega
   go_wp2_with fail;have Yi:=aa D;go_loopw [1,36] (λuv iv wr=>∃j:Nat,j<=n/\iv=.int .i64 j/\wr.ownsRow base aN 1 uv (b++(m.take j).flatMap (iD (mapOf T) f)).length (aM (b++(m.take j).flatMap (iD (mapOf T) f)))/\w2.grownBy wr (Value.slice oa b.length oc).ownBlock/\kK w2 (.slice oa b.length oc) uv) (λ_ iv _=>n-(intOf iv).toNat)
   case atStart=>exact⟨0,Nat.zero_le _,rfl,by simpa using D,⟨rfl,rfl,rfl,Nat.le_refl _,λ_ _ _=>rfl⟩,kK.refl _ _⟩
   case round=>
    clear U zd D;obtain⟨j,hj,rfl,g,z,hN⟩:=hrel;have NL:∀k,(Value.slice oa b.length oc).ownBlock=some k->base<=k/\k<w.heap.size:=λk H=>az.out k H;have kr:=k2.grown z (λe=>by have:=(NL _ e).2;omega);have ai:Below K.heap.size K wr:=(E.trans (o.mono E.size)).grown z (by have:=E.size;omega) λk H=>Nat.le_trans q (NL k H).1;have ay:=z.size;by_cases aJ:j<n
    ·obtain⟨ua,uc,rfl,_,_⟩:=ak g;have zj:=eG (show j<n by omega);have A:j<m.length:=by have:=HN.out;omega
     have V:=za.stays (u:=.slice ma m.length mc) (v:=.slice oa b.length oc) (λk P h2=>by have:=(HM.out.lt k P).1;have:=(NL k h2).2;omega) HM.out z;obtain⟨a',c',L,_,N⟩:=bG.nN (Sl.aU V).any rfl;obtain⟨bm,off,ad,_,ao⟩:=N j A;have ah:ma=some ⟨bm,off,none⟩:=by injection L with S;rw[S];exact ad
     subst ah;have p:=List.getElem_mem A;have U:=kr.at 0 rfl;have S:=kr.at 1 rfl;have Y:m.take (j+1)=m.take j++[m[j]]:=List.take_succ_eq_append_getElem A;have C:(b++(m.take j).flatMap (iD (mapOf T) f)).length+(iD (mapOf T) f m[j]).length<=32:=by
      have P:=BA.out;have h2:m.flatMap (iD (mapOf T) f)=(m.take j).flatMap (iD (mapOf T) f)++(iD (mapOf T) f m[j]++(m.drop (j+1)).flatMap (iD (mapOf T) f)):=by
       conv=>lhs;rw[<-List.take_append_drop j m,List.drop_eq_getElem_cons A]
       rw[List.flatMap_append,List.flatMap_cons]
      rw[h2] at P;simp only[List.length_append] at P⊢;omega
     have R:tJ (mapOf T) (iD (mapOf T) f m[j]):=λx N=>aj.out x (List.mem_flatMap.2 ⟨_,p,N⟩);have I:=au.out (d+1) m[j] wr base _ _ (by omega) (Y7.out _ p) R C ai q (by omega) g;rw[show((d+1:Nat):Int)=(d:Int)+1 from by omega] at I;have HR:=aa I;have aK:d<50000:=by have:=vI.out;omega
     clear I;have ag:=aa (show b++(m.take (j+1)).flatMap (iD (mapOf T) f)=(b++(m.take j).flatMap (iD (mapOf T) f))++iD (mapOf T) f m[j] by rw[Y,List.flatMap_append,List.append_assoc];simp);clear N V C R p Y L ad;generalize m[j]=cj at *;generalize b++(m.take j).flatMap (iD (mapOf T) f)=O at *;have aC:=aa g;clear g;go_wp2_with fail;refine HR.out.mono ?_;rintro e w5⟨r,rfl,o5,am,aw⟩;rw[List.length_append] at o5;obtain⟨aF,aI,rfl,_,_⟩:=ak o5;clear HR ao U S;go_wp2_with fail;go_roundw
     case rel=>
      refine⟨j+1,by omega,by simp,?_,Rv z hN am,kK.trans hN aw ay⟩;rw[ag.out,List.length_append];exact o5
     case measure=>simp[intOf];omega
    have zj:=gI (show n<=j by omega);obtain rfl:j=n:=by omega
    have Z:m.take j=m:=List.take_of_length_le (by have:=HN.out;omega);rw[Z] at g;generalize hO:b++m.flatMap (iD (mapOf T) f)=O at g;have ar:=aa hO;clear hO;obtain⟨ua,uc,rfl,_,_⟩:=ak g;have an:=aa g;clear g Z;go_wp2;go_ret2;rw[aq.out,ar.out];refine⟨_,rfl,an.out,?_,?_⟩
    ·exact⟨z.os.trans o.os,z.tape.trans o.tape,z.output.trans o.output,Nat.le_trans o.size z.size,λk H al=>(z.block k (by omega) al).trans (o.block k H)⟩
    rcases hN with Q|⟨k,P,h2⟩
    ·exact .inl Q
    exact .inr ⟨k,P,by omega⟩
def Rw (h:qQ w v T X) (l:iX T) (c:Nat) (y:c<1114112) (f:fQ T c) :
 Calls prog 154 #[v,.int .i32 c] w λe w'=>∃r,e=.returned r/\w'.ownsRow w.heap.size aN 1 r (aD T c).length (aM (aD T c))/\Below w.heap.size w w':=by
 obtain⟨t,q,x,p,n,s,rfl⟩:=h.shape;obtain⟨k,b⟩:=ae (w.alloc (.cells #[.slice t q x,.slice p n s] 150));have j:=Is.nw b;have d:=aO b;have:k.heap.size=w.heap.size+1:=by rw[b];simp
 have g:=aa (zG h l (T.length+3) 0 c k w.heap.size [] (.slice none 0 0) (by omega) y f.1 (by rw[List.length_nil,Nat.zero_add];exact f.2) d (Nat.le_refl _) d.size (World.ownsRow_nil _ _ _ _));rw[List.nil_append,show iD (mapOf T) (T.length+3) c=aD T c from rfl] at g;have:=j.at 0 rfl;have:=j.at 1 rfl;clear h l f;go_enter func154,ntmps154;go_wp2_with fail;rw[<-b];clear b;refine g.out.mono ?_;rintro e B⟨r,rfl,i,m,_⟩;have o:=fO m;obtain⟨a,C,rfl,_,_⟩:=ak i;have u:=aa i;clear i g;go_wp2;go_ret;exact⟨_,rfl,u.out,d.trans (o.mono d.size)⟩
def qi (T:List aG) (X:List Nat) (q:aG):Prop:=q.cls=0/\∃a b,q.map=[a,b]/\ai T a=0/\q.code∉X
def qR (h:qQ w v T X) (hF:iX T) (hX:X.length<10000) (q:aG) (hq:q.code<1114112) (y:∀x∈q.map,x<1114112) {m:Value} (Z:Sl aN w m (aM q.map)) :
 Calls prog 193 #[v,.agg #[.int .i32 q.code,.int .i64 q.cls,m]] w λe w'=>∃b:Bool,e=.returned (.bool b)/\(b=true↔qi T X q)/\Below w.heap.size w w':=by
 have hT:=aa h;obtain⟨rv,xv,C,_,z⟩:=id h;obtain⟨ra,nt,rc,L,J,M,rfl⟩:=h.shape;have I:xv=.slice L J M:=by
  injection C with C;have:=congrArg (λs:Array Value=>s[1]?) C;simpa using this.symm
 subst I;obtain⟨n,N⟩:=ae q.map.length;obtain⟨U,mc,rfl,_,V⟩:=bG.nN Z.any N;obtain⟨f,g⟩:=ae ((w.alloc (.cells #[.slice ra nt rc,.slice L J M] 150)).alloc (.cells #[.int .i32 q.code,.int .i64 q.cls,.slice U n mc] 196));have F:Is f w.heap.size #[.slice ra nt rc,.slice L J M] 150:=by rw[g];exact(Is.new _ _ _).mono (ah _)
 have t:Is f (w.heap.size+1) #[.int .i32 q.code,.int .i64 q.cls,.slice U n mc] 196:=by rw[g];exact Is.new' _ _ _ _ (by simp)
 have d:Below w.heap.size w f:=by rw[g];exact((Below.refl _ w).alloc (Nat.le_refl _) _).alloc (by simp) _
 have HS:=aa (λ(W:World) (E:Below f.heap.size f W)=>J8 (w:=W) (kE X) q.code ((z.mono d).mono E) (by have:=Rq X;omega) (NH X));have p:=Rp X q.code;generalize places (kE X) q.code=pl at *;have R:=aa p;have Y:=aa V;have G:=aa N;have K:=aa y;have g0:=t.gd 0 rfl;have g1:=t.gd 1 rfl;have g2:=t.gd 2 rfl;have g3:=F.gd 0 rfl;have g4:=F.gd 1 rfl;have j:=aa (show qi T X q↔(q.cls=0/\∃a b,q.map=[a,b]/\ai T a=0/\q.code∉X) from Iff.rfl);clear z C Z V N y p h;go_enter func193,ntmps193;go_wp2_with fail;rw[<-g];clear g;by_cases h1:q.cls=0
 ·have z1:((q.cls:Int)==0)=true:=by simp;omega
  by_cases S:n=2
  ·have z2:((n:Int)==2)=true:=by simp;omega
   obtain⟨a,b,k⟩:∃a b,q.map=[a,b]:=by
    have:=G.out;rcases hq':q.map with _|⟨a,_|⟨b,_|⟨c,l⟩⟩⟩
    ·rw[hq'] at this;simp at this;omega
    ·rw[hq'] at this;simp at this;omega
    ·exact⟨a,b,rfl⟩
    rw[hq'] at this;simp at this;omega
   obtain⟨mb,off,rfl,_,A⟩:=Y.out 0 (by have:=G.out;omega);have ea:q.map[0]'(by have:=G.out;omega)=a:=by simp[k]
   rw[ea,Nat.add_zero] at A;have g7:=Gr.cell (ag f) (aB d A);have ha:a<1114112:=K.out a (by rw[k];simp);have D:=aa (λ(W:World) (E:Below f.heap.size f W)=>NI ((hT.out.mono d).mono E) hF a ha);have B:=aa k;clear k ea Y;subst S;by_cases u:ai T a=0
   ·rw[u] at D;have O:=aa u;clear u;refine aC (Array.replicate 27 true) 27 0 mixed ?_;refine ay [0,1,2,3,4,5,6,7,8,9,10,11,12,13,14] 12 ?_;refine bC ?_
    iterate 15 (refine aZ rfl ?_)
    refine bD ?_
    iterate 15 (go_big_quiet_step (rfl))
    refine az ?_;refine aI 15 ?_;go_wp2_with fail;refine(D.out _ (ag _)).mono ?_;rintro e w4⟨rfl,i⟩;go_wp2_with fail;refine aF i ?_;have o:=af (ag f) i;have Q:=F.mono o;have H:=t.mono o;have g5:=Gr.cell (Below.refl _ _) (Q.at 1 rfl);have g6:=Gr.cell (Below.refl _ _) (H.at 0 rfl);refine ay [16,17,18,19,20,21,22] 4 ?_;refine bC ?_
    iterate 7 (refine aZ rfl ?_)
    refine bD ?_
    iterate 7 (go_big_quiet_step (rfl))
    refine az ?_;refine aI 23 ?_;go_wp2_with fail;refine(HS.out _ o).mono ?_;rintro e w5⟨rfl,rX⟩;go_wp2_with fail;refine aF rX ?_;refine ay [24,25,26] 0 ?_;refine bC ?_
    iterate 3 (refine aZ rfl ?_)
    refine bD ?_
    iterate 3 (go_big_quiet_step (rfl))
    refine az ?_;refine aJ [] ?_;refine tail_nil ?_;go_wp2;go_ret;refine⟨_,rfl,?_,d.trans ((af o rX).mono d.size)⟩;rw[j.out];have h5:=R.out;constructor
    ·intro hd;refine⟨h1,a,b,B.out,O.out,λP=>?_⟩;have:=h5.2 P;simp[this] at hd
    rintro⟨_,_,_,_,_,P⟩;have:¬pl % 2=1:=λe=>P (h5.1 e);simp[this]
   have z3:((ai T a:Int)==0)=false:=by simp;omega
   have O:=aa u;generalize ai T a=ka at D z3;clear u;refine aC (Array.replicate 27 true) 27 0 mixed ?_;refine ay [0,1,2,3,4,5,6,7,8,9,10,11,12,13,14] 12 ?_;refine bC ?_
   iterate 15 (refine aZ rfl ?_)
   refine bD ?_
   iterate 15 (go_big_quiet_step (rfl))
   refine az ?_;refine aI 15 ?_;go_wp2_with fail;refine(D.out _ (ag _)).mono ?_;rintro e w4⟨rfl,i⟩;go_wp2_with fail;refine aF i ?_;have o:=af (ag f) i;have Q:=F.mono o;have H:=t.mono o;have g5:=Gr.cell (Below.refl _ _) (Q.at 1 rfl);have g6:=Gr.cell (Below.refl _ _) (H.at 0 rfl);refine ay [16,17,18,19,20,21,22] 4 ?_;refine bC ?_
   iterate 7 (refine aZ rfl ?_)
   refine bD ?_
   iterate 7 (go_big_quiet_step (rfl))
   refine az ?_;refine aI 23 ?_;go_wp2_with fail;refine aF (Below.refl _ _) ?_;refine ay [24,25,26] 0 ?_;refine bC ?_
   iterate 3 (refine aZ rfl ?_)
   refine bD ?_
   iterate 3 (go_big_quiet_step (rfl))
   refine az ?_;refine aJ [] ?_;refine tail_nil ?_;go_wp2;go_ret;refine⟨_,rfl,?_,d.trans (o.mono d.size)⟩;rw[j.out];constructor
   ·intro hd;cases hd
   rintro⟨_,a',b',r,h7,_⟩;rw[B.out] at r;cases r;exact absurd h7 O.out
  have z2:((n:Int)==2)=false:=by simp;omega
  refine aC (Array.replicate 27 true) 27 0 mixed ?_;refine ay [0,1,2,3,4,5,6,7,8,9,10,11,12,13,14] 12 ?_;refine bC ?_
  iterate 15 (refine aZ rfl ?_)
  refine bD ?_
  iterate 15 (go_big_quiet_step (rfl))
  refine az ?_;refine aI 15 ?_;go_wp2_with fail;refine aF (Below.refl _ _) ?_;refine ay [16,17,18,19,20,21,22] 4 ?_;refine bC ?_
  iterate 7 (refine aZ rfl ?_)
  refine bD ?_
  iterate 7 (go_big_quiet_step (rfl))
  refine az ?_;refine aI 23 ?_;go_wp2_with fail;refine aF (Below.refl _ _) ?_;refine ay [24,25,26] 0 ?_;refine bC ?_
  iterate 3 (refine aZ rfl ?_)
  refine bD ?_
  iterate 3 (go_big_quiet_step (rfl))
  refine az ?_;refine aJ [] ?_;refine tail_nil ?_;go_wp2;go_ret;refine⟨_,rfl,?_,d.trans ((ag f).mono d.size)⟩;rw[j.out];constructor
  ·intro hd;cases hd
  rintro⟨_,a',b',r,_⟩;have:=G.out;rw[r] at this;exact absurd this S
 have z1:((q.cls:Int)==0)=false:=by simp;omega
 refine aC (Array.replicate 27 true) 27 0 mixed ?_;refine ay [0,1,2,3,4,5,6,7,8,9,10,11,12,13,14] 12 ?_;refine bC ?_
 iterate 15 (refine aZ rfl ?_)
 refine bD ?_
 iterate 15 (go_big_quiet_step (rfl))
 refine az ?_;refine aI 15 ?_;go_wp2_with fail;refine aF (Below.refl _ _) ?_;refine ay [16,17,18,19,20,21,22] 4 ?_;refine bC ?_
 iterate 7 (refine aZ rfl ?_)
 refine bD ?_
 iterate 7 (go_big_quiet_step (rfl))
 refine az ?_;refine aI 23 ?_;go_wp2_with fail;refine aF (Below.refl _ _) ?_;refine ay [24,25,26] 0 ?_;refine bC ?_
 iterate 3 (refine aZ rfl ?_)
 refine bD ?_
 iterate 3 (go_big_quiet_step (rfl))
 refine az ?_;refine aJ [] ?_;refine tail_nil ?_;go_wp2;go_ret;refine⟨_,rfl,?_,d.trans ((ag f).mono d.size)⟩;rw[j.out];constructor
 ·intro hd;cases hd
 rintro⟨r,_⟩;exact absurd r h1
def BB {q:aG} (h:rowOf T c=some q):q∈T/\q.code=c:=by
 refine⟨List.mem_of_find?_eq_some h,?_⟩;have:=List.find?_some h;simpa using this
def Kg {q:aG} (k:hk c<4) (h:rowOf T c=some q):Prim T X c↔qi T X q:=by
 have l:=(BB h).2;have j:mapOf T c=q.map:=by unfold mapOf bP;rw[if_pos k,h]
 have g:ai T c=q.cls:=by unfold ai;rw[h]
 unfold Prim qi;rw[j,g,l];constructor
 ·rintro (d|⟨a,b,i,e,f,d⟩)
  ·omega
  exact⟨e,a,b,i,f,d⟩
 rintro⟨e,a,b,i,f,d⟩;exact .inr ⟨a,b,i,e,f,d⟩
def Rx (e:hk c<4) (h:rowOf T c=none):¬Prim T X c:=by
 have f:mapOf T c=[]:=by unfold mapOf bP;rw[if_pos e,h]
 unfold Prim;rw[f];rintro (g|⟨a,b,d,_⟩)
 ·omega
 cases d
def G6 (h:qQ w v T X) (r:iX T) (hX:X.length<10000) (c:Nat) (E:c<1114112) :
 Calls prog 155 #[v,.int .i32 c] w λe w'=>∃b:Bool,e=.returned (.bool b)/\(b=true↔Prim T X c)/\Below w.heap.size w w':=by
 obtain⟨ra,V,rc,S,P,Y,rfl⟩:=h.shape;obtain⟨F,d⟩:=ae (w.alloc (.cells #[.slice ra V rc,.slice S P Y] 150));have t:=Is.nw d;have g:=aO d;have:F.heap.size=w.heap.size+1:=by rw[d];simp
 by_cases L:4<=hk c
 ·obtain⟨a,b,p⟩:=Fh L;have z:=aa (lF (w:=F) E p);clear p h r t;go_enter func155,ntmps155;go_wp2_with fail;rw[<-d];clear d;refine z.out.mono ?_;rintro e U⟨rfl,rfl⟩;go_wp2;go_ret;exact⟨true,rfl,⟨λ_=>.inl L,λ_=>rfl⟩,g⟩
 have D:=aa (xZ (h.mono g) r c E);have z:=aa (rR (w:=F) E (by omega));have G:=aa (h.mono g);have H:=t.at 0 rfl;have N:=t.at 1 rfl;clear h;go_enter func155,ntmps155;go_wp2_with fail;rw[<-d];clear d;refine z.out.mono ?_;rintro e U⟨⟨a,b,rfl⟩,rfl⟩;go_wp2_with fail;refine D.out.mono ?_;rintro e w3⟨m,rfl,u,C,l⟩;obtain⟨w4,f⟩:=ae (w3.alloc (.cells #[.int .i32 (nP T c).code,.int .i64 (nP T c).cls,m] 196));have i:=aO f;have o:=Is.nw f;have s:=(t.mono l).mono i;obtain⟨am,nm,cm,rfl,_⟩:=C;have y:=af l i;cases j:rowOf T c with
 | none=>
   have n:nP T c=⟨0,0,[]⟩:=by unfold nP;rw[j];rfl
   have W:=aa (Rx (X:=X) (by omega) j);rw[n];clear n j D H N u o s y i f;go_wp2;go_ret;exact⟨false,rfl,⟨λh=>(by cases h),λh=>absurd h W.out⟩,g.trans ((af l (ah _)).mono g.size)⟩
 | some q=>
   have n:nP T c=q:=by unfold nP;rw[j];rfl
   have A:=aa (Kg (X:=X) (by omega) j);have k:=(BB j).1;rw[n] at f o u;rw[n];have Z:=aa (qR (G.out.mono y) r hX q (r.code q k) (λx R=>r.acd q k x R) (u.mono i));have M:=o.at 0 rfl;have J:=o.at 1 rfl;have O:=o.at 2 rfl;have K:=s.at 0 rfl;have I:=s.at 1 rfl;rw[f] at M J O K I;clear n j D H N u o s k;go_wp2_with fail;rw[<-f];refine Z.out.mono ?_;rintro e w5⟨Q,rfl,B,rX⟩;clear M J O K I f;go_wp2;go_ret;exact⟨Q,rfl,B.trans A.out.symm,g.trans ((af y rX).mono g.size)⟩
def Vg (q:aG) (I:Go.Cd.rowFine q) (a:Int) (P:a<q.code) {m:Value} (v:Sl aN w m (aM q.map)) :
 Calls prog 190 #[.agg #[.int .i32 q.code,.int .i64 q.cls,m],.int .i32 a] w λe w'=>e=.returned (.string ⟨#[]⟩)/\Below w.heap.size w w':=by
 obtain⟨p,Q,K,B,A⟩:=I;obtain⟨n,o⟩:=ae q.map.length;obtain⟨D,J,rfl,_,u⟩:=bG.nN v.any o;obtain⟨M,d⟩:=ae (w.alloc (.cells #[.int .i32 q.code,.int .i64 q.cls,.slice D n J] 196));have r:=Is.nw d;have h:=aO d;have y:=aa (rQ (w:=M) q.code p.1);rw[B] at y;have C:=aa (λW=>gZ (w:=W) q.code (by have:=p.1;omega));rw[decide_eq_true p] at C;have F:=aa u;have L:=aa o;have E:=aa A;rw[<-o] at K;have:=r.at 0 rfl;have:=r.at 1 rfl;have:=r.at 2 rfl;clear B A v u o;generalize q.code=c at *;generalize q.cls=l at *;clear p;go_enter func190,ntmps190;go_wp2_with fail;rw[<-d];clear d;refine y.out.mono ?_;rintro e G⟨rfl,rfl⟩;go_wp2_with fail;go_loopw [5,6,16] (λs5 s6 s wr=>∃j:Nat,j<=n/\s=.int .i64 j/\s5=.bool false/\s6=.bool false/\wr=G) (λ_ _ s _=>n-(intOf s).toNat)
 case atStart=>exact⟨0,Nat.zero_le _,rfl,rfl,rfl,rfl⟩
 case round=>
  obtain⟨j,X,rfl,rfl,rfl,rfl⟩:=hrel;by_cases H:j<n
  ·have N:=eG (show j<n by omega);have i:j<q.map.length:=by have:=L.out;omega
   obtain⟨b,off,rfl,_,g⟩:=F.out j i;have g:=aB h g;obtain⟨t,k⟩:=E.out _ (List.getElem_mem i);generalize q.map[j]=x at *;have z:=aa (rQ (w:=wr) x k.1);rw[t] at z;have f:=aa (gZ (w:=wr) x (by have:=k.1;omega));rw[decide_eq_true k] at f;clear t k;go_wp2_with fail;refine z.out.mono ?_;rintro e O⟨rfl,rfl⟩;go_wp2_with fail;refine f.out.mono ?_;rintro e w4⟨rfl,rfl⟩;go_wp2_with fail;go_roundw
   case rel=>exact⟨j+1,by omega,by simp,by simp⟩
   case measure=>simp[intOf];omega
  have N:=gI (show n<=j by omega);have:decide ((c:Int)<=a)=false:=by simp;omega
  have:decide ((l:Int)<0)=false:=decide_eq_false (by omega);have:decide ((254:Int)<(l:Int))=false:=decide_eq_false (by omega);have:decide ((2:Int)<(n:Int))=false:=decide_eq_false (by omega);go_wp2_with (go_at_call 96;refine(C.out _).mono ?_;rintro e O⟨rfl,rfl⟩);go_ret;exact⟨rfl,h⟩
end Go.Proofs.YtmnimbnojdndmaaGreatDoor
