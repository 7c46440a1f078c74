/- State by state it is added up what is possible; no condition. -/
import Derived.Test.YtmnimbnojdndmaaGreatDoorS10
import Derived.Great.BuildSlice
import Derived.Great.Ranges
set_option maxRecDepth 100000
set_option maxHeartbeats 6400000
set_option linter.all false
namespace Go.Proofs.YtmnimbnojdndmaaGreatDoor
open Go.RowKit Go.Cd _root_.Go.Proofs.Tryz
def Vi:laidOutB prog=true:=by kernel_rfl
def Fj:Maps.Keyed prog 311:=yW (deep_law_laid Vi (m:=4) (by decide) (of_decide_eq_true (by kernel_rfl)) (by kernel_rfl) (by kernel_rfl))
def uF:Maps.Keyed prog 213:=yW (deep_law_laid Vi (m:=4) (by decide) (of_decide_eq_true (by kernel_rfl)) (by kernel_rfl) (by kernel_rfl))
def NM:Maps.Keyed prog 262:=yW (deep_law_laid Vi (m:=4) (by decide) (of_decide_eq_true (by kernel_rfl)) (by kernel_rfl) (by kernel_rfl))
def Ry:Maps.Keyed prog 21:=Maps.int_keyed underlying21
def RB {a b:Nat} (h:a<1114112) (g:b<1114112):iF prog 311 (.agg #[.int .i32 a,.int .i32 b]):=by
 refine Qi (P:=prog) (k:=311) (e:=21) (n:=2) (q:=.i32) underlying311 underlying21 (by kernel_rfl) (by kernel_rfl) (by kernel_rfl) (m:=prog.types.size-1) (by kernel_rfl) #[.int .i32 a,.int .i32 b] rfl ?_;intro i l;have c:∀x:Nat,x<1114112->(Lit.int .i32 (x:Int)).wf=true:=λx j=>by
  have d:IntKind.i32.min=-2147483648:=by decide
  have f:IntKind.i32.max=2147483647:=by decide
  simp only[Lit.wf,d,f,js,decide_eq_true_eq];omega
 rcases i with _|_|i
 ·exact⟨a,rfl,c a h⟩
 ·exact⟨b,rfl,c b g⟩
 omega
def tX {T:List aG} {X:List Nat} (h:aY T X) (c:T.length<40000):iX T:=
 ⟨h.rise,λr a=>(h.fine r a).1.1,λr a=>(h.fine r a).2.2.1,λr a x b=>((h.fine r a).2.2.2.2 x b).2.1,c⟩
def tY (q:aG):Value:=.agg #[.int .i32 (q.map.getD 0 0:Nat),.int .i32 (q.map.getD 1 0:Nat)]
def Fp {T:List aG} {X:List Nat} (b:aY T X) {q:aG} (c:q∈T) (h:qi T X q):Prim T X q.code:=by
 obtain⟨i,a,rfl⟩:=l4.1 c;have d:rowOf T T[i].code=some T[i]:=Fg a (λt e h=>jy b.rise t i e a h) rfl;exact(Kg (by have:=(b.fine _ (gw a)).2.2.2.1;omega) d).2 h
def Ki {T:List aG} {X:List Nat} (h:aY T X) {i j:Nat} (m:i<T.length) (k:j<T.length) (l:i<j) (n:qi T X T[i]) (o:qi T X T[j]):tY T[i]≠tY T[j]:=by
 intro e;have p:=Fp h (gw m) n;have s:=Fp h (gw k) o;obtain⟨_,a,b,f,_⟩:=n;obtain⟨_,c,d,g,_⟩:=o;unfold tY at e;rw[f,g] at e;simp at e;have u:a=c:=by omega
 have t:b=d:=by omega
 have r:T[i].map=T[j].map:=by rw[f,g,u,t]
 have:=h.pair _ (gw m) _ (gw k) (by rw[f];rfl) r p s;have q:=jy h.rise i j m k l;rw[this] at q;omega
def NQ {w:World} {v:Value} {T:List aG} {X:List Nat} (h:qQ w v T X) (hV:aY T X) (hl:T.length<40000) (hX:X.length<10000) :
 Calls prog 152 #[v] w λe w'=>e=.returned .nilIface/\Below w.heap.size w w':=by
 have hF:=tX hV hl;have ax:=aa h;obtain⟨rv,xv,he,al,_⟩:=id h;obtain⟨ra,l,rc,xa,nx,xc,rfl⟩:=h.shape;have aN:rv=.slice ra l rc:=by
  injection he with he;have:=congrArg (λs:Array Value=>s[0]?) he;simpa using this.symm
 subst aN;obtain⟨an,a3,ad,_,hx⟩:=al;have aC:l=T.length:=by injection ad
 have aR:an=ra:=by injection ad with A;exact A.symm
 subst aR;have HX:=aa hx;have vI:=aa aC;have HV:=aa hV;have HF:=aa hF;have a4:l<40000:=by omega
 obtain⟨w1,I⟩:=ae (w.alloc (.cells #[.slice an l rc,.slice xa nx xc] 150));have k1:=Is.nw I;have a2:=aO I;have a5:w1.heap.size=w.heap.size+1:=by rw[I];simp
 have t:=k1.at 0 rfl;clear h he ad hx aC hV hF hl;go_enter func152,ntmps152;go_wp2_with fail;rw[<-I];clear I;go_loopw [3,20] (λlv E wr=>∃j:Nat,j<=l/\E=.int .i64 j/\lv=.int .i32 (aa_ T j)/\Below w1.heap.size w1 wr) (λ_ E _=>l-(intOf E).toNat)
 case atStart=>exact⟨0,ic _,rfl,rfl,gS _ _⟩
 case round=>
  clear t;obtain⟨j,hj,rfl,rfl,o⟩:=hrel;have n:=af a2 o;by_cases N:j<l
  ·have zj:=eG (show j<l by omega);have d:j<T.length:=by have:=vI.out;omega
   obtain⟨b,off,m,rfl,_,D,H,J,Y,p⟩:=HX.out j d;have D:=aB n D;have H:=aB n H;have J:=aB n J;have lQ:=HV.out.fine _ (gw d);have aD:=J9 HV.out.rise j d;have Yh:=aa (uE d);obtain⟨w3,a⟩:=ae (wr.alloc (.cells #[.int .i32 T[j].code,.int .i64 T[j].cls,m] 196));have z:=Is.nw a;have c:=aO a;have RW:=aa (Vg (w:=w3) T[j] lQ (aa_ T j) aD ((Y.mono n).mono c));generalize aa_ T j=lc at *;obtain⟨am,nm,cm,rfl,_⟩:=p;generalize T[j]=q at *;have t:=z.at 0 rfl;have A:=z.at 1 rfl;have L:=z.at 2 rfl;rw[a] at t A L;have z2:(⟨#[]⟩:ByteArray).toList.isEmpty=true:=by rw[pd];rfl
   clear lQ Y aD;go_wp2_with fail;rw[<-a];refine RW.out.mono ?_;rintro e w4⟨rfl,g⟩;have k4:=z.mono g;have f0:=k4.at 0 rfl;clear t A L a RW D H J;go_wp2_with fail;go_roundw
   case rel=>exact⟨j+1,by omega,by simp,by rw[Yh.out],af (af o c) g⟩
   case measure=>simp[intOf];omega
  have zj:=gI (show l<=j by omega);have M:=k1.mono o;have t:=M.at 0 rfl;have aX:=aa M;clear M;go_wp2_with fail;clear t hj N zj;obtain⟨wA,aT⟩:=ae wr;subst aT;have MZ:=n;have a6:=aa o;clear n o;go_loopw [37] (λE wr=>∃j:Nat,j<=l/\E=.int .i64 j/\Below wA.heap.size wA wr) (λE _=>l-(intOf E).toNat)
  case atStart=>exact⟨0,ic _,rfl,gS _ _⟩
  case round=>
   obtain⟨j,hj,rfl,o⟩:=hrel;have n:=af MZ o;have M:=aX.out.mono o;by_cases N:j<l
   ·have zj:=eG (show j<l by omega);have d:j<T.length:=by have:=vI.out;omega
    obtain⟨b,off,m,rfl,_,D,H,J,Y,p⟩:=HX.out j d;have D:=aB n D;have H:=aB n H;have J:=aB n J;have f:=gw d;have C:=HF.out.code _ f;have U:=HV.out.full _ f;obtain⟨w3,a⟩:=ae (wr.alloc (.cells #[.int .i32 T[j].code,.int .i64 T[j].cls,m] 196));have z:=Is.nw a;have c:=aO a;have lH:=af n c;have EX:=aa (zG ax.out HF.out (T.length+3) 0 T[j].code w3 w3.heap.size [] (.slice none 0 0) (by omega) C U.1 (by rw[kp,k_];exact U.2) lH lH.size (d' _) (iS _ _ _ _));obtain⟨am,nm,cm,rfl,_⟩:=p;generalize T[j]=q at *;have B:=M.mono c;have t:=z.at 0 rfl;have A:=z.at 1 rfl;have L:=z.at 2 rfl;have e3:=B.at 0 rfl;have e4:=B.at 1 rfl;rw[a] at t A L e3 e4;clear Y U f C;go_wp2_with fail;rw[<-a];refine EX.out.mono ?_;rintro e w4⟨r,rfl,ho,av,_⟩;have g:=fO av;obtain⟨ar,cr,rfl,_,_⟩:=ak ho;clear t A L e3 e4 a EX D H J ho av;go_wp2_with fail;go_roundw
    case rel=>exact⟨j+1,by omega,by simp,af (af o c) g⟩
    case measure=>simp[intOf];omega
   have zj:=gI (show l<=j by omega);have t:=M.at 0 rfl;have aq:=aa M;clear M;have aQ:(Instr.makeMap 309 none).run prog wr=.ok (.map (some wr.heap.size)) (wr.alloc (.map #[] 0)):=rfl;have A:=(aq.out.mono (ah (.map #[] 0))).at 0 rfl;go_wp2_with fail;clear t A aQ hj N zj;obtain⟨wB,aJ⟩:=ae wr;subst aJ;have Vj:=n;clear n o;go_loopw [56] (λE wr=>∃j:Nat,j<=l/\E=.int .i64 j/\(∃G,dE prog 311 wr wB.heap.size G/\∀x u,G x u->∃(i:Nat) (R:i<T.length),i<j/\qi T X T[i]/\x=tY T[i])/\Below wB.heap.size wB wr) (λE _=>l-(intOf E).toNat)
   case atStart=>exact⟨0,ic _,rfl,⟨_,dE.new wB 0,λx u h=>h.elim⟩,ah _⟩
   case round=>
    obtain⟨j,hj,rfl,⟨G,hG,aE⟩,o⟩:=hrel;have n:=af Vj o;have M:=aq.out.mono o;have ag:=aa aE;clear aE;by_cases N:j<l
    ·have zj:=eG (show j<l by omega);have d:j<T.length:=by have:=vI.out;omega
     obtain⟨b,off,m,rfl,_,D,H,J,Y,p⟩:=HX.out j d;have D:=aB n D;have H:=aB n H;have J:=aB n J;have f:=gw d;have C:=HF.out.code _ f;have ac:=HF.out.acd _ f;obtain⟨w3,a⟩:=ae (wr.alloc (.cells #[.int .i32 T[j].code,.int .i64 T[j].cls,m] 196));have z:=Is.nw a;have c:=aO a;have lH:=af n c;have S:=(Y.mono lH);have CO:=aa (qR (ax.out.mono lH) HF.out hX T[j] C ac S)
     have aU:=aa (show ∀(u:Value),qi T X T[j]->¬G (tY T[j]) u from λu hc O=>by
      obtain⟨i,R,aj,h1,V⟩:=ag.out _ _ O
      exact Ki HV.out R d aj h1 hc V.symm)
     have aL:=aa (show ∀(u:Value),qi T X T[j]->∀x y,Ad G (tY T[j]) u x y->∃(i:Nat) (R:i<T.length),i<j+1/\qi T X T[i]/\x=tY T[i] from λu hc x y aM=>by
      rcases aM with⟨rfl,_⟩|⟨_,O⟩
      ·exact⟨j,d,by omega,hc,rfl⟩
      obtain⟨i,R,aj,h1,V⟩:=ag.out _ _ O
      exact⟨i,R,by omega,h1,V⟩)
     have aZ:=aa (show ∀x u,G x u->∃(i:Nat) (R:i<T.length),i<j+1/\qi T X T[i]/\x=tY T[i] from λx u O=>by
      obtain⟨i,R,aj,h1,V⟩:=ag.out _ _ O
      exact⟨i,R,by omega,h1,V⟩)
     obtain⟨am,nm,cm,rfl,p⟩:=p;have ao:=aa ac;generalize T[j]=q at *;have B:=M.mono c;have au:=hG.mono c;have t:=z.at 0 rfl;have A:=z.at 1 rfl;have L:=z.at 2 rfl;have e3:=B.at 0 rfl;have e4:=B.at 1 rfl;rw[a] at t A L e3 e4;have a0:=aa S;have a_:=aa p;clear Y f C ac S hG p;go_wp2_with fail;rw[<-a];refine CO.out.mono ?_;rintro e w4⟨bb,rfl,ab,g⟩;clear t A L e3 e4 a CO D H J;have W:=au.mono g;have k4:=z.mono g;clear au;cases bb with
     | false=>
       clear ab;go_wp2_with fail;go_roundw
       case rel=>exact⟨j+1,by omega,by simp,⟨G,W,aZ.out⟩,o.trans ((af c g).mono o.size)⟩
       case measure=>simp[intOf];omega
     | true=>
       have F:=ab.1 rfl;have HC:=aa F;obtain⟨_,pa,pb,K,_⟩:=F;have JF:=a0.out.mono g;rw[K] at JF;obtain⟨a7,aS,aF,_,ai⟩:=bG.nN JF.any rfl;injection aF with h1 V h3;subst h1;subst V;obtain⟨bm,Q,rfl,_,ap⟩:=ai 0 (by simp);obtain⟨a8,a9,aH,_,a1⟩:=ai 1 (by simp);cases aH;rw[sC] at ap;have aW:pa<1114112:=ao.out pa (by rw[K];simp);have aK:pb<1114112:=ao.out pb (by rw[K];simp);have ay:tY q=.agg #[.int .i32 (pa:Nat),.int .i32 (pb:Nat)]:=by unfold tY;rw[K];rfl
       have aA:=aa ay;have L:=k4.at 2 rfl;clear ab K JF ai ay;have aP:(Instr.arrayAt 311 (.slice (some ⟨bm,Q,none⟩) 2 aS)).run prog w4=.ok (.pointer (some ⟨bm,Q,none⟩)) w4:=by
        simp[Instr.arrayAt,run_underlying underlying311,Result.andThen]
       obtain⟨w5,vJ⟩:=ae (w4.alloc (.cells #[.int .i32 (pa:Nat),.int .i32 (pb:Nat)] 311));have k5:=Is.nw vJ;have Z:=aO vJ;go_upto_region 23 with fail;rw[<-vJ];have az:=W.mono Z;have aV:=k4.mono Z;have g0:=k5.at 0 rfl;have g1:=k5.at 1 rfl;have g2:=aV.at 0 rfl;have P:=RB aW aK;clear vJ aP ap a1 L W k4;have aw:=af (af c g) Z
       go_wp2_with (first
        | (refine iL rfl _ _ 309 21 true rfl Fj underlying309 az rfl rfl P (zeroValue21 w5) ?_ ?_)
        | fail)
       ·intro _
        go_wp2_with (first
         | (refine jQ rfl _ _ _ 309 21 rfl Fj underlying309 az rfl rfl rfl P ?_;intro w6 aI M4)
         | fail)
        go_roundw
        case rel=>
         have mF:Below wB.heap.size wB w6:=(o.trans (aw.mono o.size)).grown M4 (by have:=o.size;have:=aw.size;omega) λk hk=>by cases hk;exact d' _
         refine⟨j+1,by omega,by simp,⟨_,aI,?_⟩,mF⟩;rw[<-aA.out];exact aL.out _ HC.out
        case measure=>simp[intOf];omega
       intro u O;rw[<-aA.out] at O;exact absurd O (aU.out u HC.out)
    have zj:=gI (show l<=j by omega);go_wp2;go_ret;exact⟨rfl,n⟩
def Qj {w:World} (c:Nat) (d:c<1114112):Calls prog 123 #[.int .i32 c] w λe w'=>e=.returned (.bool true)/\w'=w:=by
 have:decide ((0:Int)<=(c:Int))=true:=by simp
 have:decide ((c:Int)<=1114111)=true:=by simp;omega
 go_enter func123,ntmps123;go_wp2;go_ret;exact⟨rfl,rfl⟩
structure lS (w:World) (p:Nat) (f:Nat->Nat):Prop where
 out:∃(idx:Nat->Nat) (nb B cap:Nat),p<w.heap.size/\B<w.heap.size/\nb<=cap/\nb<65536/\w.cell? ⟨p,4352,none⟩=some (.slice (some ⟨B,0,none⟩) nb cap)/\(∀n,n<4352->idx n<nb/\w.cell? ⟨p,n,none⟩=some (.int .u16 (idx n)))/\
  (∀c,c<1114112->f c<65536/\w.cell? ⟨B,idx (c / 256)*256+c % 256,none⟩=some (.int .u16 (f c)))
def lS.mono {w w':World} {p:Nat} {f:Nat->Nat} (h:lS w p f) (a:Below w.heap.size w w'):lS w' p f:=by
 obtain⟨b,l,B,cap,k,q,m,d,o,g,i⟩:=h;exact⟨b,l,B,cap,kh k a.size,kh q a.size,m,d,aB a o,λn j=>⟨(g n j).1,aB a (g n j).2⟩,λc e=>⟨(i c e).1,aB a (i c e).2⟩⟩
def Fq (n:Nat) (b:n<2147483648):bits .and .i32 (n:Int) 255=((n % 256:Nat):Int):=by
 have a:(BitVec.ofInt 32 255).toNat=2 ^ 8-1:=by decide
 have key:(BitVec.ofInt 32 n &&& BitVec.ofInt 32 255).toNat=((n:Int) % ((2 ^ 32:Nat):Int)).toNat % 2 ^ 8:=by
  rw[sR,pH,a,oy]
 show IntKind.i32.wrap ((BitVec.ofInt 32 n &&& BitVec.ofInt 32 255).toNat:Nat)=_;rw[key,xd];omega
def BC {w:World} {p:Nat} {f:Nat->Nat} (h:lS w p f) (c:Nat) (m:c<1114112) :
 Calls prog 80 #[.pointer (some ⟨p,0,none⟩),.int .i32 c] w λe w'=>e=.returned (.int .u16 (f c))/\Below w.heap.size w w':=by
 obtain⟨d,E,B,cap,y,G,z,u,q,o,g⟩:=h;have x:=aa (Qj (w:=w) c m);obtain⟨v,b⟩:=o (c / 256) (by omega);obtain⟨_,a⟩:=g c m;have t:=Fq c (by omega);have hd:((c:Int) / 256)=((c / 256:Nat):Int):=by omega
 obtain⟨n,l⟩:=ae (c / 256);obtain⟨k,j⟩:=ae (c % 256);have:n<4352:=by omega
 have:k<256:=by omega
 rw[<-l] at v b a hd;rw[<-j] at a t;generalize d n=i at *;generalize f c=fc at *;have:=Gr.cell (ag w) q;have:=Gr.cell (ag w) b;have:=Gr.cell (ag w) a;have:i<65536:=by omega
 clear o g l j q b a;go_enter func80,ntmps80;go_upto_region 3 with (go_at_call 123;refine x.out.mono ?_;rintro e A⟨rfl,rfl⟩);refine aC (Array.replicate 17 true) 17 0 mixed ?_;refine ay [0,1,2,3,4,5,6,7,8,9,10,11,12,13,14,15,16] 0 ?_
 iterate 17 (refine aA rfl ?_;go_big_quiet_step (rfl))
 refine az ?_;refine aJ [] ?_;refine tail_nil ?_;go_wp2;go_ret;exact⟨rfl,ag _⟩
end Go.Proofs.YtmnimbnojdndmaaGreatDoor
namespace Go.Cd
open Go.RowKit
def NR {P:Program} {k:TypeId} {S:Nat->Prop} {w:World} {o:Oper} {a:Act} {next:Act->Prop} (m x:Operand) (t b:TypeId) (C:o.op=Op.lookup t m x false)
 (K:Maps.Keyed P k) (l:P.underlying t=some (.map k b)) {r:Nat} {G:Value->Value->Prop} (h:dE P k w r G) (D:S r) (B:a.eval m=.map (some r)) {xv:Value} (A:a.eval x=xv) (n:iF P k xv) {z:Value} (j:∀w,(zeroValue b).run P w=.ok z w)
 (y:(∀v,¬G xv v)->next (a.put o.dst z)) (s:∀v,G xv v->next (a.put o.dst v)):o.quiet P a (λw'=>∃g:vG (KR.blocks S) w,w'=g.tw) next:=by
 have key:∀v,(Instr.lookup t (.map (some r)) xv false).run P w=.ok v w->∀w',(∃g:vG (KR.blocks S) w,w'=g.tw)->o.quietAt P a (λw'=>∃g:vG (KR.blocks S) w,w'=g.tw) w' v:=by
  rintro v c w'⟨g,rfl⟩;have q:dE P k g.tw r G:=h.block (g.ext.1 r D);have p:(Instr.lookup t (.map (some r)) xv false).run P g.tw=.ok v g.tw:=by
   rcases qU K l h n (j w) false with⟨e,d⟩|⟨u,e,d⟩
   ·rw[e] at c;rcases qU K l q n (j g.tw) false with⟨i,f⟩|⟨u2,i,f⟩
    ·injection c with c _;rw[i,<-c]
    exact absurd f (d u2)
   rw[e] at c;rcases qU K l q n (j g.tw) false with⟨i,f⟩|⟨u2,i,f⟩
   ·exact absurd d (f u)
   injection c with c _;rw[i,<-c,h.one d f]
  unfold Oper.quietAt;simp only[execOp,C,B,A,Sem.run_bind,p,Result.andThen,Sem.run_pure];exact⟨rfl,rfl⟩
 rcases qU K l h n (j w) false with⟨e,d⟩|⟨u,e,d⟩
 ·exact⟨z,key _ e,y d⟩
 exact⟨u,key _ e,s u d⟩
end Go.Cd
namespace Go.Proofs.YtmnimbnojdndmaaGreatDoor
open Go.RowKit Go.Cd _root_.Go.Proofs.Tryz
def uG (f:Nat->Nat) (c v:Nat):Nat->Nat:=λx=>if x=c then v else f x
def rZ (f:Nat->Nat) (c v:Nat):uG f c v c=v:=by simp[uG]
def iG (f:Nat->Nat) {c x:Nat} (v:Nat) (h:x≠c):uG f c v x=f x:=by simp[uG,h]
def iZ (L:List (Nat×Nat)):Nat->Nat:=L.foldl (λf x=>uG f x.1 x.2) λ_=>0
def NS (L:List (Nat×Nat)) (x:Nat×Nat):iZ (L++[x])=uG (iZ L) x.1 x.2:=by simp[iZ,rk]
def Kj {L:List (Nat×Nat)} (h:∀x∈L,x.2<65536) (c:Nat):iZ L c<65536:=by
 have key:∀(L:List (Nat×Nat)) (f:Nat->Nat),(∀c,f c<65536)->(∀x∈L,x.2<65536)->∀c,(L.foldl (λf x=>uG f x.1 x.2) f) c<65536:=by
  intro L
  induction L with
  | nil=>intro f hf _ c;exact hf c
  | cons x L ih=>
    intro f hf a c;refine ih _ (λc=>?_) (λy b=>a y (by simp[b])) c;show(if c=x.1 then x.2 else f c)<65536
    split
    ·exact a x (by simp)
    exact hf c
 exact key L _ (λ_=>by simp) h c
def dw (f:Nat->Nat) (n:Nat):Array Value:=((List.range 256).map λk=>Value.int .u16 (f (n*256+k):Nat)).toArray
def fA (f:Nat->Nat) (n:Nat):(dw f n).size=256:=by simp[dw]
def fJ (f:Nat->Nat) (n:Nat) {k:Nat} (h:k<256):(dw f n)[k]? = some (.int .u16 (f (n*256+k):Nat)):=by simp[dw,h]
def jB (f:Nat->Nat) (n:Nat) {k:Nat} (h:256<=k):(dw f n)[k]? = none:=ld (by rw[fA];exact h)
def RD (f:Nat->Nat) (n k v:Nat) (h:k<256):(dw f n).setIfInBounds k (.int .u16 (v:Nat))=dw (uG f (n*256+k) v) n:=by
 apply pN;intro i;rw[qe,fA];by_cases a:i<256
 ·rw[fJ _ _ a,fJ _ _ a];by_cases b:k=i
  ·subst b;rw[if_pos rfl,if_pos a,rZ]
  rw[if_neg b,iG _ _ (by omega)]
 rw[jB _ _ (by omega),jB _ _ (by omega)];rw[if_neg (by omega)]
def Kk (f:Nat->Nat) (n m k v:Nat) (h:k<256) (b:n≠m):dw (uG f (m*256+k) v) n=dw f n:=by
 apply pN;intro i;by_cases a:i<256
 ·rw[fJ _ _ a,fJ _ _ a,iG _ _ (by omega)]
 rw[jB _ _ (by omega),jB _ _ (by omega)]
def pg (f:Nat->Nat) (n:Nat) (h:∀k,k<256->f (n*256+k)=0):dw f n=zeroCells213:=by
 have e:dw f n=dw (λ_=>0) 0:=by
  apply pN;intro i;by_cases a:i<256
  ·rw[fJ _ _ a,fJ _ _ a,h i a]
  rw[jB _ _ (by omega),jB _ _ (by omega)]
 exact e.trans (by kernel_rfl)
def jR:Maps.Keyed prog 21:=Ry
def G7 (blk:Nat->Option Nat) (x v:Value):Prop:=∃(n b:Nat),blk n=some b/\x=.int .i32 n/\v=.pointer (some ⟨b,0,none⟩)
def r9 {a:Nat->Option Nat} {n:Nat} {v:Value} (h:G7 a (.int .i32 n) v):∃b,a n=some b/\v=.pointer (some ⟨b,0,none⟩):=by
 obtain⟨m,b,d,c,e⟩:=h;injection c with _ c;have:n=m:=by omega
 subst this;exact⟨b,d,e⟩
def r_ {a:Nat->Option Nat} {n:Nat} (h:∀v,¬G7 a (.int .i32 n) v):a n=none:=by
 cases c:a n with
 | none=>rfl
 | some b=>exact absurd ⟨n,b,c,rfl,rfl⟩ (h _)
structure wF (w:World) (M:Nat) (f:Nat->Nat) (blk:Nat->Option Nat):Prop where
 map:dE prog 21 w M (G7 blk)
 is:∀n b,blk n=some b->n<4352/\M<b/\Is w b (dw f n) 213
 inj:∀n m b,blk n=some b->blk m=some b->n=m
 no:∀n,blk n=none->∀k,k<256->f (n*256+k)=0
def wF.mono {w w':World} {M:Nat} {f:Nat->Nat} {a:Nat->Option Nat} (h:wF w M f a) (d:Below w.heap.size w w'):wF w' M f a:=
 ⟨h.map.mono d,λn b c=>⟨(h.is n b c).1,(h.is n b c).2.1,(h.is n b c).2.2.mono d⟩,h.inj,h.no⟩
def wF.new (w:World):wF (w.alloc (.map #[] 0)) w.heap.size (λ_=>0) λ_=>none:=by
 have h0:=dE.new (P:=prog) (k:=21) w 0;have e:(λ(_ _:Value)=>False)=G7 λ_=>none:=by
  funext x v;simp[G7]
 exact⟨e▸h0,(λ_ _ h=>nomatch h),(λ_ _ _ h=>nomatch h),(λ_ _ _ _=>rfl)⟩
def Ap (n:Nat) (h:n<2147483648):iF prog 21 (.int .i32 n):=by
 refine⟨_,Maps.keyOf_int_mk underlying21 ?_⟩;have a:IntKind.i32.min=-2147483648:=by decide
 have b:IntKind.i32.max=2147483647:=by decide
 simp only[Lit.wf,a,b,js,decide_eq_true_eq];omega
def oq {P:Program} {k:TypeId} {w w':World} {r:Nat} {G:Value->Value->Prop} {row:Option Nat} (h:dE P k w r G) (a:w.grownBy w' row) (b:row≠some r):dE P k w' r G:=
 h.block (a.block r h.lt λe=>b e.symm)
def wF.put {w:World} {M:Nat} {f:Nat->Nat} {d:Nat->Option Nat} (h:wF w M f d) {n b:Nat} (i:d n=some b) {k v:Nat} (o:k<256):wF (w.setCell ⟨b,k,none⟩ (.int .u16 (v:Nat))) M (uG f (n*256+k) v) d:=by
 refine⟨oq h.map (bX _ _ _ _) (λe=>?_),λm c a=>?_,h.inj,λm a j q=>?_⟩
 ·have:=(h.is n b i).2.1;cases e;omega
 ·obtain⟨p,r,l⟩:=h.is m c a;refine⟨p,r,?_⟩;by_cases g:m=n
  ·subst g;rw[i] at a;cases a;rw[<-RD _ _ _ _ o];exact l.set k _
  rw[Kk _ _ _ _ _ o g];exact l.put (λe=>g (h.inj m n c a (e▸i))) _
 have g:m≠n:=λe=>by rw[e,i] at a;cases a
 rw[iG _ _ (by omega)];exact h.no m a j q
def wF.add {w w':World} {M:Nat} {f:Nat->Nat} {c:Nat->Option Nat} (h:wF w M f c) {n:Nat} (q:c n=none) (p:n<4352)
 (g:dE prog 21 w' M (Ad (G7 c) (.int .i32 n) (.pointer (some ⟨w.heap.size,0,none⟩))))
 (j:(w.alloc (.cells zeroCells213 213)).grownBy w' (some M)):wF w' M f λm=>if m=n then some w.heap.size else c m:=by
 have s:=h.map.lt;have e:Ad (G7 c) (.int .i32 n) (.pointer (some ⟨w.heap.size,0,none⟩))=G7 λm=>if m=n then some w.heap.size else c m:=by
  funext x v;apply propext;constructor
  ·rintro (⟨rfl,rfl⟩|⟨l,m,b,a,rfl,rfl⟩)
   ·exact⟨n,w.heap.size,if_pos rfl,rfl,rfl⟩
   exact⟨m,b,(if_neg (λe=>l (by rw[e]))).trans a,rfl,rfl⟩
  rintro⟨m,b,a,rfl,rfl⟩;simp only at a
  split at a
  ·rename_i e;subst e;cases a;exact .inl ⟨rfl,rfl⟩
  rename_i e;refine .inr ⟨λo=>e ?_,m,b,a,rfl,rfl⟩;injection o with _ e2;omega
 refine⟨e▸g,λm b i=>?_,λm r b a d=>?_,λm g=>?_⟩
 ·split at i
  ·rename_i e;subst e;cases i;refine⟨p,s,?_⟩;rw[pg f m (h.no m q)];exact(Is.new w zeroCells213 213).grown j (λe=>by cases e;omega)
  obtain⟨a,d,k⟩:=h.is m b i;exact⟨a,d,(k.mono (ah _)).grown j (λe=>by cases e;omega)⟩
 ·split at a <;> split at d
  ·omega
  ·cases a;have:=(h.is r _ d).2.2.lt;omega
  ·cases d;have:=(h.is m _ a).2.2.lt;omega
  exact h.inj _ _ _ a d
 split at g
 ·cases g
 exact h.no m g
def x8:mV prog 215 213 (.agg zeroCells213) 256 512:=⟨(by kernel_rfl),underlying215,info_parts (by kernel_rfl)⟩
def DU (f:Nat->Nat) (v:Value):Array Value:=(((List.range 4352).map λk=>Value.int .u16 (f k:Nat))++[v]).toArray
def wG (f:Nat->Nat) (v:Value):(DU f v).size=4353:=by simp[DU]
def uH (f:Nat->Nat) (v:Value) {k:Nat} (h:k<4352):(DU f v)[k]? = some (.int .u16 (f k:Nat)):=by
 unfold DU;rw[tn,kB (by simp;exact h)];simp[h]
def lT (f:Nat->Nat) (v:Value):(DU f v)[4352]? = some v:=by
 unfold DU;rw[tn,j' (by simp)];simp
def wH (f:Nat->Nat) (v:Value) {k:Nat} (h:4353<=k):(DU f v)[k]? = none:=ld (by rw[wG];exact h)
def Y8 (f:Nat->Nat) (v:Value) (k u:Nat) (h:k<4352):(DU f v).setIfInBounds k (.int .u16 (u:Nat))=DU (uG f k u) v:=by
 apply pN;intro i;rw[qe,wG];rcases pR i 4352 with hi|rfl|hi
 ·rw[uH _ _ hi,uH _ _ hi];by_cases a:k=i
  ·subst a;rw[if_pos rfl,if_pos (by omega),rZ]
  rw[if_neg a,iG _ _ (by omega)]
 ·rw[lT,lT,if_neg (by omega)]
 rw[wH _ _ (by omega),wH _ _ (by omega),if_neg (by omega)]
def Qk (f:Nat->Nat) (v v':Value):(DU f v).setIfInBounds 4352 v'=DU f v':=by
 apply pN;intro i;rw[qe,wG];rcases pR i 4352 with hi|rfl|hi
 ·rw[uH _ _ hi,uH _ _ hi,if_neg (by omega)]
 ·rw[if_pos rfl,if_pos (by omega),lT]
 rw[wH _ _ (by omega),wH _ _ (by omega),if_neg (by omega)]
def RF:zeroCells217=DU (λ_=>0) (.slice none 0 0):=by kernel_rfl
def zH (a:Option Addr) (n c:Nat):prog.built 217 [(1,.slice a n c)]=some (DU (λ_=>0) (.slice a n c)):=by
 obtain⟨i,e,d,_⟩:∃i,prog.info? 217=some i/\i.zero=some (.agg zeroCells217)/\i.size=4353/\i.bytes=8728:=info_parts (by kernel_rfl);have g:∀b:Array Field,prog.underlying 217=some (.struct b)->b.toList.mapM (λf=>(prog.info? f.type).map λi=>(f.offset,i.size))=some [(0,4352),(4352,1)]:=by
  intro b h;rw[underlying217] at h;cases h
  kernel_rfl
 unfold Program.built;rw[e,underlying217];simp only[d,g _ underlying217];rw[RF];rw[<-Qk (λ_=>0) (.slice none 0 0) (.slice a n c)];simp[Instr.fill,Value.cells,wG]
def tZ {P:Program} {ops:Array Oper} {rest:List Oper} {o:Oper} {a:Act} {w:World} {Q:Exit->Act->World->Prop} (l:o.guard=none) (t e:TypeId) (x:Operand) (r:o.op=.buildSlice t 1 #[(0,x)])
 {b d:Nat} {z:Value} (g:mV P t e z b d) (f:0<b) (y:b<=16777216) (us:Array Value) (n:a.eval x=.agg us) (j:us.size=b)
 (h:wpList P ops Q rest (a.put o.dst (.slice (some ⟨w.heap.size,0,none⟩) 1 1)) (w.alloc (.cells us e))):wpList P ops Q (o::rest) a w:=by
 obtain⟨k,v,i,u,q,c,m⟩:=g;refine Go.wpList_buildSlice l t e 1 #[(0,x)] r us i z v u q (by rw[c];omega) (by rw[c];omega) ?_ h;have:=Go.Great.fill_whole (s:=b) f [.agg us] ((Array.range (1*b)).map (z.cells[· % z.cells.size]!)) (by simp[Value.cells,j]) (by simp);simp only[c];have p:((#[(0,x)]:Array (Nat×Operand)).map λ(i,x)=>(i,a.eval x)).toList=(([.agg us]:List Value).zipIdx 0).map λx=>(x.2,x.1):=by simp[n]
 rw[p,this];simp[Value.cells]
def DV {P:Program} {k:TypeId} {w:World} {ops:Array Oper} {rest:List Oper} {o:Oper} {a:Act} {Q:Exit->Act->World->Prop} (f:o.guard=none) (m x v:Operand) (t b:TypeId) (l:o.op=Op.insert t m x v)
 (K:Maps.Keyed P k) (n:P.underlying t=some (.map k b)) {r:Nat} {G:Value->Value->Prop} (h:dE P k w r G) (j:a.eval m=.map (some r)) {xv vv:Value} (i:a.eval x=xv) (s:a.eval v=vv) (q:iF P k xv)
 (d:∀w',dE P k w' r (Ad G xv vv)->w.grownBy w' (some r)->wpList P ops Q rest (a.put o.dst undef) w'):wpList P ops Q (o::rest) a w:=by
 refine wpList_plain f λu c=>?_;obtain⟨w',g,e,p⟩:=Kh K n h q vv;unfold Oper.wp;simp[execOp,l,j,i,s,g,Result.andThen];exact c _ _ (d w' e p)
def Fs {f:Nat->Nat} (hf:∀c,f c<65536) (n:Nat):iF prog 213 (.agg (dw f n)):=by
 refine Qi (P:=prog) (k:=213) (e:=145) (n:=256) (q:=.u16) underlying213 underlying145 (by kernel_rfl) (by kernel_rfl) (by kernel_rfl) (m:=prog.types.size-1) (by kernel_rfl) (dw f n) (fA _ _) ?_;intro i d;refine⟨_,fJ f n d,?_⟩;have a:IntKind.u16.min=0:=by decide
 have b:IntKind.u16.max=65535:=by decide
 have:=hf (n*256+i);simp only[Lit.wf,a,b,js,decide_eq_true_eq];omega
def zI (f:Nat->Nat) (n:Nat):dw f n=dw (λx=>f (n*256+x)) 0:=by simp[dw]
def RH {f g:Nat->Nat} {n m:Nat} (h:dw f n=dw g m) {k:Nat} (b:k<256):f (n*256+k)=g (m*256+k):=by
 have a:=fJ f n b;rw[h,fJ g m b] at a;injection a with a;injection a with _ a;omega
def NT (f:Nat->Nat) (n:Nat):∀u∈(dw f n).toList,u.oneCell'=true:=by
 intro u a;simp[dw] at a;obtain⟨k,_,rfl⟩:=a;rfl
def x9 (g:Nat->Nat):List Value:=(dw g 0).toList
def Kl (g:Nat->Nat):(x9 g).length=256:=by simp[x9,fA]
def wI {ops:Array Oper} {rest:List Oper} {o:Oper} {a:Act} {w:World} {Q:Exit->Act->World->Prop} (d:o.guard=none) (x:Operand) (f:o.op=.build 217 #[(1,x)])
 (b:Option Addr) (n c:Nat) (g:a.eval x=.slice b n c)
 (h:wpList prog ops Q rest (a.put o.dst (.agg (DU (λ_=>0) (.slice b n c)))) w):wpList prog ops Q (o::rest) a w:=by
 have e:((#[(1,x)]:Array (Nat×Operand)).map λ(i,x)=>(i,a.eval x)).toList=[(1,.slice b n c)]:=by simp[g]
 refine Go.wpList_build d 217 #[(1,x)] f ?_ ?_
 ·rw[e,zH];rfl
 rw[e,zH];exact h
structure wJ (w:World) (p mp base:Nat) (f:Nat->Nat) (n:Nat) (idx:Nat->Nat) (Bs:List (Nat->Nat)) (v:Value):Prop where
 is:Is w p (DU idx v) 217
 own:w.ownsRow base 213 256 v Bs.length (Bs.flatMap x9)
 map:∃G,dE prog 213 w mp G/\∀x u,G x u->∃(i:Nat) (g:Nat->Nat),Bs[i]? = some g/\x=.agg (dw g 0)/\u=.int .i64 i
 one:∃g,Bs[0]? = some g/\∀k,k<256->g k=0
 lo:∀m,m<n->∃g,Bs[idx m]? = some g/\∀k,k<256->g k=f (m*256+k)
 hi:∀m,n<=m->idx m=0
def wJ.skip {w:World} {p b base:Nat} {f:Nat->Nat} {n:Nat} {a:Nat->Nat} {Bs:List (Nat->Nat)} {v:Value} (h:wJ w p b base f n a Bs v) (j:∀k,k<256->f (n*256+k)=0):wJ w p b base f (n+1) a Bs v:=by
 refine⟨h.is,h.own,h.map,h.one,λm i=>?_,λm i=>h.hi m (by omega)⟩;by_cases e:m=n
 ·subst e;obtain⟨g,d,l⟩:=h.one;rw[h.hi m (d' _)];exact⟨g,d,λk c=>(l k c).trans (j k c).symm⟩
 exact h.lo m (by omega)
def wJ.lay {w:World} {p b base:Nat} {f:Nat->Nat} {n:Nat} {a:Nat->Nat} {Bs:List (Nat->Nat)} {v:Value} (h:wJ w p b base f n a Bs v) (q:n<4352) {i:Nat} {g:Nat->Nat} (o:Bs[i]? = some g) (j:∀k,k<256->g k=f (n*256+k))
 (r:v.ownBlock≠some p) (c:b≠p):wJ (w.setCell ⟨p,n,none⟩ (.int .u16 (i:Nat))) p b base f (n+1) (uG a n i) Bs v:=by
 refine⟨?_,bn h.own r _ _,?_,h.one,λm l=>?_,λm l=>?_⟩
 ·rw[<-Y8 _ _ _ _ q];exact h.is.set _ _
 ·obtain⟨G,d,s⟩:=h.map;exact⟨G,oq d (bX _ _ _ _) (λe=>by injection e with e;exact c e.symm),s⟩
 ·by_cases e:m=n
  ·subst e;rw[rZ];exact⟨g,o,j⟩
  rw[iG a i e];exact h.lo m (by omega)
 rw[iG _ _ (by omega)];exact h.hi m (by omega)
def Km {P:Program} {k:TypeId} {w:World} {r:Nat} {G:Value->Value->Prop} {base a n:Nat} {e:TypeId} {v:Value} {i:List Value} (h:dE P k w r G) (j:w.ownsRow base e a v n i):v.ownBlock≠some r:=by
 intro b;obtain⟨m,o,f,_⟩:=h;rcases j.2 with⟨c,_⟩|⟨g,_,l,c,_,d,_⟩
 ·rw[c] at b;cases b
 rw[c] at b;cases b;rw[f] at d;cases d
def wJ.more {w w4 w5 l:World} {p b base:Nat} {f:Nat->Nat} {n:Nat} {a:Nat->Nat} {Bs:List (Nat->Nat)} {v v':Value} (h:wJ w p b base f n a Bs v) {G:Value->Value->Prop}
 (D:dE prog 213 w4 b G) (y:∀x u,G x u->∃(i:Nat) (g:Nat->Nat),(Bs++[λx=>f (n*256+x)])[i]? = some g/\x=.agg (dw g 0)/\u=.int .i64 i)
 (C:w.grownBy w4 (some b)) (j:p≠b) (k:v.ownBlock≠some b) (o:Below w4.heap.size w4 w5)
 (F:l.ownsRow base 213 256 v' (Bs.length+1) (Bs.flatMap x9++(dw f n).toList)) (B:w5.grownBy l v.ownBlock) (s:v'.ownBlock≠some p) :
 wJ (l.setCell ⟨p,4352,none⟩ v') p b base f n a (Bs++[λx=>f (n*256+x)]) v':=by
 have d:Is w4 p (DU a v) 217:=h.is.grown C (λe=>j (by injection e with e;exact e.symm));have q:=h.own.kept C (.inr λe=>k e);have t:=aH q o;have r:Is l p (DU a v) 217:=(d.mono o).grown B ((d.mono o).other t (by decide));have A:=oq (D.mono o) B k;refine⟨?_,?_,⟨G,oq A (bX _ _ _ _) (λe=>j (by injection e)),y⟩,?_,λm H=>?_,h.hi⟩
 ·rw[<-Qk a v v'];exact r.set 4352 _
 ·have:=bn F s 4352 v';rw[gn,j7];have E:List.flatMap x9 [λx=>f (n*256+x)]=(dw f n).toList:=by
   rw[zI f n];simp[x9]
  rw[E];exact this
 ·obtain⟨g,c,z⟩:=h.one;exact⟨g,by rw[kB (iR.1 c).1];exact c,z⟩
 obtain⟨g,c,z⟩:=h.lo m H;exact⟨g,by rw[kB (iR.1 c).1];exact c,z⟩
def wJ.pages {w:World} {p t base:Nat} {f:Nat->Nat} {a:Nat->Nat} {Bs:List (Nat->Nat)} {v:Value} (h:wJ w p t base f 4352 a Bs v) (j:Bs.length<=4353) (hf:∀c,f c<65536):lS w p f:=by
 obtain⟨z,e,_⟩:=h.one;obtain⟨e,_⟩:=iR.1 e;obtain⟨g,cap,k,i,r,_,_⟩:=dC (f:=x9) Kl rfl h.own e;refine⟨a,Bs.length,g,cap,h.is.lt,r,i,by omega,?_,λn l=>⟨?_,h.is.at n (uH _ _ l)⟩,λc i=>⟨hf c,?_⟩⟩
 ·rw[<-k];exact h.is.at 4352 (lT _ _)
 ·obtain⟨_,b,_⟩:=h.lo n l;exact(iR.1 b).1
 obtain⟨q,b,x⟩:=h.lo (c / 256) (by omega);obtain⟨b,o⟩:=iR.1 b;obtain⟨y,m,d,_,_,_,s⟩:=dC (f:=x9) Kl rfl h.own b;rw[k] at d;injection d with e1 _ _;injection e1 with e1;injection e1 with e1 _ _;subst e1;obtain⟨u,_⟩:=s (c % 256) (mS _ (by decide));rw[u,o];show(dw q 0).toList[c % 256]? = _;rw[mz,fJ _ _ (mS _ (by decide)),ur,k_,x _ (mS _ (by decide))];have:c / 256*256+c % 256=c:=by omega
 rw[this]
def cellC (x:Nat×Nat):List Value:=[.int .i32 x.1,.int .u16 x.2]
def RI (x:Nat×Nat):(cellC x).length=2:=rfl
def Kn {w:World} {v:Value} {L:List (Nat×Nat)} {base:Nat} (hv:w.ownsRow base 260 2 v L.length (L.flatMap cellC)) (hL:∀x∈L,x.1<1114112/\x.2<65536) (hn:L.length<100000) :
 Calls prog 156 #[v] w λe w'=>∃p,e=.returned (.pointer (some ⟨p,0,none⟩))/\lS w' p (iZ L)/\Below w.heap.size w w':=by
 have HL:=aa hL;obtain⟨nt,ao⟩:=ae L.length;have vI:=aa ao;have HX:=aa (λ(j:Nat) (hj:j<L.length)=>dC (hf:=RI) rfl hv hj);obtain⟨va,vc,rfl,_,_⟩:=ak hv;have Q:(Instr.makeMap 314 none).run prog w=.ok (.map (some w.heap.size)) (w.alloc (.map #[] 0)):=rfl;rw[<-ao] at hn⊢;clear hv hL ao;go_enter func156,ntmps156;go_wp2_with fail;clear Q;have R0:=wF.new w;have aD:Below w.heap.size w (w.alloc (.map #[] 0)):=ah _;have a9:(w.alloc (.map #[] 0)).heap.size=w.heap.size+1:=by simp
 generalize w.alloc (.map #[] 0)=w1 at *;go_loopw [16] (λiv wr=>∃j:Nat,j<=nt/\iv=.int .i64 j/\(∃R,wF wr w.heap.size (iZ (L.take j)) R)/\Below w.heap.size w wr) (λiv _=>nt-(intOf iv).toNat)
 case atStart=>exact⟨0,ic _,rfl,⟨_,R0⟩,aD⟩
 case round=>
  clear R0 aD a9;obtain⟨j,hj,rfl,⟨R,F⟩,hE⟩:=hrel;by_cases bh:j<nt
  ·have zj:=eG (show j<nt by omega);have ai:j<L.length:=by have:=vI.out;omega
   obtain⟨g,cap,ar,_,aY,_,hx⟩:=HX.out j ai;injection ar with ar _ a3;subst ar;subst a3;have hc:=HL.out _ (gw ai);have c0:wr.cell? ⟨g,j*2,none⟩=some (.int .i32 (L[j].1:Nat)):=aB hE ((hx 0 (by omega)).1.trans rfl);have c1:wr.cell? ⟨g,j*2+1,none⟩=some (.int .u16 (L[j].2:Nat)):=aB hE ((hx 1 (by omega)).1.trans rfl);have HS:=aa (show iZ (L.take (j+1))=uG (iZ (L.take j)) (L[j].1) (L[j].2) by rw[gR ai,NS]);clear hx aY;generalize L[j]=q at *;obtain⟨c,u⟩:=q;simp only at c0 c1 hc HS;obtain⟨aU,bn⟩:=hc;obtain⟨w3,O⟩:=ae (wr.alloc (.cells #[.int .i32 (c:Nat),.int .u16 (u:Nat)] 260));have k3:=Is.nw O;have Y:=aO O;have e0:=k3.at 0 rfl;have e1:=k3.at 1 rfl;have IN:=aa (Qj (w:=w3) c aU);have hm:=Fq c (by omega);have hd:((c:Int) / 256)=((c / 256:Nat):Int):=by omega
   have bg:=xA c 256;have Q:=mS c (show 0<256 by decide);generalize c / 256=n at *;generalize c % 256=k at *;have D:n<4352:=by omega
   have R3:=F.mono Y;have s:=Ap n (by omega);have au:=zeroValue315 w3;have bm:=F.map.lt;clear F;go_upto_region 5 with fail;rw[<-O];clear O c0 c1
   go_wp2_with (first
    | (go_at_call 123;refine IN.out.mono ?_;rintro e w4⟨rfl,rfl⟩)
    | (refine iL rfl _ _ 314 315 false rfl jR underlying314 R3.map rfl rfl s au ?_ ?_)
    | fail)
   ·intro d
    replace d:=r_ d
    obtain⟨wb,l⟩:=ae (w4.alloc (.cells zeroCells213 213));have Rb:dE prog 21 wb w.heap.size (G7 R):=by rw[l];exact R3.map.mono (ah _)
    have o:wb.heap.size=w4.heap.size+1:=by rw[l];simp
    go_wp2_with (first
     | (rw[<-l];refine jQ (xv:=.int .i32 n) (vv:=.pointer (some ⟨w4.heap.size,0,none⟩)) rfl _ _ _ 314 315 rfl jR underlying314 Rb rfl rfl rfl s ?_;intro w5 J r)
     | fail)
    have an:Below w4.heap.size w4 wb:=by rw[l];exact ah _
    have Y9:=R3.map.lt;obtain⟨Y_,H,R5⟩:∃Y_:Nat->Option Nat,Y_ n=some w4.heap.size/\wF w5 w.heap.size (iZ (L.take j)) Y_:=⟨_,if_pos rfl,R3.add d D J (l▸r)⟩;have lN:Below w.heap.size w w4:=af hE Y;have jP:Below w.heap.size w w5:=(lN.trans (an.mono lN.size)).grown r (ia lN.size an.size) (λk t=>by injection t with t;omega);have k5:Is w5 wr.heap.size #[.int .i32 (c:Nat),.int .u16 (u:Nat)] 260:=(k3.mono an).grown r (λe=>by injection e with e;have:=hE.size;omega);obtain⟨_,aT,M⟩:=R5.is n _ H;clear l J r Rb;clear e0 e1 au IN;go_upto_region 9 with fail;simp only[Act.put];have bp:=k5.mono (ag w5);have K:=M.mono (ag w5);have Rd:=R5.mono (ag w5);have g0:=k5.gd 0 rfl;have g1:=k5.gd 1 rfl;refine aC #[true,true,true,true,true,true,true,true,true,true,false] 10 1 mixed ?_;refine ay [0,1,3,4,5,6,7] 3 ?_
    iterate 7 (refine aA rfl ?_;go_big_quiet_step (rfl))
    refine az ?_;refine aI 2 ?_;refine iL rfl _ _ 314 315 false rfl jR underlying314 Rd.map rfl rfl s (zeroValue315 _) (λd=>absurd (r_ d) (by rw[H];simp)) ?_;intro pv a;obtain⟨b',I,rfl⟩:=r9 a;rw[H] at I;cases I;clear a;go_wp2_with fail;refine aF (gS _ _) ?_;refine ay [8,9] 0 ?_
    iterate 2 (refine aA rfl ?_;go_big_quiet_step (rfl))
    refine az ?_;refine aJ [10] ?_;have d9:=K.frozen k;have e9:=K.at k (fJ _ _ (by omega));refine tail_cons rfl ?_;go_wp2_with fail;refine tail_nil ?_;go_wp2;go_roundw
    case rel=>
     refine⟨j+1,by omega,by simp,⟨Y_,?_⟩,?_⟩
     ·rw[HS.out,show c=n*256+k by omega];exact Rd.put H (by omega)
     exact aj ((jP.trans ((ag w5).mono jP.size))) (by omega)
    case measure=>simp[intOf];omega
   intro pv a;obtain⟨b,H,rfl⟩:=r9 a;clear a;obtain⟨_,aT,M⟩:=R3.is n b H;have lN:Below w.heap.size w w4:=af hE Y;clear e0 e1 au IN;go_upto_region 9 with fail;have bj:=k3.mono (ag w4);have K:=M.mono (ag w4);have Rd:=R3.mono (ag w4);have g0:=k3.gd 0 rfl;have g1:=k3.gd 1 rfl;refine aC #[true,true,true,true,true,true,true,true,true,true,false] 10 1 mixed ?_;refine ay [0,1,3,4,5,6,7] 3 ?_
   iterate 7 (refine aA rfl ?_;go_big_quiet_step (rfl))
   refine az ?_;refine aI 2 ?_;refine iL rfl _ _ 314 315 false rfl jR underlying314 Rd.map rfl rfl s (zeroValue315 _) (λd=>absurd (r_ d) (by rw[H];simp)) ?_;intro pv a;obtain⟨b',I,rfl⟩:=r9 a;rw[H] at I;cases I;clear a;go_wp2_with fail;refine aF (gS _ _) ?_;refine ay [8,9] 0 ?_
   iterate 2 (refine aA rfl ?_;go_big_quiet_step (rfl))
   refine az ?_;refine aJ [10] ?_;have d9:=K.frozen k;have e9:=K.at k (fJ _ _ (by omega));refine tail_cons rfl ?_;go_wp2_with fail;refine tail_nil ?_;go_wp2;go_roundw
   case rel=>
    refine⟨j+1,by omega,by simp,⟨R,?_⟩,?_⟩
    ·rw[HS.out,show c=n*256+k by omega];exact Rd.put H (by omega)
    exact aj ((lN.trans ((ag w4).mono lN.size))) (by omega)
   case measure=>simp[intOf];omega
  have zj:=gI (show nt<=j by omega);have hf:=Kj (L:=L) λx hx=>(HL.out x hx).2;have aN:L.take j=L:=by rw[iu];have:=vI.out;omega
  rw[aN] at F;have HF:=aa (show ∃f,f=iZ L from ⟨_,rfl⟩);obtain⟨f,ap⟩:=HF.out;rw[<-ap] at hf F;have a_:=aa ap;clear ap HF aN;have HR:=aa F;have hM:=F.map.lt;obtain⟨B,hB⟩:=ae wr.heap.size;obtain⟨wa,RJ⟩:=ae (wr.alloc (.cells zeroCells213 213));have z:wa.heap.size=B+1:=by rw[RJ];simp[hB]
  have aE:Below B wr wa:=by rw[RJ,hB];exact ah _
  have ka:Is wa B zeroCells213 213:=by rw[RJ,hB];exact Is.new _ _ _
  obtain⟨wb,l⟩:=ae (wa.alloc (.cells (DU (λ_=>0) (.slice (some ⟨B,0,none⟩) 1 1)) 217));have o:wb.heap.size=B+2:=by rw[l];simp[z]
  have ac:Below (B+1) wa wb:=by rw[l,<-z];exact ah _
  have M:Is wb (B+1) (DU (λ_=>0) (.slice (some ⟨B,0,none⟩) 1 1)) 217:=by rw[l,<-z];exact Is.new _ _ _
  obtain⟨wc,E⟩:=ae (wb.alloc (.map #[] 0));have N:wc.heap.size=B+3:=by rw[E];simp[o]
  have Ql:Below (B+2) wb wc:=by rw[E,<-o];exact ah _
  have mc:dE prog 213 wc (B+2) λ_ _=>False:=by rw[E,<-o];exact dE.new _ _
  have Q:(Instr.makeMap 316 none).run prog wb=.ok (.map (some (B+2))) wc:=by rw[E,<-o];rfl
  have Z:=Fs (f:=λ_=>0) (λ_=>by decide) 0;rw[pg _ _ (λ_ _=>rfl)] at Z;have ax:=aa RJ;have aR:=aa l;have a4:=aa E;have HB:=aa hB;have al:=aa z;have aL:=aa o;have NU:=aa N;clear F RJ l E hB z o N
  go_wp2_with (first
   | (refine tZ rfl 215 213 _ rfl x8 (by decide) (by decide) zeroCells213 rfl (by kernel_rfl) ?_;rw[<-ax.out,<-HB.out])
   | (refine wI rfl _ rfl (some ⟨B,0,none⟩) 1 1 rfl ?_)
   | (refine Go.Great.wpList_boxTo rfl 217 _ rfl _ rfl (B+1) al.out (DU (λ_=>0) (.slice (some ⟨B,0,none⟩) 1 1)) rfl ?_;rw[<-aR.out])
   | (refine DV (xv:=.agg zeroCells213) (vv:=.int .i64 0) rfl _ _ _ 316 3 rfl uF underlying316 mc rfl rfl rfl Z ?_;intro wd aM P)
   | fail)
  have A:(zeroCells213).size=256:=by kernel_rfl
  have oa:wa.ownsRow B 213 256 (.slice (some ⟨B,0,none⟩) 1 1) 1 ([λ_=>0].flatMap x9):=by
   have e:[λ_=>0].flatMap x9=(zeroCells213).toList:=by
    simp only[jx,List.flatMap_nil,me,x9];rw[pg _ _ (λ_ _=>rfl)]
   rw[e];exact⟨by rw[sY,A],.inr ⟨B,1,_,rfl,d' _,ka.at_,d' _,by decide,by rw[A],by rw[iu];simp[A]⟩⟩
  have Vk:B=wr.heap.size:=HB.out;have z:=al.out;have o:=aL.out;have N:=NU.out;have ob:=aH oa (z▸ac);have oc:=aH ob (o▸Ql);have od:wd.ownsRow B 213 256 (.slice (some ⟨B,0,none⟩) 1 1) 1 ([λ_=>0].flatMap x9):=oc.kept P (.inr (λe=>by simp[Value.ownBlock] at e));have kd:Is wd (B+1) (DU (λ_=>0) (.slice (some ⟨B,0,none⟩) 1 1)) 217:=(M.mono (o▸Ql)).grown P (λe=>by injection e with e;omega);have Za:Below B wr wd:=((aE.trans (ac.mono (by omega))).trans (Ql.mono (by omega))).grown P (by omega) (λk t=>by injection t with t;omega);have y:wJ wd (B+1) (B+2) B f 0 (λ_=>0) [λ_=>0] (.slice (some ⟨B,0,none⟩) 1 1):=by
   refine⟨kd,od,⟨_,aM,?_⟩,⟨_,rfl,λ_ _=>rfl⟩,λm hm=>by omega,λ_ _=>rfl⟩;rintro x u (⟨rfl,rfl⟩|⟨_,h⟩)
   ·exact⟨0,_,rfl,by rw[pg _ _ (λ_ _=>rfl)],rfl⟩
   exact h.elim
  have aZ:B<=wd.heap.size:=by have:=Za.size;omega
  clear aM P kd od oc ob oa A Q Z mc M ka aE ac Ql N o z ax aR a4 al aL NU;obtain⟨wE,a7⟩:=ae wr;subst a7;have bd:w.heap.size<B:=by omega
  clear Vk;go_loopw [53] (λiv wn=>∃n:Nat,n<=4352/\iv=.int .i64 n/\(∃ab Bs v,wJ wn (B+1) (B+2) B f n ab Bs v/\Bs.length<=n+1)/\Below B wE wn) (λiv _=>4352-(intOf iv).toNat)
  case atStart=>exact⟨0,ic _,rfl,⟨_,_,_,y,by simp⟩,Za⟩
  case round=>
   clear y Za aZ;obtain⟨n,rW,rfl,⟨ab,Bs,v,y,X⟩,NV⟩:=hrel;by_cases D:n<4352
   ·have zn:decide ((n:Int)<4352)=true:=by simp;omega
    have F:=HR.out.mono (HB.out▸NV);have s:=Ap n (by omega)
    go_wp2_with (first
     | (refine iL rfl _ _ 314 315 false rfl jR underlying314 F.map rfl rfl s (zeroValue315 _) ?_ ?_)
     | fail)
    ·intro d
     replace d:=r_ d
     have am:=y.skip (F.no n d);go_wp2_with fail;go_roundw
     case rel=>exact⟨n+1,by omega,by simp,⟨_,_,_,am,by omega⟩,NV⟩
     case measure=>simp[intOf];omega
    intro pv a;obtain⟨b,H,rfl⟩:=r9 a;clear a;obtain⟨_,_,M⟩:=F.is n b H;have bl:b<B:=by have:=(HR.out.is n b H).2.2.lt;have:=HB.out;omega
    have av:=Fs hf n;obtain⟨G,hG,aP⟩:=y.map;have aG:=aa aP;clear aP
    go_wp2_with (first
     | (refine yp rfl 213 _ rfl b rfl 213 (dw f n) (0,0) _ M.at_ underlying213 rfl (by rw[fA];kernel_rfl) ?_)
     | (refine iL rfl _ _ 316 3 true rfl uF underlying316 hG rfl rfl av (zeroValue3 _) ?_ ?_)
     | fail)
    ·intro d;obtain⟨aW,a1,bc,_,_⟩:=ak y.own;subst bc;have Q6:=aa y.own.1;obtain⟨V,C⟩:=ae Bs.length;have Zb:=aa C;have e0:=y.is.at 4352 (lT _ _);rw[<-C] at e0 X;clear C Q6
     go_wp2_with (first
      | (refine yp rfl 213 _ rfl b rfl 213 (dw f n) (0,0) _ M.at_ underlying213 rfl (by rw[fA];kernel_rfl) ?_)
      | (refine jQ (xv:=.agg (dw f n)) (vv:=.int .i64 V) rfl _ _ _ 316 3 rfl uF underlying316 hG rfl rfl rfl av ?_;intro w5 J r)
      | fail)
     simp only[Act.put];have C:=Zb.out;have ho:=y.own;have hi:=y.is;rw[<-C] at ho hi;have aw:=Km hG ho;have U:=hi.other ho (by decide);have k5:=hi.grown r (λe=>by injection e with e;omega);have a5:=ho.kept r (.inr aw);have a0:=M.grown r (λe=>by injection e with e;omega);have aX:B+2<=w5.heap.size:=by have:=k5.lt;omega
     have k6:=k5.mono (ag w5);have Us:=aH a5 (ag w5);have aV:=a0.mono (ag w5);have bk:B+2<=w5.drew.heap.size:=aX;have g0:=vG.keeps (S:=λk=>k=B+1\/k<B) (k6.at 4352 (lT _ _)) (.inl rfl);have HN:=aa y;have a8:=aa J;have aK:=aa r;clear C y hG F e0 J r;refine dF (KR.blocks λk=>k=B+1\/k<B) #[true,true,true,true,true,true,true,true,true,true,true,true,false] 12 1 mixed ?_;refine bZ [0,1,2,3,4,5,6] 5 ?_
     iterate 7 (refine aA rfl ?_;go_big_quiet_step (rfl))
     refine az ?_;refine bN 7 ?_;refine yp rfl 213 _ rfl b rfl 213 (dw f n) (0,0) _ aV.at_ underlying213 rfl (by rw[fA];kernel_rfl) ?_;go_wp2_with fail;refine bK (KR.refl _ _) ?_;refine bN 8 ?_;refine tZ rfl 215 213 _ rfl x8 (by decide) (by decide) (dw f n) rfl (fA _ _) ?_;go_wp2_with fail;refine bK (KR.of_below (ah _) (by simp) (λk t=>by rcases t with rfl|t <;> omega)) ?_;refine bN 9 ?_;refine Bt (W:=w5.drew) rfl _ _ 215 rfl B 213 _ 256 512 x8 (by decide) (by decide) (.slice aW V a1) V (Bs.flatMap x9) rfl Us (dw f n) rfl (fA _ _) (NT _ _) (by omega) (by omega) ?_;intro v1 w9 o9 o_ Dw;obtain⟨na,nc,rfl,_,_⟩:=ak o9;go_wp2_with fail;have k7:=k6.mono (ah (.cells (dw f n) 213));have a6:=aH Us (ah (.cells (dw f n) 213));have k9:=k7.grown Dw U;have bo:B+2<=w9.heap.size:=k9.lt;refine bK (KR.bQ (w:=w5.drew.alloc (.cells (dw f n) 213)) Dw Dw.size (λk t=>?_)) ?_
     ·rcases t with rfl|t
      ·exact⟨k7.lt,U⟩
      exact⟨by simp;omega,Go.Cd.aQ ho t⟩
     refine bZ [10,11] 0 ?_
     iterate 2 (refine aA rfl ?_;go_big_quiet_step (rfl))
     refine az ?_;have e9:=k9.at 4352 (lT _ _);have d9:=k9.frozen 4352;refine eU [12] ?_;refine tail_cons rfl ?_;go_wp2_with fail;refine tail_nil ?_;have NY:wJ (w9.setCell ⟨B+1,4352,none⟩ (.slice na (V+1) nc)) (B+1) (B+2) B f n ab (Bs++[λx=>f (n*256+x)]) (.slice na (V+1) nc):=by
      have bb:=k9.other o9 (by decide);refine HN.out.more (w4:=w5) (w5:=w5.drew.alloc (.cells (dw f n) 213)) a8.out ?_ aK.out (by omega) (Zb.out▸aw) ((ag w5).alloc (d' _) _) (Zb.out▸o9) (Zb.out▸Dw) bb;rintro x u (⟨rfl,rfl⟩|⟨_,hx⟩)
      ·refine⟨V,_,?_,by rw[zI],rfl⟩;rw[Zb.out,j' (d' _)];simp
      obtain⟨i,g,h1,h2⟩:=aG.out _ _ hx;exact⟨i,g,by rw[kB (iR.1 h1).1];exact h1,h2⟩
     have Ko:Below B wE (w9.setCell ⟨B+1,4352,none⟩ (.slice na (V+1) nc)):=by
      refine aj (((NV.grown aK.out (by have:=NV.size;have:=HB.out;omega) (λk t=>by injection t with t;omega)).trans (((ag w5).mono (by omega)).alloc (by omega) _)).grown Dw (by simp;omega) (λk t=>(ho.lt k t).1)) (by omega)
     obtain⟨wf,ad⟩:=ae (w9.setCell ⟨B+1,4352,none⟩ (.slice na (V+1) nc));rw[<-ad] at NY Ko;have aS:=NY.own;have aq:(Bs++[λx=>f (n*256+x)])[V]? = some (λx=>f (n*256+x)):=by
      rw[Zb.out,j' (d' _)];simp
     have a2:=aa (NY.lay D aq (λ_ _=>rfl) (NY.is.other aS (by decide)) (by omega));have bf:=NY.is.at n (uH _ _ D);have be:=NY.is.frozen n;rw[<-ad];clear e9 d9 ad NY aS k9 Dw o9 k7 a6;go_wp2_with fail;go_roundw
     case rel=>exact⟨n+1,by omega,by simp,⟨_,_,_,a2.out,by rw[gn,<-Zb.out];simp;omega⟩,aj Ko (by omega)⟩
     case measure=>simp[intOf];omega
    intro pv a;obtain⟨i,g,hi,T,rfl⟩:=aG.out _ _ a;have bi:=(iR.1 hi).1;have Zc:i<65536:=by omega
    have ba:=aa (λk (t:k<256)=>show g k=f (n*256+k) from by
     injection T with T;have:=RH T t;rw[ur,k_] at this
     exact this.symm)
    have e9:=y.is.at n (uH _ _ D);have d9:=y.is.frozen n;have U:=y.is.other y.own (by decide);have am:=aa (y.lay D hi ba.out U (by omega));clear a T;go_wp2_with fail;go_roundw
    case rel=>exact⟨n+1,by omega,by simp,⟨_,_,_,am.out,by omega⟩,aj NV (by omega)⟩
    case measure=>simp[intOf];omega
   have zn:decide ((n:Int)<4352)=false:=by simp;omega
   obtain rfl:n=4352:=by omega
   have hP:=y.pages X hf;rw[a_.out] at hP;go_wp2_with fail;go_ret;exact⟨B+1,rfl,hP,hE.trans (NV.mono (by omega))⟩
end Go.Proofs.YtmnimbnojdndmaaGreatDoor
namespace Go.Proofs.YtmnimbnojdndmaaGreatDoor
open Go.RowKit Go.Cd
def aad {w w':World} {base a n:Nat} {e:TypeId} {v:Value} {c:List Value} (h:w.ownsRow base e a v n c) (l:∀k,v.ownBlock=some k->w'.heap[k]? = w.heap[k]?):w'.ownsRow base e a v n c:=by
 obtain⟨f,m⟩:=h;refine⟨f,m.imp id ?_⟩;rintro⟨g,cap,b,d,i,j,r⟩;exact⟨g,cap,b,d,i,(l g (by rw[d];rfl)).trans j,r⟩
def mZ (w:World) (k:Nat) (T:TypeId):Prop:=∃a,w.heap[k]? = some (.cells a T)
def mZ.one {w:World} {k:Nat} {T b:TypeId} (h:mZ w k T) (e:mZ w k b):T=b:=by
 obtain⟨f,c⟩:=h;obtain⟨d,a⟩:=e;rw[c] at a;injection a with a;injection a
def bV {w:World} {base a n:Nat} {e:TypeId} {v:Value} {f:List Value} (h:w.ownsRow base e a v n f) {k:Nat} (b:v.ownBlock=some k):mZ w k e:=by
 rcases h.2 with⟨c,_⟩|⟨g,_,d,c,_,i,_⟩
 ·rw[c] at b;cases b
 rw[c] at b;cases b;exact⟨d,i⟩
abbrev ig:=Nat->Option Nat
def Ut (W:World) (Z:ig):Prop:=∀k,Z k≠none->k<W.heap.size/\mZ W k aN
def si (W:World) (B:Nat) (Z:ig) (o:Nat) (v:Value) (l:List Nat):Prop:=W.ownsRow B aN 1 v l.length (aM l)/\∀k,v.ownBlock=some k->Z k=some o
structure vK (W:World) (Z:ig) (o:Nat) (W':World) (Z':ig):Prop where
 os:W'.os=W.os
 tape:W'.tape=W.tape
 output:W'.output=W.output
 size:W.heap.size<=W'.heap.size
 keep:∀k,k<W.heap.size->Z k≠some o->W'.heap[k]? = W.heap[k]?
 sub:∀k,k<W.heap.size->Z k≠some o->Z' k=Z k
 z:Ut W' Z'
def si.nil (W:World) (B:Nat) (Z:ig) (o:Nat):si W B Z o (.slice none 0 0) []:=⟨iS _ _ _ _,λk h=>by simp[Value.ownBlock] at h⟩
def Ut.lt {W:World} {Z:ig} (h:Ut W Z) {k o:Nat} (a:Z k=some o):k<W.heap.size:=(h k (by rw[a];simp)).1
def Ut.mono {W a:World} {Z:ig} (h:Ut W Z) (g:W.heap.size<=a.heap.size) (d:∀k,Z k≠none->a.heap[k]? = W.heap[k]?):Ut a Z:=λk b=>by
 obtain⟨f,c,e⟩:=h k b;exact⟨by omega,c,(d k b).trans e⟩
def si.mono {W a:World} {B:Nat} {Z:ig} {o:Nat} {v:Value} {l:List Nat} (h:si W B Z o v l) (c:∀k,Z k≠none->a.heap[k]? = W.heap[k]?):si a B Z o v l:=
 ⟨aad h.1 λk b=>c k (by rw[h.2 k b];simp),h.2⟩
def vK.other {W d:World} {Z c:ig} {o:Nat} (h:vK W Z o d c) {o' B:Nat} (f:o'≠o) {v:Value} {l:List Nat} (a:si W B Z o' v l):si d B c o' v l:=by
 refine⟨aad a.1 λk b=>h.keep k (a.1.lt k b).2 λe=>f ?_,λk b=>?_⟩
 ·rw[a.2 k b] at e;injection e
 rw[h.sub k (a.1.lt k b).2 λe=>f (by rw[a.2 k b] at e;injection e)];exact a.2 k b
def vK.free {W i:World} {Z f:ig} {o:Nat} (h:vK W Z o i f) {B n a:Nat} {e:TypeId} {v:Value} {g:List Value} (d:W.ownsRow B e a v n g) (c:∀k,v.ownBlock=some k->Z k=none):i.ownsRow B e a v n g/\∀k,v.ownBlock=some k->f k=none:=by
 refine⟨aad d λk b=>h.keep k (d.lt k b).2 λe=>?_,λk b=>?_⟩
 ·rw[c k b] at e;cases e
 rw[h.sub k (d.lt k b).2 λe=>(by rw[c k b] at e;cases e)];exact c k b
def vK.below {W a:World} {Z b:ig} {o:Nat} (h:vK W Z o a b) {B:Nat} (c:∀k,Z k≠none->B<=k) (f:B<=W.heap.size):Below B W a:=
 ⟨h.os,h.tape,h.output,h.size,λk d=>h.keep k (by omega) λe=>by have:=c k (by rw[e];simp);omega⟩
def vK.ja {W d:World} {Z:ig} {o B:Nat} {v v':Value} {l l':List Nat} (s:Ut W Z) (m:si W B Z o v l) (h:d.ownsRow B aN 1 v' l'.length (aM l')) (b:W.grownBy d v.ownBlock) (i:kK W v v') :
 ∃j,vK W Z o d j/\si d B j o v' l':=by
 refine⟨λk=>if v'.ownBlock=some k then some o else if v.ownBlock=some k then none else Z k,⟨b.os,b.tape,b.output,b.size,λk a g=>b.block k a λe=>g (m.2 k e.symm),λk a g=>?_,λk a=>?_⟩,h,λk a=>by simp[a]⟩
 ·have c:v.ownBlock≠some k:=λe=>g (m.2 k e);have r:v'.ownBlock≠some k:=λe=>by
   rcases i with i|⟨t,f,n⟩
   ·exact c (i▸e)
   rw[f] at e;injection e with e;omega
  simp[r,c]
 by_cases e:v'.ownBlock=some k
 ·exact⟨(h.lt k e).2,bV h e⟩
 simp only[if_neg e] at a;by_cases c:v.ownBlock=some k
 ·simp[c] at a
 simp only[if_neg c] at a;obtain⟨f,p,n⟩:=s k a;have:=b.size;exact⟨by omega,p,(b.block k f λq=>c q.symm).trans n⟩
def ng {P:Program} {W:World} {ops:Array Oper} {rest:List Oper} {o:Oper} {a:Act} {Q:Exit->Act->World->Prop} (L:o.guard=none) (s x:Operand) (t:TypeId)
 (ho:o.op=.call { callee:=.builtin .append,args:=#[s,x],argTypes:=#[t,t] })
 (base:Nat) (e:TypeId) (z:Value) (b:Nat) (X:Elem P t e z b) (V:b<=100000)
 {v:Value} {n:Nat} {H:List Value} (hs:a.eval s=v) (f:W.ownsRow base e 1 v n H) (q:base<=W.heap.size)
 (us:List Value) (U:∀u∈us,u.oneCell'=true) (p:Addr) (m c:Nat) (hm:m=us.length) (Z:a.eval x=.slice (some p) m c) (F:∀j u,us[j]? = some u->W.cell? (p.add j)=some u) (hn:n+m<1000000)
 (h:∀v' M,M.ownsRow base e 1 v' (n+m) (H++us)->W.grownBy M v.ownBlock->kK W v v'->wpList P ops Q rest (a.put o.dst v') M):wpList P ops Q (o::rest) a W:=by
 obtain⟨R,B,i,A,J,d,w⟩:=X;have G:us.length=m*i.size:=by rw[d];omega
 have O:us.length=m*1:=by omega
 have K:(n+m)*b<=140737488355328:=by
  have:(n+m)*b<=1000000*100000:=pP (by omega) V;omega
 obtain⟨v',w',l,h2,Y,_⟩:=run_append_own (P:=P) W base t o.type e i z 1 b B A J d w (kG R) (by decide) v n H f p m c us O F U (by unfold maxLen;omega) K q;refine so _ L s x _ _ ho v _ hs Z v' w' l (h v' w' h2 Y ?_);rcases pB m with hm0|hm0
 ·have N:us=[]:=iJ.1 (by omega);subst N;subst hm0;have k:(Builtin.append_ #[t,t] o.type #[v,.slice (some p) 0 c]).run P W=.ok v W:=by
   rcases f.2 with⟨rfl,rfl⟩|⟨g,cap,E,rfl,I,T,C,S,D,r⟩
   ·simp[Builtin.append_,run_underlying B,sizeOf,typeInfo,A,Builtin.lenOf,run_firstCells_some (P:=P) W i.size 0 p 0 c [] G F]
   simp[Builtin.append_,run_underlying B,sizeOf,typeInfo,A,Builtin.lenOf,C,Builtin.firstCells,loadCells,loadCellsFrom,storeCells]
  rw[k] at l;injection l with e1 _;subst e1;exact .inl rfl
 rcases f.2 with⟨rfl,rfl⟩|⟨g,cap,E,rfl,I,T,C,S,D,r⟩
 ·have k:=run_append_nil (P:=P) W t o.type e i z B A J p m c us G F hm0 (by omega) (by rw[w];have:=pP (show m<=1000000 by omega) V;omega);rw[k] at l;injection l with e1 _;subst e1;exact .inr ⟨_,rfl,d' _⟩
 by_cases y:n+m<=cap
 ·have k:=run_append_room (P:=P) W t o.type e i B A g n cap E T p m c us G F U y (by rw[d,D];omega);rw[k] at l;injection l with e1 _;subst e1;exact .inl rfl
 have k:=run_append_grow (P:=P) W t o.type e i z B A J ⟨g,0,none⟩ n cap H (by rw[d];exact f.1) (f.cells (g:=g) rfl) p m c us G F (by omega) (by omega) (growslice_fits (by omega) (by rw[w];omega));rw[k] at l;injection l with e1 _;subst e1;exact .inr ⟨_,rfl,d' _⟩
end Go.Proofs.YtmnimbnojdndmaaGreatDoor
