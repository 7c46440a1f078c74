/- Texts that are alike cost, and count, the same; no condition. -/
import Derived.Test.YtmnimbnojdndmaaGreatDoorU20
import Derived.Lib.Case
import Derived.Lib.Repeat
set_option maxRecDepth 100000
set_option maxHeartbeats 6400000
set_option linter.all false
namespace Go.Proofs.YtmnimbnojdndmaaGreatDoor
open Go.RowKit Go.Cd _root_.Go.Proofs.Tryz
variable {w:World} {n cap k B g c:Nat} {P Q:List Nat}
def aiU (i:Int) {S:Nat} (h:1<=S) (c:S<=281474976710656):∃A:Nat,A<S/\(wrap64 (i.tmod (S:Int)+(S:Int))).tmod (S:Int)=(A:Int):=by
 have d:-(S:Int)<i.tmod (S:Int):=Int.neg_lt_of_neg_lt (by have:=vm (-i) (show(0:Int)<(S:Int) by omega);rw[Int.neg_tmod] at this;exact this);have e:i.tmod (S:Int)<(S:Int):=vm i (by omega);generalize i.tmod (S:Int)=q at *;obtain⟨m,a⟩:∃m:Nat,q+(S:Int)=(m:Int):=⟨(q+(S:Int)).toNat,by omega⟩;have b:wrap64 (q+(S:Int))=(m:Int):=by rw[a];unfold wrap64;omega
 rw[b,<-A0];exact⟨m % S,mx _ h,rfl⟩
def bG.aex {b off:Nat} {a:List Value} (h:bG w (.slice (some ⟨b,off,none⟩) n cap) a) (s:k<=a.length) :
 bG w (.slice (some ⟨b,off+k,none⟩) (n-k) (cap-k)) (a.drop k):=by
 obtain⟨p,d,g,r,c⟩:=h;simp only[tm] at g;obtain⟨rfl,rfl,rfl⟩:=g;refine⟨_,_,by rw[ps],by rw[ps];omega,?_⟩;rcases c with⟨rfl,h0⟩|⟨q,f,cs,e,j,m,l,c⟩
 ·exact .inl ⟨by simp,λe=>by cases e⟩
 cases m;refine .inr ⟨b,off+k,cs,e,j,rfl,l,λi o=>?_⟩;rw[ps] at o;rw[List.getElem_drop,te];exact c (k+i) (by omega)
def bG.aiV {a:Option Addr} {c:List Value} (h:bG w (.slice a n cap) c) (t:k<=c.length):bG w (.slice a k cap) (c.take k):=by
 obtain⟨r,g,j,s,f⟩:=h;simp only[tm] at j;obtain⟨rfl,rfl,rfl⟩:=j;have d:(c.take k).length=k:=by rw[iS];omega
 refine⟨_,_,by rw[d],by rw[d];omega,?_⟩;rcases f with⟨rfl,h0⟩|⟨p,b,cs,e,l,o,m,f⟩
 ·exact .inl ⟨by simp,h0⟩
 refine .inr ⟨p,b,cs,e,l,o,m,λi q=>?_⟩;rw[d] at q;rw[we];exact f i (by omega)
def kW (h:w.ownsRow B bB 1 (.slice (some ⟨g,0,none⟩) n cap) n (ints (P++c::Q))) (a:P.length=k):w.cell? ⟨g,k,none⟩=some (.int .i64 c)/\w.frozen? ⟨g,k,none⟩=false:=by
 subst a;have:=jY h (j:=P.length) (by simp);simpa [ints] using this
def kY {d:Nat} (h:w.ownsRow B bB 1 (.slice (some ⟨g,0,none⟩) n cap) n (ints (P++c::d::Q))) (b:P.length=k):w.cell? ⟨g,k+1,none⟩=some (.int .i64 d)/\w.frozen? ⟨g,k+1,none⟩=false:=by
 have a:w.ownsRow B bB 1 (.slice (some ⟨g,0,none⟩) n cap) n (ints ((P++[c])++d::Q)):=by simpa using h
 exact kW a (by simp[b])
def afA {O:List Nat} (h:k<O.length):∃P c Q,O=P++c::Q/\P.length=k:=
 ⟨O.take k,O[k],O.drop (k+1),by rw[<-iz h,ke],by rw[iS];omega⟩
def abQ (P R:List Nat) (a:P.length=k):(ints (P++R)).take k=ints P:=by
 subst a;simp[ints]
def wW (P R:List Nat) (a:P.length=k):(ints (P++R)).drop k=ints R:=by
 subst a;simp[ints]
def gN {w':World} {v:Value} {e:TypeId} {s:Nat} {a:List Value} (h:w.ownsRow B e s v n a) (b:w.grownBy w' v.ownBlock) (d:B<=w.heap.size):Below B w w':=
 (gO _ _).grown b d (λk c=>(h.lt k c).1)
def wY (h:w.ownsRow B bB 1 (.slice (some ⟨g,0,none⟩) n cap) n (ints (P++c::Q))) (d:P.length=k) :
 bG w (.slice (some ⟨g,0,none⟩) k cap) (ints P)/\bG w (.slice (some ⟨g,k,none⟩) (n-k) (cap-k)) (ints (c::Q))/\bG w (.slice (some ⟨g,if cap=k+1 then 0 else k+1,none⟩) (n-(k+1)) (cap-(k+1))) (ints Q):=by
 obtain⟨_,_,l,i,_⟩:=ak h;injection l with _ _ he3;subst he3;have h0:(ints (P++c::Q)).length=n*1:=h.1;have b:=(Sl.aU h).any;have a:k<(ints (P++c::Q)).length:=by simp[ints];omega
 refine⟨?_,?_,?_⟩
 ·have:=bG.aiV b (nu a);rwa [abQ P _ d] at this
 ·have:=bG.aex b (nu a);rwa [wW P _ d,kh] at this
 by_cases f:cap=k+1
 ·rw[if_pos f];have j:Q=[]:=by
   have:Q.length=0:=by simp[ints] at h0;omega
   exact oS this
  subst j;exact⟨_,_,by rw[show n-(k+1)=0 by simp[ints] at h0;omega];rfl,gW _,.inl ⟨rfl,λe=>by cases e⟩⟩
 rw[if_neg f];have:=bG.aex b (k:=k+1) a
 rwa [show P++c::Q=(P++[c])++Q by simp,wW (P++[c]) Q (by simp[d]),kh] at this
def abU {v u pv:Value} {T:List aG} {X L:List Nat} {pk:List Int} (h:jq w v T X) (hV:aY T X) (hl:bG w u (ints L)) (hc:∀c∈L,aP c) (YS:(gQ T L).length<1000) (hp:bG w pv (bO pk)) (bF:T.length<1000) :
 Calls prog 21 #[v,u,pv] w λe w'=>∃r O,e=.returned r/\w'.ownsRow w.heap.size bB 1 r O.length (ints O)/\(∀c∈O,aP c)/\gQ T O=gQ T L/\Below w.heap.size w w':=by
 have HT:=aa h;obtain⟨a,nt,cap,ax,nx,cx,rfl⟩:=h.shape;obtain⟨n,hn⟩:=ae L.length;have HL:=aa hl;obtain⟨al,cl,rfl,_,_⟩:=bG.nO hl hn;obtain⟨pa,pc,rfl,_,bb⟩:=bG.out hp;obtain⟨np,Ux⟩:=ae ((bO pk).length);rw[<-Ux];have HP:=aa bb;have Yj:=aa Ux;have HN:=aa hn;have rW:n<1000:=by have:=gY (T:=T) L;omega
 have an:(ints L).length=n:=by rw[ek,hn]
 obtain⟨W0,hW⟩:=ae (w.alloc (.cells #[.slice a nt cap,.slice ax nx cx] 25));have hb:=aO hW;have i0:=Is.nw hW;have av:W0.heap.size=w.heap.size+1:=by rw[hW];simp
 have o0:(W0.alloc (.cells #[] bB)).ownsRow (w.heap.size+1) bB 1 (.slice (some ⟨w.heap.size+1,0,none⟩) 0 0) 0 []:=by
  have:=rM W0 bB;rw[av] at this;exact this
 have am:Below (w.heap.size+1) W0 (W0.alloc (.cells #[] bB)):=by rw[<-av];exact ah _
 have UA:=aa (HL.out.mono (hb.trans (am.mono (by omega))));have aE:(W0.alloc (.cells #[] bB)).heap.size=w.heap.size+2:=by simp[av]
 obtain⟨W1,au⟩:=ae (W0.alloc (.cells #[] bB));rw[<-au] at o0 am UA aE;rw[hW] at au;have aQ:w.heap.size+1<=W1.heap.size:=by omega
 have bi:Below w.heap.size w W1:=hb.trans (am.mono (by omega));have i1:Is W1 w.heap.size #[.slice a nt cap,.slice ax nx cx] 25:=i0.low am (by omega);have CK:=aa (λ(W:World) (E:Below w.heap.size w W) (c:Nat)=>tK (HT.out.mono E) c (by omega));have MK:=aa (λ(W:World) (E:Below w.heap.size w W) (c:Nat) (h:aP c)=>y9 (HT.out.mono E) c h.1 (by omega));have CH:=aa (λ(W:World) (E:Below w.heap.size w W) (v:Value) (l:List Nat) (hv:bG W v (ints l)) (hc:∀c∈l,aP c) (hl:l.length<1000)=>Em (HT.out.mono E) hV hv hc (by omega) (by omega));have HV:=aa hV;have aN:=aa i1;have aD:=aa bi;have O0:=aa o0;have HC:=aa hc;rw[au] at aN aD O0 UA aQ;clear h hl hp bb Ux hn o0 hW aE av i0 am i1 bi hb au HL hc HT hV;go_enter func21,ntmps21;go_wp2_with (at_builtin;refine bR rfl _ _ 23 rfl (w.heap.size+1) bB _ 8 jN _ 0 _ rfl O0.out _ (ints L) rfl UA.out (kJ L) (by rw[an];unfold maxLen;omega) (by rw[an];omega) aQ ?_;intro v1 w3 K f;obtain⟨a1,Ao,rfl,_,_⟩:=ak K);have a4:Below w.heap.size w w3:=aD.out.grown f aD.out.size (λk hk=>by have:=(O0.out.lt k hk).1;omega);have I3:=aN.out.keep O0.out f (by omega);have o3:w3.ownsRow (w.heap.size+1) bB 1 (.slice a1 n Ao) n (ints L):=by
  have:=K;rw[an] at this;simpa using this
 (try simp only[ek,<-HN.out,an,kh])
 have O3:=aa o3;have D6:=a4.size;clear O0 UA aN aD f K aQ o3;obtain⟨NL,aM⟩:=ae (gQ T L);rw[<-aM] at YS;have Yn:=aa aM;clear aM an;go_loopw [7,8,9,10,11,12,116,139] (λov iv _ _ _ _ _ _ wr=>∃(i:Nat) (O:List Nat),i<=np/\i<=20/\iv=.int .i64 i/\wr.ownsRow (w.heap.size+1) bB 1 ov O.length (ints O)/\(∀c∈O,aP c)/\gQ T O=NL/\Is wr w.heap.size #[.slice a nt cap,.slice ax nx cx] 25/\Below w.heap.size w wr) (λ_ iv _ _ _ _ _ _ _=>np-(intOf iv).toNat)
 case atStart=>exact⟨0,L,gW _,by omega,rfl,HN.out▸O3.out,HC.out,Yn.out.symm,I3,a4⟩
 case round=>
  obtain⟨i,O,hi,bI,rfl,ho,ba,aX,hI,hB⟩:=hrel;clear a4 I3 D6 O3;have bP:=hB.size;obtain⟨m,hm⟩:=ae O.length;rw[<-hm] at ho;have bM:m<1000:=by have:=gY (T:=T) O;rw[aX] at this;omega
  obtain⟨ao,co,rfl,_,_⟩:=ak ho;have H:=aa ho;have HM:=aa hm;have N:=aa ba;have s:=aa aX;clear ho hm ba aX;by_cases bg:i<np/\i<20/\0<m
  ·obtain⟨g1,g2,g3⟩:=bg;have z1:=eG (show i<np by omega);have z2:decide ((i:Int)<20)=true:=decide_eq_true (by omega);have z3:decide ((0:Int)<(m:Int))=true:=decide_eq_true (by omega);have aL:i<(bO pk).length:=by have:=Yj.out;omega
   have bu:i<pk.length:=by simpa [bO] using aL
   obtain⟨pb,po,rfl,_,p0⟩:=HP.out i aL;rw[show(bO pk)[i]=.int .i64 pk[i] by simp[bO]] at p0;obtain⟨x,b⟩:=ae (pk[i]);rw[<-b] at p0;have p0:=aB hB p0;have bJ:((m:Int)==0)=false:=beq_eq_false_iff_ne.2 (by omega);clear b aL bu;obtain⟨g,rfl,f,ac⟩:=abb H.out g3;obtain⟨A,hA,bL⟩:=aiU (x / 4) (S:=m) (by omega) (by omega);obtain⟨P,c,Q,hO,hP⟩:=afA (show A<O.length by rw[<-HM.out];exact hA);subst hO;have aV:=N.out c (by simp);have bK:=aV.1;have f0:=(kW H.out hP).1;have t0:=hI.at 0 rfl;have t1:=hI.at 1 rfl;have e0:=Gr.cell (ag wr) p0;have p:=aa hP;have a9:=aa aV;have qY:=aa (λ(W:World) (E:Below wr.heap.size wr W)=>(⟨i+1,P++c::Q,by omega,by omega,by simp,by rw[<-HM.out];exact aH H.out E,N.out,s.out,hI.mono E,af hB E⟩:∃(C:Nat) (O:List Nat),C<=np/\C<=20/\Value.int .i64 ((i:Int)+1)=.int .i64 C/\W.ownsRow (w.heap.size+1) bB 1 (.slice (some ⟨g,0,none⟩) m co) O.length (ints O)/\(∀c∈O,aP c)/\gQ T O=NL/\Is W w.heap.size #[.slice a nt cap,.slice ax nx cx] 25/\Below w.heap.size w W));have D:=aa hB;have M:=aa hI;clear e0 hP aV;go_wp2_with fail
   ·
    have g0:=Gr.cell (ag wr) t0;have g1:=Gr.cell (ag wr) t1;have g2:=Gr.cell (ag wr) f0;refine aC (Array.replicate 7 true) 7 0 mixed ?_;refine ay [0,1,2,3,4] 2 ?_
    iterate 5 (refine aA rfl ?_;go_big_quiet_step (rfl))
    refine az ?_;refine aI 5 ?_;go_wp2_with fail;refine(MK.out _ D.out.drew c a9.out).mono ?_;rintro e w5⟨r,rfl,hr,Z⟩;obtain⟨nm,aS⟩:=ae ((mapOf T c).length);obtain⟨ma,mc,rfl,_,_⟩:=bG.nO hr aS;have sN:=aa aS;clear aS;go_wp2_with fail;refine aF Z ?_;refine ay [6] 0 ?_
    iterate 1 (refine aA rfl ?_;go_big_quiet_step (rfl))
    refine az ?_;refine aJ [] ?_;refine tail_nil ?_;have E5:=af (ag wr) Z;have HR:=aa hr;have jP:=aa E5;clear g0 g1 g2 t0 t1 f0 hr Z E5 hB hI;by_cases hz:0<nm
    ·have zz:decide ((0:Int)<(nm:Int))=true:=decide_eq_true (by omega);have ab:=p.out;have bv:A+1+Q.length=m:=by have:=HM.out;simp at this;omega
     have bS:nm<1000000:=by
      have h1:=HM.out;have h2:=O8 HV.out (show mapOf T c≠[] from λe=>by have:=sN.out;rw[e] at this;simp at this;omega) P Q;have h3:=gY (T:=T) (P++mapOf T c++Q);rw[h2,s.out] at h3;have:=sN.out;simp at h3;omega
     obtain⟨s1,_,s3⟩:=wY (aH H.out jP.out) p.out;obtain⟨q,Ud⟩:=ae w5.drew;have ji:=aa (show Below wr.heap.size wr q by rw[Ud];exact jP.out.drew);have S1:=aa (show bG q _ (ints P) by rw[Ud];exact s1.mono (ag w5));have S2:=aa (show bG q _ (ints (mapOf T c)) by rw[Ud];exact HR.out.mono (ag w5));have S3:=aa (show bG q _ (ints Q) by rw[Ud];exact s3.mono (ag w5));clear s1 s3 HR jP;go_wp2_with fail;by_cases a5:co=A+1
     ·rw[if_pos a5] at S3;subst a5;rw[m_,show m-(A+1)=0 by omega] at S3;refine dF (KR.B w5.heap.size) (Array.replicate 13 true) 13 0 mixed ?_;rw[<-Ud,show w5.heap.size=q.heap.size by rw[Ud];rfl];clear Ud;refine bZ [1,2,3,5,7,8,9,10] 5 ?_
      iterate 8 (refine aA rfl ?_;go_big_quiet_step (rfl))
      refine az ?_;refine bN 0 ?_;go_wp2_with fail;refine aaa (ah _) ?_;refine bN 4 ?_;refine bR rfl _ _ 23 rfl q.heap.size bB _ 8 jN _ 0 _ rfl (rM q bB) _ (ints P) rfl (S1.out.mono (ah _)) (kJ P) (by rw[ek];unfold maxLen;omega) (by rw[ek];omega) (ah _).size ?_;intro v1 o K f;have t:=gN (rM q bB) f (ah _).size;go_wp2_with fail;refine aaa t ?_;have t:=(ah (w:=q) (.cells #[] bB)).trans t;refine bN 6 ?_;refine bR rfl _ _ 23 rfl q.heap.size bB _ 8 jN _ _ _ rfl K _ (ints (mapOf T c)) rfl (S2.out.mono t) (kJ _) (by rw[ek,ek,<-sN.out];unfold maxLen;omega) (by rw[ek,ek,<-sN.out];omega) t.size ?_;intro v2 w7 o2 ac;have G:=gN K ac t.size;go_wp2_with fail;refine aaa G ?_;have G:=t.trans G;refine bN 11 ?_;refine bR rfl _ _ 23 rfl q.heap.size bB _ 8 jN _ _ _ rfl o2 _ (ints Q) rfl (S3.out.mono G) (kJ _) (by rw[ek,ek,ek,<-sN.out];unfold maxLen;omega) (by rw[ek,ek,ek,<-sN.out];omega) G.size ?_;intro v3 V o3 aq;have b3:=gN o2 aq G.size;go_wp2_with fail;refine aaa b3 ?_;have b3:=G.trans b3;refine bZ [12] 0 ?_
      iterate 1 (refine aA rfl ?_;go_big_quiet_step (rfl))
      refine az ?_;refine eU [] ?_;refine tail_nil ?_;have E8:=af ji.out b3;have o4:V.ownsRow q.heap.size bB 1 v3 (P++mapOf T c++Q).length (ints (P++mapOf T c++Q)):=by
       have e1:[]++ints P++ints (mapOf T c)++ints Q=ints (P++mapOf T c++Q):=by simp[ints]
       have e2:0+(ints P).length+(ints (mapOf T c)).length+(ints Q).length=(P++mapOf T c++Q).length:=by simp only[ek,d'];omega
       rw[e1,e2] at o3;exact o3
      have F:∀x∈P++mapOf T c++Q,aP x:=by
       intro x b;rcases gR.1 b with b|b
       ·rcases gR.1 b with b|b
        ·exact N.out x (by simp[b])
        exact R8 HV.out b
       exact N.out x (by simp[b])
      have ap:gQ T (P++mapOf T c++Q)=NL:=by
       rw[O8 HV.out (λe=>by have:=sN.out;rw[e] at this;simp at this;omega),s.out]
      have j:w.heap.size+1<=q.heap.size:=by have:=M.out.lt;have:=ji.out.size;omega
      have z:=aa (⟨i+1,P++mapOf T c++Q,by omega,by omega,by simp,aT o4 j,F,ap,M.out.mono E8,af D.out E8⟩:∃(C:Nat) (O:List Nat),C<=np/\C<=20/\Value.int .i64 ((i:Int)+1)=.int .i64 C/\V.ownsRow (w.heap.size+1) bB 1 v3 O.length (ints O)/\(∀c∈O,aP c)/\gQ T O=NL/\Is V w.heap.size #[.slice a nt cap,.slice ax nx cx] 25/\Below w.heap.size w V);clear K o2 o3 o4 F ap t G b3 f ac aq E8 j;go_wp2;go_roundw
      case rel=>exact z.out
      case measure=>simp[intOf];omega
     rw[if_neg a5] at S3;refine dF (KR.B w5.heap.size) (Array.replicate 13 true) 13 0 mixed ?_;rw[<-Ud,show w5.heap.size=q.heap.size by rw[Ud];rfl];clear Ud;refine bZ [1,2,3,5,7,8,9,10] 5 ?_
     iterate 8 (refine aA rfl ?_;go_big_quiet_step (rfl))
     refine az ?_;refine bN 0 ?_;go_wp2_with fail;refine aaa (ah _) ?_;refine bN 4 ?_;refine bR rfl _ _ 23 rfl q.heap.size bB _ 8 jN _ 0 _ rfl (rM q bB) _ (ints P) rfl (S1.out.mono (ah _)) (kJ P) (by rw[ek];unfold maxLen;omega) (by rw[ek];omega) (ah _).size ?_;intro v1 o K f;have t:=gN (rM q bB) f (ah _).size;go_wp2_with fail;refine aaa t ?_;have t:=(ah (w:=q) (.cells #[] bB)).trans t;refine bN 6 ?_;refine bR rfl _ _ 23 rfl q.heap.size bB _ 8 jN _ _ _ rfl K _ (ints (mapOf T c)) rfl (S2.out.mono t) (kJ _) (by rw[ek,ek,<-sN.out];unfold maxLen;omega) (by rw[ek,ek,<-sN.out];omega) t.size ?_;intro v2 w7 o2 ac;have G:=gN K ac t.size;go_wp2_with fail;refine aaa G ?_;have G:=t.trans G;refine bN 11 ?_;refine bR rfl _ _ 23 rfl q.heap.size bB _ 8 jN _ _ _ rfl o2 _ (ints Q) rfl (S3.out.mono G) (kJ _) (by rw[ek,ek,ek,<-sN.out];unfold maxLen;omega) (by rw[ek,ek,ek,<-sN.out];omega) G.size ?_;intro v3 V o3 aq;have b3:=gN o2 aq G.size;go_wp2_with fail;refine aaa b3 ?_;have b3:=G.trans b3;refine bZ [12] 0 ?_
     iterate 1 (refine aA rfl ?_;go_big_quiet_step (rfl))
     refine az ?_;refine eU [] ?_;refine tail_nil ?_;have E8:=af ji.out b3;have o4:V.ownsRow q.heap.size bB 1 v3 (P++mapOf T c++Q).length (ints (P++mapOf T c++Q)):=by
      have e1:[]++ints P++ints (mapOf T c)++ints Q=ints (P++mapOf T c++Q):=by simp[ints]
      have e2:0+(ints P).length+(ints (mapOf T c)).length+(ints Q).length=(P++mapOf T c++Q).length:=by simp only[ek,d'];omega
      rw[e1,e2] at o3;exact o3
     have F:∀x∈P++mapOf T c++Q,aP x:=by
      intro x b;rcases gR.1 b with b|b
      ·rcases gR.1 b with b|b
       ·exact N.out x (by simp[b])
       exact R8 HV.out b
      exact N.out x (by simp[b])
     have ap:gQ T (P++mapOf T c++Q)=NL:=by
      rw[O8 HV.out (λe=>by have:=sN.out;rw[e] at this;simp at this;omega),s.out]
     have j:w.heap.size+1<=q.heap.size:=by have:=M.out.lt;have:=ji.out.size;omega
     have z:=aa (⟨i+1,P++mapOf T c++Q,by omega,by omega,by simp,aT o4 j,F,ap,M.out.mono E8,af D.out E8⟩:∃(C:Nat) (O:List Nat),C<=np/\C<=20/\Value.int .i64 ((i:Int)+1)=.int .i64 C/\V.ownsRow (w.heap.size+1) bB 1 v3 O.length (ints O)/\(∀c∈O,aP c)/\gQ T O=NL/\Is V w.heap.size #[.slice a nt cap,.slice ax nx cx] 25/\Below w.heap.size w V);clear K o2 o3 o4 F ap t G b3 f ac aq E8 j;go_wp2;go_roundw
     case rel=>exact z.out
     case measure=>simp[intOf];omega
    have zz:decide ((0:Int)<(nm:Int))=false:=decide_eq_false (by omega);have z:=aa (qY.out w5 jP.out);go_wp2;go_roundw
    case rel=>exact z.out
    case measure=>simp[intOf];omega
   ·
    have ab:=p.out;have bv:A+1+Q.length=m:=by have:=HM.out;simp at this;omega
    have bQ:(gQ T P).length<1000000:=by
     have h1:=gY (T:=T) (gQ T P++c::Q);rw[wS HV.out,s.out] at h1;simp at h1;omega
    obtain⟨s1,s2,_⟩:=wY H.out p.out;have g0:=GrB.keeps (B:=wr.heap.size) ((hI.mono (ag wr)).at 0 rfl) hI.lt;have g1:=GrB.keeps (B:=wr.heap.size) ((hI.mono (ag wr)).at 1 rfl) hI.lt;have br:=aa (CH.out _ D.out.drew _ P (s1.mono (ag wr)) (λx b=>N.out x (by simp[b])) (by omega));have S2:=aa (s2.mono (ag wr));clear s1 s2 t0 t1 f0 hI hB;refine dF (KR.B wr.heap.size) (Array.replicate 10 true) 10 0 mixed ?_;refine bZ [0,1,2,3,5,6,7] 3 ?_
    iterate 7 (refine aA rfl ?_;go_big_quiet_step (rfl))
    refine az ?_;refine bN 4 ?_;go_wp2_with fail;refine br.out.mono ?_;rintro e w5⟨r,rfl,hr,Z⟩;go_wp2_with fail;refine aaa Z ?_;refine bN 8 ?_;refine bR rfl _ _ 23 rfl wr.heap.size bB _ 8 jN _ _ _ rfl hr _ (ints (c::Q)) rfl (S2.out.mono Z) (kJ _) (by rw[ek,hU];unfold maxLen;omega) (by rw[ek,hU];omega) Z.size ?_;intro v1 o K f;have t:=gN hr f Z.size;go_wp2_with fail;refine aaa t ?_;refine bZ [9] 0 ?_
    iterate 1 (refine aA rfl ?_;go_big_quiet_step (rfl))
    refine az ?_;refine eU [] ?_;refine tail_nil ?_;have E6:Below wr.heap.size wr o:=(af (ag wr) Z).trans t;have o4:o.ownsRow wr.heap.size bB 1 v1 (gQ T P++c::Q).length (ints (gQ T P++c::Q)):=by
     have e1:ints (gQ T P)++ints (c::Q)=ints (gQ T P++c::Q):=by simp[ints]
     have e2:(gQ T P).length+(ints (c::Q)).length=(gQ T P++c::Q).length:=by simp
     rw[e1,e2] at K;exact K
    have F:∀x∈gQ T P++c::Q,aP x:=by
     intro x b;rcases gR.1 b with b|b
     ·exact qZ HV.out (λy hy=>N.out y (by simp[hy])) x b
     exact N.out x (mT _ b)
    have j:w.heap.size+1<=wr.heap.size:=by have:=M.out.lt;omega
    have z:=aa (⟨i+1,gQ T P++c::Q,by omega,by omega,by simp,aT o4 j,F,by rw[wS HV.out,s.out],M.out.mono E6,af D.out E6⟩:∃(C:Nat) (O:List Nat),C<=np/\C<=20/\Value.int .i64 ((i:Int)+1)=.int .i64 C/\o.ownsRow (w.heap.size+1) bB 1 v1 O.length (ints O)/\(∀c∈O,aP c)/\gQ T O=NL/\Is o w.heap.size #[.slice a nt cap,.slice ax nx cx] 25/\Below w.heap.size w o);clear hr K o4 F Z t f E6 j;go_wp2;go_roundw
    case rel=>exact z.out
    case measure=>simp[intOf];omega
   ·exact⟨qY.out wr (gO _ _),by simp[intOf];omega⟩
   ·
    by_cases hl:A+1<m
    ·obtain⟨d,R,hQ⟩:∃d R,Q=d::R:=by
      cases Q with
      | nil=>have:=HM.out;have:=p.out;simp at *;omega
      | cons d Q=>exact⟨d,Q,rfl⟩
     subst hQ;have bh:=N.out d (by simp);have a7:=aa bh;have f1:=(kY H.out p.out).1;have g0:=Gr.cell (ag wr) t0;have g1:=Gr.cell (ag wr) t1;have g2:=Gr.cell (ag wr) f0;have g3:=Gr.cell (ag wr) f1;obtain⟨Y,a0⟩:=ae (ai T c);obtain⟨U,bd⟩:=ae (ai T d);have C1:=aa (CK.out _ D.out.drew c);rw[<-a0] at C1;have a8:=aa a0;have a3:=aa bd;clear a0 bd bh;refine aC (Array.replicate 15 true) 15 0 mixed ?_;refine ay [0,1,2,3,4,6,7,8,9,10,11] 4 ?_
     iterate 11 (refine aA rfl ?_;go_big_quiet_step (rfl))
     refine az ?_;refine aI 5 ?_;go_wp2_with fail;refine C1.out.mono ?_;rintro e w5⟨rfl,Z⟩;go_wp2_with fail;refine aF Z ?_;have E5:=af (ag wr) Z;have C2:=aa (CK.out w5 (af D.out E5) d);rw[<-a3.out] at C2;refine aI 12 ?_;go_wp2_with fail;refine C2.out.mono ?_;rintro e o⟨rfl,h6⟩;go_wp2_with fail;refine aF h6 ?_;refine ay [13,14] 0 ?_
     iterate 2 (refine aA rfl ?_;go_big_quiet_step (rfl))
     refine az ?_;refine aJ [] ?_;refine tail_nil ?_;have E6:=af E5 h6;have ji:=aa E6;have t0:=aB E6 t0;have t1:=aB E6 t1;have f0:=aB E6 f0;have f1:=aB E6 f1;have a2:=aa (af D.out E6);clear g0 g1 g2 g3 Z h6 E5 E6 C1 C2 hB hI;obtain⟨n1,a6⟩:=ae ((mapOf T c).length);obtain⟨n2,be⟩:=ae ((mapOf T d).length);have aw:=aa a6;have aW:=aa be;clear a6 be;by_cases bm:0<Y
     ·have za:decide ((0:Int)<(Y:Int))=true:=decide_eq_true (by omega);by_cases bw:0<U
      ·have zb:decide ((0:Int)<(U:Int))=true:=decide_eq_true (by omega);by_cases bs:Y≠U
       ·have aK:((Y:Int)==(U:Int))=false:=beq_eq_false_iff_ne.2 (by omega);have bE:((Y:Int) !=(U:Int))=true:=by rw[bne,aK];rfl
        have bl:decide ((Y:Int)=(U:Int))=false:=decide_eq_false (by omega);have bq:(Y==U)=false:=beq_eq_false_iff_ne.2 (by omega);have bA:decide (Y=U)=false:=decide_eq_false (by omega);have g0:=Gr.cell (ag o) t0;have g1:=Gr.cell (ag o) t1;have g2:=Gr.cell (ag o) f0;have M1:=aa (MK.out _ a2.out.drew c a9.out);by_cases bt:0<n1
        ·have bx:((n1:Int)==0)=false:=beq_eq_false_iff_ne.2 (by omega);go_wp2_with fail;refine aC (Array.replicate 32 true) 32 0 mixed ?_;refine ay [0,1,2,3,4,5,6,7,8,9,10,11,12,13,14,15,16] 15 ?_;refine bC ?_
         iterate 17 (refine aZ rfl ?_)
         refine bD ?_
         iterate 17 (go_big_quiet_step (rfl))
         refine az ?_;refine aI 17 ?_;go_wp2_with fail;refine M1.out.mono ?_;rintro e w7⟨r1,rfl,I,J⟩;obtain⟨ma,mc,rfl,_,_⟩:=bG.nO I aw.out;clear I;go_wp2_with fail;refine aF J ?_;refine ay [18,19,20,21,22,23,24,25,26,27] 4 ?_;refine bC ?_
         iterate 10 (refine aZ rfl ?_)
         refine bD ?_
         iterate 10 (go_big_quiet_step (rfl))
         refine az ?_;refine aI 28 ?_;go_wp2_with fail;refine aF (gO _ _) ?_;refine ay [29,30,31] 0 ?_;refine bC ?_
         iterate 3 (refine aZ rfl ?_)
         refine bD ?_
         iterate 3 (go_big_quiet_step (rfl))
         refine az ?_;refine aJ [] ?_;refine tail_nil ?_;have z:=aa (qY.out _ (af ji.out (af (ag o) J)));go_wp2;go_roundw
         case rel=>exact z.out
         case measure=>simp[intOf];omega
        have bx:((n1:Int)==0)=true:=beq_iff_eq.2 (by omega);by_cases bo:0<n2
        ·have bz:((n2:Int)==0)=false:=beq_eq_false_iff_ne.2 (by omega);go_wp2_with fail;refine aC (Array.replicate 32 true) 32 0 mixed ?_;refine ay [0,1,2,3,4,5,6,7,8,9,10,11,12,13,14,15,16] 15 ?_;refine bC ?_
         iterate 17 (refine aZ rfl ?_)
         refine bD ?_
         iterate 17 (go_big_quiet_step (rfl))
         refine az ?_;refine aI 17 ?_;go_wp2_with fail;refine M1.out.mono ?_;rintro e w7⟨r1,rfl,I,J⟩;obtain⟨ma,mc,rfl,_,_⟩:=bG.nO I aw.out;clear I;go_wp2_with fail;refine aF J ?_;have g0:=Gr.cell (af (ag o) J) t0;have g1:=Gr.cell (af (ag o) J) t1;have g3:=Gr.cell (af (ag o) J) f1;have M2:=aa (MK.out w7 (af a2.out (af (ag o) J)) d a7.out);refine ay [18,19,20,21,22,23,24,25,26,27] 4 ?_;refine bC ?_
         iterate 10 (refine aZ rfl ?_)
         refine bD ?_
         iterate 10 (go_big_quiet_step (rfl))
         refine az ?_;refine aI 28 ?_;go_wp2_with fail;refine M2.out.mono ?_;rintro e V⟨r2,rfl,ar,h8⟩;obtain⟨mb,md,rfl,_,_⟩:=bG.nO ar aW.out;clear ar;go_wp2_with fail;refine aF h8 ?_;refine ay [29,30,31] 0 ?_;refine bC ?_
         iterate 3 (refine aZ rfl ?_)
         refine bD ?_
         iterate 3 (go_big_quiet_step (rfl))
         refine az ?_;refine aJ [] ?_;refine tail_nil ?_;have z:=aa (qY.out _ (af ji.out (af (af (ag o) J) h8)));go_wp2;go_roundw
         case rel=>exact z.out
         case measure=>simp[intOf];omega
        have bz:((n2:Int)==0)=true:=beq_iff_eq.2 (by omega);go_wp2_with fail;refine aC (Array.replicate 32 true) 32 0 mixed ?_;refine ay [0,1,2,3,4,5,6,7,8,9,10,11,12,13,14,15,16] 15 ?_;refine bC ?_
        iterate 17 (refine aZ rfl ?_)
        refine bD ?_
        iterate 17 (go_big_quiet_step (rfl))
        refine az ?_;refine aI 17 ?_;go_wp2_with fail;refine M1.out.mono ?_;rintro e w7⟨r1,rfl,I,J⟩;obtain⟨ma,mc,rfl,_,_⟩:=bG.nO I aw.out;clear I;go_wp2_with fail;refine aF J ?_;have g0:=Gr.cell (af (ag o) J) t0;have g1:=Gr.cell (af (ag o) J) t1;have g3:=Gr.cell (af (ag o) J) f1;have M2:=aa (MK.out w7 (af a2.out (af (ag o) J)) d a7.out);refine ay [18,19,20,21,22,23,24,25,26,27] 4 ?_;refine bC ?_
        iterate 10 (refine aZ rfl ?_)
        refine bD ?_
        iterate 10 (go_big_quiet_step (rfl))
        refine az ?_;refine aI 28 ?_;go_wp2_with fail;refine M2.out.mono ?_;rintro e V⟨r2,rfl,ar,h8⟩;obtain⟨mb,md,rfl,_,_⟩:=bG.nO ar aW.out;clear ar;go_wp2_with fail;refine aF h8 ?_;refine ay [29,30,31] 0 ?_;refine bC ?_
        iterate 3 (refine aZ rfl ?_)
        refine bD ?_
        iterate 3 (go_big_quiet_step (rfl))
        refine az ?_;refine aJ [] ?_;refine tail_nil ?_;have E8:=af ji.out (af (af (ag o) J) h8);have ad:=aH H.out E8;have aR:=M.out.mono E8;have bk:=af D.out E8;have f0:=(kW ad p.out).1;have f1:=(kY ad p.out).1;have q0:=(kW ad p.out).2;have q1:=(kY ad p.out).2;have bn:=aa (λ(u u':Value)=>((ad.stored A u).1.stored (A+1) u').1);have ab:=p.out;have a_:(ints (P++c::d::R)).set A (.int .i64 d)=ints (P++d::d::R):=by
         simp only[ints,js,kt];rw[k_ _ _ (by rw[ia,ab];exact gw _),ia,ab,m_];rfl
        have bf:(ints (P++d::d::R)).set (A+1) (.int .i64 c)=ints (P++d::c::R):=by
         simp only[ints,js,kt];rw[k_ _ _ (by rw[ia,ab];omega),ia,ab,kB];rfl
        have TF:=bn.out (.int .i64 d) (.int .i64 c);rw[a_,bf] at TF;have bj:gQ T (P++d::c::R)=NL:=by
         rw[ack (oS (by rw[<-aw.out];exact Nat.eq_zero_of_not_pos bt)) (oS (by rw[<-aW.out];exact Nat.eq_zero_of_not_pos bo)) (by rw[<-a8.out];exact bm) (by rw[<-a3.out];exact bw) (by rw[<-a8.out,<-a3.out];exact bs),s.out]
        have bc:∀x∈P++d::c::R,aP x:=λx b=>N.out x (by
         rcases gR.1 b with b|b
         ·simp[b]
         rcases jf.1 b with rfl|b
         ·simp
         rcases jf.1 b with rfl|b
         ·simp
         simp[b])
        have bH:=aR.lt
        have z:=aa (⟨i+1,P++d::c::R,by omega,by omega,by simp,by
         have e1:(P++d::c::R).length=m:=by rw[HM.out];simp
         rw[e1]
         exact aH TF (ag _),bc,bj,((aR.put (by omega) _).put (by omega) _).mono (ag _),(aj (aj bk (by omega)) (by omega)).drew⟩:∃(C:Nat) (O:List Nat),C<=np/\C<=20/\Value.int .i64 ((i:Int)+1)=.int .i64 C/\((V.setCell ⟨g,A,none⟩ (.int .i64 d)).setCell ⟨g,A+1,none⟩ (.int .i64 c)).drew.ownsRow (w.heap.size+1) bB 1 (.slice (some ⟨g,0,none⟩) m co) O.length (ints O)/\(∀c∈O,aP c)/\gQ T O=NL/\Is ((V.setCell ⟨g,A,none⟩ (.int .i64 d)).setCell ⟨g,A+1,none⟩ (.int .i64 c)).drew w.heap.size #[.slice a nt cap,.slice ax nx cx] 25/\Below w.heap.size w ((V.setCell ⟨g,A,none⟩ (.int .i64 d)).setCell ⟨g,A+1,none⟩ (.int .i64 c)).drew)
        clear a_ bf TF bj bc ad aR bk E8 J h8;go_wp2_with fail;go_region;go_wp2;go_roundw
        case rel=>exact z.out
        case measure=>simp[intOf];omega
       have aK:((Y:Int)==(U:Int))=true:=beq_iff_eq.2 (by omega);have bE:((Y:Int) !=(U:Int))=false:=by rw[bne,aK];rfl
       have bl:decide ((Y:Int)=(U:Int))=true:=decide_eq_true (by omega);have bq:(Y==U)=true:=beq_iff_eq.2 (by omega);have bA:decide (Y=U)=true:=decide_eq_true (by omega);go_wp2_with fail;refine aC (Array.replicate 32 true) 32 0 mixed ?_;refine ay [0,1,2,3,4,5,6,7,8,9,10,11,12,13,14,15,16] 15 ?_;refine bC ?_
       iterate 17 (refine aZ rfl ?_)
       refine bD ?_
       iterate 17 (go_big_quiet_step (rfl))
       refine az ?_;refine aI 17 ?_;go_wp2_with fail;refine aF (gO _ _) ?_;refine ay [18,19,20,21,22,23,24,25,26,27] 4 ?_;refine bC ?_
       iterate 10 (refine aZ rfl ?_)
       refine bD ?_
       iterate 10 (go_big_quiet_step (rfl))
       refine az ?_;refine aI 28 ?_;go_wp2_with fail;refine aF (gO _ _) ?_;refine ay [29,30,31] 0 ?_;refine bC ?_
       iterate 3 (refine aZ rfl ?_)
       refine bD ?_
       iterate 3 (go_big_quiet_step (rfl))
       refine az ?_;refine aJ [] ?_;refine tail_nil ?_;have z:=aa (qY.out _ (af ji.out (ag o)));go_wp2;go_roundw
       case rel=>exact z.out
       case measure=>simp[intOf];omega
      have zb:decide ((0:Int)<(U:Int))=false:=decide_eq_false (by omega);go_wp2_with fail;refine aC (Array.replicate 32 true) 32 0 mixed ?_;refine ay [0,1,2,3,4,5,6,7,8,9,10,11,12,13,14,15,16] 15 ?_;refine bC ?_
      iterate 17 (refine aZ rfl ?_)
      refine bD ?_
      iterate 17 (go_big_quiet_step (rfl))
      refine az ?_;refine aI 17 ?_;go_wp2_with fail;refine aF (gO _ _) ?_;refine ay [18,19,20,21,22,23,24,25,26,27] 4 ?_;refine bC ?_
      iterate 10 (refine aZ rfl ?_)
      refine bD ?_
      iterate 10 (go_big_quiet_step (rfl))
      refine az ?_;refine aI 28 ?_;go_wp2_with fail;refine aF (gO _ _) ?_;refine ay [29,30,31] 0 ?_;refine bC ?_
      iterate 3 (refine aZ rfl ?_)
      refine bD ?_
      iterate 3 (go_big_quiet_step (rfl))
      refine az ?_;refine aJ [] ?_;refine tail_nil ?_;have z:=aa (qY.out _ (af ji.out (ag o)));go_wp2;go_roundw
      case rel=>exact z.out
      case measure=>simp[intOf];omega
     have za:decide ((0:Int)<(Y:Int))=false:=decide_eq_false (by omega);go_wp2_with fail;refine aC (Array.replicate 32 true) 32 0 mixed ?_;refine ay [0,1,2,3,4,5,6,7,8,9,10,11,12,13,14,15,16] 15 ?_;refine bC ?_
     iterate 17 (refine aZ rfl ?_)
     refine bD ?_
     iterate 17 (go_big_quiet_step (rfl))
     refine az ?_;refine aI 17 ?_;go_wp2_with fail;refine aF (gO _ _) ?_;refine ay [18,19,20,21,22,23,24,25,26,27] 4 ?_;refine bC ?_
     iterate 10 (refine aZ rfl ?_)
     refine bD ?_
     iterate 10 (go_big_quiet_step (rfl))
     refine az ?_;refine aI 28 ?_;go_wp2_with fail;refine aF (gO _ _) ?_;refine ay [29,30,31] 0 ?_;refine bC ?_
     iterate 3 (refine aZ rfl ?_)
     refine bD ?_
     iterate 3 (go_big_quiet_step (rfl))
     refine az ?_;refine aJ [] ?_;refine tail_nil ?_;have z:=aa (qY.out _ (af ji.out (ag o)));go_wp2;go_roundw
     case rel=>exact z.out
     case measure=>simp[intOf];omega
    exfalso;omega
  have bp:=aa (show ¬(i<np/\i<20/\0<m) from bg);have aU:=aa (show wr.ownsRow w.heap.size bB 1 (.slice ao m co) O.length (ints O) by rw[<-HM.out];exact aT H.out (pj _));by_cases g1:i<np
  ·have z1:=eG (show i<np by omega);by_cases g2:i<20
   ·have z2:decide ((i:Int)<20)=true:=decide_eq_true (by omega);have z3:decide ((0:Int)<(m:Int))=false:=decide_eq_false (λh=>bp.out ⟨g1,g2,by omega⟩);go_wp2_with fail;go_ret;exact⟨_,O,rfl,aU.out,N.out,s.out.trans Yn.out,hB⟩
   have z2:decide ((i:Int)<20)=false:=decide_eq_false (by omega);go_wp2_with fail;go_ret;exact⟨_,O,rfl,aU.out,N.out,s.out.trans Yn.out,hB⟩
  have z1:=gI (show np<=i by omega);go_wp2_with fail;go_ret;exact⟨_,O,rfl,aU.out,N.out,s.out.trans Yn.out,hB⟩
end Go.Proofs.YtmnimbnojdndmaaGreatDoor
namespace Go.Cd
def xtA:List aG:=[⟨192,0,[65,768]⟩,⟨193,0,[65,769]⟩,⟨194,0,[65,770]⟩,⟨195,0,[65,771]⟩,⟨196,0,[65,776]⟩,⟨197,0,[65,778]⟩,⟨199,0,[67,807]⟩,⟨200,0,[69,768]⟩,⟨201,0,[69,769]⟩,⟨202,0,[69,770]⟩,
 ⟨203,0,[69,776]⟩,⟨209,0,[78,771]⟩,⟨214,0,[79,776]⟩,⟨220,0,[85,776]⟩,⟨224,0,[97,768]⟩,⟨225,0,[97,769]⟩,⟨226,0,[97,770]⟩,⟨228,0,[97,776]⟩,⟨229,0,[97,778]⟩,⟨231,0,[99,807]⟩,
 ⟨233,0,[101,769]⟩,⟨234,0,[101,770]⟩,⟨241,0,[110,771]⟩,⟨244,0,[111,770]⟩,⟨246,0,[111,776]⟩,⟨252,0,[117,776]⟩,⟨258,0,[65,774]⟩,⟨259,0,[97,774]⟩,⟨346,0,[83,769]⟩,⟨347,0,[115,769]⟩,
 ⟨350,0,[83,807]⟩,⟨469,0,[220,772]⟩,⟨471,0,[220,769]⟩,⟨478,0,[196,772]⟩,⟨506,0,[197,769]⟩,⟨768,230,[]⟩,⟨769,230,[]⟩,⟨770,230,[]⟩,⟨771,230,[]⟩,⟨772,230,[]⟩,
 ⟨774,230,[]⟩,⟨775,230,[]⟩,⟨776,230,[]⟩,⟨778,230,[]⟩,⟨787,230,[]⟩,⟨795,216,[]⟩,⟨803,220,[]⟩,⟨807,202,[]⟩,⟨808,202,[]⟩,⟨817,220,[]⟩,
 ⟨824,1,[]⟩,⟨832,230,[768]⟩,⟨833,230,[769]⟩,⟨835,230,[787]⟩,⟨836,230,[776,769]⟩,⟨837,240,[]⟩,⟨884,0,[697]⟩,⟨894,0,[59]⟩,⟨901,0,[168,769]⟩,⟨903,0,[183]⟩,
 ⟨940,0,[945,769]⟩,⟨942,0,[951,769]⟩,⟨1460,14,[]⟩,⟨1463,17,[]⟩,⟨2345,0,[2344,2364]⟩,⟨2353,0,[2352,2364]⟩,⟨2356,0,[2355,2364]⟩,⟨2364,7,[]⟩,⟨2381,9,[]⟩,⟨2392,0,[2325,2364]⟩,
 ⟨2393,0,[2326,2364]⟩,⟨2507,0,[2503,2494]⟩,⟨2508,0,[2503,2519]⟩,⟨3953,129,[]⟩,⟨3954,130,[]⟩,⟨3955,0,[3953,3954]⟩,⟨3956,132,[]⟩,⟨3957,0,[3953,3956]⟩,⟨3958,0,[4018,3968]⟩,⟨3968,130,[]⟩,
 ⟨3969,0,[3953,3968]⟩,⟨7688,0,[199,769]⟩,⟨7690,0,[68,775]⟩,⟨7691,0,[100,775]⟩,⟨7692,0,[68,803]⟩,⟨7693,0,[100,803]⟩,⟨7776,0,[83,775]⟩,⟨7777,0,[115,775]⟩,⟨7778,0,[83,803]⟩,⟨7779,0,[115,803]⟩,
 ⟨7780,0,[346,775]⟩,⟨7781,0,[347,775]⟩,⟨7784,0,[7778,775]⟩,⟨7785,0,[7779,775]⟩,⟨7835,0,[383,775]⟩,⟨7840,0,[65,803]⟩,⟨7841,0,[97,803]⟩,⟨7852,0,[7840,770]⟩,⟨7853,0,[7841,770]⟩,⟨7862,0,[7840,774]⟩,
 ⟨7863,0,[7841,774]⟩,⟨8192,0,[8194]⟩,⟨8193,0,[8195]⟩,⟨8486,0,[937]⟩,⟨8490,0,[75]⟩,⟨8491,0,[197]⟩,⟨8800,0,[61,824]⟩,⟨8814,0,[60,824]⟩,⟨10972,0,[10973,824]⟩,⟨12364,0,[12363,12441]⟩,
 ⟨12400,0,[12399,12441]⟩,⟨12401,0,[12399,12442]⟩,⟨12441,8,[]⟩,⟨12442,8,[]⟩]
def xtB:List aG:=[⟨63744,0,[35912]⟩,⟨64285,0,[1497,1460]⟩,⟨64287,0,[1522,1463]⟩,⟨69786,0,[69785,69818]⟩,⟨69818,7,[]⟩,⟨119134,0,[119127,119141]⟩,⟨119141,216,[]⟩]
def fo:List aG:=xtA++xtB
def Gf:List Nat:=[2392,2393,10972,64285,64287,119134]
instance (r:aG):Decidable (rowFine r):=inferInstanceAs (Decidable (_/\_/\_/\_/\_))
def yK:∀{T:List aG},(T.map (·.code)).Pairwise (· < ·)->rising T
 | [],_=>trivial
 | r::T,h=>by
   rw[kt,mz] at h;exact⟨λq a=>h.1 _ (s_ a),yK h.2⟩
def QJ:∀r∈fo,rowFine r:=by decide +kernel
def aax:rising fo:=yK (by decide +kernel)
def aay:∀r∈fo,fQ fo r.code:=by
 have:(fo.all λr=>(aD fo r.code).all (λx=>(mapOf fo x).isEmpty)&&decide ((aD fo r.code).length<=32))=true:=by decide +kernel
 intro r b;have h:=lr.1 this r b;rw[jn,lr] at h;exact⟨λx a=>List.isEmpty_iff.1 (h.1 x a),of_decide_eq_true h.2⟩
def aaz:∀r∈fo,∀q∈fo,r.map.length=2->r.map=q.map->r=q:=by
 have:(fo.all λr=>r.map.length !=2||fo.all λq=>!(r.map==q.map)||decide (r=q))=true:=by decide +kernel
 intro r c q b d e;have h:=lr.1 this r c;rw[d] at h;have a:=lr.1 (show(fo.all λq=>!(r.map==q.map)||decide (r=q))=true from h) q b;rw[e] at a;simpa using a
def xk:aY fo Gf:=⟨QJ,aax,aay,λr d q c b a _ _=>aaz r d q c b a⟩
def aaA:∀r∈fo,r.cls≠0\/r.map≠[]:=by decide +kernel
end Go.Cd
namespace Go.Proofs.YtmnimbnojdndmaaGreatDoor
open Go.RowKit Go.Cd
def ads (T:List aG) (l:List Nat):List Nat:=(Pk (ai T) l).flatMap λx=>(bgU T x).filter λc=>(vk T c l).isSome
def adt (T:List aG):Nat->List Nat->Nat
 | 0,_=>0
 | f+1,l=>if l=[] then 1 else ((ads T l).map λc=>match vk T c l with|some r=>adt T f r|none=>0).sum
def Gg {f g:Nat->List Nat} (h:∀x,(f x).Perm (g x)):∀l:List Nat,(l.flatMap f).Perm (l.flatMap g)
 | []=>.nil
 | x::l=>by
   rw[iR,iR];exact(h x).append (Gg h l)
def WX (T:List aG) (l:List Nat):(Ir T l).Perm (ads T l):=by
 unfold Ir ads;refine(oP _).trans (Gg (λx=>?_) _);unfold uY;exact(oP _).filter _
def WY {l m:List Nat} (h:l.Perm m):l.sum=m.sum:=by
 induction h with
 | nil=>rfl
 | cons x _ ih=>rw[pd,pd,ih]
 | swap x y l=>rw[pd,pd,pd,pd];omega
 | trans _ _ h1 h2=>exact h1.trans h2
def WZ (T:List aG):∀(f:Nat) (l:List Nat),cntF T f l=adt T f l
 | 0,_=>rfl
 | f+1,l=>by
   unfold cntF adt
   split
   ·rfl
   rw[WY ((WX T l).map _)];refine congrArg List.sum (mw λc _=>?_);cases vk T c l with
   | none=>rfl
   | some r=>exact WZ T f r
def Ml:gQ fo [0x212b]=[0x41,0x30a]/\oI fo [0x41,0x30a]=3:=⟨by decide +kernel,(WZ _ _ _).trans (by decide +kernel)⟩
def Mm:gQ fo [0x1e69]=[0x73,0x323,0x307]/\oI fo [0x73,0x323,0x307]=5:=⟨by decide +kernel,(WZ _ _ _).trans (by decide +kernel)⟩
end Go.Proofs.YtmnimbnojdndmaaGreatDoor
namespace Go.Cd
def IB (d:Nat):UInt8:=if d<10 then UInt8.ofNat (48+d) else UInt8.ofNat (87+d)
def sZ (k n:Nat):List UInt8:=(g_ k n).map IB
theorem C_ (k n:Nat):(sZ k n).length=k:=by simp [sZ,xW]
theorem vo:∀(k n:Nat),g_ (k+1) n=(n / 16 ^ k % 16)::g_ k n
 | 0,n=>by simp [g_]
 | k+1,n=>by
   rw [g_,vo k (n / 16)]
   conv=>rhs;rw [g_]
   rw [my,←yi];rfl
theorem Gh (k n:Nat):sZ (k+1) n=IB (n / 16 ^ k % 16)::sZ k n:=by unfold sZ;rw [vo];rfl
theorem QK:∀d,d<16→Lib.upperB (IB d)=lJ d∧(IB d).toNat<128:=by decide
theorem aaB (k n:Nat):Lib.toUpperA (sZ k n)=jw k n:=by
 unfold Lib.toUpperA sZ;rw [lK,mB];exact mw fun d hd=>(QK d (nZ k n d hd)).1
theorem Pq (k n:Nat) (j:Nat) (b:UInt8) (h:(sZ k n)[j]? = some b):b.toNat<128:=by
 obtain ⟨d,hd,rfl⟩:=jx.1 (lA h);exact (QK d (nZ k n d hd)).2
theorem Mo (k n:Nat) (h:n<16 ^ k):∀j,jw (k+j) n=Lib.repeatL [48] j++jw k n
 | 0=>rfl
 | j+1=>by
   have hl:n<16 ^ (k+j):=j9 h (kf (by decide) (by omega));have e:jw (k+j+1) n=48::jw (k+j) n:=by
    rw [lK,vo,pN hl,kt,←lK];rfl
   rw [show k+(j+1)=k+j+1 from rfl,e,Mo k n h j];rfl
def aaC (k n:Nat):Prop:=n<16 ^ (k+1)∧(k=0∨16 ^ k≤n)
theorem W9 {k n:Nat} (h:aaC k n) (hn:n<1114112):aV n=Lib.repeatL [48] (4-(k+1))++jw (k+1) n∧k+1≤6:=by
 obtain ⟨h1,h2⟩:=h;have hp:∀j,16 ^ j≤n→j≤5:=fun j hj=>by
  rcases j' j 6 with h|h
  ·omega
  ·have:(16:Nat) ^ 6≤16 ^ j:=kf (by decide) h;omega
 have hk5:k≤5:=by rcases h2 with h2|h2
                  ·omega
                  ·exact hp k h2
 refine ⟨?_,by omega⟩;unfold aV j6;have c4:(16:Nat) ^ 4=65536:=rfl;have c5:(16:Nat) ^ 5=1048576:=rfl;by_cases a:n<65536
 ·rw [if_pos a];have hk:k+1≤4:=by
   rcases h2 with h2|h2
   ·omega
   ·rcases j' k 4 with h|h
    ·omega
    ·have:(16:Nat) ^ 4≤16 ^ k:=kf (by decide) h;omega
  have:=Mo (k+1) n h1 (4-(k+1));rw [show k+1+(4-(k+1))=4 by omega] at this;exact this
 ·have hk:4≤k:=by
   rcases j' k 4 with h|h
   ·have:(16:Nat) ^ (k+1)≤16 ^ 4:=kf (by decide) (by omega);omega
   ·exact h
  rw [show 4-(k+1)=0 by omega];show _=jw (k+1) n;rw [if_neg a];by_cases b:n<1048576
  ·rw [if_pos b];have:k=4:=by
    rcases j' k 5 with h|h
    ·omega
    ·have h2:16 ^ k≤n:=by omega
     have:(16:Nat) ^ 5≤16 ^ k:=kf (by decide) h;omega
   rw [this]
  ·rw [if_neg b];have:k=5:=by
    rcases j' k 5 with h|h
    ·have:(16:Nat) ^ (k+1)≤16 ^ 5:=kf (by decide) (by omega);omega
    ·omega
   rw [this]
end Go.Cd
namespace Go.Proofs.YtmnimbnojdndmaaGreatDoor
open Go.RowKit Go.Cd _root_.Go.Proofs.Tryz
def Tz (n:Nat) (b:n<18446744073709551616):bits .and .u64 (n:Int) 15=((n % 16:Nat):Int):=by
 have a:(BitVec.ofInt 64 15).toNat=2 ^ 4-1:=by decide
 have key:(BitVec.ofInt 64 n &&& BitVec.ofInt 64 15).toNat=((n:Int) % ((2 ^ 64:Nat):Int)).toNat % 2 ^ 4:=by
  rw[sT,pR,a,oB]
 show IntKind.u64.wrap ((BitVec.ofInt 64 n &&& BitVec.ofInt 64 15).toNat:Nat)=_;rw[key,pt];omega
def aaD {w:World} (h:w.cell? ⟨9,15,none⟩=some (.int .u8 4)) :
 Calls prog 300 #[.int .u64 16] w λe w'=>e=.returned (.int .i64 4)/\w'=w:=by
 have:bits .and .u64 16 (IntKind.u64.wrap (-16))=16:=by decide
 have:IntKind.u64.wrap (16*285870213051353865) / 288230376151711744=15:=by decide
 go_enter func300,ntmps300;go_wp2;go_ret;exact⟨rfl,rfl⟩
def agN {w:World} (h:w.cell? ⟨9,15,none⟩=some (.int .u8 4)) :
 Calls prog 284 #[.int .u64 16] w λe w'=>e=.returned (.int .i64 4)/\w'=w:=by
 have T:=aa (aaD h);go_enter func284,ntmps284;go_wp2_with fail;refine T.out.mono ?_;rintro e a⟨rfl,rfl⟩;go_wp2;go_ret;exact⟨rfl,rfl⟩
def aaE {w:World}:Calls prog 283 #[.int .i64 16] w λe w'=>e=.returned (.bool true)/\w'=w:=by
 have:bits .and .i64 16 15=0:=by decide
 go_enter func283,ntmps283;go_wp2;go_ret;exact⟨rfl,rfl⟩
def abR:ByteArray:=⟨#[48,49,50,51,52,53,54,55,56,57,97,98,99,100,101,102,103,104,105,106,107,108,109,110,111,112,113,114,115,116,117,118,119,120,121,122]⟩
def aaF:∀d (h:d<16),(abR[d]'(by have:abR.size=36:=rfl;omega)).toNat=(IB d).toNat:=by decide
def aaG (cs:Array Value) (k n:Nat):Prop:=cs.size=65/\∀j (a:j<k),cs[65-k+j]? = some (.int .u8 ((sZ k n)[j]'(by rw[C_];exact a)).toNat)
def aaG.step {cs:Array Value} {k n:Nat} (h:aaG cs k n) (b:k<60):aaG (cs.setIfInBounds (64-k) (.int .u8 (IB (n / 16 ^ k % 16)).toNat)) (k+1) n:=by
 refine⟨by simp[h.1],λj a=>?_⟩;have e:65-(k+1)=64-k:=by omega
 rw[e,qs];rcases j with _|j
 ·simp[h.1,Gh];omega
 rw[if_neg (by omega)];have:=h.2 j (by omega);rw[show 64-k+(j+1)=65-k+j by omega,this];simp[Gh]
def aaH (l:List UInt8):str (l.map UInt8.toNat)=tx l:=by
 unfold str tx;rw[mB];have:UInt8.ofNat ∘ UInt8.toNat=id:=by funext x;simp
 rw[this,tj]
def Ed {w:World} (R:dL w) (n:Nat) (hn:n<1114112) :
 Calls prog 258 #[.slice none 0 0,.int .u64 n,.int .i64 16,.bool false,.bool false] w λe w'=>∃k v,e=.returned (.tuple #[v,.string (tx (sZ (k+1) n))])/\aaC k n/\Below w.heap.size w w':=by
 have TZ:=aa (λ(W:World) (E:Below w.heap.size w W)=>agN (R.mono E).dbr);have P2:=aa (λW=>aaE (w:=W));clear R;go_enter func258,ntmps258;go_wp2_with fail;obtain⟨S,a⟩:=ae (w.alloc (.cells zeroCells383 383));have i:=aO a;have P:Is S w.heap.size zeroCells383 383:=by rw[a];exact Is.new _ _ _
 have D:zeroCells383.size=65:=by kernel_rfl
 rw[<-a];clear a;generalize zeroCells383=cs0 at *;refine(P2.out S).mono ?_;rintro e y⟨rfl,rfl⟩;go_wp2_with fail;refine(TZ.out _ i).mono ?_;rintro e w3⟨rfl,rfl⟩;go_wp2_with fail;go_loopw [1,13] (λI iv wr=>∃(k:Nat) (cs:Array Value),k<=5/\I=.int .u64 (n / 16 ^ k:Nat)/\iv=.int .i64 (65-k:Nat)/\(k=0\/16 ^ k<=n)/\Is wr w.heap.size cs 383/\aaG cs k n/\Below w.heap.size w wr) (λI _ _=>(intOf I).toNat)
 case atStart=>exact⟨0,cs0,by omega,by simp,rfl,.inl rfl,P,⟨D,by simp⟩,i⟩
 case round=>
  clear P;obtain⟨k,cs,ad,rfl,rfl,o,z,V,Q⟩:=hrel;obtain⟨u,A⟩:=ae (n / 16 ^ k);obtain⟨m,K⟩:=ae (65-k);rw[<-A,<-K];have ac:u<=n:=by rw[A];exact tW _ _
  have ag:IntKind.i64.wrap ((m:Int)-1)=((m-1:Nat):Int):=by rw[pw];omega
  have G:=Tz u (by omega);have hd:u % 16<16:=mx _ (by decide);have fz:=z.frozen (m-1);have r:=aa A;have t:=aa K;have af:m<=65/\60<=m:=by omega
  obtain⟨d,c⟩:=ae (u % 16);rw[<-c] at G hd;have g:=aaF d hd;have M:=aa c;clear A K c;obtain⟨x,X⟩:∃x,cs[m-1]? = some x:=⟨cs[m-1]'(by rw[V.1];omega),rj _⟩;have ex:=z.at (m-1) X;have F:(d:Int)<36:=by omega
  have ab:((⟨#[48,49,50,51,52,53,54,55,56,57,97,98,99,100,101,102,103,104,105,106,107,108,109,110,111,112,113,114,115,116,117,118,119,120,121,122]⟩:ByteArray)[d]'(by show d<36;omega)).toNat=(IB d).toNat:=g;have Z:=aa (V.step (by omega));clear X g;by_cases j:16<=u
  ·have zc:decide ((16:Int)<=(u:Int))=true:=by simp;omega
   have p:16 ^ (k+1)<=n:=by
    have:=r.out;rw[this,Nat.le_div_iff_mul_le (Nat.pos_of_ne_zero (by simp))] at j;rw[me,mS];exact j
   have H:k+1<=5:=by
    rcases j' k 5 with h|h
    ·exact h
    have:(16:Nat) ^ 6<=16 ^ (k+1):=kf (by decide) (by omega);omega
   have HK:=aa p;clear p;go_wp2;have O:64-k=m-1:=by have:=t.out;omega
   have f:=Z.out;rw[O,<-r.out,<-M.out] at f;refine⟨⟨k+1,_,H,?_,?_,.inr HK.out,z.set (m-1) _,f,aj Q (gw _)⟩,?_⟩
   ·rw[me,<-my,<-r.out];rfl
   ·have:=t.out;congr 2;omega
   show((u:Int) / 16).toNat<(u:Int).toNat;omega
  have zc:decide ((16:Int)<=(u:Int))=false:=by simp;omega
  have N:d=u:=by rw[M.out];omega
  have F:(u:Int)<36:=by omega
  subst N;obtain⟨y,b⟩:=ae (wr.setCell ⟨w.heap.size,m-1,none⟩ (.int .u8 (IB d).toNat));have f:=Z.out;have O:64-k=m-1:=by have:=t.out;omega
  rw[O,<-r.out,<-M.out] at f;have U:Is y w.heap.size (cs.setIfInBounds (m-1) (.int .u8 (IB d).toNat)) 383:=by rw[b];exact z.set (m-1) _
  have J:Below w.heap.size w y:=by rw[b];exact aj Q (gw _)
  have s:65-(m-1)=k+1:=by have:=t.out;omega
  have B:((sZ (k+1) n).map UInt8.toNat).length=k+1:=by rw[ia,C_]
  have T:bG y (.slice (some ⟨w.heap.size,m-1,none⟩) (65-(m-1)) (65-(m-1))) (mR ((sZ (k+1) n).map UInt8.toNat)):=by
   refine⟨_,_,by rw[uy,B,s],by rw[uy,B];omega,.inr ⟨w.heap.size,m-1,_,_,_,rfl,U.at_,λq l=>?_⟩⟩;rw[uy,B] at l;rw[show m-1=65-(k+1) by omega] at f⊢;rw[f.2 q l,yZ _ _ (by rw[B];exact l)];simp
  have Y:=A7 T (by intro q l;obtain⟨x,_,rfl⟩:=jx.1 l;exact x.toNat_lt);rw[aaH] at Y;have L:prog.arrayLen 383=65:=by kernel_rfl
  have ah:∀W,(Instr.sliceAt 383 (.pointer (some ⟨w.heap.size,0,none⟩)) (some (.int .i64 ((m-1:Nat):Int))) none none).run prog W=.ok (.slice (some ⟨w.heap.size,m-1,none⟩) (65-(m-1)) (65-(m-1))) W:=λW=>by
   rw[run_sliceAt_array_l W 383 ⟨w.heap.size,0,none⟩ (by kernel_rfl) .i64 _ (by omega) (by rw[L];omega)]
   go_simp
   omega
  rw[b,s] at Y;have C:=aa o;clear T U f o;go_wp2
  (try simp only[Exit.inBlock,Exit.then])
  go_ret2;rw[<-b];refine⟨k,⟨_,rfl⟩,⟨?_,C.out⟩,J⟩;have:=r.out;rw[me];exact j9 ((Nat.div_lt_iff_lt_mul (Nat.pos_of_ne_zero (by simp))).1 (this▸hd:n / 16 ^ k<16)) (by rw[mS];exact gw _)
def IC {w:World} (b:dL w) (n:Nat) (c:n<1114112) :
 Calls prog 232 #[.int .i64 n,.int .i64 16] w λe w'=>∃k,e=.returned (.string (tx (sZ (k+1) n)))/\aaC k n/\Below w.heap.size w w':=by
 have F:=aa (Ed b n c);have:decide ((n:Int)<0)=false:=by simp
 have:IntKind.u64.wrap (n:Int)=n:=by rw[pt];omega
 clear b;go_enter func232,ntmps232;go_wp2_with fail;refine F.out.mono ?_;rintro e g⟨k,v,rfl,a,f⟩;have d:=aa a;clear a F;go_wp2
 (try simp only[Exit.inBlock,Exit.then])
 go_ret;exact⟨k,rfl,d.out,f⟩
def Ee {w:World} (a:dL w) (n:Nat) (b:n<1114112) :
 Calls prog 197 #[.int .i64 n,.int .i64 16] w λe w'=>∃k,e=.returned (.string (tx (sZ (k+1) n)))/\aaC k n/\Below w.heap.size w w':=by
 have F:=aa (IC a n b);clear a;go_enter func197,ntmps197;go_wp2_with fail;refine F.out.mono ?_;rintro e f⟨k,rfl,c,d⟩;go_wp2;go_ret;exact⟨k,rfl,c,d⟩
def vw {w:World} (i:dL w) (n:Nat) (g:n<1114112) :
 Calls prog 158 #[.int .i32 n] w λe w'=>e=.returned (.string (tx (aV n)))/\Below w.heap.size w w':=by
 have F:=aa (Ee i n g);have:IntKind.i64.wrap (n:Int)=n:=by rw[pw];omega
 clear i;go_enter func158,ntmps158;go_wp2_with fail;refine F.out.mono ?_;rintro e c⟨k,rfl,m,r⟩;obtain⟨d,t⟩:=W9 m g;have a:=aa (Tryz.strings_ToUpper_ascii (tx (sZ (k+1) n)) c (by rw[aX,C_];omega) (λj b h=>by rw[dM] at h;exact Pq _ _ j b h));rw[dM,aaB] at a;have a:Hid (Calls prog 196 #[.string (tx (sZ (k+1) n))] c λe w'=>e=.returned (.string (tx (jw (k+1) n)))/\Below c.heap.size c w'):=a;obtain⟨j,f⟩:=ae (4-(k+1));rw[<-f] at d;have l:Hid (∀W,Calls prog 198 #[.string ⟨#[48]⟩,.int .i64 j] W λe w'=>e=.returned (.string (tx (Lib.repeatL [48] j)))/\Below W.heap.size W w'):=aa (λW=>Tryz.strings_Repeat ⟨#[48]⟩ j W (by omega) (by show 1*_<=_;omega));have:(tx (jw (k+1) n)).size=k+1:=by rw[aX,qH]
 have:(tx (Lib.repeatL [48] j)).size<=4:=by rw[aX,Lib.repeatL_length];simp;omega
 have:max (4-((k:Int)+1)) 0=(j:Int):=by omega
 have:IntKind.i64.wrap (4-((k:Int)+1))=4-((k:Int)+1):=by rw[pw];omega
 have s:=aa (show tx (Lib.repeatL [48] j)++tx (jw (k+1) n)=tx (aV n) by rw[dA,d]);have o:=aa r;generalize tx (jw (k+1) n)=s1 at *;generalize tx (Lib.repeatL [48] j)=s2 at *;clear d m F f;go_wp2_with fail;refine a.out.mono ?_;rintro e y⟨rfl,u⟩;clear a;go_wp2_with fail;refine(l.out _).mono ?_;rintro e w4⟨rfl,p⟩;clear l;go_wp2;go_ret;exact⟨by rw[s.out];rfl,af o.out (af u p)⟩
end Go.Proofs.YtmnimbnojdndmaaGreatDoor
namespace Go.Proofs.YtmnimbnojdndmaaGreatDoor
open Go.RowKit Go.Cd Go.Shelf
def pW (B b:Nat) (l:List UInt8) (w:World):Prop:=Lib.IsBuilderF 191 5 B b (Lib.byteCells l) w
def pW.below {B b:Nat} {l:List UInt8} {W d:World} (h:pW B b l W) (a:Below W.heap.size W d):pW B b l d:=by
 have key:∀p,Lib.BuilderAtF 191 5 B b p (Lib.byteCells l) W->Lib.BuilderAtF 191 5 B b p (Lib.byteCells l) d:=by
  rintro p⟨i,v,f,c,e⟩;exact⟨i,v,(a.block b (block_lt f)).trans f,c.kept (row:=none) ⟨a.os,a.tape,a.output,a.size,λk g _=>a.block k g⟩ (Classical.em _),e⟩
 exact h.imp (key _) (key _)
def jb {B b:Nat} {l:List UInt8} {w:World} (h:pW B b l w) (s:List UInt8) (g:l.length+s.length<=1000000) (c:B<=w.heap.size) :
 Calls Tryz.prog 110 #[.pointer (some ⟨b,0,none⟩),.string (tx s)] w λe w'=>e=.returned (.tuple #[.int .i64 s.length,.nilIface])/\pW B b (l++s) w'/\Below B w w'/\Lib.OthersKept 5 (some b) w w':=by
 have:=Any.Builder_WriteString_k (ρ:=Tryz.qB) { Tryz.Gz with } Tryz.iU B b (Lib.byteCells l) (tx s) w h (by rw[Lib.byteCells_length,aX];omega) c;refine se this ?_;rintro e w'⟨rfl,a,f,d⟩;refine⟨by rw[aX],?_,f,d⟩;have e:Lib.byteCells (l++s)=Lib.byteCells l++Lib.strCells (tx s):=by rw[Lib.byteCells_append];rfl
 unfold pW;rw[e];exact .inr a
def Da {B b:Nat} {l:List UInt8} {w:World} (h:pW B b l w) (h0:l≠[]) :
 Calls Tryz.prog 113 #[.pointer (some ⟨b,0,none⟩)] w λe w'=>e=.returned (.string (tx l))/\Below B w w':=by
 have:=Any.Builder_String_k Tryz.YF Tryz.vP B b l w h h0;exact se this λe w' ⟨c,_,a,_⟩=>⟨c,a⟩
end Go.Proofs.YtmnimbnojdndmaaGreatDoor
section
namespace Go.Cd
def abh (c:Nat) (nm e:List UInt8):List UInt8:=aV c++[59,60]++nm++[44,32]++e++[62,59,59,48,59,59,59,59,59,59,59,59,59,59,59,10]
end Go.Cd
namespace Go.Proofs.YtmnimbnojdndmaaGreatDoor
open Go.RowKit Go.Cd Go.Shelf
def zW {w:World} (n:dL w) (c:Nat) (q:c<1114112) (f g:Int) (nm e:List UInt8) (k:nm.length<=100) (d:e.length<=100) :
 Calls Tryz.prog 111 #[.agg #[.int .i32 f,.int .i32 g,.string (tx nm)],.int .i32 c,.string (tx e)] w λp w'=>p=.returned (.string (tx (abh c nm e)))/\Below w.heap.size w w':=by
 have o:=aa (λ(W:World) (E:Below w.heap.size w W)=>vw (n.mono E) c q);obtain⟨h,a⟩:=ae (w.alloc (.cells #[.int .i32 f,.int .i32 g,.string (tx nm)] 198));have b:=aO a;have l:=Is.nw a;have i:tx (aV c)++(⟨#[59,60]⟩:ByteArray)++tx nm++(⟨#[44,32]⟩:ByteArray)++tx e++(⟨#[62,59,59,48,59,59,59,59,59,59,59,59,59,59,59,10]⟩:ByteArray)=tx (abh c nm e):=by
  show tx (aV c)++tx [59,60]++tx nm++tx [44,32]++tx e++tx [62,59,59,48,59,59,59,59,59,59,59,59,59,59,59,10]=_;rw[dA,dA,dA,dA,dA];rfl
 have:(tx (aV c)).size<=6:=by rw[aX];exact(bU c).2
 have:(tx nm).size<=100:=by rw[aX];exact k
 have:(tx e).size<=100:=by rw[aX];exact d
 have:(⟨#[59,60]⟩:ByteArray).size=2:=rfl;have:(⟨#[44,32]⟩:ByteArray).size=2:=rfl;have:(⟨#[62,59,59,48,59,59,59,59,59,59,59,59,59,59,59,10]⟩:ByteArray).size=16:=rfl;have m:=aa i;generalize tx (aV c)=s1 at *;generalize tx nm=s2 at *;generalize tx e=s3 at *;clear i k d;go_enter Tryz.func111,Tryz.ntmps111;go_upto_region 1 with fail;rw[<-a];clear a;have:=l.gd 2 rfl;refine aC (Array.replicate 11 true) 11 0 mixed ?_;refine ay [0,3,4,7] 7 ?_
 iterate 4 (refine aA rfl ?_;go_big_quiet_step (rfl))
 refine az ?_;refine aI 1 ?_;go_wp2_with fail;refine(o.out _ (af b (ag h))).mono ?_;rintro e s⟨rfl,j⟩;go_wp2_with fail;refine aF j ?_;refine ay [2,5,6,8,9,10] 0 ?_
 iterate 6 (refine aA rfl ?_;go_big_quiet_step (first|rfl|(simp only[ByteArray.size_append];omega)))
 refine az ?_;refine aJ [] ?_;refine tail_nil ?_;go_wp2;go_ret;exact⟨by rw[<-m.out];rfl,af (af b (ag h)) j⟩
end Go.Proofs.YtmnimbnojdndmaaGreatDoor
end
namespace Go.Cd
open Go.Proofs.YtmnimbnojdndmaaGreatDoor
def fF:List (Nat×Nat×List UInt8):=[(44032,55203,[72,97,110,103,117,108,32,83,121,108,108,97,98,108,101]),
 (55296,56191,[78,111,110,32,80,114,105,118,97,116,101,32,85,115,101,32,72,105,103,104,32,83,117,114,114,111,103,97,116,101]),
 (57344,63743,[80,114,105,118,97,116,101,32,85,115,101])]
def Gi (s:Nat×Nat×List UInt8):List UInt8:=abh s.1 s.2.2 [70,105,114,115,116]++abh s.2.1 s.2.2 [76,97,115,116]
def Ah:List aG->Nat->List UInt8
 | [],_=>[]
 | r::T,k=>((fF.drop k).takeWhile λs=>decide (s.1<r.code)).flatMap Gi++((eu [88] r++[10])++Ah T (k+((fF.drop k).takeWhile λs=>decide (s.1<r.code)).length))
def W_ {r:aG} {T:List aG} {k:Nat} (a:k<fF.length) (h:fF[k].1<r.code):Ah (r::T) k=Gi fF[k]++Ah (r::T) (k+1):=by
 conv=>lhs;unfold Ah
 conv=>rhs;unfold Ah
 rw[iz a,List.takeWhile_cons_of_pos (by simpa using h),iR,hU,kc,te,xj 1]
def QL {r:aG} {T:List aG} {k:Nat} (h:∀a:k<fF.length,¬fF[k].1<r.code):Ah (r::T) k=(eu [88] r++[10])++Ah T k:=by
 conv=>lhs;unfold Ah
 have e:(fF.drop k).takeWhile (λs=>decide (s.1<r.code))=[]:=by
  by_cases a:k<fF.length
  ·rw[iz a,List.takeWhile_cons_of_neg (by simpa using h a)]
  rw[rS (by omega)];rfl
 rw[e];rfl
def abS (s:Nat×Nat×List UInt8):List iE:=[⟨60::s.2.2++kS,⟨s.1,0,[]⟩,60::s.2.2++kS,true⟩,⟨60::s.2.2++Ny,⟨s.2.1,0,[]⟩,[],true⟩]
def Yw:List iE:=xtA.map tL++fF.flatMap abS++xtB.map tL
def aaI:og Yw=fo:=by
 unfold og Yw fo;rw[n8,n8,js,js];have a:∀T:List aG,((T.map tL).filter λl=>!l.pl).map (·.r)=T:=E_;rw[a,a];have b:((fF.flatMap abS).filter λl=>!l.pl)=[]:=rfl;rw[b];rfl
def IE:Ah fo 0=bA (Yw.map iE.t):=by decide +kernel
def Xa:(bA (Yw.map iE.t)).length<10000:=by decide +kernel
end Go.Cd
