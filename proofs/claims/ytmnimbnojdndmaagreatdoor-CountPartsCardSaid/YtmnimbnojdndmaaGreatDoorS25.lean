/- State by state it is added up what is possible; no condition. -/
import Derived.Test.YtmnimbnojdndmaaGreatDoorS24
import Derived.Handy
set_option maxRecDepth 100000
set_option maxHeartbeats 6400000
set_option linter.all false
namespace Go.Proofs.YtmnimbnojdndmaaGreatDoor
open Go.RowKit Go.Cd _root_.Go.Proofs.Tryz
variable {w:World} {v:Value} {T:List aG} {X:List Nat}
def mK.past {B:Nat} {w4 w':World} {r:Value} {L:List (gX×Value)} {row:Option Nat} (f:mK B w4 r L) (h:mK B w r L) (g:w.grownBy w' row) (i:∀k,row=some k->w4.heap.size<=k):mK B w' r L:=by
 have H:∀{e:TypeId} {a:Nat} {v:Value} {n:Nat} {b:List Value},w4.ownsRow B e a v n b->w.ownsRow B e a v n b->w'.ownsRow B e a v n b:=by
  intro e a v n b c l;refine l.kept g ?_;cases m:v.ownBlock with
  | none=>exact .inl rfl
  | some k=>exact .inr λj=>by have:=(c.lt k m).2;have:=i k j.symm;omega
 exact⟨H f.rows h.rows,λp d=>H (f.maps p d) (h.maps p d),h.apart,h.nQ,h.four⟩
abbrev jd:TypeId:=25
def adR {T:List gX} {X:List Int} (h:PT w v T X) :
 Calls prog 119 #[v] w λe w'=>∃r x L Y,e=.returned (.agg #[r,x])/\mK w.heap.size w' r L/\w'.ownsRow w.heap.size bB 1 x Y.length (ints Y)/\(∀p∈L,Apt x p.2)/\L.length<=20/\Y.length<=30/\(∀y∈Y,aP y)/\Below w.heap.size w w':=by
 obtain⟨r,x,rfl,⟨a,cap,rfl,_,hx⟩,h2⟩:=h;obtain⟨nx,aw⟩:∃n,n=X.length:=⟨_,rfl⟩;obtain⟨ax,cx,rfl,_,hy⟩:=bG.MI h2 aw;obtain⟨n,hn⟩:=ae T.length;rw[<-hn];have HX:=aa hx;have HY:=aa hy;have HN:=aa hn;have aE:=aa aw;obtain⟨W1,ac⟩:=ae (w.alloc (.cells #[.slice a n cap,.slice ax nx cx] jd));obtain⟨W2,an⟩:=ae (W1.alloc (.cells #[.slice none 0 0,.slice none 0 0] jd));obtain⟨W0,hW⟩:=ae (W2.alloc (.cells #[.slice none 0 0,.slice none 0 0] jd));have e1:W1.heap.size=w.heap.size+1:=by rw[ac];simp
 have e2:W2.heap.size=w.heap.size+2:=by rw[an];simp[e1]
 have e3:W0.heap.size=w.heap.size+3:=by rw[hW];simp[e2]
 have b1:=aO ac;have b2:=aO an;have b3:=aO hW;have i1:Is W0 w.heap.size #[.slice a n cap,.slice ax nx cx] jd:=by
  have:Is W1 w.heap.size #[.slice a n cap,.slice ax nx cx] jd:=by rw[ac];exact Is.new _ _ _
  exact(this.mono b2).mono b3
 have i2:Is W0 (w.heap.size+1) #[.slice none 0 0,.slice none 0 0] jd:=by
  have:Is W2 (w.heap.size+1) #[.slice none 0 0,.slice none 0 0] jd:=by rw[an];exact Is.new' _ _ _ _ e1.symm
  exact this.mono b3
 have i3:Is W0 (w.heap.size+2) #[.slice none 0 0,.slice none 0 0] jd:=by rw[hW];exact Is.new' _ _ _ _ e2.symm
 have b0:=af (af b1 b2) b3;rw[an,ac] at hW;clear hx hy hn aw h2 b1 b2 b3 e1 e2 ac an;go_enter func119,ntmps119;go_wp2_with fail;rw[<-hW];clear hW;go_loopw [4] (λiv wr=>∃(j:Nat) (L:List (gX×Value)) (rv:Value),j<=20/\iv=.int .i64 j/\L.length<=j/\mK (w.heap.size+3) wr rv L/\Is wr w.heap.size #[.slice a n cap,.slice ax nx cx] jd/\Is wr (w.heap.size+1) #[.slice none 0 0,.slice none 0 0] jd/\Is wr (w.heap.size+2) #[rv,.slice none 0 0] jd/\w.heap.size+3<=wr.heap.size/\Below w.heap.size w wr) (λiv _=>20-(intOf iv).toNat)
 case atStart=>exact⟨0,[],_,by decide,rfl,by decide,mK.nil _ _,i1,i2,i3,by omega,b0⟩
 case round=>
  clear i1 i2 i3 e3 b0;obtain⟨j,L,rv,hj,rfl,Qr,hF,S,c,D,a6,z⟩:=hrel;have d0:=S.at 0 rfl;have d1:=S.at 1 rfl;by_cases a7:j<n
  ·by_cases a9:j<20
   ·have aM:j<T.length:=by have:=HN.out;omega
    have zj:decide ((j:Int)<20)=true:=by simp;omega
    obtain⟨b,off,m,rfl,a5,c0,c1,c2,hm⟩:=HX.out j aM;have c0:=aB z c0;have c1:=aB z c1;have c2:=aB z c2;have hm:=hm.mono z;generalize T[j]=q at *;obtain⟨nm,au⟩:=ae q.map.length;obtain⟨am,cm,rfl,_,aG⟩:=bG.MI hm au;have Uc:=aa aG;have sN:=aa au;have E:=aa hF;have a3:=HY;clear hm aG au hF;have g0:=Gr.cell (ag wr) d0;have g1:=Gr.cell (ag wr) c0;have g2:=Gr.cell (ag wr) c1;go_wp2_with fail;refine aC #[true,true,true,true,true,true,true,true,true,true,true,true,true,true,true,true,false] 16 1 mixed ?_;refine ay [0,1,2,3,4,5,6,7,8,9,10,11,12,13,14] 1 ?_;refine bC ?_
    iterate 15 (refine aZ rfl ?_)
    refine bD ?_
    iterate 15 (go_big_quiet_step (rfl))
    refine az ?_;refine aI 15 ?_;go_wp2_with fail;refine aF (ah _) ?_;refine aJ [16] ?_;refine tail_cons rfl ?_;go_wp2_with fail;refine tail_nil ?_;generalize wrap64 (wrap32 q.code)=C at *;obtain⟨wo,ku⟩:∃w',w'=wr:=⟨_,rfl⟩;subst ku;obtain⟨w5,vJ⟩:=ae ((wo.alloc (.cells #[.int .i64 C,.int .i64 q.cls,.slice none 0 0] eY)).drew);have jP:Below wo.heap.size wo w5:=by rw[vJ];exact af (ah _) (ag _)
    have r5:Is w5 wo.heap.size #[.int .i64 C,.int .i64 q.cls,.slice none 0 0] eY:=by rw[vJ];exact(Is.new _ _ _).mono (ag _)
    go_wp2_with fail;rw[<-vJ];clear vJ g0 g1 g2 c0 c1;go_loopw [6] (λkv H=>∃(k:Nat) (M:List Int) (mv:Value),k<=4/\kv=.int .i64 k/\M.length<=k/\H.ownsRow wo.heap.size bB 1 mv M.length (bO M)/\Is H wo.heap.size #[.int .i64 C,.int .i64 q.cls,mv] eY/\Below wo.heap.size wo H) (λkv _=>4-(intOf kv).toNat)
    case atStart=>exact⟨0,[],_,by decide,rfl,by decide,iS _ _ _ _,r5,jP⟩
    case round=>
     clear r5 jP;obtain⟨k,M,mv,t,rfl,a8,hM,r2,J⟩:=hrel;have c2:=aB J c2;have e0:=aB J d0;by_cases a_:k<nm
     ·by_cases a4:k<4
      ·have zk:decide ((k:Int)<4)=true:=by simp;omega
       have aX:k<q.map.length:=by have:=sN.out;omega
       obtain⟨bm,fm,rfl,_,Z⟩:=Uc.out k aX;have Z:=aB J Z;generalize q.map[k]=y at *;have g0:=Gr.cell (ag wr) e0;have g1:=Gr.cell (ag wr) c2;have g2:=Gr.cell (ag wr) Z;have g3:=r2.gd 2 rfl;have aR:=aa (aH hM (ag wr));have aU:=aa (af J (ag wr));have R2:=aa (r2.mono (ag wr));obtain⟨av,cv,rfl,_,_⟩:=ak hM;go_wp2_with fail;refine aC #[true,true,true,true,true,true,true,true,true,true,true,true,true,true,false,false,false] 14 3 mixed ?_;refine ay [0,1,2,3,4,5,6,7,8,9,10,11,12] 1 ?_;refine bC ?_
       iterate 13 (refine aZ rfl ?_)
       refine bD ?_
       iterate 13 (go_big_quiet_step (rfl))
       refine az ?_;refine aI 13 ?_;go_wp2_with fail;refine aF (ah _) ?_;refine aJ [14,15,16] ?_;refine tail_cons rfl ?_;refine f_ (W:=wr.drew) rfl _ _ 23 rfl wo.heap.size bB _ 8 jN (.slice av M.length cv) M.length (bO M) rfl aR.out _ rfl rfl (by omega) (by unfold maxLen;omega) wo aU.out (d' _) ?_;intro N P O l ap F;have V:=((R2.out.mono (ah _)).grown F (Is.other (R2.out.mono (ah _)) ap (by decide)));obtain⟨a1,Ao,rfl,_,_⟩:=ak O;have c3:=V.at 2 rfl;have f3:=V.frozen 2;refine tail_cons rfl ?_;go_wp2_with fail;refine tail_nil ?_;go_wp2;go_roundw
       case rel=>exact⟨k+1,M++[wrap64 (wrap32 y)],_,by omega,rfl,by simp;omega,by
        have:=bn O (Is.other V O (by decide)) 2 (.slice a1 (M.length+1) Ao)
        simpa [bO] using this,V.set 2 _,aj l (d' _)⟩
       case measure=>simp[intOf];omega
      have zk:decide ((k:Int)<4)=false:=by simp;omega
      have o3:=D.mono J;have Zv:=o3.at 0 rfl;have aK:=o3.frozen 0;have aY:=r2.at 0 rfl;have aW:=r2.at 1 rfl;have aN:=r2.at 2 rfl;have G:=E.out.ext J;obtain⟨f,g,rfl,_,_⟩:=ak G.rows;obtain⟨ad,ai,rfl,_,_⟩:=ak hM
      have HP:=aa (λ(P:World) (N:Value) (ho:P.ownsRow (w.heap.size+3) eY 3 N (L.length+1) (L.flatMap mh++mh (⟨C,q.cls,M⟩,.slice ad M.length ai))) (hg:wr.grownBy P (Value.slice f L.length g).ownBlock) (hN:kK wr (.slice f L.length g) N)=>
       mK.push (p:=⟨C,q.cls,M⟩) G (aT hM (by omega)) (by show M.length<=4;omega) (λp I=>nH (E.out.maps p I) hM (d' _)) (nH E.out.rows hM (d' _)) ho hg hN)
      have HR:=aa G.rows;have aD:=Qr;clear G Uc sN;go_wp2_with (at_builtin;go_loud (refine qf (W:=wr) rfl _ _ 22 rfl (w.heap.size+3) eY _ 3 40 qb (by decide) (by decide) (by decide) (by decide) (.slice f L.length g) L.length (L.flatMap mh) rfl HR.out _ rfl rfl (by simp[Value.oneCell']) (by omega) wr (gS _ _) (by have:=J.size;omega) ?_);intro N P O l F ao;have V:=o3.low l (by omega);have aS:=V.at 0 rfl;have aV:=V.frozen 0;obtain⟨a1,Ao,rfl,_,_⟩:=ak O);go_roundw
      case rel=>
       have Vj:Below w.heap.size w P:=(z.trans (J.mono z.size)).trans (l.mono (by omega))
       exact⟨j+1,L++[(⟨C,q.cls,M⟩,.slice ad M.length ai)],_,by omega,rfl,by simp;omega,(HP.out P _ O F ao).kept (bX _ (w.heap.size+2) 0 _) (λk t=>by cases t;omega),
        ((S.mono J).low l (by omega)).put (by omega) _,((c.mono J).low l (by omega)).put (by omega) _,V.set 0 _,by have:=J.size;have:=l.size;simp;omega,aj Vj (by omega)⟩
      case measure=>simp[intOf];omega
     have o3:=D.mono J;have Zv:=o3.at 0 rfl;have aK:=o3.frozen 0;have aY:=r2.at 0 rfl;have aW:=r2.at 1 rfl;have aN:=r2.at 2 rfl;have G:=E.out.ext J;obtain⟨f,g,rfl,_,_⟩:=ak G.rows;obtain⟨ad,ai,rfl,_,_⟩:=ak hM
     have HP:=aa (λ(P:World) (N:Value) (ho:P.ownsRow (w.heap.size+3) eY 3 N (L.length+1) (L.flatMap mh++mh (⟨C,q.cls,M⟩,.slice ad M.length ai))) (hg:wr.grownBy P (Value.slice f L.length g).ownBlock) (hN:kK wr (.slice f L.length g) N)=>
      mK.push (p:=⟨C,q.cls,M⟩) G (aT hM (by omega)) (by show M.length<=4;omega) (λp I=>nH (E.out.maps p I) hM (d' _)) (nH E.out.rows hM (d' _)) ho hg hN)
     have HR:=aa G.rows;have aD:=Qr;clear G Uc sN;go_wp2_with (at_builtin;go_loud (refine qf (W:=wr) rfl _ _ 22 rfl (w.heap.size+3) eY _ 3 40 qb (by decide) (by decide) (by decide) (by decide) (.slice f L.length g) L.length (L.flatMap mh) rfl HR.out _ rfl rfl (by simp[Value.oneCell']) (by omega) wr (gS _ _) (by have:=J.size;omega) ?_);intro N P O l F ao;have V:=o3.low l (by omega);have aS:=V.at 0 rfl;have aV:=V.frozen 0;obtain⟨a1,Ao,rfl,_,_⟩:=ak O);go_roundw
     case rel=>
      have Vj:Below w.heap.size w P:=(z.trans (J.mono z.size)).trans (l.mono (by omega))
      exact⟨j+1,L++[(⟨C,q.cls,M⟩,.slice ad M.length ai)],_,by omega,rfl,by simp;omega,(HP.out P _ O F ao).kept (bX _ (w.heap.size+2) 0 _) (λk t=>by cases t;omega),
       ((S.mono J).low l (by omega)).put (by omega) _,((c.mono J).low l (by omega)).put (by omega) _,V.set 0 _,by have:=J.size;have:=l.size;simp;omega,aj Vj (by omega)⟩
     case measure=>simp[intOf];omega
   have zj:decide ((j:Int)<20)=false:=by simp;omega
   obtain⟨w4,ku⟩:∃w',w'=wr:=⟨_,rfl⟩;subst ku;have E:=aa hF;clear hF;go_wp2_with fail;go_loopw [7] (λkv H=>∃(m:Nat) (Y:List Nat) (yv:Value),m<=30/\kv=.int .i64 m/\Y.length<=m/\(∀y∈Y,aP y)/\H.ownsRow w4.heap.size bB 1 yv Y.length (ints Y)/\mK (w.heap.size+3) H rv L/\Is H w.heap.size #[.slice a n cap,.slice ax nx cx] jd/\Is H (w.heap.size+1) #[.slice none 0 0,.slice none 0 0] jd/\Is H (w.heap.size+2) #[rv,yv] jd/\w4.heap.size<=H.heap.size/\Below w.heap.size w H) (λkv _=>30-(intOf kv).toNat)
   case atStart=>exact⟨0,[],_,by decide,rfl,by decide,by simp,iS _ _ _ _,E.out,S,c,D,d' _,z⟩
   case round=>
    clear S c D z d0 d1;obtain⟨m,Y,yv,hm,rfl,a0,U,d,i,S,c,D,ab,z⟩:=hrel;have d1:=S.at 1 rfl;by_cases Ja:m<nx
    ·by_cases aL:m<30
     ·have zm:decide ((m:Int)<30)=true:=by simp;omega
      have kz:m<X.length:=by have:=aE.out;omega
      obtain⟨bx,fx,rfl,_,Z⟩:=HY.out m kz;have Z:=aB z Z;generalize X[m]=x at *;have CH:=aa (λW=>jL (w:=W) x);have R:=(rT (x:=(x % 2097152).toNat));have Uq:=R.1;have Ro:=aa R;generalize lG (x % 2097152).toNat=ch at *;have g1:=Gr.cell (ag wr) d1;have g2:=Gr.cell (ag wr) Z;have g3:=D.gd 1 rfl;obtain⟨s,o,rfl,_,_⟩:=ak d;have ar:=aa i;have M5:=aa U;clear i U R;go_wp2_with fail;refine aC #[true,true,true,true,true,true,true,true,true,true,false,false,false] 10 3 mixed ?_;refine ay [0,1,2,3,4,5,6] 3 ?_;refine bC ?_
      iterate 7 (refine aZ rfl ?_)
      refine bD ?_
      iterate 7 (go_big_quiet_step (rfl))
      refine az ?_;refine aI 7 ?_;go_wp2_with fail;refine(CH.out _).mono ?_;rintro e a2⟨rfl,rfl⟩;go_wp2_with fail;refine aF (gS _ _) ?_;refine ay [8] 1 ?_
      iterate 1 (refine aA rfl ?_;go_big_quiet_step (rfl))
      refine az ?_;refine aI 9 ?_;go_wp2_with fail;refine aF (ah _) ?_;refine aJ [10,11,12] ?_;refine tail_cons rfl ?_;refine f_ (W:=wr.drew) rfl _ _ 23 rfl w4.heap.size bB _ 8 jN (.slice s Y.length o) Y.length (ints Y) rfl (aH d (ag wr)) _ rfl rfl (by omega) (by unfold maxLen;omega) wr.drew (gS _ _) ab ?_;intro N P O l ap F;have aq:Below wr.heap.size wr (wr.drew.alloc (.cells #[.int .i64 (ch:Nat)] bB)):=af (ag wr) (ah _);have al:∀k,(Value.slice s Y.length o).ownBlock=some k->w4.heap.size<=k:=λk t=>(d.lt k t).1;have B:Below w4.heap.size wr P:=((ag wr).mono ab).trans l;have K1:=S.low B (by omega);have K2:=c.low B (by omega);have K3:=D.low B (by omega);obtain⟨a1,Ao,rfl,_,_⟩:=ak O;have c3:=K3.at 1 rfl;have f3:=K3.frozen 1;refine tail_cons rfl ?_;go_wp2_with fail;refine tail_nil ?_;go_wp2;go_roundw
      case rel=>
       refine⟨m+1,Y++[ch],_,by omega,rfl,by simp;omega,?_,?_,?_,K1.put (by omega) _,K2.put (by omega) _,K3.set 1 _,by have:=B.size;simp;omega,aj (z.trans (B.mono (by omega))) (by omega)⟩
       ·intro y hy;rcases ie.1 hy with h|h
        ·exact M5.out y h
        rw[gE.1 h];exact Ro.out
       ·have:=bn O (aQ O (k:=w.heap.size+2) (by omega)) 1 (.slice a1 (Y.length+1) Ao);simpa [ints] using this
       exact((E.out.past (ar.out.ext aq) F al).kept (bX _ (w.heap.size+2) 1 _) (λk t=>by cases t;omega))
      case measure=>simp[intOf];omega
     have zm:decide ((m:Int)<30)=false:=by simp;omega
     have e0:=D.at 0 rfl;have e1:=D.at 1 rfl;have s0:=c.at 0 rfl;have s1:=c.at 1 rfl;have t0:=c.frozen 0;have t1:=c.frozen 1;obtain⟨s,o,rfl,_,_⟩:=ak d;obtain⟨f,g,rfl,_,_⟩:=ak i.rows;have u1:=λu=>(c.set 0 u).at 1 rfl;have u2:=λu=>(c.set 0 u).frozen 1;have K:=(c.set 0 (.slice f L.length g)).set 1 (.slice s Y.length o);have v0:=K.at 0 rfl;have N:=K.at 1 rfl;have A:=aa ((i.kept (bX _ (w.heap.size+1) 0 (.slice f L.length g)) (λk t=>by cases t;omega)).kept (bX _ (w.heap.size+1) 1 (.slice s Y.length o)) (λk t=>by cases t;omega));have Q:=aa (bn (bn d (aQ d (k:=w.heap.size+1) (by omega)) 0 (.slice f L.length g)) (aQ (bn d (aQ d (k:=w.heap.size+1) (by omega)) 0 (.slice f L.length g)) (k:=w.heap.size+1) (by omega)) 1 (.slice s Y.length o));have HA:=aa (λ(p:gX×Value) (I:p∈L)=>(nH (E.out.maps p I) d (d' _)).symm);have M5:=aa U;have HB:=aa (aj (aj z (b:=w.heap.size+1) (off:=0) (u:=.slice f L.length g) (by omega)) (b:=w.heap.size+1) (off:=1) (u:=.slice s Y.length o) (by omega));clear d i U z E;go_wp2
     (try simp only[Exit.inBlock,Exit.then])
     refine bodyPost_ret (v:=.agg #[.slice f L.length g,.slice s Y.length o]) (by simp[results,results119,go_sem,v0,N]) rfl ?_;exact⟨_,_,L,Y,rfl,⟨aT A.out.rows (by omega),λp I=>aT (A.out.maps p I) (by omega),A.out.apart,A.out.nQ,A.out.four⟩,aT Q.out (by omega),HA.out,by omega,by omega,M5.out,HB.out⟩
    have e0:=D.at 0 rfl;have e1:=D.at 1 rfl;have s0:=c.at 0 rfl;have s1:=c.at 1 rfl;have t0:=c.frozen 0;have t1:=c.frozen 1;obtain⟨s,o,rfl,_,_⟩:=ak d;obtain⟨f,g,rfl,_,_⟩:=ak i.rows;have u1:=λu=>(c.set 0 u).at 1 rfl;have u2:=λu=>(c.set 0 u).frozen 1;have K:=(c.set 0 (.slice f L.length g)).set 1 (.slice s Y.length o);have v0:=K.at 0 rfl;have N:=K.at 1 rfl;have A:=aa ((i.kept (bX _ (w.heap.size+1) 0 (.slice f L.length g)) (λk t=>by cases t;omega)).kept (bX _ (w.heap.size+1) 1 (.slice s Y.length o)) (λk t=>by cases t;omega));have Q:=aa (bn (bn d (aQ d (k:=w.heap.size+1) (by omega)) 0 (.slice f L.length g)) (aQ (bn d (aQ d (k:=w.heap.size+1) (by omega)) 0 (.slice f L.length g)) (k:=w.heap.size+1) (by omega)) 1 (.slice s Y.length o));have HA:=aa (λ(p:gX×Value) (I:p∈L)=>(nH (E.out.maps p I) d (d' _)).symm);have M5:=aa U;have HB:=aa (aj (aj z (b:=w.heap.size+1) (off:=0) (u:=.slice f L.length g) (by omega)) (b:=w.heap.size+1) (off:=1) (u:=.slice s Y.length o) (by omega));clear d i U z E;go_wp2
    (try simp only[Exit.inBlock,Exit.then])
    refine bodyPost_ret (v:=.agg #[.slice f L.length g,.slice s Y.length o]) (by simp[results,results119,go_sem,v0,N]) rfl ?_;exact⟨_,_,L,Y,rfl,⟨aT A.out.rows (by omega),λp I=>aT (A.out.maps p I) (by omega),A.out.apart,A.out.nQ,A.out.four⟩,aT Q.out (by omega),HA.out,by omega,by omega,M5.out,HB.out⟩
  obtain⟨w4,ku⟩:∃w',w'=wr:=⟨_,rfl⟩;subst ku;have E:=aa hF;clear hF;go_wp2_with fail;go_loopw [7] (λkv H=>∃(m:Nat) (Y:List Nat) (yv:Value),m<=30/\kv=.int .i64 m/\Y.length<=m/\(∀y∈Y,aP y)/\H.ownsRow w4.heap.size bB 1 yv Y.length (ints Y)/\mK (w.heap.size+3) H rv L/\Is H w.heap.size #[.slice a n cap,.slice ax nx cx] jd/\Is H (w.heap.size+1) #[.slice none 0 0,.slice none 0 0] jd/\Is H (w.heap.size+2) #[rv,yv] jd/\w4.heap.size<=H.heap.size/\Below w.heap.size w H) (λkv _=>30-(intOf kv).toNat)
  case atStart=>exact⟨0,[],_,by decide,rfl,by decide,by simp,iS _ _ _ _,E.out,S,c,D,d' _,z⟩
  case round=>
   clear S c D z d0 d1;obtain⟨m,Y,yv,hm,rfl,a0,U,d,i,S,c,D,ab,z⟩:=hrel;have d1:=S.at 1 rfl;by_cases Ja:m<nx
   ·by_cases aL:m<30
    ·have zm:decide ((m:Int)<30)=true:=by simp;omega
     have kz:m<X.length:=by have:=aE.out;omega
     obtain⟨bx,fx,rfl,_,Z⟩:=HY.out m kz;have Z:=aB z Z;generalize X[m]=x at *;have CH:=aa (λW=>jL (w:=W) x);have R:=(rT (x:=(x % 2097152).toNat));have Uq:=R.1;have Ro:=aa R;generalize lG (x % 2097152).toNat=ch at *;have g1:=Gr.cell (ag wr) d1;have g2:=Gr.cell (ag wr) Z;have g3:=D.gd 1 rfl;obtain⟨s,o,rfl,_,_⟩:=ak d;have ar:=aa i;have M5:=aa U;clear i U R;go_wp2_with fail;refine aC #[true,true,true,true,true,true,true,true,true,true,false,false,false] 10 3 mixed ?_;refine ay [0,1,2,3,4,5,6] 3 ?_;refine bC ?_
     iterate 7 (refine aZ rfl ?_)
     refine bD ?_
     iterate 7 (go_big_quiet_step (rfl))
     refine az ?_;refine aI 7 ?_;go_wp2_with fail;refine(CH.out _).mono ?_;rintro e a2⟨rfl,rfl⟩;go_wp2_with fail;refine aF (gS _ _) ?_;refine ay [8] 1 ?_
     iterate 1 (refine aA rfl ?_;go_big_quiet_step (rfl))
     refine az ?_;refine aI 9 ?_;go_wp2_with fail;refine aF (ah _) ?_;refine aJ [10,11,12] ?_;refine tail_cons rfl ?_;refine f_ (W:=wr.drew) rfl _ _ 23 rfl w4.heap.size bB _ 8 jN (.slice s Y.length o) Y.length (ints Y) rfl (aH d (ag wr)) _ rfl rfl (by omega) (by unfold maxLen;omega) wr.drew (gS _ _) ab ?_;intro N P O l ap F;have aq:Below wr.heap.size wr (wr.drew.alloc (.cells #[.int .i64 (ch:Nat)] bB)):=af (ag wr) (ah _);have al:∀k,(Value.slice s Y.length o).ownBlock=some k->w4.heap.size<=k:=λk t=>(d.lt k t).1;have B:Below w4.heap.size wr P:=((ag wr).mono ab).trans l;have K1:=S.low B (by omega);have K2:=c.low B (by omega);have K3:=D.low B (by omega);obtain⟨a1,Ao,rfl,_,_⟩:=ak O;have c3:=K3.at 1 rfl;have f3:=K3.frozen 1;refine tail_cons rfl ?_;go_wp2_with fail;refine tail_nil ?_;go_wp2;go_roundw
     case rel=>
      refine⟨m+1,Y++[ch],_,by omega,rfl,by simp;omega,?_,?_,?_,K1.put (by omega) _,K2.put (by omega) _,K3.set 1 _,by have:=B.size;simp;omega,aj (z.trans (B.mono (by omega))) (by omega)⟩
      ·intro y hy;rcases ie.1 hy with h|h
       ·exact M5.out y h
       rw[gE.1 h];exact Ro.out
      ·have:=bn O (aQ O (k:=w.heap.size+2) (by omega)) 1 (.slice a1 (Y.length+1) Ao);simpa [ints] using this
      exact((E.out.past (ar.out.ext aq) F al).kept (bX _ (w.heap.size+2) 1 _) (λk t=>by cases t;omega))
     case measure=>simp[intOf];omega
    have zm:decide ((m:Int)<30)=false:=by simp;omega
    have e0:=D.at 0 rfl;have e1:=D.at 1 rfl;have s0:=c.at 0 rfl;have s1:=c.at 1 rfl;have t0:=c.frozen 0;have t1:=c.frozen 1;obtain⟨s,o,rfl,_,_⟩:=ak d;obtain⟨f,g,rfl,_,_⟩:=ak i.rows;have u1:=λu=>(c.set 0 u).at 1 rfl;have u2:=λu=>(c.set 0 u).frozen 1;have K:=(c.set 0 (.slice f L.length g)).set 1 (.slice s Y.length o);have v0:=K.at 0 rfl;have N:=K.at 1 rfl;have A:=aa ((i.kept (bX _ (w.heap.size+1) 0 (.slice f L.length g)) (λk t=>by cases t;omega)).kept (bX _ (w.heap.size+1) 1 (.slice s Y.length o)) (λk t=>by cases t;omega));have Q:=aa (bn (bn d (aQ d (k:=w.heap.size+1) (by omega)) 0 (.slice f L.length g)) (aQ (bn d (aQ d (k:=w.heap.size+1) (by omega)) 0 (.slice f L.length g)) (k:=w.heap.size+1) (by omega)) 1 (.slice s Y.length o));have HA:=aa (λ(p:gX×Value) (I:p∈L)=>(nH (E.out.maps p I) d (d' _)).symm);have M5:=aa U;have HB:=aa (aj (aj z (b:=w.heap.size+1) (off:=0) (u:=.slice f L.length g) (by omega)) (b:=w.heap.size+1) (off:=1) (u:=.slice s Y.length o) (by omega));clear d i U z E;go_wp2
    (try simp only[Exit.inBlock,Exit.then])
    refine bodyPost_ret (v:=.agg #[.slice f L.length g,.slice s Y.length o]) (by simp[results,results119,go_sem,v0,N]) rfl ?_;exact⟨_,_,L,Y,rfl,⟨aT A.out.rows (by omega),λp I=>aT (A.out.maps p I) (by omega),A.out.apart,A.out.nQ,A.out.four⟩,aT Q.out (by omega),HA.out,by omega,by omega,M5.out,HB.out⟩
   have e0:=D.at 0 rfl;have e1:=D.at 1 rfl;have s0:=c.at 0 rfl;have s1:=c.at 1 rfl;have t0:=c.frozen 0;have t1:=c.frozen 1;obtain⟨s,o,rfl,_,_⟩:=ak d;obtain⟨f,g,rfl,_,_⟩:=ak i.rows;have u1:=λu=>(c.set 0 u).at 1 rfl;have u2:=λu=>(c.set 0 u).frozen 1;have K:=(c.set 0 (.slice f L.length g)).set 1 (.slice s Y.length o);have v0:=K.at 0 rfl;have N:=K.at 1 rfl;have A:=aa ((i.kept (bX _ (w.heap.size+1) 0 (.slice f L.length g)) (λk t=>by cases t;omega)).kept (bX _ (w.heap.size+1) 1 (.slice s Y.length o)) (λk t=>by cases t;omega));have Q:=aa (bn (bn d (aQ d (k:=w.heap.size+1) (by omega)) 0 (.slice f L.length g)) (aQ (bn d (aQ d (k:=w.heap.size+1) (by omega)) 0 (.slice f L.length g)) (k:=w.heap.size+1) (by omega)) 1 (.slice s Y.length o));have HA:=aa (λ(p:gX×Value) (I:p∈L)=>(nH (E.out.maps p I) d (d' _)).symm);have M5:=aa U;have HB:=aa (aj (aj z (b:=w.heap.size+1) (off:=0) (u:=.slice f L.length g) (by omega)) (b:=w.heap.size+1) (off:=1) (u:=.slice s Y.length o) (by omega));clear d i U z E;go_wp2
   (try simp only[Exit.inBlock,Exit.then])
   refine bodyPost_ret (v:=.agg #[.slice f L.length g,.slice s Y.length o]) (by simp[results,results119,go_sem,v0,N]) rfl ?_;exact⟨_,_,L,Y,rfl,⟨aT A.out.rows (by omega),λp I=>aT (A.out.maps p I) (by omega),A.out.apart,A.out.nQ,A.out.four⟩,aT Q.out (by omega),HA.out,by omega,by omega,M5.out,HB.out⟩
def IV {c:List Nat} {i:Nat} (a:i<c.length) {x:Nat}:x∈c.take (i+1)↔x∈c.take i\/x=c[i]:=by
 rw[gR a,ie,gE]
def PW {l:List Nat} (h:bG w v (ints l)) (q:l.length<1000000) (t:Nat) :
 Calls prog 202 #[v,.int .i64 t] w λe w'=>e=.returned (.bool (decide (t∈l)))/\Below w.heap.size w w':=by
 obtain⟨n,m⟩:=ae l.length;obtain⟨a,cap,rfl,_,p⟩:=bG.nO h m;have A:=aa p;have o:=aa m;have:n<1000000:=by omega
 clear h p m;go_enter func202,ntmps202;go_wp2_with fail;go_loopw [9] (λi wr=>∃j:Nat,j<=n/\i=.int .i64 j/\t∉l.take j/\wr=w) (λi _=>n-(intOf i).toNat)
 case atStart=>exact⟨0,ic _,rfl,by simp,rfl⟩
 case round=>
  obtain⟨j,C,rfl,k,rfl⟩:=hrel;by_cases y:j<n
  ·have d:j<l.length:=by have:=o.out;omega
   obtain⟨b,off,rfl,_,D⟩:=A.out j d;have u:=aa k;have r:=aa (IV (c:=l) d (x:=t));have B:=aa (gw d);generalize l[j]=s at *;clear k;by_cases f:s=t
   ·subst f;have g:=aa (decide_eq_true B.out);have z:((s:Int)==s)=true:=by simp
    go_wp2;go_ret;exact⟨dV g.out.symm,gS _ _⟩
   have z:((s:Int)==t)=false:=by simp;omega
   go_wp2;go_roundw
   case rel=>exact⟨j+1,by omega,rfl,λh=>(r.out.1 h).elim u.out (λe=>f e.symm),trivial⟩
   case measure=>simp[intOf];omega
  obtain rfl:j=n:=by omega
  have g:=aa (decide_eq_false (λh=>k (by rw[o.out,lB];exact h)):decide (t∈l)=false);go_wp2;go_ret;exact⟨dV g.out.symm,gS _ _⟩
def Ak (h:jq w v T X) (c:Nat) (hc:c<1114112) (G:T.length<1000000) (hX:X.length<1000000) :
 Calls prog 164 #[v,.int .i64 c] w λe w'=>(∃p:Bool,e=.returned (.bool p)/\(p=true↔Prim T X c))/\Below w.heap.size w w':=by
 have HT:=aa h;obtain⟨r,x,rfl,⟨a,cap,rfl,_⟩,q⟩:=h;obtain⟨ax,U,rfl,_,_⟩:=Go.Cd.bG.out q;obtain⟨nt,ac⟩:∃n,n=T.length:=⟨_,rfl⟩;obtain⟨nx,Q⟩:∃n,n=(ints X).length:=⟨_,rfl⟩;rw[<-ac,<-Q] at HT⊢;rw[<-Q] at q;have ZT:=aa q;have hb:=ah (w:=w) (.cells #[.slice a nt cap,.slice ax nx U] 25);have d0:(w.alloc (.cells #[.slice a nt cap,.slice ax nx U] 25)).cell? ⟨w.heap.size,0,none⟩=some (.slice a nt cap):=by unfold World.cell?;rw[heap_alloc_new];rfl
 have d1:(w.alloc (.cells #[.slice a nt cap,.slice ax nx U] 25)).cell? ⟨w.heap.size,1,none⟩=some (.slice ax nx U):=by unfold World.cell?;rw[heap_alloc_new];rfl
 obtain⟨W0,hW⟩:=ae (w.alloc (.cells #[.slice a nt cap,.slice ax nx U] 25));rw[<-hW] at hb d0 d1;have PA:=aa (tH (w:=W0) c hc);have M:=λ(W:World) (E:Below w.heap.size w W) (y:Nat)=>aa (tK (HT.out.mono E) y G);have MP:=λ(W:World) (E:Below w.heap.size w W)=>aa (y9 (HT.out.mono E) c hc G);have IN:=λ(W:World) (E:Below w.heap.size w W)=>aa (PW (ZT.out.mono E) hX c);clear q ac Q;by_cases F:4<=hk c
 ·have hp:0<(hparts c).length:=ke.2 (λh=>by have:=iC.1 h;omega);have C:=aa (show Prim T X c from .inl F);generalize hparts c=P at *;clear F M MP IN;go_enter func164,ntmps164;go_wp2_with fail;rw[<-hW];clear hW;refine PA.out.mono ?_;rintro e w1⟨r1,rfl,Z,L⟩;have B:=af hb L;obtain⟨n1,ab⟩:∃n,n=P.length:=⟨_,rfl⟩;obtain⟨a1,c1,rfl,_,_⟩:=bG.nO (Sl.aU Z).any ab;have:0<n1:=by omega
  clear PA Z ab hp;go_wp2;go_ret;exact⟨⟨true,rfl,λ_=>C.out,λ_=>rfl⟩,B⟩
 rw[iC.2 (by omega)] at PA;go_enter func164,ntmps164;go_wp2_with fail;rw[<-hW];clear hW;refine PA.out.mono ?_;rintro e w1⟨r1,rfl,Z,L⟩;have B:=af hb L;obtain⟨a1,c1,rfl,_,_⟩:=bG.nO (n:=0) (Sl.aU Z).any rfl;have H:=aB L d0;have J:=aB L d1;have M1:=MP _ B;clear PA Z MP;go_wp2_with fail;refine M1.out.mono ?_;rintro e w2⟨r2,rfl,s2,q⟩;have i:=af B q;have H:=aB q H;have J:=aB q J;obtain⟨m,I⟩:=ae (mapOf T c);rw[<-I] at s2;obtain⟨nm,j⟩:∃n,n=m.length:=⟨_,rfl⟩;obtain⟨a2,c2,rfl,_,s⟩:=bG.nO s2 j;have O:=ag w2;have g0:=Gr.cell O H;have g1:=Gr.cell O J;have ad:=af i O;clear M1 s2;by_cases D:nm=2
 ·subst D;obtain⟨K,S,ak⟩:∃K S,m=[K,S]:=by
   match m,j with
   | [K,S],_=>exact⟨K,S,rfl⟩
  subst ak;obtain⟨b2,f2,rfl,_,g⟩:=s 0 (by simp);have g:w2.cell? ⟨b2,f2,none⟩=some (.int .i64 K):=by simpa using g
  have Y:=Gr.cell O g;have K0:=M _ ad c;obtain⟨k0,l⟩:∃k,k=ai T c:=⟨_,rfl⟩;obtain⟨k1,o⟩:∃k,k=ai T K:=⟨_,rfl⟩;have K1:=λ(W:World) (E:Below w.heap.size w W)=>M W E K;rw[<-l] at K0;simp only[<-o] at K1;by_cases A:k0=0
  ·by_cases N:k1=0
   ·have C:=aa (show Prim T X c↔c∉X by
     constructor
     ·rintro (h|⟨a,b,h,_,_,u⟩)
      ·exact absurd h F
      exact u
     intro h;exact .inr ⟨K,S,I.symm,by rw[<-l,A],by rw[<-o,N],h⟩)
    subst A;subst N;clear s j I M F l o;go_wp2_with fail;refine aC (Array.replicate 25 true) 25 0 mixed ?_;refine ay [0,1,2,3,4,5] 19 ?_;refine bC ?_
    iterate 6 (refine aZ rfl ?_)
    refine bD ?_
    iterate 6 (go_big_quiet_step (rfl))
    refine az ?_;refine aI 6 ?_;go_wp2_with fail;refine K0.out.mono ?_;rintro e w3⟨rfl,u⟩;go_wp2_with fail;refine aF u ?_;have d:=af O u;have V:=af i d;have g0:=Gr.cell d H;have g1:=Gr.cell d J;have Y:=Gr.cell d g;refine ay [7,8,9,10,11,12,13] 11 ?_;refine bC ?_
    iterate 7 (refine aZ rfl ?_)
    refine bD ?_
    iterate 7 (go_big_quiet_step (rfl))
    refine az ?_;have R:=K1 _ V;refine aI 14 ?_;go_wp2_with fail;refine R.out.mono ?_;rintro e w4⟨rfl,t⟩;go_wp2_with fail;refine aF t ?_;have f:=af d t;have lN:=af i f;have g0:=Gr.cell f H;have g1:=Gr.cell f J;have Y:=Gr.cell f g;refine ay [15,16,17,18,19,20] 4 ?_;refine bC ?_
    iterate 6 (refine aZ rfl ?_)
    refine bD ?_
    iterate 6 (go_big_quiet_step (rfl))
    refine az ?_;have I1:=IN _ lN;refine aI 21 ?_;go_wp2_with fail;refine I1.out.mono ?_;rintro e w5⟨rfl,h5⟩;go_wp2_with fail;refine aF h5 ?_;have aj:=af f h5;have jP:=af i aj;refine ay [22,23,24] 0 ?_;refine bC ?_
    iterate 3 (refine aZ rfl ?_)
    refine bD ?_
    iterate 3 (go_big_quiet_step (rfl))
    refine az ?_;refine aJ [] ?_;refine tail_nil ?_;go_wp2;go_ret;exact⟨⟨_,rfl,by rw[C.out];simp⟩,jP⟩
   have C:=aa (show ¬Prim T X c by
    rintro (h|⟨a,b,h,_,q,_⟩)
    ·exact absurd h F
    rw[<-I] at h;cases h;rw[<-o] at q;exact N q)
   have:((k1:Int)==0)=false:=by simp;omega
   subst A;clear s j I M IN F l o;go_wp2_with fail;refine aC (Array.replicate 25 true) 25 0 mixed ?_;refine ay [0,1,2,3,4,5] 19 ?_;refine bC ?_
   iterate 6 (refine aZ rfl ?_)
   refine bD ?_
   iterate 6 (go_big_quiet_step (rfl))
   refine az ?_;refine aI 6 ?_;go_wp2_with fail;refine K0.out.mono ?_;rintro e w3⟨rfl,u⟩;go_wp2_with fail;refine aF u ?_;have d:=af O u;have V:=af i d;have g0:=Gr.cell d H;have g1:=Gr.cell d J;have Y:=Gr.cell d g;refine ay [7,8,9,10,11,12,13] 11 ?_;refine bC ?_
   iterate 7 (refine aZ rfl ?_)
   refine bD ?_
   iterate 7 (go_big_quiet_step (rfl))
   refine az ?_;have R:=K1 _ V;refine aI 14 ?_;go_wp2_with fail;refine R.out.mono ?_;rintro e w4⟨rfl,t⟩;go_wp2_with fail;refine aF t ?_;have f:=af d t;have lN:=af i f;have g0:=Gr.cell f H;have g1:=Gr.cell f J;have Y:=Gr.cell f g;refine ay [15,16,17,18,19,20] 4 ?_;refine bC ?_
   iterate 6 (refine aZ rfl ?_)
   refine bD ?_
   iterate 6 (go_big_quiet_step (rfl))
   refine az ?_;refine aI 21 ?_;go_wp2_with fail;refine aF (gS _ _) ?_;refine ay [22,23,24] 0 ?_;refine bC ?_
   iterate 3 (refine aZ rfl ?_)
   refine bD ?_
   iterate 3 (go_big_quiet_step (rfl))
   refine az ?_;refine aJ [] ?_;refine tail_nil ?_;go_wp2;go_ret;exact⟨⟨false,rfl,λh=>(by cases h),λh=>absurd h C.out⟩,lN⟩
  have C:=aa (show ¬Prim T X c by
   rintro (h|⟨a,b,h,L,_,_⟩)
   ·exact absurd h F
   rw[<-l] at L;exact A L)
  have:((k0:Int)==0)=false:=by simp;omega
  clear s j I M IN F l o K1;go_wp2_with fail;refine aC (Array.replicate 25 true) 25 0 mixed ?_;refine ay [0,1,2,3,4,5] 19 ?_;refine bC ?_
  iterate 6 (refine aZ rfl ?_)
  refine bD ?_
  iterate 6 (go_big_quiet_step (rfl))
  refine az ?_;refine aI 6 ?_;go_wp2_with fail;refine K0.out.mono ?_;rintro e w3⟨rfl,u⟩;go_wp2_with fail;refine aF u ?_;have d:=af O u;have V:=af i d;have g0:=Gr.cell d H;have g1:=Gr.cell d J;have Y:=Gr.cell d g;refine ay [7,8,9,10,11,12,13] 11 ?_;refine bC ?_
  iterate 7 (refine aZ rfl ?_)
  refine bD ?_
  iterate 7 (go_big_quiet_step (rfl))
  refine az ?_;refine aI 14 ?_;go_wp2_with fail;refine aF (gS _ _) ?_;refine ay [15,16,17,18,19,20] 4 ?_;refine bC ?_
  iterate 6 (refine aZ rfl ?_)
  refine bD ?_
  iterate 6 (go_big_quiet_step (rfl))
  refine az ?_;refine aI 21 ?_;go_wp2_with fail;refine aF (gS _ _) ?_;refine ay [22,23,24] 0 ?_;refine bC ?_
  iterate 3 (refine aZ rfl ?_)
  refine bD ?_
  iterate 3 (go_big_quiet_step (rfl))
  refine az ?_;refine aJ [] ?_;refine tail_nil ?_;go_wp2;go_ret;exact⟨⟨false,rfl,λh=>(by cases h),λh=>absurd h C.out⟩,V⟩
 have C:=aa (show ¬Prim T X c by
  rintro (h|⟨a,b,h,_⟩)
  ·omega
  rw[<-I] at h;rw[j,h] at D;exact D rfl)
 have:((nm:Int)==2)=false:=by simp;omega
 clear s j I D M IN F;go_wp2_with fail;refine aC (Array.replicate 25 true) 25 0 mixed ?_;refine ay [0,1,2,3,4,5] 19 ?_;refine bC ?_
 iterate 6 (refine aZ rfl ?_)
 refine bD ?_
 iterate 6 (go_big_quiet_step (rfl))
 refine az ?_;refine aI 6 ?_;go_wp2_with fail;refine aF (gS _ _) ?_;refine ay [7,8,9,10,11,12,13] 11 ?_;refine bC ?_
 iterate 7 (refine aZ rfl ?_)
 refine bD ?_
 iterate 7 (go_big_quiet_step (rfl))
 refine az ?_;refine aI 14 ?_;go_wp2_with fail;refine aF (gS _ _) ?_;refine ay [15,16,17,18,19,20] 4 ?_;refine bC ?_
 iterate 6 (refine aZ rfl ?_)
 refine bD ?_
 iterate 6 (go_big_quiet_step (rfl))
 refine az ?_;refine aI 21 ?_;go_wp2_with fail;refine aF (gS _ _) ?_;refine ay [22,23,24] 0 ?_;refine bC ?_
 iterate 3 (refine aZ rfl ?_)
 refine bD ?_
 iterate 3 (go_big_quiet_step (rfl))
 refine az ?_;refine aJ [] ?_;refine tail_nil ?_;go_wp2;go_ret;exact⟨⟨false,rfl,λh=>(by cases h),λh=>absurd h C.out⟩,ad⟩
def IW (c:Nat) (g:c<1114112) :
 Calls prog 163 #[.int .i64 c] w λe w'=>e=.returned (.int .i64 (hk c))/\w'=w:=by
 obtain⟨k,a⟩:=ae (hk c);have b:=aa a;rw[<-a];clear a;have M:∀i:Nat,c=44032+i->((c:Int)-44032).tmod 28=((i % 28:Nat):Int):=by
  intro i d;rw[show(c:Int)-44032=(i:Int) by omega,px (by omega)];omega
 go_each [4352<=c,c<=4370,4449<=c,c<=4469,4520<=c,c<=4546,c<44032,55203<c]=>(
  first
  | (have E:k=1:=b.out.trans (by unfold hk;rw[if_pos (by omega)])
     subst E;clear M;go_enter func163,ntmps163;go_wp2;go_ret;exact⟨rfl,rfl⟩)
  | (have E:k=2:=b.out.trans (by unfold hk;rw[if_neg (by omega),if_pos (by omega)])
     subst E;clear M;go_enter func163,ntmps163;go_wp2;go_ret;exact⟨rfl,rfl⟩)
  | (have E:k=3:=b.out.trans (by unfold hk;rw[if_neg (by omega),if_neg (by omega),if_pos (by omega)])
     subst E;clear M;go_enter func163,ntmps163;go_wp2;go_ret;exact⟨rfl,rfl⟩)
  | (have E:k=0:=b.out.trans (by unfold hk;rw[if_neg (by omega),if_neg (by omega),if_neg (by omega),if_pos (by omega)])
     subst E;clear M;go_enter func163,ntmps163;go_wp2;go_ret;exact⟨rfl,rfl⟩)
  | (obtain⟨i,d⟩:∃i,c=44032+i:=⟨c-44032,by omega⟩
     have M:=M i d;subst d;by_cases f:i % 28=0
     ·have E:k=4:=b.out.trans (by unfold hk;rw[if_neg (by omega),if_neg (by omega),if_neg (by omega),if_neg (by omega),if_pos (by omega)]);subst E;rw[f] at M;go_enter func163,ntmps163;go_wp2;go_ret;exact⟨rfl,rfl⟩
     have E:k=5:=b.out.trans (by unfold hk;rw[if_neg (by omega),if_neg (by omega),if_neg (by omega),if_neg (by omega),if_neg (by omega)]);subst E;have:¬(((44032+i:Nat):Int)-44032).tmod 28=0:=by rw[M];omega
     clear M
     go_enter func163,ntmps163;go_wp2;go_ret;exact⟨rfl,rfl⟩))
def twice (T:List aG) (X:List Nat) (r q:aG):Prop:=Prim T X r.code∧Prim T X q.code∧q.map.length=2∧q.map=r.map
theorem aa2 (h:∀i (c:i<T.length) k (d:k<T.length),k<i->¬twice T X T[i] T[k]) :
 ∀r∈T,∀q∈T,r.map.length=2->r.map=q.map->Prim T X r.code->Prim T X q.code->r=q:=by
 intro r j q g e b f a;obtain⟨i,c,rfl⟩:=rG j;obtain⟨k,d,rfl⟩:=rG g;rcases pR i k with hik|rfl|hik
 ·exact absurd ⟨a,f,e,b⟩ (h k d i c hik)
 ·rfl
 ·exact absurd ⟨f,a,b▸e,b.symm⟩ (h i c k d hik)
theorem QO {l:List Nat} {n:Nat} (c:n=l.length) (h:n=2):∃a b,l=[a,b]:=by
 subst h
 match l,c with
 | [a,b],_=>exact⟨a,b,rfl⟩
theorem Ei (h:jq w v T X) (a0:T.length<1000000) (hX:X.length<1000000)
 (hT:∀r∈T,aP r.code∧r.cls<255∧r.map.length<=2∧∀x∈r.map,aP x) :
 Calls prog 120 #[v] w fun e w'=>∃s,e=.returned (.string s)∧(s=⟨#[]⟩->aY T X)∧Below w.heap.size w w':=by
 have HT:=aa h;obtain⟨r,x,rfl,⟨a,cap,rfl,be,l⟩,h2⟩:=h;have HX:=aa l;obtain⟨ax,cx,rfl,_,_⟩:=Go.Cd.bG.out h2;obtain⟨n,hn⟩:=ae T.length;obtain⟨nx,bg⟩:∃n,n=(ints X).length:=⟨_,rfl⟩;rw[<-hn] at a0 be;rw[<-hn,<-bg] at HT⊢;have HN:=aa hn;have SS:=aa hT;have hb:=ah (w:=w) (.cells #[.slice a n cap,.slice ax nx cx] 25);have d0:(w.alloc (.cells #[.slice a n cap,.slice ax nx cx] 25)).cell? ⟨w.heap.size,0,none⟩=some (.slice a n cap):=by unfold World.cell?;rw[heap_alloc_new];rfl
 have d1:(w.alloc (.cells #[.slice a n cap,.slice ax nx cx] 25)).cell? ⟨w.heap.size,1,none⟩=some (.slice ax nx cx):=by unfold World.cell?;rw[heap_alloc_new];rfl
 obtain⟨W0,hW⟩:=ae (w.alloc (.cells #[.slice a n cap,.slice ax nx cx] 25));rw[<-hW] at hb d0 d1;have IS:=fun (W:World) (y:Nat) (D:y<1114112)=>aa (EH (w:=W) y (by omega));have KI:=fun (W:World) (y:Nat) (D:y<1114112)=>aa (IW (w:=W) y D);have FU:=fun (W:World) (E:Below w.heap.size w W) (y:Nat) (D:y<1114112)=>aa (wD (HT.out.mono E) y D (fun r c x l=>((hT r c).2.2.2 x l).1) (fun r c=>ia (hT r c).2.2.1 (by decide)) (by omega));have PR:=fun (W:World) (E:Below w.heap.size w W) (y:Nat) (D:y<1114112)=>aa (Ak (HT.out.mono E) y D (by omega) hX);clear h2 bg l hn hT;go_enter func120,ntmps120;go_wp2_with fail;rw[<-hW];clear hW;go_loopw [3,21] (fun lv iv wr=>∃(j:Nat) (t:Int),j<=n∧iv=.int .i64 j∧lv=.int .i64 t∧-1<=t∧t<1114112∧(∀r∈T.take j,(r.code:Int)<=t)∧rising (T.take j)∧(∀r∈T.take j,hk r.code=0∧∀x∈r.map,hk x=0)∧Below W0.heap.size W0 wr) (fun _ iv _=>n-(intOf iv).toNat)
 case atStart=>exact⟨0,-1,ic _,rfl,rfl,by decide,by decide,by simp,trivial,by simp,gS _ _⟩
 case round=>
  obtain⟨j,t,hj,rfl,rfl,bt,bn,aW,ai,aj,hE⟩:=hrel;have fT:=af hb hE;by_cases aD:j<n
  ·have g:j<T.length:=by have:=HN.out;omega
   obtain⟨b,off,m,rfl,ar,K,J,I,M⟩:=HX.out j g;have K:=aB fT K;have J:=aB fT J;have I:=aB fT I;have M:=M.mono fT;obtain⟨aV,bM,bk,a2⟩:=SS.out _ (gw g);have HS:=aa (show T.take (j+1)=T.take j++[T[j]] from gR g);have Q_:=aa aW;have aw:=aa ai;have al:=aa aj;generalize T[j]=q at *;obtain⟨nm,d⟩:=ae q.map.length;obtain⟨am,cm,rfl,bz,N⟩:=bG.nO M d;have Uc:=aa N;have a_:=aa a2;have sN:=aa d;have HM:=aa M;have S:=aV.1;have I1:=fun W=>IS W q.code S;simp only[decide_eq_true aV] at I1;have TJ:nm<=2:=by omega
   clear aW ai aj a2 N M bk d aV FU PR;go_wp2_with fail;refine(I1 _).out.mono ?_;rintro e w1⟨rfl,rfl⟩;by_cases bj:(q.code:Int)<=t
   ·go_wp2;go_ret;exact⟨_,rfl,fun h=>by (first|cases h|simp at h),hb.trans ((af hE (ah _)).mono hb.size)⟩
   ·have O:((wr.alloc (.cells #[.int .i64 q.code,.int .i64 q.cls,.slice am nm cm] 78)).alloc (.cells #[.int .i64 q.code] bB)).ownsRow (wr.heap.size+1) bB 1 (.slice (some ⟨wr.heap.size+1,0,none⟩) 1 1) 1 [.int .i64 q.code]:=by
     have:=mU (wr.alloc (.cells #[.int .i64 q.code,.int .i64 q.cls,.slice am nm cm] 78)) #[.int .i64 q.code] bB 1 rfl (by decide);simpa only[nh] using this
    have S2:=aa (fun (W:World) (E:Below wr.heap.size wr W)=>HM.out.mono E);have O:=aa O;have a8:=aa (show ∀(w1:World) (v1:Value) (n1:Nat),w1.ownsRow (wr.heap.size+1) bB 1 v1 n1 ([Value.int .i64 q.code]++ints q.map)->bG w1 v1 (ints (q.code::q.map)) from fun w1 v1 n1 o=>(Sl.aU o).any);have aO:=aa (show nm+1=(q.code::q.map).length by rw[im,sN.out]);go_wp2_with (at_builtin;refine bR rfl _ _ 23 rfl (wr.heap.size+1) bB _ 8 jN _ 1 _ rfl O.out _ (ints q.map) rfl (S2.out _ (dH _ _)) (kJ _) (by rw[ek,<-sN.out];unfold maxLen;omega) (by rw[ek,<-sN.out];omega) (by simp only[nh];omega) ?_;intro v1 w1 o1 aR;obtain⟨a1,Ao,rfl,_,a9⟩:=bG.nO (a8.out _ _ _ o1) aO.out);have aM:Below wr.heap.size wr w1:=(dH _ _).grown aR (dH _ _).size (fun k hk=>by have:=(O.out.lt k hk).1;omega);have f2:w1.cell? ⟨wr.heap.size,2,none⟩=some (.slice am nm cm):=
     aR.cell (aB (ah _) (by unfold World.cell?;rw[heap_alloc_new];rfl)) (fun e=>by have:=(O.out.lt _ e.symm).1;simp only at this;omega)
    have mH:=aa a9
    have HQ:=aa (show ∀x∈q.code::q.map,x<1114112 from fun x l=>by
     rcases jt.1 l with rfl|l
     ·exact S
     ·exact(a_.out x l).1)
    clear o1 aR a9 K J I I1 a8;generalize hL:q.code::q.map=L at *;have HL:=aa hL;clear hL;obtain⟨wo,Y⟩:∃w',w'=wr:=⟨_,rfl⟩;subst Y;go_wp2_with fail;go_loopw [60] (fun kv w2=>∃k:Nat,k<=nm+1∧kv=.int .i64 k∧(∀x∈L.take k,hk x=0)∧w2=w1) (fun kv _=>nm+1-(intOf kv).toNat)
    case atStart=>exact⟨0,ic _,rfl,by simp,(by first|rfl|trivial)⟩
    case round=>
     obtain⟨k,aN,rfl,Z,rfl⟩:=hrel;obtain⟨w1,Y⟩:∃w',w'=wr:=⟨_,rfl⟩;subst Y;by_cases bv:k<nm+1
     ·have B:k<L.length:=by have:=aO.out;omega
      obtain⟨b1,f1,rfl,_,hz⟩:=mH.out k B;have K1:=fun W=>KI W _ (HQ.out _ (gw B));have Zr:=aa (show L.take (k+1)=L.take k++[L[k]] from gR B);have aq:=aa Z;generalize L[k]=y at *;clear Z;by_cases a5:hk y=0
      ·rw[a5] at K1;go_wp2_with fail;refine(K1 _).out.mono ?_;rintro e w2⟨rfl,rfl⟩;go_wp2;go_roundw
       case rel=>exact⟨k+1,by omega,rfl,fun x l=>by
        rw[Zr.out,ie,gE] at l;rcases l with l|rfl
        ·exact aq.out x l
        ·exact a5,(by first|rfl|trivial)⟩
       case measure=>simp[intOf];omega
      ·go_wp2_with fail;refine(K1 _).out.mono ?_;rintro e w2⟨rfl,rfl⟩;generalize hk y=kk at *;go_wp2;go_ret;exact⟨_,rfl,fun h=>by (first|cases h|simp at h),hb.trans ((af hE aM).mono hb.size)⟩
     ·have bd:k=nm+1:=by omega
      rw[iu (by have:=aO.out;omega)] at Z;have aq:=aa Z;clear Z mH HQ aN bd;have aX:=Uc.out;go_wp2_with fail;go_loopw [71] (fun kv w2=>∃k:Nat,k<=nm∧kv=.int .i64 k∧w2=w1) (fun kv _=>nm-(intOf kv).toNat)
      case atStart=>exact⟨0,ic _,rfl,(by first|rfl|trivial)⟩
      case round=>
       obtain⟨k,aN,rfl,rfl⟩:=hrel;obtain⟨w1,Y⟩:∃w',w'=wr:=⟨_,rfl⟩;subst Y;by_cases bv:k<nm
       ·have B:k<q.map.length:=by have:=sN.out;omega
        obtain⟨V,Q,rfl,_,hz⟩:=aX k B;have hz:=aB aM hz;have aS:=a_.out _ (gw B);have I2:=fun W=>IS W _ aS.1;simp only[decide_eq_true aS] at I2;clear aS aX;generalize q.map[k]=y at *;go_wp2_with fail;refine(I2 _).out.mono ?_;rintro e w2⟨rfl,rfl⟩;go_wp2;go_roundw
        case rel=>exact⟨k+1,by omega,rfl,(by first|rfl|trivial)⟩
        case measure=>simp[intOf];omega
       ·clear aX;go_wp2;go_roundw
        case rel=>
         refine⟨j+1,q.code,by omega,rfl,rfl,by omega,by omega,?_,?_,?_,af hE aM⟩
         ·intro r c;rw[HS.out,ie,gE] at c;rcases c with c|rfl
          ·have:=Q_.out r c;omega
          ·exact Int.le_refl _
         ·rw[HS.out,DF];refine⟨aw.out,⟨by simp,trivial⟩,fun r c q' bl=>?_⟩;rw[gE.1 bl];have:=Q_.out r c;omega
         ·intro r c;rw[HS.out,ie,gE] at c;rcases c with c|rfl
          ·exact al.out r c
          ·refine⟨aq.out _ (by rw[<-HL.out];simp),fun x l=>aq.out _ (by rw[<-HL.out];simp[l])⟩
        case measure=>simp[intOf];omega
  ·obtain rfl:n=j:=by omega
   rw[iu (by rw[HN.out];exact d' _)] at ai aj;have aw:=aa ai;have al:=aa aj;have H:=aB hE d0;have R:=aB hE d1;clear aW ai aj bt bn aD hj KI IS;obtain⟨w3,Y⟩:∃w',w'=wr:=⟨_,rfl⟩;subst Y;go_wp2_with fail;go_loopw [83] (fun iv w4=>∃j:Nat,j<=n∧iv=.int .i64 j∧(∀r∈T.take j,fQ T r.code)∧Below w3.heap.size w3 w4) (fun iv _=>n-(intOf iv).toNat)
   case atStart=>exact⟨0,ic _,rfl,by simp,gS _ _⟩
   case round=>
    obtain⟨j,hj,rfl,ad,lN⟩:=hrel;obtain⟨w4,Y⟩:∃w',w'=wr:=⟨_,rfl⟩;subst Y;have MJ:=af fT lN;by_cases aD:j<n
    ·have g:j<T.length:=by have:=HN.out;omega
     obtain⟨b,off,m,rfl,ar,K,J,I,M⟩:=HX.out j g;have K:=aB MJ K;have J:=aB MJ J;have I:=aB MJ I;have g0:=aB lN H;have g1:=aB lN R;obtain⟨nm,d⟩:=ae (T[j].map.length);obtain⟨am,cm,rfl,_,_⟩:=bG.nO M d;clear M d;have S:=(SS.out _ (gw g)).1.1;have HS:=aa (show T.take (j+1)=T.take j++[T[j]] from gR g);have Yp:=aa ad;generalize T[j]=q at *;have F1:=fun (W:World) (E:Below w4.heap.size w4 W)=>FU W (MJ.trans (E.mono MJ.size)) q.code S;have bF:(w4.alloc (.cells #[.int .i64 q.code,.int .i64 q.cls,.slice am nm cm] 78)).cell? ⟨w.heap.size,0,none⟩=some (.slice (some ⟨b,off,none⟩) n cap):=aB (ah _) g0;have bN:(w4.alloc (.cells #[.int .i64 q.code,.int .i64 q.cls,.slice am nm cm] 78)).cell? ⟨w.heap.size,1,none⟩=some (.slice ax nx cx):=aB (ah _) g1;clear ad FU PR H R ar g0 g1;by_cases hf:fQ T q.code
     ·simp only[decide_eq_true hf] at F1;go_wp2_with fail;refine(F1 _ (ah _)).out.mono ?_;rintro e w5⟨r5,rfl,_,h5⟩;go_wp2;go_roundw
      case rel=>exact⟨j+1,by omega,rfl,fun r c=>by
       rw[HS.out,ie,gE] at c;rcases c with c|rfl
       ·exact Yp.out r c
       ·exact hf,af lN (af (ah _) h5)⟩
      case measure=>simp[intOf];omega
     ·simp only[decide_eq_false hf] at F1;go_wp2_with fail;refine(F1 _ (ah _)).out.mono ?_;rintro e w5⟨r5,rfl,_,h5⟩;go_wp2;go_ret;exact⟨_,rfl,fun h=>by (first|cases h|simp at h),MJ.trans ((af (ah _) h5).mono MJ.size)⟩
    ·obtain rfl:n=j:=by omega
     rw[iu (by rw[HN.out];exact d' _)] at ad;have Yp:=aa ad;have H:=aB lN H;have R:=aB lN R;clear ad aD hj FU;have bh:=aa (show ∀r∈T,Prim T X r.code->r.map.length=2 from fun r c hp=>Bb aw.out c (by have:=(al.out r c).1;omega) hp)
     have HV:=aa (show(∀i (hi:i<T.length) k (hk:k<T.length),k<i->¬twice T X T[i] T[k])->aY T X from fun h=>
      ⟨fun r c=>⟨(SS.out r c).1,(SS.out r c).2.1,(SS.out r c).2.2.1,(al.out r c).1,fun x l=>⟨(al.out r c).2 x l,(SS.out r c).2.2.2 x l⟩⟩,aw.out,Yp.out,aa2 h⟩)
     go_wp2_with fail;go_loopw [100] (fun iv w5=>∃j:Nat,j<=n∧iv=.int .i64 j∧(∀i (hi:i<T.length) k (hk:k<T.length),i<j->k<i->¬twice T X T[i] T[k])∧Below w4.heap.size w4 w5) (fun iv _=>n-(intOf iv).toNat)
     case atStart=>exact⟨0,ic _,rfl,fun i _ k _ h=>by omega,gS _ _⟩
     case round=>
      obtain⟨j,hj,rfl,u,jP⟩:=hrel;obtain⟨w5,Y⟩:∃w',w'=wr:=⟨_,rfl⟩;subst Y;have XQ:=af MJ jP;by_cases aD:j<n
      ·have g:j<T.length:=by have:=HN.out;omega
       obtain⟨b,off,m,rfl,ar,K,J,I,M⟩:=HX.out j g;have K:=aB XQ K;have J:=aB XQ J;have I:=aB XQ I;have H:=aB jP H;have R:=aB jP R;have S:=(SS.out _ (gw g)).1.1;have ba:=gw g;have HJ:=aa (show ∀i (hi:i<T.length),i=j->T[i]=T[j] from fun i hi h=>by subst h;rfl);have Ur:=aa u;have HM:=aa (bh.out _ ba);generalize T[j]=q at *;obtain⟨nm,d⟩:=ae q.map.length;obtain⟨am,cm,rfl,_,N⟩:=bG.nO M d
       have Uc:=aa (show nm=2->∃U P,q.map=[U,P]∧∃V Q,am=some ⟨V,Q,none⟩∧w.cell? ⟨V,Q,none⟩=some (.int .i64 U)∧w.cell? ⟨V,Q+1,none⟩=some (.int .i64 P) from fun h2=>by
        obtain⟨U,P,D⟩:=QO d h2;obtain⟨V,Q,rfl,_,z0⟩:=N 0 (by omega);obtain⟨bw,bo,ao,_,z1⟩:=N 1 (by omega);cases ao;simp only[D] at z0 z1
        exact⟨U,P,D,V,Q,rfl,by simpa using z0,by simpa using z1⟩)
       have sN:=aa d;have bJ:j<=cap:=by omega
       obtain⟨W5,Ud⟩:=ae (w5.alloc (.cells #[.int .i64 q.code,.int .i64 q.cls,.slice am nm cm] 78));have h5:Below w5.heap.size w5 W5:=by subst Ud;exact ah _
       have bi:(w5.alloc (.cells #[.int .i64 q.code,.int .i64 q.cls,.slice am nm cm] 78)).cell? ⟨w.heap.size,0,none⟩=some (.slice (some ⟨b,off,none⟩) n cap):=aB (ah _) H;have q0:W5.cell? ⟨w5.heap.size,0,none⟩=some (.int .i64 q.code):=by subst Ud;unfold World.cell?;rw[heap_alloc_new];rfl
       have q2:W5.cell? ⟨w5.heap.size,2,none⟩=some (.slice am nm cm):=by subst Ud;unfold World.cell?;rw[heap_alloc_new];rfl
       have H:=aB h5 H;have R:=aB h5 R;have bc:=af XQ h5;clear u M d N ba ar;go_wp2_with fail;rw[<-Ud];clear Ud bi;go_loopw [110] (fun kv w6=>∃k:Nat,k<=j∧kv=.int .i64 k∧(∀G (C:G<T.length),G<k->¬twice T X q T[G])∧Below W5.heap.size W5 w6) (fun kv _=>j-(intOf kv).toNat)
       case atStart=>exact⟨0,ic _,rfl,fun G _ h=>by omega,gS _ _⟩
       case round=>
        clear K J I;obtain⟨k,aN,rfl,u,ji⟩:=hrel;obtain⟨w6,Y⟩:∃w',w'=wr:=⟨_,rfl⟩;subst Y;have aK:=af bc ji;by_cases bA:k<j
        ·have B:k<T.length:=by have:=HN.out;omega
         obtain⟨b',bx,m',ao,_,K,J,I,M⟩:=HX.out k B;cases ao;have K:=aB aK K;have J:=aB aK J;have I:=aB aK I;have bs:=(SS.out _ (gw B)).1.1;have aE:=aa u;have HK:=aa (show ∀i (hi:i<T.length),i=k->T[i]=T[k] from fun i hi h=>by subst h;rfl);generalize T[k]=p at *;obtain⟨np,Ux⟩:∃nm,nm=p.map.length:=⟨_,rfl⟩;obtain⟨ap,cp,rfl,_,aQ⟩:=bG.nO M Ux
         have ac:=aa (show np=2->∃U P,p.map=[U,P]∧∃V Q,ap=some ⟨V,Q,none⟩∧w.cell? ⟨V,Q,none⟩=some (.int .i64 U)∧w.cell? ⟨V,Q+1,none⟩=some (.int .i64 P) from fun h2=>by
          obtain⟨U,P,D⟩:=QO Ux h2;obtain⟨V,Q,rfl,_,z0⟩:=aQ 0 (by omega);obtain⟨bw,bo,ao,_,z1⟩:=aQ 1 (by omega);cases ao;simp only[D] at z0 z1
          exact⟨U,P,D,V,Q,rfl,by simpa using z0,by simpa using z1⟩)
         have Yj:=aa Ux;obtain⟨W6,ak⟩:=ae (w6.alloc (.cells #[.int .i64 p.code,.int .i64 p.cls,.slice ap np cp] 78));have h6:Below w6.heap.size w6 W6:=by subst ak;exact ah _
         have p0:W6.cell? ⟨w6.heap.size,0,none⟩=some (.int .i64 p.code):=by subst ak;unfold World.cell?;rw[heap_alloc_new];rfl
         have p2:W6.cell? ⟨w6.heap.size,2,none⟩=some (.slice ap np cp):=by subst ak;unfold World.cell?;rw[heap_alloc_new];rfl
         have Ej:=af ji h6;have H:=aB Ej H;have R:=aB Ej R;have q0:=aB Ej q0;have q2:=aB Ej q2;have XR:=af bc Ej
         have an:=aa (show ∀z,(z=true->twice T X q p)->(z=false->¬twice T X q p)->z=false->∀G (C:G<T.length),G<k+1->¬twice T X q T[G] from fun z _ h0 hz G C bd=>by
          by_cases h:G=k
          ·rw[HK.out G C h];exact h0 hz
          ·exact aE.out G C (by omega))
         clear u M Ux aQ aE HK;go_wp2_with fail;rw[<-ak];clear ak;have hq:=ag W6;have g0:=Gr.cell hq H;have g1:=Gr.cell hq R;have au:=Gr.cell hq q0;have aA:=Gr.cell hq q2;have aH:=Gr.cell hq p0;have av:=Gr.cell hq p2;have P1:=PR _ (XR.trans (hq.mono XR.size)) q.code S;have P2:=fun (W:World) (E:Below W6.heap.size W6 W)=>PR W (XR.trans (E.mono XR.size)) p.code bs;clear PR K J I;refine aC (Array.replicate 38 true) 38 0 mixed ?_;refine ay [0,1,2] 35 ?_;refine bC ?_
         iterate 3 (refine aZ rfl ?_)
         refine bD ?_
         iterate 3 (go_big_quiet_step (rfl))
         refine az ?_;refine aI 3 ?_;go_wp2_with fail;refine P1.out.mono ?_;rintro e w7⟨⟨p1,rfl,F⟩,h7⟩;go_wp2_with fail;refine aF h7 ?_;have A:=af hq h7;clear g0 g1 au aA aH av P1;have g0:=Gr.cell A H;have g1:=Gr.cell A R;have au:=Gr.cell A q0;have aA:=Gr.cell A q2;have aH:=Gr.cell A p0;have av:=Gr.cell A p2;cases p1 with
         | false=>
           have vI:=aa (show ¬twice T X q p from fun h=>by have:=F.2 h.1;cases this);clear P2 F ac Uc HM;refine ay [4,5,6,7] 30 ?_;refine bC ?_
           iterate 4 (refine aZ rfl ?_)
           refine bD ?_
           iterate 4 (go_big_quiet_step (rfl))
           refine az ?_;refine aI 8 ?_;go_wp2_with fail;refine aF (gS _ _) ?_;refine ay [9,10,11,12,13,14,15,16,17,18,19,20,21,22,23,24,25,26,27,28,29,30,31,32,33,34,35,36,37] 0 ?_;refine bC ?_
           iterate 29 (refine aZ rfl ?_)
           refine bD ?_
           iterate 29 (go_big_quiet_step (rfl))
           refine az ?_;refine aJ [] ?_;refine tail_nil ?_;go_wp2;go_roundw
           case rel=>exact⟨k+1,by omega,rfl,an.out false (fun h=>by cases h) (fun _=>vI.out) rfl,af Ej A⟩
           case measure=>simp[intOf];omega
         | true=>
           have P2:=P2 _ A;refine ay [4,5,6,7] 30 ?_;refine bC ?_
           iterate 4 (refine aZ rfl ?_)
           refine bD ?_
           iterate 4 (go_big_quiet_step (rfl))
           refine az ?_;refine aI 8 ?_;go_wp2_with fail;refine P2.out.mono ?_;rintro e w8⟨⟨bq,rfl,ab⟩,h8⟩;go_wp2_with fail;refine aF h8 ?_;have f:=af A h8;clear g0 g1 au aA aH av P2;have g0:=Gr.cell f H;have g1:=Gr.cell f R;have au:=Gr.cell f q0;have aA:=Gr.cell f q2;have aH:=Gr.cell f p0;have av:=Gr.cell f p2;cases bq with
           | false=>
             have vI:=aa (show ¬twice T X q p from fun h=>by have:=ab.2 h.2.1;cases this);clear F ab ac Uc HM;refine ay [9,10,11,12,13,14,15,16,17,18,19,20,21,22,23,24,25,26,27,28,29,30,31,32,33,34,35,36,37] 0 ?_;refine bC ?_
             iterate 29 (refine aZ rfl ?_)
             refine bD ?_
             iterate 29 (go_big_quiet_step (rfl))
             refine az ?_;refine aJ [] ?_;refine tail_nil ?_;go_wp2;go_roundw
             case rel=>exact⟨k+1,by omega,rfl,an.out false (fun h=>by cases h) (fun _=>vI.out) rfl,af Ej f⟩
             case measure=>simp[intOf];omega
           | true=>
             have TJ:nm=2:=sN.out.trans (HM.out (F.1 (by trivial)));by_cases aT:np=2
             ·obtain⟨U,P,D,V,Q,rfl,a3,a7⟩:=Uc.out TJ;obtain⟨x0,x1,l,bp,fp,rfl,bf,a6⟩:=ac.out aT;have kL:=af XR f;have bI:=Gr.cell kL a3;have bH:=Gr.cell kL a7;have bE:=Gr.cell kL bf;have bK:=Gr.cell kL a6
              have Yl:=aa (show twice T X q p↔x0=U∧x1=P from by
               unfold twice;rw[l,D];constructor
               ·rintro⟨_,_,_,h⟩;cases h;exact⟨rfl,rfl⟩
               ·rintro⟨rfl,rfl⟩;exact⟨F.1 (by trivial),ab.1 (by trivial),rfl,rfl⟩)
              subst TJ;subst aT;clear F ab ac Uc HM l D a3 a7 bf a6;by_cases bb:x0=U
              ·subst bb;by_cases a4:x1=P
               ·subst a4;refine ay [9,10,11,12,13,14,15,16,17,18,19,20,21,22,23,24,25,26,27,28,29,30,31,32,33,34,35,36,37] 0 ?_;refine bC ?_
                iterate 29 (refine aZ rfl ?_)
                refine bD ?_
                iterate 29 (go_big_quiet_step (rfl))
                refine az ?_;refine aJ [] ?_;refine tail_nil ?_;go_wp2;go_ret;exact⟨_,rfl,fun h=>by (first|cases h|simp at h),kL⟩
               ·have z:((x1:Int)==(P:Int))=false:=by simp;omega
                have vI:=aa (show ¬twice T X q p from fun h=>a4 (Yl.out.1 h).2);clear Yl;refine ay [9,10,11,12,13,14,15,16,17,18,19,20,21,22,23,24,25,26,27,28,29,30,31,32,33,34,35,36,37] 0 ?_;refine bC ?_
                iterate 29 (refine aZ rfl ?_)
                refine bD ?_
                iterate 29 (go_big_quiet_step (rfl))
                refine az ?_;refine aJ [] ?_;refine tail_nil ?_;go_wp2;go_roundw
                case rel=>exact⟨k+1,by omega,rfl,an.out false (fun h=>by cases h) (fun _=>vI.out) rfl,af Ej f⟩
                case measure=>simp[intOf];omega
              ·have z:((x0:Int)==(U:Int))=false:=by simp;omega
               have vI:=aa (show ¬twice T X q p from fun h=>bb (Yl.out.1 h).1);clear Yl;refine ay [9,10,11,12,13,14,15,16,17,18,19,20,21,22,23,24,25,26,27,28,29,30,31,32,33,34,35,36,37] 0 ?_;refine bC ?_
               iterate 29 (refine aZ rfl ?_)
               refine bD ?_
               iterate 29 (go_big_quiet_step (rfl))
               refine az ?_;refine aJ [] ?_;refine tail_nil ?_;go_wp2;go_roundw
               case rel=>exact⟨k+1,by omega,rfl,an.out false (fun h=>by cases h) (fun _=>vI.out) rfl,af Ej f⟩
               case measure=>simp[intOf];omega
             ·have z:((np:Int)==2)=false:=by simp;omega
              have vI:=aa (show ¬twice T X q p from fun h=>aT (Yj.out.trans h.2.2.1));clear F ab ac Uc HM;refine ay [9,10,11,12,13,14,15,16,17,18,19,20,21,22,23,24,25,26,27,28,29,30,31,32,33,34,35,36,37] 0 ?_;refine bC ?_
              iterate 29 (refine aZ rfl ?_)
              refine bD ?_
              iterate 29 (go_big_quiet_step (rfl))
              refine az ?_;refine aJ [] ?_;refine tail_nil ?_;go_wp2;go_roundw
              case rel=>exact⟨k+1,by omega,rfl,an.out false (fun h=>by cases h) (fun _=>vI.out) rfl,af Ej f⟩
              case measure=>simp[intOf];omega
        ·obtain rfl:j=k:=by omega
         have aE:=aa u;clear u;go_wp2;go_roundw
         case rel=>
          refine⟨j+1,by omega,rfl,fun i hi G C bL aL=>?_,af jP (af h5 ji)⟩;by_cases bu:i=j
          ·rw[HJ.out i hi bu];exact aE.out G C (by omega)
          ·exact Ur.out i hi G C (by omega) aL
         case measure=>simp[intOf];omega
      ·obtain rfl:n=j:=by omega
       have br:=aa (HV.out (fun i hi k hk aL=>u i hi k hk (by have:=HN.out;omega) aL));clear u HV PR bh;go_wp2;go_ret;exact⟨_,rfl,fun _=>br.out,XQ⟩
end Go.Proofs.YtmnimbnojdndmaaGreatDoor
