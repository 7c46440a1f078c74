/- CedillaProducts: where a text may be cut apart, it has as many texts that are alike as its two parts multiplied; no condition. -/
import Derived.Test.YtmpkfkoficehpaaGreatDoorQ09
import Derived.Handy
set_option maxRecDepth 100000
set_option maxHeartbeats 6400000
namespace Go.Proofs.YtmpkfkoficehpaaGreatDoor
open Go.RowKit Go.Cd
structure gB where
 code:Int
 cls:Int
 map:List Int
def Jq (w:World) (v:Value) (T:List gB):Prop:=
 ∃a cap,v=.slice a T.length cap∧T.length≤cap∧∀i (hi:i<T.length),∃b off m,a=some ⟨b,off,none⟩∧b<w.heap.size∧
  w.cell? ⟨b,off+i*3,none⟩=some (.int .i64 T[i].code)∧w.cell? ⟨b,off+i*3+1,none⟩=some (.int .i64 T[i].cls)∧w.cell? ⟨b,off+i*3+2,none⟩=some m∧bB w m (bJ T[i].map)
theorem Jq.mono {w w':World} {v:Value} {T:List gB} (h:Jq w v T) (hb:Below w.heap.size w w'):Jq w' v T:=by
 obtain ⟨a,cap,hv,hc,h⟩:=h;refine ⟨a,cap,hv,hc,fun i hi=>?_⟩;obtain ⟨b,off,m,ha,hbs,h1,h2,h3,h4⟩:=h i hi;exact ⟨b,off,m,ha,Nat.lt_of_lt_of_le hbs hb.size,aA hb h1,aA hb h2,aA hb h3,h4.mono hb⟩
def L9 (w:World) (v:Value) (T:List gB) (X:List Int):Prop:=∃r x,v=.agg #[r,x]∧Jq w r T∧bB w x (bJ X)
theorem L9.mono {w w':World} {v:Value} {T:List gB} {X:List Int} (h:L9 w v T X) (hb:Below w.heap.size w w'):L9 w' v T X:=by
 obtain ⟨r,x,hv,h1,h2⟩:=h;exact ⟨r,x,hv,h1.mono hb,h2.mono hb⟩
theorem bB.Jr {w:World} {v:Value} {l:List Int} {n:Nat} (h:bB w v (bJ l)) (hn:n=l.length):∃a cap,v=.slice a n cap∧n≤cap∧
 ∀i (hi:i<l.length),∃b off,a=some ⟨b,off,none⟩∧b<w.heap.size∧w.cell? ⟨b,off+i,none⟩=some (.int .i64 l[i]):=by
 subst hn;obtain ⟨a,cap,rfl,hc,hx⟩:=Go.Cd.bB.out h;have el:(bJ l).length=l.length:=eT _;refine ⟨a,cap,by rw [el],by omega,fun i hi=>?_⟩;obtain ⟨b,off,h1,h2,h3⟩:=hx i (by omega);exact ⟨b,off,h1,h2,by rw [h3];simp [bJ]⟩
abbrev eP:TypeId:=47
theorem nY:mR Tryz.prog 22 eP (.agg #[.int .i64 0,.int .i64 0,.slice none 0 0]) 3 40:=⟨rfl,Tryz.underlying22,info_parts (by kernel_rfl)⟩
def kU (p:gB×Value):List Value:=[.int .i64 p.1.code,.int .i64 p.1.cls,p.2]
def fe (p:aH×Value):List Value:=[.int .i64 p.1.code,.int .i64 p.1.cls,p.2]
structure lG (B:Nat) (w:World) (r:Value) (L:List (gB×Value)):Prop where
 rows:w.ownsRow B eP 3 r L.length (L.flatMap kU)
 maps:∀p∈L,w.ownsRow B bq 1 p.2 p.1.map.length (bJ p.1.map)
 apart:L.Pairwise fun p q=>wP p.2 q.2
 mE:∀p∈L,wP r p.2
 four:∀p∈L,p.1.map.length≤4
theorem lG.nil (B:Nat) (w:World):lG B w (.slice none 0 0) []:=⟨World.ownsRow_nil _ _ _ _,by simp,by simp,by simp,by simp⟩
theorem lG.kept {B:Nat} {w w':World} {r:Value} {L:List (gB×Value)} {row:Option Nat} (h:lG B w r L) (hg:w.grownBy w' row) (hr:∀k,row=some k→k<B):lG B w' r L:=by
 have H:∀{e:TypeId} {size:Nat} {v:Value} {n:Nat} {xs:List Value},w.ownsRow B e size v n xs→w'.ownsRow B e size v n xs:=by
  intro e size v n xs ho;refine ho.kept hg ?_;cases hk:v.ownBlock with
  | none=>exact .inl rfl
  | some k=>exact .inr fun e1=>by have:=(ho.lt k hk).1;have:=hr k e1.symm;omega
 exact ⟨H h.rows,fun p hp=>H (h.maps p hp),h.apart,h.mE,h.four⟩
theorem lG.ext {B:Nat} {w w':World} {r:Value} {L:List (gB×Value)} (h:lG B w r L) (hb:Below w.heap.size w w'):lG B w' r L:=
 ⟨aG h.rows hb,fun p hp=>aG (h.maps p hp) hb,h.apart,h.mE,h.four⟩
theorem lG.push {B:Nat} {w w':World} {r r' m:Value} {L:List (gB×Value)} {p:gB} (h:lG B w r L) (hm:w.ownsRow B bq 1 m p.map.length (bJ p.map)) (Ga:p.map.length≤4)
 (hnew:∀q∈L,wP q.2 m) (hrm:wP r m) (ho:w'.ownsRow B eP 3 r' (L.length+1) (L.flatMap kU++kU (p,m))) (hg:w.grownBy w' r.ownBlock) (hN:jV w r r'):lG B w' r' (L++[(p,m)]):=by
 refine ⟨by simpa using ho,?_,?_,?_,?_⟩
 ·intro q hq;rcases List.mem_append.1 hq with hq|hq
  ·exact (h.mE q hq).symm.stays (h.maps q hq) hg
  ·rw [List.mem_singleton.1 hq];exact hrm.symm.stays hm hg
 ·rw [List.pairwise_append];refine ⟨h.apart,by simp,fun q hq q' hq'=>?_⟩;rw [List.mem_singleton.1 hq'];exact hnew q hq
 ·intro q hq;rcases List.mem_append.1 hq with hq|hq
  ·exact ((h.mE q hq).symm.push (fun k hk=>((h.maps q hq).lt k hk).2) hN).symm
  ·rw [List.mem_singleton.1 hq];exact (hrm.symm.push (fun k hk=>(hm.lt k hk).2) hN).symm
 ·intro q hq;rcases List.mem_append.1 hq with hq|hq
  ·exact h.four q hq
  ·rw [List.mem_singleton.1 hq];exact Ga
theorem lZ {w:World} {B B' n n' s s':Nat} {e e':TypeId} {u v:Value} {xs ys:List Value} {w':World} (hu:w.ownsRow B e s u n xs) (hv:w'.ownsRow B' e' s' v n' ys) (h:w.heap.size≤B'):wP u v:=by
 intro k hk hk';have:=(hu.lt k hk).2;have:=(hv.lt k hk').1;omega
theorem lG.past {B:Nat} {w4 w w':World} {r:Value} {L:List (gB×Value)} {row:Option Nat} (h4:lG B w4 r L) (h:lG B w r L) (hg:w.grownBy w' row) (hr:∀k,row=some k→w4.heap.size≤k):lG B w' r L:=by
 have H:∀{e:TypeId} {size:Nat} {v:Value} {n:Nat} {xs:List Value},w4.ownsRow B e size v n xs→w.ownsRow B e size v n xs→w'.ownsRow B e size v n xs:=by
  intro e size v n xs ho4 ho;refine ho.kept hg ?_;cases hk:v.ownBlock with
  | none=>exact .inl rfl
  | some k=>exact .inr fun e1=>by have:=(ho4.lt k hk).2;have:=hr k e1.symm;omega
 exact ⟨H h4.rows h.rows,fun p hp=>H (h4.maps p hp) (h.maps p hp),h.apart,h.mE,h.four⟩
abbrev iP:TypeId:=25
theorem Zx {w:World} {v:Value} {T:List gB} {X:List Int} (h:L9 w v T X) :
 Calls Tryz.prog 53 #[v] w fun e w'=>∃r x L Y,e=.returned (.agg #[r,x])∧lG w.heap.size w' r L∧w'.ownsRow w.heap.size bq 1 x Y.length (ints Y)∧(∀p∈L,wP x p.2)∧L.length≤20∧Y.length≤30∧(∀y∈Y,aP y)∧Below w.heap.size w w':=by
 obtain ⟨r,x,rfl,⟨a,cap,rfl,_,hx⟩,h2⟩:=h;obtain ⟨nx,hnx⟩:∃n,n=X.length:=⟨_,rfl⟩;obtain ⟨ax,cx,rfl,_,hy⟩:=bB.Jr h2 hnx;obtain ⟨n,hn⟩:=ae T.length;rw [←hn];have HX:=aa hx;have HY:=aa hy;have HN:=aa hn;have HNX:=aa hnx;obtain ⟨W1,hW1⟩:=ae (w.alloc (.cells #[.slice a n cap,.slice ax nx cx] iP));obtain ⟨W2,hW2⟩:=ae (W1.alloc (.cells #[.slice none 0 0,.slice none 0 0] iP));obtain ⟨W0,hW⟩:=ae (W2.alloc (.cells #[.slice none 0 0,.slice none 0 0] iP));have e1:W1.heap.size=w.heap.size+1:=by rw [hW1];simp
 have e2:W2.heap.size=w.heap.size+2:=by rw [hW2];simp [e1]
 have e3:W0.heap.size=w.heap.size+3:=by rw [hW];simp [e2]
 have b1:Below w.heap.size w W1:=by rw [hW1];exact af _
 have b2:Below W1.heap.size W1 W2:=by rw [hW2];exact af _
 have b3:Below W2.heap.size W2 W0:=by rw [hW];exact af _
 have i1:Is W0 w.heap.size #[.slice a n cap,.slice ax nx cx] iP:=by
  have:Is W1 w.heap.size #[.slice a n cap,.slice ax nx cx] iP:=by rw [hW1];exact Is.new _ _ _
  exact (this.mono b2).mono b3
 have i2:Is W0 (w.heap.size+1) #[.slice none 0 0,.slice none 0 0] iP:=by
  have:Is W2 (w.heap.size+1) #[.slice none 0 0,.slice none 0 0] iP:=by rw [hW2];exact Is.new' _ _ _ _ e1.symm
  exact this.mono b3
 have i3:Is W0 (w.heap.size+2) #[.slice none 0 0,.slice none 0 0] iP:=by rw [hW];exact Is.new' _ _ _ _ e2.symm
 have b0:=ah (ah b1 b2) b3;rw [hW2,hW1] at hW;clear hx hy hn hnx h2 b1 b2 b3 e1 e2 hW1 hW2;go_enter Tryz.func53,Tryz.ntmps53;go_wp2_with fail;rw [←hW];clear hW;go_loopw [4] (fun iv wr=>∃(j:Nat) (L:List (gB×Value)) (rv:Value),j≤20∧iv=.int .i64 j∧L.length≤j∧lG (w.heap.size+3) wr rv L∧Is wr w.heap.size #[.slice a n cap,.slice ax nx cx] iP∧Is wr (w.heap.size+1) #[.slice none 0 0,.slice none 0 0] iP∧Is wr (w.heap.size+2) #[rv,.slice none 0 0] iP∧w.heap.size+3≤wr.heap.size∧Below w.heap.size w wr) (fun iv _=>20-(intOf iv).toNat)
 case atStart=>exact ⟨0,[],_,by decide,rfl,by decide,lG.nil _ _,i1,i2,i3,by omega,b0⟩
 case round=>
  clear i1 i2 i3 e3 b0;obtain ⟨j,L,rv,hj,rfl,RO,hF,k1,k2,k3,hsz,hB⟩:=hrel;have d0:=k1.at 0 rfl;have d1:=k1.at 1 rfl;by_cases hjn:j<n
  ·by_cases hj2:j<20
   ·have hjl:j<T.length:=by have:=HN.out;omega
    have zj:decide ((j:Int)<20)=true:=by simp;omega
    obtain ⟨b,off,m,rfl,hbs,c0,c1,c2,hm⟩:=HX.out j hjl;have c0:=aA hB c0;have c1:=aA hB c1;have c2:=aA hB c2;have hm:=hm.mono hB;generalize T[j]=q at *;obtain ⟨nm,hnm⟩:=ae q.map.length;obtain ⟨am,cm,rfl,_,hxm⟩:=bB.Jr hm hnm;have PS:=aa hxm;have qM:=aa hnm;have HF:=aa hF;have HY2:=HY;clear hm hxm hnm hF;have g0:=Gr.cell (ag wr) d0;have g1:=Gr.cell (ag wr) c0;have g2:=Gr.cell (ag wr) c1;go_wp2_with fail;refine aF #[true,true,true,true,true,true,true,true,true,true,true,true,true,true,true,true,false] 16 1 mixed (by rfl) ?_;refine ay [0,1,2,3,4,5,6,7,8,9,10,11,12,13,14] 1 rfl (by kernel_rfl) ?_;refine a_ ?_
    iterate 15 (refine aS rfl ?_)
    refine bf ?_
    iterate 15 (go_big_quiet_step (rfl))
    refine az ?_;refine aI 15 (by kernel_rfl) rfl ?_;go_wp2_with fail;refine aD (af _) ?_;refine aJ [16] (by kernel_rfl) ?_;refine tail_cons rfl ?_;go_wp2_with fail;refine tail_nil ?_;generalize wrap64 (wrap32 q.code)=C at *;obtain ⟨wo,jQ⟩:∃w',w'=wr:=⟨_,rfl⟩;subst jQ;obtain ⟨w5,Ku⟩:=ae ((wo.alloc (.cells #[.int .i64 C,.int .i64 q.cls,.slice none 0 0] eP)).drew);have jI:Below wo.heap.size wo w5:=by rw [Ku];exact ah (af _) (ag _)
    have r5:Is w5 wo.heap.size #[.int .i64 C,.int .i64 q.cls,.slice none 0 0] eP:=by rw [Ku];exact (Is.new _ _ _).mono (ag _)
    go_wp2_with fail;rw [←Ku];clear Ku g0 g1 g2 c0 c1;go_loopw [6] (fun kv w2=>∃(k:Nat) (M:List Int) (mv:Value),k≤4∧kv=.int .i64 k∧M.length≤k∧w2.ownsRow wo.heap.size bq 1 mv M.length (bJ M)∧Is w2 wo.heap.size #[.int .i64 C,.int .i64 q.cls,mv] eP∧Below wo.heap.size wo w2) (fun kv _=>4-(intOf kv).toNat)
    case atStart=>exact ⟨0,[],_,by decide,rfl,by decide,World.ownsRow_nil _ _ _ _,r5,jI⟩
    case round=>
     clear r5 jI;obtain ⟨k,M,mv,hk,rfl,hMk,hM,r2,hE⟩:=hrel;have c2:=aA hE c2;have e0:=aA hE d0;by_cases hkn:k<nm
     ·by_cases hk4:k<4
      ·have zk:decide ((k:Int)<4)=true:=by simp;omega
       have hkl:k<q.map.length:=by have:=qM.out;omega
       obtain ⟨bm,fm,rfl,_,hz⟩:=PS.out k hkl;have hz:=aA hE hz;generalize q.map[k]=y at *;have g0:=Gr.cell (ag wr) e0;have g1:=Gr.cell (ag wr) c2;have g2:=Gr.cell (ag wr) hz;have g3:=Gr.cell (ag wr) (r2.at 2 rfl);have hM2:=aa (aG hM (ag wr));have hE2:=aa (ah hE (ag wr));have R2:=aa (r2.mono (ag wr));obtain ⟨av,cv,rfl,_,_⟩:=ak hM;go_wp2_with fail;refine aF #[true,true,true,true,true,true,true,true,true,true,true,true,true,true,false,false,false] 14 3 mixed (by rfl) ?_;refine ay [0,1,2,3,4,5,6,7,8,9,10,11,12] 1 rfl (by kernel_rfl) ?_;refine a_ ?_
       iterate 13 (refine aS rfl ?_)
       refine bf ?_
       iterate 13 (go_big_quiet_step (rfl))
       refine az ?_;refine aI 13 (by kernel_rfl) rfl ?_;go_wp2_with fail;refine aD (af _) ?_;refine aJ [14,15,16] (by kernel_rfl) ?_;refine tail_cons rfl ?_;refine gF (W:=wr.drew) rfl _ _ 23 rfl wo.heap.size bq _ 8 jw (.slice av M.length cv) M.length (bJ M) rfl hM2.out _ rfl rfl (by omega) (by unfold maxLen;omega) wo hE2.out (Nat.le_refl _) ?_;intro v1 w3 o1 hb1 hal hg1;have R3:=((R2.out.mono (af _)).grown hg1 (Is.other (R2.out.mono (af _)) hal (by decide)));obtain ⟨a1,xZ,rfl,_,_⟩:=ak o1;have c3:=R3.at 2 rfl;have f3:=R3.frozen 2;refine tail_cons rfl ?_;go_wp2_with fail;refine tail_nil ?_;go_wp2;go_roundw
       case rel=>exact ⟨k+1,M++[wrap64 (wrap32 y)],_,by omega,rfl,by simp;omega,by
        have:=bn o1 (Is.other R3 o1 (by decide)) 2 (.slice a1 (M.length+1) xZ)
        simpa [bJ] using this,R3.set 2 _,aj hb1 (Nat.le_refl _)⟩
       case measure=>simp [intOf];omega
      ·have zk:decide ((k:Int)<4)=false:=by simp;omega
       have o3:=k3.mono hE;have Vg:=o3.at 0 rfl;have f30:=o3.frozen 0;have c50:=r2.at 0 rfl;have c51:=r2.at 1 rfl;have c52:=r2.at 2 rfl;have Wy:=HF.out.ext hE;obtain ⟨qd,qf,rfl,_,_⟩:=ak Wy.rows;obtain ⟨amv,cmv,rfl,_,_⟩:=ak hM
       have HP:=aa (fun (w3:World) (v1:Value) (ho:w3.ownsRow (w.heap.size+3) eP 3 v1 (L.length+1) (L.flatMap kU++kU (⟨C,q.cls,M⟩,.slice amv M.length cmv))) (hg:wr.grownBy w3 (Value.slice qd L.length qf).ownBlock) (hN:jV wr (.slice qd L.length qf) v1)=>
        lG.push (p:=⟨C,q.cls,M⟩) Wy (aV hM (by omega)) (by show M.length≤4;omega) (fun p hp=>lZ (HF.out.maps p hp) hM (Nat.le_refl _)) (lZ HF.out.rows hM (Nat.le_refl _)) ho hg hN)
       have HR:=aa Wy.rows;have hlen:=RO;clear Wy PS qM;go_wp2_with (at_builtin;go_loud (refine n_ (W:=wr) rfl _ _ 22 rfl (w.heap.size+3) eP _ 3 40 nY (by decide) (by decide) (by decide) (by decide) (.slice qd L.length qf) L.length (L.flatMap kU) rfl HR.out _ rfl rfl (by simp [Value.oneCell']) (by omega) wr (Below.refl _ _) (by have:=hE.size;omega) ?_);intro v1 w3 o1 hb1 hg1 hN1;have R3:=o3.low hb1 (by omega);have c31:=R3.at 0 rfl;have f31:=R3.frozen 0;obtain ⟨a1,xZ,rfl,_,_⟩:=ak o1);go_roundw
       case rel=>
        have Qg:Below w.heap.size w w3:=(hB.trans (hE.mono hB.size)).trans (hb1.mono (by omega))
        exact ⟨j+1,L++[(⟨C,q.cls,M⟩,.slice amv M.length cmv)],_,by omega,rfl,by simp;omega,(HP.out w3 _ o1 hg1 hN1).kept (bQ _ (w.heap.size+2) 0 _) (fun k hk=>by cases hk;omega),
         ((k1.mono hE).low hb1 (by omega)).put (by omega) _,((k2.mono hE).low hb1 (by omega)).put (by omega) _,R3.set 0 _,by have:=hE.size;have:=hb1.size;simp;omega,aj Qg (by omega)⟩
       case measure=>simp [intOf];omega
     ·have o3:=k3.mono hE;have Vg:=o3.at 0 rfl;have f30:=o3.frozen 0;have c50:=r2.at 0 rfl;have c51:=r2.at 1 rfl;have c52:=r2.at 2 rfl;have Wy:=HF.out.ext hE;obtain ⟨qd,qf,rfl,_,_⟩:=ak Wy.rows;obtain ⟨amv,cmv,rfl,_,_⟩:=ak hM
      have HP:=aa (fun (w3:World) (v1:Value) (ho:w3.ownsRow (w.heap.size+3) eP 3 v1 (L.length+1) (L.flatMap kU++kU (⟨C,q.cls,M⟩,.slice amv M.length cmv))) (hg:wr.grownBy w3 (Value.slice qd L.length qf).ownBlock) (hN:jV wr (.slice qd L.length qf) v1)=>
       lG.push (p:=⟨C,q.cls,M⟩) Wy (aV hM (by omega)) (by show M.length≤4;omega) (fun p hp=>lZ (HF.out.maps p hp) hM (Nat.le_refl _)) (lZ HF.out.rows hM (Nat.le_refl _)) ho hg hN)
      have HR:=aa Wy.rows;have hlen:=RO;clear Wy PS qM;go_wp2_with (at_builtin;go_loud (refine n_ (W:=wr) rfl _ _ 22 rfl (w.heap.size+3) eP _ 3 40 nY (by decide) (by decide) (by decide) (by decide) (.slice qd L.length qf) L.length (L.flatMap kU) rfl HR.out _ rfl rfl (by simp [Value.oneCell']) (by omega) wr (Below.refl _ _) (by have:=hE.size;omega) ?_);intro v1 w3 o1 hb1 hg1 hN1;have R3:=o3.low hb1 (by omega);have c31:=R3.at 0 rfl;have f31:=R3.frozen 0;obtain ⟨a1,xZ,rfl,_,_⟩:=ak o1);go_roundw
      case rel=>
       have Qg:Below w.heap.size w w3:=(hB.trans (hE.mono hB.size)).trans (hb1.mono (by omega))
       exact ⟨j+1,L++[(⟨C,q.cls,M⟩,.slice amv M.length cmv)],_,by omega,rfl,by simp;omega,(HP.out w3 _ o1 hg1 hN1).kept (bQ _ (w.heap.size+2) 0 _) (fun k hk=>by cases hk;omega),
        ((k1.mono hE).low hb1 (by omega)).put (by omega) _,((k2.mono hE).low hb1 (by omega)).put (by omega) _,R3.set 0 _,by have:=hE.size;have:=hb1.size;simp;omega,aj Qg (by omega)⟩
      case measure=>simp [intOf];omega
   ·have zj:decide ((j:Int)<20)=false:=by simp;omega
    obtain ⟨w4,jQ⟩:∃w',w'=wr:=⟨_,rfl⟩;subst jQ;have HF:=aa hF;clear hF;go_wp2_with fail;go_loopw [7] (fun kv w2=>∃(m:Nat) (Y:List Nat) (yv:Value),m≤30∧kv=.int .i64 m∧Y.length≤m∧(∀y∈Y,aP y)∧w2.ownsRow w4.heap.size bq 1 yv Y.length (ints Y)∧lG (w.heap.size+3) w2 rv L∧Is w2 w.heap.size #[.slice a n cap,.slice ax nx cx] iP∧Is w2 (w.heap.size+1) #[.slice none 0 0,.slice none 0 0] iP∧Is w2 (w.heap.size+2) #[rv,yv] iP∧w4.heap.size≤w2.heap.size∧Below w.heap.size w w2) (fun kv _=>30-(intOf kv).toNat)
    case atStart=>exact ⟨0,[],_,by decide,rfl,by decide,by simp,World.ownsRow_nil _ _ _ _,HF.out,k1,k2,k3,Nat.le_refl _,hB⟩
    case round=>
     clear k1 k2 k3 hB d0 d1;obtain ⟨m,Y,yv,hm,rfl,hYm,DY,hY,hF2,k1,k2,k3,hs4,hB⟩:=hrel;have d1:=k1.at 1 rfl;by_cases Gb:m<nx
     ·by_cases Xa:m<30
      ·have zm:decide ((m:Int)<30)=true:=by simp;omega
       have kX:m<X.length:=by have:=HNX.out;omega
       obtain ⟨bx,fx,rfl,_,hz⟩:=HY.out m kX;have hz:=aA hB hz;generalize X[m]=x at *;have CH:=aa (fun W=>jq (w:=W) x);have hch:=(qo (x:=(x % 2097152).toNat));have Qd:=hch.1;have NK:=aa hch;generalize kz (x % 2097152).toNat=ch at *;have g1:=Gr.cell (ag wr) d1;have g2:=Gr.cell (ag wr) hz;have g3:=Gr.cell (ag wr) (k3.at 1 rfl);obtain ⟨uT,uU,rfl,_,_⟩:=ak hY;have XG:=aa hF2;have JI:=aa DY;clear hF2 DY hch;go_wp2_with fail;refine aF #[true,true,true,true,true,true,true,true,true,true,false,false,false] 10 3 mixed (by rfl) ?_;refine ay [0,1,2,3,4,5,6] 3 rfl (by kernel_rfl) ?_;refine a_ ?_
       iterate 7 (refine aS rfl ?_)
       refine bf ?_
       iterate 7 (go_big_quiet_step (rfl))
       refine az ?_;refine aI 7 (by kernel_rfl) rfl ?_;go_wp2_with fail;refine (CH.out _).mono ?_;rintro e k1w ⟨rfl,rfl⟩;go_wp2_with fail;refine aD (Below.refl _ _) ?_;refine ay [8] 1 rfl (by kernel_rfl) ?_
       iterate 1 (refine aB rfl ?_;go_big_quiet_step (rfl))
       refine az ?_;refine aI 9 (by kernel_rfl) rfl ?_;go_wp2_with fail;refine aD (af _) ?_;refine aJ [10,11,12] (by kernel_rfl) ?_;refine tail_cons rfl ?_;refine gF (W:=wr.drew) rfl _ _ 23 rfl w4.heap.size bq _ 8 jw (.slice uT Y.length uU) Y.length (ints Y) rfl (aG hY (ag wr)) _ rfl rfl (by omega) (by unfold maxLen;omega) wr.drew (Below.refl _ _) hs4 ?_;intro v1 w3 o1 hb1 hal hg1;have hex:Below wr.heap.size wr (wr.drew.alloc (.cells #[.int .i64 (ch:Nat)] bq)):=ah (ag wr) (af _);have hlow:∀k,(Value.slice uT Y.length uU).ownBlock=some k→w4.heap.size≤k:=fun k hk=>(hY.lt k hk).1;have hbw:Below w4.heap.size wr w3:=((ag wr).mono hs4).trans hb1;have K1:=k1.low hbw (by omega);have K2:=k2.low hbw (by omega);have K3:=k3.low hbw (by omega);obtain ⟨a1,xZ,rfl,_,_⟩:=ak o1;have c3:=K3.at 1 rfl;have f3:=K3.frozen 1;refine tail_cons rfl ?_;go_wp2_with fail;refine tail_nil ?_;go_wp2;go_roundw
       case rel=>
        refine ⟨m+1,Y++[ch],_,by omega,rfl,by simp;omega,?_,?_,?_,K1.put (by omega) _,K2.put (by omega) _,K3.set 1 _,by have:=hbw.size;simp;omega,aj (hB.trans (hbw.mono (by omega))) (by omega)⟩
        ·intro y hy;rcases List.mem_append.1 hy with h|h
         ·exact JI.out y h
         ·rw [List.mem_singleton.1 h];exact NK.out
        ·have:=bn o1 (aae o1 (k:=w.heap.size+2) (by omega)) 1 (.slice a1 (Y.length+1) xZ);simpa [ints] using this
        ·exact ((HF.out.past (XG.out.ext hex) hg1 hlow).kept (bQ _ (w.heap.size+2) 1 _) (fun k hk=>by cases hk;omega))
       case measure=>simp [intOf];omega
      ·have zm:decide ((m:Int)<30)=false:=by simp;omega
       have e0:=k3.at 0 rfl;have e1:=k3.at 1 rfl;have s0:=k2.at 0 rfl;have s1:=k2.at 1 rfl;have t0:=k2.frozen 0;have t1:=k2.frozen 1;obtain ⟨uT,uU,rfl,_,_⟩:=ak hY;obtain ⟨qd,qf,rfl,_,_⟩:=ak hF2.rows;have u1:=fun u=>(k2.set 0 u).at 1 rfl;have u2:=fun u=>(k2.set 0 u).frozen 1;have K:=(k2.set 0 (.slice qd L.length qf)).set 1 (.slice uT Y.length uU);have v0:=K.at 0 rfl;have v1:=K.at 1 rfl;have Aj:=aa ((hF2.kept (bQ _ (w.heap.size+1) 0 (.slice qd L.length qf)) (fun k hk=>by cases hk;omega)).kept (bQ _ (w.heap.size+1) 1 (.slice uT Y.length uU)) (fun k hk=>by cases hk;omega));have Wz:=aa (bn (bn hY (aae hY (k:=w.heap.size+1) (by omega)) 0 (.slice qd L.length qf)) (aae (bn hY (aae hY (k:=w.heap.size+1) (by omega)) 0 (.slice qd L.length qf)) (k:=w.heap.size+1) (by omega)) 1 (.slice uT Y.length uU));have HA:=aa (fun (p:gB×Value) (hp:p∈L)=>(lZ (HF.out.maps p hp) hY (Nat.le_refl _)).symm);have JI:=aa DY;have HB:=aa (aj (aj hB (b:=w.heap.size+1) (off:=0) (u:=.slice qd L.length qf) (by omega)) (b:=w.heap.size+1) (off:=1) (u:=.slice uT Y.length uU) (by omega));clear hY hF2 DY hB HF;go_wp2
       (try simp only [Exit.inBlock,Exit.then])
       refine bodyPost_ret (v:=.agg #[.slice qd L.length qf,.slice uT Y.length uU]) (by simp [results,Tryz.results53,go_sem,v0,v1]) rfl ?_;exact ⟨_,_,L,Y,rfl,⟨aV Aj.out.rows (by omega),fun p hp=>aV (Aj.out.maps p hp) (by omega),Aj.out.apart,Aj.out.mE,Aj.out.four⟩,aV Wz.out (by omega),HA.out,by omega,by omega,JI.out,HB.out⟩
     ·have e0:=k3.at 0 rfl;have e1:=k3.at 1 rfl;have s0:=k2.at 0 rfl;have s1:=k2.at 1 rfl;have t0:=k2.frozen 0;have t1:=k2.frozen 1;obtain ⟨uT,uU,rfl,_,_⟩:=ak hY;obtain ⟨qd,qf,rfl,_,_⟩:=ak hF2.rows;have u1:=fun u=>(k2.set 0 u).at 1 rfl;have u2:=fun u=>(k2.set 0 u).frozen 1;have K:=(k2.set 0 (.slice qd L.length qf)).set 1 (.slice uT Y.length uU);have v0:=K.at 0 rfl;have v1:=K.at 1 rfl;have Aj:=aa ((hF2.kept (bQ _ (w.heap.size+1) 0 (.slice qd L.length qf)) (fun k hk=>by cases hk;omega)).kept (bQ _ (w.heap.size+1) 1 (.slice uT Y.length uU)) (fun k hk=>by cases hk;omega));have Wz:=aa (bn (bn hY (aae hY (k:=w.heap.size+1) (by omega)) 0 (.slice qd L.length qf)) (aae (bn hY (aae hY (k:=w.heap.size+1) (by omega)) 0 (.slice qd L.length qf)) (k:=w.heap.size+1) (by omega)) 1 (.slice uT Y.length uU));have HA:=aa (fun (p:gB×Value) (hp:p∈L)=>(lZ (HF.out.maps p hp) hY (Nat.le_refl _)).symm);have JI:=aa DY;have HB:=aa (aj (aj hB (b:=w.heap.size+1) (off:=0) (u:=.slice qd L.length qf) (by omega)) (b:=w.heap.size+1) (off:=1) (u:=.slice uT Y.length uU) (by omega));clear hY hF2 DY hB HF;go_wp2
      (try simp only [Exit.inBlock,Exit.then])
      refine bodyPost_ret (v:=.agg #[.slice qd L.length qf,.slice uT Y.length uU]) (by simp [results,Tryz.results53,go_sem,v0,v1]) rfl ?_;exact ⟨_,_,L,Y,rfl,⟨aV Aj.out.rows (by omega),fun p hp=>aV (Aj.out.maps p hp) (by omega),Aj.out.apart,Aj.out.mE,Aj.out.four⟩,aV Wz.out (by omega),HA.out,by omega,by omega,JI.out,HB.out⟩
  ·obtain ⟨w4,jQ⟩:∃w',w'=wr:=⟨_,rfl⟩;subst jQ;have HF:=aa hF;clear hF;go_wp2_with fail;go_loopw [7] (fun kv w2=>∃(m:Nat) (Y:List Nat) (yv:Value),m≤30∧kv=.int .i64 m∧Y.length≤m∧(∀y∈Y,aP y)∧w2.ownsRow w4.heap.size bq 1 yv Y.length (ints Y)∧lG (w.heap.size+3) w2 rv L∧Is w2 w.heap.size #[.slice a n cap,.slice ax nx cx] iP∧Is w2 (w.heap.size+1) #[.slice none 0 0,.slice none 0 0] iP∧Is w2 (w.heap.size+2) #[rv,yv] iP∧w4.heap.size≤w2.heap.size∧Below w.heap.size w w2) (fun kv _=>30-(intOf kv).toNat)
   case atStart=>exact ⟨0,[],_,by decide,rfl,by decide,by simp,World.ownsRow_nil _ _ _ _,HF.out,k1,k2,k3,Nat.le_refl _,hB⟩
   case round=>
    clear k1 k2 k3 hB d0 d1;obtain ⟨m,Y,yv,hm,rfl,hYm,DY,hY,hF2,k1,k2,k3,hs4,hB⟩:=hrel;have d1:=k1.at 1 rfl;by_cases Gb:m<nx
    ·by_cases Xa:m<30
     ·have zm:decide ((m:Int)<30)=true:=by simp;omega
      have kX:m<X.length:=by have:=HNX.out;omega
      obtain ⟨bx,fx,rfl,_,hz⟩:=HY.out m kX;have hz:=aA hB hz;generalize X[m]=x at *;have CH:=aa (fun W=>jq (w:=W) x);have hch:=(qo (x:=(x % 2097152).toNat));have Qd:=hch.1;have NK:=aa hch;generalize kz (x % 2097152).toNat=ch at *;have g1:=Gr.cell (ag wr) d1;have g2:=Gr.cell (ag wr) hz;have g3:=Gr.cell (ag wr) (k3.at 1 rfl);obtain ⟨uT,uU,rfl,_,_⟩:=ak hY;have XG:=aa hF2;have JI:=aa DY;clear hF2 DY hch;go_wp2_with fail;refine aF #[true,true,true,true,true,true,true,true,true,true,false,false,false] 10 3 mixed (by rfl) ?_;refine ay [0,1,2,3,4,5,6] 3 rfl (by kernel_rfl) ?_;refine a_ ?_
      iterate 7 (refine aS rfl ?_)
      refine bf ?_
      iterate 7 (go_big_quiet_step (rfl))
      refine az ?_;refine aI 7 (by kernel_rfl) rfl ?_;go_wp2_with fail;refine (CH.out _).mono ?_;rintro e k1w ⟨rfl,rfl⟩;go_wp2_with fail;refine aD (Below.refl _ _) ?_;refine ay [8] 1 rfl (by kernel_rfl) ?_
      iterate 1 (refine aB rfl ?_;go_big_quiet_step (rfl))
      refine az ?_;refine aI 9 (by kernel_rfl) rfl ?_;go_wp2_with fail;refine aD (af _) ?_;refine aJ [10,11,12] (by kernel_rfl) ?_;refine tail_cons rfl ?_;refine gF (W:=wr.drew) rfl _ _ 23 rfl w4.heap.size bq _ 8 jw (.slice uT Y.length uU) Y.length (ints Y) rfl (aG hY (ag wr)) _ rfl rfl (by omega) (by unfold maxLen;omega) wr.drew (Below.refl _ _) hs4 ?_;intro v1 w3 o1 hb1 hal hg1;have hex:Below wr.heap.size wr (wr.drew.alloc (.cells #[.int .i64 (ch:Nat)] bq)):=ah (ag wr) (af _);have hlow:∀k,(Value.slice uT Y.length uU).ownBlock=some k→w4.heap.size≤k:=fun k hk=>(hY.lt k hk).1;have hbw:Below w4.heap.size wr w3:=((ag wr).mono hs4).trans hb1;have K1:=k1.low hbw (by omega);have K2:=k2.low hbw (by omega);have K3:=k3.low hbw (by omega);obtain ⟨a1,xZ,rfl,_,_⟩:=ak o1;have c3:=K3.at 1 rfl;have f3:=K3.frozen 1;refine tail_cons rfl ?_;go_wp2_with fail;refine tail_nil ?_;go_wp2;go_roundw
      case rel=>
       refine ⟨m+1,Y++[ch],_,by omega,rfl,by simp;omega,?_,?_,?_,K1.put (by omega) _,K2.put (by omega) _,K3.set 1 _,by have:=hbw.size;simp;omega,aj (hB.trans (hbw.mono (by omega))) (by omega)⟩
       ·intro y hy;rcases List.mem_append.1 hy with h|h
        ·exact JI.out y h
        ·rw [List.mem_singleton.1 h];exact NK.out
       ·have:=bn o1 (aae o1 (k:=w.heap.size+2) (by omega)) 1 (.slice a1 (Y.length+1) xZ);simpa [ints] using this
       ·exact ((HF.out.past (XG.out.ext hex) hg1 hlow).kept (bQ _ (w.heap.size+2) 1 _) (fun k hk=>by cases hk;omega))
      case measure=>simp [intOf];omega
     ·have zm:decide ((m:Int)<30)=false:=by simp;omega
      have e0:=k3.at 0 rfl;have e1:=k3.at 1 rfl;have s0:=k2.at 0 rfl;have s1:=k2.at 1 rfl;have t0:=k2.frozen 0;have t1:=k2.frozen 1;obtain ⟨uT,uU,rfl,_,_⟩:=ak hY;obtain ⟨qd,qf,rfl,_,_⟩:=ak hF2.rows;have u1:=fun u=>(k2.set 0 u).at 1 rfl;have u2:=fun u=>(k2.set 0 u).frozen 1;have K:=(k2.set 0 (.slice qd L.length qf)).set 1 (.slice uT Y.length uU);have v0:=K.at 0 rfl;have v1:=K.at 1 rfl;have Aj:=aa ((hF2.kept (bQ _ (w.heap.size+1) 0 (.slice qd L.length qf)) (fun k hk=>by cases hk;omega)).kept (bQ _ (w.heap.size+1) 1 (.slice uT Y.length uU)) (fun k hk=>by cases hk;omega));have Wz:=aa (bn (bn hY (aae hY (k:=w.heap.size+1) (by omega)) 0 (.slice qd L.length qf)) (aae (bn hY (aae hY (k:=w.heap.size+1) (by omega)) 0 (.slice qd L.length qf)) (k:=w.heap.size+1) (by omega)) 1 (.slice uT Y.length uU));have HA:=aa (fun (p:gB×Value) (hp:p∈L)=>(lZ (HF.out.maps p hp) hY (Nat.le_refl _)).symm);have JI:=aa DY;have HB:=aa (aj (aj hB (b:=w.heap.size+1) (off:=0) (u:=.slice qd L.length qf) (by omega)) (b:=w.heap.size+1) (off:=1) (u:=.slice uT Y.length uU) (by omega));clear hY hF2 DY hB HF;go_wp2
      (try simp only [Exit.inBlock,Exit.then])
      refine bodyPost_ret (v:=.agg #[.slice qd L.length qf,.slice uT Y.length uU]) (by simp [results,Tryz.results53,go_sem,v0,v1]) rfl ?_;exact ⟨_,_,L,Y,rfl,⟨aV Aj.out.rows (by omega),fun p hp=>aV (Aj.out.maps p hp) (by omega),Aj.out.apart,Aj.out.mE,Aj.out.four⟩,aV Wz.out (by omega),HA.out,by omega,by omega,JI.out,HB.out⟩
    ·have e0:=k3.at 0 rfl;have e1:=k3.at 1 rfl;have s0:=k2.at 0 rfl;have s1:=k2.at 1 rfl;have t0:=k2.frozen 0;have t1:=k2.frozen 1;obtain ⟨uT,uU,rfl,_,_⟩:=ak hY;obtain ⟨qd,qf,rfl,_,_⟩:=ak hF2.rows;have u1:=fun u=>(k2.set 0 u).at 1 rfl;have u2:=fun u=>(k2.set 0 u).frozen 1;have K:=(k2.set 0 (.slice qd L.length qf)).set 1 (.slice uT Y.length uU);have v0:=K.at 0 rfl;have v1:=K.at 1 rfl;have Aj:=aa ((hF2.kept (bQ _ (w.heap.size+1) 0 (.slice qd L.length qf)) (fun k hk=>by cases hk;omega)).kept (bQ _ (w.heap.size+1) 1 (.slice uT Y.length uU)) (fun k hk=>by cases hk;omega));have Wz:=aa (bn (bn hY (aae hY (k:=w.heap.size+1) (by omega)) 0 (.slice qd L.length qf)) (aae (bn hY (aae hY (k:=w.heap.size+1) (by omega)) 0 (.slice qd L.length qf)) (k:=w.heap.size+1) (by omega)) 1 (.slice uT Y.length uU));have HA:=aa (fun (p:gB×Value) (hp:p∈L)=>(lZ (HF.out.maps p hp) hY (Nat.le_refl _)).symm);have JI:=aa DY;have HB:=aa (aj (aj hB (b:=w.heap.size+1) (off:=0) (u:=.slice qd L.length qf) (by omega)) (b:=w.heap.size+1) (off:=1) (u:=.slice uT Y.length uU) (by omega));clear hY hF2 DY hB HF;go_wp2
     (try simp only [Exit.inBlock,Exit.then])
     refine bodyPost_ret (v:=.agg #[.slice qd L.length qf,.slice uT Y.length uU]) (by simp [results,Tryz.results53,go_sem,v0,v1]) rfl ?_;exact ⟨_,_,L,Y,rfl,⟨aV Aj.out.rows (by omega),fun p hp=>aV (Aj.out.maps p hp) (by omega),Aj.out.apart,Aj.out.mE,Aj.out.four⟩,aV Wz.out (by omega),HA.out,by omega,by omega,JI.out,HB.out⟩
theorem Fb {c:List Nat} {i:Nat} (hi:i<c.length) {x:Nat}:x∈c.take (i+1)↔x∈c.take i∨x=c[i]:=by
 rw [List.take_succ_eq_append_getElem hi,List.mem_append,List.mem_singleton]
theorem L_ {w:World} {v:Value} {l:List Nat} (h:bB w v (ints l)) (hmax:l.length<1000000) (t:Nat) :
 Calls Tryz.prog 109 #[v,.int .i64 t] w fun e w'=>e=.returned (.bool (decide (t∈l)))∧Below w.heap.size w w':=by
 obtain ⟨n,hn⟩:=ae l.length;obtain ⟨a,cap,rfl,_,hx⟩:=bB.kD h hn;have HX:=aa hx;have HN:=aa hn;have Gb:n<1000000:=by omega
 clear h hx hn;go_enter Tryz.func109,Tryz.ntmps109;go_wp2_with fail;go_loopw [9] (fun i wr=>∃j:Nat,j≤n∧i=.int .i64 j∧t∉l.take j∧wr=w) (fun i _=>n-(intOf i).toNat)
 case atStart=>exact ⟨0,Nat.zero_le _,rfl,by simp,rfl⟩
 case round=>
  obtain ⟨j,hj,rfl,hm,rfl⟩:=hrel;by_cases hjn:j<n
  ·have hjl:j<l.length:=by have:=HN.out;omega
   obtain ⟨b,off,rfl,_,hc⟩:=HX.out j hjl;have HM:=aa hm;have HT:=aa (Fb (c:=l) hjl (x:=t));have HE:=aa (List.getElem_mem hjl);generalize l[j]=s at *;clear hm;by_cases hst:s=t
   ·subst hst;have HR:=aa (decide_eq_true HE.out);have z:((s:Int)==s)=true:=by simp
    go_wp2;go_ret;exact ⟨dX HR.out.symm,Below.refl _ _⟩
   ·have z:((s:Int)==t)=false:=by simp;omega
    go_wp2;go_roundw
    case rel=>exact ⟨j+1,by omega,rfl,fun h=>(HT.out.1 h).elim HM.out (fun e=>hst e.symm),trivial⟩
    case measure=>simp [intOf];omega
  ·obtain rfl:j=n:=by omega
   have HR:=aa (decide_eq_false (fun h=>hm (by rw [HN.out,List.take_length];exact h)):decide (t∈l)=false);go_wp2;go_ret;exact ⟨dX HR.out.symm,Below.refl _ _⟩
theorem xX {w:World} {v:Value} {T:List aH} {X:List Nat} (h:iV w v T X) (c:Nat) (hc:c<1114112) (hmax:T.length<1000000) (hX:X.length<1000000) :
 Calls Tryz.prog 79 #[v,.int .i64 c] w fun e w'=>(∃p:Bool,e=.returned (.bool p)∧(p=true↔Prim T X c))∧Below w.heap.size w w':=by
 have HT:=aa h;obtain ⟨r,x,rfl,⟨a,cap,rfl,_⟩,h2⟩:=h;obtain ⟨ax,cx,rfl,_,_⟩:=Go.Cd.bB.out h2;obtain ⟨nt,hnt⟩:∃n,n=T.length:=⟨_,rfl⟩;obtain ⟨nx,hnx⟩:∃n,n=(ints X).length:=⟨_,rfl⟩;rw [←hnt,←hnx] at HT ⊢;rw [←hnx] at h2;have Sg:=aa h2;have hb:=af (w:=w) (.cells #[.slice a nt cap,.slice ax nx cx] 25);have d0:(w.alloc (.cells #[.slice a nt cap,.slice ax nx cx] 25)).cell? ⟨w.heap.size,0,none⟩=some (.slice a nt cap):=by unfold World.cell?;rw [heap_alloc_new];rfl
 have d1:(w.alloc (.cells #[.slice a nt cap,.slice ax nx cx] 25)).cell? ⟨w.heap.size,1,none⟩=some (.slice ax nx cx):=by unfold World.cell?;rw [heap_alloc_new];rfl
 obtain ⟨W0,hW⟩:=ae (w.alloc (.cells #[.slice a nt cap,.slice ax nx cx] 25));rw [←hW] at hb d0 d1;have PA:=aa (qY (w:=W0) c hc);have CL:=fun (W:World) (E:Below w.heap.size w W) (y:Nat)=>aa (rf (HT.out.mono E) y hmax);have MP:=fun (W:World) (E:Below w.heap.size w W)=>aa (wN (HT.out.mono E) c hc hmax);have IN:=fun (W:World) (E:Below w.heap.size w W)=>aa (L_ (Sg.out.mono E) hX c);clear h2 hnt hnx;by_cases h4:4≤hk c
 ·have hp:0<(hparts c).length:=List.length_pos_iff.2 (fun h=>by have:=gP.1 h;omega);have Ns:=aa (show Prim T X c from .inl h4);generalize hparts c=P at *;clear h4 CL MP IN;go_enter Tryz.func79,Tryz.ntmps79;go_wp2_with fail;rw [←hW];clear hW;refine PA.out.mono ?_;rintro e w1 ⟨r1,rfl,o1,h1⟩;have hE1:=hb.trans (h1.mono hb.size);obtain ⟨n1,hn1⟩:∃n,n=P.length:=⟨_,rfl⟩;obtain ⟨a1,c1,rfl,_,_⟩:=bB.kD (Sl.aW o1).any hn1;have hp1:0<n1:=by omega
  clear PA o1 hn1 hp;go_wp2;go_ret;exact ⟨⟨true,rfl,fun _=>Ns.out,fun _=>rfl⟩,hE1⟩
 ·rw [gP.2 (by omega)] at PA;go_enter Tryz.func79,Tryz.ntmps79;go_wp2_with fail;rw [←hW];clear hW;refine PA.out.mono ?_;rintro e w1 ⟨r1,rfl,o1,h1⟩;have hE1:=hb.trans (h1.mono hb.size);obtain ⟨a1,c1,rfl,_,_⟩:=bB.kD (n:=0) (Sl.aW o1).any rfl;have e0:=aA h1 d0;have e1:=aA h1 d1;have M1:=MP _ hE1;clear PA o1 MP;go_wp2_with fail;refine M1.out.mono ?_;rintro e w2 ⟨r2,rfl,s2,h2⟩;have hE2:=hE1.trans (h2.mono hE1.size);have e0:=aA h2 e0;have e1:=aA h2 e1;obtain ⟨m,hm⟩:=ae (mapOf T c);rw [←hm] at s2;obtain ⟨nm,hnm⟩:∃n,n=m.length:=⟨_,rfl⟩;obtain ⟨a2,c2,rfl,_,hx2⟩:=bB.kD s2 hnm;have hq:=ag w2;have g0:=Gr.cell hq e0;have g1:=Gr.cell hq e1;have hEq:=hE2.trans (hq.mono hE2.size);clear M1 s2;by_cases hm2:nm=2
  ·subst hm2;obtain ⟨a0,b0,hab⟩:∃a0 b0,m=[a0,b0]:=by
    match m,hnm with
    | [a0,b0],_=>exact ⟨a0,b0,rfl⟩
   subst hab;obtain ⟨b2,f2,rfl,_,hz2⟩:=hx2 0 (by simp);have hz2:w2.cell? ⟨b2,f2,none⟩=some (.int .i64 a0):=by simpa using hz2
   have g2:=Gr.cell hq hz2;have K0:=CL _ hEq c;obtain ⟨k0,hk0⟩:∃k,k=ai T c:=⟨_,rfl⟩;obtain ⟨k1,hk1⟩:∃k,k=ai T a0:=⟨_,rfl⟩;have K1:=fun (W:World) (E:Below w.heap.size w W)=>CL W E a0;rw [←hk0] at K0;simp only [←hk1] at K1;by_cases hc0:k0=0
   ·by_cases hc1:k1=0
    ·have Ns:=aa (show Prim T X c↔c∉X by
      constructor
      ·rintro (h|⟨a,b,h,_,_,h3⟩)
       ·exact absurd h h4
       ·exact h3
      ·intro h;exact .inr ⟨a0,b0,hm.symm,by rw [←hk0,hc0],by rw [←hk1,hc1],h⟩)
     subst hc0;subst hc1;clear hx2 hnm hm CL h4 hk0 hk1;go_wp2_with fail;refine aF (Array.replicate 25 true) 25 0 mixed (by rfl) ?_;refine ay [0,1,2,3,4,5] 19 rfl (by kernel_rfl) ?_;refine a_ ?_
     iterate 6 (refine aS rfl ?_)
     refine bf ?_
     iterate 6 (go_big_quiet_step (rfl))
     refine az ?_;refine aI 6 (by kernel_rfl) rfl ?_;go_wp2_with fail;refine K0.out.mono ?_;rintro e w3 ⟨rfl,h3⟩;go_wp2_with fail;refine aD h3 ?_;have hq3:=ah hq h3;have kY:=hE2.trans (hq3.mono hE2.size);have g0:=Gr.cell hq3 e0;have g1:=Gr.cell hq3 e1;have g2:=Gr.cell hq3 hz2;refine ay [7,8,9,10,11,12,13] 11 rfl (by kernel_rfl) ?_;refine a_ ?_
     iterate 7 (refine aS rfl ?_)
     refine bf ?_
     iterate 7 (go_big_quiet_step (rfl))
     refine az ?_;have K1':=K1 _ kY;refine aI 14 (by kernel_rfl) rfl ?_;go_wp2_with fail;refine K1'.out.mono ?_;rintro e w4 ⟨rfl,h4'⟩;go_wp2_with fail;refine aD h4' ?_;have hq4:=ah hq3 h4';have kZ:=hE2.trans (hq4.mono hE2.size);have g0:=Gr.cell hq4 e0;have g1:=Gr.cell hq4 e1;have g2:=Gr.cell hq4 hz2;refine ay [15,16,17,18,19,20] 4 rfl (by kernel_rfl) ?_;refine a_ ?_
     iterate 6 (refine aS rfl ?_)
     refine bf ?_
     iterate 6 (go_big_quiet_step (rfl))
     refine az ?_;have I1:=IN _ kZ;refine aI 21 (by kernel_rfl) rfl ?_;go_wp2_with fail;refine I1.out.mono ?_;rintro e w5 ⟨rfl,h5⟩;go_wp2_with fail;refine aD h5 ?_;have Uf:=ah hq4 h5;have jI:=hE2.trans (Uf.mono hE2.size);refine ay [22,23,24] 0 rfl (by kernel_rfl) ?_;refine a_ ?_
     iterate 3 (refine aS rfl ?_)
     refine bf ?_
     iterate 3 (go_big_quiet_step (rfl))
     refine az ?_;refine aJ [] (by kernel_rfl) ?_;refine tail_nil ?_;go_wp2;go_ret;exact ⟨⟨_,rfl,by rw [Ns.out];simp⟩,jI⟩
    ·have Ns:=aa (show ¬Prim T X c by
      rintro (h|⟨a,b,h,_,h2,_⟩)
      ·exact absurd h h4
      ·rw [←hm] at h;cases h;rw [←hk1] at h2;exact hc1 h2)
     have z1:((k1:Int)==0)=false:=by simp;omega
     subst hc0;clear hx2 hnm hm CL IN h4 hk0 hk1;go_wp2_with fail;refine aF (Array.replicate 25 true) 25 0 mixed (by rfl) ?_;refine ay [0,1,2,3,4,5] 19 rfl (by kernel_rfl) ?_;refine a_ ?_
     iterate 6 (refine aS rfl ?_)
     refine bf ?_
     iterate 6 (go_big_quiet_step (rfl))
     refine az ?_;refine aI 6 (by kernel_rfl) rfl ?_;go_wp2_with fail;refine K0.out.mono ?_;rintro e w3 ⟨rfl,h3⟩;go_wp2_with fail;refine aD h3 ?_;have hq3:=ah hq h3;have kY:=hE2.trans (hq3.mono hE2.size);have g0:=Gr.cell hq3 e0;have g1:=Gr.cell hq3 e1;have g2:=Gr.cell hq3 hz2;refine ay [7,8,9,10,11,12,13] 11 rfl (by kernel_rfl) ?_;refine a_ ?_
     iterate 7 (refine aS rfl ?_)
     refine bf ?_
     iterate 7 (go_big_quiet_step (rfl))
     refine az ?_;have K1':=K1 _ kY;refine aI 14 (by kernel_rfl) rfl ?_;go_wp2_with fail;refine K1'.out.mono ?_;rintro e w4 ⟨rfl,h4'⟩;go_wp2_with fail;refine aD h4' ?_;have hq4:=ah hq3 h4';have kZ:=hE2.trans (hq4.mono hE2.size);have g0:=Gr.cell hq4 e0;have g1:=Gr.cell hq4 e1;have g2:=Gr.cell hq4 hz2;refine ay [15,16,17,18,19,20] 4 rfl (by kernel_rfl) ?_;refine a_ ?_
     iterate 6 (refine aS rfl ?_)
     refine bf ?_
     iterate 6 (go_big_quiet_step (rfl))
     refine az ?_;refine aI 21 (by kernel_rfl) rfl ?_;go_wp2_with fail;refine aD (Below.refl _ _) ?_;refine ay [22,23,24] 0 rfl (by kernel_rfl) ?_;refine a_ ?_
     iterate 3 (refine aS rfl ?_)
     refine bf ?_
     iterate 3 (go_big_quiet_step (rfl))
     refine az ?_;refine aJ [] (by kernel_rfl) ?_;refine tail_nil ?_;go_wp2;go_ret;exact ⟨⟨false,rfl,fun h=>(by cases h),fun h=>absurd h Ns.out⟩,kZ⟩
   ·have Ns:=aa (show ¬Prim T X c by
     rintro (h|⟨a,b,h,h1,_,_⟩)
     ·exact absurd h h4
     ·rw [←hk0] at h1;exact hc0 h1)
    have z0:((k0:Int)==0)=false:=by simp;omega
    clear hx2 hnm hm CL IN h4 hk0 hk1 K1;go_wp2_with fail;refine aF (Array.replicate 25 true) 25 0 mixed (by rfl) ?_;refine ay [0,1,2,3,4,5] 19 rfl (by kernel_rfl) ?_;refine a_ ?_
    iterate 6 (refine aS rfl ?_)
    refine bf ?_
    iterate 6 (go_big_quiet_step (rfl))
    refine az ?_;refine aI 6 (by kernel_rfl) rfl ?_;go_wp2_with fail;refine K0.out.mono ?_;rintro e w3 ⟨rfl,h3⟩;go_wp2_with fail;refine aD h3 ?_;have hq3:=ah hq h3;have kY:=hE2.trans (hq3.mono hE2.size);have g0:=Gr.cell hq3 e0;have g1:=Gr.cell hq3 e1;have g2:=Gr.cell hq3 hz2;refine ay [7,8,9,10,11,12,13] 11 rfl (by kernel_rfl) ?_;refine a_ ?_
    iterate 7 (refine aS rfl ?_)
    refine bf ?_
    iterate 7 (go_big_quiet_step (rfl))
    refine az ?_;refine aI 14 (by kernel_rfl) rfl ?_;go_wp2_with fail;refine aD (Below.refl _ _) ?_;refine ay [15,16,17,18,19,20] 4 rfl (by kernel_rfl) ?_;refine a_ ?_
    iterate 6 (refine aS rfl ?_)
    refine bf ?_
    iterate 6 (go_big_quiet_step (rfl))
    refine az ?_;refine aI 21 (by kernel_rfl) rfl ?_;go_wp2_with fail;refine aD (Below.refl _ _) ?_;refine ay [22,23,24] 0 rfl (by kernel_rfl) ?_;refine a_ ?_
    iterate 3 (refine aS rfl ?_)
    refine bf ?_
    iterate 3 (go_big_quiet_step (rfl))
    refine az ?_;refine aJ [] (by kernel_rfl) ?_;refine tail_nil ?_;go_wp2;go_ret;exact ⟨⟨false,rfl,fun h=>(by cases h),fun h=>absurd h Ns.out⟩,kY⟩
  ·have Ns:=aa (show ¬Prim T X c by
    rintro (h|⟨a,b,h,_⟩)
    ·omega
    ·rw [←hm] at h;rw [hnm,h] at hm2;exact hm2 rfl)
   have z:((nm:Int)==2)=false:=by simp;omega
   clear hx2 hnm hm hm2 CL IN h4;go_wp2_with fail;refine aF (Array.replicate 25 true) 25 0 mixed (by rfl) ?_;refine ay [0,1,2,3,4,5] 19 rfl (by kernel_rfl) ?_;refine a_ ?_
   iterate 6 (refine aS rfl ?_)
   refine bf ?_
   iterate 6 (go_big_quiet_step (rfl))
   refine az ?_;refine aI 6 (by kernel_rfl) rfl ?_;go_wp2_with fail;refine aD (Below.refl _ _) ?_;refine ay [7,8,9,10,11,12,13] 11 rfl (by kernel_rfl) ?_;refine a_ ?_
   iterate 7 (refine aS rfl ?_)
   refine bf ?_
   iterate 7 (go_big_quiet_step (rfl))
   refine az ?_;refine aI 14 (by kernel_rfl) rfl ?_;go_wp2_with fail;refine aD (Below.refl _ _) ?_;refine ay [15,16,17,18,19,20] 4 rfl (by kernel_rfl) ?_;refine a_ ?_
   iterate 6 (refine aS rfl ?_)
   refine bf ?_
   iterate 6 (go_big_quiet_step (rfl))
   refine az ?_;refine aI 21 (by kernel_rfl) rfl ?_;go_wp2_with fail;refine aD (Below.refl _ _) ?_;refine ay [22,23,24] 0 rfl (by kernel_rfl) ?_;refine a_ ?_
   iterate 3 (refine aS rfl ?_)
   refine bf ?_
   iterate 3 (go_big_quiet_step (rfl))
   refine az ?_;refine aJ [] (by kernel_rfl) ?_;refine tail_nil ?_;go_wp2;go_ret;exact ⟨⟨false,rfl,fun h=>(by cases h),fun h=>absurd h Ns.out⟩,hEq⟩
theorem Fe {w:World} (c:Nat) (hc:c<1114112) :
 Calls Tryz.prog 78 #[.int .i64 c] w fun e w'=>e=.returned (.int .i64 (hk c))∧w'=w:=by
 obtain ⟨k,hk0⟩:=ae (hk c);have HK:=aa hk0;rw [←hk0];clear hk0;have M:∀i:Nat,c=44032+i→((c:Int)-44032).tmod 28=((i % 28:Nat):Int):=by
  intro i hi;rw [show (c:Int)-44032=(i:Int) by omega,Int.tmod_eq_emod_of_nonneg (by omega)];omega
 go_each [4352≤c,c≤4370,4449≤c,c≤4469,4520≤c,c≤4546,c<44032,55203<c]=>(
  first
  | (have E:k=1:=HK.out.trans (by unfold hk;rw [if_pos (by omega)])
     subst E;clear M;go_enter Tryz.func78,Tryz.ntmps78;go_wp2;go_ret;exact ⟨rfl,rfl⟩)
  | (have E:k=2:=HK.out.trans (by unfold hk;rw [if_neg (by omega),if_pos (by omega)])
     subst E;clear M;go_enter Tryz.func78,Tryz.ntmps78;go_wp2;go_ret;exact ⟨rfl,rfl⟩)
  | (have E:k=3:=HK.out.trans (by unfold hk;rw [if_neg (by omega),if_neg (by omega),if_pos (by omega)])
     subst E;clear M;go_enter Tryz.func78,Tryz.ntmps78;go_wp2;go_ret;exact ⟨rfl,rfl⟩)
  | (have E:k=0:=HK.out.trans (by unfold hk;rw [if_neg (by omega),if_neg (by omega),if_neg (by omega),if_pos (by omega)])
     subst E;clear M;go_enter Tryz.func78,Tryz.ntmps78;go_wp2;go_ret;exact ⟨rfl,rfl⟩)
  | (obtain ⟨i,hi⟩:∃i,c=44032+i:=⟨c-44032,by omega⟩
     have M:=M i hi;subst hi;by_cases h4:i % 28=0
     ·have E:k=4:=HK.out.trans (by unfold hk;rw [if_neg (by omega),if_neg (by omega),if_neg (by omega),if_neg (by omega),if_pos (by omega)]);subst E;rw [h4] at M;go_enter Tryz.func78,Tryz.ntmps78;go_wp2;go_ret;exact ⟨rfl,rfl⟩
     ·have E:k=5:=HK.out.trans (by unfold hk;rw [if_neg (by omega),if_neg (by omega),if_neg (by omega),if_neg (by omega),if_neg (by omega)]);subst E;have z:¬(((44032+i:Nat):Int)-44032).tmod 28=0:=by rw [M];omega
      clear M
      go_enter Tryz.func78,Tryz.ntmps78;go_wp2;go_ret;exact ⟨rfl,rfl⟩))
end Go.Proofs.YtmpkfkoficehpaaGreatDoor
