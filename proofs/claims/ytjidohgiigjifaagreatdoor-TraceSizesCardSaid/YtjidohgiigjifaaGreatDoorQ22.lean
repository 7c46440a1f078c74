/- TraceSizes: a machine made of a text has as many states as the document says; no condition. -/
import Derived.Test.YtjidohgiigjifaaGreatDoorQ21
import Derived.Handy
set_option maxRecDepth 100000
set_option maxHeartbeats 6400000
namespace Go.Proofs.YtjidohgiigjifaaGreatDoor
open Go.RowKit Go.Cd
theorem ku.past {B:Nat} {w4 w w':World} {r:Value} {L:List (fM×Value)} {row:Option Nat} (h4:ku B w4 r L) (h:ku B w r L) (hg:w.grownBy w' row) (hr:∀k,row=some k→w4.heap.size≤k):ku B w' r L:=by
 have H:∀{e:TypeId} {size:Nat} {v:Value} {n:Nat} {xs:List Value},w4.ownsRow B e size v n xs→w.ownsRow B e size v n xs→w'.ownsRow B e size v n xs:=by
  intro e size v n xs ho4 ho;refine ho.kept hg ?_;cases hk:v.ownBlock with
  | none=>exact .inl rfl
  | some k=>exact .inr fun e1=>by have:=(ho4.lt k hk).2;have:=hr k e1.symm;omega
 exact ⟨H h4.rows h.rows,fun p hp=>H (h4.maps p hp) (h.maps p hp),h.apart,h.kY,h.four⟩
abbrev gX:TypeId:=25
theorem Wq {w:World} {v:Value} {T:List fM} {X:List Int} (h:JC w v T X) :
 Calls Tryz.prog 102 #[v] w fun e w'=>∃r x L Y,e=.returned (.agg #[r,x])∧ku w.heap.size w' r L∧w'.ownsRow w.heap.size aU 1 x Y.length (ints Y)∧(∀p∈L,uS x p.2)∧L.length≤20∧Y.length≤30∧(∀y∈Y,aX y)∧Below w.heap.size w w':=by
 obtain ⟨r,x,rfl,⟨a,cap,rfl,_,hx⟩,h2⟩:=h;obtain ⟨nx,hnx⟩:∃n,n=X.length:=⟨_,rfl⟩;obtain ⟨ax,cx,rfl,_,hy⟩:=bD.GH h2 hnx;obtain ⟨n,hn⟩:=af T.length;rw [←hn];have HX:=ae hx;have HY:=ae hy;have HN:=ae hn;have XF:=ae hnx;obtain ⟨W1,hW1⟩:=af (w.alloc (.cells #[.slice a n cap,.slice ax nx cx] gX));obtain ⟨W2,hW2⟩:=af (W1.alloc (.cells #[.slice none 0 0,.slice none 0 0] gX));obtain ⟨W0,hW⟩:=af (W2.alloc (.cells #[.slice none 0 0,.slice none 0 0] gX));have e1:W1.heap.size=w.heap.size+1:=by rw [hW1];simp
 have e2:W2.heap.size=w.heap.size+2:=by rw [hW2];simp [e1]
 have e3:W0.heap.size=w.heap.size+3:=by rw [hW];simp [e2]
 have b1:Below w.heap.size w W1:=by rw [hW1];exact ai _
 have b2:Below W1.heap.size W1 W2:=by rw [hW2];exact ai _
 have b3:Below W2.heap.size W2 W0:=by rw [hW];exact ai _
 have i1:Is W0 w.heap.size #[.slice a n cap,.slice ax nx cx] gX:=by
  have:Is W1 w.heap.size #[.slice a n cap,.slice ax nx cx] gX:=by rw [hW1];exact Is.new _ _ _
  exact (this.mono b2).mono b3
 have i2:Is W0 (w.heap.size+1) #[.slice none 0 0,.slice none 0 0] gX:=by
  have:Is W2 (w.heap.size+1) #[.slice none 0 0,.slice none 0 0] gX:=by rw [hW2];exact Is.new' _ _ _ _ e1.symm
  exact this.mono b3
 have i3:Is W0 (w.heap.size+2) #[.slice none 0 0,.slice none 0 0] gX:=by rw [hW];exact Is.new' _ _ _ _ e2.symm
 have b0:=ag (ag b1 b2) b3;rw [hW2,hW1] at hW;clear hx hy hn hnx h2 b1 b2 b3 e1 e2 hW1 hW2;go_enter Tryz.func102,Tryz.ntmps102;go_wp2_with fail;rw [←hW];clear hW;go_loopw [4] (fun iv wr=>∃(j:Nat) (L:List (fM×Value)) (rv:Value),j≤20∧iv=.int .i64 j∧L.length≤j∧ku (w.heap.size+3) wr rv L∧Is wr w.heap.size #[.slice a n cap,.slice ax nx cx] gX∧Is wr (w.heap.size+1) #[.slice none 0 0,.slice none 0 0] gX∧Is wr (w.heap.size+2) #[rv,.slice none 0 0] gX∧w.heap.size+3≤wr.heap.size∧Below w.heap.size w wr) (fun iv _=>20-(intOf iv).toNat)
 case atStart=>exact ⟨0,[],_,by decide,rfl,by decide,ku.nil _ _,i1,i2,i3,by omega,b0⟩
 case round=>
  clear i1 i2 i3 e3 b0;obtain ⟨j,L,rv,hj,rfl,Vb,hF,k1,k2,k3,hsz,hB⟩:=hrel;have d0:=k1.at 0 rfl;have d1:=k1.at 1 rfl;by_cases hjn:j<n
  ·by_cases hj2:j<20
   ·have hjl:j<T.length:=by have:=HN.out;omega
    have zj:decide ((j:Int)<20)=true:=by simp;omega
    obtain ⟨b,off,m,rfl,hbs,c0,c1,c2,hm⟩:=HX.out j hjl;have c0:=aA hB c0;have c1:=aA hB c1;have c2:=aA hB c2;have hm:=hm.mono hB;generalize T[j]=q at *;obtain ⟨nm,hnm⟩:=af q.map.length;obtain ⟨am,cm,rfl,_,hxm⟩:=bD.GH hm hnm;have MC:=ae hxm;have qh:=ae hnm;have HF:=ae hF;have HY2:=HY;clear hm hxm hnm hF;have g0:=Gr.cell (ah wr) d0;have g1:=Gr.cell (ah wr) c0;have g2:=Gr.cell (ah wr) c1;go_wp2_with fail;refine aD #[true,true,true,true,true,true,true,true,true,true,true,true,true,true,true,true,false] 16 1 mixed (by rfl) ?_;refine ay [0,1,2,3,4,5,6,7,8,9,10,11,12,13,14] 1 rfl (by kernel_rfl) ?_;refine aZ ?_
    iterate 15 (refine aO rfl ?_)
    refine a_ ?_
    iterate 15 (go_big_quiet_step (rfl))
    refine ak ?_;refine aL 15 (by kernel_rfl) rfl ?_;go_wp2_with fail;refine aH (ai _) ?_;refine aI [16] (by kernel_rfl) ?_;refine tail_cons rfl ?_;go_wp2_with fail;refine tail_nil ?_;generalize wrap64 (wrap32 q.code)=C at *;obtain ⟨wo,jf⟩:∃w',w'=wr:=⟨_,rfl⟩;subst jf;obtain ⟨w5,vY⟩:=af ((wo.alloc (.cells #[.int .i64 C,.int .i64 q.cls,.slice none 0 0] d_)).drew);have kV:Below wo.heap.size wo w5:=by rw [vY];exact ag (ai _) (ah _)
    have r5:Is w5 wo.heap.size #[.int .i64 C,.int .i64 q.cls,.slice none 0 0] d_:=by rw [vY];exact (Is.new _ _ _).mono (ah _)
    go_wp2_with fail;rw [←vY];clear vY g0 g1 g2 c0 c1;go_loopw [6] (fun kv w2=>∃(k:Nat) (M:List Int) (mv:Value),k≤4∧kv=.int .i64 k∧M.length≤k∧w2.ownsRow wo.heap.size aU 1 mv M.length (bH M)∧Is w2 wo.heap.size #[.int .i64 C,.int .i64 q.cls,mv] d_∧Below wo.heap.size wo w2) (fun kv _=>4-(intOf kv).toNat)
    case atStart=>exact ⟨0,[],_,by decide,rfl,by decide,World.ownsRow_nil _ _ _ _,r5,kV⟩
    case round=>
     clear r5 kV;obtain ⟨k,M,mv,hk,rfl,hMk,hM,r2,hE⟩:=hrel;have c2:=aA hE c2;have e0:=aA hE d0;by_cases hkn:k<nm
     ·by_cases hk4:k<4
      ·have zk:decide ((k:Int)<4)=true:=by simp;omega
       have hkl:k<q.map.length:=by have:=qh.out;omega
       obtain ⟨bm,fm,rfl,_,hz⟩:=MC.out k hkl;have hz:=aA hE hz;generalize q.map[k]=y at *;have g0:=Gr.cell (ah wr) e0;have g1:=Gr.cell (ah wr) c2;have g2:=Gr.cell (ah wr) hz;have g3:=Gr.cell (ah wr) (r2.at 2 rfl);have hM2:=ae (aG hM (ah wr));have hE2:=ae (ag hE (ah wr));have R2:=ae (r2.mono (ah wr));obtain ⟨av,cv,rfl,_,_⟩:=az hM;go_wp2_with fail;refine aD #[true,true,true,true,true,true,true,true,true,true,true,true,true,true,false,false,false] 14 3 mixed (by rfl) ?_;refine ay [0,1,2,3,4,5,6,7,8,9,10,11,12] 1 rfl (by kernel_rfl) ?_;refine aZ ?_
       iterate 13 (refine aO rfl ?_)
       refine a_ ?_
       iterate 13 (go_big_quiet_step (rfl))
       refine ak ?_;refine aL 13 (by kernel_rfl) rfl ?_;go_wp2_with fail;refine aH (ai _) ?_;refine aI [14,15,16] (by kernel_rfl) ?_;refine tail_cons rfl ?_;refine pg (W:=wr.drew) rfl _ _ 23 rfl wo.heap.size aU _ 8 gL (.slice av M.length cv) M.length (bH M) rfl hM2.out _ rfl rfl (by omega) (by unfold maxLen;omega) wo hE2.out (Nat.le_refl _) ?_;intro v1 w3 o1 hb1 hal hg1;have R3:=((R2.out.mono (ai _)).grown hg1 (Is.other (R2.out.mono (ai _)) hal (by decide)));obtain ⟨a1,wI,rfl,_,_⟩:=az o1;have c3:=R3.at 2 rfl;have f3:=R3.frozen 2;refine tail_cons rfl ?_;go_wp2_with fail;refine tail_nil ?_;go_wp2;go_roundw
       case rel=>exact ⟨k+1,M++[wrap64 (wrap32 y)],_,by omega,rfl,by simp;omega,by
        have:=bf o1 (Is.other R3 o1 (by decide)) 2 (.slice a1 (M.length+1) wI)
        simpa [bH] using this,R3.set 2 _,aj hb1 (Nat.le_refl _)⟩
       case measure=>simp [intOf];omega
      ·have zk:decide ((k:Int)<4)=false:=by simp;omega
       have o3:=k3.mono hE;have c30:=o3.at 0 rfl;have f30:=o3.frozen 0;have c50:=r2.at 0 rfl;have c51:=r2.at 1 rfl;have c52:=r2.at 2 rfl;have TT:=HF.out.ext hE;obtain ⟨nW,nX,rfl,_,_⟩:=az TT.rows;obtain ⟨Z9,Z_,rfl,_,_⟩:=az hM
       have HP:=ae (fun (w3:World) (v1:Value) (ho:w3.ownsRow (w.heap.size+3) d_ 3 v1 (L.length+1) (L.flatMap j4++j4 (⟨C,q.cls,M⟩,.slice Z9 M.length Z_))) (hg:wr.grownBy w3 (Value.slice nW L.length nX).ownBlock) (hN:jo wr (.slice nW L.length nX) v1)=>
        ku.push (p:=⟨C,q.cls,M⟩) TT (aW hM (by omega)) (by show M.length≤4;omega) (fun p hp=>kQ (HF.out.maps p hp) hM (Nat.le_refl _)) (kQ HF.out.rows hM (Nat.le_refl _)) ho hg hN)
       have HR:=ae TT.rows;have hlen:=Vb;clear TT MC qh;go_wp2_with (at_builtin;go_loud (refine mY (W:=wr) rfl _ _ 22 rfl (w.heap.size+3) d_ _ 3 40 mF (by decide) (by decide) (by decide) (by decide) (.slice nW L.length nX) L.length (L.flatMap j4) rfl HR.out _ rfl rfl (by simp [Value.oneCell']) (by omega) wr (Below.refl _ _) (by have:=hE.size;omega) ?_);intro v1 w3 o1 hb1 hg1 hN1;have R3:=o3.low hb1 (by omega);have c31:=R3.at 0 rfl;have f31:=R3.frozen 0;obtain ⟨a1,wI,rfl,_,_⟩:=az o1);go_roundw
       case rel=>
        have M4:Below w.heap.size w w3:=(hB.trans (hE.mono hB.size)).trans (hb1.mono (by omega))
        exact ⟨j+1,L++[(⟨C,q.cls,M⟩,.slice Z9 M.length Z_)],_,by omega,rfl,by simp;omega,(HP.out w3 _ o1 hg1 hN1).kept (bN _ (w.heap.size+2) 0 _) (fun k hk=>by cases hk;omega),
         ((k1.mono hE).low hb1 (by omega)).put (by omega) _,((k2.mono hE).low hb1 (by omega)).put (by omega) _,R3.set 0 _,by have:=hE.size;have:=hb1.size;simp;omega,aj M4 (by omega)⟩
       case measure=>simp [intOf];omega
     ·have o3:=k3.mono hE;have c30:=o3.at 0 rfl;have f30:=o3.frozen 0;have c50:=r2.at 0 rfl;have c51:=r2.at 1 rfl;have c52:=r2.at 2 rfl;have TT:=HF.out.ext hE;obtain ⟨nW,nX,rfl,_,_⟩:=az TT.rows;obtain ⟨Z9,Z_,rfl,_,_⟩:=az hM
      have HP:=ae (fun (w3:World) (v1:Value) (ho:w3.ownsRow (w.heap.size+3) d_ 3 v1 (L.length+1) (L.flatMap j4++j4 (⟨C,q.cls,M⟩,.slice Z9 M.length Z_))) (hg:wr.grownBy w3 (Value.slice nW L.length nX).ownBlock) (hN:jo wr (.slice nW L.length nX) v1)=>
       ku.push (p:=⟨C,q.cls,M⟩) TT (aW hM (by omega)) (by show M.length≤4;omega) (fun p hp=>kQ (HF.out.maps p hp) hM (Nat.le_refl _)) (kQ HF.out.rows hM (Nat.le_refl _)) ho hg hN)
      have HR:=ae TT.rows;have hlen:=Vb;clear TT MC qh;go_wp2_with (at_builtin;go_loud (refine mY (W:=wr) rfl _ _ 22 rfl (w.heap.size+3) d_ _ 3 40 mF (by decide) (by decide) (by decide) (by decide) (.slice nW L.length nX) L.length (L.flatMap j4) rfl HR.out _ rfl rfl (by simp [Value.oneCell']) (by omega) wr (Below.refl _ _) (by have:=hE.size;omega) ?_);intro v1 w3 o1 hb1 hg1 hN1;have R3:=o3.low hb1 (by omega);have c31:=R3.at 0 rfl;have f31:=R3.frozen 0;obtain ⟨a1,wI,rfl,_,_⟩:=az o1);go_roundw
      case rel=>
       have M4:Below w.heap.size w w3:=(hB.trans (hE.mono hB.size)).trans (hb1.mono (by omega))
       exact ⟨j+1,L++[(⟨C,q.cls,M⟩,.slice Z9 M.length Z_)],_,by omega,rfl,by simp;omega,(HP.out w3 _ o1 hg1 hN1).kept (bN _ (w.heap.size+2) 0 _) (fun k hk=>by cases hk;omega),
        ((k1.mono hE).low hb1 (by omega)).put (by omega) _,((k2.mono hE).low hb1 (by omega)).put (by omega) _,R3.set 0 _,by have:=hE.size;have:=hb1.size;simp;omega,aj M4 (by omega)⟩
      case measure=>simp [intOf];omega
   ·have zj:decide ((j:Int)<20)=false:=by simp;omega
    obtain ⟨w4,jf⟩:∃w',w'=wr:=⟨_,rfl⟩;subst jf;have HF:=ae hF;clear hF;go_wp2_with fail;go_loopw [7] (fun kv w2=>∃(m:Nat) (Y:List Nat) (yv:Value),m≤30∧kv=.int .i64 m∧Y.length≤m∧(∀y∈Y,aX y)∧w2.ownsRow w4.heap.size aU 1 yv Y.length (ints Y)∧ku (w.heap.size+3) w2 rv L∧Is w2 w.heap.size #[.slice a n cap,.slice ax nx cx] gX∧Is w2 (w.heap.size+1) #[.slice none 0 0,.slice none 0 0] gX∧Is w2 (w.heap.size+2) #[rv,yv] gX∧w4.heap.size≤w2.heap.size∧Below w.heap.size w w2) (fun kv _=>30-(intOf kv).toNat)
    case atStart=>exact ⟨0,[],_,by decide,rfl,by decide,by simp,World.ownsRow_nil _ _ _ _,HF.out,k1,k2,k3,Nat.le_refl _,hB⟩
    case round=>
     clear k1 k2 k3 hB d0 d1;obtain ⟨m,Y,yv,hm,rfl,hYm,Cm,hY,hF2,k1,k2,k3,hs4,hB⟩:=hrel;have d1:=k1.at 1 rfl;by_cases G6:m<nx
     ·by_cases Ut:m<30
      ·have zm:decide ((m:Int)<30)=true:=by simp;omega
       have ko:m<X.length:=by have:=XF.out;omega
       obtain ⟨bx,fx,rfl,_,hz⟩:=HY.out m ko;have hz:=aA hB hz;generalize X[m]=x at *;have CH:=ae (fun W=>iL (w:=W) x);have hch:=(ou (x:=(x % 2097152).toNat));have hc9:=hch.1;have Rt:=ae hch;generalize jG (x % 2097152).toNat=ch at *;have g1:=Gr.cell (ah wr) d1;have g2:=Gr.cell (ah wr) hz;have g3:=Gr.cell (ah wr) (k3.at 1 rfl);obtain ⟨sP,sQ,rfl,_,_⟩:=az hY;have Uz:=ae hF2;have G8:=ae Cm;clear hF2 Cm hch;go_wp2_with fail;refine aD #[true,true,true,true,true,true,true,true,true,true,false,false,false] 10 3 mixed (by rfl) ?_;refine ay [0,1,2,3,4,5,6] 3 rfl (by kernel_rfl) ?_;refine aZ ?_
       iterate 7 (refine aO rfl ?_)
       refine a_ ?_
       iterate 7 (go_big_quiet_step (rfl))
       refine ak ?_;refine aL 7 (by kernel_rfl) rfl ?_;go_wp2_with fail;refine (CH.out _).mono ?_;rintro e Zl ⟨rfl,rfl⟩;go_wp2_with fail;refine aH (Below.refl _ _) ?_;refine ay [8] 1 rfl (by kernel_rfl) ?_
       iterate 1 (refine aC rfl ?_;go_big_quiet_step (rfl))
       refine ak ?_;refine aL 9 (by kernel_rfl) rfl ?_;go_wp2_with fail;refine aH (ai _) ?_;refine aI [10,11,12] (by kernel_rfl) ?_;refine tail_cons rfl ?_;refine pg (W:=wr.drew) rfl _ _ 23 rfl w4.heap.size aU _ 8 gL (.slice sP Y.length sQ) Y.length (ints Y) rfl (aG hY (ah wr)) _ rfl rfl (by omega) (by unfold maxLen;omega) wr.drew (Below.refl _ _) hs4 ?_;intro v1 w3 o1 hb1 hal hg1;have hex:Below wr.heap.size wr (wr.drew.alloc (.cells #[.int .i64 (ch:Nat)] aU)):=ag (ah wr) (ai _);have hlow:∀k,(Value.slice sP Y.length sQ).ownBlock=some k→w4.heap.size≤k:=fun k hk=>(hY.lt k hk).1;have hbw:Below w4.heap.size wr w3:=((ah wr).mono hs4).trans hb1;have K1:=k1.low hbw (by omega);have K2:=k2.low hbw (by omega);have K3:=k3.low hbw (by omega);obtain ⟨a1,wI,rfl,_,_⟩:=az o1;have c3:=K3.at 1 rfl;have f3:=K3.frozen 1;refine tail_cons rfl ?_;go_wp2_with fail;refine tail_nil ?_;go_wp2;go_roundw
       case rel=>
        refine ⟨m+1,Y++[ch],_,by omega,rfl,by simp;omega,?_,?_,?_,K1.put (by omega) _,K2.put (by omega) _,K3.set 1 _,by have:=hbw.size;simp;omega,aj (hB.trans (hbw.mono (by omega))) (by omega)⟩
        ·intro y hy;rcases List.mem_append.1 hy with h|h
         ·exact G8.out y h
         ·rw [List.mem_singleton.1 h];exact Rt.out
        ·have:=bf o1 (aP o1 (k:=w.heap.size+2) (by omega)) 1 (.slice a1 (Y.length+1) wI);simpa [ints] using this
        ·exact ((HF.out.past (Uz.out.ext hex) hg1 hlow).kept (bN _ (w.heap.size+2) 1 _) (fun k hk=>by cases hk;omega))
       case measure=>simp [intOf];omega
      ·have zm:decide ((m:Int)<30)=false:=by simp;omega
       have e0:=k3.at 0 rfl;have e1:=k3.at 1 rfl;have s0:=k2.at 0 rfl;have s1:=k2.at 1 rfl;have t0:=k2.frozen 0;have t1:=k2.frozen 1;obtain ⟨sP,sQ,rfl,_,_⟩:=az hY;obtain ⟨nW,nX,rfl,_,_⟩:=az hF2.rows;have u1:=fun u=>(k2.set 0 u).at 1 rfl;have u2:=fun u=>(k2.set 0 u).frozen 1;have K:=(k2.set 0 (.slice nW L.length nX)).set 1 (.slice sP Y.length sQ);have v0:=K.at 0 rfl;have v1:=K.at 1 rfl;have yV:=ae ((hF2.kept (bN _ (w.heap.size+1) 0 (.slice nW L.length nX)) (fun k hk=>by cases hk;omega)).kept (bN _ (w.heap.size+1) 1 (.slice sP Y.length sQ)) (fun k hk=>by cases hk;omega));have Wt:=ae (bf (bf hY (aP hY (k:=w.heap.size+1) (by omega)) 0 (.slice nW L.length nX)) (aP (bf hY (aP hY (k:=w.heap.size+1) (by omega)) 0 (.slice nW L.length nX)) (k:=w.heap.size+1) (by omega)) 1 (.slice sP Y.length sQ));have HA:=ae (fun (p:fM×Value) (hp:p∈L)=>(kQ (HF.out.maps p hp) hY (Nat.le_refl _)).symm);have G8:=ae Cm;have HB:=ae (aj (aj hB (b:=w.heap.size+1) (off:=0) (u:=.slice nW L.length nX) (by omega)) (b:=w.heap.size+1) (off:=1) (u:=.slice sP Y.length sQ) (by omega));clear hY hF2 Cm hB HF;go_wp2
       (try simp only [Exit.inBlock,Exit.then])
       refine bodyPost_ret (v:=.agg #[.slice nW L.length nX,.slice sP Y.length sQ]) (by simp [results,Tryz.results102,go_sem,v0,v1]) rfl ?_;exact ⟨_,_,L,Y,rfl,⟨aW yV.out.rows (by omega),fun p hp=>aW (yV.out.maps p hp) (by omega),yV.out.apart,yV.out.kY,yV.out.four⟩,aW Wt.out (by omega),HA.out,by omega,by omega,G8.out,HB.out⟩
     ·have e0:=k3.at 0 rfl;have e1:=k3.at 1 rfl;have s0:=k2.at 0 rfl;have s1:=k2.at 1 rfl;have t0:=k2.frozen 0;have t1:=k2.frozen 1;obtain ⟨sP,sQ,rfl,_,_⟩:=az hY;obtain ⟨nW,nX,rfl,_,_⟩:=az hF2.rows;have u1:=fun u=>(k2.set 0 u).at 1 rfl;have u2:=fun u=>(k2.set 0 u).frozen 1;have K:=(k2.set 0 (.slice nW L.length nX)).set 1 (.slice sP Y.length sQ);have v0:=K.at 0 rfl;have v1:=K.at 1 rfl;have yV:=ae ((hF2.kept (bN _ (w.heap.size+1) 0 (.slice nW L.length nX)) (fun k hk=>by cases hk;omega)).kept (bN _ (w.heap.size+1) 1 (.slice sP Y.length sQ)) (fun k hk=>by cases hk;omega));have Wt:=ae (bf (bf hY (aP hY (k:=w.heap.size+1) (by omega)) 0 (.slice nW L.length nX)) (aP (bf hY (aP hY (k:=w.heap.size+1) (by omega)) 0 (.slice nW L.length nX)) (k:=w.heap.size+1) (by omega)) 1 (.slice sP Y.length sQ));have HA:=ae (fun (p:fM×Value) (hp:p∈L)=>(kQ (HF.out.maps p hp) hY (Nat.le_refl _)).symm);have G8:=ae Cm;have HB:=ae (aj (aj hB (b:=w.heap.size+1) (off:=0) (u:=.slice nW L.length nX) (by omega)) (b:=w.heap.size+1) (off:=1) (u:=.slice sP Y.length sQ) (by omega));clear hY hF2 Cm hB HF;go_wp2
      (try simp only [Exit.inBlock,Exit.then])
      refine bodyPost_ret (v:=.agg #[.slice nW L.length nX,.slice sP Y.length sQ]) (by simp [results,Tryz.results102,go_sem,v0,v1]) rfl ?_;exact ⟨_,_,L,Y,rfl,⟨aW yV.out.rows (by omega),fun p hp=>aW (yV.out.maps p hp) (by omega),yV.out.apart,yV.out.kY,yV.out.four⟩,aW Wt.out (by omega),HA.out,by omega,by omega,G8.out,HB.out⟩
  ·obtain ⟨w4,jf⟩:∃w',w'=wr:=⟨_,rfl⟩;subst jf;have HF:=ae hF;clear hF;go_wp2_with fail;go_loopw [7] (fun kv w2=>∃(m:Nat) (Y:List Nat) (yv:Value),m≤30∧kv=.int .i64 m∧Y.length≤m∧(∀y∈Y,aX y)∧w2.ownsRow w4.heap.size aU 1 yv Y.length (ints Y)∧ku (w.heap.size+3) w2 rv L∧Is w2 w.heap.size #[.slice a n cap,.slice ax nx cx] gX∧Is w2 (w.heap.size+1) #[.slice none 0 0,.slice none 0 0] gX∧Is w2 (w.heap.size+2) #[rv,yv] gX∧w4.heap.size≤w2.heap.size∧Below w.heap.size w w2) (fun kv _=>30-(intOf kv).toNat)
   case atStart=>exact ⟨0,[],_,by decide,rfl,by decide,by simp,World.ownsRow_nil _ _ _ _,HF.out,k1,k2,k3,Nat.le_refl _,hB⟩
   case round=>
    clear k1 k2 k3 hB d0 d1;obtain ⟨m,Y,yv,hm,rfl,hYm,Cm,hY,hF2,k1,k2,k3,hs4,hB⟩:=hrel;have d1:=k1.at 1 rfl;by_cases G6:m<nx
    ·by_cases Ut:m<30
     ·have zm:decide ((m:Int)<30)=true:=by simp;omega
      have ko:m<X.length:=by have:=XF.out;omega
      obtain ⟨bx,fx,rfl,_,hz⟩:=HY.out m ko;have hz:=aA hB hz;generalize X[m]=x at *;have CH:=ae (fun W=>iL (w:=W) x);have hch:=(ou (x:=(x % 2097152).toNat));have hc9:=hch.1;have Rt:=ae hch;generalize jG (x % 2097152).toNat=ch at *;have g1:=Gr.cell (ah wr) d1;have g2:=Gr.cell (ah wr) hz;have g3:=Gr.cell (ah wr) (k3.at 1 rfl);obtain ⟨sP,sQ,rfl,_,_⟩:=az hY;have Uz:=ae hF2;have G8:=ae Cm;clear hF2 Cm hch;go_wp2_with fail;refine aD #[true,true,true,true,true,true,true,true,true,true,false,false,false] 10 3 mixed (by rfl) ?_;refine ay [0,1,2,3,4,5,6] 3 rfl (by kernel_rfl) ?_;refine aZ ?_
      iterate 7 (refine aO rfl ?_)
      refine a_ ?_
      iterate 7 (go_big_quiet_step (rfl))
      refine ak ?_;refine aL 7 (by kernel_rfl) rfl ?_;go_wp2_with fail;refine (CH.out _).mono ?_;rintro e Zl ⟨rfl,rfl⟩;go_wp2_with fail;refine aH (Below.refl _ _) ?_;refine ay [8] 1 rfl (by kernel_rfl) ?_
      iterate 1 (refine aC rfl ?_;go_big_quiet_step (rfl))
      refine ak ?_;refine aL 9 (by kernel_rfl) rfl ?_;go_wp2_with fail;refine aH (ai _) ?_;refine aI [10,11,12] (by kernel_rfl) ?_;refine tail_cons rfl ?_;refine pg (W:=wr.drew) rfl _ _ 23 rfl w4.heap.size aU _ 8 gL (.slice sP Y.length sQ) Y.length (ints Y) rfl (aG hY (ah wr)) _ rfl rfl (by omega) (by unfold maxLen;omega) wr.drew (Below.refl _ _) hs4 ?_;intro v1 w3 o1 hb1 hal hg1;have hex:Below wr.heap.size wr (wr.drew.alloc (.cells #[.int .i64 (ch:Nat)] aU)):=ag (ah wr) (ai _);have hlow:∀k,(Value.slice sP Y.length sQ).ownBlock=some k→w4.heap.size≤k:=fun k hk=>(hY.lt k hk).1;have hbw:Below w4.heap.size wr w3:=((ah wr).mono hs4).trans hb1;have K1:=k1.low hbw (by omega);have K2:=k2.low hbw (by omega);have K3:=k3.low hbw (by omega);obtain ⟨a1,wI,rfl,_,_⟩:=az o1;have c3:=K3.at 1 rfl;have f3:=K3.frozen 1;refine tail_cons rfl ?_;go_wp2_with fail;refine tail_nil ?_;go_wp2;go_roundw
      case rel=>
       refine ⟨m+1,Y++[ch],_,by omega,rfl,by simp;omega,?_,?_,?_,K1.put (by omega) _,K2.put (by omega) _,K3.set 1 _,by have:=hbw.size;simp;omega,aj (hB.trans (hbw.mono (by omega))) (by omega)⟩
       ·intro y hy;rcases List.mem_append.1 hy with h|h
        ·exact G8.out y h
        ·rw [List.mem_singleton.1 h];exact Rt.out
       ·have:=bf o1 (aP o1 (k:=w.heap.size+2) (by omega)) 1 (.slice a1 (Y.length+1) wI);simpa [ints] using this
       ·exact ((HF.out.past (Uz.out.ext hex) hg1 hlow).kept (bN _ (w.heap.size+2) 1 _) (fun k hk=>by cases hk;omega))
      case measure=>simp [intOf];omega
     ·have zm:decide ((m:Int)<30)=false:=by simp;omega
      have e0:=k3.at 0 rfl;have e1:=k3.at 1 rfl;have s0:=k2.at 0 rfl;have s1:=k2.at 1 rfl;have t0:=k2.frozen 0;have t1:=k2.frozen 1;obtain ⟨sP,sQ,rfl,_,_⟩:=az hY;obtain ⟨nW,nX,rfl,_,_⟩:=az hF2.rows;have u1:=fun u=>(k2.set 0 u).at 1 rfl;have u2:=fun u=>(k2.set 0 u).frozen 1;have K:=(k2.set 0 (.slice nW L.length nX)).set 1 (.slice sP Y.length sQ);have v0:=K.at 0 rfl;have v1:=K.at 1 rfl;have yV:=ae ((hF2.kept (bN _ (w.heap.size+1) 0 (.slice nW L.length nX)) (fun k hk=>by cases hk;omega)).kept (bN _ (w.heap.size+1) 1 (.slice sP Y.length sQ)) (fun k hk=>by cases hk;omega));have Wt:=ae (bf (bf hY (aP hY (k:=w.heap.size+1) (by omega)) 0 (.slice nW L.length nX)) (aP (bf hY (aP hY (k:=w.heap.size+1) (by omega)) 0 (.slice nW L.length nX)) (k:=w.heap.size+1) (by omega)) 1 (.slice sP Y.length sQ));have HA:=ae (fun (p:fM×Value) (hp:p∈L)=>(kQ (HF.out.maps p hp) hY (Nat.le_refl _)).symm);have G8:=ae Cm;have HB:=ae (aj (aj hB (b:=w.heap.size+1) (off:=0) (u:=.slice nW L.length nX) (by omega)) (b:=w.heap.size+1) (off:=1) (u:=.slice sP Y.length sQ) (by omega));clear hY hF2 Cm hB HF;go_wp2
      (try simp only [Exit.inBlock,Exit.then])
      refine bodyPost_ret (v:=.agg #[.slice nW L.length nX,.slice sP Y.length sQ]) (by simp [results,Tryz.results102,go_sem,v0,v1]) rfl ?_;exact ⟨_,_,L,Y,rfl,⟨aW yV.out.rows (by omega),fun p hp=>aW (yV.out.maps p hp) (by omega),yV.out.apart,yV.out.kY,yV.out.four⟩,aW Wt.out (by omega),HA.out,by omega,by omega,G8.out,HB.out⟩
    ·have e0:=k3.at 0 rfl;have e1:=k3.at 1 rfl;have s0:=k2.at 0 rfl;have s1:=k2.at 1 rfl;have t0:=k2.frozen 0;have t1:=k2.frozen 1;obtain ⟨sP,sQ,rfl,_,_⟩:=az hY;obtain ⟨nW,nX,rfl,_,_⟩:=az hF2.rows;have u1:=fun u=>(k2.set 0 u).at 1 rfl;have u2:=fun u=>(k2.set 0 u).frozen 1;have K:=(k2.set 0 (.slice nW L.length nX)).set 1 (.slice sP Y.length sQ);have v0:=K.at 0 rfl;have v1:=K.at 1 rfl;have yV:=ae ((hF2.kept (bN _ (w.heap.size+1) 0 (.slice nW L.length nX)) (fun k hk=>by cases hk;omega)).kept (bN _ (w.heap.size+1) 1 (.slice sP Y.length sQ)) (fun k hk=>by cases hk;omega));have Wt:=ae (bf (bf hY (aP hY (k:=w.heap.size+1) (by omega)) 0 (.slice nW L.length nX)) (aP (bf hY (aP hY (k:=w.heap.size+1) (by omega)) 0 (.slice nW L.length nX)) (k:=w.heap.size+1) (by omega)) 1 (.slice sP Y.length sQ));have HA:=ae (fun (p:fM×Value) (hp:p∈L)=>(kQ (HF.out.maps p hp) hY (Nat.le_refl _)).symm);have G8:=ae Cm;have HB:=ae (aj (aj hB (b:=w.heap.size+1) (off:=0) (u:=.slice nW L.length nX) (by omega)) (b:=w.heap.size+1) (off:=1) (u:=.slice sP Y.length sQ) (by omega));clear hY hF2 Cm hB HF;go_wp2
     (try simp only [Exit.inBlock,Exit.then])
     refine bodyPost_ret (v:=.agg #[.slice nW L.length nX,.slice sP Y.length sQ]) (by simp [results,Tryz.results102,go_sem,v0,v1]) rfl ?_;exact ⟨_,_,L,Y,rfl,⟨aW yV.out.rows (by omega),fun p hp=>aW (yV.out.maps p hp) (by omega),yV.out.apart,yV.out.kY,yV.out.four⟩,aW Wt.out (by omega),HA.out,by omega,by omega,G8.out,HB.out⟩
theorem Dr {c:List Nat} {i:Nat} (hi:i<c.length) {x:Nat}:x∈c.take (i+1)↔x∈c.take i∨x=c[i]:=by
 rw [List.take_succ_eq_append_getElem hi,List.mem_append,List.mem_singleton]
theorem JD {w:World} {v:Value} {l:List Nat} (h:bD w v (ints l)) (hmax:l.length<1000000) (t:Nat) :
 Calls Tryz.prog 177 #[v,.int .i64 t] w fun e w'=>e=.returned (.bool (decide (t∈l)))∧Below w.heap.size w w':=by
 obtain ⟨n,hn⟩:=af l.length;obtain ⟨a,cap,rfl,_,hx⟩:=bD.kS h hn;have HX:=ae hx;have HN:=ae hn;have G6:n<1000000:=by omega
 clear h hx hn;go_enter Tryz.func177,Tryz.ntmps177;go_wp2_with fail;go_loopw [9] (fun i wr=>∃j:Nat,j≤n∧i=.int .i64 j∧t∉l.take j∧wr=w) (fun i _=>n-(intOf i).toNat)
 case atStart=>exact ⟨0,Nat.zero_le _,rfl,by simp,rfl⟩
 case round=>
  obtain ⟨j,hj,rfl,hm,rfl⟩:=hrel;by_cases hjn:j<n
  ·have hjl:j<l.length:=by have:=HN.out;omega
   obtain ⟨b,off,rfl,_,hc⟩:=HX.out j hjl;have HM:=ae hm;have HT:=ae (Dr (c:=l) hjl (x:=t));have HE:=ae (List.getElem_mem hjl);generalize l[j]=s at *;clear hm;by_cases hst:s=t
   ·subst hst;have HR:=ae (decide_eq_true HE.out);have z:((s:Int)==s)=true:=by simp
    go_wp2;go_ret;exact ⟨dh HR.out.symm,Below.refl _ _⟩
   ·have z:((s:Int)==t)=false:=by simp;omega
    go_wp2;go_roundw
    case rel=>exact ⟨j+1,by omega,rfl,fun h=>(HT.out.1 h).elim HM.out (fun e=>hst e.symm),trivial⟩
    case measure=>simp [intOf];omega
  ·obtain rfl:j=n:=by omega
   have HR:=ae (decide_eq_false (fun h=>hm (by rw [HN.out,List.take_length];exact h)):decide (t∈l)=false);go_wp2;go_ret;exact ⟨dh HR.out.symm,Below.refl _ _⟩
theorem wD {w:World} {v:Value} {T:List aF} {X:List Nat} (h:iw w v T X) (c:Nat) (hc:c<1114112) (hmax:T.length<1000000) (hX:X.length<1000000) :
 Calls Tryz.prog 142 #[v,.int .i64 c] w fun e w'=>(∃p:Bool,e=.returned (.bool p)∧(p=true↔Prim T X c))∧Below w.heap.size w w':=by
 have HT:=ae h;obtain ⟨r,x,rfl,⟨a,cap,rfl,_⟩,h2⟩:=h;obtain ⟨ax,cx,rfl,_,_⟩:=Go.Cd.bD.out h2;obtain ⟨nt,hnt⟩:∃n,n=T.length:=⟨_,rfl⟩;obtain ⟨nx,hnx⟩:∃n,n=(ints X).length:=⟨_,rfl⟩;rw [←hnt,←hnx] at HT ⊢;rw [←hnx] at h2;have Tw:=ae h2;have hb:=ai (w:=w) (.cells #[.slice a nt cap,.slice ax nx cx] 25);have d0:(w.alloc (.cells #[.slice a nt cap,.slice ax nx cx] 25)).cell? ⟨w.heap.size,0,none⟩=some (.slice a nt cap):=by unfold World.cell?;rw [heap_alloc_new];rfl
 have d1:(w.alloc (.cells #[.slice a nt cap,.slice ax nx cx] 25)).cell? ⟨w.heap.size,1,none⟩=some (.slice ax nx cx):=by unfold World.cell?;rw [heap_alloc_new];rfl
 obtain ⟨W0,hW⟩:=af (w.alloc (.cells #[.slice a nt cap,.slice ax nx cx] 25));rw [←hW] at hb d0 d1;have PA:=ae (pE (w:=W0) c hc);have CL:=fun (W:World) (E:Below w.heap.size w W) (y:Nat)=>ae (kR (HT.out.mono E) y hmax);have MP:=fun (W:World) (E:Below w.heap.size w W)=>ae (uR (HT.out.mono E) c hc hmax);have IN:=fun (W:World) (E:Below w.heap.size w W)=>ae (JD (Tw.out.mono E) hX c);clear h2 hnt hnx;by_cases h4:4≤hk c
 ·have hp:0<(hparts c).length:=List.length_pos_iff.2 (fun h=>by have:=fV.1 h;omega);have KF:=ae (show Prim T X c from .inl h4);generalize hparts c=P at *;clear h4 CL MP IN;go_enter Tryz.func142,Tryz.ntmps142;go_wp2_with fail;rw [←hW];clear hW;refine PA.out.mono ?_;rintro e w1 ⟨r1,rfl,o1,h1⟩;have hE1:=hb.trans (h1.mono hb.size);obtain ⟨n1,hn1⟩:∃n,n=P.length:=⟨_,rfl⟩;obtain ⟨a1,c1,rfl,_,_⟩:=bD.kS (Sl.aT o1).any hn1;have hp1:0<n1:=by omega
  clear PA o1 hn1 hp;go_wp2;go_ret;exact ⟨⟨true,rfl,fun _=>KF.out,fun _=>rfl⟩,hE1⟩
 ·rw [fV.2 (by omega)] at PA;go_enter Tryz.func142,Tryz.ntmps142;go_wp2_with fail;rw [←hW];clear hW;refine PA.out.mono ?_;rintro e w1 ⟨r1,rfl,o1,h1⟩;have hE1:=hb.trans (h1.mono hb.size);obtain ⟨a1,c1,rfl,_,_⟩:=bD.kS (n:=0) (Sl.aT o1).any rfl;have e0:=aA h1 d0;have e1:=aA h1 d1;have M1:=MP _ hE1;clear PA o1 MP;go_wp2_with fail;refine M1.out.mono ?_;rintro e w2 ⟨r2,rfl,s2,h2⟩;have hE2:=hE1.trans (h2.mono hE1.size);have e0:=aA h2 e0;have e1:=aA h2 e1;obtain ⟨m,hm⟩:=af (mapOf T c);rw [←hm] at s2;obtain ⟨nm,hnm⟩:∃n,n=m.length:=⟨_,rfl⟩;obtain ⟨a2,c2,rfl,_,hx2⟩:=bD.kS s2 hnm;have hq:=ah w2;have g0:=Gr.cell hq e0;have g1:=Gr.cell hq e1;have hEq:=hE2.trans (hq.mono hE2.size);clear M1 s2;by_cases hm2:nm=2
  ·subst hm2;obtain ⟨a0,b0,hab⟩:∃a0 b0,m=[a0,b0]:=by
    match m,hnm with
    | [a0,b0],_=>exact ⟨a0,b0,rfl⟩
   subst hab;obtain ⟨b2,f2,rfl,_,hz2⟩:=hx2 0 (by simp);have hz2:w2.cell? ⟨b2,f2,none⟩=some (.int .i64 a0):=by simpa using hz2
   have g2:=Gr.cell hq hz2;have K0:=CL _ hEq c;obtain ⟨k0,hk0⟩:∃k,k=aB T c:=⟨_,rfl⟩;obtain ⟨k1,hk1⟩:∃k,k=aB T a0:=⟨_,rfl⟩;have K1:=fun (W:World) (E:Below w.heap.size w W)=>CL W E a0;rw [←hk0] at K0;simp only [←hk1] at K1;by_cases hc0:k0=0
   ·by_cases hc1:k1=0
    ·have KF:=ae (show Prim T X c↔c∉X by
      constructor
      ·rintro (h|⟨a,b,h,_,_,h3⟩)
       ·exact absurd h h4
       ·exact h3
      ·intro h;exact .inr ⟨a0,b0,hm.symm,by rw [←hk0,hc0],by rw [←hk1,hc1],h⟩)
     subst hc0;subst hc1;clear hx2 hnm hm CL h4 hk0 hk1;go_wp2_with fail;refine aD (Array.replicate 25 true) 25 0 mixed (by rfl) ?_;refine ay [0,1,2,3,4,5] 19 rfl (by kernel_rfl) ?_;refine aZ ?_
     iterate 6 (refine aO rfl ?_)
     refine a_ ?_
     iterate 6 (go_big_quiet_step (rfl))
     refine ak ?_;refine aL 6 (by kernel_rfl) rfl ?_;go_wp2_with fail;refine K0.out.mono ?_;rintro e w3 ⟨rfl,h3⟩;go_wp2_with fail;refine aH h3 ?_;have hq3:=ag hq h3;have j_:=hE2.trans (hq3.mono hE2.size);have g0:=Gr.cell hq3 e0;have g1:=Gr.cell hq3 e1;have g2:=Gr.cell hq3 hz2;refine ay [7,8,9,10,11,12,13] 11 rfl (by kernel_rfl) ?_;refine aZ ?_
     iterate 7 (refine aO rfl ?_)
     refine a_ ?_
     iterate 7 (go_big_quiet_step (rfl))
     refine ak ?_;have K1':=K1 _ j_;refine aL 14 (by kernel_rfl) rfl ?_;go_wp2_with fail;refine K1'.out.mono ?_;rintro e w4 ⟨rfl,h4'⟩;go_wp2_with fail;refine aH h4' ?_;have hq4:=ag hq3 h4';have kW:=hE2.trans (hq4.mono hE2.size);have g0:=Gr.cell hq4 e0;have g1:=Gr.cell hq4 e1;have g2:=Gr.cell hq4 hz2;refine ay [15,16,17,18,19,20] 4 rfl (by kernel_rfl) ?_;refine aZ ?_
     iterate 6 (refine aO rfl ?_)
     refine a_ ?_
     iterate 6 (go_big_quiet_step (rfl))
     refine ak ?_;have I1:=IN _ kW;refine aL 21 (by kernel_rfl) rfl ?_;go_wp2_with fail;refine I1.out.mono ?_;rintro e w5 ⟨rfl,h5⟩;go_wp2_with fail;refine aH h5 ?_;have hq5:=ag hq4 h5;have kV:=hE2.trans (hq5.mono hE2.size);refine ay [22,23,24] 0 rfl (by kernel_rfl) ?_;refine aZ ?_
     iterate 3 (refine aO rfl ?_)
     refine a_ ?_
     iterate 3 (go_big_quiet_step (rfl))
     refine ak ?_;refine aI [] (by kernel_rfl) ?_;refine tail_nil ?_;go_wp2;go_ret;exact ⟨⟨_,rfl,by rw [KF.out];simp⟩,kV⟩
    ·have KF:=ae (show ¬Prim T X c by
      rintro (h|⟨a,b,h,_,h2,_⟩)
      ·exact absurd h h4
      ·rw [←hm] at h;cases h;rw [←hk1] at h2;exact hc1 h2)
     have z1:((k1:Int)==0)=false:=by simp;omega
     subst hc0;clear hx2 hnm hm CL IN h4 hk0 hk1;go_wp2_with fail;refine aD (Array.replicate 25 true) 25 0 mixed (by rfl) ?_;refine ay [0,1,2,3,4,5] 19 rfl (by kernel_rfl) ?_;refine aZ ?_
     iterate 6 (refine aO rfl ?_)
     refine a_ ?_
     iterate 6 (go_big_quiet_step (rfl))
     refine ak ?_;refine aL 6 (by kernel_rfl) rfl ?_;go_wp2_with fail;refine K0.out.mono ?_;rintro e w3 ⟨rfl,h3⟩;go_wp2_with fail;refine aH h3 ?_;have hq3:=ag hq h3;have j_:=hE2.trans (hq3.mono hE2.size);have g0:=Gr.cell hq3 e0;have g1:=Gr.cell hq3 e1;have g2:=Gr.cell hq3 hz2;refine ay [7,8,9,10,11,12,13] 11 rfl (by kernel_rfl) ?_;refine aZ ?_
     iterate 7 (refine aO rfl ?_)
     refine a_ ?_
     iterate 7 (go_big_quiet_step (rfl))
     refine ak ?_;have K1':=K1 _ j_;refine aL 14 (by kernel_rfl) rfl ?_;go_wp2_with fail;refine K1'.out.mono ?_;rintro e w4 ⟨rfl,h4'⟩;go_wp2_with fail;refine aH h4' ?_;have hq4:=ag hq3 h4';have kW:=hE2.trans (hq4.mono hE2.size);have g0:=Gr.cell hq4 e0;have g1:=Gr.cell hq4 e1;have g2:=Gr.cell hq4 hz2;refine ay [15,16,17,18,19,20] 4 rfl (by kernel_rfl) ?_;refine aZ ?_
     iterate 6 (refine aO rfl ?_)
     refine a_ ?_
     iterate 6 (go_big_quiet_step (rfl))
     refine ak ?_;refine aL 21 (by kernel_rfl) rfl ?_;go_wp2_with fail;refine aH (Below.refl _ _) ?_;refine ay [22,23,24] 0 rfl (by kernel_rfl) ?_;refine aZ ?_
     iterate 3 (refine aO rfl ?_)
     refine a_ ?_
     iterate 3 (go_big_quiet_step (rfl))
     refine ak ?_;refine aI [] (by kernel_rfl) ?_;refine tail_nil ?_;go_wp2;go_ret;exact ⟨⟨false,rfl,fun h=>(by cases h),fun h=>absurd h KF.out⟩,kW⟩
   ·have KF:=ae (show ¬Prim T X c by
     rintro (h|⟨a,b,h,h1,_,_⟩)
     ·exact absurd h h4
     ·rw [←hk0] at h1;exact hc0 h1)
    have z0:((k0:Int)==0)=false:=by simp;omega
    clear hx2 hnm hm CL IN h4 hk0 hk1 K1;go_wp2_with fail;refine aD (Array.replicate 25 true) 25 0 mixed (by rfl) ?_;refine ay [0,1,2,3,4,5] 19 rfl (by kernel_rfl) ?_;refine aZ ?_
    iterate 6 (refine aO rfl ?_)
    refine a_ ?_
    iterate 6 (go_big_quiet_step (rfl))
    refine ak ?_;refine aL 6 (by kernel_rfl) rfl ?_;go_wp2_with fail;refine K0.out.mono ?_;rintro e w3 ⟨rfl,h3⟩;go_wp2_with fail;refine aH h3 ?_;have hq3:=ag hq h3;have j_:=hE2.trans (hq3.mono hE2.size);have g0:=Gr.cell hq3 e0;have g1:=Gr.cell hq3 e1;have g2:=Gr.cell hq3 hz2;refine ay [7,8,9,10,11,12,13] 11 rfl (by kernel_rfl) ?_;refine aZ ?_
    iterate 7 (refine aO rfl ?_)
    refine a_ ?_
    iterate 7 (go_big_quiet_step (rfl))
    refine ak ?_;refine aL 14 (by kernel_rfl) rfl ?_;go_wp2_with fail;refine aH (Below.refl _ _) ?_;refine ay [15,16,17,18,19,20] 4 rfl (by kernel_rfl) ?_;refine aZ ?_
    iterate 6 (refine aO rfl ?_)
    refine a_ ?_
    iterate 6 (go_big_quiet_step (rfl))
    refine ak ?_;refine aL 21 (by kernel_rfl) rfl ?_;go_wp2_with fail;refine aH (Below.refl _ _) ?_;refine ay [22,23,24] 0 rfl (by kernel_rfl) ?_;refine aZ ?_
    iterate 3 (refine aO rfl ?_)
    refine a_ ?_
    iterate 3 (go_big_quiet_step (rfl))
    refine ak ?_;refine aI [] (by kernel_rfl) ?_;refine tail_nil ?_;go_wp2;go_ret;exact ⟨⟨false,rfl,fun h=>(by cases h),fun h=>absurd h KF.out⟩,j_⟩
  ·have KF:=ae (show ¬Prim T X c by
    rintro (h|⟨a,b,h,_⟩)
    ·omega
    ·rw [←hm] at h;rw [hnm,h] at hm2;exact hm2 rfl)
   have z:((nm:Int)==2)=false:=by simp;omega
   clear hx2 hnm hm hm2 CL IN h4;go_wp2_with fail;refine aD (Array.replicate 25 true) 25 0 mixed (by rfl) ?_;refine ay [0,1,2,3,4,5] 19 rfl (by kernel_rfl) ?_;refine aZ ?_
   iterate 6 (refine aO rfl ?_)
   refine a_ ?_
   iterate 6 (go_big_quiet_step (rfl))
   refine ak ?_;refine aL 6 (by kernel_rfl) rfl ?_;go_wp2_with fail;refine aH (Below.refl _ _) ?_;refine ay [7,8,9,10,11,12,13] 11 rfl (by kernel_rfl) ?_;refine aZ ?_
   iterate 7 (refine aO rfl ?_)
   refine a_ ?_
   iterate 7 (go_big_quiet_step (rfl))
   refine ak ?_;refine aL 14 (by kernel_rfl) rfl ?_;go_wp2_with fail;refine aH (Below.refl _ _) ?_;refine ay [15,16,17,18,19,20] 4 rfl (by kernel_rfl) ?_;refine aZ ?_
   iterate 6 (refine aO rfl ?_)
   refine a_ ?_
   iterate 6 (go_big_quiet_step (rfl))
   refine ak ?_;refine aL 21 (by kernel_rfl) rfl ?_;go_wp2_with fail;refine aH (Below.refl _ _) ?_;refine ay [22,23,24] 0 rfl (by kernel_rfl) ?_;refine aZ ?_
   iterate 3 (refine aO rfl ?_)
   refine a_ ?_
   iterate 3 (go_big_quiet_step (rfl))
   refine ak ?_;refine aI [] (by kernel_rfl) ?_;refine tail_nil ?_;go_wp2;go_ret;exact ⟨⟨false,rfl,fun h=>(by cases h),fun h=>absurd h KF.out⟩,hEq⟩
theorem Dt {w:World} (c:Nat) (hc:c<1114112) :
 Calls Tryz.prog 141 #[.int .i64 c] w fun e w'=>e=.returned (.int .i64 (hk c))∧w'=w:=by
 obtain ⟨k,hk0⟩:=af (hk c);have HK:=ae hk0;rw [←hk0];clear hk0;have M:∀i:Nat,c=44032+i→((c:Int)-44032).tmod 28=((i % 28:Nat):Int):=by
  intro i hi;rw [show (c:Int)-44032=(i:Int) by omega,Int.tmod_eq_emod_of_nonneg (by omega)];omega
 go_each [4352≤c,c≤4370,4449≤c,c≤4469,4520≤c,c≤4546,c<44032,55203<c]=>(
  first
  | (have E:k=1:=HK.out.trans (by unfold hk;rw [if_pos (by omega)])
     subst E;clear M;go_enter Tryz.func141,Tryz.ntmps141;go_wp2;go_ret;exact ⟨rfl,rfl⟩)
  | (have E:k=2:=HK.out.trans (by unfold hk;rw [if_neg (by omega),if_pos (by omega)])
     subst E;clear M;go_enter Tryz.func141,Tryz.ntmps141;go_wp2;go_ret;exact ⟨rfl,rfl⟩)
  | (have E:k=3:=HK.out.trans (by unfold hk;rw [if_neg (by omega),if_neg (by omega),if_pos (by omega)])
     subst E;clear M;go_enter Tryz.func141,Tryz.ntmps141;go_wp2;go_ret;exact ⟨rfl,rfl⟩)
  | (have E:k=0:=HK.out.trans (by unfold hk;rw [if_neg (by omega),if_neg (by omega),if_neg (by omega),if_pos (by omega)])
     subst E;clear M;go_enter Tryz.func141,Tryz.ntmps141;go_wp2;go_ret;exact ⟨rfl,rfl⟩)
  | (obtain ⟨i,hi⟩:∃i,c=44032+i:=⟨c-44032,by omega⟩
     have M:=M i hi;subst hi;by_cases h4:i % 28=0
     ·have E:k=4:=HK.out.trans (by unfold hk;rw [if_neg (by omega),if_neg (by omega),if_neg (by omega),if_neg (by omega),if_pos (by omega)]);subst E;rw [h4] at M;go_enter Tryz.func141,Tryz.ntmps141;go_wp2;go_ret;exact ⟨rfl,rfl⟩
     ·have E:k=5:=HK.out.trans (by unfold hk;rw [if_neg (by omega),if_neg (by omega),if_neg (by omega),if_neg (by omega),if_neg (by omega)]);subst E;have z:¬(((44032+i:Nat):Int)-44032).tmod 28=0:=by rw [M];omega
      clear M
      go_enter Tryz.func141,Tryz.ntmps141;go_wp2;go_ret;exact ⟨rfl,rfl⟩))
end Go.Proofs.YtjidohgiigjifaaGreatDoor
