/- CedillaProducts: where a text may be cut apart, it has as many texts that are alike as its two parts multiplied; no condition. -/
import Derived.Test.YtmpkfkoficehpaaGreatDoorQ20
set_option maxRecDepth 100000
set_option maxHeartbeats 6400000
namespace Go.Proofs.YtmpkfkoficehpaaGreatDoor
open Go.RowKit Go.Cd
theorem Lj {w:World} {B p dp:Nat} {K:Nat→Nat} {l:List Nat} (h:eO w B p dp K l) (hl:l.length<9000) (hsm:eB (bu K l)≤16384) {v:Value} {s:gX} (hs:zP w v s) (ho:jG (bu K l) s) :
 Calls Tryz.prog 134 #[.pointer (some ⟨p,0,none⟩),v] w fun e w'=>∃r,e=.returned r∧w'.ownsRow w.heap.size aM 1 r (mD (bu K l) s).length (aN (mD (bu K l) s))∧Below w.heap.size w w':=by
 obtain ⟨k,ms⟩:=s;have hF:=eZ K l;obtain ⟨g,rc,iC,small,Es,hR⟩:=h.read;obtain ⟨sv,rfl,hsv⟩:=id hs;obtain ⟨sa,sc,rfl,_,hx⟩:=bB.out hsv.any;obtain ⟨m,hm⟩:=ae ((bJ (nz ms)).length);dsimp only at hs hsv ⊢;have hm2:m=ms.length:=by rw [hm];simp [bJ]
 rw [←hm] at hs hsv ⊢;have hb0:=af (w:=w) (.cells #[.int .i64 (k:Nat),.slice sa m sc] 199);have RU:=aa (pX (h.mono hb0) hl hsm (hs.mono hb0) ho);have hrun:=hF.2.2 _ (show aL (bu K l) k∈bu K l by rw [dR ho.lt];exact List.getElem_mem _);dsimp only at RU;obtain ⟨R,hR0⟩:=ae (bu K l);have hT1:k+1<R.length→∃la lc x1 m1 y1 x2 m2 y2 z f,∀j<6,w.cell? ⟨g,(k+1)*6+j,none⟩=[Value.int .i32 (aL R (k+1)).1,.slice la (aL R (k+1)).2.length lc,.slice x1 m1 y1,.slice x2 m2 y2,.int .i64 z,.int .i64 f][j]?:=fun hk=>by
  rw [hR0] at hk ⊢;obtain ⟨la,lc,x1,m1,y1,x2,m2,y2,z,f,hc,_⟩:=hR.at_ hsm hk;exact ⟨la,lc,x1,m1,y1,x2,m2,y2,z,f,hc⟩
 simp only [←hR0] at hF hR RU ho hrun ⊢;obtain ⟨L,hL0⟩:=ae ((aL R k).2);have kX:ms.length=L.length:=by rw [hL0];exact ho.len
 rw [←hL0] at hrun;obtain ⟨nr,hnr⟩:=ae R.length;have hlt:k<nr:=by rw [hnr];exact ho.lt
 have VK:nr<10000:=by rw [hnr];have:=hF.2.1;omega
 have hIs:=hR.is;simp only [←hnr] at hIs hT1;obtain ⟨res,hres⟩:=ae (mD R (k,ms));rw [←hres];have hres2:res=if iN ms L L.length=[] then (if k+1<nr then [(aL R (k+1)).1] else []) else iN ms L L.length:=by rw [hres,hnr,hL0];rfl
 have pY:=aa hres2;have HT1:=aa hT1;have HX:=aa hx;have BR:=aa kX;have Be:=aa hm2;have HL0:=aa hL0;have HRU:=aa hrun;have X7:m<10000:=by have:=hrun.1;omega
 clear h hR hsv hs hm hF hrun hR0 ho hres hres2 hx kX hm2 hL0 hnr hT1;go_enter Tryz.func134,Tryz.ntmps134;go_wp2_with fail;refine RU.out.mono ?_;rintro e w1 ⟨rv,rfl,hW,hb1⟩;obtain ⟨la,lc,x1,m1,y1,x2,m2,y2,z,f,rfl,hL,YR⟩:=id hW;clear YR hW;rw [←HL0.out] at hL ⊢;obtain ⟨n,hn⟩:=ae L.length;obtain ⟨hd,hhd⟩:=ae ((aL R k).1);obtain ⟨la',Pg,e9,hLk⟩:=hL;injection e9 with e8 _ e7;subst e8 e7;rw [←hn,←hhd];have HN:=aa hn;have YS:=aa hLk;have qO:n<10000:=by have:=BR.out;have:=Be.out;omega
 have hB1:=hb0.trans (hb1.mono hb0.size);have Lg:w.heap.size+1≤w1.heap.size:=by have:=hb1.size;simpa using this
 have k0:Is w1 w.heap.size #[.int .i64 (k:Nat),.slice sa m sc] 199:=(Is.new w _ _).mono hb1;obtain ⟨w2,hw2⟩:=ae (w1.alloc (.cells #[.int .i32 hd,.slice la n lc,.slice x1 m1 y1,.slice x2 m2 y2,.int .i64 z,.int .i64 f] d_));have hb2:Below w1.heap.size w1 w2:=by rw [hw2];exact af _
 have k2:Is w2 w1.heap.size #[.int .i32 hd,.slice la n lc,.slice x1 m1 y1,.slice x2 m2 y2,.int .i64 z,.int .i64 f] d_:=by rw [hw2];exact Is.new _ _ _
 have hB2:=hB1.trans (hb2.mono hB1.size);have hs2:=hB2.size;have k0:=k0.mono hb2;have d1:=k2.at 1 rfl;rw [hw2] at d1;clear hn hhd RU hLk;go_wp2_with fail;rw [←hw2];clear d1;have af7:=hb2.size;go_loopw [7,8,9,10,22] (fun o _ _ _ iv wr=>∃i:Nat,i≤n∧iv=.int .i64 i∧wr.ownsRow w2.heap.size aM 1 o (iN ms L i).length (aN (iN ms L i))∧Below w2.heap.size w2 wr) (fun _ _ _ _ iv _=>n-(intOf iv).toNat)
 case atStart=>exact ⟨0,Nat.zero_le _,rfl,World.ownsRow_nil _ _ _ _,Below.refl _ _⟩
 case round=>
  obtain ⟨i,hi,rfl,hrow,hE⟩:=hrel;have jI:=hB2.trans (hE.mono hs2);have Xw:=hb2.trans (hE.mono af7);by_cases him:i<n
  ·have zi:decide ((i:Int)<(n:Int))=true:=decide_eq_true (by omega);have Su:i<L.length:=by have:=HN.out;omega
   have I_:i<ms.length:=by have:=BR.out;omega
   have af2:i<m:=by have:=Be.out;omega
   have UX:i<(bJ (nz ms)).length:=by simp [bJ];exact I_
   obtain ⟨b,off,rfl,_,c0⟩:=HX.out i UX;obtain ⟨lg,va,vc,rfl,l0,l1,hsl⟩:=YS.out i Su;rw [show (bJ (nz ms))[i]=.int .i64 ((ms[i]:Nat):Int) by simp [bJ,nz]] at c0;obtain ⟨mi,yh⟩:=ae (ms[i]);obtain ⟨cls,hcls⟩:=ae (L[i].1);obtain ⟨ln,hln⟩:=ae (L[i].2);have zQ:uK ms L i=if mi<ln.length then [ln.getD mi 0] else []:=by
    unfold uK;rw [yh,hln,List.getD_eq_getElem?_getD (l:=L),List.getElem?_eq_getElem Su,List.getD_eq_getElem?_getD (l:=ms),List.getElem?_eq_getElem I_];rfl
   have hlen:ln.length<10000:=by rw [hln];have:=(HRU.out.2 _ (List.getElem_mem Su));omega
   rw [←yh] at c0;rw [←hcls] at l0;rw [←hln] at l1 hsl;obtain ⟨xl,hxl⟩:=ae ln.length;rw [←hxl] at l1 hsl zQ hlen;have hsucc:=xw ms L i;have hLn:=sM ms L i;obtain ⟨P,hP⟩:=ae (iN ms L i);rw [←hP] at hrow hsucc hLn;have c0:=aA jI c0;have l1:=aA Xw l1;have l0:=aA Xw l0;have hsl:=hsl.mono Xw;have k0':=k0.mono hE;have e1:=k0'.at 1 rfl;have VL:=aa zQ;have HSU:=aa hsucc;have Rv:=aa hxl;have hbn:=af (w:=wr) (.cells #[.int .i64 (cls:Nat),.slice va xl vc] 161);have i0:=Is.new wr #[.int .i64 (cls:Nat),.slice va xl vc] 161;have n0:=i0.at 0 rfl;have n1:=i0.at 1 rfl;have Q6:=aA hbn e1;have c0':=aA hbn c0;have d1:=aA hE (k2.at 1 rfl);have hrow':=aG hrow hbn;have JJ:=hE.trans (hbn.mono hE.size);clear zQ yh hxl hcls hln k0' hsucc hP;by_cases hz2:mi<xl
   ·have z2:decide ((mi:Int)<(xl:Int))=true:=decide_eq_true (by omega);obtain ⟨q,hq⟩:=ae (ln.getD mi 0);have Sv:mi<ln.length:=by have:=Rv.out;omega
    obtain ⟨ya,yc,he,_,hy⟩:=Go.Proofs.YtmpkfkoficehpaaGreatDoor.bB.Ef hsl Rv.out;injection he with he _ Ja;subst he Ja;obtain ⟨yb,yo,rfl,_,y0⟩:=hy mi Sv;rw [show ln[mi]=q by rw [hq,List.getD_eq_getElem?_getD,List.getElem?_eq_getElem Sv];rfl] at y0;have y0':=aA hbn y0;have hla:uK ms L i=[q]:=by rw [VL.out,if_pos hz2,hq]
    have YV:=aa hla;clear hy hq hsl hla;go_wp2_with (at_builtin;refine fH rfl _ _ 52 rfl w2.heap.size aM _ 4 bT _ P.length _ rfl hrow' _ (by show Value.slice (some ⟨wr.heap.size+1,0,none⟩) 1 1=_;simp) rfl (by omega) (by unfold maxLen;omega) w2 JJ (Nat.le_refl _) ?_;intro v' w6 o6 oz);go_roundw
    case rel=>
     refine ⟨i+1,by omega,by simp,?_,oz⟩;rw [HSU.out,YV.out,List.length_append,aZ];exact o6
    case measure=>simp [intOf];omega
   ·have z2:decide ((mi:Int)<(xl:Int))=false:=decide_eq_false (by omega);have hla:uK ms L i=[]:=by rw [VL.out,if_neg hz2]
    have YV:=aa hla;clear hla;go_wp2_with fail;go_roundw
    case rel=>
     refine ⟨i+1,by omega,by simp,?_,JJ⟩;rw [HSU.out,YV.out,List.append_nil];exact hrow'
    case measure=>simp [intOf];omega
  ·have zi:decide ((i:Int)<(n:Int))=false:=decide_eq_false (by omega);obtain rfl:i=n:=by omega
   have hLn:=sM ms L i;have hres:=pY.out;rw [←HN.out] at hres;obtain ⟨P,hP⟩:=ae (iN ms L i);rw [←hP] at hrow hres hLn;obtain ⟨oa,oc,rfl,_,_⟩:=ak hrow;obtain ⟨np,Qm⟩:=ae P.length;rw [←Qm] at hrow hLn ⊢;have HR2:=aa hres;have TW:=aa Qm;have Bf:=jI.size;have pm:=Gr.cell (ag wr) ((hIs.mono jI).at 1 rfl);have e0:=Gr.cell (ag wr) ((k0.mono hE).at 0 rfl);clear hres hP Qm;go_wp2_with fail;by_cases hp:np=0
   ·have zp:((np:Int)==0)=true:=by simp;omega
    have hPn:P=[]:=List.length_eq_zero_iff.1 (by rw [←TW.out];exact hp);have HPN:=aa hPn;clear hPn;by_cases hq:k+1<nr
    ·have zq:decide ((k:Int)+1<(nr:Int))=true:=decide_eq_true (by omega);obtain ⟨la2,lc2,x12,m12,y12,x22,m22,y22,z2,f2,hc2⟩:=HT1.out hq;obtain ⟨hd2,Le⟩:=ae ((aL R (k+1)).1);rw [←Le] at hc2;have d0:=hc2 0 (by decide);simp only [Nat.add_zero,List.getElem?_cons_zero] at d0;have hrd:=aG hrow (ag wr);have TY:=hE.trans ((ag wr).mono hE.size);have ab6:=jI.trans ((ag wr).mono Bf);have k0d:=(k0.mono hE).mono (ag wr);have hov:res=[hd2]:=by rw [HR2.out,if_pos HPN.out,if_pos hq,Le]
     have MR:=aa hov;subst hp;clear hc2 Le hov;refine aF (Array.replicate 14 true) 14 0 mixed (by rfl) ?_;refine ay [0,1,2,3,4,5,6,7,8,9,10,11,12,13] 0 rfl (by kernel_rfl) ?_;refine a_ ?_
     iterate 14 (refine aS rfl ?_)
     refine bf ?_
     iterate 14 (go_big_quiet_step (rfl))
     refine az ?_;refine aJ [] (by kernel_rfl) ?_;refine tail_nil ?_;go_wp2_with fail;have pm:=Gr.cell (ag wr.drew) ((hIs.mono ab6).at 1 rfl);have e0:=Gr.cell (ag wr.drew) (k0d.at 0 rfl);have d0:=Gr.cell (ag wr.drew) (aA ab6 d0);have hE2:=TY.trans ((ag wr.drew).mono TY.size);have hr2:=aG hrd (ag wr.drew);rw [HPN.out] at hr2;refine aF #[true,true,true,true,true,true,true,true,true,true,true,true,false,false] 12 2 mixed (by rfl) ?_;refine ay [0,1,2,3,4,5,6,7,8,9,10] 1 rfl (by kernel_rfl) ?_
     iterate 11 (refine aB rfl ?_;go_big_quiet_step (rfl))
     refine az ?_;refine aI 11 (by kernel_rfl) rfl ?_;go_wp2_with fail;refine aD (af _) ?_;refine aJ [12,13] (by kernel_rfl) ?_;refine tail_cons rfl ?_;refine fH rfl _ _ 52 rfl w2.heap.size aM _ 4 bT _ 0 _ rfl hr2 _ rfl rfl (by omega) (by unfold maxLen;omega) w2 hE2 (Nat.le_refl _) ?_;intro v' w6 o6 oz;refine tail_cons rfl ?_;go_wp2_with fail;refine tail_nil ?_;go_wp2;go_ret;rw [MR.out];exact ⟨_,rfl,aV o6 hs2,hB2.trans (oz.mono hs2)⟩
    ·have zq:decide ((k:Int)+1<(nr:Int))=false:=decide_eq_false (by omega);have hov:res=[]:=by rw [HR2.out,if_pos HPN.out,if_neg hq]
     have MR:=aa hov;clear hov;refine aF (Array.replicate 14 true) 14 0 mixed (by rfl) ?_;refine ay [0,1,2,3,4,5,6,7,8,9,10,11,12,13] 0 rfl (by kernel_rfl) ?_;refine a_ ?_
     iterate 14 (refine aS rfl ?_)
     refine bf ?_
     iterate 14 (go_big_quiet_step (rfl))
     refine az ?_;refine aJ [] (by kernel_rfl) ?_;refine tail_nil ?_;go_wp2_with fail;go_ret;rw [MR.out];refine ⟨_,rfl,?_,jI.trans ((ag wr).mono Bf)⟩;have:=aV (aG hrow (ag wr)) hs2;rw [HPN.out,hp] at this;subst hp;exact this
   ·have zp:((np:Int)==0)=false:=beq_eq_false_iff_ne.2 (by omega);have hov:res=P:=by rw [HR2.out,if_neg fun e=>hp (by rw [TW.out,e];rfl)]
    have MR:=aa hov;clear hov;refine aF (Array.replicate 14 true) 14 0 mixed (by rfl) ?_;refine ay [0,1,2,3,4,5,6,7,8,9,10,11,12,13] 0 rfl (by kernel_rfl) ?_;refine a_ ?_
    iterate 14 (refine aS rfl ?_)
    refine bf ?_
    iterate 14 (go_big_quiet_step (rfl))
    refine az ?_;refine aJ [] (by kernel_rfl) ?_;refine tail_nil ?_;go_wp2_with fail;go_ret;rw [MR.out];refine ⟨_,rfl,?_,jI.trans ((ag wr).mono Bf)⟩;have:=aV (aG hrow (ag wr)) hs2;rw [TW.out] at this;rw [TW.out];exact this
theorem Sw {w:World} {base e:Nat} {t:TypeId} {v:Value} {n:Nat} {xs:List Value} (h:w.ownsRow base t e v n xs):∃a cap,v=.slice a n cap∧w.ownsRow base t e (.slice a 0 cap) 0 []:=by
 rcases h.2 with ⟨rfl,h0⟩|⟨g,cap,cur,rfl,hb,hh,hc,hm,hs,ht⟩
 ·subst h0;exact ⟨_,_,rfl,by simp,.inl ⟨rfl,rfl⟩⟩
 ·exact ⟨_,_,rfl,by simp,.inr ⟨g,cap,cur,rfl,hb,hh,Nat.zero_le _,hm,hs,by simp⟩⟩
theorem Sy {w:World} (n:Nat) (hn:n<1000000) :
 Calls Tryz.prog 203 #[.slice none 0 0,.int .i64 n] w fun e w'=>∃r,e=.returned r∧w'.ownsRow w.heap.size aM 1 r 0 []∧Below w.heap.size w w':=by
 have z0:decide ((n:Int)<0)=false:=decide_eq_false (by omega);by_cases h0:n=0
 ·have z1:decide ((0:Int)<(n:Int))=false:=decide_eq_false (by omega);go_enter Tryz.func203,Tryz.ntmps203;go_wp2;go_ret;exact ⟨_,rfl,World.ownsRow_nil _ _ _ _,Below.refl _ _⟩
 ·have z1:decide ((0:Int)<(n:Int))=true:=decide_eq_true (by omega);go_enter Tryz.func203,Tryz.ntmps203
  go_wp2_with (
   at_builtin
   refine qR rfl _ _ 52 3 rfl .i64 .i64 Tryz.underlying3 w.heap.size aM _ 4 bT rfl (.slice none 0 0) 0 [] rfl (World.ownsRow_nil _ _ _ _) n rfl (by unfold maxLen;omega) (by omega) (Nat.le_refl _) ?_;intro v2 w2 o2 hg2;obtain ⟨a2,c2,rfl,o3⟩:=Sw o2;rw [Nat.zero_add] at *;have hB2:=aa (Below.refl w.heap.size w |>.grown hg2 (Nat.le_refl _) (fun k hk=>by cases hk))
   clear o2 hg2)
  go_ret;exact ⟨_,rfl,o3,hB2.out⟩
theorem zR {Ls:List (List Nat)} {j:Nat} (hj:j<Ls.length):(Ls.take (j+1)).flatten=(Ls.take j).flatten++Ls[j]:=by
 rw [List.take_succ_eq_append_getElem hj,List.flatten_append];simp
theorem MS (Ls:List (List Nat)) (j:Nat):(Ls.take j).flatten.length≤Ls.flatten.length:=by
 conv=>rhs;rw [←List.take_append_drop j Ls,List.flatten_append,List.length_append]
 omega
theorem Ll {w:World} {b n c:Nat} {Ls:List (List Nat)} {vs:List Value} (hn:n=Ls.length) (hvs:vs.length=n) (hc:∀k (hk:k<Ls.length) (hk':k<vs.length),w.cell? ⟨b,k,none⟩=some vs[k]∧bB w vs[k] (aN Ls[k])) (hsm:Ls.flatten.length<1000000) (qO:n<1000) :
 Calls Tryz.prog 170 #[.slice (some ⟨b,0,none⟩) n c] w fun e w'=>∃r,e=.returned r∧w'.ownsRow w.heap.size aM 1 r Ls.flatten.length (aN Ls.flatten)∧Below w.heap.size w w':=by
 have HC:=aa hc;have HN:=aa hn;have HV:=aa hvs;have HSM:=aa hsm;clear hc hn hvs hsm;go_enter Tryz.func170,Tryz.ntmps170;go_wp2_with fail;go_loopw [3,5,11] (fun sz _ iv wr=>∃j:Nat,j≤n∧iv=.int .i64 j∧sz=.int .i64 ((Ls.take j).flatten.length:Nat)∧Below w.heap.size w wr) (fun _ _ iv _=>n-(intOf iv).toNat)
 case atStart=>exact ⟨0,Nat.zero_le _,rfl,rfl,Below.refl _ _⟩
 case round=>
  obtain ⟨j,hj,rfl,rfl,hE0⟩:=hrel;by_cases hjn:j<n
  ·have zj:decide ((j:Int)<(n:Int))=true:=decide_eq_true (by omega);have hjl:j<Ls.length:=by have:=HN.out;omega
   have hjv:j<vs.length:=by have:=HV.out;omega
   obtain ⟨c0,hs⟩:=HC.out j hjl hjv;obtain ⟨x,hx⟩:=ae (vs[j]);rw [←hx] at c0 hs;have c0:=aA hE0 c0;obtain ⟨a1,c1,rfl,_,_⟩:=bB.out hs;rw [bA] at c0;have h1:=zR hjl;have h2:=MS Ls (j+1);obtain ⟨q,hq⟩:=ae ((Ls.take j).flatten.length);obtain ⟨q2,hq2⟩:∃q,q=Ls[j].length:=⟨_,rfl⟩;have h3:(Ls.take (j+1)).flatten.length=q+q2:=by rw [h1,List.length_append,hq,hq2]
   have VM:q+q2<1000000:=by rw [←h3];exact Nat.lt_of_le_of_lt h2 HSM.out
   rw [←hq];rw [←hq2] at c0;have z2:decide ((q:Int)+(q2:Int)<0)=false:=decide_eq_false (by omega);have H3:=aa h3;clear h1 h2 h3 hs hx hq hq2;go_wp2_with fail;go_roundw
   case rel=>exact ⟨j+1,by omega,by simp,by rw [H3.out];simp,hE0⟩
   case measure=>simp [intOf];omega
  ·have zj:decide ((j:Int)<(n:Int))=false:=decide_eq_false (by omega);obtain rfl:j=n:=by omega
   have ht:Ls.take j=Ls:=List.take_of_length_le (by rw [←HN.out];exact Nat.le_refl _);rw [ht];obtain ⟨N,hN⟩:=ae Ls.flatten.length;rw [←hN];have GR:=aa (Sy (w:=wr) N (by rw [hN];exact HSM.out));have mF:=aa hN;clear ht hN;go_wp2_with fail;refine GR.out.mono ?_;rintro e w1 ⟨r0,rfl,o0,hb1⟩;have hs1:=hb1.size;have hs0:=hE0.size;have hb1:=hE0.trans (hb1.mono hs0);have o0:=aV o0 hs0;go_wp2_with fail;go_loopw [6,8,27] (fun r _ iv wr=>∃i:Nat,i≤j∧iv=.int .i64 i∧wr.ownsRow w.heap.size aM 1 r (Ls.take i).flatten.length (aN (Ls.take i).flatten)∧Below w.heap.size w wr) (fun _ _ iv _=>j-(intOf iv).toNat)
   case atStart=>exact ⟨0,Nat.zero_le _,rfl,o0,hb1⟩
   case round=>
    obtain ⟨i,hi,rfl,hr,hE⟩:=hrel;by_cases hij:i<j
    ·have zi:decide ((i:Int)<(j:Int))=true:=decide_eq_true (by omega);have hil:i<Ls.length:=by have:=HN.out;omega
     have hiv:i<vs.length:=by have:=HV.out;omega
     obtain ⟨c0,hs⟩:=HC.out i hil hiv;obtain ⟨x,hx⟩:=ae (vs[i]);rw [←hx] at c0 hs;have c0:=aA hE c0;have hs:=hs.mono hE;have h1:=zR hil;have h2:=MS Ls (i+1);obtain ⟨P,hP⟩:=ae ((Ls.take i).flatten);obtain ⟨L,hL⟩:=ae (Ls[i]);rw [←hP] at hr h1;rw [←hL] at hs h1;have VM:P.length+L.length<1000000:=by
      have:=HSM.out;rw [h1,List.length_append] at h2;omega
     have H1:=aa h1;have hE1:=hE.size;clear h1 h2 hx hP hL
     go_wp2_with (
      refine bN rfl _ _ 52 rfl w.heap.size aM (.int .i32 0) 4 bT _ _ _ rfl hr _ (aN L) rfl hs (by simp [aN,Value.oneCell']) (by rw [bA];unfold maxLen;omega) (by rw [bA];omega) (by omega) ?_
      intro v2 w2 o2 hg2)
     go_roundw
     case rel=>
      refine ⟨i+1,by omega,by simp,?_,hE.grown hg2 (by omega) (fun k hk=>(hr.lt k hk).1)⟩;rw [H1.out,List.length_append,aZ];rw [bA] at o2;exact o2
     case measure=>simp [intOf];omega
    ·have zi:decide ((i:Int)<(j:Int))=false:=decide_eq_false (by omega);obtain rfl:i=j:=by omega
     have ht:Ls.take i=Ls:=List.take_of_length_le (by rw [←HN.out];exact Nat.le_refl _);rw [ht,←mF.out] at hr;have HR:=aa hr;clear hr ht;go_wp2;go_ret;exact ⟨_,rfl,by rw [mF.out] at HR;exact HR.out,hE⟩
def sP (T:List aH) (c:Nat):Bool:=decide (bL T c=[])&&decide (hk c<4)
theorem Jb {w:World} {p:Nat} {T:List aH} {X:List Nat} (h:b_ w p T X) (hV:aY T X) (hl:T.length<1000) (c:Nat) (hc:c<1114112) :
 Calls Tryz.prog 172 #[.pointer (some ⟨p,0,none⟩),.int .i32 c] w fun e w'=>e=.returned (.bool (sP T c))∧Below w.heap.size w w':=by
 by_cases hm:bL T c=[]
 ·have FI:=aa (zo h hV c hc hm);have HG:=aa (fun (W:World)=>ql (w:=W) c hc);have hp:sP T c=decide (hk c<4):=by unfold sP;rw [decide_eq_true hm,Bool.true_and]
  rw [hp];obtain ⟨k,hk⟩:=ae (hk c);rw [←hk] at HG ⊢;have hd:decide (k<4)=decide ((k:Int)<4):=by rw [decide_eq_decide];omega
  rw [hd];clear h hm hp hk hd;go_enter Tryz.func172,Tryz.ntmps172;go_wp2_with fail;refine FI.out.mono ?_;rintro e w1 ⟨rfl,hb1⟩;go_wp2_with fail;refine (HG.out _).mono ?_;rintro e w2 ⟨rfl,rfl⟩;go_wp2;go_ret;exact ⟨rfl,hb1.alloc hb1.size _⟩
 ·have FI:=aa (xg h hV hl c hc hm);have hp:sP T c=false:=by unfold sP;rw [decide_eq_false hm,Bool.false_and]
  rw [hp];clear h hm hp;go_enter Tryz.func172,Tryz.ntmps172;go_wp2_with fail;refine FI.out.mono ?_;rintro e w1 ⟨a1,n1,c1,a2,n2,c2,b,rfl,_,hb1⟩;go_wp2;go_ret;exact ⟨rfl,hb1.alloc hb1.size _⟩
def bgU (T:List aH) (c:Nat):List Nat:=(((mapped T).map (·.code)).filter fun x=>(aC T x).head? == some c)++fV c++if sP T c=true then [c] else []
def xQ (T:List aH) (c:Nat):List Nat:=cK (bgU T c)
theorem Lm {T:List aH} {E:List dZ} (h:E.map (·.1)=(mapped T).map (·.code)) (c:Nat):uy T E c=((mapped T).map (·.code)).filter fun x=>(aC T x).head? == some c:=by
 rw [←h];unfold uy;rw [List.filter_map];rfl
theorem xx (c:Nat):(fV c).length≤1000:=by
 unfold fV
 split
 ·simp
 ·first
  | (split <;> simp)
  | simp
theorem EW {w:World} {p:Nat} {T:List aH} {X:List Nat} (h:b_ w p T X) (hV:aY T X) (hl:T.length<1000) (c:Nat) (hc:aP c) :
 Calls Tryz.prog 135 #[.pointer (some ⟨p,0,none⟩),.int .i32 c] w fun e w'=>∃r,e=.returned r∧w'.ownsRow w.heap.size aM 1 r (xQ T c).length (aN (xQ T c))∧Below w.heap.size w w':=by
 have h':=h;obtain ⟨E,rv,xv,ev,bM,jM,cp,pp,iv,sv,mv,h1,h2,h3,_⟩:=h;obtain ⟨G,hG,hG2,hG3⟩:=h1.bm;obtain ⟨BE,hBE⟩:=ae (((mapped T).map (·.code)).filter fun x=>(aC T x).head? == some c);have hbe:uy T E c=BE:=by rw [hBE];exact Lm h1.lC c
 obtain ⟨uv,huw,Jc⟩:∃uv,bB w uv (aN BE)∧(((∀v,¬G (.int .i32 c) v)∧uv=.slice none 0 0)∨G (.int .i32 c) uv):=by
  by_cases hg:∃v,G (.int .i32 c) v
  ·obtain ⟨v,hv⟩:=hg;obtain ⟨c2,e,hw⟩:=hG2 _ _ hv;have:c2=c:=by injection e with _ e;omega
   subst this;rw [hbe,←bA] at hw;exact ⟨v,(Sl.aW hw).any,.inr hv⟩
  ·have hno:∀u,¬G (.int .i32 c) u:=fun u hu=>hg ⟨u,hu⟩;have:=hG3 c hno;rw [hbe] at this;rw [this];exact ⟨_,⟨none,0,rfl,Nat.le_refl _,.inl ⟨rfl,fun _=>rfl⟩⟩,.inl ⟨hno,rfl⟩⟩
 have hBl:BE.length<1000:=by
  rw [hBE];refine Nat.lt_of_le_of_lt (List.length_filter_le _ _) ?_;rw [List.length_map];exact Nat.lt_of_le_of_lt (List.length_filter_le _ _) hl
 obtain ⟨ua,uc,hue,_,_⟩:=bB.out huw;subst hue;obtain ⟨uv,huv⟩:=ae (Value.slice ua (aN BE).length uc);obtain ⟨nu,hnu⟩:=ae ((aN BE).length);rw [←hnu] at huw Jc;clear huv uv hnu;have hkey:=x8 c (by have:=hc.1;omega);have hz:=fun W=>Tryz.zeroValue52 W;have HBG:=aa (fun (W:World)=>F9 (w:=W) c hc.1);have hHl:=xx c;have IS:=aa (fun (W:World)=>iG (w:=W) c (by have:=hc.1;omega));rw [decide_eq_true hc] at IS;have PL:=aa (fun (W:World) (E:Below w.heap.size w W)=>Jb (h'.mono E) hV hl c hc.1);obtain ⟨H,hH⟩:=ae (fV c);obtain ⟨pb,hpb⟩:=ae (sP T c);rw [←hH] at HBG hHl;rw [←hpb] at PL;have hR:xQ T c=cK (BE++H++if pb=true then [c] else []):=by unfold xQ bgU;rw [hBE,hH,hpb]
 rw [hR];have i1:=h1.is;have hbM:bM<w.heap.size:=hG.lt;have g0:=uW.keeps (S:=fun k=>k=p∨k=bM) ((i1.mono (ag w)).at 5 rfl) (.inl rfl);have hGd:=hG.mono (ag w);have hp9:=i1.lt;clear h1 h2 h3 hG2 hG3 hbe hH hpb hR hBE h' hG i1;go_enter Tryz.func135,Tryz.ntmps135;go_wp2_with fail;refine dY (KR.blocks fun k=>k=p∨k=bM) (Array.replicate 11 true) 11 0 mixed (by rfl) ?_;refine dL [0,1,2,3,4,5,6] 4 rfl (by kernel_rfl) ?_
 iterate 5 (refine aB rfl ?_;go_big_quiet_step (rfl))
 refine aB rfl ?_;refine y7 rfl ?_;refine wY _ _ 98 52 rfl jB Tryz.underlying98 hGd (.inr rfl) rfl rfl hkey hz (.slice ua nu uc) Jc ?_;simp only [Act.put,List.setIfInBounds_toArray,List.set_cons_succ,List.set_cons_zero]
 iterate 1 (refine aB rfl ?_;go_big_quiet_step (rfl))
 refine az ?_;refine bV 7 (by kernel_rfl) rfl ?_;go_wp2_with fail;refine (HBG.out w.drew).mono ?_;rintro e w1 ⟨r1,rfl,o1,hb1⟩;obtain ⟨ra,rc,rfl,_,_⟩:=ak o1;have hs1:=hb1.size;have hsd:w.drew.heap.size=w.heap.size:=rfl;go_wp2_with fail;refine bG (KR.of_below hb1 hb1.size (fun k (hk:k=p∨k=bM)=>by rcases hk with rfl|rfl <;> omega)) ?_;refine bV 8 (by kernel_rfl) rfl ?_;go_wp2_with fail;have hb2:=af (w:=w1) (.cells #[.slice ua nu uc,.slice ra H.length rc] 52);refine bG (KR.of_below hb2 hb2.size (fun k (hk:k=p∨k=bM)=>by rcases hk with rfl|rfl <;> omega)) ?_;have hB2:Below w.heap.size w (w1.alloc (.cells #[.slice ua nu uc,.slice ra H.length rc] 52)):=((ag w).trans hb1).trans (hb2.mono hs1);have i2:=Is.new w1 #[.slice ua nu uc,.slice ra H.length rc] 52;have so1:bB w1 (.slice ra H.length rc) (aN H):=(Sl.aW o1).any
 have CC:=aa (Ll (w:=w1.alloc (.cells #[.slice ua nu uc,.slice ra H.length rc] 52)) (b:=w1.heap.size) (n:=2) (c:=2) (Ls:=[BE,H]) (vs:=[.slice ua nu uc,.slice ra H.length rc]) rfl rfl (fun k hk hk'=>by
  rcases k with _|_|k
  ·exact ⟨i2.at 0 rfl,huw.mono hB2⟩
  ·exact ⟨i2.at 1 rfl,so1.mono hb2⟩
  ·exact absurd hk (by simp)) (by simp;omega) (by decide))
 rw [show [BE,H].flatten=BE++H by simp] at CC;refine bV 9 (by kernel_rfl) rfl ?_;go_wp2_with fail;refine CC.out.mono ?_;rintro e w3 ⟨r3,rfl,o3,hb3⟩;obtain ⟨a3,c3,rfl,_,_⟩:=ak o3;rw [List.length_append] at o3 ⊢;go_wp2_with fail;refine bG (KR.of_below hb3 hb3.size (fun k (hk:k=p∨k=bM)=>by simp;rcases hk with rfl|rfl <;> omega)) ?_;refine dL [10] 0 rfl (by kernel_rfl) ?_
 iterate 1 (refine aB rfl ?_;go_big_quiet_step (rfl))
 refine az ?_;refine fM [] (by kernel_rfl) ?_;refine tail_nil ?_;have hB3:Below w.heap.size w w3:=hB2.trans (hb3.mono (by simp;omega));have o3:=aV o3 (show w.heap.size≤(w1.alloc (.cells #[.slice ua nu uc,.slice ra H.length rc] 52)).heap.size by simp;omega);have IS3:=aa (IS.out w3);have PL3:=aa (PL.out w3 hB3);have O3:=aa o3;have hs3:=hB3.size;have oln:(BE++H).length<2000:=by rw [List.length_append];omega
 clear CC HBG IS PL so1 i2 o1 hb1 hb2 hb3 Jc hGd g0 hkey hz o3;go_wp2_with fail;refine IS3.out.mono ?_;rintro e w4 ⟨rfl,rfl⟩;go_wp2_with fail;refine PL3.out.mono ?_;rintro e w5 ⟨rfl,hb5⟩;have rZ:=hB3.trans (hb5.mono hs3);have hs5:=rZ.size;obtain ⟨L,hL⟩:=ae (BE++H);rw [←hL] at O3 oln;have HL:=aa hL;have o5:=aG O3.out hb5;have alY:=hb5.size;clear hL;have hln:BE.length+H.length=L.length:=by rw [HL.out,List.length_append]
 rw [hln] at o5 ⊢;cases pb with
 | false=>
   have SO:=aa (uf L o5 (by omega));clear O3 o5;go_wp2_with fail;refine SO.out.mono ?_;rintro e w6 ⟨rfl,o6,JH⟩;have oz:=rZ.grown JH hs5 (fun k hk=>(o6.lt k hk).1);have O6:=aa o6;clear SO o6 JH;go_wp2;go_ret;refine ⟨_,rfl,?_,oz⟩;rw [←HL.out,fB];exact O6.out
 | true=>
   go_wp2_with (at_builtin;refine fH rfl _ _ 52 rfl w.heap.size aM _ 4 bT _ L.length _ rfl o5 _ rfl rfl (by omega) (by unfold maxLen;omega) w rZ (Nat.le_refl _) ?_;intro v' w6 o6 oz);rw [show aN L++[.int .i32 (c:Nat)]=aN (L++[c]) by rw [aZ];rfl,show L.length+1=(L++[c]).length by simp] at o6;have SO:=aa (uf (L++[c]) o6 (by simp;omega));have hs6:=oz.size;clear O3 o5 o6;go_wp2_with fail;refine SO.out.mono ?_;rintro e w7 ⟨rfl,o7,hg7⟩;have hB7:=oz.grown hg7 hs6 (fun k hk=>(o7.lt k hk).1);have O7:=aa o7;clear SO o7 hg7;go_wp2;go_ret;refine ⟨_,rfl,?_,hB7⟩;rw [←List.append_assoc,←HL.out,fB];exact O7.out
def VN (rs:List cO):Prop:=∀r∈rs,aP r.1∧∀x∈r.2,∀y∈x.2,aP y
theorem Sz {n c:Nat} {Ls:List (Nat×List Nat)} (hc:aP c) (h:∀x∈Ls,∀y∈x.2,aP y):∀x∈xM n c Ls,∀y∈x.2,aP y:=by
 unfold xM
 split
 ·rename_i m l hlast
  have hm:(m,l)∈Ls:=List.mem_of_getLast? hlast
  split
  ·intro x hx y hy
   rcases List.mem_append.1 hx with hx|hx
   ·exact h x (List.dropLast_subset _ hx) y hy
   ·rw [List.mem_singleton.1 hx] at hy
    rcases List.mem_append.1 hy with hy|hy
    ·exact h _ hm y hy
    ·rw [List.mem_singleton.1 hy];exact hc
  ·intro x hx y hy
   rcases List.mem_append.1 hx with hx|hx
   ·exact h x hx y hy
   ·rw [List.mem_singleton.1 hx] at hy
    rw [List.mem_singleton.1 hy];exact hc
 ·intro x hx y hy
  rcases List.mem_append.1 hx with hx|hx
  ·exact h x hx y hy
  ·rw [List.mem_singleton.1 hx] at hy
   rw [List.mem_singleton.1 hy];exact hc
theorem sQ:aP 0:=by decide
theorem MU (K:Nat→Nat) {l:List Nat} (hl:∀c∈l,aP c):VN (bu K l):=by
 have key:∀(l:List Nat) (rs:List cO),(∀c∈l,aP c)→VN rs→VN (l.foldl (A9 K) rs):=fun l=>by
  induction l with
  | nil=>intro rs _ h;exact h
  | cons c l ih=>
    intro rs hc h
    refine ih _ (fun y hy=>hc y (.tail _ hy)) ?_
    have h0:=hc c (.head _)
    unfold A9
    split
    ·intro r hr
     rcases List.mem_append.1 hr with hr|hr
     ·exact h r hr
     ·rw [List.mem_singleton.1 hr]
      exact ⟨h0,by simp⟩
    ·have hlast:aP (rs.getLastD (0,[])).1∧∀x∈(rs.getLastD (0,[])).2,∀y∈x.2,aP y:=by
      rcases List.eq_nil_or_concat rs with e|⟨q,z,e⟩
      ·subst e
       exact ⟨sQ,by simp⟩
      ·have e:rs=q++[z]:=by simpa using e
       rw [e,List.getLastD_concat]
       exact h z (by rw [e];simp)
     intro r hr
     rcases List.mem_append.1 hr with hr|hr
     ·exact h r (List.dropLast_subset _ hr)
     ·rw [List.mem_singleton.1 hr]
      exact ⟨hlast.1,Sz h0 hlast.2⟩
 refine key l _ hl fun r hr=>?_
 rw [List.mem_singleton.1 hr]
 exact ⟨sQ,by simp⟩
theorem zS {R:List cO} (h:VN R) (s:gX):∀x∈mD R s,aP x:=by
 have hrun:∀k,aP (aL R k).1∧∀x∈(aL R k).2,∀y∈x.2,aP y:=fun k=>by
  unfold aL
  rw [List.getD_eq_getElem?_getD]
  by_cases hk:k<R.length
  ·rw [List.getElem?_eq_getElem hk]
   exact h _ (List.getElem_mem hk)
  ·rw [List.getElem?_eq_none (by omega)]
   exact ⟨sQ,by simp⟩
 have af8:∀(ms:List Nat) (L:List (Nat×List Nat)) (n:Nat),(∀x∈L,∀y∈x.2,aP y)→∀x∈iN ms L n,aP x:=fun ms L n hL x hx=>by
  obtain ⟨i,_,hi⟩:=List.mem_flatMap.1 hx
  unfold uK at hi
  split at hi
  ·rename_i hlt
   rw [List.mem_singleton.1 hi]
   by_cases Su:i<L.length
   ·have e:L.getD i (0,[])=L[i]:=by rw [List.getD_eq_getElem?_getD,List.getElem?_eq_getElem Su];rfl
    rw [e] at hlt ⊢
    rw [List.getD_eq_getElem?_getD,List.getElem?_eq_getElem hlt]
    exact hL _ (List.getElem_mem Su) _ (List.getElem_mem hlt)
   ·have e:L.getD i (0,[])=(0,[]):=by rw [List.getD_eq_getElem?_getD,List.getElem?_eq_none (by omega)];rfl
    rw [e] at hlt
    exact absurd hlt (by simp)
  ·cases hi
 intro x hx
 unfold mD at hx
 split at hx
 ·split at hx
  ·rw [List.mem_singleton.1 hx];exact (hrun _).1
  ·cases hx
 ·exact af8 _ _ _ (hrun _).2 x hx
theorem VO {T:List aH} (h:T.length<1000) (c:Nat):(bgU T c).length≤2000:=by
 have h1:=xx c
 have h2:(((mapped T).map (·.code)).filter fun x=>(aC T x).head? == some c).length≤T.length:=by
  refine Nat.le_trans (List.length_filter_le _ _) ?_
  rw [List.length_map]
  exact List.length_filter_le _ _
 unfold bgU
 rw [List.length_append,List.length_append]
 split
 ·simp;omega
 ·simp;omega
theorem MV {T:List aH} (h:T.length<1000) (c:Nat):(xQ T c).length≤2000:=by unfold xQ;rw [fB];exact VO h c
theorem Jd {c x:Nat} (h:x∈fV c) (_:aP c):aP x:=by
 unfold fV at h
 split at h
 ·rename_i h1
  have hr:=Qy.1 h1
  obtain ⟨i,hi,rfl⟩:=List.mem_map.1 h
  have:=List.mem_range.1 hi
  unfold aP
  omega
 ·cases h
theorem MW {T:List aH} {X:List Nat} (hV:aY T X) {c:Nat} (hc:aP c):∀x∈xQ T c,aP x:=by
 intro x hx
 rw [xQ,vz] at hx
 unfold bgU at hx
 rcases List.mem_append.1 hx with hx|hx
 ·rcases List.mem_append.1 hx with hx|hx
  ·obtain ⟨r,hr,rfl⟩:=List.mem_map.1 (List.mem_filter.1 hx).1
   exact (hV.fine r (List.mem_filter.1 hr).1).1
  ·exact Jd hx hc
 ·split at hx
  ·rw [List.mem_singleton.1 hx];exact hc
  ·cases hx
theorem CW.form {e:Ending} {w:World} {o:Option gX} (h:CW e w o):∃k a m c,e=.returned (.tuple #[.agg #[.int .i64 k,.slice a m c],.bool o.isSome]):=by
 cases o with
 | none=>exact ⟨_,_,_,_,h⟩
 | some s=>
   obtain ⟨v,rfl,sv,rfl,hs⟩:=h
   obtain ⟨a,c,rfl,_,_⟩:=bB.out hs.any
   exact ⟨_,_,_,_,rfl⟩
theorem Lp {G:Nat→List Nat} {l:List Nat} {i:Nat} (hi:i<l.length):(l.take (i+1)).flatMap G=(l.take i).flatMap G++G l[i]:=by
 rw [List.take_succ_eq_append_getElem hi,List.flatMap_append];simp
theorem qH {G:Nat→List Nat} {b:Nat} (hG:∀x,(G x).length≤b):∀l:List Nat,(l.flatMap G).length≤l.length*b
 | []=>by simp
 | x::l=>by
   have:=qH hG l
   have:=hG x
   rw [List.flatMap_cons,List.length_append,List.length_cons,Nat.succ_mul];omega
theorem Po {q:Nat→Bool} {l:List Nat} {j:Nat} (hj:j<l.length):(l.take (j+1)).filter q=(l.take j).filter q++if q l[j]=true then [l[j]] else []:=by
 rw [List.take_succ_eq_append_getElem hj,List.filter_append]
 congr 1
 cases h:q l[j] <;> simp [h]
theorem EY {w:World} {B p dp:Nat} {T:List aH} {X:List Nat} {l:List Nat} (hD:b_ w dp T X) (hV:aY T X) (qG:T.length<1000) (h:eO w B p dp (ai T) l) (hl:l.length<400) (hlc:∀c∈l,aP c) (hsm:eB (bu (ai T) l)≤16384) {v:Value} {s:gX} (hs:zP w v s) (ho:jG (bu (ai T) l) s) :
 Calls Tryz.prog 98 #[.pointer (some ⟨p,0,none⟩),v] w fun e w'=>∃r,e=.returned r∧w'.ownsRow w.heap.size aM 1 r (cK (sN (ai T) (aC T) (xQ T) (bu (ai T) l) s)).length (aN (cK (sN (ai T) (aC T) (xQ T) (bu (ai T) l) s)))∧Below w.heap.size w w':=by
 obtain ⟨g,rc,iC,small,Es,hR⟩:=h.read
 obtain ⟨sv,rfl,hsv⟩:=id hs
 obtain ⟨sa,sc,rfl,_,_⟩:=bB.out hsv.any
 obtain ⟨m,hm⟩:=ae ((bJ (nz s.2)).length)
 rw [←hm] at hs hsv ⊢
 have hb0:=af (w:=w) (.cells #[.int .i64 (s.1:Nat),.slice sa m sc] 199)
 have hFc:=zS (MU (ai T) hlc) s
 have hFl:=zO (bu (ai T) l) s
 have hrun:=(eZ (ai T) l).2.2 _ (show aL (bu (ai T) l) s.1∈bu (ai T) l by rw [dR ho.lt];exact List.getElem_mem _)
 have FI:=aa (Lj (h.mono hb0) (by omega) hsm (hs.mono hb0) ho)
 have BG:=aa (fun (W:World) (E:Below w.heap.size w W) (c:Nat) (hc:aP c)=>EW (hD.mono E) hV qG c hc)
 have ST:=aa (fun (W:World) (E:Below w.heap.size w W) (c:Nat) (hc:aP c)=>CX (hD.mono E) hV qG (h.mono E) (by omega) hsm (hs.mono E) ho c hc)
 have hbc:=fun (c:Nat) (hc:aP c)=>MW hV hc
 have hbl:=fun c=>MV qG c
 have hO:sN (ai T) (aC T) (xQ T) (bu (ai T) l) s=(mD (bu (ai T) l) s).flatMap fun x=>(xQ T x).filter fun c=>(iw (ai T) (aC T) (bu (ai T) l) s c).isSome:=rfl
 rw [hO]
 obtain ⟨F,hF⟩:=ae (mD (bu (ai T) l) s)
 obtain ⟨q,hq⟩:∃q:Nat→Bool,q=fun c=>(iw (ai T) (aC T) (bu (ai T) l) s c).isSome:=⟨_,rfl⟩
 obtain ⟨Bg,hBg⟩:=ae (xQ T)
 rw [←hF] at hFc hFl FI
 rw [←hF,←hq,←hBg]
 rw [←hBg] at hbc hbl BG
 have hST:∀(W:World) (E:Below w.heap.size w W) (c:Nat) (hc:aP c),Calls Tryz.prog 99 #[.pointer (some ⟨p,0,none⟩),.agg #[.int .i64 (s.1:Nat),.slice sa m sc],.int .i32 c] W fun e w'=>(∃k a m c',e=.returned (.tuple #[.agg #[.int .i64 k,.slice a m c'],.bool (q c)]))∧Below W.heap.size W w':=fun W E c hc=>(ST.out W E c hc).mono fun e w' ⟨h1,h2⟩=>⟨by rw [hq];exact h1.form,h2⟩
 have HST:=aa hST
 have HBC:=aa hbc
 have HFC:=aa hFc
 have hIs:=hR.is
 have hF9:F.length≤401:=by have:=hrun.1;omega
 obtain ⟨G,hG⟩:∃G:Nat→List Nat,G=fun x=>(Bg x).filter q:=⟨_,rfl⟩
 have hGl:∀x,(G x).length≤2000:=fun x=>by rw [hG];exact Nat.le_trans (List.length_filter_le _ _) (hbl x)
 have HG:=aa hG
 have Xl:=aa hGl
 have Yn:=aa hbl
 rw [←hG]
 obtain ⟨k,hk⟩:=ae s.1
 rw [←hk] at hb0 FI HST ⊢
 clear h hR hsv hs hm hF hq hBg hO ST hST hFc hFl hbc hbl hrun hG hGl hD ho hk
 go_enter Tryz.func98,Tryz.ntmps98
 go_wp2_with fail
 refine FI.out.mono ?_
 rintro e w1 ⟨r1,rfl,o1,hb1⟩
 have hB1:=hb0.trans (hb1.mono hb0.size)
 have hs1:=hB1.size
 have k0:Is w1 w.heap.size #[.int .i64 (k:Nat),.slice sa m sc] 199:=(Is.new w _ _).mono hb1
 obtain ⟨n,hn⟩:=ae F.length
 have hsl:=(Sl.aW o1).any
 obtain ⟨a1,c1,rfl,_,hx⟩:=Go.Proofs.YtmpkfkoficehpaaGreatDoor.bB.Ef hsl hn
 have HX:=aa hx
 have HN:=aa hn
 have qO:n≤401:=by rw [hn];exact hF9
 clear o1 hsl hx hn FI hF9
 go_wp2_with fail
 go_loopw [5,7,9,10,11,16,27] (fun o _ _ _ _ iv _ wr=>∃i:Nat,i≤n∧iv=.int .i64 i∧wr.ownsRow w1.heap.size aM 1 o ((F.take i).flatMap G).length (aN ((F.take i).flatMap G))∧Below w1.heap.size w1 wr) (fun _ _ _ _ _ iv _ _=>n-(intOf iv).toNat)
 case atStart=>exact ⟨0,Nat.zero_le _,rfl,World.ownsRow_nil _ _ _ _,Below.refl _ _⟩
 case round=>
  obtain ⟨i,hi,rfl,hrow,hE⟩:=hrel
  by_cases hin:i<n
  ·have zi:decide ((i:Int)<(n:Int))=true:=decide_eq_true (by omega)
   have hil:i<F.length:=by have:=HN.out;omega
   obtain ⟨b,off,rfl,_,c0⟩:=HX.out i hil
   have c0:=aA hE c0
   have hft:=Lp (G:=G) hil
   have hfl:=qH Xl.out (F.take i)
   rw [List.length_take,Nat.min_eq_left (by omega)] at hfl
   have WX:=HFC.out _ (List.getElem_mem hil)
   obtain ⟨x,hx⟩:=ae (F[i])
   obtain ⟨P,hP⟩:=ae ((F.take i).flatMap G)
   rw [←hx] at c0 hft WX
   rw [←hP] at hft hfl hrow
   have YT:=aa hft
   have hEr:=hB1.trans (hE.mono hs1)
   have Bf:=hEr.size
   have BGr:=aa (BG.out wr hEr x WX)
   have hcc:=HBC.out x WX
   have hcl:=Yn.out x
   have p0:=(hIs.mono hEr).at 0 rfl
   clear hft hx hP
   go_wp2_with fail
   refine BGr.out.mono ?_
   rintro e w2 ⟨r2,rfl,o2,hb2⟩
   have hE2:=hE.trans (hb2.mono hE.size)
   have al0:=hEr.trans (hb2.mono Bf)
   obtain ⟨n2,hn2⟩:=ae ((Bg x).length)
   have hsl2:=(Sl.aW o2).any
   obtain ⟨a2,c2,rfl,_,hx2⟩:=Go.Proofs.YtmpkfkoficehpaaGreatDoor.bB.Ef hsl2 hn2
   have JK:=aa hx2
   have HN2:=aa hn2
   have Xz:=aa hcc
   have hrow2:=aG hrow hb2
   have al1:n2≤2000:=by rw [hn2];exact hcl
   have o2':w2.ownsRow w1.heap.size aM 1 (.slice a2 n2 c2) n2 (aN (Bg x)):=aV (hn2▸o2) hE.size
   have af_:wP (.slice a2 n2 c2) u5:=fun k hk hk'=>by
    have h1:=(o2.lt k hk).1
    have h2:=(hrow.lt k hk').2
    omega
   clear o2 hsl2 hx2 hn2 hcc BGr p0 hcl hrow
   go_wp2_with fail
   go_loopw [5,9,10,11,27] (fun o _ _ _ jv wr=>∃j:Nat,j≤n2∧jv=.int .i64 j∧wr.ownsRow w1.heap.size aM 1 o (P++((Bg x).take j).filter q).length (aN (P++((Bg x).take j).filter q))∧Below w1.heap.size w1 wr∧wr.ownsRow w1.heap.size aM 1 (.slice a2 n2 c2) n2 (aN (Bg x))∧wP (.slice a2 n2 c2) o) (fun _ _ _ _ jv _=>n2-(intOf jv).toNat)
   case atStart=>exact ⟨0,Nat.zero_le _,rfl,by rw [List.take_zero,List.filter_nil,List.append_nil];exact hrow2,hE2,o2',af_⟩
   case round=>
    obtain ⟨j,hj,rfl,YW,Ua,hrb,hap⟩:=hrel
    by_cases hjn:j<n2
    ·have zj:decide ((j:Int)<(n2:Int))=true:=decide_eq_true (by omega)
     have hjl:j<(Bg x).length:=by have:=HN2.out;omega
     obtain ⟨b2,cap2,he2,_,_,_,_,ab9⟩:=dw hrb (show 0<n2 by omega)
     injection he2 with he2 _ Ja
     subst he2 Ja
     have d0:=ab9 j (.int .i32 ((Bg x)[j]:Nat)) (by rw [List.getElem?_eq_getElem (by rw [bA];exact hjl),dM _ _ hjl])
     clear ab9
     have hft:=Po (q:=q) hjl
     have hyc:=Xz.out _ (List.getElem_mem hjl)
     have aca:=List.length_filter_le q ((Bg x).take j)
     rw [List.length_take,Nat.min_eq_left (by omega)] at aca
     obtain ⟨y,hy⟩:=ae ((Bg x)[j])
     obtain ⟨S,hS⟩:=ae (((Bg x).take j).filter q)
     rw [←hy] at d0 hft hyc
     rw [←hS] at hft YW aca
     have acb:=aa hft
     have hBt:=hB1.trans (Ua.mono hs1)
     have hst:=hBt.size
     have STt:=aa (HST.out wr hBt y hyc)
     have e0:=(k0.mono Ua).at 0 rfl
     have e1:=(k0.mono Ua).at 1 rfl
     have hln:(P++S).length<900000:=by rw [List.length_append];omega
     obtain ⟨Q,hQ⟩:=ae (P++S)
     rw [←hQ] at YW hln
     have HQ:=aa hQ
     clear hft hy hS hQ
     go_wp2_with fail
     refine STt.out.mono ?_
     rintro e w6 ⟨⟨k',a',m',c',rfl⟩,hb6⟩
     have iM:=Ua.trans (hb6.mono Ua.size)
     have hbn:=af (w:=w6) (.cells #[.int .i64 k',.slice a' m' c'] 199)
     have sD:=iM.trans (hbn.mono iM.size)
     have acd:=aG (aG hrb hb6) hbn
     have hAP:=aa hap
     have VP:=aG (aG YW hb6) hbn
     obtain ⟨qy,hqy⟩:=ae (q y)
     rw [←hqy]
     have HQY:=aa hqy
     clear STt e0 e1 YW hqy iM hrb hap
     cases qy with
     | true=>
       have VQ:=aG VP (af (.cells #[.int .i32 (y:Nat)] aM))
       have ace:=aa (aG acd (af (.cells #[.int .i32 (y:Nat)] aM)))
       have jW:=aa (sD.trans ((af (.cells #[.int .i32 (y:Nat)] aM)).mono sD.size))
       have hz8:=jW.out.size
       simp only [World.size_alloc] at hz8
       have agc:=sD.size
       simp only [World.size_alloc] at agc
       go_wp2_with (at_builtin;refine lS rfl _ _ 52 rfl w1.heap.size aM (.int .i32 0) 4 bT (by decide) rfl VQ (by simp;omega) [.int .i32 (y:Nat)] (by simp [Value.oneCell']) ⟨w6.heap.size+1,0,none⟩ 1 1 rfl rfl (fun i u hi=>by rcases i with _|i;cases hi;exact (Is.new' (w6.alloc (.cells #[.int .i64 k',.slice a' m' c'] 199)) #[.int .i32 (y:Nat)] aM (w6.heap.size+1) (by simp)).at 0 rfl;cases hi) (by omega) ?_;intro v' w8 o8 Lr hn8)
       go_roundw
       case rel=>
        refine ⟨j+1,by omega,by simp,?_,jW.out.grown Lr (by simp;omega) (fun k hk=>(VQ.lt k hk).1),wP.stays hAP.out ace.out Lr,hAP.out.push (fun k hk=>(ace.out.lt k hk).2) hn8⟩
        rw [acb.out,←HQY.out,if_pos rfl,←List.append_assoc,←HQ.out,aZ,List.length_append]
        exact o8
       case measure=>simp [intOf];omega
     | false=>
       go_wp2_with fail
       go_roundw
       case rel=>
        refine ⟨j+1,by omega,by simp,?_,sD,acd,hAP.out⟩
        rw [acb.out,←HQY.out,if_neg (by simp),List.append_nil,←HQ.out]
        exact VP
       case measure=>simp [intOf];omega
    ·have zj:decide ((j:Int)<(n2:Int))=false:=decide_eq_false (by omega)
     obtain rfl:j=n2:=by omega
     have ht:(Bg x).take j=Bg x:=List.take_of_length_le (by rw [←HN2.out];exact Nat.le_refl _)
     rw [ht] at YW
     have HRJ:=aa YW
     clear YW ht
     go_wp2_with fail
     go_roundw
     case rel=>
      refine ⟨i+1,by omega,by simp,?_,Ua⟩
      rw [YT.out,HG.out]
      exact HRJ.out
     case measure=>simp [intOf];omega
  ·have zi:decide ((i:Int)<(n:Int))=false:=decide_eq_false (by omega)
   obtain rfl:i=n:=by omega
   have ht:F.take i=F:=List.take_of_length_le (by rw [←HN.out];exact Nat.le_refl _)
   rw [ht] at hrow
   have hfl:=qH Xl.out F
   rw [←HN.out] at hfl
   obtain ⟨P,hP⟩:=ae (F.flatMap G)
   rw [←hP] at hrow hfl
   have SO:=aa (uf P hrow (by omega))
   have HP:=aa hP
   have hEr:=hB1.trans (hE.mono hs1)
   clear hrow ht hP
   go_wp2_with fail
   refine SO.out.mono ?_
   rintro e w6 ⟨rfl,o6,JH⟩
   have oz:=hE.grown JH hE.size (fun k hk=>(o6.lt k hk).1)
   have O6:=aa (aV o6 hs1)
   clear SO o6 JH
   go_wp2
   go_ret
   rw [←HP.out,fB]
   exact ⟨_,rfl,O6.out,hB1.trans (oz.mono hs1)⟩
theorem Lt {w:World} {v:Value} {bs:List Nat} (h:fO w v bs) (hpos:∀b∈bs,1≤b) (hmax:aX bs≤1073741824) (hlen:bs.length<1099511627776) (i:Int) :
 Calls Tryz.prog 131 #[v,.int .i64 i] w fun e w'=>∃r,e=.returned (.tuple #[r,.bool (decide (0≤i∧i<(aX bs:Nat)))])∧Below w.heap.size w w'∧
  (0≤i∧i<(aX bs:Nat)→w'.ownsRow w.heap.size bq 1 r bs.length (ds (EJ bs i.toNat)))∧(¬(0≤i∧i<(aX bs:Nat))→r=.slice none 0 0):=by
 have h':=h;obtain ⟨a1,c1,a2,c2,rfl,_⟩:=h.out;have hb:=af (w:=w) (.cells #[.slice a1 bs.length c1,.slice a2 bs.length c2,.int .i64 (aX bs:Nat)] cB);have IX:oo (w.alloc (.cells #[.slice a1 bs.length c1,.slice a2 bs.length c2,.int .i64 (aX bs:Nat)] cB)) w.heap.size (.slice a1 bs.length c1) (.slice a2 bs.length c2) (.int .i64 (aX bs:Nat)) cB:=⟨heap_alloc_new' _ _ _ rfl⟩;obtain ⟨e0,e1,e2⟩:=IX.cell;have IN:=aa (abZ (h'.mono hb) hpos hmax i);have DG:=aa (fun (W:World) (E:Below w.heap.size w W) (n j:Nat) (hn:n<aX bs) (hj:j<bs.length)=>Sn (h'.mono E) hpos hmax hn hj);clear h h' hpos;by_cases hin:0≤i∧i<(aX bs:Nat)
 ·obtain ⟨n,rfl⟩:∃n:Nat,i=n:=⟨i.toNat,by omega⟩;have hn:n<aX bs:=by omega
  have hdec:decide (0≤(n:Int)∧(n:Int)<(aX bs:Nat))=true:=decide_eq_true hin;rw [hdec] at IN ⊢;have Xj:=aa hin;have HLD:=aa (sK bs n);clear hdec hin;go_enter Tryz.func131,Tryz.ntmps131;go_wp2_with fail;refine IN.out.mono ?_;rintro e w2 ⟨rfl,h2⟩;have J2:=IX.mono h2;have hE2:=ah hb h2;obtain ⟨f0,f1,f2⟩:=J2.cell;go_wp2_with fail;have hS2:=hE2.size;go_loopw [6,15] (fun o i wr=>∃k:Nat,k≤bs.length∧i=.int .i64 k∧wr.ownsRow w2.heap.size bq 1 o k (ds ((EJ bs n).take k))∧Below w2.heap.size w2 wr)
   (fun _ i _=>bs.length-(intOf i).toNat)
  case atStart=>exact ⟨0,Nat.zero_le _,rfl,⟨by simp [ds],.inl (by simp)⟩,Below.refl _ _⟩
  case round=>
   obtain ⟨k,hk,rfl,ho,hE⟩:=hrel;obtain ⟨g0,g1,g2⟩:=(J2.mono hE).cell;by_cases hkl:k<bs.length
   ·have HT:=aa (List.take_succ_eq_append_getElem (show k<(EJ bs n).length by rw [HLD.out];exact hkl));have DGk:=aa (DG.out wr (hE2.trans (hE.mono hE2.size)) n k hn hkl);generalize (EJ bs n)[k]'(by rw [HLD.out];exact hkl)=d at *;go_wp2_with fail;refine DGk.out.mono ?_;rintro e w4 ⟨rfl,h4⟩;have ho4:=aG ho h4;have kZ:=hE.trans (h4.mono hE.size);clear g0 g1 g2;go_wp2_with (at_builtin;refine fH rfl _ _ 23 rfl w2.heap.size bq _ 8 jh _ k _ rfl ho4 _ rfl rfl (by omega) (by unfold maxLen;omega) w2 kZ (Nat.le_refl _) ?_;intro v' w' hown' hb');go_roundw
    case rel=>exact ⟨k+1,by omega,rfl,by rw [HT.out];simpa [ds] using hown',hb'⟩
    case measure=>simp [intOf];omega
   ·obtain rfl:k=bs.length:=by omega
    go_wp2;go_ret2;have htake:(EJ bs n).take bs.length=EJ bs n:=List.take_of_length_le (by simp);rw [htake] at ho;refine ⟨_,rfl,hE2.trans (hE.mono hE2.size),fun _=>?_,fun hc=>absurd Xj.out hc⟩;rw [Int.toNat_natCast];exact aV ho hE2.size
 ·have hdec:decide (0≤i∧i<(aX bs:Nat))=false:=decide_eq_false hin;rw [hdec] at IN ⊢;clear hdec;go_enter Tryz.func131,Tryz.ntmps131;go_wp2_with fail;refine IN.out.mono ?_;rintro e w2 ⟨rfl,h2⟩;go_wp2;go_ret2;exact ⟨_,rfl,ah hb h2,fun hc=>absurd hc hin,fun _=>rfl⟩
theorem Lu {w:World} {B p dp:Nat} {K:Nat→Nat} {l:List Nat} (h:eO w B p dp K l) (hl:l.length<9000) (hsm:eB (bu K l)≤16384) {v:Value} {s:gX} (hs:zP w v s) (ho:jG (bu K l) s) :
 Calls Tryz.prog 137 #[.pointer (some ⟨p,0,none⟩),v] w fun e w'=>e=.returned (.tuple #[.int .i64 (sO (bu K l) s:Nat),.bool true])∧Below w.heap.size w w':=by
 obtain ⟨k,ms⟩:=s;have hF:=eZ K l;obtain ⟨g,rc,iC,small,Es,hR⟩:=h.read;obtain ⟨sv,rfl,hsv⟩:=id hs;obtain ⟨sa,sc,rfl,_,_⟩:=bB.out hsv.any;obtain ⟨m,hm⟩:=ae ((bJ (nz ms)).length);dsimp only at hs hsv ⊢;rw [←hm] at hs hsv ⊢;have hb0:=af (w:=w) (.cells #[.int .i64 (k:Nat),.slice sa m sc] 199);have RU:=aa (pX (h.mono hb0) hl hsm (hs.mono hb0) ho);have hrun:=hF.2.2 _ (show aL (bu K l) k∈bu K l by rw [dR ho.lt];exact List.getElem_mem _);have hpr:aX (oG (aL (bu K l) k))≤16384:=by
  have hk:k<(bu K l).length:=ho.lt;rw [←wh,dR hk];have h1:=pV hk;have h2:=jH (bu K l) (k+1);omega
 have IX:=aa (fun (W:World) (E:Below w.heap.size w W) (rv:Value) (hr:fO W rv (oG (aL (bu K l) k)))=>RS hr (hsv.any.mono E) (by omega) (uM _) (by have h1:ms.length=(aL (bu K l) k).2.length:=ho.len;rw [jd,h1];have:=hrun.1;omega) (by rw [gZ];have:=hrun.1;omega));have hvl:=ho.vld;dsimp only at hvl;simp only [hvl,if_true] at IX;have hid:=MQ ho;have hidx:sO (bu K l) (k,ms)=eB ((bu K l).take k)+sI (oG (aL (bu K l) k)) (nz ms) (oG (aL (bu K l) k)).length:=rfl;dsimp only at RU;have hle:=hR.le;rw [decide_eq_true hsm] at hle;subst hle;obtain ⟨R,hR0⟩:=ae (bu K l);simp only [←hR0] at hF hR RU ho hidx hid IX ⊢;obtain ⟨hor,acf⟩:=ae (sI (oG (aL R k)) (nz ms) (oG (aL R k)).length);obtain ⟨fr,hfr⟩:=ae (eB (R.take k));obtain ⟨ix,hix⟩:=ae (sO R (k,ms));rw [←hix] at hidx hid ⊢;rw [←acf] at hidx IX;rw [←hfr] at hidx;have al6:ix<16384:=by rw [←hR0] at hsm;omega
 have HFR:=aa hfr;have hIs:=hR.is;clear h hR hsv hs hm hF hrun acf hfr hix hR0 ho hvl hpr hid hsm;go_enter Tryz.func137,Tryz.ntmps137;go_wp2_with fail;refine RU.out.mono ?_;rintro e w1 ⟨rv,rfl,hW,hb1⟩;obtain ⟨la,lc,x1,m1,y1,x2,m2,y2,z,f,rfl,hL,hRd,hf⟩:=id hW;have hf2:f=(fr:Int):=by rw [hf,HFR.out]
 clear hf;subst hf2;obtain ⟨n,hn⟩:=ae ((aL R k).2.length);obtain ⟨hd,hhd⟩:=ae ((aL R k).1);rw [←hn,←hhd];have hB1:=hb0.trans (hb1.mono hb0.size);have k0:=(Is.new w #[.int .i64 (k:Nat),.slice sa m sc] 199).mono hb1;have hb2:=af (w:=w1) (.cells #[.int .i32 hd,.slice la n lc,.slice x1 m1 y1,.slice x2 m2 y2,.int .i64 z,.int .i64 fr] d_);have k2:=Is.new w1 #[.int .i32 hd,.slice la n lc,.slice x1 m1 y1,.slice x2 m2 y2,.int .i64 z,.int .i64 fr] d_;have hB2:=hB1.trans (hb2.mono hB1.size);have k0:=k0.mono hb2;have e1:=k0.at 1 rfl;have d2:=k2.at 2 rfl;have d3:=k2.at 3 rfl;have d4:=k2.at 4 rfl;have p3:=(hIs.mono hB2).at 3 rfl;have IX2:=aa (IX.out _ hB2 _ (hRd.mono hb2));have K2:=aa k2;clear hL hn hhd RU hW hRd IX k0 k2;go_wp2_with fail;refine IX2.out.mono ?_;rintro e w3 ⟨rfl,hb3⟩;have d5:=(K2.out.mono hb3).at 5 rfl;have w9:wrap64 ((fr:Int)+(hor:Int))=(ix:Int):=by rw [hidx];unfold wrap64;omega
 have HW9:=aa w9;clear hidx w9;go_wp2;go_ret2;exact ⟨by first|rfl|(rw [←HW9.out];rfl),hB2.trans (hb3.mono hB2.size)⟩
theorem Lv {w:World} {B p dp:Nat} {K:Nat→Nat} {l:List Nat} (h:eO w B p dp K l) (hl:l.length<9000) (hsm:eB (bu K l)≤16384) {i:Nat} (hi:i<eB (bu K l)) :
 Calls Tryz.prog 96 #[.pointer (some ⟨p,0,none⟩),.int .i64 i] w fun e w'=>∃v,e=.returned (.tuple #[v,.bool true])∧zP w' v (EO (bu K l) i)∧Below w.heap.size w w':=by
 have hF:=eZ K l;obtain ⟨g,rc,iC,small,Es,hR⟩:=h.read;have hle:=hR.le;rw [decide_eq_true hsm] at hle;subst hle;obtain ⟨R,hR0⟩:=ae (bu K l);simp only [←hR0] at hF hR hi hsm ⊢;have hat:∀k (hk:k<R.length),∃la lc x1 m1 y1 x2 m2 y2 z,(∀j<6,w.cell? ⟨g,k*6+j,none⟩=[Value.int .i32 (aL R k).1,.slice la (aL R k).2.length lc,.slice x1 m1 y1,.slice x2 m2 y2,.int .i64 z,.int .i64 (eB (R.take k):Nat)][j]?)∧fO w (.agg #[.slice x1 m1 y1,.slice x2 m2 y2,.int .i64 z]) (oG (aL R k)):=fun k hk=>by
  obtain ⟨la,lc,x1,m1,y1,x2,m2,y2,z,f,hc,_,hW⟩:=hR.at_ hsm hk;obtain ⟨la',Pg,x1',m1',y1',x2',m2',y2',z',f',he,_,hr,hf⟩:=hW;simp only [Value.agg.injEq,Array.mk.injEq,List.cons.injEq,and_true,Value.int.injEq,true_and,Value.slice.injEq] at he;obtain ⟨_,⟨rfl,rfl,rfl⟩,⟨rfl,rfl,rfl⟩,rfl,rfl⟩:=he;subst hf;exact ⟨la,lc,x1,m1,y1,x2,m2,y2,z,hc,hr⟩
 have VR:∀k (hk:k<R.length),eB (R.take (k+1))=eB (R.take k)+aX (oG (aL R k))∧aX (oG (aL R k))≤16384∧eB (R.take k)≤16384:=fun k hk=>by
  have h1:=pV hk;have h2:=jH R (k+1);rw [←wh,dR hk];omega
 have hlr:∀k (hk:k<R.length),(oG (aL R k)).length<9000:=fun k hk=>by
  rw [gZ,dR hk];have:=(hF.2.2 _ (List.getElem_mem hk)).1;omega
 have hst:∀k (hk:k<R.length),eB (R.take k)≤i→i-eB (R.take k)<aX (oG (aL R k))→EO R i=(k,EJ (oG (aL R k)) (i-eB (R.take k))):=fun k hk h1 h2=>by
  rw [dR hk] at h2 ⊢;exact Sr hk h1 (by rw [wh];exact h2)
 have SZ:=aa (fun (W:World) (rv:Value) (k:Nat) (hk:k<R.length) (hr:fO W rv (oG (aL R k)))=>Ev hr (uM _) (Nat.le_trans (VR k hk).2.1 (by decide)));have DG:=aa (fun (W:World) (rv:Value) (k:Nat) (hk:k<R.length) (hr:fO W rv (oG (aL R k))) (n:Nat)=>Lt hr (uM _) (Nat.le_trans (VR k hk).2.1 (by decide)) (by have:=hlr k hk;omega) (n:Int));obtain ⟨nr,hnr⟩:=ae R.length;have VK:nr<10000:=by rw [hnr];have:=hF.2.1;omega
 have hIs:=hR.is;rw [←hnr] at hIs;have hi2:i<eB (R.take nr):=by rw [hnr,List.take_length];exact hi
 have HI2:=aa hi2;have hi9:i<16384:=by omega
 have HAT:=aa hat;have age:=aa VR;have HST:=aa hst;have HLR:=aa hlr;have Ud:=aa hnr;have hb0:=af (w:=w) (.cells #[.int .i64 0,.slice none 0 0] 199);have k0:=Is.new w #[.int .i64 0,.slice none 0 0] 199;have p1:=(hIs.mono hb0).at 1 rfl;have p3:=(hIs.mono hb0).at 3 rfl;have hs0:w.heap.size+1≤(w.alloc (.cells #[.int .i64 0,.slice none 0 0] 199)).heap.size:=by simp
 clear h hF hR hR0 hat VR hst hlr hnr hi2 hsm hi;go_enter Tryz.func96,Tryz.ntmps96;go_wp2_with fail;generalize w.alloc (.cells #[.int .i64 0,.slice none 0 0] 199)=w0 at *;go_loopw [6,7,8,26] (fun _ _ _ kv wr=>∃k:Nat,k≤nr∧kv=.int .i64 k∧eB (R.take k)≤i∧Below w0.heap.size w0 wr) (fun _ _ _ kv _=>nr-(intOf kv).toNat)
 case atStart=>exact ⟨0,Nat.zero_le _,rfl,by simp [eB],Below.refl _ _⟩
 case round=>
  obtain ⟨k,hk,rfl,hle,hE⟩:=hrel;have hk1:k<nr:=by
   rcases Nat.lt_or_ge k nr with h|h
   ·exact h
   ·obtain rfl:k=nr:=by omega
    have:=HI2.out;omega
  have hkl:k<R.length:=by have:=Ud.out;omega
  have zk:decide ((k:Int)<(nr:Int))=true:=decide_eq_true (by omega);have jI:=hb0.trans (hE.mono hb0.size);obtain ⟨la,lc,x1,m1,y1,x2,m2,y2,z,hc,hRd⟩:=HAT.out k hkl;obtain ⟨hz1,hz2,hz3⟩:=age.out k hkl;have SB:=aa (HST.out k hkl hle);obtain ⟨fr,hfr⟩:=ae (eB (R.take k));obtain ⟨hd,hhd⟩:=ae ((aL R k).1);obtain ⟨n,hn⟩:=ae ((aL R k).2.length);have SZK:=SZ.out;obtain ⟨bs,hbs⟩:=ae (oG (aL R k));have hlb:=HLR.out k hkl;have SZ2:=aa (fun (W:World) (E:Below w.heap.size w W)=>SZ.out W _ k hkl (hRd.mono E));have DG2:=aa (fun (W:World) (E:Below w.heap.size w W) (q:Nat)=>DG.out W _ k hkl (hRd.mono E) q);rw [←hfr,←hhd,←hn] at hc;rw [←hfr] at hle hz1 hz3 SB;rw [←hbs] at hz1 hz2 SZ2 DG2 SB hlb;obtain ⟨P,hP⟩:=ae (aX bs);rw [←hP] at hz1 hz2 SZ2 DG2 SB;have HZ1:=aa hz1;have d0:w.cell? ⟨g,k*6,none⟩=some (.int .i32 hd):=hc 0 (by decide);have d1:w.cell? ⟨g,k*6+1,none⟩=some (.slice la n lc):=hc 1 (by decide);have d2:w.cell? ⟨g,k*6+2,none⟩=some (.slice x1 m1 y1):=hc 2 (by decide);have d3:w.cell? ⟨g,k*6+3,none⟩=some (.slice x2 m2 y2):=hc 3 (by decide);have d4:w.cell? ⟨g,k*6+4,none⟩=some (.int .i64 z):=hc 4 (by decide);have d5:w.cell? ⟨g,k*6+5,none⟩=some (.int .i64 fr):=hc 5 (by decide);have d0:=aA jI d0;have d1:=aA jI d1;have d2:=aA jI d2;have d3:=aA jI d3;have d4:=aA jI d4;have d5:=aA jI d5;have hbn:=af (w:=wr) (.cells #[.int .i32 hd,.slice la n lc,.slice x1 m1 y1,.slice x2 m2 y2,.int .i64 z,.int .i64 fr] d_);have k2:=Is.new wr #[.int .i32 hd,.slice la n lc,.slice x1 m1 y1,.slice x2 m2 y2,.int .i64 z,.int .i64 fr] d_;have b2:=k2.at 2 rfl;have b3:=k2.at 3 rfl;have b4:=k2.at 4 rfl;have b5:=k2.at 5 rfl;have JJ:=hE.trans (hbn.mono hE.size);have YX:=jI.trans (hbn.mono jI.size);have SZ3:=aa (SZ2.out _ YX);obtain ⟨q,hq⟩:=ae (i-fr);rw [←hq] at SB;have wq:wrap64 ((i:Int)-(fr:Int))=(q:Int):=by unfold wrap64;omega
  have hiq:(i:Int)-(fr:Int)=(q:Int):=by omega
  have K2:=aa k2;have VM:q≤i:=by omega
  clear hc hRd hfr hhd hn hbs hP SZK hz1 k2;go_wp2_with fail;rw [←hq];have HQ:=aa hq;clear hq;refine SZ3.out.mono ?_;rintro e w4 ⟨rfl,hb4⟩;have kZ:=YX.trans (hb4.mono YX.size);have YY:=JJ.trans (hb4.mono JJ.size);have k4:=K2.out.mono hb4;have c2:=k4.at 2 rfl;have c3:=k4.at 3 rfl;have c4:=k4.at 4 rfl;have DG4:=aa (DG2.out w4 kZ q);clear SZ2 SZ3 DG2 b2 b3 b4 b5 d0 d1 d2 d3 d4 d5 k4 wq hiq;by_cases hlt:q<P
  ·have zq:decide ((q:Int)<(P:Int))=true:=decide_eq_true (by omega);have hst:=SB.out hlt;have HST:=aa hst;have hdec:decide (0≤(q:Int)∧(q:Int)<(P:Int))=true:=decide_eq_true ⟨by omega,by omega⟩;rw [hdec] at DG4;clear hst hdec;go_wp2_with fail;refine DG4.out.mono ?_;rintro e w5 ⟨r,rfl,hb5,hin,_⟩;have hr:=hin ⟨by omega,by omega⟩;rw [Int.toNat_natCast] at hr;obtain ⟨ra,rcp,rfl,_,_⟩:=ak hr;obtain ⟨nb,hnb⟩:=ae bs.length;rw [←hnb] at hr ⊢;have agf:=YY.trans (hb5.mono YY.size);have agh:=kZ.trans (hb5.mono kZ.size);have j0:=k0.mono agf;have f0:=j0.at 0 rfl;have f1:=j0.at 1 rfl;have q0:=j0.frozen 0;have q1:=j0.frozen 1;have v0:=(j0.set 0 (.int .i64 (k:Nat))).set 1 (.slice ra nb rcp);have g0:=v0.at 0 rfl;have g1:=v0.at 1 rfl;have o9:=aa (((bD.put (o:=0) j0 (.int .i64 (k:Nat))).trans (bD.put (o:=1) (j0.set 0 (.int .i64 (k:Nat))) (.slice ra nb rcp))).own hr (by decide));have hfin:=aa (aj (off:=1) (u:=.slice ra nb rcp) (b:=w.heap.size) (aj (off:=0) (u:=.int .i64 (k:Nat)) (b:=w.heap.size) agh (Nat.le_refl _)) (Nat.le_refl _));clear hin hr hnb j0 v0;go_wp2_with fail;refine bodyPost_ret (v:=.tuple #[.agg #[.int .i64 (k:Nat),.slice ra nb rcp],.bool true]) (by simp [results,Tryz.results96,go_sem,g0,g1]) rfl ⟨_,rfl,?_,hfin.out⟩;rw [HST.out];refine ⟨_,rfl,?_⟩;rw [VH];exact Sl.aW o9.out
  ·have zq:decide ((q:Int)<(P:Int))=false:=decide_eq_false (by omega);go_wp2_with fail;go_roundw
   case rel=>exact ⟨k+1,by omega,by simp,by rw [HZ1.out];have:=HQ.out;omega,YY⟩
   case measure=>simp [intOf];omega
abbrev dO:TypeId:=36
abbrev MX:TypeId:=112
structure jP (w:World) (B pp g mp:Nat) (xs:List Nat):Prop where
 is:Is w pp #[.pointer (some ⟨mp,0,none⟩),.slice (some ⟨g,0,none⟩) xs.length xs.length] MX
 row:∃vals:List Value,w.ownsRow B dO 1 (.slice (some ⟨g,0,none⟩) xs.length xs.length) xs.length vals∧∀k (hk:k<xs.length),∃a n c,vals[k]? = some (.slice a n c)∧bO w (.agg #[.slice a n c]) xs[k]
theorem jP.mono {w w':World} {B pp g mp:Nat} {xs:List Nat} (h:jP w B pp g mp xs) (hb:Below w.heap.size w w'):jP w' B pp g mp xs:=by
 obtain ⟨h1,vals,h2,h3⟩:=h;refine ⟨h1.mono hb,vals,aG h2 hb,fun k hk=>?_⟩;obtain ⟨a,n,c,h4,h5⟩:=h3 k hk;exact ⟨a,n,c,h4,h5.mono hb⟩
theorem jP.at_ {w:World} {B pp g mp:Nat} {xs:List Nat} (h:jP w B pp g mp xs) {k:Nat} (hk:k<xs.length):∃a n c,w.cell? ⟨g,k,none⟩=some (.slice a n c)∧bO w (.agg #[.slice a n c]) xs[k]:=by
 obtain ⟨h1,vals,h2,h3⟩:=h;obtain ⟨a,n,c,h4,h5⟩:=h3 k hk;obtain ⟨_,_,he,_,_,_,_,hc⟩:=dw h2 (by omega);injection he with he _ _;cases he;exact ⟨a,n,c,hc _ _ h4,h5⟩
theorem VS {w:World} {B mp dp PB pp g:Nat} {K:Nat→Nat} {l:List Nat} (h:eO w B mp dp K l) (hl:l.length<9000) (hsm:eB (bu K l)≤16384) {xs:List Nat} (hp:jP w PB pp g mp xs) (hxl:xs.length=eB (bu K l)) {v:Value} {s:gX} (hs:zP w v s) (ho:jG (bu K l) s) :
 Calls Tryz.prog 100 #[.pointer (some ⟨pp,0,none⟩),v] w fun e w'=>∃r,e=.returned r∧bO w' r (xs.getD (sO (bu K l) s) 0)∧Below w.heap.size w w':=by
 obtain ⟨sv,rfl,hsv⟩:=id hs;obtain ⟨sa,sc,rfl,_,_⟩:=bB.out hsv.any;obtain ⟨m,hm⟩:=ae ((bJ (nz s.2)).length);rw [←hm] at hs hsv ⊢;have hb0:=ed (w:=w) (.cells #[.int .i64 (s.1:Nat),.slice sa m sc] 199) (.cells #[.slice none 0 0] dO);have hid:=MQ ho;rw [←hxl] at hid;obtain ⟨ua,un,uc,hcu,hnu⟩:=hp.at_ hid;have hget:xs.getD (sO (bu K l) s) 0=xs[sO (bu K l) s]:=by rw [List.getD_eq_getElem?_getD,List.getElem?_eq_getElem hid];rfl
 rw [hget];have IX:=aa (fun (W:World) (E:Below w.heap.size w W)=>Lu (h.mono E) hl hsm (hs.mono E) ho);obtain ⟨x,hx⟩:=ae (xs[sO (bu K l) s]);obtain ⟨ix,hix⟩:=ae (sO (bu K l) s);rw [←hx] at hnu ⊢;simp only [←hix] at IX hcu hid;obtain ⟨nx,hnx⟩:=ae xs.length;have hIs:=hp.is;rw [←hnx] at hIs hid;have ama:nx≤16384:=by rw [hnx,hxl];exact hsm
 obtain ⟨k,hk⟩:=ae s.1;rw [←hk] at hb0 IX ⊢;have k0:Is _ w.heap.size #[.int .i64 (k:Nat),.slice sa m sc] 199:=(Is.new w _ _).mono (af (.cells #[.slice none 0 0] dO));have k1:Is _ (w.heap.size+1) #[.slice none 0 0] dO:=Is.new' (w.alloc (.cells #[.int .i64 (k:Nat),.slice sa m sc] 199)) _ _ _ (by simp);clear h hp hsv hs hm hx hix hnx ho hk hget hsm hxl;go_enter Tryz.func100,Tryz.ntmps100;go_wp2_with fail;generalize (w.alloc (.cells #[.int .i64 (k:Nat),.slice sa m sc] 199)).alloc (.cells #[.slice none 0 0] dO)=w0 at *;have hs0:=hb0.size;have hBd:=hb0.trans ((ag w0).mono hs0);have IX2:=aa (IX.out w0.drew hBd);have e0:=Gr.cell (ag w0) (k0.at 0 rfl);have e1:=Gr.cell (ag w0) (k0.at 1 rfl);have p0:=Gr.cell (ag w0) ((hIs.mono hb0).at 0 rfl);refine aF (Array.replicate 11 true) 11 0 mixed (by rfl) ?_;refine ay [0,1,2,3,4] 6 rfl (by kernel_rfl) ?_
 iterate 5 (refine aB rfl ?_;go_big_quiet_step (rfl))
 refine az ?_;refine aI 5 (by kernel_rfl) rfl ?_;go_wp2_with fail;refine IX2.out.mono ?_;rintro e w3 ⟨rfl,hb3⟩;go_wp2_with fail;refine aD hb3 ?_;refine ay [6,7,8,9,10] 0 rfl (by kernel_rfl) ?_
 iterate 5 (refine aB rfl ?_;go_big_quiet_step (rfl))
 refine az ?_;refine aJ [] (by kernel_rfl) ?_;refine tail_nil ?_;have h03:=(ag w0).trans hb3;have hB3:=hb0.trans (h03.mono hs0);have hs3:=hB3.size;have j1:=k1.mono h03;have p1:=(hIs.mono hB3).at 1 rfl;have c0:=aA hB3 hcu;have f0:=j1.at 0 rfl;have q0:=j1.frozen 0;have v0:=j1.set 0 (.slice ua un uc);have g0:=v0.at 0 rfl;have hN:=aa (bO.iD (hnu.mono hB3) (bD.put (o:=0) j1 (.slice ua un uc)) (by decide));have hfin:=aa (aj (off:=0) (u:=.slice ua un uc) (b:=w.heap.size+1) hB3 (by omega));clear IX IX2 e0 e1 p0 j1 v0 hnu hcu k0 k1;go_wp2_with fail;exact bodyPost_ret (v:=.agg #[.slice ua un uc]) (by simp [results,Tryz.results100,go_sem,g0]) rfl ⟨_,rfl,hN.out,hfin.out⟩
end Go.Proofs.YtmpkfkoficehpaaGreatDoor
