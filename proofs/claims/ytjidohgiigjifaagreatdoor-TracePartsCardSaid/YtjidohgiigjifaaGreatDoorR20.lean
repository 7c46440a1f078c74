/- TraceParts and TraceWalks: a machine takes a character as those of its full decomposition, one by one; texts that are alike go through it, and of others none; no condition. -/
import Derived.Test.YtjidohgiigjifaaGreatDoorR19
set_option maxRecDepth 100000
set_option maxHeartbeats 6400000
namespace Go.Proofs.YtjidohgiigjifaaGreatDoor
open Go.RowKit Go.Cd
theorem Jt {w:World} {B p dp:Nat} {K:Nat→Nat} {l:List Nat} (h:jk w B p dp K l) (hl:l.length<9000) {v:Value} {s:vP} (hs:G_ w v s) (ho:sM (dU K l) s) :
 Calls Tryz.prog 51 #[.pointer (some ⟨p,0,none⟩),v] w fun e w'=>∃r,e=.returned r∧w'.ownsRow w.heap.size aM 1 r (jZ (dU K l) s).length (aN (jZ (dU K l) s))∧Below w.heap.size w w':=by
 obtain ⟨k,ms⟩:=s;have hF:=kM K l;obtain ⟨g,rc,gZ,small,Es,hR⟩:=h.read;obtain ⟨sv,rfl,hsv⟩:=id hs;obtain ⟨sa,sc,rfl,_,hx⟩:=bD.out hsv.any;obtain ⟨m,hm⟩:=af ((bH (nz ms)).length);dsimp only at hs hsv ⊢;have hm2:m=ms.length:=by rw [hm];simp [bH]
 rw [←hm] at hs hsv ⊢;have hb0:=ai (w:=w) (.cells #[.int .i64 (k:Nat),.slice sa m sc] 53);have RU:=ae (yR (h.mono hb0) hl (hs.mono hb0) ho);have hrun:=hF.2.2 _ (show aY (dU K l) k∈dU K l by rw [gV ho.lt];exact List.getElem_mem _);dsimp only at RU;obtain ⟨R,hR0⟩:=af (dU K l);have hT1:k+1<R.length→∃la lc x1 m1 y1 x2 m2 y2 z f,∀j<6,w.cell? ⟨g,(k+1)*6+j,none⟩=[Value.int .i32 (aY R (k+1)).1,.slice la (aY R (k+1)).2.length lc,.slice x1 m1 y1,.slice x2 m2 y2,.int .i64 z,.int .i64 f][j]?:=fun hk=>by
  rw [hR0] at hk ⊢;obtain ⟨la,lc,x1,m1,y1,x2,m2,y2,z,f,hc,_⟩:=hR.at_ hk;exact ⟨la,lc,x1,m1,y1,x2,m2,y2,z,f,hc⟩
 simp only [←hR0] at hF hR RU ho hrun ⊢;obtain ⟨L,hL0⟩:=af ((aY R k).2);have ko:ms.length=L.length:=by rw [hL0];exact ho.len
 rw [←hL0] at hrun;obtain ⟨nr,hnr⟩:=af R.length;have hlt:k<nr:=by rw [hnr];exact ho.lt
 have ZP:nr<10000:=by rw [hnr];have:=hF.2.1;omega
 have hIs:=hR.is;simp only [←hnr] at hIs hT1;obtain ⟨res,hres⟩:=af (jZ R (k,ms));rw [←hres];have hres2:res=if gW ms L L.length=[] then (if k+1<nr then [(aY R (k+1)).1] else []) else gW ms L L.length:=by rw [hres,hnr,hL0];rfl
 have sO:=ae hres2;have HT1:=ae hT1;have HX:=ae hx;have DZ:=ae ko;have zT:=ae hm2;have HL0:=ae hL0;have HRU:=ae hrun;have Um:m<10000:=by have:=hrun.1;omega
 clear h hR hsv hs hm hF hrun hR0 ho hres hres2 hx ko hm2 hL0 hnr hT1;go_enter Tryz.func51,Tryz.ntmps51;go_wp2_with fail;refine RU.out.mono ?_;rintro e w1 ⟨rv,rfl,hW,hb1⟩;obtain ⟨la,lc,x1,m1,y1,x2,m2,y2,z,f,rfl,hL,ZQ⟩:=id hW;clear ZQ hW;rw [←HL0.out] at hL ⊢;obtain ⟨n,hn⟩:=af L.length;obtain ⟨hd,hhd⟩:=af ((aY R k).1);obtain ⟨la',Na,e9,hLk⟩:=hL;injection e9 with e8 _ e7;subst e8 e7;rw [←hn,←hhd];have HN:=ae hn;have V_:=ae hLk;have Qy:n<10000:=by have:=DZ.out;have:=zT.out;omega
 have hB1:=hb0.trans (hb1.mono hb0.size);have We:w.heap.size+1≤w1.heap.size:=by have:=hb1.size;simpa using this
 have k0:Is w1 w.heap.size #[.int .i64 (k:Nat),.slice sa m sc] 53:=(Is.new w _ _).mono hb1;obtain ⟨w2,hw2⟩:=af (w1.alloc (.cells #[.int .i32 hd,.slice la n lc,.slice x1 m1 y1,.slice x2 m2 y2,.int .i64 z,.int .i64 f] eP));have hb2:Below w1.heap.size w1 w2:=by rw [hw2];exact ai _
 have k2:Is w2 w1.heap.size #[.int .i32 hd,.slice la n lc,.slice x1 m1 y1,.slice x2 m2 y2,.int .i64 z,.int .i64 f] eP:=by rw [hw2];exact Is.new _ _ _
 have hB2:=hB1.trans (hb2.mono hB1.size);have hs2:=hB2.size;have k0:=k0.mono hb2;have d1:=k2.at 1 rfl;rw [hw2] at d1;clear hn hhd RU hLk;go_wp2_with fail;rw [←hw2];clear d1;have ad4:=hb2.size;go_loopw [7,8,9,10,22] (fun o _ _ _ iv wr=>∃i:Nat,i≤n∧iv=.int .i64 i∧wr.ownsRow w2.heap.size aM 1 o (gW ms L i).length (aN (gW ms L i))∧Below w2.heap.size w2 wr) (fun _ _ _ _ iv _=>n-(intOf iv).toNat)
 case atStart=>exact ⟨0,Nat.zero_le _,rfl,World.ownsRow_nil _ _ _ _,Below.refl _ _⟩
 case round=>
  obtain ⟨i,hi,rfl,hrow,hE⟩:=hrel;have kV:=hB2.trans (hE.mono hs2);have UM:=hb2.trans (hE.mono ad4);by_cases him:i<n
  ·have zi:decide ((i:Int)<(n:Int))=true:=decide_eq_true (by omega);have P_:i<L.length:=by have:=HN.out;omega
   have Gx:i<ms.length:=by have:=DZ.out;omega
   have adY:i<m:=by have:=zT.out;omega
   have R8:i<(bH (nz ms)).length:=by simp [bH];exact Gx
   obtain ⟨b,off,rfl,_,c0⟩:=HX.out i R8;obtain ⟨lg,va,vc,rfl,l0,l1,hsl⟩:=V_.out i P_;rw [show (bH (nz ms))[i]=.int .i64 ((ms[i]:Nat):Int) by simp [bH,nz]] at c0;obtain ⟨mi,G9⟩:=af (ms[i]);obtain ⟨cls,hcls⟩:=af (L[i].1);obtain ⟨ln,hln⟩:=af (L[i].2);have yS:sN ms L i=if mi<ln.length then [ln.getD mi 0] else []:=by
    unfold sN;rw [G9,hln,List.getD_eq_getElem?_getD (l:=L),List.getElem?_eq_getElem P_,List.getD_eq_getElem?_getD (l:=ms),List.getElem?_eq_getElem Gx];rfl
   have hlen:ln.length<10000:=by rw [hln];have:=(HRU.out.2 _ (List.getElem_mem P_));omega
   rw [←G9] at c0;rw [←hcls] at l0;rw [←hln] at l1 hsl;obtain ⟨xl,hxl⟩:=af ln.length;rw [←hxl] at l1 hsl yS hlen;have hsucc:=vQ ms L i;have hLn:=qJ ms L i;obtain ⟨P,hP⟩:=af (gW ms L i);rw [←hP] at hrow hsucc hLn;have c0:=aA kV c0;have l1:=aA UM l1;have l0:=aA UM l0;have hsl:=hsl.mono UM;have ZR:=k0.mono hE;have e1:=ZR.at 1 rfl;have Wh:=ae yS;have HSU:=ae hsucc;have UL:=ae hxl;have hbn:=ai (w:=wr) (.cells #[.int .i64 (cls:Nat),.slice va xl vc] 87);have i0:=Is.new wr #[.int .i64 (cls:Nat),.slice va xl vc] 87;have n0:=i0.at 0 rfl;have n1:=i0.at 1 rfl;have Xk:=aA hbn e1;have c0':=aA hbn c0;have d1:=aA hE (k2.at 1 rfl);have hrow':=aG hrow hbn;have LA:=hE.trans (hbn.mono hE.size);clear yS G9 hxl hcls hln ZR hsucc hP;by_cases hz2:mi<xl
   ·have z2:decide ((mi:Int)<(xl:Int))=true:=decide_eq_true (by omega);obtain ⟨q,hq⟩:=af (ln.getD mi 0);have Qa:mi<ln.length:=by have:=UL.out;omega
    obtain ⟨ya,yc,he,_,hy⟩:=Go.Proofs.YtjidohgiigjifaaGreatDoor.bD.Mf hsl UL.out;injection he with he _ Wi;subst he Wi;obtain ⟨yb,yo,rfl,_,y0⟩:=hy mi Qa;rw [show ln[mi]=q by rw [hq,List.getD_eq_getElem?_getD,List.getElem?_eq_getElem Qa];rfl] at y0;have y0':=aA hbn y0;have hla:sN ms L i=[q]:=by rw [Wh.out,if_pos hz2,hq]
    have Wl:=ae hla;clear hy hq hsl hla;go_wp2_with (at_builtin;refine dK rfl _ _ 39 rfl w2.heap.size aM _ 4 bS _ P.length _ rfl hrow' _ (by show Value.slice (some ⟨wr.heap.size+1,0,none⟩) 1 1=_;simp) rfl (by omega) (by unfold maxLen;omega) w2 LA (Nat.le_refl _) ?_;intro v' w6 o6 kZ);go_roundw
    case rel=>
     refine ⟨i+1,by omega,by simp,?_,kZ⟩;rw [HSU.out,Wl.out,List.length_append,bA];exact o6
    case measure=>simp [intOf];omega
   ·have z2:decide ((mi:Int)<(xl:Int))=false:=decide_eq_false (by omega);have hla:sN ms L i=[]:=by rw [Wh.out,if_neg hz2]
    have Wl:=ae hla;clear hla;go_wp2_with fail;go_roundw
    case rel=>
     refine ⟨i+1,by omega,by simp,?_,LA⟩;rw [HSU.out,Wl.out,List.append_nil];exact hrow'
    case measure=>simp [intOf];omega
  ·have zi:decide ((i:Int)<(n:Int))=false:=decide_eq_false (by omega);obtain rfl:i=n:=by omega
   have hLn:=qJ ms L i;have hres:=sO.out;rw [←HN.out] at hres;obtain ⟨P,hP⟩:=af (gW ms L i);rw [←hP] at hrow hres hLn;obtain ⟨oa,oc,rfl,_,_⟩:=az hrow;obtain ⟨np,Nb⟩:=af P.length;rw [←Nb] at hrow hLn ⊢;have HR2:=ae hres;have QC:=ae Nb;have Wm:=kV.size;have pm:=Gr.cell (ah wr) ((hIs.mono kV).at 1 rfl);have e0:=Gr.cell (ah wr) ((k0.mono hE).at 0 rfl);clear hres hP Nb;go_wp2_with fail;by_cases hp:np=0
   ·have zp:((np:Int)==0)=true:=by simp;omega
    have hPn:P=[]:=List.length_eq_zero_iff.1 (by rw [←QC.out];exact hp);have HPN:=ae hPn;clear hPn;by_cases hq:k+1<nr
    ·have zq:decide ((k:Int)+1<(nr:Int))=true:=decide_eq_true (by omega);obtain ⟨la2,XC,x12,m12,y12,x22,m22,y22,z2,f2,hc2⟩:=HT1.out hq;obtain ⟨hd2,Jp⟩:=af ((aY R (k+1)).1);rw [←Jp] at hc2;have d0:=hc2 0 (by decide);simp only [Nat.add_zero,List.getElem?_cons_zero] at d0;have hrd:=aG hrow (ah wr);have CJ:=hE.trans ((ah wr).mono hE.size);have ZX:=kV.trans ((ah wr).mono Wm);have k0d:=(k0.mono hE).mono (ah wr);have hov:res=[hd2]:=by rw [HR2.out,if_pos HPN.out,if_pos hq,Jp]
     have Km:=ae hov;subst hp;clear hc2 Jp hov;refine aD (Array.replicate 14 true) 14 0 mixed (by rfl) ?_;refine ay [0,1,2,3,4,5,6,7,8,9,10,11,12,13] 0 rfl (by kernel_rfl) ?_;refine aZ ?_
     iterate 14 (refine aO rfl ?_)
     refine a_ ?_
     iterate 14 (go_big_quiet_step (rfl))
     refine ak ?_;refine aI [] (by kernel_rfl) ?_;refine tail_nil ?_;go_wp2_with fail;have pm:=Gr.cell (ah wr.drew) ((hIs.mono ZX).at 1 rfl);have e0:=Gr.cell (ah wr.drew) (k0d.at 0 rfl);have d0:=Gr.cell (ah wr.drew) (aA ZX d0);have hE2:=CJ.trans ((ah wr.drew).mono CJ.size);have hr2:=aG hrd (ah wr.drew);rw [HPN.out] at hr2;refine aD #[true,true,true,true,true,true,true,true,true,true,true,true,false,false] 12 2 mixed (by rfl) ?_;refine ay [0,1,2,3,4,5,6,7,8,9,10] 1 rfl (by kernel_rfl) ?_
     iterate 11 (refine aC rfl ?_;go_big_quiet_step (rfl))
     refine ak ?_;refine aL 11 (by kernel_rfl) rfl ?_;go_wp2_with fail;refine aH (ai _) ?_;refine aI [12,13] (by kernel_rfl) ?_;refine tail_cons rfl ?_;refine dK rfl _ _ 39 rfl w2.heap.size aM _ 4 bS _ 0 _ rfl hr2 _ rfl rfl (by omega) (by unfold maxLen;omega) w2 hE2 (Nat.le_refl _) ?_;intro v' w6 o6 kZ;refine tail_cons rfl ?_;go_wp2_with fail;refine tail_nil ?_;go_wp2;go_ret;rw [Km.out];exact ⟨_,rfl,aW o6 hs2,hB2.trans (kZ.mono hs2)⟩
    ·have zq:decide ((k:Int)+1<(nr:Int))=false:=decide_eq_false (by omega);have hov:res=[]:=by rw [HR2.out,if_pos HPN.out,if_neg hq]
     have Km:=ae hov;clear hov;refine aD (Array.replicate 14 true) 14 0 mixed (by rfl) ?_;refine ay [0,1,2,3,4,5,6,7,8,9,10,11,12,13] 0 rfl (by kernel_rfl) ?_;refine aZ ?_
     iterate 14 (refine aO rfl ?_)
     refine a_ ?_
     iterate 14 (go_big_quiet_step (rfl))
     refine ak ?_;refine aI [] (by kernel_rfl) ?_;refine tail_nil ?_;go_wp2_with fail;go_ret;rw [Km.out];refine ⟨_,rfl,?_,kV.trans ((ah wr).mono Wm)⟩;have:=aW (aG hrow (ah wr)) hs2;rw [HPN.out,hp] at this;subst hp;exact this
   ·have zp:((np:Int)==0)=false:=beq_eq_false_iff_ne.2 (by omega);have hov:res=P:=by rw [HR2.out,if_neg fun e=>hp (by rw [QC.out,e];rfl)]
    have Km:=ae hov;clear hov;refine aD (Array.replicate 14 true) 14 0 mixed (by rfl) ?_;refine ay [0,1,2,3,4,5,6,7,8,9,10,11,12,13] 0 rfl (by kernel_rfl) ?_;refine aZ ?_
    iterate 14 (refine aO rfl ?_)
    refine a_ ?_
    iterate 14 (go_big_quiet_step (rfl))
    refine ak ?_;refine aI [] (by kernel_rfl) ?_;refine tail_nil ?_;go_wp2_with fail;go_ret;rw [Km.out];refine ⟨_,rfl,?_,kV.trans ((ah wr).mono Wm)⟩;have:=aW (aG hrow (ah wr)) hs2;rw [QC.out] at this;rw [QC.out];exact this
theorem Qb {w:World} {base e:Nat} {t:TypeId} {v:Value} {n:Nat} {xs:List Value} (h:w.ownsRow base t e v n xs):∃a cap,v=.slice a n cap∧w.ownsRow base t e (.slice a 0 cap) 0 []:=by
 rcases h.2 with ⟨rfl,h0⟩|⟨g,cap,cur,rfl,hb,hh,hc,hm,hs,ht⟩
 ·subst h0;exact ⟨_,_,rfl,by simp,.inl ⟨rfl,rfl⟩⟩
 ·exact ⟨_,_,rfl,by simp,.inr ⟨g,cap,cur,rfl,hb,hh,Nat.zero_le _,hm,hs,by simp⟩⟩
theorem Qc {w:World} (n:Nat) (hn:n<1000000) :
 Calls Tryz.prog 112 #[.slice none 0 0,.int .i64 n] w fun e w'=>∃r,e=.returned r∧w'.ownsRow w.heap.size aM 1 r 0 []∧Below w.heap.size w w':=by
 have z0:decide ((n:Int)<0)=false:=decide_eq_false (by omega);by_cases h0:n=0
 ·have z1:decide ((0:Int)<(n:Int))=false:=decide_eq_false (by omega);go_enter Tryz.func112,Tryz.ntmps112;go_wp2;go_ret;exact ⟨_,rfl,World.ownsRow_nil _ _ _ _,Below.refl _ _⟩
 ·have z1:decide ((0:Int)<(n:Int))=true:=decide_eq_true (by omega);go_enter Tryz.func112,Tryz.ntmps112
  go_wp2_with (
   at_builtin
   refine oU rfl _ _ 39 3 rfl .i64 .i64 Tryz.underlying3 w.heap.size aM _ 4 bS rfl (.slice none 0 0) 0 [] rfl (World.ownsRow_nil _ _ _ _) n rfl (by unfold maxLen;omega) (by omega) (Nat.le_refl _) ?_;intro v2 w2 o2 hg2;obtain ⟨a2,c2,rfl,o3⟩:=Qb o2;rw [Nat.zero_add] at *;have hB2:=ae (Below.refl w.heap.size w |>.grown hg2 (Nat.le_refl _) (fun k hk=>by cases hk))
   clear o2 hg2)
  go_ret;exact ⟨_,rfl,o3,hB2.out⟩
theorem yT {Ls:List (List Nat)} {j:Nat} (hj:j<Ls.length):(Ls.take (j+1)).flatten=(Ls.take j).flatten++Ls[j]:=by
 rw [List.take_succ_eq_append_getElem hj,List.flatten_append];simp
theorem Kn (Ls:List (List Nat)) (j:Nat):(Ls.take j).flatten.length≤Ls.flatten.length:=by
 conv=>rhs;rw [←List.take_append_drop j Ls,List.flatten_append,List.length_append]
 omega
theorem Ju {w:World} {b n c:Nat} {Ls:List (List Nat)} {vs:List Value} (hn:n=Ls.length) (hvs:vs.length=n) (hc:∀k (hk:k<Ls.length) (hk':k<vs.length),w.cell? ⟨b,k,none⟩=some vs[k]∧bD w vs[k] (aN Ls[k])) (hsm:Ls.flatten.length<1000000) (Qy:n<1000) :
 Calls Tryz.prog 79 #[.slice (some ⟨b,0,none⟩) n c] w fun e w'=>∃r,e=.returned r∧w'.ownsRow w.heap.size aM 1 r Ls.flatten.length (aN Ls.flatten)∧Below w.heap.size w w':=by
 have HC:=ae hc;have HN:=ae hn;have HV:=ae hvs;have XE:=ae hsm;clear hc hn hvs hsm;go_enter Tryz.func79,Tryz.ntmps79;go_wp2_with fail;go_loopw [3,5,11] (fun sz _ iv wr=>∃j:Nat,j≤n∧iv=.int .i64 j∧sz=.int .i64 ((Ls.take j).flatten.length:Nat)∧Below w.heap.size w wr) (fun _ _ iv _=>n-(intOf iv).toNat)
 case atStart=>exact ⟨0,Nat.zero_le _,rfl,rfl,Below.refl _ _⟩
 case round=>
  obtain ⟨j,hj,rfl,rfl,hE0⟩:=hrel;by_cases hjn:j<n
  ·have zj:decide ((j:Int)<(n:Int))=true:=decide_eq_true (by omega);have hjl:j<Ls.length:=by have:=HN.out;omega
   have hjv:j<vs.length:=by have:=HV.out;omega
   obtain ⟨c0,hs⟩:=HC.out j hjl hjv;obtain ⟨x,hx⟩:=af (vs[j]);rw [←hx] at c0 hs;have c0:=aA hE0 c0;obtain ⟨a1,c1,rfl,_,_⟩:=bD.out hs;rw [bO] at c0;have h1:=yT hjl;have h2:=Kn Ls (j+1);obtain ⟨q,hq⟩:=af ((Ls.take j).flatten.length);obtain ⟨q2,hq2⟩:∃q,q=Ls[j].length:=⟨_,rfl⟩;have h3:(Ls.take (j+1)).flatten.length=q+q2:=by rw [h1,List.length_append,hq,hq2]
   have QS:q+q2<1000000:=by rw [←h3];exact Nat.lt_of_le_of_lt h2 XE.out
   rw [←hq];rw [←hq2] at c0;have z2:decide ((q:Int)+(q2:Int)<0)=false:=decide_eq_false (by omega);have H3:=ae h3;clear h1 h2 h3 hs hx hq hq2;go_wp2_with fail;go_roundw
   case rel=>exact ⟨j+1,by omega,by simp,by rw [H3.out];simp,hE0⟩
   case measure=>simp [intOf];omega
  ·have zj:decide ((j:Int)<(n:Int))=false:=decide_eq_false (by omega);obtain rfl:j=n:=by omega
   have ht:Ls.take j=Ls:=List.take_of_length_le (by rw [←HN.out];exact Nat.le_refl _);rw [ht];obtain ⟨N,hN⟩:=af Ls.flatten.length;rw [←hN];have GR:=ae (Qc (w:=wr) N (by rw [hN];exact XE.out));have HNN:=ae hN;clear ht hN;go_wp2_with fail;refine GR.out.mono ?_;rintro e w1 ⟨r0,rfl,o0,hb1⟩;have hs1:=hb1.size;have hs0:=hE0.size;have hb1:=hE0.trans (hb1.mono hs0);have o0:=aW o0 hs0;go_wp2_with fail;go_loopw [6,8,27] (fun r _ iv wr=>∃i:Nat,i≤j∧iv=.int .i64 i∧wr.ownsRow w.heap.size aM 1 r (Ls.take i).flatten.length (aN (Ls.take i).flatten)∧Below w.heap.size w wr) (fun _ _ iv _=>j-(intOf iv).toNat)
   case atStart=>exact ⟨0,Nat.zero_le _,rfl,o0,hb1⟩
   case round=>
    obtain ⟨i,hi,rfl,hr,hE⟩:=hrel;by_cases hij:i<j
    ·have zi:decide ((i:Int)<(j:Int))=true:=decide_eq_true (by omega);have hil:i<Ls.length:=by have:=HN.out;omega
     have hiv:i<vs.length:=by have:=HV.out;omega
     obtain ⟨c0,hs⟩:=HC.out i hil hiv;obtain ⟨x,hx⟩:=af (vs[i]);rw [←hx] at c0 hs;have c0:=aA hE c0;have hs:=hs.mono hE;have h1:=yT hil;have h2:=Kn Ls (i+1);obtain ⟨P,hP⟩:=af ((Ls.take i).flatten);obtain ⟨L,hL⟩:=af (Ls[i]);rw [←hP] at hr h1;rw [←hL] at hs h1;have QS:P.length+L.length<1000000:=by
      have:=XE.out;rw [h1,List.length_append] at h2;omega
     have H1:=ae h1;have hE1:=hE.size;clear h1 h2 hx hP hL
     go_wp2_with (
      refine bG rfl _ _ 39 rfl w.heap.size aM (.int .i32 0) 4 bS _ _ _ rfl hr _ (aN L) rfl hs (by simp [aN,Value.oneCell']) (by rw [bO];unfold maxLen;omega) (by rw [bO];omega) (by omega) ?_
      intro v2 w2 o2 hg2)
     go_roundw
     case rel=>
      refine ⟨i+1,by omega,by simp,?_,hE.grown hg2 (by omega) (fun k hk=>(hr.lt k hk).1)⟩;rw [H1.out,List.length_append,bA];rw [bO] at o2;exact o2
     case measure=>simp [intOf];omega
    ·have zi:decide ((i:Int)<(j:Int))=false:=decide_eq_false (by omega);obtain rfl:i=j:=by omega
     have ht:Ls.take i=Ls:=List.take_of_length_le (by rw [←HN.out];exact Nat.le_refl _);rw [ht,←HNN.out] at hr;have HR:=ae hr;clear hr ht;go_wp2;go_ret;exact ⟨_,rfl,by rw [HNN.out] at HR;exact HR.out,hE⟩
def qL (T:List aF) (c:Nat):Bool:=decide (bF T c=[])&&decide (hk c<4)
theorem Gy {w:World} {p:Nat} {T:List aF} {X:List Nat} (h:dZ w p T X) (hV:bE T X) (hl:T.length<1000) (c:Nat) (hc:c<1114112) :
 Calls Tryz.prog 82 #[.pointer (some ⟨p,0,none⟩),.int .i32 c] w fun e w'=>e=.returned (.bool (qL T c))∧Below w.heap.size w w':=by
 by_cases hm:bF T c=[]
 ·have FI:=ae (yC h hV c hc hm);have HG:=ae (fun (W:World)=>qY (w:=W) c hc);have hp:qL T c=decide (hk c<4):=by unfold qL;rw [decide_eq_true hm,Bool.true_and]
  rw [hp];obtain ⟨k,hk⟩:=af (hk c);rw [←hk] at HG ⊢;have hd:decide (k<4)=decide ((k:Int)<4):=by rw [decide_eq_decide];omega
  rw [hd];clear h hm hp hk hd;go_enter Tryz.func82,Tryz.ntmps82;go_wp2_with fail;refine FI.out.mono ?_;rintro e w1 ⟨rfl,hb1⟩;go_wp2_with fail;refine (HG.out _).mono ?_;rintro e w2 ⟨rfl,rfl⟩;go_wp2;go_ret;exact ⟨rfl,hb1.alloc hb1.size _⟩
 ·have FI:=ae (vL h hV hl c hc hm);have hp:qL T c=false:=by unfold qL;rw [decide_eq_false hm,Bool.false_and]
  rw [hp];clear h hm hp;go_enter Tryz.func82,Tryz.ntmps82;go_wp2_with fail;refine FI.out.mono ?_;rintro e w1 ⟨a1,n1,c1,a2,n2,c2,b,rfl,_,hb1⟩;go_wp2;go_ret;exact ⟨rfl,hb1.alloc hb1.size _⟩
def Wn (T:List aF) (c:Nat):List Nat:=(((mapped T).map (·.code)).filter fun x=>(aK T x).head? == some c)++fC c++if qL T c=true then [c] else []
def Ko (T:List aF) (c:Nat):List Nat:=dD (Wn T c)
theorem Jv {T:List aF} {E:List dR} (h:E.map (·.1)=(mapped T).map (·.code)) (c:Nat):sj T E c=((mapped T).map (·.code)).filter fun x=>(aK T x).head? == some c:=by
 rw [←h];unfold sj;rw [List.filter_map];rfl
theorem vR (c:Nat):(fC c).length≤1000:=by
 unfold fC
 split
 ·simp
 ·first
  | (split <;> simp)
  | simp
theorem Dn {w:World} {p:Nat} {T:List aF} {X:List Nat} (h:dZ w p T X) (hV:bE T X) (hl:T.length<1000) (c:Nat) (hc:aX c) :
 Calls Tryz.prog 52 #[.pointer (some ⟨p,0,none⟩),.int .i32 c] w fun e w'=>∃r,e=.returned r∧w'.ownsRow w.heap.size aM 1 r (Ko T c).length (aN (Ko T c))∧Below w.heap.size w w':=by
 have h':=h;obtain ⟨E,rv,xv,ev,bM,jM,cp,pp,iv,sv,mv,h1,h2,h3,_⟩:=h;obtain ⟨G,hG,hG2,hG3⟩:=h1.bm;obtain ⟨BE,hBE⟩:=af (((mapped T).map (·.code)).filter fun x=>(aK T x).head? == some c);have hbe:sj T E c=BE:=by rw [hBE];exact Jv h1.kX c
 obtain ⟨uv,YU,FP⟩:∃uv,bD w uv (aN BE)∧(((∀v,¬G (.int .i32 c) v)∧uv=.slice none 0 0)∨G (.int .i32 c) uv):=by
  by_cases hg:∃v,G (.int .i32 c) v
  ·obtain ⟨v,hv⟩:=hg;obtain ⟨c2,e,hw⟩:=hG2 _ _ hv;have:c2=c:=by injection e with _ e;omega
   subst this;rw [hbe,←bO] at hw;exact ⟨v,(Sl.aT hw).any,.inr hv⟩
  ·have hno:∀u,¬G (.int .i32 c) u:=fun u hu=>hg ⟨u,hu⟩;have:=hG3 c hno;rw [hbe] at this;rw [this];exact ⟨_,⟨none,0,rfl,Nat.le_refl _,.inl ⟨rfl,fun _=>rfl⟩⟩,.inl ⟨hno,rfl⟩⟩
 have hBl:BE.length<1000:=by
  rw [hBE];refine Nat.lt_of_le_of_lt (List.length_filter_le _ _) ?_;rw [List.length_map];exact Nat.lt_of_le_of_lt (List.length_filter_le _ _) hl
 obtain ⟨ua,uc,hue,_,_⟩:=bD.out YU;subst hue;obtain ⟨uv,huv⟩:=af (Value.slice ua (aN BE).length uc);obtain ⟨nu,hnu⟩:=af ((aN BE).length);rw [←hnu] at YU FP;clear huv uv hnu;have hkey:=wJ c (by have:=hc.1;omega);have hz:=fun W=>Tryz.zeroValue39 W;have ZB:=ae (fun (W:World)=>DV (w:=W) c hc.1);have hHl:=vR c;have IS:=ae (fun (W:World)=>jF (w:=W) c (by have:=hc.1;omega));rw [decide_eq_true hc] at IS;have PL:=ae (fun (W:World) (E:Below w.heap.size w W)=>Gy (h'.mono E) hV hl c hc.1);obtain ⟨H,hH⟩:=af (fC c);obtain ⟨pb,hpb⟩:=af (qL T c);rw [←hH] at ZB hHl;rw [←hpb] at PL;have hR:Ko T c=dD (BE++H++if pb=true then [c] else []):=by unfold Ko Wn;rw [hBE,hH,hpb]
 rw [hR];have i1:=h1.is;have hbM:bM<w.heap.size:=hG.lt;have g0:=sW.keeps (S:=fun k=>k=p∨k=bM) ((i1.mono (ah w)).at 5 rfl) (.inl rfl);have Yx:=hG.mono (ah w);have hp9:=i1.lt;clear h1 h2 h3 hG2 hG3 hbe hH hpb hR hBE h' hG i1;go_enter Tryz.func52,Tryz.ntmps52;go_wp2_with fail;refine dM (KR.blocks fun k=>k=p∨k=bM) (Array.replicate 11 true) 11 0 mixed (by rfl) ?_;refine di [0,1,2,3,4,5,6] 4 rfl (by kernel_rfl) ?_
 iterate 5 (refine aC rfl ?_;go_big_quiet_step (rfl))
 refine aC rfl ?_;refine yg rfl ?_;refine vJ _ _ 130 39 rfl iU Tryz.underlying130 Yx (.inr rfl) rfl rfl hkey hz (.slice ua nu uc) FP ?_;simp only [Act.put,List.setIfInBounds_toArray,List.set_cons_succ,List.set_cons_zero]
 iterate 1 (refine aC rfl ?_;go_big_quiet_step (rfl))
 refine ak ?_;refine bT 7 (by kernel_rfl) rfl ?_;go_wp2_with fail;refine (ZB.out w.drew).mono ?_;rintro e w1 ⟨r1,rfl,o1,hb1⟩;obtain ⟨ra,rc,rfl,_,_⟩:=az o1;have hs1:=hb1.size;have hsd:w.drew.heap.size=w.heap.size:=rfl;go_wp2_with fail;refine bB (KR.of_below hb1 hb1.size (fun k (hk:k=p∨k=bM)=>by rcases hk with rfl|rfl <;> omega)) ?_;refine bT 8 (by kernel_rfl) rfl ?_;go_wp2_with fail;have hb2:=ai (w:=w1) (.cells #[.slice ua nu uc,.slice ra H.length rc] 39);refine bB (KR.of_below hb2 hb2.size (fun k (hk:k=p∨k=bM)=>by rcases hk with rfl|rfl <;> omega)) ?_;have hB2:Below w.heap.size w (w1.alloc (.cells #[.slice ua nu uc,.slice ra H.length rc] 39)):=((ah w).trans hb1).trans (hb2.mono hs1);have i2:=Is.new w1 #[.slice ua nu uc,.slice ra H.length rc] 39;have so1:bD w1 (.slice ra H.length rc) (aN H):=(Sl.aT o1).any
 have CC:=ae (Ju (w:=w1.alloc (.cells #[.slice ua nu uc,.slice ra H.length rc] 39)) (b:=w1.heap.size) (n:=2) (c:=2) (Ls:=[BE,H]) (vs:=[.slice ua nu uc,.slice ra H.length rc]) rfl rfl (fun k hk hk'=>by
  rcases k with _|_|k
  ·exact ⟨i2.at 0 rfl,YU.mono hB2⟩
  ·exact ⟨i2.at 1 rfl,so1.mono hb2⟩
  ·exact absurd hk (by simp)) (by simp;omega) (by decide))
 rw [show [BE,H].flatten=BE++H by simp] at CC;refine bT 9 (by kernel_rfl) rfl ?_;go_wp2_with fail;refine CC.out.mono ?_;rintro e w3 ⟨r3,rfl,o3,hb3⟩;obtain ⟨a3,c3,rfl,_,_⟩:=az o3;rw [List.length_append] at o3 ⊢;go_wp2_with fail;refine bB (KR.of_below hb3 hb3.size (fun k (hk:k=p∨k=bM)=>by simp;rcases hk with rfl|rfl <;> omega)) ?_;refine di [10] 0 rfl (by kernel_rfl) ?_
 iterate 1 (refine aC rfl ?_;go_big_quiet_step (rfl))
 refine ak ?_;refine fe [] (by kernel_rfl) ?_;refine tail_nil ?_;have hB3:Below w.heap.size w w3:=hB2.trans (hb3.mono (by simp;omega));have o3:=aW o3 (show w.heap.size≤(w1.alloc (.cells #[.slice ua nu uc,.slice ra H.length rc] 39)).heap.size by simp;omega);have IS3:=ae (IS.out w3);have PL3:=ae (PL.out w3 hB3);have O3:=ae o3;have hs3:=hB3.size;have oln:(BE++H).length<2000:=by rw [List.length_append];omega
 clear CC ZB IS PL so1 i2 o1 hb1 hb2 hb3 FP Yx g0 hkey hz o3;go_wp2_with fail;refine IS3.out.mono ?_;rintro e w4 ⟨rfl,rfl⟩;go_wp2_with fail;refine PL3.out.mono ?_;rintro e w5 ⟨rfl,hb5⟩;have qQ:=hB3.trans (hb5.mono hs3);have hs5:=qQ.size;obtain ⟨L,hL⟩:=af (BE++H);rw [←hL] at O3 oln;have HL:=ae hL;have o5:=aG O3.out hb5;have ajp:=hb5.size;clear hL;have hln:BE.length+H.length=L.length:=by rw [HL.out,List.length_append]
 rw [hln] at o5 ⊢;cases pb with
 | false=>
   have SO:=ae (rG L o5 (by omega));clear O3 o5;go_wp2_with fail;refine SO.out.mono ?_;rintro e w6 ⟨rfl,o6,G7⟩;have kZ:=qQ.grown G7 hs5 (fun k hk=>(o6.lt k hk).1);have O6:=ae o6;clear SO o6 G7;go_wp2;go_ret;refine ⟨_,rfl,?_,kZ⟩;rw [←HL.out,fD];exact O6.out
 | true=>
   go_wp2_with (at_builtin;refine dK rfl _ _ 39 rfl w.heap.size aM _ 4 bS _ L.length _ rfl o5 _ rfl rfl (by omega) (by unfold maxLen;omega) w qQ (Nat.le_refl _) ?_;intro v' w6 o6 kZ);rw [show aN L++[.int .i32 (c:Nat)]=aN (L++[c]) by rw [bA];rfl,show L.length+1=(L++[c]).length by simp] at o6;have SO:=ae (rG (L++[c]) o6 (by simp;omega));have hs6:=kZ.size;clear O3 o5 o6;go_wp2_with fail;refine SO.out.mono ?_;rintro e w7 ⟨rfl,o7,ZU⟩;have hB7:=kZ.grown ZU hs6 (fun k hk=>(o7.lt k hk).1);have O7:=ae o7;clear SO o7 ZU;go_wp2;go_ret;refine ⟨_,rfl,?_,hB7⟩;rw [←List.append_assoc,←HL.out,fD];exact O7.out
def TH (rs:List fJ):Prop:=∀r∈rs,aX r.1∧∀x∈r.2,∀y∈x.2,aX y
theorem Qd {n c:Nat} {Ls:List (Nat×List Nat)} (hc:aX c) (h:∀x∈Ls,∀y∈x.2,aX y):∀x∈uC n c Ls,∀y∈x.2,aX y:=by
 unfold uC
 split
 ·rename_i m l hlast
  have hm:(m,l)∈Ls:=List.mem_of_getLast? hlast
  split
  ·intro x hx y hy
   rcases List.mem_append.1 hx with hx|hx
   ·exact h x (List.dropLast_subset _ hx) y hy
   ·rw [List.mem_singleton.1 hx] at hy
    rcases List.mem_append.1 hy with hy|hy
    ·exact h _ hm y hy
    ·rw [List.mem_singleton.1 hy];exact hc
  ·intro x hx y hy
   rcases List.mem_append.1 hx with hx|hx
   ·exact h x hx y hy
   ·rw [List.mem_singleton.1 hx] at hy
    rw [List.mem_singleton.1 hy];exact hc
 ·intro x hx y hy
  rcases List.mem_append.1 hx with hx|hx
  ·exact h x hx y hy
  ·rw [List.mem_singleton.1 hx] at hy
   rw [List.mem_singleton.1 hy];exact hc
theorem qM:aX 0:=by decide
theorem TI (K:Nat→Nat) {l:List Nat} (hl:∀c∈l,aX c):TH (dU K l):=by
 have key:∀(l:List Nat) (rs:List fJ),(∀c∈l,aX c)→TH rs→TH (l.foldl (yF K) rs):=fun l=>by
  induction l with
  | nil=>intro rs _ h;exact h
  | cons c l ih=>
    intro rs hc h
    refine ih _ (fun y hy=>hc y (.tail _ hy)) ?_
    have h0:=hc c (.head _)
    unfold yF
    split
    ·intro r hr
     rcases List.mem_append.1 hr with hr|hr
     ·exact h r hr
     ·rw [List.mem_singleton.1 hr]
      exact ⟨h0,by simp⟩
    ·have hlast:aX (rs.getLastD (0,[])).1∧∀x∈(rs.getLastD (0,[])).2,∀y∈x.2,aX y:=by
      rcases List.eq_nil_or_concat rs with e|⟨q,z,e⟩
      ·subst e
       exact ⟨qM,by simp⟩
      ·have e:rs=q++[z]:=by simpa using e
       rw [e,List.getLastD_concat]
       exact h z (by rw [e];simp)
     intro r hr
     rcases List.mem_append.1 hr with hr|hr
     ·exact h r (List.dropLast_subset _ hr)
     ·rw [List.mem_singleton.1 hr]
      exact ⟨hlast.1,Qd h0 hlast.2⟩
 refine key l _ hl fun r hr=>?_
 rw [List.mem_singleton.1 hr]
 exact ⟨qM,by simp⟩
theorem Jw {R:List fJ} (h:TH R) (s:vP):∀x∈jZ R s,aX x:=by
 have hrun:∀k,aX (aY R k).1∧∀x∈(aY R k).2,∀y∈x.2,aX y:=fun k=>by
  unfold aY
  rw [List.getD_eq_getElem?_getD]
  by_cases hk:k<R.length
  ·rw [List.getElem?_eq_getElem hk]
   exact h _ (List.getElem_mem hk)
  ·rw [List.getElem?_eq_none (by omega)]
   exact ⟨qM,by simp⟩
 have ad5:∀(ms:List Nat) (L:List (Nat×List Nat)) (n:Nat),(∀x∈L,∀y∈x.2,aX y)→∀x∈gW ms L n,aX x:=fun ms L n hL x hx=>by
  obtain ⟨i,_,hi⟩:=List.mem_flatMap.1 hx
  unfold sN at hi
  split at hi
  ·rename_i hlt
   rw [List.mem_singleton.1 hi]
   by_cases P_:i<L.length
   ·have e:L.getD i (0,[])=L[i]:=by rw [List.getD_eq_getElem?_getD,List.getElem?_eq_getElem P_];rfl
    rw [e] at hlt ⊢
    rw [List.getD_eq_getElem?_getD,List.getElem?_eq_getElem hlt]
    exact hL _ (List.getElem_mem P_) _ (List.getElem_mem hlt)
   ·have e:L.getD i (0,[])=(0,[]):=by rw [List.getD_eq_getElem?_getD,List.getElem?_eq_none (by omega)];rfl
    rw [e] at hlt
    exact absurd hlt (by simp)
  ·cases hi
 intro x hx
 unfold jZ at hx
 split at hx
 ·split at hx
  ·rw [List.mem_singleton.1 hx];exact (hrun _).1
  ·cases hx
 ·exact ad5 _ _ _ (hrun _).2 x hx
theorem TJ {T:List aF} (h:T.length<1000) (c:Nat):(Wn T c).length≤2000:=by
 have h1:=vR c
 have h2:(((mapped T).map (·.code)).filter fun x=>(aK T x).head? == some c).length≤T.length:=by
  refine Nat.le_trans (List.length_filter_le _ _) ?_
  rw [List.length_map]
  exact List.length_filter_le _ _
 unfold Wn
 rw [List.length_append,List.length_append]
 split
 ·simp;omega
 ·simp;omega
theorem TL {T:List aF} (h:T.length<1000) (c:Nat):(Ko T c).length≤2000:=by unfold Ko;rw [fD];exact TJ h c
theorem Gz {c x:Nat} (h:x∈fC c) (_:aX c):aX x:=by
 unfold fC at h
 split at h
 ·rename_i h1
  have hr:=Ng.1 h1
  obtain ⟨i,hi,rfl⟩:=List.mem_map.1 h
  have:=List.mem_range.1 hi
  unfold aX
  omega
 ·cases h
theorem TM {T:List aF} {X:List Nat} (hV:bE T X) {c:Nat} (hc:aX c):∀x∈Ko T c,aX x:=by
 intro x hx
 rw [Ko,AJ] at hx
 unfold Wn at hx
 rcases List.mem_append.1 hx with hx|hx
 ·rcases List.mem_append.1 hx with hx|hx
  ·obtain ⟨r,hr,rfl⟩:=List.mem_map.1 (List.mem_filter.1 hx).1
   exact (hV.fine r (List.mem_filter.1 hr).1).1
  ·exact Gz hx hc
 ·split at hx
  ·rw [List.mem_singleton.1 hx];exact hc
  ·cases hx
theorem BC.form {e:Ending} {w:World} {o:Option vP} (h:BC e w o):∃k a m c,e=.returned (.tuple #[.agg #[.int .i64 k,.slice a m c],.bool o.isSome]):=by
 cases o with
 | none=>exact ⟨_,_,_,_,h⟩
 | some s=>
   obtain ⟨v,rfl,sv,rfl,hs⟩:=h
   obtain ⟨a,c,rfl,_,_⟩:=bD.out hs.any
   exact ⟨_,_,_,_,rfl⟩
theorem Jy {G:Nat→List Nat} {l:List Nat} {i:Nat} (hi:i<l.length):(l.take (i+1)).flatMap G=(l.take i).flatMap G++G l[i]:=by
 rw [List.take_succ_eq_append_getElem hi,List.flatMap_append];simp
theorem uM {G:Nat→List Nat} {b:Nat} (hG:∀x,(G x).length≤b):∀l:List Nat,(l.flatMap G).length≤l.length*b
 | []=>by simp
 | x::l=>by
   have:=uM hG l
   have:=hG x
   rw [List.flatMap_cons,List.length_append,List.length_cons,Nat.succ_mul];omega
theorem Mx {q:Nat→Bool} {l:List Nat} {j:Nat} (hj:j<l.length):(l.take (j+1)).filter q=(l.take j).filter q++if q l[j]=true then [l[j]] else []:=by
 rw [List.take_succ_eq_append_getElem hj,List.filter_append]
 congr 1
 cases h:q l[j] <;> simp [h]
theorem Dp {w:World} {B p dp:Nat} {T:List aF} {X:List Nat} {l:List Nat} (hD:dZ w dp T X) (hV:bE T X) (XH:T.length<1000) (h:jk w B p dp (aB T) l) (hl:l.length<400) (hlc:∀c∈l,aX c) {v:Value} {s:vP} (hs:G_ w v s) (ho:sM (dU (aB T) l) s) :
 Calls Tryz.prog 22 #[.pointer (some ⟨p,0,none⟩),v] w fun e w'=>∃r,e=.returned r∧w'.ownsRow w.heap.size aM 1 r (dD (P9 (aB T) (aK T) (Ko T) (dU (aB T) l) s)).length (aN (dD (P9 (aB T) (aK T) (Ko T) (dU (aB T) l) s)))∧Below w.heap.size w w':=by
 obtain ⟨g,rc,gZ,small,Es,hR⟩:=h.read
 obtain ⟨sv,rfl,hsv⟩:=id hs
 obtain ⟨sa,sc,rfl,_,_⟩:=bD.out hsv.any
 obtain ⟨m,hm⟩:=af ((bH (nz s.2)).length)
 rw [←hm] at hs hsv ⊢
 have hb0:=ai (w:=w) (.cells #[.int .i64 (s.1:Nat),.slice sa m sc] 53)
 have hFc:=Jw (TI (aB T) hlc) s
 have hFl:=Jn (dU (aB T) l) s
 have hrun:=(kM (aB T) l).2.2 _ (show aY (dU (aB T) l) s.1∈dU (aB T) l by rw [gV ho.lt];exact List.getElem_mem _)
 have FI:=ae (Jt (h.mono hb0) (by omega) (hs.mono hb0) ho)
 have BG:=ae (fun (W:World) (E:Below w.heap.size w W) (c:Nat) (hc:aX c)=>Dn (hD.mono E) hV XH c hc)
 have ST:=ae (fun (W:World) (E:Below w.heap.size w W) (c:Nat) (hc:aX c)=>Mw (hD.mono E) hV XH (h.mono E) (by omega) (hs.mono E) ho c hc)
 have hbc:=fun (c:Nat) (hc:aX c)=>TM hV hc
 have hbl:=fun c=>TL XH c
 have hO:P9 (aB T) (aK T) (Ko T) (dU (aB T) l) s=(jZ (dU (aB T) l) s).flatMap fun x=>(Ko T x).filter fun c=>(yQ (aB T) (aK T) (dU (aB T) l) s c).isSome:=rfl
 rw [hO]
 obtain ⟨F,hF⟩:=af (jZ (dU (aB T) l) s)
 obtain ⟨q,hq⟩:∃q:Nat→Bool,q=fun c=>(yQ (aB T) (aK T) (dU (aB T) l) s c).isSome:=⟨_,rfl⟩
 obtain ⟨Bg,hBg⟩:=af (Ko T)
 rw [←hF] at hFc hFl FI
 rw [←hF,←hq,←hBg]
 rw [←hBg] at hbc hbl BG
 have hST:∀(W:World) (E:Below w.heap.size w W) (c:Nat) (hc:aX c),Calls Tryz.prog 23 #[.pointer (some ⟨p,0,none⟩),.agg #[.int .i64 (s.1:Nat),.slice sa m sc],.int .i32 c] W fun e w'=>(∃k a m c',e=.returned (.tuple #[.agg #[.int .i64 k,.slice a m c'],.bool (q c)]))∧Below W.heap.size W w':=fun W E c hc=>(ST.out W E c hc).mono fun e w' ⟨h1,h2⟩=>⟨by rw [hq];exact h1.form,h2⟩
 have HST:=ae hST
 have HBC:=ae hbc
 have HFC:=ae hFc
 have hIs:=hR.is
 have hF9:F.length≤401:=by have:=hrun.1;omega
 obtain ⟨G,hG⟩:∃G:Nat→List Nat,G=fun x=>(Bg x).filter q:=⟨_,rfl⟩
 have Og:∀x,(G x).length≤2000:=fun x=>by rw [hG];exact Nat.le_trans (List.length_filter_le _ _) (hbl x)
 have HG:=ae hG
 have HGL:=ae Og
 have HBL:=ae hbl
 rw [←hG]
 obtain ⟨k,hk⟩:=af s.1
 rw [←hk] at hb0 FI HST ⊢
 clear h hR hsv hs hm hF hq hBg hO ST hST hFc hFl hbc hbl hrun hG Og hD ho hk
 go_enter Tryz.func22,Tryz.ntmps22
 go_wp2_with fail
 refine FI.out.mono ?_
 rintro e w1 ⟨r1,rfl,o1,hb1⟩
 have hB1:=hb0.trans (hb1.mono hb0.size)
 have hs1:=hB1.size
 have k0:Is w1 w.heap.size #[.int .i64 (k:Nat),.slice sa m sc] 53:=(Is.new w _ _).mono hb1
 obtain ⟨n,hn⟩:=af F.length
 have hsl:=(Sl.aT o1).any
 obtain ⟨a1,c1,rfl,_,hx⟩:=Go.Proofs.YtjidohgiigjifaaGreatDoor.bD.Mf hsl hn
 have HX:=ae hx
 have HN:=ae hn
 have Qy:n≤401:=by rw [hn];exact hF9
 clear o1 hsl hx hn FI hF9
 go_wp2_with fail
 go_loopw [5,7,9,10,11,16,27] (fun o _ _ _ _ iv _ wr=>∃i:Nat,i≤n∧iv=.int .i64 i∧wr.ownsRow w1.heap.size aM 1 o ((F.take i).flatMap G).length (aN ((F.take i).flatMap G))∧Below w1.heap.size w1 wr) (fun _ _ _ _ _ iv _ _=>n-(intOf iv).toNat)
 case atStart=>exact ⟨0,Nat.zero_le _,rfl,World.ownsRow_nil _ _ _ _,Below.refl _ _⟩
 case round=>
  obtain ⟨i,hi,rfl,hrow,hE⟩:=hrel
  by_cases hin:i<n
  ·have zi:decide ((i:Int)<(n:Int))=true:=decide_eq_true (by omega)
   have hil:i<F.length:=by have:=HN.out;omega
   obtain ⟨b,off,rfl,_,c0⟩:=HX.out i hil
   have c0:=aA hE c0
   have hft:=Jy (G:=G) hil
   have hfl:=uM HGL.out (F.take i)
   rw [List.length_take,Nat.min_eq_left (by omega)] at hfl
   have X_:=HFC.out _ (List.getElem_mem hil)
   obtain ⟨x,hx⟩:=af (F[i])
   obtain ⟨P,hP⟩:=af ((F.take i).flatMap G)
   rw [←hx] at c0 hft X_
   rw [←hP] at hft hfl hrow
   have Vt:=ae hft
   have hEr:=hB1.trans (hE.mono hs1)
   have Wm:=hEr.size
   have BGr:=ae (BG.out wr hEr x X_)
   have hcc:=HBC.out x X_
   have hcl:=HBL.out x
   have p0:=(hIs.mono hEr).at 0 rfl
   clear hft hx hP
   go_wp2_with fail
   refine BGr.out.mono ?_
   rintro e w2 ⟨r2,rfl,o2,hb2⟩
   have hE2:=hE.trans (hb2.mono hE.size)
   have ajs:=hEr.trans (hb2.mono Wm)
   obtain ⟨n2,hn2⟩:=af ((Bg x).length)
   have hsl2:=(Sl.aT o2).any
   obtain ⟨a2,c2,rfl,_,hx2⟩:=Go.Proofs.YtjidohgiigjifaaGreatDoor.bD.Mf hsl2 hn2
   have Xg:=ae hx2
   have Yi:=ae hn2
   have M9:=ae hcc
   have hrow2:=aG hrow hb2
   have ajt:n2≤2000:=by rw [hn2];exact hcl
   have o2':w2.ownsRow w1.heap.size aM 1 (.slice a2 n2 c2) n2 (aN (Bg x)):=aW (hn2▸o2) hE.size
   have ad7:uS (.slice a2 n2 c2) u5:=fun k hk hk'=>by
    have h1:=(o2.lt k hk).1
    have h2:=(hrow.lt k hk').2
    omega
   clear o2 hsl2 hx2 hn2 hcc BGr p0 hcl hrow
   go_wp2_with fail
   go_loopw [5,9,10,11,27] (fun o _ _ _ jv wr=>∃j:Nat,j≤n2∧jv=.int .i64 j∧wr.ownsRow w1.heap.size aM 1 o (P++((Bg x).take j).filter q).length (aN (P++((Bg x).take j).filter q))∧Below w1.heap.size w1 wr∧wr.ownsRow w1.heap.size aM 1 (.slice a2 n2 c2) n2 (aN (Bg x))∧uS (.slice a2 n2 c2) o) (fun _ _ _ _ jv _=>n2-(intOf jv).toNat)
   case atStart=>exact ⟨0,Nat.zero_le _,rfl,by rw [List.take_zero,List.filter_nil,List.append_nil];exact hrow2,hE2,o2',ad7⟩
   case round=>
    obtain ⟨j,hj,rfl,Wo,XI,hrb,hap⟩:=hrel
    by_cases hjn:j<n2
    ·have zj:decide ((j:Int)<(n2:Int))=true:=decide_eq_true (by omega)
     have hjl:j<(Bg x).length:=by have:=Yi.out;omega
     obtain ⟨b2,cap2,he2,_,_,_,_,ZY⟩:=jU hrb (show 0<n2 by omega)
     injection he2 with he2 _ Wi
     subst he2 Wi
     have d0:=ZY j (.int .i32 ((Bg x)[j]:Nat)) (by rw [List.getElem?_eq_getElem (by rw [bO];exact hjl),fB _ _ hjl])
     clear ZY
     have hft:=Mx (q:=q) hjl
     have hyc:=M9.out _ (List.getElem_mem hjl)
     have ZZ:=List.length_filter_le q ((Bg x).take j)
     rw [List.length_take,Nat.min_eq_left (by omega)] at ZZ
     obtain ⟨y,hy⟩:=af ((Bg x)[j])
     obtain ⟨S,hS⟩:=af (((Bg x).take j).filter q)
     rw [←hy] at d0 hft hyc
     rw [←hS] at hft Wo ZZ
     have Z6:=ae hft
     have hBt:=hB1.trans (XI.mono hs1)
     have hst:=hBt.size
     have STt:=ae (HST.out wr hBt y hyc)
     have e0:=(k0.mono XI).at 0 rfl
     have e1:=(k0.mono XI).at 1 rfl
     have hln:(P++S).length<900000:=by rw [List.length_append];omega
     obtain ⟨Q,hQ⟩:=af (P++S)
     rw [←hQ] at Wo hln
     have HQ:=ae hQ
     clear hft hy hS hQ
     go_wp2_with fail
     refine STt.out.mono ?_
     rintro e w6 ⟨⟨k',a',m',c',rfl⟩,hb6⟩
     have DD:=XI.trans (hb6.mono XI.size)
     have hbn:=ai (w:=w6) (.cells #[.int .i64 k',.slice a' m' c'] 53)
     have hE7:=DD.trans (hbn.mono DD.size)
     have Z7:=aG (aG hrb hb6) hbn
     have hAP:=ae hap
     have hr7:=aG (aG Wo hb6) hbn
     obtain ⟨qy,hqy⟩:=af (q y)
     rw [←hqy]
     have HQY:=ae hqy
     clear STt e0 e1 Wo hqy DD hrb hap
     cases qy with
     | true=>
       have YG:=aG hr7 (ai (.cells #[.int .i32 (y:Nat)] aM))
       have Z8:=ae (aG Z7 (ai (.cells #[.int .i32 (y:Nat)] aM)))
       have vk:=ae (hE7.trans ((ai (.cells #[.int .i32 (y:Nat)] aM)).mono hE7.size))
       have hz8:=vk.out.size
       simp only [World.size_alloc] at hz8
       have ad_:=hE7.size
       simp only [World.size_alloc] at ad_
       go_wp2_with (at_builtin;refine lT rfl _ _ 39 rfl w1.heap.size aM (.int .i32 0) 4 bS (by decide) rfl YG (by simp;omega) [.int .i32 (y:Nat)] (by simp [Value.oneCell']) ⟨w6.heap.size+1,0,none⟩ 1 1 rfl rfl (fun i u hi=>by rcases i with _|i;cases hi;exact (Is.new' (w6.alloc (.cells #[.int .i64 k',.slice a' m' c'] 53)) #[.int .i32 (y:Nat)] aM (w6.heap.size+1) (by simp)).at 0 rfl;cases hi) (by omega) ?_;intro v' w8 o8 TN hn8)
       go_roundw
       case rel=>
        refine ⟨j+1,by omega,by simp,?_,vk.out.grown TN (by simp;omega) (fun k hk=>(YG.lt k hk).1),uS.stays hAP.out Z8.out TN,hAP.out.push (fun k hk=>(Z8.out.lt k hk).2) hn8⟩
        rw [Z6.out,←HQY.out,if_pos rfl,←List.append_assoc,←HQ.out,bA,List.length_append]
        exact o8
       case measure=>simp [intOf];omega
     | false=>
       go_wp2_with fail
       go_roundw
       case rel=>
        refine ⟨j+1,by omega,by simp,?_,hE7,Z7,hAP.out⟩
        rw [Z6.out,←HQY.out,if_neg (by simp),List.append_nil,←HQ.out]
        exact hr7
       case measure=>simp [intOf];omega
    ·have zj:decide ((j:Int)<(n2:Int))=false:=decide_eq_false (by omega)
     obtain rfl:j=n2:=by omega
     have ht:(Bg x).take j=Bg x:=List.take_of_length_le (by rw [←Yi.out];exact Nat.le_refl _)
     rw [ht] at Wo
     have HRJ:=ae Wo
     clear Wo ht
     go_wp2_with fail
     go_roundw
     case rel=>
      refine ⟨i+1,by omega,by simp,?_,XI⟩
      rw [Vt.out,HG.out]
      exact HRJ.out
     case measure=>simp [intOf];omega
  ·have zi:decide ((i:Int)<(n:Int))=false:=decide_eq_false (by omega)
   obtain rfl:i=n:=by omega
   have ht:F.take i=F:=List.take_of_length_le (by rw [←HN.out];exact Nat.le_refl _)
   rw [ht] at hrow
   have hfl:=uM HGL.out F
   rw [←HN.out] at hfl
   obtain ⟨P,hP⟩:=af (F.flatMap G)
   rw [←hP] at hrow hfl
   have SO:=ae (rG P hrow (by omega))
   have HP:=ae hP
   have hEr:=hB1.trans (hE.mono hs1)
   clear hrow ht hP
   go_wp2_with fail
   refine SO.out.mono ?_
   rintro e w6 ⟨rfl,o6,G7⟩
   have kZ:=hE.grown G7 hE.size (fun k hk=>(o6.lt k hk).1)
   have O6:=ae (aW o6 hs1)
   clear SO o6 G7
   go_wp2
   go_ret
   rw [←HP.out,fD]
   exact ⟨_,rfl,O6.out,hB1.trans (kZ.mono hs1)⟩
end Go.Proofs.YtjidohgiigjifaaGreatDoor
section
namespace Go.Cd
theorem Qe {l m:List Nat} (h:l.Perm m) (hm:m.Pairwise (·≤·)):dD l=m:=
 List.Perm.eq_of_pairwise (fun a b _ _ h1 h2=>by omega) (Eh l) hm ((l6 l).trans h)
end Go.Cd
namespace Go.Proofs.YtjidohgiigjifaaGreatDoor
open Go.RowKit Go.Cd Go.Shelf
theorem Qf:jZ (dU (aB dP) [65,778]) (0,[])=[65]:=by decide +kernel
theorem MB:((Wn dP 65).filter fun c=>(yQ (aB dP) (aK dP) (dU (aB dP) [65,778]) (0,[]) c).isSome)=[197,8491,65]:=by decide +kernel
theorem Wp:dD (P9 (aB dP) (aK dP) (Ko dP) (dU (aB dP) [65,778]) (0,[]))=[65,197,8491]:=by
 refine Qe ?_ (by decide);unfold P9;rw [Qf,List.flatMap_cons,List.flatMap_nil,List.append_nil];have h:=(l6 (Wn dP 65)).filter fun c=>(yQ (aB dP) (aK dP) (dU (aB dP) [65,778]) (0,[]) c).isSome;rw [MB] at h;exact h.trans (by decide)
theorem TP:zZ (dU (aB dP) [65,778])=3:=by decide +kernel
theorem Jz {w:World} {B p dp:Nat} {K:Nat→Nat} {l:List Nat} (h:jk w B p dp K l) (hl:l.length<9000) (hk:0<(dU K l).length) :
 Calls Tryz.prog 20 #[.pointer (some ⟨p,0,none⟩)] w fun e w'=>∃v,e=.returned v∧Kk w' v (0:Nat) (List.replicate (dU K l)[0].2.length 0)∧Below w.heap.size w w':=by
 obtain ⟨w1,hw1⟩:=af (w.alloc (.cells #[.int .i64 0,.slice none 0 0] 53));have hb1:Below w.heap.size w w1:=by rw [hw1];exact ai _
 have k1:Is w1 w.heap.size #[.int .i64 0,.slice none 0 0] 53:=by rw [hw1];exact Is.new _ _ _
 have AT:=ae (Kl (h.mono hb1) hl hk);clear h;go_enter Tryz.func20,Tryz.ntmps20;go_wp2_with fail;rw [←hw1];clear hw1;refine AT.out.mono ?_;rintro e w2 ⟨v,rfl,⟨sv,rfl,hs⟩,h2⟩;obtain ⟨sa,sn,sc,rfl⟩:∃sa sn sc,sv=.slice sa sn sc:=by obtain ⟨a,cap,h,_⟩:=hs;exact ⟨_,_,_,h⟩
 have k2:=k1.mono h2;have f0:=k2.at 0 rfl;have d0:=k2.frozen 0;have k3:=k2.set 0 (.int .i64 0);have f1:=k2.at 1 rfl;have d1:=k2.frozen 1;have k4:=k3.set 1 (.slice sa sn sc);have e0:=k4.at 0 rfl;have e1:=k4.at 1 rfl;have HS:=ae ((hs.put k2.at_ (o:=0) (u:=.int .i64 0) (by decide)).put k3.at_ (o:=1) (u:=.slice sa sn sc) (by decide));have hbz:Below w.heap.size w ((w2.setCell ⟨w.heap.size,0,none⟩ (.int .i64 0)).setCell ⟨w.heap.size,1,none⟩ (.slice sa sn sc)):=aj (aj (ag hb1 h2) (Nat.le_refl _)) (Nat.le_refl _);clear hs AT k1 k2 k3 k4 h2;go_wp2;refine bodyPost_ret (v:=.agg #[.int .i64 0,.slice sa sn sc]) (by simp [results,Tryz.results20,go_sem,e0,e1]) rfl ?_;exact ⟨_,rfl,⟨_,rfl,HS.out⟩,hbz⟩
theorem JA {w:World} (hG:bZ w) :
 Calls Tryz.prog 6 #[] w fun e w'=>e=.returned (.bool true)∧Below w.heap.size w w':=by
 have DA:=ae (Ma hG);clear hG;go_enter Tryz.func6,Tryz.ntmps6;go_wp2_with fail;refine DA.out.mono ?_;rintro e w1 ⟨dp,rfl,hD,b1⟩;obtain ⟨w2,hw2⟩:=af (w1.alloc (.cells #[.int .i32 65,.int .i32 778] 21));have b2:Below w1.heap.size w1 w2:=by rw [hw2];exact ai _
 have S2:bD w2 (.slice (some ⟨w1.heap.size,0,none⟩) 2 2) (aN [65,778]):=by rw [hw2];exact lY w1 #[.int .i32 65,.int .i32 778] _
 have hK:iQ (aB dP) [65,778]:=by
  have h65:aB dP 65=0:=by decide +kernel
  have aea:aB dP 778=230:=by decide +kernel
  refine ⟨?_,trivial⟩;unfold swp;rw [h65,aea];omega
 have NW:=ae (Gu (hD.mono b2) xS [65,778] S2 (by decide) hK (by decide));have b12:=ag b1 b2;have HD:=ae (hD.mono b2);clear hD S2 DA b1 b2 hK;go_wp2_with fail;rw [←hw2];clear hw2;refine NW.out.mono ?_;rintro e w3 ⟨p,rfl,hM,b3⟩;have hlen:0<(dU (aB dP) [65,778]).length:=by decide +kernel
 have h0:(dU (aB dP) [65,778])[0].2.length=0:=by rw [←gV hlen];decide +kernel
 have ST:=ae (Jz hM (by decide) hlen);rw [h0] at ST;have SC:=ag b12 b3;have HD3:=ae (HD.out.mono b3);have HM:=ae hM;clear hM NW b12 b3 HD;go_wp2_with fail;refine ST.out.mono ?_;rintro e w4 ⟨v,rfl,hs,b4⟩;have hs':G_ w4 v (0,[]):=hs;have hok:sM (dU (aB dP) [65,778]) (0,[]):=⟨hlen,by rw [gV hlen,h0];rfl,fun i a _=>absurd a (by simp)⟩;have OP:=ae (Dp (HD3.out.mono b4) xS (by decide) (HM.out.mono b4) (by decide) (by decide) hs' hok);rw [Wp] at OP;have HM4:=ae (HM.out.mono b4);have UO:=ag SC b4;clear hs hs' ST HD3 HM b4 SC hok h0 hlen;go_wp2_with fail;refine OP.out.mono ?_;rintro e w5 ⟨r,rfl,hr,b5⟩;have SL:=ae (Sl.aT hr);obtain ⟨ra,rc,rfl,_,_⟩:=az hr;have SZ:=ae (BB (HM4.out.mono b5));rw [TP] at SZ;have b15:=ag UO b5;clear OP HM4 hr b5 UO;go_wp2_with fail;refine SZ.out.mono ?_;rintro e w6 ⟨zv,rfl,hz,b6⟩;have S6:=ae (SL.out.mono b6);go_wp2_with fail;refine (Ke 3 (by decide) w6).mono ?_;rintro e w7 ⟨tv,rfl,ht,b7⟩;have SM:=ae (Tk (hz.mono b7) ht (Nat.lt_of_le_of_lt ((aR (n:=1) (by decide:2≤B)).2 (by decide)) (by decide)));rw [decide_eq_true rfl] at SM;have S7:=ae (S6.out.mono b7);have b17:=ag (ag b15 b6) b7;clear hz ht SZ SL S6 b6 b7 b15;go_wp2_with fail;refine SM.out.mono ?_;rintro e w8 ⟨rfl,b8⟩;obtain ⟨a',cap',hv',_,hx⟩:=Go.Cd.bD.lD (S7.out.mono b8).any rfl;injection hv' with hv1 _ hv3;subst hv1;obtain ⟨b,off,rfl,_,c0⟩:=hx 0 (by decide);obtain ⟨_,_,hb1,_,c1⟩:=hx 1 (by decide);obtain ⟨_,_,hb2,_,c2⟩:=hx 2 (by decide);injection hb1 with hb1;injection hb1 with q1 q2;subst q1;subst q2;injection hb2 with hb2;injection hb2 with q1 q2;subst q1;subst q2;have c0:w8.cell? ⟨b,off,none⟩=some (.int .i32 65):=c0;have c1:w8.cell? ⟨b,off+1,none⟩=some (.int .i32 197):=c1;have c2:w8.cell? ⟨b,off+2,none⟩=some (.int .i32 8491):=c2;clear hx S7 SM;go_wp2;go_ret;exact ⟨rfl,ag b17 b8⟩
end Go.Proofs.YtjidohgiigjifaaGreatDoor
end
namespace Go.Proofs.YtjidohgiigjifaaGreatDoor
open Go.RowKit Go.Cd
theorem JJ {K:Nat→Nat} {a:Nat}:∀{l:List Nat},iQ K (a::l)↔(∀b,l.head? = some b→¬swp K a b)∧iQ K l
 | []=>by simp [iQ]
 | b::l=>by simp [iQ]
theorem MQ {K:Nat→Nat} {c x:Nat}:∀{l:List Nat},(jb K c l).head? = some x→x=c∨l.head? = some x
 | [],h=>.inl (by simpa [jb] using h.symm)
 | d::l,h=>by
   unfold jb at h
   split at h
   ·right;simpa using h
   ·left;simpa using h.symm
theorem yZ {K:Nat→Nat} {c:Nat}:∀{l:List Nat},iQ K l→iQ K (jb K c l)
 | [],_=>by simp [jb,iQ]
 | d::l,h=>by
   unfold jb
   split
   ·rename_i hd;rw [JJ] at h ⊢;refine ⟨fun b hb hs=>?_,yZ h.2⟩;rcases MQ hb with rfl|hb
    ·unfold swp at hs;omega
    ·exact h.1 b hb hs
   ·rename_i hd;exact ⟨hd,h⟩
theorem y5 (K:Nat→Nat):∀l:List Nat,iQ K (iP K l)
 | []=>trivial
 | _::l=>yZ (y5 K l)
theorem BK {F:Nat→List Nat}:∀{l:List Nat},(∀x∈l,F x=[x])→l.flatMap F=l
 | [],_=>rfl
 | a::l,h=>by
   rw [List.flatMap_cons,h a (.head _),BK fun x hx=>h x (.tail _ hx)];rfl
structure Ky (T:List aF) (l:List Nat):Prop where
 leaf:∀x∈l,aK T x=[x]
 ord:iQ (aB T) l
theorem Ky.self {T:List aF} {l:List Nat} (h:Ky T l):xR T l=l:=by
 unfold xR;rw [BK h.leaf,xL _ h.ord]
theorem Ky.flat {T:List aF} {l:List Nat} (h:Ky T l):l.flatMap (aK T)=l:=BK h.leaf
theorem Ky.of {T:List aF} {X:List Nat} (hV:bE T X) (l:List Nat):Ky T (xR T l):=by
 refine ⟨fun x hx=>?_,y5 _ _⟩;obtain ⟨y,_,hy⟩:=List.mem_flatMap.1 ((F9 _).1 hx);exact K6 hV hy
end Go.Proofs.YtjidohgiigjifaaGreatDoor
