/- CedillaProducts: where a text may be cut apart, it has as many texts that are alike as its two parts multiplied; no condition. -/
import Derived.Test.YtmpkfkoficehpaaGreatDoorQ25
import Derived.Deep.Cut
import Derived.Deep.CutRange
set_option maxRecDepth 100000
set_option maxHeartbeats 6400000
namespace Go.Proofs.YtmpkfkoficehpaaGreatDoor
open Go.RowKit Go.Cd
def twice (T:List aH) (X:List Nat) (r q:aH):Prop:=Prim T X r.code∧Prim T X q.code∧q.map.length=2∧q.map=r.map
theorem WA {T:List aH} {X:List Nat} (h:∀i (hi:i<T.length) k (hk:k<T.length),k<i→¬twice T X T[i] T[k]) :
 ∀r∈T,∀q∈T,r.map.length=2→r.map=q.map→Prim T X r.code→Prim T X q.code→r=q:=by
 intro r hr q hq h2 he hp hp';obtain ⟨i,hi,rfl⟩:=List.getElem_of_mem hr;obtain ⟨k,hk,rfl⟩:=List.getElem_of_mem hq;rcases Nat.lt_trichotomy i k with hik|rfl|hik
 ·exact absurd ⟨hp',hp,h2,he⟩ (h k hk i hi hik)
 ·rfl
 ·exact absurd ⟨hp,hp',he▸h2,he.symm⟩ (h i hi k hk hik)
theorem Na {l:List Nat} {n:Nat} (hn:n=l.length) (h:n=2):∃a b,l=[a,b]:=by
 subst h
 match l,hn with
 | [a,b],_=>exact ⟨a,b,rfl⟩
theorem Bo {w:World} {v:Value} {T:List aH} {X:List Nat} (h:iV w v T X) (hmax:T.length<1000000) (hX:X.length<1000000)
 (hT:∀r∈T,aP r.code∧r.cls<255∧r.map.length≤2∧∀x∈r.map,aP x) :
 Calls Tryz.prog 54 #[v] w fun e w'=>∃s,e=.returned (.string s)∧(s=⟨#[]⟩→aY T X)∧Below w.heap.size w w':=by
 have HT:=aa h;obtain ⟨r,x,rfl,⟨a,cap,rfl,hcap,hx⟩,h2⟩:=h;have HX:=aa hx;obtain ⟨ax,cx,rfl,_,_⟩:=Go.Cd.bB.out h2;obtain ⟨n,hn⟩:=ae T.length;obtain ⟨nx,hnx⟩:∃n,n=(ints X).length:=⟨_,rfl⟩;rw [←hn] at hmax hcap;rw [←hn,←hnx] at HT ⊢;have HN:=aa hn;have Pf:=aa hT;have hb:=af (w:=w) (.cells #[.slice a n cap,.slice ax nx cx] 25);have d0:(w.alloc (.cells #[.slice a n cap,.slice ax nx cx] 25)).cell? ⟨w.heap.size,0,none⟩=some (.slice a n cap):=by unfold World.cell?;rw [heap_alloc_new];rfl
 have d1:(w.alloc (.cells #[.slice a n cap,.slice ax nx cx] 25)).cell? ⟨w.heap.size,1,none⟩=some (.slice ax nx cx):=by unfold World.cell?;rw [heap_alloc_new];rfl
 obtain ⟨W0,hW⟩:=ae (w.alloc (.cells #[.slice a n cap,.slice ax nx cx] 25));rw [←hW] at hb d0 d1;have IS:=fun (W:World) (y:Nat) (hy:y<1114112)=>aa (BL (w:=W) y (by omega));have KI:=fun (W:World) (y:Nat) (hy:y<1114112)=>aa (Fe (w:=W) y hy);have FU:=fun (W:World) (E:Below w.heap.size w W) (y:Nat) (hy:y<1114112)=>aa (uh (HT.out.mono E) y hy (fun r hr x hx=>((hT r hr).2.2.2 x hx).1) (fun r hr=>Nat.le_trans (hT r hr).2.2.1 (by decide)) (by omega));have PR:=fun (W:World) (E:Below w.heap.size w W) (y:Nat) (hy:y<1114112)=>aa (xX (HT.out.mono E) y hy (by omega) hX);clear h2 hnx hx hn hT;go_enter Tryz.func54,Tryz.ntmps54;go_wp2_with fail;rw [←hW];clear hW;go_loopw [3,21] (fun lv iv wr=>∃(j:Nat) (last:Int),j≤n∧iv=.int .i64 j∧lv=.int .i64 last∧-1≤last∧last<1114112∧(∀r∈T.take j,(r.code:Int)≤last)∧rising (T.take j)∧(∀r∈T.take j,hk r.code=0∧∀x∈r.map,hk x=0)∧Below W0.heap.size W0 wr) (fun _ iv _=>n-(intOf iv).toNat)
 case atStart=>exact ⟨0,-1,Nat.zero_le _,rfl,rfl,by decide,by decide,by simp,trivial,by simp,Below.refl _ _⟩
 case round=>
  obtain ⟨j,last,hj,rfl,rfl,hl1,hl2,hle,hri,hka,hE⟩:=hrel;have fo:=hb.trans (hE.mono hb.size);by_cases hjn:j<n
  ·have hjl:j<T.length:=by have:=HN.out;omega
   obtain ⟨b,off,m,rfl,hbs,c0,c1,c2,hm⟩:=HX.out j hjl;have c0:=aA fo c0;have c1:=aA fo c1;have c2:=aA fo c2;have hm:=hm.mono fo;obtain ⟨hfc,hfk,hfm,hfx⟩:=Pf.out _ (List.getElem_mem hjl);have HS:=aa (show T.take (j+1)=T.take j++[T[j]] from List.take_succ_eq_append_getElem hjl);have Nv:=aa hle;have HRI:=aa hri;have XJ:=aa hka;generalize T[j]=q at *;obtain ⟨nm,hnm⟩:=ae q.map.length;obtain ⟨am,cm,rfl,hcm,hxm⟩:=bB.kD hm hnm;have PS:=aa hxm;have HFX:=aa hfx;have qM:=aa hnm;have HM:=aa hm;have VM:=hfc.1;have I1:=fun W=>IS W q.code VM;simp only [decide_eq_true hfc] at I1;have Pz:nm≤2:=by omega
   clear hle hri hka hfx hxm hm hfm hnm hfc FU PR;go_wp2_with fail;refine (I1 _).out.mono ?_;rintro e w1 ⟨rfl,rfl⟩;by_cases hlast:(q.code:Int)≤last
   ·go_wp2;go_ret;exact ⟨_,rfl,fun h=>by (first|cases h|simp at h),hb.trans ((ah hE (af _)).mono hb.size)⟩
   ·have O:((wr.alloc (.cells #[.int .i64 q.code,.int .i64 q.cls,.slice am nm cm] 47)).alloc (.cells #[.int .i64 q.code] bq)).ownsRow (wr.heap.size+1) bq 1 (.slice (some ⟨wr.heap.size+1,0,none⟩) 1 1) 1 [.int .i64 q.code]:=by
     have:=lK (wr.alloc (.cells #[.int .i64 q.code,.int .i64 q.cls,.slice am nm cm] 47)) #[.int .i64 q.code] bq 1 rfl (by decide);simpa only [World.size_alloc] using this
    have S2:=aa (fun (W:World) (E:Below wr.heap.size wr W)=>HM.out.mono E);have O:=aa O;have S1C:=aa (show ∀(w1:World) (v1:Value) (n1:Nat),w1.ownsRow (wr.heap.size+1) bq 1 v1 n1 ([Value.int .i64 q.code]++ints q.map)→bB w1 v1 (ints (q.code::q.map)) from fun w1 v1 n1 o=>(Sl.aW o).any);have Zj:=aa (show nm+1=(q.code::q.map).length by rw [List.length_cons,qM.out]);go_wp2_with (at_builtin;refine bN rfl _ _ 23 rfl (wr.heap.size+1) bq _ 8 jw _ 1 _ rfl O.out _ (ints q.map) rfl (S2.out _ (ed _ _)) (jU _) (by rw [bZ,←qM.out];unfold maxLen;omega) (by rw [bZ,←qM.out];omega) (by simp only [World.size_alloc];omega) ?_;intro v1 w1 o1 hg1;obtain ⟨a1,xZ,rfl,_,hx1⟩:=bB.kD (S1C.out _ _ _ o1) Zj.out);have hE1:Below wr.heap.size wr w1:=(ed _ _).grown hg1 (ed _ _).size (fun k hk=>by have:=(O.out.lt k hk).1;omega);have f2:w1.cell? ⟨wr.heap.size,2,none⟩=some (.slice am nm cm):=
     hg1.cell (aA (af _) (by unfold World.cell?;rw [heap_alloc_new];rfl)) (fun e=>by have:=(O.out.lt _ e.symm).1;simp only at this;omega)
    have lD:=aa hx1
    have HQ:=aa (show ∀x∈q.code::q.map,x<1114112 from fun x hx=>by
     rcases List.mem_cons.1 hx with rfl|hx
     ·exact VM
     ·exact (HFX.out x hx).1)
    clear o1 hg1 hx1 c0 c1 c2 I1 S1C;generalize hL:q.code::q.map=L at *;have HL:=aa hL;clear hL;obtain ⟨wo,jQ⟩:∃w',w'=wr:=⟨_,rfl⟩;subst jQ;go_wp2_with fail;go_loopw [60] (fun kv w2=>∃k:Nat,k≤nm+1∧kv=.int .i64 k∧(∀x∈L.take k,hk x=0)∧w2=w1) (fun kv _=>nm+1-(intOf kv).toNat)
    case atStart=>exact ⟨0,Nat.zero_le _,rfl,by simp,(by first|rfl|trivial)⟩
    case round=>
     obtain ⟨k,hk1,rfl,hks,rfl⟩:=hrel;obtain ⟨w1,jQ⟩:∃w',w'=wr:=⟨_,rfl⟩;subst jQ;by_cases hkn:k<nm+1
     ·have hkl:k<L.length:=by have:=Zj.out;omega
      obtain ⟨b1,f1,rfl,_,hz⟩:=lD.out k hkl;have K1:=fun W=>KI W _ (HQ.out _ (List.getElem_mem hkl));have Vd:=aa (show L.take (k+1)=L.take k++[L[k]] from List.take_succ_eq_append_getElem hkl);have HKS:=aa hks;generalize L[k]=y at *;clear hks;by_cases hy0:hk y=0
      ·rw [hy0] at K1;go_wp2_with fail;refine (K1 _).out.mono ?_;rintro e w2 ⟨rfl,rfl⟩;go_wp2;go_roundw
       case rel=>exact ⟨k+1,by omega,rfl,fun x hx=>by
        rw [Vd.out,List.mem_append,List.mem_singleton] at hx;rcases hx with hx|rfl
        ·exact HKS.out x hx
        ·exact hy0,(by first|rfl|trivial)⟩
       case measure=>simp [intOf];omega
      ·go_wp2_with fail;refine (K1 _).out.mono ?_;rintro e w2 ⟨rfl,rfl⟩;generalize hk y=kk at *;go_wp2;go_ret;exact ⟨_,rfl,fun h=>by (first|cases h|simp at h),hb.trans ((ah hE hE1).mono hb.size)⟩
     ·have hkk:k=nm+1:=by omega
      rw [List.take_of_length_le (by have:=Zj.out;omega)] at hks;have HKS:=aa hks;clear hks lD HQ hk1 hkk;have Zy:=PS.out;go_wp2_with fail;go_loopw [71] (fun kv w2=>∃k:Nat,k≤nm∧kv=.int .i64 k∧w2=w1) (fun kv _=>nm-(intOf kv).toNat)
      case atStart=>exact ⟨0,Nat.zero_le _,rfl,(by first|rfl|trivial)⟩
      case round=>
       obtain ⟨k,hk1,rfl,rfl⟩:=hrel;obtain ⟨w1,jQ⟩:∃w',w'=wr:=⟨_,rfl⟩;subst jQ;by_cases hkn:k<nm
       ·have hkl:k<q.map.length:=by have:=qM.out;omega
        obtain ⟨bm,fm,rfl,_,hz⟩:=Zy k hkl;have hz:=aA hE1 hz;have hc1:=HFX.out _ (List.getElem_mem hkl);have I2:=fun W=>IS W _ hc1.1;simp only [decide_eq_true hc1] at I2;clear hc1 Zy;generalize q.map[k]=y at *;go_wp2_with fail;refine (I2 _).out.mono ?_;rintro e w2 ⟨rfl,rfl⟩;go_wp2;go_roundw
        case rel=>exact ⟨k+1,by omega,rfl,(by first|rfl|trivial)⟩
        case measure=>simp [intOf];omega
       ·clear Zy;go_wp2;go_roundw
        case rel=>
         refine ⟨j+1,q.code,by omega,rfl,rfl,by omega,by omega,?_,?_,?_,ah hE hE1⟩
         ·intro r hr;rw [HS.out,List.mem_append,List.mem_singleton] at hr;rcases hr with hr|rfl
          ·have:=Nv.out r hr;omega
          ·exact Int.le_refl _
         ·rw [HS.out,Ay];refine ⟨HRI.out,⟨by simp,trivial⟩,fun r hr q' hq'=>?_⟩;rw [List.mem_singleton.1 hq'];have:=Nv.out r hr;omega
         ·intro r hr;rw [HS.out,List.mem_append,List.mem_singleton] at hr;rcases hr with hr|rfl
          ·exact XJ.out r hr
          ·refine ⟨HKS.out _ (by rw [←HL.out];simp),fun x hx=>HKS.out _ (by rw [←HL.out];simp [hx])⟩
        case measure=>simp [intOf];omega
  ·obtain rfl:n=j:=by omega
   rw [List.take_of_length_le (by rw [HN.out];exact Nat.le_refl _)] at hri hka;have HRI:=aa hri;have XJ:=aa hka;have e0:=aA hE d0;have e1:=aA hE d1;clear hle hri hka hl1 hl2 hjn hj KI IS;obtain ⟨w3,jQ⟩:∃w',w'=wr:=⟨_,rfl⟩;subst jQ;go_wp2_with fail;go_loopw [83] (fun iv w4=>∃j:Nat,j≤n∧iv=.int .i64 j∧(∀r∈T.take j,fJ T r.code)∧Below w3.heap.size w3 w4) (fun iv _=>n-(intOf iv).toNat)
   case atStart=>exact ⟨0,Nat.zero_le _,rfl,by simp,Below.refl _ _⟩
   case round=>
    obtain ⟨j,hj,rfl,hok,kZ⟩:=hrel;obtain ⟨w4,jQ⟩:∃w',w'=wr:=⟨_,rfl⟩;subst jQ;have Ff:=fo.trans (kZ.mono fo.size);by_cases hjn:j<n
    ·have hjl:j<T.length:=by have:=HN.out;omega
     obtain ⟨b,off,m,rfl,hbs,c0,c1,c2,hm⟩:=HX.out j hjl;have c0:=aA Ff c0;have c1:=aA Ff c1;have c2:=aA Ff c2;have g0:=aA kZ e0;have g1:=aA kZ e1;obtain ⟨nm,hnm⟩:=ae (T[j].map.length);obtain ⟨am,cm,rfl,_,_⟩:=bB.kD hm hnm;clear hm hnm;have VM:=(Pf.out _ (List.getElem_mem hjl)).1.1;have HS:=aa (show T.take (j+1)=T.take j++[T[j]] from List.take_succ_eq_append_getElem hjl);have Uc:=aa hok;generalize T[j]=q at *;have F1:=fun (W:World) (E:Below w4.heap.size w4 W)=>FU W (Ff.trans (E.mono Ff.size)) q.code VM;have gg0:(w4.alloc (.cells #[.int .i64 q.code,.int .i64 q.cls,.slice am nm cm] 47)).cell? ⟨w.heap.size,0,none⟩=some (.slice (some ⟨b,off,none⟩) n cap):=aA (af _) g0;have gg1:(w4.alloc (.cells #[.int .i64 q.code,.int .i64 q.cls,.slice am nm cm] 47)).cell? ⟨w.heap.size,1,none⟩=some (.slice ax nx cx):=aA (af _) g1;clear hok FU PR e0 e1 hbs g0 g1;by_cases hf:fJ T q.code
     ·simp only [decide_eq_true hf] at F1;go_wp2_with fail;refine (F1 _ (af _)).out.mono ?_;rintro e w5 ⟨r5,rfl,_,h5⟩;go_wp2;go_roundw
      case rel=>exact ⟨j+1,by omega,rfl,fun r hr=>by
       rw [HS.out,List.mem_append,List.mem_singleton] at hr;rcases hr with hr|rfl
       ·exact Uc.out r hr
       ·exact hf,ah kZ (ah (af _) h5)⟩
      case measure=>simp [intOf];omega
     ·simp only [decide_eq_false hf] at F1;go_wp2_with fail;refine (F1 _ (af _)).out.mono ?_;rintro e w5 ⟨r5,rfl,_,h5⟩;go_wp2;go_ret;exact ⟨_,rfl,fun h=>by (first|cases h|simp at h),Ff.trans ((ah (af _) h5).mono Ff.size)⟩
    ·obtain rfl:n=j:=by omega
     rw [List.take_of_length_le (by rw [HN.out];exact Nat.le_refl _)] at hok;have Uc:=aa hok;have e0:=aA kZ e0;have e1:=aA kZ e1;clear hok hjn hj FU;have HPF:=aa (show ∀r∈T,Prim T X r.code→r.map.length=2 from fun r hr hp=>yH HRI.out hr (by have:=(XJ.out r hr).1;omega) hp)
     have HV:=aa (show (∀i (hi:i<T.length) k (hk:k<T.length),k<i→¬twice T X T[i] T[k])→aY T X from fun h=>
      ⟨fun r hr=>⟨(Pf.out r hr).1,(Pf.out r hr).2.1,(Pf.out r hr).2.2.1,(XJ.out r hr).1,fun x hx=>⟨(XJ.out r hr).2 x hx,(Pf.out r hr).2.2.2 x hx⟩⟩,HRI.out,Uc.out,WA h⟩)
     go_wp2_with fail;go_loopw [100] (fun iv w5=>∃j:Nat,j≤n∧iv=.int .i64 j∧(∀i (hi:i<T.length) k (hk:k<T.length),i<j→k<i→¬twice T X T[i] T[k])∧Below w4.heap.size w4 w5) (fun iv _=>n-(intOf iv).toNat)
     case atStart=>exact ⟨0,Nat.zero_le _,rfl,fun i _ k _ h=>by omega,Below.refl _ _⟩
     case round=>
      obtain ⟨j,hj,rfl,hno,jI⟩:=hrel;obtain ⟨w5,jQ⟩:∃w',w'=wr:=⟨_,rfl⟩;subst jQ;have PT:=Ff.trans (jI.mono Ff.size);by_cases hjn:j<n
      ·have hjl:j<T.length:=by have:=HN.out;omega
       obtain ⟨b,off,m,rfl,hbs,c0,c1,c2,hm⟩:=HX.out j hjl;have c0:=aA PT c0;have c1:=aA PT c1;have c2:=aA PT c2;have e0:=aA jI e0;have e1:=aA jI e1;have VM:=(Pf.out _ (List.getElem_mem hjl)).1.1;have hmj:=List.getElem_mem hjl;have HJ:=aa (show ∀i (hi:i<T.length),i=j→T[i]=T[j] from fun i hi h=>by subst h;rfl);have Qf:=aa hno;have HM:=aa (HPF.out _ hmj);generalize T[j]=q at *;obtain ⟨nm,hnm⟩:=ae q.map.length;obtain ⟨am,cm,rfl,_,hxm⟩:=bB.kD hm hnm
       have PS:=aa (show nm=2→∃y0 y1,q.map=[y0,y1]∧∃bm fm,am=some ⟨bm,fm,none⟩∧w.cell? ⟨bm,fm,none⟩=some (.int .i64 y0)∧w.cell? ⟨bm,fm+1,none⟩=some (.int .i64 y1) from fun h2=>by
        obtain ⟨y0,y1,hy⟩:=Na hnm h2;obtain ⟨bm,fm,rfl,_,z0⟩:=hxm 0 (by omega);obtain ⟨bm',fm',hab,_,z1⟩:=hxm 1 (by omega);cases hab;simp only [hy] at z0 z1
        exact ⟨y0,y1,hy,bm,fm,rfl,by simpa using z0,by simpa using z1⟩)
       have qM:=aa hnm;have hjc:j≤cap:=by omega
       obtain ⟨W5,PW⟩:=ae (w5.alloc (.cells #[.int .i64 q.code,.int .i64 q.cls,.slice am nm cm] 47));have h5:Below w5.heap.size w5 W5:=by subst PW;exact af _
       have ee0:(w5.alloc (.cells #[.int .i64 q.code,.int .i64 q.cls,.slice am nm cm] 47)).cell? ⟨w.heap.size,0,none⟩=some (.slice (some ⟨b,off,none⟩) n cap):=aA (af _) e0;have q0:W5.cell? ⟨w5.heap.size,0,none⟩=some (.int .i64 q.code):=by subst PW;unfold World.cell?;rw [heap_alloc_new];rfl
       have q2:W5.cell? ⟨w5.heap.size,2,none⟩=some (.slice am nm cm):=by subst PW;unfold World.cell?;rw [heap_alloc_new];rfl
       have e0:=aA h5 e0;have e1:=aA h5 e1;have hEW:=PT.trans (h5.mono PT.size);clear hno hm hnm hxm hmj hbs;go_wp2_with fail;rw [←PW];clear PW ee0;go_loopw [110] (fun kv w6=>∃k:Nat,k≤j∧kv=.int .i64 k∧(∀k' (hk':k'<T.length),k'<k→¬twice T X q T[k'])∧Below W5.heap.size W5 w6) (fun kv _=>j-(intOf kv).toNat)
       case atStart=>exact ⟨0,Nat.zero_le _,rfl,fun k' _ h=>by omega,Below.refl _ _⟩
       case round=>
        clear c0 c1 c2;obtain ⟨k,hk1,rfl,hno,iM⟩:=hrel;obtain ⟨w6,jQ⟩:∃w',w'=wr:=⟨_,rfl⟩;subst jQ;have Zz:=hEW.trans (iM.mono hEW.size);by_cases hkj:k<j
        ·have hkl:k<T.length:=by have:=HN.out;omega
         obtain ⟨b',off',m',hab,_,c0,c1,c2,hm⟩:=HX.out k hkl;cases hab;have c0:=aA Zz c0;have c1:=aA Zz c1;have c2:=aA Zz c2;have hp9:=(Pf.out _ (List.getElem_mem hkl)).1.1;have HNK:=aa hno;have HK:=aa (show ∀i (hi:i<T.length),i=k→T[i]=T[k] from fun i hi h=>by subst h;rfl);generalize T[k]=p at *;obtain ⟨np,Qm⟩:∃nm,nm=p.map.length:=⟨_,rfl⟩;obtain ⟨ap,cp,rfl,_,hxp⟩:=bB.kD hm Qm
         have HXP:=aa (show np=2→∃y0 y1,p.map=[y0,y1]∧∃bm fm,ap=some ⟨bm,fm,none⟩∧w.cell? ⟨bm,fm,none⟩=some (.int .i64 y0)∧w.cell? ⟨bm,fm+1,none⟩=some (.int .i64 y1) from fun h2=>by
          obtain ⟨y0,y1,hy⟩:=Na Qm h2;obtain ⟨bm,fm,rfl,_,z0⟩:=hxp 0 (by omega);obtain ⟨bm',fm',hab,_,z1⟩:=hxp 1 (by omega);cases hab;simp only [hy] at z0 z1
          exact ⟨y0,y1,hy,bm,fm,rfl,by simpa using z0,by simpa using z1⟩)
         have TW:=aa Qm;obtain ⟨W6,hW6⟩:=ae (w6.alloc (.cells #[.int .i64 p.code,.int .i64 p.cls,.slice ap np cp] 47));have h6:Below w6.heap.size w6 W6:=by subst hW6;exact af _
         have p0:W6.cell? ⟨w6.heap.size,0,none⟩=some (.int .i64 p.code):=by subst hW6;unfold World.cell?;rw [heap_alloc_new];rfl
         have p2:W6.cell? ⟨w6.heap.size,2,none⟩=some (.slice ap np cp):=by subst hW6;unfold World.cell?;rw [heap_alloc_new];rfl
         have Bq:=ah iM h6;have e0:=aA Bq e0;have e1:=aA Bq e1;have q0:=aA Bq q0;have q2:=aA Bq q2;have PX:=hEW.trans (Bq.mono hEW.size)
         have ZU:=aa (show ∀z,(z=true→twice T X q p)→(z=false→¬twice T X q p)→z=false→∀k' (hk':k'<T.length),k'<k+1→¬twice T X q T[k'] from fun z _ h0 hz k' hk' hkk=>by
          by_cases h:k'=k
          ·rw [HK.out k' hk' h];exact h0 hz
          ·exact HNK.out k' hk' (by omega))
         clear hno hm Qm hxp HNK HK;go_wp2_with fail;rw [←hW6];clear hW6;have hq:=ag W6;have g0:=Gr.cell hq e0;have g1:=Gr.cell hq e1;have gq0:=Gr.cell hq q0;have gq2:=Gr.cell hq q2;have gp0:=Gr.cell hq p0;have gp2:=Gr.cell hq p2;have P1:=PR _ (PX.trans (hq.mono PX.size)) q.code VM;have P2:=fun (W:World) (E:Below W6.heap.size W6 W)=>PR W (PX.trans (E.mono PX.size)) p.code hp9;clear PR c0 c1 c2;refine aF (Array.replicate 38 true) 38 0 mixed (by rfl) ?_;refine ay [0,1,2] 35 rfl (by kernel_rfl) ?_;refine a_ ?_
         iterate 3 (refine aS rfl ?_)
         refine bf ?_
         iterate 3 (go_big_quiet_step (rfl))
         refine az ?_;refine aI 3 (by kernel_rfl) rfl ?_;go_wp2_with fail;refine P1.out.mono ?_;rintro e w7 ⟨⟨p1,rfl,hp1⟩,h7⟩;go_wp2_with fail;refine aD h7 ?_;have WB:=ah hq h7;clear g0 g1 gq0 gq2 gp0 gp2 P1;have g0:=Gr.cell WB e0;have g1:=Gr.cell WB e1;have gq0:=Gr.cell WB q0;have gq2:=Gr.cell WB q2;have gp0:=Gr.cell WB p0;have gp2:=Gr.cell WB p2;cases p1 with
         | false=>
           have tu:=aa (show ¬twice T X q p from fun h=>by have:=hp1.2 h.1;cases this);clear P2 hp1 HXP PS HM;refine ay [4,5,6,7] 30 rfl (by kernel_rfl) ?_;refine a_ ?_
           iterate 4 (refine aS rfl ?_)
           refine bf ?_
           iterate 4 (go_big_quiet_step (rfl))
           refine az ?_;refine aI 8 (by kernel_rfl) rfl ?_;go_wp2_with fail;refine aD (Below.refl _ _) ?_;refine ay [9,10,11,12,13,14,15,16,17,18,19,20,21,22,23,24,25,26,27,28,29,30,31,32,33,34,35,36,37] 0 rfl (by kernel_rfl) ?_;refine a_ ?_
           iterate 29 (refine aS rfl ?_)
           refine bf ?_
           iterate 29 (go_big_quiet_step (rfl))
           refine az ?_;refine aJ [] (by kernel_rfl) ?_;refine tail_nil ?_;go_wp2;go_roundw
           case rel=>exact ⟨k+1,by omega,rfl,ZU.out false (fun h=>by cases h) (fun _=>tu.out) rfl,ah Bq WB⟩
           case measure=>simp [intOf];omega
         | true=>
           have P2:=P2 _ WB;refine ay [4,5,6,7] 30 rfl (by kernel_rfl) ?_;refine a_ ?_
           iterate 4 (refine aS rfl ?_)
           refine bf ?_
           iterate 4 (go_big_quiet_step (rfl))
           refine az ?_;refine aI 8 (by kernel_rfl) rfl ?_;go_wp2_with fail;refine P2.out.mono ?_;rintro e w8 ⟨⟨p2',rfl,hp2⟩,h8⟩;go_wp2_with fail;refine aD h8 ?_;have hq8:=ah WB h8;clear g0 g1 gq0 gq2 gp0 gp2 P2;have g0:=Gr.cell hq8 e0;have g1:=Gr.cell hq8 e1;have gq0:=Gr.cell hq8 q0;have gq2:=Gr.cell hq8 q2;have gp0:=Gr.cell hq8 p0;have gp2:=Gr.cell hq8 p2;cases p2' with
           | false=>
             have tu:=aa (show ¬twice T X q p from fun h=>by have:=hp2.2 h.2.1;cases this);clear hp1 hp2 HXP PS HM;refine ay [9,10,11,12,13,14,15,16,17,18,19,20,21,22,23,24,25,26,27,28,29,30,31,32,33,34,35,36,37] 0 rfl (by kernel_rfl) ?_;refine a_ ?_
             iterate 29 (refine aS rfl ?_)
             refine bf ?_
             iterate 29 (go_big_quiet_step (rfl))
             refine az ?_;refine aJ [] (by kernel_rfl) ?_;refine tail_nil ?_;go_wp2;go_roundw
             case rel=>exact ⟨k+1,by omega,rfl,ZU.out false (fun h=>by cases h) (fun _=>tu.out) rfl,ah Bq hq8⟩
             case measure=>simp [intOf];omega
           | true=>
             have Pz:nm=2:=qM.out.trans (HM.out (hp1.1 (by trivial)));by_cases ZA:np=2
             ·obtain ⟨y0,y1,hy,bm,fm,rfl,zy0,zy1⟩:=PS.out Pz;obtain ⟨x0,x1,hx,bp,fp,rfl,zx0,zx1⟩:=HXP.out ZA;have jW:=PX.trans (hq8.mono PX.size);have gy0:=Gr.cell jW zy0;have gy1:=Gr.cell jW zy1;have gx0:=Gr.cell jW zx0;have gx1:=Gr.cell jW zx1
              have TZ:=aa (show twice T X q p↔x0=y0∧x1=y1 from by
               unfold twice;rw [hx,hy];constructor
               ·rintro ⟨_,_,_,h⟩;cases h;exact ⟨rfl,rfl⟩
               ·rintro ⟨rfl,rfl⟩;exact ⟨hp1.1 (by trivial),hp2.1 (by trivial),rfl,rfl⟩)
              subst Pz;subst ZA;clear hp1 hp2 HXP PS HM hx hy zy0 zy1 zx0 zx1;by_cases ac_:x0=y0
              ·subst ac_;by_cases ada:x1=y1
               ·subst ada;refine ay [9,10,11,12,13,14,15,16,17,18,19,20,21,22,23,24,25,26,27,28,29,30,31,32,33,34,35,36,37] 0 rfl (by kernel_rfl) ?_;refine a_ ?_
                iterate 29 (refine aS rfl ?_)
                refine bf ?_
                iterate 29 (go_big_quiet_step (rfl))
                refine az ?_;refine aJ [] (by kernel_rfl) ?_;refine tail_nil ?_;go_wp2;go_ret;exact ⟨_,rfl,fun h=>by (first|cases h|simp at h),jW⟩
               ·have z:((x1:Int)==(y1:Int))=false:=by simp;omega
                have tu:=aa (show ¬twice T X q p from fun h=>ada (TZ.out.1 h).2);clear TZ;refine ay [9,10,11,12,13,14,15,16,17,18,19,20,21,22,23,24,25,26,27,28,29,30,31,32,33,34,35,36,37] 0 rfl (by kernel_rfl) ?_;refine a_ ?_
                iterate 29 (refine aS rfl ?_)
                refine bf ?_
                iterate 29 (go_big_quiet_step (rfl))
                refine az ?_;refine aJ [] (by kernel_rfl) ?_;refine tail_nil ?_;go_wp2;go_roundw
                case rel=>exact ⟨k+1,by omega,rfl,ZU.out false (fun h=>by cases h) (fun _=>tu.out) rfl,ah Bq hq8⟩
                case measure=>simp [intOf];omega
              ·have z:((x0:Int)==(y0:Int))=false:=by simp;omega
               have tu:=aa (show ¬twice T X q p from fun h=>ac_ (TZ.out.1 h).1);clear TZ;refine ay [9,10,11,12,13,14,15,16,17,18,19,20,21,22,23,24,25,26,27,28,29,30,31,32,33,34,35,36,37] 0 rfl (by kernel_rfl) ?_;refine a_ ?_
               iterate 29 (refine aS rfl ?_)
               refine bf ?_
               iterate 29 (go_big_quiet_step (rfl))
               refine az ?_;refine aJ [] (by kernel_rfl) ?_;refine tail_nil ?_;go_wp2;go_roundw
               case rel=>exact ⟨k+1,by omega,rfl,ZU.out false (fun h=>by cases h) (fun _=>tu.out) rfl,ah Bq hq8⟩
               case measure=>simp [intOf];omega
             ·have z:((np:Int)==2)=false:=by simp;omega
              have tu:=aa (show ¬twice T X q p from fun h=>ZA (TW.out.trans h.2.2.1));clear hp1 hp2 HXP PS HM;refine ay [9,10,11,12,13,14,15,16,17,18,19,20,21,22,23,24,25,26,27,28,29,30,31,32,33,34,35,36,37] 0 rfl (by kernel_rfl) ?_;refine a_ ?_
              iterate 29 (refine aS rfl ?_)
              refine bf ?_
              iterate 29 (go_big_quiet_step (rfl))
              refine az ?_;refine aJ [] (by kernel_rfl) ?_;refine tail_nil ?_;go_wp2;go_roundw
              case rel=>exact ⟨k+1,by omega,rfl,ZU.out false (fun h=>by cases h) (fun _=>tu.out) rfl,ah Bq hq8⟩
              case measure=>simp [intOf];omega
        ·obtain rfl:j=k:=by omega
         have HNK:=aa hno;clear hno;go_wp2;go_roundw
         case rel=>
          refine ⟨j+1,by omega,rfl,fun i hi k' hk' hij hki=>?_,ah jI (ah h5 iM)⟩;by_cases hik:i=j
          ·rw [HJ.out i hi hik];exact HNK.out k' hk' (by omega)
          ·exact Qf.out i hi k' hk' (by omega) hki
         case measure=>simp [intOf];omega
      ·obtain rfl:n=j:=by omega
       have HVV:=aa (HV.out (fun i hi k hk hki=>hno i hi k hk (by have:=HN.out;omega) hki));clear hno HV PR HPF;go_wp2;go_ret;exact ⟨_,rfl,fun _=>HVV.out,PT⟩
structure Au (s0 O:Nat) (r x:Value) (L:List (gB×Value)) (Y:List Nat) (j:Nat) (ov:Value) (Lo:List (aH×Value)) (w:World):Prop where
 rows:w.ownsRow (s0+2) eP 3 r L.length (L.flatMap kU)
 maps:∀p∈L.drop j,w.ownsRow (s0+2) bq 1 p.2 p.1.map.length (bJ p.1.map)
 xs:w.ownsRow (s0+2) bq 1 x Y.length (ints Y)
 Js:w.ownsRow (O+1) eP 3 ov Lo.length (Lo.flatMap fe)
 PY:∀p∈Lo,w.ownsRow (s0+2) bq 1 p.2 p.1.map.length (ints p.1.map)
 res:Is w (s0+1) #[.slice none 0 0,.slice none 0 0] iP
 out:Is w O #[ov,x] iP
structure XK (O:Nat) (r x:Value) (L:List (gB×Value)) (j:Nat) (Lo:List (aH×Value)):Prop where
 rO:∀k,r.ownBlock=some k→k<O
 xO:∀k,x.ownBlock=some k→k<O
 mO:∀p∈L,∀k,p.2.ownBlock=some k→k<O
 oO:∀p∈Lo,∀k,p.2.ownBlock=some k→k<O
 ra:∀p∈L,wP r p.2
 xa:∀p∈L,wP x p.2
 la:L.Pairwise fun p q=>wP p.2 q.2
 oa:∀p∈Lo,∀q∈L.drop j,wP p.2 q.2
theorem uV {w w':World} {B n s:Nat} {e:TypeId} {v:Value} {xs:List Value} {row:Option Nat} (ho:w.ownsRow B e s v n xs) (hg:w.grownBy w' row) (hr:∀k,row=some k→v.ownBlock≠some k):w'.ownsRow B e s v n xs:=by
 refine ho.kept hg ?_;cases hk:v.ownBlock with
 | none=>exact .inl rfl
 | some k=>exact .inr fun e1=>hr k e1.symm hk
theorem Au.keep {s0 O j:Nat} {r x ov:Value} {L:List (gB×Value)} {Y:List Nat} {Lo:List (aH×Value)} {w w':World} {row:Option Nat} (h:Au s0 O r x L Y j ov Lo w) (hg:w.grownBy w' row)
 (hr:∀k,row=some k→r.ownBlock≠some k∧x.ownBlock≠some k∧ov.ownBlock≠some k∧(∀p∈L.drop j,p.2.ownBlock≠some k)∧(∀p∈Lo,p.2.ownBlock≠some k)∧k≠s0+1∧k≠O):Au s0 O r x L Y j ov Lo w':=
 ⟨uV h.rows hg fun k e=>(hr k e).1,fun p hp=>uV (h.maps p hp) hg fun k e=>(hr k e).2.2.2.1 p hp,uV h.xs hg fun k e=>(hr k e).2.1,uV h.Js hg fun k e=>(hr k e).2.2.1,
   fun p hp=>uV (h.PY p hp) hg fun k e=>(hr k e).2.2.2.2.1 p hp,h.res.grown hg fun e=>(hr _ e).2.2.2.2.2.1 rfl,h.out.grown hg fun e=>(hr _ e).2.2.2.2.2.2 rfl⟩
theorem Au.ext {s0 O j:Nat} {r x ov:Value} {L:List (gB×Value)} {Y:List Nat} {Lo:List (aH×Value)} {w w':World} (h:Au s0 O r x L Y j ov Lo w) (hb:Below w.heap.size w w'):Au s0 O r x L Y j ov Lo w':=
 ⟨aG h.rows hb,fun p hp=>aG (h.maps p hp) hb,aG h.xs hb,aG h.Js hb,fun p hp=>aG (h.PY p hp) hb,h.res.mono hb,h.out.mono hb⟩
theorem Au.next {s0 O j:Nat} {r x ov:Value} {L:List (gB×Value)} {Y:List Nat} {Lo:List (aH×Value)} {w:World} (h:Au s0 O r x L Y j ov Lo w):Au s0 O r x L Y (j+1) ov Lo w:=
 ⟨h.rows,fun p hp=>h.maps p (by rw [←List.drop_drop] at hp;exact List.mem_of_mem_drop hp),h.xs,h.Js,h.PY,h.res,h.out⟩
theorem XK.next {O j:Nat} {r x:Value} {L:List (gB×Value)} {Lo:List (aH×Value)} (h:XK O r x L j Lo):XK O r x L (j+1) Lo:=
 ⟨h.rO,h.xO,h.mO,h.oO,h.ra,h.xa,h.la,fun p hp q hq=>h.oa p hp q (by rw [←List.drop_drop] at hq;exact List.mem_of_mem_drop hq)⟩
theorem Au.ZB {s0 O j:Nat} {r x ov:Value} {L:List (gB×Value)} {Y:List Nat} {Lo:List (aH×Value)} {w w':World} {g:Nat} (h:Au s0 O r x L Y (j+1) ov Lo w) (hc:XK O r x L j Lo) (hj:j<L.length) (ZC:L[j].2.ownBlock=some g)
 (hg0:s0+2≤g) (hg:w.grownBy w' (some g)):Au s0 O r x L Y (j+1) ov Lo w':=by
 have hm:=List.getElem_mem hj;refine h.keep hg fun k e=>?_;cases e;have hgO:=hc.mO _ hm g ZC;refine ⟨fun e=>hc.ra _ hm g e ZC,fun e=>hc.xa _ hm g e ZC,fun e=>by have:=(h.Js.lt g e).1;omega,fun p hp e=>?_,fun p hp e=>?_,by omega,by omega⟩
 ·have hd:L.drop j=L[j]::L.drop (j+1):=List.drop_eq_getElem_cons hj;have hp2:=List.Pairwise.sublist (List.drop_sublist j L) hc.la;rw [hd,List.pairwise_cons] at hp2;exact hp2.1 p hp g ZC e
 ·exact hc.oa p hp L[j] (by rw [List.drop_eq_getElem_cons hj];exact List.mem_cons_self ..) g e ZC
def Fg (x:Int):Nat:=kz (x % 2097152).toNat
def sW (m:List Int) (k:Nat):List Int:=(m.take k).map (fun x=>((Fg x:Nat):Int))++m.drop k
theorem PZ (m:List Int):sW m 0=m:=by simp [sW]
theorem Jt (m:List Int) (k:Nat):(sW m k).length=m.length:=by simp [sW];omega
theorem WG {m:List Int} {k:Nat} (hk:k<m.length):(sW m k)[k]? = some m[k]:=by
 unfold sW;rw [List.getElem?_append_right (by simp;omega),List.length_map,List.length_take,Nat.min_eq_left (Nat.le_of_lt hk),Nat.sub_self,List.drop_eq_getElem_cons hk];rfl
theorem TD {m:List Int} {k:Nat} (hk:k<m.length):(sW m k).set k ((Fg m[k]:Nat):Int)=sW m (k+1):=by
 unfold sW;rw [List.set_append_right _ _ (by simp;omega),List.length_map,List.length_take,Nat.min_eq_left (Nat.le_of_lt hk),Nat.sub_self,List.drop_eq_getElem_cons hk,List.set_cons_zero,List.take_succ_eq_append_getElem hk,List.map_append,List.map_singleton,List.append_assoc];rfl
theorem TE (m:List Int):bJ (sW m m.length)=ints (m.map Fg):=by
 unfold sW;rw [List.take_length,List.drop_length,List.append_nil];simp [bJ,ints]
theorem Fh (x:Int):aP (Fg x):=qo
theorem TF {w:World} {B n:Nat} {e:TypeId} {g cap:Nat} {xs:List Value} (h:w.ownsRow B e 1 (.slice (some ⟨g,0,none⟩) n cap) n xs) {k:Nat} (hk:k≤n):w.ownsRow B e 1 (.slice (some ⟨g,0,none⟩) k cap) k (xs.take k):=by
 obtain ⟨h1,h2⟩:=h;rcases h2 with ⟨h2,_⟩|⟨g',cap',cur,h2,hB,hh,hc,hm,hs,ht⟩
 ·cases h2
 ·cases h2;refine ⟨by rw [List.length_take];omega,.inr ⟨g,cap,cur,rfl,hB,hh,by omega,hm,hs,?_⟩⟩;rw [←ht,List.take_take];congr 1;omega
theorem wM.Nb {w:World} {B B':Nat} {v:Value} {N:List (aH×Value)} (h:w.ownsRow B eP 3 v N.length (N.flatMap fe)) (hm:∀p∈N,w.ownsRow B' bq 1 p.2 p.1.map.length (ints p.1.map)):wM w v (N.map Prod.fst):=by
 obtain ⟨a,cap,rfl,hc,_⟩:=ak h;refine ⟨a,cap,by rw [List.length_map],by rw [List.length_map];exact hc,fun i hi=>?_⟩;have hi':i<N.length:=by simpa using hi
 obtain ⟨g,cap',e1,_,hg,_,hx⟩:=dB (f:=fe) (fun _=>rfl) rfl h hi';cases e1;have h0:=(hx 0 (by omega)).1;have h1:=(hx 1 (by omega)).1;have h2:=(hx 2 (by omega)).1;refine ⟨g,0,N[i].2,rfl,hg,?_,?_,?_,?_⟩
 ·rw [List.getElem_map,Nat.zero_add];exact h0
 ·rw [List.getElem_map,Nat.zero_add];exact h1
 ·rw [Nat.zero_add];exact h2
 ·rw [List.getElem_map];exact (Sl.aW (hm _ (List.getElem_mem hi'))).any
theorem iV.Nb {w:World} {B B' B2:Nat} {v x:Value} {N:List (aH×Value)} {Y:List Nat} (h:w.ownsRow B eP 3 v N.length (N.flatMap fe)) (hm:∀p∈N,w.ownsRow B' bq 1 p.2 p.1.map.length (ints p.1.map)) (hx:w.ownsRow B2 bq 1 x Y.length (ints Y)) :
 iV w (.agg #[v,x]) (N.map Prod.fst) Y:=⟨v,x,rfl,wM.Nb h hm,(Sl.aW hx).any⟩
theorem Au.turn {s0 O j:Nat} {r x ov nv:Value} {L:List (gB×Value)} {Y:List Nat} {Lo N:List (aH×Value)} {w:World} (h:Au s0 O r x L Y j ov Lo w) (hc:XK O r x L j Lo) (hs:s0+1<O)
 (hn:w.ownsRow (O+1) eP 3 nv N.length (N.flatMap fe)) (hm:∀p∈N,w.ownsRow (s0+2) bq 1 p.2 p.1.map.length (ints p.1.map)) (hO:∀p∈N,∀k,p.2.ownBlock=some k→k<O) :
 Au s0 O r x L Y j nv N ((w.setCell ⟨O,0,none⟩ nv).setCell ⟨O,1,none⟩ x):=by
 have P:∀{B n s:Nat} {e:TypeId} {v:Value} {xs:List Value},w.ownsRow B e s v n xs→v.ownBlock≠some O→((w.setCell ⟨O,0,none⟩ nv).setCell ⟨O,1,none⟩ x).ownsRow B e s v n xs:=fun ho hk=>bn (bn ho hk _ _) hk _ _
 refine ⟨P h.rows fun e=>by have:=hc.rO O e;omega,fun p hp=>P (h.maps p hp) fun e=>by have:=hc.mO p (List.mem_of_mem_drop hp) O e;omega,P h.xs fun e=>by have:=hc.xO O e;omega,
  P hn (aae hn (by omega)),fun p hp=>P (hm p hp) fun e=>by have:=hO p hp O e;omega,(h.res.put (by omega) _).put (by omega) _,(h.out.set 0 nv).set 1 x⟩
theorem P5 (n:Int):bits .and .i64 n 255=n % 256:=by
 have h127:(BitVec.ofInt 64 255).toNat=2 ^ 8-1:=by decide
 have key:(BitVec.ofInt 64 n &&& BitVec.ofInt 64 255).toNat=(n % ((2 ^ 64:Nat):Int)).toNat % 2 ^ 8:=by
  rw [BitVec.toNat_and,BitVec.toNat_ofInt,h127,Nat.and_two_pow_sub_one_eq_mod]
 show IntKind.i64.wrap ((BitVec.ofInt 64 n &&& BitVec.ofInt 64 255).toNat:Nat)=n % 256;rw [key,IntKind.wrap_i64];omega
theorem Nc:(⟨#[]⟩:ByteArray).toList.isEmpty=true:=by rw [ByteArray.toList_eq];rfl
theorem Ju {s:ByteArray} (h:s≠⟨#[]⟩):s.toList.isEmpty=false:=by
 rw [ByteArray.toList_eq];cases e:s.data.toList with
 | nil=>exact absurd (ByteArray.ext (by simpa using e)) h
 | cons a l=>rfl
theorem Jv {w:World} {B n s cap:Nat} {e:TypeId} {a:Option Addr} {xs:List Value} (h:w.ownsRow B e s (.slice a n cap) n xs) (h0:0<n):∃g,a=some ⟨g,0,none⟩∧B≤g∧g<w.heap.size:=by
 rcases h.2 with ⟨h1,h2⟩|⟨g,cap',cur,h1,hB,hh,_⟩
 ·omega
 ·cases h1;exact ⟨g,rfl,hB,block_lt hh⟩
theorem TG {w:World} {v:Value} {T:List gB} {X:List Int} (h:L9 w v T X) :
 Calls Tryz.prog 32 #[v] w fun e w'=>∃r T' X',e=.returned r∧iV w' r T' X'∧aY T' X'∧(∀q∈T',0<q.cls∨q.map≠[])∧T'.length≤20∧X'.length≤30∧(∀y∈X',aP y)∧Below w.heap.size w w':=by
 obtain ⟨v1,v2,rfl,⟨a,cap,rfl,hcap,hx⟩,h2⟩:=id h;obtain ⟨nx,hnx⟩:∃n,n=X.length:=⟨_,rfl⟩;obtain ⟨ax,cx,rfl,_,_⟩:=bB.Jr h2 hnx;obtain ⟨n0,hn0⟩:∃n,n=T.length:=⟨_,rfl⟩;rw [←hn0] at h ⊢;obtain ⟨W1,hW1⟩:=ae (w.alloc (.cells #[.slice a n0 cap,.slice ax nx cx] iP));obtain ⟨W2,hW2⟩:=ae (W1.alloc (.cells #[.slice none 0 0,.slice none 0 0] iP));have e1:W1.heap.size=w.heap.size+1:=by rw [hW1];simp
 have e2:W2.heap.size=w.heap.size+2:=by rw [hW2];simp [e1]
 have b1:Below w.heap.size w W1:=by rw [hW1];exact af _
 have b2:Below W1.heap.size W1 W2:=by rw [hW2];exact af _
 have i1:Is W2 w.heap.size #[.slice a n0 cap,.slice ax nx cx] iP:=by
  have:Is W1 w.heap.size #[.slice a n0 cap,.slice ax nx cx] iP:=by rw [hW1];exact Is.new _ _ _
  exact this.mono b2
 have i2:Is W2 (w.heap.size+1) #[.slice none 0 0,.slice none 0 0] iP:=by rw [hW2];exact Is.new' _ _ _ _ e1.symm
 have b0:=ah b1 b2;have FE:=aa (Zx (h.mono b0));rw [hW1] at hW2;rw [e2] at FE;have d0:=i1.at 0 rfl;have d1:=i1.at 1 rfl;clear h hx hcap hn0 hnx h2 b1 b2 e1 hW1;go_enter Tryz.func32,Tryz.ntmps32;go_wp2_with fail;rw [←hW2];clear hW2;go_wp2_with fail;refine FE.out.mono ?_;rintro e W3 ⟨r,x,L,Y,rfl,hF,hxo,hxa,ag4,ag5,DY,hb3⟩;rw [←e2] at hb3;obtain ⟨ar,cr,rfl,_,_⟩:=ak hF.rows;obtain ⟨Jw,Jy,rfl,_,_⟩:=ak hxo;obtain ⟨n,hn⟩:=ae L.length;obtain ⟨ny,hny⟩:∃n,n=Y.length:=⟨_,rfl⟩;rw [←hn,←hny];have HN:=aa hn;have HNY:=aa hny;obtain ⟨O,hO⟩:=ae W3.heap.size;have hO2:w.heap.size+2≤O:=by rw [hO,←e2];exact hb3.size
 have j1:=i1.mono hb3;have j2:=i2.mono hb3;have c0:=j1.at 0 rfl;have f0:=j1.frozen 0;have c1:=fun u=>(j1.set 0 u).at 1 rfl;have f1:=fun u=>(j1.set 0 u).frozen 1;have J:=(j1.set 0 (.slice ar n cr)).set 1 (.slice Jw ny Jy);obtain ⟨W4,ZE⟩:=ae ((W3.setCell ⟨w.heap.size,0,none⟩ (.slice ar n cr)).setCell ⟨w.heap.size,1,none⟩ (.slice Jw ny Jy));have s4:W4.heap.size=O:=by rw [ZE,hO];simp
 have g4:∀{B m s:Nat} {e:TypeId} {v:Value} {xs:List Value},w.heap.size<B→W3.ownsRow B e s v m xs→W4.ownsRow B e s v m xs:=by
  intro B m s e v xs hB ho;rw [ZE];exact bn (bn ho (aae ho hB) _ _) (aae ho hB) _ _
 have J4:Is W4 w.heap.size #[.slice ar n cr,.slice Jw ny Jy] iP:=by rw [ZE];exact J
 have K4:Is W4 (w.heap.size+1) #[.slice none 0 0,.slice none 0 0] iP:=by rw [ZE];exact (j2.put (by omega) _).put (by omega) _
 have hB4:Below w.heap.size w W4:=by rw [ZE];exact aj (aj (b0.trans (hb3.mono b0.size)) (Nat.le_refl _)) (Nat.le_refl _)
 obtain ⟨W5,PW⟩:=ae (W4.alloc (.cells #[.slice none 0 0,.slice Jw ny Jy] iP));have s5:W5.heap.size=O+1:=by rw [PW];simp [s4]
 have b5:Below W4.heap.size W4 W5:=by rw [PW];exact af _
 have hS0:Au w.heap.size O (.slice ar n cr) (.slice Jw ny Jy) L Y 0 (.slice none 0 0) [] W5:=by
  rw [hn,hny];exact ⟨aG (g4 (by omega) (hn▸hF.rows)) b5,fun p hp=>aG (g4 (by omega) (hF.maps p (List.mem_of_mem_drop hp))) b5,aG (g4 (by omega) (hny▸hxo)) b5,World.ownsRow_nil _ _ _ _,by simp,K4.mono b5,by rw [PW,←hny];exact Is.new' _ _ _ _ s4.symm⟩
 have hC0:XK O (.slice ar n cr) (.slice Jw ny Jy) L 0 []:=by
  rw [hn,hny,hO];exact ⟨fun k e=>(hF.rows.lt k (by rw [←hn];rw [←hn] at e;exact e)).2,fun k e=>(hxo.lt k (by rw [←hny];rw [←hny] at e;exact e)).2,fun p hp k e=>((hF.maps p hp).lt k e).2,by simp,fun p hp=>by have:=hF.mE p hp;rw [←hn] at this ⊢;exact this,fun p hp=>by have:=hxa p hp;rw [←hny] at this ⊢;exact this,hF.apart,by simp⟩
 have Ga:=hF.four;have rZ:Below w.heap.size w W5:=hB4.trans (b5.mono (by omega));have hd0:=(J4.mono b5).at 0 rfl;have q0:=J4.at 1 rfl;have HM4:=aa Ga;have JI:=aa DY;rw [←hn] at ag4;rw [←hny] at ag5;rw [ZE] at PW q0;have ag6:=hd0;rw [PW] at hd0;have HO:=aa hO;have HW:=aa PW;clear hO PW hF hxo hxa j1 j2 i1 i2 b0 hb3 g4 J J4 K4 hB4 b5 Ga DY hn hny FE d0 d1 s4 ZE e2;go_wp2_with fail;rw [←HW.out,←HO.out];clear hd0 ag6 HW q0 c0 c1 f0 f1;go_loopw [19] (fun iv wr=>∃(j:Nat) (ov:Value) (Lo:List (aH×Value)),j≤n∧iv=.int .i64 j∧Au w.heap.size O (.slice ar n cr) (.slice Jw ny Jy) L Y j ov Lo wr∧XK O (.slice ar n cr) (.slice Jw ny Jy) L j Lo∧aY (Lo.map Prod.fst) Y∧(∀p∈Lo,0<p.1.cls∨p.1.map≠[])∧Lo.length≤j∧O+1≤wr.heap.size∧Below w.heap.size w wr) (fun iv _=>n-(intOf iv).toNat)
 case atStart=>exact ⟨0,_,[],Nat.zero_le _,rfl,hS0,hC0,aY.nil _,by simp,Nat.le_refl _,Nat.le_of_eq s5.symm,rZ⟩
 case round=>
  clear hS0 hC0 s5 rZ;obtain ⟨j,ov,Lo,hj,rfl,hS,hC,hV,yS,hlo,hsz,hB⟩:=hrel;by_cases hjn:j<n
  ·have hjl:j<L.length:=by have:=HN.out;omega
   obtain ⟨gr,ane,er,_,hgr,_,Yj⟩:=dB (f:=kU) (fun _=>rfl) rfl hS.rows hjl;obtain rfl:ar=some ⟨gr,0,none⟩:=by injection er
   have c0:wr.cell? ⟨gr,j*3,none⟩=some (.int .i64 L[j].1.code):=(Yj 0 (by omega)).1;have c1:wr.cell? ⟨gr,j*3+1,none⟩=some (.int .i64 L[j].1.cls):=(Yj 1 (by omega)).1;have c2:wr.cell? ⟨gr,j*3+2,none⟩=some L[j].2:=(Yj 2 (by omega)).1;have hm:=hS.maps L[j] (by rw [List.drop_eq_getElem_cons hjl];exact List.mem_cons_self ..);have Ga:=HM4.out L[j] (List.getElem_mem hjl);have hmO:=hC.mO L[j] (List.getElem_mem hjl);have XZ:=aa (fun (w1 w2:World) (g:Nat) (h:Au w.heap.size O (.slice (some ⟨gr,0,none⟩) n cr) (.slice Jw ny Jy) L Y (j+1) ov Lo w1) (e:L[j].2.ownBlock=some g) (h0:w.heap.size+2≤g) (hg:w1.grownBy w2 (some g))=>Au.ZB h hC hjl e h0 hg)
   have HOA:=aa (show ∀q∈L.drop (j+1),wP L[j].2 q.2 from by
    have hd:L.drop j=L[j]::L.drop (j+1):=List.drop_eq_getElem_cons hjl;have hp2:=List.Pairwise.sublist (List.drop_sublist j L) hC.la;rw [hd,List.pairwise_cons] at hp2
    exact hp2.1)
   have hS1:=aa hS.next;have tZ:=aa hC.next;have HV:=aa hV;have P6:=aa yS;generalize L[j]=p at *;obtain ⟨q,mv⟩:=p;dsimp only at *;obtain ⟨nm,hnm⟩:=ae q.map.length;have qM:=aa hnm;rw [←hnm] at hm Ga;obtain ⟨am,cm,rfl,hcm,_⟩:=ak hm;have CH0:=aa (fun W=>jq (w:=W) q.code);obtain ⟨c,hc⟩:=ae (Fg q.code);have hcc:aP c:=by rw [hc];exact Fh _
   have Qd:=hcc.1;have Xz:=aa hcc;have CH1:=aa (show ∀W,Calls Tryz.prog 14 #[.int .i64 q.code] W fun e w'=>e=.returned (.int .i32 c)∧w'=W from fun W=>by rw [hc];exact CH0.out W);obtain ⟨y,hy⟩:∃y:Nat,y=(q.cls % 256).toNat:=⟨_,rfl⟩;have hy1:bits BinOp.and IntKind.i64 q.cls 255=(y:Int):=by rw [P5];omega
   have hy2:y<256:=by omega
   obtain ⟨cl,hcl⟩:∃cl:Nat,cl=y % 255:=⟨_,rfl⟩;have ag7:cl<255:=by omega
   have hz:(y:Int) % 255=(cl:Int):=by omega
   have b0:=af (w:=wr) (.cells #[.int .i64 c,.int .i64 cl,.slice am nm cm] eP);clear Yj er hS hC hV yS hnm hc hcc CH0 hy hcl;obtain ⟨bz,zn⟩:∃bz,decide ((2:Int)<(nm:Int))=bz:=⟨_,rfl⟩;have HBZ:=aa zn;go_wp2_with fail;refine (CH1.out _).mono ?_;rintro e w6 ⟨rfl,rfl⟩;go_upto_if 36 with fail;clear zn;go_cut [] from 37 to 40 (fun wx=>∃n2 m2,n2≤2∧m2.length=n2∧wx=wr.alloc (.cells #[.int .i64 c,.int .i64 cl,.slice am n2 cm] eP)∧wr.ownsRow (w.heap.size+2) bq 1 (.slice am n2 cm) n2 (bJ m2))
   case first=>
    cases bz with
    | true=>
      have Pz:2<nm:=by have:=of_decide_eq_true HBZ.out;omega
      obtain ⟨g,rfl,hg0,hg1⟩:=Jv hm (by omega);have hm2:wr.ownsRow (w.heap.size+2) bq 1 (.slice (some ⟨g,0,none⟩) 2 cm) 2 (bJ (q.map.take 2)):=by
       have:=TF hm (k:=2) (by omega);simpa [bJ,List.map_take] using this
      have Be:=aa (show (q.map.take 2).length=2 by rw [List.length_take];have:=qM.out;omega);have hm2:=aa hm2;go_wp2_with fail;go_meet;exact ⟨2,_,Nat.le_refl _,Be.out,rfl,hm2.out⟩
    | false=>
      have Pz:¬2<nm:=by have:=of_decide_eq_false HBZ.out;omega
      go_wp2_with fail;go_meet;exact ⟨nm,q.map,by omega,qM.out.symm,rfl,hm⟩
   case rest=>
    obtain ⟨n2,m2,hn2,adb,rfl,hm2⟩:=hcut;have Be:=aa adb;clear hm adb Ga;obtain ⟨wo,jQ⟩:∃w',w'=wr:=⟨_,rfl⟩;subst jQ;go_wp2_with fail;clear hz hy1 hy2 c0 c1 c2 b0;have hb0:=af (w:=wo) (.cells #[.int .i64 c,.int .i64 cl,.slice am n2 cm] eP);have hi0:=Is.new wo #[.int .i64 c,.int .i64 cl,.slice am n2 cm] eP;have HM:=aa hm2;clear hm2;go_loopw [44] (fun kv w2=>∃k:Nat,k≤n2∧kv=.int .i64 k∧w2.ownsRow (w.heap.size+2) bq 1 (.slice am n2 cm) n2 (bJ (sW m2 k))∧Au w.heap.size O (.slice (some ⟨gr,0,none⟩) n cr) (.slice Jw ny Jy) L Y (j+1) ov Lo w2∧Is w2 wo.heap.size #[.int .i64 c,.int .i64 cl,.slice am n2 cm] eP∧wo.heap.size+1≤w2.heap.size∧Below w.heap.size w w2) (fun kv _=>n2-(intOf kv).toNat)
    case atStart=>exact ⟨0,Nat.zero_le _,rfl,by rw [PZ];exact aG HM.out hb0,hS1.out.ext hb0,hi0,by simp,hB.trans (hb0.mono hB.size)⟩
    case round=>
     clear hb0 hi0 HM hS1;obtain ⟨k,hk,rfl,ho,hS2,hi,hsz2,hB2⟩:=hrel;by_cases hkn:k<n2
     ·obtain ⟨g,rfl,hg0,hg1⟩:=Jv ho (by omega);have hgO:g<O:=hmO g rfl;have hkl:k<m2.length:=by have:=Be.out;omega
      obtain ⟨ha1,ha2⟩:=jJ ho (j:=k) (by rw [eT,Jt];exact hkl);have e9:(bJ (sW m2 k))[k]? = some (.int .i64 m2[k]):=by simp [bJ,WG hkl]
      rw [List.getElem?_eq_getElem (by rw [eT,Jt];exact hkl),Option.some.injEq] at e9;rw [e9] at ha1;clear e9;have HST:=aa (fun (u:Value)=>ho.stored k u);have ES:=aa (show (bJ (sW m2 k)).set k (.int .i64 ((Fg m2[k]:Nat):Int))=bJ (sW m2 (k+1)) by rw [←TD hkl];simp [bJ,List.map_set]);have CH2:=aa (show ∀W,Calls Tryz.prog 14 #[.int .i64 m2[k]] W fun e w'=>e=.returned (.int .i32 (Fg m2[k]))∧w'=W from fun W=>jq _);have Vb:=(Fh m2[k]).1;have YU:=aa hS2;have h2:=hi.at 2 rfl;have k1:=Gr.cell (ag wr) h2;have k2:=Gr.cell (ag wr) ha1;generalize m2[k]=z at *;generalize Fg z=d at *;clear ho hS2;go_wp2_with fail;refine aF #[true,true,true,true,true,true,true,true,true,true,true,false] 11 1 mixed (by rfl) ?_;refine ay [0,1,2,3,4,5,6,7] 3 rfl (by kernel_rfl) ?_
      iterate 8 (refine aB rfl ?_;go_big_quiet_step (rfl))
      refine az ?_;refine aI 8 (by kernel_rfl) rfl ?_;go_wp2_with fail;refine (CH2.out _).mono ?_;rintro e w7 ⟨rfl,rfl⟩;go_wp2_with fail;refine aD (Below.refl _ _) ?_;refine ay [9,10] 0 rfl (by kernel_rfl) ?_
      iterate 2 (refine aB rfl ?_;go_big_quiet_step (rfl))
      refine az ?_;refine aJ [11] (by kernel_rfl) ?_;refine tail_cons rfl ?_;go_wp2_with fail;refine tail_nil ?_;go_wp2;go_roundw
      case rel=>
       have ZC:=(HST.out (.int .i64 d)).2;refine ⟨k+1,by omega,rfl,?_,?_,?_,?_,?_⟩
       ·have:=(HST.out (.int .i64 d)).1;rw [ES.out] at this;exact aG this (ag _)
       ·exact Au.ext (XZ.out _ _ g YU.out rfl hg0 ZC) (ag _)
       ·exact (hi.put (by omega) _).mono (ag _)
       ·simp;omega
       ·exact (aj hB2 (by omega)).drew
      case measure=>simp [intOf];omega
     ·obtain rfl:n2=k:=by omega
      skip
      obtain ⟨wm,jQ⟩:∃w',w'=wr:=⟨_,rfl⟩;subst jQ;obtain ⟨M,hMe⟩:=ae (m2.map Fg);have WJ:M.length=n2:=by rw [hMe,List.length_map];exact Be.out
      have UO:=aa (show ∀x∈M,aP x from fun x hx=>by rw [hMe] at hx;obtain ⟨z,_,rfl⟩:=List.mem_map.1 hx;exact Fh z);have hMo:wm.ownsRow (w.heap.size+2) bq 1 (.slice am n2 cm) M.length (ints M):=by
       have e:=TE m2;rw [Be.out,←hMe] at e;rw [e] at ho;rw [WJ];exact ho
      have BR:=aa WJ;have h0:=hi.at 0 rfl;have h1:=hi.at 1 rfl;have h2:=hi.at 2 rfl;clear ho hMe WJ;go_upto_region 15 with fail;go_cut [67] from 59 to 67 (fun tv wx=>∃tb:Bool,tv=.bool tb∧(tb=false→0<cl∨M≠[])∧wm=wx)
      case first=>
       by_cases hcl0:cl=0
       ·have zc:((cl:Int)==0)=true:=by simp;omega
        by_cases hn0:n2=0
        ·have zn0:((n2:Int)==0)=true:=by simp;omega
         go_wp2_with fail;go_meet;exact ⟨true,rfl,(fun h=>by cases h),rfl⟩
        ·have zn0:((n2:Int)==0)=false:=by simp;omega
         have HS:=aa (show 0<cl∨M≠[] from .inr fun e=>by have:=BR.out;rw [e] at this;simp at this;omega);go_wp2_with fail;go_meet;exact ⟨false,rfl,fun _=>HS.out,rfl⟩
       ·have zc:((cl:Int)==0)=false:=by simp;omega
        go_wp2_with fail;go_meet;exact ⟨false,rfl,fun _=>.inl (by omega),rfl⟩
      case rest=>
       obtain ⟨tb,rfl,htb,rfl⟩:=hcut;have Zb:=aa htb;clear htb;cases tb with
       | true=>
         have HS2:=aa hS2;clear hS2 hMo hi;go_wp2;go_roundw
         case rel=>exact ⟨j+1,ov,Lo,by omega,rfl,HS2.out,tZ.out,HV.out,P6.out,by omega,by omega,hB2⟩
         case measure=>simp [intOf];omega
       | false=>
         have HS:=aa (Zb.out rfl);have x1:=hS2.out.at 1 rfl;have x0:=hS2.out.at 0 rfl;obtain ⟨UD,WZ,rfl,_,_⟩:=ak hS2.Js;obtain ⟨P,hP⟩:∃P:aH×Value,P=(⟨c,cl,M⟩,.slice am n2 cm):=⟨_,rfl⟩;have HP:=aa hP;have HPO:=aa (show ∀k,P.2.ownBlock=some k→k<O from fun k e=>hmO k (by rw [hP] at e;cases am <;> exact e));have WK:=aa (show ∀q∈L.drop (j+1),wP P.2 q.2 from fun q hq k e=>HOA.out q hq k (by rw [hP] at e;cases am <;> exact e));have HPF:=aa (show aP P.1.code∧P.1.cls<255∧P.1.map.length≤2∧∀x∈P.1.map,aP x from by rw [hP];exact ⟨Xz.out,ag7,by show M.length≤2;have:=BR.out;omega,UO.out⟩);have HPS:=aa (show 0<P.1.cls∨P.1.map≠[] from by rw [hP];exact HS.out)
         have ade:=aa (fun (Wc:World) (E:Below wm.heap.size wm Wc) (p:aH×Value) (hp:p∈Lo∨p=P)=>(show Wc.ownsRow (w.heap.size+2) bq 1 p.2 p.1.map.length (ints p.1.map) from by
          rcases hp with hp|rfl
          ·exact aG (hS2.PY p hp) E
          ·rw [hP];exact aG hMo E))
         have ag_:=hS2.xs
         have CKF:=aa (fun (Wc:World) (N:List (aH×Value)) (nv:Value) (B:Nat) (ho:Wc.ownsRow B eP 3 nv N.length (N.flatMap fe)) (hE:Below wm.heap.size wm Wc) (hmem:∀p∈N,p∈Lo∨p=P) (hl:N.length≤21)=>
          Bo (iV.Nb ho (fun p hp=>ade.out Wc hE p (hmem p hp)) (aG ag_ hE)) (by rw [List.length_map];omega) (by have:=HNY.out;omega) (fun r hr=>by
           obtain ⟨p,hp,rfl⟩:=List.mem_map.1 hr;rcases hmem p hp with hp|rfl
           ·obtain ⟨h1,h2,h3,_,h5⟩:=HV.out.fine _ (List.mem_map_of_mem hp);exact ⟨h1,h2,h3,fun x hx=>(h5 x hx).2⟩
           ·exact HPF.out))
         have XL:=aa (fun (Wc:World) (hE:Below wm.heap.size wm Wc) (nv:Value) (N:List (aH×Value)) (ho:Wc.ownsRow (O+1) eP 3 nv N.length (N.flatMap fe)) (hmem:∀p∈N,p∈Lo∨p=P)=>
          Au.turn (N:=N) (nv:=nv) (hS2.ext hE) tZ.out (by omega) ho (fun p hp=>ade.out Wc hE p (hmem p hp)) (fun p hp=>by
           rcases hmem p hp with hp|rfl
           ·exact tZ.out.oO p hp
           ·exact HPO.out))
         have HCN:=aa (fun (N:List (aH×Value)) (hmem:∀p∈N,p∈Lo∨p=P)=>(show XK O (.slice (some ⟨gr,0,none⟩) n cr) (.slice Jw ny Jy) L (j+1) N from
          ⟨tZ.out.rO,tZ.out.xO,tZ.out.mO,fun p hp=>by rcases hmem p hp with hp|rfl;exact tZ.out.oO p hp;exact HPO.out,tZ.out.ra,tZ.out.xa,tZ.out.la,fun p hp=>by rcases hmem p hp with hp|rfl;exact tZ.out.oa p hp;exact WK.out⟩))
         have YB:=aa (fun (N:List (aH×Value)) (hmem:∀p∈N,p∈Lo∨p=P) (p:aH×Value) (hp:p∈N)=>(show 0<p.1.cls∨p.1.map≠[] from by rcases hmem p hp with hp|rfl;exact P6.out p hp;exact HPS.out));have HS2:=aa hS2;have HSO:=aa hS2.out;have HI:=aa hi;have ajJ:Lo.length≤20:=by omega
         have x2:=aA (af (w:=wm) (.cells #[.slice none 0 0,.slice Jw ny Jy] iP)) x0;clear hP hMo hS2 hi;go_wp2_with fail;go_loopw [8,74] (fun dv kv w3=>∃(k:Nat) (dn:Bool) (N:List (aH×Value)) (nv:Value),k≤Lo.length∧dv=.bool dn∧kv=.int .i64 k∧N.length≤k+1∧(dn=false→N.length≤k)∧(∀p∈N,p∈Lo∨p=P)∧w3.ownsRow (wm.heap.size+1) eP 3 nv N.length (N.flatMap fe)∧Is w3 wm.heap.size #[nv,.slice Jw ny Jy] iP∧wm.heap.size+1≤w3.heap.size∧Below wm.heap.size wm w3) (fun _ kv _=>Lo.length-(intOf kv).toNat)
         case atStart=>exact ⟨0,false,[],_,Nat.zero_le _,rfl,rfl,by simp,by simp,by simp,World.ownsRow_nil _ _ _ _,Is.new _ _ _,by simp,af _⟩
         case round=>
          clear x0 x1 x2 h0 h1 h2;obtain ⟨k,dn,N,nv,hk3,rfl,rfl,hNl,hNd,hmem,hno,hiN,Bb,kY⟩:=hrel;obtain ⟨anv,cnv,rfl,_,_⟩:=ak hno;have Jz:=aa hmem;have y0:=(HI.out.mono kY).at 0 rfl;have y1:=(HI.out.mono kY).at 1 rfl;have y2:=(HI.out.mono kY).at 2 rfl;clear hmem;by_cases hko:k<Lo.length
          ·obtain ⟨gv,anj,ev,_,hgv,_,hxv⟩:=dB (f:=fe) (fun _=>rfl) rfl HS2.out.Js hko;obtain rfl:UD=some ⟨gv,0,none⟩:=by injection ev
           have z0:wr.cell? ⟨gv,k*3,none⟩=some (.int .i64 Lo[k].1.code):=aA kY (hxv 0 (by omega)).1;have z1:wr.cell? ⟨gv,k*3+1,none⟩=some (.int .i64 Lo[k].1.cls):=aA kY (hxv 1 (by omega)).1;have z2:wr.cell? ⟨gv,k*3+2,none⟩=some Lo[k].2:=aA kY (hxv 2 (by omega)).1;obtain ⟨aq,cq,eq2,_,_⟩:=ak (HS2.out.PY _ (List.getElem_mem hko));have YS:=aa (List.getElem_mem hko);generalize Lo[k]=Q at *;obtain ⟨qr,qv⟩:=Q;dsimp only at *;obtain ⟨nq,hnq⟩:=ae qr.map.length;rw [←hnq] at eq2;subst eq2;have HQ:=aa (show fe (qr,.slice aq nq cq)=[.int .i64 qr.code,.int .i64 qr.cls,.slice aq nq cq] from rfl);have hb1:Below wr.heap.size wr (wr.alloc (.cells #[.int .i64 qr.code,.int .i64 qr.cls,.slice aq nq cq] eP)):=af _;have iq:Is (wr.alloc (.cells #[.int .i64 qr.code,.int .i64 qr.cls,.slice aq nq cq] eP)) wr.heap.size #[.int .i64 qr.code,.int .i64 qr.cls,.slice aq nq cq] eP:=Is.new _ _ _;have Nf:=aa (aG hno hb1);have KL:=aa (hiN.mono hb1);have n0:=KL.out.at 0 rfl;have yy0:=aA hb1 y0;have yy1:=aA hb1 y1;have yy2:=aA hb1 y2;have q0:=iq.at 0 rfl;have q1:=iq.at 1 rfl;have q2:=iq.at 2 rfl;have WM:=aa (ah kY hb1);have HBN:=aa (QC hno (Nat.le_refl _));clear hxv ev hnq hno hiN hb1 iq;cases dn with
           | true=>
             go_wp2_with (at_builtin;refine n_ (W:=(wr.alloc (.cells #[.int .i64 qr.code,.int .i64 qr.cls,.slice aq nq cq] eP))) rfl _ _ 22 rfl (wm.heap.size+1) eP _ 3 40 nY (by decide) (by decide) (by decide) (by decide) (.slice anv N.length cnv) N.length (N.flatMap fe) rfl Nf.out _ (by first|rfl|(simp only [World.size_alloc];rfl)|(simp [World.setCell];rfl)) rfl (by simp [Value.oneCell']) (by omega) ((wr.alloc (.cells #[.int .i64 qr.code,.int .i64 qr.cls,.slice aq nq cq] eP))) (Below.refl _ _) (by first|omega|(simp;omega)) ?_;intro v8 w8 o8 iZ Lr LC;have K8:=KL.out.low iZ (by omega);have cK8:=K8.at 0 rfl;have fK8:=K8.frozen 0;obtain ⟨a8,Fj,rfl,_,_⟩:=ak o8);go_roundw
             case rel=>
              have Qg:=WM.out.trans (iZ.mono (by omega));refine ⟨k+1,true,N++[(qr,.slice aq nq cq)],_,by omega,rfl,rfl,by simp;omega,by simp,?_,?_,K8.set 0 _,by have:=iZ.size;simp at this ⊢;omega,aj Qg (Nat.le_refl _)⟩
              ·intro p hp;rcases List.mem_append.1 hp with h|h
               ·exact Jz.out p h
               ·rw [List.mem_singleton.1 h];exact .inl YS.out
              ·have:=bn o8 (aae o8 (k:=wm.heap.size) (by omega)) 0 (.slice a8 (N.length+1) Fj);simpa [List.flatMap_append,fe] using this
             case measure=>simp [intOf];omega
           | false=>
             have aha:N.length≤k:=hNd rfl;by_cases hlt:c<qr.code
             ·go_upto_region 24 with (at_builtin;refine n_ (W:=(wr.alloc (.cells #[.int .i64 qr.code,.int .i64 qr.cls,.slice aq nq cq] eP))) rfl _ _ 22 rfl (wm.heap.size+1) eP _ 3 40 nY (by decide) (by decide) (by decide) (by decide) (.slice anv N.length cnv) N.length (N.flatMap fe) rfl Nf.out _ (by first|rfl|(simp only [World.size_alloc];rfl)|(simp [World.setCell];rfl)) rfl (by simp [Value.oneCell']) (by omega) ((wr.alloc (.cells #[.int .i64 qr.code,.int .i64 qr.cls,.slice aq nq cq] eP))) (Below.refl _ _) (by first|omega|(simp;omega)) ?_;intro v8 w8 o8 iZ Lr LC;have K8:=KL.out.low iZ (by omega);have cK8:=K8.at 0 rfl;have fK8:=K8.frozen 0;obtain ⟨a8,Fj,rfl,_,_⟩:=ak o8);have O9:=aa (bn o8 (aae o8 (k:=wm.heap.size) (by omega)) 0 (.slice a8 (N.length+1) Fj));have K9:=aa (K8.set 0 (.slice a8 (N.length+1) Fj));have I9:=(((Is.new wr #[.int .i64 qr.code,.int .i64 qr.cls,.slice aq nq cq] eP).grown Lr HBN.out)).put (j:=wm.heap.size) (o:=0) (by omega) (.slice a8 (N.length+1) Fj);have r0:=I9.at 0 rfl;have r1:=I9.at 1 rfl;have r2:=I9.at 2 rfl;have r3:=K9.out.at 0 rfl;have ahb:=iZ.size;simp only [World.size_alloc] at ahb;have HB8:=aa iZ;clear I9 q0 q1 q2 n0 yy0 yy1 yy2 cK8 fK8 K8 o8 Lr iZ LC;go_wp2_with (at_builtin;refine n_ (W:=w8.setCell ⟨wm.heap.size,0,none⟩ (.slice a8 (N.length+1) Fj)) rfl _ _ 22 rfl (wm.heap.size+1) eP _ 3 40 nY (by decide) (by decide) (by decide) (by decide) (.slice a8 (N.length+1) Fj) (N.length+1) (_) rfl O9.out _ (by first|rfl|(simp only [World.size_alloc];rfl)|(simp [World.setCell];rfl)) rfl (by simp [Value.oneCell']) (by omega) (w8.setCell ⟨wm.heap.size,0,none⟩ (.slice a8 (N.length+1) Fj)) (Below.refl _ _) (by first|omega|(simp;omega)) ?_;intro v9x w9x o9x ZF ano anp;have K9x:=K9.out.low ZF (by omega);have anq:=K9x.at 0 rfl;have anr:=K9x.frozen 0;obtain ⟨a9x,ahe,rfl,_,_⟩:=ak o9x);go_roundw
              case rel=>
               have Qg:=WM.out.trans (HB8.out.mono (by omega));refine ⟨k+1,true,N++[P]++[(qr,.slice aq nq cq)],_,by omega,rfl,rfl,by simp;omega,by simp,?_,?_,K9x.set 0 _,by have:=ZF.size;simp at this ⊢;omega,aj ((aj Qg (Nat.le_refl _)).trans (ZF.mono (by omega))) (Nat.le_refl _)⟩
               ·intro p hp;rcases List.mem_append.1 hp with h|h
                ·rcases List.mem_append.1 h with h|h
                 ·exact Jz.out p h
                 ·rw [List.mem_singleton.1 h];exact .inr rfl
                ·rw [List.mem_singleton.1 h];exact .inl YS.out
               ·have:=bn o9x (aae o9x (k:=wm.heap.size) (by omega)) 0 (.slice a9x (N.length+1+1) ahe);simpa [List.flatMap_append,fe,HP.out] using this
              case measure=>simp [intOf];omega
             ·go_wp2_with (at_builtin;refine n_ (W:=(wr.alloc (.cells #[.int .i64 qr.code,.int .i64 qr.cls,.slice aq nq cq] eP))) rfl _ _ 22 rfl (wm.heap.size+1) eP _ 3 40 nY (by decide) (by decide) (by decide) (by decide) (.slice anv N.length cnv) N.length (N.flatMap fe) rfl Nf.out _ (by first|rfl|(simp only [World.size_alloc];rfl)|(simp [World.setCell];rfl)) rfl (by simp [Value.oneCell']) (by omega) ((wr.alloc (.cells #[.int .i64 qr.code,.int .i64 qr.cls,.slice aq nq cq] eP))) (Below.refl _ _) (by first|omega|(simp;omega)) ?_;intro v8 w8 o8 iZ Lr LC;have K8:=KL.out.low iZ (by omega);have cK8:=K8.at 0 rfl;have fK8:=K8.frozen 0;obtain ⟨a8,Fj,rfl,_,_⟩:=ak o8);go_roundw
              case rel=>
               have Qg:=WM.out.trans (iZ.mono (by omega));refine ⟨k+1,false,N++[(qr,.slice aq nq cq)],_,by omega,rfl,rfl,by simp;omega,by simp;omega,?_,?_,K8.set 0 _,by have:=iZ.size;simp at this ⊢;omega,aj Qg (Nat.le_refl _)⟩
               ·intro p hp;rcases List.mem_append.1 hp with h|h
                ·exact Jz.out p h
                ·rw [List.mem_singleton.1 h];exact .inl YS.out
               ·have:=bn o8 (aae o8 (k:=wm.heap.size) (by omega)) 0 (.slice a8 (N.length+1) Fj);simpa [List.flatMap_append,fe] using this
              case measure=>simp [intOf];omega
          ·have hke:k=Lo.length:=by omega
           have Nf:=aa hno;have KL:=aa hiN;have n0:=hiN.at 0 rfl;have n1:=hiN.at 1 rfl;have WM:=aa kY;clear hno hiN;cases dn with
           | true=>
             have hlen:N.length≤Lo.length+1:=by omega
             clear hke;have CK:=aa (CKF.out wr N (.slice anv N.length cnv) _ Nf.out WM.out Jz.out (by omega));go_wp2_with fail;refine CK.out.mono ?_;rintro e w9 ⟨s,rfl,hs,h9⟩;have HSV:=aa hs;have iO:=(HSO.out.mono WM.out).mono h9;have p0:=iO.at 0 rfl;have p1:=iO.frozen 0;have p2:=fun u=>(iO.set 0 u).at 1 rfl;have p3:=fun u=>(iO.set 0 u).frozen 1;have p4:=aA h9 n0;have p5:=aA h9 n1;have TH:=aa (WM.out.trans (h9.mono WM.out.size));have hsE:=TH.out.size;clear hs;by_cases hse:s=⟨#[]⟩
             ·subst hse;have zs:=Nc;go_wp2;go_roundw
              case rel=>
               exact ⟨j+1,_,N,by omega,rfl,XL.out w9 TH.out (.slice anv N.length cnv) N (aV (aG Nf.out h9) (by omega)) Jz.out,HCN.out N Jz.out,HSV.out (by trivial),YB.out N Jz.out,by omega,by simp;omega,aj (aj (hB2.trans (TH.out.mono hB2.size)) (by omega)) (by omega)⟩
              case measure=>simp [intOf];omega
             ·have zs:=Ju hse;go_wp2;go_roundw
              case rel=>exact ⟨j+1,_,Lo,by omega,rfl,HS2.out.ext TH.out,tZ.out,HV.out,P6.out,by omega,by omega,hB2.trans (TH.out.mono hB2.size)⟩
              case measure=>simp [intOf];omega
           | false=>
             have aha:N.length≤k:=hNd rfl;go_upto_region 28 with (at_builtin;refine n_ (W:=wr) rfl _ _ 22 rfl (wm.heap.size+1) eP _ 3 40 nY (by decide) (by decide) (by decide) (by decide) (.slice anv N.length cnv) N.length (N.flatMap fe) rfl Nf.out _ (by first|rfl|(simp only [World.size_alloc];rfl)|(simp [World.setCell];rfl)) rfl (by simp [Value.oneCell']) (by omega) (wr) (Below.refl _ _) (by first|omega|(simp;omega)) ?_;intro v8 w8 o8 iZ Lr LC;have K8:=KL.out.low iZ (by omega);have cK8:=K8.at 0 rfl;have fK8:=K8.frozen 0;obtain ⟨a8,Fj,rfl,_,_⟩:=ak o8)
             have Be:=aa (show ∀p∈N++[P],p∈Lo∨p=P from fun p hp=>by
              rcases List.mem_append.1 hp with h|h
              ·exact Jz.out p h
              ·rw [List.mem_singleton.1 h];exact .inr rfl)
             have TV:=aa (show (w8.setCell ⟨wm.heap.size,0,none⟩ (.slice a8 (N.length+1) Fj)).ownsRow (wm.heap.size+1) eP 3 (.slice a8 (N.length+1) Fj) (N++[P]).length ((N++[P]).flatMap fe) from by
              have:=bn o8 (aae o8 (k:=wm.heap.size) (by omega)) 0 (.slice a8 (N.length+1) Fj)
              simpa [List.flatMap_append,fe,HP.out] using this)
             have HE2:=aa (aj (b:=wm.heap.size) (off:=0) (u:=.slice a8 (N.length+1) Fj) (WM.out.trans (iZ.mono (by omega))) (Nat.le_refl _));have K9:=K8.set 0 (.slice a8 (N.length+1) Fj);have n0:=K9.at 0 rfl;have n1:=K9.at 1 rfl;have hlen:(N++[P]).length≤Lo.length+1:=by simp;omega
             clear hke y0 y1 y2 cK8 fK8 K8 o8 Lr iZ LC K9;have CK:=aa (CKF.out (w8.setCell ⟨wm.heap.size,0,none⟩ (.slice a8 (N.length+1) Fj)) (N++[P]) (.slice a8 (N.length+1) Fj) _ TV.out HE2.out Be.out (by omega));go_wp2_with fail;refine CK.out.mono ?_;rintro e w9 ⟨s,rfl,hs,h9⟩;have HSV:=aa hs;have iO:=(HSO.out.mono HE2.out).mono h9;have p0:=iO.at 0 rfl;have p1:=iO.frozen 0;have p2:=fun u=>(iO.set 0 u).at 1 rfl;have p3:=fun u=>(iO.set 0 u).frozen 1;have p4:=aA h9 n0;have p5:=aA h9 n1;have TH:=aa (HE2.out.trans (h9.mono HE2.out.size));have hsE:=TH.out.size;clear hs;by_cases hse:s=⟨#[]⟩
             ·subst hse;have zs:=Nc;go_wp2;go_roundw
              case rel=>
               exact ⟨j+1,_,(N++[P]),by omega,rfl,XL.out w9 TH.out (.slice a8 (N.length+1) Fj) (N++[P]) (aV (aG TV.out h9) (by omega)) Be.out,HCN.out (N++[P]) Be.out,HSV.out (by trivial),YB.out (N++[P]) Be.out,by omega,by simp;omega,aj (aj (hB2.trans (TH.out.mono hB2.size)) (by omega)) (by omega)⟩
              case measure=>simp [intOf];omega
             ·have zs:=Ju hse;go_wp2;go_roundw
              case rel=>exact ⟨j+1,_,Lo,by omega,rfl,HS2.out.ext TH.out,tZ.out,HV.out,P6.out,by omega,by omega,hB2.trans (TH.out.mono hB2.size)⟩
              case measure=>simp [intOf];omega
  ·have hnj:n=j:=by omega
   obtain ⟨UD,WZ,rfl,_,_⟩:=ak hS.Js;have o0:=hS.out.at 0 rfl;have o1:=hS.out.at 1 rfl;have r0:=hS.res.at 0 rfl;have r1:=hS.res.frozen 0;have r2:=fun u=>(hS.res.set 0 u).at 1 rfl;have r3:=fun u=>(hS.res.set 0 u).frozen 1;have K:=(hS.res.set 0 (.slice UD Lo.length WZ)).set 1 (.slice Jw ny Jy);have v0:=K.at 0 rfl;have v1:=K.at 1 rfl;have PP:∀{B m s:Nat} {e:TypeId} {v:Value} {xs:List Value},w.heap.size+1<B→wr.ownsRow B e s v m xs→((wr.setCell ⟨w.heap.size+1,0,none⟩ (.slice UD Lo.length WZ)).setCell ⟨w.heap.size+1,1,none⟩ (.slice Jw ny Jy)).ownsRow B e s v m xs:=fun hB ho=>bn (bn ho (aae ho hB) _ _) (aae ho hB) _ _;have HT:=aa (iV.Nb (PP (by omega) hS.Js) (fun p hp=>PP (by omega) (hS.PY p hp)) (PP (by omega) hS.xs));have HB:=aa (aj (aj hB (b:=w.heap.size+1) (off:=0) (u:=.slice UD Lo.length WZ) (by omega)) (b:=w.heap.size+1) (off:=1) (u:=.slice Jw ny Jy) (by omega));have HV:=aa hV;have P6:=aa yS;clear K PP hS hC hV yS hB;go_wp2
   (try simp only [Exit.inBlock,Exit.then])
   refine bodyPost_ret (v:=.agg #[.slice UD Lo.length WZ,.slice Jw ny Jy]) (by simp [results,Tryz.results32,go_sem,v0,v1]) rfl ?_;exact ⟨_,Lo.map Prod.fst,Y,rfl,HT.out,HV.out,fun q hq=>by obtain ⟨p,hp,rfl⟩:=List.mem_map.1 hq;exact P6.out p hp,by rw [List.length_map];omega,by have:=HNY.out;omega,JI.out,HB.out⟩
end Go.Proofs.YtmpkfkoficehpaaGreatDoor
