/- TraceSizes: a machine made of a text has as many states as the document says; no condition. -/
import Derived.Test.YtjidohgiigjifaaGreatDoorQ22
set_option maxRecDepth 100000
set_option maxHeartbeats 6400000
namespace Go.Proofs.YtjidohgiigjifaaGreatDoor
open Go.RowKit Go.Cd
def twice (T:List aF) (X:List Nat) (r q:aF):Prop:=Prim T X r.code∧Prim T X q.code∧q.map.length=2∧q.map=r.map
theorem TU {T:List aF} {X:List Nat} (h:∀i (hi:i<T.length) k (hk:k<T.length),k<i→¬twice T X T[i] T[k]) :
 ∀r∈T,∀q∈T,r.map.length=2→r.map=q.map→Prim T X r.code→Prim T X q.code→r=q:=by
 intro r hr q hq h2 he hp hp';obtain ⟨i,hi,rfl⟩:=List.getElem_of_mem hr;obtain ⟨k,hk,rfl⟩:=List.getElem_of_mem hq;rcases Nat.lt_trichotomy i k with hik|rfl|hik
 ·exact absurd ⟨hp',hp,h2,he⟩ (h k hk i hi hik)
 ·rfl
 ·exact absurd ⟨hp,hp',he▸h2,he.symm⟩ (h i hi k hk hik)
theorem Kq {l:List Nat} {n:Nat} (hn:n=l.length) (h:n=2):∃a b,l=[a,b]:=by
 subst h
 match l,hn with
 | [a,b],_=>exact ⟨a,b,rfl⟩
theorem z_ {w:World} {v:Value} {T:List aF} {X:List Nat} (h:iw w v T X) (hmax:T.length<1000000) (hX:X.length<1000000)
 (hT:∀r∈T,aX r.code∧r.cls<255∧r.map.length≤2∧∀x∈r.map,aX x) :
 Calls Tryz.prog 103 #[v] w fun e w'=>∃s,e=.returned (.string s)∧(s=⟨#[]⟩→bE T X)∧Below w.heap.size w w':=by
 have HT:=ae h;obtain ⟨r,x,rfl,⟨a,cap,rfl,hcap,hx⟩,h2⟩:=h;have HX:=ae hx;obtain ⟨ax,cx,rfl,_,_⟩:=Go.Cd.bD.out h2;obtain ⟨n,hn⟩:=af T.length;obtain ⟨nx,hnx⟩:∃n,n=(ints X).length:=⟨_,rfl⟩;rw [←hn] at hmax hcap;rw [←hn,←hnx] at HT ⊢;have HN:=ae hn;have Mq:=ae hT;have hb:=ai (w:=w) (.cells #[.slice a n cap,.slice ax nx cx] 25);have d0:(w.alloc (.cells #[.slice a n cap,.slice ax nx cx] 25)).cell? ⟨w.heap.size,0,none⟩=some (.slice a n cap):=by unfold World.cell?;rw [heap_alloc_new];rfl
 have d1:(w.alloc (.cells #[.slice a n cap,.slice ax nx cx] 25)).cell? ⟨w.heap.size,1,none⟩=some (.slice ax nx cx):=by unfold World.cell?;rw [heap_alloc_new];rfl
 obtain ⟨W0,hW⟩:=af (w.alloc (.cells #[.slice a n cap,.slice ax nx cx] 25));rw [←hW] at hb d0 d1;have IS:=fun (W:World) (y:Nat) (hy:y<1114112)=>ae (Aq (w:=W) y (by omega));have KI:=fun (W:World) (y:Nat) (hy:y<1114112)=>ae (Dt (w:=W) y hy);have FU:=fun (W:World) (E:Below w.heap.size w W) (y:Nat) (hy:y<1114112)=>ae (rR (HT.out.mono E) y hy (fun r hr x hx=>((hT r hr).2.2.2 x hx).1) (fun r hr=>Nat.le_trans (hT r hr).2.2.1 (by decide)) (by omega));have PR:=fun (W:World) (E:Below w.heap.size w W) (y:Nat) (hy:y<1114112)=>ae (wD (HT.out.mono E) y hy (by omega) hX);clear h2 hnx hx hn hT;go_enter Tryz.func103,Tryz.ntmps103;go_wp2_with fail;rw [←hW];clear hW;go_loopw [3,21] (fun lv iv wr=>∃(j:Nat) (last:Int),j≤n∧iv=.int .i64 j∧lv=.int .i64 last∧-1≤last∧last<1114112∧(∀r∈T.take j,(r.code:Int)≤last)∧rising (T.take j)∧(∀r∈T.take j,hk r.code=0∧∀x∈r.map,hk x=0)∧Below W0.heap.size W0 wr) (fun _ iv _=>n-(intOf iv).toNat)
 case atStart=>exact ⟨0,-1,Nat.zero_le _,rfl,rfl,by decide,by decide,by simp,trivial,by simp,Below.refl _ _⟩
 case round=>
  obtain ⟨j,last,hj,rfl,rfl,hl1,hl2,hle,hri,hka,hE⟩:=hrel;have dC:=hb.trans (hE.mono hb.size);by_cases hjn:j<n
  ·have hjl:j<T.length:=by have:=HN.out;omega
   obtain ⟨b,off,m,rfl,hbs,c0,c1,c2,hm⟩:=HX.out j hjl;have c0:=aA dC c0;have c1:=aA dC c1;have c2:=aA dC c2;have hm:=hm.mono dC;obtain ⟨hfc,hfk,hfm,hfx⟩:=Mq.out _ (List.getElem_mem hjl);have HS:=ae (show T.take (j+1)=T.take j++[T[j]] from List.take_succ_eq_append_getElem hjl);have Uk:=ae hle;have HRI:=ae hri;have UQ:=ae hka;generalize T[j]=q at *;obtain ⟨nm,hnm⟩:=af q.map.length;obtain ⟨am,cm,rfl,hcm,hxm⟩:=bD.kS hm hnm;have MC:=ae hxm;have HFX:=ae hfx;have qh:=ae hnm;have HM:=ae hm;have QS:=hfc.1;have I1:=fun W=>IS W q.code QS;simp only [decide_eq_true hfc] at I1;have LM:nm≤2:=by omega
   clear hle hri hka hfx hxm hm hfm hnm hfc FU PR;go_wp2_with fail;refine (I1 _).out.mono ?_;rintro e w1 ⟨rfl,rfl⟩;by_cases hlast:(q.code:Int)≤last
   ·go_wp2;go_ret;exact ⟨_,rfl,fun h=>by (first|cases h|simp at h),hb.trans ((ag hE (ai _)).mono hb.size)⟩
   ·have O:((wr.alloc (.cells #[.int .i64 q.code,.int .i64 q.cls,.slice am nm cm] 68)).alloc (.cells #[.int .i64 q.code] aU)).ownsRow (wr.heap.size+1) aU 1 (.slice (some ⟨wr.heap.size+1,0,none⟩) 1 1) 1 [.int .i64 q.code]:=by
     have:=kD (wr.alloc (.cells #[.int .i64 q.code,.int .i64 q.cls,.slice am nm cm] 68)) #[.int .i64 q.code] aU 1 rfl (by decide);simpa only [World.size_alloc] using this
    have S2:=ae (fun (W:World) (E:Below wr.heap.size wr W)=>HM.out.mono E);have O:=ae O;have S1C:=ae (show ∀(w1:World) (v1:Value) (n1:Nat),w1.ownsRow (wr.heap.size+1) aU 1 v1 n1 ([Value.int .i64 q.code]++ints q.map)→bD w1 v1 (ints (q.code::q.map)) from fun w1 v1 n1 o=>(Sl.aT o).any);have Vr:=ae (show nm+1=(q.code::q.map).length by rw [List.length_cons,qh.out]);go_wp2_with (at_builtin;refine bG rfl _ _ 23 rfl (wr.heap.size+1) aU _ 8 gL _ 1 _ rfl O.out _ (ints q.map) rfl (S2.out _ (dF _ _)) (gM _) (by rw [dw,←qh.out];unfold maxLen;omega) (by rw [dw,←qh.out];omega) (by simp only [World.size_alloc];omega) ?_;intro v1 w1 o1 hg1;obtain ⟨a1,wI,rfl,_,hx1⟩:=bD.kS (S1C.out _ _ _ o1) Vr.out);have hE1:Below wr.heap.size wr w1:=(dF _ _).grown hg1 (dF _ _).size (fun k hk=>by have:=(O.out.lt k hk).1;omega);have f2:w1.cell? ⟨wr.heap.size,2,none⟩=some (.slice am nm cm):=
     hg1.cell (aA (ai _) (by unfold World.cell?;rw [heap_alloc_new];rfl)) (fun e=>by have:=(O.out.lt _ e.symm).1;simp only at this;omega)
    have Bo:=ae hx1
    have HQ:=ae (show ∀x∈q.code::q.map,x<1114112 from fun x hx=>by
     rcases List.mem_cons.1 hx with rfl|hx
     ·exact QS
     ·exact (HFX.out x hx).1)
    clear o1 hg1 hx1 c0 c1 c2 I1 S1C;generalize hL:q.code::q.map=L at *;have HL:=ae hL;clear hL;obtain ⟨wo,jf⟩:∃w',w'=wr:=⟨_,rfl⟩;subst jf;go_wp2_with fail;go_loopw [60] (fun kv w2=>∃k:Nat,k≤nm+1∧kv=.int .i64 k∧(∀x∈L.take k,hk x=0)∧w2=w1) (fun kv _=>nm+1-(intOf kv).toNat)
    case atStart=>exact ⟨0,Nat.zero_le _,rfl,by simp,(by first|rfl|trivial)⟩
    case round=>
     obtain ⟨k,hk1,rfl,hks,rfl⟩:=hrel;obtain ⟨w1,jf⟩:∃w',w'=wr:=⟨_,rfl⟩;subst jf;by_cases hkn:k<nm+1
     ·have hkl:k<L.length:=by have:=Vr.out;omega
      obtain ⟨b1,f1,rfl,_,hz⟩:=Bo.out k hkl;have K1:=fun W=>KI W _ (HQ.out _ (List.getElem_mem hkl));have HS1:=ae (show L.take (k+1)=L.take k++[L[k]] from List.take_succ_eq_append_getElem hkl);have HKS:=ae hks;generalize L[k]=y at *;clear hks;by_cases hy0:hk y=0
      ·rw [hy0] at K1;go_wp2_with fail;refine (K1 _).out.mono ?_;rintro e w2 ⟨rfl,rfl⟩;go_wp2;go_roundw
       case rel=>exact ⟨k+1,by omega,rfl,fun x hx=>by
        rw [HS1.out,List.mem_append,List.mem_singleton] at hx;rcases hx with hx|rfl
        ·exact HKS.out x hx
        ·exact hy0,(by first|rfl|trivial)⟩
       case measure=>simp [intOf];omega
      ·go_wp2_with fail;refine (K1 _).out.mono ?_;rintro e w2 ⟨rfl,rfl⟩;generalize hk y=kk at *;go_wp2;go_ret;exact ⟨_,rfl,fun h=>by (first|cases h|simp at h),hb.trans ((ag hE hE1).mono hb.size)⟩
     ·have hkk:k=nm+1:=by omega
      rw [List.take_of_length_le (by have:=Vr.out;omega)] at hks;have HKS:=ae hks;clear hks Bo HQ hk1 hkk;have Wu:=MC.out;go_wp2_with fail;go_loopw [71] (fun kv w2=>∃k:Nat,k≤nm∧kv=.int .i64 k∧w2=w1) (fun kv _=>nm-(intOf kv).toNat)
      case atStart=>exact ⟨0,Nat.zero_le _,rfl,(by first|rfl|trivial)⟩
      case round=>
       obtain ⟨k,hk1,rfl,rfl⟩:=hrel;obtain ⟨w1,jf⟩:∃w',w'=wr:=⟨_,rfl⟩;subst jf;by_cases hkn:k<nm
       ·have hkl:k<q.map.length:=by have:=qh.out;omega
        obtain ⟨bm,fm,rfl,_,hz⟩:=Wu k hkl;have hz:=aA hE1 hz;have hc1:=HFX.out _ (List.getElem_mem hkl);have I2:=fun W=>IS W _ hc1.1;simp only [decide_eq_true hc1] at I2;clear hc1 Wu;generalize q.map[k]=y at *;go_wp2_with fail;refine (I2 _).out.mono ?_;rintro e w2 ⟨rfl,rfl⟩;go_wp2;go_roundw
        case rel=>exact ⟨k+1,by omega,rfl,(by first|rfl|trivial)⟩
        case measure=>simp [intOf];omega
       ·clear Wu;go_wp2;go_roundw
        case rel=>
         refine ⟨j+1,q.code,by omega,rfl,rfl,by omega,by omega,?_,?_,?_,ag hE hE1⟩
         ·intro r hr;rw [HS.out,List.mem_append,List.mem_singleton] at hr;rcases hr with hr|rfl
          ·have:=Uk.out r hr;omega
          ·exact Int.le_refl _
         ·rw [HS.out,zo];refine ⟨HRI.out,⟨by simp,trivial⟩,fun r hr q' hq'=>?_⟩;rw [List.mem_singleton.1 hq'];have:=Uk.out r hr;omega
         ·intro r hr;rw [HS.out,List.mem_append,List.mem_singleton] at hr;rcases hr with hr|rfl
          ·exact UQ.out r hr
          ·refine ⟨HKS.out _ (by rw [←HL.out];simp),fun x hx=>HKS.out _ (by rw [←HL.out];simp [hx])⟩
        case measure=>simp [intOf];omega
  ·obtain rfl:n=j:=by omega
   rw [List.take_of_length_le (by rw [HN.out];exact Nat.le_refl _)] at hri hka;have HRI:=ae hri;have UQ:=ae hka;have e0:=aA hE d0;have e1:=aA hE d1;clear hle hri hka hl1 hl2 hjn hj KI IS;obtain ⟨w3,jf⟩:∃w',w'=wr:=⟨_,rfl⟩;subst jf;go_wp2_with fail;go_loopw [83] (fun iv w4=>∃j:Nat,j≤n∧iv=.int .i64 j∧(∀r∈T.take j,eO T r.code)∧Below w3.heap.size w3 w4) (fun iv _=>n-(intOf iv).toNat)
   case atStart=>exact ⟨0,Nat.zero_le _,rfl,by simp,Below.refl _ _⟩
   case round=>
    obtain ⟨j,hj,rfl,hok,kW⟩:=hrel;obtain ⟨w4,jf⟩:∃w',w'=wr:=⟨_,rfl⟩;subst jf;have Du:=dC.trans (kW.mono dC.size);by_cases hjn:j<n
    ·have hjl:j<T.length:=by have:=HN.out;omega
     obtain ⟨b,off,m,rfl,hbs,c0,c1,c2,hm⟩:=HX.out j hjl;have c0:=aA Du c0;have c1:=aA Du c1;have c2:=aA Du c2;have g0:=aA kW e0;have g1:=aA kW e1;obtain ⟨nm,hnm⟩:=af (T[j].map.length);obtain ⟨am,cm,rfl,_,_⟩:=bD.kS hm hnm;clear hm hnm;have QS:=(Mq.out _ (List.getElem_mem hjl)).1.1;have HS:=ae (show T.take (j+1)=T.take j++[T[j]] from List.take_succ_eq_append_getElem hjl);have ZV:=ae hok;generalize T[j]=q at *;have F1:=fun (W:World) (E:Below w4.heap.size w4 W)=>FU W (Du.trans (E.mono Du.size)) q.code QS;have gg0:(w4.alloc (.cells #[.int .i64 q.code,.int .i64 q.cls,.slice am nm cm] 68)).cell? ⟨w.heap.size,0,none⟩=some (.slice (some ⟨b,off,none⟩) n cap):=aA (ai _) g0;have gg1:(w4.alloc (.cells #[.int .i64 q.code,.int .i64 q.cls,.slice am nm cm] 68)).cell? ⟨w.heap.size,1,none⟩=some (.slice ax nx cx):=aA (ai _) g1;clear hok FU PR e0 e1 hbs g0 g1;by_cases hf:eO T q.code
     ·simp only [decide_eq_true hf] at F1;go_wp2_with fail;refine (F1 _ (ai _)).out.mono ?_;rintro e w5 ⟨r5,rfl,_,h5⟩;go_wp2;go_roundw
      case rel=>exact ⟨j+1,by omega,rfl,fun r hr=>by
       rw [HS.out,List.mem_append,List.mem_singleton] at hr;rcases hr with hr|rfl
       ·exact ZV.out r hr
       ·exact hf,ag kW (ag (ai _) h5)⟩
      case measure=>simp [intOf];omega
     ·simp only [decide_eq_false hf] at F1;go_wp2_with fail;refine (F1 _ (ai _)).out.mono ?_;rintro e w5 ⟨r5,rfl,_,h5⟩;go_wp2;go_ret;exact ⟨_,rfl,fun h=>by (first|cases h|simp at h),Du.trans ((ag (ai _) h5).mono Du.size)⟩
    ·obtain rfl:n=j:=by omega
     rw [List.take_of_length_le (by rw [HN.out];exact Nat.le_refl _)] at hok;have ZV:=ae hok;have e0:=aA kW e0;have e1:=aA kW e1;clear hok hjn hj FU;have HPF:=ae (show ∀r∈T,Prim T X r.code→r.map.length=2 from fun r hr hp=>wQ HRI.out hr (by have:=(UQ.out r hr).1;omega) hp)
     have HV:=ae (show (∀i (hi:i<T.length) k (hk:k<T.length),k<i→¬twice T X T[i] T[k])→bE T X from fun h=>
      ⟨fun r hr=>⟨(Mq.out r hr).1,(Mq.out r hr).2.1,(Mq.out r hr).2.2.1,(UQ.out r hr).1,fun x hx=>⟨(UQ.out r hr).2 x hx,(Mq.out r hr).2.2.2 x hx⟩⟩,HRI.out,ZV.out,TU h⟩)
     go_wp2_with fail;go_loopw [100] (fun iv w5=>∃j:Nat,j≤n∧iv=.int .i64 j∧(∀i (hi:i<T.length) k (hk:k<T.length),i<j→k<i→¬twice T X T[i] T[k])∧Below w4.heap.size w4 w5) (fun iv _=>n-(intOf iv).toNat)
     case atStart=>exact ⟨0,Nat.zero_le _,rfl,fun i _ k _ h=>by omega,Below.refl _ _⟩
     case round=>
      obtain ⟨j,hj,rfl,hno,kV⟩:=hrel;obtain ⟨w5,jf⟩:∃w',w'=wr:=⟨_,rfl⟩;subst jf;have ME:=Du.trans (kV.mono Du.size);by_cases hjn:j<n
      ·have hjl:j<T.length:=by have:=HN.out;omega
       obtain ⟨b,off,m,rfl,hbs,c0,c1,c2,hm⟩:=HX.out j hjl;have c0:=aA ME c0;have c1:=aA ME c1;have c2:=aA ME c2;have e0:=aA kV e0;have e1:=aA kV e1;have QS:=(Mq.out _ (List.getElem_mem hjl)).1.1;have hmj:=List.getElem_mem hjl;have HJ:=ae (show ∀i (hi:i<T.length),i=j→T[i]=T[j] from fun i hi h=>by subst h;rfl);have M0:=ae hno;have HM:=ae (HPF.out _ hmj);generalize T[j]=q at *;obtain ⟨nm,hnm⟩:=af q.map.length;obtain ⟨am,cm,rfl,_,hxm⟩:=bD.kS hm hnm
       have MC:=ae (show nm=2→∃y0 y1,q.map=[y0,y1]∧∃bm fm,am=some ⟨bm,fm,none⟩∧w.cell? ⟨bm,fm,none⟩=some (.int .i64 y0)∧w.cell? ⟨bm,fm+1,none⟩=some (.int .i64 y1) from fun h2=>by
        obtain ⟨y0,y1,hy⟩:=Kq hnm h2;obtain ⟨bm,fm,rfl,_,z0⟩:=hxm 0 (by omega);obtain ⟨bm',fm',hab,_,z1⟩:=hxm 1 (by omega);cases hab;simp only [hy] at z0 z1
        exact ⟨y0,y1,hy,bm,fm,rfl,by simpa using z0,by simpa using z1⟩)
       have qh:=ae hnm;have hjc:j≤cap:=by omega
       obtain ⟨W5,MF⟩:=af (w5.alloc (.cells #[.int .i64 q.code,.int .i64 q.cls,.slice am nm cm] 68));have h5:Below w5.heap.size w5 W5:=by subst MF;exact ai _
       have ee0:(w5.alloc (.cells #[.int .i64 q.code,.int .i64 q.cls,.slice am nm cm] 68)).cell? ⟨w.heap.size,0,none⟩=some (.slice (some ⟨b,off,none⟩) n cap):=aA (ai _) e0;have q0:W5.cell? ⟨w5.heap.size,0,none⟩=some (.int .i64 q.code):=by subst MF;unfold World.cell?;rw [heap_alloc_new];rfl
       have q2:W5.cell? ⟨w5.heap.size,2,none⟩=some (.slice am nm cm):=by subst MF;unfold World.cell?;rw [heap_alloc_new];rfl
       have e0:=aA h5 e0;have e1:=aA h5 e1;have XG:=ME.trans (h5.mono ME.size);clear hno hm hnm hxm hmj hbs;go_wp2_with fail;rw [←MF];clear MF ee0;go_loopw [110] (fun kv w6=>∃k:Nat,k≤j∧kv=.int .i64 k∧(∀k' (hk':k'<T.length),k'<k→¬twice T X q T[k'])∧Below W5.heap.size W5 w6) (fun kv _=>j-(intOf kv).toNat)
       case atStart=>exact ⟨0,Nat.zero_le _,rfl,fun k' _ h=>by omega,Below.refl _ _⟩
       case round=>
        clear c0 c1 c2;obtain ⟨k,hk1,rfl,hno,DD⟩:=hrel;obtain ⟨w6,jf⟩:∃w',w'=wr:=⟨_,rfl⟩;subst jf;have Wv:=XG.trans (DD.mono XG.size);by_cases hkj:k<j
        ·have hkl:k<T.length:=by have:=HN.out;omega
         obtain ⟨b',off',m',hab,_,c0,c1,c2,hm⟩:=HX.out k hkl;cases hab;have c0:=aA Wv c0;have c1:=aA Wv c1;have c2:=aA Wv c2;have hp9:=(Mq.out _ (List.getElem_mem hkl)).1.1;have HNK:=ae hno;have HK:=ae (show ∀i (hi:i<T.length),i=k→T[i]=T[k] from fun i hi h=>by subst h;rfl);generalize T[k]=p at *;obtain ⟨np,Nb⟩:∃nm,nm=p.map.length:=⟨_,rfl⟩;obtain ⟨ap,cp,rfl,_,hxp⟩:=bD.kS hm Nb
         have HXP:=ae (show np=2→∃y0 y1,p.map=[y0,y1]∧∃bm fm,ap=some ⟨bm,fm,none⟩∧w.cell? ⟨bm,fm,none⟩=some (.int .i64 y0)∧w.cell? ⟨bm,fm+1,none⟩=some (.int .i64 y1) from fun h2=>by
          obtain ⟨y0,y1,hy⟩:=Kq Nb h2;obtain ⟨bm,fm,rfl,_,z0⟩:=hxp 0 (by omega);obtain ⟨bm',fm',hab,_,z1⟩:=hxp 1 (by omega);cases hab;simp only [hy] at z0 z1
          exact ⟨y0,y1,hy,bm,fm,rfl,by simpa using z0,by simpa using z1⟩)
         have QC:=ae Nb;obtain ⟨W6,hW6⟩:=af (w6.alloc (.cells #[.int .i64 p.code,.int .i64 p.cls,.slice ap np cp] 68));have h6:Below w6.heap.size w6 W6:=by subst hW6;exact ai _
         have p0:W6.cell? ⟨w6.heap.size,0,none⟩=some (.int .i64 p.code):=by subst hW6;unfold World.cell?;rw [heap_alloc_new];rfl
         have p2:W6.cell? ⟨w6.heap.size,2,none⟩=some (.slice ap np cp):=by subst hW6;unfold World.cell?;rw [heap_alloc_new];rfl
         have Aa:=ag DD h6;have e0:=aA Aa e0;have e1:=aA Aa e1;have q0:=aA Aa q0;have q2:=aA Aa q2;have MG:=XG.trans (Aa.mono XG.size)
         have Xd:=ae (show ∀z,(z=true→twice T X q p)→(z=false→¬twice T X q p)→z=false→∀k' (hk':k'<T.length),k'<k+1→¬twice T X q T[k'] from fun z _ h0 hz k' hk' hkk=>by
          by_cases h:k'=k
          ·rw [HK.out k' hk' h];exact h0 hz
          ·exact HNK.out k' hk' (by omega))
         clear hno hm Nb hxp HNK HK;go_wp2_with fail;rw [←hW6];clear hW6;have hq:=ah W6;have g0:=Gr.cell hq e0;have g1:=Gr.cell hq e1;have gq0:=Gr.cell hq q0;have gq2:=Gr.cell hq q2;have gp0:=Gr.cell hq p0;have gp2:=Gr.cell hq p2;have P1:=PR _ (MG.trans (hq.mono MG.size)) q.code QS;have P2:=fun (W:World) (E:Below W6.heap.size W6 W)=>PR W (MG.trans (E.mono MG.size)) p.code hp9;clear PR c0 c1 c2;refine aD (Array.replicate 38 true) 38 0 mixed (by rfl) ?_;refine ay [0,1,2] 35 rfl (by kernel_rfl) ?_;refine aZ ?_
         iterate 3 (refine aO rfl ?_)
         refine a_ ?_
         iterate 3 (go_big_quiet_step (rfl))
         refine ak ?_;refine aL 3 (by kernel_rfl) rfl ?_;go_wp2_with fail;refine P1.out.mono ?_;rintro e w7 ⟨⟨p1,rfl,hp1⟩,h7⟩;go_wp2_with fail;refine aH h7 ?_;have TV:=ag hq h7;clear g0 g1 gq0 gq2 gp0 gp2 P1;have g0:=Gr.cell TV e0;have g1:=Gr.cell TV e1;have gq0:=Gr.cell TV q0;have gq2:=Gr.cell TV q2;have gp0:=Gr.cell TV p0;have gp2:=Gr.cell TV p2;cases p1 with
         | false=>
           have qR:=ae (show ¬twice T X q p from fun h=>by have:=hp1.2 h.1;cases this);clear P2 hp1 HXP MC HM;refine ay [4,5,6,7] 30 rfl (by kernel_rfl) ?_;refine aZ ?_
           iterate 4 (refine aO rfl ?_)
           refine a_ ?_
           iterate 4 (go_big_quiet_step (rfl))
           refine ak ?_;refine aL 8 (by kernel_rfl) rfl ?_;go_wp2_with fail;refine aH (Below.refl _ _) ?_;refine ay [9,10,11,12,13,14,15,16,17,18,19,20,21,22,23,24,25,26,27,28,29,30,31,32,33,34,35,36,37] 0 rfl (by kernel_rfl) ?_;refine aZ ?_
           iterate 29 (refine aO rfl ?_)
           refine a_ ?_
           iterate 29 (go_big_quiet_step (rfl))
           refine ak ?_;refine aI [] (by kernel_rfl) ?_;refine tail_nil ?_;go_wp2;go_roundw
           case rel=>exact ⟨k+1,by omega,rfl,Xd.out false (fun h=>by cases h) (fun _=>qR.out) rfl,ag Aa TV⟩
           case measure=>simp [intOf];omega
         | true=>
           have P2:=P2 _ TV;refine ay [4,5,6,7] 30 rfl (by kernel_rfl) ?_;refine aZ ?_
           iterate 4 (refine aO rfl ?_)
           refine a_ ?_
           iterate 4 (go_big_quiet_step (rfl))
           refine ak ?_;refine aL 8 (by kernel_rfl) rfl ?_;go_wp2_with fail;refine P2.out.mono ?_;rintro e w8 ⟨⟨p2',rfl,hp2⟩,h8⟩;go_wp2_with fail;refine aH h8 ?_;have hq8:=ag TV h8;clear g0 g1 gq0 gq2 gp0 gp2 P2;have g0:=Gr.cell hq8 e0;have g1:=Gr.cell hq8 e1;have gq0:=Gr.cell hq8 q0;have gq2:=Gr.cell hq8 q2;have gp0:=Gr.cell hq8 p0;have gp2:=Gr.cell hq8 p2;cases p2' with
           | false=>
             have qR:=ae (show ¬twice T X q p from fun h=>by have:=hp2.2 h.2.1;cases this);clear hp1 hp2 HXP MC HM;refine ay [9,10,11,12,13,14,15,16,17,18,19,20,21,22,23,24,25,26,27,28,29,30,31,32,33,34,35,36,37] 0 rfl (by kernel_rfl) ?_;refine aZ ?_
             iterate 29 (refine aO rfl ?_)
             refine a_ ?_
             iterate 29 (go_big_quiet_step (rfl))
             refine ak ?_;refine aI [] (by kernel_rfl) ?_;refine tail_nil ?_;go_wp2;go_roundw
             case rel=>exact ⟨k+1,by omega,rfl,Xd.out false (fun h=>by cases h) (fun _=>qR.out) rfl,ag Aa hq8⟩
             case measure=>simp [intOf];omega
           | true=>
             have LM:nm=2:=qh.out.trans (HM.out (hp1.1 (by trivial)));by_cases Ww:np=2
             ·obtain ⟨y0,y1,hy,bm,fm,rfl,zy0,zy1⟩:=MC.out LM;obtain ⟨x0,x1,hx,bp,fp,rfl,zx0,zx1⟩:=HXP.out Ww;have vk:=MG.trans (hq8.mono MG.size);have gy0:=Gr.cell vk zy0;have gy1:=Gr.cell vk zy1;have Xu:=Gr.cell vk zx0;have Xv:=Gr.cell vk zx1
              have QO:=ae (show twice T X q p↔x0=y0∧x1=y1 from by
               unfold twice;rw [hx,hy];constructor
               ·rintro ⟨_,_,_,h⟩;cases h;exact ⟨rfl,rfl⟩
               ·rintro ⟨rfl,rfl⟩;exact ⟨hp1.1 (by trivial),hp2.1 (by trivial),rfl,rfl⟩)
              subst LM;subst Ww;clear hp1 hp2 HXP MC HM hx hy zy0 zy1 zx0 zx1;by_cases aad:x0=y0
              ·subst aad;by_cases aae:x1=y1
               ·subst aae;refine ay [9,10,11,12,13,14,15,16,17,18,19,20,21,22,23,24,25,26,27,28,29,30,31,32,33,34,35,36,37] 0 rfl (by kernel_rfl) ?_;refine aZ ?_
                iterate 29 (refine aO rfl ?_)
                refine a_ ?_
                iterate 29 (go_big_quiet_step (rfl))
                refine ak ?_;refine aI [] (by kernel_rfl) ?_;refine tail_nil ?_;go_wp2;go_ret;exact ⟨_,rfl,fun h=>by (first|cases h|simp at h),vk⟩
               ·have z:((x1:Int)==(y1:Int))=false:=by simp;omega
                have qR:=ae (show ¬twice T X q p from fun h=>aae (QO.out.1 h).2);clear QO;refine ay [9,10,11,12,13,14,15,16,17,18,19,20,21,22,23,24,25,26,27,28,29,30,31,32,33,34,35,36,37] 0 rfl (by kernel_rfl) ?_;refine aZ ?_
                iterate 29 (refine aO rfl ?_)
                refine a_ ?_
                iterate 29 (go_big_quiet_step (rfl))
                refine ak ?_;refine aI [] (by kernel_rfl) ?_;refine tail_nil ?_;go_wp2;go_roundw
                case rel=>exact ⟨k+1,by omega,rfl,Xd.out false (fun h=>by cases h) (fun _=>qR.out) rfl,ag Aa hq8⟩
                case measure=>simp [intOf];omega
              ·have z:((x0:Int)==(y0:Int))=false:=by simp;omega
               have qR:=ae (show ¬twice T X q p from fun h=>aad (QO.out.1 h).1);clear QO;refine ay [9,10,11,12,13,14,15,16,17,18,19,20,21,22,23,24,25,26,27,28,29,30,31,32,33,34,35,36,37] 0 rfl (by kernel_rfl) ?_;refine aZ ?_
               iterate 29 (refine aO rfl ?_)
               refine a_ ?_
               iterate 29 (go_big_quiet_step (rfl))
               refine ak ?_;refine aI [] (by kernel_rfl) ?_;refine tail_nil ?_;go_wp2;go_roundw
               case rel=>exact ⟨k+1,by omega,rfl,Xd.out false (fun h=>by cases h) (fun _=>qR.out) rfl,ag Aa hq8⟩
               case measure=>simp [intOf];omega
             ·have z:((np:Int)==2)=false:=by simp;omega
              have qR:=ae (show ¬twice T X q p from fun h=>Ww (QC.out.trans h.2.2.1));clear hp1 hp2 HXP MC HM;refine ay [9,10,11,12,13,14,15,16,17,18,19,20,21,22,23,24,25,26,27,28,29,30,31,32,33,34,35,36,37] 0 rfl (by kernel_rfl) ?_;refine aZ ?_
              iterate 29 (refine aO rfl ?_)
              refine a_ ?_
              iterate 29 (go_big_quiet_step (rfl))
              refine ak ?_;refine aI [] (by kernel_rfl) ?_;refine tail_nil ?_;go_wp2;go_roundw
              case rel=>exact ⟨k+1,by omega,rfl,Xd.out false (fun h=>by cases h) (fun _=>qR.out) rfl,ag Aa hq8⟩
              case measure=>simp [intOf];omega
        ·obtain rfl:j=k:=by omega
         have HNK:=ae hno;clear hno;go_wp2;go_roundw
         case rel=>
          refine ⟨j+1,by omega,rfl,fun i hi k' hk' hij hki=>?_,ag kV (ag h5 DD)⟩;by_cases hik:i=j
          ·rw [HJ.out i hi hik];exact HNK.out k' hk' (by omega)
          ·exact M0.out i hi k' hk' (by omega) hki
         case measure=>simp [intOf];omega
      ·obtain rfl:n=j:=by omega
       have HVV:=ae (HV.out (fun i hi k hk hki=>hno i hi k hk (by have:=HN.out;omega) hki));clear hno HV PR HPF;go_wp2;go_ret;exact ⟨_,rfl,fun _=>HVV.out,ME⟩
structure ze (s0 O:Nat) (r x:Value) (L:List (fM×Value)) (Y:List Nat) (j:Nat) (ov:Value) (Lo:List (aF×Value)) (w:World):Prop where
 rows:w.ownsRow (s0+2) d_ 3 r L.length (L.flatMap j4)
 maps:∀p∈L.drop j,w.ownsRow (s0+2) aU 1 p.2 p.1.map.length (bH p.1.map)
 xs:w.ownsRow (s0+2) aU 1 x Y.length (ints Y)
 GI:w.ownsRow (O+1) d_ 3 ov Lo.length (Lo.flatMap eF)
 MH:∀p∈Lo,w.ownsRow (s0+2) aU 1 p.2 p.1.map.length (ints p.1.map)
 res:Is w (s0+1) #[.slice none 0 0,.slice none 0 0] gX
 out:Is w O #[ov,x] gX
structure UR (O:Nat) (r x:Value) (L:List (fM×Value)) (j:Nat) (Lo:List (aF×Value)):Prop where
 rO:∀k,r.ownBlock=some k→k<O
 xO:∀k,x.ownBlock=some k→k<O
 mO:∀p∈L,∀k,p.2.ownBlock=some k→k<O
 oO:∀p∈Lo,∀k,p.2.ownBlock=some k→k<O
 ra:∀p∈L,uS r p.2
 xa:∀p∈L,uS x p.2
 la:L.Pairwise fun p q=>uS p.2 q.2
 oa:∀p∈Lo,∀q∈L.drop j,uS p.2 q.2
theorem sS {w w':World} {B n s:Nat} {e:TypeId} {v:Value} {xs:List Value} {row:Option Nat} (ho:w.ownsRow B e s v n xs) (hg:w.grownBy w' row) (hr:∀k,row=some k→v.ownBlock≠some k):w'.ownsRow B e s v n xs:=by
 refine ho.kept hg ?_;cases hk:v.ownBlock with
 | none=>exact .inl rfl
 | some k=>exact .inr fun e1=>hr k e1.symm hk
theorem ze.keep {s0 O j:Nat} {r x ov:Value} {L:List (fM×Value)} {Y:List Nat} {Lo:List (aF×Value)} {w w':World} {row:Option Nat} (h:ze s0 O r x L Y j ov Lo w) (hg:w.grownBy w' row)
 (hr:∀k,row=some k→r.ownBlock≠some k∧x.ownBlock≠some k∧ov.ownBlock≠some k∧(∀p∈L.drop j,p.2.ownBlock≠some k)∧(∀p∈Lo,p.2.ownBlock≠some k)∧k≠s0+1∧k≠O):ze s0 O r x L Y j ov Lo w':=
 ⟨sS h.rows hg fun k e=>(hr k e).1,fun p hp=>sS (h.maps p hp) hg fun k e=>(hr k e).2.2.2.1 p hp,sS h.xs hg fun k e=>(hr k e).2.1,sS h.GI hg fun k e=>(hr k e).2.2.1,
   fun p hp=>sS (h.MH p hp) hg fun k e=>(hr k e).2.2.2.2.1 p hp,h.res.grown hg fun e=>(hr _ e).2.2.2.2.2.1 rfl,h.out.grown hg fun e=>(hr _ e).2.2.2.2.2.2 rfl⟩
theorem ze.ext {s0 O j:Nat} {r x ov:Value} {L:List (fM×Value)} {Y:List Nat} {Lo:List (aF×Value)} {w w':World} (h:ze s0 O r x L Y j ov Lo w) (hb:Below w.heap.size w w'):ze s0 O r x L Y j ov Lo w':=
 ⟨aG h.rows hb,fun p hp=>aG (h.maps p hp) hb,aG h.xs hb,aG h.GI hb,fun p hp=>aG (h.MH p hp) hb,h.res.mono hb,h.out.mono hb⟩
theorem ze.next {s0 O j:Nat} {r x ov:Value} {L:List (fM×Value)} {Y:List Nat} {Lo:List (aF×Value)} {w:World} (h:ze s0 O r x L Y j ov Lo w):ze s0 O r x L Y (j+1) ov Lo w:=
 ⟨h.rows,fun p hp=>h.maps p (by rw [←List.drop_drop] at hp;exact List.mem_of_mem_drop hp),h.xs,h.GI,h.MH,h.res,h.out⟩
theorem UR.next {O j:Nat} {r x:Value} {L:List (fM×Value)} {Lo:List (aF×Value)} (h:UR O r x L j Lo):UR O r x L (j+1) Lo:=
 ⟨h.rO,h.xO,h.mO,h.oO,h.ra,h.xa,h.la,fun p hp q hq=>h.oa p hp q (by rw [←List.drop_drop] at hq;exact List.mem_of_mem_drop hq)⟩
theorem ze.Wx {s0 O j:Nat} {r x ov:Value} {L:List (fM×Value)} {Y:List Nat} {Lo:List (aF×Value)} {w w':World} {g:Nat} (h:ze s0 O r x L Y (j+1) ov Lo w) (hc:UR O r x L j Lo) (hj:j<L.length) (Wy:L[j].2.ownBlock=some g)
 (hg0:s0+2≤g) (hg:w.grownBy w' (some g)):ze s0 O r x L Y (j+1) ov Lo w':=by
 have hm:=List.getElem_mem hj;refine h.keep hg fun k e=>?_;cases e;have hgO:=hc.mO _ hm g Wy;refine ⟨fun e=>hc.ra _ hm g e Wy,fun e=>hc.xa _ hm g e Wy,fun e=>by have:=(h.GI.lt g e).1;omega,fun p hp e=>?_,fun p hp e=>?_,by omega,by omega⟩
 ·have hd:L.drop j=L[j]::L.drop (j+1):=List.drop_eq_getElem_cons hj;have hp2:=List.Pairwise.sublist (List.drop_sublist j L) hc.la;rw [hd,List.pairwise_cons] at hp2;exact hp2.1 p hp g Wy e
 ·exact hc.oa p hp L[j] (by rw [List.drop_eq_getElem_cons hj];exact List.mem_cons_self ..) g e Wy
def Dv (x:Int):Nat:=jG (x % 2097152).toNat
def qN (m:List Int) (k:Nat):List Int:=(m.take k).map (fun x=>((Dv x:Nat):Int))++m.drop k
theorem MI (m:List Int):qN m 0=m:=by simp [qN]
theorem GJ (m:List Int) (k:Nat):(qN m k).length=m.length:=by simp [qN];omega
theorem TW {m:List Int} {k:Nat} (hk:k<m.length):(qN m k)[k]? = some m[k]:=by
 unfold qN;rw [List.getElem?_append_right (by simp;omega),List.length_map,List.length_take,Nat.min_eq_left (Nat.le_of_lt hk),Nat.sub_self,List.drop_eq_getElem_cons hk];rfl
theorem Qg {m:List Int} {k:Nat} (hk:k<m.length):(qN m k).set k ((Dv m[k]:Nat):Int)=qN m (k+1):=by
 unfold qN;rw [List.set_append_right _ _ (by simp;omega),List.length_map,List.length_take,Nat.min_eq_left (Nat.le_of_lt hk),Nat.sub_self,List.drop_eq_getElem_cons hk,List.set_cons_zero,List.take_succ_eq_append_getElem hk,List.map_append,List.map_singleton,List.append_assoc];rfl
theorem Qh (m:List Int):bH (qN m m.length)=ints (m.map Dv):=by
 unfold qN;rw [List.take_length,List.drop_length,List.append_nil];simp [bH,ints]
theorem Dw (x:Int):aX (Dv x):=ou
theorem Qi {w:World} {B n:Nat} {e:TypeId} {g cap:Nat} {xs:List Value} (h:w.ownsRow B e 1 (.slice (some ⟨g,0,none⟩) n cap) n xs) {k:Nat} (hk:k≤n):w.ownsRow B e 1 (.slice (some ⟨g,0,none⟩) k cap) k (xs.take k):=by
 obtain ⟨h1,h2⟩:=h;rcases h2 with ⟨h2,_⟩|⟨g',cap',cur,h2,hB,hh,hc,hm,hs,ht⟩
 ·cases h2
 ·cases h2;refine ⟨by rw [List.length_take];omega,.inr ⟨g,cap,cur,rfl,hB,hh,by omega,hm,hs,?_⟩⟩;rw [←ht,List.take_take];congr 1;omega
theorem uQ.Kr {w:World} {B B':Nat} {v:Value} {N:List (aF×Value)} (h:w.ownsRow B d_ 3 v N.length (N.flatMap eF)) (hm:∀p∈N,w.ownsRow B' aU 1 p.2 p.1.map.length (ints p.1.map)):uQ w v (N.map Prod.fst):=by
 obtain ⟨a,cap,rfl,hc,_⟩:=az h;refine ⟨a,cap,by rw [List.length_map],by rw [List.length_map];exact hc,fun i hi=>?_⟩;have hi':i<N.length:=by simpa using hi
 obtain ⟨g,cap',e1,_,hg,_,hx⟩:=cB (f:=eF) (fun _=>rfl) rfl h hi';cases e1;have h0:=(hx 0 (by omega)).1;have h1:=(hx 1 (by omega)).1;have h2:=(hx 2 (by omega)).1;refine ⟨g,0,N[i].2,rfl,hg,?_,?_,?_,?_⟩
 ·rw [List.getElem_map,Nat.zero_add];exact h0
 ·rw [List.getElem_map,Nat.zero_add];exact h1
 ·rw [Nat.zero_add];exact h2
 ·rw [List.getElem_map];exact (Sl.aT (hm _ (List.getElem_mem hi'))).any
theorem iw.Kr {w:World} {B B' B2:Nat} {v x:Value} {N:List (aF×Value)} {Y:List Nat} (h:w.ownsRow B d_ 3 v N.length (N.flatMap eF)) (hm:∀p∈N,w.ownsRow B' aU 1 p.2 p.1.map.length (ints p.1.map)) (hx:w.ownsRow B2 aU 1 x Y.length (ints Y)) :
 iw w (.agg #[v,x]) (N.map Prod.fst) Y:=⟨v,x,rfl,uQ.Kr h hm,(Sl.aT hx).any⟩
theorem ze.turn {s0 O j:Nat} {r x ov nv:Value} {L:List (fM×Value)} {Y:List Nat} {Lo N:List (aF×Value)} {w:World} (h:ze s0 O r x L Y j ov Lo w) (hc:UR O r x L j Lo) (hs:s0+1<O)
 (hn:w.ownsRow (O+1) d_ 3 nv N.length (N.flatMap eF)) (hm:∀p∈N,w.ownsRow (s0+2) aU 1 p.2 p.1.map.length (ints p.1.map)) (hO:∀p∈N,∀k,p.2.ownBlock=some k→k<O) :
 ze s0 O r x L Y j nv N ((w.setCell ⟨O,0,none⟩ nv).setCell ⟨O,1,none⟩ x):=by
 have P:∀{B n s:Nat} {e:TypeId} {v:Value} {xs:List Value},w.ownsRow B e s v n xs→v.ownBlock≠some O→((w.setCell ⟨O,0,none⟩ nv).setCell ⟨O,1,none⟩ x).ownsRow B e s v n xs:=fun ho hk=>bf (bf ho hk _ _) hk _ _
 refine ⟨P h.rows fun e=>by have:=hc.rO O e;omega,fun p hp=>P (h.maps p hp) fun e=>by have:=hc.mO p (List.mem_of_mem_drop hp) O e;omega,P h.xs fun e=>by have:=hc.xO O e;omega,
  P hn (aP hn (by omega)),fun p hp=>P (hm p hp) fun e=>by have:=hO p hp O e;omega,(h.res.put (by omega) _).put (by omega) _,(h.out.set 0 nv).set 1 x⟩
theorem MJ (n:Int):bits .and .i64 n 255=n % 256:=by
 have h127:(BitVec.ofInt 64 255).toNat=2 ^ 8-1:=by decide
 have key:(BitVec.ofInt 64 n &&& BitVec.ofInt 64 255).toNat=(n % ((2 ^ 64:Nat):Int)).toNat % 2 ^ 8:=by
  rw [BitVec.toNat_and,BitVec.toNat_ofInt,h127,Nat.and_two_pow_sub_one_eq_mod]
 show IntKind.i64.wrap ((BitVec.ofInt 64 n &&& BitVec.ofInt 64 255).toNat:Nat)=n % 256;rw [key,IntKind.wrap_i64];omega
theorem Kt:(⟨#[]⟩:ByteArray).toList.isEmpty=true:=by rw [ByteArray.toList_eq];rfl
theorem GK {s:ByteArray} (h:s≠⟨#[]⟩):s.toList.isEmpty=false:=by
 rw [ByteArray.toList_eq];cases e:s.data.toList with
 | nil=>exact absurd (ByteArray.ext (by simpa using e)) h
 | cons a l=>rfl
theorem GL {w:World} {B n s cap:Nat} {e:TypeId} {a:Option Addr} {xs:List Value} (h:w.ownsRow B e s (.slice a n cap) n xs) (h0:0<n):∃g,a=some ⟨g,0,none⟩∧B≤g∧g<w.heap.size:=by
 rcases h.2 with ⟨h1,h2⟩|⟨g,cap',cur,h1,hB,hh,_⟩
 ·omega
 ·cases h1;exact ⟨g,rfl,hB,block_lt hh⟩
theorem Qj {w:World} {v:Value} {T:List fM} {X:List Int} (h:JC w v T X) :
 Calls Tryz.prog 65 #[v] w fun e w'=>∃r T' X',e=.returned r∧iw w' r T' X'∧bE T' X'∧(∀q∈T',0<q.cls∨q.map≠[])∧T'.length≤20∧X'.length≤30∧(∀y∈X',aX y)∧Below w.heap.size w w':=by
 obtain ⟨v1,v2,rfl,⟨a,cap,rfl,hcap,hx⟩,h2⟩:=id h;obtain ⟨nx,hnx⟩:∃n,n=X.length:=⟨_,rfl⟩;obtain ⟨ax,cx,rfl,_,_⟩:=bD.GH h2 hnx;obtain ⟨n0,hn0⟩:∃n,n=T.length:=⟨_,rfl⟩;rw [←hn0] at h ⊢;obtain ⟨W1,hW1⟩:=af (w.alloc (.cells #[.slice a n0 cap,.slice ax nx cx] gX));obtain ⟨W2,hW2⟩:=af (W1.alloc (.cells #[.slice none 0 0,.slice none 0 0] gX));have e1:W1.heap.size=w.heap.size+1:=by rw [hW1];simp
 have e2:W2.heap.size=w.heap.size+2:=by rw [hW2];simp [e1]
 have b1:Below w.heap.size w W1:=by rw [hW1];exact ai _
 have b2:Below W1.heap.size W1 W2:=by rw [hW2];exact ai _
 have i1:Is W2 w.heap.size #[.slice a n0 cap,.slice ax nx cx] gX:=by
  have:Is W1 w.heap.size #[.slice a n0 cap,.slice ax nx cx] gX:=by rw [hW1];exact Is.new _ _ _
  exact this.mono b2
 have i2:Is W2 (w.heap.size+1) #[.slice none 0 0,.slice none 0 0] gX:=by rw [hW2];exact Is.new' _ _ _ _ e1.symm
 have b0:=ag b1 b2;have FE:=ae (Wq (h.mono b0));rw [hW1] at hW2;rw [e2] at FE;have d0:=i1.at 0 rfl;have d1:=i1.at 1 rfl;clear h hx hcap hn0 hnx h2 b1 b2 e1 hW1;go_enter Tryz.func65,Tryz.ntmps65;go_wp2_with fail;rw [←hW2];clear hW2;go_wp2_with fail;refine FE.out.mono ?_;rintro e W3 ⟨r,x,L,Y,rfl,hF,hxo,hxa,aee,aef,Cm,hb3⟩;rw [←e2] at hb3;obtain ⟨ar,cr,rfl,_,_⟩:=az hF.rows;obtain ⟨GM,GN,rfl,_,_⟩:=az hxo;obtain ⟨n,hn⟩:=af L.length;obtain ⟨ny,hny⟩:∃n,n=Y.length:=⟨_,rfl⟩;rw [←hn,←hny];have HN:=ae hn;have HNY:=ae hny;obtain ⟨O,hO⟩:=af W3.heap.size;have hO2:w.heap.size+2≤O:=by rw [hO,←e2];exact hb3.size
 have j1:=i1.mono hb3;have j2:=i2.mono hb3;have c0:=j1.at 0 rfl;have f0:=j1.frozen 0;have c1:=fun u=>(j1.set 0 u).at 1 rfl;have f1:=fun u=>(j1.set 0 u).frozen 1;have J:=(j1.set 0 (.slice ar n cr)).set 1 (.slice GM ny GN);obtain ⟨W4,Wz⟩:=af ((W3.setCell ⟨w.heap.size,0,none⟩ (.slice ar n cr)).setCell ⟨w.heap.size,1,none⟩ (.slice GM ny GN));have s4:W4.heap.size=O:=by rw [Wz,hO];simp
 have g4:∀{B m s:Nat} {e:TypeId} {v:Value} {xs:List Value},w.heap.size<B→W3.ownsRow B e s v m xs→W4.ownsRow B e s v m xs:=by
  intro B m s e v xs hB ho;rw [Wz];exact bf (bf ho (aP ho hB) _ _) (aP ho hB) _ _
 have J4:Is W4 w.heap.size #[.slice ar n cr,.slice GM ny GN] gX:=by rw [Wz];exact J
 have K4:Is W4 (w.heap.size+1) #[.slice none 0 0,.slice none 0 0] gX:=by rw [Wz];exact (j2.put (by omega) _).put (by omega) _
 have hB4:Below w.heap.size w W4:=by rw [Wz];exact aj (aj (b0.trans (hb3.mono b0.size)) (Nat.le_refl _)) (Nat.le_refl _)
 obtain ⟨W5,MF⟩:=af (W4.alloc (.cells #[.slice none 0 0,.slice GM ny GN] gX));have s5:W5.heap.size=O+1:=by rw [MF];simp [s4]
 have b5:Below W4.heap.size W4 W5:=by rw [MF];exact ai _
 have hS0:ze w.heap.size O (.slice ar n cr) (.slice GM ny GN) L Y 0 (.slice none 0 0) [] W5:=by
  rw [hn,hny];exact ⟨aG (g4 (by omega) (hn▸hF.rows)) b5,fun p hp=>aG (g4 (by omega) (hF.maps p (List.mem_of_mem_drop hp))) b5,aG (g4 (by omega) (hny▸hxo)) b5,World.ownsRow_nil _ _ _ _,by simp,K4.mono b5,by rw [MF,←hny];exact Is.new' _ _ _ _ s4.symm⟩
 have hC0:UR O (.slice ar n cr) (.slice GM ny GN) L 0 []:=by
  rw [hn,hny,hO];exact ⟨fun k e=>(hF.rows.lt k (by rw [←hn];rw [←hn] at e;exact e)).2,fun k e=>(hxo.lt k (by rw [←hny];rw [←hny] at e;exact e)).2,fun p hp k e=>((hF.maps p hp).lt k e).2,by simp,fun p hp=>by have:=hF.kY p hp;rw [←hn] at this ⊢;exact this,fun p hp=>by have:=hxa p hp;rw [←hny] at this ⊢;exact this,hF.apart,by simp⟩
 have DY:=hF.four;have qQ:Below w.heap.size w W5:=hB4.trans (b5.mono (by omega));have hd0:=(J4.mono b5).at 0 rfl;have q0:=J4.at 1 rfl;have HM4:=ae DY;have G8:=ae Cm;rw [←hn] at aee;rw [←hny] at aef;rw [Wz] at MF q0;have aeg:=hd0;rw [MF] at hd0;have HO:=ae hO;have HW:=ae MF;clear hO MF hF hxo hxa j1 j2 i1 i2 b0 hb3 g4 J J4 K4 hB4 b5 DY Cm hn hny FE d0 d1 s4 Wz e2;go_wp2_with fail;rw [←HW.out,←HO.out];clear hd0 aeg HW q0 c0 c1 f0 f1;go_loopw [19] (fun iv wr=>∃(j:Nat) (ov:Value) (Lo:List (aF×Value)),j≤n∧iv=.int .i64 j∧ze w.heap.size O (.slice ar n cr) (.slice GM ny GN) L Y j ov Lo wr∧UR O (.slice ar n cr) (.slice GM ny GN) L j Lo∧bE (Lo.map Prod.fst) Y∧(∀p∈Lo,0<p.1.cls∨p.1.map≠[])∧Lo.length≤j∧O+1≤wr.heap.size∧Below w.heap.size w wr) (fun iv _=>n-(intOf iv).toNat)
 case atStart=>exact ⟨0,_,[],Nat.zero_le _,rfl,hS0,hC0,bE.nil _,by simp,Nat.le_refl _,Nat.le_of_eq s5.symm,qQ⟩
 case round=>
  clear hS0 hC0 s5 qQ;obtain ⟨j,ov,Lo,hj,rfl,hS,hC,hV,xG,hlo,hsz,hB⟩:=hrel;by_cases hjn:j<n
  ·have hjl:j<L.length:=by have:=HN.out;omega
   obtain ⟨gr,ajI,er,_,hgr,_,hxr⟩:=cB (f:=j4) (fun _=>rfl) rfl hS.rows hjl;obtain rfl:ar=some ⟨gr,0,none⟩:=by injection er
   have c0:wr.cell? ⟨gr,j*3,none⟩=some (.int .i64 L[j].1.code):=(hxr 0 (by omega)).1;have c1:wr.cell? ⟨gr,j*3+1,none⟩=some (.int .i64 L[j].1.cls):=(hxr 1 (by omega)).1;have c2:wr.cell? ⟨gr,j*3+2,none⟩=some L[j].2:=(hxr 2 (by omega)).1;have hm:=hS.maps L[j] (by rw [List.drop_eq_getElem_cons hjl];exact List.mem_cons_self ..);have DY:=HM4.out L[j] (List.getElem_mem hjl);have hmO:=hC.mO L[j] (List.getElem_mem hjl);have Vh:=ae (fun (w1 w2:World) (g:Nat) (h:ze w.heap.size O (.slice (some ⟨gr,0,none⟩) n cr) (.slice GM ny GN) L Y (j+1) ov Lo w1) (e:L[j].2.ownBlock=some g) (h0:w.heap.size+2≤g) (hg:w1.grownBy w2 (some g))=>ze.Wx h hC hjl e h0 hg)
   have HOA:=ae (show ∀q∈L.drop (j+1),uS L[j].2 q.2 from by
    have hd:L.drop j=L[j]::L.drop (j+1):=List.drop_eq_getElem_cons hjl;have hp2:=List.Pairwise.sublist (List.drop_sublist j L) hC.la;rw [hd,List.pairwise_cons] at hp2
    exact hp2.1)
   have hS1:=ae hS.next;have y8:=ae hC.next;have HV:=ae hV;have MK:=ae xG;generalize L[j]=p at *;obtain ⟨q,mv⟩:=p;dsimp only at *;obtain ⟨nm,hnm⟩:=af q.map.length;have qh:=ae hnm;rw [←hnm] at hm DY;obtain ⟨am,cm,rfl,hcm,_⟩:=az hm;have CH0:=ae (fun W=>iL (w:=W) q.code);obtain ⟨c,hc⟩:=af (Dv q.code);have hcc:aX c:=by rw [hc];exact Dw _
   have hc9:=hcc.1;have M9:=ae hcc;have CH1:=ae (show ∀W,Calls Tryz.prog 30 #[.int .i64 q.code] W fun e w'=>e=.returned (.int .i32 c)∧w'=W from fun W=>by rw [hc];exact CH0.out W);obtain ⟨y,hy⟩:∃y:Nat,y=(q.cls % 256).toNat:=⟨_,rfl⟩;have hy1:bits BinOp.and IntKind.i64 q.cls 255=(y:Int):=by rw [MJ];omega
   have hy2:y<256:=by omega
   obtain ⟨cl,hcl⟩:∃cl:Nat,cl=y % 255:=⟨_,rfl⟩;have aeh:cl<255:=by omega
   have hz:(y:Int) % 255=(cl:Int):=by omega
   have b0:=ai (w:=wr) (.cells #[.int .i64 c,.int .i64 cl,.slice am nm cm] d_);clear hxr er hS hC hV xG hnm hc hcc CH0 hy hcl;obtain ⟨bz,zn⟩:∃bz,decide ((2:Int)<(nm:Int))=bz:=⟨_,rfl⟩;have Yw:=ae zn;go_wp2_with fail;refine (CH1.out _).mono ?_;rintro e w6 ⟨rfl,rfl⟩;go_upto_if 36 with fail;clear zn;go_cut [] from 37 to 40 (fun wx=>∃n2 m2,n2≤2∧m2.length=n2∧wx=wr.alloc (.cells #[.int .i64 c,.int .i64 cl,.slice am n2 cm] d_)∧wr.ownsRow (w.heap.size+2) aU 1 (.slice am n2 cm) n2 (bH m2))
   case first=>
    cases bz with
    | true=>
      have LM:2<nm:=by have:=of_decide_eq_true Yw.out;omega
      obtain ⟨g,rfl,hg0,hg1⟩:=GL hm (by omega);have hm2:wr.ownsRow (w.heap.size+2) aU 1 (.slice (some ⟨g,0,none⟩) 2 cm) 2 (bH (q.map.take 2)):=by
       have:=Qi hm (k:=2) (by omega);simpa [bH,List.map_take] using this
      have zT:=ae (show (q.map.take 2).length=2 by rw [List.length_take];have:=qh.out;omega);have hm2:=ae hm2;go_wp2_with fail;go_meet;exact ⟨2,_,Nat.le_refl _,zT.out,rfl,hm2.out⟩
    | false=>
      have LM:¬2<nm:=by have:=of_decide_eq_false Yw.out;omega
      go_wp2_with fail;go_meet;exact ⟨nm,q.map,by omega,qh.out.symm,rfl,hm⟩
   case rest=>
    obtain ⟨n2,m2,hn2,aaf,rfl,hm2⟩:=hcut;have zT:=ae aaf;clear hm aaf DY;obtain ⟨wo,jf⟩:∃w',w'=wr:=⟨_,rfl⟩;subst jf;go_wp2_with fail;clear hz hy1 hy2 c0 c1 c2 b0;have hb0:=ai (w:=wo) (.cells #[.int .i64 c,.int .i64 cl,.slice am n2 cm] d_);have hi0:=Is.new wo #[.int .i64 c,.int .i64 cl,.slice am n2 cm] d_;have HM:=ae hm2;clear hm2;go_loopw [44] (fun kv w2=>∃k:Nat,k≤n2∧kv=.int .i64 k∧w2.ownsRow (w.heap.size+2) aU 1 (.slice am n2 cm) n2 (bH (qN m2 k))∧ze w.heap.size O (.slice (some ⟨gr,0,none⟩) n cr) (.slice GM ny GN) L Y (j+1) ov Lo w2∧Is w2 wo.heap.size #[.int .i64 c,.int .i64 cl,.slice am n2 cm] d_∧wo.heap.size+1≤w2.heap.size∧Below w.heap.size w w2) (fun kv _=>n2-(intOf kv).toNat)
    case atStart=>exact ⟨0,Nat.zero_le _,rfl,by rw [MI];exact aG HM.out hb0,hS1.out.ext hb0,hi0,by simp,hB.trans (hb0.mono hB.size)⟩
    case round=>
     clear hb0 hi0 HM hS1;obtain ⟨k,hk,rfl,ho,hS2,hi,hsz2,hB2⟩:=hrel;by_cases hkn:k<n2
     ·obtain ⟨g,rfl,hg0,hg1⟩:=GL ho (by omega);have hgO:g<O:=hmO g rfl;have hkl:k<m2.length:=by have:=zT.out;omega
      obtain ⟨ha1,ha2⟩:=gJ ho (j:=k) (by rw [ed,GJ];exact hkl);have e9:(bH (qN m2 k))[k]? = some (.int .i64 m2[k]):=by simp [bH,TW hkl]
      rw [List.getElem?_eq_getElem (by rw [ed,GJ];exact hkl),Option.some.injEq] at e9;rw [e9] at ha1;clear e9;have HST:=ae (fun (u:Value)=>ho.stored k u);have ES:=ae (show (bH (qN m2 k)).set k (.int .i64 ((Dv m2[k]:Nat):Int))=bH (qN m2 (k+1)) by rw [←Qg hkl];simp [bH,List.map_set]);have CH2:=ae (show ∀W,Calls Tryz.prog 30 #[.int .i64 m2[k]] W fun e w'=>e=.returned (.int .i32 (Dv m2[k]))∧w'=W from fun W=>iL _);have hd9:=(Dw m2[k]).1;have hS3:=ae hS2;have h2:=hi.at 2 rfl;have k1:=Gr.cell (ah wr) h2;have k2:=Gr.cell (ah wr) ha1;generalize m2[k]=z at *;generalize Dv z=d at *;clear ho hS2;go_wp2_with fail;refine aD #[true,true,true,true,true,true,true,true,true,true,true,false] 11 1 mixed (by rfl) ?_;refine ay [0,1,2,3,4,5,6,7] 3 rfl (by kernel_rfl) ?_
      iterate 8 (refine aC rfl ?_;go_big_quiet_step (rfl))
      refine ak ?_;refine aL 8 (by kernel_rfl) rfl ?_;go_wp2_with fail;refine (CH2.out _).mono ?_;rintro e w7 ⟨rfl,rfl⟩;go_wp2_with fail;refine aH (Below.refl _ _) ?_;refine ay [9,10] 0 rfl (by kernel_rfl) ?_
      iterate 2 (refine aC rfl ?_;go_big_quiet_step (rfl))
      refine ak ?_;refine aI [11] (by kernel_rfl) ?_;refine tail_cons rfl ?_;go_wp2_with fail;refine tail_nil ?_;go_wp2;go_roundw
      case rel=>
       have Wy:=(HST.out (.int .i64 d)).2;refine ⟨k+1,by omega,rfl,?_,?_,?_,?_,?_⟩
       ·have:=(HST.out (.int .i64 d)).1;rw [ES.out] at this;exact aG this (ah _)
       ·exact ze.ext (Vh.out _ _ g hS3.out rfl hg0 Wy) (ah _)
       ·exact (hi.put (by omega) _).mono (ah _)
       ·simp;omega
       ·exact (aj hB2 (by omega)).drew
      case measure=>simp [intOf];omega
     ·obtain rfl:n2=k:=by omega
      skip
      obtain ⟨wm,jf⟩:∃w',w'=wr:=⟨_,rfl⟩;subst jf;obtain ⟨M,hMe⟩:=af (m2.map Dv);have TY:M.length=n2:=by rw [hMe,List.length_map];exact zT.out
      have RS:=ae (show ∀x∈M,aX x from fun x hx=>by rw [hMe] at hx;obtain ⟨z,_,rfl⟩:=List.mem_map.1 hx;exact Dw z);have hMo:wm.ownsRow (w.heap.size+2) aU 1 (.slice am n2 cm) M.length (ints M):=by
       have e:=Qh m2;rw [zT.out,←hMe] at e;rw [e] at ho;rw [TY];exact ho
      have DZ:=ae TY;have h0:=hi.at 0 rfl;have h1:=hi.at 1 rfl;have h2:=hi.at 2 rfl;clear ho hMe TY;go_upto_region 15 with fail;go_cut [67] from 59 to 67 (fun tv wx=>∃tb:Bool,tv=.bool tb∧(tb=false→0<cl∨M≠[])∧wm=wx)
      case first=>
       by_cases hcl0:cl=0
       ·have zc:((cl:Int)==0)=true:=by simp;omega
        by_cases hn0:n2=0
        ·have zn0:((n2:Int)==0)=true:=by simp;omega
         go_wp2_with fail;go_meet;exact ⟨true,rfl,(fun h=>by cases h),rfl⟩
        ·have zn0:((n2:Int)==0)=false:=by simp;omega
         have HS:=ae (show 0<cl∨M≠[] from .inr fun e=>by have:=DZ.out;rw [e] at this;simp at this;omega);go_wp2_with fail;go_meet;exact ⟨false,rfl,fun _=>HS.out,rfl⟩
       ·have zc:((cl:Int)==0)=false:=by simp;omega
        go_wp2_with fail;go_meet;exact ⟨false,rfl,fun _=>.inl (by omega),rfl⟩
      case rest=>
       obtain ⟨tb,rfl,htb,rfl⟩:=hcut;have HTB:=ae htb;clear htb;cases tb with
       | true=>
         have HS2:=ae hS2;clear hS2 hMo hi;go_wp2;go_roundw
         case rel=>exact ⟨j+1,ov,Lo,by omega,rfl,HS2.out,y8.out,HV.out,MK.out,by omega,by omega,hB2⟩
         case measure=>simp [intOf];omega
       | false=>
         have HS:=ae (HTB.out rfl);have x1:=hS2.out.at 1 rfl;have x0:=hS2.out.at 0 rfl;obtain ⟨UT,WA,rfl,_,_⟩:=az hS2.GI;obtain ⟨P,hP⟩:∃P:aF×Value,P=(⟨c,cl,M⟩,.slice am n2 cm):=⟨_,rfl⟩;have HP:=ae hP;have HPO:=ae (show ∀k,P.2.ownBlock=some k→k<O from fun k e=>hmO k (by rw [hP] at e;cases am <;> exact e));have HPA:=ae (show ∀q∈L.drop (j+1),uS P.2 q.2 from fun q hq k e=>HOA.out q hq k (by rw [hP] at e;cases am <;> exact e));have HPF:=ae (show aX P.1.code∧P.1.cls<255∧P.1.map.length≤2∧∀x∈P.1.map,aX x from by rw [hP];exact ⟨M9.out,aeh,by show M.length≤2;have:=DZ.out;omega,RS.out⟩);have HPS:=ae (show 0<P.1.cls∨P.1.map≠[] from by rw [hP];exact HS.out)
         have aag:=ae (fun (Wc:World) (E:Below wm.heap.size wm Wc) (p:aF×Value) (hp:p∈Lo∨p=P)=>(show Wc.ownsRow (w.heap.size+2) aU 1 p.2 p.1.map.length (ints p.1.map) from by
          rcases hp with hp|rfl
          ·exact aG (hS2.MH p hp) E
          ·rw [hP];exact aG hMo E))
         have ael:=hS2.xs
         have CKF:=ae (fun (Wc:World) (N:List (aF×Value)) (nv:Value) (B:Nat) (ho:Wc.ownsRow B d_ 3 nv N.length (N.flatMap eF)) (hE:Below wm.heap.size wm Wc) (hmem:∀p∈N,p∈Lo∨p=P) (hl:N.length≤21)=>
          z_ (iw.Kr ho (fun p hp=>aag.out Wc hE p (hmem p hp)) (aG ael hE)) (by rw [List.length_map];omega) (by have:=HNY.out;omega) (fun r hr=>by
           obtain ⟨p,hp,rfl⟩:=List.mem_map.1 hr;rcases hmem p hp with hp|rfl
           ·obtain ⟨h1,h2,h3,_,h5⟩:=HV.out.fine _ (List.mem_map_of_mem hp);exact ⟨h1,h2,h3,fun x hx=>(h5 x hx).2⟩
           ·exact HPF.out))
         have UU:=ae (fun (Wc:World) (hE:Below wm.heap.size wm Wc) (nv:Value) (N:List (aF×Value)) (ho:Wc.ownsRow (O+1) d_ 3 nv N.length (N.flatMap eF)) (hmem:∀p∈N,p∈Lo∨p=P)=>
          ze.turn (N:=N) (nv:=nv) (hS2.ext hE) y8.out (by omega) ho (fun p hp=>aag.out Wc hE p (hmem p hp)) (fun p hp=>by
           rcases hmem p hp with hp|rfl
           ·exact y8.out.oO p hp
           ·exact HPO.out))
         have HCN:=ae (fun (N:List (aF×Value)) (hmem:∀p∈N,p∈Lo∨p=P)=>(show UR O (.slice (some ⟨gr,0,none⟩) n cr) (.slice GM ny GN) L (j+1) N from
          ⟨y8.out.rO,y8.out.xO,y8.out.mO,fun p hp=>by rcases hmem p hp with hp|rfl;exact y8.out.oO p hp;exact HPO.out,y8.out.ra,y8.out.xa,y8.out.la,fun p hp=>by rcases hmem p hp with hp|rfl;exact y8.out.oa p hp;exact HPA.out⟩))
         have HSN:=ae (fun (N:List (aF×Value)) (hmem:∀p∈N,p∈Lo∨p=P) (p:aF×Value) (hp:p∈N)=>(show 0<p.1.cls∨p.1.map≠[] from by rcases hmem p hp with hp|rfl;exact MK.out p hp;exact HPS.out));have HS2:=ae hS2;have HSO:=ae hS2.out;have HI:=ae hi;have agO:Lo.length≤20:=by omega
         have x2:=aA (ai (w:=wm) (.cells #[.slice none 0 0,.slice GM ny GN] gX)) x0;clear hP hMo hS2 hi;go_wp2_with fail;go_loopw [8,74] (fun dv kv w3=>∃(k:Nat) (dn:Bool) (N:List (aF×Value)) (nv:Value),k≤Lo.length∧dv=.bool dn∧kv=.int .i64 k∧N.length≤k+1∧(dn=false→N.length≤k)∧(∀p∈N,p∈Lo∨p=P)∧w3.ownsRow (wm.heap.size+1) d_ 3 nv N.length (N.flatMap eF)∧Is w3 wm.heap.size #[nv,.slice GM ny GN] gX∧wm.heap.size+1≤w3.heap.size∧Below wm.heap.size wm w3) (fun _ kv _=>Lo.length-(intOf kv).toNat)
         case atStart=>exact ⟨0,false,[],_,Nat.zero_le _,rfl,rfl,by simp,by simp,by simp,World.ownsRow_nil _ _ _ _,Is.new _ _ _,by simp,ai _⟩
         case round=>
          clear x0 x1 x2 h0 h1 h2;obtain ⟨k,dn,N,nv,hk3,rfl,rfl,hNl,hNd,hmem,hno,UW,aah,j_⟩:=hrel;obtain ⟨XJ,XK,rfl,_,_⟩:=az hno;have GQ:=ae hmem;have y0:=(HI.out.mono j_).at 0 rfl;have y1:=(HI.out.mono j_).at 1 rfl;have y2:=(HI.out.mono j_).at 2 rfl;clear hmem;by_cases hko:k<Lo.length
          ·obtain ⟨gv,ajO,ev,_,hgv,_,hxv⟩:=cB (f:=eF) (fun _=>rfl) rfl HS2.out.GI hko;obtain rfl:UT=some ⟨gv,0,none⟩:=by injection ev
           have z0:wr.cell? ⟨gv,k*3,none⟩=some (.int .i64 Lo[k].1.code):=aA j_ (hxv 0 (by omega)).1;have z1:wr.cell? ⟨gv,k*3+1,none⟩=some (.int .i64 Lo[k].1.cls):=aA j_ (hxv 1 (by omega)).1;have z2:wr.cell? ⟨gv,k*3+2,none⟩=some Lo[k].2:=aA j_ (hxv 2 (by omega)).1;obtain ⟨aq,cq,eq2,_,_⟩:=az (HS2.out.MH _ (List.getElem_mem hko));have V_:=ae (List.getElem_mem hko);generalize Lo[k]=Q at *;obtain ⟨qr,qv⟩:=Q;dsimp only at *;obtain ⟨nq,hnq⟩:=af qr.map.length;rw [←hnq] at eq2;subst eq2;have HQ:=ae (show eF (qr,.slice aq nq cq)=[.int .i64 qr.code,.int .i64 qr.cls,.slice aq nq cq] from rfl);have hb1:Below wr.heap.size wr (wr.alloc (.cells #[.int .i64 qr.code,.int .i64 qr.cls,.slice aq nq cq] d_)):=ai _;have iq:Is (wr.alloc (.cells #[.int .i64 qr.code,.int .i64 qr.cls,.slice aq nq cq] d_)) wr.heap.size #[.int .i64 qr.code,.int .i64 qr.cls,.slice aq nq cq] d_:=Is.new _ _ _;have Nc:=ae (aG hno hb1);have XL:=ae (UW.mono hb1);have n0:=XL.out.at 0 rfl;have yy0:=aA hb1 y0;have yy1:=aA hb1 y1;have yy2:=aA hb1 y2;have q0:=iq.at 0 rfl;have q1:=iq.at 1 rfl;have q2:=iq.at 2 rfl;have T9:=ae (ag j_ hb1);have HBN:=ae (Np hno (Nat.le_refl _));clear hxv ev hnq hno UW hb1 iq;cases dn with
           | true=>
             go_wp2_with (at_builtin;refine mY (W:=(wr.alloc (.cells #[.int .i64 qr.code,.int .i64 qr.cls,.slice aq nq cq] d_))) rfl _ _ 22 rfl (wm.heap.size+1) d_ _ 3 40 mF (by decide) (by decide) (by decide) (by decide) (.slice XJ N.length XK) N.length (N.flatMap eF) rfl Nc.out _ (by first|rfl|(simp only [World.size_alloc];rfl)|(simp [World.setCell];rfl)) rfl (by simp [Value.oneCell']) (by omega) ((wr.alloc (.cells #[.int .i64 qr.code,.int .i64 qr.cls,.slice aq nq cq] d_))) (Below.refl _ _) (by first|omega|(simp;omega)) ?_;intro v8 w8 o8 nQ TN hN8;have K8:=XL.out.low nQ (by omega);have cK8:=K8.at 0 rfl;have fK8:=K8.frozen 0;obtain ⟨a8,Dx,rfl,_,_⟩:=az o8);go_roundw
             case rel=>
              have M4:=T9.out.trans (nQ.mono (by omega));refine ⟨k+1,true,N++[(qr,.slice aq nq cq)],_,by omega,rfl,rfl,by simp;omega,by simp,?_,?_,K8.set 0 _,by have:=nQ.size;simp at this ⊢;omega,aj M4 (Nat.le_refl _)⟩
              ·intro p hp;rcases List.mem_append.1 hp with h|h
               ·exact GQ.out p h
               ·rw [List.mem_singleton.1 h];exact .inl V_.out
              ·have:=bf o8 (aP o8 (k:=wm.heap.size) (by omega)) 0 (.slice a8 (N.length+1) Dx);simpa [List.flatMap_append,eF] using this
             case measure=>simp [intOf];omega
           | false=>
             have aem:N.length≤k:=hNd rfl;by_cases hlt:c<qr.code
             ·go_upto_region 24 with (at_builtin;refine mY (W:=(wr.alloc (.cells #[.int .i64 qr.code,.int .i64 qr.cls,.slice aq nq cq] d_))) rfl _ _ 22 rfl (wm.heap.size+1) d_ _ 3 40 mF (by decide) (by decide) (by decide) (by decide) (.slice XJ N.length XK) N.length (N.flatMap eF) rfl Nc.out _ (by first|rfl|(simp only [World.size_alloc];rfl)|(simp [World.setCell];rfl)) rfl (by simp [Value.oneCell']) (by omega) ((wr.alloc (.cells #[.int .i64 qr.code,.int .i64 qr.cls,.slice aq nq cq] d_))) (Below.refl _ _) (by first|omega|(simp;omega)) ?_;intro v8 w8 o8 nQ TN hN8;have K8:=XL.out.low nQ (by omega);have cK8:=K8.at 0 rfl;have fK8:=K8.frozen 0;obtain ⟨a8,Dx,rfl,_,_⟩:=az o8);have O9:=ae (bf o8 (aP o8 (k:=wm.heap.size) (by omega)) 0 (.slice a8 (N.length+1) Dx));have K9:=ae (K8.set 0 (.slice a8 (N.length+1) Dx));have I9:=(((Is.new wr #[.int .i64 qr.code,.int .i64 qr.cls,.slice aq nq cq] d_).grown TN HBN.out)).put (j:=wm.heap.size) (o:=0) (by omega) (.slice a8 (N.length+1) Dx);have r0:=I9.at 0 rfl;have r1:=I9.at 1 rfl;have r2:=I9.at 2 rfl;have r3:=K9.out.at 0 rfl;have aen:=nQ.size;simp only [World.size_alloc] at aen;have HB8:=ae nQ;clear I9 q0 q1 q2 n0 yy0 yy1 yy2 cK8 fK8 K8 o8 TN nQ hN8;go_wp2_with (at_builtin;refine mY (W:=w8.setCell ⟨wm.heap.size,0,none⟩ (.slice a8 (N.length+1) Dx)) rfl _ _ 22 rfl (wm.heap.size+1) d_ _ 3 40 mF (by decide) (by decide) (by decide) (by decide) (.slice a8 (N.length+1) Dx) (N.length+1) (_) rfl O9.out _ (by first|rfl|(simp only [World.size_alloc];rfl)|(simp [World.setCell];rfl)) rfl (by simp [Value.oneCell']) (by omega) (w8.setCell ⟨wm.heap.size,0,none⟩ (.slice a8 (N.length+1) Dx)) (Below.refl _ _) (by first|omega|(simp;omega)) ?_;intro v9x w9x o9x WB ajT ajU;have K9x:=K9.out.low WB (by omega);have ajV:=K9x.at 0 rfl;have ajW:=K9x.frozen 0;obtain ⟨a9x,aeq,rfl,_,_⟩:=az o9x);go_roundw
              case rel=>
               have M4:=T9.out.trans (HB8.out.mono (by omega));refine ⟨k+1,true,N++[P]++[(qr,.slice aq nq cq)],_,by omega,rfl,rfl,by simp;omega,by simp,?_,?_,K9x.set 0 _,by have:=WB.size;simp at this ⊢;omega,aj ((aj M4 (Nat.le_refl _)).trans (WB.mono (by omega))) (Nat.le_refl _)⟩
               ·intro p hp;rcases List.mem_append.1 hp with h|h
                ·rcases List.mem_append.1 h with h|h
                 ·exact GQ.out p h
                 ·rw [List.mem_singleton.1 h];exact .inr rfl
                ·rw [List.mem_singleton.1 h];exact .inl V_.out
               ·have:=bf o9x (aP o9x (k:=wm.heap.size) (by omega)) 0 (.slice a9x (N.length+1+1) aeq);simpa [List.flatMap_append,eF,HP.out] using this
              case measure=>simp [intOf];omega
             ·go_wp2_with (at_builtin;refine mY (W:=(wr.alloc (.cells #[.int .i64 qr.code,.int .i64 qr.cls,.slice aq nq cq] d_))) rfl _ _ 22 rfl (wm.heap.size+1) d_ _ 3 40 mF (by decide) (by decide) (by decide) (by decide) (.slice XJ N.length XK) N.length (N.flatMap eF) rfl Nc.out _ (by first|rfl|(simp only [World.size_alloc];rfl)|(simp [World.setCell];rfl)) rfl (by simp [Value.oneCell']) (by omega) ((wr.alloc (.cells #[.int .i64 qr.code,.int .i64 qr.cls,.slice aq nq cq] d_))) (Below.refl _ _) (by first|omega|(simp;omega)) ?_;intro v8 w8 o8 nQ TN hN8;have K8:=XL.out.low nQ (by omega);have cK8:=K8.at 0 rfl;have fK8:=K8.frozen 0;obtain ⟨a8,Dx,rfl,_,_⟩:=az o8);go_roundw
              case rel=>
               have M4:=T9.out.trans (nQ.mono (by omega));refine ⟨k+1,false,N++[(qr,.slice aq nq cq)],_,by omega,rfl,rfl,by simp;omega,by simp;omega,?_,?_,K8.set 0 _,by have:=nQ.size;simp at this ⊢;omega,aj M4 (Nat.le_refl _)⟩
               ·intro p hp;rcases List.mem_append.1 hp with h|h
                ·exact GQ.out p h
                ·rw [List.mem_singleton.1 h];exact .inl V_.out
               ·have:=bf o8 (aP o8 (k:=wm.heap.size) (by omega)) 0 (.slice a8 (N.length+1) Dx);simpa [List.flatMap_append,eF] using this
              case measure=>simp [intOf];omega
          ·have hke:k=Lo.length:=by omega
           have Nc:=ae hno;have XL:=ae UW;have n0:=UW.at 0 rfl;have n1:=UW.at 1 rfl;have T9:=ae j_;clear hno UW;cases dn with
           | true=>
             have hlen:N.length≤Lo.length+1:=by omega
             clear hke;have CK:=ae (CKF.out wr N (.slice XJ N.length XK) _ Nc.out T9.out GQ.out (by omega));go_wp2_with fail;refine CK.out.mono ?_;rintro e w9 ⟨s,rfl,hs,h9⟩;have HSV:=ae hs;have iO:=(HSO.out.mono T9.out).mono h9;have p0:=iO.at 0 rfl;have p1:=iO.frozen 0;have p2:=fun u=>(iO.set 0 u).at 1 rfl;have p3:=fun u=>(iO.set 0 u).frozen 1;have p4:=aA h9 n0;have p5:=aA h9 n1;have Qk:=ae (T9.out.trans (h9.mono T9.out.size));have hsE:=Qk.out.size;clear hs;by_cases hse:s=⟨#[]⟩
             ·subst hse;have zs:=Kt;go_wp2;go_roundw
              case rel=>
               exact ⟨j+1,_,N,by omega,rfl,UU.out w9 Qk.out (.slice XJ N.length XK) N (aW (aG Nc.out h9) (by omega)) GQ.out,HCN.out N GQ.out,HSV.out (by trivial),HSN.out N GQ.out,by omega,by simp;omega,aj (aj (hB2.trans (Qk.out.mono hB2.size)) (by omega)) (by omega)⟩
              case measure=>simp [intOf];omega
             ·have zs:=GK hse;go_wp2;go_roundw
              case rel=>exact ⟨j+1,_,Lo,by omega,rfl,HS2.out.ext Qk.out,y8.out,HV.out,MK.out,by omega,by omega,hB2.trans (Qk.out.mono hB2.size)⟩
              case measure=>simp [intOf];omega
           | false=>
             have aem:N.length≤k:=hNd rfl;go_upto_region 28 with (at_builtin;refine mY (W:=wr) rfl _ _ 22 rfl (wm.heap.size+1) d_ _ 3 40 mF (by decide) (by decide) (by decide) (by decide) (.slice XJ N.length XK) N.length (N.flatMap eF) rfl Nc.out _ (by first|rfl|(simp only [World.size_alloc];rfl)|(simp [World.setCell];rfl)) rfl (by simp [Value.oneCell']) (by omega) (wr) (Below.refl _ _) (by first|omega|(simp;omega)) ?_;intro v8 w8 o8 nQ TN hN8;have K8:=XL.out.low nQ (by omega);have cK8:=K8.at 0 rfl;have fK8:=K8.frozen 0;obtain ⟨a8,Dx,rfl,_,_⟩:=az o8)
             have zT:=ae (show ∀p∈N++[P],p∈Lo∨p=P from fun p hp=>by
              rcases List.mem_append.1 hp with h|h
              ·exact GQ.out p h
              ·rw [List.mem_singleton.1 h];exact .inr rfl)
             have QA:=ae (show (w8.setCell ⟨wm.heap.size,0,none⟩ (.slice a8 (N.length+1) Dx)).ownsRow (wm.heap.size+1) d_ 3 (.slice a8 (N.length+1) Dx) (N++[P]).length ((N++[P]).flatMap eF) from by
              have:=bf o8 (aP o8 (k:=wm.heap.size) (by omega)) 0 (.slice a8 (N.length+1) Dx)
              simpa [List.flatMap_append,eF,HP.out] using this)
             have HE2:=ae (aj (b:=wm.heap.size) (off:=0) (u:=.slice a8 (N.length+1) Dx) (T9.out.trans (nQ.mono (by omega))) (Nat.le_refl _));have K9:=K8.set 0 (.slice a8 (N.length+1) Dx);have n0:=K9.at 0 rfl;have n1:=K9.at 1 rfl;have hlen:(N++[P]).length≤Lo.length+1:=by simp;omega
             clear hke y0 y1 y2 cK8 fK8 K8 o8 TN nQ hN8 K9;have CK:=ae (CKF.out (w8.setCell ⟨wm.heap.size,0,none⟩ (.slice a8 (N.length+1) Dx)) (N++[P]) (.slice a8 (N.length+1) Dx) _ QA.out HE2.out zT.out (by omega));go_wp2_with fail;refine CK.out.mono ?_;rintro e w9 ⟨s,rfl,hs,h9⟩;have HSV:=ae hs;have iO:=(HSO.out.mono HE2.out).mono h9;have p0:=iO.at 0 rfl;have p1:=iO.frozen 0;have p2:=fun u=>(iO.set 0 u).at 1 rfl;have p3:=fun u=>(iO.set 0 u).frozen 1;have p4:=aA h9 n0;have p5:=aA h9 n1;have Qk:=ae (HE2.out.trans (h9.mono HE2.out.size));have hsE:=Qk.out.size;clear hs;by_cases hse:s=⟨#[]⟩
             ·subst hse;have zs:=Kt;go_wp2;go_roundw
              case rel=>
               exact ⟨j+1,_,(N++[P]),by omega,rfl,UU.out w9 Qk.out (.slice a8 (N.length+1) Dx) (N++[P]) (aW (aG QA.out h9) (by omega)) zT.out,HCN.out (N++[P]) zT.out,HSV.out (by trivial),HSN.out (N++[P]) zT.out,by omega,by simp;omega,aj (aj (hB2.trans (Qk.out.mono hB2.size)) (by omega)) (by omega)⟩
              case measure=>simp [intOf];omega
             ·have zs:=GK hse;go_wp2;go_roundw
              case rel=>exact ⟨j+1,_,Lo,by omega,rfl,HS2.out.ext Qk.out,y8.out,HV.out,MK.out,by omega,by omega,hB2.trans (Qk.out.mono hB2.size)⟩
              case measure=>simp [intOf];omega
  ·have hnj:n=j:=by omega
   obtain ⟨UT,WA,rfl,_,_⟩:=az hS.GI;have o0:=hS.out.at 0 rfl;have o1:=hS.out.at 1 rfl;have r0:=hS.res.at 0 rfl;have r1:=hS.res.frozen 0;have r2:=fun u=>(hS.res.set 0 u).at 1 rfl;have r3:=fun u=>(hS.res.set 0 u).frozen 1;have K:=(hS.res.set 0 (.slice UT Lo.length WA)).set 1 (.slice GM ny GN);have v0:=K.at 0 rfl;have v1:=K.at 1 rfl;have PP:∀{B m s:Nat} {e:TypeId} {v:Value} {xs:List Value},w.heap.size+1<B→wr.ownsRow B e s v m xs→((wr.setCell ⟨w.heap.size+1,0,none⟩ (.slice UT Lo.length WA)).setCell ⟨w.heap.size+1,1,none⟩ (.slice GM ny GN)).ownsRow B e s v m xs:=fun hB ho=>bf (bf ho (aP ho hB) _ _) (aP ho hB) _ _;have HT:=ae (iw.Kr (PP (by omega) hS.GI) (fun p hp=>PP (by omega) (hS.MH p hp)) (PP (by omega) hS.xs));have HB:=ae (aj (aj hB (b:=w.heap.size+1) (off:=0) (u:=.slice UT Lo.length WA) (by omega)) (b:=w.heap.size+1) (off:=1) (u:=.slice GM ny GN) (by omega));have HV:=ae hV;have MK:=ae xG;clear K PP hS hC hV xG hB;go_wp2
   (try simp only [Exit.inBlock,Exit.then])
   refine bodyPost_ret (v:=.agg #[.slice UT Lo.length WA,.slice GM ny GN]) (by simp [results,Tryz.results65,go_sem,v0,v1]) rfl ?_;exact ⟨_,Lo.map Prod.fst,Y,rfl,HT.out,HV.out,fun q hq=>by obtain ⟨p,hp,rfl⟩:=List.mem_map.1 hq;exact MK.out p hp,by rw [List.length_map];omega,by have:=HNY.out;omega,G8.out,HB.out⟩
end Go.Proofs.YtjidohgiigjifaaGreatDoor
