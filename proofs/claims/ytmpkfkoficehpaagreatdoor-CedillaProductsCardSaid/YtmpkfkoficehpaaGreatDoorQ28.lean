/- CedillaProducts: where a text may be cut apart, it has as many texts that are alike as its two parts multiplied; no condition. -/
import Derived.Test.YtmpkfkoficehpaaGreatDoorQ23
import Derived.Test.YtmpkfkoficehpaaGreatDoorQ27
import Derived.OpenShut
import Derived.DataShut
import Derived.Deep.Slices
import Derived.Deep.Strs
import Derived.SizedLaws
import Derived.Lib.LaidTab
import Derived.Lib.LaidU8
import Derived.ShapedOpen
set_option maxRecDepth 100000
set_option maxHeartbeats 6400000
namespace Go.Proofs.YtmpkfkoficehpaaGreatDoor
open Go.RowKit Go.Cd
theorem WT {w:World} {B n cap:Nat} {a:Option Addr} {l:List Nat} (h:w.ownsRow B bq 1 (.slice a n cap) n (ints l)) (h0:0<n):∃g,a=some ⟨g,0,none⟩∧B≤g∧g<w.heap.size:=by
 rcases h.2 with ⟨h1,h2⟩|⟨g,cap',cur,h1,hB,hh,_⟩
 ·omega
 ·cases h1;exact ⟨g,rfl,hB,block_lt hh⟩
theorem ints_at {l:List Nat} {k:Nat} (hk:k<(ints l).length) {x:Nat} (h:l[k]? = some x):(ints l)[k]=.int .i64 x:=by
 have e:(ints l)[k]? = some (.int .i64 x):=by simp [ints,h]
 rw [List.getElem?_eq_getElem hk] at e;exact Option.some.inj e
theorem Mf {w:World} {v u:Value} {T:List aH} {X L:List Nat} (h:iV w v T X) (hl:bB w u (ints L)) (hmax:T.length<1000000) (TT:L.length<1000000) :
 Calls Tryz.prog 16 #[v,u] w fun e w'=>∃r,e=.returned r∧w'.ownsRow w.heap.size bq 1 r L.length (ints (fZ (ai T) L))∧Below w.heap.size w w':=by
 have HT:=aa h;obtain ⟨a,nt,cap,ax,nx,cx,rfl⟩:=h.shape;obtain ⟨n,hn⟩:=ae L.length;have HL:=aa hl;obtain ⟨al,cl,rfl,_,_⟩:=bB.kD hl hn;have HN:=aa hn;rw [←hn] at TT;have hil:(ints L).length=n:=by rw [bZ,hn]
 obtain ⟨W0,hW⟩:=ae (w.alloc (.cells #[.slice a nt cap,.slice ax nx cx] 25));have hb:Below w.heap.size w W0:=by rw [hW];exact af _
 have i0:Is W0 w.heap.size #[.slice a nt cap,.slice ax nx cx] 25:=by rw [hW];exact Is.new _ _ _
 have hs0:W0.heap.size=w.heap.size+1:=by rw [hW];simp
 have o0:(W0.alloc (.cells #[] bq)).ownsRow (w.heap.size+1) bq 1 (.slice (some ⟨w.heap.size+1,0,none⟩) 0 0) 0 []:=by
  have:=qi W0 bq;rw [hs0] at this;exact this
 have hE1:Below (w.heap.size+1) W0 (W0.alloc (.cells #[] bq)):=by rw [←hs0];exact af _
 have Nf:=aa (HL.out.mono (hb.trans (hE1.mono (by omega))));have hsz1:(W0.alloc (.cells #[] bq)).heap.size=w.heap.size+2:=by simp [hs0]
 obtain ⟨W1,hW1⟩:=ae (W0.alloc (.cells #[] bq));rw [←hW1] at o0 hE1 Nf hsz1;rw [hW] at hW1;have hs1:w.heap.size+1≤W1.heap.size:=by omega
 have HB1:Below w.heap.size w W1:=hb.trans (hE1.mono (by omega));have i1:Is W1 w.heap.size #[.slice a nt cap,.slice ax nx cx] 25:=i0.low hE1 (by omega);have HK:=aa (fun (W:World) (E:Below w.heap.size w W) (c:Nat)=>rf (HT.out.mono E) c hmax);have HI1:=aa i1;have HBB:=aa HB1;have O0:=aa o0;rw [hW1] at HI1 HBB O0 Nf hs1;clear h hl hn o0 hW hsz1 hs0 i0 hE1 i1 HB1 hb hW1 HL;go_enter Tryz.func16,Tryz.ntmps16;go_wp2_with (at_builtin;refine bN rfl _ _ 23 rfl (w.heap.size+1) bq _ 8 jw _ 0 _ rfl O0.out _ (ints L) rfl Nf.out (jU L) (by rw [hil];unfold maxLen;omega) (by rw [hil];omega) hs1 ?_;intro v1 w3 o1 hg1;obtain ⟨a1,xZ,rfl,_,_⟩:=ak o1);have HB3:Below w.heap.size w w3:=HBB.out.grown hg1 HBB.out.size (fun k hk=>by have:=(O0.out.lt k hk).1;omega);have I3:=HI1.out.keep O0.out hg1 (by omega);have o3:w3.ownsRow (w.heap.size+1) bq 1 (.slice a1 n xZ) n (ints L):=by
  have:=o1;rw [hil] at this;simpa using this
 (try simp only [bZ,←HN.out,hil,Nat.zero_add])
 have Bb:=HB3.size;have c3:=I3.at 0 rfl;clear O0 Nf HI1 HBB hg1 o1 hs1;obtain ⟨K,hK⟩:=ae (ai T);rw [←hK] at HK;have HKT:=aa hK;clear hK;go_loopw [6] (fun tv wr=>∃(t:Nat) (O:List Nat),t≤n∧tv=.int .i64 t∧O.length=n∧passes K (n-t) O=passes K n L∧wr.ownsRow (w.heap.size+1) bq 1 (.slice a1 n xZ) n (ints O)∧Is wr w.heap.size #[.slice a nt cap,.slice ax nx cx] 25∧Below w.heap.size w wr) (fun tv _=>n-(intOf tv).toNat)
 case atStart=>exact ⟨0,L,Nat.zero_le _,rfl,HN.out.symm,by simp,o3,I3,HB3⟩
 case round=>
  clear o3 I3 HB3 Bb c3;obtain ⟨t,O,ht,rfl,hOn,hps,ho,hI,hB⟩:=hrel;by_cases htn:t<n
  ·obtain ⟨a0,R0,rfl⟩:∃a0 R0,O=a0::R0:=by
    cases O with
    | nil=>simp at hOn;omega
    | cons a0 R0=>exact ⟨a0,R0,rfl⟩
   have HPS:=aa (show ∀O',O'=pass K (a0::R0)→passes K (n-(t+1)) O'=passes K n L from fun O' e=>by
    rw [←hps,show n-t=(n-(t+1))+1 by omega,e];rfl)
   have UH:=aa (show R0.length+1=n by simpa using hOn);clear hps hOn;have HO:=aa ho;clear ho;go_wp2_with fail;go_loopw [7] (fun iv w2=>∃(i k:Nat) (D R:List Nat) (b:Nat),k+1=i∧i≤n∧iv=.int .i64 i∧D.length=k∧i+R.length=n∧D++Hr K b R=pass K (a0::R0)∧w2.ownsRow (w.heap.size+1) bq 1 (.slice a1 n xZ) n (ints (D++b::R))∧Is w2 w.heap.size #[.slice a nt cap,.slice ax nx cx] 25∧Below w.heap.size w w2) (fun iv _=>n-(intOf iv).toNat)
   case atStart=>exact ⟨1,0,[],R0,a0,rfl,by omega,rfl,rfl,by have:=UH.out;omega,rfl,HO.out,hI,hB⟩
   case round=>
    clear hI hB;obtain ⟨i,k,D,R,b,hki,hin,rfl,hDk,hRn,WU,ho,hI,hB⟩:=hrel;by_cases hin2:i<n
    ·obtain ⟨b2,R2,rfl⟩:∃b2 R2,R=b2::R2:=by
      cases R with
      | nil=>simp at hRn;omega
      | cons b2 R2=>exact ⟨b2,R2,rfl⟩
     obtain ⟨g,rfl,hg0,JG⟩:=WT ho (by omega);have hik:(i:Int)-1=(k:Int):=by omega
     have HBU:=aa WU;have hlen:(ints (D++b::b2::R2)).length=n:=by rw [bZ];simp at hRn ⊢;omega
     obtain ⟨hc1,hf1⟩:=jJ ho (j:=k) (by rw [hlen];omega);obtain ⟨hc2,hf2⟩:=jJ ho (j:=i) (by rw [hlen];omega);rw [ints_at (x:=b) _ (by rw [List.getElem?_append_right (by omega),hDk];simp)] at hc1;rw [ints_at (x:=b2) _ (by rw [List.getElem?_append_right (by omega),hDk,←hki,Nat.add_sub_cancel_left];rfl)] at hc2;have HST:=aa (fun (u u':Value)=>((ho.stored k u).1.stored i u').1);have DI:=aa hDk;have HOO:=aa ho;have HRN:=aa hRn;have hne:k≠i:=by omega
     have CK1:=aa (fun (W:World) (E:Below w.heap.size w W)=>HK.out W E b);have CK2:=aa (fun (W:World) (E:Below w.heap.size w W)=>HK.out W E b2);obtain ⟨ka,hka⟩:=ae (K b);obtain ⟨kb,hkb⟩:=ae (K b2);rw [←hka] at CK1;rw [←hkb] at CK2;have XJ:=aa hka;have HKB:=aa hkb;have t0:=hI.at 0 rfl;have t1:=hI.at 1 rfl;have g0:=Gr.cell (ag wr) t0;have g1:=Gr.cell (ag wr) t1;have g2:=Gr.cell (ag wr) hc1;clear WU hDk hlen hka hkb ho hRn;go_wp2_with fail;refine aF (Array.replicate 8 true) 8 0 mixed (by rfl) ?_;refine ay [0,1,2,3,4,5] 2 rfl (by kernel_rfl) ?_
     iterate 6 (refine aB rfl ?_;go_big_quiet_step (rfl))
     refine az ?_;refine aI 6 (by kernel_rfl) rfl ?_;go_wp2_with fail;refine (CK1.out _ hB.drew).mono ?_;rintro e w5 ⟨rfl,h5⟩;go_wp2_with fail;refine aD h5 ?_;refine ay [7] 0 rfl (by kernel_rfl) ?_
     iterate 1 (refine aB rfl ?_;go_big_quiet_step (rfl))
     refine az ?_;refine aJ [] (by kernel_rfl) ?_;refine tail_nil ?_;have E5:=ah (ag wr) h5;have rZ:=hB.trans (E5.mono hB.size);have t0:=aA E5 t0;have t1:=aA E5 t1;have hc1:=aA E5 hc1;have hc2:=aA E5 hc2;have g0:=Gr.cell (ag w5) t0;have g1:=Gr.cell (ag w5) t1;have g2:=Gr.cell (ag w5) hc2;have adr:=aa (aG HOO.out E5);have hI5:=hI.mono E5;clear HOO hB hI h5 E5 CK1;go_wp2_with fail;refine aF (Array.replicate 7 true) 7 0 mixed (by rfl) ?_;refine ay [0,1,2,3,4] 2 rfl (by kernel_rfl) ?_
     iterate 5 (refine aB rfl ?_;go_big_quiet_step (rfl))
     refine az ?_;refine aI 5 (by kernel_rfl) rfl ?_;go_wp2_with fail;refine (CK2.out _ rZ.drew).mono ?_;rintro e w6 ⟨rfl,h6⟩;go_wp2_with fail;refine aD h6 ?_;refine ay [6] 0 rfl (by kernel_rfl) ?_
     iterate 1 (refine aB rfl ?_;go_big_quiet_step (rfl))
     refine az ?_;refine aJ [] (by kernel_rfl) ?_;refine tail_nil ?_;have E6:=ah (ag w5) h6;have oz:=rZ.trans (E6.mono rZ.size);have hc1:=aA E6 hc1;have hc2:=aA E6 hc2;have Qh:=aG adr.out E6;have hI6:=hI5.mono E6;have hlen:(ints (D++b::b2::R2)).length=n:=by rw [bZ];have:=HRN.out;have:=DI.out;simp at *;omega
     have hf1:=(jJ Qh (j:=k) (by rw [hlen];omega)).2;have hf2:=(jJ Qh (j:=i) (by rw [hlen];omega)).2;have HST:=aa (fun (u u':Value)=>((Qh.stored k u).1.stored i u').1);have HO6:=aa Qh;clear adr rZ hI5 h6 E6 CK2 Qh hlen;by_cases hsw:0<kb∧kb<ka
     ·obtain ⟨s1,s2⟩:=hsw
      have HBN:=aa (show (D++[b2])++Hr K b R2=pass K (a0::R0) by
       rw [←HBU.out,pF,if_pos (by rw [←XJ.out,←HKB.out];exact ⟨s1,s2⟩)];simp)
      go_wp2_with fail;go_region;go_wp2;go_roundw
      case rel=>
       have hl1:(ints (D++b::b2::R2)).set k (.int .i64 b2)=ints (D++b2::b2::R2):=by
        simp only [ints,List.map_append,List.map_cons];rw [List.set_append_right _ _ (by rw [List.length_map,DI.out];exact Nat.le_refl _),List.length_map,DI.out,Nat.sub_self];rfl
       have hl2:(ints (D++b2::b2::R2)).set i (.int .i64 b)=ints ((D++[b2])++b::R2):=by
        simp only [ints,List.map_append,List.map_cons,List.map_nil];rw [List.set_append_right _ _ (by rw [List.length_map,DI.out];omega),List.length_map,DI.out,←hki,Nat.add_sub_cancel_left];simp
       have ho7:=HST.out (.int .i64 b2) (.int .i64 b);rw [hl1,hl2] at ho7;refine ⟨i+1,i,D++[b2],R2,b,rfl,by omega,rfl,by simp [DI.out];omega,by have:=HRN.out;simp at this;omega,HBN.out,aG ho7 (ag _),((hI6.put (by omega) _).put (by omega) _).mono (ag _),(aj (aj oz (by omega)) (by omega)).drew⟩
      case measure=>simp [intOf];omega
     ·have HBN:=aa (show (D++[b])++Hr K b2 R2=pass K (a0::R0) by
       rw [←HBU.out,pF,if_neg (by rw [←XJ.out,←HKB.out];exact hsw)];simp)
      have pG:=aa (show ∃(i' k':Nat) (D' R':List Nat) (b':Nat),k'+1=i'∧i'≤n∧i'=i+1∧D'.length=k'∧i'+R'.length=n∧D'++Hr K b' R'=pass K (a0::R0)∧w6.ownsRow (w.heap.size+1) bq 1 (.slice (some ⟨g,0,none⟩) n xZ) n (ints (D'++b'::R')) from
       ⟨i+1,i,D++[b],R2,b2,rfl,by omega,rfl,by simp [DI.out];omega,by have:=HRN.out;simp at this;omega,HBN.out,by have:=HO6.out;simpa using this⟩)
      by_cases ahy:0<kb
      ·have hkk:¬kb<ka:=fun h=>hsw ⟨ahy,h⟩;clear hsw;go_wp2;go_roundw
       case rel=>
        obtain ⟨i',k',D',R',b',h1,h2,rfl,h4,h5,h6,h7⟩:=pG.out;exact ⟨i+1,k',D',R',b',h1,h2,rfl,h4,h5,h6,h7,hI6,oz⟩
       case measure=>simp [intOf];omega
      ·clear hsw;go_wp2;go_roundw
       case rel=>
        obtain ⟨i',k',D',R',b',h1,h2,rfl,h4,h5,h6,h7⟩:=pG.out;exact ⟨i+1,k',D',R',b',h1,h2,rfl,h4,h5,h6,h7,hI6,oz⟩
       case measure=>simp [intOf];omega
    ·have anR:i=n:=by omega
     have hR0:R=[]:=List.length_eq_zero_iff.1 (by omega);have H8:=aa (HPS.out (D++[b]) (by rw [←WU,hR0];rfl));have HOF:=aa (show wr.ownsRow (w.heap.size+1) bq 1 (.slice a1 n xZ) n (ints (D++[b])) from by rw [hR0] at ho;exact ho);have DI:=aa (show (D++[b]).length=n by simp;omega);clear WU hR0 ho hDk hRn;go_wp2;go_roundw
     case rel=>exact ⟨t+1,D++[b],by omega,rfl,DI.out,H8.out,HOF.out,hI,hB⟩
     case measure=>simp [intOf];omega
  ·have ads:t=n:=by omega
   have HF:=aa (show wr.ownsRow w.heap.size bq 1 (.slice a1 n xZ) L.length (ints (fZ K L)) from by
    rw [ads,Nat.sub_self] at hps;have e1:O=fZ K L:=by rw [←zg,←HN.out,←hps];rfl
    rw [←e1,←HN.out]
    exact aV ho (by omega))
   clear hps ho hOn ads;go_wp2;go_ret;exact ⟨_,rfl,by rw [←HKT.out];exact HF.out,hB⟩
theorem Bt {w:World} {v u:Value} {T:List aH} {X L:List Nat} (h:iV w v T X) (hV:aY T X) (hl:bB w u (ints L)) (hL:∀x∈L,aP x) (hmax:T.length<1000000) (TT:L.length<10000) :
 Calls Tryz.prog 5 #[v,u] w fun e w'=>∃r,e=.returned r∧w'.ownsRow w.heap.size bq 1 r (nP T L).length (ints (nP T L))∧Below w.heap.size w w':=by
 have HT:=aa h;obtain ⟨a,nt,cap,ax,nx,cx,rfl⟩:=h.shape;obtain ⟨n,hn⟩:=ae L.length;obtain ⟨al,cl,rfl,_,hx⟩:=bB.kD hl hn;have HN:=aa hn;have HX:=aa hx;have HL:=aa hL;have Gb:n<10000:=by omega
 have HV:=aa hV;have Nv:=aa (fun l=>ji hV l);have Z6:=aa (fun c=>gI hV c);have HFU:=aa (fun (W:World) (E:Below w.heap.size w W) (c:Nat) (hc:c<1114112)=>uh (HT.out.mono E) c hc (fun r hr x hx=>((hV.fine r hr).2.2.2.2 x hx).2.1) (fun r hr=>Nat.le_trans (hV.fine r hr).2.2.1 (by decide)) hmax);have XG:=aa (show ∀(W:World) (E:Below w.heap.size w W) (c:Nat) (hc:c<1114112),Calls Tryz.prog 15 #[.agg #[.slice a nt cap,.slice ax nx cx],.int .i64 c] W fun e w'=>∃r,e=.returned (.tuple #[r,.bool true])∧bB w' r (ints (aC T c))∧Below W.heap.size W w' from fun W E c hc=>(HFU.out W E c hc).mono fun e w' ⟨r,h1,h2,h3⟩=>⟨r,by rw [h1,decide_eq_true (nO hV c)],h2 (nO hV c),h3⟩);have hb:=af (w:=w) (.cells #[.slice a nt cap,.slice ax nx cx] 25);obtain ⟨W0,hW⟩:=ae (w.alloc (.cells #[.slice a nt cap,.slice ax nx cx] 25));have d0:W0.cell? ⟨w.heap.size,0,none⟩=some (.slice a nt cap):=by rw [hW];unfold World.cell?;rw [heap_alloc_new];rfl
 have d1:W0.cell? ⟨w.heap.size,1,none⟩=some (.slice ax nx cx):=by rw [hW];unfold World.cell?;rw [heap_alloc_new];rfl
 rw [←hW] at hb;obtain ⟨W1,hW1⟩:=ae (W0.alloc (.cells #[] bq));have hb1:Below W0.heap.size W0 W1:=by subst hW1;exact af _
 have o1:W1.ownsRow W0.heap.size bq 1 (.slice (some ⟨w.heap.size+1,0,none⟩) 0 0) 0 (ints []):=by
  subst hW1;have:=qi W0 bq;rw [show W0.heap.size=w.heap.size+1 by rw [hW];simp] at this ⊢;exact this
 rw [hW] at hW1;have hs0:W0.heap.size=w.heap.size+1:=by rw [hW];simp
 have HHT:=aa (fun (W:World) (E:Below w.heap.size w W)=>HT.out.mono E);clear hW h hl hx hn hL hV TT;go_enter Tryz.func5,Tryz.ntmps5;go_wp2_with fail;rw [←hW1];clear hW1;go_loopw [5,13] (fun ov iv wr=>∃j:Nat,j≤n∧iv=.int .i64 j∧wr.ownsRow W0.heap.size bq 1 ov ((L.take j).flatMap (aC T)).length (ints ((L.take j).flatMap (aC T)))∧Below W0.heap.size W0 wr) (fun _ iv _=>n-(intOf iv).toNat)
 case atStart=>exact ⟨0,Nat.zero_le _,rfl,o1,hb1⟩
 case round=>
  clear o1 hb1;obtain ⟨j,hj,rfl,ho,hE⟩:=hrel;have fo:=hb.trans (hE.mono hb.size);have e0:=aA hE d0;have e1:=aA hE d1;obtain ⟨UD,WZ,rfl,_,_⟩:=ak ho;by_cases hjn:j<n
  ·have hjl:j<L.length:=by have:=HN.out;omega
   obtain ⟨b,off,rfl,hbs,hc⟩:=HX.out j hjl;have hc:=aA fo hc;have hx:=(HL.out _ (List.getElem_mem hjl)).1;have hlen:=Nv.out (L.take j);rw [List.length_take] at hlen;have ES:=aa (show (L.take (j+1)).flatMap (aC T)=(L.take j).flatMap (aC T)++aC T L[j] by rw [List.take_succ_eq_append_getElem hjl,List.flatMap_append];simp);generalize (L.take j).flatMap (aC T)=S at *;generalize L[j]=x at *;have FA:=aa (XG.out wr fo x hx);have hfl:=Z6.out x;have HO:=aa ho;clear ho hx;go_wp2_with fail;refine FA.out.mono ?_;rintro e w2 ⟨r2,rfl,s2,h2⟩;have hE2:=ah hE h2;have ho2:=aa (aG HO.out h2);have S2:=aa s2;generalize aC T x=m at *;obtain ⟨nm,hnm⟩:=ae m.length;obtain ⟨a2,c2,rfl,_,_⟩:=bB.kD s2 hnm;have hil:(ints m).length=nm:=by rw [bZ,hnm]
   have qM:=aa hnm;have hsl:S.length≤320000:=by omega
   rw [←hnm] at hfl;clear FA s2 hnm HO e0 e1;go_wp2_with (at_builtin;refine bN rfl _ _ 23 rfl W0.heap.size bq _ 8 jw _ S.length _ rfl ho2.out _ (ints m) rfl S2.out (jU m) (by rw [hil];unfold maxLen;omega) (by rw [hil];omega) hE2.size ?_;intro v' w3 hown' hgrow);have kY:=hE2.grown hgrow hE2.size (fun k hk=>(ho2.out.lt k hk).1);go_roundw
   case rel=>exact ⟨j+1,by omega,rfl,by rw [ES.out,oM,List.length_append,←qM.out,←hil];exact hown',kY⟩
   case measure=>simp [intOf];omega
  ·obtain rfl:n=j:=by omega
   have hlen:=Nv.out L;rw [←HN.out] at hlen;have FIN:=aa (Mf (HHT.out wr fo) (Sl.aW ho).any hmax (by rw [List.take_of_length_le (by rw [HN.out];exact Nat.le_refl _)];omega));have EQ:=aa (show fZ (ai T) ((L.take n).flatMap (aC T))=nP T L by rw [List.take_of_length_le (by rw [HN.out];exact Nat.le_refl _)];rfl);have EL:=aa (show ((L.take n).flatMap (aC T)).length=(nP T L).length by rw [←EQ.out];exact (by rw [←zg,ze]));rw [EQ.out,EL.out] at FIN;rw [EL.out];rw [EL.out] at ho;clear ho;go_wp2_with fail;refine FIN.out.mono ?_;rintro e w3 ⟨r3,rfl,o3,h3⟩;go_wp2;go_ret;exact ⟨_,rfl,aV o3 (by have:=fo.size;omega),fo.trans (h3.mono fo.size)⟩
structure tq (T:List aH) (l:List Nat):Prop where
 nfd:gK T l
 XW:∀c∈l,aP c
 len:l.length<400
theorem tq.cost {T:List aH} {l:List Nat} (h:tq T l):(bR Go.Cd.B (dA (ai T) (aO (gz T) l))).length≤20003:=by
 have hs:=lY (ap:=gz T) h.len;have:=Aa (K:=ai T) (us:=aO (gz T) l) (fun u hu=>by have:=hs.1 u hu;omega) (by omega) (aO (gz T) l).length
 rwa [List.take_length] at this
theorem JE {w:World} (hG:ek w) {v:Value} {T0:List gB} {X0 pk mr:List Int} (h:Dj w v T0 X0 pk mr) (hmr:mr.length<281474976710656) (cut:Int) :
 Calls Tryz.prog 3 #[v,.int .i64 cut] w fun e w'=>e=.returned (.bool true)∧Below w.heap.size w w':=by
 obtain ⟨r0,x0,pv,mv,rfl,hT,hp,hm⟩:=id h;obtain ⟨r0',x0',he,hr0,hx0⟩:=id hT;simp only [Value.agg.injEq,Array.mk.injEq,List.cons.injEq,and_true] at he;obtain ⟨rfl,rfl⟩:=he;obtain ⟨ra,nt,rc,rfl⟩:∃a n c,r0=.slice a n c:=by obtain ⟨a,cap,rfl,_⟩:=hr0;exact ⟨_,_,_,rfl⟩
 obtain ⟨xa,nx,xc,rfl⟩:∃a n c,x0=.slice a n c:=by obtain ⟨a,cap,rfl,_⟩:=hx0.out;exact ⟨_,_,_,rfl⟩
 obtain ⟨pa,np,pc,rfl⟩:∃a n c,pv=.slice a n c:=by obtain ⟨a,cap,rfl,_⟩:=hp.out;exact ⟨_,_,_,rfl⟩
 obtain ⟨ma,nm,mc,rfl⟩:∃a n c,mv=.slice a n c:=by obtain ⟨a,cap,rfl,_⟩:=hm.out;exact ⟨_,_,_,rfl⟩
 obtain ⟨w0,hw0⟩:=ae (w.alloc (.cells #[.slice ra nt rc,.slice xa nx xc,.slice pa np pc,.slice ma nm mc] 27));have hb0:Below w.heap.size w w0:=by rw [hw0];exact af _
 have k0:Is w0 w.heap.size #[.slice ra nt rc,.slice xa nx xc,.slice pa np pc,.slice ma nm mc] 27:=by rw [hw0];exact Is.new _ _ _
 have MD:=aa (WQ (hG.mono hb0) (h.mono hb0) hmr 9 (by decide));have hs0:=hb0.size;have HG:=aa hG;clear hG h hT hr0 hx0 hp hm hmr;go_enter Tryz.func3,Tryz.ntmps3;go_wp2_with fail;rw [←hw0];clear hw0;refine MD.out.mono ?_;rintro e w1 ⟨p,r,T,X,lv,L,rfl,hD,WR,hF,hLv,TT,ZI,hb1⟩;obtain ⟨rr,rx,rfl,⟨a1,c1,rfl,_,hrw⟩,hrx⟩:=id WR;obtain ⟨a2,n2,c2,rfl⟩:∃a n c,rx=.slice a n c:=by obtain ⟨a,c,h,_⟩:=bB.out hrx;exact ⟨_,_,_,h⟩
 obtain ⟨a3,n3,c3,rfl⟩:∃a n c,lv=.slice a n c:=by obtain ⟨a,c,h,_⟩:=bB.out hLv;exact ⟨_,_,_,h⟩
 have hV:=hF.valid;have qG:T.length<1000:=by have:=hF.len;omega
 have hwl:(nP T L).length<400:=by
  have h1:=ji hV L;rw [zF];omega
 have hB1:=hb0.trans (hb1.mono hs0);have hs1:=hB1.size;have k0:=k0.mono hb1;have iB:=af (w:=w1) (.cells #[.slice a1 T.length c1,.slice a2 n2 c2] 25);have k9:Is _ w1.heap.size #[.slice a1 T.length c1,.slice a2 n2 c2] 25:=Is.new w1 _ _;obtain ⟨n,hn⟩:=ae T.length;rw [←hn] at WR iB k9 ⊢;obtain ⟨w2,hw2⟩:=ae (w1.alloc (.cells #[.slice a1 n c1,.slice a2 n2 c2] 25));rw [←hw2] at iB k9;have hB2:=hB1.trans (iB.mono hs1);have Lg:=iB.size;have hs2:=hB2.size;have CH:=aa (Bt (WR.mono iB) hV (hLv.mono iB) ZI (by omega) (by omega));have HD:=aa hD;have HV:=aa hV;have HW:=aa (gK.of hV L);have HC:=aa (Ir hV ZI);clear hD WR hF hLv TT ZI hrw hrx hn hV;obtain ⟨U,hU⟩:=ae (nP T L);rw [←hU] at CH HW HC hwl;clear hU;go_wp2_with fail;rw [←hw2];clear hw2;refine CH.out.mono ?_;rintro e w3 ⟨u,rfl,hu,hb3⟩;obtain ⟨au,cu,rfl,_,_⟩:=ak hu;have HU:=aa ((Sl.aW hu).any);have hB3:=hB2.trans (hb3.mono hs2);have hs3:=hB3.size;obtain ⟨m,hm⟩:=ae U.length;rw [←hm] at HU hwl ⊢;have HM:=aa hm;clear hu hm;by_cases hm0:m=0
 ·subst hm0;go_wp2_with fail;go_ret;exact ⟨rfl,hB3⟩
 have z0:((m:Int)==0)=false:=by simp;omega
 obtain ⟨A,hA,hA'⟩:=TP cut (S:=m) (by omega) (by omega);have AP:=aa (fun (W:World) (E:Below w3.heap.size w3 W) (c:Nat) (hc:aP c)=>xy ((HD.out.mono (iB.trans (hb3.mono Lg))).mono E) HV.out qG c hc);go_wp2_with fail;go_loopw [10] (fun kv wr=>∃k:Nat,k≤m∧kv=.int .i64 k∧Below w3.heap.size w3 wr) (fun kv _=>m-(intOf kv).toNat)
 case atStart=>exact ⟨A,by omega,by rw [←hA'],Below.refl _ _⟩
 case round=>
  obtain ⟨k,hk,rfl,hE⟩:=hrel;clear hA' hA z0;have Y0:=hb3.size;have hE2:=hb3.trans (hE.mono Y0);have Bf:=hE.size;go_upto_region 8 with fail;go_cut [63] from 50 to 63 (fun tv wx=>∃tb:Bool,tv=.bool tb∧(tb=true→k<m)∧(tb=false→k=m∨∃c,(U.drop k).head? = some c∧gz T c=true)∧Below wr.heap.size wr wx)
  case first=>
   by_cases hkm:k<m
   ·have zj:decide ((k:Int)<(m:Int))=true:=decide_eq_true (by omega);have hkl:k<U.length:=by have:=HM.out;omega
    obtain ⟨ab,cb,he,_,hcl⟩:=bB.kD HU.out HM.out;injection he with he1 _ Ja;subst he1 Ja;obtain ⟨b,off,rfl,hbs,hc⟩:=hcl k hkl;have hc:=aA hE hc;have hcc:=HC.out _ (List.getElem_mem hkl);obtain ⟨c,hcx⟩:=ae (U[k]);rw [←hcx] at hc hcc;have hcn:=hcc.1;have CK:=aa (AP.out wr hE c hcc);obtain ⟨bx,hbx⟩:=ae (gz T c);rw [←hbx] at CK;have HBX:=aa hbx;have HCX:=aa hcx;clear hbx hcx hcl;go_wp2_with fail;refine CK.out.mono ?_;rintro e w6 ⟨rfl,hb6⟩;go_wp2_with fail;go_meet;refine ⟨!bx,rfl,fun _=>hkm,fun hb=>.inr ⟨c,by rw [List.head?_drop,List.getElem?_eq_getElem hkl,HCX.out],by rw [←HBX.out];simpa using hb⟩,hb6⟩
   ·have zj:decide ((k:Int)<(m:Int))=false:=decide_eq_false (by omega);go_wp2_with fail;go_meet;exact ⟨false,rfl,(fun h=>by cases h),fun _=>.inl (by omega),Below.refl _ _⟩
  case rest=>
   rename World=>wx;obtain ⟨tb,rfl,ht,hf,hbc⟩:=hcut;have xI:=hE.trans (hbc.mono Bf);have HT:=aa ht;have HFl:=aa hf;clear ht hf hbc hE hE2 Bf;cases tb with
   | true=>
     have hkm:=HT.out rfl;go_wp2_with fail;go_roundw
     case rel=>exact ⟨k+1,by omega,by simp,xI⟩
     case measure=>simp [intOf];omega
   | false=>
     have hfin:=HFl.out rfl;have H8:=aa hfin;clear hfin HFl HT;have hB4:=hB3.trans (xI.mono hs3);obtain ⟨la,hla⟩:∃l,l=U.take k:=⟨_,rfl⟩;obtain ⟨lb,hlb⟩:∃l,l=U.drop k:=⟨_,rfl⟩;have hab:la++lb=U:=by rw [hla,hlb,List.take_append_drop]
     have hPU:tq T U:=⟨HW.out,HC.out,by rw [←HM.out];exact hwl⟩;have hPa:tq T la:=⟨gK.left (b:=lb) (by rw [hab];exact HW.out),fun c hc=>HC.out c (by rw [←hab];exact List.mem_append_left _ hc),by have:=hPU.len;rw [←hab,List.length_append] at this;omega⟩;have hPb:tq T lb:=⟨gK.right (a:=la) (by rw [hab];exact HW.out),fun c hc=>HC.out c (by rw [←hab];exact List.mem_append_right _ hc),by have:=hPU.len;rw [←hab,List.length_append] at this;omega⟩;have hun:aO (gz T) U=aO (gz T) la++aO (gz T) lb:=by
      rw [←hab];refine E8 la fun c hc _=>?_;rw [hlb] at hc;rcases H8.out with h|⟨c',h,ha⟩
      ·rw [List.drop_eq_nil_of_le (by have:=HM.out;omega)] at hc;cases hc
      ·rw [h] at hc;cases hc;exact ha
     have HPU:=aa hPU;have WK:=aa hPa;have M_:=aa hPb;have HUN:=aa hun;have HAB:=aa hab;have VL:=aa hla;have HLB:=aa hlb;clear hPU hPa hPb hun hab hla hlb;obtain ⟨sa,hsa⟩:∃s,s=tx (dH la):=⟨_,rfl⟩;obtain ⟨sb,hsb⟩:∃s,s=tx (dH lb):=⟨_,rfl⟩;obtain ⟨su,hsu⟩:∃s,s=tx (dH U):=⟨_,rfl⟩;have ZL:sa++sb=su:=by rw [hsa,hsb,hsu,gq,←wJ,HAB.out]
     have HSA:=aa hsa;have XI:=aa hsb;have HSU:=aa hsu;have ahA:=aa ZL;clear hsa hsb hsu ZL;go_upto_region 10 with fail;go_cut [11,12] from 66 to 73 (fun va vb wy=>va=.string sa∧vb=.string sb∧Below w3.heap.size w3 wy)
     case first=>
      obtain ⟨ab,cb,he,hmc,_⟩:=bB.kD HU.out HM.out;injection he with he1 _ Ja;subst he1 Ja;obtain ⟨b,off,rfl⟩:∃b off,au=some ⟨b,off,none⟩:=by
       obtain ⟨ab,cb,he,_,hcl⟩:=bB.kD HU.out HM.out;injection he with he1 _ Ja;subst he1 Ja;obtain ⟨b,off,h,_⟩:=hcl 0 (by have:=HM.out;omega);exact ⟨b,off,h⟩
      have hka:=SL (HU.out.mono xI) hk;have hkb:=SN (HU.out.mono xI) hk;rw [←VL.out] at hka;rw [←HLB.out] at hkb;have EA:=aa (fun (W:World) (E:Below wx.heap.size wx W)=>mg (hka.mono E) (fun c hc=>(WK.out.XW c hc).1) (by have:=WK.out.len;omega));have EB:=aa (fun (W:World) (E:Below wx.heap.size wx W)=>mg (hkb.mono E) (fun c hc=>(M_.out.XW c hc).1) (by have:=M_.out.len;omega));rw [←HSA.out] at EA;rw [←XI.out] at EB;clear hka hkb;have hq:=ag wx;by_cases hck:cu=k
      ·have hmk:m=k:=by omega
       have hU0:lb=[]:=by rw [HLB.out];exact List.drop_eq_nil_of_le (by have:=HM.out;omega)
       have EB0:=aa (fun (W:World) (E:Below wx.heap.size wx W)=>mg (w:=W) (v:=.slice (some ⟨b,off,none⟩) 0 0) (L:=lb) (by rw [hU0];exact ⟨_,0,rfl,by simp [ints],.inl ⟨rfl,fun h=>by cases h⟩⟩) (fun c hc=>(M_.out.XW c hc).1) (by have:=M_.out.len;omega));rw [←XI.out] at EB0;clear EB hU0;subst hck;refine aF (Array.replicate 10 true) 10 0 mixed (by rfl) ?_;refine ay [0,1,2,4,5,6] 4 rfl (by kernel_rfl) ?_;refine a_ ?_
       iterate 6 (refine aS rfl ?_)
       refine bf ?_
       iterate 6 (go_big_quiet_step (rfl))
       refine az ?_;refine aI 3 (by kernel_rfl) rfl ?_;go_wp2_with fail;refine (EA.out _ hq).mono ?_;rintro e w5 ⟨rfl,hb5⟩;go_wp2_with fail;refine aD hb5 ?_;have Uf:=ah hq hb5;refine aI 7 (by kernel_rfl) rfl ?_;go_wp2_with fail;refine (EB0.out _ Uf).mono ?_;rintro e w6 ⟨rfl,hb6⟩;go_wp2_with fail;refine aD hb6 ?_;have hq6:=ah Uf hb6;refine ay [8,9] 0 rfl (by kernel_rfl) ?_;refine a_ ?_
       iterate 2 (refine aS rfl ?_)
       refine bf ?_
       iterate 2 (go_big_quiet_step (rfl))
       refine az ?_;refine aJ [] (by kernel_rfl) ?_;refine tail_nil ?_;go_wp2_with fail;subst hmk;go_meet;exact ⟨rfl,rfl,xI.trans (hq6.mono xI.size)⟩
      ·refine aF (Array.replicate 10 true) 10 0 mixed (by rfl) ?_;refine ay [0,1,2,4,5,6] 4 rfl (by kernel_rfl) ?_;refine a_ ?_
       iterate 6 (refine aS rfl ?_)
       refine bf ?_
       iterate 6 (go_big_quiet_step (rfl))
       refine az ?_;refine aI 3 (by kernel_rfl) rfl ?_;go_wp2_with fail;refine (EA.out _ hq).mono ?_;rintro e w5 ⟨rfl,hb5⟩;go_wp2_with fail;refine aD hb5 ?_;have Uf:=ah hq hb5;refine aI 7 (by kernel_rfl) rfl ?_;go_wp2_with fail;refine (EB.out _ Uf).mono ?_;rintro e w6 ⟨rfl,hb6⟩;go_wp2_with fail;refine aD hb6 ?_;have hq6:=ah Uf hb6;refine ay [8,9] 0 rfl (by kernel_rfl) ?_;refine a_ ?_
       iterate 2 (refine aS rfl ?_)
       refine bf ?_
       iterate 2 (go_big_quiet_step (rfl))
       refine az ?_;refine aJ [] (by kernel_rfl) ?_;refine tail_nil ?_;go_wp2_with fail;go_meet;exact ⟨rfl,rfl,xI.trans (hq6.mono xI.size)⟩
     case rest=>
      rename World=>wy;obtain ⟨rfl,rfl,hEy⟩:=hcut;clear xI hB4;have rZ:=hB3.trans (hEy.mono hs3);have hs5:=rZ.size;have anV:=hEy.size;have hD5:=aa (HD.out.mono (iB.trans ((hb3.trans (hEy.mono Y0)).mono Lg)));have OF:=aa (fun (W:World) (E:Below wy.heap.size wy W) (l:List Nat) (hl:tq T l)=>SS (HG.out.mono (rZ.trans (E.mono hs5))) (hD5.out.mono E) HV.out qG l hl.nfd hl.XW hl.len);have CO:=aa (fun (W:World) (E:Below wy.heap.size wy W) (l:List Nat) (hl:tq T l)=>Jk (HG.out.mono (rZ.trans (E.mono hs5))) (hD5.out.mono E) HV.out qG l hl.nfd hl.XW hl.len);obtain ⟨xa,hxa⟩:∃x,x=Ad T (aO (gz T) la):=⟨_,rfl⟩;obtain ⟨xb,hxb⟩:∃x,x=Ad T (aO (gz T) lb):=⟨_,rfl⟩;obtain ⟨xu,hxu⟩:∃x,x=Ad T (aO (gz T) U):=⟨_,rfl⟩;obtain ⟨ya,hya⟩:∃x,x=dA (ai T) (aO (gz T) la):=⟨_,rfl⟩;obtain ⟨yb,hyb⟩:∃x,x=dA (ai T) (aO (gz T) lb):=⟨_,rfl⟩;obtain ⟨yu,hyu⟩:∃x,x=dA (ai T) (aO (gz T) U):=⟨_,rfl⟩;have vL:xu=xa * xb:=by rw [hxu,hxa,hxb,HUN.out,Jl]
      have hyy:yu=ya+yb:=by rw [hyu,hya,hyb,HUN.out,uP]
      have O1:=fun (W:World) (E:Below wy.heap.size wy W)=>OF.out W E la WK.out;have O2:=fun (W:World) (E:Below wy.heap.size wy W)=>OF.out W E lb M_.out;have O3:=fun (W:World) (E:Below wy.heap.size wy W)=>OF.out W E U HPU.out;have C1:=fun (W:World) (E:Below wy.heap.size wy W)=>CO.out W E la WK.out;have C2:=fun (W:World) (E:Below wy.heap.size wy W)=>CO.out W E lb M_.out;have C3:=fun (W:World) (E:Below wy.heap.size wy W)=>CO.out W E U HPU.out;rw [←HSA.out,←hxa,←hya] at O1;rw [←XI.out,←hxb,←hyb] at O2;rw [←HSU.out,←hxu,←hyu] at O3;rw [←HSA.out,←hya] at C1;rw [←XI.out,←hyb] at C2;rw [←HSU.out,←hyu] at C3;have Sg:=aa vL;have HYY:=aa hyy;have LA:(bR Go.Cd.B ya).length≤20003:=by rw [hya];exact WK.out.cost
      have LB:(bR Go.Cd.B yb).length≤20003:=by rw [hyb];exact M_.out.cost
      have LU:(bR Go.Cd.B yu).length≤20003:=by rw [hyu];exact HPU.out.cost
      have KA:ya≤16384→(bR Go.Cd.B xa).length≤16385:=fun h=>by rw [hxa];exact wz qG (lY WK.out.len).1 (by rw [←hya];exact h)
      have KB:yb≤16384→(bR Go.Cd.B xb).length≤16385:=fun h=>by rw [hxb];exact wz qG (lY M_.out.len).1 (by rw [←hyb];exact h)
      have KU:yu≤16384→(bR Go.Cd.B xu).length≤16385:=fun h=>by rw [hxu];exact wz qG (lY HPU.out.len).1 (by rw [←hyu];exact h)
      have Nf:=aa O1;have TV:=aa O2;have Fs:=aa O3;have tZ:=aa C1;have UG:=aa C2;have HC3:=aa C3;have HK:=aa (And.intro KA (And.intro KB KU));have HL:=aa (And.intro LA (And.intro LB LU));have ZL:=ahA.out;have hza:sa.size≤1600:=by rw [HSA.out,bC];have:=jo la;have:=WK.out.len;omega
      have hzb:sb.size≤1600:=by rw [XI.out,bC];have:=jo lb;have:=M_.out.len;omega
      clear O1 O2 O3 C1 C2 C3 KA KB KU LA LB LU hxa hxb hxu hya hyb hyu vL hyy OF CO hD5;have E0:=Below.refl wy.heap.size wy;have S0:=Nat.le_refl wy.heap.size;go_wp2_with fail;refine (Nf.out _ E0).mono ?_;rintro e v1 ⟨p1,q1,r1,d1,rfl,b1,hy1,hn1⟩;have U9:=aa hy1;clear hy1 hn1;have F1:=E0.trans (b1.mono S0);have T1:=F1.size;obtain ⟨z1,hz1⟩:∃z,z=v1.alloc (.cells #[.slice p1 q1 r1] dO):=⟨_,rfl⟩;have a1:Below v1.heap.size v1 z1:=by rw [hz1];exact af _
      have J1:Is z1 v1.heap.size #[.slice p1 q1 r1] dO:=by rw [hz1];exact Is.new _ _ _
      have E1:=F1.trans (a1.mono T1);have S1:=E1.size;have W1:=a1;clear F1;go_wp2_with fail;rw [←hz1];clear hz1;refine (TV.out _ E1).mono ?_;rintro e v2 ⟨p2,q2,r2,d2,rfl,b2,hy2,hn2⟩;have HY2:=aa hy2;clear hy2 hn2;have F2:=E1.trans (b2.mono S1);have T2:=F2.size;have J1:=J1.mono b2;obtain ⟨z2,hz2⟩:∃z,z=v2.alloc (.cells #[.slice p2 q2 r2] dO):=⟨_,rfl⟩;have a2:Below v2.heap.size v2 z2:=by rw [hz2];exact af _
      have J2:Is z2 v2.heap.size #[.slice p2 q2 r2] dO:=by rw [hz2];exact Is.new _ _ _
      have J1:=J1.mono a2;have E2:=F2.trans (a2.mono T2);have S2:=E2.size;have W1:=ah (ah W1 b2) a2;have W2:=a2;clear F2;go_wp2_with fail;rw [←hz2];clear hz2;refine (Fs.out _ E2).mono ?_;rintro e v3 ⟨p3,q3,r3,d3,rfl,b3,hy3,hn3⟩;have Wz:=aa hy3;have HN3:=aa hn3;clear hy3 hn3;have F3:=E2.trans (b3.mono S2);have T3:=F3.size;have J1:=J1.mono b3;have J2:=J2.mono b3;obtain ⟨z3,hz3⟩:∃z,z=v3.alloc (.cells #[.slice p3 q3 r3] dO):=⟨_,rfl⟩;have a3:Below v3.heap.size v3 z3:=by rw [hz3];exact af _
      have J3:Is z3 v3.heap.size #[.slice p3 q3 r3] dO:=by rw [hz3];exact Is.new _ _ _
      have J1:=J1.mono a3;have J2:=J2.mono a3;have E3:=F3.trans (a3.mono T3);have S3:=E3.size;have W1:=ah (ah W1 b3) a3;have W2:=ah (ah W2 b3) a3;have W3:=a3;clear F3;go_wp2_with fail;rw [←hz3];clear hz3;refine (tZ.out _ E3).mono ?_;rintro e v4 ⟨x4,rfl,XA,b4⟩;obtain ⟨p4,q4,r4,rfl,XA⟩:=XA.out;have F4:=E3.trans (b4.mono S3);have T4:=F4.size;have J1:=J1.mono b4;have J2:=J2.mono b4;have J3:=J3.mono b4;obtain ⟨z4,W_⟩:∃z,z=v4.alloc (.cells #[.slice p4 q4 r4] dO):=⟨_,rfl⟩;have a4:Below v4.heap.size v4 z4:=by rw [W_];exact af _
      have J4:Is z4 v4.heap.size #[.slice p4 q4 r4] dO:=by rw [W_];exact Is.new _ _ _
      have J1:=J1.mono a4;have J2:=J2.mono a4;have J3:=J3.mono a4;have E4:=F4.trans (a4.mono T4);have S4:=E4.size;have M4:=XA.mono a4;have W1:=ah (ah W1 b4) a4;have W2:=ah (ah W2 b4) a4;have W3:=ah (ah W3 b4) a4;clear F4;go_wp2_with fail;rw [←W_];clear W_;refine (UG.out _ E4).mono ?_;rintro e v5 ⟨x5,rfl,hN5,b5⟩;obtain ⟨p5,q5,r5,rfl,hN5⟩:=hN5.out;have F5:=E4.trans (b5.mono S4);have T5:=F5.size;have J1:=J1.mono b5;have J2:=J2.mono b5;have J3:=J3.mono b5;have J4:=J4.mono b5;obtain ⟨z5,UM⟩:∃z,z=v5.alloc (.cells #[.slice p5 q5 r5] dO):=⟨_,rfl⟩;have a5:Below v5.heap.size v5 z5:=by rw [UM];exact af _
      have J5:Is z5 v5.heap.size #[.slice p5 q5 r5] dO:=by rw [UM];exact Is.new _ _ _
      have J1:=J1.mono a5;have J2:=J2.mono a5;have J3:=J3.mono a5;have J4:=J4.mono a5;have E5:=F5.trans (a5.mono T5);have S5:=E5.size;have M4:=M4.mono (b5.mono (Nat.le_refl _));have M4:=M4.mono a5;have M5:=hN5.mono a5;have W1:=ah (ah W1 b5) a5;have W2:=ah (ah W2 b5) a5;have W3:=ah (ah W3 b5) a5;clear F5;go_wp2_with fail;rw [←UM];clear UM;refine (HC3.out _ E5).mono ?_;rintro e v6 ⟨x6,rfl,hN6,b6⟩;obtain ⟨p6,q6,r6,rfl,hN6⟩:=hN6.out;have F6:=E5.trans (b6.mono S5);have T6:=F6.size;have J1:=J1.mono b6;have J2:=J2.mono b6;have J3:=J3.mono b6;have J4:=J4.mono b6;have J5:=J5.mono b6;obtain ⟨z6,hz6⟩:∃z,z=v6.alloc (.cells #[.slice p6 q6 r6] dO):=⟨_,rfl⟩;have a6:Below v6.heap.size v6 z6:=by rw [hz6];exact af _
      have J6:Is z6 v6.heap.size #[.slice p6 q6 r6] dO:=by rw [hz6];exact Is.new _ _ _
      have J1:=J1.mono a6;have J2:=J2.mono a6;have J3:=J3.mono a6;have J4:=J4.mono a6;have J5:=J5.mono a6;have E6:=F6.trans (a6.mono T6);have S6:=E6.size;have M4:=M4.mono (b6.mono (Nat.le_refl _));have M4:=M4.mono a6;have M5:=M5.mono (b6.mono (Nat.le_refl _));have M5:=M5.mono a6;have M6:=hN6.mono a6;have W1:=ah (ah W1 b6) a6;have W2:=ah (ah W2 b6) a6;have W3:=ah (ah W3 b6) a6;clear F6;obtain ⟨LA,LB,LU⟩:=HL.out;have G4:=Gr.cell (ag z6) (J4.at 0 rfl);have G5:=Gr.cell (ag z6) (J5.at 0 rfl);have G6:=Gr.cell (ag z6) (J6.at 0 rfl);go_wp2_with fail;rw [←hz6];clear hz6;refine aF (Array.replicate 10 true) 10 0 mixed (by rfl) ?_;refine ay [0,1,2,3,4,5] 4 rfl (by kernel_rfl) ?_;refine a_ ?_
      iterate 6 (refine aS rfl ?_)
      refine bf ?_
      iterate 6 (go_big_quiet_step (rfl))
      refine az ?_;refine aI 6 (by kernel_rfl) rfl ?_;go_wp2_with fail;refine (Ex (M4.mono (ag z6)) (M5.mono (ag z6)) (by omega) (by omega)).mono ?_;rintro e v7 ⟨x7,rfl,M7,b7⟩;obtain ⟨p7,q7,r7,rfl,M7⟩:=M7.out;go_wp2_with fail;refine aD b7 ?_;refine aI 7 (by kernel_rfl) rfl ?_;go_wp2_with fail;refine (MK ((M6.mono (ag z6)).mono b7) M7 (by omega)).mono ?_;rw [decide_eq_true HYY.out];rintro e v8 ⟨rfl,b8⟩;go_wp2_with fail;refine aD b8 ?_;refine ay [8,9] 0 rfl (by kernel_rfl) ?_;refine a_ ?_
      iterate 2 (refine aS rfl ?_)
      refine bf ?_
      iterate 2 (go_big_quiet_step (rfl))
      refine az ?_;refine aJ [] (by kernel_rfl) ?_;refine tail_nil ?_;have b9:=ah (ah (ag z6) b7) b8;have E7:=E6.trans (b9.mono S6);clear G4 G5 G6 J4 J5 J6 M4 M5 M6 M7;have J1:=J1.mono b9;have W1:=ah W1 b9;have J2:=J2.mono b9;have W2:=ah W2 b9;have J3:=J3.mono b9;have W3:=ah W3 b9;by_cases hle:yu≤16384
      ·have ZM:ya≤16384:=by have:=HYY.out;omega
       have ZN:yb≤16384:=by have:=HYY.out;omega
       obtain ⟨rfl,N1⟩:=U9.out ZM;obtain ⟨rfl,N2⟩:=HY2.out ZN;obtain ⟨rfl,N3⟩:=Wz.out hle;have KA:=HK.out.1 ZM;have KB:=HK.out.2.1 ZN;have KU:=HK.out.2.2 hle;have hd:=ag v8;have N1:=(N1.mono W1).mono hd;have G1:=Gr.cell hd (J1.at 0 rfl);have N2:=(N2.mono W2).mono hd;have G2:=Gr.cell hd (J2.at 0 rfl);have N3:=(N3.mono W3).mono hd;have G3:=Gr.cell hd (J3.at 0 rfl);clear hle ZM ZN;go_wp2_with fail;refine aF (Array.replicate 14 true) 14 0 mixed (by rfl) ?_;refine ay [0,1,2,3,4,5,6,7,8,9] 4 rfl (by kernel_rfl) ?_;refine a_ ?_
       iterate 10 (refine aS rfl ?_)
       refine bf ?_
       iterate 10 (go_big_quiet_step (rfl))
       refine az ?_;refine aI 10 (by kernel_rfl) rfl ?_;go_wp2_with fail;refine (KY N1 N2 (by omega) (by omega)).mono ?_;rintro e v10 ⟨x10,rfl,M10,b10⟩;obtain ⟨ZR,q10,r10,rfl,M10⟩:=M10.out;go_wp2_with fail;refine aD b10 ?_;refine aI 11 (by kernel_rfl) rfl ?_;go_wp2_with fail;refine (MK (N3.mono b10) M10 (by omega)).mono ?_;rw [decide_eq_true Sg.out];rintro e v11 ⟨rfl,b11⟩;go_wp2_with fail;refine aD b11 ?_;refine ay [12,13] 0 rfl (by kernel_rfl) ?_;refine a_ ?_
       iterate 2 (refine aS rfl ?_)
       refine bf ?_
       iterate 2 (go_big_quiet_step (rfl))
       refine az ?_;refine aJ [] (by kernel_rfl) ?_;refine tail_nil ?_;go_wp2_with fail;go_ret;exact ⟨rfl,rZ.trans ((E7.trans ((ah (ah hd b10) b11).mono E7.size)).mono hs5)⟩
      ·have e3:=HN3.out hle;subst e3;clear hle;go_wp2_with fail;go_ret;exact ⟨rfl,rZ.trans (E7.mono hs5)⟩
end Go.Proofs.YtmpkfkoficehpaaGreatDoor
namespace Go.Cd
open Go.RowKit
theorem Qa {k:IntKind} {w:World} {a:Option Addr} {len cap:Nat} {zs:List Int}
 (h:(a=none∧len=0∧cap=0∧zs=[])∨∃x,a=some x∧len≤cap∧cap≤maxLen∧zs.length=cap∧(∀i,i<zs.length→w.cell? (x.add i)=some (.int k (zs.getD i 0)))∧∀n∈zs,(Lit.int k n).wf=true) :
 bB w (.slice a len cap) ((zs.take len).map (Value.int k))∧len≤maxLen∧(zs.take len).length=len∧∀n∈zs,(Lit.int k n).wf=true:=by
 rcases h with ⟨rfl,rfl,rfl,rfl⟩|⟨x,rfl,hlc,hcm,hz,hcell,hwf⟩
 ·exact ⟨⟨none,0,rfl,Nat.le_refl _,.inl ⟨rfl,fun _=>rfl⟩⟩,Nat.zero_le _,rfl,by simp⟩
 ·have hlen:((zs.take len).map (Value.int k)).length=len:=by simp;omega
  refine ⟨⟨some x,cap,by rw [hlen],by rw [hlen];exact hlc,?_⟩,by omega,by simp;omega,hwf⟩;by_cases h0:len=0
  ·subst h0;exact .inl ⟨by simp,fun e=>by cases e⟩
  ·right;have h1:=hcell 0 (by omega);have e0:x.add 0=x:=by unfold Addr.add;simp
   rw [e0] at h1;unfold World.cell? at h1
   split at h1
   ·rename_i c e f hb;have hs:x.spot.isSome=false:=by
     cases hs:x.spot.isSome with
     | false=>rfl
     | true=>simp [hs] at h1
    have hsp:x=⟨x.block,x.off,none⟩:=by
     cases x with
     | mk b o s=>cases s with
       | none=>rfl
       | some s=>simp at hs
    refine ⟨x.block,x.off,c,e,f,by rw [←hsp],hb,fun i hi=>?_⟩;rw [hlen] at hi;have h2:=hcell i (by omega);rw [hsp] at h2;unfold World.cell? Addr.add at h2;have hg:zs.getD i 0=zs[i]'(by omega):=by rw [List.getD_eq_getElem?_getD,List.getElem?_eq_getElem (by omega)];rfl
    rw [hg] at h2;have hr:((zs.take len).map (Value.int k))[i]'(by rw [hlen];exact hi)=.int k (zs[i]'(by omega)):=by simp
    rw [hr];by_cases hi0:i=0
    ·subst hi0;simp only [if_true] at h2;rw [hb] at h2;simpa using h2
    ·rw [if_neg hi0] at h2;simp only at h2;rw [hb] at h2;simpa using h2
   ·simp at h1
theorem Mg {w:World} {a:Option Addr} {len cap:Nat} {zs:List Int}
 (h:(a=none∧len=0∧cap=0∧zs=[])∨∃x,a=some x∧len≤cap∧cap≤maxLen∧zs.length=cap∧(∀i,i<zs.length→w.cell? (x.add i)=some (.int .i64 (zs.getD i 0)))∧∀n∈zs,(Lit.int .i64 n).wf=true) :
 ∃l:List Int,bB w (.slice a len cap) (bJ l)∧l.length=len∧len≤maxLen∧∀d∈l,-9223372036854775808≤d∧d≤9223372036854775807:=by
 obtain ⟨h1,h2,h3,h4⟩:=Qa h;refine ⟨_,h1,h3,h2,fun n hn=>?_⟩;have:=h4 n (List.mem_of_mem_take hn);simp [Lit.wf,IntKind.min,IntKind.max,IntKind.bits,IntKind.signed] at this;omega
end Go.Cd
namespace Go.Proofs.YtmpkfkoficehpaaGreatDoor
section
open Go.RowKit Go.Cd Go.ChangeShapes Go.WideShapes Go.Deep
theorem WV {w:World} {b o:Nat} {v:Value} (h:w.cell? ⟨b,o,none⟩=some v):b<w.heap.size:=by
 rcases Nat.lt_or_ge b w.heap.size with h1|h1
 ·exact h1
 ·unfold World.cell? at h;rw [Array.getElem?_eq_none h1] at h;cases h
section
variable {H : Type} {enc : TypeId × Value → H} {w : World} {base : Nat} {held : Bool}
theorem qI {fuel:Nat} {cs:List Value} {x:DataW H×List MemPlace} (h:DataW.trod enc Tryz.prog w base (fun _=>true) held fuel 23 cs=some x) :
 ∃a len cap l,cs=[.slice a len cap]∧bB w (.slice a len cap) (bJ l)∧l.length=len∧((x.1=.nil∧len=0)∨∃es sp,x.1=.slice es sp∧es.length=len):=by
 rcases open_ints Tryz.underlying23 Tryz.underlying3 (by kernel_rfl) h with ⟨rfl,rfl⟩|⟨a,len,cap,zs,rfl,_,hl,hm,hz,rfl,hcell,hwz⟩
 ·exact ⟨none,0,0,[],rfl,⟨none,0,rfl,Nat.le_refl _,.inl ⟨rfl,fun _=>rfl⟩⟩,rfl,.inl ⟨rfl,rfl⟩⟩
 ·obtain ⟨l,hS,hl',_,_⟩:=Mg (w:=w) (a:=some a) (len:=len) (cap:=cap) (zs:=zs) (.inr ⟨a,rfl,hl,hm,by simpa using hz,hcell,hwz⟩);refine ⟨_,_,_,l,rfl,hS,hl',.inr ⟨_,_,rfl,?_⟩⟩;have hz':zs.length=cap:=by simpa using hz
  simp [lits,List.length_take];omega
instance:Inhabited gB:=⟨⟨0,0,[]⟩⟩
theorem Qb {fuel:Nat} {cs:List Value} {x:DataW H×List MemPlace} (h:DataW.trod enc Tryz.prog w base (fun _=>true) held fuel 22 cs=some x) :
 ∃a len cap T,cs=[.slice a len cap]∧Jq w (.slice a len cap) T:=by
 rcases open_slice Tryz.underlying22 h with ⟨rfl,_⟩|⟨a,len,cap,m,n,D,Pl,rfl,_,hl,hm,hmm,_,hel⟩
 ·exact ⟨none,0,0,[],rfl,none,0,rfl,Nat.le_refl _,fun i hi=>absurd hi (Nat.not_lt_zero _)⟩
 ·simp only [if_true] at hmm;subst hmm;have hc:Tryz.prog.cellsOf 47=3:=by kernel_rfl
  have hsp:0<len→a.spot=none:=fun h0=>by
   obtain ⟨cs',hcs,_⟩:=hel 0 (by omega);rw [hc] at hcs;obtain ⟨_,hlen,hcell⟩:=World.cells?_some hcs;have g:=hcell 0 (by omega);rw [List.getElem?_eq_getElem (by omega)] at g;have:=World.cell?_spot g;rw [add_add] at this;simpa [Addr.add] using this
  obtain ⟨f,hf⟩:=choose_lt (n:=len) (p:=fun i (r:gB)=>∃b off mv,a=⟨b,off,none⟩∧b<w.heap.size∧w.cell? ⟨b,off+i*3,none⟩=some (.int .i64 r.code)∧w.cell? ⟨b,off+i*3+1,none⟩=some (.int .i64 r.cls)∧w.cell? ⟨b,off+i*3+2,none⟩=some mv∧bB w mv (bJ r.map)) (fun i hi=>by
   obtain ⟨cs',hcs,htr⟩:=hel i (by omega);rw [hc] at hcs;obtain ⟨_,hlen,hcell⟩:=World.cells?_some hcs;obtain ⟨y0,y1,y2,k,_,_,h0,h1,h2⟩:=trod_struct3 Tryz.underlying47 htr
   match cs',hlen with
   | [c0,c1,c2],_=>
     have h0:DataW.trod enc Tryz.prog w base (fun _=>true) held k 3 [c0]=some y0:=h0;have h1:DataW.trod enc Tryz.prog w base (fun _=>true) held k 3 [c1]=some y1:=h1;have h2:DataW.trod enc Tryz.prog w base (fun _=>true) held k 23 [c2]=some y2:=h2;obtain ⟨z0,e0,_,_⟩:=DataW.trod_int Tryz.underlying3 h0;obtain ⟨z1,e1,_,_⟩:=DataW.trod_int Tryz.underlying3 h1;obtain ⟨am,lm,cm,l,e2,hS,_,_⟩:=qI h2;cases e0;cases e1;cases e2;have g0:=hcell 0 (by omega);have g1:=hcell 1 (by omega);have g2:=hcell 2 (by omega);rw [add_add] at g0 g1 g2;obtain ⟨b,off,rfl⟩:∃b off,a=⟨b,off,none⟩:=⟨a.block,a.off,by have hsp:=hsp (by omega);cases a;simp at hsp;subst hsp;rfl⟩;rw [add_plain] at g0 g1 g2;refine ⟨⟨z0,z1,l⟩,b,off,_,rfl,WV g0,?_,?_,?_,hS⟩
     ·simpa using g0
     ·simpa [Nat.add_assoc] using g1
     ·simpa [Nat.add_assoc] using g2)
  refine ⟨some a,len,m,(List.range len).map f,rfl,some a,m,by simp,by simpa using hl,fun i hi=>?_⟩;simp at hi;obtain ⟨b,off,mv,rfl,hb,h0,h1,h2,h3⟩:=hf i hi;exact ⟨b,off,mv,rfl,hb,by simpa using h0,by simpa using h1,h2,by simpa using h3⟩
theorem Qc {v:Value} {d:DataW H} {ps:List MemPlace} (hv:∃cs,v=.agg cs∧cs.size=Tryz.prog.cellsOf 27) (h:DataW.Trod enc Tryz.prog w base (fun _=>true) held 27 v d ps) (hsz:∀n∈d.weights Tryz.prog 27,n≤reachBytes) :
 ∃T X pk mr,Dj w v T X pk mr∧mr.length<281474976710656:=by
 obtain ⟨cs,rfl,hcs⟩:=hv;obtain ⟨fuel,h⟩:=h;have h:DataW.trod enc Tryz.prog w base (fun _=>true) held fuel 27 cs.toList=some (d,ps):=h;obtain ⟨y0,y1,y2,n,hd,hl,h0,h1,h2⟩:=trod_struct3 Tryz.underlying27 h;have hc:Tryz.prog.cellsOf 27=4:=by kernel_rfl
 rw [hc] at hcs;obtain ⟨c0,c1,c2,c3,rfl⟩:∃c0 c1 c2 c3,cs=#[c0,c1,c2,c3]:=by
  match cs,hcs with
  | ⟨[c0,c1,c2,c3]⟩,_=>exact ⟨c0,c1,c2,c3,rfl⟩
 have h0:DataW.trod enc Tryz.prog w base (fun _=>true) held n 25 [c0,c1]=some y0:=h0;have h1:DataW.trod enc Tryz.prog w base (fun _=>true) held n 23 [c2]=some y1:=h1;have h2:DataW.trod enc Tryz.prog w base (fun _=>true) held n 23 [c3]=some y2:=h2;obtain ⟨q0,q1,k,_,_,g0,g1⟩:=trod_struct2 Tryz.underlying25 h0;have g0:DataW.trod enc Tryz.prog w base (fun _=>true) held k 22 [c0]=some q0:=g0;have g1:DataW.trod enc Tryz.prog w base (fun _=>true) held k 23 [c1]=some q1:=g1;obtain ⟨a0,n0,p0,T,e0,hT⟩:=Qb g0;obtain ⟨a1,n1,p1,X,e1,hX,_,_⟩:=qI g1;obtain ⟨a2,n2,p2,pk,e2,hp,_,_⟩:=qI h1;obtain ⟨a3,n3,p3,mr,e3,hm,kX,hsh⟩:=qI h2;cases e0;cases e1;cases e2;cases e3;refine ⟨T,X,pk,mr,⟨_,_,_,_,rfl,⟨_,_,rfl,hT,hX⟩,hp,hm⟩,?_⟩;rcases hsh with ⟨_,h0⟩|⟨es,sp,hy,hes⟩
 ·omega
 ·have hb:Tryz.prog.bytesOf 3=8:=by kernel_rfl
  have he:d=.agg [y0.1,y1.1,y2.1]:=congrArg Prod.fst hd
  have hm2:=hsz ((es.length+sp.length)*Tryz.prog.bytesOf 3) (by
   rw [he,DataW.weights,Tryz.underlying27]
   exact DataW.weights_mem_each (j:=2) (t:=23) rfl (by simp [hy];rfl) _ (by simp [DataW.weights,Tryz.underlying23]))
  rw [hb] at hm2;unfold reachBytes at hm2;omega
end
end
open Go.RowKit Go.Cd Go.ChangeShapes Go.WideShapes Go.Deep
def Am (a b c:Int):DataW Unit:=.agg [.lit (.int .u8 a),.lit (.int .u8 b),.lit (.int .i32 c)]
def ZO:DataW Unit:=.agg [Am 0 127 0,Am 192 31 128,Am 224 15 2048,Am 240 7 65536]
theorem ym {w:World} {fuel i:Nat} {cs:Array Value} {ds:List (DataW Unit)} {p:List MemPlace} {a b c:Int} (hc:∀i,w.cell? ⟨0,i,none⟩=cs[i]?)
 (h:DataW.trod (fun _=>()) Tryz.prog w 0 (fun _=>true) false fuel 210 cs.toList=some (.agg ds,p)) (hi:i<4) (hd:ds[i]? = some (Am a b c)) :
 w.cell? ⟨0,i*3,none⟩=some (.int .u8 a)∧w.cell? ⟨0,i*3+1,none⟩=some (.int .u8 b)∧w.cell? ⟨0,i*3+2,none⟩=some (.int .i32 c):=by
 obtain ⟨fuel',d,q,hd',htr⟩:=Lib.array_elem Tryz.underlying210 h i hi;obtain rfl:d=Am a b c:=Option.some.inj (hd'.symm.trans hd);have hz:Tryz.prog.cellsOf 209=3:=by kernel_rfl
 rw [hz] at htr;obtain ⟨y0,y1,y2,n,hx,hl,h0,h1,h2⟩:=trod_struct3 Tryz.underlying209 htr;rw [hz] at hl;generalize hcs:(cs.toList.drop (i*3)).take 3=l at *
 match l,hl with
 | [c0,c1,c2],_=>
   have h0:DataW.trod (fun _=>()) Tryz.prog w 0 (fun _=>true) false n 5 [c0]=some y0:=h0;have h1:DataW.trod (fun _=>()) Tryz.prog w 0 (fun _=>true) false n 5 [c1]=some y1:=h1;have h2:DataW.trod (fun _=>()) Tryz.prog w 0 (fun _=>true) false n 21 [c2]=some y2:=h2;obtain ⟨z0,e0,f0,_⟩:=DataW.trod_int Tryz.underlying5 h0;obtain ⟨z1,e1,f1,_⟩:=DataW.trod_int Tryz.underlying5 h1;obtain ⟨z2,e2,f2,_⟩:=DataW.trod_int Tryz.underlying21 h2;have hx:=congrArg Prod.fst hx;rw [f0,f1,f2] at hx;simp only [Am,DataW.agg.injEq,List.cons.injEq,DataW.lit.injEq,Lit.int.injEq,true_and,and_true] at hx;obtain ⟨rfl,rfl,rfl⟩:=hx;cases e0;cases e1;cases e2;have g:=fun k:Nat=>congrArg (fun l:List Value=>l[k]?) hcs;simp only [List.getElem?_take,List.getElem?_drop] at g;have g0:=g 0;have g1:=g 1;have g2:=g 2;refine ⟨?_,?_,?_⟩
   ·rw [hc];simpa using g0
   ·rw [hc];simpa using g1
   ·rw [hc];simpa using g2
theorem JF {w:World} (hh:Lib.VarReads Tryz.prog w "cedilla/utf.heads" ZO) (hp:Lib.VarReads Tryz.prog w "internal/strconv.uint64pow10" (Lib.tabData .u64 Lib.pow10Tab)) (hs:w.ShapedOpen Tryz.prog):ek w:=by
 refine ⟨?_,?_,?_⟩
 ·obtain ⟨g,t,cs,fuel,p,hg,hty,hv,htr⟩:=hh;obtain rfl:g=0:=Option.some.inj (hg.symm.trans (by kernel_rfl));obtain rfl:t=210:=Option.some.inj (hty.symm.trans (by kernel_rfl));have hc:=fun i=>World.var?_cell hg hv i;have h0:=ym (i:=0) hc htr (by decide) rfl;have h1:=ym (i:=1) hc htr (by decide) rfl;have h2:=ym (i:=2) hc htr (by decide) rfl;have h3:=ym (i:=3) hc htr (by decide) rfl;exact ⟨h0.1,h0.2.1,h0.2.2,h1.1,h1.2.1,h1.2.2,h2.1,h2.2.1,h2.2.2,h3.1,h3.2.1,h3.2.2⟩
 ·exact Go.Proofs.cell_of_shapedOpen_int (zero:=#[.int .i64 0]) (t:=3) hs (of_decide_eq_true (by kernel_rfl)) (by kernel_rfl) rfl (by kernel_rfl) (by kernel_rfl) Tryz.underlying3
 ·obtain ⟨g,t,cs,fuel,p,hg,hty,hv,htr⟩:=hp;have h6:(Tryz.prog.globalNamed "internal/strconv.uint64pow10").bind (fun g=>(Tryz.prog.globals[g]?).map (·.type))=some 346:=by kernel_rfl
  rw [hg,Option.bind_some,hty] at h6;obtain rfl:t=346:=Option.some.inj h6;have e:=Lib.cells_of_tab Tryz.underlying346 Tryz.underlying69 (by kernel_rfl) (by kernel_rfl) htr;unfold Lib.TabIs;rw [hv,←e]
end Go.Proofs.YtmpkfkoficehpaaGreatDoor
