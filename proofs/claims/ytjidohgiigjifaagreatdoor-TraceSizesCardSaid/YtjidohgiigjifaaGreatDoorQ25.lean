/- TraceSizes: a machine made of a text has as many states as the document says; no condition. -/
import Derived.Test.YtjidohgiigjifaaGreatDoorQ24
import Derived.OpenShut
import Derived.DataShut
import Derived.Deep.Slices
import Derived.Deep.Strs
import Derived.SizedLaws
import Derived.Lib.LaidTab
import Derived.Lib.LaidU8
import Derived.ShapedOpen
set_option maxRecDepth 100000
set_option maxHeartbeats 6400000
namespace Go.Proofs.YtjidohgiigjifaaGreatDoor
open Go.RowKit Go.Cd
theorem Ue {w:World} {B n cap:Nat} {a:Option Addr} {l:List Nat} (h:w.ownsRow B aU 1 (.slice a n cap) n (ints l)) (h0:0<n):∃g,a=some ⟨g,0,none⟩∧B≤g∧g<w.heap.size:=by
 rcases h.2 with ⟨h1,h2⟩|⟨g,cap',cur,h1,hB,hh,_⟩
 ·omega
 ·cases h1;exact ⟨g,rfl,hB,block_lt hh⟩
theorem ints_at {l:List Nat} {k:Nat} (hk:k<(ints l).length) {x:Nat} (h:l[k]? = some x):(ints l)[k]=.int .i64 x:=by
 have e:(ints l)[k]? = some (.int .i64 x):=by simp [ints,h]
 rw [List.getElem?_eq_getElem hk] at e;exact Option.some.inj e
theorem JI {w:World} {v u:Value} {T:List aF} {X L:List Nat} (h:iw w v T X) (hl:bD w u (ints L)) (hmax:T.length<1000000) (Qw:L.length<1000000) :
 Calls Tryz.prog 32 #[v,u] w fun e w'=>∃r,e=.returned r∧w'.ownsRow w.heap.size aU 1 r L.length (ints (iP (aB T) L))∧Below w.heap.size w w':=by
 have HT:=ae h;obtain ⟨a,nt,cap,ax,nx,cx,rfl⟩:=h.shape;obtain ⟨n,hn⟩:=af L.length;have HL:=ae hl;obtain ⟨al,cl,rfl,_,_⟩:=bD.kS hl hn;have HN:=ae hn;rw [←hn] at Qw;have hil:(ints L).length=n:=by rw [dw,hn]
 obtain ⟨W0,hW⟩:=af (w.alloc (.cells #[.slice a nt cap,.slice ax nx cx] 25));have hb:Below w.heap.size w W0:=by rw [hW];exact ai _
 have i0:Is W0 w.heap.size #[.slice a nt cap,.slice ax nx cx] 25:=by rw [hW];exact Is.new _ _ _
 have hs0:W0.heap.size=w.heap.size+1:=by rw [hW];simp
 have o0:(W0.alloc (.cells #[] aU)).ownsRow (w.heap.size+1) aU 1 (.slice (some ⟨w.heap.size+1,0,none⟩) 0 0) 0 []:=by
  have:=il W0 aU;rw [hs0] at this;exact this
 have hE1:Below (w.heap.size+1) W0 (W0.alloc (.cells #[] aU)):=by rw [←hs0];exact ai _
 have Nc:=ae (HL.out.mono (hb.trans (hE1.mono (by omega))));have hsz1:(W0.alloc (.cells #[] aU)).heap.size=w.heap.size+2:=by simp [hs0]
 obtain ⟨W1,hW1⟩:=af (W0.alloc (.cells #[] aU));rw [←hW1] at o0 hE1 Nc hsz1;rw [hW] at hW1;have hs1:w.heap.size+1≤W1.heap.size:=by omega
 have HB1:Below w.heap.size w W1:=hb.trans (hE1.mono (by omega));have i1:Is W1 w.heap.size #[.slice a nt cap,.slice ax nx cx] 25:=i0.low hE1 (by omega);have HK:=ae (fun (W:World) (E:Below w.heap.size w W) (c:Nat)=>kR (HT.out.mono E) c hmax);have HI1:=ae i1;have Xw:=ae HB1;have O0:=ae o0;rw [hW1] at HI1 Xw O0 Nc hs1;clear h hl hn o0 hW hsz1 hs0 i0 hE1 i1 HB1 hb hW1 HL;go_enter Tryz.func32,Tryz.ntmps32;go_wp2_with (at_builtin;refine bG rfl _ _ 23 rfl (w.heap.size+1) aU _ 8 gL _ 0 _ rfl O0.out _ (ints L) rfl Nc.out (gM L) (by rw [hil];unfold maxLen;omega) (by rw [hil];omega) hs1 ?_;intro v1 w3 o1 hg1;obtain ⟨a1,wI,rfl,_,_⟩:=az o1);have HB3:Below w.heap.size w w3:=Xw.out.grown hg1 Xw.out.size (fun k hk=>by have:=(O0.out.lt k hk).1;omega);have I3:=HI1.out.keep O0.out hg1 (by omega);have o3:w3.ownsRow (w.heap.size+1) aU 1 (.slice a1 n wI) n (ints L):=by
  have:=o1;rw [hil] at this;simpa using this
 (try simp only [dw,←HN.out,hil,Nat.zero_add])
 have aah:=HB3.size;have c3:=I3.at 0 rfl;clear O0 Nc HI1 Xw hg1 o1 hs1;obtain ⟨K,hK⟩:=af (aB T);rw [←hK] at HK;have HKT:=ae hK;clear hK;go_loopw [6] (fun tv wr=>∃(t:Nat) (O:List Nat),t≤n∧tv=.int .i64 t∧O.length=n∧passes K (n-t) O=passes K n L∧wr.ownsRow (w.heap.size+1) aU 1 (.slice a1 n wI) n (ints O)∧Is wr w.heap.size #[.slice a nt cap,.slice ax nx cx] 25∧Below w.heap.size w wr) (fun tv _=>n-(intOf tv).toNat)
 case atStart=>exact ⟨0,L,Nat.zero_le _,rfl,HN.out.symm,by simp,o3,I3,HB3⟩
 case round=>
  clear o3 I3 HB3 aah c3;obtain ⟨t,O,ht,rfl,hOn,hps,ho,hI,hB⟩:=hrel;by_cases htn:t<n
  ·obtain ⟨a0,R0,rfl⟩:∃a0 R0,O=a0::R0:=by
    cases O with
    | nil=>simp at hOn;omega
    | cons a0 R0=>exact ⟨a0,R0,rfl⟩
   have HPS:=ae (show ∀O',O'=pass K (a0::R0)→passes K (n-(t+1)) O'=passes K n L from fun O' e=>by
    rw [←hps,show n-t=(n-(t+1))+1 by omega,e];rfl)
   have KP:=ae (show R0.length+1=n by simpa using hOn);clear hps hOn;have HO:=ae ho;clear ho;go_wp2_with fail;go_loopw [7] (fun iv w2=>∃(i k:Nat) (D R:List Nat) (b:Nat),k+1=i∧i≤n∧iv=.int .i64 i∧D.length=k∧i+R.length=n∧D++EU K b R=pass K (a0::R0)∧w2.ownsRow (w.heap.size+1) aU 1 (.slice a1 n wI) n (ints (D++b::R))∧Is w2 w.heap.size #[.slice a nt cap,.slice ax nx cx] 25∧Below w.heap.size w w2) (fun iv _=>n-(intOf iv).toNat)
   case atStart=>exact ⟨1,0,[],R0,a0,rfl,by omega,rfl,rfl,by have:=KP.out;omega,rfl,HO.out,hI,hB⟩
   case round=>
    clear hI hB;obtain ⟨i,k,D,R,b,hki,hin,rfl,hDk,hRn,Uf,ho,hI,hB⟩:=hrel;by_cases hin2:i<n
    ·obtain ⟨b2,R2,rfl⟩:∃b2 R2,R=b2::R2:=by
      cases R with
      | nil=>simp at hRn;omega
      | cons b2 R2=>exact ⟨b2,R2,rfl⟩
     obtain ⟨g,rfl,hg0,y9⟩:=Ue ho (by omega);have hik:(i:Int)-1=(k:Int):=by omega
     have HBU:=ae Uf;have hlen:(ints (D++b::b2::R2)).length=n:=by rw [dw];simp at hRn ⊢;omega
     obtain ⟨hc1,hf1⟩:=gJ ho (j:=k) (by rw [hlen];omega);obtain ⟨hc2,hf2⟩:=gJ ho (j:=i) (by rw [hlen];omega);rw [ints_at (x:=b) _ (by rw [List.getElem?_append_right (by omega),hDk];simp)] at hc1;rw [ints_at (x:=b2) _ (by rw [List.getElem?_append_right (by omega),hDk,←hki,Nat.add_sub_cancel_left];rfl)] at hc2;have HST:=ae (fun (u u':Value)=>((ho.stored k u).1.stored i u').1);have JU:=ae hDk;have Xy:=ae ho;have HRN:=ae hRn;have hne:k≠i:=by omega
     have CK1:=ae (fun (W:World) (E:Below w.heap.size w W)=>HK.out W E b);have CK2:=ae (fun (W:World) (E:Below w.heap.size w W)=>HK.out W E b2);obtain ⟨ka,hka⟩:=af (K b);obtain ⟨kb,hkb⟩:=af (K b2);rw [←hka] at CK1;rw [←hkb] at CK2;have UQ:=ae hka;have HKB:=ae hkb;have t0:=hI.at 0 rfl;have t1:=hI.at 1 rfl;have g0:=Gr.cell (ah wr) t0;have g1:=Gr.cell (ah wr) t1;have g2:=Gr.cell (ah wr) hc1;clear Uf hDk hlen hka hkb ho hRn;go_wp2_with fail;refine aD (Array.replicate 8 true) 8 0 mixed (by rfl) ?_;refine ay [0,1,2,3,4,5] 2 rfl (by kernel_rfl) ?_
     iterate 6 (refine aC rfl ?_;go_big_quiet_step (rfl))
     refine ak ?_;refine aL 6 (by kernel_rfl) rfl ?_;go_wp2_with fail;refine (CK1.out _ hB.drew).mono ?_;rintro e w5 ⟨rfl,h5⟩;go_wp2_with fail;refine aH h5 ?_;refine ay [7] 0 rfl (by kernel_rfl) ?_
     iterate 1 (refine aC rfl ?_;go_big_quiet_step (rfl))
     refine ak ?_;refine aI [] (by kernel_rfl) ?_;refine tail_nil ?_;have E5:=ag (ah wr) h5;have qQ:=hB.trans (E5.mono hB.size);have t0:=aA E5 t0;have t1:=aA E5 t1;have hc1:=aA E5 hc1;have hc2:=aA E5 hc2;have g0:=Gr.cell (ah w5) t0;have g1:=Gr.cell (ah w5) t1;have g2:=Gr.cell (ah w5) hc2;have aav:=ae (aG Xy.out E5);have hI5:=hI.mono E5;clear Xy hB hI h5 E5 CK1;go_wp2_with fail;refine aD (Array.replicate 7 true) 7 0 mixed (by rfl) ?_;refine ay [0,1,2,3,4] 2 rfl (by kernel_rfl) ?_
     iterate 5 (refine aC rfl ?_;go_big_quiet_step (rfl))
     refine ak ?_;refine aL 5 (by kernel_rfl) rfl ?_;go_wp2_with fail;refine (CK2.out _ qQ.drew).mono ?_;rintro e w6 ⟨rfl,h6⟩;go_wp2_with fail;refine aH h6 ?_;refine ay [6] 0 rfl (by kernel_rfl) ?_
     iterate 1 (refine aC rfl ?_;go_big_quiet_step (rfl))
     refine ak ?_;refine aI [] (by kernel_rfl) ?_;refine tail_nil ?_;have E6:=ag (ah w5) h6;have kZ:=qQ.trans (E6.mono qQ.size);have hc1:=aA E6 hc1;have hc2:=aA E6 hc2;have Uv:=aG aav.out E6;have hI6:=hI5.mono E6;have hlen:(ints (D++b::b2::R2)).length=n:=by rw [dw];have:=HRN.out;have:=JU.out;simp at *;omega
     have hf1:=(gJ Uv (j:=k) (by rw [hlen];omega)).2;have hf2:=(gJ Uv (j:=i) (by rw [hlen];omega)).2;have HST:=ae (fun (u u':Value)=>((Uv.stored k u).1.stored i u').1);have HO6:=ae Uv;clear aav qQ hI5 h6 E6 CK2 Uv hlen;by_cases hsw:0<kb∧kb<ka
     ·obtain ⟨s1,s2⟩:=hsw
      have HBN:=ae (show (D++[b2])++EU K b R2=pass K (a0::R0) by
       rw [←HBU.out,nJ,if_pos (by rw [←UQ.out,←HKB.out];exact ⟨s1,s2⟩)];simp)
      go_wp2_with fail;go_region;go_wp2;go_roundw
      case rel=>
       have hl1:(ints (D++b::b2::R2)).set k (.int .i64 b2)=ints (D++b2::b2::R2):=by
        simp only [ints,List.map_append,List.map_cons];rw [List.set_append_right _ _ (by rw [List.length_map,JU.out];exact Nat.le_refl _),List.length_map,JU.out,Nat.sub_self];rfl
       have hl2:(ints (D++b2::b2::R2)).set i (.int .i64 b)=ints ((D++[b2])++b::R2):=by
        simp only [ints,List.map_append,List.map_cons,List.map_nil];rw [List.set_append_right _ _ (by rw [List.length_map,JU.out];omega),List.length_map,JU.out,←hki,Nat.add_sub_cancel_left];simp
       have ho7:=HST.out (.int .i64 b2) (.int .i64 b);rw [hl1,hl2] at ho7;refine ⟨i+1,i,D++[b2],R2,b,rfl,by omega,rfl,by simp [JU.out];omega,by have:=HRN.out;simp at this;omega,HBN.out,aG ho7 (ah _),((hI6.put (by omega) _).put (by omega) _).mono (ah _),(aj (aj kZ (by omega)) (by omega)).drew⟩
      case measure=>simp [intOf];omega
     ·have HBN:=ae (show (D++[b])++EU K b2 R2=pass K (a0::R0) by
       rw [←HBU.out,nJ,if_neg (by rw [←UQ.out,←HKB.out];exact hsw)];simp)
      have TD:=ae (show ∃(i' k':Nat) (D' R':List Nat) (b':Nat),k'+1=i'∧i'≤n∧i'=i+1∧D'.length=k'∧i'+R'.length=n∧D'++EU K b' R'=pass K (a0::R0)∧w6.ownsRow (w.heap.size+1) aU 1 (.slice (some ⟨g,0,none⟩) n wI) n (ints (D'++b'::R')) from
       ⟨i+1,i,D++[b],R2,b2,rfl,by omega,rfl,by simp [JU.out];omega,by have:=HRN.out;simp at this;omega,HBN.out,by have:=HO6.out;simpa using this⟩)
      by_cases aeJ:0<kb
      ·have hkk:¬kb<ka:=fun h=>hsw ⟨aeJ,h⟩;clear hsw;go_wp2;go_roundw
       case rel=>
        obtain ⟨i',k',D',R',b',h1,h2,rfl,h4,h5,h6,h7⟩:=TD.out;exact ⟨i+1,k',D',R',b',h1,h2,rfl,h4,h5,h6,h7,hI6,kZ⟩
       case measure=>simp [intOf];omega
      ·clear hsw;go_wp2;go_roundw
       case rel=>
        obtain ⟨i',k',D',R',b',h1,h2,rfl,h4,h5,h6,h7⟩:=TD.out;exact ⟨i+1,k',D',R',b',h1,h2,rfl,h4,h5,h6,h7,hI6,kZ⟩
       case measure=>simp [intOf];omega
    ·have akj:i=n:=by omega
     have hR0:R=[]:=List.length_eq_zero_iff.1 (by omega);have L_:=ae (HPS.out (D++[b]) (by rw [←Uf,hR0];rfl));have HOF:=ae (show wr.ownsRow (w.heap.size+1) aU 1 (.slice a1 n wI) n (ints (D++[b])) from by rw [hR0] at ho;exact ho);have JU:=ae (show (D++[b]).length=n by simp;omega);clear Uf hR0 ho hDk hRn;go_wp2;go_roundw
     case rel=>exact ⟨t+1,D++[b],by omega,rfl,JU.out,L_.out,HOF.out,hI,hB⟩
     case measure=>simp [intOf];omega
  ·have aaw:t=n:=by omega
   have HF:=ae (show wr.ownsRow w.heap.size aU 1 (.slice a1 n wI) L.length (ints (iP K L)) from by
    rw [aaw,Nat.sub_self] at hps;have e1:O=iP K L:=by rw [←xQ,←HN.out,←hps];rfl
    rw [←e1,←HN.out]
    exact aW ho (by omega))
   clear hps ho hOn aaw;go_wp2;go_ret;exact ⟨_,rfl,by rw [←HKT.out];exact HF.out,hB⟩
theorem pY {w:World} {v u:Value} {T:List aF} {X L:List Nat} (h:iw w v T X) (hV:bE T X) (hl:bD w u (ints L)) (hL:∀x∈L,aX x) (hmax:T.length<1000000) (Qw:L.length<10000) :
 Calls Tryz.prog 8 #[v,u] w fun e w'=>∃r,e=.returned r∧w'.ownsRow w.heap.size aU 1 r (xR T L).length (ints (xR T L))∧Below w.heap.size w w':=by
 have HT:=ae h;obtain ⟨a,nt,cap,ax,nx,cx,rfl⟩:=h.shape;obtain ⟨n,hn⟩:=af L.length;obtain ⟨al,cl,rfl,_,hx⟩:=bD.kS hl hn;have HN:=ae hn;have HX:=ae hx;have HL:=ae hL;have G6:n<10000:=by omega
 have HV:=ae hV;have Uk:=ae (fun l=>pQ hV l);have RJ:=ae (fun c=>iR hV c);have HFU:=ae (fun (W:World) (E:Below w.heap.size w W) (c:Nat) (hc:c<1114112)=>rR (HT.out.mono E) c hc (fun r hr x hx=>((hV.fine r hr).2.2.2.2 x hx).2.1) (fun r hr=>Nat.le_trans (hV.fine r hr).2.2.1 (by decide)) hmax);have Uz:=ae (show ∀(W:World) (E:Below w.heap.size w W) (c:Nat) (hc:c<1114112),Calls Tryz.prog 31 #[.agg #[.slice a nt cap,.slice ax nx cx],.int .i64 c] W fun e w'=>∃r,e=.returned (.tuple #[r,.bool true])∧bD w' r (ints (aK T c))∧Below W.heap.size W w' from fun W E c hc=>(HFU.out W E c hc).mono fun e w' ⟨r,h1,h2,h3⟩=>⟨r,by rw [h1,decide_eq_true (l7 hV c)],h2 (l7 hV c),h3⟩);have hb:=ai (w:=w) (.cells #[.slice a nt cap,.slice ax nx cx] 25);obtain ⟨W0,hW⟩:=af (w.alloc (.cells #[.slice a nt cap,.slice ax nx cx] 25));have d0:W0.cell? ⟨w.heap.size,0,none⟩=some (.slice a nt cap):=by rw [hW];unfold World.cell?;rw [heap_alloc_new];rfl
 have d1:W0.cell? ⟨w.heap.size,1,none⟩=some (.slice ax nx cx):=by rw [hW];unfold World.cell?;rw [heap_alloc_new];rfl
 rw [←hW] at hb;obtain ⟨W1,hW1⟩:=af (W0.alloc (.cells #[] aU));have hb1:Below W0.heap.size W0 W1:=by subst hW1;exact ai _
 have o1:W1.ownsRow W0.heap.size aU 1 (.slice (some ⟨w.heap.size+1,0,none⟩) 0 0) 0 (ints []):=by
  subst hW1;have:=il W0 aU;rw [show W0.heap.size=w.heap.size+1 by rw [hW];simp] at this ⊢;exact this
 rw [hW] at hW1;have hs0:W0.heap.size=w.heap.size+1:=by rw [hW];simp
 have HHT:=ae (fun (W:World) (E:Below w.heap.size w W)=>HT.out.mono E);clear hW h hl hx hn hL hV Qw;go_enter Tryz.func8,Tryz.ntmps8;go_wp2_with fail;rw [←hW1];clear hW1;go_loopw [5,13] (fun ov iv wr=>∃j:Nat,j≤n∧iv=.int .i64 j∧wr.ownsRow W0.heap.size aU 1 ov ((L.take j).flatMap (aK T)).length (ints ((L.take j).flatMap (aK T)))∧Below W0.heap.size W0 wr) (fun _ iv _=>n-(intOf iv).toNat)
 case atStart=>exact ⟨0,Nat.zero_le _,rfl,o1,hb1⟩
 case round=>
  clear o1 hb1;obtain ⟨j,hj,rfl,ho,hE⟩:=hrel;have dC:=hb.trans (hE.mono hb.size);have e0:=aA hE d0;have e1:=aA hE d1;obtain ⟨UT,WA,rfl,_,_⟩:=az ho;by_cases hjn:j<n
  ·have hjl:j<L.length:=by have:=HN.out;omega
   obtain ⟨b,off,rfl,hbs,hc⟩:=HX.out j hjl;have hc:=aA dC hc;have hx:=(HL.out _ (List.getElem_mem hjl)).1;have hlen:=Uk.out (L.take j);rw [List.length_take] at hlen;have ES:=ae (show (L.take (j+1)).flatMap (aK T)=(L.take j).flatMap (aK T)++aK T L[j] by rw [List.take_succ_eq_append_getElem hjl,List.flatMap_append];simp);generalize (L.take j).flatMap (aK T)=S at *;generalize L[j]=x at *;have FA:=ae (Uz.out wr dC x hx);have hfl:=RJ.out x;have HO:=ae ho;clear ho hx;go_wp2_with fail;refine FA.out.mono ?_;rintro e w2 ⟨r2,rfl,s2,h2⟩;have hE2:=ag hE h2;have ho2:=ae (aG HO.out h2);have S2:=ae s2;generalize aK T x=m at *;obtain ⟨nm,hnm⟩:=af m.length;obtain ⟨a2,c2,rfl,_,_⟩:=bD.kS s2 hnm;have hil:(ints m).length=nm:=by rw [dw,hnm]
   have qh:=ae hnm;have hsl:S.length≤320000:=by omega
   rw [←hnm] at hfl;clear FA s2 hnm HO e0 e1;go_wp2_with (at_builtin;refine bG rfl _ _ 23 rfl W0.heap.size aU _ 8 gL _ S.length _ rfl ho2.out _ (ints m) rfl S2.out (gM m) (by rw [hil];unfold maxLen;omega) (by rw [hil];omega) hE2.size ?_;intro v' w3 hown' hgrow);have j_:=hE2.grown hgrow hE2.size (fun k hk=>(ho2.out.lt k hk).1);go_roundw
   case rel=>exact ⟨j+1,by omega,rfl,by rw [ES.out,kE,List.length_append,←qh.out,←hil];exact hown',j_⟩
   case measure=>simp [intOf];omega
  ·obtain rfl:n=j:=by omega
   have hlen:=Uk.out L;rw [←HN.out] at hlen;have FIN:=ae (JI (HHT.out wr dC) (Sl.aT ho).any hmax (by rw [List.take_of_length_le (by rw [HN.out];exact Nat.le_refl _)];omega));have EQ:=ae (show iP (aB T) ((L.take n).flatMap (aK T))=xR T L by rw [List.take_of_length_le (by rw [HN.out];exact Nat.le_refl _)];rfl);have EL:=ae (show ((L.take n).flatMap (aK T)).length=(xR T L).length by rw [←EQ.out];exact (by rw [←xQ,xN]));rw [EQ.out,EL.out] at FIN;rw [EL.out];rw [EL.out] at ho;clear ho;go_wp2_with fail;refine FIN.out.mono ?_;rintro e w3 ⟨r3,rfl,o3,h3⟩;go_wp2;go_ret;exact ⟨_,rfl,aW o3 (by have:=dC.size;omega),dC.trans (h3.mono dC.size)⟩
theorem JJ {K:Nat→Nat} {a:Nat}:∀{l:List Nat},iQ K (a::l)↔(∀b,l.head? = some b→¬swp K a b)∧iQ K l
 | []=>by simp [iQ]
 | b::l=>by simp [iQ]
theorem MQ {K:Nat→Nat} {c x:Nat}:∀{l:List Nat},(jb K c l).head? = some x→x=c∨l.head? = some x
 | [],h=>.inl (by simpa [jb] using h.symm)
 | d::l,h=>by
   unfold jb at h
   split at h
   ·right;simpa using h
   ·left;simpa using h.symm
theorem yZ {K:Nat→Nat} {c:Nat}:∀{l:List Nat},iQ K l→iQ K (jb K c l)
 | [],_=>by simp [jb,iQ]
 | d::l,h=>by
   unfold jb
   split
   ·rename_i hd;rw [JJ] at h ⊢;refine ⟨fun b hb hs=>?_,yZ h.2⟩;rcases MQ hb with rfl|hb
    ·unfold swp at hs;omega
    ·exact h.1 b hb hs
   ·rename_i hd;exact ⟨hd,h⟩
theorem y5 (K:Nat→Nat):∀l:List Nat,iQ K (iP K l)
 | []=>trivial
 | _::l=>yZ (y5 K l)
theorem BK {F:Nat→List Nat}:∀{l:List Nat},(∀x∈l,F x=[x])→l.flatMap F=l
 | [],_=>rfl
 | a::l,h=>by
   rw [List.flatMap_cons,h a (.head _),BK fun x hx=>h x (.tail _ hx)];rfl
structure Ky (T:List aF) (l:List Nat):Prop where
 leaf:∀x∈l,aK T x=[x]
 ord:iQ (aB T) l
theorem Ky.of {T:List aF} {X:List Nat} (hV:bE T X) (l:List Nat):Ky T (xR T l):=by
 refine ⟨fun x hx=>?_,y5 _ _⟩;obtain ⟨y,_,hy⟩:=List.mem_flatMap.1 ((F9 _).1 hx);exact K6 hV hy
theorem and7 (x:Int):∃k:Nat,k≤7∧bits .and .i64 x 7=(k:Int):=by
 have h7:(BitVec.ofInt 64 7).toNat=2 ^ 3-1:=by decide
 have key:(BitVec.ofInt 64 x &&& BitVec.ofInt 64 7).toNat=(BitVec.ofInt 64 x).toNat % 2 ^ 3:=by
  rw [BitVec.toNat_and,h7,Nat.and_two_pow_sub_one_eq_mod]
 refine ⟨(BitVec.ofInt 64 x).toNat % 2 ^ 3,by omega,?_⟩;show IntKind.i64.wrap ((BitVec.ofInt 64 x &&& BitVec.ofInt 64 7).toNat:Nat)=_;rw [key,IntKind.wrap_i64];omega
theorem aeK {w:World} {b:Nat}:fw w (.slice (some ⟨b,0,none⟩) 0 0) 0:=by
 unfold fw;rw [bV];exact ⟨_,0,rfl,Nat.le_refl _,.inl ⟨rfl,fun h=>by cases h⟩⟩
theorem WR {w:World}:fw (w.alloc (.cells #[.int .i64 1] aU)) (.slice (some ⟨w.heap.size,0,none⟩) 1 1) 1:=by
 unfold fw;rw [iK (by decide) (by decide),show 1 / 10=0 from rfl,bV];exact Ip w #[.int .i64 1] aU
def Ac (K:Nat→Nat) (A:List Nat) (i:Nat):Nat:=if i=0 then 0 else K (A.getD (i-1) 0)
theorem Ad {w:World} (hG:bZ w) {v:Value} {T0:List fM} {X0 pk mr:List Int} (h:BJ w v T0 X0 pk mr) (hmr:mr.length<281474976710656) (many:Int) :
 Calls Tryz.prog 3 #[v,.int .i64 many] w fun e w'=>e=.returned (.bool true)∧Below w.heap.size w w':=by
 obtain ⟨r0,x0,pv,mv,rfl,hT,hp,hm⟩:=id h;obtain ⟨r0',x0',he,hr0,hx0⟩:=id hT;simp only [Value.agg.injEq,Array.mk.injEq,List.cons.injEq,and_true] at he;obtain ⟨rfl,rfl⟩:=he;obtain ⟨ra,nt,rc,rfl⟩:∃a n c,r0=.slice a n c:=by obtain ⟨a,cap,rfl,_⟩:=hr0;exact ⟨_,_,_,rfl⟩
 obtain ⟨xa,nx,xc,rfl⟩:∃a n c,x0=.slice a n c:=by obtain ⟨a,cap,rfl,_⟩:=hx0.out;exact ⟨_,_,_,rfl⟩
 obtain ⟨pa,np,pc,rfl⟩:∃a n c,pv=.slice a n c:=by obtain ⟨a,cap,rfl,_⟩:=hp.out;exact ⟨_,_,_,rfl⟩
 obtain ⟨ma,nm,mc,rfl⟩:∃a n c,mv=.slice a n c:=by obtain ⟨a,cap,rfl,_⟩:=hm.out;exact ⟨_,_,_,rfl⟩
 obtain ⟨w0,hw0⟩:=af (w.alloc (.cells #[.slice ra nt rc,.slice xa nx xc,.slice pa np pc,.slice ma nm mc] 27));have hb0:Below w.heap.size w w0:=by rw [hw0];exact ai _
 have k0:Is w0 w.heap.size #[.slice ra nt rc,.slice xa nx xc,.slice pa np pc,.slice ma nm mc] 27:=by rw [hw0];exact Is.new _ _ _
 have AW:=ae (JA (hG.mono hb0));have MD:=ae (fun (W:World) (E:Below w.heap.size w W)=>Ub (hG.mono E) (h.mono E) hmr 12 (by decide));have HG:=ae hG;obtain ⟨k7,hk7,akm⟩:=and7 many;have zk:IntKind.i64.wrap (1+(k7:Int))=((k7+1:Nat):Int):=by rw [IntKind.wrap_i64];omega
 clear hG h hT hr0 hx0 hp hm hmr;go_enter Tryz.func3,Tryz.ntmps3;go_wp2_with fail;rw [←hw0];clear hw0;refine AW.out.mono ?_;rintro e wa ⟨rfl,hba⟩;have k1:=k0.mono hba;have hB0:=ag hb0 hba;have e0:=k1.at 0 rfl;have e1:=k1.at 1 rfl;have e2:=k1.at 2 rfl;have e3:=k1.at 3 rfl;clear AW k0 hb0 hba;go_wp2_with fail;refine (MD.out wa hB0).mono ?_;rintro e w1 ⟨p,r,T,X,lv,L,rfl,hD,Uc,hF,hLv,Qw,WN,hb1⟩;obtain ⟨rr,rx,rfl,⟨a1,c1,rfl,_,hrw⟩,hrx⟩:=id Uc;obtain ⟨a2,n2,c2,rfl⟩:∃a n c,rx=.slice a n c:=by obtain ⟨a,c,h,_⟩:=bD.out hrx;exact ⟨_,_,_,h⟩
 obtain ⟨a3,n3,c3,rfl⟩:∃a n c,lv=.slice a n c:=by obtain ⟨a,c,h,_⟩:=bD.out hLv;exact ⟨_,_,_,h⟩
 have hV:=hF.valid;have XH:T.length<1000:=by have:=hF.len;omega
 have hwl:(xR T L).length≤384:=by
  have h1:=pQ hV L;rw [Ga];omega
 have hB1:=ag hB0 hb1;obtain ⟨n,hn⟩:=af T.length;rw [←hn] at Uc ⊢;obtain ⟨w2,hw2⟩:=af (w1.alloc (.cells #[.slice a1 n c1,.slice a2 n2 c2] 25));have iC:Below w1.heap.size w1 w2:=by rw [hw2];exact ai _
 have t2:Is w2 w1.heap.size #[.slice a1 n c1,.slice a2 n2 c2] 25:=by rw [hw2];exact Is.new _ _ _
 have hB2:=ag hB1 iC;have WT:=Uc.mono iC;have hD2:=hD.mono iC;have CH:=ae (pY WT hV (hLv.mono iC) WN (by omega) (by omega));have HV:=ae hV;have HW:=ae (Ky.of hV L);have HC:=ae (F_ hV WN);clear hD Uc hF hLv Qw WN hrw hrx hn hV k1 e0 e1 e2 e3 hB0 hb1 hB1 iC MD;obtain ⟨U,hU⟩:=af (xR T L);rw [←hU] at CH HW HC hwl;clear hU;have e0:=t2.at 0 rfl;have e1:=t2.at 1 rfl;go_wp2_with fail;rw [←hw2];obtain ⟨tb,htb⟩:=af w1.heap.size;rw [←htb] at t2 ⊢;clear hw2 e0 e1 htb;refine CH.out.mono ?_;rintro e w3 ⟨u,rfl,hu,hb3⟩;obtain ⟨au,cu,rfl,_,_⟩:=az hu;have HU:=ae (Sl.aT hu);have hB3:=ag hB2 hb3;obtain ⟨m,hm⟩:=af U.length;rw [←hm] at HU hwl ⊢;have HM:=ae hm;have XM:=WT.mono hb3;have hD3:=hD2.mono hb3;have t3:=t2.mono hb3;clear hu hm WT hD2 t2 hB2 hb3 CH;go_wp2_with fail;go_loopw [10,36] (fun ov iv wr=>∃j:Nat,j≤k7+1∧iv=.int .i64 j∧wr.ownsRow w3.heap.size aU 1 ov (j*m) (ints (List.replicate j U).flatten)∧Below w3.heap.size w3 wr) (fun _ iv _=>k7+1-(intOf iv).toNat)
 case atStart=>exact ⟨0,Nat.zero_le _,rfl,by simpa [ints] using World.ownsRow_nil w3 w3.heap.size aU 1,Below.refl _ _⟩
 case round=>
  obtain ⟨j,hj,rfl,ho,hE⟩:=hrel;by_cases hjn:j<k7+1
  ·have zj:decide ((j:Int)<((k7+1:Nat):Int))=true:=by simp;omega
   obtain ⟨UT,WA,rfl,_,_⟩:=az ho;have HO:=ae ho;have hs:=hE.size;have SU:=ae (HU.out.mono hE).any;have hil:(ints U).length=m:=by rw [dw];exact HM.out.symm
   have hjm:(j+1)*m=j*m+m:=Nat.succ_mul j m;have WU:j*m≤7*384:=Nat.mul_le_mul (by omega) hwl
   have HF:=ae (show ints (List.replicate (j+1) U).flatten=ints (List.replicate j U).flatten++ints U by
    rw [List.replicate_succ',List.flatten_append,kE];simp)
   obtain ⟨q,hq⟩:=af (j*m);rw [←hq] at HO hjm WU ⊢;have HJM:=ae hjm;clear ho hq hjm;go_wp2_with (at_builtin;refine bG rfl _ _ 23 rfl w3.heap.size aU _ 8 gL _ q _ rfl HO.out _ (ints U) rfl SU.out (gM U) (by rw [hil];unfold maxLen;omega) (by rw [hil];omega) hs ?_;intro v' w9 hown' hgrow);have RN:=hE.grown hgrow hs (fun k hk=>(HO.out.lt k hk).1);have N_:=ae (show w9.ownsRow w3.heap.size aU 1 v' ((j+1)*m) (ints (List.replicate (j+1) U).flatten) from by rw [HF.out,HJM.out,←hil];exact hown');clear hown' hgrow;go_roundw
   case rel=>exact ⟨j+1,by omega,by simp,N_.out,RN⟩
   case measure=>simp [intOf];omega
  ·have zj:decide ((j:Int)<((k7+1:Nat):Int))=false:=by simp;omega
   obtain rfl:j=k7+1:=by omega
   have WU:(k7+1)*m≤8*384:=Nat.mul_le_mul (by omega) hwl;obtain ⟨V,hVV⟩:=af ((List.replicate (k7+1) U).flatten);have hVm:∀x∈V,x∈U:=fun x hx=>by
    rw [hVV] at hx;obtain ⟨l,hl,hx⟩:=List.mem_flatten.1 hx;rw [List.eq_of_mem_replicate hl] at hx;exact hx
   have hVl:V.length=(k7+1)*m:=by rw [hVV,List.length_flatten,List.map_replicate,List.sum_replicate_nat,←HM.out]
   obtain ⟨nv,hnv⟩:=af ((k7+1)*m);rw [←hnv] at hVl WU;rw [←hVV,←hnv] at ho;have Kh:(xR T V).length=nv:=by
    rw [←hVl,Ga,BK fun x hx=>HW.out.leaf x (hVm x hx)]
   have HA:=ae (Ky.of HV.out V);have HAC:=ae (F_ HV.out (fun c hc=>HC.out c (hVm c hc)));have T4:=XM.mono hE;have D4:=hD3.mono hE;have t4:=t3.mono hE;have hB4:=ag hB3 hE;have CH:=ae (pY T4 HV.out (Sl.aT ho).any (fun c hc=>HC.out c (hVm c hc)) (by omega) (by omega));obtain ⟨A,hA⟩:=af (xR T V);rw [←hA] at Kh HA HAC CH;obtain ⟨va,vc,rfl,_,_⟩:=az ho;have e0:=t4.at 0 rfl;have e1:=t4.at 1 rfl;have ako:=ae hVl;clear ho hVV hVm hA hVl hnv XM hD3 t3 hE hB3 HU HM HW HC;go_wp2_with fail;refine CH.out.mono ?_;rintro e w5 ⟨r5,rfl,hr5,hb5⟩;have qQ:=ag hB4 hb5;obtain ⟨aa,ca,rfl,_,_⟩:=az hr5;obtain ⟨w6,wH⟩:=af ((w5.alloc (.cells #[] aU)).alloc (.cells #[.int .i64 1] aU));have hb6:Below w5.heap.size w5 w6:=by rw [wH];exact dF _ _
   have kZ:=ag qQ hb6;have b56:=ag hb5 hb6;have T6:=T4.mono b56;have HD6:=ae (D4.mono b56);have t6:=t4.mono b56;have SA6:=ae ((Sl.aT hr5).mono hb6);have Wj:Hid (fw w6 (.slice (some ⟨w5.heap.size,0,none⟩) 0 0) 0):=ae aeK
   have HS1:Hid (fw w6 (.slice (some ⟨w5.heap.size+1,0,none⟩) 1 1) 1):=ae (by
    rw [wH];have:=WR (w:=w5.alloc (.cells #[] aU));rw [World.size_alloc] at this
    exact this)
   obtain ⟨N,hN⟩:=af A.length;rw [←hN] at Kh SA6 ⊢;obtain ⟨_,_,hq,_,hx⟩:=bD.kS SA6.out.any hN;injection hq with hq1 _ hq3;subst hq1;subst hq3;have HAX:=ae hx;have aeR:=SA6;have HN:=ae hN;have hN9:N≤3072:=by omega
   obtain ⟨K,hK⟩:=af (aB T);have CLS:Hid (∀(W:World),Below w6.heap.size w6 W→∀c:Nat,Calls Tryz.prog 9 #[.agg #[.slice a1 n c1,.slice a2 n2 c2],.int .i64 c] W fun e w'=>e=.returned (.int .i64 (K c:Nat))∧Below W.heap.size W w'):=ae (fun W E c=>by rw [hK];exact kR (T6.mono E) c (by omega));obtain ⟨Z,hZ⟩:=af (zZ (dU K A));have hZt:tot K 0 A 1=Z:=by rw [hZ,TQ]
   have hZb:Z≤2*(N+2) ^ N:=by rw [←hZt,hN];exact (yU K A.length A 0 1 (Nat.le_refl _)).2
   have UC:Hid (∀x,x≤Z→(aV 10 x).length≤20000∧(aV Go.Cd.B x).length≤20000):=ae (fun x hx=>⟨Nat.le_trans (GD (by decide) (Nat.le_trans hx hZb) (by omega)) (by omega),Nat.le_trans (GD (by decide) (Nat.le_trans hx hZb) (by omega)) (by omega)⟩);have HOT:Hid (∀(i p o:Nat),o≤tot K p (A.drop i) o):=ae (fun i p o=>(yU K (A.drop i).length (A.drop i) p o (Nat.le_refl _)).1);have HZT:=ae hZt;have HZ:=ae hZ;have HK:=ae hK;have et0:=t6.at 0 rfl;have et1:=t6.at 1 rfl;have HT0:=ae et0;have HT1:=ae et1;clear hr5 hb5 hb6 b56 qQ hB4 T4 D4 t4 hN hx Kh hK hZ hZt hZb T6 et0 et1 t6 CH;go_wp2_with fail;rw [←wH];clear wH;go_loopw [11,12,13,14,15,16] (fun sv ov iv _ _ _ wr=>∃i s o:Nat,i≤N+1∧iv=.int .i64 i∧fw wr sv s∧fw wr ov o∧Below w6.heap.size w6 wr∧(i≤N→s+tot K (Ac K A i) (A.drop i) o=Z)∧(i=N+1→s=Z)) (fun _ _ iv _ _ _ _=>N+1-(intOf iv).toNat)
   case atStart=>exact ⟨0,0,1,Nat.zero_le _,rfl,Wj.out,HS1.out,Below.refl _ _,fun _=>by rw [Nat.zero_add,←HZT.out];rfl,fun h=>by omega⟩
   case round=>
    obtain ⟨i,s,o,hi,rfl,hs,ho,hE,hI,WV⟩:=hrel;by_cases UW:i≤N
    ·have zc:decide ((i:Int)≤(N:Int))=true:=by simp;omega
     have hI:=hI UW;have hoZ:=HOT.out i (Ac K A i) o;have hsd:=(UC.out s (by omega)).1;have hod:=(UC.out o (by omega)).1;have HS:=ae hs;have HO:=ae ho;have f0:=aA hE HT0.out;have f1:=aA hE HT1.out;clear hs ho WV hoZ;by_cases hiE:i=N
     ·have qP:Hid ((i+1≤N→(s+o)+tot K (Ac K A (i+1)) (A.drop (i+1)) 1=Z)∧(i+1=N+1→s+o=Z)):=ae ⟨fun h=>by omega,fun _=>by
       have hd:A.drop i=[]:=List.drop_of_length_le (by have:=HN.out;omega);rw [hd] at hI
       simpa [tot] using hI⟩
      have zq:((i:Int)==(N:Int))=true:=by simp;omega
      clear hI;go_upto_region 19 with fail;refine aD (Array.replicate 13 true) 13 0 mixed (by rfl) ?_;refine ay [0,1,2,3,4,5,6,7,8,9] 3 rfl (by kernel_rfl) ?_;refine aZ ?_
      iterate 10 (refine aO rfl ?_)
      refine a_ ?_
      iterate 10 (go_big_quiet_step (rfl))
      refine ak ?_;refine aL 10 (by kernel_rfl) rfl ?_;go_wp2_with fail;refine aH (Below.refl _ _) ?_;refine ay [11,12] 0 rfl (by kernel_rfl) ?_;refine aZ ?_
      iterate 2 (refine aO rfl ?_)
      refine a_ ?_
      iterate 2 (go_big_quiet_step (rfl))
      refine ak ?_;refine aI [] (by kernel_rfl) ?_;refine tail_nil ?_;have CJ:=ag hE (ah wr);have WW:=ae (HS.out.mono (ah wr));have WX:=ae (HO.out.mono (ah wr));clear hE HS HO f0 f1;generalize wr.drew=wd at *;have AD:=ae (Bw WW.out WX.out (by omega) (by omega));clear WW WX;go_wp2_with fail;refine AD.out.mono ?_;rintro e w7 ⟨rs,rfl,hrs,h7⟩;obtain ⟨w8,hw8⟩:=af (w7.alloc (.cells #[.int .i64 1] aU));have h8:Below w7.heap.size w7 w8:=by rw [hw8];exact ai _
      have ZF:=ae (hrs.mono h8);have H18:Hid (fw w8 (.slice (some ⟨w7.heap.size,0,none⟩) 1 1) 1):=ae (by rw [hw8];exact WR);have vk:=ag (ag CJ h7) h8;clear hrs AD h7 h8 CJ;go_wp2;rw [←hw8];clear hw8;go_roundw
      case rel=>exact ⟨i+1,s+o,1,by omega,by first|(simp;done)|(simp;omega),ZF.out,H18.out,vk,qP.out.1,qP.out.2⟩
      case measure=>simp [intOf];omega
     ·have hiA:i<A.length:=by have:=HN.out;omega
      have zq:((i:Int)==(N:Int))=false:=by simp;omega
      obtain ⟨b,off,rfl,_,Ug⟩:=HAX.out i hiA;have Ug:=aA hE Ug;have hd:A.drop i=A[i]::A.drop (i+1):=List.drop_eq_getElem_cons hiA;have hpc:Ac K A (i+1)=K A[i]:=by
       unfold Ac;rw [if_neg (by omega),Nat.add_sub_cancel,List.getD_eq_getElem?_getD,List.getElem?_eq_getElem hiA];rfl
      rw [hd] at hI;obtain ⟨c,hc⟩:=af (A[i]);rw [←hc] at hI hpc Ug;obtain ⟨kc,hkc⟩:=af (K c);have CL:=ae (fun W E=>CLS.out W E c);rw [←hkc] at CL hpc;have g0:=Gr.cell (ah wr) f0;have g1:=Gr.cell (ah wr) f1;have g2:=Gr.cell (ah wr) Ug;have DC:=ae hkc;have HCI:=ae hc;have HD9:=ae hd;have XQ:=ae hpc;have HI:=ae hI;clear hkc hc hd hpc hI;go_upto_region 19 with fail;refine aD (Array.replicate 13 true) 13 0 mixed (by rfl) ?_;refine ay [0,1,2,3,4,5,6,7,8,9] 3 rfl (by kernel_rfl) ?_
      iterate 10 (refine aC rfl ?_;go_big_quiet_step (rfl))
      refine ak ?_;refine aL 10 (by kernel_rfl) rfl ?_;clear g0 g1 g2;go_wp2_with fail;refine (CL.out _ (ag hE (ah wr))).mono ?_;rintro e wd ⟨rfl,hd1⟩;go_wp2_with fail;refine aH hd1 ?_;have CJ:=ag (ag hE (ah wr)) hd1;have WW:=ae ((HS.out.mono (ah wr)).mono hd1);have WX:=ae ((HO.out.mono (ah wr)).mono hd1);have f0:=aA (ag (ah wr) hd1) f0;have f1:=aA (ag (ah wr) hd1) f1;have Ug:=aA (ag (ah wr) hd1) Ug;clear hE HS HO hd1;by_cases hk0:kc=0
      ·subst hk0
       have qP:Hid ((i+1≤N→(s+o)+tot K (Ac K A (i+1)) (A.drop (i+1)) 1=Z)∧(i+1=N+1→s+o=Z)):=ae ⟨fun _=>by
        have hI:=HI.out;rw [XQ.out];unfold tot at hI;rw [if_pos DC.out.symm] at hI
        omega,fun h=>by omega⟩
       clear f0 f1 Ug;refine ay [11,12] 0 rfl (by kernel_rfl) ?_
       iterate 2 (refine aC rfl ?_;go_big_quiet_step (rfl))
       refine ak ?_;refine aI [] (by kernel_rfl) ?_;refine tail_nil ?_;have AD:=ae (Bw WW.out WX.out (by omega) (by omega));clear WW WX;go_wp2_with fail;refine AD.out.mono ?_;rintro e w7 ⟨rs,rfl,hrs,h7⟩;obtain ⟨w8,hw8⟩:=af (w7.alloc (.cells #[.int .i64 1] aU));have h8:Below w7.heap.size w7 w8:=by rw [hw8];exact ai _
       have ZF:=ae (hrs.mono h8);have H18:Hid (fw w8 (.slice (some ⟨w7.heap.size,0,none⟩) 1 1) 1):=ae (by rw [hw8];exact WR);have vk:=ag (ag CJ h7) h8;clear hrs AD h7 h8 CJ;go_wp2;rw [←hw8];clear hw8;go_roundw
       case rel=>exact ⟨i+1,s+o,1,by omega,by first|(simp;done)|(simp;omega),ZF.out,H18.out,vk,qP.out.1,qP.out.2⟩
       case measure=>simp [intOf];omega
      ·have zk0:((kc:Int)==0)=false:=by simp;omega
       refine ay [11,12] 0 rfl (by kernel_rfl) ?_
       iterate 2 (refine aC rfl ?_;go_big_quiet_step (rfl))
       refine ak ?_;refine aI [] (by kernel_rfl) ?_;refine tail_nil ?_;have g0:=Gr.cell (ah wd) f0;have g1:=Gr.cell (ah wd) f1;have g2:=Gr.cell (ah wd) Ug;go_upto_region 22 with fail;refine aD (Array.replicate 7 true) 7 0 mixed (by rfl) ?_;refine ay [0,1,2,3,4] 2 rfl (by kernel_rfl) ?_
       iterate 5 (refine aC rfl ?_;go_big_quiet_step (rfl))
       refine ak ?_;refine aL 5 (by kernel_rfl) rfl ?_;clear g0 g1 g2;go_wp2_with fail;refine (CL.out _ (ag CJ (ah wd))).mono ?_;rintro e we ⟨rfl,he1⟩;go_wp2_with fail;refine aH he1 ?_;refine ay [6] 0 rfl (by kernel_rfl) ?_
       iterate 1 (refine aC rfl ?_;go_big_quiet_step (rfl))
       refine ak ?_;refine aI [] (by kernel_rfl) ?_;refine tail_nil ?_;have hEe:=ag (ag CJ (ah wd)) he1;have HSe:=ae ((WW.out.mono (ah wd)).mono he1);have HOe:=ae ((WX.out.mono (ah wd)).mono he1);clear CJ WW WX he1 f0 f1 Ug CL;have f0:=aA hEe HT0.out;have f1:=aA hEe HT1.out;by_cases hi0:i=0
       ·have zg:decide ((0:Int)<(i:Int))=false:=by simp;omega
        have zg2:decide (0<i)=false:=by simp;omega
        have hne:Ac K A i≠kc:=by unfold Ac;rw [if_pos hi0];omega
        have G5:=ae hne;clear hne hi0;go_upto_region 23 with fail;refine aD (Array.replicate 13 true) 13 0 mixed (by rfl) ?_;refine ay [0,1,2,3,4,5,6,7,8,10] 3 rfl (by kernel_rfl) ?_;refine aZ ?_
        iterate 10 (refine aO rfl ?_)
        refine a_ ?_
        iterate 10 (go_big_quiet_step (rfl))
        refine ak ?_;refine aL 9 (by kernel_rfl) rfl ?_;go_wp2_with fail;refine aH (Below.refl _ _) ?_;refine ay [11,12] 0 rfl (by kernel_rfl) ?_;refine aZ ?_
        iterate 2 (refine aO rfl ?_)
        refine a_ ?_
        iterate 2 (go_big_quiet_step (rfl))
        refine ak ?_;refine aI [] (by kernel_rfl) ?_;refine tail_nil ?_;have U0:=ag hEe (ah we);have XR:=ae (HSe.out.mono (ah we));have XT:=ae (HOe.out.mono (ah we));clear hEe HSe HOe f0 f1 zg zg2;generalize we.drew=wf at *;go_wp2_with fail;go_loopw [15,16] (fun kv jv wr=>∃j q:Nat,i≤j∧j≤N∧jv=.int .i64 j∧kv=.int .i64 q∧q=1+(j-i)∧Below wf.heap.size wf wr∧bL K kc (A.drop i)=(j-i)+bL K kc (A.drop j)) (fun _ jv _=>N-(intOf jv).toNat)
        case atStart=>exact ⟨i,1,Nat.le_refl _,by omega,rfl,rfl,by omega,Below.refl _ _,by simp⟩
        case round=>
         obtain ⟨j,q,hij,hjN,rfl,rfl,hq,Kb,hrl⟩:=hrel;have dC:=ag U0 Kb;have f0:=aA dC HT0.out;have f1:=aA dC HT1.out;have HQ:=ae hq;have WY:=ae hrl;have QS:q≤3100:=by omega
         clear hq hrl;by_cases hjE:j=N
         ·have zj:decide ((j:Int)<(N:Int))=false:=by simp;omega
          have WZ:decide (j<N)=false:=by simp;omega
          have KP:Hid (bL K kc (A.drop i)=j-i):=ae (by
           have:=WY.out;rw [List.drop_of_length_le (i:=j) (by have:=HN.out;omega)] at this
           exact this)
          go_upto_region 26 with fail;refine aD (Array.replicate 14 true) 14 0 mixed (by rfl) ?_;refine ay [0,1,2,3,4,5,6,7,8,9,11] 3 rfl (by kernel_rfl) ?_;refine aZ ?_
          iterate 11 (refine aO rfl ?_)
          refine a_ ?_
          iterate 11 (go_big_quiet_step (rfl))
          refine ak ?_;refine aL 10 (by kernel_rfl) rfl ?_;go_wp2_with fail;refine aH (Below.refl _ _) ?_;refine ay [12,13] 0 rfl (by kernel_rfl) ?_;refine aZ ?_
          iterate 2 (refine aO rfl ?_)
          refine a_ ?_
          iterate 2 (go_big_quiet_step (rfl))
          refine ak ?_;refine aI [] (by kernel_rfl) ?_;refine tail_nil ?_;have hfg:=ag Kb (ah wr);clear f0 f1 zj WZ dC Kb;generalize wr.drew=wg at *;have Qp:=ag U0 hfg;have Qq:=ae (XR.out.mono hfg);have Qr:=ae (XT.out.mono hfg);have zu:IntKind.u64.wrap (q:Int)=q:=by rw [IntKind.wrap_u64];omega
          have NU:=ae (Dk q (by omega) wg)
          have qP:Hid (s+tot K (Ac K A (i+1)) (A.drop (i+1)) (o*q)=Z):=ae (by
           have hI:=HI.out;have hr:=KP.out;have hqq:=HQ.out;have e1:K c≠0:=by rw [←DC.out];exact hk0
           have e2:¬K c=Ac K A i:=by rw [←DC.out];exact fun h=>G5.out h.symm
           rw [XQ.out];rw [HD9.out,←HCI.out,DC.out] at hr;unfold tot at hI;rw [if_neg e1,if_neg e2,hr] at hI;rw [DC.out,hqq,Nat.add_comm 1]
           exact hI)
          clear hfg;go_wp2_with fail;refine NU.out.mono ?_;rintro e wh ⟨kd,rfl,hkd,yt⟩;have MU:=ae (oJ (Qr.out.mono yt) hkd (by omega) (Nat.lt_of_le_of_lt ((aR (n:=5) (by decide:2≤10)).2 (by omega)) (by decide)));have Qs:=ae (Qq.out.mono yt);have Qt:=ag Qp yt;clear hkd yt NU Qq Qr Qp;go_wp2_with fail;refine MU.out.mono ?_;rintro e wi ⟨mo,rfl,hmo,hi1⟩;have W9:=ae (Qs.out.mono hi1);have W_:=ae hmo;have Xa:=ag Qt hi1;clear hmo hi1 MU Qs Qt;go_wp2;go_roundw
          case rel=>exact ⟨i+1,s,o*q,by omega,by first|(simp;done)|(simp;omega),W9.out,W_.out,Xa,fun _=>qP.out,fun h=>by omega⟩
          case measure=>simp [intOf];omega
         ·have zj:decide ((j:Int)<(N:Int))=true:=by simp;omega
          have WZ:decide (j<N)=true:=by simp;omega
          have hjA:j<A.length:=by have:=HN.out;omega
          obtain ⟨b',off',hbq,_,Uh⟩:=HAX.out j hjA;injection hbq with hbq;injection hbq with q1 q2;subst q1;subst q2;have Uh:=aA dC Uh;have hdj:A.drop j=A[j]::A.drop (j+1):=List.drop_eq_getElem_cons hjA;generalize A[j]=cj at *;obtain ⟨kj,hkj⟩:=af (K cj);have CL:=ae (fun W E=>CLS.out W E cj);rw [←hkj] at CL;have g0:=Gr.cell (ah wr) f0;have g1:=Gr.cell (ah wr) f1;have g2:=Gr.cell (ah wr) Uh;have HKJ:=ae hkj;have HDJ:=ae hdj;clear hkj hdj;go_upto_region 26 with fail;refine aD (Array.replicate 14 true) 14 0 mixed (by rfl) ?_;refine ay [0,1,2,3,4,5,6,7,8,9,11] 3 rfl (by kernel_rfl) ?_
          iterate 11 (refine aC rfl ?_;go_big_quiet_step (rfl))
          refine ak ?_;refine aL 10 (by kernel_rfl) rfl ?_;clear g0 g1 g2;go_wp2_with fail;refine (CL.out _ (ag dC (ah wr))).mono ?_;rintro e wg ⟨rfl,hg1⟩;go_wp2_with fail;refine aH hg1 ?_;have hfg:=ag (ag Kb (ah wr)) hg1;clear f0 f1 dC Kb hg1 CL Uh;by_cases hkk:kj=kc
          ·have Qu:((kj:Int)==(kc:Int))=true:=by simp;omega
           refine ay [12,13] 0 rfl (by kernel_rfl) ?_
           iterate 2 (refine aC rfl ?_;go_big_quiet_step (rfl))
           refine ak ?_;refine aI [] (by kernel_rfl) ?_;refine tail_nil ?_;have QG:bL K kc (A.drop i)=(j+1-i)+bL K kc (A.drop (j+1)):=by
            have h1:=WY.out;rw [HDJ.out] at h1;have:bL K kc (cj::A.drop (j+1))=bL K kc (A.drop (j+1))+1:=by
             conv=>lhs;unfold bL
             rw [if_pos (by rw [←HKJ.out];exact hkk)]
            omega
           have HR9:=ae QG;clear QG Qu;go_wp2;go_roundw
           case rel=>exact ⟨j+1,q+1,by omega,by omega,by simp,by simp,by have:=HQ.out;omega,hfg,HR9.out⟩
           case measure=>simp [intOf];omega
          ·have Qu:((kj:Int)==(kc:Int))=false:=by simp;omega
           have KP:Hid (bL K kc (A.drop i)=j-i):=ae (by
            have h1:=WY.out;rw [HDJ.out] at h1;have:bL K kc (cj::A.drop (j+1))=0:=by
             conv=>lhs;unfold bL
             rw [if_neg (by rw [←HKJ.out];exact hkk)]
            omega)
           refine ay [12,13] 0 rfl (by kernel_rfl) ?_
           iterate 2 (refine aC rfl ?_;go_big_quiet_step (rfl))
           refine ak ?_;refine aI [] (by kernel_rfl) ?_;refine tail_nil ?_;clear Qu zj WZ;have Qp:=ag U0 hfg;have Qq:=ae (XR.out.mono hfg);have Qr:=ae (XT.out.mono hfg);have zu:IntKind.u64.wrap (q:Int)=q:=by rw [IntKind.wrap_u64];omega
           have NU:=ae (Dk q (by omega) wg)
           have qP:Hid (s+tot K (Ac K A (i+1)) (A.drop (i+1)) (o*q)=Z):=ae (by
            have hI:=HI.out;have hr:=KP.out;have hqq:=HQ.out;have e1:K c≠0:=by rw [←DC.out];exact hk0
            have e2:¬K c=Ac K A i:=by rw [←DC.out];exact fun h=>G5.out h.symm
            rw [XQ.out];rw [HD9.out,←HCI.out,DC.out] at hr;unfold tot at hI;rw [if_neg e1,if_neg e2,hr] at hI;rw [DC.out,hqq,Nat.add_comm 1]
            exact hI)
           clear hfg;go_wp2_with fail;refine NU.out.mono ?_;rintro e wh ⟨kd,rfl,hkd,yt⟩;have MU:=ae (oJ (Qr.out.mono yt) hkd (by omega) (Nat.lt_of_le_of_lt ((aR (n:=5) (by decide:2≤10)).2 (by omega)) (by decide)));have Qs:=ae (Qq.out.mono yt);have Qt:=ag Qp yt;clear hkd yt NU Qq Qr Qp;go_wp2_with fail;refine MU.out.mono ?_;rintro e wi ⟨mo,rfl,hmo,hi1⟩;have W9:=ae (Qs.out.mono hi1);have W_:=ae hmo;have Xa:=ag Qt hi1;clear hmo hi1 MU Qs Qt;go_wp2;go_roundw
           case rel=>exact ⟨i+1,s,o*q,by omega,by first|(simp;done)|(simp;omega),W9.out,W_.out,Xa,fun _=>qP.out,fun h=>by omega⟩
           case measure=>simp [intOf];omega
       ·have zg:decide ((0:Int)<(i:Int))=true:=by simp;omega
        have zg2:decide (0<i)=true:=by simp;omega
        have zs:IntKind.i64.wrap ((i:Int)-1)=((i-1:Nat):Int):=by rw [IntKind.wrap_i64];omega
        have aaA:i-1<A.length:=by omega
        obtain ⟨b',off',hbq,_,ca1⟩:=HAX.out (i-1) aaA;injection hbq with hbq;injection hbq with q1 q2;subst q1;subst q2;have ca1:=aA hEe ca1;have hpi:Ac K A i=K A[i-1]:=by
         unfold Ac;rw [if_neg hi0,List.getD_eq_getElem?_getD,List.getElem?_eq_getElem aaA];rfl
        generalize A[i-1]=cp at *;obtain ⟨kp,hkp⟩:=af (K cp);have CL:=ae (fun W E=>CLS.out W E cp);rw [←hkp] at CL hpi;have g0:=Gr.cell (ah we) f0;have g1:=Gr.cell (ah we) f1;have g2:=Gr.cell (ah we) ca1;have HPI:=ae hpi;clear hkp hpi;go_upto_region 23 with fail;refine aD (Array.replicate 13 true) 13 0 mixed (by rfl) ?_;refine ay [0,1,2,3,4,5,6,7,8,10] 3 rfl (by kernel_rfl) ?_
        iterate 10 (refine aC rfl ?_;go_big_quiet_step (rfl))
        refine ak ?_;refine aL 9 (by kernel_rfl) rfl ?_;clear g0 g1 g2;go_wp2_with fail;refine (CL.out _ (ag hEe (ah we))).mono ?_;rintro e wf ⟨rfl,hf1⟩;go_wp2_with fail;refine aH hf1 ?_;have U0:=ag (ag hEe (ah we)) hf1;have XR:=ae ((HSe.out.mono (ah we)).mono hf1);have XT:=ae ((HOe.out.mono (ah we)).mono hf1);clear hEe HSe HOe f0 f1 hf1 CL ca1;by_cases hkk:kp=kc
        ·have Qu:((kp:Int)==(kc:Int))=true:=by simp;omega
         refine ay [11,12] 0 rfl (by kernel_rfl) ?_
         iterate 2 (refine aC rfl ?_;go_big_quiet_step (rfl))
         refine ak ?_;refine aI [] (by kernel_rfl) ?_;refine tail_nil ?_
         have qP:Hid (s+tot K (Ac K A (i+1)) (A.drop (i+1)) o=Z):=ae (by
          have hI:=HI.out;rw [XQ.out];have e1:K c≠0:=by rw [←DC.out];exact hk0
          have e2:K c=Ac K A i:=by rw [←DC.out,HPI.out];exact hkk.symm
          unfold tot at hI;rw [if_neg e1,if_pos e2,HPI.out,hkk] at hI
          exact hI)
         clear Qu;go_wp2;go_roundw
         case rel=>exact ⟨i+1,s,o,by omega,by simp,XR.out,XT.out,U0,fun _=>qP.out,fun h=>by omega⟩
         case measure=>simp [intOf];omega
        ·have Qu:((kp:Int)==(kc:Int))=false:=by simp;omega
         have G5:Hid (Ac K A i≠kc):=ae (by rw [HPI.out];exact hkk);refine ay [11,12] 0 rfl (by kernel_rfl) ?_
         iterate 2 (refine aC rfl ?_;go_big_quiet_step (rfl))
         refine ak ?_;refine aI [] (by kernel_rfl) ?_;refine tail_nil ?_;clear Qu zg zg2 zs;go_wp2_with fail;go_loopw [15,16] (fun kv jv wr=>∃j q:Nat,i≤j∧j≤N∧jv=.int .i64 j∧kv=.int .i64 q∧q=1+(j-i)∧Below wf.heap.size wf wr∧bL K kc (A.drop i)=(j-i)+bL K kc (A.drop j)) (fun _ jv _=>N-(intOf jv).toNat)
         case atStart=>exact ⟨i,1,Nat.le_refl _,by omega,rfl,rfl,by omega,Below.refl _ _,by simp⟩
         case round=>
          obtain ⟨j,q,hij,hjN,rfl,rfl,hq,Kb,hrl⟩:=hrel;have dC:=ag U0 Kb;have f0:=aA dC HT0.out;have f1:=aA dC HT1.out;have HQ:=ae hq;have WY:=ae hrl;have QS:q≤3100:=by omega
          clear hq hrl;by_cases hjE:j=N
          ·have zj:decide ((j:Int)<(N:Int))=false:=by simp;omega
           have WZ:decide (j<N)=false:=by simp;omega
           have KP:Hid (bL K kc (A.drop i)=j-i):=ae (by
            have:=WY.out;rw [List.drop_of_length_le (i:=j) (by have:=HN.out;omega)] at this
            exact this)
           go_upto_region 26 with fail;refine aD (Array.replicate 14 true) 14 0 mixed (by rfl) ?_;refine ay [0,1,2,3,4,5,6,7,8,9,11] 3 rfl (by kernel_rfl) ?_;refine aZ ?_
           iterate 11 (refine aO rfl ?_)
           refine a_ ?_
           iterate 11 (go_big_quiet_step (rfl))
           refine ak ?_;refine aL 10 (by kernel_rfl) rfl ?_;go_wp2_with fail;refine aH (Below.refl _ _) ?_;refine ay [12,13] 0 rfl (by kernel_rfl) ?_;refine aZ ?_
           iterate 2 (refine aO rfl ?_)
           refine a_ ?_
           iterate 2 (go_big_quiet_step (rfl))
           refine ak ?_;refine aI [] (by kernel_rfl) ?_;refine tail_nil ?_;have hfg:=ag Kb (ah wr);clear f0 f1 zj WZ dC Kb;generalize wr.drew=wg at *;have Qp:=ag U0 hfg;have Qq:=ae (XR.out.mono hfg);have Qr:=ae (XT.out.mono hfg);have zu:IntKind.u64.wrap (q:Int)=q:=by rw [IntKind.wrap_u64];omega
           have NU:=ae (Dk q (by omega) wg)
           have qP:Hid (s+tot K (Ac K A (i+1)) (A.drop (i+1)) (o*q)=Z):=ae (by
            have hI:=HI.out;have hr:=KP.out;have hqq:=HQ.out;have e1:K c≠0:=by rw [←DC.out];exact hk0
            have e2:¬K c=Ac K A i:=by rw [←DC.out];exact fun h=>G5.out h.symm
            rw [XQ.out];rw [HD9.out,←HCI.out,DC.out] at hr;unfold tot at hI;rw [if_neg e1,if_neg e2,hr] at hI;rw [DC.out,hqq,Nat.add_comm 1]
            exact hI)
           clear hfg;go_wp2_with fail;refine NU.out.mono ?_;rintro e wh ⟨kd,rfl,hkd,yt⟩;have MU:=ae (oJ (Qr.out.mono yt) hkd (by omega) (Nat.lt_of_le_of_lt ((aR (n:=5) (by decide:2≤10)).2 (by omega)) (by decide)));have Qs:=ae (Qq.out.mono yt);have Qt:=ag Qp yt;clear hkd yt NU Qq Qr Qp;go_wp2_with fail;refine MU.out.mono ?_;rintro e wi ⟨mo,rfl,hmo,hi1⟩;have W9:=ae (Qs.out.mono hi1);have W_:=ae hmo;have Xa:=ag Qt hi1;clear hmo hi1 MU Qs Qt;go_wp2;go_roundw
           case rel=>exact ⟨i+1,s,o*q,by omega,by first|(simp;done)|(simp;omega),W9.out,W_.out,Xa,fun _=>qP.out,fun h=>by omega⟩
           case measure=>simp [intOf];omega
          ·have zj:decide ((j:Int)<(N:Int))=true:=by simp;omega
           have WZ:decide (j<N)=true:=by simp;omega
           have hjA:j<A.length:=by have:=HN.out;omega
           obtain ⟨b',off',hbq,_,Uh⟩:=HAX.out j hjA;injection hbq with hbq;injection hbq with q1 q2;subst q1;subst q2;have Uh:=aA dC Uh;have hdj:A.drop j=A[j]::A.drop (j+1):=List.drop_eq_getElem_cons hjA;generalize A[j]=cj at *;obtain ⟨kj,hkj⟩:=af (K cj);have CL:=ae (fun W E=>CLS.out W E cj);rw [←hkj] at CL;have g0:=Gr.cell (ah wr) f0;have g1:=Gr.cell (ah wr) f1;have g2:=Gr.cell (ah wr) Uh;have HKJ:=ae hkj;have HDJ:=ae hdj;clear hkj hdj;go_upto_region 26 with fail;refine aD (Array.replicate 14 true) 14 0 mixed (by rfl) ?_;refine ay [0,1,2,3,4,5,6,7,8,9,11] 3 rfl (by kernel_rfl) ?_
           iterate 11 (refine aC rfl ?_;go_big_quiet_step (rfl))
           refine ak ?_;refine aL 10 (by kernel_rfl) rfl ?_;clear g0 g1 g2;go_wp2_with fail;refine (CL.out _ (ag dC (ah wr))).mono ?_;rintro e wg ⟨rfl,hg1⟩;go_wp2_with fail;refine aH hg1 ?_;have hfg:=ag (ag Kb (ah wr)) hg1;clear f0 f1 dC Kb hg1 CL Uh;by_cases hkk:kj=kc
           ·have Qu:((kj:Int)==(kc:Int))=true:=by simp;omega
            refine ay [12,13] 0 rfl (by kernel_rfl) ?_
            iterate 2 (refine aC rfl ?_;go_big_quiet_step (rfl))
            refine ak ?_;refine aI [] (by kernel_rfl) ?_;refine tail_nil ?_;have QG:bL K kc (A.drop i)=(j+1-i)+bL K kc (A.drop (j+1)):=by
             have h1:=WY.out;rw [HDJ.out] at h1;have:bL K kc (cj::A.drop (j+1))=bL K kc (A.drop (j+1))+1:=by
              conv=>lhs;unfold bL
              rw [if_pos (by rw [←HKJ.out];exact hkk)]
             omega
            have HR9:=ae QG;clear QG Qu;go_wp2;go_roundw
            case rel=>exact ⟨j+1,q+1,by omega,by omega,by simp,by simp,by have:=HQ.out;omega,hfg,HR9.out⟩
            case measure=>simp [intOf];omega
           ·have Qu:((kj:Int)==(kc:Int))=false:=by simp;omega
            have KP:Hid (bL K kc (A.drop i)=j-i):=ae (by
             have h1:=WY.out;rw [HDJ.out] at h1;have:bL K kc (cj::A.drop (j+1))=0:=by
              conv=>lhs;unfold bL
              rw [if_neg (by rw [←HKJ.out];exact hkk)]
             omega)
            refine ay [12,13] 0 rfl (by kernel_rfl) ?_
            iterate 2 (refine aC rfl ?_;go_big_quiet_step (rfl))
            refine ak ?_;refine aI [] (by kernel_rfl) ?_;refine tail_nil ?_;clear Qu zj WZ;have Qp:=ag U0 hfg;have Qq:=ae (XR.out.mono hfg);have Qr:=ae (XT.out.mono hfg);have zu:IntKind.u64.wrap (q:Int)=q:=by rw [IntKind.wrap_u64];omega
            have NU:=ae (Dk q (by omega) wg)
            have qP:Hid (s+tot K (Ac K A (i+1)) (A.drop (i+1)) (o*q)=Z):=ae (by
             have hI:=HI.out;have hr:=KP.out;have hqq:=HQ.out;have e1:K c≠0:=by rw [←DC.out];exact hk0
             have e2:¬K c=Ac K A i:=by rw [←DC.out];exact fun h=>G5.out h.symm
             rw [XQ.out];rw [HD9.out,←HCI.out,DC.out] at hr;unfold tot at hI;rw [if_neg e1,if_neg e2,hr] at hI;rw [DC.out,hqq,Nat.add_comm 1]
             exact hI)
            clear hfg;go_wp2_with fail;refine NU.out.mono ?_;rintro e wh ⟨kd,rfl,hkd,yt⟩;have MU:=ae (oJ (Qr.out.mono yt) hkd (by omega) (Nat.lt_of_le_of_lt ((aR (n:=5) (by decide:2≤10)).2 (by omega)) (by decide)));have Qs:=ae (Qq.out.mono yt);have Qt:=ag Qp yt;clear hkd yt NU Qq Qr Qp;go_wp2_with fail;refine MU.out.mono ?_;rintro e wi ⟨mo,rfl,hmo,hi1⟩;have W9:=ae (Qs.out.mono hi1);have W_:=ae hmo;have Xa:=ag Qt hi1;clear hmo hi1 MU Qs Qt;go_wp2;go_roundw
            case rel=>exact ⟨i+1,s,o*q,by omega,by first|(simp;done)|(simp;omega),W9.out,W_.out,Xa,fun _=>qP.out,fun h=>by omega⟩
            case measure=>simp [intOf];omega
    ·obtain rfl:i=N+1:=by omega
     have hsZ:=WV rfl;subst hsZ;have zc:decide (((N+1:Nat):Int)≤(N:Int))=false:=by simp;omega
     have U1:=ae hs;have hZd:=(UC.out s (Nat.le_refl _));have RU:=ae (fun (W:World) (E:Below w6.heap.size w6 W)=>JB A (aeR.out.mono E).any (by rw [←HN.out];omega) (fun c hc=>by have:=(HAC.out c hc).1;omega));clear hs ho hI WV;go_wp2_with fail;refine (RU.out _ hE).mono ?_;rintro e w7 ⟨rr,rfl,hrr,h7⟩;have h67:=ag hE h7;have NW:=ae (Gu (HD6.out.mono h67) HV.out A (Sl.aT hrr).any (fun c hc=>(HAC.out c hc).1) HA.out.ord (by rw [←HN.out];omega));have HS7:=ae (U1.out.mono h7);clear hrr h7 RU U1;go_wp2_with fail;refine NW.out.mono ?_;rintro e w8 ⟨mp,rfl,hM,h8⟩;have SZ:=ae (BB hM);have Y6:=ae (HS7.out.mono h8);have h68:=ag h67 h8;clear hM h8 NW HS7 h67;go_wp2_with fail;refine SZ.out.mono ?_;rintro e w9 ⟨zv,rfl,hz,h9⟩;have hzs:zZ (dU (aB T) A)=s:=by rw [←HK.out,HZ.out]
     rw [hzs] at hz;have IS:=ae (Zz hz (Y6.out.mono h9) (by omega) (by omega));rw [decide_eq_true rfl] at IS;have h69:=ag h68 h9;clear hz h9 SZ Y6 h68;go_wp2_with fail;refine IS.out.mono ?_;rintro e wz ⟨rfl,hz9⟩;go_wp2;go_ret;exact ⟨rfl,ag (ag kZ h69) hz9⟩
end Go.Proofs.YtjidohgiigjifaaGreatDoor
namespace Go.Cd
open Go.RowKit
theorem MR {k:IntKind} {w:World} {a:Option Addr} {len cap:Nat} {zs:List Int}
 (h:(a=none∧len=0∧cap=0∧zs=[])∨∃x,a=some x∧len≤cap∧cap≤maxLen∧zs.length=cap∧(∀i,i<zs.length→w.cell? (x.add i)=some (.int k (zs.getD i 0)))∧∀n∈zs,(Lit.int k n).wf=true) :
 bD w (.slice a len cap) ((zs.take len).map (Value.int k))∧len≤maxLen∧(zs.take len).length=len∧∀n∈zs,(Lit.int k n).wf=true:=by
 rcases h with ⟨rfl,rfl,rfl,rfl⟩|⟨x,rfl,hlc,hcm,hz,hcell,hwf⟩
 ·exact ⟨⟨none,0,rfl,Nat.le_refl _,.inl ⟨rfl,fun _=>rfl⟩⟩,Nat.zero_le _,rfl,by simp⟩
 ·have hlen:((zs.take len).map (Value.int k)).length=len:=by simp;omega
  refine ⟨⟨some x,cap,by rw [hlen],by rw [hlen];exact hlc,?_⟩,by omega,by simp;omega,hwf⟩;by_cases h0:len=0
  ·subst h0;exact .inl ⟨by simp,fun e=>by cases e⟩
  ·right;have h1:=hcell 0 (by omega);have e0:x.add 0=x:=by unfold Addr.add;simp
   rw [e0] at h1;unfold World.cell? at h1
   split at h1
   ·rename_i c e f hb;have hs:x.spot.isSome=false:=by
     cases hs:x.spot.isSome with
     | false=>rfl
     | true=>simp [hs] at h1
    have hsp:x=⟨x.block,x.off,none⟩:=by
     cases x with
     | mk b o s=>cases s with
       | none=>rfl
       | some s=>simp at hs
    refine ⟨x.block,x.off,c,e,f,by rw [←hsp],hb,fun i hi=>?_⟩;rw [hlen] at hi;have h2:=hcell i (by omega);rw [hsp] at h2;unfold World.cell? Addr.add at h2;have hg:zs.getD i 0=zs[i]'(by omega):=by rw [List.getD_eq_getElem?_getD,List.getElem?_eq_getElem (by omega)];rfl
    rw [hg] at h2;have hr:((zs.take len).map (Value.int k))[i]'(by rw [hlen];exact hi)=.int k (zs[i]'(by omega)):=by simp
    rw [hr];by_cases hi0:i=0
    ·subst hi0;simp only [if_true] at h2;rw [hb] at h2;simpa using h2
    ·rw [if_neg hi0] at h2;simp only at h2;rw [hb] at h2;simpa using h2
   ·simp at h1
theorem JK {w:World} {a:Option Addr} {len cap:Nat} {zs:List Int}
 (h:(a=none∧len=0∧cap=0∧zs=[])∨∃x,a=some x∧len≤cap∧cap≤maxLen∧zs.length=cap∧(∀i,i<zs.length→w.cell? (x.add i)=some (.int .i64 (zs.getD i 0)))∧∀n∈zs,(Lit.int .i64 n).wf=true) :
 ∃l:List Int,bD w (.slice a len cap) (bH l)∧l.length=len∧len≤maxLen∧∀d∈l,-9223372036854775808≤d∧d≤9223372036854775807:=by
 obtain ⟨h1,h2,h3,h4⟩:=MR h;refine ⟨_,h1,h3,h2,fun n hn=>?_⟩;have:=h4 n (List.mem_of_mem_take hn);simp [Lit.wf,IntKind.min,IntKind.max,IntKind.bits,IntKind.signed] at this;omega
end Go.Cd
namespace Go.Proofs.YtjidohgiigjifaaGreatDoor
section
open Go.RowKit Go.Cd Go.ChangeShapes Go.WideShapes Go.Deep
theorem Ui {w:World} {b o:Nat} {v:Value} (h:w.cell? ⟨b,o,none⟩=some v):b<w.heap.size:=by
 rcases Nat.lt_or_ge b w.heap.size with h1|h1
 ·exact h1
 ·unfold World.cell? at h;rw [Array.getElem?_eq_none h1] at h;cases h
section
variable {H : Type} {enc : TypeId × Value → H} {w : World} {base : Nat} {held : Bool}
theorem oK {fuel:Nat} {cs:List Value} {x:DataW H×List MemPlace} (h:DataW.trod enc Tryz.prog w base (fun _=>true) held fuel 23 cs=some x) :
 ∃a len cap l,cs=[.slice a len cap]∧bD w (.slice a len cap) (bH l)∧l.length=len∧((x.1=.nil∧len=0)∨∃es sp,x.1=.slice es sp∧es.length=len):=by
 rcases open_ints Tryz.underlying23 Tryz.underlying3 (by kernel_rfl) h with ⟨rfl,rfl⟩|⟨a,len,cap,zs,rfl,_,hl,hm,hz,rfl,hcell,hwz⟩
 ·exact ⟨none,0,0,[],rfl,⟨none,0,rfl,Nat.le_refl _,.inl ⟨rfl,fun _=>rfl⟩⟩,rfl,.inl ⟨rfl,rfl⟩⟩
 ·obtain ⟨l,hS,hl',_,_⟩:=JK (w:=w) (a:=some a) (len:=len) (cap:=cap) (zs:=zs) (.inr ⟨a,rfl,hl,hm,by simpa using hz,hcell,hwz⟩);refine ⟨_,_,_,l,rfl,hS,hl',.inr ⟨_,_,rfl,?_⟩⟩;have hz':zs.length=cap:=by simpa using hz
  simp [lits,List.length_take];omega
instance:Inhabited fM:=⟨⟨0,0,[]⟩⟩
theorem MS {fuel:Nat} {cs:List Value} {x:DataW H×List MemPlace} (h:DataW.trod enc Tryz.prog w base (fun _=>true) held fuel 22 cs=some x) :
 ∃a len cap T,cs=[.slice a len cap]∧GG w (.slice a len cap) T:=by
 rcases open_slice Tryz.underlying22 h with ⟨rfl,_⟩|⟨a,len,cap,m,n,D,Pl,rfl,_,hl,hm,hmm,_,hel⟩
 ·exact ⟨none,0,0,[],rfl,none,0,rfl,Nat.le_refl _,fun i hi=>absurd hi (Nat.not_lt_zero _)⟩
 ·simp only [if_true] at hmm;subst hmm;have hc:Tryz.prog.cellsOf 68=3:=by kernel_rfl
  have hsp:0<len→a.spot=none:=fun h0=>by
   obtain ⟨cs',hcs,_⟩:=hel 0 (by omega);rw [hc] at hcs;obtain ⟨_,hlen,hcell⟩:=World.cells?_some hcs;have g:=hcell 0 (by omega);rw [List.getElem?_eq_getElem (by omega)] at g;have:=World.cell?_spot g;rw [add_add] at this;simpa [Addr.add] using this
  obtain ⟨f,hf⟩:=choose_lt (n:=len) (p:=fun i (r:fM)=>∃b off mv,a=⟨b,off,none⟩∧b<w.heap.size∧w.cell? ⟨b,off+i*3,none⟩=some (.int .i64 r.code)∧w.cell? ⟨b,off+i*3+1,none⟩=some (.int .i64 r.cls)∧w.cell? ⟨b,off+i*3+2,none⟩=some mv∧bD w mv (bH r.map)) (fun i hi=>by
   obtain ⟨cs',hcs,htr⟩:=hel i (by omega);rw [hc] at hcs;obtain ⟨_,hlen,hcell⟩:=World.cells?_some hcs;obtain ⟨y0,y1,y2,k,_,_,h0,h1,h2⟩:=trod_struct3 Tryz.underlying68 htr
   match cs',hlen with
   | [c0,c1,c2],_=>
     have h0:DataW.trod enc Tryz.prog w base (fun _=>true) held k 3 [c0]=some y0:=h0;have h1:DataW.trod enc Tryz.prog w base (fun _=>true) held k 3 [c1]=some y1:=h1;have h2:DataW.trod enc Tryz.prog w base (fun _=>true) held k 23 [c2]=some y2:=h2;obtain ⟨z0,e0,_,_⟩:=DataW.trod_int Tryz.underlying3 h0;obtain ⟨z1,e1,_,_⟩:=DataW.trod_int Tryz.underlying3 h1;obtain ⟨am,lm,cm,l,e2,hS,_,_⟩:=oK h2;cases e0;cases e1;cases e2;have g0:=hcell 0 (by omega);have g1:=hcell 1 (by omega);have g2:=hcell 2 (by omega);rw [add_add] at g0 g1 g2;obtain ⟨b,off,rfl⟩:∃b off,a=⟨b,off,none⟩:=⟨a.block,a.off,by have hsp:=hsp (by omega);cases a;simp at hsp;subst hsp;rfl⟩;rw [add_plain] at g0 g1 g2;refine ⟨⟨z0,z1,l⟩,b,off,_,rfl,Ui g0,?_,?_,?_,hS⟩
     ·simpa using g0
     ·simpa [Nat.add_assoc] using g1
     ·simpa [Nat.add_assoc] using g2)
  refine ⟨some a,len,m,(List.range len).map f,rfl,some a,m,by simp,by simpa using hl,fun i hi=>?_⟩;simp at hi;obtain ⟨b,off,mv,rfl,hb,h0,h1,h2,h3⟩:=hf i hi;exact ⟨b,off,mv,rfl,hb,by simpa using h0,by simpa using h1,h2,by simpa using h3⟩
theorem MV {v:Value} {d:DataW H} {ps:List MemPlace} (hv:∃cs,v=.agg cs∧cs.size=Tryz.prog.cellsOf 27) (h:DataW.Trod enc Tryz.prog w base (fun _=>true) held 27 v d ps) (hsz:∀n∈d.weights Tryz.prog 27,n≤reachBytes) :
 ∃T X pk mr,BJ w v T X pk mr∧mr.length<281474976710656:=by
 obtain ⟨cs,rfl,hcs⟩:=hv;obtain ⟨fuel,h⟩:=h;have h:DataW.trod enc Tryz.prog w base (fun _=>true) held fuel 27 cs.toList=some (d,ps):=h;obtain ⟨y0,y1,y2,n,hd,hl,h0,h1,h2⟩:=trod_struct3 Tryz.underlying27 h;have hc:Tryz.prog.cellsOf 27=4:=by kernel_rfl
 rw [hc] at hcs;obtain ⟨c0,c1,c2,c3,rfl⟩:∃c0 c1 c2 c3,cs=#[c0,c1,c2,c3]:=by
  match cs,hcs with
  | ⟨[c0,c1,c2,c3]⟩,_=>exact ⟨c0,c1,c2,c3,rfl⟩
 have h0:DataW.trod enc Tryz.prog w base (fun _=>true) held n 25 [c0,c1]=some y0:=h0;have h1:DataW.trod enc Tryz.prog w base (fun _=>true) held n 23 [c2]=some y1:=h1;have h2:DataW.trod enc Tryz.prog w base (fun _=>true) held n 23 [c3]=some y2:=h2;obtain ⟨q0,q1,k,_,_,g0,g1⟩:=trod_struct2 Tryz.underlying25 h0;have g0:DataW.trod enc Tryz.prog w base (fun _=>true) held k 22 [c0]=some q0:=g0;have g1:DataW.trod enc Tryz.prog w base (fun _=>true) held k 23 [c1]=some q1:=g1;obtain ⟨a0,n0,p0,T,e0,hT⟩:=MS g0;obtain ⟨a1,n1,p1,X,e1,hX,_,_⟩:=oK g1;obtain ⟨a2,n2,p2,pk,e2,hp,_,_⟩:=oK h1;obtain ⟨a3,n3,p3,mr,e3,hm,ko,hsh⟩:=oK h2;cases e0;cases e1;cases e2;cases e3;refine ⟨T,X,pk,mr,⟨_,_,_,_,rfl,⟨_,_,rfl,hT,hX⟩,hp,hm⟩,?_⟩;rcases hsh with ⟨_,h0⟩|⟨es,sp,hy,hes⟩
 ·omega
 ·have hb:Tryz.prog.bytesOf 3=8:=by kernel_rfl
  have he:d=.agg [y0.1,y1.1,y2.1]:=congrArg Prod.fst hd
  have hm2:=hsz ((es.length+sp.length)*Tryz.prog.bytesOf 3) (by
   rw [he,DataW.weights,Tryz.underlying27]
   exact DataW.weights_mem_each (j:=2) (t:=23) rfl (by simp [hy];rfl) _ (by simp [DataW.weights,Tryz.underlying23]))
  rw [hb] at hm2;unfold reachBytes at hm2;omega
end
end
open Go.RowKit Go.Cd Go.ChangeShapes Go.WideShapes Go.Deep
def aaB:List Int:=[0,1,56,2,57,49,28,3,61,58,42,50,38,29,17,4,62,47,59,36,45,43,51,22,53,39,33,30,24,18,12,5,63,55,48,27,60,41,37,16,46,35,44,21,52,32,23,11,54,26,40,15,34,20,31,10,25,14,19,9,13,8,7,6]
theorem GZ {w:World} (hd:Lib.VarReads Tryz.prog w "math/bits.deBruijn64tab" (Lib.tabData .u8 aaB)) (hp:Lib.VarReads Tryz.prog w "internal/strconv.uint64pow10" (Lib.tabData .u64 Lib.pow10Tab)) (hs:w.ShapedOpen Tryz.prog):bZ w:=by
 refine ⟨?_,?_,?_⟩
 ·exact Go.Proofs.cell_of_shapedOpen_int (zero:=#[.int .i64 0]) (t:=3) hs (of_decide_eq_true (by kernel_rfl)) (by kernel_rfl) rfl (by kernel_rfl) (by kernel_rfl) Tryz.underlying3
 ·obtain ⟨g,t,cs,fuel,p,hg,hty,hv,htr⟩:=hp;have h6:(Tryz.prog.globalNamed "internal/strconv.uint64pow10").bind (fun g=>(Tryz.prog.globals[g]?).map (·.type))=some 342:=by kernel_rfl
  rw [hg,Option.bind_some,hty] at h6;obtain rfl:t=342:=Option.some.inj h6;have e:=Lib.cells_of_tab Tryz.underlying342 Tryz.underlying36 (by kernel_rfl) (by kernel_rfl) htr;unfold Lib.TabIs;rw [hv,←e]
 ·obtain ⟨g,t,cs,fuel,p,hg,hty,hv,htr⟩:=hd;obtain rfl:g=8:=Option.some.inj (hg.symm.trans (by kernel_rfl));obtain rfl:t=369:=Option.some.inj (hty.symm.trans (by kernel_rfl));have e:=Lib.cells_of_tab Tryz.underlying369 Tryz.underlying5 (by kernel_rfl) (by kernel_rfl) htr;have hc:=World.var?_cell hg hv 15;rw [hc,←Array.getElem?_toList,e];rfl
end Go.Proofs.YtjidohgiigjifaaGreatDoor
