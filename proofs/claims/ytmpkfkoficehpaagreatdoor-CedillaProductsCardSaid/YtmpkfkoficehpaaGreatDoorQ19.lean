/- CedillaProducts: where a text may be cut apart, it has as many texts that are alike as its two parts multiplied; no condition. -/
import Derived.Test.YtmpkfkoficehpaaGreatDoorQ18
set_option maxRecDepth 100000
set_option maxHeartbeats 6400000
namespace Go.Proofs.YtmpkfkoficehpaaGreatDoor
open Go.RowKit Go.Cd
theorem Vy (Rs:List bX) (j:Nat):fQ (Rs.take j)≤fQ Rs:=by
 have:fQ Rs=fQ (Rs.take j)+fQ (Rs.drop j):=by unfold fQ;rw [←List.sum_append,←List.map_append,List.take_append_drop]
 omega
theorem IP (Ls:List dU):∀b∈gy Ls,1≤b:=fun b hb=>by
 obtain ⟨x,_,rfl⟩:=List.mem_map.1 hb;omega
theorem bD.trans {a b c:World} {t:TypeId} (h:bD a b t) (k:bD b c t):bD a c t:=
 ⟨Nat.le_trans h.size k.size,fun i hi hc=>by
   have h1:=h.keep i hi hc;refine (k.keep i (Nat.lt_of_lt_of_le hi h.size) ?_).trans h1;rintro ⟨cs,h2⟩
   exact hc ⟨cs,h1▸h2⟩⟩
theorem bD.of_below {a b:World} (t:TypeId) (h:Below a.heap.size a b):bD a b t:=⟨h.size,fun i hi _=>h.block i hi⟩
theorem bO.iD {w w':World} {t:TypeId} {v:Value} {x:Nat} (h:bO w v x) (hc:bD w w' t) (hne:l5≠t):bO w' v x:=by
 obtain ⟨s,hv,a,cap,hs,hcap,hx⟩:=h;refine ⟨s,hv,a,cap,hs,hcap,hx.imp id ?_⟩;rintro ⟨b,off,cs,fr,ha,hh,hx⟩;refine ⟨b,off,cs,fr,ha,(hc.keep b (block_lt hh) ?_).trans hh,hx⟩;rintro ⟨cs',h9⟩;rw [hh] at h9;injection h9 with h9;injection h9 with _ h9 _;exact hne h9
theorem IQ {w:World} {B N p g nr rc:Nat} {dv iC:Value} {small:Bool} {Rs:List bX} (h:Bd w B N p dv (.slice (some ⟨g,0,none⟩) nr rc) iC small Rs) (hf:zM Rs) (hs:small=true→fQ Rs≤16384) (hBg:B≤g) :
 Calls Tryz.prog 77 #[.pointer (some ⟨p,0,none⟩)] w fun e w'=>e=.returned (.tuple #[])∧∃Es,Es.map (·.1)=Rs∧jO w' B N p dv (.slice (some ⟨g,0,none⟩) nr rc) iC small Es (if small=true then Es.length else 0)∧Below B w w'∧bD w w' d_:=by
 have i1:=h.is;have e1:=i1.at 1 rfl;have e3:=i1.at 3 rfl;have hnr:nr=Rs.length:=by
  obtain ⟨_,_,e,_⟩:=ak h.runs;injection e with _ e _
 have HM:=aa (jO.of h);have Ud:=aa hnr;have afE:nr<10000:=by rw [hnr];exact hf.1
 have HF:=aa hf;have hBw:B≤w.heap.size:=by have:=h.low;have:=h.hi;omega
 clear h hf hnr i1;go_enter Tryz.func77,Tryz.ntmps77;cases small with
 | false=>
   go_wp2_with fail;exact bodyPost_ret (results_none rfl _ _ _) rfl ⟨rfl,_,by rw [List.map_map];exact List.map_id _,HM.out,Below.refl _ _,.of_below _ (Below.refl _ _)⟩
 | true=>
   have HS:=aa (hs rfl);clear hs;go_wp2_with fail;go_loopw [2,3,4,15] (fun fv _ _ iv wr=>∃i:Nat,i≤nr∧iv=.int .i64 i∧fv=.int .i64 (fQ (Rs.take i):Nat)∧(∃A:List oF,A.map (·.1)=Rs.take i∧jO wr B N p dv (.slice (some ⟨g,0,none⟩) nr rc) iC true (A++(Rs.drop i).map EF) i)∧Below B w wr∧bD w wr d_) (fun _ _ _ iv _=>nr-(intOf iv).toNat)
   case atStart=>exact ⟨0,Nat.zero_le _,rfl,rfl,⟨[],rfl,HM.out⟩,Below.refl _ _,.of_below _ (Below.refl _ _)⟩
   case round=>
    obtain ⟨i,hi,rfl,rfl,⟨A,hA,hM⟩,hE,hC⟩:=hrel;have A_:A.length=i:=by
     have:=congrArg List.length hA;rw [List.length_map,List.length_take,←Ud.out] at this;omega
    by_cases hin:i<nr
    ·have zi:decide ((i:Int)<(nr:Int))=true:=by simp;omega
     have hir:i<Rs.length:=by have:=Ud.out;omega
     have hdr:Rs.drop i=Rs[i]::Rs.drop (i+1):=List.drop_eq_getElem_cons hir;have htk:Rs.take (i+1)=Rs.take i++[Rs[i]]:=List.take_succ_eq_append_getElem hir;have qU:=HF.out.2 _ (List.getElem_mem hir);have hsz:=vX hir;have hle:=Nat.le_trans (Vy Rs (i+1)) HS.out;obtain ⟨r,hr⟩:=ae (Rs[i]);rw [←hr] at hdr htk qU hsz;rw [hdr,List.map_cons] at hM;have hc:=hM.vZ A_;have hfz:uA wr N r:=hM.xL (EF r) (by simp);obtain ⟨hd,lv,Ls⟩:=r;obtain ⟨la,lc,hlv,_,_⟩:=ak hfz.1.1;simp only at hlv;obtain ⟨ln,hln⟩:=ae Ls.length;rw [←hln] at hlv;subst hlv;have c0:wr.cell? ⟨g,i*6,none⟩=some (.int .i32 hd):=(hc 0 (by decide)).1;have c1:wr.cell? ⟨g,i*6+1,none⟩=some (.slice la ln lc):=(hc 1 (by decide)).1;have c2:wr.cell? ⟨g,i*6+2,none⟩=some (.slice none 0 0):=(hc 2 (by decide)).1;have c3:wr.cell? ⟨g,i*6+3,none⟩=some (.slice none 0 0):=(hc 3 (by decide)).1;have c4:wr.cell? ⟨g,i*6+4,none⟩=some (.int .i64 0):=(hc 4 (by decide)).1;have c5:wr.cell? ⟨g,i*6+5,none⟩=some (.int .i64 0):=(hc 5 (by decide)).1;have Q6:wr.cell? ⟨p,1,none⟩=some (.slice (some ⟨g,0,none⟩) nr rc):=hM.is.at 1 rfl;have HBS:=aa (zB (w:=wr) (F:=N) (hd:=hd) (la:=la) (ln:=ln) (lc:=lc) (Ls:=Ls) hfz qU.1 qU.2 none none 0 0 0 0 0 0);have Ig:=aa hM;have HFW:=aa qU;have ZQ:=aa hsz;have yX:=aa hln;have XR:=aa htk;have HA:=aa hA;have K7:=aa A_;clear hc hfz qU hsz hr hM hln hdr htk hA A_ e1 e3;go_wp2_with fail;refine HBS.out.mono ?_;rintro e w3 ⟨bv,rfl,ho3,hb3⟩;go_wp2_with fail;have hbl:=zA Ls;have hl1:ln<10000:=by rw [yX.out];exact HFW.out.1
     rw [←yX.out] at hbl ho3;have hsm:=sJ (r:=(hd,.slice la ln lc,Ls)) HFW.out.2;have ha:bB w3 bv (ds (gy Ls)):=by
      rw [←hbl,←show (ds (gy Ls)).length=(gy Ls).length by simp [ds]] at ho3;exact (Sl.aW ho3).any
     have NW:=Vn ha (by omega) (IP Ls) (fun b hb=>by have:=hsm b hb;unfold Go.Cd.B at this;omega);refine NW.mono ?_;rintro e w4 ⟨rv,e0,rfl,hb4,ZX⟩;have hsR:R9 (hd,.slice la ln lc,Ls)=aX (gy Ls):=(IL _).symm;have hsz:=ZQ.out;rw [hsR] at hsz;rw [hsz] at hle;have afF:e0=0∧jb w4 rv (gy Ls):=by
      rcases ZX with ⟨_,h2,h3⟩|⟨h1,_⟩
      ·exact ⟨h2,h3⟩
      ·omega
     obtain ⟨rfl,hR4⟩:=afF;obtain ⟨s1,s2,rfl,hs1,hs2⟩:=id hR4;obtain ⟨x1,y1,rfl,_,_⟩:=hs1.out;obtain ⟨x2,y2,rfl,_,_⟩:=hs2.out;have hbw:Below wr.heap.size wr w4:=hb3.trans (hb4.mono hb3.size);have hBr:B≤wr.heap.size:=by have:=Ig.out.low;have:=Ig.out.hi;omega
     have kZ:=hE.trans (hbw.mono hBr);have UT:=Ig.out.ext hbw;obtain ⟨P,hP⟩:=ae (aX (gy Ls));obtain ⟨F,hF⟩:=ae (fQ (Rs.take i));obtain ⟨m1,hm1⟩:=ae ((ds (gy Ls)).length);obtain ⟨m2,hm2⟩:=ae ((ds (weights (gy Ls))).length);rw [←hP,←hm1,←hm2] at hR4;rw [←hP,←hF] at hsz hle;rw [←hP,←hm1,←hm2,←hF];have k4:=UT.vZ K7.out;have Ue:=UT.EG K7.out ((hd,.slice la ln lc,Ls),(.slice x1 m1 y1,.slice none 0 0,0),0) 2 (.slice x1 m1 y1) (by decide) rfl rfl (o:=i*6+2) rfl;have k5:=Ue.vZ K7.out;have hM6:=Ue.EG K7.out ((hd,.slice la ln lc,Ls),(.slice x1 m1 y1,.slice x2 m2 y2,0),0) 3 (.slice x2 m2 y2) (by decide) rfl rfl (o:=i*6+2+1) rfl;have k6:=hM6.vZ K7.out;have hM7:=hM6.EG K7.out ((hd,.slice la ln lc,Ls),(.slice x1 m1 y1,.slice x2 m2 y2,P),0) 4 (.int .i64 P) (by decide) rfl rfl (o:=i*6+2+2) rfl;have k7:=hM7.vZ K7.out;have hM8:=hM7.EG K7.out ((hd,.slice la ln lc,Ls),(.slice x1 m1 y1,.slice x2 m2 y2,P),F) 5 (.int .i64 F) (by decide) rfl rfl (o:=i*6+5) rfl;have k8:=hM8.vZ K7.out;have t1:=bD.put (o:=i*6+2) (⟨(bP UT.runs (k:=g) rfl).choose_spec⟩:Is w4 g _ d_) (.slice x1 m1 y1);have t2:=bD.put (o:=i*6+2+1) (⟨(bP Ue.runs (k:=g) rfl).choose_spec⟩:Is _ g _ d_) (.slice x2 m2 y2);have t3:=bD.put (o:=i*6+2+2) (⟨(bP hM6.runs (k:=g) rfl).choose_spec⟩:Is _ g _ d_) (.int .i64 P);have t4:=bD.put (o:=i*6+5) (⟨(bP hM7.runs (k:=g) rfl).choose_spec⟩:Is _ g _ d_) (.int .i64 F);have HC8:=aa (hC.trans ((bD.of_below d_ hbw).trans (t1.trans (t2.trans (t3.trans t4)))));have hR8:=(((hR4.iD t1 (by decide)).iD t2 (by decide)).iD t3 (by decide)).iD t4 (by decide);clear t1 t2 t3 t4 hC;have hM9:=hM8.abQ K7.out hR8 (by rw [HA.out,hF]);have jW:Below B w _:=aj (aj (aj (aj kZ (b:=g) (off:=i*6+2) (u:=.slice x1 m1 y1) hBg) (b:=g) (off:=i*6+2+1) (u:=.slice x2 m2 y2) hBg) (b:=g) (off:=i*6+2+2) (u:=.int .i64 P) hBg) (b:=g) (off:=i*6+5) (u:=.int .i64 F) hBg;have r42:w4.cell? ⟨g,i*6+2,none⟩=some (.slice none 0 0):=(k4 2 (by decide)).1;have q42:w4.frozen? ⟨g,i*6+2,none⟩=false:=(k4 2 (by decide)).2;have r53:(w4.setCell ⟨g,i*6+2,none⟩ (.slice x1 m1 y1)).cell? ⟨g,i*6+2+1,none⟩=some (.slice none 0 0):=(k5 3 (by decide)).1;have q53:(w4.setCell ⟨g,i*6+2,none⟩ (.slice x1 m1 y1)).frozen? ⟨g,i*6+2+1,none⟩=false:=(k5 3 (by decide)).2;have r64:((w4.setCell ⟨g,i*6+2,none⟩ (.slice x1 m1 y1)).setCell ⟨g,i*6+2+1,none⟩ (.slice x2 m2 y2)).cell? ⟨g,i*6+2+2,none⟩=some (.int .i64 0):=(k6 4 (by decide)).1;have q64:((w4.setCell ⟨g,i*6+2,none⟩ (.slice x1 m1 y1)).setCell ⟨g,i*6+2+1,none⟩ (.slice x2 m2 y2)).frozen? ⟨g,i*6+2+2,none⟩=false:=(k6 4 (by decide)).2;have r75:(((w4.setCell ⟨g,i*6+2,none⟩ (.slice x1 m1 y1)).setCell ⟨g,i*6+2+1,none⟩ (.slice x2 m2 y2)).setCell ⟨g,i*6+2+2,none⟩ (.int .i64 P)).cell? ⟨g,i*6+5,none⟩=some (.int .i64 0):=(k7 5 (by decide)).1;have q75:(((w4.setCell ⟨g,i*6+2,none⟩ (.slice x1 m1 y1)).setCell ⟨g,i*6+2+1,none⟩ (.slice x2 m2 y2)).setCell ⟨g,i*6+2+2,none⟩ (.int .i64 P)).frozen? ⟨g,i*6+5,none⟩=false:=(k7 5 (by decide)).2;have r82:((((w4.setCell ⟨g,i*6+2,none⟩ (.slice x1 m1 y1)).setCell ⟨g,i*6+2+1,none⟩ (.slice x2 m2 y2)).setCell ⟨g,i*6+2+2,none⟩ (.int .i64 P)).setCell ⟨g,i*6+5,none⟩ (.int .i64 F)).cell? ⟨g,i*6+2,none⟩=some (.slice x1 m1 y1):=(k8 2 (by decide)).1;have r83:((((w4.setCell ⟨g,i*6+2,none⟩ (.slice x1 m1 y1)).setCell ⟨g,i*6+2+1,none⟩ (.slice x2 m2 y2)).setCell ⟨g,i*6+2+2,none⟩ (.int .i64 P)).setCell ⟨g,i*6+5,none⟩ (.int .i64 F)).cell? ⟨g,i*6+2+1,none⟩=some (.slice x2 m2 y2):=(k8 3 (by decide)).1;have r84:((((w4.setCell ⟨g,i*6+2,none⟩ (.slice x1 m1 y1)).setCell ⟨g,i*6+2+1,none⟩ (.slice x2 m2 y2)).setCell ⟨g,i*6+2+2,none⟩ (.int .i64 P)).setCell ⟨g,i*6+5,none⟩ (.int .i64 F)).cell? ⟨g,i*6+2+2,none⟩=some (.int .i64 P):=(k8 4 (by decide)).1;have HM9:=aa hM9;have HE8:=aa jW;have HR8:=aa hR8;have HF9:=aa hF;have HP9:=aa hP;clear k4 k5 k6 k7 k8 UT Ue hM6 hM7 hM8 hM9 jW hR4 hR8 hs1 hs2 hF hP ZX kZ hE hbw hb3 hb4 ho3 ha NW hm1 hm2;go_wp2_with fail;refine (Ev HR8.out.weak (IP Ls) (by rw [←HP9.out];omega)).mono ?_;rintro e w5 ⟨rfl,hb5⟩
     rw [←HP9.out];have afJ:=HM9.out.ext hb5;have He:=HE8.out.trans (hb5.mono (Nat.le_trans hBw HE8.out.size));have e9:IntKind.i64.wrap ((F:Int)+(P:Int))=((F+P:Nat):Int):=by rw [IntWalk.i64_in _ (by omega)];omega
     go_wp2_with fail;go_roundw
     case rel=>
      refine ⟨i+1,by omega,by simp,by rw [hsz,Int.natCast_add],⟨A++[(((hd,Value.slice la ln lc,Ls),(Value.slice x1 m1 y1,Value.slice x2 m2 y2,(P:Int)),(F:Int)):oF)],by rw [List.map_append,HA.out,XR.out];rfl,?_⟩,He,HC8.out.trans (.of_below _ hb5)⟩;rw [List.append_assoc];exact afJ
     case measure=>simp [intOf];omega
    ·have zi:decide ((i:Int)<(nr:Int))=false:=by simp;omega
     obtain rfl:i=nr:=by omega
     have ht:Rs.take i=Rs:=List.take_of_length_le (by rw [Ud.out];exact Nat.le_refl _);have hd:Rs.drop i=[]:=List.drop_eq_nil_of_le (by rw [Ud.out];exact Nat.le_refl _);rw [ht] at hA;rw [hd,List.map_nil,List.append_nil] at hM;have HA:=aa hA;have HM9:=aa hM;have K7:=aa A_;clear hA hM A_ ht hd e1 e3;go_wp2_with fail
     go_end0
     refine ⟨rfl,A,HA.out,?_,hE,hC⟩;simp only [K7.out];exact HM9.out
def eO (w:World) (B p dp:Nat) (K:Nat→Nat) (l:List Nat):Prop:=
 ∃N rs iC Es,(Es.map (·.1)).map bX.sp=bu K l∧
  jO w B N p (.pointer (some ⟨dp,0,none⟩)) rs iC (decide (fQ (Es.map (·.1))≤16384)) Es (if decide (fQ (Es.map (·.1))≤16384)=true then Es.length else 0)∧
  bO w (.agg #[iC]) (fQ (Es.map (·.1)))
theorem IU {w:World} {B n g rc:Nat} {Rs:List bX} {r:bX} (h:w.ownsRow B d_ 6 (.slice (some ⟨g,0,none⟩) n rc) (Rs.length+1) ((Rs++[r]).flatMap kQ)) :
 w.cell? ⟨g,Rs.length*6+1,none⟩=some r.2.1∧w.frozen? ⟨g,Rs.length*6+1,none⟩=false:=by
 obtain ⟨g',rc',e,_,_,_,hc⟩:=dB (f:=kQ) j6 (l:=Rs++[r]) (by simp) h (i:=Rs.length) (by simp);injection e with e _ _;injection e with e;injection e with e;subst e;have h1:=hc 1 (by decide);refine ⟨h1.1.trans ?_,h1.2⟩;simp [kQ]
theorem v_ {w:World} {B n g rc:Nat} {q:List dU} {y:dU} (h:w.ownsRow B eH 2 (.slice (some ⟨g,0,none⟩) n rc) (q.length+1) ((q++[y]).flatMap eX)) :
 w.cell? ⟨g,q.length*2+1,none⟩=some y.2.1∧w.frozen? ⟨g,q.length*2+1,none⟩=false:=by
 obtain ⟨g',rc',e,_,_,_,hc⟩:=dB (f:=eX) ja (l:=q++[y]) (by simp) h (i:=q.length) (by simp);injection e with e _ _;injection e with e;injection e with e;subst e;have h1:=hc 1 (by decide);refine ⟨h1.1.trans ?_,h1.2⟩;simp [eX]
theorem Sd {w:World} {dp:Nat} {T:List aH} {X:List Nat} (h:b_ w dp T X) (hV:aY T X) {v:Value} (l:List Nat) (hv:bB w v (aN l)) (hc:∀c∈l,c<1114112) (hin:dP (ai T) l) (hln:l.length<3000) :
 Calls Tryz.prog 50 #[.pointer (some ⟨dp,0,none⟩),v] w fun e w'=>∃p,e=.returned (.pointer (some ⟨p,0,none⟩))∧eO w' w.heap.size p dp (ai T) l∧Below w.heap.size w w':=by
 obtain ⟨n,hn⟩:=ae l.length;obtain ⟨a,cap,rfl,hcap,hx⟩:=bB.Ef hv hn;have HX:=aa hx;have HC:=aa hc;have HN:=aa hn;have CL:=aa (fun (W:World) (E:Below w.heap.size w W) c (hc:c<1114112)=>ik (h.mono E) hV c hc);have hcl:∀c,ai T c<1000000:=fun c=>by
  unfold ai;cases e:rowOf T c with
  | none=>decide
  | some r=>
    have:=(hV.fine r (gT e).1).2.1;show r.cls<1000000;omega
 obtain ⟨K,hK⟩:=ae (ai T);rw [←hK] at CL hcl hin ⊢;have Xk:=aa hcl;have Xj:=aa hin;rw [←hn] at hln;have hmk:∀W,(Instr.makeSlice 149 (.int .i64 1) (.int .i64 1)).run Tryz.prog W=.ok (.slice (some ⟨W.heap.size,0,none⟩) 1 1) (W.alloc (.cells #[.int .i32 0,.slice none 0 0,.slice none 0 0,.slice none 0 0,.int .i64 0,.int .i64 0] d_)):=fun W=>by kernel_rfl
 obtain ⟨w1,hw1⟩:=ae ((w.alloc (.cells #[.int .i32 0,.slice none 0 0,.slice none 0 0,.slice none 0 0,.int .i64 0,.int .i64 0] d_)).alloc (.cells #[.pointer (some ⟨dp,0,none⟩),.slice (some ⟨w.heap.size,0,none⟩) 1 1,.slice none 0 0,.bool false] 151));have hb1:Below w.heap.size w w1:=by rw [hw1];exact ed _ _
 have hz1:w1.heap.size=w.heap.size+2:=by rw [hw1];simp
 have hT1:Fu w1 w.heap.size (w.heap.size+1) (.pointer (some ⟨dp,0,none⟩)) (.slice (some ⟨w.heap.size,0,none⟩) 1 1) [] (0,.slice none 0 0,[]) w1.heap.size w1.heap.size:=by
  have i1:Is w1 (w.heap.size+1) #[.pointer (some ⟨dp,0,none⟩),.slice (some ⟨w.heap.size,0,none⟩) 1 1,.slice none 0 0,.bool false] 151:=by rw [hw1];exact Is.new' _ _ _ _ (by simp)
  have i0:Is w1 w.heap.size #[.int .i32 0,.slice none 0 0,.slice none 0 0,.slice none 0 0,.int .i64 0,.int .i64 0] d_:=by rw [hw1];exact (Is.new _ _ _).mono (af _)
  exact ⟨i1,⟨rfl,.inr ⟨w.heap.size,1,_,rfl,Nat.le_refl _,i0.at_,Nat.le_refl _,by decide,rfl,rfl⟩⟩,by simp,⟨World.ownsRow_nil _ _ _ _,by simp,by simp,Nat.le_refl _,Nat.le_refl _⟩,Nat.le_succ _⟩
 obtain ⟨p,hp⟩:=ae (w.heap.size+1);obtain ⟨B,hB⟩:=ae w.heap.size;rw [←hp,←hB] at hT1;have HT1:=aa hT1;have HB:=aa hB;have hpB:B≤p:=by omega
 clear h hV hv hc hx hn hK hcl hin hT1;rw [←hB] at hb1 hz1;clear hB;go_enter Tryz.func50,Tryz.ntmps50;go_wp2_with fail;rw [←hw1];rw [←hp];clear hw1 hmk hp;go_loopw [7,8,9,10,11,20] (fun _ _ _ _ _ iv wr=>∃j:Nat,j≤n∧iv=.int .i64 j∧(∃rs Rs c F G,Fu wr B p (.pointer (some ⟨dp,0,none⟩)) rs Rs c F G∧B≤F∧(Rs++[c]).map bX.sp=bu K (l.take j)∧fP K l j c∧Rs.length≤j)∧Below B w wr) (fun _ _ _ _ _ iv _=>n-(intOf iv).toNat)
 case atStart=>exact ⟨0,Nat.zero_le _,rfl,⟨_,_,_,_,_,HT1.out,by omega,rfl,fP.nil _ _ _ _ _,Nat.zero_le _⟩,hb1⟩
 case round=>
  obtain ⟨j,hj,rfl,⟨rs,Rs,⟨hd,lv,Ls⟩,F,G,hT,hBF,hsp,hL,hRl⟩,hE⟩:=hrel;by_cases hjn:j<n
  ·have zj:decide ((j:Int)<(n:Int))=true:=by simp;omega
   have hjl:j<l.length:=by have:=HN.out;omega
   obtain ⟨b,off,rfl,hbs,c0'⟩:=HX.out j hjl;have fo:Below w.heap.size w wr:=by rw [←HB.out];exact hE
   have c0:=aA fo c0';clear c0';have hcj:=HC.out _ (List.getElem_mem hjl);have htl:=Rq (K:=K) hjl;obtain ⟨x,vL⟩:=ae (l[j]);have Sg:=aa vL;rw [←vL] at c0 hcj htl;have CK:=aa (CL.out wr fo x hcj);obtain ⟨kx,hkx⟩:=ae (K x);have hk9:kx<1000000:=by rw [hkx];exact Xk.out x
   rw [←hkx] at CK;have Ih:=aa hkx;have HTL:=aa htl;have HSP:=aa hsp;have HL:=aa hL;have Pf:=aa hT;have hsz:=fo.size;obtain ⟨m,hm⟩:=ae Rs.length;have pU:=hT.runs;rw [←hm] at pU;obtain ⟨g,rc,hrs,hrc,_,hBg,_⟩:=dB (f:=kQ) j6 (l:=Rs++[(hd,lv,Ls)]) (by rw [List.length_append,hm];rfl) pU (i:=0) (by simp);subst hrs;have HM:=aa hm;rw [←hm] at hRl;have hBw:B≤wr.heap.size:=by have:=HB.out;omega
   clear vL hcj htl hkx hsp hL hT pU hm fo hsz;go_wp2_with fail;refine CK.out.mono ?_;rintro e w6 ⟨rfl,hb6⟩;have Vz:=Pf.out.ext hb6;have iM:=hE.trans (hb6.mono hBw);have oz:B≤w6.heap.size:=Nat.le_trans hBw hb6.size;have i6:=Vz.is;have e1:=i6.at 1 rfl;clear c0 CK hb6 Pf hE hBw;by_cases hk0:kx=0
   ·subst hk0;have z0:((0:Nat):Int)=0:=rfl;have HT6:=aa Vz;have hr6:=Vz.runs;rw [←HM.out] at hr6;clear Vz
    go_wp2_with (
     refine n_ (W:=w6) rfl _ _ 149 rfl B d_ _ 6 96 U6 (by decide) (by decide) (by decide) (by decide) (.slice (some ⟨g,0,none⟩) (m+1) rc) (m+1) _ rfl hr6 #[.int .i32 (x:Nat),.slice none 0 0,.slice none 0 0,.slice none 0 0,.int .i64 0,.int .i64 0] rfl rfl (by simp [Value.oneCell']) (by omega) w6 (Below.refl _ _) oz ?_;intro rs' w7 o7 b7 g7 _;obtain ⟨ra',rc',rfl,_,_⟩:=ak o7;have hT7:=HT6.out.U7 (hd:=x) (by rw [←HM.out];exact o7) g7;have i7:=(bD.bK hr6 g7).is i6 (by decide);have e7:=i7.at 1 rfl;have q7:=i7.frozen 1;have HT7:=aa hT7
     clear hT7 o7 g7 i7 hr6 e1 i6)
    go_wp2_with fail;go_roundw
    case rel=>
     refine ⟨j+1,by omega,by simp,⟨_,Rs++[(hd,lv,Ls)],(x,.slice none 0 0,[]),_,_,by have:=HT7.out;rw [←HM.out] at *;exact this,by have:=b7.size;omega,?_,fP.nil _ _ _ _ _,by rw [List.length_append,←HM.out];simp;omega⟩,aj (iM.trans b7) hpB⟩;rw [HTL.out,Ic Ih.out.symm,←HSP.out,List.map_append];rfl
    case measure=>simp [intOf];omega
   ·have z0:((kx:Int)==0)=false:=by simp;omega
    have e8:IntKind.i64.wrap (((m+1:Nat):Int)-1)=(m:Int):=by rw [IntWalk.i64_in _ (by omega)];omega
    go_upto_region 8 with fail;go_quiet (fail);obtain ⟨wq,hwq⟩:=ae (w6.drewN nq);have hbq:Below w6.heap.size w6 wq:=by rw [hwq];exact ⟨rfl,rfl,rfl,Nat.le_refl _,fun _ _=>rfl⟩
    have hTq:=Vz.ext hbq;have hEq:=iM.trans (hbq.mono oz);have VA:B≤wq.heap.size:=Nat.le_trans oz hbq.size;rw [←hwq];clear hwq Vz iM oz hbq i6 e1;obtain ⟨la,lc,hlv,_,_⟩:=ak hTq.cur.row;simp only at hlv;subst hlv;obtain ⟨nl,hnl⟩:=ae Ls.length;have T_:=aa hnl;have hll:=HL.out.len;simp only at hll;have pU:=hTq.runs;rw [←HM.out] at pU;obtain ⟨g',rc',K_,_,_,_,hcell⟩:=dB (f:=kQ) j6 (l:=Rs++[(hd,Value.slice la Ls.length lc,Ls)]) (by rw [List.length_append,HM.out];rfl) pU (i:=m) (by rw [HM.out];simp);injection K_ with K_ _ afL;subst afL;injection K_ with K_;injection K_ with K_;subst K_;have c1:wq.cell? ⟨g,m*6+1,none⟩=some (.slice la Ls.length lc):=by
     have:=(hcell 1 (by decide)).1;rw [this];simp [HM.out,kQ]
    have hfl:(Ls.map fun x=>(x.1,x.2.1)).flatMap jD=Ls.flatMap eX:=by rw [List.flatMap_map];rfl
    have FD:=aa (Eb (w:=wq) (base:=F) (v:=.slice la Ls.length lc) (L:=Ls.map fun x=>(x.1,x.2.1)) (by rw [List.length_map,hfl];exact hTq.cur.row) (fun y hy=>by
     obtain ⟨z,hz,rfl⟩:=List.mem_map.1 hy;exact U5.own ((hTq.cur.xL).2 z hz).1) (List.pairwise_map.2 HL.out.rise) (fun y hy=>by
     obtain ⟨z,hz,rfl⟩:=List.mem_map.1 hy
     exact HL.out.small z hz) (by rw [List.length_map];omega) kx hk9)
    rw [←hnl] at c1 FD hll;have HTQ:=aa hTq;clear hcell hfl pU hTq hnl;go_wp2_with fail;refine FD.out.mono ?_;rintro e w8 ⟨k,fb,rfl,hfind,iZ⟩;have YI:=HTQ.out.ext iZ;have jW:=hEq.trans (iZ.mono VA);have XV:B≤w8.heap.size:=Nat.le_trans VA iZ.size;have c1:=aA iZ c1;have IV:=HL.out.find Xj.out hjl (by rw [←Sg.out,←Ih.out];exact hk0) (by rw [←Sg.out,←Ih.out];exact hfind);rw [←Sg.out,←Ih.out] at IV;simp only at IV;rw [←T_.out] at IV;have HT8:=aa YI;clear hfind iZ FD HTQ hEq VA YI;go_upto_if 61 with fail;go_cut [] from 62 to 73 (fun wx=>(∃(lg:Nat) (Pg:Nat) (q:List dU) (va:Option Addr) (vn vc:Nat) (l0:List Nat) (F' G':Nat),Fu wx B p (.pointer (some ⟨dp,0,none⟩)) (.slice (some ⟨g,0,none⟩) (m+1) rc) Rs (hd,.slice (some ⟨lg,0,none⟩) (k+1) Pg,q++[(kx,.slice va vn vc,l0)]) F' G'∧B≤F'∧k=q.length∧xM kx x (Ls.map dU.sp)=q.map dU.sp++[(kx,l0++[x])]∧(∀v',fP K l (j+1) (hd,.slice (some ⟨lg,0,none⟩) (k+1) Pg,q++[(kx,v',l0++[x])]))∧l0.length≤j∧vn=l0.length)∧Below B w wx)
    case first=>
     rcases IV with ⟨rfl,hk,hall⟩|⟨rfl,q,y,hq,hy,hk⟩
     ·have HK:=aa hk;have Ph:=aa hall;clear hk hall;have tL:=af (w:=w8) (.cells #[.int .i64 (kx:Nat),.slice none 0 0] eH);have hT9:=HT8.out.ext tL;have xK:Below B w (w8.alloc (.cells #[.int .i64 (kx:Nat),.slice none 0 0] eH)):=jW.trans (tL.mono XV);have hfl:(Ls.map fun x=>(x.1,x.2.1)).flatMap jD=Ls.flatMap eX:=by rw [List.flatMap_map];rfl
      have hins:=zu (w:=w8.alloc (.cells #[.int .i64 (kx:Nat),.slice none 0 0] eH)) (base:=F) (v:=.slice la Ls.length lc) (L:=Ls.map fun x=>(x.1,x.2.1)) (by rw [List.length_map,hfl];exact hT9.cur.row) (Nat.le_trans hT9.cur.fg hT9.cur.gs) (by rw [List.length_map,←T_.out];omega) (kx,.slice none 0 0) rfl (Is.new w8 _ eH);rw [List.length_map,List.flatMap_append,hfl] at hins;have Si:=hins;rw [←T_.out] at Si;have afN:=aa Si;have HT9:=aa hT9;have H2:=aa (show (Value.slice la Ls.length lc).ownBlock=(Value.slice la nl lc).ownBlock from by cases la with|none=>rfl|some a=>cases a;rfl);clear hins Si hT9 hfl;have HKN:=aa (show k=nl from HK.out);go_wp2_with fail;have hkn:=HKN.out;subst hkn;refine afN.out.mono ?_;rintro e xJ ⟨Ot,rfl,abU,Sj,_⟩;have YJ:xJ.ownsRow F eH 2 Ot (k+1) (Ls.flatMap eX++eX (kx,Value.slice none 0 0,[])):=abU;obtain ⟨lg,Pg,YK,_,_,_,_⟩:=dB (f:=eX) ja (l:=Ls++[(kx,Value.slice none 0 0,[])]) (by rw [List.length_append,←T_.out]) (by rw [List.flatMap_append];exact YJ) (i:=0) (by simp);subst YK;have VB:(w8.alloc (.cells #[.int .i64 (kx:Nat),.slice none 0 0] eH)).grownBy xJ (Value.slice la Ls.length lc).ownBlock:=by rw [H2.out];exact Sj
      have YL:=HT9.out.Ro (n:=kx) (by rw [←T_.out];exact YJ) VB
      have He:Below B w xJ:=xK.grown VB (by have:=XV;simp;omega) (fun i hi=>by
       have:=(HT9.out.cur.row.lt i hi).1
       omega)
      obtain ⟨r1,r2⟩:=IU ((bD.bK HT9.out.cur.row VB).own HT9.out.runs (by decide));rw [←HM.out] at r1 r2 YL;simp only at r1;have afO:=aa YL;clear abU YJ Sj VB YL c1;go_wp2_with fail;go_meet;refine ⟨⟨lg,Pg,Ls,none,0,0,[],_,_,afO.out,hBF,T_.out,zz (fun y hy=>?_),fun v'=>?_,Nat.zero_le _,rfl⟩,aj He hBg⟩
      ·have hm1:y∈Ls.map dU.sp:=List.mem_of_getLast? hy;obtain ⟨z,hz,rfl⟩:=List.mem_map.1 hm1;exact Nat.ne_of_lt (Ph.out z hz)
      ·have h9:=HL.out.new hjl (by rw [←Sg.out,←Ih.out];exact hk9) (fun y hy=>by rw [←Sg.out,←Ih.out];exact Ph.out y hy) (.slice (some ⟨lg,0,none⟩) (k+1) Pg) v' x;rw [←Sg.out,←Ih.out] at h9;exact h9
     ·have YI:=HT8.out;subst hq;have hlast:=YI.cur.last y (by simp only;rw [List.getLast?_concat]);obtain ⟨va,vc,hyv,_,_⟩:=ak hlast;obtain ⟨lg,Pg,YK,_,_,_,_⟩:=dB (f:=eX) ja (l:=q++[y]) rfl YI.cur.row (i:=0) (by simp);injection YK with hla _ hlc;have hnk:nl=k+1:=by rw [T_.out,hk];simp
      have hys:y.2.2.length≤j:=HL.out.marks y (by simp)
      have pG:=aa (show ∃(lg:Nat) (Pg:Nat) (q2:List dU) (va:Option Addr) (vn vc:Nat) (l0:List Nat) (F' G':Nat),Fu w8 B p (.pointer (some ⟨dp,0,none⟩)) (.slice (some ⟨g,0,none⟩) (m+1) rc) Rs (hd,.slice (some ⟨lg,0,none⟩) (k+1) Pg,q2++[(kx,.slice va vn vc,l0)]) F' G'∧B≤F'∧k=q2.length∧xM kx x ((q++[y]).map dU.sp)=q2.map dU.sp++[(kx,l0++[x])]∧(∀v',fP K l (j+1) (hd,.slice (some ⟨lg,0,none⟩) (k+1) Pg,q2++[(kx,v',l0++[x])]))∧l0.length≤j∧vn=l0.length from by
       have hye:y=(kx,.slice va y.2.2.length vc,y.2.2):=by
        obtain ⟨y1,y2,y3⟩:=y;simp only at hy hyv;rw [hy,hyv]
       have hlen:(q++[y]).length=k+1:=by rw [hk];simp
       refine ⟨lg,lc,q,va,y.2.2.length,vc,y.2.2,F,G,?_,hBF,hk,?_,fun v'=>?_,hys,rfl⟩
       ·have h9:=YI;rw [hla,hlen] at h9;rw [←hye];exact h9
       ·rw [List.map_append];have:List.map dU.sp [y]=[(y.1,y.2.2)]:=rfl;rw [this,Cv hy,hy]
       ·have h9:=(HL.out).more (v:=.slice la (q++[y]).length lc) hjl (by rw [←Sg.out,←Ih.out];exact hy) v' x;rw [hy] at h9
        exact ⟨h9.rise,h9.small,h9.last,h9.len,h9.marks⟩)
      clear YI hlast hyv hla hlc hnk hys hk hy;go_wp2_with fail;go_meet;obtain ⟨lg',lc2,q',va',vn',vc',l0',F',G',t1,t2,t3,t4,t5,t6,t7⟩:=pG.out;exact ⟨⟨lg',lc2,q',va',vn',vc',l0',F',G',t1,t2,t3,t4,t5,t6,t7⟩,jW⟩
    case rest=>
     clear IV HT8 c1 jW XV;obtain ⟨⟨lg,lc2,q,va,vn,vc,l0,F2,G2,hTc,YM,hkq,hadd,hlast,hl0,hvn⟩,xI⟩:=hcut;obtain ⟨IW,YN⟩:=ae wc;subst YN;have hTd:=hTc.ext (ag IW);have pU:=hTd.runs;obtain ⟨r1,_⟩:=IU pU;rw [←HM.out] at r1;have hrow:=hTd.cur.row;simp only [List.length_append,List.length_cons,List.length_nil] at hrow;obtain ⟨s1,_⟩:=v_ hrow;rw [←hkq] at s1;have hkj:k≤j:=by
      have:=(hlast (.slice none 0 0)).len;simp at this;omega
     have abV:B≤G2:=Nat.le_trans YM hTd.cur.fg;have hgl:B≤lg:=Nat.le_trans YM ((hrow.lt lg rfl).1);have gr1:=uW.keeps (S:=fun i=>i=g∨i=lg) r1 (.inl rfl);have gr2:=uW.keeps (S:=fun i=>i=g∨i=lg) s1 (.inr rfl);have hBc:B≤IW.heap.size:=Nat.le_trans abV hTc.cur.gs;have hvl:=hTd.cur.last (kx,.slice va vn vc,l0) (by simp only;rw [List.getLast?_concat]);have alv:g<IW.heap.size∧lg<IW.heap.size:=⟨(pU.lt g rfl).2,(hrow.lt lg rfl).2⟩;have afR:=aa hadd;have abW:=aa hlast;have HKQ:=aa hkq;have QA:=aa hvn;have HTD:=aa hTd;have HVL:=aa hvl;have TY:Below B w IW.drew:=xI.drew;clear hTc hTd pU hrow hadd hlast hkq hvn r1 s1 hvl xI;go_wp2_with fail;refine dY (KR.blocks fun i=>i=g∨i=lg) #[true,true,true,true,true,true,true,true,true,true,true,true,true,true,true,true,true,true,false] 18 1 mixed (by rfl) ?_;refine dL [0,1,2,3,4,5,6,7,8,9,10,11,12,13] 4 rfl (by kernel_rfl) ?_
     iterate 14 (refine aB rfl ?_;go_big_quiet_step (rfl))
     refine az ?_;have iB:=af (w:=IW.drew) (.cells #[.int .i32 (x:Nat)] aM);have Pj:=HTD.out.ext iB;have EH:Below B w (IW.drew.alloc (.cells #[.int .i32 (x:Nat)] aM)):=TY.trans (iB.mono hBc);refine bV 14 (by kernel_rfl) rfl ?_;go_wp2_with fail;refine bG (KR.of_below iB iB.size (fun i hi=>by rcases hi with rfl|rfl <;> (show _<IW.heap.size;omega))) ?_;have La:=aG HVL.out iB;rw [show (kx,Value.slice va vn vc,l0).2.2.length=vn from QA.out.symm] at La;refine bV 15 (by kernel_rfl) rfl ?_;refine lS (W:=IW.drew.alloc (.cells #[.int .i32 (x:Nat)] aM)) rfl _ _ 52 rfl G2 aM (.int .i32 0) 4 bT (by decide) (v:=.slice va vn vc) rfl La (Nat.le_trans HTD.out.cur.gs iB.size) [.int .i32 (x:Nat)] (by simp [Value.oneCell']) ⟨IW.drew.heap.size,0,none⟩ 1 1 rfl rfl (fun i u hi=>?_) (by have:=QA.out;omega) ?_
     ·rcases i with _|i
      ·cases hi;exact (Is.new IW.drew _ aM).at 0 rfl
      ·cases hi
     intro v13 Ap o13 Sk afT;obtain ⟨VC,VD,afU,_,_⟩:=ak o13;subst afU;have YO:=Pj.U8 (gl:=lg) (m:=x) (v':=.slice VC (vn+1) VD) (by rw [List.length_append,aZ,←QA.out];exact o13) Sk;rw [←HKQ.out] at YO;have YP:=bD.bK La Sk;obtain ⟨_,f13⟩:=v_ (by have:=YP.own Pj.cur.row (by decide);simp only [List.length_append,List.length_cons,List.length_nil] at this;exact this);obtain ⟨c13,_⟩:=v_ (by have:=YP.own Pj.cur.row (by decide);simp only [List.length_append,List.length_cons,List.length_nil] at this;exact this);rw [←HKQ.out] at c13 f13;have VE:Below B w Ap:=EH.grown Sk (by simp;omega) (fun i hi=>Nat.le_trans abV (La.lt i hi).1);have hkg:(.slice va vn vc:Value).ownBlock≠some g∧(.slice va vn vc:Value).ownBlock≠some lg:=⟨fun e=>absurd ((bP La e).one (bP Pj.runs (k:=g) rfl)) (by decide),fun e=>absurd ((bP La e).one (bP Pj.cur.row (k:=lg) rfl)) (by decide)⟩;have afV:=aa YO;have HKG:=aa hkg;clear YO Pj o13 afT YP hkg La;go_wp2_with fail;refine bG (KR.bK (w:=IW.drew.alloc (.cells #[.int .i32 (x:Nat)] aM)) Sk Sk.size (fun i hi=>?_)) ?_
     ·rcases hi with rfl|rfl
      ·exact ⟨by simp;omega,HKG.out.1⟩
      ·exact ⟨by simp;omega,HKG.out.2⟩
     refine dL [16,17] 0 rfl (by kernel_rfl) ?_
     iterate 2 (refine aB rfl ?_;go_big_quiet_step (rfl))
     refine az ?_;refine fM [18] (by kernel_rfl) ?_;refine tail_cons rfl ?_;go_wp2_with fail;refine tail_nil ?_;go_wp2_with fail;go_roundw
     case rel=>
      refine ⟨j+1,by omega,by simp,⟨_,Rs,(hd,.slice (some ⟨lg,0,none⟩) (k+1) lc2,q++[(kx,.slice VC (vn+1) VD,l0++[x])]),F2,G2,afV.out,YM,?_,abW.out _,by rw [←HM.out];omega⟩,aj VE hgl⟩;rw [HTL.out,←HSP.out];simp only [List.map_append];have e9:List.map bX.sp [(hd,Value.slice la Ls.length lc,Ls)]=[(hd,Ls.map dU.sp)]:=rfl;rw [e9,Cw (by rw [←Ih.out];exact hk0),←Ih.out,afR.out];have e10:List.map bX.sp [(hd,Value.slice (some ⟨lg,0,none⟩) (k+1) lc2,q++[(kx,Value.slice VC (vn+1) VD,l0++[x])])]=[(hd,(q++[(kx,Value.slice VC (vn+1) VD,l0++[x])]).map dU.sp)]:=rfl;rw [e10,List.map_append];rfl
     case measure=>simp [intOf];omega
  ·obtain rfl:j=n:=by omega
   have zj:decide ((j:Int)<(j:Int))=false:=by simp
   have hlt:l.take j=l:=List.take_of_length_le (by rw [HN.out];exact Nat.le_refl _);rw [hlt] at hsp;have hM:=hT.made;have qU:zM (Rs++[(hd,lv,Ls)]):=zM.of (k:=l.length) (by rw [hsp];exact eZ K l) (by rw [←HN.out];omega);obtain ⟨R,hR⟩:=ae (Rs++[(hd,lv,Ls)]);rw [←hR] at hM qU hsp;have HSP:=aa hsp;obtain ⟨nr,hnr⟩:=ae R.length;have alx:0<nr:=by rw [hnr,hR];simp
   have afE:nr<10000:=by rw [hnr];exact qU.1
   obtain ⟨N,hNN⟩:=ae wr.heap.size;rw [←hNN] at hM;obtain ⟨g,rc,hrs,hrc,_,hBg,-⟩:=dB (f:=kQ) j6 rfl hM.runs (i:=0) (by omega);rw [←hnr] at hrs;subst hrs;have afX:(R.length:Nat)=nr:=hnr.symm;have i1:=hM.is;have e1:wr.cell? ⟨p,1,none⟩=some (.slice (some ⟨g,0,none⟩) nr rc):=i1.at 1 rfl;have NQ:=aa hM;have HF:=aa qU;have Ud:=aa hnr;have mF:=aa hNN;clear hM qU hnr afX hNN hrc hT hL hsp hlt hR hRl i1;go_wp2_with fail;go_loopw [13,98] (fun _ iv wq=>∃i:Nat,i≤nr∧iv=.int .i64 i∧(∃iC,Bd wq B N p (.pointer (some ⟨dp,0,none⟩)) (.slice (some ⟨g,0,none⟩) nr rc) iC false R∧bO wq (.agg #[iC]) (fQ (R.take i)))∧Below B w wq) (fun _ iv _=>nr-(intOf iv).toNat)
   case atStart=>exact ⟨0,Nat.zero_le _,rfl,⟨_,NQ.out,_,rfl,by rw [show fQ (R.take 0)=0 from rfl,dz];exact .nil _ _ _ _ (fun _=>rfl)⟩,hE⟩
   case round=>
    obtain ⟨i,hi,rfl,⟨iC,hM,hZ⟩,hE2⟩:=hrel;by_cases hin:i<nr
    ·have zi:decide ((i:Int)<(nr:Int))=true:=by simp;omega
     have hil:i<R.length:=by have:=Ud.out;omega
     obtain ⟨g',rc',hrs,_,_,_,hc⟩:=dB (f:=kQ) j6 rfl hM.runs hil;injection hrs with hrs qO hrc;clear qO;subst hrc;injection hrs with hrs;injection hrs with hrs;subst hrs;have hrow:=hM.xL _ (List.getElem_mem hil);have qU:=HF.out.2 _ (List.getElem_mem hil);have hsz:=vX hil;obtain ⟨r,hr⟩:=ae (R[i]);rw [←hr] at hc hrow qU hsz;obtain ⟨hd,lv,Ls⟩:=r;obtain ⟨la,lc,hlv,_,_⟩:=ak hrow.1.1;simp only at hlv;obtain ⟨ln,hln⟩:=ae Ls.length;rw [←hln] at hlv;subst hlv;have c0:wr.cell? ⟨g,i*6,none⟩=some (.int .i32 hd):=(hc 0 (by decide)).1;have c1:wr.cell? ⟨g,i*6+1,none⟩=some (.slice la ln lc):=(hc 1 (by decide)).1;have c2:wr.cell? ⟨g,i*6+2,none⟩=some (.slice none 0 0):=(hc 2 (by decide)).1;have c3:wr.cell? ⟨g,i*6+3,none⟩=some (.slice none 0 0):=(hc 3 (by decide)).1;have c4:wr.cell? ⟨g,i*6+4,none⟩=some (.int .i64 0):=(hc 4 (by decide)).1;have c5:wr.cell? ⟨g,i*6+5,none⟩=some (.int .i64 0):=(hc 5 (by decide)).1;have hb2:=af (w:=wr) (.cells #[.int .i32 hd,.slice la ln lc,.slice none 0 0,.slice none 0 0,.int .i64 0,.int .i64 0] d_);obtain ⟨w2,hw2⟩:=ae (wr.alloc (.cells #[.int .i32 hd,.slice la ln lc,.slice none 0 0,.slice none 0 0,.int .i64 0,.int .i64 0] d_));rw [←hw2] at hb2;have k2:Is w2 wr.heap.size #[.int .i32 hd,.slice la ln lc,.slice none 0 0,.slice none 0 0,.int .i64 0,.int .i64 0] d_:=by rw [hw2];exact Is.new _ _ _
     have hM2:=hM.ext hb2;have hZ2:=hZ.mono hb2;have i2:=hM2.is;have g2:=Gr.cell (ag w2) (i2.at 2 rfl);have f0:=Gr.cell (ag w2) (k2.at 0 rfl);have f1:=Gr.cell (ag w2) (k2.at 1 rfl);have f2:=Gr.cell (ag w2) (k2.at 2 rfl);have f3:=Gr.cell (ag w2) (k2.at 3 rfl);have f4:=Gr.cell (ag w2) (k2.at 4 rfl);have f5:=Gr.cell (ag w2) (k2.at 5 rfl);have VA:B≤wr.heap.size:=by have:=hM.low;have:=hM.hi;omega
     have kY:=hE2.trans (hb2.mono VA);have BS:=aa (fun (W:World) (E:Below w2.heap.size w2 W)=>zB (w:=W) (F:=N) (hd:=hd) (la:=la) (ln:=ln) (lc:=lc) (Ls:=Ls) ((hrow.keep (.of_below (hb2.mono hM.hi.2) hb2.size) (.of_below (hb2.mono hM.hi.2) hb2.size)).keep (.of_below (E.mono (Nat.le_trans hM.hi.2 hb2.size)) E.size) (.of_below (E.mono (Nat.le_trans hM.hi.2 hb2.size)) E.size)) qU.1 qU.2 none none 0 0 0 0 0 0);have ZQ:=aa hsz;have Be:=aa hM2;have HZ2:=aa hZ2;have HFW:=aa qU;have yX:=aa hln;have hBN:B≤w2.heap.size:=Nat.le_trans VA hb2.size;clear hc hrow qU hsz hr hM hZ hM2 hZ2 hln i2 hb2 hE2 VA;go_upto_region 17 with fail;rw [←hw2];clear hw2 c0 c1 c2 c3 c4 c5 k2;refine aF #[true,true,true,true,true,true,true,true,true,true,true,false] 11 1 mixed (by rfl) ?_;refine ay [0,1,2,3,4,5] 5 rfl (by kernel_rfl) ?_
     iterate 6 (refine aB rfl ?_;go_big_quiet_step (rfl))
     refine az ?_;refine aI 6 (by kernel_rfl) rfl ?_;go_wp2_with fail;have hq2:Below w2.heap.size w2 w2.drew:=ag w2;refine (BS.out _ hq2).mono ?_;rintro e w3 ⟨bv,rfl,ho3,hb3⟩;go_wp2_with fail;refine aD hb3 ?_;have iM:=kY.drew.trans (hb3.mono hBN);refine aI 7 (by kernel_rfl) rfl ?_;go_wp2_with fail;have hsm:=sJ (r:=(hd,.slice la ln lc,Ls)) HFW.out.2;have hbl:=zA Ls;have hl1:Ls.length<10000:=HFW.out.1;have ha:bB w3 bv (bJ ((gy Ls).map fun b:Nat=>(b:Int))):=by
      rw [←hbl,←show (ds (gy Ls)).length=(gy Ls).length by simp [ds]] at ho3;rw [Et];exact (Sl.aW ho3).any
     have hbg:∀d∈(gy Ls).map fun b:Nat=>(b:Int),d<9223372036854775808:=fun d hd=>by
      obtain ⟨b,hb,rfl⟩:=List.mem_map.1 hd;have h1:=hsm b hb;unfold Go.Cd.B at h1;omega
     have hdg:∀k,k≤(gy Ls).length→(bR Go.Cd.B (eu ((gy Ls).take k))).length<274877906944:=fun k hk=>by
      have h1:=zL hsm k hk;have h2:k≤Ls.length:=by rw [←hbl];exact hk
      exact Nat.lt_of_le_of_lt h1 (by omega)
     have PR:=K5 (w:=w3) (v:=bv) (l:=(gy Ls).map fun b:Nat=>(b:Int)) ha (by rw [List.length_map];omega) hbg (fun k hk=>by rw [IJ];rw [List.length_map] at hk;exact hdg k hk);rw [IJ] at PR;refine PR.mono ?_;rintro e w4 ⟨pv,rfl,hp4,hb4⟩;go_wp2_with fail;refine aD hb4 ?_;have hq3:Below w2.heap.size w2 w3:=hq2.trans (hb3.mono hq2.size);have hq4:Below w2.heap.size w2 w4:=hq3.trans (hb4.mono hq3.size);refine aI 8 (by kernel_rfl) rfl ?_;go_wp2_with fail;have hd1:(bR Go.Cd.B (fQ (R.take i))).length<549755813888:=by
      have:=EE HF.out (j:=i) (by have:=Ud.out;omega);omega
     have hd2:(bR Go.Cd.B (eu (gy Ls))).length<549755813888:=by
      have:=hdg _ (Nat.le_refl _);rw [List.take_length] at this;omega
     have AD:=Ex (HZ2.out.mono hq4) hp4 hd1 hd2;refine AD.mono ?_;rintro e w5 ⟨av,rfl,hp5,hb5⟩;go_wp2_with fail;refine aD hb5 ?_;have Uf:Below w2.heap.size w2 w5:=hq4.trans (hb5.mono hq4.size);refine ay [9,10] 0 rfl (by kernel_rfl) ?_
     iterate 2 (refine aB rfl ?_;go_big_quiet_step (rfl))
     refine az ?_;have Ue:=Be.out.ext Uf;obtain ⟨sa,sn,sc,rfl,hp5⟩:=hp5.out;have i5:=Ue.is;have e5:=i5.at 2 rfl;have f5':=i5.frozen 2;refine aJ [11] (by kernel_rfl) ?_;refine tail_cons rfl ?_;go_wp2_with fail;refine tail_nil ?_;go_wp2_with fail;go_roundw
     case rel=>
      refine ⟨i+1,by omega,by simp,⟨_,Ue.put 2 _ rfl,?_⟩,aj (kY.trans (Uf.mono hBN)) hpB⟩;rw [ZQ.out];exact hp5.put i5.at_ (by decide)
     case measure=>simp [intOf];omega
    ·have zi:decide ((i:Int)<(nr:Int))=false:=by simp;omega
     obtain rfl:i=nr:=by omega
     have ht:R.take i=R:=List.take_of_length_le (by rw [Ud.out];exact Nat.le_refl _);rw [ht] at hZ;have i2:=hM.is;have g2:=Gr.cell (ag wr) (i2.at 2 rfl);have HMQ:=aa hM;have HZ:=aa hZ;have HT9:=aa ht;have VA:B≤wr.heap.size:=by have:=hM.low;have:=hM.hi;omega
     clear hM hZ ht i2 e1;go_wp2_with fail;refine aF #[true,true,true,true,true,true,true,true,true,true,false] 10 1 mixed (by rfl) ?_;refine ay [0,1,2,3,4] 5 rfl (by kernel_rfl) ?_
     iterate 5 (refine aB rfl ?_;go_big_quiet_step (rfl))
     refine az ?_;refine aI 5 (by kernel_rfl) rfl ?_;go_wp2_with fail;refine (CR 16384 (by decide) wr.drew).mono ?_;rintro e w3 ⟨mv,rfl,hp3,hb3⟩;go_wp2_with fail;refine aD hb3 ?_;have hq3:Below wr.heap.size wr w3:=(ag wr).trans (hb3.mono (ag wr).size);refine aI 6 (by kernel_rfl) rfl ?_;go_wp2_with fail;have hd1:(bR Go.Cd.B (fQ R)).length<1099511627776:=by
      have:=EE HF.out (j:=R.length) (Nat.le_refl _);rw [List.take_length] at this;omega
     have hd2:(bR Go.Cd.B 16384).length<1099511627776:=by
      have:(bR Go.Cd.B 16384).length≤1:=by rw [cZ bF];unfold Go.Cd.B;decide
      omega
     have zc:decide (u_ (fQ R) 16384≤0)=decide (fQ R≤16384):=by
      unfold u_;by_cases h1:fQ R<16384
      ·rw [if_pos h1,decide_eq_true (by omega),decide_eq_true (by omega)]
      ·rw [if_neg h1];by_cases h2:16384<fQ R
       ·rw [if_pos h2,decide_eq_false (by omega),decide_eq_false (by omega)]
       ·rw [if_neg h2,decide_eq_true (by omega),decide_eq_true (by omega)]
     obtain ⟨sm,hsm⟩:=ae (decide (fQ R≤16384));obtain ⟨cz,hcz⟩:=ae (u_ (fQ R) 16384);have CO:=zJ (HZ.out.mono hq3) hp3 hd1 hd2;rw [←hsm,←hcz] at zc;rw [←hcz] at CO;have HSM:=aa hsm;clear hsm hcz;refine CO.mono ?_;rintro e w4 ⟨rfl,hb4⟩;go_wp2_with fail;refine aD hb4 ?_;have hq4:Below wr.heap.size wr w4:=hq3.trans (hb4.mono hq3.size);refine ay [7,8,9] 0 rfl (by kernel_rfl) ?_
     iterate 3 (refine aB rfl ?_;go_big_quiet_step (rfl))
     refine az ?_;have UT:=HMQ.out.ext hq4;have hZ4:=HZ.out.mono hq4;have i4:=UT.is;have e43:=i4.at 3 rfl;have f43:=i4.frozen 3;have Ue:=UT.put 3 (.bool sm) (YH:=iC) (K6:=sm) rfl;have hZ5:bO (w4.setCell ⟨p,3,none⟩ (.bool sm)) (.agg #[iC]) (fQ R):=hZ4.put i4.at_ (by decide);have jI:Below B w (w4.setCell ⟨p,3,none⟩ (.bool sm)):=aj (hE2.trans (hq4.mono VA)) hpB;have HNU:=aa (IQ Ue HF.out (fun h=>by rw [HSM.out] at h;exact of_decide_eq_true h) hBg);have HZ5:=aa hZ5;have HE5:=aa jI;clear UT hZ4 i4 Ue hZ5 jI;refine aJ [10] (by kernel_rfl) ?_;refine tail_cons rfl ?_;go_wp2_with fail;refine tail_nil ?_;go_wp2_with fail;refine HNU.out.mono ?_;rintro e w6 ⟨rfl,Es,hEs,hM6,oz,hC6⟩;go_wp2_with fail;go_ret;refine ⟨p,rfl,?_,?_⟩
     ·rw [←HB.out];exact ⟨N,_,iC,Es,by rw [hEs];exact HSP.out,by rw [hEs,←HSM.out];exact hM6,by rw [hEs];exact bO.iD HZ5.out hC6 (by decide)⟩
     ·have:=HE5.out.trans oz;rw [HB.out] at this;exact this
theorem eO.mono {w w':World} {B p dp:Nat} {K:Nat→Nat} {l:List Nat} (h:eO w B p dp K l) (hb:Below w.heap.size w w'):eO w' B p dp K l:=by
 obtain ⟨N,rs,iC,Es,h1,h2,h3⟩:=h;exact ⟨N,rs,iC,Es,h1,h2.ext hb,h3.mono hb⟩
def oG (r:cO):List Nat:=r.2.map fun x=>x.2.length+1
def Aq (r:cO):Nat:=eu (oG r)
def eB (rs:List cO):Nat:=(rs.map Aq).sum
theorem ML (r:bX):gy r.2.2=oG (bX.sp r):=by
 unfold gy oG bX.sp;rw [List.map_map];rfl
theorem EI (Rs:List bX):fQ Rs=eB (Rs.map bX.sp):=by
 unfold fQ eB;rw [List.map_map];congr 1;refine List.map_congr_left fun r _=>?_;unfold R9;rw [ML];rfl
structure Sm (w:World) (p dp:Nat) (rs:List cO) (g rc:Nat) (iC:Value) (small:Bool) (Es:List oF):Prop where
 sp:Es.map (fun e=>bX.sp e.1)=rs
 is:Is w p #[.pointer (some ⟨dp,0,none⟩),.slice (some ⟨g,0,none⟩) rs.length rc,iC,.bool small] 151
 run:∀k (hk:k<Es.length),∀j<6,w.cell? ⟨g,k*6+j,none⟩=(lV Es[k])[j]?
 sl:∀e∈Es,∃la lc,e.1.2.1=.slice la e.1.2.2.length lc
 lane:∀e∈Es,∀k (hk:k<e.1.2.2.length),∃lg c,e.1.2.1=.slice (some ⟨lg,0,none⟩) e.1.2.2.length c∧w.cell? ⟨lg,k*2,none⟩=some (.int .i64 (e.1.2.2[k].1:Nat))∧w.cell? ⟨lg,k*2+1,none⟩=some e.1.2.2[k].2.1
 marks:∀e∈Es,∀x∈e.1.2.2,bB w x.2.1 (aN x.2.2)
 size:bO w (.agg #[iC]) (eB rs)
 le:small=decide (eB rs≤16384)
 Vx:small=true→∀k (hk:k<Es.length),fO w (Sc Es[k]) (oG (bX.sp Es[k].1))∧Es[k].2.2=(eB (rs.take k):Nat)
theorem eO.read {w:World} {B p dp:Nat} {K:Nat→Nat} {l:List Nat} (h:eO w B p dp K l):∃g rc iC small Es,Sm w p dp (bu K l) g rc iC small Es:=by
 obtain ⟨N,rs,iC,Es,h1,h2,h3⟩:=h;have hsp:Es.map (fun e=>bX.sp e.1)=bu K l:=by rw [←h1,List.map_map];rfl
 have hne:0<Es.length:=by
  rw [←List.length_map (f:=fun e=>bX.sp e.1),hsp];exact List.length_pos_iff.2 (eZ K l).1
 have hsz:fQ (Es.map (·.1))=eB (bu K l):=by rw [EI,h1]
 obtain ⟨g,rc,hrs,_,_,_,_⟩:=dB (f:=lV) vY rfl h2.runs hne;subst hrs;have hlen:Es.length=(bu K l).length:=by rw [←hsp,List.length_map]
 refine ⟨g,rc,iC,_,Es,hsp,by rw [←hlen];exact h2.is,fun k hk j hj=>(h2.cells hk j hj).1,fun e he=>?_,fun e he k hk=>?_,fun e he x hx=>?_,by rw [←hsz];exact h3,by rw [hsz],fun ht k hk=>?_⟩
 ·obtain ⟨la,lc,hv,_,_⟩:=ak (h2.xL e he).1.1;exact ⟨la,lc,hv⟩
 ·obtain ⟨g',rc',hv,_,_,_,hc⟩:=dB (f:=eX) ja rfl (h2.xL e he).1.1 hk;refine ⟨g',rc',hv,(hc 0 (by decide)).1,(hc 1 (by decide)).1⟩
 ·have h4:=((h2.xL e he).2 x hx).1;rw [show x.2.2.length=(aN x.2.2).length by simp [aN]] at h4;exact (Sl.aW h4).any
 ·have h4:=h2.Vx k hk (by rw [if_pos ht];exact hk);refine ⟨?_,?_⟩
  ·rw [←ML];exact h4.1.weak
  ·rw [h4.2,EI,List.map_take,h1]
theorem CS {w:World} {B p dp:Nat} {K:Nat→Nat} {l:List Nat} (h:eO w B p dp K l) :
 Calls Tryz.prog 51 #[.pointer (some ⟨p,0,none⟩)] w fun e w'=>∃v,e=.returned v∧bO w' v (eB (bu K l))∧Below w.heap.size w w':=by
 obtain ⟨g,rc,iC,small,Es,hR⟩:=h.read;have hz:=hR.size;obtain ⟨sa,sn,sc,he,hz'⟩:=hz.out;injection he with he;injection he with he;injection he with he _;subst he;have hb:=af (w:=w) (.cells #[.slice none 0 0] 36);have i1:=hR.is.mono hb;have e2:=i1.at 2 rfl;have j1:=Is.new w #[.slice none 0 0] 36;have e0:=j1.at 0 rfl;have f0:=j1.frozen 0;have HZ2:=aa (hz.mono (af (w:=w) (.cells #[.slice sa sn sc] 36)));have hb2:=af (w:=w) (.cells #[.slice sa sn sc] 36);have s0:=(Is.new w #[.slice sa sn sc] 36).at 0 rfl;clear h hR hz hz' i1 j1;go_enter Tryz.func51,Tryz.ntmps51;go_wp2;exact bodyPost_ret (v:=.agg #[.slice sa sn sc]) (by simp [results,Tryz.results51,go_sem,s0]) rfl ⟨_,rfl,HZ2.out,hb2⟩
def MM (w:World) (v:Value) (h:Int) (ms:List Int):Prop:=∃sv,v=.agg #[.int .i64 h,sv]∧Sl bq w sv (bJ ms)
theorem MM.mono {w w':World} {v:Value} {h:Int} {ms:List Int} (k:MM w v h ms) (hb:Below w.heap.size w w'):MM w' v h ms:=by
 obtain ⟨sv,hv,hs⟩:=k;exact ⟨sv,hv,hs.mono hb⟩
theorem VG {w:World} {B p dp:Nat} {K:Nat→Nat} {l:List Nat} (h:eO w B p dp K l) (hl:l.length<9000) {k:Nat} (hk:k<(bu K l).length) :
 Calls Tryz.prog 173 #[.pointer (some ⟨p,0,none⟩),.int .i64 k] w fun e w'=>∃v,e=.returned v∧MM w' v k (List.replicate (bu K l)[k].2.length 0)∧Below w.heap.size w w':=by
 obtain ⟨g,rc,iC,small,Es,hR⟩:=h.read;have Xv:k<Es.length:=by rw [←List.length_map (f:=fun e=>bX.sp e.1),hR.sp];exact hk
 have hsp:bX.sp Es[k].1=(bu K l)[k]:=by simp [←hR.sp]
 obtain ⟨la,lc,hv⟩:=hR.sl _ (List.getElem_mem Xv);obtain ⟨n,hn⟩:=ae (Es[k].1.2.2.length);have hn2:(bu K l)[k].2.length=n:=by rw [←hsp,hn];simp [bX.sp]
 have qO:n<10000:=by
  have:=((eZ K l).2.2 _ (List.getElem_mem hk)).1;omega
 rw [←hn] at hv;have c1:w.cell? ⟨g,k*6+1,none⟩=some (.slice la n lc):=by rw [hR.run k Xv 1 (by decide),←hv];rfl
 obtain ⟨w1,hw1⟩:=ae (w.alloc (.cells #[.int .i64 0,.slice none 0 0] 199));have hb:=af (w:=w) (.cells #[.int .i64 0,.slice none 0 0] 199);rw [←hw1] at hb;have e1:=(hR.is.mono hb).at 1 rfl;obtain ⟨nr,hnr⟩:=ae ((bu K l).length);have Q6:w1.cell? ⟨p,1,none⟩=some (.slice (some ⟨g,0,none⟩) nr rc):=by rw [hnr];exact e1
 rw [hn2];rw [←hnr] at hk;have c1':=aA hb c1;clear h hR hv hn hnr hsp hn2 e1 c1;go_enter Tryz.func173,Tryz.ntmps173;subst hw1
 go_wp2_with (
  at_make
  refine fG _ rfl _ _ 23 rfl (w.heap.size+1) bq _ 8 jh rfl .i64 .i64 _ _ n rfl rfl (by omega) (by omega) (by omega) (by unfold maxLen;omega) (by simp) ?_;intro w2 o2 hg2;have hb2:=fA hg2;have i2:=(Is.new w #[.int .i64 0,.slice none 0 0] 199).mono hb2;have e20:=i2.at 0 rfl;have f20:=i2.frozen 0;have i3:=i2.set 0 (.int .i64 k);have e31:=i3.at 1 rfl;have f31:=i3.frozen 1;have i4:=i3.set 1 (.slice (some ⟨w.heap.size+1,0,none⟩) n n);have e40:=i4.at 0 rfl;have e41:=i4.at 1 rfl;have HO:=aa o2;have HB:=aa hb2
  clear o2 hg2 hb2 i2 i3 i4)
 have ho:=bn (bn HO.out (k:=w.heap.size) (by simp [Value.ownBlock]) 0 (.int .i64 k)) (k:=w.heap.size) (by simp [Value.ownBlock]) 1 (.slice (some ⟨w.heap.size+1,0,none⟩) n n);rw [show List.replicate n (Value.int IntKind.i64 0)=bJ (List.replicate n 0) by simp [bJ]] at ho;rw [show n=(bJ (List.replicate n 0)).length by simp [bJ]] at ho;refine bodyPost_ret (v:=.agg #[.int .i64 k,.slice (some ⟨w.heap.size+1,0,none⟩) n n]) (by simp [results,Tryz.results173,go_sem,e40,e41]) rfl ⟨_,rfl,⟨_,rfl,?_⟩,aj (aj (af (w:=w) _ |>.trans (HB.out.mono (by simp))) (Nat.le_refl _)) (Nat.le_refl _)⟩;have:=Sl.aW ho;simpa [bJ] using this
def Lb (w:World) (lv:Value) (L:List (Nat×List Nat)):Prop:=
 ∃la lc,lv=.slice la L.length lc∧∀k (hk:k<L.length),∃lg va vc,la=some ⟨lg,0,none⟩∧w.cell? ⟨lg,k*2,none⟩=some (.int .i64 (L[k].1:Nat))∧
  w.cell? ⟨lg,k*2+1,none⟩=some (.slice va L[k].2.length vc)∧bB w (.slice va L[k].2.length vc) (aN L[k].2)
theorem Lb.mono {w w':World} {lv:Value} {L:List (Nat×List Nat)} (h:Lb w lv L) (hb:Below w.heap.size w w'):Lb w' lv L:=by
 obtain ⟨la,lc,hv,hk⟩:=h;refine ⟨la,lc,hv,fun k hk'=>?_⟩;obtain ⟨lg,va,vc,h1,h2,h3,h4⟩:=hk k hk';exact ⟨lg,va,vc,h1,aA hb h2,aA hb h3,h4.mono hb⟩
def abX (w:World) (v:Value) (S:cO):Prop:=∃lv x1 m1 y1 x2 m2 y2 z f,v=.agg #[.int .i32 S.1,lv,.slice x1 m1 y1,.slice x2 m2 y2,.int .i64 z,.int .i64 f]∧Lb w lv S.2
def mq (ms:List Int) (L:List (Nat×List Nat)):Bool:=(ms.zip L).all fun x=>!decide (x.1<(x.2.2.length:Nat))
theorem zN {w:World} {v u:Value} {S:cO} {hh:Int} {ms:List Int} (h:abX w v S) (hs:MM w u hh ms) (hl:ms.length=S.2.length) (hl9:S.2.length<10000) (X7:∀x∈S.2,x.2.length<10000) :
 Calls Tryz.prog 133 #[v,u] w fun e w'=>e=.returned (.bool (mq ms S.2))∧Below w.heap.size w w':=by
 obtain ⟨lv,x1,m1,y1,x2,m2,y2,z,f,rfl,la,lc,rfl,hk⟩:=h;obtain ⟨sv,rfl,hsv⟩:=hs;obtain ⟨sa,sc,rfl,_,hx⟩:=bB.out hsv.any;rw [show (bJ ms).length=ms.length by simp [bJ],hl];obtain ⟨n,hn⟩:=ae S.2.length;rw [←hn] at hl hl9 ⊢;obtain ⟨w2,hw2⟩:=ae ((w.alloc (.cells #[.int .i32 S.1,.slice la n lc,.slice x1 m1 y1,.slice x2 m2 y2,.int .i64 z,.int .i64 f] d_)).alloc (.cells #[.int .i64 hh,.slice sa n sc] 199));have hb:Below w.heap.size w w2:=by rw [hw2];exact ed _ _
 have k1:Is w2 w.heap.size #[.int .i32 S.1,.slice la n lc,.slice x1 m1 y1,.slice x2 m2 y2,.int .i64 z,.int .i64 f] d_:=by rw [hw2];exact (Is.new _ _ _).mono (af _)
 have k2:Is w2 (w.heap.size+1) #[.int .i64 hh,.slice sa n sc] 199:=by rw [hw2];exact Is.new' _ _ _ _ (by simp)
 have e1:=k1.at 1 rfl;have e2:=k2.at 1 rfl;have HX:=aa hx;have HK:=aa hk;have HN:=aa hn;have HL:=aa hl;have HM:=aa X7;have qO:n<10000:=hl9;clear hx hk hn hl X7 hl9 hsv k1 k2;go_enter Tryz.func133,Tryz.ntmps133;go_wp2_with fail;rw [←hw2];clear hw2;go_loopw [5,6,10] (fun _ _ iv wr=>∃i:Nat,i≤n∧iv=.int .i64 i∧(((ms.zip S.2).take i).all fun x=>!decide (x.1<(x.2.2.length:Nat)))=true∧Below w2.heap.size w2 wr) (fun _ _ iv _=>n-(intOf iv).toNat)
 case atStart=>exact ⟨0,Nat.zero_le _,rfl,rfl,Below.refl _ _⟩
 case round=>
  obtain ⟨i,hi,rfl,hall,hE⟩:=hrel;by_cases hin:i<n
  ·have zi:decide ((i:Int)<(n:Int))=true:=by simp;omega
   have JL:i<S.2.length:=by have:=HN.out;omega
   have him:i<ms.length:=by have:=HL.out;omega
   obtain ⟨b,off,rfl,_,c0⟩:=HX.out i (by simpa [bJ] using him);obtain ⟨lg,va,vc,rfl,_,l1,_⟩:=HK.out i JL;rw [show (bJ ms)[i]'(by simpa [bJ] using him)=.int .i64 ms[i] by simp [bJ]] at c0;obtain ⟨mi,yh⟩:=ae (ms[i]);obtain ⟨xl,hxl⟩:=ae (S.2[i].2.length);rw [←yh] at c0;rw [←hxl] at l1;have c0:=aA hE (aA hb c0);have l1:=aA hE (aA hb l1);have e1:=aA hE e1;have e2:=aA hE e2;have hzl:i<(ms.zip S.2).length:=by rw [List.length_zip];omega
   have hze:(ms.zip S.2)[i]=(ms[i],S.2[i]):=List.getElem_zip;have HZE:=aa hze;have Ph:=aa hall;have U_:=aa yh;have Rv:=aa hxl;clear hze hall yh hxl;by_cases hlt:mi<(xl:Int)
   ·have zl:decide (mi<(xl:Int))=true:=decide_eq_true hlt;go_wp2_with fail;go_ret;refine ⟨?_,hb.trans (hE.mono hb.size)⟩;have:mq ms S.2=false:=by
     unfold mq;rw [List.all_eq_false];refine ⟨_,List.getElem_mem hzl,?_⟩;rw [HZE.out];simp only [←U_.out,←Rv.out];simp [hlt]
    rw [this];rfl
   ·have zl:decide (mi<(xl:Int))=false:=decide_eq_false hlt;go_wp2_with fail;go_roundw
    case rel=>
     refine ⟨i+1,by omega,by simp,?_,hE⟩;rw [List.take_succ_eq_append_getElem hzl,List.all_append,Ph.out,HZE.out];simp only [←U_.out,←Rv.out,List.all_cons,List.all_nil,zl];rfl
    case measure=>simp [intOf];omega
  ·have zi:decide ((i:Int)<(n:Int))=false:=by simp;omega
   obtain rfl:i=n:=by omega
   have ht:(ms.zip S.2).take i=ms.zip S.2:=List.take_of_length_le (by rw [List.length_zip,HL.out,←HN.out];omega);rw [ht] at hall;have Ph:=aa hall;clear hall ht;go_wp2_with fail;go_ret;refine ⟨?_,hb.trans (hE.mono hb.size)⟩;have:mq ms S.2=true:=Ph.out;rw [this];rfl
def EJ:List Nat→Nat→List Nat
 | [],_=>[]
 | _::bs,i=>i / aX bs::EJ bs (i % aX bs)
@[simp] theorem sK:∀(bs:List Nat) (i:Nat),(EJ bs i).length=bs.length
  | [],_=>rfl
  | _::bs,i=>by simp [EJ,sK bs]
theorem CV:∀(bs:List Nat) (j:Nat),aX (bs.drop j) ∣ aX bs
 | [],j=>by simp
 | b::bs,0=>Nat.dvd_refl _
 | b::bs,j+1=>Nat.dvd_trans (CV bs j) ⟨b,by simp [aX,Nat.mul_comm]⟩
theorem EM:∀(bs:List Nat) (i j:Nat) (h:j<bs.length),(∀b∈bs,1≤b)→i<aX bs→(EJ bs i)[j]'(by simpa using h)=i / aX (bs.drop (j+1)) % bs[j]
 | b::bs,i,0,h,hp,hi=>by
   have hlt:i / aX bs<b:=Nat.div_lt_of_lt_mul (by rw [Nat.mul_comm];exact hi);simp [EJ,Nat.mod_eq_of_lt hlt]
 | b::bs,i,j+1,h,hp,hi=>by
   have hp':∀b∈bs,1≤b:=fun c hc=>hp c (List.mem_cons_of_mem _ hc);have hj:j<bs.length:=by simpa using h
   have hP:=j_ hp';have ih:=EM bs (i % aX bs) j hj hp' (Nat.mod_lt _ hP);simp only [EJ,List.getElem_cons_succ,List.drop_succ_cons];rw [ih,←Nat.mod_mul_right_div_self,←Nat.mod_mul_right_div_self,Nat.mod_mod_of_dvd];have h1:=CV bs j;rw [nT hj] at h1;rw [Nat.mul_comm];exact h1
theorem YQ {bs:List Nat} {i j:Nat} (h:j<bs.length) (hp:∀b∈bs,1≤b) (hi:i<aX bs):(EJ bs i)[j]'(by simpa using h)<bs[j]:=by
 rw [EM bs i j h hp hi];exact Nat.mod_lt _ (hp _ (List.getElem_mem _))
theorem abZ {w:World} {v:Value} {bs:List Nat} (h:fO w v bs) (hpos:∀b∈bs,1≤b) (hmax:aX bs≤1073741824) (i:Int) :
 Calls Tryz.prog 168 #[v,.int .i64 i] w fun e w'=>e=.returned (.bool (decide (0≤i∧i<(aX bs:Nat))))∧Below w.heap.size w w':=by
 have h':=h;obtain ⟨a1,c1,a2,c2,rfl,_⟩:=h.out;have hb:=af (w:=w) (.cells #[.slice a1 bs.length c1,.slice a2 bs.length c2,.int .i64 (aX bs:Nat)] cB);have IX:oo (w.alloc (.cells #[.slice a1 bs.length c1,.slice a2 bs.length c2,.int .i64 (aX bs:Nat)] cB)) w.heap.size (.slice a1 bs.length c1) (.slice a2 bs.length c2) (.int .i64 (aX bs:Nat)) cB:=⟨heap_alloc_new' _ _ _ rfl⟩;obtain ⟨e0,e1,e2⟩:=IX.cell;have SZ:=aa (Ev (h'.mono hb) hpos hmax);clear h h' hpos;by_cases h0:0≤i
 ·go_enter Tryz.func168,Tryz.ntmps168;go_wp2_with fail;refine SZ.out.mono ?_;rintro e w2 ⟨rfl,h2⟩;go_wp2;go_ret;exact ⟨by simp [h0],ah hb h2⟩
 ·go_enter Tryz.func168,Tryz.ntmps168;go_wp2;go_ret;exact ⟨by simp;omega,hb⟩
theorem Sn {w:World} {v:Value} {bs:List Nat} (h:fO w v bs) (hpos:∀b∈bs,1≤b) (hmax:aX bs≤1073741824) {i j:Nat} (hi:i<aX bs) (hj:j<bs.length) :
 Calls Tryz.prog 169 #[v,.int .i64 i,.int .i64 j] w fun e w'=>e=.returned (.int .i64 ((EJ bs i)[j]'(by simpa using hj):Nat))∧Below w.heap.size w w':=by
 have HG:=aa (EM bs i j hj hpos hi);obtain ⟨a1,c1,a2,c2,rfl,_,hc1,hc2,hy1,hy2⟩:=h.out;obtain ⟨b1,o1,rfl,hb1,k1⟩:=hy1 j hj;obtain ⟨b2,o2,rfl,hb2,k2⟩:=hy2 j hj;have hb:=af (w:=w) (.cells #[.slice (some ⟨b1,o1,none⟩) bs.length c1,.slice (some ⟨b2,o2,none⟩) bs.length c2,.int .i64 (aX bs:Nat)] cB);have IX:oo (w.alloc (.cells #[.slice (some ⟨b1,o1,none⟩) bs.length c1,.slice (some ⟨b2,o2,none⟩) bs.length c2,.int .i64 (aX bs:Nat)] cB)) w.heap.size (.slice (some ⟨b1,o1,none⟩) bs.length c1) (.slice (some ⟨b2,o2,none⟩) bs.length c2) (.int .i64 (aX bs:Nat)) cB:=⟨heap_alloc_new' _ _ _ rfl⟩;obtain ⟨e0,e1,e2⟩:=IX.cell;have k1:=(hb.cell (p:=⟨b1,o1+j,none⟩) hb1).trans k1;have k2:=(hb.cell (p:=⟨b2,o2+j,none⟩) hb2).trans k2;have hQ:=j_ (bs:=bs.drop (j+1)) (fun b hb=>hpos b (List.mem_of_mem_drop hb));have hB:=hpos _ (List.getElem_mem hj);have hI:i<1073741824:=by omega
 clear h hy1 hy2 hpos hmax hi;generalize (EJ bs i)[j]'(by simpa using hj)=D at *;generalize bs[j]=b at *;generalize aX (bs.drop (j+1))=Q at *;generalize aX bs=P at *;go_enter Tryz.func169,Tryz.ntmps169;go_wp2_with fail;go_quiet (fail);go_wp2;go_ret;have hq:wrap64 ((i:Int) / (Q:Int))=((i / Q:Nat):Int):=by
  rw [←Int.natCast_ediv];have:=Nat.div_le_self i Q;exact wr1 (by omega)
 refine ⟨?_,⟨hb.os,hb.tape,hb.output,hb.size,hb.block⟩⟩;show Ending.returned (.int .i64 ((wrap64 ((i:Int) / (Q:Int))).tmod (b:Int)))=_;rw [hq,HG.out,Int.ofNat_tmod]
end Go.Proofs.YtmpkfkoficehpaaGreatDoor
