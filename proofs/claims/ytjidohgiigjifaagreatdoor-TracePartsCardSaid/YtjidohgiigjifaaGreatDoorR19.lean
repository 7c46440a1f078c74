/- TraceParts and TraceWalks: a machine takes a character as those of its full decomposition, one by one; texts that are alike go through it, and of others none; no condition. -/
import Derived.Test.YtjidohgiigjifaaGreatDoorR18
set_option maxRecDepth 100000
set_option maxHeartbeats 6400000
namespace Go.Proofs.YtjidohgiigjifaaGreatDoor
open Go.RowKit Go.Cd
abbrev vP:=Nat×List Nat
def nz (l:List Nat):List Int:=l.map fun d:Nat=>(d:Int)
@[simp] theorem uL (l:List Nat):(nz l).length=l.length:=by simp [nz]
def aY (R:List fJ) (h:Nat):fJ:=R.getD h (0,[])
theorem gV {R:List fJ} {h:Nat} (hh:h<R.length):aY R h=R[h]:=by unfold aY;rw [List.getD_eq_getElem?_getD,List.getElem?_eq_getElem hh];rfl
structure sM (R:List fJ) (s:vP):Prop where
 lt:s.1<R.length
 len:s.2.length=(aY R s.1).2.length
 le:∀i (a:i<s.2.length) (b:i<(aY R s.1).2.length),s.2[i]≤((aY R s.1).2[i]).2.length
def aac (R:List fJ) (s:vP):Bool:=decide (s.1+1=R.length)&&qI (nz s.2) (aY R s.1).2
def gz (n c:Nat) (ms:List Nat) (L:List (Nat×List Nat)) (i:Nat):Bool:=
 decide ((L.getD i (0,[])).1=n)&&decide (ms.getD i 0<(L.getD i (0,[])).2.length)&&decide ((L.getD i (0,[])).2.getD (ms.getD i 0) 0=c)
def lW (K:Nat→Nat) (R:List fJ) (s:vP) (c:Nat):Option vP:=
 if K c=0 then (if qI (nz s.2) (aY R s.1).2=true∧s.1+1<R.length∧(aY R (s.1+1)).1=c then some (s.1+1,List.replicate (aY R (s.1+1)).2.length 0) else none)
 else ((List.range (aY R s.1).2.length).find? (gz (K c) c s.2 (aY R s.1).2)).map fun i=>(s.1,s.2.set i (s.2.getD i 0+1))
theorem P8 {K:Nat→Nat} {R:List fJ} {s s':vP} {c:Nat} (h:sM R s) (e:lW K R s c=some s'):sM R s':=by
 unfold lW at e
 split at e
 ·split at e
  ·rename_i hw;cases e;refine ⟨hw.2.1,by simp,fun i a b=>?_⟩;simp
  ·cases e
 ·rw [Option.map_eq_some_iff] at e;obtain ⟨i,hi,rfl⟩:=e;have hil:i<(aY R s.1).2.length:=by simpa using List.mem_of_find?_eq_some hi
  have hp:=List.find?_some hi;unfold gz at hp;simp only [Bool.and_eq_true,decide_eq_true_eq] at hp;have e1:(aY R s.1).2.getD i (0,[])=(aY R s.1).2[i]:=by rw [List.getD_eq_getElem?_getD,List.getElem?_eq_getElem hil];rfl
  rw [e1] at hp;refine ⟨h.lt,by simpa using h.len,fun j a b=>?_⟩;simp only [List.getElem_set]
  split
  ·rename_i hij;subst hij;exact hp.1.2
  ·exact h.le j (by simpa using a) b
def yQ (K:Nat→Nat) (F:Nat→List Nat) (R:List fJ) (s:vP) (c:Nat):Option vP:=(F c).foldlM (lW K R) s
theorem aaM {α β:Type} {P:α→Prop} {f:α→β→Option α} (hf:∀a b a',P a→f a b=some a'→P a'):∀(l:List β) (a a':α),P a→l.foldlM f a=some a'→P a'
 | [],a,a',h,e=>by
   have:a=a':=by simpa using e
   exact this▸h
 | b::l,a,a',h,e=>by
   rw [List.foldlM_cons] at e;cases hb:f a b with
   | none=>rw [hb] at e;cases e
   | some a2=>
     rw [hb] at e;exact aaM hf l a2 a' (hf a b a2 h hb) e
def sN (ms:List Nat) (L:List (Nat×List Nat)) (i:Nat):List Nat:=
 if ms.getD i 0<(L.getD i (0,[])).2.length then [(L.getD i (0,[])).2.getD (ms.getD i 0) 0] else []
def gW (ms:List Nat) (L:List (Nat×List Nat)) (n:Nat):List Nat:=(List.range n).flatMap (sN ms L)
def jZ (R:List fJ) (s:vP):List Nat:=
 if gW s.2 (aY R s.1).2 (aY R s.1).2.length=[] then (if s.1+1<R.length then [(aY R (s.1+1)).1] else []) else gW s.2 (aY R s.1).2 (aY R s.1).2.length
theorem vQ (ms:List Nat) (L:List (Nat×List Nat)) (n:Nat):gW ms L (n+1)=gW ms L n++sN ms L n:=by
 unfold gW;rw [List.range_succ,List.flatMap_append];simp
theorem qJ (ms:List Nat) (L:List (Nat×List Nat)) (n:Nat):(gW ms L n).length≤n:=by
 induction n with
 | zero=>simp [gW]
 | succ n ih=>
   rw [vQ,List.length_append];have:(sN ms L n).length≤1:=by unfold sN;split <;> simp
   omega
theorem Jn (R:List fJ) (s:vP):(jZ R s).length≤(aY R s.1).2.length+1:=by
 unfold jZ
 split
 ·split <;> simp
 ·have:=qJ s.2 (aY R s.1).2 (aY R s.1).2.length;omega
def P9 (K:Nat→Nat) (F Bg:Nat→List Nat) (R:List fJ) (s:vP):List Nat:=(jZ R s).flatMap fun x=>(Bg x).filter fun c=>(yQ K F R s c).isSome
def G_ (w:World) (v:Value) (s:vP):Prop:=Kk w v s.1 (nz s.2)
theorem G_.mono {w w':World} {v:Value} {s:vP} (h:G_ w v s) (hb:Below w.heap.size w w'):G_ w' v s:=Kk.mono h hb
def Gw (w:World) (v:Value) (R:List fJ) (k:Nat):Prop:=
 ∃la lc x1 m1 y1 x2 m2 y2 z f,v=.agg #[.int .i32 (aY R k).1,.slice la (aY R k).2.length lc,.slice x1 m1 y1,.slice x2 m2 y2,.int .i64 z,.int .i64 f]∧Jk w (.slice la (aY R k).2.length lc) (aY R k).2∧
  (zZ R≤16384→mD w (.agg #[.slice x1 m1 y1,.slice x2 m2 y2,.int .i64 z]) (UK (aY R k))∧f=(zZ (R.take k):Nat))
theorem Gw.run {w:World} {v:Value} {R:List fJ} {k:Nat} (h:Gw w v R k):ZM w v (aY R k):=by
 obtain ⟨la,lc,x1,m1,y1,x2,m2,y2,z,f,hv,hl,_⟩:=h;exact ⟨_,x1,m1,y1,x2,m2,y2,z,f,hv,hl⟩
theorem Gw.mono {w w':World} {v:Value} {R:List fJ} {k:Nat} (h:Gw w v R k) (hb:Below w.heap.size w w'):Gw w' v R k:=by
 obtain ⟨la,lc,x1,m1,y1,x2,m2,y2,z,f,hv,hl,hr⟩:=h;exact ⟨la,lc,x1,m1,y1,x2,m2,y2,z,f,hv,hl.mono hb,fun k=>⟨(hr k).1.mono hb,(hr k).2⟩⟩
theorem P6.at_ {w:World} {p dp:Nat} {rs:List fJ} {g rc:Nat} {gZ:Value} {small:Bool} {Es:List mP} (h:P6 w p dp rs g rc gZ small Es) {k:Nat} (hk:k<rs.length) :
 ∃la lc x1 m1 y1 x2 m2 y2 z f,(∀j<6,w.cell? ⟨g,k*6+j,none⟩=[Value.int .i32 (aY rs k).1,.slice la (aY rs k).2.length lc,.slice x1 m1 y1,.slice x2 m2 y2,.int .i64 z,.int .i64 f][j]?)∧
  Jk w (.slice la (aY rs k).2.length lc) (aY rs k).2∧Gw w (.agg #[.int .i32 (aY rs k).1,.slice la (aY rs k).2.length lc,.slice x1 m1 y1,.slice x2 m2 y2,.int .i64 z,.int .i64 f]) rs k:=by
 have TG:k<Es.length:=by rw [←List.length_map (f:=fun e=>bU.sp e.1),h.sp];exact hk
 have hsp:bU.sp Es[k].1=aY rs k:=by rw [gV hk];simp [←h.sp]
 have hrf:=fun hsm:zZ rs≤16384=>h.VT (by rw [h.le];exact decide_eq_true hsm) k TG;obtain ⟨⟨x1,m1,y1,q1⟩,x2,m2,y2,q2⟩:=h.Xz _ (List.getElem_mem TG);rw [hsp] at hrf;unfold PY at hrf;rw [q1,q2] at hrf;obtain ⟨la,lc,hv⟩:=h.sl _ (List.getElem_mem TG);have hn:Es[k].1.2.2.length=(aY rs k).2.length:=by rw [←hsp];simp [bU.sp]
 have hh:Es[k].1.1=(aY rs k).1:=by rw [←hsp];rfl
 have hL:Jk w (.slice la (aY rs k).2.length lc) (aY rs k).2:=by
  refine ⟨la,lc,rfl,fun i hi=>?_⟩;have hi':i<Es[k].1.2.2.length:=by omega
  obtain ⟨lg,_,h1,h2,h3⟩:=h.lane _ (List.getElem_mem TG) i hi';have h4:=h.marks _ (List.getElem_mem TG) _ (List.getElem_mem hi');have h5:(aY rs k).2[i]=((Es[k].1.2.2[i]).1,(Es[k].1.2.2[i]).2.2):=by
   have:(aY rs k).2=Es[k].1.2.2.map dN.sp:=by rw [←hsp];rfl
   simp only [this,List.getElem_map];rfl
  obtain ⟨va,vc,h6,_,_⟩:=bD.out h4;rw [bO] at h6;rw [h6] at h4 h3;rw [hv] at h1;have h7:la=some ⟨lg,0,none⟩:=by injection h1
  refine ⟨lg,va,vc,h7,?_,?_,?_⟩
  ·rw [h5];exact h2
  ·rw [h5];exact h3
  ·rw [h5];exact h4
 refine ⟨la,lc,x1,_,y1,x2,_,y2,_,_,fun j hj=>?_,hL,la,lc,x1,_,y1,x2,_,y2,_,_,rfl,hL,hrf⟩;rw [h.run k TG j hj];unfold kP;rw [q1,q2,hv,hn,hh]
theorem yR {w:World} {B p dp:Nat} {K:Nat→Nat} {l:List Nat} (h:jk w B p dp K l) (hl:l.length<9000) {v:Value} {s:vP} (hs:G_ w v s) (ho:sM (dU K l) s) :
 Calls Tryz.prog 49 #[.pointer (some ⟨p,0,none⟩),v] w fun e w'=>∃rv,e=.returned (.tuple #[rv,.bool true])∧Gw w' rv (dU K l) s.1∧Below w.heap.size w w':=by
 have hF:=kM K l;obtain ⟨R,hR0⟩:=af (dU K l);obtain ⟨g,rc,gZ,small,Es,hR⟩:=h.read;rw [←hR0] at hF hR ho ⊢;obtain ⟨sv,rfl,hsv⟩:=hs;obtain ⟨la,lc,x1,m1,y1,x2,m2,y2,z,f,hc,hL,hW⟩:=hR.at_ ho.lt;obtain ⟨la',Na,e9,hLk⟩:=id hL;injection e9 with e8 _ e7;subst e8 e7;obtain ⟨sa,sc,rfl,_,hx⟩:=bD.out hsv.any;have hrun:=hF.2.2 _ (show aY R s.1∈R by rw [gV ho.lt];exact List.getElem_mem _);have hlen:(bH (nz s.2)).length=(aY R s.1).2.length:=by rw [←ho.len];simp [bH]
 rw [hlen];obtain ⟨m,hm⟩:=af ((aY R s.1).2.length);obtain ⟨nr,hnr⟩:=af R.length;obtain ⟨hd,hhd⟩:=af ((aY R s.1).1);rw [←hm] at hc hW hlen ⊢;rw [←hhd] at hc hW;have hIs:=hR.is;rw [←hnr] at hIs;obtain ⟨k,hk⟩:=af s.1;rw [←hk] at hc;have hlt:k<nr:=by rw [hk,hnr];exact ho.lt
 have ZP:nr<10000:=by rw [hnr];have:=hF.2.1;omega
 have Um:m<10000:=by rw [hm];have:=hrun.1;omega
 rw [show ((s.1:Nat):Int)=(k:Int) by rw [hk]];have HL:=ae hLk;have HX:=ae hx;have HO:=ae ho;have HM:=ae hm;have HLEN:=ae hlen;have HR:=ae hrun;have d0:w.cell? ⟨g,k*6,none⟩=some (.int .i32 hd):=hc 0 (by decide);have d1:w.cell? ⟨g,k*6+1,none⟩=some (.slice la m lc):=hc 1 (by decide);have d2:w.cell? ⟨g,k*6+2,none⟩=some (.slice x1 m1 y1):=hc 2 (by decide);have d3:w.cell? ⟨g,k*6+3,none⟩=some (.slice x2 m2 y2):=hc 3 (by decide);have d4:w.cell? ⟨g,k*6+4,none⟩=some (.int .i64 z):=hc 4 (by decide);have d5:w.cell? ⟨g,k*6+5,none⟩=some (.int .i64 f):=hc 5 (by decide);have HW:=ae hW;clear h hR hsv hx hc hL hLk hW ho hF hrun hm hlen hk hhd hnr hR0;obtain ⟨w2,hw2⟩:=af ((w.alloc (.cells #[.int .i64 k,.slice sa m sc] 53)).alloc (.cells #[.int .i32 0,.slice none 0 0,.slice none 0 0,.slice none 0 0,.int .i64 0,.int .i64 0] eP));have hb:Below w.heap.size w w2:=by rw [hw2];exact dF _ _
 have k1:Is w2 w.heap.size #[.int .i64 k,.slice sa m sc] 53:=by rw [hw2];exact (Is.new _ _ _).mono (ai _)
 have k2:Is w2 (w.heap.size+1) #[.int .i32 0,.slice none 0 0,.slice none 0 0,.slice none 0 0,.int .i64 0,.int .i64 0] eP:=by rw [hw2];exact Is.new' _ _ _ _ (by simp)
 have e0:=k1.at 0 rfl;have e1:=k1.at 1 rfl;have p1:=(hIs.mono hb).at 1 rfl;have zk0:decide ((k:Int)<0)=false:=decide_eq_false (by omega);have zk1:decide ((nr:Int)≤(k:Int))=false:=decide_eq_false (by omega);go_enter Tryz.func49,Tryz.ntmps49;go_wp2_with fail;rw [←hw2];clear hw2;go_quiet (fail);go_wp2_with fail;have h23:Below w2.heap.size w2 (w2.drewN nq):=⟨rfl,rfl,rfl,Nat.le_refl _,fun _ _=>rfl⟩;generalize w2.drewN nq=w3 at *;have j_:=hb.trans (h23.mono hb.size);have k1:=k1.mono h23;have k2:=k2.mono h23;have e0:=Gr.cell (ah w3) (k1.at 0 rfl);have p1:=Gr.cell (ah w3) ((hIs.mono j_).at 1 rfl);have d0:=Gr.cell (ah w3) (aA j_ d0);have d1:=Gr.cell (ah w3) (aA j_ d1);have d2:=Gr.cell (ah w3) (aA j_ d2);have d3:=Gr.cell (ah w3) (aA j_ d3);have d4:=Gr.cell (ah w3) (aA j_ d4);have d5:=Gr.cell (ah w3) (aA j_ d5);refine aD #[true,true,true,true,true,true,true,true,true,false] 9 1 mixed (by rfl) ?_;refine ay [0,1,2,3,4,5,6,7] 1 rfl (by kernel_rfl) ?_
 iterate 8 (refine aC rfl ?_;go_big_quiet_step (rfl))
 refine ak ?_;refine aL 8 (by kernel_rfl) rfl ?_;go_wp2_with fail;refine aH (ai _) ?_;refine aI [9] (by kernel_rfl) ?_;refine tail_cons rfl ?_;go_wp2_with fail;refine tail_nil ?_;obtain ⟨w4,hw4⟩:=af ((w3.alloc (.cells #[.int .i32 hd,.slice la m lc,.slice x1 m1 y1,.slice x2 m2 y2,.int .i64 z,.int .i64 f] eP)).drew);have QQ:Below w3.heap.size w3 w4:=by rw [hw4];exact (ai _).trans ((ah _).mono (by simp))
 have k3:Is w4 w3.heap.size #[.int .i32 hd,.slice la m lc,.slice x1 m1 y1,.slice x2 m2 y2,.int .i64 z,.int .i64 f] eP:=by rw [hw4];exact (Is.new w3 _ _).mono (ah _)
 have kW:=j_.trans (QQ.mono j_.size);have k1:=k1.mono QQ;have k2:=k2.mono QQ;have ai4:=QQ.size;have hs3:=j_.size;rw [←hw4];have zm:((m:Int)==(m:Int))=true:=by simp
 have e1:=k1.at 1 rfl;have c1:=k3.at 1 rfl;clear hw4 QQ d0 d1 d2 d3 d4 d5 e0 p1 h23;go_wp2_with fail;go_loopw [7,8,42] (fun _ _ iv wr=>∃i:Nat,i≤m∧iv=.int .i64 i∧Below w4.heap.size w4 wr) (fun _ _ iv _=>m-(intOf iv).toNat)
 case atStart=>exact ⟨0,Nat.zero_le _,rfl,Below.refl _ _⟩
 case round=>
  obtain ⟨i,hi,rfl,hE⟩:=hrel;have kV:=kW.trans (hE.mono kW.size);by_cases him:i<m
  ·have zi:decide ((i:Int)<(m:Int))=true:=decide_eq_true (by omega);have NQ:i<(aY R s.1).2.length:=by have:=HM.out;omega
   have hii:i<s.2.length:=by rw [HO.out.len];exact NQ
   have R8:i<(bH (nz s.2)).length:=by have:=HLEN.out;omega
   obtain ⟨b,off,rfl,_,c0⟩:=HX.out i R8;obtain ⟨lg,va,vc,rfl,_,l1,_⟩:=HL.out i NQ;rw [show (bH (nz s.2))[i]=.int .i64 ((s.2[i]:Nat):Int) by simp [bH,nz]] at c0;obtain ⟨mi,G9⟩:=af (s.2[i]);obtain ⟨xl,hxl⟩:=af ((aY R s.1).2[i].2.length);have hle:mi≤xl:=by rw [G9,hxl];exact HO.out.le i hii NQ
   rw [←G9] at c0;rw [←hxl] at l1;have c0:=aA kV c0;have l1:=aA kV l1;have c1:=aA hE c1;clear G9 hxl;have z1:decide ((mi:Int)<0)=false:=decide_eq_false (by omega);have z2:decide ((xl:Int)<(mi:Int))=false:=decide_eq_false (by omega);go_wp2_with fail;go_roundw
   case rel=>exact ⟨i+1,by omega,by simp,hE⟩
   case measure=>simp [intOf];omega
  ·have zi:decide ((i:Int)<(m:Int))=false:=decide_eq_false (by omega);obtain rfl:i=m:=by omega
   have k5:=k2.mono hE;have k6:=k3.mono hE;have d0:=k6.at 0 rfl;have d1:=k6.at 1 rfl;have d2:=k6.at 2 rfl;have d3:=k6.at 3 rfl;have d4:=k6.at 4 rfl;have d5:=k6.at 5 rfl;have f0:=k5.at 0 rfl;have f1:=k5.at 1 rfl;have f2:=k5.at 2 rfl;have f3:=k5.at 3 rfl;have f4:=k5.at 4 rfl;have f5:=k5.at 5 rfl;have q0:=k5.frozen 0;have q1:=k5.frozen 1;have q2:=k5.frozen 2;have q3:=k5.frozen 3;have q4:=k5.frozen 4;have q5:=k5.frozen 5;have v0:=(((((k5.set 0 (.int .i32 hd)).set 1 (.slice la i lc)).set 2 (.slice x1 m1 y1)).set 3 (.slice x2 m2 y2)).set 4 (.int .i64 z)).set 5 (.int .i64 f);have g0:=v0.at 0 rfl;have g1:=v0.at 1 rfl;have g2:=v0.at 2 rfl;have g3:=v0.at 3 rfl;have g4:=v0.at 4 rfl;have g5:=v0.at 5 rfl;have hfin:=ae (aj (off:=5) (u:=.int .i64 f) (aj (off:=4) (u:=.int .i64 z) (aj (off:=3) (u:=.slice x2 m2 y2) (aj (off:=2) (u:=.slice x1 m1 y1) (aj (off:=1) (u:=.slice la i lc) (aj (off:=0) (u:=.int .i32 hd) (b:=w.heap.size+1) kV (by omega)) (b:=w.heap.size+1) (by omega)) (b:=w.heap.size+1) (by omega)) (b:=w.heap.size+1) (by omega)) (b:=w.heap.size+1) (by omega)) (b:=w.heap.size+1) (by omega));clear k5 k6 v0 k1 k2 k3 c1 e1;go_wp2_with fail;exact bodyPost_ret (v:=.tuple #[.agg #[.int .i32 hd,.slice la i lc,.slice x1 m1 y1,.slice x2 m2 y2,.int .i64 z,.int .i64 f],.bool true]) (by simp [results,Tryz.results49,go_sem,g0,g1,g2,g3,g4,g5]) rfl ⟨_,rfl,HW.out.mono hfin.out,hfin.out⟩
theorem abq {w:World} {B p dp:Nat} {K:Nat→Nat} {l:List Nat} (h:jk w B p dp K l) (hl:l.length<9000) {v:Value} {s:vP} (hs:G_ w v s) (ho:sM (dU K l) s) :
 Calls Tryz.prog 21 #[.pointer (some ⟨p,0,none⟩),v] w fun e w'=>e=.returned (.bool (aac (dU K l) s))∧Below w.heap.size w w':=by
 obtain ⟨k,ms⟩:=s;have hF:=kM K l;obtain ⟨g,rc,gZ,small,Es,hR⟩:=h.read;obtain ⟨sv,rfl,hsv⟩:=id hs;obtain ⟨sa,sc,rfl,_,_⟩:=bD.out hsv.any;obtain ⟨m,hm⟩:=af ((bH (nz ms)).length);dsimp only at hs hsv ⊢;rw [←hm] at hs hsv ⊢;have hb0:=ai (w:=w) (.cells #[.int .i64 (k:Nat),.slice sa m sc] 53);have RU:=ae (yR (h.mono hb0) hl (hs.mono hb0) ho);have hrun:=hF.2.2 _ (show aY (dU K l) k∈dU K l by rw [gV ho.lt];exact List.getElem_mem _);have WH:=ae (fun (W:World) (E:Below w.heap.size w W) (rv:Value) (hr:Gw W rv (dU K l) k)=>Jl hr.run (hs.mono E) (by rw [uL];exact ho.len) (by have:=hrun.1;omega) (fun x hx=>by have:=hrun.2 x hx;omega));have hov:aac (dU K l) (k,ms)=(decide (k+1=(dU K l).length)&&qI (nz ms) (aY (dU K l) k).2):=rfl;rw [hov];dsimp only at RU WH;obtain ⟨R,hR0⟩:=af (dU K l);rw [←hR0] at hF hR RU WH ho ⊢;obtain ⟨wb,hwb⟩:=af (qI (nz ms) (aY R k).2);rw [←hwb] at WH ⊢;obtain ⟨nr,hnr⟩:=af R.length;have hIs:=hR.is;rw [←hnr] at hIs ⊢;have hlt:k<nr:=by rw [hnr];exact ho.lt
 have ZP:nr<10000:=by rw [hnr];have:=hF.2.1;omega
 clear h hR hsv hs hm hF hrun hwb hnr hR0 ho hov;go_enter Tryz.func21,Tryz.ntmps21;go_wp2_with fail;refine RU.out.mono ?_;rintro e w1 ⟨rv,rfl,hW,hb1⟩;obtain ⟨la,lc,x1,m1,y1,x2,m2,y2,z,f,rfl,hL,ZQ⟩:=id hW;clear ZQ;obtain ⟨n,hn⟩:=af ((aY R k).2.length);obtain ⟨hd,hhd⟩:=af ((aY R k).1);rw [←hn,←hhd] at hW ⊢;have hB1:=hb0.trans (hb1.mono hb0.size);have k0:=(Is.new w #[.int .i64 (k:Nat),.slice sa m sc] 53).mono hb1;obtain ⟨w2,hw2⟩:=af (w1.alloc (.cells #[.int .i32 hd,.slice la n lc,.slice x1 m1 y1,.slice x2 m2 y2,.int .i64 z,.int .i64 f] eP));have hb2:Below w1.heap.size w1 w2:=by rw [hw2];exact ai _
 have k2:Is w2 w1.heap.size #[.int .i32 hd,.slice la n lc,.slice x1 m1 y1,.slice x2 m2 y2,.int .i64 z,.int .i64 f] eP:=by rw [hw2];exact Is.new _ _ _
 have hB2:=hB1.trans (hb2.mono hB1.size);have k0:=k0.mono hb2;clear hL hn hhd RU;go_wp2_with fail;rw [←hw2];have hW:=(hW.mono hb2).mono (ah w2);have WC:=ae (WH.out w2.drew (hB2.trans ((ah w2).mono hB2.size)) _ hW);have pm:=Gr.cell (ah w2) ((hIs.mono hB2).at 1 rfl);have e0:=Gr.cell (ah w2) (k0.at 0 rfl);have e1:=Gr.cell (ah w2) (k0.at 1 rfl);have d0:=Gr.cell (ah w2) (k2.at 0 rfl);have d1:=Gr.cell (ah w2) (k2.at 1 rfl);have d2:=Gr.cell (ah w2) (k2.at 2 rfl);have d3:=Gr.cell (ah w2) (k2.at 3 rfl);have d4:=Gr.cell (ah w2) (k2.at 4 rfl);have d5:=Gr.cell (ah w2) (k2.at 5 rfl);clear hw2 WH hW hIs k0 k2;by_cases hq:k+1=nr
 ·have zq:((k:Int)==(nr:Int)-1)=true:=by simp;omega
  have zd:decide (k+1=nr)=true:=decide_eq_true hq;refine aD (Array.replicate 18 true) 18 0 mixed (by rfl) ?_;refine ay [0,1,2,3,4,5,6,7,8,9,10,11,12,13,14] 3 rfl (by kernel_rfl) ?_
  iterate 15 (refine aC rfl ?_;go_big_quiet_step (rfl))
  refine ak ?_;refine aL 15 (by kernel_rfl) rfl ?_;go_wp2_with fail;refine WC.out.mono ?_;rintro e w3 ⟨rfl,hb3⟩;go_wp2_with fail;refine aH hb3 ?_;refine ay [16,17] 0 rfl (by kernel_rfl) ?_
  iterate 2 (refine aC rfl ?_;go_big_quiet_step (rfl))
  refine ak ?_;refine aI [] (by kernel_rfl) ?_;refine tail_nil ?_;go_wp2;go_ret;exact ⟨by rw [zd];rfl,hB2.trans (((ah w2).trans hb3).mono hB2.size)⟩
 ·have zq:((k:Int)==(nr:Int)-1)=false:=beq_eq_false_iff_ne.2 (by omega);have zd:decide (k+1=nr)=false:=decide_eq_false hq;refine aD (Array.replicate 18 true) 18 0 mixed (by rfl) ?_;refine ay [0,1,2,3,4,5,6,7,8,9,10,11,12,13,14] 3 rfl (by kernel_rfl) ?_
  iterate 15 (refine aC rfl ?_;go_big_quiet_step (rfl))
  refine ak ?_;refine aL 15 (by kernel_rfl) rfl ?_;go_wp2_with fail;refine aH (Below.refl _ _) ?_;refine ay [16,17] 0 rfl (by kernel_rfl) ?_
  iterate 2 (refine aC rfl ?_;go_big_quiet_step (rfl))
  refine ak ?_;refine aI [] (by kernel_rfl) ?_;refine tail_nil ?_;go_wp2;go_ret;exact ⟨by rw [zd];rfl,hB2.trans ((ah w2).mono hB2.size)⟩
theorem Sl.Mt {e:TypeId} {w w':World} {t:TypeId} {s:Value} {xs:List Value} (h:Sl e w s xs) (hc:bK w w' t) (hne:e≠t):Sl e w' s xs:=by
 obtain ⟨a,cap,hv,hcap,hx⟩:=h;refine ⟨a,cap,hv,hcap,hx.imp id ?_⟩;rintro ⟨b,off,cs,fr,ha,hh,hx⟩;exact ⟨b,off,cs,fr,ha,(hc.keep b (block_lt hh) (fun ⟨cs',h2⟩=>hne (by rw [hh] at h2;injection h2 with h2;injection h2))).trans hh,hx⟩
theorem Kk.Mt {w w':World} {t:TypeId} {v:Value} {h:Int} {ms:List Int} (k:Kk w v h ms) (hc:bK w w' t) (hne:aU≠t):Kk w' v h ms:=by
 obtain ⟨sv,hv,hs⟩:=k;exact ⟨sv,hv,Go.Proofs.YtjidohgiigjifaaGreatDoor.Sl.Mt hs hc hne⟩
def BC (e:Ending) (w:World):Option vP→Prop
 | some s=>∃v,e=.returned (.tuple #[v,.bool true])∧G_ w v s
 | none=>e=.returned (.tuple #[.agg #[.int .i64 0,.slice none 0 0],.bool false])
theorem Jo {w:World} {B p dp:Nat} {T:List aF} {X:List Nat} {l:List Nat} (hD:dZ w dp T X) (hV:bE T X) (h:jk w B p dp (aB T) l) (hl:l.length<9000) {v:Value} {s:vP} (hs:G_ w v s) (ho:sM (dU (aB T) l) s) (c:Nat) (hc:c<1114112) (h0:aB T c=0) :
 Calls Tryz.prog 54 #[.pointer (some ⟨p,0,none⟩),v,.int .i32 c] w fun e w'=>BC e w' (lW (aB T) (dU (aB T) l) s c)∧Below w.heap.size w w':=by
 obtain ⟨k,ms⟩:=s;have hF:=kM (aB T) l;obtain ⟨g,rc,gZ,small,Es,hR⟩:=h.read;obtain ⟨sv,rfl,hsv⟩:=id hs;obtain ⟨sa,sc,rfl,_,_⟩:=bD.out hsv.any;obtain ⟨m,hm⟩:=af ((bH (nz ms)).length);dsimp only at hs hsv ⊢;rw [←hm] at hs hsv ⊢;have hb0:=dF (w:=w) (.cells #[.int .i64 (k:Nat),.slice sa m sc] 53) (.cells #[.int .i64 0,.slice none 0 0] 53);have RU:=ae (yR (h.mono hb0) hl (hs.mono hb0) ho);have hrun:=hF.2.2 _ (show aY (dU (aB T) l) k∈dU (aB T) l by rw [gV ho.lt];exact List.getElem_mem _);have WH:=ae (fun (W:World) (E:Below w.heap.size w W) (rv:Value) (hr:Gw W rv (dU (aB T) l) k)=>Jl hr.run (hs.mono E) (by rw [uL];exact ho.len) (by have:=hrun.1;omega) (fun x hx=>by have:=hrun.2 x hx;omega));have CL:=ae (fun (W:World) (E:Below w.heap.size w W)=>nS (hD.mono E) hV c hc);rw [h0] at CL;have AT:∀(W:World),Below w.heap.size w W→k+1<(dU (aB T) l).length→Calls Tryz.prog 48 #[.pointer (some ⟨p,0,none⟩),.int .i64 ((k:Int)+1)] W fun e w'=>∃v,e=.returned v∧Kk w' v ((k+1:Nat):Int) (List.replicate (aY (dU (aB T) l) (k+1)).2.length 0)∧Below W.heap.size W w':=fun W E hk=>by
  rw [gV hk,show (k:Int)+1=((k+1:Nat):Int) by omega];exact Kl (h.mono E) hl hk
 have AT:=ae AT;have hov:lW (aB T) (dU (aB T) l) (k,ms) c=if qI (nz ms) (aY (dU (aB T) l) k).2=true∧k+1<(dU (aB T) l).length∧(aY (dU (aB T) l) (k+1)).1=c then some (k+1,List.replicate (aY (dU (aB T) l) (k+1)).2.length 0) else none:=by unfold lW;rw [if_pos h0]
 rw [hov];dsimp only at RU WH;obtain ⟨R,hR0⟩:=af (dU (aB T) l);have hT1:k+1<R.length→∃la lc x1 m1 y1 x2 m2 y2 z f,∀j<6,w.cell? ⟨g,(k+1)*6+j,none⟩=[Value.int .i32 (aY R (k+1)).1,.slice la (aY R (k+1)).2.length lc,.slice x1 m1 y1,.slice x2 m2 y2,.int .i64 z,.int .i64 f][j]?:=fun hk=>by
  rw [hR0] at hk ⊢;obtain ⟨la,lc,x1,m1,y1,x2,m2,y2,z,f,hc,_⟩:=hR.at_ hk;exact ⟨la,lc,x1,m1,y1,x2,m2,y2,z,f,hc⟩
 simp only [←hR0] at hF hR RU WH ho AT ⊢;obtain ⟨wb,hwb⟩:=af (qI (nz ms) (aY R k).2);rw [←hwb] at WH ⊢;obtain ⟨nr,hnr⟩:=af R.length;have hIs:=hR.is;have hlt:k<nr:=by rw [hnr];exact ho.lt
 have ZP:nr<10000:=by rw [hnr];have:=hF.2.1;omega
 simp only [←hnr] at hIs hT1 AT ⊢;have HT1:=ae hT1;obtain ⟨res,hres⟩:∃res:Option vP,res=if wb=true∧k+1<nr∧(aY R (k+1)).1=c then some (k+1,List.replicate (aY R (k+1)).2.length 0) else none:=⟨_,rfl⟩;rw [←hres];have sO:=ae hres;clear hres;clear h hR hsv hs hm hF hrun hwb hnr hR0 ho hov hD hT1;go_enter Tryz.func54,Tryz.ntmps54;go_wp2_with fail;refine RU.out.mono ?_;rintro e w1 ⟨rv,rfl,hW,hb1⟩;obtain ⟨la,lc,x1,m1,y1,x2,m2,y2,z,f,rfl,hL,ZQ⟩:=id hW;clear ZQ;obtain ⟨n,hn⟩:=af ((aY R k).2.length);obtain ⟨hd,hhd⟩:=af ((aY R k).1);rw [←hn,←hhd] at hW ⊢;have hB1:=hb0.trans (hb1.mono hb0.size);have k0:Is w1 w.heap.size #[.int .i64 (k:Nat),.slice sa m sc] 53:=((Is.new w _ _).mono (ai _)).mono hb1;have k1:Is w1 (w.heap.size+1) #[.int .i64 0,.slice none 0 0] 53:=(Is.new' _ _ _ _ (by simp)).mono hb1;obtain ⟨w2,hw2⟩:=af (w1.alloc (.cells #[.int .i32 hd,.slice la n lc,.slice x1 m1 y1,.slice x2 m2 y2,.int .i64 z,.int .i64 f] eP));have hb2:Below w1.heap.size w1 w2:=by rw [hw2];exact ai _
 have k2:Is w2 w1.heap.size #[.int .i32 hd,.slice la n lc,.slice x1 m1 y1,.slice x2 m2 y2,.int .i64 z,.int .i64 f] eP:=by rw [hw2];exact Is.new _ _ _
 have hB2:=hB1.trans (hb2.mono hB1.size);have k0:=k0.mono hb2;have k1:=k1.mono hb2;have hW:=hW.mono hb2;have UE:=ae (CL.out w2 hB2);have p0:=(hIs.mono hB2).at 0 rfl;rw [hw2] at p0;clear hL hn hhd RU CL;go_wp2_with fail;rw [←hw2];clear hw2 p0;refine UE.out.mono ?_;rintro e w3 ⟨rfl,hb3⟩;have hs2:=hB2.size;have hB3:=hB2.trans (hb3.mono hs2);have k0:=k0.mono hb3;have k1:=k1.mono hb3;have k2:=k2.mono hb3;have hs3:=hB3.size;have hW:=(hW.mono hb3).mono (ah w3);have hBd:=hB3.trans ((ah w3).mono hs3);have WC:=ae (WH.out w3.drew hBd _ hW);have pm:=Gr.cell (ah w3) ((hIs.mono hB3).at 1 rfl);have e0:=Gr.cell (ah w3) (k0.at 0 rfl);have e1:=Gr.cell (ah w3) (k0.at 1 rfl);have d0:=Gr.cell (ah w3) (k2.at 0 rfl);have d1:=Gr.cell (ah w3) (k2.at 1 rfl);have d2:=Gr.cell (ah w3) (k2.at 2 rfl);have d3:=Gr.cell (ah w3) (k2.at 3 rfl);have d4:=Gr.cell (ah w3) (k2.at 4 rfl);have d5:=Gr.cell (ah w3) (k2.at 5 rfl);clear WH UE;go_wp2_with fail;refine aD (Array.replicate 29 true) 29 0 mixed (by rfl) ?_;refine ay [0,1] 27 rfl (by kernel_rfl) ?_
 iterate 2 (refine aC rfl ?_;go_big_quiet_step (rfl))
 refine ak ?_;refine aL 2 (by kernel_rfl) rfl ?_;go_wp2_with fail;refine WC.out.mono ?_;rintro e w4 ⟨rfl,hb4⟩;go_wp2_with fail;refine aH hb4 ?_;have QQ:Below w3.heap.size w3 w4:=(ah w3).trans hb4;have hB4:=hB3.trans (QQ.mono hs3);have hs4:=hB4.size;have k1:=k1.mono QQ;have pm:=Gr.cell (Below.refl _ w4) ((hIs.mono hB4).at 1 rfl);have e0:=Gr.cell QQ (k0.at 0 rfl);have f0:=k1.at 0 rfl;have f1:=k1.at 1 rfl;have q0:=k1.frozen 0;have q1:=k1.frozen 1;have v0:=(k1.set 0 (.int .i64 0)).set 1 (.slice none 0 0);have g0:=v0.at 0 rfl;have g1:=v0.at 1 rfl;have hfin:=ae (aj (off:=1) (u:=.slice none 0 0) (b:=w.heap.size+1) (aj (off:=0) (u:=.int .i64 0) (b:=w.heap.size+1) hB4 (by omega)) (by omega));clear v0 d0 d1 d2 d3 d4 d5 e1 k2 WC hBd hW;by_cases hw:wb=true
 ·subst hw;by_cases hq:k+1<nr
  ·obtain ⟨la2,XC,x12,m12,y12,x22,m22,y22,z2,f2,hc2⟩:=HT1.out hq;obtain ⟨hd2,Jp⟩:=af ((aY R (k+1)).1);rw [←Jp] at hc2;have d0:=hc2 0 (by decide);simp only [Nat.add_zero,List.getElem?_cons_zero] at d0;have d0:=Gr.cell hB4 d0;have HD2:=ae Jp;clear hc2 Jp;have zq:((k:Int)+1==(nr:Int))=false:=beq_eq_false_iff_ne.2 (by omega);by_cases hh:hd2=c
   ·have zh:((hd2:Int)==(c:Int))=true:=by simp;omega
    have hov:res=some (k+1,List.replicate (aY R (k+1)).2.length 0):=by rw [sO.out];exact if_pos ⟨rfl,hq,by rw [←HD2.out];exact hh⟩
    have Km:=ae hov;clear hov g0 g1 hfin;have AT4:=ae (AT.out w4 hB4 hq);have e0':=k0.mono QQ |>.at 0 rfl;obtain ⟨j,hj⟩:∃j:Nat,j=k+1:=⟨_,rfl⟩;rw [←hj] at AT4 Km;clear hh hj;refine ay [3,4,5,6,7,8,9,10,11,12,13,14,15,16,17,18,19,20,21,22,23,24,25,26,27,28] 0 rfl (by kernel_rfl) ?_;refine aZ ?_
    iterate 26 (refine aO rfl ?_)
    refine a_ ?_
    iterate 26 (go_big_quiet_step (rfl))
    refine ak ?_;refine aI [] (by kernel_rfl) ?_;refine tail_nil ?_;clear f0 f1 q0 q1;go_wp2_with fail;refine AT4.out.mono ?_;rintro e w5 ⟨v5,rfl,hS5,hb5⟩;obtain ⟨sv5,rfl,hs5⟩:=id hS5;obtain ⟨a5,c5,rfl,_,_⟩:=bD.out hs5.any;obtain ⟨n5,hn5⟩:=af ((bH (List.replicate (aY R j).2.length 0)).length);rw [←hn5] at hS5 ⊢;have k1:=k1.mono hb5;have f0:=k1.at 0 rfl;have f1:=k1.at 1 rfl;have q0:=k1.frozen 0;have q1:=k1.frozen 1;have v0:=(k1.set 0 (.int .i64 (j:Int))).set 1 (.slice a5 n5 c5);have g0:=v0.at 0 rfl;have g1:=v0.at 1 rfl;have qQ:=hB4.trans (hb5.mono hs4);have hfx:=aj (off:=1) (u:=.slice a5 n5 c5) (b:=w.heap.size+1) (aj (off:=0) (u:=.int .i64 (j:Int)) (b:=w.heap.size+1) qQ (by omega)) (by omega);have HS5:=ae ((hS5.Mt (bK.put (o:=0) k1 (.int .i64 (j:Int))) (by decide)).Mt (bK.put (o:=1) (k1.set 0 (.int .i64 (j:Int))) (.slice a5 n5 c5)) (by decide));clear v0 hs5 hn5 hS5;go_wp2_with fail;refine bodyPost_ret (v:=.tuple #[.agg #[.int .i64 (j:Int),.slice a5 n5 c5],.bool true]) (by simp [results,Tryz.results54,go_sem,g0,g1]) rfl ⟨?_,hfx⟩;rw [Km.out];refine ⟨_,rfl,?_⟩;have:=HS5.out;unfold G_;simpa [nz] using this
   ·have zh:((hd2:Int)==(c:Int))=false:=beq_eq_false_iff_ne.2 (by omega);have hov:res=none:=by rw [sO.out];exact if_neg fun e=>hh (by rw [HD2.out];exact e.2.2)
    clear hh;refine ay [3,4,5,6,7,8,9,10,11,12,13,14,15,16,17,18,19,20,21,22,23,24,25,26,27,28] 0 rfl (by kernel_rfl) ?_;refine aZ ?_
    iterate 26 (refine aO rfl ?_)
    refine a_ ?_
    iterate 26 (go_big_quiet_step (rfl))
    refine ak ?_;refine aI [] (by kernel_rfl) ?_;refine tail_nil ?_;go_wp2_with fail;exact bodyPost_ret (v:=.tuple #[.agg #[.int .i64 0,.slice none 0 0],.bool false]) (by simp [results,Tryz.results54,go_sem,g0,g1]) rfl ⟨by first|rfl|(rw [hov];rfl),hfin.out⟩
  ·have hov:res=none:=by rw [sO.out];exact if_neg fun e=>hq e.2.1
   have zq:((k:Int)+1==(nr:Int))=true:=by simp;omega
   refine ay [3,4,5,6,7,8,9,10,11,12,13,14,15,16,17,18,19,20,21,22,23,24,25,26,27,28] 0 rfl (by kernel_rfl) ?_;refine aZ ?_
   iterate 26 (refine aO rfl ?_)
   refine a_ ?_
   iterate 26 (go_big_quiet_step (rfl))
   refine ak ?_;refine aI [] (by kernel_rfl) ?_;refine tail_nil ?_;go_wp2_with fail;exact bodyPost_ret (v:=.tuple #[.agg #[.int .i64 0,.slice none 0 0],.bool false]) (by simp [results,Tryz.results54,go_sem,g0,g1]) rfl ⟨by first|rfl|(rw [hov];rfl),hfin.out⟩
 ·have hwf:wb=false:=by simpa using hw
  have hov:res=none:=by rw [sO.out];exact if_neg fun e=>hw e.1
  clear hw;subst hwf;refine ay [3,4,5,6,7,8,9,10,11,12,13,14,15,16,17,18,19,20,21,22,23,24,25,26,27,28] 0 rfl (by kernel_rfl) ?_;refine aZ ?_
  iterate 26 (refine aO rfl ?_)
  refine a_ ?_
  iterate 26 (go_big_quiet_step (rfl))
  refine ak ?_;refine aI [] (by kernel_rfl) ?_;refine tail_nil ?_;go_wp2_with fail;exact bodyPost_ret (v:=.tuple #[.agg #[.int .i64 0,.slice none 0 0],.bool false]) (by simp [results,Tryz.results54,go_sem,g0,g1]) rfl ⟨by first|rfl|(rw [hov];rfl),hfin.out⟩
theorem Jq {w:World} {B p dp:Nat} {T:List aF} {X:List Nat} {l:List Nat} (hD:dZ w dp T X) (hV:bE T X) (h:jk w B p dp (aB T) l) (hl:l.length<9000) {v:Value} {s:vP} (hs:G_ w v s) (ho:sM (dU (aB T) l) s) (c:Nat) (hc:c<1114112) (h0:aB T c≠0) :
 Calls Tryz.prog 54 #[.pointer (some ⟨p,0,none⟩),v,.int .i32 c] w fun e w'=>BC e w' (lW (aB T) (dU (aB T) l) s c)∧Below w.heap.size w w':=by
 obtain ⟨k,ms⟩:=s;have hF:=kM (aB T) l;obtain ⟨g,rc,gZ,small,Es,hR⟩:=h.read;obtain ⟨sv,rfl,hsv⟩:=id hs;obtain ⟨sa,sc,rfl,_,hx⟩:=bD.out hsv.any;obtain ⟨m,hm⟩:=af ((bH (nz ms)).length);dsimp only at hs hsv ⊢;have hm2:m=ms.length:=by rw [hm];simp [bH]
 rw [←hm] at hs hsv ⊢;have hb0:=dF (w:=w) (.cells #[.int .i64 (k:Nat),.slice sa m sc] 53) (.cells #[.int .i64 0,.slice none 0 0] 53);have RU:=ae (yR (h.mono hb0) hl (hs.mono hb0) ho);have hrun:=hF.2.2 _ (show aY (dU (aB T) l) k∈dU (aB T) l by rw [gV ho.lt];exact List.getElem_mem _);have CL:=ae (fun (W:World) (E:Below w.heap.size w W)=>nS (hD.mono E) hV c hc);have CN:=ae (fun (W:World) (E:Below w.heap.size w W)=>Bu (hsv.any.mono E) (by have h1:ms.length=(aY (dU (aB T) l) k).2.length:=ho.len;have h2:=hrun.1;rw [uL];omega));have hov:lW (aB T) (dU (aB T) l) (k,ms) c=((List.range (aY (dU (aB T) l) k).2.length).find? (gz (aB T c) c ms (aY (dU (aB T) l) k).2)).map fun i=>(k,ms.set i (ms.getD i 0+1)):=by unfold lW;rw [if_neg h0]
 rw [hov];dsimp only at RU;have hcl:∀c,aB T c<1000000:=fun c=>by
  unfold aB;cases e:rowOf T c with
  | none=>decide
  | some r=>
    have:=(hV.fine r (ic e).1).2.1;show r.cls<1000000;omega
 have hcl:=hcl c;obtain ⟨kc,hkc⟩:=af (aB T c);obtain ⟨R,hR0⟩:=af (dU (aB T) l);simp only [←hR0,←hkc] at hF hR RU ho CL h0 hrun hcl ⊢;obtain ⟨L,hL0⟩:=af ((aY R k).2);have ko:ms.length=L.length:=by rw [hL0];exact ho.len
 have hle:∀i (a:i<ms.length) (b:i<L.length),ms[i]≤L[i].2.length:=by subst hL0;exact ho.le
 rw [←hL0] at hrun ⊢;have sO:∃res:Option vP,res=((List.range L.length).find? (gz kc c ms L)).map fun i=>(k,ms.set i (ms.getD i 0+1)):=⟨_,rfl⟩;obtain ⟨res,hres⟩:=sO;rw [←hres];have sO:=ae hres;have HX:=ae hx;have Uk:=ae hle;have DZ:=ae ko;have zT:=ae hm2;have HL0:=ae hL0;have HRU:=ae hrun;have hIs:=hR.is;have zc:((kc:Int)==0)=false:=beq_eq_false_iff_ne.2 (by omega);have Um:m<10000:=by have:=hrun.1;omega
 clear h hR hsv hs hm hF hrun hR0 ho hov hD hres hx hle ko hm2 hL0 hkc;go_enter Tryz.func54,Tryz.ntmps54;go_wp2_with fail;refine RU.out.mono ?_;rintro e w1 ⟨rv,rfl,hW,hb1⟩;obtain ⟨la,lc,x1,m1,y1,x2,m2,y2,z,f,rfl,hL,ZQ⟩:=id hW;clear ZQ hW;rw [←HL0.out] at hL ⊢;obtain ⟨n,hn⟩:=af L.length;obtain ⟨hd,hhd⟩:=af ((aY R k).1);obtain ⟨la',Na,e9,hLk⟩:=hL;injection e9 with e8 _ e7;subst e8 e7;rw [←hn,←hhd];have HN:=ae hn;have V_:=ae hLk;have hB1:=hb0.trans (hb1.mono hb0.size);have We:w.heap.size+2≤w1.heap.size:=by have:=hb1.size;simpa using this
 have k0:Is w1 w.heap.size #[.int .i64 (k:Nat),.slice sa m sc] 53:=((Is.new w _ _).mono (ai _)).mono hb1;have k1:Is w1 (w.heap.size+1) #[.int .i64 0,.slice none 0 0] 53:=(Is.new' _ _ _ _ (by simp)).mono hb1;obtain ⟨w2,hw2⟩:=af (w1.alloc (.cells #[.int .i32 hd,.slice la n lc,.slice x1 m1 y1,.slice x2 m2 y2,.int .i64 z,.int .i64 f] eP));have hb2:Below w1.heap.size w1 w2:=by rw [hw2];exact ai _
 have k2:Is w2 w1.heap.size #[.int .i32 hd,.slice la n lc,.slice x1 m1 y1,.slice x2 m2 y2,.int .i64 z,.int .i64 f] eP:=by rw [hw2];exact Is.new _ _ _
 have hB2:=hB1.trans (hb2.mono hB1.size);have k0:=k0.mono hb2;have k1:=k1.mono hb2;have UE:=ae (CL.out w2 hB2);have p0:=(hIs.mono hB2).at 0 rfl;rw [hw2] at p0;clear hn hhd RU CL hLk;go_wp2_with fail;rw [←hw2];clear hw2 p0;refine UE.out.mono ?_;rintro e w3 ⟨rfl,hb3⟩;have hs2:=hB2.size;have hB3:=hB2.trans (hb3.mono hs2);have k0:=k0.mono hb3;have k1:=k1.mono hb3;have k2:=k2.mono hb3;have hs3:=hB3.size;have h13:=hb2.trans (hb3.mono hb2.size);have d1:=k2.at 1 rfl;clear UE;go_wp2_with fail;go_loopw [11,12,13,70] (fun _ _ _ iv wr=>∃i:Nat,i≤n∧iv=.int .i64 i∧(∀j,j<i→gz kc c ms L j=false)∧Below w3.heap.size w3 wr) (fun _ _ _ iv _=>n-(intOf iv).toNat)
 case atStart=>exact ⟨0,Nat.zero_le _,rfl,fun j hj=>absurd hj (by omega),Below.refl _ _⟩
 case round=>
  obtain ⟨i,hi,rfl,hno,hE⟩:=hrel;have kV:=hB3.trans (hE.mono hs3);have UM:=h13.trans (hE.mono h13.size);by_cases him:i<n
  ·have zi:decide ((i:Int)<(n:Int))=true:=decide_eq_true (by omega);have P_:i<L.length:=by have:=HN.out;omega
   have Gx:i<ms.length:=by have:=DZ.out;omega
   have adY:i<m:=by have:=zT.out;omega
   have R8:i<(bH (nz ms)).length:=by simp [bH];exact Gx
   obtain ⟨b,off,rfl,_,c0⟩:=HX.out i R8;obtain ⟨lg,va,vc,rfl,l0,l1,hsl⟩:=V_.out i P_;rw [show (bH (nz ms))[i]=.int .i64 ((ms[i]:Nat):Int) by simp [bH,nz]] at c0;obtain ⟨mi,G9⟩:=af (ms[i]);obtain ⟨cls,hcls⟩:=af (L[i].1);obtain ⟨ln,hln⟩:=af (L[i].2);have yS:gz kc c ms L i=(decide (cls=kc)&&decide (mi<ln.length)&&decide (ln.getD mi 0=c)):=by
    unfold gz;rw [G9,hcls,hln,List.getD_eq_getElem?_getD (l:=L),List.getElem?_eq_getElem P_,List.getD_eq_getElem?_getD (l:=ms),List.getElem?_eq_getElem Gx];rfl
   have hlen:ln.length<10000:=by rw [hln];have:=(HRU.out.2 _ (List.getElem_mem P_));omega
   rw [←G9] at c0;rw [←hcls] at l0;rw [←hln] at l1 hsl;obtain ⟨xl,hxl⟩:=af ln.length;rw [←hxl] at l1 hsl yS hlen;have c0:=aA kV c0;have l1:=aA UM l1;have l0:=aA UM l0;have hsl:=hsl.mono UM;have ZR:=k0.mono hE;have e1:=ZR.at 1 rfl;have M0:=ae hno;have Wh:=ae yS;have ZN:=ae G9;have UL:=ae hxl;have hbn:=ai (w:=wr) (.cells #[.int .i64 (cls:Nat),.slice va xl vc] 87);have i0:=Is.new wr #[.int .i64 (cls:Nat),.slice va xl vc] 87;have n0:=i0.at 0 rfl;have n1:=i0.at 1 rfl;have Xk:=aA hbn e1;have c0':=aA hbn c0;have hnext:gz kc c ms L i=false→∀j,j<i+1→gz kc c ms L j=false:=fun hf j hj=>by
    rcases Nat.lt_succ_iff_lt_or_eq.1 hj with h1|rfl
    ·exact M0.out j h1
    ·exact hf
   have XF:=ae hnext;clear hno yS G9 hxl hcls hln ZR hnext;by_cases hz1:cls=kc
   ·subst hz1;have z1:((cls:Int)==(cls:Int))=true:=by simp
    by_cases hz2:mi<xl
    ·have z2:decide ((mi:Int)<(xl:Int))=true:=decide_eq_true (by omega);obtain ⟨q,hq⟩:=af (ln.getD mi 0);have Qa:mi<ln.length:=by have:=UL.out;omega
     obtain ⟨ya,yc,he,_,hy⟩:=Go.Proofs.YtjidohgiigjifaaGreatDoor.bD.Mf hsl UL.out;injection he with he _ Wi;subst he Wi;obtain ⟨yb,yo,rfl,_,y0⟩:=hy mi Qa;rw [show ln[mi]=q by rw [hq,List.getD_eq_getElem?_getD,List.getElem?_eq_getElem Qa];rfl] at y0;have y0':=aA hbn y0;have HQ:=ae hq;clear hy hq hsl;by_cases hz3:q=c
     ·have z3:((q:Int)==(c:Int))=true:=by simp;omega
      have hbl:Below wr.heap.size wr (wr.alloc (.cells #[.int .i64 (cls:Nat),.slice (some ⟨yb,yo,none⟩) xl vc] 87)):=hbn;have hlast:gz cls c ms L i=true:=by rw [Wh.out,←HQ.out,hz3,decide_eq_true rfl,decide_eq_true hz2,decide_eq_true rfl];rfl
      have hov:res=some (k,ms.set i (mi+1)):=by
       rw [sO.out];rw [show (List.range L.length).find? (gz cls c ms L)=some i from List.find?_range_eq_some.2 ⟨hlast,List.mem_range.2 P_,fun j hj=>by rw [M0.out j hj];rfl⟩];rw [Option.map_some,List.getD_eq_getElem?_getD,List.getElem?_eq_getElem Gx,ZN.out];rfl
      have Km:=ae hov;clear hov hlast;go_wp2_with fail;generalize wr.alloc (.cells #[.int .i64 (cls:Nat),.slice (some ⟨yb,yo,none⟩) xl vc] 87)=wl at *;have ai_:mi<10000:=by omega
      have hEl:=hE.trans (hbl.mono hE.size);have dC:=hB3.trans (hEl.mono hs3);have hsl:=dC.size;have k0l:=k0.mono hEl;have k1l:=k1.mono hEl;have e0:=Gr.cell (ah wl) (k0l.at 0 rfl);have e1g:=Gr.cell (ah wl) (k0l.at 1 rfl);clear e1 Xk c0 c0' l0 l1 n0 n1 i0 y0 y0' hbn z1 z2 z3 hz2;refine aD #[true,true,true,true,true,true,true,false] 7 1 mixed (by rfl) ?_;refine ay [0,1,2,3] 3 rfl (by kernel_rfl) ?_
      iterate 4 (refine aC rfl ?_;go_big_quiet_step (rfl))
      refine ak ?_;refine Ik [6] (fun _ v W=>∃k,v=.pointer (some ⟨k,0,none⟩)∧W.heap[k]? = some (.cells #[.int .i64 0,.slice none 0 0] 53)) aaI 2 rfl (by kernel_rfl) (fun _ _ _ _ hb h=>yn hb h) ?_ ?_
      ·intro i hi o ho;simp only [List.mem_cons,List.not_mem_nil,or_false] at hi;subst hi;cases ho;exact ym rfl rfl (fun W=>by go_simp)
      refine oD 4 (by kernel_rfl) rfl ?_;intro wa QD;have hEa:=dC.trans (((ah wl).trans QD).mono hsl);have hsa:=hEa.size;go_wp2_with fail;refine (CN.out wa hEa).mono ?_;rintro e wc ⟨r,rfl,oc,hbc⟩;rw [uL,←zT.out] at oc;obtain ⟨cb,cc,rfl,_,hcb,_,_,_⟩:=jU oc (show 0<m by omega);have QF:=hEa.trans (hbc.mono hsa);go_wp2_with fail;refine aH hbc ?_;refine rM [5] 0 rfl (by kernel_rfl) ?_;refine aC rfl ?_;go_big_quiet_step (rfl);refine ak ?_;refine rQ [7] (by kernel_rfl) ?_;intro W Wb us hR hD;obtain ⟨⟨Y,hv,hh⟩,hN,hbk⟩:=hR 6 (by simp);rw [hv] at hN hbk;simp only [aaI] at hN hbk;rw [sw (d:=some 14) rfl,hv];have hY:wl.heap.size≤Y:=hN;have XG:=QF.trans (Wb.mono QF.size);have hlc:Below wl.heap.size wl W:=((ah wl).trans QD).trans ((hbc.trans (Wb.mono hbc.size)).mono (show wl.heap.size≤wa.heap.size from QD.size));have oW:=aG oc Wb;have k1W:=k1l.mono hlc;have iY:Is W Y #[.int .i64 0,.slice none 0 0] 53:=⟨hh⟩;have a0:=iY.at 0 rfl;have a1:=iY.at 1 rfl;have b0:=iY.frozen 0;have b1:=iY.frozen 1;have ch:=(bK.put (o:=0) iY (.int .i64 (k:Nat))).trans (bK.put (o:=1) (iY.set 0 (.int .i64 (k:Nat))) (.slice (some ⟨cb,0,none⟩) m cc));have iY2:=(iY.set 0 (.int .i64 (k:Nat))).set 1 (.slice (some ⟨cb,0,none⟩) m cc);have oY:=ch.own oW (by decide);have hY1:w.heap.size+2≤Y:=by have:=UM.size;have:=hbl.size;omega
      have ZT:=(k1W.put (show w.heap.size+1≠Y by omega) (o:=0) (.int .i64 (k:Nat))).put (show w.heap.size+1≠Y by omega) (o:=1) (.slice (some ⟨cb,0,none⟩) m cc);have hEY:=aj (off:=1) (u:=.slice (some ⟨cb,0,none⟩) m cc) (b:=Y) (aj (off:=0) (u:=.int .i64 (k:Nat)) (b:=Y) XG (by omega)) (by omega);have OY:=ae oY;have IY2:=ae iY2;have K1Y:=ae ZT;clear iY iY2 oY ZT ch oW k1W hR hD e0 e1g hv hh hN hbk k0l k1l oc QD hbc hlc Wb;refine ug (os:=[_]) rfl ?_;go_wp2_with fail;refine uh ?_;clear a0 a1 b0 b1;generalize (W.setCell ⟨Y,0,none⟩ (.int .i64 (k:Nat))).setCell ⟨Y,1,none⟩ (.slice (some ⟨cb,0,none⟩) m cc)=w6 at *;have iY:=IY2.out;have oY:=OY.out;have ZT:=K1Y.out;have y1:=iY.at 1 rfl;obtain ⟨cm,fm⟩:=gJ oY (j:=i) R8;rw [show (bH (nz ms))[i]=.int .i64 ((ms[i]:Nat):Int) by simp [bH,nz],←ZN.out] at cm;obtain ⟨o7,ZU⟩:=oY.stored i (.int .i64 ((mi:Int)+1));have ch7:=bK.bP oY ZU;have iY7:=ch7.is iY (by decide);have k17:=ch7.is ZT (by decide);have u0:=iY7.at 0 rfl;have u1:=iY7.at 1 rfl;have f0:=k17.at 0 rfl;have f1:=k17.at 1 rfl;have q0:=k17.frozen 0;have q1:=k17.frozen 1;have v0:=(k17.set 0 (.int .i64 (k:Nat))).set 1 (.slice (some ⟨cb,0,none⟩) m cc);have g0:=v0.at 0 rfl;have g1:=v0.at 1 rfl;have o9:=ae (((bK.put (o:=0) k17 (.int .i64 (k:Nat))).trans (bK.put (o:=1) (k17.set 0 (.int .i64 (k:Nat))) (.slice (some ⟨cb,0,none⟩) m cc))).own o7 (by decide));have hfin:=ae (aj (off:=1) (u:=.slice (some ⟨cb,0,none⟩) m cc) (b:=w.heap.size+1) (aj (off:=0) (u:=.int .i64 (k:Nat)) (b:=w.heap.size+1) (aj (off:=i) (u:=.int .i64 ((mi:Int)+1)) (b:=cb) hEY (by omega)) (by omega)) (by omega));clear iY oY ZT o7 ZU ch7 iY7 k17 v0;go_wp2_with fail;refine bodyPost_ret (v:=.tuple #[.agg #[.int .i64 (k:Nat),.slice (some ⟨cb,0,none⟩) m cc],.bool true]) (by simp [results,Tryz.results54,go_sem,g0,g1]) rfl ⟨?_,hfin.out⟩;rw [Km.out];refine ⟨_,rfl,_,rfl,?_⟩;have h9:=Sl.aT o9.out;rw [show (bH (nz ms)).set i (.int .i64 ((mi:Int)+1))=bH (nz (ms.set i (mi+1))) by simp [bH,nz,List.map_set]] at h9;exact h9
     ·have z3:((q:Int)==(c:Int))=false:=beq_eq_false_iff_ne.2 (by omega);have hf:gz cls c ms L i=false:=by rw [Wh.out,←HQ.out,decide_eq_false hz3,Bool.and_false]
      have HF:=ae (XF.out hf);clear hf;go_wp2_with fail;go_roundw
      case rel=>exact ⟨i+1,by omega,by simp,HF.out,hE.trans (hbn.mono hE.size)⟩
      case measure=>simp [intOf];omega
    ·have z2:decide ((mi:Int)<(xl:Int))=false:=decide_eq_false (by omega);have hf:gz cls c ms L i=false:=by rw [Wh.out,decide_eq_false hz2,Bool.and_false,Bool.false_and]
     have HF:=ae (XF.out hf);clear hf;go_wp2_with fail;go_roundw
     case rel=>exact ⟨i+1,by omega,by simp,HF.out,hE.trans (hbn.mono hE.size)⟩
     case measure=>simp [intOf];omega
   ·have z1:((cls:Int)==(kc:Int))=false:=beq_eq_false_iff_ne.2 (by omega);have hf:gz kc c ms L i=false:=by rw [Wh.out,decide_eq_false hz1,Bool.false_and,Bool.false_and]
    have HF:=ae (XF.out hf);clear hf;go_wp2_with fail;go_roundw
    case rel=>exact ⟨i+1,by omega,by simp,HF.out,hE.trans (hbn.mono hE.size)⟩
    case measure=>simp [intOf];omega
  ·have zi:decide ((i:Int)<(n:Int))=false:=decide_eq_false (by omega);obtain rfl:i=n:=by omega
   have hov:res=none:=by
    rw [sO.out];rw [show (List.range L.length).find? (gz kc c ms L)=none from List.find?_range_eq_none.2 fun j hj=>by rw [hno j (by rw [HN.out];exact hj)];rfl];rfl
   have k5:=k1.mono hE;have f0:=k5.at 0 rfl;have f1:=k5.at 1 rfl;have q0:=k5.frozen 0;have q1:=k5.frozen 1;have v0:=(k5.set 0 (.int .i64 0)).set 1 (.slice none 0 0);have g0:=v0.at 0 rfl;have g1:=v0.at 1 rfl;have hfin:=ae (aj (off:=1) (u:=.slice none 0 0) (b:=w.heap.size+1) (aj (off:=0) (u:=.int .i64 0) (b:=w.heap.size+1) kV (by omega)) (by omega));clear v0 k5 hno;go_wp2_with fail;exact bodyPost_ret (v:=.tuple #[.agg #[.int .i64 0,.slice none 0 0],.bool false]) (by simp [results,Tryz.results54,go_sem,g0,g1]) rfl ⟨by first|rfl|(rw [hov];rfl),hfin.out⟩
theorem Mv {w:World} {B p dp:Nat} {T:List aF} {X:List Nat} {l:List Nat} (hD:dZ w dp T X) (hV:bE T X) (h:jk w B p dp (aB T) l) (hl:l.length<9000) {v:Value} {s:vP} (hs:G_ w v s) (ho:sM (dU (aB T) l) s) (c:Nat) (hc:c<1114112) :
 Calls Tryz.prog 54 #[.pointer (some ⟨p,0,none⟩),v,.int .i32 c] w fun e w'=>BC e w' (lW (aB T) (dU (aB T) l) s c)∧Below w.heap.size w w':=by
 by_cases h0:aB T c=0
 ·exact Jo hD hV h hl hs ho c hc h0
 ·exact Jq hD hV h hl hs ho c hc h0
theorem Jr {α β:Type} {f:α→β→Option α} {l:List β} {i:Nat} (hi:i<l.length) {a b:α} (h:(l.take i).foldlM f a=some b):(l.take (i+1)).foldlM f a=f b l[i]:=by
 rw [List.take_succ_eq_append_getElem hi,List.foldlM_append,h];show [l[i]].foldlM f b=_;rw [List.foldlM_cons];cases f b l[i] <;> rfl
theorem Js {α β:Type} {f:α→β→Option α} {l:List β} {i:Nat} {a:α} (h:(l.take i).foldlM f a=none):l.foldlM f a=none:=by
 conv=>lhs;rw [←List.take_append_drop i l,List.foldlM_append,h]
 rfl
theorem Mw {w:World} {B p dp:Nat} {T:List aF} {X:List Nat} {l:List Nat} (hD:dZ w dp T X) (hV:bE T X) (XH:T.length<1000) (h:jk w B p dp (aB T) l) (hl:l.length<9000) {v:Value} {s:vP} (hs:G_ w v s) (ho:sM (dU (aB T) l) s) (c:Nat) (hc:aX c) :
 Calls Tryz.prog 23 #[.pointer (some ⟨p,0,none⟩),v,.int .i32 c] w fun e w'=>BC e w' (yQ (aB T) (aK T) (dU (aB T) l) s c)∧Below w.heap.size w w':=by
 obtain ⟨g,rc,gZ,small,Es,hR⟩:=h.read;obtain ⟨sv,rfl,hsv⟩:=id hs;obtain ⟨sa,sc,rfl,_,hx⟩:=bD.out hsv.any;obtain ⟨m,hm⟩:=af ((bH (nz s.2)).length);rw [←hm] at hs hsv ⊢;have hb0:=dF (w:=w) (.cells #[.int .i64 (s.1:Nat),.slice sa m sc] 53) (.cells #[.int .i64 0,.slice none 0 0] 53);have FU:=ae (I8 (hD.mono hb0) hV XH c hc.1);have hfc:∀y∈aK T c,y<1114112:=fun y hy=>(rT hV hc hy).1;have hfl:=iR hV c;have TK:=ae (fun (W:World) (E:Below w.heap.size w W) (u:Value) (s':vP) (hu:G_ W u s') (ho':sM (dU (aB T) l) s') (y:Nat) (hy:y<1114112)=>Mv (hD.mono E) hV (h.mono E) hl hu ho' y hy);have hok:∀(s' s2:vP) (y:Nat),sM (dU (aB T) l) s'→lW (aB T) (dU (aB T) l) s' y=some s2→sM (dU (aB T) l) s2:=fun s' s2 y h1 h2=>P8 h1 h2;have hst:yQ (aB T) (aK T) (dU (aB T) l) s c=(aK T c).foldlM (lW (aB T) (dU (aB T) l)) s:=rfl;rw [hst];obtain ⟨tk,htk⟩:=af (lW (aB T) (dU (aB T) l));obtain ⟨F,hF⟩:=af (aK T c);obtain ⟨R,hR0⟩:=af (dU (aB T) l);simp only [←htk] at TK hok ⊢;simp only [←hF,←hR0] at FU hfc hfl TK hok ho hR ⊢;obtain ⟨res,hres⟩:=af (F.foldlM tk s);rw [←hres];have sO:=ae hres;have HFC:=ae hfc;have ZV:=ae hok;have hIs:=hR.is;have p0:=(hIs.mono hb0).at 0 rfl;have Wj:G_ (( w.alloc (.cells #[.int .i64 (s.1:Nat),.slice sa m sc] 53)).alloc (.cells #[.int .i64 0,.slice none 0 0] 53)) (.agg #[.int .i64 (s.1:Nat),.slice sa m sc]) s:=hs.mono hb0;have Wj:=ae Wj;have HO:=ae ho;clear h hR hsv hs hm hR0 htk hF hst hres hfc hok hx hD ho;obtain ⟨k,hk⟩:=af s.1;rw [←hk] at Wj hb0 FU p0 ⊢;have HK:=ae hk;clear hk;go_enter Tryz.func23,Tryz.ntmps23;go_wp2_with fail;refine FU.out.mono ?_;rintro e w1 ⟨r1,rfl,o1,hb1⟩;have hB1:=hb0.trans (hb1.mono hb0.size);obtain ⟨n,hn⟩:=af F.length;have hsl:=(Sl.aT o1).any;obtain ⟨a1,c1,rfl,_,hy⟩:=Go.Proofs.YtjidohgiigjifaaGreatDoor.bD.Mf hsl hn;have k0:Is w1 w.heap.size #[.int .i64 (k:Nat),.slice sa m sc] 53:=((Is.new w _ _).mono (ai _)).mono hb1;have k1:Is w1 (w.heap.size+1) #[.int .i64 0,.slice none 0 0] 53:=(Is.new' _ _ _ _ (by simp)).mono hb1;have hS1:=Wj.out.mono hb1;have Qy:n≤32:=by rw [hn];exact hfl
 have HN:=ae hn;have O1:=ae o1;have ZW:w.heap.size+2≤((w.alloc (.cells #[.int .i64 (k:Nat),.slice sa m sc] 53)).alloc (.cells #[.int .i64 0,.slice none 0 0] 53)).heap.size:=by simp
 generalize ((w.alloc (.cells #[.int .i64 (k:Nat),.slice sa m sc] 53)).alloc (.cells #[.int .i64 0,.slice none 0 0] 53))=w0 at *;clear o1 hsl hy Wj p0 hfl;go_wp2_with fail
 go_loopw [8,10,18] (fun isv _ iv wr=>∃i:Nat,i≤n∧iv=.int .i64 i∧isv=.bool true∧(∃(s':vP) (a:Option Addr) (m c:Nat),(F.take i).foldlM tk s=some s'∧sM R s'∧Is wr w.heap.size #[.int .i64 (s'.1:Nat),.slice a m c] 53∧G_ wr (.agg #[.int .i64 (s'.1:Nat),.slice a m c]) s')∧
  Is wr (w.heap.size+1) #[.int .i64 0,.slice none 0 0] 53∧wr.ownsRow w0.heap.size aM 1 (.slice a1 n c1) n (aN F)∧Below w.heap.size w wr) (fun _ _ iv _=>n-(intOf iv).toNat)
 case atStart=>exact ⟨0,Nat.zero_le _,rfl,rfl,⟨s,sa,m,sc,rfl,HO.out,HK.out▸k0,HK.out▸hS1⟩,k1,HN.out▸O1.out,hB1⟩
 case round=>
  obtain ⟨i,hi,rfl,rfl,⟨s',a,m',c',hf,ho',j0,hS⟩,j1,hrow,hE⟩:=hrel;have hs1:=hE.size;by_cases hin:i<n
  ·have zi:decide ((i:Int)<(n:Int))=true:=decide_eq_true (by omega);obtain ⟨rb,Vg,he,_,_,_,_,hcells⟩:=jU hrow (show 0<n by omega);injection he with he1 _ he2;subst he1 he2;have hil:i<F.length:=by have:=HN.out;omega
   have cy:=hcells i (.int .i32 (F[i]:Nat)) (by rw [List.getElem?_eq_getElem (by rw [bO];exact hil),fB _ _ hil]);have hy9:=HFC.out _ (List.getElem_mem hil);have hft:=Jr hil hf;obtain ⟨y,hy⟩:=af (F[i]);rw [←hy] at cy hy9 hft;have TC:=ae (TK.out wr hE _ s' hS ho' y hy9);have e0:=j0.at 0 rfl;have e1:=j0.at 1 rfl;have Vt:=ae hft;have zM:=ae hrow;have HOS:=ae ho';obtain ⟨sk,hsk⟩:=af s'.1;rw [←hsk] at e0 TC j0;clear hft hcells hf hy hS hrow ho' hsk;go_wp2_with fail;refine TC.out.mono ?_;rintro e w2 ⟨hstep,hb2⟩;have hE2:=hE.trans (hb2.mono hs1);have UN:=j0.mono hb2;have j12:=j1.mono hb2;have a0:=UN.at 0 rfl;have a1':=UN.at 1 rfl;have b0:=UN.frozen 0;have b1:=UN.frozen 1;have hrow2:=aG zM.out hb2;cases htc:tk s' y with
   | none=>
     rw [htc] at hstep;obtain rfl:e=_:=hstep;have hov:res=none:=by rw [sO.out];exact Js (i:=i+1) (by rw [Vt.out,htc])
     have j13:=(j12.put (show w.heap.size+1≠w.heap.size by omega) (o:=0) (.int .i64 0)).put (show w.heap.size+1≠w.heap.size by omega) (o:=1) (.slice none 0 0);have f0:=j13.at 0 rfl;have f1:=j13.at 1 rfl;have q0:=j13.frozen 0;have q1:=j13.frozen 1;have v0:=(j13.set 0 (.int .i64 0)).set 1 (.slice none 0 0);have g0:=v0.at 0 rfl;have g1:=v0.at 1 rfl;have hfin:=ae (aj (off:=1) (u:=.slice none 0 0) (b:=w.heap.size+1) (aj (off:=0) (u:=.int .i64 0) (b:=w.heap.size+1) (aj (off:=1) (u:=.slice none 0 0) (b:=w.heap.size) (aj (off:=0) (u:=.int .i64 0) (b:=w.heap.size) hE2 (by omega)) (by omega)) (by omega)) (by omega));have Km:=ae hov;clear hov v0 j13 htc;go_wp2_with fail;refine bodyPost_ret (v:=.tuple #[.agg #[.int .i64 0,.slice none 0 0],.bool false]) (by simp [results,Tryz.results23,go_sem,g0,g1]) rfl ⟨?_,hfin.out⟩;rw [Km.out];rfl
   | some s2=>
     rw [htc] at hstep;obtain ⟨v2,rfl,hS2⟩:=hstep;obtain ⟨sv2,rfl,hs2⟩:=id hS2;obtain ⟨a2,c2,rfl,_,_⟩:=bD.out hs2.any;obtain ⟨m2,hm2⟩:=af ((bH (nz s2.2)).length);rw [←hm2] at hS2 ⊢;have ch:=(bK.put (o:=0) UN (.int .i64 (s2.1:Nat))).trans (bK.put (o:=1) (UN.set 0 (.int .i64 (s2.1:Nat))) (.slice a2 m2 c2));have j03:=(UN.set 0 (.int .i64 (s2.1:Nat))).set 1 (.slice a2 m2 c2);have j13:=(j12.put (show w.heap.size+1≠w.heap.size by omega) (o:=0) (.int .i64 (s2.1:Nat))).put (show w.heap.size+1≠w.heap.size by omega) (o:=1) (.slice a2 m2 c2);have hrow3:=ch.own hrow2 (by decide);have hS3:=Kk.Mt hS2 ch (by decide);have j_:=aj (off:=1) (u:=.slice a2 m2 c2) (b:=w.heap.size) (aj (off:=0) (u:=.int .i64 (s2.1:Nat)) (b:=w.heap.size) hE2 (by omega)) (by omega);have HJ:=ae j03;have HJ1:=ae j13;have HR3:=ae hrow3;have HS3:=ae hS3;have HTC:=ae htc;have QA:=ae (ZV.out s' s2 y HOS.out htc);clear hs2 hm2 hS2 ch j03 j13 hrow3 hS3 htc j0 j1 hrow2 UN j12;go_wp2_with fail;go_roundw
     case rel=>exact ⟨i+1,by omega,by simp,rfl,⟨s2,a2,m2,c2,by rw [Vt.out,HTC.out],QA.out,HJ.out,HS3.out⟩,HJ1.out,HR3.out,j_⟩
     case measure=>simp [intOf];omega
  ·have zi:decide ((i:Int)<(n:Int))=false:=decide_eq_false (by omega);obtain rfl:i=n:=by omega
   have hov:res=some s':=by rw [sO.out,←hf,List.take_of_length_le (by rw [←HN.out];exact Nat.le_refl _)]
   have e0:=j0.at 0 rfl;have e1:=j0.at 1 rfl;have f0:=j1.at 0 rfl;have f1:=j1.at 1 rfl;have q0:=j1.frozen 0;have q1:=j1.frozen 1;have v0:=(j1.set 0 (.int .i64 (s'.1:Nat))).set 1 (.slice a m' c');have g0:=v0.at 0 rfl;have g1:=v0.at 1 rfl;have ch:=(bK.put (o:=0) j1 (.int .i64 (s'.1:Nat))).trans (bK.put (o:=1) (j1.set 0 (.int .i64 (s'.1:Nat))) (.slice a m' c'));have HS:=ae (Kk.Mt hS ch (by decide));have hfin:=ae (aj (off:=1) (u:=.slice a m' c') (b:=w.heap.size+1) (aj (off:=0) (u:=.int .i64 (s'.1:Nat)) (b:=w.heap.size+1) hE (by omega)) (by omega));have Km:=ae hov;clear hov v0 ch hS hrow hf ho' j0 j1;go_wp2_with fail;refine bodyPost_ret (v:=.tuple #[.agg #[.int .i64 (s'.1:Nat),.slice a m' c'],.bool true]) (by simp [results,Tryz.results23,go_sem,g0,g1]) rfl ⟨?_,hfin.out⟩;rw [Km.out];exact ⟨_,rfl,HS.out⟩
end Go.Proofs.YtjidohgiigjifaaGreatDoor
