/- TraceParts and TraceWalks: a machine takes a character as those of its full decomposition, one by one; texts that are alike go through it, and of others none; no condition. -/
import Derived.Test.YtjidohgiigjifaaGreatDoorR09
import Derived.Test.YtjidohgiigjifaaGreatDoorR08
import Derived.Lib.Join
set_option maxRecDepth 100000
set_option maxHeartbeats 6400000
section
namespace Go.Cd
theorem jN (c:UInt8):∀l:List (List UInt8),Lib.join l [c]=bu c l
 | []=>rfl
 | [p]=>by simp [Lib.join_one,bu]
 | p::q::l=>by
   have ih:=jN c (q::l);rw [Lib.join_cons] at ih ⊢;show p++Lib.joinTail [c] (q::l)=p++c::bu c (q::l);rw [←ih];simp [Lib.joinTail]
end Go.Cd
namespace Go.Proofs.YtjidohgiigjifaaGreatDoor
open Go.RowKit Go.Cd Go.Shelf
theorem xU {w:World} (hG:bZ w) (r:aF) (hr:xA r) {m:Value} (hm:bD w m (aN r.map)) :
 Calls Tryz.prog 95 #[.agg #[.int .i32 r.code,.int .i64 r.cls,m]] w fun e w'=>e=.returned (.string (tx (dL [88] r)))∧Below w.heap.size w w':=by
 obtain ⟨ma,mc,rfl,hcap,hx⟩:=bD.lD hm rfl;have HX:=ae (fun (W:World) (E:Below w.heap.size w W) (c:Nat) (hc:c<1114112)=>qj (hG.mono E) c hc)
 have IT:=ae (show ∀W,bZ W→Calls Tryz.prog 137 #[.int .i64 r.cls] W fun e w'=>e=.returned (.string (tx (gD r.cls)))∧Below W.heap.size W w' from fun W h=>by
  have:=Tryz.strconv_Itoa r.cls (by omega) (by have:=hr.cls;omega) W h.Xc;rw [AA r.cls (by have:=hr.cls;omega)] at this
  exact this.mono fun e w' h=>⟨h.1,by obtain ⟨k,os,rfl⟩:=h.2;exact uY _ _ _⟩)
 obtain ⟨n,hn⟩:=af r.map.length;rw [←hn] at hcap ⊢;have hn2:n≤2:=by rw [hn];exact hr.len
 have HN:=ae hn;have Xg:=ae hx;have HR:=ae hr;have HG:=ae hG;have hc1:=hr.code;clear hm hx hn hr hG;obtain ⟨w1,hw1⟩:=af ((w.alloc (.cells #[.int .i32 r.code,.int .i64 r.cls,.slice ma n mc] 164)).alloc (.cells (Array.replicate 15 (.string ⟨#[]⟩)) 9));have hb1:Below w.heap.size w w1:=by rw [hw1];exact dF _ _
 have hz1:w1.heap.size=w.heap.size+2:=by rw [hw1];simp
 have k1:Is w1 w.heap.size #[.int .i32 r.code,.int .i64 r.cls,.slice ma n mc] 164:=by rw [hw1];exact (Is.new _ _ _).mono (ai _)
 have f1:Is w1 (w.heap.size+1) (Array.replicate 15 (.string ⟨#[]⟩)) 9:=by rw [hw1];exact Is.new' _ _ _ _ (by simp)
 have hmk:∀W,(Instr.makeSlice 206 (.int .i64 15) (.int .i64 15)).run Tryz.prog W=.ok (.slice (some ⟨W.heap.size,0,none⟩) 15 15) (W.alloc (.cells (Array.replicate 15 (.string ⟨#[]⟩)) 9)):=fun _=>by kernel_rfl
 go_enter Tryz.func95,Tryz.ntmps95;go_upto_region 2 with fail;rw [←hw1];clear hw1 hmk;have hb2:=ag hb1 (ah w1);have k2:=k1.mono (ah w1);have f2:=f1.mono (ah w1);have g0:=U3.keeps (B:=w.heap.size+1) (k2.at 0 rfl) (Nat.lt_succ_self _);have g1:=U3.keeps (B:=w.heap.size+1) (k2.at 1 rfl) (Nat.lt_succ_self _);refine rF (w.heap.size+1) (Array.replicate 15 true) 15 0 mixed (by rfl) ?_;refine lN [0,1,2,3,4,6,7] 8 rfl (by kernel_rfl) ?_
 iterate 7 (refine aC rfl ?_;go_big_quiet_step (rfl))
 refine ak ?_;refine kJ 5 (by kernel_rfl) rfl ?_;clear g0 g1;have hz2:w1.drew.heap.size=w.heap.size+2:=hz1;clear k1 f1 hz1;generalize w1.drew=w2 at *;go_wp2_with fail;refine (HX.out _ hb2 _ hc1).mono ?_;rintro e w3 ⟨rfl,h3⟩;go_wp2_with fail;refine iM (h3.mono (by omega)) ?_;refine kJ 8 (by kernel_rfl) rfl ?_;go_wp2_with fail;refine (IT.out _ (HG.out.mono (ag hb2 h3))).mono ?_;rintro e w4 ⟨rfl,h4⟩;go_wp2_with fail;have hs3:=h3.size;refine iM (h4.mono (by omega)) ?_;have hb4:=ag hb2 (ag h3 h4);have k4:=k2.mono (ag h3 h4);have f4:=f2.mono (ag h3 h4);have Rp:w.heap.size+2≤w4.heap.size:=by have:=(ag h3 h4).size;omega
 clear k2 f2 h3 h4 hz2 hb2 IT hb1 hs3;have hZ:∀i,i<15→∀W cs,Is W (w.heap.size+1) cs 9→cs.size=15→∃x,W.cell? ⟨w.heap.size+1,i,none⟩=some x:=fun i hi W cs h hs=>⟨cs[i],h.at i (Array.getElem?_eq_getElem _)⟩;obtain ⟨w5,vY⟩:=af (w4.setCell ⟨w.heap.size+1,0,none⟩ (.string (tx (aS r.code))));obtain ⟨w6,wH⟩:=af (w5.setCell ⟨w.heap.size+1,1,none⟩ (.string ⟨#[88]⟩));obtain ⟨w7,hw7⟩:=af (w6.setCell ⟨w.heap.size+1,3,none⟩ (.string (tx (gD r.cls))));have f5:=f4.set 0 (.string (tx (aS r.code)));rw [←vY] at f5
 replace vY:=ae vY
 have f6:=f5.set 1 (.string ⟨#[88]⟩);rw [←wH] at f6
 replace wH:=ae wH
 have f7:=f6.set 3 (.string (tx (gD r.cls)));rw [←hw7] at f7
 replace hw7:=ae hw7
 refine lN [9] 5 rfl (by kernel_rfl) ?_
 iterate 1 (refine aC rfl ?_;go_big_quiet_step (rfl))
 refine ak ?_;refine kJ 10 (by kernel_rfl) rfl ?_;have e0:=f4.at 0 rfl;have d0:=f4.frozen 0;go_wp2_with fail;rw [←vY.out];refine iM (by rw [vY.out];exact aj (Below.refl _ _) (Nat.le_refl _)) ?_;refine lN [11] 3 rfl (by kernel_rfl) ?_
 iterate 1 (refine aC rfl ?_;go_big_quiet_step (rfl))
 refine ak ?_;refine kJ 12 (by kernel_rfl) rfl ?_;clear e0 d0;have e0:=f5.at 1 rfl;have d0:=f5.frozen 1;go_wp2_with fail;rw [←wH.out];refine iM (by rw [wH.out];exact aj (Below.refl _ _) (Nat.le_refl _)) ?_;refine lN [13] 1 rfl (by kernel_rfl) ?_
 iterate 1 (refine aC rfl ?_;go_big_quiet_step (rfl))
 refine ak ?_;refine kJ 14 (by kernel_rfl) rfl ?_;clear e0 d0;have e0:=f6.at 3 rfl;have d0:=f6.frozen 3;go_wp2_with fail;rw [←hw7.out];refine iM (by rw [hw7.out];exact aj (Below.refl _ _) (Nat.le_refl _)) ?_;refine Ex [] (by kernel_rfl) ?_;refine tail_nil ?_;have RF:Below w.heap.size w w7:=by rw [hw7.out,wH.out,vY.out];exact aj (aj (aj hb4 (Nat.le_succ _)) (Nat.le_succ _)) (Nat.le_succ _)
 have hz7:w.heap.size+2≤w7.heap.size:=by rw [hw7.out,wH.out,vY.out];simp only [World.size_setCell];exact Rp
 have k7:Is w7 w.heap.size #[.int .i32 r.code,.int .i64 r.cls,.slice ma n mc] 164:=by rw [hw7.out,wH.out,vY.out];exact ((k4.put (by omega) _).put (by omega) _).put (by omega) _
 have F7:=ae f7;clear e0 d0 vY wH hw7 f4 f5 f6 f7 k4 hb4 Rp;have e2:=k7.at 2 rfl;go_wp2_with fail;clear e2 k7;go_loopw [4,6,23] (fun mv _ iv wr=>∃j:Nat,j≤n∧iv=.int .i64 j∧wr.ownsRow (w.heap.size+2) ve 1 mv j (nD ((r.map.take j).map aS))∧Below (w.heap.size+2) w7 wr) (fun _ _ iv _=>n-(intOf iv).toNat)
 case atStart=>exact ⟨0,Nat.zero_le _,rfl,World.ownsRow_nil _ _ _ _,Below.refl _ _⟩
 case round=>
  obtain ⟨j,hj,rfl,ho,hE⟩:=hrel;have hbw:Below w.heap.size w wr:=RF.trans (hE.mono (by omega));by_cases hjn:j<n
  ·have zj:decide ((j:Int)<(n:Int))=true:=by simp;omega
   have hjl:j<r.map.length:=by have:=HN.out;omega
   obtain ⟨b,off,rfl,_,hc⟩:=Xg.out j hjl;have c0:=aA hbw hc;have H1:=ae (HX.out wr hbw _ (HR.out.map _ (List.getElem_mem hjl)));have HT:=ae (show nD ((r.map.take (j+1)).map aS)=nD ((r.map.take j).map aS)++[.string (tx (aS r.map[j]))] by rw [List.take_succ_eq_append_getElem hjl,List.map_append,vg];rfl);generalize r.map[j]=c at *;have HO:=ae ho;have hs:=hE.size;clear hc ho;go_wp2_with fail;refine H1.out.mono ?_;rintro e w8 ⟨rfl,h8⟩;have o8:=aG HO.out h8;have h8s:=h8.size;clear c0 H1;go_wp2_with (refine pg (W:=w8) rfl _ _ 206 rfl (w.heap.size+2) ve _ 16 Eu u4 j _ rfl o8 (.string (tx (aS c))) rfl rfl (by omega) (by unfold maxLen;omega) w8 (Below.refl _ _) (by omega) ?_;intro v9 w9 o9 b9 _ _;have N_:=ae (show w9.ownsRow (w.heap.size+2) ve 1 v9 (j+1) (nD ((r.map.take (j+1)).map aS)) from by rw [HT.out];exact o9);clear o9);go_roundw
   case rel=>exact ⟨j+1,by omega,by simp,N_.out,hE.trans ((h8.mono (by omega)).trans b9)⟩
   case measure=>simp [intOf];omega
  ·have zj:decide ((j:Int)<(n:Int))=false:=by simp;omega
   obtain rfl:j=n:=by omega
   have htk:r.map.take j=r.map:=List.take_of_length_le (by have:=HN.out;omega);rw [htk] at ho;have HO:=ae ho;obtain ⟨mA,mC,rfl,_,_⟩:=az ho;have f8:=F7.out.low (hE) (by omega);have F8:=ae f8;have hlm:=Go.Cd.ll HR.out.len
   have J1:=ae (show Calls Tryz.prog 138 #[.slice mA j mC,.string ⟨#[32]⟩] wr fun e w'=>e=.returned (.string (tx (b_ r.map)))∧Below wr.heap.size wr w' from by
    rcases Nat.eq_zero_or_pos j with hj0|hj0
    ·subst hj0;have hm0:r.map=[]:=List.length_eq_zero_iff.1 HN.out.symm;rw [hm0];exact (Tryz.strings_Join_none mA mC ⟨#[32]⟩ wr).mono fun e w' h=>⟨h.1,h.2▸Below.refl _ _⟩
    ·have hs:=(Sl.aT HO.out).any;obtain ⟨a',cap',hv,hc2,hx⟩:=bD.out hs;injection hv with hv1 hv2 hv3;subst hv1;subst hv3;rw [nG,List.length_map] at hv2 hc2;obtain ⟨b,off,rfl,hbl,_⟩:=hx 0 (by rw [nG,List.length_map];omega)
     have:=Tryz.strings_Join b off mC (r.map.map fun c=>tx (aS c)) ⟨#[32]⟩ wr (fun k x hk=>by
      obtain ⟨hk1,hk2⟩:=List.getElem?_eq_some_iff.1 hk;rw [List.length_map] at hk1;obtain ⟨b',off',h1,_,h3⟩:=hx k (by rw [nG,List.length_map];exact hk1);injection h1 with h1;injection h1 with h1 h4;subst h1;subst h4;rw [h3,←hk2];simp [nD]) hbl (by rw [List.length_map];omega) (by rw [List.length_map];omega) (by
       rw [List.map_map];have e1:(r.map.map ((fun x:ByteArray=>x.data.toList) ∘ fun c=>tx (aS c)))=r.map.map aS:=List.map_congr_left fun c _=>df _;rw [e1];show (Lib.join (r.map.map aS) [32]).length≤_
       rw [jN,←ow];omega)
     rw [List.map_map] at this;have e1:(r.map.map ((fun x:ByteArray=>x.data.toList) ∘ fun c=>tx (aS c)))=r.map.map aS:=List.map_congr_left fun c _=>df _;rw [e1,List.length_map,←hv2] at this;have e2:(⟨(Lib.join (r.map.map aS) (⟨#[32]⟩:ByteArray).data.toList).toArray⟩:ByteArray)=tx (b_ r.map):=by
      show tx (Lib.join (r.map.map aS) [32])=_;rw [jN,←ow]
     rw [e2] at this
     exact this)
   clear ho f8;have hE2:=hE.size;go_wp2_with fail;refine J1.out.mono ?_;rintro e w8 ⟨rfl,h8⟩;have f9:=F8.out.mono h8;have e0:=f9.at 5 rfl;have d0:=f9.frozen 5;obtain ⟨w9,hw9⟩:=af (w8.setCell ⟨w.heap.size+1,5,none⟩ (.string (tx (b_ r.map))));have g9:=f9.set 5 (.string (tx (b_ r.map)));rw [←hw9] at g9;have qf:Below w.heap.size w w9:=by rw [hw9];exact aj (hbw.trans (h8.mono (by omega))) (Nat.le_succ _)
   have y9:∀k (x:ByteArray),((eX [88] r).map tx)[k]? = some x→w9.cell? ⟨w.heap.size+1,0+k,none⟩=some (.string x):=fun k x hx=>by
    have hk:k<15:=(List.getElem?_eq_some_iff.1 hx).1;rw [Nat.zero_add,g9.cell];have:k=0∨k=1∨k=2∨k=3∨k=4∨k=5∨k=6∨k=7∨k=8∨k=9∨k=10∨k=11∨k=12∨k=13∨k=14:=by omega
    rcases this with rfl|rfl|rfl|rfl|rfl|rfl|rfl|rfl|rfl|rfl|rfl|rfl|rfl|rfl|rfl <;> (cases hx;rfl)
   have hnl:=NU (nm:=[88]) (r:=r) ⟨by simp,by unfold dQ;decide⟩ HR.out.cls HR.out.len;have e1:((eX [88] r).map tx).map (fun x=>x.data.toList)=eX [88] r:=by
    rw [List.map_map];have:(fun x:ByteArray=>x.data.toList) ∘ tx=id:=by funext x;exact df x
    rw [this,List.map_id]
   have J2:=Tryz.strings_Join (w.heap.size+1) 0 15 ((eX [88] r).map tx) ⟨#[59]⟩ w9 y9 g9.lt (by simp [eX]) (by simp [eX]) (by
    rw [e1];show (Lib.join (eX [88] r) [59]).length≤_;rw [jN]
    exact Nat.le_trans hnl (by decide))
   rw [e1] at J2;have e2:(⟨(Lib.join (eX [88] r) (⟨#[59]⟩:ByteArray).data.toList).toArray⟩:ByteArray)=tx (dL [88] r):=by
    show tx (Lib.join (eX [88] r) [59])=_;rw [jN];rfl
   rw [e2] at J2;have J2:Hid (Calls Tryz.prog 138 #[.slice (some ⟨w.heap.size+1,0,none⟩) 15 15,.string ⟨#[59]⟩] w9 fun e w'=>e=.returned (.string (tx (dL [88] r)))∧Below w9.heap.size w9 w'):=ae J2;have HW:=ae hw9;clear hw9 g9 y9 e1 e2 hnl f9;go_wp2_with fail;rw [←HW.out];refine J2.out.mono ?_;rintro e wz ⟨rfl,hz⟩;go_wp2;go_ret;exact ⟨rfl,ag qf hz⟩
end Go.Proofs.YtjidohgiigjifaaGreatDoor
end
namespace Go.Proofs.YtjidohgiigjifaaGreatDoor
section
open Go.RowKit Go.Cd Go.Shelf
section
variable {P : Program} {ops : Array Oper} {Q : Exit → Act → World → Prop} {a : Act} {w w' : World} {rest : List Oper} {o : Oper} {v : Value}
theorem xV (hg:o.guard=none) (h:(execOp a.eval o).run P w=.ok (.value v) w') (hn:wpList P ops Q rest (a.put o.dst v) w'):wpList P ops Q (o::rest) a w:=
 wpList_plain hg fun K hK=>by unfold Oper.wp;rw [h];exact hK _ _ hn
end
theorem rV {P:Program} {s:Sem Value} {w w':World} {v:Value} (h:s.run P w=.ok v w'):((do pure (Next.value (←s))):Sem Next).run P w=.ok (.value v) w':=by
 show (Sem.bind _ _).run P w=_;rw [Sem.run_bind',h];rfl
def l_:Nat→List aF→List (Option Nat×Op×Option (Nat×Bool))
 | _,[]=>[]
 | t,⟨c,k,[]⟩::T=>(some t,.build 164 #[(0,.const (.int .i32 (c:Nat))),(1,.const (.int .i64 (k:Nat)))],none)::l_ (t+1) T
 | t,⟨c,k,x::m⟩::T=>(some t,.buildSlice 39 (m.length+1) (((x::m).zipIdx.map fun y=>(y.2,.const (.int .i32 (y.1:Nat)))).toArray),none)::
    (some (t+1),.build 164 #[(0,.const (.int .i32 (c:Nat))),(1,.const (.int .i64 (k:Nat))),(2,.tmp t)],none)::l_ (t+2) T
def Xh (o:Oper):Option Nat×Op×Option (Nat×Bool):=(o.dst,o.op,o.guard)
def jO:Nat→List aF→List (aF×Value)
 | _,[]=>[]
 | n,⟨c,k,[]⟩::T=>(⟨c,k,[]⟩,.slice none 0 0)::jO n T
 | n,⟨c,k,x::m⟩::T=>(⟨c,k,x::m⟩,.slice (some ⟨n,0,none⟩) (m.length+1) (m.length+1))::jO (n+1) T
def Io:Nat→Nat→List aF→Act→Act
 | _,_,[],a=>a
 | t,n,⟨c,k,[]⟩::T,a=>Io (t+1) n T (a.put (some t) (.agg #[.int .i32 (c:Nat),.int .i64 (k:Nat),.slice none 0 0]))
 | t,n,⟨c,k,_::m⟩::T,a=>Io (t+2) (n+1) T ((a.put (some t) (.slice (some ⟨n,0,none⟩) (m.length+1) (m.length+1))).put (some (t+1)) (.agg #[.int .i32 (c:Nat),.int .i64 (k:Nat),.slice (some ⟨n,0,none⟩) (m.length+1) (m.length+1)]))
def iB:List aF→World→World
 | [],w=>w
 | ⟨_,_,[]⟩::T,w=>iB T w
 | ⟨_,_,x::m⟩::T,w=>iB T (w.alloc (.cells (aN (x::m)).toArray aM))
theorem U9 (c k:Int) (a:Option Addr) (n m:Nat) (w:World):(Instr.build 164 #[(0,.int .i32 c),(1,.int .i64 k),(2,.slice a n m)]).run Tryz.prog w=.ok (.agg #[.int .i32 c,.int .i64 k,.slice a n m]) w:=by kernel_rfl
theorem U_ (c k:Int) (w:World):(Instr.build 164 #[(0,.int .i32 c),(1,.int .i64 k)]).run Tryz.prog w=.ok (.agg #[.int .i32 c,.int .i64 k,.slice none 0 0]) w:=by kernel_rfl
theorem aci (x:Int) (w:World):(Instr.buildSlice 39 1 #[(0,.int .i32 x)]).run Tryz.prog w=.ok (.slice (some ⟨w.heap.size,0,none⟩) 1 1) (w.alloc (.cells #[.int .i32 x] aM)):=by kernel_rfl
theorem acj (x y:Int) (w:World):(Instr.buildSlice 39 2 #[(0,.int .i32 x),(1,.int .i32 y)]).run Tryz.prog w=.ok (.slice (some ⟨w.heap.size,0,none⟩) 2 2) (w.alloc (.cells #[.int .i32 x,.int .i32 y] aM)):=by kernel_rfl
theorem jw:∀(T:List aF) (w:World),Below w.heap.size w (iB T w)
 | [],_=>Below.refl _ _
 | ⟨_,_,[]⟩::T,w=>jw T w
 | ⟨_,_,_::_⟩::T,_=>ag (ai _) (jw T _)
theorem uj:∀(n:Nat) (T:List aF),(jO n T).map (·.1)=T
 | _,[]=>rfl
 | n,⟨c,k,[]⟩::T=>by simp [jO,uj n T]
 | n,⟨c,k,x::m⟩::T=>by simp [jO,uj (n+1) T]
theorem Ip (w:World) (cs:Array Value) (e:TypeId):Sl e (w.alloc (.cells cs e)) (.slice (some ⟨w.heap.size,0,none⟩) cs.size cs.size) cs.toList:=
 ⟨_,cs.size,by simp,by simp,.inr ⟨w.heap.size,0,cs,(0,0),rfl,heap_alloc_new _ _,fun i hi=>by
   rw [Nat.zero_add,←Array.getElem?_toList];exact List.getElem?_eq_getElem hi⟩⟩
theorem xW:∀(T:List aF) (w:World),∀q∈jO w.heap.size T,Sl aM (iB T w) q.2 (aN q.1.map)
 | [],w,q,hq=>by simp [jO] at hq
 | ⟨c,k,[]⟩::T,w,q,hq=>by
   rcases List.mem_cons.1 hq with rfl|hq
   ·exact ⟨none,0,rfl,Nat.le_refl _,.inl ⟨rfl,fun _=>rfl⟩⟩
   ·exact xW T w q hq
 | ⟨c,k,x::m⟩::T,w,q,hq=>by
   have h0:(w.alloc (.cells (aN (x::m)).toArray aM)).heap.size=w.heap.size+1:=World.size_alloc _ _;rcases List.mem_cons.1 hq with rfl|hq
   ·have:=Ip w (aN (x::m)).toArray aM;have e:(aN (x::m)).toArray.size=m.length+1:=by simp [aN]
    rw [e] at this;exact this.mono (jw T _)
   ·exact xW T (w.alloc (.cells (aN (x::m)).toArray aM)) q (by rw [h0];exact hq)
theorem Cu {a:Act} {t:Nat} {v:Value} (h:t<a.tmps.size):(a.put (some t) v).eval (.tmp t)=v:=by
 show (a.tmps.setIfInBounds t v).getD t undef=v;simp [Array.getD,h]
theorem jP {a:Act} {t:Nat} {v:Value}:(a.put (some t) v).tmps.size=a.tmps.size:=by
 show (a.tmps.setIfInBounds t v).size=_;simp
def xX:List aF→Nat
 | []=>0
 | ⟨_,_,[]⟩::T=>xX T+1
 | ⟨_,_,_::_⟩::T=>xX T+2
theorem uk {ops:Array Oper} {Q:Exit→Act→World→Prop} {rest:List Oper}:∀(T:List aF) (t:Nat) (l:List Oper) (a:Act) (w:World),(∀r∈T,r.map.length≤2)→l.map Xh=l_ t T→t+xX T≤a.tmps.size→
 wpList Tryz.prog ops Q rest (Io t w.heap.size T a) (iB T w)→wpList Tryz.prog ops Q (l++rest) a w
 | [],t,l,a,w,_,hl,_,h=>by
   have:l=[]:=List.map_eq_nil_iff.1 hl;subst this;exact h
 | ⟨c,k,[]⟩::T,t,l,a,w,hm,hl,hs,h=>by
   rcases l with _|⟨o,l⟩
   ·simp [l_] at hl
   ·simp only [l_,List.map_cons,List.cons.injEq] at hl;obtain ⟨ho,hl⟩:=hl;simp only [Xh,Prod.mk.injEq] at ho;obtain ⟨h1,h2,h3⟩:=ho;simp only [xX] at hs;refine xV (v:=.agg #[.int .i32 (c:Nat),.int .i64 (k:Nat),.slice none 0 0]) (w':=w) h3 ?_ ?_
    ·have e:execOp a.eval o=(do pure (.value (←Instr.build 164 #[(0,.int .i32 (c:Nat)),(1,.int .i64 (k:Nat))]))):=by simp only [execOp,h2,List.map_toArray,List.map_cons,List.map_nil];rfl
     rw [e];exact rV (U_ _ _ _)
    ·rw [h1];exact uk T (t+1) l _ w (fun r hr=>hm r (by simp [hr])) hl (by rw [jP];omega) h
 | ⟨c,k,x::m⟩::T,t,l,a,w,hm,hl,hs,h=>by
   rcases l with _|⟨o,_|⟨o',l⟩⟩
   ·simp [l_] at hl
   ·simp [l_] at hl
   ·simp only [l_,List.map_cons,List.cons.injEq] at hl;obtain ⟨ho,ho',hl⟩:=hl;simp only [Xh,Prod.mk.injEq] at ho ho';obtain ⟨h1,h2,h3⟩:=ho;obtain ⟨h1',h2',h3'⟩:=ho';simp only [xX] at hs;have hm2:m.length+1≤2:=hm _ List.mem_cons_self;refine xV (v:=.slice (some ⟨w.heap.size,0,none⟩) (m.length+1) (m.length+1)) (w':=w.alloc (.cells (aN (x::m)).toArray aM)) h3 ?_ ?_
    ·rcases m with _|⟨y,_|⟨z,m⟩⟩
     ·have e:execOp a.eval o=(do pure (.value (←Instr.buildSlice 39 1 #[(0,.int .i32 (x:Nat))]))):=by simp only [execOp,h2,List.map_toArray,List.map_cons,List.map_nil,List.zipIdx_cons,List.zipIdx_nil];rfl
      rw [e];exact rV (aci _ _)
     ·have e:execOp a.eval o=(do pure (.value (←Instr.buildSlice 39 2 #[(0,.int .i32 (x:Nat)),(1,.int .i32 (y:Nat))]))):=by simp only [execOp,h2,List.map_toArray,List.map_cons,List.map_nil,List.zipIdx_cons,List.zipIdx_nil];rfl
      rw [e];exact rV (acj _ _ _)
     ·simp at hm2
    ·rw [h1];refine xV (v:=.agg #[.int .i32 (c:Nat),.int .i64 (k:Nat),.slice (some ⟨w.heap.size,0,none⟩) (m.length+1) (m.length+1)]) (w':=w.alloc (.cells (aN (x::m)).toArray aM)) h3' ?_ ?_
     ·have e:execOp (a.put (some t) (.slice (some ⟨w.heap.size,0,none⟩) (m.length+1) (m.length+1))).eval o'=(do pure (.value (←Instr.build 164 #[(0,.int .i32 (c:Nat)),(1,.int .i64 (k:Nat)),(2,(a.put (some t) (.slice (some ⟨w.heap.size,0,none⟩) (m.length+1) (m.length+1))).eval (.tmp t))]))):=by simp only [execOp,h2',List.map_toArray,List.map_cons,List.map_nil];rfl
      rw [e,Cu (by omega)];exact rV (U9 _ _ _ _ _ _)
     ·rw [h1'];have:=World.size_alloc w (.cells (aN (x::m)).toArray aM);refine uk T (t+2) l _ _ (fun r hr=>hm r (by simp [hr])) hl (by rw [jP,jP];omega) ?_;rw [this];exact h
def Iq (L:List (aF×Value)):Array (Nat×Value):=(L.zipIdx.map fun x=>(x.2,Value.agg (dB x.1).toArray)).toArray
theorem Oa (n:Nat) (w:World):(Instr.buildSlice 123 121 (Iq (jO n dP))).run Tryz.prog w=.ok (.slice (some ⟨w.heap.size,0,none⟩) 121 121) (w.alloc (.cells ((jO n dP).flatMap dB).toArray fE)):=by kernel_rfl
def slotL:Nat→List aF→List Nat
 | _,[]=>[]
 | t,⟨_,_,[]⟩::T=>t::slotL (t+1) T
 | t,⟨_,_,_::_⟩::T=>(t+1)::slotL (t+2) T
def Ob:List (Nat×Operand):=(slotL 1 dP).zipIdx.map fun x=>(x.2,.tmp x.1)
def K_:Act:=⟨(Array.replicate 215 undef).setIfInBounds 0 (.slice none 0 0),[]⟩
theorem parts_eval (n:Nat):(Ob.map fun x=>(x.1,(Io 1 n dP K_).eval x.2)).toArray=Iq (jO n dP):=by kernel_rfl
theorem um:∀(T:List aF) (t n:Nat) (a:Act),(Io t n T a).tmps.size=a.tmps.size∧(Io t n T a).defers=a.defers
 | [],_,_,_=>⟨rfl,rfl⟩
 | ⟨c,k,[]⟩::T,t,n,a=>by
   have:=um T (t+1) n (a.put (some t) (.agg #[.int .i32 (c:Nat),.int .i64 (k:Nat),.slice none 0 0]));exact ⟨this.1.trans jP,this.2⟩
 | ⟨c,k,x::m⟩::T,t,n,a=>by
   have:=um T (t+2) (n+1) ((a.put (some t) (.slice (some ⟨n,0,none⟩) (m.length+1) (m.length+1))).put (some (t+1)) (.agg #[.int .i32 (c:Nat),.int .i64 (k:Nat),.slice (some ⟨n,0,none⟩) (m.length+1) (m.length+1)]));exact ⟨this.1.trans (jP.trans jP),this.2⟩
theorem Cv {ops:Array Oper} {Q:Exit→Act→World→Prop} {w:World} (h1:(ops.toList.take 213).map Xh=l_ 1 dP)
 (h2:(ops.toList.drop 213).map Xh=[(some 214,.buildSlice 123 121 Ob.toArray,none),(some 0,.assign (.tmp 214),none)])
 (h:∀a,a.defers=[]→a.eval (.tmp 0)=.slice (some ⟨(iB dP w).heap.size,0,none⟩) 121 121→Q .normal a ((iB dP w).alloc (.cells ((jO w.heap.size dP).flatMap dB).toArray fE))) :
 wpList Tryz.prog ops Q ops.toList K_ w:=by
 rw [←List.take_append_drop 213 ops.toList];generalize ops.toList.drop 213=l2 at *;refine uk dP 1 _ _ w (by decide) h1 (by decide) ?_;rcases l2 with _|⟨o,_|⟨o',_|⟨_,_⟩⟩⟩
 ·simp at h2
 ·simp at h2
 ·simp only [List.map_cons,List.map_nil,List.cons.injEq,and_true] at h2;obtain ⟨ho,ho'⟩:=h2;simp only [Xh,Prod.mk.injEq] at ho ho';obtain ⟨g1,g2,g3⟩:=ho;obtain ⟨g1',g2',g3'⟩:=ho';have hsz:=um dP 1 w.heap.size K_;have hpe:=parts_eval w.heap.size;have ack:K_.tmps.size=215:=by decide
  have h0:K_.defers=[]:=rfl;rw [ack,h0] at hsz;generalize Io 1 w.heap.size dP K_=A at *;have hlr:=Oa w.heap.size (iB dP w);generalize Iq (jO w.heap.size dP)=PX at *;generalize ((jO w.heap.size dP).flatMap dB).toArray=CX at *;generalize iB dP w=W at *;refine xV (v:=.slice (some ⟨W.heap.size,0,none⟩) 121 121) g3 (w':=W.alloc (.cells CX fE)) ?_ ?_
  ·have e:execOp A.eval o=(do pure (.value (←Instr.buildSlice 123 121 PX))):=by
    simp only [execOp,g2,List.map_toArray];rw [←hpe]
   rw [e];exact rV hlr
  ·rw [g1];refine xV (v:=.slice (some ⟨W.heap.size,0,none⟩) 121 121) g3' (w':=W.alloc (.cells CX fE)) ?_ ?_
   ·have hp:(A.put (some 214) (.slice (some ⟨W.heap.size,0,none⟩) 121 121)).eval (.tmp 214)=_:=Cu (by rw [hsz.1];decide);simp only [execOp,g2',hp];rfl
   ·rw [g1'];exact h _ hsz.2 (Cu (by rw [jP,hsz.1];decide))
 ·simp at h2
theorem Ir {w:World} :
 Calls Tryz.prog 92 #[] w fun e w'=>e=.returned (.slice (some ⟨(iB dP w).heap.size,0,none⟩) 121 121)∧w'=(iB dP w).alloc (.cells ((jO w.heap.size dP).flatMap dB).toArray fE):=by
 go_enter Tryz.func92,Tryz.ntmps92;go_upto_region 1 with fail;refine wp_region_list ?_;refine Cv (by kernel_rfl) (by kernel_rfl) ?_;intro a hd he;go_wp2;refine bodyPost_ret (results_tmp rfl _ _ _) hd ?_;exact ⟨congrArg _ he,rfl⟩
end
section
open Go.RowKit Go.Cd Go.Shelf
def qx:Array Value:=#[.int .i32 44032,.int .i32 55203,.string (tx [72,97,110,103,117,108,32,83,121,108,108,97,98,108,101]),.int .i32 55296,.int .i32 56191,.string (tx [78,111,110,32,80,114,105,118,97,116,101,32,85,115,101,32,72,105,103,104,32,83,117,114,114,111,103,97,116,101]),.int .i32 57344,.int .i32 63743,.string (tx [80,114,105,118,97,116,101,32,85,115,101])]
theorem Oc {w:World}:Calls Tryz.prog 91 #[] w fun e w'=>e=.returned (.slice (some ⟨w.heap.size,0,none⟩) 3 3)∧w'=w.alloc (.cells qx 166):=by
 go_enter Tryz.func91,Tryz.ntmps91;go_wp2;go_ret;exact ⟨rfl,rfl⟩
theorem Cw {w w':World} {b k:Nat} {cs:Array Value} {T:TypeId} (h:Is w k cs T) (ho:Lib.OthersKept 5 (some b) w w') (hk:k≠b) (hT:T≠5):Is w' k cs T:=
 ⟨ho _ _ h.at_ (by simpa using hk) (fun c fz e=>hT (by injection e))⟩
theorem Cx {w w':World} {b:Nat} {v:Value} {xs:List Value} {cs:Array Value} {T:TypeId} {e:TypeId} (h:Sl e w v xs) (ho:Lib.OthersKept 5 (some b) w w') (hb:w.heap[b]? = some (.cells cs T (0,0))) (hT:e≠T) (he:e≠5):Sl e w' v xs:=by
 obtain ⟨a,cap,hv,hc,h⟩:=h;refine ⟨a,cap,hv,hc,h.imp id ?_⟩;rintro ⟨b',off,cs',fr,ha,hh,hx⟩;refine ⟨b',off,cs',fr,ha,ho _ _ hh ?_ (fun c fz e1=>he (by injection e1)),hx⟩;intro e1;injection e1 with e1;subst e1;rw [hb] at hh;injection hh with hh;injection hh with _ hh;exact hT hh.symm
structure Od (w0:World) (L:List (aF×Value)) (sb tb:Nat) (w:World) (out:List UInt8):Prop where
 Ur:l5 w0.heap.size w0.heap.size out w
 sp:Is w sb qx 166
 tab:Is w tb (L.flatMap dB).toArray fE
 maps:∀q∈L,Sl aM w q.2 (aN q.1.map)
 below:Below w0.heap.size w0 w
section
variable {w0 w w' : World} {L : List (aF × Value)} {sb tb : Nat} {out : List UInt8}
theorem Od.size (h:Od w0 L sb tb w out):w0.heap.size≤w.heap.size:=h.below.size
theorem Od.mono (h:Od w0 L sb tb w out) (hb:Below w.heap.size w w'):Od w0 L sb tb w' out:=
 ⟨h.Ur.below hb,h.sp.mono hb,h.tab.mono hb,fun q hq=>(h.maps q hq).mono hb,ag h.below (hb.mono (Nat.le_refl _))⟩
theorem Od.write (h:Od w0 L sb tb w out) (hs:sb≠w0.heap.size) (ht:tb≠w0.heap.size) {s:List UInt8} (hb:l5 w0.heap.size w0.heap.size (out++s) w') (hB:Below w0.heap.size w w') (ho:Lib.OthersKept 5 (some w0.heap.size) w w'):Od w0 L sb tb w' (out++s):=by
 obtain ⟨v,hv⟩:∃v:Array Value,w.heap[w0.heap.size]? = some (.cells v 159 (0,0)):=by
  rcases h.Ur with ⟨_,v,hv,_⟩|⟨_,v,hv,_⟩ <;> exact ⟨_,hv⟩
 exact ⟨hb,Cw h.sp ho hs (by decide),Cw h.tab ho ht (by decide),fun q hq=>Cx (h.maps q hq) ho hv (by decide) (by decide),h.below.trans hB⟩
end
theorem xY:∀s∈eu,s.2.2.length≤100:=by decide
theorem RH:∀k (hk:k<3),qx[k*3]? = some (.int .i32 ((eu[k]'hk).1:Nat))∧qx[k*3+1]? = some (.int .i32 ((eu[k]'hk).2.1:Nat))∧qx[k*3+2]? = some (.string (tx (eu[k]'hk).2.2))∧(eu[k]'hk).1<1114112∧(eu[k]'hk).2.1<1114112∧(eu[k]'hk).2.2.length≤100
 | 0,_=>⟨rfl,rfl,rfl,(by decide:44032<1114112),(by decide:55203<1114112),xY _ (List.getElem_mem _)⟩
 | 1,_=>⟨rfl,rfl,rfl,(by decide:55296<1114112),(by decide:56191<1114112),xY _ (List.getElem_mem _)⟩
 | 2,_=>⟨rfl,rfl,rfl,(by decide:57344<1114112),(by decide:63743<1114112),xY _ (List.getElem_mem _)⟩
def Oe:Value→Nat
 | .slice _ n _=>n
 | _=>0
theorem l5.block {B b:Nat} {l:List UInt8} {w:World} (h:l5 B b l w):∃v:Array Value,w.heap[b]? = some (.cells v 159 (0,0)):=by
 rcases h with ⟨_,v,hv,_⟩|⟨_,v,hv,_⟩ <;> exact ⟨_,hv⟩
theorem aa5 (c:Nat) (nm e:List UInt8) (h1:nm.length≤100) (h2:e.length≤100):(rU c nm e).length≤300:=by
 have:=(bJ c).2;unfold rU;simp only [List.length_append,List.length_cons,List.length_nil];omega
theorem l5.new {w:World}:l5 w.heap.size w.heap.size [] (w.alloc (.cells #[.pointer none,.slice none 0 0] 159)):=
 .inl ⟨Nat.le_refl _,.slice none 0 0,heap_alloc_new _ _,World.ownsRowF_of (World.ownsRow_nil _ _ _ _),by simp [Value.ownBlock]⟩
theorem La {w:World} (hG:bZ w) :
 Calls Tryz.prog 59 #[] w fun e w'=>e=.returned (.string (tx (vX dP 0)))∧Below w.heap.size w w':=by
 have Og:=ae (fun (W:World) (E:Below w.heap.size w W)=>hG.mono E);obtain ⟨w1,hw1⟩:=af (w.alloc (.cells #[.pointer none,.slice none 0 0] 159));have hb1:Below w.heap.size w w1:=by rw [hw1];exact ai _
 have u1:l5 w.heap.size w.heap.size [] w1:=by rw [hw1];exact l5.new
 have hz1:w1.heap.size=w.heap.size+1:=by rw [hw1];simp
 have SP:=ae (Oc (w:=w1));have TB:=ae (fun W=>Ir (w:=W));clear hG;go_enter Tryz.func59,Tryz.ntmps59;go_wp2_with fail;rw [←hw1];clear hw1;refine SP.out.mono ?_;rintro e w2 ⟨rfl,hw2⟩;have hb2:Below w1.heap.size w1 w2:=by rw [hw2];exact ai _
 have s2:Is w2 w1.heap.size qx 166:=by rw [hw2];exact Is.new _ _ _
 have hz2:w2.heap.size=w1.heap.size+1:=by rw [hw2];simp
 clear hw2 SP;go_wp2_with fail;refine (TB.out w2).mono ?_;rintro e w3 ⟨rfl,hw3⟩;obtain ⟨L,hL⟩:=af (jO w2.heap.size dP);obtain ⟨tb,htb⟩:=af ((iB dP w2).heap.size);obtain ⟨sb,hsb⟩:=af (w.heap.size+1);have hLf:L.map (·.1)=dP:=by rw [hL];exact uj _ _
 have hbw:Below w2.heap.size w2 (iB dP w2):=jw _ _;have hb3:Below w2.heap.size w2 w3:=by rw [hw3];exact ag hbw (ai _)
 have X3:Od w L sb tb w3 []:=by
  refine ⟨(u1.below hb2).below hb3,(show Is w2 sb qx 166 by rw [hsb,←hz1];exact s2).mono hb3,?_,?_,ag hb1 (ag hb2 hb3)⟩
  ·rw [hw3,←hL,htb];exact Is.new _ _ _
  ·intro q hq;have:=xW dP w2 q (hL▸hq);rw [hw3];exact this.mono (ai _)
 have htw:tb≠w.heap.size:=by have:=hbw.size;omega
 have hsw:sb≠w.heap.size:=by omega
 rw [←htb,←hsb];have Va:Hid (∃tot,tot=vX dP 0∧tot.length<10000):=ae ⟨_,rfl,by rw [Ct];exact N8⟩;clear hw3 hL htb hsb hbw hb1 hb2 hb3 u1 s2 hz1 hz2 TB;go_wp2_with fail;go_loopw [2,4,8] (fun lv _ jv wr=>∃(j k:Nat) (out:List UInt8) (a:Option Addr),j≤121∧jv=.int .i64 j∧k≤3∧lv=.slice a (3-k) (3-k)∧(k<3→a=some ⟨sb,k*3,none⟩)∧Od w L sb tb wr out∧out++vX (dP.drop j) k=vX dP 0) (fun _ _ jv _=>121-(intOf jv).toNat)
 case atStart=>exact ⟨0,0,[],_,by omega,rfl,by omega,rfl,fun _=>rfl,X3,rfl⟩
 case round=>
  clear X3;obtain ⟨j,k,out,a,hj,rfl,hk,rfl,hka,hX,hout⟩:=hrel;by_cases hjn:j<121
  ·have zj:decide ((j:Int)<121)=true:=by simp;omega
   have hjL:j<L.length:=by have:=congrArg List.length hLf;rw [List.length_map] at this;rw [this];exact hjn
   have hjR:j<dP.length:=hjn;have Vb:L[j].1=dP[j]:=by simp [←hLf]
   have hfl:=qZ dB 3 xE L j hjL;have e0:=hX.tab.at (j*3) (show (L.flatMap dB).toArray[j*3]? = some (.int .i32 (L[j].1.code:Nat)) by have:=hfl 0 (by decide);simpa [dB] using this);have e1:=hX.tab.at (j*3+1) (show (L.flatMap dB).toArray[j*3+1]? = some (.int .i64 (L[j].1.cls:Nat)) by have:=hfl 1 (by decide);simpa [dB] using this);have e2:=hX.tab.at (j*3+2) (show (L.flatMap dB).toArray[j*3+2]? = some L[j].2 by have:=hfl 2 (by decide);simpa [dB] using this);have hms:=hX.maps _ (List.getElem_mem hjL);rw [Vb] at e0 e1 hms;have hd:dP.drop j=dP[j]::dP.drop (j+1):=List.drop_eq_getElem_cons hjR;have jQ:=JZ _ (List.getElem_mem hjR);rw [hd] at hout;generalize dP[j]=r at *;obtain ⟨ma,mc,hmv,_,_⟩:=id hms;rw [hmv] at e2 hms;obtain ⟨ml,ko⟩:=af ((aN r.map).length);rw [←ko] at e2 hms;have HMS:=ae hms;clear hfl hd Vb hmv ko hms;have hro:xA r:=⟨jQ.1.1,jQ.2.1,jQ.2.2.1,fun c hc=>((jQ.2.2.2.2 c hc).2).1⟩;have Xi:=ae hro;obtain ⟨w4,hw4⟩:=af (wr.alloc (.cells #[.int .i32 (r.code:Nat),.int .i64 (r.cls:Nat),.slice ma ml mc] fE));have hb4:Below wr.heap.size wr w4:=by rw [hw4];exact ai _
   have p4:Is w4 wr.heap.size #[.int .i32 (r.code:Nat),.int .i64 (r.cls:Nat),.slice ma ml mc] fE:=by rw [hw4];exact Is.new _ _ _
   have X4:=hX.mono hb4
   have hrw:wr.heap.size≠w.heap.size:=by have:=hX.Ur;have:w.heap.size<wr.heap.size:=by rcases this with ⟨_,v,hv,_⟩|⟨_,v,hv,_⟩ <;> exact block_lt hv
                                         omega
   have Yj:=ae (HMS.out.mono hb4);have hcode:=hro.code;clear jQ hro hX HMS;go_wp2_with fail;rw [←hw4];obtain ⟨rb,hrb⟩:=af wr.heap.size;rw [←hrb] at p4 hrw ⊢;clear hw4 e0 e1 e2 hb4 hrb;go_loopw [2] (fun lv w5=>∃(k:Nat) (out:List UInt8) (a:Option Addr),k≤3∧lv=.slice a (3-k) (3-k)∧(k<3→a=some ⟨sb,k*3,none⟩)∧Od w L sb tb w5 out∧out++vX (r::dP.drop (j+1)) k=vX dP 0∧Is w5 rb #[.int .i32 (r.code:Nat),.int .i64 (r.cls:Nat),.slice ma ml mc] fE∧Sl aM w5 (.slice ma ml mc) (aN r.map)) (fun lv _=>Oe lv)
   case atStart=>exact ⟨k,out,a,hk,rfl,hka,X4,hout,p4,Yj.out⟩
   case round=>
    clear X4 p4 Yj hout hka hk;obtain ⟨k,out,a,hk,rfl,hka,hX,hout,p5,hms⟩:=hrel;have Lb:=ae hms;clear hms;have f0:=p5.at 0 rfl;have f1:=p5.at 1 rfl;have f2:=p5.at 2 rfl;by_cases hk3:k<3
    ·obtain rfl:=hka hk3;obtain ⟨s0,s1,s2,q1,q2,q3⟩:=RH k hk3;have c0:=hX.sp.at _ s0;have c1:=hX.sp.at _ s1;have c2:=hX.sp.at _ s2;have zn:decide ((0:Int)<((3-k:Nat):Int))=true:=by simp;omega
     have hn1:1≤3-k:=by omega
     have hsp:=N7 (r:=r) (T:=dP.drop (j+1)) (k:=k) hk3;have hrow:=J6 (r:=r) (T:=dP.drop (j+1)) (k:=k);obtain ⟨sp,Vd⟩:=af (eu[k]);have hrow':¬sp.1<r.code→vX (r::dP.drop (j+1)) k=(dL [88] r++[10])++vX (dP.drop (j+1)) k:=fun h=>hrow (fun _=>Vd▸h);rw [←Vd] at c0 c1 c2 q1 q2 q3 hsp;clear s0 s1 s2 Vd hrow;by_cases hlt:sp.1<r.code
     ·have zc:decide ((sp.1:Int)<(r.code:Int))=true:=by simp;omega
      obtain ⟨n,hn⟩:=af (3-k);rw [←hn] at zn hn1 ⊢;have HN:=ae hn;have zn2:decide (0<n)=true:=by simp;omega
      clear hn;go_upto_region 6 with fail;have g0:=Gr.cell (ah wr) c0;have g1:=Gr.cell (ah wr) f0;refine aD (Array.replicate 12 true) 12 0 mixed (by rfl) ?_;refine ay [0,1,2,3,4,5,6,7,8,9,10,11] 0 rfl (by kernel_rfl) ?_
      iterate 12 (refine aC rfl ?_;go_big_quiet_step (rfl))
      refine ak ?_;refine aI [] (by kernel_rfl) ?_;refine tail_nil ?_;clear g0 g1;have X5:=hX.mono (ah wr);have p6:=p5.mono (ah wr);have E9:=ae (Lb.out.mono (ah wr));have g0:=Gr.cell (ah wr.drew) (aA (ah wr) c0);have g1:=Gr.cell (ah wr.drew) (aA (ah wr) c1);have g2:=Gr.cell (ah wr.drew) (aA (ah wr) c2);clear hX p5 Lb c0 c1 c2 f0 f1 f2;generalize wr.drew=w5 at *;go_upto_region 7 with fail;have SL:Hid (∀(W:World),Below w.heap.size w W→Calls Tryz.prog 94 #[.agg #[.int .i32 (sp.1:Nat),.int .i32 (sp.2.1:Nat),.string (tx sp.2.2)],.int .i32 (sp.1:Nat),.string ⟨#[70,105,114,115,116]⟩] W fun e' w'=>e'=.returned (.string (tx (rU sp.1 sp.2.2 [70,105,114,115,116])))∧Below W.heap.size W w'):=
       ae fun W E=>vE (Og.out W E) sp.1 q1 _ _ sp.2.2 [70,105,114,115,116] q3 (by decide)
      have SM:Hid (∀(W:World),Below w.heap.size w W→Calls Tryz.prog 94 #[.agg #[.int .i32 (sp.1:Nat),.int .i32 (sp.2.1:Nat),.string (tx sp.2.2)],.int .i32 (sp.2.1:Nat),.string ⟨#[76,97,115,116]⟩] W fun e' w'=>e'=.returned (.string (tx (rU sp.2.1 sp.2.2 [76,97,115,116])))∧Below W.heap.size W w'):=
       ae fun W E=>vE (Og.out W E) sp.2.1 q2 _ _ sp.2.2 [76,97,115,116] q3 (by decide)
      have hl1:(tx (rU sp.1 sp.2.2 [70,105,114,115,116])).size≤300:=by rw [bn];exact aa5 _ _ _ q3 (by decide)
      have hl2:(tx (rU sp.2.1 sp.2.2 [76,97,115,116])).size≤300:=by rw [bn];exact aa5 _ _ _ q3 (by decide)
      have HST:=ae (show tx (rU sp.1 sp.2.2 [70,105,114,115,116])++tx (rU sp.2.1 sp.2.2 [76,97,115,116])=tx (Ba sp) by rw [cZ];rfl);generalize tx (rU sp.1 sp.2.2 [70,105,114,115,116])=t1 at *;generalize tx (rU sp.2.1 sp.2.2 [76,97,115,116])=t2 at *;have hlo:out.length+(Ba sp).length≤1000000:=by
       obtain ⟨tot,h1,h2⟩:=Va.out;rw [hsp hlt,←h1] at hout;have:=congrArg List.length hout;simp only [List.length_append] at this;omega
      refine aD #[true,true,true,true,true,true,true,true,true,true,true,true,true,true,true,true,true,false] 17 1 mixed (by rfl) ?_;refine ay [0,1,2,3,4,5,6,8,9,10,11,12,13,14] 3 rfl (by kernel_rfl) ?_
      iterate 14 (refine aC rfl ?_;go_big_quiet_step (rfl))
      refine ak ?_;refine aL 7 (by kernel_rfl) rfl ?_;clear g0 g1 g2;have X6:=X5.mono (ah w5);have p7:=p6.mono (ah w5);have Yk:=ae (E9.out.mono (ah w5));clear X5 p6 E9;generalize w5.drew=w6 at *;go_wp2_with fail;refine (SL.out _ X6.below).mono ?_;rintro e w7 ⟨rfl,h7⟩;go_wp2_with fail;refine aH h7 ?_;refine aL 15 (by kernel_rfl) rfl ?_;go_wp2_with fail;refine (SM.out _ (X6.mono h7).below).mono ?_;rintro e w8 ⟨rfl,h8⟩;go_wp2_with fail;refine aH h8 ?_;refine ay [16] 0 rfl (by kernel_rfl) ?_
      iterate 1 (refine aC rfl ?_;go_big_quiet_step (rfl))
      refine ak ?_;refine aI [17] (by kernel_rfl) ?_;refine ug (os:=[_]) rfl ?_;have X8:=X6.mono (ag h7 h8);have p8:=p7.mono (ag h7 h8);have Yl:=ae (Yk.out.mono (ag h7 h8));have WS:=ae (gP X8.Ur (Ba sp) hlo X8.size);rw [←HST.out] at WS;go_wp2_with fail;refine WS.out.mono ?_;rintro e w9 ⟨rfl,qf,sV,Lc⟩;obtain ⟨bv,hbv⟩:=X8.Ur.block;have X9:=X8.write hsw htw qf sV Lc;have p9:=Cw p8 Lc hrw (by decide);have Ym:=ae (Cx Yl.out Lc hbv (by decide) (by decide));clear X6 p7 Yk h7 h8 X8 p8 Yl qf sV Lc hbv WS SL SM;go_wp2_with fail;refine uh ?_;have Bb:=ae (show (out++Ba sp)++vX (r::dP.drop (j+1)) (k+1)=vX dP 0 from by rw [List.append_assoc,←hsp hlt];exact hout);have Yn:=ae (show 3-(k+1)=n-1 by have:=HN.out;omega);clear hout hsp hrow' hlo;by_cases hn1':n=1
      ·subst hn1';go_wp2;go_roundw
       case rel=>exact ⟨k+1,_,_,by omega,by rw [Yn.out],fun h=>absurd HN.out (by omega),X9,Bb.out,p9,Ym.out⟩
       case measure=>simp [Oe]
      ·have hz:¬n-1=0:=by omega
       go_wp2;go_roundw
       case rel=>exact ⟨k+1,_,_,by omega,by rw [Yn.out],fun h=>by rw [Nat.add_mul],X9,Bb.out,p9,Ym.out⟩
       case measure=>simp [Oe];omega
     ·have zc:decide ((sp.1:Int)<(r.code:Int))=false:=by simp;omega
      have xZ:=hrow' hlt;obtain ⟨n,hn⟩:=af (3-k);rw [←hn] at zn hn1 ⊢;have zn2:decide (0<n)=true:=by simp;omega
      have g0:=Gr.cell (ah wr) c0;have g1:=Gr.cell (ah wr) f0;have HN:=ae hn;clear hn;go_upto_region 6 with fail;refine aD (Array.replicate 12 true) 12 0 mixed (by rfl) ?_;refine ay [0,1,2,3,4,5,6,7,8,9,10,11] 0 rfl (by kernel_rfl) ?_
      iterate 12 (refine aC rfl ?_;go_big_quiet_step (rfl))
      refine ak ?_;refine aI [] (by kernel_rfl) ?_;refine tail_nil ?_;clear g0 g1 c0 c1 c2 hsp hrow';have X5:=hX.mono (ah wr);have p6:=p5.mono (ah wr);have E9:=ae (Lb.out.mono (ah wr));clear hX p5 Lb f0 f1 f2;generalize wr.drew=w5 at *;have RL:=ae (xU (Og.out _ X5.below) r Xi.out E9.out.any);have HT:=ae (show tx (dL [88] r)++(⟨#[10]⟩:ByteArray)=tx (dL [88] r++[10]) from cZ _ [10]);have hll:=NU (nm:=[88]) (r:=r) ⟨by simp,by unfold dQ;decide⟩ Xi.out.cls Xi.out.len;have hl1:(tx (dL [88] r)).size≤100:=by rw [bn];exact hll
      have hl2:(⟨#[10]⟩:ByteArray).size=1:=rfl;generalize tx (dL [88] r)=t1 at *;have hlo:out.length+(dL [88] r++[10]).length≤1000000:=by
       obtain ⟨tot,h1,h2⟩:=Va.out;rw [xZ,←h1] at hout;have:=congrArg List.length hout;simp only [List.length_append] at this;rw [List.length_append];omega
      have Bb:=ae (show (out++(dL [88] r++[10]))++vX (dP.drop (j+1)) k=vX dP 0 from by rw [List.append_assoc,←xZ];exact hout);have f0:=p6.at 0 rfl;have f1:=p6.at 1 rfl;have f2:=p6.at 2 rfl;clear hout xZ;go_wp2_with fail;refine RL.out.mono ?_;rintro e w7 ⟨rfl,h7⟩;have X7:=X5.mono h7;have WS:=ae (gP X7.Ur (dL [88] r++[10]) hlo X7.size);rw [←HT.out] at WS;clear X5 p6 E9 f0 f1 f2 RL h7;go_wp2_with fail;refine WS.out.mono ?_;rintro e w9 ⟨rfl,qf,sV,Lc⟩;have X9:=X7.write hsw htw qf sV Lc;clear WS X7 qf sV Lc;go_wp2;go_roundw
      case rel=>exact ⟨j+1,k,_,_,by omega,by simp,hk,by rw [HN.out],fun _=>rfl,X9,Bb.out⟩
      case measure=>simp [intOf];omega
    ·have hk0:k=3:=by omega
     subst hk0;have xZ:=J6 (r:=r) (T:=dP.drop (j+1)) (k:=3) (fun h=>absurd h (by decide));have z33:(3-3:Nat)=0:=rfl;have zz:decide ((0:Int)<((0:Nat):Int))=false:=by decide
     rw [z33];clear hka;go_upto_region 6 with fail;refine aD (Array.replicate 12 true) 12 0 mixed (by rfl) ?_;refine ay [0,1,2,3,4,5,6,7,8,9,10,11] 0 rfl (by kernel_rfl) ?_;refine aZ ?_
     iterate 12 (refine aO rfl ?_)
     refine a_ ?_
     iterate 12 (go_big_quiet_step (rfl))
     refine ak ?_;refine aI [] (by kernel_rfl) ?_;refine tail_nil ?_;have X5:=hX.mono (ah wr);have p6:=p5.mono (ah wr);have E9:=ae (Lb.out.mono (ah wr));clear hX p5 Lb f0 f1 f2;generalize wr.drew=w5 at *;have RL:=ae (xU (Og.out _ X5.below) r Xi.out E9.out.any);have HT:=ae (show tx (dL [88] r)++(⟨#[10]⟩:ByteArray)=tx (dL [88] r++[10]) from cZ _ [10]);have hll:=NU (nm:=[88]) (r:=r) ⟨by simp,by unfold dQ;decide⟩ Xi.out.cls Xi.out.len;have hl1:(tx (dL [88] r)).size≤100:=by rw [bn];exact hll
     have hl2:(⟨#[10]⟩:ByteArray).size=1:=rfl;generalize tx (dL [88] r)=t1 at *;have hlo:out.length+(dL [88] r++[10]).length≤1000000:=by
      obtain ⟨tot,h1,h2⟩:=Va.out;rw [xZ,←h1] at hout;have:=congrArg List.length hout;simp only [List.length_append] at this;rw [List.length_append];omega
     have Bb:=ae (show (out++(dL [88] r++[10]))++vX (dP.drop (j+1)) 3=vX dP 0 from by rw [List.append_assoc,←xZ];exact hout);have f0:=p6.at 0 rfl;have f1:=p6.at 1 rfl;have f2:=p6.at 2 rfl;clear hout xZ;go_wp2_with fail;refine RL.out.mono ?_;rintro e w7 ⟨rfl,h7⟩;have X7:=X5.mono h7;have WS:=ae (gP X7.Ur (dL [88] r++[10]) hlo X7.size);rw [←HT.out] at WS;clear X5 p6 E9 f0 f1 f2 RL h7;go_wp2_with fail;refine WS.out.mono ?_;rintro e w9 ⟨rfl,qf,sV,Lc⟩;have X9:=X7.write hsw htw qf sV Lc;clear WS X7 qf sV Lc;go_wp2;go_roundw
     case rel=>exact ⟨j+1,3,_,_,by omega,by simp,by omega,rfl,fun h=>absurd h (by decide),X9,Bb.out⟩
     case measure=>simp [intOf];omega
  ·have zj:decide ((j:Int)<121)=false:=by simp;omega
   obtain rfl:j=121:=by omega
   have hd:dP.drop 121=[]:=List.drop_of_length_le (by decide);rw [hd] at hout;have hout:out=vX dP 0:=by rw [←hout];simp [vX]
   have hne:out≠[]:=by rw [hout,Ct];decide +kernel
   have ST:=ae (xm hX.Ur hne);have HO:=ae hout;have hbx:=hX.below;clear hout hne hd hX;go_wp2_with fail;refine ST.out.mono ?_;rintro e w9 ⟨rfl,sV⟩;go_wp2;go_ret;exact ⟨by rw [←HO.out];rfl,hbx.trans sV⟩
end
open Go.RowKit Go.Cd Go.Shelf
abbrev E_:TypeId:=289
theorem RI:lF Tryz.prog 286 E_ (.agg #[.int .i32 0,.int .i32 0]) 2 8:=⟨rfl,Tryz.underlying286,info_parts (by kernel_rfl)⟩
def Cy (p:Nat×Nat):List Value:=[.int .i32 (p.1:Nat),.int .i32 (p.2:Nat)]
def rW (p:Nat×Nat):List Nat:=[p.1,p.2+1]
theorem Fa (p:Nat×Nat):(rW p).length=2:=rfl
theorem Fb (p:Nat×Nat):(Cy p).length=2:=rfl
theorem Fe {w:World} {v:Value} (R:List (Nat×Nat)) (hv:bD w v (aN (R.flatMap rW))) (hl:R.length<1000) (hR:∀p∈R,p.1<1114112∧p.2<1114112) :
 Calls Tryz.prog 176 #[.agg #[v]] w fun e w'=>∃r,e=.returned r∧w'.ownsRow w.heap.size E_ 2 r R.length (R.flatMap Cy)∧Below w.heap.size w w':=by
 obtain ⟨a,cap,rfl,_,hx⟩:=bD.lD hv rfl;have hfl:=rf rW 2 Fa R;have HX:=ae hx;have HR:=ae hR;obtain ⟨n,hn⟩:=af ((R.flatMap rW).length);rw [←hn] at hfl ⊢;obtain ⟨w1,hw1⟩:=af (w.alloc (.cells #[.slice a n cap] 125));have hb1:Below w.heap.size w w1:=by rw [hw1];exact ai _
 have k1:Is w1 w.heap.size #[.slice a n cap] 125:=by rw [hw1];exact Is.new _ _ _
 have hz1:w1.heap.size=w.heap.size+1:=by rw [hw1];simp
 have HN:=ae hn;have RJ:=ae hfl;have Qy:n<2000:=by omega
 clear hx hR hv hn hfl;go_enter Tryz.func176,Tryz.ntmps176;go_wp2_with fail;rw [←hw1];clear hw1;go_loopw [3,4] (fun rv iv wr=>∃j:Nat,j≤R.length∧iv=.int .i64 (j*2:Nat)∧wr.ownsRow (w.heap.size+1) E_ 2 rv j ((R.take j).flatMap Cy)∧Below (w.heap.size+1) w1 wr) (fun _ iv _=>n-(intOf iv).toNat)
 case atStart=>exact ⟨0,Nat.zero_le _,rfl,World.ownsRow_nil _ _ _ _,Below.refl _ _⟩
 case round=>
  obtain ⟨j,hj,rfl,ho,hE⟩:=hrel;have k2:=k1.low hE (Nat.lt_succ_self _);have e0:wr.cell? ⟨w.heap.size,0,none⟩=some (.slice a n cap):=k2.at 0 rfl;have hbw:Below w.heap.size w wr:=hb1.trans (hE.mono (Nat.le_succ _));obtain ⟨i,hi⟩:=af (j*2);rw [←hi];by_cases hjn:j<R.length
  ·have zj:decide (i<n)=true:=by have:=RJ.out;simp;omega
   have hi2:i+1<n:=by have:=RJ.out;omega
   have hin:i<(R.flatMap rW).length:=by have:=HN.out;omega
   have hin2:i+1<(R.flatMap rW).length:=by have:=HN.out;omega
   obtain ⟨b,off,rfl,_,c0⟩:=HX.out i hin;obtain ⟨b',off',Yo,_,c1⟩:=HX.out (i+1) hin2;injection Yo with Yo;injection Yo with hb1' hb2';subst hb1';subst hb2';have hfa:=qZ rW 2 Fa R j hjn;have q0:(R.flatMap rW)[i]=R[j].1:=by
    have:=hfa 0 (by decide);rw [Nat.add_zero,←hi,List.getElem?_eq_getElem hin] at this;exact Option.some.inj this
   have q1:(R.flatMap rW)[i+1]=R[j].2+1:=by
    have:=hfa 1 (by decide);rw [←hi,List.getElem?_eq_getElem hin2] at this;exact Option.some.inj this
   rw [q0] at c0;rw [q1] at c1;have hp:=HR.out _ (List.getElem_mem hjn);have HT:=ae (show (R.take (j+1)).flatMap Cy=(R.take j).flatMap Cy++Cy R[j] by rw [List.take_succ_eq_append_getElem hjn,List.flatMap_append];simp);obtain ⟨p,hpe⟩:=af (R[j]);rw [←hpe] at c0 c1 hp HT;have c0:=aA hbw c0;have c1:=aA hbw c1;have z1:IntKind.i32.wrap (((p.2+1:Nat):Int)-1)=(p.2:Nat):=by rw [IntKind.wrap_i32];omega
   have z2:IntKind.i64.wrap ((i:Int)+1)=((i+1:Nat):Int):=by rw [IntKind.wrap_i64];omega
   have HI:=ae hi;have HO:=ae ho;clear q0 q1 hfa hin hin2 hpe hi ho;go_upto_region 5 with fail;have g0:=Gr.cell (ah wr) e0;have g1:=Gr.cell (ah wr) c0;have g2:=Gr.cell (ah wr) c1;refine aD #[true,true,true,true,true,true,true,true,true,true,true,true,true,true,true,false,false] 15 2 mixed (by rfl) ?_;refine ay [0,1,2,3,4,5,6,7,8,9,10,11,12,13] 1 rfl (by kernel_rfl) ?_
   iterate 14 (refine aC rfl ?_;go_big_quiet_step (rfl))
   refine ak ?_;refine aL 14 (by kernel_rfl) rfl ?_;clear g0 g1 g2;have hbd:=ah wr;go_wp2_with fail;refine aH (ai _) ?_;refine aI [15,16] (by kernel_rfl) ?_;refine ug (os:=[_,_]) rfl ?_;have hsz:=hE.size;refine xD (W:=wr.drew) rfl _ _ 286 rfl (w.heap.size+1) E_ _ 2 8 RI (by decide) (by decide) u3 j _ rfl (aG HO.out (ah wr)) #[.int .i32 (p.1:Nat),.int .i32 (p.2:Nat)] rfl rfl (by simp [Value.oneCell']) (by omega) (by show w.heap.size+1≤wr.heap.size;omega) ?_;intro v1 w9 o9 sV _;have N_:=ae (show w9.ownsRow (w.heap.size+1) E_ 2 v1 (j+1) ((R.take (j+1)).flatMap Cy) from by rw [HT.out];exact o9);clear o9;have RN:Below (w.heap.size+1) w1 w9:=hE.trans ((((ah wr).mono (by omega)).trans ((ai _).mono (by show w.heap.size+1≤wr.heap.size;omega))).trans sV);have z3:IntKind.i64.wrap ((i:Int)+2)=((i+2:Nat):Int):=by rw [IntKind.wrap_i64];omega
   go_wp2_with fail;refine uh ?_;go_wp2;go_roundw
   case rel=>exact ⟨j+1,by omega,by have:=HI.out;congr 1;omega,N_.out,RN⟩
   case measure=>simp [intOf];omega
  ·have zj:decide ((i:Int)<(n:Int))=false:=by have:=RJ.out;simp;omega
   have hni:¬i<n:=by have:=RJ.out;omega
   obtain rfl:j=R.length:=by omega
   rw [List.take_length] at ho;go_wp2;go_ret;exact ⟨_,rfl,aW ho (Nat.le_succ _),hbw⟩
def qz (p:Nat×Nat):List Nat:=List.range' p.1 (p.2+1-p.1)
theorem zL {w:World} {v:Value} (R:List (Nat×Nat)) (hv:bD w v (aN (R.flatMap rW))) (hl:R.length<1000) (hR:∀p∈R,p.1<1114112∧p.2<1114112∧p.1≤p.2) :
 Calls Tryz.prog 139 #[.agg #[v]] w fun e w'=>∃r,e=.returned r∧w'.ownsRow w.heap.size aM 1 r (R.flatMap qz).length (aN (R.flatMap qz))∧Below w.heap.size w w':=by
 obtain ⟨a,cap,rfl,_,_⟩:=bD.lD hv rfl;obtain ⟨n,hn⟩:=af ((R.flatMap rW).length);rw [←hn] at hv ⊢;obtain ⟨w1,hw1⟩:=af (w.alloc (.cells #[.slice a n cap] 125));have hb1:Below w.heap.size w w1:=by rw [hw1];exact ai _
 have k1:Is w1 w.heap.size #[.slice a n cap] 125:=by rw [hw1];exact Is.new _ _ _
 have hz1:w1.heap.size=w.heap.size+1:=by rw [hw1];simp
 have RA:=ae (Fe R (hv.mono hb1) hl (fun p hp=>⟨(hR p hp).1,(hR p hp).2.1⟩));have HR:=ae hR;have e0:w1.cell? ⟨w.heap.size,0,none⟩=some (.slice a n cap):=k1.at 0 rfl;clear hv hR hn k1;go_enter Tryz.func139,Tryz.ntmps139;go_wp2_with fail;rw [←hw1];clear hw1;refine RA.out.mono ?_;rintro e w2 ⟨r,rfl,hr,hb2⟩;have hbw2:=ag hb1 hb2;obtain ⟨ra,rc,rfl,_,_⟩:=az hr;have HO:=ae hr;clear RA e0 hr hb2 hz1 hb1;go_wp2_with fail;go_loopw [3,10] (fun ov iv wr=>∃j:Nat,j≤R.length∧iv=.int .i64 j∧wr.ownsRow w2.heap.size aM 1 ov ((R.take j).flatMap qz).length (aN ((R.take j).flatMap qz))∧Below w2.heap.size w2 wr∧((R.take j).flatMap qz).length≤1200000*j) (fun _ iv _=>R.length-(intOf iv).toNat)
 case atStart=>exact ⟨0,Nat.zero_le _,rfl,World.ownsRow_nil _ _ _ _,Below.refl _ _,by simp⟩
 case round=>
  obtain ⟨j,hj,rfl,ho,hE,hlen⟩:=hrel;by_cases hjn:j<R.length
  ·have zj:decide ((j:Int)<(R.length:Int))=true:=by simp;omega
   obtain ⟨g,rfl⟩:∃g,ra=some ⟨g,0,none⟩:=by
    rcases HO.out.2 with ⟨h1,h2⟩|⟨g,_,_,h1,_⟩
    ·have h2:R.length=0:=h2;omega
    ·injection h1 with h1;exact ⟨g,h1⟩
   have hfa:=qZ Cy 2 Fb R j hjn;have hfl:=rf Cy 2 Fb R;have c0:=aA hE ((HO.out.cellAt (j*2) (by omega)).trans ((hfa 0 (by decide)).trans rfl));have c1:=aA hE ((HO.out.cellAt (j*2+1) (by omega)).trans ((hfa 1 (by decide)).trans rfl));have hp:=HR.out _ (List.getElem_mem hjn);have HT:=ae (show (R.take (j+1)).flatMap qz=(R.take j).flatMap qz++qz R[j] by rw [List.take_succ_eq_append_getElem hjn,List.flatMap_append];simp);obtain ⟨p,hpe⟩:=af (R[j]);rw [←hpe] at c0 c1 hp HT;obtain ⟨S,hS⟩:=af ((R.take j).flatMap qz);rw [←hS] at ho hlen HT;obtain ⟨m,hm⟩:=af (p.2+1-p.1);have hme:qz p=List.range' p.1 m:=by rw [hm];rfl
   rw [hme] at HT;obtain ⟨f,hf⟩:=af p.1;obtain ⟨l,hl⟩:=af p.2;rw [←hf] at HT hm hp c0;rw [←hl] at hm hp c1;obtain ⟨w4,hw4⟩:=af (wr.alloc (.cells #[.int .i32 (f:Nat),.int .i32 (l:Nat)] E_));have hb4:Below wr.heap.size wr w4:=by rw [hw4];exact ai _
   have p4:Is w4 wr.heap.size #[.int .i32 (f:Nat),.int .i32 (l:Nat)] E_:=by rw [hw4];exact Is.new _ _ _
   have o4:=aG ho hb4;have kW:Below w2.heap.size w2 w4:=hE.trans (hb4.mono hE.size);have HM:=ae hm;have ko:m≤1200000:=by omega
   have ahq:S.length+1200000≤1200000*(j+1):=by omega
   have f0:=p4.at 0 rfl;clear ho hfa hfl hS hme hm hf hl hpe;go_wp2_with fail;rw [←hw4];obtain ⟨rb,hrb⟩:=af wr.heap.size;rw [←hrb] at p4 ⊢;clear hw4 c0 c1 hb4 hrb f0;go_loopw [3,6] (fun ov cv wr=>∃q c:Nat,q≤m∧c=f+q∧cv=.int .i32 c∧wr.ownsRow w2.heap.size aM 1 ov (S.length+q) (aN (S++List.range' f q))∧Below w2.heap.size w2 wr∧Is wr rb #[.int .i32 (f:Nat),.int .i32 (l:Nat)] E_) (fun _ cv _=>f+m-(intOf cv).toNat)
   case atStart=>exact ⟨0,f,Nat.zero_le _,rfl,rfl,by simpa using o4,kW,p4⟩
   case round=>
    clear o4 kW p4;obtain ⟨q,c,hq,hc,rfl,ho,hE,pr⟩:=hrel;have f1:=pr.at 1 rfl;have HC:=ae hc;clear hc;by_cases hqm:q<m
    ·have hcl:c≤l:=by have:=HM.out;have:=HC.out;omega
     have zc:decide ((c:Int)≤(l:Int))=true:=by simp;omega
     have z1:IntKind.i32.wrap ((c:Int)+1)=((c+1:Nat):Int):=by rw [IntKind.wrap_i32];have:=HM.out;have:=HC.out;omega
     have HS:=ae (show aN (S++List.range' f (q+1))=aN (S++List.range' f q)++[.int .i32 (c:Nat)] by
      rw [List.range'_concat,←List.append_assoc,HC.out];simp [aN])
     have QA:=ae ho;have hs:=hE.size;clear ho
     go_wp2_with (
      refine pg rfl _ _ 39 rfl w2.heap.size aM _ 4 bS u3 (S.length+q) _ rfl QA.out (.int .i32 (c:Nat)) rfl rfl (by omega) (by unfold maxLen;omega) wr (Below.refl _ _) hs ?_;intro v1 w9 o9 sV oA y9;have N_:=ae (show w9.ownsRow w2.heap.size aM 1 v1 (S.length+(q+1)) (aN (S++List.range' f (q+1))) from by rw [HS.out];exact o9);have p9:=(pr.mono (ai _)).grown y9 ((pr.mono (ai _)).other oA (by decide))
      clear o9 y9 oA)
     go_roundw
     case rel=>exact ⟨q+1,c+1,by omega,by have:=HC.out;omega,by simp,N_.out,hE.trans sV,p9⟩
     case measure=>have:=HC.out;simp [intOf];omega
    ·have hcl:¬c≤l:=by have:=HM.out;have:=HC.out;omega
     have zc:decide ((c:Int)≤(l:Int))=false:=by simp;omega
     obtain rfl:q=m:=by omega
     have N_:=ae (show wr.ownsRow w2.heap.size aM 1 u3 ((R.take (j+1)).flatMap qz).length (aN ((R.take (j+1)).flatMap qz)) from by rw [HT.out,List.length_append,List.length_range'];exact ho);have HL:=ae (show ((R.take (j+1)).flatMap qz).length≤1200000*(j+1) from by rw [HT.out,List.length_append,List.length_range'];omega);clear ho;go_wp2;go_roundw
     case rel=>exact ⟨j+1,by omega,by simp,N_.out,hE,HL.out⟩
     case measure=>simp [intOf];omega
  ·have zj:decide ((j:Int)<(R.length:Int))=false:=by simp;omega
   obtain rfl:j=R.length:=by omega
   rw [List.take_length] at ho;go_wp2;go_ret;exact ⟨_,rfl,aW ho hbw2.size,hbw2.trans (hE.mono hbw2.size)⟩
end Go.Proofs.YtjidohgiigjifaaGreatDoor
section
namespace Go.Cd
theorem Oh:gQ Cs=Cs:=by
 have h:=nA Cs;have hp:Cs.Pairwise (· < ·):=by decide
 have n1:(gQ Cs).Nodup:=h.1.imp (fun h=>Nat.ne_of_lt h);have n2:Cs.Nodup:=hp.imp (fun h=>Nat.ne_of_lt h);exact List.Perm.eq_of_pairwise (fun a b _ _ h1 h2=>by omega) h.1 hp ((List.perm_ext_iff_of_nodup n1 n2).2 h.2)
def Oi:List (Nat×Nat):=[(2392,2393),(10972,10972),(64285,64285),(64287,64287),(119134,119134)]
end Go.Cd
namespace Go.Proofs.YtjidohgiigjifaaGreatDoor
open Go.RowKit Go.Cd Go.Shelf
theorem Ld:lJ (gQ Cs)=Oi.flatMap rW:=by rw [Oh];decide
theorem Le:Oi.flatMap qz=Cs:=by decide
theorem Ff {w:World} (hG:bZ w) {v:Value} (R:List (Nat×Nat)) (hv:bD w v (aN (R.flatMap rW))) (hl:R.length<100) (hR:∀p∈R,p.1<1114112∧p.2<1114112∧p.1≤p.2) (X:List Nat) (hX:R.flatMap qz=X) (Us:∀c∈X,c<1114112) (Xj:0<X.length∧X.length<1000) :
 Calls Tryz.prog 97 #[.agg #[v]] w fun e w'=>e=.returned (.string (tx (bq (X.map aS))))∧Below w.heap.size w w':=by
 have Og:=ae (fun (W:World) (E:Below w.heap.size w W)=>hG.mono E);obtain ⟨a,cap,rfl,_,_⟩:=bD.lD hv rfl;obtain ⟨n,hn⟩:=af ((R.flatMap rW).length);rw [←hn] at hv ⊢;obtain ⟨w1,hw1⟩:=af (w.alloc (.cells #[.slice a n cap] 125));have hb1:Below w.heap.size w w1:=by rw [hw1];exact ai _
 have k1:Is w1 w.heap.size #[.slice a n cap] 125:=by rw [hw1];exact Is.new _ _ _
 have hz1:w1.heap.size=w.heap.size+1:=by rw [hw1];simp
 obtain ⟨w2,hw2⟩:=af (w1.alloc (.cells #[.pointer none,.slice none 0 0] 159));have hb2:Below w1.heap.size w1 w2:=by rw [hw2];exact ai _
 have u2:l5 w1.heap.size w1.heap.size [] w2:=by rw [hw2];exact l5.new
 have k2:=k1.mono hb2;have e0:w2.cell? ⟨w.heap.size,0,none⟩=some (.slice a n cap):=k2.at 0 rfl;have CH:=ae (zL R ((hv.mono hb1).mono hb2) (by omega) hR);rw [hX] at CH;have iC:=ag hb1 hb2;rw [hw1] at hw2;rw [hz1] at u2;clear hv hn hG hR k1 k2 hb1 hb2 hw1 hz1 hX;go_enter Tryz.func97,Tryz.ntmps97;go_wp2_with fail;rw [←hw2];clear hw2;refine CH.out.mono ?_;rintro e w3 ⟨r,rfl,hr,hb3⟩;have u3:=u2.below hb3;have S3:=ae (Sl.aT hr);obtain ⟨ra,rc,rfl,_,_⟩:=az hr;have hbw:=ag iC hb3;have hz3:w.heap.size+1≤w3.heap.size:=by obtain ⟨_,hv⟩:=u3.block;have:=block_lt hv;omega
 obtain ⟨N,hN⟩:=af X.length;rw [←hN] at S3 ⊢;have HN:=ae hN;have hN9:0<N∧N<1000:=by rw [hN];exact Xj
 clear CH e0 hr hb3 u2 hN;go_wp2_with fail;go_loopw [5,9] (fun _ iv wr=>∃j:Nat,j≤N∧iv=.int .i64 j∧l5 (w.heap.size+1) (w.heap.size+1) (bq ((X.take j).map aS)) wr∧Sl aM wr (.slice ra N rc) (aN X)∧Below w.heap.size w wr∧w.heap.size+1≤wr.heap.size∧(bq ((X.take j).map aS)).length≤7*j) (fun _ iv _=>N-(intOf iv).toNat)
 case atStart=>exact ⟨0,Nat.zero_le _,rfl,u3,S3.out,hbw,hz3,by simp [bq]⟩
 case round=>
  clear u3 S3 hbw hz3;obtain ⟨j,hj,rfl,hU,hS,hB,hz,hlen⟩:=hrel;by_cases hjn:j<N
  ·have zj:decide ((j:Int)<(N:Int))=true:=by simp;omega
   have RQ:j<X.length:=by have:=HN.out;omega
   obtain ⟨a',cap',hv',_,hx⟩:=bD.lD hS.any HN.out;injection hv' with hv1 _ hv3;subst hv1;obtain ⟨b,off,rfl,_,c0⟩:=hx j RQ;have hc:=Us _ (List.getElem_mem RQ)
   have HT:=ae (show bq ((X.take (j+1)).map aS)=bq ((X.take j).map aS)++(aS X[j]++[10]) by
    rw [List.take_succ_eq_append_getElem RQ,List.map_append];simp [bq])
   generalize X[j]=c at *;have H1:=ae (qj (Og.out wr hB) c hc);have hl6:=(bJ c).2;have hl1:(tx (aS c)).size≤6:=by rw [bn];exact hl6
   have hl2:(⟨#[10]⟩:ByteArray).size=1:=rfl;have HTX:=ae (show tx (aS c)++(⟨#[10]⟩:ByteArray)=tx (aS c++[10]) from cZ _ [10]);generalize tx (aS c)=t1 at *;clear hx hv3 hc;go_wp2_with fail;refine H1.out.mono ?_;rintro e w7 ⟨rfl,h7⟩;have U7:=hU.below h7;have S7:=ae (hS.mono h7);have B7:=ag hB h7;have z7:=Nat.le_trans hz h7.size;have WS:=ae (gP U7 (aS c++[10]) (by rw [List.length_append,List.length_singleton];omega) z7);rw [←HTX.out] at WS;clear hU hS c0 H1 h7;go_wp2_with fail;refine WS.out.mono ?_;rintro e w9 ⟨rfl,qf,sV,Lc⟩;obtain ⟨bv,hbv⟩:=U7.block;have S9:=ae (Cx S7.out Lc hbv (by decide) (by decide));have HB9:=ae (show l5 (w.heap.size+1) (w.heap.size+1) (bq ((X.take (j+1)).map aS)) w9 from by rw [HT.out];exact qf);have Yp:=ae (show (bq ((X.take (j+1)).map aS)).length≤7*(j+1) from by rw [HT.out,List.length_append,List.length_append,List.length_singleton];omega);have acn:=B7.trans (sV.mono (Nat.le_succ _));have hz9:=Nat.le_trans z7 sV.size;clear qf Lc hbv U7 S7 WS hlen;go_wp2;go_roundw
   case rel=>exact ⟨j+1,by omega,by simp,HB9.out,S9.out,acn,hz9,Yp.out⟩
   case measure=>simp [intOf];omega
  ·have zj:decide ((j:Int)<(N:Int))=false:=by simp;omega
   obtain rfl:j=N:=by omega
   have ht:X.take j=X:=List.take_of_length_le (by have:=HN.out;omega);rw [ht] at hU;have hne:bq (X.map aS)≠[]:=by
    have:=HN.out;cases X with
    | nil=>simp at this;omega
    | cons c X=>simp [bq]
   have ST:=ae (xm hU hne);clear hU hne ht;go_wp2_with fail;refine ST.out.mono ?_;rintro e w9 ⟨rfl,sV⟩;go_wp2;go_ret;exact ⟨rfl,hB.trans (sV.mono (Nat.le_succ _))⟩
theorem Lf {w:World} (hG:bZ w) :
 Calls Tryz.prog 60 #[] w fun e w'=>e=.returned (.string (tx (dS Cs)))∧Below w.heap.size w w':=by
 obtain ⟨w1,hw1⟩:=af (w.alloc (.cells #[.int .i32 2392,.int .i32 2393,.int .i32 10972,.int .i32 64285,.int .i32 64287,.int .i32 119134] 21));have hb1:Below w.heap.size w w1:=by rw [hw1];exact ai _
 have S1:Sl aM w1 (.slice (some ⟨w.heap.size,0,none⟩) 6 6) (aN Cs):=by rw [hw1];exact Ip w #[.int .i32 2392,.int .i32 2393,.int .i32 10972,.int .i32 64285,.int .i32 64287,.int .i32 119134] aM
 have CH:=ae (qp Cs S1 ⟨_,6,6,rfl,.inr ⟨_,_,rfl⟩⟩ (by decide) (by decide));rw [Ld] at CH;have hX:dS Cs=bq (Cs.map aS):=by
  have:dz [] Cs=Cs:=by decide
  unfold dS;rw [this]
 rw [hX];have Og:=ae (fun (W:World) (E:Below w.heap.size w W)=>hG.mono E);clear hG S1 hX;go_enter Tryz.func60,Tryz.ntmps60;go_wp2_with fail;rw [←hw1];clear hw1;refine CH.out.mono ?_;rintro e w2 ⟨r,rfl,hr,hb2⟩;have hbw:=ag hb1 hb2;have ET:=ae (Ff (Og.out w2 hbw) Oi (Sl.aT hr).any (by decide) (by decide) Cs Le (by decide) (by decide));obtain ⟨ra,rc,rfl,_,_⟩:=az hr;clear CH hr;go_wp2_with fail;refine ET.out.mono ?_;rintro e w3 ⟨rfl,hb3⟩;go_wp2;go_ret;exact ⟨rfl,ag hbw hb3⟩
end Go.Proofs.YtjidohgiigjifaaGreatDoor
end
