/- TraceParts and TraceWalks: a machine takes a character as those of its full decomposition, one by one; texts that are alike go through it, and of others none; no condition. -/
import Derived.Test.YtjidohgiigjifaaGreatDoorR15
import Derived.BigRegion
import Derived.Deep.Cut
import Derived.Deep.CutBlock
set_option maxRecDepth 100000
set_option maxHeartbeats 6400000
namespace Go.Cd
def uC (n c:Nat) (Ls:List (Nat×List Nat)):List (Nat×List Nat):=
 match Ls.getLast? with
 | some (m,l)=>if m=n then Ls.dropLast++[(m,l++[c])] else Ls++[(n,[c])]
 | none=>Ls++[(n,[c])]
abbrev fJ:=Nat×List (Nat×List Nat)
def yF (K:Nat→Nat) (rs:List fJ) (c:Nat):List fJ:=
 if K c=0 then rs++[(c,[])] else rs.dropLast++[((rs.getLastD (0,[])).1,uC (K c) c (rs.getLastD (0,[])).2)]
def dU (K:Nat→Nat) (l:List Nat):List fJ:=l.foldl (yF K) [(0,[])]
theorem Pv {K:Nat→Nat} {l:List Nat} {j:Nat} (hj:j<l.length):dU K (l.take (j+1))=yF K (dU K (l.take j)) l[j]:=by
 unfold dU;rw [List.take_succ_eq_append_getElem hj,List.foldl_append];rfl
theorem uD {n c m:Nat} {l:List Nat} {Ls:List (Nat×List Nat)} (h:m=n):uC n c (Ls++[(m,l)])=Ls++[(m,l++[c])]:=by
 unfold uC;rw [List.getLast?_concat];simp [h]
theorem sJ {n c:Nat} {Ls:List (Nat×List Nat)} (h:∀x,Ls.getLast? = some x→x.1≠n):uC n c Ls=Ls++[(n,[c])]:=by
 unfold uC
 split
 ·rename_i m l e;rw [if_neg (h _ e)]
 ·rfl
theorem yG {K:Nat→Nat} {rs:List fJ} {c:Nat} (h:K c=0):yF K rs c=rs++[(c,[])]:=by unfold yF;rw [if_pos h]
theorem uE {K:Nat→Nat} {rs:List fJ} {r:fJ} {c:Nat} (h:K c≠0):yF K (rs++[r]) c=rs++[(r.1,uC (K c) c r.2)]:=by
 unfold yF;rw [if_neg h,List.dropLast_concat,List.getLastD_concat]
theorem F6 {K:Nat→Nat}:∀{l:List Nat},iQ K l→∀{j:Nat} (hj:j+1<l.length),K l[j+1]=0∨K l[j]≤K l[j+1]
 | [],_,_,hj=>absurd hj (by simp)
 | [_],_,_,hj=>absurd hj (by simp)
 | a::b::l,h,0,_=>by
   have:=h.1;unfold swp at this;simp only [List.getElem_cons_zero,List.getElem_cons_succ,Nat.zero_add];omega
 | a::b::l,h,j+1,hj=>by
   have:=F6 h.2 (j:=j) (by simpa using hj);simpa using this
end Go.Cd
namespace Go.Proofs.YtjidohgiigjifaaGreatDoor
open Go.RowKit Go.Cd
def fK (Ls:List dN):List Nat:=Ls.map fun x=>x.2.2.length+1
theorem Me {Ls:List dN} {j:Nat} (hj:j<Ls.length):fK (Ls.take (j+1))=fK (Ls.take j)++[Ls[j].2.2.length+1]:=by
 rw [List.take_succ_eq_append_getElem hj];unfold fK;rw [List.map_append];rfl
theorem yH (Ls:List dN):(fK Ls).length=Ls.length:=by simp [fK]
theorem yI {w:World} {F:Nat} {hd:Nat} {la:Option Addr} {ln lc:Nat} {Ls:List dN} (h:sI w F (hd,.slice la ln lc,Ls)) (hl:Ls.length<10000) (hm:∀x∈Ls,x.2.2.length<10000) (a1 a2:Option Addr) (n1 c1 n2 c2:Nat) (b3 fr:Int) :
 Calls Tryz.prog 41 #[.agg #[.int .i32 hd,.slice la ln lc,.slice a1 n1 c1,.slice a2 n2 c2,.int .i64 b3,.int .i64 fr]] w fun e w'=>∃v,e=.returned v∧w'.ownsRow w.heap.size aU 1 v Ls.length (ds (fK Ls))∧Below w.heap.size w w':=by
 have hrow:=h.1.1;have hln:ln=Ls.length:=by
  obtain ⟨_,_,e,_⟩:=az hrow;injection e with _ e _
 subst hln;have HX:=ae (fun (i:Nat) (hi:i<Ls.length)=>cB (f:=eD) iE rfl hrow hi);have HS:=ae (fun x (hx:x∈Ls)=>az (h.2 x hx).1);have HM:=ae hm;obtain ⟨n,hn⟩:=af Ls.length;have HN:=ae hn;have hb1:=ai (w:=w) (.cells #[.int .i32 hd,.slice la Ls.length lc,.slice a1 n1 c1,.slice a2 n2 c2,.int .i64 b3,.int .i64 fr] eP);have k1:=Is.new w #[.int .i32 hd,.slice la Ls.length lc,.slice a1 n1 c1,.slice a2 n2 c2,.int .i64 b3,.int .i64 fr] eP;have e1:=k1.at 1 rfl;rw [←hn] at hl ⊢;rw [←hn] at hb1 k1 e1;clear h hrow hm hn;go_enter Tryz.func41,Tryz.ntmps41;go_wp2_with fail;generalize w.alloc (.cells #[.int .i32 hd,.slice la n lc,.slice a1 n1 c1,.slice a2 n2 c2,.int .i64 b3,.int .i64 fr] eP)=w1 at *;go_loopw [3,5,9] (fun ov _ iv wr=>∃j:Nat,j≤n∧iv=.int .i64 j∧wr.ownsRow w.heap.size aU 1 ov j (ds (fK (Ls.take j)))∧Below w.heap.size w wr) (fun _ _ iv _=>n-(intOf iv).toNat)
 case atStart=>exact ⟨0,Nat.zero_le _,rfl,World.ownsRow_nil _ _ _ _,hb1⟩
 case round=>
  obtain ⟨j,hj,rfl,ho,hE⟩:=hrel;by_cases hjn:j<n
  ·have zj:decide ((j:Int)<(n:Int))=true:=by simp;omega
   have hjl:j<Ls.length:=by have:=HN.out;omega
   obtain ⟨g,cap',hsv,_,_,_,hc⟩:=HX.out j hjl;injection hsv with hsv _ hcp;subst hcp;subst hsv;have hm1:=HM.out _ (List.getElem_mem hjl);obtain ⟨ya,yc,hyv,_,_⟩:=HS.out _ (List.getElem_mem hjl);have hbt:=Me hjl;obtain ⟨x,hx⟩:=af (Ls[j]);rw [←hx] at hc hm1 hyv hbt;obtain ⟨ml,ko⟩:=af x.2.2.length;rw [←ko] at hm1 hyv hbt;have c0:=aA hE (show w.cell? ⟨g,j*2,none⟩=some (.int .i64 (x.1:Nat)) from (hc 0 (by decide)).1);have c1':=aA hE (show w.cell? ⟨g,j*2+1,none⟩=some (.slice ya ml yc) from by rw [(hc 1 (by decide)).1];simp [eD,hyv]);obtain ⟨m1,VK⟩:=af (ml+1);rw [←VK] at hbt;have e9:IntKind.i64.wrap ((ml:Int)+1)=(m1:Int):=by rw [IntWalk.i64_in _ (by omega)];omega
   have HBT:=ae hbt;have HO:=ae ho;have HM1:=ae VK;have hs:=hE.size;clear hc hyv hbt hx ko VK ho;obtain ⟨w2,hw2⟩:=af (wr.alloc (.cells #[.int .i64 (x.1:Nat),.slice ya ml yc] ek));have hb2:Below wr.heap.size wr w2:=by rw [hw2];exact ai _
   have hE2:=hE.trans (hb2.mono hs);have ho2:=aG HO.out hb2;have k2:Is w2 wr.heap.size #[.int .i64 (x.1:Nat),.slice ya ml yc] ek:=by rw [hw2];exact Is.new _ _ _
   have f1:=k2.at 1 rfl;have hnw:w.heap.size≤w2.heap.size:=Nat.le_trans hs hb2.size;go_upto_region 5 with fail;rw [←hw2];clear hw2 c0 c1'
   go_wp2_with (
    refine pg (W:=w2) rfl _ _ 23 rfl w.heap.size aU (.int .i64 0) 8 fA u3 j _ rfl ho2 (.int .i64 (m1:Nat)) rfl rfl (by omega) (by unfold maxLen;omega) w hE2 (Nat.le_refl _) ?_;intro v3 w3 o3 b3' _ _;have HO3:=ae (show w3.ownsRow w.heap.size aU 1 v3 (j+1) (ds (fK (Ls.take (j+1)))) from by rw [HBT.out,om];exact o3)
    clear o3)
   go_roundw
   case rel=>exact ⟨j+1,by omega,by simp,HO3.out,b3'⟩
   case measure=>simp [intOf];omega
  ·have zj:decide ((j:Int)<(n:Int))=false:=by simp;omega
   obtain rfl:j=n:=by omega
   have ht:Ls.take j=Ls:=List.take_of_length_le (by rw [HN.out];exact Nat.le_refl _);rw [ht] at ho;have HO:=ae ho;clear ho ht;go_wp2_with fail;go_ret;exact ⟨_,rfl,HO.out,hE⟩
theorem Pw (K:Nat→Nat):∀l:List Nat,(iP K l).length=l.length:=by
 have hi:∀(c:Nat) (l:List Nat),(jb K c l).length=l.length+1:=fun c l=>by
  induction l with
  | nil=>rfl
  | cons d l ih=>unfold jb;split <;> simp [ih]
 intro l
 induction l with
 | nil=>rfl
 | cons c l ih=>unfold iP;rw [hi,ih];rfl
theorem F9 (K:Nat→Nat) {x:Nat}:∀{l:List Nat},x∈iP K l↔x∈l:=by
 have hi:∀(c:Nat) (l:List Nat),x∈jb K c l↔x=c∨x∈l:=fun c l=>by
  induction l with
  | nil=>simp [jb]
  | cons d l ih=>
    unfold jb
    split
    ·rw [List.mem_cons,ih,List.mem_cons];exact or_left_comm
    ·rw [List.mem_cons]
 intro l
 induction l with
 | nil=>simp [iP]
 | cons c l ih=>unfold iP;rw [hi,ih,List.mem_cons]
theorem bD.Mf {w:World} {v:Value} {l:List Nat} {n:Nat} (h:bD w v (aN l)) (hn:n=l.length):∃a cap,v=.slice a n cap∧n≤cap∧
 ∀i (hi:i<l.length),∃b off,a=some ⟨b,off,none⟩∧b<w.heap.size∧w.cell? ⟨b,off+i,none⟩=some (.int .i32 (l[i]:Nat)):=Go.Cd.bD.lD h hn
theorem F_ {T:List aF} {X:List Nat} (hV:bE T X) {l:List Nat} (hc:∀c∈l,aX c):∀c∈xR T l,aX c:=fun c h=>by
 obtain ⟨y,hy,hx⟩:=List.mem_flatMap.1 ((F9 _).1 h);exact rT hV (hc y hy) hx
theorem Ga (T:List aF) (l:List Nat):(xR T l).length=(l.flatMap (aK T)).length:=Pw _ _
end Go.Proofs.YtjidohgiigjifaaGreatDoor
namespace Go.Cd
section
open Go.RowKit
section
variable {P : Program} {ops : Array Oper} {md : Region.Mode} {head : Array Bool}
def VL (P:Program) (o:Oper) (a:Act) (v:Value):Prop:=∀w,(execOp a.eval o).run P w=.ok (.value v) w∧∀es,((execOp a.eval o).runT P w es).2=es
inductive Early (P:Program) (md:Region.Mode) (ops:Array Oper) (L:Array Bool) (a:Act) (us:Nat→Value):List Nat→Prop
 | nil:Early P md ops L a us []
 | snoc (E:List Nat) (e:Nat) (o:Oper):Early P md ops L a us E→ops[e]? = some o→o.guard=none→e∈Region.ready md ops (bI E L)→VL P o (jL ops us E a) (us e)→Early P md ops L a us (E++[e])
end
end
end Go.Cd
namespace Go.Proofs.YtjidohgiigjifaaGreatDoor
open Go.RowKit Go.Cd
theorem bD.lD {w:World} {v:Value} {l:List Int} (h:bD w v (bH l)):∃a cap,v=.slice a l.length cap∧l.length≤cap∧∀i (hi:i<l.length),∃b off,a=some ⟨b,off,none⟩∧b<w.heap.size∧w.cell? ⟨b,off+i,none⟩=some (.int .i64 l[i]):=by
 obtain ⟨a,cap,hv,hc,hx⟩:=bD.out h;refine ⟨a,cap,by rw [hv,ed],by rw [ed] at hc;exact hc,fun i hi=>?_⟩;obtain ⟨b,off,h1,h2,h3⟩:=hx i (by rw [ed];exact hi);exact ⟨b,off,h1,h2,by rw [h3];simp [bH]⟩
theorem SN (w:World) (b:Int):Calls Tryz.prog 110 #[.int .i64 b] w fun e w'=>e=.returned (.bool (decide (b<1)))∧w'=w:=by
 go_enter Tryz.func110,Tryz.ntmps110;go_wp2;go_ret;exact ⟨rfl,rfl⟩
theorem Db {w:World} {v:Value} {l:List Int} (h:bD w v (bH l)) (hmax:l.length<1099511627776) :
 Calls Tryz.prog 145 #[v,.func (.func 110) #[] #[]] w fun e w'=>∃r:Int,e=.returned (.int .i64 r)∧(0≤r↔∃b∈l,b<1)∧Below w.heap.size w w':=by
 obtain ⟨x1,wI,rfl,_,hx1⟩:=bD.lD h;have Bo:=ae hx1;clear h hx1;go_enter Tryz.func145,Tryz.ntmps145;go_wp2_with fail;go_loopw [8] (fun i wr=>∃j:Nat,j≤l.length∧i=.int .i64 j∧(∀t (ht:t<l.length),t<j→1≤l[t])∧Below w.heap.size w wr)
  (fun i _=>l.length-(intOf i).toNat)
 case atStart=>exact ⟨0,Nat.zero_le _,rfl,fun _ _ h=>by omega,Below.refl _ _⟩
 case round=>
  obtain ⟨j,hj,rfl,hno,hE⟩:=hrel;have M0:=ae hno;clear hno;by_cases hjl:j<l.length
  ·obtain ⟨b1,Px,rfl,hb1,hc1⟩:=Bo.out j hjl;have hc1:=(hE.cell (p:=⟨b1,Px+j,none⟩) hb1).trans hc1;have HB:=ae (show ∃b∈l,b=l[j] from ⟨_,List.getElem_mem _,rfl⟩);have HJ:=ae (show ∀t (ht:t<l.length),t=j→l[t]=l[j] from fun t ht e=>by subst e;rfl);generalize l[j]=b at *;go_wp2_with fail;refine (SN wr b).mono ?_;rintro e w2 ⟨rfl,rfl⟩;by_cases hb:b<1
   ·have hbd:decide (b<1)=true:=decide_eq_true hb;rw [hbd];go_wp2;go_ret;obtain ⟨c,hc,rfl⟩:=HB.out;exact ⟨j,rfl,⟨fun _=>⟨c,hc,hb⟩,fun _=>by omega⟩,hE⟩
   ·have hbd:decide (b<1)=false:=decide_eq_false hb;rw [hbd];go_wp2;go_roundw
    case rel=>
     refine ⟨j+1,by omega,rfl,fun t ht htj=>?_,hE⟩;by_cases adf:t=j
     ·rw [HJ.out t ht adf];exact hb
     ·exact M0.out t ht (by omega)
    case measure=>simp [intOf];omega
  ·obtain rfl:j=l.length:=by omega
   go_wp2;go_ret;refine ⟨-1,rfl,⟨fun h=>by omega,fun ⟨b,hb,h1⟩=>?_⟩,hE⟩;obtain ⟨t,ht,rfl⟩:=List.getElem_of_mem hb;have:=M0.out t ht ht;omega
theorem wC {w:World} {v:Value} {l:List Int} (h:bD w v (bH l)) (hmax:l.length<1099511627776) :
 Calls Tryz.prog 109 #[v,.func (.func 110) #[] #[]] w fun e w'=>e=.returned (.bool (l.any fun b=>decide (b<1)))∧Below w.heap.size w w':=by
 obtain ⟨x1,wI,hv,_,_⟩:=bD.lD h;subst hv;have IF:=ae (Db h hmax);have key:∀r:Int,(0≤r↔∃b∈l,b<1)→decide (0≤r)=l.any fun b=>decide (b<1):=fun r hr=>by
  rw [Bool.eq_iff_iff,decide_eq_true_iff,hr];simp
 have KEY:=ae key;clear key h;go_enter Tryz.func109,Tryz.ntmps109;go_wp2_with fail;refine IF.out.mono ?_;rintro e w2 ⟨r,rfl,hr,hb⟩;have HR:=ae hr;clear hr;go_wp2;go_ret;exact ⟨dh (KEY.out r HR.out),hb⟩
theorem Bu {w:World} {v:Value} {l:List Int} (h:bD w v (bH l)) (hmax:l.length<1099511627776) :
 Calls Tryz.prog 85 #[v] w fun e w'=>∃r,e=.returned r∧w'.ownsRow w.heap.size aU 1 r l.length (bH l)∧Below w.heap.size w w':=by
 rcases h.cases with ⟨hn,a,cap,rfl,h0⟩|⟨b,off,cap,rfl,hc,hp,hb,hx⟩
 ·have hl:l=[]:=by simpa [bH] using hn
  subst hl;cases a with
  | none=>
    refine (Tryz.slices_Clone_int_nil 0 cap w).mono ?_;rintro e w' ⟨rfl,rfl⟩;exact ⟨_,rfl,World.ownsRow_nil _ _ _ _,Below.refl _ _⟩
  | some a=>
    refine (Tryz.slices_Clone_int_zero a cap w).mono ?_;rintro e w' ⟨r,rfl,ho,_,hb⟩;exact ⟨r,rfl,ho,hb⟩
 ·rw [ed] at *;refine (Tryz.slices_Clone_int b off l.length cap l w (Nat.le_refl _) (by omega) (fun j hj=>?_)).mono ?_
  ·rw [hx j (by rw [ed];exact hj)];simp [bH,hj]
  ·rintro e w' ⟨r,rfl,ho,_,hb⟩;rw [List.take_length] at ho;exact ⟨r,rfl,ho,hb⟩
section
open Go.RowKit Go.Cd Go.Shelf
attribute [local go_sem] Oper.semAt_some
theorem VM (F:Fence) (m:Nat) (hF:F.fn 146) (hro:F.round=none) (hm:1≤m) (l Bs b off n cap:Nat) (hmax:n<1099511627776) {α:Type} (el:Nat→α) (encs:α→Array Value) (val:Nat→Int)
 (henc:∀j,j<n→encs (el j)=#[.int .i64 (j:Int),.int .i64 (val j)]) (J Jx:List α→World→Prop)
 (hY:∀pre x W,J pre W→pre.length<n→YieldAt F (m-1) Tryz.prog l (encs x) W fun e W'=>
   (e=.returned (.bool true)∧J (pre++[x]) W'∧jJ Bs b W W')∨(e=.returned (.bool false)∧Jx (pre++[x]) W'))
 (W:World) (Rl:W.cell? ⟨Bs,0,none⟩=some (.slice (some ⟨b,off,none⟩) n cap)) (hc:∀j,j<n→W.cell? ⟨b,off+j,none⟩=some (.int .i64 (val j))) (h0:J [] W) :
 CallsIn F m Tryz.prog 146 #[.func (.yield l) #[] #[],.pointer (some ⟨Bs,0,none⟩)] W fun e W'=>(∃v,e=.returned v)∧
  ((∃ys,ys=rD el n n∧J ys W')∨(∃pre,(∃k,k≤n∧pre=rD el n k)∧Jx pre W')):=by
 refine callsIn_of_wp Tryz.func146 rfl hF ?_ hro;simp only [Tryz.ntmps146,List.size_toArray,List.length_cons,List.length_nil,Nat.reduceAdd,Nat.reduceSub,Array.replicate_succ,Array.replicate_zero,List.push_toArray,List.append_toArray,List.nil_append,List.cons_append]
 gi_wp2
 gi_loopw [3] (fun i wr=>∃k:Nat,k≤n∧i=.int .i64 ((n:Int)-1-(k:Int))∧J (rD el n k) wr∧jJ Bs b W wr)
  (fun i _=>(intOf i+1).toNat)
 case atStart=>exact ⟨0,Nat.zero_le _,by simp,h0,jJ.refl _ _ _⟩
 case round=>
  obtain ⟨k,hk,rfl,hJs,hnx⟩:=hrel;have hcs:=(hnx.cellP 0).trans Rl;by_cases hlt:k<n
  ·obtain ⟨i,hi⟩:∃i:Nat,(n:Int)-1-(k:Int)=(i:Int):=⟨n-1-k,by omega⟩;have hin:i<n:=by omega
   have hik:n-1-k=i:=by omega
   have hcx:=(hnx.Yc (off+i)).trans (hc i hin);obtain ⟨fn,tmps,assign,body,hy,hR⟩:=hY _ (el i) wr hJs (by rw [Er];exact hlt);rw [henc i hin] at hy;rw [hi];clear hi
   gi_wp2
   refine hR.mono ?_;rintro e W3 (⟨rfl,hJ3,hk3⟩|⟨rfl,hJx3⟩)
   ·have aiy:=(hk3.cellP 0).trans hcs
    gi_wp2
    go_roundw
    case rel=>exact ⟨k+1,by omega,congrArg (Value.int .i64) (by omega),by rw [oz,hik];exact hJ3,hnx.trans hk3⟩
    case measure=>simp [intOf]
   ·gi_wp2
    refine bodyPost_ret (results_none rfl _ _ _) rfl ?_;exact ⟨⟨_,rfl⟩,.inr ⟨_,⟨k+1,by omega,by rw [oz,hik]⟩,hJx3⟩⟩
  ·obtain rfl:k=n:=by omega
   have hz:(k:Int)-1-(k:Int)=-1:=by omega
   rw [hz]
   gi_wp2
   go_end0
   exact ⟨⟨_,rfl⟩,.inl ⟨_,rfl,hJs⟩⟩
theorem SS (F:Fence) (m:Nat) (hF:F.fn 146) (hro:F.round=none) (l Bs:Nat) (a:Option Addr) (cap:Nat) {α:Type} (J:List α→World→Prop) (W:World) (Rl:W.cell? ⟨Bs,0,none⟩=some (.slice a 0 cap)) (h0:J [] W) :
 CallsIn F m Tryz.prog 146 #[.func (.yield l) #[] #[],.pointer (some ⟨Bs,0,none⟩)] W fun e W'=>(∃v,e=.returned v)∧J [] W':=by
 refine callsIn_of_wp Tryz.func146 rfl hF ?_ hro;simp only [Tryz.ntmps146,List.size_toArray,List.length_cons,List.length_nil,Nat.reduceAdd,Nat.reduceSub,Array.replicate_succ,Array.replicate_zero,List.push_toArray,List.append_toArray,List.nil_append,List.cons_append]
 gi_wp2
 gi_loopw [3] (fun i wr=>i=.int .i64 (-1)∧J [] wr) (fun _ _=>0)
 case atStart=>exact ⟨rfl,h0⟩
 case round=>
  obtain ⟨rfl,hJs⟩:=hrel
  gi_wp2
  go_end0
  exact ⟨⟨_,rfl⟩,hJs⟩
theorem Dc (v:Value) (w:World) (hv:∃a n cap,v=.slice a n cap) :
 Calls Tryz.prog 111 #[v] w fun e w'=>e=.returned (.func (.func 146) #[] #[.pointer (some ⟨w.heap.size,0,none⟩)])∧w'=w.alloc (.cells #[v] 23):=by
 obtain ⟨a,n,cap,rfl⟩:=hv;go_enter Tryz.func111,Tryz.ntmps111;go_wp2;go_ret;exact ⟨rfl,rfl⟩
def yJ (b:Nat) (W:World) (sv:Value) (n:Nat) (val:Nat→Int):Prop:=
 (n=0∧∃a cap,sv=.slice a 0 cap)∨∃off cap,sv=.slice (some ⟨b,off,none⟩) n cap∧b<W.heap.size∧∀j,j<n→W.cell? ⟨b,off+j,none⟩=some (.int .i64 (val j))
theorem yJ.below {b:Nat} {A B:World} (h:Below A.heap.size A B) {sv:Value} {n:Nat} {val:Nat→Int}:yJ b A sv n val→yJ b B sv n val
 | .inl e=>.inl e
 | .inr ⟨off,cap,e,hb,hc⟩=>.inr ⟨off,cap,e,Nat.lt_of_lt_of_le hb h.size,fun j hj=>(h.cell (p:=⟨b,off+j,none⟩) hb).trans (hc j hj)⟩
theorem Gb (F:Fence) (m:Nat) (hF:F.fn 146) (hro:F.round=none) (hm:1≤m) (Bs b:Nat) (sv:Value) (n:Nat) (hmax:n<1099511627776) {α:Type} (el:Nat→α) (encs:α→Array Value) (val:Nat→Int)
 (henc:∀j,j<n→encs (el j)=#[.int .i64 (j:Int),.int .i64 (val j)]) (w:World) (Rl:Bs<w.heap.size) (hc:w.cell? ⟨Bs,0,none⟩=some sv) (hI:yJ b w sv n val) :
 SeqStopsK F m Tryz.prog 146 #[.pointer (some ⟨Bs,0,none⟩)] encs (jJ Bs b) (fun ys=>ys=rD el n n) (fun pre=>∃k,k≤n∧pre=rD el n k) n w:=fun l J Jx W hW _ _ hY h0=>by
 have hc':=(hW.cell (p:=⟨Bs,0,none⟩) Rl).trans hc;rcases hI.below hW with ⟨rfl,a,cap,rfl⟩|⟨off,cap,rfl,hb,hcs⟩
 ·exact (SS F m hF hro l Bs a cap J W hc' h0).mono fun e W' ⟨he,hj⟩=>⟨he,.inl ⟨_,rfl,by simpa [rD] using hj⟩⟩
 ·exact VM F m hF hro hm l Bs b off n cap hmax el encs val henc J Jx hY W hc' hcs h0
end
section
open Go.RowKit Go.Cd Go.Shelf
attribute [local go_sem] Oper.semAt_some
theorem SX {P:Program} {ops:Array Oper} {md:Region.Mode} {head:Array Bool} {Q:Exit→Act→World→Prop} {T:Array Bool→Act→World→Prop} {n:Nat} (i k:Nat) {o u:Oper} {listed:Array Bool} {a:Act} {w:World} (hB:(Region.ready md ops listed==[i,k]&&(head.getD i false&&head.getD k false))=true) (hi:nth ops.toList i=some o) (hk:nth ops.toList k=some u)
 (h:∀w',Below w.heap.size w w'→wpList P ops (QE Q w' (EN P md ops head Q T n (listed.setIfInBounds i true))) [o] a w') (h':∀w',Below w.heap.size w w'→wpList P ops (QE Q w' (EN P md ops head Q T n (listed.setIfInBounds k true))) [u] a w'):EN P md ops head Q T (n+1) listed a w:=by
 simp only [Bool.and_eq_true,beq_iff_eq] at hB;obtain ⟨hr,hh⟩:=hB;intro w' hw';refine ⟨by rw [hr];simp,fun j hj=>?_⟩;rw [hr] at hj;simp only [List.mem_cons,List.not_mem_nil,or_false] at hj;rcases hj with rfl|rfl
 ·exact ⟨hh.1,kz (dG hi) (h w' hw')⟩
 ·exact ⟨hh.2,kz (dG hk) (h' w' hw')⟩
abbrev fo:TypeId:=80
structure oP (W:World) (k:Nat) (a b c:Value) (T:TypeId):Prop where
 at_:W.heap[k]? = some (.cells #[a,b,c] T)
theorem oP.cell {W:World} {k:Nat} {a b c:Value} {T:TypeId} (h:oP W k a b c T):W.cell? ⟨k,0,none⟩=some a∧W.cell? ⟨k,1,none⟩=some b∧W.cell? ⟨k,2,none⟩=some c:=by
 refine ⟨?_,?_,?_⟩ <;> (unfold World.cell?;rw [h.at_];rfl)
theorem oP.frozen {W:World} {k:Nat} {a b c:Value} {T:TypeId} (h:oP W k a b c T) (o:Nat):W.frozen? ⟨k,o,none⟩=false:=by
 unfold World.frozen?;rw [h.at_];simp
theorem oP.set0 {W:World} {k:Nat} {a b c:Value} {T:TypeId} (h:oP W k a b c T) (u:Value):oP (W.setCell ⟨k,0,none⟩ u) k u b c T:=⟨heap_setCell_same W k 0 _ _ _ h.at_⟩
theorem oP.set1 {W:World} {k:Nat} {a b c:Value} {T:TypeId} (h:oP W k a b c T) (u:Value):oP (W.setCell ⟨k,1,none⟩ u) k a u c T:=⟨heap_setCell_same W k 1 _ _ _ h.at_⟩
theorem oP.set2 {W:World} {k:Nat} {a b c:Value} {T:TypeId} (h:oP W k a b c T) (u:Value):oP (W.setCell ⟨k,2,none⟩ u) k a b u T:=⟨heap_setCell_same W k 2 _ _ _ h.at_⟩
theorem oP.put {W:World} {k:Nat} {a b c:Value} {T:TypeId} (h:oP W k a b c T) {j o:Nat} (hj:k≠j) (u:Value):oP (W.setCell ⟨j,o,none⟩ u) k a b c T:=⟨(Below.heap_setCell _ _ _ _ (by simp only;omega)).trans h.at_⟩
theorem oP.mono {W W':World} {k:Nat} {a b c:Value} {T:TypeId} (h:oP W k a b c T) (hb:Below W.heap.size W W'):oP W' k a b c T:=⟨(hb.block k (block_lt h.at_)).trans h.at_⟩
theorem oP.writes {W:World} {k:Nat} {a b c:Value} {T:TypeId} (h:oP W k a b c T):(W.cell? ⟨k,0,none⟩=some a∧W.frozen? ⟨k,0,none⟩=false)∧
 (∀u,(W.setCell ⟨k,0,none⟩ u).cell? ⟨k,1,none⟩=some b∧(W.setCell ⟨k,0,none⟩ u).frozen? ⟨k,1,none⟩=false)∧
 (∀u u',((W.setCell ⟨k,0,none⟩ u).setCell ⟨k,1,none⟩ u').cell? ⟨k,2,none⟩=some c∧((W.setCell ⟨k,0,none⟩ u).setCell ⟨k,1,none⟩ u').frozen? ⟨k,2,none⟩=false):=
 ⟨⟨h.cell.1,h.frozen 0⟩,fun u=>⟨(h.set0 u).cell.2.1,(h.set0 u).frozen 1⟩,fun u u'=>⟨((h.set0 u).set1 u').cell.2.2,((h.set0 u).set1 u').frozen 2⟩⟩
theorem sK {W:World} {k:Nat} {u:Value} {T:TypeId} (h:W.heap[k]? = some (.cells #[u] T)):W.cell? ⟨k,0,none⟩=some u∧W.frozen? ⟨k,0,none⟩=false:=by
 constructor
 ·unfold World.cell?;rw [h];rfl
 ·unfold World.frozen?;rw [h];rfl
abbrev BX (n:Nat):={ p:Nat×Nat // (p.1<n∨n=0)∧1≤p.2∧p.2<9223372036854775808 }
def De (n:Nat) (pre:List (BX n)):List Nat×Nat:=pre.foldl (fun s x=>(s.1.set x.1.1 s.2,s.2*x.1.2)) (List.replicate n 0,1)
theorem Gc {n:Nat} (pre:List (BX n)) (x:BX n):De n (pre++[x])=((De n pre).1.set x.1.1 (De n pre).2,(De n pre).2*x.1.2):=by simp [De]
theorem S_ {n:Nat} (pre:List (BX n)):(De n pre).1.length=n:=by
 unfold De;have:∀(l:List (BX n)) (s:List Nat×Nat),(l.foldl (fun s x=>(s.1.set x.1.1 s.2,s.2*x.1.2)) s).1.length=s.1.length:=by
  intro l
  induction l with
  | nil=>intro s;rfl
  | cons x l ih=>intro s;rw [List.foldl_cons,ih];simp
 rw [this];simp
def Ta (bs:List Nat) (j:Nat):BX bs.length:=
 if h:j<bs.length∧1≤bs[j]?.getD 0∧bs[j]?.getD 0<9223372036854775808 then ⟨(j,bs[j]?.getD 0),.inl h.1,h.2.1,h.2.2⟩
 else ⟨(0,1),by simp only;omega,by decide,by decide⟩
theorem Df {bs:List Nat} (h1:∀b∈bs,1≤b) (h2:∀b∈bs,b<9223372036854775808) {j:Nat} (hj:j<bs.length):(Ta bs j).1=(j,bs[j]):=by
 have e:bs[j]?.getD 0=bs[j]:=by rw [List.getElem?_eq_getElem hj];rfl
 unfold Ta;rw [dif_pos ⟨hj,by rw [e];exact h1 _ (List.getElem_mem _),by rw [e];exact h2 _ (List.getElem_mem _)⟩];simp only [e]
def dE:List Nat→Nat
 | []=>1
 | b::bs=>b*dE bs
def weights:List Nat→List Nat
 | []=>[]
 | _::bs=>dE bs::weights bs
@[simp] theorem yK:∀bs:List Nat,(weights bs).length=bs.length
  | []=>rfl
  | _::bs=>by simp [weights,yK bs]
theorem uF:∀{bs:List Nat},(∀b∈bs,1≤b)→1≤dE bs
 | [],_=>Nat.le_refl _
 | b::bs,h=>Nat.mul_le_mul (h b (by simp)) (uF fun c hc=>h c (by simp [hc]))
theorem yL:∀{bs:List Nat},(∀b∈bs,1≤b)→∀k,dE (bs.drop k)≤dE bs
 | [],_,k=>by simp
 | b::bs,_,0=>by simp
 | b::bs,h,k+1=>by
   have h1:=yL (bs:=bs) (fun c hc=>h c (by simp [hc])) k;have h2:=Nat.le_mul_of_pos_left (dE bs) (h b (by simp));simp only [List.drop_succ_cons,dE];omega
theorem Jb {bs:List Nat} (h1:∀b∈bs,1≤b) (h2:∀b∈bs,b<9223372036854775808):∀k,k≤bs.length→
 De bs.length (rD (Ta bs) bs.length k)=(List.replicate (bs.length-k) 0++weights (bs.drop (bs.length-k)),dE (bs.drop (bs.length-k)))
 | 0,_=>by
   rw [Nat.sub_zero,List.drop_length];show De bs.length []=_;simp [De,weights,dE]
 | k+1,hk=>by
   have ih:=Jb h1 h2 k (by omega);rw [oz,Gc,ih];obtain ⟨i,hi⟩:=af (bs.length-1-k);have e1:bs.length-k=i+1:=by omega
   have e2:bs.length-(k+1)=i:=by omega
   have hil:i<bs.length:=by omega
   rw [←hi,Df h1 h2 hil,e1,e2];have e3:bs.drop i=bs[i]::bs.drop (i+1):=List.drop_eq_getElem_cons hil;rw [e3];simp only [weights,dE];rw [Nat.mul_comm];congr 1;rw [List.set_append_left _ _ (by simp),List.replicate_succ',List.set_append_right _ _ (by simp)];simp
def mD (w:World) (v:Value) (bs:List Nat):Prop:=∃s1 s2,v=.agg #[s1,s2,.int .i64 (dE bs:Nat)]∧bD w s1 (ds bs)∧bD w s2 (ds (weights bs))
theorem mD.mono {w w':World} {v:Value} {bs:List Nat} (h:mD w v bs) (hb:Below w.heap.size w w'):mD w' v bs:=by
 obtain ⟨s1,s2,hv,h1,h2⟩:=h;exact ⟨s1,s2,hv,h1.mono hb,h2.mono hb⟩
theorem Gd {bs:List Nat} (h1:∀b∈bs,1≤b) (h2:∀b∈bs,b<9223372036854775808) {k:Nat} (hk:k≤bs.length) {Xt:List (BX bs.length)} {last:BX bs.length} (e1:rD (Ta bs) bs.length k=Xt++[last])
 (e2:1073741824 / (De bs.length Xt).2<last.1.2):1073741824<dE bs:=by
 cases k with
 | zero=>simp [rD] at e1
 | succ k=>
   rw [oz] at e1;obtain ⟨e3,e4⟩:=List.append_inj' e1 rfl;have e5:Ta bs (bs.length-1-k)=last:=by simpa using e4
   rw [←e3,Jb h1 h2 k (by omega),←e5] at e2;obtain ⟨i,hi⟩:=af (bs.length-1-k);have hil:i<bs.length:=by omega
   rw [←hi,Df h1 h2 hil,show bs.length-k=i+1 from by omega] at e2;simp only at e2;have hd:=yL h1 i;rw [List.drop_eq_getElem_cons hil] at hd;simp only [dE] at hd;have hp:=uF (bs:=bs.drop (i+1)) (fun b hb=>h1 b (List.mem_of_mem_drop hb));generalize dE (bs.drop (i+1))=p at *;generalize bs[i]=b at *;have h3:1073741824<b*p:=by
    have:=Nat.lt_mul_of_div_lt e2 (by omega);exact this
   omega
end
section
open Go.RowKit Go.Cd Go.Shelf
attribute [local go_sem] Oper.semAt_some
theorem VN (bs:List Nat) (h:∀b∈bs,1≤b):((bs.map fun b:Nat=>(b:Int)).any fun b=>decide (b<1))=false:=by
 rw [List.any_eq_false];intro b hb;obtain ⟨c,hc,rfl⟩:=List.mem_map.1 hb;have:=h c hc;simp;omega
theorem Dg (bs:List Nat):bH (bs.map fun b:Nat=>(b:Int))=ds bs:=by simp [bH,ds]
def iF (w:World) (v:Value) (bs:List Nat):Prop:=∃s1 s2,v=.agg #[s1,s2,.int .i64 (dE bs:Nat)]∧Sl aU w s1 (ds bs)∧Sl aU w s2 (ds (weights bs))
theorem iF.weak {w:World} {v:Value} {bs:List Nat} (h:iF w v bs):mD w v bs:=by
 obtain ⟨s1,s2,hv,h1,h2⟩:=h;exact ⟨s1,s2,hv,h1.any,h2.any⟩
theorem iF.mono {w w':World} {v:Value} {bs:List Nat} (h:iF w v bs) (hb:Below w.heap.size w w'):iF w' v bs:=by
 obtain ⟨s1,s2,hv,h1,h2⟩:=h;exact ⟨s1,s2,hv,h1.mono hb,h2.mono hb⟩
theorem Tc {w:World} {v:Value} {bs:List Nat} (h:bD w v (ds bs)) (hmax:bs.length<1099511627776) (hpos:∀b∈bs,1≤b) (hbig:∀b∈bs,b<9223372036854775808) :
 Calls Tryz.prog 74 #[v] w fun e w'=>∃(r:Value) (e0:Nat),e=.returned (.tuple #[r,.int .i64 e0])∧Below w.heap.size w w'∧((dE bs≤1073741824∧e0=0∧iF w' r bs)∨(1073741824<dE bs∧e0=4∧r=.agg #[.slice none 0 0,.slice none 0 0,.int .i64 0])):=by
 rw [←Dg] at h;have hb:=dF (w:=w) (.cells #[.slice none 0 0,.slice none 0 0,.int .i64 0] fo) (.cells #[.int .i64 0] 114);have CF:=ae (wC (h.mono hb) (by simpa using hmax));have z2:((w.alloc (.cells #[.slice none 0 0,.slice none 0 0,.int .i64 0] fo)).alloc (.cells #[.int .i64 0] 114)).heap[w.heap.size]? = some (.cells #[.slice none 0 0,.slice none 0 0,.int .i64 0] fo):=((ai _).block _ (by simp)).trans (heap_alloc_new' _ _ _ rfl);have z3:((w.alloc (.cells #[.slice none 0 0,.slice none 0 0,.int .i64 0] fo)).alloc (.cells #[.int .i64 0] 114)).heap[w.heap.size+1]? = some (.cells #[.int .i64 0] 114):=heap_alloc_new' _ _ _ (by simp);rw [VN bs hpos] at CF;have CL:=ae (fun (W:World) (E:Below _ ((w.alloc (.cells #[.slice none 0 0,.slice none 0 0,.int .i64 0] fo)).alloc (.cells #[.int .i64 0] 114)) W)=>Bu ((h.mono hb).mono E) (by simpa using hmax));rw [Dg,List.length_map] at CL;obtain ⟨x1,wI,rfl,hcp1,_⟩:=bD.lD h;rw [List.length_map] at *;have Td:=ae hpos;have Te:=ae hbig;clear h hpos hbig;refine jK Tryz.func74 rfl ?_;simp only [Tryz.ntmps74,List.size_toArray,List.length_cons,List.length_nil,Nat.reduceAdd,Nat.reduceSub,Array.replicate_succ,Array.replicate_zero,List.push_toArray,List.append_toArray,List.nil_append,List.cons_append];go_wp2_with fail;refine CF.out.mono ?_;rintro e w2 ⟨rfl,hb2⟩;have y2:oP w2 w.heap.size (.slice none 0 0) (.slice none 0 0) (.int .i64 0) fo:=⟨(hb2.block _ (by simp <;> omega)).trans z2⟩;have y3:=(hb2.block _ (by simp)).trans z3;have T0:=wU w2;have UE:=ae (fun (W:World) (E:Below w2.heap.size w2 W)=>CL.out W (ag hb2 E));have hB2:=hb.trans (hb2.mono hb.size);have hs2:w.heap.size+2≤w2.heap.size:=by have:=hb2.size;simp at this;omega
 clear CF CL hb2 hb z2 z3;go_upto_region 3 with fail
 go_cut [4] from 10 to 15 (fun pv W0=>∃(X:Nat) (a1:Option Addr) (c1 g:Nat),pv=.pointer (some ⟨X,0,none⟩)∧oP W0 X (.slice a1 bs.length c1) (.slice (some ⟨g,0,none⟩) bs.length bs.length) (.int .i64 1) fo∧W0.ownsRow 0 aU 1 (.slice a1 bs.length c1) bs.length (ds bs)∧W0.ownsRow 0 aU 1 (.slice (some ⟨g,0,none⟩) bs.length bs.length) bs.length (List.replicate bs.length (Value.int .i64 0))∧
  oP W0 w.heap.size (.slice none 0 0) (.slice none 0 0) (.int .i64 0) fo∧W0.heap[w.heap.size+1]? = some (.cells #[.int .i64 0] 114)∧Below w.heap.size w W0∧(Value.slice a1 bs.length c1).ownBlock≠some g∧w2.heap.size≤g∧w2.heap.size≤X∧g≠X∧(Value.slice a1 bs.length c1).ownBlock≠some X)
 case first=>
  refine aD #[true,true,true,true,true,true,true,false] 7 1 mixed (by rfl) ?_;have Mg:=ag T0 (ah _);refine ay [0,2,3] 4 rfl (by kernel_rfl) ?_
  iterate 3 (refine aC rfl ?_;go_big_quiet_step (rfl))
  refine ak ?_;refine Ik [6] (fun _ v W=>∃k,v=.pointer (some ⟨k,0,none⟩)∧W.heap[k]? = some (.cells #[.slice none 0 0,.slice none 0 0,.int .i64 0] fo)) aaI 3 rfl (by kernel_rfl) (fun _ _ _ _ hb h=>yn hb h) ?_ ?_
  ·intro i hi o ho;simp only [List.mem_cons,List.not_mem_nil,or_false] at hi;subst hi;cases ho;exact ym rfl rfl (fun W=>by go_simp)
  refine SX 1 4 (by kernel_rfl) rfl rfl ?_ ?_
  ·intro k1v k1c;have k1D:=ag Mg k1c;go_wp2_with fail;refine (UE.out _ k1D).mono ?_;rintro e Zl ⟨s1,rfl,o1,Mh⟩;obtain ⟨a1,c1,rfl,_,_⟩:=bD.out (Sl.aT o1).any;rw [bW] at *;go_wp2_with fail;refine aH Mh ?_;have M8:=ag k1D Mh;refine oD 4 (by kernel_rfl) rfl ?_;intro UF Tf;go_wp2_with (at_make;refine dY _ rfl _ _ 23 rfl UF.heap.size aU _ 8 fA rfl .i64 .i64 _ _ bs.length rfl rfl (by omega) (by omega) (by omega) (by unfold maxLen;omega) (by simp) ?_;intro Jc o2 hg2);refine aH (eH hg2) ?_;have Bv:=eH hg2;have QL:=ag (ag M8 Tf) Bv;have hne:(Value.slice a1 bs.length c1).ownBlock≠some UF.heap.size:=fun e=>by
    have:=(o1.lt _ e).2;have:=Tf.size;omega
   have o1:=aG o1 (ag Tf Bv);obtain ⟨g,hg⟩:=af UF.heap.size;rw [←hg] at o2 hne ⊢;have hgs:w2.heap.size≤g:=by have:=(ag M8 Tf).size;omega
   clear hg hg2 k1D M8 Mh k1c Tf Bv Mg;refine rM [5] 0 rfl (by kernel_rfl) ?_;refine aC rfl ?_;go_big_quiet_step (rfl);refine ak ?_;refine rQ [7] (by kernel_rfl) ?_;intro W Wb vs hR hD;have WE:=ag QL Wb;obtain ⟨⟨X,hv,hh⟩,hN,hbk⟩:=hR 6 (by simp);rw [hv] at hN hbk;simp only [aaI] at hN hbk;rw [sw (d:=some 4) rfl,hv];have o1:=aG o1 Wb;have o2:=aG o2 Wb;have IX:oP W X (.slice none 0 0) (.slice none 0 0) (.int .i64 0) fo:=⟨hh⟩;have UG:g≠X:=fun e=>by
    have:=o2.2;rcases this with ⟨h,_⟩|⟨g',_,cur,h,_,h2,_⟩
    ·cases h
    ·cases h;rw [e,hh] at h2;cases h2
   have Mi:(Value.slice a1 bs.length c1).ownBlock≠some X:=fun e=>by
    rcases o1.2 with ⟨h,_⟩|⟨g',_,cur,h,_,h2,_⟩
    ·rw [h] at e;cases e
    ·rw [h] at e;cases e;rw [hh] at h2;cases h2
   obtain ⟨⟨g1,g2⟩,g3,g4⟩:=IX.writes;have g5:=fun u=>(g3 u).1;have g6:=fun u=>(g3 u).2;have g7:=fun u u'=>(g4 u u').1;have g8:=fun u u'=>(g4 u u').2;have Xu:=oP.set0 IX (.slice a1 bs.length c1);have Xv:=Xu.set1 (.slice (some ⟨g,0,none⟩) bs.length bs.length);have FX:=Xv.set2 (.int .i64 1);have hW0:∀(W:World) (k o:Nat) (u:Value),W.grownBy (W.setCell ⟨k,o,none⟩ u) (some k):=fun W k o u=>⟨rfl,rfl,rfl,by simp,fun j _ hj=>heap_setCell_other W ⟨k,o,none⟩ j u (fun e=>hj (by simp [e]))⟩;have o1:=((o1.kept (hW0 _ X 0 (.slice a1 bs.length c1)) (.inr Mi)).kept (hW0 _ X 1 (.slice (some ⟨g,0,none⟩) bs.length bs.length)) (.inr Mi)).kept (hW0 _ X 2 (.int .i64 1)) (.inr Mi);have Jd:(Value.slice (some ⟨g,0,none⟩) bs.length bs.length).ownBlock≠some X:=fun e=>UG (by simpa [Value.ownBlock] using e);have o2:=((o2.kept (hW0 _ X 0 (.slice a1 bs.length c1)) (.inr Jd)).kept (hW0 _ X 1 (.slice (some ⟨g,0,none⟩) bs.length bs.length)) (.inr Jd)).kept (hW0 _ X 2 (.int .i64 1)) (.inr Jd);have hN':w2.heap.size≤X:=hN;have hX2:w.heap.size+2≤X:=by omega
   have F2:=(((y2.mono WE).put (j:=X) (o:=0) (by omega) (.slice a1 bs.length c1)).put (j:=X) (o:=1) (by omega) (.slice (some ⟨g,0,none⟩) bs.length bs.length)).put (j:=X) (o:=2) (by omega) (.int .i64 1);have F3:(((W.setCell ⟨X,0,none⟩ (.slice a1 bs.length c1)).setCell ⟨X,1,none⟩ (.slice (some ⟨g,0,none⟩) bs.length bs.length)).setCell ⟨X,2,none⟩ (.int .i64 1)).heap[w.heap.size+1]? = some (.cells #[.int .i64 0] 114):=by
    rw [Below.heap_setCell _ _ _ _ (by simp only;omega),Below.heap_setCell _ _ _ _ (by simp only;omega),Below.heap_setCell _ _ _ _ (by simp only;omega)];exact (WE.block _ (block_lt y3)).trans y3
   have EB:Below w.heap.size w (((W.setCell ⟨X,0,none⟩ (.slice a1 bs.length c1)).setCell ⟨X,1,none⟩ (.slice (some ⟨g,0,none⟩) bs.length bs.length)).setCell ⟨X,2,none⟩ (.int .i64 1)):=
    aj (aj (aj (hB2.trans (WE.mono hB2.size)) (by omega)) (by omega)) (by omega)
   refine ug (os:=[_]) rfl ?_;clear WE Wb hR hD hv hh hN hbk QL IX Xu Xv g3 g4;go_wp2_with fail;clear g1 g2 g5 g6 g7 g8;refine uh ?_;obtain ⟨W0,hW⟩:∃W0,((W.setCell ⟨X,0,none⟩ (.slice a1 bs.length c1)).setCell ⟨X,1,none⟩ (.slice (some ⟨g,0,none⟩) bs.length bs.length)).setCell ⟨X,2,none⟩ (.int .i64 1)=W0:=⟨_,rfl⟩;rw [hW] at FX o1 o2 F2 F3 EB ⊢;clear hW;go_wp2_with fail;go_meet;exact ⟨X,a1,c1,g,rfl,FX,lM o1 (Nat.zero_le _),lM o2 (Nat.zero_le _),F2,F3,EB,hne,hgs,hN',UG,Mi⟩
  ·intro UF Tf;go_wp2_with (at_make;refine dY _ rfl _ _ 23 rfl UF.heap.size aU _ 8 fA rfl .i64 .i64 _ _ bs.length rfl rfl (by omega) (by omega) (by omega) (by unfold maxLen;omega) (by simp) ?_;intro k1v o2 hg2);refine aH (eH hg2) ?_;have M8:=ag (ag Mg Tf) (eH hg2);refine oD 1 (by kernel_rfl) rfl ?_;intro k3v k3c;have k3D:=ag M8 k3c;go_wp2_with fail;refine (UE.out _ k3D).mono ?_;rintro e Jc ⟨s1,rfl,o1,Bv⟩;obtain ⟨a1,c1,rfl,_,_⟩:=bD.out (Sl.aT o1).any;rw [bW] at *;go_wp2_with fail;refine aH Bv ?_;have QL:=ag k3D Bv;have hgl:=(o2.lt UF.heap.size rfl).2;have hne:(Value.slice a1 bs.length c1).ownBlock≠some UF.heap.size:=fun e=>by
    have:=(o1.lt _ e).1;have:=k3c.size;omega
   have o2:=aG o2 (ag k3c Bv);obtain ⟨g,hg⟩:=af UF.heap.size;rw [←hg] at o2 hne ⊢;have hgs:w2.heap.size≤g:=by have:=(ag Mg Tf).size;omega
   clear hg hg2 hgl M8 k3D Bv Tf k3c Mg;refine rM [5] 0 rfl (by kernel_rfl) ?_;refine aC rfl ?_;go_big_quiet_step (rfl);refine ak ?_;refine rQ [7] (by kernel_rfl) ?_;intro W Wb vs hR hD;have WE:=ag QL Wb;obtain ⟨⟨X,hv,hh⟩,hN,hbk⟩:=hR 6 (by simp);rw [hv] at hN hbk;simp only [aaI] at hN hbk;rw [sw (d:=some 4) rfl,hv];have o1:=aG o1 Wb;have o2:=aG o2 Wb;have IX:oP W X (.slice none 0 0) (.slice none 0 0) (.int .i64 0) fo:=⟨hh⟩;have UG:g≠X:=fun e=>by
    have:=o2.2;rcases this with ⟨h,_⟩|⟨g',_,cur,h,_,h2,_⟩
    ·cases h
    ·cases h;rw [e,hh] at h2;cases h2
   have Mi:(Value.slice a1 bs.length c1).ownBlock≠some X:=fun e=>by
    rcases o1.2 with ⟨h,_⟩|⟨g',_,cur,h,_,h2,_⟩
    ·rw [h] at e;cases e
    ·rw [h] at e;cases e;rw [hh] at h2;cases h2
   obtain ⟨⟨g1,g2⟩,g3,g4⟩:=IX.writes;have g5:=fun u=>(g3 u).1;have g6:=fun u=>(g3 u).2;have g7:=fun u u'=>(g4 u u').1;have g8:=fun u u'=>(g4 u u').2;have Xu:=oP.set0 IX (.slice a1 bs.length c1);have Xv:=Xu.set1 (.slice (some ⟨g,0,none⟩) bs.length bs.length);have FX:=Xv.set2 (.int .i64 1);have hW0:∀(W:World) (k o:Nat) (u:Value),W.grownBy (W.setCell ⟨k,o,none⟩ u) (some k):=fun W k o u=>⟨rfl,rfl,rfl,by simp,fun j _ hj=>heap_setCell_other W ⟨k,o,none⟩ j u (fun e=>hj (by simp [e]))⟩;have o1:=((o1.kept (hW0 _ X 0 (.slice a1 bs.length c1)) (.inr Mi)).kept (hW0 _ X 1 (.slice (some ⟨g,0,none⟩) bs.length bs.length)) (.inr Mi)).kept (hW0 _ X 2 (.int .i64 1)) (.inr Mi);have Jd:(Value.slice (some ⟨g,0,none⟩) bs.length bs.length).ownBlock≠some X:=fun e=>UG (by simpa [Value.ownBlock] using e);have o2:=((o2.kept (hW0 _ X 0 (.slice a1 bs.length c1)) (.inr Jd)).kept (hW0 _ X 1 (.slice (some ⟨g,0,none⟩) bs.length bs.length)) (.inr Jd)).kept (hW0 _ X 2 (.int .i64 1)) (.inr Jd);have hN':w2.heap.size≤X:=hN;have hX2:w.heap.size+2≤X:=by omega
   have F2:=(((y2.mono WE).put (j:=X) (o:=0) (by omega) (.slice a1 bs.length c1)).put (j:=X) (o:=1) (by omega) (.slice (some ⟨g,0,none⟩) bs.length bs.length)).put (j:=X) (o:=2) (by omega) (.int .i64 1);have F3:(((W.setCell ⟨X,0,none⟩ (.slice a1 bs.length c1)).setCell ⟨X,1,none⟩ (.slice (some ⟨g,0,none⟩) bs.length bs.length)).setCell ⟨X,2,none⟩ (.int .i64 1)).heap[w.heap.size+1]? = some (.cells #[.int .i64 0] 114):=by
    rw [Below.heap_setCell _ _ _ _ (by simp only;omega),Below.heap_setCell _ _ _ _ (by simp only;omega),Below.heap_setCell _ _ _ _ (by simp only;omega)];exact (WE.block _ (block_lt y3)).trans y3
   have EB:Below w.heap.size w (((W.setCell ⟨X,0,none⟩ (.slice a1 bs.length c1)).setCell ⟨X,1,none⟩ (.slice (some ⟨g,0,none⟩) bs.length bs.length)).setCell ⟨X,2,none⟩ (.int .i64 1)):=
    aj (aj (aj (hB2.trans (WE.mono hB2.size)) (by omega)) (by omega)) (by omega)
   refine ug (os:=[_]) rfl ?_;clear WE Wb hR hD hv hh hN hbk QL IX Xu Xv g3 g4;go_wp2_with fail;clear g1 g2 g5 g6 g7 g8;refine uh ?_;obtain ⟨W0,hW⟩:∃W0,((W.setCell ⟨X,0,none⟩ (.slice a1 bs.length c1)).setCell ⟨X,1,none⟩ (.slice (some ⟨g,0,none⟩) bs.length bs.length)).setCell ⟨X,2,none⟩ (.int .i64 1)=W0:=⟨_,rfl⟩;rw [hW] at FX o1 o2 F2 F3 EB ⊢;clear hW;go_wp2_with fail;go_meet;exact ⟨X,a1,c1,g,rfl,FX,lM o1 (Nat.zero_le _),lM o2 (Nat.zero_le _),F2,F3,EB,hne,hgs,hN',UG,Mi⟩
 case rest=>
  rename World=>W0;obtain ⟨X,a1,c1,g,rfl,FX,o1,o2,F2,F3,EB,hne,hgs,hN,UG,Mi⟩:=hcut;have hX2:w.heap.size+2≤X:=by omega
  have hW0:∀(W:World) (k o:Nat) (u:Value),W.grownBy (W.setCell ⟨k,o,none⟩ u) (some k):=fun W k o u=>⟨rfl,rfl,rfl,by simp,fun j _ hj=>heap_setCell_other W ⟨k,o,none⟩ j u (fun e=>hj (by simp [e]))⟩;obtain ⟨e0,e1,e2⟩:=FX.cell;go_wp2_with fail;refine (Dc _ W0 ⟨_,_,_,rfl⟩).mono ?_;rintro e w5 ⟨rfl,rfl⟩;go_wp2_with fail;have G5:=ae hne;have WL:=ae (show W0.heap.size≤(W0.alloc (.cells #[.slice a1 bs.length c1] 23)).heap.size by simp);have hX0:X<W0.heap.size:=block_lt FX.at_;have hg0:g<W0.heap.size:=(o2.lt g rfl).2;have e2:List.replicate bs.length (Value.int .i64 0)=ds (De bs.length []).1:=by simp [ds,De]
  rw [e2] at o2;obtain ⟨bb,hbl,Yo,hIA⟩:∃bb,bb≤W0.heap.size∧(0<bs.length→(Value.slice a1 bs.length c1).ownBlock=some bb)∧yJ bb (W0.alloc (.cells #[.slice a1 bs.length c1] 23)) (.slice a1 bs.length c1) bs.length (fun j=>((Ta bs j).1.2:Int)):=by
   rcases (Sl.aT o1).any.cases with ⟨hn,a,cap,hv,_⟩|⟨b,off,cap,hv,hc,hp,hb,hx⟩
   ·have hl:bs=[]:=by simpa [ds] using hn
    subst hl;exact ⟨0,Nat.zero_le _,fun h=>absurd h (by simp),.inl ⟨rfl,_,_,rfl⟩⟩
   ·rw [bW] at hv;cases hv;refine ⟨b,Nat.le_of_lt hb,fun _=>rfl,.inr ⟨off,_,rfl,by simp;omega,fun j hj=>?_⟩⟩;rw [(ai _).cell (p:=⟨b,off+j,none⟩) hb,hx j (by rw [bW];exact hj),eU _ _ hj];show _=some (Value.int .i64 (((Ta bs j).1.2:Nat):Int));rw [Df Td.out Te.out hj]
  refine (wpIn_wide (n:=5)).1 ?_;refine wpIn_rangeFunc_ownG (F:=Fence.wide) rfl (by omega) (gf:=146) (lb:=#[.pointer (some ⟨W0.heap.size,0,none⟩)]) rfl trivial (enters_of Tryz.func146 (by kernel_rfl) rfl)
   (Gb Fence.wide 4 trivial rfl (by omega) W0.heap.size bb (.slice a1 bs.length c1) bs.length hmax (Ta bs) (fun x=>#[.int .i64 (x.1.1:Int),.int .i64 (x.1.2:Int)]) (fun j=>((Ta bs j).1.2:Int))
     (fun j hj=>by rw [Df Td.out Te.out hj]) (W0.alloc (.cells #[.slice a1 bs.length c1] 23)) (by simp) (by go_simp) hIA)
   (fun h k=>h.trans k) (fun W l o o' hl ho hc _=>by
     have hl':W0.heap.size+1≤l:=by simpa using hl
     exact ⟨World.putObj_heap_other (by omega),World.putObj_heap_other (by omega)⟩) (Below.refl _ _) (fun _=>rfl)
   (fun pre W=>(((1≤(De bs.length pre).2∧(De bs.length pre).2≤1073741824)∧oP W X (.slice a1 bs.length c1) (.slice (some ⟨g,0,none⟩) bs.length bs.length) (.int .i64 ((De bs.length pre).2:Nat)) fo∧W.ownsRow 0 aU 1 (.slice (some ⟨g,0,none⟩) bs.length bs.length) bs.length (ds (De bs.length pre).1)∧
     W.ownsRow 0 aU 1 (.slice a1 bs.length c1) bs.length (ds bs)∧oP W w.heap.size (.slice none 0 0) (.slice none 0 0) (.int .i64 0) fo∧W.heap[w.heap.size+1]? = some (.cells #[.int .i64 0] 114))∧Below w.heap.size w W))
   (fun c pre W=>(c=.ret∧(∃(Xt:List (BX bs.length)) (last:BX bs.length),pre=Xt++[last]∧1073741824 / (De bs.length Xt).2<last.1.2)∧oP W w.heap.size (.slice none 0 0) (.slice none 0 0) (.int .i64 0) fo∧W.heap[w.heap.size+1]? = some (.cells #[.int .i64 4] 114))∧Below w.heap.size w W)
   (OwnFrom.and (Own.from (fun s A B row hs hg hr=>⟨hs.1,⟨pM hg hr hs.2.1.at_⟩,Ro hg hr hs.2.2.1,Ro hg hr hs.2.2.2.1,⟨pM hg hr hs.2.2.2.2.1.at_⟩,pM hg hr hs.2.2.2.2.2⟩) _) (ownFrom_below (Nat.le_refl _) (by have:=EB.size;simp;omega)))
   (fun c=>OwnFrom.and (Own.from (fun s A B row hs hg hr=>⟨hs.1,hs.2.1,⟨pM hg hr hs.2.2.1.at_⟩,pM hg hr hs.2.2.2⟩) _) (ownFrom_below (Nat.le_refl _) (by have:=EB.size;simp;omega)))
   ⟨⟨⟨Nat.le_refl _,by show (1:Nat)≤1073741824;decide⟩,FX.mono (ai _),lM (aG o2 (ai _)) (Nat.zero_le _),lM (aG o1 (ai _)) (Nat.zero_le _),F2.mono (ai _),((ai _).block _ (block_lt F3)).trans F3⟩,EB.alloc EB.size _⟩
   (fun x=>{ tmps:=#[.slice x1 bs.length wI,undef,.pointer (some ⟨w.heap.size,0,none⟩),.pointer (some ⟨w.heap.size+1,0,none⟩),.pointer (some ⟨X,0,none⟩),.int .i64 (x.1.1:Int),.int .i64 (x.1.2:Int),.slice x1 bs.length wI,.bool false,undef,u10,u11,u12,u13,u14,u15,.pointer (some ⟨X,0,none⟩),.slice a1 bs.length c1,
     .func (.func 146) #[] #[.pointer (some ⟨W0.heap.size,0,none⟩)],.int .i64 (x.1.1:Int),.int .i64 (x.1.2:Int),undef,undef,undef,undef,undef,undef,undef,undef,undef,undef,undef,undef,undef,undef,undef,undef,undef,undef],defers:=[] }) ?assign ?body ?done ?stop
  case assign=>
   intro l x W K hK
   gi_wp2
   exact hK
  case body=>
   rintro l pre ⟨⟨i,b⟩,hi,hb1,hb2⟩ Wr ⟨⟨⟨hs1,hs2⟩,JX,q2,q1,G2,G3⟩,hB⟩ hlt;have hin:i<bs.length:=by rcases hi with h|h;exact h;omega
   have hsn:=Gc pre ⟨(i,b),hi,hb1,hb2⟩;have hsl:=S_ pre;obtain ⟨row,s,hst⟩:∃row s,De bs.length pre=(row,s):=⟨_,_,rfl⟩;rw [hst] at hsn hsl hs1 hs2 JX q2;simp only at hsn hsl hs1 hs2 JX q2 hb1 hb2 hi;have HST:=ae hst;have HSN:=ae hsn;clear hst hsn;obtain ⟨u0,u1,u2⟩:=JX.cell;obtain ⟨hcell,hfr⟩:=gJ q2 (j:=i) (by simp;omega);rw [eU _ _ (by omega)] at hcell;have adi:X≠g:=fun e=>UG e.symm;obtain ⟨q3,hgr⟩:=q2.stored i (.int .i64 (s:Int));have e3:(ds row).set i (.int .i64 (s:Int))=ds (row.set i s):=by simp [ds,List.map_set]
   rw [e3] at q3;have hne2:=G5.out;have q4:=q1.kept hgr (.inr hne2);have KX:=JX.put (j:=g) (o:=i) adi (.int .i64 (s:Int));have hg2:w.heap.size+2≤g:=by omega
   have K2:=G2.put (j:=g) (o:=i) (by omega) (.int .i64 (s:Int));have K3:(Wr.setCell ⟨g,i,none⟩ (.int .i64 (s:Int))).heap[w.heap.size+1]? = some (.cells #[.int .i64 0] 114):=by rw [Below.heap_setCell _ _ _ _ (by simp only;omega)];exact G3
   have hB3:=aj (off:=i) (u:=.int .i64 (s:Int)) (b:=g) hB (by omega);obtain ⟨v0,v1,v2⟩:=KX.cell;have v3:=KX.frozen 2;have hsz:s≠0:=by omega
   have adj:KeepsFrom W0.heap.size Wr (Wr.setCell ⟨g,i,none⟩ (.int .i64 (s:Int))):=(KeepsOthers.setCell _ _ _).from _;by_cases hbig:1073741824 / s<b
   ·have hbd:decide ((1073741824:Int) / (s:Int)<(b:Int))=true:=decide_eq_true (by have:=Int.ofNat_lt.2 hbig;rw [Int.natCast_ediv] at this;exact this);have hbi:(1073741824:Int) / (s:Int)<(b:Int):=of_decide_eq_true hbd;obtain ⟨⟨g1,g2⟩,g3,g4⟩:=K2.writes;have g5:=fun u=>(g3 u).1;have g6:=fun u=>(g3 u).2;have g7:=fun u u'=>(g4 u u').1;have g8:=fun u u'=>(g4 u u').2;have J2:=((K2.set0 (.slice none 0 0)).set1 (.slice none 0 0)).set2 (.int .i64 0);have J3:(((((Wr.setCell ⟨g,i,none⟩ (.int .i64 (s:Int))).setCell ⟨w.heap.size,0,none⟩ (.slice none 0 0)).setCell ⟨w.heap.size,1,none⟩ (.slice none 0 0)).setCell ⟨w.heap.size,2,none⟩ (.int .i64 0))).heap[w.heap.size+1]? = some (.cells #[.int .i64 0] 114):=by
     rw [Below.heap_setCell _ _ _ _ (by simp),Below.heap_setCell _ _ _ _ (by simp),Below.heap_setCell _ _ _ _ (by simp)];exact K3
    obtain ⟨g9,g10⟩:=sK J3;have Zm:=J2.put (j:=w.heap.size+1) (o:=0) (by omega) (.int .i64 4);have Zn:=Bn (u:=.int .i64 4) J3;have VO:=aj (off:=0) (u:=.int .i64 4) (b:=w.heap.size+1) (aj (off:=2) (u:=.int .i64 0) (b:=w.heap.size) (aj (off:=1) (u:=.slice none 0 0) (b:=w.heap.size) (aj (off:=0) (u:=.slice none 0 0) (b:=w.heap.size) hB3 (Nat.le_refl _)) (Nat.le_refl _)) (Nat.le_refl _)) (by omega);have hkf:=((((KeepsOthers.setCell Wr ⟨g,i,none⟩ (.int .i64 (s:Int))).trans (KeepsOthers.setCell _ ⟨w.heap.size,0,none⟩ (.slice none 0 0))).trans (KeepsOthers.setCell _ ⟨w.heap.size,1,none⟩ (.slice none 0 0))).trans (KeepsOthers.setCell _ ⟨w.heap.size,2,none⟩ (.int .i64 0))).trans (KeepsOthers.setCell _ ⟨w.heap.size+1,0,none⟩ (.int .i64 4));clear g3 g4 J2 J3 K2 K3 G2 G3 hB hB3 q1 q2 q3 q4 KX JX hgr
    gi_wp2
    exact ⟨hkf.from _,⟨rfl,⟨pre,⟨(i,b),hi,hb1,hb2⟩,rfl,by rw [HST.out];exact hbig⟩,Zm,Zn⟩,VO⟩
   ·have hbd:decide ((1073741824:Int) / (s:Int)<(b:Int))=false:=decide_eq_false (by have:=Int.ofNat_le.2 (Nat.le_of_not_lt hbig);rw [Int.natCast_ediv] at this;exact Int.not_lt.2 this);have hsb:s*b≤1073741824:=by
     have h1:=Nat.le_of_not_lt hbig;have h2:=Nat.mul_le_mul_left s h1;have h3:=Nat.mul_div_le 1073741824 s;omega
    have Zo:1≤s*b:=Nat.mul_le_mul hs1 hb1;have hww:wrap64 ((s:Int)*(b:Int))=((s*b:Nat):Int):=by rw [←Int.natCast_mul];unfold wrap64;omega
    have L2:=KX.set2 (.int .i64 ((s*b:Nat):Int));have adk:(Value.slice (some ⟨g,0,none⟩) bs.length bs.length).ownBlock≠some X:=fun e=>UG (by simpa [Value.ownBlock] using e);have q5:=q3.kept (hW0 _ X 2 (.int .i64 ((s*b:Nat):Int))) (.inr adk);have q6:=q4.kept (hW0 _ X 2 (.int .i64 ((s*b:Nat):Int))) (.inr Mi);have L3:=K2.put (j:=X) (o:=2) (by omega) (.int .i64 ((s*b:Nat):Int));have L4:((Wr.setCell ⟨g,i,none⟩ (.int .i64 (s:Int))).setCell ⟨X,2,none⟩ (.int .i64 ((s*b:Nat):Int))).heap[w.heap.size+1]? = some (.cells #[.int .i64 0] 114):=by rw [Below.heap_setCell _ _ _ _ (by simp only;omega)];exact K3
    have hB4:=aj (off:=2) (u:=.int .i64 ((s*b:Nat):Int)) (b:=X) hB3 (by omega);have hkf:=(KeepsOthers.setCell Wr ⟨g,i,none⟩ (.int .i64 (s:Int))).trans (KeepsOthers.setCell _ ⟨X,2,none⟩ (.int .i64 ((s*b:Nat):Int)));have adl:=Yo (by omega);have hbg:bb≠g∧bb≠X:=by
     rw [adl] at hne2 Mi;exact ⟨fun e=>hne2 (by rw [e]),fun e=>Mi (by rw [e])⟩
    have hkp:jJ W0.heap.size bb Wr ((Wr.setCell ⟨g,i,none⟩ (.int .i64 (s:Int))).setCell ⟨X,2,none⟩ (.int .i64 ((s*b:Nat):Int))):=by
     constructor
     ·rw [Below.heap_setCell _ _ _ _ (by simp only;omega),Below.heap_setCell _ _ _ _ (by simp only;omega)]
     ·rw [Below.heap_setCell _ _ _ _ (by simp only;exact hbg.2),Below.heap_setCell _ _ _ _ (by simp only;exact hbg.1)]
    have HW:=ae hww;obtain ⟨m,hm⟩:=af (s*b);rw [←hm] at hww hsb Zo L2 L3 L4 q5 q6 hB4 hkf hkp;have HM:=ae hm;clear hm K2 K3 G2 G3 hB hB3 q1 q2 q3 q4 KX JX hgr
    gi_wp2
    refine ⟨hkf.from _,hkp,?_⟩;dsimp only;rw [HSN.out];exact ⟨⟨⟨by rw [←HM.out];exact Zo,by rw [←HM.out];exact hsb⟩,by rw [←HM.out];exact L2,q5,q6,L3,L4⟩,hB4⟩
  case done=>
   rintro D ys Wd hD rfl ⟨⟨⟨hs1,hs2⟩,JX,q2,q1,G2,G3⟩,hB⟩ hK;rw [Jb Td.out Te.out _ (Nat.le_refl _),Nat.sub_self,List.drop_zero] at hs2 JX q2;simp only [List.replicate_zero,List.nil_append] at q2 hs2 JX;obtain ⟨P,hP⟩:=af (dE bs);rw [←hP] at hs2 JX;have HP:=ae hP;clear hP;have hD1:W0.heap.size+1≤D:=by simpa using hD
   obtain ⟨u0,u1,u2⟩:=JX.cell;obtain ⟨⟨g1,g2⟩,g3,g4⟩:=G2.writes;have g5:=fun u=>(g3 u).1;have g6:=fun u=>(g3 u).2;have g7:=fun u u'=>(g4 u u').1;have g8:=fun u u'=>(g4 u u').2;have J2:=((G2.set0 (.slice a1 bs.length c1)).set1 (.slice (some ⟨g,0,none⟩) bs.length bs.length)).set2 (.int .i64 (P:Int));have J3:((((Wd.setCell ⟨w.heap.size,0,none⟩ (.slice a1 bs.length c1)).setCell ⟨w.heap.size,1,none⟩ (.slice (some ⟨g,0,none⟩) bs.length bs.length)).setCell ⟨w.heap.size,2,none⟩ (.int .i64 (P:Int)))).heap[w.heap.size+1]? = some (.cells #[.int .i64 0] 114):=by
    rw [Below.heap_setCell _ _ _ _ (by simp),Below.heap_setCell _ _ _ _ (by simp),Below.heap_setCell _ _ _ _ (by simp)];exact G3
   obtain ⟨g9,g10⟩:=sK J3;have Zm:=J2.put (j:=w.heap.size+1) (o:=0) (by omega) (.int .i64 0);have Zn:=Bn (u:=.int .i64 0) J3;have n1:=own_ne q1 G2.at_ (by decide);have n2:=own_ne q1 G3 (by decide);have n3:=own_ne q2 G2.at_ (by decide);have n4:=own_ne q2 G3 (by decide);have q3:=(((q1.kept (hW0 _ w.heap.size 0 (.slice a1 bs.length c1)) (.inr n1)).kept (hW0 _ w.heap.size 1 (.slice (some ⟨g,0,none⟩) bs.length bs.length)) (.inr n1)).kept (hW0 _ w.heap.size 2 (.int .i64 (P:Int))) (.inr n1)).kept (hW0 _ (w.heap.size+1) 0 (.int .i64 0)) (.inr n2);have q4:=(((q2.kept (hW0 _ w.heap.size 0 (.slice a1 bs.length c1)) (.inr n3)).kept (hW0 _ w.heap.size 1 (.slice (some ⟨g,0,none⟩) bs.length bs.length)) (.inr n3)).kept (hW0 _ w.heap.size 2 (.int .i64 (P:Int))) (.inr n3)).kept (hW0 _ (w.heap.size+1) 0 (.int .i64 0)) (.inr n4);have VO:=aj (off:=0) (u:=.int .i64 0) (b:=w.heap.size+1) (aj (off:=2) (u:=.int .i64 (P:Int)) (b:=w.heap.size) (aj (off:=1) (u:=.slice (some ⟨g,0,none⟩) bs.length bs.length) (b:=w.heap.size) (aj (off:=0) (u:=.slice a1 bs.length c1) (b:=w.heap.size) hB (Nat.le_refl _)) (Nat.le_refl _)) (Nat.le_refl _)) (by omega);have hKf:(((((Wd.setCell ⟨w.heap.size,0,none⟩ (.slice a1 bs.length c1)).setCell ⟨w.heap.size,1,none⟩ (.slice (some ⟨g,0,none⟩) bs.length bs.length)).setCell ⟨w.heap.size,2,none⟩ (.int .i64 (P:Int)))).setCell ⟨w.heap.size+1,0,none⟩ (.int .i64 0)).heap[D]? = some (.deferred (some [])):=by
    have:=EB.size;rw [Below.heap_setCell _ _ _ _ (by simp only;omega),Below.heap_setCell _ _ _ _ (by simp only;omega),Below.heap_setCell _ _ _ _ (by simp only;omega),Below.heap_setCell _ _ _ _ (by simp only;omega)];exact hK
   obtain ⟨Wf,hWf⟩:∃Wf,((((Wd.setCell ⟨w.heap.size,0,none⟩ (.slice a1 bs.length c1)).setCell ⟨w.heap.size,1,none⟩ (.slice (some ⟨g,0,none⟩) bs.length bs.length)).setCell ⟨w.heap.size,2,none⟩ (.int .i64 (P:Int)))).setCell ⟨w.heap.size+1,0,none⟩ (.int .i64 0)=Wf:=⟨_,rfl⟩;rw [hWf] at Zm Zn q3 q4 VO hKf;have HWf:=ae hWf;have Tg:Wf.grownBy (Wf.putObj D (.deferred none)) (some D):=grownBy_putObj' Wf D (.deferred none);have hrr:∀r,some D=some r→∃o:Obj,Wf.heap[r]? = some o∧o.isCells=false:=fun r e=>by cases e;exact ⟨_,hKf,rfl⟩
   have M2:oP (Wf.putObj D (.deferred none)) w.heap.size (.slice a1 bs.length c1) (.slice (some ⟨g,0,none⟩) bs.length bs.length) (.int .i64 (P:Int)) fo:=⟨pM Tg hrr Zm.at_⟩;have M3:=(sK (pM Tg hrr Zn)).1;obtain ⟨m0,m1,m2⟩:=M2.cell;have q5:=Ro Tg hrr q3;have q6:=Ro Tg hrr q4;have R7:=VO.trans (belowK_b (w:=w) (Nat.le_refl _) Wf D _ (.deferred none) (by have:=EB.size;omega) hKf rfl rfl);clear g3 g4 J2 J3 q1 q2 q3 q4 G2 G3 hB VO n1 n2 n3 n4 hWf Zm Zn JX M2 hK Tg hrr;go_wp2;rw [HWf.out];refine ⟨by simp,.inl ⟨_,_,rfl,run_takeDeferred hKf,?_⟩⟩
   exact ⟨.tuple #[.agg #[.slice a1 bs.length c1,.slice (some ⟨g,0,none⟩) bs.length bs.length,.int .i64 (P:Int)],.int .i64 0],by simp [results,Tryz.results74,go_sem,m0,m1,m2,M3],_,0,rfl,R7,
    .inl ⟨by rw [←HP.out];exact hs2,rfl,_,_,by rw [←HP.out],Sl.aT q5,Sl.aT q6⟩⟩
  case stop=>
   rintro D c pre Wd hD ⟨k,hk,rfl⟩ ⟨⟨rfl,⟨Xt,last,e1,e2⟩,G2,G3⟩,hB⟩ hK;have hbb:=Gd Td.out Te.out hk e1 e2;have hD1:W0.heap.size+1≤D:=by simpa using hD
   have Tg:Wd.grownBy (Wd.putObj D (.deferred none)) (some D):=grownBy_putObj' Wd D (.deferred none);have hrr:∀r,some D=some r→∃o:Obj,Wd.heap[r]? = some o∧o.isCells=false:=fun r e=>by cases e;exact ⟨_,hK,rfl⟩
   have M2:oP (Wd.putObj D (.deferred none)) w.heap.size (.slice none 0 0) (.slice none 0 0) (.int .i64 0) fo:=⟨pM Tg hrr G2.at_⟩;have M3:=(sK (pM Tg hrr G3)).1;obtain ⟨m0,m1,m2⟩:=M2.cell;have R7:=hB.trans (belowK_b (w:=w) (Nat.le_refl _) Wd D _ (.deferred none) (by have:=EB.size;omega) hK rfl rfl);have Xw:=ae hbb;clear hbb e1 e2 G2 G3 Tg hrr M2 hB
   gi_wp2
   refine ⟨by simp,.inl ⟨_,_,rfl,run_takeDeferred hK,?_⟩⟩;exact ⟨.tuple #[.agg #[.slice none 0 0,.slice none 0 0,.int .i64 0],.int .i64 4],by simp [results,Tryz.results74,go_sem,m0,m1,m2,M3],_,4,rfl,R7,.inr ⟨Xw.out,rfl,rfl⟩⟩
end
theorem vM:∀(bs:List Nat) (j:Nat) (h:j<(weights bs).length),(weights bs)[j]=dE (bs.drop (j+1))
 | _::bs,0,_=>by simp [weights]
 | _::bs,j+1,h=>by
   have:=vM bs j (by simpa [weights] using h);simpa [weights] using this
theorem mD.out {w:World} {v:Value} {bs:List Nat} (h:mD w v bs):∃a1 c1 a2 c2,v=.agg #[.slice a1 bs.length c1,.slice a2 bs.length c2,.int .i64 (dE bs:Nat)]∧
 bD w (.slice a1 bs.length c1) (ds bs)∧bs.length≤c1∧bs.length≤c2∧(∀i (hi:i<bs.length),∃b off,a1=some ⟨b,off,none⟩∧b<w.heap.size∧w.cell? ⟨b,off+i,none⟩=some (.int .i64 (bs[i]:Nat)))∧
 (∀i (_:i<bs.length),∃b off,a2=some ⟨b,off,none⟩∧b<w.heap.size∧w.cell? ⟨b,off+i,none⟩=some (.int .i64 (dE (bs.drop (i+1)):Nat))):=by
 obtain ⟨s1,s2,rfl,h1,h2⟩:=h;have h1':=h1;obtain ⟨a1,c1,rfl,k1,hy1⟩:=bD.out h1;obtain ⟨a2,c2,rfl,k2,hy2⟩:=bD.out h2;have el1:(ds bs).length=bs.length:=bW _;have el2:(ds (weights bs)).length=bs.length:=by simp
 refine ⟨a1,c1,a2,c2,by rw [el1,el2],by rw [el1] at h1';exact h1',by omega,by omega,fun i hi=>?_,fun i hi=>?_⟩
 ·obtain ⟨b,off,g1,g2,g3⟩:=hy1 i (by omega);exact ⟨b,off,g1,g2,by rw [g3,eU _ _ hi]⟩
 ·obtain ⟨b,off,g1,g2,g3⟩:=hy2 i (by omega);exact ⟨b,off,g1,g2,by rw [g3,eU _ _ (by simpa using hi),vM]⟩
theorem Ti {w:World} {v:Value} {bs:List Nat} (h:mD w v bs) (hpos:∀b∈bs,1≤b) (hmax:dE bs≤1073741824) :
 Calls Tryz.prog 75 #[v] w fun e w'=>e=.returned (.int .i64 (dE bs:Nat))∧Below w.heap.size w w':=by
 obtain ⟨a1,c1,a2,c2,rfl,_⟩:=h.out;have hp:=uF hpos;clear h;obtain ⟨P,hP⟩:=af (dE bs);rw [←hP] at hp hmax ⊢;clear hP;have hm:max (P:Int) 1=(P:Int):=by omega
 have hlt:¬(P:Int)<1:=by omega
 have hb:=ai (w:=w) (.cells #[.slice a1 bs.length c1,.slice a2 bs.length c2,.int .i64 (P:Int)] fo);go_enter Tryz.func75,Tryz.ntmps75;go_wp2;go_ret;exact ⟨rfl,hb⟩
def zV (l:List Int):List Nat:=l.map Int.toNat
@[simp] theorem UH (l:List Int):(zV l).length=l.length:=by simp [zV]
end Go.Proofs.YtjidohgiigjifaaGreatDoor
