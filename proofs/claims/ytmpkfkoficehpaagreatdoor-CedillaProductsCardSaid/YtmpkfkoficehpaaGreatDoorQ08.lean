/- CedillaProducts: where a text may be cut apart, it has as many texts that are alike as its two parts multiplied; no condition. -/
import Derived.Test.YtmpkfkoficehpaaGreatDoorQ07
import Derived.Lib.SlicesSearch
import Derived.Deep.LoopGhost
set_option maxRecDepth 100000
set_option maxHeartbeats 6400000
section
namespace Go.Cd
open Go.RowKit
theorem Is.same {W:World} {k:Nat} {cs:Array Value} {T:TypeId} (h:Is W k cs T) (o:Nat) {u:Value} (hu:cs[o]? = some u):W.setCell ⟨k,o,none⟩ u=W:=by
 have h1:=h.at_;have hlt:=h.lt;have e:cs.setIfInBounds o u=cs:=by
  apply Array.ext_getElem?;intro i;rw [Array.getElem?_setIfInBounds];by_cases hi:o=i
  ·subst hi;have:=(Array.getElem?_eq_some_iff.1 hu).1;simp [this];exact ((Array.getElem?_eq_some_iff.1 hu).2).symm
  ·simp [hi]
 unfold World.setCell
 have:(W.heap.modify k fun x=>match x with
  | .cells c elem frozen=>.cells (if (⟨k,o,none⟩:Addr).spot.isSome then c else c.setIfInBounds (⟨k,o,none⟩:Addr).off u) elem frozen
  | o=>o)=W.heap:=by
  apply Array.ext_getElem?;intro i;rw [Array.getElem?_modify];by_cases hi:k=i
  ·subst hi;rw [if_pos rfl,h1];simp [e]
  ·rw [if_neg hi]
 exact congrArg (fun h=>({ W with heap:=h }:World)) this
end Go.Cd
namespace Go.Proofs.YtmpkfkoficehpaaGreatDoor
open Go.RowKit Go.Cd Go.Shelf
theorem AU {w:World} {p:Nat} (v:Value) (c:Int) (hp:Is w p #[v,.int .i32 c,.string ⟨#[]⟩] 174) (k:Int) (l:Int) (u:Value) :
 Calls Tryz.prog 115 #[.pointer (some ⟨p,0,none⟩),.string ⟨#[88]⟩,.agg #[.int .i32 k,.int .i64 l,u]] w fun e w'=>e=.returned (.bool true)∧Below w.heap.size w w':=by
 have C1:=aa (show ∀W,Calls Tryz.prog 151 #[.string ⟨#[88]⟩,.string ⟨#[44,32,70,105,114,115,116,62]⟩] W fun e w'=>e=.returned (.tuple #[.string ⟨#[88]⟩,.bool false])∧w'=W from fun W=>
  Tryz.strings_CutSuffix ⟨#[88]⟩ ⟨#[44,32,70,105,114,115,116,62]⟩ W (by decide))
 have C2:=aa (show ∀W,Calls Tryz.prog 151 #[.string ⟨#[88]⟩,.string ⟨#[44,32,76,97,115,116,62]⟩] W fun e w'=>e=.returned (.tuple #[.string ⟨#[88]⟩,.bool false])∧w'=W from fun W=>
  Tryz.strings_CutSuffix ⟨#[88]⟩ ⟨#[44,32,76,97,115,116,62]⟩ W (by decide))
 obtain ⟨w1,hw1⟩:=ae (w.alloc (.cells #[.int .i32 k,.int .i64 l,u] 187));have hB1:Below w.heap.size w w1:=by rw [hw1];exact af _
 have p1:=hp.mono hB1;have e1:=p1.at 2 rfl;have d1:=p1.frozen 2;have z:(⟨#[]⟩:ByteArray).toList.isEmpty=true:=by rw [Lib.toList_data];rfl
 have hid:=aa (p1.same 2 (u:=.string ⟨#[]⟩) rfl);go_enter Tryz.func115,Tryz.ntmps115;go_wp2_with fail;rw [←hw1];clear hw1;refine (C1.out w1).mono ?_;rintro e w2 ⟨rfl,rfl⟩;go_wp2_with fail;refine (C2.out _).mono ?_;rintro e w3 ⟨rfl,rfl⟩;go_wp2;go_ret;rw [hid.out];exact ⟨rfl,hB1⟩
theorem DR {P:Program} {W:World} {ops:Array Oper} {rest:List Oper} {o:Oper} {a:Act} {Q:Exit→Act→World→Prop} (hgd:o.guard=none) (s x:Operand) (t:TypeId)
 (ho:o.op=.call { callee:=.builtin .append,args:=#[s,x],argTypes:=#[t,t] })
 (base:Nat) (e:TypeId) (z:Value) (size bytes:Nat) (hE:mR P t e z size bytes) (hs0:0<size) (Az:bytes≤100000)
 (v:Value) (n:Nat) (xs:List Value) (hs:a.eval s=v) (hown:W.ownsRow base e size v n xs)
 (us:Array Value) (hx:a.eval x=.slice (some ⟨W.heap.size,0,none⟩) 1 1) (tN:us.size=size) (h1:∀u∈us.toList,u.oneCell'=true)
 (hn:n<1000000) (hbase:base≤W.heap.size)
 (h:∀v' w',w'.ownsRow base e size v' (n+1) (xs++us.toList)→Below base (W.alloc (.cells us e)) w'→(W.alloc (.cells us e)).grownBy w' v.ownBlock→wpList P ops Q rest (a.put o.dst v') w') :
 wpList P ops Q (o::rest) a (W.alloc (.cells us e)):=by
 obtain ⟨hzs,ht,i,hi,hz,hsize,hby⟩:=hE;have hown2:=hown.alloc (.cells us e);have hnews:∀(j:Nat) (u:Value),us.toList[j]? = some u→(W.alloc (.cells us e)).cell? ((⟨W.heap.size,0,none⟩:Addr).add j)=some u:=by
  intro j u hj;have e0:(⟨W.heap.size,0,none⟩:Addr).add j=⟨W.heap.size,j,none⟩:=by unfold Addr.add;split <;> simp_all
  rw [e0];unfold World.cell?;rw [heap_alloc_new];simpa using hj
 have hmax:n+1≤maxLen:=by unfold maxLen;omega
 have hl1:us.toList.length=1*i.size:=by rw [hsize,Nat.one_mul];simpa using tN
 have hbb:(n+1)*bytes≤140737488355328:=by
  have:(n+1)*bytes≤1000000*100000:=Nat.mul_le_mul (by omega) Az;omega
 obtain ⟨v',w',hr,h2,h3,_⟩:=run_append_own (P:=P) (W.alloc (.cells us e)) base t o.type e i z size bytes ht hi hz hsize hby hzs hs0 v n xs hown2
  ⟨W.heap.size,0,none⟩ 1 1 us.toList (by rw [hl1,hsize]) hnews h1 hmax hbb (by simp;omega)
 refine Lib.wpList_append_run _ hgd s x _ _ ho v _ hs hx v' w' hr ?_;exact h v' w' h2 ((Below.refl _ _).grown h3 (by simp;omega) (fun k hk=>(hown.lt k hk).1)) h3
abbrev mV:TypeId:=187
theorem GA:mR Tryz.prog 91 mV (.agg #[.int .i32 0,.int .i64 0,.slice none 0 0]) 3 40:=⟨rfl,Tryz.underlying91,info_parts (by kernel_rfl)⟩
def mh (x:aH×Value):List Value:=[.int .i32 x.1.code,.int .i64 x.1.cls,x.2]
theorem Ki (x:aH×Value):(mh x).length=3:=rfl
theorem Sl.XT {e T:TypeId} {w w':World} {v u:Value} {xs ys:List Value} {base size n:Nat} (h:Sl e w v xs) (ho:w.ownsRow base T size u n ys) (hT:T≠e) (hg:w.grownBy w' u.ownBlock):Sl e w' v xs:=by
 obtain ⟨a,cap,hv,hc,h⟩:=h;refine ⟨a,cap,hv,hc,h.imp id ?_⟩;rintro ⟨b,off,cs,fr,ha,hh,hx⟩;refine ⟨b,off,cs,fr,ha,(hg.block b (block_lt hh) fun e1=>?_).trans hh,hx⟩;rcases ho.2 with ⟨h1,_⟩|⟨g,_,cur,h1,_,h2,_⟩
 ·rw [h1] at e1;cases e1
 ·rw [h1] at e1;cases e1;rw [hh] at h2;cases h2;exact hT rfl
def fC (v:Value):Prop:=∃a n cap,v=.slice a n cap∧(a=none∨∃b off,a=some ⟨b,off,none⟩)
theorem fC.aW {w:World} {base size n:Nat} {e:TypeId} {v:Value} {xs:List Value} (h:w.ownsRow base e size v n xs):fC v:=by
 rcases h.2 with ⟨rfl,_⟩|⟨g,cap,cur,rfl,_⟩
 ·exact ⟨none,0,0,rfl,.inl rfl⟩
 ·exact ⟨_,n,cap,rfl,.inr ⟨g,0,rfl⟩⟩
structure ZV (w:World) (p:Nat) (L:List (aH×Value)) (last:Int):Prop where
 cells:∃v,Is w p #[v,.int .i32 last,.string ⟨#[]⟩] 174∧w.ownsRow (p+1) mV 3 v L.length (L.flatMap mh)
 maps:∀x∈L,Sl aM w x.2 (aN x.1.map)∧fC x.2
theorem GD {w:World} {p:Nat} (hG:ek w) {L:List (aH×Value)} {last:Int} (hR:ZV w p L last) (r:aH) (hr:QS r) (hlt:last<r.code) (yS:r.cls≠0∨r.map≠[]) (hch:aP r.code) (hL:L.length<100000) :
 Calls Tryz.prog 83 #[.pointer (some ⟨p,0,none⟩),.string (tx (dh r))] w fun e w'=>e=.returned (.string ⟨#[]⟩)∧Below p w w'∧w.heap.size≤w'.heap.size∧∃v,ZV w' p (L++[(r,v)]) r.code:=by
 obtain ⟨⟨ov,hp,ho⟩,hM⟩:=hR;have hpl:=hp.lt;have SP:=aa (AB hG r hr.cls hr.len);obtain ⟨s,hs⟩:=ae (tx (dh r));rw [←hs] at SP ⊢;clear hs;have RW:=aa (fun (W:World) (h:ek W) (k:Nat) (hk:Is W k ((rW r).map fun l=>Value.string (tx l)).toArray 9)=>Kh h r hr hk);obtain ⟨oa,oc,rfl,_,_⟩:=ak ho;have HM:=aa (fun x hx=>(hM x hx).1);have HPV:=aa (fun x hx=>(hM x hx).2);have HO:=aa ho;have hcd:=hr.code;clear hM ho;go_enter Tryz.func83,Tryz.ntmps83;go_wp2_with fail;refine SP.out.mono ?_;rintro e w1 ⟨rfl,hw1⟩;have hB1:Below w.heap.size w w1:=by rw [hw1];exact af _
 have q1:Is w1 w.heap.size ((rW r).map fun l=>Value.string (tx l)).toArray 9:=by rw [hw1];exact Is.new _ _ _
 have p1:=hp.mono hB1;have hz1:w1.heap.size=w.heap.size+1:=by rw [hw1];simp
 clear hw1 SP hp;go_wp2_with fail;refine (RW.out _ (hG.mono hB1) _ q1).mono ?_;rintro e w2 ⟨mv,rfl,hmv,hB2⟩;have q2:w2.cell? ⟨w.heap.size,1,none⟩=some (.string (tx [88])):=(q1.mono hB2).at 1 rfl;have p2:=p1.mono hB2;have hBw2:=ah hB1 hB2;obtain ⟨ma,mc,rfl,_,_⟩:=ak hmv;have hpv:=fC.aW hmv;obtain ⟨mn,Gb⟩:=ae r.map.length;have kX:=hr.len;rw [←Gb] at hmv kX ⊢;have GG:r.cls≠0∨mn≠0:=yS.imp id fun h e=>h (List.length_eq_zero_iff.1 (Gb▸e));have HMN:=aa Gb;have aeS:=aa hpv;clear hpv;obtain ⟨c,hc⟩:=ae r.code;obtain ⟨l,hl⟩:=ae r.cls;rw [←hc] at hlt hcd hch ⊢;rw [←hl] at GG ⊢;have HC:=aa hc;have XU:=aa hl;clear Gb hc hl q1 yS p1 RW;obtain ⟨w3,hw3⟩:=ae (w2.alloc (.cells #[.int .i32 (c:Nat),.int .i64 (l:Nat),.slice ma mn mc] 187));have hB3:Below w2.heap.size w2 w3:=by rw [hw3];exact af _
 have b3:Is w3 w2.heap.size #[.int .i32 (c:Nat),.int .i64 (l:Nat),.slice ma mn mc] 187:=by rw [hw3];exact Is.new _ _ _
 have p3:=p2.mono hB3;have q3:=aA hB3 q2;go_upto_region 5 with fail;rw [←hw3];have hBw3:=ah hBw2 hB3;have hX:=hB3;have hz3:w3.heap.size=w2.heap.size+1:=by rw [hw3];simp
 have hz2:=hB2.size;clear hw3 hB3 hBw2;have zl:decide ((c:Int)≤last)=false:=by simp;omega
 have g1:=Gr.cell (ag w3) (b3.at 0 rfl);have g2:=Gr.cell (ag w3) (p3.at 1 rfl);refine aF (Array.replicate 8 true) 8 0 mixed (by rfl) ?_;refine ay [0,1,2,3,4,5,6,7] 0 rfl (by kernel_rfl) ?_
 iterate 8 (refine aB rfl ?_;go_big_quiet_step (rfl))
 refine az ?_;refine aJ [] (by kernel_rfl) ?_;refine tail_nil ?_;clear g1 g2;have b4:=b3.mono (ag w3);have p4:=p3.mono (ag w3);have q4:=aA (ag w3) q3;have hB4:=ah hBw3 (ag w3)
 replace hX:=ah hX (ag w3)
 have W_:w3.drew.heap.size=w2.heap.size+1:=hz3;generalize w3.drew=w4 at *;go_upto_region 7 with fail;have RG:=aa (fun (W:World) (E:Below w4.heap.size w4 W)=>AU (w:=W) _ _ (p4.mono E) c l (.slice ma mn mc));have g0:=Gr.cell (ag w4) q4;have g1:=Gr.cell (ag w4) (b4.at 0 rfl);have g2:=Gr.cell (ag w4) (b4.at 1 rfl);have g3:=Gr.cell (ag w4) (b4.at 2 rfl);refine aF (Array.replicate 8 true) 8 0 mixed (by rfl) ?_;refine ay [0,1,2,3,4] 3 rfl (by kernel_rfl) ?_
 iterate 5 (refine aB rfl ?_;go_big_quiet_step (rfl))
 refine az ?_;refine aI 5 (by kernel_rfl) rfl ?_;go_wp2_with fail;refine (RG.out _ (ag w4)).mono ?_;rintro e w5 ⟨rfl,rZ⟩;go_wp2_with fail;refine aD rZ ?_;refine ay [6,7] 0 rfl (by kernel_rfl) ?_
 iterate 2 (refine aB rfl ?_;go_big_quiet_step (rfl))
 refine az ?_;refine aJ [] (by kernel_rfl) ?_;refine tail_nil ?_;have jI:=ah (ag w4) rZ;have b5:=b4.mono jI;have p5:=p4.mono jI;have QV:=ah hB4 jI
 replace hX:=ah hX jI
 have UM:w2.heap.size+1≤w5.heap.size:=by have:=jI.size;omega
 clear g0 g1 g2 g3 b4 p4 q4 b3 p3 q3 RG rZ jI hz3 W_ hB4 hBw3;have UI:=aa (iG (w:=w5) c (by omega));have hct:decide (aP c)=true:=decide_eq_true hch;rw [hct] at UI;have e0:=b5.at 0 rfl;have d1:=p5.frozen 1;have e1:=p5.at 1 rfl;go_upto_region 12 with (go_at_call 17;refine UI.out.mono ?_;rintro e w6 ⟨rfl,rfl⟩);have hpw:p≠w2.heap.size:=by have:=hB1.size;omega
 obtain ⟨w7,hw7⟩:=ae (w6.setCell ⟨p,1,none⟩ (.int .i32 (c:Nat)));rw [←hw7];have b7:Is w7 w2.heap.size #[.int .i32 (c:Nat),.int .i64 (l:Nat),.slice ma mn mc] 187:=by rw [hw7];exact b5.put (Ne.symm hpw) _
 have p7:Is w7 p #[.slice oa L.length oc,.int .i32 (c:Nat),.string ⟨#[]⟩] 174:=by rw [hw7];exact p5.set 1 _
 have hB7:Below p w w7:=by rw [hw7];exact aj (QV.mono (by omega)) (Nat.le_refl _)
 have O5:=aG HO.out QV;have O7:w7.ownsRow (p+1) mV 3 (.slice oa L.length oc) L.length (L.flatMap mh):=by rw [hw7];exact bn O5 (Go.Cd.aae O5 (k:=p) (by omega)) 1 _
 have M7:∀x∈L,Sl aM w7 x.2 (aN x.1.map):=fun x hx=>by rw [hw7];exact ((HM.out x hx).mono QV).put p5.at_ (by decide)
 have V7:Sl aM w7 (.slice ma mn mc) (aN r.map):=by rw [hw7];exact ((Sl.aW hmv).mono hX).put p5.at_ (by decide)
 have hz7:w7.heap.size=w6.heap.size:=by rw [hw7];simp
 have hzw:w.heap.size≤w6.heap.size:=QV.size;have HM7:=aa M7;have HV7:=aa V7;have HO7:=aa O7;clear hw7 hX QV b5 p5 e0 d1 e1 UI O5 O7 M7 V7 hmv p2 hB1 hB2 q2;have PL:=aa (Gx (w:=w7) c l mn mc ma GG);have e0:=b7.at 0 rfl;have e1:=b7.at 1 rfl;have e2:=b7.at 2 rfl;go_upto_region 13 with (go_at_call 116;refine PL.out.mono ?_;rintro e w8 ⟨rfl,XV⟩);clear e0 e1 e2 PL;have b8:=(b7.mono XV).mono (ag w8);have p8:=(p7.mono XV).mono (ag w8);have jW:=ah XV (ag w8);have g0:=GrB.keeps (B:=p+1) (p8.at 0 rfl) (Nat.lt_succ_self p);refine DN (p+1) #[true,true,true,true,true,true,true,true,true,true,false] 10 1 mixed (by rfl) ?_;refine Gy [0,1,2,3,4] 5 rfl (by kernel_rfl) ?_
 iterate 5 (refine aB rfl ?_;go_big_quiet_step (rfl))
 refine az ?_;refine DL 5 (by kernel_rfl) rfl ?_;have e0:=b8.at 0 rfl;have e1:=b8.at 1 rfl;have e2:=b8.at 2 rfl;go_wp2_with fail;refine yR (Below.refl _ _) ?_;clear e0 e1 e2;refine DL 6 (by kernel_rfl) rfl ?_;go_wp2_with fail;have hzp:p+1≤w8.drew.heap.size:=Nat.le_trans (by omega) jW.size;refine yR ((af _).mono hzp) ?_;refine DL 7 (by kernel_rfl) rfl ?_;refine DR (W:=w8.drew) rfl _ _ 91 rfl (p+1) mV _ 3 40 GA (by decide) (by decide) (.slice oa L.length oc) L.length (L.flatMap mh) rfl (aG HO7.out jW) _ rfl rfl (by simp [Value.oneCell']) (by omega) hzp ?_;intro v1 w9 o9 Ms JG;obtain ⟨na,nc,rfl,_,_⟩:=ak o9;go_wp2_with fail;refine yR Ms ?_;refine Gy [8,9] 0 rfl (by kernel_rfl) ?_
 iterate 2 (refine aB rfl ?_;go_big_quiet_step (rfl))
 refine az ?_;have p9:=(p8.mono (af _)).low Ms (Nat.lt_succ_self p);have e1:=p9.at 0 rfl;have d1:=p9.frozen 0;refine QU [10] (by kernel_rfl) ?_;refine tail_cons rfl ?_;go_wp2_with fail;refine tail_nil ?_;go_wp2;go_ret;have GH:=ah jW (af (w:=w8.drew) (.cells #[.int .i32 (c:Nat),.int .i64 (l:Nat),.slice ma mn mc] mV));have OA:=aG HO7.out GH;have keep:∀{v:Value} {xs:List Value},Sl aM w7 v xs→Sl aM (w9.setCell ⟨p,0,none⟩ (.slice na (L.length+1) nc)) v xs:=fun h=>Go.Cd.Sl.put (Sl.XT (Go.Cd.Sl.mono h GH) OA (by decide) JG) p9.at_ (by decide);have aeU:Below p w (w9.setCell ⟨p,0,none⟩ (.slice na (L.length+1) nc)):=aj ((hB7.trans (GH.mono (by omega))).trans (Ms.mono (Nat.le_succ p))) (Nat.le_refl _);refine ⟨rfl,aeU,?_,.slice ma mn mc,⟨⟨.slice na (L.length+1) nc,?_,?_⟩,?_⟩⟩
 ·have:=Ms.size;have:=jW.size;simp only [World.size_setCell,World.size_alloc] at *;omega
 ·rw [←HC.out];exact p9.set 0 _
 ·have:=bn o9 (Go.Cd.aae o9 (k:=p) (by omega)) 0 (.slice na (L.length+1) nc);rw [List.length_append,List.flatMap_append];have e1:List.flatMap mh [((r,.slice ma mn mc):aH×Value)]=[.int .i32 (c:Nat),.int .i64 (l:Nat),.slice ma mn mc]:=by rw [HC.out,XU.out];rfl
  rw [e1];exact this
 ·intro x hx;rcases List.mem_append.1 hx with hx|hx
  ·exact ⟨keep (HM7.out x hx),HPV.out x hx⟩
  ·rw [List.mem_singleton.1 hx];exact ⟨keep HV7.out,by rw [HMN.out];exact aeS.out⟩
end Go.Proofs.YtmpkfkoficehpaaGreatDoor
end
namespace Go.Proofs.YtmpkfkoficehpaaGreatDoor
section
open Go.RowKit Go.Cd Go.Sort
section
variable {α : Type} [Inhabited α] (enc : α → Value)
theorem Cc {w:World} {g:Nat} {cur:Array Value} {e:TypeId} {ss:List α} (hb:w.heap[g]? = some (.cells cur e (0,0))) (ht:cur.toList.take ss.length=ss.map enc):Holds enc w g 0 ss.toArray:=by
 intro j hj;have hj':j<ss.length:=by simpa using hj
 refine ⟨?_,by simp [World.frozen?,hb]⟩;have h1:(cur.toList.take ss.length)[j]? = (ss.map enc)[j]?:=by rw [ht]
 rw [List.getElem?_take_of_lt hj'] at h1;simp only [World.cell?,hb,Nat.zero_add];simpa [hj'] using h1
theorem heap_put {w:World} {g n:Nat} {os:Array Obj} {cur:Array Value} {e:TypeId} {fr:Nat×Nat} (d:Array α) (hb:w.heap[g]? = some (.cells cur e fr)) :
 (grow (putRow enc (Sort.ahead w n) g 0 d) os).heap[g]? = some (.cells (putCells enc 0 d cur) e fr):=by
 have hg:g<w.heap.size:=(Array.getElem?_eq_some_iff.1 hb).1;rw [heap_grow_old _ _ (by simpa using hg)];simp [putRow,mapBlock,Sort.ahead,Array.getElem?_modify,hb,onCells]
theorem wR {w:World} {g n:Nat} {os:Array Obj} (d:Array α):w.grownBy (grow (putRow enc (Sort.ahead w n) g 0 d) os) (some g):=by
 refine ⟨rfl,rfl,rfl,by simp,fun k hk hne=>?_⟩;rw [heap_grow_old _ _ (by simpa using hk)];have:g≠k:=fun e=>hne (by rw [e]);simp [putRow,mapBlock,Sort.ahead,Array.getElem?_modify,this]
theorem QW (cur:Array Value) (ts:List α) (h:ts.length≤cur.size):(putCells enc 0 ts.toArray cur).toList.take ts.length=ts.map enc:=by
 apply List.ext_getElem?;intro j;by_cases hj:j<ts.length
 ·rw [List.getElem?_take_of_lt hj,Array.getElem?_toList];simp [putCells,hj,show j<cur.size by omega]
 ·rw [List.getElem?_take_eq_none (by omega),List.getElem?_eq_none (by simp;omega)]
theorem wS {w:World} {base g cap n:Nat} {e:TypeId} {os:Array Obj} {cur:Array Value} {ts us:List α} (hbase:base≤g) (hb:w.heap[g]? = some (.cells cur e (0,0)))
 (h1:(ts++us).length≤cap) (h2:cap≤maxLen) (h3:cur.size=cap*1) :
 (grow (putRow enc (Sort.ahead w n) g 0 (ts++us).toArray) os).ownsRow base e 1 (.slice (some ⟨g,0,none⟩) ts.length cap) ts.length (ts.map enc):=by
 have h4:ts.length≤cap:=by simp at h1;omega
 refine ⟨by simp,.inr ⟨g,cap,_,rfl,hbase,heap_put enc _ hb,h4,h2,by simp [putCells,h3],?_⟩⟩;have:=QW enc cur (ts++us) (by omega);rw [Nat.mul_one];have h5:=congrArg (List.take ts.length) this;rw [List.take_take,Nat.min_eq_left (by simp)] at h5;rw [h5];simp
end
def aaf (d:Nat):Value:=.int .i32 d
theorem QX (l:List Nat):aN l=l.map aaf:=rfl
theorem Ce (l:List Nat):aN l=(l.map fun d:Nat=>(d:Int)).map (Value.int .i32):=by rw [List.map_map];rfl
theorem NH (l:List Nat):((l.map fun d:Nat=>(d:Int)).mergeSort fun x y=>decide (x≤y))=(cK l).map fun d:Nat=>(d:Int):=by
 unfold cK;refine (List.map_mergeSort ?_).symm;intro a _ b _;simp
theorem uf {w:World} {base:Nat} {v:Value} (l:List Nat) (ho:w.ownsRow base aM 1 v l.length (aN l)) (hl:l.length<1000000) :
 Calls Tryz.prog 121 #[v] w fun e w'=>e=.returned (.tuple #[])∧w'.ownsRow base aM 1 v l.length (aN (cK l))∧w.grownBy w' v.ownBlock:=by
 rcases ho.2 with ⟨rfl,h0⟩|⟨g,cap,cur,rfl,hb,hh,hc,hm,hs,ht⟩
 ·have hn:l=[]:=List.length_eq_zero_iff.1 h0;subst hn;refine (xD none 0 w).mono ?_;rintro e w' ⟨he,rfl⟩;exact ⟨he,by rw [show cK []=[] from by simp [cK]];exact ho,⟨rfl,rfl,rfl,Nat.le_refl _,fun _ _ _=>rfl⟩⟩
 ·rw [Nat.mul_one,Ce] at ht;have hH:=Cc (Value.int .i32) (ss:=l.map fun d:Nat=>(d:Int)) hh (by simpa using ht);have h:=rR g 0 cap (l.map fun d:Nat=>(d:Int)) w hH (block_lt hh) (by simp;omega);rw [List.length_map] at h;refine h.mono ?_;rintro e w' ⟨he,n,os,rfl⟩;refine ⟨he,?_,wR _ _⟩;rw [NH,Ce];have e1:((cK l).map fun d:Nat=>(d:Int)).length=l.length:=by rw [List.length_map,fB]
  have:=wS (Value.int .i32) (w:=w) (base:=base) (n:=n) (os:=os) (ts:=(cK l).map fun d:Nat=>(d:Int)) (us:=[]) hb hh (by rw [List.append_nil,e1];exact hc) hm hs;rw [List.append_nil,e1] at this;exact this
theorem aaU (P:Program) (T:TypeId):EqlAt P T aaf (fun x y=>decide (x=y)):=⟨fun x y w=>by
 have:=(EqlAt.intD P T .i32).1 (x:Int) (y:Int) w;refine this.trans ?_;dsimp only
 rw [show decide ((x:Int)=(y:Int))=decide (x=y) from decide_eq_decide.2 (by omega)],fun op a b x y w=>(EqlAt.intD P T .i32).2 op a b (x:Int) (y:Int) w⟩
theorem aeV (P:Program) (T:TypeId):NeqAt P T aaf (fun x y=>decide (x=y)):=⟨fun x y w=>by
 have:=(NeqAt.intD P T .i32).1 (x:Int) (y:Int) w;refine this.trans ?_;dsimp only
 rw [show decide ((x:Int)=(y:Int))=decide (x=y) from decide_eq_decide.2 (by omega)],fun op a b x y w=>(NeqAt.intD P T .i32).2 op a b (x:Int) (y:Int) w⟩
theorem GI {w:World} {base:Nat} {v:Value} (l:List Nat) (ho:w.ownsRow base aM 1 v l.length (aN l)) (hl:l.length<1000000) (h0:l≠[]) :
 Calls Tryz.prog 122 #[v] w fun e w'=>∃r,e=.returned r∧w'.ownsRow base aM 1 r (BC l).length (aN (BC l))∧w.grownBy w' v.ownBlock:=by
 rcases ho.2 with ⟨rfl,h1⟩|⟨g,cap,cur,rfl,hb,hh,hc,hm,hs,ht⟩
 ·exact absurd (List.length_eq_zero_iff.1 h1) h0
 ·rw [Nat.mul_one,QX] at ht;have hH:=Cc aaf (ss:=l) hh ht;have h:=AnyE.slices_Compact Tryz.Dv aaf (fun _=>rfl) (aaU _ _) (aeV _ _) 0 (fun w=>Tryz.zeroValue21 w) g 0 cap l.toArray w hH (by simp;omega) (by simpa using hc);refine Calls.mono (h:Calls Tryz.prog 122 #[.slice (some ⟨g,0,none⟩) l.length cap] w _) ?_;rintro e w' ⟨he,q,rfl⟩;refine ⟨_,he,?_,?_⟩
  ·have:=wS aaf (w:=w) (base:=base) (n:=q) (os:=#[]) (ts:=Lib.compactUpTo l.toArray l.toArray.size) (us:=List.replicate (l.toArray.size-(Lib.compactUpTo l.toArray l.toArray.size).length) 0) hb hh (by
    have:=FV l.toArray l.toArray.size
    simp at this ⊢;omega) hm hs
   rw [grow_empty] at this;exact this
  ·have:=wR aaf (w:=w) (g:=g) (n:=q) (os:=#[]) (Lib.compactUpTo l.toArray l.toArray.size++List.replicate (l.toArray.size-(Lib.compactUpTo l.toArray l.toArray.size).length) 0).toArray;rw [grow_empty] at this;exact this
theorem jZ {w:World} {v:Value} (l:List Nat) (hv:Sl aM w v (aN l)) (hp:fC v) (hl:l.length<1000000) :
 Calls Tryz.prog 40 #[v] w fun e w'=>∃r,e=.returned r∧w'.ownsRow w.heap.size aM 1 r l.length (aN l)∧Below w.heap.size w w':=by
 obtain ⟨a,cap,rfl,hc,hx⟩:=hv.out;rw [bA] at *;obtain ⟨a',n',cap',he,ha⟩:=hp;cases he;rcases ha with rfl|⟨b,off,rfl⟩
 ·have h0:l=[]:=by
   rcases l with _|⟨x,l⟩
   ·rfl
   ·obtain ⟨b,off,h,_⟩:=hx 0 (by simp);cases h
  subst h0;refine Calls.mono (AnyE.slices_Clone_nil Tryz.yz 0 cap w:Calls Tryz.prog 40 #[.slice none 0 cap] w _) ?_;rintro e w' ⟨he,rfl⟩;exact ⟨_,he,World.ownsRow_nil _ _ _ _,Below.refl _ _⟩
 ·obtain ⟨_,_,i,hi,hz,hsize,hby⟩:=bT;refine Calls.mono (AnyE.slices_Clone Tryz.yz i (.int .i32 0) 1 4 hi hz hsize hby rfl (by decide) (fun w=>Tryz.sizeOf21 w) b off l.length cap (aN l) w (by simp) (by unfold maxLen;omega) (by omega) ?_ (fU l):Calls Tryz.prog 40 #[.slice (some ⟨b,off,none⟩) l.length cap] w _) ?_
  ·intro j u hu;have hj:=(List.getElem?_eq_some_iff.1 hu).1;obtain ⟨b',off',h1,_,h3⟩:=hx j (by simpa using hj);cases h1;rw [h3];have:=(List.getElem?_eq_some_iff.1 hu).2;rw [this]
  ·rintro e w' ⟨r,he,ho,_,hB⟩;exact ⟨r,he,ho,hB⟩
end
open Go.RowKit Go.Lib Go.Cd
theorem ug (x y:Int) (w:World):Calls Tryz.prog 129 #[.int .i32 x,.int .i32 y] w fun e w'=>e=.returned (.bool (decide (x<y)))∧w'=w:=aK x y w
theorem oU (x:Int) (w:World):Calls Tryz.prog 130 #[.int .i32 x] w fun e w'=>e=.returned (.bool false)∧w'=w:=by
 go_enter Tryz.func130,Tryz.ntmps130;go_wp2;go_ret;exact ⟨by simp,rfl⟩
theorem QY (a:Option Addr) (n c:Nat) (zs:List Int) (x:Int) (w:World) (hz:n≤zs.length) (hbig:n<4611686018427387904) (hc:∀j,j<n→∃b off,a=some ⟨b,off,none⟩∧w.cell? ⟨b,off+j,none⟩=some (.int .i32 (zs.getD j 0))) (hs:(zs.take n).Pairwise (·≤·)) :
 Calls Tryz.prog 94 #[.slice a n c,.int .i32 x] w fun e w'=>e=.returned (.tuple #[.int .i64 ((zs.take n).countP (·<x):Nat),.bool ((zs.take n).contains x)])∧∃q,w'=w.drewN q:=by
 have S:Aside (∀a b,a≤b→b<n→zs.getD a 0≤zs.getD b 0):=Lib.sorted_at zs n hz hs;clear hs;go_enter Tryz.func94,Tryz.ntmps94;go_wp2
 go_loopg [7,8] n (fun g s7 s8 wr=>∃lo hi q:Nat,s7=.int .i64 lo∧s8=.int .i64 hi∧lo≤hi∧hi≤n∧hi-lo≤g∧wr=w.drewN q∧(∀t,t<lo→zs.getD t 0<x)∧(∀t,hi≤t→t<n→x≤zs.getD t 0))
 case atStart=>exact ⟨0,n,0,rfl,rfl,Nat.zero_le _,Nat.le_refl _,by omega,rfl,fun t ht=>absurd ht (Nat.not_lt_zero _),fun t h1 h2=>by omega⟩
 case round=>
  obtain ⟨lo,hi,q,rfl,rfl,hlh,hin,hg,rfl,h1,h2⟩:=hrel;have I:Aside ((∀t,t<lo→zs.getD t 0<x)∧(∀t,hi≤t→t<n→x≤zs.getD t 0)):=⟨h1,h2⟩;clear h1 h2;by_cases hlt:lo<hi
  ·obtain ⟨b,off,rfl,cm⟩:=hc ((lo+hi) / 2) (by omega);clear hc;generalize hy:zs.getD ((lo+hi) / 2) 0=y at cm;have Y:Aside (zs.getD ((lo+hi) / 2) 0=y):=hy;clear hy;by_cases hyx:y<x
   ·go_wp2_with (first|(go_at_call 129;refine (ug _ _ _).mono ?_;rintro e w' ⟨rfl,rfl⟩)|(go_at_call 130;refine (oU _ _).mono ?_;rintro e w' ⟨rfl,rfl⟩))
    go_roundg (hi-((lo+hi) / 2+1))
    case measure=>omega
    case rel=>
     refine ⟨(lo+hi) / 2+1,hi,_,by rw [show ((lo:Int)+(hi:Int)) / 2+1=(((lo+hi) / 2+1:Nat):Int) by omega],rfl,by omega,hin,Nat.le_refl _,rfl,fun t ht=>?_,I.out.2⟩;have:=S.out t ((lo+hi) / 2) (by omega) (by omega);rw [Y.out] at this;omega
   ·go_wp2_with (first|(go_at_call 129;refine (ug _ _ _).mono ?_;rintro e w' ⟨rfl,rfl⟩)|(go_at_call 130;refine (oU _ _).mono ?_;rintro e w' ⟨rfl,rfl⟩))
    go_roundg ((lo+hi) / 2-lo)
    case measure=>omega
    case rel=>
     refine ⟨lo,(lo+hi) / 2,_,rfl,by rw [show ((lo:Int)+(hi:Int)) / 2=(((lo+hi) / 2:Nat):Int) by omega],by omega,by omega,Nat.le_refl _,rfl,I.out.1,fun t ht htn=>?_⟩;have:=S.out ((lo+hi) / 2) t ht htn;rw [Y.out] at this;omega
  ·have:hi=lo:=by omega
   subst this;obtain ⟨e1,e2⟩:=Lib.search_end zs n hi x hz hin I.out.1 I.out.2 S.out;have E:Aside ((zs.take n).countP (·<x)=hi∧(zs.take n).contains x=decide (hi<n∧zs.getD hi 0=x)):=⟨e1,e2⟩;clear e1 e2;by_cases hn:hi<n
   ·obtain ⟨b,off,rfl,cl⟩:=hc hi (by omega);clear hc;generalize hy:zs.getD hi 0=y at cl;have Y:Aside (zs.getD hi 0=y):=hy;clear hy;by_cases hyx:y=x
    ·go_wp2_with (first|(go_at_call 129;refine (ug _ _ _).mono ?_;rintro e w' ⟨rfl,rfl⟩)|(go_at_call 130;refine (oU _ _).mono ?_;rintro e w' ⟨rfl,rfl⟩));go_ret2;refine ⟨?_,_,rfl⟩;rw [E.out.1,E.out.2,Y.out,decide_eq_true (show hi<n∧y=x from ⟨hn,hyx⟩)]
     first|rfl|simp [*]
    ·go_wp2_with (first|(go_at_call 129;refine (ug _ _ _).mono ?_;rintro e w' ⟨rfl,rfl⟩)|(go_at_call 130;refine (oU _ _).mono ?_;rintro e w' ⟨rfl,rfl⟩));go_ret2;refine ⟨?_,_,rfl⟩;rw [E.out.1,E.out.2,Y.out,decide_eq_false (show ¬(hi<n∧y=x) from fun h=>hyx h.2)]
     first|rfl|simp [*]
   ·clear hc;go_wp2_with (first|(go_at_call 129;refine (ug _ _ _).mono ?_;rintro e w' ⟨rfl,rfl⟩)|(go_at_call 130;refine (oU _ _).mono ?_;rintro e w' ⟨rfl,rfl⟩));go_ret2;refine ⟨?_,_,rfl⟩;rw [E.out.1,E.out.2,decide_eq_false (show ¬(hi<n∧zs.getD hi 0=x) from fun h=>hn h.1)]
    first|rfl|simp [*]
theorem GJ {w:World} {v:Value} (l:List Nat) (c:Nat) (hv:bB w v (aN l)) (hl:l.length<1000000) (hs:l.Pairwise (· < ·)) :
 Calls Tryz.prog 94 #[v,.int .i32 c] w fun e w'=>e=.returned (.tuple #[.int .i64 (l.countP (·<c):Nat),.bool (l.contains c)])∧Below w.heap.size w w':=by
 obtain ⟨a,cap,rfl,_,hx⟩:=hv.out;rw [bA] at *
 have h:=QY a l.length cap (l.map fun d:Nat=>(d:Int)) (c:Int) w (by simp) (by omega) (fun j hj=>by
  obtain ⟨b,off,h1,_,h3⟩:=hx j (by simpa using hj);refine ⟨b,off,h1,h3.trans ?_⟩;rw [dM _ _ hj,List.getD_eq_getElem?_getD,List.getElem?_map,List.getElem?_eq_getElem hj];rfl) (by
  rw [List.take_of_length_le (by simp),List.pairwise_map]
  exact hs.imp fun h=>by omega)
 rw [List.take_of_length_le (by simp)] at h;refine h.mono ?_;rintro e w' ⟨rfl,q,rfl⟩;refine ⟨?_,⟨rfl,rfl,rfl,Nat.le_refl _,fun _ _=>rfl⟩⟩;have e1:(l.map fun d:Nat=>(d:Int)).countP (fun y=>decide (y<(c:Int)))=l.countP fun y=>decide (y<c):=by
  rw [List.countP_map];congr 1;funext y;simp
 have e2:(l.map fun d:Nat=>(d:Int)).contains (c:Int)=l.contains c:=by
  rw [Bool.eq_iff_iff];simp only [List.contains_iff_mem,List.mem_map];constructor
  ·rintro ⟨a,ha,e⟩;obtain rfl:a=c:=by omega
   exact ha
  ·intro h;exact ⟨c,h,rfl⟩
 rw [e1,e2]
theorem NI {l:List Nat} (hs:l.Pairwise (· < ·)) (c:Nat):places l c=(l.countP fun y=>decide (y<c))+if l.contains c=true then 1 else 0:=by
 unfold places
 induction l with
 | nil=>rfl
 | cons a l ih=>
   obtain ⟨h1,h2⟩:=List.pairwise_cons.1 hs;rw [List.countP_cons,List.countP_cons,ih h2,List.contains_cons];rcases Nat.lt_trichotomy a c with h|h|h
   ·have e1:(c==a)=false:=by simp;omega
    have d1:decide (a<c)=true:=decide_eq_true h;have d2:decide (a≤c)=true:=decide_eq_true (by omega);simp only [e1,Bool.false_or,d1,d2,if_true];omega
   ·subst h;have e2:l.contains a=false:=by
     rw [Bool.eq_false_iff];intro h;have:=h1 a (by simpa using h);omega
    rw [e2];simp
   ·have e1:(c==a)=false:=by simp;omega
    have d1:decide (a<c)=false:=decide_eq_false (by omega);have d2:decide (a≤c)=false:=decide_eq_false (by omega);simp only [e1,Bool.false_or,d1,d2];simp
theorem Kj {w:World} {v:Value} (l:List Nat) (c:Nat) (hv:bB w v (aN l)) (hl:l.length<1000000) (hs:l.Pairwise (· < ·)) :
 Calls Tryz.prog 65 #[.agg #[v],.int .i32 c] w fun e w'=>e=.returned (.int .i64 (places l c))∧Below w.heap.size w w':=by
 have hb:=af (w:=w) (.cells #[v] 93);have k0:=Is.new w #[v] 93;have BS:=aa (GJ l c (hv.mono hb) hl hs);have e0:=k0.at 0 rfl;have HP:=aa (NI hs c);obtain ⟨a,cap,rfl,_,_⟩:=hv.out;rw [bA] at *;have hcl:(l.countP fun y=>decide (y<c))≤l.length:=List.countP_le_length;generalize (l.countP fun y=>decide (y<c))=k at *;generalize l.length=n at *;clear hv hs;go_enter Tryz.func65,Tryz.ntmps65;cases hk:l.contains c with
 | true=>
   rw [hk] at BS HP;clear hk;go_wp2_with (go_at_call 94;refine BS.out.mono ?_;rintro e w2 ⟨rfl,hB⟩);go_ret;rw [HP.out];exact ⟨by simp,hb.trans (hB.mono hb.size)⟩
 | false=>
   rw [hk] at BS HP;clear hk;go_wp2_with (go_at_call 94;refine BS.out.mono ?_;rintro e w2 ⟨rfl,hB⟩);go_ret;rw [HP.out];exact ⟨by simp,hb.trans (hB.mono hb.size)⟩
theorem NJ (n:Nat):bits .and .i64 (n:Int) 1=((n % 2:Nat):Int):=by
 have h1:(BitVec.ofInt 64 1).toNat=2 ^ 1-1:=by decide
 have key:(BitVec.ofInt 64 n &&& BitVec.ofInt 64 1).toNat=((n:Int) % ((2 ^ 64:Nat):Int)).toNat % 2 ^ 1:=by
  rw [BitVec.toNat_and,BitVec.toNat_ofInt,h1,Nat.and_two_pow_sub_one_eq_mod]
 show IntKind.i64.wrap ((BitVec.ofInt 64 n &&& BitVec.ofInt 64 1).toNat:Nat)=_;rw [key,IntKind.wrap_i64];omega
theorem GK {w:World} {v:Value} (l:List Nat) (c:Nat) (hv:bB w v (aN l)) (hl:l.length<1000000) (hs:l.Pairwise (· < ·)) :
 Calls Tryz.prog 43 #[.agg #[v],.int .i32 c] w fun e w'=>e=.returned (.bool (decide (places l c % 2=1)))∧Below w.heap.size w w':=by
 have hb:=af (w:=w) (.cells #[v] 93);have k0:=Is.new w #[v] 93;have PL:=aa (Kj l c (hv.mono hb) hl hs);have e0:=k0.at 0 rfl;have hle:places l c≤l.length:=List.countP_le_length;obtain ⟨a,cap,rfl,_,_⟩:=hv.out;rw [bA] at *;generalize places l c=k at *;generalize l.length=n at *;clear hv hs;go_enter Tryz.func43,Tryz.ntmps43;go_wp2_with (go_at_call 65;refine PL.out.mono ?_;rintro e w2 ⟨rfl,hB⟩);go_ret;refine ⟨?_,hb.trans (hB.mono hb.size)⟩;show Ending.returned (Value.bool (bits BinOp.and IntKind.i64 (k:Int) 1==1))=_;rw [NJ];congr 2;rw [Bool.eq_iff_iff];simp;omega
end Go.Proofs.YtmpkfkoficehpaaGreatDoor
namespace Go.Proofs.YtmpkfkoficehpaaGreatDoor
open Go.RowKit Go.Cd
theorem QZ {P:Program} {W:World} {ops:Array Oper} {rest:List Oper} {o:Oper} {a:Act} {Q:Exit→Act→World→Prop} (hgd:o.guard=none) (s x:Operand) (t:TypeId)
 (ho:o.op=.call { callee:=.builtin .append,args:=#[s,x],argTypes:=#[t,t] })
 (base:Nat) (e:TypeId) (z:Value) (bytes:Nat) (hE:Elem P t e z bytes)
 (v:Value) (n:Nat) (xs:List Value) (hs:a.eval s=v) (hown:W.ownsRow base e 1 v n xs)
 (u u2:Value) (hx:a.eval x=.slice (some ⟨W.heap.size,0,none⟩) 2 2) (h1:u.oneCell'=true) (h2:u2.oneCell'=true)
 (hbytes:(n+2)*bytes≤140737488355328) (h63:n+2≤maxLen) (w0:World) (hb:Below base w0 W) (hbase:base≤w0.heap.size)
 (h:∀v' w',w'.ownsRow base e 1 v' (n+2) (xs++[u,u2])→Below base w0 w'→wpList P ops Q rest (a.put o.dst v') w'):wpList P ops Q (o::rest) a (W.alloc (.cells #[u,u2] e)):=by
 have hsz:=hb.size;refine bN hgd s x t ho base e z bytes hE v n xs hs (hown.alloc _) _ [u,u2] hx (qj W #[u,u2] e) (by simp [h1,h2]) (by simpa using h63) (by simpa using hbytes) (by simp;omega) ?_;intro v' w' h2 h3;refine h v' w' (by simpa using h2) ((hb.alloc (by omega) _).grown h3 (by simp;omega) ?_);intro k hk;exact (hown.lt k hk).1
theorem Kk {w:World} (a:Option Addr) (cap:Nat) :
 Calls Tryz.prog 122 #[.slice a 0 cap] w fun e w'=>e=.returned (.slice a 0 cap)∧w'=w:=by
 go_enter Tryz.func122,Tryz.ntmps122;go_wp2;go_ret;exact ⟨rfl,rfl⟩
theorem DT {w:World} {base:Nat} {v:Value} (l:List Nat) (ho:w.ownsRow base aM 1 v l.length (aN l)) (hl:l.length<1000000) :
 Calls Tryz.prog 122 #[v] w fun e w'=>∃r,e=.returned r∧w'.ownsRow base aM 1 r (BC l).length (aN (BC l))∧w.grownBy w' v.ownBlock:=by
 by_cases h0:l=[]
 ·subst h0;obtain ⟨a,cap,rfl,_,_⟩:=ak ho;refine (Kk a cap).mono ?_;rintro e w' ⟨he,rfl⟩;exact ⟨_,he,ho,⟨rfl,rfl,rfl,Nat.le_refl _,fun _ _ _=>rfl⟩⟩
 ·exact GI l ho hl h0
theorem last_at {O:List Nat} {c:Nat} (h:0<O.length):O.getLast? = some c↔O[O.length-1]=c:=by
 rw [List.getLast?_eq_getElem?,List.getElem?_eq_getElem (by omega)];simp
theorem Q0 {O:List Nat} {c:Nat} (h:0<O.length) (hl:O[O.length-1]=c):iy O c=O.set (O.length-1) (c+1):=by
 have h1:=(last_at h).2 hl;unfold iy;rw [if_pos h1];obtain ⟨p,rfl⟩:=List.getLast?_eq_some_iff.1 h1;rw [List.dropLast_concat,List.length_append,List.length_singleton,Nat.add_sub_cancel,List.set_append_right _ _ (Nat.le_refl _)];simp
theorem yT {w:World} {v:Value} (l:List Nat) (hv:Sl aM w v (aN l)) (hp:fC v) (hc:∀c∈l,aP c) (hl:l.length<100000) :
 Calls Tryz.prog 86 #[v] w fun e w'=>∃r,e=.returned (.agg #[r])∧w'.ownsRow w.heap.size aM 1 r (lh (h_ l)).length (aN (lh (h_ l)))∧Below w.heap.size w w':=by
 have hb:=af (w:=w) (.cells #[.slice none 0 0] 93);obtain ⟨w0,hw0⟩:=ae (w.alloc (.cells #[.slice none 0 0] 93));have k0:Is w0 w.heap.size #[.slice none 0 0] 93:=by rw [hw0];exact Is.new _ _ _
 have hz0:w0.heap.size=w.heap.size+1:=by rw [hw0];simp
 rw [←hw0] at hb;have CL:=aa (jZ l (hv.mono hb) hp (by omega));have NK:=aa (show ∀c∈h_ l,aP c from fun c h=>hc c (((mM l).2 c).1 h));have hol:=vB l;obtain ⟨pa,pn,pc,rfl,_⟩:=id hp;clear hp hv hc;go_enter Tryz.func86,Tryz.ntmps86;go_wp2_with fail;rw [←hw0];clear hw0;refine CL.out.mono ?_;rintro e w1 ⟨r1,rfl,o1,hB1⟩;have ST:=aa (uf l o1 (by omega));have hE1:=hB1;obtain ⟨a1,c1,rfl,_,_⟩:=ak o1;clear CL;go_wp2_with fail;refine ST.out.mono ?_;rintro e w2 ⟨rfl,o2,hg2⟩;have hB2:Below w0.heap.size w0 w2:=hE1.grown hg2 hE1.size fun k hk=>(o1.lt k hk).1;rw [←fB l] at o2;have CO:=aa (DT (cK l) o2 (by rw [fB];omega));rw [fB] at CO o2;clear ST o1 hE1 hB1 hg2;go_wp2_with fail;refine CO.out.mono ?_;rintro e w3 ⟨r3,rfl,o3,hg3⟩;have hB3:Below w0.heap.size w0 w3:=hB2.grown hg3 hB2.size fun k hk=>(o2.lt k hk).1;rw [show BC (cK l)=h_ l from rfl] at o3;clear CO o2 hB2 hg3;have s3:=(Sl.aW o3).any;obtain ⟨S,hSS⟩:=ae (h_ l);rw [←hSS] at o3 hol NK s3;have HSS:=aa hSS;clear hSS;obtain ⟨n,hn⟩:=ae S.length;obtain ⟨a3,c3,rfl,_,hx⟩:=bB.qL s3 hn;rw [←hn] at o3 hol;have HX:=aa hx;have HN:=aa hn;have HS2:=aa (fun j=>yB (S.take j));unfold lh at HS2;have k3:Is w3 w.heap.size #[.slice none 0 0] 93:=⟨(hB3.block w.heap.size (by omega)).trans k0.at_⟩;have hz3:w.heap.size+1≤w3.heap.size:=by have:=hB3.size;omega
 have hBw:=hb.trans (hB3.mono hb.size);clear hB3 hb hx hn s3 k0;go_wp2_with fail;go_loopw [4,15] (fun ov iv wr=>∃j:Nat,j≤n∧iv=.int .i64 j∧wr.ownsRow w3.heap.size aM 1 ov ((S.take j).foldl iy []).length (aN ((S.take j).foldl iy []))∧Below w3.heap.size w3 wr) (fun _ iv _=>n-(intOf iv).toNat)
 case atStart=>exact ⟨0,Nat.zero_le _,rfl,World.ownsRow_nil _ _ _ _,Below.refl _ _⟩
 case round=>
  obtain ⟨j,hj,rfl,ho,hE⟩:=hrel;by_cases hjn:j<n
  ·have zj:decide ((j:Int)<(n:Int))=true:=by simp;omega
   have hjl:j<S.length:=by have:=HN.out;omega
   obtain ⟨b,off,rfl,_,hcl⟩:=HX.out j hjl;have hcl:=aA hE hcl;have hch:=NK.out _ (List.getElem_mem hjl);have HT:=aa (show (S.take (j+1)).foldl iy []=iy ((S.take j).foldl iy []) S[j] by rw [List.take_succ_eq_append_getElem hjl,List.foldl_append];rfl);have aaV:=HS2.out j;rw [List.length_take,Nat.min_eq_left (by omega)] at aaV;generalize S[j]=c at *;generalize (S.take j).foldl iy []=O at *;have hcd:=hch.1
   have UI:=aa (show ∀W,Calls Tryz.prog 17 #[.int .i32 c] W fun e w'=>e=.returned (.bool true)∧w'=W from fun W=>by
    have:=iG (w:=W) c (by omega)
    rwa [decide_eq_true hch] at this)
   obtain ⟨m,hm⟩:=ae O.length;rw [←hm] at ho aaV;clear hch;by_cases h0:m=0
   ·have hO:O=[]:=List.length_eq_zero_iff.1 (by omega);subst hO;subst h0;obtain ⟨av,cv,rfl,_,_⟩:=ak ho;clear hm
    go_wp2_with (first
     | (go_at_call 17;refine (UI.out _).mono ?_;rintro e w5 ⟨rfl,rfl⟩)
     | (at_builtin;refine QZ rfl _ _ 52 rfl w3.heap.size aM _ 4 bT (.slice av 0 cv) 0 _ rfl ho (.int .i32 (c:Nat)) (.int .i32 ((c+1:Nat):Int)) rfl rfl rfl (by omega) (by unfold maxLen;omega) _ (Below.refl _ _) hE.size ?_;intro v1 w6 o6 oz;obtain ⟨a6,c6,rfl,_,_⟩:=ak o6))
    go_roundw
    case rel=>
     refine ⟨j+1,by omega,by simp,?_,hE.trans oz⟩;rw [HT.out];exact o6
    case measure=>simp [intOf];omega
   ·obtain ⟨k,rfl⟩:∃k,m=k+1:=⟨m-1,by omega⟩;have hz:decide ((0:Int)<((k+1:Nat):Int))=true:=by simp
    obtain ⟨g,cv,rfl⟩:=ownsRow_succ ho;have hkO:k<O.length:=by omega
    obtain ⟨ck,fk⟩:=jJ ho (j:=k) (by simpa using hkO);rw [dM _ _ hkO] at ck;have hd:=(ho.lt g rfl).1;have HAS:=aa (fun (h:O[k]=c)=>Q0 (O:=O) (c:=c) (by omega) (by simpa [←hm] using h))
    have HAN:=aa (show O[k]≠c→iy O c=O++[c,c+1] from fun h=>by
     unfold iy;rw [if_neg];intro h1;have h2:=(last_at (by omega)).1 h1;simp only [←hm,Nat.add_sub_cancel] at h2
     exact h h2)
    have HM:=aa hm;by_cases hq:O[k]=c
    ·have zq:((O[k]:Int)==(c:Int))=true:=by simp;omega
     generalize O[k]=q at *;obtain ⟨o6,JH⟩:=ho.stored k (.int .i32 ((c+1:Nat):Int));have HO6:=aa o6;have HG6:=aa JH;clear hm o6 JH ho hkO;go_wp2_with (go_at_call 17;refine (UI.out _).mono ?_;rintro e w5 ⟨rfl,rfl⟩);go_roundw
     case rel=>
      refine ⟨j+1,by omega,by simp,?_,hE.trans (aj (Below.refl _ _) hd)⟩;rw [HT.out,HAS.out hq,List.length_set,←HM.out,Nat.add_sub_cancel];have:=HO6.out;simpa [aN,List.map_set] using this
     case measure=>simp [intOf];omega
    ·have zq:((O[k]:Int)==(c:Int))=false:=by simp;omega
     generalize O[k]=q at *;clear hm hkO
     go_wp2_with (first
      | (go_at_call 17;refine (UI.out _).mono ?_;rintro e w5 ⟨rfl,rfl⟩)
      | (at_builtin;refine QZ rfl _ _ 52 rfl w3.heap.size aM _ 4 bT (.slice (some ⟨g,0,none⟩) (k+1) cv) (k+1) _ rfl ho (.int .i32 (c:Nat)) (.int .i32 ((c+1:Nat):Int)) rfl rfl rfl (by omega) (by unfold maxLen;omega) _ (Below.refl _ _) hE.size ?_;intro v1 w6 o6 oz;obtain ⟨a6,c6,rfl,_,_⟩:=ak o6))
     go_roundw
     case rel=>
      refine ⟨j+1,by omega,by simp,?_,hE.trans oz⟩;rw [HT.out,HAN.out hq,List.length_append,←HM.out,aZ];exact o6
     case measure=>simp [intOf];omega
  ·have zj:decide ((j:Int)<(n:Int))=false:=by simp;omega
   obtain rfl:j=n:=by omega
   have hT:S.take j=S:=List.take_of_length_le (by have:=HN.out;omega);rw [hT] at ho;rw [show S.foldl iy []=lh S from rfl] at ho;obtain ⟨av,cv,rfl,_,_⟩:=ak ho;have K3:=k3.mono hE;have e0:=K3.at 0 rfl;have f0:=K3.frozen 0;have HOw:=aa ho;clear ho hT;go_wp2
   (try simp only [Exit.inBlock,Exit.then])
   have P:=K3.set 0 (.slice av (lh S).length cv);have v0:=P.at 0 rfl;refine bodyPost_ret (v:=.agg #[.slice av (lh S).length cv]) (by simp [results,Tryz.results86,go_sem,v0]) rfl ?_;have hq:=bn HOw.out (Go.Cd.aae HOw.out (k:=w.heap.size) (by omega)) 0 (.slice av (lh S).length cv);rw [←HSS.out];exact ⟨_,rfl,aV hq (show w.heap.size≤w3.heap.size by omega),aj (hBw.trans (hE.mono (by omega))) (Nat.le_refl _)⟩
end Go.Proofs.YtmpkfkoficehpaaGreatDoor
namespace Go.Proofs.YtmpkfkoficehpaaGreatDoor
open Go.RowKit Go.Cd Go.Shelf
def wT (T:List aH):Nat→Int
 | 0=>-1
 | k+1=>match T[k]? with|some r=>(r.code:Int)|none=>-1
theorem r9 {T:List aH} {k:Nat} (h:k<T.length):wT T (k+1)=(T[k].code:Nat):=by
 show (match T[k]? with|some r=>(r.code:Int)|none=>-1)=_;rw [List.getElem?_eq_getElem h]
theorem iW:∀{T:List aH},rising T→∀(i k:Nat) (hi:i<T.length) (hk:k<T.length),i<k→T[i].code<T[k].code
 | r::T,h,0,k+1,_,hk,_=>h.1 _ (List.getElem_mem (by simpa using hk))
 | r::T,h,i+1,k+1,hi,hk,hlt=>iW h.2 i k (by simpa using hi) (by simpa using hk) (by omega)
theorem GL {T:List aH} (h:rising T) (j:Nat) (hj:j<T.length):wT T j<(T[j].code:Nat):=by
 cases j with
 | zero=>show (-1:Int)<_;omega
 | succ k=>
   have h1:=iW h k (k+1) (by omega) hj (by omega);rw [r9 (by omega)];omega
structure DU (T:List aH):Prop where
 ok:∀r∈T,QS r
 says:∀r∈T,r.cls≠0∨r.map≠[]
 XW:∀r∈T,aP r.code
 rise:rising T
 len:T.length<40000
theorem GM {w0 w:World} {p:Nat} {v:Value} {T:List aH} (hT:DU T) (hG:ek w0) (hv:bB w0 v (xG (T.map dh))) (hp0:w0.heap.size≤p) (hE0:Below w0.heap.size w0 w) (hR:ZV w p [] (-1)) :
 Calls Tryz.prog 82 #[v,.func (.func 83) #[.pointer (some ⟨p,0,none⟩)] #[]] w fun e w'=>e=.returned (.tuple #[.int .i64 0,.string ⟨#[]⟩])∧Below p w w'∧w.heap.size≤w'.heap.size∧∃L,L.map (·.1)=T∧ZV w' p L (wT T T.length):=by
 obtain ⟨a,cap,hve,_,hx⟩:=hv.out;obtain ⟨n,hn⟩:=ae T.length;have hn2:(xG (T.map dh)).length=n:=by simp [hn]
 rw [hn2] at hve;subst hve
 have HX:=aa (show ∀i (hi:i<T.length),∃b off,a=some ⟨b,off,none⟩∧b<w0.heap.size∧w0.cell? ⟨b,off+i,none⟩=some (.string (tx (dh T[i]))) from fun i hi=>by
  obtain ⟨b,off,h1,h2,h3⟩:=hx i (by simpa using hi);refine ⟨b,off,h1,h2,h3.trans ?_⟩
  simp [xG])
 have HN:=aa hn;have HT:=aa hT;have hnl:n<40000:=by rw [hn];exact hT.len
 rw [←hn];clear hn hx hv hn2;go_enter Tryz.func82,Tryz.ntmps82;go_wp2_with fail;go_loopw [11] (fun iv wr=>∃j:Nat,j≤n∧iv=.int .i64 j∧(∃L,L.map (·.1)=T.take j∧ZV wr p L (wT T j))∧Below p w wr∧w.heap.size≤wr.heap.size) (fun iv _=>n-(intOf iv).toNat)
 case atStart=>exact ⟨0,Nat.zero_le _,rfl,⟨[],by simp,hR⟩,Below.refl _ _,Nat.le_refl _⟩
 case round=>
  clear hR;obtain ⟨j,hj,rfl,⟨L,hL,hR⟩,hB,hs⟩:=hrel;by_cases hjn:j<n
  ·have zj:decide ((j:Int)<(n:Int))=true:=by simp;omega
   have hjl:j<T.length:=by have:=HN.out;omega
   obtain ⟨b,off,rfl,hb,hc⟩:=HX.out j hjl;have hE:Below w0.heap.size w0 wr:=hE0.trans (hB.mono hp0);have hc:=aA hE hc;have hmem:=List.getElem_mem hjl;have TT:L.length=j:=by have:=congrArg List.length hL;simpa [List.length_take,Nat.min_eq_left (Nat.le_of_lt hjl)] using this
   have LI:=aa (GD (hG.mono hE) hR T[j] (HT.out.ok _ hmem) (GL HT.out.rise j hjl) (HT.out.says _ hmem) (HT.out.XW _ hmem) (by omega));have HL:=aa hL;have XR:=aa (show T.take (j+1)=T.take j++[T[j]] from List.take_succ_eq_append_getElem hjl);have XU:=aa (show wT T (j+1)=(T[j].code:Nat) from r9 hjl);generalize T[j]=r at *;generalize dh r=lt at *;clear hL hR hmem;go_wp2_with fail;refine LI.out.mono ?_;rintro e w2 ⟨rfl,h1,h2,x,h3⟩;clear LI hc;have z:(⟨#[]⟩:ByteArray).toList.isEmpty=true:=by rw [Lib.toList_data];rfl
   have H3:=aa h3;clear h3;go_wp2_with fail;go_roundw
   case rel=>
    exact ⟨j+1,by omega,by simp,⟨L++[(r,x)],by rw [List.map_append,HL.out,XR.out];rfl,by rw [XU.out];exact H3.out⟩,hB.trans h1,by omega⟩
   case measure=>simp [intOf];omega
  ·have zj:decide ((j:Int)<(n:Int))=false:=by simp;omega
   obtain rfl:j=n:=by omega
   have HR:=aa hR;have HL:=aa hL;clear hR hL;go_wp2;go_ret2;refine ⟨rfl,hB,hs,L,?_,HR.out⟩;rw [HL.out];exact List.take_of_length_le (by have:=HN.out;omega)
theorem DV {w:World} (hG:ek w) {T:List aH} (hT:DU T) (hlen:(gp T).length<1000000) :
 Calls Tryz.prog 55 #[.string (tx (gp T))] w fun e w'=>∃(v:Value) (L:List (aH×Value)),e=.returned (.tuple #[v,.nilIface])∧L.map (·.1)=T∧w'.ownsRow w.heap.size mV 3 v L.length (L.flatMap mh)∧(∀x∈L,Sl aM w' x.2 (aN x.1.map)∧fC x.2)∧Below w.heap.size w w':=by
 have LN:=aa (ru (w:=w) (T.map dh) (by
  intro p hp;obtain ⟨r,hr,rfl⟩:=List.mem_map.1 hp;have h1:=hT.ok r hr
  exact ⟨Gl h1.cls,Nat.le_trans (qw h1.len) (by decide)⟩) hlen)
 have hs:tx (gp T)=tx (bS (T.map dh)):=rfl;rw [hs];clear hs;obtain ⟨s,hs⟩:=ae (tx (bS (T.map dh)));rw [←hs] at LN ⊢;clear hs;have hnT:T.length<40000:=hT.len;go_enter Tryz.func55,Tryz.ntmps55;go_wp2_with fail;refine LN.out.mono ?_;rintro e w1 ⟨v,rfl,ho,hB1⟩;have hsl:=(Sl.aW ho).any;obtain ⟨av,cv,rfl,_,_⟩:=ak ho;rw [List.length_map] at hsl ⊢;have hB2:=af (w:=w1) (.cells #[.slice none 0 0,.int .i32 (-1),.string ⟨#[]⟩] 174);have hR:ZV (w1.alloc (.cells #[.slice none 0 0,.int .i32 (-1),.string ⟨#[]⟩] 174)) w1.heap.size [] (-1):=⟨⟨.slice none 0 0,Is.new _ _ _,World.ownsRow_nil _ _ _ _⟩,by simp⟩;have EA:=aa (GM hT (hG.mono hB1) hsl (Nat.le_refl _) hB2 hR);clear hR hsl ho LN;obtain ⟨n,hn⟩:=ae T.length;rw [←hn] at EA hnT ⊢;have z1:decide ((40000:Int)<(n:Int))=false:=by simp;omega
 have z2:(⟨#[]⟩:ByteArray).toList.isEmpty=true:=by rw [Lib.toList_data];rfl
 clear hn;go_wp2_with fail;refine EA.out.mono ?_;rintro e w3 ⟨rfl,h1,h2,L,hL,⟨⟨ov,hp,ho⟩,hM⟩⟩;obtain ⟨oa,oc,rfl,_,_⟩:=ak ho;have e0:=hp.at 0 rfl;have e2:=hp.at 2 rfl;have HO:=aa ho;have HM:=aa hM;clear EA ho hM;go_wp2;go_ret2;have hs1:=hB1.size;exact ⟨_,L,rfl,hL,aV HO.out (by omega),HM.out,(hB1.trans ((hB2.mono hs1).trans (h1.mono hs1)))⟩
end Go.Proofs.YtmpkfkoficehpaaGreatDoor
namespace Go.Proofs.YtmpkfkoficehpaaGreatDoor
open Go.RowKit Go.Cd
theorem DW {w:World} {v:Value} (l:List Nat) (c:Nat) (hv:bB w v (aN l)) (hp:fC v) (hl:l.length<1000000) (hc:c∉l) :
 Calls Tryz.prog 120 #[v,.int .i32 c] w fun e w'=>e=.returned (.bool false)∧w'=w:=by
 obtain ⟨a,cap,rfl,_,hx⟩:=bB.qL hv rfl;rcases l with _|⟨x,l⟩
 ·exact AnyE.slices_Contains_empty Tryz.qW a cap (.int .i32 c) w
 ·obtain ⟨b,off,rfl,_,_⟩:=hx 0 (by simp)
  have h:=AnyE.slices_Contains Tryz.qW aaf (fun x y=>decide (x=y)) (aaU _ _) b off (x::l).length cap (x::l) c w (Nat.le_refl _) (by omega) (fun j hj=>by
   obtain ⟨b',off',h1,_,h3⟩:=hx j hj;cases h1;rw [h3,getElem!_pos (x::l) j hj]
   rfl)
  refine Calls.mono (h:Calls Tryz.prog 120 #[.slice (some ⟨b,off,none⟩) (x::l).length cap,.int .i32 c] w _) ?_;rintro e w' ⟨rfl,rfl⟩;refine ⟨?_,rfl⟩;rw [List.take_length];congr 2;rw [List.any_eq_false];intro y hy;simp only [decide_eq_true_eq];rintro rfl;exact hc hy
theorem GN {w:World} (c:Nat) (hc:aP c) {v:Value} (l:List Nat) (hv:bB w v (aN l)) (hp:fC v) (hl:l.length<1000000) (hn:c∉l) :
 Calls Tryz.prog 85 #[.string (tx (bI c)),v] w fun e w'=>e=.returned (.tuple #[.int .i32 c,.string ⟨#[]⟩])∧w'=w:=by
 have HX:=aa (oP (w:=w) c hc.1);have UI:=aa (iG (w:=w) c (by have:=hc.1;omega));rw [decide_eq_true hc] at UI;have CN:=aa (DW l c hv hp hl hn);generalize tx (bI c)=s at *;obtain ⟨a,cap,rfl,_,_⟩:=bB.qL hv rfl;clear hv hp hn hc;go_enter Tryz.func85,Tryz.ntmps85
 go_wp2_with (first
  | (go_at_call 119;refine HX.out.mono ?_;rintro e w2 ⟨rfl,rfl⟩)
  | (go_at_call 17;refine UI.out.mono ?_;rintro e w2 ⟨rfl,rfl⟩)
  | (go_at_call 120;refine CN.out.mono ?_;rintro e w2 ⟨rfl,rfl⟩))
 go_ret2;exact ⟨rfl,rfl⟩
theorem qx:∀(l seen:List Nat) (x:Nat),x∈dS seen l↔x∈l∧x∉seen
 | [],seen,x=>by simp [dS]
 | c::l,seen,x=>by
   unfold dS;have ih:=qx l (seen++[c]) x;by_cases h:c∈seen
   ·rw [if_pos h,ih];simp only [List.mem_append,List.mem_cons,List.not_mem_nil,or_false];constructor
    ·rintro ⟨h1,h2⟩;exact ⟨.inr h1,fun h3=>h2 (.inl h3)⟩
    ·rintro ⟨h1|h1,h2⟩
     ·subst h1;exact absurd h h2
     ·exact ⟨h1,fun h3=>h3.elim h2 (fun e=>by subst e;exact h2 h)⟩
   ·rw [if_neg h,List.mem_cons,ih];simp only [List.mem_append,List.mem_cons,List.not_mem_nil,or_false];constructor
    ·rintro (h1|⟨h1,h2⟩)
     ·subst h1;exact ⟨.inl rfl,h⟩
     ·exact ⟨.inr h1,fun h3=>h2 (.inl h3)⟩
    ·rintro ⟨h1|h1,h2⟩
     ·exact .inl h1
     ·by_cases e:x=c
      ·exact .inl e
      ·exact .inr ⟨h1,fun h3=>h3.elim h2 e⟩
theorem oV:∀(l seen:List Nat),(dS seen l).Nodup
 | [],seen=>by simp [dS]
 | c::l,seen=>by
   unfold dS;by_cases h:c∈seen
   ·rw [if_pos h];exact oV l _
   ·rw [if_neg h,List.nodup_cons];exact ⟨fun h1=>by have:=((qx l (seen++[c]) c).1 h1).2;simp at this,oV l _⟩
theorem vG:∀(l seen:List Nat),(dS seen l).length≤l.length
 | [],seen=>by simp [dS]
 | c::l,seen=>by
   unfold dS;have:=vG l (seen++[c]);by_cases h:c∈seen
   ·rw [if_pos h,List.length_cons];omega
   ·rw [if_neg h,List.length_cons,List.length_cons];omega
def jR (X:List Nat):List Nat:=lh (h_ (dS [] X))
theorem NL (X:List Nat) (c:Nat):places (jR X) c % 2=1↔c∈X:=by
 unfold jR;rw [FY (mM _).1,(mM _).2,qx];simp
theorem Kl (X:List Nat):(jR X).Pairwise (· < ·):=BF (mM _).1
theorem NM (X:List Nat):(jR X).length≤2*X.length:=by
 have h1:=yB (h_ (dS [] X));have h2:=vB (dS [] X);have h3:=vG X [];unfold jR;omega
theorem DX {w:World} (hG:ek w) {X:List Nat} (hX:∀c∈X,aP c) (hlen:X.length<10000) :
 Calls Tryz.prog 57 #[.string (tx (fK X))] w fun e w'=>∃r:Value,e=.returned (.tuple #[.agg #[r],.nilIface])∧w'.ownsRow w.heap.size aM 1 r (jR X).length (aN (jR X))∧Below w.heap.size w w':=by
 obtain ⟨Y,hY⟩:=ae (dS [] X);have hYl:Y.length<10000:=by have:=vG X [];rw [←hY] at this;omega
 have DY:∀c∈Y,aP c:=fun c h=>hX c ((qx X [] c).1 (hY▸h)).1;have hYn:Y.Nodup:=by rw [hY];exact oV X []
 have hes:jR X=lh (h_ Y):=by rw [hY];rfl
 have htx:fK X=bS (Y.map bI):=by rw [hY];rfl
 have hll:(bS (Y.map bI)).length<1000000:=by
  have:∀l:List Nat,(bS (l.map bI)).length≤l.length*7:=fun l=>by
   induction l with
   | nil=>simp [bS]
   | cons c l ih=>
     rw [List.map_cons,lN,List.length_append,List.length_cons,List.length_cons];have:=(bW c).2;omega
  have:=this Y;omega
 have LN:=aa (fun W=>ru (w:=W) (Y.map bI) (by
  intro p hp;obtain ⟨c,_,rfl⟩:=List.mem_map.1 hp
  exact ⟨fun b hb=>(dJ c b hb).1,Nat.le_trans (bW c).2 (by decide)⟩) hll)
 rw [hes,htx];obtain ⟨s,hs⟩:=ae (tx (bS (Y.map bI)));rw [←hs] at LN ⊢;have JI:=aa DY;have HYN:=aa hYn;clear hs hY DY hYn hes htx hll hX hlen;obtain ⟨w0,hw0⟩:=ae (w.alloc (.cells #[.slice none 0 0] 93));have hb:Below w.heap.size w w0:=by rw [hw0];exact af _
 have k0:Is w0 w.heap.size #[.slice none 0 0] 93:=by rw [hw0];exact Is.new _ _ _
 have hz0:w0.heap.size=w.heap.size+1:=by rw [hw0];simp
 obtain ⟨n,hn⟩:=ae Y.length;have HN:=aa hn;have hn2:(Y.map bI).length=n:=by rw [List.length_map,hn]
 rw [←hn] at hYl;clear hn;go_enter Tryz.func57,Tryz.ntmps57;go_wp2_with fail;rw [←hw0];clear hw0;refine (LN.out w0).mono ?_;rintro e w1 ⟨v1,rfl,o1,hB1⟩;rw [hn2] at o1;obtain ⟨a1,c1,rfl,_,_⟩:=ak o1
 have HX:=aa (show ∀i (hi:i<Y.length),∃b off,a1=some ⟨b,off,none⟩∧b<w1.heap.size∧w1.cell? ⟨b,off+i,none⟩=some (.string (tx (bI Y[i]))) from fun i hi=>by
  obtain ⟨a',cap',h0,_,hx⟩:=(Sl.aW o1).out;have ha:a'=a1:=by injection h0 with e1;exact e1.symm
  subst ha;obtain ⟨b,off,h1,h2,h3⟩:=hx i (by simpa using hi);refine ⟨b,off,h1,h2,h3.trans ?_⟩
  simp [xG])
 have k1:=k0.mono hB1;have hBw:=ah hb hB1;have hz1:w.heap.size+1≤w1.heap.size:=by have:=hB1.size;omega
 clear LN o1 hn2 k0 hb hB1;go_wp2_with fail;go_loopw [6,22] (fun ov iv wr=>∃j:Nat,j≤n∧iv=.int .i64 j∧wr.ownsRow w1.heap.size aM 1 ov j (aN (Y.take j))∧Below w1.heap.size w1 wr) (fun _ iv _=>n-(intOf iv).toNat)
 case atStart=>exact ⟨0,Nat.zero_le _,rfl,World.ownsRow_nil _ _ _ _,Below.refl _ _⟩
 case round=>
  obtain ⟨j,hj,rfl,ho,hE⟩:=hrel;by_cases hjn:j<n
  ·have zj:decide ((j:Int)<(n:Int))=true:=by simp;omega
   have hjl:j<Y.length:=by have:=HN.out;omega
   obtain ⟨b,off,rfl,_,hcl⟩:=HX.out j hjl;have hcl:=aA hE hcl;have hch:=JI.out _ (List.getElem_mem hjl);have HT:=aa (show Y.take (j+1)=Y.take j++[Y[j]] from List.take_succ_eq_append_getElem hjl);have hnm:Y[j]∉Y.take j:=fun h=>by
    obtain ⟨i,hi,e⟩:=List.mem_iff_getElem.1 h;rw [List.getElem_take] at e;rw [List.length_take] at hi;exact List.pairwise_iff_getElem.1 HYN.out i j (by omega) hjl (by omega) e
   have ST:=aa (AA ((hG.mono hBw).mono hE) Y[j]);have EC:=aa (fun (W:World) (v:Value) (h:W.ownsRow w1.heap.size aM 1 v j (aN (Y.take j)))=>GN (w:=W) Y[j] hch (Y.take j) (Sl.aW h).any (fC.aW h) (by rw [List.length_take];omega) hnm);obtain ⟨h1,h2⟩:=bW Y[j];have z1:(tx (bI Y[j])).toList.isEmpty=false:=by
    rw [Lib.toList_data,iH];cases e:bI Y[j] with
    | nil=>rw [e] at h1;simp at h1
    | cons x r=>rfl
   have z2:(⟨#[]⟩:ByteArray).toList.isEmpty=true:=by rw [Lib.toList_data];rfl
   generalize Y[j]=c at *;generalize tx (bI c)=sc at *;clear hnm hch;obtain ⟨av,cv,rfl,_,_⟩:=ak ho;go_wp2_with fail;refine ST.out.mono ?_;rintro e w2 ⟨rfl,hB2⟩;have ho2:=aG ho hB2;have hE2:=ah hE hB2;have EC2:=aa (EC.out w2 _ ho2);clear ST EC ho
   go_wp2_with (first
    | (go_at_call 85;refine EC2.out.mono ?_;rintro e w3 ⟨rfl,rfl⟩)
    | (at_builtin;refine gF rfl _ _ 52 rfl w1.heap.size aM _ 4 bT (.slice av j cv) j _ rfl ho2 (.int .i32 (c:Nat)) rfl rfl (by omega) (by unfold maxLen;omega) _ (Below.refl _ _) hE2.size ?_;intro v1 w6 o6 oz _ _;obtain ⟨a6,c6,rfl,_,_⟩:=ak o6))
   go_roundw
   case rel=>
    refine ⟨j+1,by omega,by simp,?_,hE2.trans oz⟩;rw [HT.out,aZ];exact o6
   case measure=>simp [intOf];omega
  ·have zj:decide ((j:Int)<(n:Int))=false:=by simp;omega
   obtain rfl:j=n:=by omega
   rw [List.take_of_length_le (by have:=HN.out;omega)] at ho;obtain ⟨av,cv,rfl,_,_⟩:=ak ho;have hBr:=hBw.trans (hE.mono hBw.size);have hsl:=Sl.aW ho;have hpv:=fC.aW ho;rw [HN.out] at hsl hpv;have CH:=aa (yT Y hsl hpv JI.out (by have:=HN.out;omega));rw [←HN.out] at CH;have K1:=k1.mono hE;clear ho hsl hpv;go_wp2_with fail;refine CH.out.mono ?_;rintro e w3 ⟨r3,rfl,o3,hB3⟩;have K3:=K1.mono hB3;obtain ⟨a3,c3,rfl,_,_⟩:=ak o3;have e0:=K3.at 0 rfl;have f0:=K3.frozen 0;have hss:=hE.size;have Fs:=aa o3;clear o3;go_wp2
   (try simp only [Exit.inBlock,Exit.then])
   have P:=K3.set 0 (.slice a3 (lh (h_ Y)).length c3);have v0:=P.at 0 rfl;refine bodyPost_ret (v:=.tuple #[.agg #[.slice a3 (lh (h_ Y)).length c3],.nilIface]) (by simp [results,Tryz.results57,go_sem,v0]) rfl ?_;have hq:=bn Fs.out (Go.Cd.aae Fs.out (k:=w.heap.size) (by omega)) 0 (.slice a3 (lh (h_ Y)).length c3);exact ⟨_,rfl,aV hq (show w.heap.size≤wr.heap.size by omega),aj (hBr.trans (hB3.mono hBr.size)) (Nat.le_refl _)⟩
end Go.Proofs.YtmpkfkoficehpaaGreatDoor
