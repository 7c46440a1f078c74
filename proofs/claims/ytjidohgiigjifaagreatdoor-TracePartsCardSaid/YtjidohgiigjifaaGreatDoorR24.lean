/- TraceParts and TraceWalks: a machine takes a character as those of its full decomposition, one by one; texts that are alike go through it, and of others none; no condition. -/
import Derived.Test.YtjidohgiigjifaaGreatDoorR23
import Derived.OpenShut
import Derived.DataShut
import Derived.Deep.Slices
import Derived.Deep.Strs
import Derived.SizedLaws
import Derived.Lib.LaidTab
import Derived.Lib.LaidU8
import Derived.ShapedOpen
set_option maxRecDepth 100000
set_option maxHeartbeats 6400000
namespace Go.Proofs.YtjidohgiigjifaaGreatDoor
open Go.RowKit Go.Cd
structure JG (T:List aF) (X:List Nat):Prop where
 valid:bE T X
 says:∀q∈T,0<q.cls∨q.map≠[]
 len:T.length≤20
 aan:X.length≤30
 aao:∀y∈X,aX y
def wF (w:World) (k:Nat):Prop:=∃cs T,Is w k cs T∧∀u∈cs.toList,∃a n c,u=.slice a n c
theorem wF.int {w:World} {k o:Nat} (h:wF w k) {q:IntKind} {x:Int} (hc:w.cell? ⟨k,o,none⟩=some (.int q x)):False:=by
 obtain ⟨cs,T,h1,h2⟩:=h;rw [h1.cell] at hc;have hm:Value.int q x∈cs.toList:=by rw [←Array.getElem?_toList] at hc;exact List.mem_of_getElem? hc
 obtain ⟨a,n,c,e⟩:=h2 _ hm;cases e
theorem qO {w:World} {k o b o':Nat} {u:Value} (hb:b≠k):(w.setCell ⟨k,o,none⟩ u).cell? ⟨b,o',none⟩=w.cell? ⟨b,o',none⟩:=
 World.cell?_of_block (a:=⟨b,o',none⟩) (Below.heap_setCell _ _ _ _ (by simp only;exact fun e=>hb e))
theorem bD.yY {w:World} {v:Value} {l:List Nat} (h:bD w v (ints l)) {k:Nat} (hk:wF w k) (o:Nat) (u:Value):bD (w.setCell ⟨k,o,none⟩ u) v (ints l):=by
 obtain ⟨a,cap,hv,hc,h⟩:=h;refine ⟨a,cap,hv,hc,?_⟩;rcases h with h|⟨b,off,cs,e,fr,ha,hh,hx⟩
 ·exact .inl h
 ·cases hl:l with
  | nil=>subst hl;exact .inl ⟨rfl,fun e=>by rw [ha] at e;cases e⟩
  | cons x l'=>
    subst hl;have hbk:b≠k:=fun e1=>by
     subst e1;have h0:=hx 0 (by simp);refine hk.int (o:=off) (q:=.i64) (x:=(x:Nat)) ?_;unfold World.cell?;rw [hh];simpa [ints] using h0
    exact .inr ⟨b,off,cs,e,fr,ha,(Below.heap_setCell _ _ _ _ (by simp only;exact fun e=>hbk e)).trans hh,hx⟩
theorem bD.jL {w:World} {v:Value} {l:List Nat} (h:bD w v (aN l)) {k:Nat} (hk:wF w k) (o:Nat) (u:Value):bD (w.setCell ⟨k,o,none⟩ u) v (aN l):=by
 obtain ⟨a,cap,hv,hc,h⟩:=h;refine ⟨a,cap,hv,hc,?_⟩;rcases h with h|⟨b,off,cs,e,fr,ha,hh,hx⟩
 ·exact .inl h
 ·cases hl:l with
  | nil=>subst hl;exact .inl ⟨rfl,fun e=>by rw [ha] at e;cases e⟩
  | cons x l'=>
    subst hl;have hbk:b≠k:=fun e1=>by
     subst e1;have h0:=hx 0 (by simp);refine hk.int (o:=off) (q:=.i32) (x:=(x:Nat)) ?_;unfold World.cell?;rw [hh];simpa [aN] using h0
    exact .inr ⟨b,off,cs,e,fr,ha,(Below.heap_setCell _ _ _ _ (by simp only;exact fun e=>hbk e)).trans hh,hx⟩
theorem dZ.put {w:World} {p k:Nat} {T:List aF} {X:List Nat} (h:dZ w p T X) {cs:Array Value} {t:TypeId} (hk:Is w k cs t) (hs:wF w k) (hz:cs.size≤100) (h1:133≠t) (h2:fE≠t) (h3:103≠t) (h4:aM≠t) (o:Nat) (u:Value) :
 dZ (w.setCell ⟨k,o,none⟩ u) p T X:=by
 obtain ⟨E,rv,xv,ev,bM,jM,cp,pp,iv,sv,mv,d,p1,p2,s1,s2,s3,x1⟩:=h;have c:=bK.put (o:=o) hk u;obtain ⟨R,r1,r2,r3⟩:=d.rows;obtain ⟨G,g1,g2,g3⟩:=d.bm
 exact ⟨E,rv,xv,ev,bM,jM,cp,pp,iv,sv,mv,⟨c.is d.is h1,⟨R,r1,c.own r2 h2,fun x hx=>c.own (r3 x hx) h4⟩,c.own d.mM h3,d.kX,fun x hx=>c.own (d.full x hx) h4,fun x hx=>c.own (d.maps x hx) h4,d.nP,
  ⟨G,c.map g1,fun x u hg=>by obtain ⟨y,e,hv⟩:=g2 x u hg;exact ⟨y,e,c.own hv h4⟩,g3⟩,c.map d.jm⟩,p1.put hk hz u,p2.put hk hz u,c.own s1 h4,c.own s2 h4,c.own s3 h4,bD.jL x1 hs o u⟩
theorem iw.yY {w:World} {v:Value} {T:List aF} {X:List Nat} (h:iw w v T X) {k:Nat} (hk:wF w k) (o:Nat) (u:Value):iw (w.setCell ⟨k,o,none⟩ u) v T X:=by
 obtain ⟨r,x,hv,⟨a,cap,hr,hc,hx⟩,h2⟩:=h;refine ⟨r,x,hv,⟨a,cap,hr,hc,fun i hi=>?_⟩,bD.yY h2 hk o u⟩;obtain ⟨b,off,m,ha,hbs,e1,e2,e3,e4⟩:=hx i hi;have hbk:b≠k:=fun e=>hk.int (e▸e1);exact ⟨b,off,m,ha,by simpa using hbs,(qO hbk).trans e1,(qO hbk).trans e2,(qO hbk).trans e3,bD.yY e4 hk o u⟩
theorem JH {T:List aF} {X:List Nat} (h:JG T X):Ic T:=by
 refine ⟨fun r hr=>?_,fun r hr=>(h.says r hr).imp (fun h=>by omega) id,fun r hr=>(h.valid.fine r hr).1,h.valid.rise,by have:=h.len;omega⟩;obtain ⟨h1,h2,h3,_,h5⟩:=h.valid.fine r hr;exact ⟨h1.1,h2,h3,fun x hx=>(h5 x hx).2.1⟩
theorem MM {r:aF} (h:r.map.length≤2):(jh r).length≤100:=by
 have h1:=bJ r.code;have h2:(gD r.cls).length≤3:=by unfold gD;split <;> (try split) <;> simp
 have h3:(b_ r.map).length≤13:=by
  match r.map,h with
  | [],_=>simp [b_]
  | [a],_=>have:=bJ a;simp [b_];omega
  | [a,b],_=>have:=bJ a;have:=bJ b;simp [b_];omega
 unfold jh;simp only [List.length_append,List.length_cons,List.length_nil];omega
theorem MN {T:List aF} {X:List Nat} (h:JG T X):(gF T).length<1000000:=by
 have key:∀L:List aF,(∀r∈L,r.map.length≤2)→(gF L).length≤101*L.length:=fun L=>by
  induction L with
  | nil=>intro _;simp [gF,bq]
  | cons r L ih=>
    intro hl;have h1:=ih fun r hr=>hl r (by simp [hr]);have h2:=MM (hl r (by simp));unfold gF bq at h1 ⊢;rw [List.map_cons,List.flatMap_cons,List.length_append,List.length_append,List.length_cons];simp only [List.length_cons,List.length_nil];omega
 have:=key T fun r hr=>(h.valid.fine r hr).2.2.1;have:=h.len;omega
theorem GY {T:List aF} {X:List Nat} (h:JG T X):(∀r∈T,r.code<1114112∧r.cls<1000∧r.map.length≤2∧∀x∈r.map,x<1114112)∧(∀x∈X,x<1114112):=
 ⟨fun r hr=>by
   obtain ⟨h1,h2,h3,_,h5⟩:=h.valid.fine r hr
   exact ⟨h1.1,by omega,h3,fun x hx=>(h5 x hx).2.1⟩,fun x hx=>(h.aao x hx).1⟩
theorem MO {w:World} (hG:bZ w) {v:Value} {T:List fM} {X:List Int} (h:JC w v T X) :
 Calls Tryz.prog 29 #[v] w fun e w'=>∃p r T' X',e=.returned (.tuple #[.pointer (some ⟨p,0,none⟩),r])∧dZ w' p T' X'∧iw w' r T' X'∧JG T' X'∧Below w.heap.size w w':=by
 obtain ⟨r1,x1,rfl,hr1,hx1⟩:=id h;obtain ⟨ra,nt,rc,rfl⟩:∃a n c,r1=.slice a n c:=by obtain ⟨a,cap,rfl,_⟩:=hr1;exact ⟨_,_,_,rfl⟩
 obtain ⟨xa,nx,xc,rfl⟩:∃a n c,x1=.slice a n c:=by obtain ⟨a,cap,rfl,_⟩:=hx1.out;exact ⟨_,_,_,rfl⟩
 obtain ⟨w1,hw1⟩:=af ((w.alloc (.cells #[.slice ra nt rc,.slice xa nx xc] 25)).alloc (.cells #[.slice none 0 0,.slice none 0 0] 25));have hb1:Below w.heap.size w w1:=by rw [hw1];exact dF _ _
 have k1:Is w1 w.heap.size #[.slice ra nt rc,.slice xa nx xc] 25:=by rw [hw1];exact (Is.new _ _ _).mono (ai _)
 have j1:Is w1 (w.heap.size+1) #[.slice none 0 0,.slice none 0 0] 25:=by rw [hw1];exact Is.new' _ _ _ _ (by simp)
 have RT:=ae (Qj (h.mono hb1));have e0:=k1.at 0 rfl;have e1:=k1.at 1 rfl;clear h hr1 hx1;go_enter Tryz.func29,Tryz.ntmps29;go_wp2_with fail;rw [←hw1];clear hw1;refine RT.out.mono ?_;rintro e w2 ⟨r,T',X',rfl,hT,hV,hS,hl,Xj,Us,hb2⟩;have HT:=ae hT;obtain ⟨r2,x2,rfl,hr2,hx2⟩:=hT;obtain ⟨Ku,Kv,Kw,rfl⟩:∃a n c,r2=.slice a n c:=by obtain ⟨a,cap,rfl,_⟩:=hr2;exact ⟨_,_,_,rfl⟩
 obtain ⟨Qm,Qn,Qo,rfl⟩:∃a n c,x2=.slice a n c:=by obtain ⟨a,cap,rfl,_⟩:=hx2.out;exact ⟨_,_,_,rfl⟩
 have hF:JG T' X':=⟨hV,hS,hl,Xj,Us⟩;have HF:=ae hF;clear hV hS hl Xj Us hr2 hx2 e0 e1 RT hF;have iC:=ag hb1 hb2;have k2:=k1.mono hb2;have j2:=j1.mono hb2;have hs2:w.heap.size+1<w2.heap.size:=by have:=j2.lt;omega
 have e0:=k2.at 0 rfl;have e1:=k2.at 1 rfl;have f0:=k2.frozen 0;have f1:=k2.frozen 1;obtain ⟨w3,hw3⟩:=af ((w2.setCell ⟨w.heap.size,0,none⟩ (.slice Ku Kv Kw)).setCell ⟨w.heap.size,1,none⟩ (.slice Qm Qn Qo));have sb2:wF w2 w.heap.size:=⟨_,_,k2,by simp⟩;have k2':=k2.set 0 (.slice Ku Kv Kw);have aap:wF (w2.setCell ⟨w.heap.size,0,none⟩ (.slice Ku Kv Kw)) w.heap.size:=⟨_,_,k2',by simp⟩;have XM:iw w3 (.agg #[.slice Ku Kv Kw,.slice Qm Qn Qo]) T' X':=by rw [hw3];exact (HT.out.yY sb2 0 _).yY aap 1 _
 have k3:Is w3 w.heap.size #[.slice Ku Kv Kw,.slice Qm Qn Qo] 25:=by rw [hw3];exact k2'.set 1 _
 have j3:Is w3 (w.heap.size+1) #[.slice none 0 0,.slice none 0 0] 25:=by rw [hw3];exact (j2.put (by omega) _).put (by omega) _
 have hb3:Below w.heap.size w w3:=by rw [hw3];exact aj (aj iC (Nat.le_refl _)) (Nat.le_refl _)
 have hF:=HF.out;have TX:=ae (Ql XM (GY hF).1 (by have:=hF.len;omega) (GY hF).2 (by have:=hF.aan;omega));have HT3:=ae XM;have LD:=ae (fun (W:World) (E:Below w.heap.size w W)=>FV (hG.mono E) (JH hF) (MN hF) hF.valid (fun r hr=>(hF.says r hr).imp (fun h=>by omega) id) (by have:=hF.len;omega) (by have:=hF.aan;omega) hF.aao);obtain ⟨s1,hs1⟩:∃s,s=tx (gF T'):=⟨_,rfl⟩;obtain ⟨s2,WJ⟩:∃s,s=tx (dS X'):=⟨_,rfl⟩;rw [←hs1,←WJ] at TX;rw [←hs1,←WJ] at LD;clear XM sb2 aap k2' k1 j1 k2 j2 hF hs1 WJ HT hG;go_wp2_with fail;rw [←hw3];clear hw3 e0 e1 f0 f1;have e0:=k3.at 0 rfl;have e1:=k3.at 1 rfl;go_wp2_with fail;refine TX.out.mono ?_;rintro e w4 ⟨rfl,hb4⟩;have I5:=ag hb3 hb4;clear e0 e1;go_wp2_with fail;refine (LD.out w4 I5).mono ?_;rintro e w5 ⟨p,rfl,hD,hb5⟩;have FQ:=ag hb4 hb5;have k5:=k3.mono FQ;have j5:=j3.mono FQ;have e0:=k5.at 0 rfl;have e1:=k5.at 1 rfl;have g0:=j5.at 0 rfl;have g1:=j5.at 1 rfl;have q0:=j5.frozen 0;have q1:=j5.frozen 1;have hT5:=HT3.out.mono FQ;have HT5:=ae hT5;have HD:=ae hD;have J5:=ae j5;have aes:Below w.heap.size w w5:=ag I5 hb5;clear hT5 hD k5 j5 k3 j3 TX LD;go_wp2_with fail;go_region;have j5:=J5.out;have sb5:wF w5 (w.heap.size+1):=⟨_,_,j5,by simp⟩;have j5':=j5.set 0 (.slice Ku Kv Kw);have acD:wF (w5.setCell ⟨w.heap.size+1,0,none⟩ (.slice Ku Kv Kw)) (w.heap.size+1):=⟨_,_,j5',by simp⟩;have hD6:=(HD.out.put j5 sb5 (show 2≤100 by omega) (by decide) (by decide) (by decide) (by decide) 0 (.slice Ku Kv Kw)).put j5' acD (show 2≤100 by omega) (by decide) (by decide) (by decide) (by decide) 1 (.slice Qm Qn Qo);have Tx:=(HT5.out.yY sb5 0 (.slice Ku Kv Kw)).yY acD 1 (.slice Qm Qn Qo);have k6:=j5'.set 1 (.slice Qm Qn Qo);have hb6:=(aj (off:=1) (u:=.slice Qm Qn Qo) (aj (off:=0) (u:=.slice Ku Kv Kw) aes (Nat.le_succ _)) (Nat.le_succ _)).drew;obtain ⟨w6,wH⟩:=af (((w5.setCell ⟨w.heap.size+1,0,none⟩ (.slice Ku Kv Kw)).setCell ⟨w.heap.size+1,1,none⟩ (.slice Qm Qn Qo)).drew);have k7:Is w6 (w.heap.size+1) #[.slice Ku Kv Kw,.slice Qm Qn Qo] 25:=by rw [wH];exact k6.mono (ah _)
 have v0:=k7.at 0 rfl;have v1:=k7.at 1 rfl;have HD6:=ae (show dZ w6 p T' X' from by rw [wH];exact hD6.mono (ah _));have HT6:=ae (show iw w6 (.agg #[.slice Ku Kv Kw,.slice Qm Qn Qo]) T' X' from by rw [wH];exact Tx.mono (ah _));rw [←wH] at hb6 ⊢;clear wH hD6 Tx k6 k7 sb5 acD j5 j5' e0 e1 g0 g1 q0 q1;go_wp2_with fail;exact bodyPost_ret (v:=.tuple #[.pointer (some ⟨p,0,none⟩),.agg #[.slice Ku Kv Kw,.slice Qm Qn Qo]]) (by simp [results,Tryz.results29,go_sem,v0,v1]) rfl ⟨p,_,T',X',rfl,HD6.out,HT6.out,HF.out,hb6⟩
theorem UX (i:Int) {S:Nat} (h:1≤S) (hS:S≤281474976710656):∃A:Nat,A<S∧(wrap64 (i.tmod (S:Int)+(S:Int))).tmod (S:Int)=(A:Int):=by
 have h1:-(S:Int)<i.tmod (S:Int):=Int.neg_lt_of_neg_lt (by have:=Int.tmod_lt_of_pos (-i) (show (0:Int)<(S:Int) by omega);rw [Int.neg_tmod] at this;exact this);have h2:i.tmod (S:Int)<(S:Int):=Int.tmod_lt_of_pos i (by omega);generalize i.tmod (S:Int)=q at *;obtain ⟨m,hm⟩:∃m:Nat,q+(S:Int)=(m:Int):=⟨(q+(S:Int)).toNat,by omega⟩;have h3:wrap64 (q+(S:Int))=(m:Int):=by rw [hm];unfold wrap64;omega
 rw [h3,←Int.ofNat_tmod];exact ⟨m % S,Nat.mod_lt _ h,rfl⟩
def BJ (w:World) (v:Value) (T:List fM) (X:List Int) (pk mr:List Int):Prop:=∃r x p m,v=.agg #[r,x,p,m]∧JC w (.agg #[r,x]) T X∧bD w p (bH pk)∧bD w m (bH mr)
theorem BJ.mono {w w':World} {v:Value} {T:List fM} {X pk mr:List Int} (h:BJ w v T X pk mr) (hb:Below w.heap.size w w'):BJ w' v T X pk mr:=by
 obtain ⟨r,x,p,m,hv,h1,h2,h3⟩:=h;exact ⟨r,x,p,m,hv,h1.mono hb,h2.mono hb,h3.mono hb⟩
theorem Ub {w:World} (hG:bZ w) {v:Value} {T0:List fM} {X0 pk mr:List Int} (h:BJ w v T0 X0 pk mr) (hmr:mr.length<281474976710656) (most:Nat) (agT:most≤100) :
 Calls Tryz.prog 7 #[v,.int .i64 most] w fun e w'=>∃p r T X lv L,e=.returned (.tuple #[.pointer (some ⟨p,0,none⟩),r,lv,.bool true])∧dZ w' p T X∧iw w' r T X∧JG T X∧bD w' lv (ints L)∧L.length≤most∧(∀c∈L,aX c)∧Below w.heap.size w w':=by
 obtain ⟨r0,x0,pv,mv,rfl,hT,hp,hm⟩:=h;obtain ⟨r0',x0',he,hr0,hx0⟩:=id hT;simp only [Value.agg.injEq,Array.mk.injEq,List.cons.injEq,and_true] at he;obtain ⟨rfl,rfl⟩:=he;obtain ⟨ra,nt,rc,rfl⟩:∃a n c,r0=.slice a n c:=by obtain ⟨a,cap,rfl,_⟩:=hr0;exact ⟨_,_,_,rfl⟩
 obtain ⟨xa,nx,xc,rfl⟩:∃a n c,x0=.slice a n c:=by obtain ⟨a,cap,rfl,_⟩:=hx0.out;exact ⟨_,_,_,rfl⟩
 obtain ⟨np,Nb⟩:=af pk.length;obtain ⟨nm,hnm⟩:=af mr.length;obtain ⟨pa,pc,rfl,_,hpx⟩:=Go.Proofs.YtjidohgiigjifaaGreatDoor.bD.GH hp Nb;obtain ⟨ma,mc,rfl,_,hmx⟩:=Go.Proofs.YtjidohgiigjifaaGreatDoor.bD.GH hm hnm;obtain ⟨w0,hw0⟩:=af ((w.alloc (.cells #[.slice ra nt rc,.slice xa nx xc,.slice pa np pc,.slice ma nm mc] 27)).alloc (.cells #[.slice none 0 0,.slice none 0 0] 25));have hb0:Below w.heap.size w w0:=by rw [hw0];exact dF _ _
 have k0:Is w0 w.heap.size #[.slice ra nt rc,.slice xa nx xc,.slice pa np pc,.slice ma nm mc] 27:=by rw [hw0];exact (Is.new _ _ _).mono (ai _)
 have k1:Is w0 (w.heap.size+1) #[.slice none 0 0,.slice none 0 0] 25:=by rw [hw0];exact Is.new' _ _ _ _ (by simp)
 have LD:=ae (MO (hG.mono hb0) (hT.mono hb0));have e0:=k0.at 0 rfl;have e1:=k0.at 1 rfl;have HP:=ae hpx;have HM:=ae hmx;have QC:=ae Nb;have qh:=ae hnm;have ZW:w.heap.size+2≤w0.heap.size:=by rw [hw0];simp
 clear hG hT hr0 hx0 hp hm Nb hnm hpx hmx;go_enter Tryz.func7,Tryz.ntmps7;go_wp2_with fail;rw [←hw0];clear hw0;refine LD.out.mono ?_;rintro e w1 ⟨p,r,T,X,rfl,hD,Uc,hF,hb1⟩;obtain ⟨rr,rx,rfl,⟨a1,c1,rfl,_,hrw⟩,hrx⟩:=id Uc;obtain ⟨a2,n2,c2,rfl⟩:∃a n c,rx=.slice a n c:=by obtain ⟨a,c,h,_⟩:=bD.out hrx;exact ⟨_,_,_,h⟩
 obtain ⟨n,hn⟩:=af T.length;rw [←hn] at Uc ⊢;have aj5:n≤20:=by rw [hn];exact hF.len
 have hB1:=hb0.trans (hb1.mono hb0.size);have hs1:=hB1.size;have k0:=k0.mono hb1;have k1:=k1.mono hb1;obtain ⟨w2,hw2⟩:=af (w1.alloc (.cells #[.slice a1 n c1,.slice a2 n2 c2] 25));have iC:Below w1.heap.size w1 w2:=by rw [hw2];exact ai _
 have k9:Is w2 w1.heap.size #[.slice a1 n c1,.slice a2 n2 c2] 25:=by rw [hw2];exact Is.new _ _ _
 have hB2:=hB1.trans (iC.mono hs1);have k0:=k0.mono iC;have k1:=k1.mono iC;have hs2:=hB2.size;have We:=iC.size;have hsz2:w2.heap.size=w1.heap.size+1:=by rw [hw2];simp
 have agU:w.heap.size+2≤w1.heap.size:=Nat.le_trans ZW hb1.size;have aj6:=k9.lt;have HD:=ae hD;have HTB:=ae Uc;have HF:=ae hF;have HN:=ae hn;have HRW:=ae hrw;have WM:=ai (w:=w2) (.cells #[.int .i64 65,.int .i64 97,.int .i64 768,.int .i64 4352,.int .i64 4449,.int .i64 4520,.int .i64 44032,.int .i64 44033] aU);have hon:=kD w2 #[.int .i64 65,.int .i64 97,.int .i64 768,.int .i64 4352,.int .i64 4449,.int .i64 4520,.int .i64 44032,.int .i64 44033] aU 8 rfl (by decide);have k93:=(k9.mono WM).at 0 rfl;rw [hw2] at k93;clear hD Uc hF hn hrw LD hrx e0 e1;go_wp2_with fail;rw [←hw2] at k93 ⊢;clear hw2;generalize w2.alloc (.cells #[.int .i64 65,.int .i64 97,.int .i64 768,.int .i64 4352,.int .i64 4449,.int .i64 4520,.int .i64 44032,.int .i64 44033] aU)=w3 at *;have aaq:w3.ownsRow w2.heap.size aU 1 (.slice (some ⟨w1.heap.size+1,0,none⟩) 8 8) 8 [.int .i64 65,.int .i64 97,.int .i64 768,.int .i64 4352,.int .i64 4449,.int .i64 4520,.int .i64 44032,.int .i64 44033]:=by rw [←hsz2];exact hon
 go_loopw [10,12,29] (fun o _ jv wr=>∃j:Nat,j≤n∧jv=.int .i64 j∧(∃L:List Nat,wr.ownsRow w2.heap.size aU 1 o L.length (ints L)∧8≤L.length∧L.length≤8+3*j∧∀c∈L,aX c)∧Below w2.heap.size w2 wr) (fun _ _ jv _=>n-(intOf jv).toNat)
 case atStart=>
  refine ⟨0,Nat.zero_le _,rfl,⟨[65,97,768,4352,4449,4520,44032,44033],by simpa [ints] using aaq,by simp,by simp,?_⟩,WM⟩;decide
 case round=>
  obtain ⟨j,hj,rfl,⟨L,hrow,hL8,Vb,WN⟩,hE⟩:=hrel;have DD:=hB2.trans (hE.mono hs2);have Wm:=DD.size;have aar:=hE.size;have hE1:=iC.trans (hE.mono We);by_cases hjn:j<n
  ·have zj:decide ((j:Int)<(n:Int))=true:=decide_eq_true (by omega);have hjl:j<T.length:=by have:=HN.out;omega
   obtain ⟨b,off,m,rfl,_,d0,d1,d2,hm⟩:=HRW.out j hjl;have hfin:=(HF.out.valid.fine T[j] (List.getElem_mem hjl));obtain ⟨q,hq⟩:=af (T[j]);rw [←hq] at d0 d1 hm hfin;obtain ⟨am,cm,rfl,_,_⟩:=bD.out hm;have hlm:(ints q.map).length=q.map.length:=by simp [ints]
   rw [hlm] at d2 hm;obtain ⟨nq,hnq⟩:=af q.map.length;rw [←hnq] at d2 hm;obtain ⟨cd,hcd⟩:=af q.code;obtain ⟨cl,hcl⟩:=af q.cls;rw [←hcd] at d0;rw [←hcl] at d1;have d0:=aA hE1 d0;have d1:=aA hE1 d1;have d2:=aA hE1 d2;have HNQ:=ae hnq;have HCD:=ae hcd;have Uy:=ae hfin;clear hq hnq hcd hcl hfin;go_wp2_with fail;have hbn:=ai (w:=wr) (.cells #[.int .i64 (cd:Nat),.int .i64 (cl:Nat),.slice am nq cm] 68);have kA:Is _ wr.heap.size #[.int .i64 (cd:Nat),.int .i64 (cl:Nat),.slice am nq cm] 68:=Is.new wr _ _;have UY:=aG hrow hbn;have LA:=hE.trans (hbn.mono aar);have acG:=hE1.trans (hbn.mono hE1.size);have Kh:=kA.lt;have aj9:w2.heap.size≤wr.heap.size:=aar;generalize wr.alloc (.cells #[.int .i64 (cd:Nat),.int .i64 (cl:Nat),.slice am nq cm] 68)=wl at *;have UZ:=aG UY (ah wl);have kAd:=kA.mono (ah wl);have g0:=sW.keeps (S:=fun k=>k=wr.heap.size) (kAd.at 0 rfl) rfl;have g2:=sW.keeps (S:=fun k=>k=wr.heap.size) (kAd.at 2 rfl) rfl;refine dM (KR.blocks fun k=>k=wr.heap.size) (Array.replicate 9 true) 9 0 mixed (by rfl) ?_;refine di [0,1,2,5,6] 4 rfl (by kernel_rfl) ?_
   iterate 5 (refine aC rfl ?_;go_big_quiet_step (rfl))
   refine ak ?_;have hb4:=ai (w:=wl.drew) (.cells #[.int .i64 (cd:Nat)] aU);have kA4:=kAd.mono hb4;have hrow4:=aG UZ hb4;have kW:Below w2.heap.size w2 (wl.drew.alloc (.cells #[.int .i64 (cd:Nat)] aU)):=(LA.trans ((ah wl).mono LA.size)).trans (hb4.mono LA.size);have aas:Below w1.heap.size w1 (wl.drew.alloc (.cells #[.int .i64 (cd:Nat)] aU)):=(acG.trans ((ah wl).mono acG.size)).trans (hb4.mono acG.size);refine bT 3 (by kernel_rfl) rfl ?_;go_wp2_with fail;refine bB (KR.of_below hb4 hb4.size (fun k (hk:k=wr.heap.size)=>by subst hk;exact Kh)) ?_;refine bT 4 (by kernel_rfl) rfl ?_
   refine lT (W:=wl.drew.alloc (.cells #[.int .i64 (cd:Nat)] aU)) rfl _ _ 23 rfl w2.heap.size aU (.int .i64 0) 8 fA (by decide) rfl hrow4 (by have:=kW.size;exact this) [.int .i64 (cd:Nat)] (by simp [Value.oneCell']) ⟨wl.drew.heap.size,0,none⟩ 1 1 rfl rfl (fun i u hi=>by
    rcases i with _|i
    ·cases hi;exact (Is.new wl.drew _ aU).at 0 rfl
    ·cases hi) (by omega) ?_
   intro v5 w5 o5 hg5 hn5;have ne5:=kA4.other hrow4 (by decide);have kA5:=(bK.bP hrow4 hg5).is kA4 (by decide);have kV:=kW.grown hg5 kW.size (fun k hk=>(hrow4.lt k hk).1);have aeu:=aas.grown hg5 (by have:=aas.size;exact this) (fun k hk=>by have:=(hrow4.lt k hk).1;omega);go_wp2_with fail;refine bB (KR.bP (w:=wl.drew.alloc (.cells #[.int .i64 (cd:Nat)] aU)) hg5 hg5.size (fun k (hk:k=wr.heap.size)=>by subst hk;exact ⟨kA4.lt,ne5⟩)) ?_;refine bT 7 (by kernel_rfl) rfl ?_;have hq2:nq≤2:=by rw [HNQ.out];exact Uy.out.2.2.1
   have ne6:=kA5.other o5 (by decide);refine bG rfl _ _ 23 rfl w2.heap.size aU (.int .i64 0) 8 fA _ _ _ rfl o5 _ (ints q.map) rfl (hm.mono aeu) (fun u hu=>by obtain ⟨y,_,rfl⟩:=List.mem_map.1 hu;rfl) (by rw [hlm,←HNQ.out];unfold maxLen;omega) (by rw [hlm,←HNQ.out];omega) kV.size ?_;intro v6 w6 o6 G7;have aev:=kV.grown G7 kV.size (fun k hk=>(o5.lt k hk).1);have kA6:=(bK.bP o5 G7).is kA5 (by decide);have O6:=ae o6;go_wp2_with fail;refine bB (KR.bP (w:=w5) G7 G7.size (fun k (hk:k=wr.heap.size)=>by subst hk;exact ⟨kA5.lt,ne6⟩)) ?_;refine di [8] 0 rfl (by kernel_rfl) ?_
   iterate 1 (refine aC rfl ?_;go_big_quiet_step (rfl))
   refine ak ?_;refine fe [] (by kernel_rfl) ?_;refine tail_nil ?_;clear o6 o5 G7 hg5 hn5 g0 g2 kA kAd kA4 kA5 kA6 hrow UY UZ hrow4 d0 d1 d2;go_wp2_with fail;go_roundw
   case rel=>
    refine ⟨j+1,by omega,by simp,⟨L++[cd]++q.map,?_,?_,?_,?_⟩,aev⟩
    ·have:=O6.out;rw [hlm] at this;have e1:ints (L++[cd]++q.map)=ints L++[.int .i64 (cd:Nat)]++ints q.map:=by simp [ints]
     have e2:(L++[cd]++q.map).length=L.length+1+q.map.length:=by simp;omega
     rw [e1,e2];exact this
    ·simp;omega
    ·rw [List.length_append,List.length_append,←HNQ.out];simp;omega
    ·intro c hc;rcases List.mem_append.1 hc with hc|hc
     ·rcases List.mem_append.1 hc with hc|hc
      ·exact WN c hc
      ·rw [List.mem_singleton.1 hc,HCD.out];exact Uy.out.1
     ·exact (Uy.out.2.2.2.2 c hc).2
   case measure=>simp [intOf];omega
  ·have zj:decide ((j:Int)<(n:Int))=false:=decide_eq_false (by omega);obtain rfl:j=n:=by omega
   obtain ⟨oa,oc,rfl,_,_⟩:=az hrow;have k0A:=k0.mono hE;have k1A:=k1.mono hE;have k9A:=k9.mono hE;obtain ⟨nl,hnl⟩:=af L.length;rw [←hnl] at hrow hL8 Vb ⊢;have Tz:=ae hnl;have U5:=ae WN;have ROW:=ae hrow;clear WN hrow hnl k0 k1 k9 hon aaq WM;rename World=>wA;go_wp2_with fail;go_loopw [13,14,15] (fun lv iv _ wr2=>∃i:Nat,i≤np∧i≤most∧iv=.int .i64 i∧(∃M:List Nat,wr2.ownsRow wA.heap.size aU 1 lv M.length (ints M)∧M.length=i∧∀c∈M,aX c)∧Below wA.heap.size wA wr2) (fun _ iv _ _=>most-(intOf iv).toNat)
   case atStart=>exact ⟨0,Nat.zero_le _,Nat.zero_le _,rfl,⟨[],World.ownsRow_nil _ _ _ _,rfl,by simp⟩,Below.refl _ _⟩
   case round=>
    obtain ⟨i,hi,him,rfl,⟨M,Ud,TY,hMc⟩,EE⟩:=hrel;have hEz:=DD.trans (EE.mono Wm);have hsz:=hEz.size;have k0r:=k0A.mono EE;have t2:=k0r.at 2 rfl;have t3:=k0r.at 3 rfl;have hsA:=EE.size;by_cases hgo:i<np∧i<most
    ·obtain ⟨hin,akf⟩:=hgo;have zi:decide ((i:Int)<(np:Int))=true:=decide_eq_true (by omega);have zm:decide ((i:Int)<(most:Int))=true:=decide_eq_true (by omega);have aex:i<pk.length:=by have:=QC.out;omega
     obtain ⟨pb,po,rfl,_,p0⟩:=HP.out i aex;have p0:=aA hEz p0;obtain ⟨x,hx⟩:=af (pk[i]);rw [←hx] at p0;have RS:=ae hMc;have DZ:=ae TY;have HRM:=ae Ud;clear hx hMc TY;by_cases hxn:x<0∧0<nm
     ·obtain ⟨hx0,hm0⟩:=hxn;have zx:decide (x<0)=true:=decide_eq_true hx0;have zn:decide ((0:Int)<(nm:Int))=true:=decide_eq_true (by omega);have aey:nm≤281474976710656:=by rw [qh.out];omega
      obtain ⟨A,hA,hAi⟩:=UX x (S:=nm) (by omega) aey;obtain ⟨mb,mo,rfl,_,m0⟩:=HM.out A (by rw [←qh.out];exact hA);have m0:=aA hEz m0;obtain ⟨y,hy⟩:∃y,y=mr[A]'(by rw [←qh.out];exact hA):=⟨_,rfl⟩;rw [←hy] at m0;clear hy;go_wp2_with fail;have G3:=Gr.cell (ah wr) t3;have G4:=Gr.cell (ah wr) m0;have znz:((nm:Int)==0)=false:=beq_eq_false_iff_ne.2 (by omega);refine aD #[true,true,true,true,true,true,true,true,true,true,true,true,true,true,true,true,true,true,true,true,true,false,false] 21 2 mixed (by rfl) ?_;refine ay [0,1,2,3,4,5,6,7,8,9,10,11,12,13,14,15,16,17] 3 rfl (by kernel_rfl) ?_
      iterate 18 (refine aC rfl ?_;go_big_quiet_step (rfl))
      refine ak ?_;refine aL 18 (by kernel_rfl) rfl ?_;go_wp2_with fail;refine (iL (w:=wr.drew) y).mono ?_;rintro e w7 ⟨rfl,rfl⟩;have hcc:=ou (x:=(y % 2097152).toNat);obtain ⟨c,hc⟩:=af (jG (y % 2097152).toNat);rw [←hc] at hcc ⊢;have hc9:=hcc.1;have M9:=ae hcc;clear hc hcc;go_wp2_with fail;refine aH (Below.refl _ _) ?_;refine ay [19] 1 rfl (by kernel_rfl) ?_
      iterate 1 (refine aC rfl ?_;go_big_quiet_step (rfl))
      refine ak ?_;refine aL 20 (by kernel_rfl) rfl ?_;go_wp2_with fail;refine aH (ai _) ?_;have aez:=aG Ud (ah wr);have CJ:=EE.trans ((ah wr).mono hsA);have aeA:M.length≤100:=by have:=DZ.out;omega
      clear t2 t3 G3 G4 p0 m0 k0r Ud;refine aI [21,22] (by kernel_rfl) ?_;refine tail_cons rfl ?_;refine dK rfl _ _ 23 rfl wA.heap.size aU (.int .i64 0) 8 fA _ M.length _ rfl aez (.int .i64 (c:Nat)) rfl rfl (by omega) (by unfold maxLen;omega) wA CJ (Nat.le_refl _) ?_;intro v' w6 o6 kZ;have O6:=ae o6;clear o6;refine tail_cons rfl ?_;go_wp2_with fail;refine tail_nil ?_;go_wp2_with fail;go_roundw
      case rel=>
       refine ⟨i+1,by omega,by omega,by simp,⟨M++[c],?_,by rw [List.length_append,DZ.out];rfl,fun y hy=>?_⟩,kZ⟩
       ·rw [show ints (M++[c])=ints M++[.int .i64 (c:Nat)] by simp [ints],show (M++[c]).length=M.length+1 by simp];exact O6.out
       ·rcases List.mem_append.1 hy with hy|hy
        ·exact RS.out y hy
        ·rw [List.mem_singleton.1 hy];exact M9.out
      case measure=>simp [intOf];omega
     ·have aeB:nl≤281474976710656:=by omega
      obtain ⟨A,hA,hAi⟩:=UX x (S:=nl) (by omega) aeB;have Kh:A<L.length:=by rw [←Tz.out];exact hA
      obtain ⟨lb,akg,he,_,_,_,_,hcells⟩:=jU ROW.out (show 0<nl by omega);injection he with he1 _ Wi;subst he1 Wi;have m0:=aA EE (hcells A (.int .i64 (L[A]:Nat)) (by simp [ints,Kh]));have hcc:=U5.out _ (List.getElem_mem Kh);obtain ⟨c,hc⟩:=af (L[A]);rw [←hc] at m0 hcc;have M9:=ae hcc;have aeA:M.length≤100:=by have:=DZ.out;omega
      have znl:((nl:Int)==0)=false:=beq_eq_false_iff_ne.2 (by omega);clear hc hcc hcells;by_cases hx0:x<0
      ·have zx:decide (x<0)=true:=decide_eq_true hx0;have zn:decide ((0:Int)<(nm:Int))=false:=decide_eq_false (fun h=>hxn ⟨hx0,by omega⟩);go_wp2_with (at_builtin;refine dK rfl _ _ 23 rfl wA.heap.size aU (.int .i64 0) 8 fA _ M.length _ rfl Ud (.int .i64 (c:Nat)) rfl rfl (by omega) (by unfold maxLen;omega) wA EE (Nat.le_refl _) ?_;intro v' w6 o6 kZ);go_roundw
       case rel=>
        refine ⟨i+1,by omega,by omega,by simp,⟨M++[c],?_,by rw [List.length_append,DZ.out];rfl,fun y hy=>?_⟩,kZ⟩
        ·rw [show ints (M++[c])=ints M++[.int .i64 (c:Nat)] by simp [ints],show (M++[c]).length=M.length+1 by simp];exact o6
        ·rcases List.mem_append.1 hy with hy|hy
         ·exact RS.out y hy
         ·rw [List.mem_singleton.1 hy];exact M9.out
       case measure=>simp [intOf];omega
      ·have zx:decide (x<0)=false:=decide_eq_false hx0;rw [Int.tmod_eq_emod_of_nonneg (show 0≤x by omega)] at hAi;go_wp2_with (at_builtin;refine dK rfl _ _ 23 rfl wA.heap.size aU (.int .i64 0) 8 fA _ M.length _ rfl Ud (.int .i64 (c:Nat)) rfl rfl (by omega) (by unfold maxLen;omega) wA EE (Nat.le_refl _) ?_;intro v' w6 o6 kZ);go_roundw
       case rel=>
        refine ⟨i+1,by omega,by omega,by simp,⟨M++[c],?_,by rw [List.length_append,DZ.out];rfl,fun y hy=>?_⟩,kZ⟩
        ·rw [show ints (M++[c])=ints M++[.int .i64 (c:Nat)] by simp [ints],show (M++[c]).length=M.length+1 by simp];exact o6
        ·rcases List.mem_append.1 hy with hy|hy
         ·exact RS.out y hy
         ·rw [List.mem_singleton.1 hy];exact M9.out
       case measure=>simp [intOf];omega
    ·have hend:(decide ((i:Int)<(np:Int))&&decide ((i:Int)<(most:Int)))=false:=by
      rcases Decidable.not_and_iff_or_not.1 hgo with h|h
      ·rw [decide_eq_false (show ¬((i:Int)<(np:Int)) by omega)];rfl
      ·rw [decide_eq_false (show ¬((i:Int)<(most:Int)) by omega),Bool.and_false]
     obtain ⟨ma',mc',rfl,_,_⟩:=az Ud;obtain ⟨nM,hnM⟩:=af M.length;rw [←hnM] at Ud TY ⊢;have aeD:=ae hnM;have HRM:=ae Ud;have RS:=ae hMc;have DZ:=ae TY;have k9r:=k9A.mono EE;have XN:=k1A.mono EE;have j0:=k9r.at 0 rfl;have j1:=k9r.at 1 rfl;have akh:w.heap.size+2≤wA.heap.size:=by omega
     clear hnM Ud hMc TY;have XO:=XN;have f0:=XO.at 0 rfl;have f1:=XO.at 1 rfl;have q0:=XO.frozen 0;have q1:=XO.frozen 1;have v0:=(XO.set 0 (.slice a1 j c1)).set 1 (.slice a2 n2 c2);have g0:=v0.at 0 rfl;have g1:=v0.at 1 rfl;have hfin:=(aj (off:=1) (u:=.slice a2 n2 c2) (b:=w.heap.size+1) (aj (off:=0) (u:=.slice a1 j c1) (b:=w.heap.size+1) hEz (by omega)) (by omega)).trans ((ah _).mono (by simp;omega));have WQ:=(hE1.trans (EE.mono hE1.size));have sb0:wF wr (w.heap.size+1):=⟨_,_,XN,by intro u hu;simp at hu;exact ⟨none,0,0,hu⟩⟩
     have sb1:wF (wr.setCell ⟨w.heap.size+1,0,none⟩ (.slice a1 j c1)) (w.heap.size+1):=⟨_,_,XN.set 0 (.slice a1 j c1),by
      intro u hu;simp at hu
      rcases hu with rfl|rfl <;> exact ⟨_,_,_,rfl⟩⟩
     have FIN:∃p' r' T' X' Md L',Ending.returned (.tuple #[.pointer (some ⟨p,0,none⟩),.agg #[.slice a1 j c1,.slice a2 n2 c2],.slice ma' nM mc',.bool true])=.returned (.tuple #[.pointer (some ⟨p',0,none⟩),r',Md,.bool true])∧dZ (((wr.setCell ⟨w.heap.size+1,0,none⟩ (.slice a1 j c1)).setCell ⟨w.heap.size+1,1,none⟩ (.slice a2 n2 c2)).drew) p' T' X'∧iw (((wr.setCell ⟨w.heap.size+1,0,none⟩ (.slice a1 j c1)).setCell ⟨w.heap.size+1,1,none⟩ (.slice a2 n2 c2)).drew) r' T' X'∧JG T' X'∧bD (((wr.setCell ⟨w.heap.size+1,0,none⟩ (.slice a1 j c1)).setCell ⟨w.heap.size+1,1,none⟩ (.slice a2 n2 c2)).drew) Md (ints L')∧L'.length≤most∧(∀c∈L',aX c)∧Below w.heap.size w (((wr.setCell ⟨w.heap.size+1,0,none⟩ (.slice a1 j c1)).setCell ⟨w.heap.size+1,1,none⟩ (.slice a2 n2 c2)).drew):=by
      refine ⟨p,.agg #[.slice a1 j c1,.slice a2 n2 c2],T,X,.slice ma' nM mc',M,rfl,?_,?_,HF.out,?_,by have:=DZ.out;have:=aeD.out;omega,RS.out,hfin⟩
      ·exact (((HD.out.mono WQ).put XN sb0 (show 2≤100 by omega) (by decide) (by decide) (by decide) (by decide) 0 _).put (XN.set 0 (.slice a1 j c1)) sb1 (show 2≤100 by omega) (by decide) (by decide) (by decide) (by decide) 1 _).mono (ah _)
      ·exact (((HTB.out.mono WQ).yY sb0 0 _).yY sb1 1 _).mono (ah _)
      ·have hm:=(Sl.aT (aG HRM.out (Below.refl _ wr))).any;exact (Go.Proofs.YtjidohgiigjifaaGreatDoor.bD.yY (Go.Proofs.YtjidohgiigjifaaGreatDoor.bD.yY hm sb0 0 (.slice a1 j c1)) sb1 1 (.slice a2 n2 c2)).mono (ah _)
     have FIN:=ae FIN;clear v0 XO hfin WQ sb0 sb1 XN k9r hend;by_cases hin:i<np
     ·have zi:decide ((i:Int)<(np:Int))=true:=decide_eq_true (by omega);have Gx:i=most:=by omega
      have zm:decide ((i:Int)<(most:Int))=false:=decide_eq_false (by omega);clear hgo;subst Gx;go_wp2_with fail;go_region;go_wp2_with fail;exact bodyPost_ret (v:=.tuple #[.pointer (some ⟨p,0,none⟩),.agg #[.slice a1 j c1,.slice a2 n2 c2],.slice ma' nM mc',.bool true]) (by simp [results,Tryz.results7,go_sem,g0,g1]) rfl FIN.out
     ·have zi:decide ((i:Int)<(np:Int))=false:=decide_eq_false (by omega);clear hgo;go_wp2_with fail;go_region;go_wp2_with fail;exact bodyPost_ret (v:=.tuple #[.pointer (some ⟨p,0,none⟩),.agg #[.slice a1 j c1,.slice a2 n2 c2],.slice ma' nM mc',.bool true]) (by simp [results,Tryz.results7,go_sem,g0,g1]) rfl FIN.out
theorem Ue {w:World} {B n cap:Nat} {a:Option Addr} {l:List Nat} (h:w.ownsRow B aU 1 (.slice a n cap) n (ints l)) (h0:0<n):∃g,a=some ⟨g,0,none⟩∧B≤g∧g<w.heap.size:=by
 rcases h.2 with ⟨h1,h2⟩|⟨g,cap',cur,h1,hB,hh,_⟩
 ·omega
 ·cases h1;exact ⟨g,rfl,hB,block_lt hh⟩
theorem ints_at {l:List Nat} {k:Nat} (hk:k<(ints l).length) {x:Nat} (h:l[k]? = some x):(ints l)[k]=.int .i64 x:=by
 have e:(ints l)[k]? = some (.int .i64 x):=by simp [ints,h]
 rw [List.getElem?_eq_getElem hk] at e;exact Option.some.inj e
theorem JI {w:World} {v u:Value} {T:List aF} {X L:List Nat} (h:iw w v T X) (hl:bD w u (ints L)) (hmax:T.length<1000000) (Qw:L.length<1000000) :
 Calls Tryz.prog 32 #[v,u] w fun e w'=>∃r,e=.returned r∧w'.ownsRow w.heap.size aU 1 r L.length (ints (iP (aB T) L))∧Below w.heap.size w w':=by
 have HT:=ae h;obtain ⟨a,nt,cap,ax,nx,cx,rfl⟩:=h.shape;obtain ⟨n,hn⟩:=af L.length;have HL:=ae hl;obtain ⟨al,cl,rfl,_,_⟩:=bD.kS hl hn;have HN:=ae hn;rw [←hn] at Qw;have hil:(ints L).length=n:=by rw [dw,hn]
 obtain ⟨W0,hW⟩:=af (w.alloc (.cells #[.slice a nt cap,.slice ax nx cx] 25));have hb:Below w.heap.size w W0:=by rw [hW];exact ai _
 have i0:Is W0 w.heap.size #[.slice a nt cap,.slice ax nx cx] 25:=by rw [hW];exact Is.new _ _ _
 have hs0:W0.heap.size=w.heap.size+1:=by rw [hW];simp
 have o0:(W0.alloc (.cells #[] aU)).ownsRow (w.heap.size+1) aU 1 (.slice (some ⟨w.heap.size+1,0,none⟩) 0 0) 0 []:=by
  have:=il W0 aU;rw [hs0] at this;exact this
 have hE1:Below (w.heap.size+1) W0 (W0.alloc (.cells #[] aU)):=by rw [←hs0];exact ai _
 have Nc:=ae (HL.out.mono (hb.trans (hE1.mono (by omega))));have hsz1:(W0.alloc (.cells #[] aU)).heap.size=w.heap.size+2:=by simp [hs0]
 obtain ⟨W1,hW1⟩:=af (W0.alloc (.cells #[] aU));rw [←hW1] at o0 hE1 Nc hsz1;rw [hW] at hW1;have hs1:w.heap.size+1≤W1.heap.size:=by omega
 have HB1:Below w.heap.size w W1:=hb.trans (hE1.mono (by omega));have i1:Is W1 w.heap.size #[.slice a nt cap,.slice ax nx cx] 25:=i0.low hE1 (by omega);have HK:=ae (fun (W:World) (E:Below w.heap.size w W) (c:Nat)=>kR (HT.out.mono E) c hmax);have HI1:=ae i1;have Xw:=ae HB1;have O0:=ae o0;rw [hW1] at HI1 Xw O0 Nc hs1;clear h hl hn o0 hW hsz1 hs0 i0 hE1 i1 HB1 hb hW1 HL;go_enter Tryz.func32,Tryz.ntmps32;go_wp2_with (at_builtin;refine bG rfl _ _ 23 rfl (w.heap.size+1) aU _ 8 gL _ 0 _ rfl O0.out _ (ints L) rfl Nc.out (gM L) (by rw [hil];unfold maxLen;omega) (by rw [hil];omega) hs1 ?_;intro v1 w3 o1 hg1;obtain ⟨a1,wI,rfl,_,_⟩:=az o1);have HB3:Below w.heap.size w w3:=Xw.out.grown hg1 Xw.out.size (fun k hk=>by have:=(O0.out.lt k hk).1;omega);have I3:=HI1.out.keep O0.out hg1 (by omega);have o3:w3.ownsRow (w.heap.size+1) aU 1 (.slice a1 n wI) n (ints L):=by
  have:=o1;rw [hil] at this;simpa using this
 (try simp only [dw,←HN.out,hil,Nat.zero_add])
 have aah:=HB3.size;have c3:=I3.at 0 rfl;clear O0 Nc HI1 Xw hg1 o1 hs1;obtain ⟨K,hK⟩:=af (aB T);rw [←hK] at HK;have HKT:=ae hK;clear hK;go_loopw [6] (fun tv wr=>∃(t:Nat) (O:List Nat),t≤n∧tv=.int .i64 t∧O.length=n∧passes K (n-t) O=passes K n L∧wr.ownsRow (w.heap.size+1) aU 1 (.slice a1 n wI) n (ints O)∧Is wr w.heap.size #[.slice a nt cap,.slice ax nx cx] 25∧Below w.heap.size w wr) (fun tv _=>n-(intOf tv).toNat)
 case atStart=>exact ⟨0,L,Nat.zero_le _,rfl,HN.out.symm,by simp,o3,I3,HB3⟩
 case round=>
  clear o3 I3 HB3 aah c3;obtain ⟨t,O,ht,rfl,hOn,hps,ho,hI,hB⟩:=hrel;by_cases htn:t<n
  ·obtain ⟨a0,R0,rfl⟩:∃a0 R0,O=a0::R0:=by
    cases O with
    | nil=>simp at hOn;omega
    | cons a0 R0=>exact ⟨a0,R0,rfl⟩
   have HPS:=ae (show ∀O',O'=pass K (a0::R0)→passes K (n-(t+1)) O'=passes K n L from fun O' e=>by
    rw [←hps,show n-t=(n-(t+1))+1 by omega,e];rfl)
   have KP:=ae (show R0.length+1=n by simpa using hOn);clear hps hOn;have HO:=ae ho;clear ho;go_wp2_with fail;go_loopw [7] (fun iv w2=>∃(i k:Nat) (D R:List Nat) (b:Nat),k+1=i∧i≤n∧iv=.int .i64 i∧D.length=k∧i+R.length=n∧D++EU K b R=pass K (a0::R0)∧w2.ownsRow (w.heap.size+1) aU 1 (.slice a1 n wI) n (ints (D++b::R))∧Is w2 w.heap.size #[.slice a nt cap,.slice ax nx cx] 25∧Below w.heap.size w w2) (fun iv _=>n-(intOf iv).toNat)
   case atStart=>exact ⟨1,0,[],R0,a0,rfl,by omega,rfl,rfl,by have:=KP.out;omega,rfl,HO.out,hI,hB⟩
   case round=>
    clear hI hB;obtain ⟨i,k,D,R,b,hki,hin,rfl,hDk,hRn,Uf,ho,hI,hB⟩:=hrel;by_cases hin2:i<n
    ·obtain ⟨b2,R2,rfl⟩:∃b2 R2,R=b2::R2:=by
      cases R with
      | nil=>simp at hRn;omega
      | cons b2 R2=>exact ⟨b2,R2,rfl⟩
     obtain ⟨g,rfl,hg0,y9⟩:=Ue ho (by omega);have hik:(i:Int)-1=(k:Int):=by omega
     have HBU:=ae Uf;have hlen:(ints (D++b::b2::R2)).length=n:=by rw [dw];simp at hRn ⊢;omega
     obtain ⟨hc1,hf1⟩:=gJ ho (j:=k) (by rw [hlen];omega);obtain ⟨hc2,hf2⟩:=gJ ho (j:=i) (by rw [hlen];omega);rw [ints_at (x:=b) _ (by rw [List.getElem?_append_right (by omega),hDk];simp)] at hc1;rw [ints_at (x:=b2) _ (by rw [List.getElem?_append_right (by omega),hDk,←hki,Nat.add_sub_cancel_left];rfl)] at hc2;have HST:=ae (fun (u u':Value)=>((ho.stored k u).1.stored i u').1);have JU:=ae hDk;have Xy:=ae ho;have HRN:=ae hRn;have hne:k≠i:=by omega
     have CK1:=ae (fun (W:World) (E:Below w.heap.size w W)=>HK.out W E b);have CK2:=ae (fun (W:World) (E:Below w.heap.size w W)=>HK.out W E b2);obtain ⟨ka,hka⟩:=af (K b);obtain ⟨kb,hkb⟩:=af (K b2);rw [←hka] at CK1;rw [←hkb] at CK2;have UQ:=ae hka;have HKB:=ae hkb;have t0:=hI.at 0 rfl;have t1:=hI.at 1 rfl;have g0:=Gr.cell (ah wr) t0;have g1:=Gr.cell (ah wr) t1;have g2:=Gr.cell (ah wr) hc1;clear Uf hDk hlen hka hkb ho hRn;go_wp2_with fail;refine aD (Array.replicate 8 true) 8 0 mixed (by rfl) ?_;refine ay [0,1,2,3,4,5] 2 rfl (by kernel_rfl) ?_
     iterate 6 (refine aC rfl ?_;go_big_quiet_step (rfl))
     refine ak ?_;refine aL 6 (by kernel_rfl) rfl ?_;go_wp2_with fail;refine (CK1.out _ hB.drew).mono ?_;rintro e w5 ⟨rfl,h5⟩;go_wp2_with fail;refine aH h5 ?_;refine ay [7] 0 rfl (by kernel_rfl) ?_
     iterate 1 (refine aC rfl ?_;go_big_quiet_step (rfl))
     refine ak ?_;refine aI [] (by kernel_rfl) ?_;refine tail_nil ?_;have E5:=ag (ah wr) h5;have qQ:=hB.trans (E5.mono hB.size);have t0:=aA E5 t0;have t1:=aA E5 t1;have hc1:=aA E5 hc1;have hc2:=aA E5 hc2;have g0:=Gr.cell (ah w5) t0;have g1:=Gr.cell (ah w5) t1;have g2:=Gr.cell (ah w5) hc2;have aav:=ae (aG Xy.out E5);have hI5:=hI.mono E5;clear Xy hB hI h5 E5 CK1;go_wp2_with fail;refine aD (Array.replicate 7 true) 7 0 mixed (by rfl) ?_;refine ay [0,1,2,3,4] 2 rfl (by kernel_rfl) ?_
     iterate 5 (refine aC rfl ?_;go_big_quiet_step (rfl))
     refine ak ?_;refine aL 5 (by kernel_rfl) rfl ?_;go_wp2_with fail;refine (CK2.out _ qQ.drew).mono ?_;rintro e w6 ⟨rfl,h6⟩;go_wp2_with fail;refine aH h6 ?_;refine ay [6] 0 rfl (by kernel_rfl) ?_
     iterate 1 (refine aC rfl ?_;go_big_quiet_step (rfl))
     refine ak ?_;refine aI [] (by kernel_rfl) ?_;refine tail_nil ?_;have E6:=ag (ah w5) h6;have kZ:=qQ.trans (E6.mono qQ.size);have hc1:=aA E6 hc1;have hc2:=aA E6 hc2;have Uv:=aG aav.out E6;have hI6:=hI5.mono E6;have hlen:(ints (D++b::b2::R2)).length=n:=by rw [dw];have:=HRN.out;have:=JU.out;simp at *;omega
     have hf1:=(gJ Uv (j:=k) (by rw [hlen];omega)).2;have hf2:=(gJ Uv (j:=i) (by rw [hlen];omega)).2;have HST:=ae (fun (u u':Value)=>((Uv.stored k u).1.stored i u').1);have HO6:=ae Uv;clear aav qQ hI5 h6 E6 CK2 Uv hlen;by_cases hsw:0<kb∧kb<ka
     ·obtain ⟨s1,s2⟩:=hsw
      have HBN:=ae (show (D++[b2])++EU K b R2=pass K (a0::R0) by
       rw [←HBU.out,nJ,if_pos (by rw [←UQ.out,←HKB.out];exact ⟨s1,s2⟩)];simp)
      go_wp2_with fail;go_region;go_wp2;go_roundw
      case rel=>
       have hl1:(ints (D++b::b2::R2)).set k (.int .i64 b2)=ints (D++b2::b2::R2):=by
        simp only [ints,List.map_append,List.map_cons];rw [List.set_append_right _ _ (by rw [List.length_map,JU.out];exact Nat.le_refl _),List.length_map,JU.out,Nat.sub_self];rfl
       have hl2:(ints (D++b2::b2::R2)).set i (.int .i64 b)=ints ((D++[b2])++b::R2):=by
        simp only [ints,List.map_append,List.map_cons,List.map_nil];rw [List.set_append_right _ _ (by rw [List.length_map,JU.out];omega),List.length_map,JU.out,←hki,Nat.add_sub_cancel_left];simp
       have ho7:=HST.out (.int .i64 b2) (.int .i64 b);rw [hl1,hl2] at ho7;refine ⟨i+1,i,D++[b2],R2,b,rfl,by omega,rfl,by simp [JU.out];omega,by have:=HRN.out;simp at this;omega,HBN.out,aG ho7 (ah _),((hI6.put (by omega) _).put (by omega) _).mono (ah _),(aj (aj kZ (by omega)) (by omega)).drew⟩
      case measure=>simp [intOf];omega
     ·have HBN:=ae (show (D++[b])++EU K b2 R2=pass K (a0::R0) by
       rw [←HBU.out,nJ,if_neg (by rw [←UQ.out,←HKB.out];exact hsw)];simp)
      have TD:=ae (show ∃(i' k':Nat) (D' R':List Nat) (b':Nat),k'+1=i'∧i'≤n∧i'=i+1∧D'.length=k'∧i'+R'.length=n∧D'++EU K b' R'=pass K (a0::R0)∧w6.ownsRow (w.heap.size+1) aU 1 (.slice (some ⟨g,0,none⟩) n wI) n (ints (D'++b'::R')) from
       ⟨i+1,i,D++[b],R2,b2,rfl,by omega,rfl,by simp [JU.out];omega,by have:=HRN.out;simp at this;omega,HBN.out,by have:=HO6.out;simpa using this⟩)
      by_cases aeJ:0<kb
      ·have hkk:¬kb<ka:=fun h=>hsw ⟨aeJ,h⟩;clear hsw;go_wp2;go_roundw
       case rel=>
        obtain ⟨i',k',D',R',b',h1,h2,rfl,h4,h5,h6,h7⟩:=TD.out;exact ⟨i+1,k',D',R',b',h1,h2,rfl,h4,h5,h6,h7,hI6,kZ⟩
       case measure=>simp [intOf];omega
      ·clear hsw;go_wp2;go_roundw
       case rel=>
        obtain ⟨i',k',D',R',b',h1,h2,rfl,h4,h5,h6,h7⟩:=TD.out;exact ⟨i+1,k',D',R',b',h1,h2,rfl,h4,h5,h6,h7,hI6,kZ⟩
       case measure=>simp [intOf];omega
    ·have akj:i=n:=by omega
     have hR0:R=[]:=List.length_eq_zero_iff.1 (by omega);have L_:=ae (HPS.out (D++[b]) (by rw [←Uf,hR0];rfl));have HOF:=ae (show wr.ownsRow (w.heap.size+1) aU 1 (.slice a1 n wI) n (ints (D++[b])) from by rw [hR0] at ho;exact ho);have JU:=ae (show (D++[b]).length=n by simp;omega);clear Uf hR0 ho hDk hRn;go_wp2;go_roundw
     case rel=>exact ⟨t+1,D++[b],by omega,rfl,JU.out,L_.out,HOF.out,hI,hB⟩
     case measure=>simp [intOf];omega
  ·have aaw:t=n:=by omega
   have HF:=ae (show wr.ownsRow w.heap.size aU 1 (.slice a1 n wI) L.length (ints (iP K L)) from by
    rw [aaw,Nat.sub_self] at hps;have e1:O=iP K L:=by rw [←xQ,←HN.out,←hps];rfl
    rw [←e1,←HN.out]
    exact aW ho (by omega))
   clear hps ho hOn aaw;go_wp2;go_ret;exact ⟨_,rfl,by rw [←HKT.out];exact HF.out,hB⟩
theorem pY {w:World} {v u:Value} {T:List aF} {X L:List Nat} (h:iw w v T X) (hV:bE T X) (hl:bD w u (ints L)) (hL:∀x∈L,aX x) (hmax:T.length<1000000) (Qw:L.length<10000) :
 Calls Tryz.prog 8 #[v,u] w fun e w'=>∃r,e=.returned r∧w'.ownsRow w.heap.size aU 1 r (xR T L).length (ints (xR T L))∧Below w.heap.size w w':=by
 have HT:=ae h;obtain ⟨a,nt,cap,ax,nx,cx,rfl⟩:=h.shape;obtain ⟨n,hn⟩:=af L.length;obtain ⟨al,cl,rfl,_,hx⟩:=bD.kS hl hn;have HN:=ae hn;have HX:=ae hx;have HL:=ae hL;have G6:n<10000:=by omega
 have HV:=ae hV;have Uk:=ae (fun l=>pQ hV l);have RJ:=ae (fun c=>iR hV c);have HFU:=ae (fun (W:World) (E:Below w.heap.size w W) (c:Nat) (hc:c<1114112)=>rR (HT.out.mono E) c hc (fun r hr x hx=>((hV.fine r hr).2.2.2.2 x hx).2.1) (fun r hr=>Nat.le_trans (hV.fine r hr).2.2.1 (by decide)) hmax);have Uz:=ae (show ∀(W:World) (E:Below w.heap.size w W) (c:Nat) (hc:c<1114112),Calls Tryz.prog 31 #[.agg #[.slice a nt cap,.slice ax nx cx],.int .i64 c] W fun e w'=>∃r,e=.returned (.tuple #[r,.bool true])∧bD w' r (ints (aK T c))∧Below W.heap.size W w' from fun W E c hc=>(HFU.out W E c hc).mono fun e w' ⟨r,h1,h2,h3⟩=>⟨r,by rw [h1,decide_eq_true (l7 hV c)],h2 (l7 hV c),h3⟩);have hb:=ai (w:=w) (.cells #[.slice a nt cap,.slice ax nx cx] 25);obtain ⟨W0,hW⟩:=af (w.alloc (.cells #[.slice a nt cap,.slice ax nx cx] 25));have d0:W0.cell? ⟨w.heap.size,0,none⟩=some (.slice a nt cap):=by rw [hW];unfold World.cell?;rw [heap_alloc_new];rfl
 have d1:W0.cell? ⟨w.heap.size,1,none⟩=some (.slice ax nx cx):=by rw [hW];unfold World.cell?;rw [heap_alloc_new];rfl
 rw [←hW] at hb;obtain ⟨W1,hW1⟩:=af (W0.alloc (.cells #[] aU));have hb1:Below W0.heap.size W0 W1:=by subst hW1;exact ai _
 have o1:W1.ownsRow W0.heap.size aU 1 (.slice (some ⟨w.heap.size+1,0,none⟩) 0 0) 0 (ints []):=by
  subst hW1;have:=il W0 aU;rw [show W0.heap.size=w.heap.size+1 by rw [hW];simp] at this ⊢;exact this
 rw [hW] at hW1;have hs0:W0.heap.size=w.heap.size+1:=by rw [hW];simp
 have HHT:=ae (fun (W:World) (E:Below w.heap.size w W)=>HT.out.mono E);clear hW h hl hx hn hL hV Qw;go_enter Tryz.func8,Tryz.ntmps8;go_wp2_with fail;rw [←hW1];clear hW1;go_loopw [5,13] (fun ov iv wr=>∃j:Nat,j≤n∧iv=.int .i64 j∧wr.ownsRow W0.heap.size aU 1 ov ((L.take j).flatMap (aK T)).length (ints ((L.take j).flatMap (aK T)))∧Below W0.heap.size W0 wr) (fun _ iv _=>n-(intOf iv).toNat)
 case atStart=>exact ⟨0,Nat.zero_le _,rfl,o1,hb1⟩
 case round=>
  clear o1 hb1;obtain ⟨j,hj,rfl,ho,hE⟩:=hrel;have dC:=hb.trans (hE.mono hb.size);have e0:=aA hE d0;have e1:=aA hE d1;obtain ⟨UT,WA,rfl,_,_⟩:=az ho;by_cases hjn:j<n
  ·have hjl:j<L.length:=by have:=HN.out;omega
   obtain ⟨b,off,rfl,hbs,hc⟩:=HX.out j hjl;have hc:=aA dC hc;have hx:=(HL.out _ (List.getElem_mem hjl)).1;have hlen:=Uk.out (L.take j);rw [List.length_take] at hlen;have ES:=ae (show (L.take (j+1)).flatMap (aK T)=(L.take j).flatMap (aK T)++aK T L[j] by rw [List.take_succ_eq_append_getElem hjl,List.flatMap_append];simp);generalize (L.take j).flatMap (aK T)=S at *;generalize L[j]=x at *;have FA:=ae (Uz.out wr dC x hx);have hfl:=RJ.out x;have HO:=ae ho;clear ho hx;go_wp2_with fail;refine FA.out.mono ?_;rintro e w2 ⟨r2,rfl,s2,h2⟩;have hE2:=ag hE h2;have ho2:=ae (aG HO.out h2);have S2:=ae s2;generalize aK T x=m at *;obtain ⟨nm,hnm⟩:=af m.length;obtain ⟨a2,c2,rfl,_,_⟩:=bD.kS s2 hnm;have hil:(ints m).length=nm:=by rw [dw,hnm]
   have qh:=ae hnm;have hsl:S.length≤320000:=by omega
   rw [←hnm] at hfl;clear FA s2 hnm HO e0 e1;go_wp2_with (at_builtin;refine bG rfl _ _ 23 rfl W0.heap.size aU _ 8 gL _ S.length _ rfl ho2.out _ (ints m) rfl S2.out (gM m) (by rw [hil];unfold maxLen;omega) (by rw [hil];omega) hE2.size ?_;intro v' w3 hown' hgrow);have j_:=hE2.grown hgrow hE2.size (fun k hk=>(ho2.out.lt k hk).1);go_roundw
   case rel=>exact ⟨j+1,by omega,rfl,by rw [ES.out,kE,List.length_append,←qh.out,←hil];exact hown',j_⟩
   case measure=>simp [intOf];omega
  ·obtain rfl:n=j:=by omega
   have hlen:=Uk.out L;rw [←HN.out] at hlen;have FIN:=ae (JI (HHT.out wr dC) (Sl.aT ho).any hmax (by rw [List.take_of_length_le (by rw [HN.out];exact Nat.le_refl _)];omega));have EQ:=ae (show iP (aB T) ((L.take n).flatMap (aK T))=xR T L by rw [List.take_of_length_le (by rw [HN.out];exact Nat.le_refl _)];rfl);have EL:=ae (show ((L.take n).flatMap (aK T)).length=(xR T L).length by rw [←EQ.out];exact (by rw [←xQ,xN]));rw [EQ.out,EL.out] at FIN;rw [EL.out];rw [EL.out] at ho;clear ho;go_wp2_with fail;refine FIN.out.mono ?_;rintro e w3 ⟨r3,rfl,o3,h3⟩;go_wp2;go_ret;exact ⟨_,rfl,aW o3 (by have:=dC.size;omega),dC.trans (h3.mono dC.size)⟩
end Go.Proofs.YtjidohgiigjifaaGreatDoor
namespace Go.Cd
open Go.RowKit
theorem MR {k:IntKind} {w:World} {a:Option Addr} {len cap:Nat} {zs:List Int}
 (h:(a=none∧len=0∧cap=0∧zs=[])∨∃x,a=some x∧len≤cap∧cap≤maxLen∧zs.length=cap∧(∀i,i<zs.length→w.cell? (x.add i)=some (.int k (zs.getD i 0)))∧∀n∈zs,(Lit.int k n).wf=true) :
 bD w (.slice a len cap) ((zs.take len).map (Value.int k))∧len≤maxLen∧(zs.take len).length=len∧∀n∈zs,(Lit.int k n).wf=true:=by
 rcases h with ⟨rfl,rfl,rfl,rfl⟩|⟨x,rfl,hlc,hcm,hz,hcell,hwf⟩
 ·exact ⟨⟨none,0,rfl,Nat.le_refl _,.inl ⟨rfl,fun _=>rfl⟩⟩,Nat.zero_le _,rfl,by simp⟩
 ·have hlen:((zs.take len).map (Value.int k)).length=len:=by simp;omega
  refine ⟨⟨some x,cap,by rw [hlen],by rw [hlen];exact hlc,?_⟩,by omega,by simp;omega,hwf⟩;by_cases h0:len=0
  ·subst h0;exact .inl ⟨by simp,fun e=>by cases e⟩
  ·right;have h1:=hcell 0 (by omega);have e0:x.add 0=x:=by unfold Addr.add;simp
   rw [e0] at h1;unfold World.cell? at h1
   split at h1
   ·rename_i c e f hb;have hs:x.spot.isSome=false:=by
     cases hs:x.spot.isSome with
     | false=>rfl
     | true=>simp [hs] at h1
    have hsp:x=⟨x.block,x.off,none⟩:=by
     cases x with
     | mk b o s=>cases s with
       | none=>rfl
       | some s=>simp at hs
    refine ⟨x.block,x.off,c,e,f,by rw [←hsp],hb,fun i hi=>?_⟩;rw [hlen] at hi;have h2:=hcell i (by omega);rw [hsp] at h2;unfold World.cell? Addr.add at h2;have hg:zs.getD i 0=zs[i]'(by omega):=by rw [List.getD_eq_getElem?_getD,List.getElem?_eq_getElem (by omega)];rfl
    rw [hg] at h2;have hr:((zs.take len).map (Value.int k))[i]'(by rw [hlen];exact hi)=.int k (zs[i]'(by omega)):=by simp
    rw [hr];by_cases hi0:i=0
    ·subst hi0;simp only [if_true] at h2;rw [hb] at h2;simpa using h2
    ·rw [if_neg hi0] at h2;simp only at h2;rw [hb] at h2;simpa using h2
   ·simp at h1
theorem JK {w:World} {a:Option Addr} {len cap:Nat} {zs:List Int}
 (h:(a=none∧len=0∧cap=0∧zs=[])∨∃x,a=some x∧len≤cap∧cap≤maxLen∧zs.length=cap∧(∀i,i<zs.length→w.cell? (x.add i)=some (.int .i64 (zs.getD i 0)))∧∀n∈zs,(Lit.int .i64 n).wf=true) :
 ∃l:List Int,bD w (.slice a len cap) (bH l)∧l.length=len∧len≤maxLen∧∀d∈l,-9223372036854775808≤d∧d≤9223372036854775807:=by
 obtain ⟨h1,h2,h3,h4⟩:=MR h;refine ⟨_,h1,h3,h2,fun n hn=>?_⟩;have:=h4 n (List.mem_of_mem_take hn);simp [Lit.wf,IntKind.min,IntKind.max,IntKind.bits,IntKind.signed] at this;omega
end Go.Cd
namespace Go.Proofs.YtjidohgiigjifaaGreatDoor
section
open Go.RowKit Go.Cd Go.ChangeShapes Go.WideShapes Go.Deep
theorem Ui {w:World} {b o:Nat} {v:Value} (h:w.cell? ⟨b,o,none⟩=some v):b<w.heap.size:=by
 rcases Nat.lt_or_ge b w.heap.size with h1|h1
 ·exact h1
 ·unfold World.cell? at h;rw [Array.getElem?_eq_none h1] at h;cases h
section
variable {H : Type} {enc : TypeId × Value → H} {w : World} {base : Nat} {held : Bool}
theorem oK {fuel:Nat} {cs:List Value} {x:DataW H×List MemPlace} (h:DataW.trod enc Tryz.prog w base (fun _=>true) held fuel 23 cs=some x) :
 ∃a len cap l,cs=[.slice a len cap]∧bD w (.slice a len cap) (bH l)∧l.length=len∧((x.1=.nil∧len=0)∨∃es sp,x.1=.slice es sp∧es.length=len):=by
 rcases open_ints Tryz.underlying23 Tryz.underlying3 (by kernel_rfl) h with ⟨rfl,rfl⟩|⟨a,len,cap,zs,rfl,_,hl,hm,hz,rfl,hcell,hwz⟩
 ·exact ⟨none,0,0,[],rfl,⟨none,0,rfl,Nat.le_refl _,.inl ⟨rfl,fun _=>rfl⟩⟩,rfl,.inl ⟨rfl,rfl⟩⟩
 ·obtain ⟨l,hS,hl',_,_⟩:=JK (w:=w) (a:=some a) (len:=len) (cap:=cap) (zs:=zs) (.inr ⟨a,rfl,hl,hm,by simpa using hz,hcell,hwz⟩);refine ⟨_,_,_,l,rfl,hS,hl',.inr ⟨_,_,rfl,?_⟩⟩;have hz':zs.length=cap:=by simpa using hz
  simp [lits,List.length_take];omega
instance:Inhabited fM:=⟨⟨0,0,[]⟩⟩
theorem MS {fuel:Nat} {cs:List Value} {x:DataW H×List MemPlace} (h:DataW.trod enc Tryz.prog w base (fun _=>true) held fuel 22 cs=some x) :
 ∃a len cap T,cs=[.slice a len cap]∧GG w (.slice a len cap) T:=by
 rcases open_slice Tryz.underlying22 h with ⟨rfl,_⟩|⟨a,len,cap,m,n,D,Pl,rfl,_,hl,hm,hmm,_,hel⟩
 ·exact ⟨none,0,0,[],rfl,none,0,rfl,Nat.le_refl _,fun i hi=>absurd hi (Nat.not_lt_zero _)⟩
 ·simp only [if_true] at hmm;subst hmm;have hc:Tryz.prog.cellsOf 68=3:=by kernel_rfl
  have hsp:0<len→a.spot=none:=fun h0=>by
   obtain ⟨cs',hcs,_⟩:=hel 0 (by omega);rw [hc] at hcs;obtain ⟨_,hlen,hcell⟩:=World.cells?_some hcs;have g:=hcell 0 (by omega);rw [List.getElem?_eq_getElem (by omega)] at g;have:=World.cell?_spot g;rw [add_add] at this;simpa [Addr.add] using this
  obtain ⟨f,hf⟩:=choose_lt (n:=len) (p:=fun i (r:fM)=>∃b off mv,a=⟨b,off,none⟩∧b<w.heap.size∧w.cell? ⟨b,off+i*3,none⟩=some (.int .i64 r.code)∧w.cell? ⟨b,off+i*3+1,none⟩=some (.int .i64 r.cls)∧w.cell? ⟨b,off+i*3+2,none⟩=some mv∧bD w mv (bH r.map)) (fun i hi=>by
   obtain ⟨cs',hcs,htr⟩:=hel i (by omega);rw [hc] at hcs;obtain ⟨_,hlen,hcell⟩:=World.cells?_some hcs;obtain ⟨y0,y1,y2,k,_,_,h0,h1,h2⟩:=trod_struct3 Tryz.underlying68 htr
   match cs',hlen with
   | [c0,c1,c2],_=>
     have h0:DataW.trod enc Tryz.prog w base (fun _=>true) held k 3 [c0]=some y0:=h0;have h1:DataW.trod enc Tryz.prog w base (fun _=>true) held k 3 [c1]=some y1:=h1;have h2:DataW.trod enc Tryz.prog w base (fun _=>true) held k 23 [c2]=some y2:=h2;obtain ⟨z0,e0,_,_⟩:=DataW.trod_int Tryz.underlying3 h0;obtain ⟨z1,e1,_,_⟩:=DataW.trod_int Tryz.underlying3 h1;obtain ⟨am,lm,cm,l,e2,hS,_,_⟩:=oK h2;cases e0;cases e1;cases e2;have g0:=hcell 0 (by omega);have g1:=hcell 1 (by omega);have g2:=hcell 2 (by omega);rw [add_add] at g0 g1 g2;obtain ⟨b,off,rfl⟩:∃b off,a=⟨b,off,none⟩:=⟨a.block,a.off,by have hsp:=hsp (by omega);cases a;simp at hsp;subst hsp;rfl⟩;rw [add_plain] at g0 g1 g2;refine ⟨⟨z0,z1,l⟩,b,off,_,rfl,Ui g0,?_,?_,?_,hS⟩
     ·simpa using g0
     ·simpa [Nat.add_assoc] using g1
     ·simpa [Nat.add_assoc] using g2)
  refine ⟨some a,len,m,(List.range len).map f,rfl,some a,m,by simp,by simpa using hl,fun i hi=>?_⟩;simp at hi;obtain ⟨b,off,mv,rfl,hb,h0,h1,h2,h3⟩:=hf i hi;exact ⟨b,off,mv,rfl,hb,by simpa using h0,by simpa using h1,h2,by simpa using h3⟩
theorem MV {v:Value} {d:DataW H} {ps:List MemPlace} (hv:∃cs,v=.agg cs∧cs.size=Tryz.prog.cellsOf 27) (h:DataW.Trod enc Tryz.prog w base (fun _=>true) held 27 v d ps) (hsz:∀n∈d.weights Tryz.prog 27,n≤reachBytes) :
 ∃T X pk mr,BJ w v T X pk mr∧mr.length<281474976710656:=by
 obtain ⟨cs,rfl,hcs⟩:=hv;obtain ⟨fuel,h⟩:=h;have h:DataW.trod enc Tryz.prog w base (fun _=>true) held fuel 27 cs.toList=some (d,ps):=h;obtain ⟨y0,y1,y2,n,hd,hl,h0,h1,h2⟩:=trod_struct3 Tryz.underlying27 h;have hc:Tryz.prog.cellsOf 27=4:=by kernel_rfl
 rw [hc] at hcs;obtain ⟨c0,c1,c2,c3,rfl⟩:∃c0 c1 c2 c3,cs=#[c0,c1,c2,c3]:=by
  match cs,hcs with
  | ⟨[c0,c1,c2,c3]⟩,_=>exact ⟨c0,c1,c2,c3,rfl⟩
 have h0:DataW.trod enc Tryz.prog w base (fun _=>true) held n 25 [c0,c1]=some y0:=h0;have h1:DataW.trod enc Tryz.prog w base (fun _=>true) held n 23 [c2]=some y1:=h1;have h2:DataW.trod enc Tryz.prog w base (fun _=>true) held n 23 [c3]=some y2:=h2;obtain ⟨q0,q1,k,_,_,g0,g1⟩:=trod_struct2 Tryz.underlying25 h0;have g0:DataW.trod enc Tryz.prog w base (fun _=>true) held k 22 [c0]=some q0:=g0;have g1:DataW.trod enc Tryz.prog w base (fun _=>true) held k 23 [c1]=some q1:=g1;obtain ⟨a0,n0,p0,T,e0,hT⟩:=MS g0;obtain ⟨a1,n1,p1,X,e1,hX,_,_⟩:=oK g1;obtain ⟨a2,n2,p2,pk,e2,hp,_,_⟩:=oK h1;obtain ⟨a3,n3,p3,mr,e3,hm,ko,hsh⟩:=oK h2;cases e0;cases e1;cases e2;cases e3;refine ⟨T,X,pk,mr,⟨_,_,_,_,rfl,⟨_,_,rfl,hT,hX⟩,hp,hm⟩,?_⟩;rcases hsh with ⟨_,h0⟩|⟨es,sp,hy,hes⟩
 ·omega
 ·have hb:Tryz.prog.bytesOf 3=8:=by kernel_rfl
  have he:d=.agg [y0.1,y1.1,y2.1]:=congrArg Prod.fst hd
  have hm2:=hsz ((es.length+sp.length)*Tryz.prog.bytesOf 3) (by
   rw [he,DataW.weights,Tryz.underlying27]
   exact DataW.weights_mem_each (j:=2) (t:=23) rfl (by simp [hy];rfl) _ (by simp [DataW.weights,Tryz.underlying23]))
  rw [hb] at hm2;unfold reachBytes at hm2;omega
end
end
open Go.RowKit Go.Cd Go.ChangeShapes Go.WideShapes Go.Deep
def aaB:List Int:=[0,1,56,2,57,49,28,3,61,58,42,50,38,29,17,4,62,47,59,36,45,43,51,22,53,39,33,30,24,18,12,5,63,55,48,27,60,41,37,16,46,35,44,21,52,32,23,11,54,26,40,15,34,20,31,10,25,14,19,9,13,8,7,6]
theorem GZ {w:World} (hd:Lib.VarReads Tryz.prog w "math/bits.deBruijn64tab" (Lib.tabData .u8 aaB)) (hp:Lib.VarReads Tryz.prog w "internal/strconv.uint64pow10" (Lib.tabData .u64 Lib.pow10Tab)) (hs:w.ShapedOpen Tryz.prog):bZ w:=by
 refine ⟨?_,?_,?_⟩
 ·exact Go.Proofs.cell_of_shapedOpen_int (zero:=#[.int .i64 0]) (t:=3) hs (of_decide_eq_true (by kernel_rfl)) (by kernel_rfl) rfl (by kernel_rfl) (by kernel_rfl) Tryz.underlying3
 ·obtain ⟨g,t,cs,fuel,p,hg,hty,hv,htr⟩:=hp;have h6:(Tryz.prog.globalNamed "internal/strconv.uint64pow10").bind (fun g=>(Tryz.prog.globals[g]?).map (·.type))=some 342:=by kernel_rfl
  rw [hg,Option.bind_some,hty] at h6;obtain rfl:t=342:=Option.some.inj h6;have e:=Lib.cells_of_tab Tryz.underlying342 Tryz.underlying36 (by kernel_rfl) (by kernel_rfl) htr;unfold Lib.TabIs;rw [hv,←e]
 ·obtain ⟨g,t,cs,fuel,p,hg,hty,hv,htr⟩:=hd;obtain rfl:g=8:=Option.some.inj (hg.symm.trans (by kernel_rfl));obtain rfl:t=369:=Option.some.inj (hty.symm.trans (by kernel_rfl));have e:=Lib.cells_of_tab Tryz.underlying369 Tryz.underlying5 (by kernel_rfl) (by kernel_rfl) htr;have hc:=World.var?_cell hg hv 15;rw [hc,←Array.getElem?_toList,e];rfl
end Go.Proofs.YtjidohgiigjifaaGreatDoor
