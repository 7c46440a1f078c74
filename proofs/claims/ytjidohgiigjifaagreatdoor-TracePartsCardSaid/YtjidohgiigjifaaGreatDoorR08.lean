/- TraceParts and TraceWalks: a machine takes a character as those of its full decomposition, one by one; texts that are alike go through it, and of others none; no condition. -/
import Derived.Test.YtjidohgiigjifaaGreatDoorR07
import Derived.Lib.SlicesSearch
import Derived.Deep.LoopGhost
set_option maxRecDepth 100000
set_option maxHeartbeats 6400000
namespace Go.Proofs.YtjidohgiigjifaaGreatDoor
section
open Go.RowKit Go.Cd Go.Sort
section
variable {α : Type} [Inhabited α] (enc : α → Value)
theorem AU {w:World} {g:Nat} {cur:Array Value} {e:TypeId} {ss:List α} (hb:w.heap[g]? = some (.cells cur e (0,0))) (ht:cur.toList.take ss.length=ss.map enc):Holds enc w g 0 ss.toArray:=by
 intro j hj;have hj':j<ss.length:=by simpa using hj
 refine ⟨?_,by simp [World.frozen?,hb]⟩;have h1:(cur.toList.take ss.length)[j]? = (ss.map enc)[j]?:=by rw [ht]
 rw [List.getElem?_take_of_lt hj'] at h1;simp only [World.cell?,hb,Nat.zero_add];simpa [hj'] using h1
theorem heap_put {w:World} {g n:Nat} {os:Array Obj} {cur:Array Value} {e:TypeId} {fr:Nat×Nat} (d:Array α) (hb:w.heap[g]? = some (.cells cur e fr)) :
 (grow (putRow enc (Sort.ahead w n) g 0 d) os).heap[g]? = some (.cells (putCells enc 0 d cur) e fr):=by
 have hg:g<w.heap.size:=(Array.getElem?_eq_some_iff.1 hb).1;rw [heap_grow_old _ _ (by simpa using hg)];simp [putRow,mapBlock,Sort.ahead,Array.getElem?_modify,hb,onCells]
theorem vo {w:World} {g n:Nat} {os:Array Obj} (d:Array α):w.grownBy (grow (putRow enc (Sort.ahead w n) g 0 d) os) (some g):=by
 refine ⟨rfl,rfl,rfl,by simp,fun k hk hne=>?_⟩;rw [heap_grow_old _ _ (by simpa using hk)];have:g≠k:=fun e=>hne (by rw [e]);simp [putRow,mapBlock,Sort.ahead,Array.getElem?_modify,this]
theorem NH (cur:Array Value) (ts:List α) (h:ts.length≤cur.size):(putCells enc 0 ts.toArray cur).toList.take ts.length=ts.map enc:=by
 apply List.ext_getElem?;intro j;by_cases hj:j<ts.length
 ·rw [List.getElem?_take_of_lt hj,Array.getElem?_toList];simp [putCells,hj,show j<cur.size by omega]
 ·rw [List.getElem?_take_eq_none (by omega),List.getElem?_eq_none (by simp;omega)]
theorem vw {w:World} {base g cap n:Nat} {e:TypeId} {os:Array Obj} {cur:Array Value} {ts us:List α} (hbase:base≤g) (hb:w.heap[g]? = some (.cells cur e (0,0)))
 (h1:(ts++us).length≤cap) (h2:cap≤maxLen) (h3:cur.size=cap*1) :
 (grow (putRow enc (Sort.ahead w n) g 0 (ts++us).toArray) os).ownsRow base e 1 (.slice (some ⟨g,0,none⟩) ts.length cap) ts.length (ts.map enc):=by
 have h4:ts.length≤cap:=by simp at h1;omega
 refine ⟨by simp,.inr ⟨g,cap,_,rfl,hbase,heap_put enc _ hb,h4,h2,by simp [putCells,h3],?_⟩⟩;have:=NH enc cur (ts++us) (by omega);rw [Nat.mul_one];have h5:=congrArg (List.take ts.length) this;rw [List.take_take,Nat.min_eq_left (by simp)] at h5;rw [h5];simp
end
def EF (d:Nat):Value:=.int .i32 d
theorem NI (l:List Nat):aN l=l.map EF:=rfl
theorem AV (l:List Nat):aN l=(l.map fun d:Nat=>(d:Int)).map (Value.int .i32):=by rw [List.map_map];rfl
theorem KT (l:List Nat):((l.map fun d:Nat=>(d:Int)).mergeSort fun x y=>decide (x≤y))=(dD l).map fun d:Nat=>(d:Int):=by
 unfold dD;refine (List.map_mergeSort ?_).symm;intro a _ b _;simp
theorem rG {w:World} {base:Nat} {v:Value} (l:List Nat) (ho:w.ownsRow base aM 1 v l.length (aN l)) (hl:l.length<1000000) :
 Calls Tryz.prog 53 #[v] w fun e w'=>e=.returned (.tuple #[])∧w'.ownsRow base aM 1 v l.length (aN (dD l))∧w.grownBy w' v.ownBlock:=by
 rcases ho.2 with ⟨rfl,h0⟩|⟨g,cap,cur,rfl,hb,hh,hc,hm,hs,ht⟩
 ·have hn:l=[]:=List.length_eq_zero_iff.1 h0;subst hn;refine (vW none 0 w).mono ?_;rintro e w' ⟨he,rfl⟩;exact ⟨he,by rw [show dD []=[] from by simp [dD]];exact ho,⟨rfl,rfl,rfl,Nat.le_refl _,fun _ _ _=>rfl⟩⟩
 ·rw [Nat.mul_one,AV] at ht;have hH:=AU (Value.int .i32) (ss:=l.map fun d:Nat=>(d:Int)) hh (by simpa using ht);have h:=aaG g 0 cap (l.map fun d:Nat=>(d:Int)) w hH (block_lt hh) (by simp;omega);rw [List.length_map] at h;refine h.mono ?_;rintro e w' ⟨he,n,os,rfl⟩;refine ⟨he,?_,vo _ _⟩;rw [KT,AV];have e1:((dD l).map fun d:Nat=>(d:Int)).length=l.length:=by rw [List.length_map,fD]
  have:=vw (Value.int .i32) (w:=w) (base:=base) (n:=n) (os:=os) (ts:=(dD l).map fun d:Nat=>(d:Int)) (us:=[]) hb hh (by rw [List.append_nil,e1];exact hc) hm hs;rw [List.append_nil,e1] at this;exact this
theorem Yd (P:Program) (T:TypeId):EqlAt P T EF (fun x y=>decide (x=y)):=⟨fun x y w=>by
 have:=(EqlAt.intD P T .i32).1 (x:Int) (y:Int) w;refine this.trans ?_;dsimp only
 rw [show decide ((x:Int)=(y:Int))=decide (x=y) from decide_eq_decide.2 (by omega)],fun op a b x y w=>(EqlAt.intD P T .i32).2 op a b (x:Int) (y:Int) w⟩
theorem acb (P:Program) (T:TypeId):NeqAt P T EF (fun x y=>decide (x=y)):=⟨fun x y w=>by
 have:=(NeqAt.intD P T .i32).1 (x:Int) (y:Int) w;refine this.trans ?_;dsimp only
 rw [show decide ((x:Int)=(y:Int))=decide (x=y) from decide_eq_decide.2 (by omega)],fun op a b x y w=>(NeqAt.intD P T .i32).2 op a b (x:Int) (y:Int) w⟩
theorem EG {w:World} {base:Nat} {v:Value} (l:List Nat) (ho:w.ownsRow base aM 1 v l.length (aN l)) (hl:l.length<1000000) (h0:l≠[]) :
 Calls Tryz.prog 140 #[v] w fun e w'=>∃r,e=.returned r∧w'.ownsRow base aM 1 r (AL l).length (aN (AL l))∧w.grownBy w' v.ownBlock:=by
 rcases ho.2 with ⟨rfl,h1⟩|⟨g,cap,cur,rfl,hb,hh,hc,hm,hs,ht⟩
 ·exact absurd (List.length_eq_zero_iff.1 h1) h0
 ·rw [Nat.mul_one,NI] at ht;have hH:=AU EF (ss:=l) hh ht;have h:=AnyE.slices_Compact Tryz.Cc EF (fun _=>rfl) (Yd _ _) (acb _ _) 0 (fun w=>Tryz.zeroValue21 w) g 0 cap l.toArray w hH (by simp;omega) (by simpa using hc);refine Calls.mono (h:Calls Tryz.prog 140 #[.slice (some ⟨g,0,none⟩) l.length cap] w _) ?_;rintro e w' ⟨he,q,rfl⟩;refine ⟨_,he,?_,?_⟩
  ·have:=vw EF (w:=w) (base:=base) (n:=q) (os:=#[]) (ts:=Lib.compactUpTo l.toArray l.toArray.size) (us:=List.replicate (l.toArray.size-(Lib.compactUpTo l.toArray l.toArray.size).length) 0) hb hh (by
    have:=Ej l.toArray l.toArray.size
    simp at this ⊢;omega) hm hs
   rw [grow_empty] at this;exact this
  ·have:=vo EF (w:=w) (g:=g) (n:=q) (os:=#[]) (Lib.compactUpTo l.toArray l.toArray.size++List.replicate (l.toArray.size-(Lib.compactUpTo l.toArray l.toArray.size).length) 0).toArray;rw [grow_empty] at this;exact this
theorem lQ {w:World} {v:Value} (l:List Nat) (hv:Sl aM w v (aN l)) (hp:fH v) (hl:l.length<1000000) :
 Calls Tryz.prog 57 #[v] w fun e w'=>∃r,e=.returned r∧w'.ownsRow w.heap.size aM 1 r l.length (aN l)∧Below w.heap.size w w':=by
 obtain ⟨a,cap,rfl,hc,hx⟩:=hv.out;rw [bO] at *;obtain ⟨a',n',cap',he,ha⟩:=hp;cases he;rcases ha with rfl|⟨b,off,rfl⟩
 ·have h0:l=[]:=by
   rcases l with _|⟨x,l⟩
   ·rfl
   ·obtain ⟨b,off,h,_⟩:=hx 0 (by simp);cases h
  subst h0;refine Calls.mono (AnyE.slices_Clone_nil Tryz.xw 0 cap w:Calls Tryz.prog 57 #[.slice none 0 cap] w _) ?_;rintro e w' ⟨he,rfl⟩;exact ⟨_,he,World.ownsRow_nil _ _ _ _,Below.refl _ _⟩
 ·obtain ⟨_,_,i,hi,hz,hsize,hby⟩:=bS;refine Calls.mono (AnyE.slices_Clone Tryz.xw i (.int .i32 0) 1 4 hi hz hsize hby rfl (by decide) (fun w=>Tryz.sizeOf21 w) b off l.length cap (aN l) w (by simp) (by unfold maxLen;omega) (by omega) ?_ (gK l):Calls Tryz.prog 57 #[.slice (some ⟨b,off,none⟩) l.length cap] w _) ?_
  ·intro j u hu;have hj:=(List.getElem?_eq_some_iff.1 hu).1;obtain ⟨b',off',h1,_,h3⟩:=hx j (by simpa using hj);cases h1;rw [h3];have:=(List.getElem?_eq_some_iff.1 hu).2;rw [this]
  ·rintro e w' ⟨r,he,ho,_,hB⟩;exact ⟨r,he,ho,hB⟩
end
open Go.RowKit Go.Lib Go.Cd
theorem rH (x y:Int) (w:World):Calls Tryz.prog 120 #[.int .i32 x,.int .i32 y] w fun e w'=>e=.returned (.bool (decide (x<y)))∧w'=w:=aJ x y w
theorem nH (x:Int) (w:World):Calls Tryz.prog 263 #[.int .i32 x] w fun e w'=>e=.returned (.bool false)∧w'=w:=by
 go_enter Tryz.func263,Tryz.ntmps263;go_wp2;go_ret;exact ⟨by simp,rfl⟩
theorem NJ (a:Option Addr) (n c:Nat) (zs:List Int) (x:Int) (w:World) (hz:n≤zs.length) (hbig:n<4611686018427387904) (hc:∀j,j<n→∃b off,a=some ⟨b,off,none⟩∧w.cell? ⟨b,off+j,none⟩=some (.int .i32 (zs.getD j 0))) (hs:(zs.take n).Pairwise (·≤·)) :
 Calls Tryz.prog 246 #[.slice a n c,.int .i32 x] w fun e w'=>e=.returned (.tuple #[.int .i64 ((zs.take n).countP (·<x):Nat),.bool ((zs.take n).contains x)])∧∃q,w'=w.drewN q:=by
 have S:Aside (∀a b,a≤b→b<n→zs.getD a 0≤zs.getD b 0):=Lib.sorted_at zs n hz hs;clear hs;go_enter Tryz.func246,Tryz.ntmps246;go_wp2
 go_loopg [7,8] n (fun g s7 s8 wr=>∃lo hi q:Nat,s7=.int .i64 lo∧s8=.int .i64 hi∧lo≤hi∧hi≤n∧hi-lo≤g∧wr=w.drewN q∧(∀t,t<lo→zs.getD t 0<x)∧(∀t,hi≤t→t<n→x≤zs.getD t 0))
 case atStart=>exact ⟨0,n,0,rfl,rfl,Nat.zero_le _,Nat.le_refl _,by omega,rfl,fun t ht=>absurd ht (Nat.not_lt_zero _),fun t h1 h2=>by omega⟩
 case round=>
  obtain ⟨lo,hi,q,rfl,rfl,hlh,hin,hg,rfl,h1,h2⟩:=hrel;have I:Aside ((∀t,t<lo→zs.getD t 0<x)∧(∀t,hi≤t→t<n→x≤zs.getD t 0)):=⟨h1,h2⟩;clear h1 h2;by_cases hlt:lo<hi
  ·obtain ⟨b,off,rfl,cm⟩:=hc ((lo+hi) / 2) (by omega);clear hc;generalize hy:zs.getD ((lo+hi) / 2) 0=y at cm;have Y:Aside (zs.getD ((lo+hi) / 2) 0=y):=hy;clear hy;by_cases hyx:y<x
   ·go_wp2_with (first|(go_at_call 120;refine (rH _ _ _).mono ?_;rintro e w' ⟨rfl,rfl⟩)|(go_at_call 263;refine (nH _ _).mono ?_;rintro e w' ⟨rfl,rfl⟩))
    go_roundg (hi-((lo+hi) / 2+1))
    case measure=>omega
    case rel=>
     refine ⟨(lo+hi) / 2+1,hi,_,by rw [show ((lo:Int)+(hi:Int)) / 2+1=(((lo+hi) / 2+1:Nat):Int) by omega],rfl,by omega,hin,Nat.le_refl _,rfl,fun t ht=>?_,I.out.2⟩;have:=S.out t ((lo+hi) / 2) (by omega) (by omega);rw [Y.out] at this;omega
   ·go_wp2_with (first|(go_at_call 120;refine (rH _ _ _).mono ?_;rintro e w' ⟨rfl,rfl⟩)|(go_at_call 263;refine (nH _ _).mono ?_;rintro e w' ⟨rfl,rfl⟩))
    go_roundg ((lo+hi) / 2-lo)
    case measure=>omega
    case rel=>
     refine ⟨lo,(lo+hi) / 2,_,rfl,by rw [show ((lo:Int)+(hi:Int)) / 2=(((lo+hi) / 2:Nat):Int) by omega],by omega,by omega,Nat.le_refl _,rfl,I.out.1,fun t ht htn=>?_⟩;have:=S.out ((lo+hi) / 2) t ht htn;rw [Y.out] at this;omega
  ·have:hi=lo:=by omega
   subst this;obtain ⟨e1,e2⟩:=Lib.search_end zs n hi x hz hin I.out.1 I.out.2 S.out;have E:Aside ((zs.take n).countP (·<x)=hi∧(zs.take n).contains x=decide (hi<n∧zs.getD hi 0=x)):=⟨e1,e2⟩;clear e1 e2;by_cases hn:hi<n
   ·obtain ⟨b,off,rfl,cl⟩:=hc hi (by omega);clear hc;generalize hy:zs.getD hi 0=y at cl;have Y:Aside (zs.getD hi 0=y):=hy;clear hy;by_cases hyx:y=x
    ·go_wp2_with (first|(go_at_call 120;refine (rH _ _ _).mono ?_;rintro e w' ⟨rfl,rfl⟩)|(go_at_call 263;refine (nH _ _).mono ?_;rintro e w' ⟨rfl,rfl⟩));go_ret2;refine ⟨?_,_,rfl⟩;rw [E.out.1,E.out.2,Y.out,decide_eq_true (show hi<n∧y=x from ⟨hn,hyx⟩)]
     first|rfl|simp [*]
    ·go_wp2_with (first|(go_at_call 120;refine (rH _ _ _).mono ?_;rintro e w' ⟨rfl,rfl⟩)|(go_at_call 263;refine (nH _ _).mono ?_;rintro e w' ⟨rfl,rfl⟩));go_ret2;refine ⟨?_,_,rfl⟩;rw [E.out.1,E.out.2,Y.out,decide_eq_false (show ¬(hi<n∧y=x) from fun h=>hyx h.2)]
     first|rfl|simp [*]
   ·clear hc;go_wp2_with (first|(go_at_call 120;refine (rH _ _ _).mono ?_;rintro e w' ⟨rfl,rfl⟩)|(go_at_call 263;refine (nH _ _).mono ?_;rintro e w' ⟨rfl,rfl⟩));go_ret2;refine ⟨?_,_,rfl⟩;rw [E.out.1,E.out.2,decide_eq_false (show ¬(hi<n∧zs.getD hi 0=x) from fun h=>hn h.1)]
    first|rfl|simp [*]
theorem EH {w:World} {v:Value} (l:List Nat) (c:Nat) (hv:bD w v (aN l)) (hl:l.length<1000000) (hs:l.Pairwise (· < ·)) :
 Calls Tryz.prog 246 #[v,.int .i32 c] w fun e w'=>e=.returned (.tuple #[.int .i64 (l.countP (·<c):Nat),.bool (l.contains c)])∧Below w.heap.size w w':=by
 obtain ⟨a,cap,rfl,_,hx⟩:=hv.out;rw [bO] at *
 have h:=NJ a l.length cap (l.map fun d:Nat=>(d:Int)) (c:Int) w (by simp) (by omega) (fun j hj=>by
  obtain ⟨b,off,h1,_,h3⟩:=hx j (by simpa using hj);refine ⟨b,off,h1,h3.trans ?_⟩;rw [fB _ _ hj,List.getD_eq_getElem?_getD,List.getElem?_map,List.getElem?_eq_getElem hj];rfl) (by
  rw [List.take_of_length_le (by simp),List.pairwise_map]
  exact hs.imp fun h=>by omega)
 rw [List.take_of_length_le (by simp)] at h;refine h.mono ?_;rintro e w' ⟨rfl,q,rfl⟩;refine ⟨?_,⟨rfl,rfl,rfl,Nat.le_refl _,fun _ _=>rfl⟩⟩;have e1:(l.map fun d:Nat=>(d:Int)).countP (fun y=>decide (y<(c:Int)))=l.countP fun y=>decide (y<c):=by
  rw [List.countP_map];congr 1;funext y;simp
 have e2:(l.map fun d:Nat=>(d:Int)).contains (c:Int)=l.contains c:=by
  rw [Bool.eq_iff_iff];simp only [List.contains_iff_mem,List.mem_map];constructor
  ·rintro ⟨a,ha,e⟩;obtain rfl:a=c:=by omega
   exact ha
  ·intro h;exact ⟨c,h,rfl⟩
 rw [e1,e2]
theorem KU {l:List Nat} (hs:l.Pairwise (· < ·)) (c:Nat):places l c=(l.countP fun y=>decide (y<c))+if l.contains c=true then 1 else 0:=by
 unfold places
 induction l with
 | nil=>rfl
 | cons a l ih=>
   obtain ⟨h1,h2⟩:=List.pairwise_cons.1 hs;rw [List.countP_cons,List.countP_cons,ih h2,List.contains_cons];rcases Nat.lt_trichotomy a c with h|h|h
   ·have e1:(c==a)=false:=by simp;omega
    have d1:decide (a<c)=true:=decide_eq_true h;have d2:decide (a≤c)=true:=decide_eq_true (by omega);simp only [e1,Bool.false_or,d1,d2,if_true];omega
   ·subst h;have e2:l.contains a=false:=by
     rw [Bool.eq_false_iff];intro h;have:=h1 a (by simpa using h);omega
    rw [e2];simp
   ·have e1:(c==a)=false:=by simp;omega
    have d1:decide (a<c)=false:=decide_eq_false (by omega);have d2:decide (a≤c)=false:=decide_eq_false (by omega);simp only [e1,Bool.false_or,d1,d2];simp
theorem Ia {w:World} {v:Value} (l:List Nat) (c:Nat) (hv:bD w v (aN l)) (hl:l.length<1000000) (hs:l.Pairwise (· < ·)) :
 Calls Tryz.prog 220 #[.agg #[v],.int .i32 c] w fun e w'=>e=.returned (.int .i64 (places l c))∧Below w.heap.size w w':=by
 have hb:=ai (w:=w) (.cells #[v] 125);have k0:=Is.new w #[v] 125;have BS:=ae (EH l c (hv.mono hb) hl hs);have e0:=k0.at 0 rfl;have HP:=ae (KU hs c);obtain ⟨a,cap,rfl,_,_⟩:=hv.out;rw [bO] at *;have hcl:(l.countP fun y=>decide (y<c))≤l.length:=List.countP_le_length;generalize (l.countP fun y=>decide (y<c))=k at *;generalize l.length=n at *;clear hv hs;go_enter Tryz.func220,Tryz.ntmps220;cases hk:l.contains c with
 | true=>
   rw [hk] at BS HP;clear hk;go_wp2_with (go_at_call 246;refine BS.out.mono ?_;rintro e w2 ⟨rfl,hB⟩);go_ret;rw [HP.out];exact ⟨by simp,hb.trans (hB.mono hb.size)⟩
 | false=>
   rw [hk] at BS HP;clear hk;go_wp2_with (go_at_call 246;refine BS.out.mono ?_;rintro e w2 ⟨rfl,hB⟩);go_ret;rw [HP.out];exact ⟨by simp,hb.trans (hB.mono hb.size)⟩
theorem KV (n:Nat):bits .and .i64 (n:Int) 1=((n % 2:Nat):Int):=by
 have h1:(BitVec.ofInt 64 1).toNat=2 ^ 1-1:=by decide
 have key:(BitVec.ofInt 64 n &&& BitVec.ofInt 64 1).toNat=((n:Int) % ((2 ^ 64:Nat):Int)).toNat % 2 ^ 1:=by
  rw [BitVec.toNat_and,BitVec.toNat_ofInt,h1,Nat.and_two_pow_sub_one_eq_mod]
 show IntKind.i64.wrap ((BitVec.ofInt 64 n &&& BitVec.ofInt 64 1).toNat:Nat)=_;rw [key,IntKind.wrap_i64];omega
theorem NK {w:World} {v:Value} (l:List Nat) (c:Nat) (hv:bD w v (aN l)) (hl:l.length<1000000) (hs:l.Pairwise (· < ·)) :
 Calls Tryz.prog 198 #[.agg #[v],.int .i32 c] w fun e w'=>e=.returned (.bool (decide (places l c % 2=1)))∧Below w.heap.size w w':=by
 have hb:=ai (w:=w) (.cells #[v] 125);have k0:=Is.new w #[v] 125;have PL:=ae (Ia l c (hv.mono hb) hl hs);have e0:=k0.at 0 rfl;have hle:places l c≤l.length:=List.countP_le_length;obtain ⟨a,cap,rfl,_,_⟩:=hv.out;rw [bO] at *;generalize places l c=k at *;generalize l.length=n at *;clear hv hs;go_enter Tryz.func198,Tryz.ntmps198;go_wp2_with (go_at_call 220;refine PL.out.mono ?_;rintro e w2 ⟨rfl,hB⟩);go_ret;refine ⟨?_,hb.trans (hB.mono hb.size)⟩;show Ending.returned (Value.bool (bits BinOp.and IntKind.i64 (k:Int) 1==1))=_;rw [KV];congr 2;rw [Bool.eq_iff_iff];simp;omega
end Go.Proofs.YtjidohgiigjifaaGreatDoor
namespace Go.Proofs.YtjidohgiigjifaaGreatDoor
open Go.RowKit Go.Cd
theorem NM {P:Program} {W:World} {ops:Array Oper} {rest:List Oper} {o:Oper} {a:Act} {Q:Exit→Act→World→Prop} (hgd:o.guard=none) (s x:Operand) (t:TypeId)
 (ho:o.op=.call { callee:=.builtin .append,args:=#[s,x],argTypes:=#[t,t] })
 (base:Nat) (e:TypeId) (z:Value) (bytes:Nat) (hE:Elem P t e z bytes)
 (v:Value) (n:Nat) (xs:List Value) (hs:a.eval s=v) (hown:W.ownsRow base e 1 v n xs)
 (u u2:Value) (hx:a.eval x=.slice (some ⟨W.heap.size,0,none⟩) 2 2) (h1:u.oneCell'=true) (h2:u2.oneCell'=true)
 (hbytes:(n+2)*bytes≤140737488355328) (h63:n+2≤maxLen) (w0:World) (hb:Below base w0 W) (hbase:base≤w0.heap.size)
 (h:∀v' w',w'.ownsRow base e 1 v' (n+2) (xs++[u,u2])→Below base w0 w'→wpList P ops Q rest (a.put o.dst v') w'):wpList P ops Q (o::rest) a (W.alloc (.cells #[u,u2] e)):=by
 have hsz:=hb.size;refine bG hgd s x t ho base e z bytes hE v n xs hs (hown.alloc _) _ [u,u2] hx (lY W #[u,u2] e) (by simp [h1,h2]) (by simpa using h63) (by simpa using hbytes) (by simp;omega) ?_;intro v' w' h2 h3;refine h v' w' (by simpa using h2) ((hb.alloc (by omega) _).grown h3 (by simp;omega) ?_);intro k hk;exact (hown.lt k hk).1
theorem Ib {w:World} (a:Option Addr) (cap:Nat) :
 Calls Tryz.prog 140 #[.slice a 0 cap] w fun e w'=>e=.returned (.slice a 0 cap)∧w'=w:=by
 go_enter Tryz.func140,Tryz.ntmps140;go_wp2;go_ret;exact ⟨rfl,rfl⟩
theorem Ci {w:World} {base:Nat} {v:Value} (l:List Nat) (ho:w.ownsRow base aM 1 v l.length (aN l)) (hl:l.length<1000000) :
 Calls Tryz.prog 140 #[v] w fun e w'=>∃r,e=.returned r∧w'.ownsRow base aM 1 r (AL l).length (aN (AL l))∧w.grownBy w' v.ownBlock:=by
 by_cases h0:l=[]
 ·subst h0;obtain ⟨a,cap,rfl,_,_⟩:=az ho;refine (Ib a cap).mono ?_;rintro e w' ⟨he,rfl⟩;exact ⟨_,he,ho,⟨rfl,rfl,rfl,Nat.le_refl _,fun _ _ _=>rfl⟩⟩
 ·exact EG l ho hl h0
theorem last_at {O:List Nat} {c:Nat} (h:0<O.length):O.getLast? = some c↔O[O.length-1]=c:=by
 rw [List.getLast?_eq_getElem?,List.getElem?_eq_getElem (by omega)];simp
theorem NN {O:List Nat} {c:Nat} (h:0<O.length) (hl:O[O.length-1]=c):jH O c=O.set (O.length-1) (c+1):=by
 have h1:=(last_at h).2 hl;unfold jH;rw [if_pos h1];obtain ⟨p,rfl⟩:=List.getLast?_eq_some_iff.1 h1;rw [List.dropLast_concat,List.length_append,List.length_singleton,Nat.add_sub_cancel,List.set_append_right _ _ (Nat.le_refl _)];simp
theorem qp {w:World} {v:Value} (l:List Nat) (hv:Sl aM w v (aN l)) (hp:fH v) (hc:∀c∈l,aX c) (hl:l.length<100000) :
 Calls Tryz.prog 98 #[v] w fun e w'=>∃r,e=.returned (.agg #[r])∧w'.ownsRow w.heap.size aM 1 r (lJ (gQ l)).length (aN (lJ (gQ l)))∧Below w.heap.size w w':=by
 have hb:=ai (w:=w) (.cells #[.slice none 0 0] 125);obtain ⟨w0,hw0⟩:=af (w.alloc (.cells #[.slice none 0 0] 125));have k0:Is w0 w.heap.size #[.slice none 0 0] 125:=by rw [hw0];exact Is.new _ _ _
 have hz0:w0.heap.size=w.heap.size+1:=by rw [hw0];simp
 rw [←hw0] at hb;have CL:=ae (lQ l (hv.mono hb) hp (by omega));have Rt:=ae (show ∀c∈gQ l,aX c from fun c h=>hc c (((nA l).2 c).1 h));have hol:=AO l;obtain ⟨pa,pn,pc,rfl,_⟩:=id hp;clear hp hv hc;go_enter Tryz.func98,Tryz.ntmps98;go_wp2_with fail;rw [←hw0];clear hw0;refine CL.out.mono ?_;rintro e w1 ⟨r1,rfl,o1,hB1⟩;have ST:=ae (rG l o1 (by omega));have hE1:=hB1;obtain ⟨a1,c1,rfl,_,_⟩:=az o1;clear CL;go_wp2_with fail;refine ST.out.mono ?_;rintro e w2 ⟨rfl,o2,hg2⟩;have hB2:Below w0.heap.size w0 w2:=hE1.grown hg2 hE1.size fun k hk=>(o1.lt k hk).1;rw [←fD l] at o2;have CO:=ae (Ci (dD l) o2 (by rw [fD];omega));rw [fD] at CO o2;clear ST o1 hE1 hB1 hg2;go_wp2_with fail;refine CO.out.mono ?_;rintro e w3 ⟨r3,rfl,o3,hg3⟩;have hB3:Below w0.heap.size w0 w3:=hB2.grown hg3 hB2.size fun k hk=>(o2.lt k hk).1;rw [show AL (dD l)=gQ l from rfl] at o3;clear CO o2 hB2 hg3;have s3:=(Sl.aT o3).any;obtain ⟨S,hSS⟩:=af (gQ l);rw [←hSS] at o3 hol Rt s3;have HSS:=ae hSS;clear hSS;obtain ⟨n,hn⟩:=af S.length;obtain ⟨a3,c3,rfl,_,hx⟩:=bD.lD s3 hn;rw [←hn] at o3 hol;have HX:=ae hx;have HN:=ae hn;have HS2:=ae (fun j=>Em (S.take j));unfold lJ at HS2;have k3:Is w3 w.heap.size #[.slice none 0 0] 125:=⟨(hB3.block w.heap.size (by omega)).trans k0.at_⟩;have hz3:w.heap.size+1≤w3.heap.size:=by have:=hB3.size;omega
 have hBw:=hb.trans (hB3.mono hb.size);clear hB3 hb hx hn s3 k0;go_wp2_with fail;go_loopw [4,15] (fun ov iv wr=>∃j:Nat,j≤n∧iv=.int .i64 j∧wr.ownsRow w3.heap.size aM 1 ov ((S.take j).foldl jH []).length (aN ((S.take j).foldl jH []))∧Below w3.heap.size w3 wr) (fun _ iv _=>n-(intOf iv).toNat)
 case atStart=>exact ⟨0,Nat.zero_le _,rfl,World.ownsRow_nil _ _ _ _,Below.refl _ _⟩
 case round=>
  obtain ⟨j,hj,rfl,ho,hE⟩:=hrel;by_cases hjn:j<n
  ·have zj:decide ((j:Int)<(n:Int))=true:=by simp;omega
   have hjl:j<S.length:=by have:=HN.out;omega
   obtain ⟨b,off,rfl,_,hcl⟩:=HX.out j hjl;have hcl:=aA hE hcl;have hch:=Rt.out _ (List.getElem_mem hjl);have HT:=ae (show (S.take (j+1)).foldl jH []=jH ((S.take j).foldl jH []) S[j] by rw [List.take_succ_eq_append_getElem hjl,List.foldl_append];rfl);have Ye:=HS2.out j;rw [List.length_take,Nat.min_eq_left (by omega)] at Ye;generalize S[j]=c at *;generalize (S.take j).foldl jH []=O at *;have hcd:=hch.1
   have UI:=ae (show ∀W,Calls Tryz.prog 81 #[.int .i32 c] W fun e w'=>e=.returned (.bool true)∧w'=W from fun W=>by
    have:=jF (w:=W) c (by omega)
    rwa [decide_eq_true hch] at this)
   obtain ⟨m,hm⟩:=af O.length;rw [←hm] at ho Ye;clear hch;by_cases h0:m=0
   ·have hO:O=[]:=List.length_eq_zero_iff.1 (by omega);subst hO;subst h0;obtain ⟨av,cv,rfl,_,_⟩:=az ho;clear hm
    go_wp2_with (first
     | (go_at_call 81;refine (UI.out _).mono ?_;rintro e w5 ⟨rfl,rfl⟩)
     | (at_builtin;refine NM rfl _ _ 39 rfl w3.heap.size aM _ 4 bS (.slice av 0 cv) 0 _ rfl ho (.int .i32 (c:Nat)) (.int .i32 ((c+1:Nat):Int)) rfl rfl rfl (by omega) (by unfold maxLen;omega) _ (Below.refl _ _) hE.size ?_;intro v1 w6 o6 kZ;obtain ⟨a6,c6,rfl,_,_⟩:=az o6))
    go_roundw
    case rel=>
     refine ⟨j+1,by omega,by simp,?_,hE.trans kZ⟩;rw [HT.out];exact o6
    case measure=>simp [intOf];omega
   ·obtain ⟨k,rfl⟩:∃k,m=k+1:=⟨m-1,by omega⟩;have hz:decide ((0:Int)<((k+1:Nat):Int))=true:=by simp
    obtain ⟨g,cv,rfl⟩:=ownsRow_succ ho;have hkO:k<O.length:=by omega
    obtain ⟨ck,fk⟩:=gJ ho (j:=k) (by simpa using hkO);rw [fB _ _ hkO] at ck;have hd:=(ho.lt g rfl).1;have HAS:=ae (fun (h:O[k]=c)=>NN (O:=O) (c:=c) (by omega) (by simpa [←hm] using h))
    have HAN:=ae (show O[k]≠c→jH O c=O++[c,c+1] from fun h=>by
     unfold jH;rw [if_neg];intro h1;have h2:=(last_at (by omega)).1 h1;simp only [←hm,Nat.add_sub_cancel] at h2
     exact h h2)
    have HM:=ae hm;by_cases hq:O[k]=c
    ·have zq:((O[k]:Int)==(c:Int))=true:=by simp;omega
     generalize O[k]=q at *;obtain ⟨o6,G7⟩:=ho.stored k (.int .i32 ((c+1:Nat):Int));have HO6:=ae o6;have HG6:=ae G7;clear hm o6 G7 ho hkO;go_wp2_with (go_at_call 81;refine (UI.out _).mono ?_;rintro e w5 ⟨rfl,rfl⟩);go_roundw
     case rel=>
      refine ⟨j+1,by omega,by simp,?_,hE.trans (aj (Below.refl _ _) hd)⟩;rw [HT.out,HAS.out hq,List.length_set,←HM.out,Nat.add_sub_cancel];have:=HO6.out;simpa [aN,List.map_set] using this
     case measure=>simp [intOf];omega
    ·have zq:((O[k]:Int)==(c:Int))=false:=by simp;omega
     generalize O[k]=q at *;clear hm hkO
     go_wp2_with (first
      | (go_at_call 81;refine (UI.out _).mono ?_;rintro e w5 ⟨rfl,rfl⟩)
      | (at_builtin;refine NM rfl _ _ 39 rfl w3.heap.size aM _ 4 bS (.slice (some ⟨g,0,none⟩) (k+1) cv) (k+1) _ rfl ho (.int .i32 (c:Nat)) (.int .i32 ((c+1:Nat):Int)) rfl rfl rfl (by omega) (by unfold maxLen;omega) _ (Below.refl _ _) hE.size ?_;intro v1 w6 o6 kZ;obtain ⟨a6,c6,rfl,_,_⟩:=az o6))
     go_roundw
     case rel=>
      refine ⟨j+1,by omega,by simp,?_,hE.trans kZ⟩;rw [HT.out,HAN.out hq,List.length_append,←HM.out,bA];exact o6
     case measure=>simp [intOf];omega
  ·have zj:decide ((j:Int)<(n:Int))=false:=by simp;omega
   obtain rfl:j=n:=by omega
   have hT:S.take j=S:=List.take_of_length_le (by have:=HN.out;omega);rw [hT] at ho;rw [show S.foldl jH []=lJ S from rfl] at ho;obtain ⟨av,cv,rfl,_,_⟩:=az ho;have K3:=k3.mono hE;have e0:=K3.at 0 rfl;have f0:=K3.frozen 0;have HOw:=ae ho;clear ho hT;go_wp2
   (try simp only [Exit.inBlock,Exit.then])
   have P:=K3.set 0 (.slice av (lJ S).length cv);have v0:=P.at 0 rfl;refine bodyPost_ret (v:=.agg #[.slice av (lJ S).length cv]) (by simp [results,Tryz.results98,go_sem,v0]) rfl ?_;have hq:=bf HOw.out (Go.Cd.aP HOw.out (k:=w.heap.size) (by omega)) 0 (.slice av (lJ S).length cv);rw [←HSS.out];exact ⟨_,rfl,aW hq (show w.heap.size≤w3.heap.size by omega),aj (hBw.trans (hE.mono (by omega))) (Nat.le_refl _)⟩
end Go.Proofs.YtjidohgiigjifaaGreatDoor
namespace Go.Proofs.YtjidohgiigjifaaGreatDoor
open Go.RowKit Go.Cd Go.Shelf
def rJ (T:List aF):Nat→Int
 | 0=>-1
 | k+1=>match T[k]? with|some r=>(r.code:Int)|none=>-1
theorem qw {T:List aF} {k:Nat} (h:k<T.length):rJ T (k+1)=(T[k].code:Nat):=by
 show (match T[k]? with|some r=>(r.code:Int)|none=>-1)=_;rw [List.getElem?_eq_getElem h]
theorem iy:∀{T:List aF},rising T→∀(i k:Nat) (hi:i<T.length) (hk:k<T.length),i<k→T[i].code<T[k].code
 | r::T,h,0,k+1,_,hk,_=>h.1 _ (List.getElem_mem (by simpa using hk))
 | r::T,h,i+1,k+1,hi,hk,hlt=>iy h.2 i k (by simpa using hi) (by simpa using hk) (by omega)
theorem EJ {T:List aF} (h:rising T) (j:Nat) (hj:j<T.length):rJ T j<(T[j].code:Nat):=by
 cases j with
 | zero=>show (-1:Int)<_;omega
 | succ k=>
   have h1:=iy h k (k+1) (by omega) hj (by omega);rw [qw (by omega)];omega
structure Ic (T:List aF):Prop where
 ok:∀r∈T,xA r
 says:∀r∈T,r.cls≠0∨r.map≠[]
 chr:∀r∈T,aX r.code
 rise:rising T
 len:T.length<40000
end Go.Proofs.YtjidohgiigjifaaGreatDoor
namespace Go.Proofs.YtjidohgiigjifaaGreatDoor
open Go.RowKit Go.Cd
theorem Cj {w:World} {v:Value} (l:List Nat) (c:Nat) (hv:bD w v (aN l)) (hp:fH v) (hl:l.length<1000000) (hc:c∉l) :
 Calls Tryz.prog 164 #[v,.int .i32 c] w fun e w'=>e=.returned (.bool false)∧w'=w:=by
 obtain ⟨a,cap,rfl,_,hx⟩:=bD.lD hv rfl;rcases l with _|⟨x,l⟩
 ·exact AnyE.slices_Contains_empty Tryz.pJ a cap (.int .i32 c) w
 ·obtain ⟨b,off,rfl,_,_⟩:=hx 0 (by simp)
  have h:=AnyE.slices_Contains Tryz.pJ EF (fun x y=>decide (x=y)) (Yd _ _) b off (x::l).length cap (x::l) c w (Nat.le_refl _) (by omega) (fun j hj=>by
   obtain ⟨b',off',h1,_,h3⟩:=hx j hj;cases h1;rw [h3,getElem!_pos (x::l) j hj]
   rfl)
  refine Calls.mono (h:Calls Tryz.prog 164 #[.slice (some ⟨b,off,none⟩) (x::l).length cap,.int .i32 c] w _) ?_;rintro e w' ⟨rfl,rfl⟩;refine ⟨?_,rfl⟩;rw [List.take_length];congr 2;rw [List.any_eq_false];intro y hy;simp only [decide_eq_true_eq];rintro rfl;exact hc hy
theorem EM {w:World} (c:Nat) (hc:aX c) {v:Value} (l:List Nat) (hv:bD w v (aN l)) (hp:fH v) (hl:l.length<1000000) (hn:c∉l) :
 Calls Tryz.prog 129 #[.string (tx (aS c)),v] w fun e w'=>e=.returned (.tuple #[.int .i32 c,.string ⟨#[]⟩])∧w'=w:=by
 have HX:=ae (ng (w:=w) c hc.1);have UI:=ae (jF (w:=w) c (by have:=hc.1;omega));rw [decide_eq_true hc] at UI;have CN:=ae (Cj l c hv hp hl hn);generalize tx (aS c)=s at *;obtain ⟨a,cap,rfl,_,_⟩:=bD.lD hv rfl;clear hv hp hn hc;go_enter Tryz.func129,Tryz.ntmps129
 go_wp2_with (first
  | (go_at_call 163;refine HX.out.mono ?_;rintro e w2 ⟨rfl,rfl⟩)
  | (go_at_call 81;refine UI.out.mono ?_;rintro e w2 ⟨rfl,rfl⟩)
  | (go_at_call 164;refine CN.out.mono ?_;rintro e w2 ⟨rfl,rfl⟩))
 go_ret2;exact ⟨rfl,rfl⟩
theorem oC:∀(l seen:List Nat) (x:Nat),x∈dz seen l↔x∈l∧x∉seen
 | [],seen,x=>by simp [dz]
 | c::l,seen,x=>by
   unfold dz;have ih:=oC l (seen++[c]) x;by_cases h:c∈seen
   ·rw [if_pos h,ih];simp only [List.mem_append,List.mem_cons,List.not_mem_nil,or_false];constructor
    ·rintro ⟨h1,h2⟩;exact ⟨.inr h1,fun h3=>h2 (.inl h3)⟩
    ·rintro ⟨h1|h1,h2⟩
     ·subst h1;exact absurd h h2
     ·exact ⟨h1,fun h3=>h3.elim h2 (fun e=>by subst e;exact h2 h)⟩
   ·rw [if_neg h,List.mem_cons,ih];simp only [List.mem_append,List.mem_cons,List.not_mem_nil,or_false];constructor
    ·rintro (h1|⟨h1,h2⟩)
     ·subst h1;exact ⟨.inl rfl,h⟩
     ·exact ⟨.inr h1,fun h3=>h2 (.inl h3)⟩
    ·rintro ⟨h1|h1,h2⟩
     ·exact .inl h1
     ·by_cases e:x=c
      ·exact .inl e
      ·exact .inr ⟨h1,fun h3=>h3.elim h2 e⟩
theorem nI:∀(l seen:List Nat),(dz seen l).Nodup
 | [],seen=>by simp [dz]
 | c::l,seen=>by
   unfold dz;by_cases h:c∈seen
   ·rw [if_pos h];exact nI l _
   ·rw [if_neg h,List.nodup_cons];exact ⟨fun h1=>by have:=((oC l (seen++[c]) c).1 h1).2;simp at this,nI l _⟩
theorem t_:∀(l seen:List Nat),(dz seen l).length≤l.length
 | [],seen=>by simp [dz]
 | c::l,seen=>by
   unfold dz;have:=t_ l (seen++[c]);by_cases h:c∈seen
   ·rw [if_pos h,List.length_cons];omega
   ·rw [if_neg h,List.length_cons,List.length_cons];omega
def ji (X:List Nat):List Nat:=lJ (gQ (dz [] X))
theorem KW (X:List Nat) (c:Nat):places (ji X) c % 2=1↔c∈X:=by
 unfold ji;rw [Ny (nA _).1,(nA _).2,oC];simp
theorem Ie (X:List Nat):(ji X).Pairwise (· < ·):=KO (nA _).1
theorem KY (X:List Nat):(ji X).length≤2*X.length:=by
 have h1:=Em (gQ (dz [] X));have h2:=AO (dz [] X);have h3:=t_ X [];unfold ji;omega
theorem Ck {w:World} (hG:bZ w) {X:List Nat} (hX:∀c∈X,aX c) (hlen:X.length<10000) :
 Calls Tryz.prog 89 #[.string (tx (dS X))] w fun e w'=>∃r:Value,e=.returned (.tuple #[.agg #[r],.nilIface])∧w'.ownsRow w.heap.size aM 1 r (ji X).length (aN (ji X))∧Below w.heap.size w w':=by
 obtain ⟨Y,hY⟩:=af (dz [] X);have hYl:Y.length<10000:=by have:=t_ X [];rw [←hY] at this;omega
 have Cm:∀c∈Y,aX c:=fun c h=>hX c ((oC X [] c).1 (hY▸h)).1;have hYn:Y.Nodup:=by rw [hY];exact nI X []
 have hes:ji X=lJ (gQ Y):=by rw [hY];rfl
 have htx:dS X=bq (Y.map aS):=by rw [hY];rfl
 have hll:(bq (Y.map aS)).length<1000000:=by
  have:∀l:List Nat,(bq (l.map aS)).length≤l.length*7:=fun l=>by
   induction l with
   | nil=>simp [bq]
   | cons c l ih=>
     rw [List.map_cons,kI,List.length_append,List.length_cons,List.length_cons];have:=(bJ c).2;omega
  have:=this Y;omega
 have LN:=ae (fun W=>pO (w:=W) (Y.map aS) (by
  intro p hp;obtain ⟨c,_,rfl⟩:=List.mem_map.1 hp
  exact ⟨fun b hb=>(dA c b hb).1,Nat.le_trans (bJ c).2 (by decide)⟩) hll)
 rw [hes,htx];obtain ⟨s,hs⟩:=af (tx (bq (Y.map aS)));rw [←hs] at LN ⊢;have G8:=ae Cm;have HYN:=ae hYn;clear hs hY Cm hYn hes htx hll hX hlen;obtain ⟨w0,hw0⟩:=af (w.alloc (.cells #[.slice none 0 0] 125));have hb:Below w.heap.size w w0:=by rw [hw0];exact ai _
 have k0:Is w0 w.heap.size #[.slice none 0 0] 125:=by rw [hw0];exact Is.new _ _ _
 have hz0:w0.heap.size=w.heap.size+1:=by rw [hw0];simp
 obtain ⟨n,hn⟩:=af Y.length;have HN:=ae hn;have hn2:(Y.map aS).length=n:=by rw [List.length_map,hn]
 rw [←hn] at hYl;clear hn;go_enter Tryz.func89,Tryz.ntmps89;go_wp2_with fail;rw [←hw0];clear hw0;refine (LN.out w0).mono ?_;rintro e w1 ⟨v1,rfl,o1,hB1⟩;rw [hn2] at o1;obtain ⟨a1,c1,rfl,_,_⟩:=az o1
 have HX:=ae (show ∀i (hi:i<Y.length),∃b off,a1=some ⟨b,off,none⟩∧b<w1.heap.size∧w1.cell? ⟨b,off+i,none⟩=some (.string (tx (aS Y[i]))) from fun i hi=>by
  obtain ⟨a',cap',h0,_,hx⟩:=(Sl.aT o1).out;have ha:a'=a1:=by injection h0 with e1;exact e1.symm
  subst ha;obtain ⟨b,off,h1,h2,h3⟩:=hx i (by simpa using hi);refine ⟨b,off,h1,h2,h3.trans ?_⟩
  simp [nD])
 have k1:=k0.mono hB1;have hBw:=ag hb hB1;have hz1:w.heap.size+1≤w1.heap.size:=by have:=hB1.size;omega
 clear LN o1 hn2 k0 hb hB1;go_wp2_with fail;go_loopw [6,22] (fun ov iv wr=>∃j:Nat,j≤n∧iv=.int .i64 j∧wr.ownsRow w1.heap.size aM 1 ov j (aN (Y.take j))∧Below w1.heap.size w1 wr) (fun _ iv _=>n-(intOf iv).toNat)
 case atStart=>exact ⟨0,Nat.zero_le _,rfl,World.ownsRow_nil _ _ _ _,Below.refl _ _⟩
 case round=>
  obtain ⟨j,hj,rfl,ho,hE⟩:=hrel;by_cases hjn:j<n
  ·have zj:decide ((j:Int)<(n:Int))=true:=by simp;omega
   have hjl:j<Y.length:=by have:=HN.out;omega
   obtain ⟨b,off,rfl,_,hcl⟩:=HX.out j hjl;have hcl:=aA hE hcl;have hch:=G8.out _ (List.getElem_mem hjl);have HT:=ae (show Y.take (j+1)=Y.take j++[Y[j]] from List.take_succ_eq_append_getElem hjl);have hnm:Y[j]∉Y.take j:=fun h=>by
    obtain ⟨i,hi,e⟩:=List.mem_iff_getElem.1 h;rw [List.getElem_take] at e;rw [List.length_take] at hi;exact List.pairwise_iff_getElem.1 HYN.out i j (by omega) hjl (by omega) e
   have ST:=ae (zB ((hG.mono hBw).mono hE) Y[j]);have EC:=ae (fun (W:World) (v:Value) (h:W.ownsRow w1.heap.size aM 1 v j (aN (Y.take j)))=>EM (w:=W) Y[j] hch (Y.take j) (Sl.aT h).any (fH.aT h) (by rw [List.length_take];omega) hnm);obtain ⟨h1,h2⟩:=bJ Y[j];have z1:(tx (aS Y[j])).toList.isEmpty=false:=by
    rw [Lib.toList_data,df];cases e:aS Y[j] with
    | nil=>rw [e] at h1;simp at h1
    | cons x r=>rfl
   have z2:(⟨#[]⟩:ByteArray).toList.isEmpty=true:=by rw [Lib.toList_data];rfl
   generalize Y[j]=c at *;generalize tx (aS c)=sc at *;clear hnm hch;obtain ⟨av,cv,rfl,_,_⟩:=az ho;go_wp2_with fail;refine ST.out.mono ?_;rintro e w2 ⟨rfl,hB2⟩;have ho2:=aG ho hB2;have hE2:=ag hE hB2;have EC2:=ae (EC.out w2 _ ho2);clear ST EC ho
   go_wp2_with (first
    | (go_at_call 129;refine EC2.out.mono ?_;rintro e w3 ⟨rfl,rfl⟩)
    | (at_builtin;refine pg rfl _ _ 39 rfl w1.heap.size aM _ 4 bS (.slice av j cv) j _ rfl ho2 (.int .i32 (c:Nat)) rfl rfl (by omega) (by unfold maxLen;omega) _ (Below.refl _ _) hE2.size ?_;intro v1 w6 o6 kZ _ _;obtain ⟨a6,c6,rfl,_,_⟩:=az o6))
   go_roundw
   case rel=>
    refine ⟨j+1,by omega,by simp,?_,hE2.trans kZ⟩;rw [HT.out,bA];exact o6
   case measure=>simp [intOf];omega
  ·have zj:decide ((j:Int)<(n:Int))=false:=by simp;omega
   obtain rfl:j=n:=by omega
   rw [List.take_of_length_le (by have:=HN.out;omega)] at ho;obtain ⟨av,cv,rfl,_,_⟩:=az ho;have hBr:=hBw.trans (hE.mono hBw.size);have hsl:=Sl.aT ho;have hpv:=fH.aT ho;rw [HN.out] at hsl hpv;have CH:=ae (qp Y hsl hpv G8.out (by have:=HN.out;omega));rw [←HN.out] at CH;have K1:=k1.mono hE;clear ho hsl hpv;go_wp2_with fail;refine CH.out.mono ?_;rintro e w3 ⟨r3,rfl,o3,hB3⟩;have K3:=K1.mono hB3;obtain ⟨a3,c3,rfl,_,_⟩:=az o3;have e0:=K3.at 0 rfl;have f0:=K3.frozen 0;have hss:=hE.size;have HO3:=ae o3;clear o3;go_wp2
   (try simp only [Exit.inBlock,Exit.then])
   have P:=K3.set 0 (.slice a3 (lJ (gQ Y)).length c3);have v0:=P.at 0 rfl;refine bodyPost_ret (v:=.tuple #[.agg #[.slice a3 (lJ (gQ Y)).length c3],.nilIface]) (by simp [results,Tryz.results89,go_sem,v0]) rfl ?_;have hq:=bf HO3.out (Go.Cd.aP HO3.out (k:=w.heap.size) (by omega)) 0 (.slice a3 (lJ (gQ Y)).length c3);exact ⟨_,rfl,aW hq (show w.heap.size≤wr.heap.size by omega),aj (hBr.trans (hB3.mono hBr.size)) (Nat.le_refl _)⟩
end Go.Proofs.YtjidohgiigjifaaGreatDoor
