/- TraceParts and TraceWalks: a machine takes a character as those of its full decomposition, one by one; texts that are alike go through it, and of others none; no condition. -/
import Derived.Test.YtjidohgiigjifaaGreatDoorR16
import Derived.Laws.BitsAllLaws
set_option maxRecDepth 100000
set_option maxHeartbeats 6400000
namespace Go.Proofs.YtjidohgiigjifaaGreatDoor
open Go.RowKit Go.Cd
theorem Tj (b off len cap:Nat) (i:Nat) (z:Int) (w:World) (hi:i<len)
 (hb:b<w.heap.size) (hc:w.cell? ⟨b,off+i,none⟩=some (.int .u32 z)) (hz:0≤z) (hz2:z<4294967296) :
 Calls Tryz.prog 72 #[.agg #[.slice (some ⟨b,off,none⟩) len cap],.int .i64 i] w fun e w'=>e=.returned (.int .u64 z)∧Below w.heap.size w w':=by
 go_enter Tryz.func72,Tryz.ntmps72;go_wp2;go_ret;exact ⟨rfl,(Below.refl _ _).alloc (Nat.le_refl _) _⟩
theorem Py (a:Option Addr) (len cap:Nat) (i:Nat) (w:World) (hi:¬i<len) :
 Calls Tryz.prog 72 #[.agg #[.slice a len cap],.int .i64 i] w fun e w'=>e=.returned (.int .u64 0)∧Below w.heap.size w w':=by
 go_enter Tryz.func72,Tryz.ntmps72;go_wp2;go_ret;exact ⟨rfl,(Below.refl _ _).alloc (Nat.le_refl _) _⟩
theorem wM {w:World} {v:Value} {x:Nat} (h:dJ w v x) (i:Nat) :
 Calls Tryz.prog 72 #[v,.int .i64 i] w fun e w'=>e=.returned (.int .u64 (iG B x i:Nat))∧Below w.heap.size w w':=by
 obtain ⟨s,rfl,hs⟩:=h;obtain ⟨a,cap,rfl,hc,hx⟩:=hs.out;rw [bR] at *;by_cases hi:i<(aV B x).length
 ·obtain ⟨b,off,rfl,hb,hcell⟩:=hx i (by simpa using hi);have e:(fG (aV B x))[i]'(by simpa using hi)=.int .u32 (iG B x i:Nat):=by
   have:=tL bC x i;rw [List.getElem?_eq_getElem hi] at this;simp only [Option.getD_some] at this;simp [fG,this]
  rw [e] at hcell;exact Tj b off _ cap i _ w hi hb hcell (by omega) (by have:=qd bC x i;unfold B at this ⊢;omega)
 ·have e:iG B x i=0:=by
   have:=tL bC x i;rw [List.getElem?_eq_none (by omega)] at this;simpa using this.symm
  rw [e];exact Py a _ cap i w hi
theorem Je (b off len cap:Nat) (l:List Nat) (w:World) (hlen:l.length=len) (hmax:len<1099511627776) (hb:b<w.heap.size) (hcap:len≤cap)
 (hc:∀i (hi:i<l.length),w.cell? ⟨b,off+i,none⟩=some (.int .u32 (l[i]:Nat))) :
 Calls Tryz.prog 64 #[.slice (some ⟨b,off,none⟩) len cap] w fun e w'=>∃n:Nat,n≤len∧(∀j (_:n≤j) (hj:j<l.length),l[j]=0)∧(n=0∨l[n-1]?≠some 0)∧
  e=.returned (.agg #[.slice (some ⟨b,off,none⟩) n n])∧Below w.heap.size w w':=by
 have HL:=ae hlen;clear hlen;go_enter Tryz.func64,Tryz.ntmps64;go_wp2;go_loop [3] (fun n=>∃k:Nat,k≤len∧n=.int .i64 k∧(∀j (_:k≤j) (hj:j<l.length),l[j]=0)) (fun n=>(intOf n).toNat)
 case atStart=>exact ⟨len,Nat.le_refl _,rfl,fun j h1 h2=>by have:=HL.out;omega⟩
 case round=>
  obtain ⟨k,hk,rfl,hz⟩:=hrel;have HZ:=ae hz;clear hz;by_cases hk0:0<k
  ·obtain ⟨z,hzv⟩:∃z,l[k-1]? = some z:=⟨_,List.getElem?_eq_getElem (by have:=HL.out;omega)⟩;have hcell:w.cell? ⟨b,off+(k-1),none⟩=some (.int .u32 (z:Nat)):=by
    obtain ⟨h1,h2⟩:=List.getElem?_eq_some_iff.1 hzv;rw [hc _ h1,h2]
   have HV:=ae hzv;clear hzv hc;by_cases h0:z=0
   ·subst h0;go_wp2;go_round
    case rel=>exact ⟨k-1,by omega,by go_num,fun j h1 h2=>by
     by_cases hj:j=k-1
     ·subst hj;have:=HV.out;rw [List.getElem?_eq_getElem h2] at this;simpa using this
     ·exact HZ.out j (by omega) h2⟩
    case measure=>simp [intOf];omega
   ·have hz1:((z:Int)==0)=false:=by simpa using h0
    go_wp2;exact bodyPost_ret (v:=.agg #[.slice (some ⟨b,off,none⟩) k k]) (by simp [results,Tryz.results64,go_sem]) rfl ⟨k,hk,HZ.out,.inr (by rw [HV.out];simpa using h0),rfl,ai _⟩
  ·go_wp2;exact bodyPost_ret (v:=.agg #[.slice (some ⟨b,off,none⟩) k k]) (by simp [results,Tryz.results64,go_sem]) rfl ⟨k,hk,HZ.out,.inl (by omega),rfl,ai _⟩
theorem Mj (a:Option Addr) (cap:Nat) (w:World) :
 Calls Tryz.prog 64 #[.slice a 0 cap] w fun e w'=>e=.returned (.agg #[.slice a 0 0])∧Below w.heap.size w w':=by
 go_enter Tryz.func64,Tryz.ntmps64;go_wp2;refine wp_loop_rounds 1 ?_;rw [rounds_succ];go_wp2;exact bodyPost_ret (v:=.agg #[.slice a 0 0]) (by simp [results,Tryz.results64,go_sem]) rfl ⟨rfl,ai _⟩
theorem dO (l:List Nat) (i:Nat) (h:i<l.length):(fG l)[i]'(by simpa using h)=.int .u32 (l[i]:Nat):=by simp [fG]
theorem Dh {w:World} {v:Value} {l:List Nat} (h:Sl lC w v (fG l)) (hl:∀d∈l,d<B) (hmax:l.length<1099511627776) :
 Calls Tryz.prog 64 #[v] w fun e w'=>∃r,e=.returned r∧dJ w' r (val B l)∧Below w.heap.size w w':=by
 obtain ⟨a,cap,rfl,hc,hr⟩:=h;rw [bR] at *;rcases hr with ⟨hr,ha⟩|⟨b,off,cs,fr,rfl,hh,hx⟩
 ·obtain rfl:l=[]:=by simpa [fG] using hr
  refine (Mj a cap w).mono ?_;rintro e w' ⟨rfl,hb⟩;exact ⟨_,rfl,⟨_,rfl,by rw [show val B []=0 from rfl,bV];exact .nil _ _ _ _ (fun _=>rfl)⟩,hb⟩
 ·refine (Je b off l.length cap l w rfl hmax (block_lt hh) hc fun i hi=>?_).mono ?_
  ·unfold World.cell?;rw [hh];have:=hx i (by simpa using hi);rw [dO _ _ hi] at this;simpa using this
  ·rintro e w' ⟨n,hn,hz,h0,rfl,hb⟩
   have e1:aV B (val B l)=l.take n:=o_ bC l n hl (fun d hd=>by
    obtain ⟨j,hj,rfl⟩:=List.mem_iff_getElem.1 hd;rw [List.getElem_drop]
    exact hz _ (by omega) _) hn h0
   refine ⟨_,rfl,⟨_,rfl,?_⟩,hb⟩;rw [e1];have hlen:(fG (l.take n)).length=n:=by simp;omega
   refine ⟨_,n,by rw [hlen],by rw [hlen];exact Nat.le_refl _,.inr ⟨b,off,cs,fr,rfl,by rw [hb.block b (block_lt hh)];exact hh,fun i hi=>?_⟩⟩;rw [hlen] at hi;rw [hx i (by simp;omega)];simp [fG]
theorem Pz (w:World) (a:Option Addr) (n c:Nat):(Go.binOp .eql 42 (.slice a n c) (.slice none 0 0)).run Tryz.prog w=.ok (.bool a.isNone) w:=
 Lib.run_eql_slice_nil w 42 95 a n c 0 0 Tryz.underlying42
theorem Gf {w:World} {v:Value} {l:List Nat} (h:bD w v (fG l)) (hmax:l.length<1099511627776) :
 Calls Tryz.prog 76 #[v] w fun e w'=>∃r,e=.returned r∧w'.ownsRow w.heap.size lC 1 r l.length (fG l)∧Below w.heap.size w w':=by
 obtain ⟨a,cap,rfl,hc,hr⟩:=id h;have hl:=bR l;rw [hl] at h hc;rw [hl];have hnil:=Pz;cases a with
 | none=>
   have h0:l=[]∧cap=0:=by
    rcases hr with hr|⟨b,off,cs,_,fr,ha,_⟩
    ·exact ⟨by simpa [fG] using hr.1,hr.2 rfl⟩
    ·cases ha
   obtain ⟨rfl,rfl⟩:=h0;clear hr h hl;go_enter Tryz.func76,Tryz.ntmps76;go_wp2;go_ret;exact ⟨_,rfl,World.ownsRow_nil _ _ _ _,Below.refl _ _⟩
 | some ad=>
   have H:=ae h;clear hr h hl;go_enter Tryz.func76,Tryz.ntmps76;go_wp2_with (at_builtin;refine bG rfl _ _ 42 rfl w.heap.size lC _ 4 BR (.slice (some ⟨w.heap.size,0,none⟩) 0 0) 0 [] rfl (il _ _) _ (fG l) rfl (H.out.mono (ai _)) (BQ l) (by rw [bR];unfold maxLen;omega) (by rw [bR];omega) (by simp) ?_;intro v' w' hown' hgrow);rw [bR,Nat.zero_add,List.nil_append] at hown';go_wp2;go_ret;exact ⟨_,rfl,hown',(ai _).grown hgrow (by simp) (fun k hk=>Nat.le_of_eq (Option.some.inj hk))⟩
theorem PD {w:World} {v:Value} {l:List Nat} (h:Sl lC w v (fG l)) (hl:∀d∈l,d<B) (hmax:l.length<1099511627776) :
 Calls Tryz.prog 108 #[v] w fun e w'=>∃r,e=.returned r∧dJ w' r (val B l)∧Below w.heap.size w w':=by
 go_enter Tryz.func108,Tryz.ntmps108;go_wp2_with fail;refine (Gf (h.any.mono (ai _)) hmax).mono ?_;rintro e w1 ⟨r,rfl,hown,hb1⟩;go_wp2_with fail;refine (Dh (Sl.aT hown) hl hmax).mono ?_;rintro e w2 ⟨r2,rfl,hr2,hb2⟩;obtain ⟨a,n,cap,rfl,hN⟩:=hr2.out;have iC:=ag hb1 hb2;have hk:w2.heap[w.heap.size]? = some (.cells #[.slice none 0 0] 44):=(iC.block _ (by simp)).trans (JQ _ _);have hR:=hN.put (o:=0) (u:=.slice a n cap) hk (by decide);have hB:=aj (off:=0) (u:=.slice a n cap) ((ai _).trans (iC.mono (by simp))) (Nat.le_refl _);have hcs:=DT (o:=0) (u:=.slice a n cap) hk (by decide);obtain ⟨hc,hf⟩:=Uj iC;clear hk hown hb1 hb2 iC hN hr2 h;go_wp2;exact bodyPost_ret (v:=.agg #[.slice a n cap]) (by simp [results,Tryz.results108,go_sem,hcs]) rfl ⟨_,rfl,hR,hB⟩
theorem Ke (x:Nat) (hx:x<18446744073709551616) (w:World) :
 Calls Tryz.prog 28 #[.int .u64 x] w fun e w'=>∃r,e=.returned r∧dJ w' r x∧Below w.heap.size w w':=by
 have hdl:∀d∈[x % B,x / B % B],d<B:=by
  intro d hd;simp only [List.mem_cons,List.not_mem_nil,or_false] at hd;rcases hd with rfl|rfl <;> exact Nat.mod_lt _ (by decide)
 have hv:val B [x % B,x / B % B]=x:=by
  simp only [val,B];omega
 have HV:=ae hv;have HD:=ae hdl;clear hv hdl;go_enter Tryz.func28,Tryz.ntmps28;go_wp2_with fail;refine (Dh (l:=[x % B,x / B % B]) ⟨_,2,rfl,Nat.le_refl _,.inr ⟨_,0,_,_,rfl,heap_alloc_new' _ _ _ (by simp),?_⟩⟩ HD.out (by simp)).mono ?_
 ·intro i hi
  match i,hi with
  | 0,_=>simp [fG,B]
  | 1,_=>simp [fG,B];omega
 rintro e w2 ⟨r2,rfl,hr2,hb⟩;rw [HV.out] at hr2;obtain ⟨a,n,cap,rfl,hN⟩:=hr2.out;have hk:w2.heap[w.heap.size]? = some (.cells #[.slice none 0 0] 44):=(hb.block _ (by simp;omega)).trans ((heap_alloc_old _ _ (by simp)).trans (JQ _ _));obtain ⟨hcs,hR⟩:=qX hk (by decide) hN;have hB:=aj (off:=0) (u:=.slice a n cap) ((dF _ _).trans (hb.mono (by simp;omega))) (Nat.le_refl _);obtain ⟨hc,hf⟩:=Uj hb;clear hk hb hN hr2 HV HD;go_wp2;exact bodyPost_ret (v:=.agg #[.slice a n cap]) (by simp [results,Tryz.results28,go_sem,hcs]) rfl ⟨_,rfl,hR,hB⟩
theorem nT {w:World} {v:Value} {x:Nat} (h:dJ w v x) (hmax:(aV B x).length<1099511627776) :
 Calls Tryz.prog 44 #[v] w fun e w'=>∃r,e=.returned r∧w'.ownsRow (w.heap.size+1) lC 1 r (aV B x).length (fG (aV B x))∧Below w.heap.size w w':=by
 obtain ⟨s,rfl,hs⟩:=h;obtain ⟨a,cap,rfl,_⟩:=id hs;rw [bR] at *;have H:=ae hs;clear hs;go_enter Tryz.func44,Tryz.ntmps44;go_wp2_with fail;refine (Gf (H.out.any.mono (ai _)) hmax).mono ?_;rintro e w1 ⟨r,rfl,hown,hb1⟩;go_wp2;go_ret;exact ⟨_,rfl,by simpa using hown,(ai _).trans (hb1.mono (by simp))⟩
theorem Jf {w:World} {v u:Value} {x y:Nat} (h:dJ w v x) (k:dJ w u y) (hx:(aV B x).length<1099511627776) (hy:(aV B y).length<1099511627776) :
 Calls Tryz.prog 42 #[v,u] w fun e w'=>e=.returned (.int .i64 (tN x y))∧Below w.heap.size w w':=by
 obtain ⟨a,n,cap,rfl,h⟩:=h.out;obtain ⟨a2,n2,cap2,rfl,k⟩:=k.out;have hn:=h.len;have hn2:=k.len;rw [←hn] at hx;rw [←hn2] at hy;have HN:=ae hn;have Yi:=ae hn2;have HX:=ae h;have HY:=ae k;have hstart:∀m,n≤m→n2≤m→x / B ^ m=y / B ^ m:=fun m h1 h2=>by
  rw [Nat.div_eq_of_lt ((aR bC).1 (by omega)),Nat.div_eq_of_lt ((aR bC).1 (by omega))]
 have HS:=ae hstart;clear hn hn2 h k hstart;go_enter Tryz.func42,Tryz.ntmps42;go_wp2_with fail
 all_goals
  go_loopw [5] (fun i wr=>∃k:Nat,(k≤n∨k≤n2)∧i=.int .i64 ((k:Int)-1)∧x / B ^ k=y / B ^ k∧Below w.heap.size w wr∧wr.cell? ⟨w.heap.size,0,none⟩=some (.slice a n cap)∧wr.cell? ⟨w.heap.size+1,0,none⟩=some (.slice a2 n2 cap2)∧w.heap.size+1<wr.heap.size)
   (fun i _=>((intOf i)+1).toNat)
  case atStart=>
   first
    | exact ⟨n2,.inr (Nat.le_refl _),rfl,HS.out _ (by omega) (by omega),dF _ _,by go_simp,by go_simp,by simp⟩
    | exact ⟨n,.inl (Nat.le_refl _),rfl,HS.out _ (by omega) (by omega),dF _ _,by go_simp,by go_simp,by simp⟩
    | exact (Nat.le_total n n2).elim (fun hh=>⟨n2,.inr (Nat.le_refl _),by rw [show max (n:Int) (n2:Int)=n2 by omega],HS.out _ (by omega) (by omega),dF _ _,by go_simp,by go_simp,by simp⟩) (fun hh=>⟨n,.inl (Nat.le_refl _),by rw [show max (n:Int) (n2:Int)=n by omega],HS.out _ (by omega) (by omega),dF _ _,by go_simp,by go_simp,by simp⟩)
  case round=>
   obtain ⟨k,hk,rfl,hq,hb,hc1,hc2,hsz⟩:=hrel;have HQ:=ae hq;clear hq;by_cases hk0:0<k
   ·obtain ⟨j,rfl⟩:∃j,k=j+1:=⟨k-1,by omega⟩;have e1:((j+1:Nat):Int)-1=j:=by omega
    rw [e1];clear e1;go_wp2_with fail;have hg1:∀g:Gr wr.drew,g.tw.cell? ⟨w.heap.size,0,none⟩=some (.slice a n cap):=fun g=>(g.ext.cell (p:=⟨w.heap.size,0,none⟩) (by simp;omega)).trans hc1;have hg2:∀g:Gr wr.drew,g.tw.cell? ⟨w.heap.size+1,0,none⟩=some (.slice a2 n2 cap2):=fun g=>(g.ext.cell (p:=⟨w.heap.size+1,0,none⟩) (by simp;omega)).trans hc2;refine aD (Array.replicate 8 true) 8 0 mixed (by rfl) ?_;refine ay [0,1,3,4] 4 rfl (by kernel_rfl) ?_
    repeat (refine aC rfl ?_;go_big_quiet_step (rfl))
    refine ak ?_;refine aL 2 (by kernel_rfl) rfl ?_;go_wp2_with fail;refine (wM (x:=x) (HX.out.mono (ag hb (ah _))) j).mono ?_;rintro e w1 ⟨rfl,hb1⟩;go_wp2_with fail;refine aH hb1 ?_;refine aL 5 (by kernel_rfl) rfl ?_;go_wp2_with fail;refine (wM (x:=y) (HY.out.mono (ag hb (ag (ah _) hb1))) j).mono ?_;rintro e w2 ⟨rfl,hb2⟩;go_wp2_with fail;refine aH hb2 ?_;refine ay [6,7] 0 rfl (by kernel_rfl) ?_
    repeat (refine aC rfl ?_;go_big_quiet_step (rfl))
    refine ak ?_;refine aI [] (by kernel_rfl) ?_;refine tail_nil ?_;have hE:=ag (ah _) (ag hb1 hb2);have hB:=ag hb hE;have hd1:=(hE.cell (p:=⟨w.heap.size,0,none⟩) (by show w.heap.size<wr.heap.size;omega)).trans hc1;have hd2:=(hE.cell (p:=⟨w.heap.size+1,0,none⟩) hsz).trans hc2;have hsz2:=Nat.lt_of_lt_of_le hsz hE.size;clear hg1 hg2 hb1 hb2 hc1 hc2 hb hsz hE;go_wp2
    ·have hl:iG B x j<iG B y j:=by assumption
     go_ret;exact ⟨oo (tO (og HQ.out hl)).symm,hB⟩
    ·have hl:iG B y j<iG B x j:=by assumption
     go_ret;exact ⟨oo (tQ (og HQ.out.symm hl)).symm,hB⟩
    ·have hl:iG B x j=iG B y j:=by omega
     have hq:x / B ^ j=y / B ^ j:=by rw [lq x j,lq y j,HQ.out,hl]
     go_roundw
     case rel=>exact ⟨j,by omega,rfl,hq,hB,hd1,hd2,hsz2⟩
     case measure=>simp [intOf]
   ·obtain rfl:k=0:=by omega
    have hxy:x=y:=by have:=HQ.out;simpa using this
    subst hxy;go_wp2;go_ret;exact ⟨oo (DR _).symm,hb⟩
theorem yM (l:List Nat) (i d:Nat):(fG l).set i (.int .u32 d)=fG (l.set i d):=by simp [fG,List.map_set]
theorem PE (f:Nat→Nat) (i k:Nat):((List.range i).map f++List.replicate (k+1) 0).set i (f i)=(List.range (i+1)).map f++List.replicate k 0:=by
 rw [List.range_succ,List.map_append,List.set_append_right _ _ (by simp)];simp [List.replicate_succ]
theorem VP {w:World} {v u:Value} {x y:Nat} (h:dJ w v x) (k:dJ w u y) (hx:(aV B x).length<549755813888) (hy:(aV B y).length<549755813888) :
 Calls Tryz.prog 39 #[v,u] w fun e w'=>∃r,e=.returned r∧dJ w' r (x+y)∧Below w.heap.size w w':=by
 obtain ⟨a,n,cap,rfl,h⟩:=h.out;obtain ⟨a2,n2,cap2,rfl,k⟩:=k.out;have hn:=h.len;have hn2:=k.len;rw [←hn] at hx;rw [←hn2] at hy;have HX:=ae h;have HY:=ae k;obtain ⟨M,hM,hM1,hM2,hM3⟩:∃M:Nat,(if n<n2 then (n2:Int) else (n:Int))=(M:Int)∧n≤M∧n2≤M∧M≤n+n2:=by
  by_cases hlt:n<n2
  ·exact ⟨n2,by rw [if_pos hlt],by omega,by omega,by omega⟩
  ·exact ⟨n,by rw [if_neg hlt],by omega,by omega,by omega⟩
 have hsum:x+y<B ^ (M+1):=wX bC ((aR bC).1 (by omega)) ((aR bC).1 (by omega));have HS:=ae hsum;clear hn hn2 h k hsum;go_enter Tryz.func39,Tryz.ntmps39;go_wp2_with (at_make;refine dY _ rfl _ _ 42 rfl (w.heap.size+3) lC _ 4 BR rfl .i64 .i64 _ _ (M+1) rfl rfl (by omega) (by omega) (by omega) (by unfold maxLen;omega) (by simp) ?_;intro w1 hown hgrow);have hB1:=eH hgrow;have hc1:w1.cell? ⟨w.heap.size,0,none⟩=some (.slice a n cap):=aA hB1 (by go_simp);have hc2:w1.cell? ⟨w.heap.size+1,0,none⟩=some (.slice a2 n2 cap2):=aA hB1 (by go_simp);have hk3:w1.heap[w.heap.size+1+1]? = some (.cells #[.slice none 0 0] 44):=(hB1.block _ (by simp)).trans (heap_alloc_new' _ _ _ (by simp));have hBw:Below w.heap.size w w1:=(((ai _).alloc (by simp) _).alloc (by simp;omega) _).trans (hB1.mono (by simp;omega));have hs1:w.heap.size+3≤w1.heap.size:=by have:=hB1.size;simpa using this
 have HK:=ae hk3;clear hgrow hB1 hk3;go_loopw [7,22] (fun c i wr=>∃k:Nat,k≤M+1∧i=.int .i64 k∧c=.int .u64 (carry B x y k:Nat)∧wr.ownsRow (w.heap.size+3) lC 1 (.slice (some ⟨w.heap.size+1+1+1,0,none⟩) (M+1) (M+1)) (M+1) (fG (lu B (x+y) k++List.replicate (M+1-k) 0))∧Below (w.heap.size+3) w1 wr)
  (fun _ i _=>M+1-(intOf i).toNat)
 case atStart=>exact ⟨0,by omega,rfl,by rw [carry_zero];rfl,by simpa [fG,lu] using hown,Below.refl _ _⟩
 case round=>
  obtain ⟨k,hk,rfl,rfl,hown,hb⟩:=hrel;have hBr:Below w.heap.size w wr:=hBw.trans (hb.mono (by omega));by_cases hlt:k<M+1
  ·have l1:=fun (W:World) (E:Below w.heap.size w W)=>wM (HX.out.mono E) k;have l2:=fun (W:World) (E:Below w.heap.size w W)=>wM (HY.out.mono E) k;have hcs:=carry_succ bC x y k;have Zp:=JP bC x y k;have hc0:=DN bC x y k;have hd1:=qd bC x k;have hd2:=qd bC y k;generalize iG B x k=dx at l1 l2 hcs Zp hd1;generalize iG B y k=dy at l1 l2 hcs Zp hd2;generalize carry B x y k=c at hcs Zp hc0 ⊢;have L1:=ae l1;have L2:=ae l2;have Qx:=ae hcs;have HDA:=ae Zp;unfold B at hd1 hd2;clear l1 l2 hcs Zp;have hd:=ae hown;clear hown;go_wp2_with fail;refine aD (Array.replicate 10 true) 10 0 mixed (by rfl) ?_;have hg1:=Gr.cell (ah wr) ((hb.cell (p:=⟨w.heap.size,0,none⟩) (by simp)).trans hc1);have hg2:=Gr.cell (ah wr) ((hb.cell (p:=⟨w.heap.size+1,0,none⟩) (by simp)).trans hc2);refine ay [0,1,3,4,7] 5 rfl (by kernel_rfl) ?_
   repeat (refine aC rfl ?_;go_big_quiet_step (rfl))
   refine ak ?_;clear hg1 hg2;refine aL 2 (by kernel_rfl) rfl ?_;go_wp2_with fail;refine (L1.out _ (ag hBr (ah _))).mono ?_;rintro e w2 ⟨rfl,hb2⟩;go_wp2_with fail;refine aH hb2 ?_;refine aL 5 (by kernel_rfl) rfl ?_;go_wp2_with fail;refine (L2.out _ (ag hBr (ag (ah _) hb2))).mono ?_;rintro e w3 ⟨rfl,hb3⟩;go_wp2_with fail;refine aH hb3 ?_;refine ay [6,8,9] 0 rfl (by kernel_rfl) ?_
   repeat (refine aC rfl ?_;go_big_quiet_step (rfl))
   refine ak ?_;refine aI [] (by kernel_rfl) ?_;refine tail_nil ?_;have hE:=ag (ah wr) (ag hb2 hb3);have hown3:=aG hd.out hE;obtain ⟨hcell,hfr⟩:=gJ hown3 (j:=k) (by simp;omega);have hst:=(hown3.stored k (.int .u32 (iG B (x+y) k:Nat))).1;have hB3:Below (w.heap.size+3) w1 (w3.setCell ⟨w.heap.size+1+1+1,k,none⟩ (.int .u32 (iG B (x+y) k:Nat))):=aj (hb.trans (hE.mono (by have:=hb.size;omega))) (by omega);have HST:=ae hst;clear hb2 hb3 hE hown3 hst;go_wp2;go_roundw
   case rel=>
    have e1:((dx:Int)+dy+c) / 4294967296=(carry B x y (k+1):Nat):=by have:=Qx.out;unfold B at this ⊢;omega
    have e2:((dx:Int)+dy+c) % 4294967296=(iG B (x+y) k:Nat):=by have:=HDA.out;unfold B at this ⊢;omega
    rw [e1,e2];refine ⟨k+1,by omega,rfl,rfl,?_,hB3⟩;have h1:=HST.out;rw [yM,show M+1-k=(M+1-(k+1))+1 from by omega] at h1;unfold lu at h1 ⊢;rw [PE] at h1;exact h1
   case measure=>simp [intOf];omega
  ·go_wp2_with fail;obtain rfl:k=M+1:=by omega
   have hl:∀d∈lu B (x+y) (M+1),d<B:=BP bC _ _;rw [Nat.sub_self,List.replicate_zero,List.append_nil] at hown;refine (Dh (Sl.aT hown) hl (by simp;omega)).mono ?_;rintro e w2 ⟨r2,rfl,hr2,hb2⟩;rw [wW,Nat.mod_eq_of_lt HS.out] at hr2;obtain ⟨a3,n3,yN,rfl,hN⟩:=hr2.out;have hk:w2.heap[w.heap.size+1+1]? = some (.cells #[.slice none 0 0] 44):=(hb2.block (w.heap.size+1+1) (by have:=hb.size;omega)).trans ((hb.block (w.heap.size+1+1) (by omega)).trans HK.out);obtain ⟨hcs,hR⟩:=qX hk (by decide) hN;have hB:=aj (off:=0) (u:=.slice a3 n3 yN) (ag hBr hb2) (b:=w.heap.size+1+1) (by omega);have hcell:w2.cell? ⟨w.heap.size+1+1,0,none⟩=some (.slice none 0 0):=by unfold World.cell?;rw [hk];rfl
   have hfr:w2.frozen? ⟨w.heap.size+1+1,0,none⟩=false:=by unfold World.frozen?;rw [hk];rfl
   clear hk hb2 hr2 hN hown hb hBr hBw;go_wp2;exact bodyPost_ret (v:=.agg #[.slice a3 n3 yN]) (by simp [results,Tryz.results39,go_sem,hcs]) rfl ⟨_,rfl,hR,hB⟩
theorem PG {w:World} {v u:Value} {l m:List Nat} (h:Sl lC w v (fG l)) (k:Sl lC w u (fG m)) (hmax:l.length<1099511627776) :
 Calls Tryz.prog 63 #[v,u] w fun e w'=>e=.returned (.bool (decide (l=m)))∧Below w.heap.size w w':=by
 obtain ⟨a,cap,rfl,hc,hr⟩:=h.out;obtain ⟨a2,cap2,rfl,hc2,hr2⟩:=k.out;simp only [bR] at *;clear h k;by_cases hlen:l.length=m.length
 ·have hcell:∀i (hi:i<l.length) (hj:i<m.length),∃b off b2 oQ,a=some ⟨b,off,none⟩∧a2=some ⟨b2,oQ,none⟩∧w.cell? ⟨b,off+i,none⟩=some (.int .u32 (l[i]:Nat))∧w.cell? ⟨b2,oQ+i,none⟩=some (.int .u32 (m[i]:Nat)):=fun i hi hj=>by
   obtain ⟨b,off,ha,_,h1⟩:=hr i hi;obtain ⟨b2,oQ,ha2,_,h2⟩:=hr2 i (by omega);rw [dO _ _ hi] at h1;rw [dO _ _ (by omega)] at h2;exact ⟨b,off,b2,oQ,ha,ha2,h1,h2⟩
  have Zq:=ae hcell;have HLen:=ae hlen;obtain ⟨n,hn⟩:=af l.length;have HN:=ae hn;rw [←hlen,←hn];rw [←hn] at hmax;clear hcell hr hr2 hlen hn hc hc2;go_enter Tryz.func63,Tryz.ntmps63;go_wp2_with fail;go_loopw [13] (fun i wr=>∃k:Nat,k≤n∧i=.int .i64 k∧l.take k=m.take k∧Below w.heap.size w wr) (fun i _=>n-(intOf i).toNat)
  case atStart=>exact ⟨0,by omega,rfl,rfl,Below.refl _ _⟩
  case round=>
   obtain ⟨k,hk,rfl,htk,hb⟩:=hrel;have HT:=ae htk;clear htk;by_cases hlt:k<n
   ·obtain ⟨b,off,b2,oQ,rfl,rfl,h1,h2⟩:=Zq.out k (by have:=HN.out;omega) (by have:=HN.out;have:=HLen.out;omega);obtain ⟨d,hd⟩:∃d,d=l[k]'(by have:=HN.out;omega):=⟨_,rfl⟩;obtain ⟨d2,hd2⟩:∃d,d=m[k]'(by have:=HN.out;have:=HLen.out;omega):=⟨_,rfl⟩;rw [←hd] at h1;rw [←hd2] at h2;have HD:=ae hd;have HD2:=ae hd2;have hg1:=Gr.cell (ag hb (ah wr)) h1;have hg2:=Gr.cell (ag hb (ah wr)) h2;clear hd hd2;go_wp2_with fail;refine aD (Array.replicate 9 true) 9 0 mixed (by rfl) ?_;refine ay [0,1,2,3,4,5,6,7,8] 0 rfl (by kernel_rfl) ?_
    repeat (refine aC rfl ?_;go_big_quiet_step (rfl))
    refine ak ?_;refine aI [] (by kernel_rfl) ?_;refine tail_nil ?_;by_cases hdd:d=d2
    ·subst hdd;go_wp2;go_roundw
     case rel=>
      refine ⟨k+1,by omega,rfl,?_,ag hb (ah wr)⟩;rw [List.take_succ_eq_append_getElem (by have:=HN.out;omega),List.take_succ_eq_append_getElem (by have:=HN.out;have:=HLen.out;omega),HT.out,←HD.out,←HD2.out]
     case measure=>simp [intOf];omega
    ·have hz:((d:Int)==d2)=false:=by simp;omega
     have hne:¬l=m:=fun e=>hdd (by rw [HD.out,HD2.out];subst e;rfl);have HE:=ae (decide_eq_false hne);go_wp2;go_ret;exact ⟨dh HE.out.symm,ag hb (ah wr)⟩
   ·obtain rfl:k=n:=by omega
    have he:l=m:=by
     have:=HT.out;rw [List.take_of_length_le (by rw [HN.out];exact Nat.le_refl _),List.take_of_length_le (by rw [HN.out,HLen.out];exact Nat.le_refl _)] at this;exact this
    have HE:=ae (decide_eq_true he);go_wp2;go_ret;exact ⟨dh HE.out.symm,hb⟩
 ·have hne:¬l=m:=fun e=>hlen (by rw [e]);have HE:=ae (decide_eq_false hne);rw [HE.out];have hz:((l.length:Int)==m.length)=false:=by simp;omega
  go_enter Tryz.func63,Tryz.ntmps63;go_wp2;go_ret;exact ⟨rfl,Below.refl _ _⟩
theorem dJ.sl {w:World} {s:Value} {x:Nat} (h:dJ w (.agg #[s]) x):Sl lC w s (fG (aV B x)):=by
 obtain ⟨s',hs,h⟩:=h;simp at hs;rw [hs];exact h
theorem Tk {w:World} {v u:Value} {x y:Nat} (h:dJ w v x) (k:dJ w u y) (hx:(aV B x).length<1099511627776) :
 Calls Tryz.prog 27 #[v,u] w fun e w'=>e=.returned (.bool (decide (x=y)))∧Below w.heap.size w w':=by
 obtain ⟨a,n,cap,rfl,h⟩:=h.out;obtain ⟨a2,n2,cap2,rfl,k⟩:=k.out;have l1:=fun (W:World) (E:Below w.heap.size w W)=>PG ((dJ.sl h).mono E) ((dJ.sl k).mono E) hx;have hd:decide (aV B x=aV B y)=decide (x=y):=by
  rw [decide_eq_decide];exact ⟨fun e=>Nl bC e,fun e=>by rw [e]⟩
 rw [hd] at l1;have L1:=ae l1;clear l1 hd h k;go_enter Tryz.func27,Tryz.ntmps27;go_wp2_with fail;refine (L1.out _ (dF _ _)).mono ?_;rintro e w1 ⟨rfl,hb⟩;go_wp2;go_ret;exact ⟨rfl,ag (dF _ _) hb⟩
end Go.Proofs.YtjidohgiigjifaaGreatDoor
namespace Go.Cd
open Go.RowKit
theorem fT (z:Value) (k:Nat):Builtin.zeroCells #[z] k=(List.replicate k z).toArray:=by
 apply Array.ext
 ·simp [Builtin.zeroCells]
 ·intro i h1 h2;simp [Builtin.zeroCells];rw [Nat.mod_one];simp
theorem nU {P:Program} (w:World) (base:Nat) (t tn ty e:TypeId) (i:TypeInfo) (z:Value) (kq kn:IntKind) (bytes:Nat) (ht:P.underlying t=some (.slice e)) (htn:P.underlying tn=some (.int kn))
 (hi:P.info? e=some i) (hz:i.zero=some z) (hsize:i.size=1) (hby:i.bytes=bytes) (hzc:z.cells=#[z]) (hz1:z.oneCell'=true)
 (v:Value) (n:Nat) (xs:List Value) (hown:w.ownsRow base e 1 v n xs) (k:Nat)
 (h63:n+k≤maxLen) (hbytes:(n+k)*bytes≤140737488355328) (hbase:base≤w.heap.size) :
 ∃v' w',(Builtin.append_ #[t,tn] ty #[v,.int kq k]).run P w=.ok v' w'∧w'.ownsRow base e 1 v' (n+k) (xs++List.replicate k z)∧w.grownBy w' v.ownBlock:=by
 subst hby
 have hm:maxLen≤9223372036854775807:=by decide
 have hw:IntKind.i64.wrap (k:Int)=k:=by rw [IntKind.wrap_i64];omega
 have hkb:k*i.bytes≤140737488355328:=Nat.le_trans (Nat.mul_le_mul_right _ (by omega)) hbytes;have hlen:(xs++List.replicate k z).length=(n+k)*1:=by have:=hown.1;simp at this ⊢;exact this
 have grown:∀(old:Nat),old<n+k→∀(row:Option Nat),
  (w.drew.alloc (.cells (xs.toArray++(List.replicate k z).toArray++(List.replicate (grownCap w (n+k) old e-(n+k)) z).toArray) e)).ownsRow base e 1
    (.slice (some ⟨w.heap.size,0,none⟩) (n+k) (grownCap w (n+k) old e)) (n+k) (xs++List.replicate k z)∧
  w.grownBy (w.drew.alloc (.cells (xs.toArray++(List.replicate k z).toArray++(List.replicate (grownCap w (n+k) old e-(n+k)) z).toArray) e)) row:=by
  intro old ho row;have hge:=grownCap_ge w (n+k) old e;have hcm:grownCap w (n+k) old e≤maxLen:=grownCap_le_maxLen w (n+k) old e h63;have hx:=hown.1;refine ⟨⟨hlen,.inr ⟨w.heap.size,_,_,rfl,hbase,heap_alloc_new w.drew _,hge,hcm,?_,?_⟩⟩,⟨rfl,rfl,rfl,by simp,fun j hj _=>Below.heap_alloc w.drew _ j hj⟩⟩
  ·simp at hx ⊢;omega
  ·show List.take ((n+k)*1) ((xs.toArray++(List.replicate k z).toArray++(List.replicate (grownCap w (n+k) old e-(n+k)) z).toArray).toList)=_;rw [Array.toList_append,Array.toList_append,←hlen];exact List.take_left
 have hw0:IntKind.i64.wrap 0=0:=by decide
 have hneg:¬((k:Int)<0):=by omega
 have h48i:¬(281474976710656<(k:Int)*(i.bytes:Int)):=by rw [←Int.natCast_mul];omega
 rcases hown.2 with ⟨rfl,rfl⟩|⟨g,cap,cur,rfl,hbg,hg,hnc,hcm,hcs,htake⟩
 ·have hx:xs=[]:=List.eq_nil_of_length_eq_zero (by simpa using hown.1);subst hx;by_cases h0:k=0
  ·subst h0;refine ⟨.slice none 0 0,w,?_,World.ownsRow_nil w base e 1,⟨rfl,rfl,rfl,Nat.le_refl _,fun _ _ _=>rfl⟩⟩;simp [Builtin.append_,run_underlying ht,run_underlying htn,sizeOf,typeInfo,hi,asInt,asIntOf,hw0]
  ·have hr:=Lib.run_append_nil_zeros (P:=P) w t tn ty e i z kq kn ht htn hi hz k (by omega) (by omega) (by omega) (by omega);rw [hzc,fT,fT] at hr;have hgr:=grown 0 (by omega) (Value.ownBlock (.slice none 0 0));simp only [Nat.zero_add,List.nil_append,Array.empty_append] at hgr ⊢;exact ⟨_,_,hr,hgr.1,hgr.2⟩
 ·by_cases hroom:n+k≤cap
  ·have hst:=run_storeCells_at P g n e (List.replicate k z) 0 cur w hg (by simp;omega) (by intro u hu;rw [(List.mem_replicate.1 hu).2];exact hz1);simp only [Nat.add_zero] at hst;refine ⟨.slice (some ⟨g,0,none⟩) (n+k) cap,w.setRow g (cur.toList.take n++List.replicate k z++cur.toList.drop (n+(List.replicate k z).length)).toArray,?_,⟨hlen,.inr ⟨g,cap,_,rfl,hbg,setRow_heap w g cur _ e _ hg,hroom,hcm,?_,?_⟩⟩,⟨rfl,rfl,rfl,by simp,fun j _ hj=>setRow_other w g j _ (fun e=>hj (by simp [Value.ownBlock,e]))⟩⟩
   ·by_cases h0:k=0
    ·subst h0;simp [Builtin.append_,run_underlying ht,run_underlying htn,sizeOf,typeInfo,hi,asInt,asIntOf,hw0,hnc,hsize,Addr.add_lit] at hst ⊢;rw [hst];rfl
    ·simp [Builtin.append_,run_underlying ht,run_underlying htn,sizeOf,typeInfo,zeroValue,hi,hz,asInt,asIntOf,hw,hroom,hneg,h48i,hsize,h0,hzc,fT,Addr.add_lit];simp at hst;rw [hst];rfl
   ·simp;simp at hcs;omega
   ·have ht2:=htake;simp only [Nat.mul_one] at ht2 hlen ⊢;rw [ht2,←hlen];exact List.take_left
  ·have holds:∀j u,xs[j]? = some u→w.cell? ((⟨g,0,none⟩:Addr).add j)=some u:=hown.cells (g:=g) rfl;have hold:=run_firstCells_some (P:=P) w.drew i.size n ⟨g,0,none⟩ n cap xs (by rw [hsize];exact hown.1) (fun j u h=>holds j u h);have h0:0<k:=by omega
   have hr:=Lib.run_append_grow_zeros (P:=P) w t tn ty e i z kq kn ht htn hi hz (some ⟨g,0,none⟩) n cap xs hold k h0 (by omega) (by omega) (by omega) (by omega) (growslice_fits (by omega) hbytes);rw [hzc,fT,fT] at hr;have hgr:=grown cap (by omega) (Value.ownBlock (.slice (some ⟨g,0,none⟩) n cap));exact ⟨_,_,hr,hgr.1,hgr.2⟩
theorem oU {P:Program} {w:World} {ops:Array Oper} {rest:List Oper} {o:Oper} {a:Act} {Q:Exit→Act→World→Prop} (hgd:o.guard=none) (s x:Operand) (t tn:TypeId)
 (ho:o.op=.call { callee:=.builtin .append,args:=#[s,x],argTypes:=#[t,tn] }) (kq kn:IntKind) (htn:P.underlying tn=some (.int kn))
 (base:Nat) (e:TypeId) (z:Value) (bytes:Nat) (hE:Elem P t e z bytes) (hzc:z.cells=#[z])
 (v:Value) (n:Nat) (xs:List Value) (hs:a.eval s=v) (hown:w.ownsRow base e 1 v n xs) (k:Nat) (hx:a.eval x=.int kq k)
 (h63:n+k≤maxLen) (hbytes:(n+k)*bytes≤140737488355328) (hbase:base≤w.heap.size)
 (h:∀v' w',w'.ownsRow base e 1 v' (n+k) (xs++List.replicate k z)→w.grownBy w' v.ownBlock→wpList P ops Q rest (a.put o.dst v') w'):wpList P ops Q (o::rest) a w:=by
 obtain ⟨hz1,ht,i,hi,hz,hsize,hby⟩:=hE;obtain ⟨v',w',hr,h1,h2⟩:=nU (P:=P) w base t tn o.type e i z kq kn bytes ht htn hi hz hsize hby hzc hz1 v n xs hown k h63 hbytes hbase;exact Lib.wpList_append_run w hgd s x t tn ho v (.int kq k) hs hx v' w' hr (h v' w' h1 h2)
end Go.Cd
namespace Go.Proofs.YtjidohgiigjifaaGreatDoor
open Go.RowKit Go.Cd
theorem mE (b:Nat):∀(l:List Nat) (j v:Nat),j<l.length→val b (l.set j v)+l[j]?.getD 0*b ^ j=val b l+v*b ^ j
 | [],_,_,h=>by simp at h
 | d::l,0,v,_=>by simp [val];omega
 | d::l,j+1,v,h=>by
   have:=mE b l j v (by simpa using h);simp only [List.set_cons_succ,val,List.getElem?_cons_succ,Nat.pow_succ];have e:∀p q:Nat,p*(q*b)=b*(p*q):=fun p q=>by rw [←Nat.mul_assoc,Nat.mul_comm]
   rw [e,e,Nat.add_assoc,Nat.add_assoc,←Nat.mul_add,←Nat.mul_add,this]
theorem iI (b:Nat) (l:List Nat) (j:Nat) (h:j<l.length):val b (l.take (j+1))=val b (l.take j)+l[j]*b ^ j:=by
 rw [List.take_succ_eq_append_getElem h,val_append];simp [val,Nat.min_eq_left (Nat.le_of_lt h),Nat.mul_comm]
theorem Sl.Zr {w:World} {v:Value} {l:List Nat} (h:Sl lC w v (fG l)):∃a cap,v=.slice a l.length cap∧l.length≤cap∧∀i (hi:i<l.length),∃b off,a=some ⟨b,off,none⟩∧b<w.heap.size∧w.cell? ⟨b,off+i,none⟩=some (.int .u32 (l[i]:Nat)):=by
 obtain ⟨a,cap,hv,hc,hx⟩:=Sl.out h;refine ⟨a,cap,by rw [hv,bR],by rw [bR] at hc;exact hc,fun i hi=>?_⟩;obtain ⟨b,off,h1,h2,h3⟩:=hx i (by rw [bR];exact hi);rw [dO _ _ hi] at h3;exact ⟨b,off,h1,h2,h3⟩
theorem PH {p q o c:Nat} (hp:p<4294967296) (hq:q<4294967296) (ho:o<4294967296) (hc:c<4294967296):p*q+o+c<18446744073709551616:=by
 have h1:p*q≤4294967295*4294967295:=Nat.mul_le_mul (by omega) (by omega);omega
theorem Tm {b vs vl A PV W s1 s0 pq o cc:Nat} (h1:vs+o*W=vl+s0*W) (h2:vl+cc*W=A+PV) (h3:b*s1+s0=pq+o+cc):vs+s1*(W*b)=A+(PV+pq*W):=by
 have h4:(b*s1+s0)*W=(pq+o+cc)*W:=by rw [h3]
 rw [Nat.add_mul,Nat.add_mul,Nat.add_mul] at h4;have h5:s1*(W*b)=b*s1*W:=by rw [Nat.mul_comm W b,←Nat.mul_assoc,Nat.mul_comm s1 b]
 rw [h5];omega
theorem getD_set_ne {l:List Nat} {i j v:Nat} (h:i≠j):(l.set i v)[j]?.getD 0=l[j]?.getD 0:=by rw [List.getElem?_set_ne h]
theorem pX {l:List Nat} {i v b:Nat} (hl:∀d∈l,d<b) (hv:v<b):∀d∈l.set i v,d<b:=fun d hd=>by
 rcases List.mem_or_eq_of_mem_set hd with h|rfl
 ·exact hl d h
 ·exact hv
theorem VQ {w:World} {v u:Value} {x y:Nat} (h:dJ w v x) (k:dJ w u y) (hx:(aV B x).length<274877906944) (hy:(aV B y).length<274877906944) :
 Calls Tryz.prog 73 #[v,u] w fun e w'=>∃r,e=.returned r∧dJ w' r (x*y)∧Below w.heap.size w w':=by
 obtain ⟨a,n,cap,rfl,h⟩:=h.out;obtain ⟨a2,n2,cap2,rfl,k⟩:=k.out;have hb:=(ai (w:=w) (.cells #[.slice a n cap] 44)).alloc (by simp) (.cells #[.slice a2 n2 cap2] 44) |>.alloc (by simp;omega) (.cells #[.slice none 0 0] 44);have c1:(((w.alloc (.cells #[.slice a n cap] 44)).alloc (.cells #[.slice a2 n2 cap2] 44)).alloc (.cells #[.slice none 0 0] 44)).cell? ⟨w.heap.size,0,none⟩=some (.slice a n cap):=by go_simp
 have c2:(((w.alloc (.cells #[.slice a n cap] 44)).alloc (.cells #[.slice a2 n2 cap2] 44)).alloc (.cells #[.slice none 0 0] 44)).cell? ⟨w.heap.size+1,0,none⟩=some (.slice a2 n2 cap2):=by go_simp
 have c3:(((w.alloc (.cells #[.slice a n cap] 44)).alloc (.cells #[.slice a2 n2 cap2] 44)).alloc (.cells #[.slice none 0 0] 44)).heap[w.heap.size+1+1]? = some (.cells #[.slice none 0 0] 44):=heap_alloc_new' _ _ _ (by simp);have N1:=h.mono hb;have N2:=k.mono hb;have L1:=ae (fun (W:World) (E:Below _ _ W)=>nT (N1.mono E) (by omega));have L2:=ae (fun (W:World) (E:Below _ _ W)=>nT (N2.mono E) (by omega));have T0:=wU (((w.alloc (.cells #[.slice a n cap] 44)).alloc (.cells #[.slice a2 n2 cap2] 44)).alloc (.cells #[.slice none 0 0] 44));have vx:=gI bC x;have vy:=gI bC y;have lx:=n_ bC x;have ly:=n_ bC y;generalize aV B x=X at *;generalize aV B y=Y at *;have VX:=ae vx;have VY:=ae vy;have LX:=ae lx;have LY:=ae ly;have s3:(((w.alloc (.cells #[.slice a n cap] 44)).alloc (.cells #[.slice a2 n2 cap2] 44)).alloc (.cells #[.slice none 0 0] 44)).heap.size=w.heap.size+3:=by simp
 have HB:=ae hb;clear h k N1 N2 vx vy lx ly hb;go_enter Tryz.func73,Tryz.ntmps73;go_wp2_with fail;refine aD (Array.replicate 6 true) 6 0 mixed (by rfl) ?_;have Mg:=ag T0 (ah _);have hg0:=Gr.cell Mg c1;have hg1:=Gr.cell Mg c2;refine ay [0,2] 4 rfl (by kernel_rfl) ?_
 iterate 2 (refine aC rfl ?_;go_big_quiet_step (rfl))
 refine ak ?_;clear hg0 hg1;refine aL 1 (by kernel_rfl) rfl ?_;go_wp2_with fail;refine (L1.out _ Mg).mono ?_;rintro e Zl ⟨r1,rfl,o1,Mh⟩;go_wp2_with fail;refine aH Mh ?_;have M8:=ag Mg Mh;refine aL 3 (by kernel_rfl) rfl ?_;go_wp2_with fail;refine (L2.out _ M8).mono ?_;rintro e Jc ⟨r2,rfl,o2,Bv⟩;go_wp2_with fail;refine aH Bv ?_;have QL:=ag M8 Bv;have hg0:=Gr.cell QL c1;have hg1:=Gr.cell QL c2;refine ay [4,5] 0 rfl (by kernel_rfl) ?_
 iterate 2 (refine aC rfl ?_;go_big_quiet_step (rfl))
 refine ak ?_;clear hg0 hg1;refine aI [] (by kernel_rfl) ?_;refine tail_nil ?_;have S1:=(Sl.aT o1).mono Bv;have S2:=Sl.aT o2;have hE:=QL;obtain ⟨x1,wI,rfl,_,hx1⟩:=Sl.Zr S1;obtain ⟨x2,cp2,rfl,_,hx2⟩:=Sl.Zr S2;have z3:Jc.heap[w.heap.size+1+1]? = some (.cells #[.slice none 0 0] 44):=(hE.block _ (by rw [s3];omega)).trans c3;have zs:w.heap.size+3≤Jc.heap.size:=by have:=hE.size;rw [s3] at this;exact this
 have hBw:Below w.heap.size w Jc:=HB.out.trans (hE.mono (by rw [s3];omega));have Bo:=ae hx1;have Xg:=ae hx2;have Z3:=ae z3;clear o1 o2 S1 S2 hx1 hx2 c1 c2 c3 QL Mh Bv L1 L2 T0 s3 z3 hE HB;have Bv:=hBw;go_wp2_with (at_make;refine dY _ rfl _ _ 42 rfl Jc.heap.size lC _ 4 BR rfl .i64 .i64 _ _ (X.length+Y.length) rfl rfl (by omega) (by omega) (by omega) (by unfold maxLen;omega) (by simp) ?_;intro w3 hown hgrow);have hB3:=eH hgrow;clear hgrow
 go_loopw [26] (fun i wr=>∃(j:Nat) (l:List Nat),j≤X.length∧i=.int .i64 j∧l.length=X.length+Y.length∧(∀d∈l,d<B)∧(∀t,j+Y.length≤t→l[t]?.getD 0=0)∧val B l=val B (X.take j)*y∧
  wr.ownsRow Jc.heap.size lC 1 (.slice (some ⟨Jc.heap.size,0,none⟩) (X.length+Y.length) (X.length+Y.length)) (X.length+Y.length) (fG l)∧Below Jc.heap.size Jc wr)
  (fun i _=>X.length-(intOf i).toNat)
 case atStart=>
  refine ⟨0,List.replicate (X.length+Y.length) 0,Nat.zero_le _,rfl,by simp,?_,?_,by simp [tK,val],by simpa [fG] using hown,hB3⟩
  ·intro d hd;rw [(List.mem_replicate.1 hd).2];decide
  ·intro t _;rw [List.getElem?_replicate];split <;> rfl
 case round=>
  obtain ⟨j,l,hj,rfl,hl,hlt,hz,hv,hO,hE⟩:=hrel;by_cases RQ:j<X.length
  ·obtain ⟨b1,Px,rfl,hb1,hc1⟩:=Bo.out j RQ;have hc1:=(hE.cell (p:=⟨b1,Px+j,none⟩) hb1).trans hc1;have hp:X[j]<B:=LX.out _ (List.getElem_mem _);have HV:=ae hv;have Xx:=ae hlt;have HZ:=ae hz;generalize hP:X[j]=p at *;have HPX:=ae hP;clear hv hlt hz hP;go_wp2_with fail
   go_loopw [10,33] (fun c k wr'=>∃(cc t:Nat) (l:List Nat),t≤Y.length∧k=.int .i64 t∧c=.int .u64 cc∧cc<B∧l.length=X.length+Y.length∧(∀d∈l,d<B)∧(∀s,j+Y.length≤s→l[s]?.getD 0=0)∧
    val B l+cc*B ^ (j+t)=val B (X.take j)*y+p*B ^ j*val B (Y.take t)∧
    wr'.ownsRow Jc.heap.size lC 1 (.slice (some ⟨Jc.heap.size,0,none⟩) (X.length+Y.length) (X.length+Y.length)) (X.length+Y.length) (fG l)∧Below Jc.heap.size Jc wr')
    (fun _ k _=>Y.length-(intOf k).toNat)
   case atStart=>
    exact ⟨0,0,l,Nat.zero_le _,rfl,rfl,by decide,hl,Xx.out,HZ.out,by simp [val];exact HV.out,hO,hE⟩
   case round=>
    clear HV Xx HZ hO hE hc1;obtain ⟨cc,t,l2,ht,rfl,rfl,hcc,hl2,hlt2,hz2,hv2,hO2,hE2⟩:=hrel;have Tn:=ae hv2;have Di:=ae hlt2;have HZ2:=ae hz2;clear hv2 hlt2 hz2;by_cases Zt:t<Y.length
    ·obtain ⟨b2,oQ,rfl,hb2,hc2⟩:=Xg.out t Zt;have hc2:=(hE2.cell (p:=⟨b2,oQ+t,none⟩) hb2).trans hc2;have hq:Y[t]<B:=LY.out _ (List.getElem_mem _);obtain ⟨hcell,hfr⟩:=gJ hO2 (j:=j+t) (by simp;omega);rw [dO _ _ (by omega)] at hcell;have ho:l2[j+t]<B:=Di.out _ (List.getElem_mem _);have HS:=ae (fun (u:Value)=>(hO2.stored (j+t) u).1);generalize hQ:Y[t]=q at *;generalize Zu:l2[j+t]=o at *;have HQ:=ae hQ;have Xy:=ae Zu;have hs:=PH (p:=p) (q:=q) (o:=o) (c:=cc) (by unfold B at hp;exact hp) (by unfold B at hq;exact hq) (by unfold B at ho;exact ho) (by unfold B at hcc;exact hcc);clear hQ Zu hO2;go_wp2;go_roundw
     case rel=>
      have w1:IntKind.u64.wrap (p:Int)=p:=by rw [IntKind.wrap_u64];unfold B at hp;omega
      have w2:IntKind.u64.wrap (q:Int)=q:=by rw [IntKind.wrap_u64];unfold B at hq;omega
      have e0:IntKind.u64.wrap (IntKind.u64.wrap (IntKind.u64.wrap (IntKind.u64.wrap ↑p*IntKind.u64.wrap ↑q)+↑o)+↑cc)=((p*q+o+cc:Nat):Int):=by
       rw [w1,w2,←Int.natCast_mul];generalize p*q=pq at hs;rw [IntKind.wrap_u64,IntKind.wrap_u64,IntKind.wrap_u64];omega
      rw [e0];have e3:=Tm (b:=B) (vs:=val B (l2.set (j+t) ((p*q+o+cc) % B))) (vl:=val B l2) (A:=val B (X.take j)*y) (PV:=p*B ^ j*val B (Y.take t)) (W:=B ^ (j+t)) (s1:=(p*q+o+cc) / B) (s0:=(p*q+o+cc) % B) (pq:=p*q) (o:=o) (cc:=cc)
       (by have:=mE B l2 (j+t) ((p*q+o+cc) % B) (by omega);rw [List.getElem?_eq_getElem (by omega)] at this;simp only [Option.getD_some] at this;rw [Xy.out] at this;exact this)
       Tn.out (Nat.div_add_mod _ _)
      have e4:=iI B Y t Zt;rw [HQ.out] at e4;have e5:p*B ^ j*val B (Y.take (t+1))=p*B ^ j*val B (Y.take t)+p*q*B ^ (j+t):=by
       rw [e4,Nat.mul_add,Nat.pow_add];congr 1;rw [Nat.mul_assoc,Nat.mul_assoc,Nat.mul_left_comm (B ^ j)]
      have hsB:(p*q+o+cc) / B<B:=Nat.div_lt_of_lt_mul (by unfold B;omega);have hsm:(p*q+o+cc) % B<B:=Nat.mod_lt _ (by decide);generalize p*q+o+cc=s at *;have e1:((s:Nat):Int) / 4294967296=((s / B:Nat):Int):=by unfold B;omega
      rw [e1];refine ⟨s / B,t+1,l2.set (j+t) (s % B),by omega,rfl,rfl,hsB,by simp;exact hl2,pX Di.out hsm,fun z hz=>?_,?_,?_,?_⟩
      ·rw [getD_set_ne (by omega)];exact HZ2.out z hz
      ·rw [e5,show j+(t+1)=(j+t)+1 from by omega,Nat.pow_succ];exact e3
      ·have e6:(s:Int) % 4294967296=((s % B:Nat):Int):=by unfold B;omega
       rw [e6,←yM];exact HS.out _
      ·exact aj hE2 (Nat.le_refl _)
     case measure=>simp [intOf];omega
    ·obtain rfl:t=Y.length:=by omega
     have e1:B ^ (j+Y.length)=B ^ (j+Y.length):=rfl;obtain ⟨hcell,hfr⟩:=gJ hO2 (j:=j+Y.length) (by simp;omega);rw [dO _ _ (by omega)] at hcell;have HS:=ae (fun (u:Value)=>(hO2.stored (j+Y.length) u).1);clear hO2;go_wp2;go_roundw
     case rel=>
      have hv3:=mE B l2 (j+Y.length) cc (by omega);rw [HZ2.out _ (Nat.le_refl _),Nat.zero_mul,Nat.add_zero,Tn.out,List.take_length,VY.out] at hv3;have e4:=iI B X j RQ;rw [HPX.out] at e4;refine ⟨j+1,l2.set (j+Y.length) cc,by omega,rfl,by simp;exact hl2,pX Di.out hcc,fun z hz=>?_,?_,?_,?_⟩
      ·rw [getD_set_ne (by omega)];exact HZ2.out z (by omega)
      ·rw [hv3,e4,Nat.add_mul]
      ·rw [show (cc:Int) % 4294967296=cc from by unfold B at hcc;omega,←yM];exact HS.out _
      ·exact aj hE2 (Nat.le_refl _)
     case measure=>simp [intOf];omega
  ·obtain rfl:j=X.length:=by omega
   rw [List.take_length,VX.out] at hv;go_wp2_with fail;refine (PD (Sl.aT hO) hlt (by omega)).mono ?_;rintro e w4 ⟨r4,rfl,hr4,hb4⟩;rw [hv] at hr4;obtain ⟨a3,n3,yN,rfl,hN⟩:=hr4.out;have Zv:=ag (hBw.trans (hE.mono (by omega))) hb4;have hk:w4.heap[w.heap.size+1+1]? = some (.cells #[.slice none 0 0] 44):=(hb4.block _ (by have:=hE.size;omega)).trans ((hE.block _ (by omega)).trans Z3.out);obtain ⟨hcs,hR⟩:=qX hk (by decide) hN;have hB:=aj (off:=0) (u:=.slice a3 n3 yN) Zv (b:=w.heap.size+1+1) (by omega);have hcell:w4.cell? ⟨w.heap.size+1+1,0,none⟩=some (.slice none 0 0):=by unfold World.cell?;rw [hk];rfl
   have hfr:w4.frozen? ⟨w.heap.size+1+1,0,none⟩=false:=by unfold World.frozen?;rw [hk];rfl
   clear hk hb4 hr4 hN hO hE hBw Zv hv hlt hz;go_wp2;exact bodyPost_ret (v:=.agg #[.slice a3 n3 yN]) (by simp [results,Tryz.results73,go_sem,hcs]) rfl ⟨_,rfl,hR,hB⟩
def fF (xs:List Nat):Nat:=xs.foldl (·*·) 1
theorem yO (xs:List Nat) (k:Nat) (h:k<xs.length):fF (xs.take (k+1))=fF (xs.take k)*xs[k]:=by
 unfold fF;rw [List.take_succ_eq_append_getElem h,List.foldl_append];rfl
theorem Jg {w:World} {v:Value} {l:List Int} (h:bD w v (bH l)) (hmax:l.length<1099511627776) (hbig:∀d∈l,d<9223372036854775808) (hl:∀k,k≤l.length→(aV B (fF ((zV l).take k))).length<274877906944) :
 Calls Tryz.prog 40 #[v] w fun e w'=>∃r,e=.returned r∧dJ w' r (fF (zV l))∧Below w.heap.size w w':=by
 obtain ⟨x1,wI,rfl,_,hx1⟩:=bD.lD h;have Bo:=ae hx1;have HL:=ae hl;have ZB:=ae hbig;clear h hx1 hl hbig;have b0:=ai (w:=w) (.cells #[.slice none 0 0] 44);have z0:(w.alloc (.cells #[.slice none 0 0] 44)).heap[w.heap.size]? = some (.cells #[.slice none 0 0] 44):=heap_alloc_new' _ _ _ rfl;go_enter Tryz.func40,Tryz.ntmps40;go_wp2_with fail;refine (Ke 1 (by omega) _).mono ?_;rintro e w3 ⟨r3,rfl,n3,b3⟩;obtain ⟨a3,m3,yN,rfl,n3⟩:=n3.out;have E3:=ag b0 b3;have z0:=(b3.block _ (by simp)).trans z0;have z3:(w3.alloc (.cells #[.slice a3 m3 yN] 44)).heap[w3.heap.size]? = some (.cells #[.slice a3 m3 yN] 44):=heap_alloc_new' _ _ _ rfl;have n4:=n3.mono (ai (.cells #[.slice a3 m3 yN] 44));have b4:=ai (w:=w3) (.cells #[.slice a3 m3 yN] 44);have hne:w.heap.size<w3.heap.size:=by have:=b3.size;simp at this;omega
 have Z0:=ae z0;clear n3 b3 b0 z0;go_wp2_with fail;go_loopw [9] (fun i wr=>∃(j:Nat) (a5:Option Addr) (m5 cap5:Nat),j≤l.length∧i=.int .i64 j∧wr.heap[w3.heap.size]? = some (.cells #[.slice a5 m5 cap5] 44)∧dJ wr (.agg #[.slice a5 m5 cap5]) (fF ((zV l).take j))∧Below w3.heap.size w3 wr)
  (fun i _=>l.length-(intOf i).toNat)
 case atStart=>exact ⟨0,a3,m3,yN,Nat.zero_le _,rfl,z3,n4,b4⟩
 case round=>
  clear z3 n4 b4;obtain ⟨j,a5,m5,cap5,hj,rfl,z5,n5,b5⟩:=hrel;have hs5:=b5.size;have E5:=ag E3 b5;by_cases hjx:j<l.length
  ·obtain ⟨b,off,rfl,hb,hc⟩:=Bo.out j hjx;have hc:=aA E5 hc;have adv:=ZB.out _ (List.getElem_mem hjx);have HP:=ae (yO (zV l) j (by simpa using hjx));have hge:(zV l)[j]'(by simpa using hjx)=l[j].toNat:=by simp [zV]
   rw [hge] at HP;clear hge;generalize l[j]=d at *;obtain ⟨n,hn⟩:=af d.toNat;rw [←hn] at HP;have hmx:max d 0=(n:Int):=by omega
   have hwr:IntKind.u64.wrap (n:Int)=(n:Int):=by rw [IntKind.wrap_u64];omega
   have adw:n<18446744073709551616:=by omega
   have hO:=ae (Ke n adw);have PO:wr.cell? ⟨w3.heap.size,0,none⟩=some (.slice a5 m5 cap5):=by unfold World.cell?;rw [z5];rfl
   have T0:=wU wr;have hln:=ae (HL.out j hj);have hlD:=ae (show (aV B n).length≤2 from (aR bC).2 (by unfold B;omega));have HNN:=ae hn;clear hn adv;go_wp2_with fail;refine aD #[true,true,true,true,true,true,false] 6 1 mixed (by rfl) ?_;have Mg:=ag T0 (ah _);have hg0:=Gr.cell Mg PO;refine ay [0,1,2,3] 2 rfl (by kernel_rfl) ?_
   iterate 4 (refine aC rfl ?_;go_big_quiet_step (rfl))
   refine ak ?_;clear hg0;refine aL 4 (by kernel_rfl) rfl ?_;go_wp2_with fail;refine (hO.out _).mono ?_;rintro e Zl ⟨r1,rfl,p1,Mh⟩;go_wp2_with fail;refine aH Mh ?_;have M8:=ag Mg Mh;refine aL 5 (by kernel_rfl) rfl ?_;go_wp2_with fail;refine (VQ (n5.mono M8) p1 (by have:=hln.out;omega) (by have:=hlD.out;omega)).mono ?_;rintro e w7 ⟨r7,rfl,n7,Bv⟩;obtain ⟨a7,m7,Tt,rfl,n7⟩:=n7.out;go_wp2_with fail;refine aH Bv ?_;have b7:=ag M8 Bv;have z7:=(b7.block _ (block_lt z5)).trans z5;have aiI:w7.frozen? ⟨w3.heap.size,0,none⟩=false:=by unfold World.frozen?;rw [z7];rfl
   obtain ⟨c9,n9⟩:=qX z7 (by decide) n7;have z9:(w7.setCell ⟨w3.heap.size,0,none⟩ (.slice a7 m7 Tt)).heap[w3.heap.size]? = some (.cells #[.slice a7 m7 Tt] 44):=heap_setCell_same w7 w3.heap.size 0 _ _ _ z7;have b9:Below w3.heap.size w3 (w7.setCell ⟨w3.heap.size,0,none⟩ (.slice a7 m7 Tt)):=aj (b5.trans (b7.mono hs5)) (Nat.le_refl _);have adx:w7.cell? ⟨w3.heap.size,0,none⟩=some (.slice a5 m5 cap5):=by unfold World.cell?;rw [z7];rfl
   clear z7 n7 b7;refine aI [6] (by kernel_rfl) ?_;refine tail_cons rfl ?_;go_wp2_with fail;refine tail_nil ?_;go_wp2;go_roundw
   case rel=>exact ⟨j+1,a7,m7,Tt,by omega,rfl,z9,by rw [HP.out];exact n9,b9⟩
   case measure=>simp [intOf];omega
  ·obtain rfl:j=l.length:=by omega
   rw [List.take_of_length_le (by simp)] at n5;have z5':=(b5.block _ hne).trans Z0.out;have PO:wr.cell? ⟨w3.heap.size,0,none⟩=some (.slice a5 m5 cap5):=by unfold World.cell?;rw [z5];rfl
   have ady:wr.cell? ⟨w.heap.size,0,none⟩=some (.slice none 0 0):=by unfold World.cell?;rw [z5'];rfl
   have aiJ:wr.frozen? ⟨w.heap.size,0,none⟩=false:=by unfold World.frozen?;rw [z5'];rfl
   obtain ⟨q1,N9⟩:=qX z5' (by decide) n5;have VO:=aj (off:=0) (u:=.slice a5 m5 cap5) (b:=w.heap.size) E5 (Nat.le_refl _);clear z5' n5 z5;go_wp2;exact bodyPost_ret (v:=.agg #[.slice a5 m5 cap5]) (by simp [results,Tryz.results40,go_sem,q1]) rfl ⟨_,rfl,N9,VO⟩
def dN.sp (x:dN):Nat×List Nat:=(x.1,x.2.2)
def bU.sp (r:bU):fJ:=(r.1,r.2.2.map dN.sp)
structure fq (K:Nat→Nat) (l:List Nat) (j:Nat) (c:bU):Prop where
 rise:c.2.2.Pairwise fun a b=>a.1<b.1
 small:∀x∈c.2.2,x.1<1000000
 last:∀x,c.2.2.getLast? = some x→∃(i:Nat) (hi:i<l.length),j=i+1∧x.1=K l[i]
 len:c.2.2.length≤j
 marks:∀x∈c.2.2,x.2.2.length≤j
theorem fq.le {K:Nat→Nat} {l:List Nat} {j:Nat} {c:bU} (h:fq K l j c):∀x∈c.2.2,∀z,c.2.2.getLast? = some z→x.1≤z.1:=by
 intro x hx z hz;have hn:c.2.2≠[]:=fun e=>by rw [e] at hx;cases hx
 obtain ⟨q,y,e⟩:∃q y,c.2.2=q++[y]:=⟨c.2.2.dropLast,c.2.2.getLast hn,(List.dropLast_concat_getLast hn).symm⟩;have hr:=h.rise;rw [e] at hx hz hr;rw [List.getLast?_concat] at hz;cases hz;rcases List.mem_append.1 hx with hx|hx
 ·exact Nat.le_of_lt ((List.pairwise_append.1 hr).2.2 x hx z (by simp))
 ·rw [List.mem_singleton.1 hx];exact Nat.le_refl _
theorem fq.find {K:Nat→Nat} {l:List Nat} {j:Nat} {c:bU} (h:fq K l j c) (hin:iQ K l) (hj:j<l.length) (h0:K l[j]≠0) {k:Nat} {b:Bool} (hf:UD (c.2.2.map fun x=>(x.1,x.2.1)) (K l[j]) k b) :
 (b=false∧k=c.2.2.length∧∀x∈c.2.2,x.1<K l[j])∨(b=true∧∃q y,c.2.2=q++[y]∧y.1=K l[j]∧k=q.length):=by
 obtain ⟨f1,f2,f3,f4⟩:=hf;rw [List.length_map] at f1;simp only [List.length_map,List.getElem_map] at f2 f3 f4;by_cases hn:c.2.2=[]
 ·left;have hk:k=0:=by rw [hn] at f1;simpa using f1
  refine ⟨?_,by rw [hn];simpa using hk,by rw [hn];simp⟩;cases b with
  | false=>rfl
  | true=>
    obtain ⟨h1,_⟩:=f4.1 rfl;rw [hn] at h1;simp at h1
 ·obtain ⟨q,y,e⟩:∃q y,c.2.2=q++[y]:=⟨c.2.2.dropLast,c.2.2.getLast hn,(List.dropLast_concat_getLast hn).symm⟩;have hyl:c.2.2.getLast? = some y:=by rw [e,List.getLast?_concat]
  obtain ⟨i,hi,hij,hy⟩:=h.last y hyl;subst hij;have aiK:y.1≤K l[i+1]:=by
   rcases F6 hin hj with h1|h1
   ·exact absurd h1 h0
   ·rw [hy];exact h1
  have hlen:c.2.2.length=q.length+1:=by rw [e];simp
  have hyq:∀(ht:q.length<c.2.2.length),c.2.2[q.length]=y:=fun ht=>by simp [e]
  by_cases hyk:y.1=K l[i+1]
  ·right;have hkq:k≤q.length:=by
    rcases Nat.lt_or_ge q.length k with h1|h1
    ·have:=f2 q.length (by omega) h1;rw [hyq] at this;omega
    ·exact h1
   have hkk:k=q.length:=by
    rcases Nat.lt_or_ge k q.length with h1|h1
    ·exfalso;have h2:=f3 k (by omega) (Nat.le_refl _);have h3:=(List.pairwise_iff_getElem.1 h.rise) k q.length (by omega) (by omega) h1;rw [hyq] at h3;omega
    ·omega
   refine ⟨f4.2 ⟨by omega,?_⟩,q,y,e,hyk,hkk⟩;subst hkk;rw [hyq];exact hyk
  ·left;have hall:∀x∈c.2.2,x.1<K l[i+1]:=fun x hx=>by
    have:=h.le x hx y hyl;omega
   have hkl:k=c.2.2.length:=by
    rcases Nat.lt_or_ge k c.2.2.length with h1|h1
    ·have h2:=f3 k h1 (Nat.le_refl _);have h3:=hall _ (List.getElem_mem h1);omega
    ·omega
   refine ⟨?_,hkl,hall⟩;cases b with
   | false=>rfl
   | true=>
     obtain ⟨h1,_⟩:=f4.1 rfl;omega
theorem fq.nil (K:Nat→Nat) (l:List Nat) (j h:Nat) (v:Value):fq K l j (h,v,[]):=⟨List.Pairwise.nil,by simp,by simp,by simp,by simp⟩
theorem fq.new {K:Nat→Nat} {l:List Nat} {j:Nat} {c:bU} (h:fq K l j c) (hj:j<l.length) (hk:K l[j]<1000000) (hall:∀x∈c.2.2,x.1<K l[j]) (v v':Value) (m:Nat):fq K l (j+1) (c.1,v,c.2.2++[(K l[j],v',[m])]):=by
 refine ⟨List.pairwise_append.2 ⟨h.rise,by simp,fun a ha b hb=>?_⟩,fun x hx=>?_,fun x hx=>?_,by have:=h.len;simp;omega,fun x hx=>?_⟩
 ·rw [List.mem_singleton.1 hb];exact hall a ha
 ·rcases List.mem_append.1 hx with hx|hx
  ·exact h.small x hx
  ·rw [List.mem_singleton.1 hx];exact hk
 ·rw [List.getLast?_concat] at hx;cases hx;exact ⟨j,hj,rfl,rfl⟩
 ·rcases List.mem_append.1 hx with hx|hx
  ·exact Nat.le_succ_of_le (h.marks x hx)
  ·rw [List.mem_singleton.1 hx];simp
theorem fq.more {K:Nat→Nat} {l:List Nat} {j:Nat} {hd:Nat} {v:Value} {q:List dN} {y:dN} (h:fq K l j (hd,v,q++[y])) (hj:j<l.length) (hy:y.1=K l[j]) (v':Value) (m:Nat):fq K l (j+1) (hd,v,q++[(y.1,v',y.2.2++[m])]):=by
 have hr:=List.pairwise_append.1 h.rise;refine ⟨List.pairwise_append.2 ⟨hr.1,by simp,fun a ha b hb=>?_⟩,fun x hx=>?_,fun x hx=>?_,by have:=h.len;simp at this ⊢;omega,fun x hx=>?_⟩
 ·rw [List.mem_singleton.1 hb];exact hr.2.2 a ha y (by simp)
 ·rcases List.mem_append.1 hx with hx|hx
  ·exact h.small x (by simp [hx])
  ·rw [List.mem_singleton.1 hx];exact h.small y (by simp)
 ·rw [List.getLast?_concat] at hx;cases hx;exact ⟨j,hj,rfl,hy⟩
 ·rcases List.mem_append.1 hx with hx|hx
  ·exact Nat.le_succ_of_le (h.marks x (by simp [hx]))
  ·rw [List.mem_singleton.1 hx];have:=h.marks y (by simp);simp;omega
section
open Go.RowKit Go.Cd
theorem Gm (bs:List Nat):zV (bs.map fun b:Nat=>(b:Int))=bs:=by
 unfold zV;rw [List.map_map];exact (List.map_congr_left fun _ _=>rfl).trans (List.map_id _)
theorem Gn {xs:List Nat} (h:∀x∈xs,x<B):∀k,k≤xs.length→fF (xs.take k)<B ^ k∨k=0∧fF (xs.take k)=1:=by
 intro k
 induction k with
 | zero=>intro _;exact .inr ⟨rfl,by simp [fF]⟩
 | succ k ih=>
   intro hk;left;rw [yO xs k (by omega),Nat.pow_succ];have hx:=h _ (List.getElem_mem (show k<xs.length by omega));rcases ih (by omega) with h1|⟨h0,h1⟩
   ·exact Nat.mul_lt_mul'' h1 hx
   ·subst h0;rw [h1];simpa using hx
theorem yP {xs:List Nat} (h:∀x∈xs,x<B) (k:Nat) (hk:k≤xs.length):(aV B (fF (xs.take k))).length≤k+1:=by
 rw [aR bC];rcases Gn h k hk with h1|⟨h0,h1⟩
 ·exact Nat.lt_of_lt_of_le h1 (Nat.pow_le_pow_right (by decide) (by omega))
 ·subst h0;rw [h1];unfold B;decide
def PQ (r:bU):Nat:=fF (fK r.2.2)
def fu (Rs:List bU):Nat:=(Rs.map PQ).sum
theorem uH {Rs:List bU} {j:Nat} (hj:j<Rs.length):fu (Rs.take (j+1))=fu (Rs.take j)+PQ Rs[j]:=by
 unfold fu;rw [List.take_succ_eq_append_getElem hj,List.map_append,List.sum_append];simp
def Bz (Rs:List bU):Prop:=Rs.length<10000∧∀r∈Rs,r.2.2.length<10000∧∀x∈r.2.2,x.2.2.length<10000
theorem qH {r:bU} (h:∀x∈r.2.2,x.2.2.length<10000):∀b∈fK r.2.2,b<B:=fun b hb=>by
 obtain ⟨x,hx,rfl⟩:=List.mem_map.1 hb;have:=h x hx;unfold B;omega
theorem Tu {r:bU} (h1:r.2.2.length<10000) (h:∀x∈r.2.2,x.2.2.length<10000) {n:Nat} (hn:10001≤n):PQ r<B ^ n:=by
 have h2:=yP (qH h) (fK r.2.2).length (Nat.le_refl _);rw [List.take_length,aR bC,yH] at h2;exact Nat.lt_of_lt_of_le h2 (Nat.pow_le_pow_right (by decide) (by omega))
theorem Kg {Rs:List bU} (h:Bz Rs) {j:Nat} (hj:j≤Rs.length):(aV B (fu (Rs.take j))).length≤20002:=by
 obtain ⟨k,hk⟩:=af 20002;rw [←hk,aR bC];obtain ⟨n,hn⟩:=af 10001;have key:∀j,j≤Rs.length→fu (Rs.take j)≤j*B ^ n:=fun j=>by
  induction j with
  | zero=>intro _;simp [fu]
  | succ j ih=>
    intro hj;rw [uH (by omega),Nat.add_mul,Nat.one_mul];have h1:=h.2 _ (List.getElem_mem (show j<Rs.length by omega));exact Nat.add_le_add (ih (by omega)) (Nat.le_of_lt (Tu h1.1 h1.2 (by omega)))
 have h1:=key j hj;have h2:j*B ^ n<B*B ^ n:=Nat.mul_lt_mul_of_pos_right (by have:=h.1;unfold B;omega) (Nat.pow_pos (by decide));rw [←Nat.pow_succ'] at h2;exact Nat.lt_of_lt_of_le (Nat.lt_of_le_of_lt h1 h2) (Nat.pow_le_pow_right (by decide) (by omega))
structure zY (w:World) (B N p:Nat) (dv rs gZ:Value) (small:Bool) (Rs:List bU):Prop where
 is:Is w p #[dv,rs,gZ,.bool small] 76
 runs:w.ownsRow B eP 6 rs Rs.length (Rs.flatMap jX)
 wL:∀r∈Rs,sI w N r
 low:B≤p
 hi:p<N∧N≤w.heap.size
section
variable {w w' : World} {B N p : Nat} {dv rs gZ : Value} {small : Bool} {Rs : List bU}
theorem zY.ext (h:zY w B N p dv rs gZ small Rs) (hb:Below w.heap.size w w'):zY w' B N p dv rs gZ small Rs:=
 ⟨h.is.mono hb,aG h.runs hb,fun r hr=>(h.wL r hr).keep (.of_below (hb.mono h.hi.2) hb.size) (.of_below (hb.mono h.hi.2) hb.size),h.low,h.hi.1,Nat.le_trans h.hi.2 hb.size⟩
theorem zY.put (h:zY w B N p dv rs gZ small Rs) (o:Nat) (u:Value) {VS:Value} {Jh:Bool} (he:(#[dv,rs,gZ,.bool small]:Array Value).setIfInBounds o u=#[dv,rs,VS,.bool Jh]):zY (w.setCell ⟨p,o,none⟩ u) B N p dv rs VS Jh Rs:=by
 have c:=bK.put (o:=o) h.is u;exact ⟨he▸h.is.set o u,c.own h.runs (by decide),fun r hr=>(h.wL r hr).keep (.fI c (by decide) N h.hi.2) (.fI c (by decide) N h.hi.2),h.low,h.hi.1,by simpa using h.hi.2⟩
end
theorem DF.made {w:World} {B p:Nat} {dv rs:Value} {Rs:List bU} {c:bU} {F G:Nat} (h:DF w B p dv rs Rs c F G):zY w B w.heap.size p dv rs (.slice none 0 0) false (Rs++[c]):=by
 refine ⟨h.is,by rw [List.length_append];exact h.runs,fun r hr=>?_,h.low,h.is.lt,Nat.le_refl _⟩;rcases List.mem_append.1 hr with hr|hr
 ·exact (h.wL r hr).le (Nat.le_trans h.cur.fg h.cur.gs)
 ·rw [List.mem_singleton.1 hr];exact h.cur.wL
theorem PS {n c k:Nat} {Ls:List (Nat×List Nat)} (h1:Ls.length≤k) (h2:∀x∈Ls,x.2.length≤k):(uC n c Ls).length≤k+1∧∀x∈uC n c Ls,x.2.length≤k+1:=by
 have hnew:(Ls++[(n,[c])]).length≤k+1∧∀x∈Ls++[(n,[c])],x.2.length≤k+1:=by
  refine ⟨by simp;omega,fun x hx=>?_⟩;rcases List.mem_append.1 hx with hx|hx
  ·have:=h2 x hx;omega
  ·rw [List.mem_singleton.1 hx];simp
 rcases List.eq_nil_or_concat Ls with e|⟨q,y,e⟩
 ·subst e;rw [sJ (by simp)];exact hnew
 ·have e':Ls=q++[y]:=by simpa using e
  by_cases hy:y.1=n
  ·subst e';rw [show y=(y.1,y.2) from rfl,uD hy];refine ⟨by simpa using Nat.le_succ_of_le h1,fun x hx=>?_⟩;rcases List.mem_append.1 hx with hx|hx
   ·have:=h2 x (by simp [hx]);omega
   ·rw [List.mem_singleton.1 hx];have:=h2 y (by simp);simp;omega
  ·rw [sJ (fun x hx=>by rw [e',List.getLast?_concat] at hx;injection hx with hx;rw [←hx];exact hy)];exact hnew
def Mo (k:Nat) (rs:List fJ):Prop:=rs≠[]∧rs.length≤k+1∧∀r∈rs,r.2.length≤k∧∀x∈r.2,x.2.length≤k
theorem PT {K:Nat→Nat} {rs:List fJ} {c k:Nat} (h:Mo k rs):Mo (k+1) (yF K rs c):=by
 obtain ⟨h0,h1,h2⟩:=h;by_cases hc:K c=0
 ·rw [yG hc];refine ⟨by simp,by simp;omega,fun r hr=>?_⟩;rcases List.mem_append.1 hr with hr|hr
  ·exact ⟨Nat.le_succ_of_le (h2 r hr).1,fun x hx=>Nat.le_succ_of_le ((h2 r hr).2 x hx)⟩
  ·rw [List.mem_singleton.1 hr];exact ⟨Nat.zero_le _,by simp⟩
 ·rcases List.eq_nil_or_concat rs with e|⟨q,y,e⟩
  ·exact absurd e h0
  ·have e':rs=q++[y]:=by simpa using e
   subst e';rw [uE hc];refine ⟨by simp,by simp at h1 ⊢;omega,fun r hr=>?_⟩;rcases List.mem_append.1 hr with hr|hr
   ·have:=h2 r (by simp [hr]);exact ⟨Nat.le_succ_of_le this.1,fun x hx=>Nat.le_succ_of_le (this.2 x hx)⟩
   ·rw [List.mem_singleton.1 hr];have:=h2 y (by simp);exact PS this.1 this.2
theorem kM (K:Nat→Nat) (l:List Nat):Mo l.length (dU K l):=by
 have key:∀(l:List Nat) k rs,Mo k rs→Mo (k+l.length) (l.foldl (yF K) rs):=fun l=>by
  induction l with
  | nil=>intro k rs h;exact h
  | cons c l ih=>
    intro k rs h;have:=ih (k+1) _ (PT (K:=K) (c:=c) h);rw [List.length_cons,show k+(l.length+1)=k+1+l.length by omega];exact this
 have:=key l 0 [(0,[])] ⟨by simp,by simp,fun r hr=>by rw [List.mem_singleton.1 hr];exact ⟨Nat.le_refl _,by simp⟩⟩;rw [Nat.zero_add] at this;exact this
theorem Bz.of {Rs:List bU} {k:Nat} (h:Mo k (Rs.map bU.sp)) (hk:k<9000):Bz Rs:=by
 obtain ⟨_,h1,h2⟩:=h;refine ⟨by rw [List.length_map] at h1;omega,fun r hr=>?_⟩;have:=h2 _ (List.mem_map.2 ⟨r,hr,rfl⟩);refine ⟨by have:=this.1;simp [bU.sp] at this;omega,fun x hx=>?_⟩;have:=this.2 _ (List.mem_map.2 ⟨x,hx,rfl⟩);simp [dN.sp] at this;omega
end
end Go.Proofs.YtjidohgiigjifaaGreatDoor
