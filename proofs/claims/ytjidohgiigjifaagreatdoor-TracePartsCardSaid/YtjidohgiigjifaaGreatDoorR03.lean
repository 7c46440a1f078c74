/- TraceParts and TraceWalks: a machine takes a character as those of its full decomposition, one by one; texts that are alike go through it, and of others none; no condition. -/
import Derived.Test.YtjidohgiigjifaaGreatDoorR02
import Derived.Lib.Split
import Derived.Lib.Atoi
import Derived.Shelf.Strings.Builder1
import Derived.Shelf.Strings.Builder2
import Derived.Shelf.Strings.OnBuilder
import Derived.Shelf.Strings.Trim
import Derived.Shelf.Small.Utf8
import Derived.Shelf.Small.Bits
import Derived.Shelf.Small.Strs
import Derived.Shelf.Small.Wraps
import Derived.Shelf.Strings.BuilderF
import Derived.Shelf.Strings.BuilderK
import Derived.Shelf.Utf8.RuneCount
import Derived.Shelf.Strconv.Atoi
import Derived.Shelf.Strconv.Itoa0
import Derived.Shelf.Strconv.Itoa1
import Derived.Shelf.LaysM
import Derived.Shelf.Strconv.Itoa2
import Derived.Shelf.Strconv.Itoa3
import Derived.Shelf.Strconv.AtoiErrFast
import Derived.Shelf.Strings.Search1
import Derived.Shelf.Strings.Search2
import Derived.Shelf.Strings.Search3
import Derived.Shelf.Strings.Cut
import Derived.Shelf.Strings.Count
import Derived.Shelf.Strings.Shaped
import Derived.Shelf.Strings.Prefix
import Derived.Shelf.Strings.Split
import Derived.Shelf.Unicode.Latin
import Derived.Shelf.Unicode.Decode
import Derived.Shelf.Strings.Runes
import Derived.Shelf.Strings.RuneCount
import Derived.Shelf.Strings.AsciiSet
import Derived.Shelf.Bits.Mul64
import Derived.Shelf.Strings.Repeat
import Derived.Shelf.Unicode.DecodeSlow
import Derived.Shelf.Unicode.CaseLookup
import Derived.Shelf.Unicode.CaseConvert
import Derived.Shelf.Unicode.CaseTo
import Derived.Shelf.Unicode.CaseLaid
import Derived.Ground.Names2Prog
import Derived.Shelf.Slices.Clone
import Derived.Ground.SlgnProg
import Derived.Shelf.SlicesE.Equal
import Derived.Shelf.SlicesE.Clone
import Derived.Test.YtjidohgiigjifaaGreatDoorProg
set_option maxRecDepth 100000
set_option maxHeartbeats 6400000
namespace Go.Proofs.YtjidohgiigjifaaGreatDoor
open Go.RowKit Go.Cd
theorem Ar (c:Nat):(cO c).length≤2:=by
 unfold cO
 split
 ·exact Nat.le_refl _
 ·split
  ·exact Nat.le_refl _
  ·exact Nat.zero_le _
theorem Au {T:List aF} (h:∀r∈T,r.map.length≤4) (c:Nat):(mapOf T c).length≤4:=by
 unfold mapOf
 split
 ·unfold bF;cases hr:rowOf T c with
  | none=>exact Nat.zero_le _
  | some r=>exact h r (List.mem_of_find?_eq_some hr)
 ·exact Nat.le_trans (Ar c) (by decide)
theorem Hu (M:Nat→List Nat) (l:List Nat) (x:Nat):bX M (l++[x])=bX M l++if M x=[] then [x] else M x:=by
 unfold bX;rw [List.flatMap_append];simp
theorem DX {M:Nat→List Nat} {k:Nat} (hk:1≤k) (h:∀x,(M x).length≤k):∀l:List Nat,(bX M l).length≤k*l.length
 | []=>Nat.zero_le _
 | c::l=>by
   have ih:=DX hk h l;unfold bX at ih ⊢;rw [List.flatMap_cons,List.length_append,List.length_cons,Nat.mul_add];have:(if M c=[] then [c] else M c).length≤k:=by split;exact hk;exact h c
   omega
def anyM (M:Nat→List Nat) (l:List Nat):Bool:=l.any fun x=>!(M x).isEmpty
theorem KG (M:Nat→List Nat) (l:List Nat) (x:Nat):anyM M (l++[x])=(anyM M l||!(M x).isEmpty):=by unfold anyM;simp
theorem gL:Elem Tryz.prog 23 aU (.int .i64 0) 8:=⟨rfl,Tryz.underlying23,info_parts (by kernel_rfl)⟩
theorem gM (l:List Nat):∀u∈ints l,u.oneCell'=true:=by
 intro u hu;obtain ⟨d,_,rfl⟩:=List.mem_map.1 hu;rfl
theorem kE (l m:List Nat):ints (l++m)=ints l++ints m:=by simp [ints]
theorem bD.kS {w:World} {v:Value} {l:List Nat} {n:Nat} (h:bD w v (ints l)) (hn:n=l.length):∃a cap,v=.slice a n cap∧n≤cap∧
 ∀i (hi:i<l.length),∃b off,a=some ⟨b,off,none⟩∧b<w.heap.size∧w.cell? ⟨b,off+i,none⟩=some (.int .i64 (l[i]:Nat)):=by
 subst hn;obtain ⟨a,cap,rfl,hc,hx⟩:=Go.Cd.bD.out h;have el:(ints l).length=l.length:=dw _;refine ⟨a,cap,by rw [el],by omega,fun i hi=>?_⟩;obtain ⟨b,off,h1,h2,h3⟩:=hx i (by omega);exact ⟨b,off,h1,h2,by rw [h3];simp [ints]⟩
theorem aW {w:World} {B B':Nat} {e:TypeId} {size:Nat} {v:Value} {n:Nat} {xs:List Value} (h:w.ownsRow B e size v n xs) (hb:B'≤B):w.ownsRow B' e size v n xs:=by
 obtain ⟨h1,h2⟩:=h;refine ⟨h1,h2.imp id ?_⟩;rintro ⟨g,cap,cur,hv,hg,r⟩;exact ⟨g,cap,cur,hv,Nat.le_trans hb hg,r⟩
theorem iw.shape {w:World} {v:Value} {T:List aF} {X:List Nat} (h:iw w v T X):∃a nt cap ax nx cx,v=.agg #[.slice a nt cap,.slice ax nx cx]:=by
 obtain ⟨r,x,rfl,⟨a,cap,rfl,_⟩,h2⟩:=h;obtain ⟨ax,cx,rfl,_,_⟩:=Go.Cd.bD.out h2;exact ⟨_,_,_,_,_,_,rfl⟩
theorem BV {w:World} {v u:Value} {T:List aF} {X L:List Nat} (h:iw w v T X) (hl:bD w u (ints L)) (hL:∀x∈L,x<1114112) (DY:∀r∈T,r.map.length≤4) (hmax:T.length<1000000) (Qw:L.length<1000000) :
 Calls Tryz.prog 68 #[v,u] w fun e w'=>∃r,e=.returned (.tuple #[r,.bool (anyM (mapOf T) L)])∧w'.ownsRow w.heap.size aU 1 r (bX (mapOf T) L).length (ints (bX (mapOf T) L))∧Below w.heap.size w w':=by
 have HT:=ae h;obtain ⟨a,nt,cap,ax,nx,cx,rfl⟩:=h.shape;obtain ⟨n,hn⟩:=af L.length;obtain ⟨al,cl,rfl,_,hx⟩:=bD.kS hl hn;have HN:=ae hn;have HX:=ae hx;have HL:=ae hL;have G6:n<1000000:=by omega
 have Uk:=ae (fun l=>DX (M:=mapOf T) (k:=4) (by decide) (Au DY) l);have DZ:=ae (Au DY);have hb:=ai (w:=w) (.cells #[.slice a nt cap,.slice ax nx cx] 25);have d0:(w.alloc (.cells #[.slice a nt cap,.slice ax nx cx] 25)).cell? ⟨w.heap.size,0,none⟩=some (.slice a nt cap):=by unfold World.cell?;rw [heap_alloc_new];rfl
 have d1:(w.alloc (.cells #[.slice a nt cap,.slice ax nx cx] 25)).cell? ⟨w.heap.size,1,none⟩=some (.slice ax nx cx):=by unfold World.cell?;rw [heap_alloc_new];rfl
 obtain ⟨W0,hW⟩:=af (w.alloc (.cells #[.slice a nt cap,.slice ax nx cx] 25));rw [←hW] at hb d0 d1;obtain ⟨W1,hW1⟩:=af (W0.alloc (.cells #[] aU));have hb1:Below W0.heap.size W0 W1:=by subst hW1;exact ai _
 have o1:W1.ownsRow W0.heap.size aU 1 (.slice (some ⟨w.heap.size+1,0,none⟩) 0 0) 0 (ints []):=by
  subst hW1;have:=il W0 aU;rw [show W0.heap.size=w.heap.size+1 by rw [hW];simp] at this ⊢;exact this
 rw [hW] at hW1;have hs0:W0.heap.size=w.heap.size+1:=by rw [hW];simp
 clear hW h hl hx hn hL DY;go_enter Tryz.func68,Tryz.ntmps68;go_wp2_with fail;rw [←hW1];clear hW1;go_loopw [6,7,14] (fun ov sv iv wr=>∃j:Nat,j≤n∧iv=.int .i64 j∧sv=.bool (anyM (mapOf T) (L.take j))∧wr.ownsRow W0.heap.size aU 1 ov (bX (mapOf T) (L.take j)).length (ints (bX (mapOf T) (L.take j)))∧Below W0.heap.size W0 wr) (fun _ _ iv _=>n-(intOf iv).toNat)
 case atStart=>exact ⟨0,Nat.zero_le _,rfl,rfl,o1,hb1⟩
 case round=>
  clear o1 hb1;obtain ⟨j,hj,rfl,rfl,ho,hE⟩:=hrel;have dC:=hb.trans (hE.mono hb.size);by_cases hjn:j<n
  ·have hjl:j<L.length:=by have:=HN.out;omega
   obtain ⟨b,off,rfl,hbs,hc⟩:=HX.out j hjl;have hc:=aA dC hc;have e0:=aA hE d0;have e1:=aA hE d1;have hx:=HL.out _ (List.getElem_mem hjl);have hlen:=Uk.out (L.take j);rw [List.length_take] at hlen;have ES:=ae (show bX (mapOf T) (L.take (j+1))=_ by rw [List.take_succ_eq_append_getElem hjl,Hu]);have EA:=ae (show anyM (mapOf T) (L.take (j+1))=_ by rw [List.take_succ_eq_append_getElem hjl,KG]);generalize bX (mapOf T) (L.take j)=S at *;generalize anyM (mapOf T) (L.take j)=A at *;generalize L[j]=x at *;have MA:=ae (uR (HT.out.mono dC) x hx hmax);have ko:=DZ.out x;go_wp2_with fail;refine MA.out.mono ?_;rintro e w2 ⟨r2,rfl,s2,h2⟩;have hE2:=ag hE h2;have ho2:=aG ho h2;have S2:=ae s2;generalize mapOf T x=m at *;obtain ⟨nm,hnm⟩:=af m.length;obtain ⟨a2,c2,rfl,_,_⟩:=bD.kS s2 hnm;have qh:=ae hnm;by_cases hm0:m=[]
   ·have h0:nm=0:=by rw [hnm,hm0];rfl
    subst h0;have ES':=ae (ES.out.trans (by rw [if_pos hm0]):bX (mapOf T) (L.take (j+1))=S++[x]);have EA':=ae (EA.out.trans (by rw [hm0];simp):anyM (mapOf T) (L.take (j+1))=A);clear MA s2 hnm hm0 ES EA e0 e1;go_wp2_with (at_builtin;refine pg rfl _ _ 23 rfl W0.heap.size aU _ 8 gL _ S.length _ rfl ho2 _ rfl rfl (by omega) (by unfold maxLen;omega) W0 hE2 (Nat.le_refl _) ?_;intro v' w3 hown' hb' _ _);go_roundw
    case rel=>exact ⟨j+1,by omega,rfl,by rw [EA'.out],by rw [ES'.out,kE,List.length_append];exact hown',hb'⟩
    case measure=>simp [intOf];omega
   ·have h0:¬nm=0:=fun h=>hm0 (List.length_eq_zero_iff.1 (hnm▸h));have z:((nm:Int)==0)=false:=by simp;omega
    have ag8:nm≤4:=by omega
    have ES':=ae (ES.out.trans (by rw [if_neg hm0]):bX (mapOf T) (L.take (j+1))=S++m);have EA':=ae (EA.out.trans (by cases m with|nil=>exact absurd rfl hm0|cons y m=>simp):anyM (mapOf T) (L.take (j+1))=true);have hil:(ints m).length=nm:=by rw [dw,hnm]
    clear MA s2 hnm hm0 ES EA e0 e1;go_wp2_with (at_builtin;refine bG rfl _ _ 23 rfl W0.heap.size aU _ 8 gL _ S.length _ rfl ho2 _ (ints m) rfl S2.out (gM m) (by rw [hil];unfold maxLen;omega) (by rw [hil];omega) hE2.size ?_;intro v' w3 hown' hgrow);have j_:=hE2.grown hgrow hE2.size (fun k hk=>(ho2.lt k hk).1);go_roundw
    case rel=>exact ⟨j+1,by omega,rfl,by rw [EA'.out],by rw [ES'.out,kE,List.length_append,←qh.out,←hil];exact hown',j_⟩
    case measure=>simp [intOf];omega
  ·obtain rfl:j=n:=by omega
   rw [List.take_of_length_le (by rw [HN.out];exact Nat.le_refl _)] at ho ⊢;go_wp2;go_ret2;exact ⟨_,rfl,aW ho (by omega),dC⟩
def tx (l:List UInt8):ByteArray:=⟨l.toArray⟩
theorem Nr (l:List Nat):str l=tx (l.map UInt8.ofNat):=rfl
theorem cZ (a b:List UInt8):tx a++tx b=tx (a++b):=by
 apply ByteArray.ext;simp [tx,ByteArray.data_append]
theorem bn (a:List UInt8):(tx a).size=a.length:=by simp [tx,ByteArray.size]
theorem w_ (w:World) (cs:Array Value) (n:Nat) (L:List Nat) (hn:cs.size=n) (hL:cs.toList=Nq L) (h:∀d∈L,d<256) :
 (convert 157 9 (.slice (some ⟨w.heap.size,0,none⟩) n n)).run Tryz.prog (w.alloc (.cells cs Xb))=.ok (.string (str L)) (w.alloc (.cells cs Xb)):=by
 subst hn;have:=lY w cs Xb;rw [hL] at this;exact DW this h
structure abY (w:World):Prop where
 c0:w.cell? ⟨0,0,none⟩=some (.int .u8 0)
 c1:w.cell? ⟨0,1,none⟩=some (.int .u8 127)
 c2:w.cell? ⟨0,2,none⟩=some (.int .i32 0)
 c3:w.cell? ⟨0,3,none⟩=some (.int .u8 192)
 c4:w.cell? ⟨0,4,none⟩=some (.int .u8 31)
 c5:w.cell? ⟨0,5,none⟩=some (.int .i32 128)
 c6:w.cell? ⟨0,6,none⟩=some (.int .u8 224)
 c7:w.cell? ⟨0,7,none⟩=some (.int .u8 15)
 c8:w.cell? ⟨0,8,none⟩=some (.int .i32 2048)
 c9:w.cell? ⟨0,9,none⟩=some (.int .u8 240)
 c10:w.cell? ⟨0,10,none⟩=some (.int .u8 7)
 c11:w.cell? ⟨0,11,none⟩=some (.int .i32 65536)
theorem JR (l:List UInt8) (i:Nat) (h:i<(tx l).size):(tx l)[i]'h=l[i]'(by rwa [bn] at h):=by
 show (tx l).data[i]=_;simp [tx]
theorem Ns (a b:List UInt8) (n:Nat) (h:a.length=n):(tx (a++b)).extract n (n+b.length)=tx b:=by
 subst h;apply ByteArray.ext;rw [ByteArray.data_extract];apply Array.ext';simp [tx]
end Go.Proofs.YtjidohgiigjifaaGreatDoor
namespace Go.Cd
open Go.Lib
theorem qi (c:UInt8):∀(p r:List UInt8),c∉p→index (p++c::r) [c]=p.length
 | [],r,_=>by
   show index (c::r) [c]=0;unfold index;rw [if_pos (by simp [List.isPrefixOf])]
 | b::p,r,h=>by
   have ih:=qi c p r (fun h1=>h (by simp [h1]));show index (b::(p++c::r)) [c]=_;unfold index;have hb:c≠b:=fun h1=>h (by simp [h1]);rw [if_neg (by simp [List.isPrefixOf,hb]),ih];rw [if_neg (by simp)];simp
theorem kF (c:UInt8):∀(p:List UInt8),c∉p→index p [c]=-1
 | [],_=>rfl
 | b::p,h=>by
   have ih:=kF c p (fun h1=>h (by simp [h1]));unfold index;have hb:c≠b:=fun h1=>h (by simp [h1]);rw [if_neg (by simp [List.isPrefixOf,hb]),ih];rfl
def bu (c:UInt8):List (List UInt8)→List UInt8
 | []=>[]
 | [p]=>p
 | p::q::l=>p++c::bu c (q::l)
theorem xe (c:UInt8):∀(l:List (List UInt8)),l≠[]→(∀p∈l,c∉p)→split (bu c l) [c]=l
 | [],h,_=>absurd rfl h
 | [p],_,h=>by
   have:=kF c p (h p (by simp));show splitK [c] 0 (count p [c]) p=[p];rw [count_miss this];rfl
 | p::q::l,_,h=>by
   have ih:=xe c (q::l) (by simp) (fun x hx=>h x (by simp [hx]));have hi:=qi c p (bu c (q::l)) (h p (by simp));show splitK [c] 0 (count (p++c::bu c (q::l)) [c]) (p++c::bu c (q::l))=_;have hd:(p++c::bu c (q::l)).drop (p.length+1)=bu c (q::l):=by
    rw [show p++c::bu c (q::l)=(p++[c])++bu c (q::l) by simp,List.drop_left' (by simp)]
   rw [count_hit (by simp) hi,Nat.add_comm 1];unfold splitK;rw [hi,if_neg (by simp)];show (p++c::bu c (q::l)).take (p.length+0)::splitK [c] 0 _ ((p++c::bu c (q::l)).drop (p.length+1))=_;rw [List.take_left' (by simp)];simp only [List.length_singleton];rw [hd];have ih':splitK [c] 0 (count (bu c (q::l)) [c]) (bu c (q::l))=q::l:=ih;rw [ih']
theorem Hw (r:aF):jh r=bu 59 (XU r):=by
 unfold jh XU;simp [bu]
theorem ow:∀(l:List Nat),b_ l=bu 32 (l.map aS)
 | []=>rfl
 | [c]=>rfl
 | c::d::l=>by
   show aS c++32::b_ (d::l)=aS c++32::bu 32 (aS d::l.map aS);rw [ow (d::l)];rfl
def Nt:List UInt8:=[48,49,50,51,52,53,54,55,56,57,65,66,67,68,69,70]
theorem vU:∀d,d<16→indexByte Nt (jC d)=d:=by decide
theorem Nu (n:Nat):cut (aS n) [35]=(aS n,[],false):=by
 unfold cut;rw [kF 35 (aS n) (fun h=>(dA n _ h).2.2.2.1 rfl)];rfl
theorem KH:∀n,n<255→atoi (gD n)=some (n:Int):=by decide
end Go.Cd
namespace Go.Proofs
section
open Go.Shelf
def Tryz.uU:Go.Shelf.Ren:=⟨fun|169=>96|n=>n,fun|70=>156|9=>9|0=>0|72=>159|37=>157|127=>230|3=>3|5=>5|n=>n,fun|n=>n⟩
theorem Tryz.QX:Go.Proofs.Lays.n169 Tryz.prog Tryz.uU:={
 mixed:=by kernel_rfl
 f169:=Tryz.func96.trans (congrArg some (by kernel_rfl))
 t0:=Tryz.underlying0
 a0:=Tryz.isAgg0
 z0:=Tryz.sizeOf0
 v0:=Tryz.zeroValue0
 t3:=Tryz.underlying3
 a3:=Tryz.isAgg3
 z3:=Tryz.sizeOf3
 v3:=Tryz.zeroValue3
 t9:=Tryz.underlying9
 a9:=Tryz.isAgg9
 z9:=Tryz.sizeOf9
 v9:=Tryz.zeroValue9
 t37:=Tryz.underlying157
 a37:=Tryz.isAgg157
 z37:=Tryz.sizeOf157
 v37:=Tryz.zeroValue157
 t70:=Tryz.underlying156
 a70:=Tryz.isAgg156
 z70:=Tryz.sizeOf156
 v70:=Tryz.zeroValue156
 t72:=Tryz.underlying159
 a72:=Tryz.isAgg159
 z72:=Tryz.sizeOf159
 v72:=Tryz.zeroValue159
 t127:=Tryz.underlying230
 a127:=Tryz.isAgg230
 z127:=Tryz.sizeOf230
 v127:=Tryz.zeroValue230 }
theorem Tryz.rq:Builder.Extra Tryz.prog Tryz.uU:={
 sizeBuilder:=by kernel_rfl
 liesBuilder:=by kernel_rfl
 t5:=Tryz.underlying5
 a5:=Tryz.isAgg5
 z5:=Tryz.sizeOf5
 v5:=Tryz.zeroValue5
 infoByte:=by kernel_rfl
 cellsByte:=by kernel_rfl
 sizeByte:=by kernel_rfl
 neB5:=by decide }
def Tryz.uV:Go.Shelf.Ren:=⟨fun|158=>171|165=>175|166=>93|167=>201|169=>96|230=>202|203=>203|240=>135|241=>208|197=>217|118=>221|168=>222|270=>223|262=>224|276=>170|277=>232|260=>243|242=>247|313=>248|278=>264|274=>265|275=>266|n=>n,fun|9=>9|4=>4|3=>3|5=>5|72=>159|0=>0|76=>167|75=>108|107=>312|70=>156|20=>20|37=>157|127=>230|21=>21|105=>319|164=>281|162=>340|203=>266|119=>353|46=>49|139=>356|138=>355|51=>95|160=>357|208=>367|206=>365|80=>111|n=>n,fun|13=>1|3=>3|4=>4|n=>n⟩
theorem Tryz.QY:Go.Proofs.Lays.n158 Tryz.prog Tryz.uV:={
 mixed:=by kernel_rfl
 f118:=Tryz.func221.trans (congrArg some (by kernel_rfl))
 f158:=Tryz.func171.trans (congrArg some (by kernel_rfl))
 f165:=Tryz.func175.trans (congrArg some (by kernel_rfl))
 f166:=Tryz.func93.trans (congrArg some (by kernel_rfl))
 f167:=Tryz.func201.trans (congrArg some (by kernel_rfl))
 f168:=Tryz.func222.trans (congrArg some (by kernel_rfl))
 f169:=Tryz.func96.trans (congrArg some (by kernel_rfl))
 f197:=Tryz.func217.trans (congrArg some (by kernel_rfl))
 f203:=Tryz.func203.trans (congrArg some (by kernel_rfl))
 f230:=Tryz.func202.trans (congrArg some (by kernel_rfl))
 f240:=Tryz.func135.trans (congrArg some (by kernel_rfl))
 f241:=Tryz.func208.trans (congrArg some (by kernel_rfl))
 f242:=Tryz.func247.trans (congrArg some (by kernel_rfl))
 f260:=Tryz.func243.trans (congrArg some (by kernel_rfl))
 f262:=Tryz.func224.trans (congrArg some (by kernel_rfl))
 f270:=Tryz.func223.trans (congrArg some (by kernel_rfl))
 f274:=Tryz.func265.trans (congrArg some (by kernel_rfl))
 f275:=Tryz.func266.trans (congrArg some (by kernel_rfl))
 f276:=Tryz.func170.trans (congrArg some (by kernel_rfl))
 f277:=Tryz.func232.trans (congrArg some (by kernel_rfl))
 f278:=Tryz.func264.trans (congrArg some (by kernel_rfl))
 f313:=Tryz.func248.trans (congrArg some (by kernel_rfl))
 t0:=Tryz.underlying0
 a0:=Tryz.isAgg0
 z0:=Tryz.sizeOf0
 v0:=Tryz.zeroValue0
 t3:=Tryz.underlying3
 a3:=Tryz.isAgg3
 z3:=Tryz.sizeOf3
 v3:=Tryz.zeroValue3
 t4:=Tryz.underlying4
 a4:=Tryz.isAgg4
 z4:=Tryz.sizeOf4
 v4:=Tryz.zeroValue4
 t5:=Tryz.underlying5
 a5:=Tryz.isAgg5
 z5:=Tryz.sizeOf5
 v5:=Tryz.zeroValue5
 t9:=Tryz.underlying9
 a9:=Tryz.isAgg9
 z9:=Tryz.sizeOf9
 v9:=Tryz.zeroValue9
 t20:=Tryz.underlying20
 a20:=Tryz.isAgg20
 z20:=Tryz.sizeOf20
 v20:=Tryz.zeroValue20
 t21:=Tryz.underlying21
 a21:=Tryz.isAgg21
 z21:=Tryz.sizeOf21
 v21:=Tryz.zeroValue21
 t37:=Tryz.underlying157
 a37:=Tryz.isAgg157
 z37:=Tryz.sizeOf157
 v37:=Tryz.zeroValue157
 t46:=Tryz.underlying49
 a46:=Tryz.isAgg49
 z46:=Tryz.sizeOf49
 v46:=Tryz.zeroValue49
 t51:=Tryz.underlying95
 a51:=Tryz.isAgg95
 z51:=Tryz.sizeOf95
 v51:=Tryz.zeroValue95
 t70:=Tryz.underlying156
 a70:=Tryz.isAgg156
 z70:=Tryz.sizeOf156
 v70:=Tryz.zeroValue156
 t72:=Tryz.underlying159
 a72:=Tryz.isAgg159
 z72:=Tryz.sizeOf159
 v72:=Tryz.zeroValue159
 t75:=Tryz.underlying108
 a75:=Tryz.isAgg108
 z75:=Tryz.sizeOf108
 v75:=Tryz.zeroValue108
 t76:=Tryz.underlying167
 a76:=Tryz.isAgg167
 z76:=Tryz.sizeOf167
 v76:=Tryz.zeroValue167
 t105:=Tryz.underlying319
 a105:=Tryz.isAgg319
 z105:=Tryz.sizeOf319
 v105:=Tryz.zeroValue319
 t107:=Tryz.underlying312
 a107:=Tryz.isAgg312
 z107:=Tryz.sizeOf312
 v107:=Tryz.zeroValue312
 t119:=Tryz.underlying353
 a119:=Tryz.isAgg353
 z119:=Tryz.sizeOf353
 t127:=Tryz.underlying230
 a127:=Tryz.isAgg230
 z127:=Tryz.sizeOf230
 v127:=Tryz.zeroValue230
 t138:=Tryz.underlying355
 a138:=Tryz.isAgg355
 z138:=Tryz.sizeOf355
 v138:=Tryz.zeroValue355
 t139:=Tryz.underlying356
 a139:=Tryz.isAgg356
 z139:=Tryz.sizeOf356
 v139:=Tryz.zeroValue356
 t160:=Tryz.underlying357
 a160:=Tryz.isAgg357
 z160:=Tryz.sizeOf357
 v160:=Tryz.zeroValue357
 t162:=Tryz.underlying340
 a162:=Tryz.isAgg340
 z162:=Tryz.sizeOf340
 v162:=Tryz.zeroValue340
 t164:=Tryz.underlying281
 a164:=Tryz.isAgg281
 z164:=Tryz.sizeOf281
 v164:=Tryz.zeroValue281
 t203:=Tryz.underlying266
 a203:=Tryz.isAgg266
 z203:=Tryz.sizeOf266
 v203:=Tryz.zeroValue266
 t206:=Tryz.underlying365
 a206:=Tryz.isAgg365
 z206:=Tryz.sizeOf365
 v206:=Tryz.zeroValue365
 t208:=Tryz.underlying367
 a208:=Tryz.isAgg367
 z208:=Tryz.sizeOf367
 v208:=Tryz.zeroValue367
 g3:=by kernel_rfl
 g4:=by kernel_rfl
 g13:=by kernel_rfl }
theorem Tryz.ru:Builder.Extra Tryz.prog Tryz.uV:={
 sizeBuilder:=by kernel_rfl
 liesBuilder:=by kernel_rfl
 t5:=Tryz.underlying5
 a5:=Tryz.isAgg5
 z5:=Tryz.sizeOf5
 v5:=Tryz.zeroValue5
 infoByte:=by kernel_rfl
 cellsByte:=by kernel_rfl
 sizeByte:=by kernel_rfl
 neB5:=by decide }
open Go.RowKit in
theorem Tryz.strings_ToUpper_ascii (s:ByteArray) (w:World) (hs:s.size≤140737488355328) (hascii:∀(j:Nat) (b:UInt8),s.data.toList[j]? = some b→b.toNat<128) :
 Calls Tryz.prog 171 #[.string s] w fun e w'=>e=.returned (.string ⟨(Lib.toUpperA s.data.toList).toArray⟩)∧Below w.heap.size w w':=Any.strings_ToUpper_ascii Tryz.QY Tryz.ru s w hs hascii
def Tryz.mZ:Go.Shelf.Ren:=⟨fun|156=>138|165=>175|166=>93|169=>96|240=>135|241=>208|276=>170|277=>232|n=>n,fun|31=>206|9=>9|3=>3|4=>4|0=>0|20=>20|72=>159|76=>167|70=>156|37=>157|75=>108|127=>230|164=>281|5=>5|80=>111|n=>n,fun|n=>n⟩
theorem Tryz.BZ:Go.Proofs.Lays.n156 Tryz.prog Tryz.mZ:={
 mixed:=by kernel_rfl
 f156:=Tryz.func138.trans (congrArg some (by kernel_rfl))
 f165:=Tryz.func175.trans (congrArg some (by kernel_rfl))
 f166:=Tryz.func93.trans (congrArg some (by kernel_rfl))
 f169:=Tryz.func96.trans (congrArg some (by kernel_rfl))
 f240:=Tryz.func135.trans (congrArg some (by kernel_rfl))
 f241:=Tryz.func208.trans (congrArg some (by kernel_rfl))
 f276:=Tryz.func170.trans (congrArg some (by kernel_rfl))
 f277:=Tryz.func232.trans (congrArg some (by kernel_rfl))
 t0:=Tryz.underlying0
 a0:=Tryz.isAgg0
 z0:=Tryz.sizeOf0
 v0:=Tryz.zeroValue0
 t3:=Tryz.underlying3
 a3:=Tryz.isAgg3
 z3:=Tryz.sizeOf3
 v3:=Tryz.zeroValue3
 t4:=Tryz.underlying4
 a4:=Tryz.isAgg4
 z4:=Tryz.sizeOf4
 v4:=Tryz.zeroValue4
 t9:=Tryz.underlying9
 a9:=Tryz.isAgg9
 z9:=Tryz.sizeOf9
 v9:=Tryz.zeroValue9
 t20:=Tryz.underlying20
 a20:=Tryz.isAgg20
 z20:=Tryz.sizeOf20
 v20:=Tryz.zeroValue20
 t31:=Tryz.underlying206
 a31:=Tryz.isAgg206
 z31:=Tryz.sizeOf206
 v31:=Tryz.zeroValue206
 t37:=Tryz.underlying157
 a37:=Tryz.isAgg157
 z37:=Tryz.sizeOf157
 v37:=Tryz.zeroValue157
 t70:=Tryz.underlying156
 a70:=Tryz.isAgg156
 z70:=Tryz.sizeOf156
 v70:=Tryz.zeroValue156
 t72:=Tryz.underlying159
 a72:=Tryz.isAgg159
 z72:=Tryz.sizeOf159
 v72:=Tryz.zeroValue159
 t75:=Tryz.underlying108
 a75:=Tryz.isAgg108
 z75:=Tryz.sizeOf108
 v75:=Tryz.zeroValue108
 t76:=Tryz.underlying167
 a76:=Tryz.isAgg167
 z76:=Tryz.sizeOf167
 v76:=Tryz.zeroValue167
 t127:=Tryz.underlying230
 a127:=Tryz.isAgg230
 z127:=Tryz.sizeOf230
 v127:=Tryz.zeroValue230
 t164:=Tryz.underlying281
 a164:=Tryz.isAgg281
 z164:=Tryz.sizeOf281
 v164:=Tryz.zeroValue281 }
theorem Tryz.gN:Builder.Extra Tryz.prog Tryz.mZ:={
 sizeBuilder:=by kernel_rfl
 liesBuilder:=by kernel_rfl
 t5:=Tryz.underlying5
 a5:=Tryz.isAgg5
 z5:=Tryz.sizeOf5
 v5:=Tryz.zeroValue5
 infoByte:=by kernel_rfl
 cellsByte:=by kernel_rfl
 sizeByte:=by kernel_rfl
 neB5:=by decide }
open Go.RowKit in
theorem Tryz.strings_Join_none (a:Option Addr) (c:Nat) (sep:ByteArray) (w:World) :
 Calls Tryz.prog 138 #[.slice a 0 c,.string sep] w fun e w'=>e=.returned (.string ⟨#[]⟩)∧w'=w:=Any.strings_Join_none Tryz.BZ Tryz.gN a c sep w
open Go.RowKit in
theorem Tryz.strings_Join (bk o c:Nat) (xs:List ByteArray) (sep:ByteArray) (w:World) (hcells:∀(j:Nat) x,xs[j]? = some x→w.cell? ⟨bk,o+j,none⟩=some (.string x)) (hbk:bk<w.heap.size) (hN:xs.length≤140737488355328) (hcap:xs.length≤c) (hlen:(Lib.join (xs.map (·.data.toList)) sep.data.toList).length≤140737488355328) :
 Calls Tryz.prog 138 #[.slice (some ⟨bk,o,none⟩) xs.length c,.string sep] w fun e w'=>e=.returned (.string ⟨(Lib.join (xs.map (·.data.toList)) sep.data.toList).toArray⟩)∧Below w.heap.size w w':=Any.strings_Join Tryz.BZ Tryz.gN bk o c xs sep w hcells hbk hN hcap hlen
def Tryz.D5:Go.Shelf.Ren:=⟨fun|160=>162|232=>189|231=>188|227=>190|234=>192|233=>191|236=>194|235=>193|228=>216|271=>219|151=>218|197=>217|120=>245|152=>244|260=>243|137=>181|119=>262|224=>241|225=>240|217=>209|266=>233|n=>n,fun|9=>9|4=>4|3=>3|5=>5|117=>303|116=>302|0=>0|124=>306|21=>21|105=>319|46=>49|119=>353|139=>356|138=>355|n=>n,fun|3=>3|4=>4|n=>n⟩
theorem Tryz.QZ:Go.Proofs.Lays.n160 Tryz.prog Tryz.D5:={
 mixed:=by kernel_rfl
 f119:=Tryz.func262.trans (congrArg some (by kernel_rfl))
 f120:=Tryz.func245.trans (congrArg some (by kernel_rfl))
 f137:=Tryz.func181.trans (congrArg some (by kernel_rfl))
 f151:=Tryz.func218.trans (congrArg some (by kernel_rfl))
 f152:=Tryz.func244.trans (congrArg some (by kernel_rfl))
 f160:=Tryz.func162.trans (congrArg some (by kernel_rfl))
 f197:=Tryz.func217.trans (congrArg some (by kernel_rfl))
 f217:=Tryz.func209.trans (congrArg some (by kernel_rfl))
 f224:=Tryz.func241.trans (congrArg some (by kernel_rfl))
 f225:=Tryz.func240.trans (congrArg some (by kernel_rfl))
 f227:=Tryz.func190.trans (congrArg some (by kernel_rfl))
 f228:=Tryz.func216.trans (congrArg some (by kernel_rfl))
 f231:=Tryz.func188.trans (congrArg some (by kernel_rfl))
 f232:=Tryz.func189.trans (congrArg some (by kernel_rfl))
 f233:=Tryz.func191.trans (congrArg some (by kernel_rfl))
 f234:=Tryz.func192.trans (congrArg some (by kernel_rfl))
 f235:=Tryz.func193.trans (congrArg some (by kernel_rfl))
 f236:=Tryz.func194.trans (congrArg some (by kernel_rfl))
 f260:=Tryz.func243.trans (congrArg some (by kernel_rfl))
 f266:=Tryz.func233.trans (congrArg some (by kernel_rfl))
 f271:=Tryz.func219.trans (congrArg some (by kernel_rfl))
 t0:=Tryz.underlying0
 a0:=Tryz.isAgg0
 z0:=Tryz.sizeOf0
 v0:=Tryz.zeroValue0
 t3:=Tryz.underlying3
 a3:=Tryz.isAgg3
 z3:=Tryz.sizeOf3
 v3:=Tryz.zeroValue3
 t4:=Tryz.underlying4
 a4:=Tryz.isAgg4
 z4:=Tryz.sizeOf4
 v4:=Tryz.zeroValue4
 t5:=Tryz.underlying5
 a5:=Tryz.isAgg5
 z5:=Tryz.sizeOf5
 v5:=Tryz.zeroValue5
 t9:=Tryz.underlying9
 a9:=Tryz.isAgg9
 z9:=Tryz.sizeOf9
 v9:=Tryz.zeroValue9
 t21:=Tryz.underlying21
 a21:=Tryz.isAgg21
 z21:=Tryz.sizeOf21
 v21:=Tryz.zeroValue21
 t46:=Tryz.underlying49
 a46:=Tryz.isAgg49
 z46:=Tryz.sizeOf49
 v46:=Tryz.zeroValue49
 t105:=Tryz.underlying319
 a105:=Tryz.isAgg319
 z105:=Tryz.sizeOf319
 v105:=Tryz.zeroValue319
 t116:=Tryz.underlying302
 a116:=Tryz.isAgg302
 z116:=Tryz.sizeOf302
 t117:=Tryz.underlying303
 a117:=Tryz.isAgg303
 z117:=Tryz.sizeOf303
 v117:=Tryz.zeroValue303
 t119:=Tryz.underlying353
 a119:=Tryz.isAgg353
 z119:=Tryz.sizeOf353
 t124:=Tryz.underlying306
 a124:=Tryz.isAgg306
 z124:=Tryz.sizeOf306
 v124:=Tryz.zeroValue306
 t138:=Tryz.underlying355
 a138:=Tryz.isAgg355
 z138:=Tryz.sizeOf355
 v138:=Tryz.zeroValue355
 t139:=Tryz.underlying356
 a139:=Tryz.isAgg356
 z139:=Tryz.sizeOf356
 v139:=Tryz.zeroValue356
 g3:=by kernel_rfl
 g4:=by kernel_rfl }
open Go.RowKit in
theorem Tryz.strings_Trim_one (s:ByteArray) (c:UInt8) (hc:c.toNat<128) (w:World) (hs:s.size≤9223372036854775807) :
 Calls Tryz.prog 162 #[.string s,.string ⟨#[c]⟩] w fun e w'=>e=.returned (.string ⟨(Lib.trimB s.data.toList c).toArray⟩)∧(w'=w∨w'=w.drew):=Any.strings_Trim_one Tryz.QZ s c hc w hs
def Tryz.D6:Go.Shelf.Ren:=⟨fun|125=>84|128=>123|129=>124|n=>n,fun|46=>49|3=>3|51=>95|53=>36|4=>4|5=>5|9=>9|n=>n,fun|n=>n⟩
theorem Tryz.Q0:Go.Proofs.Lays.n125 Tryz.prog Tryz.D6:={
 mixed:=by kernel_rfl
 f125:=Tryz.func84.trans (congrArg some (by kernel_rfl))
 f128:=Tryz.func123.trans (congrArg some (by kernel_rfl))
 f129:=Tryz.func124.trans (congrArg some (by kernel_rfl))
 t3:=Tryz.underlying3
 a3:=Tryz.isAgg3
 z3:=Tryz.sizeOf3
 v3:=Tryz.zeroValue3
 t4:=Tryz.underlying4
 a4:=Tryz.isAgg4
 z4:=Tryz.sizeOf4
 v4:=Tryz.zeroValue4
 t5:=Tryz.underlying5
 a5:=Tryz.isAgg5
 z5:=Tryz.sizeOf5
 v5:=Tryz.zeroValue5
 t9:=Tryz.underlying9
 a9:=Tryz.isAgg9
 z9:=Tryz.sizeOf9
 v9:=Tryz.zeroValue9
 t46:=Tryz.underlying49
 a46:=Tryz.isAgg49
 z46:=Tryz.sizeOf49
 v46:=Tryz.zeroValue49
 t51:=Tryz.underlying95
 a51:=Tryz.isAgg95
 z51:=Tryz.sizeOf95
 v51:=Tryz.zeroValue95
 t53:=Tryz.underlying36
 a53:=Tryz.isAgg36
 z53:=Tryz.sizeOf36
 v53:=Tryz.zeroValue36 }
theorem Tryz.bits_Len (x:Int) (w:World) (h0:0≤x) (h1:x≤18446744073709551615) :
 Calls Tryz.prog 84 #[.int .u64 x] w fun e w'=>e=.returned (.int .i64 (Lib.bitLen x.toNat))∧w'=w:=Any.bits_Len Tryz.Q0 x w h0 h1
def Tryz.D7:Go.Shelf.Ren:=⟨fun|137=>181|217=>209|266=>233|n=>n,fun|9=>9|5=>5|3=>3|n=>n,fun|n=>n⟩
theorem Tryz.Q3:Go.Proofs.Lays.n137 Tryz.prog Tryz.D7:={
 mixed:=by kernel_rfl
 f137:=Tryz.func181.trans (congrArg some (by kernel_rfl))
 f217:=Tryz.func209.trans (congrArg some (by kernel_rfl))
 f266:=Tryz.func233.trans (congrArg some (by kernel_rfl))
 t3:=Tryz.underlying3
 a3:=Tryz.isAgg3
 z3:=Tryz.sizeOf3
 v3:=Tryz.zeroValue3
 t5:=Tryz.underlying5
 a5:=Tryz.isAgg5
 z5:=Tryz.sizeOf5
 v5:=Tryz.zeroValue5
 t9:=Tryz.underlying9
 a9:=Tryz.isAgg9
 z9:=Tryz.sizeOf9
 v9:=Tryz.zeroValue9 }
open Go.RowKit in
theorem Tryz.strings_IndexByte (s:ByteArray) (c:Int) (w:World) :
 Calls Tryz.prog 181 #[.string s,.int .u8 c] w fun e w'=>e=.returned (.int .i64 (Lib.indexByte s.data.toList c.toNat.toUInt8))∧w'=w:=Any.strings_IndexByte Tryz.Q3 s c w
def Tryz.D8:Go.Shelf.Ren:=⟨fun|104=>186|211=>214|207=>210|n=>n,fun|9=>9|4=>4|24=>298|3=>3|n=>n,fun|n=>n⟩
theorem Tryz.Q4:Go.Proofs.Lays.n104 Tryz.prog Tryz.D8:={
 mixed:=by kernel_rfl
 f104:=Tryz.func186.trans (congrArg some (by kernel_rfl))
 f207:=Tryz.func210.trans (congrArg some (by kernel_rfl))
 f211:=Tryz.func214.trans (congrArg some (by kernel_rfl))
 t3:=Tryz.underlying3
 a3:=Tryz.isAgg3
 z3:=Tryz.sizeOf3
 v3:=Tryz.zeroValue3
 t4:=Tryz.underlying4
 a4:=Tryz.isAgg4
 z4:=Tryz.sizeOf4
 v4:=Tryz.zeroValue4
 t9:=Tryz.underlying9
 a9:=Tryz.isAgg9
 z9:=Tryz.sizeOf9
 v9:=Tryz.zeroValue9
 t24:=Tryz.underlying298
 a24:=Tryz.isAgg298
 z24:=Tryz.sizeOf298
 v24:=Tryz.zeroValue298 }
open Go.RowKit in
theorem Tryz.strings_CutSuffix (s p:ByteArray) (w:World) (hs:s.size≤9223372036854775807) :
 Calls Tryz.prog 186 #[.string s,.string p] w fun e w'=>e=.returned (.tuple #[.string ⟨(Lib.trimSuffix s.data.toList p.data.toList).toArray⟩,.bool (Lib.hasSuffix s.data.toList p.data.toList)])∧w'=w:=Any.strings_CutSuffix Tryz.Q4 s p w hs
def Tryz.D9:Go.Shelf.Ren:=⟨fun|172=>212|244=>237|245=>238|247=>255|279=>256|280=>257|281=>258|282=>259|287=>269|316=>270|171=>137|205=>271|321=>273|322=>274|243=>174|246=>204|283=>225|284=>226|285=>227|286=>228|129=>124|317=>249|318=>250|319=>251|320=>252|337=>267|338=>268|n=>n,fun|9=>9|3=>3|75=>108|76=>167|4=>4|5=>5|167=>345|37=>157|0=>0|85=>346|2=>2|168=>348|53=>36|175=>360|46=>49|210=>363|127=>230|145=>373|143=>371|21=>21|171=>324|173=>326|212=>342|51=>95|20=>20|213=>343|232=>368|233=>369|80=>111|n=>n,fun|15=>5|16=>6|17=>2|18=>7|19=>8|n=>n⟩
theorem Tryz.Q5:Go.Proofs.Lays.n172 Tryz.prog Tryz.D9:={
 mixed:=by kernel_rfl
 f129:=Tryz.func124.trans (congrArg some (by kernel_rfl))
 f171:=Tryz.func137.trans (congrArg some (by kernel_rfl))
 f172:=Tryz.func212.trans (congrArg some (by kernel_rfl))
 f205:=Tryz.func271.trans (congrArg some (by kernel_rfl))
 f243:=Tryz.func174.trans (congrArg some (by kernel_rfl))
 f244:=Tryz.func237.trans (congrArg some (by kernel_rfl))
 f245:=Tryz.func238.trans (congrArg some (by kernel_rfl))
 f246:=Tryz.func204.trans (congrArg some (by kernel_rfl))
 f247:=Tryz.func255.trans (congrArg some (by kernel_rfl))
 f279:=Tryz.func256.trans (congrArg some (by kernel_rfl))
 f280:=Tryz.func257.trans (congrArg some (by kernel_rfl))
 f281:=Tryz.func258.trans (congrArg some (by kernel_rfl))
 f282:=Tryz.func259.trans (congrArg some (by kernel_rfl))
 f283:=Tryz.func225.trans (congrArg some (by kernel_rfl))
 f284:=Tryz.func226.trans (congrArg some (by kernel_rfl))
 f285:=Tryz.func227.trans (congrArg some (by kernel_rfl))
 f286:=Tryz.func228.trans (congrArg some (by kernel_rfl))
 f287:=Tryz.func269.trans (congrArg some (by kernel_rfl))
 f316:=Tryz.func270.trans (congrArg some (by kernel_rfl))
 f317:=Tryz.func249.trans (congrArg some (by kernel_rfl))
 f318:=Tryz.func250.trans (congrArg some (by kernel_rfl))
 f319:=Tryz.func251.trans (congrArg some (by kernel_rfl))
 f320:=Tryz.func252.trans (congrArg some (by kernel_rfl))
 f321:=Tryz.func273.trans (congrArg some (by kernel_rfl))
 f322:=Tryz.func274.trans (congrArg some (by kernel_rfl))
 f337:=Tryz.func267.trans (congrArg some (by kernel_rfl))
 f338:=Tryz.func268.trans (congrArg some (by kernel_rfl))
 t0:=Tryz.underlying0
 a0:=Tryz.isAgg0
 z0:=Tryz.sizeOf0
 v0:=Tryz.zeroValue0
 t2:=Tryz.underlying2
 a2:=Tryz.isAgg2
 z2:=Tryz.sizeOf2
 v2:=Tryz.zeroValue2
 t3:=Tryz.underlying3
 a3:=Tryz.isAgg3
 z3:=Tryz.sizeOf3
 v3:=Tryz.zeroValue3
 t4:=Tryz.underlying4
 a4:=Tryz.isAgg4
 z4:=Tryz.sizeOf4
 v4:=Tryz.zeroValue4
 t5:=Tryz.underlying5
 a5:=Tryz.isAgg5
 z5:=Tryz.sizeOf5
 v5:=Tryz.zeroValue5
 t9:=Tryz.underlying9
 a9:=Tryz.isAgg9
 z9:=Tryz.sizeOf9
 v9:=Tryz.zeroValue9
 t20:=Tryz.underlying20
 a20:=Tryz.isAgg20
 z20:=Tryz.sizeOf20
 v20:=Tryz.zeroValue20
 t21:=Tryz.underlying21
 a21:=Tryz.isAgg21
 z21:=Tryz.sizeOf21
 v21:=Tryz.zeroValue21
 t37:=Tryz.underlying157
 a37:=Tryz.isAgg157
 z37:=Tryz.sizeOf157
 v37:=Tryz.zeroValue157
 t46:=Tryz.underlying49
 a46:=Tryz.isAgg49
 z46:=Tryz.sizeOf49
 v46:=Tryz.zeroValue49
 t51:=Tryz.underlying95
 a51:=Tryz.isAgg95
 z51:=Tryz.sizeOf95
 v51:=Tryz.zeroValue95
 t53:=Tryz.underlying36
 a53:=Tryz.isAgg36
 z53:=Tryz.sizeOf36
 v53:=Tryz.zeroValue36
 t75:=Tryz.underlying108
 a75:=Tryz.isAgg108
 z75:=Tryz.sizeOf108
 v75:=Tryz.zeroValue108
 t76:=Tryz.underlying167
 a76:=Tryz.isAgg167
 z76:=Tryz.sizeOf167
 v76:=Tryz.zeroValue167
 t85:=Tryz.underlying346
 a85:=Tryz.isAgg346
 z85:=Tryz.sizeOf346
 v85:=Tryz.zeroValue346
 t127:=Tryz.underlying230
 a127:=Tryz.isAgg230
 z127:=Tryz.sizeOf230
 v127:=Tryz.zeroValue230
 t143:=Tryz.underlying371
 a143:=Tryz.isAgg371
 z143:=Tryz.sizeOf371
 v143:=Tryz.zeroValue371
 t145:=Tryz.underlying373
 a145:=Tryz.isAgg373
 z145:=Tryz.sizeOf373
 v145:=Tryz.zeroValue373
 t167:=Tryz.underlying345
 a167:=Tryz.isAgg345
 z167:=Tryz.sizeOf345
 v167:=Tryz.zeroValue345
 t168:=Tryz.underlying348
 a168:=Tryz.isAgg348
 z168:=Tryz.sizeOf348
 v168:=Tryz.zeroValue348
 t171:=Tryz.underlying324
 a171:=Tryz.isAgg324
 z171:=Tryz.sizeOf324
 v171:=Tryz.zeroValue324
 t173:=Tryz.underlying326
 a173:=Tryz.isAgg326
 z173:=Tryz.sizeOf326
 v173:=Tryz.zeroValue326
 t175:=Tryz.underlying360
 a175:=Tryz.isAgg360
 z175:=Tryz.sizeOf360
 v175:=Tryz.zeroValue360
 t210:=Tryz.underlying363
 a210:=Tryz.isAgg363
 z210:=Tryz.sizeOf363
 v210:=Tryz.zeroValue363
 t212:=Tryz.underlying342
 a212:=Tryz.isAgg342
 z212:=Tryz.sizeOf342
 v212:=Tryz.zeroValue342
 t213:=Tryz.underlying343
 a213:=Tryz.isAgg343
 z213:=Tryz.sizeOf343
 t232:=Tryz.underlying368
 a232:=Tryz.isAgg368
 z232:=Tryz.sizeOf368
 v232:=Tryz.zeroValue368
 t233:=Tryz.underlying369
 a233:=Tryz.isAgg369
 z233:=Tryz.sizeOf369
 v233:=Tryz.zeroValue369
 g15:=by kernel_rfl
 g16:=by kernel_rfl
 g17:=by kernel_rfl
 g18:=by kernel_rfl
 g19:=by kernel_rfl }
open Go.RowKit in
theorem Tryz.strconv_Atoi (s:ByteArray) (n:Int) (hl:s.size≤18) (h:Lib.atoi s.data.toList=some n) (w:World) :
 Calls Tryz.prog 212 #[.string s] w fun e w'=>e=.returned (.tuple #[.int .i64 n,.nilIface])∧∃t,w'=Lib.bytesWorld w 5 t:=Any.strconv_Atoi Tryz.Q5 s n hl h w
def Tryz.B_:Go.Shelf.Ren:=⟨fun|171=>137|243=>174|246=>204|283=>225|284=>226|285=>227|286=>228|129=>124|317=>249|318=>250|319=>251|320=>252|337=>267|338=>268|n=>n,fun|3=>3|9=>9|2=>2|4=>4|171=>324|0=>0|53=>36|37=>157|5=>5|173=>326|212=>342|51=>95|20=>20|213=>343|46=>49|232=>368|233=>369|n=>n,fun|17=>2|18=>7|19=>8|n=>n⟩
theorem Tryz.Nv:Go.Proofs.LaysM.n171 Tryz.prog Tryz.B_:={
 mixed:=by kernel_rfl
 f129:=Tryz.func124.trans (congrArg some (by kernel_rfl))
 f171:=Tryz.func137.trans (congrArg some (by kernel_rfl))
 f243:=Tryz.func174.trans (congrArg some (by kernel_rfl))
 f246:=Tryz.func204.trans (congrArg some (by kernel_rfl))
 f283:=Tryz.func225.trans (congrArg some (by kernel_rfl))
 f284:=Tryz.func226.trans (congrArg some (by kernel_rfl))
 f285:=Tryz.func227.trans (congrArg some (by kernel_rfl))
 f286:=Tryz.func228.trans (congrArg some (by kernel_rfl))
 f317:=Tryz.func249.trans (congrArg some (by kernel_rfl))
 f318:=Tryz.func250.trans (congrArg some (by kernel_rfl))
 f319:=Tryz.func251.trans (congrArg some (by kernel_rfl))
 f320:=Tryz.func252.trans (congrArg some (by kernel_rfl))
 f337:=Tryz.func267.trans (congrArg some (by kernel_rfl))
 f338:=Tryz.func268.trans (congrArg some (by kernel_rfl))
 t0:=Tryz.underlying0
 a0:=Tryz.isAgg0
 z0:=Tryz.sizeOf0
 v0:=Tryz.zeroValue0
 t2:=Tryz.underlying2
 a2:=Tryz.isAgg2
 z2:=Tryz.sizeOf2
 v2:=Tryz.zeroValue2
 t3:=Tryz.underlying3
 a3:=Tryz.isAgg3
 z3:=Tryz.sizeOf3
 v3:=Tryz.zeroValue3
 t4:=Tryz.underlying4
 a4:=Tryz.isAgg4
 z4:=Tryz.sizeOf4
 v4:=Tryz.zeroValue4
 t5:=Tryz.underlying5
 a5:=Tryz.isAgg5
 z5:=Tryz.sizeOf5
 v5:=Tryz.zeroValue5
 t9:=Tryz.underlying9
 a9:=Tryz.isAgg9
 z9:=Tryz.sizeOf9
 v9:=Tryz.zeroValue9
 t20:=Tryz.underlying20
 a20:=Tryz.isAgg20
 z20:=Tryz.sizeOf20
 v20:=Tryz.zeroValue20
 t37:=Tryz.underlying157
 a37:=Tryz.isAgg157
 z37:=Tryz.sizeOf157
 v37:=Tryz.zeroValue157
 t46:=Tryz.underlying49
 a46:=Tryz.isAgg49
 z46:=Tryz.sizeOf49
 v46:=Tryz.zeroValue49
 t51:=Tryz.underlying95
 a51:=Tryz.isAgg95
 z51:=Tryz.sizeOf95
 v51:=Tryz.zeroValue95
 t53:=Tryz.underlying36
 a53:=Tryz.isAgg36
 z53:=Tryz.sizeOf36
 v53:=Tryz.zeroValue36
 t171:=Tryz.underlying324
 a171:=Tryz.isAgg324
 z171:=Tryz.sizeOf324
 v171:=Tryz.zeroValue324
 t173:=Tryz.underlying326
 a173:=Tryz.isAgg326
 z173:=Tryz.sizeOf326
 v173:=Tryz.zeroValue326
 t212:=Tryz.underlying342
 a212:=Tryz.isAgg342
 z212:=Tryz.sizeOf342
 v212:=Tryz.zeroValue342
 t213:=Tryz.underlying343
 a213:=Tryz.isAgg343
 z213:=Tryz.sizeOf343
 t232:=Tryz.underlying368
 a232:=Tryz.isAgg368
 z232:=Tryz.sizeOf368
 v232:=Tryz.zeroValue368
 t233:=Tryz.underlying369
 a233:=Tryz.isAgg369
 z233:=Tryz.sizeOf369
 v233:=Tryz.zeroValue369
 g17:=by kernel_rfl
 g18:=by kernel_rfl
 g19:=by kernel_rfl
 i0:=by kernel_rfl
 i2:=by kernel_rfl
 i3:=by kernel_rfl
 i4:=by kernel_rfl
 i5:=by kernel_rfl
 i9:=by kernel_rfl
 i20:=by kernel_rfl
 i37:=by kernel_rfl
 i46:=by kernel_rfl
 i51:=by kernel_rfl
 i53:=by kernel_rfl
 i171:=by kernel_rfl
 i173:=by kernel_rfl
 i212:=by kernel_rfl
 i232:=by kernel_rfl
 i233:=by kernel_rfl
 m17:=by kernel_rfl
 m18:=by kernel_rfl
 m19:=by kernel_rfl }
open Go.RowKit Go.Sort Go.Lib in
theorem Tryz.strconv_Itoa (n:Int) (h0:-9223372036854775808≤n) (h1:n≤9223372036854775807) (w:World) (htab:Lib.TabIs Tryz.prog w "internal/strconv.uint64pow10" .u64 Lib.pow10Tab) :
 Calls Tryz.prog 137 #[.int .i64 n] w fun e w'=>e=.returned (.string ⟨(Lib.itoa n).toArray⟩)∧∃k os,w'=grow (w.drewN k) os:=Any.strconv_Itoa Tryz.Nv n h0 h1 w htab
def Tryz.D_:Go.Shelf.Ren:=⟨fun|143=>236|219=>215|217=>209|225=>240|224=>241|267=>242|266=>233|314=>261|n=>n,fun|9=>9|3=>3|4=>4|5=>5|46=>49|146=>328|51=>95|n=>n,fun|1=>0|n=>n⟩
theorem Tryz.Q6:Go.Proofs.Lays.n143 Tryz.prog Tryz.D_:={
 mixed:=by kernel_rfl
 f143:=Tryz.func236.trans (congrArg some (by kernel_rfl))
 f217:=Tryz.func209.trans (congrArg some (by kernel_rfl))
 f219:=Tryz.func215.trans (congrArg some (by kernel_rfl))
 f224:=Tryz.func241.trans (congrArg some (by kernel_rfl))
 f225:=Tryz.func240.trans (congrArg some (by kernel_rfl))
 f266:=Tryz.func233.trans (congrArg some (by kernel_rfl))
 f267:=Tryz.func242.trans (congrArg some (by kernel_rfl))
 f314:=Tryz.func261.trans (congrArg some (by kernel_rfl))
 t3:=Tryz.underlying3
 a3:=Tryz.isAgg3
 z3:=Tryz.sizeOf3
 v3:=Tryz.zeroValue3
 t4:=Tryz.underlying4
 a4:=Tryz.isAgg4
 z4:=Tryz.sizeOf4
 v4:=Tryz.zeroValue4
 t5:=Tryz.underlying5
 a5:=Tryz.isAgg5
 z5:=Tryz.sizeOf5
 v5:=Tryz.zeroValue5
 t9:=Tryz.underlying9
 a9:=Tryz.isAgg9
 z9:=Tryz.sizeOf9
 v9:=Tryz.zeroValue9
 t46:=Tryz.underlying49
 a46:=Tryz.isAgg49
 z46:=Tryz.sizeOf49
 v46:=Tryz.zeroValue49
 t51:=Tryz.underlying95
 a51:=Tryz.isAgg95
 z51:=Tryz.sizeOf95
 v51:=Tryz.zeroValue95
 t146:=Tryz.underlying328
 a146:=Tryz.isAgg328
 z146:=Tryz.sizeOf328
 v146:=Tryz.zeroValue328
 g1:=by kernel_rfl }
open Go.RowKit Go.Lib in
theorem Tryz.strings_Index_one (s:ByteArray) (c:UInt8) (w:World) :
 Calls Tryz.prog 236 #[.string s,.string ⟨#[c]⟩] w fun e w'=>e=.returned (.int .i64 (Lib.indexByte s.data.toList c))∧w'=w:=Any.strings_Index_one Tryz.Q6 s c w
def Tryz.Ea:Go.Shelf.Ren:=⟨fun|145=>161|220=>187|219=>215|217=>209|225=>240|224=>241|267=>242|266=>233|314=>261|n=>n,fun|9=>9|4=>4|59=>264|3=>3|5=>5|46=>49|146=>328|51=>95|n=>n,fun|1=>0|n=>n⟩
theorem Tryz.Q7:Go.Proofs.Lays.n145 Tryz.prog Tryz.Ea:={
 mixed:=by kernel_rfl
 f145:=Tryz.func161.trans (congrArg some (by kernel_rfl))
 f217:=Tryz.func209.trans (congrArg some (by kernel_rfl))
 f219:=Tryz.func215.trans (congrArg some (by kernel_rfl))
 f220:=Tryz.func187.trans (congrArg some (by kernel_rfl))
 f224:=Tryz.func241.trans (congrArg some (by kernel_rfl))
 f225:=Tryz.func240.trans (congrArg some (by kernel_rfl))
 f266:=Tryz.func233.trans (congrArg some (by kernel_rfl))
 f267:=Tryz.func242.trans (congrArg some (by kernel_rfl))
 f314:=Tryz.func261.trans (congrArg some (by kernel_rfl))
 t3:=Tryz.underlying3
 a3:=Tryz.isAgg3
 z3:=Tryz.sizeOf3
 v3:=Tryz.zeroValue3
 t4:=Tryz.underlying4
 a4:=Tryz.isAgg4
 z4:=Tryz.sizeOf4
 v4:=Tryz.zeroValue4
 t5:=Tryz.underlying5
 a5:=Tryz.isAgg5
 z5:=Tryz.sizeOf5
 v5:=Tryz.zeroValue5
 t9:=Tryz.underlying9
 a9:=Tryz.isAgg9
 z9:=Tryz.sizeOf9
 v9:=Tryz.zeroValue9
 t46:=Tryz.underlying49
 a46:=Tryz.isAgg49
 z46:=Tryz.sizeOf49
 v46:=Tryz.zeroValue49
 t51:=Tryz.underlying95
 a51:=Tryz.isAgg95
 z51:=Tryz.sizeOf95
 v51:=Tryz.zeroValue95
 t59:=Tryz.underlying264
 a59:=Tryz.isAgg264
 z59:=Tryz.sizeOf264
 v59:=Tryz.zeroValue264
 t146:=Tryz.underlying328
 a146:=Tryz.isAgg328
 z146:=Tryz.sizeOf328
 v146:=Tryz.zeroValue328
 g1:=by kernel_rfl }
open Go.RowKit Go.Lib in
theorem Tryz.strings_Cut (s sep:ByteArray) (m:Int) (w:World) (hs:s.size<4294967281) (hm:w.cell? ⟨0,0,none⟩=some (.int .i64 m)) :
 Calls Tryz.prog 161 #[.string s,.string sep] w fun e w'=>e=.returned (.tuple #[.string ⟨(Lib.cut s.data.toList sep.data.toList).1.toArray⟩,.string ⟨(Lib.cut s.data.toList sep.data.toList).2.1.toArray⟩,.bool (Lib.cut s.data.toList sep.data.toList).2.2])∧∃n,w'=w.drewN n:=Any.strings_Cut Tryz.Q7 s sep m w hs hm
def Tryz.Eb:Go.Shelf.Ren:=⟨fun|102=>155|209=>182|207=>210|n=>n,fun|9=>9|4=>4|3=>3|n=>n,fun|n=>n⟩
theorem Tryz.Q8:Go.Proofs.Lays.n102 Tryz.prog Tryz.Eb:={
 mixed:=by kernel_rfl
 f102:=Tryz.func155.trans (congrArg some (by kernel_rfl))
 f207:=Tryz.func210.trans (congrArg some (by kernel_rfl))
 f209:=Tryz.func182.trans (congrArg some (by kernel_rfl))
 t3:=Tryz.underlying3
 a3:=Tryz.isAgg3
 z3:=Tryz.sizeOf3
 v3:=Tryz.zeroValue3
 t4:=Tryz.underlying4
 a4:=Tryz.isAgg4
 z4:=Tryz.sizeOf4
 v4:=Tryz.zeroValue4
 t9:=Tryz.underlying9
 a9:=Tryz.isAgg9
 z9:=Tryz.sizeOf9
 v9:=Tryz.zeroValue9 }
open Go.RowKit Go.Lib in
theorem Tryz.strings_TrimSuffix (s p:ByteArray) (w:World) (hs:s.size≤9223372036854775807) :
 Calls Tryz.prog 155 #[.string s,.string p] w fun e w'=>e=.returned (.string ⟨(Lib.trimSuffix s.data.toList p.data.toList).toArray⟩)∧w'=w:=Any.strings_TrimSuffix Tryz.Q8 s p w hs
def Tryz.Ec:Go.Shelf.Ren:=⟨fun|146=>183|221=>211|268=>234|138=>235|143=>236|195=>253|197=>217|218=>254|219=>215|260=>243|217=>209|225=>240|224=>241|267=>242|266=>233|314=>261|n=>n,fun|9=>9|31=>206|3=>3|4=>4|0=>0|105=>319|21=>21|5=>5|46=>49|119=>353|139=>356|138=>355|146=>328|51=>95|n=>n,fun|1=>0|3=>3|4=>4|n=>n⟩
theorem Tryz.Q9:Go.Proofs.Lays.n146 Tryz.prog Tryz.Ec:={
 mixed:=by kernel_rfl
 f138:=Tryz.func235.trans (congrArg some (by kernel_rfl))
 f143:=Tryz.func236.trans (congrArg some (by kernel_rfl))
 f146:=Tryz.func183.trans (congrArg some (by kernel_rfl))
 f195:=Tryz.func253.trans (congrArg some (by kernel_rfl))
 f197:=Tryz.func217.trans (congrArg some (by kernel_rfl))
 f217:=Tryz.func209.trans (congrArg some (by kernel_rfl))
 f218:=Tryz.func254.trans (congrArg some (by kernel_rfl))
 f219:=Tryz.func215.trans (congrArg some (by kernel_rfl))
 f221:=Tryz.func211.trans (congrArg some (by kernel_rfl))
 f224:=Tryz.func241.trans (congrArg some (by kernel_rfl))
 f225:=Tryz.func240.trans (congrArg some (by kernel_rfl))
 f260:=Tryz.func243.trans (congrArg some (by kernel_rfl))
 f266:=Tryz.func233.trans (congrArg some (by kernel_rfl))
 f267:=Tryz.func242.trans (congrArg some (by kernel_rfl))
 f268:=Tryz.func234.trans (congrArg some (by kernel_rfl))
 f314:=Tryz.func261.trans (congrArg some (by kernel_rfl))
 t0:=Tryz.underlying0
 a0:=Tryz.isAgg0
 z0:=Tryz.sizeOf0
 v0:=Tryz.zeroValue0
 t3:=Tryz.underlying3
 a3:=Tryz.isAgg3
 z3:=Tryz.sizeOf3
 v3:=Tryz.zeroValue3
 t4:=Tryz.underlying4
 a4:=Tryz.isAgg4
 z4:=Tryz.sizeOf4
 v4:=Tryz.zeroValue4
 t5:=Tryz.underlying5
 a5:=Tryz.isAgg5
 z5:=Tryz.sizeOf5
 v5:=Tryz.zeroValue5
 t9:=Tryz.underlying9
 a9:=Tryz.isAgg9
 z9:=Tryz.sizeOf9
 v9:=Tryz.zeroValue9
 t21:=Tryz.underlying21
 a21:=Tryz.isAgg21
 z21:=Tryz.sizeOf21
 v21:=Tryz.zeroValue21
 t31:=Tryz.underlying206
 a31:=Tryz.isAgg206
 z31:=Tryz.sizeOf206
 v31:=Tryz.zeroValue206
 t46:=Tryz.underlying49
 a46:=Tryz.isAgg49
 z46:=Tryz.sizeOf49
 v46:=Tryz.zeroValue49
 t51:=Tryz.underlying95
 a51:=Tryz.isAgg95
 z51:=Tryz.sizeOf95
 v51:=Tryz.zeroValue95
 t105:=Tryz.underlying319
 a105:=Tryz.isAgg319
 z105:=Tryz.sizeOf319
 v105:=Tryz.zeroValue319
 t119:=Tryz.underlying353
 a119:=Tryz.isAgg353
 z119:=Tryz.sizeOf353
 t138:=Tryz.underlying355
 a138:=Tryz.isAgg355
 z138:=Tryz.sizeOf355
 v138:=Tryz.zeroValue355
 t139:=Tryz.underlying356
 a139:=Tryz.isAgg356
 z139:=Tryz.sizeOf356
 v139:=Tryz.zeroValue356
 t146:=Tryz.underlying328
 a146:=Tryz.isAgg328
 z146:=Tryz.sizeOf328
 v146:=Tryz.zeroValue328
 g1:=by kernel_rfl
 g3:=by kernel_rfl
 g4:=by kernel_rfl }
open Go.RowKit Go.Lib in
theorem Tryz.strings_Split (s sep:ByteArray) (m:Int) (w:World) (hs:s.size<4294967281) (hm:w.cell? ⟨0,0,none⟩=some (.int .i64 m)) (h1:1≤sep.size) :
 Calls Tryz.prog 183 #[.string s,.string sep] w fun e w'=>
  e=.returned (.slice (some ⟨w.heap.size,0,none⟩) (Lib.countB s sep+1) (Lib.countB s sep+1))∧w'=w.alloc (.cells ((Lib.splitB sep 0 (Lib.countB s sep) s).map Value.string).toArray 9):=Any.strings_Split Tryz.Q9 (by kernel_rfl) s sep m w hs hm h1
def Tryz.uW:Go.Shelf.Ren:=⟨fun|105=>173|212=>205|99=>206|165=>175|166=>93|170=>207|169=>96|263=>229|264=>230|206=>231|240=>135|241=>208|276=>170|277=>232|n=>n,fun|9=>9|3=>3|4=>4|20=>20|0=>0|46=>49|109=>313|5=>5|72=>159|76=>167|51=>95|146=>328|53=>36|148=>330|70=>156|37=>157|75=>108|127=>230|164=>281|80=>111|n=>n,fun|n=>n⟩
theorem Tryz.Q_:Go.Proofs.Lays.n105 Tryz.prog Tryz.uW:={
 mixed:=by kernel_rfl
 f99:=Tryz.func206.trans (congrArg some (by kernel_rfl))
 f105:=Tryz.func173.trans (congrArg some (by kernel_rfl))
 f165:=Tryz.func175.trans (congrArg some (by kernel_rfl))
 f166:=Tryz.func93.trans (congrArg some (by kernel_rfl))
 f169:=Tryz.func96.trans (congrArg some (by kernel_rfl))
 f170:=Tryz.func207.trans (congrArg some (by kernel_rfl))
 f206:=Tryz.func231.trans (congrArg some (by kernel_rfl))
 f212:=Tryz.func205.trans (congrArg some (by kernel_rfl))
 f240:=Tryz.func135.trans (congrArg some (by kernel_rfl))
 f241:=Tryz.func208.trans (congrArg some (by kernel_rfl))
 f263:=Tryz.func229.trans (congrArg some (by kernel_rfl))
 f264:=Tryz.func230.trans (congrArg some (by kernel_rfl))
 f276:=Tryz.func170.trans (congrArg some (by kernel_rfl))
 f277:=Tryz.func232.trans (congrArg some (by kernel_rfl))
 t0:=Tryz.underlying0
 a0:=Tryz.isAgg0
 z0:=Tryz.sizeOf0
 v0:=Tryz.zeroValue0
 t3:=Tryz.underlying3
 a3:=Tryz.isAgg3
 z3:=Tryz.sizeOf3
 v3:=Tryz.zeroValue3
 t4:=Tryz.underlying4
 a4:=Tryz.isAgg4
 z4:=Tryz.sizeOf4
 v4:=Tryz.zeroValue4
 t5:=Tryz.underlying5
 a5:=Tryz.isAgg5
 z5:=Tryz.sizeOf5
 v5:=Tryz.zeroValue5
 t9:=Tryz.underlying9
 a9:=Tryz.isAgg9
 z9:=Tryz.sizeOf9
 v9:=Tryz.zeroValue9
 t20:=Tryz.underlying20
 a20:=Tryz.isAgg20
 z20:=Tryz.sizeOf20
 v20:=Tryz.zeroValue20
 t37:=Tryz.underlying157
 a37:=Tryz.isAgg157
 z37:=Tryz.sizeOf157
 v37:=Tryz.zeroValue157
 t46:=Tryz.underlying49
 a46:=Tryz.isAgg49
 z46:=Tryz.sizeOf49
 v46:=Tryz.zeroValue49
 t51:=Tryz.underlying95
 a51:=Tryz.isAgg95
 z51:=Tryz.sizeOf95
 v51:=Tryz.zeroValue95
 t53:=Tryz.underlying36
 a53:=Tryz.isAgg36
 z53:=Tryz.sizeOf36
 v53:=Tryz.zeroValue36
 t70:=Tryz.underlying156
 a70:=Tryz.isAgg156
 z70:=Tryz.sizeOf156
 v70:=Tryz.zeroValue156
 t72:=Tryz.underlying159
 a72:=Tryz.isAgg159
 z72:=Tryz.sizeOf159
 v72:=Tryz.zeroValue159
 t75:=Tryz.underlying108
 a75:=Tryz.isAgg108
 z75:=Tryz.sizeOf108
 v75:=Tryz.zeroValue108
 t76:=Tryz.underlying167
 a76:=Tryz.isAgg167
 z76:=Tryz.sizeOf167
 v76:=Tryz.zeroValue167
 t109:=Tryz.underlying313
 a109:=Tryz.isAgg313
 z109:=Tryz.sizeOf313
 v109:=Tryz.zeroValue313
 t127:=Tryz.underlying230
 a127:=Tryz.isAgg230
 z127:=Tryz.sizeOf230
 v127:=Tryz.zeroValue230
 t146:=Tryz.underlying328
 a146:=Tryz.isAgg328
 z146:=Tryz.sizeOf328
 v146:=Tryz.zeroValue328
 t148:=Tryz.underlying330
 a148:=Tryz.isAgg330
 z148:=Tryz.sizeOf330
 v148:=Tryz.zeroValue330
 t164:=Tryz.underlying281
 a164:=Tryz.isAgg281
 z164:=Tryz.sizeOf281
 v164:=Tryz.zeroValue281 }
theorem Tryz.ry:Builder.Extra Tryz.prog Tryz.uW:={
 sizeBuilder:=by kernel_rfl
 liesBuilder:=by kernel_rfl
 t5:=Tryz.underlying5
 a5:=Tryz.isAgg5
 z5:=Tryz.sizeOf5
 v5:=Tryz.zeroValue5
 infoByte:=by kernel_rfl
 cellsByte:=by kernel_rfl
 sizeByte:=by kernel_rfl
 neB5:=by decide }
open Go.RowKit Go.Lib in
theorem Tryz.strings_Repeat (s:ByteArray) (c:Nat) (w:World) (hc:c≤9223372036854775807) (hlen:s.size*c≤140737488355328) :
 Calls Tryz.prog 173 #[.string s,.int .i64 c] w fun e w'=>e=.returned (.string ⟨(Lib.repeatL s.data.toList c).toArray⟩)∧Below w.heap.size w w':=Any.strings_Repeat Tryz.Q_ Tryz.ry s c w hc hlen
def Tryz.zA:Go.Shelf.Ren:=⟨fun|15=>85|n=>n,fun|22=>23|3=>3|4=>4|n=>n,fun|n=>n⟩
theorem Tryz.tT:Go.Proofs.Lays2.n15 Tryz.prog Tryz.zA:={
 mixed:=by kernel_rfl
 f15:=Tryz.func85.trans (congrArg some (by kernel_rfl))
 t3:=Tryz.underlying3
 a3:=Tryz.isAgg3
 z3:=Tryz.sizeOf3
 v3:=Tryz.zeroValue3
 t4:=Tryz.underlying4
 a4:=Tryz.isAgg4
 z4:=Tryz.sizeOf4
 v4:=Tryz.zeroValue4
 t22:=Tryz.underlying23
 a22:=Tryz.isAgg23
 z22:=Tryz.sizeOf23
 v22:=Tryz.zeroValue23
 i3:=by kernel_rfl }
open Go.RowKit Go.Lib in
theorem Tryz.slices_Clone_int (b off n c:Nat) (zs:List Int) (w:World) (hz:n≤zs.length) (hbig:n*8≤140737488355328) (hc:∀j,j<zs.length→w.cell? ⟨b,off+j,none⟩=some (.int .i64 (zs.getD j 0))) :
 Calls Tryz.prog 85 #[.slice (some ⟨b,off,none⟩) n c] w fun e w'=>∃v',e=.returned v'∧w'.ownsRow w.heap.size 3 1 v' n ((zs.take n).map (Value.int .i64))∧v'≠.slice none 0 0∧Below w.heap.size w w':=Any.slices_Clone_int Tryz.tT b off n c zs w hz hbig hc
open Go.RowKit Go.Lib in
theorem Tryz.slices_Clone_int_nil (n c:Nat) (w:World) :
 Calls Tryz.prog 85 #[.slice none n c] w fun e w'=>e=.returned (.slice none 0 0)∧w'=w:=Any.slices_Clone_int_nil Tryz.tT n c w
open Go.RowKit Go.Lib in
theorem Tryz.slices_Clone_int_zero (a:Addr) (c:Nat) (w:World) :
 Calls Tryz.prog 85 #[.slice (some a) 0 c] w fun e w'=>∃v',e=.returned v'∧w'.ownsRow w.heap.size 3 1 v' 0 []∧v'≠.slice none 0 0∧Below w.heap.size w w':=Any.slices_Clone_int_zero Tryz.tT a c w
end
end Go.Proofs
namespace Go.Proofs.YtjidohgiigjifaaGreatDoor
open Go.RowKit Go.Cd
theorem Av (l:List Nat) (d:Nat):kg 0 (l++[d])=kg 0 l*16+d:=by rw [mU];rfl
theorem JS:∀(l:List Nat) (v:Nat),(∀d∈l,d<16)→kg v l<(v+1)*16 ^ l.length
 | [],v,_=>by simp [kg]
 | d::l,v,h=>by
   have ih:=JS l (v*16+d) fun x hx=>h x (List.mem_cons_of_mem _ hx);have hd:=h d (List.mem_cons_self ..);show kg (v*16+d) l<_;refine Nat.lt_of_lt_of_le ih ?_;rw [List.length_cons,Nat.pow_succ,Nat.mul_comm (16 ^ l.length) 16,←Nat.mul_assoc];exact Nat.mul_le_mul_right _ (by omega)
theorem toUInt8_toNat (b:UInt8):b.toNat.toUInt8=b:=by simp
theorem ng {w:World} (c:Nat) (hc:c<1114112) :
 Calls Tryz.prog 163 #[.string (tx (aS c))] w fun e w'=>e=.returned (.tuple #[.int .i32 c,.bool true])∧w'=w:=by
 obtain ⟨s,hse⟩:=af (tx (aS c));obtain ⟨ds,hds⟩:=af (fO (iX c) c);have hT:aS c=ds.map jC:=by rw [hds];exact jD _ _
 have hdl:∀d∈ds,d<16:=by rw [hds];exact lh _ _
 have hval:kg 0 ds=c:=by rw [hds];exact wR _ _ (Ni hc)
 obtain ⟨n,hn⟩:=af ds.length;have hsz:s.size=n:=by rw [hse,bn,hT,List.length_map,hn]
 have h46:4≤n∧n≤6:=by
  have:=bJ c;rw [hT,List.length_map,←hn] at this;exact this
 have hs0:0<s.size:=by omega
 have h48:4<n→(s[0]'hs0).toNat≠48:=by
  intro h4 e;subst hse;rw [JR] at e;have h:=KD hc (by rw [hT,List.length_map,←hn];exact h4) ((aS c)[0]'(by rwa [bn] at hs0)) (List.getElem?_eq_getElem _);apply h;rw [←UInt8.toNat_inj];exact e
 have HIX:=ae (show ∀(W:World) (j:Nat) (hj:j<s.size) (hj2:j<ds.length),Calls Tryz.prog 181 #[.string ⟨#[48,49,50,51,52,53,54,55,56,57,65,66,67,68,69,70]⟩,.int .u8 ((s[j]'hj).toNat:Int)] W fun e w'=>e=.returned (.int .i64 (ds[j]:Nat))∧w'=W from fun W j hj hj2=>by
  have h:=Tryz.strings_IndexByte ⟨#[48,49,50,51,52,53,54,55,56,57,65,66,67,68,69,70]⟩ ((s[j]'hj).toNat:Int) W;have e1:(((s[j]'hj).toNat:Int)).toNat.toUInt8=jC ds[j]:=by
   rw [Int.toNat_natCast,toUInt8_toNat];subst hse;rw [JR];simp only [hT,List.getElem_map]
  rw [e1,show (⟨#[48,49,50,51,52,53,54,55,56,57,65,66,67,68,69,70]⟩:ByteArray).data.toList=Nt from rfl,vU _ (hdl _ (List.getElem_mem _))] at h
  exact h)
 have HV:=ae (show ∀j,kg 0 (ds.take j)<16777216 from fun j=>by
  have:=JS (ds.take j) 0 fun d hd=>hdl d (List.mem_of_mem_take hd);have h2:(16:Nat) ^ (ds.take j).length≤16 ^ 6:=Nat.pow_le_pow_right (by decide) (by rw [List.length_take];omega);have e6:(16:Nat) ^ 6=16777216:=by decide
  omega)
 have XX:=ae hval;have JU:=ae hdl;have HN:=ae hn;have U1:=ae hsz;rw [←hse];clear hse hds hT hdl hval hn;go_enter Tryz.func163,Tryz.ntmps163;by_cases h4:4<n
 ·obtain ⟨B,hB⟩:∃B:Nat,B=(s[0]'hs0).toNat:=⟨_,rfl⟩;have e0:((s[0]'hs0).toNat:Int)=(B:Int):=by rw [hB]
  have z48:((B:Int)==48)=false:=by have:=h48 h4;rw [←hB] at this;simp;omega
  clear h48 hB;go_wp2_with fail;go_loopw [4,27] (fun nv iv wr=>∃j:Nat,j≤n∧iv=.int .i64 j∧nv=.int .i64 ((kg 0 (ds.take j):Nat):Int)∧wr=w) (fun _ iv _=>n-(intOf iv).toNat)
  case atStart=>exact ⟨0,Nat.zero_le _,rfl,rfl,(by first|rfl|trivial)⟩
  case round=>
   obtain ⟨j,hj,rfl,rfl,rfl⟩:=hrel;by_cases hjn:j<n
   ·have hjs:j<s.size:=by omega
    have hjd:j<ds.length:=by have:=HN.out;omega
    have IX:=ae (fun W=>HIX.out W j hjs hjd);have hd:=JU.out _ (List.getElem_mem hjd);have ES:=ae (show kg 0 (ds.take (j+1))=kg 0 (ds.take j)*16+ds[j] by rw [List.take_succ_eq_append_getElem hjd,Av]);have hv:=HV.out j;generalize ds[j]=d at *;generalize kg 0 (ds.take j)=V at *;obtain ⟨B,hB⟩:∃B:Nat,B=(s[j]'hjs).toNat:=⟨_,rfl⟩;rw [←hB] at IX;have ej:((s[j]'hjs).toNat:Int)=(B:Int):=by rw [hB]
    clear hB;go_wp2_with fail;refine (IX.out _).mono ?_;rintro e w2 ⟨rfl,rfl⟩;go_wp2;go_roundw
    case rel=>exact ⟨j+1,by omega,rfl,by rw [ES.out];simp,(by first|rfl|trivial)⟩
    case measure=>simp [intOf];omega
   ·have Ra:j=n:=by omega
    have e1:kg 0 (ds.take j)=c:=by rw [List.take_of_length_le (by rw [←HN.out];omega)];exact XX.out
    have zc:¬(1114111:Int)<(c:Int):=by omega
    have zj:¬(j:Int)<(n:Int):=by omega
    rw [e1];clear e1 Ra;go_wp2;go_ret2;exact ⟨rfl,rfl⟩
 ·clear h48;go_wp2_with fail;go_loopw [4,27] (fun nv iv wr=>∃j:Nat,j≤n∧iv=.int .i64 j∧nv=.int .i64 ((kg 0 (ds.take j):Nat):Int)∧wr=w) (fun _ iv _=>n-(intOf iv).toNat)
  case atStart=>exact ⟨0,Nat.zero_le _,rfl,rfl,(by first|rfl|trivial)⟩
  case round=>
   obtain ⟨j,hj,rfl,rfl,rfl⟩:=hrel;by_cases hjn:j<n
   ·have hjs:j<s.size:=by omega
    have hjd:j<ds.length:=by have:=HN.out;omega
    have IX:=ae (fun W=>HIX.out W j hjs hjd);have hd:=JU.out _ (List.getElem_mem hjd);have ES:=ae (show kg 0 (ds.take (j+1))=kg 0 (ds.take j)*16+ds[j] by rw [List.take_succ_eq_append_getElem hjd,Av]);have hv:=HV.out j;generalize ds[j]=d at *;generalize kg 0 (ds.take j)=V at *;obtain ⟨B,hB⟩:∃B:Nat,B=(s[j]'hjs).toNat:=⟨_,rfl⟩;rw [←hB] at IX;have ej:((s[j]'hjs).toNat:Int)=(B:Int):=by rw [hB]
    clear hB;go_wp2_with fail;refine (IX.out _).mono ?_;rintro e w2 ⟨rfl,rfl⟩;go_wp2;go_roundw
    case rel=>exact ⟨j+1,by omega,rfl,by rw [ES.out];simp,(by first|rfl|trivial)⟩
    case measure=>simp [intOf];omega
   ·have Ra:j=n:=by omega
    have e1:kg 0 (ds.take j)=c:=by rw [List.take_of_length_le (by rw [←HN.out];omega)];exact XX.out
    have zc:¬(1114111:Int)<(c:Int):=by omega
    have zj:¬(j:Int)<(n:Int):=by omega
    rw [e1];clear e1 Ra;go_wp2;go_ret2;exact ⟨rfl,rfl⟩
end Go.Proofs.YtjidohgiigjifaaGreatDoor
namespace Go.Cd
section
open Go.Lib
def eX (nm:List UInt8) (r:aF):List (List UInt8):=[aS r.code,nm,[],gD r.cls,[],b_ r.map,[],[],[],[],[],[],[],[],[]]
def dL (nm:List UInt8) (r:aF):List UInt8:=bu 59 (eX nm r)
theorem Re (r:aF):dL [88] r=jh r:=(Hw r).symm
def uX:List UInt8:=[44,32,70,105,114,115,116,62]
def Hy:List UInt8:=[44,32,76,97,115,116,62]
def Nw:List (List UInt8):=[[60,72,97,110,103,117,108,32,83,121,108,108,97,98,108,101],
 [60,78,111,110,32,80,114,105,118,97,116,101,32,85,115,101,32,72,105,103,104,32,83,117,114,114,111,103,97,116,101],
 [60,80,114,105,118,97,116,101,32,85,115,101]]
inductive mG:List UInt8→List UInt8→List UInt8→Bool→Prop
 | row:mG [] [88] [] false
 | fst (b:List UInt8) (hb:b∈Nw):mG [] (b++uX) (b++uX) true
 | lst (b:List UInt8) (hb:b∈Nw):mG (b++uX) (b++Hy) [] true
theorem xg:∀b∈Nw,(b++uX≠[]∧b++Hy≠[]∧(b++uX).length≤60∧(b++Hy).length≤60∧(∀x∈b++uX,(32≤x.toNat∧x.toNat≤126)∧x≠59)∧∀x∈b++Hy,(32≤x.toNat∧x.toNat≤126)∧x≠59):=by decide
theorem mG.name {o nm o':List UInt8} {pl:Bool} (h:mG o nm o' pl):nm≠[]∧nm.length≤60∧∀x∈nm,dQ x∧x≠59:=by
 cases h with
 | row=>refine ⟨by simp,by simp,?_⟩;unfold dQ;decide
 | fst b hb=>have:=xg b hb;exact ⟨this.1,this.2.2.1,this.2.2.2.2.1⟩
 | lst b hb=>have:=xg b hb;exact ⟨this.2.1,this.2.2.2.1,this.2.2.2.2.2⟩
theorem Aw (c:UInt8):∀l:List (List UInt8),(bu c l).length≤(l.map fun p=>p.length+1).sum
 | []=>by simp [bu]
 | [p]=>by simp [bu]
 | p::q::l=>by
   have:=Aw c (q::l);show (p++c::bu c (q::l)).length≤_;rw [List.length_append,List.length_cons,List.map_cons,List.sum_cons];omega
theorem Ay {P:UInt8→Prop} {c:UInt8} (hc:P c):∀{l:List (List UInt8)},(∀p∈l,∀b∈p,P b)→∀b∈bu c l,P b
 | [],_,b,hb=>by simp [bu] at hb
 | [p],h,b,hb=>h p (by simp) b hb
 | p::q::l,h,b,hb=>by
   have hb:b∈p++c::bu c (q::l):=hb;rcases List.mem_append.1 hb with hb|hb
   ·exact h p (by simp) b hb
   ·rcases List.mem_cons.1 hb with rfl|hb
    ·exact hc
    ·exact Ay hc (l:=q::l) (fun p hp=>h p (by simp [hp])) b hb
section
variable {nm : List UInt8} {r : aF} (hn : nm.length ≤ 60 ∧ ∀ x ∈ nm, dQ x ∧ x ≠ 59) (hc : r.cls < 255)
include hn hc
theorem xh:∀p∈eX nm r,∀b∈p,dQ b∧b≠59:=by
 intro p hp b hb;unfold eX at hp;simp only [List.mem_cons,List.not_mem_nil,or_false] at hp;rcases hp with rfl|rfl|rfl|rfl|rfl|rfl|rfl|rfl|rfl|rfl|rfl|rfl|rfl|rfl|rfl
 ·exact ⟨(dA _ b hb).1,(dA _ b hb).2.1⟩
 ·exact hn.2 b hb
 ·simp at hb
 ·exact He (by omega) b hb
 ·simp at hb
 ·exact wS _ b hb
 all_goals simp at hb
theorem Ed:∀b∈dL nm r,dQ b:=Ay (by unfold dQ;decide) fun p hp b hb=>(xh hn hc p hp b hb).1
theorem NU (hm:r.map.length≤2):(dL nm r).length≤100:=by
 have _:=hc
 have h1:=bJ r.code;have h2:=qU r.cls;have h3:=ll hm;have:=Aw 59 (eX nm r);have h0:=hn.1;unfold dL;refine Nat.le_trans this ?_;simp only [eX,List.map_cons,List.map_nil,List.sum_cons,List.sum_nil,List.length_nil];omega
end
structure gm where
 nm:List UInt8
 r:aF
 op:List UInt8
 pl:Bool
def gm.t (l:gm):List UInt8:=dL l.nm l.r
def pF (r:aF):gm:=⟨[88],r,[],false⟩
def lG (I:List gm):List aF:=(I.filter fun l=>!l.pl).map (·.r)
theorem Az (T:List aF):lG (T.map pF)=T:=by
 unfold lG;rw [List.filter_eq_self.2 (by intro l hl;obtain ⟨r,_,rfl⟩:=List.mem_map.1 hl;rfl),List.map_map];exact List.map_id _
theorem KJ (T:List aF):(T.map pF).map gm.t=T.map jh:=by
 rw [List.map_map];exact List.map_congr_left fun r _=>Re r
end
end Go.Cd
