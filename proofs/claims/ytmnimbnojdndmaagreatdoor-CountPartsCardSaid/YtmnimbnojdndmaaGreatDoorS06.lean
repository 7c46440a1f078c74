/- State by state it is added up what is possible; no condition. -/
import Derived.Test.YtmnimbnojdndmaaGreatDoorS05
import Derived.Sort.Walk7
import Derived.Sort.Walk11
import Derived.Sort.WalkD2
import Derived.Sort.Walk13
import Derived.Sort.WalkA14
import Derived.Sort.AssemblyPlain
import Derived.Shelf.SlicesE.Compact
import Derived.Shelf.SlicesE.Index
import Derived.Lib.SlicesCompact
import Derived.RangeFuncBox
import Derived.RangeFuncLeaves
import Derived.RangeFuncWrites
import Derived.Shelf.Abstract
import Derived.OwnWalkIn
import Derived.TacticsInMore
import Derived.LoopNIn
import Derived.LoopIn
set_option maxRecDepth 100000
set_option maxHeartbeats 6400000
set_option linter.all false
namespace Go.Proofs.YtmnimbnojdndmaaGreatDoor
open Go.RowKit Go.Sort _root_.Go.Proofs.Tryz
def xN (b a X:Nat) (k:X<18446744073709551616) (w:World) (l:w.cell? ⟨b,a,none⟩=some (.int .u64 X)) (hf:w.frozen? ⟨b,a,none⟩=false) :
 Calls prog 175 #[.pointer (some ⟨b,a,none⟩)] w λe w'=>e=.returned (.int .u64 (xorNextN X:Nat))/\w'=(w.setCell ⟨b,a,none⟩ (.int .u64 (xorNextN X:Nat))).drewN 3:=by
 obtain⟨A,c⟩:∃A:Nat,A=X ^^^ (X*8192 % 18446744073709551616):=⟨_,rfl⟩;obtain⟨B,d⟩:∃B:Nat,B=A ^^^ (A / 128):=⟨_,rfl⟩;obtain⟨C,f⟩:∃C:Nat,C=B ^^^ (B*131072 % 18446744073709551616):=⟨_,rfl⟩;have j:A<18446744073709551616:=by rw[c];exact Nat.xor_lt_two_pow (n:=64) (by omega) (by omega)
 have h:B<18446744073709551616:=by rw[d];exact Nat.xor_lt_two_pow (n:=64) (by omega) (by omega)
 have:bits .xor .u64 (X:Int) (IntKind.u64.wrap ((X:Int)*8192))=(A:Int):=by
  rw[pf,show((X:Int)*8192 % 18446744073709551616)=((X*8192 % 18446744073709551616:Nat):Int) by omega,bits_xor_u64_nat _ _ k (by omega),c]
 have:bits .xor .u64 (A:Int) ((A:Int) / 128)=(B:Int):=by
  rw[show((A:Int) / 128)=((A / 128:Nat):Int) by omega,bits_xor_u64_nat _ _ j (by omega),d]
 have:bits .xor .u64 (B:Int) (IntKind.u64.wrap ((B:Int)*131072))=(C:Int):=by
  rw[pf,show((B:Int)*131072 % 18446744073709551616)=((B*131072 % 18446744073709551616:Nat):Int) by omega,bits_xor_u64_nat _ _ h (by omega),f]
 have g:xorNextN X=C:=by unfold xorNextN;simp only[];rw[<-c,<-d,<-f]
 rw[g];clear c d f g;have:∀v v',(w.setCell ⟨b,a,none⟩ v).setCell ⟨b,a,none⟩ v'=w.setCell ⟨b,a,none⟩ v':=setCell_setCell w b a;go_enter func175,ntmps175;go_wp2;go_region
 all_goals go_wp2
 all_goals go_region
 all_goals go_wp2
 all_goals go_region
 all_goals go_wp2
 go_ret;exact⟨rfl,rfl⟩
def vS (n:Nat) (c:n<4611686018427387904) (w:World) :
 Calls prog 174 #[.int .i64 n] w λe w'=>e=.returned (.int .u64 ((1 <<< bitsLen n:Nat):Int))/\w'=w:=by
 have a:∀w,Calls prog 99 #[.int .u64 (n:Int)] w λe w'=>e=.returned (.int .i64 (bitsLen n:Nat))/\w'=w:=λw=>by
  have h:=Tryz.bits_Len (n:Int) w (by omega) (by omega)
  rwa [pw,bitLen_eq _ (by omega)] at h
 have b:bitsLen n<=62:=(bitsLen_le_iff n 62).2 (by omega);have:=wrap_two_pow (bitsLen n) b;go_enter func174,ntmps174;go_wp2_with (first|(go_at_call 99;refine(a _).mono ?_;rintro e w'⟨rfl,rfl⟩));go_ret;exact⟨rfl,rfl⟩
def nW (b off cap a L:Nat) (d:Array Int) (w:World) (u:Holds (Value.int .i32) w b off d) (f:b<w.heap.size) (X:a+L<=d.size) (T:d.size<4611686018427387904) (Q:8<=L) :
 Calls prog 137 #[.slice (some ⟨b,off,none⟩) d.size cap,.int .i64 a,.int .i64 ((a+L:Nat):Int)] w λe w'=>
  e=.returned (.tuple #[])/\∃n os,w'=grow (putRow (Value.int .i32) (Sort.ahead w n) b off (breakPatterns d a (a+L))) os:=by
 rw[breakPatterns_eq d a L Q];obtain⟨M,m⟩:∃M:Nat,M=1 <<< bitsLen L:=⟨_,rfl⟩;have:1<=M:=by rw[m,Nat.one_shiftLeft];exact Nat.two_pow_pos _
 have:M<=2*L:=by rw[m,Nat.one_shiftLeft];exact two_pow_bitsLen_le (by omega)
 have F:∀w,Calls prog 174 #[.int .i64 (L:Int)] w λe w'=>e=.returned (.int .u64 (M:Int))/\w'=w:=by rw[m];exact λw=>vS L (by omega) w
 rw[<-m];clear m;have N:Hid (Holds (Value.int .i32) w b off d):=u;have D:Hid (w.alloc (Obj.cells #[.int .u64 (L:Int)] 285)=grow (putRow (Value.int .i32) (Sort.ahead w 0) b off d) #[Obj.cells #[.int .u64 ((UInt64.ofNat L).toNat:Int)] 285]):=by
  show _=_;rw[show Sort.ahead w 0=w from rfl,putRow_self _ _ _ _ _ u,alloc_eq_grow,show(UInt64.ofNat L).toNat=L from by simp;omega]
 clear u;go_enter func137,ntmps137;go_wp2_with (first|(go_at_call 174;rw[show((a:Int)+(L:Int)-(a:Int))=(L:Int) by omega];refine(F _).mono ?_;rintro e w'⟨rfl,rfl⟩))
 go_loopw [9] (λy wr=>∃(t n:Nat) (r:UInt64) (c:Array Int),y=.int .i64 ((a+L / 4*2-1+t:Nat):Int)/\t<=3/\c.size=d.size/\
  wr=grow (putRow (Value.int .i32) (Sort.ahead w n) b off c) #[Obj.cells #[.int .u64 (r.toNat:Int)] 285]/\
  bpRest a L M (a+L / 4*2-1) (3-t) t (r,c)=bpRest a L M (a+L / 4*2-1) 3 0 (UInt64.ofNat L,d)) (λy _=>a+L / 4*2+3-(intOf y).toNat)
 case atStart=>exact⟨0,0,UInt64.ofNat L,d,by congr 1;omega,by omega,rfl,D.out,rfl⟩
 case round=>
  obtain⟨t,n,r,c,rfl,Z,j,l,J⟩:=hrel;obtain⟨R,g⟩:∃R:Nat,R=r.toNat:=⟨_,rfl⟩;have K:R<18446744073709551616:=by rw[g];exact r.toNat_lt
  obtain⟨R',h⟩:∃R':Nat,R'=xorNextN R:=⟨_,rfl⟩;have E:R'<18446744073709551616:=by rw[h];exact xorNextN_lt R K
  obtain⟨O,p⟩:∃O:Nat,O=R' &&& (M-1):=⟨_,rfl⟩;have:O<=M-1:=by rw[p];exact Nat.and_le_right
  have:bits .and .u64 (R':Int) ((M:Int)-1)=(O:Int):=by
   rw[show((M:Int)-1)=((M-1:Nat):Int) by omega,bits_and_u64_nat _ _ E (by omega),p]
  obtain⟨G,z⟩:∃G:Nat->Int,∀x,G x=c[x]!:=⟨λx=>c[x]!,λ_=>rfl⟩;have o:(putRow (Value.int .i32) (Sort.ahead w n) b off c).heap.size=w.heap.size:=by simp
  have:∀x,x<d.size->wr.cell? ⟨b,off+x,none⟩=some (.int .i32 (G x)):=λx H=>by
   rw[l,cell?_grow _ _ _ (by rw[o];exact f),z];exact cell?_putRow _ _ _ _ d c (holds_ahead _ _ _ _ _ _ N.out) j x (by omega)
  have:∀x,x<d.size->wr.frozen? ⟨b,off+x,none⟩=false:=λx H=>by
   rw[l,frozen?_grow _ _ _ (by rw[o];exact f),frozen?_putRow];exact((holds_ahead _ _ n _ _ _ N.out) x H).2
  have v:wr.cell? ⟨w.heap.size,0,none⟩=some (.int .u64 (R:Int)):=by rw[l,g,<-o];exact grow_one_cell _ _ _
  have A:wr.frozen? ⟨w.heap.size,0,none⟩=false:=by rw[l,<-o];exact grow_one_frozen _ _ _
  have i:Calls prog 175 #[.pointer (some ⟨w.heap.size,0,none⟩)] wr λe w'=>e=.returned (.int .u64 (R':Int))/\w'=(wr.setCell ⟨w.heap.size,0,none⟩ (.int .u64 (R':Int))).drewN 3:=by
   rw[h];exact xN _ _ R K wr v A
  have s:Hid (wr=grow (putRow (Value.int .i32) (Sort.ahead w n) b off c) #[Obj.cells #[.int .u64 (r.toNat:Int)] 285]):=l;have I:Hid (∀x,G x=c[x]!):=z;have B:Hid (bpRest a L M (a+L / 4*2-1) (3-t) t (r,c)=bpRest a L M (a+L / 4*2-1) 3 0 (UInt64.ofNat L,d)):=J;have q:Hid (R'=(xorNext r).toNat/\O=(xorNext r).toNat &&& (M-1)):=by
   have e:R'=(xorNext r).toNat:=by rw[h,g,xorNext_toNat]
   exact⟨e,by rw[p,e]⟩
  clear l z J g h p;go_wp2_with (first|(go_at_call 175;refine i.mono ?_;rintro e w'⟨rfl,rfl⟩))
  ·
   have C:L<=O:=by omega
   by_cases k:a+L / 4*2-1+t=a+(O-L)
   all_goals
    go_region
    all_goals go_wp2
    go_roundw
    case rel=>
     refine⟨t+1,n+4,xorNext r,swp c (a+L / 4*2-1+t) (a+(O-L)),by first|rfl|(congr 1 <;> omega),by omega,by rw[size_swp];exact j,?_,?_⟩
     ·(try rw[k])
      rw[s.out,q.out.1];simp only[I.out];exact step_world (Value.int .i32) w n 4 b off c _ _ f (by omega) (by omega) _ _ _
     rw[<-B.out,bp_step a L M _ t r c (O-L) (by omega) (by rw[<-q.out.2,if_pos (by omega)])]
    case measure=>simp[intOf];omega
  ·have C:¬L<=O:=by omega
   by_cases k:a+L / 4*2-1+t=a+O
   all_goals
    go_region
    all_goals go_wp2
    go_roundw
    case rel=>
     refine⟨t+1,n+4,xorNext r,swp c (a+L / 4*2-1+t) (a+O),by first|rfl|(congr 1 <;> omega),by omega,by rw[size_swp];exact j,?_,?_⟩
     ·(try rw[k])
      rw[s.out,q.out.1];simp only[I.out];exact step_world (Value.int .i32) w n 4 b off c _ _ f (by omega) (by omega) _ _ _
     rw[<-B.out,bp_step a L M _ t r c O (by omega) (by rw[<-q.out.2,if_neg (by omega)])]
    case measure=>simp[intOf];omega
  ·
   obtain rfl:t=3:=by omega
   go_end0
   exact⟨rfl,n,_,by rw[<-B.out,s.out];rfl⟩
def qD (c off cap a b:Nat) (d:Array Int) (w:World) (g:Holds (Value.int .i32) w c off d) (f:c<w.heap.size) (k:a<=b) (m:b<=d.size) (i:d.size<4611686018427387904) :
 Calls prog 137 #[.slice (some ⟨c,off,none⟩) d.size cap,.int .i64 a,.int .i64 b] w λe w'=>
  e=.returned (.tuple #[])/\∃n os,w'=grow (putRow (Value.int .i32) (Sort.ahead w n) c off (breakPatterns d a b)) os:=by
 obtain⟨L,rfl⟩:∃L,b=a+L:=⟨b-a,by omega⟩;by_cases j:8<=L
 ·exact nW c off cap a L d w g f m i j
 have l:breakPatterns d a (a+L)=d:=by unfold breakPatterns;simp only[lk];rw[if_neg j]
 rw[l];have h:Hid (w=grow (putRow (Value.int .i32) (Sort.ahead w 0) c off d) #[]):=by
  show _=_;rw[grow_empty,show Sort.ahead w 0=w from rfl,putRow_self _ _ _ _ _ g]
 clear g;go_enter func137,ntmps137;go_wp2
 go_end0
 exact⟨rfl,0,#[],h.out⟩
end Go.Proofs.YtmnimbnojdndmaaGreatDoor
namespace Go.Proofs.YtmnimbnojdndmaaGreatDoor
open Go.Sort Go.RowKit _root_.Go.Proofs.Tryz
def gq {w:World} {a off e f n t:Nat} {d:Array Int} (h:Holds (Value.int .i32) w a off d) (b:e≠a):Holds (Value.int .i32) (putRow (Value.int .i64) (Sort.ahead w n) e f (one t)) a off d:=λj c=>
 ⟨by rw[cell?_putRow_other _ _ _ _ _ _ (Or.inl (pr b))];exact(h j c).1,by rw[frozen?_putRow];exact(h j c).2⟩
def nJ (d:Array Int) (len:Nat) (g:d.size=len) (f off cap a b h i s:Nat) (w:World) (m:Holds (Value.int .i32) w f off d) (q:a<d.size) (p:b<d.size)
 (j:Holds (Value.int .i64) w h i (one s)) (r:s<2 ^ 62) :
 Calls prog 208 #[.slice (some ⟨f,off,none⟩) len cap,.int .i64 a,.int .i64 b,.pointer (some ⟨h,i,none⟩)] w λe w'=>
  e=.returned (.tuple #[.int .i64 (order2 ltInt d a b s).1,.int .i64 (order2 ltInt d a b s).2.1])/\∃n,w'=putRow (Value.int .i64) (Sort.ahead w n) h i (one (order2 ltInt d a b s).2.2):=by
 subst g
 replace r:s<4611686018427387904:=by omega
 have:=(m a q).1;have:=(m b p).1;obtain⟨t,x⟩:=one_cell j;have l:d[a]! = d[a]:=getElem!_pos d a q;have o:d[b]! = d[b]:=getElem!_pos d b p;go_enter func208,ntmps208;go_wp2
 go_region_with (go_at_call 141;refine(aK _ _ _).mono ?_;rintro e w'⟨rfl,rfl⟩)
 all_goals (try go_wp2)
 all_goals first
  | (have c:ltInt d[b] d[a]=true:=by assumption
     have k:order2 ltInt d a b s=(b,a,s+1):=by simp[order2,l,o,c]
     go_ret2;rw[k];refine⟨rfl,1,?_⟩;rw[putRow_ahead,<-one_set j (s+1)]
     simp[drew_eq_ahead])
  | (have c:ltInt d[b] d[a]=false:=by assumption
     have k:order2 ltInt d a b s=(a,b,s):=by simp[order2,l,o,c]
     go_ret2;rw[k];refine⟨rfl,1,?_⟩;rw[putRow_ahead,putRow_self _ _ _ _ _ j]
     rfl)
def tu (d:Array Int) (len:Nat) (j:d.size=len) (f off cap a b c g i s:Nat) (w:World) (l:Holds (Value.int .i32) w f off d) (q:a<d.size) (p:b<d.size) (o:c<d.size) (h:g≠f)
 (m:Holds (Value.int .i64) w g i (one s)) (x:s+3<2 ^ 62) :
 Calls prog 177 #[.slice (some ⟨f,off,none⟩) len cap,.int .i64 a,.int .i64 b,.int .i64 c,.pointer (some ⟨g,i,none⟩)] w λe w'=>
  e=.returned (.int .i64 (median ltInt d a b c s).1)/\∃n,w'=putRow (Value.int .i64) (Sort.ahead w n) g i (one (median ltInt d a b c s).2):=by
 subst j;have k:=order2_lt d s q p;have:=order2_swaps d a b s;have r:=order2_lt d (order2 ltInt d a b s).2.2 k.2 o;have:=order2_swaps d (order2 ltInt d a b s).2.1 c (order2 ltInt d a b s).2.2;go_enter func177,ntmps177;go_wp2_with (go_at_call_of 208 (Value.int .i64 (b:Int));refine(nJ d _ rfl f off cap a b g i s w l q p m (by omega)).mono ?_;rintro e w'⟨rfl,t,rfl⟩);go_wp2_with (go_at_call_of 208 (Value.int .i64 (c:Int));refine(nJ d _ rfl f off cap (order2 ltInt d a b s).2.1 c g i (order2 ltInt d a b s).2.2 _ (gq l h) k.2 o (holds_one m) (by omega)).mono ?_;rintro e w'⟨rfl,u,rfl⟩)
 go_wp2_with (go_at_call_of 208 (Value.int .i64 ((order2 ltInt d a b s).1:Int));refine(nJ d _ rfl f off cap (order2 ltInt d a b s).1 (order2 ltInt d (order2 ltInt d a b s).2.1 c (order2 ltInt d a b s).2.2).1 g i (order2 ltInt d (order2 ltInt d a b s).2.1 c (order2 ltInt d a b s).2.2).2.2 _
  (gq (gq l h) h) k.1 r.1 (holds_one (holds_one m)) (by omega)).mono ?_;rintro e w'⟨rfl,v,rfl⟩)
 go_ret;refine⟨rfl,t+(u+v),?_⟩;rw[one_one,one_one];rfl
def qo (d:Array Int) (len:Nat) (f:d.size=len) (b off cap a c g s:Nat) (w:World) (k:Holds (Value.int .i32) w b off d) (j:1<=a) (p:a+1<d.size) (i:d.size<2 ^ 62) (h:c≠b)
 (o:Holds (Value.int .i64) w c g (one s)) (m:s+3<2 ^ 62) :
 Calls prog 176 #[.slice (some ⟨b,off,none⟩) len cap,.int .i64 a,.pointer (some ⟨c,g,none⟩)] w λe w'=>
  e=.returned (.int .i64 (medianAdjacent ltInt d a s).1)/\∃n,w'=putRow (Value.int .i64) (Sort.ahead w n) c g (one (medianAdjacent ltInt d a s).2):=by
 subst f
 replace i:d.size<4611686018427387904:=by omega
 go_enter func176,ntmps176;go_wp2_with (go_at_call 177;rw[show((a:Int)-1)=((a-1:Nat):Int) by omega,show((a:Int)+1)=((a+1:Nat):Int) by omega];refine(tu d _ rfl b off cap (a-1) a (a+1) c g s w k (by omega) (by omega) p h o m).mono ?_;rintro e w'⟨rfl,l,rfl⟩);go_ret;exact⟨rfl,l,rfl⟩
def AU (a off cap:Nat) (d:Array Int) (w:World) (r:Holds (Value.int .i32) w a off d) (h:a<w.heap.size) (u:d.size<4611686018427387904) :
 ∃f:Nat->Nat->World,
  w.alloc (.cells #[.int .i64 0] 3)=f 0 0/\
  (∀N S:Nat,(f N S).cell? ⟨w.heap.size,0,none⟩=some (.int .i64 (S:Int)))/\
  (∀N S:Nat,∃os,f N S=grow (Sort.ahead w N) os)/\
  (∀x s N:Nat,1<=x->x+1<d.size->s+3<4611686018427387904->Calls prog 176 #[.slice (some ⟨a,off,none⟩) d.size cap,.int .i64 (x:Int),.pointer (some ⟨w.heap.size,0,none⟩)] (f N s) λe w'=>
    e=.returned (.int .i64 ((medianAdjacent ltInt d x s).1:Int))/\∃o,w'=f o (medianAdjacent ltInt d x s).2)/\
  (∀x y z s N:Nat,x<d.size->y<d.size->z<d.size->s+3<4611686018427387904->Calls prog 177 #[.slice (some ⟨a,off,none⟩) d.size cap,.int .i64 (x:Int),.int .i64 (y:Int),.int .i64 (z:Int),.pointer (some ⟨w.heap.size,0,none⟩)] (f N s) λe w'=>
    e=.returned (.int .i64 ((median ltInt d x y z s).1:Int))/\∃o,w'=f o (median ltInt d x y z s).2):=by
 have b:w.heap.size≠a:=by omega
 have g:Holds (Value.int .i32) (w.alloc (.cells #[.int .i64 0] 3)) a off d:=by rw[alloc_eq_grow];exact holds_grow _ _ _ _ _ _ h r
 have c:Holds (Value.int .i64) (w.alloc (.cells #[.int .i64 0] 3)) w.heap.size 0 (one 0):=λj p=>by
  obtain rfl:j=0:=by simpa using p
  simp
 refine⟨λN S=>putRow (Value.int .i64) (Sort.ahead (w.alloc (.cells #[.int .i64 0] 3)) N) w.heap.size 0 (one S),(putRow_self _ _ _ _ _ c).symm,λN S=>(one_cell (holds_one (n:=N) (t:=S) c)).1,λN S=>counter_grow w N S,?_,?_⟩
 ·intro x s N k i v;refine(qo d _ rfl a off cap x w.heap.size 0 s _ (gq g b) k i (by omega) b (holds_one c) (by omega)).mono ?_;rintro e w'⟨m,n,l⟩;exact⟨m,N+n,by rw[l,one_one]⟩
 intro x y z s N k i q v;refine(tu d _ rfl a off cap x y z w.heap.size 0 s _ (gq g b) k i q b (holds_one c) (by omega)).mono ?_;rintro e w'⟨m,n,l⟩;exact⟨m,N+n,by rw[l,one_one]⟩
def uq (g off cap a b:Nat) (d:Array Int) (w:World) (T:Holds (Value.int .i32) w g off d) (D:g<w.heap.size) (aa:a<b) (hb:b<=d.size) (P:d.size<4611686018427387904) :
 Calls prog 138 #[.slice (some ⟨g,off,none⟩) d.size cap,.int .i64 a,.int .i64 b] w λe w'=>
  e=.returned (.tuple #[.int .i64 (choosePivot ltInt d a b).1,.int .i64 (hintCode (choosePivot ltInt d a b).2)])/\∃n os,w'=grow (Sort.ahead w n) os:=by
 obtain⟨o,H,cS,O,x,B⟩:=AU g off cap d w T D P;clear T;rw[choosePivot_eq];obtain⟨I,hI⟩:∃I:Nat,I=a+(b-a) / 4*1:=⟨_,rfl⟩;obtain⟨J,y⟩:∃J:Nat,J=a+(b-a) / 4*2:=⟨_,rfl⟩;obtain⟨K,G⟩:∃K:Nat,K=a+(b-a) / 4*3:=⟨_,rfl⟩;have:((a:Int)+((b:Int)-(a:Int)) / 4)=(I:Int):=by omega
 have:((a:Int)+((b:Int)-(a:Int)) / 4*2)=(J:Int):=by omega
 have:((a:Int)+((b:Int)-(a:Int)) / 4*3)=(K:Int):=by omega
 by_cases M:b-a≥8
 ·by_cases F:b-a≥50
  ·
   obtain⟨u,s1,l⟩:∃u s1,medianAdjacent ltInt d I 0=(u,s1):=⟨_,_,rfl⟩;obtain⟨z,s2,q⟩:∃z s2,medianAdjacent ltInt d J s1=(z,s2):=⟨_,_,rfl⟩;obtain⟨v,s3,A⟩:∃v s3,medianAdjacent ltInt d K s2=(v,s3):=⟨_,_,rfl⟩;obtain⟨p,s,t⟩:∃p s,median ltInt d u z v s3=(p,s):=⟨_,_,rfl⟩;have f:rawPivot ltInt d a b=(p,s):=by simp only[rawPivot,if_pos M,if_pos F,<-hI,<-y,<-G,l,q,A,t]
   have L:=medianAdjacent_mem ltInt d I 0;rw[l] at L;have R:=medianAdjacent_mem ltInt d J s1;rw[q] at R;have S:=medianAdjacent_mem ltInt d K s2;rw[A] at S;have Z:=medianAdjacent_count ltInt d I 0;rw[l] at Z;have X:=medianAdjacent_count ltInt d J s1;rw[q] at X;have U:=medianAdjacent_count ltInt d K s2;rw[A] at U;simp only[] at L R S Z X U;have c1:Calls prog 176 #[.slice (some ⟨g,off,none⟩) d.size cap,.int .i64 (I:Int),.pointer (some ⟨w.heap.size,0,none⟩)] (o 0 0) λe w'=>e=.returned (.int .i64 (u:Int))/\∃r,w'=o r s1:=by
    have h:=x I 0 0 (by omega) (by omega) (by omega);rw[l] at h;exact h
   have c2:∀N,Calls prog 176 #[.slice (some ⟨g,off,none⟩) d.size cap,.int .i64 (J:Int),.pointer (some ⟨w.heap.size,0,none⟩)] (o N s1) λe w'=>e=.returned (.int .i64 (z:Int))/\∃r,w'=o r s2:=λN=>by
    have h:=x J s1 N (by omega) (by omega) (by omega);rw[q] at h;exact h
   have c3:∀N,Calls prog 176 #[.slice (some ⟨g,off,none⟩) d.size cap,.int .i64 (K:Int),.pointer (some ⟨w.heap.size,0,none⟩)] (o N s2) λe w'=>e=.returned (.int .i64 (v:Int))/\∃r,w'=o r s3:=λN=>by
    have h:=x K s2 N (by omega) (by omega) (by omega);rw[A] at h;exact h
   have Q:∀N,Calls prog 177 #[.slice (some ⟨g,off,none⟩) d.size cap,.int .i64 (u:Int),.int .i64 (z:Int),.int .i64 (v:Int),.pointer (some ⟨w.heap.size,0,none⟩)] (o N s3) λe w'=>e=.returned (.int .i64 (p:Int))/\∃r,w'=o r s:=λN=>by
    have h:=B u z v s3 N (by omega) (by omega) (by omega) (by omega);rw[t] at h;exact h
   rw[f];obtain⟨j,c⟩:∃j:Int,j=hintCode (hintOf s):=⟨_,rfl⟩;have k:s=0->j=1:=λh=>by rw[c,h];rfl
   have i:s=12->j=2:=λh=>by rw[c,h];rfl
   have m:s≠0->s≠12->j=0:=λl q=>by rw[c];unfold hintOf;rw[if_neg l,if_neg q];rfl
   show Calls prog 138 _ w λe w'=>e=.returned (.tuple #[.int .i64 (p:Int),.int .i64 (hintCode (hintOf s))])/\∃n os,w'=grow (Sort.ahead w n) os;rw[<-c];clear c f;clear l q A t x B hI y G L R S;go_enter func138,ntmps138
   go_wp2_with (first
    | (go_at_call_has 176 (Value.int .i64 (I:Int));refine c1.mono ?_;rintro e w'⟨rfl,N1,rfl⟩)
    | (go_at_call_has 176 (Value.int .i64 (J:Int));refine(c2 _).mono ?_;rintro e w'⟨rfl,N2,rfl⟩)
    | (go_at_call_has 176 (Value.int .i64 (K:Int));refine(c3 _).mono ?_;rintro e w'⟨rfl,N3,rfl⟩)
    | (go_at_call 177;refine(Q _).mono ?_;rintro e w'⟨rfl,N4,rfl⟩))
   all_goals
    go_ret2;refine⟨?_,_,O _ _⟩
    first
     | (have C:(s:Int)=0:=of_beq_int (by assumption)
        rw[k (by omega)];rfl)
     | (have E:(s:Int)=12:=of_beq_int (by assumption)
        rw[i (by omega)];rfl)
     | (have C:(s:Int)≠0:=of_bne_int (by assumption)
        have E:(s:Int)≠12:=of_bne_int (by assumption)
        rw[m (by omega) (by omega)];rfl)
     | (rw[k (by omega)];rfl)
  ·
   obtain⟨p,s,t⟩:∃p s,median ltInt d I J K 0=(p,s):=⟨_,_,rfl⟩;have f:rawPivot ltInt d a b=(p,s):=by simp only[rawPivot,if_pos M,if_neg F,<-hI,<-y,<-G,t]
   have Q:Calls prog 177 #[.slice (some ⟨g,off,none⟩) d.size cap,.int .i64 (I:Int),.int .i64 (J:Int),.int .i64 (K:Int),.pointer (some ⟨w.heap.size,0,none⟩)] (o 0 0) λe w'=>e=.returned (.int .i64 (p:Int))/\∃r,w'=o r s:=by
    have h:=B I J K 0 0 (by omega) (by omega) (by omega) (by omega);rw[t] at h;exact h
   rw[f];obtain⟨j,c⟩:∃j:Int,j=hintCode (hintOf s):=⟨_,rfl⟩;have k:s=0->j=1:=λh=>by rw[c,h];rfl
   have i:s=12->j=2:=λh=>by rw[c,h];rfl
   have m:s≠0->s≠12->j=0:=λl q=>by rw[c];unfold hintOf;rw[if_neg l,if_neg q];rfl
   show Calls prog 138 _ w λe w'=>e=.returned (.tuple #[.int .i64 (p:Int),.int .i64 (hintCode (hintOf s))])/\∃n os,w'=grow (Sort.ahead w n) os;rw[<-c];clear c f;clear t x B hI y G;go_enter func138,ntmps138;go_wp2_with (first|(go_at_call 177;refine Q.mono ?_;rintro e w'⟨rfl,N4,rfl⟩))
   all_goals
    go_ret2;refine⟨?_,_,O _ _⟩
    first
     | (have C:(s:Int)=0:=of_beq_int (by assumption)
        rw[k (by omega)];rfl)
     | (have E:(s:Int)=12:=of_beq_int (by assumption)
        rw[i (by omega)];rfl)
     | (have C:(s:Int)≠0:=of_bne_int (by assumption)
        have E:(s:Int)≠12:=of_bne_int (by assumption)
        rw[m (by omega) (by omega)];rfl)
     | (rw[k (by omega)];rfl)
 ·
  obtain⟨p,Y⟩:∃p:Nat,p=J:=⟨_,rfl⟩;obtain⟨s,W⟩:∃s:Nat,s=0:=⟨_,rfl⟩;have f:rawPivot ltInt d a b=(p,s):=by simp only[rawPivot,if_neg M,<-y,Y,W]
  rw[f];obtain⟨j,c⟩:∃j:Int,j=hintCode (hintOf s):=⟨_,rfl⟩;have k:s=0->j=1:=λh=>by rw[c,h];rfl
  have i:s=12->j=2:=λh=>by rw[c,h];rfl
  have m:s≠0->s≠12->j=0:=λl q=>by rw[c];unfold hintOf;rw[if_neg l,if_neg q];rfl
  show Calls prog 138 _ w λe w'=>e=.returned (.tuple #[.int .i64 (p:Int),.int .i64 (hintCode (hintOf s))])/\∃n os,w'=grow (Sort.ahead w n) os;rw[<-c];clear c f;subst Y;clear x B hI y G;have:w.alloc (.cells #[.int .i64 0] 3)=o 0 s:=by rw[W];exact H
  clear H;go_enter func138,ntmps138;go_wp2
  all_goals
   go_ret2;refine⟨?_,_,O _ _⟩
   first
    | (have C:(s:Int)=0:=of_beq_int (by assumption)
       rw[k (by omega)];rfl)
    | (have E:(s:Int)=12:=of_beq_int (by assumption)
       rw[i (by omega)];rfl)
    | (have C:(s:Int)≠0:=of_bne_int (by assumption)
       have E:(s:Int)≠12:=of_bne_int (by assumption)
       rw[m (by omega) (by omega)];rfl)
    | (rw[k (by omega)];rfl)
structure Ev:Prop where
 ins:∀(blk off cap a b:Nat) (d:Array Int) (w:World),Holds encR w blk off d->a<=b->b<=d.size->d.size<4611686018427387904->
  Calls prog 135 #[.slice (some ⟨blk,off,none⟩) d.size cap,.int .i64 a,.int .i64 b] w λe w'=>e=.returned (.tuple #[])/\∃n,w'=putRow encR (Sort.ahead w n) blk off (insertionSort ltInt d a b)
 brk:∀(blk off cap a b:Nat) (d:Array Int) (w:World),Holds encR w blk off d->blk<w.heap.size->a<=b->b<=d.size->d.size<4611686018427387904->
  Calls prog 137 #[.slice (some ⟨blk,off,none⟩) d.size cap,.int .i64 a,.int .i64 b] w λe w'=>e=.returned (.tuple #[])/\∃n os,w'=grow (putRow encR (Sort.ahead w n) blk off (breakPatterns d a b)) os
 piv:∀(blk off cap a b:Nat) (d:Array Int) (w:World),Holds encR w blk off d->blk<w.heap.size->a<b->b<=d.size->d.size<4611686018427387904->
  Calls prog 138 #[.slice (some ⟨blk,off,none⟩) d.size cap,.int .i64 a,.int .i64 b] w λe w'=>e=.returned (.tuple #[.int .i64 (choosePivot ltInt d a b).1,.int .i64 (hintCode (choosePivot ltInt d a b).2)])/\∃n os,w'=grow (Sort.ahead w n) os
 par:∀(blk off cap a b:Nat) (d:Array Int) (w:World),Holds encR w blk off d->a<b->b<=d.size->d.size<4611686018427387904->
  Calls prog 140 #[.slice (some ⟨blk,off,none⟩) d.size cap,.int .i64 a,.int .i64 b] w λe w'=>e=.returned (.bool (partialInsertionSort ltInt d a b).2)/\∃n,w'=putRow encR (Sort.ahead w n) blk off (partialInsertionSort ltInt d a b).1
 peq:∀(blk off cap a b pivot:Nat) (d:Array Int) (w:World),Holds encR w blk off d->a<=pivot->pivot<b->b<=d.size->d.size<4611686018427387904->
  Calls prog 142 #[.slice (some ⟨blk,off,none⟩) d.size cap,.int .i64 a,.int .i64 b,.int .i64 pivot] w λe w'=>e=.returned (.int .i64 (partitionEqual ltInt d a b pivot).1)/\∃n,w'=putRow encR (Sort.ahead w n) blk off (partitionEqual ltInt d a b pivot).2
 prt:∀(blk off cap a b pivot:Nat) (d:Array Int) (w:World),Holds encR w blk off d->a<=pivot->pivot<b->b<=d.size->d.size<4611686018427387904->
  Calls prog 143 #[.slice (some ⟨blk,off,none⟩) d.size cap,.int .i64 a,.int .i64 b,.int .i64 pivot] w λe w'=>e=.returned (.tuple #[.int .i64 (partition ltInt d a b pivot).1,.bool (partition ltInt d a b pivot).2.1])/\∃n,w'=putRow encR (Sort.ahead w n) blk off (partition ltInt d a b pivot).2.2
structure Qb:Prop where
 swo:SWO ltInt
 ins:insertionSort_stmt ltInt
 par:partialInsertionSort_stmt ltInt
 prt:partition_stmt ltInt
 peq:partitionEqual_stmt ltInt
 pdq:pdq_stmt ltInt
def AV (C:Ev) (S:Qb):∀(N o off cap a b limit:Nat) (d:Array Int) (w:World),b-a<N->Holds encR w o off d->o<w.heap.size->a<=b->b<=d.size->d.size<4611686018427387904->limit<4611686018427387904->Below ltInt a b d->
 Calls prog 98 #[.slice (some ⟨o,off,none⟩) d.size cap,.int .i64 a,.int .i64 b,.int .i64 limit] w λe w'=>e=.returned (.tuple #[])/\At encR w o off (pdq ltInt d a b limit true true) w':=by
 intro N
 induction N with
 | zero=>intro _ _ _ _ _ _ _ _ h;exact absurd h (tM _)
 | succ N ih=>
   intro o off cap a b limit d w hN Q l aL hb aN z ab;go_enter func98,ntmps98;go_wp2
   go_loopg [1,2,3,8,9] (b-a) (λk s1 s2 s3 s8 s9 wr=>∃(g i f:Nat) (wb wp:Bool) (j:Array Int),s1=.int .i64 g/\s2=.int .i64 i/\s3=.int .i64 f/\s8=.bool wb/\s9=.bool wp/\
    g<=i/\i<=d.size/\i-g<=k/\k<=b-a/\f<=limit/\j.size=d.size/\Below ltInt g i j/\At encR w o off j wr/\pdq ltInt j g i f wb wp=pdq ltInt d a b limit true true)
   case atStart=>exact⟨a,b,limit,true,true,d,rfl,rfl,rfl,rfl,rfl,aL,hb,d' _,d' _,d' _,rfl,ab,At.refl Q,rfl⟩
   case round=>
    obtain⟨g,i,f,wb,wp,j,rfl,rfl,rfl,rfl,rfl,q,aC,hk,aP,s,p,ao,O,ak⟩:=hrel;obtain⟨ad,ag⟩:=O.holds Q p l;have A:Aside (pdq ltInt j g i f wb wp=pdq ltInt d a b limit true true):=ak;clear ak;by_cases B:i-g<=12
    ·
     have an:(i:Int)-(g:Int)<=12:=by omega
     have hc:=C.ins o off cap g i j wr ad q (by omega) (by omega);rw[p] at hc;go_wp2_with (go_at_call 135;refine hc.mono ?_;rintro e w1⟨rfl,M⟩)
     (try simp only[Exit.inBlock,Exit.then]);refine bodyPost_ret (results_none rfl _ _ _) rfl ?_
     refine⟨rfl,?_⟩;rw[<-A.out,pdq_small B];exact O.step l (S.ins S.swo j g i q (by omega)).1.1 M
    have an:¬((i:Int)-(g:Int)<=12):=by omega
    by_cases I:f=0
    ·
     subst I;have hc:=Aa o off d.size cap j p g i wr ad q (by omega) (by omega);go_wp2_with (go_at_call 136;refine hc.mono ?_;rintro e w1⟨rfl,M⟩)
     (try simp only[Exit.inBlock,Exit.then]);refine bodyPost_ret (results_none rfl _ _ _) rfl ?_
     refine⟨rfl,?_⟩;rw[<-A.out,pdq_heap B rfl];exact O.step l (heapSort_holds S.swo j g i q (by omega)).1.1 M
    have aM:¬((f:Int)=0):=by omega
    obtain⟨s1,B1,aO,s2,B2,u,s3,B3⟩:=rd_facts (limit:=f) (wb:=wb) (wp:=wp) S.swo S.par reverseRange_holds (show g<i by omega) (show i<=j.size by omega) ao;go_upto_if 35 with fail;go_cut [3] from 19 (λs3 wc=>s3=.int .i64 (rd ltInt j g i f wb wp).lim/\At encR w o off (rd ltInt j g i f wb wp).d1 wc)
    case first=>
     cases wb
     ·have hc:=C.brk o off cap g i j wr ad ag q (by omega) (by omega);rw[p] at hc;go_wp2_with (go_at_call 137;refine hc.mono ?_;rintro e w1⟨rfl,M⟩);go_meet
      case rel=>
       refine⟨?_,O.stepG l s1 M⟩;show Value.int .i64 ((f:Int)-1)=Value.int .i64 ((f-1:Nat):Int);congr 1;omega
     go_wp2_with fail;go_meet
     case rel=>exact⟨rfl,O⟩
    case rest=>
     obtain⟨rfl,Z⟩:=hcut;obtain⟨aE,aa⟩:=Z.holds Q (s1.trans p) l;have ar:Calls prog 138 #[.slice (some ⟨o,off,none⟩) d.size cap,.int .i64 g,.int .i64 i] wc λe w'=>e=.returned (.tuple #[.int .i64 (rd ltInt j g i f wb wp).c.1,.int .i64 (hintCode (rd ltInt j g i f wb wp).c.2)])/\∃n os,w'=grow (Sort.ahead wc n) os:=by
      have:=C.piv o off cap g i (rd ltInt j g i f wb wp).d1 wc aE aa (by omega) (by omega) (by omega);rw[s1,p] at this;exact this
     go_upto_if 50 with (go_at_call 138;refine ar.mono ?_;rintro e w2⟨rfl,aF⟩);have G:At encR w o off (rd ltInt j g i f wb wp).d1 w2:=Z.same Q (s1.trans p) l aF;obtain⟨aI,aH⟩:=G.holds Q (s1.trans p) l;go_cut [11,12] from 19 (λs11 s12 wc=>s11=.int .i64 (rd ltInt j g i f wb wp).pivot/\s12=.int .i64 (hintCode (rd ltInt j g i f wb wp).hint)/\At encR w o off (rd ltInt j g i f wb wp).d2 wc)
     case first=>
      by_cases hh:(rd ltInt j g i f wb wp).c.2=.decreasing
      ·have ac:hintCode (rd ltInt j g i f wb wp).c.2=2:=by rw[hh];rfl
       obtain⟨e2,af,ai⟩:=rd_dec hh;have U:=sM o off cap (rd ltInt j g i f wb wp).d1 g i w2 aI q (by omega) (by omega);rw[s1,p] at U;go_wp2_with (go_at_call 139;refine U.mono ?_;rintro e w3⟨rfl,ay⟩);go_meet
       case rel=>
        refine⟨?_,by rw[ai];rfl,by rw[e2];exact G.step l (by rw[<-e2,s2,s1]) ay⟩;rw[af];congr 1;omega
      have ac:¬(hintCode (rd ltInt j g i f wb wp).c.2=2):=λh=>hh (hintCode_two h);obtain⟨e2,af,ai⟩:=rd_not hh;go_wp2_with fail;go_meet
      case rel=>exact⟨by rw[af],by rw[ai],by rw[e2];exact G⟩
     case rest=>
      obtain⟨rfl,rfl,y⟩:=hcut;obtain⟨aD,aA⟩:=y.holds Q (s2.trans p) l;go_upto_region 15 with fail;go_cut [12,68] from 19 (λs12 s68 wx=>s12=.int .i64 (hintCode (rd ltInt j g i f wb wp).hint)/\s68=.bool (wb&&wp&&decide ((rd ltInt j g i f wb wp).hint=.increasing))/\wx=wc)
      case first=>
       cases wb <;> cases wp <;> cases ah:(rd ltInt j g i f _ _).hint <;>
        (have T:=congrArg hintCode ah
         simp only[hintCode] at T;go_wp2_with fail;go_meet
         exact⟨by simp[ah,hintCode],by simp[ah,hintCode],rfl⟩)
      case rest=>
       obtain⟨rfl,rfl,rfl⟩:=hcut;go_upto_if 68 with fail;go_cut [] from 19 (λwx=>(rd ltInt j g i f wb wp).pi.2=false/\At encR w o off (rd ltInt j g i f wb wp).pi.1 wx)
       case first=>
        cases aw:(wb&&wp&&decide ((rd ltInt j g i f wb wp).hint=.increasing))
        ·have D:=rd_pi_no aw;go_wp2_with fail;go_meet
         case rel=>exact⟨by rw[D],by rw[D];exact y⟩
        have D:=rd_pi_yes aw;have V:=C.par o off cap g i (rd ltInt j g i f wb wp).d2 wc aD (by omega) (by omega) (by omega);rw[s2,p,<-D] at V;go_wp2_with (go_at_call 140;refine V.mono ?_;rintro e w4⟨rfl,am⟩)
        all_goals first
         | (have x:(rd ltInt j g i f wb wp).pi.2=false:=by rw[D];assumption
            go_meet
            exact⟨x,y.step l (by rw[s3,s2]) am⟩)
         | (have x:(rd ltInt j g i f wb wp).pi.2=true:=by rw[D];assumption
            (try simp only[Exit.inBlock,Exit.then]);refine bodyPost_ret (results_none rfl _ _ _) rfl ?_
            refine⟨rfl,?_⟩;rw[<-A.out,pdq_done B I x]
            exact y.step l (by rw[s3,s2]) am)
       case rest=>
        obtain⟨x,J⟩:=hcut;obtain⟨al,aJ⟩:=J.holds Q (s3.trans p) l;have aB:∀t,t<d.size->wc.cell? ⟨o,off+t,none⟩=some (.int .i32 (rd ltInt j g i f wb wp).pi.1[t]!):=λt ht=>(al t (by omega)).1;have az:∀t,t<d.size->wc.frozen? ⟨o,off+t,none⟩=false:=λt ht=>(al t (by omega)).2;go_upto_region 17 with fail;go_cut [87] from 19 (λs87 wx=>s87=.bool (decide (g > 0)&&!ltInt (rd ltInt j g i f wb wp).pi.1[g-1]! (rd ltInt j g i f wb wp).pi.1[(rd ltInt j g i f wb wp).pivot]!)/\At encR w o off (rd ltInt j g i f wb wp).pi.1 wx)
        case first=>
         rcases pB g with ha0|ha0
         ·have au:decide ((g:Int) > 0)=false:=decide_eq_false (by omega);go_big_quiet (first|(go_at_call 141;refine jz (aK _ _ _)));go_wp2_with fail;go_meet
          case rel=>exact⟨by simp[ha0],J.ahead nq⟩
         have au:(g:Int) > 0:=by omega
         go_big_quiet (first|(go_at_call 141;refine jz (aK _ _ _)));go_wp2_with fail;go_meet
         case rel=>exact⟨by simp[ha0],J.ahead nq⟩
        case rest=>
         obtain⟨rfl,K⟩:=hcut;obtain⟨aq,aG⟩:=K.holds Q (s3.trans p) l;clear aB az;cases P:(decide (g > 0)&&!ltInt (rd ltInt j g i f wb wp).pi.1[g-1]! (rd ltInt j g i f wb wp).pi.1[(rd ltInt j g i f wb wp).pivot]!)
         ·
          obtain⟨m,ap,v,r⟩:∃m ap v,partition ltInt (rd ltInt j g i f wb wp).pi.1 g i (rd ltInt j g i f wb wp).pivot=(m,ap,v):=⟨(partition ltInt (rd ltInt j g i f wb wp).pi.1 g i (rd ltInt j g i f wb wp).pivot).1,(partition ltInt (rd ltInt j g i f wb wp).pi.1 g i (rd ltInt j g i f wb wp).pivot).2.1,(partition ltInt (rd ltInt j g i f wb wp).pi.1 g i (rd ltInt j g i f wb wp).pivot).2.2,rfl⟩;obtain⟨r1,r2,R,r4,r5,r6,r7⟩:=round_part S.swo S.prt u.1 u.2 (show i<=(rd ltInt j g i f wb wp).pi.1.size by omega) B3 r;have W:=C.prt o off cap g i (rd ltInt j g i f wb wp).pivot (rd ltInt j g i f wb wp).pi.1 wc aq u.1 u.2 (by omega) (by omega);rw[s3,p,r] at W;have X:Aside (partition ltInt (rd ltInt j g i f wb wp).pi.1 g i (rd ltInt j g i f wb wp).pivot=(m,ap,v)):=r;clear r;go_upto_if 113 with (go_at_call 143;refine W.mono ?_;rintro e w7⟨rfl,ae⟩);have r:=X.out;have H:At encR w o off v w7:=K.step l R ae;obtain⟨av,L⟩:=H.holds Q (R.trans (s3.trans p)) l;by_cases h4:m-g<i-m
          ·have ax:(m:Int)-(g:Int)<(i:Int)-(m:Int):=by omega
           have E:=ih o off cap g m (rd ltInt j g i f wb wp).lim v w7 (by omega) av L (by omega) (by omega) (by omega) (lp (ia rd_lim_le s) z) r4;rw[R,s3,p] at E;obtain⟨pL,sL⟩:=S.pdq S.swo v g m (rd ltInt j g i f wb wp).lim true true (by omega) (by omega) r4;go_wp2_with (go_at_call 98;refine E.mono ?_;rintro e w8⟨rfl,aj⟩)
           go_roundg (i-(m+1))
           case measure=>omega
           case rel=>
            refine⟨m+1,i,(rd ltInt j g i f wb wp).lim,decide (m-g≥(i-g) / 8),ap,pdq ltInt v g m (rd ltInt j g i f wb wp).lim true true,by simp,rfl,rfl,?_,rfl,by omega,by omega,d' _,by omega,ia rd_lim_le s,by rw[pL.1,R,s3,p],(r6 _ pL sL).1,H.stepG l pL.1 aj,?_⟩
            ·exact congrArg Value.bool (eighth (by omega) (by omega))
            rw[<-A.out,pdq_left B I x P (by rw[r];exact⟨r1,r2⟩) (by rw[r];exact h4),r]
          have ax:¬((m:Int)-(g:Int)<(i:Int)-(m:Int)):=by omega
          have E:=ih o off cap (m+1) i (rd ltInt j g i f wb wp).lim v w7 (by omega) av L (by omega) (by omega) (by omega) (lp (ia rd_lim_le s) z) r5;rw[R,s3,p] at E;obtain⟨pL,sL⟩:=S.pdq S.swo v (m+1) i (rd ltInt j g i f wb wp).lim true true (by omega) (by omega) r5;go_wp2_with (go_at_call 98;refine E.mono ?_;rintro e w8⟨rfl,aj⟩)
          go_roundg (m-g)
          case measure=>omega
          case rel=>
           refine⟨g,m,(rd ltInt j g i f wb wp).lim,decide (i-m≥(i-g) / 8),ap,pdq ltInt v (m+1) i (rd ltInt j g i f wb wp).lim true true,rfl,rfl,rfl,?_,rfl,by omega,by omega,d' _,by omega,ia rd_lim_le s,by rw[pL.1,R,s3,p],(r7 _ pL sL).1,H.stepG l pL.1 aj,?_⟩
           ·exact congrArg Value.bool (eighth (by omega) (by omega))
           rw[<-A.out,pdq_right B I x P (by rw[r];exact⟨r1,r2⟩) (by rw[r];exact h4),r]
         ·
          have F:=P;simp only[js,decide_eq_true_eq,Bool.not_eq_true'] at F;obtain⟨m,v,r⟩:∃m v,partitionEqual ltInt (rd ltInt j g i f wb wp).pi.1 g i (rd ltInt j g i f wb wp).pivot=(m,v):=⟨(partitionEqual ltInt (rd ltInt j g i f wb wp).pi.1 g i (rd ltInt j g i f wb wp).pivot).1,(partitionEqual ltInt (rd ltInt j g i f wb wp).pi.1 g i (rd ltInt j g i f wb wp).pivot).2,rfl⟩;obtain⟨r1,r2,R,r4,_⟩:=round_eq S.swo S.peq F.1 u.1 u.2 (show i<=(rd ltInt j g i f wb wp).pi.1.size by omega) B3 F.2 r;have Y:=C.peq o off cap g i (rd ltInt j g i f wb wp).pivot (rd ltInt j g i f wb wp).pi.1 wc aq u.1 u.2 (by omega) (by omega);rw[s3,p,r] at Y;have X:Aside (partitionEqual ltInt (rd ltInt j g i f wb wp).pi.1 g i (rd ltInt j g i f wb wp).pivot=(m,v)):=r;clear r;go_wp2_with (go_at_call 142;refine Y.mono ?_;rintro e w7⟨rfl,ae⟩)
          go_roundg (i-m)
          case measure=>omega
          case rel=>
           have r:=X.out;exact⟨m,i,(rd ltInt j g i f wb wp).lim,wb,wp,v,rfl,rfl,rfl,rfl,rfl,r2,aC,d' _,by omega,ia rd_lim_le s,by rw[R,s3,p],r4,K.step l R ae,by rw[<-A.out,pdq_eq B I x P (by rw[r];exact⟨r1,r2⟩),r]⟩
end Go.Proofs.YtmnimbnojdndmaaGreatDoor
namespace Go.Proofs.YtmnimbnojdndmaaGreatDoor
open Go.RowKit Go.Sort _root_.Go.Proofs.Tryz
def yX:Prop:=∀(c off cap a b limit:Nat) (d:Array Int) (w:World),Holds (Value.int .i32) w c off d->c<w.heap.size->a<=b->b<=d.size->d.size<4611686018427387904->limit<4611686018427387904->Below ltInt a b d->
 Calls prog 98 #[.slice (some ⟨c,off,none⟩) d.size cap,.int .i64 a,.int .i64 b,.int .i64 limit] w λe w'=>
  e=.returned (.tuple #[])/\∃n os,w'=grow (putRow (Value.int .i32) (Sort.ahead w n) c off (Sort.pdq ltInt d a b limit true true)) os
def Jv (c:yX) (a off cap:Nat) (d:Array Int) (w:World) (i:Holds (Value.int .i32) w a off d) (f:a<w.heap.size) (g:d.size<4611686018427387904) :
 Calls prog 66 #[.slice (some ⟨a,off,none⟩) d.size cap] w λe w'=>e=.returned (.tuple #[])/\∃n os,w'=grow (putRow (Value.int .i32) (Sort.ahead w n) a off (Sort.sort ltInt d)) os:=by
 have j:Hid (Holds (Value.int .i32) w a off d):=i;clear i;have b:∀w,Calls prog 99 #[.int .u64 (d.size:Int)] w λe w'=>e=.returned (.int .i64 (bitsLen d.size:Nat))/\w'=w:=λw=>by
  have h:=Tryz.bits_Len (d.size:Int) w (by omega) (by omega)
  rwa [pw,bitLen_eq _ (by omega)] at h
 have:bitsLen d.size<=62:=(bitsLen_le_iff d.size 62).2 (by omega);go_enter func66,ntmps66
 go_wp2_with (first
  | (go_at_call 99;refine(b _).mono ?_;rintro e w'⟨rfl,rfl⟩)
  | (go_at_call 98;refine(c a off cap 0 d.size (bitsLen d.size) d _ (by exact j.out) (by exact f) (ic _) (d' _) g (by omega) (Or.inl rfl)).mono ?_;rintro e w'⟨rfl,n,os,rfl⟩))
 go_end0
 exact⟨rfl,n,os,rfl⟩
def nK (p:Option Addr) (cap:Nat) (w:World) :
 Calls prog 135 #[.slice p 0 cap,.int .i64 0,.int .i64 0] w λe w'=>e=.returned (.tuple #[])/\w'=w:=by
 go_enter func135,ntmps135;go_wp2;refine wp_loop_rounds 1 ?_;rw[rounds_succ];go_wp2
 go_end0
 exact⟨rfl,rfl⟩
def uu (p:Option Addr) (cap:Nat) (w:World) :
 Calls prog 98 #[.slice p 0 cap,.int .i64 0,.int .i64 0,.int .i64 0] w λe w'=>e=.returned (.tuple #[])/\w'=w:=by
 go_enter func98,ntmps98;go_wp2;refine wp_loop_rounds 1 ?_;rw[rounds_succ];go_wp2_with (first|(go_at_call 135;refine(nK p cap _).mono ?_;rintro e w'⟨rfl,rfl⟩));refine bodyPost_ret (results_none rfl _ _ _) rfl ?_;exact⟨rfl,rfl⟩
def Ab (p:Option Addr) (cap:Nat) (w:World) :
 Calls prog 66 #[.slice p 0 cap] w λe w'=>e=.returned (.tuple #[])/\w'=w:=by
 have a:∀w,Calls prog 99 #[.int .u64 0] w λe w'=>e=.returned (.int .i64 0)/\w'=w:=λw=>Tryz.bits_Len 0 w (by omega) (by omega);go_enter func66,ntmps66
 go_wp2_with (first
  | (go_at_call 99;refine(a _).mono ?_;rintro e w'⟨rfl,rfl⟩)
  | (go_at_call 98;refine(uu p cap _).mono ?_;rintro e w'⟨rfl,rfl⟩))
 go_end0
 exact⟨rfl,rfl⟩
def GD:Ev where
 ins:=qC
 brk:=qD
 piv:=uq
 par:=kH
 peq:=j4
 prt:=nV
def Nc:Qb where
 swo:=swo_ltInt
 ins:=insertionSort_holds
 par:=partialInsertionSort_holds
 prt:=partition_holds _
 peq:=partitionEqual_holds _
 pdq:=pdq_sorts _
def Nf:yX:=λc off cap a b limit d w j k e f g i h=>
 AV GD Nc (b-a+1) c off cap a b limit d w (by omega) j k e f g i h
def sort_int_eq (zs:List Int):Sort.sort ltInt zs.toArray=(zs.mergeSort λx y=>decide (x<=y)).toArray:=by
 rw[<-sortInt zs]
def uw (a off cap:Nat) (zs:List Int) (w:World) (d:Holds (Value.int .i32) w a off zs.toArray) (b:a<w.heap.size) (c:zs.length<4611686018427387904) :
 Calls prog 66 #[.slice (some ⟨a,off,none⟩) zs.length cap] w λe w'=>
  e=.returned (.tuple #[])/\∃n os,w'=grow (putRow (Value.int .i32) (Sort.ahead w n) a off (zs.mergeSort λx y=>decide (x<=y)).toArray) os:=by
 have h:=Jv Nf a off cap zs.toArray w d b (by simpa using c);rw[sort_int_eq] at h;simpa using h
end Go.Proofs.YtmnimbnojdndmaaGreatDoor
namespace Go.Proofs
open Go.Shelf _root_.Go.Proofs.Tryz
def Tryz.AX:Go.Shelf.Ren:=⟨fun|41=>102|n=>n,fun|22=>35|23=>21|4=>4|n=>n,fun|n=>n⟩
def Tryz.AY:Go.Proofs.SlLaysE0.n41 prog Tryz.AX:={
 mixed:=by kernel_rfl
 f41:=⟨Tryz.f102.name,by decide,func102.trans (congrArg some (by kernel_rfl))⟩
 t4:=underlying4
 a4:=isAgg4
 z4:=sizeOf4
 v4:=zeroValue4
 t22:=underlying35
 a22:=isAgg35
 z22:=sizeOf35
 v22:=zeroValue35 }
def Tryz.xP:Go.Shelf.Ren:=⟨fun|43=>162|n=>n,fun|22=>35|23=>21|3=>3|4=>4|0=>0|n=>n,fun|n=>n⟩
def Tryz.GG:Go.Proofs.SlLaysE.n43 prog Tryz.xP:={
 mixed:=by kernel_rfl
 f43:=⟨Tryz.f162.name,by decide,func162.trans (congrArg some (by kernel_rfl))⟩
 t0:=underlying0
 a0:=isAgg0
 z0:=sizeOf0
 v0:=zeroValue0
 t3:=underlying3
 a3:=isAgg3
 z3:=sizeOf3
 v3:=zeroValue3
 t4:=underlying4
 a4:=isAgg4
 z4:=sizeOf4
 v4:=zeroValue4
 t22:=underlying35
 a22:=isAgg35
 z22:=sizeOf35
 v22:=zeroValue35
 a23:=isAgg21
 z23:=sizeOf21 }
def Tryz.vT:Go.Shelf.Ren:=⟨fun|31=>189|29=>224|n=>n,fun|22=>35|23=>21|4=>4|3=>3|0=>0|n=>n,fun|n=>n⟩
def Tryz.tC:Go.Proofs.SlLaysE.n31 prog Tryz.vT:={
 mixed:=by kernel_rfl
 f29:=⟨Tryz.f224.name,by decide,func224.trans (congrArg some (by kernel_rfl))⟩
 f31:=⟨Tryz.f189.name,by decide,func189.trans (congrArg some (by kernel_rfl))⟩
 t0:=underlying0
 a0:=isAgg0
 z0:=sizeOf0
 v0:=zeroValue0
 t3:=underlying3
 a3:=isAgg3
 z3:=sizeOf3
 v3:=zeroValue3
 t4:=underlying4
 a4:=isAgg4
 z4:=sizeOf4
 v4:=zeroValue4
 t22:=underlying35
 a22:=isAgg35
 z22:=sizeOf35
 v22:=zeroValue35
 a23:=isAgg21
 z23:=sizeOf21 }
end Go.Proofs
namespace Go.Cd
open Go.Lib
def b_ (l:List Nat):List Nat:=l.mergeSort λx y=>decide (x<=y)
def oP (l:List Nat):(b_ l).Perm l:=List.mergeSort_perm l _
def xQ {l:List Nat} {x:Nat}:x∈b_ l↔x∈l:=(oP l).mem_iff
def fP (l:List Nat):(b_ l).length=l.length:=(oP l).length_eq
def UJ (l:List Nat):(b_ l).Pairwise (·<=·):=by
 have:=List.pairwise_mergeSort (le:=λx y:Nat=>decide (x<=y)) (λa b c e d=>by simp at *;omega) (λa b=>by simp;omega) l;exact this.imp λh=>by simpa using h
def Ew (l:List Nat):List Nat:=compactUpTo l.toArray l.length
def Q4 (d:Array Nat) (m:Nat):compactUpTo d (m+1)=compactUpTo d m++if keeps d m then [d[m]!] else []:=by
 unfold compactUpTo;rw[s_,n7,j5];by_cases h:keeps d m=true
 ·simp[h]
 simp[h]
def Jw (d:Array Nat) (g:∀i k,i<k->k<d.size->d[i]!<=d[k]!):∀m,m<=d.size->
 (compactUpTo d m).Pairwise (· < ·)/\(∀x,x∈compactUpTo d m↔∃j,j<m/\d[j]! = x)
 | 0,_=>by
   have e:compactUpTo d 0=[]:=rfl;rw[e];exact⟨List.Pairwise.nil,λx=>by simp⟩
 | m+1,hm=>by
   obtain⟨p,o⟩:=Jw d g m (by omega);rw[Q4];by_cases c:keeps d m=true
   ·rw[if_pos c];have l:∀x∈compactUpTo d m,x<d[m]!:=by
     intro x n;obtain⟨j,f,rfl⟩:=(o x).1 n;have q:=g j m f (by omega);rcases ki (d[j]!) (d[m]!) with h4|h4
     ·exact h4
     exfalso;have:=Nat.le_antisymm q h4;have r:d[m-1]! = d[m]!:=by
      have:d[j]!<=d[m-1]!:=by
       rcases ki j (m-1) with h|h
       ·exact g _ _ h (by omega)
       rw[show j=m-1 by omega];exact d' _
      have:=g (m-1) m (by omega) (by omega);omega
     unfold keeps at c;simp only[mu,decide_eq_true_eq] at c;rcases c with c|c
     ·omega
     simp[r] at c
    refine⟨lE.2 ⟨p,rI _ _,λa u b t=>by rw[gE.1 t];exact l a u⟩,λx=>?_⟩;rw[ie,o];constructor
    ·rintro (⟨j,f,e⟩|n)
     ·exact⟨j,by omega,e⟩
     exact⟨m,by omega,(gE.1 n).symm⟩
    rintro⟨j,f,e⟩;rcases ki j m with h|h
    ·exact .inl ⟨j,h,e⟩
    obtain rfl:j=m:=by omega
    exact .inr (by simp[e])
   rw[if_neg c,me];refine⟨p,λx=>?_⟩;rw[o];constructor
   ·rintro⟨j,f,e⟩;exact⟨j,by omega,e⟩
   rintro⟨j,f,e⟩;rcases ki j m with h|h
   ·exact⟨j,h,e⟩
   obtain rfl:j=m:=by omega
   unfold keeps at c;have:0<j:=by
    rcases pB j with h0|h0
    ·simp[h0] at c
    exact h0
   simp at c;exact⟨j-1,by omega,by rw[<-e];exact c.2.symm⟩
def gu (l:List Nat):List Nat:=Ew (b_ l)
def lq (l:List Nat):(gu l).Pairwise (· < ·)/\(∀x,x∈gu l↔x∈l):=by
 have f:∀i k,i<k->k<(b_ l).toArray.size->(b_ l).toArray[i]!<=(b_ l).toArray[k]!:=by
  intro i k c d;have a:k<(b_ l).length:=by simpa using d
  rw[getElem!_pos (b_ l).toArray i (by simpa using uJ c a),getElem!_pos (b_ l).toArray k d];simp only[List.getElem_toArray];exact qT.1 (UJ l) i k (by omega) a c
 obtain⟨c,d⟩:=Jw (b_ l).toArray f (b_ l).length (by simp);refine⟨c,λx=>?_⟩;show x∈compactUpTo _ _↔_;rw[d,<-xQ (l:=l),l4];constructor
 ·rintro⟨j,b,e⟩;refine⟨j,b,?_⟩;rw[<-e,getElem!_pos (b_ l).toArray j (by simpa using b)];simp
 rintro⟨j,b,e⟩;refine⟨j,b,?_⟩;rw[<-e,getElem!_pos (b_ l).toArray j (by simpa using b)];simp
def Jy (d:Array Nat) (m:Nat):(compactUpTo d m).length<=m:=by
 unfold compactUpTo;rw[iz];exact ia (lr _ _) (by simp)
def xR (l:List Nat):(gu l).length<=l.length:=ia (Jy _ _) (by rw[fP];exact d' _)
def lu (out:List Nat) (c:Nat):List Nat:=if out.getLast? = some c then out.dropLast++[c+1] else out++[c,c+1]
def lC (l:List Nat):List Nat:=l.foldl lu []
def places (l:List Nat) (c:Nat):Nat:=l.countP λx=>decide (x<=c)
def mQ (l:List Nat) (a x:Nat):places (l++[a]) x=places l x+if a<=x then 1 else 0:=by
 unfold places;rw[List.countP_append,List.countP_singleton];by_cases h:a<=x <;> simp[h]
def Jz (a:List Nat) (c x:Nat):(places (lu a c) x) % 2=(places a x+if x=c then 1 else 0) % 2:=by
 unfold lu
 split
 ·rename_i h;obtain⟨p,rfl⟩:=vp.1 h;rw[rl,mQ,mQ]
  split <;> split <;> split <;> omega
 rw[show a++[c,c+1]=(a++[c])++[c+1] by simp,mQ,mQ]
 split <;> split <;> split <;> omega
def yY:∀(l:List Nat) (a:List Nat) (x:Nat),(places (l.foldl lu a) x) % 2=(places a x+l.count x) % 2
 | [],a,x=>by simp
 | c::l,a,x=>by
   rw[ot,yY l,vr,Jz,<-vr,List.count_cons];by_cases h:x=c
   ·subst h;simp;omega
   have:(c==x)=false:=by simp;omega
   simp[h,this]
def JA {l:List Nat} (h:l.Pairwise (· < ·)) (x:Nat):places (lC l) x % 2=1↔x∈l:=by
 unfold lC;rw[yY];have b:l.Nodup:=h.imp λh=>xf h;have:places [] x=0:=rfl;rw[this,k_];by_cases a:x∈l
 ·rw[b.count,if_pos a];simp[a]
 rw[List.count_eq_zero.2 a];simp[a]
def Q5 {e:List Nat} {c:Nat} (h:e.Pairwise (· < ·)) (l:∀x∈e,x<=c):(lu e c).Pairwise (· < ·)/\∀x∈lu e c,x<=c+1:=by
 unfold lu
 split
 ·rename_i i;obtain⟨m,rfl⟩:=vp.1 i;simp only[rl];rw[lE] at h;refine⟨lE.2 ⟨h.1,rI _ _,λa k b j=>?_⟩,λx d=>?_⟩
  ·have:=h.2.2 a k c (by simp);rw[gE.1 j];omega
  rcases ie.1 d with d|d
  ·have:=h.2.2 x d c (by simp);omega
  rw[gE.1 d];exact d' _
 rename_i i;have f:∀x∈e,x<c:=by
  intro x d;rcases ki x c with h1|h1
  ·exact h1
  exfalso;have g:x=c:=Nat.le_antisymm (l x d) h1;subst g;obtain⟨a,b,rfl⟩:=List.append_of_mem d;cases b with
  | nil=>exact i (by simp)
  | cons y b=>
    rw[lE] at h;have:=(mT.1 h.2.1).1 y (by simp);have:=l y (by simp);omega
 refine⟨lE.2 ⟨h,by simp,λa k b j=>?_⟩,λx d=>?_⟩
 ·have:=f a k;simp at j;omega
 rcases ie.1 d with d|d
 ·have:=f x d;omega
 simp at d;omega
def Ex:∀(l:List Nat) (a:List Nat),l.Pairwise (· < ·)->a.Pairwise (· < ·)->(∀x∈a,∀y∈l,x<=y)->(l.foldl lu a).Pairwise (· < ·)
 | [],a,_,h,_=>h
 | c::l,a,hl,h,hb=>by
   obtain⟨d,g⟩:=mT.1 hl;obtain⟨e,f⟩:=Q5 h (λx b=>hb x b c (by simp));refine Ex l _ g e λx b y i=>?_;have:=f x b;have:=d y i;omega
def Ey {l:List Nat} (h:l.Pairwise (· < ·)):(lC l).Pairwise (· < ·):=Ex l [] h List.Pairwise.nil (by simp)
def UK (a:List Nat) (c:Nat):(lu a c).length<=a.length+2:=by
 unfold lu
 split
 ·rw[gn,List.length_dropLast];simp;omega
 simp
def AZ (l:List Nat):(lC l).length<=2*l.length:=by
 have:∀(l a:List Nat),(l.foldl lu a).length<=a.length+2*l.length:=λl=>by
  induction l with
  | nil=>intro a;simp
  | cons c l ih=>
    intro a;rw[ot,im];have:=ih (lu a c);have:=UK a c;omega
 have:=this l [];simpa [lC] using this
section
open Go.RowKit
variable {F : Fence} {n : Nat} {P : Program}
def nX (Bl:List Nat) (A B:World):Prop:=∀b∈Bl,B.cell? ⟨b,0,none⟩=A.cell? ⟨b,0,none⟩/\B.frozen? ⟨b,0,none⟩=A.frozen? ⟨b,0,none⟩
def nX.of_block {a:List Nat} {A B:World} (h:∀b∈a,B.heap[b]? = A.heap[b]?):nX a A B:=λb c=>⟨nB (w:=A) (h b c),World.frozen?_of_block (w:=A) (h b c)⟩
def nX.trans {c:List Nat} {A B C:World} (h:nX c A B) (k:nX c B C):nX c A C:=λb a=>⟨(k b a).1.trans (h b a).1,(k b a).2.trans (h b a).2⟩
def GH {α:Type} (F:Fence) (n:Nat) (P:Program) (g:Nat) (lb:Array Value) (encs:α->Array Value) (Bl:List Nat) (Bs:Nat) (xs:List α) (w:World):Prop:=
 ∀(l:Nat) (J:List α->World->Prop) (W:World),Below w.heap.size w W->
  (∀s A B row,J s A->A.grownBy B row->(∀r,row=some r->r=Bs)->J s B)->
  (∀a x c,J a c->a.length<xs.length->YieldAt F (n-1) P l (encs x) c λe b=>e=.returned (.bool true)/\J (a++[x]) b/\nX Bl c b)->
  J [] W->
  CallsIn F n P g (#[.func (.yield l) #[] #[]]++lb) W λe b=>(∃v,e=.returned v)/\J xs b
def nY {α:Type} {g:Operand} {U:Array Tmp} {assign body:Code} {Q:Exit->Act->World->Prop} {a:Act} {w:World}
 (al:F.round=none) (h1:1<=n) {gf:Nat} {lb:Array Value} (X:a.eval g=.func (.func gf) #[] lb) (ab:F.fn gf) (eg:∀args w,(callFunc gf args).run P w=.ok (.enter gf args) w)
 {h:α->Array Value} {T:List Nat} {Bs:Nat} {xs:List α} (L:GH F (n-1) P gf lb h T Bs xs w) (Q6:Bs<w.heap.size) (S:∀b∈T,b<w.heap.size) (ad:∀x,(h x).size=U.size)
 (I:List α->World->Prop)
 (hI:∀s A B row,I s A->A.grownBy B row->(∀r,row=some r->r=Bs\/(w.heap.size<=r/\∃o:Obj,A.heap[r]? = some o/\o.isCells=false))->I s B)
 (h0:I [] w) (q:α->Act)
 (i:∀(l:Nat) (x:α) (W:World) (K:Act->World->Prop),K (q x) W->
   assign.wpIn (F.inRound l) (n-1-1) P (Exit.then K (λ_ _ _=>False)) { tmps:=(U.zip (h x)).foldl (λt (p,v)=>t.setIfInBounds p v) a.tmps,defers:=[] } W)
 (E:∀(l:Nat) (f:List α) (x:α) (W:World),I f W->f.length<xs.length->body.wpIn (F.inRound l) (n-1-1) P (ownPostG w.heap.size (nX T) I (λ_ _ _=>False) (f++[x]) W) (q x) W)
 (H:∀(D:Nat) (W:World),w.heap.size<=D->I xs W->W.heap[D]? = some (.deferred (some []))->Q .normal { a with defers:={ target:=.collected D,args:=#[] }::a.defers } W) :
 (Code.rangeFunc g U assign body).wpIn F n P Q a w:=by
 have k:OwnFrom w.heap.size I:=λs A B row G X u=>hI s A B row G X λr e=>.inr (u r e);refine wpIn_rangeFunc ?_;intro fn V;rw[al];obtain⟨d,c⟩:∃d:LoopState->Option Code->Loop,d=λst pe=>{ state:=st,pending:=pe,fn,tmps:=a.tmps,params:=U,assign,body,defers:=w.heap.size }:=⟨_,rfl⟩;obtain⟨m,j⟩:∃m,(w.alloc (.deferred (some []))).alloc (.loop (d .ready none))=m:=⟨_,rfl⟩;have Y:m.heap[w.heap.size+1]? = some (.loop (d .ready none)):=by
  rw[<-j];have:=World.alloc_heap_new (w.alloc (.deferred (some []))) (.loop (d .ready none));rwa [nh] at this
 have ac:m.heap[w.heap.size]? = some (.deferred (some [])):=by
  rw[<-j];exact(Below.heap_alloc _ _ _ (by simp)).trans (World.alloc_heap_new w _)
 have aj:I [] m:=by rw[<-j];exact k.alloc _ (k.alloc _ h0)
 have ah:Below w.heap.size w m:=by
  rw[<-j];exact((gS _ w).alloc (d' _) _).alloc (by simp) _
 refine⟨w.heap.size+1,[{ target:=.collected w.heap.size,args:=#[] }],m,{ target:=.fn (.func gf) lb,args:=#[.func (.yield (w.heap.size+1)) #[] #[]] },m,gf,
  #[.func (.yield (w.heap.size+1)) #[] #[]]++lb,m,?_,?_,?_,?_,λ_=>h1,?_⟩
 ·rw[<-j,c];exact run_enterLoop_outer _ _ _ _ _
 ·simp only[resolve,X];simp[go_sem]
 ·intro f' N;simp[Target.leads] at N;subst N;exact ab
 ·simp[invoke,go_sem,eg]
 refine(L (w.heap.size+1)
  (λf W=>I f W/\W.heap[w.heap.size+1]? = some (.loop (d .ready none))/\W.heap[w.heap.size]? = some (.deferred (some [])))
  m ah
  (λs A B row G y u=>⟨hI s A B row G.1 y (λr e=>.inl (u r e)),
    (y.block _ (ju.1 G.2.1).1 (λe=>by have:=u _ e.symm;omega)).trans G.2.1,
    (y.block _ (ju.1 G.2.2).1 (λe=>by have:=u _ e.symm;omega)).trans G.2.2⟩)
  ?_ ⟨aj,Y,ac⟩).mono ?_
 ·rintro f x W⟨hi,z,hk⟩ O;have af:w.heap.size+1<W.heap.size:=(ju.1 z).1;have hy:=run_yield (P:=P) (args:=h x) z (by rw[c];exact ad x);rw[c] at hy;refine⟨fn,_,assign,body,hy,roundIn_of_wpIn V (i _ x W _ ⟨_,run_beginRound z (by rw[c]),?_⟩)⟩;have ak:(W.putObj (w.heap.size+1) (.loop { d .ready none with state:=.busy })).heap[w.heap.size+1]? = some (.loop { d .ready none with state:=.busy }):=World.putObj_heap_same af;have ai:(W.putObj (w.heap.size+1) (.loop { d .ready none with state:=.busy })).heap[w.heap.size]? = some (.deferred (some [])):=(nd (by omega)).trans hk;have ag:nX T W (W.putObj (w.heap.size+1) (.loop { d .ready none with state:=.busy })):=nX.of_block (λb Z=>nd (by have:=S b Z;omega));refine wpIn_mono (E _ f x _ (k.putObj _ hi (by omega) z rfl) O) ?_;rintro e a3 W3 J;cases e with
  | normal=>
    obtain⟨M,R,aa⟩:=J;have C:=M.same _ _ (by omega) ak rfl;have u:=run_endRound (P:=P) none C;rw[c] at u;have ae:W3.heap[w.heap.size+1]? = some (.loop { d .ready none with state:=.busy }):=C;refine⟨_,_,u,⟨rfl,⟨k.putObj _ aa (by omega) ae rfl,?_,?_⟩,(ag.trans R).trans (nX.of_block (λb Z=>nd (by have:=S b Z;omega)))⟩⟩
    ·rw[World.putObj_heap_same (ju.1 C).1,c];rfl
    exact(nd (by omega)).trans (M.same _ _ (d' _) ai rfl)
  | ret=>exact J.2.elim
  | exit id=>exact J.2.elim
  | goto t=>exact J.2.elim
  | panic ch=>exact J.elim
  | outgrown=>exact J.elim
 rintro e W2⟨⟨v,rfl⟩,hi,z,hk⟩;exact⟨none,_,by have:=run_endLoop (P:=P) z (by rw[c];simp);rw[c] at this;exact this,H _ _ (d' _) (k.putObj _ hi (by omega) z rfl) ((nd (by omega)).trans hk)⟩
end
end Go.Cd
section
namespace Go.Cd
open Go.Lib
def lL (c:UInt8):∀(p r:List UInt8),c∉p->indexByte (p++c::r) c=(p.length:Int)
 | [],r,_=>by simp[indexByte]
 | a::p,r,h=>by
   have b:=lL c p r (λx=>h (kq _ x));have d:(a==c)=false:=by
    have:c≠a:=λe=>h (by rw[e];exact nF ..);simpa using λe=>this e.symm
   show(if (a==c)=true then (0:Int) else if (indexByte (p++c::r) c==-1)=true then -1 else indexByte (p++c::r) c+1)=_;rw[b,if_neg (by rw[d];decide),if_neg (by simp),im];omega
def qh (c:UInt8):∀(p:List UInt8),c∉p->indexByte p c=-1
 | [],_=>rfl
 | a::p,h=>by
   have b:=qh c p (λx=>h (kq _ x));have d:(a==c)=false:=by
    have:c≠a:=λe=>h (by rw[e];exact nF ..);simpa using λe=>this e.symm
   show(if (a==c)=true then (0:Int) else if (indexByte p c==-1)=true then -1 else indexByte p c+1)=_;rw[b,if_neg (by rw[d];decide)];rfl
def DJ (c:UInt8) (p:List UInt8) (l:List (List UInt8)):(bH c l).length<=(bH c (p::l)).length:=by
 cases l with
 | nil=>simp[bH]
 | cons q l=>simp only[bH,gn,im];omega
def tO (c:UInt8):∀(l:List (List UInt8)) (k:Nat),(bH c (l.drop k)).length<=(bH c l).length
 | l,0=>by simp
 | [],k+1=>by simp
 | p::l,k+1=>ia (tO c l k) (DJ c p l)
end Go.Cd
namespace Go.Proofs.YtmnimbnojdndmaaGreatDoor
open Go.RowKit Go.Cd Go.Shelf
attribute [local go_sem] Oper.semAt_some
def JP (a b:List UInt8):(tx (a++b)).extract 0 a.length=tx a:=by
 apply wj;rw[ByteArray.data_extract];apply Array.ext';simp[tx]
def vZ (W:World) (b:Nat):Nat:=match W.cell? ⟨b,0,none⟩ with
 | some (.string s)=>s.size
 | _=>0
def NA (m:Nat) (hm:1<=m) (B Bs q:Nat) (Q:B≠Bs) (af:q≠Bs) {α:Type} (c:List α) (U:c≠[]) (val:α->List UInt8) (ad:∀y∈c,(32:UInt8)∉val y) (ag:(bH 32 (c.map val)).length<1000000)
 (w:World) (u:w.cell? ⟨B,0,none⟩=some (.string ⟨#[32]⟩)) (f:w.cell? ⟨Bs,0,none⟩=some (.string (tx (bH 32 (c.map val))))) (fs:w.frozen? ⟨Bs,0,none⟩=false) (s:w.cell? ⟨q,0,none⟩=some (.int .i64 0)) :
 GH Fence.wide m Tryz.prog 305 #[.pointer (some ⟨B,0,none⟩),.pointer (some ⟨Bs,0,none⟩),.pointer (some ⟨q,0,none⟩)] (λx=>#[.string (tx (val x))]) [B,Bs,q] Bs c w:=by
 intro l J W K hJ I h0;have u:=aB K u;have f:=aB K f;have s:=aB K s;refine callsIn_of_wp Tryz.func305 rfl trivial ?_ rfl;simp only[Tryz.ntmps305,ps,im,kp,Nat.reduceAdd,Nat.reduceSub,oe,n8,pt,oE,lf,lz];have g:W.frozen? ⟨Bs,0,none⟩=false:=(K.frozen (p:=⟨Bs,0,none⟩) (wt w ⟨Bs,0,none⟩ (by assumption))).trans fs
 gi_wp2_with fail
 gi_loopw [7] (λiv wr=>∃k:Nat,k<c.length/\J (c.take k) wr/\wr.cell? ⟨B,0,none⟩=some (.string ⟨#[32]⟩)/\wr.cell? ⟨Bs,0,none⟩=some (.string (tx (bH 32 ((c.drop k).map val))))/\wr.frozen? ⟨Bs,0,none⟩=false/\wr.cell? ⟨q,0,none⟩=some (.int .i64 0)) (λiv wr=>vZ wr Bs)
 case atStart=>exact⟨0,ke.2 U,h0,u,f,g,s⟩
 case round=>
  clear u f s g h0;obtain⟨k,T,S,u,f,g,s⟩:=hrel;obtain⟨y,i⟩:=ae (c[k]);have E:y∈c:=by rw[i];exact gw T
  have hd:c.drop k=y::c.drop (k+1):=by rw[i];exact jf T
  have M:c.take (k+1)=c.take k++[y]:=by rw[i];exact gR T
  have h3:=ad y E;by_cases ab:k+1=c.length
  ·have D:c.drop (k+1)=[]:=rS (by omega);have n:c.take k++[y]=c:=by rw[<-M];exact iu (by omega)
   rw[hd,D] at f
   replace f:wr.cell? ⟨Bs,0,none⟩=some (.string (tx (val y))):=f
   obtain⟨fn,tmps,assign,body,N,o⟩:=I (c.take k) y wr S (by rw[jn];omega)
   (try dsimp only at N)
   have L:=aa (show Calls Tryz.prog 269 #[.string (tx (val y)),.string ⟨#[32]⟩] wr λe w'=>e=.returned (.int .i64 (-1))/\w'=wr from by
    have h:=Tryz.strings_Index_one (tx (val y)) 32 wr;rw[dM,qh 32 _ h3] at h
    exact h)
   rw[n] at o;have Z:=aa o;clear D n hd M o i hJ I
   gi_wp2_with (refine⟨trivial,?_⟩;gi_at_call 269;refine(callsIn_wide.2 L.out).mono ?_;rintro e w2⟨rfl,rfl⟩)
   refine Z.out.mono ?_;rintro e C⟨rfl,j,_⟩
   gi_wp2
   refine bodyPost_end (results_none rfl _ _ _) rfl ?_;exact⟨⟨_,rfl⟩,j⟩
  obtain⟨z,r,H⟩:∃z r,c.drop (k+1)=z::r:=by
   cases e:c.drop (k+1) with
   | nil=>have:=congrArg List.length e;rw[rK] at this;simp at this;omega
   | cons z r=>exact⟨z,r,rfl⟩
  obtain⟨R,A⟩:=ae (bH 32 ((c.drop (k+1)).map val));have X:bH 32 ((c.drop k).map val)=val y++32::R:=by rw[A,hd,H];rfl
  rw[X] at f;obtain⟨fn,tmps,assign,body,N,o⟩:=I (c.take k) y wr S (by rw[jn];omega);rw[<-M] at o;have Z:=aa o
  have L:=aa (show Calls Tryz.prog 269 #[.string (tx (val y++32::R)),.string ⟨#[32]⟩] wr λe w'=>e=.returned (.int .i64 ((val y).length:Nat))/\w'=wr from by
   have h:=Tryz.strings_Index_one (tx (val y++32::R)) 32 wr;rw[dM,lL 32 _ _ h3] at h
   exact h)
  have t:(tx (val y++32::R)).size=(val y).length+1+R.length:=by rw[aX,gn,im];omega
  have vH:=aa (show(tx (val y++32::R)).extract 0 (val y).length=tx (val y) from JP (val y) (32::R))
  have G:=aa (show(tx (val y++32::R)).extract ((val y).length+1) ((val y).length+1+R.length)=tx R from by
   have:=Nt (val y++[32]) R ((val y).length+1) (by simp)
   rwa [kl] at this)
  have Y0:=aa A;obtain⟨v,hv⟩:=ae ((val y).length);have HV:=aa hv;rw[<-hv] at L t vH G;have ah:v+1+R.length<1000000:=by
   have h1:=tO 32 (c.map val) k;rw[<-List.map_drop,X,<-aX,t] at h1;omega
  clear H X hd M o i I A hv
  gi_wp2_with (refine⟨trivial,?_⟩;gi_at_call 269;refine(callsIn_wide.2 L.out).mono ?_;rintro e w2⟨rfl,rfl⟩)
  rw[vH.out,N]
  gi_wp2
  refine Z.out.mono ?_;rintro e C⟨rfl,j,d⟩;have P:=(d B (by simp)).1.trans u;have F:=(d Bs (by simp)).1.trans f;have O:=(d Bs (by simp)).2.trans g;have Y:=(d q (by simp)).1.trans s;have ac:=aa f;clear u f g s N S;have V:=aa j;have ai:=aa d;clear j d
  gi_wp2
  rw[G.out];go_roundw
  case rel=>
   refine⟨k+1,by omega,hJ _ _ _ _ V.out (bX C Bs 0 _) (λr e=>by cases e;rfl),?_,?_,?_,?_⟩
   ·exact(AN C (a:=⟨Bs,0,none⟩) (b:=⟨B,0,none⟩) _ (λe=>Q (by injection e with e;exact e.symm))).trans P
   ·rw[<-Y0.out];exact vm _ _ _ (by rw[F];rfl)
   ·rw[World.frozen?_setCell];exact O
   exact(AN C (a:=⟨Bs,0,none⟩) (b:=⟨q,0,none⟩) _ (λe=>af (by injection e with e;exact e.symm))).trans Y
  case measure=>
   have e1:vZ (C.setCell ⟨Bs,0,none⟩ (.string (tx R))) Bs=R.length:=by
    unfold vZ;rw[vm _ _ _ (by rw[F];rfl)];exact aX _
   rw[e1];unfold vZ;rw[ac.out];show R.length<(tx (val y++32::R)).size;rw[t];omega
end Go.Proofs.YtmnimbnojdndmaaGreatDoor
end
