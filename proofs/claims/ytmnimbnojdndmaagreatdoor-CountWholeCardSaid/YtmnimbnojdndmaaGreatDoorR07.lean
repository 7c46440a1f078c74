/- One machine of an NFD counts as its units do, multiplied; no condition. -/
import Derived.Test.YtmnimbnojdndmaaGreatDoorR06
import Derived.Lib.SlicesSearch
import Derived.Deep.LoopGhost
set_option maxRecDepth 100000
set_option maxHeartbeats 6400000
set_option linter.all false
section
namespace Go.Cd
open Go.RowKit Go.Lib
abbrev zw:TypeId:=9
def JS:Elem Go.Proofs.Tryz.prog 242 zw (.string ⟨#[]⟩) 16:=⟨rfl,Go.Proofs.Tryz.underlying242,info_parts (by kernel_rfl)⟩
def qM (l:List (List UInt8)):List Value:=l.map λp=>Value.string (Go.Proofs.YtmnimbnojdndmaaGreatDoor.tx p)
@[simp] theorem qN (l:List (List UInt8)):(qM l).length=l.length:=by simp[qM]
def zA (l m:List (List UInt8)):qM (l++m)=qM l++qM m:=by simp[qM]
def DN (p:List UInt8):trimSuffix (p++[10]) [10]=p:=by
 unfold trimSuffix hasSuffix;rw[if_pos (by rw[List.isSuffixOf_iff_suffix];exact List.suffix_append p [10])];simp
abbrev Ln:Type:={ p:List UInt8 // (∀b∈p,eH b)/\p.length<=1000 }
def U5:∀(l:List (List UInt8)),(∀p∈l,(∀b∈p,eH b)/\p.length<=1000)->∃a:List Ln,a.map (·.1)=l
 | [],_=>⟨[],rfl⟩
 | p::l,h=>by
   obtain⟨a,e⟩:=U5 l λx c=>h x (List.mem_cons_of_mem _ c);exact⟨⟨p,h p (List.mem_cons_self ..)⟩::a,by rw[List.map_cons,e]⟩
end Go.Cd
namespace Go.Proofs.YtmnimbnojdndmaaGreatDoor
open Go.RowKit Go.Cd Go.Shelf
attribute [local go_sem] Oper.semAt_some
def tT {w:World} (I:List (List UInt8)) (hl:∀p∈I,(∀b∈p,eH b)/\p.length<=1000) (hn:(bA I).length<1000000) :
 Calls Tryz.prog 147 #[.string (tx (bA I))] w λe w'=>∃v,e=.returned (.tuple #[v,.nilIface])/\w'.ownsRow w.heap.size zw 1 v I.length (qM I)/\Below w.heap.size w w':=by
 obtain⟨d,i⟩:=U5 I hl;have mX:bA I=bA (d.map λy=>y.1):=by rw[i]
 have ag:d.length<1000000:=by
  have:∀l:List (List UInt8),l.length<=(bA l).length:=λl=>by
   induction l with
   | nil=>simp
   | cons p l ih=>rw[mY,List.length_append,List.length_cons,List.length_cons];omega
  have:=this I;rw[<-i,List.length_map,i] at this;omega
 have V:∀y∈d,(10:UInt8)∉y.1:=λy _ h=>by
  have:=(y.2.1 10 h).1;simp at this
 rw[mX] at hn⊢;have ac:=aa i;have U:=aa hn;obtain⟨s,hs⟩:=ae (tx (bA (d.map λy=>y.1)));rw[<-hs];have HS:=aa hs;clear i mX hs hl hn;have SQ:=aa (λW=>U1 s W);refine iW Tryz.func147 rfl ?_;simp only[Tryz.ntmps147,List.size_toArray,List.length_cons,List.length_nil,Nat.reduceAdd,Nat.reduceSub,Array.replicate_succ,Array.replicate_zero,List.push_toArray,List.append_toArray,List.nil_append,List.cons_append];go_wp2_with fail;obtain⟨E,c⟩:=ae (((w.alloc (.cells #[.slice none 0 0] 242)).alloc (.cells #[.nilIface] 134)).alloc (.cells #[.slice none 0 0] 242));have S:E.heap.size=w.heap.size+3:=by rw[c];simp
 have R:Below w.heap.size w E:=by rw[c];exact(((Below.refl _ w).alloc (Nat.le_refl _) _).alloc (by simp) _).alloc (by simp;omega) _
 have Z:Is E w.heap.size #[.slice none 0 0] 242:=by rw[c];exact((Is.new w _ _).mono (ah _)).mono (ah _)
 have Y:Is E (w.heap.size+1) #[.nilIface] 134:=by rw[c];exact(Is.new' _ _ _ _ (by simp)).mono (ah _)
 have k2:Is E (w.heap.size+2) #[.slice none 0 0] 242:=by rw[c];exact Is.new' _ _ _ _ (by simp)
 rw[<-c];refine(SQ.out _).mono ?_;rintro e H⟨rfl,C⟩;have z:=aO C;have ai:H.heap.size=E.heap.size+1:=by rw[C];simp
 have j0:Is H E.heap.size #[.string s] 9:=by rw[C];exact Is.new E _ _
 replace Z:=Z.mono z
 replace Y:=Y.mono z
 replace k2:=k2.mono z
 have ab:Below w.heap.size w H:=af R z;clear SQ C c R z;rw[S] at *;clear S E;have P:=Y4 4 (by omega) (w.heap.size+3) d (λy:Ln=>y.1) V U.out H (by rw[<-HS.out];exact j0.at 0 rfl) (j0.frozen 0);clear j0 V;go_wp2_with fail;refine(wpIn_wide (n:=5)).1 ?_;refine nY (F:=Fence.wide) rfl (by omega) (gf:=209) (lb:=#[.pointer (some ⟨w.heap.size+3,0,none⟩)]) rfl trivial (enters_of Tryz.func209 (by kernel_rfl) rfl)
  P (by omega) (by intro b hb;simp at hb;omega) (λ_=>rfl)
  (λa W=>∃v,Is W (w.heap.size+2) #[v] 242/\W.ownsRow H.heap.size zw 1 v a.length (qM (a.map (·.1)))/\Is W w.heap.size #[.slice none 0 0] 242/\Is W (w.heap.size+1) #[.nilIface] 134/\Below w.heap.size w W/\H.heap.size<=W.heap.size)
  ?hI ?h0 (λx=>{ tmps:=#[.string s,undef,.pointer (some ⟨w.heap.size,0,none⟩),.pointer (some ⟨w.heap.size+1,0,none⟩),.pointer (some ⟨w.heap.size+1+1,0,none⟩),.string (tx (x.1++[10])),undef,.string s,.func (.func 209) #[] #[.pointer (some ⟨w.heap.size+3,0,none⟩)],.string (tx (x.1++[10])),undef,undef,undef,undef,undef,undef,undef,undef,undef,undef,undef,undef,undef,undef,undef,undef,undef,undef,undef,undef,undef,undef],defers:=[] }) ?assign ?body ?done
 case hI=>
  rintro a A B row⟨v,L,t,J,G,N,X⟩ M hr;have q:Bj (w.heap.size+3) H.heap.size A row:=hr;exact⟨v,L.turn M q (by omega),JR t M q (by omega),J.turn M q (by omega),G.turn M q (by omega),Bn N M q (by omega) (by omega) N.size,Nat.le_trans X M.size⟩
 case h0=>exact⟨_,k2,World.ownsRow_nil _ _ _ _,Z,Y,ab,Nat.le_refl _⟩
 case assign=>
  intro l x W K hK
  gi_wp2
  exact hK
 case body=>
  rintro l a x W⟨v,L,t,J,G,N,X⟩ ad;obtain⟨p,hp,O⟩:=x
  have HX:=aa (show Calls Tryz.prog 180 #[.string (tx (p++[10])),.string ⟨#[10]⟩] W λe w'=>e=.returned (.string (tx p))/\w'=W from by
   have h:=Tryz.strings_TrimSuffix (tx (p++[10])) ⟨#[10]⟩ W (by rw[aX,List.length_append];simp;omega);rw[dM,show(⟨#[10]⟩:ByteArray).data.toList=[10] from rfl,DN] at h
   exact h)
  have HP:=aa (DL (w:=W) p hp (by omega));have e1:=L.at 0 rfl;obtain⟨g,r,rfl,_,_⟩:=ak t;obtain⟨m,hm⟩:=ae a.length;have Ja:m<1000000:=by omega
  have e2:a.map (·.1)++[p]=(a++[(⟨p,hp,O⟩:Ln)]).map (·.1):=by simp
  have e3:m+1=(a++[(⟨p,hp,O⟩:Ln)]).length:=by simp[hm]
  have E2:=aa e2;have E3:=aa e3;rw[<-hm] at t e1 L;have hz:¬1000<(tx p).size:=by rw[aX];omega
  clear e2 e3 ad hm P
  gi_wp2_with (first
   | (refine⟨trivial,?_⟩;gi_at_call 180;refine(NB l HX.out).mono ?_;rintro e w3⟨rfl,rfl⟩)
   | (refine⟨trivial,?_⟩;gi_at_call 181;refine(NB l HP.out).mono ?_;rintro e w3⟨rfl,rfl⟩)
   | (gi_at_builtin;refine U3 rfl _ _ 242 rfl H.heap.size zw _ 16 JS (.slice g m r) m _ rfl t (.string (tx p)) rfl rfl (by omega) (by unfold maxLen;omega) _ (Below.refl _ _) X ?_;intro v1 w4 o1 f T
      obtain⟨a1,c1,rfl,_,_⟩:=ak o1;have g1:=L.low f (by omega);have g3:=J.low f (by omega);have g4:=G.low f (by omega);have e4:=g1.at 0 rfl;have e5:=g1.frozen 0;have ho:=t.alloc (.cells #[.string (tx p)] zw);have hk:=v_ ho T
      clear T ho))
  refine⟨((KeepsOthers.alloc _ _).trans (hk.trans (KeepsOthers.setCell _ _ _))).from _,nX.of_block λb hb=>?_,_,g1.set 0 _,?_,g3.put (by omega) _,g4.put (by omega) _,aj (N.trans (f.mono (by omega))) (by omega),?_⟩
  ·simp at hb;rw[Below.heap_setCell _ _ _ _ (by simp only;omega)];exact f.block b (by omega)
  ·have:=bn o1 (Go.Cd.aQ o1 (k:=w.heap.size+1+1) (by omega)) 0 (.slice a1 (m+1) c1);rw[<-E3.out,<-E2.out,zA];exact this
  have:=f.size;simp only[World.size_setCell];omega
 case done=>
  rintro D W hD⟨v,L,t,J,G,N,X⟩ hK;have e0:=L.at 0 rfl;have e1:=J.at 0 rfl;have e2:=G.at 0 rfl;have e3:=J.frozen 0;have e4:=G.frozen 0;obtain⟨g,r,rfl,_,_⟩:=ak t;have f1:=λu=>(G.put (j:=w.heap.size) (o:=0) (by omega) u).at 0 rfl;have f2:=λu=>(G.put (j:=w.heap.size) (o:=0) (by omega) u).frozen 0;go_wp2;have n0:(Value.slice g d.length r).ownBlock≠some w.heap.size:=Go.Cd.aQ t (by omega);have n1:(Value.slice g d.length r).ownBlock≠some (w.heap.size+1):=Go.Cd.aQ t (by omega);have q2:=bn (bn t n0 0 (.slice g d.length r)) n1 0 .nilIface;have q3:=(J.set 0 (.slice g d.length r)).put (j:=w.heap.size+1) (o:=0) (by omega) .nilIface;have q4:=(G.put (j:=w.heap.size) (o:=0) (by omega) (.slice g d.length r)).set 0 .nilIface;have q5:=aj (off:=0) (u:=.nilIface) (b:=w.heap.size+1) (aj (off:=0) (u:=.slice g d.length r) (b:=w.heap.size) N (Nat.le_refl _)) (by omega);have Q:=(Below.heap_setCell (W.setCell ⟨w.heap.size,0,none⟩ (.slice g d.length r)) ⟨w.heap.size+1,0,none⟩ .nilIface D (by simp only;omega)).trans ((Below.heap_setCell W ⟨w.heap.size,0,none⟩ (.slice g d.length r) D (by simp only;omega)).trans hK);have r3:=(q3.putObj (o':=.deferred none) Q rfl).at 0 rfl;have r4:=(q4.putObj (o':=.deferred none) Q rfl).at 0 rfl;refine⟨by simp,.inl ⟨_,_,rfl,run_takeDeferred Q,?_⟩⟩;refine⟨.tuple #[.slice g d.length r,.nilIface],by simp[results,Tryz.results147,go_sem,r3,r4],_,rfl,?_,?_⟩
  ·have:=ownsRow_putObj q2 (.deferred none) Q rfl;rw[<-ac.out,List.length_map];exact aT this (by omega)
  exact q5.trans (belowK_b (w:=w) (Nat.le_refl _) _ D _ (.deferred none) (by omega) Q rfl rfl)
end Go.Proofs.YtmnimbnojdndmaaGreatDoor
end
namespace Go.Proofs.YtmnimbnojdndmaaGreatDoor
open Go.RowKit Go.Cd Go.Shelf _root_.Go.Proofs.Tryz
def JU {w:World} (c:Int) (k n d:Nat) (a:Option Addr) (h:k≠0\/n≠0) :
 Calls prog 185 #[.agg #[.int .i32 c,.int .i64 k,.slice a n d]] w λe w'=>e=.returned (.bool false)/\Below w.heap.size w w':=by
 have f:=ah (w:=w) (.cells #[.int .i32 c,.int .i64 k,.slice a n d] 196);have b:=Is.new w #[.int .i32 c,.int .i64 k,.slice a n d] 196;have:=b.at 0 rfl;have:=b.at 1 rfl;have:=b.at 2 rfl;go_enter func185,ntmps185;by_cases g:k=0
 ·have:n≠0:=by omega
  subst g;have z:((n:Int)==0)=false:=by simp;omega
  have:((0:Nat):Int)=0:=rfl;go_wp2;go_ret;exact⟨rfl,f⟩
 have z:((k:Int)==0)=false:=by simp;omega
 go_wp2;go_ret;exact⟨rfl,f⟩
def Rk:∀(m:List Nat) (h0:m≠[]),∃b r,dD m=b::r/\b≠60
 | [],h=>absurd rfl h
 | c::l,_=>by
   have f:=(bU c).1;obtain⟨b,r,e⟩:∃b r,aV c=b::r:=by
    cases e:aV c with
    | nil=>rw[e] at f;simp at f
    | cons b r=>exact⟨b,r,rfl⟩
   have a:=(dX c b (by rw[e];simp)).2.2.2.2;cases l with
   | nil=>exact⟨b,r,e,a⟩
   | cons d l=>exact⟨b,r++32::dD (d::l),by show aV c++32::dD (d::l)=_;rw[e];rfl,a⟩
def Bo {w:World} (m:List Nat) (l:m.length<=2) (p:∀c∈m,c<1114112) :
 Calls prog 214 #[.string (tx (dD m))] w λe w'=>∃v,e=.returned (.tuple #[v,.bool true])/\w'.ownsRow w.heap.size aN 1 v m.length (aM m)/\Below w.heap.size w w':=by
 by_cases h0:m=[]
 ·subst h0;obtain⟨s,d⟩:=ae (tx (dD []));have z:s.toList.isEmpty=true:=by rw[d,Lib.toList_data];rfl
  rw[<-d];clear d;go_enter func214,ntmps214;go_wp2
  (try simp only[Exit.inBlock,Exit.then])
  refine bodyPost_ret (by simp[results,results214,go_sem];try rfl) rfl ?_;exact⟨_,rfl,World.ownsRow_nil _ _ _ _,Below.refl _ _⟩
 have g:=aa (DK (w:=w) m h0 p (by omega));obtain⟨b,r,a,h⟩:=Rk m h0;obtain⟨s,d⟩:=ae (tx (dD m));rw[<-d] at g⊢;have f:0<s.size:=by rw[d,aX,a];simp
 have z:s.toList.isEmpty=false:=by rw[d,Lib.toList_data,dM,a];rfl
 have:(((s[0]'f).toNat:Int)==60)=false:=by
  have o:s[0]'f=b:=by
   subst d;rw[EW];simp only[a,List.getElem_cons_zero]
  rw[o];have:b.toNat≠60:=λe=>h (by rw[<-UInt8.toNat_inj];exact e);simp;omega
 obtain⟨n,j⟩:=ae m.length;rw[<-j] at g l⊢;clear d a j;go_enter func214,ntmps214;go_wp2_with fail;refine g.out.mono ?_;rintro e q⟨v,rfl,i,k⟩;obtain⟨y,x,rfl,_,_⟩:=ak i;have:((n:Int)<=2)=True:=by simp;omega
 clear g;go_wp2;go_ret2;exact⟨_,rfl,i,k⟩
structure Bq (r:aG):Prop where
 code:r.code<1114112
 cls:r.cls<255
 len:r.map.length<=2
 map:∀c∈r.map,c<1114112
def Br {w:World} (Z:dL w) {nm:List UInt8} (s:nm≠[]) (r:aG) (hr:Bq r) {k:Nat} (i:Is w k ((gz nm r).map λl=>Value.string (tx l)).toArray 9) :
 Calls prog 183 #[.slice (some ⟨k,0,none⟩) 15 15] w λe w'=>∃v,e=.returned (.tuple #[.agg #[.int .i32 r.code,.int .i64 r.cls,v],.string ⟨#[]⟩])/\w'.ownsRow w.heap.size aN 1 v r.map.length (aM r.map)/\Below w.heap.size w w':=by
 obtain⟨B,y,U,M⟩:=hr;have K:=aa (λW=>qJ (w:=W) r.code B);have R:=aa (λW (h:dL W)=>JO h r.cls y);have Y:=aa (λW=>Bo (w:=W) r.map U M);have:w.cell? ⟨k,0,none⟩=some (.string (tx (aV r.code))):=i.at 0 rfl;have f1:w.cell? ⟨k,1,none⟩=some (.string (tx nm)):=i.at 1 rfl;have f3:w.cell? ⟨k,3,none⟩=some (.string (tx (iP r.cls))):=i.at 3 rfl;have f5:w.cell? ⟨k,5,none⟩=some (.string (tx (dD r.map))):=i.at 5 rfl;have:=i.lt;have:(tx nm).toList.isEmpty=false:=by rw[Lib.toList_data,dM];cases nm with|nil=>exact absurd rfl s|cons=>rfl
 generalize tx (aV r.code)=s0 at *;clear s;generalize tx nm=s1 at *;generalize tx (iP r.cls)=s3 at *;generalize tx (dD r.map)=s5 at *;clear B y U M i;obtain⟨m,c⟩:=ae ((w.alloc (.cells #[.int .i32 0,.int .i64 0,.slice none 0 0] 196)).alloc (.cells #[.int .i32 0,.int .i64 0,.slice none 0 0] 196));have n:Below w.heap.size w m:=by rw[c];exact((Below.refl _ w).alloc (Nat.le_refl _) _).alloc (by simp) _
 have j:m.heap.size=w.heap.size+2:=by rw[c];simp
 have L:Is m w.heap.size #[.int .i32 0,.int .i64 0,.slice none 0 0] 196:=by rw[c];exact(Is.new w _ _).mono (ah _)
 have x:Is m (w.heap.size+1) #[.int .i32 0,.int .i64 0,.slice none 0 0] 196:=by rw[c];exact Is.new' _ _ _ _ (by simp)
 go_enter func183,ntmps183;go_wp2_with fail;rw[<-c];clear c;refine(K.out m).mono ?_;rintro e w2⟨rfl,rfl⟩;obtain⟨t,a⟩:=ae (w2.setCell ⟨w.heap.size+1,0,none⟩ (.int .i32 (r.code:Nat)));have f:Below w.heap.size w t:=by rw[a];exact aj n (by omega)
 have N:=aB f f1;have T:=aB f f3;have G:=x.at 0 rfl;have F:=x.frozen 0;have V:Is t w.heap.size #[.int .i32 0,.int .i64 0,.slice none 0 0] 196:=by rw[a];exact L.put (by omega) _
 have S:Is t (w.heap.size+1) #[.int .i32 (r.code:Nat),.int .i64 0,.slice none 0 0] 196:=by rw[a];exact x.set 0 _
 have I:t.heap.size=w.heap.size+2:=by rw[a,World.size_setCell];exact j
 rw[a] at N T;go_wp2_with fail;rw[<-a];clear N T G F L x n j K;refine(R.out t (Z.mono f)).mono ?_;rintro e w3⟨rfl,d⟩;clear R a;obtain⟨w4,b⟩:=ae (w3.setCell ⟨w.heap.size+1,1,none⟩ (.int .i64 (r.cls:Nat)));have o:Below w.heap.size w w4:=by rw[b];exact aj (f.trans (d.mono (by omega))) (by omega)
 have X:=aB o f5;have Q:=V.mono d;have C:=S.mono d;have G:=C.at 1 rfl;have F:=C.frozen 1;have m0:Is w4 w.heap.size #[.int .i32 0,.int .i64 0,.slice none 0 0] 196:=by rw[b];exact Q.put (by omega) _
 have m1:Is w4 (w.heap.size+1) #[.int .i32 (r.code:Nat),.int .i64 (r.cls:Nat),.slice none 0 0] 196:=by rw[b];exact C.set 1 _
 have:w.heap.size+2<=w4.heap.size:=by rw[b,World.size_setCell];have:=d.size;omega
 rw[b] at X;go_wp2_with fail;rw[<-b];clear X G F Q C V S f d I b;refine(Y.out w4).mono ?_;rintro e w5⟨v,rfl,H,D⟩;have g:=m0.mono D;have A:=m1.mono D;obtain⟨p,u,rfl,_,_⟩:=ak H;have q0:=A.at 0 rfl;have q1:=A.at 1 rfl;have q2:=A.at 2 rfl;have:=A.frozen 2;have r0:=g.at 0 rfl;have B:=g.at 1 rfl;have y:=g.at 2 rfl;have s0:=g.frozen 0;have s1:=g.frozen 1;have s2:=g.frozen 2;go_wp2
 (try simp only[Exit.inBlock,Exit.then])
 obtain⟨O,J⟩:=ae (w5.setCell ⟨w.heap.size+1,2,none⟩ (.slice p r.map.length u));have p0:Is O w.heap.size #[.int .i32 0,.int .i64 0,.slice none 0 0] 196:=by rw[J];exact g.put (by omega) _
 have mF:Below w.heap.size w O:=by rw[J];exact aj (o.trans (D.mono (by omega))) (by omega)
 have q:=bn H (Go.Cd.aQ H (k:=w.heap.size+1) (by omega)) 2 (.slice p r.map.length u);rw[<-J] at q⊢;have E:=bn (bn (bn q (Go.Cd.aQ q (k:=w.heap.size) (by omega)) 0 (.int .i32 r.code)) (Go.Cd.aQ q (k:=w.heap.size) (by omega)) 1 (.int .i64 r.cls)) (Go.Cd.aQ q (k:=w.heap.size) (by omega)) 2 (.slice p r.map.length u);have P:=((p0.set 0 (.int .i32 r.code)).set 1 (.int .i64 r.cls)).set 2 (.slice p r.map.length u);have v0:=P.at 0 rfl;have v1:=P.at 1 rfl;have v2:=P.at 2 rfl;clear q0 q1 q2 r0 B y s0 s1 s2;refine bodyPost_ret (v:=.tuple #[.agg #[.int .i32 r.code,.int .i64 r.cls,.slice p r.map.length u],.string ⟨#[]⟩]) (by simp[results,results183,go_sem,v0,v1,v2]) rfl ?_;exact⟨_,rfl,aT E (by omega),aj (aj (aj mF (Nat.le_refl _)) (Nat.le_refl _)) (Nat.le_refl _)⟩
end Go.Proofs.YtmnimbnojdndmaaGreatDoor
namespace Go.Cd
open Go.RowKit
def KR.B (B:Nat):KR:=⟨λw w'=>Below B w w',λ_=>Below.refl _ _,λh k=>h.trans k⟩
abbrev GrB (B:Nat) (w:World):=vG (KR.B B) w
def jO {B:Nat} {Q:Exit->Act->World->Prop} {w:World} {K:Act->World->Prop} {a:Act} {w':World} (b:Below B w w') (c:K a w'):QR (KR.B B) Q w K .normal a w':=⟨b,c⟩
def GrB.keeps {B:Nat} {w:World} {b o:Nat} {v:Value} (h:w.cell? ⟨b,o,none⟩=some v) (a:b<B):∀g:GrB B w,g.tw.cell? ⟨b,o,none⟩=some v:=
 λg=>((show Below B w g.tw from g.ext).cell (p:=⟨b,o,none⟩) a).trans h
end Go.Cd
section
namespace Go.Cd
open Go.RowKit
theorem Is.same {W:World} {k:Nat} {cs:Array Value} {T:TypeId} (h:Is W k cs T) (o:Nat) {u:Value} (hu:cs[o]? = some u):W.setCell ⟨k,o,none⟩ u=W:=by
 have h1:=h.at_;have hlt:=h.lt;have e:cs.setIfInBounds o u=cs:=by
  apply Array.ext_getElem?;intro i;rw [Array.getElem?_setIfInBounds];by_cases hi:o=i
  ·subst hi;have:=(Array.getElem?_eq_some_iff.1 hu).1;simp [this];exact ((Array.getElem?_eq_some_iff.1 hu).2).symm
  ·simp [hi]
 unfold World.setCell
 have:(W.heap.modify k fun x=>match x with
  | .cells c elem frozen=>.cells (if (⟨k,o,none⟩:Addr).spot.isSome then c else c.setIfInBounds (⟨k,o,none⟩:Addr).off u) elem frozen
  | o=>o)=W.heap:=by
  apply Array.ext_getElem?;intro i;rw [Array.getElem?_modify];by_cases hi:k=i
  ·subst hi;rw [if_pos rfl,h1];simp [e]
  ·rw [if_neg hi]
 exact congrArg (fun h=>({ W with heap:=h }:World)) this
end Go.Cd
namespace Go.Proofs.YtmnimbnojdndmaaGreatDoor
open Go.RowKit Go.Cd Go.Shelf
theorem DR {w:World} {p:Nat} (v:Value) (c:Int) (hp:Is w p #[v,.int .i32 c,.string ⟨#[]⟩] 247) (k:Int) (l:Int) (u:Value) :
 Calls Tryz.prog 184 #[.pointer (some ⟨p,0,none⟩),.string ⟨#[88]⟩,.agg #[.int .i32 k,.int .i64 l,u]] w fun e w'=>e=.returned (.bool true)∧Below w.heap.size w w':=by
 have C1:=aa (show ∀W,Calls Tryz.prog 215 #[.string ⟨#[88]⟩,.string ⟨#[44,32,70,105,114,115,116,62]⟩] W fun e w'=>e=.returned (.tuple #[.string ⟨#[88]⟩,.bool false])∧w'=W from fun W=>
  Tryz.strings_CutSuffix ⟨#[88]⟩ ⟨#[44,32,70,105,114,115,116,62]⟩ W (by decide))
 have C2:=aa (show ∀W,Calls Tryz.prog 215 #[.string ⟨#[88]⟩,.string ⟨#[44,32,76,97,115,116,62]⟩] W fun e w'=>e=.returned (.tuple #[.string ⟨#[88]⟩,.bool false])∧w'=W from fun W=>
  Tryz.strings_CutSuffix ⟨#[88]⟩ ⟨#[44,32,76,97,115,116,62]⟩ W (by decide))
 obtain ⟨w1,hw1⟩:=ae (w.alloc (.cells #[.int .i32 k,.int .i64 l,u] 196));have hB1:=aO hw1;have p1:=hp.mono hB1;have e1:=p1.at 2 rfl;have d1:=p1.frozen 2;have z:(⟨#[]⟩:ByteArray).toList.isEmpty=true:=by rw [Lib.toList_data];rfl
 have hid:=aa (p1.same 2 (u:=.string ⟨#[]⟩) rfl);go_enter Tryz.func184,Tryz.ntmps184;go_wp2_with fail;rw [<-hw1];clear hw1;refine (C1.out w1).mono ?_;rintro e w2 ⟨rfl,rfl⟩;go_wp2_with fail;refine (C2.out _).mono ?_;rintro e w3 ⟨rfl,rfl⟩;go_wp2;go_ret;rw [hid.out];exact ⟨rfl,hB1⟩
theorem Bt {P:Program} {W:World} {ops:Array Oper} {rest:List Oper} {o:Oper} {a:Act} {Q:Exit->Act->World->Prop} (hgd:o.guard=none) (s x:Operand) (t:TypeId)
 (ho:o.op=.call { callee:=.builtin .append,args:=#[s,x],argTypes:=#[t,t] })
 (base:Nat) (e:TypeId) (z:Value) (size bytes:Nat) (hE:mV P t e z size bytes) (hs0:0<size) (sO:bytes<=100000)
 (v:Value) (n:Nat) (xs:List Value) (hs:a.eval s=v) (hown:W.ownsRow base e size v n xs)
 (us:Array Value) (hx:a.eval x=.slice (some ⟨W.heap.size,0,none⟩) 1 1) (ze:us.size=size) (h1:∀u∈us.toList,u.oneCell'=true)
 (hn:n<1000000) (hbase:base<=W.heap.size)
 (h:∀v' w',w'.ownsRow base e size v' (n+1) (xs++us.toList)->Below base (W.alloc (.cells us e)) w'->(W.alloc (.cells us e)).grownBy w' v.ownBlock->wpList P ops Q rest (a.put o.dst v') w') :
 wpList P ops Q (o::rest) a (W.alloc (.cells us e)):=by
 obtain ⟨hzs,ht,i,hi,hz,hsize,hby⟩:=hE;have hown2:=hown.alloc (.cells us e);have hnews:∀(j:Nat) (u:Value),us.toList[j]? = some u->(W.alloc (.cells us e)).cell? ((⟨W.heap.size,0,none⟩:Addr).add j)=some u:=by
  intro j u hj;have e0:(⟨W.heap.size,0,none⟩:Addr).add j=⟨W.heap.size,j,none⟩:=by unfold Addr.add;split <;> simp_all
  rw [e0];unfold World.cell?;rw [heap_alloc_new];simpa using hj
 have hmax:n+1<=maxLen:=by unfold maxLen;omega
 have hl1:us.toList.length=1*i.size:=by rw [hsize,Nat.one_mul];simpa using ze
 have hbb:(n+1)*bytes<=140737488355328:=by
  have:(n+1)*bytes<=1000000*100000:=Nat.mul_le_mul (by omega) sO;omega
 obtain ⟨v',w',hr,h2,h3,_⟩:=run_append_own (P:=P) (W.alloc (.cells us e)) base t o.type e i z size bytes ht hi hz hsize hby hzs hs0 v n xs hown2
  ⟨W.heap.size,0,none⟩ 1 1 us.toList (by rw [hl1,hsize]) hnews h1 hmax hbb (by simp;omega)
 refine Lib.wpList_append_run _ hgd s x _ _ ho v _ hs hx v' w' hr ?_;exact h v' w' h2 ((Below.refl _ _).grown h3 (by simp;omega) (fun k hk=>(hown.lt k hk).1)) h3
abbrev h_:TypeId:=196
theorem JV:mV Tryz.prog 146 h_ (.agg #[.int .i32 0,.int .i64 0,.slice none 0 0]) 3 40:=⟨rfl,Tryz.underlying146,info_parts (by kernel_rfl)⟩
def dY (x:aG×Value):List Value:=[.int .i32 x.1.code,.int .i64 x.1.cls,x.2]
theorem Bu (x:aG×Value):(dY x).length=3:=rfl
theorem Sl.ab_ {e T:TypeId} {w w':World} {v u:Value} {xs ys:List Value} {base size n:Nat} (h:Sl e w v xs) (ho:w.ownsRow base T size u n ys) (hT:T≠e) (hg:w.grownBy w' u.ownBlock):Sl e w' v xs:=by
 obtain ⟨a,cap,hv,hc,h⟩:=h;refine ⟨a,cap,hv,hc,h.imp id ?_⟩;rintro ⟨b,off,cs,fr,ha,hh,hx⟩;refine ⟨b,off,cs,fr,ha,(hg.block b (block_lt hh) fun e1=>?_).trans hh,hx⟩;rcases ho.2 with ⟨h1,_⟩|⟨g,_,cur,h1,_,h2,_⟩
 ·rw [h1] at e1;cases e1
 ·rw [h1] at e1;cases e1;rw [hh] at h2;cases h2;exact hT rfl
def fU (v:Value):Prop:=∃a n cap,v=.slice a n cap∧(a=none∨∃b off,a=some ⟨b,off,none⟩)
theorem fU.aU {w:World} {base size n:Nat} {e:TypeId} {v:Value} {xs:List Value} (h:w.ownsRow base e size v n xs):fU v:=by
 rcases h.2 with ⟨rfl,_⟩|⟨g,cap,cur,rfl,_⟩
 ·exact ⟨none,0,0,rfl,.inl rfl⟩
 ·exact ⟨_,n,cap,rfl,.inr ⟨g,0,rfl⟩⟩
structure Fb (w:World) (p:Nat) (L:List (aG×Value)) (last:Int) (o:List UInt8):Prop where
 cells:∃v,Is w p #[v,.int .i32 last,.string (tx o)] 247∧w.ownsRow (p+1) h_ 3 v L.length (L.flatMap dY)
 maps:∀x∈L,Sl aN w x.2 (aM x.1.map)∧fU x.2
theorem JW {w:World} {p:Nat} (hG:dL w) {L:List (aG×Value)} {last:Int} (hR:Fb w p L last []) (r:aG) (hr:Bq r) (hlt:last<r.code) (Bv:r.cls≠0∨r.map≠[]) (hch:aP r.code) (hL:L.length<100000) :
 Calls Tryz.prog 149 #[.pointer (some ⟨p,0,none⟩),.string (tx (eu [88] r))] w fun e w'=>e=.returned (.string ⟨#[]⟩)∧Below p w w'∧w.heap.size<=w'.heap.size∧∃v,Fb w' p (L++[(r,v)]) r.code []:=by
 obtain ⟨⟨ov,hp,ho⟩,hM⟩:=hR;have hpl:=hp.lt;have hnm:=(qg.row).name;have SP:=aa (tN hG (gz [88] r) rfl (fun q hq h=>(Bh hnm.2 hr.cls q hq _ h).2 rfl) (kU hnm.2 hr.cls hr.len));clear hnm;obtain ⟨s,hs⟩:=ae (tx (eu [88] r));have hs':tx (bH 59 (gz [88] r))=s:=hs.symm;rw [hs'] at SP;rw [<-hs];clear hs hs';have RW:=aa (fun (W:World) (h:dL W) (k:Nat) (hk:Is W k ((gz [88] r).map fun l=>Value.string (tx l)).toArray 9)=>Br h (by simp) r hr hk);obtain ⟨oa,oc,rfl,_,_⟩:=ak ho;have HM:=aa (fun x hx=>(hM x hx).1);have HPV:=aa (fun x hx=>(hM x hx).2);have HO:=aa ho;have hcd:=hr.code;clear hM ho;go_enter Tryz.func149,Tryz.ntmps149;go_wp2_with fail;refine SP.out.mono ?_;rintro e w1 ⟨rfl,hw1⟩;have hB1:=aO hw1;have q1:Is w1 w.heap.size ((gz [88] r).map fun l=>Value.string (tx l)).toArray 9:=by rw [hw1];exact Is.new _ _ _
 have p1:=hp.mono hB1;have hz1:w1.heap.size=w.heap.size+1:=by rw [hw1];simp
 clear hw1 SP hp;go_wp2_with fail;refine (RW.out _ (hG.mono hB1) _ q1).mono ?_;rintro e w2 ⟨mv,rfl,hmv,hB2⟩;have q2:w2.cell? ⟨w.heap.size,1,none⟩=some (.string (tx [88])):=(q1.mono hB2).at 1 rfl;have p2:=p1.mono hB2;have hBw2:=af hB1 hB2;obtain ⟨ma,mc,rfl,_,_⟩:=ak hmv;have hpv:=fU.aU hmv;obtain ⟨mn,Ja⟩:=ae r.map.length;have kz:=hr.len;rw [<-Ja] at hmv kz ⊢;have JY:r.cls≠0∨mn≠0:=Bv.imp id fun h e=>h (List.length_eq_zero_iff.1 (Ja▸e));have HMN:=aa Ja;have ajj:=aa hpv;clear hpv;obtain ⟨c,hc⟩:=ae r.code;obtain ⟨l,hl⟩:=ae r.cls;rw [<-hc] at hlt hcd hch ⊢;rw [<-hl] at JY ⊢;have HC:=aa hc;have Yh:=aa hl;clear Ja hc hl q1 Bv p1 RW;obtain ⟨w3,hw3⟩:=ae (w2.alloc (.cells #[.int .i32 (c:Nat),.int .i64 (l:Nat),.slice ma mn mc] 196));have hB3:=aO hw3;have b3:=Is.nw hw3;have p3:=p2.mono hB3;have q3:=aB hB3 q2;go_upto_region 5 with fail;rw [<-hw3];have hBw3:=af hBw2 hB3;have hX:=hB3;have hz3:w3.heap.size=w2.heap.size+1:=by rw [hw3];simp
 have hz2:=hB2.size;clear hw3 hB3 hBw2;have zl:decide ((c:Int)<=last)=false:=by simp;omega
 have g1:=b3.gd 0 rfl;have g2:=p3.gd 1 rfl;refine aC (Array.replicate 8 true) 8 0 mixed ?_;refine ay [0,1,2,3,4,5,6,7] 0 ?_
 iterate 8 (refine aA rfl ?_;go_big_quiet_step (rfl))
 refine az ?_;refine aJ [] ?_;refine tail_nil ?_;clear g1 g2;have b4:=b3.mono (ag w3);have p4:=p3.mono (ag w3);have q4:=aB (ag w3) q3;have hB4:=af hBw3 (ag w3)
 replace hX:=af hX (ag w3)
 have Y5:w3.drew.heap.size=w2.heap.size+1:=hz3;generalize w3.drew=w4 at *;go_upto_region 7 with fail;have RG:=aa (fun (W:World) (E:Below w4.heap.size w4 W)=>DR (w:=W) _ _ (p4.mono E) c l (.slice ma mn mc));have g0:=Gr.cell (ag w4) q4;have g1:=b4.gd 0 rfl;have g2:=b4.gd 1 rfl;have g3:=b4.gd 2 rfl;refine aC (Array.replicate 8 true) 8 0 mixed ?_;refine ay [0,1,2,3,4] 3 ?_
 iterate 5 (refine aA rfl ?_;go_big_quiet_step (rfl))
 refine az ?_;refine aI 5 ?_;go_wp2_with fail;refine (RG.out _ (ag w4)).mono ?_;rintro e w5 ⟨rfl,rX⟩;go_wp2_with fail;refine aF rX ?_;refine ay [6,7] 0 ?_
 iterate 2 (refine aA rfl ?_;go_big_quiet_step (rfl))
 refine az ?_;refine aJ [] ?_;refine tail_nil ?_;have jP:=af (ag w4) rX;have b5:=b4.mono jP;have p5:=p4.mono jP;have U6:=af hB4 jP
 replace hX:=af hX jP
 have hz5:w2.heap.size+1<=w5.heap.size:=by have:=jP.size;omega
 clear g0 g1 g2 g3 b4 p4 q4 b3 p3 q3 RG rX jP hz3 Y5 hB4 hBw3;have UI:=aa (gZ (w:=w5) c (by omega));have hct:decide (aP c)=true:=decide_eq_true hch;rw [hct] at UI;have e0:=b5.at 0 rfl;have d1:=p5.frozen 1;have e1:=p5.at 1 rfl;go_upto_region 12 with (go_at_call 96;refine UI.out.mono ?_;rintro e w6 ⟨rfl,rfl⟩);have hpw:p≠w2.heap.size:=by have:=hB1.size;omega
 obtain ⟨w7,hw7⟩:=ae (w6.setCell ⟨p,1,none⟩ (.int .i32 (c:Nat)));rw [<-hw7];have b7:Is w7 w2.heap.size #[.int .i32 (c:Nat),.int .i64 (l:Nat),.slice ma mn mc] 196:=by rw [hw7];exact b5.put (Ne.symm hpw) _
 have p7:Is w7 p #[.slice oa L.length oc,.int .i32 (c:Nat),.string ⟨#[]⟩] 247:=by rw [hw7];exact p5.set 1 _
 have hB7:Below p w w7:=by rw [hw7];exact aj (U6.mono (by omega)) (Nat.le_refl _)
 have O5:=aH HO.out U6;have O7:w7.ownsRow (p+1) h_ 3 (.slice oa L.length oc) L.length (L.flatMap dY):=by rw [hw7];exact bn O5 (Go.Cd.aQ O5 (k:=p) (by omega)) 1 _
 have M7:∀x∈L,Sl aN w7 x.2 (aM x.1.map):=fun x hx=>by rw [hw7];exact ((HM.out x hx).mono U6).put p5.at_ (by decide)
 have V7:Sl aN w7 (.slice ma mn mc) (aM r.map):=by rw [hw7];exact ((Sl.aU hmv).mono hX).put p5.at_ (by decide)
 have hz7:w7.heap.size=w6.heap.size:=by rw [hw7];simp
 have hzw:w.heap.size<=w6.heap.size:=U6.size;have HM7:=aa M7;have HV7:=aa V7;have HO7:=aa O7;clear hw7 hX U6 b5 p5 e0 d1 e1 UI O5 O7 M7 V7 hmv p2 hB1 hB2 q2;have PL:=aa (JU (w:=w7) c l mn mc ma JY);have e0:=b7.at 0 rfl;have e1:=b7.at 1 rfl;have e2:=b7.at 2 rfl;go_upto_region 13 with (go_at_call 185;refine PL.out.mono ?_;rintro e w8 ⟨rfl,hB8⟩);clear e0 e1 e2 PL;have b8:=(b7.mono hB8).mono (ag w8);have p8:=(p7.mono hB8).mono (ag w8);have kL:=af hB8 (ag w8);have g0:=GrB.keeps (B:=p+1) (p8.at 0 rfl) (Nat.lt_succ_self p);refine dF (KR.B (p+1)) #[true,true,true,true,true,true,true,true,true,true,false] 10 1 mixed ?_;refine bZ [0,1,2,3,4] 5 ?_
 iterate 5 (refine aA rfl ?_;go_big_quiet_step (rfl))
 refine az ?_;refine bN 5 ?_;have e0:=b8.at 0 rfl;have e1:=b8.at 1 rfl;have e2:=b8.at 2 rfl;go_wp2_with fail;refine jO (Below.refl _ _) ?_;clear e0 e1 e2;refine bN 6 ?_;go_wp2_with fail;have hzp:p+1<=w8.drew.heap.size:=Nat.le_trans (by omega) kL.size;refine jO ((ah _).mono hzp) ?_;refine bN 7 ?_;refine Bt (W:=w8.drew) rfl _ _ 146 rfl (p+1) h_ _ 3 40 JV (by decide) (by decide) (.slice oa L.length oc) L.length (L.flatMap dY) rfl (aH HO7.out kL) _ rfl rfl (by simp [Value.oneCell']) (by omega) hzp ?_;intro v1 w9 o9 o_ Dw;obtain ⟨na,nc,rfl,_,_⟩:=ak o9;go_wp2_with fail;refine jO o_ ?_;refine bZ [8,9] 0 ?_
 iterate 2 (refine aA rfl ?_;go_big_quiet_step (rfl))
 refine az ?_;have p9:=(p8.mono (ah _)).low o_ (Nat.lt_succ_self p);have e1:=p9.at 0 rfl;have d1:=p9.frozen 0;refine eU [10] ?_;refine tail_cons rfl ?_;go_wp2_with fail;refine tail_nil ?_;go_wp2;go_ret;have MZ:=af kL (ah (w:=w8.drew) (.cells #[.int .i32 (c:Nat),.int .i64 (l:Nat),.slice ma mn mc] h_));have OA:=aH HO7.out MZ;have keep:∀{v:Value} {xs:List Value},Sl aN w7 v xs->Sl aN (w9.setCell ⟨p,0,none⟩ (.slice na (L.length+1) nc)) v xs:=fun h=>Go.Cd.Sl.put (Sl.ab_ (Go.Cd.Sl.mono h MZ) OA (by decide) Dw) p9.at_ (by decide);have Y6:Below p w (w9.setCell ⟨p,0,none⟩ (.slice na (L.length+1) nc)):=aj ((hB7.trans (MZ.mono (by omega))).trans (o_.mono (Nat.le_succ p))) (Nat.le_refl _);refine ⟨rfl,Y6,?_,.slice ma mn mc,⟨⟨.slice na (L.length+1) nc,?_,?_⟩,?_⟩⟩
 ·have:=o_.size;have:=kL.size;simp only [World.size_setCell,World.size_alloc] at *;omega
 ·rw [<-HC.out];exact p9.set 0 _
 ·have:=bn o9 (Go.Cd.aQ o9 (k:=p) (by omega)) 0 (.slice na (L.length+1) nc);rw [List.length_append,List.flatMap_append];have e1:List.flatMap dY [((r,.slice ma mn mc):aG×Value)]=[.int .i32 (c:Nat),.int .i64 (l:Nat),.slice ma mn mc]:=by rw [HC.out,Yh.out];rfl
  rw [e1];exact this
 ·intro x hx;rcases List.mem_append.1 hx with hx|hx
  ·exact ⟨keep (HM7.out x hx),HPV.out x hx⟩
  ·rw [List.mem_singleton.1 hx];exact ⟨keep HV7.out,by rw [HMN.out];exact ajj.out⟩
end Go.Proofs.YtmnimbnojdndmaaGreatDoor
end
namespace Go.Proofs.YtmnimbnojdndmaaGreatDoor
section
open Go.RowKit Go.Cd Go.Sort _root_.Go.Proofs.Tryz
section
variable {α : Type} [Inhabited α] (enc : α -> Value)
variable {w:World} {g n:Nat} {e:TypeId} {os:Array Obj}
def Fe {a:Array Value} {ss:List α} (c:w.heap[g]? = some (.cells a e (0,0))) (h:a.toList.take ss.length=ss.map enc):Holds enc w g 0 ss.toArray:=by
 intro j f;have b:j<ss.length:=by simpa using f
 refine⟨?_,by simp[World.frozen?,c]⟩;have d:(a.toList.take ss.length)[j]? = (ss.map enc)[j]?:=by rw[h]
 rw[List.getElem?_take_of_lt b] at d;simp only[World.cell?,c,Nat.zero_add];simpa [b] using d
def heap_put {a:Array Value} {c:Nat×Nat} (d:Array α) (b:w.heap[g]? = some (.cells a e c)) :
 (grow (putRow enc (Sort.ahead w n) g 0 d) os).heap[g]? = some (.cells (putCells enc 0 d a) e c):=by
 have f:g<w.heap.size:=(Array.getElem?_eq_some_iff.1 b).1;rw[heap_grow_old _ _ (by simpa using f)];simp[putRow,mapBlock,Sort.ahead,Array.getElem?_modify,b,onCells]
def zB (d:Array α):w.grownBy (grow (putRow enc (Sort.ahead w n) g 0 d) os) (some g):=by
 refine⟨rfl,rfl,rfl,by simp,λk b a=>?_⟩;rw[heap_grow_old _ _ (by simpa using b)];have:g≠k:=λe=>a (by rw[e]);simp[putRow,mapBlock,Sort.ahead,Array.getElem?_modify,this]
def U8 (a:Array Value) (ts:List α) (h:ts.length<=a.size):(putCells enc 0 ts.toArray a).toList.take ts.length=ts.map enc:=by
 apply List.ext_getElem?;intro j;by_cases b:j<ts.length
 ·rw[List.getElem?_take_of_lt b,Array.getElem?_toList];simp[putCells,b,show j<a.size by omega]
 rw[List.getElem?_take_eq_none (by omega),List.getElem?_eq_none (by simp;omega)]
def zC {base cap:Nat} {b:Array Value} {ts us:List α} (a:base<=g) (i:w.heap[g]? = some (.cells b e (0,0)))
 (j:(ts++us).length<=cap) (d:cap<=maxLen) (f:b.size=cap*1) :
 (grow (putRow enc (Sort.ahead w n) g 0 (ts++us).toArray) os).ownsRow base e 1 (.slice (some ⟨g,0,none⟩) ts.length cap) ts.length (ts.map enc):=by
 have h:ts.length<=cap:=by simp at j;omega
 refine⟨by simp,.inr ⟨g,cap,_,rfl,a,heap_put enc _ i,h,d,by simp[putCells,f],?_⟩⟩;have:=U8 enc b (ts++us) (by omega);rw[Nat.mul_one];have c:=congrArg (List.take ts.length) this;rw[List.take_take,Nat.min_eq_left (by simp)] at c;rw[c];simp
end
def JZ (d:Nat):Value:=.int .i32 d
def U9 (l:List Nat):aM l=l.map JZ:=rfl
def Ff (l:List Nat):aM l=(l.map λd:Nat=>(d:Int)).map (Value.int .i32):=by rw[List.map_map];rfl
def Rl (l:List Nat):((l.map λd:Nat=>(d:Int)).mergeSort λx y=>decide (x<=y))=(b_ l).map λd:Nat=>(d:Int):=by
 unfold b_;refine(List.map_mergeSort ?_).symm;intro a _ b _;simp
def wh {w:World} {base:Nat} {v:Value} (l:List Nat) (c:w.ownsRow base aN 1 v l.length (aM l)) (s:l.length<1000000) :
 Calls prog 66 #[v] w λe w'=>e=.returned (.tuple #[])/\w'.ownsRow base aN 1 v l.length (aM (b_ l))/\w.grownBy w' v.ownBlock:=by
 rcases c.2 with⟨rfl,h0⟩|⟨g,cap,r,rfl,m,b,q,j,o,i⟩
 ·have p:l=[]:=List.length_eq_zero_iff.1 h0;subst p;refine(Ab none 0 w).mono ?_;rintro e w'⟨a,rfl⟩;exact⟨a,by rw[show b_ []=[] from by simp[b_]];exact c,⟨rfl,rfl,rfl,Nat.le_refl _,λ_ _ _=>rfl⟩⟩
 rw[Nat.mul_one,Ff] at i;have k:=Fe (Value.int .i32) (ss:=l.map λd:Nat=>(d:Int)) b (by simpa using i);have h:=uw g 0 cap (l.map λd:Nat=>(d:Int)) w k (block_lt b) (by simp;omega);rw[List.length_map] at h;refine h.mono ?_;rintro e w'⟨a,n,os,rfl⟩;refine⟨a,?_,zB _ _⟩;rw[Rl,Ff];have f:((b_ l).map λd:Nat=>(d:Int)).length=l.length:=by rw[List.length_map,fP]
 have:=zC (Value.int .i32) (w:=w) (base:=base) (n:=n) (os:=os) (ts:=(b_ l).map λd:Nat=>(d:Int)) (us:=[]) m b (by rw[List.append_nil,f];exact q) j o;rw[List.append_nil,f] at this;exact this
def ae_ (P:Program) (T:TypeId):EqlAt P T JZ (λx y=>decide (x=y)):=⟨λx y w=>by
 have:=(EqlAt.intD P T .i32).1 (x:Int) (y:Int) w;refine this.trans ?_;dsimp only
 rw[show decide ((x:Int)=(y:Int))=decide (x=y) from decide_eq_decide.2 (by omega)],λop a b x y w=>(EqlAt.intD P T .i32).2 op a b (x:Int) (y:Int) w⟩
def ajl (P:Program) (T:TypeId):NeqAt P T JZ (λx y=>decide (x=y)):=⟨λx y w=>by
 have:=(NeqAt.intD P T .i32).1 (x:Int) (y:Int) w;refine this.trans ?_;dsimp only
 rw[show decide ((x:Int)=(y:Int))=decide (x=y) from decide_eq_decide.2 (by omega)],λop a b x y w=>(NeqAt.intD P T .i32).2 op a b (x:Int) (y:Int) w⟩
def J6 {w:World} {base:Nat} {v:Value} (l:List Nat) (d:w.ownsRow base aN 1 v l.length (aM l)) (s:l.length<1000000) (h0:l≠[]) :
 Calls prog 162 #[v] w λe w'=>∃r,e=.returned r/\w'.ownsRow base aN 1 r (Ew l).length (aM (Ew l))/\w.grownBy w' v.ownBlock:=by
 rcases d.2 with⟨rfl,k⟩|⟨g,cap,p,rfl,j,b,o,f,m,a⟩
 ·exact absurd (List.length_eq_zero_iff.1 k) h0
 rw[Nat.mul_one,U9] at a;have i:=Fe JZ (ss:=l) b a;have h:=AnyE.slices_Compact Tryz.GG JZ (λ_=>rfl) (ae_ _ _) (ajl _ _) 0 (λw=>zeroValue21 w) g 0 cap l.toArray w i (by simp;omega) (by simpa using o);refine Calls.mono (h:Calls prog 162 #[.slice (some ⟨g,0,none⟩) l.length cap] w _) ?_;rintro e w'⟨c,q,rfl⟩;refine⟨_,c,?_,?_⟩
 ·have:=zC JZ (w:=w) (base:=base) (n:=q) (os:=#[]) (ts:=Lib.compactUpTo l.toArray l.toArray.size) (us:=List.replicate (l.toArray.size-(Lib.compactUpTo l.toArray l.toArray.size).length) 0) j b (by
   have:=Jy l.toArray l.toArray.size
   simp at this⊢;omega) f m
  rw[grow_empty] at this;exact this
 have:=zB JZ (w:=w) (g:=g) (n:=q) (os:=#[]) (Lib.compactUpTo l.toArray l.toArray.size++List.replicate (l.toArray.size-(Lib.compactUpTo l.toArray l.toArray.size).length) 0).toArray;rw[grow_empty] at this;exact this
def kX {w:World} {v:Value} (l:List Nat) (q:Sl aN w v (aM l)) (s:fU v) (F:l.length<1000000) :
 Calls prog 102 #[v] w λe w'=>∃r,e=.returned r/\w'.ownsRow w.heap.size aN 1 r l.length (aM l)/\Below w.heap.size w w':=by
 obtain⟨a,cap,rfl,E,k⟩:=q.out;rw[bF] at *;obtain⟨H,D,m,d,o⟩:=s;cases d;rcases o with rfl|⟨b,off,rfl⟩
 ·have h0:l=[]:=by
   rcases l with _|⟨x,l⟩
   ·rfl
   obtain⟨b,off,h,_⟩:=k 0 (by simp);cases h
  subst h0;refine Calls.mono (AnyE.slices_Clone_nil Tryz.AY 0 cap w:Calls prog 102 #[.slice none 0 cap] w _) ?_;rintro e w'⟨d,rfl⟩;exact⟨_,d,World.ownsRow_nil _ _ _ _,Below.refl _ _⟩
 obtain⟨_,_,i,y,t,c,f⟩:=bW;refine Calls.mono (AnyE.slices_Clone Tryz.AY i (.int .i32 0) 1 4 y t c f rfl (by decide) (λw=>sizeOf21 w) b off l.length cap (aM l) w (by simp) (by unfold maxLen;omega) (by omega) ?_ (gJ l):Calls prog 102 #[.slice (some ⟨b,off,none⟩) l.length cap] w _) ?_
 ·intro j u n;have A:=(List.getElem?_eq_some_iff.1 n).1;obtain⟨G,g,B,_,z⟩:=k j (by simpa using A);cases B;rw[z];have:=(List.getElem?_eq_some_iff.1 n).2;rw[this]
 rintro e w'⟨r,d,C,_,p⟩;exact⟨r,d,C,p⟩
end
open Go.RowKit Go.Lib Go.Cd _root_.Go.Proofs.Tryz
def wu (x y:Int) (w:World):Calls prog 141 #[.int .i32 x,.int .i32 y] w λe w'=>e=.returned (.bool (decide (x<y)))/\w'=w:=aK x y w
def qO (x:Int) (w:World):Calls prog 265 #[.int .i32 x] w λe w'=>e=.returned (.bool false)/\w'=w:=by
 go_enter func265,ntmps265;go_wp2;go_ret;exact⟨by simp,rfl⟩
def U_ (a:Option Addr) (n c:Nat) (zs:List Int) (x:Int) (w:World) (v:n<=zs.length) (z:n<4611686018427387904) (l:∀j,j<n->∃b off,a=some ⟨b,off,none⟩/\w.cell? ⟨b,off+j,none⟩=some (.int .i32 (zs.getD j 0))) (A:(zs.take n).Pairwise (·<=·)) :
 Calls prog 239 #[.slice a n c,.int .i32 x] w λe w'=>e=.returned (.tuple #[.int .i64 ((zs.take n).countP (·<x):Nat),.bool ((zs.take n).contains x)])/\∃q,w'=w.drewN q:=by
 have S:Aside (∀a b,a<=b->b<n->zs.getD a 0<=zs.getD b 0):=Lib.sorted_at zs n v A;clear A;go_enter func239,ntmps239;go_wp2
 go_loopg [7,8] n (λg s7 s8 wr=>∃f d q:Nat,s7=.int .i64 f/\s8=.int .i64 d/\f<=d/\d<=n/\d-f<=g/\wr=w.drewN q/\(∀t,t<f->zs.getD t 0<x)/\(∀t,d<=t->t<n->x<=zs.getD t 0))
 case atStart=>exact⟨0,n,0,rfl,rfl,Nat.zero_le _,Nat.le_refl _,by omega,rfl,λt o=>absurd o (Nat.not_lt_zero _),λt s p=>by omega⟩
 case round=>
  obtain⟨f,d,q,rfl,rfl,F,m,J,rfl,s,p⟩:=hrel;have I:Aside ((∀t,t<f->zs.getD t 0<x)/\(∀t,d<=t->t<n->x<=zs.getD t 0)):=⟨s,p⟩;clear s p;by_cases H:f<d
  ·obtain⟨b,off,rfl,D⟩:=l ((f+d) / 2) (by omega);clear l;generalize k:zs.getD ((f+d) / 2) 0=y at D;have Y:Aside (zs.getD ((f+d) / 2) 0=y):=k;clear k;by_cases i:y<x
   ·go_wp2_with (first|(go_at_call 141;refine(wu _ _ _).mono ?_;rintro e w'⟨rfl,rfl⟩)|(go_at_call 265;refine(qO _ _).mono ?_;rintro e w'⟨rfl,rfl⟩))
    go_roundg (d-((f+d) / 2+1))
    case measure=>omega
    case rel=>
     refine⟨(f+d) / 2+1,d,_,by rw[show((f:Int)+(d:Int)) / 2+1=(((f+d) / 2+1:Nat):Int) by omega],rfl,by omega,m,Nat.le_refl _,rfl,λt o=>?_,I.out.2⟩;have:=S.out t ((f+d) / 2) (by omega) (by omega);rw[Y.out] at this;omega
   go_wp2_with (first|(go_at_call 141;refine(wu _ _ _).mono ?_;rintro e w'⟨rfl,rfl⟩)|(go_at_call 265;refine(qO _ _).mono ?_;rintro e w'⟨rfl,rfl⟩))
   go_roundg ((f+d) / 2-f)
   case measure=>omega
   case rel=>
    refine⟨f,(f+d) / 2,_,rfl,by rw[show((f:Int)+(d:Int)) / 2=(((f+d) / 2:Nat):Int) by omega],by omega,by omega,Nat.le_refl _,rfl,I.out.1,λt o r=>?_⟩;have:=S.out ((f+d) / 2) t o r;rw[Y.out] at this;omega
  have:d=f:=by omega
  subst this;obtain⟨B,C⟩:=Lib.search_end zs n d x v m I.out.1 I.out.2 S.out;have E:Aside ((zs.take n).countP (·<x)=d/\(zs.take n).contains x=decide (d<n/\zs.getD d 0=x)):=⟨B,C⟩;clear B C;by_cases u:d<n
  ·obtain⟨b,off,rfl,G⟩:=l d (by omega);clear l;generalize k:zs.getD d 0=y at G;have Y:Aside (zs.getD d 0=y):=k;clear k;by_cases i:y=x
   ·go_wp2_with (first|(go_at_call 141;refine(wu _ _ _).mono ?_;rintro e w'⟨rfl,rfl⟩)|(go_at_call 265;refine(qO _ _).mono ?_;rintro e w'⟨rfl,rfl⟩));go_ret2;refine⟨?_,_,rfl⟩;rw[E.out.1,E.out.2,Y.out,decide_eq_true (show d<n/\y=x from ⟨u,i⟩)]
    first|rfl|simp[*]
   go_wp2_with (first|(go_at_call 141;refine(wu _ _ _).mono ?_;rintro e w'⟨rfl,rfl⟩)|(go_at_call 265;refine(qO _ _).mono ?_;rintro e w'⟨rfl,rfl⟩));go_ret2;refine⟨?_,_,rfl⟩;rw[E.out.1,E.out.2,Y.out,decide_eq_false (show ¬(d<n/\y=x) from λh=>i h.2)]
   first|rfl|simp[*]
  clear l;go_wp2_with (first|(go_at_call 141;refine(wu _ _ _).mono ?_;rintro e w'⟨rfl,rfl⟩)|(go_at_call 265;refine(qO _ _).mono ?_;rintro e w'⟨rfl,rfl⟩));go_ret2;refine⟨?_,_,rfl⟩;rw[E.out.1,E.out.2,decide_eq_false (show ¬(d<n/\zs.getD d 0=x) from λh=>u h.1)]
  first|rfl|simp[*]
def J7 {w:World} {v:Value} (l:List Nat) (c:Nat) (k:bG w v (aM l)) (s:l.length<1000000) (o:l.Pairwise (· < ·)) :
 Calls prog 239 #[v,.int .i32 c] w λe w'=>e=.returned (.tuple #[.int .i64 (l.countP (·<c):Nat),.bool (l.contains c)])/\Below w.heap.size w w':=by
 obtain⟨a,cap,rfl,_,p⟩:=k.out;rw[bF] at *
 have h:=U_ a l.length cap (l.map λd:Nat=>(d:Int)) (c:Int) w (by simp) (by omega) (λj f=>by
  obtain⟨b,off,n,_,g⟩:=p j (by simpa using f);refine⟨b,off,n,g.trans ?_⟩;rw[dR _ _ f,List.getD_eq_getElem?_getD,List.getElem?_map,List.getElem?_eq_getElem f];rfl) (by
  rw[List.take_of_length_le (by simp),List.pairwise_map]
  exact o.imp λh=>by omega)
 rw[List.take_of_length_le (by simp)] at h;refine h.mono ?_;rintro e w'⟨rfl,q,rfl⟩;refine⟨?_,⟨rfl,rfl,rfl,Nat.le_refl _,λ_ _=>rfl⟩⟩;have m:(l.map λd:Nat=>(d:Int)).countP (λy=>decide (y<(c:Int)))=l.countP λy=>decide (y<c):=by
  rw[List.countP_map];congr 1;funext y;simp
 have r:(l.map λd:Nat=>(d:Int)).contains (c:Int)=l.contains c:=by
  rw[Bool.eq_iff_iff];simp only[List.contains_iff_mem,List.mem_map];constructor
  ·rintro⟨a,i,e⟩;obtain rfl:a=c:=by omega
   exact i
  intro h;exact⟨c,h,rfl⟩
 rw[m,r]
def Rm {l:List Nat} (i:l.Pairwise (· < ·)) (c:Nat):places l c=(l.countP λy=>decide (y<c))+if l.contains c=true then 1 else 0:=by
 unfold places
 induction l with
 | nil=>rfl
 | cons a l ih=>
   obtain⟨g,f⟩:=List.pairwise_cons.1 i;rw[List.countP_cons,List.countP_cons,ih f,List.contains_cons];rcases Nat.lt_trichotomy a c with h|h|h
   ·have e:(c==a)=false:=by simp;omega
    have b:decide (a<c)=true:=decide_eq_true h;have d:decide (a<=c)=true:=decide_eq_true (by omega);simp only[e,Bool.false_or,b,d,if_true];omega
   ·subst h;have j:l.contains a=false:=by
     rw[Bool.eq_false_iff];intro h;have:=g a (by simpa using h);omega
    rw[j];simp
   have e:(c==a)=false:=by simp;omega
   have b:decide (a<c)=false:=decide_eq_false (by omega);have d:decide (a<=c)=false:=decide_eq_false (by omega);simp only[e,Bool.false_or,b,d];simp
def NC {w:World} {v:Value} (l:List Nat) (c:Nat) (h:bG w v (aM l)) (q:l.length<1000000) (i:l.Pairwise (· < ·)) :
 Calls prog 207 #[.agg #[v],.int .i32 c] w λe w'=>e=.returned (.int .i64 (places l c))/\Below w.heap.size w w':=by
 have b:=ah (w:=w) (.cells #[v] 148);have p:=Is.new w #[v] 148;have g:=aa (J7 l c (h.mono b) q i);have:=p.at 0 rfl;have d:=aa (Rm i c);obtain⟨a,cap,rfl,_,_⟩:=h.out;rw[bF] at *;have:(l.countP λy=>decide (y<c))<=l.length:=List.countP_le_length;generalize (l.countP λy=>decide (y<c))=k at *;generalize l.length=n at *;clear h i;go_enter func207,ntmps207;cases f:l.contains c with
 | true=>
   rw[f] at g d;clear f;go_wp2_with (go_at_call 239;refine g.out.mono ?_;rintro e o⟨rfl,j⟩);go_ret;rw[d.out];exact⟨by simp,b.trans (j.mono b.size)⟩
 | false=>
   rw[f] at g d;clear f;go_wp2_with (go_at_call 239;refine g.out.mono ?_;rintro e o⟨rfl,j⟩);go_ret;rw[d.out];exact⟨by simp,b.trans (j.mono b.size)⟩
def Rn (n:Nat):bits .and .i64 (n:Int) 1=((n % 2:Nat):Int):=by
 have a:(BitVec.ofInt 64 1).toNat=2 ^ 1-1:=by decide
 have key:(BitVec.ofInt 64 n &&& BitVec.ofInt 64 1).toNat=((n:Int) % ((2 ^ 64:Nat):Int)).toNat % 2 ^ 1:=by
  rw[BitVec.toNat_and,BitVec.toNat_ofInt,a,Nat.and_two_pow_sub_one_eq_mod]
 show IntKind.i64.wrap ((BitVec.ofInt 64 n &&& BitVec.ofInt 64 1).toNat:Nat)=_;rw[key,IntKind.wrap_i64];omega
def J8 {w:World} {v:Value} (l:List Nat) (c:Nat) (b:bG w v (aM l)) (m:l.length<1000000) (f:l.Pairwise (· < ·)) :
 Calls prog 171 #[.agg #[v],.int .i32 c] w λe w'=>e=.returned (.bool (decide (places l c % 2=1)))/\Below w.heap.size w w':=by
 have d:=ah (w:=w) (.cells #[v] 148);have g:=Is.new w #[v] 148;have h:=aa (NC l c (b.mono d) m f);have:=g.at 0 rfl;have:places l c<=l.length:=List.countP_le_length;obtain⟨a,cap,rfl,_,_⟩:=b.out;rw[bF] at *;generalize places l c=k at *;generalize l.length=n at *;clear b f;go_enter func171,ntmps171;go_wp2_with (go_at_call 207;refine h.out.mono ?_;rintro e o⟨rfl,i⟩);go_ret;refine⟨?_,d.trans (i.mono d.size)⟩;show Ending.returned (Value.bool (bits BinOp.and IntKind.i64 (k:Int) 1==1))=_;rw[Rn];congr 2;rw[Bool.eq_iff_iff];simp;omega
end Go.Proofs.YtmnimbnojdndmaaGreatDoor
namespace Go.Proofs.YtmnimbnojdndmaaGreatDoor
open Go.RowKit Go.Cd _root_.Go.Proofs.Tryz
def Va {P:Program} {W:World} {ops:Array Oper} {rest:List Oper} {o:Oper} {a:Act} {Q:Exit->Act->World->Prop} (l:o.guard=none) (s x:Operand) (t:TypeId)
 (D:o.op=.call { callee:=.builtin .append,args:=#[s,x],argTypes:=#[t,t] })
 (base:Nat) (e:TypeId) (z:Value) (b:Nat) (q:Elem P t e z b)
 (v:Value) (n:Nat) (m:List Value) (A:a.eval s=v) (d:W.ownsRow base e 1 v n m)
 (u u2:Value) (C:a.eval x=.slice (some ⟨W.heap.size,0,none⟩) 2 2) (B:u.oneCell'=true) (g:u2.oneCell'=true)
 (c:(n+2)*b<=140737488355328) (j:n+2<=maxLen) (f:World) (p:Below base f W) (i:base<=f.heap.size)
 (h:∀v' w',w'.ownsRow base e 1 v' (n+2) (m++[u,u2])->Below base f w'->wpList P ops Q rest (a.put o.dst v') w'):wpList P ops Q (o::rest) a (W.alloc (.cells #[u,u2] e)):=by
 have:=p.size;refine bR l s x t D base e z b q v n m A (d.alloc _) _ [u,u2] C (rP W #[u,u2] e) (by simp[B,g]) (by simpa using j) (by simpa using c) (by simp;omega) ?_;intro v' w' g r;refine h v' w' (by simpa using g) ((p.alloc (by omega) _).grown r (by simp;omega) ?_);intro k y;exact(d.lt k y).1
def ND {w:World} (a:Option Addr) (cap:Nat) :
 Calls prog 162 #[.slice a 0 cap] w λe w'=>e=.returned (.slice a 0 cap)/\w'=w:=by
 go_enter func162,ntmps162;go_wp2;go_ret;exact⟨rfl,rfl⟩
def GV {w:World} {base:Nat} {v:Value} (l:List Nat) (b:w.ownsRow base aN 1 v l.length (aM l)) (d:l.length<1000000) :
 Calls prog 162 #[v] w λe w'=>∃r,e=.returned r/\w'.ownsRow base aN 1 r (Ew l).length (aM (Ew l))/\w.grownBy w' v.ownBlock:=by
 by_cases h0:l=[]
 ·subst h0;obtain⟨a,cap,rfl,_,_⟩:=ak b;refine(ND a cap).mono ?_;rintro e w'⟨c,rfl⟩;exact⟨_,c,b,⟨rfl,rfl,rfl,Nat.le_refl _,λ_ _ _=>rfl⟩⟩
 exact J6 l b d h0
def last_at {O:List Nat} {c:Nat} (h:0<O.length):O.getLast? = some c↔O[O.length-1]=c:=by
 rw[List.getLast?_eq_getElem?,List.getElem?_eq_getElem (by omega)];simp
def Vb {O:List Nat} {c:Nat} (h:0<O.length) (b:O[O.length-1]=c):lu O c=O.set (O.length-1) (c+1):=by
 have a:=(last_at h).2 b;unfold lu;rw[if_pos a];obtain⟨p,rfl⟩:=List.getLast?_eq_some_iff.1 a;rw[List.dropLast_concat,List.length_append,List.length_singleton,Nat.add_sub_cancel,List.set_append_right _ _ (Nat.le_refl _)];simp
def uD {w:World} {v:Value} (l:List Nat) (hv:Sl aN w v (aM l)) (hp:fU v) (hc:∀c∈l,aP c) (hl:l.length<100000) :
 Calls prog 115 #[v] w λe w'=>∃r,e=.returned (.agg #[r])/\w'.ownsRow w.heap.size aN 1 r (lC (gu l)).length (aM (lC (gu l)))/\Below w.heap.size w w':=by
 have T:=ah (w:=w) (.cells #[.slice none 0 0] 148);obtain⟨G,d⟩:=ae (w.alloc (.cells #[.slice none 0 0] 148));have k0:=Is.nw d;have am:G.heap.size=w.heap.size+1:=by rw[d];simp
 rw[<-d] at T;have CL:=aa (kX l (hv.mono T) hp (by omega));have Ro:=aa (show ∀c∈gu l,aP c from λc h=>hc c (((lq l).2 c).1 h));have J:=xR l;obtain⟨pa,pn,pc,rfl,_⟩:=id hp;clear hp hv hc;go_enter func115,ntmps115;go_wp2_with fail;rw[<-d];clear d;refine CL.out.mono ?_;rintro e w1⟨r1,rfl,R,L⟩;have ST:=aa (wh l R (by omega));have x:=L;obtain⟨a1,c1,rfl,_,_⟩:=ak R;clear CL;go_wp2_with fail;refine ST.out.mono ?_;rintro e w2⟨rfl,C,E⟩;have B:Below G.heap.size G w2:=x.grown E x.size λk hk=>(R.lt k hk).1;rw[<-fP l] at C;have CO:=aa (GV (b_ l) C (by rw[fP];omega));rw[fP] at CO C;clear ST R x L E;go_wp2_with fail;refine CO.out.mono ?_;rintro e o⟨r3,rfl,Q,M⟩;have i:Below G.heap.size G o:=B.grown M B.size λk hk=>(C.lt k hk).1;rw[show Ew (b_ l)=gu l from rfl] at Q;clear CO C B M;have s3:=(Sl.aU Q).any;obtain⟨S,t⟩:=ae (gu l);rw[<-t] at Q J Ro s3;have ab:=aa t;clear t;obtain⟨n,N⟩:=ae S.length;obtain⟨a3,c3,rfl,_,hx⟩:=bG.nN s3 N;rw[<-N] at Q J;have HX:=aa hx;have HN:=aa N;have F:=aa (λj=>AZ (S.take j));unfold lC at F;have k3:Is o w.heap.size #[.slice none 0 0] 148:=⟨(i.block w.heap.size (by omega)).trans k0.at_⟩;have al:w.heap.size+1<=o.heap.size:=by have:=i.size;omega
 have Y:=af T i;clear i T hx N s3 k0;go_wp2_with fail;go_loopw [4,15] (λov iv wr=>∃j:Nat,j<=n/\iv=.int .i64 j/\wr.ownsRow o.heap.size aN 1 ov ((S.take j).foldl lu []).length (aM ((S.take j).foldl lu []))/\Below o.heap.size o wr) (λ_ iv _=>n-(intOf iv).toNat)
 case atStart=>exact⟨0,Nat.zero_le _,rfl,World.ownsRow_nil _ _ _ _,Below.refl _ _⟩
 case round=>
  obtain⟨j,hj,rfl,a,p⟩:=hrel;by_cases an:j<n
  ·have zj:=eG (show j<n by omega);have u:j<S.length:=by have:=HN.out;omega
   obtain⟨b,off,rfl,_,H⟩:=HX.out j u;have H:=aB p H;have y:=Ro.out _ (List.getElem_mem u);have HT:=aa (show(S.take (j+1)).foldl lu []=lu ((S.take j).foldl lu []) S[j] by rw[List.take_succ_eq_append_getElem u,List.foldl_append];rfl);have I:=F.out j;rw[List.length_take,Nat.min_eq_left (by omega)] at I;generalize S[j]=c at *;generalize (S.take j).foldl lu []=O at *;have ai:=y.1
   have UI:=aa (show ∀W,Calls prog 96 #[.int .i32 c] W λe w'=>e=.returned (.bool true)/\w'=W from λW=>by
    have:=gZ (w:=W) c (by omega)
    rwa [decide_eq_true y] at this)
   obtain⟨m,A⟩:=ae O.length;rw[<-A] at a I;clear y;by_cases h0:m=0
   ·have hO:O=[]:=List.length_eq_zero_iff.1 (by omega);subst hO;subst h0;obtain⟨D,z,rfl,_,_⟩:=ak a;clear A
    go_wp2_with (first
     | (go_at_call 96;refine(UI.out _).mono ?_;rintro e w5⟨rfl,rfl⟩)
     | (at_builtin;refine Va rfl _ _ 35 rfl o.heap.size aN _ 4 bW (.slice D 0 z) 0 _ rfl a (.int .i32 (c:Nat)) (.int .i32 ((c+1:Nat):Int)) rfl rfl rfl (by omega) (by unfold maxLen;omega) _ (Below.refl _ _) p.size ?_;intro v1 w6 s V;obtain⟨a6,c6,rfl,_,_⟩:=ak s))
    go_roundw
    case rel=>
     refine⟨j+1,by omega,by simp,?_,p.trans V⟩;rw[HT.out];exact s
    case measure=>simp[intOf];omega
   obtain⟨k,rfl⟩:∃k,m=k+1:=⟨m-1,by omega⟩;have hz:decide ((0:Int)<((k+1:Nat):Int))=true:=by simp
   obtain⟨g,z,rfl⟩:=ownsRow_succ a;have f:k<O.length:=by omega
   obtain⟨ck,fk⟩:=jY a (j:=k) (by simpa using f);rw[dR _ _ f] at ck;have hd:=(a.lt g rfl).1;have ac:=aa (λ(h:O[k]=c)=>Vb (O:=O) (c:=c) (by omega) (by simpa [<-A] using h))
   have ad:=aa (show O[k]≠c->lu O c=O++[c,c+1] from λh=>by
    unfold lu;rw[if_neg];intro h1;have h2:=(last_at (by omega)).1 h1;simp only[<-A,Nat.add_sub_cancel] at h2
    exact h h2)
   have HM:=aa A;by_cases U:O[k]=c
   ·have zq:((O[k]:Int)==(c:Int))=true:=by simp;omega
    generalize O[k]=q at *;obtain⟨s,M4⟩:=a.stored k (.int .i32 ((c+1:Nat):Int));have Z:=aa s;have ag:=aa M4;clear A s M4 a f;go_wp2_with (go_at_call 96;refine(UI.out _).mono ?_;rintro e w5⟨rfl,rfl⟩);go_roundw
    case rel=>
     refine⟨j+1,by omega,by simp,?_,p.trans (aj (Below.refl _ _) hd)⟩;rw[HT.out,ac.out U,List.length_set,<-HM.out,Nat.add_sub_cancel];have:=Z.out;simpa [aM,List.map_set] using this
    case measure=>simp[intOf];omega
   have zq:((O[k]:Int)==(c:Int))=false:=by simp;omega
   generalize O[k]=q at *;clear A f
   go_wp2_with (first
    | (go_at_call 96;refine(UI.out _).mono ?_;rintro e w5⟨rfl,rfl⟩)
    | (at_builtin;refine Va rfl _ _ 35 rfl o.heap.size aN _ 4 bW (.slice (some ⟨g,0,none⟩) (k+1) z) (k+1) _ rfl a (.int .i32 (c:Nat)) (.int .i32 ((c+1:Nat):Int)) rfl rfl rfl (by omega) (by unfold maxLen;omega) _ (Below.refl _ _) p.size ?_;intro v1 w6 s V;obtain⟨a6,c6,rfl,_,_⟩:=ak s))
   go_roundw
   case rel=>
    refine⟨j+1,by omega,by simp,?_,p.trans V⟩;rw[HT.out,ad.out U,List.length_append,<-HM.out,a_];exact s
   case measure=>simp[intOf];omega
  have zj:=gI (show n<=j by omega);obtain rfl:j=n:=by omega
  have hT:S.take j=S:=List.take_of_length_le (by have:=HN.out;omega);rw[hT] at a;rw[show S.foldl lu []=lC S from rfl] at a;obtain⟨D,z,rfl,_,_⟩:=ak a;have X:=k3.mono p;have e0:=X.at 0 rfl;have f0:=X.frozen 0;have K:=aa a;clear a hT;go_wp2
  (try simp only[Exit.inBlock,Exit.then])
  have P:=X.set 0 (.slice D (lC S).length z);have v0:=P.at 0 rfl;refine bodyPost_ret (v:=.agg #[.slice D (lC S).length z]) (by simp[results,results115,go_sem,v0]) rfl ?_;have U:=bn K.out (Go.Cd.aQ K.out (k:=w.heap.size) (by omega)) 0 (.slice D (lC S).length z);rw[<-ab.out];exact⟨_,rfl,aT U (show w.heap.size<=o.heap.size by omega),aj (Y.trans (p.mono (by omega))) (Nat.le_refl _)⟩
end Go.Proofs.YtmnimbnojdndmaaGreatDoor
namespace Go.Proofs.YtmnimbnojdndmaaGreatDoor
open Go.RowKit Go.Cd Go.Shelf
def wC (T:List aG):Nat->Int
 | 0=>-1
 | k+1=>match T[k]? with|some r=>(r.code:Int)|none=>-1
def uE {T:List aG} {k:Nat} (h:k<T.length):wC T (k+1)=(T[k].code:Nat):=by
 show(match T[k]? with|some r=>(r.code:Int)|none=>-1)=_;rw[List.getElem?_eq_getElem h]
def jy:∀{T:List aG},rising T->∀(i k:Nat) (b:i<T.length) (a:k<T.length),i<k->T[i].code<T[k].code
 | r::T,h,0,k+1,_,a,_=>h.1 _ (List.getElem_mem (by simpa using a))
 | r::T,h,i+1,k+1,b,a,hlt=>jy h.2 i k (by simpa using b) (by simpa using a) (by omega)
def J9 {T:List aG} (h:rising T) (j:Nat) (a:j<T.length):wC T j<(T[j].code:Nat):=by
 cases j with
 | zero=>show(-1:Int)<_;omega
 | succ k=>
   have:=jy h k (k+1) (by omega) a (by omega);rw[uE (by omega)];omega
structure NG (T:List aG):Prop where
 ok:∀r∈T,Bq r
 says:∀r∈T,r.cls≠0\/r.map≠[]
 chr:∀r∈T,aP r.code
 rise:rising T
 len:T.length<40000
end Go.Proofs.YtmnimbnojdndmaaGreatDoor
