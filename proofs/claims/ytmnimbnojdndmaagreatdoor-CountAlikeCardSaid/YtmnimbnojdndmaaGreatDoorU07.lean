/- Texts that are alike cost, and count, the same; no condition. -/
import Derived.Test.YtmnimbnojdndmaaGreatDoorU06
import Derived.Lib.SlicesSearch
import Derived.Deep.LoopGhost
set_option maxRecDepth 100000
set_option maxHeartbeats 6400000
set_option linter.all false
namespace Go.Proofs.YtmnimbnojdndmaaGreatDoor
open Go.RowKit Go.Cd Go.Shelf _root_.Go.Proofs.Tryz
def JU {w:World} (c:Int) (k n b:Nat) (a:Option Addr) (h:k≠0\/n≠0) :
 Calls prog 185 #[.agg #[.int .i32 c,.int .i64 k,.slice a n b]] w λe w'=>e=.returned (.bool false)/\Below w.heap.size w w':=by
 have f:=ah (w:=w) (.cells #[.int .i32 c,.int .i64 k,.slice a n b] 196);have d:=Is.new w #[.int .i32 c,.int .i64 k,.slice a n b] 196;have:=d.at 0 rfl;have:=d.at 1 rfl;have:=d.at 2 rfl;go_enter func185,ntmps185;by_cases g:k=0
 ·have:n≠0:=by omega
  subst g;have z:((n:Int)==0)=false:=by simp;omega
  have:((0:Nat):Int)=0:=rfl;go_wp2;go_ret;exact⟨rfl,f⟩
 have z:((k:Int)==0)=false:=by simp;omega
 go_wp2;go_ret;exact⟨rfl,f⟩
def Rk:∀(m:List Nat) (h0:m≠[]),∃b r,dD m=b::r/\b≠60
 | [],h=>absurd rfl h
 | c::l,_=>by
   have f:=(bU c).1;obtain⟨b,r,e⟩:∃b r,aV c=b::r:=by
    cases e:aV c with
    | nil=>rw[e] at f;simp at f
    | cons b r=>exact⟨b,r,rfl⟩
   have a:=(dX c b (by rw[e];simp)).2.2.2.2;cases l with
   | nil=>exact⟨b,r,e,a⟩
   | cons d l=>exact⟨b,r++32::dD (d::l),by show aV c++32::dD (d::l)=_;rw[e];rfl,a⟩
def Bo {w:World} (m:List Nat) (l:m.length<=2) (p:∀c∈m,c<1114112) :
 Calls prog 214 #[.string (tx (dD m))] w λe w'=>∃v,e=.returned (.tuple #[v,.bool true])/\w'.ownsRow w.heap.size aN 1 v m.length (aM m)/\Below w.heap.size w w':=by
 by_cases h0:m=[]
 ·subst h0;obtain⟨s,d⟩:=ae (tx (dD []));have z:s.toList.isEmpty=true:=by rw[d,ph];rfl
  rw[<-d];clear d;go_enter func214,ntmps214;go_wp2
  (try simp only[Exit.inBlock,Exit.then])
  refine bodyPost_ret (by simp[results,results214,go_sem];try rfl) rfl ?_;exact⟨_,rfl,iu _ _ _ _,gO _ _⟩
 have g:=aa (DK (w:=w) m h0 p (by omega));obtain⟨b,r,a,h⟩:=Rk m h0;obtain⟨s,d⟩:=ae (tx (dD m));rw[<-d] at g⊢;have f:0<s.size:=by rw[d,aX,a];simp
 have z:s.toList.isEmpty=false:=by rw[d,ph,dM,a];rfl
 have:(((s[0]'f).toNat:Int)==60)=false:=by
  have o:s[0]'f=b:=by
   subst d;rw[EW];simp only[a,tz]
  rw[o];have:b.toNat≠60:=λe=>h (by rw[<-UInt8.toNat_inj];exact e);simp;omega
 obtain⟨n,i⟩:=ae m.length;rw[<-i] at g l⊢;clear d a i;go_enter func214,ntmps214;go_wp2_with fail;refine g.out.mono ?_;rintro e t⟨v,rfl,j,k⟩;obtain⟨q,u,rfl,_,_⟩:=ak j;have:((n:Int)<=2)=True:=by simp;omega
 clear g;go_wp2;go_ret2;exact⟨_,rfl,j,k⟩
structure Bq (r:aG):Prop where
 code:r.code<1114112
 cls:r.cls<255
 len:r.map.length<=2
 map:∀c∈r.map,c<1114112
def Br {w:World} (hG:dL w) {nm:List UInt8} (o:nm≠[]) (r:aG) (hr:Bq r) {k:Nat} (i:Is w k ((gz nm r).map λl=>Value.string (tx l)).toArray 9) :
 Calls prog 183 #[.slice (some ⟨k,0,none⟩) 15 15] w λe w'=>∃v,e=.returned (.tuple #[.agg #[.int .i32 r.code,.int .i64 r.cls,v],.string ⟨#[]⟩])/\w'.ownsRow w.heap.size aN 1 v r.map.length (aM r.map)/\Below w.heap.size w w':=by
 obtain⟨B,y,U,L⟩:=hr;have Q:=aa (λW=>qJ (w:=W) r.code B);have X:=aa (λW (h:dL W)=>JO h r.cls y);have HM:=aa (λW=>Bo (w:=W) r.map U L);have:w.cell? ⟨k,0,none⟩=some (.string (tx (aV r.code))):=i.at 0 rfl;have f1:w.cell? ⟨k,1,none⟩=some (.string (tx nm)):=i.at 1 rfl;have Y:w.cell? ⟨k,3,none⟩=some (.string (tx (iP r.cls))):=i.at 3 rfl;have f5:w.cell? ⟨k,5,none⟩=some (.string (tx (dD r.map))):=i.at 5 rfl;have:=i.lt;have:(tx nm).toList.isEmpty=false:=by rw[ph,dM];cases nm with|nil=>exact absurd rfl o|cons=>rfl
 generalize tx (aV r.code)=s0 at *;clear o;generalize tx nm=s1 at *;generalize tx (iP r.cls)=s3 at *;generalize tx (dD r.map)=s5 at *;clear B y U L i;obtain⟨u,c⟩:=ae ((w.alloc (.cells #[.int .i32 0,.int .i64 0,.slice none 0 0] 196)).alloc (.cells #[.int .i32 0,.int .i64 0,.slice none 0 0] 196));have t:Below w.heap.size w u:=by rw[c];exact((gO _ w).alloc (gw _) _).alloc (by simp) _
 have s:u.heap.size=w.heap.size+2:=by rw[c];simp
 have M:Is u w.heap.size #[.int .i32 0,.int .i64 0,.slice none 0 0] 196:=by rw[c];exact(Is.new w _ _).mono (ah _)
 have x:Is u (w.heap.size+1) #[.int .i32 0,.int .i64 0,.slice none 0 0] 196:=by rw[c];exact Is.new' _ _ _ _ (by simp)
 go_enter func183,ntmps183;go_wp2_with fail;rw[<-c];clear c;refine(Q.out u).mono ?_;rintro e w2⟨rfl,rfl⟩;obtain⟨q,b⟩:=ae (w2.setCell ⟨w.heap.size+1,0,none⟩ (.int .i32 (r.code:Nat)));have d:Below w.heap.size w q:=by rw[b];exact aj t (by omega)
 have K:=aB d f1;have R:=aB d Y;have H:=x.at 0 rfl;have G:=x.frozen 0;have V:Is q w.heap.size #[.int .i32 0,.int .i64 0,.slice none 0 0] 196:=by rw[b];exact M.put (by omega) _
 have T:Is q (w.heap.size+1) #[.int .i32 (r.code:Nat),.int .i64 0,.slice none 0 0] 196:=by rw[b];exact x.set 0 _
 have E:q.heap.size=w.heap.size+2:=by rw[b,lO];exact s
 rw[b] at K R;go_wp2_with fail;rw[<-b];clear K R H G M x t s Q;refine(X.out q (hG.mono d)).mono ?_;rintro e w3⟨rfl,f⟩;clear X b;obtain⟨w4,a⟩:=ae (w3.setCell ⟨w.heap.size+1,1,none⟩ (.int .i64 (r.cls:Nat)));have p:Below w.heap.size w w4:=by rw[a];exact aj (d.trans (f.mono (by omega))) (by omega)
 have O:=aB p f5;have S:=V.mono f;have A:=T.mono f;have H:=A.at 1 rfl;have G:=A.frozen 1;have m0:Is w4 w.heap.size #[.int .i32 0,.int .i64 0,.slice none 0 0] 196:=by rw[a];exact S.put (by omega) _
 have m1:Is w4 (w.heap.size+1) #[.int .i32 (r.code:Nat),.int .i64 (r.cls:Nat),.slice none 0 0] 196:=by rw[a];exact A.set 1 _
 have:w.heap.size+2<=w4.heap.size:=by rw[a,lO];have:=f.size;omega
 rw[a] at O;go_wp2_with fail;rw[<-a];clear O H G S A V T d f E a;refine(HM.out w4).mono ?_;rintro e w5⟨v,rfl,I,D⟩;have g:=m0.mono D;have C:=m1.mono D;obtain⟨m,j,rfl,_,_⟩:=ak I;have q0:=C.at 0 rfl;have q1:=C.at 1 rfl;have q2:=C.at 2 rfl;have:=C.frozen 2;have Z:=g.at 0 rfl;have B:=g.at 1 rfl;have y:=g.at 2 rfl;have s0:=g.frozen 0;have s1:=g.frozen 1;have s2:=g.frozen 2;go_wp2
 (try simp only[Exit.inBlock,Exit.then])
 obtain⟨N,J⟩:=ae (w5.setCell ⟨w.heap.size+1,2,none⟩ (.slice m r.map.length j));have p0:Is N w.heap.size #[.int .i32 0,.int .i64 0,.slice none 0 0] 196:=by rw[J];exact g.put (by omega) _
 have mF:Below w.heap.size w N:=by rw[J];exact aj (p.trans (D.mono (by omega))) (by omega)
 have n:=bn I (Go.Cd.aQ I (k:=w.heap.size+1) (by omega)) 2 (.slice m r.map.length j);rw[<-J] at n⊢;have F:=bn (bn (bn n (Go.Cd.aQ n (k:=w.heap.size) (by omega)) 0 (.int .i32 r.code)) (Go.Cd.aQ n (k:=w.heap.size) (by omega)) 1 (.int .i64 r.cls)) (Go.Cd.aQ n (k:=w.heap.size) (by omega)) 2 (.slice m r.map.length j);have P:=((p0.set 0 (.int .i32 r.code)).set 1 (.int .i64 r.cls)).set 2 (.slice m r.map.length j);have v0:=P.at 0 rfl;have v1:=P.at 1 rfl;have v2:=P.at 2 rfl;clear q0 q1 q2 Z B y s0 s1 s2;refine bodyPost_ret (v:=.tuple #[.agg #[.int .i32 r.code,.int .i64 r.cls,.slice m r.map.length j],.string ⟨#[]⟩]) (by simp[results,results183,go_sem,v0,v1,v2]) rfl ?_;exact⟨_,rfl,aT F (by omega),aj (aj (aj mF (gw _)) (gw _)) (gw _)⟩
end Go.Proofs.YtmnimbnojdndmaaGreatDoor
namespace Go.Cd
open Go.RowKit
def KR.B (B:Nat):KR:=⟨λw w'=>Below B w w',λ_=>gO _ _,λh k=>h.trans k⟩
abbrev GrB (B:Nat) (w:World):=vG (KR.B B) w
def aaa {B:Nat} {Q:Exit->Act->World->Prop} {w:World} {K:Act->World->Prop} {a:Act} {w':World} (c:Below B w w') (b:K a w'):QR (KR.B B) Q w K .normal a w':=⟨c,b⟩
def GrB.keeps {B:Nat} {w:World} {b o:Nat} {v:Value} (h:w.cell? ⟨b,o,none⟩=some v) (a:b<B):∀g:GrB B w,g.tw.cell? ⟨b,o,none⟩=some v:=
 λg=>((show Below B w g.tw from g.ext).cell (p:=⟨b,o,none⟩) a).trans h
end Go.Cd
section
namespace Go.Cd
open Go.RowKit
theorem Is.same {W:World} {k:Nat} {cs:Array Value} {T:TypeId} (h:Is W k cs T) (o:Nat) {u:Value} (hu:cs[o]? = some u):W.setCell ⟨k,o,none⟩ u=W:=by
 have h1:=h.at_;have hlt:=h.lt;have e:cs.setIfInBounds o u=cs:=by
  apply pS;intro i;rw [qs];by_cases hi:o=i
  ·subst hi;have:=(jt.1 hu).1;simp [this];exact ((jt.1 hu).2).symm
  ·simp [hi]
 unfold World.setCell
 have:(W.heap.modify k fun x=>match x with
  | .cells c elem frozen=>.cells (if (⟨k,o,none⟩:Addr).spot.isSome then c else c.setIfInBounds (⟨k,o,none⟩:Addr).off u) elem frozen
  | o=>o)=W.heap:=by
  apply pS;intro i;rw [sr];by_cases hi:k=i
  ·subst hi;rw [if_pos rfl,h1];simp [e]
  ·rw [if_neg hi]
 exact congrArg (fun h=>({ W with heap:=h }:World)) this
end Go.Cd
namespace Go.Proofs.YtmnimbnojdndmaaGreatDoor
open Go.RowKit Go.Cd Go.Shelf
theorem DR {w:World} {p:Nat} (v:Value) (c:Int) (hp:Is w p #[v,.int .i32 c,.string ⟨#[]⟩] 247) (k:Int) (l:Int) (u:Value) :
 Calls Tryz.prog 184 #[.pointer (some ⟨p,0,none⟩),.string ⟨#[88]⟩,.agg #[.int .i32 k,.int .i64 l,u]] w fun e w'=>e=.returned (.bool true)∧Below w.heap.size w w':=by
 have C1:=aa (show ∀W,Calls Tryz.prog 215 #[.string ⟨#[88]⟩,.string ⟨#[44,32,70,105,114,115,116,62]⟩] W fun e w'=>e=.returned (.tuple #[.string ⟨#[88]⟩,.bool false])∧w'=W from fun W=>
  Tryz.strings_CutSuffix ⟨#[88]⟩ ⟨#[44,32,70,105,114,115,116,62]⟩ W (by decide))
 have C2:=aa (show ∀W,Calls Tryz.prog 215 #[.string ⟨#[88]⟩,.string ⟨#[44,32,76,97,115,116,62]⟩] W fun e w'=>e=.returned (.tuple #[.string ⟨#[88]⟩,.bool false])∧w'=W from fun W=>
  Tryz.strings_CutSuffix ⟨#[88]⟩ ⟨#[44,32,76,97,115,116,62]⟩ W (by decide))
 obtain ⟨w1,hw1⟩:=ae (w.alloc (.cells #[.int .i32 k,.int .i64 l,u] 196));have hB1:=aO hw1;have p1:=hp.mono hB1;have e1:=p1.at 2 rfl;have d1:=p1.frozen 2;have z:(⟨#[]⟩:ByteArray).toList.isEmpty=true:=by rw [ph];rfl
 have hid:=aa (p1.same 2 (u:=.string ⟨#[]⟩) rfl);go_enter Tryz.func184,Tryz.ntmps184;go_wp2_with fail;rw [<-hw1];clear hw1;refine (C1.out w1).mono ?_;rintro e w2 ⟨rfl,rfl⟩;go_wp2_with fail;refine (C2.out _).mono ?_;rintro e w3 ⟨rfl,rfl⟩;go_wp2;go_ret;rw [hid.out];exact ⟨rfl,hB1⟩
theorem Bt {P:Program} {W:World} {ops:Array Oper} {rest:List Oper} {o:Oper} {a:Act} {Q:Exit->Act->World->Prop} (hgd:o.guard=none) (s x:Operand) (t:TypeId)
 (ho:o.op=.call { callee:=.builtin .append,args:=#[s,x],argTypes:=#[t,t] })
 (base:Nat) (e:TypeId) (z:Value) (size bytes:Nat) (hE:mV P t e z size bytes) (hs0:0<size) (jO:bytes<=100000)
 (v:Value) (n:Nat) (xs:List Value) (hs:a.eval s=v) (hown:W.ownsRow base e size v n xs)
 (us:Array Value) (hx:a.eval x=.slice (some ⟨W.heap.size,0,none⟩) 1 1) (ze:us.size=size) (h1:∀u∈us.toList,u.oneCell'=true)
 (hn:n<1000000) (hbase:base<=W.heap.size)
 (h:∀v' w',w'.ownsRow base e size v' (n+1) (xs++us.toList)->Below base (W.alloc (.cells us e)) w'->(W.alloc (.cells us e)).grownBy w' v.ownBlock->wpList P ops Q rest (a.put o.dst v') w') :
 wpList P ops Q (o::rest) a (W.alloc (.cells us e)):=by
 obtain ⟨hzs,ht,i,hi,hz,hsize,hby⟩:=hE;have hown2:=hown.alloc (.cells us e);have hnews:∀(j:Nat) (u:Value),us.toList[j]? = some u->(W.alloc (.cells us e)).cell? ((⟨W.heap.size,0,none⟩:Addr).add j)=some u:=by
  intro j u hj;have e0:(⟨W.heap.size,0,none⟩:Addr).add j=⟨W.heap.size,j,none⟩:=by unfold Addr.add;split <;> simp_all
  rw [e0];unfold World.cell?;rw [heap_alloc_new];simpa using hj
 have hmax:n+1<=maxLen:=by unfold maxLen;omega
 have hl1:us.toList.length=1*i.size:=by rw [hsize,su];simpa using ze
 have hbb:(n+1)*bytes<=140737488355328:=by
  have:(n+1)*bytes<=1000000*100000:=pT (by omega) jO;omega
 obtain ⟨v',w',hr,h2,h3,_⟩:=run_append_own (P:=P) (W.alloc (.cells us e)) base t o.type e i z size bytes ht hi hz hsize hby hzs hs0 v n xs hown2
  ⟨W.heap.size,0,none⟩ 1 1 us.toList (by rw [hl1,hsize]) hnews h1 hmax hbb (by simp;omega)
 refine sq _ hgd s x _ _ ho v _ hs hx v' w' hr ?_;exact h v' w' h2 ((gO _ _).grown h3 (by simp;omega) (fun k hk=>(hown.lt k hk).1)) h3
abbrev h_:TypeId:=196
theorem JV:mV Tryz.prog 146 h_ (.agg #[.int .i32 0,.int .i64 0,.slice none 0 0]) 3 40:=⟨rfl,Tryz.underlying146,info_parts (by kernel_rfl)⟩
def dY (x:aG×Value):List Value:=[.int .i32 x.1.code,.int .i64 x.1.cls,x.2]
theorem Bu (x:aG×Value):(dY x).length=3:=rfl
theorem Sl.ab_ {e T:TypeId} {w w':World} {v u:Value} {xs ys:List Value} {base size n:Nat} (h:Sl e w v xs) (ho:w.ownsRow base T size u n ys) (hT:T≠e) (hg:w.grownBy w' u.ownBlock):Sl e w' v xs:=by
 obtain ⟨a,cap,hv,hc,h⟩:=h;refine ⟨a,cap,hv,hc,h.imp id ?_⟩;rintro ⟨b,off,cs,fr,ha,hh,hx⟩;refine ⟨b,off,cs,fr,ha,(hg.block b (block_lt hh) fun e1=>?_).trans hh,hx⟩;rcases ho.2 with ⟨h1,_⟩|⟨g,_,cur,h1,_,h2,_⟩
 ·rw [h1] at e1;cases e1
 ·rw [h1] at e1;cases e1;rw [hh] at h2;cases h2;exact hT rfl
def fU (v:Value):Prop:=∃a n cap,v=.slice a n cap∧(a=none∨∃b off,a=some ⟨b,off,none⟩)
theorem fU.aU {w:World} {base size n:Nat} {e:TypeId} {v:Value} {xs:List Value} (h:w.ownsRow base e size v n xs):fU v:=by
 rcases h.2 with ⟨rfl,_⟩|⟨g,cap,cur,rfl,_⟩
 ·exact ⟨none,0,0,rfl,.inl rfl⟩
 ·exact ⟨_,n,cap,rfl,.inr ⟨g,0,rfl⟩⟩
structure Fb (w:World) (p:Nat) (L:List (aG×Value)) (last:Int) (o:List UInt8):Prop where
 cells:∃v,Is w p #[v,.int .i32 last,.string (tx o)] 247∧w.ownsRow (p+1) h_ 3 v L.length (L.flatMap dY)
 maps:∀x∈L,Sl aN w x.2 (aM x.1.map)∧fU x.2
theorem JW {w:World} {p:Nat} (hG:dL w) {L:List (aG×Value)} {last:Int} (hR:Fb w p L last []) (r:aG) (hr:Bq r) (hlt:last<r.code) (Bv:r.cls≠0∨r.map≠[]) (hch:aP r.code) (hL:L.length<100000) :
 Calls Tryz.prog 149 #[.pointer (some ⟨p,0,none⟩),.string (tx (eu [88] r))] w fun e w'=>e=.returned (.string ⟨#[]⟩)∧Below p w w'∧w.heap.size<=w'.heap.size∧∃v,Fb w' p (L++[(r,v)]) r.code []:=by
 obtain ⟨⟨ov,hp,ho⟩,hM⟩:=hR;have hpl:=hp.lt;have hnm:=(qg.row).name;have SP:=aa (tN hG (gz [88] r) rfl (fun q hq h=>(Bh hnm.2 hr.cls q hq _ h).2 rfl) (kU hnm.2 hr.cls hr.len));clear hnm;obtain ⟨s,hs⟩:=ae (tx (eu [88] r));have hs':tx (bH 59 (gz [88] r))=s:=hs.symm;rw [hs'] at SP;rw [<-hs];clear hs hs';have RW:=aa (fun (W:World) (h:dL W) (k:Nat) (hk:Is W k ((gz [88] r).map fun l=>Value.string (tx l)).toArray 9)=>Br h (by simp) r hr hk);obtain ⟨oa,oc,rfl,_,_⟩:=ak ho;have HM:=aa (fun x hx=>(hM x hx).1);have HPV:=aa (fun x hx=>(hM x hx).2);have HO:=aa ho;have hcd:=hr.code;clear hM ho;go_enter Tryz.func149,Tryz.ntmps149;go_wp2_with fail;refine SP.out.mono ?_;rintro e w1 ⟨rfl,hw1⟩;have hB1:=aO hw1;have q1:Is w1 w.heap.size ((gz [88] r).map fun l=>Value.string (tx l)).toArray 9:=by rw [hw1];exact Is.new _ _ _
 have p1:=hp.mono hB1;have hz1:w1.heap.size=w.heap.size+1:=by rw [hw1];simp
 clear hw1 SP hp;go_wp2_with fail;refine (RW.out _ (hG.mono hB1) _ q1).mono ?_;rintro e w2 ⟨mv,rfl,hmv,hB2⟩;have q2:w2.cell? ⟨w.heap.size,1,none⟩=some (.string (tx [88])):=(q1.mono hB2).at 1 rfl;have p2:=p1.mono hB2;have hBw2:=af hB1 hB2;obtain ⟨ma,mc,rfl,_,_⟩:=ak hmv;have hpv:=fU.aU hmv;obtain ⟨mn,Ja⟩:=ae r.map.length;have kz:=hr.len;rw [<-Ja] at hmv kz ⊢;have JY:r.cls≠0∨mn≠0:=Bv.imp id fun h e=>h (im.1 (Ja▸e));have HMN:=aa Ja;have ajj:=aa hpv;clear hpv;obtain ⟨c,hc⟩:=ae r.code;obtain ⟨l,hl⟩:=ae r.cls;rw [<-hc] at hlt hcd hch ⊢;rw [<-hl] at JY ⊢;have HC:=aa hc;have Yh:=aa hl;clear Ja hc hl q1 Bv p1 RW;obtain ⟨w3,hw3⟩:=ae (w2.alloc (.cells #[.int .i32 (c:Nat),.int .i64 (l:Nat),.slice ma mn mc] 196));have hB3:=aO hw3;have b3:=Is.nw hw3;have p3:=p2.mono hB3;have q3:=aB hB3 q2;go_upto_region 5 with fail;rw [<-hw3];have hBw3:=af hBw2 hB3;have hX:=hB3;have hz3:w3.heap.size=w2.heap.size+1:=by rw [hw3];simp
 have hz2:=hB2.size;clear hw3 hB3 hBw2;have zl:decide ((c:Int)<=last)=false:=by simp;omega
 have g1:=b3.gd 0 rfl;have g2:=p3.gd 1 rfl;refine aC (Array.replicate 8 true) 8 0 mixed ?_;refine ay [0,1,2,3,4,5,6,7] 0 ?_
 iterate 8 (refine aA rfl ?_;go_big_quiet_step (rfl))
 refine az ?_;refine aJ [] ?_;refine tail_nil ?_;clear g1 g2;have b4:=b3.mono (ag w3);have p4:=p3.mono (ag w3);have q4:=aB (ag w3) q3;have hB4:=af hBw3 (ag w3)
 replace hX:=af hX (ag w3)
 have Y5:w3.drew.heap.size=w2.heap.size+1:=hz3;generalize w3.drew=w4 at *;go_upto_region 7 with fail;have RG:=aa (fun (W:World) (E:Below w4.heap.size w4 W)=>DR (w:=W) _ _ (p4.mono E) c l (.slice ma mn mc));have g0:=Gr.cell (ag w4) q4;have g1:=b4.gd 0 rfl;have g2:=b4.gd 1 rfl;have g3:=b4.gd 2 rfl;refine aC (Array.replicate 8 true) 8 0 mixed ?_;refine ay [0,1,2,3,4] 3 ?_
 iterate 5 (refine aA rfl ?_;go_big_quiet_step (rfl))
 refine az ?_;refine aI 5 ?_;go_wp2_with fail;refine (RG.out _ (ag w4)).mono ?_;rintro e w5 ⟨rfl,rX⟩;go_wp2_with fail;refine aF rX ?_;refine ay [6,7] 0 ?_
 iterate 2 (refine aA rfl ?_;go_big_quiet_step (rfl))
 refine az ?_;refine aJ [] ?_;refine tail_nil ?_;have jP:=af (ag w4) rX;have b5:=b4.mono jP;have p5:=p4.mono jP;have U6:=af hB4 jP
 replace hX:=af hX jP
 have hz5:w2.heap.size+1<=w5.heap.size:=by have:=jP.size;omega
 clear g0 g1 g2 g3 b4 p4 q4 b3 p3 q3 RG rX jP hz3 Y5 hB4 hBw3;have UI:=aa (gZ (w:=w5) c (by omega));have hct:decide (aP c)=true:=decide_eq_true hch;rw [hct] at UI;have e0:=b5.at 0 rfl;have d1:=p5.frozen 1;have e1:=p5.at 1 rfl;go_upto_region 12 with (go_at_call 96;refine UI.out.mono ?_;rintro e w6 ⟨rfl,rfl⟩);have hpw:p≠w2.heap.size:=by have:=hB1.size;omega
 obtain ⟨w7,hw7⟩:=ae (w6.setCell ⟨p,1,none⟩ (.int .i32 (c:Nat)));rw [<-hw7];have b7:Is w7 w2.heap.size #[.int .i32 (c:Nat),.int .i64 (l:Nat),.slice ma mn mc] 196:=by rw [hw7];exact b5.put (px hpw) _
 have p7:Is w7 p #[.slice oa L.length oc,.int .i32 (c:Nat),.string ⟨#[]⟩] 247:=by rw [hw7];exact p5.set 1 _
 have hB7:Below p w w7:=by rw [hw7];exact aj (U6.mono (by omega)) (gw _)
 have O5:=aH HO.out U6;have O7:w7.ownsRow (p+1) h_ 3 (.slice oa L.length oc) L.length (L.flatMap dY):=by rw [hw7];exact bn O5 (Go.Cd.aQ O5 (k:=p) (by omega)) 1 _
 have M7:∀x∈L,Sl aN w7 x.2 (aM x.1.map):=fun x hx=>by rw [hw7];exact ((HM.out x hx).mono U6).put p5.at_ (by decide)
 have V7:Sl aN w7 (.slice ma mn mc) (aM r.map):=by rw [hw7];exact ((Sl.aU hmv).mono hX).put p5.at_ (by decide)
 have hz7:w7.heap.size=w6.heap.size:=by rw [hw7];simp
 have hzw:w.heap.size<=w6.heap.size:=U6.size;have HM7:=aa M7;have HV7:=aa V7;have HO7:=aa O7;clear hw7 hX U6 b5 p5 e0 d1 e1 UI O5 O7 M7 V7 hmv p2 hB1 hB2 q2;have PL:=aa (JU (w:=w7) c l mn mc ma JY);have e0:=b7.at 0 rfl;have e1:=b7.at 1 rfl;have e2:=b7.at 2 rfl;go_upto_region 13 with (go_at_call 185;refine PL.out.mono ?_;rintro e w8 ⟨rfl,hB8⟩);clear e0 e1 e2 PL;have b8:=(b7.mono hB8).mono (ag w8);have p8:=(p7.mono hB8).mono (ag w8);have kL:=af hB8 (ag w8);have g0:=GrB.keeps (B:=p+1) (p8.at 0 rfl) (sB p);refine dF (KR.B (p+1)) #[true,true,true,true,true,true,true,true,true,true,false] 10 1 mixed ?_;refine bZ [0,1,2,3,4] 5 ?_
 iterate 5 (refine aA rfl ?_;go_big_quiet_step (rfl))
 refine az ?_;refine bN 5 ?_;have e0:=b8.at 0 rfl;have e1:=b8.at 1 rfl;have e2:=b8.at 2 rfl;go_wp2_with fail;refine aaa (gO _ _) ?_;clear e0 e1 e2;refine bN 6 ?_;go_wp2_with fail;have hzp:p+1<=w8.drew.heap.size:=gS (by omega) kL.size;refine aaa ((ah _).mono hzp) ?_;refine bN 7 ?_;refine Bt (W:=w8.drew) rfl _ _ 146 rfl (p+1) h_ _ 3 40 JV (by decide) (by decide) (.slice oa L.length oc) L.length (L.flatMap dY) rfl (aH HO7.out kL) _ rfl rfl (by simp [Value.oneCell']) (by omega) hzp ?_;intro v1 w9 o9 o_ Dw;obtain ⟨na,nc,rfl,_,_⟩:=ak o9;go_wp2_with fail;refine aaa o_ ?_;refine bZ [8,9] 0 ?_
 iterate 2 (refine aA rfl ?_;go_big_quiet_step (rfl))
 refine az ?_;have p9:=(p8.mono (ah _)).low o_ (sB p);have e1:=p9.at 0 rfl;have d1:=p9.frozen 0;refine eU [10] ?_;refine tail_cons rfl ?_;go_wp2_with fail;refine tail_nil ?_;go_wp2;go_ret;have MZ:=af kL (ah (w:=w8.drew) (.cells #[.int .i32 (c:Nat),.int .i64 (l:Nat),.slice ma mn mc] h_));have OA:=aH HO7.out MZ;have keep:∀{v:Value} {xs:List Value},Sl aN w7 v xs->Sl aN (w9.setCell ⟨p,0,none⟩ (.slice na (L.length+1) nc)) v xs:=fun h=>Go.Cd.Sl.put (Sl.ab_ (Go.Cd.Sl.mono h MZ) OA (by decide) Dw) p9.at_ (by decide);have Y6:Below p w (w9.setCell ⟨p,0,none⟩ (.slice na (L.length+1) nc)):=aj ((hB7.trans (MZ.mono (by omega))).trans (o_.mono (pj p))) (gw _);refine ⟨rfl,Y6,?_,.slice ma mn mc,⟨⟨.slice na (L.length+1) nc,?_,?_⟩,?_⟩⟩
 ·have:=o_.size;have:=kL.size;simp only [lO,ns] at *;omega
 ·rw [<-HC.out];exact p9.set 0 _
 ·have:=bn o9 (Go.Cd.aQ o9 (k:=p) (by omega)) 0 (.slice na (L.length+1) nc);rw [d',jj];have e1:List.flatMap dY [((r,.slice ma mn mc):aG×Value)]=[.int .i32 (c:Nat),.int .i64 (l:Nat),.slice ma mn mc]:=by rw [HC.out,Yh.out];rfl
  rw [e1];exact this
 ·intro x hx;rcases gR.1 hx with hx|hx
  ·exact ⟨keep (HM7.out x hx),HPV.out x hx⟩
  ·rw [gC.1 hx];exact ⟨keep HV7.out,by rw [HMN.out];exact ajj.out⟩
end Go.Proofs.YtmnimbnojdndmaaGreatDoor
end
namespace Go.Proofs.YtmnimbnojdndmaaGreatDoor
section
open Go.RowKit Go.Cd Go.Sort _root_.Go.Proofs.Tryz
section
variable {α : Type} [Inhabited α] (enc : α -> Value)
variable {w:World} {g n:Nat} {e:TypeId} {os:Array Obj}
def Fe {a:Array Value} {ss:List α} (d:w.heap[g]? = some (.cells a e (0,0))) (h:a.toList.take ss.length=ss.map enc):Holds enc w g 0 ss.toArray:=by
 intro j f;have b:j<ss.length:=by simpa using f
 refine⟨?_,by simp[World.frozen?,d]⟩;have c:(a.toList.take ss.length)[j]? = (ss.map enc)[j]?:=by rw[h]
 rw[List.getElem?_take_of_lt b] at c;simp only[World.cell?,d,kh];simpa [b] using c
def heap_put {a:Array Value} {b:Nat×Nat} (d:Array α) (c:w.heap[g]? = some (.cells a e b)) :
 (grow (putRow enc (Sort.ahead w n) g 0 d) os).heap[g]? = some (.cells (putCells enc 0 d a) e b):=by
 have f:g<w.heap.size:=(jt.1 c).1;rw[heap_grow_old _ _ (by simpa using f)];simp[putRow,mapBlock,Sort.ahead,sr,c,onCells]
def zB (d:Array α):w.grownBy (grow (putRow enc (Sort.ahead w n) g 0 d) os) (some g):=by
 refine⟨rfl,rfl,rfl,by simp,λk b a=>?_⟩;rw[heap_grow_old _ _ (by simpa using b)];have:g≠k:=λe=>a (by rw[e]);simp[putRow,mapBlock,Sort.ahead,sr,this]
def U8 (a:Array Value) (ts:List α) (h:ts.length<=a.size):(putCells enc 0 ts.toArray a).toList.take ts.length=ts.map enc:=by
 apply List.ext_getElem?;intro j;by_cases b:j<ts.length
 ·rw[List.getElem?_take_of_lt b,mm];simp[putCells,b,show j<a.size by omega]
 rw[List.getElem?_take_eq_none (by omega),pD (by simp;omega)]
def zC {base cap:Nat} {b:Array Value} {ts us:List α} (a:base<=g) (f:w.heap[g]? = some (.cells b e (0,0)))
 (d:(ts++us).length<=cap) (j:cap<=maxLen) (i:b.size=cap*1) :
 (grow (putRow enc (Sort.ahead w n) g 0 (ts++us).toArray) os).ownsRow base e 1 (.slice (some ⟨g,0,none⟩) ts.length cap) ts.length (ts.map enc):=by
 have h:ts.length<=cap:=by simp at d;omega
 refine⟨by simp,.inr ⟨g,cap,_,rfl,a,heap_put enc _ f,h,j,by simp[putCells,i],?_⟩⟩;have:=U8 enc b (ts++us) (by omega);rw[qK];have c:=congrArg (List.take ts.length) this;rw[AK,qk (by simp)] at c;rw[c];simp
end
def JZ (d:Nat):Value:=.int .i32 d
def U9 (l:List Nat):aM l=l.map JZ:=rfl
def Ff (l:List Nat):aM l=(l.map λd:Nat=>(d:Int)).map (Value.int .i32):=by rw[mB];rfl
def Rl (l:List Nat):((l.map λd:Nat=>(d:Int)).mergeSort λx y=>decide (x<=y))=(b_ l).map λd:Nat=>(d:Int):=by
 unfold b_;refine(List.map_mergeSort ?_).symm;intro a _ b _;simp
def wh {w:World} {base:Nat} {v:Value} (l:List Nat) (f:w.ownsRow base aN 1 v l.length (aM l)) (s:l.length<1000000) :
 Calls prog 66 #[v] w λe w'=>e=.returned (.tuple #[])/\w'.ownsRow base aN 1 v l.length (aM (b_ l))/\w.grownBy w' v.ownBlock:=by
 rcases f.2 with⟨rfl,h0⟩|⟨g,cap,m,rfl,q,a,p,j,r,i⟩
 ·have o:l=[]:=im.1 h0;subst o;refine(Ab none 0 w).mono ?_;rintro e w'⟨b,rfl⟩;exact⟨b,by rw[show b_ []=[] from by simp[b_]];exact f,⟨rfl,rfl,rfl,gw _,λ_ _ _=>rfl⟩⟩
 rw[qK,Ff] at i;have k:=Fe (Value.int .i32) (ss:=l.map λd:Nat=>(d:Int)) a (by simpa using i);have h:=uw g 0 cap (l.map λd:Nat=>(d:Int)) w k (block_lt a) (by simp;omega);rw[ia] at h;refine h.mono ?_;rintro e w'⟨b,n,os,rfl⟩;refine⟨b,?_,zB _ _⟩;rw[Rl,Ff];have c:((b_ l).map λd:Nat=>(d:Int)).length=l.length:=by rw[ia,fP]
 have:=zC (Value.int .i32) (w:=w) (base:=base) (n:=n) (os:=os) (ts:=(b_ l).map λd:Nat=>(d:Int)) (us:=[]) q a (by rw[lE,c];exact p) j r;rw[lE,c] at this;exact this
def ae_ (P:Program) (T:TypeId):EqlAt P T JZ (λx y=>decide (x=y)):=⟨λx y w=>by
 have:=(EqlAt.intD P T .i32).1 (x:Int) (y:Int) w;refine this.trans ?_;dsimp only
 rw[show decide ((x:Int)=(y:Int))=decide (x=y) from decide_eq_decide.2 (by omega)],λop a b x y w=>(EqlAt.intD P T .i32).2 op a b (x:Int) (y:Int) w⟩
def ajl (P:Program) (T:TypeId):NeqAt P T JZ (λx y=>decide (x=y)):=⟨λx y w=>by
 have:=(NeqAt.intD P T .i32).1 (x:Int) (y:Int) w;refine this.trans ?_;dsimp only
 rw[show decide ((x:Int)=(y:Int))=decide (x=y) from decide_eq_decide.2 (by omega)],λop a b x y w=>(NeqAt.intD P T .i32).2 op a b (x:Int) (y:Int) w⟩
def J6 {w:World} {base:Nat} {v:Value} (l:List Nat) (j:w.ownsRow base aN 1 v l.length (aM l)) (s:l.length<1000000) (h0:l≠[]) :
 Calls prog 162 #[v] w λe w'=>∃r,e=.returned r/\w'.ownsRow base aN 1 r (Ew l).length (aM (Ew l))/\w.grownBy w' v.ownBlock:=by
 rcases j.2 with⟨rfl,i⟩|⟨g,cap,f,rfl,m,a,k,c,o,b⟩
 ·exact absurd (im.1 i) h0
 rw[qK,U9] at b;have d:=Fe JZ (ss:=l) a b;have h:=AnyE.slices_Compact Tryz.GG JZ (λ_=>rfl) (ae_ _ _) (ajl _ _) 0 (λw=>zeroValue21 w) g 0 cap l.toArray w d (by simp;omega) (by simpa using k);refine se (h:Calls prog 162 #[.slice (some ⟨g,0,none⟩) l.length cap] w _) ?_;rintro e w'⟨p,q,rfl⟩;refine⟨_,p,?_,?_⟩
 ·have:=zC JZ (w:=w) (base:=base) (n:=q) (os:=#[]) (ts:=Lib.compactUpTo l.toArray l.toArray.size) (us:=List.replicate (l.toArray.size-(Lib.compactUpTo l.toArray l.toArray.size).length) 0) m a (by
   have:=Jy l.toArray l.toArray.size
   simp at this⊢;omega) c o
  rw[grow_empty] at this;exact this
 have:=zB JZ (w:=w) (g:=g) (n:=q) (os:=#[]) (Lib.compactUpTo l.toArray l.toArray.size++List.replicate (l.toArray.size-(Lib.compactUpTo l.toArray l.toArray.size).length) 0).toArray;rw[grow_empty] at this;exact this
def kX {w:World} {v:Value} (l:List Nat) (B:Sl aN w v (aM l)) (y:fU v) (G:l.length<1000000) :
 Calls prog 102 #[v] w λe w'=>∃r,e=.returned r/\w'.ownsRow w.heap.size aN 1 r l.length (aM l)/\Below w.heap.size w w':=by
 obtain⟨a,cap,rfl,H,n⟩:=B.out;rw[bF] at *;obtain⟨F,D,g,d,z⟩:=y;cases d;rcases z with rfl|⟨b,off,rfl⟩
 ·have h0:l=[]:=by
   rcases l with _|⟨x,l⟩
   ·rfl
   obtain⟨b,off,h,_⟩:=n 0 (by simp);cases h
  subst h0;refine se (AnyE.slices_Clone_nil Tryz.AY 0 cap w:Calls prog 102 #[.slice none 0 cap] w _) ?_;rintro e w'⟨d,rfl⟩;exact⟨_,d,iu _ _ _ _,gO _ _⟩
 obtain⟨_,_,i,t,q,c,f⟩:=bW;refine se (AnyE.slices_Clone Tryz.AY i (.int .i32 0) 1 4 t q c f rfl (by decide) (λw=>sizeOf21 w) b off l.length cap (aM l) w (by simp) (by unfold maxLen;omega) (by omega) ?_ (gJ l):Calls prog 102 #[.slice (some ⟨b,off,none⟩) l.length cap] w _) ?_
 ·intro j u m;have s:=(ir.1 m).1;obtain⟨E,k,C,_,A⟩:=n j (by simpa using s);cases C;rw[A];have:=(ir.1 m).2;rw[this]
 rintro e w'⟨r,d,o,_,p⟩;exact⟨r,d,o,p⟩
end
open Go.RowKit Go.Lib Go.Cd _root_.Go.Proofs.Tryz
def aa6 (x y:Int) (w:World):Calls prog 141 #[.int .i32 x,.int .i32 y] w λe w'=>e=.returned (.bool (decide (x<y)))/\w'=w:=aK x y w
def qO (x:Int) (w:World):Calls prog 265 #[.int .i32 x] w λe w'=>e=.returned (.bool false)/\w'=w:=by
 go_enter func265,ntmps265;go_wp2;go_ret;exact⟨by simp,rfl⟩
def U_ (a:Option Addr) (n c:Nat) (zs:List Int) (x:Int) (w:World) (u:n<=zs.length) (A:n<4611686018427387904) (m:∀j,j<n->∃b off,a=some ⟨b,off,none⟩/\w.cell? ⟨b,off+j,none⟩=some (.int .i32 (zs.getD j 0))) (C:(zs.take n).Pairwise (·<=·)) :
 Calls prog 239 #[.slice a n c,.int .i32 x] w λe w'=>e=.returned (.tuple #[.int .i64 ((zs.take n).countP (·<x):Nat),.bool ((zs.take n).contains x)])/\∃q,w'=w.drewN q:=by
 have S:Aside (∀a b,a<=b->b<n->zs.getD a 0<=zs.getD b 0):=Lib.sorted_at zs n u C;clear C;go_enter func239,ntmps239;go_wp2
 go_loopg [7,8] n (λg s7 s8 wr=>∃f d q:Nat,s7=.int .i64 f/\s8=.int .i64 d/\f<=d/\d<=n/\d-f<=g/\wr=w.drewN q/\(∀t,t<f->zs.getD t 0<x)/\(∀t,d<=t->t<n->x<=zs.getD t 0))
 case atStart=>exact⟨0,n,0,rfl,rfl,gW _,gw _,by omega,rfl,λt o=>absurd o (tU _),λt s r=>by omega⟩
 case round=>
  obtain⟨f,d,q,rfl,rfl,G,k,J,rfl,s,r⟩:=hrel;have I:Aside ((∀t,t<f->zs.getD t 0<x)/\(∀t,d<=t->t<n->x<=zs.getD t 0)):=⟨s,r⟩;clear s r;by_cases D:f<d
  ·obtain⟨b,off,rfl,F⟩:=m ((f+d) / 2) (by omega);clear m;generalize l:zs.getD ((f+d) / 2) 0=y at F;have Y:Aside (zs.getD ((f+d) / 2) 0=y):=l;clear l;by_cases i:y<x
   ·go_wp2_with (first|(go_at_call 141;refine(aa6 _ _ _).mono ?_;rintro e w'⟨rfl,rfl⟩)|(go_at_call 265;refine(qO _ _).mono ?_;rintro e w'⟨rfl,rfl⟩))
    go_roundg (d-((f+d) / 2+1))
    case measure=>omega
    case rel=>
     refine⟨(f+d) / 2+1,d,_,by rw[show((f:Int)+(d:Int)) / 2+1=(((f+d) / 2+1:Nat):Int) by omega],rfl,by omega,k,gw _,rfl,λt o=>?_,I.out.2⟩;have:=S.out t ((f+d) / 2) (by omega) (by omega);rw[Y.out] at this;omega
   go_wp2_with (first|(go_at_call 141;refine(aa6 _ _ _).mono ?_;rintro e w'⟨rfl,rfl⟩)|(go_at_call 265;refine(qO _ _).mono ?_;rintro e w'⟨rfl,rfl⟩))
   go_roundg ((f+d) / 2-f)
   case measure=>omega
   case rel=>
    refine⟨f,(f+d) / 2,_,rfl,by rw[show((f:Int)+(d:Int)) / 2=(((f+d) / 2:Nat):Int) by omega],by omega,by omega,gw _,rfl,I.out.1,λt o p=>?_⟩;have:=S.out ((f+d) / 2) t o p;rw[Y.out] at this;omega
  have:d=f:=by omega
  subst this;obtain⟨z,B⟩:=Lib.search_end zs n d x u k I.out.1 I.out.2 S.out;have E:Aside ((zs.take n).countP (·<x)=d/\(zs.take n).contains x=decide (d<n/\zs.getD d 0=x)):=⟨z,B⟩;clear z B;by_cases v:d<n
  ·obtain⟨b,off,rfl,H⟩:=m d (by omega);clear m;generalize l:zs.getD d 0=y at H;have Y:Aside (zs.getD d 0=y):=l;clear l;by_cases i:y=x
   ·go_wp2_with (first|(go_at_call 141;refine(aa6 _ _ _).mono ?_;rintro e w'⟨rfl,rfl⟩)|(go_at_call 265;refine(qO _ _).mono ?_;rintro e w'⟨rfl,rfl⟩));go_ret2;refine⟨?_,_,rfl⟩;rw[E.out.1,E.out.2,Y.out,decide_eq_true (show d<n/\y=x from ⟨v,i⟩)]
    first|rfl|simp[*]
   go_wp2_with (first|(go_at_call 141;refine(aa6 _ _ _).mono ?_;rintro e w'⟨rfl,rfl⟩)|(go_at_call 265;refine(qO _ _).mono ?_;rintro e w'⟨rfl,rfl⟩));go_ret2;refine⟨?_,_,rfl⟩;rw[E.out.1,E.out.2,Y.out,decide_eq_false (show ¬(d<n/\y=x) from λh=>i h.2)]
   first|rfl|simp[*]
  clear m;go_wp2_with (first|(go_at_call 141;refine(aa6 _ _ _).mono ?_;rintro e w'⟨rfl,rfl⟩)|(go_at_call 265;refine(qO _ _).mono ?_;rintro e w'⟨rfl,rfl⟩));go_ret2;refine⟨?_,_,rfl⟩;rw[E.out.1,E.out.2,decide_eq_false (show ¬(d<n/\zs.getD d 0=x) from λh=>v h.1)]
  first|rfl|simp[*]
def J7 {w:World} {v:Value} (l:List Nat) (c:Nat) (r:bG w v (aM l)) (s:l.length<1000000) (p:l.Pairwise (· < ·)) :
 Calls prog 239 #[v,.int .i32 c] w λe w'=>e=.returned (.tuple #[.int .i64 (l.countP (·<c):Nat),.bool (l.contains c)])/\Below w.heap.size w w':=by
 obtain⟨a,cap,rfl,_,m⟩:=r.out;rw[bF] at *
 have h:=U_ a l.length cap (l.map λd:Nat=>(d:Int)) (c:Int) w (by simp) (by omega) (λj f=>by
  obtain⟨b,off,k,_,o⟩:=m j (by simpa using f);refine⟨b,off,k,o.trans ?_⟩;rw[dR _ _ f,ic,nE,gA f];rfl) (by
  rw[ie (by simp),zt]
  exact p.imp λh=>by omega)
 rw[ie (by simp)] at h;refine h.mono ?_;rintro e w'⟨rfl,q,rfl⟩;refine⟨?_,⟨rfl,rfl,rfl,gw _,λ_ _=>rfl⟩⟩;have i:(l.map λd:Nat=>(d:Int)).countP (λy=>decide (y<(c:Int)))=l.countP λy=>decide (y<c):=by
  rw[List.countP_map];congr 1;funext y;simp
 have n:(l.map λd:Nat=>(d:Int)).contains (c:Int)=l.contains c:=by
  rw[ur];simp only[List.contains_iff_mem,jx];constructor
  ·rintro⟨a,g,e⟩;obtain rfl:a=c:=by omega
   exact g
  intro h;exact⟨c,h,rfl⟩
 rw[i,n]
def Rm {l:List Nat} (j:l.Pairwise (· < ·)) (c:Nat):places l c=(l.countP λy=>decide (y<c))+if l.contains c=true then 1 else 0:=by
 unfold places
 induction l with
 | nil=>rfl
 | cons a l ih=>
   obtain⟨f,i⟩:=mz.1 j;rw[zX,zX,ih i,List.contains_cons];rcases pZ a c with h|h|h
   ·have e:(c==a)=false:=by simp;omega
    have d:decide (a<c)=true:=decide_eq_true h;have b:decide (a<=c)=true:=decide_eq_true (by omega);simp only[e,Bool.false_or,d,b,if_true];omega
   ·subst h;have g:l.contains a=false:=by
     rw[Bool.eq_false_iff];intro h;have:=f a (by simpa using h);omega
    rw[g];simp
   have e:(c==a)=false:=by simp;omega
   have d:decide (a<c)=false:=decide_eq_false (by omega);have b:decide (a<=c)=false:=decide_eq_false (by omega);simp only[e,Bool.false_or,d,b];simp
def NC {w:World} {v:Value} (l:List Nat) (c:Nat) (j:bG w v (aM l)) (o:l.length<1000000) (i:l.Pairwise (· < ·)) :
 Calls prog 207 #[.agg #[v],.int .i32 c] w λe w'=>e=.returned (.int .i64 (places l c))/\Below w.heap.size w w':=by
 have b:=ah (w:=w) (.cells #[v] 148);have q:=Is.new w #[v] 148;have d:=aa (J7 l c (j.mono b) o i);have:=q.at 0 rfl;have f:=aa (Rm i c);obtain⟨a,cap,rfl,_,_⟩:=j.out;rw[bF] at *;have:(l.countP λy=>decide (y<c))<=l.length:=x3;generalize (l.countP λy=>decide (y<c))=k at *;generalize l.length=n at *;clear j i;go_enter func207,ntmps207;cases g:l.contains c with
 | true=>
   rw[g] at d f;clear g;go_wp2_with (go_at_call 239;refine d.out.mono ?_;rintro e m⟨rfl,h⟩);go_ret;rw[f.out];exact⟨by simp,b.trans (h.mono b.size)⟩
 | false=>
   rw[g] at d f;clear g;go_wp2_with (go_at_call 239;refine d.out.mono ?_;rintro e m⟨rfl,h⟩);go_ret;rw[f.out];exact⟨by simp,b.trans (h.mono b.size)⟩
def Rn (n:Nat):bits .and .i64 (n:Int) 1=((n % 2:Nat):Int):=by
 have a:(BitVec.ofInt 64 1).toNat=2 ^ 1-1:=by decide
 have key:(BitVec.ofInt 64 n &&& BitVec.ofInt 64 1).toNat=((n:Int) % ((2 ^ 64:Nat):Int)).toNat % 2 ^ 1:=by
  rw[sT,pR,a,oB]
 show IntKind.i64.wrap ((BitVec.ofInt 64 n &&& BitVec.ofInt 64 1).toNat:Nat)=_;rw[key,pw];omega
def J8 {w:World} {v:Value} (l:List Nat) (c:Nat) (b:bG w v (aM l)) (g:l.length<1000000) (f:l.Pairwise (· < ·)) :
 Calls prog 171 #[.agg #[v],.int .i32 c] w λe w'=>e=.returned (.bool (decide (places l c % 2=1)))/\Below w.heap.size w w':=by
 have d:=ah (w:=w) (.cells #[v] 148);have j:=Is.new w #[v] 148;have h:=aa (NC l c (b.mono d) g f);have:=j.at 0 rfl;have:places l c<=l.length:=x3;obtain⟨a,cap,rfl,_,_⟩:=b.out;rw[bF] at *;generalize places l c=k at *;generalize l.length=n at *;clear b f;go_enter func171,ntmps171;go_wp2_with (go_at_call 207;refine h.out.mono ?_;rintro e o⟨rfl,m⟩);go_ret;refine⟨?_,d.trans (m.mono d.size)⟩;show Ending.returned (Value.bool (bits BinOp.and IntKind.i64 (k:Int) 1==1))=_;rw[Rn];congr 2;rw[ur];simp;omega
end Go.Proofs.YtmnimbnojdndmaaGreatDoor
namespace Go.Proofs.YtmnimbnojdndmaaGreatDoor
open Go.RowKit Go.Cd _root_.Go.Proofs.Tryz
def Va {P:Program} {W:World} {ops:Array Oper} {rest:List Oper} {o:Oper} {a:Act} {Q:Exit->Act->World->Prop} (i:o.guard=none) (s x:Operand) (t:TypeId)
 (w:o.op=.call { callee:=.builtin .append,args:=#[s,x],argTypes:=#[t,t] })
 (base:Nat) (e:TypeId) (z:Value) (b:Nat) (q:Elem P t e z b)
 (v:Value) (n:Nat) (f:List Value) (D:a.eval s=v) (d:W.ownsRow base e 1 v n f)
 (u u2:Value) (B:a.eval x=.slice (some ⟨W.heap.size,0,none⟩) 2 2) (y:u.oneCell'=true) (m:u2.oneCell'=true)
 (c:(n+2)*b<=140737488355328) (l:n+2<=maxLen) (j:World) (p:Below base j W) (g:base<=j.heap.size)
 (h:∀v' w',w'.ownsRow base e 1 v' (n+2) (f++[u,u2])->Below base j w'->wpList P ops Q rest (a.put o.dst v') w'):wpList P ops Q (o::rest) a (W.alloc (.cells #[u,u2] e)):=by
 have:=p.size;refine bR i s x t w base e z b q v n f D (d.alloc _) _ [u,u2] B (rP W #[u,u2] e) (by simp[y,m]) (by simpa using l) (by simpa using c) (by simp;omega) ?_;intro v' w' m C;refine h v' w' (by simpa using m) ((p.alloc (by omega) _).grown C (by simp;omega) ?_);intro k A;exact(d.lt k A).1
def ND {w:World} (a:Option Addr) (cap:Nat) :
 Calls prog 162 #[.slice a 0 cap] w λe w'=>e=.returned (.slice a 0 cap)/\w'=w:=by
 go_enter func162,ntmps162;go_wp2;go_ret;exact⟨rfl,rfl⟩
def GV {w:World} {base:Nat} {v:Value} (l:List Nat) (b:w.ownsRow base aN 1 v l.length (aM l)) (c:l.length<1000000) :
 Calls prog 162 #[v] w λe w'=>∃r,e=.returned r/\w'.ownsRow base aN 1 r (Ew l).length (aM (Ew l))/\w.grownBy w' v.ownBlock:=by
 by_cases h0:l=[]
 ·subst h0;obtain⟨a,cap,rfl,_,_⟩:=ak b;refine(ND a cap).mono ?_;rintro e w'⟨d,rfl⟩;exact⟨_,d,b,⟨rfl,rfl,rfl,gw _,λ_ _ _=>rfl⟩⟩
 exact J6 l b c h0
def last_at {O:List Nat} {c:Nat} (h:0<O.length):O.getLast? = some c↔O[O.length-1]=c:=by
 rw[sX,gA (by omega)];simp
def Vb {O:List Nat} {c:Nat} (h:0<O.length) (b:O[O.length-1]=c):lu O c=O.set (O.length-1) (c+1):=by
 have a:=(last_at h).2 b;unfold lu;rw[if_pos a];obtain⟨p,rfl⟩:=vr.1 a;rw[rp,d',q_,tg,k_ _ _ (gw _)];simp
def uD {w:World} {v:Value} (l:List Nat) (hv:Sl aN w v (aM l)) (Y:fU v) (hc:∀c∈l,aP c) (hl:l.length<100000) :
 Calls prog 115 #[v] w λe w'=>∃r,e=.returned (.agg #[r])/\w'.ownsRow w.heap.size aN 1 r (lC (gu l)).length (aM (lC (gu l)))/\Below w.heap.size w w':=by
 have Q:=ah (w:=w) (.cells #[.slice none 0 0] 148);obtain⟨J,d⟩:=ae (w.alloc (.cells #[.slice none 0 0] 148));have k0:=Is.nw d;have al:J.heap.size=w.heap.size+1:=by rw[d];simp
 rw[<-d] at Q;have CL:=aa (kX l (hv.mono Q) Y (by omega));have Ro:=aa (show ∀c∈gu l,aP c from λc h=>hc c (((lq l).2 c).1 h));have M:=xR l;obtain⟨pa,pn,pc,rfl,_⟩:=id Y;clear Y hv hc;go_enter func115,ntmps115;go_wp2_with fail;rw[<-d];clear d;refine CL.out.mono ?_;rintro e w1⟨r1,rfl,N,F⟩;have ST:=aa (wh l N (by omega));have t:=F;obtain⟨a1,c1,rfl,_,_⟩:=ak N;clear CL;go_wp2_with fail;refine ST.out.mono ?_;rintro e w2⟨rfl,G,I⟩;have A:Below J.heap.size J w2:=t.grown I t.size λk hk=>(N.lt k hk).1;rw[<-fP l] at G;have V:=aa (GV (b_ l) G (by rw[fP];omega));rw[fP] at V G;clear ST N t F I;go_wp2_with fail;refine V.out.mono ?_;rintro e o⟨r3,rfl,R,K⟩;have i:Below J.heap.size J o:=A.grown K A.size λk hk=>(G.lt k hk).1;rw[show Ew (b_ l)=gu l from rfl] at R;clear V G A K;have s3:=(Sl.aU R).any;obtain⟨S,x⟩:=ae (gu l);rw[<-x] at R M Ro s3;have ac:=aa x;clear x;obtain⟨n,U⟩:=ae S.length;obtain⟨a3,c3,rfl,_,hx⟩:=bG.nN s3 U;rw[<-U] at R M;have HX:=aa hx;have HN:=aa U;have H:=aa (λj=>AZ (S.take j));unfold lC at H;have k3:Is o w.heap.size #[.slice none 0 0] 148:=⟨(i.block w.heap.size (by omega)).trans k0.at_⟩;have ao:w.heap.size+1<=o.heap.size:=by have:=i.size;omega
 have ag:=af Q i;clear i Q hx U s3 k0;go_wp2_with fail;go_loopw [4,15] (λov iv wr=>∃j:Nat,j<=n/\iv=.int .i64 j/\wr.ownsRow o.heap.size aN 1 ov ((S.take j).foldl lu []).length (aM ((S.take j).foldl lu []))/\Below o.heap.size o wr) (λ_ iv _=>n-(intOf iv).toNat)
 case atStart=>exact⟨0,gW _,rfl,iu _ _ _ _,gO _ _⟩
 case round=>
  obtain⟨j,hj,rfl,a,s⟩:=hrel;by_cases ai:j<n
  ·have zj:=eG (show j<n by omega);have B:j<S.length:=by have:=HN.out;omega
   obtain⟨b,off,rfl,_,L⟩:=HX.out j B;have L:=aB s L;have y:=Ro.out _ (gx B);have HT:=aa (show(S.take (j+1)).foldl lu []=lu ((S.take j).foldl lu []) S[j] by rw[gE B,rm];rfl);have E:=H.out j;rw[iS,qk (by omega)] at E;generalize S[j]=c at *;generalize (S.take j).foldl lu []=O at *;have an:=y.1
   have UI:=aa (show ∀W,Calls prog 96 #[.int .i32 c] W λe w'=>e=.returned (.bool true)/\w'=W from λW=>by
    have:=gZ (w:=W) c (by omega)
    rwa [decide_eq_true y] at this)
   obtain⟨m,u⟩:=ae O.length;rw[<-u] at a E;clear y;by_cases h0:m=0
   ·have hO:O=[]:=im.1 (by omega);subst hO;subst h0;obtain⟨D,z,rfl,_,_⟩:=ak a;clear u
    go_wp2_with (first
     | (go_at_call 96;refine(UI.out _).mono ?_;rintro e w5⟨rfl,rfl⟩)
     | (at_builtin;refine Va rfl _ _ 35 rfl o.heap.size aN _ 4 bW (.slice D 0 z) 0 _ rfl a (.int .i32 (c:Nat)) (.int .i32 ((c+1:Nat):Int)) rfl rfl rfl (by omega) (by unfold maxLen;omega) _ (gO _ _) s.size ?_;intro v1 w6 p mF;obtain⟨a6,c6,rfl,_,_⟩:=ak p))
    go_roundw
    case rel=>
     refine⟨j+1,by omega,by simp,?_,s.trans mF⟩;rw[HT.out];exact p
    case measure=>simp[intOf];omega
   obtain⟨k,rfl⟩:∃k,m=k+1:=⟨m-1,by omega⟩;have hz:decide ((0:Int)<((k+1:Nat):Int))=true:=by simp
   obtain⟨g,z,rfl⟩:=ownsRow_succ a;have f:k<O.length:=by omega
   obtain⟨ck,fk⟩:=jY a (j:=k) (by simpa using f);rw[dR _ _ f] at ck;have hd:=(a.lt g rfl).1;have ad:=aa (λ(h:O[k]=c)=>Vb (O:=O) (c:=c) (by omega) (by simpa [<-u] using h))
   have Z:=aa (show O[k]≠c->lu O c=O++[c,c+1] from λh=>by
    unfold lu;rw[if_neg];intro h1;have h2:=(last_at (by omega)).1 h1;simp only[<-u,tg] at h2
    exact h h2)
   have HM:=aa u;by_cases T:O[k]=c
   ·have zq:((O[k]:Int)==(c:Int))=true:=by simp;omega
    generalize O[k]=q at *;obtain⟨p,M4⟩:=a.stored k (.int .i32 ((c+1:Nat):Int));have ab:=aa p;have am:=aa M4;clear u p M4 a f;go_wp2_with (go_at_call 96;refine(UI.out _).mono ?_;rintro e w5⟨rfl,rfl⟩);go_roundw
    case rel=>
     refine⟨j+1,by omega,by simp,?_,s.trans (aj (gO _ _) hd)⟩;rw[HT.out,ad.out T,mN,<-HM.out,tg];have:=ab.out;simpa [aM,tt] using this
    case measure=>simp[intOf];omega
   have zq:((O[k]:Int)==(c:Int))=false:=by simp;omega
   generalize O[k]=q at *;clear u f
   go_wp2_with (first
    | (go_at_call 96;refine(UI.out _).mono ?_;rintro e w5⟨rfl,rfl⟩)
    | (at_builtin;refine Va rfl _ _ 35 rfl o.heap.size aN _ 4 bW (.slice (some ⟨g,0,none⟩) (k+1) z) (k+1) _ rfl a (.int .i32 (c:Nat)) (.int .i32 ((c+1:Nat):Int)) rfl rfl rfl (by omega) (by unfold maxLen;omega) _ (gO _ _) s.size ?_;intro v1 w6 p mF;obtain⟨a6,c6,rfl,_,_⟩:=ak p))
   go_roundw
   case rel=>
    refine⟨j+1,by omega,by simp,?_,s.trans mF⟩;rw[HT.out,Z.out T,d',<-HM.out,a_];exact p
   case measure=>simp[intOf];omega
  have zj:=gI (show n<=j by omega);obtain rfl:j=n:=by omega
  have hT:S.take j=S:=ie (by have:=HN.out;omega);rw[hT] at a;rw[show S.foldl lu []=lC S from rfl] at a;obtain⟨D,z,rfl,_,_⟩:=ak a;have X:=k3.mono s;have e0:=X.at 0 rfl;have f0:=X.frozen 0;have C:=aa a;clear a hT;go_wp2
  (try simp only[Exit.inBlock,Exit.then])
  have P:=X.set 0 (.slice D (lC S).length z);have v0:=P.at 0 rfl;refine bodyPost_ret (v:=.agg #[.slice D (lC S).length z]) (by simp[results,results115,go_sem,v0]) rfl ?_;have T:=bn C.out (Go.Cd.aQ C.out (k:=w.heap.size) (by omega)) 0 (.slice D (lC S).length z);rw[<-ac.out];exact⟨_,rfl,aT T (show w.heap.size<=o.heap.size by omega),aj (ag.trans (s.mono (by omega))) (gw _)⟩
end Go.Proofs.YtmnimbnojdndmaaGreatDoor
namespace Go.Proofs.YtmnimbnojdndmaaGreatDoor
open Go.RowKit Go.Cd Go.Shelf
def aa_ (T:List aG):Nat->Int
 | 0=>-1
 | k+1=>match T[k]? with|some r=>(r.code:Int)|none=>-1
def uE {T:List aG} {k:Nat} (h:k<T.length):aa_ T (k+1)=(T[k].code:Nat):=by
 show(match T[k]? with|some r=>(r.code:Int)|none=>-1)=_;rw[gA h]
def jy:∀{T:List aG},rising T->∀(i k:Nat) (b:i<T.length) (a:k<T.length),i<k->T[i].code<T[k].code
 | r::T,h,0,k+1,_,a,_=>h.1 _ (gx (by simpa using a))
 | r::T,h,i+1,k+1,b,a,hlt=>jy h.2 i k (by simpa using b) (by simpa using a) (by omega)
def J9 {T:List aG} (h:rising T) (j:Nat) (a:j<T.length):aa_ T j<(T[j].code:Nat):=by
 cases j with
 | zero=>show(-1:Int)<_;omega
 | succ k=>
   have:=jy h k (k+1) (by omega) a (by omega);rw[uE (by omega)];omega
structure NG (T:List aG):Prop where
 ok:∀r∈T,Bq r
 says:∀r∈T,r.cls≠0\/r.map≠[]
 chr:∀r∈T,aP r.code
 rise:rising T
 len:T.length<40000
end Go.Proofs.YtmnimbnojdndmaaGreatDoor
namespace Go.Proofs.YtmnimbnojdndmaaGreatDoor
open Go.RowKit Go.Cd _root_.Go.Proofs.Tryz
variable {w:World} {v:Value} {T:List aG}
def GX (l:List Nat) (c:Nat) (o:bG w v (aM l)) (p:fU v) (q:l.length<1000000) (m:c∉l) :
 Calls prog 189 #[v,.int .i32 c] w λe w'=>e=.returned (.bool false)/\w'=w:=by
 obtain⟨a,cap,rfl,_,f⟩:=bG.nN o rfl;rcases l with _|⟨x,l⟩
 ·exact AnyE.slices_Contains_empty Tryz.tC a cap (.int .i32 c) w
 obtain⟨b,off,rfl,_,_⟩:=f 0 (by simp)
 have h:=AnyE.slices_Contains Tryz.tC JZ (λx y=>decide (x=y)) (ae_ _ _) b off (x::l).length cap (x::l) c w (gw _) (by omega) (λj d=>by
  obtain⟨r,g,k,_,n⟩:=f j d;cases k;rw[n,getElem!_pos (x::l) j d]
  rfl)
 refine se (h:Calls prog 189 #[.slice (some ⟨b,off,none⟩) (x::l).length cap,.int .i32 c] w _) ?_;rintro e w'⟨rfl,rfl⟩;refine⟨?_,rfl⟩;rw[kO];congr 2;rw[zv];intro y i;simp only[decide_eq_true_eq];rintro rfl;exact m i
def J_ (c:Nat) (b:aP c) (l:List Nat) (d:bG w v (aM l)) (g:fU v) (m:l.length<1000000) (h:c∉l) :
 Calls prog 151 #[.string (tx (aV c)),v] w λe w'=>e=.returned (.tuple #[.int .i32 c,.string ⟨#[]⟩])/\w'=w:=by
 have j:=aa (qJ (w:=w) c b.1);have i:=aa (gZ (w:=w) c (by have:=b.1;omega));rw[decide_eq_true b] at i;have k:=aa (GX l c d g m h);generalize tx (aV c)=s at *;obtain⟨a,cap,rfl,_,_⟩:=bG.nN d rfl;clear d g h b;go_enter func151,ntmps151
 go_wp2_with (first
  | (go_at_call 188;refine j.out.mono ?_;rintro e f⟨rfl,rfl⟩)
  | (go_at_call 96;refine i.out.mono ?_;rintro e f⟨rfl,rfl⟩)
  | (go_at_call 189;refine k.out.mono ?_;rintro e f⟨rfl,rfl⟩))
 go_ret2;exact⟨rfl,rfl⟩
def rY:∀(l a:List Nat) (x:Nat),x∈dW a l↔x∈l/\x∉a
 | [],a,x=>by simp[dW]
 | c::l,a,x=>by
   unfold dW;have g:=rY l (a++[c]) x;by_cases h:c∈a
   ·rw[if_pos h,g];simp only[gR,jf,km,or_false];constructor
    ·rintro⟨b,d⟩;exact⟨.inr b,λf=>d (.inl f)⟩
    rintro⟨b|b,d⟩
    ·subst b;exact absurd h d
    exact⟨b,λf=>f.elim d (λe=>by subst e;exact d h)⟩
   rw[if_neg h,jf,g];simp only[gR,jf,km,or_false];constructor
   ·rintro (b|⟨b,d⟩)
    ·subst b;exact⟨.inl rfl,h⟩
    exact⟨.inr b,λf=>d (.inl f)⟩
   rintro⟨b|b,d⟩
   ·exact .inl b
   by_cases e:x=c
   ·exact .inl e
   exact .inr ⟨b,λf=>f.elim d e⟩
def qP:∀(l a:List Nat),(dW a l).Nodup
 | [],a=>by simp[dW]
 | c::l,a=>by
   unfold dW;by_cases h:c∈a
   ·rw[if_pos h];exact qP l _
   rw[if_neg h,t_];exact⟨λb=>by have:=((rY l (a++[c]) c).1 b).2;simp at this,qP l _⟩
def xY:∀(l a:List Nat),(dW a l).length<=l.length
 | [],a=>by simp[dW]
 | c::l,a=>by
   unfold dW;have:=xY l (a++[c]);by_cases h:c∈a
   ·rw[if_pos h,hU];omega
   rw[if_neg h,hU,hU];omega
def kE (X:List Nat):List Nat:=lC (gu (dW [] X))
def Rp (X:List Nat) (c:Nat):places (kE X) c % 2=1↔c∈X:=by
 unfold kE;rw[JA (lq _).1,(lq _).2,rY];simp
def NH (X:List Nat):(kE X).Pairwise (· < ·):=Ey (lq _).1
def Rq (X:List Nat):(kE X).length<=2*X.length:=by
 have:=AZ (gu (dW [] X));have:=xR (dW [] X);have:=xY X [];unfold kE;omega
def GY (hG:dL w) {X:List Nat} (hX:∀c∈X,aP c) (L:X.length<10000) :
 Calls prog 106 #[.string (tx (eP X))] w λe w'=>∃r:Value,e=.returned (.tuple #[.agg #[r],.nilIface])/\w'.ownsRow w.heap.size aN 1 r (kE X).length (aM (kE X))/\Below w.heap.size w w':=by
 obtain⟨Y,t⟩:=ae (dW [] X);have ab:Y.length<10000:=by have:=xY X [];rw[<-t] at this;omega
 have GZ:∀c∈Y,aP c:=λc h=>hX c ((rY X [] c).1 (t▸h)).1;have G:Y.Nodup:=by rw[t];exact qP X []
 have B:kE X=lC (gu Y):=by rw[t];rfl
 have F:eP X=bA (Y.map aV):=by rw[t];rfl
 have z:(bA (Y.map aV)).length<1000000:=by
  have:∀l:List Nat,(bA (l.map aV)).length<=l.length*7:=λl=>by
   induction l with
   | nil=>simp[bA]
   | cons c l ih=>
     rw[kt,mY,d',hU,hU];have:=(bU c).2;omega
  have:=this Y;omega
 have LN:=aa (λW=>tT (w:=W) (Y.map aV) (by
  intro p hp;obtain⟨c,_,rfl⟩:=jx.1 hp
  exact⟨λb Q=>(dX c b Q).1,gS (bU c).2 (by decide)⟩) z)
 rw[B,F];obtain⟨s,hs⟩:=ae (tx (bA (Y.map aV)));rw[<-hs] at LN⊢;have M5:=aa GZ;have Z:=aa G;clear hs t GZ G B F z hX L;obtain⟨w0,a⟩:=ae (w.alloc (.cells #[.slice none 0 0] 148));have Q:=aO a;have k0:=Is.nw a;have ag:w0.heap.size=w.heap.size+1:=by rw[a];simp
 obtain⟨n,T⟩:=ae Y.length;have K:=aa T;have I:(Y.map aV).length=n:=by rw[ia,T]
 rw[<-T] at ab;clear T;go_enter func106,ntmps106;go_wp2_with fail;rw[<-a];clear a;refine(LN.out w0).mono ?_;rintro e g⟨v1,rfl,O,d⟩;rw[I] at O;obtain⟨a1,c1,rfl,_,_⟩:=ak O
 have HX:=aa (show ∀i (R:i<Y.length),∃b off,a1=some ⟨b,off,none⟩/\b<g.heap.size/\g.cell? ⟨b,off+i,none⟩=some (.string (tx (aV Y[i]))) from λi R=>by
  obtain⟨a',ac,h0,_,hx⟩:=(Sl.aU O).out;have ha:a'=a1:=by injection h0 with e1;exact e1.symm
  subst ha;obtain⟨b,off,S,h2,h3⟩:=hx i (by simpa using R);refine⟨b,off,S,h2,h3.trans ?_⟩
  simp[qM])
 have k1:=k0.mono d;have N:=af Q d;have ah:w.heap.size+1<=g.heap.size:=by have:=d.size;omega
 clear LN O I k0 Q d;go_wp2_with fail;go_loopw [6,22] (λov iv wr=>∃j:Nat,j<=n/\iv=.int .i64 j/\wr.ownsRow g.heap.size aN 1 ov j (aM (Y.take j))/\Below g.heap.size g wr) (λ_ iv _=>n-(intOf iv).toNat)
 case atStart=>exact⟨0,gW _,rfl,iu _ _ _ _,gO _ _⟩
 case round=>
  obtain⟨j,hj,rfl,m,u⟩:=hrel;by_cases ad:j<n
  ·have zj:=eG (show j<n by omega);have f:j<Y.length:=by have:=K.out;omega
   obtain⟨b,off,rfl,_,M⟩:=HX.out j f;have M:=aB u M;have C:=M5.out _ (gx f);have HT:=aa (show Y.take (j+1)=Y.take j++[Y[j]] from gE f);have E:Y[j]∉Y.take j:=λh=>by
    obtain⟨i,R,e⟩:=lB.1 h;rw[we] at e;rw[iS] at R;exact re.1 Z.out i j (by omega) f (by omega) e
   have ST:=aa (DI ((hG.mono N).mono u) Y[j]);have EC:=aa (λ(W:World) (v:Value) (h:W.ownsRow g.heap.size aN 1 v j (aM (Y.take j)))=>J_ (w:=W) Y[j] C (Y.take j) (Sl.aU h).any (fU.aU h) (by rw[iS];omega) E);obtain⟨S,h2⟩:=bU Y[j];have z1:(tx (aV Y[j])).toList.isEmpty=false:=by
    rw[ph,dM];cases e:aV Y[j] with
    | nil=>rw[e] at S;simp at S
    | cons x r=>rfl
   have z2:(⟨#[]⟩:ByteArray).toList.isEmpty=true:=by rw[ph];rfl
   generalize Y[j]=c at *;generalize tx (aV c)=sc at *;clear E C;obtain⟨av,cv,rfl,_,_⟩:=ak m;go_wp2_with fail;refine ST.out.mono ?_;rintro e w2⟨rfl,H⟩;have y:=aH m H;have J:=af u H;have U:=aa (EC.out w2 _ y);clear ST EC m
   go_wp2_with (first
    | (go_at_call 151;refine U.out.mono ?_;rintro e w3⟨rfl,rfl⟩)
    | (at_builtin;refine f_ rfl _ _ 35 rfl g.heap.size aN _ 4 bW (.slice av j cv) j _ rfl y (.int .i32 (c:Nat)) rfl rfl (by omega) (by unfold maxLen;omega) _ (gO _ _) J.size ?_;intro v1 w6 o6 mF _ _;obtain⟨a6,c6,rfl,_,_⟩:=ak o6))
   go_roundw
   case rel=>
    refine⟨j+1,by omega,by simp,?_,J.trans mF⟩;rw[HT.out,a_];exact o6
   case measure=>simp[intOf];omega
  have zj:=gI (show n<=j by omega);obtain rfl:j=n:=by omega
  rw[ie (by have:=K.out;omega)] at m;obtain⟨av,cv,rfl,_,_⟩:=ak m;have A:=af N u;have q:=Sl.aU m;have o:=fU.aU m;rw[K.out] at q o;have CH:=aa (uD Y q o M5.out (by have:=K.out;omega));rw[<-K.out] at CH;have K1:=k1.mono u;clear m q o;go_wp2_with fail;refine CH.out.mono ?_;rintro e w3⟨r3,rfl,o3,D⟩;have K3:=K1.mono D;obtain⟨a3,V,rfl,_,_⟩:=ak o3;have e0:=K3.at 0 rfl;have f0:=K3.frozen 0;have ai:=u.size;have M6:=aa o3;clear o3;go_wp2
  (try simp only[Exit.inBlock,Exit.then])
  have P:=K3.set 0 (.slice a3 (lC (gu Y)).length V);have v0:=P.at 0 rfl;refine bodyPost_ret (v:=.tuple #[.agg #[.slice a3 (lC (gu Y)).length V],.nilIface]) (by simp[results,results106,go_sem,v0]) rfl ?_;have hq:=bn M6.out (Go.Cd.aQ M6.out (k:=w.heap.size) (by omega)) 0 (.slice a3 (lC (gu Y)).length V);exact⟨_,rfl,aT hq (show w.heap.size<=wr.heap.size by omega),aj (A.trans (D.mono A.size)) (gw _)⟩
def zD (w:World) (v:Value) (T:List aG):Prop:=
 ∃a cap,v=.slice a T.length cap/\T.length<=cap/\∀i (c:i<T.length),∃b off m,a=some ⟨b,off,none⟩/\b<w.heap.size/\
  w.cell? ⟨b,off+i*3,none⟩=some (.int .i32 T[i].code)/\w.cell? ⟨b,off+i*3+1,none⟩=some (.int .i64 T[i].cls)/\w.cell? ⟨b,off+i*3+2,none⟩=some m/\Sl aN w m (aM T[i].map)/\fU m
def zD.mono {w':World} (h:zD w v T) (c:Below w.heap.size w w'):zD w' v T:=by
 obtain⟨a,cap,p,j,h⟩:=h;refine⟨a,cap,p,j,λi k=>?_⟩;obtain⟨b,off,m,f,d,g,o,n,l,e⟩:=h i k;exact⟨b,off,m,f,j9 d c.size,aB c g,aB c o,aB c n,l.mono c,e⟩
def zD.aU {base:Nat} {L:List (aG×Value)} (h:w.ownsRow base h_ 3 v L.length (L.flatMap dY)) (j:∀x∈L,Sl aN w x.2 (aM x.1.map)/\fU x.2):zD w v (L.map (·.1)):=by
 obtain⟨a,cap,rfl,m,_⟩:=ak h;refine⟨a,cap,by rw[ia],by rw[ia];exact m,λi n=>?_⟩;have b:i<L.length:=by simpa using n
 obtain⟨g,d,q,_,k,_,c⟩:=dC Bu rfl h b;cases q;obtain⟨l,p⟩:=j _ (gx b);have o:=(c 0 (by decide)).1;have e:=(c 1 (by decide)).1;have f:=(c 2 (by decide)).1;refine⟨g,0,L[i].2,rfl,k,?_,?_,?_,?_,p⟩
 ·rw[kh];simpa [dY] using o
 ·rw[kh];simpa [dY] using e
 ·rw[kh];simpa [dY] using f
 simpa using l
def qQ (w:World) (v:Value) (T:List aG) (X:List Nat):Prop:=∃r x,v=.agg #[r,x]/\zD w r T/\bG w x (aM (kE X))
def qQ.mono {w':World} {X:List Nat} (h:qQ w v T X) (a:Below w.heap.size w w'):qQ w' v T X:=by
 obtain⟨r,x,c,d,b⟩:=h;exact⟨r,x,c,d.mono a,b.mono a⟩
def nP (T:List aG) (c:Nat):aG:=(rowOf T c).getD ⟨0,0,[]⟩
def G5 (T:List aG) (c:Nat):ai T c=(nP T c).cls:=by
 unfold ai nP;cases rowOf T c <;> rfl
def Ka (a b:Int) (m:Value) (c:Int) (h:0<=a/\a<2147483648) (i:0<=c/\c<2147483648) :
 Calls prog 228 #[.agg #[.int .i32 a,.int .i64 b,m],.int .i32 c] w λe w'=>e=.returned (.int .i64 (a-c))/\Below w.heap.size w w':=by
 have d:=ah (w:=w) (.cells #[.int .i32 a,.int .i64 b,m] 196);have f:=Is.new w #[.int .i32 a,.int .i64 b,m] 196;have:=f.at 0 rfl;go_enter func228,ntmps228;go_wp2;go_ret;exact⟨rfl,d⟩
def Fg {c k:Nat} (d:k<T.length) (e:∀t (a:t<T.length),t<k->T[t].code<c) (h:T[k].code=c):rowOf T c=some T[k]:=by
 refine Ba d (λr b=>?_) h;obtain⟨t,a,rfl⟩:=lB.1 b;rw[iS] at a;rw[we];have:=e t (by omega) (by omega);omega
def Bw {c k:Nat} (f:rising T) (b:∀t (a:t<T.length),t<k->T[t].code<c) (e:∀t (a:t<T.length),k<=t->c<=T[t].code) (h:∀i:k<T.length,T[k].code≠c):rowOf T c=none:=by
 refine oV λr d=>?_;obtain⟨t,a,rfl⟩:=lB.1 d;rcases pZ t k with h3|h3|h3
 ·have:=b t a h3;omega
 ·subst h3;exact h a
 have:=jy f k t (by omega) a h3;have:=e k (by omega) (gw _);omega
def acb (h:zD w v T) (Z:rising T) (Y:∀r∈T,r.code<1114112) (hl:T.length<1000000) (c:Nat) (hc:c<1114112) :
 Calls prog 227 #[v,.int .i32 c,.func (.func 228) #[] #[]] w λe w'=>
  ∃k:Nat,e=.returned (.tuple #[.int .i64 k,.bool (rowOf T c).isSome])/\((rowOf T c).isSome=true->rowOf T c=T[k]?)/\Below w.heap.size w w':=by
 obtain⟨a,cap,rfl,_,X⟩:=h;have U:=aa X;obtain⟨n,D⟩:=ae T.length;have F:=aa D;have E:=aa Z;have V:=aa Y;rw[<-D] at hl⊢;clear X D Z Y;go_enter func227,ntmps227;go_wp2
 go_loopg [9,10] n (λg s7 s8 wr=>∃f d:Nat,s7=.int .i64 f/\s8=.int .i64 d/\f<=d/\d<=n/\d-f<=g/\Below w.heap.size w wr/\(∀t (j:t<T.length),t<f->T[t].code<c)/\(∀t (j:t<T.length),d<=t->c<=T[t].code))
 case atStart=>exact⟨0,n,rfl,rfl,gW _,gw _,by omega,gO _ _,λt _ j=>absurd j (tU _),λt P G=>by have:=F.out;omega⟩
 case round=>
  obtain⟨f,d,rfl,rfl,ac,J,hg,o,P,G⟩:=hrel;have I:=aa (And.intro P G);clear P G;by_cases ab:f<d
  ·have s:(f+d) / 2<T.length:=by have:=F.out;omega
   obtain⟨b,off,m,rfl,_,A,B,C,K,x⟩:=U.out ((f+d) / 2) s;have A:=aB o A;have B:=aB o B;have C:=aB o C;have N:=V.out _ (gx s);obtain⟨Q,nm,R,rfl,_⟩:=x;have z:=aa (λW=>Ka (w:=W) (T[(f+d) / 2].code:Nat) (T[(f+d) / 2].cls:Nat) (.slice Q nm R) (c:Nat) ⟨by omega,by omega⟩ ⟨by omega,by omega⟩);have Y1:=aa (λt (j:t<T.length) (h:t<(f+d) / 2)=>jy E.out t _ j s h);have Y2:=aa (λt (j:t<T.length) (h:(f+d) / 2<t)=>jy E.out _ t s j h);have S:=aa (show ∀t (j:t<T.length),t=(f+d) / 2->T[t].code=T[(f+d) / 2].code from λt j e=>by subst e;rfl);clear K;generalize T[(f+d) / 2].code=y at *;generalize T[(f+d) / 2].cls=yc at *;by_cases p:y<c
   ·have O:decide ((y:Int)-(c:Int)<0)=true:=by simp;omega
    go_wp2_with (go_at_call 228;refine(z.out _).mono ?_;rintro e H⟨rfl,l⟩)
    go_roundg (d-((f+d) / 2+1))
    case measure=>omega
    case rel=>
     refine⟨(f+d) / 2+1,d,by rw[show((f:Int)+(d:Int)) / 2+1=(((f+d) / 2+1:Nat):Int) by omega],rfl,by omega,J,gw _,af o l,λt j h=>?_,I.out.2⟩;rcases j' t ((f+d) / 2) with h3|h3
     ·have:=Y1.out t j h3;omega
     have:=S.out t j (by omega);omega
   have O:decide ((y:Int)-(c:Int)<0)=false:=by simp;omega
   go_wp2_with (go_at_call 228;refine(z.out _).mono ?_;rintro e H⟨rfl,l⟩)
   go_roundg ((f+d) / 2-f)
   case measure=>omega
   case rel=>
    refine⟨f,(f+d) / 2,rfl,by rw[show((f:Int)+(d:Int)) / 2=(((f+d) / 2:Nat):Int) by omega],by omega,by omega,gw _,af o l,I.out.1,λt j h=>?_⟩;rcases j' ((f+d) / 2) t with h3|h3
    ·have:=Y2.out t j h3;omega
    have:=S.out t j (by omega);omega
  have:d=f:=by omega
  subst this;by_cases D:d<n
  ·have s:d<T.length:=by have:=F.out;omega
   obtain⟨b,off,m,rfl,_,A,B,C,K,x⟩:=U.out d s;have A:=aB o A;have B:=aB o B;have C:=aB o C;have N:=V.out _ (gx s);obtain⟨Q,nm,R,rfl,_⟩:=x;have z:=aa (λW=>Ka (w:=W) (T[d].code:Nat) (T[d].cls:Nat) (.slice Q nm R) (c:Nat) ⟨by omega,by omega⟩ ⟨by omega,by omega⟩);clear K;have M:=aa (show T[d].code=c->rowOf T c=some T[d] from λh=>Fg s I.out.1 h);have L:=aa (show T[d].code≠c->rowOf T c=none from λh=>Bw E.out I.out.1 I.out.2 (λ_=>h));have R3:=aa (show some T[d]=T[d]? from (gA s).symm);have R4:∃y,y=T[d].code:=⟨_,rfl⟩;generalize T[d]=q at *;by_cases p:q.code=c
   ·have O:(((q.code:Int)-(c:Int))==0)=true:=by simp;omega
    have i:=M.out p;have u:=aa i;clear i p M L;go_wp2_with (go_at_call 228;refine(z.out _).mono ?_;rintro e H⟨rfl,l⟩);go_ret2;refine⟨d,?_,λ_=>by rw[u.out,R3.out],af o l⟩;rw[u.out];rfl
   have O:(((q.code:Int)-(c:Int))==0)=false:=by simp;omega
   have i:=L.out p;have u:=aa i;clear i p M L;go_wp2_with (go_at_call 228;refine(z.out _).mono ?_;rintro e H⟨rfl,l⟩);go_ret2;refine⟨d,?_,λh=>?_,af o l⟩
   ·rw[u.out];rfl
   rw[u.out] at h;cases h
  have u:=aa (Bw E.out I.out.1 I.out.2 (λhk=>absurd hk (by have:=F.out;omega)));go_wp2_with (go_at_call 228;trivial);go_ret2;refine⟨d,?_,λh=>?_,o⟩
  ·rw[u.out];rfl
  rw[u.out] at h;cases h
end Go.Proofs.YtmnimbnojdndmaaGreatDoor
