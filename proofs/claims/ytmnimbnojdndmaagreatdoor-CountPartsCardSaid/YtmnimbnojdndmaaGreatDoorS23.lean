/- State by state it is added up what is possible; no condition. -/
import Derived.Test.YtmnimbnojdndmaaGreatDoorS22
import Derived.OrdersIn
set_option maxRecDepth 100000
set_option maxHeartbeats 6400000
set_option linter.all false
namespace Go.Proofs.YtmnimbnojdndmaaGreatDoor
section
open Go.RowKit Go.Cd
theorem aau {T:List aG} {X:List Nat} (hV:aY T X) {b:Nat} (h:CQ T b=false) (c:Nat):b∉(aD T c).drop 1:=by
 unfold CQ at h;rw [sx,sx,decide_eq_false_iff_not] at h;obtain ⟨h1,h2,h3⟩:=h;intro hb;by_cases hk4:hk c<4
 ·by_cases hm:mapOf T c=[]
  ·rw [Tw hm] at hb;simp at hb
  ·refine h1 ?_;unfold yI;have hr:∃r,rowOf T c=some r∧r.map≠[]:=by
    unfold mapOf at hm;rw [if_pos hk4] at hm;unfold bP at hm;cases e:rowOf T c with
    | none=>rw [e] at hm;exact absurd rfl hm
    | some r=>rw [e] at hm;exact ⟨r,rfl,hm⟩
   obtain ⟨r,hr,hne⟩:=hr;obtain ⟨hrT,hrc⟩:=gy hr;refine lP.2 ⟨r,?_,by rw [hrc];exact hb⟩;unfold mapped;refine i_.2 ⟨hrT,?_⟩;cases e:r.map with
   | nil=>exact absurd e hne
   | cons _ _=>rfl
 ·rw [(qX hV (by omega)).1] at hb;have n2:hk b≠2:=fun e=>by rw [e] at h2;simp at h2
  have n3:hk b≠3:=fun e=>by rw [e] at h3;simp at h3
  have e1:=mS (c-44032) (show 28 > 0 by decide);have e2:(c-44032) % 588 / 28<21:=by omega
  have hv:∀k,k<21->hk (4449+k)=2:=fun k hk=>by unfold Go.Cd.hk;rw [if_neg (by omega),if_pos (by omega)]
  have ht:∀k,0<k->k<28->hk (4519+k)=3:=fun k h0 hk=>by unfold Go.Cd.hk;rw [if_neg (by omega),if_neg (by omega),if_pos (by omega)]
  unfold hparts at hb;by_cases h4:hk c=4
  ·rw [if_pos h4] at hb;simp at hb;exact n2 (by rw [hb];exact hv _ e2)
  ·rw [if_neg h4,if_pos (by have:=vU c;omega)] at hb;have h5:hk c=5:=by have:=vU c;omega
   have h0:0<(c-44032) % 28:=by rw [kI] at h5;omega
   simp at hb;rcases hb with hb|hb
   ·exact n2 (by rw [hb];exact hv _ e2)
   ·exact n3 (by rw [hb];exact ht _ h0 e1)
section
variable {K : Nat -> Nat}
theorem Iu {b:Nat} (hb:K b=0) (t:List Nat):∀(A:List Nat) (p:Nat),pV K p (A++b::t)=pV K p A
 | [],p=>by
   show (if K b=0 then _ else _)=[];rw [if_pos hb]
 | a::A,p=>by
   show (if K a=0 then [] else if K a=p then pV K p (A++b::t) else a::pV K (K a) (A++b::t))=(if K a=0 then [] else if K a=p then pV K p A else a::pV K (K a) A);rw [Iu hb t A p,Iu hb t A (K a)]
theorem aav {b:Nat} (hb:K b=0) (t:List Nat) {A:List Nat} (hA:A≠[]):Pk K (A++b::t)=Pk K A:=by
 cases A with
 | nil=>exact absurd rfl hA
 | cons a A=>
   show (if K a=0 then [a] else pV K 0 ((a::A)++b::t))=(if K a=0 then [a] else pV K 0 (a::A));rw [Iu hb]
theorem Iw {b c:Nat} (hb:K b=0) (t:List Nat):∀A:List Nat,(A≠[]∨c≠b)->fE K c (A++b::t)=(fE K c A).map (·++b::t)
 | [],h=>by
   have hc:c≠b:=h.resolve_left fun e=>e rfl;show (if K c=0 then (if b=c then some t else none) else if K b=0 then none else _)=none;rw [if_pos hb,if_neg (pr hc),ite_self]
 | a::A,_=>by
   by_cases hA:A=[]
   ·subst hA;have e0:K c≠0->fE K c ([]++b::t)=none:=fun h=>by
     show (if K c=0 then _ else if K b=0 then none else _)=_;rw [if_neg h,if_pos hb]
    show (if K c=0 then (if a=c then some ([]++b::t) else none) else if K a=0 then none else if K a<K c then (fE K c ([]++b::t)).map (a::·) else if a=c then some ([]++b::t) else none)=(if K c=0 then (if a=c then some [] else none) else if K a=0 then none else if K a<K c then (fE K c []).map (a::·) else if a=c then some [] else none:Option (List Nat)).map (·++b::t);by_cases h0:K c=0
    ·rw [if_pos h0,if_pos h0];split <;> rfl
    ·rw [if_neg h0,if_neg h0,e0 h0];show _=Option.map (·++b::t) (if K a=0 then none else if K a<K c then none else if a=c then some [] else none)
     split
     ·rfl
     ·split
      ·rfl
      ·split <;> rfl
   ·have ih:=Iw (c:=c) hb t A (.inl hA);show (if K c=0 then (if a=c then some (A++b::t) else none) else if K a=0 then none else if K a<K c then (fE K c (A++b::t)).map (a::·) else if a=c then some (A++b::t) else none)=(if K c=0 then (if a=c then some A else none) else if K a=0 then none else if K a<K c then (fE K c A).map (a::·) else if a=c then some A else none:Option (List Nat)).map (·++b::t);rw [ih]
    split
    ·split <;> rfl
    ·split
     ·rfl
     ·split
      ·cases fE K c A <;> rfl
      ·split <;> rfl
theorem Mh {b:Nat} (hb:K b=0) (t:List Nat):∀(F A:List Nat),(∀y∈F,y≠b)->F.foldlM (fun r c=>fE K c r) (A++b::t)=(F.foldlM (fun r c=>fE K c r) A).map (·++b::t)
 | [],_,_=>rfl
 | y::F,A,h=>by
   rw [oB,oB];show (fE K y (A++b::t)).bind _=_;rw [Iw hb t A (.inr (h y (by simp)))];cases fE K y A with
   | none=>rfl
   | some A'=>exact Mh hb t F A' fun z hz=>h z (kq _ hz)
end
variable {T:List aG} {X l:List Nat}
theorem Mi (hV:aY T X) {b:Nat} (hb:ai T b=0) (hi:CQ T b=false) (t:List Nat) (c:Nat) {A:List Nat} (hA:A≠[]):vk T c (A++b::t)=(vk T c A).map (·++b::t):=by
 unfold vk;have hn:=aau hV hi c;cases e:aD T c with
 | nil=>exact absurd e (pF T c)
 | cons y F=>
   rw [e] at hn;rw [oB,oB];show (fE (ai T) y (A++b::t)).bind _=_;rw [Iw hb t A (.inl hA)];cases fE (ai T) y A with
   | none=>rfl
   | some A'=>exact Mh hb t F A' fun z hz=>fun e=>hn (by rw [<-e];exact hz)
theorem WV (hV:aY T X) {b:Nat} (hb:ai T b=0) (hi:CQ T b=false) (t:List Nat):∀(n:Nat) (A:List Nat),A.length<=n->oI T (A++b::t)=oI T A*oI T (b::t):=by
 intro n
 induction n with
 | zero=>
   intro A h;rw [tG (Nat.le_zero.1 h),lf,xh,sr]
 | succ n ih=>
   intro A h;by_cases hA:A=[]
   ·rw [hA,lf,xh,sr]
   ·rw [CY (by simp),CY hA];have ho:Ir T (A++b::t)=Ir T A:=by
     unfold Ir;rw [aav hb t hA];refine congrArg b_ (congrArg (fun f=>(Pk (ai T) A).flatMap f) (funext fun x=>congrArg (fun f=>(uY T x).filter f) (funext fun c=>?_)));rw [Mi hV hb hi t c hA];cases vk T c A <;> rfl
    rw [ho];have hsum:∀(l:List Nat) (f g:Nat->Nat) (k:Nat),(∀c,f c=g c*k)->(l.map f).sum=(l.map g).sum*k:=fun l f g k hfg=>by
     induction l with
     | nil=>simp
     | cons c l ih=>rw [lj,oS,lj,oS,mw,ih,hfg]
    refine hsum _ _ _ _ fun c=>?_;rw [Mi hV hb hi t c hA];cases hd:vk T c A with
    | none=>simp
    | some r=>exact ih r (by have:=xg hd;omega)
theorem Pm {ap:Nat->Bool} (l:List Nat):∀u∈(bf ap l).tail,∃c t,u=c::t∧ap c=true:=by
 have key:∀(l:List Nat) (o:List (List Nat)),(∀u∈o,u≠[])->(∀u∈o.tail,∃c t,u=c::t∧ap c=true)->∀u∈(l.foldl (fZ ap) o).tail,∃c t,u=c::t∧ap c=true:=by
  intro l
  induction l with
  | nil=>intro o _ h;exact h
  | cons c l ih=>
    intro o hne h;refine ih (fZ ap o c) ?_ ?_
    ·unfold fZ
     split
     ·intro u hu;rcases ie.1 hu with hu|hu
      ·exact hne u hu
      ·rw [gE.1 hu];simp
     ·intro u hu;rcases ie.1 hu with hu|hu
      ·exact hne u (tI _ hu)
      ·rw [gE.1 hu];simp
    ·unfold fZ;by_cases ho:o=[]
     ·subst ho;rw [if_pos (.inl rfl)];intro u hu;simp at hu
     ·obtain ⟨x,q,rfl⟩:∃x q,o=x::q:=by cases o with|nil=>exact absurd rfl ho|cons x q=>exact ⟨x,q,rfl⟩
      by_cases ha:ap c=true
      ·rw [if_pos (.inr ha)];intro u hu;rcases ie.1 (show u∈q++[[c]] from hu) with hu|hu
       ·exact h u hu
       ·exact ⟨c,[],gE.1 hu,ha⟩
      ·rw [if_neg (by simp [ha])];cases q with
       | nil=>intro u hu;simp at hu
       | cons y q=>
         intro u hu;have hu2:u∈(y::q).dropLast++[((y::q).getLastD [])++[c]]:=by
          have e1:(x::y::q).dropLast=x::(y::q).dropLast:=rfl;have e2:(x::y::q).getLastD []=(y::q).getLastD []:=by simp [re]
          rw [e1,e2] at hu;exact hu
         rcases ie.1 hu2 with hu|hu
         ·exact h u (tI _ hu)
         ·rw [gE.1 hu];have hl:(y::q).getLastD []∈(y::q):=by
           rw [re,rL (by simp)];exact List.getLast_mem _
          obtain ⟨c',t',e,ha'⟩:=h _ hl;exact ⟨c',t'++[c],by rw [e];rfl,ha'⟩
 exact key l [] (fun u hu=>by cases hu) (fun u hu=>by cases hu)
theorem Pn (x:Nat) (l:List Nat):dU (x::l)=x*dU l:=by
 have:∀(l:List Nat) (x y:Nat),l.foldl (·*·) (x*y)=x*l.foldl (·*·) y:=fun l=>by
  induction l with
  | nil=>intro x y;rfl
  | cons z l ih=>intro x y;rw [ot,ot,qu,ih]
 unfold dU;rw [ot,sr];have:=this l x 1
 rwa [qt] at this
theorem Mj (hV:aY T X):∀us:List (List Nat),(∀u∈us.tail,∃c t,u=c::t∧ai T c=0∧CQ T c=false)->oI T us.flatten=dU (us.map (oI T))
 | [],_=>rfl
 | [u],_=>by simp [dU]
 | u::v::us,h=>by
   obtain ⟨c,t,e,h0,hi⟩:=h v (by simp);have ih:=Mj hV (v::us) fun w hw=>h w (kq _ hw);have e1:(v::us).flatten=c::(t++us.flatten):=by rw [vu,e];rfl
   rw [vu,e1,WV hV h0 hi _ _ u (d' _),<-e1,ih];show _=dU (oI T u::(v::us).map (oI T));rw [Pn]
theorem Tx (hV:aY T X) (hl:nG T l):oI T l=dU ((bf (kF T) l).map (oI T)):=by
 have h:=Mj hV (bf (kF T) l) (fun u hu=>by
  obtain ⟨c,t,e,ha⟩:=Pm l u hu;have hc:c∈l:=sH (List.mem_of_mem_tail hu) c (by rw [e];simp);have hf:=hl.leaf c hc;unfold kF at ha;rw [hf,js] at ha;obtain ⟨h1,h2⟩:=ha
  exact ⟨c,t,e,by simpa using h1,by simpa using h2⟩)
 rwa [gH] at h
def aaw (T:List aG) (us:List (List Nat)):Nat:=dU (us.map fun u=>(l6 T u).getD 0 0)
theorem WW (hl:nG T l) {u:List Nat} (hu:u∈bf (kF T) l):nG T u:=
 ⟨fun x hx=>hl.leaf x (sH hu x hx),vg (by rw [gH];exact hl.ord) u hu⟩
theorem CZ (hV:aY T X) (hl:nG T l):aaw T (bf (kF T) l)=oI T l:=by
 rw [Tx hV hl];unfold aaw;refine congrArg dU (mL fun u hu=>?_);exact yJ (WW hl hu)
end
open Go.RowKit Go.Cd _root_.Go.Proofs.Tryz
variable {w:World} {v:Value} {B dp i g x:Nat} {K:Nat->Nat} {l:List Nat}
def OU {bs:List Nat} (h:gB w v bs) (f:∀b∈bs,1<=b) (l:aW bs<=1073741824) (O:bs.length<1099511627776) (i:Int) :
 Calls prog 63 #[v,.int .i64 i] w λe w'=>∃r,e=.returned (.tuple #[r,.bool (decide (0<=i/\i<(aW bs:Nat)))])/\Below w.heap.size w w'/\
  (0<=i/\i<(aW bs:Nat)->w'.ownsRow w.heap.size bB 1 r bs.length (ds (Cn bs i.toNat)))/\(¬(0<=i/\i<(aW bs:Nat))->r=.slice none 0 0):=by
 have L:=h;obtain⟨D,C,M,I,rfl,_⟩:=h.out;have B:=ah (w:=w) (.cells #[.slice D bs.length C,.slice M bs.length I,.int .i64 (aW bs:Nat)] dh);have P:qj (w.alloc (.cells #[.slice D bs.length C,.slice M bs.length I,.int .i64 (aW bs:Nat)] dh)) w.heap.size (.slice D bs.length C) (.slice M bs.length I) (.int .i64 (aW bs:Nat)) dh:=⟨heap_alloc_new' _ _ _ rfl⟩;obtain⟨e0,e1,e2⟩:=P.cell;have y:=aa (aga (L.mono B) f l i);have R:=aa (λ(W:World) (E:Below w.heap.size w W) (n j:Nat) (H:n<aW bs) (Y:j<bs.length)=>Wo (L.mono E) f l H Y);clear h L f;by_cases g:0<=i/\i<(aW bs:Nat)
 ·obtain⟨n,rfl⟩:∃n:Nat,i=n:=⟨i.toNat,by omega⟩;have H:n<aW bs:=by omega
  have a:decide (0<=(n:Int)/\(n:Int)<(aW bs:Nat))=true:=decide_eq_true g;rw[a] at y⊢;have K:=aa g;have t:=aa (uT bs n);clear a g;go_enter func63,ntmps63;go_wp2_with fail;refine y.out.mono ?_;rintro e s⟨rfl,x⟩;have N:=P.mono x;have c:=af B x;obtain⟨f0,f1,f2⟩:=N.cell;go_wp2_with fail;have:=c.size;go_loopw [6,15] (λo i wr=>∃k:Nat,k<=bs.length/\i=.int .i64 k/\wr.ownsRow s.heap.size bB 1 o k (ds ((Cn bs n).take k))/\Below s.heap.size s wr)
   (λ_ i _=>bs.length-(intOf i).toNat)
  case atStart=>exact⟨0,ic _,rfl,⟨by simp[ds],.inl (by simp)⟩,gS _ _⟩
  case round=>
   obtain⟨k,hk,rfl,F,u⟩:=hrel;obtain⟨T,Z,V⟩:=(N.mono u).cell;by_cases m:k<bs.length
   ·have U:=aa (gR (show k<(Cn bs n).length by rw[t.out];exact m));have z:=aa (R.out wr (c.trans (u.mono c.size)) n k H m);generalize (Cn bs n)[k]'(by rw[t.out];exact m)=d at *;go_wp2_with fail;refine z.out.mono ?_;rintro e w4⟨rfl,Q⟩;have A:=aH F Q;have X:=af u Q;clear T Z V;go_wp2_with (at_builtin;refine gp rfl _ _ 23 rfl s.heap.size bB _ 8 jI _ k _ rfl A _ rfl rfl (by omega) (by unfold maxLen;omega) s X (d' _) ?_;intro v' w' q G);go_roundw
    case rel=>exact⟨k+1,by omega,rfl,by rw[U.out];simpa [ds] using q,G⟩
    case measure=>simp[intOf];omega
   obtain rfl:k=bs.length:=by omega
   go_wp2;go_ret2;have p:(Cn bs n).take bs.length=Cn bs n:=iu (by simp);rw[p] at F;refine⟨_,rfl,c.trans (u.mono c.size),λ_=>?_,λJ=>absurd K.out J⟩;rw[pw];exact aT F c.size
 have a:decide (0<=i/\i<(aW bs:Nat))=false:=decide_eq_false g;rw[a] at y⊢;clear a;go_enter func63,ntmps63;go_wp2_with fail;refine y.out.mono ?_;rintro e s⟨rfl,x⟩;go_wp2;go_ret2;exact⟨_,rfl,af B x,λJ=>absurd J g,λ_=>rfl⟩
def OW {p:Nat} (h:dP w B p dp K l) (hl:l.length<9000) (d:dO (bq K l)<=16384) {s:eZ} (G:AA w v s) (j:eQ (bq K l) s) :
 Calls prog 52 #[.pointer (some ⟨p,0,none⟩),v] w λe w'=>e=.returned (.tuple #[.int .i64 (fK (bq K l) s:Nat),.bool true])/\Below w.heap.size w w':=by
 obtain⟨k,ms⟩:=s;have Z:=fD K l;obtain⟨g,rc,iT,S,Es,M⟩:=h.read;obtain⟨sv,rfl,b⟩:=id G;obtain⟨sa,sc,rfl,_,_⟩:=bG.out b.any;obtain⟨m,hm⟩:=ae ((bO (nz ms)).length);dsimp only at G b⊢;rw[<-hm] at G b⊢;have q:=ah (w:=w) (.cells #[.int .i64 (k:Nat),.slice sa m sc] 54);have O:=aa (rD (h.mono q) hl (G.mono q) j);have c:=Z.2.2 _ (show aL (bq K l) k∈bq K l by rw[df j.lt];exact gw _);have V:aW (kM (aL (bq K l) k))<=16384:=by
  have hk:k<(bq K l).length:=j.lt;rw[<-uV,df hk];have h1:=aae hk;have:=gG (bq K l) (k+1);omega
 have J:=aa (λ(W:World) (E:Below w.heap.size w W) (rv:Value) (hr:gB W rv (kM (aL (bq K l) k)))=>VT hr (b.any.mono E) (by omega) (pQ _) (by have h1:ms.length=(aL (bq K l) k).2.length:=j.len;rw[jF,h1];have:=c.1;omega) (by rw[eO];have:=c.1;omega));have r:=j.vld;dsimp only at r;simp only[r,if_true] at J;have u:=nD j;have a:fK (bq K l) (k,ms)=dO ((bq K l).take k)+gU (kM (aL (bq K l) k)) (nz ms) (kM (aL (bq K l) k)).length:=rfl;dsimp only at O;have A:=M.le;rw[decide_eq_true d] at A;subst A;obtain⟨R,I⟩:=ae (bq K l);simp only[<-I] at Z M O j a u J d⊢;obtain⟨Q,H⟩:=ae (gU (kM (aL R k)) (nz ms) (kM (aL R k)).length);obtain⟨P,t⟩:=ae (dO (R.take k));obtain⟨ix,D⟩:=ae (fK R (k,ms));rw[<-D] at a u⊢;rw[<-H] at a J;rw[<-t] at a;have:ix<16384:=by omega
 have U:=aa t;have ag:=M.is;have ac:=aa d;clear h M b G hm Z c H t D I j r V u d;go_enter func52,ntmps52;go_wp2_with fail;refine O.out.mono ?_;rintro e w1⟨rv,rfl,hW,F⟩;obtain⟨la,lc,x1,m1,y1,x2,m2,y2,z,f,rfl,hL,T⟩:=id hW;obtain⟨y,hf⟩:=T ac.out;have ab:f=(P:Int):=by rw[hf,U.out]
 clear hf;subst ab;obtain⟨n,hn⟩:=ae ((aL R k).2.length);obtain⟨hd,C⟩:=ae ((aL R k).1);rw[<-hn,<-C];have Y:=af q F;have N:=(Is.new w #[.int .i64 (k:Nat),.slice sa m sc] 54).mono F;have o:=ah (w:=w1) (.cells #[.int .i32 hd,.slice la n lc,.slice x1 m1 y1,.slice x2 m2 y2,.int .i64 z,.int .i64 P] eX);have L:=Is.new w1 #[.int .i32 hd,.slice la n lc,.slice x1 m1 y1,.slice x2 m2 y2,.int .i64 z,.int .i64 P] eX;have i:=af Y o;have N:=N.mono o;have:=N.at 1 rfl;have:=L.at 2 rfl;have:=L.at 3 rfl;have:=L.at 4 rfl;have:=(ag.mono i).at 3 rfl;have X:=aa (J.out _ i _ (y.mono o));have K2:=aa L;clear hL hn C O hW y J N L;go_wp2_with fail;refine X.out.mono ?_;rintro e w3⟨rfl,x⟩;have:=(K2.out.mono x).at 5 rfl;have w9:wrap64 ((P:Int)+(Q:Int))=(ix:Int):=by rw[a];unfold wrap64;omega
 have ad:=aa w9;clear a w9;go_wp2;go_ret2;exact⟨by first|rfl|(rw[<-ad.out];rfl),i.trans (x.mono i.size)⟩
def OX {p:Nat} (h:dP w B p dp K l) (hl:l.length<9000) (I:dO (bq K l)<=16384) (aS:i<16384) :
 Calls prog 29 #[.pointer (some ⟨p,0,none⟩),.int .i64 i] w λe w'=>∃v,e=.returned (.tuple #[v,.bool (decide (i<dO (bq K l)))])/\(i<dO (bq K l)->AA w' v (sW (bq K l) i))/\(¬i<dO (bq K l)->v=.agg #[.int .i64 0,.slice none 0 0])/\Below w.heap.size w w':=by
 have hF:=fD K l;obtain⟨g,rc,iT,aG,Es,hR⟩:=h.read;have y:=hR.le;rw[decide_eq_true I] at y;subst y;obtain⟨R,ay⟩:=ae (bq K l);simp only[<-ay] at hF hR I⊢;have ai:∀k (a:k<R.length),∃la lc S M Q N T V z,(∀j<6,w.cell? ⟨g,k*6+j,none⟩=[Value.int .i32 (aL R k).1,.slice la (aL R k).2.length lc,.slice S M Q,.slice N T V,.int .i64 z,.int .i64 (dO (R.take k):Nat)][j]?)/\gB w (.agg #[.slice S M Q,.slice N T V,.int .i64 z]) (kM (aL R k)):=λk a=>by
  obtain⟨la,lc,S,M,Q,N,T,V,z,f,C,_,hW⟩:=hR.at_ a;obtain⟨a2,SX,aR,aV,a1,aY,aZ,aX,z',f',he,_,aC⟩:=hW;obtain⟨s,hf⟩:=aC I;simp only[Ai,AM,oX,and_true,Value.int.injEq,true_and,yr] at he;obtain⟨_,⟨rfl,rfl,rfl⟩,⟨rfl,rfl,rfl⟩,rfl,rfl⟩:=he;subst hf;exact⟨la,lc,S,M,Q,N,T,V,z,C,s⟩
 have J:∀k (a:k<R.length),dO (R.take (k+1))=dO (R.take k)+aW (kM (aL R k))/\aW (kM (aL R k))<=16384/\dO (R.take k)<=16384:=λk a=>by
  have h1:=aae a;have h2:=gG R (k+1);rw[<-uV,df a];omega
 have Z:∀k (a:k<R.length),(kM (aL R k)).length<9000:=λk a=>by
  rw[eO,df a];have:=(hF.2.2 _ (gw a)).1;omega
 have t:∀k (a:k<R.length),dO (R.take k)<=i->i-dO (R.take k)<aW (kM (aL R k))->sW R i=(k,Cn (kM (aL R k)) (i-dO (R.take k))):=λk a h1 h2=>by
  rw[df a] at h2⊢;exact Wp a h1 (by rw[uV];exact h2)
 have SZ:=aa (λ(W:World) (rv:Value) (k:Nat) (a:k<R.length) (s:gB W rv (kM (aL R k)))=>H6 s (pQ _) (ia (J k a).2.1 (by decide)));have DG:=aa (λ(W:World) (rv:Value) (k:Nat) (a:k<R.length) (s:gB W rv (kM (aL R k))) (n:Nat)=>OU s (pQ _) (ia (J k a).2.1 (by decide)) (by have:=Z k a;omega) (n:Int));obtain⟨nr,A⟩:=ae R.length;have:nr<10000:=by rw[A];have:=hF.2.1;omega
 have ac:=hR.is;rw[<-A] at ac;have aM:=aa (show dO (R.take nr)=dO R by rw[A,lB]);have aP:=aa (gG R);have aK:=aa ai;have aE:=aa J;have ab:=aa t;have aH:=aa Z;have Yq:=aa A;have G:=ah (w:=w) (.cells #[.int .i64 0,.slice none 0 0] 54);have k0:=Is.new w #[.int .i64 0,.slice none 0 0] 54;have:=(ac.mono G).at 1 rfl;have:=(ac.mono G).at 3 rfl;have:w.heap.size+1<=(w.alloc (.cells #[.int .i64 0,.slice none 0 0] 54)).heap.size:=by simp
 clear h hF hR ay ai J t Z A I;go_enter func29,ntmps29;go_wp2_with fail;generalize w.alloc (.cells #[.int .i64 0,.slice none 0 0] 54)=w0 at *;go_loopw [6,7,8,26] (λ_ _ _ kv wr=>∃k:Nat,k<=nr/\kv=.int .i64 k/\dO (R.take k)<=i/\Below w0.heap.size w0 wr) (λ_ _ _ kv _=>nr-(intOf kv).toNat)
 case atStart=>exact⟨0,ic _,rfl,by simp[dO],gS _ _⟩
 case round=>
  obtain⟨k,a,rfl,y,hE⟩:=hrel;by_cases a0:k<nr
  ·have d:k<R.length:=by have:=Yq.out;omega
   have zk:=eG (show k<nr by omega);have D:=af G hE;obtain⟨la,lc,S,M,Q,N,T,V,z,C,ad⟩:=aK.out k d;obtain⟨m,am,aF⟩:=aE.out k d;have Wx:=aa (ab.out k d y);obtain⟨fr,ag⟩:=ae (dO (R.take k));obtain⟨hd,au⟩:=ae ((aL R k).1);obtain⟨n,hn⟩:=ae ((aL R k).2.length);have aQ:=SZ.out;obtain⟨bs,ao⟩:=ae (kM (aL R k));have aN:=aH.out k d;have L:=aa (λ(W:World) (E:Below w.heap.size w W)=>SZ.out W _ k d (ad.mono E));have H:=aa (λ(W:World) (E:Below w.heap.size w W) (q:Nat)=>DG.out W _ k d (ad.mono E) q);rw[<-ag,<-au,<-hn] at C;rw[<-ag] at y m aF Wx;rw[<-ao] at m am L H Wx aN;obtain⟨P,hP⟩:=ae (aW bs);rw[<-hP] at m am L H Wx;have av:=aa m;have d0:w.cell? ⟨g,k*6,none⟩=some (.int .i32 hd):=C 0 (by decide);have d1:w.cell? ⟨g,k*6+1,none⟩=some (.slice la n lc):=C 1 (by decide);have d2:w.cell? ⟨g,k*6+2,none⟩=some (.slice S M Q):=C 2 (by decide);have d3:w.cell? ⟨g,k*6+3,none⟩=some (.slice N T V):=C 3 (by decide);have d4:w.cell? ⟨g,k*6+4,none⟩=some (.int .i64 z):=C 4 (by decide);have d5:w.cell? ⟨g,k*6+5,none⟩=some (.int .i64 fr):=C 5 (by decide);have d0:=aB D d0;have d1:=aB D d1;have d2:=aB D d2;have d3:=aB D d3;have d4:=aB D d4;have d5:=aB D d5;have ax:=ah (w:=wr) (.cells #[.int .i32 hd,.slice la n lc,.slice S M Q,.slice N T V,.int .i64 z,.int .i64 fr] eX);have k2:=Is.new wr #[.int .i32 hd,.slice la n lc,.slice S M Q,.slice N T V,.int .i64 z,.int .i64 fr] eX;have b2:=k2.at 2 rfl;have b3:=k2.at 3 rfl;have b4:=k2.at 4 rfl;have b5:=k2.at 5 rfl;have NV:=af hE ax;have al:=af D ax;have ap:=aa (L.out _ al);obtain⟨q,hq⟩:=ae (i-fr);rw[<-hq] at Wx;have wq:wrap64 ((i:Int)-(fr:Int))=(q:Int):=by unfold wrap64;omega
   have aJ:(i:Int)-(fr:Int)=(q:Int):=by omega
   have K2:=aa k2;have:q<=i:=by omega
   clear C ad ag au hn ao hP aQ m k2;go_wp2_with fail;rw[<-hq];have HQ:=aa hq;clear hq;refine ap.out.mono ?_;rintro e w4⟨rfl,X⟩;have lN:=af al X;have ar:=af NV X;have k4:=K2.out.mono X;have:=k4.at 2 rfl;have:=k4.at 3 rfl;have:=k4.at 4 rfl;have az:=aa (H.out w4 lN q);clear L ap H b2 b3 b4 b5 d0 d1 d2 d3 d4 d5 k4 wq aJ;by_cases aO:q<P
   ·have zq:=eG (show q<P by omega);have t:=Wx.out aO;have ab:=aa t;have U:=aa (show i<dO R by have h1:=av.out;have h2:=aP.out (k+1);have:=HQ.out;omega);have O:decide (0<=(q:Int)/\(q:Int)<(P:Int))=true:=decide_eq_true ⟨by omega,by omega⟩;rw[O] at az;clear t O;go_wp2_with fail;refine az.out.mono ?_;rintro e w5⟨r,rfl,aq,aA,_⟩;have s:=aA ⟨by omega,by omega⟩;rw[pw] at s;obtain⟨ra,F,rfl,_,_⟩:=ak s;obtain⟨nb,aw⟩:=ae bs.length;rw[<-aw] at s⊢;have aI:=af ar aq;have aD:=af lN aq;have c:=k0.mono aI;have f0:=c.at 0 rfl;have f1:=c.at 1 rfl;have q0:=c.frozen 0;have q1:=c.frozen 1;have Y:=(c.set 0 (.int .i64 (k:Nat))).set 1 (.slice ra nb F);have g0:=Y.at 0 rfl;have g1:=Y.at 1 rfl;have o9:=aa (((bJ.put (o:=0) c (.int .i64 (k:Nat))).trans (bJ.put (o:=1) (c.set 0 (.int .i64 (k:Nat))) (.slice ra nb F))).own s (by decide));have x:=aa (aj (off:=1) (u:=.slice ra nb F) (b:=w.heap.size) (aj (off:=0) (u:=.int .i64 (k:Nat)) (b:=w.heap.size) aD (d' _)) (d' _));clear aA s aw c Y;go_wp2_with fail;refine bodyPost_ret (v:=.tuple #[.agg #[.int .i64 (k:Nat),.slice ra nb F],.bool true]) (by simp[results,results29,go_sem,g0,g1]) rfl ⟨_,by rw[decide_eq_true U.out],λ_=>?_,λh=>absurd U.out h,x.out⟩;rw[ab.out];refine⟨_,rfl,?_⟩;rw[Z8];exact Sl.aU o9.out
   have zq:=gI (show P<=q by omega);go_wp2_with fail;go_roundw
   case rel=>exact⟨k+1,by omega,by simp,by rw[av.out];have:=HQ.out;omega,ar⟩
   case measure=>simp[intOf];omega
  obtain rfl:k=nr:=by omega
  have zk:=gI (show k<=k by omega);have an:=aa (show ¬i<dO R by have:=aM.out;omega);have D:=af G hE;have c:=k0.mono hE;have f0:=c.at 0 rfl;have f1:=c.at 1 rfl;have q0:=c.frozen 0;have q1:=c.frozen 1;have Y:=(c.set 0 (.int .i64 0)).set 1 (.slice none 0 0);have g0:=Y.at 0 rfl;have g1:=Y.at 1 rfl;have x:=aa (aj (off:=1) (u:=.slice none 0 0) (b:=w.heap.size) (aj (off:=0) (u:=.int .i64 0) (b:=w.heap.size) D (d' _)) (d' _));clear c Y;go_wp2_with fail;exact bodyPost_ret (v:=.tuple #[.agg #[.int .i64 0,.slice none 0 0],.bool false]) (by simp[results,results29,go_sem,g0,g1]) rfl ⟨_,by rw[decide_eq_false an.out],λh=>absurd h an.out,λ_=>rfl,x.out⟩
abbrev eD:TypeId:=44
abbrev QB:TypeId:=102
structure jX (w:World) (B pp g mp:Nat) (xs:List Nat):Prop where
 is:Is w pp #[.pointer (some ⟨mp,0,none⟩),.slice (some ⟨g,0,none⟩) xs.length xs.length] QB
 row:∃vals:List Value,w.ownsRow B eD 1 (.slice (some ⟨g,0,none⟩) xs.length xs.length) xs.length vals/\∀k (hk:k<xs.length),∃a n c,vals[k]? = some (.slice a n c)/\bT w (.agg #[.slice a n c]) xs[k]
def jX.mono {w':World} {e:Nat} {f:List Nat} (h:jX w B e g i f) (d:Below w.heap.size w w'):jX w' B e g i f:=by
 obtain⟨j,b,q,m⟩:=h;refine⟨j.mono d,b,aH q d,λk p=>?_⟩;obtain⟨a,n,c,o,l⟩:=m k p;exact⟨a,n,c,o,l.mono d⟩
def jX.at_ {q l:Nat} {d:List Nat} (h:jX w B q g l d) {k:Nat} (o:k<d.length):∃a n c,w.cell? ⟨g,k,none⟩=some (.slice a n c)/\bT w (.agg #[.slice a n c]) d[k]:=by
 obtain⟨r,e,p,j⟩:=h;obtain⟨a,n,c,m,i⟩:=j k o;obtain⟨_,_,b,_,_,_,_,f⟩:=dz p (by omega);injection b with b _ _;cases b;exact⟨a,n,c,f _ _ m,i⟩
def aag {mp PB Z:Nat} (h:dP w B mp dp K l) (hl:l.length<9000) (n:dO (bq K l)<=16384) {q:List Nat} (U:jX w PB Z g mp q) (z:q.length=dO (bq K l)) {s:eZ} (L:AA w v s) (T:eQ (bq K l) s) :
 Calls prog 19 #[.pointer (some ⟨Z,0,none⟩),v] w λe w'=>∃r,e=.returned r/\bT w' r (q.getD (fK (bq K l) s) 0)/\Below w.heap.size w w':=by
 obtain⟨sv,rfl,j⟩:=id L;obtain⟨O,Q,rfl,_,_⟩:=bG.out j.any;obtain⟨m,hm⟩:=ae ((bO (nz s.2)).length);rw[<-hm] at L j⊢;have a:=dH (w:=w) (.cells #[.int .i64 (s.1:Nat),.slice O m Q] 54) (.cells #[.slice none 0 0] eD);have d:=nD T;rw[<-z] at d;obtain⟨J,M,N,y,p⟩:=U.at_ d;have f:q.getD (fK (bq K l) s) 0=q[fK (bq K l) s]:=by rw[ir,gx d];rfl
 rw[f];have P:=aa (λ(W:World) (E:Below w.heap.size w W)=>OW (h.mono E) hl n (L.mono E) T);obtain⟨x,V⟩:=ae (q[fK (bq K l) s]);obtain⟨ix,H⟩:=ae (fK (bq K l) s);rw[<-V] at p⊢;simp only[<-H] at P y d;obtain⟨nx,i⟩:=ae q.length;have t:=U.is;rw[<-i] at t d;have:nx<=16384:=by rw[i,z];exact n
 obtain⟨k,Y⟩:=ae s.1;rw[<-Y] at a P⊢;have R:Is _ w.heap.size #[.int .i64 (k:Nat),.slice O m Q] 54:=(Is.new w _ _).mono (ah (.cells #[.slice none 0 0] eD));have X:Is _ (w.heap.size+1) #[.slice none 0 0] eD:=Is.new' (w.alloc (.cells #[.int .i64 (k:Nat),.slice O m Q] 54)) _ _ _ (by simp);clear h U j L hm V H i T Y f n z;go_enter func19,ntmps19;go_wp2_with fail;generalize (w.alloc (.cells #[.int .i64 (k:Nat),.slice O m Q] 54)).alloc (.cells #[.slice none 0 0] eD)=w0 at *;have C:=a.size;have S:=a.trans ((ag w0).mono C);have I:=aa (P.out w0.drew S);have e0:=R.gd 0 rfl;have e1:=R.gd 1 rfl;have p0:=Gr.cell (ag w0) ((t.mono a).at 0 rfl);refine aC (Array.replicate 11 true) 11 0 mixed ?_;refine ay [0,1,2,3,4] 6 ?_
 iterate 5 (refine aA rfl ?_;go_big_quiet_step (rfl))
 refine az ?_;refine aI 5 ?_;go_wp2_with fail;refine I.out.mono ?_;rintro e w3⟨rfl,A⟩;go_wp2_with fail;refine aF A ?_;refine ay [6,7,8,9,10] 0 ?_
 iterate 5 (refine aA rfl ?_;go_big_quiet_step (rfl))
 refine az ?_;refine aJ [] ?_;refine tail_nil ?_;have F:=(ag w0).trans A;have c:=a.trans (F.mono C);have:=c.size;have G:=X.mono F;have:=(t.mono c).at 1 rfl;have:=aB c y;have:=G.at 0 rfl;have:=G.frozen 0;have v0:=G.set 0 (.slice J M N);have g0:=v0.at 0 rfl;have hN:=aa (bT.iQ (p.mono c) (bJ.put (o:=0) G (.slice J M N)) (by decide));have D:=aa (aj (off:=0) (u:=.slice J M N) (b:=w.heap.size+1) c (by omega));clear P I e0 e1 p0 G v0 p y R X;go_wp2_with fail;exact bodyPost_ret (v:=.agg #[.slice J M N]) (by simp[results,results19,go_sem,g0]) rfl ⟨_,rfl,hN.out,D.out⟩
def Tf (R:List bS) (nS:eZ->Nat->Option eZ) (xs:List Nat) (s:eZ) (c:Nat):Nat:=match nS s c with|some s'=>xs.getD (fK R s') 0|none=>0
def aah {R:List bS} {nS:eZ->Nat->Option eZ} {a:List Nat} {P:Nat} (h:∀x∈a,x<=P) (s:eZ) (c:Nat):Tf R nS a s c<=P:=by
 unfold Tf
 split
 ·rename_i d _;rw[ir];by_cases b:fK R d<a.length
  ·rw[gx b];exact h _ (gw b)
  rw[pA (by omega)];exact ic _
 exact ic _
def sF {n:Nat} (h:x<=1000000*Go.Cd.B ^ n):(bY Go.Cd.B x).length<=n+1:=by
 rw[cZ bE,ye];exact lp h (ux (by unfold Go.Cd.B;decide) (tc (by unfold Go.Cd.B;decide)))
def l5 {n:Nat} (h:x<=Go.Cd.B ^ n):(bY Go.Cd.B x).length<=n+1:=sF (ia h (Nat.le_mul_of_pos_left _ (by decide)))
def Cw {c M:Nat} (h:x<=Go.Cd.B ^ c) (a:c<=M):(bY Go.Cd.B x).length<=M+1:=l5 (ia h (kj (by unfold Go.Cd.B;decide) a))
def tP:Nat:=16384
def Wy {f:Nat->Nat} {j:Nat} (a:j<l.length):((l.take (j+1)).map f).sum=((l.take j).map f).sum+f l[j]:=by
 rw[gR a,j5,sg];simp
def Cx {T:List aG} (a:T.length<1000) (d:l.length<400) {s:eZ} (b:eQ (bq K l) s) (F:Nat->List Nat):(b_ (pO K F (uY T) (bq K l) s)).length<=802000:=by
 rw[fP];have:=Cr (bq K l) s;have:=((fD K l).2.2 _ (show aL (bq K l) s.1∈bq K l by rw[df b.lt];exact gw _)).1;refine ia (sD (λx=>ia (lr _ _) (Qz a x)) _) ?_;omega
def Tg {MB mp PB pp:Nat} {T:List aG} {X:List Nat} (hD:cK w dp T X) (hV:aY T X) (zT:T.length<1000) (h:dP w MB mp dp (ai T) l) (hl:l.length<400) (bs:∀c∈l,aP c) (bk:dO (bq (ai T) l)<=16384) {xs:List Nat} (hp:jX w PB pp g mp xs) (bf:xs.length=dO (bq (ai T) l)) (aX:∀x∈xs,x<=Go.Cd.B ^ tP) (hi:i<dO (bq (ai T) l)) :
 Calls prog 46 #[.pointer (some ⟨pp,0,none⟩),.int .i64 i] w λe w'=>∃r,e=.returned r/\bT w' r (jk (bq (ai T) l) (λs=>b_ (pO (ai T) (aD T) (uY T) (bq (ai T) l) s)) (fw (ai T) (aD T) (bq (ai T) l)) xs i)/\Below w.heap.size w w':=by
 have aO:=ah (w:=w) (.cells #[.slice none 0 0] eD);have D:=uW hi
 have SA:=aa ((OX (h.mono aO) (by omega) bk (show i<16384 by omega)).mono (R':=λe w'=>∃v,e=.returned (.tuple #[v,.bool true])/\AA w' v (sW (bq (ai T) l) i)/\Below (w.alloc (.cells #[.slice none 0 0] eD)).heap.size (w.alloc (.cells #[.slice none 0 0] eD)) w') (by
  rintro e w'⟨v,rfl,h1,_,h3⟩
  exact⟨v,by rw[decide_eq_true hi],h1 hi,h3⟩))
 have bx:jk (bq (ai T) l) (λs=>b_ (pO (ai T) (aD T) (uY T) (bq (ai T) l) s)) (fw (ai T) (aD T) (bq (ai T) l)) xs i=if Co (bq (ai T) l) (sW (bq (ai T) l) i)=true then 1 else ((b_ (pO (ai T) (aD T) (uY T) (bq (ai T) l) (sW (bq (ai T) l) i))).map (Tf (bq (ai T) l) (fw (ai T) (aD T) (bq (ai T) l)) xs (sW (bq (ai T) l) i))).sum:=rfl;rw[bx];obtain⟨s,hs⟩:=ae (sW (bq (ai T) l) i);rw[<-hs] at D SA⊢;have OV:=aa (λ(W:World) (E:Below w.heap.size w W) (u:Value) (hu:AA W u s)=>Tc (h.mono E) (by omega) hu D);have OP:=aa (λ(W:World) (E:Below w.heap.size w W) (u:Value) (hu:AA W u s)=>Im (hD.mono E) hV zT (h.mono E) hl bs hu D);have ST:=aa (λ(W:World) (E:Below w.heap.size w W) (u:Value) (hu:AA W u s) (c:Nat) (hc:aP c)=>FZ (hD.mono E) hV zT (h.mono E) (by omega) hu D c hc);have AT:=aa (λ(W:World) (E:Below w.heap.size w W) (u:Value) (A:eZ) (hu:AA W u A) (bV:eQ (bq (ai T) l) A)=>aag (h.mono E) (by omega) bk (hp.mono E) bf hu bV);have bc:∀(c:Nat) (A:eZ),fw (ai T) (aD T) (bq (ai T) l) s c=some A->eQ (bq (ai T) l) A:=λc A h=>Cq D h;have aS:∀c∈b_ (pO (ai T) (aD T) (uY T) (bq (ai T) l) s),aP c/\∃A,fw (ai T) (aD T) (bq (ai T) l) s c=some A:=λc hc=>by
  rw[xQ] at hc;obtain⟨x,hx,hc⟩:=lP.1 hc;have h1:=i_.1 hc;exact⟨QA hV (Cv (Qy (ai T) bs) s x hx) c h1.1,vA.1 h1.2⟩
 have bt:=Cx zT hl D (aD T);have aw:=λc=>aah (R:=bq (ai T) l) (nS:=fw (ai T) (aD T) (bq (ai T) l)) aX s c;have a3:∀c A,fw (ai T) (aD T) (bq (ai T) l) s c=some A->Tf (bq (ai T) l) (fw (ai T) (aD T) (bq (ai T) l)) xs s c=xs.getD (fK (bq (ai T) l) A) 0:=λc A h=>by unfold Tf;rw[h]
 obtain⟨O,hO⟩:=ae (b_ (pO (ai T) (aD T) (uY T) (bq (ai T) l) s));obtain⟨ov,bp⟩:=ae (Co (bq (ai T) l) s);obtain⟨f,hf⟩:=ae (Tf (bq (ai T) l) (fw (ai T) (aD T) (bq (ai T) l)) xs s);simp only[<-hO,<-bp,<-hf] at OV OP aS bt aw a3⊢;have bH:=aa bc;have b2:=aa aS;have Ow:=aa aw;have bC:=aa a3;have:=aa aX;have au:=hp.is;have k0:=Is.new w #[.slice none 0 0] eD;have bR:=(au.mono aO).at 0 rfl;obtain⟨a7,U⟩:=ae (if ov=true then 1 else (O.map f).sum);rw[<-U];have rE:=aa U;have:w.heap.size+1<=(w.alloc (.cells #[.slice none 0 0] eD)).heap.size:=by simp
 clear hD h hp bf aX hi D bx hs bc aS aw a3 hO bp hf U;go_enter func46,ntmps46;go_wp2_with fail;refine SA.out.mono ?_;rintro e w1⟨v1,rfl,av,a5⟩;generalize w.alloc (.cells #[.slice none 0 0] eD)=w0 at *;have bN:=af aO a5;have k0:=k0.mono a5;obtain⟨sv,rfl,bw⟩:=id av;obtain⟨sa,sc,rfl,_,_⟩:=bG.out bw.any;obtain⟨m,hm⟩:=ae ((bO (nz s.2)).length);obtain⟨k,hk⟩:=ae s.1;rw[<-hm,<-hk] at av⊢;have an:=ah (w:=w1) (.cells #[.int .i64 (k:Nat),.slice sa m sc] 54);have Z:=Is.new w1 #[.int .i64 (k:Nat),.slice sa m sc] 54;have H:=af bN an;have:=a5.size;clear SA bw hm hk bR;go_wp2_with fail;obtain⟨w2,aV⟩:=ae (w1.alloc (.cells #[.int .i64 (k:Nat),.slice sa m sc] 54));rw[<-aV] at an Z H⊢;have:w1.heap.size+1<=w2.heap.size:=by rw[aV];simp
 clear aV;have bv:=av.mono an;have k0:=k0.mono an;have be:=H.size;have a4:=H.trans ((ag w2).mono be);have bh:=aa (OV.out w2.drew a4 _ (bv.mono (ag w2)));have p0:=Gr.cell (ag w2) ((au.mono H).at 0 rfl);have e0:=Z.gd 0 rfl;have e1:=Z.gd 1 rfl;refine aC (Array.replicate 6 true) 6 0 mixed ?_;refine ay [0,1,2,3,4] 1 ?_
 iterate 5 (refine aA rfl ?_;go_big_quiet_step (rfl))
 refine az ?_;refine aI 5 ?_;go_wp2_with fail;refine bh.out.mono ?_;rintro e C⟨rfl,a6⟩;go_wp2_with fail;refine aF a6 ?_;refine aJ [] ?_;refine tail_nil ?_;have J:=(ag w2).trans a6;have P:=H.trans (J.mono be);have k0:=k0.mono J;have Z:=Z.mono J;have bl:=bv.mono J;have aq:=P.size;have:=J.size;clear OV bh p0 e0 e1;cases ov with
 | true=>
   have N:a7=1:=rE.out;have aU:=aa N;clear N;go_wp2_with fail;refine(uf 1 (by decide) C).mono ?_;rintro e w4⟨r4,rfl,ao,p⟩;obtain⟨ua,un,uc,rfl,ao⟩:=ao.out;have V:=k0.mono p;have f0:=V.at 0 rfl;have q0:=V.frozen 0;have v0:=V.set 0 (.slice ua un uc);have g0:=v0.at 0 rfl;have G:=P.trans (p.mono aq);have hN:=aa (bT.iQ ao (bJ.put (o:=0) V (.slice ua un uc)) (by decide));have M:=aa (aj (off:=0) (u:=.slice ua un uc) (b:=w.heap.size) G (d' _));clear V v0 ao;go_wp2_with fail;refine bodyPost_ret (v:=.agg #[.slice ua un uc]) (by simp[results,results46,go_sem,g0]) rfl ⟨_,rfl,?_,M.out⟩;rw[aU.out];exact hN.out
 | false=>
   have N:a7=(O.map f).sum:=by rw[rE.out];exact if_neg (by simp)
   have aU:=aa N;clear N;have p:=ah (w:=C) (.cells #[.slice none 0 0] eD);have kA:=Is.new C #[.slice none 0 0] eD;have G:=P.trans (p.mono aq);have bM:=Z;have bW:=bl;have Z:=Z.mono p;have bP:=bl.mono p;have aE:bT (C.alloc (.cells #[.slice none 0 0] eD)) (.agg #[.slice none 0 0]) 0:=⟨_,rfl,by rw[di];exact .nil _ _ _ _ (λ_=>rfl)⟩;have:C.heap.size+1<=(C.alloc (.cells #[.slice none 0 0] eD)).heap.size:=by simp
   go_wp2_with fail;generalize C.alloc (.cells #[.slice none 0 0] eD)=w4 at *;have a8:=G.size;have a4:=G.trans ((ag w4).mono a8);have a9:=aa (OP.out w4.drew a4 _ (bP.mono (ag w4)));have p0:=Gr.cell (ag w4) ((au.mono G).at 0 rfl);have e0:=Z.gd 0 rfl;have e1:=Z.gd 1 rfl;refine aC (Array.replicate 8 true) 8 0 mixed ?_;refine ay [0,1,2,3,4,7] 2 ?_
   iterate 6 (refine aA rfl ?_;go_big_quiet_step (rfl))
   refine az ?_;refine aI 5 ?_;go_wp2_with fail;refine a9.out.mono ?_;rintro e w5⟨ro,rfl,oO,a_⟩;obtain⟨n,hn⟩:=ae O.length;rw[<-hn] at oO bt;have HN:=aa hn;clear hn;obtain⟨a1,c1,rfl,_,_⟩:=ak oO;go_wp2_with fail;refine aF a_ ?_;refine ay [6] 0 ?_
   iterate 1 (refine aA rfl ?_;go_big_quiet_step (rfl))
   refine az ?_;refine aJ [] ?_;refine tail_nil ?_;have ar:=(ag w4).trans a_;have:=G.trans (ar.mono a8);have bi:=af p ar;have kA:=kA.mono ar;have aE:=aE.mono ar;have:Below C.heap.size C w5:=bi;have oO:=aT oO (show C.heap.size<=w4.drew.heap.size from p.size);have OO:=aa oO;clear OP a9 p0 e0 e1 oO;go_wp2_with fail;go_loopw [9,10,11,35] (λ_ _ _ jv wr=>∃j:Nat,j<=n/\jv=.int .i64 j/\(∃a q c,Is wr C.heap.size #[.slice a q c] eD/\bT wr (.agg #[.slice a q c]) ((O.take j).map f).sum)/\wr.ownsRow C.heap.size aN 1 (.slice a1 n c1) n (aM O)/\Below C.heap.size C wr) (λ_ _ _ jv _=>n-(intOf jv).toNat)
   case atStart=>exact⟨0,ic _,rfl,⟨_,_,_,kA,aE⟩,OO.out,bi⟩
   case round=>
    obtain⟨j,hj,rfl,⟨qa,qn,qc,jA,Ti⟩,K,hE⟩:=hrel;have ji:=P.trans (hE.mono aq);have Je:=ji.size;have bU:=hE.size;by_cases b7:j<n
    ·have zj:=eG (show j<n by omega);obtain⟨rb,Vd,he,_,_,_,_,F⟩:=dz K (show 0<n by omega);injection he with bQ _ bA;subst bQ bA;have ab:j<O.length:=by have:=HN.out;omega
     have cy:=F j (.int .i32 (O[j]:Nat)) (by rw[gx (by rw[bF];exact ab),dR _ _ ab]);obtain⟨bn,A,am⟩:=b2.out _ (gw ab);have z:=Wy (f:=f) ab;have aQ:((O.take j).map f).sum<=1000000*Go.Cd.B ^ tP:=by
      refine ia (Ij f (Go.Cd.B ^ tP) (O.take j) λc _=>Ow.out c) (m9 _ ?_);rw[jn];omega
     have aR:=bC.out _ _ am;have ad:f O[j]<=Go.Cd.B ^ tP:=Ow.out _;obtain⟨y,hy⟩:=ae (O[j]);rw[<-hy] at cy bn am z aR ad;obtain⟨S,hS⟩:=ae (((O.take j).map f).sum);rw[<-hS] at Ti z aQ;obtain⟨t,ht⟩:=ae (f y);rw[<-ht] at z aR ad;have:(bY Go.Cd.B S).length<=16385:=sF (n:=tP) aQ;have:(bY Go.Cd.B t).length<=16385:=l5 (n:=tP) ad;have u_:=aa z;have ax:=bM.mono hE;have bu:=bW.mono hE;clear F hy hS ht z aQ ad;go_wp2_with fail;have e0:=ax.gd 0 rfl;have e1:=ax.gd 1 rfl;have p0:=Gr.cell (ag wr) ((au.mono ji).at 0 rfl);refine La #[true,true,true,true,true,true,true,true,false,false,false,false,false] [10] [8,9] (λ_ v W=>∃k,v=.pointer (some ⟨k,0,none⟩)/\W.heap[k]? = some (.cells #[.int .i64 0,.slice none 0 0] 54)) rq 8 4 mixed (by rfl) (by kernel_rfl) (λ_ _ _ _ hb h=>wV hb h) ?_ ?_
     ·intro i hi o ho;simp only[jt,kt,or_false] at hi;subst hi;cases ho;exact wU rfl rfl (λW=>by go_simp)
     refine oC [0,1,2,3,4,5] 2 ?_
     iterate 6 (refine aA rfl ?_;go_big_quiet_step (rfl))
     refine az ?_;refine pI 6 ?_;intro wa RJ;have L:=(ag wr).trans RJ;have aB:=ji.trans (L.mono Je);have bX:=aB.size;go_wp2_with fail;refine(ST.out wa aB _ (bu.mono L) y bn).mono ?_;rintro e wc⟨bb,ap⟩;rw[am] at bb;obtain⟨v2,rfl,ac⟩:=bb;obtain⟨b3,rfl,Tj⟩:=id ac;obtain⟨a2,c2,rfl,_,_⟩:=bG.out Tj.any;obtain⟨m2,bo⟩:=ae ((bO (nz A.2)).length);obtain⟨kk,ba⟩:=ae A.1;rw[<-bo,<-ba] at ac⊢;clear Tj bo ba;go_wp2_with fail;refine aF ap ?_;refine oC [7] 0 ?_;refine aA rfl ?_;go_big_quiet_step (rfl);refine az ?_;refine aa3 [8,9,11,12] ?_;intro W Wb us hR hD;obtain⟨⟨Y,hv,hh⟩,al,aL⟩:=hR 10 (by simp);rw[hv] at al aL;simp only[rq] at al aL;rw[ru (d:=some 10) rfl,hv];have:wr.heap.size<=Y:=al;have I:Below wr.heap.size wr W:=L.trans ((ap.trans (Wb.mono ap.size)).mono L.size);have iY:Is W Y #[.int .i64 0,.slice none 0 0] 54:=⟨hh⟩;have a0:=iY.at 0 rfl;have bD:=iY.at 1 rfl;have b0:=iY.frozen 0;have b1:=iY.frozen 1;have ch:=(bJ.put (o:=0) iY (.int .i64 (kk:Nat))).trans (bJ.put (o:=1) (iY.set 0 (.int .i64 (kk:Nat))) (.slice a2 m2 c2));have Q:=aa ((iY.set 0 (.int .i64 (kk:Nat))).set 1 (.slice a2 m2 c2));have bd:=aa (Qu.OC (ac.mono Wb) ch (by decide));have bj:=aa (ch.is (jA.mono I) (by decide));have bZ:=aa (bT.iQ (Ti.mono I) ch (by decide));have bK:=aa (ch.own (aH K I) (by decide));have:C.heap.size<wr.heap.size:=jA.lt;have bg:=aa (aj (off:=1) (u:=.slice a2 m2 c2) (b:=Y) (aj (off:=0) (u:=.int .i64 (kk:Nat)) (b:=Y) (hE.trans (I.mono bU)) (by omega)) (by omega));clear iY ch hR hD e0 e1 p0 hv hh al aL RJ L aB bX ap Wb ac I Ti K ax bu cy;refine uO (os:=[_,_,_,_]) rfl ?_;go_wp2_with fail;refine uP ?_;clear a0 bD b0 b1;generalize (W.setCell ⟨Y,0,none⟩ (.int .i64 (kk:Nat))).setCell ⟨Y,1,none⟩ (.slice a2 m2 c2)=w6 at *;have Q:=Q.out;have aK:=bj.out;have aW:=bg.out;have br:=P.trans (aW.mono aq);have bB:=br.size;have bm:=aa (AT.out w6.drew (br.trans ((ag w6).mono bB)) _ A (bd.out.mono (ag w6)) (bH.out y A am));rw[<-aR] at bm;have e0:=aK.gd 0 rfl;have e1:=Q.gd 0 rfl;have e2:=Q.gd 1 rfl;clear bd bj bg;go_wp2_with fail;refine aC #[true,true,true,true,true,false] 5 1 mixed ?_;refine ay [0,1,2] 2 ?_
     iterate 3 (refine aA rfl ?_;go_big_quiet_step (rfl))
     refine az ?_;refine aI 3 ?_;go_wp2_with fail;refine bm.out.mono ?_;rintro e w7⟨r7,rfl,OZ,jh⟩;have bz:=(ag w6).trans jh;go_wp2_with fail;refine aF jh ?_;refine aI 4 ?_;go_wp2_with fail;refine(Oo (bZ.out.mono bz) OZ (by omega) (by omega)).mono ?_;rintro e w8⟨r8,rfl,O4,iH⟩;obtain⟨ua,un,uc,rfl,O4⟩:=O4.out;have aZ:=af bz iH;go_wp2_with fail;refine aF iH ?_;have Wz:=aK.mono aZ;have f0:=Wz.at 0 rfl;have q0:=Wz.frozen 0;have bE:=aW.size;have bL:=aa (Wz.set 0 (.slice ua un uc));have ch:=bJ.put (o:=0) Wz (.slice ua un uc);have bS:=aa (bT.iQ O4 ch (by decide));have bI:=aa (ch.own (aH bK.out aZ) (by decide));have yf:=aa (aj (off:=0) (u:=.slice ua un uc) (b:=C.heap.size) (aW.trans (aZ.mono bE)) (d' _));clear ch Wz O4 OZ aK Q e0 e1 e2 jh iH;refine aJ [5] ?_;refine tail_cons rfl ?_;go_wp2_with fail;refine tail_nil ?_;go_wp2_with fail;go_roundw
     case rel=>exact⟨j+1,by omega,by simp,⟨_,_,_,bL.out,by rw[u_.out];exact bS.out⟩,bI.out,yf.out⟩
     case measure=>simp[intOf];omega
    have zj:=gI (show n<=j by omega);obtain rfl:j=n:=by omega
    have ht:O.take j=O:=iu (by rw[<-HN.out];exact d' _);rw[ht,<-aU.out] at Ti;have:=jA.at 0 rfl;have V:=k0.mono hE;have f0:=V.at 0 rfl;have q0:=V.frozen 0;have v0:=V.set 0 (.slice qa qn qc);have g0:=v0.at 0 rfl;have hN:=aa (bT.iQ Ti (bJ.put (o:=0) V (.slice qa qn qc)) (by decide));have M:=aa (aj (off:=0) (u:=.slice qa qn qc) (b:=w.heap.size) ji (d' _));clear V v0 Ti ht;go_wp2_with fail;exact bodyPost_ret (v:=.agg #[.slice qa qn qc]) (by simp[results,results46,go_sem,g0]) rfl ⟨_,rfl,hN.out,M.out⟩
end Go.Proofs.YtmnimbnojdndmaaGreatDoor
namespace Go.Cd
section
open Go.RowKit
section
variable {l n : Nat} {P : Program} {ops : Array Oper} {Q : Exit -> Act -> World -> Prop} {md : Region.Mode}
def aaj {o:Oper} {a:Act} {K:Act->World->Prop} {r:Result Next} (h:o.upon P a K Q r):o.uponIn (Fence.wide.inRound l) n P a K Q r:=by
 have hd:(Fence.wide.inRound l).depth.isSome=true->1<=n:=λh=>by cases h
 cases r with
 | ok x w'=>
   cases x with
   | value v=>exact h
   | skip=>exact h
   | defer d=>exact h
   | enter f args=>exact⟨hd,(callsIn_wide (n:=n-1)).2 h⟩
   | row row args=>exact⟨hd,λc b _=>by
      obtain⟨v,i,g,e⟩:=h c b
      exact⟨v,i,g,stepsIn_wide.2 e⟩⟩
   | _=>exact absurd h (by simp[Oper.upon])
 | halt x w'=>cases x <;> exact h
def aak {i:Nat} {K:Act->World->Prop} {a:Act} {w:World} (hd:∀(i:Nat) (o:Oper),ops[i]? = some o->∀c,o.op≠.defer c) (e:¬LetsOut Q) (h:wpOp P ops Q i K a w):wpOpIn (Fence.wide.inRound l) n P ops Q i K a w:=by
 unfold wpOp at h;unfold wpOpIn;cases b:ops[i]? with
 | none=>rw[b] at h;exact h
 | some o=>
   rw[b] at h;simp only at h⊢;by_cases d:Region.wanted o (yielded ops a.tmps)=true
   ·rw[if_pos d] at h⊢;rcases h with h|h
    ·refine⟨λ_ _=>trivial,?_⟩;have:Oper.semAt (Fence.wide.inRound l).round a.eval o=execOp a.eval o:=Oper.semAt_some l _ _ (hd i o b);rw[this];exact aaj h
    exact absurd h.2 e
   rw[if_neg d] at h⊢;exact⟨λ_ _=>trivial,h⟩
def LG (hd:∀(i:Nat) (o:Oper),ops[i]? = some o->∀c,o.op≠.defer c) (e:¬LetsOut Q):∀(d:Nat) (b:Array Bool) (a:Act) (w:World),wpAny P md ops Q d b a w->wpAnyIn (Fence.wide.inRound l) n P md ops Q d b a w
 | 0,_,_,_,h=>h
 | d+1,b,a,w,h=>⟨h.1,λi f=>wpOpIn_mono (λa w=>LG hd e d _ a w) (aak hd e (h.2 i f))⟩
end
def abM:Op->Bool
 | .defer _=>false
 | _=>true
def Tk {os:List Oper} (h:os.all (λo=>abM o.op)=true) (i:Nat) (o:Oper) (a:os.toArray[i]? = some o) (c:Call):o.op≠.defer c:=λe=>by
 have b:o∈os:=by
  rw[tn] at a;exact lO a
 have:=lR.1 h o b;rw[e] at this;cases this
def D_ {l n:Nat} {P:Program} {d:Nat} {Q:Exit->Act->World->Prop} {a:Act} {w:World} {os:List Oper} (head:Array Bool) (k t:Nat) (b:P.follows .mixedOrders=true) (e:k+t=os.length)
 (hd:os.all (λo=>abM o.op)=true) (c:¬LetsOut Q)
 (h:QX P .any os.toArray head Q (λl' a w=>wpAny P .any os.toArray Q t l' a w) k (Array.replicate os.length false) a w.drew):(Code.region d os.toArray true).wpIn (Fence.wide.inRound l) n P Q a w:=by
 refine wpIn_region_any b ?_;refine LG (Tk hd) c _ _ _ _ ?_;have:=AR k _ _ _ h;rw[e] at this;simpa using this
def KeepsOthers.of_below {A B:World} (h:Below A.heap.size A B):KeepsOthers A B:=⟨h.size,λk _ a _=>(h.block k (ju.1 a).1).trans a⟩
end
end Go.Cd
namespace Go.Proofs.YtmnimbnojdndmaaGreatDoor
section
open Go.RowKit Go.Cd Go.Shelf _root_.Go.Proofs.Tryz
attribute [local go_sem] Oper.semAt_some
structure ui (Bs b n:Nat) (A B:World):Prop where
 box:B.cell? ⟨Bs,0,none⟩=A.cell? ⟨Bs,0,none⟩
 row:∀j,j<n->(∃a m c,A.cell? ⟨b,j,none⟩=some (.slice a m c))->∃a m c,B.cell? ⟨b,j,none⟩=some (.slice a m c)
def ui.refl (Bs b n:Nat) (A:World):ui Bs b n A A:=⟨rfl,λ_ _ h=>h⟩
def ui.trans {Bs b n:Nat} {A B C:World} (h:ui Bs b n A B) (k:ui Bs b n B C):ui Bs b n A C:=⟨k.box.trans h.box,λj a c=>k.row j a (h.row j a c)⟩
abbrev BN (n:Nat):Type:={ x:Nat×Value // x.1<n }
def adi (F:Fence) (m:Nat) (Q:F.fn 84) (z:F.round=none) (X:1<=m) (l Bs b n cap:Nat) (A:n<1099511627776) (J D:List (BN n)->World->Prop)
 (E:∀d x W,J d W->d.length<n->YieldAt F (m-1) prog l #[.int .i64 (x.1.1:Nat),x.1.2] W λe o=>
   (e=.returned (.bool true)/\J (d++[x]) o/\ui Bs b n W o)\/(e=.returned (.bool false)/\D (d++[x]) o))
 (W:World) (O:W.cell? ⟨Bs,0,none⟩=some (.slice (some ⟨b,0,none⟩) n cap)) (S:∀j,j<n->∃a m c,W.cell? ⟨b,j,none⟩=some (.slice a m c)) (h0:J [] W) :
 CallsIn F m prog 84 #[.func (.yield l) #[] #[],.pointer (some ⟨Bs,0,none⟩)] W λe o=>(∃v,e=.returned v)/\
  ((∃B:List (BN n),B.map (λx=>x.1.1)=mE id n n/\J B o)\/(∃d:List (BN n),True/\D d o)):=by
 refine callsIn_of_wp func84 rfl Q ?_ z;simp only[ntmps84,ps,im,kp,Nat.reduceAdd,Nat.reduceSub,oe,n8,pt,oE,lf,lz]
 gi_wp2
 gi_loopw [3] (λi wr=>∃(k:Nat) (d:List (BN n)),k<=n/\i=.int .i64 ((n:Int)-1-(k:Int))/\d.map (λx=>x.1.1)=mE id n k/\J d wr/\ui Bs b n W wr)
  (λi _=>(intOf i+1).toNat)
 case atStart=>exact⟨0,[],ic _,by simp,by simp[mE],h0,ui.refl _ _ _ _⟩
 case round=>
  obtain⟨k,d,V,rfl,f,t,g⟩:=hrel;have w:=g.box.trans O;have R:d.length=k:=by have:=congrArg List.length f;simpa [zu] using this
  by_cases N:k<n
  ·obtain⟨i,C⟩:∃i:Nat,(n:Int)-1-(k:Int)=(i:Int):=⟨n-1-k,by omega⟩;have h:i<n:=by omega
   have p:n-1-k=i:=by omega
   obtain⟨I,L,M,H⟩:=g.row i h (S i h);obtain⟨U,tmps,assign,body,Y,K⟩:=E _ (⟨(i,.agg #[.slice I L M]),h⟩:BN n) wr t (by omega);have u:=aa f;have q:=aa p;rw[C];clear C f p
   gi_wp2
   refine K.mono ?_;rintro e T (⟨rfl,y,r⟩|⟨rfl,s⟩)
   ·have P:=r.box.trans w
    gi_wp2
    go_roundw
    case rel=>exact⟨k+1,_,by omega,congrArg (Value.int .i64) (by have:=q.out;omega),by rw[aaV,q.out,j5,u.out];rfl,y,g.trans r⟩
    case measure=>simp[intOf]
   gi_wp2
   refine bodyPost_ret (results_none rfl _ _ _) rfl ?_;exact⟨⟨_,rfl⟩,.inr ⟨_,trivial,s⟩⟩
  obtain rfl:k=n:=by omega
  have G:(k:Int)-1-(k:Int)=-1:=by omega
  rw[G]
  gi_wp2
  go_end0
  exact⟨⟨_,rfl⟩,.inl ⟨_,f,t⟩⟩
def Io (v:Value) (w:World) (b:∃a n cap,v=.slice a n cap) :
 Calls prog 45 #[v] w λe w'=>e=.returned (.func (.func 84) #[] #[.pointer (some ⟨w.heap.size,0,none⟩)])/\w'=w.alloc (.cells #[v] 100):=by
 obtain⟨a,n,cap,rfl⟩:=b;go_enter func45,ntmps45;go_wp2;go_ret;exact⟨rfl,rfl⟩
def LH (F:Fence) (m:Nat) (u:F.fn 84) (f:F.round=none) (s:1<=m) (Bs b n cap:Nat) (e:n<1099511627776) (w:World) (t:Bs<w.heap.size) (v:b<w.heap.size)
 (d:w.cell? ⟨Bs,0,none⟩=some (.slice (some ⟨b,0,none⟩) n cap)) (o:∀j,j<n->∃a m c,w.cell? ⟨b,j,none⟩=some (.slice a m c)) :
 SeqStopsK F m prog 84 #[.pointer (some ⟨Bs,0,none⟩)] (λx:BN n=>#[.int .i64 (x.1.1:Nat),x.1.2]) (ui Bs b n) (λi=>i.map (λx=>x.1.1)=mE id n n) (λ_=>True) n w:=λl J r W g _ _ q h0=>
 adi F m u f s l Bs b n cap e J r q W ((g.cell (p:=⟨Bs,0,none⟩) t).trans d) (λj k=>by
  obtain⟨a,m,c,h⟩:=o j k
  exact⟨a,m,c,(g.cell (p:=⟨b,j,none⟩) v).trans h⟩) h0
end
section
open Go.RowKit Go.Cd Go.Shelf _root_.Go.Proofs.Tryz
attribute [local go_sem] Oper.semAt_some
def abN:mV prog 100 eD (.agg #[.slice none 0 0]) 1 24:=⟨rfl,underlying100,info_parts (by kernel_rfl)⟩
def Ag {w:World} {ops:Array Oper} {rest:List Oper} {o:Oper} {a:Act} {Q:Exit->Act->World->Prop} (k:o.guard=none) (l c:Operand) (d:o.op=Op.makeSlice 100 l c) (base:Nat)
 (h g:IntKind) (L C:Int) (n:Nat) (r:a.eval l=.int h L) (v:a.eval c=.int g C) (q:L=(n:Int)) (p:C=(n:Int)) (z:n<1000000) (j:base<=w.heap.size)
 (x:∀w',w'.ownsRow base eD 1 (.slice (some ⟨w.heap.size,0,none⟩) n n) n (List.replicate n (.slice none 0 0))->w.grownBy w' none->wpList prog ops Q rest (a.put o.dst (.slice (some ⟨w.heap.size,0,none⟩) n n)) w') :
 wpList prog ops Q (o::rest) a w:=by
 obtain⟨u,y,i,s,m,b,e⟩:=abN;refine wpList_make_full w k l c _ d base eD i _ 1 y s m b h g L C n r v q p (by rw[e];omega) (by unfold maxLen;omega) j λw' f t=>x w' ?_ t;rw[show(Value.agg #[.slice none 0 0]).cells=#[.slice none 0 0] from rfl,qt,toList_madeCells_one] at f;exact f
def pU (fr:List Nat->Nat->Nat) (n:Nat) (is:List Nat):List Nat:=is.foldl (λt i=>t.set i (fr t i)) (List.replicate n 0)
def LJ (b:List Nat->Nat->Nat) (n:Nat) (a:List Nat):(pU b n a).length=n:=by
 have:∀(a:List Nat) (t:List Nat),(a.foldl (λt i=>t.set i (b t i)) t).length=t.length:=λa=>by
  induction a with
  | nil=>intro t;rfl
  | cons i a ih=>intro t;rw[ot,ih,m7]
 unfold pU;rw[this,xF]
def F4 (a:List Nat->Nat->Nat) (n:Nat) (b:List Nat) (i:Nat):pU a n (b++[i])=(pU a n b).set i (a (pU a n b) i):=by
 unfold pU;rw[rk];rfl
def F5 (R:List bS) (opt:eZ->List Nat) (nS:eZ->Nat->Option eZ) (n:Nat):∀k,pU (jk R opt nS) n (mE id n k)=jl R opt nS n k
 | 0=>by simp[pU,mE,jl]
 | k+1=>by rw[aaV,F4,F5 R opt nS n k];rfl
def bT.QC {A B:World} {row:Option Nat} (f:A.grownBy B row) (i:∀r,row=some r->∃o:Obj,A.heap[r]? = some o/\o.isCells=false) {v:Value} {x:Nat} (h:bT A v x):bT B v x:=by
 obtain⟨s,k,a,cap,l,c,d⟩:=h;refine⟨s,k,a,cap,l,c,d.imp id ?_⟩;rintro⟨b,off,g,e,m,j,d⟩;exact⟨b,off,g,e,m,oh f i j,d⟩
def jX.QC {A B:World} {row:Option Nat} (d:A.grownBy B row) (e:∀r,row=some r->∃o:Obj,A.heap[r]? = some o/\o.isCells=false) {f l g j:Nat} {i:List Nat} (h:jX A f l g j i):jX B f l g j i:=by
 obtain⟨m,b,u,q⟩:=h;refine⟨⟨oh d e m.at_⟩,b,U2 d e u,λk t=>?_⟩;obtain⟨a,n,c,s,p⟩:=q k t;exact⟨a,n,c,s,bT.QC d e p⟩
def jX.store {w:World} {l p g q:Nat} {d:List Nat} (h:jX w l p g q d) {i:Nat} (D:i<d.length) {a:Option Addr} {n c x:Nat} (u:bT w (.agg #[.slice a n c]) x):jX (w.setCell ⟨g,i,none⟩ (.slice a n c)) l p g q (d.set i x):=by
 obtain⟨r,b,f,t⟩:=h;obtain⟨o,s⟩:=f.stored i (.slice a n c);have j:=bJ.bQ f s;have:b.length=d.length:=by have:=f.1;omega
 refine⟨by rw[m7];exact j.is r (by decide),b.set i (.slice a n c),by rw[m7];exact o,λk m=>?_⟩;rw[m7] at m;by_cases e:k=i
 ·subst e;refine⟨a,n,c,by rw[tj (by omega)],?_⟩;rw[List.getElem_set_self];exact bT.iQ u j (by decide)
 obtain⟨B,v,y,A,z⟩:=t k m;refine⟨B,v,y,by rw[su (by omega)];exact A,?_⟩;rw[x7 (by omega)];exact bT.iQ z j (by decide)
def jX.frozen {w:World} {d f g e:Nat} {a:List Nat} (h:jX w d f g e a) {i:Nat} (m:i<a.length):w.frozen? ⟨g,i,none⟩=false:=by
 obtain⟨k,c,b,l⟩:=h;exact(jY b (j:=i) (by have:=b.1;omega)).2
end
section
open Go.RowKit Go.Cd Go.Shelf _root_.Go.Proofs.Tryz
attribute [local go_sem] Oper.semAt_some
def LV {w:World} {MB C dp:Nat} {T:List aG} {X:List Nat} {l:List Nat} (hD:cK w dp T X) (hV:aY T X) (zT:T.length<1000) (h:dP w MB C dp (ai T) l) (hl:l.length<400) (aL:∀c∈l,aP c) (aC:dO (bq (ai T) l)<=16384) :
 Calls prog 11 #[.pointer (some ⟨C,0,none⟩)] w λe w'=>∃pp g,e=.returned (.tuple #[.pointer (some ⟨pp,0,none⟩),.int .i64 0])/\jX w' w.heap.size pp g C (l6 T l)/\Below w.heap.size w w':=by
 have SZ:=aa (oG h);have av:0<dO (bq (ai T) l):=by
  have h1:=(fD (ai T) l).1;have h2:=aae (R:=bq (ai T) l) (k:=0) (ke.2 h1);have:=gG (bq (ai T) l) 1;have:=Qv ((bq (ai T) l)[0]'(ke.2 h1));simp only[k_] at h2;omega
 have hM:∀i,i<dO (bq (ai T) l)->(b_ (pO (ai T) (aD T) (uY T) (bq (ai T) l) (sW (bq (ai T) l) i))).length<=Go.Cd.B:=λi hi=>ia (Cx zT hl (uW hi) _) (by unfold Go.Cd.B;decide);have FR:=aa (λ(W:World) (E:Below w.heap.size w W) (PB pp g:Nat) (L:List Nat) (hp:jX W PB pp g C L) (aV:L.length=dO (bq (ai T) l)) (a0:∀x∈L,x<=Go.Cd.B ^ tP) (i:Nat) (hi:i<dO (bq (ai T) l))=>Tg (hD.mono E) hV zT (h.mono E) hl aL aC hp aV a0 hi);have u:l6 T l=pU (jk (bq (ai T) l) (λs=>b_ (pO (ai T) (aD T) (uY T) (bq (ai T) l) s)) (fw (ai T) (aD T) (bq (ai T) l))) (dO (bq (ai T) l)) (mE id (dO (bq (ai T) l)) (dO (bq (ai T) l))):=(F5 _ _ _ _ _).symm;have al:∀(L:List Nat) (P i:Nat),1<=P->i<dO (bq (ai T) l)->(∀x∈L,x<=P)->jk (bq (ai T) l) (λs=>b_ (pO (ai T) (aD T) (uY T) (bq (ai T) l) s)) (fw (ai T) (aD T) (bq (ai T) l)) L i<=Go.Cd.B*P:=λL P i hP hi H=>Lv (by unfold Go.Cd.B;decide) hP (hM i hi) H;obtain⟨G,aM⟩:=ae (jk (bq (ai T) l) (λs=>b_ (pO (ai T) (aD T) (uY T) (bq (ai T) l) s)) (fw (ai T) (aD T) (bq (ai T) l)));obtain⟨n,hn⟩:=ae (dO (bq (ai T) l));obtain⟨a5,V⟩:=ae (l6 T l);rw[<-V] at u⊢;simp only[<-aM,<-hn] at SZ FR u al av aC;have HT:=aa u;have Q_:=aa al;clear hD hV zT h hl aL hM aM hn V u al;refine iW func11 rfl ?_;simp only[ntmps11,ps,im,kp,Nat.reduceAdd,Nat.reduceSub,oe,n8,pt,oE,lf,lz];go_wp2_with fail;refine SZ.out.mono ?_;rintro e w1⟨v1,rfl,Z,ao⟩;have UI:=aa (FP Z (by omega));obtain⟨na,nn,nc,rfl,_⟩:=Z.out;have aZ:=ao.size;clear Z SZ;go_wp2_with fail;refine UI.out.mono ?_;rintro e w2⟨rfl,ax⟩;have ab:=ao.trans (ax.mono aZ);have ak:=ab.size;have:decide (16384<n)=false:=decide_eq_false (by omega);have:decide ((16384:Int)<(n:Int))=false:=decide_eq_false (by omega);clear UI
 go_wp2_with (
  at_make
  refine Ag rfl _ _ rfl w.heap.size .u64 .u64 _ _ n rfl rfl rfl rfl (by omega) ak ?_
  intro d o3 aB)
 have Tq:=fO aB;have aK:=ab.trans (Tq.mono ak);have aX:=aK.size;have aR:w2.heap.size<d.heap.size:=(o3.lt w2.heap.size rfl).2;obtain⟨g,Y⟩:=ae w2.heap.size;rw[<-Y] at o3 aR ak⊢;obtain⟨w4,y⟩:=ae ((d.alloc (.cells #[.pointer (some ⟨C,0,none⟩),.slice (some ⟨g,0,none⟩) n n] QB)).alloc (.cells #[.pointer (some ⟨d.heap.size,0,none⟩)] 37));rw[<-y];have CP:Below d.heap.size d w4:=by rw[y];exact dH _ _
 have aO:=aK.trans (CP.mono aX);have:d.heap.size+2=w4.heap.size:=by rw[y];simp
 have kP:Is w4 d.heap.size #[.pointer (some ⟨C,0,none⟩),.slice (some ⟨g,0,none⟩) n n] QB:=by rw[y];exact(Is.new _ _ _).mono (ah _)
 have kV:Is w4 (d.heap.size+1) #[.pointer (some ⟨d.heap.size,0,none⟩)] 37:=by rw[y];exact Is.new' _ _ _ _ (by simp)
 have hP:jX w4 w.heap.size d.heap.size g C (pU G n []):=by
  have e:(pU G n [])=List.replicate n 0:=rfl;rw[e];refine⟨by simpa using kP,List.replicate n (.slice none 0 0),by rw[xF];exact aH o3 CP,λk hk=>⟨none,0,0,by rw[xF] at hk;simp[hk],?_⟩⟩;rw[List.getElem_replicate];exact⟨_,rfl,by rw[di];exact .nil _ _ _ _ (λ_=>rfl)⟩
 have U:∀j,j<n->∃a m c,w4.cell? ⟨g,j,none⟩=some (.slice a m c):=λj hj=>by
  obtain⟨a,m,c,h,_⟩:=hP.at_ (k:=j) (by rw[LJ];exact hj);exact⟨a,m,c,h⟩
 have:=aa Y;clear y Y o3 aB Tq CP ab ax ao kP;refine(Io _ w4 ⟨_,_,_,rfl⟩).mono ?_;rintro e w5⟨rfl,rfl⟩;go_wp2_with fail;have N:=ah (w:=w4) (.cells #[.slice (some ⟨g,0,none⟩) n n] 100);have:g≠w4.heap.size:=by omega
 refine(wpIn_wide (n:=5)).1 ?_;refine wpIn_rangeFunc_ownG (F:=Fence.wide) rfl (by omega) (gf:=84) (lb:=#[.pointer (some ⟨w4.heap.size,0,none⟩)]) rfl trivial (enters_of func84 (by kernel_rfl) rfl)
  (LH Fence.wide 4 trivial rfl (by omega) w4.heap.size g n n (by omega) (w4.alloc (.cells #[.slice (some ⟨g,0,none⟩) n n] 100)) (by simp) (by simp;omega) ((Is.new w4 _ _).at 0 rfl) (λj hj=>by
    obtain⟨a,m,c,h⟩:=U j hj
    exact⟨a,m,c,(N.cell (p:=⟨g,j,none⟩) (by show g<w4.heap.size;omega)).trans h⟩))
  (λh k=>h.trans k) (λW l o o' hl ho hc _=>by
    have:w4.heap.size+1<=l:=by simpa using hl
    refine⟨nB (nd (by simp only;omega)),λj hj H=>?_⟩;rw[nB (w:=W) (nd (by simp only;omega))]
    exact H) (gS _ _) (λ_=>rfl)
  (λb W=>((∀x∈pU G n (b.map λx=>x.1.1),x<=Go.Cd.B ^ b.length)/\jX W w.heap.size d.heap.size g C (pU G n (b.map λx=>x.1.1))/\Is W (d.heap.size+1) #[.pointer (some ⟨d.heap.size,0,none⟩)] 37/\w4.heap.size+1<=W.heap.size)/\Below w.heap.size w W)
  (λ_ _ _=>False)
  (OwnFrom.and (Own.from (λs A B row hs Y hr=>⟨hs.1,hs.2.1.QC Y hr,⟨oh Y hr hs.2.2.1.at_⟩,ia hs.2.2.2 Y.size⟩) _) (ownFrom_below (d' _) (by simp;omega)))
  (λc s A B row hs _ _=>hs.elim)
  ⟨⟨λx H=>by rw[show pU G n (([]:List (BN n)).map λx=>x.1.1)=List.replicate n 0 from rfl] at H;rw[we H];exact ic _,hP.mono N,kV.mono N,by simp⟩,aO.trans (N.mono (by omega))⟩
  (λx=>{ tmps:=#[.pointer (some ⟨C,0,none⟩),undef,.pointer none,.int .i64 0,.int .u64 n,.bool true,.pointer (some ⟨d.heap.size+1,0,none⟩),.int .i64 (x.1.1:Nat),.tuple #[.int .u64 n,.bool true],.pointer (some ⟨C,0,none⟩),.agg #[.slice na nn nc],
    .tuple #[.int .u64 n,.bool true],.int .u64 n,.bool true,.bool true,.bool false,.bool false,.int .u64 n,.bool false,.bool false,.pointer (some ⟨C,0,none⟩),.int .u64 n,.slice (some ⟨g,0,none⟩) n n,.agg #[.pointer (some ⟨C,0,none⟩),.slice (some ⟨g,0,none⟩) n n],
    .pointer (some ⟨d.heap.size,0,none⟩),.pointer (some ⟨d.heap.size,0,none⟩),.pointer (some ⟨d.heap.size,0,none⟩),.pointer (some ⟨d.heap.size,1,none⟩),.slice (some ⟨g,0,none⟩) n n,.func (.func 84) #[] #[.pointer (some ⟨w4.heap.size,0,none⟩)],
    .int .i64 (x.1.1:Nat),x.1.2,undef,undef,undef,undef,undef,undef,undef,undef,undef,undef],defers:=[] }) ?assign ?body ?done ?stop
 case assign=>
  intro l x W K hK
  gi_wp2
  exact hK
 case body=>
  rintro l b⟨⟨i,v⟩,S⟩ Wr ⟨⟨t,f,J,aT⟩,I⟩ a2;have Je:=I.size;have af:=LJ G n (b.map λx=>x.1.1);have ad:pU G n ((b++[(⟨(i,v),S⟩:BN n)]).map λx=>x.1.1)=(pU G n (b.map λx=>x.1.1)).set i (G (pU G n (b.map λx=>x.1.1)) i):=by rw[j5];exact F4 _ _ _ _
  have ac:Go.Cd.B ^ b.length<=Go.Cd.B ^ tP:=kj (by unfold Go.Cd.B;decide) (show b.length<=16384 by omega);have M:=Q_.out (pU G n (b.map λx=>x.1.1)) (Go.Cd.B ^ b.length) i (one_le_pow (by unfold Go.Cd.B;decide) _) S t;have an:(b++[(⟨(i,v),S⟩:BN n)]).length=b.length+1:=by simp
  obtain⟨L,aw⟩:=ae (pU G n (b.map λx=>x.1.1));rw[<-aw] at t f af ad M;obtain⟨q,hq⟩:=ae b.length;rw[<-hq] at t ac M an a2;have au:=FR.out Wr.drew (I.trans ((ag Wr).mono Je)) _ _ _ L (f.mono (ag Wr)) af (λx H=>ia (t x H) ac) i S;have ar:=aa ad;have aS:=aa an;have a1:=aa au;have aQ:=aa t;have Yu:=aa M;have p1:=Gr.cell (ag Wr) (f.is.at 1 rfl);rw[af] at p1;have v1:=J.gd 0 rfl;clear ad an au t ac M aw hq;refine wpIn_block ?_;dsimp only;refine D_ #[true,true,true,true,true,true,true,true,true,false] 9 1 mixed (by rfl) (by kernel_rfl) (by rintro⟨a,w,h⟩;exact h) ?_;refine ay [0,1,2,3,4,5,6] 2 ?_
  iterate 7 (refine aA rfl ?_;go_big_quiet_step (rfl))
  refine az ?_;refine aI 7 ?_;go_wp2_with fail;refine a1.out.mono ?_;rintro e wc⟨r,rfl,hN,aE⟩;obtain⟨ua,un,uc,rfl,hN⟩:=hN.out;go_wp2_with fail;refine aF aE ?_;refine ay [8] 0 ?_
  iterate 1 (refine aA rfl ?_;go_big_quiet_step (rfl))
  refine az ?_;have z:=(ag Wr).trans aE;have Q:=f.mono z;have aU:=J.mono z;have am:i<L.length:=by omega
  obtain⟨oa,om,oc,bb,_⟩:=Q.at_ am;have:=Q.frozen am;have ap:=Q.store am hN;obtain⟨cs,aN⟩:=bV Q.row.choose_spec.1 (k:=g) rfl;have ch:=bJ.put (o:=i) (⟨aN⟩:Is wc g cs eD) (.slice ua un uc);have a4:=ch.is aU (by decide);refine aJ [9] ?_;refine tail_cons rfl ?_;go_wp2_with fail;refine tail_nil ?_;have a3:=I.trans (z.mono Je);refine⟨((KeepsOthers.of_below z).trans (KeepsOthers.setCell _ _ _)).from _,⟨?_,λj hj H=>?_⟩,⟨?_,?_,a4,?_⟩,aj a3 (by omega)⟩
  ·rw[nB (w:=wc) (jj _ _ _ _ (by simp only;omega))];exact z.cell (p:=⟨w4.heap.size,0,none⟩) (by show w4.heap.size<Wr.heap.size;omega)
  ·obtain⟨a,m,c,h,_⟩:=ap.at_ (k:=j) (by rw[m7];omega);exact⟨a,m,c,h⟩
  ·intro x H;rw[ar.out] at H;rw[aS.out];rcases q_ H with h|rfl
   ·exact ia (aQ.out x h) (kj (by unfold Go.Cd.B;decide) (pz _))
   rw[ye];exact Yu.out
  ·rw[ar.out];exact ap
  have:=z.size;simp only[mn];omega
 case done=>
  rintro D ys Wd hD O⟨⟨t,f,J,aT⟩,I⟩ hK;have O:ys.map (λx=>x.1.1)=mE id n n:=O;rw[O,<-HT.out] at f;have:w4.heap.size+1<=D:=by simpa using hD
  have Uw:Wd.grownBy (Wd.putObj D (.deferred none)) (some D):=grownBy_putObj' Wd D (.deferred none);have aq:∀r,some D=some r->∃o:Obj,Wd.heap[r]? = some o/\o.isCells=false:=λr e=>by cases e;exact⟨_,hK,rfl⟩
  have aW:=aa (f.QC Uw aq);have Vk:=aa (I.trans (belowK_b (w:=w) (d' _) Wd D _ (.deferred none) (by omega) hK rfl rfl));have:=J.at 0 rfl;clear t f J Uw aq O;go_wp2;refine⟨by simp,.inl ⟨_,_,rfl,run_takeDeferred hK,?_⟩⟩;exact⟨.tuple #[.pointer (some ⟨d.heap.size,0,none⟩),.int .i64 0],by simp[results,results11,go_sem],_,_,rfl,aW.out,Vk.out⟩
 case stop=>
  rintro D c b Wd _ _ h _;exact h.elim
end
end Go.Proofs.YtmnimbnojdndmaaGreatDoor
