/- One machine of an NFD counts as its units do, multiplied; no condition. -/
import Derived.Test.YtmnimbnojdndmaaGreatDoorR10
import Derived.BigRegion
set_option maxRecDepth 100000
set_option maxHeartbeats 6400000
set_option linter.all false
namespace Go.Proofs.YtmnimbnojdndmaaGreatDoor
open Go.RowKit Go.Cd _root_.Go.Proofs.Tryz
abbrev fu:TypeId:=95
abbrev eX:TypeId:=90
def jT (x:Nat×Value):List Value:=[.int .i64 x.1,x.2]
def R_ (x:Nat×Value):(jT x).length=2:=rfl
def BP:mV prog 86 fu (.agg #[.int .i64 0,.slice none 0 0]) 2 32:=⟨rfl,underlying86,info_parts (by kernel_rfl)⟩
def Zk (v:Value):Prop:=∃a n c,v=.slice a n c
def Zk.own {w:World} {base b n:Nat} {e:TypeId} {v:Value} {d:List Value} (h:w.ownsRow base e b v n d):Zk v:=by obtain⟨a,c,rfl,_⟩:=ak h;exact⟨_,_,_,rfl⟩
def KH {w:World} (x:Nat) (m:Value) (c:Nat) (g:x<1000000) (f:c<1000000) :
 Calls prog 40 #[.agg #[.int .i64 x,m],.int .i64 c] w λe w'=>e=.returned (.int .i64 ((x:Int)-c))/\Below w.heap.size w w':=by
 have b:=ah (w:=w) (.cells #[.int .i64 x,m] fu);have a:=Is.new w #[.int .i64 x,m] fu;have:=a.at 0 rfl;go_enter func40,ntmps40;go_wp2;go_ret;exact⟨by simp,b⟩
def abr (L:List (Nat×Value)) (c k:Nat) (b:Bool):Prop:=k<=L.length/\(∀t (a:t<L.length),t<k->L[t].1<c)/\(∀t (a:t<L.length),k<=t->c<=L[t].1)/\(b=true↔∃d:k<L.length,L[k].1=c)
def Hd {w:World} {base:Nat} {v:Value} {L:List (Nat×Value)} (h:w.ownsRow base fu 2 v L.length (L.flatMap jT)) (hv:∀x∈L,Zk x.2) (hs:L.Pairwise λa b=>a.1<b.1) (Y:∀r∈L,r.1<1000000) (hl:L.length<1000000) (c:Nat) (hc:c<1000000) :
 Calls prog 39 #[v,.int .i64 c,.func (.func 40) #[] #[]] w λe w'=>
  ∃(k:Nat) (b:Bool),e=.returned (.tuple #[.int .i64 k,.bool b])/\abr L c k b/\Below w.heap.size w w':=by
 have HX:=aa (λ(i:Nat) (d:i<L.length)=>dC (f:=jT) R_ rfl h d);obtain⟨a,cap,rfl,_,_⟩:=ak h;obtain⟨n,M⟩:=ae L.length;have F:=aa M;have HV:=aa hv;have HS:=aa (show ∀i j (d:i<L.length) (hj:j<L.length),i<j->L[i].1<L[j].1 from λi j d hj T=>(List.pairwise_iff_getElem.1 hs) i j d hj T);have HT:=aa Y;rw[<-M] at hl⊢;clear h M hs Y hv;go_enter func39,ntmps39;go_wp2
 go_loopg [9,10] n (λg s7 s8 wr=>∃q d:Nat,s7=.int .i64 q/\s8=.int .i64 d/\q<=d/\d<=n/\d-q<=g/\Below w.heap.size w wr/\(∀t (o:t<L.length),t<q->L[t].1<c)/\(∀t (o:t<L.length),d<=t->c<=L[t].1))
 case atStart=>exact⟨0,n,rfl,rfl,Nat.zero_le _,Nat.le_refl _,by omega,Below.refl _ _,λt _ o=>absurd o (Nat.not_lt_zero _),λt V N=>by have:=F.out;omega⟩
 case round=>
  obtain⟨q,d,rfl,rfl,ac,D,hg,B,V,N⟩:=hrel;have I:=aa (And.intro V N);clear V N;by_cases ad:q<d
  ·obtain⟨h,hh⟩:=ae ((q+d) / 2);have A:h<L.length:=by have:=F.out;omega
   have ab:q<=h/\h<d:=by omega
   have e7:((q:Int)+(d:Int)) / 2=(h:Int):=by omega
   obtain⟨K,J,l,_,_,_,p⟩:=HX.out h A;have X:=aB B (show w.cell? ⟨K,h*2,none⟩=some (.int .i64 (L[h].1:Nat)) from (p 0 (by decide)).1);have S:=aB B (show w.cell? ⟨K,h*2+1,none⟩=some L[h].2 from (p 1 (by decide)).1);have u:=HT.out _ (List.getElem_mem A);obtain⟨U,nm,O,z⟩:=HV.out _ (List.getElem_mem A);rw[z] at S;obtain⟨y,C⟩:=ae (L[h].1);rw[<-C] at X u;have Y1:=aa (λt (o:t<L.length) (s:t<h)=>(show L[t].1<y from by rw[C];exact HS.out t h o A s));have Y2:=aa (λt (o:t<L.length) (s:h<t)=>(show y<L[t].1 from by rw[C];exact HS.out h t A o s));have YE:=aa (show ∀t (o:t<L.length),t=h->L[t].1=y from λt o e=>by subst e;exact C.symm);have H:=aa (λW=>KH (w:=W) y (.slice U nm O) c u hc);injection l with l _ G;subst G;subst l;clear p z C hh;by_cases E:y<c
   ·have P:decide ((y:Int)-(c:Int)<0)=true:=by simp;omega
    go_wp2_with (go_at_call 40;refine(H.out _).mono ?_;rintro e Q⟨rfl,m⟩)
    go_roundg (d-(h+1))
    case measure=>omega
    case rel=>
     refine⟨h+1,d,by simp,rfl,by omega,D,Nat.le_refl _,af B m,λt o s=>?_,I.out.2⟩;rcases Nat.lt_or_ge t h with h3|h3
     ·have:=Y1.out t o h3;omega
     have:=YE.out t o (by omega);omega
   have P:decide ((y:Int)-(c:Int)<0)=false:=by simp;omega
   go_wp2_with (go_at_call 40;refine(H.out _).mono ?_;rintro e Q⟨rfl,m⟩)
   go_roundg (h-q)
   case measure=>omega
   case rel=>
    refine⟨q,h,rfl,rfl,by omega,by omega,Nat.le_refl _,af B m,I.out.1,λt o s=>?_⟩;rcases Nat.lt_or_ge h t with h3|h3
    ·have:=Y2.out t o h3;omega
    have:=YE.out t o (by omega);omega
  have:d=q:=by omega
  subst this;by_cases M:d<n
  ·have A:d<L.length:=by have:=F.out;omega
   obtain⟨K,J,l,_,_,_,p⟩:=HX.out d A;have X:=aB B (show w.cell? ⟨K,d*2,none⟩=some (.int .i64 (L[d].1:Nat)) from (p 0 (by decide)).1);have S:=aB B (show w.cell? ⟨K,d*2+1,none⟩=some L[d].2 from (p 1 (by decide)).1);have u:=HT.out _ (List.getElem_mem A);obtain⟨U,nm,O,z⟩:=HV.out _ (List.getElem_mem A);rw[z] at S;obtain⟨y,C⟩:=ae (L[d].1);rw[<-C] at X u;have Z:=aa C;have H:=aa (λW=>KH (w:=W) y (.slice U nm O) c u hc);injection l with l _ G;subst G;subst l;clear p z C;by_cases E:y=c
   ·have P:(((y:Int)-(c:Int))==0)=true:=by simp;omega
    have R:=aa E;clear E;go_wp2_with (go_at_call 40;refine(H.out _).mono ?_;rintro e Q⟨rfl,m⟩);go_ret2;exact⟨d,true,by first|rfl|simp,⟨by rw[<-F.out];exact D,I.out.1,I.out.2,⟨λ_=>⟨A,by rw[<-Z.out];exact R.out⟩,λ_=>rfl⟩⟩,af B m⟩
   have P:(((y:Int)-(c:Int))==0)=false:=by simp;omega
   go_wp2_with (go_at_call 40;refine(H.out _).mono ?_;rintro e Q⟨rfl,m⟩);go_ret2;exact⟨d,false,by first|rfl|simp,⟨by rw[<-F.out];exact D,I.out.1,I.out.2,⟨λh=>(by cases h),λ⟨_,h⟩=>absurd (Z.out.trans h) E⟩⟩,af B m⟩
  go_wp2_with (go_at_call 40;trivial);go_ret2;exact⟨d,false,by first|rfl|simp,⟨by rw[<-F.out];exact D,I.out.1,I.out.2,⟨λh=>(by cases h),λ⟨hk,_⟩=>absurd hk (by have:=F.out;omega)⟩⟩,B⟩
def N8 {P:Program} {W:World} {ops:Array Oper} {rest:List Oper} {o:Oper} {a:Act} {Q:Exit->Act->World->Prop} (O:o.guard=none) (s x:Operand) (t:TypeId)
 (ho:o.op=.call { callee:=.builtin .append,args:=#[s,x],argTypes:=#[t,t] })
 (base:Nat) (e:TypeId) (z:Value) (d b:Nat) (hE:mV P t e z d b) (S:0<d) (aa:d<=1000) (kT:0<b) (X:b<=100000)
 {v:Value} {n:Nat} {I:List Value} (hs:a.eval s=v) (k:W.ownsRow base e d v n I) (A:base<=W.heap.size)
 (us:List Value) (Y:∀u∈us,u.oneCell'=true) (r:Addr) (m c:Nat) (H:us.length=m*d) (hx:a.eval x=.slice (some r) m c) (F:∀j u,us[j]? = some u->W.cell? (r.add j)=some u) (hn:n+m<1000000)
 (h:∀v' K,K.ownsRow base e d v' (n+m) (I++us)->W.grownBy K v.ownBlock->kK W v v'->wpList P ops Q rest (a.put o.dst v') K):wpList P ops Q (o::rest) a W:=by
 obtain⟨M,C,i,B,N,f,y⟩:=hE;have J:us.length=m*i.size:=by rw[f];exact H
 have L:(n+m)*b<=140737488355328:=by
  have:(n+m)*b<=1000000*100000:=Nat.mul_le_mul (by omega) X;omega
 obtain⟨v',w',q,Z,h3,_⟩:=run_append_own (P:=P) W base t o.type e i z d b C B N f y M S v n I k r m c us H F Y (by unfold maxLen;omega) L A;refine Lib.wpList_append_run _ O s x _ _ ho v _ hs hx v' w' q (h v' w' Z h3 ?_);rcases Nat.eq_zero_or_pos m with hm0|hm0
 ·have T:us=[]:=List.length_eq_zero_iff.1 (by rw[H,hm0,Nat.zero_mul]);subst T;subst hm0;have l:(Builtin.append_ #[t,t] o.type #[v,.slice (some r) 0 c]).run P W=.ok v W:=by
   rcases k.2 with⟨rfl,rfl⟩|⟨g,cap,D,rfl,R,V,G,U,E,w⟩
   ·simp[Builtin.append_,run_underlying C,sizeOf,typeInfo,B,Builtin.lenOf,run_firstCells_some (P:=P) W i.size 0 r 0 c [] J F]
   simp[Builtin.append_,run_underlying C,sizeOf,typeInfo,B,Builtin.lenOf,G,Builtin.firstCells,loadCells,loadCellsFrom,storeCells]
  rw[l] at q;injection q with e1 _;subst e1;exact .inl rfl
 rcases k.2 with⟨rfl,rfl⟩|⟨g,cap,D,rfl,R,V,G,U,E,w⟩
 ·have l:=run_append_nil (P:=P) W t o.type e i z C B N r m c us J F hm0 (by omega) (by rw[y];have:=Nat.mul_le_mul (show m<=1000000 by omega) X;omega);rw[l] at q;injection q with e1 _;subst e1;exact .inr ⟨_,rfl,Nat.le_refl _⟩
 by_cases p:n+m<=cap
 ·have l:=run_append_room (P:=P) W t o.type e i C B g n cap D V r m c us J F Y p (by rw[H,f,E,<-Nat.add_mul];exact Nat.mul_le_mul_right _ p);rw[l] at q;injection q with e1 _;subst e1;exact .inl rfl
 have l:=run_append_grow (P:=P) W t o.type e i z C B N ⟨g,0,none⟩ n cap I (by rw[f];exact k.1) (k.cells (g:=g) rfl) r m c us J F (by omega) (by omega) (growslice_fits (by omega) (by rw[y];omega));rw[l] at q;injection q with e1 _;subst e1;exact .inr ⟨_,rfl,Nat.le_refl _⟩
def BQ {w:World} {base:Nat} {v:Value} {L:List (Nat×Value)} (o:w.ownsRow base fu 2 v L.length (L.flatMap jT)) (s:base<=w.heap.size) (H:L.length<100000) (x:Nat×Value) (q:x.2.oneCell'=true) {f:Nat} (m:Is w f (jT x).toArray fu) :
 Calls prog 41 #[v,.int .i64 L.length,.slice (some ⟨f,0,none⟩) 1 1] w λe w'=>∃v',e=.returned v'/\w'.ownsRow base fu 2 v' (L.length+1) ((L++[x]).flatMap jT)/\w.grownBy w' v.ownBlock/\kK w v v':=by
 obtain⟨n,p⟩:=ae L.length;obtain⟨G,l⟩:=ae (L.flatMap jT);have D:=aa (show(L++[x]).flatMap jT=G++jT x from by rw[List.flatMap_append,l];simp);rw[<-p] at H⊢;rw[<-p,<-l] at o;have a:∀(j:Nat) (u:Value),(jT x)[j]? = some u->w.cell? ((⟨f,0,none⟩:Addr).add j)=some u:=λj u I=>by
  have E:(⟨f,0,none⟩:Addr).add j=⟨f,j,none⟩:=by unfold Addr.add;split <;> simp_all
  rw[E];exact m.at j (by simpa using I)
 have t:=aa a;have r:=aa o;have c:∀u∈jT x,u.oneCell'=true:=λu A=>by
  simp only[jT,List.mem_cons,List.not_mem_nil,or_false] at A;rcases A with rfl|rfl
  ·rfl
  exact q
 have k:=aa c;clear p l a c m;rw[D.out];rcases o.2 with⟨rfl,h0⟩|⟨g,cap,F,rfl,_,_,C,_⟩
 ·subst h0;clear o;go_enter func41,ntmps41;go_wp2_with (refine N8 (W:=w) rfl _ _ 86 rfl base fu _ 2 32 BP (by decide) (by decide) (by decide) (by decide) (v:=.slice none 0 0) rfl r.out s (jT x) k.out ⟨f,0,none⟩ 1 1 rfl rfl t.out (by omega) ?_;intro z B d i h;have b:=aa (And.intro d (And.intro i h));clear d i h);go_ret;exact⟨_,rfl,b.out.1,b.out.2.1,b.out.2.2⟩
 clear o;by_cases y:n=cap
 ·subst y;go_enter func41,ntmps41;go_wp2_with (refine N8 (W:=w) rfl _ _ 86 rfl base fu _ 2 32 BP (by decide) (by decide) (by decide) (by decide) (v:=.slice (some ⟨g,0,none⟩) n n) rfl r.out s (jT x) k.out ⟨f,0,none⟩ 1 1 rfl rfl t.out (by omega) ?_;intro z B d i h;have b:=aa (And.intro d (And.intro i h));clear d i h);go_ret;exact⟨_,rfl,b.out.1,b.out.2.1,b.out.2.2⟩
 go_enter func41,ntmps41;go_wp2_with (refine N8 (W:=w) rfl _ _ 86 rfl base fu _ 2 32 BP (by decide) (by decide) (by decide) (by decide) (v:=.slice (some ⟨g,0,none⟩) n cap) rfl r.out s (jT x) k.out ⟨f,0,none⟩ 1 1 rfl rfl t.out (by omega) ?_;intro z B d i h;have b:=aa (And.intro d (And.intro i h));clear d i h);go_ret;exact⟨_,rfl,b.out.1,b.out.2.1,b.out.2.2⟩
section
open Go.RowKit Go.Cd
abbrev d_:=Nat×Value×List Nat
def fB (x:d_):List Value:=[.int .i64 x.1,x.2.1]
def jC (x:d_):(fB x).length=2:=rfl
abbrev cB:=Nat×Value×List d_
def lV (x:cB):List Value:=[.int .i32 x.1,x.2.1,.slice none 0 0,.slice none 0 0,.int .i64 0,.int .i64 0]
def kY (x:cB):(lV x).length=6:=rfl
def Zl:mV Tryz.prog 82 eX (.agg #[.int .i32 0,.slice none 0 0,.slice none 0 0,.slice none 0 0,.int .i64 0,.int .i64 0]) 6 96:=⟨rfl,Tryz.underlying82,info_parts (by kernel_rfl)⟩
def N_ (w:World) (F:Nat) (e:TypeId) (size:Nat) (v:Value) (n:Nat) (xs:List Value):Prop:=w.ownsRow 0 e size v n xs/\∀k,v.ownBlock=some k->k<F
def N_.low {w w':World} {F n a:Nat} {e:TypeId} {v:Value} {b:List Value} (h:N_ w F e a v n b) (d:Below F w w'):N_ w' F e a v n b:=⟨jS h.1 λk c=>d.block k (h.2 k c),h.2⟩
def N_.of {w:World} {B n a:Nat} {e:TypeId} {v:Value} {b:List Value} (h:w.ownsRow B e a v n b):N_ w w.heap.size e a v n b:=⟨aT h (Nat.zero_le _),λk c=>(h.lt k c).2⟩
def N_.le {w:World} {F c n a:Nat} {e:TypeId} {v:Value} {b:List Value} (h:N_ w F e a v n b) (d:F<=c):N_ w c e a v n b:=⟨h.1,λk f=>Nat.lt_of_lt_of_le (h.2 k f) d⟩
structure oz (w w':World) (F:Nat) (e:TypeId):Prop where
 size:w.heap.size<=w'.heap.size
 keep:∀k,k<F->mZ w k e->w'.heap[k]? = w.heap[k]?
def oz.owF {w w':World} {F n a:Nat} {e:TypeId} (h:oz w w' F e) {v:Value} {d:List Value} (b:N_ w F e a v n d):N_ w' F e a v n d:=⟨jS b.1 λk c=>h.keep k (b.2 k c) (bV b.1 c),b.2⟩
def oz.fV {w w':World} {t e:TypeId} (h:bJ w w' t) (a:e≠t) (F:Nat) (d:F<=w.heap.size):oz w w' F e:=⟨h.size,λk f b=>h.keep k (by omega) λc=>a (b.one c)⟩
def oz.of_below {w w':World} {F:Nat} {e:TypeId} (h:Below F w w') (b:w.heap.size<=w'.heap.size):oz w w' F e:=⟨b,λk a _=>h.block k a⟩
def wM (w:World) (F:Nat) (r:cB):Prop:=N_ w F fu 2 r.2.1 r.2.2.length (r.2.2.flatMap fB)/\∀x∈r.2.2,N_ w F aN 1 x.2.1 x.2.2.length (aM x.2.2)
def wM.keep {w w':World} {F:Nat} {r:cB} (h:wM w F r) (a:oz w w' F fu) (c:oz w w' F aN):wM w' F r:=⟨a.owF h.1,λx b=>c.owF (h.2 x b)⟩
def wM.le {w:World} {F b:Nat} {r:cB} (h:wM w F r) (a:F<=b):wM w b r:=⟨h.1.le a,λx c=>(h.2 x c).le a⟩
structure He (w:World) (F G:Nat) (r:cB):Prop where
 row:w.ownsRow F fu 2 r.2.1 r.2.2.length (r.2.2.flatMap fB)
 old:∀x∈r.2.2.dropLast,N_ w G aN 1 x.2.1 x.2.2.length (aM x.2.2)
 last:∀x,r.2.2.getLast? = some x->w.ownsRow G aN 1 x.2.1 x.2.2.length (aM x.2.2)
 fg:F<=G
 gs:G<=w.heap.size
def He.Ae {w:World} {F G:Nat} {r:cB} (h:He w F G r):wM w w.heap.size r:=by
 refine⟨N_.of h.row,λx a=>?_⟩;rcases List.eq_nil_or_concat r.2.2 with e|⟨q,y,e⟩
 ·rw[e] at a;cases a
 have b:r.2.2=q++[y]:=by simpa using e
 rw[b] at a;rcases List.mem_append.1 a with a|a
 ·exact(h.old x (by rw[b];simpa using a)).le h.gs
 rw[List.mem_singleton.1 a];exact N_.of (h.last y (by rw[b];simp))
def He.ext {w w':World} {F G:Nat} {r:cB} (h:He w F G r) (a:Below w.heap.size w w'):He w' F G r:=
 ⟨aH h.row a,λx b=>(h.old x b).low (a.mono h.gs),λx b=>aH (h.last x b) a,h.fg,Nat.le_trans h.gs a.size⟩
def He.iQ {w w':World} {F G:Nat} {r:cB} (h:He w F G r) {t:TypeId} (a:bJ w w' t) (d:fu≠t) (c:aN≠t):He w' F G r:=
 ⟨a.own h.row d,λx b=>(oz.fV a c G h.gs).owF (h.old x b),λx b=>a.own (h.last x b) c,h.fg,Nat.le_trans h.gs a.size⟩
structure Jb (w:World) (B p:Nat) (dv rs:Value) (Rs:List cB) (c:cB) (F G:Nat):Prop where
 is:Is w p #[dv,rs,.slice none 0 0,.bool false] 84
 runs:w.ownsRow B eX 6 rs (Rs.length+1) ((Rs++[c]).flatMap lV)
 Ae:∀r∈Rs,wM w F r
 cur:He w F G c
 low:B<=p
section
variable {w w' : World} {B p : Nat} {dv rs : Value} {Rs : List cB} {c : cB} {F G : Nat}
def Jb.ext (h:Jb w B p dv rs Rs c F G) (a:Below w.heap.size w w'):Jb w' B p dv rs Rs c F G:=
 ⟨h.is.mono a,aH h.runs a,λr b=>(h.Ae r b).keep (.of_below (a.mono (Nat.le_trans h.cur.fg h.cur.gs)) a.size) (.of_below (a.mono (Nat.le_trans h.cur.fg h.cur.gs)) a.size),h.cur.ext a,h.low⟩
def Jb.Zm (h:Jb w B p dv rs Rs c F G) {a:Value} {hd:Nat} (l:w'.ownsRow B eX 6 a (Rs.length+2) ((Rs++[c]).flatMap lV++lV (hd,.slice none 0 0,[]))) (j:w.grownBy w' rs.ownBlock) :
 Jb (w'.setCell ⟨p,1,none⟩ a) B p dv a (Rs++[c]) (hd,.slice none 0 0,[]) w'.heap.size w'.heap.size:=by
 have b:=bJ.bQ h.runs j;have i:=b.is h.is (by decide);have g:=bJ.put (o:=1) i a;have d:F<=w.heap.size:=Nat.le_trans h.cur.fg h.cur.gs;have k:=(h.cur.iQ b (by decide) (by decide)).iQ g (by decide) (by decide);have e:(w'.setCell ⟨p,1,none⟩ a).heap.size=w'.heap.size:=by simp
 refine⟨i.set 1 a,?_,λr f=>?_,⟨World.ownsRow_nil _ _ _ _,by simp,by simp,Nat.le_refl _,by rw[e];exact Nat.le_refl _⟩,h.low⟩
 ·have:=g.own l (by decide);rw[List.flatMap_append,List.length_append];simpa using this
 rcases List.mem_append.1 f with f|f
 ·refine wM.le (((h.Ae r f).keep (.fV b (by decide) F d) (.fV b (by decide) F d)).keep (.fV g (by decide) F (Nat.le_trans d b.size)) (.fV g (by decide) F (Nat.le_trans d b.size))) (Nat.le_trans d b.size)
 rw[List.mem_singleton.1 f];have:=k.Ae;rw[e] at this;exact this
end
def KJ {α:Type} (f:α->List Value) (m:Nat) (hf:∀a,(f a).length=m) (Rs:List α) (c b:α) (j:Nat) (u:Value) (e:j<m) (d:(f c).set j u=f b):((Rs++[c]).flatMap f).set (Rs.length*m+j) u=(Rs++[b]).flatMap f:=by
 rw[List.flatMap_append,List.flatMap_append,List.set_append_right (h:=by rw[vW f m hf];omega),vW f m hf,Nat.add_sub_cancel_left];simp[d]
section
variable {w w' : World} {B p : Nat} {dv rs : Value} {Rs : List cB} {F G : Nat}
def yg {w w':World} {F B n a:Nat} {e t:TypeId} {v:Value} {d:List Value} (f:w.ownsRow B e a v n d) (b:w.grownBy w' v.ownBlock) (g:F<=B) (i:F<=w.heap.size):oz w w' F t:=
 ⟨b.size,λk h _=>b.block k (by omega) λc=>by have:=(f.lt k c.symm).1;omega⟩
def Jb.Vy {hd:Nat} {l:Value} {Ls:List d_} {g k cap:Nat} (h:Jb w B p dv (.slice (some ⟨g,0,none⟩) k cap) Rs (hd,l,Ls) F G) {a:Value} {n:Nat} (z:w'.ownsRow F fu 2 a (Ls.length+1) (Ls.flatMap fB++fB (n,.slice none 0 0,[]))) (q:w.grownBy w' l.ownBlock) :
 Jb (w'.setCell ⟨g,Rs.length*6+1,none⟩ a) B p dv (.slice (some ⟨g,0,none⟩) k cap) Rs (hd,a,Ls++[(n,.slice none 0 0,[])]) F w'.heap.size:=by
 have d:F<=w.heap.size:=Nat.le_trans h.cur.fg h.cur.gs;have b:=bJ.bQ h.cur.row q;have c:=b.own h.runs (by decide);obtain⟨v,m⟩:=bV c (k:=g) rfl;have f:=bJ.put (o:=Rs.length*6+1) (⟨m⟩:Is w' g v eX) a;have j:(w'.setCell ⟨g,Rs.length*6+1,none⟩ a).heap.size=w'.heap.size:=by simp
 have t:k=Rs.length+1:=by
  obtain⟨_,_,e,_⟩:=ak c;injection e with _ e _
 have s:=h.cur;refine⟨f.is (b.is h.is (by decide)) (by decide),?_,λr y=>?_,⟨?_,λx i=>?_,λx i=>?_,?_,by rw[j];exact Nat.le_refl _⟩,h.low⟩
 ·have:=(t▸c).stored (Rs.length*6+1) a;rw[KJ lV 6 kY Rs (hd,l,Ls) (hd,a,Ls++[(n,.slice none 0 0,[])]) 1 a (by decide) rfl] at this;rw[t];exact this.1
 ·exact((h.Ae r y).keep (yg s.row q (Nat.le_refl _) d) (.fV b (by decide) F d)).keep (.fV f (by decide) F (Nat.le_trans d b.size)) (.fV f (by decide) F (Nat.le_trans d b.size))
 ·have:=f.own z (by decide);rw[List.flatMap_append,List.length_append];simpa using this
 ·rw[List.dropLast_concat] at i;have u:=(s.Ae).2 x i;exact(oz.fV f (by decide) _ (Nat.le_refl _)).owF (((oz.fV b (by decide) _ (Nat.le_refl _)).owF u).le b.size)
 ·rw[List.getLast?_concat] at i;cases i;exact World.ownsRow_nil _ _ _ _
 exact Nat.le_trans d b.size
def Jb.Zn {hd:Nat} {Ls:List d_} {n:Nat} {v v':Value} {l:List Nat} {gl k cap:Nat} (h:Jb w B p dv rs Rs (hd,.slice (some ⟨gl,0,none⟩) k cap,Ls++[(n,v,l)]) F G) {m:Nat} (D:w'.ownsRow G aN 1 v' (l++[m]).length (aM (l++[m]))) (j:w.grownBy w' v.ownBlock) :
 Jb (w'.setCell ⟨gl,Ls.length*2+1,none⟩ v') B p dv rs Rs (hd,.slice (some ⟨gl,0,none⟩) k cap,Ls++[(n,v',l++[m])]) F G:=by
 have b:=h.cur;have t:F<=w.heap.size:=Nat.le_trans b.fg b.gs;have a:=b.last (n,v,l) (by simp);have d:=bJ.bQ a j;have c:=d.own b.row (by decide);obtain⟨A,s⟩:=bV c (k:=gl) rfl;have i:=bJ.put (o:=Ls.length*2+1) (⟨s⟩:Is w' gl A fu) v';have q:F<=gl:=(c.lt gl rfl).1;have u:k=Ls.length+1:=by
  obtain⟨_,_,e,_⟩:=ak c;injection e with _ e _;simpa using e
 have g:Below F w' (w'.setCell ⟨gl,Ls.length*2+1,none⟩ v'):=(Below.refl _ _).setCell q v';refine⟨i.is (d.is h.is (by decide)) (by decide),?_,λr C=>?_,⟨?_,λx f=>?_,λx f=>?_,b.fg,by have:=b.gs;have:=d.size;simp;omega⟩,h.low⟩
 ·have:=i.own (d.own h.runs (by decide)) (by decide);rw[List.flatMap_append] at this⊢;exact this
 ·exact((h.Ae r C).keep (.fV d (by decide) F t) (yg a j b.fg t)).keep (.of_below g g.size) (.of_below g g.size)
 ·have y:w'.ownsRow F fu 2 (.slice (some ⟨gl,0,none⟩) k cap) k ((Ls++[(n,v,l)]).flatMap fB):=by
   have:=c;rw[show(hd,Value.slice (some ⟨gl,0,none⟩) k cap,Ls++[(n,v,l)]).2.2.length=k by simp[u]] at this;exact this
  have:=y.stored (Ls.length*2+1) v';rw[KJ fB 2 jC Ls (n,v,l) (n,v',l++[m]) 1 v' (by decide) rfl] at this;rw[show(hd,Value.slice (some ⟨gl,0,none⟩) k cap,Ls++[(n,v',l++[m])]).2.2.length=k by simp[u]];exact this.1
 ·simp only[List.dropLast_concat] at f;have z:=b.old x (by simpa using f);exact(oz.fV i (by decide) G (Nat.le_trans b.gs d.size)).owF ((yg a j (Nat.le_refl _) b.gs).owF z)
 simp only[List.getLast?_concat] at f;cases f;exact i.own D (by decide)
end
end
end Go.Proofs.YtmnimbnojdndmaaGreatDoor
namespace Go.Cd
section
section
variable (K : Nat -> Nat)
def KL {a:Nat}:∀(B x y:List Nat),(∀b∈B,swp K a b)->gL K (x++a::(B++y))=gL K (x++(B++a::y))
 | [],_,_,_=>rfl
 | b::B,x,y,h=>by
   have f:=x_ K (h b (by simp)) (B++y) x;have d:=KL B (x++[b]) y (λc e=>h c (by simp[e]));simp only[List.append_assoc,List.singleton_append] at d;rw[List.cons_append,f,d];rfl
def Qn:∀(A B x y:List Nat),(∀a∈A,∀b∈B,swp K a b)->gL K (x++(A++(B++y)))=gL K (x++(B++(A++y)))
 | [],_,_,_,_=>rfl
 | a::A,B,x,y,h=>by
   have e:=Qn A B (x++[a]) y (λc f b d=>h c (by simp[f]) b d);have g:=KL K B x (A++y) (λb d=>h a (by simp) b d);simp only[List.append_assoc,List.singleton_append] at e;rw[List.cons_append,e,g];rfl
def up (l:List Nat):Prop:=l.Pairwise λa b=>K a<=K b
def BR:∀{l:List Nat},up K l->dJ K l
 | [],_=>trivial
 | [_],_=>trivial
 | a::b::l,h=>by
   unfold up at h;rw[List.pairwise_cons] at h;refine⟨?_,BR h.2⟩;have:=h.1 b (by simp);unfold swp;omega
def Sb {l m:List Nat}:dJ K l->dJ K m->(∀c,m.head? = some c->K c=0)->dJ K (l++m):=by
 intro d e h0
 induction l with
 | nil=>exact e
 | cons a l ih=>
   cases l with
   | nil=>
     cases m with
     | nil=>trivial
     | cons c m=>exact⟨by unfold swp;have:=h0 c rfl;omega,e⟩
   | cons b l=>exact⟨d.1,ih d.2⟩
end
end
section
section
variable (K : Nat -> Nat)
def fe (l m:List Nat):Prop:=l.Perm m/\∀x y,gL K (x++(l++y))=gL K (x++(m++y))
variable {K}
def fe.refl (l:List Nat):fe K l l:=⟨.refl _,λ_ _=>rfl⟩
def fe.trans {l m n:List Nat} (h:fe K l m) (k:fe K m n):fe K l n:=⟨h.1.trans k.1,λx y=>(h.2 x y).trans (k.2 x y)⟩
def fe.len {l m:List Nat} (h:fe K l m):m.length=l.length:=h.1.length_eq.symm
def fe.mem {l m:List Nat} (h:fe K l m) {x:Nat}:x∈m↔x∈l:=h.1.mem_iff.symm
def fe.app {l m l' a:List Nat} (h:fe K l m) (k:fe K l' a):fe K (l++l') (m++a):=by
 refine⟨h.1.append k.1,λx y=>?_⟩;have b:=h.2 x (l'++y);have c:=k.2 (x++m) y;simp only[List.append_assoc] at b c⊢;rw[b,c]
def fe.rot {A B:List Nat} (h:∀a∈A,∀b∈B,swp K a b):fe K (A++B) (B++A):=by
 refine⟨List.perm_append_comm,λx y=>?_⟩;have:=Qn K A B x y h;simp only[List.append_assoc] at this⊢;exact this
def Ar {l:List Nat} {a:Nat} (h:a∈l):∃z,l.getLast? = some z:=by
 have b:l≠[]:=λe=>by rw[e] at h;cases h
 exact⟨_,List.getLast?_eq_some_getLast b⟩
def acm:up K []:=List.Pairwise.nil
def acn (a:Nat):up K [a]:=by unfold up;simp
def aR {l m:List Nat}:up K (l++m)↔up K l/\up K m/\∀a∈l,∀b∈m,K a<=K b:=by unfold up;exact List.pairwise_append
def Au {l:List Nat} (h:up K l) {a z:Nat} (c:l.getLast? = some z) (b:a∈l):K a<=K z:=by
 obtain⟨l',rfl⟩:∃l',l=l'++[z]:=by
  have d:l≠[]:=λe=>by rw[e] at b;cases b
  refine⟨l.dropLast,?_⟩;rw[List.getLast?_eq_some_getLast d] at c;injection c with c;rw[<-c,List.dropLast_concat_getLast]
 rcases List.mem_append.1 b with b|b
 ·exact(aR.1 h).2.2 a b z (by simp)
 rw[List.mem_singleton.1 b];exact Nat.le_refl _
def Av {l:List Nat} (h:up K l) {a z:Nat} (d:l.head? = some z) (c:a∈l):K z<=K a:=by
 cases l with
 | nil=>cases c
 | cons b l=>
   cases d;rcases List.mem_cons.1 c with rfl|c
   ·exact Nat.le_refl _
   unfold up at h;exact(List.pairwise_cons.1 h).1 a c
def iI {h e g f l k:List Nat} (m:up K (h++e)) (n:up K (g++f)) (pos:∀x∈g,0<K x)
 (u:∀a b,h.getLast? = some a->f.head? = some b->K a<=K b) (p:∀a b,e.head? = some a->g.getLast? = some b->K b<K a)
 (s1:fe K (h++g) l) (s2:fe K (e++f) k) (u1:up K l) (u2:up K k):fe K (h++e++(g++f)) (l++k)/\up K (l++k):=by
 have t:∀a∈h,∀b∈f,K a<=K b:=λa d b c=>by
  obtain⟨z,i⟩:=Ar d;obtain⟨y,j⟩:∃y,f.head? = some y:=by
   cases f with
   | nil=>cases c
   | cons y f=>exact⟨y,rfl⟩
  have:=Au (aR.1 m).1 i d;have:=u z y i j;have:=Av (aR.1 n).2.1 j c;omega
 have o:∀a∈e,∀b∈g,K b<K a:=λa d b c=>by
  obtain⟨z,i⟩:=Ar c;obtain⟨y,j⟩:∃y,e.head? = some y:=by
   cases e with
   | nil=>cases d
   | cons y e=>exact⟨y,rfl⟩
  have:=Au (aR.1 n).1 i c;have:=p y z j i;have:=Av (aR.1 m).2.1 j d;omega
 have r:fe K (e++g) (g++e):=fe.rot λa d b c=>⟨pos b c,o a d b c⟩;refine⟨?_,aR.2 ⟨u1,u2,λa d b c=>?_⟩⟩
 ·have q:=(fe.refl (K:=K) h).app (r.app (fe.refl f));have s:=s1.app s2;refine fe.trans ?_ s;simpa only[List.append_assoc] using q
 have d:=s1.mem.1 d;have c:=s2.mem.1 c;rcases List.mem_append.1 d with d|d <;> rcases List.mem_append.1 c with c|c
 ·exact(aR.1 m).2.2 a d b c
 ·exact t a d b c
 ·exact Nat.le_of_lt (o b c a d)
 exact(aR.1 n).2.2 a d b c
def KM {X Y:List Nat} {c:Nat} (h:up K (X++Y)) (pos:0<K c) (j:∀a,X.getLast? = some a->K a<=K c) (i:∀b,Y.head? = some b->K c<K b):fe K (X++Y++[c]) (X++c::Y)/\up K (X++c::Y):=by
 have g:∀b∈Y,K c<K b:=λb d=>by
  cases Y with
  | nil=>cases d
  | cons y Y=>
    have:=i y rfl;have:=Av (aR.1 h).2.1 rfl d;omega
 refine⟨?_,?_⟩
 ·have:=(fe.refl (K:=K) X).app (fe.rot (K:=K) (A:=Y) (B:=[c]) λa e b d=>by rw[List.mem_singleton.1 d];exact⟨pos,g a e⟩);simpa only[List.append_assoc,List.singleton_append] using this
 refine aR.2 ⟨(aR.1 h).1,?_,λa e b d=>?_⟩
 ·unfold up;rw[List.pairwise_cons];exact⟨λb d=>Nat.le_of_lt (g b d),(aR.1 h).2.1⟩
 rcases List.mem_cons.1 d with rfl|d
 ·obtain⟨z,f⟩:=Ar e;exact Nat.le_trans (Au (aR.1 h).1 f e) (j z f)
 exact(aR.1 h).2.2 a e b d
def Vz {X Y:List Nat} {c:Nat} (h:up K (X++Y)) (pos:∀x∈X,0<K x) (j:∀a,X.getLast? = some a->K a<K c) (i:∀b,Y.head? = some b->K c<=K b):fe K (c::(X++Y)) (X++c::Y)/\up K (X++c::Y):=by
 have g:∀b∈X,K b<K c:=λb d=>by
  obtain⟨z,f⟩:=Ar d;exact Nat.lt_of_le_of_lt (Au (aR.1 h).1 f d) (j z f)
 refine⟨?_,?_⟩
 ·have:=(fe.rot (K:=K) (A:=[c]) (B:=X) λa e b d=>by rw[List.mem_singleton.1 e];exact⟨pos b d,g b d⟩).app (fe.refl Y);simpa only[List.append_assoc,List.singleton_append,List.cons_append,List.nil_append] using this
 refine aR.2 ⟨(aR.1 h).1,?_,λa e b d=>?_⟩
 ·unfold up;rw[List.pairwise_cons];refine⟨λb d=>?_,(aR.1 h).2.1⟩;cases Y with
  | nil=>cases d
  | cons y Y=>exact Nat.le_trans (i y rfl) (Av (aR.1 h).2.1 rfl d)
 rcases List.mem_cons.1 d with rfl|d
 ·exact Nat.le_of_lt (g a e)
 exact(aR.1 h).2.2 a e b d
end
def Sc (A Z:List Nat) (x y:Nat):((A++x::y::Z).set A.length y).set (A.length+1) x=A++y::x::Z:=by
 rw[List.set_append_right (h:=Nat.le_refl _),Nat.sub_self,List.set_cons_zero,List.set_append_right (h:=by omega),show A.length+1-A.length=1 from by omega];rfl
end
def sQ (n c:Nat) (Ls:List (Nat×List Nat)):List (Nat×List Nat):=
 match Ls.getLast? with
 | some (m,l)=>if m=n then Ls.dropLast++[(m,l++[c])] else Ls++[(n,[c])]
 | none=>Ls++[(n,[c])]
abbrev bS:=Nat×List (Nat×List Nat)
def BU (K:Nat->Nat) (rs:List bS) (c:Nat):List bS:=
 if K c=0 then rs++[(c,[])] else rs.dropLast++[((rs.getLastD (0,[])).1,sQ (K c) c (rs.getLastD (0,[])).2)]
def bq (K:Nat->Nat) (l:List Nat):List bS:=l.foldl (BU K) [(0,[])]
def VA {K:Nat->Nat} {l:List Nat} {j:Nat} (a:j<l.length):bq K (l.take (j+1))=BU K (bq K (l.take j)) l[j]:=by
 unfold bq;rw[List.take_succ_eq_append_getElem a,List.foldl_append];rfl
def yh {n c m:Nat} {l:List Nat} {Ls:List (Nat×List Nat)} (h:m=n):sQ n c (Ls++[(m,l)])=Ls++[(m,l++[c])]:=by
 unfold sQ;rw[List.getLast?_concat];simp[h]
def wN {n c:Nat} {Ls:List (Nat×List Nat)} (h:∀x,Ls.getLast? = some x->x.1≠n):sQ n c Ls=Ls++[(n,[c])]:=by
 unfold sQ
 split
 ·rename_i m l e;rw[if_neg (h _ e)]
 rfl
def BV {K:Nat->Nat} {a:List bS} {c:Nat} (h:K c=0):BU K a c=a++[(c,[])]:=by unfold BU;rw[if_pos h]
def yj {K:Nat->Nat} {a:List bS} {r:bS} {c:Nat} (h:K c≠0):BU K (a++[r]) c=a++[(r.1,sQ (K c) c r.2)]:=by
 unfold BU;rw[if_neg h,List.dropLast_concat,List.getLastD_concat]
def KN {K:Nat->Nat}:∀{l:List Nat},dJ K l->∀{j:Nat} (c:j+1<l.length),K l[j+1]=0\/K l[j]<=K l[j+1]
 | [],_,_,c=>absurd c (by simp)
 | [_],_,_,c=>absurd c (by simp)
 | a::b::l,h,0,_=>by
   have:=h.1;unfold swp at this;simp only[List.getElem_cons_zero,List.getElem_cons_succ,Nat.zero_add];omega
 | a::b::l,h,j+1,c=>by
   have:=KN h.2 (j:=j) (by simpa using c);simpa using this
end Go.Cd
namespace Go.Proofs.YtmnimbnojdndmaaGreatDoor
open Go.RowKit Go.Cd _root_.Go.Proofs.Tryz
def gT (Ls:List d_):List Nat:=Ls.map λx=>x.2.2.length+1
def Sd {Ls:List d_} {j:Nat} (a:j<Ls.length):gT (Ls.take (j+1))=gT (Ls.take j)++[Ls[j].2.2.length+1]:=by
 rw[List.take_succ_eq_append_getElem a];unfold gT;rw[List.map_append];rfl
def BZ (Ls:List d_):(gT Ls).length=Ls.length:=by simp[gT]
def B_ {w:World} {F:Nat} {hd:Nat} {la:Option Addr} {ln lc:Nat} {Ls:List d_} (h:wM w F (hd,.slice la ln lc,Ls)) (hl:Ls.length<10000) (Y:∀x∈Ls,x.2.2.length<10000) (u H:Option Addr) (z B D C:Nat) (E y:Int) :
 Calls prog 43 #[.agg #[.int .i32 hd,.slice la ln lc,.slice u z B,.slice H D C,.int .i64 E,.int .i64 y]] w λe w'=>∃v,e=.returned v/\w'.ownsRow w.heap.size bB 1 v Ls.length (ds (gT Ls))/\Below w.heap.size w w':=by
 have a:=h.1.1;have N:ln=Ls.length:=by
  obtain⟨_,_,e,_⟩:=ak a;injection e with _ e _
 subst N;have HX:=aa (λ(i:Nat) (hi:i<Ls.length)=>dC (f:=fB) jC rfl a hi);have HS:=aa (λx (t:x∈Ls)=>ak (h.2 x t).1);have HM:=aa Y;obtain⟨n,A⟩:=ae Ls.length;have HN:=aa A;have r:=ah (w:=w) (.cells #[.int .i32 hd,.slice la Ls.length lc,.slice u z B,.slice H D C,.int .i64 E,.int .i64 y] eX);have V:=Is.new w #[.int .i32 hd,.slice la Ls.length lc,.slice u z B,.slice H D C,.int .i64 E,.int .i64 y] eX;have e1:=V.at 1 rfl;rw[<-A] at hl⊢;rw[<-A] at r V e1;clear h a Y A;go_enter func43,ntmps43;go_wp2_with fail;generalize w.alloc (.cells #[.int .i32 hd,.slice la n lc,.slice u z B,.slice H D C,.int .i64 E,.int .i64 y] eX)=w1 at *;go_loopw [3,5,9] (λov _ P wr=>∃j:Nat,j<=n/\P=.int .i64 j/\wr.ownsRow w.heap.size bB 1 ov j (ds (gT (Ls.take j)))/\Below w.heap.size w wr) (λ_ _ P _=>n-(intOf P).toNat)
 case atStart=>exact⟨0,Nat.zero_le _,rfl,World.ownsRow_nil _ _ _ _,r⟩
 case round=>
  obtain⟨j,hj,rfl,q,p⟩:=hrel;by_cases ac:j<n
  ·have zj:=eG (show j<n by omega);have k:j<Ls.length:=by have:=HN.out;omega
   obtain⟨g,Z,m,_,_,_,G⟩:=HX.out j k;injection m with m _ Q;subst Q;subst m;have s:=HM.out _ (List.getElem_mem k);obtain⟨X,yc,d,_,_⟩:=HS.out _ (List.getElem_mem k);have b:=Sd k;obtain⟨x,t⟩:=ae (Ls[j]);rw[<-t] at G s d b;obtain⟨I,S⟩:=ae x.2.2.length;rw[<-S] at s d b;have c0:=aB p (show w.cell? ⟨g,j*2,none⟩=some (.int .i64 (x.1:Nat)) from (G 0 (by decide)).1);have L:=aB p (show w.cell? ⟨g,j*2+1,none⟩=some (.slice X I yc) from by rw[(G 1 (by decide)).1];simp[fB,d]);obtain⟨T,o⟩:=ae (I+1);rw[<-o] at b;have:IntKind.i64.wrap ((I:Int)+1)=(T:Int):=by rw[IntWalk.i64_in _ (by omega)];omega
   have M:=aa b;have O:=aa q;have:=aa o;have hs:=p.size;clear G d b t S o q;obtain⟨w2,c⟩:=ae (wr.alloc (.cells #[.int .i64 (x.1:Nat),.slice X I yc] fu));have l:=aO c;have J:=p.trans (l.mono hs);have K:=aH O.out l;have k2:=Is.nw c;have:=k2.at 1 rfl;have:w.heap.size<=w2.heap.size:=Nat.le_trans hs l.size;go_upto_region 5 with fail;rw[<-c];clear c c0 L
   go_wp2_with (
    refine f_ (W:=w2) rfl _ _ 23 rfl w.heap.size bB (.int .i64 0) 8 jI u3 j _ rfl K (.int .i64 (T:Nat)) rfl rfl (by omega) (by unfold maxLen;omega) w J (Nat.le_refl _) ?_;intro v3 w3 U R _ _;have M6:=aa (show w3.ownsRow w.heap.size bB 1 v3 (j+1) (ds (gT (Ls.take (j+1)))) from by rw[M.out,Q3];exact U)
    clear U)
   go_roundw
   case rel=>exact⟨j+1,by omega,by simp,M6.out,R⟩
   case measure=>simp[intOf];omega
  have zj:=gI (show n<=j by omega);obtain rfl:j=n:=by omega
  have ht:Ls.take j=Ls:=List.take_of_length_le (by rw[HN.out];exact Nat.le_refl _);rw[ht] at q;have O:=aa q;clear q ht;go_wp2_with fail;go_ret;exact⟨_,rfl,O.out,p⟩
end Go.Proofs.YtmnimbnojdndmaaGreatDoor
namespace Go.Proofs.YtmnimbnojdndmaaGreatDoor
open Go.RowKit Go.Cd
structure nk (w:World):Prop where
 acp:dL w
 heads:dB w
def nk.mono {w w':World} (h:nk w) (a:Below w.heap.size w w'):nk w':=⟨h.acp.mono a,h.heads.mono a⟩
section
open Go.RowKit Go.Cd _root_.Go.Proofs.Tryz
def bI (W:World) (b:Nat) (p l:List Nat) (q:List Value):Prop:=Is W b (aM p++(aM l++q)).toArray aN
section
variable {W W' : World} {b : Nat} {p l : List Nat} {q : List Value}
def bI.at (h:bI W b p l q) {k c o:Nat} (f:o=p.length+k) (d:l[k]? = some c):W.cell? ⟨b,o,none⟩=some (.int .i32 (c:Nat)):=by
 subst f;refine Is.at h _ ?_;obtain⟨a,e⟩:=List.getElem?_eq_some_iff.1 d;rw[List.getElem?_toArray,List.getElem?_append_right (by simp),bF,Nat.add_sub_cancel_left,List.getElem?_append_left (by simpa using a),List.getElem?_eq_getElem (by simpa using a),dR _ _ a,e]
def bI.frozen (h:bI W b p l q) (o:Nat):W.frozen? ⟨b,o,none⟩=false:=Is.frozen h o
def bI.lt (h:bI W b p l q):b<W.heap.size:=Is.lt h
def bI.set (h:bI W b p l q) {k o:Nat} (d:o=p.length+k) (a:k<l.length) (c:Nat):bI (W.setCell ⟨b,o,none⟩ (.int .i32 (c:Nat))) b p (l.set k c) q:=by
 subst d;have:=Is.set h (p.length+k) (.int .i32 (c:Nat));have e:(aM p++(aM l++q)).toArray.setIfInBounds (p.length+k) (.int .i32 (c:Nat))=(aM p++(aM (l.set k c)++q)).toArray:=by
  rw[List.setIfInBounds_toArray,List.set_append_right (h:=by simp),bF,Nat.add_sub_cancel_left,List.set_append_left (h:=by simpa using a)];simp[aM,List.map_set]
 unfold bI;rw[<-e];exact this
def bI.mono (h:bI W b p l q) (a:Below W.heap.size W W'):bI W' b p l q:=Is.mono h a
end
def set_mid (A Z:List Nat) (x y k:Nat) (h:k=A.length):(A++x::Z).set k y=A++y::Z:=by
 subst h;rw[List.set_append_right (h:=Nat.le_refl _),Nat.sub_self];rfl
def gM (A Z:List Nat) (x k:Nat) (h:k=A.length):(A++x::Z)[k]? = some x:=by
 subst h;rw[List.getElem?_append_right (Nat.le_refl _),Nat.sub_self];rfl
def Sg (P a b M c d S:List Nat) (x y f e:Nat) (i:f=P.length+a.length) (g:e=P.length+a.length+1+b.length+M.length+c.length) :
 (P++(a++(x::b++(M++(c++(y::d++S))))))[f]? = some x/\(P++(a++(x::b++(M++(c++(y::d++S))))))[e]? = some y/\
 ((P++(a++(x::b++(M++(c++(y::d++S)))))).set f y).set e x=P++((a++[y])++(b++(M++((c++[x])++(d++S))))):=by
 have h:P++(a++(x::b++(M++(c++(y::d++S)))))=(P++a)++x::(b++(M++(c++(y::d++S)))):=by simp
 have k:P++(a++(x::b++(M++(c++(y::d++S)))))=(P++a++x::b++M++c)++y::(d++S):=by simp
 have j:(P++a)++y::(b++(M++(c++(y::d++S))))=(P++a++y::b++M++c)++y::(d++S):=by simp
 refine⟨by rw[h];exact gM _ _ _ _ (by simp[i]),by rw[k];exact gM _ _ _ _ (by simp[g];omega),?_⟩;rw[h,set_mid _ _ _ _ _ (by simp[i]),j,set_mid _ _ _ _ _ (by simp[g];omega)];simp
def yl {w:World} {b N:Nat} (hN:N<=b) {p:List Nat} {q:List Value} (P X M Y S:List Nat) (h:bI w b p (P++(X++(M++(Y++S)))) q) (hl:Y.length=X.length) {off n cap a c k:Nat} (ho:off=p.length) (J:(P++(X++(M++(Y++S)))).length=n) (rW:n<1000000) (T:a=P.length) (hc:c=P.length+X.length+M.length) (W:k=X.length) (f:Value) :
 Calls prog 301 #[.slice (some ⟨b,off,none⟩) n cap,.int .i64 a,.int .i64 c,.int .i64 k,f] w λe w'=>e=.returned (.tuple #[])/\bI w' b p (P++(Y++(M++(X++S)))) q/\Below N w w':=by
 have:c+k<=n/\a+k<=c:=by
  simp only[List.length_append] at J;omega
 have I:=aa ho;have HA:=aa T;have HC:=aa hc;have u:=aa W;have V:=aa hl;have HD:=aa h;have:=aa J;clear ho T hc W hl h J;go_enter func301,ntmps301;go_wp2;go_loopw [10] (λL wr=>∃i:Nat,i<=k/\L=.int .i64 i/\(∃t C B v,X=t++C/\Y=B++v/\t.length=i/\B.length=i/\bI wr b p (P++(B++(C++(M++(t++(v++S)))))) q)/\Below N w wr) (λL _=>k-(intOf L).toNat)
 case atStart=>exact⟨0,Nat.zero_le _,rfl,⟨[],X,[],Y,rfl,rfl,rfl,rfl,by simpa using HD.out⟩,Below.refl _ _⟩
 case round=>
  obtain⟨i,hi,rfl,⟨t,C,B,v,hX,U,F,E,hd⟩,Z⟩:=hrel;have D:=aa hX;have H:=aa U;have G:=aa F;have d:=aa E;clear hX U F E;by_cases ab:i<k
  ·have z:=eG (show i<k by omega);obtain⟨x,s,rfl⟩:∃x s,C=x::s:=by
    cases C with
    | nil=>have:=congrArg List.length D.out;have:=G.out;have:=u.out;simp at *;omega
    | cons x s=>exact⟨x,s,rfl⟩
   obtain⟨y,A,rfl⟩:∃y A,v=y::A:=by
    cases v with
    | nil=>have:=congrArg List.length H.out;have:=d.out;have:=u.out;have:=V.out;simp at *;omega
    | cons y A=>exact⟨y,A,rfl⟩
   obtain⟨r,l⟩:=ae (a+i);obtain⟨g,m⟩:=ae (c+i);have:s.length+i+1=k:=by have:=congrArg List.length D.out;have:=G.out;have:=u.out;simp at *;omega
   obtain⟨K,R,g3⟩:=Sg P B s M t A S x y r g (by rw[l,HA.out,d.out]) (by rw[m,HC.out,d.out,G.out,<-u.out];omega);have:IntKind.i64.wrap ((a:Int)+(i:Int))=(r:Int):=by rw[l,IntWalk.i64_in _ (by omega)];simp
   have:IntKind.i64.wrap ((c:Int)+(i:Int))=(g:Int):=by rw[m,IntWalk.i64_in _ (by omega)];simp
   have:=hd.at (o:=off+r) (by rw[I.out]) K;have:=hd.at (o:=off+g) (by rw[I.out]) R;have:=hd.frozen (off+r);have:=hd.frozen (off+g);have j:=(hd.set (o:=off+r) (by rw[I.out]) (List.getElem?_eq_some_iff.1 K).1 y).set (o:=off+g) (k:=g) (by rw[I.out]) (by rw[List.length_set];exact(List.getElem?_eq_some_iff.1 R).1) x;rw[g3] at j;have O:=aa j;have:r<n/\g<n/\r≠g:=by omega
   clear K R g3 hd j l m;go_wp2_with fail;go_region;go_wp2;go_roundw
   case rel=>exact⟨i+1,by omega,by simp,⟨t++[x],s,B++[y],A,by rw[D.out];simp,by rw[H.out];simp,by simp[G.out],by simp[d.out],O.out.mono (ag _)⟩,(aj (aj Z hN) hN).drew⟩
   case measure=>simp[intOf];omega
  have z:=gI (show k<=i by omega);obtain rfl:i=k:=by omega
  obtain rfl:C=[]:=by
   have Q:=congrArg List.length D.out;rw[List.length_append,G.out,<-u.out] at Q;exact List.length_eq_zero_iff.1 (by omega)
  obtain rfl:v=[]:=by
   have Q:=congrArg List.length H.out;rw[List.length_append,d.out,V.out,<-u.out] at Q;exact List.length_eq_zero_iff.1 (by omega)
  go_wp2_with fail
  go_end0
  refine⟨rfl,?_,Z⟩;rw[D.out,H.out];simpa using hd
def wO {w:World} {b N:Nat} (hN:N<=b) {p:List Nat} {q:List Value} (P A C S:List Nat) (h:bI w b p (P++(A++(C++S))) q) (U:A≠[]) (R:C≠[]) {off n cap a m c:Nat} (ho:off=p.length) (hn:(P++(A++(C++S))).length=n) (rW:n<1000000) (ha:a=P.length) (hm:m=P.length+A.length) (hc:c=P.length+A.length+C.length) (f:Value) :
 Calls prog 285 #[.slice (some ⟨b,off,none⟩) n cap,.int .i64 a,.int .i64 m,.int .i64 c,f] w λe w'=>e=.returned (.tuple #[])/\bI w' b p (P++(C++(A++S))) q/\Below N w w':=by
 have aj:a<m/\m<c/\c<=n:=by
  have:=List.length_pos_iff.2 U;have:=List.length_pos_iff.2 R;simp only[List.length_append] at hn;omega
 obtain⟨X,x⟩:=ae A.length;obtain⟨V,y⟩:=ae C.length;have w1:IntKind.i64.wrap ((m:Int)-(a:Int))=(X:Int):=by rw[IntWalk.i64_in _ (by omega)];omega
 have w2:IntKind.i64.wrap ((c:Int)-(m:Int))=(V:Int):=by rw[IntWalk.i64_in _ (by omega)];omega
 have HO:=aa ho;have HI:=aa x;have HJ:=aa y;have HM:=aa hm;have HD:=aa h;have nR:=aa hn;have B:0<X/\0<V/\X<=m/\m+V<=n:=by omega
 have HA:=aa ha;have HC:=aa hc;clear ho x y hm h hn ha hc U R;go_enter func285,ntmps285;go_wp2;go_loopw [10,11] (λiv jv wr=>∃i j:Nat,0<i/\0<j/\i<=m/\m+j<=n/\iv=.int .i64 i/\jv=.int .i64 j/\(∃g l o r,P++(C++(A++S))=g++(o++(l++r))/\l.length=i/\o.length=j/\g.length+i=m/\bI wr b p (g++(l++(o++r))) q)/\Below N w wr) (λiv jv _=>(intOf iv).toNat+(intOf jv).toNat)
 case atStart=>exact⟨X,V,B.1,B.2.1,B.2.2.1,B.2.2.2,rfl,rfl,⟨P,A,C,S,rfl,HI.out.symm,HJ.out.symm,by rw[HM.out,HI.out],HD.out⟩,Below.refl _ _⟩
 case round=>
  obtain⟨i,j,x,y,ai,ab,rfl,rfl,⟨g,l,o,r,hS,U,R,hP,hd⟩,hE⟩:=hrel;have HS:=aa hS;have d:=aa U;have s:=aa R;have F:=aa hP;have K:=aa hd;have E:(g++(l++(o++r))).length=n:=by
   have h1:=congrArg List.length hS;rw[<-nR.out];simp only[List.length_append] at h1⊢;omega
  have BA:=aa E;clear hS U R hP hd E;have e1:IntKind.i64.wrap ((m:Int)-(i:Int))=((m-i:Nat):Int):=by rw[IntWalk.i64_in _ (by omega)];omega
  obtain⟨mi,vL⟩:=ae (m-i);have Zo:=aa vL;rw[<-vL] at e1;clear vL;by_cases af:i=j
  ·subst af;have z:((i:Int) !=(i:Int))=false:=by simp
   have T:=aa (λW (hd:bI W b p (g++(l++([]++(o++r)))) q)=>yl (w:=W) hN g l [] o r hd (by rw[d.out,s.out]) (n:=n) (cap:=cap) (a:=mi) (c:=m) (k:=i) HO.out (by simpa using BA.out) rW (by rw[Zo.out];have:=F.out;omega) (by have:=F.out;have:=d.out;simp;omega) d.out.symm f);go_wp2_with (go_at_call 301;refine(T.out _ (by simpa using K.out)).mono ?_;rintro e w6⟨rfl,t,v⟩)
   go_end0
   refine⟨rfl,?_,hE.trans v⟩;rw[HS.out];simpa using t
  have z:((i:Int) !=(j:Int))=true:=by simp;omega
  by_cases ak:j<i
  ·have z2:=eG (show j<i by omega);obtain⟨I,J,O,u⟩:∃I J,l=I++J/\I.length=j:=⟨l.take j,l.drop j,(List.take_append_drop _ _).symm,by rw[List.length_take,d.out];omega⟩;have L:J.length=i-j:=by have:=congrArg List.length O;rw[List.length_append,d.out,u] at this;omega
   have e2:IntKind.i64.wrap ((i:Int)-(j:Int))=((i-j:Nat):Int):=by rw[IntWalk.i64_in _ (by omega)];omega
   have T:=aa (λW (hd:bI W b p (g++(I++(J++(o++r)))) q)=>yl (w:=W) hN g I J o r hd (by rw[u,s.out]) (n:=n) (cap:=cap) (a:=mi) (c:=m) (k:=j) HO.out (by rw[<-BA.out,O];simp) rW (by rw[Zo.out];have:=F.out;omega) (by have:=F.out;omega) u.symm f);have HR:=aa (show P++(C++(A++S))=(g++o)++(I++(J++r)) from by rw[HS.out,O];simp);have ac:=aa O;have ad:=aa u;have Z:=aa L;clear O u L;go_wp2_with (go_at_call 301;refine(T.out _ (by have:=K.out;rw[ac.out] at this;simpa using this)).mono ?_;rintro e w6⟨rfl,t,v⟩);go_roundw
   case rel=>exact⟨i-j,j,by omega,y,by omega,ab,by go_num,rfl,⟨g++o,J,I,r,HR.out,Z.out,ad.out,by rw[List.length_append,s.out];have:=F.out;omega,by simpa using t⟩,hE.trans v⟩
   case measure=>simp[intOf];omega
  have z2:=gI (show i<=j by omega);obtain⟨G,H,M,D⟩:∃G H,o=G++H/\G.length=j-i:=⟨o.take (j-i),o.drop (j-i),(List.take_append_drop _ _).symm,by rw[List.length_take,s.out];omega⟩;have L:H.length=i:=by have:=congrArg List.length M;rw[List.length_append,s.out,D] at this;omega
  obtain⟨mj,Q⟩:=ae (m+j-i);have ag:=aa Q;have e2:IntKind.i64.wrap ((j:Int)-(i:Int))=((j-i:Nat):Int):=by rw[IntWalk.i64_in _ (by omega)];omega
  have e3:IntKind.i64.wrap ((m:Int)+(j:Int)-(i:Int))=(mj:Int):=by rw[IntWalk.i64_in _ (by omega)];omega
  clear Q;have T:=aa (λW (hd:bI W b p (g++(l++(G++(H++r)))) q)=>yl (w:=W) hN g l G H r hd (by rw[L,d.out]) (n:=n) (cap:=cap) (a:=mi) (c:=mj) (k:=i) HO.out (by rw[<-BA.out,M];simp) rW (by rw[Zo.out];have:=F.out;omega) (by rw[ag.out,D,d.out];have:=F.out;omega) d.out.symm f);have HR:=aa (show P++(C++(A++S))=g++(G++(H++(l++r))) from by rw[HS.out,M];simp);have ah:=aa M;have vH:=aa D;have Y:=aa L;clear M D L;go_wp2_with (go_at_call 301;refine(T.out _ (by have:=K.out;rw[ah.out] at this;simpa using this)).mono ?_;rintro e w6⟨rfl,t,v⟩);go_roundw
  case rel=>exact⟨i,j-i,x,by omega,ai,by omega,rfl,by go_num,⟨g,H,G,l++r,HR.out,Y.out,vH.out,F.out,by simpa using t⟩,hE.trans v⟩
  case measure=>simp[intOf];omega
end
end Go.Proofs.YtmnimbnojdndmaaGreatDoor
namespace Go.Proofs.YtmnimbnojdndmaaGreatDoor
open Go.RowKit Go.Cd _root_.Go.Proofs.Tryz
def wP (x y:Nat):Int:=if x<y then -1 else if y<x then 1 else 0
def Aw {x y:Nat}:wP x y<0↔x<y:=by unfold wP;split <;> (try split) <;> omega
def zO (w0:World) (N:Nat) (K:Nat->Nat) (cap:Value):Prop:=
 ∀W,Below N w0 W->∀a b:Nat,a<1114112->b<1114112->Calls prog 204 #[.int .i32 a,.int .i32 b,cap] W λe w'=>e=.returned (.int .i64 (wP (K a) (K b)))/\Below W.heap.size W w'
abbrev ym (cap:Value):Value:=.func (.func 204) #[] #[cap]
def VC {w0 w:World} {b N:Nat} (hN:N<=b) {K:Nat->Nat} {cv:Value} (hC:zO w0 N K cv) (au:Below N w0 w) (aN:N<=w.heap.size) {p:List Nat} {q:List Value} (P M S:List Nat) (h:bI w b p (P++(M++S)) q) (hM:∀x∈M,0<K x/\x<1114112) {off n cap a c:Nat} (ho:off=p.length) (hn:(P++(M++S)).length=n) (rW:n<1000000) (ha:a=P.length) (hc:c=P.length+M.length) :
 Calls prog 263 #[.slice (some ⟨b,off,none⟩) n cap,.int .i64 a,.int .i64 c,ym cv] w λe w'=>e=.returned (.tuple #[])/\(∃M',fe K M M'/\up K M'/\bI w' b p (P++(M'++S)) q)/\Below N w w':=by
 have aM:a<=c/\c<=n:=by
  simp only[List.length_append] at hn;omega
 have HO:=aa ho;have HA:=aa ha;have HC:=aa hc;have HD:=aa h;have nR:=aa hn;have HM:=aa hM;have ar:=aa hC;clear ho ha hc h hn hM hC;go_enter func263,ntmps263;go_wp2;go_loopw [8] (λiv wr=>∃i:Nat,a<i/\i<=n+1/\iv=.int .i64 i/\(∃M0 C R,M=M0++R/\(i<=c->M0.length+a=i)/\(c<i->R=[])/\fe K M0 C/\up K C/\bI wr b p (P++(C++(R++S))) q)/\Below N w wr) (λiv _=>n+1-(intOf iv).toNat)
 case atStart=>
  refine⟨a+1,by omega,by omega,by simp,?_,Below.refl _ _⟩;cases E:M with
  | nil=>exact⟨[],[],[],rfl,λh=>by have:=HC.out;have:=HA.out;rw[E] at *;simp at *;omega,λ_=>rfl,fe.refl _,acm,by have:=HD.out;rw[E] at this;simpa using this⟩
  | cons x M'=>exact⟨[x],[x],M',rfl,λ_=>by simp;omega,λh=>by have:=HC.out;have:=HA.out;rw[E] at *;simp at *;omega,fe.refl _,acn x,by have:=HD.out;rw[E] at this;simpa using this⟩
 case round=>
  obtain⟨i,aK,aO,rfl,⟨M0,C,R,f,G,ac,hs,hu,hd⟩,Q⟩:=hrel;by_cases aR:i<c
  ·have z:=eG (show i<c by omega);have h0:=G (by omega);obtain⟨x,R',rfl⟩:∃x R',R=x::R':=by
    cases R with
    | nil=>exfalso;have D:=congrArg List.length f;have h2:=HC.out;have h3:=HA.out;simp at D;omega
    | cons x R'=>exact⟨x,R',rfl⟩
   have am:C.length+a=i:=by rw[hs.len];exact h0
   have qY:=aa (And.intro f (And.intro h0 (And.intro hs hu)));have hx:0<K x/\x<1114112:=HM.out x (by rw[f];simp);have HX:=aa hx;have L:(P++(C++(x::R'++S))).length=n:=by
    have D:=congrArg List.length f;have h2:=nR.out;simp only[List.length_append,List.length_cons] at D h2⊢;have:=hs.len;omega
   have ap:=aa L;have aw:=aa am;have aq:=aa hd;clear f G ac hs hu h0 hx L am hd;go_wp2_with fail;go_loopw [9] (λjv wq=>∃j:Nat,a<=j/\j<=i/\jv=.int .i64 j/\(∃X Y,C=X++Y/\X.length+a=j/\(∀y,Y.head? = some y->K x<K y)/\bI wq b p (P++(X++x::(Y++(R'++S)))) q)/\Below N w wq) (λjv _=>(intOf jv).toNat)
   case atStart=>exact⟨i,by omega,Nat.le_refl _,rfl,⟨C,[],by simp,aw.out,by simp,by simpa using aq.out⟩,Q⟩
   case round=>
    clear Q;obtain⟨j,aP,aL,rfl,⟨X,Y,v,Yk,H,hd⟩,Q⟩:=hrel
    have t:(∀y,X.getLast? = some y->K y<=K x)->Hid (∃m s r,M=m++r/\(i+1<=c->m.length+a=i+1)/\(c<i+1->r=[])/\fe K m s/\up K s/\∀W,bI W b p (P++(X++x::(Y++(R'++S)))) q->bI W b p (P++(s++(r++S))) q):=λhl=>aa (by
     obtain⟨O,r2,T,r4⟩:=qY.out;rw[v] at T r4;obtain⟨s1,s2⟩:=KM r4 HX.out.1 hl H;refine⟨M0++[x],X++x::Y,R',by rw[O];simp,λ_=>by rw[List.length_append,<-r2];simp;omega,λh=>?_,(T.app (fe.refl [x])).trans s1,s2,λW hd=>by simpa using hd⟩;have D:=congrArg List.length O;have h2:=HC.out;have h3:=HA.out;simp only[List.length_append,List.length_cons] at D
     exact List.length_eq_zero_iff.1 (by omega))
    by_cases aG:a<j
    ·have z:=eG (show a<j by omega);obtain⟨l,U⟩:∃l,j=l+1:=⟨j-1,by omega⟩;have e1:IntKind.i64.wrap ((j:Int)-1)=(l:Int):=by rw[IntWalk.i64_in _ (by omega)];omega
     obtain⟨d,y,rfl⟩:∃d y,X=d++[y]:=by
      rcases List.eq_nil_or_concat X with rfl|⟨d,y,h⟩
      ·simp at Yk;omega
      exact⟨d,y,by simpa using h⟩
     have ao:d.length+a=l:=by simp at Yk;omega
     have hL:P++((d++[y])++x::(Y++(R'++S)))=(P++d)++y::x::(Y++(R'++S)):=by simp
     rw[hL] at hd;have F:(P++d).length=l:=by rw[List.length_append,<-HA.out];omega
     have g1:((P++d)++y::x::(Y++(R'++S)))[l]? = some y:=gM _ _ _ _ F.symm;have g2:((P++d)++y::x::(Y++(R'++S)))[j]? = some x:=by
      have:=gM ((P++d)++[y]) (Y++(R'++S)) x j (by rw[List.length_append,F,U];rfl);simpa using this
     have ai:y<1114112:=by
      have av:y∈C:=by rw[v];simp
      have aB:y∈M:=by
       obtain⟨O,_,T,_⟩:=qY.out;rw[O];exact List.mem_append_left _ (T.mem.1 av)
      exact(HM.out y aB).2
     have aQ:j<n:=by
      have:=(List.getElem?_eq_some_iff.1 g2).1;have h3:=ap.out;have h4:=congrArg List.length v;simp only[List.length_append,List.length_cons,List.length_nil] at this h3 h4;omega
     have c1:=hd.at (o:=off+l) (by rw[HO.out]) g1;have c2:=hd.at (o:=off+j) (by rw[HO.out]) g2;have E0:=ag wr;have b1:=Gr.cell E0 c1;have b2:=Gr.cell E0 c2;have CC:=aa (ar.out wr.drew (au.trans Q.drew) x y HX.out.2 ai);have HD:=aa hd;have VD:=aa ao;have J:=aa F;have Yl:=aa v;have aE:=aa H;have kT:=hd.lt;obtain⟨kx,Z⟩:=ae (K x);obtain⟨ky,ad⟩:=ae (K y);rw[<-Z,<-ad] at CC;have KP:=aa Z;have ah:=aa ad;obtain⟨cz,V⟩:=ae (wP kx ky);rw[<-V] at CC;have an:cz<0↔kx<ky:=by rw[V];exact Aw
     have NU:=aa an;have aH:l<j:=by omega
     have al:=aa U;clear hL F hd Yk ao v H Z ad V an g1 g2 ai U c1 c2;go_wp2_with fail;refine aC (Array.replicate 17 true) 17 0 mixed ?_;refine ay [0,1,2,3,4,5,6,7,8,9,10,11,12,13] 3 ?_
     iterate 14 (refine aA rfl ?_;go_big_quiet_step (rfl))
     refine az ?_;refine aI 14 ?_;go_wp2_with fail;refine CC.out.mono ?_;rintro e w6⟨rfl,I⟩;go_wp2_with fail;refine aF I ?_;refine ay [15,16] 0 ?_
     iterate 2 (refine aA rfl ?_;go_big_quiet_step (rfl))
     refine az ?_;refine aJ [] ?_;refine tail_nil ?_;have g:=HD.out.mono (af E0 I);have ji:=(Q.drew).trans (I.mono (by show N<=wr.heap.size;omega));have aD:=aa t;clear t b1 b2 CC E0 I Q;by_cases u:kx<ky
     ·have z3:cz<0:=NU.out.2 u;have z2:decide (cz<0)=true:=by simp;exact z3
      have Vh:(P++d++y::x::(Y++(R'++S)))[l]? = some y:=gM _ _ _ _ J.out.symm;have ab:(P++d++y::x::(Y++(R'++S)))[j]? = some x:=by
       have:=gM ((P++d)++[y]) (Y++(R'++S)) x j (by rw[List.length_append,J.out,al.out];rfl);simpa using this
      have ak:((P++d++y::x::(Y++(R'++S))).set j y).set l x=P++(d++x::((y::Y)++(R'++S))):=by
       have D:=set_mid ((P++d)++[y]) (Y++(R'++S)) x y j (by rw[List.length_append,J.out,al.out];rfl);simp only[List.append_assoc,List.cons_append,List.nil_append] at D⊢;rw[D];have h2:=set_mid (P++d) (y::(Y++(R'++S))) y x l J.out.symm;simpa using h2
      have c1:=g.at (o:=off+l) (by rw[HO.out]) Vh;have c2:=g.at (o:=off+j) (by rw[HO.out]) ab;have f1:=g.frozen (off+l);have f2:=g.frozen (off+j);have A:=(g.set (o:=off+j) (by rw[HO.out]) (List.getElem?_eq_some_iff.1 ab).1 y).set (o:=off+l) (k:=l) (by rw[HO.out]) (by rw[List.length_set];exact(List.getElem?_eq_some_iff.1 Vh).1) x;rw[ak] at A;have B:=aa A;have Qo:=aa u;clear Vh ab ak g A u;go_wp2_with fail;go_region;go_wp2_with fail;go_roundw
      case rel=>exact⟨l,by have:=VD.out;omega,by omega,by first|rfl|go_num,⟨d,y::Y,by rw[Yl.out];simp,VD.out,λy' h=>by cases h;rw[<-KP.out,<-ah.out];exact Qo.out,B.out.mono (ag _)⟩,(aj (aj ji hN) hN).drew⟩
      case measure=>simp[intOf];omega
     have z2:decide (cz<0)=false:=by simp;exact Int.not_lt.1 λh=>u (NU.out.1 h)
     have z3:¬cz<0:=λh=>u (NU.out.1 h);have z4:0<=cz:=Int.not_lt.1 z3
     have HR:=aD.out (λy' h=>by
      rw[List.getLast?_concat] at h;injection h with h
      rw[<-h,<-KP.out,<-ah.out];omega)
     have A:bI w6 b p (P++((d++[y])++x::(Y++(R'++S)))) q:=by simpa using g
     have B:=aa A;clear g A u;go_wp2_with fail;go_roundw
     case rel=>
      obtain⟨m,s,r,O,r2,T,r4,r5,r6⟩:=HR.out;exact⟨i+1,by omega,by omega,by simp,⟨m,s,r,O,r2,T,r4,r5,r6 _ B.out⟩,ji⟩
     case measure=>simp[intOf];omega
    have z:=gI (show j<=a by omega);obtain rfl:X=[]:=List.length_eq_zero_iff.1 (by omega);have HR:=t (λy' h=>by cases h);have HD:=aa hd;clear hd t v H;go_wp2_with fail;go_quiet (fail);have uK:Below N w (wr.drewN nq):=Q.trans ⟨rfl,rfl,rfl,Nat.le_refl _,λ_ _=>rfl⟩;have B:Hid (bI (wr.drewN nq) b p (P++([]++x::(Y++(R'++S)))) q):=aa (HD.out.mono ⟨rfl,rfl,rfl,Nat.le_refl _,λ_ _=>rfl⟩);go_wp2_with fail;go_roundw
    case rel=>
     obtain⟨m,s,r,O,r2,T,r4,r5,r6⟩:=HR.out;exact⟨i+1,by omega,by omega,by simp,⟨m,s,r,O,r2,T,r4,r5,r6 _ B.out⟩,uK⟩
    case measure=>simp[intOf];omega
  have z:=gI (show c<=i by omega);have hR:R=[]:=by
   by_cases h:c<i
   ·exact ac h
   have D:=congrArg List.length f;have h2:=HC.out;have h3:=HA.out;have h4:=G (by omega);rw[List.length_append] at D;exact List.length_eq_zero_iff.1 (by omega)
  subst hR;rw[List.append_nil] at f;have ax:=aa f;clear f G ac;go_wp2_with fail
  go_end0
  exact⟨rfl,⟨C,by rw[ax.out];exact hs,hu,by simpa using hd⟩,Q⟩
def yn {R:List Nat} {t y:Nat} (h:R[t]? = some y):(R.take (t+1)).getLast? = some y:=by
 rw[List.take_add_one,h];simp
def yt {R:List Nat} {t:Nat}:(R.drop t).head? = R[t]?:=by rw[List.head?_drop]
def Sk {w0 w:World} {b N:Nat} (hN:N<=b) {K:Nat->Nat} {cv:Value} (hC:zO w0 N K cv) (ai:Below N w0 w) {p:List Nat} {q:List Value} (P:List Nat) (x:Nat) (R S:List Nat) (h:bI w b p (P++(x::(R++S))) q) (hR:∀y∈R,0<K y/\y<1114112) (hu:up K R) (hx:x<1114112)
 {off n cap a m c:Nat} (ho:off=p.length) (Z:(P++(x::(R++S))).length=n) (rW:n<1000000) (ha:a=P.length) (hm:m=a+1) (hc:c=m+R.length) :
 Calls prog 264 #[.slice (some ⟨b,off,none⟩) n cap,.int .i64 a,.int .i64 m,.int .i64 c,ym cv] w λe w'=>e=.returned (.tuple #[])/\(∃M',fe K (x::R) M'/\up K M'/\bI w' b p (P++(M'++S)) q)/\Below N w w':=by
 have ad:a<m/\m<=c/\c<=n:=by
  simp only[List.length_append,List.length_cons] at Z;omega
 have E:=aa ho;have HA:=aa ha;have HC:=aa hc;have HM:=aa hm;have HD:=aa h;have nR:=aa Z;have HR:=aa hR;have ah:=aa hC;have HU:=aa hu;have e1:IntKind.i64.wrap ((m:Int)-(a:Int))=1:=by rw[IntWalk.i64_in _ (by omega)];omega
 have aq:=h.lt;clear ho ha hc hm h Z hR hC hu;go_enter func264,ntmps264;go_wp2;go_loopw [10,11] (λiv jv wr=>∃i j:Nat,m<=i/\i<=j/\j<=c/\iv=.int .i64 i/\jv=.int .i64 j/\(∀z,(R.take (i-m)).getLast? = some z->K z<K x)/\(∀z,(R.drop (j-m)).head? = some z->K x<=K z)/\bI wr b p (P++(x::(R++S))) q/\Below N w wr) (λiv jv _=>(intOf jv).toNat-(intOf iv).toNat)
 case atStart=>exact⟨m,c,Nat.le_refl _,ad.2.1,Nat.le_refl _,rfl,rfl,(λz h=>by rw[Nat.sub_self] at h;cases h),(λz h=>by rw[HC.out,Nat.add_sub_cancel_left,List.drop_length] at h;cases h),HD.out,Below.refl _ _⟩
 case round=>
  obtain⟨i,j,vL,ap,ac,rfl,rfl,hi,hj,hd,u⟩:=hrel;have HI:=aa hi;have HJ:=aa hj;clear hi hj;by_cases v:i<j
  ·have z:=eG (show i<j by omega);obtain⟨h,hh⟩:=ae ((i+j) / 2);have an:i<=h/\h<j:=by omega
   have e2:((i:Int)+(j:Int)) / 2=(h:Int):=by omega
   obtain⟨y,f⟩:∃y,R[h-m]? = some y:=⟨_,List.getElem?_eq_getElem (by have:=HC.out;omega)⟩;have G:(P++(x::(R++S)))[a]? = some x:=gM _ _ _ _ HA.out;have F:(P++(x::(R++S)))[h]? = some y:=by
    have hl:=HM.out;have au:=HA.out;rw[List.getElem?_append_right (by omega),show h-P.length=(h-m)+1 by omega,List.getElem?_cons_succ,List.getElem?_append_left (List.getElem?_eq_some_iff.1 f).1];exact f
   have H:=HR.out y (List.mem_of_getElem? f);have c1:=hd.at (o:=off+a) (by rw[E.out]) G;have c2:=hd.at (o:=off+h) (by rw[E.out]) F;have V:=ag wr;have b1:=Gr.cell V c1;have b2:=Gr.cell V c2;have CC:=aa (ah.out wr.drew (ai.trans u.drew) y x H.2 hx);obtain⟨L,B⟩:=ae (wP (K y) (K x));rw[<-B] at CC;have NU:=aa (show L<0↔K y<K x from by rw[B];exact Aw);have HY:=aa f;have r:=aa hd;have am:h<n/\a<n:=by omega
   clear hh G F H c1 c2 B f hd;go_wp2_with fail;refine aC (Array.replicate 11 true) 11 0 mixed ?_;refine ay [0,1,2,3,4,5,6,7,8] 2 ?_
   iterate 9 (refine aA rfl ?_;go_big_quiet_step (rfl))
   refine az ?_;refine aI 9 ?_;go_wp2_with fail;refine CC.out.mono ?_;rintro e w6⟨rfl,s⟩;go_wp2_with fail;refine aF s ?_;refine ay [10] 0 ?_
   iterate 1 (refine aA rfl ?_;go_big_quiet_step (rfl))
   refine az ?_;refine aJ [] ?_;refine tail_nil ?_;have Q:=aa (r.out.mono (af V s));have ji:=(u.drew).trans (s.mono (by have:=r.out.lt;show N<=wr.heap.size;omega));clear b1 b2 CC V s u;by_cases l:L<0
   ·have z2:decide (L<0)=true:=by simp;exact l
    go_wp2_with fail;go_roundw
    case rel=>exact⟨h+1,j,by omega,by omega,ac,by simp,rfl,λz A=>by
     rw[show h+1-m=(h-m)+1 by omega,yn HY.out] at A;cases A
     exact NU.out.1 l,HJ.out,Q.out,ji⟩
    case measure=>simp[intOf];omega
   have z2:decide (L<0)=false:=by simp;omega
   have z4:0<=L:=by omega
   go_wp2_with fail;go_roundw
   case rel=>exact⟨i,h,vL,by omega,by omega,rfl,rfl,HI.out,λz A=>by
    rw[yt,HY.out] at A;cases A
    exact Nat.not_lt.1 λhk=>l (NU.out.2 hk),Q.out,ji⟩
   case measure=>simp[intOf];omega
  have z:=gI (show j<=i by omega);obtain rfl:i=j:=by omega
  obtain⟨g,T⟩:∃g,i=g+1:=⟨i-1,by omega⟩;have e3:IntKind.i64.wrap ((i:Int)-1)=(g:Int):=by rw[IntWalk.i64_in _ (by omega)];omega
  have M:=aa T;have ab:a<=g/\g<i:=by omega
  have r:=aa hd;clear T hd;go_wp2_with fail;obtain⟨wo,rfl⟩:∃wo:World,wo=wr:=⟨_,rfl⟩;go_loopw [13] (λkv wr=>∃k:Nat,a<=k/\k<=g/\kv=.int .i64 k/\bI wr b p (P++(R.take (k-a)++x::(R.drop (k-a)++S))) q/\Below N w wr) (λkv _=>g-(intOf kv).toNat)
  case atStart=>exact⟨a,Nat.le_refl _,ab.1,rfl,by simpa using r.out,u⟩
  case round=>
   clear u;obtain⟨k,ao,ar,rfl,hd,u⟩:=hrel;by_cases hk:k<g
   ·have z5:=eG (show k<g by omega);obtain⟨d,t⟩:=ae (k+1);have e4:IntKind.i64.wrap ((k:Int)+1)=(d:Int):=by rw[IntWalk.i64_in _ (by omega)];omega
    obtain⟨y,f⟩:∃y,R[k-a]? = some y:=⟨_,List.getElem?_eq_getElem (by have:=HC.out;have:=HM.out;have:=M.out;omega)⟩;have I:R.drop (k-a)=y::R.drop (d-a):=by
     rw[show d-a=(k-a)+1 by omega,<-(List.getElem?_eq_some_iff.1 f).2];exact List.drop_eq_getElem_cons (List.getElem?_eq_some_iff.1 f).1
    have O:R.take (d-a)=R.take (k-a)++[y]:=by rw[show d-a=(k-a)+1 by omega,List.take_add_one,f];rfl
    have v:(R.take (k-a)).length=k-a:=by rw[List.length_take];have:=(List.getElem?_eq_some_iff.1 f).1;omega
    rw[I] at hd;have W:(P++R.take (k-a)).length=k:=by rw[List.length_append,v,<-HA.out];omega
    have J:P++(R.take (k-a)++x::(y::R.drop (d-a)++S))=(P++R.take (k-a))++x::y::(R.drop (d-a)++S):=by simp
    rw[J] at hd;have G:((P++R.take (k-a))++x::y::(R.drop (d-a)++S))[k]? = some x:=gM _ _ _ _ W.symm;have F:((P++R.take (k-a))++x::y::(R.drop (d-a)++S))[d]? = some y:=by
     have:=gM ((P++R.take (k-a))++[x]) (R.drop (d-a)++S) y d (by rw[List.length_append,W,t];rfl);simpa using this
    have C:=Sc (P++R.take (k-a)) (R.drop (d-a)++S) x y;rw[W,<-t] at C;have c1:=hd.at (o:=off+k) (by rw[E.out]) G;have c2:=hd.at (o:=off+d) (by rw[E.out]) F;have f1:=hd.frozen (off+k);have f2:=hd.frozen (off+d);have D:=(hd.set (o:=off+k) (by rw[E.out]) (List.getElem?_eq_some_iff.1 G).1 y).set (o:=off+d) (k:=d) (by rw[E.out]) (by rw[List.length_set];exact(List.getElem?_eq_some_iff.1 F).1) x;rw[C] at D;have ak:=aa (show bI _ b p (P++(R.take (d-a)++x::(R.drop (d-a)++S))) q from by rw[O];simpa using D);have al:k<n/\d<n/\k≠d:=by omega
    have U:=aa t;clear t I O v W J G F C hd D f;go_wp2_with fail;go_region;go_wp2_with fail;go_roundw
    case rel=>exact⟨d,by have:=U.out;omega,by have:=U.out;omega,by first|rfl|(rw[U.out];go_num),ak.out.mono (ag _),(aj (aj u hN) hN).drew⟩
    case measure=>have:=U.out;simp[intOf];omega
   have z5:=gI (show g<=k by omega);obtain rfl:k=g:=by omega
   have ht:k-a=i-m:=by have:=M.out;have:=HM.out;omega
   rw[ht] at hd;have HT:=aa hd;clear hd ht;go_wp2_with fail;obtain⟨s1,s2⟩:=Vz (X:=R.take (i-m)) (Y:=R.drop (i-m)) (c:=x) (by rw[List.take_append_drop];exact HU.out) (λz A=>(HR.out z (List.mem_of_mem_take A)).1) HI.out HJ.out;rw[List.take_append_drop] at s1;exact bodyPost_ret (results_none rfl _ _ _) rfl ⟨rfl,⟨_,s1,s2,by have:=HT.out;simpa using this⟩,u⟩
end Go.Proofs.YtmnimbnojdndmaaGreatDoor
