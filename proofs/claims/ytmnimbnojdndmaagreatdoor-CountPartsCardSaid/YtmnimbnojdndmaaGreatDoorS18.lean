/- State by state it is added up what is possible; no condition. -/
import Derived.Test.YtmnimbnojdndmaaGreatDoorS17
import Derived.Deep.Cut
import Derived.Deep.CutBlock
set_option maxRecDepth 100000
set_option maxHeartbeats 6400000
set_option linter.all false
namespace Go.Proofs.YtmnimbnojdndmaaGreatDoor
section
open Go.RowKit Go.Cd Go.Shelf
variable {n k:Nat} {W:World} {a b c:Value} {T:TypeId} {bs:List Nat}
attribute [local go_sem] Oper.semAt_some
def ZA {P:Program} {ops:Array Oper} {md:Region.Mode} {head:Array Bool} {Q:Exit->Act->World->Prop} {T:Array Bool->Act->World->Prop} (i k:Nat) {o u:Oper} {b:Array Bool} {a:Act} {w:World}
 (h:∀w',Below w.heap.size w w'->wpList P ops (QE Q w' (Hm P md ops head Q T n (b.setIfInBounds i true))) [o] a w') (l:∀w',Below w.heap.size w w'->wpList P ops (QE Q w' (Hm P md ops head Q T n (b.setIfInBounds k true))) [u] a w') (f:(Region.ready md ops b==[i,k]&&(head.getD i false&&head.getD k false))=true:=by kernel_rfl) (m:nth ops.toList i=some o:=by rfl) (p:nth ops.toList k=some u:=by rfl):Hm P md ops head Q T (n+1) b a w:=by
 simp only[js,beq_iff_eq] at f;obtain⟨e,g⟩:=f;intro w' c;refine⟨by rw[e];simp,λj d=>?_⟩;rw[e] at d;simp only[jt,kt,or_false] at d;rcases d with rfl|rfl
 ·exact⟨g.1,qA (fM m) (h w' c)⟩
 exact⟨g.2,qA (fM p) (l w' c)⟩
abbrev dh:TypeId:=88
structure qj (W:World) (k:Nat) (a b c:Value) (T:TypeId):Prop where
 at_:W.heap[k]? = some (.cells #[a,b,c] T)
def qj.cell (h:qj W k a b c T):W.cell? ⟨k,0,none⟩=some a/\W.cell? ⟨k,1,none⟩=some b/\W.cell? ⟨k,2,none⟩=some c:=by
 refine⟨?_,?_,?_⟩ <;> (unfold World.cell?;rw[h.at_];rfl)
def qj.frozen (h:qj W k a b c T) (o:Nat):W.frozen? ⟨k,o,none⟩=false:=by
 unfold World.frozen?;rw[h.at_];simp
def qj.set0 (h:qj W k a b c T) (u:Value):qj (W.setCell ⟨k,0,none⟩ u) k u b c T:=⟨heap_setCell_same W k 0 _ _ _ h.at_⟩
def qj.set1 (h:qj W k a b c T) (u:Value):qj (W.setCell ⟨k,1,none⟩ u) k a u c T:=⟨heap_setCell_same W k 1 _ _ _ h.at_⟩
def qj.set2 (h:qj W k a b c T) (u:Value):qj (W.setCell ⟨k,2,none⟩ u) k a b u T:=⟨heap_setCell_same W k 2 _ _ _ h.at_⟩
def qj.put (h:qj W k a b c T) {j o:Nat} (d:k≠j) (u:Value):qj (W.setCell ⟨j,o,none⟩ u) k a b c T:=⟨(jj _ _ _ _ (by simp only;omega)).trans h.at_⟩
def qj.mono {d:World} (h:qj W k a b c T) (e:Below W.heap.size W d):qj d k a b c T:=⟨(e.block k (block_lt h.at_)).trans h.at_⟩
def qj.writes (h:qj W k a b c T):(W.cell? ⟨k,0,none⟩=some a/\W.frozen? ⟨k,0,none⟩=false)/\
 (∀u,(W.setCell ⟨k,0,none⟩ u).cell? ⟨k,1,none⟩=some b/\(W.setCell ⟨k,0,none⟩ u).frozen? ⟨k,1,none⟩=false)/\
 (∀u d,((W.setCell ⟨k,0,none⟩ u).setCell ⟨k,1,none⟩ d).cell? ⟨k,2,none⟩=some c/\((W.setCell ⟨k,0,none⟩ u).setCell ⟨k,1,none⟩ d).frozen? ⟨k,2,none⟩=false):=
 ⟨⟨h.cell.1,h.frozen 0⟩,λu=>⟨(h.set0 u).cell.2.1,(h.set0 u).frozen 1⟩,λu d=>⟨((h.set0 u).set1 d).cell.2.2,((h.set0 u).set1 d).frozen 2⟩⟩
def abl {u:Value} (h:W.heap[k]? = some (.cells #[u] T)):W.cell? ⟨k,0,none⟩=some u/\W.frozen? ⟨k,0,none⟩=false:=by
 constructor
 ·unfold World.cell?;rw[h];rfl
 unfold World.frozen?;rw[h];rfl
abbrev BX (n:Nat):={ p:Nat×Nat // (p.1<n\/n=0)/\1<=p.2/\p.2<9223372036854775808 }
def Hu (n:Nat) (pre:List (BX n)):List Nat×Nat:=pre.foldl (λs x=>(s.1.set x.1.1 s.2,s.2*x.1.2)) (List.replicate n 0,1)
def Lc (a:List (BX n)) (x:BX n):Hu n (a++[x])=((Hu n a).1.set x.1.1 (Hu n a).2,(Hu n a).2*x.1.2):=by simp[Hu]
def ZB (a:List (BX n)):(Hu n a).1.length=n:=by
 unfold Hu;have:∀(l:List (BX n)) (s:List Nat×Nat),(l.foldl (λs x=>(s.1.set x.1.1 s.2,s.2*x.1.2)) s).1.length=s.1.length:=by
  intro l
  induction l with
  | nil=>intro s;rfl
  | cons x l ih=>intro s;rw[ot,ih];simp
 rw[this];simp
def ZC (bs:List Nat) (j:Nat):BX bs.length:=
 if h:j<bs.length/\1<=bs[j]?.getD 0/\bs[j]?.getD 0<9223372036854775808 then ⟨(j,bs[j]?.getD 0),.inl h.1,h.2.1,h.2.2⟩
 else ⟨(0,1),by simp only;omega,by decide,by decide⟩
def Hw (d:∀b∈bs,1<=b) (c:∀b∈bs,b<9223372036854775808) {j:Nat} (a:j<bs.length):(ZC bs j).1=(j,bs[j]):=by
 have e:bs[j]?.getD 0=bs[j]:=by rw[gx a];rfl
 unfold ZC;rw[dif_pos ⟨a,by rw[e];exact d _ (gw _),by rw[e];exact c _ (gw _)⟩];simp only[e]
def aW:List Nat->Nat
 | []=>1
 | b::bs=>b*aW bs
def weights:List Nat->List Nat
 | []=>[]
 | _::bs=>aW bs::weights bs
@[simp] theorem Ce:∀bs:List Nat,(weights bs).length=bs.length
  | []=>rfl
  | _::bs=>by simp[weights,Ce bs]
def jD:∀{bs:List Nat},(∀b∈bs,1<=b)->1<=aW bs
 | [],_=>d' _
 | b::bs,h=>pP (h b (by simp)) (jD λc a=>h c (by simp[a]))
def Cf:∀{bs:List Nat},(∀b∈bs,1<=b)->∀k,aW (bs.drop k)<=aW bs
 | [],_,k=>by simp
 | b::bs,_,0=>by simp
 | b::bs,h,k+1=>by
   have:=Cf (bs:=bs) (λc a=>h c (by simp[a])) k;have:=Nat.le_mul_of_pos_left (aW bs) (h b (by simp));simp only[yd,aW];omega
def Oh (c:∀b∈bs,1<=b) (d:∀b∈bs,b<9223372036854775808):∀k,k<=bs.length->
 Hu bs.length (mE (ZC bs) bs.length k)=(List.replicate (bs.length-k) 0++weights (bs.drop (bs.length-k)),aW (bs.drop (bs.length-k)))
 | 0,_=>by
   rw[Nat.sub_zero,qK];show Hu bs.length []=_;simp[Hu,weights,aW]
 | k+1,hk=>by
   have f:=Oh c d k (by omega);rw[aaV,Lc,f];obtain⟨i,j⟩:=ae (bs.length-1-k);have h:bs.length-k=i+1:=by omega
   have e:bs.length-(k+1)=i:=by omega
   have a:i<bs.length:=by omega
   rw[<-j,Hw c d a,h,e];have g:bs.drop i=bs[i]::bs.drop (i+1):=jf a;rw[g];simp only[weights,aW];rw[m_];congr 1;rw[x5 _ _ (by simp),List.replicate_succ',mm _ _ (by simp)];simp
def gB (w:World) (v:Value) (bs:List Nat):Prop:=∃s1 s2,v=.agg #[s1,s2,.int .i64 (aW bs:Nat)]/\bG w s1 (ds bs)/\bG w s2 (ds (weights bs))
def gB.mono {w w':World} {v:Value} (h:gB w v bs) (a:Below w.heap.size w w'):gB w' v bs:=by
 obtain⟨s1,s2,d,c,b⟩:=h;exact⟨s1,s2,d,c.mono a,b.mono a⟩
def Ld (e:∀b∈bs,1<=b) (h:∀b∈bs,b<9223372036854775808) (s:k<=bs.length) {c:List (BX bs.length)} {a:BX bs.length} (g:mE (ZC bs) bs.length k=c++[a])
 (f:1073741824 / (Hu bs.length c).2<a.1.2):1073741824<aW bs:=by
 cases k with
 | zero=>simp[mE] at g
 | succ k=>
   rw[aaV] at g;obtain⟨l,j⟩:=List.append_inj' g rfl;have m:ZC bs (bs.length-1-k)=a:=by simpa using j
   rw[<-l,Oh e h k (by omega),<-m] at f;obtain⟨i,n⟩:=ae (bs.length-1-k);have d:i<bs.length:=by omega
   rw[<-n,Hw e h d,show bs.length-k=i+1 from by omega] at f;simp only at f;have hd:=Cf e i;rw[jf d] at hd;simp only[aW] at hd;have r:=jD (bs:=bs.drop (i+1)) (λb o=>e b (l3 o));generalize aW (bs.drop (i+1))=p at *;generalize bs[i]=b at *;have q:1073741824<b*p:=by
    have:=Nat.lt_mul_of_div_lt f (by omega);exact this
   omega
end
section
open Go.RowKit Go.Cd Go.Shelf _root_.Go.Proofs.Tryz
attribute [local go_sem] Oper.semAt_some
def acN (bs:List Nat) (h:∀b∈bs,1<=b):((bs.map λb:Nat=>(b:Int)).any λb=>decide (b<1))=false:=by
 rw[zf];intro b d;obtain⟨c,a,rfl⟩:=j8.1 d;have:=h c a;simp;omega
def Hy (bs:List Nat):bO (bs.map λb:Nat=>(b:Int))=ds bs:=by simp[bO,ds]
def jE (w:World) (v:Value) (bs:List Nat):Prop:=∃s1 s2,v=.agg #[s1,s2,.int .i64 (aW bs:Nat)]/\Sl bB w s1 (ds bs)/\Sl bB w s2 (ds (weights bs))
def jE.weak {w:World} {v:Value} {bs:List Nat} (h:jE w v bs):gB w v bs:=by
 obtain⟨s1,s2,c,b,a⟩:=h;exact⟨s1,s2,c,b.any,a.any⟩
def jE.mono {w w':World} {v:Value} {bs:List Nat} (h:jE w v bs) (a:Below w.heap.size w w'):jE w' v bs:=by
 obtain⟨s1,s2,d,c,b⟩:=h;exact⟨s1,s2,d,c.mono a,b.mono a⟩
def ZF {w:World} {v:Value} {bs:List Nat} (h:bG w v (ds bs)) (ac:bs.length<1099511627776) (ai:∀b∈bs,1<=b) (H:∀b∈bs,b<9223372036854775808) :
 Calls prog 83 #[v] w λe w'=>∃(r:Value) (e0:Nat),e=.returned (.tuple #[r,.int .i64 e0])/\Below w.heap.size w w'/\((aW bs<=1073741824/\e0=0/\jE w' r bs)\/(1073741824<aW bs/\e0=4/\r=.agg #[.slice none 0 0,.slice none 0 0,.int .i64 0])):=by
 rw[<-Hy] at h;have hb:=dH (w:=w) (.cells #[.slice none 0 0,.slice none 0 0,.int .i64 0] dh) (.cells #[.int .i64 0] 38);have CF:=aa (Af (h.mono hb) (by simpa using ac));have z2:((w.alloc (.cells #[.slice none 0 0,.slice none 0 0,.int .i64 0] dh)).alloc (.cells #[.int .i64 0] 38)).heap[w.heap.size]? = some (.cells #[.slice none 0 0,.slice none 0 0,.int .i64 0] dh):=((ah _).block _ (by simp)).trans (heap_alloc_new' _ _ _ rfl);have z3:((w.alloc (.cells #[.slice none 0 0,.slice none 0 0,.int .i64 0] dh)).alloc (.cells #[.int .i64 0] 38)).heap[w.heap.size+1]? = some (.cells #[.int .i64 0] 38):=heap_alloc_new' _ _ _ (by simp);rw[acN bs ai] at CF;have CL:=aa (λ(W:World) (E:Below _ ((w.alloc (.cells #[.slice none 0 0,.slice none 0 0,.int .i64 0] dh)).alloc (.cells #[.int .i64 0] 38)) W)=>FM ((h.mono hb).mono E) (by simpa using ac));rw[Hy,iz] at CL;obtain⟨x1,Ao,rfl,bg,_⟩:=bG.nN h;rw[iz] at *;have D5:=aa ai;have ZG:=aa H;clear h ai H;refine iW func83 rfl ?_;simp only[ntmps83,ps,im,kp,Nat.reduceAdd,Nat.reduceSub,oe,n8,pt,oE,lf,lz];go_wp2_with fail;refine CF.out.mono ?_;rintro e w2⟨rfl,I⟩;have y2:qj w2 w.heap.size (.slice none 0 0) (.slice none 0 0) (.int .i64 0) dh:=⟨(I.block _ (by simp <;> omega)).trans z2⟩;have y3:=(I.block _ (by simp)).trans z3;have T0:=AO w2;have aT:=aa (λ(W:World) (E:Below w2.heap.size w2 W)=>CL.out W (af I E));have aq:=af hb I;have M:w.heap.size+2<=w2.heap.size:=by have:=I.size;simp at this;omega
 clear CF CL I hb z2 z3;go_upto_region 3 with fail
 go_cut [4] from 10 to 15 (λpv y=>∃(X:Nat) (q:Option Addr) (t g:Nat),pv=.pointer (some ⟨X,0,none⟩)/\qj y X (.slice q bs.length t) (.slice (some ⟨g,0,none⟩) bs.length bs.length) (.int .i64 1) dh/\y.ownsRow 0 bB 1 (.slice q bs.length t) bs.length (ds bs)/\y.ownsRow 0 bB 1 (.slice (some ⟨g,0,none⟩) bs.length bs.length) bs.length (List.replicate bs.length (Value.int .i64 0))/\
  qj y w.heap.size (.slice none 0 0) (.slice none 0 0) (.int .i64 0) dh/\y.heap[w.heap.size+1]? = some (.cells #[.int .i64 0] 38)/\Below w.heap.size w y/\(Value.slice q bs.length t).ownBlock≠some g/\w2.heap.size<=g/\w2.heap.size<=X/\g≠X/\(Value.slice q bs.length t).ownBlock≠some X)
 case first=>
  refine aC #[true,true,true,true,true,true,true,false] 7 1 mixed ?_;have SE:=af T0 (ag _);refine ay [0,2,3] 4 ?_
  iterate 3 (refine aA rfl ?_;go_big_quiet_step (rfl))
  refine az ?_;refine Oe [6] (λ_ v W=>∃k,v=.pointer (some ⟨k,0,none⟩)/\W.heap[k]? = some (.cells #[.slice none 0 0,.slice none 0 0,.int .i64 0] dh)) rq 3 rfl (by kernel_rfl) (λ_ _ _ _ hb h=>wV hb h) ?_ ?_
  ·intro i hi o ho;simp only[jt,kt,or_false] at hi;subst hi;cases ho;exact wU rfl rfl (λW=>by go_simp)
  refine ZA 1 4 ?_ ?_
  ·intro a8 aZ;have aM:=af SE aZ;go_wp2_with fail;refine(aT.out _ aM).mono ?_;rintro e bo⟨s1,rfl,G,SF⟩;obtain⟨q,t,rfl,_,_⟩:=bG.out (Sl.aU G).any;rw[nU] at *;go_wp2_with fail;refine aF SF ?_;have Uv:=af aM SF;refine pI 4 ?_;intro N ZH;go_wp2_with (at_make;refine gm _ rfl _ _ 23 rfl N.heap.size bB _ 8 jI rfl .i64 .i64 _ _ bs.length rfl rfl (by omega) (by omega) (by omega) (by unfold maxLen;omega) (by simp) ?_;intro Oi C L);refine aF (fO L) ?_;have FN:=fO L;have Yo:=af (af Uv ZH) FN;have R:(Value.slice q bs.length t).ownBlock≠some N.heap.size:=λe=>by
    have:=(G.lt _ e).2;have:=ZH.size;omega
   have G:=aH G (af ZH FN);obtain⟨g,V⟩:=ae N.heap.size;rw[<-V] at C R⊢;have ap:w2.heap.size<=g:=by have:=(af Uv ZH).size;omega
   clear V L aM Uv SF aZ ZH FN SE;refine oC [5] 0 ?_;refine aA rfl ?_;go_big_quiet_step (rfl);refine az ?_;refine aa3 [7] ?_;intro W Wb vs hR hD;have WE:=af Yo Wb;obtain⟨⟨X,hv,hh⟩,hN,T⟩:=hR 6 (by simp);rw[hv] at hN T;simp only[rq] at hN T;rw[ru (d:=some 4) rfl,hv];have G:=aH G Wb;have C:=aH C Wb;have IX:qj W X (.slice none 0 0) (.slice none 0 0) (.int .i64 0) dh:=⟨hh⟩;have O:g≠X:=λe=>by
    have:=C.2;rcases this with⟨h,_⟩|⟨g',_,aN,h,_,h2,_⟩
    ·cases h
    cases h;rw[e,hh] at h2;cases h2
   have SG:(Value.slice q bs.length t).ownBlock≠some X:=λe=>by
    rcases G.2 with⟨h,_⟩|⟨g',_,aN,h,_,h2,_⟩
    ·rw[h] at e;cases e
    rw[h] at e;cases e;rw[hh] at h2;cases h2
   obtain⟨⟨g1,g2⟩,Q,U⟩:=IX.writes;have g5:=λu=>(Q u).1;have g6:=λu=>(Q u).2;have g7:=λu S=>(U u S).1;have g8:=λu S=>(U u S).2;have am:=qj.set0 IX (.slice q bs.length t);have an:=am.set1 (.slice (some ⟨g,0,none⟩) bs.length bs.length);have FX:=an.set2 (.int .i64 1);have f:∀(W:World) (k o:Nat) (u:Value),W.grownBy (W.setCell ⟨k,o,none⟩ u) (some k):=λW k o u=>⟨rfl,rfl,rfl,by simp,λj _ hj=>heap_setCell_other W ⟨k,o,none⟩ j u (λe=>hj (by simp[e]))⟩;have G:=((G.kept (f _ X 0 (.slice q bs.length t)) (.inr SG)).kept (f _ X 1 (.slice (some ⟨g,0,none⟩) bs.length bs.length)) (.inr SG)).kept (f _ X 2 (.int .i64 1)) (.inr SG);have Oj:(Value.slice (some ⟨g,0,none⟩) bs.length bs.length).ownBlock≠some X:=λe=>O (by simpa [Value.ownBlock] using e);have C:=((C.kept (f _ X 0 (.slice q bs.length t)) (.inr Oj)).kept (f _ X 1 (.slice (some ⟨g,0,none⟩) bs.length bs.length)) (.inr Oj)).kept (f _ X 2 (.int .i64 1)) (.inr Oj);have aE:w2.heap.size<=X:=hN;have a0:w.heap.size+2<=X:=by omega
   have F2:=(((y2.mono WE).put (j:=X) (o:=0) (by omega) (.slice q bs.length t)).put (j:=X) (o:=1) (by omega) (.slice (some ⟨g,0,none⟩) bs.length bs.length)).put (j:=X) (o:=2) (by omega) (.int .i64 1);have F3:(((W.setCell ⟨X,0,none⟩ (.slice q bs.length t)).setCell ⟨X,1,none⟩ (.slice (some ⟨g,0,none⟩) bs.length bs.length)).setCell ⟨X,2,none⟩ (.int .i64 1)).heap[w.heap.size+1]? = some (.cells #[.int .i64 0] 38):=by
    rw[jj _ _ _ _ (by simp only;omega),jj _ _ _ _ (by simp only;omega),jj _ _ _ _ (by simp only;omega)];exact(WE.block _ (block_lt y3)).trans y3
   have Z:Below w.heap.size w (((W.setCell ⟨X,0,none⟩ (.slice q bs.length t)).setCell ⟨X,1,none⟩ (.slice (some ⟨g,0,none⟩) bs.length bs.length)).setCell ⟨X,2,none⟩ (.int .i64 1)):=
    aj (aj (aj (aq.trans (WE.mono aq.size)) (by omega)) (by omega)) (by omega)
   refine uO (os:=[_]) rfl ?_;clear WE Wb hR hD hv hh hN T Yo IX am an Q U;go_wp2_with fail;clear g1 g2 g5 g6 g7 g8;refine uP ?_;obtain⟨y,hW⟩:∃y,((W.setCell ⟨X,0,none⟩ (.slice q bs.length t)).setCell ⟨X,1,none⟩ (.slice (some ⟨g,0,none⟩) bs.length bs.length)).setCell ⟨X,2,none⟩ (.int .i64 1)=y:=⟨_,rfl⟩;rw[hW] at FX G C F2 F3 Z⊢;clear hW;go_wp2_with fail;go_meet;exact⟨X,q,t,g,rfl,FX,oo G (ic _),oo C (ic _),F2,F3,Z,R,ap,aE,O,SG⟩
  intro N ZH;go_wp2_with (at_make;refine gm _ rfl _ _ 23 rfl N.heap.size bB _ 8 jI rfl .i64 .i64 _ _ bs.length rfl rfl (by omega) (by omega) (by omega) (by unfold maxLen;omega) (by simp) ?_;intro a8 C L);refine aF (fO L) ?_;have Uv:=af (af SE ZH) (fO L);refine pI 1 ?_;intro bm au;have aD:=af Uv au;go_wp2_with fail;refine(aT.out _ aD).mono ?_;rintro e Oi⟨s1,rfl,G,FN⟩;obtain⟨q,t,rfl,_,_⟩:=bG.out (Sl.aU G).any;rw[nU] at *;go_wp2_with fail;refine aF FN ?_;have Yo:=af aD FN;have a7:=(C.lt N.heap.size rfl).2;have R:(Value.slice q bs.length t).ownBlock≠some N.heap.size:=λe=>by
   have:=(G.lt _ e).1;have:=au.size;omega
  have C:=aH C (af au FN);obtain⟨g,V⟩:=ae N.heap.size;rw[<-V] at C R⊢;have ap:w2.heap.size<=g:=by have:=(af SE ZH).size;omega
  clear V L a7 Uv aD FN ZH au SE;refine oC [5] 0 ?_;refine aA rfl ?_;go_big_quiet_step (rfl);refine az ?_;refine aa3 [7] ?_;intro W Wb vs hR hD;have WE:=af Yo Wb;obtain⟨⟨X,hv,hh⟩,hN,T⟩:=hR 6 (by simp);rw[hv] at hN T;simp only[rq] at hN T;rw[ru (d:=some 4) rfl,hv];have G:=aH G Wb;have C:=aH C Wb;have IX:qj W X (.slice none 0 0) (.slice none 0 0) (.int .i64 0) dh:=⟨hh⟩;have O:g≠X:=λe=>by
   have:=C.2;rcases this with⟨h,_⟩|⟨g',_,aN,h,_,h2,_⟩
   ·cases h
   cases h;rw[e,hh] at h2;cases h2
  have SG:(Value.slice q bs.length t).ownBlock≠some X:=λe=>by
   rcases G.2 with⟨h,_⟩|⟨g',_,aN,h,_,h2,_⟩
   ·rw[h] at e;cases e
   rw[h] at e;cases e;rw[hh] at h2;cases h2
  obtain⟨⟨g1,g2⟩,Q,U⟩:=IX.writes;have g5:=λu=>(Q u).1;have g6:=λu=>(Q u).2;have g7:=λu S=>(U u S).1;have g8:=λu S=>(U u S).2;have am:=qj.set0 IX (.slice q bs.length t);have an:=am.set1 (.slice (some ⟨g,0,none⟩) bs.length bs.length);have FX:=an.set2 (.int .i64 1);have f:∀(W:World) (k o:Nat) (u:Value),W.grownBy (W.setCell ⟨k,o,none⟩ u) (some k):=λW k o u=>⟨rfl,rfl,rfl,by simp,λj _ hj=>heap_setCell_other W ⟨k,o,none⟩ j u (λe=>hj (by simp[e]))⟩;have G:=((G.kept (f _ X 0 (.slice q bs.length t)) (.inr SG)).kept (f _ X 1 (.slice (some ⟨g,0,none⟩) bs.length bs.length)) (.inr SG)).kept (f _ X 2 (.int .i64 1)) (.inr SG);have Oj:(Value.slice (some ⟨g,0,none⟩) bs.length bs.length).ownBlock≠some X:=λe=>O (by simpa [Value.ownBlock] using e);have C:=((C.kept (f _ X 0 (.slice q bs.length t)) (.inr Oj)).kept (f _ X 1 (.slice (some ⟨g,0,none⟩) bs.length bs.length)) (.inr Oj)).kept (f _ X 2 (.int .i64 1)) (.inr Oj);have aE:w2.heap.size<=X:=hN;have a0:w.heap.size+2<=X:=by omega
  have F2:=(((y2.mono WE).put (j:=X) (o:=0) (by omega) (.slice q bs.length t)).put (j:=X) (o:=1) (by omega) (.slice (some ⟨g,0,none⟩) bs.length bs.length)).put (j:=X) (o:=2) (by omega) (.int .i64 1);have F3:(((W.setCell ⟨X,0,none⟩ (.slice q bs.length t)).setCell ⟨X,1,none⟩ (.slice (some ⟨g,0,none⟩) bs.length bs.length)).setCell ⟨X,2,none⟩ (.int .i64 1)).heap[w.heap.size+1]? = some (.cells #[.int .i64 0] 38):=by
   rw[jj _ _ _ _ (by simp only;omega),jj _ _ _ _ (by simp only;omega),jj _ _ _ _ (by simp only;omega)];exact(WE.block _ (block_lt y3)).trans y3
  have Z:Below w.heap.size w (((W.setCell ⟨X,0,none⟩ (.slice q bs.length t)).setCell ⟨X,1,none⟩ (.slice (some ⟨g,0,none⟩) bs.length bs.length)).setCell ⟨X,2,none⟩ (.int .i64 1)):=
   aj (aj (aj (aq.trans (WE.mono aq.size)) (by omega)) (by omega)) (by omega)
  refine uO (os:=[_]) rfl ?_;clear WE Wb hR hD hv hh hN T Yo IX am an Q U;go_wp2_with fail;clear g1 g2 g5 g6 g7 g8;refine uP ?_;obtain⟨y,hW⟩:∃y,((W.setCell ⟨X,0,none⟩ (.slice q bs.length t)).setCell ⟨X,1,none⟩ (.slice (some ⟨g,0,none⟩) bs.length bs.length)).setCell ⟨X,2,none⟩ (.int .i64 1)=y:=⟨_,rfl⟩;rw[hW] at FX G C F2 F3 Z⊢;clear hW;go_wp2_with fail;go_meet;exact⟨X,q,t,g,rfl,FX,oo G (ic _),oo C (ic _),F2,F3,Z,R,ap,aE,O,SG⟩
 case rest=>
  rename World=>y;obtain⟨X,q,t,g,rfl,FX,G,C,F2,F3,Z,R,ap,hN,O,SG⟩:=hcut;have a0:w.heap.size+2<=X:=by omega
  have f:∀(W:World) (k o:Nat) (u:Value),W.grownBy (W.setCell ⟨k,o,none⟩ u) (some k):=λW k o u=>⟨rfl,rfl,rfl,by simp,λj _ hj=>heap_setCell_other W ⟨k,o,none⟩ j u (λe=>hj (by simp[e]))⟩;obtain⟨e0,e1,e2⟩:=FX.cell;go_wp2_with fail;refine(Ht _ y ⟨_,_,_,rfl⟩).mono ?_;rintro e w5⟨rfl,rfl⟩;go_wp2_with fail;have Yf:=aa R;have WL:=aa (show y.heap.size<=(y.alloc (.cells #[.slice q bs.length t] 23)).heap.size by simp);have bt:X<y.heap.size:=block_lt FX.at_;have bj:g<y.heap.size:=(C.lt g rfl).2;have e2:List.replicate bs.length (Value.int .i64 0)=ds (Hu bs.length []).1:=by simp[ds,Hu]
  rw[e2] at C;obtain⟨bb,bi,bd,bc⟩:∃bb,bb<=y.heap.size/\(0<bs.length->(Value.slice q bs.length t).ownBlock=some bb)/\Cc bb (y.alloc (.cells #[.slice q bs.length t] 23)) (.slice q bs.length t) bs.length (λj=>((ZC bs j).1.2:Int)):=by
   rcases (Sl.aU G).any.cases with⟨hn,a,cap,hv,_⟩|⟨b,off,cap,hv,hc,hp,hb,hx⟩
   ·have hl:bs=[]:=by simpa [ds] using hn
    subst hl;exact⟨0,ic _,λh=>absurd h (by simp),.inl ⟨rfl,_,_,rfl⟩⟩
   rw[nU] at hv;cases hv;refine⟨b,oT hb,λ_=>rfl,.inr ⟨off,_,rfl,by simp;omega,λj hj=>?_⟩⟩;rw[(ah _).cell (p:=⟨b,off+j,none⟩) hb,hx j (by rw[nU];exact hj),oM _ _ hj];show _=some (Value.int .i64 (((ZC bs j).1.2:Nat):Int));rw[Hw D5.out ZG.out hj]
  refine(wpIn_wide (n:=5)).1 ?_;refine wpIn_rangeFunc_ownG (F:=Fence.wide) rfl (by omega) (gf:=168) (lb:=#[.pointer (some ⟨y.heap.size,0,none⟩)]) rfl trivial (enters_of func168 (by kernel_rfl) rfl)
   (Lb Fence.wide 4 trivial rfl (by omega) y.heap.size bb (.slice q bs.length t) bs.length ac (ZC bs) (λx=>#[.int .i64 (x.1.1:Int),.int .i64 (x.1.2:Int)]) (λj=>((ZC bs j).1.2:Int))
     (λj hj=>by rw[Hw D5.out ZG.out hj]) (y.alloc (.cells #[.slice q bs.length t] 23)) (by simp) (by go_simp) bc)
   (λh k=>h.trans k) (λW l o o' hl ho hc _=>by
     have bh:y.heap.size+1<=l:=by simpa using hl
     exact⟨nd (by omega),nd (by omega)⟩) (gS _ _) (λ_=>rfl)
   (λz W=>(((1<=(Hu bs.length z).2/\(Hu bs.length z).2<=1073741824)/\qj W X (.slice q bs.length t) (.slice (some ⟨g,0,none⟩) bs.length bs.length) (.int .i64 ((Hu bs.length z).2:Nat)) dh/\W.ownsRow 0 bB 1 (.slice (some ⟨g,0,none⟩) bs.length bs.length) bs.length (ds (Hu bs.length z).1)/\
     W.ownsRow 0 bB 1 (.slice q bs.length t) bs.length (ds bs)/\qj W w.heap.size (.slice none 0 0) (.slice none 0 0) (.int .i64 0) dh/\W.heap[w.heap.size+1]? = some (.cells #[.int .i64 0] 38))/\Below w.heap.size w W))
   (λc z W=>(c=.ret/\(∃(aL:List (BX bs.length)) (ab:BX bs.length),z=aL++[ab]/\1073741824 / (Hu bs.length aL).2<ab.1.2)/\qj W w.heap.size (.slice none 0 0) (.slice none 0 0) (.int .i64 0) dh/\W.heap[w.heap.size+1]? = some (.cells #[.int .i64 4] 38))/\Below w.heap.size w W)
   (OwnFrom.and (Own.from (λs A B row hs V hr=>⟨hs.1,⟨oh V hr hs.2.1.at_⟩,U2 V hr hs.2.2.1,U2 V hr hs.2.2.2.1,⟨oh V hr hs.2.2.2.2.1.at_⟩,oh V hr hs.2.2.2.2.2⟩) _) (ownFrom_below (d' _) (by have:=Z.size;simp;omega)))
   (λc=>OwnFrom.and (Own.from (λs A B row hs V hr=>⟨hs.1,hs.2.1,⟨oh V hr hs.2.2.1.at_⟩,oh V hr hs.2.2.2⟩) _) (ownFrom_below (d' _) (by have:=Z.size;simp;omega)))
   ⟨⟨⟨d' _,by show(1:Nat)<=1073741824;decide⟩,FX.mono (ah _),oo (aH C (ah _)) (ic _),oo (aH G (ah _)) (ic _),F2.mono (ah _),((ah _).block _ (block_lt F3)).trans F3⟩,Z.alloc Z.size _⟩
   (λx=>{ tmps:=#[.slice x1 bs.length Ao,undef,.pointer (some ⟨w.heap.size,0,none⟩),.pointer (some ⟨w.heap.size+1,0,none⟩),.pointer (some ⟨X,0,none⟩),.int .i64 (x.1.1:Int),.int .i64 (x.1.2:Int),.slice x1 bs.length Ao,.bool false,undef,u10,u11,u12,u13,u14,u15,.pointer (some ⟨X,0,none⟩),.slice q bs.length t,
     .func (.func 168) #[] #[.pointer (some ⟨y.heap.size,0,none⟩)],.int .i64 (x.1.1:Int),.int .i64 (x.1.2:Int),undef,undef,undef,undef,undef,undef,undef,undef,undef,undef,undef,undef,undef,undef,undef,undef,undef,undef],defers:=[] }) ?assign ?body ?done ?stop
  case assign=>
   intro l x W K hK
   gi_wp2
   exact hK
  case body=>
   rintro l z⟨⟨i,b⟩,hi,ax,I⟩ Wr ⟨⟨⟨av,M⟩,JX,Y,q1,G2,G3⟩,hB⟩ bp;have br:i<bs.length:=by rcases hi with h|h;exact h;omega
   have aB:=Lc z ⟨(i,b),hi,ax,I⟩;have aP:=ZB z;obtain⟨row,s,aG⟩:∃row s,Hu bs.length z=(row,s):=⟨_,_,rfl⟩;rw[aG] at aB aP av M JX Y;simp only at aB aP av M JX Y ax I hi;have a_:=aa aG;have a6:=aa aB;clear aG aB;obtain⟨u0,u1,u2⟩:=JX.cell;obtain⟨aJ,bq⟩:=jY Y (j:=i) (by simp;omega);rw[oM _ _ (by omega)] at aJ;have bf:X≠g:=λe=>O e.symm;obtain⟨q3,aI⟩:=Y.stored i (.int .i64 (s:Int));have e3:(ds row).set i (.int .i64 (s:Int))=ds (row.set i s):=by simp[ds,th]
   rw[e3] at q3;have al:=Yf.out;have q4:=q1.kept aI (.inr al);have KX:=JX.put (j:=g) (o:=i) bf (.int .i64 (s:Int));have L:w.heap.size+2<=g:=by omega
   have K2:=G2.put (j:=g) (o:=i) (by omega) (.int .i64 (s:Int));have K3:(Wr.setCell ⟨g,i,none⟩ (.int .i64 (s:Int))).heap[w.heap.size+1]? = some (.cells #[.int .i64 0] 38):=by rw[jj _ _ _ _ (by simp only;omega)];exact G3
   have ar:=aj (off:=i) (u:=.int .i64 (s:Int)) (b:=g) hB (by omega);obtain⟨v0,v1,v2⟩:=KX.cell;have v3:=KX.frozen 2;have bk:s≠0:=by omega
   have bn:KeepsFrom y.heap.size Wr (Wr.setCell ⟨g,i,none⟩ (.int .i64 (s:Int))):=(KeepsOthers.setCell _ _ _).from _;by_cases H:1073741824 / s<b
   ·have a2:decide ((1073741824:Int) / (s:Int)<(b:Int))=true:=decide_eq_true (by have:=Int.ofNat_lt.2 H;rw[zE] at this;exact this);have bl:(1073741824:Int) / (s:Int)<(b:Int):=of_decide_eq_true a2;obtain⟨⟨g1,g2⟩,Q,U⟩:=K2.writes;have g5:=λu=>(Q u).1;have g6:=λu=>(Q u).2;have g7:=λu S=>(U u S).1;have g8:=λu S=>(U u S).2;have J2:=((K2.set0 (.slice none 0 0)).set1 (.slice none 0 0)).set2 (.int .i64 0);have J3:(((((Wr.setCell ⟨g,i,none⟩ (.int .i64 (s:Int))).setCell ⟨w.heap.size,0,none⟩ (.slice none 0 0)).setCell ⟨w.heap.size,1,none⟩ (.slice none 0 0)).setCell ⟨w.heap.size,2,none⟩ (.int .i64 0))).heap[w.heap.size+1]? = some (.cells #[.int .i64 0] 38):=by
     rw[jj _ _ _ _ (by simp),jj _ _ _ _ (by simp),jj _ _ _ _ (by simp)];exact K3
    obtain⟨g9,a3⟩:=abl J3;have ad:=J2.put (j:=w.heap.size+1) (o:=0) (by omega) (.int .i64 4);have ak:=FK (u:=.int .i64 4) J3;have ZI:=aj (off:=0) (u:=.int .i64 4) (b:=w.heap.size+1) (aj (off:=2) (u:=.int .i64 0) (b:=w.heap.size) (aj (off:=1) (u:=.slice none 0 0) (b:=w.heap.size) (aj (off:=0) (u:=.slice none 0 0) (b:=w.heap.size) ar (d' _)) (d' _)) (d' _)) (by omega);have ao:=((((KeepsOthers.setCell Wr ⟨g,i,none⟩ (.int .i64 (s:Int))).trans (KeepsOthers.setCell _ ⟨w.heap.size,0,none⟩ (.slice none 0 0))).trans (KeepsOthers.setCell _ ⟨w.heap.size,1,none⟩ (.slice none 0 0))).trans (KeepsOthers.setCell _ ⟨w.heap.size,2,none⟩ (.int .i64 0))).trans (KeepsOthers.setCell _ ⟨w.heap.size+1,0,none⟩ (.int .i64 4));clear Q U J2 J3 K2 K3 G2 G3 hB ar q1 Y q3 q4 KX JX aI
    gi_wp2
    exact⟨ao.from _,⟨rfl,⟨z,⟨(i,b),hi,ax,I⟩,rfl,by rw[a_.out];exact H⟩,ad,ak⟩,ZI⟩
   have a2:decide ((1073741824:Int) / (s:Int)<(b:Int))=false:=decide_eq_false (by have:=Int.ofNat_le.2 (sB H);rw[zE] at this;exact xm.2 this);have aX:s*b<=1073741824:=by
    have h1:=sB H;have h2:=sT s h1;have h3:=Nat.mul_div_le 1073741824 s;omega
   have aO:1<=s*b:=pP av ax;have aQ:wrap64 ((s:Int)*(b:Int))=((s*b:Nat):Int):=by rw[<-xB];unfold wrap64;omega
   have L2:=KX.set2 (.int .i64 ((s*b:Nat):Int));have a9:(Value.slice (some ⟨g,0,none⟩) bs.length bs.length).ownBlock≠some X:=λe=>O (by simpa [Value.ownBlock] using e);have q5:=q3.kept (f _ X 2 (.int .i64 ((s*b:Nat):Int))) (.inr a9);have q6:=q4.kept (f _ X 2 (.int .i64 ((s*b:Nat):Int))) (.inr SG);have L3:=K2.put (j:=X) (o:=2) (by omega) (.int .i64 ((s*b:Nat):Int));have L4:((Wr.setCell ⟨g,i,none⟩ (.int .i64 (s:Int))).setCell ⟨X,2,none⟩ (.int .i64 ((s*b:Nat):Int))).heap[w.heap.size+1]? = some (.cells #[.int .i64 0] 38):=by rw[jj _ _ _ _ (by simp only;omega)];exact K3
   have aR:=aj (off:=2) (u:=.int .i64 ((s*b:Nat):Int)) (b:=X) ar (by omega);have ao:=(KeepsOthers.setCell Wr ⟨g,i,none⟩ (.int .i64 (s:Int))).trans (KeepsOthers.setCell _ ⟨X,2,none⟩ (.int .i64 ((s*b:Nat):Int)));have ba:=bd (by omega);have aY:bb≠g/\bb≠X:=by
    rw[ba] at al SG;exact⟨λe=>al (by rw[e]),λe=>SG (by rw[e])⟩
   have aV:lM y.heap.size bb Wr ((Wr.setCell ⟨g,i,none⟩ (.int .i64 (s:Int))).setCell ⟨X,2,none⟩ (.int .i64 ((s*b:Nat):Int))):=by
    constructor
    ·rw[jj _ _ _ _ (by simp only;omega),jj _ _ _ _ (by simp only;omega)]
    rw[jj _ _ _ _ (by simp only;exact aY.2),jj _ _ _ _ (by simp only;exact aY.1)]
   have HW:=aa aQ;obtain⟨m,hm⟩:=ae (s*b);rw[<-hm] at aQ aX aO L2 L3 L4 q5 q6 aR ao aV;have HM:=aa hm;clear hm K2 K3 G2 G3 hB ar q1 Y q3 q4 KX JX aI
   gi_wp2
   refine⟨ao.from _,aV,?_⟩;dsimp only;rw[a6.out];exact⟨⟨⟨by rw[<-HM.out];exact aO,by rw[<-HM.out];exact aX⟩,by rw[<-HM.out];exact L2,q5,q6,L3,L4⟩,aR⟩
  case done=>
   rintro D ys Wd hD rfl⟨⟨⟨av,M⟩,JX,Y,q1,G2,G3⟩,hB⟩ hK;rw[Oh D5.out ZG.out _ (d' _),ns,List.drop_zero] at M JX Y;simp only[List.replicate_zero,lf] at Y M JX;obtain⟨P,hP⟩:=ae (aW bs);rw[<-hP] at M JX;have HP:=aa hP;clear hP;have a4:y.heap.size+1<=D:=by simpa using hD
   obtain⟨u0,u1,u2⟩:=JX.cell;obtain⟨⟨g1,g2⟩,Q,U⟩:=G2.writes;have g5:=λu=>(Q u).1;have g6:=λu=>(Q u).2;have g7:=λu S=>(U u S).1;have g8:=λu S=>(U u S).2;have J2:=((G2.set0 (.slice q bs.length t)).set1 (.slice (some ⟨g,0,none⟩) bs.length bs.length)).set2 (.int .i64 (P:Int));have J3:((((Wd.setCell ⟨w.heap.size,0,none⟩ (.slice q bs.length t)).setCell ⟨w.heap.size,1,none⟩ (.slice (some ⟨g,0,none⟩) bs.length bs.length)).setCell ⟨w.heap.size,2,none⟩ (.int .i64 (P:Int)))).heap[w.heap.size+1]? = some (.cells #[.int .i64 0] 38):=by
    rw[jj _ _ _ _ (by simp),jj _ _ _ _ (by simp),jj _ _ _ _ (by simp)];exact G3
   obtain⟨g9,a3⟩:=abl J3;have ad:=J2.put (j:=w.heap.size+1) (o:=0) (by omega) (.int .i64 0);have ak:=FK (u:=.int .i64 0) J3;have n1:=own_ne q1 G2.at_ (by decide);have n2:=own_ne q1 G3 (by decide);have n3:=own_ne Y G2.at_ (by decide);have n4:=own_ne Y G3 (by decide);have q3:=(((q1.kept (f _ w.heap.size 0 (.slice q bs.length t)) (.inr n1)).kept (f _ w.heap.size 1 (.slice (some ⟨g,0,none⟩) bs.length bs.length)) (.inr n1)).kept (f _ w.heap.size 2 (.int .i64 (P:Int))) (.inr n1)).kept (f _ (w.heap.size+1) 0 (.int .i64 0)) (.inr n2);have q4:=(((Y.kept (f _ w.heap.size 0 (.slice q bs.length t)) (.inr n3)).kept (f _ w.heap.size 1 (.slice (some ⟨g,0,none⟩) bs.length bs.length)) (.inr n3)).kept (f _ w.heap.size 2 (.int .i64 (P:Int))) (.inr n3)).kept (f _ (w.heap.size+1) 0 (.int .i64 0)) (.inr n4);have ZI:=aj (off:=0) (u:=.int .i64 0) (b:=w.heap.size+1) (aj (off:=2) (u:=.int .i64 (P:Int)) (b:=w.heap.size) (aj (off:=1) (u:=.slice (some ⟨g,0,none⟩) bs.length bs.length) (b:=w.heap.size) (aj (off:=0) (u:=.slice q bs.length t) (b:=w.heap.size) hB (d' _)) (d' _)) (d' _)) (by omega);have aw:(((((Wd.setCell ⟨w.heap.size,0,none⟩ (.slice q bs.length t)).setCell ⟨w.heap.size,1,none⟩ (.slice (some ⟨g,0,none⟩) bs.length bs.length)).setCell ⟨w.heap.size,2,none⟩ (.int .i64 (P:Int)))).setCell ⟨w.heap.size+1,0,none⟩ (.int .i64 0)).heap[D]? = some (.deferred (some [])):=by
    have:=Z.size;rw[jj _ _ _ _ (by simp only;omega),jj _ _ _ _ (by simp only;omega),jj _ _ _ _ (by simp only;omega),jj _ _ _ _ (by simp only;omega)];exact hK
   obtain⟨Wf,aK⟩:∃Wf,((((Wd.setCell ⟨w.heap.size,0,none⟩ (.slice q bs.length t)).setCell ⟨w.heap.size,1,none⟩ (.slice (some ⟨g,0,none⟩) bs.length bs.length)).setCell ⟨w.heap.size,2,none⟩ (.int .i64 (P:Int)))).setCell ⟨w.heap.size+1,0,none⟩ (.int .i64 0)=Wf:=⟨_,rfl⟩;rw[aK] at ad ak q3 q4 ZI aw;have be:=aa aK;have Uw:Wf.grownBy (Wf.putObj D (.deferred none)) (some D):=grownBy_putObj' Wf D (.deferred none);have J:∀r,some D=some r->∃o:Obj,Wf.heap[r]? = some o/\o.isCells=false:=λr e=>by cases e;exact⟨_,aw,rfl⟩
   have M2:qj (Wf.putObj D (.deferred none)) w.heap.size (.slice q bs.length t) (.slice (some ⟨g,0,none⟩) bs.length bs.length) (.int .i64 (P:Int)) dh:=⟨oh Uw J ad.at_⟩;have M3:=(abl (oh Uw J ak)).1;obtain⟨m0,m1,m2⟩:=M2.cell;have q5:=U2 Uw J q3;have q6:=U2 Uw J q4;have Vk:=ZI.trans (belowK_b (w:=w) (d' _) Wf D _ (.deferred none) (by have:=Z.size;omega) aw rfl rfl);clear Q U J2 J3 q1 Y q3 q4 G2 G3 hB ZI n1 n2 n3 n4 aK ad ak JX M2 hK Uw J;go_wp2;rw[be.out];refine⟨by simp,.inl ⟨_,_,rfl,run_takeDeferred aw,?_⟩⟩
   exact⟨.tuple #[.agg #[.slice q bs.length t,.slice (some ⟨g,0,none⟩) bs.length bs.length,.int .i64 (P:Int)],.int .i64 0],by simp[results,results83,go_sem,m0,m1,m2,M3],_,0,rfl,Vk,
    .inl ⟨by rw[<-HP.out];exact M,rfl,_,_,by rw[<-HP.out],Sl.aU q5,Sl.aU q6⟩⟩
  case stop=>
   rintro D c z Wd hD⟨k,hk,rfl⟩ ⟨⟨rfl,⟨aL,ab,e1,e2⟩,G2,G3⟩,hB⟩ hK;have aS:=Ld D5.out ZG.out hk e1 e2;have a4:y.heap.size+1<=D:=by simpa using hD
   have Uw:Wd.grownBy (Wd.putObj D (.deferred none)) (some D):=grownBy_putObj' Wd D (.deferred none);have J:∀r,some D=some r->∃o:Obj,Wd.heap[r]? = some o/\o.isCells=false:=λr e=>by cases e;exact⟨_,hK,rfl⟩
   have M2:qj (Wd.putObj D (.deferred none)) w.heap.size (.slice none 0 0) (.slice none 0 0) (.int .i64 0) dh:=⟨oh Uw J G2.at_⟩;have M3:=(abl (oh Uw J G3)).1;obtain⟨m0,m1,m2⟩:=M2.cell;have Vk:=hB.trans (belowK_b (w:=w) (d' _) Wd D _ (.deferred none) (by have:=Z.size;omega) hK rfl rfl);have a5:=aa aS;clear aS e1 e2 G2 G3 Uw J M2 hB
   gi_wp2
   refine⟨by simp,.inl ⟨_,_,rfl,run_takeDeferred hK,?_⟩⟩;exact⟨.tuple #[.agg #[.slice none 0 0,.slice none 0 0,.int .i64 0],.int .i64 4],by simp[results,results83,go_sem,m0,m1,m2,M3],_,4,rfl,Vk,.inr ⟨a5.out,rfl,rfl⟩⟩
end
open Go.RowKit Go.Cd _root_.Go.Proofs.Tryz
variable {bs:List Nat} {l:List Int} {w:World} {v:Value}
def wX:List Nat->List Int->Bool
 | [],[]=>true
 | b::bs,d::l=>decide (0<=d)&&decide (d<(b:Int))&&wX bs l
 | _,_=>false
def oF:∀(bs:List Nat) (l:List Int),wX bs l=true↔l.length=bs.length/\∀j (e:j<l.length) (f:j<bs.length),0<=l[j]/\l[j]<(bs[j]:Int)
 | [],[]=>by simp[wX]
 | [],_::_=>by simp[wX]
 | _::_,[]=>by simp[wX]
 | b::bs,d::l=>by
   simp only[wX,js,decide_eq_true_eq,im,Nat.add_right_cancel_iff];rw[oF bs l];constructor
   ·rintro⟨⟨e,f⟩,c,a⟩;refine⟨c,λj g h=>?_⟩;cases j with
    | zero=>exact⟨e,f⟩
    | succ j=>exact a j (by omega) (by omega)
   rintro⟨c,a⟩;refine⟨a 0 (by omega) (by omega),c,λj g h=>a (j+1) (by omega) (by omega)⟩
def Ol {j:Nat} (b:j<l.length) (a:j<bs.length) (h:l[j]<0\/(bs[j]:Int)<=l[j]):wX bs l=false:=by
 cases c:wX bs l
 ·rfl
 have:=((oF bs l).1 c).2 j b a;omega
def gU (bs:List Nat) (l:List Int):Nat->Nat
 | 0=>0
 | j+1=>gU bs l j*bs[j]?.getD 0+(l[j]?.getD 0).toNat
def zQ:∀(bs:List Nat) (j:Nat) (h:j<(weights bs).length),(weights bs)[j]=aW (bs.drop (j+1))
 | _::bs,0,_=>by simp[weights]
 | _::bs,j+1,h=>by
   have:=zQ bs j (by simpa [weights] using h);simpa [weights] using this
def lY {j:Nat} (h:j<bs.length):aW (bs.drop j)=bs[j]*aW (bs.drop (j+1)):=by
 rw[jf h];rfl
def Hz :∀j,j<=bs.length->j<=l.length->(∀t (a:t<l.length) (c:t<bs.length),t<j->0<=l[t]/\l[t]<(bs[t]:Int))->(gU bs l j+1)*aW (bs.drop j)<=aW bs
 | 0,_,_,_=>by simp[gU]
 | j+1,hb,hl,h=>by
   have b:=Hz j (by omega) (by omega) (λt a c e=>h t a c (by omega));have:=h j (by omega) (by omega) (by omega);rw[lY (by omega),<-qu] at b;simp only[gU,gx (show j<bs.length by omega),gx (show j<l.length by omega),ox];refine ia (m9 _ ?_) b;rw[mw,sr];omega
def wr1 {M:Nat} (h:M<1073741825):wrap64 (M:Int)=(M:Int):=by unfold wrap64;omega
def wr2 {O M:Nat} (h:O+M<1073741825):wrap64 ((O:Int)+(M:Int))=((O+M:Nat):Int):=by unfold wrap64;omega
def ZJ {h b Q n:Nat}:h*(b*Q)+n*Q=(h*b+n)*Q:=by rw[mw,qu]
def SH {h b Q n P:Nat} (a:(h+1)*(b*Q)<=P) (e:n<b) (d:P<=1073741824):h*(b*Q)+n*Q<1073741825:=by
 have:n*Q<=b*Q:=m9 Q (by omega);rw[mw,sr] at a;omega
def gB.out (h:gB w v bs):∃a d g j,v=.agg #[.slice a bs.length d,.slice g bs.length j,.int .i64 (aW bs:Nat)]/\
 bG w (.slice a bs.length d) (ds bs)/\bs.length<=d/\bs.length<=j/\(∀i (e:i<bs.length),∃b off,a=some ⟨b,off,none⟩/\b<w.heap.size/\w.cell? ⟨b,off+i,none⟩=some (.int .i64 (bs[i]:Nat)))/\
 (∀i (e:i<bs.length),∃b off,g=some ⟨b,off,none⟩/\b<w.heap.size/\w.cell? ⟨b,off+i,none⟩=some (.int .i64 (aW (bs.drop (i+1)):Nat))):=by
 obtain⟨s1,s2,rfl,q,r⟩:=h;have c:=q;obtain⟨a,d,rfl,s,m⟩:=bG.out q;obtain⟨g,j,rfl,t,o⟩:=bG.out r;have f:(ds bs).length=bs.length:=nU _;have n:(ds (weights bs)).length=bs.length:=by simp
 refine⟨a,d,g,j,by rw[f,n],by rw[f] at c;exact c,by omega,by omega,λi e=>?_,λi e=>?_⟩
 ·obtain⟨b,off,l,k,p⟩:=m i (by omega);exact⟨b,off,l,k,by rw[p,oM _ _ e]⟩
 obtain⟨b,off,l,k,p⟩:=o i (by omega);exact⟨b,off,l,k,by rw[p,oM _ _ (by simpa using e),zQ]⟩
def H6 (h:gB w v bs) (c:∀b∈bs,1<=b) (a:aW bs<=1073741824) :
 Calls prog 62 #[v] w λe w'=>e=.returned (.int .i64 (aW bs:Nat))/\Below w.heap.size w w':=by
 obtain⟨g,k,j,m,rfl,_⟩:=h.out;have i:=jD c;clear h;obtain⟨P,d⟩:=ae (aW bs);rw[<-d] at i a⊢;clear d;have:max (P:Int) 1=(P:Int):=by omega
 have:¬(P:Int)<1:=by omega
 have l:=ah (w:=w) (.cells #[.slice g bs.length k,.slice j bs.length m,.int .i64 (P:Int)] dh);go_enter func62,ntmps62;go_wp2;go_ret;exact⟨rfl,l⟩
def VT {u:Value} (h:gB w v bs) (g:bG w u (bO l)) (B:aW bs<=1073741824) (C:∀b∈bs,1<=b) (L:l.length<1099511627776) (ao:bs.length<1099511627776) :
 Calls prog 85 #[v,u] w λe w'=>e=.returned (.tuple #[.int .i64 (if wX bs l then (gU bs l bs.length:Nat) else (0:Nat)),.bool (wX bs l)])/\Below w.heap.size w w':=by
 obtain⟨x1,Ao,rfl,_,K⟩:=bG.nN g;obtain⟨T,X,Z,Y,rfl,_,ap,ar,H,I⟩:=h.out;have HX:=aa K;have an:=aa H;have af:=aa I;have:=aa C;clear h K H I g C;have W:=ah (w:=w) (.cells #[.slice T bs.length X,.slice Z bs.length Y,.int .i64 (aW bs:Nat)] dh);have U:qj (w.alloc (.cells #[.slice T bs.length X,.slice Z bs.length Y,.int .i64 (aW bs:Nat)] dh)) w.heap.size (.slice T bs.length X) (.slice Z bs.length Y) (.int .i64 (aW bs:Nat)) dh:=⟨heap_alloc_new' _ _ _ rfl⟩;obtain⟨P,hP⟩:=ae (aW bs);rw[<-hP] at B W U⊢;have HP:=aa hP;clear hP;obtain⟨e0,e1,e2⟩:=U.cell;by_cases k:l.length=bs.length
 ·have G:=Hz (bs:=bs) (l:=l);rw[<-HP.out] at G;have Qo:=aa G;have ak:=aa k;rw[k] at L⊢;have VI:=aa (oF bs l);have VF:=aa (λ(j:Nat) (z:j<l.length) (s:j<bs.length)=>Ol (bs:=bs) (l:=l) z s);clear k G;go_enter func85,ntmps85;go_wp2_with fail
  go_loopw [6,17] (λo i wr=>∃j:Nat,j<=bs.length/\i=.int .i64 j/\o=.int .i64 (gU bs l j*aW (bs.drop j):Nat)/\(∀t (z:t<l.length) (s:t<bs.length),t<j->0<=l[t]/\l[t]<(bs[t]:Int))/\Below w.heap.size w wr/\
   qj wr w.heap.size (.slice T bs.length X) (.slice Z bs.length Y) (.int .i64 (P:Int)) dh)
   (λ_ i _=>bs.length-(intOf i).toNat)
  case atStart=>exact⟨0,ic _,rfl,by simp[gU],λ_ _ _ h=>by omega,W,U⟩
  case round=>
   clear e0 e1 e2 W U;obtain⟨j,hj,rfl,rfl,x,D,JX⟩:=hrel;have V:=aa x;have k:=ak.out;obtain⟨e0,e1,e2⟩:=JX.cell;by_cases m:j<bs.length
   ·have y:j<l.length:=by omega
    obtain⟨b1,o1,rfl,am,k1⟩:=HX.out j y;obtain⟨b2,o2,rfl,ai,k2⟩:=an.out j m;obtain⟨b3,o3,rfl,ab,k3⟩:=af.out j m;have k1:=(D.cell (p:=⟨b1,o1+j,none⟩) am).trans k1;have k2:=(D.cell (p:=⟨b2,o2+j,none⟩) ai).trans k2;have k3:=(D.cell (p:=⟨b3,o3+j,none⟩) ab).trans k3;have c:=Qo.out j (by omega) (by omega) x;rw[lY m] at c;have q:=lY m;have r:gU bs l (j+1)=gU bs l j*bs[j]+l[j].toNat:=by
     simp only[gU,gx m,gx y,ox]
    rw[q];have J:=aa r;have ad:=aa (VF.out j y m);have HD:=aa (show ∀t (z:t<l.length) (s:t<bs.length),t=j->l[t]=l[j]'y/\bs[t]=bs[j] from λt z s e=>by subst e;exact⟨rfl,rfl⟩);generalize l[j]=d at *;generalize bs[j]=b at *;clear q r x;obtain⟨Q,hQ⟩:=ae (aW (bs.drop (j+1)));obtain⟨Hj,E⟩:=ae (gU bs l j);rw[<-hQ] at k3 c⊢;rw[<-E] at c J⊢;have HQ:=aa hQ;have:=aa E;clear hQ E;by_cases f:d<0\/(b:Int)<=d
    ·have S:=ad.out f;by_cases A:d<0
     ·have N:decide (d<0)=true:=decide_eq_true A;clear f c V;go_wp2 <;> (go_ret2;exact⟨rfl,D⟩)
     have N:decide (d<0)=false:=decide_eq_false A;have al:(b:Int)<=d:=by omega
     have ag:decide ((b:Int)<=d)=true:=decide_eq_true al;clear f c V;go_wp2 <;> (go_ret2;exact⟨rfl,D⟩)
    have A:0<=d:=by omega
    obtain⟨n,rfl⟩:∃n:Nat,d=n:=⟨d.toNat,by omega⟩;have R:n<b:=by omega
    have N:decide ((n:Int)<0)=false:=decide_eq_false (by omega);have ag:decide ((b:Int)<=(n:Int))=false:=decide_eq_false (by omega);have a:=SH c R B;have F:=ZJ (h:=Hj) (b:=b) (Q:=Q) (n:=n);obtain⟨M,hM⟩:=ae (n*Q);obtain⟨O,hO⟩:=ae (Hj*(b*Q));rw[<-hM,<-hO] at a F;have:wrap64 ((n:Int)*(Q:Int))=(M:Int):=by rw[<-xB,<-hM];exact wr1 (lp (Nat.le_add_left _ _) a)
    have aj:=wr2 a;rw[<-hO];have ac:=aa F;have Zb:=aa R;clear hM hO f c A a F;go_wp2;go_roundw
    case rel=>
     rw[aj,ac.out,HQ.out];have r:=J.out;rw[pw] at r;refine⟨j+1,by omega,rfl,by rw[r],λt z s ht=>?_,D,JX⟩;by_cases e:t=j
     ·obtain⟨g1,g2⟩:=HD.out t z s e;rw[g1,g2];have:=Zb.out;exact⟨by omega,by omega⟩
     exact V.out t z s (by omega)
    case measure=>simp[intOf];omega
   obtain rfl:j=bs.length:=by omega
   have S:wX bs l=true:=VI.out.2 ⟨k,λt z s=>V.out t z s s⟩;have hd:aW (bs.drop bs.length)=1:=by rw[qK];rfl
   rw[hd,qt];clear x;go_wp2;go_ret2;exact⟨rfl,D⟩
 have:((l.length:Int)==(bs.length:Int))=false:=beq_eq_false_iff_ne.2 (by omega);have S:wX bs l=false:=by
  cases S:wX bs l
  ·rfl
  exact absurd ((oF bs l).1 S).1 k
 rw[S];go_enter func85,ntmps85;go_wp2;go_ret2;exact⟨rfl,W⟩
end Go.Proofs.YtmnimbnojdndmaaGreatDoor
namespace Go.Proofs.YtmnimbnojdndmaaGreatDoor
open Go.RowKit Go.Cd
def D7 (l:List Int):List Nat:=l.map Int.toNat
@[simp] theorem abD (l:List Int):(D7 l).length=l.length:=by simp[D7]
end Go.Proofs.YtmnimbnojdndmaaGreatDoor
namespace Go.Proofs.YtmnimbnojdndmaaGreatDoor
open Go.RowKit Go.Cd _root_.Go.Proofs.Tryz
variable {w:World} {v:Value} {x:Nat} {l:List Nat}
def ZK (b off len cap:Nat) (i:Nat) (z:Int) (w:World) (f:i<len)
 (g:b<w.heap.size) (c:w.cell? ⟨b,off+i,none⟩=some (.int .u32 z)) (d:0<=z) (a:z<4294967296) :
 Calls prog 47 #[.agg #[.slice (some ⟨b,off,none⟩) len cap],.int .i64 i] w λe w'=>e=.returned (.int .u64 z)/\Below w.heap.size w w':=by
 go_enter func47,ntmps47;go_wp2;go_ret;exact⟨rfl,(gS _ _).alloc (d' _) _⟩
def VU (a:Option Addr) (len cap:Nat) (i:Nat) (w:World) (b:¬i<len) :
 Calls prog 47 #[.agg #[.slice a len cap],.int .i64 i] w λe w'=>e=.returned (.int .u64 0)/\Below w.heap.size w w':=by
 go_enter func47,ntmps47;go_wp2;go_ret;exact⟨rfl,(gS _ _).alloc (d' _) _⟩
def sw (h:bT w v x) (i:Nat) :
 Calls prog 47 #[v,.int .i64 i] w λe w'=>e=.returned (.int .u64 (oJ B x i:Nat))/\Below w.heap.size w w':=by
 obtain⟨s,rfl,g⟩:=h;obtain⟨a,cap,rfl,k,f⟩:=g.out;rw[dG] at *;by_cases d:i<(bY B x).length
 ·obtain⟨b,off,rfl,j,c⟩:=f i (by simpa using d);have e:(cu (bY B x))[i]'(by simpa using d)=.int .u32 (oJ B x i:Nat):=by
   have:=UE bE x i;rw[gx d] at this;simp only[ox] at this;simp[cu,this]
  rw[e] at c;exact ZK b off _ cap i _ w d j c (by omega) (by have:=xI bE x i;unfold B at this⊢;omega)
 have e:oJ B x i=0:=by
  have:=UE bE x i;rw[pA (by omega)] at this;simpa using this.symm
 rw[e];exact VU a _ cap i w d
def Om (b off len cap:Nat) (l:List Nat) (w:World) (a:l.length=len) (q:len<1099511627776) (B:b<w.heap.size) (o:len<=cap)
 (p:∀i (A:i<l.length),w.cell? ⟨b,off+i,none⟩=some (.int .u32 (l[i]:Nat))) :
 Calls prog 48 #[.slice (some ⟨b,off,none⟩) len cap] w λe w'=>∃n:Nat,n<=len/\(∀j (_:n<=j) (g:j<l.length),l[j]=0)/\(n=0\/l[n-1]?≠some 0)/\
  e=.returned (.agg #[.slice (some ⟨b,off,none⟩) n n])/\Below w.heap.size w w':=by
 have u:=aa a;clear a;go_enter func48,ntmps48;go_wp2;go_loop [3] (λn=>∃k:Nat,k<=len/\n=.int .i64 k/\(∀j (_:k<=j) (g:j<l.length),l[j]=0)) (λn=>(intOf n).toNat)
 case atStart=>exact⟨len,d' _,rfl,λj f d=>by have:=u.out;omega⟩
 case round=>
  obtain⟨k,t,rfl,s⟩:=hrel;have h:=aa s;clear s;by_cases x:0<k
  ·obtain⟨z,c⟩:∃z,l[k-1]? = some z:=⟨_,gx (by have:=u.out;omega)⟩;have m:w.cell? ⟨b,off+(k-1),none⟩=some (.int .u32 (z:Nat)):=by
    obtain⟨f,d⟩:=iR.1 c;rw[p _ f,d]
   have r:=aa c;clear c p;by_cases h0:z=0
   ·subst h0;go_wp2;go_round
    case rel=>exact⟨k-1,by omega,by go_num,λj f d=>by
     by_cases g:j=k-1
     ·subst g;have:=r.out;rw[gx d] at this;simpa using this
     exact h.out j (by omega) d⟩
    case measure=>simp[intOf];omega
   have y:((z:Int)==0)=false:=by simpa using h0
   go_wp2;exact bodyPost_ret (v:=.agg #[.slice (some ⟨b,off,none⟩) k k]) (by simp[results,results48,go_sem]) rfl ⟨k,t,h.out,.inr (by rw[r.out];simpa using h0),rfl,ah _⟩
  go_wp2;exact bodyPost_ret (v:=.agg #[.slice (some ⟨b,off,none⟩) k k]) (by simp[results,results48,go_sem]) rfl ⟨k,t,h.out,.inl (by omega),rfl,ah _⟩
def SI (a:Option Addr) (cap:Nat) (w:World) :
 Calls prog 48 #[.slice a 0 cap] w λe w'=>e=.returned (.agg #[.slice a 0 0])/\Below w.heap.size w w':=by
 go_enter func48,ntmps48;go_wp2;refine wp_loop_rounds 1 ?_;rw[rounds_succ];go_wp2;exact bodyPost_ret (v:=.agg #[.slice a 0 0]) (by simp[results,results48,go_sem]) rfl ⟨rfl,ah _⟩
def gP (l:List Nat) (i:Nat) (h:i<l.length):(cu l)[i]'(by simpa using h)=.int .u32 (l[i]:Nat):=by simp[cu]
def H8 (h:Sl nI w v (cu l)) (u:∀d∈l,d<B) (f:l.length<1099511627776) :
 Calls prog 48 #[v] w λe w'=>∃r,e=.returned r/\bT w' r (val B l)/\Below w.heap.size w w':=by
 obtain⟨a,cap,rfl,q,o⟩:=h;rw[dG] at *;rcases o with⟨o,C⟩|⟨b,off,t,s,rfl,g,p⟩
 ·obtain rfl:l=[]:=by simpa [cu] using o
  refine(SI a cap w).mono ?_;rintro e w'⟨rfl,m⟩;exact⟨_,rfl,⟨_,rfl,by rw[show val B []=0 from rfl,di];exact .nil _ _ _ _ (λ_=>rfl)⟩,m⟩
 refine(Om b off l.length cap l w rfl f (block_lt g) q λi k=>?_).mono ?_
 ·unfold World.cell?;rw[g];have:=p i (by simpa using k);rw[gP _ _ k] at this;simpa using this
 rintro e w'⟨n,z,y,h0,rfl,m⟩
 have x:bY B (val B l)=l.take n:=Dy bE l n u (λd hd=>by
  obtain⟨j,A,rfl⟩:=l4.1 hd;rw[List.getElem_drop]
  exact y _ (by omega) _) z h0
 refine⟨_,rfl,⟨_,rfl,?_⟩,m⟩;rw[x];have c:(cu (l.take n)).length=n:=by simp;omega
 refine⟨_,n,by rw[c],by rw[c];exact d' _,.inr ⟨b,off,t,s,rfl,by rw[m.block b (block_lt g)];exact g,λi k=>?_⟩⟩;rw[c] at k;rw[p i (by simp;omega)];simp[cu]
def VV (w:World) (a:Option Addr) (n c:Nat):(Go.binOp .eql 42 (.slice a n c) (.slice none 0 0)).run prog w=.ok (.bool a.isNone) w:=
 Lib.run_eql_slice_nil w 42 109 a n c 0 0 underlying42
def Le (h:bG w v (cu l)) (i:l.length<1099511627776) :
 Calls prog 91 #[v] w λe w'=>∃r,e=.returned r/\w'.ownsRow w.heap.size nI 1 r l.length (cu l)/\Below w.heap.size w w':=by
 obtain⟨a,cap,rfl,m,f⟩:=id h;have g:=dG l;rw[g] at h m;rw[g];have:=VV;cases a with
 | none=>
   have h0:l=[]/\cap=0:=by
    rcases f with f|⟨b,off,q,_,p,o,_⟩
    ·exact⟨by simpa [cu] using f.1,f.2 rfl⟩
    cases o
   obtain⟨rfl,rfl⟩:=h0;clear f h g;go_enter func91,ntmps91;go_wp2;go_ret;exact⟨_,rfl,iS _ _ _ _,gS _ _⟩
 | some ad=>
   have H:=aa h;clear f h g;go_enter func91,ntmps91;go_wp2_with (at_builtin;refine bR rfl _ _ 42 rfl w.heap.size nI _ 4 Gy (.slice (some ⟨w.heap.size,0,none⟩) 0 0) 0 [] rfl (rM _ _) _ (cu l) rfl (H.out.mono (ah _)) (Gx l) (by rw[dG];unfold maxLen;omega) (by rw[dG];omega) (by simp) ?_;intro v' w' c d);rw[dG,k_,lf] at c;go_wp2;go_ret;exact⟨_,rfl,c,(ah _).grown d (by simp) (λk n=>vb (m6 n))⟩
def VW (h:Sl nI w v (cu l)) (x:∀d∈l,d<B) (b:l.length<1099511627776) :
 Calls prog 60 #[v] w λe w'=>∃r,e=.returned r/\bT w' r (val B l)/\Below w.heap.size w w':=by
 go_enter func60,ntmps60;go_wp2_with fail;refine(Le (h.any.mono (ah _)) b).mono ?_;rintro e z⟨r,rfl,c,i⟩;go_wp2_with fail;refine(H8 (Sl.aU c) x b).mono ?_;rintro e s⟨A,rfl,f,g⟩;obtain⟨a,n,cap,rfl,p⟩:=f.out;have j:=af i g;have k:s.heap[w.heap.size]? = some (.cells #[.slice none 0 0] 44):=(j.block _ (by simp)).trans (Qa _ _);have t:=p.put (o:=0) (u:=.slice a n cap) k (by decide);have q:=aj (off:=0) (u:=.slice a n cap) ((ah _).trans (j.mono (by simp))) (d' _);have m:=Jl (o:=0) (u:=.slice a n cap) k (by decide);obtain⟨y,hf⟩:=abg j;clear k c i g j p f h;go_wp2;exact bodyPost_ret (v:=.agg #[.slice a n cap]) (by simp[results,results60,go_sem,m]) rfl ⟨_,rfl,t,q⟩
def uf (x:Nat) (z:x<18446744073709551616) (w:World) :
 Calls prog 14 #[.int .u64 x] w λe w'=>∃r,e=.returned r/\bT w' r x/\Below w.heap.size w w':=by
 have c:∀d∈[x % B,x / B % B],d<B:=by
  intro d hd;simp only[jt,kt,or_false] at hd;rcases hd with rfl|rfl <;> exact mS _ (by decide)
 have m:val B [x % B,x / B % B]=x:=by
  simp only[val,B];omega
 have k:=aa m;have j:=aa c;clear m c;go_enter func14,ntmps14;go_wp2_with fail;refine(H8 (l:=[x % B,x / B % B]) ⟨_,2,rfl,d' _,.inr ⟨_,0,_,_,rfl,heap_alloc_new' _ _ _ (by simp),?_⟩⟩ j.out (by simp)).mono ?_
 ·intro i t
  match i,t with
  | 0,_=>simp[cu,B]
  | 1,_=>simp[cu,B];omega
 rintro e q⟨A,rfl,b,f⟩;rw[k.out] at b;obtain⟨a,n,cap,rfl,h⟩:=b.out;have o:q.heap[w.heap.size]? = some (.cells #[.slice none 0 0] 44):=(f.block _ (by simp;omega)).trans ((heap_alloc_old _ _ (by simp)).trans (Qa _ _));obtain⟨g,s⟩:=oN o (by decide) h;have p:=aj (off:=0) (u:=.slice a n cap) ((dH _ _).trans (f.mono (by simp;omega))) (d' _);obtain⟨y,hf⟩:=abg f;clear o f h b k j;go_wp2;exact bodyPost_ret (v:=.agg #[.slice a n cap]) (by simp[results,results14,go_sem,g]) rfl ⟨_,rfl,s,p⟩
def zR (h:bT w v x) (b:(bY B x).length<1099511627776) :
 Calls prog 59 #[v] w λe w'=>∃r,e=.returned r/\w'.ownsRow (w.heap.size+1) nI 1 r (bY B x).length (cu (bY B x))/\Below w.heap.size w w':=by
 obtain⟨s,rfl,f⟩:=h;obtain⟨a,cap,rfl,_⟩:=id f;rw[dG] at *;have H:=aa f;clear f;go_enter func59,ntmps59;go_wp2_with fail;refine(Le (H.out.any.mono (ah _)) b).mono ?_;rintro e g⟨r,rfl,c,d⟩;go_wp2;go_ret;exact⟨_,rfl,by simpa using c,(ah _).trans (d.mono (by simp))⟩
def ZL (h:bT w v x) :
 Calls prog 20 #[v] w λe w'=>e=.returned (.bool (x==0))/\Below w.heap.size w w':=by
 obtain⟨a,n,cap,rfl,h⟩:=h.out;have c:=h.len;have b:((n:Int)==0)=(x==0):=by
  rw[tW];simp[c,<-yS bE (x:=x)]
 have d:=aa b;clear h c b;go_enter func20,ntmps20;go_wp2;go_ret;exact⟨dV d.out,ah _⟩
def pK {u:Value} {y:Nat} (h:bT w v x) (k:bT w u y) (Q:(bY B x).length<1099511627776) (V:(bY B y).length<1099511627776) :
 Calls prog 12 #[v,u] w λe w'=>e=.returned (.int .i64 (sK x y))/\Below w.heap.size w w':=by
 obtain⟨a,n,cap,rfl,h⟩:=h.out;obtain⟨O,c,f,rfl,k⟩:=k.out;have K:=h.len;have s:=k.len;rw[<-K] at Q;rw[<-s] at V;have Z:=aa K;have S:=aa s;have T:=aa h;have R:=aa k;have b:∀m,n<=m->c<=m->x / B ^ m=y / B ^ m:=λm W h2=>by
  rw[pC ((cZ bE).1 (by omega)),pC ((cZ bE).1 (by omega))]
 have E:=aa b;clear K s h k b;go_enter func12,ntmps12;go_wp2_with fail
 all_goals
  go_loopw [5] (λi wr=>∃k:Nat,(k<=n\/k<=c)/\i=.int .i64 ((k:Int)-1)/\x / B ^ k=y / B ^ k/\Below w.heap.size w wr/\wr.cell? ⟨w.heap.size,0,none⟩=some (.slice a n cap)/\wr.cell? ⟨w.heap.size+1,0,none⟩=some (.slice O c f)/\w.heap.size+1<wr.heap.size)
   (λi _=>((intOf i)+1).toNat)
  case atStart=>
   first
    | exact⟨c,.inr (d' _),rfl,E.out _ (by omega) (by omega),dH _ _,by go_simp,by go_simp,by simp⟩
    | exact⟨n,.inl (d' _),rfl,E.out _ (by omega) (by omega),dH _ _,by go_simp,by go_simp,by simp⟩
    | exact(Nat.le_total n c).elim (λU=>⟨c,.inr (d' _),by rw[show max (n:Int) (c:Int)=c by omega],E.out _ (by omega) (by omega),dH _ _,by go_simp,by go_simp,by simp⟩) (λU=>⟨n,.inl (d' _),by rw[show max (n:Int) (c:Int)=n by omega],E.out _ (by omega) (by omega),dH _ _,by go_simp,by go_simp,by simp⟩)
  case round=>
   obtain⟨k,Y,rfl,F,A,r,q,o⟩:=hrel;have D:=aa F;clear F;by_cases P:0<k
   ·obtain⟨j,rfl⟩:∃j,k=j+1:=⟨k-1,by omega⟩;have N:((j+1:Nat):Int)-1=j:=by omega
    rw[N];clear N;go_wp2_with fail;have I:∀g:Gr wr.drew,g.tw.cell? ⟨w.heap.size,0,none⟩=some (.slice a n cap):=λg=>(g.ext.cell (p:=⟨w.heap.size,0,none⟩) (by simp;omega)).trans r;have L:∀g:Gr wr.drew,g.tw.cell? ⟨w.heap.size+1,0,none⟩=some (.slice O c f):=λg=>(g.ext.cell (p:=⟨w.heap.size+1,0,none⟩) (by simp;omega)).trans q;refine aC (Array.replicate 8 true) 8 0 mixed ?_;refine ay [0,1,3,4] 4 ?_
    repeat (refine aA rfl ?_;go_big_quiet_step (rfl))
    refine az ?_;refine aI 2 ?_;go_wp2_with fail;refine(sw (x:=x) (T.out.mono (af A (ag _))) j).mono ?_;rintro e w1⟨rfl,d⟩;go_wp2_with fail;refine aF d ?_;refine aI 5 ?_;go_wp2_with fail;refine(sw (x:=y) (R.out.mono (af A (af (ag _) d))) j).mono ?_;rintro e X⟨rfl,l⟩;go_wp2_with fail;refine aF l ?_;refine ay [6,7] 0 ?_
    repeat (refine aA rfl ?_;go_big_quiet_step (rfl))
    refine az ?_;refine aJ [] ?_;refine tail_nil ?_;have t:=af (ag _) (af d l);have H:=af A t;have M:=(t.cell (p:=⟨w.heap.size,0,none⟩) (by show w.heap.size<wr.heap.size;omega)).trans r;have J:=(t.cell (p:=⟨w.heap.size+1,0,none⟩) o).trans q;have z:=kh o t.size;clear I L d l r q A o t;go_wp2
    ·have C:oJ B x j<oJ B y j:=by assumption
     go_ret;exact⟨Gw (Q0 (Eu D.out C)).symm,H⟩
    ·have C:oJ B y j<oJ B x j:=by assumption
     go_ret;exact⟨Gw (xJ (Eu D.out.symm C)).symm,H⟩
    have C:oJ B x j=oJ B y j:=by omega
    have F:x / B ^ j=y / B ^ j:=by rw[vO x j,vO y j,D.out,C]
    go_roundw
    case rel=>exact⟨j,by omega,rfl,F,H,M,J,z⟩
    case measure=>simp[intOf]
   obtain rfl:k=0:=by omega
   have G:x=y:=by have:=D.out;simpa using this
   subst G;go_wp2;go_ret;exact⟨Gw (UG _).symm,A⟩
def Cg (l:List Nat) (i d:Nat):(cu l).set i (.int .u32 d)=cu (l.set i d):=by simp[cu,th]
def VZ (f:Nat->Nat) (i k:Nat):((List.range i).map f++List.replicate (k+1) 0).set i (f i)=(List.range (i+1)).map f++List.replicate k 0:=by
 rw[s_,j5,mm _ _ (by simp)];simp[List.replicate_succ]
def Oo {u:Value} {y:Nat} (h:bT w v x) (k:bT w u y) (hx:(bY B x).length<549755813888) (hy:(bY B y).length<549755813888) :
 Calls prog 26 #[v,u] w λe w'=>∃r,e=.returned r/\bT w' r (x+y)/\Below w.heap.size w w':=by
 obtain⟨a,n,cap,rfl,h⟩:=h.out;obtain⟨a2,H,Q,rfl,k⟩:=k.out;have hn:=h.len;have P:=k.len;rw[<-hn] at hx;rw[<-P] at hy;have HX:=aa h;have HY:=aa k;obtain⟨M,hM,ap,aq,ao⟩:∃M:Nat,(if n<H then (H:Int) else (n:Int))=(M:Int)/\n<=M/\H<=M/\M<=n+H:=by
  by_cases G:n<H
  ·exact⟨H,by rw[if_pos G],by omega,by omega,by omega⟩
  exact⟨n,by rw[if_neg G],by omega,by omega,by omega⟩
 have A:x+y<B ^ (M+1):=Nb bE ((cZ bE).1 (by omega)) ((cZ bE).1 (by omega));have HS:=aa A;clear hn P h k A;go_enter func26,ntmps26;go_wp2_with (at_make;refine gm _ rfl _ _ 42 rfl (w.heap.size+3) nI _ 4 Gy rfl .i64 .i64 _ _ (M+1) rfl rfl (by omega) (by omega) (by omega) (by unfold maxLen;omega) (by simp) ?_;intro I f q);have o:=fO q;have am:I.cell? ⟨w.heap.size,0,none⟩=some (.slice a n cap):=aB o (by go_simp);have ac:I.cell? ⟨w.heap.size+1,0,none⟩=some (.slice a2 H Q):=aB o (by go_simp);have L:I.heap[w.heap.size+1+1]? = some (.cells #[.slice none 0 0] 44):=(o.block _ (by simp)).trans (heap_alloc_new' _ _ _ (by simp));have O:Below w.heap.size w I:=(((ah _).alloc (by simp) _).alloc (by simp;omega) _).trans (o.mono (by simp;omega));have an:w.heap.size+3<=I.heap.size:=by have:=o.size;simpa using this
 have HK:=aa L;clear q o L;go_loopw [7,22] (λc i wr=>∃k:Nat,k<=M+1/\i=.int .i64 k/\c=.int .u64 (carry B x y k:Nat)/\wr.ownsRow (w.heap.size+3) nI 1 (.slice (some ⟨w.heap.size+1+1+1,0,none⟩) (M+1) (M+1)) (M+1) (cu (z_ B (x+y) k++List.replicate (M+1-k) 0))/\Below (w.heap.size+3) I wr)
  (λ_ i _=>M+1-(intOf i).toNat)
 case atStart=>exact⟨0,by omega,rfl,by rw[carry_zero];rfl,by simpa [cu,z_] using f,gS _ _⟩
 case round=>
  obtain⟨k,J,rfl,rfl,f,z⟩:=hrel;have t:Below w.heap.size w wr:=O.trans (z.mono (by omega));by_cases G:k<M+1
  ·have V:=λ(W:World) (E:Below w.heap.size w W)=>sw (HX.out.mono E) k;have U:=λ(W:World) (E:Below w.heap.size w W)=>sw (HY.out.mono E) k;have l:=carry_succ bE x y k;have s:=YD bE x y k;have Y:=UF bE x y k;have R:=xI bE x k;have N:=xI bE y k;generalize oJ B x k=dx at V U l s R;generalize oJ B y k=dy at V U l s N;generalize carry B x y k=c at l s Y⊢;have L1:=aa V;have L2:=aa U;have ak:=aa l;have Z:=aa s;unfold B at R N;clear V U l s;have hd:=aa f;clear f;go_wp2_with fail;refine aC (Array.replicate 10 true) 10 0 mixed ?_;have ab:=Gr.cell (ag wr) ((z.cell (p:=⟨w.heap.size,0,none⟩) (by simp)).trans am);have al:=Gr.cell (ag wr) ((z.cell (p:=⟨w.heap.size+1,0,none⟩) (by simp)).trans ac);refine ay [0,1,3,4,7] 5 ?_
   repeat (refine aA rfl ?_;go_big_quiet_step (rfl))
   refine az ?_;clear ab al;refine aI 2 ?_;go_wp2_with fail;refine(L1.out _ (af t (ag _))).mono ?_;rintro e T⟨rfl,g⟩;go_wp2_with fail;refine aF g ?_;refine aI 5 ?_;go_wp2_with fail;refine(L2.out _ (af t (af (ag _) g))).mono ?_;rintro e w3⟨rfl,C⟩;go_wp2_with fail;refine aF C ?_;refine ay [6,8,9] 0 ?_
   repeat (refine aA rfl ?_;go_big_quiet_step (rfl))
   refine az ?_;refine aJ [] ?_;refine tail_nil ?_;have X:=af (ag wr) (af g C);have m:=aH hd.out X;obtain⟨F,ae⟩:=jY m (j:=k) (by simp;omega);have K:=(m.stored k (.int .u32 (oJ B (x+y) k:Nat))).1;have ad:Below (w.heap.size+3) I (w3.setCell ⟨w.heap.size+1+1+1,k,none⟩ (.int .u32 (oJ B (x+y) k:Nat))):=aj (z.trans (X.mono (by have:=z.size;omega))) (by omega);have ai:=aa K;clear g C X m K;go_wp2;go_roundw
   case rel=>
    have e1:((dx:Int)+dy+c) / 4294967296=(carry B x y (k+1):Nat):=by have:=ak.out;unfold B at this⊢;omega
    have e2:((dx:Int)+dy+c) % 4294967296=(oJ B (x+y) k:Nat):=by have:=Z.out;unfold B at this⊢;omega
    rw[e1,e2];refine⟨k+1,by omega,rfl,rfl,?_,ad⟩;have S:=ai.out;rw[Cg,show M+1-k=(M+1-(k+1))+1 from by omega] at S;unfold z_ at S⊢;rw[VZ] at S;exact S
   case measure=>simp[intOf];omega
  go_wp2_with fail;obtain rfl:k=M+1:=by omega
  have hl:∀d∈z_ B (x+y) (M+1),d<B:=YC bE _ _;rw[ns,List.replicate_zero,me] at f;refine(H8 (Sl.aU f) hl (by simp;omega)).mono ?_;rintro e T⟨r2,rfl,D,g⟩;rw[Jk,rH HS.out] at D;obtain⟨a3,n3,rz,rfl,hN⟩:=D.out;have J:T.heap[w.heap.size+1+1]? = some (.cells #[.slice none 0 0] 44):=(g.block (w.heap.size+1+1) (by have:=z.size;omega)).trans ((z.block (w.heap.size+1+1) (by omega)).trans HK.out);obtain⟨l,hR⟩:=oN J (by decide) hN;have hB:=aj (off:=0) (u:=.slice a3 n3 rz) (af t g) (b:=w.heap.size+1+1) (by omega);have F:T.cell? ⟨w.heap.size+1+1,0,none⟩=some (.slice none 0 0):=by unfold World.cell?;rw[J];rfl
  have ae:T.frozen? ⟨w.heap.size+1+1,0,none⟩=false:=by unfold World.frozen?;rw[J];rfl
  clear J g D hN f z t O;go_wp2;exact bodyPost_ret (v:=.agg #[.slice a3 n3 rz]) (by simp[results,results26,go_sem,l]) rfl ⟨_,rfl,hR,hB⟩
end Go.Proofs.YtmnimbnojdndmaaGreatDoor
