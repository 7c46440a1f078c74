/- State by state it is added up what is possible; no condition. -/
import Derived.Test.YtmnimbnojdndmaaGreatDoorS02
import Derived.Laws.IdiomStrings
import Derived.Lib.Split
import Derived.Lib.Atoi
set_option maxRecDepth 100000
set_option maxHeartbeats 6400000
set_option linter.all false
namespace Go.Cd
open Go.RowKit
abbrev tF:TypeId:=5
def mR (l:List Nat):List Value:=l.map λd:Nat=>Value.int .u8 (d:Int)
@[simp] theorem uy (l:List Nat):(mR l).length=l.length:=by simp[mR]
def yZ (l:List Nat) (i:Nat) (h:i<l.length):(mR l)[i]'(by simpa using h)=.int .u8 (l[i]:Nat):=by simp[mR]
def nL:Elem Go.Proofs.Tryz.prog 163 tF (.int .u8 0) 1:=⟨rfl,Go.Proofs.Tryz.underlying163,info_parts (by kernel_rfl)⟩
def str (l:List Nat):ByteArray:=⟨(l.map UInt8.ofNat).toArray⟩
def toNat_ofNat {d:Nat} (h:d<256):(UInt8.ofNat d).toNat=d:=by simp[UInt8.toNat_ofNat];omega
def A7 {w:World} {a:Option Addr} {n cap:Nat} {L:List Nat} (h:bG w (.slice a n cap) (mR L)) (o:∀d∈L,d<256) :
 (convert 163 9 (.slice a n cap)).run Go.Proofs.Tryz.prog w=.ok (.string (str L)) w:=by
 rcases h.cases with⟨r,s,g,f,_⟩|⟨b,off,g,f,_,m,_,q⟩
 ·have l:L=[]:=by simpa [mR] using r
  subst l;simp only[yr] at f;obtain⟨rfl,rfl,rfl⟩:=f;cases a with
  | none=>
    rw[run_convert_bytes_string w _ _ 5 none 0 cap Go.Proofs.Tryz.underlying163 Go.Proofs.Tryz.underlying5 Go.Proofs.Tryz.underlying9]
    go_simp
    rfl
  | some ad=>exact run_convert_bytes_back w _ _ 5 ad cap [] Go.Proofs.Tryz.underlying163 Go.Proofs.Tryz.underlying5 Go.Proofs.Tryz.underlying9 (λj k=>absurd k (by simp))
 simp only[yr] at f;obtain⟨rfl,rfl,rfl⟩:=f
 have p:=run_convert_bytes_back w 163 9 5 ⟨b,off,none⟩ cap (L.map UInt8.ofNat) Go.Proofs.Tryz.underlying163 Go.Proofs.Tryz.underlying5 Go.Proofs.Tryz.underlying9 (λj k=>by
  have c:j<L.length:=by simpa using k
  have i:=q j (by simpa using c);rw[yZ _ _ c] at i;rw[m8,toNat_ofNat (o _ (gw _))];unfold Addr.add;by_cases e:j=0
  ·subst e;simpa using i
  rw[if_neg e];exact i)
 simpa [str] using p
end Go.Cd
namespace Go.Proofs.YtmnimbnojdndmaaGreatDoor
open Go.RowKit Go.Cd _root_.Go.Proofs.Tryz
variable {T:List aG} {w:World} {v:Value}
def EO (c:Nat):(dI c).length<=2:=by
 unfold dI
 split
 ·exact d' _
 split
 ·exact d' _
 exact ic _
def EP (h:∀r∈T,r.map.length<=4) (c:Nat):(mapOf T c).length<=4:=by
 unfold mapOf
 split
 ·unfold bP;cases a:rowOf T c with
  | none=>exact ic _
  | some r=>exact h r (mB a)
 exact ia (EO c) (by decide)
def Nl (M:Nat->List Nat) (l:List Nat) (x:Nat):dm M (l++[x])=dm M l++if M x=[] then [x] else M x:=by
 unfold dm;rw[j7];simp
def JE {M:Nat->List Nat} {k:Nat} (a:1<=k) (h:∀x,(M x).length<=k):∀l:List Nat,(dm M l).length<=k*l.length
 | []=>ic _
 | c::l=>by
   have b:=JE a h l;unfold dm at b⊢;rw[jx,gn,im,td];have:(if M c=[] then [c] else M c).length<=k:=by split;exact a;exact h c
   omega
def anyM (M:Nat->List Nat) (l:List Nat):Bool:=l.any λx=>!(M x).isEmpty
def Q9 (M:Nat->List Nat) (l:List Nat) (x:Nat):anyM M (l++[x])=(anyM M l||!(M x).isEmpty):=by unfold anyM;simp
def jN:Elem prog 23 bB (.int .i64 0) 8:=⟨rfl,underlying23,info_parts (by kernel_rfl)⟩
def kJ (l:List Nat):∀u∈ints l,u.oneCell'=true:=by
 intro u a;obtain⟨d,_,rfl⟩:=j8.1 a;rfl
def qG (l m:List Nat):ints (l++m)=ints l++ints m:=by simp[ints]
def bG.nO {l:List Nat} {n:Nat} (h:bG w v (ints l)) (j:n=l.length):∃a cap,v=.slice a n cap/\n<=cap/\
 ∀i (g:i<l.length),∃b off,a=some ⟨b,off,none⟩/\b<w.heap.size/\w.cell? ⟨b,off+i,none⟩=some (.int .i64 (l[i]:Nat)):=by
 subst j;obtain⟨a,cap,rfl,m,e⟩:=Go.Cd.bG.out h;have f:(ints l).length=l.length:=ek _;refine⟨a,cap,by rw[f],by omega,λi g=>?_⟩;obtain⟨b,off,c,k,d⟩:=e i (by omega);exact⟨b,off,c,k,by rw[d];simp[ints]⟩
def aT {B c:Nat} {e:TypeId} {a:Nat} {n:Nat} {d:List Value} (h:w.ownsRow B e a v n d) (l:c<=B):w.ownsRow c e a v n d:=by
 obtain⟨f,k⟩:=h;refine⟨f,k.imp id ?_⟩;rintro⟨g,cap,b,j,i,r⟩;exact⟨g,cap,b,j,ia l i,r⟩
def jq.shape {X:List Nat} (h:jq w v T X):∃a e cap b d c,v=.agg #[.slice a e cap,.slice b d c]:=by
 obtain⟨r,x,rfl,⟨a,cap,rfl,_⟩,f⟩:=h;obtain⟨b,c,rfl,_,_⟩:=Go.Cd.bG.out f;exact⟨_,_,_,_,_,_,rfl⟩
def GL {u:Value} {X L:List Nat} (h:jq w v T X) (hl:bG w u (ints L)) (hL:∀x∈L,x<1114112) (JF:∀r∈T,r.map.length<=4) (E:T.length<1000000) (YS:L.length<1000000) :
 Calls prog 79 #[v,u] w λe w'=>∃r,e=.returned (.tuple #[r,.bool (anyM (mapOf T) L)])/\w'.ownsRow w.heap.size bB 1 r (dm (mapOf T) L).length (ints (dm (mapOf T) L))/\Below w.heap.size w w':=by
 have HT:=aa h;obtain⟨a,K,cap,G,J,D,rfl⟩:=h.shape;obtain⟨n,Z⟩:=ae L.length;obtain⟨al,cl,rfl,_,O⟩:=bG.nO hl Z;have HN:=aa Z;have HX:=aa O;have HL:=aa hL;have Ja:n<1000000:=by omega
 have Q_:=aa (λl=>JE (M:=mapOf T) (k:=4) (by decide) (EP JF) l);have ER:=aa (EP JF);have hb:=ah (w:=w) (.cells #[.slice a K cap,.slice G J D] 25);have d0:(w.alloc (.cells #[.slice a K cap,.slice G J D] 25)).cell? ⟨w.heap.size,0,none⟩=some (.slice a K cap):=by unfold World.cell?;rw[heap_alloc_new];rfl
 have d1:(w.alloc (.cells #[.slice a K cap,.slice G J D] 25)).cell? ⟨w.heap.size,1,none⟩=some (.slice G J D):=by unfold World.cell?;rw[heap_alloc_new];rfl
 obtain⟨g,F⟩:=ae (w.alloc (.cells #[.slice a K cap,.slice G J D] 25));rw[<-F] at hb d0 d1;obtain⟨W1,i⟩:=ae (g.alloc (.cells #[] bB));have I:Below g.heap.size g W1:=by subst i;exact ah _
 have o1:W1.ownsRow g.heap.size bB 1 (.slice (some ⟨w.heap.size+1,0,none⟩) 0 0) 0 (ints []):=by
  subst i;have:=rM g bB;rw[show g.heap.size=w.heap.size+1 by rw[F];simp] at this⊢;exact this
 rw[F] at i;have ab:g.heap.size=w.heap.size+1:=by rw[F];simp
 clear F h hl O Z hL JF;go_enter func79,ntmps79;go_wp2_with fail;rw[<-i];clear i;go_loopw [6,7,14] (λov sv U wr=>∃j:Nat,j<=n/\U=.int .i64 j/\sv=.bool (anyM (mapOf T) (L.take j))/\wr.ownsRow g.heap.size bB 1 ov (dm (mapOf T) (L.take j)).length (ints (dm (mapOf T) (L.take j)))/\Below g.heap.size g wr) (λ_ _ U _=>n-(intOf U).toNat)
 case atStart=>exact⟨0,ic _,rfl,rfl,o1,I⟩
 case round=>
  clear o1 I;obtain⟨j,hj,rfl,rfl,V,N⟩:=hrel;have R:=af hb N;by_cases ad:j<n
  ·have o:j<L.length:=by have:=HN.out;omega
   obtain⟨b,off,rfl,ag,hc⟩:=HX.out j o;have hc:=aB R hc;have e0:=aB N d0;have e1:=aB N d1;have O:=HL.out _ (gw o);have H:=Q_.out (L.take j);rw[jn] at H;have Q:=aa (show dm (mapOf T) (L.take (j+1))=_ by rw[gR o,Nl]);have P:=aa (show anyM (mapOf T) (L.take (j+1))=_ by rw[gR o,Q9]);generalize dm (mapOf T) (L.take j)=S at *;generalize anyM (mapOf T) (L.take j)=A at *;generalize L[j]=x at *;have W:=aa (y9 (HT.out.mono R) x O E);have kz:=ER.out x;go_wp2_with fail;refine W.out.mono ?_;rintro e w2⟨r2,rfl,s2,h2⟩;have p:=af N h2;have B:=aH V h2;have S2:=aa s2;generalize mapOf T x=m at *;obtain⟨nm,d⟩:=ae m.length;obtain⟨a2,c2,rfl,_,_⟩:=bG.nO s2 d;have sN:=aa d;by_cases c:m=[]
   ·have h0:nm=0:=by rw[d,c];rfl
    subst h0;have q:=aa (Q.out.trans (by rw[if_pos c]):dm (mapOf T) (L.take (j+1))=S++[x]);have C:=aa (P.out.trans (by rw[c];simp):anyM (mapOf T) (L.take (j+1))=A);clear W s2 d c Q P e0 e1;go_wp2_with (at_builtin;refine f_ rfl _ _ 23 rfl g.heap.size bB _ 8 jN _ S.length _ rfl B _ rfl rfl (by omega) (by unfold maxLen;omega) g p (d' _) ?_;intro v' w3 f Y _ _);go_roundw
    case rel=>exact⟨j+1,by omega,rfl,by rw[C.out],by rw[q.out,qG,gn];exact f,Y⟩
    case measure=>simp[intOf];omega
   have h0:¬nm=0:=λh=>c (iJ.1 (d▸h));have z:((nm:Int)==0)=false:=by simp;omega
   have ac:nm<=4:=by omega
   have q:=aa (Q.out.trans (by rw[if_neg c]):dm (mapOf T) (L.take (j+1))=S++m);have C:=aa (P.out.trans (by cases m with|nil=>exact absurd rfl c|cons y m=>simp):anyM (mapOf T) (L.take (j+1))=true);have s:(ints m).length=nm:=by rw[ek,d]
   clear W s2 d c Q P e0 e1;go_wp2_with (at_builtin;refine bR rfl _ _ 23 rfl g.heap.size bB _ 8 jN _ S.length _ rfl B _ (ints m) rfl S2.out (kJ m) (by rw[s];unfold maxLen;omega) (by rw[s];omega) p.size ?_;intro v' w3 f t);have lH:=p.grown t p.size (λk hk=>(B.lt k hk).1);go_roundw
   case rel=>exact⟨j+1,by omega,rfl,by rw[C.out],by rw[q.out,qG,gn,<-sN.out,<-s];exact f,lH⟩
   case measure=>simp[intOf];omega
  obtain rfl:j=n:=by omega
  rw[iu (by rw[HN.out];exact d' _)] at V⊢;go_wp2;go_ret2;exact⟨_,rfl,aT V (by omega),R⟩
def tx (l:List UInt8):ByteArray:=⟨l.toArray⟩
def Nn (l:List Nat):str l=tx (l.map UInt8.ofNat):=rfl
def dA (a b:List UInt8):tx a++tx b=tx (a++b):=by
 apply wj;simp[tx,ByteArray.data_append]
def aX (a:List UInt8):(tx a).size=a.length:=by simp[tx,ByteArray.size]
def lI (w:World) (a:Array Value) (n:Nat) (L:List Nat) (c:a.size=n) (b:a.toList=mR L) (h:∀d∈L,d<256) :
 (convert 163 9 (.slice (some ⟨w.heap.size,0,none⟩) n n)).run prog (w.alloc (.cells a tF))=.ok (.string (str L)) (w.alloc (.cells a tF)):=by
 subst c;have:=rP w a tF;rw[b] at this;exact A7 this h
def GM (c:Nat) (k:c<1114112) :
 Calls prog 50 #[.int .i64 c] w λe w'=>e=.returned (.string (tx (lD c)))/\Below w.heap.size w w':=by
 obtain⟨R,f⟩:=ae (tx (lD c));have:=aa f;rw[<-f];by_cases h:c<128
 ·have E:fI c=[c]:=by unfold fI;rw[if_pos h]
  have a:=lI w #[.int .u8 c] 1 [c] rfl (by simp[mR]) (λd hd=>by rw[gE.1 hd];omega);have b:str [c]=R:=by rw[f,lD,E];rfl
  rw[b] at a;have g:=ah (w:=w) (.cells #[.int .u8 c] tF);clear f b E;go_enter func50,ntmps50;go_wp2_with fail;go_ret;exact⟨rfl,g⟩
 by_cases i:c<2048
 ·have E:fI c=[192+c / 64,128+c % 64]:=by unfold fI;rw[if_neg h,if_pos i]
  have a:=lI w #[.int .u8 (192+(c:Int) / 64),.int .u8 (128+(c:Int) % 64)] 2 [192+c / 64,128+c % 64] rfl (by simp[mR]) (λd hd=>by simp only[jt,kt,or_false] at hd;omega);have b:str [192+c / 64,128+c % 64]=R:=by rw[f,lD,E];rfl
  rw[b] at a;have g:=ah (w:=w) (.cells #[.int .u8 (192+(c:Int) / 64),.int .u8 (128+(c:Int) % 64)] tF);clear f b E;go_enter func50,ntmps50;go_wp2_with fail;go_ret;exact⟨rfl,g⟩
 by_cases j:c<65536
 ·have E:fI c=[224+c / 4096,128+c / 64 % 64,128+c % 64]:=by unfold fI;rw[if_neg h,if_neg i,if_pos j]
  have a:=lI w #[.int .u8 (224+(c:Int) / 4096),.int .u8 (128+(c:Int) / 64 % 64),.int .u8 (128+(c:Int) % 64)] 3 [224+c / 4096,128+c / 64 % 64,128+c % 64] rfl (by simp[mR]) (λd hd=>by simp only[jt,kt,or_false] at hd;omega);have b:str [224+c / 4096,128+c / 64 % 64,128+c % 64]=R:=by rw[f,lD,E];rfl
  rw[b] at a;have g:=ah (w:=w) (.cells #[.int .u8 (224+(c:Int) / 4096),.int .u8 (128+(c:Int) / 64 % 64),.int .u8 (128+(c:Int) % 64)] tF);have l:(c:Int)<65536:=by omega
  have m:(c:Int)<1114112:=by omega
  have o:¬(c:Int)<128:=by omega
  have n:¬(c:Int)<2048:=by omega
  clear f b E k j h i;go_enter func50,ntmps50;go_wp2_with fail;go_ret;exact⟨rfl,g⟩
 have E:fI c=[240+c / 262144,128+c / 4096 % 64,128+c / 64 % 64,128+c % 64]:=by unfold fI;rw[if_neg h,if_neg i,if_neg j]
 have a:=lI w #[.int .u8 (240+(c:Int) / 262144),.int .u8 (128+(c:Int) / 4096 % 64),.int .u8 (128+(c:Int) / 64 % 64),.int .u8 (128+(c:Int) % 64)] 4 [240+c / 262144,128+c / 4096 % 64,128+c / 64 % 64,128+c % 64] rfl (by simp[mR]) (λd hd=>by simp only[jt,kt,or_false] at hd;omega);have b:str [240+c / 262144,128+c / 4096 % 64,128+c / 64 % 64,128+c % 64]=R:=by rw[f,lD,E];rfl
 rw[b] at a;have g:=ah (w:=w) (.cells #[.int .u8 (240+(c:Int) / 262144),.int .u8 (128+(c:Int) / 4096 % 64),.int .u8 (128+(c:Int) / 64 % 64),.int .u8 (128+(c:Int) % 64)] tF);have l:¬(c:Int)<65536:=by omega
 have m:(c:Int)<1114112:=by omega
 have o:¬(c:Int)<128:=by omega
 have n:¬(c:Int)<2048:=by omega
 clear f b E k j h i;go_enter func50,ntmps50;go_wp2_with fail;go_ret;exact⟨rfl,g⟩
def DD {L:List Nat} (h:bG w v (ints L)) (k:∀x∈L,x<1114112) (q:L.length<1000000) :
 Calls prog 16 #[v] w λe w'=>e=.returned (.string (tx (dQ L)))/\Below w.heap.size w w':=by
 obtain⟨n,f⟩:=ae L.length;obtain⟨C,F,rfl,_,d⟩:=bG.nO h f;have l:=aa f;have A:=aa d;have r:=aa k;have y:=aa (show ∀j,(tx (dQ (L.take j))).size<=4*j from λj=>by rw[aX];have:=qE (L.take j);rw[jn] at this;omega);have p:=aa (show ∀c,(tx (lD c)).size<=4 from λc=>by rw[aX,jK];exact(oU c).2);rw[<-f] at q;clear h d f k;go_enter func16,ntmps16;go_wp2_with fail;go_loopw [3,8] (λu i wr=>∃j:Nat,j<=n/\i=.int .i64 j/\u=.string (tx (dQ (L.take j)))/\Below w.heap.size w wr) (λ_ i _=>n-(intOf i).toNat)
 case atStart=>exact⟨0,ic _,rfl,rfl,gS _ _⟩
 case round=>
  obtain⟨j,E,rfl,rfl,g⟩:=hrel;by_cases z:j<n
  ·have a:j<L.length:=by have:=l.out;omega
   obtain⟨b,off,rfl,B,m⟩:=A.out j a;have m:=aB g m;have d:=r.out _ (gw a);have s:=aa (show tx (dQ (L.take j))++tx (lD L[j])=tx (dQ (L.take (j+1))) by rw[dA,gR a,JB];simp[dQ]);have s1:=y.out j;have s2:=p.out L[j];generalize L[j]=x at *;have o:=aa (λW=>GM (w:=W) x d);generalize tx (lD x)=U at *;generalize tx (dQ (L.take j))=S at *;have s3:¬9223372036854775807<(S.size:Int)+U.size:=by omega
   have s4:¬9223372036854775807<S.size+U.size:=by omega
   go_wp2_with fail;refine(o.out _).mono ?_;rintro e D⟨rfl,t⟩;go_wp2;go_roundw
   case rel=>exact⟨j+1,by omega,rfl,by rw[s.out],af g t⟩
   case measure=>simp[intOf];omega
  obtain rfl:j=n:=by omega
  rw[iu (by rw[l.out];exact d' _)];go_wp2;go_ret;exact⟨rfl,g⟩
structure dB (w:World):Prop where
 c0:w.cell? ⟨0,0,none⟩=some (.int .u8 0)
 c1:w.cell? ⟨0,1,none⟩=some (.int .u8 127)
 c2:w.cell? ⟨0,2,none⟩=some (.int .i32 0)
 c3:w.cell? ⟨0,3,none⟩=some (.int .u8 192)
 c4:w.cell? ⟨0,4,none⟩=some (.int .u8 31)
 c5:w.cell? ⟨0,5,none⟩=some (.int .i32 128)
 c6:w.cell? ⟨0,6,none⟩=some (.int .u8 224)
 c7:w.cell? ⟨0,7,none⟩=some (.int .u8 15)
 c8:w.cell? ⟨0,8,none⟩=some (.int .i32 2048)
 c9:w.cell? ⟨0,9,none⟩=some (.int .u8 240)
 c10:w.cell? ⟨0,10,none⟩=some (.int .u8 7)
 c11:w.cell? ⟨0,11,none⟩=some (.int .i32 65536)
def dB.mono {w':World} (h:dB w) (a:Below w.heap.size w w'):dB w':=
 ⟨aB a h.c0,aB a h.c1,aB a h.c2,aB a h.c3,aB a h.c4,aB a h.c5,aB a h.c6,aB a h.c7,aB a h.c8,aB a h.c9,aB a h.c10,aB a h.c11⟩
def qd (b:Nat):Nat:=if b<128 then 1 else if 192<=b/\b<224 then 2 else if 224<=b/\b<240 then 3 else if 240<=b/\b<248 then 4 else 0
def JG:∀b:Nat,b<256->(bits .andNot .u8 (b:Int) 127==0)=decide (qd b=1)/\(bits .andNot .u8 (b:Int) 31==192)=decide (qd b=2)/\(bits .andNot .u8 (b:Int) 15==224)=decide (qd b=3)/\(bits .andNot .u8 (b:Int) 7==240)=decide (qd b=4):=by decide
def UO (b:Nat):qd b<=4:=by
 unfold qd
 repeat' split
 all_goals decide
def Qd (w:World):(Instr.index 226 (.agg #[.int .u8 0,.int .u8 127,.int .i32 0,.int .u8 192,.int .u8 31,.int .i32 128,.int .u8 224,.int .u8 15,.int .i32 2048,.int .u8 240,.int .u8 7,.int .i32 65536]) (.int .i64 0)).run prog w=.ok (.agg #[.int .u8 0,.int .u8 127,.int .i32 0]) w:=by kernel_rfl
def Qe (w:World):(Instr.index 226 (.agg #[.int .u8 0,.int .u8 127,.int .i32 0,.int .u8 192,.int .u8 31,.int .i32 128,.int .u8 224,.int .u8 15,.int .i32 2048,.int .u8 240,.int .u8 7,.int .i32 65536]) (.int .i64 1)).run prog w=.ok (.agg #[.int .u8 192,.int .u8 31,.int .i32 128]) w:=by kernel_rfl
def Qf (w:World):(Instr.index 226 (.agg #[.int .u8 0,.int .u8 127,.int .i32 0,.int .u8 192,.int .u8 31,.int .i32 128,.int .u8 224,.int .u8 15,.int .i32 2048,.int .u8 240,.int .u8 7,.int .i32 65536]) (.int .i64 2)).run prog w=.ok (.agg #[.int .u8 224,.int .u8 15,.int .i32 2048]) w:=by kernel_rfl
def Qg (w:World):(Instr.index 226 (.agg #[.int .u8 0,.int .u8 127,.int .i32 0,.int .u8 192,.int .u8 31,.int .i32 128,.int .u8 224,.int .u8 15,.int .i32 2048,.int .u8 240,.int .u8 7,.int .i32 65536]) (.int .i64 3)).run prog w=.ok (.agg #[.int .u8 240,.int .u8 7,.int .i32 65536]) w:=by kernel_rfl
def oZ (s:dB w) (b:Nat) (v:b<256) :
 Calls prog 130 #[.int .u8 b] w λe w'=>e=.returned (.int .i64 (qd b))/\Below w.heap.size w w':=by
 obtain⟨c,d,a,f⟩:=JG b v;have t:=UO b;have:=aa s;obtain⟨A,y,F,B,E,C,G,x,D,u,q,p⟩:=s;obtain⟨S,n⟩:=ae (qd b);rw[<-n] at c d a f t⊢;clear n;go_enter func130,ntmps130;go_wp2_with fail;clear A y F B E C G x D u q p;go_loopw [6] (λo wr=>∃j:Nat,j<=4/\o=.int .i64 j/\(S=0\/j<S)/\Below w.heap.size w wr) (λo _=>4-(intOf o).toNat)
 case atStart=>exact⟨0,by decide,rfl,by omega,gS _ _⟩
 case round=>
  obtain⟨j,I,rfl,m,g⟩:=hrel;have r:j=0\/j=1\/j=2\/j=3\/j=4:=by omega
  rcases r with rfl|rfl|rfl|rfl|rfl
  ·by_cases h:S=1
   ·have z:(bits .andNot .u8 (b:Int) 127==0)=true:=by rw[c,decide_eq_true h]
    have i:=aa h;clear h c d a f;have k:=Qd wr;go_wp2;go_ret;exact⟨by rw[i.out];rfl,af g (ah _)⟩
   have z:(bits .andNot .u8 (b:Int) 127==0)=false:=by rw[c,decide_eq_false h]
   have l:=aa (show S=0\/1<S by omega);clear h c d a f m;have k:=Qd wr;go_wp2;go_roundw
   case rel=>exact⟨1,by decide,rfl,l.out,af g (ah _)⟩
   case measure=>simp[intOf]
  ·by_cases h:S=2
   ·have z:(bits .andNot .u8 (b:Int) 31==192)=true:=by rw[d,decide_eq_true h]
    have i:=aa h;clear h c d a f;have k:=Qe wr;go_wp2;go_ret;exact⟨by rw[i.out];rfl,af g (ah _)⟩
   have z:(bits .andNot .u8 (b:Int) 31==192)=false:=by rw[d,decide_eq_false h]
   have l:=aa (show S=0\/2<S by omega);clear h c d a f m;have k:=Qe wr;go_wp2;go_roundw
   case rel=>exact⟨2,by decide,rfl,l.out,af g (ah _)⟩
   case measure=>simp[intOf]
  ·by_cases h:S=3
   ·have z:(bits .andNot .u8 (b:Int) 15==224)=true:=by rw[a,decide_eq_true h]
    have i:=aa h;clear h c d a f;have k:=Qf wr;go_wp2;go_ret;exact⟨by rw[i.out];rfl,af g (ah _)⟩
   have z:(bits .andNot .u8 (b:Int) 15==224)=false:=by rw[a,decide_eq_false h]
   have l:=aa (show S=0\/3<S by omega);clear h c d a f m;have k:=Qf wr;go_wp2;go_roundw
   case rel=>exact⟨3,by decide,rfl,l.out,af g (ah _)⟩
   case measure=>simp[intOf]
  ·by_cases h:S=4
   ·have z:(bits .andNot .u8 (b:Int) 7==240)=true:=by rw[f,decide_eq_true h]
    have i:=aa h;clear h c d a f;have k:=Qg wr;go_wp2;go_ret;exact⟨by rw[i.out];rfl,af g (ah _)⟩
   have z:(bits .andNot .u8 (b:Int) 7==240)=false:=by rw[f,decide_eq_false h]
   have l:=aa (show S=0\/4<S by omega);clear h c d a f m;have k:=Qg wr;go_wp2;go_roundw
   case rel=>exact⟨4,by decide,rfl,l.out,af g (ah _)⟩
   case measure=>simp[intOf]
  have i:=aa (show S=0 by omega);clear c d a f m t;go_wp2;go_ret;exact⟨by rw[i.out];rfl,g⟩
def y_ (B:dB w) (c:Nat) (q:aP c) :
 Calls prog 131 #[.int .i32 c] w λe w'=>e=.returned (.int .i64 (fH c))/\w'=w:=by
 have g:=q.1;have t:=aa (λW=>gZ (w:=W) c (by omega));simp only[decide_eq_true q] at t;obtain⟨F,D,I,G,H,K,J,C,L,y,o,A⟩:=B;have b:=oU c;have l:(c:Int)<128↔fH c<=1:=by unfold fH;(repeat' split) <;> omega
 have p:(c:Int)<2048↔fH c<=2:=by unfold fH;(repeat' split) <;> omega
 have n:(c:Int)<65536↔fH c<=3:=by unfold fH;(repeat' split) <;> omega
 obtain⟨S,k⟩:=ae (fH c);rw[<-k] at l p n b⊢;have u:=aa l;have v:=aa p;have s:=aa n;clear k q l p n F D I G H J C y o;go_enter func131,ntmps131;go_wp2_with fail;refine(t.out _).mono ?_;rintro e E⟨rfl,rfl⟩;go_wp2_with fail;go_loopw [3] (λm wr=>∃j:Nat,1<=j/\j<=S/\m=.int .i64 j/\wr=E) (λm _=>4-(intOf m).toNat)
 case atStart=>exact⟨1,by decide,b.1,rfl,(by first|rfl|trivial)⟩
 case round=>
  obtain⟨j,a,d,rfl,rfl⟩:=hrel;have r:j=1\/j=2\/j=3\/j=4:=by omega
  rcases r with rfl|rfl|rfl|rfl
  ·by_cases h:S=1
   ·have z:¬(128:Int)<=(c:Int):=λx=>by have:=u.out.2 (by omega);omega
    have f:=aa h;clear h d b a g;go_wp2;go_ret;exact⟨by rw[f.out];rfl,rfl⟩
   have z:(128:Int)<=(c:Int):=xm.1 λx=>by have:=u.out.1 x;omega
   have i:=aa (show 2<=S by omega);clear h d b a g;go_wp2;go_roundw
   case rel=>exact⟨2,by decide,i.out,rfl,(by first|rfl|trivial)⟩
   case measure=>simp[intOf]
  ·by_cases h:S=2
   ·have z:¬(2048:Int)<=(c:Int):=λx=>by have:=v.out.2 (by omega);omega
    have f:=aa h;clear h d b a g;go_wp2;go_ret;exact⟨by rw[f.out];rfl,rfl⟩
   have z:(2048:Int)<=(c:Int):=xm.1 λx=>by have:=v.out.1 x;omega
   have i:=aa (show 3<=S by omega);clear h d b a g;go_wp2;go_roundw
   case rel=>exact⟨3,by decide,i.out,rfl,(by first|rfl|trivial)⟩
   case measure=>simp[intOf]
  ·by_cases h:S=3
   ·have z:¬(65536:Int)<=(c:Int):=λx=>by have:=s.out.2 (by omega);omega
    have f:=aa h;clear h d b a g;go_wp2;go_ret;exact⟨by rw[f.out];rfl,rfl⟩
   have z:(65536:Int)<=(c:Int):=xm.1 λx=>by have:=s.out.1 x;omega
   have i:=aa (show 4<=S by omega);clear h d b a g;go_wp2;go_roundw
   case rel=>exact⟨4,by decide,i.out,rfl,(by first|rfl|trivial)⟩
   case measure=>simp[intOf]
  have f:=aa (show S=4 by omega);clear d b a;go_wp2;go_ret;exact⟨by rw[f.out];rfl,rfl⟩
def JH (n c:Nat):Nat:=(if n=1 then 0 else if n=2 then 192 else if n=3 then 224 else 240)+c / 64 ^ (n-1)
def uA:∀t:Nat,t<64->(bits .andNot .u8 ((128+t:Nat):Int) 63==128)=true/\bits .andNot .u8 ((128+t:Nat):Int) 63=128/\bits .and .u8 ((128+t:Nat):Int) 63=(t:Int):=by decide
def JI:∀q:Nat,q<128->qd q=1/\bits .and .u8 (q:Int) 127=(q:Int):=by decide
def JJ:∀q:Nat,q<32->qd (192+q)=2/\bits .and .u8 ((192+q:Nat):Int) 31=(q:Int):=by decide
def JK:∀q:Nat,q<16->qd (224+q)=3/\bits .and .u8 ((224+q:Nat):Int) 15=(q:Int):=by decide
def JL:∀q:Nat,q<8->qd (240+q)=4/\bits .and .u8 ((240+q:Nat):Int) 7=(q:Int):=by decide
def EU {s:ByteArray} (h:0<s.size):s.toList.isEmpty=false:=by
 rw[ue];cases e:s.data.toList with
 | nil=>have:s.size=0:=by show s.data.size=0;rw[<-sY,e];rfl
        omega
 | cons a l=>rfl
def Np {x t:Nat} (d:x<33554432) (c:t<64):bits .or .i32 ((x:Int)*64) (t:Int)=((x*64+t:Nat):Int):=by
 have a:(BitVec.ofInt 32 ((x:Int)*64)).toNat=x <<< 6:=by
  rw[pH,zt];have:((x:Int)*64 % ((2 ^ 32:Nat):Int)).toNat=x*64:=by omega
  rw[this]
 have b:(BitVec.ofInt 32 (t:Int)).toNat=t:=by
  rw[pH];omega
 have key:(BitVec.ofInt 32 ((x:Int)*64) ||| BitVec.ofInt 32 (t:Int)).toNat=x*64+t:=by
  rw[BitVec.toNat_or,a,b,<-zF (by simpa using c),zt]
 show IntKind.i32.wrap ((BitVec.ofInt 32 ((x:Int)*64) ||| BitVec.ofInt 32 (t:Int)).toNat:Nat)=_;rw[key];rw[xd];omega
def Nq (hH:dB w) (c n:Nat) (hc:aP c) (hn:fH c=n) (s:ByteArray) (ac:n<=s.size) (h0:∀h,(s[0]'h).toNat=JH n c) (hi:∀i,1<=i->i<n->∀h,(s[i]'h).toNat=128+c / 64 ^ (n-1-i) % 64) :
 Calls prog 89 #[.string s] w λe w'=>e=.returned (.tuple #[.int .i32 c,.int .i64 n,.bool true])/\Below w.heap.size w w':=by
 have hw:=oU c;have:=hc.1;have A:=aa hH;have x:0<s.size:=by omega
 have:=EU x;have y:=aa (show ∀W,dB W->Calls prog 131 #[.int .i32 c] W λe w'=>e=.returned (.int .i64 n)/\w'=W from λW h=>by rw[<-hn];exact y_ h c hc);have HI:=aa hi;have Y:∀i,1<=i->i<=n->c / 64 ^ (n-i)<33554432:=λi _ _=>lp (tR _ _) (by omega);have Q:=aa Y
 have R:=aa (show ∀i,i<n->c / 64 ^ (n-(i+1))=c / 64 ^ (n-i)*64+c / 64 ^ (n-1-i) % 64 from λi r=>by
  rw[show n-i=(n-(i+1))+1 by omega,my,<-mN,show n-1-i=n-(i+1) by omega,Nat.div_add_mod'])
 have Z:=aa (show c / 64 ^ (n-n)=c by rw[ns];simp);have ab:n=1\/n=2\/n=3\/n=4:=by omega
 have YU:(n=1->c<128)/\(n=2->c<2048)/\(n=3->c<65536):=by
  rw[<-hn];unfold fH;refine⟨?_,?_,?_⟩ <;> ((repeat' split) <;> omega)
 clear hi Y hn hw;have a:=h0 x;clear h0;unfold JH at a;rcases ab with rfl|rfl|rfl|rfl
 ·have I:c / 64 ^ (1-1)<128:=by simp only[Nat.reduceSub,Nat.reducePow];omega
  have f:=Q.out 1 (by omega) (by omega);have hf:=JI _ I;simp only[Nat.reduceSub,Nat.reducePow,Nat.reduceEqDiff,if_true,if_false,xp,k_,zX] at a hf f;obtain⟨V,q⟩:=ae c;rw[<-q] at a hf f;obtain⟨B,z⟩:∃B:Nat,B=V:=⟨_,rfl⟩;have P:B<256:=by omega
  have E:=aa (λW (h:dB W)=>oZ h B P);rw[<-z] at a hf;rw[hf.1] at E;have z0:=hf.2;have e0:((s[0]'x).toNat:Int)=(B:Int):=by rw[a]
  have u:=aa (show B=c / 64 ^ (1-1) from z.trans (q.trans (by simp)));have F:=A.out.c1;clear a hf q z I YU;go_enter func89,ntmps89;go_wp2_with fail;refine(E.out _ A.out).mono ?_;rintro e k⟨rfl,b⟩;have T:=aa (A.out.mono b);have F:=aB b F;have zd:decide ((s.size:Int)<1)=false:=by simp;omega
  have y:=aa (show ∀W,dB W->Calls prog 131 #[.int .i32 c] W λe w'=>e=.returned (.int .i64 1)/\w'=W from y.out);go_wp2_with fail;go_quiet (fail);go_wp2_with fail;have O:=aa (show ∀W,Below k.heap.size k W->dB W from λW h=>T.out.mono h);have X:=aa (show Value.int .i32 (B:Int)=.int .i32 ((c / 64 ^ (1-1):Nat):Int) by rw[u.out]);go_loopw [6,7] (λN p wr=>∃i:Nat,1<=i/\i<=1/\N=.int .i32 ((c / 64 ^ (1-i):Nat):Int)/\p=.int .i64 i/\Below k.heap.size k wr) (λ_ p _=>1-(intOf p).toNat)
  case atStart=>exact⟨1,by decide,by decide,X.out,rfl,below_drewN (gS _ _) _⟩
  case round=>
   obtain⟨i,j,r,rfl,rfl,v⟩:=hrel;by_cases l:i<1
   ·omega
   obtain rfl:i=1:=by omega
   have S:=O.out _ v;have g:=Z.out;rw[g];clear g;go_wp2_with fail;refine(y.out _ S).mono ?_;rintro e w4⟨rfl,rfl⟩;go_wp2
   go_ret3
   exact⟨rfl,b.trans (v.mono b.size)⟩
 ·have I:c / 64 ^ (2-1)<32:=by simp only[Nat.reduceSub,Nat.reducePow];omega
  have f:=Q.out 1 (by omega) (by omega);have hf:=JJ _ I;simp only[Nat.reduceSub,Nat.reducePow,Nat.reduceEqDiff,if_true,if_false,xp,zX] at a hf f;obtain⟨V,q⟩:=ae (c / 64);rw[<-q] at a hf f;obtain⟨B,z⟩:∃B:Nat,B=192+V:=⟨_,rfl⟩;have P:B<256:=by omega
  have E:=aa (λW (h:dB W)=>oZ h B P);rw[<-z] at a hf;rw[hf.1] at E;have z0:=hf.2;have e0:((s[0]'x).toNat:Int)=(B:Int):=by rw[a]
  have u:=aa (show V=c / 64 ^ (2-1) from (q.trans (by simp)));have F:=A.out.c4;clear a hf q z I YU;go_enter func89,ntmps89;go_wp2_with fail;refine(E.out _ A.out).mono ?_;rintro e k⟨rfl,b⟩;have T:=aa (A.out.mono b);have F:=aB b F;have zd:decide ((s.size:Int)<2)=false:=by simp;omega
  have y:=aa (show ∀W,dB W->Calls prog 131 #[.int .i32 c] W λe w'=>e=.returned (.int .i64 2)/\w'=W from y.out);go_wp2_with fail;go_quiet (fail);go_wp2_with fail;have O:=aa (show ∀W,Below k.heap.size k W->dB W from λW h=>T.out.mono h);have X:=aa (show Value.int .i32 (V:Int)=.int .i32 ((c / 64 ^ (2-1):Nat):Int) by rw[u.out]);go_loopw [6,7] (λN p wr=>∃i:Nat,1<=i/\i<=2/\N=.int .i32 ((c / 64 ^ (2-i):Nat):Int)/\p=.int .i64 i/\Below k.heap.size k wr) (λ_ p _=>2-(intOf p).toNat)
  case atStart=>exact⟨1,by decide,by decide,X.out,rfl,below_drewN (gS _ _) _⟩
  case round=>
   obtain⟨i,j,r,rfl,rfl,v⟩:=hrel;by_cases l:i<2
   ·have L:=Q.out i j r;have d:=aa (R.out i l);have m:i<s.size:=by omega
    have hd:=HI.out i j l m;obtain⟨t,J⟩:=ae (c / 64 ^ (2-1-i) % 64);have o:t<64:=by rw[J];exact mS _ (by decide)
    rw[<-J] at hd d;obtain⟨U,M⟩:=ae (c / 64 ^ (2-i));rw[<-M] at L d⊢;obtain⟨G,H,C⟩:=uA t o;have ho:=Np L o;obtain⟨D,K⟩:∃D:Nat,D=128+t:=⟨_,rfl⟩;rw[<-K] at hd G H C;have ei:((s[i]'m).toNat:Int)=(D:Int):=by rw[hd]
    clear hd J M K;go_wp2;go_roundw
    case rel=>exact⟨i+1,by omega,by omega,by rw[d.out];simp,rfl,v⟩
    case measure=>simp[intOf];omega
   obtain rfl:i=2:=by omega
   have S:=O.out _ v;have g:=Z.out;rw[g];clear g;go_wp2_with fail;refine(y.out _ S).mono ?_;rintro e w4⟨rfl,rfl⟩;go_wp2
   go_ret3
   exact⟨rfl,b.trans (v.mono b.size)⟩
 ·have I:c / 64 ^ (3-1)<16:=by simp only[Nat.reduceSub,Nat.reducePow];omega
  have f:=Q.out 1 (by omega) (by omega);have hf:=JK _ I;simp only[Nat.reduceSub,Nat.reducePow,Nat.reduceEqDiff,if_true,if_false,xp,zX] at a hf f;obtain⟨V,q⟩:=ae (c / 4096);rw[<-q] at a hf f;obtain⟨B,z⟩:∃B:Nat,B=224+V:=⟨_,rfl⟩;have P:B<256:=by omega
  have E:=aa (λW (h:dB W)=>oZ h B P);rw[<-z] at a hf;rw[hf.1] at E;have z0:=hf.2;have e0:((s[0]'x).toNat:Int)=(B:Int):=by rw[a]
  have u:=aa (show V=c / 64 ^ (3-1) from (q.trans (by simp)));have F:=A.out.c7;clear a hf q z I YU;go_enter func89,ntmps89;go_wp2_with fail;refine(E.out _ A.out).mono ?_;rintro e k⟨rfl,b⟩;have T:=aa (A.out.mono b);have F:=aB b F;have zd:decide ((s.size:Int)<3)=false:=by simp;omega
  have y:=aa (show ∀W,dB W->Calls prog 131 #[.int .i32 c] W λe w'=>e=.returned (.int .i64 3)/\w'=W from y.out);go_wp2_with fail;go_quiet (fail);go_wp2_with fail;have O:=aa (show ∀W,Below k.heap.size k W->dB W from λW h=>T.out.mono h);have X:=aa (show Value.int .i32 (V:Int)=.int .i32 ((c / 64 ^ (3-1):Nat):Int) by rw[u.out]);go_loopw [6,7] (λN p wr=>∃i:Nat,1<=i/\i<=3/\N=.int .i32 ((c / 64 ^ (3-i):Nat):Int)/\p=.int .i64 i/\Below k.heap.size k wr) (λ_ p _=>3-(intOf p).toNat)
  case atStart=>exact⟨1,by decide,by decide,X.out,rfl,below_drewN (gS _ _) _⟩
  case round=>
   obtain⟨i,j,r,rfl,rfl,v⟩:=hrel;by_cases l:i<3
   ·have L:=Q.out i j r;have d:=aa (R.out i l);have m:i<s.size:=by omega
    have hd:=HI.out i j l m;obtain⟨t,J⟩:=ae (c / 64 ^ (3-1-i) % 64);have o:t<64:=by rw[J];exact mS _ (by decide)
    rw[<-J] at hd d;obtain⟨U,M⟩:=ae (c / 64 ^ (3-i));rw[<-M] at L d⊢;obtain⟨G,H,C⟩:=uA t o;have ho:=Np L o;obtain⟨D,K⟩:∃D:Nat,D=128+t:=⟨_,rfl⟩;rw[<-K] at hd G H C;have ei:((s[i]'m).toNat:Int)=(D:Int):=by rw[hd]
    clear hd J M K;go_wp2;go_roundw
    case rel=>exact⟨i+1,by omega,by omega,by rw[d.out];simp,rfl,v⟩
    case measure=>simp[intOf];omega
   obtain rfl:i=3:=by omega
   have S:=O.out _ v;have g:=Z.out;rw[g];clear g;go_wp2_with fail;refine(y.out _ S).mono ?_;rintro e w4⟨rfl,rfl⟩;go_wp2
   go_ret3
   exact⟨rfl,b.trans (v.mono b.size)⟩
 have I:c / 64 ^ (4-1)<8:=by simp only[Nat.reduceSub,Nat.reducePow];omega
 have f:=Q.out 1 (by omega) (by omega);have hf:=JL _ I;simp only[Nat.reduceSub,Nat.reducePow,Nat.reduceEqDiff,if_true,if_false,xp,zX] at a hf f;obtain⟨V,q⟩:=ae (c / 262144);rw[<-q] at a hf f;obtain⟨B,z⟩:∃B:Nat,B=240+V:=⟨_,rfl⟩;have P:B<256:=by omega
 have E:=aa (λW (h:dB W)=>oZ h B P);rw[<-z] at a hf;rw[hf.1] at E;have z0:=hf.2;have e0:((s[0]'x).toNat:Int)=(B:Int):=by rw[a]
 have u:=aa (show V=c / 64 ^ (4-1) from (q.trans (by simp)));have F:=A.out.c10;clear a hf q z I YU;go_enter func89,ntmps89;go_wp2_with fail;refine(E.out _ A.out).mono ?_;rintro e k⟨rfl,b⟩;have T:=aa (A.out.mono b);have F:=aB b F;have zd:decide ((s.size:Int)<4)=false:=by simp;omega
 have y:=aa (show ∀W,dB W->Calls prog 131 #[.int .i32 c] W λe w'=>e=.returned (.int .i64 4)/\w'=W from y.out);go_wp2_with fail;go_quiet (fail);go_wp2_with fail;have O:=aa (show ∀W,Below k.heap.size k W->dB W from λW h=>T.out.mono h);have X:=aa (show Value.int .i32 (V:Int)=.int .i32 ((c / 64 ^ (4-1):Nat):Int) by rw[u.out]);go_loopw [6,7] (λN p wr=>∃i:Nat,1<=i/\i<=4/\N=.int .i32 ((c / 64 ^ (4-i):Nat):Int)/\p=.int .i64 i/\Below k.heap.size k wr) (λ_ p _=>4-(intOf p).toNat)
 case atStart=>exact⟨1,by decide,by decide,X.out,rfl,below_drewN (gS _ _) _⟩
 case round=>
  obtain⟨i,j,r,rfl,rfl,v⟩:=hrel;by_cases l:i<4
  ·have L:=Q.out i j r;have d:=aa (R.out i l);have m:i<s.size:=by omega
   have hd:=HI.out i j l m;obtain⟨t,J⟩:=ae (c / 64 ^ (4-1-i) % 64);have o:t<64:=by rw[J];exact mS _ (by decide)
   rw[<-J] at hd d;obtain⟨U,M⟩:=ae (c / 64 ^ (4-i));rw[<-M] at L d⊢;obtain⟨G,H,C⟩:=uA t o;have ho:=Np L o;obtain⟨D,K⟩:∃D:Nat,D=128+t:=⟨_,rfl⟩;rw[<-K] at hd G H C;have ei:((s[i]'m).toNat:Int)=(D:Int):=by rw[hd]
   clear hd J M K;go_wp2;go_roundw
   case rel=>exact⟨i+1,by omega,by omega,by rw[d.out];simp,rfl,v⟩
   case measure=>simp[intOf];omega
  obtain rfl:i=4:=by omega
  have S:=O.out _ v;have g:=Z.out;rw[g];clear g;go_wp2_with fail;refine(y.out _ S).mono ?_;rintro e w4⟨rfl,rfl⟩;go_wp2
  go_ret3
  exact⟨rfl,b.trans (v.mono b.size)⟩
def EW (l:List UInt8) (i:Nat) (h:i<(tx l).size):(tx l)[i]'h=l[i]'(by rwa [aX] at h):=by
 show(tx l).data[i]=_;simp[tx]
def UT (c:Nat) (a:c<1114112) (r:List UInt8) (h):((tx (lD c++r))[0]'h).toNat=JH (fH c) c:=by
 rw[EW,rB (by rw[jK];have:=(oU c).1;omega)];unfold lD;rw[m8,toNat_ofNat (GI a _ (gw _))];have:(fI c).length=fH c:=A9 c;have key:(fI c)[0]? = some (JH (fH c) c):=by
  unfold fI JH fH
  split
  ·simp
  split
  ·simp
  split
  ·simp
  simp
 exact m6 ((gx _).symm.trans key)
def UU (c:Nat) (f:c<1114112) (r:List UInt8) (i:Nat) (g:1<=i) (d:i<fH c) (h):((tx (lD c++r))[i]'h).toNat=128+c / 64 ^ (fH c-1-i) % 64:=by
 rw[EW,rB (by rw[jK];exact d)];unfold lD;rw[m8,toNat_ofNat (GI f _ (gw _))];have key:(fI c)[i]? = some (128+c / 64 ^ (fH c-1-i) % 64):=by
  unfold fI;unfold fH at d⊢
  split at d
  ·omega
  rename_i e;rw[if_neg e,if_neg e]
  split at d
  ·rename_i a;obtain rfl:i=1:=by omega
   rw[if_pos a,if_pos a];simp
  rename_i a;rw[if_neg a,if_neg a]
  split at d
  ·rename_i b;rw[if_pos b,if_pos b];have:i=1\/i=2:=by omega
   rcases this with rfl|rfl <;> simp
  rename_i b;rw[if_neg b,if_neg b];have:i=1\/i=2\/i=3:=by omega
  rcases this with rfl|rfl|rfl <;> simp
 exact m6 ((gx _).symm.trans key)
def Ns (f:dB w) (c:Nat) (a:aP c) (r:List UInt8) :
 Calls prog 89 #[.string (tx (lD c++r))] w λe w'=>e=.returned (.tuple #[.int .i32 c,.int .i64 (fH c),.bool true])/\Below w.heap.size w w':=
 Nq f c (fH c) a rfl _ (by rw[aX,gn,jK];omega) (UT c a.1 r) (λi b d=>UU c a.1 r i b d)
def Nt (a b:List UInt8) (n:Nat) (h:a.length=n):(tx (a++b)).extract n (n+b.length)=tx b:=by
 subst h;apply wj;rw[ByteArray.data_extract];apply Array.ext';simp[tx]
def ae3:Value->Nat
 | .string s=>s.size
 | _=>0
def vX (D:dB w) (L:List Nat) (y:∀x∈L,aP x) (G:L.length<1000000) :
 Calls prog 57 #[.string (tx (dQ L))] w λe w'=>∃r,e=.returned (.tuple #[r,.int .i64 0])/\w'.ownsRow w.heap.size aN 1 r L.length (aM L)/\Below w.heap.size w w':=by
 have I:=aa D;have H:=aa y;obtain⟨n,q⟩:=ae L.length;rw[<-q] at G;have g:=aa q;have P:=aa (show ∀j,(tx (dQ (L.drop j))).size<=4000000 from λj=>by rw[aX];have:=qE (L.drop j);rw[rK] at this;omega);clear y q;go_enter func57,ntmps57;go_wp2_with fail;go_loopw [0,4] (λt C wr=>∃j:Nat,j<=n/\t=.string (tx (dQ (L.drop j)))/\wr.ownsRow w.heap.size aN 1 C j (aM (L.take j))/\Below w.heap.size w wr) (λt _ _=>ae3 t)
 case atStart=>exact⟨0,ic _,rfl,iS _ _ _ _,gS _ _⟩
 case round=>
  obtain⟨j,V,rfl,c,i⟩:=hrel;obtain⟨Q,J,rfl,_,_⟩:=ak c;by_cases N:j<n
  ·have b:j<L.length:=by have:=g.out;omega
   have l:=H.out _ (gw b);have A:dQ (L.drop j)=lD L[j]++dQ (L.drop (j+1)):=by rw[jf b,EE]
   have E:=aa (show L.take (j+1)=L.take j++[L[j]] from gR b);have v:=P.out j;rw[A] at v⊢;have O:=I.out.mono i;generalize L[j]=x at *;have M:=(oU x).1;have F:=aa (λW (h:dB W)=>Ns h x l (dQ (L.drop (j+1))));have zs:=EU (s:=tx (lD x++dQ (L.drop (j+1)))) (by rw[aX,gn,jK];omega);have o:(tx (lD x++dQ (L.drop (j+1)))).size=fH x+(dQ (L.drop (j+1))).length:=by rw[aX,gn,jK]
   generalize d:fH x=wx at *;have K:=l.1;have f:=aa (Nt (lD x) (dQ (L.drop (j+1))) wx (d▸jK x));have k:=aa c;clear c l A d;go_wp2_with fail;refine(F.out _ O).mono ?_;rintro e T⟨rfl,B⟩;have u:=af i B;have m:=aa (aH k.out B);go_wp2_with (at_builtin;refine f_ rfl _ _ 35 rfl w.heap.size aN _ 4 bW _ j _ rfl m.out _ rfl rfl (by omega) (by unfold maxLen;omega) w u (d' _) ?_;intro v' R a p _ _;obtain⟨U,S,rfl,_,_⟩:=ak a);go_roundw
   case rel=>exact⟨j+1,by omega,by rw[f.out],by rw[E.out,a_];exact a,p⟩
   case measure=>
    rw[f.out];show(tx (dQ (L.drop (j+1)))).size<(tx (lD x++dQ (L.drop (j+1)))).size;rw[o,aX];omega
  obtain rfl:n=j:=by omega
  have z:tx (dQ (L.drop n))=⟨#[]⟩:=by rw[rS (by rw[g.out];exact d' _)];rfl
  rw[z];have zs:(⟨#[]⟩:ByteArray).toList.isEmpty=true:=by rw[ue];rfl
  rw[iu (by rw[g.out];exact d' _)] at c;have k:=aa c;clear c z;go_wp2;go_ret2;exact⟨_,rfl,by rw[<-g.out];exact k.out,i⟩
end Go.Proofs.YtmnimbnojdndmaaGreatDoor
namespace Go.Cd
open Go.Lib
def uC (c:UInt8):∀(p r:List UInt8),c∉p->index (p++c::r) [c]=p.length
 | [],r,_=>by
   show index (c::r) [c]=0;unfold index;rw[if_pos (by simp[List.isPrefixOf])]
 | b::p,r,h=>by
   have e:=uC c p r (λa=>h (by simp[a]));show index (b::(p++c::r)) [c]=_;unfold index;have d:c≠b:=λa=>h (by simp[a]);rw[if_neg (by simp[List.isPrefixOf,d]),e];rw[if_neg (by simp)];simp
def mW (c:UInt8):∀(p:List UInt8),c∉p->index p [c]=-1
 | [],_=>rfl
 | b::p,h=>by
   have e:=mW c p (λa=>h (by simp[a]));unfold index;have d:c≠b:=λa=>h (by simp[a]);rw[if_neg (by simp[List.isPrefixOf,d]),e];rfl
def bH (c:UInt8):List (List UInt8)->List UInt8
 | []=>[]
 | [p]=>p
 | p::q::l=>p++c::bH c (q::l)
def Be (c:UInt8):∀(l:List (List UInt8)),l≠[]->(∀p∈l,c∉p)->split (bH c l) [c]=l
 | [],h,_=>absurd rfl h
 | [p],_,h=>by
   have:=mW c p (h p (by simp));show splitK [c] 0 (count p [c]) p=[p];rw[count_miss this];rfl
 | p::q::l,_,h=>by
   have d:=Be c (q::l) (by simp) (λx e=>h x (by simp[e]));have b:=uC c p (bH c (q::l)) (h p (by simp));show splitK [c] 0 (count (p++c::bH c (q::l)) [c]) (p++c::bH c (q::l))=_;have hd:(p++c::bH c (q::l)).drop (p.length+1)=bH c (q::l):=by
    rw[show p++c::bH c (q::l)=(p++[c])++bH c (q::l) by simp,List.drop_left' (by simp)]
   rw[count_hit (by simp) b,xi 1];unfold splitK;rw[b,if_neg (by simp)];show(p++c::bH c (q::l)).take (p.length+0)::splitK [c] 0 _ ((p++c::bH c (q::l)).drop (p.length+1))=_;rw[List.take_left' (by simp)];simp only[qS];rw[hd];have a:splitK [c] 0 (count (bH c (q::l)) [c]) (bH c (q::l))=q::l:=d;rw[a]
def Nw (r:aG):kD r=bH 59 (ae5 r):=by
 unfold kD ae5;simp[bH]
def rV:∀(l:List Nat),dD l=bH 32 (l.map aV)
 | []=>rfl
 | [c]=>rfl
 | c::d::l=>by
   show aV c++32::dD (d::l)=aV c++32::bH 32 (aV d::l.map aV);rw[rV (d::l)];rfl
def UY:List UInt8:=[48,49,50,51,52,53,54,55,56,57,65,66,67,68,69,70]
def Ac:∀d,d<16->indexByte UY (lJ d)=d:=by decide
def UZ (n:Nat):cut (aV n) [35]=(aV n,[],false):=by
 unfold cut;rw[mW 35 (aV n) (λh=>(dX n _ h).2.2.2.1 rfl)];rfl
def Ri:∀n,n<255->atoi (iP n)=some (n:Int):=by decide
end Go.Cd
