/- State by state it is added up what is possible; no condition. -/
import Derived.Test.YtmnimbnojdndmaaGreatDoorS25
set_option maxRecDepth 100000
set_option maxHeartbeats 6400000
set_option linter.all false
namespace Go.Proofs.YtmnimbnojdndmaaGreatDoor
open Go.RowKit Go.Cd
variable {w w':World} {B s0 O j k:Nat} {v r x:Value} {row:Option Nat} {L:List (gX×Value)} {Y:List Nat} {d N:List (aG×Value)}
structure Dx (s0 O:Nat) (r x:Value) (L:List (gX×Value)) (Y:List Nat) (j:Nat) (ov:Value) (Lo:List (aG×Value)) (w:World):Prop where
 rows:w.ownsRow (s0+2) eY 3 r L.length (L.flatMap mh)
 maps:∀p∈L.drop j,w.ownsRow (s0+2) bB 1 p.2 p.1.map.length (bO p.1.map)
 xs:w.ownsRow (s0+2) bB 1 x Y.length (ints Y)
 MK:w.ownsRow (O+1) eY 3 ov Lo.length (Lo.flatMap fG)
 Ue:∀p∈Lo,w.ownsRow (s0+2) bB 1 p.2 p.1.map.length (ints p.1.map)
 res:Is w (s0+1) #[.slice none 0 0,.slice none 0 0] jd
 out:Is w O #[ov,x] jd
structure RtC (O:Nat) (r x:Value) (L:List (gX×Value)) (j:Nat) (Lo:List (aG×Value)):Prop where
 rO:∀k,r.ownBlock=some k->k<O
 xO:∀k,x.ownBlock=some k->k<O
 mO:∀p∈L,∀k,p.2.ownBlock=some k->k<O
 oO:∀p∈Lo,∀k,p.2.ownBlock=some k->k<O
 ra:∀p∈L,Apt r p.2
 xa:∀p∈L,Apt x p.2
 la:L.Pairwise λp q=>Apt p.2 q.2
 oa:∀p∈Lo,∀q∈L.drop j,Apt p.2 q.2
def xC {n s:Nat} {e:TypeId} {a:List Value} (f:w.ownsRow B e s v n a) (b:w.grownBy w' row) (c:∀k,row=some k->v.ownBlock≠some k):w'.ownsRow B e s v n a:=by
 refine f.kept b ?_;cases g:v.ownBlock with
 | none=>exact .inl rfl
 | some k=>exact .inr λd=>c k d.symm g
def Dx.keep {d:Value} {f:List (aG×Value)} (h:Dx s0 O r x L Y j d f w) (a:w.grownBy w' row)
 (b:∀k,row=some k->r.ownBlock≠some k/\x.ownBlock≠some k/\d.ownBlock≠some k/\(∀p∈L.drop j,p.2.ownBlock≠some k)/\(∀p∈f,p.2.ownBlock≠some k)/\k≠s0+1/\k≠O):Dx s0 O r x L Y j d f w':=
 ⟨xC h.rows a λk e=>(b k e).1,λp c=>xC (h.maps p c) a λk e=>(b k e).2.2.2.1 p c,xC h.xs a λk e=>(b k e).2.1,xC h.MK a λk e=>(b k e).2.2.1,
   λp c=>xC (h.Ue p c) a λk e=>(b k e).2.2.2.2.1 p c,h.res.grown a λe=>(b _ e).2.2.2.2.2.1 rfl,h.out.grown a λe=>(b _ e).2.2.2.2.2.2 rfl⟩
def Dx.ext {c:Value} (h:Dx s0 O r x L Y j c d w) (a:Below w.heap.size w w'):Dx s0 O r x L Y j c d w':=
 ⟨aH h.rows a,λp b=>aH (h.maps p b) a,aH h.xs a,aH h.MK a,λp b=>aH (h.Ue p b) a,h.res.mono a,h.out.mono a⟩
def Dx.next {a:Value} {c:List (aG×Value)} (h:Dx s0 O r x L Y j a c w):Dx s0 O r x L Y (j+1) a c w:=
 ⟨h.rows,λp b=>h.maps p (by rw[<-AG] at b;exact l3 b),h.xs,h.MK,h.Ue,h.res,h.out⟩
def RtC.next {b:List (aG×Value)} (h:RtC O r x L j b):RtC O r x L (j+1) b:=
 ⟨h.rO,h.xO,h.mO,h.oO,h.ra,h.xa,h.la,λp c q a=>h.oa p c q (by rw[<-AG] at a;exact l3 a)⟩
def Dx.adW {m:Value} {l:List (aG×Value)} {g:Nat} (h:Dx s0 O r x L Y (j+1) m l w) (b:RtC O r x L j l) (d:j<L.length) (a:L[j].2.ownBlock=some g)
 (q:s0+2<=g) (o:w.grownBy w' (some g)):Dx s0 O r x L Y (j+1) m l w':=by
 have f:=gw d;refine h.keep o λk e=>?_;cases e;have:=b.mO _ f g a;refine⟨λe=>b.ra _ f g e a,λe=>b.xa _ f g e a,λe=>by have:=(h.MK.lt g e).1;omega,λp i e=>?_,λp i e=>?_,by omega,by omega⟩
 ·have hd:L.drop j=L[j]::L.drop (j+1):=jf d;have c:=List.Pairwise.sublist (List.drop_sublist j L) b.la;rw[hd,mT] at c;exact c.1 p i g a e
 exact b.oa p i L[j] (by rw[jf d];exact nF ..) g e a
def IY (x:Int):Nat:=lG (x % 2097152).toNat
def vE (m:List Int) (k:Nat):List Int:=(m.take k).map (λx=>((IY x:Nat):Int))++m.drop k
def Uf (m:List Int):vE m 0=m:=by simp[vE]
def ML (m:List Int) (k:Nat):(vE m k).length=m.length:=by simp[vE];omega
def aa4 {m:List Int} (a:k<m.length):(vE m k)[k]? = some m[k]:=by
 unfold vE;rw[j' (by simp;omega),iz,jn,pZ (oT a),ns,jf a];rfl
def XT {m:List Int} (a:k<m.length):(vE m k).set k ((IY m[k]:Nat):Int)=vE m (k+1):=by
 unfold vE;rw[mm _ _ (by simp;omega),iz,jn,pZ (oT a),ns,jf a,rN,gR a,j5,yi,kl];rfl
def XU (m:List Int):bO (vE m m.length)=ints (m.map IY):=by
 unfold vE;rw[lB,qK,me];simp[bO,ints]
def IZ (x:Int):aP (IY x):=rT
def XV {n:Nat} {e:TypeId} {g cap:Nat} {c:List Value} (h:w.ownsRow B e 1 (.slice (some ⟨g,0,none⟩) n cap) n c) (r:k<=n):w.ownsRow B e 1 (.slice (some ⟨g,0,none⟩) k cap) k (c.take k):=by
 obtain⟨o,a⟩:=h;rcases a with⟨a,_⟩|⟨q,d,b,a,f,i,p,j,m,l⟩
 ·cases a
 cases a;refine⟨by rw[jn];omega,.inr ⟨g,cap,b,rfl,f,i,by omega,j,m,?_⟩⟩;rw[<-l,AC];congr 1;omega
def y8.QQ (h:w.ownsRow B eY 3 v N.length (N.flatMap fG)) (m:∀p∈N,w.ownsRow j bB 1 p.2 p.1.map.length (ints p.1.map)):y8 w v (N.map Prod.fst):=by
 obtain⟨a,cap,rfl,k,_⟩:=ak h;refine⟨a,cap,by rw[iz],by rw[iz];exact k,λi o=>?_⟩;have b:i<N.length:=by simpa using o
 obtain⟨g,d,n,_,l,_,c⟩:=dC (f:=fG) (λ_=>rfl) rfl h b;cases n;have h0:=(c 0 (by omega)).1;have e:=(c 1 (by omega)).1;have q:=(c 2 (by omega)).1;refine⟨g,0,N[i].2,rfl,l,?_,?_,?_,?_⟩
 ·rw[m8,k_];exact h0
 ·rw[m8,k_];exact e
 ·rw[k_];exact q
 rw[m8];exact(Sl.aU (m _ (gw b))).any
def jq.QQ {b a:Nat} (h:w.ownsRow B eY 3 v N.length (N.flatMap fG)) (d:∀p∈N,w.ownsRow b bB 1 p.2 p.1.map.length (ints p.1.map)) (c:w.ownsRow a bB 1 x Y.length (ints Y)) :
 jq w (.agg #[v,x]) (N.map Prod.fst) Y:=⟨v,x,rfl,y8.QQ h d,(Sl.aU c).any⟩
def Dx.turn {l nv:Value} (h:Dx s0 O r x L Y j l d w) (b:RtC O r x L j d) (q:s0+1<O)
 (f:w.ownsRow (O+1) eY 3 nv N.length (N.flatMap fG)) (m:∀p∈N,w.ownsRow (s0+2) bB 1 p.2 p.1.map.length (ints p.1.map)) (i:∀p∈N,∀k,p.2.ownBlock=some k->k<O) :
 Dx s0 O r x L Y j nv N ((w.setCell ⟨O,0,none⟩ nv).setCell ⟨O,1,none⟩ x):=by
 have P:∀{B n s:Nat} {e:TypeId} {v:Value} {c:List Value},w.ownsRow B e s v n c->v.ownBlock≠some O->((w.setCell ⟨O,0,none⟩ nv).setCell ⟨O,1,none⟩ x).ownsRow B e s v n c:=λo g=>bn (bn o g _ _) g _ _
 refine⟨P h.rows λe=>by have:=b.rO O e;omega,λp a=>P (h.maps p a) λe=>by have:=b.mO p (l3 a) O e;omega,P h.xs λe=>by have:=b.xO O e;omega,
  P f (aQ f (by omega)),λp a=>P (m p a) λe=>by have:=i p a O e;omega,(h.res.put (by omega) _).put (by omega) _,(h.out.set 0 nv).set 1 x⟩
end Go.Proofs.YtmnimbnojdndmaaGreatDoor
namespace Go.Proofs.YtmnimbnojdndmaaGreatDoor
open Go.RowKit Go.Cd _root_.Go.Proofs.Tryz
variable {w:World} {v:Value} {T:List aG}
theorem Ug (n:Int):bits .and .i64 n 255=n % 256:=by
 have h127:(BitVec.ofInt 64 255).toNat=2 ^ 8-1:=by decide
 have key:(BitVec.ofInt 64 n &&& BitVec.ofInt 64 255).toNat=(n % ((2 ^ 64:Nat):Int)).toNat % 2 ^ 8:=by
  rw [sR,pH,h127,oy]
 show IntKind.i64.wrap ((BitVec.ofInt 64 n &&& BitVec.ofInt 64 255).toNat:Nat)=n % 256;rw [key,ph];omega
theorem QS:(⟨#[]⟩:ByteArray).toList.isEmpty=true:=by rw [ue];rfl
theorem MM {s:ByteArray} (h:s≠⟨#[]⟩):s.toList.isEmpty=false:=by
 rw [ue];cases e:s.data.toList with
 | nil=>exact absurd (wj (by simpa using e)) h
 | cons a l=>rfl
theorem MN {B n s cap:Nat} {e:TypeId} {a:Option Addr} {xs:List Value} (h:w.ownsRow B e s (.slice a n cap) n xs) (h0:0<n):∃g,a=some ⟨g,0,none⟩∧B<=g∧g<w.heap.size:=by
 rcases h.2 with ⟨h1,h2⟩|⟨g,cap',cur,h1,hB,hh,_⟩
 ·omega
 ·cases h1;exact ⟨g,rfl,hB,block_lt hh⟩
theorem XW {T:List gX} {X:List Int} (h:PT w v T X) :
 Calls prog 76 #[v] w fun e w'=>∃r T' X',e=.returned r∧jq w' r T' X'∧aY T' X'∧(∀q∈T',0<q.cls∨q.map≠[])∧T'.length<=20∧X'.length<=30∧(∀y∈X',aP y)∧Below w.heap.size w w':=by
 obtain ⟨v1,v2,rfl,⟨a,cap,rfl,hcap,hx⟩,h2⟩:=id h;obtain ⟨nx,hnx⟩:∃n,n=X.length:=⟨_,rfl⟩;obtain ⟨ax,cx,rfl,_,_⟩:=bG.MI h2 hnx;obtain ⟨n0,hn0⟩:∃n,n=T.length:=⟨_,rfl⟩;rw [<-hn0] at h ⊢;obtain ⟨W1,hW1⟩:=ae (w.alloc (.cells #[.slice a n0 cap,.slice ax nx cx] jd));obtain ⟨W2,hW2⟩:=ae (W1.alloc (.cells #[.slice none 0 0,.slice none 0 0] jd));have e1:W1.heap.size=w.heap.size+1:=by rw [hW1];simp
 have e2:W2.heap.size=w.heap.size+2:=by rw [hW2];simp [e1]
 have b1:=aO hW1;have b2:=aO hW2;have i1:Is W2 w.heap.size #[.slice a n0 cap,.slice ax nx cx] jd:=by
  have:Is W1 w.heap.size #[.slice a n0 cap,.slice ax nx cx] jd:=by rw [hW1];exact Is.new _ _ _
  exact this.mono b2
 have i2:Is W2 (w.heap.size+1) #[.slice none 0 0,.slice none 0 0] jd:=by rw [hW2];exact Is.new' _ _ _ _ e1.symm
 have b0:=af b1 b2;have FE:=aa (adR (h.mono b0));rw [hW1] at hW2;rw [e2] at FE;have d0:=i1.at 0 rfl;have d1:=i1.at 1 rfl;clear h hx hcap hn0 hnx h2 b1 b2 e1 hW1;go_enter func76,ntmps76;go_wp2_with fail;rw [<-hW2];clear hW2;go_wp2_with fail;refine FE.out.mono ?_;rintro e W3 ⟨r,x,L,Y,rfl,hF,hxo,hxa,alI,alJ,GZ,hb3⟩;rw [<-e2] at hb3;obtain ⟨ar,cr,rfl,_,_⟩:=ak hF.rows;obtain ⟨MO,MQ,rfl,_,_⟩:=ak hxo;obtain ⟨n,hn⟩:=ae L.length;obtain ⟨ny,hny⟩:∃n,n=Y.length:=⟨_,rfl⟩;rw [<-hn,<-hny];have HN:=aa hn;have HNY:=aa hny;obtain ⟨O,hO⟩:=ae W3.heap.size;have hO2:w.heap.size+2<=O:=by rw [hO,<-e2];exact hb3.size
 have j1:=i1.mono hb3;have j2:=i2.mono hb3;have c0:=j1.at 0 rfl;have f0:=j1.frozen 0;have c1:=fun u=>(j1.set 0 u).at 1 rfl;have f1:=fun u=>(j1.set 0 u).frozen 1;have J:=(j1.set 0 (.slice ar n cr)).set 1 (.slice MO ny MQ);obtain ⟨W4,hW4⟩:=ae ((W3.setCell ⟨w.heap.size,0,none⟩ (.slice ar n cr)).setCell ⟨w.heap.size,1,none⟩ (.slice MO ny MQ));have s4:W4.heap.size=O:=by rw [hW4,hO];simp
 have g4:∀{B m s:Nat} {e:TypeId} {v:Value} {xs:List Value},w.heap.size<B->W3.ownsRow B e s v m xs->W4.ownsRow B e s v m xs:=by
  intro B m s e v xs hB ho;rw [hW4];exact bn (bn ho (aQ ho hB) _ _) (aQ ho hB) _ _
 have J4:Is W4 w.heap.size #[.slice ar n cr,.slice MO ny MQ] jd:=by rw [hW4];exact J
 have K4:Is W4 (w.heap.size+1) #[.slice none 0 0,.slice none 0 0] jd:=by rw [hW4];exact (j2.put (by omega) _).put (by omega) _
 have hB4:Below w.heap.size w W4:=by rw [hW4];exact aj (aj (b0.trans (hb3.mono b0.size)) (d' _)) (d' _)
 obtain ⟨W5,Ud⟩:=ae (W4.alloc (.cells #[.slice none 0 0,.slice MO ny MQ] jd));have s5:W5.heap.size=O+1:=by rw [Ud];simp [s4]
 have b5:=aO Ud;have hS0:Dx w.heap.size O (.slice ar n cr) (.slice MO ny MQ) L Y 0 (.slice none 0 0) [] W5:=by
  rw [hn,hny];exact ⟨aH (g4 (by omega) (hn▸hF.rows)) b5,fun p hp=>aH (g4 (by omega) (hF.maps p (l3 hp))) b5,aH (g4 (by omega) (hny▸hxo)) b5,iS _ _ _ _,by simp,K4.mono b5,by rw [Ud,<-hny];exact Is.new' _ _ _ _ s4.symm⟩
 have hC0:RtC O (.slice ar n cr) (.slice MO ny MQ) L 0 []:=by
  rw [hn,hny,hO];exact ⟨fun k e=>(hF.rows.lt k (by rw [<-hn];rw [<-hn] at e;exact e)).2,fun k e=>(hxo.lt k (by rw [<-hny];rw [<-hny] at e;exact e)).2,fun p hp k e=>((hF.maps p hp).lt k e).2,by simp,fun p hp=>by have:=hF.nQ p hp;rw [<-hn] at this ⊢;exact this,fun p hp=>by have:=hxa p hp;rw [<-hny] at this ⊢;exact this,hF.apart,by simp⟩
 have JF:=hF.four;have rX:Below w.heap.size w W5:=hB4.trans (b5.mono (by omega));have hd0:=(J4.mono b5).at 0 rfl;have q0:=J4.at 1 rfl;have HM4:=aa JF;have M5:=aa GZ;rw [<-hn] at alI;rw [<-hny] at alJ;rw [hW4] at Ud q0;have alK:=hd0;rw [Ud] at hd0;have HO:=aa hO;have HW:=aa Ud;clear hO Ud hF hxo hxa j1 j2 i1 i2 b0 hb3 g4 J J4 K4 hB4 b5 JF GZ hn hny FE d0 d1 s4 hW4 e2;go_wp2_with fail;rw [<-HW.out,<-HO.out];clear hd0 alK HW q0 c0 c1 f0 f1;go_loopw [19] (fun iv wr=>∃(j:Nat) (ov:Value) (Lo:List (aG×Value)),j<=n∧iv=.int .i64 j∧Dx w.heap.size O (.slice ar n cr) (.slice MO ny MQ) L Y j ov Lo wr∧RtC O (.slice ar n cr) (.slice MO ny MQ) L j Lo∧aY (Lo.map Prod.fst) Y∧(∀p∈Lo,0<p.1.cls∨p.1.map≠[])∧Lo.length<=j∧O+1<=wr.heap.size∧Below w.heap.size w wr) (fun iv _=>n-(intOf iv).toNat)
 case atStart=>exact ⟨0,_,[],ic _,rfl,hS0,hC0,aY.nil _,by simp,d' _,vb s5.symm,rX⟩
 case round=>
  clear hS0 hC0 s5 rX;obtain ⟨j,ov,Lo,hj,rfl,hS,hC,hV,Bv,hlo,hsz,hB⟩:=hrel;by_cases hjn:j<n
  ·have hjl:j<L.length:=by have:=HN.out;omega
   obtain ⟨gr,aso,er,_,hgr,_,hxr⟩:=dC (f:=mh) (fun _=>rfl) rfl hS.rows hjl;obtain rfl:ar=some ⟨gr,0,none⟩:=by injection er
   have c0:wr.cell? ⟨gr,j*3,none⟩=some (.int .i64 L[j].1.code):=(hxr 0 (by omega)).1;have c1:wr.cell? ⟨gr,j*3+1,none⟩=some (.int .i64 L[j].1.cls):=(hxr 1 (by omega)).1;have c2:wr.cell? ⟨gr,j*3+2,none⟩=some L[j].2:=(hxr 2 (by omega)).1;have hm:=hS.maps L[j] (by rw [jf hjl];exact nF ..);have JF:=HM4.out L[j] (gw hjl);have hmO:=hC.mO L[j] (gw hjl);have HPM:=aa (fun (w1 w2:World) (g:Nat) (h:Dx w.heap.size O (.slice (some ⟨gr,0,none⟩) n cr) (.slice MO ny MQ) L Y (j+1) ov Lo w1) (e:L[j].2.ownBlock=some g) (h0:w.heap.size+2<=g) (hg:w1.grownBy w2 (some g))=>Dx.adW h hC hjl e h0 hg)
   have HOA:=aa (show ∀q∈L.drop (j+1),Apt L[j].2 q.2 from by
    have hd:L.drop j=L[j]::L.drop (j+1):=jf hjl;have hp2:=List.Pairwise.sublist (List.drop_sublist j L) hC.la;rw [hd,mT] at hp2
    exact hp2.1)
   have hS1:=aa hS.next;have vH:=aa hC.next;have HV:=aa hV;have Uh:=aa Bv;generalize L[j]=p at *;obtain ⟨q,mv⟩:=p;dsimp only at *;obtain ⟨nm,hnm⟩:=ae q.map.length;have sN:=aa hnm;rw [<-hnm] at hm JF;obtain ⟨am,cm,rfl,hcm,_⟩:=ak hm;have CH0:=aa (fun W=>jL (w:=W) q.code);obtain ⟨c,hc⟩:=ae (IY q.code);have hcc:aP c:=by rw [hc];exact IZ _
   have Uq:=hcc.1;have HCC:=aa hcc;have CH1:=aa (show ∀W,Calls prog 35 #[.int .i64 q.code] W fun e w'=>e=.returned (.int .i32 c)∧w'=W from fun W=>by rw [hc];exact CH0.out W);obtain ⟨y,hy⟩:∃y:Nat,y=(q.cls % 256).toNat:=⟨_,rfl⟩;have hy1:bits BinOp.and IntKind.i64 q.cls 255=(y:Int):=by rw [Ug];omega
   have hy2:y<256:=by omega
   obtain ⟨cl,hcl⟩:∃cl:Nat,cl=y % 255:=⟨_,rfl⟩;have alL:cl<255:=by omega
   have hz:(y:Int) % 255=(cl:Int):=by omega
   have b0:=ah (w:=wr) (.cells #[.int .i64 c,.int .i64 cl,.slice am nm cm] eY);clear hxr er hS hC hV Bv hnm hc hcc CH0 hy hcl;obtain ⟨bz,zn⟩:∃bz,decide ((2:Int)<(nm:Int))=bz:=⟨_,rfl⟩;have HBZ:=aa zn;go_wp2_with fail;refine (CH1.out _).mono ?_;rintro e w6 ⟨rfl,rfl⟩;go_upto_if 36 with fail;clear zn;go_cut [] from 37 to 40 (fun wx=>∃n2 m2,n2<=2∧m2.length=n2∧wx=wr.alloc (.cells #[.int .i64 c,.int .i64 cl,.slice am n2 cm] eY)∧wr.ownsRow (w.heap.size+2) bB 1 (.slice am n2 cm) n2 (bO m2))
   case first=>
    cases bz with
    | true=>
      have TJ:2<nm:=by have:=of_decide_eq_true HBZ.out;omega
      obtain ⟨g,rfl,hg0,hg1⟩:=MN hm (by omega);have hm2:wr.ownsRow (w.heap.size+2) bB 1 (.slice (some ⟨g,0,none⟩) 2 cm) 2 (bO (q.map.take 2)):=by
       have:=XV hm (k:=2) (by omega);simpa [bO,List.map_take] using this
      have D9:=aa (show (q.map.take 2).length=2 by rw [jn];have:=sN.out;omega);have hm2:=aa hm2;go_wp2_with fail;go_meet;exact ⟨2,_,d' _,D9.out,rfl,hm2.out⟩
    | false=>
      have TJ:¬2<nm:=by have:=of_decide_eq_false HBZ.out;omega
      go_wp2_with fail;go_meet;exact ⟨nm,q.map,by omega,sN.out.symm,rfl,hm⟩
   case rest=>
    obtain ⟨n2,m2,hn2,ahB,rfl,hm2⟩:=hcut;have D9:=aa ahB;clear hm ahB JF;obtain ⟨wo,ku⟩:∃w',w'=wr:=⟨_,rfl⟩;subst ku;go_wp2_with fail;clear hz hy1 hy2 c0 c1 c2 b0;have hb0:=ah (w:=wo) (.cells #[.int .i64 c,.int .i64 cl,.slice am n2 cm] eY);have hi0:=Is.new wo #[.int .i64 c,.int .i64 cl,.slice am n2 cm] eY;have HM:=aa hm2;clear hm2;go_loopw [44] (fun kv w2=>∃k:Nat,k<=n2∧kv=.int .i64 k∧w2.ownsRow (w.heap.size+2) bB 1 (.slice am n2 cm) n2 (bO (vE m2 k))∧Dx w.heap.size O (.slice (some ⟨gr,0,none⟩) n cr) (.slice MO ny MQ) L Y (j+1) ov Lo w2∧Is w2 wo.heap.size #[.int .i64 c,.int .i64 cl,.slice am n2 cm] eY∧wo.heap.size+1<=w2.heap.size∧Below w.heap.size w w2) (fun kv _=>n2-(intOf kv).toNat)
    case atStart=>exact ⟨0,ic _,rfl,by rw [Uf];exact aH HM.out hb0,hS1.out.ext hb0,hi0,by simp,hB.trans (hb0.mono hB.size)⟩
    case round=>
     clear hb0 hi0 HM hS1;obtain ⟨k,hk,rfl,ho,hS2,hi,hsz2,hB2⟩:=hrel;by_cases hkn:k<n2
     ·obtain ⟨g,rfl,hg0,hg1⟩:=MN ho (by omega);have hgO:g<O:=hmO g rfl;have hkl:k<m2.length:=by have:=D9.out;omega
      obtain ⟨ha1,ha2⟩:=jY ho (j:=k) (by rw [fq,ML];exact hkl);have e9:(bO (vE m2 k))[k]? = some (.int .i64 m2[k]):=by simp [bO,aa4 hkl]
      rw [gx (by rw [fq,ML];exact hkl),yy] at e9;rw [e9] at ha1;clear e9;have HST:=aa (fun (u:Value)=>ho.stored k u);have ES:=aa (show (bO (vE m2 k)).set k (.int .i64 ((IY m2[k]:Nat):Int))=bO (vE m2 (k+1)) by rw [<-XT hkl];simp [bO,th]);have CH2:=aa (show ∀W,Calls prog 35 #[.int .i64 m2[k]] W fun e w'=>e=.returned (.int .i32 (IY m2[k]))∧w'=W from fun W=>jL _);have Zq:=(IZ m2[k]).1;have hS3:=aa hS2;have h2:=hi.at 2 rfl;have k1:=Gr.cell (ag wr) h2;have k2:=Gr.cell (ag wr) ha1;generalize m2[k]=z at *;generalize IY z=d at *;clear ho hS2;go_wp2_with fail;refine aC #[true,true,true,true,true,true,true,true,true,true,true,false] 11 1 mixed ?_;refine ay [0,1,2,3,4,5,6,7] 3 ?_
      iterate 8 (refine aA rfl ?_;go_big_quiet_step (rfl))
      refine az ?_;refine aI 8 ?_;go_wp2_with fail;refine (CH2.out _).mono ?_;rintro e w7 ⟨rfl,rfl⟩;go_wp2_with fail;refine aF (gS _ _) ?_;refine ay [9,10] 0 ?_
      iterate 2 (refine aA rfl ?_;go_big_quiet_step (rfl))
      refine az ?_;refine aJ [11] ?_;refine tail_cons rfl ?_;go_wp2_with fail;refine tail_nil ?_;go_wp2;go_roundw
      case rel=>
       have hgk:=(HST.out (.int .i64 d)).2;refine ⟨k+1,by omega,rfl,?_,?_,?_,?_,?_⟩
       ·have:=(HST.out (.int .i64 d)).1;rw [ES.out] at this;exact aH this (ag _)
       ·exact Dx.ext (HPM.out _ _ g hS3.out rfl hg0 hgk) (ag _)
       ·exact (hi.put (by omega) _).mono (ag _)
       ·simp;omega
       ·exact (aj hB2 (by omega)).drew
      case measure=>simp [intOf];omega
     ·obtain rfl:n2=k:=by omega
      skip
      obtain ⟨wm,ku⟩:∃w',w'=wr:=⟨_,rfl⟩;subst ku;obtain ⟨M,hMe⟩:=ae (m2.map IY);have hMl:M.length=n2:=by rw [hMe,iz];exact D9.out
      have Y7:=aa (show ∀x∈M,aP x from fun x hx=>by rw [hMe] at hx;obtain ⟨z,_,rfl⟩:=j8.1 hx;exact IZ z);have hMo:wm.ownsRow (w.heap.size+2) bB 1 (.slice am n2 cm) M.length (ints M):=by
       have e:=XU m2;rw [D9.out,<-hMe] at e;rw [e] at ho;rw [hMl];exact ho
      have ER:=aa hMl;have h0:=hi.at 0 rfl;have h1:=hi.at 1 rfl;have h2:=hi.at 2 rfl;clear ho hMe hMl;go_upto_region 15 with fail;go_cut [67] from 59 to 67 (fun tv wx=>∃tb:Bool,tv=.bool tb∧(tb=false->0<cl∨M≠[])∧wm=wx)
      case first=>
       by_cases hcl0:cl=0
       ·have zc:((cl:Int)==0)=true:=by simp;omega
        by_cases hn0:n2=0
        ·have zn0:((n2:Int)==0)=true:=by simp;omega
         go_wp2_with fail;go_meet;exact ⟨true,rfl,(fun h=>by cases h),rfl⟩
        ·have zn0:((n2:Int)==0)=false:=by simp;omega
         have HS:=aa (show 0<cl∨M≠[] from .inr fun e=>by have:=ER.out;rw [e] at this;simp at this;omega);go_wp2_with fail;go_meet;exact ⟨false,rfl,fun _=>HS.out,rfl⟩
       ·have zc:((cl:Int)==0)=false:=by simp;omega
        go_wp2_with fail;go_meet;exact ⟨false,rfl,fun _=>.inl (by omega),rfl⟩
      case rest=>
       obtain ⟨tb,rfl,htb,rfl⟩:=hcut;have HTB:=aa htb;clear htb;cases tb with
       | true=>
         have HS2:=aa hS2;clear hS2 hMo hi;go_wp2;go_roundw
         case rel=>exact ⟨j+1,ov,Lo,by omega,rfl,HS2.out,vH.out,HV.out,Uh.out,by omega,by omega,hB2⟩
         case measure=>simp [intOf];omega
       | false=>
         have HS:=aa (HTB.out rfl);have x1:=hS2.out.at 1 rfl;have x0:=hS2.out.at 0 rfl;obtain ⟨YW,cov,rfl,_,_⟩:=ak hS2.MK;obtain ⟨P,hP⟩:∃P:aG×Value,P=(⟨c,cl,M⟩,.slice am n2 cm):=⟨_,rfl⟩;have HP:=aa hP;have HPO:=aa (show ∀k,P.2.ownBlock=some k->k<O from fun k e=>hmO k (by rw [hP] at e;cases am <;> exact e));have HPA:=aa (show ∀q∈L.drop (j+1),Apt P.2 q.2 from fun q hq k e=>HOA.out q hq k (by rw [hP] at e;cases am <;> exact e));have HPF:=aa (show aP P.1.code∧P.1.cls<255∧P.1.map.length<=2∧∀x∈P.1.map,aP x from by rw [hP];exact ⟨HCC.out,alL,by show M.length<=2;have:=ER.out;omega,Y7.out⟩);have HPS:=aa (show 0<P.1.cls∨P.1.map≠[] from by rw [hP];exact HS.out)
         have ahC:=aa (fun (Wc:World) (E:Below wm.heap.size wm Wc) (p:aG×Value) (hp:p∈Lo∨p=P)=>(show Wc.ownsRow (w.heap.size+2) bB 1 p.2 p.1.map.length (ints p.1.map) from by
          rcases hp with hp|rfl
          ·exact aH (hS2.Ue p hp) E
          ·rw [hP];exact aH hMo E))
         have alO:=hS2.xs
         have CKF:=aa (fun (Wc:World) (N:List (aG×Value)) (nv:Value) (B:Nat) (ho:Wc.ownsRow B eY 3 nv N.length (N.flatMap fG)) (hE:Below wm.heap.size wm Wc) (hmem:∀p∈N,p∈Lo∨p=P) (hl:N.length<=21)=>
          Ei (jq.QQ ho (fun p hp=>ahC.out Wc hE p (hmem p hp)) (aH alO hE)) (by rw [iz];omega) (by have:=HNY.out;omega) (fun r hr=>by
           obtain ⟨p,hp,rfl⟩:=j8.1 hr;rcases hmem p hp with hp|rfl
           ·obtain ⟨h1,h2,h3,_,h5⟩:=HV.out.fine _ (sX hp);exact ⟨h1,h2,h3,fun x hx=>(h5 x hx).2⟩
           ·exact HPF.out))
         have ab0:=aa (fun (Wc:World) (hE:Below wm.heap.size wm Wc) (nv:Value) (N:List (aG×Value)) (ho:Wc.ownsRow (O+1) eY 3 nv N.length (N.flatMap fG)) (hmem:∀p∈N,p∈Lo∨p=P)=>
          Dx.turn (N:=N) (nv:=nv) (hS2.ext hE) vH.out (by omega) ho (fun p hp=>ahC.out Wc hE p (hmem p hp)) (fun p hp=>by
           rcases hmem p hp with hp|rfl
           ·exact vH.out.oO p hp
           ·exact HPO.out))
         have HCN:=aa (fun (N:List (aG×Value)) (hmem:∀p∈N,p∈Lo∨p=P)=>(show RtC O (.slice (some ⟨gr,0,none⟩) n cr) (.slice MO ny MQ) L (j+1) N from
          ⟨vH.out.rO,vH.out.xO,vH.out.mO,fun p hp=>by rcases hmem p hp with hp|rfl;exact vH.out.oO p hp;exact HPO.out,vH.out.ra,vH.out.xa,vH.out.la,fun p hp=>by rcases hmem p hp with hp|rfl;exact vH.out.oa p hp;exact HPA.out⟩))
         have HSN:=aa (fun (N:List (aG×Value)) (hmem:∀p∈N,p∈Lo∨p=P) (p:aG×Value) (hp:p∈N)=>(show 0<p.1.cls∨p.1.map≠[] from by rcases hmem p hp with hp|rfl;exact Uh.out p hp;exact HPS.out));have HS2:=aa hS2;have HSO:=aa hS2.out;have HI:=aa hi;have aoN:Lo.length<=20:=by omega
         have x2:=aB (ah (w:=wm) (.cells #[.slice none 0 0,.slice MO ny MQ] jd)) x0;clear hP hMo hS2 hi;go_wp2_with fail;go_loopw [8,74] (fun dv kv w3=>∃(k:Nat) (dn:Bool) (N:List (aG×Value)) (nv:Value),k<=Lo.length∧dv=.bool dn∧kv=.int .i64 k∧N.length<=k+1∧(dn=false->N.length<=k)∧(∀p∈N,p∈Lo∨p=P)∧w3.ownsRow (wm.heap.size+1) eY 3 nv N.length (N.flatMap fG)∧Is w3 wm.heap.size #[nv,.slice MO ny MQ] jd∧wm.heap.size+1<=w3.heap.size∧Below wm.heap.size wm w3) (fun _ kv _=>Lo.length-(intOf kv).toNat)
         case atStart=>exact ⟨0,false,[],_,ic _,rfl,rfl,by simp,by simp,by simp,iS _ _ _ _,Is.new _ _ _,by simp,ah _⟩
         case round=>
          clear x0 x1 x2 h0 h1 h2;obtain ⟨k,dn,N,nv,hk3,rfl,rfl,hNl,hNd,hmem,hno,hiN,D6,lH⟩:=hrel;obtain ⟨anv,cnv,rfl,_,_⟩:=ak hno;have MR:=aa hmem;have y0:=(HI.out.mono lH).at 0 rfl;have y1:=(HI.out.mono lH).at 1 rfl;have y2:=(HI.out.mono lH).at 2 rfl;clear hmem;by_cases hko:k<Lo.length
          ·obtain ⟨gv,asv,ev,_,hgv,_,hxv⟩:=dC (f:=fG) (fun _=>rfl) rfl HS2.out.MK hko;obtain rfl:YW=some ⟨gv,0,none⟩:=by injection ev
           have z0:wr.cell? ⟨gv,k*3,none⟩=some (.int .i64 Lo[k].1.code):=aB lH (hxv 0 (by omega)).1;have z1:wr.cell? ⟨gv,k*3+1,none⟩=some (.int .i64 Lo[k].1.cls):=aB lH (hxv 1 (by omega)).1;have z2:wr.cell? ⟨gv,k*3+2,none⟩=some Lo[k].2:=aB lH (hxv 2 (by omega)).1;obtain ⟨aq,cq,eq2,_,_⟩:=ak (HS2.out.Ue _ (gw hko));have HLK:=aa (gw hko);generalize Lo[k]=Q at *;obtain ⟨qr,qv⟩:=Q;dsimp only at *;obtain ⟨nq,hnq⟩:=ae qr.map.length;rw [<-hnq] at eq2;subst eq2;have HQ:=aa (show fG (qr,.slice aq nq cq)=[.int .i64 qr.code,.int .i64 qr.cls,.slice aq nq cq] from rfl);have hb1:Below wr.heap.size wr (wr.alloc (.cells #[.int .i64 qr.code,.int .i64 qr.cls,.slice aq nq cq] eY)):=ah _;have iq:Is (wr.alloc (.cells #[.int .i64 qr.code,.int .i64 qr.cls,.slice aq nq cq] eY)) wr.heap.size #[.int .i64 qr.code,.int .i64 qr.cls,.slice aq nq cq] eY:=Is.new _ _ _;have UA:=aa (aH hno hb1);have Oa:=aa (hiN.mono hb1);have n0:=Oa.out.at 0 rfl;have yy0:=aB hb1 y0;have yy1:=aB hb1 y1;have yy2:=aB hb1 y2;have q0:=iq.at 0 rfl;have q1:=iq.at 1 rfl;have q2:=iq.at 2 rfl;have HE1:=aa (af lH hb1);have HBN:=aa (UR hno (d' _));clear hxv ev hnq hno hiN hb1 iq;cases dn with
           | true=>
             go_wp2_with (at_builtin;refine qf (W:=(wr.alloc (.cells #[.int .i64 qr.code,.int .i64 qr.cls,.slice aq nq cq] eY))) rfl _ _ 22 rfl (wm.heap.size+1) eY _ 3 40 qb (by decide) (by decide) (by decide) (by decide) (.slice anv N.length cnv) N.length (N.flatMap fG) rfl UA.out _ (by first|rfl|(simp only [nh];rfl)|(simp [World.setCell];rfl)) rfl (by simp [Value.oneCell']) (by omega) ((wr.alloc (.cells #[.int .i64 qr.code,.int .i64 qr.cls,.slice aq nq cq] eY))) (gS _ _) (by first|omega|(simp;omega)) ?_;intro v8 w8 o8 iH OT O4;have K8:=Oa.out.low iH (by omega);have cK8:=K8.at 0 rfl;have fK8:=K8.frozen 0;obtain ⟨a8,I5,rfl,_,_⟩:=ak o8);go_roundw
             case rel=>
              have Vj:=HE1.out.trans (iH.mono (by omega));refine ⟨k+1,true,N++[(qr,.slice aq nq cq)],_,by omega,rfl,rfl,by simp;omega,by simp,?_,?_,K8.set 0 _,by have:=iH.size;simp at this ⊢;omega,aj Vj (d' _)⟩
              ·intro p hp;rcases ie.1 hp with h|h
               ·exact MR.out p h
               ·rw [gE.1 h];exact .inl HLK.out
              ·have:=bn o8 (aQ o8 (k:=wm.heap.size) (by omega)) 0 (.slice a8 (N.length+1) I5);simpa [j7,fG] using this
             case measure=>simp [intOf];omega
           | false=>
             have alP:N.length<=k:=hNd rfl;by_cases hlt:c<qr.code
             ·go_upto_region 24 with (at_builtin;refine qf (W:=(wr.alloc (.cells #[.int .i64 qr.code,.int .i64 qr.cls,.slice aq nq cq] eY))) rfl _ _ 22 rfl (wm.heap.size+1) eY _ 3 40 qb (by decide) (by decide) (by decide) (by decide) (.slice anv N.length cnv) N.length (N.flatMap fG) rfl UA.out _ (by first|rfl|(simp only [nh];rfl)|(simp [World.setCell];rfl)) rfl (by simp [Value.oneCell']) (by omega) ((wr.alloc (.cells #[.int .i64 qr.code,.int .i64 qr.cls,.slice aq nq cq] eY))) (gS _ _) (by first|omega|(simp;omega)) ?_;intro v8 w8 o8 iH OT O4;have K8:=Oa.out.low iH (by omega);have cK8:=K8.at 0 rfl;have fK8:=K8.frozen 0;obtain ⟨a8,I5,rfl,_,_⟩:=ak o8);have O9:=aa (bn o8 (aQ o8 (k:=wm.heap.size) (by omega)) 0 (.slice a8 (N.length+1) I5));have K9:=aa (K8.set 0 (.slice a8 (N.length+1) I5));have I9:=(((Is.new wr #[.int .i64 qr.code,.int .i64 qr.cls,.slice aq nq cq] eY).grown OT HBN.out)).put (j:=wm.heap.size) (o:=0) (by omega) (.slice a8 (N.length+1) I5);have r0:=I9.at 0 rfl;have r1:=I9.at 1 rfl;have r2:=I9.at 2 rfl;have r3:=K9.out.at 0 rfl;have alQ:=iH.size;simp only [nh] at alQ;have HB8:=aa iH;clear I9 q0 q1 q2 n0 yy0 yy1 yy2 cK8 fK8 K8 o8 OT iH O4;go_wp2_with (at_builtin;refine qf (W:=w8.setCell ⟨wm.heap.size,0,none⟩ (.slice a8 (N.length+1) I5)) rfl _ _ 22 rfl (wm.heap.size+1) eY _ 3 40 qb (by decide) (by decide) (by decide) (by decide) (.slice a8 (N.length+1) I5) (N.length+1) (_) rfl O9.out _ (by first|rfl|(simp only [nh];rfl)|(simp [World.setCell];rfl)) rfl (by simp [Value.oneCell']) (by omega) (w8.setCell ⟨wm.heap.size,0,none⟩ (.slice a8 (N.length+1) I5)) (gS _ _) (by first|omega|(simp;omega)) ?_;intro v9x w9x o9x adZ asA asB;have K9x:=K9.out.low adZ (by omega);have asC:=K9x.at 0 rfl;have asD:=K9x.frozen 0;obtain ⟨a9x,alT,rfl,_,_⟩:=ak o9x);go_roundw
              case rel=>
               have Vj:=HE1.out.trans (HB8.out.mono (by omega));refine ⟨k+1,true,N++[P]++[(qr,.slice aq nq cq)],_,by omega,rfl,rfl,by simp;omega,by simp,?_,?_,K9x.set 0 _,by have:=adZ.size;simp at this ⊢;omega,aj ((aj Vj (d' _)).trans (adZ.mono (by omega))) (d' _)⟩
               ·intro p hp;rcases ie.1 hp with h|h
                ·rcases ie.1 h with h|h
                 ·exact MR.out p h
                 ·rw [gE.1 h];exact .inr rfl
                ·rw [gE.1 h];exact .inl HLK.out
               ·have:=bn o9x (aQ o9x (k:=wm.heap.size) (by omega)) 0 (.slice a9x (N.length+1+1) alT);simpa [j7,fG,HP.out] using this
              case measure=>simp [intOf];omega
             ·go_wp2_with (at_builtin;refine qf (W:=(wr.alloc (.cells #[.int .i64 qr.code,.int .i64 qr.cls,.slice aq nq cq] eY))) rfl _ _ 22 rfl (wm.heap.size+1) eY _ 3 40 qb (by decide) (by decide) (by decide) (by decide) (.slice anv N.length cnv) N.length (N.flatMap fG) rfl UA.out _ (by first|rfl|(simp only [nh];rfl)|(simp [World.setCell];rfl)) rfl (by simp [Value.oneCell']) (by omega) ((wr.alloc (.cells #[.int .i64 qr.code,.int .i64 qr.cls,.slice aq nq cq] eY))) (gS _ _) (by first|omega|(simp;omega)) ?_;intro v8 w8 o8 iH OT O4;have K8:=Oa.out.low iH (by omega);have cK8:=K8.at 0 rfl;have fK8:=K8.frozen 0;obtain ⟨a8,I5,rfl,_,_⟩:=ak o8);go_roundw
              case rel=>
               have Vj:=HE1.out.trans (iH.mono (by omega));refine ⟨k+1,false,N++[(qr,.slice aq nq cq)],_,by omega,rfl,rfl,by simp;omega,by simp;omega,?_,?_,K8.set 0 _,by have:=iH.size;simp at this ⊢;omega,aj Vj (d' _)⟩
               ·intro p hp;rcases ie.1 hp with h|h
                ·exact MR.out p h
                ·rw [gE.1 h];exact .inl HLK.out
               ·have:=bn o8 (aQ o8 (k:=wm.heap.size) (by omega)) 0 (.slice a8 (N.length+1) I5);simpa [j7,fG] using this
              case measure=>simp [intOf];omega
          ·have hke:k=Lo.length:=by omega
           have UA:=aa hno;have Oa:=aa hiN;have n0:=hiN.at 0 rfl;have n1:=hiN.at 1 rfl;have HE1:=aa lH;clear hno hiN;cases dn with
           | true=>
             have hlen:N.length<=Lo.length+1:=by omega
             clear hke;have CK:=aa (CKF.out wr N (.slice anv N.length cnv) _ UA.out HE1.out MR.out (by omega));go_wp2_with fail;refine CK.out.mono ?_;rintro e w9 ⟨s,rfl,hs,h9⟩;have HSV:=aa hs;have iO:=(HSO.out.mono HE1.out).mono h9;have p0:=iO.at 0 rfl;have p1:=iO.frozen 0;have p2:=fun u=>(iO.set 0 u).at 1 rfl;have p3:=fun u=>(iO.set 0 u).frozen 1;have p4:=aB h9 n0;have p5:=aB h9 n1;have XX:=aa (HE1.out.trans (h9.mono HE1.out.size));have hsE:=XX.out.size;clear hs;by_cases hse:s=⟨#[]⟩
             ·subst hse;have zs:=QS;go_wp2;go_roundw
              case rel=>
               exact ⟨j+1,_,N,by omega,rfl,ab0.out w9 XX.out (.slice anv N.length cnv) N (aT (aH UA.out h9) (by omega)) MR.out,HCN.out N MR.out,HSV.out (by trivial),HSN.out N MR.out,by omega,by simp;omega,aj (aj (hB2.trans (XX.out.mono hB2.size)) (by omega)) (by omega)⟩
              case measure=>simp [intOf];omega
             ·have zs:=MM hse;go_wp2;go_roundw
              case rel=>exact ⟨j+1,_,Lo,by omega,rfl,HS2.out.ext XX.out,vH.out,HV.out,Uh.out,by omega,by omega,hB2.trans (XX.out.mono hB2.size)⟩
              case measure=>simp [intOf];omega
           | false=>
             have alP:N.length<=k:=hNd rfl;go_upto_region 28 with (at_builtin;refine qf (W:=wr) rfl _ _ 22 rfl (wm.heap.size+1) eY _ 3 40 qb (by decide) (by decide) (by decide) (by decide) (.slice anv N.length cnv) N.length (N.flatMap fG) rfl UA.out _ (by first|rfl|(simp only [nh];rfl)|(simp [World.setCell];rfl)) rfl (by simp [Value.oneCell']) (by omega) (wr) (gS _ _) (by first|omega|(simp;omega)) ?_;intro v8 w8 o8 iH OT O4;have K8:=Oa.out.low iH (by omega);have cK8:=K8.at 0 rfl;have fK8:=K8.frozen 0;obtain ⟨a8,I5,rfl,_,_⟩:=ak o8)
             have D9:=aa (show ∀p∈N++[P],p∈Lo∨p=P from fun p hp=>by
              rcases ie.1 hp with h|h
              ·exact MR.out p h
              ·rw [gE.1 h];exact .inr rfl)
             have Yi:=aa (show (w8.setCell ⟨wm.heap.size,0,none⟩ (.slice a8 (N.length+1) I5)).ownsRow (wm.heap.size+1) eY 3 (.slice a8 (N.length+1) I5) (N++[P]).length ((N++[P]).flatMap fG) from by
              have:=bn o8 (aQ o8 (k:=wm.heap.size) (by omega)) 0 (.slice a8 (N.length+1) I5)
              simpa [j7,fG,HP.out] using this)
             have HE2:=aa (aj (b:=wm.heap.size) (off:=0) (u:=.slice a8 (N.length+1) I5) (HE1.out.trans (iH.mono (by omega))) (d' _));have K9:=K8.set 0 (.slice a8 (N.length+1) I5);have n0:=K9.at 0 rfl;have n1:=K9.at 1 rfl;have hlen:(N++[P]).length<=Lo.length+1:=by simp;omega
             clear hke y0 y1 y2 cK8 fK8 K8 o8 OT iH O4 K9;have CK:=aa (CKF.out (w8.setCell ⟨wm.heap.size,0,none⟩ (.slice a8 (N.length+1) I5)) (N++[P]) (.slice a8 (N.length+1) I5) _ Yi.out HE2.out D9.out (by omega));go_wp2_with fail;refine CK.out.mono ?_;rintro e w9 ⟨s,rfl,hs,h9⟩;have HSV:=aa hs;have iO:=(HSO.out.mono HE2.out).mono h9;have p0:=iO.at 0 rfl;have p1:=iO.frozen 0;have p2:=fun u=>(iO.set 0 u).at 1 rfl;have p3:=fun u=>(iO.set 0 u).frozen 1;have p4:=aB h9 n0;have p5:=aB h9 n1;have XX:=aa (HE2.out.trans (h9.mono HE2.out.size));have hsE:=XX.out.size;clear hs;by_cases hse:s=⟨#[]⟩
             ·subst hse;have zs:=QS;go_wp2;go_roundw
              case rel=>
               exact ⟨j+1,_,(N++[P]),by omega,rfl,ab0.out w9 XX.out (.slice a8 (N.length+1) I5) (N++[P]) (aT (aH Yi.out h9) (by omega)) D9.out,HCN.out (N++[P]) D9.out,HSV.out (by trivial),HSN.out (N++[P]) D9.out,by omega,by simp;omega,aj (aj (hB2.trans (XX.out.mono hB2.size)) (by omega)) (by omega)⟩
              case measure=>simp [intOf];omega
             ·have zs:=MM hse;go_wp2;go_roundw
              case rel=>exact ⟨j+1,_,Lo,by omega,rfl,HS2.out.ext XX.out,vH.out,HV.out,Uh.out,by omega,by omega,hB2.trans (XX.out.mono hB2.size)⟩
              case measure=>simp [intOf];omega
  ·have hnj:n=j:=by omega
   obtain ⟨YW,cov,rfl,_,_⟩:=ak hS.MK;have o0:=hS.out.at 0 rfl;have o1:=hS.out.at 1 rfl;have r0:=hS.res.at 0 rfl;have r1:=hS.res.frozen 0;have r2:=fun u=>(hS.res.set 0 u).at 1 rfl;have r3:=fun u=>(hS.res.set 0 u).frozen 1;have K:=(hS.res.set 0 (.slice YW Lo.length cov)).set 1 (.slice MO ny MQ);have v0:=K.at 0 rfl;have v1:=K.at 1 rfl;have PP:∀{B m s:Nat} {e:TypeId} {v:Value} {xs:List Value},w.heap.size+1<B->wr.ownsRow B e s v m xs->((wr.setCell ⟨w.heap.size+1,0,none⟩ (.slice YW Lo.length cov)).setCell ⟨w.heap.size+1,1,none⟩ (.slice MO ny MQ)).ownsRow B e s v m xs:=fun hB ho=>bn (bn ho (aQ ho hB) _ _) (aQ ho hB) _ _;have HT:=aa (jq.QQ (PP (by omega) hS.MK) (fun p hp=>PP (by omega) (hS.Ue p hp)) (PP (by omega) hS.xs));have HB:=aa (aj (aj hB (b:=w.heap.size+1) (off:=0) (u:=.slice YW Lo.length cov) (by omega)) (b:=w.heap.size+1) (off:=1) (u:=.slice MO ny MQ) (by omega));have HV:=aa hV;have Uh:=aa Bv;clear K PP hS hC hV Bv hB;go_wp2
   (try simp only [Exit.inBlock,Exit.then])
   refine bodyPost_ret (v:=.agg #[.slice YW Lo.length cov,.slice MO ny MQ]) (by simp [results,results76,go_sem,v0,v1]) rfl ?_;exact ⟨_,Lo.map Prod.fst,Y,rfl,HT.out,HV.out,fun q hq=>by obtain ⟨p,hp,rfl⟩:=j8.1 hq;exact Uh.out p hp,by rw [iz];omega,by have:=HNY.out;omega,M5.out,HB.out⟩
def Gm:∀(i c:Nat),jw (i+1) c=lJ (c / 16 ^ i % 16)::jw i c
 | 0,c=>by simp[jw]
 | i+1,c=>by
   have h:=Gm i (c / 16);rw[mN,show 16*16 ^ i=16 ^ (i+1) by rw[my,m_]] at h;show jw (i+1) (c / 16)++[lJ (c % 16)]=_;rw[h];rfl
def Ui {c i:Nat} (d:c<1114112) (j:4<=i) (h0:c / 16 ^ i=0) (a:i<=4\/16 ^ (i-1)<=c):j6 c=i:=by
 have b:c<16 ^ i:=by
  rcases Nat.div_eq_zero_iff.1 h0 with h|h
  ·exact absurd h (Nat.pos_iff_ne_zero.1 (tc (by omega)))
  exact h
 have e:(16:Nat) ^ 4=65536:=by decide
 have g:(16:Nat) ^ 5=1048576:=by decide
 have f:(16:Nat) ^ 6=16777216:=by decide
 unfold j6;rcases ki i 7 with h7|h7
 ·have:i=4\/i=5\/i=6:=by omega
  rcases this with rfl|rfl|rfl
  ·rw[if_pos (by omega)]
  ·rw[if_neg (by rcases a with h|h <;> simp at h⊢ <;> omega),if_pos (by omega)]
  rw[if_neg (by rcases a with h|h <;> simp at h⊢ <;> omega),if_neg (by rcases a with h|h <;> simp at h⊢ <;> omega)]
 rcases a with h|h
 ·omega
 have:(16:Nat) ^ 6<=16 ^ (i-1):=kj (by decide) (by omega);omega
def mq (c:Nat) (u:c<1114112) :
 Calls prog 121 #[.int .i64 c] w λe w'=>e=.returned (.string (tx (aV c)))/\Below w.heap.size w w':=by
 have x:=aa (show ∀i,(tx (jw i c)).size=i from λi=>by rw[aX,qH]);have G:=aa (show ∀i,c / 16 ^ (i+1)=c / 16 ^ i / 16 from λi=>by rw[mN,my]);have J:=aa (show ∀i,tx (jw (i+1) c)=tx [lJ (c / 16 ^ i % 16)]++tx (jw i c) from λi=>by rw[dA,Gm];rfl);have A:=aa (show ∀i,4<=i->c / 16 ^ i=0->(i<=4\/16 ^ (i-1)<=c)->tx (jw i c)=tx (aV c) from λi L h0 H=>by unfold aV;rw[Ui u L h0 H]);have v:=aa (show ∀i,0<c / 16 ^ i->16 ^ i<=c from λi h=>sB λt=>by rw[pC t] at h;omega)
 have F:=aa (show ∀i,(i<=4\/16 ^ (i-1)<=c)->i<=6 from λi h=>by
  rcases h with h|h
  ·omega
  refine sB λt=>?_;have:(16:Nat) ^ 6<=16 ^ (i-1):=kj (by decide) (by omega);have:(16:Nat) ^ 6=16777216:=by decide
  omega)
 have B:=aa (show ∀i,c / 16 ^ i<1114112 from λi=>lp (tR _ _) u);go_enter func121,ntmps121;go_wp2_with fail;go_loopw [0,3,4] (λnv I p wr=>∃i:Nat,i<=6/\(i<=4\/16 ^ (i-1)<=c)/\nv=.int .i64 ((c / 16 ^ i:Nat):Int)/\I=.string (tx (jw i c))/\p=.int .i64 i/\Below w.heap.size w wr) (λ_ _ p _=>7-(intOf p).toNat)
 case atStart=>exact⟨0,by decide,.inl (by decide),by simp,rfl,rfl,gS _ _⟩
 case round=>
  obtain⟨i,T,l,rfl,rfl,rfl,g⟩:=hrel;have O:=aa l;have:=x.out i;have hd:=aa (G.out i);have o:=aa (J.out i);have K:=aa (v.out i);have C:=aa (A.out i);have:=B.out i;have M:=aa (F.out (i+1));clear l;generalize y:c / 16 ^ i=N at *;generalize tx (jw i c)=S at *;clear y;by_cases a:i<4\/0<N
  ·have r:i+1<=4\/16 ^ (i+1-1)<=c:=by
    rcases a with h|h
    ·exact .inl h
    exact .inr (K.out h)
   have n:i+1<=6:=M.out r;have b:=aa r;clear r;by_cases m:N % 16<10
   ·have f:=lI wr #[.int .u8 (48+(N:Int) % 16)] 1 [48+N % 16] rfl (by simp[mR]) (λd hd=>by rw[gE.1 hd];omega);have q:str [48+N % 16]=tx [lJ (N % 16)]:=by rw[Nn];unfold lJ;rw[if_pos m];rfl
    rw[q] at f;have z:(tx [lJ (N % 16)]).size=1:=by rw[aX];rfl
    have j:=ah (w:=wr) (.cells #[.int .u8 (48+(N:Int) % 16)] tF);generalize tx [lJ (N % 16)]=D at *;by_cases k:i<4
    ·clear a;go_wp2;go_roundw
     case rel=>exact⟨i+1,n,b.out,by rw[hd.out];simp,by rw[o.out],rfl,af g j⟩
     case measure=>simp[intOf];omega
    have s:0<N:=by omega
    clear a;go_wp2;go_roundw
    case rel=>exact⟨i+1,n,b.out,by rw[hd.out];simp,by rw[o.out],rfl,af g j⟩
    case measure=>simp[intOf];omega
   have f:=lI wr #[.int .u8 (55+(N:Int) % 16)] 1 [55+N % 16] rfl (by simp[mR]) (λd hd=>by rw[gE.1 hd];omega);have q:str [55+N % 16]=tx [lJ (N % 16)]:=by rw[Nn];unfold lJ;rw[if_neg m];rfl
   rw[q] at f;have z:(tx [lJ (N % 16)]).size=1:=by rw[aX];rfl
   have j:=ah (w:=wr) (.cells #[.int .u8 (55+(N:Int) % 16)] tF);generalize tx [lJ (N % 16)]=D at *;by_cases k:i<4
   ·clear a;go_wp2;go_roundw
    case rel=>exact⟨i+1,n,b.out,by rw[hd.out];simp,by rw[o.out],rfl,af g j⟩
    case measure=>simp[intOf];omega
   have s:0<N:=by omega
   clear a;go_wp2;go_roundw
   case rel=>exact⟨i+1,n,b.out,by rw[hd.out];simp,by rw[o.out],rfl,af g j⟩
   case measure=>simp[intOf];omega
  obtain rfl:N=0:=by omega
  have:=C.out (by omega) rfl O.out;have k:¬i<4:=by omega
  clear a;go_wp2;go_ret;exact⟨rfl,g⟩
def yR:Nat->Nat->List UInt8
 | 0,_=>[]
 | i+1,n=>UInt8.ofNat (48+n / 10 ^ i % 10)::yR i n
def MS:∀i n,(yR i n).length=i
 | 0,_=>rfl
 | i+1,n=>by simp[yR,MS i]
def aa7 {n i:Nat} (d:n<1000) (c:1<=i) (h0:n / 10 ^ i=0) (b:i<=1\/10 ^ (i-1)<=n):yR i n=iP n:=by
 have a:n<10 ^ i:=by
  rcases Nat.div_eq_zero_iff.1 h0 with h|h
  ·exact absurd h (Nat.pos_iff_ne_zero.1 (tc (by omega)))
  exact h
 unfold iP;rcases ki i 4 with h7|h7
 ·have:i=1\/i=2\/i=3:=by omega
  rcases this with rfl|rfl|rfl
  ·simp at a;rw[if_pos a];simp[yR,rH a]
  ·simp at a b;rw[if_neg (by omega),if_pos a];simp[yR,show n / 10 % 10=n / 10 by omega]
  simp at a b;rw[if_neg (by omega),if_neg (by omega)];simp[yR,show n / 100 % 10=n / 100 by omega]
 rcases b with h|h
 ·omega
 have:(10:Nat) ^ 3<=10 ^ (i-1):=kj (by decide) (by omega);omega
def El (c:Nat) (r:c<1000) :
 Calls prog 203 #[.int .i64 c] w λe w'=>e=.returned (.string (tx (iP c)))/\Below w.heap.size w w':=by
 have t:=aa (show ∀i,(tx (yR i c)).size=i from λi=>by rw[aX,MS]);have C:=aa (show ∀i,c / 10 ^ (i+1)=c / 10 ^ i / 10 from λi=>by rw[mN,my]);have H:=aa (show ∀i,tx (yR (i+1) c)=tx [UInt8.ofNat (48+c / 10 ^ i % 10)]++tx (yR i c) from λi=>by rw[dA];rfl);have v:=aa (show ∀i,1<=i->c / 10 ^ i=0->(i<=1\/10 ^ (i-1)<=c)->tx (yR i c)=tx (iP c) from λi K h0 F=>by rw[aa7 r K h0 F]);have s:=aa (show ∀i,0<c / 10 ^ i->10 ^ i<=c from λi h=>sB λn=>by rw[pC n] at h;omega)
 have B:=aa (show ∀i,(i<=1\/10 ^ (i-1)<=c)->i<=3 from λi h=>by
  rcases h with h|h
  ·omega
  refine sB λn=>?_;have:(10:Nat) ^ 3<=10 ^ (i-1):=kj (by decide) (by omega)
  omega)
 have y:=aa (show ∀i,c / 10 ^ i<1000 from λi=>lp (tR _ _) r);go_enter func203,ntmps203;go_wp2_with fail;go_loopw [0,3,4] (λnv G j wr=>∃i:Nat,i<=3/\(i<=1\/10 ^ (i-1)<=c)/\nv=.int .i64 ((c / 10 ^ i:Nat):Int)/\G=.string (tx (yR i c))/\j=.int .i64 i/\Below w.heap.size w wr) (λ_ _ j _=>4-(intOf j).toNat)
 case atStart=>exact⟨0,by decide,.inl (by decide),by simp,rfl,rfl,gS _ _⟩
 case round=>
  obtain⟨i,Q,f,rfl,rfl,rfl,g⟩:=hrel;have M:=aa f;have:=t.out i;have hd:=aa (C.out i);have q:=aa (H.out i);have I:=aa (s.out i);have A:=aa (v.out i);have:=y.out i;have L:=aa (B.out (i+1));clear f;generalize u:c / 10 ^ i=N at *;generalize tx (yR i c)=S at *;clear u;by_cases a:i=0\/0<N
  ·have l:i+1<=1\/10 ^ (i+1-1)<=c:=by
    rcases a with h|h
    ·exact .inl (by omega)
    exact .inr (I.out h)
   have p:i+1<=3:=L.out l;have b:=aa l;clear l;have m:=lI wr #[.int .u8 (48+(N:Int) % 10)] 1 [48+N % 10] rfl (by simp[mR]) (λd hd=>by rw[gE.1 hd];omega);have x:str [48+N % 10]=tx [UInt8.ofNat (48+N % 10)]:=rfl;rw[x] at m;have:(tx [UInt8.ofNat (48+N % 10)]).size=1:=by rw[aX];rfl
   have o:=ah (w:=wr) (.cells #[.int .u8 (48+(N:Int) % 10)] tF);generalize tx [UInt8.ofNat (48+N % 10)]=D at *;by_cases k:i=0
   ·have z:((i:Int)==0)=true:=by simp;omega
    clear a;go_wp2;go_roundw
    case rel=>exact⟨i+1,p,b.out,by rw[hd.out];simp,by rw[q.out],by (first|rfl|(subst k;rfl)),af g o⟩
    case measure=>simp[intOf];omega
   have:0<N:=by omega
   have z:((i:Int)==0)=false:=by simp;omega
   clear a;go_wp2;go_roundw
   case rel=>exact⟨i+1,p,b.out,by rw[hd.out];simp,by rw[q.out],rfl,af g o⟩
   case measure=>simp[intOf];omega
  obtain rfl:N=0:=by omega
  have:=A.out (by omega) rfl M.out;have z:((i:Int)==0)=false:=by simp;omega
  clear a;go_wp2;go_ret;exact⟨rfl,g⟩
def Gn:∀(l:List Nat) (c:Nat),dD (l++[c])=if l=[] then aV c else dD l++32::aV c
 | [],c=>rfl
 | [a],c=>rfl
 | a::b::l,c=>by
   have d:=Gn (b::l) c;rw[if_neg (by simp)] at d⊢;show aV a++32::dD (b::l++[c])=aV a++32::dD (b::l)++32::aV c;rw[d];simp
def zY:∀l:List Nat,(dD l).length<=7*l.length
 | []=>by simp[dD]
 | [c]=>by have:=bU c;simp only[dD,qS];omega
 | c::d::l=>by
   have:=bU c;have a:=zY (d::l);simp only[dD,gn,im] at a⊢;omega
def aa8 (a b c:List UInt8):tx a++tx b++tx c=tx (a++b++c):=by rw[dA,dA]
def MU {m:Value} (r:aG) (T:bG w m (ints r.map)) (y:r.code<1114112) (v:r.cls<1000) (kz:r.map.length<=4) (l:∀x∈r.map,x<1114112) :
 Calls prog 165 #[.agg #[.int .i64 r.code,.int .i64 r.cls,m]] w λe w'=>e=.returned (.string (tx (kD r)))/\Below w.heap.size w w':=by
 obtain⟨n,A⟩:=ae r.map.length;obtain⟨V,I,rfl,_,u⟩:=bG.nO T A;have Z:=aa u;have P:=aa A;have HX:=aa l;have HT:=aa (λ(W:World) (x:Nat) (h:x<1114112)=>mq (w:=W) x h);have O:=aa (λ(W:World)=>El (w:=W) r.cls v);have t:=aa (λ(W:World)=>mq (w:=W) r.code y);have R:=aa (show ∀j,(tx (dD (r.map.take j))).size<=7*j from λj=>by rw[aX];have:=zY (r.map.take j);rw[jn] at this;omega);have L:=aa (show ∀c,(tx (aV c)).size<=6 from λc=>by rw[aX];exact(bU c).2);have B:=aa (show(tx (iP r.cls)).size<=3 from by rw[aX];exact(vY r.cls).2)
 have HL:=aa (show tx (aV r.code)++tx [59,88,59,59]++tx (iP r.cls)++tx [59,59]++tx (dD r.map)++tx [59,59,59,59,59,59,59,59,59]=tx (kD r) from by
  unfold kD;rw[dA,dA,dA,dA,dA])
 obtain⟨d,a⟩:∃c:Nat,c=r.code:=⟨_,rfl⟩;obtain⟨g,f⟩:∃c:Nat,c=r.cls:=⟨_,rfl⟩;rw[<-A] at kz;rw[<-a,<-f];rw[<-a] at t;rw[<-f] at O;obtain⟨s,o⟩:=ae (w.alloc (.cells #[.int .i64 d,.int .i64 g,.slice V n I] eY));have hb:=aO o;have d0:s.cell? ⟨w.heap.size,0,none⟩=some (.int .i64 d):=by rw[o];unfold World.cell?;rw[heap_alloc_new];rfl
 have d1:s.cell? ⟨w.heap.size,1,none⟩=some (.int .i64 g):=by rw[o];unfold World.cell?;rw[heap_alloc_new];rfl
 have d2:s.cell? ⟨w.heap.size,2,none⟩=some (.slice V n I):=by rw[o];unfold World.cell?;rw[heap_alloc_new];rfl
 have HC:=aa a;have q:=aa f;clear T u A l y v a f;go_enter func165,ntmps165;go_wp2_with fail;rw[<-o];clear o;go_wp2_with fail;go_loopw [3,9] (λsv E wr=>∃j:Nat,j<=n/\E=.int .i64 j/\sv=.string (tx (dD (r.map.take j)))/\Below s.heap.size s wr) (λ_ E _=>n-(intOf E).toNat)
 case atStart=>exact⟨0,ic _,rfl,rfl,gS _ _⟩
 case round=>
  obtain⟨j,hj,rfl,rfl,p⟩:=hrel;have C:=af hb p;by_cases ac:j<n
  ·have k:j<r.map.length:=by have:=P.out;omega
   obtain⟨b,off,rfl,ad,y⟩:=Z.out j k;have y:=aB C y;have l:=HX.out _ (gw k);have z:=aa (show dD (r.map.take (j+1))=if r.map.take j=[] then aV r.map[j] else dD (r.map.take j)++32::aV r.map[j] by rw[gR k,Gn]);have s1:=R.out j;have s2:=L.out r.map[j];generalize r.map[j]=x at *;have J:=aa (λ(W:World)=>HT.out W x l);by_cases i:j=0
   ·have G:=aa (show tx ([]:List UInt8)++tx (aV x)=tx (dD (r.map.take (j+1))) by rw[z.out,if_pos (by rw[i];rfl),dA];rfl);have K:dD (r.map.take j)=[]:=by rw[i];rfl
    rw[K] at s1⊢;generalize tx (aV x)=U at *;have X:(tx ([]:List UInt8)).size=0:=rfl;generalize tx ([]:List UInt8)=S at *;have j0:¬0<j:=by omega
    clear z K l i;go_wp2_with fail;refine(J.out _).mono ?_;rintro e w2⟨rfl,F⟩;go_wp2;go_roundw
    case rel=>exact⟨j+1,by omega,rfl,congrArg Value.string G.out,af p F⟩
    case measure=>simp[intOf];omega
   have G:=aa (show tx (dD (r.map.take j))++tx [32]++tx (aV x)=tx (dD (r.map.take (j+1))) by
    rw[z.out,if_neg (λh=>by have:=congrArg List.length h;rw[jn,kp] at this;omega),aa8];simp)
   generalize tx (aV x)=U at *;generalize tx (dD (r.map.take j))=S at *;have j0:0<j:=by omega
   have z0:(tx [32]).size=1:=rfl;have X:(S++tx [32]).size=S.size+1:=by rw[ByteArray.size_append];rfl
   clear z l;go_wp2_with fail;refine(J.out _).mono ?_;rintro e w2⟨rfl,F⟩;go_wp2;go_roundw
   case rel=>exact⟨j+1,by omega,rfl,congrArg Value.string G.out,af p F⟩
   case measure=>simp[intOf];omega
  obtain rfl:j=n:=by omega
  have sm:=R.out j;rw[iu (by rw[P.out];exact d' _)] at sm⊢;have e0:=aB p d0;have e1:=aB p d1;have g0:=Gr.cell (ag wr) e0;have g1:=Gr.cell (ag wr) e1;have sh:=L.out d;have Y:=B.out;rw[<-q.out] at Y;have H:=aa (show tx (aV d)++tx [59,88,59,59]++tx (iP g)++tx [59,59]++tx (dD r.map)++tx [59,59,59,59,59,59,59,59,59]=tx (kD r) by rw[HC.out,q.out];exact HL.out);generalize tx (aV d)=U at *;generalize tx (iP g)=D at *;generalize tx (dD r.map)=M at *;have q1:¬9223372036854775807<U.size+4:=by omega
  have q2:¬9223372036854775807<U.size+4+D.size:=by omega
  have q3:¬9223372036854775807<U.size+4+D.size+2:=by omega
  have q4:¬9223372036854775807<U.size+4+D.size+2+M.size:=by omega
  have q5:¬9223372036854775807<U.size+4+D.size+2+M.size+9:=by omega
  go_wp2_with fail;refine aC (Array.replicate 13 true) 13 0 mixed ?_;refine ay [0,1,4,5,9] 8 ?_
  iterate 5 (refine aA rfl ?_;go_big_quiet_step (rfl))
  refine az ?_;refine aI 2 ?_;go_wp2_with fail;refine(t.out _).mono ?_;rintro e ab⟨rfl,Q⟩;go_wp2_with fail;refine aF Q ?_;refine ay [3] 6 ?_
  iterate 1 (refine aA rfl ?_;go_big_quiet_step (rfl))
  refine az ?_;refine aI 6 ?_;go_wp2_with fail;refine(O.out _).mono ?_;rintro e Oi⟨rfl,N⟩;go_wp2_with fail;refine aF N ?_;refine ay [7,8,10,11,12] 0 ?_
  iterate 5 (refine aA rfl ?_;go_big_quiet_step (rfl))
  refine az ?_;refine aJ [] ?_;refine tail_nil ?_;go_wp2;go_ret;exact⟨congrArg (λx=>Ending.returned (.string x)) H.out,C.trans ((af (af (ag wr) Q) N).mono C.size)⟩
def zZ (l:List (List UInt8)) (x:List UInt8):bA (l++[x])=bA l++(x++[10]):=by simp[bA]
def I6 (h:∀r∈T,r.map.length<=2):(iV T).length<=38*T.length:=by
 induction T with
 | nil=>simp[iV,bA]
 | cons r T ih=>
   have:=EY (h r (nF ..));have a:=ih λq b=>h q (kq _ b);simp only[iV,bA,lj,jx,gn,im,kp] at a⊢;omega
def MV (h:y8 w v T) (o:∀r∈T,r.code<1114112/\r.cls<1000/\r.map.length<=2/\∀x∈r.map,x<1114112) (F:T.length<1000000) :
 Calls prog 122 #[v] w λe w'=>e=.returned (.string (tx (iV T)))/\Below w.heap.size w w':=by
 obtain⟨a,cap,rfl,_,p⟩:=h;obtain⟨n,k⟩:=ae T.length;rw[<-k] at F⊢;have u:=aa k;have M:=aa p;have P:=aa o;have J:=aa (show ∀j,(tx (iV (T.take j))).size<=38*j from λj=>by rw[aX];have:=I6 (T:=T.take j) (λr L=>(o r (rj L)).2.2.1);rw[jn] at this;omega);clear p k o;go_enter func122,ntmps122;go_wp2_with fail;go_loopw [3,8] (λI i wr=>∃j:Nat,j<=n/\i=.int .i64 j/\I=.string (tx (iV (T.take j)))/\Below w.heap.size w wr) (λ_ i _=>n-(intOf i).toNat)
 case atStart=>exact⟨0,ic _,rfl,rfl,gS _ _⟩
 case round=>
  obtain⟨j,V,rfl,rfl,d⟩:=hrel;by_cases K:j<n
  ·have c:j<T.length:=by have:=u.out;omega
   obtain⟨b,off,m,rfl,O,y,t,z,g⟩:=M.out j c;have y:=aB d y;have t:=aB d t;have z:=aB d z;have g:=g.mono d;obtain⟨B,l,D,A⟩:=P.out _ (gw c)
   have H:=aa (show tx (iV (T.take j))++(tx (kD T[j])++tx [10])=tx (iV (T.take (j+1))) by
    rw[dA,dA,gR c];unfold iV;rw[j5,yi,zZ])
   have s1:=J.out j;have s2:(tx (kD T[j])).size<=37:=by rw[aX];exact EY D
   generalize T[j]=q at *;have G:=aa (λ(W:World) (E:Below wr.heap.size wr W)=>MU (w:=W) q (g.mono E) B l (by omega) A);obtain⟨nm,f⟩:=ae q.map.length;obtain⟨N,C,rfl,_,_⟩:=bG.nO g f;generalize tx (kD q)=U at *;generalize tx (iV (T.take j))=S at *;have R:¬9223372036854775807<U.size+1:=by omega
   have X:¬9223372036854775807<S.size+(U.size+1):=by omega
   have s:=ah (w:=wr) (.cells #[.int .i64 q.code,.int .i64 q.cls,.slice N nm C] eY);clear g f A;go_wp2_with fail;refine(G.out _ s).mono ?_;rintro e Q⟨rfl,l⟩;go_wp2;go_roundw
   case rel=>exact⟨j+1,by omega,rfl,congrArg Value.string H.out,af d (af s l)⟩
   case measure=>simp[intOf];omega
  obtain rfl:j=n:=by omega
  rw[iu (by rw[u.out];exact d' _)];go_wp2;go_ret;exact⟨rfl,d⟩
def Dr:∀(l s:List Nat) (c:Nat),dW s (l++[c])=if c∈s++l then dW s l else dW s l++[c]
 | [],s,c=>by
   by_cases h:c∈s
   ·simp[dW,h]
   simp[dW,h]
 | a::l,s,c=>by
   have b:=Dr l (s++[a]) c;have e:c∈s++[a]++l↔c∈s++a::l:=by simp
   show(if a∈s then dW (s++[a]) (l++[c]) else a::dW (s++[a]) (l++[c]))=_;show _=if c∈s++a::l then (if a∈s then dW (s++[a]) l else a::dW (s++[a]) l) else (if a∈s then dW (s++[a]) l else a::dW (s++[a]) l)++[c];rw[b];by_cases h:c∈s++a::l
   ·rw[if_pos (e.2 h),if_pos h]
   rw[if_neg (λx=>h (e.1 x)),if_neg h]
   split <;> rfl
def Gp:∀(l s:List Nat),(dW s l).length<=l.length
 | [],_=>d' _
 | a::l,s=>by
   have:=Gp l (s++[a]);unfold dW
   split
   ·simp only[im];omega
   simp only[im];omega
def I7 (X:List Nat):(eP X).length<=7*X.length:=by
 have h:∀l:List Nat,(bA (l.map aV)).length<=7*l.length:=by
  intro l
  induction l with
  | nil=>simp[bA]
  | cons c l ih=>
    have:=bU c;simp only[bA,lj,jx,gn,im,kp] at ih⊢;omega
 have:=h (dW [] X);have:=Gp X [];unfold eP;omega
def PZ (l:List Nat) (c:Nat):eP (l++[c])=if c∈l then eP l else eP l++(aV c++[10]):=by
 unfold eP;rw[Dr,lf]
 split
 ·rfl
 rw[j5,yi,zZ]
def XY {X:List Nat} (h:jq w v T X) (Y:∀r∈T,r.code<1114112/\r.cls<1000/\r.map.length<=2/\∀x∈r.map,x<1114112) (N:T.length<1000000) (Q:∀x∈X,x<1114112) (Yk:X.length<1000000) :
 Calls prog 77 #[v] w λe w'=>e=.returned (.tuple #[.string (tx (iV T)),.string (tx (eP X))])/\Below w.heap.size w w':=by
 obtain⟨r,x,rfl,Z,m⟩:=h;have P:=aa Z;obtain⟨a,cap,rfl,_,_⟩:=Z;obtain⟨nt,q⟩:∃n,n=T.length:=⟨_,rfl⟩;rw[<-q] at P⊢;obtain⟨n,A⟩:=ae X.length;obtain⟨O,M,rfl,ab,R⟩:=bG.nO m A;have J:=aa A;have HX:=aa R;have H:=aa Q;have TX:=aa (λ(W:World) (E:Below w.heap.size w W)=>MV (P.out.mono E) Y N);have HT:=aa (λ(W:World) (x:Nat) (h:x<1114112)=>mq (w:=W) x h);have HS:=aa (show ∀j,(tx (eP (X.take j))).size<=7*j from λj=>by rw[aX];have:=I7 (X.take j);rw[jn] at this;omega);have HH:=aa (show ∀c,(tx (aV c)).size<=6 from λc=>by rw[aX];exact(bU c).2);obtain⟨s,o⟩:=ae (w.alloc (.cells #[.slice a nt cap,.slice O n M] 25));have hb:=aO o;have d0:s.cell? ⟨w.heap.size,0,none⟩=some (.slice a nt cap):=by rw[o];unfold World.cell?;rw[heap_alloc_new];rfl
 have d1:s.cell? ⟨w.heap.size,1,none⟩=some (.slice O n M):=by rw[o];unfold World.cell?;rw[heap_alloc_new];rfl
 rw[<-A] at Yk;clear m R A Y Q q N;go_enter func77,ntmps77;go_wp2_with fail;rw[<-o];clear o;go_wp2_with fail;go_loopw [4,13] (λsv B wr=>∃j:Nat,j<=n/\B=.int .i64 j/\sv=.string (tx (eP (X.take j)))/\Below s.heap.size s wr) (λ_ B _=>n-(intOf B).toNat)
 case atStart=>exact⟨0,ic _,rfl,rfl,gS _ _⟩
 case round=>
  obtain⟨j,hj,rfl,rfl,i⟩:=hrel;have l:=af hb i;have e1:=aB i d1;by_cases ad:j<n
  ·have g:j<X.length:=by have:=J.out;omega
   obtain⟨b,off,rfl,ag,V⟩:=HX.out j g;have V:=aB l V;have m:=H.out _ (gw g);have u:=aa (show eP (X.take (j+1))=if X[j]∈X.take j then eP (X.take j) else eP (X.take j)++(aV X[j]++[10]) by rw[gR g,PZ]);have s1:=HS.out j;have s2:=HH.out X[j];generalize X[j]=x at *;have mH:=aa (λ(W:World)=>HT.out W x m);obtain⟨wo,ku⟩:∃w',w'=wr:=⟨_,rfl⟩;subst ku;clear m;go_wp2_with fail;go_loopw [7,23] (λdv D w2=>∃(k:Nat) (d:Bool),k<=j/\D=.int .i64 k/\dv=.bool d/\(d=true↔x∈X.take k)/\w2=wo) (λ_ D _=>j-(intOf D).toNat)
   case atStart=>exact⟨0,false,ic _,rfl,rfl,by simp,(by first|rfl|trivial)⟩
   case round=>
    obtain⟨k,d,hk,rfl,rfl,hd,rfl⟩:=hrel;have t:=aa hd;clear hd;by_cases ac:k<j
    ·have p:k<X.length:=by have:=J.out;omega
     obtain⟨b2,Lf,eb,_,L⟩:=HX.out k p;simp only[yy,Addr.mk.injEq,and_true] at eb;obtain⟨rfl,rfl⟩:=eb;have L:=aB l L;have F:=aa (show x∈X.take (k+1)↔x∈X.take k\/x=X[k] by rw[gR p,ie,gE]);generalize X[k]=y at *;cases d with
     | true=>
       go_wp2;go_roundw
       case rel=>exact⟨k+1,true,by omega,rfl,rfl,by rw[F.out];simp[t.out.1 rfl],(by first|rfl|trivial)⟩
       case measure=>simp[intOf];omega
     | false=>
       by_cases f:y=x
       ·have z:((y:Int)==(x:Int))=true:=by simp;omega
        have I:=aa f;clear f;go_wp2;go_roundw
        case rel=>exact⟨k+1,true,by omega,rfl,rfl,by rw[F.out];simp[I.out],(by first|rfl|trivial)⟩
        case measure=>simp[intOf];omega
       have z:((y:Int)==(x:Int))=false:=by simp;omega
       have I:=aa f;clear f;go_wp2;go_roundw
       case rel=>exact⟨k+1,false,by omega,rfl,rfl,by rw[F.out,<-t.out];simp;exact λe=>I.out e.symm,(by first|rfl|trivial)⟩
       case measure=>simp[intOf];omega
    obtain rfl:j=k:=by omega
    cases d with
    | true=>
      have K:=aa (show tx (eP (X.take j))=tx (eP (X.take (j+1))) by rw[u.out,if_pos (t.out.1 rfl)]);generalize tx (eP (X.take j))=S at *;clear u;go_wp2;go_roundw
      case rel=>exact⟨j+1,by omega,rfl,congrArg Value.string K.out,i⟩
      case measure=>simp[intOf];omega
    | false=>
      have K:=aa (show tx (eP (X.take j))++(tx (aV x)++tx [10])=tx (eP (X.take (j+1))) by rw[u.out,if_neg (λh=>by have:=t.out.2 h;cases this),dA,dA]);generalize tx (eP (X.take j))=S at *;generalize tx (aV x)=U at *;have q1:¬9223372036854775807<U.size+1:=by omega
      have q2:¬9223372036854775807<S.size+(U.size+1):=by omega
      clear u;go_wp2_with fail;refine(mH.out _).mono ?_;rintro e w3⟨rfl,C⟩;go_wp2;go_roundw
      case rel=>exact⟨j+1,by omega,rfl,congrArg Value.string K.out,af i C⟩
      case measure=>simp[intOf];omega
  obtain rfl:n=j:=by omega
  rw[iu (by rw[J.out];exact d' _)];have e0:=aB i d0;have G:=aa (TX.out _ l);go_wp2_with fail;refine G.out.mono ?_;rintro e w3⟨rfl,C⟩;go_wp2;go_ret2;exact⟨rfl,l.trans (C.mono l.size)⟩
end Go.Proofs.YtmnimbnojdndmaaGreatDoor
