/- CedillaProducts: where a text may be cut apart, it has as many texts that are alike as its two parts multiplied; no condition. -/
import Derived.Test.YtmpkfkoficehpaaGreatDoorQ12
import Derived.BigRegion
set_option maxRecDepth 100000
set_option maxHeartbeats 6400000
namespace Go.Proofs.YtmpkfkoficehpaaGreatDoor
section
open Go.RowKit Go.Cd
def bE (W:World) (b:Nat) (p l:List Nat) (q:List Value):Prop:=Is W b (aN p++(aN l++q)).toArray aM
section
variable {W W' : World} {b : Nat} {p l : List Nat} {q : List Value}
theorem bE.at (h:bE W b p l q) {k c o:Nat} (ho:o=p.length+k) (hk:l[k]? = some c):W.cell? ⟨b,o,none⟩=some (.int .i32 (c:Nat)):=by
 subst ho;refine Is.at h _ ?_;obtain ⟨h1,h2⟩:=List.getElem?_eq_some_iff.1 hk;rw [List.getElem?_toArray,List.getElem?_append_right (by simp),bA,Nat.add_sub_cancel_left,List.getElem?_append_left (by simpa using h1),List.getElem?_eq_getElem (by simpa using h1),dM _ _ h1,h2]
theorem bE.frozen (h:bE W b p l q) (o:Nat):W.frozen? ⟨b,o,none⟩=false:=Is.frozen h o
theorem bE.lt (h:bE W b p l q):b<W.heap.size:=Is.lt h
theorem bE.set (h:bE W b p l q) {k o:Nat} (ho:o=p.length+k) (hk:k<l.length) (c:Nat):bE (W.setCell ⟨b,o,none⟩ (.int .i32 (c:Nat))) b p (l.set k c) q:=by
 subst ho;have:=Is.set h (p.length+k) (.int .i32 (c:Nat));have e:(aN p++(aN l++q)).toArray.setIfInBounds (p.length+k) (.int .i32 (c:Nat))=(aN p++(aN (l.set k c)++q)).toArray:=by
  rw [List.setIfInBounds_toArray,List.set_append_right (h:=by simp),bA,Nat.add_sub_cancel_left,List.set_append_left (h:=by simpa using hk)];simp [aN,List.map_set]
 unfold bE;rw [←e];exact this
theorem bE.mono (h:bE W b p l q) (hb:Below W.heap.size W W'):bE W' b p l q:=Is.mono h hb
end
theorem set_mid (A Z:List Nat) (x y k:Nat) (h:k=A.length):(A++x::Z).set k y=A++y::Z:=by
 subst h;rw [List.set_append_right (h:=Nat.le_refl _),Nat.sub_self];rfl
theorem f_ (A Z:List Nat) (x k:Nat) (h:k=A.length):(A++x::Z)[k]? = some x:=by
 subst h;rw [List.getElem?_append_right (Nat.le_refl _),Nat.sub_self];rfl
theorem Ox (P Y1 X3 M X1 Y3 S:List Nat) (x y i1 i2:Nat) (h1:i1=P.length+Y1.length) (h2:i2=P.length+Y1.length+1+X3.length+M.length+X1.length) :
 (P++(Y1++(x::X3++(M++(X1++(y::Y3++S))))))[i1]? = some x∧(P++(Y1++(x::X3++(M++(X1++(y::Y3++S))))))[i2]? = some y∧
 ((P++(Y1++(x::X3++(M++(X1++(y::Y3++S)))))).set i1 y).set i2 x=P++((Y1++[y])++(X3++(M++((X1++[x])++(Y3++S))))):=by
 have e1:P++(Y1++(x::X3++(M++(X1++(y::Y3++S)))))=(P++Y1)++x::(X3++(M++(X1++(y::Y3++S)))):=by simp
 have e2:P++(Y1++(x::X3++(M++(X1++(y::Y3++S)))))=(P++Y1++x::X3++M++X1)++y::(Y3++S):=by simp
 have e3:(P++Y1)++y::(X3++(M++(X1++(y::Y3++S))))=(P++Y1++y::X3++M++X1)++y::(Y3++S):=by simp
 refine ⟨by rw [e1];exact f_ _ _ _ _ (by simp [h1]),by rw [e2];exact f_ _ _ _ _ (by simp [h2];omega),?_⟩;rw [e1,set_mid _ _ _ _ _ (by simp [h1]),e3,set_mid _ _ _ _ _ (by simp [h2];omega)];simp
theorem vN {w:World} {b N:Nat} (hN:N≤b) {p:List Nat} {q:List Value} (P X M Y S:List Nat) (h:bE w b p (P++(X++(M++(Y++S)))) q) (hl:Y.length=X.length) {off n cap a c k:Nat} (ho:off=p.length) (hn:(P++(X++(M++(Y++S)))).length=n) (qO:n<1000000) (ha:a=P.length) (hc:c=P.length+X.length+M.length) (hk:k=X.length) (f:Value) :
 Calls Tryz.prog 248 #[.slice (some ⟨b,off,none⟩) n cap,.int .i64 a,.int .i64 c,.int .i64 k,f] w fun e w'=>e=.returned (.tuple #[])∧bE w' b p (P++(Y++(M++(X++S)))) q∧Below N w w':=by
 have hck:c+k≤n∧a+k≤c:=by
  simp only [List.length_append] at hn;omega
 have HO:=aa ho;have HA:=aa ha;have HC:=aa hc;have HK:=aa hk;have HL:=aa hl;have HD:=aa h;have mF:=aa hn;clear ho ha hc hk hl h hn;go_enter Tryz.func248,Tryz.ntmps248;go_wp2;go_loopw [10] (fun iv wr=>∃i:Nat,i≤k∧iv=.int .i64 i∧(∃X1 X2 Y1 Y2,X=X1++X2∧Y=Y1++Y2∧X1.length=i∧Y1.length=i∧bE wr b p (P++(Y1++(X2++(M++(X1++(Y2++S)))))) q)∧Below N w wr) (fun iv _=>k-(intOf iv).toNat)
 case atStart=>exact ⟨0,Nat.zero_le _,rfl,⟨[],X,[],Y,rfl,rfl,rfl,rfl,by simpa using HD.out⟩,Below.refl _ _⟩
 case round=>
  obtain ⟨i,hi,rfl,⟨X1,X2,Y1,Y2,hX,hY,hx1,hy1,hd⟩,hE⟩:=hrel;have HX:=aa hX;have HY:=aa hY;have lD:=aa hx1;have U9:=aa hy1;clear hX hY hx1 hy1;by_cases hik:i<k
  ·have z:decide ((i:Int)<(k:Int))=true:=by simp;omega
   obtain ⟨x,X3,rfl⟩:∃x X3,X2=x::X3:=by
    cases X2 with
    | nil=>have:=congrArg List.length HX.out;have:=lD.out;have:=HK.out;simp at *;omega
    | cons x X3=>exact ⟨x,X3,rfl⟩
   obtain ⟨y,Y3,rfl⟩:∃y Y3,Y2=y::Y3:=by
    cases Y2 with
    | nil=>have:=congrArg List.length HY.out;have:=U9.out;have:=HK.out;have:=HL.out;simp at *;omega
    | cons y Y3=>exact ⟨y,Y3,rfl⟩
   obtain ⟨ia,hia⟩:=ae (a+i);obtain ⟨ic,hic⟩:=ae (c+i);have hl3:X3.length+i+1=k:=by have:=congrArg List.length HX.out;have:=lD.out;have:=HK.out;simp at *;omega
   obtain ⟨g1,g2,g3⟩:=Ox P Y1 X3 M X1 Y3 S x y ia ic (by rw [hia,HA.out,U9.out]) (by rw [hic,HC.out,U9.out,lD.out,←HK.out];omega);have w1:IntKind.i64.wrap ((a:Int)+(i:Int))=(ia:Int):=by rw [hia,IntWalk.i64_in _ (by omega)];simp
   have w2:IntKind.i64.wrap ((c:Int)+(i:Int))=(ic:Int):=by rw [hic,IntWalk.i64_in _ (by omega)];simp
   have c1:=hd.at (o:=off+ia) (by rw [HO.out]) g1;have c2:=hd.at (o:=off+ic) (by rw [HO.out]) g2;have f1:=hd.frozen (off+ia);have f2:=hd.frozen (off+ic);have hd2:=(hd.set (o:=off+ia) (by rw [HO.out]) (List.getElem?_eq_some_iff.1 g1).1 y).set (o:=off+ic) (k:=ic) (by rw [HO.out]) (by rw [List.length_set];exact (List.getElem?_eq_some_iff.1 g2).1) x;rw [g3] at hd2;have HD2:=aa hd2;have akM:ia<n∧ic<n∧ia≠ic:=by omega
   clear g1 g2 g3 hd hd2 hia hic;go_wp2_with fail;go_region;go_wp2;go_roundw
   case rel=>exact ⟨i+1,by omega,by simp,⟨X1++[x],X3,Y1++[y],Y3,by rw [HX.out];simp,by rw [HY.out];simp,by simp [lD.out],by simp [U9.out],HD2.out.mono (ag _)⟩,(aj (aj hE hN) hN).drew⟩
   case measure=>simp [intOf];omega
  ·have z:decide ((i:Int)<(k:Int))=false:=by simp;omega
   obtain rfl:i=k:=by omega
   obtain rfl:X2=[]:=by
    have h1:=congrArg List.length HX.out;rw [List.length_append,lD.out,←HK.out] at h1;exact List.length_eq_zero_iff.1 (by omega)
   obtain rfl:Y2=[]:=by
    have h1:=congrArg List.length HY.out;rw [List.length_append,U9.out,HL.out,←HK.out] at h1;exact List.length_eq_zero_iff.1 (by omega)
   go_wp2_with fail
   go_end0
   refine ⟨rfl,?_,hE⟩;rw [HX.out,HY.out];simpa using hd
theorem uB {w:World} {b N:Nat} (hN:N≤b) {p:List Nat} {q:List Value} (P A C S:List Nat) (h:bE w b p (P++(A++(C++S))) q) (hA:A≠[]) (hC:C≠[]) {off n cap a m c:Nat} (ho:off=p.length) (hn:(P++(A++(C++S))).length=n) (qO:n<1000000) (ha:a=P.length) (hm:m=P.length+A.length) (hc:c=P.length+A.length+C.length) (f:Value) :
 Calls Tryz.prog 239 #[.slice (some ⟨b,off,none⟩) n cap,.int .i64 a,.int .i64 m,.int .i64 c,f] w fun e w'=>e=.returned (.tuple #[])∧bE w' b p (P++(C++(A++S))) q∧Below N w w':=by
 have hmc:a<m∧m<c∧c≤n:=by
  have:=List.length_pos_iff.2 hA;have:=List.length_pos_iff.2 hC;simp only [List.length_append] at hn;omega
 obtain ⟨i0,hi0⟩:=ae A.length;obtain ⟨j0,hj0⟩:=ae C.length;have w1:IntKind.i64.wrap ((m:Int)-(a:Int))=(i0:Int):=by rw [IntWalk.i64_in _ (by omega)];omega
 have w2:IntKind.i64.wrap ((c:Int)-(m:Int))=(j0:Int):=by rw [IntWalk.i64_in _ (by omega)];omega
 have HO:=aa ho;have HI:=aa hi0;have HJ:=aa hj0;have HM:=aa hm;have HD:=aa h;have mF:=aa hn;have hij:0<i0∧0<j0∧i0≤m∧m+j0≤n:=by omega
 have HA:=aa ha;have HC:=aa hc;clear ho hi0 hj0 hm h hn ha hc hA hC;go_enter Tryz.func239,Tryz.ntmps239;go_wp2;go_loopw [10,11] (fun iv jv wr=>∃i j:Nat,0<i∧0<j∧i≤m∧m+j≤n∧iv=.int .i64 i∧jv=.int .i64 j∧(∃P' A' C' S',P++(C++(A++S))=P'++(C'++(A'++S'))∧A'.length=i∧C'.length=j∧P'.length+i=m∧bE wr b p (P'++(A'++(C'++S'))) q)∧Below N w wr) (fun iv jv _=>(intOf iv).toNat+(intOf jv).toNat)
 case atStart=>exact ⟨i0,j0,hij.1,hij.2.1,hij.2.2.1,hij.2.2.2,rfl,rfl,⟨P,A,C,S,rfl,HI.out.symm,HJ.out.symm,by rw [HM.out,HI.out],HD.out⟩,Below.refl _ _⟩
 case round=>
  obtain ⟨i,j,hi0,hj0,him,hjn,rfl,rfl,⟨P',A',C',S',hS,hA,hC,hP,hd⟩,hE⟩:=hrel;have HS:=aa hS;have Xg:=aa hA;have Yf:=aa hC;have Oy:=aa hP;have HD':=aa hd;have hlen:(P'++(A'++(C'++S'))).length=n:=by
   have h1:=congrArg List.length hS;rw [←mF.out];simp only [List.length_append] at h1 ⊢;omega
  have yX:=aa hlen;clear hS hA hC hP hd hlen;have e1:IntKind.i64.wrap ((m:Int)-(i:Int))=((m-i:Nat):Int):=by rw [IntWalk.i64_in _ (by omega)];omega
  obtain ⟨mi,yh⟩:=ae (m-i);have U_:=aa yh;rw [←yh] at e1;clear yh;by_cases hne:i=j
  ·subst hne;have z:((i:Int) !=(i:Int))=false:=by simp
   have CK:=aa (fun W (hd:bE W b p (P'++(A'++([]++(C'++S')))) q)=>vN (w:=W) hN P' A' [] C' S' hd (by rw [Xg.out,Yf.out]) (n:=n) (cap:=cap) (a:=mi) (c:=m) (k:=i) HO.out (by simpa using yX.out) qO (by rw [U_.out];have:=Oy.out;omega) (by have:=Oy.out;have:=Xg.out;simp;omega) Xg.out.symm f);go_wp2_with (go_at_call 248;refine (CK.out _ (by simpa using HD'.out)).mono ?_;rintro e w6 ⟨rfl,hd6,hb6⟩)
   go_end0
   refine ⟨rfl,?_,hE.trans hb6⟩;rw [HS.out];simpa using hd6
  ·have z:((i:Int) !=(j:Int))=true:=by simp;omega
   by_cases hlt:j<i
   ·have z2:decide ((j:Int)<(i:Int))=true:=by simp;omega
    obtain ⟨A1,A2,Oz,hA1⟩:∃A1 A2,A'=A1++A2∧A1.length=j:=⟨A'.take j,A'.drop j,(List.take_append_drop _ _).symm,by rw [List.length_take,Xg.out];omega⟩;have h2:A2.length=i-j:=by have:=congrArg List.length Oz;rw [List.length_append,Xg.out,hA1] at this;omega
    have e2:IntKind.i64.wrap ((i:Int)-(j:Int))=((i-j:Nat):Int):=by rw [IntWalk.i64_in _ (by omega)];omega
    have CK:=aa (fun W (hd:bE W b p (P'++(A1++(A2++(C'++S')))) q)=>vN (w:=W) hN P' A1 A2 C' S' hd (by rw [hA1,Yf.out]) (n:=n) (cap:=cap) (a:=mi) (c:=m) (k:=j) HO.out (by rw [←yX.out,Oz];simp) qO (by rw [U_.out];have:=Oy.out;omega) (by have:=Oy.out;omega) hA1.symm f);have HR:=aa (show P++(C++(A++S))=(P'++C')++(A1++(A2++S')) from by rw [HS.out,Oz];simp);have afe:=aa Oz;have HA1:=aa hA1;have HA2:=aa h2;clear Oz hA1 h2;go_wp2_with (go_at_call 248;refine (CK.out _ (by have:=HD'.out;rw [afe.out] at this;simpa using this)).mono ?_;rintro e w6 ⟨rfl,hd6,hb6⟩);go_roundw
    case rel=>exact ⟨i-j,j,by omega,hj0,by omega,hjn,by go_num,rfl,⟨P'++C',A2,A1,S',HR.out,HA2.out,HA1.out,by rw [List.length_append,Yf.out];have:=Oy.out;omega,by simpa using hd6⟩,hE.trans hb6⟩
    case measure=>simp [intOf];omega
   ·have z2:decide ((j:Int)<(i:Int))=false:=by simp;omega
    obtain ⟨C1,C2,Rt,hC2⟩:∃C1 C2,C'=C1++C2∧C1.length=j-i:=⟨C'.take (j-i),C'.drop (j-i),(List.take_append_drop _ _).symm,by rw [List.length_take,Yf.out];omega⟩;have h2:C2.length=i:=by have:=congrArg List.length Rt;rw [List.length_append,Yf.out,hC2] at this;omega
    obtain ⟨mj,hmj⟩:=ae (m+j-i);have HMJ:=aa hmj;have e2:IntKind.i64.wrap ((j:Int)-(i:Int))=((j-i:Nat):Int):=by rw [IntWalk.i64_in _ (by omega)];omega
    have e3:IntKind.i64.wrap ((m:Int)+(j:Int)-(i:Int))=(mj:Int):=by rw [IntWalk.i64_in _ (by omega)];omega
    clear hmj;have CK:=aa (fun W (hd:bE W b p (P'++(A'++(C1++(C2++S')))) q)=>vN (w:=W) hN P' A' C1 C2 S' hd (by rw [h2,Xg.out]) (n:=n) (cap:=cap) (a:=mi) (c:=mj) (k:=i) HO.out (by rw [←yX.out,Rt];simp) qO (by rw [U_.out];have:=Oy.out;omega) (by rw [HMJ.out,hC2,Xg.out];have:=Oy.out;omega) Xg.out.symm f);have HR:=aa (show P++(C++(A++S))=P'++(C1++(C2++(A'++S'))) from by rw [HS.out,Rt];simp);have aff:=aa Rt;have tZ:=aa hC2;have UG:=aa h2;clear Rt hC2 h2;go_wp2_with (go_at_call 248;refine (CK.out _ (by have:=HD'.out;rw [aff.out] at this;simpa using this)).mono ?_;rintro e w6 ⟨rfl,hd6,hb6⟩);go_roundw
    case rel=>exact ⟨i,j-i,hi0,by omega,him,by omega,rfl,by go_num,⟨P',C2,C1,A'++S',HR.out,UG.out,tZ.out,Oy.out,by simpa using hd6⟩,hE.trans hb6⟩
    case measure=>simp [intOf];omega
end
open Go.RowKit Go.Cd
def uC (x y:Nat):Int:=if x<y then -1 else if y<x then 1 else 0
theorem yj {x y:Nat}:uC x y<0↔x<y:=by unfold uC;split <;> (try split) <;> omega
def xh (w0:World) (N:Nat) (K:Nat→Nat) (cap:Value):Prop:=
 ∀W,Below N w0 W→∀a b:Nat,a<1114112→b<1114112→Calls Tryz.prog 175 #[.int .i32 a,.int .i32 b,cap] W fun e w'=>e=.returned (.int .i64 (uC (K a) (K b)))∧Below W.heap.size W w'
abbrev vO (cap:Value):Value:=.func (.func 175) #[] #[cap]
theorem Ru {w0 w:World} {b N:Nat} (hN:N≤b) {K:Nat→Nat} {cv:Value} (hC:xh w0 N K cv) (hE0:Below N w0 w) (_:N≤w.heap.size) {p:List Nat} {q:List Value} (P M S:List Nat) (h:bE w b p (P++(M++S)) q) (hM:∀x∈M,0<K x∧x<1114112) {off n cap a c:Nat} (ho:off=p.length) (hn:(P++(M++S)).length=n) (qO:n<1000000) (ha:a=P.length) (hc:c=P.length+M.length) :
 Calls Tryz.prog 225 #[.slice (some ⟨b,off,none⟩) n cap,.int .i64 a,.int .i64 c,vO cv] w fun e w'=>e=.returned (.tuple #[])∧(∃M',eQ K M M'∧up K M'∧bE w' b p (P++(M'++S)) q)∧Below N w w':=by
 have hcn:a≤c∧c≤n:=by
  simp only [List.length_append] at hn;omega
 have HO:=aa ho;have HA:=aa ha;have HC:=aa hc;have HD:=aa h;have mF:=aa hn;have HM:=aa hM;have HCM:=aa hC;clear ho ha hc h hn hM hC;go_enter Tryz.func225,Tryz.ntmps225;go_wp2;go_loopw [8] (fun iv wr=>∃i:Nat,a<i∧i≤n+1∧iv=.int .i64 i∧(∃M0 M1 R,M=M0++R∧(i≤c→M0.length+a=i)∧(c<i→R=[])∧eQ K M0 M1∧up K M1∧bE wr b p (P++(M1++(R++S))) q)∧Below N w wr) (fun iv _=>n+1-(intOf iv).toNat)
 case atStart=>
  refine ⟨a+1,by omega,by omega,by simp,?_,Below.refl _ _⟩;cases hMM:M with
  | nil=>exact ⟨[],[],[],rfl,fun h=>by have:=HC.out;have:=HA.out;rw [hMM] at *;simp at *;omega,fun _=>rfl,eQ.refl _,Yc,by have:=HD.out;rw [hMM] at this;simpa using this⟩
  | cons x M'=>exact ⟨[x],[x],M',rfl,fun _=>by simp;omega,fun h=>by have:=HC.out;have:=HA.out;rw [hMM] at *;simp at *;omega,eQ.refl _,Yd x,by have:=HD.out;rw [hMM] at this;simpa using this⟩
 case round=>
  obtain ⟨i,hai,hin,rfl,⟨M0,M1,R,hMR,hle,hgt,hs,hu,hd⟩,hE⟩:=hrel;by_cases hic:i<c
  ·have z:decide ((i:Int)<(c:Int))=true:=by simp;omega
   have h0:=hle (by omega);obtain ⟨x,R',rfl⟩:∃x R',R=x::R':=by
    cases R with
    | nil=>exfalso;have h1:=congrArg List.length hMR;have h2:=HC.out;have h3:=HA.out;simp at h1;omega
    | cons x R'=>exact ⟨x,R',rfl⟩
   have h1l:M1.length+a=i:=by rw [hs.len];exact h0
   have pG:=aa (And.intro hMR (And.intro h0 (And.intro hs hu)));have hx:0<K x∧x<1114112:=HM.out x (by rw [hMR];simp);have HX:=aa hx;have hlen:(P++(M1++(x::R'++S))).length=n:=by
    have h1:=congrArg List.length hMR;have h2:=mF.out;simp only [List.length_append,List.length_cons] at h1 h2 ⊢;have:=hs.len;omega
   have HLEN:=aa hlen;have H1L:=aa h1l;have HD1:=aa hd;clear hMR hle hgt hs hu h0 hx hlen h1l hd;go_wp2_with fail;go_loopw [9] (fun jv wq=>∃j:Nat,a≤j∧j≤i∧jv=.int .i64 j∧(∃X Y,M1=X++Y∧X.length+a=j∧(∀y,Y.head? = some y→K x<K y)∧bE wq b p (P++(X++x::(Y++(R'++S)))) q)∧Below N w wq) (fun jv _=>(intOf jv).toNat)
   case atStart=>exact ⟨i,by omega,Nat.le_refl _,rfl,⟨M1,[],by simp,H1L.out,by simp,by simpa using HD1.out⟩,hE⟩
   case round=>
    clear hE;obtain ⟨j,haj,hji,rfl,⟨X,Y,Z8,Xh,hYh,hd⟩,hE⟩:=hrel
    have hfin:(∀y,X.getLast? = some y→K y≤K x)→Hid (∃Yg Yh R'',M=Yg++R''∧(i+1≤c→Yg.length+a=i+1)∧(c<i+1→R''=[])∧eQ K Yg Yh∧up K Yh∧∀W,bE W b p (P++(X++x::(Y++(R'++S)))) q→bE W b p (P++(Yh++(R''++S))) q):=fun hl=>aa (by
     obtain ⟨r1,r2,r3,r4⟩:=pG.out;rw [Z8] at r3 r4;obtain ⟨s1,s2⟩:=Ib r4 HX.out.1 hl hYh;refine ⟨M0++[x],X++x::Y,R',by rw [r1];simp,fun _=>by rw [List.length_append,←r2];simp;omega,fun h=>?_,(r3.app (eQ.refl [x])).trans s1,s2,fun W hd=>by simpa using hd⟩;have h1:=congrArg List.length r1;have h2:=HC.out;have h3:=HA.out;simp only [List.length_append,List.length_cons] at h1
     exact List.length_eq_zero_iff.1 (by omega))
    by_cases hja:a<j
    ·have z:decide ((a:Int)<(j:Int))=true:=by simp;omega
     obtain ⟨jm,hjm⟩:∃jm,j=jm+1:=⟨j-1,by omega⟩;have e1:IntKind.i64.wrap ((j:Int)-1)=(jm:Int):=by rw [IntWalk.i64_in _ (by omega)];omega
     obtain ⟨X',y,rfl⟩:∃X' y,X=X'++[y]:=by
      rcases List.eq_nil_or_concat X with rfl|⟨X',y,h⟩
      ·simp at Xh;omega
      ·exact ⟨X',y,by simpa using h⟩
     have abg:X'.length+a=jm:=by simp at Xh;omega
     have hL:P++((X'++[y])++x::(Y++(R'++S)))=(P++X')++y::x::(Y++(R'++S)):=by simp
     rw [hL] at hd;have hjl:(P++X').length=jm:=by rw [List.length_append,←HA.out];omega
     have g1:((P++X')++y::x::(Y++(R'++S)))[jm]? = some y:=f_ _ _ _ _ hjl.symm;have g2:((P++X')++y::x::(Y++(R'++S)))[j]? = some x:=by
      have:=f_ ((P++X')++[y]) (Y++(R'++S)) x j (by rw [List.length_append,hjl,hjm];rfl);simpa using this
     have Xi:y<1114112:=by
      have hy1:y∈M1:=by rw [Z8];simp
      have hy2:y∈M:=by
       obtain ⟨r1,_,r3,_⟩:=pG.out;rw [r1];exact List.mem_append_left _ (r3.mem.1 hy1)
      exact (HM.out y hy2).2
     have hjn:j<n:=by
      have:=(List.getElem?_eq_some_iff.1 g2).1;have h3:=HLEN.out;have h4:=congrArg List.length Z8;simp only [List.length_append,List.length_cons,List.length_nil] at this h3 h4;omega
     have c1:=hd.at (o:=off+jm) (by rw [HO.out]) g1;have c2:=hd.at (o:=off+j) (by rw [HO.out]) g2;have E0:=ag wr;have b1:=Gr.cell E0 c1;have b2:=Gr.cell E0 c2;have CC:=aa (HCM.out wr.drew (hE0.trans hE.drew) x y HX.out.2 Xi);have HD:=aa hd;have Rv:=aa abg;have HJL:=aa hjl;have TZ:=aa Z8;have HYH:=aa hYh;have tL:=hd.lt;obtain ⟨kx,hkx⟩:=ae (K x);obtain ⟨ky,hky⟩:=ae (K y);rw [←hkx,←hky] at CC;have Ih:=aa hkx;have HKY:=aa hky;obtain ⟨cz,hcz⟩:=ae (uC kx ky);rw [←hcz] at CC;have abj:cz<0↔kx<ky:=by rw [hcz];exact yj
     have KD:=aa abj;have akP:jm<j:=by omega
     have HJM:=aa hjm;clear hL hjl hd Xh abg Z8 hYh hkx hky hcz abj g1 g2 Xi hjm c1 c2;go_wp2_with fail;refine aF (Array.replicate 17 true) 17 0 mixed (by rfl) ?_;refine ay [0,1,2,3,4,5,6,7,8,9,10,11,12,13] 3 rfl (by kernel_rfl) ?_
     iterate 14 (refine aB rfl ?_;go_big_quiet_step (rfl))
     refine az ?_;refine aI 14 (by kernel_rfl) rfl ?_;go_wp2_with fail;refine CC.out.mono ?_;rintro e w6 ⟨rfl,hb6⟩;go_wp2_with fail;refine aD hb6 ?_;refine ay [15,16] 0 rfl (by kernel_rfl) ?_
     iterate 2 (refine aB rfl ?_;go_big_quiet_step (rfl))
     refine az ?_;refine aJ [] (by kernel_rfl) ?_;refine tail_nil ?_;have hd6:=HD.out.mono (ah E0 hb6);have iM:=(hE.drew).trans (hb6.mono (by show N≤wr.heap.size;omega));have HFN:=aa hfin;clear hfin b1 b2 CC E0 hb6 hE;by_cases hlt:kx<ky
     ·have z3:cz<0:=KD.out.2 hlt;have z2:decide (cz<0)=true:=by simp;exact z3
      have Q6:(P++X'++y::x::(Y++(R'++S)))[jm]? = some y:=f_ _ _ _ _ HJL.out.symm;have e2':(P++X'++y::x::(Y++(R'++S)))[j]? = some x:=by
       have:=f_ ((P++X')++[y]) (Y++(R'++S)) x j (by rw [List.length_append,HJL.out,HJM.out];rfl);simpa using this
      have hs1:((P++X'++y::x::(Y++(R'++S))).set j y).set jm x=P++(X'++x::((y::Y)++(R'++S))):=by
       have h1:=set_mid ((P++X')++[y]) (Y++(R'++S)) x y j (by rw [List.length_append,HJL.out,HJM.out];rfl);simp only [List.append_assoc,List.cons_append,List.nil_append] at h1 ⊢;rw [h1];have h2:=set_mid (P++X') (y::(Y++(R'++S))) y x jm HJL.out.symm;simpa using h2
      have c1:=hd6.at (o:=off+jm) (by rw [HO.out]) Q6;have c2:=hd6.at (o:=off+j) (by rw [HO.out]) e2';have f1:=hd6.frozen (off+jm);have f2:=hd6.frozen (off+j);have hd7:=(hd6.set (o:=off+j) (by rw [HO.out]) (List.getElem?_eq_some_iff.1 e2').1 y).set (o:=off+jm) (k:=jm) (by rw [HO.out]) (by rw [List.length_set];exact (List.getElem?_eq_some_iff.1 Q6).1) x;rw [hs1] at hd7;have HD7:=aa hd7;have MH:=aa hlt;clear Q6 e2' hs1 hd6 hd7 hlt;go_wp2_with fail;go_region;go_wp2_with fail;go_roundw
      case rel=>exact ⟨jm,by have:=Rv.out;omega,by omega,by first|rfl|go_num,⟨X',y::Y,by rw [TZ.out];simp,Rv.out,fun y' h=>by cases h;rw [←Ih.out,←HKY.out];exact MH.out,HD7.out.mono (ag _)⟩,(aj (aj iM hN) hN).drew⟩
      case measure=>simp [intOf];omega
     ·have z2:decide (cz<0)=false:=by simp;exact Int.not_lt.1 fun h=>hlt (KD.out.1 h)
      have z3:¬cz<0:=fun h=>hlt (KD.out.1 h);have z4:0≤cz:=Int.not_lt.1 z3
      have HR:=HFN.out (fun y' h=>by
       rw [List.getLast?_concat] at h;injection h with h
       rw [←h,←Ih.out,←HKY.out];omega)
      have hd7:bE w6 b p (P++((X'++[y])++x::(Y++(R'++S)))) q:=by simpa using hd6
      have HD7:=aa hd7;clear hd6 hd7 hlt;go_wp2_with fail;go_roundw
      case rel=>
       obtain ⟨Yg,Yh,R'',r1,r2,r3,r4,r5,r6⟩:=HR.out;exact ⟨i+1,by omega,by omega,by simp,⟨Yg,Yh,R'',r1,r2,r3,r4,r5,r6 _ HD7.out⟩,iM⟩
      case measure=>simp [intOf];omega
    ·have z:decide ((a:Int)<(j:Int))=false:=by simp;omega
     obtain rfl:X=[]:=List.length_eq_zero_iff.1 (by omega);have HR:=hfin (fun y' h=>by cases h);have HD:=aa hd;clear hd hfin Z8 hYh;go_wp2_with fail;go_quiet (fail);have sD:Below N w (wr.drewN nq):=hE.trans ⟨rfl,rfl,rfl,Nat.le_refl _,fun _ _=>rfl⟩;have HD7:Hid (bE (wr.drewN nq) b p (P++([]++x::(Y++(R'++S)))) q):=aa (HD.out.mono ⟨rfl,rfl,rfl,Nat.le_refl _,fun _ _=>rfl⟩);go_wp2_with fail;go_roundw
     case rel=>
      obtain ⟨Yg,Yh,R'',r1,r2,r3,r4,r5,r6⟩:=HR.out;exact ⟨i+1,by omega,by omega,by simp,⟨Yg,Yh,R'',r1,r2,r3,r4,r5,r6 _ HD7.out⟩,sD⟩
     case measure=>simp [intOf];omega
  ·have z:decide ((i:Int)<(c:Int))=false:=by simp;omega
   have hR:R=[]:=by
    by_cases h:c<i
    ·exact hgt h
    ·have h1:=congrArg List.length hMR;have h2:=HC.out;have h3:=HA.out;have h4:=hle (by omega);rw [List.length_append] at h1;exact List.length_eq_zero_iff.1 (by omega)
   subst hR;rw [List.append_nil] at hMR;have HM0:=aa hMR;clear hMR hle hgt;go_wp2_with fail
   go_end0
   exact ⟨rfl,⟨M1,by rw [HM0.out];exact hs,hu,by simpa using hd⟩,hE⟩
theorem vP {R:List Nat} {t y:Nat} (h:R[t]? = some y):(R.take (t+1)).getLast? = some y:=by
 rw [List.take_add_one,h];simp
theorem vQ {R:List Nat} {t:Nat}:(R.drop t).head? = R[t]?:=by rw [List.head?_drop]
theorem OB {w0 w:World} {b N:Nat} (hN:N≤b) {K:Nat→Nat} {cv:Value} (hC:xh w0 N K cv) (hE0:Below N w0 w) {p:List Nat} {q:List Value} (P:List Nat) (x:Nat) (R S:List Nat) (h:bE w b p (P++(x::(R++S))) q) (hR:∀y∈R,0<K y∧y<1114112) (hu:up K R) (hx:x<1114112)
 {off n cap a m c:Nat} (ho:off=p.length) (hn:(P++(x::(R++S))).length=n) (qO:n<1000000) (ha:a=P.length) (hm:m=a+1) (hc:c=m+R.length) :
 Calls Tryz.prog 226 #[.slice (some ⟨b,off,none⟩) n cap,.int .i64 a,.int .i64 m,.int .i64 c,vO cv] w fun e w'=>e=.returned (.tuple #[])∧(∃M',eQ K (x::R) M'∧up K M'∧bE w' b p (P++(M'++S)) q)∧Below N w w':=by
 have hcn:a<m∧m≤c∧c≤n:=by
  simp only [List.length_append,List.length_cons] at hn;omega
 have HO:=aa ho;have HA:=aa ha;have HC:=aa hc;have HM:=aa hm;have HD:=aa h;have mF:=aa hn;have HR:=aa hR;have HCM:=aa hC;have HU:=aa hu;have e1:IntKind.i64.wrap ((m:Int)-(a:Int))=1:=by rw [IntWalk.i64_in _ (by omega)];omega
 have hbw:=h.lt;clear ho ha hc hm h hn hR hC hu;go_enter Tryz.func226,Tryz.ntmps226;go_wp2;go_loopw [10,11] (fun iv jv wr=>∃i j:Nat,m≤i∧i≤j∧j≤c∧iv=.int .i64 i∧jv=.int .i64 j∧(∀z,(R.take (i-m)).getLast? = some z→K z<K x)∧(∀z,(R.drop (j-m)).head? = some z→K x≤K z)∧bE wr b p (P++(x::(R++S))) q∧Below N w wr) (fun iv jv _=>(intOf jv).toNat-(intOf iv).toNat)
 case atStart=>exact ⟨m,c,Nat.le_refl _,hcn.2.1,Nat.le_refl _,rfl,rfl,(fun z h=>by rw [Nat.sub_self] at h;cases h),(fun z h=>by rw [HC.out,Nat.add_sub_cancel_left,List.drop_length] at h;cases h),HD.out,Below.refl _ _⟩
 case round=>
  obtain ⟨i,j,yh,hij,hjc,rfl,rfl,hi,hj,hd,hE⟩:=hrel;have HI:=aa hi;have HJ:=aa hj;clear hi hj;by_cases hlt:i<j
  ·have z:decide ((i:Int)<(j:Int))=true:=by simp;omega
   obtain ⟨h,hh⟩:=ae ((i+j) / 2);have Z7:i≤h∧h<j:=by omega
   have e2:((i:Int)+(j:Int)) / 2=(h:Int):=by omega
   obtain ⟨y,hy⟩:∃y,R[h-m]? = some y:=⟨_,List.getElem?_eq_getElem (by have:=HC.out;omega)⟩;have g1:(P++(x::(R++S)))[a]? = some x:=f_ _ _ _ _ HA.out;have g2:(P++(x::(R++S)))[h]? = some y:=by
    have hl:=HM.out;have hl2:=HA.out;rw [List.getElem?_append_right (by omega),show h-P.length=(h-m)+1 by omega,List.getElem?_cons_succ,List.getElem?_append_left (List.getElem?_eq_some_iff.1 hy).1];exact hy
   have Xi:=HR.out y (List.mem_of_getElem? hy);have c1:=hd.at (o:=off+a) (by rw [HO.out]) g1;have c2:=hd.at (o:=off+h) (by rw [HO.out]) g2;have E0:=ag wr;have b1:=Gr.cell E0 c1;have b2:=Gr.cell E0 c2;have CC:=aa (HCM.out wr.drew (hE0.trans hE.drew) y x Xi.2 hx);obtain ⟨cz,hcz⟩:=ae (uC (K y) (K x));rw [←hcz] at CC;have KD:=aa (show cz<0↔K y<K x from by rw [hcz];exact yj);have HY:=aa hy;have HD2:=aa hd;have hhn:h<n∧a<n:=by omega
   clear hh g1 g2 Xi c1 c2 hcz hy hd;go_wp2_with fail;refine aF (Array.replicate 11 true) 11 0 mixed (by rfl) ?_;refine ay [0,1,2,3,4,5,6,7,8] 2 rfl (by kernel_rfl) ?_
   iterate 9 (refine aB rfl ?_;go_big_quiet_step (rfl))
   refine az ?_;refine aI 9 (by kernel_rfl) rfl ?_;go_wp2_with fail;refine CC.out.mono ?_;rintro e w6 ⟨rfl,hb6⟩;go_wp2_with fail;refine aD hb6 ?_;refine ay [10] 0 rfl (by kernel_rfl) ?_
   iterate 1 (refine aB rfl ?_;go_big_quiet_step (rfl))
   refine az ?_;refine aJ [] (by kernel_rfl) ?_;refine tail_nil ?_;have HD6:=aa (HD2.out.mono (ah E0 hb6));have iM:=(hE.drew).trans (hb6.mono (by have:=HD2.out.lt;show N≤wr.heap.size;omega));clear b1 b2 CC E0 hb6 hE;by_cases hlt2:cz<0
   ·have z2:decide (cz<0)=true:=by simp;exact hlt2
    go_wp2_with fail;go_roundw
    case rel=>exact ⟨h+1,j,by omega,by omega,hjc,by simp,rfl,fun z hz=>by
     rw [show h+1-m=(h-m)+1 by omega,vP HY.out] at hz;cases hz
     exact KD.out.1 hlt2,HJ.out,HD6.out,iM⟩
    case measure=>simp [intOf];omega
   ·have z2:decide (cz<0)=false:=by simp;omega
    have z4:0≤cz:=by omega
    go_wp2_with fail;go_roundw
    case rel=>exact ⟨i,h,yh,by omega,by omega,rfl,rfl,HI.out,fun z hz=>by
     rw [vQ,HY.out] at hz;cases hz
     exact Nat.not_lt.1 fun hk=>hlt2 (KD.out.2 hk),HD6.out,iM⟩
    case measure=>simp [intOf];omega
  ·have z:decide ((i:Int)<(j:Int))=false:=by simp;omega
   obtain rfl:i=j:=by omega
   obtain ⟨im,him⟩:∃im,i=im+1:=⟨i-1,by omega⟩;have e3:IntKind.i64.wrap ((i:Int)-1)=(im:Int):=by rw [IntWalk.i64_in _ (by omega)];omega
   have HIM:=aa him;have afg:a≤im∧im<i:=by omega
   have HD2:=aa hd;clear him hd;go_wp2_with fail;obtain ⟨wo,rfl⟩:∃wo:World,wo=wr:=⟨_,rfl⟩;go_loopw [13] (fun kv wr=>∃k:Nat,a≤k∧k≤im∧kv=.int .i64 k∧bE wr b p (P++(R.take (k-a)++x::(R.drop (k-a)++S))) q∧Below N w wr) (fun kv _=>im-(intOf kv).toNat)
   case atStart=>exact ⟨a,Nat.le_refl _,afg.1,rfl,by simpa using HD2.out,hE⟩
   case round=>
    clear hE;obtain ⟨k,hak,hkm,rfl,hd,hE⟩:=hrel;by_cases hk:k<im
    ·have z5:decide ((k:Int)<(im:Int))=true:=by simp;omega
     obtain ⟨k1,hk1⟩:=ae (k+1);have e4:IntKind.i64.wrap ((k:Int)+1)=(k1:Int):=by rw [IntWalk.i64_in _ (by omega)];omega
     obtain ⟨y,hy⟩:∃y,R[k-a]? = some y:=⟨_,List.getElem?_eq_getElem (by have:=HC.out;have:=HM.out;have:=HIM.out;omega)⟩;have hdr:R.drop (k-a)=y::R.drop (k1-a):=by
      rw [show k1-a=(k-a)+1 by omega,←(List.getElem?_eq_some_iff.1 hy).2];exact List.drop_eq_getElem_cons (List.getElem?_eq_some_iff.1 hy).1
     have htk:R.take (k1-a)=R.take (k-a)++[y]:=by rw [show k1-a=(k-a)+1 by omega,List.take_add_one,hy];rfl
     have hlt:(R.take (k-a)).length=k-a:=by rw [List.length_take];have:=(List.getElem?_eq_some_iff.1 hy).1;omega
     rw [hdr] at hd;have A_:(P++R.take (k-a)).length=k:=by rw [List.length_append,hlt,←HA.out];omega
     have hLL:P++(R.take (k-a)++x::(y::R.drop (k1-a)++S))=(P++R.take (k-a))++x::y::(R.drop (k1-a)++S):=by simp
     rw [hLL] at hd;have g1:((P++R.take (k-a))++x::y::(R.drop (k1-a)++S))[k]? = some x:=f_ _ _ _ _ A_.symm;have g2:((P++R.take (k-a))++x::y::(R.drop (k1-a)++S))[k1]? = some y:=by
      have:=f_ ((P++R.take (k-a))++[x]) (R.drop (k1-a)++S) y k1 (by rw [List.length_append,A_,hk1];rfl);simpa using this
     have hsw:=Ov (P++R.take (k-a)) (R.drop (k1-a)++S) x y;rw [A_,←hk1] at hsw;have c1:=hd.at (o:=off+k) (by rw [HO.out]) g1;have c2:=hd.at (o:=off+k1) (by rw [HO.out]) g2;have f1:=hd.frozen (off+k);have f2:=hd.frozen (off+k1);have hd2:=(hd.set (o:=off+k) (by rw [HO.out]) (List.getElem?_eq_some_iff.1 g1).1 y).set (o:=off+k1) (k:=k1) (by rw [HO.out]) (by rw [List.length_set];exact (List.getElem?_eq_some_iff.1 g2).1) x;rw [hsw] at hd2;have HD3:=aa (show bE _ b p (P++(R.take (k1-a)++x::(R.drop (k1-a)++S))) q from by rw [htk];simpa using hd2);have hkn:k<n∧k1<n∧k≠k1:=by omega
     have KL:=aa hk1;clear hk1 hdr htk hlt A_ hLL g1 g2 hsw hd hd2 hy;go_wp2_with fail;go_region;go_wp2_with fail;go_roundw
     case rel=>exact ⟨k1,by have:=KL.out;omega,by have:=KL.out;omega,by first|rfl|(rw [KL.out];go_num),HD3.out.mono (ag _),(aj (aj hE hN) hN).drew⟩
     case measure=>have:=KL.out;simp [intOf];omega
    ·have z5:decide ((k:Int)<(im:Int))=false:=by simp;omega
     obtain rfl:k=im:=by omega
     have ht:k-a=i-m:=by have:=HIM.out;have:=HM.out;omega
     rw [ht] at hd;have HT:=aa hd;clear hd ht;go_wp2_with fail;obtain ⟨s1,s2⟩:=Rp (X:=R.take (i-m)) (Y:=R.drop (i-m)) (c:=x) (by rw [List.take_append_drop];exact HU.out) (fun z hz=>(HR.out z (List.mem_of_mem_take hz)).1) HI.out HJ.out;rw [List.take_append_drop] at s1;exact bodyPost_ret (results_none rfl _ _ _) rfl ⟨rfl,⟨_,s1,s2,by have:=HT.out;simpa using this⟩,hE⟩
theorem OC {w0 w:World} {b N:Nat} (hN:N≤b) {K:Nat→Nat} {cv:Value} (hC:xh w0 N K cv) (hE0:Below N w0 w) {p:List Nat} {q:List Value} (P:List Nat) (x:Nat) (L S:List Nat) (h:bE w b p (P++(L++(x::S))) q) (hR:∀y∈L,y<1114112) (hu:up K L) (hx:0<K x∧x<1114112) (hL1:L.length≠1)
 {off n cap a m c:Nat} (ho:off=p.length) (hn:(P++(L++(x::S))).length=n) (qO:n<1000000) (ha:a=P.length) (hm:m=a+L.length) (hc:c=m+1) :
 Calls Tryz.prog 226 #[.slice (some ⟨b,off,none⟩) n cap,.int .i64 a,.int .i64 m,.int .i64 c,vO cv] w fun e w'=>e=.returned (.tuple #[])∧(∃M',eQ K (L++[x]) M'∧up K M'∧bE w' b p (P++(M'++S)) q)∧Below N w w':=by
 have hcn:a≤m∧m<c∧c≤n:=by
  simp only [List.length_append,List.length_cons] at hn;omega
 have HO:=aa ho;have HA:=aa ha;have HC:=aa hc;have HM:=aa hm;have HD:=aa h;have mF:=aa hn;have HR:=aa hR;have HCM:=aa hC;have HU:=aa hu;have hlm:m-a≠1:=by omega
 obtain ⟨d0,hd0⟩:∃d0:Nat,d0=m-a:=⟨_,rfl⟩;have e1:IntKind.i64.wrap ((m:Int)-(a:Int))=(d0:Int):=by rw [IntWalk.i64_in _ (by omega)];omega
 have Q6:IntKind.i64.wrap ((c:Int)-(m:Int))=1:=by rw [IntWalk.i64_in _ (by omega)];omega
 have z0:((d0:Int)==1)=false:=by simp;omega
 have hbw:=h.lt;clear ho ha hc hm h hn hR hC hu hlm hd0;go_enter Tryz.func226,Tryz.ntmps226;go_wp2;go_loopw [14,15] (fun iv jv wr=>∃i j:Nat,a≤i∧i≤j∧j≤m∧iv=.int .i64 i∧jv=.int .i64 j∧(∀z,(L.take (i-a)).getLast? = some z→K z≤K x)∧(∀z,(L.drop (j-a)).head? = some z→K x<K z)∧bE wr b p (P++(L++(x::S))) q∧Below N w wr) (fun iv jv _=>(intOf jv).toNat-(intOf iv).toNat)
 case atStart=>exact ⟨a,m,Nat.le_refl _,hcn.1,Nat.le_refl _,rfl,rfl,(fun z h=>by rw [Nat.sub_self] at h;cases h),(fun z h=>by rw [HM.out,Nat.add_sub_cancel_left,List.drop_length] at h;cases h),HD.out,Below.refl _ _⟩
 case round=>
  obtain ⟨i,j,yh,hij,hjc,rfl,rfl,hi,hj,hd,hE⟩:=hrel;have HI:=aa hi;have HJ:=aa hj;clear hi hj;by_cases hlt:i<j
  ·have z:decide ((i:Int)<(j:Int))=true:=by simp;omega
   obtain ⟨h,hh⟩:=ae ((i+j) / 2);have Z7:i≤h∧h<j:=by omega
   have e2:((i:Int)+(j:Int)) / 2=(h:Int):=by omega
   obtain ⟨y,hy⟩:∃y,L[h-a]? = some y:=⟨_,List.getElem?_eq_getElem (by have:=HM.out;omega)⟩;have g1:(P++(L++(x::S)))[m]? = some x:=by
    have:=f_ (P++L) S x m (by rw [List.length_append,HM.out,HA.out]);simpa using this
   have g2:(P++(L++(x::S)))[h]? = some y:=by
    have hl2:=HA.out;rw [List.getElem?_append_right (by omega),show h-P.length=h-a by omega,List.getElem?_append_left (List.getElem?_eq_some_iff.1 hy).1];exact hy
   have Xi:=HR.out y (List.mem_of_getElem? hy);have c1:=hd.at (o:=off+m) (by rw [HO.out]) g1;have c2:=hd.at (o:=off+h) (by rw [HO.out]) g2;have E0:=ag wr;have b1:=Gr.cell E0 c1;have b2:=Gr.cell E0 c2;have CC:=aa (HCM.out wr.drew (hE0.trans hE.drew) x y hx.2 Xi);obtain ⟨cz,hcz⟩:=ae (uC (K x) (K y));rw [←hcz] at CC;have KD:=aa (show cz<0↔K x<K y from by rw [hcz];exact yj);have HY:=aa hy;have HD2:=aa hd;have hhn:h<n∧m<n:=by omega
   clear hh g1 g2 Xi c1 c2 hcz hy hd;go_wp2_with fail;refine aF (Array.replicate 12 true) 12 0 mixed (by rfl) ?_;refine ay [0,1,2,3,4,5,6,7,8] 3 rfl (by kernel_rfl) ?_
   iterate 9 (refine aB rfl ?_;go_big_quiet_step (rfl))
   refine az ?_;refine aI 9 (by kernel_rfl) rfl ?_;go_wp2_with fail;refine CC.out.mono ?_;rintro e w6 ⟨rfl,hb6⟩;go_wp2_with fail;refine aD hb6 ?_;refine ay [10,11] 0 rfl (by kernel_rfl) ?_
   iterate 2 (refine aB rfl ?_;go_big_quiet_step (rfl))
   refine az ?_;refine aJ [] (by kernel_rfl) ?_;refine tail_nil ?_;have HD6:=aa (HD2.out.mono (ah E0 hb6));have iM:=(hE.drew).trans (hb6.mono (by have:=HD2.out.lt;show N≤wr.heap.size;omega));clear b1 b2 CC E0 hb6 hE;by_cases hlt2:cz<0
   ·have z2:decide (cz<0)=true:=by simp;exact hlt2
    go_wp2_with fail
    all_goals first|(exfalso;have h9:=‹(!decide (cz<0))=true›;rw [z2] at h9;exact absurd h9 (by decide))|skip
    go_roundw
    case rel=>exact ⟨i,h,yh,by omega,by omega,rfl,rfl,HI.out,fun z hz=>by
     rw [vQ,HY.out] at hz;cases hz
     exact KD.out.1 hlt2,HD6.out,iM⟩
    case measure=>simp [intOf];omega
   ·have z2:decide (cz<0)=false:=by simp;omega
    have z4:0≤cz:=by omega
    go_wp2_with fail
    all_goals first|(exfalso;have h9:=‹(!decide (cz<0))=false›;rw [z2] at h9;exact absurd h9 (by decide))|skip
    go_roundw
    case rel=>exact ⟨h+1,j,by omega,by omega,hjc,by simp,rfl,fun z hz=>by
     rw [show h+1-a=(h-a)+1 by omega,vP HY.out] at hz;cases hz
     exact Nat.not_lt.1 fun hk=>hlt2 (KD.out.2 hk),HJ.out,HD6.out,iM⟩
    case measure=>simp [intOf];omega
  ·have z:decide ((i:Int)<(j:Int))=false:=by simp;omega
   obtain rfl:i=j:=by omega
   have HD2:=aa hd;clear hd;go_wp2_with fail;obtain ⟨wo,rfl⟩:∃wo:World,wo=wr:=⟨_,rfl⟩;go_loopw [17] (fun kv wr=>∃k:Nat,i≤k∧k≤m∧kv=.int .i64 k∧bE wr b p (P++(L.take (k-a)++x::(L.drop (k-a)++S))) q∧Below N w wr) (fun kv _=>(intOf kv).toNat)
   case atStart=>exact ⟨m,hjc,Nat.le_refl _,rfl,by
    have h1:=HD2.out;have h2:m-a=L.length:=by have:=HM.out;omega
    rw [h2,List.take_length,List.drop_length]
    simpa using h1,hE⟩
   case round=>
    clear hE;obtain ⟨k,hik,hkm,rfl,hd,hE⟩:=hrel;by_cases hk:i<k
    ·have z5:decide ((i:Int)<(k:Int))=true:=by simp;omega
     obtain ⟨km,Va⟩:∃km,k=km+1:=⟨k-1,by omega⟩;have e4:IntKind.i64.wrap ((k:Int)-1)=(km:Int):=by rw [IntWalk.i64_in _ (by omega)];omega
     obtain ⟨y,hy⟩:∃y,L[km-a]? = some y:=⟨_,List.getElem?_eq_getElem (by have:=HM.out;omega)⟩;have hdr:L.drop (km-a)=y::L.drop (k-a):=by
      rw [show k-a=(km-a)+1 by omega,←(List.getElem?_eq_some_iff.1 hy).2];exact List.drop_eq_getElem_cons (List.getElem?_eq_some_iff.1 hy).1
     have htk:L.take (k-a)=L.take (km-a)++[y]:=by rw [show k-a=(km-a)+1 by omega,List.take_add_one,hy];rfl
     have hlt:(L.take (km-a)).length=km-a:=by rw [List.length_take];have:=(List.getElem?_eq_some_iff.1 hy).1;omega
     rw [htk] at hd;have A_:(P++L.take (km-a)).length=km:=by rw [List.length_append,hlt,←HA.out];omega
     have hLL:P++(L.take (km-a)++[y]++x::(L.drop (k-a)++S))=(P++L.take (km-a))++y::x::(L.drop (k-a)++S):=by simp
     rw [hLL] at hd;have g1:((P++L.take (km-a))++y::x::(L.drop (k-a)++S))[km]? = some y:=f_ _ _ _ _ A_.symm;have g2:((P++L.take (km-a))++y::x::(L.drop (k-a)++S))[k]? = some x:=by
      have:=f_ ((P++L.take (km-a))++[y]) (L.drop (k-a)++S) x k (by rw [List.length_append,A_,Va];rfl);simpa using this
     have hsw:((P++L.take (km-a)++y::x::(L.drop (k-a)++S)).set k y).set km x=P++L.take (km-a)++x::y::(L.drop (k-a)++S):=by
      have h1:=set_mid ((P++L.take (km-a))++[y]) (L.drop (k-a)++S) x y k (by rw [List.length_append,A_,Va];rfl);simp only [List.append_assoc,List.cons_append,List.nil_append] at h1 ⊢;rw [h1];have h2:=set_mid (P++L.take (km-a)) (y::(L.drop (k-a)++S)) y x km A_.symm;simpa using h2
     have c1:=hd.at (o:=off+km) (by rw [HO.out]) g1;have c2:=hd.at (o:=off+k) (by rw [HO.out]) g2;have f1:=hd.frozen (off+km);have f2:=hd.frozen (off+k);have hd2:=(hd.set (o:=off+k) (by rw [HO.out]) (List.getElem?_eq_some_iff.1 g2).1 y).set (o:=off+km) (k:=km) (by rw [HO.out]) (by rw [List.length_set];exact (List.getElem?_eq_some_iff.1 g1).1) x;rw [hsw] at hd2;have HD3:=aa (show bE _ b p (P++(L.take (km-a)++x::(L.drop (km-a)++S))) q from by rw [hdr];simpa using hd2);have hkn:k<n∧km<n∧km≠k:=by omega
     have KL:=aa Va;have afh:km<k∧i≤km:=by omega
     clear Va hdr htk hlt A_ hLL g1 g2 hsw hd hd2 hy;go_wp2_with fail;go_region;go_wp2_with fail;go_roundw
     case rel=>exact ⟨km,afh.2,by omega,by first|rfl|(rw [KL.out];go_num),HD3.out.mono (ag _),(aj (aj hE hN) hN).drew⟩
     case measure=>simp [intOf];omega
    ·have z5:decide ((i:Int)<(k:Int))=false:=by simp;omega
     obtain rfl:i=k:=by omega
     have HT:=aa hd;clear hd;go_wp2_with fail;obtain ⟨s1,s2⟩:=Ib (X:=L.take (i-a)) (Y:=L.drop (i-a)) (c:=x) (by rw [List.take_append_drop];exact HU.out) hx.1 HI.out HJ.out;rw [List.take_append_drop] at s1;exact bodyPost_ret (results_none rfl _ _ _) rfl ⟨rfl,⟨_,s1,s2,by have:=HT.out;simpa using this⟩,hE⟩
end Go.Proofs.YtmpkfkoficehpaaGreatDoor
