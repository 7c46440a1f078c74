/- Texts that are alike cost, and count, the same; no condition. -/
import Derived.Test.YtmnimbnojdndmaaGreatDoorU11
set_option maxRecDepth 100000
set_option maxHeartbeats 6400000
set_option linter.all false
namespace Go.Proofs.YtmnimbnojdndmaaGreatDoor
open Go.RowKit Go.Cd _root_.Go.Proofs.Tryz
variable {K:Nat->Nat} {k b n cap p base:Nat} {l X:List Nat} {w W:World} {q:List Value} {T:List aG} {v:Value}
def VG (K:Nat->Nat) (k:Nat) (Bs:List (List Nat)):Prop:=∀B∈Bs,B.length=k/\up K B
def VG.len :∀{Bs:List (List Nat)},VG K k Bs->Bs.flatten.length=Bs.length*k
 | [],_=>by simp
 | B::Bs,h=>by
   have a:=VG.len (Bs:=Bs) λC b=>h C (by simp[b]);rw[wg,d',a,(h B (by simp)).1,hU,l3];omega
def VG.snoc {Bs:List (List Nat)} (h:VG K k Bs) {B:List Nat} (c:B.length=k) (b:up K B):VG K k (Bs++[B]):=λC a=>by
 rcases gR.1 a with a|a
 ·exact h C a
 rw[gC.1 a];exact⟨c,b⟩
def yu (K:Nat->Nat) (k:Nat) (l:List Nat):Prop:=∃Bs R,l=Bs.flatten++R/\VG K k Bs/\R.length<k/\up K R
def yu.done (h:yu K k l) (a:l.length<=k) (d:0<k):up K l:=by
 obtain⟨Bs,R,rfl,b,e,c⟩:=h;rw[d',b.len] at a
 match Bs,b,a with
 | [],_,_=>simpa using c
 | [B],b,a=>
   have:R=[]:=im.1 (by simp at a;omega);rw[this];simpa using (b B (by simp)).2
 | B::C::Bs,_,a=>
   exfalso;simp only[hU] at a;rw[l3,l3] at a;omega
def KU {w0:World} {N:Nat} (hN:N<=b) {cv:Value} (hC:zO w0 N K cv) (ac:Below N w0 w) {p:List Nat} (M:List Nat) (h:bI w b p M q) (hM:∀x∈M,0<K x/\x<1114112) {off:Nat} (ho:off=p.length) (hn:M.length=n) (rW:n<1000000) :
 Calls prog 238 #[.slice (some ⟨b,off,none⟩) n cap,.int .i64 n,ym cv] w λe w'=>e=.returned (.tuple #[])/\(∃i,fe K M i/\up K i/\bI w' b p i q)/\Below N w w':=by
 have SY:=KT hN hC (q:=q) (cap:=cap) ho rW;have IN:=λ(W:World) (m:Below N w0 W) (P L S:List Nat) (h:bI W b p (P++(L++S)) q) (hM:∀x∈L,0<K x/\x<1114112) (hn:(P++(L++S)).length=n) (a c:Nat) (ha:a=P.length) (hc:c=P.length+L.length)=>VC (w:=W) hN hC m (by have:=h.lt;omega) P L S h hM ho hn rW (cap:=cap) ha hc;have HD:=aa h;have nR:=aa hn;have HM:=aa hM;have ao:=aa SY;have aw:=aa IN;have a3:=h.lt;clear ho h hn hM hC SY IN;go_enter func238,ntmps238;go_wp2;go_loopw [7,8] (λav bv wr=>∃a g:Nat,av=.int .i64 a/\bv=.int .i64 g/\g=a+20/\a<=n/\(∃Bs R i,i=Bs.flatten++R/\VG K 20 Bs/\Bs.flatten.length=a/\fe K M i/\bI wr b p i q)/\Below N w wr) (λav _ _=>n-(intOf av).toNat)
 case atStart=>exact⟨0,20,rfl,rfl,rfl,gW _,⟨[],M,M,rfl,λ_ h=>(by cases h),rfl,fe.refl _,HD.out⟩,gO _ _⟩
 case round=>
  obtain⟨a,g,rfl,rfl,aj,a0,⟨Bs,R,i,ag,hB,an,Q,hd⟩,m⟩:=hrel;have kz:(Bs.flatten++R).length=n:=by rw[<-ag,Q.len];exact nR.out
  have aS:a+R.length=n:=by rw[d',an] at kz;exact kz
  have ER:=aa kz;have HB:=aa hB;have E:=aa an;have HS:=aa Q;have Rt:=aa ag;have l:∀x∈i,0<K x/\x<1114112:=λx V=>HM.out x (Q.mem.1 V);have D5:=aa l;have J:=aa hd;clear kz hB an Q ag l hd;by_cases aL:g<=n
  ·have z:decide ((g:Int)<=(n:Int))=true:=by simp;omega
   obtain⟨R1,R2,Ca,ak⟩:∃R1 R2,R=R1++R2/\R1.length=20:=⟨R.take 20,R.drop 20,(ke _ _).symm,by rw[iS];omega⟩;have D:=aa (aw.out wr (ac.trans m) Bs.flatten R1 R2 (by rw[<-Ca,<-Rt.out];exact J.out) (λx V=>D5.out x (by rw[Rt.out,Ca];simp[V])) (by rw[<-Ca];exact ER.out) a g E.out.symm (by rw[E.out,ak];exact aj));have fC:=aa Ca;have ar:=aa ak;obtain⟨aB,aG⟩:=ae (g+20);have e1:IntKind.i64.wrap ((g:Int)+20)=(aB:Int):=by rw[j8 _ (by omega)];omega
   have aF:=aa aG;have ax:=aa aj;clear Ca ak aG aj;go_wp2_with fail;refine D.out.mono ?_;rintro e w6⟨rfl,⟨A,s1,s2,B⟩,ab⟩;have Zr:=aa s1;have ah:=aa s2;have aK:=aa B;clear s1 s2 B D;go_wp2_with fail;go_roundw
   case rel=>
    refine⟨g,aB,rfl,by first|rfl|(rw[aF.out];go_num),aF.out,aL,⟨Bs++[A],R2,_,rfl,HB.out.snoc (by rw[Zr.out.len];exact ar.out) ah.out,?_,HS.out.trans ?_,?_⟩,m.trans ab⟩
    ·rw[ux,d',E.out];simp;rw[Zr.out.len,ar.out,ax.out]
    ·rw[Rt.out,fC.out];have:=(fe.refl (K:=K) Bs.flatten).app (Zr.out.app (fe.refl R2));simpa using this
    simpa using aK.out
   case measure=>have:=ax.out;simp[intOf];omega
  have z:decide ((g:Int)<=(n:Int))=false:=by simp;omega
  have D:=aa (aw.out wr (ac.trans m) Bs.flatten R [] (by have:=J.out;rw[Rt.out] at this;simpa using this) (λx V=>D5.out x (by rw[Rt.out];simp[V])) (by simpa using ER.out) a n E.out.symm (by rw[E.out];exact aS.symm));go_wp2_with fail;refine D.out.mono ?_;rintro e w6⟨rfl,⟨A,s1,s2,B⟩,ab⟩;have Y0:=aa (show yu K 20 (Bs.flatten++A)/\fe K M (Bs.flatten++A)/\bI w6 b p (Bs.flatten++A) q from ⟨⟨Bs,A,rfl,HB.out,by rw[s1.len];omega,s2⟩,HS.out.trans (by rw[Rt.out];exact(fe.refl _).app s1),by simpa using B⟩);have ji:=m.trans ab;clear s1 s2 B D ab m J D5 HS Rt;go_wp2_with fail;obtain⟨wi,rfl⟩:∃wi:World,wi=w6:=⟨_,rfl⟩;go_loopw [6,7,8,9] (λkv _ _ _ wr=>∃k:Nat,kv=.int .i64 k/\0<k/\k<=2*n+20/\(∃i,yu K k i/\fe K M i/\bI wr b p i q)/\Below N w wr) (λkv _ _ _ _=>n-(intOf kv).toNat)
  case atStart=>exact⟨20,rfl,by decide,by omega,⟨_,Y0.out.1,Y0.out.2.1,Y0.out.2.2⟩,ji⟩
  case round=>
   clear ji;obtain⟨k,rfl,aN,a5,⟨M1,hr,Q,hd⟩,m⟩:=hrel;have au:M1.length=n:=by rw[Q.len];exact nR.out
   by_cases a1:k<n
   ·have z8:=eG (show k<n by omega);obtain⟨B0,H,aI,aD,aX,aH⟩:=hr;obtain⟨u,aE⟩:=ae (2*k);have e2:IntKind.i64.wrap (2*(k:Int))=(u:Int):=by rw[j8 _ (by omega)];omega
    have a6:IntKind.i64.wrap ((k:Int)*2)=(u:Int):=by rw[j8 _ (by omega)];omega
    have s:=aa aE;have KO:=aa aI;have aP:=aa aD;have ay:=aa aH;have HS:=aa Q;have J:=aa hd;have l:∀x∈M1,0<K x/\x<1114112:=λx V=>HM.out x (Q.mem.1 V);have D5:=aa l;have aW:=aa au;have aZ:u<=2*n/\k<u:=by omega
    clear aE aI aD aH Q hd l au;go_wp2_with fail;obtain⟨wo,aO⟩:∃wo:World,wo=wr:=⟨_,rfl⟩;subst aO;go_loopw [7,8] (λav bv wr=>∃a T:Nat,av=.int .i64 a/\bv=.int .i64 T/\T=a+u/\a<=n/\(∃r Bs,VG K u r/\VG K k Bs/\r.flatten.length=a/\fe K M (r.flatten++(Bs.flatten++H))/\bI wr b p (r.flatten++(Bs.flatten++H)) q)/\Below N w wr) (λav _ _=>n-(intOf av).toNat)
    case atStart=>exact⟨0,u,rfl,rfl,by omega,gW _,⟨[],B0,λ_ h=>(by cases h),aP.out,rfl,by have:=HS.out;rw[KO.out] at this;simpa using this,by have:=J.out;rw[KO.out] at this;simpa using this⟩,m⟩
    case round=>
     clear m;obtain⟨a,T,rfl,rfl,O,aY,⟨r,Y,ad,d,al,o,v⟩,m⟩:=hrel;have Z:(r.flatten++(Y.flatten++H)).length=n:=by rw[o.len];exact nR.out
     have aA:=d.len;have Ob:a+Y.length*k+H.length=n:=by
      simp only[d'] at Z;rw[al,aA] at Z;omega
     have G:∀x∈r.flatten++(Y.flatten++H),0<K x/\x<1114112:=λx V=>HM.out x (o.mem.1 V);have Si:=aa G;have af:=aa al;have BA:=aa Z;clear G al Z aA;by_cases aC:T<=n
     ·have z9:decide ((T:Int)<=(n:Int))=true:=by simp;omega
      obtain⟨j,B2,Zu,rfl⟩:∃j B2 Zu,Y=j::B2::Zu:=by
       match Y,Ob with
       | [],h=>exfalso;simp at h;omega
       | [j],h=>exfalso;have:=s.out;simp at h;omega
       | j::B2::Zu,_=>exact⟨j,B2,Zu,rfl⟩
      obtain⟨f,I⟩:=d j (by simp);obtain⟨F,az⟩:=d B2 (by simp);obtain⟨am,t⟩:=ae (a+k);obtain⟨a4,ap⟩:=ae (T+u);have e3:IntKind.i64.wrap ((a:Int)+(k:Int))=(am:Int):=by rw[j8 _ (by omega)];omega
      have e4:IntKind.i64.wrap ((T:Int)+(u:Int))=(a4:Int):=by rw[j8 _ (by omega)];omega
      have D:=aa (ao.out (k+k) wr r.flatten j B2 (Zu.flatten++H) (ac.trans m) (by simpa using v) (by have:=BA.out;simpa using this) (by intro h;rw[h] at f;simp at f;omega) (by intro h;rw[h] at F;simp at F;omega) (by omega) (λy hy=>Si.out y (by simp[hy])) (λy hy=>Si.out y (by simp[hy])) I az a am T af.out.symm (by rw[t,f]) (by rw[O,s.out,t,F];omega));have aU:=aa d;have ai:=aa o;have U:=aa f;have aq:=aa F;have aJ:=aa O;have aT:=aa ap;clear d o v f F I az t O ap Ob;go_wp2_with fail;refine D.out.mono ?_;rintro e w8⟨rfl,⟨A,s1,s2,Fz⟩,iH⟩;have Zr:=aa s1;have ah:=aa s2;have aV:=aa Fz;clear s1 s2 Fz D;go_wp2_with fail;go_roundw
      case rel=>
       refine⟨T,a4,rfl,rfl,aT.out,aC,⟨r++[A],Zu,VG.snoc (by assumption) (by rw[Zr.out.len,d',U.out,aq.out,s.out];omega) ah.out,λC hC=>aU.out C (by simp[hC]),?_,ai.out.trans ?_,by simpa using aV.out⟩,m.trans iH⟩
       ·rw[ux,d',af.out];simp;rw[Zr.out.len,d',U.out,aq.out,aJ.out,s.out];omega
       have:=(fe.refl (K:=K) r.flatten).app (Zr.out.app (fe.refl (Zu.flatten++H)));simpa using this
      case measure=>have:=aJ.out;simp[intOf];omega
     have z9:decide ((T:Int)<=(n:Int))=false:=by simp;omega
     obtain⟨am,t⟩:=ae (a+k);have e3:IntKind.i64.wrap ((a:Int)+(k:Int))=(am:Int):=by rw[j8 _ (by omega)];omega
     by_cases Ja:am<n
     ·have aQ:=eG (show am<n by omega);obtain⟨j,rfl⟩:∃j,Y=[j]:=by
       match Y,Ob with
       | [],h=>exfalso;simp at h;omega
       | [j],_=>exact⟨j,rfl⟩
       | j::B2::Zu,h=>exfalso;have:=s.out;simp only[hU] at h;rw[l3,l3] at h;omega
      obtain⟨f,I⟩:=d j (by simp);have X:am+H.length=n:=by simp at Ob;omega
      have D:=aa (ao.out (k+k) wr r.flatten j H [] (ac.trans m) (by simpa using v) (by have:=BA.out;simpa using this) (by intro h;rw[h] at f;simp at f;omega) (by intro h;rw[h] at X;simp at X;omega) (by omega) (λy hy=>Si.out y (by simp[hy])) (λy hy=>Si.out y (by simp[hy])) I ay.out a am n af.out.symm (by rw[t,f]) X.symm);have aM:=aa ad;have ai:=aa o;have U:=aa f;clear d ad o v f I t O Ob X;go_wp2_with fail;refine D.out.mono ?_;rintro e w8⟨rfl,⟨A,s1,s2,Fz⟩,iH⟩
      have qY:=aa (show ∃i,yu K u i/\fe K M i/\bI w8 b p i q from ⟨r.flatten++A,⟨r,A,rfl,aM.out,by rw[s1.len,d',U.out,s.out];omega,s2⟩,ai.out.trans (by
       have:=(fe.refl (K:=K) r.flatten).app s1
       simpa using this),by simpa using Fz⟩)
      clear s1 s2 Fz D;go_wp2_with fail;go_roundw
      case rel=>exact⟨u,rfl,by omega,by omega,qY.out,m.trans iH⟩
      case measure=>simp[intOf];omega
     have aQ:=gI (show n<=am by omega)
     have qY:=aa (show ∃i,yu K u i/\fe K M i/\bI wr b p i q from by
      refine⟨_,⟨r,Y.flatten++H,rfl,ad,?_,?_⟩,o,v⟩
      ·rw[d',d.len];omega
      match Y,Ob,d with
      | [],_,_=>simpa using ay.out
      | [j],h,d=>
        have:H=[]:=im.1 (by simp at h;omega);rw[this];simpa using (d j (by simp)).2
      | j::B2::Zu,h,_=>exfalso;have:=s.out;simp only[hU] at h;rw[l3,l3] at h;omega)
     clear d ad o v t O Ob;go_wp2_with fail;go_roundw
     case rel=>exact⟨u,rfl,by omega,by omega,qY.out,m⟩
     case measure=>simp[intOf];omega
   have z8:=gI (show n<=k by omega);have aR:=hr.done (by omega) aN;go_wp2_with fail
   go_end0
   exact⟨rfl,⟨M1,Q,aR,hd⟩,m⟩
def Su (x y:Nat) (m:x<1000000) (l:y<1000000) :
 Calls prog 205 #[.int .i64 x,.int .i64 y] w λe w'=>e=.returned (.int .i64 (wP x y))/\w'=w:=by
 have g:∀z:Int,Calls prog 237 #[.int .i64 z] w λe w'=>e=.returned (.bool false)/\w'=w:=λz=>by
  go_enter func237,ntmps237;go_wp2;go_ret;exact⟨by simp,rfl⟩
 have h:=aa g;obtain⟨r,f⟩:=ae (wP x y);have a:=aa f;clear g f;rw[<-a.out];go_enter func205,ntmps205;go_wp2_with fail;refine(h.out _).mono ?_;rintro e d⟨rfl,c⟩;obtain rfl:d=w:=c;go_wp2_with fail;refine(h.out _).mono ?_;rintro e j⟨rfl,c⟩;obtain rfl:j=d:=c;by_cases b:x<y
 ·have z:=eG (show x<y by omega);go_wp2_with fail;go_ret;exact⟨by rw[a.out];unfold wP;rw[if_pos b];rfl,rfl⟩
 have z:=gI (show y<=x by omega);by_cases i:y<x
 ·have k:=eG (show y<x by omega);go_wp2_with fail;go_ret;exact⟨by rw[a.out];unfold wP;rw[if_neg b,if_pos i];rfl,rfl⟩
 have k:=gI (show x<=y by omega);go_wp2_with fail;go_ret;exact⟨by rw[a.out];unfold wP;rw[if_neg b,if_neg i];rfl,rfl⟩
def Sv {m:Nat} (h:cK w p T X) (s:aY T X) (G:w.cell? ⟨m,0,none⟩=some (.pointer (some ⟨p,0,none⟩))) (a b:Nat) (D:a<1114112) (B:b<1114112) :
 Calls prog 204 #[.int .i32 a,.int .i32 b,.pointer (some ⟨m,0,none⟩)] w λe w'=>e=.returned (.int .i64 (wP (ai T a) (ai T b)))/\Below w.heap.size w w':=by
 have f:∀c,ai T c<1000000:=λc=>by
  unfold ai;cases e:rowOf T c with
  | none=>decide
  | some r=>
    have:=(s.fine r (gy e).1).2.1;show r.cls<1000000;omega
 have k:=aa (λ(W:World) (E:Below w.heap.size w W) c (F:c<1114112)=>iM (h.mono E) s c F);have o:=f a;have n:=f b;obtain⟨x,u⟩:=ae (ai T a);obtain⟨y,j⟩:=ae (ai T b);have v:=aa (λ(W:World) (E:Below w.heap.size w W)=>k.out W E a D);have t:=aa (λ(W:World) (E:Below w.heap.size w W)=>k.out W E b B);rw[<-u] at v o⊢;rw[<-j] at t n⊢;have:=Gr.cell (ag w) G;have l:=aa (λW=>Su (w:=W) x y o n);obtain⟨r,z⟩:=ae (wP x y);rw[<-z] at l⊢;clear h f k u j z;go_enter func204,ntmps204;go_wp2_with fail;refine aC (Array.replicate 8 true) 8 0 mixed ?_;refine ay [0,1,3,4] 4 ?_
 iterate 4 (refine aA rfl ?_;go_big_quiet_step (rfl))
 refine az ?_;refine aI 2 ?_;go_wp2_with fail;refine(v.out w.drew (ag w)).mono ?_;rintro e C⟨rfl,g⟩;go_wp2_with fail;refine aF g ?_;have d:=af (ag w) g;refine aI 5 ?_;go_wp2_with fail;refine(t.out C d).mono ?_;rintro e q⟨rfl,i⟩;go_wp2_with fail;refine aF i ?_;refine aI 6 ?_;go_wp2_with fail;refine(l.out q).mono ?_;rintro e A⟨rfl,H⟩;obtain rfl:A=q:=H;go_wp2_with fail;refine aF (gO _ _) ?_;refine ay [7] 0 ?_
 iterate 1 (refine aA rfl ?_;go_big_quiet_step (rfl))
 refine az ?_;refine aJ [] ?_;refine tail_nil ?_;go_wp2_with fail;go_ret;exact⟨rfl,af d i⟩
def FB {k:World} {N:Nat} (o:N<=b) {j:Value} (l:zO k N K j) (c:Below N k w) {p:List Nat} (M:List Nat) (h:bI w b p M q) (d:∀x∈M,0<K x/\x<1114112) {off:Nat} (g:off=p.length) (f:M.length=n) (r:n<1000000) :
 Calls prog 206 #[.slice (some ⟨b,off,none⟩) n cap,ym j] w λe w'=>e=.returned (.tuple #[])/\(∃a,fe K M a/\up K a/\bI w' b p a q)/\Below N w w':=by
 have m:=aa (KU o l c M h d g f r (cap:=cap));clear h d g l f;go_enter func206,ntmps206;go_wp2_with fail;refine m.out.mono ?_;rintro e u⟨rfl,i,t⟩;have s:=aa i;clear i;go_wp2_with fail
 go_end0
 exact⟨rfl,s.out,t⟩
def Cb {m:List Nat} (e:dJ K l) (d:dJ K m) (h0:∀a,l.getLast? = some a->K a=0):dJ K (l++m):=by
 induction l with
 | nil=>exact d
 | cons a l ih=>
   cases l with
   | nil=>
     cases m with
     | nil=>trivial
     | cons c m=>exact⟨by unfold swp;have:=h0 a rfl;omega,d⟩
   | cons b l=>exact⟨e.1,ih e.2 λz f=>h0 z (by rw[List.getLast?_cons_cons];exact f)⟩
def KV (K:Nat->Nat):∀l:List Nat,(gL K l).length=l.length:=by
 have a:∀(c:Nat) (l:List Nat),(j_ K c l).length=l.length+1:=λc l=>by
  induction l with
  | nil=>rfl
  | cons d l ih=>unfold j_;split <;> simp[ih]
 intro l
 induction l with
 | nil=>rfl
 | cons c l ih=>unfold gL;rw[a,ih];rfl
def KW (K:Nat->Nat) {x:Nat}:∀{l:List Nat},x∈gL K l↔x∈l:=by
 have a:∀(c:Nat) (l:List Nat),x∈j_ K c l↔x=c\/x∈l:=λc l=>by
  induction l with
  | nil=>simp[j_]
  | cons d l ih=>
    unfold j_
    split
    ·rw[jf,ih,jf];exact or_left_comm
    rw[jf]
 intro l
 induction l with
 | nil=>simp[gL]
 | cons c l ih=>unfold gL;rw[a,ih,jf]
def bI.split {A G D:List Nat} :bI W b [] (A++(G++D)) q↔bI W b A G (aM D++q):=by
 unfold bI;have e:aM []++(aM (A++(G++D))++q)=aM A++(aM G++(aM D++q)):=by
  rw[a_,a_];simp[aM]
 rw[e]
def bI.aU (h:W.ownsRow base aN 1 (.slice (some ⟨b,0,none⟩) n cap) n (aM l)):∃q,bI W b [] l q/\n+q.length=cap/\l.length=n/\base<=b/\cap<=maxLen:=by
 have i:l.length=n:=by have:=h.1;simpa using this
 rcases h.2 with⟨e,_⟩|⟨g,c,a,e,k,f,p,d,o,j⟩
 ·cases e
 injection e with e1 _ e3;injection e1 with e1;injection e1 with e1;subst e1;subst e3;refine⟨a.toList.drop n,⟨?_⟩,?_,i,k,d⟩
 ·have m:(aM []++(aM l++a.toList.drop n)).toArray=a:=by
   rw[<-j,qK];simp[aM]
  rw[m];exact f
 rw[ps,td,o];omega
def bI.own (h:bI W b [] l q) (d:n+q.length=cap) (a:l.length=n) (c:base<=b) (e:cap<=maxLen):W.ownsRow base aN 1 (.slice (some ⟨b,0,none⟩) n cap) n (aM l):=by
 refine⟨by simp[a],.inr ⟨b,cap,_,rfl,c,Is.at_ h,by omega,e,?_,?_⟩⟩
 ·simp[aM,a,d]
 simp[aM,<-a]
def acG (K:Nat->Nat) (n f:Nat) (l:List Nat):Prop:=(f<=n/\∃A C,l=A++C/\A.length=f/\dJ K A/\∀a,A.getLast? = some a->K a=0)\/(f=n+1/\dJ K l)
def VH (h:cK w p T X) (hV:aY T X) (l:List Nat) (hv:Sl aN w v (aM l)) (hp:fU v) (hc:∀c∈l,c<1114112) (aS:l.length<100000) :
 Calls prog 169 #[.pointer (some ⟨p,0,none⟩),v] w λe w'=>∃r,e=.returned r/\w'.ownsRow w.heap.size aN 1 r l.length (aM (gL (ai T) l))/\Below w.heap.size w w':=by
 obtain⟨K,hK⟩:=ae (ai T);obtain⟨j,M⟩:=ae (w.alloc (.cells #[.pointer (some ⟨p,0,none⟩)] 29));have m:=aO M;have k1:=Is.nw M;have CL:=aa (kX l (hv.mono m) hp (by omega));have av:zO j j.heap.size K (.pointer (some ⟨w.heap.size,0,none⟩)):=λW hW a b ha hb=>by
  rw[hK];exact Sv (h.mono (m.trans (hW.mono m.size))) hV ((k1.mono hW).at 0 rfl) a b ha hb
 have aE:=aa av;have ad:=aa (λ(W:World) (E:Below j.heap.size j W) c (hc:c<1114112)=>iM (h.mono (m.trans (E.mono m.size))) hV c hc);rw[<-hK] at ad⊢;have HC:=aa hc;obtain⟨va,vn,vc,rfl,_⟩:=id hp;have R:=m.size;obtain⟨n,hn⟩:=ae l.length;rw[<-hn] at CL aS⊢;have HN:=aa hn;clear h hv hp hc av hK hn;go_enter func169,ntmps169;go_wp2_with fail;rw[<-M];clear M;refine CL.out.mono ?_;rintro e w2⟨r,rfl,ho,U⟩;have NP:=af m U;by_cases ab:l=[]
 ·subst ab;obtain rfl:n=0:=HN.out;obtain⟨a,cap,rfl,_,_⟩:=ak ho;have HO:=aa ho;clear ho;go_wp2_with fail;refine wp_loop_rounds 1 ?_;rw[rounds_succ];go_wp2_with fail;exact bodyPost_ret (results_tmp rfl _ _ _) rfl ⟨_,rfl,aT HO.out R,NP⟩
 have aR:0<n:=by rw[HN.out];exact jz.2 ab
 obtain⟨b,cap,rfl,_,_,_,_,_⟩:=dz ho aR;obtain⟨q,hd,hq,_,hb,ao⟩:=bI.aU ho;have a1:n<=cap:=by omega
 have HQ:=aa (And.intro hq ao);have HD:=aa hd;have aB:Below j.heap.size j w2:=U;have a6:=k1.mono U;clear hd ho hq ao ab CL;go_wp2_with fail;go_loopw [7,8] (λfv _ wr=>∃f:Nat,f<=n+1/\fv=.int .i64 f/\(∃s,acG K n f s/\fe K l s/\bI wr b [] s q)/\Below j.heap.size j wr) (λfv _ _=>n+1-(intOf fv).toNat)
 case atStart=>exact⟨0,by omega,rfl,⟨l,.inl ⟨gW _,[],l,rfl,rfl,trivial,λa h=>by cases h⟩,fe.refl _,HD.out⟩,aB⟩
 case round=>
  obtain⟨f,a5,rfl,⟨s,hS,Sw,hd⟩,H⟩:=hrel;have B:s.length=n:=by rw[Sw.len];exact HN.out.symm
  by_cases a3:f<n
  ·have z:=eG (show f<n by omega);obtain⟨A,C,au,hA,aD,ax⟩:∃A C,s=A++C/\A.length=f/\dJ K A/\∀a,A.getLast? = some a->K a=0:=by
    rcases hS with⟨_,h⟩|⟨h,_⟩
    ·exact h
    omega
   have aQ:=aa au;have HA:=aa hA;have L:=aa (And.intro aD ax);have ah:=aa Sw;have aZ:=aa hd;have a0:=aa B;have an:=hd.lt;have VJ:∀x∈s,x<1114112:=λx hx=>HC.out x (Sw.mem.1 hx);have Ro:=aa VJ;clear hS Sw au hA aD ax hd B VJ;go_wp2_with fail;obtain⟨wo,aX⟩:∃wo:World,wo=wr:=⟨_,rfl⟩;subst aX;go_loopw [8] (λtv wr=>∃t:Nat,f<=t/\t<=n/\tv=.int .i64 t/\(∃G D,C=G++D/\G.length+f=t/\∀x∈G,0<K x)/\bI wr b [] s q/\Below j.heap.size j wr) (λtv _=>n-(intOf tv).toNat)
   case atStart=>exact⟨f,gw _,by omega,rfl,⟨[],C,rfl,by simp,by simp⟩,aZ.out,H⟩
   case round=>
    clear H an;obtain⟨t,a2,a4,rfl,⟨G,D,N,Qq,ap⟩,hd,H⟩:=hrel;have Z:s=A++(G++D):=by rw[aQ.out,N]
    have aw:t+D.length=n:=by
     have:=a0.out;rw[Z] at this;simp only[d'] at this;have:=HA.out;omega
    have an:=hd.lt;have aH:=aa N;have u:=aa Qq;have ac:=aa ap;have V:=aa Z;have Q:=aa hd;have GN:=aa aw;clear N Qq ap Z hd aw;by_cases ht:t<n
    ·have z2:=eG (show t<n by omega);obtain⟨x,I,rfl⟩:∃x I,D=x::I:=by
      cases D with
      | nil=>have:=GN.out;simp at this;omega
      | cons x I=>exact⟨x,I,rfl⟩
     have g1:s[t]? = some x:=by
      have:=gM (A++G) I x t (by rw[d',HA.out];have:=u.out;omega);rw[V.out];simpa using this
     have al:=Ro.out x (lA g1);have c1:=Q.out.at (o:=t) (by simp) g1;have E0:=ag wr;have q1:=Gr.cell E0 c1;have q2:=Gr.cell E0 ((k1.mono H).at 0 rfl);have CC:=aa (ad.out wr.drew H.drew x al);obtain⟨kx,Y⟩:=ae (K x);rw[<-Y] at CC;have KP:=aa Y;clear g1 al c1 Y;go_wp2_with fail;refine aC (Array.replicate 13 true) 13 0 mixed ?_;refine ay [0,1,2,3,4,5,6,7,8,9] 3 ?_
     iterate 10 (refine aA rfl ?_;go_big_quiet_step (rfl))
     refine az ?_;refine aI 10 ?_;go_wp2_with fail;refine CC.out.mono ?_;rintro e w6⟨rfl,J⟩;go_wp2_with fail;refine aF J ?_;refine ay [11,12] 0 ?_
     iterate 2 (refine aA rfl ?_;go_big_quiet_step (rfl))
     refine az ?_;refine aJ [] ?_;refine tail_nil ?_;have ji:=H.drew.trans (J.mono (by show j.heap.size<=wr.heap.size;have:=H.size;omega));have am:=aa (Q.out.mono (af E0 J));clear q1 q2 CC E0 J;by_cases aW:0<kx
     ·have z3:decide ((0:Int)<(kx:Int))=true:=decide_eq_true (by omega);obtain⟨t1,k⟩:=ae (t+1);have e1:IntKind.i64.wrap ((t:Int)+1)=(t1:Int):=by rw[j8 _ (by omega)];omega
      have i:=aa k
      have qY:=aa (show ∃G D,C=G++D/\G.length+f=t+1/\∀x∈G,0<K x from ⟨G++[x],I,by rw[aH.out];simp,by rw[d'];have:=u.out;simp;omega,λy F=>by
       rcases gR.1 F with F|F
       ·exact ac.out y F
       rw[gC.1 F,<-KP.out];exact aW⟩)
      clear k;go_wp2_with fail;go_roundw
      case rel=>exact⟨t+1,by omega,by omega,by have:=i.out;simp;omega,qY.out,am.out,ji⟩
      case measure=>have:=i.out;simp[intOf];omega
     have z3:decide ((0:Int)<(kx:Int))=false:=decide_eq_false (by omega);have ar:kx=0:=by omega
     have aq:=aa ar;have aV:f≠cap:=by omega
     have g:=aa (show ∀d,Calls prog 206 #[.slice (some ⟨b,f,none⟩) (t-f) d,ym (.pointer (some ⟨w.heap.size,0,none⟩))] w6 λe w'=>e=.returned (.tuple #[])/\(∃P,fe K G P/\up K P/\bI w' b A P (aM (x::I)++q))/\Below j.heap.size j w' from λd=>(FB hb aE.out ji G (bI.split.1 (by have:=am.out;rw[V.out] at this;exact this)) (λy F=>⟨ac.out y F,Ro.out y (by rw[V.out];simp[F])⟩) HA.out.symm (by have:=u.out;omega) (by omega) (cap:=d)).mono λe w' ⟨S,h2,h3⟩=>⟨S,h2,ji.trans h3⟩);obtain⟨t1,k⟩:=ae (t+1);have e1:IntKind.i64.wrap ((t:Int)+1)=(t1:Int):=by rw[j8 _ (by omega)];omega
     have i:=aa k;clear k ar;have aL:f<=t/\t<=cap:=by omega
     go_wp2_with fail;refine(g.out _).mono ?_;rintro e w8⟨rfl,⟨G',s1,s2,Fz⟩,kL⟩
     have qY:=aa (show ∃O,acG K n (t+1) O/\fe K l O/\bI w8 b [] O q from by
      refine⟨A++(G'++(x::I)),.inl ⟨by omega,A++(G'++[x]),I,by simp,?_,?_,λa ha=>?_⟩,ah.out.trans ?_,bI.split.2 Fz⟩
      ·rw[d',d',s1.len,HA.out];have:=u.out;simp;omega
      ·refine Cb L.out.1 (Sb K (BR K s2) trivial λc hc=>?_) L.out.2;cases hc;rw[<-KP.out];exact aq.out
      ·rw[show A++(G'++[x])=(A++G')++[x] by simp,l4] at ha;injection ha with ha;rw[<-ha,<-KP.out];exact aq.out
      rw[V.out]
      exact(fe.refl A).app (s1.app (fe.refl _)))
     clear s1 s2 Fz g;go_wp2_with fail;go_roundw
     case rel=>exact⟨t+1,by omega,by have:=i.out;simp;omega,qY.out,kL⟩
     case measure=>have:=i.out;simp[intOf];omega
    have z2:=gI (show n<=t by omega);obtain rfl:n=t:=by omega
    obtain rfl:D=[]:=im.1 (by have:=GN.out;omega);have aV:f≠cap:=by omega
    have aL:f<=n/\n<=cap:=by omega
    have g:=aa (show ∀nq d,Calls prog 206 #[.slice (some ⟨b,f,none⟩) (n-f) d,ym (.pointer (some ⟨w.heap.size,0,none⟩))] (wr.drewN nq) λe w'=>e=.returned (.tuple #[])/\(∃P,fe K G P/\up K P/\bI w' b A P (aM []++q))/\Below j.heap.size j w' from λnq d=>
     have ji:Below j.heap.size j (wr.drewN nq):=H.trans ⟨rfl,rfl,rfl,gw _,λ_ _=>rfl⟩
     (FB hb aE.out ji G (bI.split.1 (by have:=Q.out;rw[V.out] at this;exact this.mono ⟨rfl,rfl,rfl,gw _,λ_ _=>rfl⟩)) (λy F=>⟨ac.out y F,Ro.out y (by rw[V.out];simp[F])⟩) HA.out.symm (by have:=u.out;omega) (by omega) (cap:=d)).mono λe w' ⟨S,h2,h3⟩=>⟨S,h2,ji.trans h3⟩)
    obtain⟨t1,k⟩:=ae (n+1);have e1:IntKind.i64.wrap ((n:Int)+1)=(t1:Int):=by rw[j8 _ (by omega)];omega
    have i:=aa k;clear k H;go_wp2_with fail;go_quiet (fail);go_wp2_with fail;refine(g.out _ _).mono ?_;rintro e w8⟨rfl,⟨G',s1,s2,Fz⟩,kL⟩
    have qY:=aa (show ∃O,acG K n (n+1) O/\fe K l O/\bI w8 b [] O q from by
     refine⟨A++(G'++[]),.inr ⟨rfl,?_⟩,ah.out.trans ?_,bI.split.2 Fz⟩
     ·rw[lE];exact Cb L.out.1 (BR K s2) L.out.2
     rw[V.out]
     exact(fe.refl A).app (s1.app (fe.refl _)))
    clear s1 s2 Fz g;go_wp2_with fail;go_roundw
    case rel=>exact⟨n+1,by omega,by have:=i.out;simp;omega,qY.out,kL⟩
    case measure=>have:=i.out;simp[intOf];omega
  have z:=gI (show n<=f by omega);have aj:dJ K s:=by
   rcases hS with⟨S,A,C,h2,h3,h4,_⟩|⟨_,h⟩
   ·have:C=[]:=by
     rw[h2,d'] at B;exact im.1 (by omega)
    rw[h2,this,lE];exact h4
   exact h
  have hL:s=gL K l:=by
   have S:=Sw.2 [] [];simp only[ks,lE] at S;rw[S,uI K aj]
  have aP:=aa (hd.own HQ.out.1 B hb HQ.out.2);have aK:=aa hL;clear hS Sw hd aj hL B;go_wp2_with fail;go_ret;exact⟨_,rfl,by rw[<-aK.out];exact aT aP.out R,m.trans (H.mono R)⟩
def lW (l:List Nat):List Nat:=l.flatMap fI
def Oc (l:List Nat) (x:Nat):lW (l++[x])=lW l++fI x:=by simp[lW]
def FC (l:List Nat):(lW l).map UInt8.ofNat=dQ l:=by
 induction l with
 | nil=>rfl
 | cons c l ih=>unfold lW dQ at *;rw[iR,iR,js,ih];rfl
def Sy (l:List Nat):(lW l).length=(dQ l).length:=by rw[<-FC,ia]
def VK (h:∀x∈l,x<1114112):∀d∈lW l,d<256:=by
 intro d hd;obtain⟨c,a,hd⟩:=lP.1 hd;exact GI (h c a) d hd
def or_zero:∀c:Nat,c<128->bits .or .u8 0 (c:Int)=(c:Int):=by decide
def Sz (hH:dB w) {m:Nat} {z:List Nat} (o:w.ownsRow base tF 1 v m (mR z)) (a:base<=w.heap.size) (hm:m<10000000) (c:Nat) (hc:aP c) (h0:0<base) :
 Calls prog 129 #[v,.int .i32 c] w λe w'=>∃r,e=.returned r/\w'.ownsRow base tF 1 r (m+fH c) (mR (z++fI c))/\Below base w w':=by
 have hw:=oU c;have Uq:=hc.1;have Z:=aa hH;obtain⟨n,Y⟩:=ae (fH c);have U:=aa (show ∀W,dB W->Calls prog 131 #[.int .i32 c] W λe w'=>e=.returned (.int .i64 n)/\w'=W from λW h=>by rw[Y];exact y_ h c hc);have A:=aa Y;rw[<-Y] at hw;obtain⟨H,G,rfl,_,_⟩:=ak o;have l:=aa o;have ab:n=1\/n=2\/n=3\/n=4:=by omega
 obtain⟨V,T,S,k3,X,R,k6,k7,k8,k9,F,E⟩:=hH;clear Y hw o;rcases ab with rfl|rfl|rfl|rfl
 ·have q:=aa (show fI c=[c] from by have:=A.out;unfold fH at this;unfold fI;(repeat' split at this) <;> first|omega|simp[*]);have ac:=or_zero c (by have:=A.out;unfold fH at this;(repeat' split at this) <;> omega);go_enter func129,ntmps129;go_wp2_with fail;refine(U.out _ Z.out).mono ?_;rintro e f⟨rfl,rfl⟩;go_wp2_with fail;obtain⟨p,b⟩:=ae (f.alloc (.cells #[.int .u8 0,.int .u8 127,.int .i32 0] 225));have j:=aO b;have M:p.cell? ⟨f.heap.size,0,none⟩=some (.int .u8 0):=by rw[b];unfold World.cell?;rw[heap_alloc_new];rfl
  rw[<-b];clear b V T S k3 X R k6 k7 k8 k9 F E;have g0:=Gr.cell (ag p) M;have bb:(c:Int)<128:=by have:=A.out;unfold fH at this;(repeat' split at this) <;> omega
  refine aC #[true,true,true,true,true,true,true,true,true,true,true,false,false] 11 2 mixed ?_;refine ay [0,1,2,3,4,5,6,7,8,9] 1 ?_
  iterate 10 (refine aA rfl ?_;go_big_quiet_step (rfl))
  refine az ?_;refine aI 10 ?_;go_wp2_with fail;refine aF (ah _) ?_;refine aJ [11,12] ?_;refine tail_cons rfl ?_;have d:=aa ((gO f.heap.size f).trans (j.trans (ag p |>.mono j.size)));have D:=aa (aH l.out d.out);have L:=d.out.size;refine f_ (W:=p.drew) rfl _ _ 163 rfl base tF _ 1 nL (.slice H m G) m (mR z) rfl D.out _ rfl rfl (by omega) (by unfold maxLen;omega) f (d.out.mono a) a ?_;intro v4 w4 u i _ _;obtain⟨J,K,rfl,_,_⟩:=ak u;have C:=aa u;clear u D l;refine tail_cons rfl ?_;go_wp2_with fail;refine tail_nil ?_;go_wp2_with fail
  have B:=aa (show w4.ownsRow base tF 1 (.slice J (m+1) K) (m+1) (mR (z++(fI c).take 1)) from by
   have:=C.out;rw[q.out]
   simpa [mR] using this)
  go_loopw [0,7] (λN y wr=>∃k:Nat,k+1<=1/\y=.int .i64 ((1:Int)-2-k)/\wr.ownsRow base tF 1 N (m+1+k) (mR (z++(fI c).take (k+1)))/\Below base f wr) (λ_ y _=>((intOf y)+1).toNat)
  case atStart=>exact⟨0,by decide,rfl,B.out,i⟩
  case round=>
   clear B C i d L;obtain⟨k,hk,rfl,o,s⟩:=hrel;obtain⟨H,G,rfl,_,_⟩:=ak o;have l:=aa o;have I:=s.size;clear o;have x:k=0:=by omega
   rcases x with rfl
   ·go_wp2;go_ret
    exact⟨_,rfl,by
     have:=l.out;rw[<-A.out];rw[q.out] at this⊢
     simpa [mR] using this,s⟩
 ·have q:=aa (show fI c=[192+c / 64,128+c % 64] from by have:=A.out;unfold fH at this;unfold fI;(repeat' split at this) <;> first|omega|simp[*]);go_enter func129,ntmps129;go_wp2_with fail;refine(U.out _ Z.out).mono ?_;rintro e f⟨rfl,rfl⟩;go_wp2_with fail;obtain⟨p,b⟩:=ae (f.alloc (.cells #[.int .u8 192,.int .u8 31,.int .i32 128] 225));have j:=aO b;have M:p.cell? ⟨f.heap.size,0,none⟩=some (.int .u8 192):=by rw[b];unfold World.cell?;rw[heap_alloc_new];rfl
  rw[<-b];clear b V T S k3 X R k6 k7 k8 k9 F E;have g0:=Gr.cell (ag p) M;have bb:(c:Int)<2048:=by have:=A.out;unfold fH at this;(repeat' split at this) <;> omega
  refine aC #[true,true,true,true,true,true,true,true,true,true,true,false,false] 11 2 mixed ?_;refine ay [0,1,2,3,4,5,6,7,8,9] 1 ?_
  iterate 10 (refine aA rfl ?_;go_big_quiet_step (rfl))
  refine az ?_;refine aI 10 ?_;go_wp2_with fail;refine aF (ah _) ?_;refine aJ [11,12] ?_;refine tail_cons rfl ?_;have d:=aa ((gO f.heap.size f).trans (j.trans (ag p |>.mono j.size)));have D:=aa (aH l.out d.out);have L:=d.out.size;refine f_ (W:=p.drew) rfl _ _ 163 rfl base tF _ 1 nL (.slice H m G) m (mR z) rfl D.out _ rfl rfl (by omega) (by unfold maxLen;omega) f (d.out.mono a) a ?_;intro v4 w4 u i _ _;obtain⟨J,K,rfl,_,_⟩:=ak u;have C:=aa u;clear u D l;refine tail_cons rfl ?_;go_wp2_with fail;refine tail_nil ?_;go_wp2_with fail
  have B:=aa (show w4.ownsRow base tF 1 (.slice J (m+1) K) (m+1) (mR (z++(fI c).take 1)) from by
   have:=C.out;rw[q.out]
   simpa [mR] using this)
  go_loopw [0,7] (λN y wr=>∃k:Nat,k+1<=2/\y=.int .i64 ((2:Int)-2-k)/\wr.ownsRow base tF 1 N (m+1+k) (mR (z++(fI c).take (k+1)))/\Below base f wr) (λ_ y _=>((intOf y)+1).toNat)
  case atStart=>exact⟨0,by decide,rfl,B.out,i⟩
  case round=>
   clear B C i d L;obtain⟨k,hk,rfl,o,s⟩:=hrel;obtain⟨H,G,rfl,_,_⟩:=ak o;have l:=aa o;have I:=s.size;clear o;have x:k=0\/k=1:=by omega
   rcases x with rfl|rfl
   ·go_wp2_with (at_builtin;refine f_ rfl _ _ 163 rfl base tF _ 1 nL _ (m+1+0) _ rfl l.out _ rfl rfl (by omega) (by unfold maxLen;omega) f s a ?_;intro O w5 t g _ _;obtain⟨P,Q,rfl,_,_⟩:=ak t);go_roundw
    case rel=>exact⟨1,by decide,congrArg (Value.int .i64) (by omega),by
     have:=t;rw[q.out] at this⊢
     simpa [mR] using this,g⟩
    case measure=>simp[intOf]
   go_wp2;go_ret
   exact⟨_,rfl,by
    have:=l.out;rw[<-A.out];rw[q.out] at this⊢
    simpa [mR] using this,s⟩
 ·have q:=aa (show fI c=[224+c / 4096,128+c / 64 % 64,128+c % 64] from by have:=A.out;unfold fH at this;unfold fI;(repeat' split at this) <;> first|omega|simp[*]);go_enter func129,ntmps129;go_wp2_with fail;refine(U.out _ Z.out).mono ?_;rintro e f⟨rfl,rfl⟩;go_wp2_with fail;obtain⟨p,b⟩:=ae (f.alloc (.cells #[.int .u8 224,.int .u8 15,.int .i32 2048] 225));have j:=aO b;have M:p.cell? ⟨f.heap.size,0,none⟩=some (.int .u8 224):=by rw[b];unfold World.cell?;rw[heap_alloc_new];rfl
  rw[<-b];clear b V T S k3 X R k6 k7 k8 k9 F E;have g0:=Gr.cell (ag p) M;have bb:(c:Int)<65536:=by have:=A.out;unfold fH at this;(repeat' split at this) <;> omega
  refine aC #[true,true,true,true,true,true,true,true,true,true,true,false,false] 11 2 mixed ?_;refine ay [0,1,2,3,4,5,6,7,8,9] 1 ?_
  iterate 10 (refine aA rfl ?_;go_big_quiet_step (rfl))
  refine az ?_;refine aI 10 ?_;go_wp2_with fail;refine aF (ah _) ?_;refine aJ [11,12] ?_;refine tail_cons rfl ?_;have d:=aa ((gO f.heap.size f).trans (j.trans (ag p |>.mono j.size)));have D:=aa (aH l.out d.out);have L:=d.out.size;refine f_ (W:=p.drew) rfl _ _ 163 rfl base tF _ 1 nL (.slice H m G) m (mR z) rfl D.out _ rfl rfl (by omega) (by unfold maxLen;omega) f (d.out.mono a) a ?_;intro v4 w4 u i _ _;obtain⟨J,K,rfl,_,_⟩:=ak u;have C:=aa u;clear u D l;refine tail_cons rfl ?_;go_wp2_with fail;refine tail_nil ?_;go_wp2_with fail
  have B:=aa (show w4.ownsRow base tF 1 (.slice J (m+1) K) (m+1) (mR (z++(fI c).take 1)) from by
   have:=C.out;rw[q.out]
   simpa [mR] using this)
  go_loopw [0,7] (λN y wr=>∃k:Nat,k+1<=3/\y=.int .i64 ((3:Int)-2-k)/\wr.ownsRow base tF 1 N (m+1+k) (mR (z++(fI c).take (k+1)))/\Below base f wr) (λ_ y _=>((intOf y)+1).toNat)
  case atStart=>exact⟨0,by decide,rfl,B.out,i⟩
  case round=>
   clear B C i d L;obtain⟨k,hk,rfl,o,s⟩:=hrel;obtain⟨H,G,rfl,_,_⟩:=ak o;have l:=aa o;have I:=s.size;clear o;have x:k=0\/k=1\/k=2:=by omega
   rcases x with rfl|rfl|rfl
   ·go_wp2_with (at_builtin;refine f_ rfl _ _ 163 rfl base tF _ 1 nL _ (m+1+0) _ rfl l.out _ rfl rfl (by omega) (by unfold maxLen;omega) f s a ?_;intro O w5 t g _ _;obtain⟨P,Q,rfl,_,_⟩:=ak t);go_roundw
    case rel=>exact⟨1,by decide,congrArg (Value.int .i64) (by omega),by
     have:=t;rw[q.out] at this⊢
     simpa [mR] using this,g⟩
    case measure=>simp[intOf]
   ·go_wp2_with (at_builtin;refine f_ rfl _ _ 163 rfl base tF _ 1 nL _ (m+1+1) _ rfl l.out _ rfl rfl (by omega) (by unfold maxLen;omega) f s a ?_;intro O w5 t g _ _;obtain⟨P,Q,rfl,_,_⟩:=ak t);go_roundw
    case rel=>exact⟨2,by decide,congrArg (Value.int .i64) (by omega),by
     have:=t;rw[q.out] at this⊢
     simpa [mR] using this,g⟩
    case measure=>simp[intOf]
   go_wp2;go_ret
   exact⟨_,rfl,by
    have:=l.out;rw[<-A.out];rw[q.out] at this⊢
    simpa [mR] using this,s⟩
 have q:=aa (show fI c=[240+c / 262144,128+c / 4096 % 64,128+c / 64 % 64,128+c % 64] from by have:=A.out;unfold fH at this;unfold fI;(repeat' split at this) <;> first|omega|simp[*]);go_enter func129,ntmps129;go_wp2_with fail;refine(U.out _ Z.out).mono ?_;rintro e f⟨rfl,rfl⟩;go_wp2_with fail;obtain⟨p,b⟩:=ae (f.alloc (.cells #[.int .u8 240,.int .u8 7,.int .i32 65536] 225));have j:=aO b;have M:p.cell? ⟨f.heap.size,0,none⟩=some (.int .u8 240):=by rw[b];unfold World.cell?;rw[heap_alloc_new];rfl
 rw[<-b];clear b V T S k3 X R k6 k7 k8 k9 F E;have g0:=Gr.cell (ag p) M;refine aC #[true,true,true,true,true,true,true,true,true,true,true,false,false] 11 2 mixed ?_;refine ay [0,1,2,3,4,5,6,7,8,9] 1 ?_
 iterate 10 (refine aA rfl ?_;go_big_quiet_step (rfl))
 refine az ?_;refine aI 10 ?_;go_wp2_with fail;refine aF (ah _) ?_;refine aJ [11,12] ?_;refine tail_cons rfl ?_;have d:=aa ((gO f.heap.size f).trans (j.trans (ag p |>.mono j.size)));have D:=aa (aH l.out d.out);have L:=d.out.size;refine f_ (W:=p.drew) rfl _ _ 163 rfl base tF _ 1 nL (.slice H m G) m (mR z) rfl D.out _ rfl rfl (by omega) (by unfold maxLen;omega) f (d.out.mono a) a ?_;intro v4 w4 u i _ _;obtain⟨J,K,rfl,_,_⟩:=ak u;have C:=aa u;clear u D l;refine tail_cons rfl ?_;go_wp2_with fail;refine tail_nil ?_;go_wp2_with fail
 have B:=aa (show w4.ownsRow base tF 1 (.slice J (m+1) K) (m+1) (mR (z++(fI c).take 1)) from by
  have:=C.out;rw[q.out]
  simpa [mR] using this)
 go_loopw [0,7] (λN y wr=>∃k:Nat,k+1<=4/\y=.int .i64 ((4:Int)-2-k)/\wr.ownsRow base tF 1 N (m+1+k) (mR (z++(fI c).take (k+1)))/\Below base f wr) (λ_ y _=>((intOf y)+1).toNat)
 case atStart=>exact⟨0,by decide,rfl,B.out,i⟩
 case round=>
  clear B C i d L;obtain⟨k,hk,rfl,o,s⟩:=hrel;obtain⟨H,G,rfl,_,_⟩:=ak o;have l:=aa o;have I:=s.size;clear o;have x:k=0\/k=1\/k=2\/k=3:=by omega
  rcases x with rfl|rfl|rfl|rfl
  ·go_wp2_with (at_builtin;refine f_ rfl _ _ 163 rfl base tF _ 1 nL _ (m+1+0) _ rfl l.out _ rfl rfl (by omega) (by unfold maxLen;omega) f s a ?_;intro O w5 t g _ _;obtain⟨P,Q,rfl,_,_⟩:=ak t);go_roundw
   case rel=>exact⟨1,by decide,congrArg (Value.int .i64) (by omega),by
    have:=t;rw[q.out] at this⊢
    simpa [mR] using this,g⟩
   case measure=>simp[intOf]
  ·go_wp2_with (at_builtin;refine f_ rfl _ _ 163 rfl base tF _ 1 nL _ (m+1+1) _ rfl l.out _ rfl rfl (by omega) (by unfold maxLen;omega) f s a ?_;intro O w5 t g _ _;obtain⟨P,Q,rfl,_,_⟩:=ak t);go_roundw
   case rel=>exact⟨2,by decide,congrArg (Value.int .i64) (by omega),by
    have:=t;rw[q.out] at this⊢
    simpa [mR] using this,g⟩
   case measure=>simp[intOf]
  ·go_wp2_with (at_builtin;refine f_ rfl _ _ 163 rfl base tF _ 1 nL _ (m+1+2) _ rfl l.out _ rfl rfl (by omega) (by unfold maxLen;omega) f s a ?_;intro O w5 t g _ _;obtain⟨P,Q,rfl,_,_⟩:=ak t);go_roundw
   case rel=>exact⟨3,by decide,congrArg (Value.int .i64) (by omega),by
    have:=t;rw[q.out] at this⊢
    simpa [mR] using this,g⟩
   case measure=>simp[intOf]
  go_wp2;go_ret
  exact⟨_,rfl,by
   have:=l.out;rw[<-A.out];rw[q.out] at this⊢
   simpa [mR] using this,s⟩
def Hg (E:dB w) {L:List Nat} (t:bG w v (aM L)) (p:∀x∈L,aP x) (M:L.length<1000000) (h0:0<w.heap.size) :
 Calls prog 88 #[v] w λe w'=>e=.returned (.tuple #[.string (tx (dQ L)),.int .i64 0])/\Below w.heap.size w w':=by
 have F:=aa E;have B:=aa p;obtain⟨n,k⟩:=ae L.length;obtain⟨T,Z,rfl,_,c⟩:=bG.nN t k;rw[<-k] at M;have o:=aa k;have H:=aa c;have q:=aa (show ∀j,(lW (L.take j)).length<=4*j from λj=>by have:=Sy (L.take j);have C:=qE (L.take j);rw[iS] at C;omega);have g:=aa (show(lW L).map UInt8.ofNat=dQ L/\∀d∈lW L,d<256 from ⟨FC L,VK λx h=>(p x h).1⟩);clear t c k p;go_enter func88,ntmps88;go_wp2_with fail;go_loopw [4,9] (λJ m wr=>∃j:Nat,j<=n/\m=.int .i64 j/\wr.ownsRow w.heap.size tF 1 J (lW (L.take j)).length (mR (lW (L.take j)))/\Below w.heap.size w wr) (λ_ m _=>n-(intOf m).toNat)
 case atStart=>exact⟨0,gW _,rfl,iu _ _ _ _,gO _ _⟩
 case round=>
  obtain⟨j,U,rfl,f,i⟩:=hrel;obtain⟨Y,I,rfl,_,_⟩:=ak f;by_cases D:j<n
  ·have a:j<L.length:=by have:=o.out;omega
   obtain⟨b,off,rfl,_,y⟩:=H.out j a;have y:=aB i y;have c:=B.out _ (gx a);have G:=aa (show lW (L.take (j+1))=lW (L.take j)++fI L[j] from by rw[gE a,Oc]);have z:=q.out j;have r:=F.out.mono i;generalize L[j]=x at *;generalize lW (L.take j)=S at *;have A:=c.1;have K:=aa (show ∀W,Calls prog 96 #[.int .i32 x] W λe w'=>e=.returned (.bool true)/\w'=W from λW=>by have:=gZ (w:=W) x (by omega);rwa [decide_eq_true c] at this);have N:=aa (Sz r f i.size (by omega) x c h0);clear f c r;go_wp2_with fail;refine(K.out _).mono ?_;rintro e V⟨rfl,rfl⟩;go_wp2_with fail;refine N.out.mono ?_;rintro e Q⟨X,rfl,u,O⟩;obtain⟨P,R,rfl,_,_⟩:=ak u;go_wp2;go_roundw
   case rel=>exact⟨j+1,by omega,rfl,by rw[G.out,d',A9];exact u,i.trans O⟩
   case measure=>simp[intOf];omega
  obtain rfl:n=j:=by omega
  rw[ie (by rw[o.out];exact gw _)] at f;have l:=A7 (Sl.aU f).any g.out.2;rw[Nn,g.out.1] at l;clear f;have s:(L.take n)=L:=ie (by rw[o.out];exact gw _);rw[s];clear s;go_wp2;go_ret2;exact⟨rfl,i⟩
def bG.Hl (h:bG w v (aM l)) (c:n=l.length):∃a cap,v=.slice a n cap/\n<=cap/\
 ∀i (d:i<l.length),∃b off,a=some ⟨b,off,none⟩/\b<w.heap.size/\w.cell? ⟨b,off+i,none⟩=some (.int .i32 (l[i]:Nat)):=Go.Cd.bG.nN h c
def yw {F:Nat->List Nat} {j:Nat} (a:j<l.length):(l.take (j+1)).flatMap F=(l.take j).flatMap F++F l[j]:=by
 rw[gE a,jj];simp
def wQ (F:Nat->List Nat) (l:List Nat) (j:Nat):((l.take j).flatMap F).length<=(l.flatMap F).length:=by
 conv=>rhs;rw[<-ke j l,jj,d']
 omega
def KY (h:cK w p T X) (t:aY T X) (M:T.length<1000) (l:List Nat) (O:bG w v (aM l)) (z:∀c∈l,c<1114112) (B:l.length<3000) :
 Calls prog 170 #[.pointer (some ⟨p,0,none⟩),v] w λe w'=>∃r,e=.returned r/\w'.ownsRow w.heap.size aN 1 r (l.flatMap (aD T)).length (aM (l.flatMap (aD T)))/\Below w.heap.size w w':=by
 obtain⟨n,s⟩:=ae l.length;obtain⟨a,cap,rfl,R,Q⟩:=bG.Hl O s;have HX:=aa Q;have HC:=aa z;have G:=aa s;have Vx:=aa (jJ t l);have S:=aa (λ(W:World) (E:Below w.heap.size w W) c (z:c<1114112)=>pG (h.mono E) t M c z);have:=aa (λc=>il t c);rw[<-s] at B;clear h t M O z Q s;go_enter func170,ntmps170;go_wp2_with fail;go_loopw [5,10] (λov D wr=>∃j:Nat,j<=n/\D=.int .i64 j/\wr.ownsRow w.heap.size aN 1 ov ((l.take j).flatMap (aD T)).length (aM ((l.take j).flatMap (aD T)))/\Below w.heap.size w wr) (λ_ D _=>n-(intOf D).toNat)
 case atStart=>exact⟨0,gW _,rfl,iu _ _ _ _,gO _ _⟩
 case round=>
  obtain⟨j,hj,rfl,f,u⟩:=hrel;by_cases Z:j<n
  ·have zj:=eG (show j<n by omega);have d:j<l.length:=by have:=G.out;omega
   obtain⟨b,off,rfl,ab,g⟩:=HX.out j d;have Y:=aB u g;clear g;have i:=HC.out _ (gx d);obtain⟨x,y⟩:=ae (l[j]);rw[<-y] at Y i;have I:=aa (S.out wr u x i);have HT:=aa (show(l.take (j+1)).flatMap (aD T)=(l.take j).flatMap (aD T)++aD T x from by rw[yw d,<-y])
   have N:=aa (show((l.take j).flatMap (aD T)).length+(aD T x).length<=32*n from by
    have h1:=wQ (aD T) l (j+1);rw[yw d,<-y,d'] at h1;have U:=Vx.out;rw[<-G.out] at U
    omega)
   have A:=aa f;clear y f;go_wp2_with fail;refine I.out.mono ?_;rintro e w6⟨r,rfl,H,m⟩;have L:=af u m;have F:=aH A.out m;have o:=L.size;have q:=(Sl.aU H).any;obtain⟨ra,Vd,rfl,_,_⟩:=ak H;clear H I;go_wp2_with (refine bR (w:=w6) rfl _ _ 35 rfl w.heap.size aN (.int .i32 0) 4 bW _ _ _ rfl F _ _ rfl q (gJ _) (by rw[bF];have:=N.out;unfold maxLen;omega) (by rw[bF];have:=N.out;omega) o ?_;intro v7 V P K);have uK:=L.grown K o (λk hk=>(F.lt k hk).1)
   have C:=aa (show V.ownsRow w.heap.size aN 1 v7 ((l.take (j+1)).flatMap (aD T)).length (aM ((l.take (j+1)).flatMap (aD T))) from by
    rw[HT.out,a_,d']
    simpa using P)
   clear P K q F;go_wp2_with fail;go_roundw
   case rel=>exact⟨j+1,by omega,by simp,C.out,uK⟩
   case measure=>simp[intOf];omega
  have zj:=gI (show n<=j by omega);obtain rfl:j=n:=by omega
  have J:l.take j=l:=ie (by rw[G.out];exact gw _);rw[J] at f;have A:=aa f;clear f J;go_wp2_with fail;go_ret;exact⟨_,rfl,A.out,u⟩
def KZ (h:cK w p T X) (f:aY T X) (A:T.length<1000) (l:List Nat) (o:bG w v (aM l)) (m:∀c∈l,aP c) (k:l.length<3000) :
 Calls prog 128 #[.pointer (some ⟨p,0,none⟩),v] w λe w'=>∃r,e=.returned r/\w'.ownsRow w.heap.size aN 1 r (gQ T l).length (aM (gQ T l))/\Below w.heap.size w w':=by
 have x:=aa (KY h f A l o (λc d=>(m c d).1) k);have j:=jJ f l
 have s:=aa (λ(W:World) (E:Below w.heap.size w W) (u:Value) (n:W.ownsRow w.heap.size aN 1 u (l.flatMap (aD T)).length (aM (l.flatMap (aD T))))=>VH (w:=W) (h.mono E) f (l.flatMap (aD T)) (Sl.aU n) (fU.aU n) (λc d=>by
  obtain⟨y,C,d⟩:=lP.1 d
  exact(ow f (m y C) d).1) (by omega))
 have t:=aa (show(gQ T l).length=(l.flatMap (aD T)).length from KV _ _);clear h o m j;go_enter func128,ntmps128;go_wp2_with fail;refine x.out.mono ?_;rintro e z⟨r,rfl,q,a⟩;have i:=aa (s.out z a r q);clear q;go_wp2_with fail;refine i.out.mono ?_;rintro e F⟨D,rfl,b,g⟩;have B:=aa b;clear b;go_wp2_with fail;go_ret;exact⟨_,rfl,by rw[t.out];exact aT B.out a.size,af a g⟩
def qZ (e:aY T X) (a:∀c∈l,aP c):∀c∈gQ T l,aP c:=λc h=>by
 obtain⟨y,b,d⟩:=lP.1 ((KW _).1 h);exact ow e (a y b) d
def wR (T:List aG) (l:List Nat):(gQ T l).length=(l.flatMap (aD T)).length:=KV _ _
def K5 (S:nk w) (h:cK w p T X) (J:aY T X) (M:T.length<1000) (l:List Nat) (v:∀c∈l,aP c) (d:(l.flatMap (aD T)).length<=1024) :
 Calls prog 87 #[.pointer (some ⟨p,0,none⟩),.string (tx (dQ l))] w λe w'=>∃r,e=.returned (.tuple #[r,.int .i64 0])/\w'.ownsRow w.heap.size aN 1 r (gQ T l).length (aM (gQ T l))/\Below w.heap.size w w':=by
 have K:l.length<=1024:=by
  have key:∀l:List Nat,l.length<=(l.flatMap (aD T)).length:=λl=>by
   induction l with
   | nil=>simp
   | cons c l ih=>
     rw[iR,d',hU];have:=jz.2 (pF T c);omega
  exact gS (key l) d
 have G:=aa (vX S.heads l v (by omega));have FU:=aa (λ(W:World) (E:Below w.heap.size w W) c (v:c<1114112)=>pG (h.mono E) J M c v);have Q:=aa (λ(W:World) (E:Below w.heap.size w W) (u:Value) (hu:bG W u (aM l))=>KZ (w:=W) (h.mono E) J M l hu v (by omega));have HC:=aa v;have D:=aa d;have:=aa (wR T l);obtain⟨s,hs⟩:=ae (tx (dQ l));rw[<-hs] at G⊢;obtain⟨n,I⟩:=ae l.length;have V:=aa I;rw[<-I] at K G;clear S h J M v d hs I;go_enter func87,ntmps87;go_wp2_with fail;refine G.out.mono ?_;rintro e U⟨r,rfl,g,f⟩;have t:=(Sl.aU g).any;have P:=aa t;obtain⟨a,cap,H,R,Y⟩:=bG.Hl t V.out;subst H;have HX:=aa Y;clear g t Y G;go_wp2_with fail;go_loopw [8,21] (λkv N wr=>∃j k:Nat,j<=n/\N=.int .i64 j/\kv=.int .i64 k/\k=((l.take j).flatMap (aD T)).length/\Below U.heap.size U wr) (λ_ N _=>n-(intOf N).toNat)
 case atStart=>exact⟨0,0,gW _,rfl,rfl,rfl,gO _ _⟩
 case round=>
  obtain⟨j,k,hj,rfl,rfl,Z,i⟩:=hrel;have HK:=aa Z;clear Z;by_cases ac:j<n
  ·have zj:=eG (show j<n by omega);have o:j<l.length:=by have:=V.out;omega
   obtain⟨b,off,rfl,ag,z⟩:=HX.out j o;have c0:=aB i z;clear z;have A:=(HC.out _ (gx o)).1;obtain⟨x,O⟩:=ae (l[j]);rw[<-O] at c0 A;have F:=aa (FU.out wr (af f i) x A);obtain⟨m,L⟩:=ae ((aD T x).length);obtain⟨y,C⟩:=ae (k+m);have B:y=((l.take (j+1)).flatMap (aD T)).length:=by rw[C,L,HK.out,yw o,<-O,d']
   have:y<=1024:=by
    have:=wQ (aD T) l (j+1);have:=D.out;omega
   have:IntKind.i64.wrap ((k:Int)+(m:Int))=(y:Int):=by rw[j8 _ (by omega)];omega
   have Oa:=aa B;have Rt:=aa L;have:k<=1024/\m<=1024:=by omega
   have:decide ((1024:Int)<(y:Int))=false:=decide_eq_false (by omega);clear O L B C;go_wp2_with fail;refine F.out.mono ?_;rintro e w6⟨r,rfl,g,q⟩;obtain⟨ra,Vd,rfl,_,_⟩:=ak g;rw[<-Rt.out];clear g F;go_wp2_with fail;go_roundw
   case rel=>exact⟨j+1,y,by omega,by simp,rfl,Oa.out,i.trans (q.mono i.size)⟩
   case measure=>simp[intOf];omega
  have zj:=gI (show n<=j by omega);obtain rfl:n=j:=by omega
  have F:=aa (Q.out wr (af f i) _ (bG.mono P.out i));clear Q;go_wp2_with fail;refine F.out.mono ?_;rintro e w6⟨r,rfl,g,q⟩;have HR:=aa g;clear g;go_wp2_with fail;go_ret2;exact⟨_,rfl,aT HR.out (af f i).size,af (af f i) q⟩
def VM (m:nk w) (h0:0<w.heap.size) (h:cK w p T X) (i:aY T X) (q:T.length<1000) (l:List Nat) (j:∀c∈l,aP c) (a:(l.flatMap (aD T)).length<=1024) :
 Calls prog 56 #[.pointer (some ⟨p,0,none⟩),.string (tx (dQ l))] w λe w'=>e=.returned (.tuple #[.string (tx (dQ (gQ T l))),.int .i64 0])/\Below w.heap.size w w':=by
 have g:=aa (K5 m h i q l j a);have k:=aa (λ(W:World) (E:Below w.heap.size w W) (u:Value) (v:bG W u (aM (gQ T l)))=>Hg (m.mono E).heads v (qZ i j) (by rw[wR];omega) (by have:=E.size;omega));obtain⟨s,o⟩:=ae (tx (dQ l));obtain⟨s2,d⟩:∃s,s=tx (dQ (gQ T l)):=⟨_,rfl⟩;rw[<-o] at g⊢;rw[<-d] at k⊢;clear m h i q j a o d;go_enter func56,ntmps56;go_wp2_with fail;refine g.out.mono ?_;rintro e x⟨r,rfl,n,b⟩;have t:=aa (k.out x b r (Sl.aU n).any);clear n g k;go_wp2_with fail;refine t.out.mono ?_;rintro e y⟨rfl,f⟩;go_wp2_with fail;go_ret2;exact⟨rfl,af b f⟩
end Go.Proofs.YtmnimbnojdndmaaGreatDoor
