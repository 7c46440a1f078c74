/- Texts that are alike cost, and count, the same; no condition. -/
import Derived.Test.YtmnimbnojdndmaaGreatDoorU02
import Derived.Sort.WalkB3
import Derived.Sort.WalkC4
import Derived.Sort.Walk7
import Derived.Sort.Walk11
import Derived.Sort.WalkD2
set_option maxRecDepth 100000
set_option maxHeartbeats 6400000
set_option linter.all false
namespace Go.Proofs.YtmnimbnojdndmaaGreatDoor
open Go.RowKit Go.Sort _root_.Go.Proofs.Tryz
def jZ (c off len cap:Nat) (d:Array Int) (C:d.size=len) (y j first:Nat) (w:World) (G:Holds encR w c off d) (H:y<=j) (M:first+j<=d.size) (J:d.size<4611686018427387904) :
 Calls prog 173 #[.slice (some ⟨c,off,none⟩) len cap,.int .i64 y,.int .i64 j,.int .i64 first] w λe w'=>e=.returned (.tuple #[])/\∃n,w'=putRow encR (Sort.ahead w n) c off (siftDown ltInt j first y d):=by
 subst C;go_enter func173,ntmps173;go_wp2
 go_loopg [8] (j-y) (λk s8 wr=>∃(a:Nat) (f:Array Int) (n:Nat),s8=.int .i64 a/\a<=j/\j-a<=k/\f.size=d.size/\wr=putRow encR (Sort.ahead w n) c off f/\siftDown ltInt j first a f=siftDown ltInt j first y d)
 case atStart=>exact⟨y,d,0,rfl,H,gw _,rfl,(putRow_self encR w c off d G).symm,rfl⟩
 case round=>
  obtain⟨a,f,n,rfl,L,N,s,x,o⟩:=hrel;have v:Holds encR wr c off f:=by rw[x];exact holds_putRow encR _ c off d f (holds_ahead encR w n c off d G) s
  have q:∀t,t<d.size->wr.cell? ⟨c,off+t,none⟩=some (.int .i32 f[t]!):=λt K=>(v t (by omega)).1;have r:∀t,t<d.size->wr.frozen? ⟨c,off+t,none⟩=false:=λt K=>(v t (by omega)).2;have A:Aside (wr=putRow encR (Sort.ahead w n) c off f):=x;clear x G v;by_cases h0:j<=2*a+1
  ·
   have F:(j:Int)<=2*(a:Int)+1:=by omega
   go_wp2
   go_end0
   refine⟨rfl,n,?_⟩;rw[A.out,<-o,sd_end ltInt f h0]
  ·
   have F:¬((j:Int)<=2*(a:Int)+1):=by omega
   by_cases E:2*a+2<j
   ·have I:2*(a:Int)+1+1<(j:Int):=by omega
    go_wp2_with fail;go_big_quiet (first|(go_at_call 141;refine ju (aK _ _ _)));go_wp2_with fail
    ·
     have D:ltInt f[first+2*a+1]! f[first+2*a+2]! = true:=by assumption
     revert nq;intro b;have i:∀t,t<d.size->(wr.drewN b).cell? ⟨c,off+t,none⟩=some (.int .i32 f[t]!):=q;have g:∀t,t<d.size->(wr.drewN b).frozen? ⟨c,off+t,none⟩=false:=r;have p:Aside (wr.drewN b=putRow encR (Sort.ahead w (n+b)) c off f):=drewN_world encR A.out b;clear q r A;generalize wr.drewN b=wr2 at i g p⊢;go_big_quiet (first|(go_at_call 141;refine ju (aK _ _ _)));go_wp2_with fail
     ·
      have B:ltInt f[first+a]! f[first+2*a+2]! = false:=by
       have:(!ltInt f[first+a]! f[first+2*a+2]!)=true:=by assumption
       simpa using this
      (try simp only[Exit.inBlock,Exit.then]);refine bodyPost_ret (results_none rfl _ _ _) rfl ?_
      refine⟨rfl,n+b+nq,?_⟩;rw[drewN_world encR p.out nq,<-o,sd_right_stop ltInt f E D B]
     ·
      have z:ltInt f[first+a]! f[first+2*a+2]! = true:=by
       have:(!ltInt f[first+a]! f[first+2*a+2]!)=false:=by assumption
       simpa using this
      have m:∀t,t<d.size->(wr2.drewN nq).cell? ⟨c,off+t,none⟩=some (.int .i32 f[t]!):=i;have l:∀t,t<d.size->(wr2.drewN nq).frozen? ⟨c,off+t,none⟩=false:=g;have u:Aside (wr2.drewN nq=putRow encR (Sort.ahead w (n+b+nq)) c off f):=drewN_world encR p.out nq;clear i g p;generalize wr2.drewN nq=wr3 at m l u⊢;go_region;go_wp2
      go_roundg (j-(2*a+2))
      case measure=>omega
      case rel=>
       refine⟨2*a+2,swp f (first+a) (first+(2*a+1+1)),n+b+nq+1,by simp <;> omega,by omega,gw _,by rw[size_swp];exact s,swap_world encR (by omega) (by omega) u.out rfl rfl,?_⟩;rw[<-o,sd_right_go ltInt f E D z]
    ·
     have D:ltInt f[first+2*a+1]! f[first+2*a+2]! = false:=by assumption
     revert nq;intro b;have i:∀t,t<d.size->(wr.drewN b).cell? ⟨c,off+t,none⟩=some (.int .i32 f[t]!):=q;have g:∀t,t<d.size->(wr.drewN b).frozen? ⟨c,off+t,none⟩=false:=r;have p:Aside (wr.drewN b=putRow encR (Sort.ahead w (n+b)) c off f):=drewN_world encR A.out b;clear q r A;generalize wr.drewN b=wr2 at i g p⊢;go_big_quiet (first|(go_at_call 141;refine ju (aK _ _ _)));go_wp2_with fail
     ·
      have B:ltInt f[first+a]! f[first+2*a+1]! = false:=by
       have:(!ltInt f[first+a]! f[first+2*a+1]!)=true:=by assumption
       simpa using this
      (try simp only[Exit.inBlock,Exit.then]);refine bodyPost_ret (results_none rfl _ _ _) rfl ?_
      refine⟨rfl,n+b+nq,?_⟩;rw[drewN_world encR p.out nq,<-o,sd_left_stop ltInt f (by omega) (λ_=>D) B]
     ·
      have z:ltInt f[first+a]! f[first+2*a+1]! = true:=by
       have:(!ltInt f[first+a]! f[first+2*a+1]!)=false:=by assumption
       simpa using this
      have m:∀t,t<d.size->(wr2.drewN nq).cell? ⟨c,off+t,none⟩=some (.int .i32 f[t]!):=i;have l:∀t,t<d.size->(wr2.drewN nq).frozen? ⟨c,off+t,none⟩=false:=g;have u:Aside (wr2.drewN nq=putRow encR (Sort.ahead w (n+b+nq)) c off f):=drewN_world encR p.out nq;clear i g p;generalize wr2.drewN nq=wr3 at m l u⊢;go_region;go_wp2
      go_roundg (j-(2*a+1))
      case measure=>omega
      case rel=>
       refine⟨2*a+1,swp f (first+a) (first+(2*a+1)),n+b+nq+1,by simp <;> omega,by omega,gw _,by rw[size_swp];exact s,swap_world encR (by omega) (by omega) u.out rfl rfl,?_⟩;rw[<-o,sd_left_go ltInt f (by omega) (λ_=>D) z]
   ·
    have I:decide (2*(a:Int)+1+1<(j:Int))=false:=decide_eq_false (by omega);go_wp2_with fail;go_big_quiet (first|(go_at_call 141;refine ju (aK _ _ _)));go_wp2_with fail;revert nq;intro b;have i:∀t,t<d.size->(wr.drewN b).cell? ⟨c,off+t,none⟩=some (.int .i32 f[t]!):=q;have g:∀t,t<d.size->(wr.drewN b).frozen? ⟨c,off+t,none⟩=false:=r;have p:Aside (wr.drewN b=putRow encR (Sort.ahead w (n+b)) c off f):=drewN_world encR A.out b;clear q r A;generalize wr.drewN b=wr2 at i g p⊢;go_big_quiet (first|(go_at_call 141;refine ju (aK _ _ _)));go_wp2_with fail
    ·
     have B:ltInt f[first+a]! f[first+2*a+1]! = false:=by
      have:(!ltInt f[first+a]! f[first+2*a+1]!)=true:=by assumption
      simpa using this
     (try simp only[Exit.inBlock,Exit.then]);refine bodyPost_ret (results_none rfl _ _ _) rfl ?_
     refine⟨rfl,n+b+nq,?_⟩;rw[drewN_world encR p.out nq,<-o,sd_left_stop ltInt f (by omega) (λh=>absurd h E) B]
    ·
     have z:ltInt f[first+a]! f[first+2*a+1]! = true:=by
      have:(!ltInt f[first+a]! f[first+2*a+1]!)=false:=by assumption
      simpa using this
     have m:∀t,t<d.size->(wr2.drewN nq).cell? ⟨c,off+t,none⟩=some (.int .i32 f[t]!):=i;have l:∀t,t<d.size->(wr2.drewN nq).frozen? ⟨c,off+t,none⟩=false:=g;have u:Aside (wr2.drewN nq=putRow encR (Sort.ahead w (n+b+nq)) c off f):=drewN_world encR p.out nq;clear i g p;generalize wr2.drewN nq=wr3 at m l u⊢;go_region;go_wp2
     go_roundg (j-(2*a+1))
     case measure=>omega
     case rel=>
      refine⟨2*a+1,swp f (first+a) (first+(2*a+1)),n+b+nq+1,by simp <;> omega,by omega,gw _,by rw[size_swp];exact s,swap_world encR (by omega) (by omega) u.out rfl rfl,?_⟩;rw[<-o,sd_left_go ltInt f (by omega) (λh=>absurd h E) z]
def Aa (c off len cap:Nat) (d:Array Int) (D:d.size=len) (a b:Nat) (w:World) (z:Holds encR w c off d) (E:a<=b) (N:b<=d.size) (I:d.size<4611686018427387904) :
 Calls prog 136 #[.slice (some ⟨c,off,none⟩) len cap,.int .i64 a,.int .i64 b] w λe w'=>e=.returned (.tuple #[])/\∃n,w'=putRow encR (Sort.ahead w n) c off (heapSort ltInt d a b):=by
 subst D;have p:((b-a:Nat):Int)=(b:Int)-(a:Int):=by omega
 go_enter func136,ntmps136;go_wp2
 go_loopg [9] ((b-a-1) / 2+1) (λk s9 wr=>s9=.int .i64 ((k:Int)-1)/\k<=(b-a-1) / 2+1/\∃(h:Array Int) (n:Nat),h.size=d.size/\wr=putRow encR (Sort.ahead w n) c off h/\
  heapBuild ltInt (b-a) a k h=heapBuild ltInt (b-a) a ((b-a-1) / 2+1) d)
 case atStart=>exact⟨by rw[half_start E],gw _,d,0,rfl,(putRow_self encR w c off d z).symm,rfl⟩
 case round=>
  obtain⟨rfl,B,h,n,s,y,x⟩:=hrel;have C:Holds encR wr c off h:=by rw[y];exact holds_putRow encR _ c off d h (holds_ahead encR w n c off d z) s
  have A:Aside (wr=putRow encR (Sort.ahead w n) c off h):=y;clear y;cases gk with
  | zero=>
    have L:h=heapBuild ltInt (b-a) a ((b-a-1) / 2+1) d:=x;clear x C B;go_wp2
    go_loopg [10] (b-a) (λk s10 F=>s10=.int .i64 ((k:Int)-1)/\k<=b-a/\∃(g:Array Int) (l:Nat),g.size=d.size/\F=putRow encR (Sort.ahead w l) c off g/\heapPop ltInt a k g=heapPop ltInt a (b-a) h)
    case atStart=>exact⟨by rw[p],gw _,h,n,s,A.out,rfl⟩
    case round=>
     obtain⟨rfl,B,g,l,f,o,q⟩:=hrel;cases gk with
     | zero=>
       go_wp2
       go_end0
       refine⟨rfl,l,?_⟩;have e:g=heapSort ltInt d a b:=by rw[heapSort,<-L,<-q];rfl
       rw[<-e]
     | succ k=>
       have v:Holds encR wr c off g:=by rw[o];exact holds_putRow encR _ c off d g (holds_ahead encR w l c off d z) f
       have:∀t,t<d.size->wr.cell? ⟨c,off+t,none⟩=some (.int .i32 g[t]!):=λt J=>(v t (by omega)).1;have:∀t,t<d.size->wr.frozen? ⟨c,off+t,none⟩=false:=λt J=>(v t (by omega)).2;have H:Aside (wr=putRow encR (Sort.ahead w l) c off g):=o;clear o v;rcases pH k with hk0|hkp
       ·subst hk0;go_wp2_with fail;go_region;go_wp2_with fail;rw[swap_world encR (i:=a) (j:=a) (by omega) (by omega) H.out rfl rfl];refine(jZ c off d.size cap (swp g a (a)) (by rw[size_swp];exact f) 0 0 a _ (holds_putRow encR _ c off d _ (holds_ahead encR w (l+1) c off d z) (by rw[size_swp];exact f)) (gW _) (by rw[size_swp];omega) (by rw[size_swp];omega)).mono ?_;rintro e G⟨rfl,m,u⟩;go_wp2
        go_roundg 0
        case measure=>omega
        case rel=>
         refine⟨by simp,by omega,siftDown ltInt 0 a 0 (swp g a (a)),l+1+m,by rw[size_siftDown ltInt _ _ _ _ _ (gw _),size_swp];exact f,?_,q⟩
         first
          | rw[u,putRow_ahead_putRow encR w (l+1) m c off _ _ (size_siftDown ltInt _ _ _ _ _ (gw _))]
          | rw[putRow_ahead_putRow encR w (l+1) m c off _ _ (size_siftDown ltInt _ _ _ _ _ (gw _))]
       skip
       go_wp2_with fail;go_region;go_wp2_with fail;rw[swap_world encR (i:=a) (j:=a+k) (by omega) (by omega) H.out rfl rfl];refine(jZ c off d.size cap (swp g a (a+k)) (by rw[size_swp];exact f) 0 k a _ (holds_putRow encR _ c off d _ (holds_ahead encR w (l+1) c off d z) (by rw[size_swp];exact f)) (gW _) (by rw[size_swp];omega) (by rw[size_swp];omega)).mono ?_;rintro e G⟨rfl,m,u⟩;go_wp2
       go_roundg k
       case measure=>omega
       case rel=>
        refine⟨by simp,by omega,siftDown ltInt k a 0 (swp g a (a+k)),l+1+m,by rw[size_siftDown ltInt _ _ _ _ _ (gw _),size_swp];exact f,?_,q⟩
        first
         | rw[u,putRow_ahead_putRow encR w (l+1) m c off _ _ (size_siftDown ltInt _ _ _ _ _ (gw _))]
         | rw[putRow_ahead_putRow encR w (l+1) m c off _ _ (size_siftDown ltInt _ _ _ _ _ (gw _))]
  | succ k=>
    have r:=jZ c off d.size cap h s k (b-a) a wr C (by omega) (by omega) (by omega);rw[p] at r;go_wp2_with (go_at_call 173;refine r.mono ?_;rintro e G⟨rfl,m,u⟩)
    go_roundg k
    case measure=>omega
    case rel=>
     refine⟨by simp,by omega,siftDown ltInt (b-a) a k h,n+m,by rw[size_siftDown ltInt _ _ _ _ _ (gw _)];exact s,?_,x⟩;rw[A.out,putRow_ahead_putRow encR w n m c off h _ (size_siftDown ltInt _ _ _ _ _ (gw _))]
def qm (f off cap a b c:Nat) (d:Array Int) (w:World) (R:Holds (Value.int .i32) w f off d) (ad:a<=c) (aj:c<b) (hb:b<=d.size) (af:d.size<4611686018427387904) :
 Calls prog 142 #[.slice (some ⟨f,off,none⟩) d.size cap,.int .i64 a,.int .i64 b,.int .i64 c] w λe w'=>
  e=.returned (.int .i64 (Sort.partitionEqual Sort.ltInt d a b c).1)/\∃n,w'=(putRow (Value.int .i32) w f off (Sort.partitionEqual Sort.ltInt d a b c).2).drewN n:=by
 have Q:a<d.size:=by omega
 have M:c<d.size:=by omega
 obtain⟨G,J⟩:∃G:Nat->Int,∀j,G j=d[j]!:=⟨λj=>d[j]!,λ_=>rfl⟩;have ca:w.cell? ⟨f,off+a,none⟩=some (.int .i32 (G a)):=by rw[J];exact(R a Q).1
 have fa:=(R a Q).2;have cp:w.cell? ⟨f,off+c,none⟩=some (.int .i32 (G c)):=by rw[J];exact(R c M).1
 have fp:=(R c M).2;obtain⟨v',aa⟩:=cell?_setCell_some (w:=w) (p:=⟨f,off+a,none⟩) (x:=.int .i32 (G c)) (q:=⟨f,off+c,none⟩) cp;have z:Hid (∀j,G j=d[j]!):=J;have AH:Hid (Holds (Value.int .i32) w f off d):=R;clear J R;go_enter func142,ntmps142;go_wp2;go_region;go_wp2
 go_loopw [9,10] (λL E wr=>∃(i j n:Nat) (g:Array Int),L=.int .i64 i/\E=.int .i64 j/\a<i/\i<=j+1/\j<b/\g.size=d.size/\wr=(putRow (Value.int .i32) w f off g).drewN n/\
  Sort.partEqLoop Sort.ltInt a i j g=Sort.partEqLoop Sort.ltInt a (a+1) (b-1) (Sort.swp d a c))
  (λL E _=>(intOf E).toNat+1-(intOf L).toNat)
 case atStart=>
  refine⟨a+1,b-1,1,Sort.swp d a c,by go_num,by go_num,by omega,by omega,by omega,size_swp _ _ _,?_,rfl⟩;have e:=swap_worldC (Value.int .i32) w f off d 0 a c Q M;rw[putRow_self _ w f off d AH.out] at e;rw[z.out a,z.out c];exact e
 case round=>
  obtain⟨i,j,n,g,rfl,rfl,ah,ab,ai,hs,hw,X⟩:=hrel;clear ca fa cp fp aa v' z;rename World=>W1;have N:Holds (Value.int .i32) W1 f off g:=by
   rw[hw];exact holds_putRow (Value.int .i32) w f off d g AH.out hs
  obtain⟨r,J⟩:∃r:Nat->Int,∀t,r t=g[t]!:=⟨λt=>g[t]!,λ_=>rfl⟩;have S:∀t,t<d.size->W1.cell? ⟨f,off+t,none⟩=some (.int .i32 (r t)):=λt m=>by rw[J];exact(N t (by omega)).1
  have hf:∀t,t<d.size->W1.frozen? ⟨f,off+t,none⟩=false:=λt m=>(N t (by omega)).2;have z:Hid (∀t,r t=g[t]!):=J;have AW:Hid (W1=(putRow (Value.int .i32) w f off g).drewN n):=hw;have U:Hid (Sort.partEqLoop Sort.ltInt a i j g=Sort.partEqLoop Sort.ltInt a (a+1) (b-1) (Sort.swp d a c)):=X;clear J hw X N;go_wp2
  go_loopw [9] (λL w1=>∃(h K:Nat),L=.int .i64 h/\i<=h/\h<=j+1/\w1=W1.drewN K/\
   Hid (Sort.scanUp (λx=>!Sort.ltInt g[a]! x) g j h=Sort.scanUp (λx=>!Sort.ltInt g[a]! x) g j i))
   (λL _=>j+1-(intOf L).toNat)
  case atStart=>exact⟨i,0,rfl,gw _,ab,rfl,rfl⟩
  case round=>
   obtain⟨h,K,rfl,ag,I,P,C⟩:=hrel;have y:∀t,t<d.size->wr.cell? ⟨f,off+t,none⟩=some (.int .i32 (r t)):=λt m=>by rw[P];exact S t m
   have B:Hid (wr=W1.drewN K):=P;clear P;by_cases V:h<=j
   ·go_wp2_with fail;go_big_quiet (first|(go_at_call 141;refine ju (aK _ _ _)));go_wp2
    ·
     have m:(!Sort.ltInt (r a) (r h))=true:=by assumption
     go_roundw
     case rel=>exact⟨h+1,K+nq,by go_num,by omega,by omega,by rw[B.out,j5],(scanUp_go (λx=>!Sort.ltInt g[a]! x) g j h V (by rw[<-z.out a,<-z.out h];exact m)).symm.trans C.out⟩
     case measure=>simp[intOf];omega
    ·
     have m:(!Sort.ltInt (r a) (r h))=false:=by assumption
     have H:Hid (h=Sort.scanUp (λx=>!Sort.ltInt g[a]! x) g j i):=(scanUp_end (λx=>!Sort.ltInt g[a]! x) g j h (Or.inr (by rw[<-z.out a,<-z.out h];exact m))).symm.trans C.out;clear m;have o:wr.drewN nq=W1.drewN (K+nq):=by rw[B.out,j5]
     clear y B C
     go_loopw [10] (λE Z=>∃(l v:Nat),E=.int .i64 l/\l<=j/\h<=l+1/\Z=W1.drewN v/\
      Hid (Sort.scanDown (λx=>Sort.ltInt g[a]! x) g h l=Sort.scanDown (λx=>Sort.ltInt g[a]! x) g h j))
      (λE _=>(intOf E).toNat)
     case atStart=>exact⟨j,K+nq,rfl,gw _,I,o,rfl⟩
     case round=>
      clear o;obtain⟨l,v,rfl,Y,W,o,s⟩:=hrel;have y:∀t,t<d.size->wr.cell? ⟨f,off+t,none⟩=some (.int .i32 (r t)):=λt m=>by rw[o];exact S t m
      have D:Hid (wr=W1.drewN v):=o;clear o;by_cases u:h<=l
      ·go_wp2_with fail;go_big_quiet (first|(go_at_call 141;refine ju (aK _ _ _)));go_wp2
       ·
        have m:Sort.ltInt (r a) (r l)=true:=by assumption
        go_roundw
        case rel=>exact⟨l-1,v+nq,by go_num,by omega,by omega,by rw[D.out,j5],(scanDown_go (λx=>Sort.ltInt g[a]! x) g h l u (by omega) (by rw[<-z.out a,<-z.out l];exact m)).symm.trans s.out⟩
        case measure=>simp[intOf];omega
       ·
        have m:Sort.ltInt (r a) (r l)=false:=by assumption
        have A:Hid (l=Sort.scanDown (λx=>Sort.ltInt g[a]! x) g h j):=(scanDown_end (λx=>Sort.ltInt g[a]! x) g h l (Or.inr (by rw[<-z.out a,<-z.out l];exact m))).symm.trans s.out;clear y s m;have k:wr.drewN nq=W1.drewN (v+nq):=by rw[D.out,j5]
        generalize wr.drewN nq=W3 at k⊢;have O:∀t,t<d.size->W3.cell? ⟨f,off+t,none⟩=some (.int .i32 (r t)):=λt m=>by rw[k];exact S t m
        have T:∀t,t<d.size->W3.frozen? ⟨f,off+t,none⟩=false:=λt m=>by rw[k];exact hf t m
        have F:Hid (W3=W1.drewN (v+nq)):=k;clear k;obtain⟨v3,ae⟩:=cell?_setCell_some (w:=W3) (p:=⟨f,off+h,none⟩) (x:=.int .i32 (r l)) (q:=⟨f,off+l,none⟩) (O l (by omega));have:=scans_lt Sort.ltInt a i j g (by omega) H.out A.out u;go_wp2;go_region
        all_goals go_wp2
        all_goals go_roundw
        case rel=>
         refine⟨h+1,l-1,n+(v+nq)+1,Sort.swp g h l,by go_num,by go_num,by omega,by omega,by omega,by rw[size_swp];exact hs,?_,?_⟩
         ·rw[F.out,AW.out,j5,z.out h,z.out l];exact swap_worldC (Value.int .i32) w f off g _ h l (by omega) (by omega)
         rw[<-U.out];exact(partEq_go Sort.ltInt a i j g H.out A.out (by omega)).symm
        case measure=>simp[intOf];omega
      go_wp2_with fail;go_big_quiet (first|(go_at_call 141;refine ju (aK _ _ _)));have A:Hid (l=Sort.scanDown (λx=>Sort.ltInt g[a]! x) g h j):=(scanDown_end (λx=>Sort.ltInt g[a]! x) g h l (Or.inl u)).symm.trans s.out;clear y s;have k:wr.drewN nq=W1.drewN (v+nq):=by rw[D.out,j5]
      generalize wr.drewN nq=W3 at k⊢;have O:∀t,t<d.size->W3.cell? ⟨f,off+t,none⟩=some (.int .i32 (r t)):=λt m=>by rw[k];exact S t m
      have T:∀t,t<d.size->W3.frozen? ⟨f,off+t,none⟩=false:=λt m=>by rw[k];exact hf t m
      have F:Hid (W3=W1.drewN (v+nq)):=k;clear k;go_wp2;go_ret;have e:=partEq_break Sort.ltInt a i j g H.out A.out (by omega);refine⟨?_,n+(v+nq),?_⟩
      ·unfold Sort.partitionEqual;rw[<-U.out,e];rfl
      unfold Sort.partitionEqual;rw[<-U.out,e,F.out,AW.out,j5]
   go_wp2_with fail;go_big_quiet (first|(go_at_call 141;refine ju (aK _ _ _)));go_wp2;have H:Hid (h=Sort.scanUp (λx=>!Sort.ltInt g[a]! x) g j i):=(scanUp_end (λx=>!Sort.ltInt g[a]! x) g j h (Or.inl V)).symm.trans C.out;have o:wr.drewN nq=W1.drewN (K+nq):=by rw[B.out,j5]
   clear y B C
   go_loopw [10] (λE Z=>∃(l v:Nat),E=.int .i64 l/\l<=j/\h<=l+1/\Z=W1.drewN v/\
    Hid (Sort.scanDown (λx=>Sort.ltInt g[a]! x) g h l=Sort.scanDown (λx=>Sort.ltInt g[a]! x) g h j))
    (λE _=>(intOf E).toNat)
   case atStart=>exact⟨j,K+nq,rfl,gw _,I,o,rfl⟩
   case round=>
    clear o;obtain⟨l,v,rfl,Y,W,o,s⟩:=hrel;have y:∀t,t<d.size->wr.cell? ⟨f,off+t,none⟩=some (.int .i32 (r t)):=λt m=>by rw[o];exact S t m
    have D:Hid (wr=W1.drewN v):=o;clear o;by_cases u:h<=l
    ·exfalso;omega
    go_wp2_with fail;go_big_quiet (first|(go_at_call 141;refine ju (aK _ _ _)));have A:Hid (l=Sort.scanDown (λx=>Sort.ltInt g[a]! x) g h j):=(scanDown_end (λx=>Sort.ltInt g[a]! x) g h l (Or.inl u)).symm.trans s.out;clear y s;have k:wr.drewN nq=W1.drewN (v+nq):=by rw[D.out,j5]
    generalize wr.drewN nq=W3 at k⊢;have O:∀t,t<d.size->W3.cell? ⟨f,off+t,none⟩=some (.int .i32 (r t)):=λt m=>by rw[k];exact S t m
    have T:∀t,t<d.size->W3.frozen? ⟨f,off+t,none⟩=false:=λt m=>by rw[k];exact hf t m
    have F:Hid (W3=W1.drewN (v+nq)):=k;clear k;go_wp2;go_ret;have e:=partEq_break Sort.ltInt a i j g H.out A.out (by omega);refine⟨?_,n+(v+nq),?_⟩
    ·unfold Sort.partitionEqual;rw[<-U.out,e];rfl
    unfold Sort.partitionEqual;rw[<-U.out,e,F.out,AW.out,j5]
def j4 (f off cap a b c:Nat) (d:Array Int) (w:World) (j:Holds (Value.int .i32) w f off d) (g:a<=c) (h:c<b) (k:b<=d.size) (i:d.size<4611686018427387904) :
 Calls prog 142 #[.slice (some ⟨f,off,none⟩) d.size cap,.int .i64 a,.int .i64 b,.int .i64 c] w λe w'=>
  e=.returned (.int .i64 (Sort.partitionEqual Sort.ltInt d a b c).1)/\∃n,w'=putRow (Value.int .i32) (Sort.ahead w n) f off (Sort.partitionEqual Sort.ltInt d a b c).2:=
 (qm f off cap a b c d w j g h k i).mono λ_ _ ⟨m,n,l⟩=>⟨m,n,l⟩
def xM (c off cap a b f:Nat) (d:Array Int) (w:World) (hH:Holds (Value.int .i32) w c off d) (an:a<=f) (ap:f<b) (hb:b<=d.size) (ao:d.size<4611686018427387904) :
 Calls prog 143 #[.slice (some ⟨c,off,none⟩) d.size cap,.int .i64 a,.int .i64 b,.int .i64 f] w λe w'=>
  e=.returned (.tuple #[.int .i64 (Sort.partition Sort.ltInt d a b f).1,.bool (Sort.partition Sort.ltInt d a b f).2.1])/\∃n,w'=(putRow (Value.int .i32) w c off (Sort.partition Sort.ltInt d a b f).2.2).drewN n:=by
 have ad:a<d.size:=by omega
 have ab:f<d.size:=by omega
 obtain⟨G,Q⟩:∃G:Nat->Int,∀j,G j=d[j]!:=⟨λj=>d[j]!,λ_=>rfl⟩;have ca:w.cell? ⟨c,off+a,none⟩=some (.int .i32 (G a)):=by rw[Q];exact(hH a ad).1
 have fa:=(hH a ad).2;have cp:w.cell? ⟨c,off+f,none⟩=some (.int .i32 (G f)):=by rw[Q];exact(hH f ab).1
 have fp:=(hH f ab).2;obtain⟨v',ak⟩:=cell?_setCell_some (w:=w) (p:=⟨c,off+a,none⟩) (x:=.int .i32 (G f)) (q:=⟨c,off+f,none⟩) cp;have S:((w.setCell ⟨c,off+a,none⟩ (.int .i32 (G f))).setCell ⟨c,off+f,none⟩ (.int .i32 (G a))).drew=(putRow (Value.int .i32) w c off (Sort.swp d a f)).drewN 1:=by
  have e:=swap_worldC (Value.int .i32) w c off d 0 a f ad ab;rw[putRow_self _ w c off d hH] at e;rw[Q a,Q f];exact e
 have AH:Hid (Holds (Value.int .i32) w c off d):=hH;have ai:=Hid.mk' S;clear Q hH S;go_enter func143,ntmps143;go_wp2;go_region;go_wp2;clear ca fa cp fp ak v';have S:=ai.out;clear ai;generalize ((w.setCell ⟨c,off+a,none⟩ (.int .i32 (G f))).setCell ⟨c,off+f,none⟩ (.int .i32 (G a))).drew=W1 at S⊢;obtain⟨g,W⟩:=ae (Sort.swp d a f);obtain⟨n,hn⟩:∃n:Nat,n=1:=⟨_,rfl⟩;rw[<-W,<-hn] at S;clear hn;have hs:g.size=d.size:=by rw[W,size_swp]
 have e1:((a:Int)+1)=((a+1:Nat):Int):=by omega
 have e2:((b:Int)-1)=((b-1:Nat):Int):=by omega
 rw[e1,e2];clear e1 e2;obtain⟨i,hi⟩:=ae (a+1);obtain⟨j,hj⟩:=ae (b-1);rw[<-hi,<-hj];have al:a<i:=by omega
 have ac:i<=j+1:=by omega
 have am:j<b:=by omega
 have HI:=Hid.mk' hi;have HJ:=Hid.mk' hj;have Y:=Hid.mk' W;clear hi hj W;have L:Holds (Value.int .i32) W1 c off g:=by
  rw[S];exact holds_putRow (Value.int .i32) w c off d g AH.out hs
 obtain⟨r,Q⟩:∃r:Nat->Int,∀t,r t=g[t]!:=⟨λt=>g[t]!,λ_=>rfl⟩;have N:∀t,t<d.size->W1.cell? ⟨c,off+t,none⟩=some (.int .i32 (r t)):=λt m=>by rw[Q];exact(L t (by omega)).1
 have hf:∀t,t<d.size->W1.frozen? ⟨c,off+t,none⟩=false:=λt m=>(L t (by omega)).2;have z:Hid (∀t,r t=g[t]!):=Q;have X:Hid (W1=(putRow (Value.int .i32) w c off g).drewN n):=S;clear Q S L
 go_loopw [10] (λT w1=>∃(k K:Nat),T=.int .i64 k/\i<=k/\k<=j+1/\w1=W1.drewN K/\
  Hid (Sort.scanUp (λx=>Sort.ltInt x g[a]!) g j k=Sort.scanUp (λx=>Sort.ltInt x g[a]!) g j i))
  (λT _=>j+1-(intOf T).toNat)
 case atStart=>exact⟨i,0,rfl,gw _,ac,rfl,rfl⟩
 case round=>
  obtain⟨k,K,rfl,aj,J,M,F⟩:=hrel;have y:∀t,t<d.size->wr.cell? ⟨c,off+t,none⟩=some (.int .i32 (r t)):=λt m=>by rw[M];exact N t m
  have E:Hid (wr=W1.drewN K):=M;clear M;by_cases U:k<=j
  ·go_wp2_with fail;go_big_quiet (first|(go_at_call 141;refine ju (aK _ _ _)));go_wp2
   ·
    have m:Sort.ltInt (r k) (r a)=true:=by assumption
    go_roundw
    case rel=>exact⟨k+1,K+nq,by go_num,by omega,by omega,by rw[E.out,j5],(scanUp_go (λx=>Sort.ltInt x g[a]!) g j k U (by rw[<-z.out a,<-z.out k];exact m)).symm.trans F.out⟩
    case measure=>simp[intOf];omega
   ·
    have m:Sort.ltInt (r k) (r a)=false:=by assumption
    have D:Hid (k=Sort.scanUp (λx=>Sort.ltInt x g[a]!) g j i):=(scanUp_end (λx=>Sort.ltInt x g[a]!) g j k (Or.inr (by rw[<-z.out a,<-z.out k];exact m))).symm.trans F.out;clear m;have o:wr.drewN nq=W1.drewN (K+nq):=by rw[E.out,j5]
    clear y E F
    go_loopw [11] (λI w2=>∃(h v:Nat),I=.int .i64 h/\h<=j/\k<=h+1/\w2=W1.drewN v/\
     Hid (Sort.scanDown (λx=>!Sort.ltInt x g[a]!) g k h=Sort.scanDown (λx=>!Sort.ltInt x g[a]!) g k j))
     (λI _=>(intOf I).toNat)
    case atStart=>exact⟨j,K+nq,rfl,gw _,J,o,rfl⟩
    case round=>
     clear o;obtain⟨h,v,rfl,aa,V,o,s⟩:=hrel;have y:∀t,t<d.size->wr.cell? ⟨c,off+t,none⟩=some (.int .i32 (r t)):=λt m=>by rw[o];exact N t m
     have H:Hid (wr=W1.drewN v):=o;clear o;by_cases u:k<=h
     ·go_wp2_with fail;go_big_quiet (first|(go_at_call 141;refine ju (aK _ _ _)));go_wp2
      ·
       have m:(!Sort.ltInt (r h) (r a))=true:=by assumption
       go_roundw
       case rel=>exact⟨h-1,v+nq,by go_num,by omega,by omega,by rw[H.out,j5],(scanDown_go (λx=>!Sort.ltInt x g[a]!) g k h u (by omega) (by rw[<-z.out a,<-z.out h];exact m)).symm.trans s.out⟩
       case measure=>simp[intOf];omega
      ·
       have m:(!Sort.ltInt (r h) (r a))=false:=by assumption
       have A:Hid (h=Sort.scanDown (λx=>!Sort.ltInt x g[a]!) g k j):=(scanDown_end (λx=>!Sort.ltInt x g[a]!) g k h (Or.inr (by rw[<-z.out a,<-z.out h];exact m))).symm.trans s.out;clear y s m;have l:wr.drewN nq=W1.drewN (v+nq):=by rw[H.out,j5]
       generalize wr.drewN nq=W3 at l⊢;have B:∀t,t<d.size->W3.cell? ⟨c,off+t,none⟩=some (.int .i32 (r t)):=λt m=>by rw[l];exact N t m
       have P:∀t,t<d.size->W3.frozen? ⟨c,off+t,none⟩=false:=λt m=>by rw[l];exact hf t m
       have C:Hid (W3=W1.drewN (v+nq)):=l;clear l;obtain⟨v3,O⟩:=cell?_setCell_some (w:=W3) (p:=⟨c,off+k,none⟩) (x:=.int .i32 (r h)) (q:=⟨c,off+h,none⟩) (B h (by omega));have ag:=part_scans_lt Sort.ltInt a i j g (by omega) D.out A.out u;go_wp2;go_region
       all_goals go_wp2
       obtain⟨R,hR⟩:=ae (Sort.partLoop Sort.ltInt a (k+1) (h-1) (Sort.swp g k h));have HP:Hid (Sort.partition Sort.ltInt d a b f=(R.1,false,Sort.swp R.2 R.1 a)):=by rw[hR];exact part_first_go Sort.ltInt d a b f HI.out HJ.out Y.out D.out A.out (by omega)
       have ah:((W3.setCell ⟨c,off+k,none⟩ (.int .i32 (r h))).setCell ⟨c,off+h,none⟩ (.int .i32 (r k))).drew=(putRow (Value.int .i32) w c off (Sort.swp g k h)).drewN (n+(v+nq)+1):=by
        rw[C.out,X.out,j5,z.out k,z.out h];exact swap_worldC (Value.int .i32) w c off g _ k h (by omega) (by omega)
       have HR:Hid (R=Sort.partLoop Sort.ltInt a (k+1) (h-1) (Sort.swp g k h)):=hR;clear hR N hf B P O C X z D A
       go_loopw [10,11] (λT I wr=>∃(i j n:Nat) (g:Array Int),T=.int .i64 i/\I=.int .i64 j/\a<i/\i<=j+1/\j<b/\g.size=d.size/\wr=(putRow (Value.int .i32) w c off g).drewN n/\
        Sort.partLoop Sort.ltInt a i j g=R)
        (λT I _=>(intOf I).toNat+1-(intOf T).toNat)
       case atStart=>exact⟨k+1,h-1,_,Sort.swp g k h,by go_num,by go_num,by omega,by omega,by omega,by rw[size_swp];exact hs,ah,HR.out.symm⟩
       case round=>
        clear ah HR;obtain⟨i,j,n,g,rfl,rfl,al,ac,am,hs,S,af⟩:=hrel;rename World=>W1;have AE:Hid (Sort.partLoop Sort.ltInt a i j g=R):=af;clear af;have L:Holds (Value.int .i32) W1 c off g:=by
         rw[S];exact holds_putRow (Value.int .i32) w c off d g AH.out hs
        obtain⟨r,Q⟩:∃r:Nat->Int,∀t,r t=g[t]!:=⟨λt=>g[t]!,λ_=>rfl⟩;have N:∀t,t<d.size->W1.cell? ⟨c,off+t,none⟩=some (.int .i32 (r t)):=λt m=>by rw[Q];exact(L t (by omega)).1
        have hf:∀t,t<d.size->W1.frozen? ⟨c,off+t,none⟩=false:=λt m=>(L t (by omega)).2;have z:Hid (∀t,r t=g[t]!):=Q;have X:Hid (W1=(putRow (Value.int .i32) w c off g).drewN n):=S;clear Q S L;go_wp2
        go_loopw [10] (λT w1=>∃(k K:Nat),T=.int .i64 k/\i<=k/\k<=j+1/\w1=W1.drewN K/\
         Hid (Sort.scanUp (λx=>Sort.ltInt x g[a]!) g j k=Sort.scanUp (λx=>Sort.ltInt x g[a]!) g j i))
         (λT _=>j+1-(intOf T).toNat)
        case atStart=>exact⟨i,0,rfl,gw _,ac,rfl,rfl⟩
        case round=>
         obtain⟨k,K,rfl,aj,J,M,F⟩:=hrel;have y:∀t,t<d.size->wr.cell? ⟨c,off+t,none⟩=some (.int .i32 (r t)):=λt m=>by rw[M];exact N t m
         have E:Hid (wr=W1.drewN K):=M;clear M;by_cases U:k<=j
         ·go_wp2_with fail;go_big_quiet (first|(go_at_call 141;refine ju (aK _ _ _)));go_wp2
          ·
           have m:Sort.ltInt (r k) (r a)=true:=by assumption
           go_roundw
           case rel=>exact⟨k+1,K+nq,by go_num,by omega,by omega,by rw[E.out,j5],(scanUp_go (λx=>Sort.ltInt x g[a]!) g j k U (by rw[<-z.out a,<-z.out k];exact m)).symm.trans F.out⟩
           case measure=>simp[intOf];omega
          ·
           have m:Sort.ltInt (r k) (r a)=false:=by assumption
           have D:Hid (k=Sort.scanUp (λx=>Sort.ltInt x g[a]!) g j i):=(scanUp_end (λx=>Sort.ltInt x g[a]!) g j k (Or.inr (by rw[<-z.out a,<-z.out k];exact m))).symm.trans F.out;clear m;have o:wr.drewN nq=W1.drewN (K+nq):=by rw[E.out,j5]
           clear y E F
           go_loopw [11] (λI w2=>∃(h v:Nat),I=.int .i64 h/\h<=j/\k<=h+1/\w2=W1.drewN v/\
            Hid (Sort.scanDown (λx=>!Sort.ltInt x g[a]!) g k h=Sort.scanDown (λx=>!Sort.ltInt x g[a]!) g k j))
            (λI _=>(intOf I).toNat)
           case atStart=>exact⟨j,K+nq,rfl,gw _,J,o,rfl⟩
           case round=>
            clear o;obtain⟨h,v,rfl,aa,V,o,s⟩:=hrel;have y:∀t,t<d.size->wr.cell? ⟨c,off+t,none⟩=some (.int .i32 (r t)):=λt m=>by rw[o];exact N t m
            have H:Hid (wr=W1.drewN v):=o;clear o;by_cases u:k<=h
            ·go_wp2_with fail;go_big_quiet (first|(go_at_call 141;refine ju (aK _ _ _)));go_wp2
             ·
              have m:(!Sort.ltInt (r h) (r a))=true:=by assumption
              go_roundw
              case rel=>exact⟨h-1,v+nq,by go_num,by omega,by omega,by rw[H.out,j5],(scanDown_go (λx=>!Sort.ltInt x g[a]!) g k h u (by omega) (by rw[<-z.out a,<-z.out h];exact m)).symm.trans s.out⟩
              case measure=>simp[intOf];omega
             ·
              have m:(!Sort.ltInt (r h) (r a))=false:=by assumption
              have A:Hid (h=Sort.scanDown (λx=>!Sort.ltInt x g[a]!) g k j):=(scanDown_end (λx=>!Sort.ltInt x g[a]!) g k h (Or.inr (by rw[<-z.out a,<-z.out h];exact m))).symm.trans s.out;clear y s m;have l:wr.drewN nq=W1.drewN (v+nq):=by rw[H.out,j5]
              generalize wr.drewN nq=W3 at l⊢;have B:∀t,t<d.size->W3.cell? ⟨c,off+t,none⟩=some (.int .i32 (r t)):=λt m=>by rw[l];exact N t m
              have P:∀t,t<d.size->W3.frozen? ⟨c,off+t,none⟩=false:=λt m=>by rw[l];exact hf t m
              have C:Hid (W3=W1.drewN (v+nq)):=l;clear l;obtain⟨v3,O⟩:=cell?_setCell_some (w:=W3) (p:=⟨c,off+k,none⟩) (x:=.int .i32 (r h)) (q:=⟨c,off+h,none⟩) (B h (by omega));have ag:=part_scans_lt Sort.ltInt a i j g (by omega) D.out A.out u;go_wp2;go_region
              all_goals go_wp2
              all_goals go_roundw
              case rel=>
               refine⟨k+1,h-1,n+(v+nq)+1,Sort.swp g k h,by go_num,by go_num,by omega,by omega,by omega,by rw[size_swp];exact hs,?_,?_⟩
               ·rw[C.out,X.out,j5,z.out k,z.out h];exact swap_worldC (Value.int .i32) w c off g _ k h (by omega) (by omega)
               exact(part_go Sort.ltInt a i j g D.out A.out (by omega)).symm.trans AE.out
              case measure=>simp[intOf];omega
            go_wp2_with fail;go_big_quiet (first|(go_at_call 141;refine ju (aK _ _ _)));have A:Hid (h=Sort.scanDown (λx=>!Sort.ltInt x g[a]!) g k j):=(scanDown_end (λx=>!Sort.ltInt x g[a]!) g k h (Or.inl u)).symm.trans s.out;clear y s;have l:wr.drewN nq=W1.drewN (v+nq):=by rw[H.out,j5]
            generalize wr.drewN nq=W3 at l⊢;have B:∀t,t<d.size->W3.cell? ⟨c,off+t,none⟩=some (.int .i32 (r t)):=λt m=>by rw[l];exact N t m
            have P:∀t,t<d.size->W3.frozen? ⟨c,off+t,none⟩=false:=λt m=>by rw[l];exact hf t m
            have C:Hid (W3=W1.drewN (v+nq)):=l;clear l;obtain⟨v3,O⟩:=cell?_setCell_some (w:=W3) (p:=⟨c,off+h,none⟩) (x:=.int .i32 (r a)) (q:=⟨c,off+a,none⟩) (B a (by omega));have Z:h<d.size:=by omega
            go_wp2;go_region
            all_goals go_wp2
            all_goals go_ret2
            have e:Sort.partition Sort.ltInt d a b f=(h,false,Sort.swp g h a):=by
             have e0:=(part_break Sort.ltInt a i j g D.out A.out (by omega)).symm.trans AE.out;rw[HP.out,<-e0]
            refine⟨?_,n+(v+nq)+1,?_⟩
            ·rw[e];rfl
            rw[e,C.out,X.out,j5,z.out a,z.out h];exact swap_worldC (Value.int .i32) w c off g _ h a (by omega) (by omega)
         go_wp2_with fail;go_big_quiet (first|(go_at_call 141;refine ju (aK _ _ _)));go_wp2;have D:Hid (k=Sort.scanUp (λx=>Sort.ltInt x g[a]!) g j i):=(scanUp_end (λx=>Sort.ltInt x g[a]!) g j k (Or.inl U)).symm.trans F.out;have o:wr.drewN nq=W1.drewN (K+nq):=by rw[E.out,j5]
         clear y E F
         go_loopw [11] (λI w2=>∃(h v:Nat),I=.int .i64 h/\h<=j/\k<=h+1/\w2=W1.drewN v/\
          Hid (Sort.scanDown (λx=>!Sort.ltInt x g[a]!) g k h=Sort.scanDown (λx=>!Sort.ltInt x g[a]!) g k j))
          (λI _=>(intOf I).toNat)
         case atStart=>exact⟨j,K+nq,rfl,gw _,J,o,rfl⟩
         case round=>
          clear o;obtain⟨h,v,rfl,aa,V,o,s⟩:=hrel;have y:∀t,t<d.size->wr.cell? ⟨c,off+t,none⟩=some (.int .i32 (r t)):=λt m=>by rw[o];exact N t m
          have H:Hid (wr=W1.drewN v):=o;clear o;by_cases u:k<=h
          ·exfalso;omega
          go_wp2_with fail;go_big_quiet (first|(go_at_call 141;refine ju (aK _ _ _)));have A:Hid (h=Sort.scanDown (λx=>!Sort.ltInt x g[a]!) g k j):=(scanDown_end (λx=>!Sort.ltInt x g[a]!) g k h (Or.inl u)).symm.trans s.out;clear y s;have l:wr.drewN nq=W1.drewN (v+nq):=by rw[H.out,j5]
          generalize wr.drewN nq=W3 at l⊢;have B:∀t,t<d.size->W3.cell? ⟨c,off+t,none⟩=some (.int .i32 (r t)):=λt m=>by rw[l];exact N t m
          have P:∀t,t<d.size->W3.frozen? ⟨c,off+t,none⟩=false:=λt m=>by rw[l];exact hf t m
          have C:Hid (W3=W1.drewN (v+nq)):=l;clear l;obtain⟨v3,O⟩:=cell?_setCell_some (w:=W3) (p:=⟨c,off+h,none⟩) (x:=.int .i32 (r a)) (q:=⟨c,off+a,none⟩) (B a (by omega));have Z:h<d.size:=by omega
          go_wp2;go_region
          all_goals go_wp2
          all_goals go_ret2
          have e:Sort.partition Sort.ltInt d a b f=(h,false,Sort.swp g h a):=by
           have e0:=(part_break Sort.ltInt a i j g D.out A.out (by omega)).symm.trans AE.out;rw[HP.out,<-e0]
          refine⟨?_,n+(v+nq)+1,?_⟩
          ·rw[e];rfl
          rw[e,C.out,X.out,j5,z.out a,z.out h];exact swap_worldC (Value.int .i32) w c off g _ h a (by omega) (by omega)
     go_wp2_with fail;go_big_quiet (first|(go_at_call 141;refine ju (aK _ _ _)));have A:Hid (h=Sort.scanDown (λx=>!Sort.ltInt x g[a]!) g k j):=(scanDown_end (λx=>!Sort.ltInt x g[a]!) g k h (Or.inl u)).symm.trans s.out;clear y s;have l:wr.drewN nq=W1.drewN (v+nq):=by rw[H.out,j5]
     generalize wr.drewN nq=W3 at l⊢;have B:∀t,t<d.size->W3.cell? ⟨c,off+t,none⟩=some (.int .i32 (r t)):=λt m=>by rw[l];exact N t m
     have P:∀t,t<d.size->W3.frozen? ⟨c,off+t,none⟩=false:=λt m=>by rw[l];exact hf t m
     have C:Hid (W3=W1.drewN (v+nq)):=l;clear l;obtain⟨v3,O⟩:=cell?_setCell_some (w:=W3) (p:=⟨c,off+h,none⟩) (x:=.int .i32 (r a)) (q:=⟨c,off+a,none⟩) (B a (by omega));have Z:h<d.size:=by omega
     go_wp2;go_region
     all_goals go_wp2
     all_goals go_ret2
     have e:Sort.partition Sort.ltInt d a b f=(h,true,Sort.swp g h a):=part_first_break Sort.ltInt d a b f HI.out HJ.out Y.out D.out A.out (by omega);refine⟨?_,n+(v+nq)+1,?_⟩
     ·rw[e];rfl
     rw[e,C.out,X.out,j5,z.out a,z.out h];exact swap_worldC (Value.int .i32) w c off g _ h a (by omega) (by omega)
  go_wp2_with fail;go_big_quiet (first|(go_at_call 141;refine ju (aK _ _ _)));go_wp2;have D:Hid (k=Sort.scanUp (λx=>Sort.ltInt x g[a]!) g j i):=(scanUp_end (λx=>Sort.ltInt x g[a]!) g j k (Or.inl U)).symm.trans F.out;have o:wr.drewN nq=W1.drewN (K+nq):=by rw[E.out,j5]
  clear y E F
  go_loopw [11] (λI w2=>∃(h v:Nat),I=.int .i64 h/\h<=j/\k<=h+1/\w2=W1.drewN v/\
   Hid (Sort.scanDown (λx=>!Sort.ltInt x g[a]!) g k h=Sort.scanDown (λx=>!Sort.ltInt x g[a]!) g k j))
   (λI _=>(intOf I).toNat)
  case atStart=>exact⟨j,K+nq,rfl,gw _,J,o,rfl⟩
  case round=>
   clear o;obtain⟨h,v,rfl,aa,V,o,s⟩:=hrel;have y:∀t,t<d.size->wr.cell? ⟨c,off+t,none⟩=some (.int .i32 (r t)):=λt m=>by rw[o];exact N t m
   have H:Hid (wr=W1.drewN v):=o;clear o;by_cases u:k<=h
   ·exfalso;omega
   go_wp2_with fail;go_big_quiet (first|(go_at_call 141;refine ju (aK _ _ _)));have A:Hid (h=Sort.scanDown (λx=>!Sort.ltInt x g[a]!) g k j):=(scanDown_end (λx=>!Sort.ltInt x g[a]!) g k h (Or.inl u)).symm.trans s.out;clear y s;have l:wr.drewN nq=W1.drewN (v+nq):=by rw[H.out,j5]
   generalize wr.drewN nq=W3 at l⊢;have B:∀t,t<d.size->W3.cell? ⟨c,off+t,none⟩=some (.int .i32 (r t)):=λt m=>by rw[l];exact N t m
   have P:∀t,t<d.size->W3.frozen? ⟨c,off+t,none⟩=false:=λt m=>by rw[l];exact hf t m
   have C:Hid (W3=W1.drewN (v+nq)):=l;clear l;obtain⟨v3,O⟩:=cell?_setCell_some (w:=W3) (p:=⟨c,off+h,none⟩) (x:=.int .i32 (r a)) (q:=⟨c,off+a,none⟩) (B a (by omega));have Z:h<d.size:=by omega
   go_wp2;go_region
   all_goals go_wp2
   all_goals go_ret2
   have e:Sort.partition Sort.ltInt d a b f=(h,true,Sort.swp g h a):=part_first_break Sort.ltInt d a b f HI.out HJ.out Y.out D.out A.out (by omega);refine⟨?_,n+(v+nq)+1,?_⟩
   ·rw[e];rfl
   rw[e,C.out,X.out,j5,z.out a,z.out h];exact swap_worldC (Value.int .i32) w c off g _ h a (by omega) (by omega)
def nV (f off cap a b c:Nat) (d:Array Int) (w:World) (j:Holds (Value.int .i32) w f off d) (g:a<=c) (h:c<b) (k:b<=d.size) (i:d.size<4611686018427387904) :
 Calls prog 143 #[.slice (some ⟨f,off,none⟩) d.size cap,.int .i64 a,.int .i64 b,.int .i64 c] w λe w'=>
  e=.returned (.tuple #[.int .i64 (Sort.partition Sort.ltInt d a b c).1,.bool (Sort.partition Sort.ltInt d a b c).2.1])/\∃n,w'=putRow (Value.int .i32) (Sort.ahead w n) f off (Sort.partition Sort.ltInt d a b c).2.2:=
 (xM f off cap a b c d w j g h k i).mono λ_ _ ⟨m,n,l⟩=>⟨m,n,l⟩
def xN (b a X:Nat) (k:X<18446744073709551616) (w:World) (m:w.cell? ⟨b,a,none⟩=some (.int .u64 X)) (hf:w.frozen? ⟨b,a,none⟩=false) :
 Calls prog 175 #[.pointer (some ⟨b,a,none⟩)] w λe w'=>e=.returned (.int .u64 (xorNextN X:Nat))/\w'=(w.setCell ⟨b,a,none⟩ (.int .u64 (xorNextN X:Nat))).drewN 3:=by
 obtain⟨A,c⟩:∃A:Nat,A=X ^^^ (X*8192 % 18446744073709551616):=⟨_,rfl⟩;obtain⟨B,d⟩:∃B:Nat,B=A ^^^ (A / 128):=⟨_,rfl⟩;obtain⟨C,f⟩:∃C:Nat,C=B ^^^ (B*131072 % 18446744073709551616):=⟨_,rfl⟩;have j:A<18446744073709551616:=by rw[c];exact Nat.xor_lt_two_pow (n:=64) (by omega) (by omega)
 have h:B<18446744073709551616:=by rw[d];exact Nat.xor_lt_two_pow (n:=64) (by omega) (by omega)
 have:bits .xor .u64 (X:Int) (IntKind.u64.wrap ((X:Int)*8192))=(A:Int):=by
  rw[pt,show((X:Int)*8192 % 18446744073709551616)=((X*8192 % 18446744073709551616:Nat):Int) by omega,bits_xor_u64_nat _ _ k (by omega),c]
 have:bits .xor .u64 (A:Int) ((A:Int) / 128)=(B:Int):=by
  rw[show((A:Int) / 128)=((A / 128:Nat):Int) by omega,bits_xor_u64_nat _ _ j (by omega),d]
 have:bits .xor .u64 (B:Int) (IntKind.u64.wrap ((B:Int)*131072))=(C:Int):=by
  rw[pt,show((B:Int)*131072 % 18446744073709551616)=((B*131072 % 18446744073709551616:Nat):Int) by omega,bits_xor_u64_nat _ _ h (by omega),f]
 have g:xorNextN X=C:=by unfold xorNextN;simp only[];rw[<-c,<-d,<-f]
 rw[g];clear c d f g;have:∀v v',(w.setCell ⟨b,a,none⟩ v).setCell ⟨b,a,none⟩ v'=w.setCell ⟨b,a,none⟩ v':=setCell_setCell w b a;go_enter func175,ntmps175;go_wp2;go_region
 all_goals go_wp2
 all_goals go_region
 all_goals go_wp2
 all_goals go_region
 all_goals go_wp2
 go_ret;exact⟨rfl,rfl⟩
def vS (n:Nat) (c:n<4611686018427387904) (w:World) :
 Calls prog 174 #[.int .i64 n] w λe w'=>e=.returned (.int .u64 ((1 <<< bitsLen n:Nat):Int))/\w'=w:=by
 have a:∀w,Calls prog 99 #[.int .u64 (n:Int)] w λe w'=>e=.returned (.int .i64 (bitsLen n:Nat))/\w'=w:=λw=>by
  have h:=Tryz.bits_Len (n:Int) w (by omega) (by omega)
  rwa [oT,bitLen_eq _ (by omega)] at h
 have b:bitsLen n<=62:=(bitsLen_le_iff n 62).2 (by omega);have:=wrap_two_pow (bitsLen n) b;go_enter func174,ntmps174;go_wp2_with (first|(go_at_call 99;refine(a _).mono ?_;rintro e w'⟨rfl,rfl⟩));go_ret;exact⟨rfl,rfl⟩
def nW (b off cap a L:Nat) (d:Array Int) (w:World) (B:Holds (Value.int .i32) w b off d) (f:b<w.heap.size) (Z:a+L<=d.size) (Q:d.size<4611686018427387904) (W:8<=L) :
 Calls prog 137 #[.slice (some ⟨b,off,none⟩) d.size cap,.int .i64 a,.int .i64 ((a+L:Nat):Int)] w λe w'=>
  e=.returned (.tuple #[])/\∃n os,w'=grow (putRow (Value.int .i32) (Sort.ahead w n) b off (breakPatterns d a (a+L))) os:=by
 rw[breakPatterns_eq d a L W];obtain⟨M,m⟩:∃M:Nat,M=1 <<< bitsLen L:=⟨_,rfl⟩;have:1<=M:=by rw[m,Nat.one_shiftLeft];exact Nat.two_pow_pos _
 have:M<=2*L:=by rw[m,Nat.one_shiftLeft];exact two_pow_bitsLen_le (by omega)
 have z:∀w,Calls prog 174 #[.int .i64 (L:Int)] w λe w'=>e=.returned (.int .u64 (M:Int))/\w'=w:=by rw[m];exact λw=>vS L (by omega) w
 rw[<-m];clear m;have J:Hid (Holds (Value.int .i32) w b off d):=B;have F:Hid (w.alloc (Obj.cells #[.int .u64 (L:Int)] 285)=grow (putRow (Value.int .i32) (Sort.ahead w 0) b off d) #[Obj.cells #[.int .u64 ((UInt64.ofNat L).toNat:Int)] 285]):=by
  show _=_;rw[show Sort.ahead w 0=w from rfl,putRow_self _ _ _ _ _ B,alloc_eq_grow,show(UInt64.ofNat L).toNat=L from by simp;omega]
 clear B;go_enter func137,ntmps137;go_wp2_with (first|(go_at_call 174;rw[show((a:Int)+(L:Int)-(a:Int))=(L:Int) by omega];refine(z _).mono ?_;rintro e w'⟨rfl,rfl⟩))
 go_loopw [9] (λu wr=>∃(t n:Nat) (r:UInt64) (c:Array Int),u=.int .i64 ((a+L / 4*2-1+t:Nat):Int)/\t<=3/\c.size=d.size/\
  wr=grow (putRow (Value.int .i32) (Sort.ahead w n) b off c) #[Obj.cells #[.int .u64 (r.toNat:Int)] 285]/\
  bpRest a L M (a+L / 4*2-1) (3-t) t (r,c)=bpRest a L M (a+L / 4*2-1) 3 0 (UInt64.ofNat L,d)) (λu _=>a+L / 4*2+3-(intOf u).toNat)
 case atStart=>exact⟨0,0,UInt64.ofNat L,d,by congr 1;omega,by omega,rfl,F.out,rfl⟩
 case round=>
  obtain⟨t,n,r,c,rfl,X,k,l,K⟩:=hrel;obtain⟨R,g⟩:∃R:Nat,R=r.toNat:=⟨_,rfl⟩;have I:R<18446744073709551616:=by rw[g];exact r.toNat_lt
  obtain⟨R',h⟩:∃R':Nat,R'=xorNextN R:=⟨_,rfl⟩;have D:R'<18446744073709551616:=by rw[h];exact xorNextN_lt R I
  obtain⟨O,p⟩:∃O:Nat,O=R' &&& (M-1):=⟨_,rfl⟩;have:O<=M-1:=by rw[p];exact Nat.and_le_right
  have:bits .and .u64 (R':Int) ((M:Int)-1)=(O:Int):=by
   rw[show((M:Int)-1)=((M-1:Nat):Int) by omega,bits_and_u64_nat _ _ D (by omega),p]
  obtain⟨G,C⟩:∃G:Nat->Int,∀x,G x=c[x]!:=⟨λx=>c[x]!,λ_=>rfl⟩;have o:(putRow (Value.int .i32) (Sort.ahead w n) b off c).heap.size=w.heap.size:=by simp
  have:∀x,x<d.size->wr.cell? ⟨b,off+x,none⟩=some (.int .i32 (G x)):=λx P=>by
   rw[l,cell?_grow _ _ _ (by rw[o];exact f),C];exact cell?_putRow _ _ _ _ d c (holds_ahead _ _ _ _ _ _ J.out) k x (by omega)
  have:∀x,x<d.size->wr.frozen? ⟨b,off+x,none⟩=false:=λx P=>by
   rw[l,frozen?_grow _ _ _ (by rw[o];exact f),frozen?_putRow];exact((holds_ahead _ _ n _ _ _ J.out) x P).2
  have v:wr.cell? ⟨w.heap.size,0,none⟩=some (.int .u64 (R:Int)):=by rw[l,g,<-o];exact grow_one_cell _ _ _
  have A:wr.frozen? ⟨w.heap.size,0,none⟩=false:=by rw[l,<-o];exact grow_one_frozen _ _ _
  have i:Calls prog 175 #[.pointer (some ⟨w.heap.size,0,none⟩)] wr λe w'=>e=.returned (.int .u64 (R':Int))/\w'=(wr.setCell ⟨w.heap.size,0,none⟩ (.int .u64 (R':Int))).drewN 3:=by
   rw[h];exact xN _ _ R I wr v A
  have y:Hid (wr=grow (putRow (Value.int .i32) (Sort.ahead w n) b off c) #[Obj.cells #[.int .u64 (r.toNat:Int)] 285]):=l;have H:Hid (∀x,G x=c[x]!):=C;have E:Hid (bpRest a L M (a+L / 4*2-1) (3-t) t (r,c)=bpRest a L M (a+L / 4*2-1) 3 0 (UInt64.ofNat L,d)):=K;have q:Hid (R'=(xorNext r).toNat/\O=(xorNext r).toNat &&& (M-1)):=by
   have e:R'=(xorNext r).toNat:=by rw[h,g,xorNext_toNat]
   exact⟨e,by rw[p,e]⟩
  clear l C K g h p;go_wp2_with (first|(go_at_call 175;refine i.mono ?_;rintro e w'⟨rfl,rfl⟩))
  ·
   have s:L<=O:=by omega
   by_cases j:a+L / 4*2-1+t=a+(O-L)
   all_goals
    go_region
    all_goals go_wp2
    go_roundw
    case rel=>
     refine⟨t+1,n+4,xorNext r,swp c (a+L / 4*2-1+t) (a+(O-L)),by first|rfl|(congr 1 <;> omega),by omega,by rw[size_swp];exact k,?_,?_⟩
     ·(try rw[j])
      rw[y.out,q.out.1];simp only[H.out];exact step_world (Value.int .i32) w n 4 b off c _ _ f (by omega) (by omega) _ _ _
     rw[<-E.out,bp_step a L M _ t r c (O-L) (by omega) (by rw[<-q.out.2,if_pos (by omega)])]
    case measure=>simp[intOf];omega
  ·have s:¬L<=O:=by omega
   by_cases j:a+L / 4*2-1+t=a+O
   all_goals
    go_region
    all_goals go_wp2
    go_roundw
    case rel=>
     refine⟨t+1,n+4,xorNext r,swp c (a+L / 4*2-1+t) (a+O),by first|rfl|(congr 1 <;> omega),by omega,by rw[size_swp];exact k,?_,?_⟩
     ·(try rw[j])
      rw[y.out,q.out.1];simp only[H.out];exact step_world (Value.int .i32) w n 4 b off c _ _ f (by omega) (by omega) _ _ _
     rw[<-E.out,bp_step a L M _ t r c O (by omega) (by rw[<-q.out.2,if_neg (by omega)])]
    case measure=>simp[intOf];omega
  ·
   obtain rfl:t=3:=by omega
   go_end0
   exact⟨rfl,n,_,by rw[<-E.out,y.out];rfl⟩
def qD (c off cap a b:Nat) (d:Array Int) (w:World) (h:Holds (Value.int .i32) w c off d) (f:c<w.heap.size) (l:a<=b) (k:b<=d.size) (g:d.size<4611686018427387904) :
 Calls prog 137 #[.slice (some ⟨c,off,none⟩) d.size cap,.int .i64 a,.int .i64 b] w λe w'=>
  e=.returned (.tuple #[])/\∃n os,w'=grow (putRow (Value.int .i32) (Sort.ahead w n) c off (breakPatterns d a b)) os:=by
 obtain⟨L,rfl⟩:∃L,b=a+L:=⟨b-a,by omega⟩;by_cases j:8<=L
 ·exact nW c off cap a L d w h f k g j
 have m:breakPatterns d a (a+L)=d:=by unfold breakPatterns;simp only[kB];rw[if_neg j]
 rw[m];have i:Hid (w=grow (putRow (Value.int .i32) (Sort.ahead w 0) c off d) #[]):=by
  show _=_;rw[grow_empty,show Sort.ahead w 0=w from rfl,putRow_self _ _ _ _ _ h]
 clear h;go_enter func137,ntmps137;go_wp2
 go_end0
 exact⟨rfl,0,#[],i.out⟩
end Go.Proofs.YtmnimbnojdndmaaGreatDoor
namespace Go.Proofs.YtmnimbnojdndmaaGreatDoor
open Go.Sort Go.RowKit _root_.Go.Proofs.Tryz
def gq {w:World} {a off e f n t:Nat} {d:Array Int} (h:Holds (Value.int .i32) w a off d) (b:e≠a):Holds (Value.int .i32) (putRow (Value.int .i64) (Sort.ahead w n) e f (one t)) a off d:=λj c=>
 ⟨by rw[cell?_putRow_other _ _ _ _ _ _ (Or.inl (px b))];exact(h j c).1,by rw[frozen?_putRow];exact(h j c).2⟩
def nJ (d:Array Int) (len:Nat) (g:d.size=len) (f off cap a b k i s:Nat) (w:World) (o:Holds (Value.int .i32) w f off d) (p:a<d.size) (q:b<d.size)
 (h:Holds (Value.int .i64) w k i (one s)) (r:s<2 ^ 62) :
 Calls prog 208 #[.slice (some ⟨f,off,none⟩) len cap,.int .i64 a,.int .i64 b,.pointer (some ⟨k,i,none⟩)] w λe w'=>
  e=.returned (.tuple #[.int .i64 (order2 ltInt d a b s).1,.int .i64 (order2 ltInt d a b s).2.1])/\∃n,w'=putRow (Value.int .i64) (Sort.ahead w n) k i (one (order2 ltInt d a b s).2.2):=by
 subst g
 replace r:s<4611686018427387904:=by omega
 have:=(o a p).1;have:=(o b q).1;obtain⟨cs,u⟩:=one_cell h;have m:d[a]! = d[a]:=getElem!_pos d a p;have l:d[b]! = d[b]:=getElem!_pos d b q;go_enter func208,ntmps208;go_wp2
 go_region_with (go_at_call 141;refine(aK _ _ _).mono ?_;rintro e w'⟨rfl,rfl⟩)
 all_goals (try go_wp2)
 all_goals first
  | (have c:ltInt d[b] d[a]=true:=by assumption
     have j:order2 ltInt d a b s=(b,a,s+1):=by simp[order2,m,l,c]
     go_ret2;rw[j];refine⟨rfl,1,?_⟩;rw[putRow_ahead,<-one_set h (s+1)]
     simp[drew_eq_ahead])
  | (have c:ltInt d[b] d[a]=false:=by assumption
     have j:order2 ltInt d a b s=(a,b,s):=by simp[order2,m,l,c]
     go_ret2;rw[j];refine⟨rfl,1,?_⟩;rw[putRow_ahead,putRow_self _ _ _ _ _ h]
     rfl)
def tu (d:Array Int) (len:Nat) (j:d.size=len) (f off cap a b c h i s:Nat) (w:World) (l:Holds (Value.int .i32) w f off d) (o:a<d.size) (q:b<d.size) (p:c<d.size) (g:h≠f)
 (k:Holds (Value.int .i64) w h i (one s)) (x:s+3<2 ^ 62) :
 Calls prog 177 #[.slice (some ⟨f,off,none⟩) len cap,.int .i64 a,.int .i64 b,.int .i64 c,.pointer (some ⟨h,i,none⟩)] w λe w'=>
  e=.returned (.int .i64 (median ltInt d a b c s).1)/\∃n,w'=putRow (Value.int .i64) (Sort.ahead w n) h i (one (median ltInt d a b c s).2):=by
 subst j;have m:=order2_lt d s o q;have:=order2_swaps d a b s;have r:=order2_lt d (order2 ltInt d a b s).2.2 m.2 p;have:=order2_swaps d (order2 ltInt d a b s).2.1 c (order2 ltInt d a b s).2.2;go_enter func177,ntmps177;go_wp2_with (go_at_call_of 208 (Value.int .i64 (b:Int));refine(nJ d _ rfl f off cap a b h i s w l o q k (by omega)).mono ?_;rintro e w'⟨rfl,v,rfl⟩);go_wp2_with (go_at_call_of 208 (Value.int .i64 (c:Int));refine(nJ d _ rfl f off cap (order2 ltInt d a b s).2.1 c h i (order2 ltInt d a b s).2.2 _ (gq l g) m.2 p (holds_one k) (by omega)).mono ?_;rintro e w'⟨rfl,u,rfl⟩)
 go_wp2_with (go_at_call_of 208 (Value.int .i64 ((order2 ltInt d a b s).1:Int));refine(nJ d _ rfl f off cap (order2 ltInt d a b s).1 (order2 ltInt d (order2 ltInt d a b s).2.1 c (order2 ltInt d a b s).2.2).1 h i (order2 ltInt d (order2 ltInt d a b s).2.1 c (order2 ltInt d a b s).2.2).2.2 _
  (gq (gq l g) g) m.1 r.1 (holds_one (holds_one k)) (by omega)).mono ?_;rintro e w'⟨rfl,t,rfl⟩)
 go_ret;refine⟨rfl,v+(u+t),?_⟩;rw[one_one,one_one];rfl
def qo (d:Array Int) (len:Nat) (c:d.size=len) (b off cap a f g s:Nat) (w:World) (k:Holds (Value.int .i32) w b off d) (m:1<=a) (l:a+1<d.size) (h:d.size<2 ^ 62) (i:f≠b)
 (j:Holds (Value.int .i64) w f g (one s)) (p:s+3<2 ^ 62) :
 Calls prog 176 #[.slice (some ⟨b,off,none⟩) len cap,.int .i64 a,.pointer (some ⟨f,g,none⟩)] w λe w'=>
  e=.returned (.int .i64 (medianAdjacent ltInt d a s).1)/\∃n,w'=putRow (Value.int .i64) (Sort.ahead w n) f g (one (medianAdjacent ltInt d a s).2):=by
 subst c
 replace h:d.size<4611686018427387904:=by omega
 go_enter func176,ntmps176;go_wp2_with (go_at_call 177;rw[show((a:Int)-1)=((a-1:Nat):Int) by omega,show((a:Int)+1)=((a+1:Nat):Int) by omega];refine(tu d _ rfl b off cap (a-1) a (a+1) f g s w k (by omega) (by omega) l i j p).mono ?_;rintro e w'⟨rfl,o,rfl⟩);go_ret;exact⟨rfl,o,rfl⟩
def AU (a off cap:Nat) (d:Array Int) (w:World) (u:Holds (Value.int .i32) w a off d) (g:a<w.heap.size) (r:d.size<4611686018427387904) :
 ∃f:Nat->Nat->World,
  w.alloc (.cells #[.int .i64 0] 3)=f 0 0/\
  (∀N S:Nat,(f N S).cell? ⟨w.heap.size,0,none⟩=some (.int .i64 (S:Int)))/\
  (∀N S:Nat,∃os,f N S=grow (Sort.ahead w N) os)/\
  (∀x s N:Nat,1<=x->x+1<d.size->s+3<4611686018427387904->Calls prog 176 #[.slice (some ⟨a,off,none⟩) d.size cap,.int .i64 (x:Int),.pointer (some ⟨w.heap.size,0,none⟩)] (f N s) λe w'=>
    e=.returned (.int .i64 ((medianAdjacent ltInt d x s).1:Int))/\∃k,w'=f k (medianAdjacent ltInt d x s).2)/\
  (∀x y z s N:Nat,x<d.size->y<d.size->z<d.size->s+3<4611686018427387904->Calls prog 177 #[.slice (some ⟨a,off,none⟩) d.size cap,.int .i64 (x:Int),.int .i64 (y:Int),.int .i64 (z:Int),.pointer (some ⟨w.heap.size,0,none⟩)] (f N s) λe w'=>
    e=.returned (.int .i64 ((median ltInt d x y z s).1:Int))/\∃k,w'=f k (median ltInt d x y z s).2):=by
 have c:w.heap.size≠a:=by omega
 have h:Holds (Value.int .i32) (w.alloc (.cells #[.int .i64 0] 3)) a off d:=by rw[alloc_eq_grow];exact holds_grow _ _ _ _ _ _ g u
 have b:Holds (Value.int .i64) (w.alloc (.cells #[.int .i64 0] 3)) w.heap.size 0 (one 0):=λj q=>by
  obtain rfl:j=0:=by simpa using q
  simp
 refine⟨λN S=>putRow (Value.int .i64) (Sort.ahead (w.alloc (.cells #[.int .i64 0] 3)) N) w.heap.size 0 (one S),(putRow_self _ _ _ _ _ b).symm,λN S=>(one_cell (holds_one (n:=N) (t:=S) b)).1,λN S=>counter_grow w N S,?_,?_⟩
 ·intro x s N i l p;refine(qo d _ rfl a off cap x w.heap.size 0 s _ (gq h c) i l (by omega) c (holds_one b) (by omega)).mono ?_;rintro e w'⟨o,n,m⟩;exact⟨o,N+n,by rw[m,one_one]⟩
 intro x y z s N i l v p;refine(tu d _ rfl a off cap x y z w.heap.size 0 s _ (gq h c) i l v c (holds_one b) (by omega)).mono ?_;rintro e w'⟨o,n,m⟩;exact⟨o,N+n,by rw[m,one_one]⟩
def uq (g off cap a b:Nat) (d:Array Int) (w:World) (T:Holds (Value.int .i32) w g off d) (B:g<w.heap.size) (aa:a<b) (hb:b<=d.size) (L:d.size<4611686018427387904) :
 Calls prog 138 #[.slice (some ⟨g,off,none⟩) d.size cap,.int .i64 a,.int .i64 b] w λe w'=>
  e=.returned (.tuple #[.int .i64 (choosePivot ltInt d a b).1,.int .i64 (hintCode (choosePivot ltInt d a b).2)])/\∃n os,w'=grow (Sort.ahead w n) os:=by
 obtain⟨o,E,cS,O,x,C⟩:=AU g off cap d w T B L;clear T;rw[choosePivot_eq];obtain⟨I,hI⟩:∃I:Nat,I=a+(b-a) / 4*1:=⟨_,rfl⟩;obtain⟨J,v⟩:∃J:Nat,J=a+(b-a) / 4*2:=⟨_,rfl⟩;obtain⟨K,A⟩:∃K:Nat,K=a+(b-a) / 4*3:=⟨_,rfl⟩;have:((a:Int)+((b:Int)-(a:Int)) / 4)=(I:Int):=by omega
 have:((a:Int)+((b:Int)-(a:Int)) / 4*2)=(J:Int):=by omega
 have:((a:Int)+((b:Int)-(a:Int)) / 4*3)=(K:Int):=by omega
 by_cases R:b-a≥8
 ·by_cases D:b-a≥50
  ·
   obtain⟨y,s1,q⟩:∃y s1,medianAdjacent ltInt d I 0=(y,s1):=⟨_,_,rfl⟩;obtain⟨z,s2,l⟩:∃z s2,medianAdjacent ltInt d J s1=(z,s2):=⟨_,_,rfl⟩;obtain⟨u,s3,G⟩:∃u s3,medianAdjacent ltInt d K s2=(u,s3):=⟨_,_,rfl⟩;obtain⟨p,s,t⟩:∃p s,median ltInt d y z u s3=(p,s):=⟨_,_,rfl⟩;have f:rawPivot ltInt d a b=(p,s):=by simp only[rawPivot,if_pos R,if_pos D,<-hI,<-v,<-A,q,l,G,t]
   have P:=medianAdjacent_mem ltInt d I 0;rw[q] at P;have M:=medianAdjacent_mem ltInt d J s1;rw[l] at M;have S:=medianAdjacent_mem ltInt d K s2;rw[G] at S;have X:=medianAdjacent_count ltInt d I 0;rw[q] at X;have Y:=medianAdjacent_count ltInt d J s1;rw[l] at Y;have U:=medianAdjacent_count ltInt d K s2;rw[G] at U;simp only[] at P M S X Y U;have c1:Calls prog 176 #[.slice (some ⟨g,off,none⟩) d.size cap,.int .i64 (I:Int),.pointer (some ⟨w.heap.size,0,none⟩)] (o 0 0) λe w'=>e=.returned (.int .i64 (y:Int))/\∃r,w'=o r s1:=by
    have h:=x I 0 0 (by omega) (by omega) (by omega);rw[q] at h;exact h
   have c2:∀N,Calls prog 176 #[.slice (some ⟨g,off,none⟩) d.size cap,.int .i64 (J:Int),.pointer (some ⟨w.heap.size,0,none⟩)] (o N s1) λe w'=>e=.returned (.int .i64 (z:Int))/\∃r,w'=o r s2:=λN=>by
    have h:=x J s1 N (by omega) (by omega) (by omega);rw[l] at h;exact h
   have c3:∀N,Calls prog 176 #[.slice (some ⟨g,off,none⟩) d.size cap,.int .i64 (K:Int),.pointer (some ⟨w.heap.size,0,none⟩)] (o N s2) λe w'=>e=.returned (.int .i64 (u:Int))/\∃r,w'=o r s3:=λN=>by
    have h:=x K s2 N (by omega) (by omega) (by omega);rw[G] at h;exact h
   have Q:∀N,Calls prog 177 #[.slice (some ⟨g,off,none⟩) d.size cap,.int .i64 (y:Int),.int .i64 (z:Int),.int .i64 (u:Int),.pointer (some ⟨w.heap.size,0,none⟩)] (o N s3) λe w'=>e=.returned (.int .i64 (p:Int))/\∃r,w'=o r s:=λN=>by
    have h:=C y z u s3 N (by omega) (by omega) (by omega) (by omega);rw[t] at h;exact h
   rw[f];obtain⟨i,c⟩:∃i:Int,i=hintCode (hintOf s):=⟨_,rfl⟩;have j:s=0->i=1:=λh=>by rw[c,h];rfl
   have k:s=12->i=2:=λh=>by rw[c,h];rfl
   have m:s≠0->s≠12->i=0:=λq l=>by rw[c];unfold hintOf;rw[if_neg q,if_neg l];rfl
   show Calls prog 138 _ w λe w'=>e=.returned (.tuple #[.int .i64 (p:Int),.int .i64 (hintCode (hintOf s))])/\∃n os,w'=grow (Sort.ahead w n) os;rw[<-c];clear c f;clear q l G t x C hI v A P M S;go_enter func138,ntmps138
   go_wp2_with (first
    | (go_at_call_has 176 (Value.int .i64 (I:Int));refine c1.mono ?_;rintro e w'⟨rfl,N1,rfl⟩)
    | (go_at_call_has 176 (Value.int .i64 (J:Int));refine(c2 _).mono ?_;rintro e w'⟨rfl,N2,rfl⟩)
    | (go_at_call_has 176 (Value.int .i64 (K:Int));refine(c3 _).mono ?_;rintro e w'⟨rfl,N3,rfl⟩)
    | (go_at_call 177;refine(Q _).mono ?_;rintro e w'⟨rfl,N4,rfl⟩))
   all_goals
    go_ret2;refine⟨?_,_,O _ _⟩
    first
     | (have H:(s:Int)=0:=of_beq_int (by assumption)
        rw[j (by omega)];rfl)
     | (have F:(s:Int)=12:=of_beq_int (by assumption)
        rw[k (by omega)];rfl)
     | (have H:(s:Int)≠0:=of_bne_int (by assumption)
        have F:(s:Int)≠12:=of_bne_int (by assumption)
        rw[m (by omega) (by omega)];rfl)
     | (rw[j (by omega)];rfl)
  ·
   obtain⟨p,s,t⟩:∃p s,median ltInt d I J K 0=(p,s):=⟨_,_,rfl⟩;have f:rawPivot ltInt d a b=(p,s):=by simp only[rawPivot,if_pos R,if_neg D,<-hI,<-v,<-A,t]
   have Q:Calls prog 177 #[.slice (some ⟨g,off,none⟩) d.size cap,.int .i64 (I:Int),.int .i64 (J:Int),.int .i64 (K:Int),.pointer (some ⟨w.heap.size,0,none⟩)] (o 0 0) λe w'=>e=.returned (.int .i64 (p:Int))/\∃r,w'=o r s:=by
    have h:=C I J K 0 0 (by omega) (by omega) (by omega) (by omega);rw[t] at h;exact h
   rw[f];obtain⟨i,c⟩:∃i:Int,i=hintCode (hintOf s):=⟨_,rfl⟩;have j:s=0->i=1:=λh=>by rw[c,h];rfl
   have k:s=12->i=2:=λh=>by rw[c,h];rfl
   have m:s≠0->s≠12->i=0:=λq l=>by rw[c];unfold hintOf;rw[if_neg q,if_neg l];rfl
   show Calls prog 138 _ w λe w'=>e=.returned (.tuple #[.int .i64 (p:Int),.int .i64 (hintCode (hintOf s))])/\∃n os,w'=grow (Sort.ahead w n) os;rw[<-c];clear c f;clear t x C hI v A;go_enter func138,ntmps138;go_wp2_with (first|(go_at_call 177;refine Q.mono ?_;rintro e w'⟨rfl,N4,rfl⟩))
   all_goals
    go_ret2;refine⟨?_,_,O _ _⟩
    first
     | (have H:(s:Int)=0:=of_beq_int (by assumption)
        rw[j (by omega)];rfl)
     | (have F:(s:Int)=12:=of_beq_int (by assumption)
        rw[k (by omega)];rfl)
     | (have H:(s:Int)≠0:=of_bne_int (by assumption)
        have F:(s:Int)≠12:=of_bne_int (by assumption)
        rw[m (by omega) (by omega)];rfl)
     | (rw[j (by omega)];rfl)
 ·
  obtain⟨p,W⟩:∃p:Nat,p=J:=⟨_,rfl⟩;obtain⟨s,Z⟩:∃s:Nat,s=0:=⟨_,rfl⟩;have f:rawPivot ltInt d a b=(p,s):=by simp only[rawPivot,if_neg R,<-v,W,Z]
  rw[f];obtain⟨i,c⟩:∃i:Int,i=hintCode (hintOf s):=⟨_,rfl⟩;have j:s=0->i=1:=λh=>by rw[c,h];rfl
  have k:s=12->i=2:=λh=>by rw[c,h];rfl
  have m:s≠0->s≠12->i=0:=λq l=>by rw[c];unfold hintOf;rw[if_neg q,if_neg l];rfl
  show Calls prog 138 _ w λe w'=>e=.returned (.tuple #[.int .i64 (p:Int),.int .i64 (hintCode (hintOf s))])/\∃n os,w'=grow (Sort.ahead w n) os;rw[<-c];clear c f;subst W;clear x C hI v A;have:w.alloc (.cells #[.int .i64 0] 3)=o 0 s:=by rw[Z];exact E
  clear E;go_enter func138,ntmps138;go_wp2
  all_goals
   go_ret2;refine⟨?_,_,O _ _⟩
   first
    | (have H:(s:Int)=0:=of_beq_int (by assumption)
       rw[j (by omega)];rfl)
    | (have F:(s:Int)=12:=of_beq_int (by assumption)
       rw[k (by omega)];rfl)
    | (have H:(s:Int)≠0:=of_bne_int (by assumption)
       have F:(s:Int)≠12:=of_bne_int (by assumption)
       rw[m (by omega) (by omega)];rfl)
    | (rw[j (by omega)];rfl)
end Go.Proofs.YtmnimbnojdndmaaGreatDoor
