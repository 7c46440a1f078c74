/- One machine of an NFD counts as its units do, multiplied; no condition. -/
import Derived.Test.YtmnimbnojdndmaaGreatDoorR02
import Derived.Sort.WalkB3
import Derived.Sort.WalkC4
import Derived.Sort.Walk7
import Derived.Sort.Walk11
import Derived.Sort.WalkD2
set_option maxRecDepth 100000
set_option maxHeartbeats 6400000
set_option linter.all false
namespace Go.Proofs.YtmnimbnojdndmaaGreatDoor
open Go.RowKit Go.Sort _root_.Go.Proofs.Tryz
def jZ (c off len cap:Nat) (d:Array Int) (C:d.size=len) (y j first:Nat) (w:World) (F:Holds encR w c off d) (G:y<=j) (N:first+j<=d.size) (J:d.size<4611686018427387904) :
 Calls prog 173 #[.slice (some ⟨c,off,none⟩) len cap,.int .i64 y,.int .i64 j,.int .i64 first] w λe w'=>e=.returned (.tuple #[])/\∃n,w'=putRow encR (Sort.ahead w n) c off (siftDown ltInt j first y d):=by
 subst C;go_enter func173,ntmps173;go_wp2
 go_loopg [8] (j-y) (λk s8 wr=>∃(a:Nat) (f:Array Int) (n:Nat),s8=.int .i64 a/\a<=j/\j-a<=k/\f.size=d.size/\wr=putRow encR (Sort.ahead w n) c off f/\siftDown ltInt j first a f=siftDown ltInt j first y d)
 case atStart=>exact⟨y,d,0,rfl,G,Nat.le_refl _,rfl,(putRow_self encR w c off d F).symm,rfl⟩
 case round=>
  obtain⟨a,f,n,rfl,M,L,s,x,o⟩:=hrel;have v:Holds encR wr c off f:=by rw[x];exact holds_putRow encR _ c off d f (holds_ahead encR w n c off d F) s
  have r:∀t,t<d.size->wr.cell? ⟨c,off+t,none⟩=some (.int .i32 f[t]!):=λt K=>(v t (by omega)).1;have q:∀t,t<d.size->wr.frozen? ⟨c,off+t,none⟩=false:=λt K=>(v t (by omega)).2;have A:Aside (wr=putRow encR (Sort.ahead w n) c off f):=x;clear x F v;by_cases h0:j<=2*a+1
  ·
   have I:(j:Int)<=2*(a:Int)+1:=by omega
   go_wp2
   go_end0
   refine⟨rfl,n,?_⟩;rw[A.out,<-o,sd_end ltInt f h0]
  ·
   have I:¬((j:Int)<=2*(a:Int)+1):=by omega
   by_cases E:2*a+2<j
   ·have H:2*(a:Int)+1+1<(j:Int):=by omega
    go_wp2_with fail;go_big_quiet (first|(go_at_call 141;refine Calls.quiet_of_same (aK _ _ _)));go_wp2_with fail
    ·
     have B:ltInt f[first+2*a+1]! f[first+2*a+2]! = true:=by assumption
     revert nq;intro b;have g:∀t,t<d.size->(wr.drewN b).cell? ⟨c,off+t,none⟩=some (.int .i32 f[t]!):=r;have i:∀t,t<d.size->(wr.drewN b).frozen? ⟨c,off+t,none⟩=false:=q;have p:Aside (wr.drewN b=putRow encR (Sort.ahead w (n+b)) c off f):=drewN_world encR A.out b;clear r q A;generalize wr.drewN b=wr2 at g i p⊢;go_big_quiet (first|(go_at_call 141;refine Calls.quiet_of_same (aK _ _ _)));go_wp2_with fail
     ·
      have D:ltInt f[first+a]! f[first+2*a+2]! = false:=by
       have:(!ltInt f[first+a]! f[first+2*a+2]!)=true:=by assumption
       simpa using this
      (try simp only[Exit.inBlock,Exit.then]);refine bodyPost_ret (results_none rfl _ _ _) rfl ?_
      refine⟨rfl,n+b+nq,?_⟩;rw[drewN_world encR p.out nq,<-o,sd_right_stop ltInt f E B D]
     ·
      have z:ltInt f[first+a]! f[first+2*a+2]! = true:=by
       have:(!ltInt f[first+a]! f[first+2*a+2]!)=false:=by assumption
       simpa using this
      have m:∀t,t<d.size->(wr2.drewN nq).cell? ⟨c,off+t,none⟩=some (.int .i32 f[t]!):=g;have l:∀t,t<d.size->(wr2.drewN nq).frozen? ⟨c,off+t,none⟩=false:=i;have u:Aside (wr2.drewN nq=putRow encR (Sort.ahead w (n+b+nq)) c off f):=drewN_world encR p.out nq;clear g i p;generalize wr2.drewN nq=wr3 at m l u⊢;go_region;go_wp2
      go_roundg (j-(2*a+2))
      case measure=>omega
      case rel=>
       refine⟨2*a+2,swp f (first+a) (first+(2*a+1+1)),n+b+nq+1,by simp <;> omega,by omega,Nat.le_refl _,by rw[size_swp];exact s,swap_world encR (by omega) (by omega) u.out rfl rfl,?_⟩;rw[<-o,sd_right_go ltInt f E B z]
    ·
     have B:ltInt f[first+2*a+1]! f[first+2*a+2]! = false:=by assumption
     revert nq;intro b;have g:∀t,t<d.size->(wr.drewN b).cell? ⟨c,off+t,none⟩=some (.int .i32 f[t]!):=r;have i:∀t,t<d.size->(wr.drewN b).frozen? ⟨c,off+t,none⟩=false:=q;have p:Aside (wr.drewN b=putRow encR (Sort.ahead w (n+b)) c off f):=drewN_world encR A.out b;clear r q A;generalize wr.drewN b=wr2 at g i p⊢;go_big_quiet (first|(go_at_call 141;refine Calls.quiet_of_same (aK _ _ _)));go_wp2_with fail
     ·
      have D:ltInt f[first+a]! f[first+2*a+1]! = false:=by
       have:(!ltInt f[first+a]! f[first+2*a+1]!)=true:=by assumption
       simpa using this
      (try simp only[Exit.inBlock,Exit.then]);refine bodyPost_ret (results_none rfl _ _ _) rfl ?_
      refine⟨rfl,n+b+nq,?_⟩;rw[drewN_world encR p.out nq,<-o,sd_left_stop ltInt f (by omega) (λ_=>B) D]
     ·
      have z:ltInt f[first+a]! f[first+2*a+1]! = true:=by
       have:(!ltInt f[first+a]! f[first+2*a+1]!)=false:=by assumption
       simpa using this
      have m:∀t,t<d.size->(wr2.drewN nq).cell? ⟨c,off+t,none⟩=some (.int .i32 f[t]!):=g;have l:∀t,t<d.size->(wr2.drewN nq).frozen? ⟨c,off+t,none⟩=false:=i;have u:Aside (wr2.drewN nq=putRow encR (Sort.ahead w (n+b+nq)) c off f):=drewN_world encR p.out nq;clear g i p;generalize wr2.drewN nq=wr3 at m l u⊢;go_region;go_wp2
      go_roundg (j-(2*a+1))
      case measure=>omega
      case rel=>
       refine⟨2*a+1,swp f (first+a) (first+(2*a+1)),n+b+nq+1,by simp <;> omega,by omega,Nat.le_refl _,by rw[size_swp];exact s,swap_world encR (by omega) (by omega) u.out rfl rfl,?_⟩;rw[<-o,sd_left_go ltInt f (by omega) (λ_=>B) z]
   ·
    have H:decide (2*(a:Int)+1+1<(j:Int))=false:=decide_eq_false (by omega);go_wp2_with fail;go_big_quiet (first|(go_at_call 141;refine Calls.quiet_of_same (aK _ _ _)));go_wp2_with fail;revert nq;intro b;have g:∀t,t<d.size->(wr.drewN b).cell? ⟨c,off+t,none⟩=some (.int .i32 f[t]!):=r;have i:∀t,t<d.size->(wr.drewN b).frozen? ⟨c,off+t,none⟩=false:=q;have p:Aside (wr.drewN b=putRow encR (Sort.ahead w (n+b)) c off f):=drewN_world encR A.out b;clear r q A;generalize wr.drewN b=wr2 at g i p⊢;go_big_quiet (first|(go_at_call 141;refine Calls.quiet_of_same (aK _ _ _)));go_wp2_with fail
    ·
     have D:ltInt f[first+a]! f[first+2*a+1]! = false:=by
      have:(!ltInt f[first+a]! f[first+2*a+1]!)=true:=by assumption
      simpa using this
     (try simp only[Exit.inBlock,Exit.then]);refine bodyPost_ret (results_none rfl _ _ _) rfl ?_
     refine⟨rfl,n+b+nq,?_⟩;rw[drewN_world encR p.out nq,<-o,sd_left_stop ltInt f (by omega) (λh=>absurd h E) D]
    ·
     have z:ltInt f[first+a]! f[first+2*a+1]! = true:=by
      have:(!ltInt f[first+a]! f[first+2*a+1]!)=false:=by assumption
      simpa using this
     have m:∀t,t<d.size->(wr2.drewN nq).cell? ⟨c,off+t,none⟩=some (.int .i32 f[t]!):=g;have l:∀t,t<d.size->(wr2.drewN nq).frozen? ⟨c,off+t,none⟩=false:=i;have u:Aside (wr2.drewN nq=putRow encR (Sort.ahead w (n+b+nq)) c off f):=drewN_world encR p.out nq;clear g i p;generalize wr2.drewN nq=wr3 at m l u⊢;go_region;go_wp2
     go_roundg (j-(2*a+1))
     case measure=>omega
     case rel=>
      refine⟨2*a+1,swp f (first+a) (first+(2*a+1)),n+b+nq+1,by simp <;> omega,by omega,Nat.le_refl _,by rw[size_swp];exact s,swap_world encR (by omega) (by omega) u.out rfl rfl,?_⟩;rw[<-o,sd_left_go ltInt f (by omega) (λh=>absurd h E) z]
def Aa (c off len cap:Nat) (d:Array Int) (z:d.size=len) (a b:Nat) (w:World) (B:Holds encR w c off d) (E:a<=b) (N:b<=d.size) (I:d.size<4611686018427387904) :
 Calls prog 136 #[.slice (some ⟨c,off,none⟩) len cap,.int .i64 a,.int .i64 b] w λe w'=>e=.returned (.tuple #[])/\∃n,w'=putRow encR (Sort.ahead w n) c off (heapSort ltInt d a b):=by
 subst z;have o:((b-a:Nat):Int)=(b:Int)-(a:Int):=by omega
 go_enter func136,ntmps136;go_wp2
 go_loopg [9] ((b-a-1) / 2+1) (λk s9 wr=>s9=.int .i64 ((k:Int)-1)/\k<=(b-a-1) / 2+1/\∃(g:Array Int) (n:Nat),g.size=d.size/\wr=putRow encR (Sort.ahead w n) c off g/\
  heapBuild ltInt (b-a) a k g=heapBuild ltInt (b-a) a ((b-a-1) / 2+1) d)
 case atStart=>exact⟨by rw[half_start E],Nat.le_refl _,d,0,rfl,(putRow_self encR w c off d B).symm,rfl⟩
 case round=>
  obtain⟨rfl,D,g,n,s,x,v⟩:=hrel;have C:Holds encR wr c off g:=by rw[x];exact holds_putRow encR _ c off d g (holds_ahead encR w n c off d B) s
  have A:Aside (wr=putRow encR (Sort.ahead w n) c off g):=x;clear x;cases gk with
  | zero=>
    have J:g=heapBuild ltInt (b-a) a ((b-a-1) / 2+1) d:=v;clear v C D;go_wp2
    go_loopg [10] (b-a) (λk s10 F=>s10=.int .i64 ((k:Int)-1)/\k<=b-a/\∃(l:Array Int) (h:Nat),l.size=d.size/\F=putRow encR (Sort.ahead w h) c off l/\heapPop ltInt a k l=heapPop ltInt a (b-a) g)
    case atStart=>exact⟨by rw[o],Nat.le_refl _,g,n,s,A.out,rfl⟩
    case round=>
     obtain⟨rfl,D,l,h,f,q,p⟩:=hrel;cases gk with
     | zero=>
       go_wp2
       go_end0
       refine⟨rfl,h,?_⟩;have e:l=heapSort ltInt d a b:=by rw[heapSort,<-J,<-p];rfl
       rw[<-e]
     | succ k=>
       have y:Holds encR wr c off l:=by rw[q];exact holds_putRow encR _ c off d l (holds_ahead encR w h c off d B) f
       have:∀t,t<d.size->wr.cell? ⟨c,off+t,none⟩=some (.int .i32 l[t]!):=λt M=>(y t (by omega)).1;have:∀t,t<d.size->wr.frozen? ⟨c,off+t,none⟩=false:=λt M=>(y t (by omega)).2;have G:Aside (wr=putRow encR (Sort.ahead w h) c off l):=q;clear q y;rcases Nat.eq_zero_or_pos k with hk0|hkp
       ·subst hk0;go_wp2_with fail;go_region;go_wp2_with fail;rw[swap_world encR (i:=a) (j:=a) (by omega) (by omega) G.out rfl rfl];refine(jZ c off d.size cap (swp l a (a)) (by rw[size_swp];exact f) 0 0 a _ (holds_putRow encR _ c off d _ (holds_ahead encR w (h+1) c off d B) (by rw[size_swp];exact f)) (Nat.zero_le _) (by rw[size_swp];omega) (by rw[size_swp];omega)).mono ?_;rintro e H⟨rfl,m,u⟩;go_wp2
        go_roundg 0
        case measure=>omega
        case rel=>
         refine⟨by simp,by omega,siftDown ltInt 0 a 0 (swp l a (a)),h+1+m,by rw[size_siftDown ltInt _ _ _ _ _ (Nat.le_refl _),size_swp];exact f,?_,p⟩
         first
          | rw[u,putRow_ahead_putRow encR w (h+1) m c off _ _ (size_siftDown ltInt _ _ _ _ _ (Nat.le_refl _))]
          | rw[putRow_ahead_putRow encR w (h+1) m c off _ _ (size_siftDown ltInt _ _ _ _ _ (Nat.le_refl _))]
       skip
       go_wp2_with fail;go_region;go_wp2_with fail;rw[swap_world encR (i:=a) (j:=a+k) (by omega) (by omega) G.out rfl rfl];refine(jZ c off d.size cap (swp l a (a+k)) (by rw[size_swp];exact f) 0 k a _ (holds_putRow encR _ c off d _ (holds_ahead encR w (h+1) c off d B) (by rw[size_swp];exact f)) (Nat.zero_le _) (by rw[size_swp];omega) (by rw[size_swp];omega)).mono ?_;rintro e H⟨rfl,m,u⟩;go_wp2
       go_roundg k
       case measure=>omega
       case rel=>
        refine⟨by simp,by omega,siftDown ltInt k a 0 (swp l a (a+k)),h+1+m,by rw[size_siftDown ltInt _ _ _ _ _ (Nat.le_refl _),size_swp];exact f,?_,p⟩
        first
         | rw[u,putRow_ahead_putRow encR w (h+1) m c off _ _ (size_siftDown ltInt _ _ _ _ _ (Nat.le_refl _))]
         | rw[putRow_ahead_putRow encR w (h+1) m c off _ _ (size_siftDown ltInt _ _ _ _ _ (Nat.le_refl _))]
  | succ k=>
    have r:=jZ c off d.size cap g s k (b-a) a wr C (by omega) (by omega) (by omega);rw[o] at r;go_wp2_with (go_at_call 173;refine r.mono ?_;rintro e H⟨rfl,m,u⟩)
    go_roundg k
    case measure=>omega
    case rel=>
     refine⟨by simp,by omega,siftDown ltInt (b-a) a k g,n+m,by rw[size_siftDown ltInt _ _ _ _ _ (Nat.le_refl _)];exact s,?_,v⟩;rw[A.out,putRow_ahead_putRow encR w n m c off g _ (size_siftDown ltInt _ _ _ _ _ (Nat.le_refl _))]
def qm (f off cap a b c:Nat) (d:Array Int) (w:World) (R:Holds (Value.int .i32) w f off d) (af:a<=c) (ak:c<b) (hb:b<=d.size) (ae:d.size<4611686018427387904) :
 Calls prog 142 #[.slice (some ⟨f,off,none⟩) d.size cap,.int .i64 a,.int .i64 b,.int .i64 c] w λe w'=>
  e=.returned (.int .i64 (Sort.partitionEqual Sort.ltInt d a b c).1)/\∃n,w'=(putRow (Value.int .i32) w f off (Sort.partitionEqual Sort.ltInt d a b c).2).drewN n:=by
 have L:a<d.size:=by omega
 have N:c<d.size:=by omega
 obtain⟨G,I⟩:∃G:Nat->Int,∀j,G j=d[j]!:=⟨λj=>d[j]!,λ_=>rfl⟩;have ca:w.cell? ⟨f,off+a,none⟩=some (.int .i32 (G a)):=by rw[I];exact(R a L).1
 have fa:=(R a L).2;have cp:w.cell? ⟨f,off+c,none⟩=some (.int .i32 (G c)):=by rw[I];exact(R c N).1
 have fp:=(R c N).2;obtain⟨v',aa⟩:=cell?_setCell_some (w:=w) (p:=⟨f,off+a,none⟩) (x:=.int .i32 (G c)) (q:=⟨f,off+c,none⟩) cp;have z:Hid (∀j,G j=d[j]!):=I;have AH:Hid (Holds (Value.int .i32) w f off d):=R;clear I R;go_enter func142,ntmps142;go_wp2;go_region;go_wp2
 go_loopw [9,10] (λP B wr=>∃(i j n:Nat) (g:Array Int),P=.int .i64 i/\B=.int .i64 j/\a<i/\i<=j+1/\j<b/\g.size=d.size/\wr=(putRow (Value.int .i32) w f off g).drewN n/\
  Sort.partEqLoop Sort.ltInt a i j g=Sort.partEqLoop Sort.ltInt a (a+1) (b-1) (Sort.swp d a c))
  (λP B _=>(intOf B).toNat+1-(intOf P).toNat)
 case atStart=>
  refine⟨a+1,b-1,1,Sort.swp d a c,by go_num,by go_num,by omega,by omega,by omega,size_swp _ _ _,?_,rfl⟩;have e:=swap_worldC (Value.int .i32) w f off d 0 a c L N;rw[putRow_self _ w f off d AH.out] at e;rw[z.out a,z.out c];exact e
 case round=>
  obtain⟨i,j,n,g,rfl,rfl,ai,ab,ah,hs,Y,T⟩:=hrel;clear ca fa cp fp aa v' z;rename World=>W1;have O:Holds (Value.int .i32) W1 f off g:=by
   rw[Y];exact holds_putRow (Value.int .i32) w f off d g AH.out hs
  obtain⟨r,I⟩:∃r:Nat->Int,∀t,r t=g[t]!:=⟨λt=>g[t]!,λ_=>rfl⟩;have S:∀t,t<d.size->W1.cell? ⟨f,off+t,none⟩=some (.int .i32 (r t)):=λt m=>by rw[I];exact(O t (by omega)).1
  have hf:∀t,t<d.size->W1.frozen? ⟨f,off+t,none⟩=false:=λt m=>(O t (by omega)).2;have z:Hid (∀t,r t=g[t]!):=I;have AW:Hid (W1=(putRow (Value.int .i32) w f off g).drewN n):=Y;have V:Hid (Sort.partEqLoop Sort.ltInt a i j g=Sort.partEqLoop Sort.ltInt a (a+1) (b-1) (Sort.swp d a c)):=T;clear I Y T O;go_wp2
  go_loopw [9] (λP w1=>∃(h K:Nat),P=.int .i64 h/\i<=h/\h<=j+1/\w1=W1.drewN K/\
   Hid (Sort.scanUp (λx=>!Sort.ltInt g[a]! x) g j h=Sort.scanUp (λx=>!Sort.ltInt g[a]! x) g j i))
   (λP _=>j+1-(intOf P).toNat)
  case atStart=>exact⟨i,0,rfl,Nat.le_refl _,ab,rfl,rfl⟩
  case round=>
   obtain⟨h,K,rfl,ag,J,M,F⟩:=hrel;have y:∀t,t<d.size->wr.cell? ⟨f,off+t,none⟩=some (.int .i32 (r t)):=λt m=>by rw[M];exact S t m
   have D:Hid (wr=W1.drewN K):=M;clear M;by_cases W:h<=j
   ·go_wp2_with fail;go_big_quiet (first|(go_at_call 141;refine Calls.quiet_of_same (aK _ _ _)));go_wp2
    ·
     have m:(!Sort.ltInt (r a) (r h))=true:=by assumption
     go_roundw
     case rel=>exact⟨h+1,K+nq,by go_num,by omega,by omega,by rw[D.out,World.drewN_drewN],(scanUp_go (λx=>!Sort.ltInt g[a]! x) g j h W (by rw[<-z.out a,<-z.out h];exact m)).symm.trans F.out⟩
     case measure=>simp[intOf];omega
    ·
     have m:(!Sort.ltInt (r a) (r h))=false:=by assumption
     have C:Hid (h=Sort.scanUp (λx=>!Sort.ltInt g[a]! x) g j i):=(scanUp_end (λx=>!Sort.ltInt g[a]! x) g j h (Or.inr (by rw[<-z.out a,<-z.out h];exact m))).symm.trans F.out;clear m;have o:wr.drewN nq=W1.drewN (K+nq):=by rw[D.out,World.drewN_drewN]
     clear y D F
     go_loopw [10] (λB Z=>∃(l s:Nat),B=.int .i64 l/\l<=j/\h<=l+1/\Z=W1.drewN s/\
      Hid (Sort.scanDown (λx=>Sort.ltInt g[a]! x) g h l=Sort.scanDown (λx=>Sort.ltInt g[a]! x) g h j))
      (λB _=>(intOf B).toNat)
     case atStart=>exact⟨j,K+nq,rfl,Nat.le_refl _,J,o,rfl⟩
     case round=>
      clear o;obtain⟨l,s,rfl,ac,U,o,u⟩:=hrel;have y:∀t,t<d.size->wr.cell? ⟨f,off+t,none⟩=some (.int .i32 (r t)):=λt m=>by rw[o];exact S t m
      have H:Hid (wr=W1.drewN s):=o;clear o;by_cases v:h<=l
      ·go_wp2_with fail;go_big_quiet (first|(go_at_call 141;refine Calls.quiet_of_same (aK _ _ _)));go_wp2
       ·
        have m:Sort.ltInt (r a) (r l)=true:=by assumption
        go_roundw
        case rel=>exact⟨l-1,s+nq,by go_num,by omega,by omega,by rw[H.out,World.drewN_drewN],(scanDown_go (λx=>Sort.ltInt g[a]! x) g h l v (by omega) (by rw[<-z.out a,<-z.out l];exact m)).symm.trans u.out⟩
        case measure=>simp[intOf];omega
       ·
        have m:Sort.ltInt (r a) (r l)=false:=by assumption
        have A:Hid (l=Sort.scanDown (λx=>Sort.ltInt g[a]! x) g h j):=(scanDown_end (λx=>Sort.ltInt g[a]! x) g h l (Or.inr (by rw[<-z.out a,<-z.out l];exact m))).symm.trans u.out;clear y u m;have k:wr.drewN nq=W1.drewN (s+nq):=by rw[H.out,World.drewN_drewN]
        generalize wr.drewN nq=W3 at k⊢;have Q:∀t,t<d.size->W3.cell? ⟨f,off+t,none⟩=some (.int .i32 (r t)):=λt m=>by rw[k];exact S t m
        have X:∀t,t<d.size->W3.frozen? ⟨f,off+t,none⟩=false:=λt m=>by rw[k];exact hf t m
        have E:Hid (W3=W1.drewN (s+nq)):=k;clear k;obtain⟨v3,aj⟩:=cell?_setCell_some (w:=W3) (p:=⟨f,off+h,none⟩) (x:=.int .i32 (r l)) (q:=⟨f,off+l,none⟩) (Q l (by omega));have:=scans_lt Sort.ltInt a i j g (by omega) C.out A.out v;go_wp2;go_region
        all_goals go_wp2
        all_goals go_roundw
        case rel=>
         refine⟨h+1,l-1,n+(s+nq)+1,Sort.swp g h l,by go_num,by go_num,by omega,by omega,by omega,by rw[size_swp];exact hs,?_,?_⟩
         ·rw[E.out,AW.out,World.drewN_drewN,z.out h,z.out l];exact swap_worldC (Value.int .i32) w f off g _ h l (by omega) (by omega)
         rw[<-V.out];exact(partEq_go Sort.ltInt a i j g C.out A.out (by omega)).symm
        case measure=>simp[intOf];omega
      go_wp2_with fail;go_big_quiet (first|(go_at_call 141;refine Calls.quiet_of_same (aK _ _ _)));have A:Hid (l=Sort.scanDown (λx=>Sort.ltInt g[a]! x) g h j):=(scanDown_end (λx=>Sort.ltInt g[a]! x) g h l (Or.inl v)).symm.trans u.out;clear y u;have k:wr.drewN nq=W1.drewN (s+nq):=by rw[H.out,World.drewN_drewN]
      generalize wr.drewN nq=W3 at k⊢;have Q:∀t,t<d.size->W3.cell? ⟨f,off+t,none⟩=some (.int .i32 (r t)):=λt m=>by rw[k];exact S t m
      have X:∀t,t<d.size->W3.frozen? ⟨f,off+t,none⟩=false:=λt m=>by rw[k];exact hf t m
      have E:Hid (W3=W1.drewN (s+nq)):=k;clear k;go_wp2;go_ret;have e:=partEq_break Sort.ltInt a i j g C.out A.out (by omega);refine⟨?_,n+(s+nq),?_⟩
      ·unfold Sort.partitionEqual;rw[<-V.out,e];rfl
      unfold Sort.partitionEqual;rw[<-V.out,e,E.out,AW.out,World.drewN_drewN]
   go_wp2_with fail;go_big_quiet (first|(go_at_call 141;refine Calls.quiet_of_same (aK _ _ _)));go_wp2;have C:Hid (h=Sort.scanUp (λx=>!Sort.ltInt g[a]! x) g j i):=(scanUp_end (λx=>!Sort.ltInt g[a]! x) g j h (Or.inl W)).symm.trans F.out;have o:wr.drewN nq=W1.drewN (K+nq):=by rw[D.out,World.drewN_drewN]
   clear y D F
   go_loopw [10] (λB Z=>∃(l s:Nat),B=.int .i64 l/\l<=j/\h<=l+1/\Z=W1.drewN s/\
    Hid (Sort.scanDown (λx=>Sort.ltInt g[a]! x) g h l=Sort.scanDown (λx=>Sort.ltInt g[a]! x) g h j))
    (λB _=>(intOf B).toNat)
   case atStart=>exact⟨j,K+nq,rfl,Nat.le_refl _,J,o,rfl⟩
   case round=>
    clear o;obtain⟨l,s,rfl,ac,U,o,u⟩:=hrel;have y:∀t,t<d.size->wr.cell? ⟨f,off+t,none⟩=some (.int .i32 (r t)):=λt m=>by rw[o];exact S t m
    have H:Hid (wr=W1.drewN s):=o;clear o;by_cases v:h<=l
    ·exfalso;omega
    go_wp2_with fail;go_big_quiet (first|(go_at_call 141;refine Calls.quiet_of_same (aK _ _ _)));have A:Hid (l=Sort.scanDown (λx=>Sort.ltInt g[a]! x) g h j):=(scanDown_end (λx=>Sort.ltInt g[a]! x) g h l (Or.inl v)).symm.trans u.out;clear y u;have k:wr.drewN nq=W1.drewN (s+nq):=by rw[H.out,World.drewN_drewN]
    generalize wr.drewN nq=W3 at k⊢;have Q:∀t,t<d.size->W3.cell? ⟨f,off+t,none⟩=some (.int .i32 (r t)):=λt m=>by rw[k];exact S t m
    have X:∀t,t<d.size->W3.frozen? ⟨f,off+t,none⟩=false:=λt m=>by rw[k];exact hf t m
    have E:Hid (W3=W1.drewN (s+nq)):=k;clear k;go_wp2;go_ret;have e:=partEq_break Sort.ltInt a i j g C.out A.out (by omega);refine⟨?_,n+(s+nq),?_⟩
    ·unfold Sort.partitionEqual;rw[<-V.out,e];rfl
    unfold Sort.partitionEqual;rw[<-V.out,e,E.out,AW.out,World.drewN_drewN]
def j4 (f off cap a b c:Nat) (d:Array Int) (w:World) (l:Holds (Value.int .i32) w f off d) (h:a<=c) (i:c<b) (m:b<=d.size) (g:d.size<4611686018427387904) :
 Calls prog 142 #[.slice (some ⟨f,off,none⟩) d.size cap,.int .i64 a,.int .i64 b,.int .i64 c] w λe w'=>
  e=.returned (.int .i64 (Sort.partitionEqual Sort.ltInt d a b c).1)/\∃n,w'=putRow (Value.int .i32) (Sort.ahead w n) f off (Sort.partitionEqual Sort.ltInt d a b c).2:=
 (qm f off cap a b c d w l h i m g).mono λ_ _ ⟨j,n,k⟩=>⟨j,n,k⟩
def xM (c off cap a b f:Nat) (d:Array Int) (w:World) (hH:Holds (Value.int .i32) w c off d) (ap:a<=f) (aq:f<b) (hb:b<=d.size) (ao:d.size<4611686018427387904) :
 Calls prog 143 #[.slice (some ⟨c,off,none⟩) d.size cap,.int .i64 a,.int .i64 b,.int .i64 f] w λe w'=>
  e=.returned (.tuple #[.int .i64 (Sort.partition Sort.ltInt d a b f).1,.bool (Sort.partition Sort.ltInt d a b f).2.1])/\∃n,w'=(putRow (Value.int .i32) w c off (Sort.partition Sort.ltInt d a b f).2.2).drewN n:=by
 have Y:a<d.size:=by omega
 have ab:f<d.size:=by omega
 obtain⟨G,O⟩:∃G:Nat->Int,∀j,G j=d[j]!:=⟨λj=>d[j]!,λ_=>rfl⟩;have ca:w.cell? ⟨c,off+a,none⟩=some (.int .i32 (G a)):=by rw[O];exact(hH a Y).1
 have fa:=(hH a Y).2;have cp:w.cell? ⟨c,off+f,none⟩=some (.int .i32 (G f)):=by rw[O];exact(hH f ab).1
 have fp:=(hH f ab).2;obtain⟨v',am⟩:=cell?_setCell_some (w:=w) (p:=⟨c,off+a,none⟩) (x:=.int .i32 (G f)) (q:=⟨c,off+f,none⟩) cp;have S:((w.setCell ⟨c,off+a,none⟩ (.int .i32 (G f))).setCell ⟨c,off+f,none⟩ (.int .i32 (G a))).drew=(putRow (Value.int .i32) w c off (Sort.swp d a f)).drewN 1:=by
  have e:=swap_worldC (Value.int .i32) w c off d 0 a f Y ab;rw[putRow_self _ w c off d hH] at e;rw[O a,O f];exact e
 have AH:Hid (Holds (Value.int .i32) w c off d):=hH;have ah:=Hid.mk' S;clear O hH S;go_enter func143,ntmps143;go_wp2;go_region;go_wp2;clear ca fa cp fp am v';have S:=ah.out;clear ah;generalize ((w.setCell ⟨c,off+a,none⟩ (.int .i32 (G f))).setCell ⟨c,off+f,none⟩ (.int .i32 (G a))).drew=W1 at S⊢;obtain⟨g,W⟩:=ae (Sort.swp d a f);obtain⟨n,hn⟩:∃n:Nat,n=1:=⟨_,rfl⟩;rw[<-W,<-hn] at S;clear hn;have hs:g.size=d.size:=by rw[W,size_swp]
 have e1:((a:Int)+1)=((a+1:Nat):Int):=by omega
 have e2:((b:Int)-1)=((b-1:Nat):Int):=by omega
 rw[e1,e2];clear e1 e2;obtain⟨i,hi⟩:=ae (a+1);obtain⟨j,hj⟩:=ae (b-1);rw[<-hi,<-hj];have an:a<i:=by omega
 have ad:i<=j+1:=by omega
 have al:j<b:=by omega
 have HI:=Hid.mk' hi;have HJ:=Hid.mk' hj;have aa:=Hid.mk' W;clear hi hj W;have M:Holds (Value.int .i32) W1 c off g:=by
  rw[S];exact holds_putRow (Value.int .i32) w c off d g AH.out hs
 obtain⟨r,O⟩:∃r:Nat->Int,∀t,r t=g[t]!:=⟨λt=>g[t]!,λ_=>rfl⟩;have N:∀t,t<d.size->W1.cell? ⟨c,off+t,none⟩=some (.int .i32 (r t)):=λt m=>by rw[O];exact(M t (by omega)).1
 have hf:∀t,t<d.size->W1.frozen? ⟨c,off+t,none⟩=false:=λt m=>(M t (by omega)).2;have z:Hid (∀t,r t=g[t]!):=O;have X:Hid (W1=(putRow (Value.int .i32) w c off g).drewN n):=S;clear O S M
 go_loopw [10] (λU w1=>∃(k K:Nat),U=.int .i64 k/\i<=k/\k<=j+1/\w1=W1.drewN K/\
  Hid (Sort.scanUp (λx=>Sort.ltInt x g[a]!) g j k=Sort.scanUp (λx=>Sort.ltInt x g[a]!) g j i))
  (λU _=>j+1-(intOf U).toNat)
 case atStart=>exact⟨i,0,rfl,Nat.le_refl _,ad,rfl,rfl⟩
 case round=>
  obtain⟨k,K,rfl,ak,J,L,F⟩:=hrel;have y:∀t,t<d.size->wr.cell? ⟨c,off+t,none⟩=some (.int .i32 (r t)):=λt m=>by rw[L];exact N t m
  have E:Hid (wr=W1.drewN K):=L;clear L;by_cases V:k<=j
  ·go_wp2_with fail;go_big_quiet (first|(go_at_call 141;refine Calls.quiet_of_same (aK _ _ _)));go_wp2
   ·
    have m:Sort.ltInt (r k) (r a)=true:=by assumption
    go_roundw
    case rel=>exact⟨k+1,K+nq,by go_num,by omega,by omega,by rw[E.out,World.drewN_drewN],(scanUp_go (λx=>Sort.ltInt x g[a]!) g j k V (by rw[<-z.out a,<-z.out k];exact m)).symm.trans F.out⟩
    case measure=>simp[intOf];omega
   ·
    have m:Sort.ltInt (r k) (r a)=false:=by assumption
    have B:Hid (k=Sort.scanUp (λx=>Sort.ltInt x g[a]!) g j i):=(scanUp_end (λx=>Sort.ltInt x g[a]!) g j k (Or.inr (by rw[<-z.out a,<-z.out k];exact m))).symm.trans F.out;clear m;have o:wr.drewN nq=W1.drewN (K+nq):=by rw[E.out,World.drewN_drewN]
    clear y E F
    go_loopw [11] (λI Z=>∃(h s:Nat),I=.int .i64 h/\h<=j/\k<=h+1/\Z=W1.drewN s/\
     Hid (Sort.scanDown (λx=>!Sort.ltInt x g[a]!) g k h=Sort.scanDown (λx=>!Sort.ltInt x g[a]!) g k j))
     (λI _=>(intOf I).toNat)
    case atStart=>exact⟨j,K+nq,rfl,Nat.le_refl _,J,o,rfl⟩
    case round=>
     clear o;obtain⟨h,s,rfl,af,T,o,u⟩:=hrel;have y:∀t,t<d.size->wr.cell? ⟨c,off+t,none⟩=some (.int .i32 (r t)):=λt m=>by rw[o];exact N t m
     have H:Hid (wr=W1.drewN s):=o;clear o;by_cases v:k<=h
     ·go_wp2_with fail;go_big_quiet (first|(go_at_call 141;refine Calls.quiet_of_same (aK _ _ _)));go_wp2
      ·
       have m:(!Sort.ltInt (r h) (r a))=true:=by assumption
       go_roundw
       case rel=>exact⟨h-1,s+nq,by go_num,by omega,by omega,by rw[H.out,World.drewN_drewN],(scanDown_go (λx=>!Sort.ltInt x g[a]!) g k h v (by omega) (by rw[<-z.out a,<-z.out h];exact m)).symm.trans u.out⟩
       case measure=>simp[intOf];omega
      ·
       have m:(!Sort.ltInt (r h) (r a))=false:=by assumption
       have A:Hid (h=Sort.scanDown (λx=>!Sort.ltInt x g[a]!) g k j):=(scanDown_end (λx=>!Sort.ltInt x g[a]!) g k h (Or.inr (by rw[<-z.out a,<-z.out h];exact m))).symm.trans u.out;clear y u m;have l:wr.drewN nq=W1.drewN (s+nq):=by rw[H.out,World.drewN_drewN]
       generalize wr.drewN nq=W3 at l⊢;have D:∀t,t<d.size->W3.cell? ⟨c,off+t,none⟩=some (.int .i32 (r t)):=λt m=>by rw[l];exact N t m
       have P:∀t,t<d.size->W3.frozen? ⟨c,off+t,none⟩=false:=λt m=>by rw[l];exact hf t m
       have C:Hid (W3=W1.drewN (s+nq)):=l;clear l;obtain⟨v3,Q⟩:=cell?_setCell_some (w:=W3) (p:=⟨c,off+k,none⟩) (x:=.int .i32 (r h)) (q:=⟨c,off+h,none⟩) (D h (by omega));have ai:=part_scans_lt Sort.ltInt a i j g (by omega) B.out A.out v;go_wp2;go_region
       all_goals go_wp2
       obtain⟨R,hR⟩:=ae (Sort.partLoop Sort.ltInt a (k+1) (h-1) (Sort.swp g k h));have HP:Hid (Sort.partition Sort.ltInt d a b f=(R.1,false,Sort.swp R.2 R.1 a)):=by rw[hR];exact part_first_go Sort.ltInt d a b f HI.out HJ.out aa.out B.out A.out (by omega)
       have aj:((W3.setCell ⟨c,off+k,none⟩ (.int .i32 (r h))).setCell ⟨c,off+h,none⟩ (.int .i32 (r k))).drew=(putRow (Value.int .i32) w c off (Sort.swp g k h)).drewN (n+(s+nq)+1):=by
        rw[C.out,X.out,World.drewN_drewN,z.out k,z.out h];exact swap_worldC (Value.int .i32) w c off g _ k h (by omega) (by omega)
       have HR:Hid (R=Sort.partLoop Sort.ltInt a (k+1) (h-1) (Sort.swp g k h)):=hR;clear hR N hf D P Q C X z B A
       go_loopw [10,11] (λU I wr=>∃(i j n:Nat) (g:Array Int),U=.int .i64 i/\I=.int .i64 j/\a<i/\i<=j+1/\j<b/\g.size=d.size/\wr=(putRow (Value.int .i32) w c off g).drewN n/\
        Sort.partLoop Sort.ltInt a i j g=R)
        (λU I _=>(intOf I).toNat+1-(intOf U).toNat)
       case atStart=>exact⟨k+1,h-1,_,Sort.swp g k h,by go_num,by go_num,by omega,by omega,by omega,by rw[size_swp];exact hs,aj,HR.out.symm⟩
       case round=>
        clear aj HR;obtain⟨i,j,n,g,rfl,rfl,an,ad,al,hs,S,ag⟩:=hrel;rename World=>W1;have AE:Hid (Sort.partLoop Sort.ltInt a i j g=R):=ag;clear ag;have M:Holds (Value.int .i32) W1 c off g:=by
         rw[S];exact holds_putRow (Value.int .i32) w c off d g AH.out hs
        obtain⟨r,O⟩:∃r:Nat->Int,∀t,r t=g[t]!:=⟨λt=>g[t]!,λ_=>rfl⟩;have N:∀t,t<d.size->W1.cell? ⟨c,off+t,none⟩=some (.int .i32 (r t)):=λt m=>by rw[O];exact(M t (by omega)).1
        have hf:∀t,t<d.size->W1.frozen? ⟨c,off+t,none⟩=false:=λt m=>(M t (by omega)).2;have z:Hid (∀t,r t=g[t]!):=O;have X:Hid (W1=(putRow (Value.int .i32) w c off g).drewN n):=S;clear O S M;go_wp2
        go_loopw [10] (λU w1=>∃(k K:Nat),U=.int .i64 k/\i<=k/\k<=j+1/\w1=W1.drewN K/\
         Hid (Sort.scanUp (λx=>Sort.ltInt x g[a]!) g j k=Sort.scanUp (λx=>Sort.ltInt x g[a]!) g j i))
         (λU _=>j+1-(intOf U).toNat)
        case atStart=>exact⟨i,0,rfl,Nat.le_refl _,ad,rfl,rfl⟩
        case round=>
         obtain⟨k,K,rfl,ak,J,L,F⟩:=hrel;have y:∀t,t<d.size->wr.cell? ⟨c,off+t,none⟩=some (.int .i32 (r t)):=λt m=>by rw[L];exact N t m
         have E:Hid (wr=W1.drewN K):=L;clear L;by_cases V:k<=j
         ·go_wp2_with fail;go_big_quiet (first|(go_at_call 141;refine Calls.quiet_of_same (aK _ _ _)));go_wp2
          ·
           have m:Sort.ltInt (r k) (r a)=true:=by assumption
           go_roundw
           case rel=>exact⟨k+1,K+nq,by go_num,by omega,by omega,by rw[E.out,World.drewN_drewN],(scanUp_go (λx=>Sort.ltInt x g[a]!) g j k V (by rw[<-z.out a,<-z.out k];exact m)).symm.trans F.out⟩
           case measure=>simp[intOf];omega
          ·
           have m:Sort.ltInt (r k) (r a)=false:=by assumption
           have B:Hid (k=Sort.scanUp (λx=>Sort.ltInt x g[a]!) g j i):=(scanUp_end (λx=>Sort.ltInt x g[a]!) g j k (Or.inr (by rw[<-z.out a,<-z.out k];exact m))).symm.trans F.out;clear m;have o:wr.drewN nq=W1.drewN (K+nq):=by rw[E.out,World.drewN_drewN]
           clear y E F
           go_loopw [11] (λI Z=>∃(h s:Nat),I=.int .i64 h/\h<=j/\k<=h+1/\Z=W1.drewN s/\
            Hid (Sort.scanDown (λx=>!Sort.ltInt x g[a]!) g k h=Sort.scanDown (λx=>!Sort.ltInt x g[a]!) g k j))
            (λI _=>(intOf I).toNat)
           case atStart=>exact⟨j,K+nq,rfl,Nat.le_refl _,J,o,rfl⟩
           case round=>
            clear o;obtain⟨h,s,rfl,af,T,o,u⟩:=hrel;have y:∀t,t<d.size->wr.cell? ⟨c,off+t,none⟩=some (.int .i32 (r t)):=λt m=>by rw[o];exact N t m
            have H:Hid (wr=W1.drewN s):=o;clear o;by_cases v:k<=h
            ·go_wp2_with fail;go_big_quiet (first|(go_at_call 141;refine Calls.quiet_of_same (aK _ _ _)));go_wp2
             ·
              have m:(!Sort.ltInt (r h) (r a))=true:=by assumption
              go_roundw
              case rel=>exact⟨h-1,s+nq,by go_num,by omega,by omega,by rw[H.out,World.drewN_drewN],(scanDown_go (λx=>!Sort.ltInt x g[a]!) g k h v (by omega) (by rw[<-z.out a,<-z.out h];exact m)).symm.trans u.out⟩
              case measure=>simp[intOf];omega
             ·
              have m:(!Sort.ltInt (r h) (r a))=false:=by assumption
              have A:Hid (h=Sort.scanDown (λx=>!Sort.ltInt x g[a]!) g k j):=(scanDown_end (λx=>!Sort.ltInt x g[a]!) g k h (Or.inr (by rw[<-z.out a,<-z.out h];exact m))).symm.trans u.out;clear y u m;have l:wr.drewN nq=W1.drewN (s+nq):=by rw[H.out,World.drewN_drewN]
              generalize wr.drewN nq=W3 at l⊢;have D:∀t,t<d.size->W3.cell? ⟨c,off+t,none⟩=some (.int .i32 (r t)):=λt m=>by rw[l];exact N t m
              have P:∀t,t<d.size->W3.frozen? ⟨c,off+t,none⟩=false:=λt m=>by rw[l];exact hf t m
              have C:Hid (W3=W1.drewN (s+nq)):=l;clear l;obtain⟨v3,Q⟩:=cell?_setCell_some (w:=W3) (p:=⟨c,off+k,none⟩) (x:=.int .i32 (r h)) (q:=⟨c,off+h,none⟩) (D h (by omega));have ai:=part_scans_lt Sort.ltInt a i j g (by omega) B.out A.out v;go_wp2;go_region
              all_goals go_wp2
              all_goals go_roundw
              case rel=>
               refine⟨k+1,h-1,n+(s+nq)+1,Sort.swp g k h,by go_num,by go_num,by omega,by omega,by omega,by rw[size_swp];exact hs,?_,?_⟩
               ·rw[C.out,X.out,World.drewN_drewN,z.out k,z.out h];exact swap_worldC (Value.int .i32) w c off g _ k h (by omega) (by omega)
               exact(part_go Sort.ltInt a i j g B.out A.out (by omega)).symm.trans AE.out
              case measure=>simp[intOf];omega
            go_wp2_with fail;go_big_quiet (first|(go_at_call 141;refine Calls.quiet_of_same (aK _ _ _)));have A:Hid (h=Sort.scanDown (λx=>!Sort.ltInt x g[a]!) g k j):=(scanDown_end (λx=>!Sort.ltInt x g[a]!) g k h (Or.inl v)).symm.trans u.out;clear y u;have l:wr.drewN nq=W1.drewN (s+nq):=by rw[H.out,World.drewN_drewN]
            generalize wr.drewN nq=W3 at l⊢;have D:∀t,t<d.size->W3.cell? ⟨c,off+t,none⟩=some (.int .i32 (r t)):=λt m=>by rw[l];exact N t m
            have P:∀t,t<d.size->W3.frozen? ⟨c,off+t,none⟩=false:=λt m=>by rw[l];exact hf t m
            have C:Hid (W3=W1.drewN (s+nq)):=l;clear l;obtain⟨v3,Q⟩:=cell?_setCell_some (w:=W3) (p:=⟨c,off+h,none⟩) (x:=.int .i32 (r a)) (q:=⟨c,off+a,none⟩) (D a (by omega));have ac:h<d.size:=by omega
            go_wp2;go_region
            all_goals go_wp2
            all_goals go_ret2
            have e:Sort.partition Sort.ltInt d a b f=(h,false,Sort.swp g h a):=by
             have e0:=(part_break Sort.ltInt a i j g B.out A.out (by omega)).symm.trans AE.out;rw[HP.out,<-e0]
            refine⟨?_,n+(s+nq)+1,?_⟩
            ·rw[e];rfl
            rw[e,C.out,X.out,World.drewN_drewN,z.out a,z.out h];exact swap_worldC (Value.int .i32) w c off g _ h a (by omega) (by omega)
         go_wp2_with fail;go_big_quiet (first|(go_at_call 141;refine Calls.quiet_of_same (aK _ _ _)));go_wp2;have B:Hid (k=Sort.scanUp (λx=>Sort.ltInt x g[a]!) g j i):=(scanUp_end (λx=>Sort.ltInt x g[a]!) g j k (Or.inl V)).symm.trans F.out;have o:wr.drewN nq=W1.drewN (K+nq):=by rw[E.out,World.drewN_drewN]
         clear y E F
         go_loopw [11] (λI Z=>∃(h s:Nat),I=.int .i64 h/\h<=j/\k<=h+1/\Z=W1.drewN s/\
          Hid (Sort.scanDown (λx=>!Sort.ltInt x g[a]!) g k h=Sort.scanDown (λx=>!Sort.ltInt x g[a]!) g k j))
          (λI _=>(intOf I).toNat)
         case atStart=>exact⟨j,K+nq,rfl,Nat.le_refl _,J,o,rfl⟩
         case round=>
          clear o;obtain⟨h,s,rfl,af,T,o,u⟩:=hrel;have y:∀t,t<d.size->wr.cell? ⟨c,off+t,none⟩=some (.int .i32 (r t)):=λt m=>by rw[o];exact N t m
          have H:Hid (wr=W1.drewN s):=o;clear o;by_cases v:k<=h
          ·exfalso;omega
          go_wp2_with fail;go_big_quiet (first|(go_at_call 141;refine Calls.quiet_of_same (aK _ _ _)));have A:Hid (h=Sort.scanDown (λx=>!Sort.ltInt x g[a]!) g k j):=(scanDown_end (λx=>!Sort.ltInt x g[a]!) g k h (Or.inl v)).symm.trans u.out;clear y u;have l:wr.drewN nq=W1.drewN (s+nq):=by rw[H.out,World.drewN_drewN]
          generalize wr.drewN nq=W3 at l⊢;have D:∀t,t<d.size->W3.cell? ⟨c,off+t,none⟩=some (.int .i32 (r t)):=λt m=>by rw[l];exact N t m
          have P:∀t,t<d.size->W3.frozen? ⟨c,off+t,none⟩=false:=λt m=>by rw[l];exact hf t m
          have C:Hid (W3=W1.drewN (s+nq)):=l;clear l;obtain⟨v3,Q⟩:=cell?_setCell_some (w:=W3) (p:=⟨c,off+h,none⟩) (x:=.int .i32 (r a)) (q:=⟨c,off+a,none⟩) (D a (by omega));have ac:h<d.size:=by omega
          go_wp2;go_region
          all_goals go_wp2
          all_goals go_ret2
          have e:Sort.partition Sort.ltInt d a b f=(h,false,Sort.swp g h a):=by
           have e0:=(part_break Sort.ltInt a i j g B.out A.out (by omega)).symm.trans AE.out;rw[HP.out,<-e0]
          refine⟨?_,n+(s+nq)+1,?_⟩
          ·rw[e];rfl
          rw[e,C.out,X.out,World.drewN_drewN,z.out a,z.out h];exact swap_worldC (Value.int .i32) w c off g _ h a (by omega) (by omega)
     go_wp2_with fail;go_big_quiet (first|(go_at_call 141;refine Calls.quiet_of_same (aK _ _ _)));have A:Hid (h=Sort.scanDown (λx=>!Sort.ltInt x g[a]!) g k j):=(scanDown_end (λx=>!Sort.ltInt x g[a]!) g k h (Or.inl v)).symm.trans u.out;clear y u;have l:wr.drewN nq=W1.drewN (s+nq):=by rw[H.out,World.drewN_drewN]
     generalize wr.drewN nq=W3 at l⊢;have D:∀t,t<d.size->W3.cell? ⟨c,off+t,none⟩=some (.int .i32 (r t)):=λt m=>by rw[l];exact N t m
     have P:∀t,t<d.size->W3.frozen? ⟨c,off+t,none⟩=false:=λt m=>by rw[l];exact hf t m
     have C:Hid (W3=W1.drewN (s+nq)):=l;clear l;obtain⟨v3,Q⟩:=cell?_setCell_some (w:=W3) (p:=⟨c,off+h,none⟩) (x:=.int .i32 (r a)) (q:=⟨c,off+a,none⟩) (D a (by omega));have ac:h<d.size:=by omega
     go_wp2;go_region
     all_goals go_wp2
     all_goals go_ret2
     have e:Sort.partition Sort.ltInt d a b f=(h,true,Sort.swp g h a):=part_first_break Sort.ltInt d a b f HI.out HJ.out aa.out B.out A.out (by omega);refine⟨?_,n+(s+nq)+1,?_⟩
     ·rw[e];rfl
     rw[e,C.out,X.out,World.drewN_drewN,z.out a,z.out h];exact swap_worldC (Value.int .i32) w c off g _ h a (by omega) (by omega)
  go_wp2_with fail;go_big_quiet (first|(go_at_call 141;refine Calls.quiet_of_same (aK _ _ _)));go_wp2;have B:Hid (k=Sort.scanUp (λx=>Sort.ltInt x g[a]!) g j i):=(scanUp_end (λx=>Sort.ltInt x g[a]!) g j k (Or.inl V)).symm.trans F.out;have o:wr.drewN nq=W1.drewN (K+nq):=by rw[E.out,World.drewN_drewN]
  clear y E F
  go_loopw [11] (λI Z=>∃(h s:Nat),I=.int .i64 h/\h<=j/\k<=h+1/\Z=W1.drewN s/\
   Hid (Sort.scanDown (λx=>!Sort.ltInt x g[a]!) g k h=Sort.scanDown (λx=>!Sort.ltInt x g[a]!) g k j))
   (λI _=>(intOf I).toNat)
  case atStart=>exact⟨j,K+nq,rfl,Nat.le_refl _,J,o,rfl⟩
  case round=>
   clear o;obtain⟨h,s,rfl,af,T,o,u⟩:=hrel;have y:∀t,t<d.size->wr.cell? ⟨c,off+t,none⟩=some (.int .i32 (r t)):=λt m=>by rw[o];exact N t m
   have H:Hid (wr=W1.drewN s):=o;clear o;by_cases v:k<=h
   ·exfalso;omega
   go_wp2_with fail;go_big_quiet (first|(go_at_call 141;refine Calls.quiet_of_same (aK _ _ _)));have A:Hid (h=Sort.scanDown (λx=>!Sort.ltInt x g[a]!) g k j):=(scanDown_end (λx=>!Sort.ltInt x g[a]!) g k h (Or.inl v)).symm.trans u.out;clear y u;have l:wr.drewN nq=W1.drewN (s+nq):=by rw[H.out,World.drewN_drewN]
   generalize wr.drewN nq=W3 at l⊢;have D:∀t,t<d.size->W3.cell? ⟨c,off+t,none⟩=some (.int .i32 (r t)):=λt m=>by rw[l];exact N t m
   have P:∀t,t<d.size->W3.frozen? ⟨c,off+t,none⟩=false:=λt m=>by rw[l];exact hf t m
   have C:Hid (W3=W1.drewN (s+nq)):=l;clear l;obtain⟨v3,Q⟩:=cell?_setCell_some (w:=W3) (p:=⟨c,off+h,none⟩) (x:=.int .i32 (r a)) (q:=⟨c,off+a,none⟩) (D a (by omega));have ac:h<d.size:=by omega
   go_wp2;go_region
   all_goals go_wp2
   all_goals go_ret2
   have e:Sort.partition Sort.ltInt d a b f=(h,true,Sort.swp g h a):=part_first_break Sort.ltInt d a b f HI.out HJ.out aa.out B.out A.out (by omega);refine⟨?_,n+(s+nq)+1,?_⟩
   ·rw[e];rfl
   rw[e,C.out,X.out,World.drewN_drewN,z.out a,z.out h];exact swap_worldC (Value.int .i32) w c off g _ h a (by omega) (by omega)
def nV (f off cap a b c:Nat) (d:Array Int) (w:World) (l:Holds (Value.int .i32) w f off d) (h:a<=c) (i:c<b) (m:b<=d.size) (g:d.size<4611686018427387904) :
 Calls prog 143 #[.slice (some ⟨f,off,none⟩) d.size cap,.int .i64 a,.int .i64 b,.int .i64 c] w λe w'=>
  e=.returned (.tuple #[.int .i64 (Sort.partition Sort.ltInt d a b c).1,.bool (Sort.partition Sort.ltInt d a b c).2.1])/\∃n,w'=putRow (Value.int .i32) (Sort.ahead w n) f off (Sort.partition Sort.ltInt d a b c).2.2:=
 (xM f off cap a b c d w l h i m g).mono λ_ _ ⟨j,n,k⟩=>⟨j,n,k⟩
def xN (a b X:Nat) (k:X<18446744073709551616) (w:World) (l:w.cell? ⟨a,b,none⟩=some (.int .u64 X)) (hf:w.frozen? ⟨a,b,none⟩=false) :
 Calls prog 175 #[.pointer (some ⟨a,b,none⟩)] w λe w'=>e=.returned (.int .u64 (xorNextN X:Nat))/\w'=(w.setCell ⟨a,b,none⟩ (.int .u64 (xorNextN X:Nat))).drewN 3:=by
 obtain⟨A,c⟩:∃A:Nat,A=X ^^^ (X*8192 % 18446744073709551616):=⟨_,rfl⟩;obtain⟨B,d⟩:∃B:Nat,B=A ^^^ (A / 128):=⟨_,rfl⟩;obtain⟨C,f⟩:∃C:Nat,C=B ^^^ (B*131072 % 18446744073709551616):=⟨_,rfl⟩;have i:A<18446744073709551616:=by rw[c];exact Nat.xor_lt_two_pow (n:=64) (by omega) (by omega)
 have j:B<18446744073709551616:=by rw[d];exact Nat.xor_lt_two_pow (n:=64) (by omega) (by omega)
 have:bits .xor .u64 (X:Int) (IntKind.u64.wrap ((X:Int)*8192))=(A:Int):=by
  rw[IntKind.wrap_u64,show((X:Int)*8192 % 18446744073709551616)=((X*8192 % 18446744073709551616:Nat):Int) by omega,bits_xor_u64_nat _ _ k (by omega),c]
 have:bits .xor .u64 (A:Int) ((A:Int) / 128)=(B:Int):=by
  rw[show((A:Int) / 128)=((A / 128:Nat):Int) by omega,bits_xor_u64_nat _ _ i (by omega),d]
 have:bits .xor .u64 (B:Int) (IntKind.u64.wrap ((B:Int)*131072))=(C:Int):=by
  rw[IntKind.wrap_u64,show((B:Int)*131072 % 18446744073709551616)=((B*131072 % 18446744073709551616:Nat):Int) by omega,bits_xor_u64_nat _ _ j (by omega),f]
 have g:xorNextN X=C:=by unfold xorNextN;simp only[];rw[<-c,<-d,<-f]
 rw[g];clear c d f g;have:∀v v',(w.setCell ⟨a,b,none⟩ v).setCell ⟨a,b,none⟩ v'=w.setCell ⟨a,b,none⟩ v':=setCell_setCell w a b;go_enter func175,ntmps175;go_wp2;go_region
 all_goals go_wp2
 all_goals go_region
 all_goals go_wp2
 all_goals go_region
 all_goals go_wp2
 go_ret;exact⟨rfl,rfl⟩
def vS (n:Nat) (d:n<4611686018427387904) (w:World) :
 Calls prog 174 #[.int .i64 n] w λe w'=>e=.returned (.int .u64 ((1 <<< bitsLen n:Nat):Int))/\w'=w:=by
 have a:∀w,Calls prog 99 #[.int .u64 (n:Int)] w λe w'=>e=.returned (.int .i64 (bitsLen n:Nat))/\w'=w:=λw=>by
  have h:=Tryz.bits_Len (n:Int) w (by omega) (by omega)
  rwa [Int.toNat_natCast,bitLen_eq _ (by omega)] at h
 have b:bitsLen n<=62:=(bitsLen_le_iff n 62).2 (by omega);have:=wrap_two_pow (bitsLen n) b;go_enter func174,ntmps174;go_wp2_with (first|(go_at_call 99;refine(a _).mono ?_;rintro e w'⟨rfl,rfl⟩));go_ret;exact⟨rfl,rfl⟩
def nW (b off cap a L:Nat) (d:Array Int) (w:World) (z:Holds (Value.int .i32) w b off d) (f:b<w.heap.size) (Y:a+L<=d.size) (S:d.size<4611686018427387904) (Q:8<=L) :
 Calls prog 137 #[.slice (some ⟨b,off,none⟩) d.size cap,.int .i64 a,.int .i64 ((a+L:Nat):Int)] w λe w'=>
  e=.returned (.tuple #[])/\∃n os,w'=grow (putRow (Value.int .i32) (Sort.ahead w n) b off (breakPatterns d a (a+L))) os:=by
 rw[breakPatterns_eq d a L Q];obtain⟨M,m⟩:∃M:Nat,M=1 <<< bitsLen L:=⟨_,rfl⟩;have:1<=M:=by rw[m,Nat.one_shiftLeft];exact Nat.two_pow_pos _
 have:M<=2*L:=by rw[m,Nat.one_shiftLeft];exact two_pow_bitsLen_le (by omega)
 have C:∀w,Calls prog 174 #[.int .i64 (L:Int)] w λe w'=>e=.returned (.int .u64 (M:Int))/\w'=w:=by rw[m];exact λw=>vS L (by omega) w
 rw[<-m];clear m;have I:Hid (Holds (Value.int .i32) w b off d):=z;have E:Hid (w.alloc (Obj.cells #[.int .u64 (L:Int)] 285)=grow (putRow (Value.int .i32) (Sort.ahead w 0) b off d) #[Obj.cells #[.int .u64 ((UInt64.ofNat L).toNat:Int)] 285]):=by
  show _=_;rw[show Sort.ahead w 0=w from rfl,putRow_self _ _ _ _ _ z,alloc_eq_grow,show(UInt64.ofNat L).toNat=L from by simp;omega]
 clear z;go_enter func137,ntmps137;go_wp2_with (first|(go_at_call 174;rw[show((a:Int)+(L:Int)-(a:Int))=(L:Int) by omega];refine(C _).mono ?_;rintro e w'⟨rfl,rfl⟩))
 go_loopw [9] (λD wr=>∃(t n:Nat) (r:UInt64) (c:Array Int),D=.int .i64 ((a+L / 4*2-1+t:Nat):Int)/\t<=3/\c.size=d.size/\
  wr=grow (putRow (Value.int .i32) (Sort.ahead w n) b off c) #[Obj.cells #[.int .u64 (r.toNat:Int)] 285]/\
  bpRest a L M (a+L / 4*2-1) (3-t) t (r,c)=bpRest a L M (a+L / 4*2-1) 3 0 (UInt64.ofNat L,d)) (λD _=>a+L / 4*2+3-(intOf D).toNat)
 case atStart=>exact⟨0,0,UInt64.ofNat L,d,by congr 1;omega,by omega,rfl,E.out,rfl⟩
 case round=>
  obtain⟨t,n,r,c,rfl,Z,i,l,P⟩:=hrel;obtain⟨R,g⟩:∃R:Nat,R=r.toNat:=⟨_,rfl⟩;have K:R<18446744073709551616:=by rw[g];exact r.toNat_lt
  obtain⟨R',h⟩:∃R':Nat,R'=xorNextN R:=⟨_,rfl⟩;have v:R'<18446744073709551616:=by rw[h];exact xorNextN_lt R K
  obtain⟨O,q⟩:∃O:Nat,O=R' &&& (M-1):=⟨_,rfl⟩;have:O<=M-1:=by rw[q];exact Nat.and_le_right
  have:bits .and .u64 (R':Int) ((M:Int)-1)=(O:Int):=by
   rw[show((M:Int)-1)=((M-1:Nat):Int) by omega,bits_and_u64_nat _ _ v (by omega),q]
  obtain⟨G,s⟩:∃G:Nat->Int,∀x,G x=c[x]!:=⟨λx=>c[x]!,λ_=>rfl⟩;have o:(putRow (Value.int .i32) (Sort.ahead w n) b off c).heap.size=w.heap.size:=by simp
  have:∀x,x<d.size->wr.cell? ⟨b,off+x,none⟩=some (.int .i32 (G x)):=λx H=>by
   rw[l,cell?_grow _ _ _ (by rw[o];exact f),s];exact cell?_putRow _ _ _ _ d c (holds_ahead _ _ _ _ _ _ I.out) i x (by omega)
  have:∀x,x<d.size->wr.frozen? ⟨b,off+x,none⟩=false:=λx H=>by
   rw[l,frozen?_grow _ _ _ (by rw[o];exact f),frozen?_putRow];exact((holds_ahead _ _ n _ _ _ I.out) x H).2
  have B:wr.cell? ⟨w.heap.size,0,none⟩=some (.int .u64 (R:Int)):=by rw[l,g,<-o];exact grow_one_cell _ _ _
  have F:wr.frozen? ⟨w.heap.size,0,none⟩=false:=by rw[l,<-o];exact grow_one_frozen _ _ _
  have j:Calls prog 175 #[.pointer (some ⟨w.heap.size,0,none⟩)] wr λe w'=>e=.returned (.int .u64 (R':Int))/\w'=(wr.setCell ⟨w.heap.size,0,none⟩ (.int .u64 (R':Int))).drewN 3:=by
   rw[h];exact xN _ _ R K wr B F
  have A:Hid (wr=grow (putRow (Value.int .i32) (Sort.ahead w n) b off c) #[Obj.cells #[.int .u64 (r.toNat:Int)] 285]):=l;have J:Hid (∀x,G x=c[x]!):=s;have y:Hid (bpRest a L M (a+L / 4*2-1) (3-t) t (r,c)=bpRest a L M (a+L / 4*2-1) 3 0 (UInt64.ofNat L,d)):=P;have p:Hid (R'=(xorNext r).toNat/\O=(xorNext r).toNat &&& (M-1)):=by
   have e:R'=(xorNext r).toNat:=by rw[h,g,xorNext_toNat]
   exact⟨e,by rw[q,e]⟩
  clear l s P g h q;go_wp2_with (first|(go_at_call 175;refine j.mono ?_;rintro e w'⟨rfl,rfl⟩))
  ·
   have u:L<=O:=by omega
   by_cases k:a+L / 4*2-1+t=a+(O-L)
   all_goals
    go_region
    all_goals go_wp2
    go_roundw
    case rel=>
     refine⟨t+1,n+4,xorNext r,swp c (a+L / 4*2-1+t) (a+(O-L)),by first|rfl|(congr 1 <;> omega),by omega,by rw[size_swp];exact i,?_,?_⟩
     ·(try rw[k])
      rw[A.out,p.out.1];simp only[J.out];exact step_world (Value.int .i32) w n 4 b off c _ _ f (by omega) (by omega) _ _ _
     rw[<-y.out,bp_step a L M _ t r c (O-L) (by omega) (by rw[<-p.out.2,if_pos (by omega)])]
    case measure=>simp[intOf];omega
  ·have u:¬L<=O:=by omega
   by_cases k:a+L / 4*2-1+t=a+O
   all_goals
    go_region
    all_goals go_wp2
    go_roundw
    case rel=>
     refine⟨t+1,n+4,xorNext r,swp c (a+L / 4*2-1+t) (a+O),by first|rfl|(congr 1 <;> omega),by omega,by rw[size_swp];exact i,?_,?_⟩
     ·(try rw[k])
      rw[A.out,p.out.1];simp only[J.out];exact step_world (Value.int .i32) w n 4 b off c _ _ f (by omega) (by omega) _ _ _
     rw[<-y.out,bp_step a L M _ t r c O (by omega) (by rw[<-p.out.2,if_neg (by omega)])]
    case measure=>simp[intOf];omega
  ·
   obtain rfl:t=3:=by omega
   go_end0
   exact⟨rfl,n,_,by rw[<-y.out,A.out];rfl⟩
def qD (c off cap a b:Nat) (d:Array Int) (w:World) (h:Holds (Value.int .i32) w c off d) (f:c<w.heap.size) (k:a<=b) (m:b<=d.size) (i:d.size<4611686018427387904) :
 Calls prog 137 #[.slice (some ⟨c,off,none⟩) d.size cap,.int .i64 a,.int .i64 b] w λe w'=>
  e=.returned (.tuple #[])/\∃n os,w'=grow (putRow (Value.int .i32) (Sort.ahead w n) c off (breakPatterns d a b)) os:=by
 obtain⟨L,rfl⟩:∃L,b=a+L:=⟨b-a,by omega⟩;by_cases j:8<=L
 ·exact nW c off cap a L d w h f m i j
 have l:breakPatterns d a (a+L)=d:=by unfold breakPatterns;simp only[Nat.add_sub_cancel_left];rw[if_neg j]
 rw[l];have g:Hid (w=grow (putRow (Value.int .i32) (Sort.ahead w 0) c off d) #[]):=by
  show _=_;rw[grow_empty,show Sort.ahead w 0=w from rfl,putRow_self _ _ _ _ _ h]
 clear h;go_enter func137,ntmps137;go_wp2
 go_end0
 exact⟨rfl,0,#[],g.out⟩
end Go.Proofs.YtmnimbnojdndmaaGreatDoor
namespace Go.Proofs.YtmnimbnojdndmaaGreatDoor
open Go.Sort Go.RowKit _root_.Go.Proofs.Tryz
def gq {w:World} {a off e f n t:Nat} {d:Array Int} (h:Holds (Value.int .i32) w a off d) (b:e≠a):Holds (Value.int .i32) (putRow (Value.int .i64) (Sort.ahead w n) e f (one t)) a off d:=λj c=>
 ⟨by rw[cell?_putRow_other _ _ _ _ _ _ (Or.inl (Ne.symm b))];exact(h j c).1,by rw[frozen?_putRow];exact(h j c).2⟩
def nJ (d:Array Int) (len:Nat) (g:d.size=len) (f off cap a b i j s:Nat) (w:World) (o:Holds (Value.int .i32) w f off d) (m:a<d.size) (q:b<d.size)
 (h:Holds (Value.int .i64) w i j (one s)) (r:s<2 ^ 62) :
 Calls prog 208 #[.slice (some ⟨f,off,none⟩) len cap,.int .i64 a,.int .i64 b,.pointer (some ⟨i,j,none⟩)] w λe w'=>
  e=.returned (.tuple #[.int .i64 (order2 ltInt d a b s).1,.int .i64 (order2 ltInt d a b s).2.1])/\∃n,w'=putRow (Value.int .i64) (Sort.ahead w n) i j (one (order2 ltInt d a b s).2.2):=by
 subst g
 replace r:s<4611686018427387904:=by omega
 have:=(o a m).1;have:=(o b q).1;obtain⟨v,x⟩:=one_cell h;have p:d[a]! = d[a]:=getElem!_pos d a m;have l:d[b]! = d[b]:=getElem!_pos d b q;go_enter func208,ntmps208;go_wp2
 go_region_with (go_at_call 141;refine(aK _ _ _).mono ?_;rintro e w'⟨rfl,rfl⟩)
 all_goals (try go_wp2)
 all_goals first
  | (have c:ltInt d[b] d[a]=true:=by assumption
     have k:order2 ltInt d a b s=(b,a,s+1):=by simp[order2,p,l,c]
     go_ret2;rw[k];refine⟨rfl,1,?_⟩;rw[putRow_ahead,<-one_set h (s+1)]
     simp[drew_eq_ahead])
  | (have c:ltInt d[b] d[a]=false:=by assumption
     have k:order2 ltInt d a b s=(a,b,s):=by simp[order2,p,l,c]
     go_ret2;rw[k];refine⟨rfl,1,?_⟩;rw[putRow_ahead,putRow_self _ _ _ _ _ h]
     rfl)
def tu (d:Array Int) (len:Nat) (j:d.size=len) (f off cap a b c h i s:Nat) (w:World) (l:Holds (Value.int .i32) w f off d) (o:a<d.size) (p:b<d.size) (q:c<d.size) (g:h≠f)
 (m:Holds (Value.int .i64) w h i (one s)) (x:s+3<2 ^ 62) :
 Calls prog 177 #[.slice (some ⟨f,off,none⟩) len cap,.int .i64 a,.int .i64 b,.int .i64 c,.pointer (some ⟨h,i,none⟩)] w λe w'=>
  e=.returned (.int .i64 (median ltInt d a b c s).1)/\∃n,w'=putRow (Value.int .i64) (Sort.ahead w n) h i (one (median ltInt d a b c s).2):=by
 subst j;have k:=order2_lt d s o p;have:=order2_swaps d a b s;have t:=order2_lt d (order2 ltInt d a b s).2.2 k.2 q;have:=order2_swaps d (order2 ltInt d a b s).2.1 c (order2 ltInt d a b s).2.2;go_enter func177,ntmps177;go_wp2_with (go_at_call_of 208 (Value.int .i64 (b:Int));refine(nJ d _ rfl f off cap a b h i s w l o p m (by omega)).mono ?_;rintro e w'⟨rfl,u,rfl⟩);go_wp2_with (go_at_call_of 208 (Value.int .i64 (c:Int));refine(nJ d _ rfl f off cap (order2 ltInt d a b s).2.1 c h i (order2 ltInt d a b s).2.2 _ (gq l g) k.2 q (holds_one m) (by omega)).mono ?_;rintro e w'⟨rfl,r,rfl⟩)
 go_wp2_with (go_at_call_of 208 (Value.int .i64 ((order2 ltInt d a b s).1:Int));refine(nJ d _ rfl f off cap (order2 ltInt d a b s).1 (order2 ltInt d (order2 ltInt d a b s).2.1 c (order2 ltInt d a b s).2.2).1 h i (order2 ltInt d (order2 ltInt d a b s).2.1 c (order2 ltInt d a b s).2.2).2.2 _
  (gq (gq l g) g) k.1 t.1 (holds_one (holds_one m)) (by omega)).mono ?_;rintro e w'⟨rfl,v,rfl⟩)
 go_ret;refine⟨rfl,u+(r+v),?_⟩;rw[one_one,one_one];rfl
def qo (d:Array Int) (len:Nat) (c:d.size=len) (b off cap a f g s:Nat) (w:World) (k:Holds (Value.int .i32) w b off d) (p:1<=a) (j:a+1<d.size) (h:d.size<2 ^ 62) (i:f≠b)
 (l:Holds (Value.int .i64) w f g (one s)) (m:s+3<2 ^ 62) :
 Calls prog 176 #[.slice (some ⟨b,off,none⟩) len cap,.int .i64 a,.pointer (some ⟨f,g,none⟩)] w λe w'=>
  e=.returned (.int .i64 (medianAdjacent ltInt d a s).1)/\∃n,w'=putRow (Value.int .i64) (Sort.ahead w n) f g (one (medianAdjacent ltInt d a s).2):=by
 subst c
 replace h:d.size<4611686018427387904:=by omega
 go_enter func176,ntmps176;go_wp2_with (go_at_call 177;rw[show((a:Int)-1)=((a-1:Nat):Int) by omega,show((a:Int)+1)=((a+1:Nat):Int) by omega];refine(tu d _ rfl b off cap (a-1) a (a+1) f g s w k (by omega) (by omega) j i l m).mono ?_;rintro e w'⟨rfl,o,rfl⟩);go_ret;exact⟨rfl,o,rfl⟩
def AU (a off cap:Nat) (d:Array Int) (w:World) (r:Holds (Value.int .i32) w a off d) (h:a<w.heap.size) (u:d.size<4611686018427387904) :
 ∃f:Nat->Nat->World,
  w.alloc (.cells #[.int .i64 0] 3)=f 0 0/\
  (∀N S:Nat,(f N S).cell? ⟨w.heap.size,0,none⟩=some (.int .i64 (S:Int)))/\
  (∀N S:Nat,∃os,f N S=grow (Sort.ahead w N) os)/\
  (∀x s N:Nat,1<=x->x+1<d.size->s+3<4611686018427387904->Calls prog 176 #[.slice (some ⟨a,off,none⟩) d.size cap,.int .i64 (x:Int),.pointer (some ⟨w.heap.size,0,none⟩)] (f N s) λe w'=>
    e=.returned (.int .i64 ((medianAdjacent ltInt d x s).1:Int))/\∃i,w'=f i (medianAdjacent ltInt d x s).2)/\
  (∀x y z s N:Nat,x<d.size->y<d.size->z<d.size->s+3<4611686018427387904->Calls prog 177 #[.slice (some ⟨a,off,none⟩) d.size cap,.int .i64 (x:Int),.int .i64 (y:Int),.int .i64 (z:Int),.pointer (some ⟨w.heap.size,0,none⟩)] (f N s) λe w'=>
    e=.returned (.int .i64 ((median ltInt d x y z s).1:Int))/\∃i,w'=f i (median ltInt d x y z s).2):=by
 have c:w.heap.size≠a:=by omega
 have g:Holds (Value.int .i32) (w.alloc (.cells #[.int .i64 0] 3)) a off d:=by rw[alloc_eq_grow];exact holds_grow _ _ _ _ _ _ h r
 have b:Holds (Value.int .i64) (w.alloc (.cells #[.int .i64 0] 3)) w.heap.size 0 (one 0):=λj p=>by
  obtain rfl:j=0:=by simpa using p
  simp
 refine⟨λN S=>putRow (Value.int .i64) (Sort.ahead (w.alloc (.cells #[.int .i64 0] 3)) N) w.heap.size 0 (one S),(putRow_self _ _ _ _ _ b).symm,λN S=>(one_cell (holds_one (n:=N) (t:=S) b)).1,λN S=>counter_grow w N S,?_,?_⟩
 ·intro x s N o l v;refine(qo d _ rfl a off cap x w.heap.size 0 s _ (gq g c) o l (by omega) c (holds_one b) (by omega)).mono ?_;rintro e w'⟨k,n,m⟩;exact⟨k,N+n,by rw[m,one_one]⟩
 intro x y z s N o l q v;refine(tu d _ rfl a off cap x y z w.heap.size 0 s _ (gq g c) o l q c (holds_one b) (by omega)).mono ?_;rintro e w'⟨k,n,m⟩;exact⟨k,N+n,by rw[m,one_one]⟩
def uq (g off cap a b:Nat) (d:Array Int) (w:World) (T:Holds (Value.int .i32) w g off d) (H:g<w.heap.size) (aa:a<b) (hb:b<=d.size) (Q:d.size<4611686018427387904) :
 Calls prog 138 #[.slice (some ⟨g,off,none⟩) d.size cap,.int .i64 a,.int .i64 b] w λe w'=>
  e=.returned (.tuple #[.int .i64 (choosePivot ltInt d a b).1,.int .i64 (hintCode (choosePivot ltInt d a b).2)])/\∃n os,w'=grow (Sort.ahead w n) os:=by
 obtain⟨m,G,cS,M,u,D⟩:=AU g off cap d w T H Q;clear T;rw[choosePivot_eq];obtain⟨I,hI⟩:∃I:Nat,I=a+(b-a) / 4*1:=⟨_,rfl⟩;obtain⟨J,z⟩:∃J:Nat,J=a+(b-a) / 4*2:=⟨_,rfl⟩;obtain⟨K,B⟩:∃K:Nat,K=a+(b-a) / 4*3:=⟨_,rfl⟩;have:((a:Int)+((b:Int)-(a:Int)) / 4)=(I:Int):=by omega
 have:((a:Int)+((b:Int)-(a:Int)) / 4*2)=(J:Int):=by omega
 have:((a:Int)+((b:Int)-(a:Int)) / 4*3)=(K:Int):=by omega
 by_cases L:b-a≥8
 ·by_cases C:b-a≥50
  ·
   obtain⟨y,s1,q⟩:∃y s1,medianAdjacent ltInt d I 0=(y,s1):=⟨_,_,rfl⟩;obtain⟨x,s2,l⟩:∃x s2,medianAdjacent ltInt d J s1=(x,s2):=⟨_,_,rfl⟩;obtain⟨v,s3,E⟩:∃v s3,medianAdjacent ltInt d K s2=(v,s3):=⟨_,_,rfl⟩;obtain⟨p,s,t⟩:∃p s,median ltInt d y x v s3=(p,s):=⟨_,_,rfl⟩;have f:rawPivot ltInt d a b=(p,s):=by simp only[rawPivot,if_pos L,if_pos C,<-hI,<-z,<-B,q,l,E,t]
   have O:=medianAdjacent_mem ltInt d I 0;rw[q] at O;have S:=medianAdjacent_mem ltInt d J s1;rw[l] at S;have R:=medianAdjacent_mem ltInt d K s2;rw[E] at R;have U:=medianAdjacent_count ltInt d I 0;rw[q] at U;have W:=medianAdjacent_count ltInt d J s1;rw[l] at W;have Z:=medianAdjacent_count ltInt d K s2;rw[E] at Z;simp only[] at O S R U W Z;have c1:Calls prog 176 #[.slice (some ⟨g,off,none⟩) d.size cap,.int .i64 (I:Int),.pointer (some ⟨w.heap.size,0,none⟩)] (m 0 0) λe w'=>e=.returned (.int .i64 (y:Int))/\∃r,w'=m r s1:=by
    have h:=u I 0 0 (by omega) (by omega) (by omega);rw[q] at h;exact h
   have c2:∀N,Calls prog 176 #[.slice (some ⟨g,off,none⟩) d.size cap,.int .i64 (J:Int),.pointer (some ⟨w.heap.size,0,none⟩)] (m N s1) λe w'=>e=.returned (.int .i64 (x:Int))/\∃r,w'=m r s2:=λN=>by
    have h:=u J s1 N (by omega) (by omega) (by omega);rw[l] at h;exact h
   have c3:∀N,Calls prog 176 #[.slice (some ⟨g,off,none⟩) d.size cap,.int .i64 (K:Int),.pointer (some ⟨w.heap.size,0,none⟩)] (m N s2) λe w'=>e=.returned (.int .i64 (v:Int))/\∃r,w'=m r s3:=λN=>by
    have h:=u K s2 N (by omega) (by omega) (by omega);rw[E] at h;exact h
   have P:∀N,Calls prog 177 #[.slice (some ⟨g,off,none⟩) d.size cap,.int .i64 (y:Int),.int .i64 (x:Int),.int .i64 (v:Int),.pointer (some ⟨w.heap.size,0,none⟩)] (m N s3) λe w'=>e=.returned (.int .i64 (p:Int))/\∃r,w'=m r s:=λN=>by
    have h:=D y x v s3 N (by omega) (by omega) (by omega) (by omega);rw[t] at h;exact h
   rw[f];obtain⟨j,c⟩:∃j:Int,j=hintCode (hintOf s):=⟨_,rfl⟩;have i:s=0->j=1:=λh=>by rw[c,h];rfl
   have k:s=12->j=2:=λh=>by rw[c,h];rfl
   have o:s≠0->s≠12->j=0:=λq l=>by rw[c];unfold hintOf;rw[if_neg q,if_neg l];rfl
   show Calls prog 138 _ w λe w'=>e=.returned (.tuple #[.int .i64 (p:Int),.int .i64 (hintCode (hintOf s))])/\∃n os,w'=grow (Sort.ahead w n) os;rw[<-c];clear c f;clear q l E t u D hI z B O S R;go_enter func138,ntmps138
   go_wp2_with (first
    | (go_at_call_has 176 (Value.int .i64 (I:Int));refine c1.mono ?_;rintro e w'⟨rfl,N1,rfl⟩)
    | (go_at_call_has 176 (Value.int .i64 (J:Int));refine(c2 _).mono ?_;rintro e w'⟨rfl,N2,rfl⟩)
    | (go_at_call_has 176 (Value.int .i64 (K:Int));refine(c3 _).mono ?_;rintro e w'⟨rfl,N3,rfl⟩)
    | (go_at_call 177;refine(P _).mono ?_;rintro e w'⟨rfl,N4,rfl⟩))
   all_goals
    go_ret2;refine⟨?_,_,M _ _⟩
    first
     | (have A:(s:Int)=0:=of_beq_int (by assumption)
        rw[i (by omega)];rfl)
     | (have F:(s:Int)=12:=of_beq_int (by assumption)
        rw[k (by omega)];rfl)
     | (have A:(s:Int)≠0:=of_bne_int (by assumption)
        have F:(s:Int)≠12:=of_bne_int (by assumption)
        rw[o (by omega) (by omega)];rfl)
     | (rw[i (by omega)];rfl)
  ·
   obtain⟨p,s,t⟩:∃p s,median ltInt d I J K 0=(p,s):=⟨_,_,rfl⟩;have f:rawPivot ltInt d a b=(p,s):=by simp only[rawPivot,if_pos L,if_neg C,<-hI,<-z,<-B,t]
   have P:Calls prog 177 #[.slice (some ⟨g,off,none⟩) d.size cap,.int .i64 (I:Int),.int .i64 (J:Int),.int .i64 (K:Int),.pointer (some ⟨w.heap.size,0,none⟩)] (m 0 0) λe w'=>e=.returned (.int .i64 (p:Int))/\∃r,w'=m r s:=by
    have h:=D I J K 0 0 (by omega) (by omega) (by omega) (by omega);rw[t] at h;exact h
   rw[f];obtain⟨j,c⟩:∃j:Int,j=hintCode (hintOf s):=⟨_,rfl⟩;have i:s=0->j=1:=λh=>by rw[c,h];rfl
   have k:s=12->j=2:=λh=>by rw[c,h];rfl
   have o:s≠0->s≠12->j=0:=λq l=>by rw[c];unfold hintOf;rw[if_neg q,if_neg l];rfl
   show Calls prog 138 _ w λe w'=>e=.returned (.tuple #[.int .i64 (p:Int),.int .i64 (hintCode (hintOf s))])/\∃n os,w'=grow (Sort.ahead w n) os;rw[<-c];clear c f;clear t u D hI z B;go_enter func138,ntmps138;go_wp2_with (first|(go_at_call 177;refine P.mono ?_;rintro e w'⟨rfl,N4,rfl⟩))
   all_goals
    go_ret2;refine⟨?_,_,M _ _⟩
    first
     | (have A:(s:Int)=0:=of_beq_int (by assumption)
        rw[i (by omega)];rfl)
     | (have F:(s:Int)=12:=of_beq_int (by assumption)
        rw[k (by omega)];rfl)
     | (have A:(s:Int)≠0:=of_bne_int (by assumption)
        have F:(s:Int)≠12:=of_bne_int (by assumption)
        rw[o (by omega) (by omega)];rfl)
     | (rw[i (by omega)];rfl)
 ·
  obtain⟨p,V⟩:∃p:Nat,p=J:=⟨_,rfl⟩;obtain⟨s,X⟩:∃s:Nat,s=0:=⟨_,rfl⟩;have f:rawPivot ltInt d a b=(p,s):=by simp only[rawPivot,if_neg L,<-z,V,X]
  rw[f];obtain⟨j,c⟩:∃j:Int,j=hintCode (hintOf s):=⟨_,rfl⟩;have i:s=0->j=1:=λh=>by rw[c,h];rfl
  have k:s=12->j=2:=λh=>by rw[c,h];rfl
  have o:s≠0->s≠12->j=0:=λq l=>by rw[c];unfold hintOf;rw[if_neg q,if_neg l];rfl
  show Calls prog 138 _ w λe w'=>e=.returned (.tuple #[.int .i64 (p:Int),.int .i64 (hintCode (hintOf s))])/\∃n os,w'=grow (Sort.ahead w n) os;rw[<-c];clear c f;subst V;clear u D hI z B;have:w.alloc (.cells #[.int .i64 0] 3)=m 0 s:=by rw[X];exact G
  clear G;go_enter func138,ntmps138;go_wp2
  all_goals
   go_ret2;refine⟨?_,_,M _ _⟩
   first
    | (have A:(s:Int)=0:=of_beq_int (by assumption)
       rw[i (by omega)];rfl)
    | (have F:(s:Int)=12:=of_beq_int (by assumption)
       rw[k (by omega)];rfl)
    | (have A:(s:Int)≠0:=of_bne_int (by assumption)
       have F:(s:Int)≠12:=of_bne_int (by assumption)
       rw[o (by omega) (by omega)];rfl)
    | (rw[i (by omega)];rfl)
end Go.Proofs.YtmnimbnojdndmaaGreatDoor
