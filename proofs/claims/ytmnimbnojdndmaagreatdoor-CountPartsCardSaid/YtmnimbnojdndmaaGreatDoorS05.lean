/- State by state it is added up what is possible; no condition. -/
import Derived.Test.YtmnimbnojdndmaaGreatDoorS04
import Derived.Sort.WalkB3
import Derived.Sort.WalkC4
set_option maxRecDepth 100000
set_option maxHeartbeats 6400000
set_option linter.all false
namespace Go.Proofs.YtmnimbnojdndmaaGreatDoor
open Go.RowKit Go.Sort _root_.Go.Proofs.Tryz
theorem kH (c off cap a b:Nat) (d:Array Int) (w:World) (hH:Holds (Value.int .i32) w c off d) (ah:a<b) (hb:b<=d.size) (ac:d.size<4611686018427387904) :
 Calls prog 140 #[.slice (some ⟨c,off,none⟩) d.size cap,.int .i64 a,.int .i64 b] w fun e w'=>
  e=.returned (.bool (Sort.partialInsertionSort ltInt d a b).2)∧∃n,w'=putRow (Value.int .i32) (Sort.ahead w n) c off (Sort.partialInsertionSort ltInt d a b).1:=by
 have I:Hid (Holds (Value.int .i32) w c off d):=hH;have aa:Hid (w=putRow (Value.int .i32) (Sort.ahead w 0) c off d):=(putRow_self _ _ _ _ _ hH).symm;clear hH;go_enter func140,ntmps140;go_wp2
 go_loopw [7,8] (fun R vs wr=>∃(i s n:Nat) (g:Array Int),R=.int .i64 i∧vs=.int .i64 s∧s<=5∧a<i∧i<=b∧g.size=d.size∧wr=putRow (Value.int .i32) (Sort.ahead w n) c off g∧
  partialIns ltInt a b (5-s) i g=partialIns ltInt a b 5 (a+1) d) (fun _ vs _=>5-(intOf vs).toNat)
 case atStart=>exact⟨a+1,0,0,d,by go_num,rfl,by omega,by omega,by omega,rfl,aa.out,rfl⟩
 case round=>
  obtain⟨i,s,n,g,rfl,rfl,ai,ad,Z,V,ae,hO⟩:=hrel;have D:Hid (partialIns ltInt a b (5-s) i g=partialIns ltInt a b 5 (a+1) d):=hO;clear hO;go_wp2
  ·
   have F:s<5:=by omega
   go_loopw [7] (fun R y=>∃(k m:Nat),R=.int .i64 k∧i<=k∧k<=b∧y=putRow (Value.int .i32) (Sort.ahead w m) c off g∧scanSorted ltInt g b k=scanSorted ltInt g b i) (fun R _=>b-(intOf R).toNat)
   case atStart=>exact⟨i,n,rfl,d' _,Z,rfl,rfl⟩
   case round=>
    obtain⟨k,m,rfl,ag,aj,v,hS⟩:=hrel;obtain⟨G,x⟩:∃G:Nat->Int,∀t,G t=g[t]!:=⟨fun t=>g[t]!,fun _=>rfl⟩;have K:∀t,t<d.size->wr.cell? ⟨c,off+t,none⟩=some (.int .i32 (G t)):=fun t B=>by
     rw[v,x];exact cell?_putRow _ _ _ _ d g (holds_ahead _ _ _ _ _ _ I.out) V t (by omega)
    have L:∀t,t<d.size->wr.frozen? ⟨c,off+t,none⟩=false:=fun t B=>by
     rw[v,frozen?_putRow];exact((holds_ahead _ _ m _ _ _ I.out) t B).2
    have l:Hid (wr=putRow (Value.int .i32) (Sort.ahead w m) c off g):=v;have p:Hid (∀t,G t=g[t]!):=x;have Y:Hid (scanSorted ltInt g b k=scanSorted ltInt g b i):=hS;clear v x hS;go_wp2;by_cases X:k<b
    ·go_quiet (first|(go_at_call 141;refine jz (aK _ _ _)));go_wp2
     all_goals first
      | (at_end
         have z:ltInt (G k) (G (k-1))=false:=by
          have h:(!ltInt (G k) (G (k-1)))=true:=by assumption
          simpa using h
         go_roundw
         case rel=>exact⟨k+1,m+nq,by go_num,by omega,by omega,by rw[l.out];exact putRow_drewN _ _ _ _ _ _ _,by rw[<-Y.out,scanSorted_go ltInt g b k X (by rw[<-p.out,<-p.out];exact z)]⟩
         case measure=>simp[intOf];omega)
      | (have z:ltInt (G k) (G (k-1))=true:=by
          have h:(!ltInt (G k) (G (k-1)))=false:=by assumption
          simpa using h
         have J:Hid (scanSorted ltInt g b i=k):=by
          show scanSorted ltInt g b i=k;rw[<-Y.out,scanSorted_stop ltInt g b k (Or.inr (by rw[<-p.out,<-p.out];exact z))]
         first
          | (at_ret
             have T:Sort.partialInsertionSort ltInt d a b=(g,false):=by
              unfold Sort.partialInsertionSort;rw[<-D.out,pi_short ltInt a b s i g F (by rw[J.out];omega) (by omega)]
             rw[T];go_ret
             exact⟨rfl,m+nq,by rw[l.out];exact putRow_drewN _ _ _ _ _ _ _⟩)
          | (at_region 11
             have af:¬b-a<50:=by omega
             go_region;have ab:((wr.drewN (nq+1)).setCell ⟨c,off+k,none⟩ (.int .i32 (G (k-1)))).setCell ⟨c,off+(k-1),none⟩ (.int .i32 (G k))=putRow (Value.int .i32) (Sort.ahead w (m+(nq+1))) c off (swp g k (k-1)):=by
              rw[l.out,p.out,p.out];exact swap_worldA _ w m (nq+1) c off g k (k-1) (by omega) (by omega)
             have O:(swp g k (k-1)).size=d.size:=by rw[size_swp];exact V
             go_wp2
             all_goals first
              | (at_loop
                 have Q:k-a≥2:=by omega
                 go_loopw [9] (fun A y=>∃(j P:Nat) (o:Array Int),A=.int .i64 j∧j<=k-1∧o.size=d.size∧y=putRow (Value.int .i32) (Sort.ahead w P) c off o∧
                  shiftDown ltInt j o=shiftDown ltInt (k-1) (swp g k (k-1))) (fun A _=>(intOf A).toNat)
                 case atStart=>exact⟨k-1,_,(swp g k (k-1)),by congr 1;omega,d' _,O,rfl,rfl⟩
                 case round=>
                  obtain⟨j,P,o,rfl,ak,C,v,S⟩:=hrel;obtain⟨G,x⟩:∃G:Nat->Int,∀t,G t=o[t]!:=⟨fun t=>o[t]!,fun _=>rfl⟩;have K:∀t,t<d.size->wr.cell? ⟨c,off+t,none⟩=some (.int .i32 (G t)):=fun t B=>by
                   rw[v,x];exact cell?_putRow _ _ _ _ d o (holds_ahead _ _ _ _ _ _ I.out) C t (by omega)
                  have L:∀t,t<d.size->wr.frozen? ⟨c,off+t,none⟩=false:=fun t B=>by
                   rw[v,frozen?_putRow];exact((holds_ahead _ _ P _ _ _ I.out) t B).2
                  have l:Hid (wr=putRow (Value.int .i32) (Sort.ahead w P) c off o):=v;have p:Hid (∀t,G t=o[t]!):=x;have N:Hid (shiftDown ltInt j o=shiftDown ltInt (k-1) (swp g k (k-1))):=S;clear v x S ab;go_wp2
                  all_goals first
                   | (at_region 16
                      go_quiet (first|(go_at_call 141;refine jz (aK _ _ _)));go_wp2
                      all_goals first
                       | (at_region 17
                          have z:ltInt (G j) (G (j-1))=true:=by
                           have h:(!ltInt (G j) (G (j-1)))=false:=by assumption
                           simpa using h
                          go_region
                          all_goals go_wp2
                          go_roundw
                          case rel=>
                           refine⟨j-1,P+(nq+1),swp o j (j-1),by congr 1;omega,by omega,by rw[size_swp];exact C,?_,?_⟩
                           ·rw[l.out,p.out,p.out];exact swap_worldA _ w P (nq+1) c off o j (j-1) (by omega) (by omega)
                           ·rw[<-N.out,shiftDown_go ltInt j o (by omega) (by rw[<-p.out,<-p.out];exact z)]
                          case measure=>simp[intOf];omega)
                       | (
                          have z:ltInt (G j) (G (j-1))=false:=by
                           have h:(!ltInt (G j) (G (j-1)))=true:=by assumption
                           simpa using h
                          have E:Hid (fixDown ltInt a k (swp g k (k-1))=o):=by
                           show fixDown ltInt a k (swp g k (k-1))=o;unfold fixDown;rw[if_pos Q,<-N.out,shiftDown_stop ltInt j o (Or.inr (by rw[<-p.out,<-p.out];exact z))]
                          first
                           | (at_end
                              go_roundw
                              case rel=>
                               refine⟨k,s+1,_,o,rfl,by go_num,by omega,by omega,by omega,C,(by first|rfl|exact l.out|(rw[l.out];exact putRow_drewN _ _ _ _ _ _ _)),?_⟩;rw[<-D.out,pi_go ltInt a b s i k g F J.out (by omega) (by omega),E.out,show fixUp ltInt b k o=o from by unfold fixUp;rw[if_neg (by omega)]]
                              case measure=>simp[intOf];omega)
                           | (at_loop
                              go_loopw [10] (fun A y=>∃(j u:Nat) (f:Array Int),A=.int .i64 j∧k+1<=j∧j<=b∧f.size=d.size∧y=putRow (Value.int .i32) (Sort.ahead w u) c off f∧
                               shiftUp ltInt b j f=shiftUp ltInt b (k+1) o) (fun A _=>b-(intOf A).toNat)
                              case atStart=>exact⟨k+1,_,o,by go_num,d' _,by omega,C,(by first|rfl|exact l.out|(rw[l.out];exact putRow_drewN _ _ _ _ _ _ _)),rfl⟩
                              case round=>
                               obtain⟨j,u,f,rfl,W,U,r,q,M⟩:=hrel;obtain⟨G,x⟩:∃G:Nat->Int,∀t,G t=f[t]!:=⟨fun t=>f[t]!,fun _=>rfl⟩;have K:∀t,t<d.size->wr.cell? ⟨c,off+t,none⟩=some (.int .i32 (G t)):=fun t B=>by
                                rw[q,x];exact cell?_putRow _ _ _ _ d f (holds_ahead _ _ _ _ _ _ I.out) r t (by omega)
                               have L:∀t,t<d.size->wr.frozen? ⟨c,off+t,none⟩=false:=fun t B=>by
                                rw[q,frozen?_putRow];exact((holds_ahead _ _ u _ _ _ I.out) t B).2
                               have l:Hid (wr=putRow (Value.int .i32) (Sort.ahead w u) c off f):=q;have p:Hid (∀t,G t=f[t]!):=x;have H:Hid (shiftUp ltInt b j f=shiftUp ltInt b (k+1) o):=M;clear q x M;go_wp2
                               all_goals first
                                | (at_region 22
                                   go_quiet (first|(go_at_call 141;refine jz (aK _ _ _)));go_wp2
                                   all_goals first
                                    | (at_region 23
                                       have z:ltInt (G j) (G (j-1))=true:=by
                                        have h:(!ltInt (G j) (G (j-1)))=false:=by assumption
                                        simpa using h
                                       go_region
                                       all_goals go_wp2
                                       go_roundw
                                       case rel=>
                                        refine⟨j+1,u+(nq+1),swp f j (j-1),by go_num,by omega,by omega,by rw[size_swp];exact r,?_,?_⟩
                                        ·rw[l.out,p.out,p.out];exact swap_worldA _ w u (nq+1) c off f j (j-1) (by omega) (by omega)
                                        ·rw[<-H.out,shiftUp_go ltInt b j f (by omega) (by rw[<-p.out,<-p.out];exact z)]
                                       case measure=>simp[intOf];omega)
                                    | (at_end
                                       have z:ltInt (G j) (G (j-1))=false:=by
                                        have h:(!ltInt (G j) (G (j-1)))=true:=by assumption
                                        simpa using h
                                       go_roundw
                                       case rel=>
                                        refine⟨k,s+1,_,f,rfl,by go_num,by omega,by omega,by omega,r,(by first|rfl|exact l.out|(rw[l.out];exact putRow_drewN _ _ _ _ _ _ _)),?_⟩;rw[<-D.out,pi_go ltInt a b s i k g F J.out (by omega) (by omega),E.out,show fixUp ltInt b k o=f from by unfold fixUp;rw[if_pos (by omega),<-H.out,shiftUp_stop ltInt b j f (Or.inr (by rw[<-p.out,<-p.out];exact z))]]
                                       case measure=>simp[intOf];omega))
                                | (at_end
                                   go_roundw
                                   case rel=>
                                    refine⟨k,s+1,_,f,rfl,by go_num,by omega,by omega,by omega,r,(by first|rfl|exact l.out|(rw[l.out];exact putRow_drewN _ _ _ _ _ _ _)),?_⟩;rw[<-D.out,pi_go ltInt a b s i k g F J.out (by omega) (by omega),E.out,show fixUp ltInt b k o=f from by unfold fixUp;rw[if_pos (by omega),<-H.out,shiftUp_stop ltInt b j f (Or.inl (by omega))]]
                                   case measure=>simp[intOf];omega))))
                   | (
                      have E:Hid (fixDown ltInt a k (swp g k (k-1))=o):=by
                       show fixDown ltInt a k (swp g k (k-1))=o;unfold fixDown;rw[if_pos Q,<-N.out,shiftDown_stop ltInt j o (Or.inl (by omega))]
                      first
                       | (at_end
                          go_roundw
                          case rel=>
                           refine⟨k,s+1,_,o,rfl,by go_num,by omega,by omega,by omega,C,(by first|rfl|exact l.out|(rw[l.out];exact putRow_drewN _ _ _ _ _ _ _)),?_⟩;rw[<-D.out,pi_go ltInt a b s i k g F J.out (by omega) (by omega),E.out,show fixUp ltInt b k o=o from by unfold fixUp;rw[if_neg (by omega)]]
                          case measure=>simp[intOf];omega)
                       | (at_loop
                          go_loopw [10] (fun A y=>∃(j u:Nat) (f:Array Int),A=.int .i64 j∧k+1<=j∧j<=b∧f.size=d.size∧y=putRow (Value.int .i32) (Sort.ahead w u) c off f∧
                           shiftUp ltInt b j f=shiftUp ltInt b (k+1) o) (fun A _=>b-(intOf A).toNat)
                          case atStart=>exact⟨k+1,_,o,by go_num,d' _,by omega,C,(by first|rfl|exact l.out|(rw[l.out];exact putRow_drewN _ _ _ _ _ _ _)),rfl⟩
                          case round=>
                           obtain⟨j,u,f,rfl,W,U,r,q,M⟩:=hrel;obtain⟨G,x⟩:∃G:Nat->Int,∀t,G t=f[t]!:=⟨fun t=>f[t]!,fun _=>rfl⟩;have K:∀t,t<d.size->wr.cell? ⟨c,off+t,none⟩=some (.int .i32 (G t)):=fun t B=>by
                            rw[q,x];exact cell?_putRow _ _ _ _ d f (holds_ahead _ _ _ _ _ _ I.out) r t (by omega)
                           have L:∀t,t<d.size->wr.frozen? ⟨c,off+t,none⟩=false:=fun t B=>by
                            rw[q,frozen?_putRow];exact((holds_ahead _ _ u _ _ _ I.out) t B).2
                           have l:Hid (wr=putRow (Value.int .i32) (Sort.ahead w u) c off f):=q;have p:Hid (∀t,G t=f[t]!):=x;have H:Hid (shiftUp ltInt b j f=shiftUp ltInt b (k+1) o):=M;clear q x M;go_wp2
                           all_goals first
                            | (at_region 22
                               go_quiet (first|(go_at_call 141;refine jz (aK _ _ _)));go_wp2
                               all_goals first
                                | (at_region 23
                                   have z:ltInt (G j) (G (j-1))=true:=by
                                    have h:(!ltInt (G j) (G (j-1)))=false:=by assumption
                                    simpa using h
                                   go_region
                                   all_goals go_wp2
                                   go_roundw
                                   case rel=>
                                    refine⟨j+1,u+(nq+1),swp f j (j-1),by go_num,by omega,by omega,by rw[size_swp];exact r,?_,?_⟩
                                    ·rw[l.out,p.out,p.out];exact swap_worldA _ w u (nq+1) c off f j (j-1) (by omega) (by omega)
                                    ·rw[<-H.out,shiftUp_go ltInt b j f (by omega) (by rw[<-p.out,<-p.out];exact z)]
                                   case measure=>simp[intOf];omega)
                                | (at_end
                                   have z:ltInt (G j) (G (j-1))=false:=by
                                    have h:(!ltInt (G j) (G (j-1)))=true:=by assumption
                                    simpa using h
                                   go_roundw
                                   case rel=>
                                    refine⟨k,s+1,_,f,rfl,by go_num,by omega,by omega,by omega,r,(by first|rfl|exact l.out|(rw[l.out];exact putRow_drewN _ _ _ _ _ _ _)),?_⟩;rw[<-D.out,pi_go ltInt a b s i k g F J.out (by omega) (by omega),E.out,show fixUp ltInt b k o=f from by unfold fixUp;rw[if_pos (by omega),<-H.out,shiftUp_stop ltInt b j f (Or.inr (by rw[<-p.out,<-p.out];exact z))]]
                                   case measure=>simp[intOf];omega))
                            | (at_end
                               go_roundw
                               case rel=>
                                refine⟨k,s+1,_,f,rfl,by go_num,by omega,by omega,by omega,r,(by first|rfl|exact l.out|(rw[l.out];exact putRow_drewN _ _ _ _ _ _ _)),?_⟩;rw[<-D.out,pi_go ltInt a b s i k g F J.out (by omega) (by omega),E.out,show fixUp ltInt b k o=f from by unfold fixUp;rw[if_pos (by omega),<-H.out,shiftUp_stop ltInt b j f (Or.inl (by omega))]]
                               case measure=>simp[intOf];omega))))
              | (
                 have E:Hid (fixDown ltInt a k (swp g k (k-1))=(swp g k (k-1))):=by
                  show fixDown ltInt a k (swp g k (k-1))=(swp g k (k-1));unfold fixDown;rw[if_neg (by omega)]
                 first
                  | (at_end
                     go_roundw
                     case rel=>
                      refine⟨k,s+1,_,(swp g k (k-1)),rfl,by go_num,by omega,by omega,by omega,O,(by first|rfl|exact l.out|(rw[l.out];exact putRow_drewN _ _ _ _ _ _ _)),?_⟩;rw[<-D.out,pi_go ltInt a b s i k g F J.out (by omega) (by omega),E.out,show fixUp ltInt b k (swp g k (k-1))=(swp g k (k-1)) from by unfold fixUp;rw[if_neg (by omega)]]
                     case measure=>simp[intOf];omega)
                  | (at_loop
                     go_loopw [10] (fun A y=>∃(j u:Nat) (f:Array Int),A=.int .i64 j∧k+1<=j∧j<=b∧f.size=d.size∧y=putRow (Value.int .i32) (Sort.ahead w u) c off f∧
                      shiftUp ltInt b j f=shiftUp ltInt b (k+1) (swp g k (k-1))) (fun A _=>b-(intOf A).toNat)
                     case atStart=>exact⟨k+1,_,(swp g k (k-1)),by go_num,d' _,by omega,O,(by first|rfl|exact l.out|(rw[l.out];exact putRow_drewN _ _ _ _ _ _ _)),rfl⟩
                     case round=>
                      obtain⟨j,u,f,rfl,W,U,r,q,M⟩:=hrel;obtain⟨G,x⟩:∃G:Nat->Int,∀t,G t=f[t]!:=⟨fun t=>f[t]!,fun _=>rfl⟩;have K:∀t,t<d.size->wr.cell? ⟨c,off+t,none⟩=some (.int .i32 (G t)):=fun t B=>by
                       rw[q,x];exact cell?_putRow _ _ _ _ d f (holds_ahead _ _ _ _ _ _ I.out) r t (by omega)
                      have L:∀t,t<d.size->wr.frozen? ⟨c,off+t,none⟩=false:=fun t B=>by
                       rw[q,frozen?_putRow];exact((holds_ahead _ _ u _ _ _ I.out) t B).2
                      have l:Hid (wr=putRow (Value.int .i32) (Sort.ahead w u) c off f):=q;have p:Hid (∀t,G t=f[t]!):=x;have H:Hid (shiftUp ltInt b j f=shiftUp ltInt b (k+1) (swp g k (k-1))):=M;clear q x M;go_wp2
                      all_goals first
                       | (at_region 22
                          go_quiet (first|(go_at_call 141;refine jz (aK _ _ _)));go_wp2
                          all_goals first
                           | (at_region 23
                              have z:ltInt (G j) (G (j-1))=true:=by
                               have h:(!ltInt (G j) (G (j-1)))=false:=by assumption
                               simpa using h
                              go_region
                              all_goals go_wp2
                              go_roundw
                              case rel=>
                               refine⟨j+1,u+(nq+1),swp f j (j-1),by go_num,by omega,by omega,by rw[size_swp];exact r,?_,?_⟩
                               ·rw[l.out,p.out,p.out];exact swap_worldA _ w u (nq+1) c off f j (j-1) (by omega) (by omega)
                               ·rw[<-H.out,shiftUp_go ltInt b j f (by omega) (by rw[<-p.out,<-p.out];exact z)]
                              case measure=>simp[intOf];omega)
                           | (at_end
                              have z:ltInt (G j) (G (j-1))=false:=by
                               have h:(!ltInt (G j) (G (j-1)))=true:=by assumption
                               simpa using h
                              go_roundw
                              case rel=>
                               refine⟨k,s+1,_,f,rfl,by go_num,by omega,by omega,by omega,r,(by first|rfl|exact l.out|(rw[l.out];exact putRow_drewN _ _ _ _ _ _ _)),?_⟩;rw[<-D.out,pi_go ltInt a b s i k g F J.out (by omega) (by omega),E.out,show fixUp ltInt b k (swp g k (k-1))=f from by unfold fixUp;rw[if_pos (by omega),<-H.out,shiftUp_stop ltInt b j f (Or.inr (by rw[<-p.out,<-p.out];exact z))]]
                              case measure=>simp[intOf];omega))
                       | (at_end
                          go_roundw
                          case rel=>
                           refine⟨k,s+1,_,f,rfl,by go_num,by omega,by omega,by omega,r,(by first|rfl|exact l.out|(rw[l.out];exact putRow_drewN _ _ _ _ _ _ _)),?_⟩;rw[<-D.out,pi_go ltInt a b s i k g F J.out (by omega) (by omega),E.out,show fixUp ltInt b k (swp g k (k-1))=f from by unfold fixUp;rw[if_pos (by omega),<-H.out,shiftUp_stop ltInt b j f (Or.inl (by omega))]]
                          case measure=>simp[intOf];omega)))))
    ·
     go_quiet (first|(go_at_call 141;refine jz (aK _ _ _)));go_wp2;obtain rfl:k=b:=by omega
     have T:Sort.partialInsertionSort ltInt d a k=(g,true):=by
      unfold Sort.partialInsertionSort;rw[<-D.out,pi_true ltInt a k s i g F (by rw[<-Y.out,scanSorted_stop ltInt g k k (Or.inl (by omega))])]
     rw[T];go_ret;exact⟨rfl,m+nq,by rw[l.out];exact putRow_drewN _ _ _ _ _ _ _⟩
  ·
   obtain rfl:s=5:=by omega
   have T:Sort.partialInsertionSort ltInt d a b=(g,false):=by
    unfold Sort.partialInsertionSort;rw[<-D.out,pi_end]
   rw[T];go_ret;exact⟨rfl,n,rfl⟩
def jZ (c off len cap:Nat) (d:Array Int) (D:d.size=len) (y j first:Nat) (w:World) (F:Holds encR w c off d) (H:y<=j) (L:first+j<=d.size) (J:d.size<4611686018427387904) :
 Calls prog 173 #[.slice (some ⟨c,off,none⟩) len cap,.int .i64 y,.int .i64 j,.int .i64 first] w λe w'=>e=.returned (.tuple #[])/\∃n,w'=putRow encR (Sort.ahead w n) c off (siftDown ltInt j first y d):=by
 subst D;go_enter func173,ntmps173;go_wp2
 go_loopg [8] (j-y) (λk s8 wr=>∃(a:Nat) (f:Array Int) (n:Nat),s8=.int .i64 a/\a<=j/\j-a<=k/\f.size=d.size/\wr=putRow encR (Sort.ahead w n) c off f/\siftDown ltInt j first a f=siftDown ltInt j first y d)
 case atStart=>exact⟨y,d,0,rfl,H,d' _,rfl,(putRow_self encR w c off d F).symm,rfl⟩
 case round=>
  obtain⟨a,f,n,rfl,N,M,s,x,o⟩:=hrel;have v:Holds encR wr c off f:=by rw[x];exact holds_putRow encR _ c off d f (holds_ahead encR w n c off d F) s
  have r:∀t,t<d.size->wr.cell? ⟨c,off+t,none⟩=some (.int .i32 f[t]!):=λt K=>(v t (by omega)).1;have q:∀t,t<d.size->wr.frozen? ⟨c,off+t,none⟩=false:=λt K=>(v t (by omega)).2;have A:Aside (wr=putRow encR (Sort.ahead w n) c off f):=x;clear x F v;by_cases h0:j<=2*a+1
  ·
   have G:(j:Int)<=2*(a:Int)+1:=by omega
   go_wp2
   go_end0
   refine⟨rfl,n,?_⟩;rw[A.out,<-o,sd_end ltInt f h0]
  ·
   have G:¬((j:Int)<=2*(a:Int)+1):=by omega
   by_cases E:2*a+2<j
   ·have I:2*(a:Int)+1+1<(j:Int):=by omega
    go_wp2_with fail;go_big_quiet (first|(go_at_call 141;refine jz (aK _ _ _)));go_wp2_with fail
    ·
     have B:ltInt f[first+2*a+1]! f[first+2*a+2]! = true:=by assumption
     revert nq;intro b;have g:∀t,t<d.size->(wr.drewN b).cell? ⟨c,off+t,none⟩=some (.int .i32 f[t]!):=r;have i:∀t,t<d.size->(wr.drewN b).frozen? ⟨c,off+t,none⟩=false:=q;have p:Aside (wr.drewN b=putRow encR (Sort.ahead w (n+b)) c off f):=drewN_world encR A.out b;clear r q A;generalize wr.drewN b=wr2 at g i p⊢;go_big_quiet (first|(go_at_call 141;refine jz (aK _ _ _)));go_wp2_with fail
     ·
      have z:ltInt f[first+a]! f[first+2*a+2]! = false:=by
       have:(!ltInt f[first+a]! f[first+2*a+2]!)=true:=by assumption
       simpa using this
      (try simp only[Exit.inBlock,Exit.then]);refine bodyPost_ret (results_none rfl _ _ _) rfl ?_
      refine⟨rfl,n+b+nq,?_⟩;rw[drewN_world encR p.out nq,<-o,sd_right_stop ltInt f E B z]
     ·
      have C:ltInt f[first+a]! f[first+2*a+2]! = true:=by
       have:(!ltInt f[first+a]! f[first+2*a+2]!)=false:=by assumption
       simpa using this
      have m:∀t,t<d.size->(wr2.drewN nq).cell? ⟨c,off+t,none⟩=some (.int .i32 f[t]!):=g;have l:∀t,t<d.size->(wr2.drewN nq).frozen? ⟨c,off+t,none⟩=false:=i;have u:Aside (wr2.drewN nq=putRow encR (Sort.ahead w (n+b+nq)) c off f):=drewN_world encR p.out nq;clear g i p;generalize wr2.drewN nq=wr3 at m l u⊢;go_region;go_wp2
      go_roundg (j-(2*a+2))
      case measure=>omega
      case rel=>
       refine⟨2*a+2,swp f (first+a) (first+(2*a+1+1)),n+b+nq+1,by simp <;> omega,by omega,d' _,by rw[size_swp];exact s,swap_world encR (by omega) (by omega) u.out rfl rfl,?_⟩;rw[<-o,sd_right_go ltInt f E B C]
    ·
     have B:ltInt f[first+2*a+1]! f[first+2*a+2]! = false:=by assumption
     revert nq;intro b;have g:∀t,t<d.size->(wr.drewN b).cell? ⟨c,off+t,none⟩=some (.int .i32 f[t]!):=r;have i:∀t,t<d.size->(wr.drewN b).frozen? ⟨c,off+t,none⟩=false:=q;have p:Aside (wr.drewN b=putRow encR (Sort.ahead w (n+b)) c off f):=drewN_world encR A.out b;clear r q A;generalize wr.drewN b=wr2 at g i p⊢;go_big_quiet (first|(go_at_call 141;refine jz (aK _ _ _)));go_wp2_with fail
     ·
      have z:ltInt f[first+a]! f[first+2*a+1]! = false:=by
       have:(!ltInt f[first+a]! f[first+2*a+1]!)=true:=by assumption
       simpa using this
      (try simp only[Exit.inBlock,Exit.then]);refine bodyPost_ret (results_none rfl _ _ _) rfl ?_
      refine⟨rfl,n+b+nq,?_⟩;rw[drewN_world encR p.out nq,<-o,sd_left_stop ltInt f (by omega) (λ_=>B) z]
     ·
      have C:ltInt f[first+a]! f[first+2*a+1]! = true:=by
       have:(!ltInt f[first+a]! f[first+2*a+1]!)=false:=by assumption
       simpa using this
      have m:∀t,t<d.size->(wr2.drewN nq).cell? ⟨c,off+t,none⟩=some (.int .i32 f[t]!):=g;have l:∀t,t<d.size->(wr2.drewN nq).frozen? ⟨c,off+t,none⟩=false:=i;have u:Aside (wr2.drewN nq=putRow encR (Sort.ahead w (n+b+nq)) c off f):=drewN_world encR p.out nq;clear g i p;generalize wr2.drewN nq=wr3 at m l u⊢;go_region;go_wp2
      go_roundg (j-(2*a+1))
      case measure=>omega
      case rel=>
       refine⟨2*a+1,swp f (first+a) (first+(2*a+1)),n+b+nq+1,by simp <;> omega,by omega,d' _,by rw[size_swp];exact s,swap_world encR (by omega) (by omega) u.out rfl rfl,?_⟩;rw[<-o,sd_left_go ltInt f (by omega) (λ_=>B) C]
   ·
    have I:decide (2*(a:Int)+1+1<(j:Int))=false:=decide_eq_false (by omega);go_wp2_with fail;go_big_quiet (first|(go_at_call 141;refine jz (aK _ _ _)));go_wp2_with fail;revert nq;intro b;have g:∀t,t<d.size->(wr.drewN b).cell? ⟨c,off+t,none⟩=some (.int .i32 f[t]!):=r;have i:∀t,t<d.size->(wr.drewN b).frozen? ⟨c,off+t,none⟩=false:=q;have p:Aside (wr.drewN b=putRow encR (Sort.ahead w (n+b)) c off f):=drewN_world encR A.out b;clear r q A;generalize wr.drewN b=wr2 at g i p⊢;go_big_quiet (first|(go_at_call 141;refine jz (aK _ _ _)));go_wp2_with fail
    ·
     have z:ltInt f[first+a]! f[first+2*a+1]! = false:=by
      have:(!ltInt f[first+a]! f[first+2*a+1]!)=true:=by assumption
      simpa using this
     (try simp only[Exit.inBlock,Exit.then]);refine bodyPost_ret (results_none rfl _ _ _) rfl ?_
     refine⟨rfl,n+b+nq,?_⟩;rw[drewN_world encR p.out nq,<-o,sd_left_stop ltInt f (by omega) (λh=>absurd h E) z]
    ·
     have C:ltInt f[first+a]! f[first+2*a+1]! = true:=by
      have:(!ltInt f[first+a]! f[first+2*a+1]!)=false:=by assumption
      simpa using this
     have m:∀t,t<d.size->(wr2.drewN nq).cell? ⟨c,off+t,none⟩=some (.int .i32 f[t]!):=g;have l:∀t,t<d.size->(wr2.drewN nq).frozen? ⟨c,off+t,none⟩=false:=i;have u:Aside (wr2.drewN nq=putRow encR (Sort.ahead w (n+b+nq)) c off f):=drewN_world encR p.out nq;clear g i p;generalize wr2.drewN nq=wr3 at m l u⊢;go_region;go_wp2
     go_roundg (j-(2*a+1))
     case measure=>omega
     case rel=>
      refine⟨2*a+1,swp f (first+a) (first+(2*a+1)),n+b+nq+1,by simp <;> omega,by omega,d' _,by rw[size_swp];exact s,swap_world encR (by omega) (by omega) u.out rfl rfl,?_⟩;rw[<-o,sd_left_go ltInt f (by omega) (λh=>absurd h E) C]
def Aa (c off len cap:Nat) (d:Array Int) (D:d.size=len) (a b:Nat) (w:World) (z:Holds encR w c off d) (F:a<=b) (N:b<=d.size) (K:d.size<4611686018427387904) :
 Calls prog 136 #[.slice (some ⟨c,off,none⟩) len cap,.int .i64 a,.int .i64 b] w λe w'=>e=.returned (.tuple #[])/\∃n,w'=putRow encR (Sort.ahead w n) c off (heapSort ltInt d a b):=by
 subst D;have q:((b-a:Nat):Int)=(b:Int)-(a:Int):=by omega
 go_enter func136,ntmps136;go_wp2
 go_loopg [9] ((b-a-1) / 2+1) (λk s9 wr=>s9=.int .i64 ((k:Int)-1)/\k<=(b-a-1) / 2+1/\∃(g:Array Int) (n:Nat),g.size=d.size/\wr=putRow encR (Sort.ahead w n) c off g/\
  heapBuild ltInt (b-a) a k g=heapBuild ltInt (b-a) a ((b-a-1) / 2+1) d)
 case atStart=>exact⟨by rw[half_start F],d' _,d,0,rfl,(putRow_self encR w c off d z).symm,rfl⟩
 case round=>
  obtain⟨rfl,B,g,n,u,y,x⟩:=hrel;have C:Holds encR wr c off g:=by rw[y];exact holds_putRow encR _ c off d g (holds_ahead encR w n c off d z) u
  have A:Aside (wr=putRow encR (Sort.ahead w n) c off g):=y;clear y;cases gk with
  | zero=>
    have I:g=heapBuild ltInt (b-a) a ((b-a-1) / 2+1) d:=x;clear x C B;go_wp2
    go_loopg [10] (b-a) (λk s10 E=>s10=.int .i64 ((k:Int)-1)/\k<=b-a/\∃(l:Array Int) (h:Nat),l.size=d.size/\E=putRow encR (Sort.ahead w h) c off l/\heapPop ltInt a k l=heapPop ltInt a (b-a) g)
    case atStart=>exact⟨by rw[q],d' _,g,n,u,A.out,rfl⟩
    case round=>
     obtain⟨rfl,B,l,h,f,p,o⟩:=hrel;cases gk with
     | zero=>
       go_wp2
       go_end0
       refine⟨rfl,h,?_⟩;have e:l=heapSort ltInt d a b:=by rw[heapSort,<-I,<-o];rfl
       rw[<-e]
     | succ k=>
       have v:Holds encR wr c off l:=by rw[p];exact holds_putRow encR _ c off d l (holds_ahead encR w h c off d z) f
       have:∀t,t<d.size->wr.cell? ⟨c,off+t,none⟩=some (.int .i32 l[t]!):=λt M=>(v t (by omega)).1;have:∀t,t<d.size->wr.frozen? ⟨c,off+t,none⟩=false:=λt M=>(v t (by omega)).2;have H:Aside (wr=putRow encR (Sort.ahead w h) c off l):=p;clear p v;rcases pB k with hk0|hkp
       ·subst hk0;go_wp2_with fail;go_region;go_wp2_with fail;rw[swap_world encR (i:=a) (j:=a) (by omega) (by omega) H.out rfl rfl];refine(jZ c off d.size cap (swp l a (a)) (by rw[size_swp];exact f) 0 0 a _ (holds_putRow encR _ c off d _ (holds_ahead encR w (h+1) c off d z) (by rw[size_swp];exact f)) (ic _) (by rw[size_swp];omega) (by rw[size_swp];omega)).mono ?_;rintro e G⟨rfl,m,s⟩;go_wp2
        go_roundg 0
        case measure=>omega
        case rel=>
         refine⟨by simp,by omega,siftDown ltInt 0 a 0 (swp l a (a)),h+1+m,by rw[size_siftDown ltInt _ _ _ _ _ (d' _),size_swp];exact f,?_,o⟩
         first
          | rw[s,putRow_ahead_putRow encR w (h+1) m c off _ _ (size_siftDown ltInt _ _ _ _ _ (d' _))]
          | rw[putRow_ahead_putRow encR w (h+1) m c off _ _ (size_siftDown ltInt _ _ _ _ _ (d' _))]
       skip
       go_wp2_with fail;go_region;go_wp2_with fail;rw[swap_world encR (i:=a) (j:=a+k) (by omega) (by omega) H.out rfl rfl];refine(jZ c off d.size cap (swp l a (a+k)) (by rw[size_swp];exact f) 0 k a _ (holds_putRow encR _ c off d _ (holds_ahead encR w (h+1) c off d z) (by rw[size_swp];exact f)) (ic _) (by rw[size_swp];omega) (by rw[size_swp];omega)).mono ?_;rintro e G⟨rfl,m,s⟩;go_wp2
       go_roundg k
       case measure=>omega
       case rel=>
        refine⟨by simp,by omega,siftDown ltInt k a 0 (swp l a (a+k)),h+1+m,by rw[size_siftDown ltInt _ _ _ _ _ (d' _),size_swp];exact f,?_,o⟩
        first
         | rw[s,putRow_ahead_putRow encR w (h+1) m c off _ _ (size_siftDown ltInt _ _ _ _ _ (d' _))]
         | rw[putRow_ahead_putRow encR w (h+1) m c off _ _ (size_siftDown ltInt _ _ _ _ _ (d' _))]
  | succ k=>
    have r:=jZ c off d.size cap g u k (b-a) a wr C (by omega) (by omega) (by omega);rw[q] at r;go_wp2_with (go_at_call 173;refine r.mono ?_;rintro e G⟨rfl,m,s⟩)
    go_roundg k
    case measure=>omega
    case rel=>
     refine⟨by simp,by omega,siftDown ltInt (b-a) a k g,n+m,by rw[size_siftDown ltInt _ _ _ _ _ (d' _)];exact u,?_,x⟩;rw[A.out,putRow_ahead_putRow encR w n m c off g _ (size_siftDown ltInt _ _ _ _ _ (d' _))]
def qm (f off cap a b c:Nat) (d:Array Int) (w:World) (R:Holds (Value.int .i32) w f off d) (ag:a<=c) (ad:c<b) (hb:b<=d.size) (ah:d.size<4611686018427387904) :
 Calls prog 142 #[.slice (some ⟨f,off,none⟩) d.size cap,.int .i64 a,.int .i64 b,.int .i64 c] w λe w'=>
  e=.returned (.int .i64 (Sort.partitionEqual Sort.ltInt d a b c).1)/\∃n,w'=(putRow (Value.int .i32) w f off (Sort.partitionEqual Sort.ltInt d a b c).2).drewN n:=by
 have L:a<d.size:=by omega
 have N:c<d.size:=by omega
 obtain⟨G,I⟩:∃G:Nat->Int,∀j,G j=d[j]!:=⟨λj=>d[j]!,λ_=>rfl⟩;have ca:w.cell? ⟨f,off+a,none⟩=some (.int .i32 (G a)):=by rw[I];exact(R a L).1
 have fa:=(R a L).2;have cp:w.cell? ⟨f,off+c,none⟩=some (.int .i32 (G c)):=by rw[I];exact(R c N).1
 have fp:=(R c N).2;obtain⟨v',Z⟩:=cell?_setCell_some (w:=w) (p:=⟨f,off+a,none⟩) (x:=.int .i32 (G c)) (q:=⟨f,off+c,none⟩) cp;have z:Hid (∀j,G j=d[j]!):=I;have AH:Hid (Holds (Value.int .i32) w f off d):=R;clear I R;go_enter func142,ntmps142;go_wp2;go_region;go_wp2
 go_loopw [9,10] (λM E wr=>∃(i j n:Nat) (g:Array Int),M=.int .i64 i/\E=.int .i64 j/\a<i/\i<=j+1/\j<b/\g.size=d.size/\wr=(putRow (Value.int .i32) w f off g).drewN n/\
  Sort.partEqLoop Sort.ltInt a i j g=Sort.partEqLoop Sort.ltInt a (a+1) (b-1) (Sort.swp d a c))
  (λM E _=>(intOf E).toNat+1-(intOf M).toNat)
 case atStart=>
  refine⟨a+1,b-1,1,Sort.swp d a c,by go_num,by go_num,by omega,by omega,by omega,size_swp _ _ _,?_,rfl⟩;have e:=swap_worldC (Value.int .i32) w f off d 0 a c L N;rw[putRow_self _ w f off d AH.out] at e;rw[z.out a,z.out c];exact e
 case round=>
  obtain⟨i,j,n,g,rfl,rfl,ai,aa,af,hs,hw,U⟩:=hrel;clear ca fa cp fp Z v' z;rename World=>W1;have O:Holds (Value.int .i32) W1 f off g:=by
   rw[hw];exact holds_putRow (Value.int .i32) w f off d g AH.out hs
  obtain⟨r,I⟩:∃r:Nat->Int,∀t,r t=g[t]!:=⟨λt=>g[t]!,λ_=>rfl⟩;have S:∀t,t<d.size->W1.cell? ⟨f,off+t,none⟩=some (.int .i32 (r t)):=λt m=>by rw[I];exact(O t (by omega)).1
  have hf:∀t,t<d.size->W1.frozen? ⟨f,off+t,none⟩=false:=λt m=>(O t (by omega)).2;have z:Hid (∀t,r t=g[t]!):=I;have AW:Hid (W1=(putRow (Value.int .i32) w f off g).drewN n):=hw;have W:Hid (Sort.partEqLoop Sort.ltInt a i j g=Sort.partEqLoop Sort.ltInt a (a+1) (b-1) (Sort.swp d a c)):=U;clear I hw U O;go_wp2
  go_loopw [9] (λM w1=>∃(h K:Nat),M=.int .i64 h/\i<=h/\h<=j+1/\w1=W1.drewN K/\
   Hid (Sort.scanUp (λx=>!Sort.ltInt g[a]! x) g j h=Sort.scanUp (λx=>!Sort.ltInt g[a]! x) g j i))
   (λM _=>j+1-(intOf M).toNat)
  case atStart=>exact⟨i,0,rfl,d' _,aa,rfl,rfl⟩
  case round=>
   obtain⟨h,K,rfl,ae,J,P,C⟩:=hrel;have y:∀t,t<d.size->wr.cell? ⟨f,off+t,none⟩=some (.int .i32 (r t)):=λt m=>by rw[P];exact S t m
   have H:Hid (wr=W1.drewN K):=P;clear P;by_cases V:h<=j
   ·go_wp2_with fail;go_big_quiet (first|(go_at_call 141;refine jz (aK _ _ _)));go_wp2
    ·
     have m:(!Sort.ltInt (r a) (r h))=true:=by assumption
     go_roundw
     case rel=>exact⟨h+1,K+nq,by go_num,by omega,by omega,by rw[H.out,j9],(scanUp_go (λx=>!Sort.ltInt g[a]! x) g j h V (by rw[<-z.out a,<-z.out h];exact m)).symm.trans C.out⟩
     case measure=>simp[intOf];omega
    ·
     have m:(!Sort.ltInt (r a) (r h))=false:=by assumption
     have B:Hid (h=Sort.scanUp (λx=>!Sort.ltInt g[a]! x) g j i):=(scanUp_end (λx=>!Sort.ltInt g[a]! x) g j h (Or.inr (by rw[<-z.out a,<-z.out h];exact m))).symm.trans C.out;clear m;have o:wr.drewN nq=W1.drewN (K+nq):=by rw[H.out,j9]
     clear y H C
     go_loopw [10] (λE Y=>∃(l u:Nat),E=.int .i64 l/\l<=j/\h<=l+1/\Y=W1.drewN u/\
      Hid (Sort.scanDown (λx=>Sort.ltInt g[a]! x) g h l=Sort.scanDown (λx=>Sort.ltInt g[a]! x) g h j))
      (λE _=>(intOf E).toNat)
     case atStart=>exact⟨j,K+nq,rfl,d' _,J,o,rfl⟩
     case round=>
      clear o;obtain⟨l,u,rfl,ab,X,o,v⟩:=hrel;have y:∀t,t<d.size->wr.cell? ⟨f,off+t,none⟩=some (.int .i32 (r t)):=λt m=>by rw[o];exact S t m
      have F:Hid (wr=W1.drewN u):=o;clear o;by_cases s:h<=l
      ·go_wp2_with fail;go_big_quiet (first|(go_at_call 141;refine jz (aK _ _ _)));go_wp2
       ·
        have m:Sort.ltInt (r a) (r l)=true:=by assumption
        go_roundw
        case rel=>exact⟨l-1,u+nq,by go_num,by omega,by omega,by rw[F.out,j9],(scanDown_go (λx=>Sort.ltInt g[a]! x) g h l s (by omega) (by rw[<-z.out a,<-z.out l];exact m)).symm.trans v.out⟩
        case measure=>simp[intOf];omega
       ·
        have m:Sort.ltInt (r a) (r l)=false:=by assumption
        have A:Hid (l=Sort.scanDown (λx=>Sort.ltInt g[a]! x) g h j):=(scanDown_end (λx=>Sort.ltInt g[a]! x) g h l (Or.inr (by rw[<-z.out a,<-z.out l];exact m))).symm.trans v.out;clear y v m;have k:wr.drewN nq=W1.drewN (u+nq):=by rw[F.out,j9]
        generalize wr.drewN nq=W3 at k⊢;have Q:∀t,t<d.size->W3.cell? ⟨f,off+t,none⟩=some (.int .i32 (r t)):=λt m=>by rw[k];exact S t m
        have T:∀t,t<d.size->W3.frozen? ⟨f,off+t,none⟩=false:=λt m=>by rw[k];exact hf t m
        have D:Hid (W3=W1.drewN (u+nq)):=k;clear k;obtain⟨v3,aj⟩:=cell?_setCell_some (w:=W3) (p:=⟨f,off+h,none⟩) (x:=.int .i32 (r l)) (q:=⟨f,off+l,none⟩) (Q l (by omega));have:=scans_lt Sort.ltInt a i j g (by omega) B.out A.out s;go_wp2;go_region
        all_goals go_wp2
        all_goals go_roundw
        case rel=>
         refine⟨h+1,l-1,n+(u+nq)+1,Sort.swp g h l,by go_num,by go_num,by omega,by omega,by omega,by rw[size_swp];exact hs,?_,?_⟩
         ·rw[D.out,AW.out,j9,z.out h,z.out l];exact swap_worldC (Value.int .i32) w f off g _ h l (by omega) (by omega)
         rw[<-W.out];exact(partEq_go Sort.ltInt a i j g B.out A.out (by omega)).symm
        case measure=>simp[intOf];omega
      go_wp2_with fail;go_big_quiet (first|(go_at_call 141;refine jz (aK _ _ _)));have A:Hid (l=Sort.scanDown (λx=>Sort.ltInt g[a]! x) g h j):=(scanDown_end (λx=>Sort.ltInt g[a]! x) g h l (Or.inl s)).symm.trans v.out;clear y v;have k:wr.drewN nq=W1.drewN (u+nq):=by rw[F.out,j9]
      generalize wr.drewN nq=W3 at k⊢;have Q:∀t,t<d.size->W3.cell? ⟨f,off+t,none⟩=some (.int .i32 (r t)):=λt m=>by rw[k];exact S t m
      have T:∀t,t<d.size->W3.frozen? ⟨f,off+t,none⟩=false:=λt m=>by rw[k];exact hf t m
      have D:Hid (W3=W1.drewN (u+nq)):=k;clear k;go_wp2;go_ret;have e:=partEq_break Sort.ltInt a i j g B.out A.out (by omega);refine⟨?_,n+(u+nq),?_⟩
      ·unfold Sort.partitionEqual;rw[<-W.out,e];rfl
      unfold Sort.partitionEqual;rw[<-W.out,e,D.out,AW.out,j9]
   go_wp2_with fail;go_big_quiet (first|(go_at_call 141;refine jz (aK _ _ _)));go_wp2;have B:Hid (h=Sort.scanUp (λx=>!Sort.ltInt g[a]! x) g j i):=(scanUp_end (λx=>!Sort.ltInt g[a]! x) g j h (Or.inl V)).symm.trans C.out;have o:wr.drewN nq=W1.drewN (K+nq):=by rw[H.out,j9]
   clear y H C
   go_loopw [10] (λE Y=>∃(l u:Nat),E=.int .i64 l/\l<=j/\h<=l+1/\Y=W1.drewN u/\
    Hid (Sort.scanDown (λx=>Sort.ltInt g[a]! x) g h l=Sort.scanDown (λx=>Sort.ltInt g[a]! x) g h j))
    (λE _=>(intOf E).toNat)
   case atStart=>exact⟨j,K+nq,rfl,d' _,J,o,rfl⟩
   case round=>
    clear o;obtain⟨l,u,rfl,ab,X,o,v⟩:=hrel;have y:∀t,t<d.size->wr.cell? ⟨f,off+t,none⟩=some (.int .i32 (r t)):=λt m=>by rw[o];exact S t m
    have F:Hid (wr=W1.drewN u):=o;clear o;by_cases s:h<=l
    ·exfalso;omega
    go_wp2_with fail;go_big_quiet (first|(go_at_call 141;refine jz (aK _ _ _)));have A:Hid (l=Sort.scanDown (λx=>Sort.ltInt g[a]! x) g h j):=(scanDown_end (λx=>Sort.ltInt g[a]! x) g h l (Or.inl s)).symm.trans v.out;clear y v;have k:wr.drewN nq=W1.drewN (u+nq):=by rw[F.out,j9]
    generalize wr.drewN nq=W3 at k⊢;have Q:∀t,t<d.size->W3.cell? ⟨f,off+t,none⟩=some (.int .i32 (r t)):=λt m=>by rw[k];exact S t m
    have T:∀t,t<d.size->W3.frozen? ⟨f,off+t,none⟩=false:=λt m=>by rw[k];exact hf t m
    have D:Hid (W3=W1.drewN (u+nq)):=k;clear k;go_wp2;go_ret;have e:=partEq_break Sort.ltInt a i j g B.out A.out (by omega);refine⟨?_,n+(u+nq),?_⟩
    ·unfold Sort.partitionEqual;rw[<-W.out,e];rfl
    unfold Sort.partitionEqual;rw[<-W.out,e,D.out,AW.out,j9]
def j4 (f off cap a b c:Nat) (d:Array Int) (w:World) (l:Holds (Value.int .i32) w f off d) (h:a<=c) (g:c<b) (m:b<=d.size) (i:d.size<4611686018427387904) :
 Calls prog 142 #[.slice (some ⟨f,off,none⟩) d.size cap,.int .i64 a,.int .i64 b,.int .i64 c] w λe w'=>
  e=.returned (.int .i64 (Sort.partitionEqual Sort.ltInt d a b c).1)/\∃n,w'=putRow (Value.int .i32) (Sort.ahead w n) f off (Sort.partitionEqual Sort.ltInt d a b c).2:=
 (qm f off cap a b c d w l h g m i).mono λ_ _ ⟨k,n,j⟩=>⟨k,n,j⟩
def xM (c off cap a b f:Nat) (d:Array Int) (w:World) (Z:Holds (Value.int .i32) w c off d) (ap:a<=f) (ao:f<b) (hb:b<=d.size) (aq:d.size<4611686018427387904) :
 Calls prog 143 #[.slice (some ⟨c,off,none⟩) d.size cap,.int .i64 a,.int .i64 b,.int .i64 f] w λe w'=>
  e=.returned (.tuple #[.int .i64 (Sort.partition Sort.ltInt d a b f).1,.bool (Sort.partition Sort.ltInt d a b f).2.1])/\∃n,w'=(putRow (Value.int .i32) w c off (Sort.partition Sort.ltInt d a b f).2.2).drewN n:=by
 have Y:a<d.size:=by omega
 have ab:f<d.size:=by omega
 obtain⟨G,P⟩:∃G:Nat->Int,∀j,G j=d[j]!:=⟨λj=>d[j]!,λ_=>rfl⟩;have ca:w.cell? ⟨c,off+a,none⟩=some (.int .i32 (G a)):=by rw[P];exact(Z a Y).1
 have fa:=(Z a Y).2;have cp:w.cell? ⟨c,off+f,none⟩=some (.int .i32 (G f)):=by rw[P];exact(Z f ab).1
 have fp:=(Z f ab).2;obtain⟨v',am⟩:=cell?_setCell_some (w:=w) (p:=⟨c,off+a,none⟩) (x:=.int .i32 (G f)) (q:=⟨c,off+f,none⟩) cp;have S:((w.setCell ⟨c,off+a,none⟩ (.int .i32 (G f))).setCell ⟨c,off+f,none⟩ (.int .i32 (G a))).drew=(putRow (Value.int .i32) w c off (Sort.swp d a f)).drewN 1:=by
  have e:=swap_worldC (Value.int .i32) w c off d 0 a f Y ab;rw[putRow_self _ w c off d Z] at e;rw[P a,P f];exact e
 have AH:Hid (Holds (Value.int .i32) w c off d):=Z;have ai:=Hid.mk' S;clear P Z S;go_enter func143,ntmps143;go_wp2;go_region;go_wp2;clear ca fa cp fp am v';have S:=ai.out;clear ai;generalize ((w.setCell ⟨c,off+a,none⟩ (.int .i32 (G f))).setCell ⟨c,off+f,none⟩ (.int .i32 (G a))).drew=W1 at S⊢;obtain⟨g,W⟩:=ae (Sort.swp d a f);obtain⟨n,hn⟩:∃n:Nat,n=1:=⟨_,rfl⟩;rw[<-W,<-hn] at S;clear hn;have hs:g.size=d.size:=by rw[W,size_swp]
 have e1:((a:Int)+1)=((a+1:Nat):Int):=by omega
 have e2:((b:Int)-1)=((b-1:Nat):Int):=by omega
 rw[e1,e2];clear e1 e2;obtain⟨i,hi⟩:=ae (a+1);obtain⟨j,hj⟩:=ae (b-1);rw[<-hi,<-hj];have an:a<i:=by omega
 have ac:i<=j+1:=by omega
 have al:j<b:=by omega
 have HI:=Hid.mk' hi;have HJ:=Hid.mk' hj;have aa:=Hid.mk' W;clear hi hj W;have L:Holds (Value.int .i32) W1 c off g:=by
  rw[S];exact holds_putRow (Value.int .i32) w c off d g AH.out hs
 obtain⟨r,P⟩:∃r:Nat->Int,∀t,r t=g[t]!:=⟨λt=>g[t]!,λ_=>rfl⟩;have N:∀t,t<d.size->W1.cell? ⟨c,off+t,none⟩=some (.int .i32 (r t)):=λt m=>by rw[P];exact(L t (by omega)).1
 have hf:∀t,t<d.size->W1.frozen? ⟨c,off+t,none⟩=false:=λt m=>(L t (by omega)).2;have z:Hid (∀t,r t=g[t]!):=P;have X:Hid (W1=(putRow (Value.int .i32) w c off g).drewN n):=S;clear P S L
 go_loopw [10] (λT w1=>∃(k K:Nat),T=.int .i64 k/\i<=k/\k<=j+1/\w1=W1.drewN K/\
  Hid (Sort.scanUp (λx=>Sort.ltInt x g[a]!) g j k=Sort.scanUp (λx=>Sort.ltInt x g[a]!) g j i))
  (λT _=>j+1-(intOf T).toNat)
 case atStart=>exact⟨i,0,rfl,d' _,ac,rfl,rfl⟩
 case round=>
  obtain⟨k,K,rfl,ak,J,M,E⟩:=hrel;have y:∀t,t<d.size->wr.cell? ⟨c,off+t,none⟩=some (.int .i32 (r t)):=λt m=>by rw[M];exact N t m
  have H:Hid (wr=W1.drewN K):=M;clear M;by_cases U:k<=j
  ·go_wp2_with fail;go_big_quiet (first|(go_at_call 141;refine jz (aK _ _ _)));go_wp2
   ·
    have m:Sort.ltInt (r k) (r a)=true:=by assumption
    go_roundw
    case rel=>exact⟨k+1,K+nq,by go_num,by omega,by omega,by rw[H.out,j9],(scanUp_go (λx=>Sort.ltInt x g[a]!) g j k U (by rw[<-z.out a,<-z.out k];exact m)).symm.trans E.out⟩
    case measure=>simp[intOf];omega
   ·
    have m:Sort.ltInt (r k) (r a)=false:=by assumption
    have B:Hid (k=Sort.scanUp (λx=>Sort.ltInt x g[a]!) g j i):=(scanUp_end (λx=>Sort.ltInt x g[a]!) g j k (Or.inr (by rw[<-z.out a,<-z.out k];exact m))).symm.trans E.out;clear m;have o:wr.drewN nq=W1.drewN (K+nq):=by rw[H.out,j9]
    clear y H E
    go_loopw [11] (λI w2=>∃(h u:Nat),I=.int .i64 h/\h<=j/\k<=h+1/\w2=W1.drewN u/\
     Hid (Sort.scanDown (λx=>!Sort.ltInt x g[a]!) g k h=Sort.scanDown (λx=>!Sort.ltInt x g[a]!) g k j))
     (λI _=>(intOf I).toNat)
    case atStart=>exact⟨j,K+nq,rfl,d' _,J,o,rfl⟩
    case round=>
     clear o;obtain⟨h,u,rfl,ad,V,o,v⟩:=hrel;have y:∀t,t<d.size->wr.cell? ⟨c,off+t,none⟩=some (.int .i32 (r t)):=λt m=>by rw[o];exact N t m
     have F:Hid (wr=W1.drewN u):=o;clear o;by_cases s:k<=h
     ·go_wp2_with fail;go_big_quiet (first|(go_at_call 141;refine jz (aK _ _ _)));go_wp2
      ·
       have m:(!Sort.ltInt (r h) (r a))=true:=by assumption
       go_roundw
       case rel=>exact⟨h-1,u+nq,by go_num,by omega,by omega,by rw[F.out,j9],(scanDown_go (λx=>!Sort.ltInt x g[a]!) g k h s (by omega) (by rw[<-z.out a,<-z.out h];exact m)).symm.trans v.out⟩
       case measure=>simp[intOf];omega
      ·
       have m:(!Sort.ltInt (r h) (r a))=false:=by assumption
       have A:Hid (h=Sort.scanDown (λx=>!Sort.ltInt x g[a]!) g k j):=(scanDown_end (λx=>!Sort.ltInt x g[a]!) g k h (Or.inr (by rw[<-z.out a,<-z.out h];exact m))).symm.trans v.out;clear y v m;have l:wr.drewN nq=W1.drewN (u+nq):=by rw[F.out,j9]
       generalize wr.drewN nq=W3 at l⊢;have D:∀t,t<d.size->W3.cell? ⟨c,off+t,none⟩=some (.int .i32 (r t)):=λt m=>by rw[l];exact N t m
       have O:∀t,t<d.size->W3.frozen? ⟨c,off+t,none⟩=false:=λt m=>by rw[l];exact hf t m
       have C:Hid (W3=W1.drewN (u+nq)):=l;clear l;obtain⟨v3,Q⟩:=cell?_setCell_some (w:=W3) (p:=⟨c,off+k,none⟩) (x:=.int .i32 (r h)) (q:=⟨c,off+h,none⟩) (D h (by omega));have aj:=part_scans_lt Sort.ltInt a i j g (by omega) B.out A.out s;go_wp2;go_region
       all_goals go_wp2
       obtain⟨R,hR⟩:=ae (Sort.partLoop Sort.ltInt a (k+1) (h-1) (Sort.swp g k h));have HP:Hid (Sort.partition Sort.ltInt d a b f=(R.1,false,Sort.swp R.2 R.1 a)):=by rw[hR];exact part_first_go Sort.ltInt d a b f HI.out HJ.out aa.out B.out A.out (by omega)
       have ag:((W3.setCell ⟨c,off+k,none⟩ (.int .i32 (r h))).setCell ⟨c,off+h,none⟩ (.int .i32 (r k))).drew=(putRow (Value.int .i32) w c off (Sort.swp g k h)).drewN (n+(u+nq)+1):=by
        rw[C.out,X.out,j9,z.out k,z.out h];exact swap_worldC (Value.int .i32) w c off g _ k h (by omega) (by omega)
       have HR:Hid (R=Sort.partLoop Sort.ltInt a (k+1) (h-1) (Sort.swp g k h)):=hR;clear hR N hf D O Q C X z B A
       go_loopw [10,11] (λT I wr=>∃(i j n:Nat) (g:Array Int),T=.int .i64 i/\I=.int .i64 j/\a<i/\i<=j+1/\j<b/\g.size=d.size/\wr=(putRow (Value.int .i32) w c off g).drewN n/\
        Sort.partLoop Sort.ltInt a i j g=R)
        (λT I _=>(intOf I).toNat+1-(intOf T).toNat)
       case atStart=>exact⟨k+1,h-1,_,Sort.swp g k h,by go_num,by go_num,by omega,by omega,by omega,by rw[size_swp];exact hs,ag,HR.out.symm⟩
       case round=>
        clear ag HR;obtain⟨i,j,n,g,rfl,rfl,an,ac,al,hs,S,ah⟩:=hrel;rename World=>W1;have AE:Hid (Sort.partLoop Sort.ltInt a i j g=R):=ah;clear ah;have L:Holds (Value.int .i32) W1 c off g:=by
         rw[S];exact holds_putRow (Value.int .i32) w c off d g AH.out hs
        obtain⟨r,P⟩:∃r:Nat->Int,∀t,r t=g[t]!:=⟨λt=>g[t]!,λ_=>rfl⟩;have N:∀t,t<d.size->W1.cell? ⟨c,off+t,none⟩=some (.int .i32 (r t)):=λt m=>by rw[P];exact(L t (by omega)).1
        have hf:∀t,t<d.size->W1.frozen? ⟨c,off+t,none⟩=false:=λt m=>(L t (by omega)).2;have z:Hid (∀t,r t=g[t]!):=P;have X:Hid (W1=(putRow (Value.int .i32) w c off g).drewN n):=S;clear P S L;go_wp2
        go_loopw [10] (λT w1=>∃(k K:Nat),T=.int .i64 k/\i<=k/\k<=j+1/\w1=W1.drewN K/\
         Hid (Sort.scanUp (λx=>Sort.ltInt x g[a]!) g j k=Sort.scanUp (λx=>Sort.ltInt x g[a]!) g j i))
         (λT _=>j+1-(intOf T).toNat)
        case atStart=>exact⟨i,0,rfl,d' _,ac,rfl,rfl⟩
        case round=>
         obtain⟨k,K,rfl,ak,J,M,E⟩:=hrel;have y:∀t,t<d.size->wr.cell? ⟨c,off+t,none⟩=some (.int .i32 (r t)):=λt m=>by rw[M];exact N t m
         have H:Hid (wr=W1.drewN K):=M;clear M;by_cases U:k<=j
         ·go_wp2_with fail;go_big_quiet (first|(go_at_call 141;refine jz (aK _ _ _)));go_wp2
          ·
           have m:Sort.ltInt (r k) (r a)=true:=by assumption
           go_roundw
           case rel=>exact⟨k+1,K+nq,by go_num,by omega,by omega,by rw[H.out,j9],(scanUp_go (λx=>Sort.ltInt x g[a]!) g j k U (by rw[<-z.out a,<-z.out k];exact m)).symm.trans E.out⟩
           case measure=>simp[intOf];omega
          ·
           have m:Sort.ltInt (r k) (r a)=false:=by assumption
           have B:Hid (k=Sort.scanUp (λx=>Sort.ltInt x g[a]!) g j i):=(scanUp_end (λx=>Sort.ltInt x g[a]!) g j k (Or.inr (by rw[<-z.out a,<-z.out k];exact m))).symm.trans E.out;clear m;have o:wr.drewN nq=W1.drewN (K+nq):=by rw[H.out,j9]
           clear y H E
           go_loopw [11] (λI w2=>∃(h u:Nat),I=.int .i64 h/\h<=j/\k<=h+1/\w2=W1.drewN u/\
            Hid (Sort.scanDown (λx=>!Sort.ltInt x g[a]!) g k h=Sort.scanDown (λx=>!Sort.ltInt x g[a]!) g k j))
            (λI _=>(intOf I).toNat)
           case atStart=>exact⟨j,K+nq,rfl,d' _,J,o,rfl⟩
           case round=>
            clear o;obtain⟨h,u,rfl,ad,V,o,v⟩:=hrel;have y:∀t,t<d.size->wr.cell? ⟨c,off+t,none⟩=some (.int .i32 (r t)):=λt m=>by rw[o];exact N t m
            have F:Hid (wr=W1.drewN u):=o;clear o;by_cases s:k<=h
            ·go_wp2_with fail;go_big_quiet (first|(go_at_call 141;refine jz (aK _ _ _)));go_wp2
             ·
              have m:(!Sort.ltInt (r h) (r a))=true:=by assumption
              go_roundw
              case rel=>exact⟨h-1,u+nq,by go_num,by omega,by omega,by rw[F.out,j9],(scanDown_go (λx=>!Sort.ltInt x g[a]!) g k h s (by omega) (by rw[<-z.out a,<-z.out h];exact m)).symm.trans v.out⟩
              case measure=>simp[intOf];omega
             ·
              have m:(!Sort.ltInt (r h) (r a))=false:=by assumption
              have A:Hid (h=Sort.scanDown (λx=>!Sort.ltInt x g[a]!) g k j):=(scanDown_end (λx=>!Sort.ltInt x g[a]!) g k h (Or.inr (by rw[<-z.out a,<-z.out h];exact m))).symm.trans v.out;clear y v m;have l:wr.drewN nq=W1.drewN (u+nq):=by rw[F.out,j9]
              generalize wr.drewN nq=W3 at l⊢;have D:∀t,t<d.size->W3.cell? ⟨c,off+t,none⟩=some (.int .i32 (r t)):=λt m=>by rw[l];exact N t m
              have O:∀t,t<d.size->W3.frozen? ⟨c,off+t,none⟩=false:=λt m=>by rw[l];exact hf t m
              have C:Hid (W3=W1.drewN (u+nq)):=l;clear l;obtain⟨v3,Q⟩:=cell?_setCell_some (w:=W3) (p:=⟨c,off+k,none⟩) (x:=.int .i32 (r h)) (q:=⟨c,off+h,none⟩) (D h (by omega));have aj:=part_scans_lt Sort.ltInt a i j g (by omega) B.out A.out s;go_wp2;go_region
              all_goals go_wp2
              all_goals go_roundw
              case rel=>
               refine⟨k+1,h-1,n+(u+nq)+1,Sort.swp g k h,by go_num,by go_num,by omega,by omega,by omega,by rw[size_swp];exact hs,?_,?_⟩
               ·rw[C.out,X.out,j9,z.out k,z.out h];exact swap_worldC (Value.int .i32) w c off g _ k h (by omega) (by omega)
               exact(part_go Sort.ltInt a i j g B.out A.out (by omega)).symm.trans AE.out
              case measure=>simp[intOf];omega
            go_wp2_with fail;go_big_quiet (first|(go_at_call 141;refine jz (aK _ _ _)));have A:Hid (h=Sort.scanDown (λx=>!Sort.ltInt x g[a]!) g k j):=(scanDown_end (λx=>!Sort.ltInt x g[a]!) g k h (Or.inl s)).symm.trans v.out;clear y v;have l:wr.drewN nq=W1.drewN (u+nq):=by rw[F.out,j9]
            generalize wr.drewN nq=W3 at l⊢;have D:∀t,t<d.size->W3.cell? ⟨c,off+t,none⟩=some (.int .i32 (r t)):=λt m=>by rw[l];exact N t m
            have O:∀t,t<d.size->W3.frozen? ⟨c,off+t,none⟩=false:=λt m=>by rw[l];exact hf t m
            have C:Hid (W3=W1.drewN (u+nq)):=l;clear l;obtain⟨v3,Q⟩:=cell?_setCell_some (w:=W3) (p:=⟨c,off+h,none⟩) (x:=.int .i32 (r a)) (q:=⟨c,off+a,none⟩) (D a (by omega));have af:h<d.size:=by omega
            go_wp2;go_region
            all_goals go_wp2
            all_goals go_ret2
            have e:Sort.partition Sort.ltInt d a b f=(h,false,Sort.swp g h a):=by
             have e0:=(part_break Sort.ltInt a i j g B.out A.out (by omega)).symm.trans AE.out;rw[HP.out,<-e0]
            refine⟨?_,n+(u+nq)+1,?_⟩
            ·rw[e];rfl
            rw[e,C.out,X.out,j9,z.out a,z.out h];exact swap_worldC (Value.int .i32) w c off g _ h a (by omega) (by omega)
         go_wp2_with fail;go_big_quiet (first|(go_at_call 141;refine jz (aK _ _ _)));go_wp2;have B:Hid (k=Sort.scanUp (λx=>Sort.ltInt x g[a]!) g j i):=(scanUp_end (λx=>Sort.ltInt x g[a]!) g j k (Or.inl U)).symm.trans E.out;have o:wr.drewN nq=W1.drewN (K+nq):=by rw[H.out,j9]
         clear y H E
         go_loopw [11] (λI w2=>∃(h u:Nat),I=.int .i64 h/\h<=j/\k<=h+1/\w2=W1.drewN u/\
          Hid (Sort.scanDown (λx=>!Sort.ltInt x g[a]!) g k h=Sort.scanDown (λx=>!Sort.ltInt x g[a]!) g k j))
          (λI _=>(intOf I).toNat)
         case atStart=>exact⟨j,K+nq,rfl,d' _,J,o,rfl⟩
         case round=>
          clear o;obtain⟨h,u,rfl,ad,V,o,v⟩:=hrel;have y:∀t,t<d.size->wr.cell? ⟨c,off+t,none⟩=some (.int .i32 (r t)):=λt m=>by rw[o];exact N t m
          have F:Hid (wr=W1.drewN u):=o;clear o;by_cases s:k<=h
          ·exfalso;omega
          go_wp2_with fail;go_big_quiet (first|(go_at_call 141;refine jz (aK _ _ _)));have A:Hid (h=Sort.scanDown (λx=>!Sort.ltInt x g[a]!) g k j):=(scanDown_end (λx=>!Sort.ltInt x g[a]!) g k h (Or.inl s)).symm.trans v.out;clear y v;have l:wr.drewN nq=W1.drewN (u+nq):=by rw[F.out,j9]
          generalize wr.drewN nq=W3 at l⊢;have D:∀t,t<d.size->W3.cell? ⟨c,off+t,none⟩=some (.int .i32 (r t)):=λt m=>by rw[l];exact N t m
          have O:∀t,t<d.size->W3.frozen? ⟨c,off+t,none⟩=false:=λt m=>by rw[l];exact hf t m
          have C:Hid (W3=W1.drewN (u+nq)):=l;clear l;obtain⟨v3,Q⟩:=cell?_setCell_some (w:=W3) (p:=⟨c,off+h,none⟩) (x:=.int .i32 (r a)) (q:=⟨c,off+a,none⟩) (D a (by omega));have af:h<d.size:=by omega
          go_wp2;go_region
          all_goals go_wp2
          all_goals go_ret2
          have e:Sort.partition Sort.ltInt d a b f=(h,false,Sort.swp g h a):=by
           have e0:=(part_break Sort.ltInt a i j g B.out A.out (by omega)).symm.trans AE.out;rw[HP.out,<-e0]
          refine⟨?_,n+(u+nq)+1,?_⟩
          ·rw[e];rfl
          rw[e,C.out,X.out,j9,z.out a,z.out h];exact swap_worldC (Value.int .i32) w c off g _ h a (by omega) (by omega)
     go_wp2_with fail;go_big_quiet (first|(go_at_call 141;refine jz (aK _ _ _)));have A:Hid (h=Sort.scanDown (λx=>!Sort.ltInt x g[a]!) g k j):=(scanDown_end (λx=>!Sort.ltInt x g[a]!) g k h (Or.inl s)).symm.trans v.out;clear y v;have l:wr.drewN nq=W1.drewN (u+nq):=by rw[F.out,j9]
     generalize wr.drewN nq=W3 at l⊢;have D:∀t,t<d.size->W3.cell? ⟨c,off+t,none⟩=some (.int .i32 (r t)):=λt m=>by rw[l];exact N t m
     have O:∀t,t<d.size->W3.frozen? ⟨c,off+t,none⟩=false:=λt m=>by rw[l];exact hf t m
     have C:Hid (W3=W1.drewN (u+nq)):=l;clear l;obtain⟨v3,Q⟩:=cell?_setCell_some (w:=W3) (p:=⟨c,off+h,none⟩) (x:=.int .i32 (r a)) (q:=⟨c,off+a,none⟩) (D a (by omega));have af:h<d.size:=by omega
     go_wp2;go_region
     all_goals go_wp2
     all_goals go_ret2
     have e:Sort.partition Sort.ltInt d a b f=(h,true,Sort.swp g h a):=part_first_break Sort.ltInt d a b f HI.out HJ.out aa.out B.out A.out (by omega);refine⟨?_,n+(u+nq)+1,?_⟩
     ·rw[e];rfl
     rw[e,C.out,X.out,j9,z.out a,z.out h];exact swap_worldC (Value.int .i32) w c off g _ h a (by omega) (by omega)
  go_wp2_with fail;go_big_quiet (first|(go_at_call 141;refine jz (aK _ _ _)));go_wp2;have B:Hid (k=Sort.scanUp (λx=>Sort.ltInt x g[a]!) g j i):=(scanUp_end (λx=>Sort.ltInt x g[a]!) g j k (Or.inl U)).symm.trans E.out;have o:wr.drewN nq=W1.drewN (K+nq):=by rw[H.out,j9]
  clear y H E
  go_loopw [11] (λI w2=>∃(h u:Nat),I=.int .i64 h/\h<=j/\k<=h+1/\w2=W1.drewN u/\
   Hid (Sort.scanDown (λx=>!Sort.ltInt x g[a]!) g k h=Sort.scanDown (λx=>!Sort.ltInt x g[a]!) g k j))
   (λI _=>(intOf I).toNat)
  case atStart=>exact⟨j,K+nq,rfl,d' _,J,o,rfl⟩
  case round=>
   clear o;obtain⟨h,u,rfl,ad,V,o,v⟩:=hrel;have y:∀t,t<d.size->wr.cell? ⟨c,off+t,none⟩=some (.int .i32 (r t)):=λt m=>by rw[o];exact N t m
   have F:Hid (wr=W1.drewN u):=o;clear o;by_cases s:k<=h
   ·exfalso;omega
   go_wp2_with fail;go_big_quiet (first|(go_at_call 141;refine jz (aK _ _ _)));have A:Hid (h=Sort.scanDown (λx=>!Sort.ltInt x g[a]!) g k j):=(scanDown_end (λx=>!Sort.ltInt x g[a]!) g k h (Or.inl s)).symm.trans v.out;clear y v;have l:wr.drewN nq=W1.drewN (u+nq):=by rw[F.out,j9]
   generalize wr.drewN nq=W3 at l⊢;have D:∀t,t<d.size->W3.cell? ⟨c,off+t,none⟩=some (.int .i32 (r t)):=λt m=>by rw[l];exact N t m
   have O:∀t,t<d.size->W3.frozen? ⟨c,off+t,none⟩=false:=λt m=>by rw[l];exact hf t m
   have C:Hid (W3=W1.drewN (u+nq)):=l;clear l;obtain⟨v3,Q⟩:=cell?_setCell_some (w:=W3) (p:=⟨c,off+h,none⟩) (x:=.int .i32 (r a)) (q:=⟨c,off+a,none⟩) (D a (by omega));have af:h<d.size:=by omega
   go_wp2;go_region
   all_goals go_wp2
   all_goals go_ret2
   have e:Sort.partition Sort.ltInt d a b f=(h,true,Sort.swp g h a):=part_first_break Sort.ltInt d a b f HI.out HJ.out aa.out B.out A.out (by omega);refine⟨?_,n+(u+nq)+1,?_⟩
   ·rw[e];rfl
   rw[e,C.out,X.out,j9,z.out a,z.out h];exact swap_worldC (Value.int .i32) w c off g _ h a (by omega) (by omega)
def nV (f off cap a b c:Nat) (d:Array Int) (w:World) (l:Holds (Value.int .i32) w f off d) (h:a<=c) (g:c<b) (m:b<=d.size) (i:d.size<4611686018427387904) :
 Calls prog 143 #[.slice (some ⟨f,off,none⟩) d.size cap,.int .i64 a,.int .i64 b,.int .i64 c] w λe w'=>
  e=.returned (.tuple #[.int .i64 (Sort.partition Sort.ltInt d a b c).1,.bool (Sort.partition Sort.ltInt d a b c).2.1])/\∃n,w'=putRow (Value.int .i32) (Sort.ahead w n) f off (Sort.partition Sort.ltInt d a b c).2.2:=
 (xM f off cap a b c d w l h g m i).mono λ_ _ ⟨k,n,j⟩=>⟨k,n,j⟩
end Go.Proofs.YtmnimbnojdndmaaGreatDoor
