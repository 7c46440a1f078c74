/- An NFD counts as its units do, multiplied; no condition. -/
import Derived.Test.YtmnimbnojdndmaaGreatDoorR29
import Derived.Test.YtmnimbnojdndmaaGreatDoorR30
import Derived.Test.YtmnimbnojdndmaaGreatDoorR31
import Derived.ChangeOld
import Derived.Test.YtmnimbnojdndmaaGreatDoorTie
import Derived.Test.YtmnimbnojdndmaaGreatDoorCards
set_option maxRecDepth 100000
set_option maxHeartbeats 6400000
set_option linter.all false
namespace Go.Proofs.YtmnimbnojdndmaaGreatDoor.countWhole
open Go.ChangeShapes Go.WideShapes Go.ChangeAt Go.RowKit
def walk {H:Type} {a:TypeId×Value->H} {W:World} {v:Value} {d:DataW H} {k:List MemPlace} (g:nk W) (i:∃f,v=.agg f/\f.size=Tryz.prog.cellsOf 27)
 (h:DataW.Trod a Tryz.prog W 0 (λ_=>true) true 27 v d k) (b:∀n∈d.weights Tryz.prog 27,n<=reachBytes) :
 Calls Tryz.prog 3 #[v] W λe w'=>e=.returned (.bool true)/\Below W.heap.size W w':=by
 obtain⟨T,X,l,m,j,c⟩:=Uo i h b;exact En g j c
def lifted (os:Os) (a:os.Started) (H:Type) (c:TypeId×Value->H) (F:Stop.Interp) :
 ReturnsInHanded {} Tryz.checked os 3 .any ((OpenSpec.ofChange Rows.countWholeSpec).preRow c Tryz.prog Tryz.f3 Rows.countWholeRow.domain false Rows.countWholeRow.laid)
  (((OpenSpec.ofChange Rows.countWholeSpec).at F).post c Tryz.prog Tryz.f3 false true false false):=by
 obtain⟨w,R⟩:=reads os c;refine returnsInHanded_of_row (C:=Tryz.checked) (s:=OpenSpec.ofChange Rows.countWholeSpec) own a (by kernel_rfl) Tryz.func3
  ⟨w0 os,λ_ _=>0,⟨#[],Dv,[]⟩,World.laidAll_os _ _ _,shaped os,(Input.okWide_of_okWideB (base:=0) (okw os)).1,(Input.okWide_of_okWideB (okw os)).2,
    OpenSpec.preRow_of_cond 8 R (by kernel_rfl) (λk P=>by cases P) (by kernel_rfl) (Yd os),by
     simp only[Assume.holds]
     exact⟨by simp,by simp,λ_=>Modest.zero,by simp,by simp⟩⟩ ?_
 intro W base args G gs u b I J _ d V D _;have i:(DataW.weightsEach Tryz.prog (Tryz.f3.params.toList++(OpenSpec.ofChange Rows.countWholeSpec).bare.plain.varTypes Tryz.prog) (G++gs)).all (·<=reachBytes)=true:=d;clear d;have f:∀(j:Nat) t v,Tryz.f3.params[j]? = some t->args[j]? = some v->Value.okWide Tryz.prog W .any base t v:=b;have o:=I;obtain⟨p,q,r,X,rfl,S,ab⟩:=I;have L:DataW.TrodAll c Tryz.prog W 0 (λ_=>true) true Tryz.f3.params.toList args.toList G p:=r;rw[Tryz.params3] at L f i;obtain⟨K,M,Z,aa,Q,q0,A,rfl,rfl,h0,N⟩:=trodAll_cons L;obtain⟨rfl,rfl,rfl⟩:=trodAll_nil N;obtain rfl:args=#[K]:=by cases args;simp_all
 obtain⟨rfl,rfl⟩:=trodVars_none X;have B:=h0;have y:∀x∈Q,x.block<W.heap.size:=by obtain⟨m,U⟩:=B;exact DataW.trod_lt m _ _ _ U
 have z:=okWide_struct Tryz.underlying27 (f 0 27 K rfl rfl);have g:laidMet Tryz.prog Rows.countWholeRow.laid W:=by rw[<-MakeChecks.laidMetH_plain _ _ _ (by kernel_rfl)];exact V
 have O:nk W:=I_ (Lib.laidMet.reads g (by simp[Rows.countWholeRow];rfl)) (Lib.laidMet.reads g (by simp[Rows.countWholeRow];rfl)) (Lib.laidMet.reads g (by simp[Rows.countWholeRow];rfl)) D;have E:∀n∈Z.weights Tryz.prog 27,n<=reachBytes:=λn Y=>by
  have:=List.all_eq_true.1 i n (DataW.weights_mem_each (j:=0) rfl rfl n Y);simpa using this
 clear r b;simp only[List.append_nil] at o;refine(walk O z B E).mono λe W' ⟨T,l⟩=>?_;subst T;exact⟨_,rfl,_,_,_,[],_,[],o,trodAll_mk1 (shut_bool Tryz.underlying4 _),(trodAll_cons_mk (Below.trod laidOut (by kernel_rfl) (of_decide_eq_true (by kernel_rfl)) B l y) trodAll_mk0),rfl,l.frame _,λh=>by cases h⟩
def over:Rows.CountWholeSaid:=
 OpenClaim.holds_of_cond 3 Tryz.f3 rfl rfl rfl rfl rfl rfl rfl ⟨rfl,rfl,rfl,rfl,rfl⟩ rfl rfl rfl rfl rfl (by kernel_rfl) Tryz.func3 closed isI isW
  (λos a H b _ F=>by rw[OpenClaim.pre_eq_preRow];exact lifted os a H b F)
theorem proved:Rows.CountWholeCardSaid:=
 Claim7.holds_tied_plain_at .later [] _ _ _ _ over (fun _ h=>by cases h) (by kernel_rfl) (fun _ h=>by cases h) countWhole_row_tie rfl ⟨rfl,rfl⟩ (by kernel_rfl) rfl
  (fun f fn hf hfn=>by
    obtain rfl:f=3:=Option.some.inj ((show Tryz.prog.funcNamed "cedilla/cedillalaw25.CountWhole" =some 3 by kernel_rfl).symm.trans hf) |>.symm;obtain rfl:fn=Tryz.f3:=(Option.some.inj (Tryz.func3.symm.trans hfn)).symm
    exact ⟨by kernel_rfl,fun j t ht=>by
     rw [Tryz.params3] at ht;have hm:t∈[27]:=by simpa using Array.mem_of_getElem? ht
     have hall:([27].all fun u=>!Tryz.prog.wantsStandIn u)=true:=by kernel_rfl
     exact (show Tryz.prog.wantsStandIn t=false by simpa using List.all_eq_true.1 hall t hm)⟩)
  (by kernel_rfl)
#print axioms proved
end Go.Proofs.YtmnimbnojdndmaaGreatDoor.countWhole
