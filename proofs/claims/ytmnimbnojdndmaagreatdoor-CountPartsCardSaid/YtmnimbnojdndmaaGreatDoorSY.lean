/- State by state it is added up what is possible; no condition. -/
import Derived.Test.YtmnimbnojdndmaaGreatDoorS28
import Derived.Test.YtmnimbnojdndmaaGreatDoorS29
import Derived.Test.YtmnimbnojdndmaaGreatDoorS30
import Derived.ChangeOld
import Derived.Test.YtmnimbnojdndmaaGreatDoorTie
import Derived.Test.YtmnimbnojdndmaaGreatDoorCards
set_option maxRecDepth 100000
set_option maxHeartbeats 6400000
set_option linter.all false
namespace Go.Proofs.YtmnimbnojdndmaaGreatDoor.countParts
open Go.ChangeShapes Go.WideShapes Go.ChangeAt Go.RowKit
def walk {H:Type} {a:TypeId×Value->H} {W:World} {v:Value} {d:DataW H} {k:List MemPlace} (i:nk W) (j:∃f,v=.agg f/\f.size=Tryz.prog.cellsOf 27)
 (h:DataW.Trod a Tryz.prog W 0 (λ_=>true) true 27 v d k) (c:∀n∈d.weights Tryz.prog 27,n<=reachBytes) :
 Calls Tryz.prog 5 #[v] W λe w'=>e=.returned (.bool true)/\Below W.heap.size W w':=by
 obtain⟨T,X,m,l,g,b⟩:=Uo j h c;exact abp i g b
def lifted (os:Os) (a:os.Started) (H:Type) (c:TypeId×Value->H) (F:Stop.Interp) :
 ReturnsInHanded {} Tryz.checked os 5 .any ((OpenSpec.ofChange Rows.countPartsSpec).preRow c Tryz.prog Tryz.f5 Rows.countPartsRow.domain false Rows.countPartsRow.laid)
  (((OpenSpec.ofChange Rows.countPartsSpec).at F).post c Tryz.prog Tryz.f5 false true false false):=by
 obtain⟨u,M⟩:=reads os c;refine returnsInHanded_of_row (C:=Tryz.checked) (s:=OpenSpec.ofChange Rows.countPartsSpec) own a (by kernel_rfl) Tryz.func5
  ⟨w0 os,λ_ _=>0,⟨#[],Dv,[]⟩,World.laidAll_os _ _ _,shaped os,(Input.okWide_of_okWideB (base:=0) (okw os)).1,(Input.okWide_of_okWideB (okw os)).2,
    OpenSpec.preRow_of_cond 8 M (by kernel_rfl) (λk S=>by cases S) (by kernel_rfl) (Yd os),by
     simp only[Assume.holds]
     exact⟨by simp,by simp,λ_=>Modest.zero,by simp,by simp⟩⟩ ?_
 intro W base args K Q w b I G _ f P B _;have l:(DataW.weightsEach Tryz.prog (Tryz.f5.params.toList++(OpenSpec.ofChange Rows.countPartsSpec).bare.plain.varTypes Tryz.prog) (K++Q)).all (·<=reachBytes)=true:=f;clear f;have d:∀(j:Nat) t v,Tryz.f5.params[j]? = some t->args[j]? = some v->Value.okWide Tryz.prog W .any base t v:=b;have i:=I;obtain⟨p,q,r,U,rfl,T,aa⟩:=I;have J:DataW.TrodAll c Tryz.prog W 0 (λ_=>true) true Tryz.f5.params.toList args.toList K p:=r;rw[Tryz.params5] at J d l;obtain⟨L,O,Z,Y,p0,q0,A,rfl,rfl,h0,N⟩:=trodAll_cons J;obtain⟨rfl,rfl,rfl⟩:=trodAll_nil N;obtain rfl:args=#[L]:=by cases args;simp_all
 obtain⟨rfl,rfl⟩:=trodVars_none U;have z:=h0;have E:∀x∈p0,x.block<W.heap.size:=by obtain⟨m,hm⟩:=z;exact DataW.trod_lt m _ _ _ hm
 have D:=okWide_struct Tryz.underlying27 (d 0 27 L rfl rfl);have g:laidMet Tryz.prog Rows.countPartsRow.laid W:=by rw[<-AS _ _ _ (by kernel_rfl)];exact P
 have R:nk W:=I_ (Lib.laidMet.reads g (by simp[Rows.countPartsRow];rfl)) (Lib.laidMet.reads g (by simp[Rows.countPartsRow];rfl)) (Lib.laidMet.reads g (by simp[Rows.countPartsRow];rfl)) B;have y:∀n∈Z.weights Tryz.prog 27,n<=reachBytes:=λn X=>by
  have:=lR.1 l n (DataW.weights_mem_each (j:=0) rfl rfl n X);simpa using this
 clear r b;simp only[me] at i;refine(walk R D z y).mono λe W' ⟨V,o⟩=>?_;subst V;exact⟨_,rfl,_,_,_,[],_,[],i,trodAll_mk1 (shut_bool Tryz.underlying4 _),(trodAll_cons_mk (Below.trod laidOut (by kernel_rfl) (of_decide_eq_true (by kernel_rfl)) z o E) trodAll_mk0),rfl,o.frame _,λh=>by cases h⟩
def over:Rows.CountPartsSaid:=
 OpenClaim.holds_of_cond 5 Tryz.f5 rfl rfl rfl rfl rfl rfl rfl ⟨rfl,rfl,rfl,rfl,rfl⟩ rfl rfl rfl rfl rfl (by kernel_rfl) Tryz.func5 closed isI isW
  (λos a H b _ F=>by rw[OpenClaim.pre_eq_preRow];exact lifted os a H b F)
theorem proved:Rows.CountPartsCardSaid:=
 Claim7.holds_tied_plain_at .later [] _ _ _ _ over (fun _ h=>by cases h) (by kernel_rfl) (fun _ h=>by cases h) countParts_row_tie rfl ⟨rfl,rfl⟩ (by kernel_rfl) rfl
  (fun f fn hf hfn=>by
    obtain rfl:f=5:=m6 ((show Tryz.prog.funcNamed "cedilla/cedillalaw25.CountParts" =some 5 by kernel_rfl).symm.trans hf) |>.symm;obtain rfl:fn=Tryz.f5:=(m6 (Tryz.func5.symm.trans hfn)).symm
    exact ⟨by kernel_rfl,fun j t ht=>by
     rw [Tryz.params5] at ht;have hm:t∈[27]:=by simpa using Array.mem_of_getElem? ht
     have hall:([27].all fun u=>!Tryz.prog.wantsStandIn u)=true:=by kernel_rfl
     exact (show Tryz.prog.wantsStandIn t=false by simpa using lR.1 hall t hm)⟩)
  (by kernel_rfl)
#print axioms proved
end Go.Proofs.YtmnimbnojdndmaaGreatDoor.countParts
