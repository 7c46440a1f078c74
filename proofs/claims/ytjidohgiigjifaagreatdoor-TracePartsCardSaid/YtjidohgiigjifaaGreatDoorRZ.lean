/- TraceParts and TraceWalks: a machine takes a character as those of its full decomposition, one by one; texts that are alike go through it, and of others none; no condition. -/
import Derived.Test.YtjidohgiigjifaaGreatDoorR29
import Derived.Test.YtjidohgiigjifaaGreatDoorR30
import Derived.Test.YtjidohgiigjifaaGreatDoorR31
import Derived.ChangeOld
import Derived.Test.YtjidohgiigjifaaGreatDoorTie
import Derived.Test.YtjidohgiigjifaaGreatDoorCards
set_option maxRecDepth 100000
set_option maxHeartbeats 6400000
namespace Go.Proofs.YtjidohgiigjifaaGreatDoor.traceParts
open Go.ChangeShapes Go.WideShapes Go.ChangeAt Go.RowKit
theorem walk {H:Type} {enc:TypeId×Value→H} {W:World} {v v1:Value} {d d1:DataW H} {ps p1:List MemPlace} (hG:bZ W) (hv:∃cs,v=.agg cs∧cs.size=Tryz.prog.cellsOf 27)
 (h:DataW.Trod enc Tryz.prog W 0 (fun _=>true) true 27 v d ps) (hsz:∀n∈d.weights Tryz.prog 27,n≤reachBytes) (e1:∃a n c,v1=.slice a n c) (h1:DataW.Trod enc Tryz.prog W 0 (fun _=>true) true 23 v1 d1 p1) :
 Calls Tryz.prog 5 #[v,v1] W fun e w'=>e=.returned (.bool true)∧Below W.heap.size W w':=by
 obtain ⟨T,X,pk,mr,hT,hmr⟩:=MV hv h hsz;obtain ⟨f1,h1⟩:=h1;obtain ⟨a1,n1,c1,rfl⟩:=e1;obtain ⟨a1',n1',c1',l1,e1,s1,_,_⟩:=oK (cs:=[.slice a1 n1 c1]) h1;rw [←(List.cons.inj e1).1] at s1;exact aaS hG hT hmr s1
theorem lifted (os:Os) (started:os.Started) (H:Type) (enc:TypeId×Value→H) (F:Stop.Interp) :
 ReturnsInHanded {} Tryz.checked os 5 .any ((OpenSpec.ofChange Rows.tracePartsSpec).preRow enc Tryz.prog Tryz.f5 Rows.tracePartsRow.domain false Rows.tracePartsRow.laid)
  (((OpenSpec.ofChange Rows.tracePartsSpec).at F).post enc Tryz.prog Tryz.f5 false true false false):=by
 obtain ⟨places,hx⟩:=reads os enc;refine returnsInHanded_of_row (C:=Tryz.checked) (s:=OpenSpec.ofChange Rows.tracePartsSpec) own started (by kernel_rfl) Tryz.func5
  ⟨w0 os,fun _ _=>0,⟨#[],y7,[]⟩,World.laidAll_os _ _ _,shaped os,(Input.okWide_of_okWideB (base:=0) (okw os)).1,(Input.okWide_of_okWideB (okw os)).2,
    OpenSpec.preRow_of_cond 8 hx (by kernel_rfl) (fun k hk=>by cases hk) (by kernel_rfl) (Qv os),by
     simp only [Assume.holds]
     exact ⟨by simp,by simp,fun _=>Modest.zero,by simp,by simp⟩⟩ ?_
 intro W base args ds gs before hval0 hW hcnd _ hsz0 hL hsh _;have hsz:(DataW.weightsEach Tryz.prog (Tryz.f5.params.toList++(OpenSpec.ofChange Rows.tracePartsSpec).bare.plain.varTypes Tryz.prog) (ds++gs)).all (·≤reachBytes)=true:=hsz0;clear hsz0;have hval:∀(j:Nat) t v,Tryz.f5.params[j]? = some t→args[j]? = some v→Value.okWide Tryz.prog W .any base t v:=hval0;have hW':=hW;obtain ⟨p,q,hA0,hV,rfl,hfz,hnd⟩:=hW;have hA:DataW.TrodAll enc Tryz.prog W 0 (fun _=>true) true Tryz.f5.params.toList args.toList ds p:=hA0;rw [Tryz.params5] at hA hval hsz;obtain ⟨v0,vs0,d0,ds0,p0,q0,hargs,rfl,rfl,h0,r0⟩:=trodAll_cons hA;obtain ⟨v1,vs1,d1,ds1,p1,q1,rfl,rfl,rfl,h1,r1⟩:=trodAll_cons r0;obtain ⟨rfl,rfl,rfl⟩:=trodAll_nil r1;obtain rfl:args=#[v0,v1]:=by cases args;simp_all
 obtain ⟨rfl,rfl⟩:=trodVars_none hV;have k0:=h0;have lt0:∀x∈p0,x.block<W.heap.size:=by obtain ⟨m,hm⟩:=k0;exact DataW.trod_lt m _ _ _ hm
 have k1:=h1;have lt1:∀x∈p1,x.block<W.heap.size:=by obtain ⟨m,hm⟩:=k1;exact DataW.trod_lt m _ _ _ hm
 have e1:=okWide_slice Tryz.underlying23 (hval 1 23 v1 rfl rfl);have hv0:=okWide_struct Tryz.underlying27 (hval 0 27 v0 rfl rfl);have hlm:laidMet Tryz.prog Rows.tracePartsRow.laid W:=by rw [←MakeChecks.laidMetH_plain _ _ _ (by kernel_rfl)];exact hL
 have hG:bZ W:=GZ (Lib.laidMet.reads hlm (by simp [Rows.tracePartsRow];rfl)) (Lib.laidMet.reads hlm (by simp [Rows.tracePartsRow];rfl)) hsh;have hs0:∀n∈d0.weights Tryz.prog 27,n≤reachBytes:=fun n hn=>by
  have:=List.all_eq_true.1 hsz n (DataW.weights_mem_each (j:=0) rfl rfl n hn);simpa using this
 clear hA0 hval0;simp only [List.append_nil] at hW';refine (walk hG hv0 k0 hs0 e1 k1).mono fun e W' ⟨he,bel⟩=>?_;subst he;exact ⟨_,rfl,_,_,_,[],_,[],hW',trodAll_mk1 (shut_bool Tryz.underlying4 _),(trodAll_cons_mk (Below.trod laidOut (by kernel_rfl) (of_decide_eq_true (by kernel_rfl)) k0 bel lt0) (trodAll_cons_mk (Below.trod laidOut (by kernel_rfl) (of_decide_eq_true (by kernel_rfl)) k1 bel lt1) trodAll_mk0)),rfl,bel.frame _,fun h=>by cases h⟩
theorem over:Rows.TracePartsSaid:=
 OpenClaim.holds_of_cond 5 Tryz.f5 rfl rfl rfl rfl rfl rfl rfl ⟨rfl,rfl,rfl,rfl,rfl⟩ rfl rfl rfl rfl rfl (by kernel_rfl) Tryz.func5 closed isI isW
  (fun os started H enc _ F=>by rw [OpenClaim.pre_eq_preRow];exact lifted os started H enc F)
theorem proved:Rows.TracePartsCardSaid:=
 Claim7.holds_tied_plain_at .later [] _ _ _ _ over (fun _ h=>by cases h) (by kernel_rfl) (fun _ h=>by cases h) traceParts_row_tie rfl ⟨rfl,rfl⟩ (by kernel_rfl) rfl
  (fun f fn hf hfn=>by
    obtain rfl:f=5:=Option.some.inj ((show Tryz.prog.funcNamed "cedilla/cedillalaw24.TraceParts" =some 5 by kernel_rfl).symm.trans hf) |>.symm;obtain rfl:fn=Tryz.f5:=(Option.some.inj (Tryz.func5.symm.trans hfn)).symm
    exact ⟨by kernel_rfl,fun j t ht=>by
     rw [Tryz.params5] at ht;have hm:t∈[27,23]:=by simpa using Array.mem_of_getElem? ht
     have hall:([27,23].all fun u=>!Tryz.prog.wantsStandIn u)=true:=by kernel_rfl
     exact (show Tryz.prog.wantsStandIn t=false by simpa using List.all_eq_true.1 hall t hm)⟩)
  (by kernel_rfl)
#print axioms proved
end Go.Proofs.YtjidohgiigjifaaGreatDoor.traceParts
