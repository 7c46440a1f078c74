/- TraceParts and TraceWalks: a machine takes a character as those of its full decomposition, one by one; texts that are alike go through it, and of others none; no condition. -/
import Derived.Test.YtjidohgiigjifaaGreatDoorR26
import Derived.Test.YtjidohgiigjifaaGreatDoorR27
import Derived.Test.YtjidohgiigjifaaGreatDoorR28
import Derived.ChangeOld
import Derived.Test.YtjidohgiigjifaaGreatDoorTie
import Derived.Test.YtjidohgiigjifaaGreatDoorCards
set_option maxRecDepth 100000
set_option maxHeartbeats 6400000
namespace Go.Proofs.YtjidohgiigjifaaGreatDoor.traceWalks
open Go.ChangeShapes Go.WideShapes Go.ChangeAt Go.RowKit
theorem walk {H:Type} {enc:TypeId×Value→H} {W:World} {v v1 v2:Value} {d d1 d2:DataW H} {ps p1 p2:List MemPlace} (hG:bZ W) (hv:∃cs,v=.agg cs∧cs.size=Tryz.prog.cellsOf 27)
 (h:DataW.Trod enc Tryz.prog W 0 (fun _=>true) true 27 v d ps) (hsz:∀n∈d.weights Tryz.prog 27,n≤reachBytes) (e1:∃a n c,v1=.slice a n c) (h1:DataW.Trod enc Tryz.prog W 0 (fun _=>true) true 23 v1 d1 p1) (e2:∃a n c,v2=.slice a n c) (h2:DataW.Trod enc Tryz.prog W 0 (fun _=>true) true 23 v2 d2 p2) :
 Calls Tryz.prog 4 #[v,v1,v2] W fun e w'=>e=.returned (.bool true)∧Below W.heap.size W w':=by
 obtain ⟨T,X,pk,mr,hT,hmr⟩:=MV hv h hsz;obtain ⟨f1,h1⟩:=h1;obtain ⟨a1,n1,c1,rfl⟩:=e1;obtain ⟨a1',n1',c1',l1,e1,s1,_,_⟩:=oK (cs:=[.slice a1 n1 c1]) h1;rw [←(List.cons.inj e1).1] at s1;obtain ⟨f2,h2⟩:=h2;obtain ⟨a2,n2,c2,rfl⟩:=e2;obtain ⟨a2',n2',c2',l2,e2,s2,_,_⟩:=oK (cs:=[.slice a2 n2 c2]) h2;rw [←(List.cons.inj e2).1] at s2;exact aaT hG hT hmr s1 s2
theorem lifted (os:Os) (started:os.Started) (H:Type) (enc:TypeId×Value→H) (F:Stop.Interp) :
 ReturnsInHanded {} Tryz.checked os 4 .any ((OpenSpec.ofChange Rows.traceWalksSpec).preRow enc Tryz.prog Tryz.f4 Rows.traceWalksRow.domain false Rows.traceWalksRow.laid)
  (((OpenSpec.ofChange Rows.traceWalksSpec).at F).post enc Tryz.prog Tryz.f4 false true false false):=by
 obtain ⟨places,hx⟩:=reads os enc;refine returnsInHanded_of_row (C:=Tryz.checked) (s:=OpenSpec.ofChange Rows.traceWalksSpec) own started (by kernel_rfl) Tryz.func4
  ⟨w0 os,fun _ _=>0,⟨#[],y7,[]⟩,World.laidAll_os _ _ _,shaped os,(Input.okWide_of_okWideB (base:=0) (okw os)).1,(Input.okWide_of_okWideB (okw os)).2,
    OpenSpec.preRow_of_cond 8 hx (by kernel_rfl) (fun k hk=>by cases hk) (by kernel_rfl) (Qv os),by
     simp only [Assume.holds]
     exact ⟨by simp,by simp,fun _=>Modest.zero,by simp,by simp⟩⟩ ?_
 intro W base args ds gs before hval0 hW hcnd _ hsz0 hL hsh _;have hsz:(DataW.weightsEach Tryz.prog (Tryz.f4.params.toList++(OpenSpec.ofChange Rows.traceWalksSpec).bare.plain.varTypes Tryz.prog) (ds++gs)).all (·≤reachBytes)=true:=hsz0;clear hsz0;have hval:∀(j:Nat) t v,Tryz.f4.params[j]? = some t→args[j]? = some v→Value.okWide Tryz.prog W .any base t v:=hval0;have hW':=hW;obtain ⟨p,q,hA0,hV,rfl,hfz,hnd⟩:=hW;have hA:DataW.TrodAll enc Tryz.prog W 0 (fun _=>true) true Tryz.f4.params.toList args.toList ds p:=hA0;rw [Tryz.params4] at hA hval hsz;obtain ⟨v0,vs0,d0,ds0,p0,q0,hargs,rfl,rfl,h0,r0⟩:=trodAll_cons hA;obtain ⟨v1,vs1,d1,ds1,p1,q1,rfl,rfl,rfl,h1,r1⟩:=trodAll_cons r0;obtain ⟨v2,vs2,d2,ds2,p2,q2,rfl,rfl,rfl,h2,r2⟩:=trodAll_cons r1;obtain ⟨rfl,rfl,rfl⟩:=trodAll_nil r2;obtain rfl:args=#[v0,v1,v2]:=by cases args;simp_all
 obtain ⟨rfl,rfl⟩:=trodVars_none hV;have k0:=h0;have lt0:∀x∈p0,x.block<W.heap.size:=by obtain ⟨m,hm⟩:=k0;exact DataW.trod_lt m _ _ _ hm
 have k1:=h1;have lt1:∀x∈p1,x.block<W.heap.size:=by obtain ⟨m,hm⟩:=k1;exact DataW.trod_lt m _ _ _ hm
 have e1:=okWide_slice Tryz.underlying23 (hval 1 23 v1 rfl rfl);have k2:=h2;have lt2:∀x∈p2,x.block<W.heap.size:=by obtain ⟨m,hm⟩:=k2;exact DataW.trod_lt m _ _ _ hm
 have e2:=okWide_slice Tryz.underlying23 (hval 2 23 v2 rfl rfl);have hv0:=okWide_struct Tryz.underlying27 (hval 0 27 v0 rfl rfl);have hlm:laidMet Tryz.prog Rows.traceWalksRow.laid W:=by rw [←MakeChecks.laidMetH_plain _ _ _ (by kernel_rfl)];exact hL
 have hG:bZ W:=GZ (Lib.laidMet.reads hlm (by simp [Rows.traceWalksRow];rfl)) (Lib.laidMet.reads hlm (by simp [Rows.traceWalksRow];rfl)) hsh;have hs0:∀n∈d0.weights Tryz.prog 27,n≤reachBytes:=fun n hn=>by
  have:=List.all_eq_true.1 hsz n (DataW.weights_mem_each (j:=0) rfl rfl n hn);simpa using this
 clear hA0 hval0;simp only [List.append_nil] at hW';refine (walk hG hv0 k0 hs0 e1 k1 e2 k2).mono fun e W' ⟨he,bel⟩=>?_;subst he;exact ⟨_,rfl,_,_,_,[],_,[],hW',trodAll_mk1 (shut_bool Tryz.underlying4 _),(trodAll_cons_mk (Below.trod laidOut (by kernel_rfl) (of_decide_eq_true (by kernel_rfl)) k0 bel lt0) (trodAll_cons_mk (Below.trod laidOut (by kernel_rfl) (of_decide_eq_true (by kernel_rfl)) k1 bel lt1) (trodAll_cons_mk (Below.trod laidOut (by kernel_rfl) (of_decide_eq_true (by kernel_rfl)) k2 bel lt2) trodAll_mk0))),rfl,bel.frame _,fun h=>by cases h⟩
theorem over:Rows.TraceWalksSaid:=
 OpenClaim.holds_of_cond 4 Tryz.f4 rfl rfl rfl rfl rfl rfl rfl ⟨rfl,rfl,rfl,rfl,rfl⟩ rfl rfl rfl rfl rfl (by kernel_rfl) Tryz.func4 closed isI isW
  (fun os started H enc _ F=>by rw [OpenClaim.pre_eq_preRow];exact lifted os started H enc F)
theorem proved:Rows.TraceWalksCardSaid:=
 Claim7.holds_tied_plain_at .later [] _ _ _ _ over (fun _ h=>by cases h) (by kernel_rfl) (fun _ h=>by cases h) traceWalks_row_tie rfl ⟨rfl,rfl⟩ (by kernel_rfl) rfl
  (fun f fn hf hfn=>by
    obtain rfl:f=4:=Option.some.inj ((show Tryz.prog.funcNamed "cedilla/cedillalaw24.TraceWalks" =some 4 by kernel_rfl).symm.trans hf) |>.symm;obtain rfl:fn=Tryz.f4:=(Option.some.inj (Tryz.func4.symm.trans hfn)).symm
    exact ⟨by kernel_rfl,fun j t ht=>by
     rw [Tryz.params4] at ht;have hm:t∈[27,23,23]:=by simpa using Array.mem_of_getElem? ht
     have hall:([27,23,23].all fun u=>!Tryz.prog.wantsStandIn u)=true:=by kernel_rfl
     exact (show Tryz.prog.wantsStandIn t=false by simpa using List.all_eq_true.1 hall t hm)⟩)
  (by kernel_rfl)
#print axioms proved
end Go.Proofs.YtjidohgiigjifaaGreatDoor.traceWalks
