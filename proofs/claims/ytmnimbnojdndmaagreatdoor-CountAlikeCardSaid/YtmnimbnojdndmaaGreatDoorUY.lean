/- Texts that are alike cost, and count, the same; no condition. -/
import Derived.Test.YtmnimbnojdndmaaGreatDoorU27
import Derived.Test.YtmnimbnojdndmaaGreatDoorU28
import Derived.Test.YtmnimbnojdndmaaGreatDoorU29
import Derived.ChangeOld
import Derived.Test.YtmnimbnojdndmaaGreatDoorTie
import Derived.Test.YtmnimbnojdndmaaGreatDoorCards
set_option maxRecDepth 100000
set_option maxHeartbeats 6400000
set_option linter.all false
namespace Go.Proofs.YtmnimbnojdndmaaGreatDoor.countAlike
open Go.ChangeShapes Go.WideShapes Go.ChangeAt Go.RowKit
def walk {H:Type} {b:TypeId×Value->H} {W:World} {v:Value} {d:DataW H} {y:List MemPlace} {i:Value} {q:DataW H} {o:List MemPlace} (p:nk W) (u:∃cs,v=.agg cs/\cs.size=Tryz.prog.cellsOf 27)
 (h:DataW.Trod b Tryz.prog W 0 (λ_=>true) true 27 v d y) (f:∀n∈d.weights Tryz.prog 27,n<=reachBytes) (k:∃a n c,i=.slice a n c) (l:DataW.Trod b Tryz.prog W 0 (λ_=>true) true 23 i q o) (g:Int) (r:(Lit.int .i64 g).wf=true) :
 Calls Tryz.prog 4 #[v,i,.int .i64 g] W λe w'=>e=.returned (.bool true)/\Below W.heap.size W w':=by
 obtain⟨T,X,B,D,A,j⟩:=Uo u h f;obtain⟨E,l⟩:=l;obtain⟨x,s,z,rfl⟩:=k;obtain⟨t,m,w,C,k,s1,_,_⟩:=sJ (cs:=[.slice x s z]) l;rw[<-(List.cons.inj k).1] at s1;exact rf p A j s1 g r
def lifted (os:Os) (c:os.Started) (H:Type) (d:TypeId×Value->H) (F:Stop.Interp) :
 ReturnsInHanded {} Tryz.checked os 4 .any ((OpenSpec.ofChange Rows.countAlikeSpec).preRow d Tryz.prog Tryz.f4 Rows.countAlikeRow.domain false Rows.countAlikeRow.laid)
  (((OpenSpec.ofChange Rows.countAlikeSpec).at F).post d Tryz.prog Tryz.f4 false true false false):=by
 obtain⟨u,hx⟩:=reads os d;refine returnsInHanded_of_row (C:=Tryz.checked) (s:=OpenSpec.ofChange Rows.countAlikeSpec) own c (by kernel_rfl) Tryz.func4
  ⟨w0 os,λ_ _=>0,⟨#[],Dv,[]⟩,World.laidAll_os _ _ _,shaped os,(Input.okWide_of_okWideB (base:=0) (okw os)).1,(Input.okWide_of_okWideB (okw os)).2,
    OpenSpec.preRow_of_cond 8 hx (by kernel_rfl) (λk hk=>by cases hk) (by kernel_rfl) (Yd os),by
     simp only[Assume.holds]
     exact⟨by simp,by simp,λ_=>Modest.zero,by simp,by simp⟩⟩ ?_
 intro W base args K gs w b L O _ f hL z _;have l:(DataW.weightsEach Tryz.prog (Tryz.f4.params.toList++(OpenSpec.ofChange Rows.countAlikeSpec).bare.plain.varTypes Tryz.prog) (K++gs)).all (·<=reachBytes)=true:=f;clear f;have a:∀(j:Nat) t v,Tryz.f4.params[j]? = some t->args[j]? = some v->Value.okWide Tryz.prog W .any base t v:=b;have o:=L;obtain⟨p,q,r,hV,rfl,ab,ae⟩:=L;have R:DataW.TrodAll d Tryz.prog W 0 (λ_=>true) true Tryz.f4.params.toList args.toList K p:=r;rw[Tryz.params4] at R a l;obtain⟨P,X,d0,Y,p0,q0,A,rfl,rfl,h0,U⟩:=trodAll_cons R;obtain⟨M,S,d1,aa,Z,q1,rfl,rfl,rfl,h1,r1⟩:=trodAll_cons U;obtain⟨Q,ad,d2,ac,p2,q2,rfl,rfl,rfl,h2,V⟩:=trodAll_cons r1;obtain⟨rfl,rfl,rfl⟩:=trodAll_nil V;obtain rfl:args=#[P,M,Q]:=by cases args;simp_all
 obtain⟨rfl,rfl⟩:=trodVars_none hV;have B:=h0;have J:∀x∈p0,x.block<W.heap.size:=by obtain⟨m,I⟩:=B;exact DataW.trod_lt m _ _ _ I
 have y:=h1;have D:∀x∈Z,x.block<W.heap.size:=by obtain⟨m,I⟩:=y;exact DataW.trod_lt m _ _ _ I
 have e1:=okWide_slice Tryz.underlying23 (a 1 23 M rfl rfl);obtain⟨T,rfl,rfl,rfl,N⟩:=open_int Tryz.underlying3 (a 2 3 Q rfl rfl) h2;have G:=okWide_struct Tryz.underlying27 (a 0 27 P rfl rfl);have g:laidMet Tryz.prog Rows.countAlikeRow.laid W:=by rw[<-A4 _ _ _ (by kernel_rfl)];exact hL
 have hG:nk W:=I_ (Lib.laidMet.reads g (by simp[Rows.countAlikeRow];rfl)) (Lib.laidMet.reads g (by simp[Rows.countAlikeRow];rfl)) (Lib.laidMet.reads g (by simp[Rows.countAlikeRow];rfl)) z;have E:∀n∈d0.weights Tryz.prog 27,n<=reachBytes:=λn hn=>by
  have:=lr.1 l n (DataW.weights_mem_each (j:=0) rfl rfl n hn);simpa using this
 clear r b;simp only[lE] at o;refine(walk hG G B E e1 y T N).mono λe W' ⟨he,i⟩=>?_;subst he;exact⟨_,rfl,_,_,_,[],_,[],o,trodAll_mk1 (shut_bool Tryz.underlying4 _),(trodAll_cons_mk (Below.trod laidOut (by kernel_rfl) (of_decide_eq_true (by kernel_rfl)) B i J) (trodAll_cons_mk (Below.trod laidOut (by kernel_rfl) (of_decide_eq_true (by kernel_rfl)) y i D) (trodAll_cons_mk (shut_int Tryz.underlying3 N) trodAll_mk0))),rfl,i.frame _,λh=>by cases h⟩
def over:Rows.CountAlikeSaid:=
 OpenClaim.holds_of_cond 4 Tryz.f4 rfl rfl rfl rfl rfl rfl rfl ⟨rfl,rfl,rfl,rfl,rfl⟩ rfl rfl rfl rfl rfl (by kernel_rfl) Tryz.func4 closed isI isW
  (λos a H b _ F=>by rw[OpenClaim.pre_eq_preRow];exact lifted os a H b F)
theorem proved:Rows.CountAlikeCardSaid:=
 Claim7.holds_tied_plain_at .later [] _ _ _ _ over (fun _ h=>by cases h) (by kernel_rfl) (fun _ h=>by cases h) countAlike_row_tie rfl ⟨rfl,rfl⟩ (by kernel_rfl) rfl
  (fun f fn hf hfn=>by
    obtain rfl:f=4:=mL ((show Tryz.prog.funcNamed "cedilla/cedillalaw25.CountAlike" =some 4 by kernel_rfl).symm.trans hf) |>.symm;obtain rfl:fn=Tryz.f4:=(mL (Tryz.func4.symm.trans hfn)).symm
    exact ⟨by kernel_rfl,fun j t ht=>by
     rw [Tryz.params4] at ht;have hm:t∈[27,23,3]:=by simpa using Array.mem_of_getElem? ht
     have hall:([27,23,3].all fun u=>!Tryz.prog.wantsStandIn u)=true:=by kernel_rfl
     exact (show Tryz.prog.wantsStandIn t=false by simpa using lr.1 hall t hm)⟩)
  (by kernel_rfl)
#print axioms proved
end Go.Proofs.YtmnimbnojdndmaaGreatDoor.countAlike
