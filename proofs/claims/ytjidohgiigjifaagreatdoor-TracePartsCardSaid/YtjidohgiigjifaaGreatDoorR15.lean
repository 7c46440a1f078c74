/- TraceParts and TraceWalks: a machine takes a character as those of its full decomposition, one by one; texts that are alike go through it, and of others none; no condition. -/
import Derived.Test.YtjidohgiigjifaaGreatDoorR14
import Derived.Test.YtjidohgiigjifaaGreatDoorR10
set_option maxRecDepth 100000
set_option maxHeartbeats 6400000
namespace Go.Proofs.YtjidohgiigjifaaGreatDoor
open Go.RowKit Go.Cd Go.Shelf
theorem AR.ext {w w':World} {p:Nat} {L:List (aF×Value)} {last:Int} {o:List UInt8} (h:AR w p L last o) (hb:Below w.heap.size w w'):AR w' p L last o:=by
 obtain ⟨⟨v,h1,h2⟩,h3⟩:=h;exact ⟨⟨v,h1.mono hb,aG h2 hb⟩,fun x hx=>⟨(h3 x hx).1.mono hb,(h3 x hx).2⟩⟩
theorem AR.put {w:World} {p:Nat} {L:List (aF×Value)} {last last':Int} {o o':List UInt8} (h:AR w p L last o) (k:Nat) (u:Value)
 (he:∀v,(#[v,.int .i32 last,.string (tx o)]:Array Value).setIfInBounds k u=#[v,.int .i32 last',.string (tx o')]):AR (w.setCell ⟨p,k,none⟩ u) p L last' o':=by
 obtain ⟨⟨v,h1,h2⟩,h3⟩:=h;exact ⟨⟨v,he v▸h1.set k u,bf h2 (Go.Cd.aP h2 (k:=p) (by omega)) k u⟩,fun x hx=>⟨(h3 x hx).1.put h1.at_ (by decide),(h3 x hx).2⟩⟩
theorem sG {w:World} (c:Int) (cp:Nat) (a:Option Addr) :
 Calls Tryz.prog 160 #[.agg #[.int .i32 c,.int .i64 0,.slice a 0 cp]] w fun e w'=>e=.returned (.bool true)∧Below w.heap.size w w':=by
 have hb:=ai (w:=w) (.cells #[.int .i32 c,.int .i64 0,.slice a 0 cp] 164);have k0:=Is.new w #[.int .i32 c,.int .i64 0,.slice a 0 cp] 164;have e0:=k0.at 0 rfl;have e1:=k0.at 1 rfl;have e2:=k0.at 2 rfl;go_enter Tryz.func160,Tryz.ntmps160;go_wp2;go_ret;exact ⟨rfl,hb⟩
theorem Pm {s q:List UInt8} (hs:s.length≤60) (W:World):Calls Tryz.prog 186 #[.string (tx s),.string (tx q)] W fun e w'=>e=.returned (.tuple #[.string (tx (Lib.trimSuffix s q)),.bool (Lib.hasSuffix s q)])∧w'=W:=by
 have:=Tryz.strings_CutSuffix (tx s) (tx q) W (by rw [bn];omega);rw [df,df] at this;exact this
theorem Kc:∀b∈Nw,Lib.trimSuffix (b++uX) uX=b∧Lib.hasSuffix (b++uX) uX=true∧Lib.hasSuffix (b++uX) Hy=false∧Lib.trimSuffix (b++Hy) Hy=b∧Lib.hasSuffix (b++Hy) Hy=true∧Lib.hasSuffix (b++Hy) uX=false:=by decide
theorem CS {w:World} {p:Nat} {L:List (aF×Value)} {last:Int} {o nm o':List UInt8} (hR:AR w p L last o) (hs:mG o nm o' true) (c:Int) (cp:Nat) (a:Option Addr) :
 Calls Tryz.prog 159 #[.pointer (some ⟨p,0,none⟩),.string (tx nm),.agg #[.int .i32 c,.int .i64 0,.slice a 0 cp]] w fun e w'=>e=.returned (.bool true)∧Below p w w'∧w.heap.size≤w'.heap.size∧AR w' p L last o'∧∀k cs T,k≠p→Is w k cs T→Is w' k cs T:=by
 obtain ⟨w1,hw1⟩:=af (w.alloc (.cells #[.int .i32 c,.int .i64 0,.slice a 0 cp] 164));have hB1:Below w.heap.size w w1:=by rw [hw1];exact ai _
 have k1:Is w1 w.heap.size #[.int .i32 c,.int .i64 0,.slice a 0 cp] 164:=by rw [hw1];exact Is.new _ _ _
 have hl:=hs.name.2.1;have C1:=ae (show ∀W,Calls Tryz.prog 186 #[.string (tx nm),.string ⟨#[44,32,70,105,114,115,116,62]⟩] W fun e w'=>e=.returned (.tuple #[.string (tx (Lib.trimSuffix nm uX)),.bool (Lib.hasSuffix nm uX)])∧w'=W from fun W=>Pm (q:=uX) hl W);have C2:=ae (show ∀W,Calls Tryz.prog 186 #[.string (tx nm),.string ⟨#[44,32,76,97,115,116,62]⟩] W fun e w'=>e=.returned (.tuple #[.string (tx (Lib.trimSuffix nm Hy)),.bool (Lib.hasSuffix nm Hy)])∧w'=W from fun W=>Pm (q:=Hy) hl W);have R1:=hR.ext hB1;have hp:p<w.heap.size:=by obtain ⟨⟨v,h1,_⟩,_⟩:=hR;exact h1.lt
 have PL:=ae (fun W=>sG (w:=W) c cp a);obtain ⟨⟨v,p1,_⟩,_⟩:=id R1;have e0:=p1.at 2 rfl;have d0:=p1.frozen 2;have f0:=k1.at 0 rfl;have f1:=k1.at 1 rfl;have f2:=k1.at 2 rfl;have hpw:p≠w.heap.size:=by omega
 have zF:(⟨#[44,32,70,105,114,115,116,62]⟩:ByteArray)=tx uX:=rfl;have zt:∀s:List UInt8,s≠[]→(tx s).toList.isEmpty=false:=fun s h=>by rw [Lib.toList_data,df];cases s with|nil=>exact absurd rfl h|cons=>rfl
 cases hs with
 | fst b hb=>
   obtain ⟨c1,c2,c3,_⟩:=Kc b hb;rw [c1,c2] at C1;rw [c3] at C2;have z0:(tx []).toList.isEmpty=true:=by rw [Lib.toList_data];rfl
   have zs:(tx b++⟨#[44,32,70,105,114,115,116,62]⟩:ByteArray)=tx (b++uX):=by rw [zF,cZ]
   have zl:(tx b).size≤60:=by rw [bn];have:=(xg b hb).2.2.1;rw [List.length_append] at this;omega
   have zf:(⟨#[44,32,70,105,114,115,116,62]⟩:ByteArray).size=8:=rfl;have SM:=ae (p1.same 2 (u:=.string (tx [])) rfl);have R2:=R1.put 2 (.string (tx (b++uX))) (o':=b++uX) (last':=last) (fun _=>rfl);have HR:=ae R2;clear R1 R2 hR zF zt c1 c2 c3 hl;go_enter Tryz.func159,Tryz.ntmps159;go_wp2_with fail;rw [←hw1];clear hw1;refine (C1.out w1).mono ?_;rintro e w2 ⟨rfl,rfl⟩;go_wp2_with fail;refine (C2.out _).mono ?_;rintro e w3 ⟨rfl,rfl⟩;clear C1 C2;have hSM:w3.setCell ⟨p,2,none⟩ (.string ⟨#[]⟩)=w3:=SM.out;go_wp2_with fail;refine (PL.out _).mono ?_;rintro e w4 ⟨rfl,h4⟩;go_wp2;go_ret;refine ⟨rfl,(aj (hB1.mono (Nat.le_of_lt hp)) (Nat.le_refl _)).trans (h4.mono (by rw [World.size_setCell];have:=hB1.size;omega)),by have:=h4.size;rw [World.size_setCell] at this;have:=hB1.size;omega,HR.out.ext h4,fun k cs T hk h=>((h.mono hB1).put hk _).mono h4⟩
 | lst b hb=>
   obtain ⟨_,_,_,c1,c2,c3⟩:=Kc b hb;rw [c3] at C1;rw [c1,c2] at C2;have z0:(tx (b++uX)).toList.isEmpty=false:=zt _ (xg b hb).1;have zs:(tx b++⟨#[44,32,70,105,114,115,116,62]⟩:ByteArray)=tx (b++uX):=by rw [zF,cZ]
   have zl:(tx b).size≤60:=by rw [bn];have:=(xg b hb).2.2.1;rw [List.length_append] at this;omega
   have zf:(⟨#[44,32,70,105,114,115,116,62]⟩:ByteArray).size=8:=rfl;have R2:=R1.put 2 (.string (tx [])) (o':=[]) (last':=last) (fun _=>rfl);have HR:Hid (AR (w1.setCell ⟨p,2,none⟩ (.string ⟨#[]⟩)) p L last []):=ae R2;have g0:=(k1.put (k:=w.heap.size) (j:=p) (o:=2) (Ne.symm hpw) (.string ⟨#[]⟩)).at 0 rfl;have g1:=(k1.put (k:=w.heap.size) (j:=p) (o:=2) (Ne.symm hpw) (.string ⟨#[]⟩)).at 1 rfl;have g2:=(k1.put (k:=w.heap.size) (j:=p) (o:=2) (Ne.symm hpw) (.string ⟨#[]⟩)).at 2 rfl;clear R1 R2 hR zF zt c1 c2 c3 hl;go_enter Tryz.func159,Tryz.ntmps159;go_wp2_with fail;rw [←hw1];clear hw1;refine (C1.out w1).mono ?_;rintro e w2 ⟨rfl,rfl⟩;go_wp2_with fail;refine (C2.out _).mono ?_;rintro e w3 ⟨rfl,rfl⟩;clear C1 C2;go_wp2_with fail;refine (PL.out _).mono ?_;rintro e w4 ⟨rfl,h4⟩;go_wp2;go_ret;refine ⟨rfl,(aj (hB1.mono (Nat.le_of_lt hp)) (Nat.le_refl _)).trans (h4.mono (by rw [World.size_setCell];have:=hB1.size;omega)),by have:=h4.size;rw [World.size_setCell] at this;have:=hB1.size;omega,HR.out.ext h4,fun k cs T hk h=>((h.mono hB1).put hk _).mono h4⟩
theorem I6 {w:World} {p:Nat} (hG:bZ w) {L:List (aF×Value)} {last:Int} {o nm o':List UInt8} (hR:AR w p L last o) (hs:mG o nm o' true) (r:aF) (hr:xA r) (h0:r.cls=0∧r.map=[]) (hlt:last<r.code) :
 Calls Tryz.prog 127 #[.pointer (some ⟨p,0,none⟩),.string (tx (dL nm r))] w fun e w'=>e=.returned (.string ⟨#[]⟩)∧Below p w w'∧w.heap.size≤w'.heap.size∧AR w' p L r.code o':=by
 have hnm:=hs.name;have SP:=ae (pG hG (eX nm r) rfl (fun q hq h=>(xh hnm.2 hr.cls q hq _ h).2 rfl) (NU hnm.2 hr.cls hr.len));have RW:=ae (fun (W:World) (h:bZ W) (k:Nat) (hk:Is W k ((eX nm r).map fun l=>Value.string (tx l)).toArray 9)=>xB h hnm.1 r hr hk);obtain ⟨s,hss⟩:=af (tx (dL nm r));have hs':tx (bu 59 (eX nm r))=s:=hss.symm;rw [hs'] at SP;rw [←hss];have hp:p<w.heap.size:=by obtain ⟨⟨v,h1,_⟩,_⟩:=hR;exact h1.lt
 have hcd:=hr.code;have hne:=hnm.1;have HS:=ae hs;obtain ⟨hr1,hr2⟩:=h0;rw [hr1,hr2] at RW;obtain ⟨c,hc⟩:=af r.code;rw [←hc] at hlt hcd RW ⊢;have RG:=ae (fun (W:World) (h:AR W p L last o) (cp:Nat) (a:Option Addr)=>CS h HS.out (c:Nat) cp a);have PL:=ae (fun W (cp:Nat) (a:Option Addr)=>sG (w:=W) (c:Nat) cp a);clear hss hs' hs hnm hc hr hr1 hr2 HS;go_enter Tryz.func127,Tryz.ntmps127;go_wp2_with fail;refine SP.out.mono ?_;rintro e w1 ⟨rfl,hw1⟩;have hB1:Below w.heap.size w w1:=by rw [hw1];exact ai _
 have q1:Is w1 w.heap.size ((eX nm r).map fun l=>Value.string (tx l)).toArray 9:=by rw [hw1];exact Is.new _ _ _
 have hz1:w1.heap.size=w.heap.size+1:=by rw [hw1];simp
 clear hw1 SP;go_wp2_with fail;refine (RW.out _ (hG.mono hB1) _ q1).mono ?_;rintro e w2 ⟨mv,rfl,hmv,hB2⟩;have q2:w2.cell? ⟨w.heap.size,1,none⟩=some (.string (tx nm)):=(q1.mono hB2).at 1 rfl;obtain ⟨ma,mc,rfl,_,_⟩:=az hmv;rw [List.length_nil];have hBw2:=ag hB1 hB2;clear q1 RW hmv;obtain ⟨w3,hw3⟩:=af (w2.alloc (.cells #[.int .i32 (c:Nat),.int .i64 0,.slice ma 0 mc] 164));have hB3:Below w2.heap.size w2 w3:=by rw [hw3];exact ai _
 have b3:Is w3 w2.heap.size #[.int .i32 (c:Nat),.int .i64 0,.slice ma 0 mc] 164:=by rw [hw3];exact Is.new _ _ _
 have R3:=(hR.ext hBw2).ext hB3;have q3:=aA hB3 q2;go_upto_region 5 with fail;rw [←hw3];have hBw3:=ag hBw2 hB3;have hz3:w3.heap.size=w2.heap.size+1:=by rw [hw3];simp
 have hz2:=hB2.size;clear hw3 hB3 hBw2 hR q2;have zl:decide ((c:Int)≤last)=false:=by simp;omega
 obtain ⟨⟨ov,p3,_⟩,_⟩:=id R3;have g1:=Gr.cell (ah w3) (b3.at 0 rfl);have g2:=Gr.cell (ah w3) (p3.at 1 rfl);refine aD (Array.replicate 8 true) 8 0 mixed (by rfl) ?_;refine ay [0,1,2,3,4,5,6,7] 0 rfl (by kernel_rfl) ?_
 iterate 8 (refine aC rfl ?_;go_big_quiet_step (rfl))
 refine ak ?_;refine aI [] (by kernel_rfl) ?_;refine tail_nil ?_;clear g1 g2 p3;have b4:=b3.mono (ah w3);have R4:=R3.ext (ah w3);have q4:=aA (ah w3) q3;have hB4:=ag hBw3 (ah w3);have Rp:w3.drew.heap.size=w2.heap.size+1:=hz3;clear b3 R3 q3 hBw3 hz3;generalize w3.drew=w4 at *;go_upto_region 7 with fail;have g0:=Gr.cell (ah w4) q4;have g1:=Gr.cell (ah w4) (b4.at 0 rfl);have g2:=Gr.cell (ah w4) (b4.at 1 rfl);have g3:=Gr.cell (ah w4) (b4.at 2 rfl);refine aD #[true,true,true,true,true,false,false,false] 5 3 mixed (by rfl) ?_;refine ay [0,1,2,3,4] 0 rfl (by kernel_rfl) ?_
 iterate 5 (refine aC rfl ?_;go_big_quiet_step (rfl))
 refine ak ?_;refine aI [5,6,7] (by kernel_rfl) ?_;refine ug (os:=[_,_,_]) rfl ?_;clear g0 g1 g2 g3;have b5:=b4.mono (ah w4);have R5:=R4.ext (ah w4);have qQ:=ag hB4 (ah w4);have Xe:w4.drew.heap.size=w2.heap.size+1:=Rp;clear b4 R4 q4 hB4 Rp;generalize w4.drew=w5 at *;go_wp2_with fail;refine (RG.out _ R5 _ _).mono ?_;rintro e w6 ⟨rfl,kZ,hs6,R6,keep⟩;have hpw:p≠w2.heap.size:=by have:=hB1.size;omega
 have b6:=keep _ _ _ (Ne.symm hpw) b5;clear keep b5 R5 RG;go_wp2_with fail;refine uh ?_;have UI:=ae (jF (w:=w6) c (by omega));have SB:Below p w w6:=(qQ.mono (Nat.le_of_lt hp)).trans kZ;have hsw:w.heap.size<w6.heap.size:=by have:=hB1.size;omega
 clear qQ Xe kZ hs6 hz2 hB1 hz1;have e0:=b6.at 0 rfl;have e1:=b6.at 1 rfl;have e2:=b6.at 2 rfl;by_cases hch:aX c
 ·rw [decide_eq_true hch] at UI;go_upto_region 11 with (go_at_call 81;refine UI.out.mono ?_;rintro e wz ⟨rfl,rfl⟩);have hbz:Below wz.heap.size wz wz:=Below.refl _ _;clear UI e0 e1 e2;have bz:=b6.mono hbz;have Rz:=R6.ext hbz;have Rc:=Rz.put 1 (.int .i32 (c:Nat)) (last':=c) (o':=o') (fun _=>rfl);obtain ⟨⟨vz,pz,_⟩,_⟩:=id Rz;have e0:=bz.at 0 rfl;have d1:=pz.frozen 1;have e1:=pz.at 1 rfl;have bc:=bz.put (Ne.symm hpw) (.int .i32 (c:Nat)) (o:=1);have f0:=bc.at 0 rfl;have f1:=bc.at 1 rfl;have f2:=bc.at 2 rfl;have HC:=ae Rc;have R7:Below p w wz:=SB.trans (hbz.mono (by omega));have hsz:=hbz.size;clear R6 Rz Rc b6 bz bc SB;go_wp2_with fail;refine (PL.out _ _ _).mono ?_;rintro e wy ⟨rfl,hby⟩;go_wp2;go_ret;exact ⟨rfl,(aj R7 (Nat.le_refl _)).trans (hby.mono (by rw [World.size_setCell];omega)),by have:=hby.size;rw [World.size_setCell] at this;omega,HC.out.ext hby⟩
 ·rw [decide_eq_false hch] at UI;go_upto_region 9 with fail;go_wp2_with fail;refine UI.out.mono ?_;rintro e w7 ⟨rfl,rfl⟩;go_wp2_with fail;refine (PL.out _ _ _).mono ?_;rintro e wz ⟨rfl,hbz⟩;clear UI e0 e1 e2;have bz:=b6.mono hbz;have Rz:=R6.ext hbz;have Rc:=Rz.put 1 (.int .i32 (c:Nat)) (last':=c) (o':=o') (fun _=>rfl);obtain ⟨⟨vz,pz,_⟩,_⟩:=id Rz;have e0:=bz.at 0 rfl;have d1:=pz.frozen 1;have e1:=pz.at 1 rfl;have bc:=bz.put (Ne.symm hpw) (.int .i32 (c:Nat)) (o:=1);have f0:=bc.at 0 rfl;have f1:=bc.at 1 rfl;have f2:=bc.at 2 rfl;have HC:=ae Rc;have R7:Below p w wz:=SB.trans (hbz.mono (by omega));have hsz:=hbz.size;clear R6 Rz Rc b6 bz bc SB;go_wp2_with fail;refine (PL.out _ _ _).mono ?_;rintro e wy ⟨rfl,hby⟩;go_wp2;go_ret;exact ⟨rfl,(aj R7 (Nat.le_refl _)).trans (hby.mono (by rw [World.size_setCell];omega)),by have:=hby.size;rw [World.size_setCell] at this;omega,HC.out.ext hby⟩
def opAt (I:List gm):Nat→List UInt8
 | 0=>[]
 | k+1=>match I[k]? with|some l=>l.op|none=>[]
def VF (l:gm):Prop:=xA l.r∧(l.pl=true→l.r.cls=0∧l.r.map=[])∧(l.pl=false→(l.r.cls≠0∨l.r.map≠[])∧aX l.r.code)
structure FR (I:List gm):Prop where
 ok:∀l∈I,VF l
 step:∀j (h:j<I.length),mG (opAt I j) I[j].nm I[j].op I[j].pl
 rise:rising (I.map (·.r))
 fin:opAt I I.length=[]
 len:I.length<40000
theorem Pn {w:World} {p:Nat} (hG:bZ w) {L:List (aF×Value)} {last:Int} {o:List UInt8} (hR:AR w p L last o) (l:gm) (hs:mG o l.nm l.op l.pl) (hok:VF l) (hlt:last<(l.r.code:Nat)) (hL:L.length<100000) :
 Calls Tryz.prog 127 #[.pointer (some ⟨p,0,none⟩),.string (tx l.t)] w fun e w'=>e=.returned (.string ⟨#[]⟩)∧Below p w w'∧w.heap.size≤w'.heap.size∧∃L',L'.map (·.1)=L.map (·.1)++(if l.pl then [] else [l.r])∧AR w' p L' l.r.code l.op:=by
 obtain ⟨nm,r,op,pl⟩:=l;obtain ⟨h1,h2,h3⟩:=hok;cases pl with
 | true=>
   refine (I6 hG hR hs r h1 (h2 rfl) hlt).mono ?_;rintro e w' ⟨rfl,a,b,c⟩;exact ⟨rfl,a,b,L,by simp,c⟩
 | false=>
   have hs:mG o nm op false:=hs;cases hs;refine (Ez hG hR r h1 hlt (h3 rfl).1 (h3 rfl).2 hL).mono ?_;rintro e w' ⟨rfl,a,b,v,c⟩;exact ⟨rfl,a,b,L++[(r,v)],by simp,c⟩
theorem FT {w0 w:World} {p:Nat} {v:Value} {I:List gm} (hT:FR I) (hG:bZ w0) (hv:bD w0 v (nD (I.map gm.t))) (hp0:w0.heap.size≤p) (hE0:Below w0.heap.size w0 w) (hR:AR w p [] (-1) []) :
 Calls Tryz.prog 126 #[v,.func (.func 127) #[.pointer (some ⟨p,0,none⟩)] #[]] w fun e w'=>e=.returned (.tuple #[.int .i64 0,.string ⟨#[]⟩])∧Below p w w'∧w.heap.size≤w'.heap.size∧∃L,L.map (·.1)=lG I∧AR w' p L (rJ (I.map (·.r)) I.length) []:=by
 obtain ⟨a,cap,hve,_,hx⟩:=hv.out;obtain ⟨n,hn⟩:=af I.length;have hn2:(nD (I.map gm.t)).length=n:=by simp [hn]
 rw [hn2] at hve;subst hve
 have HX:=ae (show ∀i (hi:i<I.length),∃b off,a=some ⟨b,off,none⟩∧b<w0.heap.size∧w0.cell? ⟨b,off+i,none⟩=some (.string (tx I[i].t)) from fun i hi=>by
  obtain ⟨b,off,h1,h2,h3⟩:=hx i (by simpa using hi);refine ⟨b,off,h1,h2,h3.trans ?_⟩
  simp [nD])
 have HN:=ae hn;have HT:=ae hT;have hnl:n<40000:=by rw [hn];exact hT.len
 rw [←hn];clear hn hx hv hn2;go_enter Tryz.func126,Tryz.ntmps126;go_wp2_with fail;go_loopw [11] (fun iv wr=>∃j:Nat,j≤n∧iv=.int .i64 j∧(∃L,L.map (·.1)=lG (I.take j)∧AR wr p L (rJ (I.map (·.r)) j) (opAt I j))∧Below p w wr∧w.heap.size≤wr.heap.size) (fun iv _=>n-(intOf iv).toNat)
 case atStart=>exact ⟨0,Nat.zero_le _,rfl,⟨[],by simp [lG],hR⟩,Below.refl _ _,Nat.le_refl _⟩
 case round=>
  clear hR;obtain ⟨j,hj,rfl,⟨L,hL,hR⟩,hB,hs⟩:=hrel;by_cases hjn:j<n
  ·have zj:decide ((j:Int)<(n:Int))=true:=by simp;omega
   have hjl:j<I.length:=by have:=HN.out;omega
   obtain ⟨b,off,rfl,hb,hc⟩:=HX.out j hjl;have hE:Below w0.heap.size w0 wr:=hE0.trans (hB.mono hp0);have hc:=aA hE hc;have hmem:=List.getElem_mem hjl;have Qw:L.length≤j:=by
    have:=congrArg List.length hL;rw [List.length_map] at this;unfold lG at this;rw [List.length_map] at this;have:=List.length_filter_le (fun l=>!l.pl) (I.take j);rw [List.length_take] at this;omega
   have hlt:rJ (I.map (·.r)) j<(I[j].r.code:Nat):=by
    have:=EJ HT.out.rise j (by rw [List.length_map];exact hjl);simpa using this
   have LI:=ae (Pn (hG.mono hE) hR I[j] (HT.out.step j hjl) (HT.out.ok _ hmem) hlt (by omega));have HL:=ae hL
   have U2:=ae (show lG (I.take (j+1))=lG (I.take j)++(if I[j].pl then [] else [I[j].r]) by
    unfold lG;rw [List.take_succ_eq_append_getElem hjl,List.filter_append,List.map_append]
    cases h:I[j].pl <;> simp [h])
   have U5:=ae (show rJ (I.map (·.r)) (j+1)=(I[j].r.code:Nat) by rw [qw (by rw [List.length_map];exact hjl)];simp);have HOP:=ae (show opAt I (j+1)=I[j].op by show (match I[j]? with|some l=>l.op|none=>[])=_;rw [List.getElem?_eq_getElem hjl]);generalize I[j]=l at *;generalize l.t=lt at *;clear hL hR hmem;go_wp2_with fail;refine LI.out.mono ?_;rintro e w2 ⟨rfl,h1,h2,L',hL',h3⟩;clear LI hc;have z:(⟨#[]⟩:ByteArray).toList.isEmpty=true:=by rw [Lib.toList_data];rfl
   have H3:=ae h3;have HL':=ae hL';clear h3 hL';go_wp2_with fail;go_roundw
   case rel=>
    exact ⟨j+1,by omega,by simp,⟨L',by rw [HL'.out,HL.out,U2.out],by rw [U5.out,HOP.out];exact H3.out⟩,hB.trans h1,by omega⟩
   case measure=>simp [intOf];omega
  ·have zj:decide ((j:Int)<(n:Int))=false:=by simp;omega
   obtain rfl:j=n:=by omega
   have HR:=ae hR;have HL:=ae hL;clear hR hL;go_wp2;go_ret2;have e:=HN.out;refine ⟨rfl,hB,hs,L,by rw [HL.out,List.take_of_length_le (by omega)],?_⟩;have:=HR.out;rw [e,HT.out.fin] at this;rw [e];exact this
theorem CW {w:World} (hG:bZ w) {I:List gm} (hT:FR I) (hlen:(bq (I.map gm.t)).length<1000000) :
 Calls Tryz.prog 87 #[.string (tx (bq (I.map gm.t)))] w fun e w'=>∃(v:Value) (L:List (aF×Value)),e=.returned (.tuple #[v,.nilIface])∧L.map (·.1)=lG I∧w'.ownsRow w.heap.size fE 3 v L.length (L.flatMap dB)∧(∀x∈L,Sl aM w' x.2 (aN x.1.map)∧fH x.2)∧Below w.heap.size w w':=by
 have LN:=ae (pO (w:=w) (I.map gm.t) (by
  intro p hp;obtain ⟨l,hl,rfl⟩:=List.mem_map.1 hp;obtain ⟨i,hi,rfl⟩:=List.getElem_of_mem hl;have h1:=(hT.ok _ hl).1;have h2:=(hT.step i hi).name.2
  exact ⟨Ed h2 h1.cls,Nat.le_trans (NU h2 h1.cls h1.len) (by decide)⟩) hlen)
 obtain ⟨s,hs⟩:=af (tx (bq (I.map gm.t)));rw [←hs] at LN ⊢;clear hs;have hnT:I.length<40000:=hT.len;go_enter Tryz.func87,Tryz.ntmps87;go_wp2_with fail;refine LN.out.mono ?_;rintro e w1 ⟨v,rfl,ho,hB1⟩;have hsl:=(Sl.aT ho).any;obtain ⟨av,cv,rfl,_,_⟩:=az ho;rw [List.length_map] at hsl ⊢;have hB2:=ai (w:=w1) (.cells #[.slice none 0 0,.int .i32 (-1),.string ⟨#[]⟩] 211);have hR:AR (w1.alloc (.cells #[.slice none 0 0,.int .i32 (-1),.string ⟨#[]⟩] 211)) w1.heap.size [] (-1) []:=⟨⟨.slice none 0 0,Is.new _ _ _,World.ownsRow_nil _ _ _ _⟩,by simp⟩;have EA:=ae (FT hT (hG.mono hB1) hsl (Nat.le_refl _) hB2 hR);clear hR hsl ho LN;obtain ⟨n,hn⟩:=af I.length;rw [←hn] at EA hnT ⊢;have z1:decide ((40000:Int)<(n:Int))=false:=by simp;omega
 have z2:(⟨#[]⟩:ByteArray).toList.isEmpty=true:=by rw [Lib.toList_data];rfl
 have z3:(tx []).toList.isEmpty=true:=z2;clear hn;go_wp2_with fail;refine EA.out.mono ?_;rintro e w3 ⟨rfl,h1,h2,L,hL,⟨⟨ov,hp,ho⟩,hM⟩⟩;obtain ⟨oa,oc,rfl,_,_⟩:=az ho;have e0:=hp.at 0 rfl;have e2:=hp.at 2 rfl;have HO:=ae ho;have HM:=ae hM;clear EA ho hM;go_wp2;go_ret2;have hs1:=hB1.size;exact ⟨_,L,rfl,hL,aW HO.out (by omega),HM.out,(hB1.trans ((hB2.mono hs1).trans (h1.mono hs1)))⟩
end Go.Proofs.YtjidohgiigjifaaGreatDoor
namespace Go.Proofs.YtjidohgiigjifaaGreatDoor
open Go.RowKit Go.Cd
theorem yB {w:World} (hG:bZ w) {I:List gm} {T:List aF} {X:List Nat} (hR:FR I) (hT:lG I=T) (hlen:(bq (I.map gm.t)).length<1000000) (hV:bE T X) (hS:∀r∈T,r.cls≠0∨r.map≠[]) (hl:T.length<1000) (hX:X.length<10000) (Us:∀c∈X,aX c) :
 Calls Tryz.prog 58 #[.string (tx (bq (I.map gm.t))),.string (tx (dS X))] w fun e w'=>∃p,e=.returned (.tuple #[.pointer (some ⟨p,0,none⟩),.nilIface])∧dZ w' p T X∧Below w.heap.size w w':=by
 have RP:=ae (CW hG hR hlen);have XP:=ae (fun (W:World) (E:Below w.heap.size w W)=>Ck (hG.mono E) Us hX);have OF:=ae (fun (W:World) (v:Value) (h:nK W v T X)=>OC h hV hS hl hX);rw [hT] at RP;clear hG hR hlen hV hS hT;obtain ⟨s1,h1⟩:∃s,s=tx (bq (I.map gm.t)):=⟨_,rfl⟩;obtain ⟨s2,h2⟩:∃s,s=tx (dS X):=⟨_,rfl⟩;rw [←h1] at RP ⊢;rw [←h2] at XP ⊢;clear h1 h2;go_enter Tryz.func58,Tryz.ntmps58;go_wp2_with fail;refine RP.out.mono ?_;rintro e w6 ⟨v,L,rfl,hL,ho,hm,hb6⟩;obtain ⟨ra,rc,rfl,_,_⟩:=az ho;have HL:=ae hL;have HO:=ae ho;have HM:=ae hm;clear hL ho hm;go_wp2_with fail;refine (XP.out w6 hb6).mono ?_;rintro e w7 ⟨r,rfl,hx,RF⟩;obtain ⟨xa,xc,rfl,_,_⟩:=az hx;have HX:=ae hx;clear hx;have nQ:=ai (w:=w7) (.cells #[.slice xa (ji X).length xc] 125);have hT:nK (w7.alloc (.cells #[.slice xa (ji X).length xc] 125)) (.agg #[.slice ra L.length rc,.slice xa (ji X).length xc]) T X:=by
  have h1:=vF.aT HO.out HM.out;rw [HL.out] at h1;exact ⟨_,_,rfl,h1.mono (ag RF nQ),(Sl.aT HX.out).any.mono nQ⟩
 have hb:=ag (ag hb6 RF) nQ;have HOF:=ae (OF.out _ _ hT);clear hT OF;go_wp2_with fail;refine HOF.out.mono ?_;rintro e w9 ⟨p,rfl,hD,qf⟩;have HD:=ae hD;clear hD;go_wp2_with fail;go_ret2;exact ⟨p,rfl,HD.out,ag hb qf⟩
theorem Bq (T:List aF):∀j,opAt (T.map pF) j=[]
 | 0=>rfl
 | k+1=>by
   show (match (T.map pF)[k]? with|some l=>l.op|none=>[])=[];rw [List.getElem?_map];cases T[k]? <;> rfl
theorem Po {T:List aF} (h:Ic T):FR (T.map pF):=by
 have hm:(T.map pF).map (·.r)=T:=by rw [List.map_map];exact List.map_id _
 refine ⟨fun l hl=>?_,fun j hj=>?_,by rw [hm];exact h.rise,Bq T _,by rw [List.length_map];exact h.len⟩
 ·obtain ⟨r,hr,rfl⟩:=List.mem_map.1 hl;exact ⟨h.ok r hr,fun e=>(by cases e),fun _=>⟨h.says r hr,h.chr r hr⟩⟩
 ·rw [Bq,List.getElem_map];exact .row
theorem FV {w:World} (hG:bZ w) {T:List aF} {X:List Nat} (hR:Ic T) (hlen:(gF T).length<1000000) (hV:bE T X) (hS:∀r∈T,r.cls≠0∨r.map≠[]) (hl:T.length<1000) (hX:X.length<10000) (Us:∀c∈X,aX c) :
 Calls Tryz.prog 58 #[.string (tx (gF T)),.string (tx (dS X))] w fun e w'=>∃p,e=.returned (.tuple #[.pointer (some ⟨p,0,none⟩),.nilIface])∧dZ w' p T X∧Below w.heap.size w w':=by
 have e:gF T=bq ((T.map pF).map gm.t):=by rw [KJ];rfl
 rw [e] at hlen ⊢;exact yB hG (Po hR) (Az T) hlen hV hS hl hX Us
end Go.Proofs.YtjidohgiigjifaaGreatDoor
section
namespace Go.Cd
def Pp (o:List UInt8) (l:gm):Bool:=(!l.pl&&(o==[]&&(l.nm==[88]&&l.op==[])))||(l.pl&&Nw.any fun b=>(o==[]&&(l.nm==b++uX&&l.op==b++uX))||(o==b++uX&&(l.nm==b++Hy&&l.op==[])))
theorem Pq {o:List UInt8} {l:gm} (h:Pp o l=true):mG o l.nm l.op l.pl:=by
 obtain ⟨nm,r,op,pl⟩:=l;unfold Pp at h;cases pl with
 | false=>
   simp at h;obtain ⟨rfl,rfl,rfl⟩:=h;exact .row
 | true=>
   simp at h;obtain ⟨b,hb,⟨rfl,rfl,rfl⟩|⟨rfl,rfl,rfl⟩⟩:=h
   ·exact .fst b hb
   ·exact .lst b hb
def lnB (l:gm):Bool:=decide (l.r.code<1114112)&&decide (l.r.cls<255)&&decide (l.r.map.length≤2)&&l.r.map.all (fun c=>decide (c<1114112))&&(if l.pl then decide (l.r.cls=0)&&decide (l.r.map=[]) else (decide (l.r.cls≠0)||decide (l.r.map≠[]))&&decide (aX l.r.code))
end Go.Cd
namespace Go.Proofs.YtjidohgiigjifaaGreatDoor
open Go.RowKit Go.Cd Go.Shelf
theorem VG {l:gm} (h:lnB l=true):VF l:=by
 obtain ⟨nm,r,op,pl⟩:=l;unfold lnB at h;simp only [Bool.and_eq_true,decide_eq_true_eq,List.all_eq_true] at h;obtain ⟨⟨⟨⟨h1,h2⟩,h3⟩,h4⟩,h5⟩:=h;refine ⟨⟨h1,h2,h3,h4⟩,fun e=>?_,fun e=>?_⟩
 ·have e:pl=true:=e;subst e;simpa using h5
 ·have e:pl=false:=e;subst e;simpa using h5
theorem VH:FR Qz:=by
 have h1:Qz.all lnB=true:=by decide +kernel
 have h2:(List.range Qz.length).all (fun j=>match Qz[j]? with|some l=>Pp (opAt Qz j) l|none=>true)=true:=by decide +kernel
 refine ⟨fun l hl=>VG (List.all_eq_true.1 h1 l hl),fun j hj=>Pq ?_,ui (by decide +kernel),by decide +kernel,by decide +kernel⟩;have:=List.all_eq_true.1 h2 j (List.mem_range.2 hj);rw [List.getElem?_eq_getElem hj] at this;exact this
theorem aaZ {w:World} (b:Nat) :
 Calls Tryz.prog 61 #[.nilIface,.iface 215 (.pointer (some ⟨b,0,none⟩))] w fun e w'=>e=.returned (.bool false)∧w'=w:=by
 have h1:∀W,(eqGuard BinOp.eql 108 (Operand.tmp 12) (Operand.tmp 13) Value.nilIface (.iface 215 (.pointer (some ⟨b,0,none⟩)))).run Tryz.prog W=.ok () W:=fun _=>by kernel_rfl
 have h2:∀W,(binOp BinOp.eql 108 Value.nilIface (.iface 215 (.pointer (some ⟨b,0,none⟩)))).run Tryz.prog W=.ok (.bool false) W:=fun _=>by kernel_rfl
 go_enter Tryz.func61,Tryz.ntmps61;go_wp2;go_ret;exact ⟨rfl,rfl⟩
theorem I7 {w:World}:Calls Tryz.prog 62 #[.int .i64 8] w fun e w'=>e=.returned (.iface 215 (.pointer (some ⟨w.heap.size,0,none⟩)))∧Below w.heap.size w w':=by
 go_enter Tryz.func62,Tryz.ntmps62;go_wp2;go_ret;exact ⟨rfl,ai _⟩
theorem Ma {w:World} (hG:bZ w) :
 Calls Tryz.prog 26 #[] w fun e w'=>∃p,e=.returned (.pointer (some ⟨p,0,none⟩))∧dZ w' p dP Cs∧Below w.heap.size w w':=by
 have RO:=ae (La hG);have EX:=ae (fun (W:World) (E:Below w.heap.size w W)=>Lf (hG.mono E));have LD:=ae (fun (W:World) (E:Below w.heap.size w W)=>yB (hG.mono E) VH RD (by have:=N8;omega) xS RB (by decide) (by decide) (by decide));rw [Ct] at RO;have FO:=ae (fun W=>I7 (w:=W));have EI:=ae (fun W b=>aaZ (w:=W) b);obtain ⟨s1,h1⟩:∃s,s=tx (bq (Qz.map gm.t)):=⟨_,rfl⟩;obtain ⟨s2,h2⟩:∃s,s=tx (dS Cs):=⟨_,rfl⟩;rw [←h1] at RO LD;rw [←h2] at EX LD;clear h1 h2 hG;go_enter Tryz.func26,Tryz.ntmps26;go_wp2_with fail;refine RO.out.mono ?_;rintro e w1 ⟨rfl,b1⟩;go_wp2_with fail;refine (EX.out _ b1).mono ?_;rintro e w2 ⟨rfl,b2⟩;have b12:=ag b1 b2;go_wp2_with fail;refine (LD.out _ b12).mono ?_;rintro e w3 ⟨p,rfl,hD,b3⟩;have SC:=ag b12 b3;have HD:=ae hD;clear hD b1 b2 b12 b3 RO EX LD;go_wp2_with fail;refine (FO.out _).mono ?_;rintro e w4 ⟨rfl,b4⟩;go_wp2_with fail;refine (EI.out _ _).mono ?_;rintro e w5 ⟨rfl,rfl⟩;go_wp2;go_ret;exact ⟨p,rfl,HD.out.mono b4,ag SC b4⟩
end Go.Proofs.YtjidohgiigjifaaGreatDoor
end
namespace Go.Proofs.YtjidohgiigjifaaGreatDoor
open Go.RowKit Go.Cd
theorem CZ {c:Nat}:∀(L:List (Nat×Nat)) (f:Nat→Nat),(∀x∈L,x.1≠c)→(L.foldl (fun f x=>qB f x.1 x.2) f) c=f c
 | [],_,_=>rfl
 | x::L,f,h=>by
   rw [List.foldl_cons,CZ L _ fun y hy=>h y (by simp [hy])];exact gu _ _ (Ne.symm (h x (by simp)))
theorem FW {c v:Nat}:∀(L:List (Nat×Nat)) (f:Nat→Nat),(L.map (·.1)).Nodup→(c,v)∈L→(L.foldl (fun f x=>qB f x.1 x.2) f) c=v
 | [],_,_,h=>by cases h
 | x::L,f,hn,h=>by
   rw [List.map_cons,List.nodup_cons] at hn;rw [List.foldl_cons];rcases List.mem_cons.1 h with rfl|h
   ·rw [CZ L _ fun y hy e=>hn.1 (List.mem_map.2 ⟨y,hy,e⟩)];exact oG _ _ _
   ·exact FW L _ hn.2 h
theorem FY {L:List (Nat×Nat)} {c:Nat} (h:∀x∈L,x.1≠c):gU L c=0:=CZ L _ h
theorem Br {L:List (Nat×Nat)} {c v:Nat} (hn:(L.map (·.1)).Nodup) (h:(c,v)∈L):gU L c=v:=FW L _ hn h
theorem sH {T:List aF} (h:rising T):(T.map (·.code)).Nodup:=by
 rw [List.Nodup,List.pairwise_map,List.pairwise_iff_getElem];intro i j hi hj hij;exact Nat.ne_of_lt (nY h hi hj hij)
theorem Bt {T:List aF} (h:rising T) (c:Nat):gU (yh T) c=aB T c:=by
 have hn:((yh T).map (·.1)).Nodup:=by
  have:(yh T).map (·.1)=T.map (·.code):=by simp [yh]
  rw [this];exact sH h
 unfold aB;cases e:rowOf T c with
 | none=>
   refine FY fun x hx=>?_;obtain ⟨r,hr,rfl⟩:=List.mem_map.1 hx;intro e2;rw [←(show r.code=c from e2),jy h hr] at e;cases e
 | some r=>
   obtain ⟨h1,h2⟩:=ic e;exact Br hn (List.mem_map.2 ⟨r,h1,by rw [h2]⟩)
theorem FZ {T:List aF} {E:List dR} (h:rising T) (he:E.map (·.1)=(mapped T).map (·.code)) (c:Nat) :
 (∃i,∃hi:i<E.length,E[i].1=c∧gU (oN E) c=i+1∧∃r∈T,r.code=c∧r.map≠[])∨(gU (oN E) c=0∧bF T c=[]∧∀x∈E,x.1≠c):=by
 have hn:(E.map (·.1)).Nodup:=by
  rw [he];exact ((sH h).sublist ((List.filter_sublist).map _))
 have hn2:((oN E).map (·.1)).Nodup:=by
  have:(oN E).map (·.1)=E.map (·.1):=by
   unfold oN;rw [List.map_map];have:(fun x:dR×Nat=>x.1.1)=(fun y:dR=>y.1) ∘ Prod.fst:=rfl;show E.zipIdx.map (fun x=>x.1.1)=_;rw [this,←List.map_map,List.zipIdx_map_fst]
  rw [this];exact hn
 by_cases hx:∃x∈E,x.1=c
 ·obtain ⟨x,hx,rfl⟩:=hx;obtain ⟨i,hi,rfl⟩:=List.mem_iff_getElem.1 hx;have hm:E[i].1∈E.map (·.1):=List.mem_map_of_mem hx;rw [he] at hm;obtain ⟨r,hr,e⟩:=List.mem_map.1 hm;obtain ⟨h1,h2⟩:=List.mem_filter.1 hr;refine .inl ⟨i,hi,rfl,Br hn2 (List.mem_map.2 ⟨(E[i],i),?_,rfl⟩),r,h1,e,by simpa using h2⟩;rw [List.mem_zipIdx_iff_getElem?];exact List.getElem?_eq_getElem hi
 ·have hx2:∀x∈E,x.1≠c:=fun x h1 h2=>hx ⟨x,h1,h2⟩;refine .inr ⟨FY fun y hy=>?_,?_,hx2⟩
  ·obtain ⟨z,hz,rfl⟩:=List.mem_map.1 hy;have hz1:=List.mem_zipIdx hz;exact hx2 z.1 (by rw [hz1.2.2];exact List.getElem_mem _)
  ·unfold bF;cases e:rowOf T c with
   | none=>rfl
   | some r=>
     obtain ⟨h1,h2⟩:=ic e;cases em:r.map with
     | nil=>exact em
     | cons a l=>
       exfalso;have hr:r∈mapped T:=List.mem_filter.2 ⟨h1,by simp [em]⟩;have hm:r.code∈(mapped T).map (·.code):=List.mem_map_of_mem hr;rw [←he] at hm;obtain ⟨x,hx,e2⟩:=List.mem_map.1 hm;exact hx2 x hx (e2.trans h2)
theorem nS {w:World} {p:Nat} {T:List aF} {X:List Nat} (h:dZ w p T X) (hV:bE T X) (c:Nat) (hc:c<1114112) :
 Calls Tryz.prog 35 #[.pointer (some ⟨p,0,none⟩),.int .i32 c] w fun e w'=>e=.returned (.int .i64 (aB T c))∧Below w.heap.size w w':=by
 obtain ⟨E,rv,xv,ev,bM,jM,cp,pp,iv,sv,mv,h1,h2,_⟩:=h;have CK:=ae (x_ h2 c hc);rw [Bt hV.rise] at CK;have hlt:aB T c<65536:=by
  rw [←Bt hV.rise];refine Fs (fun x hx=>?_) c;obtain ⟨r,hr,e⟩:=List.mem_map.1 hx;have:=(hV.fine r hr).2.1;rw [←e];exact Nat.lt_trans this (by decide)
 have e2:=h1.is.at 2 rfl;obtain ⟨k,hk⟩:=af (aB T c);rw [←hk] at CK hlt ⊢;clear h1 h2 hk;go_enter Tryz.func35,Tryz.ntmps35;go_wp2_with (go_at_call 69;refine CK.out.mono ?_;rintro e w6 ⟨rfl,hb6⟩);go_ret;exact ⟨rfl,hb6⟩
theorem yC {w:World} {p:Nat} {T:List aF} {X:List Nat} (h:dZ w p T X) (hV:bE T X) (c:Nat) (hc:c<1114112) (hm:bF T c=[]) :
 Calls Tryz.prog 56 #[.pointer (some ⟨p,0,none⟩),.int .i32 c] w fun e w'=>e=.returned (.tuple #[.agg #[.slice none 0 0,.slice none 0 0,.bool false],.bool false])∧Below w.heap.size w w':=by
 obtain ⟨E,rv,xv,ev,bM,jM,cp,pp,iv,sv,mv,h1,h2,h3,_⟩:=h;have h0:gU (oN E) c=0:=by
  rcases FZ hV.rise h1.kX c with ⟨i,hi,e,_,r,hr,h5,h6⟩|⟨h4,_⟩
  ·unfold bF at hm;rw [←h5,jy hV.rise hr] at hm;exact absurd hm h6
  ·exact h4
 have hb0:=ai (w:=w) (.cells #[.slice none 0 0,.slice none 0 0,.bool false] 103);have k0:=Is.new w #[.slice none 0 0,.slice none 0 0,.bool false] 103;have CK:=ae (x_ (h3.mono hb0) c hc);rw [h0] at CK;have e3:=(h1.is.mono hb0).at 3 rfl;clear h1 h2 h3 h0 hm;go_enter Tryz.func56,Tryz.ntmps56;go_wp2_with fail;refine CK.out.mono ?_;rintro e w6 ⟨rfl,hb6⟩;have k6:=k0.mono hb6;have f0:=k6.at 0 rfl;have f1:=k6.at 1 rfl;have f2:=k6.at 2 rfl;have q0:=k6.frozen 0;have q1:=k6.frozen 1;have q2:=k6.frozen 2;have v0:=((k6.set 0 (.slice none 0 0)).set 1 (.slice none 0 0)).set 2 (.bool false);have g0:=v0.at 0 rfl;have g1:=v0.at 1 rfl;have g2:=v0.at 2 rfl;have hfin:=aj (off:=2) (u:=.bool false) (aj (off:=1) (u:=.slice none 0 0) (aj (off:=0) (u:=.slice none 0 0) (ag hb0 hb6) (Nat.le_refl w.heap.size)) (Nat.le_refl w.heap.size)) (Nat.le_refl w.heap.size);clear k0 k6 v0;go_wp2_with fail;exact bodyPost_ret (v:=.tuple #[.agg #[.slice none 0 0,.slice none 0 0,.bool false],.bool false]) (by simp [results,Tryz.results56,go_sem,g0,g1,g2]) rfl ⟨rfl,hfin⟩
structure Zj (w:World) (T:List aF) (X:List Nat) (c:Nat) (x:dR):Prop where
 full:w.ownsRow 0 aM 1 x.2.2.1 (aK T c).length (aN (aK T c))
 maps:w.ownsRow 0 aM 1 x.2.1 (bF T c).length (aN (bF T c))
 nP:x.2.2.2=true↔Prim T X c
theorem vL {w:World} {p:Nat} {T:List aF} {X:List Nat} (h:dZ w p T X) (hV:bE T X) (hl:T.length<1000) (c:Nat) (hc:c<1114112) (hm:bF T c≠[]) :
 Calls Tryz.prog 56 #[.pointer (some ⟨p,0,none⟩),.int .i32 c] w fun e w'=>∃a1 n1 c1 a2 n2 c2 b,e=.returned (.tuple #[.agg #[.slice a1 n1 c1,.slice a2 n2 c2,.bool b],.bool true])∧Zj w T X c (c,.slice a1 n1 c1,.slice a2 n2 c2,b)∧Below w.heap.size w w':=by
 obtain ⟨E,rv,xv,ev,bM,jM,cp,pp,iv,sv,mv,h1,h2,h3,_⟩:=h;obtain ⟨i,hi,hic,h0⟩:∃i,∃hi:i<E.length,E[i].1=c∧gU (oN E) c=i+1:=by
  rcases FZ hV.rise h1.kX c with ⟨i,hi,e,e2,_⟩|⟨_,h4,_⟩
  ·exact ⟨i,hi,e,e2⟩
  ·exact absurd h4 hm
 have RN:E.length<1000:=by
  have:=congrArg List.length h1.kX;rw [List.length_map,List.length_map] at this;rw [this];exact Nat.lt_of_le_of_lt (List.length_filter_le _ _) hl
 have hb0:=ai (w:=w) (.cells #[.slice none 0 0,.slice none 0 0,.bool false] 103);have k0:=Is.new w #[.slice none 0 0,.slice none 0 0,.bool false] 103;have CK:=ae (x_ (h3.mono hb0) c hc);rw [h0] at CK;have hx:=List.getElem_mem hi;have F1:=h1.full _ hx;have F2:=h1.maps _ hx;have F3:=h1.nP _ hx;obtain ⟨g,cap,rfl,hcap,hg,_,hcell⟩:=cB (f:=Fz) Oq rfl h1.mM hi;obtain ⟨x,SE⟩:=af (E[i]);rw [←SE] at hcell F1 F2 F3 hic;rw [hic] at F1 F2 F3;obtain ⟨a1,c1,e1,_,_⟩:=az F2;obtain ⟨a2,c2,e2,_,_⟩:=az F1;rw [e1] at F2;rw [e2] at F1;have hfin:Zj w T X c (c,.slice a1 (bF T c).length c1,.slice a2 (aK T c).length c2,x.2.2.2):=⟨F1,F2,F3⟩;have c0:=(hcell 0 (by decide)).1;have c1':=(hcell 1 (by decide)).1;have c2':=(hcell 2 (by decide)).1;simp only [Fz,List.getElem?_cons_zero,List.getElem?_cons_succ,e1,e2,Nat.add_zero] at c0 c1' c2';obtain ⟨n1,hn1⟩:∃n,n=(bF T c).length:=⟨_,rfl⟩;obtain ⟨n2,hn2⟩:∃n,n=(aK T c).length:=⟨_,rfl⟩;obtain ⟨b,hb⟩:=af x.2.2.2;obtain ⟨nE,hnE⟩:∃n,n=E.length:=⟨_,rfl⟩;rw [←hn1,←hn2,←hb] at hfin;rw [←hn1] at c0;rw [←hn2] at c1';rw [←hb] at c2';have L_:=ae hfin;have e3:=(h1.is.mono hb0).at 3 rfl;have hi':i<nE:=by rw [hnE];exact hi
 have aiv:nE<1000:=by rw [hnE];exact RN
 have w1:IntKind.u16.wrap (((i+1:Nat):Int)-1)=(i:Int):=by rw [IntKind.wrap_u16];omega
 have h4':=h1.is;have z:(((i+1:Nat):Int)==0)=false:=by simp;omega
 rw [←hnE] at h4' hcap e3;clear h1 h2 h3 h0 hm hx F1 F2 F3 SE hcell hic e1 e2 hn1 hn2 hb hfin hnE RN hi;obtain ⟨j,hj⟩:=af (i+1);rw [←hj] at CK w1 z;have hj6:j<65536:=by omega
 clear hj;go_enter Tryz.func56,Tryz.ntmps56;go_wp2_with fail;refine CK.out.mono ?_;rintro e w6 ⟨rfl,hb6⟩;have Ps:=ag hb0 hb6;have k6:=k0.mono hb6;have f0:=k6.at 0 rfl;have f1:=k6.at 1 rfl;have f2:=k6.at 2 rfl;have q0:=k6.frozen 0;have q1:=k6.frozen 1;have q2:=k6.frozen 2;have e4:=(h4'.mono Ps).at 4 rfl;have d0:=aA Ps c0;have d1:=aA Ps c1';have d2:=aA Ps c2';have v0:=((k6.set 0 (.slice a1 n1 c1)).set 1 (.slice a2 n2 c2)).set 2 (.bool b);have g0:=v0.at 0 rfl;have g1:=v0.at 1 rfl;have g2:=v0.at 2 rfl;have hfin:=ae (aj (off:=2) (u:=.bool b) (aj (off:=1) (u:=.slice a2 n2 c2) (aj (off:=0) (u:=.slice a1 n1 c1) Ps (Nat.le_refl w.heap.size)) (Nat.le_refl w.heap.size)) (Nat.le_refl w.heap.size));clear k0 k6 v0 c0 c1' c2' h4' e3 CK;go_wp2_with fail;exact bodyPost_ret (v:=.tuple #[.agg #[.slice a1 n1 c1,.slice a2 n2 c2,.bool b],.bool true]) (by simp [results,Tryz.results56,go_sem,g0,g1,g2]) rfl ⟨a1,n1,c1,a2,n2,c2,b,rfl,L_.out,hfin.out⟩
theorem I8 {w:World} {p:Nat} {T:List aF} {X:List Nat} (h:dZ w p T X) (hV:bE T X) (hl:T.length<1000) (c:Nat) (hc:c<1114112) :
 Calls Tryz.prog 24 #[.pointer (some ⟨p,0,none⟩),.int .i32 c] w fun e w'=>∃r,e=.returned r∧w'.ownsRow w.heap.size aM 1 r (aK T c).length (aN (aK T c))∧Below w.heap.size w w':=by
 have SP:=ae (Ho (w:=w) c hc);by_cases hh:4≤hk c
 ·have hf:=(vD hV hh).1;have hn:hparts c≠[]:=fun e=>by have:=fV.1 e;omega
  have hpos:=List.length_pos_iff.2 hn;rw [hf];obtain ⟨n,hnn⟩:=af ((hparts c).length);obtain ⟨l,hl2⟩:=af (aN (hparts c));rw [←hnn] at hpos SP ⊢;rw [←hl2] at SP ⊢;clear hnn hl2 hf hn h;go_enter Tryz.func24,Tryz.ntmps24;go_wp2_with fail;refine SP.out.mono ?_;rintro e w6 ⟨r,rfl,ho,hb6⟩;obtain ⟨a,cap,rfl,_,_⟩:=az ho;have z:decide (0<n)=true:=by simp;omega
  have HO:=ae ho;clear ho;go_wp2_with fail;go_ret;exact ⟨_,rfl,HO.out,hb6⟩
 ·have hn:hparts c=[]:=fV.2 (by omega);rw [hn] at SP;by_cases hm:bF T c=[]
  ·have hf:aK T c=[c]:=by
    unfold aK;exact g_ (by unfold mapOf;rw [if_pos (by omega),hm]) _
   rw [hf];have HD:=ae (fun (W:World) (E:Below w.heap.size w W)=>yC (h.mono E) hV c hc hm);clear hf h hm hn;go_enter Tryz.func24,Tryz.ntmps24;go_wp2_with fail;refine SP.out.mono ?_;rintro e w6 ⟨r,rfl,ho,hb6⟩;obtain ⟨a,cap,rfl,_,_⟩:=az ho;simp only [List.length_nil];clear ho;go_wp2_with fail;refine (HD.out w6 hb6).mono ?_;rintro e w7 ⟨rfl,RF⟩;have SF:=ag hb6 RF;go_wp2_with fail;go_ret;have ho:=kD (w7.alloc (.cells #[.slice none 0 0,.slice none 0 0,.bool false] 103)) #[.int .i32 (c:Nat)] aM 1 rfl (by decide);have hs:=SF.size;rw [World.size_alloc] at ho;exact ⟨_,rfl,aW ho (by omega),ag SF (dF _ _)⟩
  ·have HD:=ae (fun (W:World) (E:Below w.heap.size w W)=>vL (h.mono E) hV hl c hc hm);have RJ:=ae (iR hV c);clear h hm hn;go_enter Tryz.func24,Tryz.ntmps24;go_wp2_with fail;refine SP.out.mono ?_;rintro e w6 ⟨r,rfl,ho,hb6⟩;obtain ⟨a,cap,rfl,_,_⟩:=az ho;simp only [List.length_nil];clear ho;go_wp2_with fail;refine (HD.out w6 hb6).mono ?_;rintro e w7 ⟨a1,n1,c1,a2,n2,c2,b,rfl,hF,RF⟩;have SF:=ag hb6 RF;have k8:=Is.new w7 #[.slice a1 n1 c1,.slice a2 n2 c2,.bool b] 103;have e1:=k8.at 1 rfl;have nQ:=ai (w:=w7) (.cells #[.slice a1 n1 c1,.slice a2 n2 c2,.bool b] 103);have CL:=ae (lQ (w:=w7.alloc (.cells #[.slice a1 n1 c1,.slice a2 n2 c2,.bool b] 103)) (aK T c) ((Sl.aT hF.full).mono (ag RF nQ)) (fH.aT hF.full) (by have:=RJ.out;omega));have Zk:=ag SF nQ;have hs:=Zk.size;clear hF;go_wp2_with fail;refine CL.out.mono ?_;rintro e w9 ⟨r,rfl,hr,qf⟩;have HR:=ae hr;clear hr;go_wp2_with fail;go_ret;exact ⟨_,rfl,aW HR.out hs,ag Zk qf⟩
abbrev ek:TypeId:=87
abbrev eP:TypeId:=82
def iW (x:Nat×Value):List Value:=[.int .i64 x.1,x.2]
theorem Mc (x:Nat×Value):(iW x).length=2:=rfl
theorem yD:lF Tryz.prog 78 ek (.agg #[.int .i64 0,.slice none 0 0]) 2 32:=⟨rfl,Tryz.underlying78,info_parts (by kernel_rfl)⟩
def SG (v:Value):Prop:=∃a n c,v=.slice a n c
theorem SG.own {w:World} {base size n:Nat} {e:TypeId} {v:Value} {xs:List Value} (h:w.ownsRow base e size v n xs):SG v:=by obtain ⟨a,c,rfl,_⟩:=az h;exact ⟨_,_,_,rfl⟩
theorem F4 {w:World} (x:Nat) (m:Value) (c:Nat) (hx:x<1000000) (hc:c<1000000) :
 Calls Tryz.prog 37 #[.agg #[.int .i64 x,m],.int .i64 c] w fun e w'=>e=.returned (.int .i64 ((x:Int)-c))∧Below w.heap.size w w':=by
 have hb:=ai (w:=w) (.cells #[.int .i64 x,m] ek);have k0:=Is.new w #[.int .i64 x,m] ek;have e0:=k0.at 0 rfl;go_enter Tryz.func37,Tryz.ntmps37;go_wp2;go_ret;exact ⟨by simp,hb⟩
def UD (L:List (Nat×Value)) (c k:Nat) (b:Bool):Prop:=k≤L.length∧(∀t (ht:t<L.length),t<k→L[t].1<c)∧(∀t (ht:t<L.length),k≤t→c≤L[t].1)∧(b=true↔∃hk:k<L.length,L[k].1=c)
theorem C_ {w:World} {base:Nat} {v:Value} {L:List (Nat×Value)} (h:w.ownsRow base ek 2 v L.length (L.flatMap iW)) (hv:∀x∈L,SG x.2) (hs:L.Pairwise fun a b=>a.1<b.1) (hT:∀r∈L,r.1<1000000) (hl:L.length<1000000) (c:Nat) (hc:c<1000000) :
 Calls Tryz.prog 36 #[v,.int .i64 c,.func (.func 37) #[] #[]] w fun e w'=>
  ∃(k:Nat) (b:Bool),e=.returned (.tuple #[.int .i64 k,.bool b])∧UD L c k b∧Below w.heap.size w w':=by
 have HX:=ae (fun (i:Nat) (hi:i<L.length)=>cB (f:=iW) Mc rfl h hi);obtain ⟨a,cap,rfl,_,_⟩:=az h;obtain ⟨n,hn⟩:=af L.length;have HN:=ae hn;have HV:=ae hv;have HS:=ae (show ∀i j (hi:i<L.length) (hj:j<L.length),i<j→L[i].1<L[j].1 from fun i j hi hj hij=>(List.pairwise_iff_getElem.1 hs) i j hi hj hij);have HT:=ae hT;rw [←hn] at hl ⊢;clear h hn hs hT hv;go_enter Tryz.func36,Tryz.ntmps36;go_wp2
 go_loopg [9,10] n (fun g s7 s8 wr=>∃lo hi:Nat,s7=.int .i64 lo∧s8=.int .i64 hi∧lo≤hi∧hi≤n∧hi-lo≤g∧Below w.heap.size w wr∧(∀t (ht:t<L.length),t<lo→L[t].1<c)∧(∀t (ht:t<L.length),hi≤t→c≤L[t].1))
 case atStart=>exact ⟨0,n,rfl,rfl,Nat.zero_le _,Nat.le_refl _,by omega,Below.refl _ _,fun t _ ht=>absurd ht (Nat.not_lt_zero _),fun t h1 h2=>by have:=HN.out;omega⟩
 case round=>
  obtain ⟨lo,hi,rfl,rfl,hlh,hin,hg,hE,h1,h2⟩:=hrel;have I:=ae (And.intro h1 h2);clear h1 h2;by_cases hlt:lo<hi
  ·obtain ⟨h,hh⟩:=af ((lo+hi) / 2);have ko:h<L.length:=by have:=HN.out;omega
   have yt:lo≤h∧h<hi:=by omega
   have e7:((lo:Int)+(hi:Int)) / 2=(h:Int):=by omega
   obtain ⟨g',cap',hsv,_,_,_,hc2⟩:=HX.out h ko;have c0:=aA hE (show w.cell? ⟨g',h*2,none⟩=some (.int .i64 (L[h].1:Nat)) from (hc2 0 (by decide)).1);have c1:=aA hE (show w.cell? ⟨g',h*2+1,none⟩=some L[h].2 from (hc2 1 (by decide)).1);have hcd:=HT.out _ (List.getElem_mem ko);obtain ⟨am,nm,cm,hvv⟩:=HV.out _ (List.getElem_mem ko);rw [hvv] at c1;obtain ⟨y,hy⟩:=af (L[h].1);rw [←hy] at c0 hcd;have Y1:=ae (fun t (ht:t<L.length) (hth:t<h)=>(show L[t].1<y from by rw [hy];exact HS.out t h ht ko hth));have Y2:=ae (fun t (ht:t<L.length) (hth:h<t)=>(show y<L[t].1 from by rw [hy];exact HS.out h t ko ht hth));have YE:=ae (show ∀t (ht:t<L.length),t=h→L[t].1=y from fun t ht e=>by subst e;exact hy.symm);have F1:=ae (fun W=>F4 (w:=W) y (.slice am nm cm) c hcd hc);injection hsv with hsv _ hcp;subst hcp;subst hsv;clear hc2 hvv hy hh;by_cases hyx:y<c
   ·have zy:decide ((y:Int)-(c:Int)<0)=true:=by simp;omega
    go_wp2_with (go_at_call 37;refine (F1.out _).mono ?_;rintro e w2 ⟨rfl,hB2⟩)
    go_roundg (hi-(h+1))
    case measure=>omega
    case rel=>
     refine ⟨h+1,hi,by simp,rfl,by omega,hin,Nat.le_refl _,ag hE hB2,fun t ht hth=>?_,I.out.2⟩;rcases Nat.lt_or_ge t h with h3|h3
     ·have:=Y1.out t ht h3;omega
     ·have:=YE.out t ht (by omega);omega
   ·have zy:decide ((y:Int)-(c:Int)<0)=false:=by simp;omega
    go_wp2_with (go_at_call 37;refine (F1.out _).mono ?_;rintro e w2 ⟨rfl,hB2⟩)
    go_roundg (h-lo)
    case measure=>omega
    case rel=>
     refine ⟨lo,h,rfl,rfl,by omega,by omega,Nat.le_refl _,ag hE hB2,I.out.1,fun t ht hth=>?_⟩;rcases Nat.lt_or_ge h t with h3|h3
     ·have:=Y2.out t ht h3;omega
     ·have:=YE.out t ht (by omega);omega
  ·have:hi=lo:=by omega
   subst this;by_cases hn:hi<n
   ·have ko:hi<L.length:=by have:=HN.out;omega
    obtain ⟨g',cap',hsv,_,_,_,hc2⟩:=HX.out hi ko;have c0:=aA hE (show w.cell? ⟨g',hi*2,none⟩=some (.int .i64 (L[hi].1:Nat)) from (hc2 0 (by decide)).1);have c1:=aA hE (show w.cell? ⟨g',hi*2+1,none⟩=some L[hi].2 from (hc2 1 (by decide)).1);have hcd:=HT.out _ (List.getElem_mem ko);obtain ⟨am,nm,cm,hvv⟩:=HV.out _ (List.getElem_mem ko);rw [hvv] at c1;obtain ⟨y,hy⟩:=af (L[hi].1);rw [←hy] at c0 hcd;have HY:=ae hy;have F1:=ae (fun W=>F4 (w:=W) y (.slice am nm cm) c hcd hc);injection hsv with hsv _ hcp;subst hcp;subst hsv;clear hc2 hvv hy;by_cases hyx:y=c
    ·have zy:(((y:Int)-(c:Int))==0)=true:=by simp;omega
     have HYX:=ae hyx;clear hyx;go_wp2_with (go_at_call 37;refine (F1.out _).mono ?_;rintro e w2 ⟨rfl,hB2⟩);go_ret2;exact ⟨hi,true,by first|rfl|simp,⟨by rw [←HN.out];exact hin,I.out.1,I.out.2,⟨fun _=>⟨ko,by rw [←HY.out];exact HYX.out⟩,fun _=>rfl⟩⟩,ag hE hB2⟩
    ·have zy:(((y:Int)-(c:Int))==0)=false:=by simp;omega
     go_wp2_with (go_at_call 37;refine (F1.out _).mono ?_;rintro e w2 ⟨rfl,hB2⟩);go_ret2;exact ⟨hi,false,by first|rfl|simp,⟨by rw [←HN.out];exact hin,I.out.1,I.out.2,⟨fun h=>(by cases h),fun ⟨_,h⟩=>absurd (HY.out.trans h) hyx⟩⟩,ag hE hB2⟩
   ·go_wp2_with (go_at_call 37;trivial);go_ret2;exact ⟨hi,false,by first|rfl|simp,⟨by rw [←HN.out];exact hin,I.out.1,I.out.2,⟨fun h=>(by cases h),fun ⟨hk,_⟩=>absurd hk (by have:=HN.out;omega)⟩⟩,hE⟩
theorem I_ {P:Program} {W:World} {ops:Array Oper} {rest:List Oper} {o:Oper} {a:Act} {Q:Exit→Act→World→Prop} (hgd:o.guard=none) (s x:Operand) (t:TypeId)
 (ho:o.op=.call { callee:=.builtin .append,args:=#[s,x],argTypes:=#[t,t] })
 (base:Nat) (e:TypeId) (z:Value) (size bytes:Nat) (hE:lF P t e z size bytes) (hs0:0<size) (_:size≤1000) (_:0<bytes) (aaa:bytes≤100000)
 {v:Value} {n:Nat} {xs:List Value} (hs:a.eval s=v) (hown:W.ownsRow base e size v n xs) (hbase:base≤W.heap.size)
 (us:List Value) (Nn:∀u∈us,u.oneCell'=true) (ad:Addr) (m c:Nat) (hm:us.length=m*size) (hx:a.eval x=.slice (some ad) m c) (hc:∀j u,us[j]? = some u→W.cell? (ad.add j)=some u) (hn:n+m<1000000)
 (h:∀v' W',W'.ownsRow base e size v' (n+m) (xs++us)→W.grownBy W' v.ownBlock→jo W v v'→wpList P ops Q rest (a.put o.dst v') W'):wpList P ops Q (o::rest) a W:=by
 obtain ⟨hzs,ht,i,hi,hz,hsize,hby⟩:=hE;have hl:us.length=m*i.size:=by rw [hsize];exact hm
 have hbb:(n+m)*bytes≤140737488355328:=by
  have:(n+m)*bytes≤1000000*100000:=Nat.mul_le_mul (by omega) aaa;omega
 obtain ⟨v',w',hr,h2,h3,_⟩:=run_append_own (P:=P) W base t o.type e i z size bytes ht hi hz hsize hby hzs hs0 v n xs hown ad m c us hm hc Nn (by unfold maxLen;omega) hbb hbase;refine Lib.wpList_append_run _ hgd s x _ _ ho v _ hs hx v' w' hr (h v' w' h2 h3 ?_);rcases Nat.eq_zero_or_pos m with hm0|hm0
 ·have hu0:us=[]:=List.length_eq_zero_iff.1 (by rw [hm,hm0,Nat.zero_mul]);subst hu0;subst hm0;have hr':(Builtin.append_ #[t,t] o.type #[v,.slice (some ad) 0 c]).run P W=.ok v W:=by
   rcases hown.2 with ⟨rfl,rfl⟩|⟨g,cap,cur,rfl,hbg,hg,hnc,hcm,hcs,htake⟩
   ·simp [Builtin.append_,run_underlying ht,sizeOf,typeInfo,hi,Builtin.lenOf,run_firstCells_some (P:=P) W i.size 0 ad 0 c [] hl hc]
   ·simp [Builtin.append_,run_underlying ht,sizeOf,typeInfo,hi,Builtin.lenOf,hnc,Builtin.firstCells,loadCells,loadCellsFrom,storeCells]
  rw [hr'] at hr;injection hr with e1 _;subst e1;exact .inl rfl
 ·rcases hown.2 with ⟨rfl,rfl⟩|⟨g,cap,cur,rfl,hbg,hg,hnc,hcm,hcs,htake⟩
  ·have hr':=run_append_nil (P:=P) W t o.type e i z ht hi hz ad m c us hl hc hm0 (by omega) (by rw [hby];have:=Nat.mul_le_mul (show m≤1000000 by omega) aaa;omega);rw [hr'] at hr;injection hr with e1 _;subst e1;exact .inr ⟨_,rfl,Nat.le_refl _⟩
  ·by_cases hroom:n+m≤cap
   ·have hr':=run_append_room (P:=P) W t o.type e i ht hi g n cap cur hg ad m c us hl hc Nn hroom (by rw [hm,hsize,hcs,←Nat.add_mul];exact Nat.mul_le_mul_right _ hroom);rw [hr'] at hr;injection hr with e1 _;subst e1;exact .inl rfl
   ·have hr':=run_append_grow (P:=P) W t o.type e i z ht hi hz ⟨g,0,none⟩ n cap xs (by rw [hsize];exact hown.1) (hown.cells (g:=g) rfl) ad m c us hl hc (by omega) (by omega) (growslice_fits (by omega) (by rw [hby];omega));rw [hr'] at hr;injection hr with e1 _;subst e1;exact .inr ⟨_,rfl,Nat.le_refl _⟩
theorem yE {w:World} {base:Nat} {v:Value} {L:List (Nat×Value)} (ho:w.ownsRow base ek 2 v L.length (L.flatMap iW)) (hb:base≤w.heap.size) (hl:L.length<100000) (x:Nat×Value) (hx1:x.2.oneCell'=true) {vb:Nat} (hvb:Is w vb (iW x).toArray ek) :
 Calls Tryz.prog 38 #[v,.int .i64 L.length,.slice (some ⟨vb,0,none⟩) 1 1] w fun e w'=>∃v',e=.returned v'∧w'.ownsRow base ek 2 v' (L.length+1) ((L++[x]).flatMap iW)∧w.grownBy w' v.ownBlock∧jo w v v':=by
 obtain ⟨n,hn⟩:=af L.length;obtain ⟨xs,hxs⟩:=af (L.flatMap iW);have HF:=ae (show (L++[x]).flatMap iW=xs++iW x from by rw [List.flatMap_append,hxs];simp);rw [←hn] at hl ⊢;rw [←hn,←hxs] at ho;have hcells:∀(j:Nat) (u:Value),(iW x)[j]? = some u→w.cell? ((⟨vb,0,none⟩:Addr).add j)=some u:=fun j u hj=>by
  have e0:(⟨vb,0,none⟩:Addr).add j=⟨vb,j,none⟩:=by unfold Addr.add;split <;> simp_all
  rw [e0];exact hvb.at j (by simpa using hj)
 have HC:=ae hcells;have HO:=ae ho;have hone:∀u∈iW x,u.oneCell'=true:=fun u hu=>by
  simp only [iW,List.mem_cons,List.not_mem_nil,or_false] at hu;rcases hu with rfl|rfl
  ·rfl
  ·exact hx1
 have VI:=ae hone;clear hn hxs hcells hone hvb;rw [HF.out];rcases ho.2 with ⟨rfl,h0⟩|⟨g,cap,cur,rfl,_,_,hcap,_⟩
 ·subst h0;clear ho;go_enter Tryz.func38,Tryz.ntmps38;go_wp2_with (refine I_ (W:=w) rfl _ _ 78 rfl base ek _ 2 32 yD (by decide) (by decide) (by decide) (by decide) (v:=.slice none 0 0) rfl HO.out hb (iW x) VI.out ⟨vb,0,none⟩ 1 1 rfl rfl HC.out (by omega) ?_;intro v1 w1 o1 g1 n1;have HR:=ae (And.intro o1 (And.intro g1 n1));clear o1 g1 n1);go_ret;exact ⟨_,rfl,HR.out.1,HR.out.2.1,HR.out.2.2⟩
 ·clear ho;by_cases hnc:n=cap
  ·subst hnc;go_enter Tryz.func38,Tryz.ntmps38;go_wp2_with (refine I_ (W:=w) rfl _ _ 78 rfl base ek _ 2 32 yD (by decide) (by decide) (by decide) (by decide) (v:=.slice (some ⟨g,0,none⟩) n n) rfl HO.out hb (iW x) VI.out ⟨vb,0,none⟩ 1 1 rfl rfl HC.out (by omega) ?_;intro v1 w1 o1 g1 n1;have HR:=ae (And.intro o1 (And.intro g1 n1));clear o1 g1 n1);go_ret;exact ⟨_,rfl,HR.out.1,HR.out.2.1,HR.out.2.2⟩
  ·go_enter Tryz.func38,Tryz.ntmps38;go_wp2_with (refine I_ (W:=w) rfl _ _ 78 rfl base ek _ 2 32 yD (by decide) (by decide) (by decide) (by decide) (v:=.slice (some ⟨g,0,none⟩) n cap) rfl HO.out hb (iW x) VI.out ⟨vb,0,none⟩ 1 1 rfl rfl HC.out (by omega) ?_;intro v1 w1 o1 g1 n1;have HR:=ae (And.intro o1 (And.intro g1 n1));clear o1 g1 n1);go_ret;exact ⟨_,rfl,HR.out.1,HR.out.2.1,HR.out.2.2⟩
section
open Go.RowKit Go.Cd
abbrev dN:=Nat×Value×List Nat
def eD (x:dN):List Value:=[.int .i64 x.1,x.2.1]
theorem iE (x:dN):(eD x).length=2:=rfl
abbrev bU:=Nat×Value×List dN
def jX (x:bU):List Value:=[.int .i32 x.1,x.2.1,.slice none 0 0,.slice none 0 0,.int .i64 0,.int .i64 0]
theorem jB (x:bU):(jX x).length=6:=rfl
theorem SH:lF Tryz.prog 74 eP (.agg #[.int .i32 0,.slice none 0 0,.slice none 0 0,.slice none 0 0,.int .i64 0,.int .i64 0]) 6 96:=⟨rfl,Tryz.underlying74,info_parts (by kernel_rfl)⟩
def Ja (w:World) (F:Nat) (e:TypeId) (size:Nat) (v:Value) (n:Nat) (xs:List Value):Prop:=w.ownsRow 0 e size v n xs∧∀k,v.ownBlock=some k→k<F
theorem Ja.low {w w':World} {F n size:Nat} {e:TypeId} {v:Value} {xs:List Value} (h:Ja w F e size v n xs) (hb:Below F w w'):Ja w' F e size v n xs:=⟨iV h.1 fun k hk=>hb.block k (h.2 k hk),h.2⟩
theorem Ja.of {w:World} {B n size:Nat} {e:TypeId} {v:Value} {xs:List Value} (h:w.ownsRow B e size v n xs):Ja w w.heap.size e size v n xs:=⟨aW h (Nat.zero_le _),fun k hk=>(h.lt k hk).2⟩
theorem Ja.le {w:World} {F F' n size:Nat} {e:TypeId} {v:Value} {xs:List Value} (h:Ja w F e size v n xs) (hF:F≤F'):Ja w F' e size v n xs:=⟨h.1,fun k hk=>Nat.lt_of_lt_of_le (h.2 k hk) hF⟩
structure lV (w w':World) (F:Nat) (e:TypeId):Prop where
 size:w.heap.size≤w'.heap.size
 keep:∀k,k<F→kL w k e→w'.heap[k]? = w.heap[k]?
theorem lV.VJ {w w':World} {F n size:Nat} {e:TypeId} (h:lV w w' F e) {v:Value} {xs:List Value} (ho:Ja w F e size v n xs):Ja w' F e size v n xs:=⟨iV ho.1 fun k hk=>h.keep k (ho.2 k hk) (bQ ho.1 hk),ho.2⟩
theorem lV.fI {w w':World} {t e:TypeId} (h:bK w w' t) (hne:e≠t) (F:Nat) (hF:F≤w.heap.size):lV w w' F e:=⟨h.size,fun k hk hc=>h.keep k (by omega) fun h1=>hne (hc.one h1)⟩
theorem lV.of_below {w w':World} {F:Nat} {e:TypeId} (h:Below F w w') (hs:w.heap.size≤w'.heap.size):lV w w' F e:=⟨hs,fun k hk _=>h.block k hk⟩
def sI (w:World) (F:Nat) (r:bU):Prop:=Ja w F ek 2 r.2.1 r.2.2.length (r.2.2.flatMap eD)∧∀x∈r.2.2,Ja w F aM 1 x.2.1 x.2.2.length (aN x.2.2)
theorem sI.keep {w w':World} {F:Nat} {r:bU} (h:sI w F r) (h1:lV w w' F ek) (h2:lV w w' F aM):sI w' F r:=⟨h1.VJ h.1,fun x hx=>h2.VJ (h.2 x hx)⟩
theorem sI.le {w:World} {F F':Nat} {r:bU} (h:sI w F r) (hF:F≤F'):sI w F' r:=⟨h.1.le hF,fun x hx=>(h.2 x hx).le hF⟩
structure Da (w:World) (F G:Nat) (r:bU):Prop where
 row:w.ownsRow F ek 2 r.2.1 r.2.2.length (r.2.2.flatMap eD)
 old:∀x∈r.2.2.dropLast,Ja w G aM 1 x.2.1 x.2.2.length (aN x.2.2)
 last:∀x,r.2.2.getLast? = some x→w.ownsRow G aM 1 x.2.1 x.2.2.length (aN x.2.2)
 fg:F≤G
 gs:G≤w.heap.size
theorem Da.wL {w:World} {F G:Nat} {r:bU} (h:Da w F G r):sI w w.heap.size r:=by
 refine ⟨Ja.of h.row,fun x hx=>?_⟩;rcases List.eq_nil_or_concat r.2.2 with e|⟨q,y,e⟩
 ·rw [e] at hx;cases hx
 ·have e':r.2.2=q++[y]:=by simpa using e
  rw [e'] at hx;rcases List.mem_append.1 hx with hx|hx
  ·exact (h.old x (by rw [e'];simpa using hx)).le h.gs
  ·rw [List.mem_singleton.1 hx];exact Ja.of (h.last y (by rw [e'];simp))
theorem Da.ext {w w':World} {F G:Nat} {r:bU} (h:Da w F G r) (hb:Below w.heap.size w w'):Da w' F G r:=
 ⟨aG h.row hb,fun x hx=>(h.old x hx).low (hb.mono h.gs),fun x hx=>aG (h.last x hx) hb,h.fg,Nat.le_trans h.gs hb.size⟩
theorem Da.mg {w w':World} {F G:Nat} {r:bU} (h:Da w F G r) {t:TypeId} (hc:bK w w' t) (h1:ek≠t) (h2:aM≠t):Da w' F G r:=
 ⟨hc.own h.row h1,fun x hx=>(lV.fI hc h2 G h.gs).VJ (h.old x hx),fun x hx=>hc.own (h.last x hx) h2,h.fg,Nat.le_trans h.gs hc.size⟩
structure DF (w:World) (B p:Nat) (dv rs:Value) (Rs:List bU) (c:bU) (F G:Nat):Prop where
 is:Is w p #[dv,rs,.slice none 0 0,.bool false] 76
 runs:w.ownsRow B eP 6 rs (Rs.length+1) ((Rs++[c]).flatMap jX)
 wL:∀r∈Rs,sI w F r
 cur:Da w F G c
 low:B≤p
section
variable {w w' : World} {B p : Nat} {dv rs : Value} {Rs : List bU} {c : bU} {F G : Nat}
theorem DF.ext (h:DF w B p dv rs Rs c F G) (hb:Below w.heap.size w w'):DF w' B p dv rs Rs c F G:=
 ⟨h.is.mono hb,aG h.runs hb,fun r hr=>(h.wL r hr).keep (.of_below (hb.mono (Nat.le_trans h.cur.fg h.cur.gs)) hb.size) (.of_below (hb.mono (Nat.le_trans h.cur.fg h.cur.gs)) hb.size),h.cur.ext hb,h.low⟩
theorem DF.SI (h:DF w B p dv rs Rs c F G) {rs':Value} {hd:Nat} (ho:w'.ownsRow B eP 6 rs' (Rs.length+2) ((Rs++[c]).flatMap jX++jX (hd,.slice none 0 0,[]))) (hg:w.grownBy w' rs.ownBlock) :
 DF (w'.setCell ⟨p,1,none⟩ rs') B p dv rs' (Rs++[c]) (hd,.slice none 0 0,[]) w'.heap.size w'.heap.size:=by
 have c1:=bK.bP h.runs hg;have i1:=c1.is h.is (by decide);have c2:=bK.put (o:=1) i1 rs';have hF:F≤w.heap.size:=Nat.le_trans h.cur.fg h.cur.gs;have qF:=(h.cur.mg c1 (by decide) (by decide)).mg c2 (by decide) (by decide);have hsz:(w'.setCell ⟨p,1,none⟩ rs').heap.size=w'.heap.size:=by simp
 refine ⟨i1.set 1 rs',?_,fun r hr=>?_,⟨World.ownsRow_nil _ _ _ _,by simp,by simp,Nat.le_refl _,by rw [hsz];exact Nat.le_refl _⟩,h.low⟩
 ·have:=c2.own ho (by decide);rw [List.flatMap_append,List.length_append];simpa using this
 ·rcases List.mem_append.1 hr with hr|hr
  ·refine sI.le (((h.wL r hr).keep (.fI c1 (by decide) F hF) (.fI c1 (by decide) F hF)).keep (.fI c2 (by decide) F (Nat.le_trans hF c1.size)) (.fI c2 (by decide) F (Nat.le_trans hF c1.size))) (Nat.le_trans hF c1.size)
  ·rw [List.mem_singleton.1 hr];have:=qF.wL;rw [hsz] at this;exact this
end
theorem F5 {α:Type} (f:α→List Value) (m:Nat) (hf:∀a,(f a).length=m) (Rs:List α) (c c':α) (j:Nat) (u:Value) (_:j<m) (he:(f c).set j u=f c'):((Rs++[c]).flatMap f).set (Rs.length*m+j) u=(Rs++[c']).flatMap f:=by
 rw [List.flatMap_append,List.flatMap_append,List.set_append_right (h:=by rw [rf f m hf];omega),rf f m hf,Nat.add_sub_cancel_left];simp [he]
section
variable {w w' : World} {B p : Nat} {dv rs : Value} {Rs : List bU} {F G : Nat}
theorem uB {w w':World} {F B n size:Nat} {e t:TypeId} {v:Value} {xs:List Value} (ho:w.ownsRow B e size v n xs) (hg:w.grownBy w' v.ownBlock) (hF:F≤B) (hs:F≤w.heap.size):lV w w' F t:=
 ⟨hg.size,fun k hk _=>hg.block k (by omega) fun e1=>by have:=(ho.lt k e1.symm).1;omega⟩
theorem DF.Pt {hd:Nat} {lv:Value} {Ls:List dN} {g k cap:Nat} (h:DF w B p dv (.slice (some ⟨g,0,none⟩) k cap) Rs (hd,lv,Ls) F G) {Md:Value} {n:Nat} (ho:w'.ownsRow F ek 2 Md (Ls.length+1) (Ls.flatMap eD++eD (n,.slice none 0 0,[]))) (hg:w.grownBy w' lv.ownBlock) :
 DF (w'.setCell ⟨g,Rs.length*6+1,none⟩ Md) B p dv (.slice (some ⟨g,0,none⟩) k cap) Rs (hd,Md,Ls++[(n,.slice none 0 0,[])]) F w'.heap.size:=by
 have hF:F≤w.heap.size:=Nat.le_trans h.cur.fg h.cur.gs;have c1:=bK.bP h.cur.row hg;have hr1:=c1.own h.runs (by decide);obtain ⟨cs,hcs⟩:=bQ hr1 (k:=g) rfl;have c2:=bK.put (o:=Rs.length*6+1) (⟨hcs⟩:Is w' g cs eP) Md;have hsz:(w'.setCell ⟨g,Rs.length*6+1,none⟩ Md).heap.size=w'.heap.size:=by simp
 have hk:k=Rs.length+1:=by
  obtain ⟨_,_,e,_⟩:=az hr1;injection e with _ e _
 have qF:=h.cur;refine ⟨c2.is (c1.is h.is (by decide)) (by decide),?_,fun r hr=>?_,⟨?_,fun x hx=>?_,fun x hx=>?_,?_,by rw [hsz];exact Nat.le_refl _⟩,h.low⟩
 ·have:=(hk▸hr1).stored (Rs.length*6+1) Md;rw [F5 jX 6 jB Rs (hd,lv,Ls) (hd,Md,Ls++[(n,.slice none 0 0,[])]) 1 Md (by decide) rfl] at this;rw [hk];exact this.1
 ·exact ((h.wL r hr).keep (uB qF.row hg (Nat.le_refl _) hF) (.fI c1 (by decide) F hF)).keep (.fI c2 (by decide) F (Nat.le_trans hF c1.size)) (.fI c2 (by decide) F (Nat.le_trans hF c1.size))
 ·have:=c2.own ho (by decide);rw [List.flatMap_append,List.length_append];simpa using this
 ·rw [List.dropLast_concat] at hx;have h1:=(qF.wL).2 x hx;exact (lV.fI c2 (by decide) _ (Nat.le_refl _)).VJ (((lV.fI c1 (by decide) _ (Nat.le_refl _)).VJ h1).le c1.size)
 ·rw [List.getLast?_concat] at hx;cases hx;exact World.ownsRow_nil _ _ _ _
 ·exact Nat.le_trans hF c1.size
theorem DF.SK {hd:Nat} {Ls:List dN} {n:Nat} {v v':Value} {l:List Nat} {gl k cap:Nat} (h:DF w B p dv rs Rs (hd,.slice (some ⟨gl,0,none⟩) k cap,Ls++[(n,v,l)]) F G) {m:Nat} (ho:w'.ownsRow G aM 1 v' (l++[m]).length (aN (l++[m]))) (hg:w.grownBy w' v.ownBlock) :
 DF (w'.setCell ⟨gl,Ls.length*2+1,none⟩ v') B p dv rs Rs (hd,.slice (some ⟨gl,0,none⟩) k cap,Ls++[(n,v',l++[m])]) F G:=by
 have qF:=h.cur;have hF:F≤w.heap.size:=Nat.le_trans qF.fg qF.gs;have hlast:=qF.last (n,v,l) (by simp);have c1:=bK.bP hlast hg;have hr1:=c1.own qF.row (by decide);obtain ⟨cs,hcs⟩:=bQ hr1 (k:=gl) rfl;have c2:=bK.put (o:=Ls.length*2+1) (⟨hcs⟩:Is w' gl cs ek) v';have hgl:F≤gl:=(hr1.lt gl rfl).1;have hk:k=Ls.length+1:=by
  obtain ⟨_,_,e,_⟩:=az hr1;injection e with _ e _;simpa using e
 have b2:Below F w' (w'.setCell ⟨gl,Ls.length*2+1,none⟩ v'):=(Below.refl _ _).setCell hgl v';refine ⟨c2.is (c1.is h.is (by decide)) (by decide),?_,fun r hr=>?_,⟨?_,fun x hx=>?_,fun x hx=>?_,qF.fg,by have:=qF.gs;have:=c1.size;simp;omega⟩,h.low⟩
 ·have:=c2.own (c1.own h.runs (by decide)) (by decide);rw [List.flatMap_append] at this ⊢;exact this
 ·exact ((h.wL r hr).keep (.fI c1 (by decide) F hF) (uB hlast hg qF.fg hF)).keep (.of_below b2 b2.size) (.of_below b2 b2.size)
 ·have h3:w'.ownsRow F ek 2 (.slice (some ⟨gl,0,none⟩) k cap) k ((Ls++[(n,v,l)]).flatMap eD):=by
   have:=hr1;rw [show (hd,Value.slice (some ⟨gl,0,none⟩) k cap,Ls++[(n,v,l)]).2.2.length=k by simp [hk]] at this;exact this
  have:=h3.stored (Ls.length*2+1) v';rw [F5 eD 2 iE Ls (n,v,l) (n,v',l++[m]) 1 v' (by decide) rfl] at this;rw [show (hd,Value.slice (some ⟨gl,0,none⟩) k cap,Ls++[(n,v',l++[m])]).2.2.length=k by simp [hk]];exact this.1
 ·simp only [List.dropLast_concat] at hx;have h1:=qF.old x (by simpa using hx);exact (lV.fI c2 (by decide) G (Nat.le_trans qF.gs c1.size)).VJ ((uB hlast hg (Nat.le_refl _) qF.gs).VJ h1)
 ·simp only [List.getLast?_concat] at hx;cases hx;exact c2.own ho (by decide)
end
end
end Go.Proofs.YtjidohgiigjifaaGreatDoor
