/- TraceParts and TraceWalks: a machine takes a character as those of its full decomposition, one by one; texts that are alike go through it, and of others none; no condition. -/
import Derived.Test.YtjidohgiigjifaaGreatDoorR17
set_option maxRecDepth 100000
set_option maxHeartbeats 6400000
namespace Go.Proofs.YtjidohgiigjifaaGreatDoor
section
open Go.RowKit Go.Cd
theorem abD {α:Type} (f:α→List Value) (m:Nat) (hf:∀a,(f a).length=m):∀(l:List α) (i:Nat) (hi:i<l.length) (x':α) (j:Nat) (u:Value),j<m→(f l[i]).set j u=f x'→(l.flatMap f).set (i*m+j) u=(l.set i x').flatMap f
 | [],i,hi,_,_,_,_,_=>absurd hi (by simp)
 | a::l,0,_,x',j,u,hj,he=>by
   simp only [List.flatMap_cons,Nat.zero_mul,Nat.zero_add,List.set_cons_zero];rw [List.set_append_left _ _ (by rw [hf];exact hj)];rw [show (f a).set j u=f x' from he]
 | a::l,i+1,hi,x',j,u,hj,he=>by
   simp only [List.flatMap_cons,List.set_cons_succ];rw [List.set_append_right (h:=by rw [hf,Nat.add_mul];omega),hf,show (i+1)*m+j-m=i*m+j by rw [Nat.add_mul];omega];rw [abD f m hf l i (by simpa using hi) x' j u hj (by simpa using he)]
theorem iF.mg {w w':World} {t:TypeId} {v:Value} {bs:List Nat} (h:iF w v bs) (hc:bK w w' t) (hne:aU≠t):iF w' v bs:=by
 obtain ⟨s1,s2,hv,h1,h2⟩:=h;have key:∀{s:Value} {xs:List Value},Sl aU w s xs→Sl aU w' s xs:=by
  rintro s xs ⟨a,cap,hv,hcap,hx⟩;refine ⟨a,cap,hv,hcap,hx.imp id ?_⟩;rintro ⟨b,off,cs,fr,ha,hh,hx⟩;refine ⟨b,off,cs,fr,ha,(hc.keep b (block_lt hh) ?_).trans hh,hx⟩;rintro ⟨cs',h9⟩;rw [hh] at h9;injection h9 with h9;injection h9 with _ h9 _;exact hne h9
 exact ⟨s1,s2,hv,key h1,key h2⟩
theorem abE (bs:List Nat):dE bs=fF bs:=by
 have key:∀(bs:List Nat) a,bs.foldl (·*·) a=a * dE bs:=fun bs=>by
  induction bs with
  | nil=>intro a;simp [dE]
  | cons b bs ih=>intro a;rw [List.foldl_cons,ih,dE,Nat.mul_assoc]
 unfold fF;rw [key,Nat.one_mul]
abbrev mP:=bU×(Value×Value×Int)×Int
def kP (x:mP):List Value:=[.int .i32 x.1.1,x.1.2.1,x.2.1.1,x.2.1.2.1,.int .i64 x.2.1.2.2,.int .i64 x.2.2]
theorem uI (x:mP):(kP x).length=6:=rfl
def PY (x:mP):Value:=.agg #[x.2.1.1,x.2.1.2.1,.int .i64 x.2.1.2.2]
def Dl (r:bU):mP:=(r,(.slice none 0 0,.slice none 0 0,0),0)
theorem Gp (Rs:List bU):(Rs.map Dl).flatMap kP=Rs.flatMap jX:=by rw [List.flatMap_map];rfl
def BA (v:Value):Prop:=∃a n c,v=.slice a n c
theorem BA.mk {a:Option Addr} {n c:Nat}:BA (.slice a n c):=⟨_,_,_,rfl⟩
structure jd (w:World) (B N p:Nat) (dv rs gZ:Value) (small:Bool) (Es:List mP) (i:Nat):Prop where
 is:Is w p #[dv,rs,gZ,.bool small] 76
 runs:w.ownsRow B eP 6 rs Es.length (Es.flatMap kP)
 wL:∀e∈Es,sI w N e.1
 low:B≤p
 hi:p<N∧N≤w.heap.size
 Xz:∀e∈Es,BA e.2.1.1∧BA e.2.1.2.1
 VT:∀k (hk:k<Es.length),k<i→iF w (PY Es[k]) (fK Es[k].1.2.2)∧Es[k].2.2=(fu ((Es.map (·.1)).take k):Nat)
section
variable {w w' : World} {B N p : Nat} {dv rs gZ : Value} {small : Bool} {Es : List mP} {i : Nat}
theorem jd.of {Rs:List bU} (h:zY w B N p dv rs gZ small Rs):jd w B N p dv rs gZ small (Rs.map Dl) 0:=
 ⟨h.is,by rw [Gp,List.length_map];exact h.runs,fun e he=>by obtain ⟨r,hr,rfl⟩:=List.mem_map.1 he;exact h.wL r hr,h.low,h.hi,fun e he=>by obtain ⟨r,_,rfl⟩:=List.mem_map.1 he;exact ⟨BA.mk,BA.mk⟩,fun _ _ h=>absurd h (by simp)⟩
theorem jd.ext (h:jd w B N p dv rs gZ small Es i) (hb:Below w.heap.size w w'):jd w' B N p dv rs gZ small Es i:=
 ⟨h.is.mono hb,aG h.runs hb,fun r hr=>(h.wL r hr).keep (.of_below (hb.mono h.hi.2) hb.size) (.of_below (hb.mono h.hi.2) hb.size),h.low,⟨h.hi.1,Nat.le_trans h.hi.2 hb.size⟩,h.Xz,fun k hk hi=>⟨(h.VT k hk hi).1.mono hb,(h.VT k hk hi).2⟩⟩
theorem jd.store {g n c:Nat} (h:jd w B N p dv (.slice (some ⟨g,0,none⟩) n c) gZ small Es i) (hi:i<Es.length) (x':mP) (j:Nat) (u:Value) (hj:j<6) (he:(kP Es[i]).set j u=kP x') (h1:x'.1=Es[i].1) (hsp:BA x'.2.1.1∧BA x'.2.1.2.1) :
 jd (w.setCell ⟨g,i*6+j,none⟩ u) B N p dv (.slice (some ⟨g,0,none⟩) n c) gZ small (Es.set i x') i:=by
 obtain ⟨cs,hcs⟩:=bQ h.runs (k:=g) rfl;have c1:=bK.put (o:=i*6+j) (⟨hcs⟩:Is w g cs eP) u;have hmap:(Es.set i x').map (·.1)=Es.map (·.1):=by
  rw [List.map_set,h1];have:Es[i].1=(Es.map (·.1))[i]'(by simpa using hi):=by simp
  rw [this,List.set_getElem_self]
 refine ⟨c1.is h.is (by decide),?_,fun e he'=>?_,h.low,⟨h.hi.1,by simpa using h.hi.2⟩,fun e he'=>?_,fun k hk hki=>?_⟩
 ·have hn:n=Es.length:=by
   obtain ⟨_,_,e,_⟩:=az h.runs;injection e with _ e _
  subst hn;have:=h.runs.stored (i*6+j) u;rw [abD kP 6 uI Es i hi x' j u hj he] at this;rw [List.length_set];exact this.1
 ·have:sI w N e.1:=by
   rcases List.mem_or_eq_of_mem_set he' with h2|h2
   ·exact h.wL e h2
   ·rw [h2,h1];exact h.wL _ (List.getElem_mem hi)
  exact this.keep (.fI c1 (by decide) N h.hi.2) (.fI c1 (by decide) N h.hi.2)
 ·rcases List.mem_or_eq_of_mem_set he' with h2|h2
  ·exact h.Xz e h2
  ·rw [h2];exact hsp
 ·rw [List.length_set] at hk;have h2:=h.VT k hk hki;rw [hmap];have e9:(Es.set i x')[k]'(by rw [List.length_set];exact hk)=Es[k]:=List.getElem_set_ne (by omega) _;rw [e9];exact ⟨h2.1.mg c1 (by decide),h2.2⟩
theorem jd.more (h:jd w B N p dv rs gZ small Es i) (hi:i<Es.length) (h1:iF w (PY Es[i]) (fK Es[i].1.2.2)) (h2:Es[i].2.2=(fu ((Es.map (·.1)).take i):Nat)):jd w B N p dv rs gZ small Es (i+1):=
 ⟨h.is,h.runs,h.wL,h.low,h.hi,h.Xz,fun k hk hk2=>by
   rcases Nat.lt_succ_iff_lt_or_eq.1 hk2 with h3|rfl
   ·exact h.VT k hk h3
   ·exact ⟨h1,h2⟩⟩
theorem jd.Dm {g n c:Nat} {A D:List mP} {x:mP} (h:jd w B N p dv (.slice (some ⟨g,0,none⟩) n c) gZ small (A++x::D) i) (hi:A.length=i) (x':mP) (j:Nat) (u:Value) (hj:j<6) (he:(kP x).set j u=kP x') (h1:x'.1=x.1) (hsp:BA x'.2.1.1∧BA x'.2.1.2.1) {o:Nat} (ho:o=i*6+j) :
 jd (w.setCell ⟨g,o,none⟩ u) B N p dv (.slice (some ⟨g,0,none⟩) n c) gZ small (A++x'::D) i:=by
 subst ho;subst hi;have e9:(A++x::D)[A.length]'(by simp)=x:=by simp
 have:=h.store (by simp) x' j u hj (by rw [e9];exact he) (by rw [e9];exact h1) hsp;rw [List.set_append_right (h:=Nat.le_refl _),Nat.sub_self,List.set_cons_zero] at this;exact this
theorem jd.cells {g n c:Nat} (h:jd w B N p dv (.slice (some ⟨g,0,none⟩) n c) gZ small Es i) {k:Nat} (hk:k<Es.length) :
 ∀j<6,w.cell? ⟨g,k*6+j,none⟩=(kP Es[k])[j]?∧w.frozen? ⟨g,k*6+j,none⟩=false:=by
 obtain ⟨g',rc,e,_,_,_,hc⟩:=cB (f:=kP) uI rfl h.runs hk;injection e with e _ _;injection e with e;injection e with e;subst e;exact hc
theorem jd.uJ {g n c:Nat} {A D:List mP} {x:mP} (h:jd w B N p dv (.slice (some ⟨g,0,none⟩) n c) gZ small (A++x::D) i) (hi:A.length=i) :
 ∀j<6,w.cell? ⟨g,i*6+j,none⟩=(kP x)[j]?∧w.frozen? ⟨g,i*6+j,none⟩=false:=by
 subst hi;have e9:(A++x::D)[A.length]'(by simp)=x:=by simp
 have:=h.cells (k:=A.length) (by simp);rw [e9] at this;exact this
theorem jd.ZC {A D:List mP} {x:mP} (h:jd w B N p dv rs gZ small (A++x::D) i) (hi:A.length=i) (h1:iF w (PY x) (fK x.1.2.2)) (h2:x.2.2=(fu (A.map (·.1)):Nat)):jd w B N p dv rs gZ small (A++x::D) (i+1):=by
 subst hi;have e9:(A++x::D)[A.length]'(by simp)=x:=by simp
 refine h.more (by simp) (by rw [e9];exact h1) ?_;rw [e9,List.map_append,List.take_append_of_le_length (by simp),List.take_of_length_le (by simp)];exact h2
end
end
open Go.RowKit Go.Cd
theorem Tv (Rs:List bU) (j:Nat):fu (Rs.take j)≤fu Rs:=by
 have:fu Rs=fu (Rs.take j)+fu (Rs.drop j):=by unfold fu;rw [←List.sum_append,←List.map_append,List.take_append_drop]
 omega
theorem Gq (Ls:List dN):∀b∈fK Ls,1≤b:=fun b hb=>by
 obtain ⟨x,_,rfl⟩:=List.mem_map.1 hb;omega
theorem bK.trans {a b c:World} {t:TypeId} (h:bK a b t) (k:bK b c t):bK a c t:=
 ⟨Nat.le_trans h.size k.size,fun i hi hc=>by
   have h1:=h.keep i hi hc;refine (k.keep i (Nat.lt_of_lt_of_le hi h.size) ?_).trans h1;rintro ⟨cs,h2⟩
   exact hc ⟨cs,h1▸h2⟩⟩
theorem bK.of_below {a b:World} (t:TypeId) (h:Below a.heap.size a b):bK a b t:=⟨h.size,fun i hi _=>h.block i hi⟩
theorem dJ.mg {w w':World} {t:TypeId} {v:Value} {x:Nat} (h:dJ w v x) (hc:bK w w' t) (hne:lC≠t):dJ w' v x:=by
 obtain ⟨s,hv,a,cap,hs,hcap,hx⟩:=h;refine ⟨s,hv,a,cap,hs,hcap,hx.imp id ?_⟩;rintro ⟨b,off,cs,fr,ha,hh,hx⟩;refine ⟨b,off,cs,fr,ha,(hc.keep b (block_lt hh) ?_).trans hh,hx⟩;rintro ⟨cs',h9⟩;rw [hh] at h9;injection h9 with h9;injection h9 with _ h9 _;exact hne h9
theorem Gs {w:World} {B N p g nr rc:Nat} {dv gZ:Value} {small:Bool} {Rs:List bU} (h:zY w B N p dv (.slice (some ⟨g,0,none⟩) nr rc) gZ small Rs) (hf:Bz Rs) (hs:small=true→fu Rs≤16384) (hBg:B≤g) :
 Calls Tryz.prog 43 #[.pointer (some ⟨p,0,none⟩)] w fun e w'=>e=.returned (.tuple #[])∧∃Es,Es.map (·.1)=Rs∧jd w' B N p dv (.slice (some ⟨g,0,none⟩) nr rc) gZ small Es (if small=true then Es.length else 0)∧Below B w w'∧bK w w' eP:=by
 have i1:=h.is;have e1:=i1.at 1 rfl;have e3:=i1.at 3 rfl;have hnr:nr=Rs.length:=by
  obtain ⟨_,_,e,_⟩:=az h.runs;injection e with _ e _
 have HM:=ae (jd.of h);have UJ:=ae hnr;have adz:nr<10000:=by rw [hnr];exact hf.1
 have HF:=ae hf;have hBw:B≤w.heap.size:=by have:=h.low;have:=h.hi;omega
 clear h hf hnr i1;go_enter Tryz.func43,Tryz.ntmps43;cases small with
 | false=>
   go_wp2_with fail;exact bodyPost_ret (results_none rfl _ _ _) rfl ⟨rfl,_,by rw [List.map_map];exact List.map_id _,HM.out,Below.refl _ _,.of_below _ (Below.refl _ _)⟩
 | true=>
   have HS:=ae (hs rfl);clear hs;go_wp2_with fail;go_loopw [2,3,4,15] (fun fv _ _ iv wr=>∃i:Nat,i≤nr∧iv=.int .i64 i∧fv=.int .i64 (fu (Rs.take i):Nat)∧(∃A:List mP,A.map (·.1)=Rs.take i∧jd wr B N p dv (.slice (some ⟨g,0,none⟩) nr rc) gZ true (A++(Rs.drop i).map Dl) i)∧Below B w wr∧bK w wr eP) (fun _ _ _ iv _=>nr-(intOf iv).toNat)
   case atStart=>exact ⟨0,Nat.zero_le _,rfl,rfl,⟨[],rfl,HM.out⟩,Below.refl _ _,.of_below _ (Below.refl _ _)⟩
   case round=>
    obtain ⟨i,hi,rfl,rfl,⟨A,hA,hM⟩,hE,hC⟩:=hrel;have Kh:A.length=i:=by
     have:=congrArg List.length hA;rw [List.length_map,List.length_take,←UJ.out] at this;omega
    by_cases hin:i<nr
    ·have zi:decide ((i:Int)<(nr:Int))=true:=by simp;omega
     have hir:i<Rs.length:=by have:=UJ.out;omega
     have hdr:Rs.drop i=Rs[i]::Rs.drop (i+1):=List.drop_eq_getElem_cons hir;have htk:Rs.take (i+1)=Rs.take i++[Rs[i]]:=List.take_succ_eq_append_getElem hir;have oV:=HF.out.2 _ (List.getElem_mem hir);have hsz:=uH hir;have hle:=Nat.le_trans (Tv Rs (i+1)) HS.out;obtain ⟨r,hr⟩:=af (Rs[i]);rw [←hr] at hdr htk oV hsz;rw [hdr,List.map_cons] at hM;have hc:=hM.uJ Kh;have hfz:sI wr N r:=hM.wL (Dl r) (by simp);obtain ⟨hd,lv,Ls⟩:=r;obtain ⟨la,lc,hlv,_,_⟩:=az hfz.1.1;simp only at hlv;obtain ⟨ln,hln⟩:=af Ls.length;rw [←hln] at hlv;subst hlv;have c0:wr.cell? ⟨g,i*6,none⟩=some (.int .i32 hd):=(hc 0 (by decide)).1;have c1:wr.cell? ⟨g,i*6+1,none⟩=some (.slice la ln lc):=(hc 1 (by decide)).1;have c2:wr.cell? ⟨g,i*6+2,none⟩=some (.slice none 0 0):=(hc 2 (by decide)).1;have c3:wr.cell? ⟨g,i*6+3,none⟩=some (.slice none 0 0):=(hc 3 (by decide)).1;have c4:wr.cell? ⟨g,i*6+4,none⟩=some (.int .i64 0):=(hc 4 (by decide)).1;have c5:wr.cell? ⟨g,i*6+5,none⟩=some (.int .i64 0):=(hc 5 (by decide)).1;have Xk:wr.cell? ⟨p,1,none⟩=some (.slice (some ⟨g,0,none⟩) nr rc):=hM.is.at 1 rfl;have HBS:=ae (yI (w:=wr) (F:=N) (hd:=hd) (la:=la) (ln:=ln) (lc:=lc) (Ls:=Ls) hfz oV.1 oV.2 none none 0 0 0 0 0 0);have HM1:=ae hM;have ZE:=ae oV;have U1:=ae hsz;have Yq:=ae hln;have U2:=ae htk;have HA:=ae hA;have M_:=ae Kh;clear hc hfz oV hsz hr hM hln hdr htk hA Kh e1 e3;go_wp2_with fail;refine HBS.out.mono ?_;rintro e w3 ⟨bv,rfl,ho3,hb3⟩;go_wp2_with fail;have hbl:=yH Ls;have hl1:ln<10000:=by rw [Yq.out];exact ZE.out.1
     rw [←Yq.out] at hbl ho3;have hsm:=qH (r:=(hd,.slice la ln lc,Ls)) ZE.out.2;have ha:bD w3 bv (ds (fK Ls)):=by
      rw [←hbl,←show (ds (fK Ls)).length=(fK Ls).length by simp [ds]] at ho3;exact (Sl.aT ho3).any
     have NW:=Tc ha (by omega) (Gq Ls) (fun b hb=>by have:=hsm b hb;unfold Go.Cd.B at this;omega);refine NW.mono ?_;rintro e w4 ⟨rv,e0,rfl,hb4,Xl⟩;have hsR:PQ (hd,.slice la ln lc,Ls)=dE (fK Ls):=(abE _).symm;have hsz:=U1.out;rw [hsR] at hsz;rw [hsz] at hle;have adA:e0=0∧iF w4 rv (fK Ls):=by
      rcases Xl with ⟨_,h2,h3⟩|⟨h1,_⟩
      ·exact ⟨h2,h3⟩
      ·omega
     obtain ⟨rfl,hR4⟩:=adA;obtain ⟨s1,s2,rfl,hs1,hs2⟩:=id hR4;obtain ⟨x1,y1,rfl,_,_⟩:=hs1.out;obtain ⟨x2,y2,rfl,_,_⟩:=hs2.out;have hbw:Below wr.heap.size wr w4:=hb3.trans (hb4.mono hb3.size);have hBr:B≤wr.heap.size:=by have:=HM1.out.low;have:=HM1.out.hi;omega
     have kW:=hE.trans (hbw.mono hBr);have RY:=HM1.out.ext hbw;obtain ⟨P,hP⟩:=af (dE (fK Ls));obtain ⟨F,hF⟩:=af (fu (Rs.take i));obtain ⟨m1,hm1⟩:=af ((ds (fK Ls)).length);obtain ⟨m2,hm2⟩:=af ((ds (weights (fK Ls))).length);rw [←hP,←hm1,←hm2] at hR4;rw [←hP,←hF] at hsz hle;rw [←hP,←hm1,←hm2,←hF];have k4:=RY.uJ M_.out;have QM:=RY.Dm M_.out ((hd,.slice la ln lc,Ls),(.slice x1 m1 y1,.slice none 0 0,0),0) 2 (.slice x1 m1 y1) (by decide) rfl rfl ⟨BA.mk,BA.mk⟩ (o:=i*6+2) rfl;have k5:=QM.uJ M_.out;have XA:=QM.Dm M_.out ((hd,.slice la ln lc,Ls),(.slice x1 m1 y1,.slice x2 m2 y2,0),0) 3 (.slice x2 m2 y2) (by decide) rfl rfl ⟨BA.mk,BA.mk⟩ (o:=i*6+2+1) rfl;have k6:=XA.uJ M_.out;have hM7:=XA.Dm M_.out ((hd,.slice la ln lc,Ls),(.slice x1 m1 y1,.slice x2 m2 y2,P),0) 4 (.int .i64 P) (by decide) rfl rfl ⟨BA.mk,BA.mk⟩ (o:=i*6+2+2) rfl;have k7:=hM7.uJ M_.out;have hM8:=hM7.Dm M_.out ((hd,.slice la ln lc,Ls),(.slice x1 m1 y1,.slice x2 m2 y2,P),F) 5 (.int .i64 F) (by decide) rfl rfl ⟨BA.mk,BA.mk⟩ (o:=i*6+5) rfl;have k8:=hM8.uJ M_.out;have t1:=bK.put (o:=i*6+2) (⟨(bQ RY.runs (k:=g) rfl).choose_spec⟩:Is w4 g _ eP) (.slice x1 m1 y1);have t2:=bK.put (o:=i*6+2+1) (⟨(bQ QM.runs (k:=g) rfl).choose_spec⟩:Is _ g _ eP) (.slice x2 m2 y2);have t3:=bK.put (o:=i*6+2+2) (⟨(bQ XA.runs (k:=g) rfl).choose_spec⟩:Is _ g _ eP) (.int .i64 P);have t4:=bK.put (o:=i*6+5) (⟨(bQ hM7.runs (k:=g) rfl).choose_spec⟩:Is _ g _ eP) (.int .i64 F);have HC8:=ae (hC.trans ((bK.of_below eP hbw).trans (t1.trans (t2.trans (t3.trans t4)))));have hR8:=(((hR4.mg t1 (by decide)).mg t2 (by decide)).mg t3 (by decide)).mg t4 (by decide);clear t1 t2 t3 t4 hC;have hM9:=hM8.ZC M_.out hR8 (by rw [HA.out,hF]);have vk:Below B w _:=aj (aj (aj (aj kW (b:=g) (off:=i*6+2) (u:=.slice x1 m1 y1) hBg) (b:=g) (off:=i*6+2+1) (u:=.slice x2 m2 y2) hBg) (b:=g) (off:=i*6+2+2) (u:=.int .i64 P) hBg) (b:=g) (off:=i*6+5) (u:=.int .i64 F) hBg;have r42:w4.cell? ⟨g,i*6+2,none⟩=some (.slice none 0 0):=(k4 2 (by decide)).1;have q42:w4.frozen? ⟨g,i*6+2,none⟩=false:=(k4 2 (by decide)).2;have r53:(w4.setCell ⟨g,i*6+2,none⟩ (.slice x1 m1 y1)).cell? ⟨g,i*6+2+1,none⟩=some (.slice none 0 0):=(k5 3 (by decide)).1;have q53:(w4.setCell ⟨g,i*6+2,none⟩ (.slice x1 m1 y1)).frozen? ⟨g,i*6+2+1,none⟩=false:=(k5 3 (by decide)).2;have r64:((w4.setCell ⟨g,i*6+2,none⟩ (.slice x1 m1 y1)).setCell ⟨g,i*6+2+1,none⟩ (.slice x2 m2 y2)).cell? ⟨g,i*6+2+2,none⟩=some (.int .i64 0):=(k6 4 (by decide)).1;have q64:((w4.setCell ⟨g,i*6+2,none⟩ (.slice x1 m1 y1)).setCell ⟨g,i*6+2+1,none⟩ (.slice x2 m2 y2)).frozen? ⟨g,i*6+2+2,none⟩=false:=(k6 4 (by decide)).2;have r75:(((w4.setCell ⟨g,i*6+2,none⟩ (.slice x1 m1 y1)).setCell ⟨g,i*6+2+1,none⟩ (.slice x2 m2 y2)).setCell ⟨g,i*6+2+2,none⟩ (.int .i64 P)).cell? ⟨g,i*6+5,none⟩=some (.int .i64 0):=(k7 5 (by decide)).1;have q75:(((w4.setCell ⟨g,i*6+2,none⟩ (.slice x1 m1 y1)).setCell ⟨g,i*6+2+1,none⟩ (.slice x2 m2 y2)).setCell ⟨g,i*6+2+2,none⟩ (.int .i64 P)).frozen? ⟨g,i*6+5,none⟩=false:=(k7 5 (by decide)).2;have r82:((((w4.setCell ⟨g,i*6+2,none⟩ (.slice x1 m1 y1)).setCell ⟨g,i*6+2+1,none⟩ (.slice x2 m2 y2)).setCell ⟨g,i*6+2+2,none⟩ (.int .i64 P)).setCell ⟨g,i*6+5,none⟩ (.int .i64 F)).cell? ⟨g,i*6+2,none⟩=some (.slice x1 m1 y1):=(k8 2 (by decide)).1;have r83:((((w4.setCell ⟨g,i*6+2,none⟩ (.slice x1 m1 y1)).setCell ⟨g,i*6+2+1,none⟩ (.slice x2 m2 y2)).setCell ⟨g,i*6+2+2,none⟩ (.int .i64 P)).setCell ⟨g,i*6+5,none⟩ (.int .i64 F)).cell? ⟨g,i*6+2+1,none⟩=some (.slice x2 m2 y2):=(k8 3 (by decide)).1;have r84:((((w4.setCell ⟨g,i*6+2,none⟩ (.slice x1 m1 y1)).setCell ⟨g,i*6+2+1,none⟩ (.slice x2 m2 y2)).setCell ⟨g,i*6+2+2,none⟩ (.int .i64 P)).setCell ⟨g,i*6+5,none⟩ (.int .i64 F)).cell? ⟨g,i*6+2+2,none⟩=some (.int .i64 P):=(k8 4 (by decide)).1;have HM9:=ae hM9;have HE8:=ae vk;have ZF:=ae hR8;have HF9:=ae hF;have HP9:=ae hP;clear k4 k5 k6 k7 k8 RY QM XA hM7 hM8 hM9 vk hR4 hR8 hs1 hs2 hF hP Xl kW hE hbw hb3 hb4 ho3 ha NW hm1 hm2;go_wp2_with fail;refine (Ti ZF.out.weak (Gq Ls) (by rw [←HP9.out];omega)).mono ?_
     rintro e w5 ⟨rfl,hb5⟩;rw [←HP9.out];have adE:=HM9.out.ext hb5;have LB:=HE8.out.trans (hb5.mono (Nat.le_trans hBw HE8.out.size));have e9:IntKind.i64.wrap ((F:Int)+(P:Int))=((F+P:Nat):Int):=by rw [IntWalk.i64_in _ (by omega)];omega
     go_wp2_with fail;go_roundw
     case rel=>
      refine ⟨i+1,by omega,by simp,by rw [hsz,Int.natCast_add],⟨A++[(((hd,Value.slice la ln lc,Ls),(Value.slice x1 m1 y1,Value.slice x2 m2 y2,(P:Int)),(F:Int)):mP)],by rw [List.map_append,HA.out,U2.out];rfl,?_⟩,LB,HC8.out.trans (.of_below _ hb5)⟩;rw [List.append_assoc];exact adE
     case measure=>simp [intOf];omega
    ·have zi:decide ((i:Int)<(nr:Int))=false:=by simp;omega
     obtain rfl:i=nr:=by omega
     have ht:Rs.take i=Rs:=List.take_of_length_le (by rw [UJ.out];exact Nat.le_refl _);have hd:Rs.drop i=[]:=List.drop_eq_nil_of_le (by rw [UJ.out];exact Nat.le_refl _);rw [ht] at hA;rw [hd,List.map_nil,List.append_nil] at hM;have HA:=ae hA;have HM9:=ae hM;have M_:=ae Kh;clear hA hM Kh ht hd e1 e3;go_wp2_with fail
     go_end0
     refine ⟨rfl,A,HA.out,?_,hE,hC⟩;simp only [M_.out];exact HM9.out
def jk (w:World) (B p dp:Nat) (K:Nat→Nat) (l:List Nat):Prop:=
 ∃N rs gZ Es,(Es.map (·.1)).map bU.sp=dU K l∧
  jd w B N p (.pointer (some ⟨dp,0,none⟩)) rs gZ (decide (fu (Es.map (·.1))≤16384)) Es (if decide (fu (Es.map (·.1))≤16384)=true then Es.length else 0)∧
  dJ w (.agg #[gZ]) (fu (Es.map (·.1)))
theorem Gt {w:World} {B n g rc:Nat} {Rs:List bU} {r:bU} (h:w.ownsRow B eP 6 (.slice (some ⟨g,0,none⟩) n rc) (Rs.length+1) ((Rs++[r]).flatMap jX)) :
 w.cell? ⟨g,Rs.length*6+1,none⟩=some r.2.1∧w.frozen? ⟨g,Rs.length*6+1,none⟩=false:=by
 obtain ⟨g',rc',e,_,_,_,hc⟩:=cB (f:=jX) jB (l:=Rs++[r]) (by simp) h (i:=Rs.length) (by simp);injection e with e _ _;injection e with e;injection e with e;subst e;have h1:=hc 1 (by decide);refine ⟨h1.1.trans ?_,h1.2⟩;simp [jX]
theorem uK {w:World} {B n g rc:Nat} {q:List dN} {y:dN} (h:w.ownsRow B ek 2 (.slice (some ⟨g,0,none⟩) n rc) (q.length+1) ((q++[y]).flatMap eD)) :
 w.cell? ⟨g,q.length*2+1,none⟩=some y.2.1∧w.frozen? ⟨g,q.length*2+1,none⟩=false:=by
 obtain ⟨g',rc',e,_,_,_,hc⟩:=cB (f:=eD) iE (l:=q++[y]) (by simp) h (i:=q.length) (by simp);injection e with e _ _;injection e with e;injection e with e;subst e;have h1:=hc 1 (by decide);refine ⟨h1.1.trans ?_,h1.2⟩;simp [eD]
theorem Gu {w:World} {dp:Nat} {T:List aF} {X:List Nat} (h:dZ w dp T X) (hV:bE T X) {v:Value} (l:List Nat) (hv:bD w v (aN l)) (hc:∀c∈l,c<1114112) (hin:iQ (aB T) l) (hln:l.length<8000) :
 Calls Tryz.prog 13 #[.pointer (some ⟨dp,0,none⟩),v] w fun e w'=>∃p,e=.returned (.pointer (some ⟨p,0,none⟩))∧jk w' w.heap.size p dp (aB T) l∧Below w.heap.size w w':=by
 obtain ⟨n,hn⟩:=af l.length;obtain ⟨a,cap,rfl,hcap,hx⟩:=bD.Mf hv hn;have HX:=ae hx;have HC:=ae hc;have HN:=ae hn;have CL:=ae (fun (W:World) (E:Below w.heap.size w W) c (hc:c<1114112)=>nS (h.mono E) hV c hc);have hcl:∀c,aB T c<1000000:=fun c=>by
  unfold aB;cases e:rowOf T c with
  | none=>decide
  | some r=>
    have:=(hV.fine r (ic e).1).2.1;show r.cls<1000000;omega
 obtain ⟨K,hK⟩:=af (aB T);rw [←hK] at CL hcl hin ⊢;have HCL:=ae hcl;have HIN:=ae hin;rw [←hn] at hln;have hmk:∀W,(Instr.makeSlice 74 (.int .i64 1) (.int .i64 1)).run Tryz.prog W=.ok (.slice (some ⟨W.heap.size,0,none⟩) 1 1) (W.alloc (.cells #[.int .i32 0,.slice none 0 0,.slice none 0 0,.slice none 0 0,.int .i64 0,.int .i64 0] eP)):=fun W=>by kernel_rfl
 obtain ⟨w1,hw1⟩:=af ((w.alloc (.cells #[.int .i32 0,.slice none 0 0,.slice none 0 0,.slice none 0 0,.int .i64 0,.int .i64 0] eP)).alloc (.cells #[.pointer (some ⟨dp,0,none⟩),.slice (some ⟨w.heap.size,0,none⟩) 1 1,.slice none 0 0,.bool false] 76));have hb1:Below w.heap.size w w1:=by rw [hw1];exact dF _ _
 have hz1:w1.heap.size=w.heap.size+2:=by rw [hw1];simp
 have hT1:DF w1 w.heap.size (w.heap.size+1) (.pointer (some ⟨dp,0,none⟩)) (.slice (some ⟨w.heap.size,0,none⟩) 1 1) [] (0,.slice none 0 0,[]) w1.heap.size w1.heap.size:=by
  have i1:Is w1 (w.heap.size+1) #[.pointer (some ⟨dp,0,none⟩),.slice (some ⟨w.heap.size,0,none⟩) 1 1,.slice none 0 0,.bool false] 76:=by rw [hw1];exact Is.new' _ _ _ _ (by simp)
  have i0:Is w1 w.heap.size #[.int .i32 0,.slice none 0 0,.slice none 0 0,.slice none 0 0,.int .i64 0,.int .i64 0] eP:=by rw [hw1];exact (Is.new _ _ _).mono (ai _)
  exact ⟨i1,⟨rfl,.inr ⟨w.heap.size,1,_,rfl,Nat.le_refl _,i0.at_,Nat.le_refl _,by decide,rfl,rfl⟩⟩,by simp,⟨World.ownsRow_nil _ _ _ _,by simp,by simp,Nat.le_refl _,Nat.le_refl _⟩,Nat.le_succ _⟩
 obtain ⟨p,hp⟩:=af (w.heap.size+1);obtain ⟨B,hB⟩:=af w.heap.size;rw [←hp,←hB] at hT1;have HT1:=ae hT1;have HB:=ae hB;have Xq:B≤p:=by omega
 clear h hV hv hc hx hn hK hcl hin hT1;rw [←hB] at hb1 hz1;clear hB;go_enter Tryz.func13,Tryz.ntmps13;go_wp2_with fail;rw [←hw1];rw [←hp];clear hw1 hmk hp;go_loopw [7,8,9,10,11,20] (fun _ _ _ _ _ iv wr=>∃j:Nat,j≤n∧iv=.int .i64 j∧(∃rs Rs c F G,DF wr B p (.pointer (some ⟨dp,0,none⟩)) rs Rs c F G∧B≤F∧(Rs++[c]).map bU.sp=dU K (l.take j)∧fq K l j c∧Rs.length≤j)∧Below B w wr) (fun _ _ _ _ _ iv _=>n-(intOf iv).toNat)
 case atStart=>exact ⟨0,Nat.zero_le _,rfl,⟨_,_,_,_,_,HT1.out,by omega,rfl,fq.nil _ _ _ _ _,Nat.zero_le _⟩,hb1⟩
 case round=>
  obtain ⟨j,hj,rfl,⟨rs,Rs,⟨hd,lv,Ls⟩,F,G,hT,hBF,hsp,hL,hRl⟩,hE⟩:=hrel;by_cases hjn:j<n
  ·have zj:decide ((j:Int)<(n:Int))=true:=by simp;omega
   have hjl:j<l.length:=by have:=HN.out;omega
   obtain ⟨b,off,rfl,hbs,c0'⟩:=HX.out j hjl;have dC:Below w.heap.size w wr:=by rw [←HB.out];exact hE
   have c0:=aA dC c0';clear c0';have hcj:=HC.out _ (List.getElem_mem hjl);have htl:=Pv (K:=K) hjl;obtain ⟨x,SE⟩:=af (l[j]);have Tw:=ae SE;rw [←SE] at c0 hcj htl;have CK:=ae (CL.out wr dC x hcj);obtain ⟨kx,hkx⟩:=af (K x);have Yn:kx<1000000:=by rw [hkx];exact HCL.out x
   rw [←hkx] at CK;have QN:=ae hkx;have HTL:=ae htl;have HSP:=ae hsp;have HL:=ae hL;have Mq:=ae hT;have hsz:=dC.size;obtain ⟨m,hm⟩:=af Rs.length;have nV:=hT.runs;rw [←hm] at nV;obtain ⟨g,rc,hrs,hrc,_,hBg,_⟩:=cB (f:=jX) jB (l:=Rs++[(hd,lv,Ls)]) (by rw [List.length_append,hm];rfl) nV (i:=0) (by simp);subst hrs;have HM:=ae hm;rw [←hm] at hRl;have hBw:B≤wr.heap.size:=by have:=HB.out;omega
   clear SE hcj htl hkx hsp hL hT nV hm dC hsz;go_wp2_with fail;refine CK.out.mono ?_;rintro e w6 ⟨rfl,hb6⟩;have Tx:=Mq.out.ext hb6;have DD:=hE.trans (hb6.mono hBw);have kZ:B≤w6.heap.size:=Nat.le_trans hBw hb6.size;have i6:=Tx.is;have e1:=i6.at 1 rfl;clear c0 CK hb6 Mq hE hBw;by_cases hk0:kx=0
   ·subst hk0;have z0:((0:Nat):Int)=0:=rfl;have HT6:=ae Tx;have hr6:=Tx.runs;rw [←HM.out] at hr6;clear Tx
    go_wp2_with (
     refine mY (W:=w6) rfl _ _ 74 rfl B eP _ 6 96 SH (by decide) (by decide) (by decide) (by decide) (.slice (some ⟨g,0,none⟩) (m+1) rc) (m+1) _ rfl hr6 #[.int .i32 (x:Nat),.slice none 0 0,.slice none 0 0,.slice none 0 0,.int .i64 0,.int .i64 0] rfl rfl (by simp [Value.oneCell']) (by omega) w6 (Below.refl _ _) kZ ?_;intro rs' w7 o7 b7 g7 _;obtain ⟨ra',rc',rfl,_,_⟩:=az o7;have hT7:=HT6.out.SI (hd:=x) (by rw [←HM.out];exact o7) g7;have i7:=(bK.bP hr6 g7).is i6 (by decide);have e7:=i7.at 1 rfl;have q7:=i7.frozen 1;have HT7:=ae hT7
     clear hT7 o7 g7 i7 hr6 e1 i6)
    go_wp2_with fail;go_roundw
    case rel=>
     refine ⟨j+1,by omega,by simp,⟨_,Rs++[(hd,lv,Ls)],(x,.slice none 0 0,[]),_,_,by have:=HT7.out;rw [←HM.out] at *;exact this,by have:=b7.size;omega,?_,fq.nil _ _ _ _ _,by rw [List.length_append,←HM.out];simp;omega⟩,aj (DD.trans b7) Xq⟩;rw [HTL.out,yG QN.out.symm,←HSP.out,List.map_append];rfl
    case measure=>simp [intOf];omega
   ·have z0:((kx:Int)==0)=false:=by simp;omega
    have e8:IntKind.i64.wrap (((m+1:Nat):Int)-1)=(m:Int):=by rw [IntWalk.i64_in _ (by omega)];omega
    go_upto_region 8 with fail;go_quiet (fail);obtain ⟨wq,hwq⟩:=af (w6.drewN nq);have hbq:Below w6.heap.size w6 wq:=by rw [hwq];exact ⟨rfl,rfl,rfl,Nat.le_refl _,fun _ _=>rfl⟩
    have XB:=Tx.ext hbq;have hEq:=DD.trans (hbq.mono kZ);have Ty:B≤wq.heap.size:=Nat.le_trans kZ hbq.size;rw [←hwq];clear hwq Tx DD kZ hbq i6 e1;obtain ⟨la,lc,hlv,_,_⟩:=az XB.cur.row;simp only at hlv;subst hlv;obtain ⟨nl,hnl⟩:=af Ls.length;have Tz:=ae hnl;have hll:=HL.out.len;simp only at hll;have nV:=XB.runs;rw [←HM.out] at nV;obtain ⟨g',rc',Ji,_,_,_,hcell⟩:=cB (f:=jX) jB (l:=Rs++[(hd,Value.slice la Ls.length lc,Ls)]) (by rw [List.length_append,HM.out];rfl) nV (i:=m) (by rw [HM.out];simp);injection Ji with Ji _ adG;subst adG;injection Ji with Ji;injection Ji with Ji;subst Ji;have c1:wq.cell? ⟨g,m*6+1,none⟩=some (.slice la Ls.length lc):=by
     have:=(hcell 1 (by decide)).1;rw [this];simp [HM.out,jX]
    have hfl:(Ls.map fun x=>(x.1,x.2.1)).flatMap iW=Ls.flatMap eD:=by rw [List.flatMap_map];rfl
    have FD:=ae (C_ (w:=wq) (base:=F) (v:=.slice la Ls.length lc) (L:=Ls.map fun x=>(x.1,x.2.1)) (by rw [List.length_map,hfl];exact XB.cur.row) (fun y hy=>by
     obtain ⟨z,hz,rfl⟩:=List.mem_map.1 hy;exact SG.own ((XB.cur.wL).2 z hz).1) (List.pairwise_map.2 HL.out.rise) (fun y hy=>by
     obtain ⟨z,hz,rfl⟩:=List.mem_map.1 hy
     exact HL.out.small z hz) (by rw [List.length_map];omega) kx Yn)
    rw [←hnl] at c1 FD hll;have HTQ:=ae XB;clear hcell hfl nV XB hnl;go_wp2_with fail;refine FD.out.mono ?_;rintro e w8 ⟨k,fb,rfl,hfind,nQ⟩;have VU:=HTQ.out.ext nQ;have vk:=hEq.trans (nQ.mono Ty);have U6:B≤w8.heap.size:=Nat.le_trans Ty nQ.size;have c1:=aA nQ c1;have Gv:=HL.out.find HIN.out hjl (by rw [←Tw.out,←QN.out];exact hk0) (by rw [←Tw.out,←QN.out];exact hfind);rw [←Tw.out,←QN.out] at Gv;simp only at Gv;rw [←Tz.out] at Gv;have HT8:=ae VU;clear hfind nQ FD HTQ hEq Ty VU;go_upto_if 61 with fail;go_cut [] from 62 to 73 (fun wx=>(∃(lg:Nat) (Na:Nat) (q:List dN) (va:Option Addr) (vn vc:Nat) (l0:List Nat) (F' G':Nat),DF wx B p (.pointer (some ⟨dp,0,none⟩)) (.slice (some ⟨g,0,none⟩) (m+1) rc) Rs (hd,.slice (some ⟨lg,0,none⟩) (k+1) Na,q++[(kx,.slice va vn vc,l0)]) F' G'∧B≤F'∧k=q.length∧uC kx x (Ls.map dN.sp)=q.map dN.sp++[(kx,l0++[x])]∧(∀v',fq K l (j+1) (hd,.slice (some ⟨lg,0,none⟩) (k+1) Na,q++[(kx,v',l0++[x])]))∧l0.length≤j∧vn=l0.length)∧Below B w wx)
    case first=>
     rcases Gv with ⟨rfl,hk,hall⟩|⟨rfl,q,y,hq,hy,hk⟩
     ·have HK:=ae hk;have Mr:=ae hall;clear hk hall;have qf:=ai (w:=w8) (.cells #[.int .i64 (kx:Nat),.slice none 0 0] ek);have ZG:=HT8.out.ext qf;have RN:Below B w (w8.alloc (.cells #[.int .i64 (kx:Nat),.slice none 0 0] ek)):=vk.trans (qf.mono U6);have hfl:(Ls.map fun x=>(x.1,x.2.1)).flatMap iW=Ls.flatMap eD:=by rw [List.flatMap_map];rfl
      have hins:=yE (w:=w8.alloc (.cells #[.int .i64 (kx:Nat),.slice none 0 0] ek)) (base:=F) (v:=.slice la Ls.length lc) (L:=Ls.map fun x=>(x.1,x.2.1)) (by rw [List.length_map,hfl];exact ZG.cur.row) (Nat.le_trans ZG.cur.fg ZG.cur.gs) (by rw [List.length_map,←Tz.out];omega) (kx,.slice none 0 0) rfl (Is.new w8 _ ek);rw [List.length_map,List.flatMap_append,hfl] at hins;have PZ:=hins;rw [←Tz.out] at PZ;have adI:=ae PZ;have ZH:=ae ZG;have H2:=ae (show (Value.slice la Ls.length lc).ownBlock=(Value.slice la nl lc).ownBlock from by cases la with|none=>rfl|some a=>cases a;rfl);clear hins PZ ZG hfl;have HKN:=ae (show k=nl from HK.out);go_wp2_with fail;have hkn:=HKN.out;subst hkn;refine adI.out.mono ?_;rintro e yl ⟨Md,rfl,ZI,ZJ,_⟩;have VV:yl.ownsRow F ek 2 Md (k+1) (Ls.flatMap eD++eD (kx,Value.slice none 0 0,[])):=ZI;obtain ⟨lg,Na,VW,_,_,_,_⟩:=cB (f:=eD) iE (l:=Ls++[(kx,Value.slice none 0 0,[])]) (by rw [List.length_append,←Tz.out]) (by rw [List.flatMap_append];exact VV) (i:=0) (by simp);subst VW;have TA:(w8.alloc (.cells #[.int .i64 (kx:Nat),.slice none 0 0] ek)).grownBy yl (Value.slice la Ls.length lc).ownBlock:=by rw [H2.out];exact ZJ
      have VZ:=ZH.out.Pt (n:=kx) (by rw [←Tz.out];exact VV) TA
      have LB:Below B w yl:=RN.grown TA (by have:=U6;simp;omega) (fun i hi=>by
       have:=(ZH.out.cur.row.lt i hi).1
       omega)
      obtain ⟨r1,r2⟩:=Gt ((bK.bP ZH.out.cur.row TA).own ZH.out.runs (by decide));rw [←HM.out] at r1 r2 VZ;simp only at r1;have adJ:=ae VZ;clear ZI VV ZJ TA VZ c1;go_wp2_with fail;go_meet;refine ⟨⟨lg,Na,Ls,none,0,0,[],_,_,adJ.out,hBF,Tz.out,sJ (fun y hy=>?_),fun v'=>?_,Nat.zero_le _,rfl⟩,aj LB hBg⟩
      ·have hm1:y∈Ls.map dN.sp:=List.mem_of_getLast? hy;obtain ⟨z,hz,rfl⟩:=List.mem_map.1 hm1;exact Nat.ne_of_lt (Mr.out z hz)
      ·have h9:=HL.out.new hjl (by rw [←Tw.out,←QN.out];exact Yn) (fun y hy=>by rw [←Tw.out,←QN.out];exact Mr.out y hy) (.slice (some ⟨lg,0,none⟩) (k+1) Na) v' x;rw [←Tw.out,←QN.out] at h9;exact h9
     ·have VU:=HT8.out;subst hq;have hlast:=VU.cur.last y (by simp only;rw [List.getLast?_concat]);obtain ⟨va,vc,hyv,_,_⟩:=az hlast;obtain ⟨lg,Na,VW,_,_,_,_⟩:=cB (f:=eD) iE (l:=q++[y]) rfl VU.cur.row (i:=0) (by simp);injection VW with hla _ hlc;have hnk:nl=k+1:=by rw [Tz.out,hk];simp
      have hys:y.2.2.length≤j:=HL.out.marks y (by simp)
      have TD:=ae (show ∃(lg:Nat) (Na:Nat) (q2:List dN) (va:Option Addr) (vn vc:Nat) (l0:List Nat) (F' G':Nat),DF w8 B p (.pointer (some ⟨dp,0,none⟩)) (.slice (some ⟨g,0,none⟩) (m+1) rc) Rs (hd,.slice (some ⟨lg,0,none⟩) (k+1) Na,q2++[(kx,.slice va vn vc,l0)]) F' G'∧B≤F'∧k=q2.length∧uC kx x ((q++[y]).map dN.sp)=q2.map dN.sp++[(kx,l0++[x])]∧(∀v',fq K l (j+1) (hd,.slice (some ⟨lg,0,none⟩) (k+1) Na,q2++[(kx,v',l0++[x])]))∧l0.length≤j∧vn=l0.length from by
       have hye:y=(kx,.slice va y.2.2.length vc,y.2.2):=by
        obtain ⟨y1,y2,y3⟩:=y;simp only at hy hyv;rw [hy,hyv]
       have hlen:(q++[y]).length=k+1:=by rw [hk];simp
       refine ⟨lg,lc,q,va,y.2.2.length,vc,y.2.2,F,G,?_,hBF,hk,?_,fun v'=>?_,hys,rfl⟩
       ·have h9:=VU;rw [hla,hlen] at h9;rw [←hye];exact h9
       ·rw [List.map_append];have:List.map dN.sp [y]=[(y.1,y.2.2)]:=rfl;rw [this,uD hy,hy]
       ·have h9:=(HL.out).more (v:=.slice la (q++[y]).length lc) hjl (by rw [←Tw.out,←QN.out];exact hy) v' x;rw [hy] at h9
        exact ⟨h9.rise,h9.small,h9.last,h9.len,h9.marks⟩)
      clear VU hlast hyv hla hlc hnk hys hk hy;go_wp2_with fail;go_meet;obtain ⟨lg',XC,q',va',vn',vc',l0',F',G',t1,t2,t3,t4,t5,t6,t7⟩:=TD.out;exact ⟨⟨lg',XC,q',va',vn',vc',l0',F',G',t1,t2,t3,t4,t5,t6,t7⟩,vk⟩
    case rest=>
     clear Gv HT8 c1 vk U6;obtain ⟨⟨lg,XC,q,va,vn,vc,l0,F2,G2,hTc,V3,hkq,hadd,hlast,hl0,hvn⟩,QF⟩:=hcut;obtain ⟨FM,Vn⟩:=af wc;subst Vn;have XD:=hTc.ext (ah FM);have nV:=XD.runs;obtain ⟨r1,_⟩:=Gt nV;rw [←HM.out] at r1;have hrow:=XD.cur.row;simp only [List.length_append,List.length_cons,List.length_nil] at hrow;obtain ⟨s1,_⟩:=uK hrow;rw [←hkq] at s1;have hkj:k≤j:=by
      have:=(hlast (.slice none 0 0)).len;simp at this;omega
     have ZK:B≤G2:=Nat.le_trans V3 XD.cur.fg;have hgl:B≤lg:=Nat.le_trans V3 ((hrow.lt lg rfl).1);have gr1:=sW.keeps (S:=fun i=>i=g∨i=lg) r1 (.inl rfl);have gr2:=sW.keeps (S:=fun i=>i=g∨i=lg) s1 (.inr rfl);have hBc:B≤FM.heap.size:=Nat.le_trans ZK hTc.cur.gs;have hvl:=XD.cur.last (kx,.slice va vn vc,l0) (by simp only;rw [List.getLast?_concat]);have aiT:g<FM.heap.size∧lg<FM.heap.size:=⟨(nV.lt g rfl).2,(hrow.lt lg rfl).2⟩;have adL:=ae hadd;have ZL:=ae hlast;have HKQ:=ae hkq;have HVN:=ae hvn;have HTD:=ae XD;have HVL:=ae hvl;have CJ:Below B w FM.drew:=QF.drew;clear hTc XD nV hrow hadd hlast hkq hvn r1 s1 hvl QF;go_wp2_with fail;refine dM (KR.blocks fun i=>i=g∨i=lg) #[true,true,true,true,true,true,true,true,true,true,true,true,true,true,true,true,true,true,false] 18 1 mixed (by rfl) ?_;refine di [0,1,2,3,4,5,6,7,8,9,10,11,12,13] 4 rfl (by kernel_rfl) ?_
     iterate 14 (refine aC rfl ?_;go_big_quiet_step (rfl))
     refine ak ?_;have iC:=ai (w:=FM.drew) (.cells #[.int .i32 (x:Nat)] aM);have Ms:=HTD.out.ext iC;have CQ:Below B w (FM.drew.alloc (.cells #[.int .i32 (x:Nat)] aM)):=CJ.trans (iC.mono hBc);refine bT 14 (by kernel_rfl) rfl ?_;go_wp2_with fail;refine bB (KR.of_below iC iC.size (fun i hi=>by rcases hi with rfl|rfl <;> (show _<FM.heap.size;omega))) ?_;have Jj:=aG HVL.out iC;rw [show (kx,Value.slice va vn vc,l0).2.2.length=vn from HVN.out.symm] at Jj;refine bT 15 (by kernel_rfl) rfl ?_;refine lT (W:=FM.drew.alloc (.cells #[.int .i32 (x:Nat)] aM)) rfl _ _ 39 rfl G2 aM (.int .i32 0) 4 bS (by decide) (v:=.slice va vn vc) rfl Jj (Nat.le_trans HTD.out.cur.gs iC.size) [.int .i32 (x:Nat)] (by simp [Value.oneCell']) ⟨FM.drew.heap.size,0,none⟩ 1 1 rfl rfl (fun i u hi=>?_) (by have:=HVN.out;omega) ?_
     ·rcases i with _|i
      ·cases hi;exact (Is.new FM.drew _ aM).at 0 rfl
      ·cases hi
     intro v13 w13 o13 P5 adO;obtain ⟨TE,TF,adP,_,_⟩:=az o13;subst adP;have V4:=Ms.SK (gl:=lg) (m:=x) (v':=.slice TE (vn+1) TF) (by rw [List.length_append,bA,←HVN.out];exact o13) P5;rw [←HKQ.out] at V4;have V5:=bK.bP Jj P5;obtain ⟨_,f13⟩:=uK (by have:=V5.own Ms.cur.row (by decide);simp only [List.length_append,List.length_cons,List.length_nil] at this;exact this);obtain ⟨c13,_⟩:=uK (by have:=V5.own Ms.cur.row (by decide);simp only [List.length_append,List.length_cons,List.length_nil] at this;exact this);rw [←HKQ.out] at c13 f13;have Si:Below B w w13:=CQ.grown P5 (by simp;omega) (fun i hi=>Nat.le_trans ZK (Jj.lt i hi).1);have hkg:(.slice va vn vc:Value).ownBlock≠some g∧(.slice va vn vc:Value).ownBlock≠some lg:=⟨fun e=>absurd ((bQ Jj e).one (bQ Ms.runs (k:=g) rfl)) (by decide),fun e=>absurd ((bQ Jj e).one (bQ Ms.cur.row (k:=lg) rfl)) (by decide)⟩;have adQ:=ae V4;have HKG:=ae hkg;clear V4 Ms o13 adO V5 hkg Jj;go_wp2_with fail;refine bB (KR.bP (w:=FM.drew.alloc (.cells #[.int .i32 (x:Nat)] aM)) P5 P5.size (fun i hi=>?_)) ?_
     ·rcases hi with rfl|rfl
      ·exact ⟨by simp;omega,HKG.out.1⟩
      ·exact ⟨by simp;omega,HKG.out.2⟩
     refine di [16,17] 0 rfl (by kernel_rfl) ?_
     iterate 2 (refine aC rfl ?_;go_big_quiet_step (rfl))
     refine ak ?_;refine fe [18] (by kernel_rfl) ?_;refine tail_cons rfl ?_;go_wp2_with fail;refine tail_nil ?_;go_wp2_with fail;go_roundw
     case rel=>
      refine ⟨j+1,by omega,by simp,⟨_,Rs,(hd,.slice (some ⟨lg,0,none⟩) (k+1) XC,q++[(kx,.slice TE (vn+1) TF,l0++[x])]),F2,G2,adQ.out,V3,?_,ZL.out _,by rw [←HM.out];omega⟩,aj Si hgl⟩;rw [HTL.out,←HSP.out];simp only [List.map_append];have e9:List.map bU.sp [(hd,Value.slice la Ls.length lc,Ls)]=[(hd,Ls.map dN.sp)]:=rfl;rw [e9,uE (by rw [←QN.out];exact hk0),←QN.out,adL.out];have e10:List.map bU.sp [(hd,Value.slice (some ⟨lg,0,none⟩) (k+1) XC,q++[(kx,Value.slice TE (vn+1) TF,l0++[x])])]=[(hd,(q++[(kx,Value.slice TE (vn+1) TF,l0++[x])]).map dN.sp)]:=rfl;rw [e10,List.map_append];rfl
     case measure=>simp [intOf];omega
  ·obtain rfl:j=n:=by omega
   have zj:decide ((j:Int)<(j:Int))=false:=by simp
   have hlt:l.take j=l:=List.take_of_length_le (by rw [HN.out];exact Nat.le_refl _);rw [hlt] at hsp;have hM:=hT.made;have oV:Bz (Rs++[(hd,lv,Ls)]):=Bz.of (k:=l.length) (by rw [hsp];exact kM K l) (by rw [←HN.out];omega);obtain ⟨R,hR⟩:=af (Rs++[(hd,lv,Ls)]);rw [←hR] at hM oV hsp;have HSP:=ae hsp;obtain ⟨nr,hnr⟩:=af R.length;have aiV:0<nr:=by rw [hnr,hR];simp
   have adz:nr<10000:=by rw [hnr];exact oV.1
   obtain ⟨N,hNN⟩:=af wr.heap.size;rw [←hNN] at hM;obtain ⟨g,rc,hrs,hrc,_,hBg,-⟩:=cB (f:=jX) jB rfl hM.runs (i:=0) (by omega);rw [←hnr] at hrs;subst hrs;have adS:(R.length:Nat)=nr:=hnr.symm;have i1:=hM.is;have e1:wr.cell? ⟨p,1,none⟩=some (.slice (some ⟨g,0,none⟩) nr rc):=i1.at 1 rfl;have HMM:=ae hM;have HF:=ae oV;have UJ:=ae hnr;have HNN:=ae hNN;clear hM oV hnr adS hNN hrc hT hL hsp hlt hR hRl i1;go_wp2_with fail;go_loopw [13,98] (fun _ iv wq=>∃i:Nat,i≤nr∧iv=.int .i64 i∧(∃gZ,zY wq B N p (.pointer (some ⟨dp,0,none⟩)) (.slice (some ⟨g,0,none⟩) nr rc) gZ false R∧dJ wq (.agg #[gZ]) (fu (R.take i)))∧Below B w wq) (fun _ iv _=>nr-(intOf iv).toNat)
   case atStart=>exact ⟨0,Nat.zero_le _,rfl,⟨_,HMM.out,_,rfl,by rw [show fu (R.take 0)=0 from rfl,bV];exact .nil _ _ _ _ (fun _=>rfl)⟩,hE⟩
   case round=>
    obtain ⟨i,hi,rfl,⟨gZ,hM,hZ⟩,hE2⟩:=hrel;by_cases hin:i<nr
    ·have zi:decide ((i:Int)<(nr:Int))=true:=by simp;omega
     have hil:i<R.length:=by have:=UJ.out;omega
     obtain ⟨g',rc',hrs,_,_,_,hc⟩:=cB (f:=jX) jB rfl hM.runs hil;injection hrs with hrs Qy hrc;clear Qy;subst hrc;injection hrs with hrs;injection hrs with hrs;subst hrs;have hrow:=hM.wL _ (List.getElem_mem hil);have oV:=HF.out.2 _ (List.getElem_mem hil);have hsz:=uH hil;obtain ⟨r,hr⟩:=af (R[i]);rw [←hr] at hc hrow oV hsz;obtain ⟨hd,lv,Ls⟩:=r;obtain ⟨la,lc,hlv,_,_⟩:=az hrow.1.1;simp only at hlv;obtain ⟨ln,hln⟩:=af Ls.length;rw [←hln] at hlv;subst hlv;have c0:wr.cell? ⟨g,i*6,none⟩=some (.int .i32 hd):=(hc 0 (by decide)).1;have c1:wr.cell? ⟨g,i*6+1,none⟩=some (.slice la ln lc):=(hc 1 (by decide)).1;have c2:wr.cell? ⟨g,i*6+2,none⟩=some (.slice none 0 0):=(hc 2 (by decide)).1;have c3:wr.cell? ⟨g,i*6+3,none⟩=some (.slice none 0 0):=(hc 3 (by decide)).1;have c4:wr.cell? ⟨g,i*6+4,none⟩=some (.int .i64 0):=(hc 4 (by decide)).1;have c5:wr.cell? ⟨g,i*6+5,none⟩=some (.int .i64 0):=(hc 5 (by decide)).1;have hb2:=ai (w:=wr) (.cells #[.int .i32 hd,.slice la ln lc,.slice none 0 0,.slice none 0 0,.int .i64 0,.int .i64 0] eP);obtain ⟨w2,hw2⟩:=af (wr.alloc (.cells #[.int .i32 hd,.slice la ln lc,.slice none 0 0,.slice none 0 0,.int .i64 0,.int .i64 0] eP));rw [←hw2] at hb2;have k2:Is w2 wr.heap.size #[.int .i32 hd,.slice la ln lc,.slice none 0 0,.slice none 0 0,.int .i64 0,.int .i64 0] eP:=by rw [hw2];exact Is.new _ _ _
     have hM2:=hM.ext hb2;have hZ2:=hZ.mono hb2;have i2:=hM2.is;have g2:=Gr.cell (ah w2) (i2.at 2 rfl);have f0:=Gr.cell (ah w2) (k2.at 0 rfl);have f1:=Gr.cell (ah w2) (k2.at 1 rfl);have f2:=Gr.cell (ah w2) (k2.at 2 rfl);have f3:=Gr.cell (ah w2) (k2.at 3 rfl);have f4:=Gr.cell (ah w2) (k2.at 4 rfl);have f5:=Gr.cell (ah w2) (k2.at 5 rfl);have Ty:B≤wr.heap.size:=by have:=hM.low;have:=hM.hi;omega
     have j_:=hE2.trans (hb2.mono Ty);have BS:=ae (fun (W:World) (E:Below w2.heap.size w2 W)=>yI (w:=W) (F:=N) (hd:=hd) (la:=la) (ln:=ln) (lc:=lc) (Ls:=Ls) ((hrow.keep (.of_below (hb2.mono hM.hi.2) hb2.size) (.of_below (hb2.mono hM.hi.2) hb2.size)).keep (.of_below (E.mono (Nat.le_trans hM.hi.2 hb2.size)) E.size) (.of_below (E.mono (Nat.le_trans hM.hi.2 hb2.size)) E.size)) oV.1 oV.2 none none 0 0 0 0 0 0);have U1:=ae hsz;have zT:=ae hM2;have HZ2:=ae hZ2;have ZE:=ae oV;have Yq:=ae hln;have hBN:B≤w2.heap.size:=Nat.le_trans Ty hb2.size;clear hc hrow oV hsz hr hM hZ hM2 hZ2 hln i2 hb2 hE2 Ty;go_upto_region 17 with fail;rw [←hw2];clear hw2 c0 c1 c2 c3 c4 c5 k2;refine aD #[true,true,true,true,true,true,true,true,true,true,true,false] 11 1 mixed (by rfl) ?_;refine ay [0,1,2,3,4,5] 5 rfl (by kernel_rfl) ?_
     iterate 6 (refine aC rfl ?_;go_big_quiet_step (rfl))
     refine ak ?_;refine aL 6 (by kernel_rfl) rfl ?_;go_wp2_with fail;have hq2:Below w2.heap.size w2 w2.drew:=ah w2;refine (BS.out _ hq2).mono ?_;rintro e w3 ⟨bv,rfl,ho3,hb3⟩;go_wp2_with fail;refine aH hb3 ?_;have DD:=j_.drew.trans (hb3.mono hBN);refine aL 7 (by kernel_rfl) rfl ?_;go_wp2_with fail;have hsm:=qH (r:=(hd,.slice la ln lc,Ls)) ZE.out.2;have hbl:=yH Ls;have hl1:Ls.length<10000:=ZE.out.1;have ha:bD w3 bv (bH ((fK Ls).map fun b:Nat=>(b:Int))):=by
      rw [←hbl,←show (ds (fK Ls)).length=(fK Ls).length by simp [ds]] at ho3;rw [Dg];exact (Sl.aT ho3).any
     have hbg:∀d∈(fK Ls).map fun b:Nat=>(b:Int),d<9223372036854775808:=fun d hd=>by
      obtain ⟨b,hb,rfl⟩:=List.mem_map.1 hd;have h1:=hsm b hb;unfold Go.Cd.B at h1;omega
     have hdg:∀k,k≤(fK Ls).length→(aV Go.Cd.B (fF ((fK Ls).take k))).length<274877906944:=fun k hk=>by
      have h1:=yP hsm k hk;have h2:k≤Ls.length:=by rw [←hbl];exact hk
      exact Nat.lt_of_le_of_lt h1 (by omega)
     have PR:=Jg (w:=w3) (v:=bv) (l:=(fK Ls).map fun b:Nat=>(b:Int)) ha (by rw [List.length_map];omega) hbg (fun k hk=>by rw [Gm];rw [List.length_map] at hk;exact hdg k hk);rw [Gm] at PR;refine PR.mono ?_;rintro e w4 ⟨pv,rfl,hp4,hb4⟩;go_wp2_with fail;refine aH hb4 ?_;have hq3:Below w2.heap.size w2 w3:=hq2.trans (hb3.mono hq2.size);have hq4:Below w2.heap.size w2 w4:=hq3.trans (hb4.mono hq3.size);refine aL 8 (by kernel_rfl) rfl ?_;go_wp2_with fail;have hd1:(aV Go.Cd.B (fu (R.take i))).length<549755813888:=by
      have:=Kg HF.out (j:=i) (by have:=UJ.out;omega);omega
     have hd2:(aV Go.Cd.B (fF (fK Ls))).length<549755813888:=by
      have:=hdg _ (Nat.le_refl _);rw [List.take_length] at this;omega
     have AD:=VP (HZ2.out.mono hq4) hp4 hd1 hd2;refine AD.mono ?_;rintro e w5 ⟨av,rfl,hp5,hb5⟩;go_wp2_with fail;refine aH hb5 ?_;have hq5:Below w2.heap.size w2 w5:=hq4.trans (hb5.mono hq4.size);refine ay [9,10] 0 rfl (by kernel_rfl) ?_
     iterate 2 (refine aC rfl ?_;go_big_quiet_step (rfl))
     refine ak ?_;have QM:=zT.out.ext hq5;obtain ⟨sa,sn,sc,rfl,hp5⟩:=hp5.out;have i5:=QM.is;have e5:=i5.at 2 rfl;have f5':=i5.frozen 2;refine aI [11] (by kernel_rfl) ?_;refine tail_cons rfl ?_;go_wp2_with fail;refine tail_nil ?_;go_wp2_with fail;go_roundw
     case rel=>
      refine ⟨i+1,by omega,by simp,⟨_,QM.put 2 _ rfl,?_⟩,aj (j_.trans (hq5.mono hBN)) Xq⟩;rw [U1.out];exact hp5.put i5.at_ (by decide)
     case measure=>simp [intOf];omega
    ·have zi:decide ((i:Int)<(nr:Int))=false:=by simp;omega
     obtain rfl:i=nr:=by omega
     have ht:R.take i=R:=List.take_of_length_le (by rw [UJ.out];exact Nat.le_refl _);rw [ht] at hZ;have i2:=hM.is;have g2:=Gr.cell (ah wr) (i2.at 2 rfl);have HMQ:=ae hM;have HZ:=ae hZ;have ZH:=ae ht;have Ty:B≤wr.heap.size:=by have:=hM.low;have:=hM.hi;omega
     clear hM hZ ht i2 e1;go_wp2_with fail;refine aD #[true,true,true,true,true,true,true,true,true,true,false] 10 1 mixed (by rfl) ?_;refine ay [0,1,2,3,4] 5 rfl (by kernel_rfl) ?_
     iterate 5 (refine aC rfl ?_;go_big_quiet_step (rfl))
     refine ak ?_;refine aL 5 (by kernel_rfl) rfl ?_;go_wp2_with fail;refine (Ke 16384 (by decide) wr.drew).mono ?_;rintro e w3 ⟨mv,rfl,hp3,hb3⟩;go_wp2_with fail;refine aH hb3 ?_;have hq3:Below wr.heap.size wr w3:=(ah wr).trans (hb3.mono (ah wr).size);refine aL 6 (by kernel_rfl) rfl ?_;go_wp2_with fail;have hd1:(aV Go.Cd.B (fu R)).length<1099511627776:=by
      have:=Kg HF.out (j:=R.length) (Nat.le_refl _);rw [List.take_length] at this;omega
     have hd2:(aV Go.Cd.B 16384).length<1099511627776:=by
      have:(aV Go.Cd.B 16384).length≤1:=by rw [aR bC];unfold Go.Cd.B;decide
      omega
     have zc:decide (tN (fu R) 16384≤0)=decide (fu R≤16384):=by
      unfold tN;by_cases h1:fu R<16384
      ·rw [if_pos h1,decide_eq_true (by omega),decide_eq_true (by omega)]
      ·rw [if_neg h1];by_cases h2:16384<fu R
       ·rw [if_pos h2,decide_eq_false (by omega),decide_eq_false (by omega)]
       ·rw [if_neg h2,decide_eq_true (by omega),decide_eq_true (by omega)]
     obtain ⟨sm,hsm⟩:=af (decide (fu R≤16384));obtain ⟨cz,hcz⟩:=af (tN (fu R) 16384);have CO:=Jf (HZ.out.mono hq3) hp3 hd1 hd2;rw [←hsm,←hcz] at zc;rw [←hcz] at CO;have XE:=ae hsm;clear hsm hcz;refine CO.mono ?_;rintro e w4 ⟨rfl,hb4⟩;go_wp2_with fail;refine aH hb4 ?_;have hq4:Below wr.heap.size wr w4:=hq3.trans (hb4.mono hq3.size);refine ay [7,8,9] 0 rfl (by kernel_rfl) ?_
     iterate 3 (refine aC rfl ?_;go_big_quiet_step (rfl))
     refine ak ?_;have RY:=HMQ.out.ext hq4;have hZ4:=HZ.out.mono hq4;have i4:=RY.is;have e43:=i4.at 3 rfl;have f43:=i4.frozen 3;have QM:=RY.put 3 (.bool sm) (VS:=gZ) (Jh:=sm) rfl;have hZ5:dJ (w4.setCell ⟨p,3,none⟩ (.bool sm)) (.agg #[gZ]) (fu R):=hZ4.put i4.at_ (by decide);have kV:Below B w (w4.setCell ⟨p,3,none⟩ (.bool sm)):=aj (hE2.trans (hq4.mono Ty)) Xq;have HNU:=ae (Gs QM HF.out (fun h=>by rw [XE.out] at h;exact of_decide_eq_true h) hBg);have HZ5:=ae hZ5;have HE5:=ae kV;clear RY hZ4 i4 QM hZ5 kV;refine aI [10] (by kernel_rfl) ?_;refine tail_cons rfl ?_;go_wp2_with fail;refine tail_nil ?_;go_wp2_with fail;refine HNU.out.mono ?_;rintro e w6 ⟨rfl,Es,hEs,XA,kZ,hC6⟩;go_wp2_with fail;go_ret;refine ⟨p,rfl,?_,?_⟩
     ·rw [←HB.out];exact ⟨N,_,gZ,Es,by rw [hEs];exact HSP.out,by rw [hEs,←XE.out];exact XA,by rw [hEs];exact dJ.mg HZ5.out hC6 (by decide)⟩
     ·have:=HE5.out.trans kZ;rw [HB.out] at this;exact this
theorem jk.mono {w w':World} {B p dp:Nat} {K:Nat→Nat} {l:List Nat} (h:jk w B p dp K l) (hb:Below w.heap.size w w'):jk w' B p dp K l:=by
 obtain ⟨N,rs,gZ,Es,h1,h2,h3⟩:=h;exact ⟨N,rs,gZ,Es,h1,h2.ext hb,h3.mono hb⟩
def UK (r:fJ):List Nat:=r.2.map fun x=>x.2.length+1
def V6 (r:fJ):Nat:=fF (UK r)
def zZ (rs:List fJ):Nat:=(rs.map V6).sum
theorem Ki (r:bU):fK r.2.2=UK (bU.sp r):=by
 unfold fK UK bU.sp;rw [List.map_map];rfl
theorem Kj (Rs:List bU):fu Rs=zZ (Rs.map bU.sp):=by
 unfold fu zZ;rw [List.map_map];congr 1;refine List.map_congr_left fun r _=>?_;unfold PQ;rw [Ki];rfl
structure P6 (w:World) (p dp:Nat) (rs:List fJ) (g rc:Nat) (gZ:Value) (small:Bool) (Es:List mP):Prop where
 sp:Es.map (fun e=>bU.sp e.1)=rs
 is:Is w p #[.pointer (some ⟨dp,0,none⟩),.slice (some ⟨g,0,none⟩) rs.length rc,gZ,.bool small] 76
 run:∀k (hk:k<Es.length),∀j<6,w.cell? ⟨g,k*6+j,none⟩=(kP Es[k])[j]?
 sl:∀e∈Es,∃la lc,e.1.2.1=.slice la e.1.2.2.length lc
 lane:∀e∈Es,∀k (hk:k<e.1.2.2.length),∃lg c,e.1.2.1=.slice (some ⟨lg,0,none⟩) e.1.2.2.length c∧w.cell? ⟨lg,k*2,none⟩=some (.int .i64 (e.1.2.2[k].1:Nat))∧w.cell? ⟨lg,k*2+1,none⟩=some e.1.2.2[k].2.1
 marks:∀e∈Es,∀x∈e.1.2.2,bD w x.2.1 (aN x.2.2)
 size:dJ w (.agg #[gZ]) (zZ rs)
 le:small=decide (zZ rs≤16384)
 Xz:∀e∈Es,BA e.2.1.1∧BA e.2.1.2.1
 VT:small=true→∀k (hk:k<Es.length),mD w (PY Es[k]) (UK (bU.sp Es[k].1))∧Es[k].2.2=(zZ (rs.take k):Nat)
theorem jk.read {w:World} {B p dp:Nat} {K:Nat→Nat} {l:List Nat} (h:jk w B p dp K l):∃g rc gZ small Es,P6 w p dp (dU K l) g rc gZ small Es:=by
 obtain ⟨N,rs,gZ,Es,h1,h2,h3⟩:=h;have hsp:Es.map (fun e=>bU.sp e.1)=dU K l:=by rw [←h1,List.map_map];rfl
 have hne:0<Es.length:=by
  rw [←List.length_map (f:=fun e=>bU.sp e.1),hsp];exact List.length_pos_iff.2 (kM K l).1
 have hsz:fu (Es.map (·.1))=zZ (dU K l):=by rw [Kj,h1]
 obtain ⟨g,rc,hrs,_,_,_,_⟩:=cB (f:=kP) uI rfl h2.runs hne;subst hrs;have hlen:Es.length=(dU K l).length:=by rw [←hsp,List.length_map]
 refine ⟨g,rc,gZ,_,Es,hsp,by rw [←hlen];exact h2.is,fun k hk j hj=>(h2.cells hk j hj).1,fun e he=>?_,fun e he k hk=>?_,fun e he x hx=>?_,by rw [←hsz];exact h3,by rw [hsz],h2.Xz,fun ht k hk=>?_⟩
 ·obtain ⟨la,lc,hv,_,_⟩:=az (h2.wL e he).1.1;exact ⟨la,lc,hv⟩
 ·obtain ⟨g',rc',hv,_,_,_,hc⟩:=cB (f:=eD) iE rfl (h2.wL e he).1.1 hk;refine ⟨g',rc',hv,(hc 0 (by decide)).1,(hc 1 (by decide)).1⟩
 ·have h4:=((h2.wL e he).2 x hx).1;rw [show x.2.2.length=(aN x.2.2).length by simp [aN]] at h4;exact (Sl.aT h4).any
 ·have h4:=h2.VT k hk (by rw [if_pos ht];exact hk);refine ⟨?_,?_⟩
  ·rw [←Ki];exact h4.1.weak
  ·rw [h4.2,Kj,List.map_take,h1]
theorem BB {w:World} {B p dp:Nat} {K:Nat→Nat} {l:List Nat} (h:jk w B p dp K l) :
 Calls Tryz.prog 16 #[.pointer (some ⟨p,0,none⟩)] w fun e w'=>∃v,e=.returned v∧dJ w' v (zZ (dU K l))∧Below w.heap.size w w':=by
 obtain ⟨g,rc,gZ,small,Es,hR⟩:=h.read;have hz:=hR.size;obtain ⟨sa,sn,sc,he,hz'⟩:=hz.out;injection he with he;injection he with he;injection he with he _;subst he;have hb:=ai (w:=w) (.cells #[.slice none 0 0] 44);have i1:=hR.is.mono hb;have e2:=i1.at 2 rfl;have j1:=Is.new w #[.slice none 0 0] 44;have e0:=j1.at 0 rfl;have f0:=j1.frozen 0;have HZ2:=ae (hz.mono (ai (w:=w) (.cells #[.slice sa sn sc] 44)));have hb2:=ai (w:=w) (.cells #[.slice sa sn sc] 44);have s0:=(Is.new w #[.slice sa sn sc] 44).at 0 rfl;clear h hR hz hz' i1 j1;go_enter Tryz.func16,Tryz.ntmps16;go_wp2;exact bodyPost_ret (v:=.agg #[.slice sa sn sc]) (by simp [results,Tryz.results16,go_sem,s0]) rfl ⟨_,rfl,HZ2.out,hb2⟩
def Kk (w:World) (v:Value) (h:Int) (ms:List Int):Prop:=∃sv,v=.agg #[.int .i64 h,sv]∧Sl aU w sv (bH ms)
theorem Kk.mono {w w':World} {v:Value} {h:Int} {ms:List Int} (k:Kk w v h ms) (hb:Below w.heap.size w w'):Kk w' v h ms:=by
 obtain ⟨sv,hv,hs⟩:=k;exact ⟨sv,hv,hs.mono hb⟩
theorem Kl {w:World} {B p dp:Nat} {K:Nat→Nat} {l:List Nat} (h:jk w B p dp K l) (hl:l.length<9000) {k:Nat} (hk:k<(dU K l).length) :
 Calls Tryz.prog 48 #[.pointer (some ⟨p,0,none⟩),.int .i64 k] w fun e w'=>∃v,e=.returned v∧Kk w' v k (List.replicate (dU K l)[k].2.length 0)∧Below w.heap.size w w':=by
 obtain ⟨g,rc,gZ,small,Es,hR⟩:=h.read;have TG:k<Es.length:=by rw [←List.length_map (f:=fun e=>bU.sp e.1),hR.sp];exact hk
 have hsp:bU.sp Es[k].1=(dU K l)[k]:=by simp [←hR.sp]
 obtain ⟨la,lc,hv⟩:=hR.sl _ (List.getElem_mem TG);obtain ⟨n,hn⟩:=af (Es[k].1.2.2.length);have hn2:(dU K l)[k].2.length=n:=by rw [←hsp,hn];simp [bU.sp]
 have Qy:n<10000:=by
  have:=((kM K l).2.2 _ (List.getElem_mem hk)).1;omega
 rw [←hn] at hv;have c1:w.cell? ⟨g,k*6+1,none⟩=some (.slice la n lc):=by rw [hR.run k TG 1 (by decide),←hv];rfl
 obtain ⟨w1,hw1⟩:=af (w.alloc (.cells #[.int .i64 0,.slice none 0 0] 53));have hb:=ai (w:=w) (.cells #[.int .i64 0,.slice none 0 0] 53);rw [←hw1] at hb;have e1:=(hR.is.mono hb).at 1 rfl;obtain ⟨nr,hnr⟩:=af ((dU K l).length);have Xk:w1.cell? ⟨p,1,none⟩=some (.slice (some ⟨g,0,none⟩) nr rc):=by rw [hnr];exact e1
 rw [hn2];rw [←hnr] at hk;have c1':=aA hb c1;clear h hR hv hn hnr hsp hn2 e1 c1;go_enter Tryz.func48,Tryz.ntmps48;subst hw1
 go_wp2_with (
  at_make
  refine dY _ rfl _ _ 23 rfl (w.heap.size+1) aU _ 8 fA rfl .i64 .i64 _ _ n rfl rfl (by omega) (by omega) (by omega) (by unfold maxLen;omega) (by simp) ?_;intro w2 o2 hg2;have hb2:=eH hg2;have i2:=(Is.new w #[.int .i64 0,.slice none 0 0] 53).mono hb2;have e20:=i2.at 0 rfl;have f20:=i2.frozen 0;have i3:=i2.set 0 (.int .i64 k);have e31:=i3.at 1 rfl;have f31:=i3.frozen 1;have i4:=i3.set 1 (.slice (some ⟨w.heap.size+1,0,none⟩) n n);have e40:=i4.at 0 rfl;have e41:=i4.at 1 rfl;have HO:=ae o2;have HB:=ae hb2
  clear o2 hg2 hb2 i2 i3 i4)
 have ho:=bf (bf HO.out (k:=w.heap.size) (by simp [Value.ownBlock]) 0 (.int .i64 k)) (k:=w.heap.size) (by simp [Value.ownBlock]) 1 (.slice (some ⟨w.heap.size+1,0,none⟩) n n);rw [show List.replicate n (Value.int IntKind.i64 0)=bH (List.replicate n 0) by simp [bH]] at ho;rw [show n=(bH (List.replicate n 0)).length by simp [bH]] at ho;refine bodyPost_ret (v:=.agg #[.int .i64 k,.slice (some ⟨w.heap.size+1,0,none⟩) n n]) (by simp [results,Tryz.results48,go_sem,e40,e41]) rfl ⟨_,rfl,⟨_,rfl,?_⟩,aj (aj (ai (w:=w) _ |>.trans (HB.out.mono (by simp))) (Nat.le_refl _)) (Nat.le_refl _)⟩;have:=Sl.aT ho;simpa [bH] using this
def Jk (w:World) (lv:Value) (L:List (Nat×List Nat)):Prop:=
 ∃la lc,lv=.slice la L.length lc∧∀k (hk:k<L.length),∃lg va vc,la=some ⟨lg,0,none⟩∧w.cell? ⟨lg,k*2,none⟩=some (.int .i64 (L[k].1:Nat))∧
  w.cell? ⟨lg,k*2+1,none⟩=some (.slice va L[k].2.length vc)∧bD w (.slice va L[k].2.length vc) (aN L[k].2)
theorem Jk.mono {w w':World} {lv:Value} {L:List (Nat×List Nat)} (h:Jk w lv L) (hb:Below w.heap.size w w'):Jk w' lv L:=by
 obtain ⟨la,lc,hv,hk⟩:=h;refine ⟨la,lc,hv,fun k hk'=>?_⟩;obtain ⟨lg,va,vc,h1,h2,h3,h4⟩:=hk k hk';exact ⟨lg,va,vc,h1,aA hb h2,aA hb h3,h4.mono hb⟩
def ZM (w:World) (v:Value) (S:fJ):Prop:=∃lv x1 m1 y1 x2 m2 y2 z f,v=.agg #[.int .i32 S.1,lv,.slice x1 m1 y1,.slice x2 m2 y2,.int .i64 z,.int .i64 f]∧Jk w lv S.2
def qI (ms:List Int) (L:List (Nat×List Nat)):Bool:=(ms.zip L).all fun x=>!decide (x.1<(x.2.2.length:Nat))
theorem Jl {w:World} {v u:Value} {S:fJ} {hh:Int} {ms:List Int} (h:ZM w v S) (hs:Kk w u hh ms) (hl:ms.length=S.2.length) (hl9:S.2.length<10000) (Um:∀x∈S.2,x.2.length<10000) :
 Calls Tryz.prog 50 #[v,u] w fun e w'=>e=.returned (.bool (qI ms S.2))∧Below w.heap.size w w':=by
 obtain ⟨lv,x1,m1,y1,x2,m2,y2,z,f,rfl,la,lc,rfl,hk⟩:=h;obtain ⟨sv,rfl,hsv⟩:=hs;obtain ⟨sa,sc,rfl,_,hx⟩:=bD.out hsv.any;rw [show (bH ms).length=ms.length by simp [bH],hl];obtain ⟨n,hn⟩:=af S.2.length;rw [←hn] at hl hl9 ⊢;obtain ⟨w2,hw2⟩:=af ((w.alloc (.cells #[.int .i32 S.1,.slice la n lc,.slice x1 m1 y1,.slice x2 m2 y2,.int .i64 z,.int .i64 f] eP)).alloc (.cells #[.int .i64 hh,.slice sa n sc] 53));have hb:Below w.heap.size w w2:=by rw [hw2];exact dF _ _
 have k1:Is w2 w.heap.size #[.int .i32 S.1,.slice la n lc,.slice x1 m1 y1,.slice x2 m2 y2,.int .i64 z,.int .i64 f] eP:=by rw [hw2];exact (Is.new _ _ _).mono (ai _)
 have k2:Is w2 (w.heap.size+1) #[.int .i64 hh,.slice sa n sc] 53:=by rw [hw2];exact Is.new' _ _ _ _ (by simp)
 have e1:=k1.at 1 rfl;have e2:=k2.at 1 rfl;have HX:=ae hx;have HK:=ae hk;have HN:=ae hn;have HL:=ae hl;have HM:=ae Um;have Qy:n<10000:=hl9;clear hx hk hn hl Um hl9 hsv k1 k2;go_enter Tryz.func50,Tryz.ntmps50;go_wp2_with fail;rw [←hw2];clear hw2;go_loopw [5,6,10] (fun _ _ iv wr=>∃i:Nat,i≤n∧iv=.int .i64 i∧(((ms.zip S.2).take i).all fun x=>!decide (x.1<(x.2.2.length:Nat)))=true∧Below w2.heap.size w2 wr) (fun _ _ iv _=>n-(intOf iv).toNat)
 case atStart=>exact ⟨0,Nat.zero_le _,rfl,rfl,Below.refl _ _⟩
 case round=>
  obtain ⟨i,hi,rfl,hall,hE⟩:=hrel;by_cases hin:i<n
  ·have zi:decide ((i:Int)<(n:Int))=true:=by simp;omega
   have NQ:i<S.2.length:=by have:=HN.out;omega
   have him:i<ms.length:=by have:=HL.out;omega
   obtain ⟨b,off,rfl,_,c0⟩:=HX.out i (by simpa [bH] using him);obtain ⟨lg,va,vc,rfl,_,l1,_⟩:=HK.out i NQ;rw [show (bH ms)[i]'(by simpa [bH] using him)=.int .i64 ms[i] by simp [bH]] at c0;obtain ⟨mi,G9⟩:=af (ms[i]);obtain ⟨xl,hxl⟩:=af (S.2[i].2.length);rw [←G9] at c0;rw [←hxl] at l1;have c0:=aA hE (aA hb c0);have l1:=aA hE (aA hb l1);have e1:=aA hE e1;have e2:=aA hE e2;have hzl:i<(ms.zip S.2).length:=by rw [List.length_zip];omega
   have hze:(ms.zip S.2)[i]=(ms[i],S.2[i]):=List.getElem_zip;have HZE:=ae hze;have Mr:=ae hall;have ZN:=ae G9;have UL:=ae hxl;clear hze hall G9 hxl;by_cases hlt:mi<(xl:Int)
   ·have zl:decide (mi<(xl:Int))=true:=decide_eq_true hlt;go_wp2_with fail;go_ret;refine ⟨?_,hb.trans (hE.mono hb.size)⟩;have:qI ms S.2=false:=by
     unfold qI;rw [List.all_eq_false];refine ⟨_,List.getElem_mem hzl,?_⟩;rw [HZE.out];simp only [←ZN.out,←UL.out];simp [hlt]
    rw [this];rfl
   ·have zl:decide (mi<(xl:Int))=false:=decide_eq_false hlt;go_wp2_with fail;go_roundw
    case rel=>
     refine ⟨i+1,by omega,by simp,?_,hE⟩;rw [List.take_succ_eq_append_getElem hzl,List.all_append,Mr.out,HZE.out];simp only [←ZN.out,←UL.out,List.all_cons,List.all_nil,zl];rfl
    case measure=>simp [intOf];omega
  ·have zi:decide ((i:Int)<(n:Int))=false:=by simp;omega
   obtain rfl:i=n:=by omega
   have ht:(ms.zip S.2).take i=ms.zip S.2:=List.take_of_length_le (by rw [List.length_zip,HL.out,←HN.out];omega);rw [ht] at hall;have Mr:=ae hall;clear hall ht;go_wp2_with fail;go_ret;refine ⟨?_,hb.trans (hE.mono hb.size)⟩;have:qI ms S.2=true:=Mr.out;rw [this];rfl
end Go.Proofs.YtjidohgiigjifaaGreatDoor
