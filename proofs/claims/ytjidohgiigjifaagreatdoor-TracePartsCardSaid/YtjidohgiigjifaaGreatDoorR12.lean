/- TraceParts and TraceWalks: a machine takes a character as those of its full decomposition, one by one; texts that are alike go through it, and of others none; no condition. -/
import Derived.Test.YtjidohgiigjifaaGreatDoorR11
import Derived.Great.BuildSlice
import Derived.Great.Ranges
set_option maxRecDepth 100000
set_option maxHeartbeats 6400000
namespace Go.Proofs.YtjidohgiigjifaaGreatDoor
open Go.RowKit Go.Cd
theorem pU {T:List aF} {X:List Nat} (h:bE T X) (hl:T.length<40000):gT T:=
 ⟨h.rise,fun r hr=>(h.fine r hr).1.1,fun r hr=>(h.fine r hr).2.2.1,fun r hr x hx=>((h.fine r hr).2.2.2.2 x hx).2.1,hl⟩
def pV (q:aF):Value:=.agg #[.int .i32 (q.map.getD 0 0:Nat),.int .i32 (q.map.getD 1 0:Nat)]
theorem Bf {T:List aF} {X:List Nat} (hV:bE T X) {q:aF} (hq:q∈T) (h:mI T X q):Prim T X q.code:=by
 obtain ⟨i,hi,rfl⟩:=List.mem_iff_getElem.1 hq;have hr:rowOf T T[i].code=some T[i]:=Bc hi (fun t ht h=>iy hV.rise t i ht hi h) rfl;exact (Fj (by have:=(hV.fine _ (List.getElem_mem hi)).2.2.2.1;omega) hr).2 h
theorem Fq {T:List aF} {X:List Nat} (hV:bE T X) {i j:Nat} (hi:i<T.length) (hj:j<T.length) (hij:i<j) (h1:mI T X T[i]) (h2:mI T X T[j]):pV T[i]≠pV T[j]:=by
 intro e;have p1:=Bf hV (List.getElem_mem hi) h1;have p2:=Bf hV (List.getElem_mem hj) h2;obtain ⟨_,a,b,hab,_⟩:=h1;obtain ⟨_,c,d,hcd,_⟩:=h2;unfold pV at e;rw [hab,hcd] at e;simp at e;have ha:a=c:=by omega
 have hb:b=d:=by omega
 have hm:T[i].map=T[j].map:=by rw [hab,hcd,ha,hb]
 have:=hV.pair _ (List.getElem_mem hi) _ (List.getElem_mem hj) (by rw [hab];rfl) hm p1 p2;have h3:=iy hV.rise i j hi hj hij;rw [this] at h3;omega
theorem IA {w:World} {v:Value} {T:List aF} {X:List Nat} (h:nK w v T X) (hV:bE T X) (hl:T.length<40000) (hX:X.length<10000) :
 Calls Tryz.prog 130 #[v] w fun e w'=>e=.returned .nilIface∧Below w.heap.size w w':=by
 have hF:=pU hV hl;have Vj:=ae h;obtain ⟨rv,xv,he,hrows,_⟩:=id h;obtain ⟨ra,nt,rc,xa,nx,xc,rfl⟩:=h.shape;have Xl:rv=.slice ra nt rc:=by
  injection he with he;have:=congrArg (fun s:Array Value=>s[0]?) he;simpa using this.symm
 subst Xl;obtain ⟨ra',rc',he',_,hx⟩:=hrows;have hnt:nt=T.length:=by injection he'
 have hra:ra'=ra:=by injection he' with e1;exact e1.symm
 subst hra;have HX:=ae hx;have qR:=ae hnt;have HV:=ae hV;have HF:=ae hF;have acp:nt<40000:=by omega
 obtain ⟨w1,hw1⟩:=af (w.alloc (.cells #[.slice ra' nt rc,.slice xa nx xc] 127));have k1:Is w1 w.heap.size #[.slice ra' nt rc,.slice xa nx xc] 127:=by rw [hw1];exact Is.new _ _ _
 have hb1:Below w.heap.size w w1:=by rw [hw1];exact ai _
 have hz1:w1.heap.size=w.heap.size+1:=by rw [hw1];simp
 have e0:=k1.at 0 rfl;clear h he he' hx hnt hV hF hl;go_enter Tryz.func130,Tryz.ntmps130;go_wp2_with fail;rw [←hw1];clear hw1;go_loopw [3,20] (fun lv iv wr=>∃j:Nat,j≤nt∧iv=.int .i64 j∧lv=.int .i32 (rJ T j)∧Below w1.heap.size w1 wr) (fun _ iv _=>nt-(intOf iv).toNat)
 case atStart=>exact ⟨0,Nat.zero_le _,rfl,rfl,Below.refl _ _⟩
 case round=>
  clear e0;obtain ⟨j,hj,rfl,rfl,hE⟩:=hrel;have dC:=hb1.trans (hE.mono hb1.size);by_cases hjn:j<nt
  ·have zj:decide ((j:Int)<(nt:Int))=true:=by simp;omega
   have hjl:j<T.length:=by have:=qR.out;omega
   obtain ⟨b,off,m,rfl,_,c0,c1,c2,hm,hpm⟩:=HX.out j hjl;have c0:=aA dC c0;have c1:=aA dC c1;have c2:=aA dC c2;have jQ:=HV.out.fine _ (List.getElem_mem hjl);have hlt:=EJ HV.out.rise j hjl;have U5:=ae (qw hjl);obtain ⟨w3,hw3⟩:=af (wr.alloc (.cells #[.int .i32 T[j].code,.int .i64 T[j].cls,m] 164));have k3:Is w3 wr.heap.size #[.int .i32 T[j].code,.int .i64 T[j].cls,m] 164:=by rw [hw3];exact Is.new _ _ _
   have hb3:Below wr.heap.size wr w3:=by rw [hw3];exact ai _
   have RW:=ae (Oj (w:=w3) T[j] jQ (rJ T j) hlt ((hm.mono dC).mono hb3));generalize rJ T j=lc at *;obtain ⟨am,nm,cm,rfl,_⟩:=hpm;generalize T[j]=q at *;have e0:=k3.at 0 rfl;have e1:=k3.at 1 rfl;have e2:=k3.at 2 rfl;rw [hw3] at e0 e1 e2;have z2:(⟨#[]⟩:ByteArray).toList.isEmpty=true:=by rw [Lib.toList_data];rfl
   clear jQ hm hlt;go_wp2_with fail;rw [←hw3];refine RW.out.mono ?_;rintro e w4 ⟨rfl,hB4⟩;have k4:=k3.mono hB4;have f0:=k4.at 0 rfl;clear e0 e1 e2 hw3 RW c0 c1 c2;go_wp2_with fail;go_roundw
   case rel=>exact ⟨j+1,by omega,by simp,by rw [U5.out],ag (ag hE hb3) hB4⟩
   case measure=>simp [intOf];omega
  ·have zj:decide ((j:Int)<(nt:Int))=false:=by simp;omega
   have k2:=k1.mono hE;have e0:=k2.at 0 rfl;have k2h:=ae k2;clear k2;go_wp2_with fail;clear e0 hj hjn zj;obtain ⟨wA,hwA⟩:=af wr;subst hwA;have EE:=dC;have HEA:=ae hE;clear dC hE;go_loopw [37] (fun iv wr=>∃j:Nat,j≤nt∧iv=.int .i64 j∧Below wA.heap.size wA wr) (fun iv _=>nt-(intOf iv).toNat)
   case atStart=>exact ⟨0,Nat.zero_le _,rfl,Below.refl _ _⟩
   case round=>
    obtain ⟨j,hj,rfl,hE⟩:=hrel;have dC:=EE.trans (hE.mono EE.size);have k2:=k2h.out.mono hE;by_cases hjn:j<nt
    ·have zj:decide ((j:Int)<(nt:Int))=true:=by simp;omega
     have hjl:j<T.length:=by have:=qR.out;omega
     obtain ⟨b,off,m,rfl,_,c0,c1,c2,hm,hpm⟩:=HX.out j hjl;have c0:=aA dC c0;have c1:=aA dC c1;have c2:=aA dC c2;have hmem:=List.getElem_mem hjl;have hcd:=HF.out.code _ hmem;have hok:=HV.out.full _ hmem;obtain ⟨w3,hw3⟩:=af (wr.alloc (.cells #[.int .i32 T[j].code,.int .i64 T[j].cls,m] 164));have k3:Is w3 wr.heap.size #[.int .i32 T[j].code,.int .i64 T[j].cls,m] 164:=by rw [hw3];exact Is.new _ _ _
     have hb3:Below wr.heap.size wr w3:=by rw [hw3];exact ai _
     have j_:=dC.trans (hb3.mono dC.size);have EX:=ae (vG Vj.out HF.out (T.length+3) 0 T[j].code w3 w3.heap.size [] (.slice none 0 0) (by omega) hcd hok.1 (by rw [List.length_nil,Nat.zero_add];exact hok.2) j_ j_.size (Nat.le_refl _) (World.ownsRow_nil _ _ _ _));obtain ⟨am,nm,cm,rfl,_⟩:=hpm;generalize T[j]=q at *;have k2':=k2.mono hb3;have e0:=k3.at 0 rfl;have e1:=k3.at 1 rfl;have e2:=k3.at 2 rfl;have e3:=k2'.at 0 rfl;have e4:=k2'.at 1 rfl;rw [hw3] at e0 e1 e2 e3 e4;clear hm hok hmem hcd;go_wp2_with fail;rw [←hw3];refine EX.out.mono ?_;rintro e w4 ⟨r,rfl,ho,hg4,_⟩;have hB4:=eH hg4;obtain ⟨ar,cr,rfl,_,_⟩:=az ho;clear e0 e1 e2 e3 e4 hw3 EX c0 c1 c2 ho hg4;go_wp2_with fail;go_roundw
     case rel=>exact ⟨j+1,by omega,by simp,ag (ag hE hb3) hB4⟩
     case measure=>simp [intOf];omega
    ·have zj:decide ((j:Int)<(nt:Int))=false:=by simp;omega
     have e0:=k2.at 0 rfl;have Yt:=ae k2;clear k2;have hmk:(Instr.makeMap 273 none).run Tryz.prog wr=.ok (.map (some wr.heap.size)) (wr.alloc (.map #[] 0)):=rfl;have e1:=(Yt.out.mono (ai (.map #[] 0))).at 0 rfl;go_wp2_with fail;clear e0 e1 hmk hj hjn zj;obtain ⟨wB,hwB⟩:=af wr;subst hwB;have M4:=dC;clear dC hE;go_loopw [56] (fun iv wr=>∃j:Nat,j≤nt∧iv=.int .i64 j∧(∃G,cK Tryz.prog 275 wr wB.heap.size G∧∀x u,G x u→∃(i:Nat) (hi:i<T.length),i<j∧mI T X T[i]∧x=pV T[i])∧Below wB.heap.size wB wr) (fun iv _=>nt-(intOf iv).toNat)
     case atStart=>exact ⟨0,Nat.zero_le _,rfl,⟨_,cK.new wB 0,fun x u h=>h.elim⟩,ai _⟩
     case round=>
      obtain ⟨j,hj,rfl,⟨G,hG,hGk⟩,hE⟩:=hrel;have dC:=M4.trans (hE.mono M4.size);have k2:=Yt.out.mono hE;have HGK:=ae hGk;clear hGk;by_cases hjn:j<nt
      ·have zj:decide ((j:Int)<(nt:Int))=true:=by simp;omega
       have hjl:j<T.length:=by have:=qR.out;omega
       obtain ⟨b,off,m,rfl,_,c0,c1,c2,hm,hpm⟩:=HX.out j hjl;have c0:=aA dC c0;have c1:=aA dC c1;have c2:=aA dC c2;have hmem:=List.getElem_mem hjl;have hcd:=HF.out.code _ hmem;have hmc:=HF.out.Vf _ hmem;obtain ⟨w3,hw3⟩:=af (wr.alloc (.cells #[.int .i32 T[j].code,.int .i64 T[j].cls,m] 164));have k3:Is w3 wr.heap.size #[.int .i32 T[j].code,.int .i64 T[j].cls,m] 164:=by rw [hw3];exact Is.new _ _ _
       have hb3:Below wr.heap.size wr w3:=by rw [hw3];exact ai _
       have j_:=dC.trans (hb3.mono dC.size);have Ut:=(hm.mono j_);have CO:=ae (nL (Vj.out.mono j_) HF.out hX T[j] hcd hmc Ut)
       have HGN:=ae (show ∀(u:Value),mI T X T[j]→¬G (pV T[j]) u from fun u hc hg=>by
        obtain ⟨i,hi,hij,h1,h2⟩:=HGK.out _ _ hg
        exact Fq HV.out hi hjl hij h1 hc h2.symm)
       have HGS:=ae (show ∀(u:Value),mI T X T[j]→∀x y,vZ G (pV T[j]) u x y→∃(i:Nat) (hi:i<T.length),i<j+1∧mI T X T[i]∧x=pV T[i] from fun u hc x y hxy=>by
        rcases hxy with ⟨rfl,_⟩|⟨_,hg⟩
        ·exact ⟨j,hjl,by omega,hc,rfl⟩
        ·obtain ⟨i,hi,hij,h1,h2⟩:=HGK.out _ _ hg
         exact ⟨i,hi,by omega,h1,h2⟩)
       have acv:=ae (show ∀x u,G x u→∃(i:Nat) (hi:i<T.length),i<j+1∧mI T X T[i]∧x=pV T[i] from fun x u hg=>by
        obtain ⟨i,hi,hij,h1,h2⟩:=HGK.out _ _ hg
        exact ⟨i,hi,by omega,h1,h2⟩)
       obtain ⟨am,nm,cm,rfl,hpm⟩:=hpm;have hqm:=ae hmc;generalize T[j]=q at *;have k2':=k2.mono hb3;have hG3:=hG.mono hb3;have e0:=k3.at 0 rfl;have e1:=k3.at 1 rfl;have e2:=k3.at 2 rfl;have e3:=k2'.at 0 rfl;have e4:=k2'.at 1 rfl;rw [hw3] at e0 e1 e2 e3 e4;have HM3:=ae Ut;have Vh:=ae hpm;clear hm hmem hcd hmc Ut hG hpm;go_wp2_with fail;rw [←hw3];refine CO.out.mono ?_;rintro e w4 ⟨bb,rfl,hbb,hB4⟩;clear e0 e1 e2 e3 e4 hw3 CO c0 c1 c2;have hG4:=hG3.mono hB4;have k4:=k3.mono hB4;clear hG3;cases bb with
       | false=>
         clear hbb;go_wp2_with fail;go_roundw
         case rel=>exact ⟨j+1,by omega,by simp,⟨G,hG4,acv.out⟩,hE.trans ((ag hb3 hB4).mono hE.size)⟩
         case measure=>simp [intOf];omega
       | true=>
         have hcomp:=hbb.1 rfl;have HC:=ae hcomp;obtain ⟨_,pa,pb,hab,_⟩:=hcomp;have DY:=HM3.out.mono hB4;rw [hab] at DY;obtain ⟨am',cm',hem,_,hx4⟩:=bD.lD DY.any rfl;injection hem with h1 h2 h3;subst h1;subst h2;obtain ⟨bm,off',rfl,_,hp0⟩:=hx4 0 (by simp);obtain ⟨bm',afn,acw,_,hp1⟩:=hx4 1 (by simp);cases acw;rw [Nat.add_zero] at hp0;have hpa:pa<1114112:=hqm.out pa (by rw [hab];simp);have hpb:pb<1114112:=hqm.out pb (by rw [hab];simp);have hpk:pV q=.agg #[.int .i32 (pa:Nat),.int .i32 (pb:Nat)]:=by unfold pV;rw [hab];rfl
         have HPK:=ae hpk;have e2:=k4.at 2 rfl;clear hbb hab DY hx4 hpk;have hap:(Instr.arrayAt 275 (.slice (some ⟨bm,off',none⟩) 2 cm')).run Tryz.prog w4=.ok (.pointer (some ⟨bm,off',none⟩)) w4:=by
          simp [Instr.arrayAt,run_underlying Tryz.underlying275,Result.andThen]
         obtain ⟨w5,vY⟩:=af (w4.alloc (.cells #[.int .i32 (pa:Nat),.int .i32 (pb:Nat)] 275));have k5:Is w5 w4.heap.size #[.int .i32 (pa:Nat),.int .i32 (pb:Nat)] 275:=by rw [vY];exact Is.new _ _ _
         have hb5:Below w4.heap.size w4 w5:=by rw [vY];exact ai _
         go_upto_region 23 with fail;rw [←vY];have Uu:=hG4.mono hb5;have k45:=k4.mono hb5;have g0:=k5.at 0 rfl;have g1:=k5.at 1 rfl;have g2:=k45.at 0 rfl;have hkey:=Lm hpa hpb;clear vY hap hp0 hp1 e2 hG4 k4;have HE5:=ag (ag hb3 hB4) hb5
         go_wp2_with (first
          | (refine gB rfl _ _ 273 21 true rfl Be Tryz.underlying273 Uu rfl rfl hkey (Tryz.zeroValue21 w5) ?_ ?_)
          | fail)
         ·intro _
          go_wp2_with (first
           | (refine iT rfl _ _ _ 273 21 rfl Be Tryz.underlying273 Uu rfl rfl rfl hkey ?_;intro w6 hG6 G7)
           | fail)
          go_roundw
          case rel=>
           have kZ:Below wB.heap.size wB w6:=(hE.trans (HE5.mono hE.size)).grown G7 (by have:=hE.size;have:=HE5.size;omega) fun k hk=>by cases hk;exact Nat.le_refl _
           refine ⟨j+1,by omega,by simp,⟨_,hG6,?_⟩,kZ⟩;rw [←HPK.out];exact HGS.out _ HC.out
          case measure=>simp [intOf];omega
         ·intro u hg;rw [←HPK.out] at hg;exact absurd hg (HGN.out u HC.out)
      ·have zj:decide ((j:Int)<(nt:Int))=false:=by simp;omega
       go_wp2;go_ret;exact ⟨rfl,dC⟩
theorem J8 {w:World} (c:Nat) (hc:c<1114112):Calls Tryz.prog 106 #[.int .i32 c] w fun e w'=>e=.returned (.bool true)∧w'=w:=by
 have z1:decide ((0:Int)≤(c:Int))=true:=by simp
 have z2:decide ((c:Int)≤1114111)=true:=by simp;omega
 go_enter Tryz.func106,Tryz.ntmps106;go_wp2;go_ret;exact ⟨rfl,rfl⟩
structure aab (w:World) (p:Nat) (f:Nat→Nat):Prop where
 out:∃(idx:Nat→Nat) (nb B cap:Nat),p<w.heap.size∧B<w.heap.size∧nb≤cap∧nb<65536∧w.cell? ⟨p,4352,none⟩=some (.slice (some ⟨B,0,none⟩) nb cap)∧(∀n,n<4352→idx n<nb∧w.cell? ⟨p,n,none⟩=some (.int .u16 (idx n)))∧
  (∀c,c<1114112→f c<65536∧w.cell? ⟨B,idx (c / 256)*256+c % 256,none⟩=some (.int .u16 (f c)))
theorem aab.mono {w w':World} {p:Nat} {f:Nat→Nat} (h:aab w p f) (hb:Below w.heap.size w w'):aab w' p f:=by
 obtain ⟨idx,nb,B,cap,h1,h2,h3,h3',h4,h5,h6⟩:=h;exact ⟨idx,nb,B,cap,Nat.lt_of_lt_of_le h1 hb.size,Nat.lt_of_lt_of_le h2 hb.size,h3,h3',aA hb h4,fun n hn=>⟨(h5 n hn).1,aA hb (h5 n hn).2⟩,fun c hc=>⟨(h6 c hc).1,aA hb (h6 c hc).2⟩⟩
theorem Bh (n:Nat) (hn:n<2147483648):bits .and .i32 (n:Int) 255=((n % 256:Nat):Int):=by
 have h127:(BitVec.ofInt 32 255).toNat=2 ^ 8-1:=by decide
 have key:(BitVec.ofInt 32 n &&& BitVec.ofInt 32 255).toNat=((n:Int) % ((2 ^ 32:Nat):Int)).toNat % 2 ^ 8:=by
  rw [BitVec.toNat_and,BitVec.toNat_ofInt,h127,Nat.and_two_pow_sub_one_eq_mod]
 show IntKind.i32.wrap ((BitVec.ofInt 32 n &&& BitVec.ofInt 32 255).toNat:Nat)=_;rw [key,IntKind.wrap_i32];omega
theorem x_ {w:World} {p:Nat} {f:Nat→Nat} (h:aab w p f) (c:Nat) (hc:c<1114112) :
 Calls Tryz.prog 69 #[.pointer (some ⟨p,0,none⟩),.int .i32 c] w fun e w'=>e=.returned (.int .u16 (f c))∧Below w.heap.size w w':=by
 obtain ⟨idx,nb,B,cap,h1,h2,h3,h3',h4,h5,h6⟩:=h;have IN:=ae (J8 (w:=w) c hc);obtain ⟨h7,h8⟩:=h5 (c / 256) (by omega);obtain ⟨_,h9⟩:=h6 c hc;have hm:=Bh c (by omega);have hd:((c:Int) / 256)=((c / 256:Nat):Int):=by omega
 obtain ⟨n,hn⟩:=af (c / 256);obtain ⟨k,hk⟩:=af (c % 256);have hn1:n<4352:=by omega
 have hk1:k<256:=by omega
 rw [←hn] at h7 h8 h9 hd;rw [←hk] at h9 hm;generalize idx n=i at *;generalize f c=fc at *;have g1:=Gr.cell (ah w) h4;have g2:=Gr.cell (ah w) h8;have g3:=Gr.cell (ah w) h9;have hi:i<65536:=by omega
 clear h5 h6 hn hk h4 h8 h9;go_enter Tryz.func69,Tryz.ntmps69;go_upto_region 3 with (go_at_call 106;refine IN.out.mono ?_;rintro e w2 ⟨rfl,rfl⟩);refine aD (Array.replicate 17 true) 17 0 mixed (by rfl) ?_;refine ay [0,1,2,3,4,5,6,7,8,9,10,11,12,13,14,15,16] 0 rfl (by kernel_rfl) ?_
 iterate 17 (refine aC rfl ?_;go_big_quiet_step (rfl))
 refine ak ?_;refine aI [] (by kernel_rfl) ?_;refine tail_nil ?_;go_wp2;go_ret;exact ⟨rfl,ah _⟩
end Go.Proofs.YtjidohgiigjifaaGreatDoor
namespace Go.Cd
section
open Go.RowKit
structure KR where
 rel:World→World→Prop
 refl:∀w,rel w w
 trans:∀{a b c},rel a b→rel b c→rel a c
structure sW (R:KR) (w:World) where
 tw:World
 ext:R.rel w tw
def KR.blocks (S:Nat→Prop):KR:=⟨fun w w'=>(∀k,S k→w'.heap[k]? = w.heap[k]?)∧w.heap.size≤w'.heap.size,fun _=>⟨fun _ _=>rfl,Nat.le_refl _⟩,fun h1 h2=>⟨fun k hk=>(h2.1 k hk).trans (h1.1 k hk),Nat.le_trans h1.2 h2.2⟩⟩
theorem sW.keeps {S:Nat→Prop} {w:World} {b o:Nat} {v:Value} (h:w.cell? ⟨b,o,none⟩=some v) (hb:S b):∀g:sW (KR.blocks S) w,g.tw.cell? ⟨b,o,none⟩=some v:=
 fun g=>by
  have:=g.ext.1 b hb;unfold World.cell? at h ⊢;rw [this];exact h
theorem KR.of_below {S:Nat→Prop} {B:Nat} {w w':World} (h:Below B w w') (hs:w.heap.size≤w'.heap.size) (hS:∀k,S k→k<B):(KR.blocks S).rel w w':=⟨fun k hk=>h.block k (hS k hk),hs⟩
theorem KR.bP {S:Nat→Prop} {w w':World} {row:Option Nat} (h:w.grownBy w' row) (hs:w.heap.size≤w'.heap.size) (hS:∀k,S k→k<w.heap.size∧row≠some k):(KR.blocks S).rel w w':=
 ⟨fun k hk=>h.block k (hS k hk).1 (fun e=>(hS k hk).2 e.symm),hs⟩
def IB:Op→Bool
 | .lookup ..=>true
 | o=>Al o
theorem Lp {P:Program} {ρ:Operand→Value} {o:Oper} (h:IB o.op=true) (w:World) (f:FuncId) (args:Array Value) (w':World):(execOp ρ o).run P w≠.ok (.enter f args) w':=by
 by_cases h1:Al o.op=true
 ·exact qV h1 w f args w'
 ·obtain ⟨dst,op,type,pos,after,guard⟩:=o;cases op <;> simp only [IB,Al,not_true_eq_false] at h h1
  case lookup t m x c=>exact aaF _ _ _ _ _
  all_goals first|(exact absurd h h1)|(exact absurd h (by simp))
def rX (ops:Array Oper) (l:List Nat):Bool:=l.all fun i=>match ops[i]? with|some o=>IB o.op|none=>false
section
variable {R : KR} {P : Program} {ops : Array Oper} {md : Region.Mode} {head : Array Bool}
def Lr (R:KR) (P:Program) (ops:Array Oper) (Q:Exit→Act→World→Prop) (i:Nat) (K:Act→World→Prop) (a:Act) (w:World):Prop:=
 wpOp P ops (QP Q) i (fun a' w'=>R.rel w w'∧K a' w') a w
def IC (R:KR) (P:Program) (md:Region.Mode) (ops:Array Oper) (head:Array Bool) (Q:Exit→Act→World→Prop) (T:Array Bool→Act→World→Prop):Nat→Array Bool→Act→World→Prop
 | 0,listed,a,w=>gG head listed=true∧T listed a w
 | n+1,listed,a,w=>Region.ready md ops listed≠[]∧
   ∀i∈Region.ready md ops listed,head.getD i false=true∧Lr R P ops Q i (IC R P md ops head Q T n (listed.setIfInBounds i true)) a w
theorem yf {Q:Exit→Act→World→Prop} {t:Nat}:∀(n:Nat) (listed:Array Bool) (a:Act) (w:World),
 IC R P md ops head Q (fun l a w=>wpAny P md ops Q t l a w) n listed a w→wpAny P md ops Q (n+t) listed a w
 | 0,_,_,_,h=>by simpa using h.2
 | n+1,listed,a,w,h=>by
   rw [Nat.add_right_comm];refine ⟨fun h0=>absurd h0 h.1,fun i hi=>?_⟩;exact wpOp_mono (fun a' w' h'=>yf n _ a' w' h'.2) (wG (h.2 i hi).2)
def dX (R:KR) (P:Program) (ops:Array Oper) (w:World) (o:Oper) (v:Value) (a:Act):Prop:=
 (Region.wanted o (yielded ops a.tmps)=true∧∀w',R.rel w w'→((execOp a.eval o).run P w'=.ok (.value v) w'∨((execOp a.eval o).run P w'=.ok .skip w'∧v=undef)))∨
 (Region.wanted o (yielded ops a.tmps)=false∧v=undef)
theorem dX.mono {w w':World} {o:Oper} {v:Value} {a:Act} (h:dX R P ops w o v a) (hw:R.rel w w'):dX R P ops w' o v a:=
 h.imp (fun ⟨h1,h2⟩=>⟨h1,fun w'' hw''=>h2 w'' (R.trans hw hw'')⟩) id
theorem dX.of_same {w:World} {o:Oper} {v:Value} {a a':Act} (hy:dX R P ops w o v a) (he:execOp a'.eval o=execOp a.eval o)
 (hw:Region.wanted o (yielded ops a'.tmps)=Region.wanted o (yielded ops a.tmps)):dX R P ops w o v a':=by
 unfold dX at *;rw [he,hw];exact hy
theorem dX.Lr {Q:Exit→Act→World→Prop} {w:World} {i:Nat} {o:Oper} {v:Value} {a:Act} (hi:ops[i]? = some o) (hy:dX R P ops w o v a)
 {K:Act→World→Prop} (h:K (a.put o.dst v) w):Lr R P ops Q i K a w:=by
 unfold Cd.Lr wpOp;simp only [hi];rcases hy with ⟨hw,hv⟩|⟨hw,rfl⟩
 ·have h1:=hv w (R.refl _);clear hv;rcases h1 with h1|⟨h1,rfl⟩
  ·simp only [hw,if_true,Oper.wp,h1,Oper.upon];exact .inl ⟨R.refl _,h⟩
  ·simp only [hw,if_true,Oper.wp,h1,Oper.upon];exact .inl ⟨R.refl _,h⟩
 ·simp only [hw,Bool.false_eq_true,if_false];exact ⟨R.refl _,h⟩
theorem RV {Q:Exit→Act→World→Prop} {j:Nat} {oi oj:Oper} {v:Value} (hj:ops[j]? = some oj) (hap:oi.apart ops oj=true)
 (hsi:∀cs b,oi.op≠.select cs b) (hsj:∀cs b,oj.op≠.select cs b)
 {K:Act→World→Prop} {a:Act} {w:World}
 (hy:dX R P ops w oi v a) (h:Lr R P ops Q j K (a.put oi.dst v) w) :
 Lr R P ops Q j (fun a' w'=>dX R P ops w' oi v a'∧K (a'.put oi.dst v) w') a w:=by
 obtain ⟨h1,h2,h3⟩:=Oper.apart_spec hap;have keep:∀(a:Act),dX R P ops w oi v a→∀u,dX R P ops w oi v (a.put oj.dst u):=fun a hy u=>
  hy.of_same (execOp_put oi hsi a oj.dst u h3) (wanted_put oi a oj.dst u h3)
 have keepD:∀d,dX R P ops w oi v { a with defers:=d::a.defers }:=fun d=>hy.of_same rfl rfl;unfold Cd.Lr wpOp at *;simp only [hj] at *;rw [wanted_put oj a oi.dst v h1] at h
 split
 ·rename_i hw;simp only [hw,if_true] at h;rcases h with h|⟨hasks,hlets⟩
  case inr=>exact .inr ⟨by unfold Oper.asks at *;rw [execOp_put oj hsj a oi.dst v h1] at hasks;exact hasks,hlets⟩
  refine .inl ?_;unfold Oper.wp at *;rw [execOp_put oj hsj a oi.dst v h1] at h;generalize (execOp a.eval oj).run P w=r at *;cases r with
  | ok n w'=>
    cases n <;> simp only [Oper.upon] at h ⊢
    case value u=>exact ⟨h.1,(keep a hy u).mono h.1,by rw [←Act.put_comm a v u h2];exact h.2⟩
    case skip=>exact ⟨h.1,(keep a hy _).mono h.1,by rw [←Act.put_comm a v undef h2];exact h.2⟩
    case defer d=>
     refine ⟨h.1,(dX.of_same (keepD d) (execOp_put oi hsi _ oj.dst _ h3) (wanted_put oi _ oj.dst _ h3)).mono h.1,?_⟩;rw [←Act.put_comm _ v undef h2,←Act.put_defers];exact h.2
    case enter f args=>
     refine Calls.mono h fun e w'' he=>?_;cases e with
     | returned u=>exact ⟨he.1,(keep a hy u).mono he.1,by rw [←Act.put_comm a v u h2];exact he.2⟩
     | panicked c=>exact he.elim
     | outgrown=>exact he
    case row row args=>exact Rows.mono h fun u w'' he=>⟨he.1,(keep a hy u).mono he.1,by rw [←Act.put_comm a v u h2];exact he.2⟩
  | halt x w'=>
    cases x <;> simp only [Oper.upon] at h ⊢
    case panic u=>exact h.elim
 ·rename_i hw;simp only [hw] at h;exact ⟨h.1,keep a hy _,by rw [←Act.put_comm a v undef h2];exact h.2⟩
theorem Om {Q:Exit→Act→World→Prop} {i:Nat} {a:Act} {w:World} {K K':Act→World→Prop} (h:∀a w,K a w→K' a w)
 (hh:Lr R P ops Q i K a w):Lr R P ops Q i K' a w:=wpOp_mono (fun _ _ ⟨h1,h2⟩=>⟨h1,h _ _ h2⟩) hh
theorem Bi {Q:Exit→Act→World→Prop} {T:Array Bool→Act→World→Prop} {i:Nat} {oi:Oper} {v:Value} (hi:ops[i]? = some oi) (hsel:∀(j:Nat) (o:Oper) cs b,ops[j]? = some o→o.op≠.select cs b)
 (hhi:head.getD i false=true) :
 ∀(n:Nat) (listed:Array Bool) (a:Act) (w:World),Closed md ops listed→
  (∀j oj,ops[j]? = some oj→j≠i→listed.getD j true=false→(∀e∈oj.after,Region.binds md e=true→e.on≠i)→(head.getD j false=true∧oi.apart ops oj=true)∨waits md ops i ops.size j=true)→
  i∈Region.ready md ops listed→dX R P ops w oi v a→
  IC R P md ops head Q T n (listed.setIfInBounds i true) (a.put oi.dst v) w→IC R P md ops head Q T (n+1) listed a w:=by
 intro n;have key:∀(listed:Array Bool),Closed md ops listed→
  (∀j oj,ops[j]? = some oj→j≠i→listed.getD j true=false→(∀e∈oj.after,Region.binds md e=true→e.on≠i)→(head.getD j false=true∧oi.apart ops oj=true)∨waits md ops i ops.size j=true)→
  i∈Region.ready md ops listed→∀j,j∈Region.ready md ops listed→j≠i→∃oj,ops[j]? = some oj∧listed.getD j true=false∧head.getD j false=true∧oi.apart ops oj=true:=by
  intro listed hcl hfree hr j hj hji;obtain ⟨hjun,oj,hoj,hall⟩:=mem_ready.1 hj;have h0:=(mem_ready.1 hr).1;have hi0:listed.getD i false=false:=by
   rcases Nat.lt_or_ge i listed.size with h'|h'
   ·simp [h'] at h0 ⊢;exact h0
   ·simp [Array.getElem?_eq_none h']
  have hnot:∀e∈oj.after,Region.binds md e=true→e.on≠i:=fun e he hb heq=>by
   have h1:=hall e he hb;rw [heq,hi0] at h1;cases h1
  rcases hfree j oj hoj hji hjun hnot with h|h
  ·exact ⟨oj,hoj,hjun,h.1,h.2⟩
  ·exact absurd hall (ik hcl hi0 _ j oj hoj h)
 induction n with
 | zero=>
   intro listed a w hcl hfree hr hy H;refine ⟨fun h=>(by rw [h] at hr;cases hr),fun j hj=>?_⟩;by_cases hji:j=i
   ·subst hji;exact ⟨hhi,hy.Lr hi H⟩
   ·obtain ⟨oj,hoj,hjun,hjh,_⟩:=key listed hcl hfree hr j hj hji;have h2:=fP H.1 hjh;rw [getD_set_ne false (Ne.symm hji)] at h2;rcases Nat.lt_or_ge j listed.size with h'|h'
    ·simp [h'] at hjun h2;rw [hjun] at h2;cases h2
    ·simp [Array.getElem?_eq_none h'] at h2
 | succ n ih=>
   intro listed a w hcl hfree hr hy H;refine ⟨fun h=>(by rw [h] at hr;cases hr),fun j hj=>?_⟩;by_cases hji:j=i
   ·subst hji;exact ⟨hhi,hy.Lr hi H⟩
   ·obtain ⟨MW,h1⟩:=H.2 j (ready_mono hj hji);obtain ⟨oj,hoj,hjun,_,hap⟩:=key listed hcl hfree hr j hj hji;have h2:=RV hoj hap (fun cs b=>hsel i oi cs b hi) (fun cs b=>hsel j oj cs b hoj) hy h1;have hfree':∀k ok,ops[k]? = some ok→k≠i→(listed.setIfInBounds j true).getD k true=false→
     (∀e∈ok.after,Region.binds md e=true→e.on≠i)→(head.getD k false=true∧oi.apart ops ok=true)∨waits md ops i ops.size k=true:=fun k ok hk hki hun hno=>by
     refine hfree k ok hk hki ?_ hno;by_cases hjk:j=k
     ·subst hjk;exact hjun
     ·rw [getD_set_ne true hjk] at hun;exact hun
    refine ⟨MW,Om (fun a' w' h3=>ih (listed.setIfInBounds j true) a' w' (hcl.step hj) hfree' (ready_mono hr (Ne.symm hji)) h3.1 ?_) h2⟩;rw [Array.setIfInBounds_comm _ _ hji];exact h3.2
theorem CE {Q:Exit→Act→World→Prop} {T:Array Bool→Act→World→Prop} (hs:Region.noSelect ops=true):∀(l:List Nat) (n:Nat) (listed:Array Bool) (a:Act) (w:World),Closed md ops listed→
 (rX ops l&&iJ md ops head l listed)=true→wpQuiet P ops (fun w'=>∃g:sW R w,w'=g.tw) (fun a'=>IC R P md ops head Q T n (bI l listed) a' w) (aQ ops l) a→IC R P md ops head Q T (n+l.length) listed a w
 | [],n,listed,a,w,_,_,h=>h
 | i::l,n,listed,a,w,hcl,hB,h=>by
   simp only [iJ,rX,List.all_cons,Bool.and_eq_true] at hB;obtain ⟨⟨hfi,hfl⟩,⟨⟨hr,hf⟩,hh⟩,hB'⟩:=hB;cases ho:ops[i]? with
   | none=>rw [ho] at hfi;cases hfi
   | some o=>
     rw [ho] at hfi;simp only at hfi;have hp:aQ ops (i::l)=o::aQ ops l:=by simp [aQ,ho]
     rw [hp] at h;have hB2:(rX ops l&&iJ md ops head l (listed.setIfInBounds i true))=true:=by simp only [rX,Bool.and_eq_true];exact ⟨hfl,hB'⟩
     simp only [wpQuiet] at h;by_cases hw:Region.wanted o (yielded ops a.tmps)=true
     ·rw [if_pos hw] at h;obtain ⟨v,hv,hK⟩:=h;refine Bi ho (Region.noSelect_spec hs) hh (n+l.length) listed a w hcl (eQ ho hf) (by simpa using hr) (.inl ⟨hw,fun w' hw'=>?_⟩)
       (CE hs l n _ _ w (hcl.step (by simpa using hr)) hB2 hK)
      have h1:=hv w' ⟨⟨w',hw'⟩,rfl⟩;unfold Oper.quietAt at h1;generalize hrun:(execOp a.eval o).run P w'=r at h1;cases r with
      | ok x w1=>
        cases x <;> simp only [Oper.quietUpon] at h1
        case value u=>rw [h1.1,h1.2];exact .inl rfl
        case skip=>rw [h1.1,h1.2];exact .inr ⟨rfl,rfl⟩
        case enter f args=>exact absurd hrun (Lp hfi _ _ _ _)
      | halt x w1=>exact h1.elim
     ·rw [if_neg hw] at h;exact Bi ho (Region.noSelect_spec hs) hh (n+l.length) listed a w hcl (eQ ho hf) (by simpa using hr) (.inr ⟨by simpa using hw,rfl⟩)
       (CE hs l n _ _ w (hcl.step (by simpa using hr)) hB2 h)
theorem di {Q:Exit→Act→World→Prop} {T:Array Bool→Act→World→Prop} (l:List Nat) (n:Nat) {m:Nat} {listed:Array Bool} {a:Act} {w:World} (hn:m=n+l.length)
 (hB:((Region.noSelect ops&&nZ md ops listed)&&(rX ops l&&iJ md ops head l listed))=true) (h:wpQuiet P ops (fun w'=>∃g:sW R w,w'=g.tw) (fun a'=>IC R P md ops head Q T n (bI l listed) a' w) (aQ ops l) a):IC R P md ops head Q T m listed a w:=by
 subst hn;rw [Bool.and_eq_true,Bool.and_eq_true] at hB;exact CE hB.1.1 l n listed a w (gH hB.1.2) hB.2 h
def QR (R:KR) (Q:Exit→Act→World→Prop) (w:World) (K:Act→World→Prop):Exit→Act→World→Prop
 | .normal,a,w'=>R.rel w w'∧K a w'
 | .panic _,_,_=>False
 | e,a,w'=>Q e a w'
theorem nO {Q:Exit→Act→World→Prop} {K:Act→World→Prop} {i:Nat} {o:Oper} {a:Act} {w:World} (hi:ops[i]? = some o)
 (h:wpList P ops (QR R Q w K) [o] a w):Lr R P ops Q i K a w:=by
 unfold Cd.Lr wpOp;simp only [hi];unfold wpList at h
 split
 ·rename_i hw;rw [if_pos hw] at h;rcases h with h|⟨h1,h2⟩
  ·refine .inl ?_;unfold Oper.wp at *;generalize (execOp a.eval o).run P w=r at *;cases r with
   | ok n w'=>
     cases n <;> simp only [Oper.upon] at h ⊢
     case enter f args=>
      refine Calls.mono h fun e w'' he=>?_;cases e with
      | returned u=>exact he
      | panicked c=>exact he
      | outgrown=>exact he
     case row row args=>exact Rows.mono h fun u w'' he=>he
     all_goals exact h
   | halt x w'=>cases x <;> simp only [Oper.upon] at h ⊢;exact h
  ·exact .inr ⟨h1,h2⟩
 ·rename_i hw;rw [if_neg hw] at h;exact h
theorem bT {Q:Exit→Act→World→Prop} {T:Array Bool→Act→World→Prop} {n:Nat} (i:Nat) {o:Oper} {listed:Array Bool} {a:Act} {w:World} (hB:(Region.ready md ops listed==[i]&&head.getD i false)=true) (hi:nth ops.toList i=some o)
 (h:wpList P ops (QR R Q w (IC R P md ops head Q T n (listed.setIfInBounds i true))) [o] a w):IC R P md ops head Q T (n+1) listed a w:=by
 simp only [Bool.and_eq_true,beq_iff_eq] at hB;obtain ⟨hr,hh⟩:=hB;refine ⟨by rw [hr];simp,fun j hj=>?_⟩;rw [hr] at hj;obtain rfl:j=i:=by simpa using hj
 exact ⟨hh,nO (dG hi) h⟩
theorem J9 {Q:Exit→Act→World→Prop} {T:Array Bool→Act→World→Prop} {n:Nat} (i k:Nat) {o u:Oper} {listed:Array Bool} {a:Act} {w:World} (hB:(Region.ready md ops listed==[i,k]&&(head.getD i false&&head.getD k false))=true) (hi:nth ops.toList i=some o) (hk:nth ops.toList k=some u)
 (h:wpList P ops (QR R Q w (IC R P md ops head Q T n (listed.setIfInBounds i true))) [o] a w) (h':wpList P ops (QR R Q w (IC R P md ops head Q T n (listed.setIfInBounds k true))) [u] a w):IC R P md ops head Q T (n+1) listed a w:=by
 simp only [Bool.and_eq_true,beq_iff_eq] at hB;obtain ⟨hr,hh⟩:=hB;refine ⟨by rw [hr];simp,fun j hj=>?_⟩;rw [hr] at hj;simp only [List.mem_cons,List.not_mem_nil,or_false] at hj;rcases hj with rfl|rfl
 ·exact ⟨hh.1,nO (dG hi) h⟩
 ·exact ⟨hh.2,nO (dG hk) h'⟩
theorem bB {Q:Exit→Act→World→Prop} {w:World} {K:Act→World→Prop} {a:Act} {w':World} (h1:R.rel w w') (h2:K a w'):QR R Q w K .normal a w':=⟨h1,h2⟩
theorem fe {Q:Exit→Act→World→Prop} (l:List Nat) {listed:Array Bool} {a:Act} {w:World} (hB:(gG head listed&&(Region.noSelect ops&&mW md ops l listed))=true)
 (h:wpList P ops (QP Q) (aQ ops l) a w):IC R P md ops head Q (fun l' a w=>wpAny P md ops Q l.length l' a w) 0 listed a w:=by
 simp only [Bool.and_eq_true] at hB;exact ⟨hB.1,mX _ _ _ _ (eT hB.2.1 l listed a w hB.2.2 h)⟩
theorem dM (R:KR) {id:Nat} {Q:Exit→Act→World→Prop} {a:Act} {w:World} {l:List Oper} (head:Array Bool) (n t:Nat) (hm:P.follows .mixedOrders=true) (hn:n+t=l.length)
 (h:IC R P .any l.toArray head Q (fun l' a w=>wpAny P .any l.toArray Q t l' a w) n (Array.replicate l.length false) a w.drew):(Code.region id l.toArray true).wp P Q a w:=by
 refine wp_region_any hm ?_;have:=yf n _ _ _ h;rw [hn] at this;simpa using this
end
theorem IE {P:Program} {k:TypeId} {S:Nat→Prop} {w:World} {o:Oper} {a:Act} {next:Act→Prop} (m x:Operand) (t elem:TypeId) (ho:o.op=Op.lookup t m x false)
 (K:Maps.Keyed P k) (ht:P.underlying t=some (.map k elem)) {r:Nat} {G:Value→Value→Prop} (h:cK P k w r G) (hS:S r) (hm:a.eval m=.map (some r)) {xv:Value} (hx:a.eval x=xv) (hk:gq P k xv) {z:Value} (hz:∀w,(zeroValue elem).run P w=.ok z w)
 (h1:(∀v,¬G xv v)→next (a.put o.dst z)) (h2:∀v,G xv v→next (a.put o.dst v)):o.quiet P a (fun w'=>∃g:sW (KR.blocks S) w,w'=g.tw) next:=by
 have key:∀v,(Instr.lookup t (.map (some r)) xv false).run P w=.ok v w→∀w',(∃g:sW (KR.blocks S) w,w'=g.tw)→o.quietAt P a (fun w'=>∃g:sW (KR.blocks S) w,w'=g.tw) w' v:=by
  rintro v hr w' ⟨g,rfl⟩;have h':cK P k g.tw r G:=h.block (g.ext.1 r hS);have hr':(Instr.lookup t (.map (some r)) xv false).run P g.tw=.ok v g.tw:=by
   rcases nN K ht h hk (hz w) false with ⟨e1,n1⟩|⟨u,e1,n1⟩
   ·rw [e1] at hr;rcases nN K ht h' hk (hz g.tw) false with ⟨e2,n2⟩|⟨u2,e2,n2⟩
    ·injection hr with hr _;rw [e2,←hr]
    ·exact absurd n2 (n1 u2)
   ·rw [e1] at hr;rcases nN K ht h' hk (hz g.tw) false with ⟨e2,n2⟩|⟨u2,e2,n2⟩
    ·exact absurd n1 (n2 u)
    ·injection hr with hr _;rw [e2,←hr,h.one n1 n2]
  unfold Oper.quietAt;simp only [execOp,ho,hm,hx,Sem.run_bind,hr',Result.andThen,Sem.run_pure];exact ⟨rfl,rfl⟩
 rcases nN K ht h hk (hz w) false with ⟨e1,n1⟩|⟨u,e1,n1⟩
 ·exact ⟨z,key _ e1,h1 n1⟩
 ·exact ⟨u,key _ e1,h2 u n1⟩
end
end Go.Cd
namespace Go.Proofs.YtjidohgiigjifaaGreatDoor
open Go.RowKit Go.Cd
def qB (f:Nat→Nat) (c v:Nat):Nat→Nat:=fun x=>if x=c then v else f x
theorem oG (f:Nat→Nat) (c v:Nat):qB f c v c=v:=by simp [qB]
theorem gu (f:Nat→Nat) {c x:Nat} (v:Nat) (h:x≠c):qB f c v x=f x:=by simp [qB,h]
def gU (L:List (Nat×Nat)):Nat→Nat:=L.foldl (fun f x=>qB f x.1 x.2) fun _=>0
theorem IG (L:List (Nat×Nat)) (x:Nat×Nat):gU (L++[x])=qB (gU L) x.1 x.2:=by simp [gU,List.foldl_append]
theorem Fs {L:List (Nat×Nat)} (h:∀x∈L,x.2<65536) (c:Nat):gU L c<65536:=by
 have key:∀(L:List (Nat×Nat)) (f:Nat→Nat),(∀c,f c<65536)→(∀x∈L,x.2<65536)→∀c,(L.foldl (fun f x=>qB f x.1 x.2) f) c<65536:=by
  intro L
  induction L with
  | nil=>intro f hf _ c;exact hf c
  | cons x L ih=>
    intro f hf hL c;refine ih _ (fun c=>?_) (fun y hy=>hL y (by simp [hy])) c;show (if c=x.1 then x.2 else f c)<65536
    split
    ·exact hL x (by simp)
    ·exact hf c
 exact key L _ (fun _=>by simp) h c
def bY (f:Nat→Nat) (n:Nat):Array Value:=((List.range 256).map fun k=>Value.int .u16 (f (n*256+k):Nat)).toArray
theorem eB (f:Nat→Nat) (n:Nat):(bY f n).size=256:=by simp [bY]
theorem eG (f:Nat→Nat) (n:Nat) {k:Nat} (h:k<256):(bY f n)[k]? = some (.int .u16 (f (n*256+k):Nat)):=by simp [bY,h]
theorem iD (f:Nat→Nat) (n:Nat) {k:Nat} (h:256≤k):(bY f n)[k]? = none:=Array.getElem?_eq_none (by rw [eB];exact h)
theorem Lt (f:Nat→Nat) (n k v:Nat) (h:k<256):(bY f n).setIfInBounds k (.int .u16 (v:Nat))=bY (qB f (n*256+k) v) n:=by
 apply Array.ext_getElem?;intro i;rw [Array.getElem?_setIfInBounds,eB];by_cases hi:i<256
 ·rw [eG _ _ hi,eG _ _ hi];by_cases hk:k=i
  ·subst hk;rw [if_pos rfl,if_pos hi,oG]
  ·rw [if_neg hk,gu _ _ (by omega)]
 ·rw [iD _ _ (by omega),iD _ _ (by omega)];rw [if_neg (by omega)]
theorem Fu (f:Nat→Nat) (n m k v:Nat) (h:k<256) (hn:n≠m):bY (qB f (m*256+k) v) n=bY f n:=by
 apply Array.ext_getElem?;intro i;by_cases hi:i<256
 ·rw [eG _ _ hi,eG _ _ hi,gu _ _ (by omega)]
 ·rw [iD _ _ (by omega),iD _ _ (by omega)]
theorem mf (f:Nat→Nat) (n:Nat) (h:∀k,k<256→f (n*256+k)=0):bY f n=Tryz.zeroCells182:=by
 have e:bY f n=bY (fun _=>0) 0:=by
  apply Array.ext_getElem?;intro i;by_cases hi:i<256
  ·rw [eG _ _ hi,eG _ _ hi,h i hi]
  ·rw [iD _ _ (by omega),iD _ _ (by omega)]
 exact e.trans (by kernel_rfl)
theorem iU:Maps.Keyed Tryz.prog 21:=Ll
def CG (blk:Nat→Option Nat) (x v:Value):Prop:=∃(n b:Nat),blk n=some b∧x=.int .i32 n∧v=.pointer (some ⟨b,0,none⟩)
theorem oH {blk:Nat→Option Nat} {n:Nat} {v:Value} (h:CG blk (.int .i32 n) v):∃b,blk n=some b∧v=.pointer (some ⟨b,0,none⟩):=by
 obtain ⟨m,b,h1,h2,h3⟩:=h;injection h2 with _ h2;have:n=m:=by omega
 subst this;exact ⟨b,h1,h3⟩
theorem oI {blk:Nat→Option Nat} {n:Nat} (h:∀v,¬CG blk (.int .i32 n) v):blk n=none:=by
 cases hb:blk n with
 | none=>rfl
 | some b=>exact absurd ⟨n,b,hb,rfl,rfl⟩ (h _)
structure rY (w:World) (M:Nat) (f:Nat→Nat) (blk:Nat→Option Nat):Prop where
 map:cK Tryz.prog 21 w M (CG blk)
 is:∀n b,blk n=some b→n<4352∧M<b∧Is w b (bY f n) 182
 inj:∀n m b,blk n=some b→blk m=some b→n=m
 no:∀n,blk n=none→∀k,k<256→f (n*256+k)=0
theorem rY.mono {w w':World} {M:Nat} {f:Nat→Nat} {blk:Nat→Option Nat} (h:rY w M f blk) (hb:Below w.heap.size w w'):rY w' M f blk:=
 ⟨h.map.mono hb,fun n b hn=>⟨(h.is n b hn).1,(h.is n b hn).2.1,(h.is n b hn).2.2.mono hb⟩,h.inj,h.no⟩
theorem rY.new (w:World):rY (w.alloc (.map #[] 0)) w.heap.size (fun _=>0) fun _=>none:=by
 have h0:=cK.new (P:=Tryz.prog) (k:=21) w 0;have e:(fun (_ _:Value)=>False)=CG fun _=>none:=by
  funext x v;simp [CG]
 exact ⟨e▸h0,(fun _ _ h=>nomatch h),(fun _ _ _ h=>nomatch h),(fun _ _ _ _=>rfl)⟩
theorem wJ (n:Nat) (h:n<2147483648):gq Tryz.prog 21 (.int .i32 n):=by
 refine ⟨_,Maps.keyOf_int_mk Tryz.underlying21 ?_⟩;have e1:IntKind.i32.min=-2147483648:=by decide
 have e2:IntKind.i32.max=2147483647:=by decide
 simp only [Lit.wf,e1,e2,Bool.and_eq_true,decide_eq_true_eq];omega
theorem lS {P:Program} {k:TypeId} {w w':World} {r:Nat} {G:Value→Value→Prop} {row:Option Nat} (h:cK P k w r G) (hg:w.grownBy w' row) (hr:row≠some r):cK P k w' r G:=
 h.block (hg.block r h.lt fun e=>hr e.symm)
theorem rY.put {w:World} {M:Nat} {f:Nat→Nat} {blk:Nat→Option Nat} (h:rY w M f blk) {n b:Nat} (hb:blk n=some b) {k v:Nat} (hk:k<256):rY (w.setCell ⟨b,k,none⟩ (.int .u16 (v:Nat))) M (qB f (n*256+k) v) blk:=by
 refine ⟨lS h.map (bN _ _ _ _) (fun e=>?_),fun m c hm=>?_,h.inj,fun m hm j hj=>?_⟩
 ·have:=(h.is n b hb).2.1;cases e;omega
 ·obtain ⟨h1,h2,h3⟩:=h.is m c hm;refine ⟨h1,h2,?_⟩;by_cases G6:m=n
  ·subst G6;rw [hb] at hm;cases hm;rw [←Lt _ _ _ _ hk];exact h3.set k _
  ·rw [Fu _ _ _ _ _ hk G6];exact h3.put (fun e=>G6 (h.inj m n c hm (e▸hb))) _
 ·have G6:m≠n:=fun e=>by rw [e,hb] at hm;cases hm
  rw [gu _ _ (by omega)];exact h.no m hm j hj
theorem rY.add {w w':World} {M:Nat} {f:Nat→Nat} {blk:Nat→Option Nat} (h:rY w M f blk) {n:Nat} (hn:blk n=none) (h9:n<4352)
 (hm:cK Tryz.prog 21 w' M (vZ (CG blk) (.int .i32 n) (.pointer (some ⟨w.heap.size,0,none⟩))))
 (hg:(w.alloc (.cells Tryz.zeroCells182 182)).grownBy w' (some M)):rY w' M f fun m=>if m=n then some w.heap.size else blk m:=by
 have hM:=h.map.lt;have e:vZ (CG blk) (.int .i32 n) (.pointer (some ⟨w.heap.size,0,none⟩))=CG fun m=>if m=n then some w.heap.size else blk m:=by
  funext x v;apply propext;constructor
  ·rintro (⟨rfl,rfl⟩|⟨hx,m,b,h1,rfl,rfl⟩)
   ·exact ⟨n,w.heap.size,if_pos rfl,rfl,rfl⟩
   ·exact ⟨m,b,(if_neg (fun e=>hx (by rw [e]))).trans h1,rfl,rfl⟩
  ·rintro ⟨m,b,h1,rfl,rfl⟩;simp only at h1
   split at h1
   ·rename_i e;subst e;cases h1;exact .inl ⟨rfl,rfl⟩
   ·rename_i e;refine .inr ⟨fun e1=>e ?_,m,b,h1,rfl,rfl⟩;injection e1 with _ e2;omega
 refine ⟨e▸hm,fun m b hb=>?_,fun m m' b h1 h2=>?_,fun m hm=>?_⟩
 ·split at hb
  ·rename_i e;subst e;cases hb;refine ⟨h9,hM,?_⟩;rw [mf f m (h.no m hn)];exact (Is.new w Tryz.zeroCells182 182).grown hg (fun e=>by cases e;omega)
  ·obtain ⟨h1,h2,h3⟩:=h.is m b hb;exact ⟨h1,h2,(h3.mono (ai _)).grown hg (fun e=>by cases e;omega)⟩
 ·split at h1 <;> split at h2
  ·omega
  ·cases h1;have:=(h.is m' _ h2).2.2.lt;omega
  ·cases h2;have:=(h.is m _ h1).2.2.lt;omega
  ·exact h.inj _ _ _ h1 h2
 ·split at hm
  ·cases hm
  ·exact h.no m hm
theorem uq:lF Tryz.prog 184 182 (.agg Tryz.zeroCells182) 256 512:=⟨(by kernel_rfl),Tryz.underlying184,info_parts (by kernel_rfl)⟩
def zN (f:Nat→Nat) (v:Value):Array Value:=(((List.range 4352).map fun k=>Value.int .u16 (f k:Nat))++[v]).toArray
theorem rZ (f:Nat→Nat) (v:Value):(zN f v).size=4353:=by simp [zN]
theorem qC (f:Nat→Nat) (v:Value) {k:Nat} (h:k<4352):(zN f v)[k]? = some (.int .u16 (f k:Nat)):=by
 unfold zN;rw [List.getElem?_toArray,List.getElem?_append_left (by simp;exact h)];simp [h]
theorem jT (f:Nat→Nat) (v:Value):(zN f v)[4352]? = some v:=by
 unfold zN;rw [List.getElem?_toArray,List.getElem?_append_right (by simp)];simp
theorem r9 (f:Nat→Nat) (v:Value) {k:Nat} (h:4353≤k):(zN f v)[k]? = none:=Array.getElem?_eq_none (by rw [rZ];exact h)
theorem RX (f:Nat→Nat) (v:Value) (k u:Nat) (h:k<4352):(zN f v).setIfInBounds k (.int .u16 (u:Nat))=zN (qB f k u) v:=by
 apply Array.ext_getElem?;intro i;rw [Array.getElem?_setIfInBounds,rZ];rcases Nat.lt_trichotomy i 4352 with hi|rfl|hi
 ·rw [qC _ _ hi,qC _ _ hi];by_cases hk:k=i
  ·subst hk;rw [if_pos rfl,if_pos (by omega),oG]
  ·rw [if_neg hk,gu _ _ (by omega)]
 ·rw [jT,jT,if_neg (by omega)]
 ·rw [r9 _ _ (by omega),r9 _ _ (by omega),if_neg (by omega)]
theorem J_ (f:Nat→Nat) (v v':Value):(zN f v).setIfInBounds 4352 v'=zN f v':=by
 apply Array.ext_getElem?;intro i;rw [Array.getElem?_setIfInBounds,rZ];rcases Nat.lt_trichotomy i 4352 with hi|rfl|hi
 ·rw [qC _ _ hi,qC _ _ hi,if_neg (by omega)]
 ·rw [if_pos rfl,if_pos (by omega),jT]
 ·rw [r9 _ _ (by omega),r9 _ _ (by omega),if_neg (by omega)]
theorem Lu:Tryz.zeroCells186=zN (fun _=>0) (.slice none 0 0):=by kernel_rfl
theorem vH (a:Option Addr) (n c:Nat):Tryz.prog.built 186 [(1,.slice a n c)]=some (zN (fun _=>0) (.slice a n c)):=by
 obtain ⟨i,hi,hz,_⟩:∃i,Tryz.prog.info? 186=some i∧i.zero=some (.agg Tryz.zeroCells186)∧i.size=4353∧i.bytes=8728:=info_parts (by kernel_rfl);have hp:∀fs:Array Field,Tryz.prog.underlying 186=some (.struct fs)→fs.toList.mapM (fun f=>(Tryz.prog.info? f.type).map fun i=>(f.offset,i.size))=some [(0,4352),(4352,1)]:=by
  intro fs h;rw [Tryz.underlying186] at h;cases h
  kernel_rfl
 unfold Program.built;rw [hi,Tryz.underlying186];simp only [hz,hp _ Tryz.underlying186];rw [Lu];rw [←J_ (fun _=>0) (.slice none 0 0) (.slice a n c)];simp [Instr.fill,Value.cells,rZ]
theorem pW {P:Program} {ops:Array Oper} {rest:List Oper} {o:Oper} {a:Act} {w:World} {Q:Exit→Act→World→Prop} (hg:o.guard=none) (t e:TypeId) (x:Operand) (ho:o.op=.buildSlice t 1 #[(0,x)])
 {size bytes:Nat} {z:Value} (hE:lF P t e z size bytes) (hs0:0<size) (hs9:size≤16777216) (us:Array Value) (hx:a.eval x=.agg us) (Nn:us.size=size)
 (h:wpList P ops Q rest (a.put o.dst (.slice (some ⟨w.heap.size,0,none⟩) 1 1)) (w.alloc (.cells us e))):wpList P ops Q (o::rest) a w:=by
 obtain ⟨hzs,ht,i,hi,hz,hsize,hby⟩:=hE;refine Go.wpList_buildSlice hg t e 1 #[(0,x)] ho us i z ht hi hz (by rw [hsize];omega) (by rw [hsize];omega) ?_ h;have:=Go.Great.fill_whole (s:=size) hs0 [.agg us] ((Array.range (1*size)).map (z.cells[· % z.cells.size]!)) (by simp [Value.cells,Nn]) (by simp);simp only [hsize];have e1:((#[(0,x)]:Array (Nat×Operand)).map fun (i,x)=>(i,a.eval x)).toList=(([.agg us]:List Value).zipIdx 0).map fun x=>(x.2,x.1):=by simp [hx]
 rw [e1,this];simp [Value.cells]
theorem zO {P:Program} {k:TypeId} {w:World} {ops:Array Oper} {rest:List Oper} {o:Oper} {a:Act} {Q:Exit→Act→World→Prop} (hg:o.guard=none) (m x v:Operand) (t elem:TypeId) (ho:o.op=Op.insert t m x v)
 (K:Maps.Keyed P k) (ht:P.underlying t=some (.map k elem)) {r:Nat} {G:Value→Value→Prop} (h:cK P k w r G) (hm:a.eval m=.map (some r)) {xv vv:Value} (hx:a.eval x=xv) (hv:a.eval v=vv) (hk:gq P k xv)
 (h1:∀w',cK P k w' r (vZ G xv vv)→w.grownBy w' (some r)→wpList P ops Q rest (a.put o.dst undef) w'):wpList P ops Q (o::rest) a w:=by
 refine wpList_plain hg fun K' hK'=>?_;obtain ⟨w',hr,r1,r2⟩:=Fp K ht h hk vv;unfold Oper.wp;simp [execOp,ho,hm,hx,hv,hr,Result.andThen];exact hK' _ _ (h1 w' r1 r2)
theorem Bj {f:Nat→Nat} (hf:∀c,f c<65536) (n:Nat):gq Tryz.prog 182 (.agg (bY f n)):=by
 refine J7 (P:=Tryz.prog) (k:=182) (e:=122) (n:=256) (q:=.u16) Tryz.underlying182 Tryz.underlying122 (by kernel_rfl) (by kernel_rfl) (by kernel_rfl) (m:=Tryz.prog.types.size-1) (by kernel_rfl) (bY f n) (eB _ _) ?_;intro i hi;refine ⟨_,eG f n hi,?_⟩;have e1:IntKind.u16.min=0:=by decide
 have e2:IntKind.u16.max=65535:=by decide
 have:=hf (n*256+i);simp only [Lit.wf,e1,e2,Bool.and_eq_true,decide_eq_true_eq];omega
theorem vI (f:Nat→Nat) (n:Nat):bY f n=bY (fun x=>f (n*256+x)) 0:=by simp [bY]
theorem Lv {f g:Nat→Nat} {n m:Nat} (h:bY f n=bY g m) {k:Nat} (hk:k<256):f (n*256+k)=g (m*256+k):=by
 have h1:=eG f n hk;rw [h,eG g m hk] at h1;injection h1 with h1;injection h1 with _ h1;omega
theorem II (f:Nat→Nat) (n:Nat):∀u∈(bY f n).toList,u.oneCell'=true:=by
 intro u hu;simp [bY] at hu;obtain ⟨k,_,rfl⟩:=hu;rfl
def uu (g:Nat→Nat):List Value:=(bY g 0).toList
theorem Fv (g:Nat→Nat):(uu g).length=256:=by simp [uu,eB]
theorem r_ {ops:Array Oper} {rest:List Oper} {o:Oper} {a:Act} {w:World} {Q:Exit→Act→World→Prop} (hg:o.guard=none) (x:Operand) (ho:o.op=.build 186 #[(1,x)])
 (b:Option Addr) (n c:Nat) (hx:a.eval x=.slice b n c)
 (h:wpList Tryz.prog ops Q rest (a.put o.dst (.agg (zN (fun _=>0) (.slice b n c)))) w):wpList Tryz.prog ops Q (o::rest) a w:=by
 have e:((#[(1,x)]:Array (Nat×Operand)).map fun (i,x)=>(i,a.eval x)).toList=[(1,.slice b n c)]:=by simp [hx]
 refine Go.wpList_build hg 186 #[(1,x)] ho ?_ ?_
 ·rw [e,vH];rfl
 ·rw [e,vH];exact h
structure si (w:World) (p mp base:Nat) (f:Nat→Nat) (n:Nat) (idx:Nat→Nat) (Bs:List (Nat→Nat)) (v:Value):Prop where
 is:Is w p (zN idx v) 186
 own:w.ownsRow base 182 256 v Bs.length (Bs.flatMap uu)
 map:∃G,cK Tryz.prog 182 w mp G∧∀x u,G x u→∃(i:Nat) (g:Nat→Nat),Bs[i]? = some g∧x=.agg (bY g 0)∧u=.int .i64 i
 one:∃g,Bs[0]? = some g∧∀k,k<256→g k=0
 lo:∀m,m<n→∃g,Bs[idx m]? = some g∧∀k,k<256→g k=f (m*256+k)
 hi:∀m,n≤m→idx m=0
theorem si.skip {w:World} {p mp base:Nat} {f:Nat→Nat} {n:Nat} {idx:Nat→Nat} {Bs:List (Nat→Nat)} {v:Value} (h:si w p mp base f n idx Bs v) (hz:∀k,k<256→f (n*256+k)=0):si w p mp base f (n+1) idx Bs v:=by
 refine ⟨h.is,h.own,h.map,h.one,fun m hm=>?_,fun m hm=>h.hi m (by omega)⟩;by_cases e:m=n
 ·subst e;obtain ⟨g,h1,h2⟩:=h.one;rw [h.hi m (Nat.le_refl _)];exact ⟨g,h1,fun k hk=>(h2 k hk).trans (hz k hk).symm⟩
 ·exact h.lo m (by omega)
theorem si.lay {w:World} {p mp base:Nat} {f:Nat→Nat} {n:Nat} {idx:Nat→Nat} {Bs:List (Nat→Nat)} {v:Value} (h:si w p mp base f n idx Bs v) (hn:n<4352) {i:Nat} {g:Nat→Nat} (hi:Bs[i]? = some g) (he:∀k,k<256→g k=f (n*256+k))
 (hv:v.ownBlock≠some p) (hmp:mp≠p):si (w.setCell ⟨p,n,none⟩ (.int .u16 (i:Nat))) p mp base f (n+1) (qB idx n i) Bs v:=by
 refine ⟨?_,bf h.own hv _ _,?_,h.one,fun m hm=>?_,fun m hm=>?_⟩
 ·rw [←RX _ _ _ _ hn];exact h.is.set _ _
 ·obtain ⟨G,h1,h2⟩:=h.map;exact ⟨G,lS h1 (bN _ _ _ _) (fun e=>by injection e with e;exact hmp e.symm),h2⟩
 ·by_cases e:m=n
  ·subst e;rw [oG];exact ⟨g,hi,he⟩
  ·rw [gu idx i e];exact h.lo m (by omega)
 ·rw [gu _ _ (by omega)];exact h.hi m (by omega)
theorem Fw {P:Program} {k:TypeId} {w:World} {r:Nat} {G:Value→Value→Prop} {base size n:Nat} {e:TypeId} {v:Value} {xs:List Value} (h:cK P k w r G) (ho:w.ownsRow base e size v n xs):v.ownBlock≠some r:=by
 intro e1;obtain ⟨es,ck,h1,_⟩:=h;rcases ho.2 with ⟨h2,_⟩|⟨g,_,cur,h2,_,h3,_⟩
 ·rw [h2] at e1;cases e1
 ·rw [h2] at e1;cases e1;rw [h1] at h3;cases h3
theorem si.more {w w4 w5 w9:World} {p mp base:Nat} {f:Nat→Nat} {n:Nat} {idx:Nat→Nat} {Bs:List (Nat→Nat)} {v v':Value} (h:si w p mp base f n idx Bs v) {G:Value→Value→Prop}
 (hG:cK Tryz.prog 182 w4 mp G) (hGs:∀x u,G x u→∃(i:Nat) (g:Nat→Nat),(Bs++[fun x=>f (n*256+x)])[i]? = some g∧x=.agg (bY g 0)∧u=.int .i64 i)
 (h4:w.grownBy w4 (some mp)) (hpm:p≠mp) (Yu:v.ownBlock≠some mp) (h5:Below w4.heap.size w4 w5)
 (h9:w9.ownsRow base 182 256 v' (Bs.length+1) (Bs.flatMap uu++(bY f n).toList)) (hg:w5.grownBy w9 v.ownBlock) (hv':v'.ownBlock≠some p) :
 si (w9.setCell ⟨p,4352,none⟩ v') p mp base f n idx (Bs++[fun x=>f (n*256+x)]) v':=by
 have hp4:Is w4 p (zN idx v) 186:=h.is.grown h4 (fun e=>hpm (by injection e with e;exact e.symm));have ho4:=h.own.kept h4 (.inr fun e=>Yu e);have ho5:=aG ho4 h5;have hp9:Is w9 p (zN idx v) 186:=(hp4.mono h5).grown hg ((hp4.mono h5).other ho5 (by decide));have Um:=lS (hG.mono h5) hg Yu;refine ⟨?_,?_,⟨G,lS Um (bN _ _ _ _) (fun e=>hpm (by injection e)),hGs⟩,?_,fun m hm=>?_,h.hi⟩
 ·rw [←J_ idx v v'];exact hp9.set 4352 _
 ·have:=bf h9 hv' 4352 v';rw [List.length_append,List.flatMap_append];have e1:List.flatMap uu [fun x=>f (n*256+x)]=(bY f n).toList:=by
   rw [vI f n];simp [uu]
  rw [e1];exact this
 ·obtain ⟨g,h1,h2⟩:=h.one;exact ⟨g,by rw [List.getElem?_append_left (List.getElem?_eq_some_iff.1 h1).1];exact h1,h2⟩
 ·obtain ⟨g,h1,h2⟩:=h.lo m hm;exact ⟨g,by rw [List.getElem?_append_left (List.getElem?_eq_some_iff.1 h1).1];exact h1,h2⟩
theorem si.pages {w:World} {p mp base:Nat} {f:Nat→Nat} {idx:Nat→Nat} {Bs:List (Nat→Nat)} {v:Value} (h:si w p mp base f 4352 idx Bs v) (hlen:Bs.length≤4353) (hf:∀c,f c<65536):aab w p f:=by
 obtain ⟨g0,h1,_⟩:=h.one;obtain ⟨h1,_⟩:=List.getElem?_eq_some_iff.1 h1;obtain ⟨g,cap,hv,hc,hg,_,_⟩:=cB (f:=uu) Fv rfl h.own h1;refine ⟨idx,Bs.length,g,cap,h.is.lt,hg,hc,by omega,?_,fun n hn=>⟨?_,h.is.at n (qC _ _ hn)⟩,fun c hc=>⟨hf c,?_⟩⟩
 ·rw [←hv];exact h.is.at 4352 (jT _ _)
 ·obtain ⟨_,h3,_⟩:=h.lo n hn;exact (List.getElem?_eq_some_iff.1 h3).1
 ·obtain ⟨q,h3,h4⟩:=h.lo (c / 256) (by omega);obtain ⟨h3,hq⟩:=List.getElem?_eq_some_iff.1 h3;obtain ⟨g',cap',hv',_,_,_,h5⟩:=cB (f:=uu) Fv rfl h.own h3;rw [hv] at hv';injection hv' with e1 _ _;injection e1 with e1;injection e1 with e1 _ _;subst e1;obtain ⟨h6,_⟩:=h5 (c % 256) (Nat.mod_lt _ (by decide));rw [h6,hq];show (bY q 0).toList[c % 256]? = _;rw [Array.getElem?_toList,eG _ _ (Nat.mod_lt _ (by decide)),Nat.zero_mul,Nat.zero_add,h4 _ (Nat.mod_lt _ (by decide))];have:c / 256*256+c % 256=c:=by omega
  rw [this]
end Go.Proofs.YtjidohgiigjifaaGreatDoor
