/- TraceParts and TraceWalks: a machine takes a character as those of its full decomposition, one by one; texts that are alike go through it, and of others none; no condition. -/
import Derived.Test.YtjidohgiigjifaaGreatDoorR22
set_option maxRecDepth 100000
set_option maxHeartbeats 6400000
namespace Go.Proofs.YtjidohgiigjifaaGreatDoor
open Go.RowKit Go.Cd
theorem MJ (n:Int):bits .and .i64 n 255=n % 256:=by
 have h127:(BitVec.ofInt 64 255).toNat=2 ^ 8-1:=by decide
 have key:(BitVec.ofInt 64 n &&& BitVec.ofInt 64 255).toNat=(n % ((2 ^ 64:Nat):Int)).toNat % 2 ^ 8:=by
  rw [BitVec.toNat_and,BitVec.toNat_ofInt,h127,Nat.and_two_pow_sub_one_eq_mod]
 show IntKind.i64.wrap ((BitVec.ofInt 64 n &&& BitVec.ofInt 64 255).toNat:Nat)=n % 256;rw [key,IntKind.wrap_i64];omega
theorem Kt:(⟨#[]⟩:ByteArray).toList.isEmpty=true:=by rw [ByteArray.toList_eq];rfl
theorem GK {s:ByteArray} (h:s≠⟨#[]⟩):s.toList.isEmpty=false:=by
 rw [ByteArray.toList_eq];cases e:s.data.toList with
 | nil=>exact absurd (ByteArray.ext (by simpa using e)) h
 | cons a l=>rfl
theorem GL {w:World} {B n s cap:Nat} {e:TypeId} {a:Option Addr} {xs:List Value} (h:w.ownsRow B e s (.slice a n cap) n xs) (h0:0<n):∃g,a=some ⟨g,0,none⟩∧B≤g∧g<w.heap.size:=by
 rcases h.2 with ⟨h1,h2⟩|⟨g,cap',cur,h1,hB,hh,_⟩
 ·omega
 ·cases h1;exact ⟨g,rfl,hB,block_lt hh⟩
theorem Qj {w:World} {v:Value} {T:List fM} {X:List Int} (h:JC w v T X) :
 Calls Tryz.prog 65 #[v] w fun e w'=>∃r T' X',e=.returned r∧iw w' r T' X'∧bE T' X'∧(∀q∈T',0<q.cls∨q.map≠[])∧T'.length≤20∧X'.length≤30∧(∀y∈X',aX y)∧Below w.heap.size w w':=by
 obtain ⟨v1,v2,rfl,⟨a,cap,rfl,hcap,hx⟩,h2⟩:=id h;obtain ⟨nx,hnx⟩:∃n,n=X.length:=⟨_,rfl⟩;obtain ⟨ax,cx,rfl,_,_⟩:=bD.GH h2 hnx;obtain ⟨n0,hn0⟩:∃n,n=T.length:=⟨_,rfl⟩;rw [←hn0] at h ⊢;obtain ⟨W1,hW1⟩:=af (w.alloc (.cells #[.slice a n0 cap,.slice ax nx cx] gX));obtain ⟨W2,hW2⟩:=af (W1.alloc (.cells #[.slice none 0 0,.slice none 0 0] gX));have e1:W1.heap.size=w.heap.size+1:=by rw [hW1];simp
 have e2:W2.heap.size=w.heap.size+2:=by rw [hW2];simp [e1]
 have b1:Below w.heap.size w W1:=by rw [hW1];exact ai _
 have b2:Below W1.heap.size W1 W2:=by rw [hW2];exact ai _
 have i1:Is W2 w.heap.size #[.slice a n0 cap,.slice ax nx cx] gX:=by
  have:Is W1 w.heap.size #[.slice a n0 cap,.slice ax nx cx] gX:=by rw [hW1];exact Is.new _ _ _
  exact this.mono b2
 have i2:Is W2 (w.heap.size+1) #[.slice none 0 0,.slice none 0 0] gX:=by rw [hW2];exact Is.new' _ _ _ _ e1.symm
 have b0:=ag b1 b2;have FE:=ae (Wq (h.mono b0));rw [hW1] at hW2;rw [e2] at FE;have d0:=i1.at 0 rfl;have d1:=i1.at 1 rfl;clear h hx hcap hn0 hnx h2 b1 b2 e1 hW1;go_enter Tryz.func65,Tryz.ntmps65;go_wp2_with fail;rw [←hW2];clear hW2;go_wp2_with fail;refine FE.out.mono ?_;rintro e W3 ⟨r,x,L,Y,rfl,hF,hxo,hxa,aee,aef,Cm,hb3⟩;rw [←e2] at hb3;obtain ⟨ar,cr,rfl,_,_⟩:=az hF.rows;obtain ⟨GM,GN,rfl,_,_⟩:=az hxo;obtain ⟨n,hn⟩:=af L.length;obtain ⟨ny,hny⟩:∃n,n=Y.length:=⟨_,rfl⟩;rw [←hn,←hny];have HN:=ae hn;have HNY:=ae hny;obtain ⟨O,hO⟩:=af W3.heap.size;have hO2:w.heap.size+2≤O:=by rw [hO,←e2];exact hb3.size
 have j1:=i1.mono hb3;have j2:=i2.mono hb3;have c0:=j1.at 0 rfl;have f0:=j1.frozen 0;have c1:=fun u=>(j1.set 0 u).at 1 rfl;have f1:=fun u=>(j1.set 0 u).frozen 1;have J:=(j1.set 0 (.slice ar n cr)).set 1 (.slice GM ny GN);obtain ⟨W4,Wz⟩:=af ((W3.setCell ⟨w.heap.size,0,none⟩ (.slice ar n cr)).setCell ⟨w.heap.size,1,none⟩ (.slice GM ny GN));have s4:W4.heap.size=O:=by rw [Wz,hO];simp
 have g4:∀{B m s:Nat} {e:TypeId} {v:Value} {xs:List Value},w.heap.size<B→W3.ownsRow B e s v m xs→W4.ownsRow B e s v m xs:=by
  intro B m s e v xs hB ho;rw [Wz];exact bf (bf ho (aP ho hB) _ _) (aP ho hB) _ _
 have J4:Is W4 w.heap.size #[.slice ar n cr,.slice GM ny GN] gX:=by rw [Wz];exact J
 have K4:Is W4 (w.heap.size+1) #[.slice none 0 0,.slice none 0 0] gX:=by rw [Wz];exact (j2.put (by omega) _).put (by omega) _
 have hB4:Below w.heap.size w W4:=by rw [Wz];exact aj (aj (b0.trans (hb3.mono b0.size)) (Nat.le_refl _)) (Nat.le_refl _)
 obtain ⟨W5,MF⟩:=af (W4.alloc (.cells #[.slice none 0 0,.slice GM ny GN] gX));have s5:W5.heap.size=O+1:=by rw [MF];simp [s4]
 have b5:Below W4.heap.size W4 W5:=by rw [MF];exact ai _
 have hS0:ze w.heap.size O (.slice ar n cr) (.slice GM ny GN) L Y 0 (.slice none 0 0) [] W5:=by
  rw [hn,hny];exact ⟨aG (g4 (by omega) (hn▸hF.rows)) b5,fun p hp=>aG (g4 (by omega) (hF.maps p (List.mem_of_mem_drop hp))) b5,aG (g4 (by omega) (hny▸hxo)) b5,World.ownsRow_nil _ _ _ _,by simp,K4.mono b5,by rw [MF,←hny];exact Is.new' _ _ _ _ s4.symm⟩
 have hC0:UR O (.slice ar n cr) (.slice GM ny GN) L 0 []:=by
  rw [hn,hny,hO];exact ⟨fun k e=>(hF.rows.lt k (by rw [←hn];rw [←hn] at e;exact e)).2,fun k e=>(hxo.lt k (by rw [←hny];rw [←hny] at e;exact e)).2,fun p hp k e=>((hF.maps p hp).lt k e).2,by simp,fun p hp=>by have:=hF.kY p hp;rw [←hn] at this ⊢;exact this,fun p hp=>by have:=hxa p hp;rw [←hny] at this ⊢;exact this,hF.apart,by simp⟩
 have DY:=hF.four;have qQ:Below w.heap.size w W5:=hB4.trans (b5.mono (by omega));have hd0:=(J4.mono b5).at 0 rfl;have q0:=J4.at 1 rfl;have HM4:=ae DY;have G8:=ae Cm;rw [←hn] at aee;rw [←hny] at aef;rw [Wz] at MF q0;have aeg:=hd0;rw [MF] at hd0;have HO:=ae hO;have HW:=ae MF;clear hO MF hF hxo hxa j1 j2 i1 i2 b0 hb3 g4 J J4 K4 hB4 b5 DY Cm hn hny FE d0 d1 s4 Wz e2;go_wp2_with fail;rw [←HW.out,←HO.out];clear hd0 aeg HW q0 c0 c1 f0 f1;go_loopw [19] (fun iv wr=>∃(j:Nat) (ov:Value) (Lo:List (aF×Value)),j≤n∧iv=.int .i64 j∧ze w.heap.size O (.slice ar n cr) (.slice GM ny GN) L Y j ov Lo wr∧UR O (.slice ar n cr) (.slice GM ny GN) L j Lo∧bE (Lo.map Prod.fst) Y∧(∀p∈Lo,0<p.1.cls∨p.1.map≠[])∧Lo.length≤j∧O+1≤wr.heap.size∧Below w.heap.size w wr) (fun iv _=>n-(intOf iv).toNat)
 case atStart=>exact ⟨0,_,[],Nat.zero_le _,rfl,hS0,hC0,bE.nil _,by simp,Nat.le_refl _,Nat.le_of_eq s5.symm,qQ⟩
 case round=>
  clear hS0 hC0 s5 qQ;obtain ⟨j,ov,Lo,hj,rfl,hS,hC,hV,xG,hlo,hsz,hB⟩:=hrel;by_cases hjn:j<n
  ·have hjl:j<L.length:=by have:=HN.out;omega
   obtain ⟨gr,ajI,er,_,hgr,_,hxr⟩:=cB (f:=j4) (fun _=>rfl) rfl hS.rows hjl;obtain rfl:ar=some ⟨gr,0,none⟩:=by injection er
   have c0:wr.cell? ⟨gr,j*3,none⟩=some (.int .i64 L[j].1.code):=(hxr 0 (by omega)).1;have c1:wr.cell? ⟨gr,j*3+1,none⟩=some (.int .i64 L[j].1.cls):=(hxr 1 (by omega)).1;have c2:wr.cell? ⟨gr,j*3+2,none⟩=some L[j].2:=(hxr 2 (by omega)).1;have hm:=hS.maps L[j] (by rw [List.drop_eq_getElem_cons hjl];exact List.mem_cons_self ..);have DY:=HM4.out L[j] (List.getElem_mem hjl);have hmO:=hC.mO L[j] (List.getElem_mem hjl);have Vh:=ae (fun (w1 w2:World) (g:Nat) (h:ze w.heap.size O (.slice (some ⟨gr,0,none⟩) n cr) (.slice GM ny GN) L Y (j+1) ov Lo w1) (e:L[j].2.ownBlock=some g) (h0:w.heap.size+2≤g) (hg:w1.grownBy w2 (some g))=>ze.Wx h hC hjl e h0 hg)
   have HOA:=ae (show ∀q∈L.drop (j+1),uS L[j].2 q.2 from by
    have hd:L.drop j=L[j]::L.drop (j+1):=List.drop_eq_getElem_cons hjl;have hp2:=List.Pairwise.sublist (List.drop_sublist j L) hC.la;rw [hd,List.pairwise_cons] at hp2
    exact hp2.1)
   have hS1:=ae hS.next;have y8:=ae hC.next;have HV:=ae hV;have abw:=ae xG;generalize L[j]=p at *;obtain ⟨q,mv⟩:=p;dsimp only at *;obtain ⟨nm,hnm⟩:=af q.map.length;have qh:=ae hnm;rw [←hnm] at hm DY;obtain ⟨am,cm,rfl,hcm,_⟩:=az hm;have CH0:=ae (fun W=>iL (w:=W) q.code);obtain ⟨c,hc⟩:=af (Dv q.code);have hcc:aX c:=by rw [hc];exact Dw _
   have hc9:=hcc.1;have M9:=ae hcc;have CH1:=ae (show ∀W,Calls Tryz.prog 30 #[.int .i64 q.code] W fun e w'=>e=.returned (.int .i32 c)∧w'=W from fun W=>by rw [hc];exact CH0.out W);obtain ⟨y,hy⟩:∃y:Nat,y=(q.cls % 256).toNat:=⟨_,rfl⟩;have hy1:bits BinOp.and IntKind.i64 q.cls 255=(y:Int):=by rw [MJ];omega
   have hy2:y<256:=by omega
   obtain ⟨cl,hcl⟩:∃cl:Nat,cl=y % 255:=⟨_,rfl⟩;have aeh:cl<255:=by omega
   have hz:(y:Int) % 255=(cl:Int):=by omega
   have b0:=ai (w:=wr) (.cells #[.int .i64 c,.int .i64 cl,.slice am nm cm] d_);clear hxr er hS hC hV xG hnm hc hcc CH0 hy hcl;obtain ⟨bz,zn⟩:∃bz,decide ((2:Int)<(nm:Int))=bz:=⟨_,rfl⟩;have Yw:=ae zn;go_wp2_with fail;refine (CH1.out _).mono ?_;rintro e w6 ⟨rfl,rfl⟩;go_upto_if 36 with fail;clear zn;go_cut [] from 37 to 40 (fun wx=>∃n2 m2,n2≤2∧m2.length=n2∧wx=wr.alloc (.cells #[.int .i64 c,.int .i64 cl,.slice am n2 cm] d_)∧wr.ownsRow (w.heap.size+2) aU 1 (.slice am n2 cm) n2 (bH m2))
   case first=>
    cases bz with
    | true=>
      have LM:2<nm:=by have:=of_decide_eq_true Yw.out;omega
      obtain ⟨g,rfl,hg0,hg1⟩:=GL hm (by omega);have hm2:wr.ownsRow (w.heap.size+2) aU 1 (.slice (some ⟨g,0,none⟩) 2 cm) 2 (bH (q.map.take 2)):=by
       have:=Qi hm (k:=2) (by omega);simpa [bH,List.map_take] using this
      have zT:=ae (show (q.map.take 2).length=2 by rw [List.length_take];have:=qh.out;omega);have hm2:=ae hm2;go_wp2_with fail;go_meet;exact ⟨2,_,Nat.le_refl _,zT.out,rfl,hm2.out⟩
    | false=>
      have LM:¬2<nm:=by have:=of_decide_eq_false Yw.out;omega
      go_wp2_with fail;go_meet;exact ⟨nm,q.map,by omega,qh.out.symm,rfl,hm⟩
   case rest=>
    obtain ⟨n2,m2,hn2,aaf,rfl,hm2⟩:=hcut;have zT:=ae aaf;clear hm aaf DY;obtain ⟨wo,jf⟩:∃w',w'=wr:=⟨_,rfl⟩;subst jf;go_wp2_with fail;clear hz hy1 hy2 c0 c1 c2 b0;have hb0:=ai (w:=wo) (.cells #[.int .i64 c,.int .i64 cl,.slice am n2 cm] d_);have hi0:=Is.new wo #[.int .i64 c,.int .i64 cl,.slice am n2 cm] d_;have HM:=ae hm2;clear hm2;go_loopw [44] (fun kv w2=>∃k:Nat,k≤n2∧kv=.int .i64 k∧w2.ownsRow (w.heap.size+2) aU 1 (.slice am n2 cm) n2 (bH (qN m2 k))∧ze w.heap.size O (.slice (some ⟨gr,0,none⟩) n cr) (.slice GM ny GN) L Y (j+1) ov Lo w2∧Is w2 wo.heap.size #[.int .i64 c,.int .i64 cl,.slice am n2 cm] d_∧wo.heap.size+1≤w2.heap.size∧Below w.heap.size w w2) (fun kv _=>n2-(intOf kv).toNat)
    case atStart=>exact ⟨0,Nat.zero_le _,rfl,by rw [MI];exact aG HM.out hb0,hS1.out.ext hb0,hi0,by simp,hB.trans (hb0.mono hB.size)⟩
    case round=>
     clear hb0 hi0 HM hS1;obtain ⟨k,hk,rfl,ho,hS2,hi,hsz2,hB2⟩:=hrel;by_cases hkn:k<n2
     ·obtain ⟨g,rfl,hg0,hg1⟩:=GL ho (by omega);have hgO:g<O:=hmO g rfl;have hkl:k<m2.length:=by have:=zT.out;omega
      obtain ⟨ha1,ha2⟩:=gJ ho (j:=k) (by rw [ed,GJ];exact hkl);have e9:(bH (qN m2 k))[k]? = some (.int .i64 m2[k]):=by simp [bH,TW hkl]
      rw [List.getElem?_eq_getElem (by rw [ed,GJ];exact hkl),Option.some.injEq] at e9;rw [e9] at ha1;clear e9;have HST:=ae (fun (u:Value)=>ho.stored k u);have ES:=ae (show (bH (qN m2 k)).set k (.int .i64 ((Dv m2[k]:Nat):Int))=bH (qN m2 (k+1)) by rw [←Qg hkl];simp [bH,List.map_set]);have CH2:=ae (show ∀W,Calls Tryz.prog 30 #[.int .i64 m2[k]] W fun e w'=>e=.returned (.int .i32 (Dv m2[k]))∧w'=W from fun W=>iL _);have hd9:=(Dw m2[k]).1;have hS3:=ae hS2;have h2:=hi.at 2 rfl;have k1:=Gr.cell (ah wr) h2;have k2:=Gr.cell (ah wr) ha1;generalize m2[k]=z at *;generalize Dv z=d at *;clear ho hS2;go_wp2_with fail;refine aD #[true,true,true,true,true,true,true,true,true,true,true,false] 11 1 mixed (by rfl) ?_;refine ay [0,1,2,3,4,5,6,7] 3 rfl (by kernel_rfl) ?_
      iterate 8 (refine aC rfl ?_;go_big_quiet_step (rfl))
      refine ak ?_;refine aL 8 (by kernel_rfl) rfl ?_;go_wp2_with fail;refine (CH2.out _).mono ?_;rintro e w7 ⟨rfl,rfl⟩;go_wp2_with fail;refine aH (Below.refl _ _) ?_;refine ay [9,10] 0 rfl (by kernel_rfl) ?_
      iterate 2 (refine aC rfl ?_;go_big_quiet_step (rfl))
      refine ak ?_;refine aI [11] (by kernel_rfl) ?_;refine tail_cons rfl ?_;go_wp2_with fail;refine tail_nil ?_;go_wp2;go_roundw
      case rel=>
       have Wy:=(HST.out (.int .i64 d)).2;refine ⟨k+1,by omega,rfl,?_,?_,?_,?_,?_⟩
       ·have:=(HST.out (.int .i64 d)).1;rw [ES.out] at this;exact aG this (ah _)
       ·exact ze.ext (Vh.out _ _ g hS3.out rfl hg0 Wy) (ah _)
       ·exact (hi.put (by omega) _).mono (ah _)
       ·simp;omega
       ·exact (aj hB2 (by omega)).drew
      case measure=>simp [intOf];omega
     ·obtain rfl:n2=k:=by omega
      skip
      obtain ⟨wm,jf⟩:∃w',w'=wr:=⟨_,rfl⟩;subst jf;obtain ⟨M,hMe⟩:=af (m2.map Dv);have TY:M.length=n2:=by rw [hMe,List.length_map];exact zT.out
      have RS:=ae (show ∀x∈M,aX x from fun x hx=>by rw [hMe] at hx;obtain ⟨z,_,rfl⟩:=List.mem_map.1 hx;exact Dw z);have hMo:wm.ownsRow (w.heap.size+2) aU 1 (.slice am n2 cm) M.length (ints M):=by
       have e:=Qh m2;rw [zT.out,←hMe] at e;rw [e] at ho;rw [TY];exact ho
      have DZ:=ae TY;have h0:=hi.at 0 rfl;have h1:=hi.at 1 rfl;have h2:=hi.at 2 rfl;clear ho hMe TY;go_upto_region 15 with fail;go_cut [67] from 59 to 67 (fun tv wx=>∃tb:Bool,tv=.bool tb∧(tb=false→0<cl∨M≠[])∧wm=wx)
      case first=>
       by_cases hcl0:cl=0
       ·have zc:((cl:Int)==0)=true:=by simp;omega
        by_cases hn0:n2=0
        ·have zn0:((n2:Int)==0)=true:=by simp;omega
         go_wp2_with fail;go_meet;exact ⟨true,rfl,(fun h=>by cases h),rfl⟩
        ·have zn0:((n2:Int)==0)=false:=by simp;omega
         have HS:=ae (show 0<cl∨M≠[] from .inr fun e=>by have:=DZ.out;rw [e] at this;simp at this;omega);go_wp2_with fail;go_meet;exact ⟨false,rfl,fun _=>HS.out,rfl⟩
       ·have zc:((cl:Int)==0)=false:=by simp;omega
        go_wp2_with fail;go_meet;exact ⟨false,rfl,fun _=>.inl (by omega),rfl⟩
      case rest=>
       obtain ⟨tb,rfl,htb,rfl⟩:=hcut;have HTB:=ae htb;clear htb;cases tb with
       | true=>
         have HS2:=ae hS2;clear hS2 hMo hi;go_wp2;go_roundw
         case rel=>exact ⟨j+1,ov,Lo,by omega,rfl,HS2.out,y8.out,HV.out,abw.out,by omega,by omega,hB2⟩
         case measure=>simp [intOf];omega
       | false=>
         have HS:=ae (HTB.out rfl);have x1:=hS2.out.at 1 rfl;have x0:=hS2.out.at 0 rfl;obtain ⟨UT,WA,rfl,_,_⟩:=az hS2.GI;obtain ⟨P,hP⟩:∃P:aF×Value,P=(⟨c,cl,M⟩,.slice am n2 cm):=⟨_,rfl⟩;have HP:=ae hP;have HPO:=ae (show ∀k,P.2.ownBlock=some k→k<O from fun k e=>hmO k (by rw [hP] at e;cases am <;> exact e));have HPA:=ae (show ∀q∈L.drop (j+1),uS P.2 q.2 from fun q hq k e=>HOA.out q hq k (by rw [hP] at e;cases am <;> exact e));have HPF:=ae (show aX P.1.code∧P.1.cls<255∧P.1.map.length≤2∧∀x∈P.1.map,aX x from by rw [hP];exact ⟨M9.out,aeh,by show M.length≤2;have:=DZ.out;omega,RS.out⟩);have HPS:=ae (show 0<P.1.cls∨P.1.map≠[] from by rw [hP];exact HS.out)
         have aag:=ae (fun (Wc:World) (E:Below wm.heap.size wm Wc) (p:aF×Value) (hp:p∈Lo∨p=P)=>(show Wc.ownsRow (w.heap.size+2) aU 1 p.2 p.1.map.length (ints p.1.map) from by
          rcases hp with hp|rfl
          ·exact aG (hS2.MH p hp) E
          ·rw [hP];exact aG hMo E))
         have ael:=hS2.xs
         have CKF:=ae (fun (Wc:World) (N:List (aF×Value)) (nv:Value) (B:Nat) (ho:Wc.ownsRow B d_ 3 nv N.length (N.flatMap eF)) (hE:Below wm.heap.size wm Wc) (hmem:∀p∈N,p∈Lo∨p=P) (hl:N.length≤21)=>
          z_ (iw.Kr ho (fun p hp=>aag.out Wc hE p (hmem p hp)) (aG ael hE)) (by rw [List.length_map];omega) (by have:=HNY.out;omega) (fun r hr=>by
           obtain ⟨p,hp,rfl⟩:=List.mem_map.1 hr;rcases hmem p hp with hp|rfl
           ·obtain ⟨h1,h2,h3,_,h5⟩:=HV.out.fine _ (List.mem_map_of_mem hp);exact ⟨h1,h2,h3,fun x hx=>(h5 x hx).2⟩
           ·exact HPF.out))
         have UU:=ae (fun (Wc:World) (hE:Below wm.heap.size wm Wc) (nv:Value) (N:List (aF×Value)) (ho:Wc.ownsRow (O+1) d_ 3 nv N.length (N.flatMap eF)) (hmem:∀p∈N,p∈Lo∨p=P)=>
          ze.turn (N:=N) (nv:=nv) (hS2.ext hE) y8.out (by omega) ho (fun p hp=>aag.out Wc hE p (hmem p hp)) (fun p hp=>by
           rcases hmem p hp with hp|rfl
           ·exact y8.out.oO p hp
           ·exact HPO.out))
         have HCN:=ae (fun (N:List (aF×Value)) (hmem:∀p∈N,p∈Lo∨p=P)=>(show UR O (.slice (some ⟨gr,0,none⟩) n cr) (.slice GM ny GN) L (j+1) N from
          ⟨y8.out.rO,y8.out.xO,y8.out.mO,fun p hp=>by rcases hmem p hp with hp|rfl;exact y8.out.oO p hp;exact HPO.out,y8.out.ra,y8.out.xa,y8.out.la,fun p hp=>by rcases hmem p hp with hp|rfl;exact y8.out.oa p hp;exact HPA.out⟩))
         have HSN:=ae (fun (N:List (aF×Value)) (hmem:∀p∈N,p∈Lo∨p=P) (p:aF×Value) (hp:p∈N)=>(show 0<p.1.cls∨p.1.map≠[] from by rcases hmem p hp with hp|rfl;exact abw.out p hp;exact HPS.out));have HS2:=ae hS2;have HSO:=ae hS2.out;have HI:=ae hi;have agO:Lo.length≤20:=by omega
         have x2:=aA (ai (w:=wm) (.cells #[.slice none 0 0,.slice GM ny GN] gX)) x0;clear hP hMo hS2 hi;go_wp2_with fail;go_loopw [8,74] (fun dv kv w3=>∃(k:Nat) (dn:Bool) (N:List (aF×Value)) (nv:Value),k≤Lo.length∧dv=.bool dn∧kv=.int .i64 k∧N.length≤k+1∧(dn=false→N.length≤k)∧(∀p∈N,p∈Lo∨p=P)∧w3.ownsRow (wm.heap.size+1) d_ 3 nv N.length (N.flatMap eF)∧Is w3 wm.heap.size #[nv,.slice GM ny GN] gX∧wm.heap.size+1≤w3.heap.size∧Below wm.heap.size wm w3) (fun _ kv _=>Lo.length-(intOf kv).toNat)
         case atStart=>exact ⟨0,false,[],_,Nat.zero_le _,rfl,rfl,by simp,by simp,by simp,World.ownsRow_nil _ _ _ _,Is.new _ _ _,by simp,ai _⟩
         case round=>
          clear x0 x1 x2 h0 h1 h2;obtain ⟨k,dn,N,nv,hk3,rfl,rfl,hNl,hNd,hmem,hno,UW,aah,j_⟩:=hrel;obtain ⟨XJ,XK,rfl,_,_⟩:=az hno;have GQ:=ae hmem;have y0:=(HI.out.mono j_).at 0 rfl;have y1:=(HI.out.mono j_).at 1 rfl;have y2:=(HI.out.mono j_).at 2 rfl;clear hmem;by_cases hko:k<Lo.length
          ·obtain ⟨gv,ajO,ev,_,hgv,_,hxv⟩:=cB (f:=eF) (fun _=>rfl) rfl HS2.out.GI hko;obtain rfl:UT=some ⟨gv,0,none⟩:=by injection ev
           have z0:wr.cell? ⟨gv,k*3,none⟩=some (.int .i64 Lo[k].1.code):=aA j_ (hxv 0 (by omega)).1;have z1:wr.cell? ⟨gv,k*3+1,none⟩=some (.int .i64 Lo[k].1.cls):=aA j_ (hxv 1 (by omega)).1;have z2:wr.cell? ⟨gv,k*3+2,none⟩=some Lo[k].2:=aA j_ (hxv 2 (by omega)).1;obtain ⟨aq,cq,eq2,_,_⟩:=az (HS2.out.MH _ (List.getElem_mem hko));have V_:=ae (List.getElem_mem hko);generalize Lo[k]=Q at *;obtain ⟨qr,qv⟩:=Q;dsimp only at *;obtain ⟨nq,hnq⟩:=af qr.map.length;rw [←hnq] at eq2;subst eq2;have HQ:=ae (show eF (qr,.slice aq nq cq)=[.int .i64 qr.code,.int .i64 qr.cls,.slice aq nq cq] from rfl);have hb1:Below wr.heap.size wr (wr.alloc (.cells #[.int .i64 qr.code,.int .i64 qr.cls,.slice aq nq cq] d_)):=ai _;have iq:Is (wr.alloc (.cells #[.int .i64 qr.code,.int .i64 qr.cls,.slice aq nq cq] d_)) wr.heap.size #[.int .i64 qr.code,.int .i64 qr.cls,.slice aq nq cq] d_:=Is.new _ _ _;have Nc:=ae (aG hno hb1);have XL:=ae (UW.mono hb1);have n0:=XL.out.at 0 rfl;have yy0:=aA hb1 y0;have yy1:=aA hb1 y1;have yy2:=aA hb1 y2;have q0:=iq.at 0 rfl;have q1:=iq.at 1 rfl;have q2:=iq.at 2 rfl;have T9:=ae (ag j_ hb1);have HBN:=ae (Np hno (Nat.le_refl _));clear hxv ev hnq hno UW hb1 iq;cases dn with
           | true=>
             go_wp2_with (at_builtin;refine mY (W:=(wr.alloc (.cells #[.int .i64 qr.code,.int .i64 qr.cls,.slice aq nq cq] d_))) rfl _ _ 22 rfl (wm.heap.size+1) d_ _ 3 40 mF (by decide) (by decide) (by decide) (by decide) (.slice XJ N.length XK) N.length (N.flatMap eF) rfl Nc.out _ (by first|rfl|(simp only [World.size_alloc];rfl)|(simp [World.setCell];rfl)) rfl (by simp [Value.oneCell']) (by omega) ((wr.alloc (.cells #[.int .i64 qr.code,.int .i64 qr.cls,.slice aq nq cq] d_))) (Below.refl _ _) (by first|omega|(simp;omega)) ?_;intro v8 w8 o8 nQ TN hN8;have K8:=XL.out.low nQ (by omega);have cK8:=K8.at 0 rfl;have fK8:=K8.frozen 0;obtain ⟨a8,Dx,rfl,_,_⟩:=az o8);go_roundw
             case rel=>
              have M4:=T9.out.trans (nQ.mono (by omega));refine ⟨k+1,true,N++[(qr,.slice aq nq cq)],_,by omega,rfl,rfl,by simp;omega,by simp,?_,?_,K8.set 0 _,by have:=nQ.size;simp at this ⊢;omega,aj M4 (Nat.le_refl _)⟩
              ·intro p hp;rcases List.mem_append.1 hp with h|h
               ·exact GQ.out p h
               ·rw [List.mem_singleton.1 h];exact .inl V_.out
              ·have:=bf o8 (aP o8 (k:=wm.heap.size) (by omega)) 0 (.slice a8 (N.length+1) Dx);simpa [List.flatMap_append,eF] using this
             case measure=>simp [intOf];omega
           | false=>
             have aem:N.length≤k:=hNd rfl;by_cases hlt:c<qr.code
             ·go_upto_region 24 with (at_builtin;refine mY (W:=(wr.alloc (.cells #[.int .i64 qr.code,.int .i64 qr.cls,.slice aq nq cq] d_))) rfl _ _ 22 rfl (wm.heap.size+1) d_ _ 3 40 mF (by decide) (by decide) (by decide) (by decide) (.slice XJ N.length XK) N.length (N.flatMap eF) rfl Nc.out _ (by first|rfl|(simp only [World.size_alloc];rfl)|(simp [World.setCell];rfl)) rfl (by simp [Value.oneCell']) (by omega) ((wr.alloc (.cells #[.int .i64 qr.code,.int .i64 qr.cls,.slice aq nq cq] d_))) (Below.refl _ _) (by first|omega|(simp;omega)) ?_;intro v8 w8 o8 nQ TN hN8;have K8:=XL.out.low nQ (by omega);have cK8:=K8.at 0 rfl;have fK8:=K8.frozen 0;obtain ⟨a8,Dx,rfl,_,_⟩:=az o8);have O9:=ae (bf o8 (aP o8 (k:=wm.heap.size) (by omega)) 0 (.slice a8 (N.length+1) Dx));have K9:=ae (K8.set 0 (.slice a8 (N.length+1) Dx));have I9:=(((Is.new wr #[.int .i64 qr.code,.int .i64 qr.cls,.slice aq nq cq] d_).grown TN HBN.out)).put (j:=wm.heap.size) (o:=0) (by omega) (.slice a8 (N.length+1) Dx);have r0:=I9.at 0 rfl;have r1:=I9.at 1 rfl;have r2:=I9.at 2 rfl;have r3:=K9.out.at 0 rfl;have aen:=nQ.size;simp only [World.size_alloc] at aen;have HB8:=ae nQ;clear I9 q0 q1 q2 n0 yy0 yy1 yy2 cK8 fK8 K8 o8 TN nQ hN8;go_wp2_with (at_builtin;refine mY (W:=w8.setCell ⟨wm.heap.size,0,none⟩ (.slice a8 (N.length+1) Dx)) rfl _ _ 22 rfl (wm.heap.size+1) d_ _ 3 40 mF (by decide) (by decide) (by decide) (by decide) (.slice a8 (N.length+1) Dx) (N.length+1) (_) rfl O9.out _ (by first|rfl|(simp only [World.size_alloc];rfl)|(simp [World.setCell];rfl)) rfl (by simp [Value.oneCell']) (by omega) (w8.setCell ⟨wm.heap.size,0,none⟩ (.slice a8 (N.length+1) Dx)) (Below.refl _ _) (by first|omega|(simp;omega)) ?_;intro v9x w9x o9x WB ajT ajU;have K9x:=K9.out.low WB (by omega);have ajV:=K9x.at 0 rfl;have ajW:=K9x.frozen 0;obtain ⟨a9x,aeq,rfl,_,_⟩:=az o9x);go_roundw
              case rel=>
               have M4:=T9.out.trans (HB8.out.mono (by omega));refine ⟨k+1,true,N++[P]++[(qr,.slice aq nq cq)],_,by omega,rfl,rfl,by simp;omega,by simp,?_,?_,K9x.set 0 _,by have:=WB.size;simp at this ⊢;omega,aj ((aj M4 (Nat.le_refl _)).trans (WB.mono (by omega))) (Nat.le_refl _)⟩
               ·intro p hp;rcases List.mem_append.1 hp with h|h
                ·rcases List.mem_append.1 h with h|h
                 ·exact GQ.out p h
                 ·rw [List.mem_singleton.1 h];exact .inr rfl
                ·rw [List.mem_singleton.1 h];exact .inl V_.out
               ·have:=bf o9x (aP o9x (k:=wm.heap.size) (by omega)) 0 (.slice a9x (N.length+1+1) aeq);simpa [List.flatMap_append,eF,HP.out] using this
              case measure=>simp [intOf];omega
             ·go_wp2_with (at_builtin;refine mY (W:=(wr.alloc (.cells #[.int .i64 qr.code,.int .i64 qr.cls,.slice aq nq cq] d_))) rfl _ _ 22 rfl (wm.heap.size+1) d_ _ 3 40 mF (by decide) (by decide) (by decide) (by decide) (.slice XJ N.length XK) N.length (N.flatMap eF) rfl Nc.out _ (by first|rfl|(simp only [World.size_alloc];rfl)|(simp [World.setCell];rfl)) rfl (by simp [Value.oneCell']) (by omega) ((wr.alloc (.cells #[.int .i64 qr.code,.int .i64 qr.cls,.slice aq nq cq] d_))) (Below.refl _ _) (by first|omega|(simp;omega)) ?_;intro v8 w8 o8 nQ TN hN8;have K8:=XL.out.low nQ (by omega);have cK8:=K8.at 0 rfl;have fK8:=K8.frozen 0;obtain ⟨a8,Dx,rfl,_,_⟩:=az o8);go_roundw
              case rel=>
               have M4:=T9.out.trans (nQ.mono (by omega));refine ⟨k+1,false,N++[(qr,.slice aq nq cq)],_,by omega,rfl,rfl,by simp;omega,by simp;omega,?_,?_,K8.set 0 _,by have:=nQ.size;simp at this ⊢;omega,aj M4 (Nat.le_refl _)⟩
               ·intro p hp;rcases List.mem_append.1 hp with h|h
                ·exact GQ.out p h
                ·rw [List.mem_singleton.1 h];exact .inl V_.out
               ·have:=bf o8 (aP o8 (k:=wm.heap.size) (by omega)) 0 (.slice a8 (N.length+1) Dx);simpa [List.flatMap_append,eF] using this
              case measure=>simp [intOf];omega
          ·have hke:k=Lo.length:=by omega
           have Nc:=ae hno;have XL:=ae UW;have n0:=UW.at 0 rfl;have n1:=UW.at 1 rfl;have T9:=ae j_;clear hno UW;cases dn with
           | true=>
             have hlen:N.length≤Lo.length+1:=by omega
             clear hke;have CK:=ae (CKF.out wr N (.slice XJ N.length XK) _ Nc.out T9.out GQ.out (by omega));go_wp2_with fail;refine CK.out.mono ?_;rintro e w9 ⟨s,rfl,hs,h9⟩;have HSV:=ae hs;have iO:=(HSO.out.mono T9.out).mono h9;have p0:=iO.at 0 rfl;have p1:=iO.frozen 0;have p2:=fun u=>(iO.set 0 u).at 1 rfl;have p3:=fun u=>(iO.set 0 u).frozen 1;have p4:=aA h9 n0;have p5:=aA h9 n1;have Qk:=ae (T9.out.trans (h9.mono T9.out.size));have hsE:=Qk.out.size;clear hs;by_cases hse:s=⟨#[]⟩
             ·subst hse;have zs:=Kt;go_wp2;go_roundw
              case rel=>
               exact ⟨j+1,_,N,by omega,rfl,UU.out w9 Qk.out (.slice XJ N.length XK) N (aW (aG Nc.out h9) (by omega)) GQ.out,HCN.out N GQ.out,HSV.out (by trivial),HSN.out N GQ.out,by omega,by simp;omega,aj (aj (hB2.trans (Qk.out.mono hB2.size)) (by omega)) (by omega)⟩
              case measure=>simp [intOf];omega
             ·have zs:=GK hse;go_wp2;go_roundw
              case rel=>exact ⟨j+1,_,Lo,by omega,rfl,HS2.out.ext Qk.out,y8.out,HV.out,abw.out,by omega,by omega,hB2.trans (Qk.out.mono hB2.size)⟩
              case measure=>simp [intOf];omega
           | false=>
             have aem:N.length≤k:=hNd rfl;go_upto_region 28 with (at_builtin;refine mY (W:=wr) rfl _ _ 22 rfl (wm.heap.size+1) d_ _ 3 40 mF (by decide) (by decide) (by decide) (by decide) (.slice XJ N.length XK) N.length (N.flatMap eF) rfl Nc.out _ (by first|rfl|(simp only [World.size_alloc];rfl)|(simp [World.setCell];rfl)) rfl (by simp [Value.oneCell']) (by omega) (wr) (Below.refl _ _) (by first|omega|(simp;omega)) ?_;intro v8 w8 o8 nQ TN hN8;have K8:=XL.out.low nQ (by omega);have cK8:=K8.at 0 rfl;have fK8:=K8.frozen 0;obtain ⟨a8,Dx,rfl,_,_⟩:=az o8)
             have zT:=ae (show ∀p∈N++[P],p∈Lo∨p=P from fun p hp=>by
              rcases List.mem_append.1 hp with h|h
              ·exact GQ.out p h
              ·rw [List.mem_singleton.1 h];exact .inr rfl)
             have QA:=ae (show (w8.setCell ⟨wm.heap.size,0,none⟩ (.slice a8 (N.length+1) Dx)).ownsRow (wm.heap.size+1) d_ 3 (.slice a8 (N.length+1) Dx) (N++[P]).length ((N++[P]).flatMap eF) from by
              have:=bf o8 (aP o8 (k:=wm.heap.size) (by omega)) 0 (.slice a8 (N.length+1) Dx)
              simpa [List.flatMap_append,eF,HP.out] using this)
             have HE2:=ae (aj (b:=wm.heap.size) (off:=0) (u:=.slice a8 (N.length+1) Dx) (T9.out.trans (nQ.mono (by omega))) (Nat.le_refl _));have K9:=K8.set 0 (.slice a8 (N.length+1) Dx);have n0:=K9.at 0 rfl;have n1:=K9.at 1 rfl;have hlen:(N++[P]).length≤Lo.length+1:=by simp;omega
             clear hke y0 y1 y2 cK8 fK8 K8 o8 TN nQ hN8 K9;have CK:=ae (CKF.out (w8.setCell ⟨wm.heap.size,0,none⟩ (.slice a8 (N.length+1) Dx)) (N++[P]) (.slice a8 (N.length+1) Dx) _ QA.out HE2.out zT.out (by omega));go_wp2_with fail;refine CK.out.mono ?_;rintro e w9 ⟨s,rfl,hs,h9⟩;have HSV:=ae hs;have iO:=(HSO.out.mono HE2.out).mono h9;have p0:=iO.at 0 rfl;have p1:=iO.frozen 0;have p2:=fun u=>(iO.set 0 u).at 1 rfl;have p3:=fun u=>(iO.set 0 u).frozen 1;have p4:=aA h9 n0;have p5:=aA h9 n1;have Qk:=ae (HE2.out.trans (h9.mono HE2.out.size));have hsE:=Qk.out.size;clear hs;by_cases hse:s=⟨#[]⟩
             ·subst hse;have zs:=Kt;go_wp2;go_roundw
              case rel=>
               exact ⟨j+1,_,(N++[P]),by omega,rfl,UU.out w9 Qk.out (.slice a8 (N.length+1) Dx) (N++[P]) (aW (aG QA.out h9) (by omega)) zT.out,HCN.out (N++[P]) zT.out,HSV.out (by trivial),HSN.out (N++[P]) zT.out,by omega,by simp;omega,aj (aj (hB2.trans (Qk.out.mono hB2.size)) (by omega)) (by omega)⟩
              case measure=>simp [intOf];omega
             ·have zs:=GK hse;go_wp2;go_roundw
              case rel=>exact ⟨j+1,_,Lo,by omega,rfl,HS2.out.ext Qk.out,y8.out,HV.out,abw.out,by omega,by omega,hB2.trans (Qk.out.mono hB2.size)⟩
              case measure=>simp [intOf];omega
  ·have hnj:n=j:=by omega
   obtain ⟨UT,WA,rfl,_,_⟩:=az hS.GI;have o0:=hS.out.at 0 rfl;have o1:=hS.out.at 1 rfl;have r0:=hS.res.at 0 rfl;have r1:=hS.res.frozen 0;have r2:=fun u=>(hS.res.set 0 u).at 1 rfl;have r3:=fun u=>(hS.res.set 0 u).frozen 1;have K:=(hS.res.set 0 (.slice UT Lo.length WA)).set 1 (.slice GM ny GN);have v0:=K.at 0 rfl;have v1:=K.at 1 rfl;have PP:∀{B m s:Nat} {e:TypeId} {v:Value} {xs:List Value},w.heap.size+1<B→wr.ownsRow B e s v m xs→((wr.setCell ⟨w.heap.size+1,0,none⟩ (.slice UT Lo.length WA)).setCell ⟨w.heap.size+1,1,none⟩ (.slice GM ny GN)).ownsRow B e s v m xs:=fun hB ho=>bf (bf ho (aP ho hB) _ _) (aP ho hB) _ _;have HT:=ae (iw.Kr (PP (by omega) hS.GI) (fun p hp=>PP (by omega) (hS.MH p hp)) (PP (by omega) hS.xs));have HB:=ae (aj (aj hB (b:=w.heap.size+1) (off:=0) (u:=.slice UT Lo.length WA) (by omega)) (b:=w.heap.size+1) (off:=1) (u:=.slice GM ny GN) (by omega));have HV:=ae hV;have abw:=ae xG;clear K PP hS hC hV xG hB;go_wp2
   (try simp only [Exit.inBlock,Exit.then])
   refine bodyPost_ret (v:=.agg #[.slice UT Lo.length WA,.slice GM ny GN]) (by simp [results,Tryz.results65,go_sem,v0,v1]) rfl ?_;exact ⟨_,Lo.map Prod.fst,Y,rfl,HT.out,HV.out,fun q hq=>by obtain ⟨p,hp,rfl⟩:=List.mem_map.1 hq;exact abw.out p hp,by rw [List.length_map];omega,by have:=HNY.out;omega,G8.out,HB.out⟩
theorem BF:∀(i c:Nat),ig (i+1) c=jC (c / 16 ^ i % 16)::ig i c
 | 0,c=>by simp [ig]
 | i+1,c=>by
   have h:=BF i (c / 16);rw [Nat.div_div_eq_div_mul,show 16*16 ^ i=16 ^ (i+1) by rw [Nat.pow_succ,Nat.mul_comm]] at h;show ig (i+1) (c / 16)++[jC (c % 16)]=_;rw [h];rfl
theorem ML {c i:Nat} (hc:c<1114112) (h4:4≤i) (h0:c / 16 ^ i=0) (hi:i≤4∨16 ^ (i-1)≤c):iX c=i:=by
 have hlt:c<16 ^ i:=by
  rcases Nat.div_eq_zero_iff.1 h0 with h|h
  ·exact absurd h (Nat.pos_iff_ne_zero.1 (Nat.pow_pos (by omega)))
  ·exact h
 have e4:(16:Nat) ^ 4=65536:=by decide
 have e5:(16:Nat) ^ 5=1048576:=by decide
 have e6:(16:Nat) ^ 6=16777216:=by decide
 unfold iX;rcases Nat.lt_or_ge i 7 with h7|h7
 ·have:i=4∨i=5∨i=6:=by omega
  rcases this with rfl|rfl|rfl
  ·rw [if_pos (by omega)]
  ·rw [if_neg (by rcases hi with h|h <;> simp at h ⊢ <;> omega),if_pos (by omega)]
  ·rw [if_neg (by rcases hi with h|h <;> simp at h ⊢ <;> omega),if_neg (by rcases hi with h|h <;> simp at h ⊢ <;> omega)]
 ·rcases hi with h|h
  ·omega
  ·have:(16:Nat) ^ 6≤16 ^ (i-1):=Nat.pow_le_pow_right (by decide) (by omega);omega
theorem j6 {w:World} (c:Nat) (hc:c<1114112) :
 Calls Tryz.prog 104 #[.int .i64 c] w fun e w'=>e=.returned (.string (tx (aS c)))∧Below w.heap.size w w':=by
 have HZ:=ae (show ∀i,(tx (ig i c)).size=i from fun i=>by rw [bn,mR]);have HD:=ae (show ∀i,c / 16 ^ (i+1)=c / 16 ^ i / 16 from fun i=>by rw [Nat.div_div_eq_div_mul,Nat.pow_succ]);have HS:=ae (show ∀i,tx (ig (i+1) c)=tx [jC (c / 16 ^ i % 16)]++tx (ig i c) from fun i=>by rw [cZ,BF];rfl);have HE:=ae (show ∀i,4≤i→c / 16 ^ i=0→(i≤4∨16 ^ (i-1)≤c)→tx (ig i c)=tx (aS c) from fun i h4 h0 hi=>by unfold aS;rw [ML hc h4 h0 hi]);have HP:=ae (show ∀i,0<c / 16 ^ i→16 ^ i≤c from fun i h=>Nat.le_of_not_lt fun h1=>by rw [Nat.div_eq_of_lt h1] at h;omega)
 have H7:=ae (show ∀i,(i≤4∨16 ^ (i-1)≤c)→i≤6 from fun i h=>by
  rcases h with h|h
  ·omega
  ·refine Nat.le_of_not_lt fun h1=>?_;have:(16:Nat) ^ 6≤16 ^ (i-1):=Nat.pow_le_pow_right (by decide) (by omega);have e6:(16:Nat) ^ 6=16777216:=by decide
   omega)
 have HL:=ae (show ∀i,c / 16 ^ i<1114112 from fun i=>Nat.lt_of_le_of_lt (Nat.div_le_self _ _) hc);go_enter Tryz.func104,Tryz.ntmps104;go_wp2_with fail;go_loopw [0,3,4] (fun nv sv iv wr=>∃i:Nat,i≤6∧(i≤4∨16 ^ (i-1)≤c)∧nv=.int .i64 ((c / 16 ^ i:Nat):Int)∧sv=.string (tx (ig i c))∧iv=.int .i64 i∧Below w.heap.size w wr) (fun _ _ iv _=>7-(intOf iv).toNat)
 case atStart=>exact ⟨0,by decide,.inl (by decide),by simp,rfl,rfl,Below.refl _ _⟩
 case round=>
  obtain ⟨i,R8,hi4,rfl,rfl,rfl,hE⟩:=hrel;have HI:=ae hi4;have hz:=HZ.out i;have hd:=ae (HD.out i);have hs:=ae (HS.out i);have hp:=ae (HP.out i);have he:=ae (HE.out i);have hl:=HL.out i;have h7:=ae (H7.out (i+1));clear hi4;generalize hN:c / 16 ^ i=N at *;generalize tx (ig i c)=S at *;clear hN;by_cases hgo:i<4∨0<N
  ·have WG:i+1≤4∨16 ^ (i+1-1)≤c:=by
    rcases hgo with h|h
    ·exact .inl h
    ·exact .inr (hp.out h)
   have JE:i+1≤6:=h7.out WG;have WI:=ae WG;clear WG;by_cases aam:N % 16<10
   ·have hcv:=w_ wr #[.int .u8 (48+(N:Int) % 16)] 1 [48+N % 16] rfl (by simp [Nq]) (fun d hd=>by rw [List.mem_singleton.1 hd];omega);have E2:str [48+N % 16]=tx [jC (N % 16)]:=by rw [Nr];unfold jC;rw [if_pos aam];rfl
    rw [E2] at hcv;have sz:(tx [jC (N % 16)]).size=1:=by rw [bn];rfl
    have hb:=ai (w:=wr) (.cells #[.int .u8 (48+(N:Int) % 16)] Xb);generalize tx [jC (N % 16)]=D at *;by_cases hi3:i<4
    ·clear hgo;go_wp2;go_roundw
     case rel=>exact ⟨i+1,JE,WI.out,by rw [hd.out];simp,by rw [hs.out],rfl,ag hE hb⟩
     case measure=>simp [intOf];omega
    ·have hN0:0<N:=by omega
     clear hgo;go_wp2;go_roundw
     case rel=>exact ⟨i+1,JE,WI.out,by rw [hd.out];simp,by rw [hs.out],rfl,ag hE hb⟩
     case measure=>simp [intOf];omega
   ·have hcv:=w_ wr #[.int .u8 (55+(N:Int) % 16)] 1 [55+N % 16] rfl (by simp [Nq]) (fun d hd=>by rw [List.mem_singleton.1 hd];omega);have E2:str [55+N % 16]=tx [jC (N % 16)]:=by rw [Nr];unfold jC;rw [if_neg aam];rfl
    rw [E2] at hcv;have sz:(tx [jC (N % 16)]).size=1:=by rw [bn];rfl
    have hb:=ai (w:=wr) (.cells #[.int .u8 (55+(N:Int) % 16)] Xb);generalize tx [jC (N % 16)]=D at *;by_cases hi3:i<4
    ·clear hgo;go_wp2;go_roundw
     case rel=>exact ⟨i+1,JE,WI.out,by rw [hd.out];simp,by rw [hs.out],rfl,ag hE hb⟩
     case measure=>simp [intOf];omega
    ·have hN0:0<N:=by omega
     clear hgo;go_wp2;go_roundw
     case rel=>exact ⟨i+1,JE,WI.out,by rw [hd.out];simp,by rw [hs.out],rfl,ag hE hb⟩
     case measure=>simp [intOf];omega
  ·obtain rfl:N=0:=by omega
   have E:=he.out (by omega) rfl HI.out;have hi3:¬i<4:=by omega
   clear hgo;go_wp2;go_ret;exact ⟨rfl,hE⟩
def uN:Nat→Nat→List UInt8
 | 0,_=>[]
 | i+1,n=>UInt8.ofNat (48+n / 10 ^ i % 10)::uN i n
theorem GU:∀i n,(uN i n).length=i
 | 0,_=>rfl
 | i+1,n=>by simp [uN,GU i]
theorem T_ {n i:Nat} (hn:n<1000) (h1:1≤i) (h0:n / 10 ^ i=0) (hi:i≤1∨10 ^ (i-1)≤n):uN i n=gD n:=by
 have hlt:n<10 ^ i:=by
  rcases Nat.div_eq_zero_iff.1 h0 with h|h
  ·exact absurd h (Nat.pos_iff_ne_zero.1 (Nat.pow_pos (by omega)))
  ·exact h
 unfold gD;rcases Nat.lt_or_ge i 4 with h7|h7
 ·have:i=1∨i=2∨i=3:=by omega
  rcases this with rfl|rfl|rfl
  ·simp at hlt;rw [if_pos hlt];simp [uN,Nat.mod_eq_of_lt hlt]
  ·simp at hlt hi;rw [if_neg (by omega),if_pos hlt];simp [uN,show n / 10 % 10=n / 10 by omega]
  ·simp at hlt hi;rw [if_neg (by omega),if_neg (by omega)];simp [uN,show n / 100 % 10=n / 100 by omega]
 ·rcases hi with h|h
  ·omega
  ·have:(10:Nat) ^ 3≤10 ^ (i-1):=Nat.pow_le_pow_right (by decide) (by omega);omega
theorem Ab {w:World} (c:Nat) (hc:c<1000) :
 Calls Tryz.prog 178 #[.int .i64 c] w fun e w'=>e=.returned (.string (tx (gD c)))∧Below w.heap.size w w':=by
 have HZ:=ae (show ∀i,(tx (uN i c)).size=i from fun i=>by rw [bn,GU]);have HD:=ae (show ∀i,c / 10 ^ (i+1)=c / 10 ^ i / 10 from fun i=>by rw [Nat.div_div_eq_div_mul,Nat.pow_succ]);have HS:=ae (show ∀i,tx (uN (i+1) c)=tx [UInt8.ofNat (48+c / 10 ^ i % 10)]++tx (uN i c) from fun i=>by rw [cZ];rfl);have HE:=ae (show ∀i,1≤i→c / 10 ^ i=0→(i≤1∨10 ^ (i-1)≤c)→tx (uN i c)=tx (gD c) from fun i h4 h0 hi=>by rw [T_ hc h4 h0 hi]);have HP:=ae (show ∀i,0<c / 10 ^ i→10 ^ i≤c from fun i h=>Nat.le_of_not_lt fun h1=>by rw [Nat.div_eq_of_lt h1] at h;omega)
 have H7:=ae (show ∀i,(i≤1∨10 ^ (i-1)≤c)→i≤3 from fun i h=>by
  rcases h with h|h
  ·omega
  ·refine Nat.le_of_not_lt fun h1=>?_;have:(10:Nat) ^ 3≤10 ^ (i-1):=Nat.pow_le_pow_right (by decide) (by omega)
   omega)
 have HL:=ae (show ∀i,c / 10 ^ i<1000 from fun i=>Nat.lt_of_le_of_lt (Nat.div_le_self _ _) hc);go_enter Tryz.func178,Tryz.ntmps178;go_wp2_with fail;go_loopw [0,3,4] (fun nv sv iv wr=>∃i:Nat,i≤3∧(i≤1∨10 ^ (i-1)≤c)∧nv=.int .i64 ((c / 10 ^ i:Nat):Int)∧sv=.string (tx (uN i c))∧iv=.int .i64 i∧Below w.heap.size w wr) (fun _ _ iv _=>4-(intOf iv).toNat)
 case atStart=>exact ⟨0,by decide,.inl (by decide),by simp,rfl,rfl,Below.refl _ _⟩
 case round=>
  obtain ⟨i,R8,hi4,rfl,rfl,rfl,hE⟩:=hrel;have HI:=ae hi4;have hz:=HZ.out i;have hd:=ae (HD.out i);have hs:=ae (HS.out i);have hp:=ae (HP.out i);have he:=ae (HE.out i);have hl:=HL.out i;have h7:=ae (H7.out (i+1));clear hi4;generalize hN:c / 10 ^ i=N at *;generalize tx (uN i c)=S at *;clear hN;by_cases hgo:i=0∨0<N
  ·have WG:i+1≤1∨10 ^ (i+1-1)≤c:=by
    rcases hgo with h|h
    ·exact .inl (by omega)
    ·exact .inr (hp.out h)
   have JE:i+1≤3:=h7.out WG;have WI:=ae WG;clear WG;have hcv:=w_ wr #[.int .u8 (48+(N:Int) % 10)] 1 [48+N % 10] rfl (by simp [Nq]) (fun d hd=>by rw [List.mem_singleton.1 hd];omega);have E2:str [48+N % 10]=tx [UInt8.ofNat (48+N % 10)]:=rfl;rw [E2] at hcv;have sz:(tx [UInt8.ofNat (48+N % 10)]).size=1:=by rw [bn];rfl
   have hb:=ai (w:=wr) (.cells #[.int .u8 (48+(N:Int) % 10)] Xb);generalize tx [UInt8.ofNat (48+N % 10)]=D at *;by_cases hi3:i=0
   ·have z:((i:Int)==0)=true:=by simp;omega
    clear hgo;go_wp2;go_roundw
    case rel=>exact ⟨i+1,JE,WI.out,by rw [hd.out];simp,by rw [hs.out],by (first|rfl|(subst hi3;rfl)),ag hE hb⟩
    case measure=>simp [intOf];omega
   ·have hN0:0<N:=by omega
    have z:((i:Int)==0)=false:=by simp;omega
    clear hgo;go_wp2;go_roundw
    case rel=>exact ⟨i+1,JE,WI.out,by rw [hd.out];simp,by rw [hs.out],rfl,ag hE hb⟩
    case measure=>simp [intOf];omega
  ·obtain rfl:N=0:=by omega
   have E:=he.out (by omega) rfl HI.out;have z:((i:Int)==0)=false:=by simp;omega
   clear hgo;go_wp2;go_ret;exact ⟨rfl,hE⟩
theorem BH:∀(l:List Nat) (c:Nat),b_ (l++[c])=if l=[] then aS c else b_ l++32::aS c
 | [],c=>rfl
 | [a],c=>rfl
 | a::b::l,c=>by
   have ih:=BH (b::l) c;rw [if_neg (by simp)] at ih ⊢;show aS a++32::b_ (b::l++[c])=aS a++32::b_ (b::l)++32::aS c;rw [ih];simp
theorem vS:∀l:List Nat,(b_ l).length≤7*l.length
 | []=>by simp [b_]
 | [c]=>by have:=bJ c;simp only [b_,List.length_singleton];omega
 | c::d::l=>by
   have:=bJ c;have ih:=vS (d::l);simp only [b_,List.length_append,List.length_cons] at ih ⊢;omega
theorem Ua (a b c:List UInt8):tx a++tx b++tx c=tx (a++b++c):=by rw [cZ,cZ]
theorem GV {w:World} {m:Value} (r:aF) (hm:bD w m (ints r.map)) (hc:r.code<1114112) (hcl:r.cls<1000) (ko:r.map.length≤4) (hx:∀x∈r.map,x<1114112) :
 Calls Tryz.prog 143 #[.agg #[.int .i64 r.code,.int .i64 r.cls,m]] w fun e w'=>e=.returned (.string (tx (jh r)))∧Below w.heap.size w w':=by
 obtain ⟨n,hn⟩:=af r.map.length;obtain ⟨am,cm,rfl,_,hxm⟩:=bD.kS hm hn;have MC:=ae hxm;have HN:=ae hn;have HX:=ae hx;have HT:=ae (fun (W:World) (x:Nat) (h:x<1114112)=>j6 (w:=W) x h);have HD:=ae (fun (W:World)=>Ab (w:=W) r.cls hcl);have HT0:=ae (fun (W:World)=>j6 (w:=W) r.code hc);have HS:=ae (show ∀j,(tx (b_ (r.map.take j))).size≤7*j from fun j=>by rw [bn];have:=vS (r.map.take j);rw [List.length_take] at this;omega);have HH:=ae (show ∀c,(tx (aS c)).size≤6 from fun c=>by rw [bn];exact (bJ c).2);have HDd:=ae (show (tx (gD r.cls)).size≤3 from by rw [bn];exact (qU r.cls).2)
 have HL:=ae (show tx (aS r.code)++tx [59,88,59,59]++tx (gD r.cls)++tx [59,59]++tx (b_ r.map)++tx [59,59,59,59,59,59,59,59,59]=tx (jh r) from by
  unfold jh;rw [cZ,cZ,cZ,cZ,cZ])
 obtain ⟨code,hcode⟩:∃c:Nat,c=r.code:=⟨_,rfl⟩;obtain ⟨cls,hcls⟩:∃c:Nat,c=r.cls:=⟨_,rfl⟩;rw [←hn] at ko;rw [←hcode,←hcls];rw [←hcode] at HT0;rw [←hcls] at HD;obtain ⟨W0,hW⟩:=af (w.alloc (.cells #[.int .i64 code,.int .i64 cls,.slice am n cm] d_));have hb:Below w.heap.size w W0:=by rw [hW];exact ai _
 have d0:W0.cell? ⟨w.heap.size,0,none⟩=some (.int .i64 code):=by rw [hW];unfold World.cell?;rw [heap_alloc_new];rfl
 have d1:W0.cell? ⟨w.heap.size,1,none⟩=some (.int .i64 cls):=by rw [hW];unfold World.cell?;rw [heap_alloc_new];rfl
 have d2:W0.cell? ⟨w.heap.size,2,none⟩=some (.slice am n cm):=by rw [hW];unfold World.cell?;rw [heap_alloc_new];rfl
 have HC:=ae hcode;have HCL:=ae hcls;clear hm hxm hn hx hc hcl hcode hcls;go_enter Tryz.func143,Tryz.ntmps143;go_wp2_with fail;rw [←hW];clear hW;go_wp2_with fail;go_loopw [3,9] (fun sv iv wr=>∃j:Nat,j≤n∧iv=.int .i64 j∧sv=.string (tx (b_ (r.map.take j)))∧Below W0.heap.size W0 wr) (fun _ iv _=>n-(intOf iv).toNat)
 case atStart=>exact ⟨0,Nat.zero_le _,rfl,rfl,Below.refl _ _⟩
 case round=>
  obtain ⟨j,hj,rfl,rfl,hE⟩:=hrel;have dC:=hb.trans (hE.mono hb.size);by_cases hjn:j<n
  ·have hjl:j<r.map.length:=by have:=HN.out;omega
   obtain ⟨b,off,rfl,hbs,hc⟩:=MC.out j hjl;have hc:=aA dC hc;have hx:=HX.out _ (List.getElem_mem hjl);have ES:=ae (show b_ (r.map.take (j+1))=if r.map.take j=[] then aS r.map[j] else b_ (r.map.take j)++32::aS r.map[j] by rw [List.take_succ_eq_append_getElem hjl,BH]);have s1:=HS.out j;have s2:=HH.out r.map[j];generalize r.map[j]=x at *;have Bo:=ae (fun (W:World)=>HT.out W x hx);by_cases hj0:j=0
   ·have E0:=ae (show tx ([]:List UInt8)++tx (aS x)=tx (b_ (r.map.take (j+1))) by rw [ES.out,if_pos (by rw [hj0];rfl),cZ];rfl);have E1:b_ (r.map.take j)=[]:=by rw [hj0];rfl
    rw [E1] at s1 ⊢;generalize tx (aS x)=U at *;have z1:(tx ([]:List UInt8)).size=0:=rfl;generalize tx ([]:List UInt8)=S at *;have j0:¬0<j:=by omega
    clear ES E1 hx hj0;go_wp2_with fail;refine (Bo.out _).mono ?_;rintro e w2 ⟨rfl,h2⟩;go_wp2;go_roundw
    case rel=>exact ⟨j+1,by omega,rfl,congrArg Value.string E0.out,ag hE h2⟩
    case measure=>simp [intOf];omega
   ·have E0:=ae (show tx (b_ (r.map.take j))++tx [32]++tx (aS x)=tx (b_ (r.map.take (j+1))) by
     rw [ES.out,if_neg (fun h=>by have:=congrArg List.length h;rw [List.length_take,List.length_nil] at this;omega),Ua];simp)
    generalize tx (aS x)=U at *;generalize tx (b_ (r.map.take j))=S at *;have j0:0<j:=by omega
    have z0:(tx [32]).size=1:=rfl;have z1:(S++tx [32]).size=S.size+1:=by rw [ByteArray.size_append];rfl
    clear ES hx;go_wp2_with fail;refine (Bo.out _).mono ?_;rintro e w2 ⟨rfl,h2⟩;go_wp2;go_roundw
    case rel=>exact ⟨j+1,by omega,rfl,congrArg Value.string E0.out,ag hE h2⟩
    case measure=>simp [intOf];omega
  ·obtain rfl:j=n:=by omega
   have sm:=HS.out j;rw [List.take_of_length_le (by rw [HN.out];exact Nat.le_refl _)] at sm ⊢;have e0:=aA hE d0;have e1:=aA hE d1;have g0:=Gr.cell (ah wr) e0;have g1:=Gr.cell (ah wr) e1;have sh:=HH.out code;have sd:=HDd.out;rw [←HCL.out] at sd;have HLL:=ae (show tx (aS code)++tx [59,88,59,59]++tx (gD cls)++tx [59,59]++tx (b_ r.map)++tx [59,59,59,59,59,59,59,59,59]=tx (jh r) by rw [HC.out,HCL.out];exact HL.out);generalize tx (aS code)=U at *;generalize tx (gD cls)=D at *;generalize tx (b_ r.map)=M at *;have q1:¬9223372036854775807<U.size+4:=by omega
   have q2:¬9223372036854775807<U.size+4+D.size:=by omega
   have q3:¬9223372036854775807<U.size+4+D.size+2:=by omega
   have q4:¬9223372036854775807<U.size+4+D.size+2+M.size:=by omega
   have q5:¬9223372036854775807<U.size+4+D.size+2+M.size+9:=by omega
   go_wp2_with fail;refine aD (Array.replicate 13 true) 13 0 mixed (by rfl) ?_;refine ay [0,1,4,5,9] 8 rfl (by kernel_rfl) ?_
   iterate 5 (refine aC rfl ?_;go_big_quiet_step (rfl))
   refine ak ?_;refine aL 2 (by kernel_rfl) rfl ?_;go_wp2_with fail;refine (HT0.out _).mono ?_;rintro e Zl ⟨rfl,Mh⟩;go_wp2_with fail;refine aH Mh ?_;refine ay [3] 6 rfl (by kernel_rfl) ?_
   iterate 1 (refine aC rfl ?_;go_big_quiet_step (rfl))
   refine ak ?_;refine aL 6 (by kernel_rfl) rfl ?_;go_wp2_with fail;refine (HD.out _).mono ?_;rintro e Jc ⟨rfl,Bv⟩;go_wp2_with fail;refine aH Bv ?_;refine ay [7,8,10,11,12] 0 rfl (by kernel_rfl) ?_
   iterate 5 (refine aC rfl ?_;go_big_quiet_step (rfl))
   refine ak ?_;refine aI [] (by kernel_rfl) ?_;refine tail_nil ?_;go_wp2;go_ret;exact ⟨congrArg (fun x=>Ending.returned (.string x)) HLL.out,dC.trans ((ag (ag (ah wr) Mh) Bv).mono dC.size)⟩
theorem vT (l:List (List UInt8)) (x:List UInt8):bq (l++[x])=bq l++(x++[10]):=by simp [bq]
theorem Dy {T:List aF} (h:∀r∈T,r.map.length≤2):(gF T).length≤38*T.length:=by
 induction T with
 | nil=>simp [gF,bq]
 | cons r T ih=>
   have h1:=Ai (h r (List.mem_cons_self ..));have h2:=ih fun q hq=>h q (List.mem_cons_of_mem _ hq);simp only [gF,bq,List.map_cons,List.flatMap_cons,List.length_append,List.length_cons,List.length_nil] at h2 ⊢;omega
theorem GX {w:World} {v:Value} {T:List aF} (h:uQ w v T) (hT:∀r∈T,r.code<1114112∧r.cls<1000∧r.map.length≤2∧∀x∈r.map,x<1114112) (hl:T.length<1000000) :
 Calls Tryz.prog 105 #[v] w fun e w'=>e=.returned (.string (tx (gF T)))∧Below w.heap.size w w':=by
 obtain ⟨a,cap,rfl,_,hx⟩:=h;obtain ⟨n,hn⟩:=af T.length;rw [←hn] at hl ⊢;have HN:=ae hn;have HX:=ae hx;have Mq:=ae hT;have HS:=ae (show ∀j,(tx (gF (T.take j))).size≤38*j from fun j=>by rw [bn];have:=Dy (T:=T.take j) (fun r hr=>(hT r (List.mem_of_mem_take hr)).2.2.1);rw [List.length_take] at this;omega);clear hx hn hT;go_enter Tryz.func105,Tryz.ntmps105;go_wp2_with fail;go_loopw [3,8] (fun sv iv wr=>∃j:Nat,j≤n∧iv=.int .i64 j∧sv=.string (tx (gF (T.take j)))∧Below w.heap.size w wr) (fun _ iv _=>n-(intOf iv).toNat)
 case atStart=>exact ⟨0,Nat.zero_le _,rfl,rfl,Below.refl _ _⟩
 case round=>
  obtain ⟨j,hj,rfl,rfl,hE⟩:=hrel;by_cases hjn:j<n
  ·have hjl:j<T.length:=by have:=HN.out;omega
   obtain ⟨b,off,m,rfl,hbs,c0,c1,c2,hm⟩:=HX.out j hjl;have c0:=aA hE c0;have c1:=aA hE c1;have c2:=aA hE c2;have hm:=hm.mono hE;obtain ⟨h1,h2,h3,h4⟩:=Mq.out _ (List.getElem_mem hjl)
   have ES:=ae (show tx (gF (T.take j))++(tx (jh T[j])++tx [10])=tx (gF (T.take (j+1))) by
    rw [cZ,cZ,List.take_succ_eq_append_getElem hjl];unfold gF;rw [List.map_append,List.map_singleton,vT])
   have s1:=HS.out j;have s2:(tx (jh T[j])).size≤37:=by rw [bn];exact Ai h3
   generalize T[j]=q at *;have LI:=ae (fun (W:World) (E:Below wr.heap.size wr W)=>GV (w:=W) q (hm.mono E) h1 h2 (by omega) h4);obtain ⟨nm,hnm⟩:=af q.map.length;obtain ⟨am,cm,rfl,_,_⟩:=bD.kS hm hnm;generalize tx (jh q)=U at *;generalize tx (gF (T.take j))=S at *;have q1:¬9223372036854775807<U.size+1:=by omega
   have q2:¬9223372036854775807<S.size+(U.size+1):=by omega
   have hb:=ai (w:=wr) (.cells #[.int .i64 q.code,.int .i64 q.cls,.slice am nm cm] d_);clear hm hnm h4;go_wp2_with fail;refine (LI.out _ hb).mono ?_;rintro e w2 ⟨rfl,h2⟩;go_wp2;go_roundw
   case rel=>exact ⟨j+1,by omega,rfl,congrArg Value.string ES.out,ag hE (ag hb h2)⟩
   case measure=>simp [intOf];omega
  ·obtain rfl:j=n:=by omega
   rw [List.take_of_length_le (by rw [HN.out];exact Nat.le_refl _)];go_wp2;go_ret;exact ⟨rfl,hE⟩
theorem yX:∀(l s:List Nat) (c:Nat),dz s (l++[c])=if c∈s++l then dz s l else dz s l++[c]
 | [],s,c=>by
   by_cases h:c∈s
   ·simp [dz,h]
   ·simp [dz,h]
 | a::l,s,c=>by
   have ih:=yX l (s++[a]) c;have e:c∈s++[a]++l↔c∈s++a::l:=by simp
   show (if a∈s then dz (s++[a]) (l++[c]) else a::dz (s++[a]) (l++[c]))=_;show _=if c∈s++a::l then (if a∈s then dz (s++[a]) l else a::dz (s++[a]) l) else (if a∈s then dz (s++[a]) l else a::dz (s++[a]) l)++[c];rw [ih];by_cases h:c∈s++a::l
   ·rw [if_pos (e.2 h),if_pos h]
   ·rw [if_neg (fun x=>h (e.1 x)),if_neg h]
    split <;> rfl
theorem BI:∀(l s:List Nat),(dz s l).length≤l.length
 | [],_=>Nat.le_refl _
 | a::l,s=>by
   have:=BI l (s++[a]);unfold dz
   split
   ·simp only [List.length_cons];omega
   ·simp only [List.length_cons];omega
theorem Dz (X:List Nat):(dS X).length≤7*X.length:=by
 have h:∀l:List Nat,(bq (l.map aS)).length≤7*l.length:=by
  intro l
  induction l with
  | nil=>simp [bq]
  | cons c l ih=>
    have:=bJ c;simp only [bq,List.map_cons,List.flatMap_cons,List.length_append,List.length_cons,List.length_nil] at ih ⊢;omega
 have h1:=h (dz [] X);have h2:=BI X [];unfold dS;omega
theorem JF (l:List Nat) (c:Nat):dS (l++[c])=if c∈l then dS l else dS l++(aS c++[10]):=by
 unfold dS;rw [yX,List.nil_append]
 split
 ·rfl
 ·rw [List.map_append,List.map_singleton,vT]
theorem Ql {w:World} {v:Value} {T:List aF} {X:List Nat} (h:iw w v T X) (hT:∀r∈T,r.code<1114112∧r.cls<1000∧r.map.length≤2∧∀x∈r.map,x<1114112) (hl:T.length<1000000) (hX:∀x∈X,x<1114112) (Xj:X.length<1000000) :
 Calls Tryz.prog 66 #[v] w fun e w'=>e=.returned (.tuple #[.string (tx (gF T)),.string (tx (dS X))])∧Below w.heap.size w w':=by
 obtain ⟨r,x,rfl,hr,hx⟩:=h;have HR:=ae hr;obtain ⟨a,cap,rfl,_,_⟩:=hr;obtain ⟨nt,hnt⟩:∃n,n=T.length:=⟨_,rfl⟩;rw [←hnt] at HR ⊢;obtain ⟨n,hn⟩:=af X.length;obtain ⟨ax,cx,rfl,hcx,SE⟩:=bD.kS hx hn;have HN:=ae hn;have HX:=ae SE;have HXC:=ae hX;have TX:=ae (fun (W:World) (E:Below w.heap.size w W)=>GX (HR.out.mono E) hT hl);have HT:=ae (fun (W:World) (x:Nat) (h:x<1114112)=>j6 (w:=W) x h);have HS:=ae (show ∀j,(tx (dS (X.take j))).size≤7*j from fun j=>by rw [bn];have:=Dz (X.take j);rw [List.length_take] at this;omega);have HH:=ae (show ∀c,(tx (aS c)).size≤6 from fun c=>by rw [bn];exact (bJ c).2);obtain ⟨W0,hW⟩:=af (w.alloc (.cells #[.slice a nt cap,.slice ax n cx] 25));have hb:Below w.heap.size w W0:=by rw [hW];exact ai _
 have d0:W0.cell? ⟨w.heap.size,0,none⟩=some (.slice a nt cap):=by rw [hW];unfold World.cell?;rw [heap_alloc_new];rfl
 have d1:W0.cell? ⟨w.heap.size,1,none⟩=some (.slice ax n cx):=by rw [hW];unfold World.cell?;rw [heap_alloc_new];rfl
 rw [←hn] at Xj;clear hx SE hn hT hX hnt hl;go_enter Tryz.func66,Tryz.ntmps66;go_wp2_with fail;rw [←hW];clear hW;go_wp2_with fail;go_loopw [4,13] (fun sv iv wr=>∃j:Nat,j≤n∧iv=.int .i64 j∧sv=.string (tx (dS (X.take j)))∧Below W0.heap.size W0 wr) (fun _ iv _=>n-(intOf iv).toNat)
 case atStart=>exact ⟨0,Nat.zero_le _,rfl,rfl,Below.refl _ _⟩
 case round=>
  obtain ⟨j,hj,rfl,rfl,hE⟩:=hrel;have dC:=hb.trans (hE.mono hb.size);have e1:=aA hE d1;by_cases hjn:j<n
  ·have hjl:j<X.length:=by have:=HN.out;omega
   obtain ⟨b,off,rfl,hbs,hc⟩:=HX.out j hjl;have hc:=aA dC hc;have hx:=HXC.out _ (List.getElem_mem hjl);have ES:=ae (show dS (X.take (j+1))=if X[j]∈X.take j then dS (X.take j) else dS (X.take j)++(aS X[j]++[10]) by rw [List.take_succ_eq_append_getElem hjl,JF]);have s1:=HS.out j;have s2:=HH.out X[j];generalize X[j]=x at *;have Bo:=ae (fun (W:World)=>HT.out W x hx);obtain ⟨wo,jf⟩:∃w',w'=wr:=⟨_,rfl⟩;subst jf;clear hx;go_wp2_with fail;go_loopw [7,23] (fun dv kv w2=>∃(k:Nat) (d:Bool),k≤j∧kv=.int .i64 k∧dv=.bool d∧(d=true↔x∈X.take k)∧w2=wo) (fun _ kv _=>j-(intOf kv).toNat)
   case atStart=>exact ⟨0,false,Nat.zero_le _,rfl,rfl,by simp,(by first|rfl|trivial)⟩
   case round=>
    obtain ⟨k,d,hk,rfl,rfl,hd,rfl⟩:=hrel;have HD:=ae hd;clear hd;by_cases hkj:k<j
    ·have hkl:k<X.length:=by have:=HN.out;omega
     obtain ⟨b2,oQ,eb,_,hz⟩:=HX.out k hkl;simp only [Option.some.injEq,Addr.mk.injEq,and_true] at eb;obtain ⟨rfl,rfl⟩:=eb;have hz:=aA dC hz;have EK:=ae (show x∈X.take (k+1)↔x∈X.take k∨x=X[k] by rw [List.take_succ_eq_append_getElem hkl,List.mem_append,List.mem_singleton]);generalize X[k]=y at *;cases d with
     | true=>
       go_wp2;go_roundw
       case rel=>exact ⟨k+1,true,by omega,rfl,rfl,by rw [EK.out];simp [HD.out.1 rfl],(by first|rfl|trivial)⟩
       case measure=>simp [intOf];omega
     | false=>
       by_cases hxy:y=x
       ·have z:((y:Int)==(x:Int))=true:=by simp;omega
        have QO:=ae hxy;clear hxy;go_wp2;go_roundw
        case rel=>exact ⟨k+1,true,by omega,rfl,rfl,by rw [EK.out];simp [QO.out],(by first|rfl|trivial)⟩
        case measure=>simp [intOf];omega
       ·have z:((y:Int)==(x:Int))=false:=by simp;omega
        have QO:=ae hxy;clear hxy;go_wp2;go_roundw
        case rel=>exact ⟨k+1,false,by omega,rfl,rfl,by rw [EK.out,←HD.out];simp;exact fun e=>QO.out e.symm,(by first|rfl|trivial)⟩
        case measure=>simp [intOf];omega
    ·obtain rfl:j=k:=by omega
     cases d with
     | true=>
       have E0:=ae (show tx (dS (X.take j))=tx (dS (X.take (j+1))) by rw [ES.out,if_pos (HD.out.1 rfl)]);generalize tx (dS (X.take j))=S at *;clear ES;go_wp2;go_roundw
       case rel=>exact ⟨j+1,by omega,rfl,congrArg Value.string E0.out,hE⟩
       case measure=>simp [intOf];omega
     | false=>
       have E0:=ae (show tx (dS (X.take j))++(tx (aS x)++tx [10])=tx (dS (X.take (j+1))) by rw [ES.out,if_neg (fun h=>by have:=HD.out.2 h;cases this),cZ,cZ]);generalize tx (dS (X.take j))=S at *;generalize tx (aS x)=U at *;have q1:¬9223372036854775807<U.size+1:=by omega
       have q2:¬9223372036854775807<S.size+(U.size+1):=by omega
       clear ES;go_wp2_with fail;refine (Bo.out _).mono ?_;rintro e w3 ⟨rfl,h3⟩;go_wp2;go_roundw
       case rel=>exact ⟨j+1,by omega,rfl,congrArg Value.string E0.out,ag hE h3⟩
       case measure=>simp [intOf];omega
  ·obtain rfl:n=j:=by omega
   rw [List.take_of_length_le (by rw [HN.out];exact Nat.le_refl _)];have e0:=aA hE d0;have TX2:=ae (TX.out _ dC);go_wp2_with fail;refine TX2.out.mono ?_;rintro e w3 ⟨rfl,h3⟩;go_wp2;go_ret2;exact ⟨rfl,dC.trans (h3.mono dC.size)⟩
end Go.Proofs.YtjidohgiigjifaaGreatDoor
