/- Texts that are alike cost, and count, the same; no condition. -/
import Derived.Test.YtmnimbnojdndmaaGreatDoorU25
set_option maxRecDepth 100000
set_option maxHeartbeats 6400000
set_option linter.all false
namespace Go.Proofs.YtmnimbnojdndmaaGreatDoor
open Go.RowKit Go.Cd _root_.Go.Proofs.Tryz
variable {w:World} {v:Value} {T:List aG} {X:List Nat} {k:Nat}
theorem Ug (n:Int):bits .and .i64 n 255=n % 256:=by
 have h127:(BitVec.ofInt 64 255).toNat=2 ^ 8-1:=by decide
 have key:(BitVec.ofInt 64 n &&& BitVec.ofInt 64 255).toNat=(n % ((2 ^ 64:Nat):Int)).toNat % 2 ^ 8:=by
  rw [sT,pR,h127,oB]
 show IntKind.i64.wrap ((BitVec.ofInt 64 n &&& BitVec.ofInt 64 255).toNat:Nat)=n % 256;rw [key,pw];omega
theorem QS:(⟨#[]⟩:ByteArray).toList.isEmpty=true:=by rw [uJ];rfl
theorem MM {s:ByteArray} (h:s≠⟨#[]⟩):s.toList.isEmpty=false:=by
 rw [uJ];cases e:s.data.toList with
 | nil=>exact absurd (wt (by simpa using e)) h
 | cons a l=>rfl
theorem MN {B n s cap:Nat} {e:TypeId} {a:Option Addr} {xs:List Value} (h:w.ownsRow B e s (.slice a n cap) n xs) (h0:0<n):∃g,a=some ⟨g,0,none⟩∧B<=g∧g<w.heap.size:=by
 rcases h.2 with ⟨h1,h2⟩|⟨g,cap',cur,h1,hB,hh,_⟩
 ·omega
 ·cases h1;exact ⟨g,rfl,hB,block_lt hh⟩
theorem XW {T:List gX} {X:List Int} (h:PT w v T X) :
 Calls prog 76 #[v] w fun e w'=>∃r T' X',e=.returned r∧jq w' r T' X'∧aY T' X'∧(∀q∈T',0<q.cls∨q.map≠[])∧T'.length<=20∧X'.length<=30∧(∀y∈X',aP y)∧Below w.heap.size w w':=by
 obtain ⟨v1,v2,rfl,⟨a,cap,rfl,hcap,hx⟩,h2⟩:=id h;obtain ⟨nx,hnx⟩:∃n,n=X.length:=⟨_,rfl⟩;obtain ⟨ax,cx,rfl,_,_⟩:=bG.MI h2 hnx;obtain ⟨n0,hn0⟩:∃n,n=T.length:=⟨_,rfl⟩;rw [<-hn0] at h ⊢;obtain ⟨W1,hW1⟩:=ae (w.alloc (.cells #[.slice a n0 cap,.slice ax nx cx] jd));obtain ⟨W2,hW2⟩:=ae (W1.alloc (.cells #[.slice none 0 0,.slice none 0 0] jd));have e1:W1.heap.size=w.heap.size+1:=by rw [hW1];simp
 have e2:W2.heap.size=w.heap.size+2:=by rw [hW2];simp [e1]
 have b1:=aO hW1;have b2:=aO hW2;have i1:Is W2 w.heap.size #[.slice a n0 cap,.slice ax nx cx] jd:=by
  have:Is W1 w.heap.size #[.slice a n0 cap,.slice ax nx cx] jd:=by rw [hW1];exact Is.new _ _ _
  exact this.mono b2
 have i2:Is W2 (w.heap.size+1) #[.slice none 0 0,.slice none 0 0] jd:=by rw [hW2];exact Is.new' _ _ _ _ e1.symm
 have b0:=af b1 b2;have FE:=aa (adR (h.mono b0));rw [hW1] at hW2;rw [e2] at FE;have d0:=i1.at 0 rfl;have d1:=i1.at 1 rfl;clear h hx hcap hn0 hnx h2 b1 b2 e1 hW1;go_enter func76,ntmps76;go_wp2_with fail;rw [<-hW2];clear hW2;go_wp2_with fail;refine FE.out.mono ?_;rintro e W3 ⟨r,x,L,Y,rfl,hF,hxo,hxa,alI,alJ,GZ,hb3⟩;rw [<-e2] at hb3;obtain ⟨ar,cr,rfl,_,_⟩:=ak hF.rows;obtain ⟨MO,MQ,rfl,_,_⟩:=ak hxo;obtain ⟨n,hn⟩:=ae L.length;obtain ⟨ny,hny⟩:∃n,n=Y.length:=⟨_,rfl⟩;rw [<-hn,<-hny];have HN:=aa hn;have HNY:=aa hny;obtain ⟨O,hO⟩:=ae W3.heap.size;have hO2:w.heap.size+2<=O:=by rw [hO,<-e2];exact hb3.size
 have j1:=i1.mono hb3;have j2:=i2.mono hb3;have c0:=j1.at 0 rfl;have f0:=j1.frozen 0;have c1:=fun u=>(j1.set 0 u).at 1 rfl;have f1:=fun u=>(j1.set 0 u).frozen 1;have J:=(j1.set 0 (.slice ar n cr)).set 1 (.slice MO ny MQ);obtain ⟨W4,hW4⟩:=ae ((W3.setCell ⟨w.heap.size,0,none⟩ (.slice ar n cr)).setCell ⟨w.heap.size,1,none⟩ (.slice MO ny MQ));have s4:W4.heap.size=O:=by rw [hW4,hO];simp
 have g4:∀{B m s:Nat} {e:TypeId} {v:Value} {xs:List Value},w.heap.size<B->W3.ownsRow B e s v m xs->W4.ownsRow B e s v m xs:=by
  intro B m s e v xs hB ho;rw [hW4];exact bn (bn ho (aQ ho hB) _ _) (aQ ho hB) _ _
 have J4:Is W4 w.heap.size #[.slice ar n cr,.slice MO ny MQ] jd:=by rw [hW4];exact J
 have K4:Is W4 (w.heap.size+1) #[.slice none 0 0,.slice none 0 0] jd:=by rw [hW4];exact (j2.put (by omega) _).put (by omega) _
 have hB4:Below w.heap.size w W4:=by rw [hW4];exact aj (aj (b0.trans (hb3.mono b0.size)) (gw _)) (gw _)
 obtain ⟨W5,Ud⟩:=ae (W4.alloc (.cells #[.slice none 0 0,.slice MO ny MQ] jd));have s5:W5.heap.size=O+1:=by rw [Ud];simp [s4]
 have b5:=aO Ud;have hS0:Dx w.heap.size O (.slice ar n cr) (.slice MO ny MQ) L Y 0 (.slice none 0 0) [] W5:=by
  rw [hn,hny];exact ⟨aH (g4 (by omega) (hn▸hF.rows)) b5,fun p hp=>aH (g4 (by omega) (hF.maps p (lz hp))) b5,aH (g4 (by omega) (hny▸hxo)) b5,iu _ _ _ _,by simp,K4.mono b5,by rw [Ud,<-hny];exact Is.new' _ _ _ _ s4.symm⟩
 have hC0:RtC O (.slice ar n cr) (.slice MO ny MQ) L 0 []:=by
  rw [hn,hny,hO];exact ⟨fun k e=>(hF.rows.lt k (by rw [<-hn];rw [<-hn] at e;exact e)).2,fun k e=>(hxo.lt k (by rw [<-hny];rw [<-hny] at e;exact e)).2,fun p hp k e=>((hF.maps p hp).lt k e).2,by simp,fun p hp=>by have:=hF.nQ p hp;rw [<-hn] at this ⊢;exact this,fun p hp=>by have:=hxa p hp;rw [<-hny] at this ⊢;exact this,hF.apart,by simp⟩
 have JF:=hF.four;have rX:Below w.heap.size w W5:=hB4.trans (b5.mono (by omega));have hd0:=(J4.mono b5).at 0 rfl;have q0:=J4.at 1 rfl;have HM4:=aa JF;have M5:=aa GZ;rw [<-hn] at alI;rw [<-hny] at alJ;rw [hW4] at Ud q0;have alK:=hd0;rw [Ud] at hd0;have HO:=aa hO;have HW:=aa Ud;clear hO Ud hF hxo hxa j1 j2 i1 i2 b0 hb3 g4 J J4 K4 hB4 b5 JF GZ hn hny FE d0 d1 s4 hW4 e2;go_wp2_with fail;rw [<-HW.out,<-HO.out];clear hd0 alK HW q0 c0 c1 f0 f1;go_loopw [19] (fun iv wr=>∃(j:Nat) (ov:Value) (Lo:List (aG×Value)),j<=n∧iv=.int .i64 j∧Dx w.heap.size O (.slice ar n cr) (.slice MO ny MQ) L Y j ov Lo wr∧RtC O (.slice ar n cr) (.slice MO ny MQ) L j Lo∧aY (Lo.map Prod.fst) Y∧(∀p∈Lo,0<p.1.cls∨p.1.map≠[])∧Lo.length<=j∧O+1<=wr.heap.size∧Below w.heap.size w wr) (fun iv _=>n-(intOf iv).toNat)
 case atStart=>exact ⟨0,_,[],gW _,rfl,hS0,hC0,aY.nil _,by simp,gw _,zf s5.symm,rX⟩
 case round=>
  clear hS0 hC0 s5 rX;obtain ⟨j,ov,Lo,hj,rfl,hS,hC,hV,Bv,hlo,hsz,hB⟩:=hrel;by_cases hjn:j<n
  ·have hjl:j<L.length:=by have:=HN.out;omega
   obtain ⟨gr,aso,er,_,hgr,_,hxr⟩:=dC (f:=mh) (fun _=>rfl) rfl hS.rows hjl;obtain rfl:ar=some ⟨gr,0,none⟩:=by injection er
   have c0:wr.cell? ⟨gr,j*3,none⟩=some (.int .i64 L[j].1.code):=(hxr 0 (by omega)).1;have c1:wr.cell? ⟨gr,j*3+1,none⟩=some (.int .i64 L[j].1.cls):=(hxr 1 (by omega)).1;have c2:wr.cell? ⟨gr,j*3+2,none⟩=some L[j].2:=(hxr 2 (by omega)).1;have hm:=hS.maps L[j] (by rw [iz hjl];exact n7 ..);have JF:=HM4.out L[j] (gx hjl);have hmO:=hC.mO L[j] (gx hjl);have HPM:=aa (fun (w1 w2:World) (g:Nat) (h:Dx w.heap.size O (.slice (some ⟨gr,0,none⟩) n cr) (.slice MO ny MQ) L Y (j+1) ov Lo w1) (e:L[j].2.ownBlock=some g) (h0:w.heap.size+2<=g) (hg:w1.grownBy w2 (some g))=>Dx.adW h hC hjl e h0 hg)
   have HOA:=aa (show ∀q∈L.drop (j+1),jW L[j].2 q.2 from by
    have hd:L.drop j=L[j]::L.drop (j+1):=iz hjl;have hp2:=List.Pairwise.sublist (List.drop_sublist j L) hC.la;rw [hd,mz] at hp2
    exact hp2.1)
   have hS1:=aa hS.next;have vH:=aa hC.next;have HV:=aa hV;have Uh:=aa Bv;generalize L[j]=p at *;obtain ⟨q,mv⟩:=p;dsimp only at *;obtain ⟨nm,hnm⟩:=ae q.map.length;have sN:=aa hnm;rw [<-hnm] at hm JF;obtain ⟨am,cm,rfl,hcm,_⟩:=ak hm;have CH0:=aa (fun W=>jL (w:=W) q.code);obtain ⟨c,hc⟩:=ae (IY q.code);have hcc:aP c:=by rw [hc];exact IZ _
   have Uq:=hcc.1;have HCC:=aa hcc;have CH1:=aa (show ∀W,Calls prog 35 #[.int .i64 q.code] W fun e w'=>e=.returned (.int .i32 c)∧w'=W from fun W=>by rw [hc];exact CH0.out W);obtain ⟨y,hy⟩:∃y:Nat,y=(q.cls % 256).toNat:=⟨_,rfl⟩;have hy1:bits BinOp.and IntKind.i64 q.cls 255=(y:Int):=by rw [Ug];omega
   have hy2:y<256:=by omega
   obtain ⟨cl,hcl⟩:∃cl:Nat,cl=y % 255:=⟨_,rfl⟩;have alL:cl<255:=by omega
   have hz:(y:Int) % 255=(cl:Int):=by omega
   have b0:=ah (w:=wr) (.cells #[.int .i64 c,.int .i64 cl,.slice am nm cm] eY);clear hxr er hS hC hV Bv hnm hc hcc CH0 hy hcl;obtain ⟨bz,zn⟩:∃bz,decide ((2:Int)<(nm:Int))=bz:=⟨_,rfl⟩;have HBZ:=aa zn;go_wp2_with fail;refine (CH1.out _).mono ?_;rintro e w6 ⟨rfl,rfl⟩;go_upto_if 36 with fail;clear zn;go_cut [] from 37 to 40 (fun wx=>∃n2 m2,n2<=2∧m2.length=n2∧wx=wr.alloc (.cells #[.int .i64 c,.int .i64 cl,.slice am n2 cm] eY)∧wr.ownsRow (w.heap.size+2) bB 1 (.slice am n2 cm) n2 (bO m2))
   case first=>
    cases bz with
    | true=>
      have TJ:2<nm:=by have:=of_decide_eq_true HBZ.out;omega
      obtain ⟨g,rfl,hg0,hg1⟩:=MN hm (by omega);have hm2:wr.ownsRow (w.heap.size+2) bB 1 (.slice (some ⟨g,0,none⟩) 2 cm) 2 (bO (q.map.take 2)):=by
       have:=XV hm (k:=2) (by omega);simpa [bO,List.map_take] using this
      have D9:=aa (show (q.map.take 2).length=2 by rw [iS];have:=sN.out;omega);have hm2:=aa hm2;go_wp2_with fail;go_meet;exact ⟨2,_,gw _,D9.out,rfl,hm2.out⟩
    | false=>
      have TJ:¬2<nm:=by have:=of_decide_eq_false HBZ.out;omega
      go_wp2_with fail;go_meet;exact ⟨nm,q.map,by omega,sN.out.symm,rfl,hm⟩
   case rest=>
    obtain ⟨n2,m2,hn2,ahB,rfl,hm2⟩:=hcut;have D9:=aa ahB;clear hm ahB JF;obtain ⟨wo,ku⟩:∃w',w'=wr:=⟨_,rfl⟩;subst ku;go_wp2_with fail;clear hz hy1 hy2 c0 c1 c2 b0;have hb0:=ah (w:=wo) (.cells #[.int .i64 c,.int .i64 cl,.slice am n2 cm] eY);have hi0:=Is.new wo #[.int .i64 c,.int .i64 cl,.slice am n2 cm] eY;have HM:=aa hm2;clear hm2;go_loopw [44] (fun kv w2=>∃k:Nat,k<=n2∧kv=.int .i64 k∧w2.ownsRow (w.heap.size+2) bB 1 (.slice am n2 cm) n2 (bO (vE m2 k))∧Dx w.heap.size O (.slice (some ⟨gr,0,none⟩) n cr) (.slice MO ny MQ) L Y (j+1) ov Lo w2∧Is w2 wo.heap.size #[.int .i64 c,.int .i64 cl,.slice am n2 cm] eY∧wo.heap.size+1<=w2.heap.size∧Below w.heap.size w w2) (fun kv _=>n2-(intOf kv).toNat)
    case atStart=>exact ⟨0,gW _,rfl,by rw [Uf];exact aH HM.out hb0,hS1.out.ext hb0,hi0,by simp,hB.trans (hb0.mono hB.size)⟩
    case round=>
     clear hb0 hi0 HM hS1;obtain ⟨k,hk,rfl,ho,hS2,hi,hsz2,hB2⟩:=hrel;by_cases hkn:k<n2
     ·obtain ⟨g,rfl,hg0,hg1⟩:=MN ho (by omega);have hgO:g<O:=hmO g rfl;have hkl:k<m2.length:=by have:=D9.out;omega
      obtain ⟨ha1,ha2⟩:=jY ho (j:=k) (by rw [fq,ML];exact hkl);have e9:(bO (vE m2 k))[k]? = some (.int .i64 m2[k]):=by simp [bO,aa4 hkl]
      rw [gA (by rw [fq,ML];exact hkl),yy] at e9;rw [e9] at ha1;clear e9;have HST:=aa (fun (u:Value)=>ho.stored k u);have ES:=aa (show (bO (vE m2 k)).set k (.int .i64 ((IY m2[k]:Nat):Int))=bO (vE m2 (k+1)) by rw [<-XT hkl];simp [bO,tt]);have CH2:=aa (show ∀W,Calls prog 35 #[.int .i64 m2[k]] W fun e w'=>e=.returned (.int .i32 (IY m2[k]))∧w'=W from fun W=>jL _);have Zq:=(IZ m2[k]).1;have hS3:=aa hS2;have h2:=hi.at 2 rfl;have k1:=Gr.cell (ag wr) h2;have k2:=Gr.cell (ag wr) ha1;generalize m2[k]=z at *;generalize IY z=d at *;clear ho hS2;go_wp2_with fail;refine aC #[true,true,true,true,true,true,true,true,true,true,true,false] 11 1 mixed ?_;refine ay [0,1,2,3,4,5,6,7] 3 ?_
      iterate 8 (refine aA rfl ?_;go_big_quiet_step (rfl))
      refine az ?_;refine aI 8 ?_;go_wp2_with fail;refine (CH2.out _).mono ?_;rintro e w7 ⟨rfl,rfl⟩;go_wp2_with fail;refine aF (gO _ _) ?_;refine ay [9,10] 0 ?_
      iterate 2 (refine aA rfl ?_;go_big_quiet_step (rfl))
      refine az ?_;refine aJ [11] ?_;refine tail_cons rfl ?_;go_wp2_with fail;refine tail_nil ?_;go_wp2;go_roundw
      case rel=>
       have hgk:=(HST.out (.int .i64 d)).2;refine ⟨k+1,by omega,rfl,?_,?_,?_,?_,?_⟩
       ·have:=(HST.out (.int .i64 d)).1;rw [ES.out] at this;exact aH this (ag _)
       ·exact Dx.ext (HPM.out _ _ g hS3.out rfl hg0 hgk) (ag _)
       ·exact (hi.put (by omega) _).mono (ag _)
       ·simp;omega
       ·exact (aj hB2 (by omega)).drew
      case measure=>simp [intOf];omega
     ·obtain rfl:n2=k:=by omega
      skip
      obtain ⟨wm,ku⟩:∃w',w'=wr:=⟨_,rfl⟩;subst ku;obtain ⟨M,hMe⟩:=ae (m2.map IY);have hMl:M.length=n2:=by rw [hMe,ia];exact D9.out
      have Y7:=aa (show ∀x∈M,aP x from fun x hx=>by rw [hMe] at hx;obtain ⟨z,_,rfl⟩:=jx.1 hx;exact IZ z);have hMo:wm.ownsRow (w.heap.size+2) bB 1 (.slice am n2 cm) M.length (ints M):=by
       have e:=XU m2;rw [D9.out,<-hMe] at e;rw [e] at ho;rw [hMl];exact ho
      have ER:=aa hMl;have h0:=hi.at 0 rfl;have h1:=hi.at 1 rfl;have h2:=hi.at 2 rfl;clear ho hMe hMl;go_upto_region 15 with fail;go_cut [67] from 59 to 67 (fun tv wx=>∃tb:Bool,tv=.bool tb∧(tb=false->0<cl∨M≠[])∧wm=wx)
      case first=>
       by_cases hcl0:cl=0
       ·have zc:((cl:Int)==0)=true:=by simp;omega
        by_cases hn0:n2=0
        ·have zn0:((n2:Int)==0)=true:=by simp;omega
         go_wp2_with fail;go_meet;exact ⟨true,rfl,(fun h=>by cases h),rfl⟩
        ·have zn0:((n2:Int)==0)=false:=by simp;omega
         have HS:=aa (show 0<cl∨M≠[] from .inr fun e=>by have:=ER.out;rw [e] at this;simp at this;omega);go_wp2_with fail;go_meet;exact ⟨false,rfl,fun _=>HS.out,rfl⟩
       ·have zc:((cl:Int)==0)=false:=by simp;omega
        go_wp2_with fail;go_meet;exact ⟨false,rfl,fun _=>.inl (by omega),rfl⟩
      case rest=>
       obtain ⟨tb,rfl,htb,rfl⟩:=hcut;have HTB:=aa htb;clear htb;cases tb with
       | true=>
         have HS2:=aa hS2;clear hS2 hMo hi;go_wp2;go_roundw
         case rel=>exact ⟨j+1,ov,Lo,by omega,rfl,HS2.out,vH.out,HV.out,Uh.out,by omega,by omega,hB2⟩
         case measure=>simp [intOf];omega
       | false=>
         have HS:=aa (HTB.out rfl);have x1:=hS2.out.at 1 rfl;have x0:=hS2.out.at 0 rfl;obtain ⟨YW,cov,rfl,_,_⟩:=ak hS2.U3;obtain ⟨P,hP⟩:∃P:aG×Value,P=(⟨c,cl,M⟩,.slice am n2 cm):=⟨_,rfl⟩;have HP:=aa hP;have HPO:=aa (show ∀k,P.2.ownBlock=some k->k<O from fun k e=>hmO k (by rw [hP] at e;cases am <;> exact e));have HPA:=aa (show ∀q∈L.drop (j+1),jW P.2 q.2 from fun q hq k e=>HOA.out q hq k (by rw [hP] at e;cases am <;> exact e));have HPF:=aa (show aP P.1.code∧P.1.cls<255∧P.1.map.length<=2∧∀x∈P.1.map,aP x from by rw [hP];exact ⟨HCC.out,alL,by show M.length<=2;have:=ER.out;omega,Y7.out⟩);have HPS:=aa (show 0<P.1.cls∨P.1.map≠[] from by rw [hP];exact HS.out)
         have ahC:=aa (fun (Wc:World) (E:Below wm.heap.size wm Wc) (p:aG×Value) (hp:p∈Lo∨p=P)=>(show Wc.ownsRow (w.heap.size+2) bB 1 p.2 p.1.map.length (ints p.1.map) from by
          rcases hp with hp|rfl
          ·exact aH (hS2.Ue p hp) E
          ·rw [hP];exact aH hMo E))
         have alO:=hS2.xs
         have CKF:=aa (fun (Wc:World) (N:List (aG×Value)) (nv:Value) (B:Nat) (ho:Wc.ownsRow B eY 3 nv N.length (N.flatMap fG)) (hE:Below wm.heap.size wm Wc) (hmem:∀p∈N,p∈Lo∨p=P) (hl:N.length<=21)=>
          Ei (jq.QQ ho (fun p hp=>ahC.out Wc hE p (hmem p hp)) (aH alO hE)) (by rw [ia];omega) (by have:=HNY.out;omega) (fun r hr=>by
           obtain ⟨p,hp,rfl⟩:=jx.1 hr;rcases hmem p hp with hp|rfl
           ·obtain ⟨h1,h2,h3,_,h5⟩:=HV.out.fine _ (s_ hp);exact ⟨h1,h2,h3,fun x hx=>(h5 x hx).2⟩
           ·exact HPF.out))
         have ab0:=aa (fun (Wc:World) (hE:Below wm.heap.size wm Wc) (nv:Value) (N:List (aG×Value)) (ho:Wc.ownsRow (O+1) eY 3 nv N.length (N.flatMap fG)) (hmem:∀p∈N,p∈Lo∨p=P)=>
          Dx.turn (N:=N) (nv:=nv) (hS2.ext hE) vH.out (by omega) ho (fun p hp=>ahC.out Wc hE p (hmem p hp)) (fun p hp=>by
           rcases hmem p hp with hp|rfl
           ·exact vH.out.oO p hp
           ·exact HPO.out))
         have HCN:=aa (fun (N:List (aG×Value)) (hmem:∀p∈N,p∈Lo∨p=P)=>(show RtC O (.slice (some ⟨gr,0,none⟩) n cr) (.slice MO ny MQ) L (j+1) N from
          ⟨vH.out.rO,vH.out.xO,vH.out.mO,fun p hp=>by rcases hmem p hp with hp|rfl;exact vH.out.oO p hp;exact HPO.out,vH.out.ra,vH.out.xa,vH.out.la,fun p hp=>by rcases hmem p hp with hp|rfl;exact vH.out.oa p hp;exact HPA.out⟩))
         have HSN:=aa (fun (N:List (aG×Value)) (hmem:∀p∈N,p∈Lo∨p=P) (p:aG×Value) (hp:p∈N)=>(show 0<p.1.cls∨p.1.map≠[] from by rcases hmem p hp with hp|rfl;exact Uh.out p hp;exact HPS.out));have HS2:=aa hS2;have HSO:=aa hS2.out;have HI:=aa hi;have aoN:Lo.length<=20:=by omega
         have x2:=aB (ah (w:=wm) (.cells #[.slice none 0 0,.slice MO ny MQ] jd)) x0;clear hP hMo hS2 hi;go_wp2_with fail;go_loopw [8,74] (fun dv kv w3=>∃(k:Nat) (dn:Bool) (N:List (aG×Value)) (nv:Value),k<=Lo.length∧dv=.bool dn∧kv=.int .i64 k∧N.length<=k+1∧(dn=false->N.length<=k)∧(∀p∈N,p∈Lo∨p=P)∧w3.ownsRow (wm.heap.size+1) eY 3 nv N.length (N.flatMap fG)∧Is w3 wm.heap.size #[nv,.slice MO ny MQ] jd∧wm.heap.size+1<=w3.heap.size∧Below wm.heap.size wm w3) (fun _ kv _=>Lo.length-(intOf kv).toNat)
         case atStart=>exact ⟨0,false,[],_,gW _,rfl,rfl,by simp,by simp,by simp,iu _ _ _ _,Is.new _ _ _,by simp,ah _⟩
         case round=>
          clear x0 x1 x2 h0 h1 h2;obtain ⟨k,dn,N,nv,hk3,rfl,rfl,hNl,hNd,hmem,hno,hiN,D6,lH⟩:=hrel;obtain ⟨anv,cnv,rfl,_,_⟩:=ak hno;have MR:=aa hmem;have y0:=(HI.out.mono lH).at 0 rfl;have y1:=(HI.out.mono lH).at 1 rfl;have y2:=(HI.out.mono lH).at 2 rfl;clear hmem;by_cases hko:k<Lo.length
          ·obtain ⟨gv,asv,ev,_,hgv,_,hxv⟩:=dC (f:=fG) (fun _=>rfl) rfl HS2.out.U3 hko;obtain rfl:YW=some ⟨gv,0,none⟩:=by injection ev
           have z0:wr.cell? ⟨gv,k*3,none⟩=some (.int .i64 Lo[k].1.code):=aB lH (hxv 0 (by omega)).1;have z1:wr.cell? ⟨gv,k*3+1,none⟩=some (.int .i64 Lo[k].1.cls):=aB lH (hxv 1 (by omega)).1;have z2:wr.cell? ⟨gv,k*3+2,none⟩=some Lo[k].2:=aB lH (hxv 2 (by omega)).1;obtain ⟨aq,cq,eq2,_,_⟩:=ak (HS2.out.Ue _ (gx hko));have HLK:=aa (gx hko);generalize Lo[k]=Q at *;obtain ⟨qr,qv⟩:=Q;dsimp only at *;obtain ⟨nq,hnq⟩:=ae qr.map.length;rw [<-hnq] at eq2;subst eq2;have HQ:=aa (show fG (qr,.slice aq nq cq)=[.int .i64 qr.code,.int .i64 qr.cls,.slice aq nq cq] from rfl);have hb1:Below wr.heap.size wr (wr.alloc (.cells #[.int .i64 qr.code,.int .i64 qr.cls,.slice aq nq cq] eY)):=ah _;have iq:Is (wr.alloc (.cells #[.int .i64 qr.code,.int .i64 qr.cls,.slice aq nq cq] eY)) wr.heap.size #[.int .i64 qr.code,.int .i64 qr.cls,.slice aq nq cq] eY:=Is.new _ _ _;have UA:=aa (aH hno hb1);have Oa:=aa (hiN.mono hb1);have n0:=Oa.out.at 0 rfl;have yy0:=aB hb1 y0;have yy1:=aB hb1 y1;have yy2:=aB hb1 y2;have q0:=iq.at 0 rfl;have q1:=iq.at 1 rfl;have q2:=iq.at 2 rfl;have HE1:=aa (af lH hb1);have HBN:=aa (UR hno (gw _));clear hxv ev hnq hno hiN hb1 iq;cases dn with
           | true=>
             go_wp2_with (at_builtin;refine qf (W:=(wr.alloc (.cells #[.int .i64 qr.code,.int .i64 qr.cls,.slice aq nq cq] eY))) rfl _ _ 22 rfl (wm.heap.size+1) eY _ 3 40 qb (by decide) (by decide) (by decide) (by decide) (.slice anv N.length cnv) N.length (N.flatMap fG) rfl UA.out _ (by first|rfl|(simp only [ns];rfl)|(simp [World.setCell];rfl)) rfl (by simp [Value.oneCell']) (by omega) ((wr.alloc (.cells #[.int .i64 qr.code,.int .i64 qr.cls,.slice aq nq cq] eY))) (gO _ _) (by first|omega|(simp;omega)) ?_;intro v8 w8 o8 iH OT O4;have K8:=Oa.out.low iH (by omega);have cK8:=K8.at 0 rfl;have fK8:=K8.frozen 0;obtain ⟨a8,I5,rfl,_,_⟩:=ak o8);go_roundw
             case rel=>
              have Vj:=HE1.out.trans (iH.mono (by omega));refine ⟨k+1,true,N++[(qr,.slice aq nq cq)],_,by omega,rfl,rfl,by simp;omega,by simp,?_,?_,K8.set 0 _,by have:=iH.size;simp at this ⊢;omega,aj Vj (gw _)⟩
              ·intro p hp;rcases gR.1 hp with h|h
               ·exact MR.out p h
               ·rw [gC.1 h];exact .inl HLK.out
              ·have:=bn o8 (aQ o8 (k:=wm.heap.size) (by omega)) 0 (.slice a8 (N.length+1) I5);simpa [jj,fG] using this
             case measure=>simp [intOf];omega
           | false=>
             have alP:N.length<=k:=hNd rfl;by_cases hlt:c<qr.code
             ·go_upto_region 24 with (at_builtin;refine qf (W:=(wr.alloc (.cells #[.int .i64 qr.code,.int .i64 qr.cls,.slice aq nq cq] eY))) rfl _ _ 22 rfl (wm.heap.size+1) eY _ 3 40 qb (by decide) (by decide) (by decide) (by decide) (.slice anv N.length cnv) N.length (N.flatMap fG) rfl UA.out _ (by first|rfl|(simp only [ns];rfl)|(simp [World.setCell];rfl)) rfl (by simp [Value.oneCell']) (by omega) ((wr.alloc (.cells #[.int .i64 qr.code,.int .i64 qr.cls,.slice aq nq cq] eY))) (gO _ _) (by first|omega|(simp;omega)) ?_;intro v8 w8 o8 iH OT O4;have K8:=Oa.out.low iH (by omega);have cK8:=K8.at 0 rfl;have fK8:=K8.frozen 0;obtain ⟨a8,I5,rfl,_,_⟩:=ak o8);have O9:=aa (bn o8 (aQ o8 (k:=wm.heap.size) (by omega)) 0 (.slice a8 (N.length+1) I5));have K9:=aa (K8.set 0 (.slice a8 (N.length+1) I5));have I9:=(((Is.new wr #[.int .i64 qr.code,.int .i64 qr.cls,.slice aq nq cq] eY).grown OT HBN.out)).put (j:=wm.heap.size) (o:=0) (by omega) (.slice a8 (N.length+1) I5);have r0:=I9.at 0 rfl;have r1:=I9.at 1 rfl;have r2:=I9.at 2 rfl;have r3:=K9.out.at 0 rfl;have alQ:=iH.size;simp only [ns] at alQ;have HB8:=aa iH;clear I9 q0 q1 q2 n0 yy0 yy1 yy2 cK8 fK8 K8 o8 OT iH O4;go_wp2_with (at_builtin;refine qf (W:=w8.setCell ⟨wm.heap.size,0,none⟩ (.slice a8 (N.length+1) I5)) rfl _ _ 22 rfl (wm.heap.size+1) eY _ 3 40 qb (by decide) (by decide) (by decide) (by decide) (.slice a8 (N.length+1) I5) (N.length+1) (_) rfl O9.out _ (by first|rfl|(simp only [ns];rfl)|(simp [World.setCell];rfl)) rfl (by simp [Value.oneCell']) (by omega) (w8.setCell ⟨wm.heap.size,0,none⟩ (.slice a8 (N.length+1) I5)) (gO _ _) (by first|omega|(simp;omega)) ?_;intro v9x w9x o9x adZ asA asB;have K9x:=K9.out.low adZ (by omega);have asC:=K9x.at 0 rfl;have asD:=K9x.frozen 0;obtain ⟨a9x,alT,rfl,_,_⟩:=ak o9x);go_roundw
              case rel=>
               have Vj:=HE1.out.trans (HB8.out.mono (by omega));refine ⟨k+1,true,N++[P]++[(qr,.slice aq nq cq)],_,by omega,rfl,rfl,by simp;omega,by simp,?_,?_,K9x.set 0 _,by have:=adZ.size;simp at this ⊢;omega,aj ((aj Vj (gw _)).trans (adZ.mono (by omega))) (gw _)⟩
               ·intro p hp;rcases gR.1 hp with h|h
                ·rcases gR.1 h with h|h
                 ·exact MR.out p h
                 ·rw [gC.1 h];exact .inr rfl
                ·rw [gC.1 h];exact .inl HLK.out
               ·have:=bn o9x (aQ o9x (k:=wm.heap.size) (by omega)) 0 (.slice a9x (N.length+1+1) alT);simpa [jj,fG,HP.out] using this
              case measure=>simp [intOf];omega
             ·go_wp2_with (at_builtin;refine qf (W:=(wr.alloc (.cells #[.int .i64 qr.code,.int .i64 qr.cls,.slice aq nq cq] eY))) rfl _ _ 22 rfl (wm.heap.size+1) eY _ 3 40 qb (by decide) (by decide) (by decide) (by decide) (.slice anv N.length cnv) N.length (N.flatMap fG) rfl UA.out _ (by first|rfl|(simp only [ns];rfl)|(simp [World.setCell];rfl)) rfl (by simp [Value.oneCell']) (by omega) ((wr.alloc (.cells #[.int .i64 qr.code,.int .i64 qr.cls,.slice aq nq cq] eY))) (gO _ _) (by first|omega|(simp;omega)) ?_;intro v8 w8 o8 iH OT O4;have K8:=Oa.out.low iH (by omega);have cK8:=K8.at 0 rfl;have fK8:=K8.frozen 0;obtain ⟨a8,I5,rfl,_,_⟩:=ak o8);go_roundw
              case rel=>
               have Vj:=HE1.out.trans (iH.mono (by omega));refine ⟨k+1,false,N++[(qr,.slice aq nq cq)],_,by omega,rfl,rfl,by simp;omega,by simp;omega,?_,?_,K8.set 0 _,by have:=iH.size;simp at this ⊢;omega,aj Vj (gw _)⟩
               ·intro p hp;rcases gR.1 hp with h|h
                ·exact MR.out p h
                ·rw [gC.1 h];exact .inl HLK.out
               ·have:=bn o8 (aQ o8 (k:=wm.heap.size) (by omega)) 0 (.slice a8 (N.length+1) I5);simpa [jj,fG] using this
              case measure=>simp [intOf];omega
          ·have hke:k=Lo.length:=by omega
           have UA:=aa hno;have Oa:=aa hiN;have n0:=hiN.at 0 rfl;have n1:=hiN.at 1 rfl;have HE1:=aa lH;clear hno hiN;cases dn with
           | true=>
             have hlen:N.length<=Lo.length+1:=by omega
             clear hke;have CK:=aa (CKF.out wr N (.slice anv N.length cnv) _ UA.out HE1.out MR.out (by omega));go_wp2_with fail;refine CK.out.mono ?_;rintro e w9 ⟨s,rfl,hs,h9⟩;have HSV:=aa hs;have iO:=(HSO.out.mono HE1.out).mono h9;have p0:=iO.at 0 rfl;have p1:=iO.frozen 0;have p2:=fun u=>(iO.set 0 u).at 1 rfl;have p3:=fun u=>(iO.set 0 u).frozen 1;have p4:=aB h9 n0;have p5:=aB h9 n1;have XX:=aa (HE1.out.trans (h9.mono HE1.out.size));have hsE:=XX.out.size;clear hs;by_cases hse:s=⟨#[]⟩
             ·subst hse;have zs:=QS;go_wp2;go_roundw
              case rel=>
               exact ⟨j+1,_,N,by omega,rfl,ab0.out w9 XX.out (.slice anv N.length cnv) N (aT (aH UA.out h9) (by omega)) MR.out,HCN.out N MR.out,HSV.out (by trivial),HSN.out N MR.out,by omega,by simp;omega,aj (aj (hB2.trans (XX.out.mono hB2.size)) (by omega)) (by omega)⟩
              case measure=>simp [intOf];omega
             ·have zs:=MM hse;go_wp2;go_roundw
              case rel=>exact ⟨j+1,_,Lo,by omega,rfl,HS2.out.ext XX.out,vH.out,HV.out,Uh.out,by omega,by omega,hB2.trans (XX.out.mono hB2.size)⟩
              case measure=>simp [intOf];omega
           | false=>
             have alP:N.length<=k:=hNd rfl;go_upto_region 28 with (at_builtin;refine qf (W:=wr) rfl _ _ 22 rfl (wm.heap.size+1) eY _ 3 40 qb (by decide) (by decide) (by decide) (by decide) (.slice anv N.length cnv) N.length (N.flatMap fG) rfl UA.out _ (by first|rfl|(simp only [ns];rfl)|(simp [World.setCell];rfl)) rfl (by simp [Value.oneCell']) (by omega) (wr) (gO _ _) (by first|omega|(simp;omega)) ?_;intro v8 w8 o8 iH OT O4;have K8:=Oa.out.low iH (by omega);have cK8:=K8.at 0 rfl;have fK8:=K8.frozen 0;obtain ⟨a8,I5,rfl,_,_⟩:=ak o8)
             have D9:=aa (show ∀p∈N++[P],p∈Lo∨p=P from fun p hp=>by
              rcases gR.1 hp with h|h
              ·exact MR.out p h
              ·rw [gC.1 h];exact .inr rfl)
             have Yi:=aa (show (w8.setCell ⟨wm.heap.size,0,none⟩ (.slice a8 (N.length+1) I5)).ownsRow (wm.heap.size+1) eY 3 (.slice a8 (N.length+1) I5) (N++[P]).length ((N++[P]).flatMap fG) from by
              have:=bn o8 (aQ o8 (k:=wm.heap.size) (by omega)) 0 (.slice a8 (N.length+1) I5)
              simpa [jj,fG,HP.out] using this)
             have HE2:=aa (aj (b:=wm.heap.size) (off:=0) (u:=.slice a8 (N.length+1) I5) (HE1.out.trans (iH.mono (by omega))) (gw _));have K9:=K8.set 0 (.slice a8 (N.length+1) I5);have n0:=K9.at 0 rfl;have n1:=K9.at 1 rfl;have hlen:(N++[P]).length<=Lo.length+1:=by simp;omega
             clear hke y0 y1 y2 cK8 fK8 K8 o8 OT iH O4 K9;have CK:=aa (CKF.out (w8.setCell ⟨wm.heap.size,0,none⟩ (.slice a8 (N.length+1) I5)) (N++[P]) (.slice a8 (N.length+1) I5) _ Yi.out HE2.out D9.out (by omega));go_wp2_with fail;refine CK.out.mono ?_;rintro e w9 ⟨s,rfl,hs,h9⟩;have HSV:=aa hs;have iO:=(HSO.out.mono HE2.out).mono h9;have p0:=iO.at 0 rfl;have p1:=iO.frozen 0;have p2:=fun u=>(iO.set 0 u).at 1 rfl;have p3:=fun u=>(iO.set 0 u).frozen 1;have p4:=aB h9 n0;have p5:=aB h9 n1;have XX:=aa (HE2.out.trans (h9.mono HE2.out.size));have hsE:=XX.out.size;clear hs;by_cases hse:s=⟨#[]⟩
             ·subst hse;have zs:=QS;go_wp2;go_roundw
              case rel=>
               exact ⟨j+1,_,(N++[P]),by omega,rfl,ab0.out w9 XX.out (.slice a8 (N.length+1) I5) (N++[P]) (aT (aH Yi.out h9) (by omega)) D9.out,HCN.out (N++[P]) D9.out,HSV.out (by trivial),HSN.out (N++[P]) D9.out,by omega,by simp;omega,aj (aj (hB2.trans (XX.out.mono hB2.size)) (by omega)) (by omega)⟩
              case measure=>simp [intOf];omega
             ·have zs:=MM hse;go_wp2;go_roundw
              case rel=>exact ⟨j+1,_,Lo,by omega,rfl,HS2.out.ext XX.out,vH.out,HV.out,Uh.out,by omega,by omega,hB2.trans (XX.out.mono hB2.size)⟩
              case measure=>simp [intOf];omega
  ·have hnj:n=j:=by omega
   obtain ⟨YW,cov,rfl,_,_⟩:=ak hS.U3;have o0:=hS.out.at 0 rfl;have o1:=hS.out.at 1 rfl;have r0:=hS.res.at 0 rfl;have r1:=hS.res.frozen 0;have r2:=fun u=>(hS.res.set 0 u).at 1 rfl;have r3:=fun u=>(hS.res.set 0 u).frozen 1;have K:=(hS.res.set 0 (.slice YW Lo.length cov)).set 1 (.slice MO ny MQ);have v0:=K.at 0 rfl;have v1:=K.at 1 rfl;have PP:∀{B m s:Nat} {e:TypeId} {v:Value} {xs:List Value},w.heap.size+1<B->wr.ownsRow B e s v m xs->((wr.setCell ⟨w.heap.size+1,0,none⟩ (.slice YW Lo.length cov)).setCell ⟨w.heap.size+1,1,none⟩ (.slice MO ny MQ)).ownsRow B e s v m xs:=fun hB ho=>bn (bn ho (aQ ho hB) _ _) (aQ ho hB) _ _;have HT:=aa (jq.QQ (PP (by omega) hS.U3) (fun p hp=>PP (by omega) (hS.Ue p hp)) (PP (by omega) hS.xs));have HB:=aa (aj (aj hB (b:=w.heap.size+1) (off:=0) (u:=.slice YW Lo.length cov) (by omega)) (b:=w.heap.size+1) (off:=1) (u:=.slice MO ny MQ) (by omega));have HV:=aa hV;have Uh:=aa Bv;clear K PP hS hC hV Bv hB;go_wp2
   (try simp only [Exit.inBlock,Exit.then])
   refine bodyPost_ret (v:=.agg #[.slice YW Lo.length cov,.slice MO ny MQ]) (by simp [results,results76,go_sem,v0,v1]) rfl ?_;exact ⟨_,Lo.map Prod.fst,Y,rfl,HT.out,HV.out,fun q hq=>by obtain ⟨p,hp,rfl⟩:=jx.1 hq;exact Uh.out p hp,by rw [ia];omega,by have:=HNY.out;omega,M5.out,HB.out⟩
def Gm:∀(i c:Nat),jw (i+1) c=lJ (c / 16 ^ i % 16)::jw i c
 | 0,c=>by simp[jw]
 | i+1,c=>by
   have h:=Gm i (c / 16);rw[my,show 16*16 ^ i=16 ^ (i+1) by rw[me,mS]] at h;show jw (i+1) (c / 16)++[lJ (c % 16)]=_;rw[h];rfl
def Ui {c i:Nat} (f:c<1114112) (g:4<=i) (h0:c / 16 ^ i=0) (a:i<=4\/16 ^ (i-1)<=c):j6 c=i:=by
 have b:c<16 ^ i:=by
  rcases Nat.div_eq_zero_iff.1 h0 with h|h
  ·exact absurd h (Nat.pos_iff_ne_zero.1 (th (by omega)))
  exact h
 have e:(16:Nat) ^ 4=65536:=by decide
 have j:(16:Nat) ^ 5=1048576:=by decide
 have d:(16:Nat) ^ 6=16777216:=by decide
 unfold j6;rcases j' i 7 with h7|h7
 ·have:i=4\/i=5\/i=6:=by omega
  rcases this with rfl|rfl|rfl
  ·rw[if_pos (by omega)]
  ·rw[if_neg (by rcases a with h|h <;> simp at h⊢ <;> omega),if_pos (by omega)]
  rw[if_neg (by rcases a with h|h <;> simp at h⊢ <;> omega),if_neg (by rcases a with h|h <;> simp at h⊢ <;> omega)]
 rcases a with h|h
 ·omega
 have:(16:Nat) ^ 6<=16 ^ (i-1):=kf (by decide) (by omega);omega
def mq (c:Nat) (u:c<1114112) :
 Calls prog 121 #[.int .i64 c] w λe w'=>e=.returned (.string (tx (aV c)))/\Below w.heap.size w w':=by
 have M:=aa (show ∀i,(tx (jw i c)).size=i from λi=>by rw[aX,qH]);have H:=aa (show ∀i,c / 16 ^ (i+1)=c / 16 ^ i / 16 from λi=>by rw[my,me]);have J:=aa (show ∀i,tx (jw (i+1) c)=tx [lJ (c / 16 ^ i % 16)]++tx (jw i c) from λi=>by rw[dA,Gm];rfl);have C:=aa (show ∀i,4<=i->c / 16 ^ i=0->(i<=4\/16 ^ (i-1)<=c)->tx (jw i c)=tx (aV c) from λi z h0 F=>by unfold aV;rw[Ui u z h0 F]);have B:=aa (show ∀i,0<c / 16 ^ i->16 ^ i<=c from λi h=>sC λt=>by rw[pN t] at h;omega)
 have y:=aa (show ∀i,(i<=4\/16 ^ (i-1)<=c)->i<=6 from λi h=>by
  rcases h with h|h
  ·omega
  refine sC λt=>?_;have:(16:Nat) ^ 6<=16 ^ (i-1):=kf (by decide) (by omega);have:(16:Nat) ^ 6=16777216:=by decide
  omega)
 have A:=aa (show ∀i,c / 16 ^ i<1114112 from λi=>lf (tW _ _) u);go_enter func121,ntmps121;go_wp2_with fail;go_loopw [0,3,4] (λnv L r wr=>∃i:Nat,i<=6/\(i<=4\/16 ^ (i-1)<=c)/\nv=.int .i64 ((c / 16 ^ i:Nat):Int)/\L=.string (tx (jw i c))/\r=.int .i64 i/\Below w.heap.size w wr) (λ_ _ r _=>7-(intOf r).toNat)
 case atStart=>exact⟨0,by decide,.inl (by decide),by simp,rfl,rfl,gO _ _⟩
 case round=>
  obtain⟨i,T,m,rfl,rfl,rfl,k⟩:=hrel;have K:=aa m;have:=M.out i;have hd:=aa (H.out i);have o:=aa (J.out i);have G:=aa (B.out i);have O:=aa (C.out i);have:=A.out i;have x:=aa (y.out (i+1));clear m;generalize I:c / 16 ^ i=N at *;generalize tx (jw i c)=S at *;clear I;by_cases a:i<4\/0<N
  ·have p:i+1<=4\/16 ^ (i+1-1)<=c:=by
    rcases a with h|h
    ·exact .inl h
    exact .inr (G.out h)
   have n:i+1<=6:=x.out p;have b:=aa p;clear p;by_cases l:N % 16<10
   ·have f:=lI wr #[.int .u8 (48+(N:Int) % 16)] 1 [48+N % 16] rfl (by simp[mR]) (λd hd=>by rw[gC.1 hd];omega);have s:str [48+N % 16]=tx [lJ (N % 16)]:=by rw[Nn];unfold lJ;rw[if_pos l];rfl
    rw[s] at f;have v:(tx [lJ (N % 16)]).size=1:=by rw[aX];rfl
    have j:=ah (w:=wr) (.cells #[.int .u8 (48+(N:Int) % 16)] tF);generalize tx [lJ (N % 16)]=D at *;by_cases g:i<4
    ·clear a;go_wp2;go_roundw
     case rel=>exact⟨i+1,n,b.out,by rw[hd.out];simp,by rw[o.out],rfl,af k j⟩
     case measure=>simp[intOf];omega
    have q:0<N:=by omega
    clear a;go_wp2;go_roundw
    case rel=>exact⟨i+1,n,b.out,by rw[hd.out];simp,by rw[o.out],rfl,af k j⟩
    case measure=>simp[intOf];omega
   have f:=lI wr #[.int .u8 (55+(N:Int) % 16)] 1 [55+N % 16] rfl (by simp[mR]) (λd hd=>by rw[gC.1 hd];omega);have s:str [55+N % 16]=tx [lJ (N % 16)]:=by rw[Nn];unfold lJ;rw[if_neg l];rfl
   rw[s] at f;have v:(tx [lJ (N % 16)]).size=1:=by rw[aX];rfl
   have j:=ah (w:=wr) (.cells #[.int .u8 (55+(N:Int) % 16)] tF);generalize tx [lJ (N % 16)]=D at *;by_cases g:i<4
   ·clear a;go_wp2;go_roundw
    case rel=>exact⟨i+1,n,b.out,by rw[hd.out];simp,by rw[o.out],rfl,af k j⟩
    case measure=>simp[intOf];omega
   have q:0<N:=by omega
   clear a;go_wp2;go_roundw
   case rel=>exact⟨i+1,n,b.out,by rw[hd.out];simp,by rw[o.out],rfl,af k j⟩
   case measure=>simp[intOf];omega
  obtain rfl:N=0:=by omega
  have:=O.out (by omega) rfl K.out;have g:¬i<4:=by omega
  clear a;go_wp2;go_ret;exact⟨rfl,k⟩
def yR:Nat->Nat->List UInt8
 | 0,_=>[]
 | i+1,n=>UInt8.ofNat (48+n / 10 ^ i % 10)::yR i n
def MS:∀i n,(yR i n).length=i
 | 0,_=>rfl
 | i+1,n=>by simp[yR,MS i]
def aa7 {n i:Nat} (c:n<1000) (d:1<=i) (h0:n / 10 ^ i=0) (b:i<=1\/10 ^ (i-1)<=n):yR i n=iP n:=by
 have a:n<10 ^ i:=by
  rcases Nat.div_eq_zero_iff.1 h0 with h|h
  ·exact absurd h (Nat.pos_iff_ne_zero.1 (th (by omega)))
  exact h
 unfold iP;rcases j' i 4 with h7|h7
 ·have:i=1\/i=2\/i=3:=by omega
  rcases this with rfl|rfl|rfl
  ·simp at a;rw[if_pos a];simp[yR,rI a]
  ·simp at a b;rw[if_neg (by omega),if_pos a];simp[yR,show n / 10 % 10=n / 10 by omega]
  simp at a b;rw[if_neg (by omega),if_neg (by omega)];simp[yR,show n / 100 % 10=n / 100 by omega]
 rcases b with h|h
 ·omega
 have:(10:Nat) ^ 3<=10 ^ (i-1):=kf (by decide) (by omega);omega
def El (c:Nat) (q:c<1000) :
 Calls prog 203 #[.int .i64 c] w λe w'=>e=.returned (.string (tx (iP c)))/\Below w.heap.size w w':=by
 have L:=aa (show ∀i,(tx (yR i c)).size=i from λi=>by rw[aX,MS]);have F:=aa (show ∀i,c / 10 ^ (i+1)=c / 10 ^ i / 10 from λi=>by rw[my,me]);have H:=aa (show ∀i,tx (yR (i+1) c)=tx [UInt8.ofNat (48+c / 10 ^ i % 10)]++tx (yR i c) from λi=>by rw[dA];rfl);have y:=aa (show ∀i,1<=i->c / 10 ^ i=0->(i<=1\/10 ^ (i-1)<=c)->tx (yR i c)=tx (iP c) from λi u h0 B=>by rw[aa7 q u h0 B]);have x:=aa (show ∀i,0<c / 10 ^ i->10 ^ i<=c from λi h=>sC λp=>by rw[pN p] at h;omega)
 have t:=aa (show ∀i,(i<=1\/10 ^ (i-1)<=c)->i<=3 from λi h=>by
  rcases h with h|h
  ·omega
  refine sC λp=>?_;have:(10:Nat) ^ 3<=10 ^ (i-1):=kf (by decide) (by omega)
  omega)
 have v:=aa (show ∀i,c / 10 ^ i<1000 from λi=>lf (tW _ _) q);go_enter func203,ntmps203;go_wp2_with fail;go_loopw [0,3,4] (λnv K m wr=>∃i:Nat,i<=3/\(i<=1\/10 ^ (i-1)<=c)/\nv=.int .i64 ((c / 10 ^ i:Nat):Int)/\K=.string (tx (yR i c))/\m=.int .i64 i/\Below w.heap.size w wr) (λ_ _ m _=>4-(intOf m).toNat)
 case atStart=>exact⟨0,by decide,.inl (by decide),by simp,rfl,rfl,gO _ _⟩
 case round=>
  obtain⟨i,R,f,rfl,rfl,rfl,l⟩:=hrel;have I:=aa f;have:=L.out i;have hd:=aa (F.out i);have r:=aa (H.out i);have C:=aa (x.out i);have M:=aa (y.out i);have:=v.out i;have s:=aa (t.out (i+1));clear f;generalize G:c / 10 ^ i=N at *;generalize tx (yR i c)=S at *;clear G;by_cases a:i=0\/0<N
  ·have g:i+1<=1\/10 ^ (i+1-1)<=c:=by
    rcases a with h|h
    ·exact .inl (by omega)
    exact .inr (C.out h)
   have n:i+1<=3:=s.out g;have b:=aa g;clear g;have k:=lI wr #[.int .u8 (48+(N:Int) % 10)] 1 [48+N % 10] rfl (by simp[mR]) (λd hd=>by rw[gC.1 hd];omega);have J:str [48+N % 10]=tx [UInt8.ofNat (48+N % 10)]:=rfl;rw[J] at k;have:(tx [UInt8.ofNat (48+N % 10)]).size=1:=by rw[aX];rfl
   have o:=ah (w:=wr) (.cells #[.int .u8 (48+(N:Int) % 10)] tF);generalize tx [UInt8.ofNat (48+N % 10)]=D at *;by_cases j:i=0
   ·have z:((i:Int)==0)=true:=by simp;omega
    clear a;go_wp2;go_roundw
    case rel=>exact⟨i+1,n,b.out,by rw[hd.out];simp,by rw[r.out],by (first|rfl|(subst j;rfl)),af l o⟩
    case measure=>simp[intOf];omega
   have:0<N:=by omega
   have z:((i:Int)==0)=false:=by simp;omega
   clear a;go_wp2;go_roundw
   case rel=>exact⟨i+1,n,b.out,by rw[hd.out];simp,by rw[r.out],rfl,af l o⟩
   case measure=>simp[intOf];omega
  obtain rfl:N=0:=by omega
  have:=M.out (by omega) rfl I.out;have z:((i:Int)==0)=false:=by simp;omega
  clear a;go_wp2;go_ret;exact⟨rfl,l⟩
def Gn:∀(l:List Nat) (c:Nat),dD (l++[c])=if l=[] then aV c else dD l++32::aV c
 | [],c=>rfl
 | [a],c=>rfl
 | a::b::l,c=>by
   have d:=Gn (b::l) c;rw[if_neg (by simp)] at d⊢;show aV a++32::dD (b::l++[c])=aV a++32::dD (b::l)++32::aV c;rw[d];simp
def zY:∀l:List Nat,(dD l).length<=7*l.length
 | []=>by simp[dD]
 | [c]=>by have:=bU c;simp only[dD,q_];omega
 | c::d::l=>by
   have:=bU c;have a:=zY (d::l);simp only[dD,d',hU] at a⊢;omega
def aa8 (a b c:List UInt8):tx a++tx b++tx c=tx (a++b++c):=by rw[dA,dA]
def MU {m:Value} (r:aG) (N:bG w m (ints r.map)) (v:r.code<1114112) (q:r.cls<1000) (Y:r.map.length<=4) (o:∀x∈r.map,x<1114112) :
 Calls prog 165 #[.agg #[.int .i64 r.code,.int .i64 r.cls,m]] w λe w'=>e=.returned (.string (tx (kD r)))/\Below w.heap.size w w':=by
 obtain⟨n,z⟩:=ae r.map.length;obtain⟨Q,T,rfl,_,p⟩:=bG.nO N z;have X:=aa p;have R:=aa z;have HX:=aa o;have HT:=aa (λ(W:World) (x:Nat) (h:x<1114112)=>mq (w:=W) x h);have O:=aa (λ(W:World)=>El (w:=W) r.cls q);have u:=aa (λ(W:World)=>mq (w:=W) r.code v);have P:=aa (show ∀j,(tx (dD (r.map.take j))).size<=7*j from λj=>by rw[aX];have:=zY (r.map.take j);rw[iS] at this;omega);have K:=aa (show ∀c,(tx (aV c)).size<=6 from λc=>by rw[aX];exact(bU c).2);have F:=aa (show(tx (iP r.cls)).size<=3 from by rw[aX];exact(vY r.cls).2)
 have Z:=aa (show tx (aV r.code)++tx [59,88,59,59]++tx (iP r.cls)++tx [59,59]++tx (dD r.map)++tx [59,59,59,59,59,59,59,59,59]=tx (kD r) from by
  unfold kD;rw[dA,dA,dA,dA,dA])
 obtain⟨d,a⟩:∃c:Nat,c=r.code:=⟨_,rfl⟩;obtain⟨g,f⟩:∃c:Nat,c=r.cls:=⟨_,rfl⟩;rw[<-z] at Y;rw[<-a,<-f];rw[<-a] at u;rw[<-f] at O;obtain⟨s,l⟩:=ae (w.alloc (.cells #[.int .i64 d,.int .i64 g,.slice Q n T] eY));have hb:=aO l;have d0:s.cell? ⟨w.heap.size,0,none⟩=some (.int .i64 d):=by rw[l];unfold World.cell?;rw[heap_alloc_new];rfl
 have d1:s.cell? ⟨w.heap.size,1,none⟩=some (.int .i64 g):=by rw[l];unfold World.cell?;rw[heap_alloc_new];rfl
 have d2:s.cell? ⟨w.heap.size,2,none⟩=some (.slice Q n T):=by rw[l];unfold World.cell?;rw[heap_alloc_new];rfl
 have HC:=aa a;have y:=aa f;clear N p z o v q a f;go_enter func165,ntmps165;go_wp2_with fail;rw[<-l];clear l;go_wp2_with fail;go_loopw [3,9] (λsv H wr=>∃j:Nat,j<=n/\H=.int .i64 j/\sv=.string (tx (dD (r.map.take j)))/\Below s.heap.size s wr) (λ_ H _=>n-(intOf H).toNat)
 case atStart=>exact⟨0,gW _,rfl,rfl,gO _ _⟩
 case round=>
  obtain⟨j,hj,rfl,rfl,t⟩:=hrel;have B:=af hb t;by_cases ab:j<n
  ·have i:j<r.map.length:=by have:=R.out;omega
   obtain⟨b,off,rfl,ad,v⟩:=X.out j i;have v:=aB B v;have o:=HX.out _ (gx i);have A:=aa (show dD (r.map.take (j+1))=if r.map.take j=[] then aV r.map[j] else dD (r.map.take j)++32::aV r.map[j] by rw[gE i,Gn]);have s1:=P.out j;have s2:=K.out r.map[j];generalize r.map[j]=x at *;have V:=aa (λ(W:World)=>HT.out W x o);by_cases k:j=0
   ·have C:=aa (show tx ([]:List UInt8)++tx (aV x)=tx (dD (r.map.take (j+1))) by rw[A.out,if_pos (by rw[k];rfl),dA];rfl);have L:dD (r.map.take j)=[]:=by rw[k];rfl
    rw[L] at s1⊢;generalize tx (aV x)=U at *;have z1:(tx ([]:List UInt8)).size=0:=rfl;generalize tx ([]:List UInt8)=S at *;have j0:¬0<j:=by omega
    clear A L o k;go_wp2_with fail;refine(V.out _).mono ?_;rintro e w2⟨rfl,E⟩;go_wp2;go_roundw
    case rel=>exact⟨j+1,by omega,rfl,congrArg Value.string C.out,af t E⟩
    case measure=>simp[intOf];omega
   have C:=aa (show tx (dD (r.map.take j))++tx [32]++tx (aV x)=tx (dD (r.map.take (j+1))) by
    rw[A.out,if_neg (λh=>by have:=congrArg List.length h;rw[iS,ki] at this;omega),aa8];simp)
   generalize tx (aV x)=U at *;generalize tx (dD (r.map.take j))=S at *;have j0:0<j:=by omega
   have z0:(tx [32]).size=1:=rfl;have z1:(S++tx [32]).size=S.size+1:=by rw[ByteArray.size_append];rfl
   clear A o;go_wp2_with fail;refine(V.out _).mono ?_;rintro e w2⟨rfl,E⟩;go_wp2;go_roundw
   case rel=>exact⟨j+1,by omega,rfl,congrArg Value.string C.out,af t E⟩
   case measure=>simp[intOf];omega
  obtain rfl:j=n:=by omega
  have sm:=P.out j;rw[ie (by rw[R.out];exact gw _)] at sm⊢;have e0:=aB t d0;have e1:=aB t d1;have g0:=Gr.cell (ag wr) e0;have g1:=Gr.cell (ag wr) e1;have sh:=K.out d;have sd:=F.out;rw[<-y.out] at sd;have G:=aa (show tx (aV d)++tx [59,88,59,59]++tx (iP g)++tx [59,59]++tx (dD r.map)++tx [59,59,59,59,59,59,59,59,59]=tx (kD r) by rw[HC.out,y.out];exact Z.out);generalize tx (aV d)=U at *;generalize tx (iP g)=D at *;generalize tx (dD r.map)=M at *;have q1:¬9223372036854775807<U.size+4:=by omega
  have q2:¬9223372036854775807<U.size+4+D.size:=by omega
  have q3:¬9223372036854775807<U.size+4+D.size+2:=by omega
  have q4:¬9223372036854775807<U.size+4+D.size+2+M.size:=by omega
  have q5:¬9223372036854775807<U.size+4+D.size+2+M.size+9:=by omega
  go_wp2_with fail;refine aC (Array.replicate 13 true) 13 0 mixed ?_;refine ay [0,1,4,5,9] 8 ?_
  iterate 5 (refine aA rfl ?_;go_big_quiet_step (rfl))
  refine az ?_;refine aI 2 ?_;go_wp2_with fail;refine(u.out _).mono ?_;rintro e ac⟨rfl,J⟩;go_wp2_with fail;refine aF J ?_;refine ay [3] 6 ?_
  iterate 1 (refine aA rfl ?_;go_big_quiet_step (rfl))
  refine az ?_;refine aI 6 ?_;go_wp2_with fail;refine(O.out _).mono ?_;rintro e Oi⟨rfl,I⟩;go_wp2_with fail;refine aF I ?_;refine ay [7,8,10,11,12] 0 ?_
  iterate 5 (refine aA rfl ?_;go_big_quiet_step (rfl))
  refine az ?_;refine aJ [] ?_;refine tail_nil ?_;go_wp2;go_ret;exact⟨congrArg (λx=>Ending.returned (.string x)) G.out,B.trans ((af (af (ag wr) J) I).mono B.size)⟩
def zZ (l:List (List UInt8)) (x:List UInt8):bA (l++[x])=bA l++(x++[10]):=by simp[bA]
def I6 (h:∀r∈T,r.map.length<=2):(iV T).length<=38*T.length:=by
 induction T with
 | nil=>simp[iV,bA]
 | cons r T ih=>
   have:=EY (h r (n7 ..));have a:=ih λq b=>h q (kj _ b);simp only[iV,bA,kt,iR,d',hU,ki] at a⊢;omega
def MV (h:y8 w v T) (o:∀r∈T,r.code<1114112/\r.cls<1000/\r.map.length<=2/\∀x∈r.map,x<1114112) (H:T.length<1000000) :
 Calls prog 122 #[v] w λe w'=>e=.returned (.string (tx (iV T)))/\Below w.heap.size w w':=by
 obtain⟨a,cap,rfl,_,z⟩:=h;obtain⟨n,k⟩:=ae T.length;rw[<-k] at H⊢;have y:=aa k;have G:=aa z;have C:=aa o;have I:=aa (show ∀j,(tx (iV (T.take j))).size<=38*j from λj=>by rw[aX];have:=I6 (T:=T.take j) (λr M=>(o r (rl M)).2.2.1);rw[iS] at this;omega);clear z k o;go_enter func122,ntmps122;go_wp2_with fail;go_loopw [3,8] (λN l wr=>∃j:Nat,j<=n/\l=.int .i64 j/\N=.string (tx (iV (T.take j)))/\Below w.heap.size w wr) (λ_ l _=>n-(intOf l).toNat)
 case atStart=>exact⟨0,gW _,rfl,rfl,gO _ _⟩
 case round=>
  obtain⟨j,Q,rfl,rfl,d⟩:=hrel;by_cases B:j<n
  ·have c:j<T.length:=by have:=y.out;omega
   obtain⟨b,off,m,rfl,O,s,u,A,f⟩:=G.out j c;have s:=aB d s;have u:=aB d u;have A:=aB d A;have f:=f.mono d;obtain⟨K,i,J,p⟩:=C.out _ (gx c)
   have F:=aa (show tx (iV (T.take j))++(tx (kD T[j])++tx [10])=tx (iV (T.take (j+1))) by
    rw[dA,dA,gE c];unfold iV;rw[js,yk,zZ])
   have s1:=I.out j;have s2:(tx (kD T[j])).size<=37:=by rw[aX];exact EY J
   generalize T[j]=q at *;have D:=aa (λ(W:World) (E:Below wr.heap.size wr W)=>MU (w:=W) q (f.mono E) K i (by omega) p);obtain⟨nm,g⟩:=ae q.map.length;obtain⟨L,P,rfl,_,_⟩:=bG.nO f g;generalize tx (kD q)=U at *;generalize tx (iV (T.take j))=S at *;have R:¬9223372036854775807<U.size+1:=by omega
   have X:¬9223372036854775807<S.size+(U.size+1):=by omega
   have t:=ah (w:=wr) (.cells #[.int .i64 q.code,.int .i64 q.cls,.slice L nm P] eY);clear f g p;go_wp2_with fail;refine(D.out _ t).mono ?_;rintro e V⟨rfl,i⟩;go_wp2;go_roundw
   case rel=>exact⟨j+1,by omega,rfl,congrArg Value.string F.out,af d (af t i)⟩
   case measure=>simp[intOf];omega
  obtain rfl:j=n:=by omega
  rw[ie (by rw[y.out];exact gw _)];go_wp2;go_ret;exact⟨rfl,d⟩
def Dr:∀(l s:List Nat) (c:Nat),dW s (l++[c])=if c∈s++l then dW s l else dW s l++[c]
 | [],s,c=>by
   by_cases h:c∈s
   ·simp[dW,h]
   simp[dW,h]
 | a::l,s,c=>by
   have b:=Dr l (s++[a]) c;have e:c∈s++[a]++l↔c∈s++a::l:=by simp
   show(if a∈s then dW (s++[a]) (l++[c]) else a::dW (s++[a]) (l++[c]))=_;show _=if c∈s++a::l then (if a∈s then dW (s++[a]) l else a::dW (s++[a]) l) else (if a∈s then dW (s++[a]) l else a::dW (s++[a]) l)++[c];rw[b];by_cases h:c∈s++a::l
   ·rw[if_pos (e.2 h),if_pos h]
   rw[if_neg (λx=>h (e.1 x)),if_neg h]
   split <;> rfl
def Gp:∀(l s:List Nat),(dW s l).length<=l.length
 | [],_=>gw _
 | a::l,s=>by
   have:=Gp l (s++[a]);unfold dW
   split
   ·simp only[hU];omega
   simp only[hU];omega
def I7 (X:List Nat):(eP X).length<=7*X.length:=by
 have h:∀l:List Nat,(bA (l.map aV)).length<=7*l.length:=by
  intro l
  induction l with
  | nil=>simp[bA]
  | cons c l ih=>
    have:=bU c;simp only[bA,kt,iR,d',hU,ki] at ih⊢;omega
 have:=h (dW [] X);have:=Gp X [];unfold eP;omega
def PZ (l:List Nat) (c:Nat):eP (l++[c])=if c∈l then eP l else eP l++(aV c++[10]):=by
 unfold eP;rw[Dr,ks]
 split
 ·rfl
 rw[js,yk,zZ]
def XY (h:jq w v T X) (hT:∀r∈T,r.code<1114112/\r.cls<1000/\r.map.length<=2/\∀x∈r.map,x<1114112) (V:T.length<1000000) (Q:∀x∈X,x<1114112) (Yk:X.length<1000000) :
 Calls prog 77 #[v] w λe w'=>e=.returned (.tuple #[.string (tx (iV T)),.string (tx (eP X))])/\Below w.heap.size w w':=by
 obtain⟨r,x,rfl,N,q⟩:=h;have HR:=aa N;obtain⟨a,cap,rfl,_,_⟩:=N;obtain⟨Y,m⟩:∃n,n=T.length:=⟨_,rfl⟩;rw[<-m] at HR⊢;obtain⟨n,s⟩:=ae X.length;obtain⟨P,O,rfl,ad,Z⟩:=bG.nO q s;have K:=aa s;have R:=aa Z;have B:=aa Q;have TX:=aa (λ(W:World) (E:Below w.heap.size w W)=>MV (HR.out.mono E) hT V);have HT:=aa (λ(W:World) (x:Nat) (h:x<1114112)=>mq (w:=W) x h);have HS:=aa (show ∀j,(tx (eP (X.take j))).size<=7*j from λj=>by rw[aX];have:=I7 (X.take j);rw[iS] at this;omega);have HH:=aa (show ∀c,(tx (aV c)).size<=6 from λc=>by rw[aX];exact(bU c).2);obtain⟨u,l⟩:=ae (w.alloc (.cells #[.slice a Y cap,.slice P n O] 25));have hb:=aO l;have d0:u.cell? ⟨w.heap.size,0,none⟩=some (.slice a Y cap):=by rw[l];unfold World.cell?;rw[heap_alloc_new];rfl
 have d1:u.cell? ⟨w.heap.size,1,none⟩=some (.slice P n O):=by rw[l];unfold World.cell?;rw[heap_alloc_new];rfl
 rw[<-s] at Yk;clear q Z s hT Q m V;go_enter func77,ntmps77;go_wp2_with fail;rw[<-l];clear l;go_wp2_with fail;go_loopw [4,13] (λsv F wr=>∃j:Nat,j<=n/\F=.int .i64 j/\sv=.string (tx (eP (X.take j)))/\Below u.heap.size u wr) (λ_ F _=>n-(intOf F).toNat)
 case atStart=>exact⟨0,gW _,rfl,rfl,gO _ _⟩
 case round=>
  obtain⟨j,hj,rfl,rfl,o⟩:=hrel;have i:=af hb o;have e1:=aB o d1;by_cases ab:j<n
  ·have g:j<X.length:=by have:=K.out;omega
   obtain⟨b,off,rfl,ag,hc⟩:=R.out j g;have hc:=aB i hc;have q:=B.out _ (gx g);have t:=aa (show eP (X.take (j+1))=if X[j]∈X.take j then eP (X.take j) else eP (X.take j)++(aV X[j]++[10]) by rw[gE g,PZ]);have s1:=HS.out j;have s2:=HH.out X[j];generalize X[j]=x at *;have mH:=aa (λ(W:World)=>HT.out W x q);obtain⟨wo,ku⟩:∃w',w'=wr:=⟨_,rfl⟩;subst ku;clear q;go_wp2_with fail;go_loopw [7,23] (λdv H w2=>∃(k:Nat) (d:Bool),k<=j/\H=.int .i64 k/\dv=.bool d/\(d=true↔x∈X.take k)/\w2=wo) (λ_ H _=>j-(intOf H).toNat)
   case atStart=>exact⟨0,false,gW _,rfl,rfl,by simp,(by first|rfl|trivial)⟩
   case round=>
    obtain⟨k,d,hk,rfl,rfl,hd,rfl⟩:=hrel;have A:=aa hd;clear hd;by_cases ac:k<j
    ·have p:k<X.length:=by have:=K.out;omega
     obtain⟨b2,Lf,L,_,M⟩:=R.out k p;simp only[yy,Addr.mk.injEq,and_true] at L;obtain⟨rfl,rfl⟩:=L;have M:=aB i M;have I:=aa (show x∈X.take (k+1)↔x∈X.take k\/x=X[k] by rw[gE p,gR,gC]);generalize X[k]=y at *;cases d with
     | true=>
       go_wp2;go_roundw
       case rel=>exact⟨k+1,true,by omega,rfl,rfl,by rw[I.out];simp[A.out.1 rfl],(by first|rfl|trivial)⟩
       case measure=>simp[intOf];omega
     | false=>
       by_cases f:y=x
       ·have z:((y:Int)==(x:Int))=true:=by simp;omega
        have D:=aa f;clear f;go_wp2;go_roundw
        case rel=>exact⟨k+1,true,by omega,rfl,rfl,by rw[I.out];simp[D.out],(by first|rfl|trivial)⟩
        case measure=>simp[intOf];omega
       have z:((y:Int)==(x:Int))=false:=by simp;omega
       have D:=aa f;clear f;go_wp2;go_roundw
       case rel=>exact⟨k+1,false,by omega,rfl,rfl,by rw[I.out,<-A.out];simp;exact λe=>D.out e.symm,(by first|rfl|trivial)⟩
       case measure=>simp[intOf];omega
    obtain rfl:j=k:=by omega
    cases d with
    | true=>
      have C:=aa (show tx (eP (X.take j))=tx (eP (X.take (j+1))) by rw[t.out,if_pos (A.out.1 rfl)]);generalize tx (eP (X.take j))=S at *;clear t;go_wp2;go_roundw
      case rel=>exact⟨j+1,by omega,rfl,congrArg Value.string C.out,o⟩
      case measure=>simp[intOf];omega
    | false=>
      have C:=aa (show tx (eP (X.take j))++(tx (aV x)++tx [10])=tx (eP (X.take (j+1))) by rw[t.out,if_neg (λh=>by have:=A.out.2 h;cases this),dA,dA]);generalize tx (eP (X.take j))=S at *;generalize tx (aV x)=U at *;have q1:¬9223372036854775807<U.size+1:=by omega
      have q2:¬9223372036854775807<S.size+(U.size+1):=by omega
      clear t;go_wp2_with fail;refine(mH.out _).mono ?_;rintro e w3⟨rfl,G⟩;go_wp2;go_roundw
      case rel=>exact⟨j+1,by omega,rfl,congrArg Value.string C.out,af o G⟩
      case measure=>simp[intOf];omega
  obtain rfl:n=j:=by omega
  rw[ie (by rw[K.out];exact gw _)];have e0:=aB o d0;have J:=aa (TX.out _ i);go_wp2_with fail;refine J.out.mono ?_;rintro e w3⟨rfl,G⟩;go_wp2;go_ret2;exact⟨rfl,i.trans (G.mono i.size)⟩
structure P5 (T:List aG) (X:List Nat):Prop where
 valid:aY T X
 says:∀q∈T,0<q.cls\/q.map≠[]
 len:T.length<=20
 ahH:X.length<=30
 ahI:∀y∈X,aP y
def Al (w:World) (k:Nat):Prop:=∃cs T,Is w k cs T/\∀u∈cs.toList,∃a n c,u=.slice a n c
def Al.int {o:Nat} (h:Al w k) {q:IntKind} {x:Int} (b:w.cell? ⟨k,o,none⟩=some (.int q x)):False:=by
 obtain⟨cs,T,d,f⟩:=h;rw[d.cell] at b;have g:Value.int q x∈cs.toList:=by rw[<-mm] at b;exact lA b
 obtain⟨a,n,c,e⟩:=f _ g;cases e
def vF {o b o':Nat} {u:Value} (c:b≠k):(w.setCell ⟨k,o,none⟩ u).cell? ⟨b,o',none⟩=w.cell? ⟨b,o',none⟩:=
 nF (a:=⟨b,o',none⟩) (i_ _ _ _ _ (by simp only;exact λe=>c e))
def bG.Dt {l:List Nat} (h:bG w v (ints l)) (p:Al w k) (o:Nat) (u:Value):bG (w.setCell ⟨k,o,none⟩ u) v (ints l):=by
 obtain⟨a,cap,r,n,h⟩:=h;refine⟨a,cap,r,n,?_⟩;rcases h with h|⟨b,off,cs,e,j,g,d,i⟩
 ·exact .inl h
 cases f:l with
 | nil=>subst f;exact .inl ⟨rfl,λe=>by rw[g] at e;cases e⟩
 | cons x l'=>
   subst f;have c:b≠k:=λm=>by
    subst m;have h0:=i 0 (by simp);refine p.int (o:=off) (q:=.i64) (x:=(x:Nat)) ?_;unfold World.cell?;rw[d];simpa [ints] using h0
   exact .inr ⟨b,off,cs,e,j,g,(i_ _ _ _ _ (by simp only;exact λe=>c e)).trans d,i⟩
def bG.dK {l:List Nat} (h:bG w v (aM l)) (p:Al w k) (o:Nat) (u:Value):bG (w.setCell ⟨k,o,none⟩ u) v (aM l):=by
 obtain⟨a,cap,r,n,h⟩:=h;refine⟨a,cap,r,n,?_⟩;rcases h with h|⟨b,off,cs,e,j,g,d,i⟩
 ·exact .inl h
 cases f:l with
 | nil=>subst f;exact .inl ⟨rfl,λe=>by rw[g] at e;cases e⟩
 | cons x l'=>
   subst f;have c:b≠k:=λm=>by
    subst m;have h0:=i 0 (by simp);refine p.int (o:=off) (q:=.i32) (x:=(x:Nat)) ?_;unfold World.cell?;rw[d];simpa [aM] using h0
   exact .inr ⟨b,off,cs,e,j,g,(i_ _ _ _ _ (by simp only;exact λe=>c e)).trans d,i⟩
def cK.put {p:Nat} (h:cK w p T X) {cs:Array Value} {t:TypeId} (f:Is w k cs t) (P:Al w k) (g:cs.size<=100) (M:156≠t) (n:h_≠t) (H:178≠t) (a:aN≠t) (o:Nat) (u:Value) :
 cK (w.setCell ⟨k,o,none⟩ u) p T X:=by
 obtain⟨E,l,xv,s,N,K,A,q,C,O,B,d,m,F,s1,s2,s3,L⟩:=h;have c:=bJ.put (o:=o) f u;obtain⟨R,v,j,D⟩:=d.rows;obtain⟨G,i,J,z⟩:=d.bm
 exact⟨E,l,xv,s,N,K,A,q,C,O,B,⟨c.is d.is M,⟨R,v,c.own j n,λx b=>c.own (D x b) a⟩,c.own d.qp H,d.mG,λx b=>c.own (d.full x b) a,λx b=>c.own (d.maps x b) a,d.qV,
  ⟨G,c.map i,λx u r=>by obtain⟨y,e,I⟩:=J x u r;exact⟨y,e,c.own I a⟩,z⟩,c.map d.jm⟩,m.put f g u,F.put f g u,c.own s1 a,c.own s2 a,c.own s3 a,bG.dK L P o u⟩
def jq.Dt (h:jq w v T X) (f:Al w k) (o:Nat) (u:Value):jq (w.setCell ⟨k,o,none⟩ u) v T X:=by
 obtain⟨r,x,A,⟨a,cap,l,p,s⟩,j⟩:=h;refine⟨r,x,A,⟨a,cap,l,p,λi q=>?_⟩,bG.Dt j f o u⟩;obtain⟨b,off,m,n,d,g,y,t,z⟩:=s i q;have c:b≠k:=λe=>f.int (e▸g);exact⟨b,off,m,n,by simpa using d,(vF c).trans g,(vF c).trans y,(vF c).trans t,bG.Dt z f o u⟩
def P6 (h:P5 T X):NG T:=by
 refine⟨λr a=>?_,λr a=>(h.says r a).imp (λh=>by omega) id,λr a=>(h.valid.fine r a).1,h.valid.rise,by have:=h.len;omega⟩;obtain⟨c,f,e,_,b⟩:=h.valid.fine r a;exact⟨c.1,f,e,λx d=>(b x d).2.1⟩
def Uj {r:aG} (h:r.map.length<=2):(kD r).length<=100:=by
 have:=bU r.code;have:(iP r.cls).length<=3:=by unfold iP;split <;> (try split) <;> simp
 have:(dD r.map).length<=13:=by
  match r.map,h with
  | [],_=>simp[dD]
  | [a],_=>have:=bU a;simp[dD];omega
  | [a,b],_=>have:=bU a;have:=bU b;simp[dD];omega
 unfold kD;simp only[d',hU,ki];omega
def Uk (h:P5 T X):(iV T).length<1000000:=by
 have key:∀L:List aG,(∀r∈L,r.map.length<=2)->(iV L).length<=101*L.length:=λL=>by
  induction L with
  | nil=>intro _;simp[iV,bA]
  | cons r L ih=>
    intro b;have c:=ih λr a=>b r (by simp[a]);have:=Uj (b r (by simp));unfold iV bA at c⊢;rw[kt,iR,d',d',hU];simp only[hU,ki];omega
 have:=key T λr a=>(h.valid.fine r a).2.2.1;have:=h.len;omega
def MW (h:P5 T X):(∀r∈T,r.code<1114112/\r.cls<1000/\r.map.length<=2/\∀x∈r.map,x<1114112)/\(∀x∈X,x<1114112):=
 ⟨λr d=>by
   obtain⟨c,f,e,_,b⟩:=h.valid.fine r d
   exact⟨c.1,by omega,e,λx a=>(b x a).2.1⟩,λx a=>(h.ahI x a).1⟩
def Ul (hG:dL w) {T:List gX} {X:List Int} (h:PT w v T X) :
 Calls prog 34 #[v] w λe w'=>∃p r q t,e=.returned (.tuple #[.pointer (some ⟨p,0,none⟩),r])/\cK w' p q t/\jq w' r q t/\P5 q t/\Below w.heap.size w w':=by
 obtain⟨r1,x1,rfl,N,O⟩:=id h;obtain⟨ra,nt,rc,rfl⟩:∃a n c,r1=.slice a n c:=by obtain⟨a,cap,rfl,_⟩:=N;exact⟨_,_,_,rfl⟩
 obtain⟨xa,nx,xc,rfl⟩:∃a n c,x1=.slice a n c:=by obtain⟨a,cap,rfl,_⟩:=O.out;exact⟨_,_,_,rfl⟩
 obtain⟨w1,o⟩:=ae ((w.alloc (.cells #[.slice ra nt rc,.slice xa nx xc] 25)).alloc (.cells #[.slice none 0 0,.slice none 0 0] 25));have R:Below w.heap.size w w1:=by rw[o];exact dH _ _
 have k1:Is w1 w.heap.size #[.slice ra nt rc,.slice xa nx xc] 25:=by rw[o];exact(Is.new _ _ _).mono (ah _)
 have j1:Is w1 (w.heap.size+1) #[.slice none 0 0,.slice none 0 0] 25:=by rw[o];exact Is.new' _ _ _ _ (by simp)
 have RT:=aa (XW (h.mono R));have B:=k1.at 0 rfl;have H:=k1.at 1 rfl;clear h N O;go_enter func34,ntmps34;go_wp2_with fail;rw[<-o];clear o;refine RT.out.mono ?_;rintro e w2⟨r,q,t,rfl,hT,hV,hS,hl,Yk,J,F⟩;have HT:=aa hT;obtain⟨r2,x2,rfl,Y,K⟩:=hT;obtain⟨d,f,g,rfl⟩:∃a n c,r2=.slice a n c:=by obtain⟨a,cap,rfl,_⟩:=Y;exact⟨_,_,_,rfl⟩
 obtain⟨l,j,k,rfl⟩:∃a n c,x2=.slice a n c:=by obtain⟨a,cap,rfl,_⟩:=K.out;exact⟨_,_,_,rfl⟩
 have b:P5 q t:=⟨hV,hS,hl,Yk,J⟩;have HF:=aa b;clear hV hS hl Yk J Y K B H RT b;have NP:=af R F;have y:=k1.mono F;have j2:=j1.mono F;have:w.heap.size+1<w2.heap.size:=by have:=j2.lt;omega
 have B:=y.at 0 rfl;have H:=y.at 1 rfl;have f0:=y.frozen 0;have f1:=y.frozen 1;obtain⟨w3,i⟩:=ae ((w2.setCell ⟨w.heap.size,0,none⟩ (.slice d f g)).setCell ⟨w.heap.size,1,none⟩ (.slice l j k));have U:Al w2 w.heap.size:=⟨_,_,y,by simp⟩;have A:=y.set 0 (.slice d f g);have P:Al (w2.setCell ⟨w.heap.size,0,none⟩ (.slice d f g)) w.heap.size:=⟨_,_,A,by simp⟩;have z:jq w3 (.agg #[.slice d f g,.slice l j k]) q t:=by rw[i];exact(HT.out.Dt U 0 _).Dt P 1 _
 have Z:Is w3 w.heap.size #[.slice d f g,.slice l j k] 25:=by rw[i];exact A.set 1 _
 have j3:Is w3 (w.heap.size+1) #[.slice none 0 0,.slice none 0 0] 25:=by rw[i];exact(j2.put (by omega) _).put (by omega) _
 have ak:Below w.heap.size w w3:=by rw[i];exact aj (aj NP (gw _)) (gw _)
 have b:=HF.out;have TX:=aa (XY z (MW b).1 (by have:=b.len;omega) (MW b).2 (by have:=b.ahH;omega));have ai:=aa z;have LD:=aa (λ(W:World) (E:Below w.heap.size w W)=>MG (hG.mono E) (P6 b) (Uk b) b.valid (λr hr=>(b.says r hr).imp (λh=>by omega) id) (by have:=b.len;omega) (by have:=b.ahH;omega) b.ahI);obtain⟨s1,D⟩:∃s,s=tx (iV q):=⟨_,rfl⟩;obtain⟨s2,Tj⟩:∃s,s=tx (eP t):=⟨_,rfl⟩;rw[<-D,<-Tj] at TX;rw[<-D,<-Tj] at LD;clear z U P A k1 j1 y j2 b D Tj HT hG;go_wp2_with fail;rw[<-i];clear i B H f0 f1;have B:=Z.at 0 rfl;have H:=Z.at 1 rfl;go_wp2_with fail;refine TX.out.mono ?_;rintro e w4⟨rfl,V⟩;have CP:=af ak V;clear B H;go_wp2_with fail;refine(LD.out w4 CP).mono ?_;rintro e w5⟨p,rfl,hD,L⟩;have MC:=af V L;have k5:=Z.mono MC;have m:=j3.mono MC;have B:=k5.at 0 rfl;have H:=k5.at 1 rfl;have g0:=m.at 0 rfl;have g1:=m.at 1 rfl;have q0:=m.frozen 0;have q1:=m.frozen 1;have I:=ai.out.mono MC;have ad:=aa I;have HD:=aa hD;have J5:=aa m;have al:Below w.heap.size w w5:=af CP L;clear I hD k5 m Z j3 TX LD;go_wp2_with fail;go_region;have m:=J5.out;have C:Al w5 (w.heap.size+1):=⟨_,_,m,by simp⟩;have x:=m.set 0 (.slice d f g);have G:Al (w5.setCell ⟨w.heap.size+1,0,none⟩ (.slice d f g)) (w.heap.size+1):=⟨_,_,x,by simp⟩;have S:=(HD.out.put m C (show 2<=100 by omega) (by decide) (by decide) (by decide) (by decide) 0 (.slice d f g)).put x G (show 2<=100 by omega) (by decide) (by decide) (by decide) (by decide) 1 (.slice l j k);have ZU:=(ad.out.Dt C 0 (.slice d f g)).Dt G 1 (.slice l j k);have k6:=x.set 1 (.slice l j k);have M:=(aj (off:=1) (u:=.slice l j k) (aj (off:=0) (u:=.slice d f g) al (pj _)) (pj _)).drew;obtain⟨w6,Q⟩:=ae (((w5.setCell ⟨w.heap.size+1,0,none⟩ (.slice d f g)).setCell ⟨w.heap.size+1,1,none⟩ (.slice l j k)).drew);have k7:Is w6 (w.heap.size+1) #[.slice d f g,.slice l j k] 25:=by rw[Q];exact k6.mono (ag _)
 have v0:=k7.at 0 rfl;have v1:=k7.at 1 rfl;have ac:=aa (show cK w6 p q t from by rw[Q];exact S.mono (ag _));have ab:=aa (show jq w6 (.agg #[.slice d f g,.slice l j k]) q t from by rw[Q];exact ZU.mono (ag _));rw[<-Q] at M⊢;clear Q S ZU k6 k7 C G m x B H g0 g1 q0 q1;go_wp2_with fail;exact bodyPost_ret (v:=.tuple #[.pointer (some ⟨p,0,none⟩),.agg #[.slice d f g,.slice l j k]]) (by simp[results,results34,go_sem,v0,v1]) rfl ⟨p,_,q,t,rfl,ac.out,ab.out,HF.out,M⟩
end Go.Proofs.YtmnimbnojdndmaaGreatDoor
