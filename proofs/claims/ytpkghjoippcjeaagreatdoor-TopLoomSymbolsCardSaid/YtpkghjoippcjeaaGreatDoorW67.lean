/- Texts J213 to J217 of this proof, in one file. -/
import Derived.Test.YtpkghjoippcjeaaGreatDoorW13
import Derived.Test.YtpkghjoippcjeaaGreatDoorW19
import Derived.Test.YtpkghjoippcjeaaGreatDoorW66
import Derived.Lib.AppendZeros
namespace Go.Proofs.YtpkghjoippcjeaaGreatDoor
set_option maxRecDepth 100000
set_option maxHeartbeats 16000000
section
open Go Go.RowKit
attribute [local go_sem] over_cell
attribute [local go_sem] Oper.semAt_some
theorem made_zr (n:Nat):(madeCells (Value.int .i64 0).cells (n*1)).toList=(List.replicate n (0:Int)).map (Value.int .i64):=by
 apply List.ext_getElem?
 intro i
 by_cases h:i<n
 ·simp[madeCells,h,Value.cells,Nat.mod_one]
 ·simp[madeCells,h]
def wtL (X:List Int) (x:Nat):Int:=if X.length=0 then 0 else (X[x % X.length]?.getD 0) % 20
theorem wtL_bd (X:List Int) (x:Nat):0≤wtL X x∧wtL X x≤19:=by unfold wtL;split <;> omega
def LoomO (w:World) (n:Nat) (cs X:List Int) (e:Ending) (w':World):Prop :=
 ∃(bt ct:Nat) (g c:Nat→Nat) (m:List (List Int)) (v:Value) (pre:List TermE),e = .returned (.tuple #[.slice (some ⟨bt,0,none⟩) n ct,v])∧MX w' w.heap.size bt n ct g c n m∧EntM n m (loomS n cs (wtL X))∧TermI n w' w.heap.size v pre∧LoomT n cs (wtL X) n (pre.map (·.2))∧Below w.heap.size w w'
structure LmI (w:World) (Z bt n:Nat) (g c:Nat→Nat) (cs X:List Int) (x:Nat) (v:Value) (pre:List TermE) (m:List (List Int)) (W:World):Prop where
 mx:MX W w.heap.size bt n n g c n m
 bz:bt<Z∧∀i,i<n→g i<Z
 ent:EntM n m (loomU n cs (wtL X) x)
 tm:TermI n W Z v pre
 lt:LoomT n cs (wtL X) x (pre.map (·.2))
 base:Below w.heap.size w W
 z:Z≤W.heap.size
 wz:w.heap.size≤Z
structure CmI (w:World) (Z bt n:Nat) (g c:Nat→Nat) (gp bx:Nat) (xv:Int) (v:Value) (pre:List TermE) (m:List (List Int)) (p:List Int) (W:World):Prop where
 mx:MX W w.heap.size bt n n g c n m
 bz:bt<Z∧∀i,i<n→g i<Z
 tm:TermI n W Z v pre
 row:OI W Z gp n n p
 box:W.heap[bx]?=some (.cells #[.slice (some ⟨gp,0,none⟩) n n,.int .i64 xv] 37 (0,0))
 bb:Z≤gp∧gp<bx∧v.ownBlock≠some gp∧v.ownBlock≠some bx∧∀y,y∈pre→y.1.1≠gp
 base:Below w.heap.size w W
 z:Z≤W.heap.size
 wz:w.heap.size≤Z
section
variable {w:World} {Z bt n:Nat} {g c:Nat→Nat} {cs X:List Int} {gp bx:Nat} {xv:Int} {v:Value} {pre:List TermE} {m:List (List Int)} {p:List Int} {W:World}
theorem LmI.keep {x:Nat} (h:LmI w Z bt n g c cs X x v pre m W) {W':World} (hb:Below W.heap.size W W'):LmI w Z bt n g c cs X x v pre m W' :=
 ⟨h.mx.keep hb,h.bz,h.ent,h.tm.keep hb,h.lt,keep_trans h.base hb,Nat.le_trans h.z hb.size,h.wz⟩
theorem CmI.keep (h:CmI w Z bt n g c gp bx xv v pre m p W) {W':World} (hb:Below W.heap.size W W'):CmI w Z bt n g c gp bx xv v pre m p W' :=
 ⟨h.mx.keep hb,h.bz,h.tm.keep hb,h.row.keep hb,keepq hb h.box,h.bb,keep_trans h.base hb,Nat.le_trans h.z hb.size,h.wz⟩
theorem CmI.perm (h:CmI w Z bt n g c gp bx xv v pre m p W) (i:Nat) (x:Int):CmI w Z bt n g c gp bx xv v pre m (p.set i x) (W.setCell ⟨gp,i,none⟩ (.int .i64 x)) :=
 ⟨h.mx.other (fun e=>by have:=h.bz.1;have:=h.bb.1;omega) (fun j hj e=>by have:=h.bz.2 j hj;have:=h.bb.1;omega) _,h.bz,
  h.tm.stay (Stays.setCell (S:=fun k=>k=gp) W (p:=⟨gp,i,none⟩) rfl _) (fun k e e2=>by have e3:k=gp:=e2;subst e3;exact h.bb.2.2.1 e) (fun y hy e2=>h.bb.2.2.2.2 y hy e2),h.row.set i x,
  q_other h.box (fun e=>by have:=h.bb.2.1;omega) _,h.bb,
  h.base.setCell (p:=⟨gp,i,none⟩) (Nat.le_trans h.wz h.bb.1) _,by simpa using h.z,h.wz⟩
theorem CmI.mat (h:CmI w Z bt n g c gp bx xv v pre m p W) {i:Nat} (hi:i<n) (j:Nat) (x:Int):CmI w Z bt n g c gp bx xv v pre (m.set i ((m[i]?.getD []).set j x)) p (W.setCell ⟨g i,j,none⟩ (.int .i64 x)) :=
 ⟨h.mx.set hi j x,h.bz,
  h.tm.stay (Stays.setCell (S:=fun k=>k=g i) W (p:=⟨g i,j,none⟩) rfl _) (fun k e e2=>by have h1:=(h.tm.own.lt k e).1;have h2:=h.bz.2 i hi;have e3:k=g i:=e2;omega) (fun y hy e2=>by have h1:=(h.tm.row y hy).1.blk.1;have h2:=h.bz.2 i hi;have e3:y.1.1=g i:=e2;omega),
  h.row.other (fun e=>by have:=h.bb.1;have:=h.bz.2 i hi;omega) _,
  q_other h.box (fun e=>by have:=h.bb.2.1;have:=h.bb.1;have:=h.bz.2 i hi;omega) _,h.bb,
  h.base.setCell (p:=⟨g i,j,none⟩) (h.mx.row i hi).blk.1 _,by simpa using h.z,h.wz⟩
end
theorem loomm_c (n:Nat) (h2:2≤n) (h5:n≤5) (a:Option Addr) (nc ca:Nat) (cs:List Int) (ab:Option Addr) (k cb:Nat) (X:List Int) (w:World) (h:IC w a nc cs) (L:Latin n cs) (hb:BC w ab k X) (hk:k≤20) :
  Calls Tryz.prog 6 #[.agg #[.int .i64 (n:Int),.int .i64 (n:Int),.slice a nc ca],.slice ab k cb] w (LoomO w n cs X):=by
 obtain ⟨i0,hi,hz0,hz1,hz2⟩:=info_parts infoRow
 obtain ⟨j0,hj,hx0,hx1,hx2⟩:=info_parts infoInt
 obtain ⟨t0,ht,hy0,hy1,hy2⟩:=info_parts infoTerm
 have HCS:=Lib.hid h
 have HL:=Lib.hid L
 have HX:=Lib.hid hb
 have HNC:Hid (nc=n*n):=h.len.symm.trans L.len
 have HXL:Hid (X.length=k):=hb.1.1
 have hnc25:nc≤25:=by rw[HNC.out];exact Nat.mul_le_mul h5 h5
 clear h L hb
 go_enter Tryz.func6,Tryz.ntmps6
 go_upto_region 1 with fail
 have fsz:(w.alloc (.cells #[.int .i64 (n:Int),.int .i64 (n:Int),.slice a nc ca] 24)).heap.size=w.heap.size+1:=by simp only[World.size_alloc]
 have fB:Below w.heap.size w (w.alloc (.cells #[.int .i64 (n:Int),.int .i64 (n:Int),.slice a nc ca] 24)):=(Below.refl _ _).alloc (Nat.le_refl _) _
 have fq0:(w.alloc (.cells #[.int .i64 (n:Int),.int .i64 (n:Int),.slice a nc ca] 24)).heap[w.heap.size]?=some (.cells #[.int .i64 (n:Int),.int .i64 (n:Int),.slice a nc ca] 24 (0,0)):=by have h:=World.alloc_heap_new w (.cells #[.int .i64 (n:Int),.int .i64 (n:Int),.slice a nc ca] 24);exact h
 generalize (w.alloc (.cells #[.int .i64 (n:Int),.int .i64 (n:Int),.slice a nc ca] 24))=W0 at fsz fB fq0 ⊢
 have Q0:=Lib.hid fq0
 have FB:=Lib.hid fB
 have FL:Hid (w.heap.size≤W0.heap.size):=fB.size
 obtain ⟨x0,x1,x2,xl⟩:=c3_of fq0
 clear fq0 fsz fB
 go_upto_region 3 with (refine wpList_make_full _ rfl _ _ 28 rfl W0.heap.size 22 i0 (.slice none 0 0) 1 Tryz.underlying28 hi hz0 hz1 _ _ _ _ n rfl rfl (by simp) (by simp) (by rw[hz2];omega) (by unfold maxLen;omega) (Nat.le_refl _) ?_;intro W4 hown4 hgr4;have hb4:Below W0.heap.size W0 W4:=(Below.refl W0.heap.size W0).grown hgr4 (Nat.le_refl _) (fun k e=>by cases e))
 rw[made_nilr n] at hown4
 have HB4:=Lib.hid hb4
 obtain ⟨bt,hbt⟩:∃bt,W0.heap.size=bt:=⟨_,rfl⟩
 have HMX:Hid (MX W4 W0.heap.size bt n n (fun _=>0) (fun _=>0) 0 []):=by
  unfold Hid
  rw[← hbt]
  exact MX.start hown4
 rw[hbt]
 clear hbt hown4 hgr4 hb4
 go_wp2_with fail
 go_loopw [8,21] (fun _ s21 wr=>∃(i:Nat) (g c:Nat→Nat),i≤n∧s21 = .int .i64 (i:Int)∧Hid (MX wr W0.heap.size bt n n g c i (List.replicate i (List.replicate n 0)))∧Hid (Below W0.heap.size W0 wr)) (fun _ s21 _=>n - (intOf s21).toNat)
 case atStart=>exact ⟨0,_,_,by omega,rfl,HMX,HB4⟩
 case round =>
  obtain ⟨i,g,c,hi1,rfl,hM,hB⟩:=hrel
  clear HMX HB4
  by_cases hlt:i<n
  ·have hii:(i:Int)<(n:Int):=by omega
   go_upto_region 7 with (refine wpList_make_full _ rfl _ _ 22 rfl wr.heap.size 3 j0 (.int .i64 0) 1 Tryz.underlying22 hj hx0 hx1 _ _ _ _ n rfl rfl (by simp) (by simp) (by rw[hx2];omega) (by unfold maxLen;omega) (Nat.le_refl _) ?_;intro W5 hown5 hgr5;have hb5:Below wr.heap.size wr W5:=(Below.refl wr.heap.size wr).grown hgr5 (Nat.le_refl _) (fun k e=>by cases e);have hM5:=hM.out.keep hb5;have t4:=(hM5.tab hlt).1;have t2:=(hM5.tab hlt).2;have xb6:=hM5.blk;have t3:=xb6.2;rw[if_neg (Nat.lt_irrefl _)] at t4)
   rw[made_zr n] at hown5
   have hO5:OI W5 wr.heap.size wr.heap.size n n (List.replicate n 0):=⟨by simp,hown5⟩
   have HN:=Lib.hid (hM5.fill hlt (hO5.base hB.out.size) (by have:=hM.out.blk.2;omega) (fun j hj=>by have h1:=(hM.out.row j hj).blk.2;omega))
   have HBN:=Lib.hid ((keep_trans hB.out hb5).setCell (p:=⟨bt,i,none⟩) xb6.1 (.slice (some ⟨wr.heap.size,0,none⟩) n n))
   generalize (W5.setCell ⟨bt,i,none⟩ (.slice (some ⟨wr.heap.size,0,none⟩) n n))=w8 at HN HBN ⊢
   clear hM5 t2 t3 t4 xb6 hown5 hgr5 hb5 hO5
   go_wp2_with fail
   go_roundw
   case rel =>
    refine ⟨i+1,updF g i wr.heap.size,updF c i n,by omega,by go_num,?_,HBN⟩
    unfold Hid
    rw[List.replicate_succ']
    exact HN.out
   case measure=>simp[intOf];omega
  ·have e:n=i:=by omega
   subst e
   have HLM:Hid (LmI W0 wr.heap.size bt n g c cs X 0 (.slice none 0 0) [] (List.replicate n (List.replicate n 0)) wr):=⟨hM.out,⟨hM.out.blk.2,fun i hi=>(hM.out.row i hi).blk.2⟩,fun i j hi hj=>by
    unfold entL
    rw[List.getElem?_replicate,if_pos hi,Option.getD_some,List.getElem?_replicate,if_pos hj];rfl,TermI.nil _ _ _,LoomT.nil _ _ _,hB.out,Nat.le_refl _,hB.out.size⟩
   generalize wr.heap.size=Z at HLM
   have y0:=(hB.out.cell (p:=⟨w.heap.size,0,none⟩) xl).trans x0
   clear hM
   go_wp2_with fail
   clear y0
   go_loopw [9,10,11,12,13,14,31] (fun s9 _ _ _ _ _ s31 wr=>∃(x:Nat) (pre:List TermE) (m:List (List Int)),x≤n∧s31 = .int .i64 (x:Int)∧Hid (LmI W0 Z bt n g c cs X x s9 pre m wr)) (fun _ _ _ _ _ _ s31 _=>n - (intOf s31).toNat)
   case atStart=>exact ⟨0,[],_,by omega,rfl,HLM⟩
   case round =>
    obtain ⟨x,pre,m,hx1',rfl,hLm⟩:=hrel
    clear HLM
    obtain ⟨av,cv,hv⟩:=owns_shape2 hLm.out.tm.own
    subst hv
    by_cases hxn:x<n
    ·have hxi:(x:Int)<(n:Int):=by omega
     obtain ⟨q,hq1,hq2,hq3⟩:=loom_perm HL.out hxn
     have HQ1:=Lib.hid hq1
     have HQ2:=Lib.hid hq2
     have HQ3:=Lib.hid hq3
     clear hq1 hq2 hq3
     obtain ⟨y,hy⟩:∃y,wtL X x=y:=⟨_,rfl⟩
     have hyb:0≤y∧y≤19:=hy▸wtL_bd X x
     have HY:=Lib.hid hy
     clear hy
     go_upto_if 36 with fail
     go_cut [11] from 36 to 45 (fun s11 wx=>s11 = .int .i64 y∧wx=wr)
     case first =>
      by_cases hk0:¬0<k
      ·have e0:y=0:=by rw[← HY.out];unfold wtL;rw[if_pos (by rw[HXL.out];omega)]
       have hki:¬(0:Int)<(k:Int):=by omega
       subst e0
       go_wp2_with fail
       go_meet
       exact ⟨rfl,rfl⟩
      ·have hkp:0<k:=by omega
       have hki:(0:Int)<(k:Int):=by omega
       obtain ⟨r,hr⟩:∃r,r=x % k:=⟨_,rfl⟩
       have hrk:r<k:=by rw[hr];exact Nat.mod_lt _ hkp
       have hrm:(x:Int) % (k:Int)=(r:Int):=by rw[hr];omega
       have hri:(r:Int)<(k:Int):=by omega
       obtain ⟨⟨r0,r1⟩,b,off,rfl,hbl,hc⟩:=HX.out.2 r hrk
       have e0:y=(X[r]?.getD 0) % 20:=by rw[← HY.out];unfold wtL;rw[if_neg (by rw[HXL.out];omega),HXL.out,hr]
       generalize X[r]?.getD 0=z at r0 r1 hc e0
       have HZM:=Lib.hid e0.symm
       have hz1:=(hLm.out.base.cell (p:=⟨b,off+r,none⟩) (Nat.lt_of_lt_of_le hbl FL.out)).trans ((FB.out.cell (p:=⟨b,off+r,none⟩) hbl).trans hc)
       have hz2:b<wr.heap.size:=Nat.lt_of_lt_of_le hbl (Nat.le_trans FL.out hLm.out.base.size)
       clear hr e0
       go_wp2_with fail
       go_meet
       exact ⟨by rw[HZM.out],rfl⟩
     case rest =>
      obtain ⟨rfl,hwx⟩:=hcut
      subst hwx
      go_upto_region 16 with (refine wpList_make_full _ rfl _ _ 22 rfl wc.heap.size 3 j0 (.int .i64 0) 1 Tryz.underlying22 hj hx0 hx1 _ _ _ _ n rfl rfl (by simp) (by simp) (by rw[hx2];omega) (by unfold maxLen;omega) (Nat.le_refl _) ?_;intro W5 hown5 hgr5;have hb5:Below wc.heap.size wc W5:=(Below.refl wc.heap.size wc).grown hgr5 (Nat.le_refl _) (fun k e=>by cases e))
      rw[made_zr n] at hown5
      have hO5:OI W5 wc.heap.size wc.heap.size n n (List.replicate n 0):=⟨by simp,hown5⟩
      have zsz:(W5.alloc (.cells #[.slice (some ⟨wc.heap.size,0,none⟩) n n,.int .i64 y] 37)).heap.size=W5.heap.size+1:=by simp only[World.size_alloc]
      have zB:Below W5.heap.size W5 (W5.alloc (.cells #[.slice (some ⟨wc.heap.size,0,none⟩) n n,.int .i64 y] 37)):=(Below.refl _ _).alloc (Nat.le_refl _) _
      have zq0:(W5.alloc (.cells #[.slice (some ⟨wc.heap.size,0,none⟩) n n,.int .i64 y] 37)).heap[W5.heap.size]?=some (.cells #[.slice (some ⟨wc.heap.size,0,none⟩) n n,.int .i64 y] 37 (0,0)):=by have h:=World.alloc_heap_new W5 (.cells #[.slice (some ⟨wc.heap.size,0,none⟩) n n,.int .i64 y] 37);exact h
      generalize (W5.alloc (.cells #[.slice (some ⟨wc.heap.size,0,none⟩) n n,.int .i64 y] 37))=W6 at zsz zB zq0 ⊢
      have h5s:wc.heap.size<W5.heap.size:=by have:=hO5.blk.2;omega
      have hL6:=hLm.out.keep (keep_trans hb5 zB)
      have HCM:Hid (CmI W0 Z bt n g c wc.heap.size W5.heap.size y (.slice av pre.length cv) pre m (prow n q 0) W6):=by
       refine ⟨hL6.mx,hL6.bz,hL6.tm,?_,zq0,⟨hLm.out.z,h5s,fun e=>?_,fun e=>?_,fun y hy e=>?_⟩,hL6.base,hL6.z,hL6.wz⟩
       ·rw[prow_zero]
        exact (hO5.keep zB).base hLm.out.z
       ·have:=(hLm.out.tm.own.lt _ e).2;omega
       ·have:=(hLm.out.tm.own.lt _ e).2;omega
       ·have:=(hLm.out.tm.row y hy).1.blk.2;omega
      have HEM:Hid (EntM n m (loomV n cs (wtL X) x q 0)):=fun i j hi hj=>by rw[loomV_zero];exact hLm.out.ent i j hi hj
      have HLT:=Lib.hid hLm.out.lt
      have z2:=(hL6.base.cell (p:=⟨w.heap.size,2,none⟩) xl).trans x2
      have zl:=Nat.lt_of_lt_of_le xl hL6.base.size
      clear hL6 hO5 hown5 hgr5 hb5 zsz zB zq0 hLm h5s
      generalize wc.heap.size=gp at HCM ⊢
      generalize W5.heap.size=bx at HCM ⊢
      go_wp2_with fail
      clear z2 zl
      go_loopw [13,14,53] (fun _ _ s53 wr=>∃(cc:Nat) (m:List (List Int)),cc≤nc∧s53 = .int .i64 (cc:Int)∧Hid (CmI W0 Z bt n g c gp bx y (.slice av pre.length cv) pre m (prow n q cc) wr)∧Hid (EntM n m (loomV n cs (wtL X) x q cc))) (fun _ _ s53 _=>nc - (intOf s53).toNat)
      case atStart=>exact ⟨0,m,by omega,rfl,HCM,HEM⟩
      case round =>
       obtain ⟨cc,m2,hcc1,rfl,hC,hE⟩:=hrel
       clear HCM HEM
       by_cases hcn:cc<nc
       ·have hci:(cc:Int)<(nc:Int):=by omega
        obtain ⟨i,j,hin,hjn,hij⟩:∃i j,i<n∧j<n∧cc=i*n+j:=by
         have h1:=Nat.div_add_mod cc n
         rw[Nat.mul_comm] at h1
         have h4:=HNC.out
         rw[h4] at hcn
         exact ⟨cc / n,cc % n,Nat.div_lt_of_lt_mul hcn,Nat.mod_lt _ (by omega),h1.symm⟩
        have hdq:(cc:Int) / (n:Int)=(i:Int):=by
         rw[← Int.natCast_ediv]
         congr 1
         rw[hij,Nat.add_comm,Nat.add_mul_div_right _ _ (by omega),Nat.div_eq_of_lt hjn];omega
        have hdm:(cc:Int) % (n:Int)=(j:Int):=by
         rw[← Int.natCast_emod]
         congr 1
         rw[hij,Nat.add_comm,Nat.add_mul_mod_self_right,Nat.mod_eq_of_lt hjn]
        obtain ⟨b,off,rfl,hbl,hc⟩:=HCS.out.2 cc hcn
        have hc2:cs[cc]?.getD 0=(nat cs cc:Int)∧nat cs cc<n:=by
         have hm:cs[cc]?.getD 0∈cs:=by
          rw[List.getElem?_eq_getElem (by rw[HCS.out.len];exact hcn)]
          exact List.getElem_mem _
         have:=HL.out.num _ hm
         unfold nat
         omega
        have u0:=(hC.out.base.cell (p:=⟨b,off+cc,none⟩) (Nat.lt_of_lt_of_le hbl FL.out)).trans ((FB.out.cell (p:=⟨b,off+cc,none⟩) hbl).trans hc)
        have ul:b<wr.heap.size:=Nat.lt_of_lt_of_le hbl (Nat.le_trans FL.out hC.out.base.size)
        rw[hc2.1] at u0
        have hii:(i:Int)<(n:Int):=by omega
        have hji:(j:Int)<(n:Int):=by omega
        have hn0:(0:Int)<(n:Int):=by omega
        have HIJ:=Lib.hid hij
        have htn:=hc2.2
        have HT:Hid (nat cs cc=x↔q i=j):=by unfold Hid;rw[hij];exact HQ3.out i j hin hjn
        generalize nat cs cc=t at u0 htn HT
        clear hc hc2 hij
        by_cases htx:t=x
        ·have HQJ:=Lib.hid (HT.out.1 htx)
         subst htx
         clear HT
         have b0:wr.cell? ⟨bx,0,none⟩=some (.slice (some ⟨gp,0,none⟩) n n):=q_cell hC.out.box 0
         have bl:=q_lt hC.out.box
         obtain ⟨p1,p2,p3⟩:=hC.out.row.at (k:=i) hin
         go_upto_region 20 with fail
         refine wp_region_T (fun w'=>∃u,w'=over (wr) u) [0,2,3,4,5,6,7] [9] [(0,1),(0,8),(2,9)] (by kernel_rfl) (by kernel_rfl) (by exact ⟨_,below_over (by repeat (first|assumption|exact Below.refl _ _|refine keep_drew ?_|refine keep_alloc ?_ _|refine keep_trans ?_ (by assumption)))⟩) ?_
         dsimp only[pickF,nthOp]
         repeat (first|(refine wpF_skip rfl (fun K hK=>?_);go_big_quiet_op;refine hK _ ?_;clear hK K)|(refine wpF_quiet rfl rfl (fun K hK=>?_);go_big_quiet_op;refine hK _ ?_;clear hK K))
         refine wpF_end ?_
         dsimp only[pickOps,nthOp]
         repeat (first|(refine wpS_skip rfl (fun K hK=>?_);go_big_quiet_op;refine hK _ ?_;clear hK K)|(refine wpS_quiet rfl rfl (fun K hK=>?_);go_big_quiet_op;refine hK _ ?_;clear hK K))
         refine wpS_late _ _ _ rfl ?_
         dsimp only[List.map]
         go_wp2
         refine NoPanic.normal ?_
         have HC20:=Lib.hid ((hC.out.perm i (j:Int)).keep (keep_drew (Below.refl _ _)))
         generalize (wr.setCell ⟨gp,i,none⟩ (.int .i64 (j:Int))).drew=w20 at HC20 ⊢
         rw[HIJ.out,prow_set HQ1.out hin hjn HQJ.out] at HC20
         rw[← HIJ.out] at HC20
         clear b0 bl p1 p2 p3 hC
         obtain ⟨m1,m2',m3,m4,m5⟩:=HC20.out.mx.at (i:=i) (j:=j) hin hjn
         have heb:0≤entL m2 i j∧entL m2 i j≤38:=by
          rw[hE.out i j hin hjn]
          exact loomV_bd (wtL_bd X) _ _ _ _ _
         have HCN:=Lib.hid ((HC20.out.mat hin j (entL m2 i j+y)).keep (keep_drew (Below.refl _ _)))
         have HEN:Hid (EntM n (m2.set i ((m2[i]?.getD []).set j (entL m2 i j+y))) (loomV n cs (wtL X) t q (cc+1))):=fun i' j' hi' hj'=>by
          rw[entL_set (by rw[HC20.out.mx.len];exact hin) (by rw[HC20.out.mx.rlen hin];exact hjn),HIJ.out,loomV_hit hjn hj' HQJ.out]
          by_cases e:i'=i∧j'=j
          ·rw[if_pos e,if_pos e,hE.out i j hin hjn,HIJ.out,HY.out]
          ·rw[if_neg e,if_neg e,hE.out i' j' hi' hj',HIJ.out]
         generalize entL m2 i j=z at m3 heb HCN HEN
         clear hE
         go_upto_region 21 with fail
         refine wp_region_T (fun w'=>∃u,w'=over (w20) u) [0,1,2,3,4,6,7,8,11] [14] [(0,5),(0,9),(0,10),(0,12),(0,13),(2,14)] (by kernel_rfl) (by kernel_rfl) (by exact ⟨_,below_over (by repeat (first|assumption|exact Below.refl _ _|refine keep_drew ?_|refine keep_alloc ?_ _|refine keep_trans ?_ (by assumption)))⟩) ?_
         dsimp only[pickF,nthOp]
         repeat (first|(refine wpF_skip rfl (fun K hK=>?_);go_big_quiet_op;refine hK _ ?_;clear hK K)|(refine wpF_quiet rfl rfl (fun K hK=>?_);go_big_quiet_op;refine hK _ ?_;clear hK K))
         refine wpF_end ?_
         dsimp only[pickOps,nthOp]
         repeat (first|(refine wpS_skip rfl (fun K hK=>?_);go_big_quiet_op;refine hK _ ?_;clear hK K)|(refine wpS_quiet rfl rfl (fun K hK=>?_);go_big_quiet_op;refine hK _ ?_;clear hK K))
         refine wpS_late _ _ _ rfl ?_
         dsimp only[List.map]
         go_wp2
         refine NoPanic.normal ?_
         generalize (w20.setCell ⟨g i,j,none⟩ (.int .i64 (z+y))).drew=w21 at HCN ⊢
         clear m1 m2' m3 m4 m5 HC20
         go_wp2_with fail
         go_roundw
         case rel=>exact ⟨cc+1,_,by omega,by go_num,HCN,HEN⟩
         case measure=>simp[intOf];omega
        ·have hne:((t:Int)==(x:Int))=false:=by simp;omega
         have HPS:Hid (prow n q (cc+1)=prow n q cc):=by unfold Hid;rw[HIJ.out];exact prow_skip HQ1.out hjn (fun e=>htx (HT.out.2 e))
         have HES:Hid (EntM n m2 (loomV n cs (wtL X) x q (cc+1))):=fun i' j' hi' hj'=>by
          rw[hE.out i' j' hi' hj',HIJ.out,loomV_skip hjn hj' (fun e=>htx (HT.out.2 e))]
         go_wp2_with fail
         go_roundw
         case rel=>exact ⟨cc+1,m2,by omega,by go_num,by unfold Hid;rw[HPS.out];exact hC.out,HES⟩
         case measure=>simp[intOf];omega
       ·have e:nc=cc:=by omega
        subst e
        have hEF:EntM n m2 (loomU n cs (wtL X) (x+1)):=fun i j hi hj=>by
         rw[hE.out i j hi hj,HNC.out,loomV_end HQ3.out hi hj]
        have HEF:=Lib.hid hEF
        have hR:=hC.out.row
        rw[HNC.out,prow_end HQ1.out] at hR
        have HR:=Lib.hid hR
        clear hE hEF hR
        have hpl:pre.length≤5:=by have:=HLT.out.len;rw[List.length_map] at this;omega
        by_cases hy1':0<y
        ·have b0:wr.cell? ⟨bx,0,none⟩=some (.slice (some ⟨gp,0,none⟩) n n):=q_cell hC.out.box 0
         have b1:wr.cell? ⟨bx,1,none⟩=some (.int .i64 y):=q_cell hC.out.box 1
         have bl:=q_lt hC.out.box
         go_wp2_with (first|(at_builtin;refine wpList_append_own2 _ rfl _ _ 29 rfl 37 t0 (.agg #[.slice none 0 0,.int .i64 0]) 2 32 Tryz.underlying29 ht hy0 hy1 hy2 rfl (by decide) _ _ _ rfl (owns_base (hC.out.tm.own.alloc _) (Nat.zero_le _)) ⟨wr.heap.size,0,none⟩ 1 1 [.slice (some ⟨gp,0,none⟩) n n,.int .i64 y] rfl rfl (cell_new2 _ _ _ _) (by simp[Value.oneCell']) (by unfold maxLen;omega) (by omega) ?_;intro v7 w7 hown7 hgr7 hk7)|fail)
         have hs7:=grow_stays hgr7
         have hz2:=hC.out.z
         have hown7L:=own_lft hown7 (L:=Z) (fun j e=>(hk7 j e).elim (fun e2=>(hC.out.tm.own.lt j e2).1) (fun h=>by simp at h;omega))
         have hTN:=hC.out.tm.append (y:=((gp,n),((List.range n).map (fun i=>(q i:Int)),y))) HR.out hC.out.bb.2.2.1 hs7 hown7L (fun j e=>(hk7 j e).imp id (fun h=>by simp at h;omega))
         have hvz:∀k,(Value.slice av pre.length cv).ownBlock=some k→Z≤k:=fun k e=>(hC.out.tm.own.lt k e).1
         have hM7:=hC.out.mx.stay hs7 (fun e=>by have:=hvz _ e;have:=hC.out.bz.1;omega) (fun i hi e=>by have:=hvz _ e;have:=hC.out.bz.2 i hi;omega)
         have hB7:=hs7.below' (B:=W0.heap.size) (w0:=W0) hC.out.base.size hC.out.base (fun j e=>Nat.le_trans hC.out.wz (hvz j e))
         have hLN:=HLT.out.snoc (by rw[HY.out];omega) (by rw[HY.out];omega) HQ1.out HQ2.out HQ3.out
         rw[HY.out] at hLN
         refine ⟨⟨x+1,pre++[((gp,n),((List.range n).map (fun i=>(q i:Int)),y))],m2,by omega,by go_num,⟨hM7,hC.out.bz,HEF.out,hTN,?_,hB7,Nat.le_trans hz2 hs7.size,hC.out.wz⟩⟩,by simp[intOf];omega⟩
         rw[List.map_append,List.map_singleton]
         exact hLN
        ·have e0:wtL X x=0:=by rw[HY.out];omega
         have HN:Hid (LmI W0 Z bt n g c cs X (x+1) (.slice av pre.length cv) pre m2 wr):=⟨hC.out.mx,hC.out.bz,HEF.out,hC.out.tm,HLT.out.skip e0,hC.out.base,hC.out.z,hC.out.wz⟩
         go_wp2_with fail
         go_roundw
         case rel=>exact ⟨x+1,pre,m2,by omega,by go_num,HN⟩
         case measure=>simp[intOf];omega
    ·have e:n=x:=by omega
     subst e
     have HF:Hid (LoomO w n cs X (.returned (.tuple #[.slice (some ⟨bt,0,none⟩) n n,.slice av pre.length cv])) wr) :=
      ⟨bt,n,g,c,m,_,pre,rfl,hLm.out.mx.low FL.out,fun i j hi hj=>by rw[hLm.out.ent i j hi hj,loomU_end HL.out hi hj],hLm.out.tm.low (Nat.le_trans FL.out hLm.out.wz),hLm.out.lt,FB.out.trans (hLm.out.base.mono FL.out)⟩
     go_wp2_with fail
     refine bodyPost_ret (v := .tuple #[.slice (some ⟨bt,0,none⟩) n n,.slice av pre.length cv]) ?_ rfl HF
     simp[results,Tryz.f6,go_sem]
end
section
open Go Go.RowKit
attribute [local go_sem] over_cell
attribute [local go_sem] Oper.semAt_some
def fillF (F:Nat→Int) (n k:Nat):List Int:=(List.range n).map fun j=>if j<k then F j else 0
theorem fillF_zero (F:Nat→Int) (n:Nat):fillF F n 0=List.replicate n 0:=by
 apply List.ext_getElem?
 intro i
 by_cases h:i<n
 ·unfold fillF
  rw[List.getElem?_map,List.getElem?_range h,List.getElem?_replicate,if_pos h]
  show some (if i<0 then F i else 0)=_
  rw[if_neg (Nat.not_lt_zero _)]
 ·rw[List.getElem?_eq_none (by simp[fillF];omega),List.getElem?_eq_none (by simp;omega)]
theorem fillF_set (F:Nat→Int) {n k:Nat} (hk:k<n):(fillF F n k).set k (F k)=fillF F n (k+1):=by
 unfold fillF
 rw[rng_set _ hk]
 apply List.map_congr_left
 intro j _
 by_cases e:j=k
 ·subst e;rw[updF_same,if_pos (Nat.lt_succ_self _)]
 ·rw[updF_other _ _ e]
  by_cases h:j<k
  ·rw[if_pos h,if_pos (by omega)]
  ·rw[if_neg h,if_neg (by omega)]
theorem fillF_end (F:Nat→Int) (n:Nat):fillF F n n=(List.range n).map F:=by
 unfold fillF
 apply List.map_congr_left
 intro j hj
 rw[if_pos (List.mem_range.1 hj)]
theorem lcells_c (n:Nat) (hn:n≤1000) (fk:Nat) (caps:Array Value) (F:Nat→Int) (w:World)
  (hcf:∀args w,Sem.run Tryz.prog (callFunc fk args) w = .ok (.enter fk args) w)
  (hcl:∀k,k<n→∀w',Below w.heap.size w w'→Calls Tryz.prog fk (#[.int .i64 (k:Int)]++caps) w' (fun e w''=>e = .returned (.int .i64 (F k))∧Below w'.heap.size w' w'')) :
  Calls Tryz.prog 60 #[.int .i64 (n:Int),.func (.func fk) #[] caps] w fun e w'=>∃g,e = .returned (.slice (some ⟨g,0,none⟩) n n)∧OI w' w.heap.size g n n ((List.range n).map F)∧Below w.heap.size w w':=by
 obtain ⟨j0,hj,hx0,hx1,hx2⟩:=info_parts infoInt
 have HC:=Lib.hid hcl
 clear hcl
 go_enter Tryz.func60,Tryz.ntmps60
 go_upto_region 2 with (refine wpList_make_full _ rfl _ _ 22 rfl w.heap.size 3 j0 (.int .i64 0) 1 Tryz.underlying22 hj hx0 hx1 _ _ _ _ n rfl rfl (by simp) (by simp) (by rw[hx2];omega) (by unfold maxLen;omega) (Nat.le_refl _) ?_;intro W5 hown5 hgr5;have hb5:Below w.heap.size w W5:=(Below.refl w.heap.size w).grown hgr5 (Nat.le_refl _) (fun k e=>by cases e))
 rw[made_zr n] at hown5
 have HO5:Hid (OI W5 w.heap.size w.heap.size n n (fillF F n 0)):=by
  unfold Hid
  rw[fillF_zero]
  exact ⟨by simp,hown5⟩
 have HB5:=Lib.hid hb5
 obtain ⟨g,hg⟩:∃g,w.heap.size=g:=⟨_,rfl⟩
 have HO6:Hid (OI W5 w.heap.size g n n (fillF F n 0)):=by rw[← hg];exact HO5
 have HGE:Hid (w.heap.size≤g):=by rw[← hg];exact Nat.le_refl _
 rw[hg]
 clear hg HO5 hown5 hgr5 hb5
 go_wp2_with fail
 go_loopw [6,11] (fun _ s11 wr=>∃k:Nat,k≤n∧s11 = .int .i64 (k:Int)∧Hid (OI wr w.heap.size g n n (fillF F n k))∧Hid (Below w.heap.size w wr)) (fun _ s11 _=>n - (intOf s11).toNat)
 case atStart=>exact ⟨0,by omega,rfl,HO6,HB5⟩
 case round =>
  obtain ⟨k,hk,rfl,hO,hB⟩:=hrel
  clear HO6 HB5
  by_cases hlt:k<n
  ·have hki:(k:Int)<(n:Int):=by omega
   have hK:=Lib.hid (HC.out k hlt wr hB.out)
   have HS:=Lib.hid (fillF_set F hlt)
   go_upto_region 6 with (refine hK.out.mono ?_;rintro _ w1 ⟨rfl,hb1⟩;obtain ⟨p1,p2,p3⟩:=(hO.out.keep hb1).at hlt)
   have HN:=Lib.hid ((hO.out.keep hb1).set k (F k))
   have HBN:=Lib.hid ((keep_trans hB.out hb1).setCell (p:=⟨g,k,none⟩) HGE.out (.int .i64 (F k)))
   generalize (w1.setCell ⟨g,k,none⟩ (.int .i64 (F k)))=w2 at HN HBN ⊢
   rw[HS.out] at HN
   clear p1 p2 p3 hb1
   go_wp2_with fail
   go_roundw
   case rel=>exact ⟨k+1,by omega,by go_num,HN,HBN⟩
   case measure=>simp[intOf];omega
  ·have e:n=k:=by omega
   subst e
   have hF:=hO.out
   rw[fillF_end] at hF
   have HF:=Lib.hid hF
   clear hF hO
   go_wp2_with fail
   refine bodyPost_ret (v := .slice (some ⟨g,0,none⟩) n n) ?_ rfl ⟨g,rfl,HF.out,hB.out⟩
   simp[results,Tryz.f60,go_sem]
end
section
open Go Go.RowKit
attribute [local go_sem] over_cell
attribute [local go_sem] Oper.semAt_some
def lrowsL (n:Nat):List (List Int):=(List.range n).map fun i=>(List.range n).map fun j=>((n*i+j:Nat):Int)
def lcolsL (n:Nat):List (List Int):=(List.range n).map fun i=>(List.range n).map fun j=>((n*j+i:Nat):Int)
theorem take_rng {α:Type} (f:Nat→α) {n i:Nat} (hi:i<n):((List.range n).map f).take (i+1)=((List.range n).map f).take i++[f i]:=by
 rw[List.take_add_one,List.getElem?_map,List.getElem?_range hi];rfl
theorem enterLR1:∀args w,Sem.run Tryz.prog (callFunc 61 args) w = .ok (.enter 61 args) w:=by
 intro args w;kernel_rfl
theorem enterLC1:∀args w,Sem.run Tryz.prog (callFunc 62 args) w = .ok (.enter 62 args) w:=by
 intro args w;kernel_rfl
theorem lrows1_c (n i j b1 b2:Nat) (w:World) (hn:n≤16) (hi:i<n) (hj:j<n) (h1:w.cell? ⟨b1,0,none⟩=some (.int .i64 (n:Int))) (h2:w.cell? ⟨b2,0,none⟩=some (.int .i64 (i:Int))) :
  Calls Tryz.prog 61 #[.int .i64 (j:Int),.pointer (some ⟨b1,0,none⟩),.pointer (some ⟨b2,0,none⟩)] w fun e w'=>e = .returned (.int .i64 ((n*i+j:Nat):Int))∧Below w.heap.size w w':=by
 have hp:(n:Int)*(i:Int)=((n*i:Nat):Int):=(Int.natCast_mul _ _).symm
 have hb:n*i≤16*16:=Nat.mul_le_mul hn (by omega)
 generalize n*i=p at hp hb ⊢
 go_enter Tryz.func61,Tryz.ntmps61
 go_wp2
 go_ret
 exact ⟨by go_num,Below.refl _ _⟩
theorem lcols1_c (n i j b1 b2:Nat) (w:World) (hn:n≤16) (hi:i<n) (hj:j<n) (h1:w.cell? ⟨b1,0,none⟩=some (.int .i64 (n:Int))) (h2:w.cell? ⟨b2,0,none⟩=some (.int .i64 (i:Int))) :
  Calls Tryz.prog 62 #[.int .i64 (j:Int),.pointer (some ⟨b1,0,none⟩),.pointer (some ⟨b2,0,none⟩)] w fun e w'=>e = .returned (.int .i64 ((n*j+i:Nat):Int))∧Below w.heap.size w w':=by
 have hp:(n:Int)*(j:Int)=((n*j:Nat):Int):=(Int.natCast_mul _ _).symm
 have hb:n*j≤16*16:=Nat.mul_le_mul hn (by omega)
 generalize n*j=p at hp hb ⊢
 go_enter Tryz.func62,Tryz.ntmps62
 go_wp2
 go_ret
 exact ⟨by go_num,Below.refl _ _⟩
theorem lrow_push {W w7:World} {L B:Nat} {v v7 xv:Value} {pre:List (Value × List Int)} {xl:List Int} {o:Obj} (h:RowsI W noB L v pre) (hx:W.ownsRow B 3 1 xv xl.length (xl.map (Value.int .i64))) (hL:L≤B) (hv:∀k,v.ownBlock=some k→k<B)
  (h7:w7.ownsRow L 22 1 v7 (pre.length+1) (pre.map Prod.fst++[xv])) (hs7:Stays (fun k=>v.ownBlock=some k) (W.alloc o) w7) (hk:∀k,v7.ownBlock=some k→v.ownBlock=some k∨(W.alloc o).heap.size≤k):RowsI w7 noB L v7 (pre++[(xv,xl)]):=by
 have hb:Below W.heap.size W (W.alloc o):=(Below.refl _ _).alloc (Nat.le_refl _) _
 have hx2:=owns_keep hx (fun k _ hl=>hb.block k hl)
 exact RowsI.append (x:=(xv,xl)) (h.below hb) (fun k e=>e.elim) (owns_base hx2 hL) (fun k e=>⟨id,fun e2=>by have:=hv k e2;have:=(hx.lt k e).1;omega⟩) hs7 h7 hk
theorem lrows_c (n:Nat) (hn:n≤16) (w:World):Calls Tryz.prog 49 #[.int .i64 (n:Int),.int .i64 (n:Int)] w fun e w'=>∃v pre,e = .returned v∧RowsI w' noB w.heap.size v pre∧pre.map Prod.snd=lrowsL n∧Below w.heap.size w w':=by
 obtain ⟨i0,hi,hz0,hz1,hz2⟩:=info_parts infoRow
 have HLEN:Hid (∀i,i<n→(lrowsL n).take (i+1)=(lrowsL n).take i++[(List.range n).map fun j=>((n*i+j:Nat):Int)]):=fun i hi=>take_rng _ hi
 have HEND:Hid ((lrowsL n).take n=lrowsL n):=List.take_of_length_le (by simp[lrowsL])
 go_enter Tryz.func49,Tryz.ntmps49
 go_upto_region 1 with fail
 have fsz:(w.alloc (.cells #[.int .i64 (n:Int)] 3)).heap.size=w.heap.size+1:=by simp only[World.size_alloc]
 have fB:Below w.heap.size w (w.alloc (.cells #[.int .i64 (n:Int)] 3)):=(Below.refl _ _).alloc (Nat.le_refl _) _
 have fq0:(w.alloc (.cells #[.int .i64 (n:Int)] 3)).heap[w.heap.size]?=some (.cells #[.int .i64 (n:Int)] 3 (0,0)):=by have h:=World.alloc_heap_new w (.cells #[.int .i64 (n:Int)] 3);exact h
 generalize (w.alloc (.cells #[.int .i64 (n:Int)] 3))=W0 at fsz fB fq0 ⊢
 have Q0:=Lib.hid fq0
 have FB:=Lib.hid fB
 have FL:Hid (w.heap.size≤W0.heap.size):=fB.size
 have x0:W0.cell? ⟨w.heap.size,0,none⟩=some (.int .i64 (n:Int)):=q_cell fq0 0
 have xl:=q_lt fq0
 clear fq0 fsz fB
 go_wp2_with fail
 go_loopw [5,6,8] (fun s5 _ s8 wr=>∃(i:Nat) (pre:List (Value × List Int)),i≤n∧s8 = .int .i64 (i:Int)∧Hid (pre.length=i)∧Hid (RowsI wr noB W0.heap.size s5 pre)∧Hid (pre.map Prod.snd=(lrowsL n).take i)∧Hid (Below W0.heap.size W0 wr)) (fun _ _ s8 _=>n - (intOf s8).toNat)
 case atStart=>exact ⟨0,[],by omega,rfl,rfl,RowsI.nil _ _ _,rfl,Below.refl _ _⟩
 case round =>
  obtain ⟨i,pre,hi1,rfl,hpl,hR,hsnd,hB⟩:=hrel
  obtain ⟨av,cv,hv⟩:=owns_shape hR.out.1
  subst hv
  by_cases hlt:i<n
  ·have hii:(i:Int)<(n:Int):=by omega
   go_upto_region 5 with fail
   have zsz:(wr.alloc (.cells #[.int .i64 (i:Int)] 3)).heap.size=wr.heap.size+1:=by simp only[World.size_alloc]
   have zB:Below wr.heap.size wr (wr.alloc (.cells #[.int .i64 (i:Int)] 3)):=(Below.refl _ _).alloc (Nat.le_refl _) _
   have zq0:(wr.alloc (.cells #[.int .i64 (i:Int)] 3)).heap[wr.heap.size]?=some (.cells #[.int .i64 (i:Int)] 3 (0,0)):=by have h:=World.alloc_heap_new wr (.cells #[.int .i64 (i:Int)] 3);exact h
   generalize (wr.alloc (.cells #[.int .i64 (i:Int)] 3))=W1 at zsz zB zq0 ⊢
   have hb1:=keep_trans hB.out zB
   have hq1:=keepq hb1 Q0.out
   have HLC:=Lib.hid (lcells_c n (by omega) 61 #[.pointer (some ⟨w.heap.size,0,none⟩),.pointer (some ⟨wr.heap.size,0,none⟩)] (fun j=>((n*i+j:Nat):Int)) W1 enterLR1 (fun j hj W hb=>lrows1_c n i j w.heap.size wr.heap.size W hn hlt hj (q_cell (keepq hb hq1) 0) (q_cell (keepq hb zq0) 0)))
   have y0:W1.cell? ⟨w.heap.size,0,none⟩=some (.int .i64 (n:Int)):=q_cell hq1 0
   have yl:=q_lt hq1
   have HR1:=Lib.hid (hR.out.below zB)
   have HB1:=Lib.hid hb1
   have hplb:pre.length≤16:=by rw[hpl.out];omega
   have HVB:Hid (∀k,(Value.slice av pre.length cv).ownBlock=some k→k<W1.heap.size):=fun k e=>by have:=(hR.out.1.lt k e).2;omega
   clear hb1 hq1 zsz zB zq0
   go_wp2_with (first|(go_at_call 60;refine HLC.out.mono ?_;rintro _ w2 ⟨gx,rfl,hOx,hb2⟩;have hR2:=HR1.out.below hb2)|(at_builtin;refine wpList_append_own2 _ rfl _ _ 28 rfl 22 i0 (.slice none 0 0) 1 24 Tryz.underlying28 hi hz0 hz1 hz2 rfl (by decide) _ _ _ rfl (owns_base (hR2.1.alloc _) (Nat.zero_le _)) ⟨w2.heap.size,0,none⟩ 1 1 [.slice (some ⟨gx,0,none⟩) n n] rfl rfl (cell_one_new _ _ _) (by simp[Value.oneCell']) (by unfold maxLen;omega) (by omega) ?_;intro v7 w7 hown7 hgr7 hk7)|fail)
   have hs7:=grow_stays hgr7
   have hs7':Stays (fun k=>(Value.slice av pre.length cv).ownBlock=some k) (w2.alloc (.cells #[.slice (some ⟨gx,0,none⟩) n n] 22)) w7:=Stays.grown hgr7 (fun k e=>e)
   have hown7L:=own_lft hown7 (L:=W0.heap.size) (fun j e=>(hk7 j e).elim (fun e2=>(hR2.1.lt j e2).1) (fun h=>by have:=HB1.out.size;have:=hb2.size;simp at h;omega))
   have hRN:=lrow_push (xl:=(List.range n).map fun j=>((n*i+j:Nat):Int)) hR2 (by simpa using hOx.own) HB1.out.size HVB.out hown7L hs7' hk7
   have hBN:=hs7.below' (B:=W0.heap.size) (w0:=W0) (Nat.le_trans HB1.out.size hb2.size) (keep_trans HB1.out hb2) (fun j e=>(hR2.1.lt j e).1)
   refine ⟨⟨i+1,pre++[(_,_)],by omega,by go_num,?_,hRN,?_,hBN⟩,by simp[intOf];omega⟩
   ·unfold Hid;rw[List.length_append,hpl.out];rfl
   ·unfold Hid;rw[List.map_append,hsnd.out,HLEN.out i hlt];rfl
  ·have e:n=i:=by omega
   subst e
   have HS:=Lib.hid (hsnd.out.trans HEND.out)
   have HF:=Lib.hid ((hR.out).base FL.out)
   have HBF:=Lib.hid (keep_trans FB.out hB.out)
   clear hsnd hR hB
   go_wp2_with fail
   refine bodyPost_ret (v := .slice av pre.length cv) ?_ rfl ⟨_,pre,rfl,HF.out,HS.out,HBF.out⟩
   simp[results,Tryz.f49,go_sem]
theorem lcolumns_c (n:Nat) (hn:n≤16) (w:World):Calls Tryz.prog 50 #[.int .i64 (n:Int),.int .i64 (n:Int)] w fun e w'=>∃v pre,e = .returned v∧RowsI w' noB w.heap.size v pre∧pre.map Prod.snd=lcolsL n∧Below w.heap.size w w':=by
 obtain ⟨i0,hi,hz0,hz1,hz2⟩:=info_parts infoRow
 have HLEN:Hid (∀i,i<n→(lcolsL n).take (i+1)=(lcolsL n).take i++[(List.range n).map fun j=>((n*j+i:Nat):Int)]):=fun i hi=>take_rng _ hi
 have HEND:Hid ((lcolsL n).take n=lcolsL n):=List.take_of_length_le (by simp[lcolsL])
 go_enter Tryz.func50,Tryz.ntmps50
 go_upto_region 1 with fail
 have fsz:(w.alloc (.cells #[.int .i64 (n:Int)] 3)).heap.size=w.heap.size+1:=by simp only[World.size_alloc]
 have fB:Below w.heap.size w (w.alloc (.cells #[.int .i64 (n:Int)] 3)):=(Below.refl _ _).alloc (Nat.le_refl _) _
 have fq0:(w.alloc (.cells #[.int .i64 (n:Int)] 3)).heap[w.heap.size]?=some (.cells #[.int .i64 (n:Int)] 3 (0,0)):=by have h:=World.alloc_heap_new w (.cells #[.int .i64 (n:Int)] 3);exact h
 generalize (w.alloc (.cells #[.int .i64 (n:Int)] 3))=W0 at fsz fB fq0 ⊢
 have Q0:=Lib.hid fq0
 have FB:=Lib.hid fB
 have FL:Hid (w.heap.size≤W0.heap.size):=fB.size
 have x0:W0.cell? ⟨w.heap.size,0,none⟩=some (.int .i64 (n:Int)):=q_cell fq0 0
 have xl:=q_lt fq0
 clear fq0 fsz fB
 go_wp2_with fail
 go_loopw [5,6,8] (fun s5 _ s8 wr=>∃(i:Nat) (pre:List (Value × List Int)),i≤n∧s8 = .int .i64 (i:Int)∧Hid (pre.length=i)∧Hid (RowsI wr noB W0.heap.size s5 pre)∧Hid (pre.map Prod.snd=(lcolsL n).take i)∧Hid (Below W0.heap.size W0 wr)) (fun _ _ s8 _=>n - (intOf s8).toNat)
 case atStart=>exact ⟨0,[],by omega,rfl,rfl,RowsI.nil _ _ _,rfl,Below.refl _ _⟩
 case round =>
  obtain ⟨i,pre,hi1,rfl,hpl,hR,hsnd,hB⟩:=hrel
  obtain ⟨av,cv,hv⟩:=owns_shape hR.out.1
  subst hv
  by_cases hlt:i<n
  ·have hii:(i:Int)<(n:Int):=by omega
   go_upto_region 5 with fail
   have zsz:(wr.alloc (.cells #[.int .i64 (i:Int)] 3)).heap.size=wr.heap.size+1:=by simp only[World.size_alloc]
   have zB:Below wr.heap.size wr (wr.alloc (.cells #[.int .i64 (i:Int)] 3)):=(Below.refl _ _).alloc (Nat.le_refl _) _
   have zq0:(wr.alloc (.cells #[.int .i64 (i:Int)] 3)).heap[wr.heap.size]?=some (.cells #[.int .i64 (i:Int)] 3 (0,0)):=by have h:=World.alloc_heap_new wr (.cells #[.int .i64 (i:Int)] 3);exact h
   generalize (wr.alloc (.cells #[.int .i64 (i:Int)] 3))=W1 at zsz zB zq0 ⊢
   have hb1:=keep_trans hB.out zB
   have hq1:=keepq hb1 Q0.out
   have HLC:=Lib.hid (lcells_c n (by omega) 62 #[.pointer (some ⟨w.heap.size,0,none⟩),.pointer (some ⟨wr.heap.size,0,none⟩)] (fun j=>((n*j+i:Nat):Int)) W1 enterLC1 (fun j hj W hb=>lcols1_c n i j w.heap.size wr.heap.size W hn hlt hj (q_cell (keepq hb hq1) 0) (q_cell (keepq hb zq0) 0)))
   have y0:W1.cell? ⟨w.heap.size,0,none⟩=some (.int .i64 (n:Int)):=q_cell hq1 0
   have yl:=q_lt hq1
   have HR1:=Lib.hid (hR.out.below zB)
   have HB1:=Lib.hid hb1
   have hplb:pre.length≤16:=by rw[hpl.out];omega
   have HVB:Hid (∀k,(Value.slice av pre.length cv).ownBlock=some k→k<W1.heap.size):=fun k e=>by have:=(hR.out.1.lt k e).2;omega
   clear hb1 hq1 zsz zB zq0
   go_wp2_with (first|(go_at_call 60;refine HLC.out.mono ?_;rintro _ w2 ⟨gx,rfl,hOx,hb2⟩;have hR2:=HR1.out.below hb2)|(at_builtin;refine wpList_append_own2 _ rfl _ _ 28 rfl 22 i0 (.slice none 0 0) 1 24 Tryz.underlying28 hi hz0 hz1 hz2 rfl (by decide) _ _ _ rfl (owns_base (hR2.1.alloc _) (Nat.zero_le _)) ⟨w2.heap.size,0,none⟩ 1 1 [.slice (some ⟨gx,0,none⟩) n n] rfl rfl (cell_one_new _ _ _) (by simp[Value.oneCell']) (by unfold maxLen;omega) (by omega) ?_;intro v7 w7 hown7 hgr7 hk7)|fail)
   have hs7:=grow_stays hgr7
   have hs7':Stays (fun k=>(Value.slice av pre.length cv).ownBlock=some k) (w2.alloc (.cells #[.slice (some ⟨gx,0,none⟩) n n] 22)) w7:=Stays.grown hgr7 (fun k e=>e)
   have hown7L:=own_lft hown7 (L:=W0.heap.size) (fun j e=>(hk7 j e).elim (fun e2=>(hR2.1.lt j e2).1) (fun h=>by have:=HB1.out.size;have:=hb2.size;simp at h;omega))
   have hRN:=lrow_push (xl:=(List.range n).map fun j=>((n*j+i:Nat):Int)) hR2 (by simpa using hOx.own) HB1.out.size HVB.out hown7L hs7' hk7
   have hBN:=hs7.below' (B:=W0.heap.size) (w0:=W0) (Nat.le_trans HB1.out.size hb2.size) (keep_trans HB1.out hb2) (fun j e=>(hR2.1.lt j e).1)
   refine ⟨⟨i+1,pre++[(_,_)],by omega,by go_num,?_,hRN,?_,hBN⟩,by simp[intOf];omega⟩
   ·unfold Hid;rw[List.length_append,hpl.out];rfl
   ·unfold Hid;rw[List.map_append,hsnd.out,HLEN.out i hlt];rfl
  ·have e:n=i:=by omega
   subst e
   have HS:=Lib.hid (hsnd.out.trans HEND.out)
   have HF:=Lib.hid ((hR.out).base FL.out)
   have HBF:=Lib.hid (keep_trans FB.out hB.out)
   clear hsnd hR hB
   go_wp2_with fail
   refine bodyPost_ret (v := .slice av pre.length cv) ?_ rfl ⟨_,pre,rfl,HF.out,HS.out,HBF.out⟩
   simp[results,Tryz.f50,go_sem]
end
section
open Go Go.RowKit
attribute [local go_sem] over_cell
attribute [local go_sem] Oper.semAt_some
theorem zerosR_len (m:Nat):(Builtin.zeroCells #[.slice none 0 0] m).size=m:=by simp[Builtin.zeroCells]
theorem rgrow_c (m:Nat) (w:World) (hm:m≤1000000) :
  Calls Tryz.prog 59 #[.slice none 0 0,.int .i64 (m:Int)] w fun e w'=>∃v,e = .returned v∧w'.ownsRow w.heap.size 22 1 v 0 []∧Below w.heap.size w w':=by
 obtain ⟨i0,hi,hz0,hz1,hz2⟩:=info_parts infoRow
 have h1:¬((m:Int)<0):=by omega
 by_cases h0:m=0
 ·subst h0
  go_enter Tryz.func59,Tryz.ntmps59
  go_wp2
  go_ret
  exact ⟨_,rfl,World.ownsRow_nil _ _ _ _,Below.refl _ _⟩
 ·have hpos:(m:Int)>0:=by omega
  have hr:=Go.Lib.run_append_nil_zeros (P:=Tryz.prog) w 28 3 28 22 i0 (.slice none 0 0) .i64 .i64 Tryz.underlying28 Tryz.underlying3 hi hz0 m (by omega) (by omega) (by omega) (by rw[hz2];omega)
  go_enter Tryz.func59,Tryz.ntmps59
  go_wp2_with (at_builtin;refine Lib.wpList_append_run _ rfl _ _ _ _ rfl _ _ rfl rfl _ _ hr ?_)
  go_ret
  refine ⟨_,rfl,⟨rfl,.inr ⟨w.heap.size,grownCap w m 0 22,_,rfl,Nat.le_refl _,World.alloc_heap_new _ _,Nat.zero_le _,?_,?_,rfl⟩⟩,((Below.refl _ _).drew.alloc (Nat.le_refl _) _)⟩
  ·exact grownCap_le_maxLen _ _ _ _ (by unfold maxLen;omega)
  ·have:=grownCap_ge w m 0 22
   rw[Array.size_append]
   rw[zerosR_len,zerosR_len];omega
def catX (xF:Nat→List (List Int)):Nat→List (List Int)
 | 0=>[]
 | k+1=>catX xF k++xF k
theorem catX_le (xF:Nat→List (List Int)) (k m:Nat) (h:k≤m):(catX xF k).length≤(catX xF m).length:=by
 induction m with
 | zero=>rw[show k=0 by omega];exact Nat.le_refl _
 | succ m ih =>
  by_cases e:k=m+1
  ·subst e;exact Nat.le_refl _
  ·have:=ih (by omega)
   show _≤(catX xF m++xF m).length
   rw[List.length_append];omega
theorem rconcat_c (b m cap:Nat) (aF:Nat→Option Addr) (nF cF:Nat→Nat) (xF:Nat→List (List Int)) (w:World) (hb:b<w.heap.size) (hcell:∀k,k<m→w.cell? ⟨b,k,none⟩=some (.slice (aF k) (nF k) (cF k)))
  (hrc:∀k,k<m→RC w (aF k) (nF k) (xF k)) (hm:m≤100) (htot:(catX xF m).length≤1000) :
  Calls Tryz.prog 48 #[.slice (some ⟨b,0,none⟩) m cap] w fun e w'=>∃v vs,e = .returned v∧w'.ownsRow w.heap.size 22 1 v (catX xF m).length vs∧RV w' vs (catX xF m)∧Below w.heap.size w w':=by
 obtain ⟨i0,hi,hz0,hz1,hz2⟩:=info_parts infoRow
 have HC:=Lib.hid hcell
 have HR:=Lib.hid hrc
 have HS:Hid (∀k,k<m→(catX xF (k+1)).length=(catX xF k).length+nF k):=fun k hk=>by
  show (catX xF k++xF k).length=_
  rw[List.length_append,(hrc k hk).1.1]
 have HB:Hid (∀k,k≤m→(catX xF k).length≤1000):=fun k hk=>Nat.le_trans (catX_le xF k m hk) htot
 clear hcell hrc htot
 go_enter Tryz.func48,Tryz.ntmps48
 go_wp2
 go_loop [3,5,11] (fun s _ i=>∃k:Nat,k≤m∧i = .int .i64 k∧s = .int .i64 ((catX xF k).length:Int)) (fun _ _ i=>m - (intOf i).toNat)
 case atStart=>exact ⟨0,by omega,rfl,rfl⟩
 case round =>
  obtain ⟨k,hk,rfl,rfl⟩:=hrel
  have hbk:=HB.out k hk
  by_cases hlt:k<m
  ·have hc:=HC.out k hlt
   have hbk1:=HB.out (k+1) hlt
   have HL:=Lib.hid (HS.out k hlt)
   rw[HL.out] at hbk1
   generalize aF k=a1 at hc
   generalize cF k=c1 at hc
   generalize nF k=n1 at hc hbk1 HL
   generalize (catX xF k).length=t at hbk hbk1 HL ⊢
   have hneg:¬((t:Int)+(n1:Int)<0):=by omega
   go_wp2
   go_round
   case rel=>exact ⟨k+1,by omega,by go_num,by rw[HL.out];go_num⟩
   case measure=>simp[intOf];omega
  ·have e:k=m:=by omega
   subst e
   have HG:=Lib.hid (rgrow_c (catX xF k).length w (by omega))
   go_wp2_with fail
   refine HG.out.mono ?_
   rintro _ w1 ⟨v1,rfl,hown1,hb1⟩
   have HO1:=Lib.hid hown1
   have HB1:=Lib.hid hb1
   clear hown1 hb1 HG
   go_wp2_with fail
   go_loopw [6,8,27] (fun ov _ iv wr=>∃(j:Nat) (vs:List Value),j≤k∧iv = .int .i64 j∧Hid (wr.ownsRow w.heap.size 22 1 ov (catX xF j).length vs)∧Hid (RV w vs (catX xF j))∧Hid (Below w.heap.size w wr)) (fun _ _ iv _=>k - (intOf iv).toNat)
   case atStart=>exact ⟨0,[],by omega,rfl,HO1.out,⟨rfl,fun k hk=>absurd hk (Nat.not_lt_zero _)⟩,HB1.out⟩
   case round =>
    obtain ⟨j,vs,hj,rfl,hown,hrv,hbr⟩:=hrel
    have hbj:=HB.out j hj
    obtain ⟨ao,co,hv⟩:=owns_shape hown.out
    subst hv
    by_cases hlt2:j<k
    ·have hji:(j:Int)<(k:Int):=by omega
     have hc0:wr.cell? ⟨b,j,none⟩=some (.slice (aF j) (nF j) (cF j)):=(hbr.out.cell (p:=⟨b,j,none⟩) hb).trans (HC.out j hlt2)
     have hbl:b<wr.heap.size:=Nat.lt_of_lt_of_le hb hbr.out.size
     obtain ⟨vs2,hs2,hr2,hl2⟩:=rc_vals (HR.out j hlt2)
     have HSRC:=Lib.hid (hs2.mono hbr.out)
     have HRV2:=Lib.hid hr2
     have HNL:=Lib.hid hl2
     have HONE:=Lib.hid hr2.one
     have HL:=Lib.hid (HS.out j hlt2)
     have hbj1:=HB.out (j+1) hlt2
     rw[HL.out] at hbj1
     generalize aF j=a1 at hc0 HSRC
     generalize cF j=c1 at hc0
     generalize nF j=n1 at hc0 hbj1 HL HSRC HNL
     clear hs2 hr2 hl2
     go_wp2_with (first|(at_builtin;refine wpList_append_any _ rfl _ _ 28 rfl w.heap.size 22 i0 (.slice none 0 0) 24 Tryz.underlying28 hi hz0 hz1 hz2 rfl _ _ _ rfl hown.out hbr.out.size _ _ _ vs2 rfl HNL.out HSRC.out HONE.out (by unfold maxLen;omega) (by omega) ?_;intro v5 w5 hown5 hst5 _)|fail)
     have hb5:Below w.heap.size w w5:=hbr.out.trans (hst5.below hbr.out.size (fun k e=>(hown.out.lt k e).1))
     rw[← HL.out] at hown5
     go_roundw
     case rel=>exact ⟨j+1,_,by omega,by go_num,hown5,hrv.out.app HRV2.out,hb5⟩
     case measure=>simp[intOf];omega
    ·have e:j=k:=by omega
     subst e
     go_wp2_with fail
     refine bodyPost_ret (v := .slice ao _ co) ?_ rfl ⟨_,vs,rfl,hown.out,hrv.out.mono hbr.out,hbr.out⟩
     simp[results,Tryz.f48,go_sem]
end
section
open Go Go.RowKit Go.Shelf
attribute [local go_sem] over_cell
attribute [local go_sem] Oper.semAt_some
theorem infoTxt:(Tryz.prog.info? 9).map (fun i=>(i.zero,i.size,i.bytes))=some (some (.string ⟨#[]⟩),1,16):=by kernel_rfl
def strN (x:Int):ByteArray:=⟨(Lib.decDigits x.toNat).toArray⟩
def textL (xs:List Int):ByteArray:=⟨(Lib.join ((xs.map strN).map (·.data.toList)) [32]).toArray⟩
theorem dec_len (i:Nat) (h:i<100):(Lib.decDigits i).length≤2:=by
 unfold Lib.decDigits
 split
 ·simp
 ·rename_i h2
  rw[List.length_append]
  unfold Lib.decDigits
  rw[dif_pos (by omega)]
  simp
theorem joinT_len (sep:List UInt8):∀r:List (List UInt8),(∀x,x∈r→x.length≤2)→(Lib.joinTail sep r).length≤r.length*(sep.length+2):=by
 intro r
 induction r with
 | nil=>intro _;simp[Lib.joinTail]
 | cons x r ih =>
  intro h
  have h1:=ih (fun y hy=>h y (List.mem_cons_of_mem _ hy))
  have h2:=h x List.mem_cons_self
  unfold Lib.joinTail at h1 ⊢
  rw[List.map_cons,List.flatten_cons,List.length_append,List.length_append,List.length_cons,Nat.add_mul]
  omega
theorem textL_len (xs:List Int) (h:∀x,x∈xs→0≤x∧x<100):(Lib.join ((xs.map strN).map (·.data.toList)) [32]).length≤2+xs.length*3:=by
 cases xs with
 | nil=>simp[Lib.join]
 | cons x xs =>
  rw[List.map_cons,List.map_cons,Lib.join_cons,List.length_append,List.length_cons]
  have h1:=joinT_len [32] ((xs.map strN).map (·.data.toList)) (fun y hy=>by
   obtain ⟨s,hs,rfl⟩:=List.mem_map.1 hy
   obtain ⟨z,hz,rfl⟩:=List.mem_map.1 hs
   have:=h z (List.mem_cons_of_mem _ hz)
   simp only[strN]
   exact dec_len _ (by omega))
  have h2:=h x List.mem_cons_self
  have h3:(strN x).data.toList.length≤2:=by
   simp only[strN]
   exact dec_len _ (by omega)
  rw[List.length_map,List.length_map] at h1
  simp only[List.length_cons,List.length_nil] at h1
  omega
theorem ltext_c (a:Option Addr) (n c:Nat) (xs:List Int) (w:World) (h:IC w a n xs) (h1:1≤n) (h2:n≤1000) (hx:∀x,x∈xs→0≤x∧x<100) :
  Calls Tryz.prog 67 #[.slice a n c] w fun e w'=>e = .returned (.string (textL xs))∧Below w.heap.size w w':=by
 obtain ⟨i0,hi,hz0,hz1,hz2⟩:=info_parts infoTxt
 have HIC:=Lib.hid h
 have HLEN:=Lib.hid (textL_len xs hx)
 have HX:=Lib.hid hx
 have HXL:Hid (xs.length=n):=h.1.1
 clear h hx
 go_enter Tryz.func67,Tryz.ntmps67
 go_wp2_with fail
 go_loopw [3,5,8] (fun s3 _ s8 wr=>∃k:Nat,k≤n∧s8 = .int .i64 (k:Int)∧Hid (wr.ownsRow w.heap.size 9 1 s3 k ((xs.take k).map fun x => .string (strN x)))∧Hid (Below w.heap.size w wr)) (fun _ _ s8 _=>n - (intOf s8).toNat)
 case atStart=>exact ⟨0,by omega,rfl,World.ownsRow_nil _ _ _ _,Below.refl _ _⟩
 case round =>
  obtain ⟨k,hk,rfl,hO,hB⟩:=hrel
  obtain ⟨av,cv,hv⟩:=owns_shape hO.out
  subst hv
  by_cases hlt:k<n
  ·have hki:(k:Int)<(n:Int):=by omega
   obtain ⟨b,off,rfl,hbl,hc⟩:=(HIC.out.mono hB.out).2 k hlt
   have hm:xs[k]?.getD 0∈xs:=by
    rw[List.getElem?_eq_getElem (by rw[HXL.out];exact hlt)]
    exact List.getElem_mem _
   have hxb:=HX.out _ hm
   have HT:Hid (xs.take (k+1)=xs.take k++[xs[k]?.getD 0]):=by
    unfold Hid
    rw[List.take_add_one,List.getElem?_eq_getElem (by rw[HXL.out];exact hlt)];rfl
   obtain ⟨t,ht⟩:∃t:Nat,xs[k]?.getD 0=(t:Int):=⟨(xs[k]?.getD 0).toNat,by omega⟩
   rw[ht] at hc hxb HT
   have ht100:t<100:=by omega
   have HI:=Lib.hid (Any.strconv_Itoa_small itoaA t ht100 wr)
   clear hm ht
   go_wp2_with (first|(go_at_call 76;refine HI.out.mono ?_;rintro _ w2 ⟨rfl,rfl⟩)|(at_builtin;refine wpList_append_own2 _ rfl _ _ 63 rfl 9 i0 (.string ⟨#[]⟩) 1 16 Tryz.underlying63 hi hz0 hz1 hz2 rfl (by decide) _ _ _ rfl (owns_base (hO.out.alloc _) (Nat.zero_le _)) ⟨w2.heap.size,0,none⟩ 1 1 [.string ⟨(Lib.decDigits t).toArray⟩] rfl rfl (cell_one_new _ _ _) (by simp[Value.oneCell']) (by unfold maxLen;omega) (by omega) ?_;intro v7 w7 hown7 hgr7 hk7)|fail)
   have hs7:=grow_stays hgr7
   have hown7L:=own_lft hown7 (L:=w.heap.size) (fun j e=>(hk7 j e).elim (fun e2=>(hO.out.lt j e2).1) (fun h=>by have:=hB.out.size;simp at h;omega))
   have hBN:=hs7.below' (B:=w.heap.size) (w0:=w) hB.out.size hB.out (fun j e=>(hO.out.lt j e).1)
   refine ⟨⟨k+1,by omega,by go_num,?_,hBN⟩,by simp[intOf];omega⟩
   unfold Hid
   rw[HT.out,List.map_append]
   exact hown7L
  ·have e:n=k:=by omega
   subst e
   have hO2:=hO.out
   rw[show xs.take n=xs from List.take_of_length_le (by rw[HXL.out];exact Nat.le_refl _)] at hO2
   rcases hO2.2 with ⟨e,e2⟩|⟨g,cap,cur,hv,hg,hh,hnc,hcm,hsz,htk⟩
   ·omega
   ·simp only[Value.slice.injEq] at hv
    obtain ⟨rfl,_,rfl⟩:=hv
    have hglt:g<wr.heap.size:=q_lt hh
    have hat:∀(j:Nat) x,(xs.map strN)[j]?=some x→wr.cell? ⟨g,0+j,none⟩=some (.string x):=fun j x hx=>by
     have hj:j<n:=by
      have:=List.getElem?_eq_some_iff.1 hx
      obtain ⟨h3,_⟩:=this
      rw[List.length_map,HXL.out] at h3
      exact h3
     rw[Nat.zero_add,cell_of_row wr g j cur _ (0,0) hh]
     have h4:(xs.map fun x=>Value.string (strN x))[j]?=some (.string x):=by
      rw[List.getElem?_map] at hx ⊢
      cases hxj:xs[j]? with
      | none=>rw[hxj] at hx;cases hx
      | some y=>rw[hxj] at hx;simp at hx ⊢;exact hx
     rw[← htk,List.getElem?_take,if_pos (by omega)] at h4
     simpa using h4
    have HJ:=Any.strings_Join joinA joinX g 0 _ (xs.map strN) ⟨#[32]⟩ wr hat hglt (by rw[List.length_map,HXL.out];omega) (by rw[List.length_map,HXL.out];exact hnc) (by have:=HLEN.out;rw[HXL.out] at this;refine Nat.le_trans this ?_;omega)
    rw[List.length_map,HXL.out] at HJ
    have HJ2:=Lib.hid HJ
    clear HJ hat hO2 hO hh htk
    go_wp2_with (first|(go_at_call 77;refine HJ2.out.mono ?_;rintro _ w2 ⟨rfl,hb2⟩)|fail)
    refine bodyPost_ret (v := .string (textL xs)) ?_ rfl ⟨rfl,keep_trans hB.out hb2⟩
    simp[results,Tryz.f67,go_sem,textL]
end
end Go.Proofs.YtpkghjoippcjeaaGreatDoor
