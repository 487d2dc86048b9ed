/- Texts J209 to J212 of this proof, in one file. -/
import Derived.Test.YtpkghjoippcjeaaGreatDoorW39
import Derived.Test.YtpkghjoippcjeaaGreatDoorW63
import Derived.Test.YtpkghjoippcjeaaGreatDoorW65
namespace Go.Proofs.YtpkghjoippcjeaaGreatDoor
set_option maxRecDepth 100000
set_option maxHeartbeats 16000000
section
open Go Go.RowKit
attribute [local go_sem] over_cell
attribute [local go_sem] Oper.semAt_some
theorem infoTerm:(Tryz.prog.info? 37).map (fun i=>(i.zero,i.size,i.bytes))=some (some (.agg #[.slice none 0 0,.int .i64 0]),2,32):=by kernel_rfl
theorem cell_new2 (w:World) (x0 x1:Value) (T:TypeId):∀j u,[x0,x1][j]?=some u→(w.alloc (.cells #[x0,x1] T)).cell? ((⟨w.heap.size,0,none⟩:Addr).add j)=some u:=by
 intro j u hu
 have hq:=World.alloc_heap_new w (.cells #[x0,x1] T)
 match j,hu with
 | 0,hu=>cases hu;exact q_cell hq 0
 | 1,hu=>cases hu;exact q_cell hq 1
theorem made_nilr (n:Nat):(madeCells (Value.slice none 0 0).cells (n*1)).toList=List.replicate n (.slice none 0 0):=by
 apply List.ext_getElem?
 intro i
 by_cases h:i<n
 ·simp[madeCells,h,Value.cells,Nat.mod_one]
 ·simp[madeCells,h]
def sumX (T:List (List Int × Int)):Int:=(T.map (·.2)).sum
theorem sumX_snoc (T:List (List Int × Int)) (t:List Int × Int):sumX (T++[t])=sumX T+t.2:=by
 unfold sumX;rw[List.map_append,List.sum_append];simp
def lessTo (M:Nat→Nat→Int) (p:List Int) (x:Int) (i i' j':Nat):Int:=if i'<i then lessP M (permF p) x i' j' else M i' j'
structure BkI (w:World) (Z bt n:Nat) (g c:Nat→Nat) (M:Nat→Nat→Int) (v:Value) (pre:List TermE) (m:List (List Int)) (W:World):Prop where
 mx:MX W w.heap.size bt n n g c n m
 bz:bt<Z∧∀i,i<n→g i<Z
 tm:TermI n W Z v pre
 bir:BirT n M (pre.map (·.2))
 tim:∀t,t∈pre.map (·.2)→1≤t.2∧t.2≤1000
 base:Below w.heap.size w W
 z:Z≤W.heap.size
def EntM (n:Nat) (m:List (List Int)) (M:Nat→Nat→Int):Prop:=∀i j,i<n→j<n→entL m i j=M i j
theorem BkI.keep {w:World} {Z bt n:Nat} {g c:Nat→Nat} {M:Nat→Nat→Int} {v:Value} {pre:List TermE} {m:List (List Int)} {W W':World} (h:BkI w Z bt n g c M v pre m W) (hb:Below W.heap.size W W'):BkI w Z bt n g c M v pre m W' :=
 ⟨h.mx.keep hb,h.bz,h.tm.keep hb,h.bir,h.tim,keep_trans h.base hb,Nat.le_trans h.z hb.size⟩
theorem BkI.set {w:World} {Z bt n:Nat} {g c:Nat→Nat} {M:Nat→Nat→Int} {v:Value} {pre:List TermE} {m:List (List Int)} {W:World} (h:BkI w Z bt n g c M v pre m W) {i:Nat} (hi:i<n) (j:Nat) (x:Int):BkI w Z bt n g c M v pre (m.set i ((m[i]?.getD []).set j x)) (W.setCell ⟨g i,j,none⟩ (.int .i64 x)) :=
 ⟨h.mx.set hi j x,h.bz,h.tm.stay (Stays.setCell (S:=fun k=>k=g i) W (p:=⟨g i,j,none⟩) rfl _) (fun k e e2=>by have h1:=(h.tm.own.lt k e).1;have h2:=h.bz.2 i hi;have e3:k=g i:=e2;omega) (fun y hy e2=>by have h1:=(h.tm.row y hy).1.blk.1;have h2:=h.bz.2 i hi;have e3:y.1.1=g i:=e2;omega),h.bir,h.tim,
  h.base.setCell (p:=⟨g i,j,none⟩) (h.mx.row i hi).blk.1 _,by simpa using h.z⟩
def BirkO (w:World) (n:Nat) (M:Nat→Nat→Int) (S:Int) (e:Ending) (w':World):Prop :=
 ∃(v:Value) (pre:List TermE),e = .returned (.tuple #[v,.int .i64 0])∧TermI n w' w.heap.size v pre∧BirT n M (pre.map (·.2))∧(∀t,t∈pre.map (·.2)→1≤t.2∧t.2≤1000)∧sumX (pre.map (·.2))=S∧Below w.heap.size w w'
def LowI (n:Nat) (M:Nat→Nat→Int) (p:List Int) (i:Nat) (x:Int):Prop:=(∀i',i'<i→x≤M i' (permF p i'))∧∃i',i'<n∧x=M i' (permF p i')
theorem LowI.step {n:Nat} {M:Nat→Nat→Int} {p:List Int} {i:Nat} {x:Int} (h:LowI n M p i x) (hi:i<n):LowI n M p (i+1) (min x (M i (permF p i))):=by
 refine ⟨fun i' h1=>?_,?_⟩
 ·rcases Nat.lt_or_ge i' i with h2|h2
  ·have:=h.1 i' h2;omega
  ·rw[show i'=i by omega];omega
 ·rcases Int.le_total x (M i (permF p i)) with h1|h1
  ·rw[Int.min_eq_left h1];exact h.2
  ·rw[Int.min_eq_right h1];exact ⟨i,hi,rfl⟩
theorem own_lft {W:World} {L n size:Nat} {e:TypeId} {v:Value} {xs:List Value} (h:W.ownsRow 0 e size v n xs) (hk:∀k,v.ownBlock=some k→L≤k):W.ownsRow L e size v n xs:=by
 refine ⟨h.1,h.2.imp id ?_⟩
 rintro ⟨g,cap,cur,h1,h2,h3⟩
 exact ⟨g,cap,cur,h1,hk g (by rw[h1];rfl),h3⟩
theorem OI.up {W:World} {B B' g n cap:Nat} {xs:List Int} (h:OI W B g n cap xs) (hb:B'≤g):OI W B' g n cap xs :=
 ⟨h.len,own_lft (owns_base h.own (Nat.zero_le _)) (fun k e=>by cases e;exact hb)⟩
theorem birk_c (n:Nat) (h2:2≤n) (h5:n≤5) (a:Option Addr) (ca:Nat) (ls:List (List Int)) (S:Int) (w:World) (h:RC w a n ls) (hrow:∀i,i<n→(ls[i]?.getD []).length=n) (hs:SumW n S (entL ls)) (hS:S≤1000) :
  Calls Tryz.prog 7 #[.slice a n ca] w (BirkO w n (entL ls) S):=by
 obtain ⟨i0,hi,hz0,hz1,hz2⟩:=info_parts infoRow
 obtain ⟨t0,ht,hy0,hy1,hy2⟩:=info_parts infoTerm
 have HCM:=Lib.hid (fun W (hb:Below w.heap.size w W)=>cmat_c n (by omega) (by omega) a ca ls S W (h.mono hb) hrow hs hS)
 have HRC:=Lib.hid h
 have HROW:=Lib.hid hrow
 have HSW:=Lib.hid hs
 have HCL:=Lib.hid (fun a' c' xs W (h:IC W a' n xs)=>clone_c a' n c' xs W h)
 have HENT:Hid (∀i j,i<n→j<n→0≤entL ls i j∧entL ls i j≤S):=fun i j hi hj=>⟨hs.1 i j hi hj,by
  have e:=hs.2.1 i hi
  have p1:=(sigT_part (f:=fun y=>entL ls i y) (n:=n) (j:=j+1) (fun y hy=>hs.1 i y hi hy) (by omega)).2
  have p0:=(sigT_part (f:=fun y=>entL ls i y) (n:=n) (j:=j) (fun y hy=>hs.1 i y hi hy) (by omega)).1
  have e3:sigT (j+1) (fun y=>entL ls i y)=sigT j (fun y=>entL ls i y)+entL ls i j:=rfl
  omega⟩
 have HCOL:Hid (∀i,i≤n→0≤sigT i (fun x=>entL ls x 0)∧sigT i (fun x=>entL ls x 0)≤S):=fun i hi=>by
  rw[← hs.2.2 0 (by omega)]
  exact sigT_part (fun x hx=>hs.1 x 0 hx (by omega)) hi
 have HCE:=Lib.hid (hs.2.2 0 (by omega))
 have hLL:Hid (ls.length=n):=h.1.1
 clear h hrow hs
 go_enter Tryz.func7,Tryz.ntmps7
 go_upto_region 5 with (first|(go_at_call 14;refine (HCM.out _ (Below.refl _ _)).mono ?_;rintro _ w1 ⟨rfl,hb1⟩)|(refine wpList_make_full _ rfl _ _ 28 rfl w1.heap.size 22 i0 (.slice none 0 0) 1 Tryz.underlying28 hi hz0 hz1 _ _ _ _ n rfl rfl (by simp) (by simp) (by rw[hz2];omega) (by unfold maxLen;omega) (Nat.le_refl _) ?_;intro W4 hown4 hgr4;have hb4:Below w1.heap.size w1 W4:=(Below.refl w1.heap.size w1).grown hgr4 (Nat.le_refl _) (fun k e=>by cases e))|fail)
 rw[made_nilr n] at hown4
 have HB4:=Lib.hid (keep_trans hb1 hb4)
 have HMX:=Lib.hid ((MX.start (hown4)).low hb1.size)
 generalize w1.heap.size=bt at HMX ⊢
 clear hown4 hgr4 hb4 hb1 HCM
 go_wp2_with fail
 go_loopw [6,7,8,26] (fun s6 _ _ s26 wr=>∃(i:Nat) (g c:Nat→Nat),i≤n∧s26 = .int .i64 (i:Int)∧s6 = .int .i64 (sigT i (fun x=>entL ls x 0))∧Hid (MX wr w.heap.size bt n n g c i (ls.take i))∧Hid (Below w.heap.size w wr)) (fun _ _ _ s26 _=>n - (intOf s26).toNat)
 case atStart=>exact ⟨0,_,_,by omega,rfl,rfl,HMX,HB4⟩
 case round =>
  obtain ⟨i,g,c,hi1,rfl,rfl,hX,hB⟩:=hrel
  clear HMX HB4
  by_cases hlt:i<n
  ·have hii:(i:Int)<(n:Int):=by omega
   obtain ⟨b,off,a',n',c',rfl,hbl,hc,hic,_⟩:=HRC.out.2 i hlt
   have hn':n=n':=by rw[← hic.len];exact (HROW.out i hlt).symm
   subst hn'
   have u0:=(hB.out.cell (p:=⟨b,off+i,none⟩) hbl).trans hc
   have ul:=Nat.lt_of_lt_of_le hbl hB.out.size
   obtain ⟨b2,o2,rfl,hbl2,hc2⟩:=hic.2 0 (by omega)
   have hc3:w.cell? ⟨b2,o2+0,none⟩=some (.int .i64 (entL ls i 0)):=hc2
   have HC3:=Lib.hid hc3
   have HIC:=Lib.hid hic
   have HCLi:=Lib.hid (HCL.out (some ⟨b2,o2,none⟩) c' _ wr (hic.mono hB.out))
   have hx:=HENT.out i 0 hlt (by omega)
   have hl:=HCOL.out i (by omega)
   have HSU:Hid (sigT (i+1) (fun x=>entL ls x 0)=sigT i (fun x=>entL ls x 0)+entL ls i 0):=rfl
   generalize sigT i (fun x=>entL ls x 0)=s1 at hl HSU ⊢
   obtain ⟨t1,t2⟩:=hX.out.tab hlt
   rw[if_neg (Nat.lt_irrefl _)] at t1
   have hxb:=hX.out.blk
   clear hic hc2 hc3
   go_upto_region 10 with (first|(go_at_call 15;refine HCLi.out.mono ?_;rintro _ w6 ⟨v6,rfl,hown6,hb6⟩;rw[HROW.out i hlt] at hown6;obtain ⟨a6,c6,rfl⟩:=owns_shape hown6;obtain ⟨go,hgo,hOo⟩:=OI.of hown6 (by omega);subst hgo;have hX6:=hX.out.keep hb6;have t4:=(hX6.tab hlt).1;have t2:=(hX6.tab hlt).2;have xb6:=hX6.blk;have t3:=xb6.2;rw[if_neg (Nat.lt_irrefl _)] at t4;have HB6:Below w.heap.size w w6:=keep_trans hB.out hb6)|fail)
   have hgow:=hOo.blk
   have HN:=Lib.hid (hX6.fill hlt (hOo.base hB.out.size) (by omega) (fun j hj=>by have h1:=(hX.out.row j hj).blk.2;omega))
   have HBN:=Lib.hid (HB6.setCell (p:=⟨bt,i,none⟩) xb6.1 (.slice (some ⟨go,0,none⟩) n c6))
   generalize (w6.setCell ⟨bt,i,none⟩ (.slice (some ⟨go,0,none⟩) n c6))=w8 at HN HBN ⊢
   clear hX6 t1 t2 t3 t4 xb6 HB6 hOo hgow hown6 hb6 hxb u0 ul
   have z0:=(HBN.out.cell (p:=⟨b2,o2+0,none⟩) hbl2).trans HC3.out
   rw[Nat.add_zero] at z0
   have zl:=Nat.lt_of_lt_of_le hbl2 HBN.out.size
   have hn0:(0:Int)<(n:Int):=by omega
   go_wp2_with fail
   go_roundw
   case rel =>
    refine ⟨i+1,updF g i go,updF c i c6,by omega,by go_num,by rw[HSU.out],?_,HBN⟩
    have e:ls.take (i+1)=ls.take i++[ls[i]?.getD []]:=by
     rw[List.take_add_one,List.getElem?_eq_getElem (by rw[hLL.out];exact hlt)];rfl
    unfold Hid
    rw[e]
    exact HN.out
   case measure=>simp[intOf];omega
  ·have e:n=i:=by omega
   subst e
   have hX0:=hX.out
   rw[show ls.take n=ls from List.take_of_length_le (by rw[hLL.out];exact Nat.le_refl _)] at hX0
   rw[HCE.out]
   have HBK:Hid (BkI w wr.heap.size bt n g c (entL ls) (.slice none 0 0) [] ls wr):=⟨hX0,⟨hX0.blk.2,fun i hi=>(hX0.row i hi).blk.2⟩,TermI.nil _ _ _,BirT.nil _ _,fun t h=>by (simp at h),hB.out,Nat.le_refl _⟩
   have HZ:Hid (w.heap.size≤wr.heap.size):=hB.out.size
   generalize wr.heap.size=Z at HBK HZ
   clear hX hX0 hB
   go_wp2_with fail
   go_loopw [6,9,10,11,12,13,14,15] (fun s6 s9 _ _ _ _ _ _ wr=>∃(left:Int) (pre:List TermE) (m:List (List Int)),s6 = .int .i64 left∧Hid (BkI w Z bt n g c (entL ls) s9 pre m wr)∧Hid (EntM n m (mT (entL ls) (pre.map (·.2))))∧left=S - sumX (pre.map (·.2))∧0≤left∧(pre.length:Int)+left≤S) (fun s6 _ _ _ _ _ _ _ _=>(intOf s6).toNat)
   case atStart=>exact ⟨S,[],ls,rfl,HBK,fun i j _ _=>rfl,by simp[sumX],by have:=HCOL.out n (Nat.le_refl _);rw[HCE.out] at this;exact this.1,by simp⟩
   case round =>
    obtain ⟨left,pre,m,rfl,hK,hE,hleft,hl0,hlen⟩:=hrel
    clear HBK
    have HSUM:=hK.out.bir.sum HSW.out
    have hleft':S - ((pre.map (·.2)).map (·.2)).sum=left:=hleft.symm
    rw[hleft'] at HSUM
    obtain ⟨av,cv,hv⟩:=owns_shape2 hK.out.tm.own
    subst hv
    by_cases hpos:0<left
    ·obtain ⟨P,hP1,hP2,hP3⟩:=HSUM.perm hpos
     have hrc:=hK.out.mx.rc (by omega)
     have HLE:=Lib.hid (least_c n h2 h5 (some ⟨bt,0,none⟩) n m wr hrc (fun i hi=>hK.out.mx.rlen hi) P hP1 hP2 (fun i hi=>by rw[hE.out i (P i) hi (hP1 i hi)];have:=hP3 i hi;omega))
     have HPOS:=Lib.hid HSUM.1
     have HSUMW:=Lib.hid HSUM
     clear hrc HSUM hP1 hP2 hP3
     go_upto_region 15 with (first|(go_at_call 16;refine HLE.out.mono ?_;rintro _ w5 ⟨gp,cp,col,rfl,hOp,hPer,hNe,hb5⟩)|fail)
     have HK5:=Lib.hid (hK.out.keep hb5)
     have HOP:=Lib.hid (hOp.base hK.out.base.size)
     have HPER:=Lib.hid hPer
     have HVN:Hid ((Value.slice av pre.length cv).ownBlock≠some gp):=fun e=>by have h1:=(hK.out.tm.own.lt _ e).2;have h2:=hOp.blk.1;omega
     have hgpz:Z≤gp:=by have:=hOp.blk.1;have:=hK.out.z;omega
     have HLT:Hid (∀i,i<n→permF col i<n∧((permF col i:Nat):Int)=col[i]?.getD 0):=fun i hi=>hPer.lt hi
     have HPO:Hid (∀i,i<n→0<mT (entL ls) (pre.map (·.2)) i (permF col i)):=fun i hi=>by
      have h1:=HPOS.out i (permF col i) hi (hPer.lt hi).1
      have h3:=hNe i hi
      rw[hE.out i _ hi (hPer.lt hi).1] at h3
      omega
     clear hOp hPer hNe hb5 HLE hK
     have HBD:Hid (∀i j,i<n→j<n→mT (entL ls) (pre.map (·.2)) i j≤left):=fun i j hi hj=>by
      have e:=HSUMW.out.2.1 i hi
      have p1:=(sigT_part (f:=fun y=>mT (entL ls) (pre.map (·.2)) i y) (n:=n) (j:=j+1) (fun y hy=>HPOS.out i y hi hy) (by omega)).2
      have p0:=(sigT_part (f:=fun y=>mT (entL ls) (pre.map (·.2)) i y) (n:=n) (j:=j) (fun y hy=>HPOS.out i y hi hy) (by omega)).1
      have e3:sigT (j+1) (fun y=>mT (entL ls) (pre.map (·.2)) i y)=sigT j (fun y=>mT (entL ls) (pre.map (·.2)) i y)+mT (entL ls) (pre.map (·.2)) i j:=rfl
      omega
     have HEN:Hid (∀i,i<n→entL m i (permF col i)=mT (entL ls) (pre.map (·.2)) i (permF col i)):=fun i hi=>hE.out i _ hi (HLT.out i hi).1
     have HLOW0:Hid (LowI n (mT (entL ls) (pre.map (·.2))) col 0 (entL m 0 (permF col 0))):=⟨fun i h=>absurd h (Nat.not_lt_zero _),0,by omega,HEN.out 0 (by omega)⟩
     obtain ⟨q0,hq0⟩:∃q,q=permF col 0:=⟨_,rfl⟩
     obtain ⟨m1,m2,m3,m4,m5⟩:=HK5.out.mx.at (i:=0) (j:=q0) (by omega) (by rw[hq0];exact (HLT.out 0 (by omega)).1)
     obtain ⟨p1,p2,p3⟩:=HOP.out.at (k:=0) (by omega)
     rw[← (HLT.out 0 (by omega)).2,← hq0] at p1
     rw[← hq0] at HLOW0
     have hqn:(q0:Int)<(n:Int):=by have:=(HLT.out 0 (by omega)).1;omega
     have hn0:(0:Int)<(n:Int):=by omega
     generalize entL m 0 q0=x0 at m3 HLOW0
     clear hq0
     refine wp_region_S (fun w'=>∃u,w'=over (w5) u) [8] [(0,0),(0,1),(0,2),(0,3),(0,4),(0,5),(0,6),(0,7),(2,8)] (by kernel_rfl) (by kernel_rfl) (by exact ⟨_,below_over (by repeat (first|assumption|exact Below.refl _ _|refine keep_drew ?_|refine keep_alloc ?_ _|refine keep_trans ?_ (by assumption)))⟩) ?_
     dsimp only[pickOps,nthOp]
     repeat (first|(refine wpS_skip rfl (fun K hK=>?_);go_big_quiet_op;refine hK _ ?_;clear hK K)|(refine wpS_quiet rfl rfl (fun K hK=>?_);go_big_quiet_op;refine hK _ ?_;clear hK K))
     refine wpS_late _ _ _ rfl ?_
     dsimp only[List.map]
     go_wp2_with (fail)
     refine NoPanic.normal ?_
     clear m1 m2 m3 m4 m5 p1 p2 p3 hqn
     have HK6:=Lib.hid (HK5.out.keep (keep_drew (Below.refl _ _)))
     have HO6:=Lib.hid (HOP.out.keep (keep_drew (Below.refl _ _)))
     clear HK5 HOP
     generalize w5.drew=w6 at HK6 HO6 ⊢
     go_wp2_with fail
     go_loopw [11,12,13,56] (fun s11 _ _ s56 wv=>∃(i:Nat) (x:Int),i≤n∧s56 = .int .i64 (i:Int)∧s11 = .int .i64 x∧Hid (LowI n (mT (entL ls) (pre.map (·.2))) col i x)∧wv=w6) (fun _ _ _ s56 _=>n - (intOf s56).toNat)
     case atStart=>exact ⟨0,x0,by omega,rfl,rfl,HLOW0,rfl⟩
     case round =>
      obtain ⟨i,x,hi1,rfl,rfl,hL,hwr⟩:=hrel
      replace hwr:=hwr.symm
      subst hwr
      by_cases hlt:i<n
      ·have hii:(i:Int)<(n:Int):=by omega
       obtain ⟨q,hq⟩:∃q,q=permF col i:=⟨_,rfl⟩
       have hqi:=HLT.out i hlt
       obtain ⟨m1,m2,m3,m4,m5⟩:=HK6.out.mx.at (i:=i) (j:=q) hlt (by rw[hq];exact hqi.1)
       obtain ⟨p1,p2,p3⟩:=HO6.out.at (k:=i) hlt
       rw[← hqi.2,← hq] at p1
       have hqn:(q:Int)<(n:Int):=by rw[hq];omega
       have HST:=Lib.hid (hL.out.step hlt)
       rw[← HEN.out i hlt,← hq] at HST
       generalize entL m i q=y at m3 HST
       clear hq hqi
       go_wp2_with fail
       refine ⟨⟨i+1,min x y,by omega,by go_num,rfl,HST,trivial⟩,by simp[intOf];omega⟩
      ·have e:n=i:=by omega
       subst e
       have hx1:1≤x∧x≤left:=by
        obtain ⟨i',h1,h2⟩:=hL.out.2
        have h3:=HPO.out i' h1
        have h4:=HBD.out i' _ h1 (HLT.out i' h1).1
        omega
       have HL9:=hL
       clear hL HLOW0
       go_wp2_with fail
       go_loopw [14,15,73] (fun _ _ s73 wr=>∃(i:Nat) (m':List (List Int)),i≤n∧s73 = .int .i64 (i:Int)∧Hid (BkI w Z bt n g c (entL ls) (.slice av pre.length cv) pre m' wr)∧Hid (EntM n m' (lessTo (mT (entL ls) (pre.map (·.2))) col x i))∧Hid (OI wr w.heap.size gp n cp col)) (fun _ _ s73 _=>n - (intOf s73).toNat)
       case atStart=>exact ⟨0,m,by omega,rfl,HK6,fun i j hi hj=>by rw[hE.out i j hi hj];unfold lessTo;rw[if_neg (Nat.not_lt_zero _)],HO6.out⟩
       case round =>
        obtain ⟨i,m2,hi1,rfl,hK2,hE2,hO2⟩:=hrel
        clear HK6 HO6
        by_cases hlt:i<n
        ·have hii:(i:Int)<(n:Int):=by omega
         obtain ⟨q,hq⟩:∃q,q=permF col i:=⟨_,rfl⟩
         have hqi:=HLT.out i hlt
         have hqn':q<n:=by rw[hq];exact hqi.1
         obtain ⟨m1,m2',m3,m4,m5⟩:=hK2.out.mx.at (i:=i) (j:=q) hlt hqn'
         obtain ⟨p1,p2,p3⟩:=hO2.out.at (k:=i) hlt
         rw[← hqi.2,← hq] at p1
         have hqn:(q:Int)<(n:Int):=by omega
         have hy0:=HPO.out i hlt
         have hy1:=HBD.out i q hlt hqn'
         rw[← hq] at hy0
         have hm3:entL m2 i q=mT (entL ls) (pre.map (·.2)) i q:=by rw[hE2.out i q hlt hqn'];unfold lessTo;rw[if_neg (Nat.lt_irrefl _)]
         have HKN:=Lib.hid (hK2.out.set hlt q (entL m2 i q - x))
         have hlm:m2.length=n:=hK2.out.mx.len
         have hlr:=hK2.out.mx.rlen hlt
         have HEN2:Hid (EntM n (m2.set i ((m2[i]?.getD []).set q (entL m2 i q - x))) (lessTo (mT (entL ls) (pre.map (·.2))) col x (i+1))):=fun i' j' h1 h2=>by
          rw[entL_set (by rw[hlm];exact hlt) (by rw[hlr];exact hqn')]
          by_cases e1:i'=i
          ·subst e1
           unfold lessTo
           rw[if_pos (Nat.lt_succ_self _)]
           unfold lessP
           rw[← hq]
           by_cases e2:j'=q
           ·rw[if_pos ⟨rfl,e2⟩,if_pos e2,hm3,e2]
           ·rw[if_neg (fun h=>e2 h.2),if_neg e2,hE2.out i' j' h1 h2]
            unfold lessTo
            rw[if_neg (Nat.lt_irrefl _)];omega
          ·rw[if_neg (fun h=>e1 h.1),hE2.out i' j' h1 h2]
           unfold lessTo
           by_cases e2:i'<i
           ·rw[if_pos e2,if_pos (by omega)]
           ·rw[if_neg e2,if_neg (by omega)]
         have HON:=Lib.hid (hO2.out.other (b:=g i) (i:=q) (by have:=hK2.out.bz.2 i hlt;omega) (.int .i64 (entL m2 i q - x)))
         rw[← hm3] at hy0 hy1
         generalize entL m2 i q=y at m3 hy0 hy1 HKN HEN2 HON
         clear hq hqi hm3 hlm hlr
         go_wp2_with fail
         go_roundw
         case rel=>exact ⟨i+1,_,by omega,by go_num,HKN,HEN2,HON⟩
         case measure=>simp[intOf];omega
        ·have e:n=i:=by omega
         subst e
         have HEF:Hid (EntM n m2 (mT (entL ls) ((pre++[((gp,cp),(col,x))]).map (·.2)))):=fun i j h1 h2=>by
          rw[List.map_append,List.map_singleton,mT_snoc,hE2.out i j h1 h2]
          unfold lessTo
          rw[if_pos h1]
         have HBIR:Hid (BirT n (entL ls) ((pre++[((gp,cp),(col,x))]).map (·.2))):=by
          unfold Hid
          rw[List.map_append,List.map_singleton]
          refine hK2.out.bir.snoc HPER.out HPO.out (fun i hi=>HL9.out.1 i hi) ?_
          obtain ⟨i',h1,h2⟩:=HL9.out.2
          exact ⟨i',h1,h2.symm⟩
         have hpl:pre.length≤1000:=by omega
         go_wp2_with (first|(at_builtin;refine wpList_append_own2 _ rfl _ _ 29 rfl 37 t0 (.agg #[.slice none 0 0,.int .i64 0]) 2 32 Tryz.underlying29 ht hy0 hy1 hy2 rfl (by decide) _ _ _ rfl (owns_base (hK2.out.tm.own.alloc _) (Nat.zero_le _)) ⟨wr.heap.size,0,none⟩ 1 1 [.slice (some ⟨gp,0,none⟩) n cp,.int .i64 x] rfl rfl (cell_new2 _ _ _ _) (by simp[Value.oneCell']) (by unfold maxLen;omega) (by omega) ?_;intro v7 w7 hown7 hgr7 hk7)|fail)
         have hs7:=grow_stays hgr7
         have hz2:=hK2.out.z
         have hown7L:=own_lft hown7 (L:=Z) (fun j e=>(hk7 j e).elim (fun e2=>(hK2.out.tm.own.lt j e2).1) (fun h=>by simp at h;omega))
         have hTN:=hK2.out.tm.append (y:=((gp,cp),(col,x))) (hO2.out.up hgpz) HVN.out hs7 hown7L (fun j e=>(hk7 j e).imp id (fun h=>by simp at h;omega))
         have hvz:∀k,(Value.slice av pre.length cv).ownBlock=some k→Z≤k:=fun k e=>(hK2.out.tm.own.lt k e).1
         have hM7:=hK2.out.mx.stay hs7 (fun e=>by have:=hvz _ e;have:=hK2.out.bz.1;omega) (fun i hi e=>by have:=hvz _ e;have:=hK2.out.bz.2 i hi;omega)
         have hB7:=hs7.below' (B:=w.heap.size) (w0:=w) hK2.out.base.size hK2.out.base (fun j e=>Nat.le_trans HZ.out (hvz j e))
         refine ⟨⟨S - sumX (pre.map (·.2)) - x,pre++[((gp,cp),(col,x))],m2,rfl,⟨hM7,hK2.out.bz,hTN,HBIR.out,fun t ht=>?_,hB7,Nat.le_trans hz2 hs7.size⟩,HEF,?_,by omega,?_⟩,by simp[intOf];omega⟩
         ·rw[List.map_append,List.mem_append] at ht
          rcases ht with ht|ht
          ·exact hK2.out.tim t ht
          ·simp at ht
           subst ht
           show 1≤x∧x≤1000
           omega
         ·rw[List.map_append,List.map_singleton,sumX_snoc]
          show _=S - (sumX (pre.map (·.2))+x)
          omega
         ·rw[List.length_append]
          simp
          omega
    ·have hl:left=0:=by omega
     go_wp2_with fail
     refine bodyPost_ret (v := .tuple #[.slice av pre.length cv,.int .i64 0]) ?_ rfl ⟨_,pre,rfl,hK.out.tm.low HZ.out,hK.out.bir,hK.out.tim,by omega,hK.out.base⟩
     simp[results,Tryz.f7,go_sem]
end
section
open Go Go.RowKit
attribute [local go_sem] over_cell
attribute [local go_sem] Oper.semAt_some
theorem PerN.permE {n:Nat} {p:List Int} (h:PerN n p) (hn:n≤256):permE p=0:=by
 have hb:permB p=true:=permB_end fun k hk=>by
  rw[h.len] at hk
  have h1:=h.num k hk
  unfold badP
  rw[decide_eq_false (by omega),h.len,decide_eq_false (by omega)]
  have:hasB (p.take k) (p[k]?.getD 0)=false:=by
   cases e:hasB (p.take k) (p[k]?.getD 0) with
   | false=>rfl
   | true =>
    have hm:p[k]?.getD 0∈p.take k:=by simpa [hasB] using e
    obtain ⟨j,hj,e2⟩:=List.getElem_of_mem hm
    rw[List.length_take,h.len] at hj
    have:j=k:=h.inj j k (by omega) hk (by
     rw[← e2,List.getElem_take,List.getElem?_eq_getElem (by rw[h.len];omega)];rfl)
    omega
  rw[this];rfl
 unfold Go.Proofs.YtpkghjoippcjeaaGreatDoor.permE
 rw[if_neg (by rw[h.len];omega),if_pos hb]
theorem tl_addr {W:World} {a:Option Addr} {cnt n:Nat} {T:List (List Int × Int)} (h:TL W a cnt n T) (h1:1≤cnt):∃b o,a=some ⟨b,o,none⟩:=by
 obtain ⟨b,o,_,_,e,_⟩:=h.2 0 (by omega)
 exact ⟨b,o,e⟩
theorem tl_at {W:World} {b o cnt n:Nat} {T:List (List Int × Int)} (h:TL W (some ⟨b,o,none⟩) cnt n T) {k:Nat} (hk:k<cnt):∃a' c',b<W.heap.size∧W.cell? ⟨b,o+k*2,none⟩=some (.slice a' n c')∧W.cell? ⟨b,o+k*2+1,none⟩=some (.int .i64 (T[k]?.getD ([],0)).2)∧IC W a' n (T[k]?.getD ([],0)).1∧n≤c':=by
 obtain ⟨b2,o2,a',c',e,h1,h2,h3,h4,h5⟩:=h.2 k hk
 cases e
 exact ⟨a',c',h1,by rw[Nat.mul_comm];exact h2,by rw[Nat.mul_comm,Nat.add_assoc];exact h3,h4,h5⟩
theorem mT_bd {n:Nat} {M:Nat→Nat→Int} (hM:∀i j,i<n→j<n→0≤M i j∧M i j≤1000) {T:List (List Int × Int)} (hT:∀t,t∈T→1≤t.2∧t.2≤1000) {i j:Nat} (hi:i<n) (hj:j<n):∀k,k≤T.length → -(1000*(k:Int))≤mT M (T.take k) i j∧mT M (T.take k) i j≤1000:=by
 intro k
 induction k with
 | zero=>intro _;have:=hM i j hi hj;simp[mT];omega
 | succ k ih =>
  intro hk
  have h1:=ih (by omega)
  have hg:T[k]?=some (T[k]'(by omega)):=List.getElem?_eq_getElem (by omega)
  have h2:=hT _ (List.getElem_mem (show k<T.length by omega))
  rw[List.take_add_one,hg,Option.toList_some,mT_snoc]
  unfold lessP
  split <;> omega
theorem outRow {ls:List (List Int)} {n:Nat} (h:∀i j,i<n→j<n→entL ls i j=0) {k:Nat} (hk:k<n):∀j,j<n→(ls[k]?.getD [])[j]?.getD 0=0:=fun j hj=>h k j hk hj
theorem enterCB1:∀args w,Sem.run Tryz.prog (callFunc 21 args) w = .ok (.enter 21 args) w:=by
 intro args w;kernel_rfl
theorem enterCB2:∀args w,Sem.run Tryz.prog (callFunc 23 args) w = .ok (.enter 23 args) w:=by
 intro args w;kernel_rfl
theorem cb2_c (w:World):Calls Tryz.prog 23 #[.int .i64 0] w fun e w'=>e = .returned (.bool false)∧Below w.heap.size w w':=by
 go_enter Tryz.func23,Tryz.ntmps23
 go_wp2
 go_ret
 exact ⟨rfl,Below.refl _ _⟩
theorem cb1_c (a:Option Addr) (n c:Nat) (xs:List Int) (w:World) (h:IC w a n xs) (h0:∀k,k<n→xs[k]?.getD 0=0):Calls Tryz.prog 21 #[.slice a n c] w fun e w'=>e = .returned (.bool false)∧Below w.heap.size w w':=by
 have HC:Hid (Calls Tryz.prog 22 #[.slice a n c,.func (.func 23) #[] #[]] w fun e w'=>e = .returned (.bool false)∧Below w.heap.size w w'):=by
  refine (containsFuncI_c a n c xs 23 #[] (fun _=>false) w h enterCB2 (fun k hk w' _=>?_)).mono ?_
  ·rw[h0 k hk];exact cb2_c w'
  ·rintro e w' ⟨rfl,hb⟩
   exact ⟨ret_bool (anyP_false fun _ _=>rfl),hb⟩
 clear h h0
 go_enter Tryz.func21,Tryz.ntmps21
 go_wp2_with (first|(go_at_call 22;refine HC.out.mono ?_;rintro _ w1 ⟨rfl,hb1⟩)|fail)
 go_ret
 exact ⟨rfl,hb1⟩
end
section
open Go Go.RowKit
attribute [local go_sem] over_cell
attribute [local go_sem] Oper.semAt_some
theorem cbirk_c (n:Nat) (h2:2≤n) (h5:n≤5) (a:Option Addr) (ca:Nat) (ls:List (List Int)) (S:Int) (aT:Option Addr) (cnt cT:Nat) (T:List (List Int × Int)) (w:World) (h:RC w a n ls) (hrow:∀i,i<n→(ls[i]?.getD []).length=n) (hs:SumW n S (entL ls)) (hS:S≤1000)
  (hT:TL w aT cnt n T) (hcn:cnt≤(n - 1)*(n - 1)+1) (hper:∀t,t∈T→PerN n t.1) (htm:∀t,t∈T→1≤t.2∧t.2≤1000) (hz:∀i j,i<n→j<n→mT (entL ls) T i j=0) :
  Calls Tryz.prog 8 #[.slice a n ca,.slice aT cnt cT] w fun e w'=>e = .returned (.int .i64 0)∧Below w.heap.size w w':=by
 obtain ⟨i0,hi,hz0,hz1,hz2⟩:=info_parts infoRow
 have HCM:=Lib.hid (fun W (hb:Below w.heap.size w W)=>cmat_c n (by omega) (by omega) a ca ls S W (h.mono hb) hrow hs hS)
 have HRC:=Lib.hid h
 have HROW:=Lib.hid hrow
 have HTL:=Lib.hid hT
 have HCL:=Lib.hid (fun a' c' xs W (h:IC W a' n xs)=>clone_c a' n c' xs W h)
 have HENT:∀i j,i<n→j<n→0≤entL ls i j∧entL ls i j≤1000:=fun i j hi hj=>⟨hs.1 i j hi hj,by
  have e:=hs.2.1 i hi
  have p1:=(sigT_part (f:=fun y=>entL ls i y) (n:=n) (j:=j+1) (fun y hy=>hs.1 i y hi hy) (by omega)).2
  have p0:=(sigT_part (f:=fun y=>entL ls i y) (n:=n) (j:=j) (fun y hy=>hs.1 i y hi hy) (by omega)).1
  have e3:sigT (j+1) (fun y=>entL ls i y)=sigT j (fun y=>entL ls i y)+entL ls i j:=rfl
  omega⟩
 have HBD:Hid (∀i j k,i<n→j<n→k≤cnt → -(1000*(k:Int))≤mT (entL ls) (T.take k) i j∧mT (entL ls) (T.take k) i j≤1000):=fun i j k hi hj hk=>mT_bd HENT htm hi hj k (by rw[hT.1.1];exact hk)
 have hcn17:cnt≤17:=Nat.le_trans hcn (by have:=Nat.mul_le_mul (show n - 1≤4 by omega) (show n - 1≤4 by omega);omega)
 have HTM:Hid (∀k,k<cnt→PerN n (T[k]?.getD ([],0)).1∧1≤(T[k]?.getD ([],0)).2∧(T[k]?.getD ([],0)).2≤1000∧T.take (k+1)=T.take k++[T[k]?.getD ([],0)]):=fun k hk=>by
  have hk2:k<T.length:=by rw[hT.1.1];exact hk
  have hg:T[k]?=some (T[k]'hk2):=List.getElem?_eq_getElem hk2
  have hm:=List.getElem_mem hk2
  rw[hg,Option.getD_some]
  exact ⟨hper _ hm,(htm _ hm).1,(htm _ hm).2,by rw[List.take_add_one,hg];rfl⟩
 have HZ:Hid (∀i j,i<n→j<n→mT (entL ls) (T.take cnt) i j=0):=fun i j a b=>by rw[List.take_of_length_le (by rw[hT.1.1];exact Nat.le_refl _)];exact hz i j a b
 have hLL:Hid (ls.length=n):=h.1.1
 obtain ⟨nn,hnn⟩:∃nn:Nat,nn=(n - 1)*(n - 1):=⟨_,rfl⟩
 have hm1:((n:Int) - 1)*((n:Int) - 1)=(nn:Int):=by rw[hnn,Int.natCast_mul,Int.natCast_sub (by omega)];rfl
 rw[← hnn] at hcn
 have hnnb:nn≤16:=by rw[hnn];exact Nat.mul_le_mul (show n - 1≤4 by omega) (show n - 1≤4 by omega)
 have hnp:(0:Int)<(n:Int):=by omega
 have hdc:decide ((nn:Int)+1<(cnt:Int))=false:=decide_eq_false (by omega)
 clear h hrow hs HENT hT hper htm hz hnn
 go_enter Tryz.func8,Tryz.ntmps8
 go_upto_region 11 with (first|(go_at_call 14;refine (HCM.out _ (Below.refl _ _)).mono ?_;rintro _ w1 ⟨rfl,hb1⟩)|(refine wpList_make_full _ rfl _ _ 28 rfl w1.heap.size 22 i0 (.slice none 0 0) 1 Tryz.underlying28 hi hz0 hz1 _ _ _ _ n rfl rfl (by simp) (by simp) (by rw[hz2];omega) (by unfold maxLen;omega) (Nat.le_refl _) ?_;intro W4 hown4 hgr4;have hb4:Below w1.heap.size w1 W4:=(Below.refl w1.heap.size w1).grown hgr4 (Nat.le_refl _) (fun k e=>by cases e))|fail)
 rw[made_nilr n] at hown4
 have HB4:=Lib.hid (keep_trans hb1 hb4)
 have HMX:=Lib.hid ((MX.start (hown4)).low hb1.size)
 generalize w1.heap.size=bt at HMX ⊢
 clear hown4 hgr4 hb4 hb1 HCM hm1 hdc hnnb
 go_wp2_with fail
 go_loopw [9,10,39] (fun _ _ s39 wr=>∃(i:Nat) (g c:Nat→Nat),i≤n∧s39 = .int .i64 (i:Int)∧Hid (MX wr w.heap.size bt n n g c i (ls.take i))∧Hid (Below w.heap.size w wr)) (fun _ _ s39 _=>n - (intOf s39).toNat)
 case atStart=>exact ⟨0,_,_,by omega,rfl,HMX,HB4⟩
 case round =>
  obtain ⟨i,g,c,hi1,rfl,hX,hB⟩:=hrel
  clear HMX HB4
  by_cases hlt:i<n
  ·have hii:(i:Int)<(n:Int):=by omega
   obtain ⟨b,off,a',n',c',rfl,hbl,hc,hic,_⟩:=HRC.out.2 i hlt
   have hn':n=n':=by rw[← hic.len];exact (HROW.out i hlt).symm
   subst hn'
   have u0:=(hB.out.cell (p:=⟨b,off+i,none⟩) hbl).trans hc
   have ul:=Nat.lt_of_lt_of_le hbl hB.out.size
   have HCLi:=Lib.hid (HCL.out a' c' _ wr (hic.mono hB.out))
   clear hic
   go_upto_region 15 with (first|(go_at_call 15;refine HCLi.out.mono ?_;rintro _ w6 ⟨v6,rfl,hown6,hb6⟩;rw[HROW.out i hlt] at hown6;obtain ⟨a6,c6,rfl⟩:=owns_shape hown6;obtain ⟨go,hgo,hOo⟩:=OI.of hown6 (by omega);subst hgo;have hX6:=hX.out.keep hb6;have t4:=(hX6.tab hlt).1;have t2:=(hX6.tab hlt).2;have xb6:=hX6.blk;have t3:=xb6.2;rw[if_neg (Nat.lt_irrefl _)] at t4;have HB6:Below w.heap.size w w6:=keep_trans hB.out hb6)|fail)
   have hgow:=hOo.blk
   have hxb:=hX.out.blk
   have HN:=Lib.hid (hX6.fill hlt (hOo.base hB.out.size) (by omega) (fun j hj=>by have h1:=(hX.out.row j hj).blk.2;omega))
   have HBN:=Lib.hid (HB6.setCell (p:=⟨bt,i,none⟩) xb6.1 (.slice (some ⟨go,0,none⟩) n c6))
   generalize (w6.setCell ⟨bt,i,none⟩ (.slice (some ⟨go,0,none⟩) n c6))=w8 at HN HBN ⊢
   clear hX6 t2 t3 t4 xb6 HB6 hOo hgow hown6 hb6 hxb u0 ul
   go_wp2_with fail
   go_roundw
   case rel =>
    refine ⟨i+1,updF g i go,updF c i c6,by omega,by go_num,?_,HBN⟩
    have e:ls.take (i+1)=ls.take i++[ls[i]?.getD []]:=by
     rw[List.take_add_one,List.getElem?_eq_getElem (by rw[hLL.out];exact hlt)];rfl
    unfold Hid
    rw[e]
    exact HN.out
   case measure=>simp[intOf];omega
  ·have e:n=i:=by omega
   subst e
   have hX0:=hX.out
   rw[show ls.take n=ls from List.take_of_length_le (by rw[hLL.out];exact Nat.le_refl _)] at hX0
   have HX0:=Lib.hid hX0
   clear hX hX0
   go_wp2_with fail
   go_loopw [12,13,14,15,52] (fun _ _ _ _ s52 wr=>∃(k:Nat) (m:List (List Int)),k≤cnt∧s52 = .int .i64 (k:Int)∧Hid (MX wr w.heap.size bt n n g c n m)∧Hid (Below w.heap.size w wr)∧Hid (EntM n m (mT (entL ls) (T.take k)))) (fun _ _ _ _ s52 _=>cnt - (intOf s52).toNat)
   case atStart=>exact ⟨0,ls,by omega,rfl,HX0,hB,fun i j _ _=>rfl⟩
   case round =>
    obtain ⟨k,m,hk1,rfl,hX,hB,hE⟩:=hrel
    clear HX0
    by_cases hkl:k<cnt
    ·have hkk:(k:Int)<(cnt:Int):=by omega
     obtain ⟨b9,o9,haT⟩:=tl_addr HTL.out (by omega)
     subst haT
     obtain ⟨a',c',hb9w,ht0w,ht1w,hic,_⟩:=tl_at HTL.out hkl
     have ht0:=(hB.out.cell (p:=⟨b9,o9+k*2,none⟩) hb9w).trans ht0w
     have ht1:=(hB.out.cell (p:=⟨b9,o9+k*2+1,none⟩) hb9w).trans ht1w
     have hb9:=Nat.lt_of_lt_of_le hb9w hB.out.size
     clear ht0w ht1w hb9w
     obtain ⟨hP,hx1,hx2,hTK⟩:=HTM.out k hkl
     generalize T[k]?.getD ([],0)=t at ht1 hic hP hx1 hx2 hTK
     obtain ⟨col,x⟩:=t
     dsimp only at ht1 hic hP hx1 hx2
     have HIC:=Lib.hid hic
     have HP:=Lib.hid hP
     clear hic hP
     go_upto_region 19 with fail
     have fsz:(wr.alloc (.cells #[.slice a' n c',.int .i64 x] 37)).heap.size=wr.heap.size+1:=by simp only[World.size_alloc]
     have fB:Below wr.heap.size wr (wr.alloc (.cells #[.slice a' n c',.int .i64 x] 37)):=(Below.refl _ _).alloc (Nat.le_refl _) _
     have fq0:(wr.alloc (.cells #[.slice a' n c',.int .i64 x] 37)).heap[wr.heap.size]?=some (.cells #[.slice a' n c',.int .i64 x] 37 (0,0)):=by have h:=World.alloc_heap_new wr (.cells #[.slice a' n c',.int .i64 x] 37);exact h
     generalize (wr.alloc (.cells #[.slice a' n c',.int .i64 x] 37))=W2 at fsz fB fq0 ⊢
     have hbx:bt≠wr.heap.size:=by have:=hX.out.blk.2;omega
     have hgx:∀i,i<n→g i≠wr.heap.size:=fun i hi=>by have:=(hX.out.row i hi).blk.2;omega
     have hwb:w.heap.size≤wr.heap.size:=hB.out.size
     have HX2:=Lib.hid (hX.out.keep fB)
     have HB2:=Lib.hid (keep_trans hB.out fB)
     have HI2:=Lib.hid (HIC.out.mono (keep_trans hB.out fB))
     have Q2:=Lib.hid fq0
     generalize wr.heap.size=bx at hbx hgx hwb Q2 ⊢
     clear fsz fq0 fB hX hB ht0 ht1 hb9
     have hPE:=HP.out.permE (show n≤256 by omega)
     have HPE:=Lib.hid (fun W (hb:Below W2.heap.size W2 W)=>aperm_c a' n c' col W (HI2.out.mono hb))
     rw[hPE] at HPE
     have hne:((n:Int) != (n:Int))=false:=by simp
     have hd1:decide (x<1)=false:=decide_eq_false (by omega)
     have hd2:decide ((999999999:Int)<x)=false:=decide_eq_false (by omega)
     have HF:Hid (firstL [whenV false 14,whenV false 3]=0):=rfl
     obtain ⟨x0,xf0,xl⟩:W2.cell? ⟨bx,0,none⟩=some (.slice a' n c')∧W2.cell? ⟨bx,1,none⟩=some (.int .i64 x)∧bx<W2.heap.size:=⟨q_cell Q2.out 0,q_cell Q2.out 1,q_lt Q2.out⟩
     clear hPE
     refine wp_region_S (fun w'=>∃u,w'=over (W2) u) [23,22,21,20] [(0,0),(0,1),(0,2),(0,3),(0,4),(0,5),(0,6),(0,7),(0,12),(0,13),(0,14),(1,8),(0,9),(0,10),(1,11),(0,15),(0,16),(0,17),(0,18),(0,19),(2,20),(2,21),(2,22),(2,23)] (by kernel_rfl) (by kernel_rfl) (by exact ⟨_,below_over (by repeat (first|assumption|exact Below.refl _ _|refine keep_drew ?_|refine keep_alloc ?_ _|refine keep_trans ?_ (by assumption)))⟩) ?_
     dsimp only[pickOps,nthOp]
     repeat (first|(refine wpS_skip rfl (fun K hK=>?_);go_big_quiet_op;refine hK _ ?_;clear hK K)|(refine wpS_quiet rfl rfl (fun K hK=>?_);go_big_quiet_op;refine hK _ ?_;clear hK K)|(refine wpS_loud ?_;go_wp2_with (first|(go_at_call 19;refine (HPE.out _ (keep_drew (Below.refl _ _))).mono ?_;rintro _ w3 ⟨rfl,hb3⟩)|(go_at_call 18;refine (cwhen_c _ _ _).mono ?_;rintro _ w4 ⟨rfl,rfl⟩)|(go_at_call 17;refine (cfirst_c _ _ _ _ _ (IC.new2 _ _ _ _)).mono ?_;rw[HF.out];rintro _ w5 ⟨rfl,rfl⟩));refine ⟨?_,?_⟩;focus (exact ⟨_,below_over (by repeat (first|assumption|exact Below.refl _ _|refine keep_drew ?_|refine keep_alloc ?_ _|refine keep_trans ?_ (by assumption)))⟩)))
     refine wpS_late _ _ _ rfl ?_
     dsimp only[List.map]
     go_wp2_with (first|(go_at_call 19;refine (HPE.out _ (keep_drew (Below.refl _ _))).mono ?_;rintro _ w3 ⟨rfl,hb3⟩)|(go_at_call 18;refine (cwhen_c _ _ _).mono ?_;rintro _ w4 ⟨rfl,rfl⟩)|(go_at_call 17;refine (cfirst_c _ _ _ _ _ (IC.new2 _ _ _ _)).mono ?_;rw[HF.out];rintro _ w5 ⟨rfl,rfl⟩))
     refine NoPanic.normal ?_
     go_upto_region 22 with fail
     have hk6:=keep_alloc (keep_trans (keep_drew (Below.refl W2.heap.size W2)) hb3) (.cells #[.int .i64 (whenV false 14),.int .i64 (whenV false 3)] 32)
     generalize (w3.alloc (.cells #[.int .i64 (whenV false 14),.int .i64 (whenV false 3)] 32))=w6 at hk6 ⊢
     have HX6:=Lib.hid (HX2.out.keep hk6)
     have HB6:=Lib.hid (keep_trans HB2.out hk6)
     have Q6:=Lib.hid (keepq hk6 Q2.out)
     clear x0 xf0 xl HX2 HB2 HI2 Q2 hk6 hb3 HPE
     have x0:=q_cell Q6.out 0
     have xl:=q_lt Q6.out
     have HLT:Hid (∀i,i<n→permF col i<n∧((permF col i:Nat):Int)=col[i]?.getD 0):=fun i hi=>HP.out.lt hi
     go_wp2_with fail
     clear x0 xl
     go_loopw [14,15,85] (fun _ _ s85 wr=>∃(i:Nat) (m':List (List Int)),i≤n∧s85 = .int .i64 (i:Int)∧Hid (MX wr w.heap.size bt n n g c n m')∧Hid (Below w.heap.size w wr)∧Hid (EntM n m' (lessTo (mT (entL ls) (T.take k)) col x i))∧Hid (wr.heap[bx]?=some (.cells #[.slice a' n c',.int .i64 x] 37 (0,0)))) (fun _ _ s85 _=>n - (intOf s85).toNat)
     case atStart=>exact ⟨0,m,by omega,rfl,HX6,HB6,fun i j hi hj=>by rw[hE.out i j hi hj];unfold lessTo;rw[if_neg (Nat.not_lt_zero _)],Q6⟩
     case round =>
      obtain ⟨i,m2,hi1,rfl,hX,hB,hE2,hQ⟩:=hrel
      clear HX6 HB6 Q6
      by_cases hlt:i<n
      ·have hii:(i:Int)<(n:Int):=by omega
       obtain ⟨q,hq⟩:∃q,q=permF col i:=⟨_,rfl⟩
       have hqi:=HLT.out i hlt
       have hqn':q<n:=by rw[hq];exact hqi.1
       obtain ⟨bc,oc,rfl,hbc,hcc⟩:=HIC.out.2 i hlt
       have p1:=(hB.out.cell (p:=⟨bc,oc+i,none⟩) hbc).trans hcc
       rw[← hqi.2,← hq] at p1
       have pl:=Nat.lt_of_lt_of_le hbc hB.out.size
       obtain ⟨m1,m2',m3,m4,m5⟩:=hX.out.at (i:=i) (j:=q) hlt hqn'
       have x0:=q_cell hQ.out 0
       have x1:=q_cell hQ.out 1
       have xl:=q_lt hQ.out
       have hqn:(q:Int)<(n:Int):=by omega
       have hbd:=HBD.out i q k hlt hqn' (by omega)
       have hm3:entL m2 i q=mT (entL ls) (T.take k) i q:=by rw[hE2.out i q hlt hqn'];unfold lessTo;rw[if_neg (Nat.lt_irrefl _)]
       have HKN:=Lib.hid (hX.out.set hlt q (entL m2 i q - x))
       have hlm:m2.length=n:=hX.out.len
       have hlr:=hX.out.rlen hlt
       have HEN2:Hid (EntM n (m2.set i ((m2[i]?.getD []).set q (entL m2 i q - x))) (lessTo (mT (entL ls) (T.take k)) col x (i+1))):=fun i' j' h1 h2=>by
        rw[entL_set (by rw[hlm];exact hlt) (by rw[hlr];exact hqn')]
        by_cases e1:i'=i
        ·subst e1
         unfold lessTo
         rw[if_pos (Nat.lt_succ_self _)]
         unfold lessP
         rw[← hq]
         by_cases e2:j'=q
         ·rw[if_pos ⟨rfl,e2⟩,if_pos e2,hm3,e2]
         ·rw[if_neg (fun h=>e2 h.2),if_neg e2,hE2.out i' j' h1 h2]
          unfold lessTo
          rw[if_neg (Nat.lt_irrefl _)];omega
        ·rw[if_neg (fun h=>e1 h.1),hE2.out i' j' h1 h2]
         unfold lessTo
         by_cases e2:i'<i
         ·rw[if_pos e2,if_pos (by omega)]
         ·rw[if_neg e2,if_neg (by omega)]
       have HQN:=Lib.hid (q_other (i:=q) hQ.out (fun e=>hgx i hlt e.symm) (.int .i64 (entL m2 i q - x)))
       have HBN:=Lib.hid (hB.out.setCell (p:=⟨g i,q,none⟩) (hX.out.row i hlt).blk.1 (.int .i64 (entL m2 i q - x)))
       rw[← hm3] at hbd
       generalize entL m2 i q=y at m3 hbd HKN HEN2 HQN HBN
       clear hq hqi hm3 hlm hlr hcc
       go_wp2_with fail
       refine wp_region_T (fun w'=>∃u,w'=over (wr) u) [0,1,2,4,7] [11] [(0,3),(0,5),(0,6),(0,8),(0,9),(0,10),(2,11)] (by kernel_rfl) (by kernel_rfl) (by exact ⟨_,below_over (by repeat (first|assumption|exact Below.refl _ _|refine keep_drew ?_|refine keep_alloc ?_ _|refine keep_trans ?_ (by assumption)))⟩) ?_
       dsimp only[pickF,nthOp]
       repeat (first|(refine wpF_skip rfl (fun K hK=>?_);go_big_quiet_op;refine hK _ ?_;clear hK K)|(refine wpF_quiet rfl rfl (fun K hK=>?_);go_big_quiet_op;refine hK _ ?_;clear hK K))
       refine wpF_end ?_
       dsimp only[pickOps,nthOp]
       repeat (first|(refine wpS_skip rfl (fun K hK=>?_);go_big_quiet_op;refine hK _ ?_;clear hK K)|(refine wpS_quiet rfl rfl (fun K hK=>?_);go_big_quiet_op;refine hK _ ?_;clear hK K))
       refine wpS_late _ _ _ rfl ?_
       dsimp only[List.map]
       go_wp2_with (fail)
       refine NoPanic.normal ?_
       clear p1 pl m1 m2' m3 m4 m5 x0 x1 xl
       go_wp2_with fail
       go_roundw
       case rel=>exact ⟨i+1,_,by omega,by go_num,HKN.out.drew,HBN.out.drew,HEN2,HQN.out⟩
       case measure=>simp[intOf];omega
      ·have e:n=i:=by omega
       subst e
       go_wp2_with fail
       go_roundw
       case rel =>
        refine ⟨k+1,m2,by omega,by go_num,hX,hB,fun i j h1 h2=>?_⟩
        rw[hTK,mT_snoc,hE2.out i j h1 h2]
        unfold lessTo
        rw[if_pos h1]
       case measure=>simp[intOf];omega
    ·have e:cnt=k:=by omega
     subst e
     have hrc:=hX.out.rc (by omega)
     have hzz:∀i j,i<n→j<n→entL m i j=0:=fun i j h1 h2=>by rw[hE.out i j h1 h2];exact HZ.out i j h1 h2
     have HCF:Hid (Calls Tryz.prog 20 #[.slice (some ⟨bt,0,none⟩) n n,.func (.func 21) #[] #[]] wr fun e w'=>e = .returned (.bool false)∧Below wr.heap.size wr w'):=by
      refine (containsFuncR_c (some ⟨bt,0,none⟩) n n m 21 #[] (fun _=>false) wr hrc enterCB1 (fun k hk w' a1 n1 c1 _ hic _=>?_)).mono ?_
      ·have hn1:n1=n:=by rw[← hic.len];exact hX.out.rlen hk
       subst hn1
       exact cb1_c a1 n1 c1 _ w' hic (outRow hzz hk)
      ·rintro e w' ⟨rfl,hb⟩
       exact ⟨ret_bool (anyP_false fun _ _=>rfl),hb⟩
     clear hrc hzz
     go_wp2_with (first|(go_at_call 20;refine HCF.out.mono ?_;rintro _ w3 ⟨rfl,hb3⟩)|(go_at_call 18;refine (cwhen_c _ _ _).mono ?_;rintro _ w4 ⟨rfl,rfl⟩)|fail)
     go_ret
     exact ⟨rfl,keep_trans hB.out hb3⟩
end
section
def prow (n:Nat) (q:Nat→Nat) (c:Nat):List Int:=(List.range n).map fun i=>if i*n+q i<c then (q i:Int) else 0
theorem prow_zero (n:Nat) (q:Nat→Nat):prow n q 0=List.replicate n 0:=by
 apply List.ext_getElem?
 intro i
 by_cases h:i<n
 ·unfold prow
  rw[List.getElem?_map,List.getElem?_range h,List.getElem?_replicate,if_pos h]
  show some (if i*n+q i<0 then (q i:Int) else 0)=_
  rw[if_neg (Nat.not_lt_zero _)]
 ·rw[List.getElem?_eq_none (by simp[prow];omega),List.getElem?_eq_none (by simp;omega)]
theorem sqc_inj {n i j i' j':Nat} (hj:j<n) (hj':j'<n) (e:i*n+j=i'*n+j'):i=i'∧j=j':=by
 have h1:i=i':=by
  rcases Nat.lt_trichotomy i i' with h|h|h
  ·have:=Nat.mul_le_mul_right n (show i+1≤i' from h)
   rw[Nat.add_mul] at this;omega
  ·exact h
  ·have:=Nat.mul_le_mul_right n (show i'+1≤i from h)
   rw[Nat.add_mul] at this;omega
 subst h1
 exact ⟨rfl,by omega⟩
theorem prow_skip {n:Nat} {q:Nat→Nat} (hq:∀i,i<n→q i<n) {i j:Nat} (hj:j<n) (h:q i≠j):prow n q (i*n+j+1)=prow n q (i*n+j):=by
 unfold prow
 apply List.map_congr_left
 intro k hk
 have hk2:=hq k (List.mem_range.1 hk)
 have hne:k*n+q k≠i*n+j:=fun e=>by
  obtain ⟨e1,e2⟩:=sqc_inj hk2 hj e
  subst e1
  exact h e2
 by_cases h2:k*n+q k<i*n+j
 ·rw[if_pos h2,if_pos (by omega)]
 ·rw[if_neg h2,if_neg (by omega)]
theorem prow_set {n:Nat} {q:Nat→Nat} (hq:∀i,i<n→q i<n) {i j:Nat} (hi:i<n) (hj:j<n) (h:q i=j):(prow n q (i*n+j)).set i (j:Int)=prow n q (i*n+j+1):=by
 unfold prow
 rw[rng_set _ hi]
 apply List.map_congr_left
 intro k hk
 have hk2:=hq k (List.mem_range.1 hk)
 by_cases e:k=i
 ·subst e
  rw[updF_same,h,if_pos (by omega)]
 ·rw[updF_other _ _ e]
  have hne:k*n+q k≠i*n+j:=fun e2=>e (sqc_inj hk2 hj e2).1
  by_cases h2:k*n+q k<i*n+j
  ·rw[if_pos h2,if_pos (by omega)]
  ·rw[if_neg h2,if_neg (by omega)]
theorem sqc_lt {n i j:Nat} (hi:i<n) (hj:j<n):i*n+j<n*n:=by
 have:=Nat.mul_le_mul_right n (show i+1≤n from hi)
 rw[Nat.add_mul] at this
 omega
theorem prow_end {n:Nat} {q:Nat→Nat} (hq:∀i,i<n→q i<n):prow n q (n*n)=(List.range n).map fun i=>(q i:Int):=by
 unfold prow
 apply List.map_congr_left
 intro k hk
 have hk1:=List.mem_range.1 hk
 rw[if_pos (sqc_lt hk1 (hq k hk1))]
theorem permF_rng {n:Nat} {q:Nat→Nat} {i:Nat} (hi:i<n):permF ((List.range n).map fun i=>(q i:Int)) i=q i:=by
 unfold permF
 rw[rng_get _ hi]
 omega
theorem perN_rng {n:Nat} {q:Nat→Nat} (hq:∀i,i<n→q i<n) (hj:∀i j,i<n→j<n→q i=q j→i=j):PerN n ((List.range n).map fun i=>(q i:Int)):=by
 refine ⟨by simp,fun i hi=>?_,fun i j hi h2 e=>?_⟩
 ·rw[rng_get _ hi]
  have:=hq i hi
  omega
 ·rw[rng_get _ hi,rng_get _ h2] at e
  exact hj i j hi h2 (by omega)
def loomU (n:Nat) (cs:List Int) (w:Nat→Int) (x i j:Nat):Int:=sigT x (fun y=>if nat cs (i*n+j)=y then w y else 0)
def loomV (n:Nat) (cs:List Int) (w:Nat→Int) (x:Nat) (q:Nat→Nat) (c i j:Nat):Int:=loomU n cs w x i j+if q i=j∧i*n+j<c then w x else 0
theorem loomU_zero (n:Nat) (cs:List Int) (w:Nat→Int) (i j:Nat):loomU n cs w 0 i j=0:=rfl
theorem loomU_end {n:Nat} {cs:List Int} (L:Latin n cs) {w:Nat→Int} {i j:Nat} (hi:i<n) (hj:j<n):loomU n cs w n i j=loomS n cs w i j:=(loom_total L hi hj).symm
theorem loomU_one {n:Nat} {cs:List Int} {w:Nat→Int} {i j:Nat}:∀x,loomU n cs w x i j=if nat cs (i*n+j)<x then w (nat cs (i*n+j)) else 0:=by
 intro x
 induction x with
 | zero=>rw[loomU_zero,if_neg (Nat.not_lt_zero _)]
 | succ x ih =>
  have e:loomU n cs w (x+1) i j=loomU n cs w x i j+if nat cs (i*n+j)=x then w x else 0:=rfl
  rw[e,ih]
  by_cases h:nat cs (i*n+j)<x
  ·rw[if_pos h,if_neg (by omega),if_pos (by omega)];omega
  ·rw[if_neg h]
   by_cases h2:nat cs (i*n+j)=x
   ·rw[if_pos h2,if_pos (by omega),h2];omega
   ·rw[if_neg h2,if_neg (by omega)];rfl
theorem loomU_bd {n:Nat} {cs:List Int} {w:Nat→Int} (hw:∀x,0≤w x∧w x≤19) (x i j:Nat):0≤loomU n cs w x i j∧loomU n cs w x i j≤19:=by
 rw[loomU_one]
 split
 ·exact hw _
 ·omega
theorem loomV_zero (n:Nat) (cs:List Int) (w:Nat→Int) (x:Nat) (q:Nat→Nat) (i j:Nat):loomV n cs w x q 0 i j=loomU n cs w x i j:=by
 unfold loomV;rw[if_neg (fun h=>Nat.not_lt_zero _ h.2)];omega
theorem loomV_end {n:Nat} {cs:List Int} {w:Nat→Int} {x:Nat} {q:Nat→Nat} (hq:∀i j,i<n→j<n→(nat cs (i*n+j)=x↔q i=j)) {i j:Nat} (hi:i<n) (hj:j<n):loomV n cs w x q (n*n) i j=loomU n cs w (x+1) i j:=by
 have e:loomU n cs w (x+1) i j=loomU n cs w x i j+if nat cs (i*n+j)=x then w x else 0:=rfl
 unfold loomV
 rw[e]
 by_cases h:q i=j
 ·rw[if_pos ⟨h,sqc_lt hi hj⟩,if_pos ((hq i j hi hj).2 h)]
 ·rw[if_neg (fun h2=>h h2.1),if_neg (fun h2=>h ((hq i j hi hj).1 h2))]
theorem loomV_skip {n:Nat} {cs:List Int} {w:Nat→Int} {x:Nat} {q:Nat→Nat} {i j i' j':Nat} (hj:j<n) (hj':j'<n) (h:q i≠j):loomV n cs w x q (i*n+j+1) i' j'=loomV n cs w x q (i*n+j) i' j':=by
 unfold loomV
 congr 1
 by_cases h2:q i'=j'
 ·have hne:i'*n+j'≠i*n+j:=fun e=>by
   obtain ⟨e1,e2⟩:=sqc_inj hj' hj e
   subst e1
   exact h (h2.trans e2)
  have hlt:(i'*n+j'<i*n+j+1)=(i'*n+j'<i*n+j):=propext (by omega)
  simp only[hlt]
 ·rw[if_neg (fun h=>h2 h.1),if_neg (fun h=>h2 h.1)]
theorem loomV_hit {n:Nat} {cs:List Int} {w:Nat→Int} {x:Nat} {q:Nat→Nat} {i j i' j':Nat} (hj:j<n) (hj':j'<n) (h:q i=j):loomV n cs w x q (i*n+j+1) i' j'=if i'=i∧j'=j then loomV n cs w x q (i*n+j) i j+w x else loomV n cs w x q (i*n+j) i' j':=by
 by_cases e:i'=i∧j'=j
 ·obtain ⟨rfl,rfl⟩:=e
  rw[if_pos ⟨rfl,rfl⟩]
  unfold loomV
  rw[if_pos ⟨h,Nat.lt_succ_self _⟩,if_neg (fun h=>Nat.lt_irrefl _ h.2)]
  omega
 ·rw[if_neg e]
  unfold loomV
  congr 1
  have hne:i'*n+j'≠i*n+j:=fun e2=>e (sqc_inj hj' hj e2)
  by_cases h2:q i'=j'
  ·have hlt:(i'*n+j'<i*n+j+1)=(i'*n+j'<i*n+j):=propext (by omega)
   simp only[hlt]
  ·rw[if_neg (fun h=>h2 h.1),if_neg (fun h=>h2 h.1)]
theorem loomV_bd {n:Nat} {cs:List Int} {w:Nat→Int} (hw:∀x,0≤w x∧w x≤19) (x:Nat) (q:Nat→Nat) (c i j:Nat):0≤loomV n cs w x q c i j∧loomV n cs w x q c i j≤38:=by
 have h1:=loomU_bd (n:=n) (cs:=cs) hw x i j
 have h2:=hw x
 unfold loomV
 split <;> omega
structure LoomT (n:Nat) (cs:List Int) (w:Nat→Int) (x:Nat) (T:List (List Int × Int)):Prop where
 per:∀t,t∈T→PerN n t.1
 tim:∀t,t∈T→1≤t.2∧t.2≤19
 len:T.length≤x
 sum:∀i j,i<n→j<n→sumT T i j=loomU n cs w x i j
theorem LoomT.nil (n:Nat) (cs:List Int) (w:Nat→Int):LoomT n cs w 0 []:=⟨fun _ h=>(by cases h),fun _ h=>(by cases h),Nat.le_refl _,fun _ _ _ _=>rfl⟩
theorem LoomT.skip {n:Nat} {cs:List Int} {w:Nat→Int} {x:Nat} {T:List (List Int × Int)} (h:LoomT n cs w x T) (h0:w x=0):LoomT n cs w (x+1) T :=
 ⟨h.per,h.tim,by have:=h.len;omega,fun i j hi hj=>by
  have e:loomU n cs w (x+1) i j=loomU n cs w x i j+if nat cs (i*n+j)=x then w x else 0:=rfl
  rw[h.sum i j hi hj,e,h0]
  split <;> omega⟩
theorem LoomT.snoc {n:Nat} {cs:List Int} {w:Nat→Int} {x:Nat} {T:List (List Int × Int)} (h:LoomT n cs w x T) (h1:1≤w x) (h2:w x≤19) {q:Nat→Nat} (hq:∀i,i<n→q i<n) (hj:∀i j,i<n→j<n→q i=q j→i=j) (hx:∀i j,i<n→j<n→(nat cs (i*n+j)=x↔q i=j)) :
  LoomT n cs w (x+1) (T++[((List.range n).map (fun i=>(q i:Int)),w x)]):=by
 refine ⟨fun t ht=>?_,fun t ht=>?_,by have:=h.len;simp;omega,fun i j hi hj=>?_⟩
 ·rcases List.mem_append.1 ht with ht|ht
  ·exact h.per t ht
  ·rw[List.mem_singleton.1 ht];exact perN_rng hq hj
 ·rcases List.mem_append.1 ht with ht|ht
  ·exact h.tim t ht
  ·rw[List.mem_singleton.1 ht];exact ⟨h1,h2⟩
 ·have e:loomU n cs w (x+1) i j=loomU n cs w x i j+if nat cs (i*n+j)=x then w x else 0:=rfl
  have h4:=h.sum i j hi hj
  unfold sumT at h4 ⊢
  rw[List.map_append,List.sum_append,h4,e]
  simp only[List.map_cons,List.map_nil,List.sum_cons,List.sum_nil,Int.add_zero]
  rw[permF_rng hi]
  by_cases h3:q i=j
  ·rw[if_pos h3.symm,if_pos ((hx i j hi hj).2 h3)]
  ·rw[if_neg (fun e=>h3 e.symm),if_neg (fun e=>h3 ((hx i j hi hj).1 e))]
theorem LoomT.zero {n:Nat} {cs:List Int} {w:Nat→Int} {T:List (List Int × Int)} (h:LoomT n cs w n T) (L:Latin n cs) {M:Nat→Nat→Int} (hM:∀i j,i<n→j<n→M i j=loomS n cs w i j) {i j:Nat} (hi:i<n) (hj:j<n):mT M T i j=0:=by
 rw[mT_sum,hM i j hi hj,h.sum i j hi hj,loomU_end L hi hj];omega
end
end Go.Proofs.YtpkghjoippcjeaaGreatDoor
