/- Texts J237 to J239 of this proof, in one file. -/
import Derived.Test.YtpkghjoippcjeaaGreatDoorW53
import Derived.Test.YtpkghjoippcjeaaGreatDoorW71
import Derived.Deep.CutRange
namespace Go.Proofs.YtpkghjoippcjeaaGreatDoor
set_option maxRecDepth 100000
set_option maxHeartbeats 16000000
section
open Go Go.RowKit Go.Maps
attribute [local go_sem] over_cell
attribute [local go_sem] Oper.semAt_some
def symT (w:World) (e:Ending) (w':World):Prop:=e = .returned (.bool true)∧Below w.heap.size w w'
theorem sym_g1 (r C:Int) (a:Option Addr) (nc ca:Nat) (ab:Option Addr) (k cb:Nat) (w:World) (hnc:25<nc) :
  Calls Tryz.prog 3 #[.agg #[.int .i64 r,.int .i64 C,.slice a nc ca],.slice ab k cb] w (symT w):=by
 have HLC:=Lib.hid (fun W=>lcone_c W)
 have hd:decide ((25:Int)<(nc:Int))=true:=decide_eq_true (by omega)
 go_enter Tryz.func3,Tryz.ntmps3
 go_upto_region 1 with fail
 have fB:Below w.heap.size w (w.alloc (.cells #[.int .i64 r,.int .i64 C,.slice a nc ca] 24)):=(Below.refl _ _).alloc (Nat.le_refl _) _
 have FQ:Hid ((w.alloc (.cells #[.int .i64 r,.int .i64 C,.slice a nc ca] 24)).heap[w.heap.size]?=some (.cells #[.int .i64 r,.int .i64 C,.slice a nc ca] 24 (0,0))):=World.alloc_heap_new _ _
 generalize (w.alloc (.cells #[.int .i64 r,.int .i64 C,.slice a nc ca] 24))=W0 at fB FQ ⊢
 obtain ⟨x0,x1,x2,xl⟩:=c3_of FQ.out
 go_wp2_with (first|(go_at_call 5;refine (HLC.out _).mono ?_;rintro _ w1 ⟨rfl,hb1⟩)|fail)
 go_ret
 exact ⟨rfl,keep_trans fB hb1⟩
theorem sym_g2 (r C:Int) (a:Option Addr) (nc ca:Nat) (cs:List Int) (ab:Option Addr) (k cb:Nat) (w:World) (h:IC w a nc cs) (hnc:nc≤25) (h0:¬sqE 0 r C cs=0) :
  Calls Tryz.prog 3 #[.agg #[.int .i64 r,.int .i64 C,.slice a nc ca],.slice ab k cb] w (symT w):=by
 have HLC:=Lib.hid (fun W=>lcone_c W)
 have hd:decide ((25:Int)<(nc:Int))=false:=decide_eq_false (by omega)
 have HCH:=Lib.hid (fun W (hb:Below w.heap.size w W)=>rcheck_c r C a nc ca cs W (h.mono hb))
 have h0':(sqE 0 r C cs != 0)=true:=by simpa using h0
 generalize sqE 0 r C cs=er at HCH h0'
 clear h h0
 go_enter Tryz.func3,Tryz.ntmps3
 go_upto_region 1 with fail
 have fB:Below w.heap.size w (w.alloc (.cells #[.int .i64 r,.int .i64 C,.slice a nc ca] 24)):=(Below.refl _ _).alloc (Nat.le_refl _) _
 have FQ:Hid ((w.alloc (.cells #[.int .i64 r,.int .i64 C,.slice a nc ca] 24)).heap[w.heap.size]?=some (.cells #[.int .i64 r,.int .i64 C,.slice a nc ca] 24 (0,0))):=World.alloc_heap_new _ _
 generalize (w.alloc (.cells #[.int .i64 r,.int .i64 C,.slice a nc ca] 24))=W0 at fB FQ ⊢
 obtain ⟨x0,x1,x2,xl⟩:=c3_of FQ.out
 go_wp2_with (first|(go_at_call 4;refine (HCH.out _ fB).mono ?_;rintro _ w2 ⟨rfl,hb2⟩)|(go_at_call 5;refine (HLC.out _).mono ?_;rintro _ w1 ⟨rfl,hb1⟩)|fail)
 go_ret
 exact ⟨rfl,keep_trans (keep_trans fB hb2) hb1⟩
theorem sym_g3 (r C:Int) (a:Option Addr) (nc ca:Nat) (cs:List Int) (ab:Option Addr) (k cb:Nat) (w:World) (h:IC w a nc cs) (hnc:nc≤25) (h0:sqE 0 r C cs=0) (hr:r<2) :
  Calls Tryz.prog 3 #[.agg #[.int .i64 r,.int .i64 C,.slice a nc ca],.slice ab k cb] w (symT w):=by
 have HLC:=Lib.hid (fun W=>lcone_c W)
 have hd:decide ((25:Int)<(nc:Int))=false:=decide_eq_false (by omega)
 have hr':decide (r<2)=true:=decide_eq_true hr
 have HCH:=Lib.hid (fun W (hb:Below w.heap.size w W)=>rcheck_c r C a nc ca cs W (h.mono hb))
 rw[h0] at HCH
 clear h h0
 go_enter Tryz.func3,Tryz.ntmps3
 go_upto_region 1 with fail
 have fB:Below w.heap.size w (w.alloc (.cells #[.int .i64 r,.int .i64 C,.slice a nc ca] 24)):=(Below.refl _ _).alloc (Nat.le_refl _) _
 have FQ:Hid ((w.alloc (.cells #[.int .i64 r,.int .i64 C,.slice a nc ca] 24)).heap[w.heap.size]?=some (.cells #[.int .i64 r,.int .i64 C,.slice a nc ca] 24 (0,0))):=World.alloc_heap_new _ _
 generalize (w.alloc (.cells #[.int .i64 r,.int .i64 C,.slice a nc ca] 24))=W0 at fB FQ ⊢
 obtain ⟨x0,x1,x2,xl⟩:=c3_of FQ.out
 go_wp2_with (first|(go_at_call 4;refine (HCH.out _ fB).mono ?_;rintro _ w2 ⟨rfl,hb2⟩;have x0':=(hb2.cell (p:=⟨w.heap.size,0,none⟩) xl).trans x0;have xl':=Nat.lt_of_lt_of_le xl hb2.size)|(go_at_call 5;refine (HLC.out _).mono ?_;rintro _ w1 ⟨rfl,hb1⟩)|fail)
 go_ret
 exact ⟨rfl,keep_trans (keep_trans fB hb2) hb1⟩
theorem sym_g4 (r C:Int) (a:Option Addr) (nc ca:Nat) (cs:List Int) (ab:Option Addr) (k cb:Nat) (w:World) (h:IC w a nc cs) (hnc:nc≤25) (h0:sqE 0 r C cs=0) (hr:¬r<2) (hk:20<k) :
  Calls Tryz.prog 3 #[.agg #[.int .i64 r,.int .i64 C,.slice a nc ca],.slice ab k cb] w (symT w):=by
 have HLC:=Lib.hid (fun W=>lcone_c W)
 have hd:decide ((25:Int)<(nc:Int))=false:=decide_eq_false (by omega)
 have hr':decide (r<2)=false:=decide_eq_false hr
 have hk':decide ((20:Int)<(k:Int))=true:=decide_eq_true (by omega)
 have HCH:=Lib.hid (fun W (hb:Below w.heap.size w W)=>rcheck_c r C a nc ca cs W (h.mono hb))
 rw[h0] at HCH
 clear h h0
 go_enter Tryz.func3,Tryz.ntmps3
 go_upto_region 1 with fail
 have fB:Below w.heap.size w (w.alloc (.cells #[.int .i64 r,.int .i64 C,.slice a nc ca] 24)):=(Below.refl _ _).alloc (Nat.le_refl _) _
 have FQ:Hid ((w.alloc (.cells #[.int .i64 r,.int .i64 C,.slice a nc ca] 24)).heap[w.heap.size]?=some (.cells #[.int .i64 r,.int .i64 C,.slice a nc ca] 24 (0,0))):=World.alloc_heap_new _ _
 generalize (w.alloc (.cells #[.int .i64 r,.int .i64 C,.slice a nc ca] 24))=W0 at fB FQ ⊢
 obtain ⟨x0,x1,x2,xl⟩:=c3_of FQ.out
 go_wp2_with (first|(go_at_call 4;refine (HCH.out _ fB).mono ?_;rintro _ w2 ⟨rfl,hb2⟩;have x0':=(hb2.cell (p:=⟨w.heap.size,0,none⟩) xl).trans x0;have xl':=Nat.lt_of_lt_of_le xl hb2.size)|(go_at_call 5;refine (HLC.out _).mono ?_;rintro _ w1 ⟨rfl,hb1⟩)|fail)
 go_ret
 exact ⟨rfl,keep_trans (keep_trans fB hb2) hb1⟩
end
section
open Go Go.RowKit Go.Maps
attribute [local go_sem] over_cell
attribute [local go_sem] Oper.semAt_some
theorem sym_main (n:Nat) (a:Option Addr) (nc ca:Nat) (cs:List Int) (ab:Option Addr) (k cb:Nat) (X:List Int) (w:World) (h:IC w a nc cs) (hnc:nc≤25) (h0:sqE 0 (n:Int) (n:Int) cs=0) (L:Latin n cs) (h2:2≤n) (h5:n≤5) (hk:k≤20) (hbc:BC w ab k X) :
  Calls Tryz.prog 3 #[.agg #[.int .i64 (n:Int),.int .i64 (n:Int),.slice a nc ca],.slice ab k cb] w (symT w):=by
 have HLC:=Lib.hid (fun W=>lcone_c W)
 have hd:decide ((25:Int)<(nc:Int))=false:=decide_eq_false (by omega)
 have hr':decide ((n:Int)<2)=false:=decide_eq_false (by omega)
 have hk':decide ((20:Int)<(k:Int))=false:=decide_eq_false (by omega)
 have HCH:=Lib.hid (fun W (hb:Below w.heap.size w W)=>rcheck_c (n:Int) (n:Int) a nc ca cs W (h.mono hb))
 have HLM:=Lib.hid (fun W (hb:Below w.heap.size w W)=>loomm_c n h2 h5 a nc ca cs ab k cb X W (h.mono hb) L (hbc.mono hb) hk)
 have HL:=Lib.hid L
 rw[h0] at HCH
 clear h h0 hbc L
 go_enter Tryz.func3,Tryz.ntmps3
 go_upto_region 1 with fail
 have fB:Below w.heap.size w (w.alloc (.cells #[.int .i64 (n:Int),.int .i64 (n:Int),.slice a nc ca] 24)):=(Below.refl _ _).alloc (Nat.le_refl _) _
 have FQ:Hid ((w.alloc (.cells #[.int .i64 (n:Int),.int .i64 (n:Int),.slice a nc ca] 24)).heap[w.heap.size]?=some (.cells #[.int .i64 (n:Int),.int .i64 (n:Int),.slice a nc ca] 24 (0,0))):=World.alloc_heap_new _ _
 generalize (w.alloc (.cells #[.int .i64 (n:Int),.int .i64 (n:Int),.slice a nc ca] 24))=W0 at fB FQ ⊢
 obtain ⟨x0,x1,x2,xl⟩:=c3_of FQ.out
 go_upto_region 3 with (first|(go_at_call 4;refine (HCH.out _ fB).mono ?_;rintro _ w2 ⟨rfl,hb2⟩;have x0':=(hb2.cell (p:=⟨w.heap.size,0,none⟩) xl).trans x0;have xl':=Nat.lt_of_lt_of_le xl hb2.size)|fail)
 have y1:=(hb2.cell (p:=⟨w.heap.size,1,none⟩) xl).trans x1
 have y2:=(hb2.cell (p:=⟨w.heap.size,2,none⟩) xl).trans x2
 have hB2:=keep_trans fB hb2
 clear x0 x1 x2 xl hb2 hd hr' hk' fB FQ HCH
 go_upto_region 4 with (go_at_call 6;refine (HLM.out _ hB2).mono ?_;rintro _ w3 ⟨bt,ct,g,c,m,v,pre,rfl,hmx,hent,htm,hlt,hb3⟩)
 have hpl:pre.length≤n:=by have:=hlt.len;rwa [List.length_map] at this
 obtain ⟨aT,cT,rfl,htl⟩:=htm.tl (by omega) (by omega)
 obtain ⟨hsw,hS⟩:=loom_sumW h5 HL.out hent
 generalize sigT n (wtL X)=S at hsw hS
 have z0:=(hb3.cell (p:=⟨w.heap.size,0,none⟩) xl').trans x0'
 have zl:=Nat.lt_of_lt_of_le xl' hb3.size
 have hB3:=keep_trans hB2 hb3
 have HMX:=Lib.hid (hmx.rc (by omega))
 have HRL:Hid (∀i,i<n→(m[i]?.getD []).length=n):=fun i hi=>hmx.rlen hi
 have HBK:=Lib.hid (fun W (hb:Below w3.heap.size w3 W)=>birk_c n h2 h5 (some ⟨bt,0,none⟩) ct m S W (HMX.out.mono hb) HRL.out hsw (by omega))
 have HC1:Hid (∀W,Below w3.heap.size w3 W→pre.length≤(n - 1)*(n - 1)+1→Calls Tryz.prog 8 #[.slice (some ⟨bt,0,none⟩) n ct,.slice aT pre.length cT] W fun e w'=>e = .returned (.int .i64 0)∧Below W.heap.size W w'):=fun W hb hle =>
  cbirk_c n h2 h5 _ ct m S _ _ cT (pre.map (·.2)) W (HMX.out.mono hb) HRL.out hsw (by omega) (htl.below hb) hle hlt.per (fun t ht=>⟨(hlt.tim t ht).1,by have:=(hlt.tim t ht).2;omega⟩) (fun i j hi hj=>loom_zero HL.out hent hlt hi hj)
 have HC2:Hid (∀W,Below w3.heap.size w3 W→∀aU cnt cU T,TL W aU cnt n T→cnt≤(n - 1)*(n - 1)+1→BirT n (entL m) T→(∀t,t∈T→1≤t.2∧t.2≤1000)→sumX T=S→Calls Tryz.prog 8 #[.slice (some ⟨bt,0,none⟩) n ct,.slice aU cnt cU] W fun e w'=>e = .returned (.int .i64 0)∧Below W.heap.size W w'):=fun W hb aU cnt cU T ht hle hB htm hs =>
  cbirk_c n h2 h5 _ ct m S _ _ cU T W (HMX.out.mono hb) HRL.out hsw (by omega) ht hle (fun t ht=>by obtain ⟨k,hk,e⟩:=List.mem_iff_getElem.1 ht;exact hB.per k t (by rw[List.getElem?_eq_getElem hk,e])) htm (fun i j hi hj=>(bir_total hB hsw hs hi hj).1)
 have HTOT:Hid (∀T,BirT n (entL m) T→sumX T=S→∀i j,i<n→j<n→sumT T i j=entL m i j):=fun T hB hs i j hi hj=>(bir_total hB hsw hs hi hj).2
 clear hmx hent htm hlt htl hsw hS x0' xl' y1 y2 hb3 hB2 HL HLM
 go_upto_region 5 with (go_at_call 7;refine (HBK.out _ (Below.refl _ _)).mono ?_;rintro _ w4 ⟨v2,qre,rfl,ht4,hbi,htm,hsx,hb4⟩)
 have hfew:=hbi.few (by omega)
 rw[List.length_map] at hfew
 obtain ⟨q,hq⟩:∃q,(n - 1)*(n - 1)=q:=⟨_,rfl⟩
 have hq16:q≤16:=hq▸Nat.mul_le_mul (show n - 1≤4 by omega) (show n - 1≤4 by omega)
 have hqi:((n:Int) - 1)*((n:Int) - 1)=(q:Int):=by rw[← hq,Int.natCast_mul];congr 1 <;> omega
 rw[hq] at hfew HC1 HC2
 obtain ⟨aU,cU,rfl,htl4⟩:=ht4.tl (by omega) (by omega)
 have hu0:=(hb4.cell (p:=⟨w.heap.size,0,none⟩) zl).trans z0
 have hul:=Nat.lt_of_lt_of_le zl hb4.size
 have HTL:=Lib.hid htl4
 have HBI:=Lib.hid hbi
 have HTM:=Lib.hid htm
 have HSX:=Lib.hid hsx
 have HB4:=Lib.hid hb4
 have HB3:=Lib.hid hB3
 clear htl4 hbi htm hsx hb4 z0 zl ht4 hq hB3
 go_upto_region 6 with fail
 clear hu0 hul
 go_cut [83] from 48 to 82 (fun s83 wx=>s83 = .bool false∧Hid (Below w4.heap.size w4 wx))
 case first =>
  have hdf:decide ((q:Int)+1<(qre.length:Int))=false:=decide_eq_false (by omega)
  by_cases hle:pre.length≤q+1
  ·have hdl:decide ((pre.length:Int)≤(q:Int)+1)=true:=decide_eq_true (by omega)
   go_wp2_with (first|(go_at_call 8;refine (HC2.out _ (keep_trans HB4.out hb5) _ _ _ _ HTLX.out hfew HBI.out HTM.out HSX.out).mono ?_;rintro _ w6 ⟨rfl,hb6⟩)|(go_at_call 8;refine (HC1.out _ HB4.out hle).mono ?_;rintro _ w5 ⟨rfl,hb5⟩;have HTLX:=Lib.hid (HTL.out.below hb5))|fail)
   go_meet
   exact ⟨rfl,keep_trans hb5 hb6⟩
  ·have hdl:decide ((pre.length:Int)≤(q:Int)+1)=false:=decide_eq_false (by omega)
   go_wp2_with (first|(go_at_call 8;refine (HC2.out _ HB4.out _ _ _ _ HTL.out hfew HBI.out HTM.out HSX.out).mono ?_;rintro _ w6 ⟨rfl,hb6⟩)|fail)
   go_meet
   exact ⟨rfl,hb6⟩
 case rest =>
  obtain ⟨rfl,hbc⟩:=hcut
  clear HC1 HC2
  obtain ⟨j0,hj,hx0,hx1,hx2⟩:=info_parts infoInt
  have HQB:Hid (qre.length≤17):=by unfold Hid;omega
  go_upto_region 9 with fail
  go_loopw [10,11,13,14,86] (fun _ _ _ _ s86 wr=>∃i:Nat,i≤n∧s86 = .int .i64 (i:Int)∧Hid (Below w4.heap.size w4 wr)) (fun _ _ _ _ s86 _=>n - (intOf s86).toNat)
  case atStart=>exact ⟨0,by omega,rfl,hbc⟩
  case round =>
   clear hbc
   obtain ⟨i,hi1,rfl,hB⟩:=hrel
   by_cases hin:i<n
   ·have hii:(i:Int)<(n:Int):=by omega
    go_upto_region 12 with (refine wpList_make_full _ rfl _ _ 22 rfl wr.heap.size 3 j0 (.int .i64 0) 1 Tryz.underlying22 hj hx0 hx1 _ _ _ _ n rfl rfl (by simp) (by simp) (by rw[hx2];omega) (by unfold maxLen;omega) (Nat.le_refl _) ?_;intro W5 hown5 hgr5;have hb5:Below wr.heap.size wr W5:=(Below.refl wr.heap.size wr).grown hgr5 (Nat.le_refl _) (fun k e=>by cases e))
    rw[made_zr n] at hown5
    have hO5:OI W5 w4.heap.size wr.heap.size n n (restR (qre.map (·.2)) 0 n i):=by
     rw[restR_zero]
     exact OI.base ⟨by simp,hown5⟩ hB.out.size
    have HO5:=Lib.hid hO5
    have HB5:=Lib.hid (keep_trans hB.out hb5)
    have HG:Hid (w4.heap.size≤wr.heap.size):=hB.out.size
    generalize wr.heap.size=gp at HO5 HG ⊢
    clear hown5 hgr5 hb5 hO5 hB
    go_upto_region 13 with fail
    go_loopw [13,93] (fun _ s93 wr=>∃kk:Nat,kk≤qre.length∧s93 = .int .i64 (kk:Int)∧Hid (OI wr w4.heap.size gp n n (restR (qre.map (·.2)) kk n i))∧Hid (Below w4.heap.size w4 wr)) (fun _ s93 _=>qre.length - (intOf s93).toNat)
    case atStart=>exact ⟨0,by omega,rfl,HO5,HB5⟩
    case round =>
     clear HO5 HB5
     obtain ⟨kk,hkk1,rfl,hO,hB⟩:=hrel
     by_cases hkq:kk<qre.length
     ·have hki:(kk:Int)<(qre.length:Int):=by omega
      obtain ⟨bU,oU,rfl⟩:=tl_addr HTL.out (by omega)
      obtain ⟨a',c',hbl,ht0,ht1,hic,_⟩:=tl_at HTL.out hkq
      have hkT:kk<(qre.map (·.2)).length:=by rw[List.length_map];exact hkq
      have hmem:(qre.map (·.2))[kk]?.getD ([],0)∈qre.map (·.2):=by rw[List.getElem?_eq_getElem hkT];exact List.getElem_mem _
      have hgt:(qre.map (·.2))[kk]?=some ((qre.map (·.2))[kk]?.getD ([],0)):=by rw[List.getElem?_eq_getElem hkT];rfl
      have htb:=HTM.out _ hmem
      obtain ⟨hpn,hpe⟩:=(HBI.out.per kk _ hgt).lt hin
      obtain ⟨b8,o8,ea,hl8,hc8⟩:=hic.2 i hin
      rw[← hpe] at hc8
      obtain ⟨p,hp⟩:∃p,permF ((qre.map (·.2))[kk]?.getD ([],0)).1 i=p:=⟨_,rfl⟩
      rw[hp] at hpn hc8
      have hsb:=sumT_bd (T:=(qre.map (·.2)).take kk) (fun u hu=>HTM.out u (List.mem_of_mem_take hu)) i p
      have hset:=restR_set (T:=qre.map (·.2)) (n:=n) (i:=i) hkT hp
      have HSET:=Lib.hid hset
      obtain ⟨p1,p2,p3⟩:=hO.out.at (k:=p) hpn
      rw[restR_at _ _ _ hpn] at p1
      have hsl:sumT ((qre.map (·.2)).take kk) i p≤17000:=by
       have h1:=hsb.2
       have h2:((qre.map (·.2)).take kk).length≤17:=by rw[List.length_take,List.length_map];have:=HQB.out;omega
       omega
      have hs0:=hsb.1
      generalize ((qre.map (·.2))[kk]?.getD ([],0)).2=t at ht1 htb HSET
      generalize sumT ((qre.map (·.2)).take kk) i p=sm at p1 hsl hs0 HSET
      have u0:=(hB.out.cell (p:=⟨bU,oU+kk*2,none⟩) hbl).trans ht0
      have u1:=(hB.out.cell (p:=⟨bU,oU+kk*2+1,none⟩) hbl).trans ht1
      have ul:=Nat.lt_of_lt_of_le hbl hB.out.size
      have v0:=(hB.out.cell (p:=⟨b8,o8+i,none⟩) hl8).trans hc8
      have vl:=Nat.lt_of_lt_of_le hl8 hB.out.size
      subst ea
      have hpi:(p:Int)<(n:Int):=by omega
      have hp0:decide ((p:Int)<0)=false:=decide_eq_false (by omega)
      have hpg:decide ((n:Int)≤(p:Int))=false:=decide_eq_false (by omega)
      have ht1':decide (t<1)=false:=decide_eq_false (by omega)
      clear hic hmem hgt hpe hc8 hl8 hp hsb hset ht0 ht1 hbl hkT
      go_upto_region 15 with fail
      have zsz:(wr.alloc (.cells #[.slice (some ⟨b8,o8,none⟩) n c',.int .i64 t] 37)).heap.size=wr.heap.size+1:=by simp only[World.size_alloc]
      have zB:Below wr.heap.size wr (wr.alloc (.cells #[.slice (some ⟨b8,o8,none⟩) n c',.int .i64 t] 37)):=(Below.refl _ _).alloc (Nat.le_refl _) _
      have zq0:(wr.alloc (.cells #[.slice (some ⟨b8,o8,none⟩) n c',.int .i64 t] 37)).heap[wr.heap.size]?=some (.cells #[.slice (some ⟨b8,o8,none⟩) n c',.int .i64 t] 37 (0,0)):=by have h:=World.alloc_heap_new wr (.cells #[.slice (some ⟨b8,o8,none⟩) n c',.int .i64 t] 37);exact h
      generalize (wr.alloc (.cells #[.slice (some ⟨b8,o8,none⟩) n c',.int .i64 t] 37))=W6 at zsz zB zq0 ⊢
      have t0:W6.cell? ⟨wr.heap.size,0,none⟩=some (.slice (some ⟨b8,o8,none⟩) n c'):=q_cell zq0 0
      have t1:W6.cell? ⟨wr.heap.size,1,none⟩=some (.int .i64 t):=q_cell zq0 1
      have tl:=q_lt zq0
      have v0':=(zB.cell (p:=⟨b8,o8+i,none⟩) vl).trans v0
      have vl':=Nat.lt_of_lt_of_le vl zB.size
      have hO6:=hO.out.keep zB
      have hB6:=keep_trans hB.out zB
      have hne:wr.heap.size≠gp:=by have:=hO.out.blk.2;omega
      have HO6:=Lib.hid hO6
      have HB6:=Lib.hid hB6
      obtain ⟨p1',p2',p3'⟩:=hO6.at (k:=p) hpn
      have p1'':W6.cell? ⟨gp,p,none⟩=some (.int .i64 sm):=((zB.cell (p:=⟨gp,p,none⟩) p3)).trans p1
      generalize wr.heap.size=bx at t0 t1 tl hne ⊢
      clear zq0 zsz zB u0 u1 ul v0 vl hO hB hO6 hB6 p1' p1 p2 p3
      go_upto_region 17 with fail
      refine wp_region_T (fun w'=>∃u,w'=over (W6) u) [0,1,3,8] [12] [(0,2),(0,4),(0,5),(0,6),(0,7),(0,9),(0,10),(0,11),(2,12)] (by kernel_rfl) (by kernel_rfl) (by exact ⟨_,below_over (by repeat (first|assumption|exact Below.refl _ _|refine keep_drew ?_|refine keep_alloc ?_ _|refine keep_trans ?_ (by assumption)))⟩) ?_
      dsimp only[pickF,nthOp]
      repeat (first|(refine wpF_skip rfl (fun K hK=>?_);go_big_quiet_op;refine hK _ ?_;clear hK K)|(refine wpF_quiet rfl rfl (fun K hK=>?_);go_big_quiet_op;refine hK _ ?_;clear hK K))
      refine wpF_end ?_
      dsimp only[pickOps,nthOp]
      repeat (first|(refine wpS_skip rfl (fun K hK=>?_);go_big_quiet_op;refine hK _ ?_;clear hK K)|(refine wpS_quiet rfl rfl (fun K hK=>?_);go_big_quiet_op;refine hK _ ?_;clear hK K))
      refine wpS_late _ _ _ rfl ?_
      dsimp only[List.map]
      go_wp2
      refine NoPanic.normal ?_
      have HO7:Hid (OI (W6.setCell ⟨gp,p,none⟩ (.int .i64 (sm+t))).drew w4.heap.size gp n n (restR (qre.map (·.2)) (kk+1) n i)):=by
       have:=(HO6.out.set p (sm+t)).drew
       rw[HSET.out] at this
       exact this
      have HB7:Hid (Below w4.heap.size w4 (W6.setCell ⟨gp,p,none⟩ (.int .i64 (sm+t))).drew):=(HB6.out.setCell (p:=⟨gp,p,none⟩) HG.out (.int .i64 (sm+t))).drew
      go_wp2_with fail
      go_roundw
      case rel=>exact ⟨kk+1,by omega,by go_num,HO7,HB7⟩
      case measure=>simp[intOf];omega
     ·have e:kk=qre.length:=by omega
      subst e
      have hO0:=hO.out
      have HSU:Hid (∀j,j<n→(restR (qre.map (·.2)) qre.length n i)[j]?.getD 0=entL m i j):=fun j hj=>by
       rw[restR_at _ _ _ hj,List.take_of_length_le (by rw[List.length_map];exact Nat.le_refl _)]
       exact HTOT.out _ HBI.out HSX.out i j hin hj
      generalize restR (qre.map (·.2)) qre.length n i=xs at hO0 HSU
      have HO0:=Lib.hid hO0
      clear hO hO0
      go_upto_region 20 with fail
      go_loopw [14,139] (fun _ s139 wr=>∃j:Nat,j≤n∧s139 = .int .i64 (j:Int)∧Hid (OI wr w4.heap.size gp n n xs)∧Hid (Below w4.heap.size w4 wr)) (fun _ s139 _=>n - (intOf s139).toNat)
      case atStart=>exact ⟨0,by omega,rfl,HO0,hB⟩
      case round =>
       clear HO0 hB
       obtain ⟨j,hj1,rfl,hO,hB⟩:=hrel
       by_cases hjn:j<n
       ·have hji:(j:Int)<(n:Int):=by omega
        obtain ⟨p1,p2,p3⟩:=hO.out.at (k:=j) hjn
        rw[HSU.out j hjn] at p1
        obtain ⟨b8,o8,a8,n8,c8,ea,hl8,hc8,hic,_⟩:=HMX.out.2 i hin
        have e8:n8=n:=hic.1.1.symm.trans (HRL.out i hin)
        rw[e8] at hc8 hic
        cases ea
        rw[Nat.zero_add] at hc8
        clear e8
        obtain ⟨b9,o9,eb,hl9,hc9⟩:=hic.2 j hjn
        have hbB:=keep_trans HB4.out hB.out
        have v0:=(hbB.cell (p:=⟨bt,i,none⟩) hl8).trans hc8
        have vl:=Nat.lt_of_lt_of_le hl8 hbB.size
        have u0:wr.cell? ⟨b9,o9+j,none⟩=some (.int .i64 (entL m i j)):=(hbB.cell (p:=⟨b9,o9+j,none⟩) hl9).trans hc9
        have ul:=Nat.lt_of_lt_of_le hl9 hbB.size
        subst eb
        generalize entL m i j=y at p1 u0
        clear hic hc8 hc9 hbB hl8 hl9
        go_upto_region 22 with fail
        refine wp_region_T (fun w'=>∃u,w'=over (wr) u) [0,1,2,4,5,6,8] [] [(0,3),(0,7),(0,9),(0,10),(0,11)] (by kernel_rfl) (by kernel_rfl) (by exact ⟨_,below_over (by repeat (first|assumption|exact Below.refl _ _|refine keep_drew ?_|refine keep_alloc ?_ _|refine keep_trans ?_ (by assumption)))⟩) ?_
        dsimp only[pickF,nthOp]
        repeat (first|(refine wpF_skip rfl (fun K hK=>?_);go_big_quiet_op;refine hK _ ?_;clear hK K)|(refine wpF_quiet rfl rfl (fun K hK=>?_);go_big_quiet_op;refine hK _ ?_;clear hK K))
        refine wpF_end ?_
        dsimp only[pickOps,nthOp]
        repeat (first|(refine wpS_skip rfl (fun K hK=>?_);go_big_quiet_op;refine hK _ ?_;clear hK K)|(refine wpS_quiet rfl rfl (fun K hK=>?_);go_big_quiet_op;refine hK _ ?_;clear hK K))
        refine wpS_end ?_
        have HO9:=Lib.hid hO.out.drew
        have HB9:Hid (Below w4.heap.size w4 wr.drew):=hB.out.drew
        go_wp2_with fail
        go_roundw
        case rel=>exact ⟨j+1,by omega,by go_num,HO9,HB9⟩
        case measure=>simp[intOf];omega
       ·have e:j=n:=by omega
        subst e
        go_wp2_with fail
        go_roundw
        case rel=>exact ⟨i+1,by omega,by go_num,hB⟩
        case measure=>simp[intOf];omega
   ·have e:i=n:=by omega
    subst e
    go_wp2_with (first|(go_at_call 5;refine (HLC.out _).mono ?_;rintro _ w9 ⟨rfl,hb9⟩)|fail)
    go_ret
    exact ⟨rfl,HB3.out.trans ((keep_trans (keep_trans HB4.out hB.out) hb9).mono HB3.out.size)⟩
end
section
open Go Go.RowKit Go.Maps
theorem lsym_c (r C:Int) (a:Option Addr) (nc ca:Nat) (cs:List Int) (ab:Option Addr) (k cb:Nat) (X:List Int) (w:World) (h:IC w a nc cs) (_hc:nc≤ca) (hb:BC w ab k X) :
  Calls Tryz.prog 3 #[.agg #[.int .i64 r,.int .i64 C,.slice a nc ca],.slice ab k cb] w fun e w'=>e = .returned (.bool true)∧Below w.heap.size w w':=by
 by_cases hnc:25<nc
 ·exact sym_g1 r C a nc ca ab k cb w hnc
 have hnc':nc≤25:=by omega
 by_cases h0:sqE 0 r C cs=0
 case neg=>exact sym_g2 r C a nc ca cs ab k cb w h hnc' h0
 by_cases hr:r<2
 ·exact sym_g3 r C a nc ca cs ab k cb w h hnc' h0 hr
 by_cases hk:20<k
 ·exact sym_g4 r C a nc ca cs ab k cb w h hnc' h0 hr hk
 obtain ⟨n,rfl,rfl,L⟩:=sqE_ok h0
 have e1:=L.len
 have e2:=h.len
 have h5:n≤5:=Nat.not_lt.1 fun h4=>by have:=Nat.mul_le_mul (show 6≤n from h4) (show 6≤n from h4);omega
 exact sym_main n a nc ca cs ab k cb X w h hnc' h0 L (by omega) h5 (by omega) hb
end
end Go.Proofs.YtpkghjoippcjeaaGreatDoor
