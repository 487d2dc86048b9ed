/- Texts A4 to A4 of this proof, in one file. -/
import Derived.Test.YtcblpobiefmjmaaGreatW52
namespace Go.Proofs.YtcblpobiefmjmaaGreat
set_option maxRecDepth 100000
set_option maxHeartbeats 16000000
section
open Go Go.RowKit
attribute [local go_sem] over_cell
attribute [local go_sem] Oper.semAt_some
theorem rbeyond_c (a:Option Addr) (n c:Nat) (ls:List (List Int)) (cells sum:Int) (a':Option Addr) (n' c':Nat) (ar:Option Addr) (N cs:Nat) (Ms:List Nat) (k:Nat) (ci:Int) (m:Nat) (w:World) (h:RC w a n ls) (hs:BS w ar N (N+1) Ms) (hk:k<n) (hB:BoundC Ms N) (hne:∀i,i<N→Ms[i]?.getD 0≠0)
  (hr:∀x,x∈ls[k]?.getD []→0≤x∧x<(N:Int)) (hsum:1≤sum∧sum≤999999999) (hl:(ls[k]?.getD []).length≤1000) (hm:m<N) :
  Calls Tryz.prog 126 #[.agg #[.int .i64 cells,.slice a n c,.int .i64 sum,.slice a' n' c'],.slice ar N cs,.int .i64 k,.int .i64 ci,.int .i64 ((m:Int)+1)] w fun e w'=>e = .returned (.bool (beyondQ sum Ms (ls[k]?.getD []) ci m))∧Below w.heap.size w w':=by
 obtain ⟨b,off,al,nl,cl,rfl,hb,hc,hic,hcl⟩:=h.2 k hk
 have hll:=hic.len
 have hN:=hs.1.2.1
 have HE:Hid (beyondQ sum Ms (ls[k]?.getD []) ci m=(decide (sum - ((m:Int)+1)<(lowQ Ms (ls[k]?.getD []) ci nl:Nat))||decide (((highQ Ms (ls[k]?.getD []) ci nl:Nat):Int)<sum - ((m:Int)+1)))):=by unfold Hid beyondQ;rw[hll]
 generalize ls[k]?.getD []=l at hic hr hl HE hll ⊢
 have HR:Hid (∀j,j<nl→0≤l[j]?.getD 0∧l[j]?.getD 0<(N:Int)):=fun j hj=>hr _ (by rw[List.getElem?_eq_getElem (by omega)];exact List.getElem_mem _)
 have HB:=Lib.hid hB
 have HNE:=Lib.hid hne
 have hnl:nl≤1000:=by omega
 have hki:(k:Int)<(n:Int):=by omega
 have hs1:=hsum.1
 have hs2:=hsum.2
 clear hr hl hB hne hll hsum h
 go_enter Tryz.func126,Tryz.ntmps126
 go_wp2_with fail
 have fsz:(w.alloc (.cells #[.int .i64 cells,.slice (some ⟨b,off,none⟩) n c,.int .i64 sum,.slice a' n' c'] 28)).heap.size=w.heap.size+1:=by simp only[World.size_alloc]
 have fB:Below w.heap.size w (w.alloc (.cells #[.int .i64 cells,.slice (some ⟨b,off,none⟩) n c,.int .i64 sum,.slice a' n' c'] 28)):=(Below.refl _ _).alloc (Nat.le_refl _) _
 have fq0:(w.alloc (.cells #[.int .i64 cells,.slice (some ⟨b,off,none⟩) n c,.int .i64 sum,.slice a' n' c'] 28)).heap[w.heap.size]?=some (.cells #[.int .i64 cells,.slice (some ⟨b,off,none⟩) n c,.int .i64 sum,.slice a' n' c'] 28 (0,0)):=by have h:=World.alloc_heap_new w (.cells #[.int .i64 cells,.slice (some ⟨b,off,none⟩) n c,.int .i64 sum,.slice a' n' c'] 28);exact h
 generalize (w.alloc (.cells #[.int .i64 cells,.slice (some ⟨b,off,none⟩) n c,.int .i64 sum,.slice a' n' c'] 28))=W0 at fsz fB fq0 ⊢
 have x1:W0.cell? ⟨w.heap.size,1,none⟩=some (.slice (some ⟨b,off,none⟩) n c):=q_cell fq0 1
 have x2:W0.cell? ⟨w.heap.size,2,none⟩=some (.int .i64 sum):=q_cell fq0 2
 have xl:=q_lt fq0
 have hc2:=((bcell fB).1 b _ hb).trans hc
 have hb2:=Nat.lt_of_lt_of_le hb fB.size
 have HI:=Lib.hid (hic.mono fB)
 have HS:=Lib.hid (hs.mono fB).2
 clear fq0 fsz hic hs hc hb
 go_wp2_with fail
 go_loop [11,12,14] (fun lv hv iv=>∃j:Nat,j≤nl∧iv = .int .i64 j∧lv = .int .i64 (lowQ Ms l ci j:Nat)∧hv = .int .i64 (highQ Ms l ci j:Nat)) (fun _ _ iv=>nl - (intOf iv).toNat)
 case atStart=>exact ⟨0,by omega,rfl,rfl,rfl⟩
 case round =>
  obtain ⟨j,hj,rfl,rfl,rfl⟩:=hrel
  obtain ⟨hlo,hhi⟩:=low_le (Ms:=Ms) (l:=l) (c:=ci) j
  by_cases hlt:j<nl
  ·have hji:(j:Int)<(nl:Int):=by omega
   obtain ⟨b3,off3,rfl,hb3,hc3⟩:=HI.out.2 j hlt
   have hx:=HR.out j hlt
   have HL1:Hid (lowQ Ms l ci (j+1)=lowQ Ms l ci j+if l[j]?.getD 0=ci then 0 else aboveM (Ms[(l[j]?.getD 0).toNat]?.getD 0) 0):=rfl
   have HH1:Hid (highQ Ms l ci (j+1)=highQ Ms l ci j+if l[j]?.getD 0=ci then 0 else greatM (Ms[(l[j]?.getD 0).toNat]?.getD 0)):=rfl
   generalize l[j]?.getD 0=xv at hx hc3 HL1 HH1
   obtain ⟨x,rfl⟩:∃x:Nat,xv=(x:Int):=⟨xv.toNat,by omega⟩
   rw[Int.toNat_natCast] at HL1 HH1
   have hxN:x<N:=by omega
   have hxi:=hx.2
   by_cases he:(x:Int)=ci
   ·have hd:((x:Int) != ci)=false:=by simpa using he
    rw[if_pos he] at HL1 HH1
    clear he hx
    go_wp2_with fail
    go_round
    case rel=>exact ⟨j+1,by omega,by go_num,by rw[HL1.out];rfl,by rw[HH1.out];rfl⟩
    case measure=>simp[intOf];omega
   ·have hd:((x:Int) != ci)=true:=by simpa using he
    rw[if_neg he] at HL1 HH1
    obtain ⟨b4,off4,a4,c4,rfl,hb4,hc4,hbr,_⟩:=HS.out x hxN
    have hbd:∀j,(Ms[x]?.getD 0).testBit j=true→j+1<N+1:=fun j hj=>by have:=HB.out x j hj;omega
    have HLE:=Lib.hid (rleast_c a4 (N+1) c4 _ W0 hbr (by omega) hbd (HNE.out x hxN))
    have HGR:=Lib.hid (rgreat_c a4 (N+1) c4 _ W0 hbr (by omega) hbd (HNE.out x hxN))
    have h5:=aboveM_le (Ms[x]?.getD 0) 0
    have h6:greatM (Ms[x]?.getD 0)≤256:=by
     have:=(great_pos hbd (by omega) (HNE.out x hxN)).2.1
     omega
    generalize aboveM (Ms[x]?.getD 0) 0=y at HL1 HLE h5
    generalize greatM (Ms[x]?.getD 0)=z at HH1 HGR h6
    generalize lowQ Ms l ci j=p at hlo HL1 ⊢
    generalize highQ Ms l ci j=q at hhi HH1 ⊢
    clear he hx hbd hbr
    go_wp2_with (first|(go_at_call 165;refine HLE.out.mono ?_;rintro _ _ ⟨rfl,rfl⟩)|(go_at_call 166;refine HGR.out.mono ?_;rintro _ _ ⟨rfl,rfl⟩))
    go_round
    case rel=>exact ⟨j+1,by omega,by go_num,by rw[HL1.out];go_num,by rw[HH1.out];go_num⟩
    case measure=>simp[intOf];omega
  ·have e:j=nl:=by omega
   subst e
   have hji:¬(j:Int)<(j:Int):=by omega
   generalize lowQ Ms l ci j=p at hlo HE ⊢
   generalize highQ Ms l ci j=q at hhi HE ⊢
   by_cases h1:sum - ((m:Int)+1)<(p:Int)
   ·rw[decide_eq_true h1,Bool.true_or] at HE
    go_wp2_with fail
    go_ret
    exact ⟨ret_bool HE.out.symm,fB⟩
   ·have h1':decide (sum - ((m:Int)+1)<(p:Int))=false:=decide_eq_false h1
    rw[h1',Bool.false_or] at HE
    by_cases h2:(q:Int)<sum - ((m:Int)+1)
    ·have h2':decide ((q:Int)<sum - ((m:Int)+1))=true:=decide_eq_true h2
     rw[h2'] at HE
     go_wp2_with fail
     go_ret
     exact ⟨ret_bool HE.out.symm,fB⟩
    ·have h2':decide ((q:Int)<sum - ((m:Int)+1))=false:=decide_eq_false h2
     rw[h2'] at HE
     go_wp2_with fail
     go_ret
     exact ⟨ret_bool HE.out.symm,fB⟩
end
end Go.Proofs.YtcblpobiefmjmaaGreat
