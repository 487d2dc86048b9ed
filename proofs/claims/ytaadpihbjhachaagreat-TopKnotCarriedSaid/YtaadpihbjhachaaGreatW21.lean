/- Texts Reg5 to B8 of this proof, in one file. -/
import Derived.Test.YtaadpihbjhachaaGreatW03
import Derived.Test.YtaadpihbjhachaaGreatW05
import Derived.Test.YtaadpihbjhachaaGreatW10
import Derived.Test.YtaadpihbjhachaaGreatW18
import Derived.Test.YtaadpihbjhachaaGreatW20
namespace Go.Proofs.YtaadpihbjhachaaGreat
set_option maxRecDepth 100000
set_option maxHeartbeats 16000000
section
open Go Go.RowKit
section
variable {P:Program} {ops:Array Oper} {Q:Exit→Act→World→Prop} {md:Region.Mode} {S:World→Prop}
def forkOk2 (md:Region.Mode) (ops:Array Oper) (lt:List Nat) (i j:Nat) (t1 t2:List (Nat × Nat)):List Nat→Array Bool→Bool
 | [],listed=>((Region.ready md ops listed)==[i,j])&&seqOk md ops lt t1 (listed.setIfInBounds i true)&&seqOk md ops lt t2 (listed.setIfInBounds j true)
 | k :: qs,listed =>
  (Region.ready md ops listed).contains k&&Region.free md ops listed k&&!lt.contains k&&lt.all (fun j=>(closure md ops ops.size (aftersOf md ops j)).contains k)&&forkOk2 md ops lt i j t1 t2 qs (listed.setIfInBounds k true)
theorem wpL_of_fork2 (hs:Region.noSelect ops=true) (lt:List Nat) (i j:Nat) (t1 t2:List (Nat × Nat)) (hl:t2.length=t1.length) (hQ:∀c a d v w,Q (.panic c) (Act.put a d v) w→Q (.panic c) a w) :
  ∀(qs:List Nat) (listed:Array Bool) (a:Act) (w:World),Closed md ops listed→S w→forkOk2 md ops lt i j t1 t2 qs listed=true →
   wpS P ops S Q (pickOps ops.toList (qs.map (fun k=>(0,k))++(1,i) :: t1)) a w→wpS P ops S Q (pickOps ops.toList (qs.map (fun k=>(0,k))++(1,j) :: t2)) a w →
   wpL P md ops Q S (fun i=>lt.contains i) (qs.length+(t1.length+1)) listed a w
 | [],listed,a,w,hcl,hSw,hc,h1,h2=>by
  simp only[forkOk2,Bool.and_eq_true,beq_iff_eq] at hc
  obtain ⟨⟨hr,hc1⟩,hc2⟩:=hc
  rw[show ([]:List Nat).length+(t1.length+1)=t1.length+1 from by simp]
  refine ⟨fun h0=>absurd (hr▸h0) (by simp),fun k hk=>?_⟩
  have hk':=hk
  rw[hr] at hk'
  rcases List.mem_cons.1 hk' with rfl|hk2
  ·exact loud_step hs lt hQ (t:=t1) hcl hSw hk hc1 h1
  ·obtain rfl:k=j:=by simpa using hk2
   rw[← hl]
   exact loud_step hs lt hQ (t:=t2) hcl hSw hk hc2 h2
 | k :: qs,listed,a,w,hcl,hSw,hc,h1,h2=>by
  simp only[forkOk2,Bool.and_eq_true] at hc
  obtain ⟨⟨⟨⟨hr,hf⟩,hnl⟩,hla⟩,hc'⟩:=hc
  obtain ⟨oi,hoi⟩:∃oi,ops[k]?=some oi:=by
   obtain ⟨_,oi,h1,_⟩:=(mem_ready (md:=md) (ops:=ops) (listed:=listed) (j:=k)).1 (by simpa using hr)
   exact ⟨oi,h1⟩
  have hp:nthOp ops.toList k=some oi:=by rw[nthOp_eq];simpa using hoi
  have hnl':lt.contains k=false:=by simpa using hnl
  have hlate:∀j listed,lt.contains j=true→Closed md ops listed→j∈Region.ready md ops listed→listed.getD k false=true:=by
   intro j listed' hl hcl' hj
   have h1:=List.all_eq_true.1 hla j (by simpa using hl)
   exact closure_listed hcl' _ _ (ready_afters hj) k (by simpa using h1)
  simp only[List.map_cons,List.cons_append,pickOps,hp,wpS] at h1 h2
  rw[show (k :: qs).length+(t1.length+1)=(qs.length+(t1.length+1))+1 from by simp only[List.length_cons];omega]
  have key:∀v,YieldsIf P ops S oi v a→wpS P ops S Q (pickOps ops.toList (qs.map (fun k=>(0,k))++(1,i) :: t1)) (a.put oi.dst v) w→wpS P ops S Q (pickOps ops.toList (qs.map (fun k=>(0,k))++(1,j) :: t2)) (a.put oi.dst v) w→wpL P md ops Q S (fun i=>lt.contains i) (qs.length+(t1.length+1)+1) listed a w:=by
   intro v hy k1 k2
   exact wpL_first hoi (Region.noSelect_spec hs) (fun c a' w'=>hQ c a' _ _ w') hnl' hlate (qs.length+(t1.length+1)) listed a w hcl (Region.free_spec hoi hf) (by simpa using hr) hy hSw
    (wpL_of_fork2 hs lt i j t1 t2 hl hQ qs _ _ w (hcl.set (by simpa using hr)) hSw hc' k1 k2)
  by_cases hw:Region.wanted oi (yielded ops a.tmps)=true
  ·rw[if_pos hw] at h1 h2
   obtain ⟨v,hv,hK⟩:=h1
   obtain ⟨v2,hv2,hK2⟩:=h2
   have e:=(hv w hSw).symm.trans (hv2 w hSw)
   simp only[Result.ok.injEq,Next.value.injEq,and_true] at e
   subst e
   exact key v (.inl ⟨hw,hv⟩) hK hK2
  ·rw[if_neg hw] at h1 h2
   exact key undef (.inr ⟨by simpa using hw,rfl⟩) h1 h2
theorem wp_region_fork2 {id:Nat} {l:List Oper} {a:Act} {w:World} (S:World→Prop) (lt qs:List Nat) (i j:Nat) (t1 t2:List (Nat × Nat))
  (hm:P.follows .mixedOrders=true) (hc:(Region.noSelect l.toArray&&decide (t2.length=t1.length)&&decide (qs.length+(t1.length+1)≤l.length)&&forkOk2 .any l.toArray lt i j t1 t2 qs (Array.replicate l.length false))=true)
  (hS:S w.drew)
  (h1:wpS P l.toArray S (NoPanic Q) (pickOps l (qs.map (fun k=>(0,k))++(1,i) :: t1)) a w.drew)
  (h2:wpS P l.toArray S (NoPanic Q) (pickOps l (qs.map (fun k=>(0,k))++(1,j) :: t2)) a w.drew):(Code.region id l.toArray true).wp P Q a w:=by
 refine wp_region_noPanic ?_
 simp only[Bool.and_eq_true,decide_eq_true_eq] at hc
 obtain ⟨⟨⟨hs,hl⟩,hlen⟩,hc⟩:=hc
 refine wp_region_any hm ?_
 obtain ⟨m,hm'⟩:∃m,l.toArray.size=(qs.length+(t1.length+1))+m:=⟨l.length - (qs.length+(t1.length+1)),by simp;omega⟩
 rw[hm']
 refine wpAny_more _ _ _ _ _ (wpAny_of_L (S:=S) (late:=fun i=>lt.contains i) _ _ _ _ ?_)
 have e:Array.replicate (qs.length+(t1.length+1)+m) false=Array.replicate l.length false:=by rw[← hm'];simp
 rw[e]
 exact wpL_of_fork2 hs lt i j t1 t2 hl (fun _ _ _ _ _ h=>h) qs _ a w.drew (closed_none _) hS hc h1 h2
end
end
section
open Go Go.RowKit
attribute [local go_sem] over_cell
attribute [local go_sem] Oper.semAt_some
theorem infoBool1:(Tryz.prog.info? 4).map (fun i=>(i.zero,i.size,i.bytes))=some (some (.bool false),1,1):=by kernel_rfl
def seenL (n:Nat) (p:List Int) (k:Nat):List Value:=(List.range n).map fun (i:Nat)=>Value.bool (hasB (p.take k) (i:Int))
theorem seen_zero (n:Nat) (p:List Int):(madeCells (Value.bool false).cells (n*1)).toList=seenL n p 0:=by
 have e:(madeCells (Value.bool false).cells (n*1)).toList=List.replicate n (.bool false):=by
  apply List.ext_getElem?
  intro i
  by_cases h:i<n
  ·simp[madeCells,h,Value.cells,Nat.mod_one]
  ·simp[madeCells,h]
 rw[e]
 unfold seenL
 apply List.ext_getElem
 ·simp
 ·intro i h1 h2
  simp[hasB]
theorem seen_set {n:Nat} {p:List Int} {k q:Nat} (hk:k<p.length) (hq:p[k]?.getD 0=(q:Int)):(seenL n p k).set q (.bool true)=seenL n p (k+1):=by
 unfold seenL
 apply List.ext_getElem
 ·simp
 ·intro i h1 h2
  rw[List.getElem_set]
  simp only[List.getElem_map,List.getElem_range]
  have e:hasB (p.take (k+1)) (i:Int)=(hasB (p.take k) (i:Int)||(q==i)):=by
   unfold hasB
   rw[take_snoc p 0 k hk,hq,Bool.eq_iff_iff,Bool.or_eq_true,List.contains_iff_mem,List.contains_iff_mem,List.mem_append,List.mem_singleton,beq_iff_eq]
   constructor
   ·rintro (h|h)
    ·exact .inl h
    ·exact .inr (by omega)
   ·rintro (h|h)
    ·exact .inl h
    ·exact .inr (by omega)
  rw[e]
  by_cases hi:q=i
  ·subst hi;simp
  ·simp[hi]
theorem seen_at {n:Nat} {p:List Int} {k q:Nat} {x:Value} (h:(seenL n p k)[q]?=some x):x = .bool (hasB (p.take k) (q:Int)):=by
 unfold seenL at h
 rw[List.getElem?_map] at h
 cases h2:(List.range n)[q]? with
 | none=>rw[h2] at h;cases h
 | some j =>
  rw[h2] at h
  have:j=q:=by
   have h3:=List.getElem?_eq_some_iff.1 h2
   obtain ⟨h4,h5⟩:=h3
   simpa using h5.symm
  subst this
  simpa using h.symm
theorem aperm_c (a:Option Addr) (n c:Nat) (p:List Int) (w:World) (h:IC w a n p) :
  Calls Tryz.prog 215 #[.slice a n c] w fun e w'=>e = .returned (.int .i64 (permE p))∧Below w.heap.size w w':=by
 obtain ⟨i0,hi,hz0,hz1,hz2⟩:=info_parts infoBool1
 have hm:=h.small
 have hlen:=h.len
 by_cases hbig:256<n
 ·have HE:Hid (permE p=5):=by unfold Hid permE;rw[if_pos (by omega)]
  have hbi:(256:Int)<(n:Int):=by omega
  clear h hlen
  go_enter Tryz.func215,Tryz.ntmps215
  go_wp2
  go_ret
  exact ⟨ret_int HE.out.symm,Below.refl _ _⟩
 ·have HE1:Hid (∀k,k<n→badP p k=true→permE p=14):=fun k hk e=>by unfold permE;rw[if_neg (by omega),permB_miss (by omega) e];rfl
  have HE0:Hid ((∀k,k<n→badP p k=false)→permE p=0):=fun e=>by unfold permE;rw[if_neg (by omega),permB_end (fun k hk=>e k (by omega))];rfl
  have H:=Lib.hid h
  have HL:=Lib.hid hlen
  have HBD:Hid (∀k,badP p k=(decide (p[k]?.getD 0<0)||(decide ((n:Int)≤p[k]?.getD 0)||hasB (p.take k) (p[k]?.getD 0)))):=fun k=>by unfold badP;rw[hlen]
  have HSS:Hid (∀k q:Nat,k<n→p[k]?.getD 0=(q:Int)→(seenL n p k).set q (.bool true)=seenL n p (k+1)):=fun k q hk e=>seen_set (by omega) e
  clear h hlen
  generalize permE p=er at HE1 HE0 ⊢
  have hnb:¬(256:Int)<(n:Int):=by omega
  go_enter Tryz.func215,Tryz.ntmps215
  go_wp2_with (refine wpList_make_full _ rfl _ _ 156 rfl w.heap.size 4 i0 (.bool false) 1 Tryz.underlying156 hi hz0 hz1 _ _ _ _ n rfl rfl (by simp) (by simp) (by rw[hz2];omega) (by unfold maxLen;omega) (Nat.le_refl _) ?_;intro W4 hown4 hgr4)
  rw[seen_zero n p] at hown4
  have hB4:Below w.heap.size w W4:=(Below.refl w.heap.size w).grown hgr4 (Nat.le_refl _) (fun k e=>by cases e)
  clear hgr4
  go_loopw [5,14] (fun _ iv wr=>∃k:Nat,k≤n∧iv = .int .i64 k∧wr.ownsRow w.heap.size 4 1 (.slice (some ⟨w.heap.size,0,none⟩) n n) n (seenL n p k)∧Hid (∀j,j<k→badP p j=false)∧Below w.heap.size w wr) (fun _ iv _=>n - (intOf iv).toNat)
  case atStart=>exact ⟨0,by omega,rfl,hown4,fun j hj=>absurd hj (by omega),hB4⟩
  case round =>
   clear hown4 hB4
   obtain ⟨k,hk,rfl,hown,hno,hbr⟩:=hrel
   by_cases hlt:k<n
   ·have hki:(k:Int)<(n:Int):=by omega
    obtain ⟨b5,o5,rfl,hb5,hc5⟩:=(H.out.mono hbr).2 k hlt
    have HX:=Lib.hid (HBD.out k)
    have HE1k:=Lib.hid (HE1.out k hlt)
    have HSK:=Lib.hid (fun q=>HSS.out k q hlt)
    have HNK:Hid (badP p k=false→∀j,j<k+1→badP p j=false):=fun e=>upb_snoc hno.out e
    generalize badP p k=bd at HX HE1k HNK
    generalize p[k]?.getD 0=x at hc5 HX HSK
    by_cases hx0:x<0
    ·have hd:decide (x<0)=true:=decide_eq_true hx0
     rw[hd,Bool.true_or] at HX
     go_wp2
     go_ret
     exact ⟨ret_int (HE1k.out HX.out).symm,hbr⟩
    ·have hd:decide (x<0)=false:=decide_eq_false hx0
     rw[hd,Bool.false_or] at HX
     by_cases hxn:(n:Int)≤x
     ·have hd2:decide ((n:Int)≤x)=true:=decide_eq_true hxn
      rw[hd2,Bool.true_or] at HX
      go_wp2
      go_ret
      exact ⟨ret_int (HE1k.out HX.out).symm,hbr⟩
     ·have hd2:decide ((n:Int)≤x)=false:=decide_eq_false hxn
      rw[hd2,Bool.false_or] at HX
      obtain ⟨q,rfl⟩:=Int.eq_ofNat_of_zero_le (show 0≤x by omega)
      have hqn:q<n:=by omega
      have hqi:(q:Int)<(n:Int):=by omega
      have hqi0:(0:Int)≤(q:Int):=by omega
      obtain ⟨g9,c9,x9,e9,hx9,hcell9,hfr9,hlt9,hn9⟩:=owns_free (owns_base hown (Nat.zero_le _)) q hqn
      simp only[Value.slice.injEq,Option.some.injEq,Addr.mk.injEq,true_and,and_true] at e9
      obtain ⟨e9,hcap9⟩:=e9
      subst e9
      clear hcap9
      obtain rfl:=seen_at hx9
      generalize hasB (p.take k) (q:Int)=hb at HX hcell9
      cases hb with
      | true =>
       clear hx9 hfr9
       go_wp2
       go_ret
       exact ⟨ret_int (HE1k.out HX.out).symm,hbr⟩
      | false =>
       have HSO:=Lib.hid (owns_set hown q (.bool true))
       rw[HSK.out q rfl] at HSO
       have HSB:Hid (∀u,Below w.heap.size w (wr.setCell ⟨w.heap.size,q,none⟩ u)):=fun u=>hbr.setCell (p:=⟨w.heap.size,q,none⟩) (Nat.le_refl _) u
       clear hx9 hown
       go_wp2
       go_roundw
       case rel=>exact ⟨k+1,by omega,by go_num,HSO.out,HNK.out HX.out,HSB.out _⟩
       case measure=>simp[intOf];omega
   ·have e:k=n:=by omega
    subst e
    have HF:=Lib.hid (HE0.out hno.out)
    go_wp2
    go_ret
    exact ⟨ret_int HF.out.symm,hbr⟩
theorem rperm_c (a:Option Addr) (n c:Nat) (p:List Int) (w:World) (h:IC w a n p) :
  Calls Tryz.prog 124 #[.slice a n c] w fun e w'=>e = .returned (.int .i64 (permE p))∧Below w.heap.size w w':=by
 obtain ⟨i0,hi,hz0,hz1,hz2⟩:=info_parts infoBool1
 have hm:=h.small
 have hlen:=h.len
 by_cases hbig:256<n
 ·have HE:Hid (permE p=5):=by unfold Hid permE;rw[if_pos (by omega)]
  have hbi:(256:Int)<(n:Int):=by omega
  clear h hlen
  go_enter Tryz.func124,Tryz.ntmps124
  go_wp2
  go_ret
  exact ⟨ret_int HE.out.symm,Below.refl _ _⟩
 ·have HE1:Hid (∀k,k<n→badP p k=true→permE p=14):=fun k hk e=>by unfold permE;rw[if_neg (by omega),permB_miss (by omega) e];rfl
  have HE0:Hid ((∀k,k<n→badP p k=false)→permE p=0):=fun e=>by unfold permE;rw[if_neg (by omega),permB_end (fun k hk=>e k (by omega))];rfl
  have H:=Lib.hid h
  have HBD:Hid (∀k,badP p k=(decide (p[k]?.getD 0<0)||(decide ((n:Int)≤p[k]?.getD 0)||hasB (p.take k) (p[k]?.getD 0)))):=fun k=>by unfold badP;rw[hlen]
  have HSS:Hid (∀k q:Nat,k<n→p[k]?.getD 0=(q:Int)→(seenL n p k).set q (.bool true)=seenL n p (k+1)):=fun k q hk e=>seen_set (by omega) e
  clear h hlen
  generalize permE p=er at HE1 HE0 ⊢
  have hnb:¬(256:Int)<(n:Int):=by omega
  go_enter Tryz.func124,Tryz.ntmps124
  go_wp2_with (refine wpList_make_full _ rfl _ _ 156 rfl w.heap.size 4 i0 (.bool false) 1 Tryz.underlying156 hi hz0 hz1 _ _ _ _ n rfl rfl (by simp) (by simp) (by rw[hz2];omega) (by unfold maxLen;omega) (Nat.le_refl _) ?_;intro W4 hown4 hgr4)
  rw[seen_zero n p] at hown4
  have hB4:Below w.heap.size w W4:=(Below.refl w.heap.size w).grown hgr4 (Nat.le_refl _) (fun k e=>by cases e)
  clear hgr4
  go_loopw [4] (fun iv wr=>∃k:Nat,k≤n∧iv = .int .i64 k∧wr.ownsRow w.heap.size 4 1 (.slice (some ⟨w.heap.size,0,none⟩) n n) n (seenL n p k)∧Hid (∀j,j<k→badP p j=false)∧Below w.heap.size w wr) (fun iv _=>n - (intOf iv).toNat)
  case atStart=>exact ⟨0,by omega,rfl,hown4,fun j hj=>absurd hj (by omega),hB4⟩
  case round =>
   clear hown4 hB4
   obtain ⟨k,hk,rfl,hown,hno,hbr⟩:=hrel
   by_cases hlt:k<n
   ·have hki:(k:Int)<(n:Int):=by omega
    obtain ⟨b5,o5,rfl,hb5,hc5⟩:=(H.out.mono hbr).2 k hlt
    have HX:=Lib.hid (HBD.out k)
    have HE1k:=Lib.hid (HE1.out k hlt)
    have HSK:=Lib.hid (fun q=>HSS.out k q hlt)
    have HNK:Hid (badP p k=false→∀j,j<k+1→badP p j=false):=fun e=>upb_snoc hno.out e
    generalize badP p k=bd at HX HE1k HNK
    generalize p[k]?.getD 0=x at hc5 HX HSK
    by_cases hx0:x<0
    ·have hd:decide (x<0)=true:=decide_eq_true hx0
     rw[hd,Bool.true_or] at HX
     go_wp2
     go_ret
     exact ⟨ret_int (HE1k.out HX.out).symm,hbr⟩
    ·have hd:decide (x<0)=false:=decide_eq_false hx0
     rw[hd,Bool.false_or] at HX
     by_cases hxn:(n:Int)≤x
     ·have hd2:decide ((n:Int)≤x)=true:=decide_eq_true hxn
      rw[hd2,Bool.true_or] at HX
      go_wp2
      go_ret
      exact ⟨ret_int (HE1k.out HX.out).symm,hbr⟩
     ·have hd2:decide ((n:Int)≤x)=false:=decide_eq_false hxn
      rw[hd2,Bool.false_or] at HX
      obtain ⟨q,rfl⟩:=Int.eq_ofNat_of_zero_le (show 0≤x by omega)
      have hqn:q<n:=by omega
      have hqi:(q:Int)<(n:Int):=by omega
      have hqi0:(0:Int)≤(q:Int):=by omega
      obtain ⟨g9,c9,x9,e9,hx9,hcell9,hfr9,hlt9,hn9⟩:=owns_free (owns_base hown (Nat.zero_le _)) q hqn
      simp only[Value.slice.injEq,Option.some.injEq,Addr.mk.injEq,true_and,and_true] at e9
      obtain ⟨e9,hcap9⟩:=e9
      subst e9
      clear hcap9
      obtain rfl:=seen_at hx9
      generalize hasB (p.take k) (q:Int)=hb at HX hcell9
      cases hb with
      | true =>
       clear hx9 hfr9
       go_wp2
       go_ret
       exact ⟨ret_int (HE1k.out HX.out).symm,hbr⟩
      | false =>
       have HSO:=Lib.hid (owns_set hown q (.bool true))
       rw[HSK.out q rfl] at HSO
       have HSB:Hid (∀u,Below w.heap.size w (wr.setCell ⟨w.heap.size,q,none⟩ u)):=fun u=>hbr.setCell (p:=⟨w.heap.size,q,none⟩) (Nat.le_refl _) u
       clear hx9 hown
       go_wp2
       go_roundw
       case rel=>exact ⟨k+1,by omega,by go_num,HSO.out,HNK.out HX.out,HSB.out _⟩
       case measure=>simp[intOf];omega
   ·have e:k=n:=by omega
    subst e
    have HF:=Lib.hid (HE0.out hno.out)
    go_wp2
    go_ret
    exact ⟨ret_int HF.out.symm,hbr⟩
theorem gwhen_c (h:Bool) (e:Int) (w:World):Calls Tryz.prog 102 #[.bool h,.int .i64 e] w fun r w'=>r = .returned (.int .i64 (whenV h e))∧w=w':=by
 cases h
 ·go_enter Tryz.func102,Tryz.ntmps102
  go_wp2
  go_ret
  exact ⟨rfl,rfl⟩
 ·go_enter Tryz.func102,Tryz.ntmps102
  go_wp2
  go_ret
  exact ⟨rfl,rfl⟩
theorem gfirst_c (a:Option Addr) (n c:Nat) (xs:List Int) (w:World) (h:IC w a n xs) :
  Calls Tryz.prog 93 #[.slice a n c] w fun e w'=>e = .returned (.int .i64 (firstL xs))∧w=w':=by
 have hm:=h.small
 go_enter Tryz.func93,Tryz.ntmps93
 go_wp2
 go_loop [4,7] (fun _ i=>∃k:Nat,k≤n∧i = .int .i64 k∧Hid (∀j,j<k→xs[j]?.getD 0=0)) (fun _ i=>n - (intOf i).toNat)
 case atStart=>exact ⟨0,by omega,rfl,fun j hj=>absurd hj (by omega)⟩
 case round =>
  obtain ⟨k,hk,rfl,hn⟩:=hrel
  by_cases hlt:k<n
  ·obtain ⟨b,off,rfl,hb,hc⟩:=h.2 k hlt
   go_wp2
   ·have he:(xs[k]?.getD 0 != 0)=true:=by assumption
    go_ret
    exact ⟨ret_int (firstL_hit hn.out (by rw[h.len];exact hlt) (by simpa using he)).symm,rfl⟩
   ·have he:(xs[k]?.getD 0 != 0)=false:=by assumption
    go_round
    case rel=>exact ⟨k+1,by omega,by go_num,upto_snoc hn.out (by simpa using he)⟩
    case measure=>simp[intOf];omega
  ·have e:k=n:=by omega
   subst e
   go_wp2
   go_ret
   exact ⟨ret_int (firstL_none (by rw[h.len];exact hn.out)).symm,rfl⟩
theorem gisperm_c (a:Option Addr) (n c:Nat) (p:List Int) (w:World) (h:IC w a n p) :
  Calls Tryz.prog 157 #[.slice a n c] w fun e w'=>e = .returned (.bool (permE p==0))∧Below w.heap.size w w':=by
 have HP:=Lib.hid (aperm_c a n c p w h)
 clear h
 generalize permE p=er at HP ⊢
 go_enter Tryz.func157,Tryz.ntmps157
 go_wp2_with (go_at_call 215;refine HP.out.mono ?_;rintro _ w1 ⟨rfl,hb1⟩)
 go_ret
 exact ⟨rfl,hb1⟩
def cellsB (cells:Int):Bool:=decide (cells<0)||decide (256<cells)
theorem gcells_c (cells:Int) (w:World):Calls Tryz.prog 156 #[.int .i64 cells] w fun e w'=>e = .returned (.int .i64 (whenV (cellsB cells) 3))∧w=w':=by
 by_cases h:cells<0
 ·have hd:decide (cells<0)=true:=decide_eq_true h
  have HE:Hid (cellsB cells=true):=by unfold Hid cellsB;rw[hd];rfl
  go_enter Tryz.func156,Tryz.ntmps156
  go_wp2_with (go_at_call 102;refine (gwhen_c _ _ _).mono ?_;rintro _ w1 ⟨rfl,rfl⟩)
  go_ret
  exact ⟨by rw[HE.out];rfl,rfl⟩
 ·have hd:decide (cells<0)=false:=decide_eq_false h
  have HE:Hid (cellsB cells=decide (256<cells)):=by unfold Hid cellsB;rw[hd];rfl
  go_enter Tryz.func156,Tryz.ntmps156
  go_wp2_with (go_at_call 102;refine (gwhen_c _ _ _).mono ?_;rintro _ w1 ⟨rfl,rfl⟩)
  go_ret
  exact ⟨by rw[HE.out];rfl,rfl⟩
def symP (cells:Int) (p:List Int):Int:=firstL [whenV (cellsB cells) 3,whenV ((p.length:Int) != cells) 2,whenV (!(permE p==0)) 14]
def symR (cells:Int) (p:List Int):Int:=if cellsB cells=true then 3 else if (p.length:Int)≠cells then 2 else permE p
theorem gsym_c (a:Option Addr) (n c:Nat) (p:List Int) (cp:Bool) (cells:Int) (w:World) (h:IC w a n p) :
  Calls Tryz.prog 84 #[.agg #[.slice a n c,.bool cp],.int .i64 cells] w fun e w'=>e = .returned (.int .i64 (symP cells p))∧Below w.heap.size w w':=by
 have HP:=Lib.hid (fun W (hb:Below w.heap.size w W)=>gisperm_c a n c p W (h.mono hb))
 have HE:Hid (symP cells p=firstL [whenV (cellsB cells) 3,whenV ((n:Int) != cells) 2,whenV (!(permE p==0)) 14]):=by unfold Hid symP;rw[h.len]
 have hm:=h.small
 clear h
 generalize symP cells p=se at HE ⊢
 generalize (permE p==0)=pe at HP HE
 go_enter Tryz.func84,Tryz.ntmps84
 go_wp2_with fail
 have fsz:(w.alloc (.cells #[.slice a n c,.bool cp] 29)).heap.size=w.heap.size+1:=by simp only[World.size_alloc]
 have fB:Below w.heap.size w (w.alloc (.cells #[.slice a n c,.bool cp] 29)):=(Below.refl _ _).alloc (Nat.le_refl _) _
 have fq0:(w.alloc (.cells #[.slice a n c,.bool cp] 29)).heap[w.heap.size]?=some (.cells #[.slice a n c,.bool cp] 29 (0,0)):=by have h:=World.alloc_heap_new w (.cells #[.slice a n c,.bool cp] 29);exact h
 generalize (w.alloc (.cells #[.slice a n c,.bool cp] 29))=W0 at fsz fB fq0 ⊢
 have x0:W0.cell? ⟨w.heap.size,0,none⟩=some (.slice a n c):=q_cell fq0 0
 have xl:=q_lt fq0
 clear fq0 fsz
 refine wp_region_S (fun w'=>∃u,w'=over (W0) u) [15,14,13,12] [(0,0),(0,2),(0,3),(0,4),(0,5),(0,6),(0,8),(0,9),(1,1),(1,7),(1,10),(0,11),(2,12),(2,13),(2,14),(2,15)] (by kernel_rfl) (by kernel_rfl) (by exact ⟨_,below_over (by repeat (first|assumption|exact Below.refl _ _|refine keep_drew ?_|refine keep_alloc ?_ _|refine keep_trans ?_ (by assumption)))⟩) ?_
 dsimp only[pickOps,nthOp]
 repeat (first|(refine wpS_skip rfl (fun K hK=>?_);go_big_quiet_op;refine hK _ ?_;clear hK K)|(refine wpS_quiet rfl rfl (fun K hK=>?_);go_big_quiet_op;refine hK _ ?_;clear hK K)|(refine wpS_loud ?_;go_wp2_with (first|(go_at_call 156;refine (gcells_c _ _).mono ?_;rintro _ w1 ⟨rfl,rfl⟩)|(go_at_call 102;refine (gwhen_c _ _ _).mono ?_;rintro _ w2 ⟨rfl,rfl⟩)|(go_at_call 157;refine (HP.out _ (keep_trans fB (keep_drew (Below.refl _ _)))).mono ?_;rintro _ w3 ⟨rfl,hb3⟩)|(go_at_call 93;refine (gfirst_c _ _ _ _ _ (IC.new3 _ _ _ _ _)).mono ?_;rintro _ w4 ⟨rfl,rfl⟩));refine ⟨?_,?_⟩;focus (exact ⟨_,below_over (by repeat (first|assumption|exact Below.refl _ _|refine keep_drew ?_|refine keep_alloc ?_ _|refine keep_trans ?_ (by assumption)))⟩)))
 refine wpS_late _ _ _ rfl ?_
 dsimp only[List.map]
 go_wp2_with (first|(go_at_call 156;refine (gcells_c _ _).mono ?_;rintro _ w1 ⟨rfl,rfl⟩)|(go_at_call 102;refine (gwhen_c _ _ _).mono ?_;rintro _ w2 ⟨rfl,rfl⟩)|(go_at_call 157;refine (HP.out _ (keep_trans fB (keep_drew (Below.refl _ _)))).mono ?_;rintro _ w3 ⟨rfl,hb3⟩)|(go_at_call 93;refine (gfirst_c _ _ _ _ _ (IC.new3 _ _ _ _ _)).mono ?_;rintro _ w4 ⟨rfl,rfl⟩))
 refine NoPanic.normal ?_
 go_wp2_with fail
 go_ret
 refine ⟨ret_int HE.out.symm,keep_trans fB ?_⟩
 exact keep_alloc (keep_trans (keep_drew (Below.refl _ _)) hb3) _
theorem rcells_c (cells:Int) (w:World):Calls Tryz.prog 105 #[.int .i64 cells] w fun e w'=>e = .returned (.int .i64 (whenV (cellsB cells) 3))∧w=w':=by
 by_cases h:cells<0
 ·have hd:decide (cells<0)=true:=decide_eq_true h
  have HE:Hid (cellsB cells=true):=by unfold Hid cellsB;rw[hd];rfl
  go_enter Tryz.func105,Tryz.ntmps105
  go_wp2
  go_ret
  exact ⟨by rw[HE.out];rfl,rfl⟩
 ·have hd:decide (cells<0)=false:=decide_eq_false h
  have HE:Hid (cellsB cells=decide (256<cells)):=by unfold Hid cellsB;rw[hd];rfl
  by_cases h2:256<cells
  ·have hd2:decide (256<cells)=true:=decide_eq_true h2
   rw[hd2] at HE
   go_enter Tryz.func105,Tryz.ntmps105
   go_wp2
   go_ret
   exact ⟨by rw[HE.out];rfl,rfl⟩
  ·have hd2:decide (256<cells)=false:=decide_eq_false h2
   rw[hd2] at HE
   go_enter Tryz.func105,Tryz.ntmps105
   go_wp2
   go_ret
   exact ⟨by rw[HE.out];rfl,rfl⟩
theorem rsym_c (a:Option Addr) (n c:Nat) (p:List Int) (cp:Bool) (cells:Int) (w:World) (h:IC w a n p) :
  Calls Tryz.prog 51 #[.agg #[.slice a n c,.bool cp],.int .i64 cells] w fun e w'=>e = .returned (.int .i64 (symR cells p))∧Below w.heap.size w w':=by
 have HP:=Lib.hid (fun W (hb:Below w.heap.size w W)=>rperm_c a n c p W (h.mono hb))
 have HE:Hid (symR cells p=if cellsB cells=true then 3 else if (n:Int)≠cells then 2 else permE p):=by unfold Hid symR;rw[h.len]
 have HC:=Lib.hid (fun W=>rcells_c cells W)
 have hm:=h.small
 clear h
 generalize symR cells p=se at HE ⊢
 generalize permE p=pe at HP HE
 generalize cellsB cells=cb at HC HE
 go_enter Tryz.func51,Tryz.ntmps51
 go_wp2_with fail
 have fsz:(w.alloc (.cells #[.slice a n c,.bool cp] 29)).heap.size=w.heap.size+1:=by simp only[World.size_alloc]
 have fB:Below w.heap.size w (w.alloc (.cells #[.slice a n c,.bool cp] 29)):=(Below.refl _ _).alloc (Nat.le_refl _) _
 have fq0:(w.alloc (.cells #[.slice a n c,.bool cp] 29)).heap[w.heap.size]?=some (.cells #[.slice a n c,.bool cp] 29 (0,0)):=by have h:=World.alloc_heap_new w (.cells #[.slice a n c,.bool cp] 29);exact h
 generalize (w.alloc (.cells #[.slice a n c,.bool cp] 29))=W0 at fsz fB fq0 ⊢
 have x0:W0.cell? ⟨w.heap.size,0,none⟩=some (.slice a n c):=q_cell fq0 0
 have xl:=q_lt fq0
 clear fq0 fsz
 cases cb with
 | true =>
  rw[if_pos rfl] at HE
  go_wp2_with (first|(go_at_call 105;refine (HC.out _).mono ?_;rintro _ w1 ⟨rfl,rfl⟩))
  go_ret
  exact ⟨ret_int HE.out.symm,fB⟩
 | false =>
  rw[if_neg (by decide)] at HE
  by_cases hne:(n:Int)=cells
  ·rw[if_neg (fun h=>h hne)] at HE
   subst hne
   go_wp2_with (first|(go_at_call 105;refine (HC.out _).mono ?_;rintro _ w1 ⟨rfl,rfl⟩)|(go_at_call 124;refine (HP.out _ fB).mono ?_;rintro _ w3 ⟨rfl,hb3⟩))
   go_ret
   exact ⟨ret_int HE.out.symm,keep_trans fB hb3⟩
  ·rw[if_pos hne] at HE
   have hnb:((n:Int) != cells)=true:=by simpa using hne
   go_wp2_with (first|(go_at_call 105;refine (HC.out _).mono ?_;rintro _ w1 ⟨rfl,rfl⟩))
   go_ret
   exact ⟨ret_int HE.out.symm,fB⟩
theorem alone_c (a:Option Addr) (n c:Nat) (p:List Int) (cp:Bool) (w:World) (h:IC w a n p) :
  Calls Tryz.prog 10 #[.agg #[.slice a n c,.bool cp]] w fun e w'=>e = .returned (.int .i64 (symR (n:Int) p))∧Below w.heap.size w w':=by
 have HP:=Lib.hid (fun W (hb:Below w.heap.size w W)=>rsym_c a n c p cp (n:Int) W (h.mono hb))
 have hm:=h.small
 clear h
 generalize symR (n:Int) p=pe at HP ⊢
 go_enter Tryz.func10,Tryz.ntmps10
 go_wp2_with fail
 have fsz:(w.alloc (.cells #[.slice a n c,.bool cp] 29)).heap.size=w.heap.size+1:=by simp only[World.size_alloc]
 have fB:Below w.heap.size w (w.alloc (.cells #[.slice a n c,.bool cp] 29)):=(Below.refl _ _).alloc (Nat.le_refl _) _
 have fq0:(w.alloc (.cells #[.slice a n c,.bool cp] 29)).heap[w.heap.size]?=some (.cells #[.slice a n c,.bool cp] 29 (0,0)):=by have h:=World.alloc_heap_new w (.cells #[.slice a n c,.bool cp] 29);exact h
 generalize (w.alloc (.cells #[.slice a n c,.bool cp] 29))=W0 at fsz fB fq0 ⊢
 have x0:W0.cell? ⟨w.heap.size,0,none⟩=some (.slice a n c):=q_cell fq0 0
 have x1:W0.cell? ⟨w.heap.size,1,none⟩=some (.bool cp):=q_cell fq0 1
 have xl:=q_lt fq0
 clear fq0 fsz
 go_wp2_with (first|(go_at_call 51;refine (HP.out _ fB).mono ?_;rintro _ w3 ⟨rfl,hb3⟩))
 go_ret
 exact ⟨rfl,keep_trans fB hb3⟩
theorem symR_ok {n:Nat} {p:List Int} (hl:p.length=n) (h:symR (n:Int) p=0):n≤256∧PermP p∧permE p=0:=by
 unfold symR at h
 by_cases h1:cellsB (n:Int)=true
 ·rw[if_pos h1] at h;cases h
 ·rw[if_neg h1,if_neg (fun e=>e (by omega))] at h
  have:=perm_ok h
  exact ⟨by omega,this.2,h⟩
theorem symP_ok {n:Nat} {p:List Int} (hl:p.length=n) (h:permE p=0):symP (n:Int) p=0:=by
 have h1:=(perm_ok h).1
 have h2:cellsB (n:Int)=false:=by unfold cellsB;rw[decide_eq_false (by omega),decide_eq_false (by omega)];rfl
 have h3:((p.length:Int) != (n:Int))=false:=by rw[hl];simp
 unfold symP
 rw[h2,h3,h]
 rfl
end
section
open Go Go.RowKit
attribute [local go_sem] over_cell
attribute [local go_sem] Oper.semAt_some
theorem infoInt1:(Tryz.prog.info? 3).map (fun i=>(i.zero,i.size,i.bytes))=some (some (.int .i64 0),1,8):=by kernel_rfl
theorem made_zero (n:Nat):(madeCells (Value.int .i64 0).cells (n*1)).toList=(List.replicate n (0:Int)).map (Value.int .i64):=by
 apply List.ext_getElem?
 intro i
 by_cases h:i<n
 ·simp[madeCells,h,Value.cells,Nat.mod_one]
 ·simp[madeCells,h]
theorem gfar_c (x:Int) (w:World):Calls Tryz.prog 87 #[.int .i64 x] w fun e w'=>e = .returned (.bool (outB (-999999999) 999999999 x))∧w=w':=by
 by_cases h:x < -999999999
 ·have hd:decide (x < -999999999)=true:=decide_eq_true h
  have HE:Hid (outB (-999999999) 999999999 x=true):=by unfold Hid outB;rw[hd];rfl
  go_enter Tryz.func87,Tryz.ntmps87
  go_wp2
  go_ret
  exact ⟨by rw[HE.out];rfl,rfl⟩
 ·have hd:decide (x < -999999999)=false:=decide_eq_false h
  have HE:Hid (outB (-999999999) 999999999 x=decide (999999999<x)):=by unfold Hid outB;rw[hd];rfl
  go_enter Tryz.func87,Tryz.ntmps87
  go_wp2
  go_ret
  exact ⟨by rw[HE.out];rfl,rfl⟩
theorem gfar_fn:∀(args:Array Value) (w:World),Sem.run Tryz.prog (callFunc 87 args) w = .ok (.enter 87 args) w:=by
 intro args w;kernel_rfl
theorem gany_c (a:Option Addr) (n c:Nat) (f:List Int) (w:World) (h:IC w a n f) (hf:∀i,i<n → -999999999≤f[i]?.getD 0∧f[i]?.getD 0≤999999999) :
  Calls Tryz.prog 86 #[.slice a n c,.func (.func 87) #[] #[]] w fun e w'=>e = .returned (.bool false)∧Below w.heap.size w w':=by
 refine (containsFuncI_c a n c f 87 #[] (fun k=>outB (-999999999) 999999999 (f[k]?.getD 0)) w h gfar_fn (fun k hk W hb=>?_)).mono ?_
 ·refine (gfar_c _ W).mono ?_
  rintro _ w1 ⟨rfl,rfl⟩
  exact ⟨rfl,Below.refl _ _⟩
 ·rintro _ w1 ⟨rfl,hb⟩
  refine ⟨?_,hb⟩
  have:anyP (fun k=>outB (-999999999) 999999999 (f[k]?.getD 0)) n=false:=by
   unfold anyP
   rw[List.any_eq_false]
   intro k hk
   rw[List.mem_range] at hk
   have:=hf k hk
   unfold outB
   rw[decide_eq_false (by omega),decide_eq_false (by omega)]
   decide
  rw[this]
theorem gfill_c (a:Option Addr) (n c:Nat) (f:List Int) (w:World) (h:IC w a n f) (hn:n≤256) (hf:∀i,i<n → -999999999≤f[i]?.getD 0∧f[i]?.getD 0≤999999999) :
  Calls Tryz.prog 83 #[.slice a n c] w fun e w'=>e = .returned (.int .i64 0)∧Below w.heap.size w w':=by
 have HC:=Lib.hid (fun W (hb:Below w.heap.size w W)=>gany_c a n c f W (h.mono hb) hf)
 clear h hf
 have hd:decide ((256:Int)<(n:Int))=false:=decide_eq_false (by omega)
 go_enter Tryz.func83,Tryz.ntmps83
 go_wp2_with (first|(go_at_call 102;refine (gwhen_c _ _ _).mono ?_;rintro _ w2 ⟨rfl,rfl⟩)|(go_at_call 86;refine (HC.out _ (Below.refl _ _)).mono ?_;rintro _ w3 ⟨rfl,hb3⟩)|(go_at_call 93;refine (gfirst_c _ _ _ _ _ (IC.new2 _ _ _ _)).mono ?_;rintro _ w4 ⟨rfl,rfl⟩))
 go_ret
 refine ⟨rfl,?_⟩
 exact keep_alloc hb3 _
theorem gimage_c (a:Option Addr) (n c:Nat) (p:List Int) (cp:Bool) (af:Option Addr) (cf:Nat) (f:List Int) (w:World) (h:IC w a n p) (hp:PermP p) (hn:n≤256) (hf:IC w af n f) (hfb:∀i,i<n→1≤f[i]?.getD 0∧f[i]?.getD 0≤(n:Int)) :
  Calls Tryz.prog 85 #[.agg #[.slice a n c,.bool cp],.slice af n cf] w fun e w'=>∃ar,e = .returned (.slice ar n n)∧IC w' ar n (movF cp p f)∧Below w.heap.size w w':=by
 obtain ⟨i0,hi,hz0,hz1,hz2⟩:=info_parts infoInt1
 have hpl:=h.len
 have hfl:=hf.len
 have H:=Lib.hid h
 have HF:=Lib.hid hf
 have HFB:=Lib.hid hfb
 have HPN:Hid (∀k,k<n→0≤p[k]?.getD 0∧p[k]?.getD 0<(n:Int)):=fun k hk=>by have:=hp.num k (by omega);rw[hpl] at this;exact this
 have HE:Hid (movF cp p f=movTo p (f.map (cmN cp (n:Int))) n):=by unfold Hid movF movL;rw[List.length_map,hfl]
 have HM0:Hid ((List.replicate n (0:Int))=movTo p (f.map (cmN cp (n:Int))) 0):=by unfold Hid;rw[movTo_zero,List.length_map,hfl]
 have HMS:Hid (∀k,k<n→(movTo p (f.map (cmN cp (n:Int))) k).set (p[k]?.getD 0).toNat (cmN cp (n:Int) (f[k]?.getD 0))=movTo p (f.map (cmN cp (n:Int))) (k+1)):=fun k hk=>by rw[movTo_succ,map_get (by omega)]
 have HML:Hid (∀k,(movTo p (f.map (cmN cp (n:Int))) k).length=n):=fun k=>by rw[movTo_len,List.length_map,hfl]
 clear h hf hfb hp hpl hfl
 generalize movF cp p f=r at HE ⊢
 generalize movTo p (f.map (cmN cp (n:Int)))=M at HE HM0 HMS HML
 go_enter Tryz.func85,Tryz.ntmps85
 go_upto_region 1 with fail
 have fsz:(w.alloc (.cells #[.slice a n c,.bool cp] 138)).heap.size=w.heap.size+1:=by simp only[World.size_alloc]
 have fB:Below w.heap.size w (w.alloc (.cells #[.slice a n c,.bool cp] 138)):=(Below.refl _ _).alloc (Nat.le_refl _) _
 have fq0:(w.alloc (.cells #[.slice a n c,.bool cp] 138)).heap[w.heap.size]?=some (.cells #[.slice a n c,.bool cp] 138 (0,0)):=by have h:=World.alloc_heap_new w (.cells #[.slice a n c,.bool cp] 138);exact h
 generalize (w.alloc (.cells #[.slice a n c,.bool cp] 138))=W0 at fsz fB fq0 ⊢
 have HQ:=Lib.hid fq0
 have fsz':w.heap.size<W0.heap.size:=by omega
 clear fq0 fsz
 go_wp2_with (refine wpList_make_full _ rfl _ _ 25 rfl W0.heap.size 3 i0 (.int .i64 0) 1 Tryz.underlying25 hi hz0 hz1 _ _ _ _ n rfl rfl (by simp) (by simp) (by rw[hz2];omega) (by unfold maxLen;omega) (Nat.le_refl _) ?_;intro W4 hown4 hgr4)
 rw[made_zero n,HM0.out] at hown4
 have hB4:Below W0.heap.size W0 W4:=(Below.refl W0.heap.size W0).grown hgr4 (Nat.le_refl _) (fun k e=>by cases e)
 clear hgr4
 go_loopw [6,7,13] (fun _ _ iv wr=>∃k:Nat,k≤n∧iv = .int .i64 k∧wr.ownsRow W0.heap.size 3 1 (.slice (some ⟨W0.heap.size,0,none⟩) n n) n ((M k).map (Value.int .i64))∧Below W0.heap.size W0 wr) (fun _ _ iv _=>n - (intOf iv).toNat)
 case atStart=>exact ⟨0,by omega,rfl,hown4,hB4⟩
 case round =>
  clear hown4 hB4
  obtain ⟨k,hk,rfl,hown,hbr⟩:=hrel
  have hBr:=keep_trans fB hbr
  have x0:wr.cell? ⟨w.heap.size,0,none⟩=some (.slice a n c):=q_cell (keepq hbr HQ.out) 0
  have x1:wr.cell? ⟨w.heap.size,1,none⟩=some (.bool cp):=q_cell (keepq hbr HQ.out) 1
  have xl:=q_lt (keepq hbr HQ.out)
  by_cases hlt:k<n
  ·have hki:(k:Int)<(n:Int):=by omega
   obtain ⟨b5,o5,rfl,hb5,hc5⟩:=(H.out.mono hBr).2 k hlt
   obtain ⟨b6,o6,rfl,hb6,hc6⟩:=(HF.out.mono hBr).2 k hlt
   have HMk:=Lib.hid (HMS.out k hlt)
   have hpk:=HPN.out k hlt
   have hfk:=HFB.out k hlt
   obtain ⟨q,hq⟩:=Int.eq_ofNat_of_zero_le hpk.1
   rw[hq] at hpk hc5 HMk
   clear hq
   rw[Int.toNat_natCast] at HMk
   have hqn:q<n:=by omega
   have hqi:(q:Int)<(n:Int):=by omega
   generalize f[k]?.getD 0=x at hc6 HMk hfk
   obtain ⟨g9,c9,x9,e9,hx9,hcell9,hfr9,hlt9,hn9⟩:=owns_free (owns_base hown (Nat.zero_le _)) q hqn
   simp only[Value.slice.injEq,Option.some.injEq,Addr.mk.injEq,true_and,and_true] at e9
   obtain ⟨e9,hcap9⟩:=e9
   subst e9
   have HSO:Hid (∀v:Int,v=cmN cp (n:Int) x→(wr.setCell ⟨W0.heap.size,q,none⟩ (.int .i64 v)).ownsRow W0.heap.size 3 1 (.slice (some ⟨W0.heap.size,0,none⟩) n n) n ((M (k+1)).map (Value.int .i64))):=fun v hv=>by
    have h1:=owns_set hown q (.int .i64 v)
    rw[hv,← List.map_set,HMk.out,← hv] at h1
    exact h1
   have HSB:Hid (∀u,Below W0.heap.size W0 (wr.setCell ⟨W0.heap.size,q,none⟩ u)):=fun u=>hbr.setCell (p:=⟨W0.heap.size,q,none⟩) (Nat.le_refl _) u
   clear hx9 hcap9 hown
   cases cp with
   | true =>
    go_wp2_with fail
    go_roundw
    case rel=>exact ⟨k+1,by omega,by go_num,HSO.out _ (by unfold cmN;rw[if_pos rfl]),HSB.out _⟩
    case measure=>simp[intOf];omega
   | false =>
    go_wp2_with fail
    go_roundw
    case rel=>exact ⟨k+1,by omega,by go_num,HSO.out _ (by unfold cmN;rw[if_neg (by decide)]),HSB.out _⟩
    case measure=>simp[intOf];omega
  ·have e:k=n:=by omega
   subst e
   rw[← HE.out] at hown
   have hrl:r.length=k:=by rw[HE.out];exact HML.out k
   have hic:IC wr (some ⟨W0.heap.size,0,none⟩) k r:=by
    have h1:wr.ownsRow W0.heap.size 3 1 (.slice (some ⟨W0.heap.size,0,none⟩) r.length r.length) r.length (r.map (Value.int .i64)):=by rw[hrl];exact hown
    have h2:=(IC.of_owns h1 (by omega)).1
    rw[hrl] at h2
    exact h2
   have HIC:=Lib.hid hic
   clear hic hrl hown
   go_wp2_with fail
   go_ret
   exact ⟨_,rfl,HIC.out,hBr⟩
theorem movF_num {cp:Bool} {p f:List Int} (hp:PermP p) (hl:p.length=f.length) (hf:∀i,i<f.length→1≤f[i]?.getD 0∧f[i]?.getD 0≤(f.length:Int)):∀i,i<f.length→1≤(movF cp p f)[i]?.getD 0∧(movF cp p f)[i]?.getD 0≤(f.length:Int):=fun i hi=>by
 obtain ⟨j,hj,_,e⟩:=movF_from (c:=cp) hp hl hi
 rw[e]
 have:=hf j hj
 unfold cmN
 split <;> omega
theorem gapply_c (a:Option Addr) (n c:Nat) (p:List Int) (cp:Bool) (af:Option Addr) (cf:Nat) (f:List Int) (w:World) (h:IC w a n p) (hp:permE p=0) (hf:IC w af n f) (hfb:∀i,i<n→1≤f[i]?.getD 0∧f[i]?.getD 0≤(n:Int)) :
  Calls Tryz.prog 24 #[.agg #[.slice a n c,.bool cp],.slice af n cf] w fun e w'=>∃ar,e = .returned (.tuple #[.slice ar n n,.int .i64 0])∧IC w' ar n (movF cp p f)∧Below w.heap.size w w':=by
 have hP:=perm_ok hp
 have hpl:=h.len
 have hfl:=hf.len
 have hn:n≤256:=by omega
 have hf9:∀i,i<n → -999999999≤f[i]?.getD 0∧f[i]?.getD 0≤999999999:=fun i hi=>by have:=hfb i hi;omega
 have HCF:=Lib.hid (fun W (hb:Below w.heap.size w W)=>gfill_c af n cf f W (hf.mono hb) hn hf9)
 have HCS:Hid (∀W,Below w.heap.size w W→Calls Tryz.prog 84 #[.agg #[.slice a n c,.bool cp],.int .i64 (n:Int)] W fun e w'=>e = .returned (.int .i64 0)∧Below W.heap.size W w'):=fun W hb=>by
  have:=gsym_c a n c p cp (n:Int) W (h.mono hb)
  rw[symP_ok hpl hp] at this
  exact this
 have HIM:=Lib.hid (fun W (hb:Below w.heap.size w W)=>gimage_c a n c p cp af cf f W (h.mono hb) hP.2 hn (hf.mono hb) hfb)
 have HML:Hid ((movF cp p f).length=n):=by unfold Hid;rw[movF_len,hfl]
 have HMN:Hid (∀i,i<n → -999999999≤(movF cp p f)[i]?.getD 0∧(movF cp p f)[i]?.getD 0≤999999999):=fun i hi=>by
  have:=movF_num (cp:=cp) (f:=f) hP.2 (by omega) (fun i hi=>by rw[hfl] at hi ⊢;exact hfb i hi) i (by omega)
  omega
 clear h hf hp hP hpl hfl hf9 hfb
 generalize movF cp p f=r at HIM HML HMN ⊢
 go_enter Tryz.func24,Tryz.ntmps24
 go_wp2_with fail
 have fsz:(w.alloc (.cells #[.slice a n c,.bool cp] 29)).heap.size=w.heap.size+1:=by simp only[World.size_alloc]
 have fB:Below w.heap.size w (w.alloc (.cells #[.slice a n c,.bool cp] 29)):=(Below.refl _ _).alloc (Nat.le_refl _) _
 have fq0:(w.alloc (.cells #[.slice a n c,.bool cp] 29)).heap[w.heap.size]?=some (.cells #[.slice a n c,.bool cp] 29 (0,0)):=by have h:=World.alloc_heap_new w (.cells #[.slice a n c,.bool cp] 29);exact h
 generalize (w.alloc (.cells #[.slice a n c,.bool cp] 29))=W0 at fsz fB fq0 ⊢
 have HX:=Lib.hid (fun W (hb:Below W0.heap.size W0 W)=>(And.intro (q_cell (keepq hb fq0) 0) (And.intro (q_cell (keepq hb fq0) 1) (q_lt (keepq hb fq0))):W.cell? ⟨w.heap.size,0,none⟩=some (.slice a n c)∧W.cell? ⟨w.heap.size,1,none⟩=some (.bool cp)∧w.heap.size<W.heap.size))
 clear fq0 fsz
 go_wp2_with fail
 refine (HCF.out _ fB).mono ?_
 rintro _ w1 ⟨rfl,hb1⟩
 have hcur:=hb1
 obtain ⟨x0,x1,xl⟩:=HX.out _ hcur
 go_wp2_with fail
 refine (HCS.out _ (keep_trans fB hcur)).mono ?_
 rintro _ w2 ⟨rfl,hb2⟩
 replace hcur:=keep_trans hcur hb2
 clear x0 x1 xl
 obtain ⟨x0,x1,xl⟩:=HX.out _ hcur
 go_wp2_with fail
 refine (HIM.out _ (keep_trans fB hcur)).mono ?_
 rintro _ w3 ⟨ar,rfl,hic,hb3⟩
 replace hcur:=keep_trans hcur hb3
 have HAN:=Lib.hid (gany_c ar n n r w3 hic HMN.out)
 have HIC:=Lib.hid hic
 clear x0 x1 xl hic
 go_wp2_with fail
 refine HAN.out.mono ?_
 rintro _ w4 ⟨rfl,hb4⟩
 go_wp2_with fail
 go_ret2
 exact ⟨ar,rfl,HIC.out.mono hb4,keep_trans fB (keep_trans hcur hb4)⟩
end
end Go.Proofs.YtaadpihbjhachaaGreat
