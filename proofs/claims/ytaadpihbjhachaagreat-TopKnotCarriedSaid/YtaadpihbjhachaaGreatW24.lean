/- Texts B6 to B14 of this proof, in one file. -/
import Derived.Test.YtaadpihbjhachaaGreatW09
import Derived.Test.YtaadpihbjhachaaGreatW17
import Derived.Test.YtaadpihbjhachaaGreatW18
import Derived.Test.YtaadpihbjhachaaGreatW20
import Derived.Test.YtaadpihbjhachaaGreatW22
import Derived.Test.YtaadpihbjhachaaGreatW23
namespace Go.Proofs.YtaadpihbjhachaaGreat
set_option maxRecDepth 100000
set_option maxHeartbeats 16000000
section
open Go Go.RowKit
def insI (out:List Int) (x:Int):List Int:=out.takeWhile (fun y=>decide (y<x))++x :: out.dropWhile (fun y=>decide (y<x))
def imgTo (p l:List Int) (k:Nat):List Int:=(l.take k).foldl (fun out c=>insI out (p[c.toNat]?.getD 0)) []
def imgQ (p l:List Int):List Int:=imgTo p l l.length
theorem imgTo_succ {p l:List Int} {k:Nat} (h:k<l.length):imgTo p l (k+1)=insI (imgTo p l k) (p[(l[k]?.getD 0).toNat]?.getD 0):=by
 unfold imgTo
 rw[take_snoc l 0 k h,List.foldl_append]
 rfl
theorem insI_perm (out:List Int) (x:Int):(insI out x).Perm (x :: out):=by
 unfold insI
 refine List.perm_middle.trans ?_
 rw[List.takeWhile_append_dropWhile]
theorem drop_ge {x:Int}:∀{out:List Int},out.Pairwise (·≤·)→∀y,y∈out.dropWhile (fun y=>decide (y<x))→x≤y
 | [],_,y,hy=>by cases hy
 | a :: out,h,y,hy=>by
  rw[List.pairwise_cons] at h
  by_cases e:a<x
  ·rw[List.dropWhile_cons_of_pos (by simpa using e)] at hy
   exact drop_ge h.2 y hy
  ·rw[List.dropWhile_cons_of_neg (by simpa using e)] at hy
   rcases List.mem_cons.1 hy with h1|h1
   ·omega
   ·have:=h.1 y h1;omega
theorem take_lt {x:Int}:∀{out:List Int},∀y,y∈out.takeWhile (fun y=>decide (y<x))→y<x
 | [],y,hy=>by cases hy
 | a :: out,y,hy=>by
  by_cases e:a<x
  ·rw[List.takeWhile_cons_of_pos (by simpa using e)] at hy
   rcases List.mem_cons.1 hy with h1|h1
   ·omega
   ·exact take_lt y h1
  ·rw[List.takeWhile_cons_of_neg (by simpa using e)] at hy
   cases hy
theorem insI_up {out:List Int} {x:Int} (h:out.Pairwise (·≤·)):(insI out x).Pairwise (·≤·):=by
 unfold insI
 rw[List.pairwise_append]
 refine ⟨h.sublist (List.takeWhile_sublist _),?_,fun a ha b hb=>?_⟩
 ·rw[List.pairwise_cons]
  exact ⟨fun y hy=>drop_ge h y hy,h.sublist (List.dropWhile_sublist _)⟩
 ·have h1:=take_lt a ha
  rcases List.mem_cons.1 hb with h2|h2
  ·omega
  ·have:=drop_ge h b h2;omega
theorem srt_pair (f:List Int):(srt f).Pairwise (·≤·):=by
 unfold srt
 refine (List.pairwise_mergeSort (le:=fun x y:Int=>decide (x≤y)) (fun a b c h1 h2=>?_) (fun a b=>?_) _).imp fun h=>?_
 ·simp only[decide_eq_true_eq] at h1 h2 ⊢;omega
 ·simp only[Bool.or_eq_true,decide_eq_true_eq];omega
 ·simpa using h
theorem imgTo_spec (p l:List Int):∀k,k≤l.length→(imgTo p l k).Pairwise (·≤·)∧(imgTo p l k).Perm ((l.take k).map fun c=>p[c.toNat]?.getD 0)
 | 0,_=>⟨List.Pairwise.nil,by simp[imgTo]⟩
 | k+1,h=>by
  obtain ⟨h1,h2⟩:=imgTo_spec p l k (by omega)
  rw[imgTo_succ (by omega),take_snoc l 0 k (by omega),List.map_append]
  refine ⟨insI_up h1,(insI_perm _ _).trans ?_⟩
  exact (List.Perm.cons _ h2).trans (List.perm_append_singleton _ _).symm
theorem imgTo_len (p l:List Int) {k:Nat} (h:k≤l.length):(imgTo p l k).length=k:=by
 have:=(imgTo_spec p l k h).2.length_eq
 rw[List.length_map,List.length_take] at this
 omega
theorem img_line (p l:List Int):imgQ p l=lineI p l:=by
 obtain ⟨h1,h2⟩:=imgTo_spec p l l.length (Nat.le_refl _)
 rw[List.take_length] at h2
 exact List.Perm.eq_of_pairwise (le:=(·≤·)) (fun a b _ _ h1 h2=>Int.le_antisymm h1 h2) h1 (srt_pair _) (h2.trans (List.mergeSort_perm _ _).symm)
def keepsB (ls:List (List Int)) (p:List Int):Bool:=ls.all fun l=>hasLineB ls (imgQ p l)
theorem keeps_mem {ls:List (List Int)} {p:List Int} (h:keepsB ls p=true):∀l,l∈ls→lineI p l∈ls:=fun l hl=>by
 unfold keepsB at h
 rw[List.all_eq_true] at h
 have:=h l hl
 unfold hasLineB at this
 rw[List.contains_iff_mem,img_line] at this
 exact this
end
section
open Go Go.RowKit
inductive PT where
 | leaf (s:List (Nat × Nat)):PT
 | fork (qs:List Nat) (i j:Nat) (ti tj:PT):PT
def PT.depth:PT→Nat
 | .leaf s=>s.length
 | .fork qs _ _ ti _=>qs.length+(ti.depth+1)
def KQ (K:Act→World→Prop) (Q:Exit→Act→World→Prop):Exit→Act→World→Prop
 | .normal,a,w=>K a w
 | e,a,w=>Q e a w
theorem keep_set {B:Nat} {w0 w:World} {p:Addr} (h:Below B w0 w) (hp:B≤p.block) (u:Value):Below B w0 (w.setCell p u):=h.setCell hp u
section
variable {P:Program} {ops:Array Oper} {Q:Exit→Act→World→Prop} {md:Region.Mode} {S:World→Prop}
def forkPre (md:Region.Mode) (ops:Array Oper) (lt:List Nat) (i j:Nat) (F:Array Bool→Bool):List Nat→Array Bool→Bool
 | [],listed=>((Region.ready md ops listed)==[i,j])&&F listed
 | k :: qs,listed =>
  (Region.ready md ops listed).contains k&&Region.free md ops listed k&&!lt.contains k&&lt.all (fun j=>(closure md ops ops.size (aftersOf md ops j)).contains k)&&forkPre md ops lt i j F qs (listed.setIfInBounds k true)
def treeOk (md:Region.Mode) (ops:Array Oper) (lt:List Nat):PT→Array Bool→Bool
 | .leaf s,listed=>decide (0<(s.filter fun x=>decide (x.1≤1)).length)&&seqOk md ops lt s listed
 | .fork qs i j ti tj,listed=>decide (tj.depth=ti.depth)&&!lt.contains i&&!lt.contains j &&
  forkPre md ops lt i j (fun l=>treeOk md ops lt ti (l.setIfInBounds i true)&&treeOk md ops lt tj (l.setIfInBounds j true)) qs listed
def wpTr (P:Program) (ops:Array Oper) (S:World→Prop) (Q:Exit→Act→World→Prop):PT→Act→World→Prop
 | .leaf s,a,w=>wpS P ops S Q (pickOps ops.toList s) a w
 | .fork qs i j ti tj,a,w=>wpS P ops S (KQ (wpTr P ops S Q ti) Q) (pickOps ops.toList (qs.map (fun k=>(0,k))++[(1,i)])) a w ∧
   wpS P ops S (KQ (wpTr P ops S Q tj) Q) (pickOps ops.toList (qs.map (fun k=>(0,k))++[(1,j)])) a w
theorem KQ_lets {K:Act→World→Prop} (h:LetsOut (KQ K Q)):LetsOut Q:=h
theorem loud_KQ {K:Act→World→Prop} {o:Oper} {a:Act} {w:World} (h:wpS P ops S (KQ K Q) [(1,o)] a w) :
  if Region.wanted o (yielded ops a.tmps) then o.wp P a w (fun a' w'=>S w'∧K a' w') Q∨(o.asks P a w∧LetsOut Q) else K (a.put o.dst undef) w:=by
 simp only[wpS] at h
 split
 ·rename_i hw
  rw[if_pos hw] at h
  rcases h with h|⟨h1,h2⟩
  ·left
   unfold Oper.wp at *
   generalize (execOp a.eval o).run P w=x at *
   cases x with
   | ok n w'=>cases n <;> simp only[Oper.upon] at h ⊢ <;> (try exact h) <;> (try exact h.2) <;> (try exact h.2.2)
   | halt x w'=>cases x <;> simp only[Oper.upon] at h ⊢ <;> exact h
  ·exact .inr ⟨h1,KQ_lets h2⟩
 ·rename_i hw
  rw[if_neg hw] at h
  exact h
theorem loud_K {lt:List Nat} {K:Act→World→Prop} {i:Nat} {listed:Array Bool} {d:Nat} {a:Act} {w:World}
  (hr:i∈Region.ready md ops listed) (_hnl:lt.contains i=false) (hS:S w)
  (hk:∀a' w',S w'→K a' w'→wpL P md ops Q S (fun i=>lt.contains i) d (listed.setIfInBounds i true) a' w') (h:wpS P ops S (KQ K Q) (pickOps ops.toList [(1,i)]) a w) :
  wpOp P ops Q i (fun a' w'=>(lt.contains i=false→S w')∧wpL P md ops Q S (fun i=>lt.contains i) d (listed.setIfInBounds i true) a' w') a w:=by
 obtain ⟨oi,hoi⟩:∃oi,ops[i]?=some oi:=by
  obtain ⟨_,oi,h1,_⟩:=(mem_ready (md:=md) (ops:=ops) (listed:=listed) (j:=i)).1 hr
  exact ⟨oi,h1⟩
 have hp:nthOp ops.toList i=some oi:=by rw[nthOp_eq];simpa using hoi
 simp only[pickOps,hp] at h
 have h2:=loud_KQ h
 refine wpOp_of_if hoi ?_
 split
 ·rename_i hw
  rw[if_pos hw] at h2
  exact h2.imp (Oper.wp_mono fun a' w' hx=>⟨fun _=>hx.1,hk a' w' hx.1 hx.2⟩) id
 ·rename_i hw
  rw[if_neg hw] at h2
  exact ⟨fun _=>hS,hk _ _ hS h2⟩
theorem wpL_of_pre (hs:Region.noSelect ops=true) (lt:List Nat) (i j:Nat) (F:Array Bool→Bool) (d:Nat) (Ki Kj:Act→World→Prop) (hQ:∀c a d v w,Q (.panic c) (Act.put a d v) w→Q (.panic c) a w)
  (hni:lt.contains i=false) (hnj:lt.contains j=false)
  (hF:∀listed,F listed=true→Closed md ops listed→(i∈Region.ready md ops listed→∀a' w',S w'→Ki a' w'→wpL P md ops Q S (fun i=>lt.contains i) d (listed.setIfInBounds i true) a' w')∧(j∈Region.ready md ops listed→∀a' w',S w'→Kj a' w'→wpL P md ops Q S (fun i=>lt.contains i) d (listed.setIfInBounds j true) a' w')) :
  ∀(qs:List Nat) (listed:Array Bool) (a:Act) (w:World),Closed md ops listed→S w→forkPre md ops lt i j F qs listed=true →
   wpS P ops S (KQ Ki Q) (pickOps ops.toList (qs.map (fun k=>(0,k))++[(1,i)])) a w→wpS P ops S (KQ Kj Q) (pickOps ops.toList (qs.map (fun k=>(0,k))++[(1,j)])) a w →
   wpL P md ops Q S (fun i=>lt.contains i) (qs.length+(d+1)) listed a w
 | [],listed,a,w,hcl,hSw,hc,h1,h2=>by
  simp only[forkPre,Bool.and_eq_true,beq_iff_eq] at hc
  obtain ⟨hr,hc1⟩:=hc
  rw[show ([]:List Nat).length+(d+1)=d+1 from by simp]
  refine ⟨fun h0=>absurd (hr▸h0) (by simp),fun k hk=>?_⟩
  have hk':=hk
  rw[hr] at hk'
  rcases List.mem_cons.1 hk' with rfl|hk2
  ·exact loud_K hk hni hSw ((hF listed hc1 hcl).1 hk) h1
  ·obtain rfl:k=j:=by simpa using hk2
   exact loud_K hk hnj hSw ((hF listed hc1 hcl).2 hk) h2
 | k :: qs,listed,a,w,hcl,hSw,hc,h1,h2=>by
  simp only[forkPre,Bool.and_eq_true] at hc
  obtain ⟨⟨⟨⟨hr,hf⟩,hnl⟩,hla⟩,hc'⟩:=hc
  obtain ⟨oi,hoi⟩:∃oi,ops[k]?=some oi:=by
   obtain ⟨_,oi,h1,_⟩:=(mem_ready (md:=md) (ops:=ops) (listed:=listed) (j:=k)).1 (by simpa using hr)
   exact ⟨oi,h1⟩
  have hp:nthOp ops.toList k=some oi:=by rw[nthOp_eq];simpa using hoi
  have hnl':lt.contains k=false:=by simpa using hnl
  have hlate:∀j listed,lt.contains j=true→Closed md ops listed→j∈Region.ready md ops listed→listed.getD k false=true:=by
   intro j listed' hl hcl' hj
   have h1:=List.all_eq_true.1 hla j (by simpa using hl)
   exact closure_listed hcl' _ _ (ready_afters hj) k (by simpa using h1)
  simp only[List.map_cons,List.cons_append,pickOps,hp,wpS] at h1 h2
  rw[show (k :: qs).length+(d+1)=(qs.length+(d+1))+1 from by simp only[List.length_cons];omega]
  have key:∀v,YieldsIf P ops S oi v a→wpS P ops S (KQ Ki Q) (pickOps ops.toList (qs.map (fun k=>(0,k))++[(1,i)])) (a.put oi.dst v) w→wpS P ops S (KQ Kj Q) (pickOps ops.toList (qs.map (fun k=>(0,k))++[(1,j)])) (a.put oi.dst v) w→wpL P md ops Q S (fun i=>lt.contains i) (qs.length+(d+1)+1) listed a w:=by
   intro v hy k1 k2
   exact wpL_first hoi (Region.noSelect_spec hs) (fun c a' w'=>hQ c a' _ _ w') hnl' hlate (qs.length+(d+1)) listed a w hcl (Region.free_spec hoi hf) (by simpa using hr) hy hSw
    (wpL_of_pre hs lt i j F d Ki Kj hQ hni hnj hF qs _ _ w (hcl.set (by simpa using hr)) hSw hc' k1 k2)
  by_cases hw:Region.wanted oi (yielded ops a.tmps)=true
  ·rw[if_pos hw] at h1 h2
   obtain ⟨v,hv,hK⟩:=h1
   obtain ⟨v2,hv2,hK2⟩:=h2
   have e:=(hv w hSw).symm.trans (hv2 w hSw)
   simp only[Result.ok.injEq,Next.value.injEq,and_true] at e
   subst e
   exact key v (.inl ⟨hw,hv⟩) hK hK2
  ·rw[if_neg hw] at h1 h2
   exact key undef (.inr ⟨by simpa using hw,rfl⟩) h1 h2
theorem wpL_of_tree (hs:Region.noSelect ops=true) (lt:List Nat) (hQ:∀c a d v w,Q (.panic c) (Act.put a d v) w→Q (.panic c) a w) :
  ∀(t:PT) (listed:Array Bool) (a:Act) (w:World),Closed md ops listed→S w→treeOk md ops lt t listed=true→wpTr P ops S Q t a w →
   wpL P md ops Q S (fun i=>lt.contains i) t.depth listed a w
 | .leaf s,listed,a,w,hcl,hSw,hc,h=>by
  simp only[treeOk,Bool.and_eq_true] at hc
  exact wpL_of_S hs lt hQ s listed a w hcl (fun _=>hSw) hc.2 h
 | .fork qs i j ti tj,listed,a,w,hcl,hSw,hc,h=>by
  simp only[treeOk,Bool.and_eq_true,decide_eq_true_eq] at hc
  obtain ⟨⟨⟨hd,hni⟩,hnj⟩,hpre⟩:=hc
  refine wpL_of_pre hs lt i j _ ti.depth (wpTr P ops S Q ti) (wpTr P ops S Q tj) hQ (by simpa using hni) (by simpa using hnj) (fun l hl hcl2=>?_) qs listed a w hcl hSw hpre h.1 h.2
  simp only[Bool.and_eq_true] at hl
  refine ⟨fun hr a' w' hS' hK=>wpL_of_tree hs lt hQ ti _ a' w' (hcl2.set hr) hS' hl.1 hK,fun hr a' w' hS' hK=>?_⟩
  rw[← hd]
  exact wpL_of_tree hs lt hQ tj _ a' w' (hcl2.set hr) hS' hl.2 hK
theorem wpTr_end {S:World→Prop} {K:Act→World→Prop} {a:Act} {w:World} (h:K a w):wpS P ops S (KQ K Q) [] a w:=by rw[wpS];exact h
theorem wp_region_tree {id:Nat} {l:List Oper} {a:Act} {w:World} (S:World→Prop) (lt:List Nat) (t:PT)
  (hm:P.follows .mixedOrders=true) (hc:(Region.noSelect l.toArray&&decide (t.depth≤l.length)&&treeOk .any l.toArray lt t (Array.replicate l.length false))=true)
  (hS:S w.drew) (h:wpTr P l.toArray S (NoPanic Q) t a w.drew):(Code.region id l.toArray true).wp P Q a w:=by
 refine wp_region_noPanic ?_
 simp only[Bool.and_eq_true,decide_eq_true_eq] at hc
 obtain ⟨⟨hs,hlen⟩,hc⟩:=hc
 refine wp_region_any hm ?_
 obtain ⟨m,hm'⟩:∃m,l.toArray.size=t.depth+m:=⟨l.length - t.depth,by simp;omega⟩
 rw[hm']
 refine wpAny_more _ _ _ _ _ (wpAny_of_L (S:=S) (late:=fun i=>lt.contains i) _ _ _ _ ?_)
 have e:Array.replicate (t.depth+m) false=Array.replicate l.length false:=by rw[← hm'];simp
 rw[e]
 exact wpL_of_tree hs lt (fun _ _ _ _ _ h=>h) t _ a w.drew (closed_none _) hS hc h
end
end
section
open Go Go.RowKit
attribute [local go_sem] over_cell
attribute [local go_sem] Oper.semAt_some
def kp:List Int:=[0,3,6,1,4,7,2,5,8]
def kf:List Int:=[2,7,6,9,5,1,4,3,8]
def kl:List (List Int):=m3.map (imgQ kp)
theorem kl_eq:m3.map (lineI kp)=kl:=List.map_congr_left fun l _=>(img_line kp l).symm
def kg:List Int:=movG false kp ga
theorem kp_ok:permE kp=0:=by decide +kernel
theorem kf_mv:movF false kp kf=[2,9,4,7,5,3,6,1,8]:=by decide +kernel
theorem km_v:mvE false 9 m3 15=0:=by decide +kernel
theorem km_g:magicB m3 kf=true:=by decide +kernel
theorem kc_v:chkE 9 m3 kf=0:=by decide +kernel
theorem ks_v:solE 9 kl 15 kg [2,9,4,7,5,3,6,1,8]=0:=by decide +kernel
theorem ki_v:isV 9 kl 15 kg [2,9,4,7,5,3,6,1,8]=true:=by decide +kernel
theorem ktask_c (w:World) :
  Calls Tryz.prog 81 #[] w fun e w'=>∃al nl cl ag,e = .returned (.agg #[.int .i64 9,.slice al nl cl,.int .i64 15,.slice ag 9 9])∧Ta w' al nl cl ag 9 ga∧Below w.heap.size w w':=by
 go_enter Tryz.func81,Tryz.ntmps81
 go_wp2_with fail
 have fsz:(w.alloc (.cells #[.int .i64 0,.slice none 0 0,.int .i64 0,.slice none 0 0] 27)).heap.size=w.heap.size+1:=by simp only[World.size_alloc]
 have fB:Below w.heap.size w (w.alloc (.cells #[.int .i64 0,.slice none 0 0,.int .i64 0,.slice none 0 0] 27)):=(Below.refl _ _).alloc (Nat.le_refl _) _
 have fq0:(w.alloc (.cells #[.int .i64 0,.slice none 0 0,.int .i64 0,.slice none 0 0] 27)).heap[w.heap.size]?=some (.cells #[.int .i64 0,.slice none 0 0,.int .i64 0,.slice none 0 0] 27 (0,0)):=by have h:=World.alloc_heap_new w (.cells #[.int .i64 0,.slice none 0 0,.int .i64 0,.slice none 0 0] 27);exact h
 generalize (w.alloc (.cells #[.int .i64 0,.slice none 0 0,.int .i64 0,.slice none 0 0] 27))=W0 at fsz fB fq0 ⊢
 have HQ:=Lib.hid fq0
 have fsz':w.heap.size<W0.heap.size:=by omega
 clear fq0 fsz
 refine (sqsys_c W0).mono ?_
 rintro _ w1 ⟨al,cl,pre,rfl,hrw1,hpm,hpl,hps,hb1⟩
 have HRW:=Lib.hid hrw1
 have HPM:=Lib.hid hpm
 obtain ⟨nl,hnl⟩:∃nl,pre.length=nl:=⟨_,rfl⟩
 rw[hnl]
 clear hrw1 hpm
 go_upto_region 2 with fail
 have ksz:(w1.alloc (.cells #[.int .i64 9,.slice al nl cl] 24)).heap.size=w1.heap.size+1:=by simp only[World.size_alloc]
 have kB:Below w1.heap.size w1 (w1.alloc (.cells #[.int .i64 9,.slice al nl cl] 24)):=(Below.refl _ _).alloc (Nat.le_refl _) _
 have kq0:(w1.alloc (.cells #[.int .i64 9,.slice al nl cl] 24)).heap[w1.heap.size]?=some (.cells #[.int .i64 9,.slice al nl cl] 24 (0,0)):=by have h:=World.alloc_heap_new w1 (.cells #[.int .i64 9,.slice al nl cl] 24);exact h
 generalize (w1.alloc (.cells #[.int .i64 9,.slice al nl cl] 24))=W2 at ksz kB kq0 ⊢
 have ksz':w1.heap.size<W2.heap.size:=by omega
 have s0:W2.cell? ⟨w1.heap.size,0,none⟩=some (.int .i64 9):=q_cell kq0 0
 have s1:W2.cell? ⟨w1.heap.size,1,none⟩=some (.slice al nl cl):=q_cell kq0 1
 have hB2:Below w.heap.size w W2:=fB.trans ((hb1.trans (kB.mono hb1.size)).mono fB.size)
 have hq2:=keepq kB (keepq hb1 HQ.out)
 have r0:=q_cell hq2 0
 have r1:=q_cell hq2 1
 have r2:=q_cell hq2 2
 have r3:=q_cell hq2 3
 have rf0:=q_free hq2 0
 have rf1:=q_free hq2 1
 have rf2:=q_free hq2 2
 have rf3:=q_free hq2 3
 have rl:=q_lt hq2
 have HQ2:=Lib.hid hq2
 clear kq0 ksz hq2
 go_wp2_with fail
 have rr:=q_set (i:=3) (q_set (i:=2) (q_set (i:=1) (q_set (i:=0) HQ2.out (.int .i64 9)) (.slice al nl cl)) (.int .i64 15)) (.slice (some ⟨W2.heap.size,0,none⟩) 9 9)
 have hrw2:=HRW.out.keep ((Below.stays kB (fun _=>False)).toL 0) (M':=fun _=>False) (fun _ e=>e.elim)
 rw[hnl] at hrw2
 have hrw3:=(((hrw2.setCell (b:=w.heap.size) (i:=0) fsz' (.int .i64 9)).setCell (b:=w.heap.size) (i:=1) fsz' (.slice al nl cl)).setCell (b:=w.heap.size) (i:=2) fsz' (.int .i64 15)).setCell (b:=w.heap.size) (i:=3) fsz' (.slice (some ⟨W2.heap.size,0,none⟩) 9 9)
 have hB3:=(((hB2.setCell (p:=⟨w.heap.size,0,none⟩) (Nat.le_refl _) (.int .i64 9)).setCell (p:=⟨w.heap.size,1,none⟩) (Nat.le_refl _) (.slice al nl cl)).setCell (p:=⟨w.heap.size,2,none⟩) (Nat.le_refl _) (.int .i64 15)).setCell (p:=⟨w.heap.size,3,none⟩) (Nat.le_refl _) (.slice (some ⟨W2.heap.size,0,none⟩) 9 9)
 have hsz3:((((W2.setCell ⟨w.heap.size,0,none⟩ (.int .i64 9)).setCell ⟨w.heap.size,1,none⟩ (.slice al nl cl)).setCell ⟨w.heap.size,2,none⟩ (.int .i64 15)).setCell ⟨w.heap.size,3,none⟩ (.slice (some ⟨W2.heap.size,0,none⟩) 9 9)).heap.size=W2.heap.size:=by simp
 have hnew:=World.alloc_heap_new ((((W2.setCell ⟨w.heap.size,0,none⟩ (.int .i64 9)).setCell ⟨w.heap.size,1,none⟩ (.slice al nl cl)).setCell ⟨w.heap.size,2,none⟩ (.int .i64 15)).setCell ⟨w.heap.size,3,none⟩ (.slice (some ⟨W2.heap.size,0,none⟩) 9 9)) (.cells #[.int .i64 2,.int .i64 7,.int .i64 6,.int .i64 0,.int .i64 0,.int .i64 0,.int .i64 0,.int .i64 0,.int .i64 0] 3)
 rw[hsz3] at hnew
 clear r0 r1 r2 r3 rf0 rf1 rf2 rf3 rl
 generalize ((((W2.setCell ⟨w.heap.size,0,none⟩ (.int .i64 9)).setCell ⟨w.heap.size,1,none⟩ (.slice al nl cl)).setCell ⟨w.heap.size,2,none⟩ (.int .i64 15)).setCell ⟨w.heap.size,3,none⟩ (.slice (some ⟨W2.heap.size,0,none⟩) 9 9))=W3 at rr hrw3 hB3 hsz3 hnew ⊢
 have hA:Below W3.heap.size W3 (W3.alloc (.cells #[.int .i64 2,.int .i64 7,.int .i64 6,.int .i64 0,.int .i64 0,.int .i64 0,.int .i64 0,.int .i64 0,.int .i64 0] 3)):=(Below.refl _ _).alloc (Nat.le_refl _) _
 have rr2:=keepq hA rr
 have z0:=q_cell rr2 0
 have z1:=q_cell rr2 1
 have z2:=q_cell rr2 2
 have z3:=q_cell rr2 3
 have hrw4:=hrw3.keep ((Below.stays hA (fun _=>False)).toL 0) (M':=fun _=>False) (fun _ e=>e.elim)
 obtain ⟨av2,cv2,e2,hrc,hcv⟩:=hrw4.rc (by omega) (fun x hx=>by have:=hps x hx;omega)
 rw[hnl] at e2 hrc hcv
 cases e2
 rw[HPM.out,m3_val] at hrc
 refine bodyPost_ret (v := .agg #[.int .i64 9,.slice al nl cl,.int .i64 15,.slice (some ⟨W2.heap.size,0,none⟩) 9 9]) ?_ rfl ⟨al,nl,cl,some ⟨W2.heap.size,0,none⟩,rfl,⟨hrc,hcv,ic_blk (xs:=ga) hnew (by decide),Nat.le_refl _⟩,keep_trans hB3 hA⟩
 simp[results,Tryz.f81,go_sem,z0,z1,z2,z3]
end
section
open Go Go.RowKit
attribute [local go_sem] over_cell
attribute [local go_sem] Oper.semAt_some
theorem field_sys (a:Int) (p:Option Addr) (n c:Nat) (s:Int) (g:Value) (w:World):Sem.run Tryz.prog (Instr.field 27 (.agg #[.int .i64 a,.slice p n c,.int .i64 s,g]) 0) w = .ok (.agg #[.int .i64 a,.slice p n c]) w:=by
 simp[Instr.field,go_sem,asAgg]
attribute [local go_sem] field_sys
theorem m3_bound:∀l,l∈m3→l.length≤1000∧∀x,x∈l→0≤x∧x<((9:Nat):Int):=fun l hl=>by
 have G:=goodTask ta
 exact ⟨(G.lineLen hl).1,fun x hx=>(G.lineLen hl).2 x hx⟩
theorem kf_num:∀c:Nat,0≤kf[c]?.getD 0∧kf[c]?.getD 0≤1000000000:=norm_num (f:=kf) (by decide +kernel) (by decide)
theorem kf_one:∀i,i<9→1≤kf[i]?.getD 0∧kf[i]?.getD 0≤((9:Nat):Int):=fun i hi=>by
 rcases (by omega:i=0∨i=1∨i=2∨i=3∨i=4∨i=5∨i=6∨i=7∨i=8) with rfl|rfl|rfl|rfl|rfl|rfl|rfl|rfl|rfl <;> decide
theorem kmagic_u (al:Option Addr) (nl cl:Nat) (ag:Option Addr) (cg:Nat) (af:Option Addr) (cf:Nat) (w:World) (h:Ta w al nl cl ag cg ga) (hf:IC w af 9 kf) :
  Calls Tryz.prog 82 #[.agg #[.int .i64 9,.slice al nl cl],.slice af 9 cf] w fun e w'=>e = .returned (.tuple #[.bool true,.int .i64 0])∧Below w.heap.size w w' :=
 magic_c al nl cl m3 9 af 9 cf kf w h.1 h.2.1 hf (by have:=h.1.len;have e:m3.length=8:=rfl;omega) kc_v m3_bound kf_num km_g
theorem kmove_u (al:Option Addr) (nl cl:Nat) (ag:Option Addr) (ap:Option Addr) (cap:Nat) (w:World) (h:Ta w al nl cl ag 9 ga) (hp:IC w ap 9 kp) :
  Calls Tryz.prog 12 #[.agg #[.int .i64 9,.slice al nl cl,.int .i64 15,.slice ag 9 9],.agg #[.slice ap 9 cap,.bool false]] w fun e w'=>∃v,e = .returned (.tuple #[v,.int .i64 0])∧MvOut w.heap.size w' nl 9 kl 15 kg v∧Below w.heap.size w w':=by
 refine (movetask_c (n':=9) (goodTask ta) ta al nl cl ag 9 ap cap kp false w h.1 h.2.1 h.2.2.1 (Nat.le_refl _) hp kp_ok).mono ?_
 rintro _ w' ⟨v,rfl,hv,hb⟩
 have e0:mvE false ((9:Nat):Int) m3 15=0:=km_v
 have h1:=hv e0
 rw[kl_eq] at h1
 exact ⟨v,by rw[e0],h1,hb⟩
theorem MvOut.set {B:Nat} {w':World} {n n':Nat} {L:List (List Int)} {s:Int} {G:List Int} {v:Value} (h:MvOut B w' n n' L s G v) (hn:n≤128) (hl:∀l,l∈L→l.length≤1000) {b i:Nat} (hb:b<B) (u:Value):MvOut B (w'.setCell ⟨b,i,none⟩ u) n n' L s G v:=by
 obtain ⟨al,cl,bg,pre,e,h1,h2,h3,h4,h5,h6⟩:=h
 have h7:=h5.setCell (b:=b) (i:=i) hb u
 have hk:pre.length=n:=by
  have:=congrArg List.length h6
  rw[List.length_map] at this
  rw[this,h1.len]
 have h8:=rows_rc h7 hk hn (fun x hx=>hl _ (by rw[← h6];exact List.mem_map.2 ⟨x,hx,rfl⟩)) L h6
 exact ⟨al,cl,bg,pre,e,h8.1,h2,h3.other (by omega) u,h4,h7,h6⟩
theorem MvOut.mono {B:Nat} {w1 w':World} {n n':Nat} {L:List (List Int)} {s:Int} {G:List Int} {v:Value} (h:MvOut B w1 n n' L s G v) (hb:Below w1.heap.size w1 w'):MvOut B w' n n' L s G v:=by
 obtain ⟨al,cl,bg,pre,e,h1,h2,h3,h4,h5,h6⟩:=h
 exact ⟨al,cl,bg,pre,e,h1.mono hb,h2,h3.mono hb,h4,h5.keep ((Below.stays hb (fun _=>False)).toL 0) (fun _ e=>e.elim),h6⟩
theorem kl_len:∀l,l∈kl→l.length≤1000:=by
 intro l hl
 have h:kl=[[0,3,6],[1,4,7],[2,5,8],[0,1,2],[3,4,5],[6,7,8],[0,4,8],[2,4,6]]:=by decide +kernel
 rw[h] at hl
 simp only[List.mem_cons,List.not_mem_nil,or_false] at hl
 rcases hl with rfl|rfl|rfl|rfl|rfl|rfl|rfl|rfl <;> decide
theorem ksol_u (al:Option Addr) (nl cl:Nat) (ag:Option Addr) (af:Option Addr) (cf:Nat) (w:World) (h:RC w al nl kl) (hcl:nl≤cl) (hg:IC w ag 9 kg) (hf:IC w af 9 [2,9,4,7,5,3,6,1,8]) :
  Calls Tryz.prog 16 #[.agg #[.int .i64 9,.slice al nl cl,.int .i64 15,.slice ag 9 9],.slice af 9 cf] w fun e w'=>e = .returned (.tuple #[.bool true,.int .i64 0])∧Below w.heap.size w w':=by
 refine (fsol_c al nl cl kl 9 15 ag 9 9 kg af 9 cf _ w h hcl hg (Nat.le_refl _) hf).mono ?_
 rintro _ w' ⟨rfl,hb⟩
 exact ⟨by rw[ks_v,ki_v],hb⟩
theorem kapply_u (ap:Option Addr) (cap:Nat) (af:Option Addr) (cf:Nat) (w:World) (hp:IC w ap 9 kp) (hf:IC w af 9 kf) :
  Calls Tryz.prog 24 #[.agg #[.slice ap 9 cap,.bool false],.slice af 9 cf] w fun e w'=>∃ar,e = .returned (.tuple #[.slice ar 9 9,.int .i64 0])∧IC w' ar 9 [2,9,4,7,5,3,6,1,8]∧Below w.heap.size w w':=by
 have h:=gapply_c ap 9 cap kp false af cf kf w hp kp_ok hf kf_one
 rw[kf_mv] at h
 exact h
theorem ksame_u (W:World) (a:Option Addr) (c b:Nat) (h1:IC W a 9 [2,9,4,7,5,3,6,1,8]) (h2:IC W (some ⟨b,0,none⟩) 9 [2,9,4,7,5,3,6,1,8]) :
  Calls Tryz.prog 31 #[.slice a 9 c,.slice (some ⟨b,0,none⟩) 9 9] W fun e w'=>e = .returned (.bool true)∧Below W.heap.size W w':=by
 have:=same_c a (some ⟨b,0,none⟩) 9 9 c 9 _ _ W h1 h2
 rw[show sameB [2,9,4,7,5,3,6,1,8] [2,9,4,7,5,3,6,1,8]=true from by decide] at this
 exact this
theorem kfilled_c (w:World):Calls Tryz.prog 22 #[] w fun e w'=>e = .returned (.bool true)∧Below w.heap.size w w':=by
 have HK:=Lib.hid ktask_c
 go_enter Tryz.func22,Tryz.ntmps22
 go_wp2_with fail
 refine (HK.out w).mono ?_
 rintro _ w1 ⟨al,nl,cl,ag,rfl,hta1,hb1⟩
 have HU:=Lib.hid (unique_u al nl cl ag 9 w1 hta1)
 clear hta1
 go_wp2_with fail
 refine HU.out.mono ?_
 rintro _ w2 ⟨af,nf,cf,rfl,hif,hb2⟩
 obtain rfl:nf=9:=hif.len.symm
 have HIF2:Hid (IC w2 af 9 kf):=hif
 clear hif HU
 go_wp2_with fail
 refine (HK.out w2).mono ?_
 rintro _ w3 ⟨al3,nl3,cl3,ag3,rfl,hta3,hb3⟩
 have HM:=Lib.hid (kmagic_u al3 nl3 cl3 ag3 9 af cf w3 hta3 (HIF2.out.mono hb3))
 clear hta3
 go_wp2_with fail
 refine HM.out.mono ?_
 rintro _ w4 ⟨rfl,hb4⟩
 clear HM
 go_upto_region 4 with fail
 have ksz:((w4.alloc (.cells #[.int .i64 0,.int .i64 3,.int .i64 6,.int .i64 1,.int .i64 4,.int .i64 7,.int .i64 2,.int .i64 5,.int .i64 8] 3)).alloc (.cells #[.slice (some ⟨w4.heap.size,0,none⟩) 9 9,.bool false] 29)).heap.size=w4.heap.size+2:=by simp only[World.size_alloc] <;> omega
 have kB:Below w4.heap.size w4 ((w4.alloc (.cells #[.int .i64 0,.int .i64 3,.int .i64 6,.int .i64 1,.int .i64 4,.int .i64 7,.int .i64 2,.int .i64 5,.int .i64 8] 3)).alloc (.cells #[.slice (some ⟨w4.heap.size,0,none⟩) 9 9,.bool false] 29)):=((Below.refl _ _).alloc (Nat.le_refl _) _).alloc (by simp only[World.size_alloc];omega) _
 have kq0:((w4.alloc (.cells #[.int .i64 0,.int .i64 3,.int .i64 6,.int .i64 1,.int .i64 4,.int .i64 7,.int .i64 2,.int .i64 5,.int .i64 8] 3)).alloc (.cells #[.slice (some ⟨w4.heap.size,0,none⟩) 9 9,.bool false] 29)).heap[w4.heap.size]?=some (.cells #[.int .i64 0,.int .i64 3,.int .i64 6,.int .i64 1,.int .i64 4,.int .i64 7,.int .i64 2,.int .i64 5,.int .i64 8] 3 (0,0)):=by have h:=World.alloc_heap_new w4 (.cells #[.int .i64 0,.int .i64 3,.int .i64 6,.int .i64 1,.int .i64 4,.int .i64 7,.int .i64 2,.int .i64 5,.int .i64 8] 3);exact (Below.heap_alloc _ _ _ (by simp only[World.size_alloc];omega)).trans (h)
 have kq1:((w4.alloc (.cells #[.int .i64 0,.int .i64 3,.int .i64 6,.int .i64 1,.int .i64 4,.int .i64 7,.int .i64 2,.int .i64 5,.int .i64 8] 3)).alloc (.cells #[.slice (some ⟨w4.heap.size,0,none⟩) 9 9,.bool false] 29)).heap[w4.heap.size+1]?=some (.cells #[.slice (some ⟨w4.heap.size,0,none⟩) 9 9,.bool false] 29 (0,0)):=by have h:=World.alloc_heap_new (w4.alloc (.cells #[.int .i64 0,.int .i64 3,.int .i64 6,.int .i64 1,.int .i64 4,.int .i64 7,.int .i64 2,.int .i64 5,.int .i64 8] 3)) (.cells #[.slice (some ⟨w4.heap.size,0,none⟩) 9 9,.bool false] 29);simp only[World.size_alloc] at h;exact h
 generalize ((w4.alloc (.cells #[.int .i64 0,.int .i64 3,.int .i64 6,.int .i64 1,.int .i64 4,.int .i64 7,.int .i64 2,.int .i64 5,.int .i64 8] 3)).alloc (.cells #[.slice (some ⟨w4.heap.size,0,none⟩) 9 9,.bool false] 29))=W5 at ksz kB kq0 kq1 ⊢
 have HIP5:Hid (IC W5 (some ⟨w4.heap.size,0,none⟩) 9 kp):=ic_blk (xs:=kp) kq0 (by decide)
 have HQ5:=Lib.hid kq1
 have y0:W5.cell? ⟨w4.heap.size+1,0,none⟩=some (.slice (some ⟨w4.heap.size,0,none⟩) 9 9):=q_cell kq1 0
 have y1:W5.cell? ⟨w4.heap.size+1,1,none⟩=some (.bool false):=q_cell kq1 1
 have yl:=q_lt kq1
 have hb25:Below w2.heap.size w2 W5:=keep_trans (keep_trans hb3 hb4) kB
 have HA:=Lib.hid (kapply_u _ 9 af cf W5 HIP5.out (HIF2.out.mono hb25))
 have hB5:Below w.heap.size w W5:=keep_trans (keep_trans hb1 hb2) hb25
 clear kq0 kq1 ksz
 go_wp2_with fail
 refine HA.out.mono ?_
 rintro _ w6 ⟨ar,rfl,himg,hb6⟩
 have HSY:Hid (∀W,Below w6.heap.size w6 W→IC W (some ⟨w4.heap.size,0,none⟩) 9 kp):=fun W hb=>(HIP5.out.mono hb6).mono hb
 have HMV:=Lib.hid (fun al nl cl ag W (h1:Ta W al nl cl ag 9 ga) (h2:IC W (some ⟨w4.heap.size,0,none⟩) 9 kp)=>kmove_u al nl cl ag (some ⟨w4.heap.size,0,none⟩) 9 W h1 h2)
 have HQ6:=Lib.hid (keepq hb6 HQ5.out)
 clear y0 y1 yl HA
 have y0:w6.cell? ⟨w4.heap.size+1,0,none⟩=some (.slice (some ⟨w4.heap.size,0,none⟩) 9 9):=q_cell HQ6.out 0
 have y1:w6.cell? ⟨w4.heap.size+1,1,none⟩=some (.bool false):=q_cell HQ6.out 1
 have yl:=q_lt HQ6.out
 have hB6:=keep_trans hB5 hb6
 have HIM:=Lib.hid himg
 clear himg
 go_upto_region 5 with fail
 refine wp_region_tree (fun w'=>∃u,w'=over (w6) u) [8] (.fork [1] 0 6 (.fork [] 2 6 (.leaf [(0,3),(0,4),(0,5),(1,6),(1,7),(2,8)]) (.leaf [(1,2),(0,3),(0,4),(0,5),(1,7),(2,8)])) (.leaf [(1,0),(1,2),(0,3),(0,4),(0,5),(1,7),(2,8)])) (by kernel_rfl) (by kernel_rfl) (by exact ⟨_,below_over (by repeat (first|assumption|exact Below.refl _ _|refine keep_drew ?_|refine keep_alloc ?_ _|refine keep_trans ?_ (by assumption)))⟩) ?_
 all_goals try (refine ⟨?_,?_⟩ <;> dsimp only[List.map,List.cons_append,List.nil_append,pickOps,nthOp])
 all_goals repeat (first|(refine wpS_skip rfl (fun K hK=>?_);go_big_quiet_op;refine hK _ ?_;clear hK K)|(refine wpS_quiet rfl rfl (fun K hK=>?_);go_big_quiet_op;refine hK _ ?_;clear hK K)|(refine wpS_loud ?_;go_wp2_with (first|(go_at_call 81;refine (HK.out _).mono ?_;rintro _ w7 ⟨al7,nl7,cl7,ag7,rfl,hta7,hb7⟩;have hs7:w6.heap.size≤w7.heap.size:=(by have:=hb7.size;first|omega|(simp at this;omega)))|(go_at_call 12;refine (HMV.out al7 nl7 cl7 ag7 _ (by first|exact hta7|exact hta7.mono ((Below.refl _ _).alloc (Nat.le_refl _) _)) (HSY.out _ (by repeat (first|assumption|exact Below.refl _ _|refine keep_drew ?_|refine keep_alloc ?_ _|refine keep_trans ?_ (by assumption))))).mono ?_;rintro _ w8 ⟨v8,rfl,hmv8,hb8⟩;have hmq8:=hmv8;obtain ⟨al8,cl8,bg8,pre8,rfl,hmr8⟩:=hmq8;clear hmr8;have hs8:w6.heap.size≤w8.heap.size:=(by have:=hb8.size;first|omega|(simp at this;omega))));refine ⟨?_,?_⟩;focus (exact ⟨_,below_over (by repeat (first|assumption|exact Below.refl _ _|refine keep_drew ?_|refine keep_alloc ?_ _|refine keep_set ?_ (by first|omega|(dsimp only;omega)) _|refine keep_trans ?_ (by assumption)))⟩)))
 all_goals try refine wpTr_end ?_
 all_goals try (refine ⟨?_,?_⟩ <;> dsimp only[List.map,List.cons_append,List.nil_append,pickOps,nthOp])
 all_goals repeat (first|(refine wpS_skip rfl (fun K hK=>?_);go_big_quiet_op;refine hK _ ?_;clear hK K)|(refine wpS_quiet rfl rfl (fun K hK=>?_);go_big_quiet_op;refine hK _ ?_;clear hK K)|(refine wpS_loud ?_;go_wp2_with (first|(go_at_call 81;refine (HK.out _).mono ?_;rintro _ w7 ⟨al7,nl7,cl7,ag7,rfl,hta7,hb7⟩;have hs7:w6.heap.size≤w7.heap.size:=(by have:=hb7.size;first|omega|(simp at this;omega)))|(go_at_call 12;refine (HMV.out al7 nl7 cl7 ag7 _ (by first|exact hta7|exact hta7.mono ((Below.refl _ _).alloc (Nat.le_refl _) _)) (HSY.out _ (by repeat (first|assumption|exact Below.refl _ _|refine keep_drew ?_|refine keep_alloc ?_ _|refine keep_trans ?_ (by assumption))))).mono ?_;rintro _ w8 ⟨v8,rfl,hmv8,hb8⟩;have hmq8:=hmv8;obtain ⟨al8,cl8,bg8,pre8,rfl,hmr8⟩:=hmq8;clear hmr8;have hs8:w6.heap.size≤w8.heap.size:=(by have:=hb8.size;first|omega|(simp at this;omega))));refine ⟨?_,?_⟩;focus (exact ⟨_,below_over (by repeat (first|assumption|exact Below.refl _ _|refine keep_drew ?_|refine keep_alloc ?_ _|refine keep_set ?_ (by first|omega|(dsimp only;omega)) _|refine keep_trans ?_ (by assumption)))⟩)))
 all_goals try refine wpTr_end ?_
 all_goals try dsimp only[wpTr,pickOps,nthOp]
 all_goals repeat (first|(refine wpS_skip rfl (fun K hK=>?_);go_big_quiet_op;refine hK _ ?_;clear hK K)|(refine wpS_quiet rfl rfl (fun K hK=>?_);go_big_quiet_op;refine hK _ ?_;clear hK K)|(refine wpS_loud ?_;go_wp2_with (first|(go_at_call 81;refine (HK.out _).mono ?_;rintro _ w7 ⟨al7,nl7,cl7,ag7,rfl,hta7,hb7⟩;have hs7:w6.heap.size≤w7.heap.size:=(by have:=hb7.size;first|omega|(simp at this;omega)))|(go_at_call 12;refine (HMV.out al7 nl7 cl7 ag7 _ (by first|exact hta7|exact hta7.mono ((Below.refl _ _).alloc (Nat.le_refl _) _)) (HSY.out _ (by repeat (first|assumption|exact Below.refl _ _|refine keep_drew ?_|refine keep_alloc ?_ _|refine keep_trans ?_ (by assumption))))).mono ?_;rintro _ w8 ⟨v8,rfl,hmv8,hb8⟩;have hmq8:=hmv8;obtain ⟨al8,cl8,bg8,pre8,rfl,hmr8⟩:=hmq8;clear hmr8;have hs8:w6.heap.size≤w8.heap.size:=(by have:=hb8.size;first|omega|(simp at this;omega))));refine ⟨?_,?_⟩;focus (exact ⟨_,below_over (by repeat (first|assumption|exact Below.refl _ _|refine keep_drew ?_|refine keep_alloc ?_ _|refine keep_set ?_ (by first|omega|(dsimp only;omega)) _|refine keep_trans ?_ (by assumption)))⟩)))
 focus
  have hb69:Below w6.heap.size w6 w8:=by repeat (first|assumption|exact Below.refl _ _|refine keep_drew ?_|refine keep_alloc ?_ _|refine keep_trans ?_ (by assumption))
  refine wpS_late _ _ _ rfl ?_
  dsimp only[List.map]
  go_wp2_with fail
  refine NoPanic.normal ?_
  have hqz:=World.alloc_heap_new w8 (.cells #[.int .i64 9,.slice al8 nl7 cl8,.int .i64 15,.slice (some ⟨bg8,0,none⟩) 9 9] 27)
  have hbz:Below w6.heap.size w6 (w8.alloc (.cells #[.int .i64 9,.slice al8 nl7 cl8,.int .i64 15,.slice (some ⟨bg8,0,none⟩) 9 9] 27)):=keep_alloc hb69 _
  have hmz:=hmv8.mono ((Below.refl w8.heap.size w8).alloc (Nat.le_refl _) (.cells #[.int .i64 9,.slice al8 nl7 cl8,.int .i64 15,.slice (some ⟨bg8,0,none⟩) 9 9] 27))
  generalize (w8.alloc (.cells #[.int .i64 9,.slice al8 nl7 cl8,.int .i64 15,.slice (some ⟨bg8,0,none⟩) 9 9] 27))=W9 at hqz hbz hmz ⊢
  generalize w8.heap.size=b9 at hqz ⊢
  clear hb69 hb8 hb7 hs7 hs8 hmv8 hta7
  obtain ⟨_,_,_,_,e9,hrcz,hclz,hicz,_⟩:=hmz
  cases e9
 rotate_left
 focus
  have hn7:nl7≤128:=by have h1:=hta7.1.len;have h2:m3.length=8:=rfl;omega
  have q8:=keepq hb8 (World.alloc_heap_new _ _)
  have hb69:Below w6.heap.size w6 w8:=by repeat (first|assumption|exact Below.refl _ _|refine keep_drew ?_|refine keep_alloc ?_ _|refine keep_trans ?_ (by assumption))
  have hle:w6.heap.size≤w7.heap.size:=by omega
  have hbB:w7.heap.size<(w7.alloc (.cells #[.int .i64 0,.slice none 0 0,.int .i64 0,.slice none 0 0] 27)).heap.size:=by simp
  have c0:=q_cell q8 0
  have cf0:=q_free q8 0
  have c1:=q_cell q8 1
  have cf1:=q_free q8 1
  have c2:=q_cell q8 2
  have cf2:=q_free q8 2
  have c3:=q_cell q8 3
  have cf3:=q_free q8 3
  have cfl:=q_lt q8
  refine wpS_loud ?_
  go_wp2_with fail
  refine ⟨?_,?_⟩
  focus exact ⟨_,below_over (((((hb69).setCell (p:=⟨w7.heap.size,0,none⟩) (hle) (.int .i64 9)).setCell (p:=⟨w7.heap.size,1,none⟩) (hle) (.slice al8 nl7 cl8)).setCell (p:=⟨w7.heap.size,2,none⟩) (hle) (.int .i64 15)).setCell (p:=⟨w7.heap.size,3,none⟩) (hle) (.slice (some ⟨bg8,0,none⟩) 9 9))⟩
  refine wpS_late _ _ _ rfl ?_
  dsimp only[List.map]
  go_wp2_with fail
  refine NoPanic.normal ?_
  have hqz:=q_set (i:=3) (q_set (i:=2) (q_set (i:=1) (q_set (i:=0) (q8) (.int .i64 9)) (.slice al8 nl7 cl8)) (.int .i64 15)) (.slice (some ⟨bg8,0,none⟩) 9 9)
  have hbz:=((((hb69).setCell (p:=⟨w7.heap.size,0,none⟩) (hle) (.int .i64 9)).setCell (p:=⟨w7.heap.size,1,none⟩) (hle) (.slice al8 nl7 cl8)).setCell (p:=⟨w7.heap.size,2,none⟩) (hle) (.int .i64 15)).setCell (p:=⟨w7.heap.size,3,none⟩) (hle) (.slice (some ⟨bg8,0,none⟩) 9 9)
  have hmz:=((((hmv8).set hn7 kl_len (b:=w7.heap.size) (i:=0) hbB (.int .i64 9)).set hn7 kl_len (b:=w7.heap.size) (i:=1) hbB (.slice al8 nl7 cl8)).set hn7 kl_len (b:=w7.heap.size) (i:=2) hbB (.int .i64 15)).set hn7 kl_len (b:=w7.heap.size) (i:=3) hbB (.slice (some ⟨bg8,0,none⟩) 9 9)
  generalize ((((w8).setCell ⟨w7.heap.size,0,none⟩ (.int .i64 9)).setCell ⟨w7.heap.size,1,none⟩ (.slice al8 nl7 cl8)).setCell ⟨w7.heap.size,2,none⟩ (.int .i64 15)).setCell ⟨w7.heap.size,3,none⟩ (.slice (some ⟨bg8,0,none⟩) 9 9)=W9 at hqz hbz hmz ⊢
  obtain ⟨b9,hb9⟩:∃b9,b9=w7.heap.size:=⟨_,rfl⟩
  rw[← hb9] at hqz ⊢
  clear hb9 c0 c1 c2 c3 cf0 cf1 cf2 cf3 cfl q8 hbB hle hb69 hb8 hb7 hs7 hs8 hmv8 hta7
  obtain ⟨_,_,_,_,e9,hrcz,hclz,hicz,_⟩:=hmz
  cases e9
 rotate_left
 focus
  have hn7:nl7≤128:=by have h1:=hta7.1.len;have h2:m3.length=8:=rfl;omega
  have q7:=keepq hb7 (World.alloc_heap_new _ _)
  have q8:=keepq hb8 q7
  have hb69:Below w6.heap.size w6 w8:=by repeat (first|assumption|exact Below.refl _ _|refine keep_drew ?_|refine keep_alloc ?_ _|refine keep_trans ?_ (by assumption))
  have hle:w6.heap.size≤w6.heap.size:=by omega
  have hbB:w6.heap.size<w7.heap.size:=q_lt q7
  have c0:=q_cell q8 0
  have cf0:=q_free q8 0
  have c1:=q_cell q8 1
  have cf1:=q_free q8 1
  have c2:=q_cell q8 2
  have cf2:=q_free q8 2
  have c3:=q_cell q8 3
  have cf3:=q_free q8 3
  have cfl:=q_lt q8
  refine wpS_loud ?_
  go_wp2_with fail
  refine ⟨?_,?_⟩
  focus exact ⟨_,below_over (((((hb69).setCell (p:=⟨w6.heap.size,0,none⟩) (hle) (.int .i64 9)).setCell (p:=⟨w6.heap.size,1,none⟩) (hle) (.slice al8 nl7 cl8)).setCell (p:=⟨w6.heap.size,2,none⟩) (hle) (.int .i64 15)).setCell (p:=⟨w6.heap.size,3,none⟩) (hle) (.slice (some ⟨bg8,0,none⟩) 9 9))⟩
  refine wpS_late _ _ _ rfl ?_
  dsimp only[List.map]
  go_wp2_with fail
  refine NoPanic.normal ?_
  have hqz:=q_set (i:=3) (q_set (i:=2) (q_set (i:=1) (q_set (i:=0) (q8) (.int .i64 9)) (.slice al8 nl7 cl8)) (.int .i64 15)) (.slice (some ⟨bg8,0,none⟩) 9 9)
  have hbz:=((((hb69).setCell (p:=⟨w6.heap.size,0,none⟩) (hle) (.int .i64 9)).setCell (p:=⟨w6.heap.size,1,none⟩) (hle) (.slice al8 nl7 cl8)).setCell (p:=⟨w6.heap.size,2,none⟩) (hle) (.int .i64 15)).setCell (p:=⟨w6.heap.size,3,none⟩) (hle) (.slice (some ⟨bg8,0,none⟩) 9 9)
  have hmz:=((((hmv8).set hn7 kl_len (b:=w6.heap.size) (i:=0) hbB (.int .i64 9)).set hn7 kl_len (b:=w6.heap.size) (i:=1) hbB (.slice al8 nl7 cl8)).set hn7 kl_len (b:=w6.heap.size) (i:=2) hbB (.int .i64 15)).set hn7 kl_len (b:=w6.heap.size) (i:=3) hbB (.slice (some ⟨bg8,0,none⟩) 9 9)
  generalize ((((w8).setCell ⟨w6.heap.size,0,none⟩ (.int .i64 9)).setCell ⟨w6.heap.size,1,none⟩ (.slice al8 nl7 cl8)).setCell ⟨w6.heap.size,2,none⟩ (.int .i64 15)).setCell ⟨w6.heap.size,3,none⟩ (.slice (some ⟨bg8,0,none⟩) 9 9)=W9 at hqz hbz hmz ⊢
  obtain ⟨b9,hb9⟩:∃b9,b9=w6.heap.size:=⟨_,rfl⟩
  rw[← hb9] at hqz ⊢
  clear hb9 c0 c1 c2 c3 cf0 cf1 cf2 cf3 cfl q8 hbB hle hb69 hb8 hb7 hs7 hs8 hmv8 hta7
  obtain ⟨_,_,_,_,e9,hrcz,hclz,hicz,_⟩:=hmz
  cases e9
 rotate_left
 all_goals
  have HI9:=Lib.hid (HIM.out.mono hbz)
  have r0:=q_cell hqz 0
  have r1:=q_cell hqz 1
  have r2:=q_cell hqz 2
  have r3:=q_cell hqz 3
  have rl:=q_lt hqz
  have HSO:=Lib.hid (ksol_u al8 nl7 cl8 (some ⟨bg8,0,none⟩) ar 9 W9 hrcz hclz hicz HI9.out)
  have HB9:=Lib.hid (keep_trans hB6 hbz)
  clear hqz hrcz hclz hicz hbz
  go_wp2_with fail
  refine HSO.out.mono ?_
  rintro _ w10 ⟨rfl,hb10⟩
  have HI10:=Lib.hid (HI9.out.mono hb10)
  have HSM:=Lib.hid (fun W b (h1:IC W ar 9 [2,9,4,7,5,3,6,1,8]) (h2:IC W (some ⟨b,0,none⟩) 9 [2,9,4,7,5,3,6,1,8])=>ksame_u W ar 9 b h1 h2)
  clear r0 r1 r2 r3 rl HSO y0 y1 yl
  go_wp2_with (first|(go_at_call 31;refine (HSM.out (w10.alloc (.cells #[.int .i64 2,.int .i64 9,.int .i64 4,.int .i64 7,.int .i64 5,.int .i64 3,.int .i64 6,.int .i64 1,.int .i64 8] 3)) _ (HI10.out.mono ((Below.refl _ _).alloc (Nat.le_refl _) _)) (ic_blk (xs:=[2,9,4,7,5,3,6,1,8]) (World.alloc_heap_new w10 (.cells #[.int .i64 2,.int .i64 9,.int .i64 4,.int .i64 7,.int .i64 5,.int .i64 3,.int .i64 6,.int .i64 1,.int .i64 8] 3)) (by decide))).mono ?_;rintro _ w11 ⟨rfl,hb11⟩))
  go_ret
  exact ⟨rfl,keep_trans HB9.out (keep_trans (keep_alloc (keep_trans (Below.refl _ _) hb10) _) hb11)⟩
end
section
open Go Go.RowKit
theorem small_zero {cells:Int} {ls:List (List Int)} {sum:Int} {g:List Int} (h:taskErr cells ls sum g=0) (ho:(openL g).length≤16):smallErr cells ls sum g=0:=by
 unfold smallErr
 rw[h,if_neg (by decide),decide_eq_false (by omega)]
 rfl
theorem count_ok {cells:Int} {ls:List (List Int)} {sum:Int} {g:List Int} (h:taskErr cells ls sum g=0) (ho:(openL g).length≤7):countE cells ls sum g=0∧countN cells ls sum g=((solsL ls sum g []).length:Int)∧(solsL ls sum g []).length≤5040:=by
 have h1:=small_zero h (by omega)
 have h2:=sols_count (goodTask h) ho
 refine ⟨?_,?_,h2⟩
 ·unfold countE
  rw[h1,if_neg (by decide),if_neg (by omega)]
 ·unfold countN
  rw[h1,if_neg (by decide),if_neg (by omega)]
end
end Go.Proofs.YtaadpihbjhachaaGreat
