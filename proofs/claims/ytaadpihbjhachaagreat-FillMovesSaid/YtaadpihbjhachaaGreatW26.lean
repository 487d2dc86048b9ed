/- Texts N4 to N4 of this proof, in one file. -/
import Derived.Test.YtaadpihbjhachaaGreatW25
namespace Go.Proofs.YtaadpihbjhachaaGreat
set_option maxRecDepth 100000
set_option maxHeartbeats 16000000
section
open Go Go.RowKit
attribute [local go_sem] zv
attribute [local go_sem] Oper.semAt_some
theorem proves_some {ls:List (List Int)} {sum:Int} {g:List Int} {T R:List Nd} (h:jr ls sum (T.length+1) g T=some R):qa ls sum g T=decide (R=[]):=by
 unfold qa
 rw[h]
 cases R <;> simp
theorem proves_none {ls:List (List Int)} {sum:Int} {g:List Int} {T:List Nd} (h:jr ls sum (T.length+1) g T=none):qa ls sum g T=false:=by
 unfold qa
 rw[h]
theorem rrefutes_c {cells:Int} {ls:List (List Int)} {sum:Int} {g:List Int} (G:GoodTask cells ls sum g) (a:Option Addr) (n c:Nat) (a':Option Addr) (n' c':Nat) (at':Option Addr) (nt ct:Nat) (T:List Nd) (w:World) (h:RC w a n ls) (h':IC w a' n' g) (ht:TC w at' nt T) (hkd:∀d,d∈T→qm d.kind=true) :
  Calls Tryz.prog 20 #[.agg #[.int .i64 cells,.slice a n c,.int .i64 sum,.slice a' n' c'],.slice at' nt ct] w fun e w'=>e = .returned (.bool (qa ls sum g T))∧Below w.heap.size w w':=by
 have hgl:=h'.len
 have hgs:n'≤256:=by have:=G.len;have:=G.cells2;omega
 have hns:=ht.1.2
 have htl:=ht.1.1
 have HR:=za (fun w1 (hb:Below w.heap.size w w1)=>refutes_c w1 a n c n' (h.mono hb) hgs at' nt ct T (ht.mono hb) hkd (nt+1) g 0 a' c' w1 G (by omega) (by omega) (h'.mono hb) (Below.refl _ _))
 obtain ⟨o,ho⟩:∃o,jr ls sum (nt+1) g (T.drop 0)=o:=⟨_,rfl⟩
 have HO:=ho
 rw[List.drop_zero,← htl] at HO
 have hdl:∀i,i≤nt→(T.drop i=[]↔i=nt):=fun i hi=>by rw[List.drop_eq_nil_iff,htl];omega
 have HDL:=za hdl
 clear h h' ht hkd G hgl hgs hdl
 go_enter Tryz.func20,Tryz.ntmps20
 go_wp2_with fail
 have fsz:(w.alloc (.cells #[.int .i64 cells,.slice a n c,.int .i64 sum,.slice a' n' c'] 30)).heap.size=w.heap.size+1:=by simp only[World.size_alloc]
 have fB:Below w.heap.size w (w.alloc (.cells #[.int .i64 cells,.slice a n c,.int .i64 sum,.slice a' n' c'] 30)):=(Below.refl _ _).alloc (Nat.le_refl _) _
 have fq0:(w.alloc (.cells #[.int .i64 cells,.slice a n c,.int .i64 sum,.slice a' n' c'] 30)).heap[w.heap.size]?=some (.cells #[.int .i64 cells,.slice a n c,.int .i64 sum,.slice a' n' c'] 30 (0,0)):=by have h:=World.alloc_heap_new w (.cells #[.int .i64 cells,.slice a n c,.int .i64 sum,.slice a' n' c'] 30);exact h
 generalize (w.alloc (.cells #[.int .i64 cells,.slice a n c,.int .i64 sum,.slice a' n' c'] 30))=W0 at fsz fB fq0 ⊢
 clear fq0 fsz
 refine (HR.out W0 fB).mono ?_
 rintro _ w1 ⟨i1,hi1,rfl,hR1,hb1⟩
 rw[ho] at hR1 ⊢
 have hB:=zb fB hb1
 clear HR ho hb1 fB
 cases o with
 | none =>
  have HP:=za (proves_none HO)
  clear HO hR1
  dsimp only[Option.isSome]
  go_wp2_with fail
  go_ret
  exact ⟨zN HP.out.symm,hB⟩
 | some R =>
  have HP:=za (proves_some HO)
  have hRd:=hR1 R rfl
  have HE:Hid (qa ls sum g T=decide (i1=nt)):=by
   unfold Hid
   rw[HP.out,hRd]
   exact decide_eq_decide.2 (HDL.out i1 hi1)
  clear HO hR1 hRd HP
  dsimp only[Option.isSome]
  by_cases e:i1=nt
  ·rw[decide_eq_true e] at HE
   have m:((i1:Int)==(nt:Int))=true:=by simp[e]
   clear e
   go_wp2_with fail
   go_ret
   exact ⟨zN HE.out.symm,hB⟩
  ·rw[decide_eq_false e] at HE
   have m:((i1:Int)==(nt:Int))=false:=by simp;omega
   clear e
   go_wp2_with fail
   go_ret
   exact ⟨zN HE.out.symm,hB⟩
theorem tree_kinds {n:Nat} {T:List Nd} (h:jD n T=0):∀d,d∈T→qm d.kind=true:=by
 intro d hd
 unfold jD at h
 split at h
 ·exact absurd h (by decide)
 ·obtain ⟨k,hk,rfl⟩:=List.getElem_of_mem hd
  have h1:=ki h k hk
  unfold ndAt at h1
  rw[List.getElem?_eq_getElem hk] at h1
  cases hK:qm T[k].kind with
  | true=>rfl
  | false =>
   have h2:=nodeBad_kind (n:=n) hK
   simp only[Option.getD_some] at h1
   rw[h1] at h2
   exact absurd h2 (by decide)
end
end Go.Proofs.YtaadpihbjhachaaGreat
