/- Texts E2 to E9 of this proof, in one file. -/
import Derived.Test.YtaadpihbjhachaaGreatW01
import Derived.Test.YtaadpihbjhachaaGreatW03
import Derived.Test.YtaadpihbjhachaaGreatW07
import Derived.Test.YtaadpihbjhachaaGreatW08
import Derived.Deep.CutBlock
import Derived.Deep.CutRange
import Derived.Laws.EntriesVeiled
namespace Go.Proofs.YtaadpihbjhachaaGreat
set_option maxRecDepth 100000
set_option maxHeartbeats 16000000
section
open Go Go.RowKit
attribute [local go_sem] over_cell
def ownTo (l g:List Int) (j:Nat):List Int:=(l.take j).filter fun c=>g[c.toNat]?.getD 0==0
def tightTo (ls:List (List Int)) (g:List Int):Nat→Nat × Int
 | 0=>((openL g).length+1,(openL g)[0]?.getD 0)
 | k+1=>if 0<(ownTo (ls[k]?.getD []) g (ls[k]?.getD []).length).length∧(ownTo (ls[k]?.getD []) g (ls[k]?.getD []).length).length<(tightTo ls g k).1 then ((ownTo (ls[k]?.getD []) g (ls[k]?.getD []).length).length,(ownTo (ls[k]?.getD []) g (ls[k]?.getD []).length)[0]?.getD 0) else tightTo ls g k
def tightLine (ls:List (List Int)) (g:List Int) (sum:Int):Int:=match (List.range ls.length).find? (fun k=>beyV (ls[k]?.getD []) g sum) with|some k=>(k:Int)|none => -1
def tightCell (ls:List (List Int)) (g:List Int) (sum:Int):Int:=match (List.range ls.length).find? (fun k=>beyV (ls[k]?.getD []) g sum) with|some _=>0|none=>(tightTo ls g ls.length).2
end
section
open Go Go.RowKit
attribute [local go_sem] over_cell
end
section
open Go Go.RowKit
theorem tmod_pos (a n:Int) (hn:1≤n) : -n<a.tmod n∧a.tmod n<n:=by
 refine ⟨?_,Int.tmod_lt_of_pos a (by omega)⟩
 have h:=Int.tmod_lt_of_pos (-a) (show 0<n by omega)
 rw[Int.neg_tmod] at h
 omega
theorem mod_val (a n:Int) (hn1:1≤n) (hn2:n≤1000000):(wrap64 (a.tmod n+n)).tmod n=a % n:=by
 obtain ⟨h1,h2⟩:=tmod_pos a n hn1
 have e:wrap64 (a.tmod n+n)=a.tmod n+n:=by unfold wrap64;omega
 rw[e,Int.tmod_eq_emod_of_nonneg (by omega),Int.add_emod_right]
 have h3:=Int.tmod_add_mul_tdiv a n
 conv=>rhs;rw[← h3]
 rw[Int.add_mul_emod_self_left]
theorem mod_c (a n:Int) (w:World) (hn1:1≤n) (hn2:n≤1000000) :
  Calls Tryz.prog 231 #[.int .i64 a,.int .i64 n] w fun e w'=>e = .returned (.int .i64 (a % n))∧w=w':=by
 have hn0:n≠0:=by omega
 have hn00:(n==0)=false:=by simp;omega
 have HN:=Lib.hid hn0
 clear hn0
 go_enter Tryz.func231,Tryz.ntmps231
 go_wp2
 go_ret
 exact ⟨congrArg Ending.returned (congrArg (Value.int IntKind.i64) (mod_val a n hn1 hn2)),rfl⟩
end
section
open Go Go.RowKit
attribute [local go_sem] over_cell
def diagTo (n s t:Int) (k:Nat):List Int:=(List.range k).map fun (i:Nat)=>n*i+(t*i+s) % n
theorem diagTo_succ (n s t:Int) (k:Nat):diagTo n s t (k+1)=diagTo n s t k++[n*k+(t*k+s) % n]:=by
 unfold diagTo;rw[List.range_succ,List.map_append];rfl
theorem diag_c (n:Nat) (s t:Int) (w:World) (hn1:1≤n) (hn2:n≤16) (hs1:0≤s) (hs2:s≤16) (ht:t=1∨t = -1) :
  Calls Tryz.prog 191 #[.int .i64 n,.int .i64 s,.int .i64 t] w fun e w'=>∃v,e = .returned v∧w'.ownsRow w.heap.size 3 1 v n ((diagTo n s t n).map (Value.int .i64))∧Below w.heap.size w w':=by
 obtain ⟨i0,hi,hz0,hz1,hz2⟩:=info_parts infoInt
 have HM:=Lib.hid (fun (x:Int) W=>mod_c x (n:Int) W (by omega) (by omega))
 have HT:=Lib.hid ht
 clear ht
 go_enter Tryz.func191,Tryz.ntmps191
 go_wp2_with fail
 go_loopw [7,8] (fun v i wr=>∃k:Nat,k≤n∧i = .int .i64 k∧wr.ownsRow w.heap.size 3 1 v k ((diagTo n s t k).map (Value.int .i64))∧Below w.heap.size w wr) (fun _ i _=>n - (intOf i).toNat)
 case atStart=>exact ⟨0,by omega,rfl,World.ownsRow_nil _ _ _ _,Below.refl _ _⟩
 case round =>
  obtain ⟨k,hk,rfl,hown,hbr⟩:=hrel
  by_cases hlt:k<n
  ·have hli:(k:Int)<(n:Int):=by omega
   have hszr:=hbr.size
   have h1:t*(k:Int)+s≤1000 ∧ -1000≤t*(k:Int)+s:=by rcases HT.out with e|e <;> rw[e] <;> omega
   have h2:0≤(n:Int)*(k:Int)∧(n:Int)*(k:Int)≤256:=by
    constructor
    ·exact Int.mul_nonneg (by omega) (by omega)
    ·have:=Int.mul_le_mul (show (n:Int)≤16 by omega) (show (k:Int)≤16 by omega) (by omega) (by omega);omega
   have h3 : -16≤t*(k:Int)∧t*(k:Int)≤16:=by rcases HT.out with e|e <;> rw[e] <;> omega
   have hN:=Lib.hid (diagTo_succ n s t k)
   have hm0:=Int.emod_nonneg (t*(k:Int)+s) (show (n:Int)≠0 by omega)
   have hm1:=Int.emod_lt_of_pos (t*(k:Int)+s) (show 0<(n:Int) by omega)
   have HM1:=Lib.hid (HM.out (t*(k:Int)+s))
   generalize (t*(k:Int)+s) % (n:Int)=m at hN hm0 hm1 HM1
   go_wp2_with (first|(go_at_call 231;refine (HM1.out _).mono ?_;rintro _ w2 ⟨rfl,rfl⟩)|(at_builtin;refine wpList_append_own _ rfl _ _ 25 rfl w.heap.size 3 i0 (.int .i64 0) 1 8 Tryz.underlying25 hi hz0 hz1 hz2 rfl (by decide) _ _ _ rfl (hown.alloc _) ⟨wr.heap.size,0,none⟩ 1 1 [.int .i64 ((n:Int)*k+m)] rfl rfl (cell_one_new _ _ _) (by simp[Value.oneCell']) (by unfold maxLen;omega) (by omega) (by simp;omega) ?_))
   intro v' w3 hown' hgrow _
   have hb3:Below w.heap.size w w3:=(hbr.alloc hbr.size _).grown hgrow (by simp;omega) (fun j e=>(hown.lt j e).1)
   have hown2:w3.ownsRow w.heap.size 3 1 v' (k+1) ((diagTo n s t (k+1)).map (Value.int .i64)):=by
    rw[hN.out];simpa using hown'
   clear hown' hgrow hown
   go_wp2
   go_roundw
   case rel=>exact ⟨k+1,by omega,by go_num,hown2,hb3⟩
   case measure=>simp[intOf];omega
  ·have e:k=n:=by omega
   subst e
   go_wp2
   go_ret
   exact ⟨_,rfl,hown,hbr⟩
end
section
open Go Go.RowKit
attribute [local go_sem] over_cell
attribute [local go_sem] Oper.semAt_some
theorem rules_c (w:World):Calls Tryz.prog 159 #[] w fun e w'=>e = .returned (.slice (some ⟨w.heap.size,0,none⟩) 3 3)∧w'.heap[w.heap.size]?=some (.cells #[.string ⟨#[111,110,99,101]⟩,.func (Fn.func 216) #[] #[],.string ⟨#[108,105,110,101]⟩,.func (Fn.func 217) #[] #[],.string ⟨#[112,108,97,99,101]⟩,.func (Fn.func 218) #[] #[]] 212 (0,0))∧Below w.heap.size w w':=by
 go_enter Tryz.func159,Tryz.ntmps159
 go_wp2
 go_ret
 exact ⟨rfl,World.alloc_heap_new _ _,(Below.refl _ _).alloc (Nat.le_refl _) _⟩
end
end Go.Proofs.YtaadpihbjhachaaGreat
