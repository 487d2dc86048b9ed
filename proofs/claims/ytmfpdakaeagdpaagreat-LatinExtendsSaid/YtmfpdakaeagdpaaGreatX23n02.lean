/- Texts J129 to J130 of this proof, in one file. -/
import Derived.Test.YtmfpdakaeagdpaaGreatW01
import Derived.Test.YtmfpdakaeagdpaaGreatW02
import Derived.Test.YtmfpdakaeagdpaaGreatW03
import Derived.Test.YtmfpdakaeagdpaaGreatW04
import Derived.Test.YtmfpdakaeagdpaaGreatW05
import Derived.Test.YtmfpdakaeagdpaaGreatW06
import Derived.Test.YtmfpdakaeagdpaaGreatW07
import Derived.Test.YtmfpdakaeagdpaaGreatW08
import Derived.Test.YtmfpdakaeagdpaaGreatW09
import Derived.Test.YtmfpdakaeagdpaaGreatW10
import Derived.Test.YtmfpdakaeagdpaaGreatW11
import Derived.Test.YtmfpdakaeagdpaaGreatW12
import Derived.Test.YtmfpdakaeagdpaaGreatW13
import Derived.Test.YtmfpdakaeagdpaaGreatW14
import Derived.Test.YtmfpdakaeagdpaaGreatW15
import Derived.Test.YtmfpdakaeagdpaaGreatW16
import Derived.Test.YtmfpdakaeagdpaaGreatW17
import Derived.Test.YtmfpdakaeagdpaaGreatW18
import Derived.Test.YtmfpdakaeagdpaaGreatW19
import Derived.Test.YtmfpdakaeagdpaaGreatW20
import Derived.Test.YtmfpdakaeagdpaaGreatW21
import Derived.Test.YtmfpdakaeagdpaaGreatW22
import Derived.Test.YtmfpdakaeagdpaaGreatW23
import Derived.Test.YtmfpdakaeagdpaaGreatW24
import Derived.Test.YtmfpdakaeagdpaaGreatW25
import Derived.Test.YtmfpdakaeagdpaaGreatW26
import Derived.Test.YtmfpdakaeagdpaaGreatW27
import Derived.Test.YtmfpdakaeagdpaaGreatX23n01
import Derived.Below
import Derived.BigFrame
import Derived.BigQuiet
import Derived.Deep.CutBlock
import Derived.Deep.CutRange
import Derived.Deep.LoopGhost
import Derived.Deep.Quiet
import Derived.Deep.RegionHeld3
import Derived.DeepKeys4
import Derived.KernelRfl
import Derived.Laws.BitsAllLaws
import Derived.Laws.EntriesVeiled
import Derived.Lib.AppendZeros
import Derived.Lib.Hide
import Derived.Lib.SlKeysI
import Derived.Lib.SliceRun
import Derived.LoopIn
import Derived.LoopNIn
import Derived.Maps.AppendAt
import Derived.Maps.OwnIn
import Derived.Maps.OwnSet
import Derived.OneCell
import Derived.OrdersHeld
import Derived.OrdersIn
import Derived.OwnWalkIn
import Derived.RangeFuncBound
import Derived.RangeFuncBox
import Derived.RangeFuncCalls
import Derived.RangeFuncLeaves
import Derived.RangeFuncNested
import Derived.RangeFuncWrites
import Derived.Shelf.Abstract
import Derived.Shelf.SortM.Plain
import Derived.Still
import Derived.TacticsIn
import Derived.TacticsInMore
import Derived.Test.YtmfpdakaeagdpaaGreatProg
import Derived.WalkKit
import Derived.WalkLawsBesides
import Derived.WalkSpells
import Derived.WideKeyPair
namespace Go.Proofs.YtmfpdakaeagdpaaGreat
set_option maxRecDepth 100000
set_option maxHeartbeats 16000000
section
open Go Go.RowKit
attribute [local go_sem] over_cell
attribute [local go_sem] Oper.semAt_some
theorem firstL_ne {x:Int} {l:List Int} (h:x≠0):firstL (x :: l)=x:=by
 unfold firstL
 rw[if_pos (by simpa using h)]
theorem firstL_z {l:List Int}:firstL (0 :: l)=firstL l:=by
 rw[firstL];simp
end
section
open Go Go.RowKit
attribute [local go_sem] over_cell
attribute [local go_sem] Oper.semAt_some
theorem findSome_hit {α:Type} {g:Int→Option α} {r:α}:∀{xs:List Int} {i:Nat},i<xs.length→(∀j,j<i→g (xs[j]?.getD 0)=none)→g (xs[i]?.getD 0)=some r→xs.findSome? g=some r
 | [],i,h,_,_=>absurd h (by simp)
 | x :: xs,0,_,_,h=>by
  simp only[List.getElem?_cons_zero,Option.getD_some] at h
  rw[List.findSome?_cons,h]
 | x :: xs,i+1,hi,hb,h=>by
  have h0:=hb 0 (by omega)
  simp only[List.getElem?_cons_zero,Option.getD_some] at h0
  rw[List.findSome?_cons,h0]
  rw[List.getElem?_cons_succ] at h
  exact findSome_hit (by simpa using hi) (fun j hj=>by have:=hb (j+1) (by omega);simpa using this) h
theorem findSome_no {α:Type} {g:Int→Option α} {xs:List Int} (h:∀j,j<xs.length→g (xs[j]?.getD 0)=none):xs.findSome? g=none:=by
 rw[List.findSome?_eq_none_iff]
 intro x hx
 obtain ⟨j,hj,rfl⟩:=List.getElem_of_mem hx
 have:=h j hj
 rwa [List.getElem?_eq_getElem hj,Option.getD_some] at this
theorem own_emp (w:World) (B:Nat) (T:TypeId) (hB:B≤w.heap.size):(w.alloc (.cells #[] T)).ownsRow B T 1 (.slice (some ⟨w.heap.size,0,none⟩) 0 0) 0 [] :=
 ⟨rfl,.inr ⟨w.heap.size,0,#[],rfl,hB,World.alloc_heap_new _ _,Nat.le_refl _,by unfold maxLen;omega,rfl,rfl⟩⟩
theorem own_emq (w:World) (B:Nat) (T:TypeId) (b:Nat) (hb:b=w.heap.size) (hB:B≤w.heap.size):(w.alloc (.cells #[] T)).ownsRow B T 1 (.slice (some ⟨b,0,none⟩) 0 0) 0 []:=by
 subst hb;exact own_emp w B T hB
theorem ints_one (l:List Int):∀u∈l.map (Value.int .i64),u.oneCell'=true:=by
 intro u hu
 obtain ⟨x,_,rfl⟩:=List.mem_map.1 hu
 rfl
theorem src_one (w:World) (x:Value) (T:TypeId):SrcOk (w.alloc (.cells #[x] T)) (some ⟨w.heap.size,0,none⟩) 1 [x] := .inl ⟨_,rfl,cell_one_new _ _ _⟩
theorem src_onq (w:World) (x:Value) (T:TypeId) (b:Nat) (hb:b=w.heap.size):SrcOk (w.alloc (.cells #[x] T)) (some ⟨b,0,none⟩) 1 [x]:=by
 subst hb;exact src_one w x T
theorem src_drew {w:World} {a:Option Addr} {m:Nat} {news:List Value} (h:SrcOk w a m news):SrcOk w.drew a m news:=h
theorem src_below {w w':World} {a:Option Addr} {m:Nat} {news:List Value} (h:SrcOk w a m news) (hb:Below w.heap.size w w'):SrcOk w' a m news:=by
 rcases h with ⟨p,rfl,h⟩|h
 ·exact .inl ⟨p,rfl,fun j u hj=>by
   have h1:=h j u hj
   rw[← h1]
   exact hb.cell (cell_lt h1)⟩
 ·exact .inr h
theorem src_st {S:Nat→Prop} {w w':World} {b off m:Nat} {news:List Value} (h:SrcOk w (some ⟨b,off,none⟩) m news) (hs:Stays S w w') (hb:¬S b):SrcOk w' (some ⟨b,off,none⟩) m news:=by
 rcases h with ⟨p,e,h⟩|⟨e,_⟩
 ·cases e
  refine .inl ⟨_,rfl,fun j u hj=>?_⟩
  have h1:=h j u hj
  have h2:=cell_lt h1
  rw[← h1]
  have hbl:((⟨b,off,none⟩:Addr).add j).block=b:=by unfold Addr.add;split <;> rfl
  have h3:=hs.block b (by rw[← hbl];exact h2) hb
  unfold World.cell?
  rw[hbl,h3]
 ·cases e
def RprE (w:World) (R:Option (List Int)) (e:Ending) (w':World):Prop :=
 match R with
 | some r=>∃a c,e = .returned (.tuple #[.slice a r.length c,.bool true])∧IC w' a r.length r∧Below w.heap.size w w'
 | none=>e = .returned (.tuple #[.slice none 0 0,.bool false])∧Below w.heap.size w w'
def RprS (sets:List (List Int)) (f:Nat):Prop:=∀(a:Option Addr) (n c:Nat) (a2:Option Addr) (n2 c2:Nat) (l:List Int) (w:World),RC w a n sets→IC w a2 n2 l→l.length+f=sets.length→sets.length≤100 →
 Calls Tryz.prog 112 #[.slice a n c,.slice a2 n2 c2] w (RprE w (repR sets f l))
theorem rrep_zero (sets:List (List Int)):RprS sets 0:=by
 intro a n c a2 n2 c2 l w h h2 hl hs
 have e:n2=n:=by rw[← h2.len,← h.len];omega
 subst e
 have hR:repR sets 0 l=some l:=rfl
 rw[hR]
 have HI:=Lib.hid h2
 have HLL:Hid (l.length=n2):=h2.len
 have he:((n2:Int)==(n2:Int))=true:=by simp
 clear h h2 hl hR
 go_enter Tryz.func112,Tryz.ntmps112
 go_wp2_with fail
 go_ret2
 exact ⟨a2,c2,by rw[HLL.out];rfl,by rw[HLL.out];exact HI.out,Below.refl _ _⟩
theorem rrep_succ (sets:List (List Int)) (f:Nat) (IH:RprS sets f):RprS sets (f+1):=by
 intro a n c a2 n2 c2 l w h h2 hl hs
 have hlen:=h.len
 have hl2:=h2.len
 have hlt:n2<n:=by omega
 have hne:((n2:Int)==(n:Int))=false:=by simpa using (show ¬(n2:Int)=(n:Int) by omega)
 have hR:repR sets (f+1) l=(sets[n2]?.getD []).findSome? fun x=>if x∈l then none else repR sets f (l++[x]):=by rw[repR,hl2]
 obtain ⟨R,hRR⟩:∃R,R=repR sets (f+1) l:=⟨_,rfl⟩
 rw[← hRR]
 rw[hR] at hRR
 obtain ⟨i0,hi0,hz0,hz1,hz2⟩:=info_parts infoInt
 obtain ⟨b,off,a',n',c',rfl,hb,hc,hi,_⟩:=h.2 n2 hlt
 have HRC:=Lib.hid h
 have HIC:=Lib.hid h2
 have HLL:=Lib.hid hl2
 have HIH:=Lib.hid (fun (x:Int) (av:Option Addr) (nv cv:Nat) W (hw:Below w.heap.size w W) (hv:IC W av nv (l++[x]))=>IH (some ⟨b,off,none⟩) n c av nv cv (l++[x]) W (h.mono hw) hv (by rw[List.length_append,List.length_singleton];omega) hs)
 have hn2:n2<100:=by omega
 generalize sets[n2]?.getD []=s at hi hRR
 have HS:=Lib.hid hi
 have HSL:Hid (s.length=n'):=hi.len
 have hsm:=hi.small
 have HHIT:Hid (∀(i:Nat) (r:List Int),i<n'→(∀j,j<i→(if s[j]?.getD 0∈l then none else repR sets f (l++[s[j]?.getD 0]))=none)→s[i]?.getD 0 ∉ l→repR sets f (l++[s[i]?.getD 0])=some r→R=some r):=fun i r h1 h2 h3 h4=>by
  rw[hRR]
  exact findSome_hit (i:=i) (by rw[HSL.out];exact h1) h2 (by rw[if_neg h3];exact h4)
 have HNO:Hid ((∀j,j<n'→(if s[j]?.getD 0∈l then none else repR sets f (l++[s[j]?.getD 0]))=none)→R=none):=fun h1=>by
  rw[hRR]
  exact findSome_no (fun j hj=>h1 j (by rw[HSL.out] at hj;exact hj))
 clear h h2 IH hR hRR hl hs hlen hl2 hi
 go_enter Tryz.func112,Tryz.ntmps112
 go_wp2_with fail
 go_loopw [7,8,9] (fun s7 _ _ wr=>∃i:Nat,i≤n'∧s7 = .int .i64 (i:Int)∧Hid (∀j,j<i→(if s[j]?.getD 0∈l then none else repR sets f (l++[s[j]?.getD 0]))=none)∧Hid (Below w.heap.size w wr)) (fun s7 _ _ _=>n' - (intOf s7).toNat)
 case atStart=>exact ⟨0,by omega,rfl,fun j hj=>absurd hj (by omega),Below.refl _ _⟩
 case round =>
  obtain ⟨i,hi1,rfl,hbf,hbr⟩:=hrel
  by_cases hlt2:i<n'
  ·have hii:(i:Int)<(n':Int):=by omega
   obtain ⟨b1,off1,rfl,hbl1,hc1⟩:=(HS.out.mono hbr.out).2 i hlt2
   have HNX:Hid ((if s[i]?.getD 0∈l then none else repR sets f (l++[s[i]?.getD 0]))=none→∀j,j<i+1→(if s[j]?.getD 0∈l then none else repR sets f (l++[s[j]?.getD 0]))=none):=fun e j hj=>by
    rcases Nat.lt_or_ge j i with e2|e2
    ·exact hbf.out j e2
    ·rw[show j=i by omega];exact e
   have HHX:=Lib.hid (fun r=>HHIT.out i r hlt2 hbf.out)
   have hicl:=HIC.out.mono hbr.out
   generalize s[i]?.getD 0=x at hc1 HNX HHX
   have HHS:=Lib.hid (fun W (hb:wr=W)=>rhas4_c a2 n2 c2 l x W (by rw[← hb];exact hicl))
   by_cases hm:x∈l
   ·have hbx:hasB l x=true:=by simp[hasB,hm]
    rw[hbx] at HHS
    have HN2:=Lib.hid (HNX.out (if_pos hm))
    clear HNX HHX
    go_wp2_with (first|(go_at_call 111;(with_reducible refine (HHS.out _ rfl).mono ?_);rintro _ w6 ⟨rfl,h6⟩;subst h6)|fail)
    go_roundw
    case rel=>exact ⟨i+1,by omega,by go_num,HN2.out,hbr⟩
    case measure=>simp[intOf];omega
   ·have hbx:hasB l x=false:=by simp[hasB,hm]
    rw[hbx] at HHS
    rw[if_neg hm] at HNX
    have HHX2:=Lib.hid (fun r=>HHX.out r hm)
    have HCA:=Lib.hid (HIH.out x)
    have HSRC:=Lib.hid (show SrcOk wr a2 n2 (l.map (Value.int .i64)) from hicl.src)
    have HLM:Hid ((l.map (Value.int .i64)).length=n2):=by unfold Hid;rw[List.length_map];exact HLL.out
    have hbr9:=hbr.out
    have hsz:=hbr.out.size
    clear HHX hicl
    go_upto_region 8 with (first|(go_at_call 111;(with_reducible refine (HHS.out _ rfl).mono ?_);rintro _ w6 ⟨rfl,h6⟩;subst h6)|fail)
    cases hq:repR sets f (l++[x]) with
    | none =>
     rw[hq] at HNX HCA
     have HN2:=Lib.hid (HNX.out rfl)
     clear HNX HHX2 hq
     refine wp_region_tree (fun w'=>∃u,w'=over (wr) u) [] (.fork [0,2,4,5,6,7] 1 8 (.fork [] 3 8 (.leaf [(1,8),(1,9),(1,10),(0,11),(0,12),(0,13),(1,14),(1,15)]) (.leaf [(1,3),(1,9),(1,10),(0,11),(0,12),(0,13),(1,14),(1,15)])) (.leaf [(1,1),(1,3),(1,9),(1,10),(0,11),(0,12),(0,13),(1,14),(1,15)])) (by kernel_rfl) (by kernel_rfl) (by exact ⟨_,below_over (by repeat (first|assumption|exact Below.refl _ _|refine keep_drew ?_|refine keep_alloc ?_ _|refine keep_trans ?_ (by assumption)))⟩) ?_
     all_goals try (refine ⟨?_,?_⟩ <;> dsimp only[List.map,List.cons_append,List.nil_append,pickOps,nthOp])
     all_goals repeat (first|(refine wpS_skip rfl (fun K hK=>?_);go_big_quiet_op;refine hK _ ?_;clear hK K)|(refine wpS_quiet rfl rfl (fun K hK=>?_);go_big_quiet_op;refine hK _ ?_;clear hK K)|(refine wpS_loud ?_;go_wp2_with (first|(at_builtin;refine wpList_append_any _ rfl _ _ 22 rfl wr.heap.size 3 i0 (.int .i64 0) 8 Tryz.underlying22 hi0 hz0 hz1 hz2 rfl _ 0 [] rfl (owns_drew (own_emp wr wr.heap.size 3 (Nat.le_refl _))) (by first|exact Nat.le_refl _|exact Nat.le_succ _|(simp;done)|(simp;omega)) a2 n2 c2 (l.map (Value.int .i64)) rfl HLM.out (src_below HSRC.out (((Below.refl wr.heap.size wr).alloc (Nat.le_refl _) (.cells #[] 3))).drew) (ints_one _) (by unfold maxLen;omega) (by omega) ?_;intro v4 w4 hown4 hst4 hk4;rw[Nat.zero_add,List.nil_append] at hown4;have hB4:Below wr.heap.size wr w4:=(((Below.refl wr.heap.size wr).alloc (Nat.le_refl _) (.cells #[] 3))).drew.trans (hst4.below (by first|exact Nat.le_refl _|exact Nat.le_succ _|(simp;done)|(simp;omega)) (fun q e=>by injection e with e;all_goals (first|omega|(simp at e;done)|(simp at e;omega)))))|(at_builtin;refine wpList_append_any _ rfl _ _ 22 rfl wr.heap.size 3 i0 (.int .i64 0) 8 Tryz.underlying22 hi0 hz0 hz1 hz2 rfl _ 0 [] rfl (owns_drew ((own_emp wr wr.heap.size 3 (Nat.le_refl _)).alloc _)) (by first|exact Nat.le_refl _|exact Nat.le_succ _|(simp;done)|(simp;omega)) a2 n2 c2 (l.map (Value.int .i64)) rfl HLM.out (src_below HSRC.out ((((Below.refl wr.heap.size wr).alloc (Nat.le_refl _) (.cells #[] 3)).alloc (by simp) (.cells #[.int .i64 x] 3))).drew) (ints_one _) (by unfold maxLen;omega) (by omega) ?_;intro v4 w4 hown4 hst4 hk4;rw[Nat.zero_add,List.nil_append] at hown4;have hB4:Below wr.heap.size wr w4:=((((Below.refl wr.heap.size wr).alloc (Nat.le_refl _) (.cells #[] 3)).alloc (by simp) (.cells #[.int .i64 x] 3))).drew.trans (hst4.below (by first|exact Nat.le_refl _|exact Nat.le_succ _|(simp;done)|(simp;omega)) (fun q e=>by injection e with e;all_goals (first|omega|(simp at e;done)|(simp at e;omega))));have hX4:=src_st (src_drew (src_onq (wr.alloc (.cells #[] 3)) (.int .i64 x) 3 (wr.heap.size+1) (by simp))) hst4 (fun e=>by injection e with e;all_goals (first|omega|(simp at e;done)|(simp at e;omega))))|(at_builtin;refine wpList_append_any _ rfl _ _ 22 rfl wr.heap.size 3 i0 (.int .i64 0) 8 Tryz.underlying22 hi0 hz0 hz1 hz2 rfl _ 0 [] rfl (owns_drew (own_emq (wr.alloc (.cells #[.int .i64 x] 3)) wr.heap.size 3 _ (by simp) (by simp))) (by first|exact Nat.le_refl _|exact Nat.le_succ _|(simp;done)|(simp;omega)) a2 n2 c2 (l.map (Value.int .i64)) rfl HLM.out (src_below HSRC.out ((((Below.refl wr.heap.size wr).alloc (Nat.le_refl _) (.cells #[.int .i64 x] 3)).alloc (by simp) (.cells #[] 3))).drew) (ints_one _) (by unfold maxLen;omega) (by omega) ?_;intro v4 w4 hown4 hst4 hk4;rw[Nat.zero_add,List.nil_append] at hown4;have hB4:Below wr.heap.size wr w4:=((((Below.refl wr.heap.size wr).alloc (Nat.le_refl _) (.cells #[.int .i64 x] 3)).alloc (by simp) (.cells #[] 3))).drew.trans (hst4.below (by first|exact Nat.le_refl _|exact Nat.le_succ _|(simp;done)|(simp;omega)) (fun q e=>by injection e with e;all_goals (first|omega|(simp at e;done)|(simp at e;omega))));have hX4:=src_st (src_drew (src_below (src_one wr (.int .i64 x) 3) ((Below.refl _ _).alloc (Nat.le_refl _) (.cells #[] 3)))) hst4 (fun e=>by injection e with e;all_goals (first|omega|(simp at e;done)|(simp at e;omega))))|(at_builtin;refine wpList_append_any _ rfl _ _ 22 rfl wr.heap.size 3 i0 (.int .i64 0) 8 Tryz.underlying22 hi0 hz0 hz1 hz2 rfl v4 n2 (l.map (Value.int .i64)) rfl hown4 hB4.size _ 1 1 [.int .i64 x] rfl rfl hX4 (by intro u hu;rw[List.mem_singleton.1 hu];rfl) (by unfold maxLen;omega) (by omega) ?_;intro v7 w7 hown7 hst7 hk7;have hB7:Below wr.heap.size wr w7:=hB4.trans (hst7.below (by first|exact hB4.size|(have:=hB4.size;simp;omega)) (fun q e=>(hown4.lt q e).1));obtain ⟨a7,c7,rfl⟩:=owns_shape hown7)|(at_builtin;refine wpList_append_any _ rfl _ _ 22 rfl wr.heap.size 3 i0 (.int .i64 0) 8 Tryz.underlying22 hi0 hz0 hz1 hz2 rfl v4 n2 (l.map (Value.int .i64)) rfl (hown4.alloc _) (by have:=hB4.size;simp;omega) _ 1 1 [.int .i64 x] rfl rfl (src_one w4 _ _) (by intro u hu;rw[List.mem_singleton.1 hu];rfl) (by unfold maxLen;omega) (by omega) ?_;intro v7 w7 hown7 hst7 hk7;have hB7:Below wr.heap.size wr w7:=(hB4.alloc hB4.size _).trans (hst7.below (by first|exact hB4.size|(have:=hB4.size;simp;omega)) (fun q e=>(hown4.lt q e).1));obtain ⟨a7,c7,rfl⟩:=owns_shape hown7)|(go_at_call 112;(with_reducible refine (HCA.out _ _ _ _ (keep_trans hbr9 hB7) ?_).mono ?_);(focus (exact (IC.of_owns (by rw[List.length_append,List.length_singleton,List.map_append,HLL.out];exact hown7) (by rw[List.length_append,List.length_singleton,HLL.out];omega)).1));rintro _ w9 ⟨rfl,hb9⟩)|fail);refine ⟨?_,?_⟩;focus (exact ⟨_,below_over (by repeat (first|assumption|exact Below.refl _ _|refine keep_drew ?_|refine keep_alloc ?_ _|refine keep_set ?_ (by first|omega|(dsimp only;omega)) _|refine keep_trans ?_ (by assumption)))⟩)))
     all_goals try refine wpTr_end ?_
     all_goals try (refine ⟨?_,?_⟩ <;> dsimp only[List.map,List.cons_append,List.nil_append,pickOps,nthOp])
     all_goals repeat (first|(refine wpS_skip rfl (fun K hK=>?_);go_big_quiet_op;refine hK _ ?_;clear hK K)|(refine wpS_quiet rfl rfl (fun K hK=>?_);go_big_quiet_op;refine hK _ ?_;clear hK K)|(refine wpS_loud ?_;go_wp2_with (first|(at_builtin;refine wpList_append_any _ rfl _ _ 22 rfl wr.heap.size 3 i0 (.int .i64 0) 8 Tryz.underlying22 hi0 hz0 hz1 hz2 rfl _ 0 [] rfl (owns_drew (own_emp wr wr.heap.size 3 (Nat.le_refl _))) (by first|exact Nat.le_refl _|exact Nat.le_succ _|(simp;done)|(simp;omega)) a2 n2 c2 (l.map (Value.int .i64)) rfl HLM.out (src_below HSRC.out (((Below.refl wr.heap.size wr).alloc (Nat.le_refl _) (.cells #[] 3))).drew) (ints_one _) (by unfold maxLen;omega) (by omega) ?_;intro v4 w4 hown4 hst4 hk4;rw[Nat.zero_add,List.nil_append] at hown4;have hB4:Below wr.heap.size wr w4:=(((Below.refl wr.heap.size wr).alloc (Nat.le_refl _) (.cells #[] 3))).drew.trans (hst4.below (by first|exact Nat.le_refl _|exact Nat.le_succ _|(simp;done)|(simp;omega)) (fun q e=>by injection e with e;all_goals (first|omega|(simp at e;done)|(simp at e;omega)))))|(at_builtin;refine wpList_append_any _ rfl _ _ 22 rfl wr.heap.size 3 i0 (.int .i64 0) 8 Tryz.underlying22 hi0 hz0 hz1 hz2 rfl _ 0 [] rfl (owns_drew ((own_emp wr wr.heap.size 3 (Nat.le_refl _)).alloc _)) (by first|exact Nat.le_refl _|exact Nat.le_succ _|(simp;done)|(simp;omega)) a2 n2 c2 (l.map (Value.int .i64)) rfl HLM.out (src_below HSRC.out ((((Below.refl wr.heap.size wr).alloc (Nat.le_refl _) (.cells #[] 3)).alloc (by simp) (.cells #[.int .i64 x] 3))).drew) (ints_one _) (by unfold maxLen;omega) (by omega) ?_;intro v4 w4 hown4 hst4 hk4;rw[Nat.zero_add,List.nil_append] at hown4;have hB4:Below wr.heap.size wr w4:=((((Below.refl wr.heap.size wr).alloc (Nat.le_refl _) (.cells #[] 3)).alloc (by simp) (.cells #[.int .i64 x] 3))).drew.trans (hst4.below (by first|exact Nat.le_refl _|exact Nat.le_succ _|(simp;done)|(simp;omega)) (fun q e=>by injection e with e;all_goals (first|omega|(simp at e;done)|(simp at e;omega))));have hX4:=src_st (src_drew (src_onq (wr.alloc (.cells #[] 3)) (.int .i64 x) 3 (wr.heap.size+1) (by simp))) hst4 (fun e=>by injection e with e;all_goals (first|omega|(simp at e;done)|(simp at e;omega))))|(at_builtin;refine wpList_append_any _ rfl _ _ 22 rfl wr.heap.size 3 i0 (.int .i64 0) 8 Tryz.underlying22 hi0 hz0 hz1 hz2 rfl _ 0 [] rfl (owns_drew (own_emq (wr.alloc (.cells #[.int .i64 x] 3)) wr.heap.size 3 _ (by simp) (by simp))) (by first|exact Nat.le_refl _|exact Nat.le_succ _|(simp;done)|(simp;omega)) a2 n2 c2 (l.map (Value.int .i64)) rfl HLM.out (src_below HSRC.out ((((Below.refl wr.heap.size wr).alloc (Nat.le_refl _) (.cells #[.int .i64 x] 3)).alloc (by simp) (.cells #[] 3))).drew) (ints_one _) (by unfold maxLen;omega) (by omega) ?_;intro v4 w4 hown4 hst4 hk4;rw[Nat.zero_add,List.nil_append] at hown4;have hB4:Below wr.heap.size wr w4:=((((Below.refl wr.heap.size wr).alloc (Nat.le_refl _) (.cells #[.int .i64 x] 3)).alloc (by simp) (.cells #[] 3))).drew.trans (hst4.below (by first|exact Nat.le_refl _|exact Nat.le_succ _|(simp;done)|(simp;omega)) (fun q e=>by injection e with e;all_goals (first|omega|(simp at e;done)|(simp at e;omega))));have hX4:=src_st (src_drew (src_below (src_one wr (.int .i64 x) 3) ((Below.refl _ _).alloc (Nat.le_refl _) (.cells #[] 3)))) hst4 (fun e=>by injection e with e;all_goals (first|omega|(simp at e;done)|(simp at e;omega))))|(at_builtin;refine wpList_append_any _ rfl _ _ 22 rfl wr.heap.size 3 i0 (.int .i64 0) 8 Tryz.underlying22 hi0 hz0 hz1 hz2 rfl v4 n2 (l.map (Value.int .i64)) rfl hown4 hB4.size _ 1 1 [.int .i64 x] rfl rfl hX4 (by intro u hu;rw[List.mem_singleton.1 hu];rfl) (by unfold maxLen;omega) (by omega) ?_;intro v7 w7 hown7 hst7 hk7;have hB7:Below wr.heap.size wr w7:=hB4.trans (hst7.below (by first|exact hB4.size|(have:=hB4.size;simp;omega)) (fun q e=>(hown4.lt q e).1));obtain ⟨a7,c7,rfl⟩:=owns_shape hown7)|(at_builtin;refine wpList_append_any _ rfl _ _ 22 rfl wr.heap.size 3 i0 (.int .i64 0) 8 Tryz.underlying22 hi0 hz0 hz1 hz2 rfl v4 n2 (l.map (Value.int .i64)) rfl (hown4.alloc _) (by have:=hB4.size;simp;omega) _ 1 1 [.int .i64 x] rfl rfl (src_one w4 _ _) (by intro u hu;rw[List.mem_singleton.1 hu];rfl) (by unfold maxLen;omega) (by omega) ?_;intro v7 w7 hown7 hst7 hk7;have hB7:Below wr.heap.size wr w7:=(hB4.alloc hB4.size _).trans (hst7.below (by first|exact hB4.size|(have:=hB4.size;simp;omega)) (fun q e=>(hown4.lt q e).1));obtain ⟨a7,c7,rfl⟩:=owns_shape hown7)|(go_at_call 112;(with_reducible refine (HCA.out _ _ _ _ (keep_trans hbr9 hB7) ?_).mono ?_);(focus (exact (IC.of_owns (by rw[List.length_append,List.length_singleton,List.map_append,HLL.out];exact hown7) (by rw[List.length_append,List.length_singleton,HLL.out];omega)).1));rintro _ w9 ⟨rfl,hb9⟩)|fail);refine ⟨?_,?_⟩;focus (exact ⟨_,below_over (by repeat (first|assumption|exact Below.refl _ _|refine keep_drew ?_|refine keep_alloc ?_ _|refine keep_set ?_ (by first|omega|(dsimp only;omega)) _|refine keep_trans ?_ (by assumption)))⟩)))
     all_goals try refine wpTr_end ?_
     all_goals try dsimp only[wpTr,pickOps,nthOp]
     all_goals repeat (first|(refine wpS_skip rfl (fun K hK=>?_);go_big_quiet_op;refine hK _ ?_;clear hK K)|(refine wpS_quiet rfl rfl (fun K hK=>?_);go_big_quiet_op;refine hK _ ?_;clear hK K)|(refine wpS_loud ?_;go_wp2_with (first|(at_builtin;refine wpList_append_any _ rfl _ _ 22 rfl wr.heap.size 3 i0 (.int .i64 0) 8 Tryz.underlying22 hi0 hz0 hz1 hz2 rfl _ 0 [] rfl (owns_drew (own_emp wr wr.heap.size 3 (Nat.le_refl _))) (by first|exact Nat.le_refl _|exact Nat.le_succ _|(simp;done)|(simp;omega)) a2 n2 c2 (l.map (Value.int .i64)) rfl HLM.out (src_below HSRC.out (((Below.refl wr.heap.size wr).alloc (Nat.le_refl _) (.cells #[] 3))).drew) (ints_one _) (by unfold maxLen;omega) (by omega) ?_;intro v4 w4 hown4 hst4 hk4;rw[Nat.zero_add,List.nil_append] at hown4;have hB4:Below wr.heap.size wr w4:=(((Below.refl wr.heap.size wr).alloc (Nat.le_refl _) (.cells #[] 3))).drew.trans (hst4.below (by first|exact Nat.le_refl _|exact Nat.le_succ _|(simp;done)|(simp;omega)) (fun q e=>by injection e with e;all_goals (first|omega|(simp at e;done)|(simp at e;omega)))))|(at_builtin;refine wpList_append_any _ rfl _ _ 22 rfl wr.heap.size 3 i0 (.int .i64 0) 8 Tryz.underlying22 hi0 hz0 hz1 hz2 rfl _ 0 [] rfl (owns_drew ((own_emp wr wr.heap.size 3 (Nat.le_refl _)).alloc _)) (by first|exact Nat.le_refl _|exact Nat.le_succ _|(simp;done)|(simp;omega)) a2 n2 c2 (l.map (Value.int .i64)) rfl HLM.out (src_below HSRC.out ((((Below.refl wr.heap.size wr).alloc (Nat.le_refl _) (.cells #[] 3)).alloc (by simp) (.cells #[.int .i64 x] 3))).drew) (ints_one _) (by unfold maxLen;omega) (by omega) ?_;intro v4 w4 hown4 hst4 hk4;rw[Nat.zero_add,List.nil_append] at hown4;have hB4:Below wr.heap.size wr w4:=((((Below.refl wr.heap.size wr).alloc (Nat.le_refl _) (.cells #[] 3)).alloc (by simp) (.cells #[.int .i64 x] 3))).drew.trans (hst4.below (by first|exact Nat.le_refl _|exact Nat.le_succ _|(simp;done)|(simp;omega)) (fun q e=>by injection e with e;all_goals (first|omega|(simp at e;done)|(simp at e;omega))));have hX4:=src_st (src_drew (src_onq (wr.alloc (.cells #[] 3)) (.int .i64 x) 3 (wr.heap.size+1) (by simp))) hst4 (fun e=>by injection e with e;all_goals (first|omega|(simp at e;done)|(simp at e;omega))))|(at_builtin;refine wpList_append_any _ rfl _ _ 22 rfl wr.heap.size 3 i0 (.int .i64 0) 8 Tryz.underlying22 hi0 hz0 hz1 hz2 rfl _ 0 [] rfl (owns_drew (own_emq (wr.alloc (.cells #[.int .i64 x] 3)) wr.heap.size 3 _ (by simp) (by simp))) (by first|exact Nat.le_refl _|exact Nat.le_succ _|(simp;done)|(simp;omega)) a2 n2 c2 (l.map (Value.int .i64)) rfl HLM.out (src_below HSRC.out ((((Below.refl wr.heap.size wr).alloc (Nat.le_refl _) (.cells #[.int .i64 x] 3)).alloc (by simp) (.cells #[] 3))).drew) (ints_one _) (by unfold maxLen;omega) (by omega) ?_;intro v4 w4 hown4 hst4 hk4;rw[Nat.zero_add,List.nil_append] at hown4;have hB4:Below wr.heap.size wr w4:=((((Below.refl wr.heap.size wr).alloc (Nat.le_refl _) (.cells #[.int .i64 x] 3)).alloc (by simp) (.cells #[] 3))).drew.trans (hst4.below (by first|exact Nat.le_refl _|exact Nat.le_succ _|(simp;done)|(simp;omega)) (fun q e=>by injection e with e;all_goals (first|omega|(simp at e;done)|(simp at e;omega))));have hX4:=src_st (src_drew (src_below (src_one wr (.int .i64 x) 3) ((Below.refl _ _).alloc (Nat.le_refl _) (.cells #[] 3)))) hst4 (fun e=>by injection e with e;all_goals (first|omega|(simp at e;done)|(simp at e;omega))))|(at_builtin;refine wpList_append_any _ rfl _ _ 22 rfl wr.heap.size 3 i0 (.int .i64 0) 8 Tryz.underlying22 hi0 hz0 hz1 hz2 rfl v4 n2 (l.map (Value.int .i64)) rfl hown4 hB4.size _ 1 1 [.int .i64 x] rfl rfl hX4 (by intro u hu;rw[List.mem_singleton.1 hu];rfl) (by unfold maxLen;omega) (by omega) ?_;intro v7 w7 hown7 hst7 hk7;have hB7:Below wr.heap.size wr w7:=hB4.trans (hst7.below (by first|exact hB4.size|(have:=hB4.size;simp;omega)) (fun q e=>(hown4.lt q e).1));obtain ⟨a7,c7,rfl⟩:=owns_shape hown7)|(at_builtin;refine wpList_append_any _ rfl _ _ 22 rfl wr.heap.size 3 i0 (.int .i64 0) 8 Tryz.underlying22 hi0 hz0 hz1 hz2 rfl v4 n2 (l.map (Value.int .i64)) rfl (hown4.alloc _) (by have:=hB4.size;simp;omega) _ 1 1 [.int .i64 x] rfl rfl (src_one w4 _ _) (by intro u hu;rw[List.mem_singleton.1 hu];rfl) (by unfold maxLen;omega) (by omega) ?_;intro v7 w7 hown7 hst7 hk7;have hB7:Below wr.heap.size wr w7:=(hB4.alloc hB4.size _).trans (hst7.below (by first|exact hB4.size|(have:=hB4.size;simp;omega)) (fun q e=>(hown4.lt q e).1));obtain ⟨a7,c7,rfl⟩:=owns_shape hown7)|(go_at_call 112;(with_reducible refine (HCA.out _ _ _ _ (keep_trans hbr9 hB7) ?_).mono ?_);(focus (exact (IC.of_owns (by rw[List.length_append,List.length_singleton,List.map_append,HLL.out];exact hown7) (by rw[List.length_append,List.length_singleton,HLL.out];omega)).1));rintro _ w9 ⟨rfl,hb9⟩)|fail);refine ⟨?_,?_⟩;focus (exact ⟨_,below_over (by repeat (first|assumption|exact Below.refl _ _|refine keep_drew ?_|refine keep_alloc ?_ _|refine keep_set ?_ (by first|omega|(dsimp only;omega)) _|refine keep_trans ?_ (by assumption)))⟩)))
     all_goals refine wpS_end ?_
     all_goals go_wp2_with fail
     all_goals go_roundw
     all_goals first|exact ⟨i+1,by omega,by go_num,HN2.out,keep_trans hbr9 (keep_trans hB7 hb9)⟩|(simp[intOf];omega)
    | some r =>
     rw[hq] at HNX HCA HHX2
     have HN2:=Lib.hid (HHX2.out r rfl)
     clear HNX HHX2 hq
     refine wp_region_tree (fun w'=>∃u,w'=over (wr) u) [] (.fork [0,2,4,5,6,7] 1 8 (.fork [] 3 8 (.leaf [(1,8),(1,9),(1,10),(0,11),(0,12),(0,13),(1,14),(1,15)]) (.leaf [(1,3),(1,9),(1,10),(0,11),(0,12),(0,13),(1,14),(1,15)])) (.leaf [(1,1),(1,3),(1,9),(1,10),(0,11),(0,12),(0,13),(1,14),(1,15)])) (by kernel_rfl) (by kernel_rfl) (by exact ⟨_,below_over (by repeat (first|assumption|exact Below.refl _ _|refine keep_drew ?_|refine keep_alloc ?_ _|refine keep_trans ?_ (by assumption)))⟩) ?_
     all_goals try (refine ⟨?_,?_⟩ <;> dsimp only[List.map,List.cons_append,List.nil_append,pickOps,nthOp])
     all_goals repeat (first|(refine wpS_skip rfl (fun K hK=>?_);go_big_quiet_op;refine hK _ ?_;clear hK K)|(refine wpS_quiet rfl rfl (fun K hK=>?_);go_big_quiet_op;refine hK _ ?_;clear hK K)|(refine wpS_loud ?_;go_wp2_with (first|(at_builtin;refine wpList_append_any _ rfl _ _ 22 rfl wr.heap.size 3 i0 (.int .i64 0) 8 Tryz.underlying22 hi0 hz0 hz1 hz2 rfl _ 0 [] rfl (owns_drew (own_emp wr wr.heap.size 3 (Nat.le_refl _))) (by first|exact Nat.le_refl _|exact Nat.le_succ _|(simp;done)|(simp;omega)) a2 n2 c2 (l.map (Value.int .i64)) rfl HLM.out (src_below HSRC.out (((Below.refl wr.heap.size wr).alloc (Nat.le_refl _) (.cells #[] 3))).drew) (ints_one _) (by unfold maxLen;omega) (by omega) ?_;intro v4 w4 hown4 hst4 hk4;rw[Nat.zero_add,List.nil_append] at hown4;have hB4:Below wr.heap.size wr w4:=(((Below.refl wr.heap.size wr).alloc (Nat.le_refl _) (.cells #[] 3))).drew.trans (hst4.below (by first|exact Nat.le_refl _|exact Nat.le_succ _|(simp;done)|(simp;omega)) (fun q e=>by injection e with e;all_goals (first|omega|(simp at e;done)|(simp at e;omega)))))|(at_builtin;refine wpList_append_any _ rfl _ _ 22 rfl wr.heap.size 3 i0 (.int .i64 0) 8 Tryz.underlying22 hi0 hz0 hz1 hz2 rfl _ 0 [] rfl (owns_drew ((own_emp wr wr.heap.size 3 (Nat.le_refl _)).alloc _)) (by first|exact Nat.le_refl _|exact Nat.le_succ _|(simp;done)|(simp;omega)) a2 n2 c2 (l.map (Value.int .i64)) rfl HLM.out (src_below HSRC.out ((((Below.refl wr.heap.size wr).alloc (Nat.le_refl _) (.cells #[] 3)).alloc (by simp) (.cells #[.int .i64 x] 3))).drew) (ints_one _) (by unfold maxLen;omega) (by omega) ?_;intro v4 w4 hown4 hst4 hk4;rw[Nat.zero_add,List.nil_append] at hown4;have hB4:Below wr.heap.size wr w4:=((((Below.refl wr.heap.size wr).alloc (Nat.le_refl _) (.cells #[] 3)).alloc (by simp) (.cells #[.int .i64 x] 3))).drew.trans (hst4.below (by first|exact Nat.le_refl _|exact Nat.le_succ _|(simp;done)|(simp;omega)) (fun q e=>by injection e with e;all_goals (first|omega|(simp at e;done)|(simp at e;omega))));have hX4:=src_st (src_drew (src_onq (wr.alloc (.cells #[] 3)) (.int .i64 x) 3 (wr.heap.size+1) (by simp))) hst4 (fun e=>by injection e with e;all_goals (first|omega|(simp at e;done)|(simp at e;omega))))|(at_builtin;refine wpList_append_any _ rfl _ _ 22 rfl wr.heap.size 3 i0 (.int .i64 0) 8 Tryz.underlying22 hi0 hz0 hz1 hz2 rfl _ 0 [] rfl (owns_drew (own_emq (wr.alloc (.cells #[.int .i64 x] 3)) wr.heap.size 3 _ (by simp) (by simp))) (by first|exact Nat.le_refl _|exact Nat.le_succ _|(simp;done)|(simp;omega)) a2 n2 c2 (l.map (Value.int .i64)) rfl HLM.out (src_below HSRC.out ((((Below.refl wr.heap.size wr).alloc (Nat.le_refl _) (.cells #[.int .i64 x] 3)).alloc (by simp) (.cells #[] 3))).drew) (ints_one _) (by unfold maxLen;omega) (by omega) ?_;intro v4 w4 hown4 hst4 hk4;rw[Nat.zero_add,List.nil_append] at hown4;have hB4:Below wr.heap.size wr w4:=((((Below.refl wr.heap.size wr).alloc (Nat.le_refl _) (.cells #[.int .i64 x] 3)).alloc (by simp) (.cells #[] 3))).drew.trans (hst4.below (by first|exact Nat.le_refl _|exact Nat.le_succ _|(simp;done)|(simp;omega)) (fun q e=>by injection e with e;all_goals (first|omega|(simp at e;done)|(simp at e;omega))));have hX4:=src_st (src_drew (src_below (src_one wr (.int .i64 x) 3) ((Below.refl _ _).alloc (Nat.le_refl _) (.cells #[] 3)))) hst4 (fun e=>by injection e with e;all_goals (first|omega|(simp at e;done)|(simp at e;omega))))|(at_builtin;refine wpList_append_any _ rfl _ _ 22 rfl wr.heap.size 3 i0 (.int .i64 0) 8 Tryz.underlying22 hi0 hz0 hz1 hz2 rfl v4 n2 (l.map (Value.int .i64)) rfl hown4 hB4.size _ 1 1 [.int .i64 x] rfl rfl hX4 (by intro u hu;rw[List.mem_singleton.1 hu];rfl) (by unfold maxLen;omega) (by omega) ?_;intro v7 w7 hown7 hst7 hk7;have hB7:Below wr.heap.size wr w7:=hB4.trans (hst7.below (by first|exact hB4.size|(have:=hB4.size;simp;omega)) (fun q e=>(hown4.lt q e).1));obtain ⟨a7,c7,rfl⟩:=owns_shape hown7)|(at_builtin;refine wpList_append_any _ rfl _ _ 22 rfl wr.heap.size 3 i0 (.int .i64 0) 8 Tryz.underlying22 hi0 hz0 hz1 hz2 rfl v4 n2 (l.map (Value.int .i64)) rfl (hown4.alloc _) (by have:=hB4.size;simp;omega) _ 1 1 [.int .i64 x] rfl rfl (src_one w4 _ _) (by intro u hu;rw[List.mem_singleton.1 hu];rfl) (by unfold maxLen;omega) (by omega) ?_;intro v7 w7 hown7 hst7 hk7;have hB7:Below wr.heap.size wr w7:=(hB4.alloc hB4.size _).trans (hst7.below (by first|exact hB4.size|(have:=hB4.size;simp;omega)) (fun q e=>(hown4.lt q e).1));obtain ⟨a7,c7,rfl⟩:=owns_shape hown7)|(go_at_call 112;(with_reducible refine (HCA.out _ _ _ _ (keep_trans hbr9 hB7) ?_).mono ?_);(focus (exact (IC.of_owns (by rw[List.length_append,List.length_singleton,List.map_append,HLL.out];exact hown7) (by rw[List.length_append,List.length_singleton,HLL.out];omega)).1));rintro _ w9 ⟨a9,c9,rfl,hi9,hb9⟩)|fail);refine ⟨?_,?_⟩;focus (exact ⟨_,below_over (by repeat (first|assumption|exact Below.refl _ _|refine keep_drew ?_|refine keep_alloc ?_ _|refine keep_set ?_ (by first|omega|(dsimp only;omega)) _|refine keep_trans ?_ (by assumption)))⟩)))
     all_goals try refine wpTr_end ?_
     all_goals try (refine ⟨?_,?_⟩ <;> dsimp only[List.map,List.cons_append,List.nil_append,pickOps,nthOp])
     all_goals repeat (first|(refine wpS_skip rfl (fun K hK=>?_);go_big_quiet_op;refine hK _ ?_;clear hK K)|(refine wpS_quiet rfl rfl (fun K hK=>?_);go_big_quiet_op;refine hK _ ?_;clear hK K)|(refine wpS_loud ?_;go_wp2_with (first|(at_builtin;refine wpList_append_any _ rfl _ _ 22 rfl wr.heap.size 3 i0 (.int .i64 0) 8 Tryz.underlying22 hi0 hz0 hz1 hz2 rfl _ 0 [] rfl (owns_drew (own_emp wr wr.heap.size 3 (Nat.le_refl _))) (by first|exact Nat.le_refl _|exact Nat.le_succ _|(simp;done)|(simp;omega)) a2 n2 c2 (l.map (Value.int .i64)) rfl HLM.out (src_below HSRC.out (((Below.refl wr.heap.size wr).alloc (Nat.le_refl _) (.cells #[] 3))).drew) (ints_one _) (by unfold maxLen;omega) (by omega) ?_;intro v4 w4 hown4 hst4 hk4;rw[Nat.zero_add,List.nil_append] at hown4;have hB4:Below wr.heap.size wr w4:=(((Below.refl wr.heap.size wr).alloc (Nat.le_refl _) (.cells #[] 3))).drew.trans (hst4.below (by first|exact Nat.le_refl _|exact Nat.le_succ _|(simp;done)|(simp;omega)) (fun q e=>by injection e with e;all_goals (first|omega|(simp at e;done)|(simp at e;omega)))))|(at_builtin;refine wpList_append_any _ rfl _ _ 22 rfl wr.heap.size 3 i0 (.int .i64 0) 8 Tryz.underlying22 hi0 hz0 hz1 hz2 rfl _ 0 [] rfl (owns_drew ((own_emp wr wr.heap.size 3 (Nat.le_refl _)).alloc _)) (by first|exact Nat.le_refl _|exact Nat.le_succ _|(simp;done)|(simp;omega)) a2 n2 c2 (l.map (Value.int .i64)) rfl HLM.out (src_below HSRC.out ((((Below.refl wr.heap.size wr).alloc (Nat.le_refl _) (.cells #[] 3)).alloc (by simp) (.cells #[.int .i64 x] 3))).drew) (ints_one _) (by unfold maxLen;omega) (by omega) ?_;intro v4 w4 hown4 hst4 hk4;rw[Nat.zero_add,List.nil_append] at hown4;have hB4:Below wr.heap.size wr w4:=((((Below.refl wr.heap.size wr).alloc (Nat.le_refl _) (.cells #[] 3)).alloc (by simp) (.cells #[.int .i64 x] 3))).drew.trans (hst4.below (by first|exact Nat.le_refl _|exact Nat.le_succ _|(simp;done)|(simp;omega)) (fun q e=>by injection e with e;all_goals (first|omega|(simp at e;done)|(simp at e;omega))));have hX4:=src_st (src_drew (src_onq (wr.alloc (.cells #[] 3)) (.int .i64 x) 3 (wr.heap.size+1) (by simp))) hst4 (fun e=>by injection e with e;all_goals (first|omega|(simp at e;done)|(simp at e;omega))))|(at_builtin;refine wpList_append_any _ rfl _ _ 22 rfl wr.heap.size 3 i0 (.int .i64 0) 8 Tryz.underlying22 hi0 hz0 hz1 hz2 rfl _ 0 [] rfl (owns_drew (own_emq (wr.alloc (.cells #[.int .i64 x] 3)) wr.heap.size 3 _ (by simp) (by simp))) (by first|exact Nat.le_refl _|exact Nat.le_succ _|(simp;done)|(simp;omega)) a2 n2 c2 (l.map (Value.int .i64)) rfl HLM.out (src_below HSRC.out ((((Below.refl wr.heap.size wr).alloc (Nat.le_refl _) (.cells #[.int .i64 x] 3)).alloc (by simp) (.cells #[] 3))).drew) (ints_one _) (by unfold maxLen;omega) (by omega) ?_;intro v4 w4 hown4 hst4 hk4;rw[Nat.zero_add,List.nil_append] at hown4;have hB4:Below wr.heap.size wr w4:=((((Below.refl wr.heap.size wr).alloc (Nat.le_refl _) (.cells #[.int .i64 x] 3)).alloc (by simp) (.cells #[] 3))).drew.trans (hst4.below (by first|exact Nat.le_refl _|exact Nat.le_succ _|(simp;done)|(simp;omega)) (fun q e=>by injection e with e;all_goals (first|omega|(simp at e;done)|(simp at e;omega))));have hX4:=src_st (src_drew (src_below (src_one wr (.int .i64 x) 3) ((Below.refl _ _).alloc (Nat.le_refl _) (.cells #[] 3)))) hst4 (fun e=>by injection e with e;all_goals (first|omega|(simp at e;done)|(simp at e;omega))))|(at_builtin;refine wpList_append_any _ rfl _ _ 22 rfl wr.heap.size 3 i0 (.int .i64 0) 8 Tryz.underlying22 hi0 hz0 hz1 hz2 rfl v4 n2 (l.map (Value.int .i64)) rfl hown4 hB4.size _ 1 1 [.int .i64 x] rfl rfl hX4 (by intro u hu;rw[List.mem_singleton.1 hu];rfl) (by unfold maxLen;omega) (by omega) ?_;intro v7 w7 hown7 hst7 hk7;have hB7:Below wr.heap.size wr w7:=hB4.trans (hst7.below (by first|exact hB4.size|(have:=hB4.size;simp;omega)) (fun q e=>(hown4.lt q e).1));obtain ⟨a7,c7,rfl⟩:=owns_shape hown7)|(at_builtin;refine wpList_append_any _ rfl _ _ 22 rfl wr.heap.size 3 i0 (.int .i64 0) 8 Tryz.underlying22 hi0 hz0 hz1 hz2 rfl v4 n2 (l.map (Value.int .i64)) rfl (hown4.alloc _) (by have:=hB4.size;simp;omega) _ 1 1 [.int .i64 x] rfl rfl (src_one w4 _ _) (by intro u hu;rw[List.mem_singleton.1 hu];rfl) (by unfold maxLen;omega) (by omega) ?_;intro v7 w7 hown7 hst7 hk7;have hB7:Below wr.heap.size wr w7:=(hB4.alloc hB4.size _).trans (hst7.below (by first|exact hB4.size|(have:=hB4.size;simp;omega)) (fun q e=>(hown4.lt q e).1));obtain ⟨a7,c7,rfl⟩:=owns_shape hown7)|(go_at_call 112;(with_reducible refine (HCA.out _ _ _ _ (keep_trans hbr9 hB7) ?_).mono ?_);(focus (exact (IC.of_owns (by rw[List.length_append,List.length_singleton,List.map_append,HLL.out];exact hown7) (by rw[List.length_append,List.length_singleton,HLL.out];omega)).1));rintro _ w9 ⟨a9,c9,rfl,hi9,hb9⟩)|fail);refine ⟨?_,?_⟩;focus (exact ⟨_,below_over (by repeat (first|assumption|exact Below.refl _ _|refine keep_drew ?_|refine keep_alloc ?_ _|refine keep_set ?_ (by first|omega|(dsimp only;omega)) _|refine keep_trans ?_ (by assumption)))⟩)))
     all_goals try refine wpTr_end ?_
     all_goals try dsimp only[wpTr,pickOps,nthOp]
     all_goals repeat (first|(refine wpS_skip rfl (fun K hK=>?_);go_big_quiet_op;refine hK _ ?_;clear hK K)|(refine wpS_quiet rfl rfl (fun K hK=>?_);go_big_quiet_op;refine hK _ ?_;clear hK K)|(refine wpS_loud ?_;go_wp2_with (first|(at_builtin;refine wpList_append_any _ rfl _ _ 22 rfl wr.heap.size 3 i0 (.int .i64 0) 8 Tryz.underlying22 hi0 hz0 hz1 hz2 rfl _ 0 [] rfl (owns_drew (own_emp wr wr.heap.size 3 (Nat.le_refl _))) (by first|exact Nat.le_refl _|exact Nat.le_succ _|(simp;done)|(simp;omega)) a2 n2 c2 (l.map (Value.int .i64)) rfl HLM.out (src_below HSRC.out (((Below.refl wr.heap.size wr).alloc (Nat.le_refl _) (.cells #[] 3))).drew) (ints_one _) (by unfold maxLen;omega) (by omega) ?_;intro v4 w4 hown4 hst4 hk4;rw[Nat.zero_add,List.nil_append] at hown4;have hB4:Below wr.heap.size wr w4:=(((Below.refl wr.heap.size wr).alloc (Nat.le_refl _) (.cells #[] 3))).drew.trans (hst4.below (by first|exact Nat.le_refl _|exact Nat.le_succ _|(simp;done)|(simp;omega)) (fun q e=>by injection e with e;all_goals (first|omega|(simp at e;done)|(simp at e;omega)))))|(at_builtin;refine wpList_append_any _ rfl _ _ 22 rfl wr.heap.size 3 i0 (.int .i64 0) 8 Tryz.underlying22 hi0 hz0 hz1 hz2 rfl _ 0 [] rfl (owns_drew ((own_emp wr wr.heap.size 3 (Nat.le_refl _)).alloc _)) (by first|exact Nat.le_refl _|exact Nat.le_succ _|(simp;done)|(simp;omega)) a2 n2 c2 (l.map (Value.int .i64)) rfl HLM.out (src_below HSRC.out ((((Below.refl wr.heap.size wr).alloc (Nat.le_refl _) (.cells #[] 3)).alloc (by simp) (.cells #[.int .i64 x] 3))).drew) (ints_one _) (by unfold maxLen;omega) (by omega) ?_;intro v4 w4 hown4 hst4 hk4;rw[Nat.zero_add,List.nil_append] at hown4;have hB4:Below wr.heap.size wr w4:=((((Below.refl wr.heap.size wr).alloc (Nat.le_refl _) (.cells #[] 3)).alloc (by simp) (.cells #[.int .i64 x] 3))).drew.trans (hst4.below (by first|exact Nat.le_refl _|exact Nat.le_succ _|(simp;done)|(simp;omega)) (fun q e=>by injection e with e;all_goals (first|omega|(simp at e;done)|(simp at e;omega))));have hX4:=src_st (src_drew (src_onq (wr.alloc (.cells #[] 3)) (.int .i64 x) 3 (wr.heap.size+1) (by simp))) hst4 (fun e=>by injection e with e;all_goals (first|omega|(simp at e;done)|(simp at e;omega))))|(at_builtin;refine wpList_append_any _ rfl _ _ 22 rfl wr.heap.size 3 i0 (.int .i64 0) 8 Tryz.underlying22 hi0 hz0 hz1 hz2 rfl _ 0 [] rfl (owns_drew (own_emq (wr.alloc (.cells #[.int .i64 x] 3)) wr.heap.size 3 _ (by simp) (by simp))) (by first|exact Nat.le_refl _|exact Nat.le_succ _|(simp;done)|(simp;omega)) a2 n2 c2 (l.map (Value.int .i64)) rfl HLM.out (src_below HSRC.out ((((Below.refl wr.heap.size wr).alloc (Nat.le_refl _) (.cells #[.int .i64 x] 3)).alloc (by simp) (.cells #[] 3))).drew) (ints_one _) (by unfold maxLen;omega) (by omega) ?_;intro v4 w4 hown4 hst4 hk4;rw[Nat.zero_add,List.nil_append] at hown4;have hB4:Below wr.heap.size wr w4:=((((Below.refl wr.heap.size wr).alloc (Nat.le_refl _) (.cells #[.int .i64 x] 3)).alloc (by simp) (.cells #[] 3))).drew.trans (hst4.below (by first|exact Nat.le_refl _|exact Nat.le_succ _|(simp;done)|(simp;omega)) (fun q e=>by injection e with e;all_goals (first|omega|(simp at e;done)|(simp at e;omega))));have hX4:=src_st (src_drew (src_below (src_one wr (.int .i64 x) 3) ((Below.refl _ _).alloc (Nat.le_refl _) (.cells #[] 3)))) hst4 (fun e=>by injection e with e;all_goals (first|omega|(simp at e;done)|(simp at e;omega))))|(at_builtin;refine wpList_append_any _ rfl _ _ 22 rfl wr.heap.size 3 i0 (.int .i64 0) 8 Tryz.underlying22 hi0 hz0 hz1 hz2 rfl v4 n2 (l.map (Value.int .i64)) rfl hown4 hB4.size _ 1 1 [.int .i64 x] rfl rfl hX4 (by intro u hu;rw[List.mem_singleton.1 hu];rfl) (by unfold maxLen;omega) (by omega) ?_;intro v7 w7 hown7 hst7 hk7;have hB7:Below wr.heap.size wr w7:=hB4.trans (hst7.below (by first|exact hB4.size|(have:=hB4.size;simp;omega)) (fun q e=>(hown4.lt q e).1));obtain ⟨a7,c7,rfl⟩:=owns_shape hown7)|(at_builtin;refine wpList_append_any _ rfl _ _ 22 rfl wr.heap.size 3 i0 (.int .i64 0) 8 Tryz.underlying22 hi0 hz0 hz1 hz2 rfl v4 n2 (l.map (Value.int .i64)) rfl (hown4.alloc _) (by have:=hB4.size;simp;omega) _ 1 1 [.int .i64 x] rfl rfl (src_one w4 _ _) (by intro u hu;rw[List.mem_singleton.1 hu];rfl) (by unfold maxLen;omega) (by omega) ?_;intro v7 w7 hown7 hst7 hk7;have hB7:Below wr.heap.size wr w7:=(hB4.alloc hB4.size _).trans (hst7.below (by first|exact hB4.size|(have:=hB4.size;simp;omega)) (fun q e=>(hown4.lt q e).1));obtain ⟨a7,c7,rfl⟩:=owns_shape hown7)|(go_at_call 112;(with_reducible refine (HCA.out _ _ _ _ (keep_trans hbr9 hB7) ?_).mono ?_);(focus (exact (IC.of_owns (by rw[List.length_append,List.length_singleton,List.map_append,HLL.out];exact hown7) (by rw[List.length_append,List.length_singleton,HLL.out];omega)).1));rintro _ w9 ⟨a9,c9,rfl,hi9,hb9⟩)|fail);refine ⟨?_,?_⟩;focus (exact ⟨_,below_over (by repeat (first|assumption|exact Below.refl _ _|refine keep_drew ?_|refine keep_alloc ?_ _|refine keep_set ?_ (by first|omega|(dsimp only;omega)) _|refine keep_trans ?_ (by assumption)))⟩)))
     all_goals refine wpS_end ?_
     all_goals go_wp2_with fail
     all_goals go_ret2
     all_goals rw[HN2.out]
     all_goals exact ⟨a9,c9,rfl,hi9,keep_trans hbr9 (keep_trans hB7 hb9)⟩
  ·have hii:¬(i:Int)<(n':Int):=by omega
   have HE:Hid (R=none):=HNO.out (fun j hj=>hbf.out j (by omega))
   go_wp2_with fail
   go_ret2
   rw[HE.out]
   exact ⟨rfl,hbr.out⟩
theorem rrepr_c (sets:List (List Int)):∀f,RprS sets f
 | 0=>rrep_zero sets
 | f+1=>rrep_succ sets f (rrepr_c sets f)
theorem rRepresent_c (a:Option Addr) (n c:Nat) (sets:List (List Int)) (w:World) (h:RC w a n sets) (hs:sets.length≤100) :
  Calls Tryz.prog 37 #[.slice a n c] w (RprE w (repR sets sets.length [])):=by
 have HC:=Lib.hid (rrepr_c sets sets.length a n c none 0 0 [] w h ⟨⟨rfl,by omega⟩,fun k hk=>absurd hk (by omega)⟩ (by simp) hs)
 generalize repR sets sets.length []=R at HC ⊢
 clear h
 cases R with
 | some r =>
  go_enter Tryz.func37,Tryz.ntmps37
  go_wp2_with (first|(go_at_call 112;(with_reducible refine HC.out.mono ?_);rintro _ w9 ⟨a9,c9,rfl,hi9,hb9⟩)|fail)
  go_ret2
  exact ⟨a9,c9,rfl,hi9,hb9⟩
 | none =>
  go_enter Tryz.func37,Tryz.ntmps37
  go_wp2_with (first|(go_at_call 112;(with_reducible refine HC.out.mono ?_);rintro _ w9 ⟨rfl,hb9⟩)|fail)
  go_ret2
  exact ⟨rfl,hb9⟩
end
end Go.Proofs.YtmfpdakaeagdpaaGreat
