/- Texts H18 to M1 of this proof, in one file. -/
import Derived.Test.YtaadpihbjhachaaGreatW07
import Derived.Test.YtaadpihbjhachaaGreatW12
import Derived.Test.YtaadpihbjhachaaGreatW16
import Derived.Test.YtaadpihbjhachaaGreatW17
import Derived.Test.YtaadpihbjhachaaGreatW18
import Derived.Deep.CutBlock
import Derived.Deep.CutRange
namespace Go.Proofs.YtaadpihbjhachaaGreat
set_option maxRecDepth 100000
set_option maxHeartbeats 16000000
section
open Go Go.RowKit
attribute [local go_sem] over_cell
attribute [local go_sem] Oper.semAt_some
end
section
open Go Go.RowKit
attribute [local go_sem] over_cell
attribute [local go_sem] Oper.semAt_some
end
section
open Go Go.RowKit
attribute [local go_sem] over_cell
attribute [local go_sem] Oper.semAt_some
def withL (ls:List (List Int)) (l:List Int):List (List Int):=if hasLineB ls l=true then ls else ls++[l]
theorem with_c (L:Nat) (v:Value) (pre:List (Value × List Int)) (al:Option Addr) (nl cl:Nat) (xs:List Int) (w:World) (hrow:RowsI w (fun _=>False) L v pre) (hl:IC w al nl xs) (h0:0<nl) (hn:nl≤256) (hL:L≤w.heap.size) (hp:pre.length≤1000) (hpl:∀x,x∈pre→x.2.length≤256)
  (hasc:∀i:Nat,1≤i→i<nl→¬xs[i]?.getD 0<xs[i - 1]?.getD 0) :
  Calls Tryz.prog 190 #[v,.slice al nl cl] w fun e w'=>∃v' pre',e = .returned v'∧RowsI w' (fun _=>False) L v' pre'∧pre'.map Prod.snd=withL (pre.map Prod.snd) xs∧Below L w w':=by
 obtain ⟨i0,hi,hz0,hz1,hz2⟩:=info_parts infoInt
 obtain ⟨i2,hi2,hy0,hy1,hy2⟩:=info_parts infoRow
 have HR:=Lib.hid hrow
 have hlen:=hl.len
 have HA:=Lib.hid hasc
 obtain ⟨av,cv,rfl⟩:=owns_shape hrow.1
 obtain ⟨bl,ol,rfl,hbl,_⟩:=hl.2 0 h0
 have HC:=Lib.hid (hl.cells (p:=⟨bl,ol,none⟩))
 clear hrow hasc
 go_enter Tryz.func190,Tryz.ntmps190
 have hownE:(w.alloc (.cells #[] 3)).ownsRow w.heap.size 3 1 (.slice (some ⟨w.heap.size,0,none⟩) 0 0) 0 []:=⟨rfl,.inr ⟨w.heap.size,0,#[],rfl,Nat.le_refl _,World.alloc_heap_new _ _,Nat.le_refl _,by unfold maxLen;omega,rfl,rfl⟩⟩
 have hBE:Below w.heap.size w (w.alloc (.cells #[] 3)):=(Below.refl _ _).alloc (Nat.le_refl _) _
 go_wp2_with (first|(at_builtin;refine wpList_append_own _ rfl _ _ 25 rfl w.heap.size 3 i0 (.int .i64 0) 1 8 Tryz.underlying25 hi hz0 hz1 hz2 rfl (by decide) _ _ _ rfl hownE ⟨bl,ol,none⟩ nl cl (xs.map (Value.int .i64)) rfl (by rw[List.length_map];omega) (fun j u hj=>by
  have h1:=HC.out j u hj
  rw[← h1]
  have hadd:((⟨bl,ol,none⟩:Addr).add j)=⟨bl,ol+j,none⟩:=by unfold Addr.add;split <;> simp_all
  rw[hadd]
  exact (bcell hBE).1 _ _ hbl) (by simp[Value.oneCell']) (by unfold maxLen;omega) (by omega) (by simp) ?_))
 intro v5 w5 hown5 hgrow _
 obtain ⟨a5,c5,rfl⟩:=owns_slice4 hown5
 have hB5:Below w.heap.size w w5:=hBE.grown hgrow (by simp) (fun k e=>by simp only[Value.ownBlock,Option.some.injEq] at e;omega)
 have hown6:w5.ownsRow w.heap.size 3 1 (.slice a5 xs.length c5) xs.length (xs.map (Value.int .i64)):=by rw[hlen];exact hown5
 have hic5:=(IC.of_owns hown6 (by omega)).1
 rw[hlen] at hic5
 have HIC:=Lib.hid hic5
 have HO5:=Lib.hid hown5
 clear hown5 hown6 hgrow hownE hBE hic5
 go_wp2_with fail
 go_loopw [6,7] (fun i _ wr=>∃m:Nat,m+1≤nl∧i = .int .i64 ((m:Int)+1)∧Below w5.heap.size w5 wr) (fun i _ _=>nl - (intOf i).toNat)
 case atStart=>exact ⟨0,by omega,rfl,Below.refl _ _⟩
 case round =>
  obtain ⟨m,hm,rfl,hbr⟩:=hrel
  have hBr:=hB5.trans (hbr.mono hB5.size)
  by_cases hlt:m+1<nl
  ·have hlti:(m:Int)+1<(nl:Int):=by omega
   obtain ⟨b5,o5,rfl,hb5,hc0⟩:=(HIC.out.mono hbr).2 m (by omega)
   obtain ⟨b6,o6,e6,hb6,hc1⟩:=(HIC.out.mono hbr).2 (m+1) hlt
   cases e6
   have hno:=HA.out (m+1) (by omega) hlt
   rw[show m+1 - 1=m from by omega] at hno
   generalize xs[m]?.getD 0=y0 at hc0 hno
   generalize xs[m+1]?.getD 0=y1 at hc1 hno
   have hdn:decide (y1<y0)=false:=decide_eq_false (by omega)
   have hpos:(0:Int)<(m:Int)+1:=by omega
   have hmi:(m:Int)<(nl:Int):=by omega
   go_wp2_with fail
   go_loop [7] (fun i=>i = .int .i64 ((m:Int)+1)) (fun _=>0)
   case atStart=>rfl
   case round =>
    subst hrel
    go_wp2_with fail
    refine wp_region_S (fun w'=>∃u,w'=over (wr) u) [] [(0,0),(0,1),(0,2),(0,3),(0,4),(0,5),(0,6),(0,7),(0,8),(0,9),(0,10),(0,11),(0,12),(0,13)] (by kernel_rfl) (by kernel_rfl) (by exact ⟨_,below_over (by repeat (first|assumption|exact Below.refl _ _|refine keep_drew ?_|refine keep_alloc ?_ _|refine keep_trans ?_ (by assumption)))⟩) ?_
    dsimp only[pickOps,nthOp]
    repeat (first|(refine wpS_skip rfl (fun K hK=>?_);go_big_quiet_op;refine hK _ ?_;clear hK K)|(refine wpS_quiet rfl rfl (fun K hK=>?_);go_big_quiet_op;refine hK _ ?_;clear hK K))
    refine wpS_end ?_
    go_wp2_with fail
    go_roundw
    case rel=>exact ⟨m+1,hlt,by go_num,hbr.drew⟩
    case measure=>simp[intOf];omega
  ·have e:m+1=nl:=by omega
   have hnl:¬(m:Int)+1<(nl:Int):=by omega
   obtain ⟨ar,cr,e2,hrc,hcr⟩:=(HR.out.keep ((Below.stays hBr _).toL 0) (M':=fun _=>False) (fun _ e=>e.elim)).rc (by omega) (fun x hx=>by have:=hpl x hx;omega)
   cases e2
   have HHL:=Lib.hid (hasLine_c av a5 pre.length nl cv c5 _ _ wr hrc (HIC.out.mono hbr))
   clear hrc
   go_wp2_with fail
   refine HHL.out.mono ?_
   rintro _ w7 ⟨rfl,hb7⟩
   have hB7:=hBr.trans (hb7.mono hBr.size)
   have HR7:=Lib.hid (HR.out.keep ((Below.stays hB7 _).toL 0) (M':=fun _=>False) (fun _ e=>e.elim))
   cases hh:hasLineB (pre.map Prod.snd) xs with
   | true =>
    have HH:=Lib.hid hh
    clear hh
    go_wp2_with fail
    go_ret
    exact ⟨_,pre,rfl,HR7.out,by unfold withL;rw[if_pos HH.out],hB7.mono hL⟩
   | false =>
    have HH:=Lib.hid hh
    clear hh
    have hra:=HR7.out.1
    have hz7:=hB7.size
    have HO7:=Lib.hid (owns_keep HO5.out (fun k _ hl=>(hbr.trans (hb7.mono hbr.size)).block k hl))
    go_wp2_with (first|(at_builtin;refine wpList_append_own2 _ rfl _ _ 22 rfl 25 i2 (.slice none 0 0) 1 24 Tryz.underlying22 hi2 hy0 hy1 hy2 rfl (by decide) _ _ _ rfl (owns_base (hra.alloc _) (Nat.zero_le _)) ⟨w7.heap.size,0,none⟩ 1 1 [.slice a5 nl c5] rfl rfl (cell_one_new _ _ _) (by simp[Value.oneCell']) (by unfold maxLen;omega) (by omega) ?_))
    intro v' w8 hown' hgrow hnew
    have hs8:=grow_stays hgrow
    have hnew2:∀k,v'.ownBlock=some k→(Value.slice av pre.length cv).ownBlock=some k∨w7.heap.size≤k:=fun k e=>(hnew k e).imp id (fun h=>by first|omega|(simp at h;omega))
    have hrow8:=HR7.out.append (x:=((Value.slice a5 nl c5),xs)) (v':=v') (fun k e=>e.elim) (by rw[hlen];exact owns_base HO7.out hL) (fun k e=>⟨fun h=>h,fun h2=>by have:=(HR.out.1.lt k h2).2;have:=owns_ge HO7.out e;omega⟩) hs8 (owns_up hown' (fun k e=>(hnew2 k e).elim (fun h=>owns_ge HR7.out.1 h) (fun h=>by omega))) hnew2
    have HR8:=Lib.hid hrow8
    have hB8:Below L w w8:=(hB7.mono hL).trans (hs8.below (B:=L) (by omega) (fun k e=>owns_ge HR7.out.1 e))
    clear hown' hgrow hnew hnew2 hrow8
    go_wp2_with fail
    go_ret
    exact ⟨v',_,rfl,HR8.out,by unfold withL;rw[if_neg (by rw[HH.out];decide),List.map_append];rfl,hB8⟩
end
end Go.Proofs.YtaadpihbjhachaaGreat
