/- Texts M1 to P2 of this proof, in one file. -/
import Derived.Test.YtaadpihbjhachaaGreatW01
import Derived.Test.YtaadpihbjhachaaGreatW08
import Derived.Test.YtaadpihbjhachaaGreatW09
import Derived.Test.YtaadpihbjhachaaGreatW10
import Derived.Test.YtaadpihbjhachaaGreatW11
import Derived.Test.YtaadpihbjhachaaGreatW12
import Derived.Test.YtaadpihbjhachaaGreatW13
import Derived.Test.YtaadpihbjhachaaGreatW16
import Derived.Deep.CutBlock
import Derived.Deep.CutRange
import Derived.ProofKit
import Derived.SizedLaws
import Derived.Deep.Matrix
import Derived.Lib.SmallJoins
namespace Go.Proofs.YtaadpihbjhachaaGreat
set_option maxRecDepth 100000
set_option maxHeartbeats 16000000
section
open Go Go.RowKit
attribute [local go_sem] over_cell
attribute [local go_sem] Oper.semAt_some
def withL (ls:List (List Int)) (l:List Int):List (List Int):=if hasLineB ls l=true then ls else ls++[l]
theorem with_c (L:Nat) (v:Value) (pre:List (Value × List Int)) (al:Option Addr) (nl cl:Nat) (xs:List Int) (w:World) (hrow:RowsI w (fun _=>False) L v pre) (hl:IC w al nl xs) (h0:0<nl) (hn:nl≤256) (hL:L≤w.heap.size) (hp:pre.length≤1000) (hpl:∀x,x∈pre→x.2.length≤256)
  (hasc:∀i:Nat,1≤i→i<nl→¬xs[i]?.getD 0<xs[i - 1]?.getD 0) :
  Calls Tryz.prog 190 #[v,.slice al nl cl] w fun e w'=>∃v' pre',e = .returned v'∧RowsI w' (fun _=>False) L v' pre'∧pre'.map Prod.snd=withL (pre.map Prod.snd) xs∧Below L w w':=by
 obtain ⟨i0,hi,hz0,hz1,hz2⟩:=info_parts infoInt
 obtain ⟨i2,hi2,hy0,hy1,hy2⟩:=info_parts infoRow
 have HR:=Lib.hid hrow
 have hlen:=hl.len
 have HA:=Lib.hid hasc
 obtain ⟨av,cv,rfl⟩:=owns_shape hrow.1
 obtain ⟨bl,ol,rfl,hbl,_⟩:=hl.2 0 h0
 have HC:=Lib.hid (hl.cells (p:=⟨bl,ol,none⟩))
 clear hrow hasc
 go_enter Tryz.func190,Tryz.ntmps190
 have hownE:(w.alloc (.cells #[] 3)).ownsRow w.heap.size 3 1 (.slice (some ⟨w.heap.size,0,none⟩) 0 0) 0 []:=⟨rfl,.inr ⟨w.heap.size,0,#[],rfl,Nat.le_refl _,World.alloc_heap_new _ _,Nat.le_refl _,by unfold maxLen;omega,rfl,rfl⟩⟩
 have hBE:Below w.heap.size w (w.alloc (.cells #[] 3)):=(Below.refl _ _).alloc (Nat.le_refl _) _
 go_wp2_with (first|(at_builtin;refine wpList_append_own _ rfl _ _ 25 rfl w.heap.size 3 i0 (.int .i64 0) 1 8 Tryz.underlying25 hi hz0 hz1 hz2 rfl (by decide) _ _ _ rfl hownE ⟨bl,ol,none⟩ nl cl (xs.map (Value.int .i64)) rfl (by rw[List.length_map];omega) (fun j u hj=>by
  have h1:=HC.out j u hj
  rw[← h1]
  have hadd:((⟨bl,ol,none⟩:Addr).add j)=⟨bl,ol+j,none⟩:=by unfold Addr.add;split <;> simp_all
  rw[hadd]
  exact (bcell hBE).1 _ _ hbl) (by simp[Value.oneCell']) (by unfold maxLen;omega) (by omega) (by simp) ?_))
 intro v5 w5 hown5 hgrow _
 obtain ⟨a5,c5,rfl⟩:=owns_slice4 hown5
 have hB5:Below w.heap.size w w5:=hBE.grown hgrow (by simp) (fun k e=>by simp only[Value.ownBlock,Option.some.injEq] at e;omega)
 have hown6:w5.ownsRow w.heap.size 3 1 (.slice a5 xs.length c5) xs.length (xs.map (Value.int .i64)):=by rw[hlen];exact hown5
 have hic5:=(IC.of_owns hown6 (by omega)).1
 rw[hlen] at hic5
 have HIC:=Lib.hid hic5
 have HO5:=Lib.hid hown5
 clear hown5 hown6 hgrow hownE hBE hic5
 go_wp2_with fail
 go_loopw [6,7] (fun i _ wr=>∃m:Nat,m+1≤nl∧i = .int .i64 ((m:Int)+1)∧Below w5.heap.size w5 wr) (fun i _ _=>nl - (intOf i).toNat)
 case atStart=>exact ⟨0,by omega,rfl,Below.refl _ _⟩
 case round =>
  obtain ⟨m,hm,rfl,hbr⟩:=hrel
  have hBr:=hB5.trans (hbr.mono hB5.size)
  by_cases hlt:m+1<nl
  ·have hlti:(m:Int)+1<(nl:Int):=by omega
   obtain ⟨b5,o5,rfl,hb5,hc0⟩:=(HIC.out.mono hbr).2 m (by omega)
   obtain ⟨b6,o6,e6,hb6,hc1⟩:=(HIC.out.mono hbr).2 (m+1) hlt
   cases e6
   have hno:=HA.out (m+1) (by omega) hlt
   rw[show m+1 - 1=m from by omega] at hno
   generalize xs[m]?.getD 0=y0 at hc0 hno
   generalize xs[m+1]?.getD 0=y1 at hc1 hno
   have hdn:decide (y1<y0)=false:=decide_eq_false (by omega)
   have hpos:(0:Int)<(m:Int)+1:=by omega
   have hmi:(m:Int)<(nl:Int):=by omega
   go_wp2_with fail
   go_loop [7] (fun i=>i = .int .i64 ((m:Int)+1)) (fun _=>0)
   case atStart=>rfl
   case round =>
    subst hrel
    go_wp2_with fail
    refine wp_region_S (fun w'=>∃u,w'=over (wr) u) [] [(0,0),(0,1),(0,2),(0,3),(0,4),(0,5),(0,6),(0,7),(0,8),(0,9),(0,10),(0,11),(0,12),(0,13)] (by kernel_rfl) (by kernel_rfl) (by exact ⟨_,below_over (by repeat (first|assumption|exact Below.refl _ _|refine keep_drew ?_|refine keep_alloc ?_ _|refine keep_trans ?_ (by assumption)))⟩) ?_
    dsimp only[pickOps,nthOp]
    repeat (first|(refine wpS_skip rfl (fun K hK=>?_);go_big_quiet_op;refine hK _ ?_;clear hK K)|(refine wpS_quiet rfl rfl (fun K hK=>?_);go_big_quiet_op;refine hK _ ?_;clear hK K))
    refine wpS_end ?_
    go_wp2_with fail
    go_roundw
    case rel=>exact ⟨m+1,hlt,by go_num,hbr.drew⟩
    case measure=>simp[intOf];omega
  ·have e:m+1=nl:=by omega
   have hnl:¬(m:Int)+1<(nl:Int):=by omega
   obtain ⟨ar,cr,e2,hrc,hcr⟩:=(HR.out.keep ((Below.stays hBr _).toL 0) (M':=fun _=>False) (fun _ e=>e.elim)).rc (by omega) (fun x hx=>by have:=hpl x hx;omega)
   cases e2
   have HHL:=Lib.hid (hasLine_c av a5 pre.length nl cv c5 _ _ wr hrc (HIC.out.mono hbr))
   clear hrc
   go_wp2_with fail
   refine HHL.out.mono ?_
   rintro _ w7 ⟨rfl,hb7⟩
   have hB7:=hBr.trans (hb7.mono hBr.size)
   have HR7:=Lib.hid (HR.out.keep ((Below.stays hB7 _).toL 0) (M':=fun _=>False) (fun _ e=>e.elim))
   cases hh:hasLineB (pre.map Prod.snd) xs with
   | true =>
    have HH:=Lib.hid hh
    clear hh
    go_wp2_with fail
    go_ret
    exact ⟨_,pre,rfl,HR7.out,by unfold withL;rw[if_pos HH.out],hB7.mono hL⟩
   | false =>
    have HH:=Lib.hid hh
    clear hh
    have hra:=HR7.out.1
    have hz7:=hB7.size
    have HO7:=Lib.hid (owns_keep HO5.out (fun k _ hl=>(hbr.trans (hb7.mono hbr.size)).block k hl))
    go_wp2_with (first|(at_builtin;refine wpList_append_own2 _ rfl _ _ 22 rfl 25 i2 (.slice none 0 0) 1 24 Tryz.underlying22 hi2 hy0 hy1 hy2 rfl (by decide) _ _ _ rfl (owns_base (hra.alloc _) (Nat.zero_le _)) ⟨w7.heap.size,0,none⟩ 1 1 [.slice a5 nl c5] rfl rfl (cell_one_new _ _ _) (by simp[Value.oneCell']) (by unfold maxLen;omega) (by omega) ?_))
    intro v' w8 hown' hgrow hnew
    have hs8:=grow_stays hgrow
    have hnew2:∀k,v'.ownBlock=some k→(Value.slice av pre.length cv).ownBlock=some k∨w7.heap.size≤k:=fun k e=>(hnew k e).imp id (fun h=>by first|omega|(simp at h;omega))
    have hrow8:=HR7.out.append (x:=((Value.slice a5 nl c5),xs)) (v':=v') (fun k e=>e.elim) (by rw[hlen];exact owns_base HO7.out hL) (fun k e=>⟨fun h=>h,fun h2=>by have:=(HR.out.1.lt k h2).2;have:=owns_ge HO7.out e;omega⟩) hs8 (owns_up hown' (fun k e=>(hnew2 k e).elim (fun h=>owns_ge HR7.out.1 h) (fun h=>by omega))) hnew2
    have HR8:=Lib.hid hrow8
    have hB8:Below L w w8:=(hB7.mono hL).trans (hs8.below (B:=L) (by omega) (fun k e=>owns_ge HR7.out.1 e))
    clear hown' hgrow hnew hnew2 hrow8
    go_wp2_with fail
    go_ret
    exact ⟨v',_,rfl,HR8.out,by unfold withL;rw[if_neg (by rw[HH.out];decide),List.map_append];rfl,hB8⟩
end
section
open Go Go.RowKit
attribute [local go_sem] over_cell
attribute [local go_sem] Oper.semAt_some
theorem withL_len (ls:List (List Int)) (l:List Int):(withL ls l).length≤ls.length+1:=by
 unfold withL;split
 ·omega
 ·simp
theorem withL_mem {ls:List (List Int)} {l x:List Int} (h:x∈withL ls l):x∈ls∨x=l:=by
 unfold withL at h
 split at h
 ·exact .inl h
 ·rcases List.mem_append.1 h with h|h
  ·exact .inl h
  ·exact .inr (List.mem_singleton.1 h)
def qlR (n i j:Nat):List Int:=(List.range j).map fun (j:Nat)=>(n:Int)*i+j
theorem qlR_succ (n i j:Nat):qlR n i (j+1)=qlR n i j++[(n:Int)*i+j]:=by
 unfold qlR;rw[List.range_succ,List.map_append];rfl
theorem qlR_len (n i j:Nat):(qlR n i j).length=j:=by simp[qlR]
theorem qlR_get (n i m j:Nat) (h:j<m):(qlR n i m)[j]?.getD 0=(n:Int)*i+j:=by
 simp[qlR,h]
def qlsR (n:Nat) (ls:List (List Int)):Nat→List (List Int)
 | 0=>ls
 | i+1=>withL (qlsR n ls i) (qlR n i n)
theorem rows_c (L n:Nat) (v:Value) (pre:List (Value × List Int)) (w:World) (hrow:RowsI w (fun _=>False) L v pre) (hL:L≤w.heap.size) (h0:0<n) (hn:n≤16) (hp:pre.length≤500) (hpl:∀x,x∈pre→x.2.length≤256) :
  Calls Tryz.prog 189 #[v,.int .i64 n,.int .i64 n] w fun e w'=>∃v' pre',e = .returned v'∧RowsI w' (fun _=>False) L v' pre'∧pre'.map Prod.snd=qlsR n (pre.map Prod.snd) n∧pre'.length≤pre.length+n∧(∀x,x∈pre'→x.2.length≤256)∧Below L w w':=by
 obtain ⟨i0,hi,hz0,hz1,hz2⟩:=info_parts infoInt
 have HR:=Lib.hid hrow
 clear hrow
 go_enter Tryz.func189,Tryz.ntmps189
 go_wp2_with fail
 go_loopg [0,7,8,9] n (fun gk lv iv _ _ wv=>∃(i:Nat) (pre':List (Value × List Int)),gk=n - i∧i≤n∧iv = .int .i64 i∧Hid (RowsI wv (fun _=>False) L lv pre')∧Hid (pre'.map Prod.snd=qlsR n (pre.map Prod.snd) i)∧pre'.length≤pre.length+i∧Hid (∀x,x∈pre'→x.2.length≤256)∧Below L w wv)
 case atStart=>exact ⟨0,pre,by omega,by omega,rfl,HR.out,rfl,by omega,hpl,Below.refl _ _⟩
 case round =>
  obtain ⟨i,pre',rfl,hin,rfl,hrw,hls,hlen,hsh,hbr⟩:=hrel
  have hszr:=hbr.size
  by_cases hlt:i<n
  ·have hii:(i:Int)<(n:Int):=by omega
   obtain ⟨B0,hB0⟩:∃B0,B0=wr.heap.size:=⟨_,rfl⟩
   go_wp2_with fail
   go_loopg [8,9] n (fun gk v jv wv=>∃(j:Nat),gk=n - j∧j≤n∧jv = .int .i64 j∧Hid (wv.ownsRow B0 3 1 v j ((qlR n i j).map (Value.int .i64)))∧Below wr.heap.size wr wv)
   case atStart=>exact ⟨0,by omega,by omega,rfl,World.ownsRow_nil _ _ _ _,Below.refl _ _⟩
   case round =>
    obtain ⟨j,rfl,hj,rfl,hown,hbj⟩:=hrel
    obtain ⟨a1,c1,rfl⟩:=owns_shape (n:=j) (xs:=(qlR n i j).map (Value.int .i64)) (by simpa using hown.out)
    by_cases hltj:j<n
    ·have hji:(j:Int)<(n:Int):=by omega
     have h1:0≤(n:Int)*(i:Int)∧(n:Int)*(i:Int)≤256:=by
      constructor
      ·exact Int.mul_nonneg (by omega) (by omega)
      ·have:=Int.mul_le_mul (show (n:Int)≤16 by omega) (show (i:Int)≤16 by omega) (by omega) (by omega);omega
     have h2:0≤(n:Int)*(j:Int)∧(n:Int)*(j:Int)≤256:=by
      constructor
      ·exact Int.mul_nonneg (by omega) (by omega)
      ·have:=Int.mul_le_mul (show (n:Int)≤16 by omega) (show (j:Int)≤16 by omega) (by omega) (by omega);omega
     have hN:=Lib.hid (qlR_succ n i j)
     have ho:=hown.out
     have hszj:=hbj.size
     go_wp2_with (first|(at_builtin;refine wpList_append_own _ rfl _ _ 25 rfl B0 3 i0 (.int .i64 0) 1 8 Tryz.underlying25 hi hz0 hz1 hz2 rfl (by decide) _ _ _ rfl (ho.alloc _) ⟨wr.heap.size,0,none⟩ 1 1 [.int .i64 ((n:Int)*i+j)] rfl rfl (cell_one_new _ _ _) (by simp[Value.oneCell']) (by unfold maxLen;omega) (by omega) (by simp;omega) ?_))
     intro v' w3 hown' hgrow _
     have HO3:Hid (w3.ownsRow B0 3 1 v' (j+1) ((qlR n i (j+1)).map (Value.int .i64))):=by unfold Hid;rw[hN.out,List.map_append,hB0];exact hown'
     have hB3:=hbj.trans ((grow_s0 hgrow).below (B:=B0) (by omega) (fun k e=>owns_ge ho e) |>.mono (by omega))
     clear hown' hgrow ho
     go_wp2_with fail
     go_roundg (n - (j+1))
     case measure=>omega
     case rel=>exact ⟨j+1,rfl,by omega,by go_num,HO3.out,hB3⟩
    ·have e:j=n:=by omega
     subst e
     have ho:=hown.out
     have hic:IC wr a1 j (qlR j i j):=by
      have h9:(qlR j i j).length=j:=qlR_len j i j
      have h8:wr.ownsRow B0 3 1 (.slice a1 (qlR j i j).length c1) (qlR j i j).length ((qlR j i j).map (Value.int .i64)):=by rw[h9];exact ho
      have:=(IC.of_owns h8 (by omega)).1
      rw[h9] at this
      exact this
     have hrwj:=hrw.out.keep ((Below.stays hbj _).toL 0) (M':=fun _=>False) (fun _ e=>e.elim)
     have hzj:=hbj.size
     have HWI:=Lib.hid (with_c L _ pre' a1 j c1 (qlR j i j) wr hrwj hic h0 (by omega) (by omega) (by omega) hsh.out (fun m h1 h2=>by
      rw[qlR_get j i j m h2,qlR_get j i j (m - 1) (by omega)]
      omega))
     clear ho hic hrwj
     go_wp2_with fail
     refine HWI.out.mono ?_
     rintro _ w7 ⟨v7,pre7,rfl,hrw7,hls7,hb7⟩
     have HR7:=Lib.hid hrw7
     have HL7:Hid (pre7.map Prod.snd=qlsR j (pre.map Prod.snd) (i+1)):=by unfold Hid;rw[hls7,hls.out];rfl
     have hl7:pre7.length≤pre'.length+1:=by
      have h1:=congrArg List.length hls7
      rw[List.length_map] at h1
      have h2:=withL_len (pre'.map Prod.snd) (qlR j i j)
      rw[List.length_map] at h2
      omega
     have HS7:Hid (∀x,x∈pre7→x.2.length≤256):=fun x hx=>by
      have h1:x.2∈pre7.map Prod.snd:=List.mem_map.2 ⟨x,hx,rfl⟩
      rw[hls7] at h1
      rcases withL_mem h1 with h2|h2
      ·obtain ⟨y,hy,e⟩:=List.mem_map.1 h2
       rw[← e];exact hsh.out y hy
      ·rw[h2,qlR_len];omega
     have hB7:Below L w w7:=hbr.trans ((hbj.mono (by omega)).trans hb7)
     clear hrw7 hls7 HWI
     go_wp2_with fail
     go_roundg (j - (i+1))
     case measure=>omega
     case rel=>exact ⟨i+1,pre7,rfl,by omega,by go_num,HR7.out,HL7.out,by omega,HS7.out,hB7⟩
  ·have e:i=n:=by omega
   subst e
   go_wp2_with fail
   go_ret
   exact ⟨_,pre',rfl,hrw.out,hls.out,hlen,hsh.out,hbr⟩
def qlC (n i j:Nat):List Int:=(List.range j).map fun (j:Nat)=>(n:Int)*j+i
theorem qlC_succ (n i j:Nat):qlC n i (j+1)=qlC n i j++[(n:Int)*j+i]:=by
 unfold qlC;rw[List.range_succ,List.map_append];rfl
theorem qlC_len (n i j:Nat):(qlC n i j).length=j:=by simp[qlC]
theorem qlC_get (n i m j:Nat) (h:j<m):(qlC n i m)[j]?.getD 0=(n:Int)*j+i:=by
 simp[qlC,h]
def qlsC (n:Nat) (ls:List (List Int)):Nat→List (List Int)
 | 0=>ls
 | i+1=>withL (qlsC n ls i) (qlC n i n)
theorem columns_c (L n:Nat) (v:Value) (pre:List (Value × List Int)) (w:World) (hrow:RowsI w (fun _=>False) L v pre) (hL:L≤w.heap.size) (h0:0<n) (hn:n≤16) (hp:pre.length≤500) (hpl:∀x,x∈pre→x.2.length≤256) :
  Calls Tryz.prog 188 #[v,.int .i64 n,.int .i64 n] w fun e w'=>∃v' pre',e = .returned v'∧RowsI w' (fun _=>False) L v' pre'∧pre'.map Prod.snd=qlsC n (pre.map Prod.snd) n∧pre'.length≤pre.length+n∧(∀x,x∈pre'→x.2.length≤256)∧Below L w w':=by
 obtain ⟨i0,hi,hz0,hz1,hz2⟩:=info_parts infoInt
 have HR:=Lib.hid hrow
 clear hrow
 go_enter Tryz.func188,Tryz.ntmps188
 go_wp2_with fail
 go_loopg [0,7,8,9] n (fun gk lv iv _ _ wv=>∃(i:Nat) (pre':List (Value × List Int)),gk=n - i∧i≤n∧iv = .int .i64 i∧Hid (RowsI wv (fun _=>False) L lv pre')∧Hid (pre'.map Prod.snd=qlsC n (pre.map Prod.snd) i)∧pre'.length≤pre.length+i∧Hid (∀x,x∈pre'→x.2.length≤256)∧Below L w wv)
 case atStart=>exact ⟨0,pre,by omega,by omega,rfl,HR.out,rfl,by omega,hpl,Below.refl _ _⟩
 case round =>
  obtain ⟨i,pre',rfl,hin,rfl,hrw,hls,hlen,hsh,hbr⟩:=hrel
  have hszr:=hbr.size
  by_cases hlt:i<n
  ·have hii:(i:Int)<(n:Int):=by omega
   obtain ⟨B0,hB0⟩:∃B0,B0=wr.heap.size:=⟨_,rfl⟩
   go_wp2_with fail
   go_loopg [8,9] n (fun gk v jv wv=>∃(j:Nat),gk=n - j∧j≤n∧jv = .int .i64 j∧Hid (wv.ownsRow B0 3 1 v j ((qlC n i j).map (Value.int .i64)))∧Below wr.heap.size wr wv)
   case atStart=>exact ⟨0,by omega,by omega,rfl,World.ownsRow_nil _ _ _ _,Below.refl _ _⟩
   case round =>
    obtain ⟨j,rfl,hj,rfl,hown,hbj⟩:=hrel
    obtain ⟨a1,c1,rfl⟩:=owns_shape (n:=j) (xs:=(qlC n i j).map (Value.int .i64)) (by simpa using hown.out)
    by_cases hltj:j<n
    ·have hji:(j:Int)<(n:Int):=by omega
     have h1:0≤(n:Int)*(i:Int)∧(n:Int)*(i:Int)≤256:=by
      constructor
      ·exact Int.mul_nonneg (by omega) (by omega)
      ·have:=Int.mul_le_mul (show (n:Int)≤16 by omega) (show (i:Int)≤16 by omega) (by omega) (by omega);omega
     have h2:0≤(n:Int)*(j:Int)∧(n:Int)*(j:Int)≤256:=by
      constructor
      ·exact Int.mul_nonneg (by omega) (by omega)
      ·have:=Int.mul_le_mul (show (n:Int)≤16 by omega) (show (j:Int)≤16 by omega) (by omega) (by omega);omega
     have hN:=Lib.hid (qlC_succ n i j)
     have ho:=hown.out
     have hszj:=hbj.size
     go_wp2_with (first|(at_builtin;refine wpList_append_own _ rfl _ _ 25 rfl B0 3 i0 (.int .i64 0) 1 8 Tryz.underlying25 hi hz0 hz1 hz2 rfl (by decide) _ _ _ rfl (ho.alloc _) ⟨wr.heap.size,0,none⟩ 1 1 [.int .i64 ((n:Int)*j+i)] rfl rfl (cell_one_new _ _ _) (by simp[Value.oneCell']) (by unfold maxLen;omega) (by omega) (by simp;omega) ?_))
     intro v' w3 hown' hgrow _
     have HO3:Hid (w3.ownsRow B0 3 1 v' (j+1) ((qlC n i (j+1)).map (Value.int .i64))):=by unfold Hid;rw[hN.out,List.map_append,hB0];exact hown'
     have hB3:=hbj.trans ((grow_s0 hgrow).below (B:=B0) (by omega) (fun k e=>owns_ge ho e) |>.mono (by omega))
     clear hown' hgrow ho
     go_wp2_with fail
     go_roundg (n - (j+1))
     case measure=>omega
     case rel=>exact ⟨j+1,rfl,by omega,by go_num,HO3.out,hB3⟩
    ·have e:j=n:=by omega
     subst e
     have ho:=hown.out
     have hic:IC wr a1 j (qlC j i j):=by
      have h9:(qlC j i j).length=j:=qlC_len j i j
      have h8:wr.ownsRow B0 3 1 (.slice a1 (qlC j i j).length c1) (qlC j i j).length ((qlC j i j).map (Value.int .i64)):=by rw[h9];exact ho
      have:=(IC.of_owns h8 (by omega)).1
      rw[h9] at this
      exact this
     have hrwj:=hrw.out.keep ((Below.stays hbj _).toL 0) (M':=fun _=>False) (fun _ e=>e.elim)
     have hzj:=hbj.size
     have HWI:=Lib.hid (with_c L _ pre' a1 j c1 (qlC j i j) wr hrwj hic h0 (by omega) (by omega) (by omega) hsh.out (fun m h1 h2=>by
      rw[qlC_get j i j m h2,qlC_get j i j (m - 1) (by omega)]
      have h5:((m - 1:Nat):Int)=(m:Int) - 1:=by omega
      rw[h5,Int.mul_sub,Int.mul_one]
      omega))
     clear ho hic hrwj
     go_wp2_with fail
     refine HWI.out.mono ?_
     rintro _ w7 ⟨v7,pre7,rfl,hrw7,hls7,hb7⟩
     have HR7:=Lib.hid hrw7
     have HL7:Hid (pre7.map Prod.snd=qlsC j (pre.map Prod.snd) (i+1)):=by unfold Hid;rw[hls7,hls.out];rfl
     have hl7:pre7.length≤pre'.length+1:=by
      have h1:=congrArg List.length hls7
      rw[List.length_map] at h1
      have h2:=withL_len (pre'.map Prod.snd) (qlC j i j)
      rw[List.length_map] at h2
      omega
     have HS7:Hid (∀x,x∈pre7→x.2.length≤256):=fun x hx=>by
      have h1:x.2∈pre7.map Prod.snd:=List.mem_map.2 ⟨x,hx,rfl⟩
      rw[hls7] at h1
      rcases withL_mem h1 with h2|h2
      ·obtain ⟨y,hy,e⟩:=List.mem_map.1 h2
       rw[← e];exact hsh.out y hy
      ·rw[h2,qlC_len];omega
     have hB7:Below L w w7:=hbr.trans ((hbj.mono (by omega)).trans hb7)
     clear hrw7 hls7 HWI
     go_wp2_with fail
     go_roundg (j - (i+1))
     case measure=>omega
     case rel=>exact ⟨i+1,pre7,rfl,by omega,by go_num,HR7.out,HL7.out,by omega,HS7.out,hB7⟩
  ·have e:i=n:=by omega
   subst e
   go_wp2_with fail
   go_ret
   exact ⟨_,pre',rfl,hrw.out,hls.out,hlen,hsh.out,hbr⟩
end
section
open Go Go.RowKit
attribute [local go_sem] over_cell
attribute [local go_sem] Oper.semAt_some
theorem RowsI.low {W:World} {M:Nat→Prop} {L L':Nat} {v:Value} {pre:List (Value × List Int)} (h:RowsI W M L v pre) (hL:L'≤L):RowsI W M L' v pre :=
 ⟨owns_base h.1 hL,h.2.1,fun x hx=>⟨owns_base (h.2.2 x hx).1 hL,(h.2.2 x hx).2⟩⟩
def magic3:List (List Int):=withL (withL (qlsC 3 (qlsR 3 [] 3) 3) (diagTo 3 0 1 3)) (diagTo 3 2 (-1) 3)
theorem sqsys_c (w:World) :
  Calls Tryz.prog 125 #[.string ⟨#[109,97,103,105,99]⟩,.int .i64 3] w fun e w'=>∃al cl pre,e = .returned (.tuple #[.agg #[.int .i64 9,.slice al pre.length cl],.int .i64 0])∧RowsI w' (fun _=>False) w.heap.size (.slice al pre.length cl) pre∧pre.map Prod.snd=magic3∧pre.length≤8∧(∀x,x∈pre→x.2.length≤256)∧Below w.heap.size w w':=by
 have HRO:Hid (∀(L:Nat) (v:Value) (pre:List (Value × List Int)) (W:World),RowsI W (fun _=>False) L v pre→L≤W.heap.size→pre.length≤500→(∀x,x∈pre→x.2.length≤256)→Calls Tryz.prog 189 #[v,.int .i64 3,.int .i64 3] W fun e w'=>∃v' pre',e = .returned v'∧RowsI w' (fun _=>False) L v' pre'∧pre'.map Prod.snd=qlsR 3 (pre.map Prod.snd) 3∧pre'.length≤pre.length+3∧(∀x,x∈pre'→x.2.length≤256)∧Below L W w'):=fun L v pre W h1 h2 h3 h4=>rows_c L 3 v pre W h1 h2 (by decide) (by decide) h3 h4
 have HCO:Hid (∀(L:Nat) (v:Value) (pre:List (Value × List Int)) (W:World),RowsI W (fun _=>False) L v pre→L≤W.heap.size→pre.length≤500→(∀x,x∈pre→x.2.length≤256)→Calls Tryz.prog 188 #[v,.int .i64 3,.int .i64 3] W fun e w'=>∃v' pre',e = .returned v'∧RowsI w' (fun _=>False) L v' pre'∧pre'.map Prod.snd=qlsC 3 (pre.map Prod.snd) 3∧pre'.length≤pre.length+3∧(∀x,x∈pre'→x.2.length≤256)∧Below L W w'):=fun L v pre W h1 h2 h3 h4=>columns_c L 3 v pre W h1 h2 (by decide) (by decide) h3 h4
 have HD1:Hid (∀W,Calls Tryz.prog 191 #[.int .i64 3,.int .i64 0,.int .i64 1] W fun e w'=>∃v,e = .returned v∧w'.ownsRow W.heap.size 3 1 v 3 ((diagTo 3 0 1 3).map (Value.int .i64))∧Below W.heap.size W w'):=fun W=>diag_c 3 0 1 W (by decide) (by decide) (by decide) (by decide) (.inl rfl)
 have HD2:Hid (∀W,Calls Tryz.prog 191 #[.int .i64 3,.int .i64 2,.int .i64 (-1)] W fun e w'=>∃v,e = .returned v∧w'.ownsRow W.heap.size 3 1 v 3 ((diagTo 3 2 (-1) 3).map (Value.int .i64))∧Below W.heap.size W w'):=fun W=>diag_c 3 2 (-1) W (by decide) (by decide) (by decide) (by decide) (.inr rfl)
 go_enter Tryz.func125,Tryz.ntmps125
 go_wp2_with fail
 have fsz:(w.alloc (.cells #[.int .i64 0,.slice none 0 0] 24)).heap.size=w.heap.size+1:=by simp only[World.size_alloc]
 have fB:Below w.heap.size w (w.alloc (.cells #[.int .i64 0,.slice none 0 0] 24)):=(Below.refl _ _).alloc (Nat.le_refl _) _
 have fq0:(w.alloc (.cells #[.int .i64 0,.slice none 0 0] 24)).heap[w.heap.size]?=some (.cells #[.int .i64 0,.slice none 0 0] 24 (0,0)):=by have h:=World.alloc_heap_new w (.cells #[.int .i64 0,.slice none 0 0] 24);exact h
 generalize (w.alloc (.cells #[.int .i64 0,.slice none 0 0] 24))=W0 at fsz fB fq0 ⊢
 have HQ:=Lib.hid fq0
 have hz0:w.heap.size<W0.heap.size:=by omega
 clear fq0 fsz
 refine (HRO.out W0.heap.size (.slice none 0 0) [] W0 (RowsI.nil _ _ _) (Nat.le_refl _) (by simp) (fun x hx=>absurd hx (by simp))).mono ?_
 rintro _ w1 ⟨v1,p1,rfl,hr1,hl1,hn1,hs1,hb1⟩
 go_wp2_with fail
 refine (HCO.out W0.heap.size v1 p1 w1 hr1 hb1.size (by simp at hn1;omega) hs1).mono ?_
 rintro _ w2 ⟨v2,p2,rfl,hr2,hl2,hn2,hs2,hb2⟩
 have hb12:=hb1.trans hb2
 rw[hl1] at hl2
 simp only[List.length_nil,Nat.zero_add] at hn1
 go_wp2_with fail
 refine (HD1.out w2).mono ?_
 rintro _ w3 ⟨d1,rfl,hd1,hb3⟩
 obtain ⟨a3,c3,rfl⟩:=owns_slice4 hd1
 have hic3:IC w3 a3 3 (diagTo 3 0 1 3):=(IC.of_owns (xs:=diagTo 3 0 1 3) hd1 (by decide)).1
 have hr3:=hr2.keep ((Below.stays hb3 _).toL 0) (M':=fun _=>False) (fun _ e=>e.elim)
 have hb13:=hb12.trans (hb3.mono hb12.size)
 go_wp2_with fail
 refine (with_c W0.heap.size v2 p2 a3 3 c3 (diagTo 3 0 1 3) w3 hr3 hic3 (by decide) (by decide) hb13.size (by omega) hs2 (fun i h1 h2=>by
  rcases (by omega:i=1∨i=2) with rfl|rfl <;> decide)).mono ?_
 rintro _ w4 ⟨v4,p4,rfl,hr4,hl4,hb4⟩
 have hb14:=hb13.trans hb4
 rw[hl2] at hl4
 have hp4:p4.length≤7:=by
  have h1:=congrArg List.length hl4
  rw[List.length_map] at h1
  have h2:=withL_len (qlsC 3 (qlsR 3 (([]:List (Value × List Int)).map Prod.snd) 3) 3) (diagTo 3 0 1 3)
  have h3:=congrArg List.length hl2
  rw[List.length_map] at h3
  omega
 have hs4:∀x,x∈p4→x.2.length≤256:=fun x hx=>by
  have h1:x.2∈p4.map Prod.snd:=List.mem_map.2 ⟨x,hx,rfl⟩
  rw[hl4,← hl2] at h1
  rcases withL_mem h1 with h2|h2
  ·obtain ⟨y,hy,e⟩:=List.mem_map.1 h2
   rw[← e];exact hs2 y hy
  ·rw[h2];decide
 go_wp2_with fail
 refine (HD2.out w4).mono ?_
 rintro _ w5 ⟨d2,rfl,hd2,hb5⟩
 obtain ⟨a5,c5,rfl⟩:=owns_slice4 hd2
 have hic5:IC w5 a5 3 (diagTo 3 2 (-1) 3):=(IC.of_owns (xs:=diagTo 3 2 (-1) 3) hd2 (by decide)).1
 have hr5:=hr4.keep ((Below.stays hb5 _).toL 0) (M':=fun _=>False) (fun _ e=>e.elim)
 have hb15:=hb14.trans (hb5.mono hb14.size)
 go_wp2_with fail
 refine (with_c W0.heap.size v4 p4 a5 3 c5 (diagTo 3 2 (-1) 3) w5 hr5 hic5 (by decide) (by decide) hb15.size (by omega) hs4 (fun i h1 h2=>by
  rcases (by omega:i=1∨i=2) with rfl|rfl <;> decide)).mono ?_
 rintro _ w6 ⟨v6,p6,rfl,hr6,hl6,hb6⟩
 have hb16:=hb15.trans hb6
 rw[hl4] at hl6
 have hp6:p6.length≤8:=by
  have h1:=congrArg List.length hl6
  rw[List.length_map] at h1
  have h2:=withL_len (withL (qlsC 3 (qlsR 3 (([]:List (Value × List Int)).map Prod.snd) 3) 3) (diagTo 3 0 1 3)) (diagTo 3 2 (-1) 3)
  have h3:=congrArg List.length hl4
  rw[List.length_map] at h3
  omega
 have hs6:∀x,x∈p6→x.2.length≤256:=fun x hx=>by
  have h1:x.2∈p6.map Prod.snd:=List.mem_map.2 ⟨x,hx,rfl⟩
  rw[hl6,← hl4] at h1
  rcases withL_mem h1 with h2|h2
  ·obtain ⟨y,hy,e⟩:=List.mem_map.1 h2
   rw[← e];exact hs4 y hy
  ·rw[h2];decide
 have HM:Hid (p6.map Prod.snd=magic3):=hl6
 obtain ⟨av,cv,rfl⟩:=owns_shape hr6.1
 have hq6:=keepq hb16 HQ.out
 have r0:w6.cell? ⟨w.heap.size,0,none⟩=some (.int .i64 0):=q_cell hq6 0
 have r1:w6.cell? ⟨w.heap.size,1,none⟩=some (.slice none 0 0):=q_cell hq6 1
 have rf0:=q_free hq6 0
 have rf1:=q_free hq6 1
 have HQ6:=Lib.hid hq6
 have HR6:=Lib.hid hr6
 clear hr6 hr5 hr4 hr3 hr2 hr1 hl1 hl2 hl4 hl6 hs1 hs2 hd1 hd2 hic3 hic5 hq6 HRO HCO HD1 HD2
 go_wp2_with fail
 have r:=q_set (i:=1) (q_set (i:=0) HQ6.out (.int .i64 9)) (.slice av p6.length cv)
 have z0:=q_cell r 0
 have z1:=q_cell r 1
 have hr9:=(HR6.out.setCell (b:=w.heap.size) (i:=0) hz0 (.int .i64 9)).setCell (b:=w.heap.size) (i:=1) hz0 (.slice av p6.length cv)
 refine bodyPost_ret (v := .tuple #[.agg #[.int .i64 9,.slice av p6.length cv],.int .i64 0]) ?_ rfl ⟨av,cv,p6,rfl,hr9.low (by omega),HM.out,hp6,hs6,((fB.trans (hb16.mono fB.size)).setCell (p:=⟨w.heap.size,0,none⟩) (Nat.le_refl _) _).setCell (p:=⟨w.heap.size,1,none⟩) (Nat.le_refl _) _⟩
 simp[results,Tryz.f125,go_sem,z0,z1]
end
section
open Go Go.RowKit
attribute [local go_sem] over_cell
attribute [local go_sem] Oper.semAt_some
end
section
open Go Go.RowKit
def ga:List Int:=[2,7,6,0,0,0,0,0,0]
def gc:List Int:=[2,7,6,0,5,0,0,0,0]
def gr:List Int:=[1,2,0,0,0,0,0,0,0]
def gn:List Int:=[2,0,6,0,0,0,0,0,0]
theorem m3_val:magic3=[[0,1,2],[3,4,5],[6,7,8],[0,3,6],[1,4,7],[2,5,8],[0,4,8],[2,4,6]]:=by decide +kernel
def m3:List (List Int):=[[0,1,2],[3,4,5],[6,7,8],[0,3,6],[1,4,7],[2,5,8],[0,4,8],[2,4,6]]
theorem ta:taskErr 9 m3 15 ga=0:=by decide +kernel
theorem sa:solsL m3 15 ga []=[[2,7,6,9,5,1,4,3,8]]:=by decide +kernel
theorem sr:solsL m3 15 gr []=[]:=by decide +kernel
theorem er:okTB m3 15 8 gr=true:=by decide +kernel
theorem cs:(stepR m3 15 (allM 9) (iterR m3 15 (allM 9) 60 (begL gc)).2).isNone=true:=by decide +kernel
theorem cl:(candL (allM 9) (iterR m3 15 (allM 9) 60 (begL gc)).2).length=9∧(candL (allM 9) (iterR m3 15 (allM 9) 60 (begL gc)).2)[3]?.getD []=[9]∧(candL (allM 9) (iterR m3 15 (allM 9) 60 (begL gc)).2)[8]?.getD []=[8]:=by decide +kernel
end
section
open Go Go.RowKit
theorem l1:lineOk m3 15 gr ⟨kLine,0,1,0,0⟩=false:=by unfold lineOk;decide +kernel
end
section
open Go Go.RowKit
def Ta (w:World) (al:Option Addr) (nl cl:Nat) (ag:Option Addr) (cg:Nat) (g:List Int):Prop:=RC w al nl m3∧nl≤cl∧IC w ag 9 g∧9≤cg
theorem Ta.mono {w w':World} {al ag:Option Addr} {nl cl cg:Nat} {g:List Int} (h:Ta w al nl cl ag cg g) (hb:Below w.heap.size w w'):Ta w' al nl cl ag cg g:=⟨h.1.mono hb,h.2.1,h.2.2.1.mono hb,h.2.2.2⟩
theorem small_ga:smallErr 9 m3 15 ga=0:=by decide +kernel
section
variable (al:Option Addr) (nl cl:Nat) (ag:Option Addr) (cg:Nat) (w:World)
theorem unique_u (h:Ta w al nl cl ag cg ga):Calls Tryz.prog 30 #[.agg #[.int .i64 9,.slice al nl cl,.int .i64 15,.slice ag 9 cg]] w fun e w'=>∃ar nr cr,e = .returned (.tuple #[.slice ar nr cr,.int .i64 0])∧IC w' ar nr [2,7,6,9,5,1,4,3,8]∧Below w.heap.size w w':=by
 refine (unique_c al nl cl m3 9 15 ag 9 cg ga w h.1 h.2.1 h.2.2.1 h.2.2.2).mono ?_
 rintro _ w' ⟨ar,nr,cr,rfl,hi,_,hb⟩
 have ht:twoL m3 15 ga=[[2,7,6,9,5,1,4,3,8]]:=by unfold twoL;rw[sa];rfl
 have h1:uniqE 9 m3 15 ga=0:=by unfold uniqE;rw[small_ga,if_neg (by decide),ht];rfl
 have h2:uniqL 9 m3 15 ga=[2,7,6,9,5,1,4,3,8]:=by unfold uniqL;rw[small_ga,if_neg (by decide),ht];rfl
 rw[h2] at hi
 exact ⟨ar,nr,cr,by rw[h1],hi,hb⟩
end
end
section
open Go Go.RowKit
attribute [local go_sem] over_cell
attribute [local go_sem] Oper.semAt_some
theorem ic_blk {W:World} {b:Nat} {xs:List Int} {T:TypeId} (h:W.heap[b]?=some (.cells (xs.map (Value.int .i64)).toArray T (0,0))) (hn:xs.length≤17592186044416):IC W (some ⟨b,0,none⟩) xs.length xs :=
 ⟨⟨rfl,hn⟩,fun k hk=>⟨b,0,rfl,q_lt h,by
  rw[Nat.zero_add,q_cell h k]
  simp[hk]⟩⟩
end
section
open Go Go.RowKit Go.ChangeShapes Go.WideShapes
theorem O1.cells24:Tryz.prog.cellsOf 24=2:=by kernel_rfl
theorem O1.cells27:Tryz.prog.cellsOf 27=4:=by kernel_rfl
theorem O1.cells3:Tryz.prog.cellsOf 3=1:=by kernel_rfl
theorem O1.cells22:Tryz.prog.cellsOf 22=1:=by kernel_rfl
theorem O1.cells25:Tryz.prog.cellsOf 25=1:=by kernel_rfl
theorem O1.bytes25:Tryz.prog.bytesOf 25=24:=by kernel_rfl
theorem O1.bytes3:Tryz.prog.bytesOf 3=8:=by kernel_rfl
theorem O1.reach:reachBytes=140737488351232:=rfl
theorem O1.weightsAll_mem {H:Type} {P:Program} {e:TypeId}:∀{l:List (DataW H)} {d:DataW H},d∈l→∀n∈d.weights P e,n∈DataW.weightsAll P e l
 | d' :: r,d,hd,n,hn=>by
  simp only[DataW.weightsAll,List.mem_append]
  rcases List.mem_cons.1 hd with rfl|h
  ·exact Or.inl hn
  ·exact Or.inr (O1.weightsAll_mem h n hn)
section
variable {H:Type} {enc:TypeId × Value→H} {w:World} {held:Bool}
theorem O1.ints {fuel:Nat} {c:Value} {y:DataW H × List MemPlace} (h:DataW.trod enc Tryz.prog w 0 (fun _=>true) held fuel 25 [c]=some y) (hz:∀n∈y.1.weights Tryz.prog 25,n≤reachBytes) :
  ∃a n cap g,c = .slice a n cap∧n≤cap∧IC w a n g:=by
 rcases open_ints Tryz.underlying25 Tryz.underlying3 O1.cells3 h with ⟨hcs,_⟩|⟨x,l,cap,zs,hcs,_,hl,hm,hzl,hy,hcell,hwz⟩
 ·simp only[List.cons.injEq,and_true] at hcs
  exact ⟨none,0,0,[],hcs,Nat.le_refl _,⟨rfl,by omega⟩,fun k hk=>absurd hk (Nat.not_lt_zero _)⟩
 ·simp only[List.cons.injEq,and_true] at hcs
  simp only[if_true] at hzl
  rw[hy] at hz
  have h1:=hz _ (by simp only[DataW.weights,Tryz.underlying25];exact List.mem_cons_self)
  simp only[lits,List.length_map,List.length_take,List.length_drop,O1.bytes3,O1.reach] at h1
  refine ⟨some x,l,cap,zs.take l,hcs,hl,⟨by rw[List.length_take];omega,by omega⟩,fun k hk=>?_⟩
  have h2:=hcell k (by omega)
  obtain ⟨b,off,spot⟩:=x
  have hs:spot=none:=by simpa [Addr.add] using World.cell?_spot (hcell 0 (by omega))
  subst hs
  have h3:w.cell? ⟨b,off+k,none⟩=some (.int .i64 (zs.getD k 0)):=by rw[add_plain] at h2;exact h2
  refine ⟨b,off,rfl,World.block_lt_of_cell? _ _ h3,?_⟩
  rw[h3,List.getElem?_take,if_pos hk]
  simp[List.getD]
theorem O1.rows {fuel:Nat} {c:Value} {y:DataW H × List MemPlace} (h:DataW.trod enc Tryz.prog w 0 (fun _=>true) held fuel 22 [c]=some y) (hz:∀n∈y.1.weights Tryz.prog 22,n≤reachBytes) :
  ∃a n cap ls,c = .slice a n cap∧n≤cap∧RC w a n ls:=by
 rcases Go.Deep.open_int_rows Tryz.underlying22 Tryz.underlying25 Tryz.underlying3 O1.cells25 O1.cells3 h with ⟨hcs,_⟩|⟨x,l,cap,A,L,C,Z,hcs,_,hl,hm,hy,hrow⟩
 ·simp only[List.cons.injEq,and_true] at hcs
  exact ⟨none,0,0,[],hcs,Nat.le_refl _,⟨rfl,by omega⟩,fun k hk=>absurd hk (Nat.not_lt_zero _)⟩
 ·simp only[List.cons.injEq,and_true] at hcs
  rw[hy] at hz
  have h1:=hz _ (by simp only[DataW.weights,Tryz.underlying22];exact List.mem_cons_self)
  simp only[List.length_map,List.length_range,O1.bytes25,O1.reach] at h1
  have hin:∀r,r<l→C r≤17592186044416:=by
   intro r hr
   obtain ⟨_,hLC,_,hZ,_,hnil,_⟩:=hrow r (by omega)
   cases hA:A r with
   | none=>rw[hnil hA];omega
   | some a' =>
    have h2:=hz ((((Z r).take (L r)).length+((Z r).drop (L r)).length)*8) (by
     simp only[DataW.weights,Tryz.underlying22]
     refine List.mem_cons_of_mem _ (List.mem_append_left _ (O1.weightsAll_mem (d:=Go.Deep.intRow .i64 (A r) (L r) (Z r)) (List.mem_map.2 ⟨r,List.mem_range.2 hr,rfl⟩) _ ?_))
     simp only[Go.Deep.intRow,hA,DataW.weights,Tryz.underlying25,lits,List.length_map,O1.bytes3]
     exact List.mem_cons_self)
    rw[List.length_take,List.length_drop,O1.reach] at h2
    omega
  obtain ⟨b,off,spot⟩:=x
  refine ⟨some ⟨b,off,spot⟩,l,cap,(List.range l).map (fun r=>(Z r).take (L r)),hcs,hl,⟨by simp,by omega⟩,fun r hr=>?_⟩
  obtain ⟨hc,hLC,_,hZ,_,hnil,hcells⟩:=hrow r (by omega)
  have hs:spot=none:=by simpa [Addr.add] using World.cell?_spot (hrow 0 (by omega)).1
  subst hs
  have h3:w.cell? ⟨b,off+r,none⟩=some (.slice (A r) (L r) (C r)):=by rw[add_plain] at hc;exact hc
  have hCr:=hin r hr
  refine ⟨b,off,A r,L r,C r,rfl,World.block_lt_of_cell? _ _ h3,h3,?_,hLC⟩
  rw[List.getElem?_map,List.getElem?_range hr]
  refine ⟨⟨by simp only[Option.map_some,Option.getD_some];rw[List.length_take];omega,by omega⟩,fun k hk=>?_⟩
  cases hA:A r with
  | none=>have:=hnil hA;omega
  | some a' =>
   have h4:=(hcells a' hA).2 k (by omega)
   obtain ⟨b',off',spot'⟩:=a'
   have hs':spot'=none:=by simpa [Addr.add] using World.cell?_spot ((hcells _ hA).2 0 (by omega))
   subst hs'
   have h5:w.cell? ⟨b',off'+k,none⟩=some (.int .i64 ((Z r).getD k 0)):=by rw[add_plain] at h4;exact h4
   refine ⟨b',off',rfl,World.block_lt_of_cell? _ _ h5,?_⟩
   rw[h5]
   simp only[Option.map_some,Option.getD_some]
   rw[List.getElem?_take,if_pos hk]
   simp[List.getD]
theorem open_task {base:Nat} {v:Value} {d:DataW H} {p:List MemPlace} (hv:Value.okWide Tryz.prog w .any base 27 v) (h:DataW.Trod enc Tryz.prog w 0 (fun _=>true) held 27 v d p) (hz:∀n∈d.weights Tryz.prog 27,n≤reachBytes) :
  ∃(cells sum:Int) (a:Option Addr) (n c:Nat) (ls:List (List Int)) (a':Option Addr) (n' c':Nat) (g:List Int),v = .agg #[.int .i64 cells,.slice a n c,.int .i64 sum,.slice a' n' c']∧n≤c∧n'≤c'∧RC w a n ls∧IC w a' n' g:=by
 obtain ⟨cs,rfl,hsz⟩:=okWide_struct Tryz.underlying27 hv
 obtain ⟨c0,c1,c2,c3,rfl⟩:=Go.Joins.array4 (hsz.trans O1.cells27)
 obtain ⟨fuel,hf⟩:=h
 obtain ⟨y0,y1,y2,m,hx,_,h0,h1,h2⟩:=Go.Deep.trod_struct3 Tryz.underlying27 hf
 have h0':DataW.trod enc Tryz.prog w 0 (fun _=>true) held m 24 [c0,c1]=some y0:=by simpa [Value.cells,O1.cells24] using h0
 have h1':DataW.trod enc Tryz.prog w 0 (fun _=>true) held m 3 [c2]=some y1:=by simpa [Value.cells,O1.cells3] using h1
 have h2':DataW.trod enc Tryz.prog w 0 (fun _=>true) held m 25 [c3]=some y2:=by simpa [Value.cells,O1.cells25] using h2
 obtain ⟨z0,z1,m2,hx2,_,g0,g1⟩:=trod_struct2 Tryz.underlying24 h0'
 have g0':DataW.trod enc Tryz.prog w 0 (fun _=>true) held m2 3 [c0]=some z0:=by simpa [O1.cells3] using g0
 have g1':DataW.trod enc Tryz.prog w 0 (fun _=>true) held m2 22 [c1]=some z1:=by simpa [O1.cells22] using g1
 simp only[Prod.mk.injEq] at hx
 obtain ⟨rfl,rfl⟩:=hx
 have hwz:∀n,(n∈z1.1.weights Tryz.prog 22∨n∈y2.1.weights Tryz.prog 25)→n≤reachBytes:=by
  intro n hn
  refine hz n ?_
  simp only[DataW.weights,Tryz.underlying27,List.map_cons,List.map_nil,DataW.weightsEach,List.mem_append]
  rcases hn with hn|hn
  ·refine .inl ?_
   rw[hx2]
   simp only[DataW.weights,Tryz.underlying24,List.map_cons,List.map_nil,DataW.weightsEach,List.mem_append]
   exact .inr (.inl hn)
  ·exact .inr (.inr (.inl hn))
 obtain ⟨cells,e0,_,_⟩:=DataW.trod_int Tryz.underlying3 g0'
 obtain ⟨sum,e2,_,_⟩:=DataW.trod_int Tryz.underlying3 h1'
 obtain ⟨a,n,c,ls,rfl,hc,hr⟩:=O1.rows g1' (fun n hn=>hwz n (.inl hn))
 obtain ⟨a',n',c',g,rfl,hc',hg⟩:=O1.ints h2' (fun n hn=>hwz n (.inr hn))
 simp only[List.cons.injEq,and_true] at e0 e2
 exact ⟨cells,sum,a,n,c,ls,a',n',c',g,by rw[e0,e2],hc,hc',hr,hg⟩
end
end
section
open Go Go.RowKit
attribute [local go_sem] over_cell
attribute [local go_sem] Oper.semAt_some
def fillG (g P:List Int):List Int:=((openL g).zip P).foldl (fun f cx=>f.set cx.1.toNat cx.2) g
theorem fillP_G (C:Cst) (P:List Int):fillP C P=fillG C.g P:=rfl
theorem fillG_len (g P:List Int):(fillG g P).length=g.length:=foldl_set_len _ _
theorem fillG_snoc (g P:List Int) (x:Int) (h:P.length<(openL g).length):fillG g (P++[x])=(fillG g P).set ((openL g)[P.length]?.getD 0).toNat x:=by
 have:=fillP_snoc (plC [] 0 g) P x h
 rw[fillP_G,fillP_G] at this
 rw[List.getElem?_eq_getElem h]
 exact this
theorem open_lt {g:List Int} {k:Nat} (h:k<(openL g).length):∃x:Nat,(openL g)[k]?.getD 0=(x:Int)∧x<g.length∧g[x]?.getD 0=0:=by
 have hm:=mem_open.1 (List.getElem_mem h)
 rw[List.getElem?_eq_getElem h]
 exact ⟨((openL g)[k]).toNat,by simp only[Option.getD_some];omega,by omega,hm.2.2⟩
end
section
open Go Go.RowKit
attribute [local go_sem] over_cell
attribute [local go_sem] Oper.semAt_some
theorem upb_snoc {f:Nat→Bool} {k:Nat} (h:∀j,j<k→f j=false) (hk:f k=false):∀j,j<k+1→f j=false:=by
 intro j hj
 by_cases e:j=k
 ·rw[e];exact hk
 ·exact h j (by omega)
end
section
open Go Go.RowKit
def OkG (g P:List Int):Prop:=OkP (plC [] 0 g) P
theorem OkG.len {g P:List Int} (h:OkG g P):P.length≤(openL g).length:=OkP.len h
def gC (cells:Int) (ls:List (List Int)) (sum:Int) (g:List Int):Cst:=⟨cells,none,0,0,ls,sum,none,g.length,0,g,none,0,0,0⟩
theorem gC_fine {cells:Int} {ls:List (List Int)} {sum:Int} {g:List Int} (G:GoodTask cells ls sum g):Fine (gC cells ls sum g):=GoodTask.fine (C:=gC cells ls sum g) G rfl
theorem gC_even {cells:Int} {ls:List (List Int)} {sum:Int} {g:List Int} (G:GoodTask cells ls sum g):Even (gC cells ls sum g):=G.even
end
section
open Go Go.RowKit
structure SolP (C:Cst) (S:List Int):Prop where
 ok:OkP C S
 len:S.length=C.O.length
 right:∀k,k≤C.O.length→wrongB C (S.take k)=false
def PLt (P S:List Int):Prop:=∃Q x y R R',P=Q++x :: R∧S=Q++y :: R'∧x<y
theorem aboveM_lo {M x j:Nat} (h1:x<j) (h2:j≤256) (h3:M.testBit (j - 1)=true):0<aboveM M x∧aboveM M x≤j:=by
 unfold aboveM
 cases e:(List.range 257).find? (fun j=>decide (x<j)&&M.testBit (j - 1)) with
 | none =>
  rw[List.find?_eq_none] at e
  have:=e j (List.mem_range.2 (by omega))
  simp[h1,h3] at this
 | some i =>
  rw[List.find?_range_eq_some] at e
  obtain ⟨e1,_,e3⟩:=e
  simp only[Bool.and_eq_true,decide_eq_true_eq] at e1
  show 0<i∧i≤j
  refine ⟨by omega,Nat.le_of_not_lt fun hlt=>?_⟩
  have:=e3 j hlt
  simp[h1,h3] at this
theorem above_le {C:Cst} {Q:List Int} {x:Nat} {y:Int} (hf:Fine C) (hy:y∈unusedL C.g) (hq:y ∉ Q) (hxy:(x:Int)<y):0<aboveM (maskL (leftL C Q)) x∧((aboveM (maskL (leftL C Q)) x:Nat):Int)≤y:=by
 have h1:=mem_unused.1 hy
 have h2:=hf.len
 have h3:=hf.most
 have:=aboveM_lo (M:=maskL (leftL C Q)) (x:=x) (j:=y.toNat) (by omega) (by omega) (by
  rw[testBit_maskL,hasB_left,show ((y.toNat - 1:Nat):Int)+1=y from by omega,hasB_iff.2 hy]
  simp only[Bool.true_and,Bool.not_eq_true']
  rw[Bool.eq_false_iff]
  exact fun e=>hq (hasB_iff.1 e))
 exact ⟨this.1,by omega⟩
theorem back_reach {C:Cst} {S Q S':List Int} {x y:Int} (hf:Fine C) (hS:S=Q++y :: S') (hx:0≤x) (hxy:x<y) (hy:y∈unusedL C.g) (hq:y ∉ Q):∀U:List Int,∃P',backP C (U++x :: Q.reverse)=some P'∧(P' <+: S∨PLt P' S)
 | []=>by
  have ha:=above_le (Q:=Q) (x:=x.toNat) hf hy hq (by omega)
  refine ⟨Q++[((aboveM (maskL (leftL C Q)) x.toNat:Nat):Int)],?_,?_⟩
  ·show backP C (x :: Q.reverse)=_
   unfold backP
   rw[List.reverse_reverse,if_pos ha.1]
  ·rcases Int.lt_or_eq_of_le ha.2 with h|h
   ·exact .inr ⟨Q,_,y,[],S',rfl,hS,h⟩
   ·left
    rw[h,hS]
    exact ⟨S',by simp⟩
 | z :: U=>by
  rw[List.cons_append]
  unfold backP
  by_cases ha:0<aboveM (maskL (leftL C (U++x :: Q.reverse).reverse)) z.toNat
  ·rw[if_pos ha]
   refine ⟨_,rfl,.inr ⟨Q,x,y,U.reverse++[((aboveM (maskL (leftL C (U++x :: Q.reverse).reverse)) z.toNat:Nat):Int)],S',?_,hS,hxy⟩⟩
   generalize ((aboveM (maskL (leftL C (U++x :: Q.reverse).reverse)) z.toNat:Nat):Int)=v
   rw[List.reverse_append,List.reverse_cons,List.reverse_reverse]
   simp
  ·rw[if_neg ha]
   exact back_reach hf hS hx hxy hy hq U
theorem next_reach {C:Cst} {P S:List Int} (hf:Fine C) (ho:OkP C P) (hS:SolP C S) (h:(P <+: S∧P≠S)∨PLt P S):∃P',nextP C P=some P'∧(P' <+: S∨PLt P' S):=by
 unfold nextP
 rcases h with ⟨⟨T,hT⟩,hne⟩|⟨Q,x,y,R,R',hP,hSe,hxy⟩
 ·cases T with
  | nil=>exact absurd (by simpa using hT) hne
  | cons y S' =>
   have hl:P.length<C.O.length:=by rw[← hS.len,← hT];simp
   have hw:wrongB C P=false:=by
    have:=hS.right P.length (by omega)
    rwa [← hT,List.take_left] at this
   rw[if_pos ⟨by rw[beq_eq_false_iff_ne];omega,hw⟩]
   have hy:y∈unusedL C.g:=hS.ok.num y (by rw[← hT];simp)
   have hq:y ∉ P:=by
    have hn:=hS.ok.nodup
    rw[← hT,List.nodup_append] at hn
    exact fun hm=>hn.2.2 y hm y (by simp) rfl
   have hy1:=mem_unused.1 hy
   have ha:=above_le (Q:=P) (x:=0) hf hy hq (by omega)
   refine ⟨_,rfl,?_⟩
   rcases Int.lt_or_eq_of_le ha.2 with h|h
   ·exact .inr ⟨P,_,y,[],S',rfl,hT.symm,h⟩
   ·left
    rw[h,← hT]
    exact ⟨S',by simp⟩
 ·have hy:y∈unusedL C.g:=hS.ok.num y (by rw[hSe];simp)
  have hq:y ∉ Q:=by
   have hn:=hS.ok.nodup
   rw[hSe,List.nodup_append] at hn
   exact fun hm=>hn.2.2 y hm y (by simp) rfl
  have hx:=mem_unused.1 (ho.num x (by rw[hP];simp))
  split
  ·refine ⟨_,rfl,.inr ⟨Q,x,y,R++[((aboveM (maskL (leftL C P)) 0:Nat):Int)],R',?_,hSe,hxy⟩⟩
   generalize ((aboveM (maskL (leftL C P)) 0:Nat):Int)=v
   rw[hP];simp
  ·have:=back_reach hf hSe (by omega) hxy hy hq R.reverse
   rw[hP,List.reverse_append,List.reverse_cons]
   simpa using this
theorem found_mem {C:Cst} {S:List Int} (he:Even C) (hf:Fine C) (hS:SolP C S):∀(n:Nat) (P:List Int),fuelP C P=n→OkP C P→((P <+: S∧P≠S)∨PLt P S)→fillP C S∈found C P:=by
 intro n
 induction n using Nat.strongRecOn with
 | _ n ih =>
  intro P hn ho h
  obtain ⟨P',hP',hr⟩:=next_reach hf ho hS h
  rw[found_step he hf ho,hP']
  have hlt:=fuelP_lt he hf ho hP'
  have hok:=nextP_ok he hf ho hP'
  simp only
  by_cases e:P'=S
  ·subst e
   have hw:=hS.right C.O.length (Nat.le_refl _)
   rw[List.take_of_length_le (by rw[hS.len];omega)] at hw
   rw[if_pos ⟨by rw[hS.len];simp,hw⟩]
   simp
  ·refine List.mem_append_right _ (ih (fuelP C P') (by omega) P' rfl hok ?_)
   rcases hr with hr|hr
   ·exact .inl ⟨hr,e⟩
   ·exact .inr hr
def Rch (C:Cst) (P:List Int):Prop:=∀k,k<P.length→wrongB C (P.take k)=false
theorem backP_shape {C:Cst}:∀(R P':List Int),backP C R=some P'→∃Q a U z,P'=Q++[a]∧R=U++z :: Q.reverse
 | [],P',h=>by simp[backP] at h
 | x :: R,P',h=>by
  unfold backP at h
  split at h
  ·cases h
   exact ⟨_,_,[],x,rfl,by simp⟩
  ·obtain ⟨Q,a,U,z,h1,h2⟩:=backP_shape R P' h
   exact ⟨Q,a,x :: U,z,h1,by rw[h2];rfl⟩
theorem rch_next {C:Cst} {P P':List Int} (h:Rch C P) (hn:nextP C P=some P'):Rch C P':=by
 unfold nextP at hn
 split at hn
 ·rename_i hc
  cases hn
  intro k hk
  rw[List.length_append,List.length_singleton] at hk
  rcases Nat.lt_or_ge k P.length with h1|h1
  ·rw[List.take_append_of_le_length (by omega)];exact h k h1
  ·rw[show k=P.length from by omega,List.take_left];exact hc.2
 ·obtain ⟨Q,a,U,z,h1,h2⟩:=backP_shape _ _ hn
  have h3:P=Q++z :: U.reverse:=by
   have:=congrArg List.reverse h2
   rw[List.reverse_reverse] at this
   rw[this];simp
  subst h1
  intro k hk
  rw[List.length_append,List.length_singleton] at hk
  rw[List.take_append_of_le_length (by omega)]
  have:=h k (by rw[h3];simp;omega)
  rwa [h3,List.take_append_of_le_length (by omega)] at this
theorem found_sound {C:Cst} (he:Even C) (hf:Fine C):∀(n:Nat) (P:List Int),fuelP C P=n→OkP C P→Rch C P→∀f,f∈found C P→∃S,SolP C S∧f=fillP C S∧val C.O.length P<val C.O.length S:=by
 intro n
 induction n using Nat.strongRecOn with
 | _ n ih =>
  intro P hn ho hr f hm
  rw[found_step he hf ho] at hm
  cases hP:nextP C P with
  | none=>rw[hP] at hm;cases hm
  | some P' =>
   rw[hP] at hm
   simp only at hm
   have hlt:=fuelP_lt he hf ho hP
   have hok:=nextP_ok he hf ho hP
   have hv:=nextP_val he hf ho hP
   have hr':=rch_next hr hP
   rcases List.mem_append.1 hm with hm|hm
   ·split at hm
    ·rename_i hc
     rw[List.mem_singleton.1 hm]
     have hl:P'.length=C.O.length:=by simpa using hc.1
     refine ⟨P',⟨hok,hl,fun k hk=>?_⟩,rfl,hv⟩
     rcases Nat.lt_or_ge k P'.length with h1|h1
     ·exact hr' k h1
     ·rw[List.take_of_length_le h1];exact hc.2
    ·cases hm
   ·obtain ⟨S,h1,h2,h3⟩:=ih (fuelP C P') (by omega) P' rfl hok hr' f hm
    exact ⟨S,h1,h2,by omega⟩
end
end Go.Proofs.YtaadpihbjhachaaGreat
