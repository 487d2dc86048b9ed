/- Texts M2 to M8 of this proof, in one file. -/
import Derived.Test.YtaadpihbjhachaaGreatW07
import Derived.Test.YtaadpihbjhachaaGreatW08
import Derived.Test.YtaadpihbjhachaaGreatW10
import Derived.Test.YtaadpihbjhachaaGreatW11
import Derived.Test.YtaadpihbjhachaaGreatW12
import Derived.Test.YtaadpihbjhachaaGreatW15
import Derived.Test.YtaadpihbjhachaaGreatW16
import Derived.Test.YtaadpihbjhachaaGreatW17
import Derived.Test.YtaadpihbjhachaaGreatW19
namespace Go.Proofs.YtaadpihbjhachaaGreat
set_option maxRecDepth 100000
set_option maxHeartbeats 16000000
section
open Go Go.RowKit
attribute [local go_sem] over_cell
attribute [local go_sem] Oper.semAt_some
theorem withL_len (ls:List (List Int)) (l:List Int):(withL ls l).length≤ls.length+1:=by
 unfold withL;split
 ·omega
 ·simp
theorem withL_mem {ls:List (List Int)} {l x:List Int} (h:x∈withL ls l):x∈ls∨x=l:=by
 unfold withL at h
 split at h
 ·exact .inl h
 ·rcases List.mem_append.1 h with h|h
  ·exact .inl h
  ·exact .inr (List.mem_singleton.1 h)
def qlR (n i j:Nat):List Int:=(List.range j).map fun (j:Nat)=>(n:Int)*i+j
theorem qlR_succ (n i j:Nat):qlR n i (j+1)=qlR n i j++[(n:Int)*i+j]:=by
 unfold qlR;rw[List.range_succ,List.map_append];rfl
theorem qlR_len (n i j:Nat):(qlR n i j).length=j:=by simp[qlR]
theorem qlR_get (n i m j:Nat) (h:j<m):(qlR n i m)[j]?.getD 0=(n:Int)*i+j:=by
 simp[qlR,h]
def qlsR (n:Nat) (ls:List (List Int)):Nat→List (List Int)
 | 0=>ls
 | i+1=>withL (qlsR n ls i) (qlR n i n)
theorem rows_c (L n:Nat) (v:Value) (pre:List (Value × List Int)) (w:World) (hrow:RowsI w (fun _=>False) L v pre) (hL:L≤w.heap.size) (h0:0<n) (hn:n≤16) (hp:pre.length≤500) (hpl:∀x,x∈pre→x.2.length≤256) :
  Calls Tryz.prog 189 #[v,.int .i64 n,.int .i64 n] w fun e w'=>∃v' pre',e = .returned v'∧RowsI w' (fun _=>False) L v' pre'∧pre'.map Prod.snd=qlsR n (pre.map Prod.snd) n∧pre'.length≤pre.length+n∧(∀x,x∈pre'→x.2.length≤256)∧Below L w w':=by
 obtain ⟨i0,hi,hz0,hz1,hz2⟩:=info_parts infoInt
 have HR:=Lib.hid hrow
 clear hrow
 go_enter Tryz.func189,Tryz.ntmps189
 go_wp2_with fail
 go_loopg [0,7,8,9] n (fun gk lv iv _ _ wv=>∃(i:Nat) (pre':List (Value × List Int)),gk=n - i∧i≤n∧iv = .int .i64 i∧Hid (RowsI wv (fun _=>False) L lv pre')∧Hid (pre'.map Prod.snd=qlsR n (pre.map Prod.snd) i)∧pre'.length≤pre.length+i∧Hid (∀x,x∈pre'→x.2.length≤256)∧Below L w wv)
 case atStart=>exact ⟨0,pre,by omega,by omega,rfl,HR.out,rfl,by omega,hpl,Below.refl _ _⟩
 case round =>
  obtain ⟨i,pre',rfl,hin,rfl,hrw,hls,hlen,hsh,hbr⟩:=hrel
  have hszr:=hbr.size
  by_cases hlt:i<n
  ·have hii:(i:Int)<(n:Int):=by omega
   obtain ⟨B0,hB0⟩:∃B0,B0=wr.heap.size:=⟨_,rfl⟩
   go_wp2_with fail
   go_loopg [8,9] n (fun gk v jv wv=>∃(j:Nat),gk=n - j∧j≤n∧jv = .int .i64 j∧Hid (wv.ownsRow B0 3 1 v j ((qlR n i j).map (Value.int .i64)))∧Below wr.heap.size wr wv)
   case atStart=>exact ⟨0,by omega,by omega,rfl,World.ownsRow_nil _ _ _ _,Below.refl _ _⟩
   case round =>
    obtain ⟨j,rfl,hj,rfl,hown,hbj⟩:=hrel
    obtain ⟨a1,c1,rfl⟩:=owns_shape (n:=j) (xs:=(qlR n i j).map (Value.int .i64)) (by simpa using hown.out)
    by_cases hltj:j<n
    ·have hji:(j:Int)<(n:Int):=by omega
     have h1:0≤(n:Int)*(i:Int)∧(n:Int)*(i:Int)≤256:=by
      constructor
      ·exact Int.mul_nonneg (by omega) (by omega)
      ·have:=Int.mul_le_mul (show (n:Int)≤16 by omega) (show (i:Int)≤16 by omega) (by omega) (by omega);omega
     have h2:0≤(n:Int)*(j:Int)∧(n:Int)*(j:Int)≤256:=by
      constructor
      ·exact Int.mul_nonneg (by omega) (by omega)
      ·have:=Int.mul_le_mul (show (n:Int)≤16 by omega) (show (j:Int)≤16 by omega) (by omega) (by omega);omega
     have hN:=Lib.hid (qlR_succ n i j)
     have ho:=hown.out
     have hszj:=hbj.size
     go_wp2_with (first|(at_builtin;refine wpList_append_own _ rfl _ _ 25 rfl B0 3 i0 (.int .i64 0) 1 8 Tryz.underlying25 hi hz0 hz1 hz2 rfl (by decide) _ _ _ rfl (ho.alloc _) ⟨wr.heap.size,0,none⟩ 1 1 [.int .i64 ((n:Int)*i+j)] rfl rfl (cell_one_new _ _ _) (by simp[Value.oneCell']) (by unfold maxLen;omega) (by omega) (by simp;omega) ?_))
     intro v' w3 hown' hgrow _
     have HO3:Hid (w3.ownsRow B0 3 1 v' (j+1) ((qlR n i (j+1)).map (Value.int .i64))):=by unfold Hid;rw[hN.out,List.map_append,hB0];exact hown'
     have hB3:=hbj.trans ((grow_s0 hgrow).below (B:=B0) (by omega) (fun k e=>owns_ge ho e) |>.mono (by omega))
     clear hown' hgrow ho
     go_wp2_with fail
     go_roundg (n - (j+1))
     case measure=>omega
     case rel=>exact ⟨j+1,rfl,by omega,by go_num,HO3.out,hB3⟩
    ·have e:j=n:=by omega
     subst e
     have ho:=hown.out
     have hic:IC wr a1 j (qlR j i j):=by
      have h9:(qlR j i j).length=j:=qlR_len j i j
      have h8:wr.ownsRow B0 3 1 (.slice a1 (qlR j i j).length c1) (qlR j i j).length ((qlR j i j).map (Value.int .i64)):=by rw[h9];exact ho
      have:=(IC.of_owns h8 (by omega)).1
      rw[h9] at this
      exact this
     have hrwj:=hrw.out.keep ((Below.stays hbj _).toL 0) (M':=fun _=>False) (fun _ e=>e.elim)
     have hzj:=hbj.size
     have HWI:=Lib.hid (with_c L _ pre' a1 j c1 (qlR j i j) wr hrwj hic h0 (by omega) (by omega) (by omega) hsh.out (fun m h1 h2=>by
      rw[qlR_get j i j m h2,qlR_get j i j (m - 1) (by omega)]
      omega))
     clear ho hic hrwj
     go_wp2_with fail
     refine HWI.out.mono ?_
     rintro _ w7 ⟨v7,pre7,rfl,hrw7,hls7,hb7⟩
     have HR7:=Lib.hid hrw7
     have HL7:Hid (pre7.map Prod.snd=qlsR j (pre.map Prod.snd) (i+1)):=by unfold Hid;rw[hls7,hls.out];rfl
     have hl7:pre7.length≤pre'.length+1:=by
      have h1:=congrArg List.length hls7
      rw[List.length_map] at h1
      have h2:=withL_len (pre'.map Prod.snd) (qlR j i j)
      rw[List.length_map] at h2
      omega
     have HS7:Hid (∀x,x∈pre7→x.2.length≤256):=fun x hx=>by
      have h1:x.2∈pre7.map Prod.snd:=List.mem_map.2 ⟨x,hx,rfl⟩
      rw[hls7] at h1
      rcases withL_mem h1 with h2|h2
      ·obtain ⟨y,hy,e⟩:=List.mem_map.1 h2
       rw[← e];exact hsh.out y hy
      ·rw[h2,qlR_len];omega
     have hB7:Below L w w7:=hbr.trans ((hbj.mono (by omega)).trans hb7)
     clear hrw7 hls7 HWI
     go_wp2_with fail
     go_roundg (j - (i+1))
     case measure=>omega
     case rel=>exact ⟨i+1,pre7,rfl,by omega,by go_num,HR7.out,HL7.out,by omega,HS7.out,hB7⟩
  ·have e:i=n:=by omega
   subst e
   go_wp2_with fail
   go_ret
   exact ⟨_,pre',rfl,hrw.out,hls.out,hlen,hsh.out,hbr⟩
def qlC (n i j:Nat):List Int:=(List.range j).map fun (j:Nat)=>(n:Int)*j+i
theorem qlC_succ (n i j:Nat):qlC n i (j+1)=qlC n i j++[(n:Int)*j+i]:=by
 unfold qlC;rw[List.range_succ,List.map_append];rfl
theorem qlC_len (n i j:Nat):(qlC n i j).length=j:=by simp[qlC]
theorem qlC_get (n i m j:Nat) (h:j<m):(qlC n i m)[j]?.getD 0=(n:Int)*j+i:=by
 simp[qlC,h]
def qlsC (n:Nat) (ls:List (List Int)):Nat→List (List Int)
 | 0=>ls
 | i+1=>withL (qlsC n ls i) (qlC n i n)
theorem columns_c (L n:Nat) (v:Value) (pre:List (Value × List Int)) (w:World) (hrow:RowsI w (fun _=>False) L v pre) (hL:L≤w.heap.size) (h0:0<n) (hn:n≤16) (hp:pre.length≤500) (hpl:∀x,x∈pre→x.2.length≤256) :
  Calls Tryz.prog 188 #[v,.int .i64 n,.int .i64 n] w fun e w'=>∃v' pre',e = .returned v'∧RowsI w' (fun _=>False) L v' pre'∧pre'.map Prod.snd=qlsC n (pre.map Prod.snd) n∧pre'.length≤pre.length+n∧(∀x,x∈pre'→x.2.length≤256)∧Below L w w':=by
 obtain ⟨i0,hi,hz0,hz1,hz2⟩:=info_parts infoInt
 have HR:=Lib.hid hrow
 clear hrow
 go_enter Tryz.func188,Tryz.ntmps188
 go_wp2_with fail
 go_loopg [0,7,8,9] n (fun gk lv iv _ _ wv=>∃(i:Nat) (pre':List (Value × List Int)),gk=n - i∧i≤n∧iv = .int .i64 i∧Hid (RowsI wv (fun _=>False) L lv pre')∧Hid (pre'.map Prod.snd=qlsC n (pre.map Prod.snd) i)∧pre'.length≤pre.length+i∧Hid (∀x,x∈pre'→x.2.length≤256)∧Below L w wv)
 case atStart=>exact ⟨0,pre,by omega,by omega,rfl,HR.out,rfl,by omega,hpl,Below.refl _ _⟩
 case round =>
  obtain ⟨i,pre',rfl,hin,rfl,hrw,hls,hlen,hsh,hbr⟩:=hrel
  have hszr:=hbr.size
  by_cases hlt:i<n
  ·have hii:(i:Int)<(n:Int):=by omega
   obtain ⟨B0,hB0⟩:∃B0,B0=wr.heap.size:=⟨_,rfl⟩
   go_wp2_with fail
   go_loopg [8,9] n (fun gk v jv wv=>∃(j:Nat),gk=n - j∧j≤n∧jv = .int .i64 j∧Hid (wv.ownsRow B0 3 1 v j ((qlC n i j).map (Value.int .i64)))∧Below wr.heap.size wr wv)
   case atStart=>exact ⟨0,by omega,by omega,rfl,World.ownsRow_nil _ _ _ _,Below.refl _ _⟩
   case round =>
    obtain ⟨j,rfl,hj,rfl,hown,hbj⟩:=hrel
    obtain ⟨a1,c1,rfl⟩:=owns_shape (n:=j) (xs:=(qlC n i j).map (Value.int .i64)) (by simpa using hown.out)
    by_cases hltj:j<n
    ·have hji:(j:Int)<(n:Int):=by omega
     have h1:0≤(n:Int)*(i:Int)∧(n:Int)*(i:Int)≤256:=by
      constructor
      ·exact Int.mul_nonneg (by omega) (by omega)
      ·have:=Int.mul_le_mul (show (n:Int)≤16 by omega) (show (i:Int)≤16 by omega) (by omega) (by omega);omega
     have h2:0≤(n:Int)*(j:Int)∧(n:Int)*(j:Int)≤256:=by
      constructor
      ·exact Int.mul_nonneg (by omega) (by omega)
      ·have:=Int.mul_le_mul (show (n:Int)≤16 by omega) (show (j:Int)≤16 by omega) (by omega) (by omega);omega
     have hN:=Lib.hid (qlC_succ n i j)
     have ho:=hown.out
     have hszj:=hbj.size
     go_wp2_with (first|(at_builtin;refine wpList_append_own _ rfl _ _ 25 rfl B0 3 i0 (.int .i64 0) 1 8 Tryz.underlying25 hi hz0 hz1 hz2 rfl (by decide) _ _ _ rfl (ho.alloc _) ⟨wr.heap.size,0,none⟩ 1 1 [.int .i64 ((n:Int)*j+i)] rfl rfl (cell_one_new _ _ _) (by simp[Value.oneCell']) (by unfold maxLen;omega) (by omega) (by simp;omega) ?_))
     intro v' w3 hown' hgrow _
     have HO3:Hid (w3.ownsRow B0 3 1 v' (j+1) ((qlC n i (j+1)).map (Value.int .i64))):=by unfold Hid;rw[hN.out,List.map_append,hB0];exact hown'
     have hB3:=hbj.trans ((grow_s0 hgrow).below (B:=B0) (by omega) (fun k e=>owns_ge ho e) |>.mono (by omega))
     clear hown' hgrow ho
     go_wp2_with fail
     go_roundg (n - (j+1))
     case measure=>omega
     case rel=>exact ⟨j+1,rfl,by omega,by go_num,HO3.out,hB3⟩
    ·have e:j=n:=by omega
     subst e
     have ho:=hown.out
     have hic:IC wr a1 j (qlC j i j):=by
      have h9:(qlC j i j).length=j:=qlC_len j i j
      have h8:wr.ownsRow B0 3 1 (.slice a1 (qlC j i j).length c1) (qlC j i j).length ((qlC j i j).map (Value.int .i64)):=by rw[h9];exact ho
      have:=(IC.of_owns h8 (by omega)).1
      rw[h9] at this
      exact this
     have hrwj:=hrw.out.keep ((Below.stays hbj _).toL 0) (M':=fun _=>False) (fun _ e=>e.elim)
     have hzj:=hbj.size
     have HWI:=Lib.hid (with_c L _ pre' a1 j c1 (qlC j i j) wr hrwj hic h0 (by omega) (by omega) (by omega) hsh.out (fun m h1 h2=>by
      rw[qlC_get j i j m h2,qlC_get j i j (m - 1) (by omega)]
      have h5:((m - 1:Nat):Int)=(m:Int) - 1:=by omega
      rw[h5,Int.mul_sub,Int.mul_one]
      omega))
     clear ho hic hrwj
     go_wp2_with fail
     refine HWI.out.mono ?_
     rintro _ w7 ⟨v7,pre7,rfl,hrw7,hls7,hb7⟩
     have HR7:=Lib.hid hrw7
     have HL7:Hid (pre7.map Prod.snd=qlsC j (pre.map Prod.snd) (i+1)):=by unfold Hid;rw[hls7,hls.out];rfl
     have hl7:pre7.length≤pre'.length+1:=by
      have h1:=congrArg List.length hls7
      rw[List.length_map] at h1
      have h2:=withL_len (pre'.map Prod.snd) (qlC j i j)
      rw[List.length_map] at h2
      omega
     have HS7:Hid (∀x,x∈pre7→x.2.length≤256):=fun x hx=>by
      have h1:x.2∈pre7.map Prod.snd:=List.mem_map.2 ⟨x,hx,rfl⟩
      rw[hls7] at h1
      rcases withL_mem h1 with h2|h2
      ·obtain ⟨y,hy,e⟩:=List.mem_map.1 h2
       rw[← e];exact hsh.out y hy
      ·rw[h2,qlC_len];omega
     have hB7:Below L w w7:=hbr.trans ((hbj.mono (by omega)).trans hb7)
     clear hrw7 hls7 HWI
     go_wp2_with fail
     go_roundg (j - (i+1))
     case measure=>omega
     case rel=>exact ⟨i+1,pre7,rfl,by omega,by go_num,HR7.out,HL7.out,by omega,HS7.out,hB7⟩
  ·have e:i=n:=by omega
   subst e
   go_wp2_with fail
   go_ret
   exact ⟨_,pre',rfl,hrw.out,hls.out,hlen,hsh.out,hbr⟩
end
section
open Go Go.RowKit
attribute [local go_sem] over_cell
attribute [local go_sem] Oper.semAt_some
theorem RowsI.low {W:World} {M:Nat→Prop} {L L':Nat} {v:Value} {pre:List (Value × List Int)} (h:RowsI W M L v pre) (hL:L'≤L):RowsI W M L' v pre :=
 ⟨owns_base h.1 hL,h.2.1,fun x hx=>⟨owns_base (h.2.2 x hx).1 hL,(h.2.2 x hx).2⟩⟩
def magic3:List (List Int):=withL (withL (qlsC 3 (qlsR 3 [] 3) 3) (diagTo 3 0 1 3)) (diagTo 3 2 (-1) 3)
theorem sqsys_c (w:World) :
  Calls Tryz.prog 125 #[.string ⟨#[109,97,103,105,99]⟩,.int .i64 3] w fun e w'=>∃al cl pre,e = .returned (.tuple #[.agg #[.int .i64 9,.slice al pre.length cl],.int .i64 0])∧RowsI w' (fun _=>False) w.heap.size (.slice al pre.length cl) pre∧pre.map Prod.snd=magic3∧pre.length≤8∧(∀x,x∈pre→x.2.length≤256)∧Below w.heap.size w w':=by
 have HRO:Hid (∀(L:Nat) (v:Value) (pre:List (Value × List Int)) (W:World),RowsI W (fun _=>False) L v pre→L≤W.heap.size→pre.length≤500→(∀x,x∈pre→x.2.length≤256)→Calls Tryz.prog 189 #[v,.int .i64 3,.int .i64 3] W fun e w'=>∃v' pre',e = .returned v'∧RowsI w' (fun _=>False) L v' pre'∧pre'.map Prod.snd=qlsR 3 (pre.map Prod.snd) 3∧pre'.length≤pre.length+3∧(∀x,x∈pre'→x.2.length≤256)∧Below L W w'):=fun L v pre W h1 h2 h3 h4=>rows_c L 3 v pre W h1 h2 (by decide) (by decide) h3 h4
 have HCO:Hid (∀(L:Nat) (v:Value) (pre:List (Value × List Int)) (W:World),RowsI W (fun _=>False) L v pre→L≤W.heap.size→pre.length≤500→(∀x,x∈pre→x.2.length≤256)→Calls Tryz.prog 188 #[v,.int .i64 3,.int .i64 3] W fun e w'=>∃v' pre',e = .returned v'∧RowsI w' (fun _=>False) L v' pre'∧pre'.map Prod.snd=qlsC 3 (pre.map Prod.snd) 3∧pre'.length≤pre.length+3∧(∀x,x∈pre'→x.2.length≤256)∧Below L W w'):=fun L v pre W h1 h2 h3 h4=>columns_c L 3 v pre W h1 h2 (by decide) (by decide) h3 h4
 have HD1:Hid (∀W,Calls Tryz.prog 191 #[.int .i64 3,.int .i64 0,.int .i64 1] W fun e w'=>∃v,e = .returned v∧w'.ownsRow W.heap.size 3 1 v 3 ((diagTo 3 0 1 3).map (Value.int .i64))∧Below W.heap.size W w'):=fun W=>diag_c 3 0 1 W (by decide) (by decide) (by decide) (by decide) (.inl rfl)
 have HD2:Hid (∀W,Calls Tryz.prog 191 #[.int .i64 3,.int .i64 2,.int .i64 (-1)] W fun e w'=>∃v,e = .returned v∧w'.ownsRow W.heap.size 3 1 v 3 ((diagTo 3 2 (-1) 3).map (Value.int .i64))∧Below W.heap.size W w'):=fun W=>diag_c 3 2 (-1) W (by decide) (by decide) (by decide) (by decide) (.inr rfl)
 go_enter Tryz.func125,Tryz.ntmps125
 go_wp2_with fail
 have fsz:(w.alloc (.cells #[.int .i64 0,.slice none 0 0] 24)).heap.size=w.heap.size+1:=by simp only[World.size_alloc]
 have fB:Below w.heap.size w (w.alloc (.cells #[.int .i64 0,.slice none 0 0] 24)):=(Below.refl _ _).alloc (Nat.le_refl _) _
 have fq0:(w.alloc (.cells #[.int .i64 0,.slice none 0 0] 24)).heap[w.heap.size]?=some (.cells #[.int .i64 0,.slice none 0 0] 24 (0,0)):=by have h:=World.alloc_heap_new w (.cells #[.int .i64 0,.slice none 0 0] 24);exact h
 generalize (w.alloc (.cells #[.int .i64 0,.slice none 0 0] 24))=W0 at fsz fB fq0 ⊢
 have HQ:=Lib.hid fq0
 have hz0:w.heap.size<W0.heap.size:=by omega
 clear fq0 fsz
 refine (HRO.out W0.heap.size (.slice none 0 0) [] W0 (RowsI.nil _ _ _) (Nat.le_refl _) (by simp) (fun x hx=>absurd hx (by simp))).mono ?_
 rintro _ w1 ⟨v1,p1,rfl,hr1,hl1,hn1,hs1,hb1⟩
 go_wp2_with fail
 refine (HCO.out W0.heap.size v1 p1 w1 hr1 hb1.size (by simp at hn1;omega) hs1).mono ?_
 rintro _ w2 ⟨v2,p2,rfl,hr2,hl2,hn2,hs2,hb2⟩
 have hb12:=hb1.trans hb2
 rw[hl1] at hl2
 simp only[List.length_nil,Nat.zero_add] at hn1
 go_wp2_with fail
 refine (HD1.out w2).mono ?_
 rintro _ w3 ⟨d1,rfl,hd1,hb3⟩
 obtain ⟨a3,c3,rfl⟩:=owns_slice4 hd1
 have hic3:IC w3 a3 3 (diagTo 3 0 1 3):=(IC.of_owns (xs:=diagTo 3 0 1 3) hd1 (by decide)).1
 have hr3:=hr2.keep ((Below.stays hb3 _).toL 0) (M':=fun _=>False) (fun _ e=>e.elim)
 have hb13:=hb12.trans (hb3.mono hb12.size)
 go_wp2_with fail
 refine (with_c W0.heap.size v2 p2 a3 3 c3 (diagTo 3 0 1 3) w3 hr3 hic3 (by decide) (by decide) hb13.size (by omega) hs2 (fun i h1 h2=>by
  rcases (by omega:i=1∨i=2) with rfl|rfl <;> decide)).mono ?_
 rintro _ w4 ⟨v4,p4,rfl,hr4,hl4,hb4⟩
 have hb14:=hb13.trans hb4
 rw[hl2] at hl4
 have hp4:p4.length≤7:=by
  have h1:=congrArg List.length hl4
  rw[List.length_map] at h1
  have h2:=withL_len (qlsC 3 (qlsR 3 (([]:List (Value × List Int)).map Prod.snd) 3) 3) (diagTo 3 0 1 3)
  have h3:=congrArg List.length hl2
  rw[List.length_map] at h3
  omega
 have hs4:∀x,x∈p4→x.2.length≤256:=fun x hx=>by
  have h1:x.2∈p4.map Prod.snd:=List.mem_map.2 ⟨x,hx,rfl⟩
  rw[hl4,← hl2] at h1
  rcases withL_mem h1 with h2|h2
  ·obtain ⟨y,hy,e⟩:=List.mem_map.1 h2
   rw[← e];exact hs2 y hy
  ·rw[h2];decide
 go_wp2_with fail
 refine (HD2.out w4).mono ?_
 rintro _ w5 ⟨d2,rfl,hd2,hb5⟩
 obtain ⟨a5,c5,rfl⟩:=owns_slice4 hd2
 have hic5:IC w5 a5 3 (diagTo 3 2 (-1) 3):=(IC.of_owns (xs:=diagTo 3 2 (-1) 3) hd2 (by decide)).1
 have hr5:=hr4.keep ((Below.stays hb5 _).toL 0) (M':=fun _=>False) (fun _ e=>e.elim)
 have hb15:=hb14.trans (hb5.mono hb14.size)
 go_wp2_with fail
 refine (with_c W0.heap.size v4 p4 a5 3 c5 (diagTo 3 2 (-1) 3) w5 hr5 hic5 (by decide) (by decide) hb15.size (by omega) hs4 (fun i h1 h2=>by
  rcases (by omega:i=1∨i=2) with rfl|rfl <;> decide)).mono ?_
 rintro _ w6 ⟨v6,p6,rfl,hr6,hl6,hb6⟩
 have hb16:=hb15.trans hb6
 rw[hl4] at hl6
 have hp6:p6.length≤8:=by
  have h1:=congrArg List.length hl6
  rw[List.length_map] at h1
  have h2:=withL_len (withL (qlsC 3 (qlsR 3 (([]:List (Value × List Int)).map Prod.snd) 3) 3) (diagTo 3 0 1 3)) (diagTo 3 2 (-1) 3)
  have h3:=congrArg List.length hl4
  rw[List.length_map] at h3
  omega
 have hs6:∀x,x∈p6→x.2.length≤256:=fun x hx=>by
  have h1:x.2∈p6.map Prod.snd:=List.mem_map.2 ⟨x,hx,rfl⟩
  rw[hl6,← hl4] at h1
  rcases withL_mem h1 with h2|h2
  ·obtain ⟨y,hy,e⟩:=List.mem_map.1 h2
   rw[← e];exact hs4 y hy
  ·rw[h2];decide
 have HM:Hid (p6.map Prod.snd=magic3):=hl6
 obtain ⟨av,cv,rfl⟩:=owns_shape hr6.1
 have hq6:=keepq hb16 HQ.out
 have r0:w6.cell? ⟨w.heap.size,0,none⟩=some (.int .i64 0):=q_cell hq6 0
 have r1:w6.cell? ⟨w.heap.size,1,none⟩=some (.slice none 0 0):=q_cell hq6 1
 have rf0:=q_free hq6 0
 have rf1:=q_free hq6 1
 have HQ6:=Lib.hid hq6
 have HR6:=Lib.hid hr6
 clear hr6 hr5 hr4 hr3 hr2 hr1 hl1 hl2 hl4 hl6 hs1 hs2 hd1 hd2 hic3 hic5 hq6 HRO HCO HD1 HD2
 go_wp2_with fail
 have r:=q_set (i:=1) (q_set (i:=0) HQ6.out (.int .i64 9)) (.slice av p6.length cv)
 have z0:=q_cell r 0
 have z1:=q_cell r 1
 have hr9:=(HR6.out.setCell (b:=w.heap.size) (i:=0) hz0 (.int .i64 9)).setCell (b:=w.heap.size) (i:=1) hz0 (.slice av p6.length cv)
 refine bodyPost_ret (v := .tuple #[.agg #[.int .i64 9,.slice av p6.length cv],.int .i64 0]) ?_ rfl ⟨av,cv,p6,rfl,hr9.low (by omega),HM.out,hp6,hs6,((fB.trans (hb16.mono fB.size)).setCell (p:=⟨w.heap.size,0,none⟩) (Nat.le_refl _) _).setCell (p:=⟨w.heap.size,1,none⟩) (Nat.le_refl _) _⟩
 simp[results,Tryz.f125,go_sem,z0,z1]
end
section
open Go Go.RowKit
attribute [local go_sem] over_cell
attribute [local go_sem] Oper.semAt_some
end
section
open Go Go.RowKit
def ga:List Int:=[2,7,6,0,0,0,0,0,0]
def gc:List Int:=[2,7,6,0,5,0,0,0,0]
def gr:List Int:=[1,2,0,0,0,0,0,0,0]
def gn:List Int:=[2,0,6,0,0,0,0,0,0]
theorem m3_val:magic3=[[0,1,2],[3,4,5],[6,7,8],[0,3,6],[1,4,7],[2,5,8],[0,4,8],[2,4,6]]:=by decide +kernel
def m3:List (List Int):=[[0,1,2],[3,4,5],[6,7,8],[0,3,6],[1,4,7],[2,5,8],[0,4,8],[2,4,6]]
theorem ta:taskErr 9 m3 15 ga=0:=by decide +kernel
theorem sa:solsL m3 15 ga []=[[2,7,6,9,5,1,4,3,8]]:=by decide +kernel
theorem er:okTB m3 15 8 gr=true:=by decide +kernel
theorem cs:(stepR m3 15 (allM 9) (iterR m3 15 (allM 9) 60 (begL gc)).2).isNone=true:=by decide +kernel
theorem cl:(candL (allM 9) (iterR m3 15 (allM 9) 60 (begL gc)).2).length=9∧(candL (allM 9) (iterR m3 15 (allM 9) 60 (begL gc)).2)[3]?.getD []=[9]∧(candL (allM 9) (iterR m3 15 (allM 9) 60 (begL gc)).2)[8]?.getD []=[8]:=by decide +kernel
end
section
open Go Go.RowKit
theorem l0:lineOk m3 15 gr ⟨kLine,0,0,0,0⟩=true:=by unfold lineOk;decide +kernel
theorem l1:lineOk m3 15 gr ⟨kLine,0,1,0,0⟩=false:=by unfold lineOk;decide +kernel
end
section
open Go Go.RowKit
def Ta (w:World) (al:Option Addr) (nl cl:Nat) (ag:Option Addr) (cg:Nat) (g:List Int):Prop:=RC w al nl m3∧nl≤cl∧IC w ag 9 g∧9≤cg
theorem Ta.mono {w w':World} {al ag:Option Addr} {nl cl cg:Nat} {g:List Int} (h:Ta w al nl cl ag cg g) (hb:Below w.heap.size w w'):Ta w' al nl cl ag cg g:=⟨h.1.mono hb,h.2.1,h.2.2.1.mono hb,h.2.2.2⟩
theorem small_ga:smallErr 9 m3 15 ga=0:=by decide +kernel
section
variable (al:Option Addr) (nl cl:Nat) (ag:Option Addr) (cg:Nat) (w:World)
theorem unique_u (h:Ta w al nl cl ag cg ga):Calls Tryz.prog 30 #[.agg #[.int .i64 9,.slice al nl cl,.int .i64 15,.slice ag 9 cg]] w fun e w'=>∃ar nr cr,e = .returned (.tuple #[.slice ar nr cr,.int .i64 0])∧IC w' ar nr [2,7,6,9,5,1,4,3,8]∧Below w.heap.size w w':=by
 refine (unique_c al nl cl m3 9 15 ag 9 cg ga w h.1 h.2.1 h.2.2.1 h.2.2.2).mono ?_
 rintro _ w' ⟨ar,nr,cr,rfl,hi,_,hb⟩
 have ht:twoL m3 15 ga=[[2,7,6,9,5,1,4,3,8]]:=by unfold twoL;rw[sa];rfl
 have h1:uniqE 9 m3 15 ga=0:=by unfold uniqE;rw[small_ga,if_neg (by decide),ht];rfl
 have h2:uniqL 9 m3 15 ga=[2,7,6,9,5,1,4,3,8]:=by unfold uniqL;rw[small_ga,if_neg (by decide),ht];rfl
 rw[h2] at hi
 exact ⟨ar,nr,cr,by rw[h1],hi,hb⟩
end
end
section
open Go Go.RowKit
attribute [local go_sem] over_cell
attribute [local go_sem] Oper.semAt_some
theorem ic_blk {W:World} {b:Nat} {xs:List Int} {T:TypeId} (h:W.heap[b]?=some (.cells (xs.map (Value.int .i64)).toArray T (0,0))) (hn:xs.length≤17592186044416):IC W (some ⟨b,0,none⟩) xs.length xs :=
 ⟨⟨rfl,hn⟩,fun k hk=>⟨b,0,rfl,q_lt h,by
  rw[Nat.zero_add,q_cell h k]
  simp[hk]⟩⟩
end
end Go.Proofs.YtaadpihbjhachaaGreat
