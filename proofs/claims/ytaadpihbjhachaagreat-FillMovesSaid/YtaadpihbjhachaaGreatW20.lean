/- Texts M2 to M8 of this proof, in one file. -/
import Derived.Test.YtaadpihbjhachaaGreatW07
import Derived.Test.YtaadpihbjhachaaGreatW08
import Derived.Test.YtaadpihbjhachaaGreatW10
import Derived.Test.YtaadpihbjhachaaGreatW11
import Derived.Test.YtaadpihbjhachaaGreatW12
import Derived.Test.YtaadpihbjhachaaGreatW15
import Derived.Test.YtaadpihbjhachaaGreatW16
import Derived.Test.YtaadpihbjhachaaGreatW17
import Derived.Test.YtaadpihbjhachaaGreatW19
namespace Go.Proofs.YtaadpihbjhachaaGreat
set_option maxRecDepth 100000
set_option maxHeartbeats 16000000
section
open Go Go.RowKit
attribute [local go_sem] zv
attribute [local go_sem] Oper.semAt_some
theorem withL_len (ls:List (List Int)) (l:List Int):(withL ls l).length≤ls.length+1:=by
 unfold withL;split
 ·omega
 ·simp
theorem withL_mem {ls:List (List Int)} {l x:List Int} (h:x∈withL ls l):x∈ls∨x=l:=by
 unfold withL at h
 split at h
 ·exact .inl h
 ·rcases List.mem_append.1 h with h|h
  ·exact .inl h
  ·exact .inr (List.mem_singleton.1 h)
def qlR (n i j:Nat):List Int:=(List.range j).map fun (j:Nat)=>(n:Int)*i+j
theorem qlR_succ (n i j:Nat):qlR n i (j+1)=qlR n i j++[(n:Int)*i+j]:=by
 unfold qlR;rw[List.range_succ,List.map_append];rfl
theorem qlR_len (n i j:Nat):(qlR n i j).length=j:=by simp[qlR]
theorem qlR_get (n i m j:Nat) (h:j<m):(qlR n i m)[j]?.getD 0=(n:Int)*i+j:=by
 simp[qlR,h]
def qlsR (n:Nat) (ls:List (List Int)):Nat→List (List Int)
 | 0=>ls
 | i+1=>withL (qlsR n ls i) (qlR n i n)
theorem rows_c (L n:Nat) (v:Value) (pre:List (Value × List Int)) (w:World) (hrow:RowsI w (fun _=>False) L v pre) (hL:L≤w.heap.size) (h0:0<n) (hn:n≤16) (hp:pre.length≤500) (hpl:∀x,x∈pre→x.2.length≤256) :
  Calls Tryz.prog 189 #[v,.int .i64 n,.int .i64 n] w fun e w'=>∃v' pre',e = .returned v'∧RowsI w' (fun _=>False) L v' pre'∧pre'.map Prod.snd=qlsR n (pre.map Prod.snd) n∧pre'.length≤pre.length+n∧(∀x,x∈pre'→x.2.length≤256)∧Below L w w':=by
 obtain ⟨i0,hi,hz0,hz1,hz2⟩:=info_parts qk
 have HR:=za hrow
 clear hrow
 go_enter Tryz.func189,Tryz.ntmps189
 go_wp2_with fail
 go_loopg [0,7,8,9] n (fun gk lv iv _ _ wv=>∃(i:Nat) (pre':List (Value × List Int)),gk=n - i∧i≤n∧iv = .int .i64 i∧Hid (RowsI wv (fun _=>False) L lv pre')∧Hid (pre'.map Prod.snd=qlsR n (pre.map Prod.snd) i)∧pre'.length≤pre.length+i∧Hid (∀x,x∈pre'→x.2.length≤256)∧Below L w wv)
 case atStart=>exact ⟨0,pre,by omega,by omega,rfl,HR.out,rfl,by omega,hpl,Below.refl _ _⟩
 case round =>
  obtain ⟨i,pre',rfl,hin,rfl,hrw,hls,hlen,hsh,hbr⟩:=hrel
  have hszr:=hbr.size
  by_cases hlt:i<n
  ·have hii:(i:Int)<(n:Int):=by omega
   obtain ⟨B0,hB0⟩:∃B0,B0=wr.heap.size:=⟨_,rfl⟩
   go_wp2_with fail
   go_loopg [8,9] n (fun gk v jv wv=>∃(j:Nat),gk=n - j∧j≤n∧jv = .int .i64 j∧Hid (wv.ownsRow B0 3 1 v j ((qlR n i j).map (Value.int .i64)))∧Below wr.heap.size wr wv)
   case atStart=>exact ⟨0,by omega,by omega,rfl,World.ownsRow_nil _ _ _ _,Below.refl _ _⟩
   case round =>
    obtain ⟨j,rfl,hj,rfl,hown,hbj⟩:=hrel
    obtain ⟨a1,c1,rfl⟩:=zr (n:=j) (xs:=(qlR n i j).map (Value.int .i64)) (by simpa using hown.out)
    by_cases hltj:j<n
    ·have hji:(j:Int)<(n:Int):=by omega
     have h1:0≤(n:Int)*(i:Int)∧(n:Int)*(i:Int)≤256:=by
      constructor
      ·exact Int.mul_nonneg (by omega) (by omega)
      ·have:=Int.mul_le_mul (show (n:Int)≤16 by omega) (show (i:Int)≤16 by omega) (by omega) (by omega);omega
     have h2:0≤(n:Int)*(j:Int)∧(n:Int)*(j:Int)≤256:=by
      constructor
      ·exact Int.mul_nonneg (by omega) (by omega)
      ·have:=Int.mul_le_mul (show (n:Int)≤16 by omega) (show (j:Int)≤16 by omega) (by omega) (by omega);omega
     have hN:=za (qlR_succ n i j)
     have ho:=hown.out
     have hszj:=hbj.size
     go_wp2_with (first|(at_builtin;refine wpList_append_own _ rfl _ _ 25 rfl B0 3 i0 (.int .i64 0) 1 8 Tryz.underlying25 hi hz0 hz1 hz2 rfl (by decide) _ _ _ rfl (ho.alloc _) ⟨wr.heap.size,0,none⟩ 1 1 [.int .i64 ((n:Int)*i+j)] rfl rfl (cell_one_new _ _ _) (by simp[Value.oneCell']) (by unfold maxLen;omega) (by omega) (by simp;omega) ?_))
     intro v' w3 hown' hgrow _
     have HO3:Hid (w3.ownsRow B0 3 1 v' (j+1) ((qlR n i (j+1)).map (Value.int .i64))):=by unfold Hid;rw[hN.out,List.map_append,hB0];exact hown'
     have hB3:=hbj.trans ((jR hgrow).below (B:=B0) (by omega) (fun k e=>zL ho e) |>.mono (by omega))
     clear hown' hgrow ho
     go_wp2_with fail
     go_roundg (n - (j+1))
     case measure=>omega
     case rel=>exact ⟨j+1,rfl,by omega,by go_num,HO3.out,hB3⟩
    ·have e:j=n:=by omega
     subst e
     have ho:=hown.out
     have hic:IC wr a1 j (qlR j i j):=by
      have h9:(qlR j i j).length=j:=qlR_len j i j
      have h8:wr.ownsRow B0 3 1 (.slice a1 (qlR j i j).length c1) (qlR j i j).length ((qlR j i j).map (Value.int .i64)):=by rw[h9];exact ho
      have:=(IC.of_owns h8 (by omega)).1
      rw[h9] at this
      exact this
     have hrwj:=hrw.out.keep ((Below.stays hbj _).toL 0) (M':=fun _=>False) (fun _ e=>e.elim)
     have hzj:=hbj.size
     have HWI:=za (with_c L _ pre' a1 j c1 (qlR j i j) wr hrwj hic h0 (by omega) (by omega) (by omega) hsh.out (fun m h1 h2=>by
      rw[qlR_get j i j m h2,qlR_get j i j (m - 1) (by omega)]
      omega))
     clear ho hic hrwj
     go_wp2_with fail
     refine HWI.out.mono ?_
     rintro _ w7 ⟨v7,pre7,rfl,hrw7,hls7,hb7⟩
     have HR7:=za hrw7
     have HL7:Hid (pre7.map Prod.snd=qlsR j (pre.map Prod.snd) (i+1)):=by unfold Hid;rw[hls7,hls.out];rfl
     have hl7:pre7.length≤pre'.length+1:=by
      have h1:=congrArg List.length hls7
      rw[List.length_map] at h1
      have h2:=withL_len (pre'.map Prod.snd) (qlR j i j)
      rw[List.length_map] at h2
      omega
     have HS7:Hid (∀x,x∈pre7→x.2.length≤256):=fun x hx=>by
      have h1:x.2∈pre7.map Prod.snd:=List.mem_map.2 ⟨x,hx,rfl⟩
      rw[hls7] at h1
      rcases withL_mem h1 with h2|h2
      ·obtain ⟨y,hy,e⟩:=List.mem_map.1 h2
       rw[← e];exact hsh.out y hy
      ·rw[h2,qlR_len];omega
     have hB7:Below L w w7:=hbr.trans ((hbj.mono (by omega)).trans hb7)
     clear hrw7 hls7 HWI
     go_wp2_with fail
     go_roundg (j - (i+1))
     case measure=>omega
     case rel=>exact ⟨i+1,pre7,rfl,by omega,by go_num,HR7.out,HL7.out,by omega,HS7.out,hB7⟩
  ·have e:i=n:=by omega
   subst e
   go_wp2_with fail
   go_ret
   exact ⟨_,pre',rfl,hrw.out,hls.out,hlen,hsh.out,hbr⟩
def qlC (n i j:Nat):List Int:=(List.range j).map fun (j:Nat)=>(n:Int)*j+i
theorem qlC_succ (n i j:Nat):qlC n i (j+1)=qlC n i j++[(n:Int)*j+i]:=by
 unfold qlC;rw[List.range_succ,List.map_append];rfl
theorem qlC_len (n i j:Nat):(qlC n i j).length=j:=by simp[qlC]
theorem qlC_get (n i m j:Nat) (h:j<m):(qlC n i m)[j]?.getD 0=(n:Int)*j+i:=by
 simp[qlC,h]
def qlsC (n:Nat) (ls:List (List Int)):Nat→List (List Int)
 | 0=>ls
 | i+1=>withL (qlsC n ls i) (qlC n i n)
theorem columns_c (L n:Nat) (v:Value) (pre:List (Value × List Int)) (w:World) (hrow:RowsI w (fun _=>False) L v pre) (hL:L≤w.heap.size) (h0:0<n) (hn:n≤16) (hp:pre.length≤500) (hpl:∀x,x∈pre→x.2.length≤256) :
  Calls Tryz.prog 188 #[v,.int .i64 n,.int .i64 n] w fun e w'=>∃v' pre',e = .returned v'∧RowsI w' (fun _=>False) L v' pre'∧pre'.map Prod.snd=qlsC n (pre.map Prod.snd) n∧pre'.length≤pre.length+n∧(∀x,x∈pre'→x.2.length≤256)∧Below L w w':=by
 obtain ⟨i0,hi,hz0,hz1,hz2⟩:=info_parts qk
 have HR:=za hrow
 clear hrow
 go_enter Tryz.func188,Tryz.ntmps188
 go_wp2_with fail
 go_loopg [0,7,8,9] n (fun gk lv iv _ _ wv=>∃(i:Nat) (pre':List (Value × List Int)),gk=n - i∧i≤n∧iv = .int .i64 i∧Hid (RowsI wv (fun _=>False) L lv pre')∧Hid (pre'.map Prod.snd=qlsC n (pre.map Prod.snd) i)∧pre'.length≤pre.length+i∧Hid (∀x,x∈pre'→x.2.length≤256)∧Below L w wv)
 case atStart=>exact ⟨0,pre,by omega,by omega,rfl,HR.out,rfl,by omega,hpl,Below.refl _ _⟩
 case round =>
  obtain ⟨i,pre',rfl,hin,rfl,hrw,hls,hlen,hsh,hbr⟩:=hrel
  have hszr:=hbr.size
  by_cases hlt:i<n
  ·have hii:(i:Int)<(n:Int):=by omega
   obtain ⟨B0,hB0⟩:∃B0,B0=wr.heap.size:=⟨_,rfl⟩
   go_wp2_with fail
   go_loopg [8,9] n (fun gk v jv wv=>∃(j:Nat),gk=n - j∧j≤n∧jv = .int .i64 j∧Hid (wv.ownsRow B0 3 1 v j ((qlC n i j).map (Value.int .i64)))∧Below wr.heap.size wr wv)
   case atStart=>exact ⟨0,by omega,by omega,rfl,World.ownsRow_nil _ _ _ _,Below.refl _ _⟩
   case round =>
    obtain ⟨j,rfl,hj,rfl,hown,hbj⟩:=hrel
    obtain ⟨a1,c1,rfl⟩:=zr (n:=j) (xs:=(qlC n i j).map (Value.int .i64)) (by simpa using hown.out)
    by_cases hltj:j<n
    ·have hji:(j:Int)<(n:Int):=by omega
     have h1:0≤(n:Int)*(i:Int)∧(n:Int)*(i:Int)≤256:=by
      constructor
      ·exact Int.mul_nonneg (by omega) (by omega)
      ·have:=Int.mul_le_mul (show (n:Int)≤16 by omega) (show (i:Int)≤16 by omega) (by omega) (by omega);omega
     have h2:0≤(n:Int)*(j:Int)∧(n:Int)*(j:Int)≤256:=by
      constructor
      ·exact Int.mul_nonneg (by omega) (by omega)
      ·have:=Int.mul_le_mul (show (n:Int)≤16 by omega) (show (j:Int)≤16 by omega) (by omega) (by omega);omega
     have hN:=za (qlC_succ n i j)
     have ho:=hown.out
     have hszj:=hbj.size
     go_wp2_with (first|(at_builtin;refine wpList_append_own _ rfl _ _ 25 rfl B0 3 i0 (.int .i64 0) 1 8 Tryz.underlying25 hi hz0 hz1 hz2 rfl (by decide) _ _ _ rfl (ho.alloc _) ⟨wr.heap.size,0,none⟩ 1 1 [.int .i64 ((n:Int)*j+i)] rfl rfl (cell_one_new _ _ _) (by simp[Value.oneCell']) (by unfold maxLen;omega) (by omega) (by simp;omega) ?_))
     intro v' w3 hown' hgrow _
     have HO3:Hid (w3.ownsRow B0 3 1 v' (j+1) ((qlC n i (j+1)).map (Value.int .i64))):=by unfold Hid;rw[hN.out,List.map_append,hB0];exact hown'
     have hB3:=hbj.trans ((jR hgrow).below (B:=B0) (by omega) (fun k e=>zL ho e) |>.mono (by omega))
     clear hown' hgrow ho
     go_wp2_with fail
     go_roundg (n - (j+1))
     case measure=>omega
     case rel=>exact ⟨j+1,rfl,by omega,by go_num,HO3.out,hB3⟩
    ·have e:j=n:=by omega
     subst e
     have ho:=hown.out
     have hic:IC wr a1 j (qlC j i j):=by
      have h9:(qlC j i j).length=j:=qlC_len j i j
      have h8:wr.ownsRow B0 3 1 (.slice a1 (qlC j i j).length c1) (qlC j i j).length ((qlC j i j).map (Value.int .i64)):=by rw[h9];exact ho
      have:=(IC.of_owns h8 (by omega)).1
      rw[h9] at this
      exact this
     have hrwj:=hrw.out.keep ((Below.stays hbj _).toL 0) (M':=fun _=>False) (fun _ e=>e.elim)
     have hzj:=hbj.size
     have HWI:=za (with_c L _ pre' a1 j c1 (qlC j i j) wr hrwj hic h0 (by omega) (by omega) (by omega) hsh.out (fun m h1 h2=>by
      rw[qlC_get j i j m h2,qlC_get j i j (m - 1) (by omega)]
      have h5:((m - 1:Nat):Int)=(m:Int) - 1:=by omega
      rw[h5,Int.mul_sub,Int.mul_one]
      omega))
     clear ho hic hrwj
     go_wp2_with fail
     refine HWI.out.mono ?_
     rintro _ w7 ⟨v7,pre7,rfl,hrw7,hls7,hb7⟩
     have HR7:=za hrw7
     have HL7:Hid (pre7.map Prod.snd=qlsC j (pre.map Prod.snd) (i+1)):=by unfold Hid;rw[hls7,hls.out];rfl
     have hl7:pre7.length≤pre'.length+1:=by
      have h1:=congrArg List.length hls7
      rw[List.length_map] at h1
      have h2:=withL_len (pre'.map Prod.snd) (qlC j i j)
      rw[List.length_map] at h2
      omega
     have HS7:Hid (∀x,x∈pre7→x.2.length≤256):=fun x hx=>by
      have h1:x.2∈pre7.map Prod.snd:=List.mem_map.2 ⟨x,hx,rfl⟩
      rw[hls7] at h1
      rcases withL_mem h1 with h2|h2
      ·obtain ⟨y,hy,e⟩:=List.mem_map.1 h2
       rw[← e];exact hsh.out y hy
      ·rw[h2,qlC_len];omega
     have hB7:Below L w w7:=hbr.trans ((hbj.mono (by omega)).trans hb7)
     clear hrw7 hls7 HWI
     go_wp2_with fail
     go_roundg (j - (i+1))
     case measure=>omega
     case rel=>exact ⟨i+1,pre7,rfl,by omega,by go_num,HR7.out,HL7.out,by omega,HS7.out,hB7⟩
  ·have e:i=n:=by omega
   subst e
   go_wp2_with fail
   go_ret
   exact ⟨_,pre',rfl,hrw.out,hls.out,hlen,hsh.out,hbr⟩
end
section
open Go Go.RowKit
attribute [local go_sem] zv
attribute [local go_sem] Oper.semAt_some
theorem RowsI.low {W:World} {M:Nat→Prop} {L L':Nat} {v:Value} {pre:List (Value × List Int)} (h:RowsI W M L v pre) (hL:L'≤L):RowsI W M L' v pre :=
 ⟨zI h.1 hL,h.2.1,fun x hx=>⟨zI (h.2.2 x hx).1 hL,(h.2.2 x hx).2⟩⟩
def magic3:List (List Int):=withL (withL (qlsC 3 (qlsR 3 [] 3) 3) (qx 3 0 1 3)) (qx 3 2 (-1) 3)
theorem sqsys_c (w:World) :
  Calls Tryz.prog 125 #[.string ⟨#[109,97,103,105,99]⟩,.int .i64 3] w fun e w'=>∃al cl pre,e = .returned (.tuple #[.agg #[.int .i64 9,.slice al pre.length cl],.int .i64 0])∧RowsI w' (fun _=>False) w.heap.size (.slice al pre.length cl) pre∧pre.map Prod.snd=magic3∧pre.length≤8∧(∀x,x∈pre→x.2.length≤256)∧Below w.heap.size w w':=by
 have HRO:Hid (∀(L:Nat) (v:Value) (pre:List (Value × List Int)) (W:World),RowsI W (fun _=>False) L v pre→L≤W.heap.size→pre.length≤500→(∀x,x∈pre→x.2.length≤256)→Calls Tryz.prog 189 #[v,.int .i64 3,.int .i64 3] W fun e w'=>∃v' pre',e = .returned v'∧RowsI w' (fun _=>False) L v' pre'∧pre'.map Prod.snd=qlsR 3 (pre.map Prod.snd) 3∧pre'.length≤pre.length+3∧(∀x,x∈pre'→x.2.length≤256)∧Below L W w'):=fun L v pre W h1 h2 h3 h4=>rows_c L 3 v pre W h1 h2 (by decide) (by decide) h3 h4
 have HCO:Hid (∀(L:Nat) (v:Value) (pre:List (Value × List Int)) (W:World),RowsI W (fun _=>False) L v pre→L≤W.heap.size→pre.length≤500→(∀x,x∈pre→x.2.length≤256)→Calls Tryz.prog 188 #[v,.int .i64 3,.int .i64 3] W fun e w'=>∃v' pre',e = .returned v'∧RowsI w' (fun _=>False) L v' pre'∧pre'.map Prod.snd=qlsC 3 (pre.map Prod.snd) 3∧pre'.length≤pre.length+3∧(∀x,x∈pre'→x.2.length≤256)∧Below L W w'):=fun L v pre W h1 h2 h3 h4=>columns_c L 3 v pre W h1 h2 (by decide) (by decide) h3 h4
 have HD1:Hid (∀W,Calls Tryz.prog 191 #[.int .i64 3,.int .i64 0,.int .i64 1] W fun e w'=>∃v,e = .returned v∧w'.ownsRow W.heap.size 3 1 v 3 ((qx 3 0 1 3).map (Value.int .i64))∧Below W.heap.size W w'):=fun W=>diag_c 3 0 1 W (by decide) (by decide) (by decide) (by decide) (.inl rfl)
 have HD2:Hid (∀W,Calls Tryz.prog 191 #[.int .i64 3,.int .i64 2,.int .i64 (-1)] W fun e w'=>∃v,e = .returned v∧w'.ownsRow W.heap.size 3 1 v 3 ((qx 3 2 (-1) 3).map (Value.int .i64))∧Below W.heap.size W w'):=fun W=>diag_c 3 2 (-1) W (by decide) (by decide) (by decide) (by decide) (.inr rfl)
 go_enter Tryz.func125,Tryz.ntmps125
 go_wp2_with fail
 have fsz:(w.alloc (.cells #[.int .i64 0,.slice none 0 0] 24)).heap.size=w.heap.size+1:=by simp only[World.size_alloc]
 have fB:Below w.heap.size w (w.alloc (.cells #[.int .i64 0,.slice none 0 0] 24)):=(Below.refl _ _).alloc (Nat.le_refl _) _
 have fq0:(w.alloc (.cells #[.int .i64 0,.slice none 0 0] 24)).heap[w.heap.size]?=some (.cells #[.int .i64 0,.slice none 0 0] 24 (0,0)):=by have h:=World.alloc_heap_new w (.cells #[.int .i64 0,.slice none 0 0] 24);exact h
 generalize (w.alloc (.cells #[.int .i64 0,.slice none 0 0] 24))=W0 at fsz fB fq0 ⊢
 have HQ:=za fq0
 have hz0:w.heap.size<W0.heap.size:=by omega
 clear fq0 fsz
 refine (HRO.out W0.heap.size (.slice none 0 0) [] W0 (RowsI.nil _ _ _) (Nat.le_refl _) (by simp) (fun x hx=>absurd hx (by simp))).mono ?_
 rintro _ w1 ⟨v1,p1,rfl,hr1,hl1,hn1,hs1,hb1⟩
 go_wp2_with fail
 refine (HCO.out W0.heap.size v1 p1 w1 hr1 hb1.size (by simp at hn1;omega) hs1).mono ?_
 rintro _ w2 ⟨v2,p2,rfl,hr2,hl2,hn2,hs2,hb2⟩
 have hb12:=hb1.trans hb2
 rw[hl1] at hl2
 simp only[List.length_nil,Nat.zero_add] at hn1
 go_wp2_with fail
 refine (HD1.out w2).mono ?_
 rintro _ w3 ⟨d1,rfl,hd1,hb3⟩
 obtain ⟨a3,c3,rfl⟩:=zM hd1
 have hic3:IC w3 a3 3 (qx 3 0 1 3):=(IC.of_owns (xs:=qx 3 0 1 3) hd1 (by decide)).1
 have hr3:=hr2.keep ((Below.stays hb3 _).toL 0) (M':=fun _=>False) (fun _ e=>e.elim)
 have hb13:=hb12.trans (hb3.mono hb12.size)
 go_wp2_with fail
 refine (with_c W0.heap.size v2 p2 a3 3 c3 (qx 3 0 1 3) w3 hr3 hic3 (by decide) (by decide) hb13.size (by omega) hs2 (fun i h1 h2=>by
  rcases (by omega:i=1∨i=2) with rfl|rfl <;> decide)).mono ?_
 rintro _ w4 ⟨v4,p4,rfl,hr4,hl4,hb4⟩
 have hb14:=hb13.trans hb4
 rw[hl2] at hl4
 have hp4:p4.length≤7:=by
  have h1:=congrArg List.length hl4
  rw[List.length_map] at h1
  have h2:=withL_len (qlsC 3 (qlsR 3 (([]:List (Value × List Int)).map Prod.snd) 3) 3) (qx 3 0 1 3)
  have h3:=congrArg List.length hl2
  rw[List.length_map] at h3
  omega
 have hs4:∀x,x∈p4→x.2.length≤256:=fun x hx=>by
  have h1:x.2∈p4.map Prod.snd:=List.mem_map.2 ⟨x,hx,rfl⟩
  rw[hl4,← hl2] at h1
  rcases withL_mem h1 with h2|h2
  ·obtain ⟨y,hy,e⟩:=List.mem_map.1 h2
   rw[← e];exact hs2 y hy
  ·rw[h2];decide
 go_wp2_with fail
 refine (HD2.out w4).mono ?_
 rintro _ w5 ⟨d2,rfl,hd2,hb5⟩
 obtain ⟨a5,c5,rfl⟩:=zM hd2
 have hic5:IC w5 a5 3 (qx 3 2 (-1) 3):=(IC.of_owns (xs:=qx 3 2 (-1) 3) hd2 (by decide)).1
 have hr5:=hr4.keep ((Below.stays hb5 _).toL 0) (M':=fun _=>False) (fun _ e=>e.elim)
 have hb15:=hb14.trans (hb5.mono hb14.size)
 go_wp2_with fail
 refine (with_c W0.heap.size v4 p4 a5 3 c5 (qx 3 2 (-1) 3) w5 hr5 hic5 (by decide) (by decide) hb15.size (by omega) hs4 (fun i h1 h2=>by
  rcases (by omega:i=1∨i=2) with rfl|rfl <;> decide)).mono ?_
 rintro _ w6 ⟨v6,p6,rfl,hr6,hl6,hb6⟩
 have hb16:=hb15.trans hb6
 rw[hl4] at hl6
 have hp6:p6.length≤8:=by
  have h1:=congrArg List.length hl6
  rw[List.length_map] at h1
  have h2:=withL_len (withL (qlsC 3 (qlsR 3 (([]:List (Value × List Int)).map Prod.snd) 3) 3) (qx 3 0 1 3)) (qx 3 2 (-1) 3)
  have h3:=congrArg List.length hl4
  rw[List.length_map] at h3
  omega
 have hs6:∀x,x∈p6→x.2.length≤256:=fun x hx=>by
  have h1:x.2∈p6.map Prod.snd:=List.mem_map.2 ⟨x,hx,rfl⟩
  rw[hl6,← hl4] at h1
  rcases withL_mem h1 with h2|h2
  ·obtain ⟨y,hy,e⟩:=List.mem_map.1 h2
   rw[← e];exact hs4 y hy
  ·rw[h2];decide
 have HM:Hid (p6.map Prod.snd=magic3):=hl6
 obtain ⟨av,cv,rfl⟩:=zr hr6.1
 have hq6:=zm hb16 HQ.out
 have r0:w6.cell? ⟨w.heap.size,0,none⟩=some (.int .i64 0):=zc hq6 0
 have r1:w6.cell? ⟨w.heap.size,1,none⟩=some (.slice none 0 0):=zc hq6 1
 have rf0:=zo hq6 0
 have rf1:=zo hq6 1
 have HQ6:=za hq6
 have HR6:=za hr6
 clear hr6 hr5 hr4 hr3 hr2 hr1 hl1 hl2 hl4 hl6 hs1 hs2 hd1 hd2 hic3 hic5 hq6 HRO HCO HD1 HD2
 go_wp2_with fail
 have r:=zC (i:=1) (zC (i:=0) HQ6.out (.int .i64 9)) (.slice av p6.length cv)
 have z0:=zc r 0
 have z1:=zc r 1
 have hr9:=(HR6.out.setCell (b:=w.heap.size) (i:=0) hz0 (.int .i64 9)).setCell (b:=w.heap.size) (i:=1) hz0 (.slice av p6.length cv)
 refine bodyPost_ret (v := .tuple #[.agg #[.int .i64 9,.slice av p6.length cv],.int .i64 0]) ?_ rfl ⟨av,cv,p6,rfl,hr9.low (by omega),HM.out,hp6,hs6,((fB.trans (hb16.mono fB.size)).setCell (p:=⟨w.heap.size,0,none⟩) (Nat.le_refl _) _).setCell (p:=⟨w.heap.size,1,none⟩) (Nat.le_refl _) _⟩
 simp[results,Tryz.f125,go_sem,z0,z1]
end
section
open Go Go.RowKit
attribute [local go_sem] zv
attribute [local go_sem] Oper.semAt_some
theorem square_c (a:Option Addr) (n c:Nat) (g:List Int) (w:World) (h:IC w a n g) (h0:0<n) (hn:n≤256) :
  Calls Tryz.prog 52 #[.slice a n c] w fun e w'=>∃al nl cl ag cg,e = .returned (.agg #[.int .i64 9,.slice al nl cl,.int .i64 15,.slice ag n cg])∧RC w' al nl magic3∧nl≤cl∧IC w' ag n g∧n≤cg∧Below w.heap.size w w':=by
 obtain ⟨i0,hi,hz0,hz1,hz2⟩:=info_parts qk
 have H:=za h
 have hlen:=h.len
 obtain ⟨bl,ol,rfl,hbl,_⟩:=h.2 0 h0
 clear h
 go_enter Tryz.func52,Tryz.ntmps52
 go_wp2_with fail
 have fsz:(w.alloc (.cells #[.int .i64 0,.slice none 0 0,.int .i64 0,.slice none 0 0] 27)).heap.size=w.heap.size+1:=by simp only[World.size_alloc]
 have fB:Below w.heap.size w (w.alloc (.cells #[.int .i64 0,.slice none 0 0,.int .i64 0,.slice none 0 0] 27)):=(Below.refl _ _).alloc (Nat.le_refl _) _
 have fq0:(w.alloc (.cells #[.int .i64 0,.slice none 0 0,.int .i64 0,.slice none 0 0] 27)).heap[w.heap.size]?=some (.cells #[.int .i64 0,.slice none 0 0,.int .i64 0,.slice none 0 0] 27 (0,0)):=by have h:=World.alloc_heap_new w (.cells #[.int .i64 0,.slice none 0 0,.int .i64 0,.slice none 0 0] 27);exact h
 generalize (w.alloc (.cells #[.int .i64 0,.slice none 0 0,.int .i64 0,.slice none 0 0] 27))=W0 at fsz fB fq0 ⊢
 have HQ:=za fq0
 have fsz':w.heap.size<W0.heap.size:=by omega
 clear fq0 fsz
 refine (sqsys_c W0).mono ?_
 rintro _ w1 ⟨al,cl,pre,rfl,hrw1,hpm,hpl,hps,hb1⟩
 have HRW:=za hrw1
 have HPM:=za hpm
 obtain ⟨nl,hnl⟩:∃nl,pre.length=nl:=⟨_,rfl⟩
 rw[hnl]
 clear hrw1 hpm
 go_wp2_with fail
 have ksz:(w1.alloc (.cells #[.int .i64 9,.slice al nl cl] 24)).heap.size=w1.heap.size+1:=by simp only[World.size_alloc]
 have kB:Below w1.heap.size w1 (w1.alloc (.cells #[.int .i64 9,.slice al nl cl] 24)):=(Below.refl _ _).alloc (Nat.le_refl _) _
 have kq0:(w1.alloc (.cells #[.int .i64 9,.slice al nl cl] 24)).heap[w1.heap.size]?=some (.cells #[.int .i64 9,.slice al nl cl] 24 (0,0)):=by have h:=World.alloc_heap_new w1 (.cells #[.int .i64 9,.slice al nl cl] 24);exact h
 generalize (w1.alloc (.cells #[.int .i64 9,.slice al nl cl] 24))=W2 at ksz kB kq0 ⊢
 have ksz':w1.heap.size<W2.heap.size:=by omega
 have s0:W2.cell? ⟨w1.heap.size,0,none⟩=some (.int .i64 9):=zc kq0 0
 have s1:W2.cell? ⟨w1.heap.size,1,none⟩=some (.slice al nl cl):=zc kq0 1
 have hB2:Below w.heap.size w W2:=fB.trans ((hb1.trans (kB.mono hb1.size)).mono fB.size)
 have hq2:=zm kB (zm hb1 HQ.out)
 have HQ2:=za hq2
 have hic2:=H.out.mono hB2
 have HC:=za (hic2.cells (p:=⟨bl,ol,none⟩))
 have hbl2:bl<W2.heap.size:=Nat.lt_of_lt_of_le hbl hB2.size
 have hownE:((W2.alloc (.cells #[] 3)).drew).ownsRow W2.heap.size 3 1 (.slice (some ⟨W2.heap.size,0,none⟩) 0 0) 0 []:=⟨rfl,.inr ⟨W2.heap.size,0,#[],rfl,Nat.le_refl _,World.alloc_heap_new _ _,Nat.le_refl _,by unfold maxLen;omega,rfl,rfl⟩⟩
 have hBE:Below W2.heap.size W2 ((W2.alloc (.cells #[] 3)).drew):=((Below.refl _ _).alloc (Nat.le_refl _) _).drew
 have h2l:=zy hq2
 have HNW:Hid (∀j u,(g.map (Value.int .i64))[j]?=some u→((W2.alloc (.cells #[] 3)).drew).cell? ((⟨bl,ol,none⟩:Addr).add j)=some u):=fun j u hj=>by
  have h1:=HC.out j u hj
  rw[← h1]
  have hadd:((⟨bl,ol,none⟩:Addr).add j)=⟨bl,ol+j,none⟩:=by unfold Addr.add;split <;> simp_all
  rw[hadd]
  exact (zF hBE).1 _ _ hbl2
 clear kq0 ksz hq2 hic2
 refine qp (fun w'=>∃u,w'=over (W2) u) [2] [5] [(0,0),(1,1),(1,3),(0,4),(2,5)] (by kernel_rfl) (by kernel_rfl) (by exact ⟨_,zi (by repeat (first|assumption|exact Below.refl _ _|refine zd ?_|refine zg ?_ _|refine zb ?_ (by assumption)))⟩) ?_
 dsimp only[pickF,zG]
 repeat (first|(refine wpF_skip rfl (fun K hK=>?_);go_big_quiet_op;refine hK _ ?_;clear hK K)|(refine kc rfl rfl (fun K hK=>?_);go_big_quiet_op;refine hK _ ?_;clear hK K))
 refine wpF_end ?_
 dsimp only[zt,zG]
 repeat (first|(refine zu rfl (fun K hK=>?_);go_big_quiet_op;refine hK _ ?_;clear hK K)|(refine zp rfl rfl (fun K hK=>?_);go_big_quiet_op;refine hK _ ?_;clear hK K)|(refine zE ?_;go_wp2_with ((at_builtin;refine wpList_append_own _ rfl _ _ 25 rfl W2.heap.size 3 i0 (.int .i64 0) 1 8 Tryz.underlying25 hi hz0 hz1 hz2 rfl (by decide) _ _ _ rfl hownE ⟨bl,ol,none⟩ n c (g.map (Value.int .i64)) rfl (by rw[List.length_map];omega) HNW.out (by simp[Value.oneCell']) (by unfold maxLen;omega) (by omega) (by simp[World.drew]) ?_;intro v5 w5 hown5 hgrow _;obtain ⟨a5,c5,rfl⟩:=zM hown5;have hB5:Below W2.heap.size W2 w5:=hBE.grown hgrow (by simp[World.drew]) (fun k e=>by cases e;exact Nat.le_refl _);have HQ5:=za (zm hB5 HQ2.out);have r0:w5.cell? ⟨w.heap.size,0,none⟩=some (.int .i64 0):=zc HQ5.out 0;have r1:w5.cell? ⟨w.heap.size,1,none⟩=some (.slice none 0 0):=zc HQ5.out 1;have r2:w5.cell? ⟨w.heap.size,2,none⟩=some (.int .i64 0):=zc HQ5.out 2;have r3:w5.cell? ⟨w.heap.size,3,none⟩=some (.slice none 0 0):=zc HQ5.out 3;have rf0:=zo HQ5.out 0;have rf1:=zo HQ5.out 1;have rf2:=zo HQ5.out 2;have rf3:=zo HQ5.out 3;have rl:=zy HQ5.out));refine ⟨?_,?_⟩;focus (exact ⟨_,zi (by repeat (first|assumption|exact Below.refl _ _|refine zd ?_|refine zg ?_ _|refine zb ?_ (by assumption)))⟩)))
 refine zA _ _ _ rfl ?_
 dsimp only[List.map]
 go_wp2_with ((at_builtin;refine wpList_append_own _ rfl _ _ 25 rfl W2.heap.size 3 i0 (.int .i64 0) 1 8 Tryz.underlying25 hi hz0 hz1 hz2 rfl (by decide) _ _ _ rfl hownE ⟨bl,ol,none⟩ n c (g.map (Value.int .i64)) rfl (by rw[List.length_map];omega) HNW.out (by simp[Value.oneCell']) (by unfold maxLen;omega) (by omega) (by simp[World.drew]) ?_;intro v5 w5 hown5 hgrow _;obtain ⟨a5,c5,rfl⟩:=zM hown5;have hB5:Below W2.heap.size W2 w5:=hBE.grown hgrow (by simp[World.drew]) (fun k e=>by cases e;exact Nat.le_refl _);have HQ5:=za (zm hB5 HQ2.out);have r0:w5.cell? ⟨w.heap.size,0,none⟩=some (.int .i64 0):=zc HQ5.out 0;have r1:w5.cell? ⟨w.heap.size,1,none⟩=some (.slice none 0 0):=zc HQ5.out 1;have r2:w5.cell? ⟨w.heap.size,2,none⟩=some (.int .i64 0):=zc HQ5.out 2;have r3:w5.cell? ⟨w.heap.size,3,none⟩=some (.slice none 0 0):=zc HQ5.out 3;have rf0:=zo HQ5.out 0;have rf1:=zo HQ5.out 1;have rf2:=zo HQ5.out 2;have rf3:=zo HQ5.out 3;have rl:=zy HQ5.out))
 refine NoPanic.normal ?_
 have hown6:w5.ownsRow W2.heap.size 3 1 (.slice a5 n c5) n (g.map (Value.int .i64)):=by simpa using hown5
 have hB5w:=hB2.trans (hB5.mono hB2.size)
 have r:=zC (i:=3) (zC (i:=2) (zC (i:=1) (zC (i:=0) HQ5.out (.int .i64 9)) (.slice al nl cl)) (.int .i64 15)) (.slice a5 n c5)
 have z0:=zc r 0
 have z1:=zc r 1
 have z2:=zc r 2
 have z3:=zc r 3
 go_wp2_with fail
 have hrw5:RowsI w5 (fun _=>False) W0.heap.size (.slice al nl cl) pre:=by
  have:=HRW.out.keep ((Below.stays (kB.trans (hB5.mono kB.size)) _).toL 0) (M':=fun _=>False) (fun _ e=>e.elim)
  rw[hnl] at this
  exact this
 have hrw9:=(((hrw5.setCell (b:=w.heap.size) (i:=0) fsz' (.int .i64 9)).setCell (b:=w.heap.size) (i:=1) fsz' (.slice al nl cl)).setCell (b:=w.heap.size) (i:=2) fsz' (.int .i64 15)).setCell (b:=w.heap.size) (i:=3) fsz' (.slice a5 n c5)
 obtain ⟨av2,cv2,e2,hrc,hcv⟩:=hrw9.rc (by omega) (fun x hx=>by have:=hps x hx;omega)
 rw[hnl] at e2 hrc hcv
 cases e2
 rw[HPM.out] at hrc
 have hz2:=hB2.size
 have hw2:w.heap.size<W2.heap.size:=zy HQ2.out
 have hic9:IC ((((w5.setCell ⟨w.heap.size,0,none⟩ (.int .i64 9)).setCell ⟨w.heap.size,1,none⟩ (.slice al nl cl)).setCell ⟨w.heap.size,2,none⟩ (.int .i64 15)).setCell ⟨w.heap.size,3,none⟩ (.slice a5 n c5)) a5 n g∧n≤c5:=by
  have h7:w5.ownsRow W2.heap.size 3 1 (.slice a5 g.length c5) g.length (g.map (Value.int .i64)):=by rw[hlen];exact hown6
  have h8:=IC.of_owns (zw (w':=((((w5.setCell ⟨w.heap.size,0,none⟩ (.int .i64 9)).setCell ⟨w.heap.size,1,none⟩ (.slice al nl cl)).setCell ⟨w.heap.size,2,none⟩ (.int .i64 15)).setCell ⟨w.heap.size,3,none⟩ (.slice a5 n c5))) h7 (fun k e _=>by
   have h9:=zL h7 e
   exact (((Below.heap_setCell _ _ _ _ (by show k≠w.heap.size;omega)).trans (Below.heap_setCell _ _ _ _ (by show k≠w.heap.size;omega))).trans (Below.heap_setCell _ _ _ _ (by show k≠w.heap.size;omega))).trans (Below.heap_setCell _ _ _ _ (by show k≠w.heap.size;omega)))) (by omega)
  rw[hlen] at h8
  exact h8
 refine bodyPost_ret (v := .agg #[.int .i64 9,.slice al nl cl,.int .i64 15,.slice a5 n c5]) ?_ rfl ⟨al,nl,cl,a5,c5,rfl,hrc,hcv,hic9.1,hic9.2,(((hB5w.setCell (p:=⟨w.heap.size,0,none⟩) (Nat.le_refl _) _).setCell (p:=⟨w.heap.size,1,none⟩) (Nat.le_refl _) _).setCell (p:=⟨w.heap.size,2,none⟩) (Nat.le_refl _) _).setCell (p:=⟨w.heap.size,3,none⟩) (Nat.le_refl _) _⟩
 simp[results,Tryz.f52,go_sem,z0,z1,z2,z3]
end
section
open Go Go.RowKit
def ga:List Int:=[2,7,6,0,0,0,0,0,0]
def gc:List Int:=[2,7,6,0,5,0,0,0,0]
def gr:List Int:=[1,2,0,0,0,0,0,0,0]
def gn:List Int:=[2,0,6,0,0,0,0,0,0]
theorem m3_val:magic3=[[0,1,2],[3,4,5],[6,7,8],[0,3,6],[1,4,7],[2,5,8],[0,4,8],[2,4,6]]:=by decide +kernel
def m3:List (List Int):=[[0,1,2],[3,4,5],[6,7,8],[0,3,6],[1,4,7],[2,5,8],[0,4,8],[2,4,6]]
theorem ta:zx 9 m3 15 ga=0:=by decide +kernel
theorem tc:zx 9 m3 15 gc=0:=by decide +kernel
theorem tr:zx 9 m3 15 gr=0:=by decide +kernel
theorem ba:lowV [3,4,5] ga (zh ga)=8∧highV [3,4,5] ga (zh ga)=22:=by decide +kernel
theorem sa:jk m3 15 ga []=[[2,7,6,9,5,1,4,3,8]]:=by decide +kernel
theorem ca:kj m3 15 ga 3 []=([1,3,4],3,[],false):=by decide +kernel
theorem sn:(jk m3 15 gn []).length=1:=by decide +kernel
theorem sr:jk m3 15 gr []=[]:=by decide +kernel
theorem er:okTB m3 15 8 gr=true:=by decide +kernel
theorem lr:(ji m3 15 8 gr).length≤1000000000000∧0<(ji m3 15 8 gr).length:=by decide +kernel
theorem cs:(qS m3 15 (qy 9) (jh m3 15 (qy 9) 60 (begL gc)).2).isNone=true:=by decide +kernel
theorem cl:(candL (qy 9) (jh m3 15 (qy 9) 60 (begL gc)).2).length=9∧(candL (qy 9) (jh m3 15 (qy 9) 60 (begL gc)).2)[3]?.getD []=[9]∧(candL (qy 9) (jh m3 15 (qy 9) 60 (begL gc)).2)[8]?.getD []=[8]:=by decide +kernel
end
section
open Go Go.RowKit
theorem isK_self (k:ByteArray):isK k k=true:=by simp[isK]
theorem tree_val (i:Int):jD 9 [⟨kLine,0,i,0,0⟩]=0:=by
 have h:jx 9 ⟨kLine,0,i,0,0⟩=0:=by
  unfold jx qm
  rw[isK_self]
  rfl
 unfold jD
 rw[if_neg (by simp)]
 refine ju fun j hj=>?_
 have:j=0:=by simpa using hj
 subst this
 exact h
theorem proves_val (i:Int) (b:Bool) (h:jO m3 15 gr ⟨kLine,0,i,0,0⟩=b):qa m3 15 gr [⟨kLine,0,i,0,0⟩]=b:=by
 unfold qa
 simp only[List.length_cons,List.length_nil,jr,isK_self,if_true,h]
 cases b <;> rfl
theorem l0:jO m3 15 gr ⟨kLine,0,0,0,0⟩=true:=by unfold jO;decide +kernel
theorem l1:jO m3 15 gr ⟨kLine,0,1,0,0⟩=false:=by unfold jO;decide +kernel
theorem ref1_val:refErr 9 m3 15 gr [⟨kLine,0,1,0,0⟩]=19:=by
 unfold refErr
 rw[tr,if_neg (by simp),show gr.length=9 from rfl,tree_val,if_neg (by simp),proves_val 1 false l1]
 rfl
theorem ref0_val:refErr 9 m3 15 gr [⟨kLine,0,0,0,0⟩]=0:=by
 unfold refErr
 rw[tr,if_neg (by simp),show gr.length=9 from rfl,tree_val,if_neg (by simp),proves_val 0 true l0]
 rfl
end
section
open Go Go.RowKit
def Ta (w:World) (al:Option Addr) (nl cl:Nat) (ag:Option Addr) (cg:Nat) (g:List Int):Prop:=RC w al nl m3∧nl≤cl∧IC w ag 9 g∧9≤cg
theorem Ta.mono {w w':World} {al ag:Option Addr} {nl cl cg:Nat} {g:List Int} (h:Ta w al nl cl ag cg g) (hb:Below w.heap.size w w'):Ta w' al nl cl ag cg g:=⟨h.1.mono hb,h.2.1,h.2.2.1.mono hb,h.2.2.2⟩
theorem small_ga:zH 9 m3 15 ga=0:=by decide +kernel
theorem small_gr:zH 9 m3 15 gr=0:=by decide +kernel
theorem small_gn:zH 9 m3 15 gn=0:=by decide +kernel
theorem bE:bndE 9 m3 15 ga 1=0:=by decide +kernel
theorem sq_u (a:Option Addr) (c:Nat) (g:List Int) (w:World) (h:IC w a 9 g) :
  Calls Tryz.prog 52 #[.slice a 9 c] w fun e w'=>∃al nl cl ag cg,e = .returned (.agg #[.int .i64 9,.slice al nl cl,.int .i64 15,.slice ag 9 cg])∧Ta w' al nl cl ag cg g∧Below w.heap.size w w':=by
 refine (square_c a 9 c g w h (by decide) (by decide)).mono ?_
 rintro _ w' ⟨al,nl,cl,ag,cg,rfl,h1,h2,h3,h4,h5⟩
 rw[m3_val] at h1
 exact ⟨al,nl,cl,ag,cg,rfl,⟨h1,h2,h3,h4⟩,h5⟩
section
variable (al:Option Addr) (nl cl:Nat) (ag:Option Addr) (cg:Nat) (w:World)
theorem bounds_u (h:Ta w al nl cl ag cg ga):Calls Tryz.prog 53 #[.agg #[.int .i64 9,.slice al nl cl,.int .i64 15,.slice ag 9 cg],.int .i64 1] w fun e w'=>e = .returned (.tuple #[.int .i64 8,.int .i64 22,.int .i64 0])∧Below w.heap.size w w':=by
 refine (bnd_c al nl cl m3 9 15 ag 9 cg ga 1 w h.1 h.2.1 h.2.2.1 h.2.2.2).mono ?_
 rintro _ w' ⟨rfl,hb⟩
 refine ⟨?_,hb⟩
 have h1:bndLo 9 m3 15 ga 1=8:=by unfold bndLo;rw[bE,if_neg (by decide)];exact ba.1
 have h2:bndHi 9 m3 15 ga 1=22:=by unfold bndHi;rw[bE,if_neg (by decide)];exact ba.2
 rw[h1,h2,bE]
theorem unique_u (h:Ta w al nl cl ag cg ga):Calls Tryz.prog 30 #[.agg #[.int .i64 9,.slice al nl cl,.int .i64 15,.slice ag 9 cg]] w fun e w'=>∃ar nr cr,e = .returned (.tuple #[.slice ar nr cr,.int .i64 0])∧IC w' ar nr [2,7,6,9,5,1,4,3,8]∧Below w.heap.size w w':=by
 refine (unique_c al nl cl m3 9 15 ag 9 cg ga w h.1 h.2.1 h.2.2.1 h.2.2.2).mono ?_
 rintro _ w' ⟨ar,nr,cr,rfl,hi,_,hb⟩
 have ht:twoL m3 15 ga=[[2,7,6,9,5,1,4,3,8]]:=by unfold twoL;rw[sa];rfl
 have h1:uniqE 9 m3 15 ga=0:=by unfold uniqE;rw[small_ga,if_neg (by decide),ht];rfl
 have h2:uniqL 9 m3 15 ga=[2,7,6,9,5,1,4,3,8]:=by unfold uniqL;rw[small_ga,if_neg (by decide),ht];rfl
 rw[h2] at hi
 exact ⟨ar,nr,cr,by rw[h1],hi,hb⟩
theorem cand_u (h:Ta w al nl cl ag cg gc):Calls Tryz.prog 26 #[.agg #[.int .i64 9,.slice al nl cl,.int .i64 15,.slice ag 9 cg]] w fun e w'=>∃ar cr X,e = .returned (.tuple #[.slice ar 9 cr,.int .i64 0])∧RC w' ar 9 X∧X[3]?.getD []=[9]∧X[8]?.getD []=[8]∧Below w.heap.size w w':=by
 refine (cand_c al nl cl m3 9 15 ag 9 cg gc w h.1 h.2.1 h.2.2.1 h.2.2.2).mono ?_
 rintro _ w' ⟨ar,nr,cr,rfl,_,h2,_,hb⟩
 obtain ⟨k,hk,hrc⟩:=h2 tc
 have hu:=iterR_uniq hk (Option.isNone_iff_eq_none.1 cs)
 rw[hu] at hrc
 have hn:=hrc.len
 rw[Go.Proofs.YtaadpihbjhachaaGreat.cl.1] at hn
 subst hn
 exact ⟨ar,cr,_,by rw[tc],hrc,Go.Proofs.YtaadpihbjhachaaGreat.cl.2.1,Go.Proofs.YtaadpihbjhachaaGreat.cl.2.2,hb⟩
theorem cont_u (h:Ta w al nl cl ag cg ga):Calls Tryz.prog 54 #[.agg #[.int .i64 9,.slice al nl cl,.int .i64 15,.slice ag 9 cg],.agg #[.slice none 0 0,.int .i64 0,.bool false],.int .i64 3] w fun e w'=>∃ar nr cr v,e = .returned (.tuple #[.agg #[.slice ar nr cr,.int .i64 3,.bool false],v,.int .i64 0])∧IC w' ar nr [1,3,4]∧Below w.heap.size w w':=by
 have hst:stateE 9 m3 15 ga [] 0 false=0:=by decide +kernel
 refine (cont_c (qg ta) al nl cl ag 9 cg none 0 0 [] 0 3 w h.1 h.2.1 h.2.2.1 h.2.2.2 (IC.nil _) (by decide) hst (by decide) (by decide) (by decide) (by decide) (by decide +kernel)).mono ?_
 rintro _ w' ⟨ar,nr,cr,af,nf,cf,rfl,hi,_,_,_,hb⟩
 rw[ca] at hi ⊢
 exact ⟨ar,nr,cr,_,rfl,hi,hb⟩
theorem refute_u (h:Ta w al nl cl ag cg gr):Calls Tryz.prog 17 #[.agg #[.int .i64 9,.slice al nl cl,.int .i64 15,.slice ag 9 cg]] w fun e w'=>∃ar nr cr,e = .returned (.tuple #[.slice ar nr cr,.int .i64 0])∧0<nr∧nr≤4398046511104∧Below w.heap.size w w':=by
 have hE:refuteE 9 m3 15 gr=0:=by unfold refuteE;rw[small_gr,if_neg (by decide),sr];rfl
 refine (refute_c al nl cl m3 9 15 ag 9 cg gr 8 w h.1 h.2.1 h.2.2.1 h.2.2.2 (fun _=>⟨er,lr.1⟩)).mono ?_
 rintro _ w' ⟨ar,nr,cr,rfl,ht,_,hb⟩
 unfold refuteT at ht
 rw[hE,if_pos rfl] at ht
 have h1:=ht.1
 exact ⟨ar,nr,cr,by rw[hE],by have:=lr.2;omega,h1.2,hb⟩
theorem count_u (h:Ta w al nl cl ag cg gn):Calls Tryz.prog 14 #[.agg #[.int .i64 9,.slice al nl cl,.int .i64 15,.slice ag 9 cg]] w fun e w'=>e = .returned (.tuple #[.int .i64 1,.int .i64 0])∧Below w.heap.size w w':=by
 refine (count_c al nl cl m3 9 15 ag 9 cg gn w h.1 h.2.1 h.2.2.1 h.2.2.2).mono ?_
 rintro _ w' ⟨rfl,hb⟩
 refine ⟨?_,hb⟩
 have h1:countN 9 m3 15 gn=1:=by unfold countN;rw[small_gn,if_neg (by decide),sn];rfl
 have h2:countE 9 m3 15 gn=0:=by unfold countE;rw[small_gn,if_neg (by decide),sn];rfl
 rw[h1,h2]
theorem cr1_u (at':Option Addr) (ct:Nat) (h:Ta w al nl cl ag cg gr) (ht:TC w at' 1 [⟨kLine,0,1,0,0⟩]):Calls Tryz.prog 32 #[.agg #[.int .i64 9,.slice al nl cl,.int .i64 15,.slice ag 9 cg],.slice at' 1 ct] w fun e w'=>e = .returned (.int .i64 19)∧Below w.heap.size w w':=by
 refine (checkref_c al nl cl m3 9 15 ag 9 cg gr at' 1 ct _ w h.1 h.2.1 h.2.2.1 h.2.2.2 ht).mono ?_
 rintro _ w' ⟨rfl,hb⟩
 exact ⟨by rw[ref1_val],hb⟩
theorem cr0_u (at':Option Addr) (ct:Nat) (h:Ta w al nl cl ag cg gr) (ht:TC w at' 1 [⟨kLine,0,0,0,0⟩]):Calls Tryz.prog 32 #[.agg #[.int .i64 9,.slice al nl cl,.int .i64 15,.slice ag 9 cg],.slice at' 1 ct] w fun e w'=>e = .returned (.int .i64 0)∧Below w.heap.size w w':=by
 refine (checkref_c al nl cl m3 9 15 ag 9 cg gr at' 1 ct _ w h.1 h.2.1 h.2.2.1 h.2.2.2 ht).mono ?_
 rintro _ w' ⟨rfl,hb⟩
 exact ⟨by rw[ref0_val],hb⟩
end
end
section
open Go Go.RowKit
attribute [local go_sem] zv
attribute [local go_sem] Oper.semAt_some
theorem ic_blk {W:World} {b:Nat} {xs:List Int} {T:TypeId} (h:W.heap[b]?=some (.cells (xs.map (Value.int .i64)).toArray T (0,0))) (hn:xs.length≤17592186044416):IC W (some ⟨b,0,none⟩) xs.length xs :=
 ⟨⟨rfl,hn⟩,fun k hk=>⟨b,0,rfl,zy h,by
  rw[Nat.zero_add,zc h k]
  simp[hk]⟩⟩
theorem tc_blk {W:World} {b:Nat} {i:Int} (h:W.heap[b]?=some (.cells #[.string ⟨#[108,105,110,101]⟩,.int .i64 0,.int .i64 i,.int .i64 0,.int .i64 0] 104 (0,0))):TC W (some ⟨b,0,none⟩) 1 [⟨kLine,0,i,0,0⟩] :=
 ⟨⟨rfl,by omega⟩,fun k d hk=>by
  have hk0:k=0:=by
   rcases Nat.eq_zero_or_pos k with e|e
   ·exact e
   ·rw[List.getElem?_eq_none (by simp;omega)] at hk;cases hk
  subst hk0
  cases hk
  exact ⟨b,0,rfl,zy h,zc h 0,zc h 1,zc h 2,zc h 3,zc h 4⟩⟩
theorem awake_c (w:World):Calls Tryz.prog 11 #[] w fun e w'=>e = .returned (.bool true)∧Below w.heap.size w w':=by
 go_enter Tryz.func11,Tryz.ntmps11
 go_wp2_with fail
 have fsz:(w.alloc (.cells #[.int .i64 2,.int .i64 7,.int .i64 6,.int .i64 0,.int .i64 0,.int .i64 0,.int .i64 0,.int .i64 0,.int .i64 0] 3)).heap.size=w.heap.size+1:=by simp only[World.size_alloc]
 have fB:Below w.heap.size w (w.alloc (.cells #[.int .i64 2,.int .i64 7,.int .i64 6,.int .i64 0,.int .i64 0,.int .i64 0,.int .i64 0,.int .i64 0,.int .i64 0] 3)):=(Below.refl _ _).alloc (Nat.le_refl _) _
 have fq0:(w.alloc (.cells #[.int .i64 2,.int .i64 7,.int .i64 6,.int .i64 0,.int .i64 0,.int .i64 0,.int .i64 0,.int .i64 0,.int .i64 0] 3)).heap[w.heap.size]?=some (.cells #[.int .i64 2,.int .i64 7,.int .i64 6,.int .i64 0,.int .i64 0,.int .i64 0,.int .i64 0,.int .i64 0,.int .i64 0] 3 (0,0)):=by have h:=World.alloc_heap_new w (.cells #[.int .i64 2,.int .i64 7,.int .i64 6,.int .i64 0,.int .i64 0,.int .i64 0,.int .i64 0,.int .i64 0,.int .i64 0] 3);exact h
 generalize (w.alloc (.cells #[.int .i64 2,.int .i64 7,.int .i64 6,.int .i64 0,.int .i64 0,.int .i64 0,.int .i64 0,.int .i64 0,.int .i64 0] 3))=W0 at fsz fB fq0 ⊢
 have i0:IC W0 (some ⟨w.heap.size,0,none⟩) 9 ga:=ic_blk (xs:=ga) fq0 (by decide)
 refine (sq_u _ 9 ga W0 i0).mono ?_
 rintro _ w1 ⟨al,nl,cl,ag,cg,rfl,hta1,hb1⟩
 clear i0 fq0 fsz
 go_wp2_with fail
 have ksz:(w1.alloc (.cells #[.int .i64 9,.slice al nl cl,.int .i64 15,.slice ag 9 cg] 27)).heap.size=w1.heap.size+1:=by simp only[World.size_alloc]
 have kB:Below w1.heap.size w1 (w1.alloc (.cells #[.int .i64 9,.slice al nl cl,.int .i64 15,.slice ag 9 cg] 27)):=(Below.refl _ _).alloc (Nat.le_refl _) _
 have kq0:(w1.alloc (.cells #[.int .i64 9,.slice al nl cl,.int .i64 15,.slice ag 9 cg] 27)).heap[w1.heap.size]?=some (.cells #[.int .i64 9,.slice al nl cl,.int .i64 15,.slice ag 9 cg] 27 (0,0)):=by have h:=World.alloc_heap_new w1 (.cells #[.int .i64 9,.slice al nl cl,.int .i64 15,.slice ag 9 cg] 27);exact h
 generalize (w1.alloc (.cells #[.int .i64 9,.slice al nl cl,.int .i64 15,.slice ag 9 cg] 27))=W2 at ksz kB kq0 ⊢
 have hta2:=hta1.mono kB
 have HQ2:=za kq0
 clear kq0 ksz
 refine (bounds_u al nl cl ag cg W2 hta2).mono ?_
 rintro _ w3 ⟨rfl,hb3⟩
 have hta3:=hta2.mono hb3
 have HQ3:=za (zm hb3 HQ2.out)
 have x0:w3.cell? ⟨w1.heap.size,0,none⟩=some (.int .i64 9):=zc HQ3.out 0
 have x1:w3.cell? ⟨w1.heap.size,1,none⟩=some (.slice al nl cl):=zc HQ3.out 1
 have x2:w3.cell? ⟨w1.heap.size,2,none⟩=some (.int .i64 15):=zc HQ3.out 2
 have x3:w3.cell? ⟨w1.heap.size,3,none⟩=some (.slice ag 9 cg):=zc HQ3.out 3
 have xl:=zy HQ3.out
 go_wp2_with fail
 refine (unique_u al nl cl ag cg w3 hta3).mono ?_
 rintro _ w4 ⟨a4,n4,c4,rfl,hic4,hb4⟩
 clear x0 x1 x2 x3 xl
 go_wp2_with fail
 have msz:(w4.alloc (.cells #[.int .i64 2,.int .i64 7,.int .i64 6,.int .i64 0,.int .i64 5,.int .i64 0,.int .i64 0,.int .i64 0,.int .i64 0] 3)).heap.size=w4.heap.size+1:=by simp only[World.size_alloc]
 have mB:Below w4.heap.size w4 (w4.alloc (.cells #[.int .i64 2,.int .i64 7,.int .i64 6,.int .i64 0,.int .i64 5,.int .i64 0,.int .i64 0,.int .i64 0,.int .i64 0] 3)):=(Below.refl _ _).alloc (Nat.le_refl _) _
 have mq0:(w4.alloc (.cells #[.int .i64 2,.int .i64 7,.int .i64 6,.int .i64 0,.int .i64 5,.int .i64 0,.int .i64 0,.int .i64 0,.int .i64 0] 3)).heap[w4.heap.size]?=some (.cells #[.int .i64 2,.int .i64 7,.int .i64 6,.int .i64 0,.int .i64 5,.int .i64 0,.int .i64 0,.int .i64 0,.int .i64 0] 3 (0,0)):=by have h:=World.alloc_heap_new w4 (.cells #[.int .i64 2,.int .i64 7,.int .i64 6,.int .i64 0,.int .i64 5,.int .i64 0,.int .i64 0,.int .i64 0,.int .i64 0] 3);exact h
 generalize (w4.alloc (.cells #[.int .i64 2,.int .i64 7,.int .i64 6,.int .i64 0,.int .i64 5,.int .i64 0,.int .i64 0,.int .i64 0,.int .i64 0] 3))=W5 at msz mB mq0 ⊢
 have i5:IC W5 (some ⟨w4.heap.size,0,none⟩) 9 gc:=ic_blk (xs:=gc) mq0 (by decide)
 clear mq0 msz
 refine (sq_u _ 9 gc W5 i5).mono ?_
 rintro _ w6 ⟨al2,nl2,cl2,ag2,cg2,rfl,hta6,hb6⟩
 go_wp2_with fail
 refine (cand_u al2 nl2 cl2 ag2 cg2 w6 hta6).mono ?_
 rintro _ w7 ⟨a7,c7,X,rfl,hrc7,hX3,hX8,hb7⟩
 have hb47:Below w4.heap.size w4 w7:=zb (zb mB hb6) hb7
 have hb37:=zb hb4 hb47
 have HQ7:=za (zm hb37 HQ3.out)
 have hta7:=hta3.mono hb37
 clear hta6 i5
 have x0:w7.cell? ⟨w1.heap.size,0,none⟩=some (.int .i64 9):=zc HQ7.out 0
 have x1:w7.cell? ⟨w1.heap.size,1,none⟩=some (.slice al nl cl):=zc HQ7.out 1
 have x2:w7.cell? ⟨w1.heap.size,2,none⟩=some (.int .i64 15):=zc HQ7.out 2
 have x3:w7.cell? ⟨w1.heap.size,3,none⟩=some (.slice ag 9 cg):=zc HQ7.out 3
 have xl:=zy HQ7.out
 go_wp2_with fail
 refine (cont_u al nl cl ag cg w7 hta7).mono ?_
 rintro _ w8 ⟨a8,n8,c8,v8,rfl,hic8,hb8⟩
 clear x0 x1 x2 x3 xl
 go_wp2_with fail
 have psz:((w8.alloc (.cells #[.slice a8 n8 c8,.int .i64 3,.bool false] 98)).alloc (.cells #[.int .i64 1,.int .i64 2,.int .i64 0,.int .i64 0,.int .i64 0,.int .i64 0,.int .i64 0,.int .i64 0,.int .i64 0] 3)).heap.size=w8.heap.size+2:=by simp only[World.size_alloc] <;> omega
 have pB:Below w8.heap.size w8 ((w8.alloc (.cells #[.slice a8 n8 c8,.int .i64 3,.bool false] 98)).alloc (.cells #[.int .i64 1,.int .i64 2,.int .i64 0,.int .i64 0,.int .i64 0,.int .i64 0,.int .i64 0,.int .i64 0,.int .i64 0] 3)):=((Below.refl _ _).alloc (Nat.le_refl _) _).alloc (by simp only[World.size_alloc];omega) _
 have pq0:((w8.alloc (.cells #[.slice a8 n8 c8,.int .i64 3,.bool false] 98)).alloc (.cells #[.int .i64 1,.int .i64 2,.int .i64 0,.int .i64 0,.int .i64 0,.int .i64 0,.int .i64 0,.int .i64 0,.int .i64 0] 3)).heap[w8.heap.size]?=some (.cells #[.slice a8 n8 c8,.int .i64 3,.bool false] 98 (0,0)):=by have h:=World.alloc_heap_new w8 (.cells #[.slice a8 n8 c8,.int .i64 3,.bool false] 98);exact (Below.heap_alloc _ _ _ (by simp only[World.size_alloc];omega)).trans (h)
 have pq1:((w8.alloc (.cells #[.slice a8 n8 c8,.int .i64 3,.bool false] 98)).alloc (.cells #[.int .i64 1,.int .i64 2,.int .i64 0,.int .i64 0,.int .i64 0,.int .i64 0,.int .i64 0,.int .i64 0,.int .i64 0] 3)).heap[w8.heap.size+1]?=some (.cells #[.int .i64 1,.int .i64 2,.int .i64 0,.int .i64 0,.int .i64 0,.int .i64 0,.int .i64 0,.int .i64 0,.int .i64 0] 3 (0,0)):=by have h:=World.alloc_heap_new (w8.alloc (.cells #[.slice a8 n8 c8,.int .i64 3,.bool false] 98)) (.cells #[.int .i64 1,.int .i64 2,.int .i64 0,.int .i64 0,.int .i64 0,.int .i64 0,.int .i64 0,.int .i64 0,.int .i64 0] 3);simp only[World.size_alloc] at h;exact h
 generalize ((w8.alloc (.cells #[.slice a8 n8 c8,.int .i64 3,.bool false] 98)).alloc (.cells #[.int .i64 1,.int .i64 2,.int .i64 0,.int .i64 0,.int .i64 0,.int .i64 0,.int .i64 0,.int .i64 0,.int .i64 0] 3))=W9 at psz pB pq0 pq1 ⊢
 have i9:IC W9 (some ⟨w8.heap.size+1,0,none⟩) 9 gr:=ic_blk (xs:=gr) pq1 (by decide)
 have HS9:=za pq0
 clear pq0 pq1 psz
 refine (sq_u _ 9 gr W9 i9).mono ?_
 rintro _ w10 ⟨al3,nl3,cl3,ag3,cg3,rfl,hta10,hb10⟩
 go_wp2_with fail
 refine (refute_u al3 nl3 cl3 ag3 cg3 w10 hta10).mono ?_
 rintro _ w11 ⟨a11,n11,c11,rfl,hn11,hm11,hb11⟩
 clear hta10 i9
 go_wp2_with fail
 have rsz:(w11.alloc (.cells #[.int .i64 2,.int .i64 0,.int .i64 6,.int .i64 0,.int .i64 0,.int .i64 0,.int .i64 0,.int .i64 0,.int .i64 0] 3)).heap.size=w11.heap.size+1:=by simp only[World.size_alloc]
 have rB:Below w11.heap.size w11 (w11.alloc (.cells #[.int .i64 2,.int .i64 0,.int .i64 6,.int .i64 0,.int .i64 0,.int .i64 0,.int .i64 0,.int .i64 0,.int .i64 0] 3)):=(Below.refl _ _).alloc (Nat.le_refl _) _
 have rq0:(w11.alloc (.cells #[.int .i64 2,.int .i64 0,.int .i64 6,.int .i64 0,.int .i64 0,.int .i64 0,.int .i64 0,.int .i64 0,.int .i64 0] 3)).heap[w11.heap.size]?=some (.cells #[.int .i64 2,.int .i64 0,.int .i64 6,.int .i64 0,.int .i64 0,.int .i64 0,.int .i64 0,.int .i64 0,.int .i64 0] 3 (0,0)):=by have h:=World.alloc_heap_new w11 (.cells #[.int .i64 2,.int .i64 0,.int .i64 6,.int .i64 0,.int .i64 0,.int .i64 0,.int .i64 0,.int .i64 0,.int .i64 0] 3);exact h
 generalize (w11.alloc (.cells #[.int .i64 2,.int .i64 0,.int .i64 6,.int .i64 0,.int .i64 0,.int .i64 0,.int .i64 0,.int .i64 0,.int .i64 0] 3))=W12 at rsz rB rq0 ⊢
 have i12:IC W12 (some ⟨w11.heap.size,0,none⟩) 9 gn:=ic_blk (xs:=gn) rq0 (by decide)
 clear rq0 rsz
 refine (sq_u _ 9 gn W12 i12).mono ?_
 rintro _ w13 ⟨al4,nl4,cl4,ag4,cg4,rfl,hta13,hb13⟩
 go_wp2_with fail
 refine (count_u al4 nl4 cl4 ag4 cg4 w13 hta13).mono ?_
 rintro _ w14 ⟨rfl,hb14⟩
 clear hta13 i12
 have hb9_14:Below W9.heap.size W9 w14:=zb (zb (zb (zb hb10 hb11) rB) hb13) hb14
 have hb8_14:=zb pB hb9_14
 have hb7_14:=zb hb8 hb8_14
 have hb4_14:=zb hb47 hb7_14
 have hic4':=hic4.mono hb4_14
 have hic8':=hic8.mono hb8_14
 have hrc7':=hrc7.mono hb7_14
 have HS14:=za (zm hb9_14 HS9.out)
 have hn0:(((n11:Nat):Int)==0)=false:=beq_eq_false_iff_ne.2 (by omega)
 have HSM1:Hid (∀(W:World) (b:Nat) (_:IC W a4 n4 [2,7,6,9,5,1,4,3,8]) (_:IC W (some ⟨b,0,none⟩) 9 [2,7,6,9,5,1,4,3,8]),Calls Tryz.prog 31 #[.slice a4 n4 c4,.slice (some ⟨b,0,none⟩) 9 9] W fun e w'=>e = .returned (.bool true)∧Below W.heap.size W w'):=fun W b h1 h2=>by
  have:=same_c a4 (some ⟨b,0,none⟩) n4 9 c4 9 _ _ W h1 h2
  rw[show qH [2,7,6,9,5,1,4,3,8] [2,7,6,9,5,1,4,3,8]=true from by decide] at this
  exact this
 have HSS:Hid (∀(W:World) (b:Nat) (_:IC W a8 n8 [1,3,4]) (_:IC W (some ⟨b,0,none⟩) 3 [1,3,4]),Calls Tryz.prog 55 #[.agg #[.slice a8 n8 c8,.int .i64 3,.bool false],.agg #[.slice (some ⟨b,0,none⟩) 3 3,.int .i64 3,.bool false]] W fun e w'=>e = .returned (.bool true)∧Below W.heap.size W w'):=fun W b h1 h2=>by
  have:=samest_c a8 n8 c8 _ 3 false (some ⟨b,0,none⟩) 3 3 _ 3 false W h1 h2
  rw[show sameSt [1,3,4] [1,3,4] 3 3 false false=true from by decide] at this
  exact this
 have HS1:Hid (∀(W:World) (b:Nat) (x:Int) (a':Option Addr) (n' c':Nat) (_:IC W a' n' [x]) (_:IC W (some ⟨b,0,none⟩) 1 [x]),Calls Tryz.prog 31 #[.slice a' n' c',.slice (some ⟨b,0,none⟩) 1 1] W fun e w'=>e = .returned (.bool true)∧Below W.heap.size W w'):=fun W b x a' n' c' h1 h2=>by
  have:=same_c a' (some ⟨b,0,none⟩) n' 1 c' 1 _ _ W h1 h2
  rw[show qH [x] [x]=true from by simp[qH]] at this
  exact this
 go_wp2_with fail
 have ssz:(w14.alloc (.cells #[.int .i64 2,.int .i64 7,.int .i64 6,.int .i64 9,.int .i64 5,.int .i64 1,.int .i64 4,.int .i64 3,.int .i64 8] 3)).heap.size=w14.heap.size+1:=by simp only[World.size_alloc]
 have sB:Below w14.heap.size w14 (w14.alloc (.cells #[.int .i64 2,.int .i64 7,.int .i64 6,.int .i64 9,.int .i64 5,.int .i64 1,.int .i64 4,.int .i64 3,.int .i64 8] 3)):=(Below.refl _ _).alloc (Nat.le_refl _) _
 have sq0:(w14.alloc (.cells #[.int .i64 2,.int .i64 7,.int .i64 6,.int .i64 9,.int .i64 5,.int .i64 1,.int .i64 4,.int .i64 3,.int .i64 8] 3)).heap[w14.heap.size]?=some (.cells #[.int .i64 2,.int .i64 7,.int .i64 6,.int .i64 9,.int .i64 5,.int .i64 1,.int .i64 4,.int .i64 3,.int .i64 8] 3 (0,0)):=by have h:=World.alloc_heap_new w14 (.cells #[.int .i64 2,.int .i64 7,.int .i64 6,.int .i64 9,.int .i64 5,.int .i64 1,.int .i64 4,.int .i64 3,.int .i64 8] 3);exact h
 generalize (w14.alloc (.cells #[.int .i64 2,.int .i64 7,.int .i64 6,.int .i64 9,.int .i64 5,.int .i64 1,.int .i64 4,.int .i64 3,.int .i64 8] 3))=W15 at ssz sB sq0 ⊢
 have i15:IC W15 (some ⟨w14.heap.size,0,none⟩) 9 [2,7,6,9,5,1,4,3,8]:=ic_blk (xs:=[2,7,6,9,5,1,4,3,8]) sq0 (by decide)
 clear sq0 ssz
 refine (HSM1.out W15 _ (hic4'.mono sB) i15).mono ?_
 rintro _ w16 ⟨rfl,hb16⟩
 have hb14_16:=zb sB hb16
 have HS16:=za (zm hb14_16 HS14.out)
 have z0:w16.cell? ⟨w8.heap.size,0,none⟩=some (.slice a8 n8 c8):=zc HS16.out 0
 have z1:w16.cell? ⟨w8.heap.size,1,none⟩=some (.int .i64 3):=zc HS16.out 1
 have z2:w16.cell? ⟨w8.heap.size,2,none⟩=some (.bool false):=zc HS16.out 2
 have zl:=zy HS16.out
 clear i15
 go_wp2_with fail
 have tsz:(w16.alloc (.cells #[.int .i64 1,.int .i64 3,.int .i64 4] 3)).heap.size=w16.heap.size+1:=by simp only[World.size_alloc]
 have tB:Below w16.heap.size w16 (w16.alloc (.cells #[.int .i64 1,.int .i64 3,.int .i64 4] 3)):=(Below.refl _ _).alloc (Nat.le_refl _) _
 have tq0:(w16.alloc (.cells #[.int .i64 1,.int .i64 3,.int .i64 4] 3)).heap[w16.heap.size]?=some (.cells #[.int .i64 1,.int .i64 3,.int .i64 4] 3 (0,0)):=by have h:=World.alloc_heap_new w16 (.cells #[.int .i64 1,.int .i64 3,.int .i64 4] 3);exact h
 generalize (w16.alloc (.cells #[.int .i64 1,.int .i64 3,.int .i64 4] 3))=W17 at tsz tB tq0 ⊢
 have i17:IC W17 (some ⟨w16.heap.size,0,none⟩) 3 [1,3,4]:=ic_blk (xs:=[1,3,4]) tq0 (by decide)
 clear tq0 tsz z0 z1 z2 zl
 refine (HSS.out W17 _ ((hic8'.mono hb14_16).mono tB) i17).mono ?_
 rintro _ w18 ⟨rfl,hb18⟩
 have hb14_18:=zb (zb hb14_16 tB) hb18
 have hrc18:=hrc7'.mono hb14_18
 obtain ⟨b7,o7,a3',n3',c3',rfl,hb7l,hc3,hi3,_⟩:=hrc18.2 3 (by decide)
 rw[hX3] at hi3
 clear i17
 go_wp2_with fail
 have usz:(w18.alloc (.cells #[.int .i64 9] 3)).heap.size=w18.heap.size+1:=by simp only[World.size_alloc]
 have uB:Below w18.heap.size w18 (w18.alloc (.cells #[.int .i64 9] 3)):=(Below.refl _ _).alloc (Nat.le_refl _) _
 have uq0:(w18.alloc (.cells #[.int .i64 9] 3)).heap[w18.heap.size]?=some (.cells #[.int .i64 9] 3 (0,0)):=by have h:=World.alloc_heap_new w18 (.cells #[.int .i64 9] 3);exact h
 generalize (w18.alloc (.cells #[.int .i64 9] 3))=W19 at usz uB uq0 ⊢
 have i19:IC W19 (some ⟨w18.heap.size,0,none⟩) 1 [9]:=ic_blk (xs:=[9]) uq0 (by decide)
 clear uq0 usz hc3
 refine (HS1.out W19 _ 9 _ _ _ (hi3.mono uB) i19).mono ?_
 rintro _ w20 ⟨rfl,hb20⟩
 have hb18_20:=zb uB hb20
 have hrc20:=hrc18.mono hb18_20
 obtain ⟨b9,o9,a9',n9',c9',e9,hb9l,hc9,hi9,_⟩:=hrc20.2 8 (by decide)
 cases e9
 rw[hX8] at hi9
 clear i19
 go_wp2_with fail
 have vsz:(w20.alloc (.cells #[.int .i64 8] 3)).heap.size=w20.heap.size+1:=by simp only[World.size_alloc]
 have vB:Below w20.heap.size w20 (w20.alloc (.cells #[.int .i64 8] 3)):=(Below.refl _ _).alloc (Nat.le_refl _) _
 have vq0:(w20.alloc (.cells #[.int .i64 8] 3)).heap[w20.heap.size]?=some (.cells #[.int .i64 8] 3 (0,0)):=by have h:=World.alloc_heap_new w20 (.cells #[.int .i64 8] 3);exact h
 generalize (w20.alloc (.cells #[.int .i64 8] 3))=W21 at vsz vB vq0 ⊢
 have i21:IC W21 (some ⟨w20.heap.size,0,none⟩) 1 [8]:=ic_blk (xs:=[8]) vq0 (by decide)
 clear vq0 vsz hc9
 refine (HS1.out W21 _ 8 _ _ _ (hi9.mono vB) i21).mono ?_
 rintro _ w22 ⟨rfl,hb22⟩
 clear i21
 go_wp2_with fail
 have ysz:(w22.alloc (.cells #[.int .i64 1,.int .i64 2,.int .i64 0,.int .i64 0,.int .i64 0,.int .i64 0,.int .i64 0,.int .i64 0,.int .i64 0] 3)).heap.size=w22.heap.size+1:=by simp only[World.size_alloc]
 have yB:Below w22.heap.size w22 (w22.alloc (.cells #[.int .i64 1,.int .i64 2,.int .i64 0,.int .i64 0,.int .i64 0,.int .i64 0,.int .i64 0,.int .i64 0,.int .i64 0] 3)):=(Below.refl _ _).alloc (Nat.le_refl _) _
 have yq0:(w22.alloc (.cells #[.int .i64 1,.int .i64 2,.int .i64 0,.int .i64 0,.int .i64 0,.int .i64 0,.int .i64 0,.int .i64 0,.int .i64 0] 3)).heap[w22.heap.size]?=some (.cells #[.int .i64 1,.int .i64 2,.int .i64 0,.int .i64 0,.int .i64 0,.int .i64 0,.int .i64 0,.int .i64 0,.int .i64 0] 3 (0,0)):=by have h:=World.alloc_heap_new w22 (.cells #[.int .i64 1,.int .i64 2,.int .i64 0,.int .i64 0,.int .i64 0,.int .i64 0,.int .i64 0,.int .i64 0,.int .i64 0] 3);exact h
 generalize (w22.alloc (.cells #[.int .i64 1,.int .i64 2,.int .i64 0,.int .i64 0,.int .i64 0,.int .i64 0,.int .i64 0,.int .i64 0,.int .i64 0] 3))=W23 at ysz yB yq0 ⊢
 have i23:IC W23 (some ⟨w22.heap.size,0,none⟩) 9 gr:=ic_blk (xs:=gr) yq0 (by decide)
 clear yq0 ysz
 refine (sq_u _ 9 gr W23 i23).mono ?_
 rintro _ w24 ⟨al5,nl5,cl5,ag5,cg5,rfl,hta24,hb24⟩
 clear i23
 go_wp2_with fail
 have zsz:(w24.alloc (.cells #[.string ⟨#[108,105,110,101]⟩,.int .i64 0,.int .i64 1,.int .i64 0,.int .i64 0] 104)).heap.size=w24.heap.size+1:=by simp only[World.size_alloc]
 have zB:Below w24.heap.size w24 (w24.alloc (.cells #[.string ⟨#[108,105,110,101]⟩,.int .i64 0,.int .i64 1,.int .i64 0,.int .i64 0] 104)):=(Below.refl _ _).alloc (Nat.le_refl _) _
 have zq0:(w24.alloc (.cells #[.string ⟨#[108,105,110,101]⟩,.int .i64 0,.int .i64 1,.int .i64 0,.int .i64 0] 104)).heap[w24.heap.size]?=some (.cells #[.string ⟨#[108,105,110,101]⟩,.int .i64 0,.int .i64 1,.int .i64 0,.int .i64 0] 104 (0,0)):=by have h:=World.alloc_heap_new w24 (.cells #[.string ⟨#[108,105,110,101]⟩,.int .i64 0,.int .i64 1,.int .i64 0,.int .i64 0] 104);exact h
 generalize (w24.alloc (.cells #[.string ⟨#[108,105,110,101]⟩,.int .i64 0,.int .i64 1,.int .i64 0,.int .i64 0] 104))=W25 at zsz zB zq0 ⊢
 refine (cr1_u al5 nl5 cl5 ag5 cg5 W25 _ 1 (hta24.mono zB) (tc_blk zq0)).mono ?_
 rintro _ w26 ⟨rfl,hb26⟩
 clear zq0 zsz
 go_wp2_with fail
 have qsz:(w26.alloc (.cells #[.int .i64 1,.int .i64 2,.int .i64 0,.int .i64 0,.int .i64 0,.int .i64 0,.int .i64 0,.int .i64 0,.int .i64 0] 3)).heap.size=w26.heap.size+1:=by simp only[World.size_alloc]
 have qB:Below w26.heap.size w26 (w26.alloc (.cells #[.int .i64 1,.int .i64 2,.int .i64 0,.int .i64 0,.int .i64 0,.int .i64 0,.int .i64 0,.int .i64 0,.int .i64 0] 3)):=(Below.refl _ _).alloc (Nat.le_refl _) _
 have qq0:(w26.alloc (.cells #[.int .i64 1,.int .i64 2,.int .i64 0,.int .i64 0,.int .i64 0,.int .i64 0,.int .i64 0,.int .i64 0,.int .i64 0] 3)).heap[w26.heap.size]?=some (.cells #[.int .i64 1,.int .i64 2,.int .i64 0,.int .i64 0,.int .i64 0,.int .i64 0,.int .i64 0,.int .i64 0,.int .i64 0] 3 (0,0)):=by have h:=World.alloc_heap_new w26 (.cells #[.int .i64 1,.int .i64 2,.int .i64 0,.int .i64 0,.int .i64 0,.int .i64 0,.int .i64 0,.int .i64 0,.int .i64 0] 3);exact h
 generalize (w26.alloc (.cells #[.int .i64 1,.int .i64 2,.int .i64 0,.int .i64 0,.int .i64 0,.int .i64 0,.int .i64 0,.int .i64 0,.int .i64 0] 3))=W27 at qsz qB qq0 ⊢
 have i27:IC W27 (some ⟨w26.heap.size,0,none⟩) 9 gr:=ic_blk (xs:=gr) qq0 (by decide)
 clear qq0 qsz
 refine (sq_u _ 9 gr W27 i27).mono ?_
 rintro _ w28 ⟨al6,nl6,cl6,ag6,cg6,rfl,hta28,hb28⟩
 clear i27
 go_wp2_with fail
 have xsz:(w28.alloc (.cells #[.string ⟨#[108,105,110,101]⟩,.int .i64 0,.int .i64 0,.int .i64 0,.int .i64 0] 104)).heap.size=w28.heap.size+1:=by simp only[World.size_alloc]
 have xB:Below w28.heap.size w28 (w28.alloc (.cells #[.string ⟨#[108,105,110,101]⟩,.int .i64 0,.int .i64 0,.int .i64 0,.int .i64 0] 104)):=(Below.refl _ _).alloc (Nat.le_refl _) _
 have xq0:(w28.alloc (.cells #[.string ⟨#[108,105,110,101]⟩,.int .i64 0,.int .i64 0,.int .i64 0,.int .i64 0] 104)).heap[w28.heap.size]?=some (.cells #[.string ⟨#[108,105,110,101]⟩,.int .i64 0,.int .i64 0,.int .i64 0,.int .i64 0] 104 (0,0)):=by have h:=World.alloc_heap_new w28 (.cells #[.string ⟨#[108,105,110,101]⟩,.int .i64 0,.int .i64 0,.int .i64 0,.int .i64 0] 104);exact h
 generalize (w28.alloc (.cells #[.string ⟨#[108,105,110,101]⟩,.int .i64 0,.int .i64 0,.int .i64 0,.int .i64 0] 104))=W29 at xsz xB xq0 ⊢
 refine (cr0_u al6 nl6 cl6 ag6 cg6 W29 _ 1 (hta28.mono xB) (tc_blk xq0)).mono ?_
 rintro _ w30 ⟨rfl,hb30⟩
 clear xq0 xsz
 go_wp2_with fail
 go_ret
 have hA:=zb (zb (zb (zb fB hb1) kB) hb3) hb37
 have hB:=zb (zb hA hb7_14) hb14_18
 have hC:=zb (zb (zb (zb (zb hB hb18_20) vB) hb22) yB) hb24
 exact ⟨rfl,zb (zb (zb (zb (zb (zb hC zB) hb26) qB) hb28) xB) hb30⟩
end
end Go.Proofs.YtaadpihbjhachaaGreat
