/- Texts E2 to H9 of this proof, in one file. -/
import Derived.Test.YtaadpihbjhachaaGreatW01
import Derived.Test.YtaadpihbjhachaaGreatW04
import Derived.Test.YtaadpihbjhachaaGreatW09
import Derived.Test.YtaadpihbjhachaaGreatW10
import Derived.Deep.CutBlock
import Derived.Deep.CutRange
import Derived.Laws.EntriesVeiled
namespace Go.Proofs.YtaadpihbjhachaaGreat
set_option maxRecDepth 100000
set_option maxHeartbeats 16000000
section
open Go Go.RowKit
attribute [local go_sem] over_cell
def ownTo (l g:List Int) (j:Nat):List Int:=(l.take j).filter fun c=>g[c.toNat]?.getD 0==0
theorem ownTo_hit {l g:List Int} {j:Nat} (h:j<l.length) (e:(g[(l[j]?.getD 0).toNat]?.getD 0==0)=true):ownTo l g (j+1)=ownTo l g j++[l[j]?.getD 0]:=by
 unfold ownTo;rw[take_snoc l 0 j h,List.filter_append];congr 1;simp[e]
theorem ownTo_miss {l g:List Int} {j:Nat} (h:j<l.length) (e:(g[(l[j]?.getD 0).toNat]?.getD 0==0)=false):ownTo l g (j+1)=ownTo l g j:=by
 unfold ownTo;rw[take_snoc l 0 j h,List.filter_append];simp[e]
theorem ownTo_len (l g:List Int) (j:Nat):(ownTo l g j).length≤j:=cntTo_le l g j
def tightTo (ls:List (List Int)) (g:List Int):Nat→Nat × Int
 | 0=>((openL g).length+1,(openL g)[0]?.getD 0)
 | k+1=>if 0<(ownTo (ls[k]?.getD []) g (ls[k]?.getD []).length).length∧(ownTo (ls[k]?.getD []) g (ls[k]?.getD []).length).length<(tightTo ls g k).1 then ((ownTo (ls[k]?.getD []) g (ls[k]?.getD []).length).length,(ownTo (ls[k]?.getD []) g (ls[k]?.getD []).length)[0]?.getD 0) else tightTo ls g k
def tightLine (ls:List (List Int)) (g:List Int) (sum:Int):Int:=match (List.range ls.length).find? (fun k=>beyV (ls[k]?.getD []) g sum) with|some k=>(k:Int)|none => -1
def tightCell (ls:List (List Int)) (g:List Int) (sum:Int):Int:=match (List.range ls.length).find? (fun k=>beyV (ls[k]?.getD []) g sum) with|some _=>0|none=>(tightTo ls g ls.length).2
theorem tight_hit {ls:List (List Int)} {g:List Int} {sum:Int} {k:Nat} (h:∀j,j<k→beyV (ls[j]?.getD []) g sum=false) (hk:k<ls.length) (hb:beyV (ls[k]?.getD []) g sum=true):tightLine ls g sum=(k:Int)∧tightCell ls g sum=0:=by
 have:(List.range ls.length).find? (fun k=>beyV (ls[k]?.getD []) g sum)=some k:=by
  rw[List.find?_range_eq_some]
  exact ⟨hb,by simp[hk],fun j hj=>by simp[h j hj]⟩
 simp[tightLine,tightCell,this]
theorem tight_none {ls:List (List Int)} {g:List Int} {sum:Int} (h:∀j,j<ls.length→beyV (ls[j]?.getD []) g sum=false):tightLine ls g sum = -1∧tightCell ls g sum=(tightTo ls g ls.length).2:=by
 have:(List.range ls.length).find? (fun k=>beyV (ls[k]?.getD []) g sum)=none:=by
  rw[List.find?_range_eq_none]
  exact fun j hj=>by simp[h j hj]
 simp[tightLine,tightCell,this]
theorem tightTo_le (ls:List (List Int)) (g:List Int) (k:Nat):(tightTo ls g k).1≤(openL g).length+1:=by
 induction k with
 | zero=>exact Nat.le_refl _
 | succ k ih =>
  unfold tightTo
  split
  ·dsimp only;omega
  ·exact ih
theorem tight_c {cells:Int} {ls:List (List Int)} {sum:Int} {g:List Int} (G:GoodTask cells ls sum g) (a:Option Addr) (n c:Nat) (a':Option Addr) (n' c':Nat) (au:Option Addr) (nu cu:Nat) (w:World) (h:RC w a n ls) (h':IC w a' n' g) (hu:IC w au nu (unusedL g)) :
  Calls Tryz.prog 74 #[.agg #[.int .i64 cells,.slice a n c,.int .i64 sum,.slice a' n' c'],.slice au nu cu] w fun e w'=>e = .returned (.tuple #[.int .i64 (tightLine ls g sum),.int .i64 (tightCell ls g sum)])∧Below w.heap.size w w':=by
 obtain ⟨i0,hi,hz0,hz1,hz2⟩:=info_parts infoInt
 have H:=Lib.hid h
 have H':=Lib.hid h'
 have HG:=Lib.hid G
 have hns:=h.small
 have hll:=Lib.hid h.len
 have hgl:=Lib.hid h'.len
 have hn'2:n'≤256:=by have:=G.glen;have:=h'.len;omega
 have hopl:(openL g).length≤256:=by have:=openTo_len g g.length;have:=G.glen;unfold openL;omega
 have HBY:=Lib.hid (fun (W:World) (hb:Below w.heap.size w W) (k:Nat) (hk:k<n)=>beyond_c G a n c a' n' c' k au nu cu W (h.mono hb) (h'.mono hb) (hu.mono hb) hk)
 have HO:=Lib.hid (fun (W:World) (hb:Below w.heap.size w W)=>open_c (.slice a n c) cells sum a' n' c' g W (h'.mono hb))
 clear h h' hu G
 go_enter Tryz.func74,Tryz.ntmps74
 go_wp2_with fail
 have fsz:(w.alloc (.cells #[.int .i64 cells,.slice a n c,.int .i64 sum,.slice a' n' c'] 27)).heap.size=w.heap.size+1:=by simp only[World.size_alloc]
 have fB:Below w.heap.size w (w.alloc (.cells #[.int .i64 cells,.slice a n c,.int .i64 sum,.slice a' n' c'] 27)):=(Below.refl _ _).alloc (Nat.le_refl _) _
 have fq0:(w.alloc (.cells #[.int .i64 cells,.slice a n c,.int .i64 sum,.slice a' n' c'] 27)).heap[w.heap.size]?=some (.cells #[.int .i64 cells,.slice a n c,.int .i64 sum,.slice a' n' c'] 27 (0,0)):=by have h:=World.alloc_heap_new w (.cells #[.int .i64 cells,.slice a n c,.int .i64 sum,.slice a' n' c'] 27);exact h
 generalize (w.alloc (.cells #[.int .i64 cells,.slice a n c,.int .i64 sum,.slice a' n' c'] 27))=W0 at fsz fB fq0 ⊢
 have hsz0:w.heap.size≤W0.heap.size:=fB.size
 clear fsz
 refine (HO.out W0 fB).mono ?_
 rintro _ w1 ⟨v1,rfl,hown,hb1⟩
 obtain ⟨a1,c1,rfl⟩:=owns_shape hown
 have hop:=(IC.of_owns hown (by omega)).1
 have HOP:=Lib.hid hop
 have hbt:=Lib.hid (keepq hb1 fq0)
 have hB1:=fB.trans (hb1.mono hsz0)
 clear hown fq0 hop
 go_upto_if 17 with fail
 go_cut [5] from 17 to 20 (fun v wx=>v = .int .i64 ((openL g)[0]?.getD 0)∧wx=w1)
 case first =>
  obtain ⟨x,hx⟩:∃x,(openL g)[0]?.getD 0=x:=⟨_,rfl⟩
  have HX:=Lib.hid hx
  by_cases h0:0<(openL g).length
  ·obtain ⟨b,off,rfl,hb,hc⟩:=HOP.out.2 0 h0
   rw[Nat.add_zero,hx] at hc
   have h0i:(0:Int)<((openL g).length:Int):=by omega
   clear hx
   go_wp2_with fail
   go_meet
   exact ⟨by rw[HX.out],rfl⟩
  ·have e1:x=0:=by rw[← hx,List.getElem?_eq_none (by omega)];rfl
   have h0i:¬(0:Int)<((openL g).length:Int):=by omega
   clear hx
   subst e1
   go_wp2_with fail
   go_meet
   exact ⟨by rw[HX.out],rfl⟩
 case rest =>
  obtain ⟨rfl,rfl⟩:=hcut
  have hszc:w.heap.size<wc.heap.size:=q_lt hbt.out
  have b1:wc.cell? ⟨w.heap.size,1,none⟩=some (.slice a n c):=q_cell hbt.out 1
  go_wp2_with fail
  go_loopg [5,7,8,9,10,12,28] n (fun gk cv fv _ _ _ _ iv wv=>∃k:Nat,gk=n - k∧k≤n∧iv = .int .i64 k∧cv = .int .i64 (tightTo ls g k).2∧fv = .int .i64 ((tightTo ls g k).1:Nat)∧Hid (∀j,j<k→beyV (ls[j]?.getD []) g sum=false)∧Below w.heap.size w wv∧Hid (wv.heap[w.heap.size]?=some (.cells #[.int .i64 cells,.slice a n c,.int .i64 sum,.slice a' n' c'] 27 (0,0))))
  case atStart=>exact ⟨0,by omega,by omega,rfl,rfl,by simp[tightTo],fun j hj=>absurd hj (by omega),hB1,hbt.out⟩
  case round =>
   obtain ⟨k,rfl,hk,rfl,rfl,rfl,hno,hbr,hblk⟩:=hrel
   have hTl:=tightTo_le ls g k
   by_cases hlt:k<n
   ·obtain ⟨bl,ol,al,nl,cl,rfl,hbl,hcl,hil,hnc⟩:=(H.out.mono hbr).2 k hlt
    have hszr:=q_lt hblk.out
    have z0:wr.cell? ⟨w.heap.size,0,none⟩=some (.int .i64 cells):=q_cell hblk.out 0
    have z1:wr.cell? ⟨w.heap.size,1,none⟩=some (.slice (some ⟨bl,ol,none⟩) n c):=q_cell hblk.out 1
    have z2:wr.cell? ⟨w.heap.size,2,none⟩=some (.int .i64 sum):=q_cell hblk.out 2
    have z3:wr.cell? ⟨w.heap.size,3,none⟩=some (.slice a' n' c'):=q_cell hblk.out 3
    have HIL:=Lib.hid hil
    have hkl:k<ls.length:=by rw[hll.out];exact hlt
    have hmem:ls[k]?.getD []∈ls:=by rw[List.getElem?_eq_getElem hkl];exact List.getElem_mem hkl
    have HLR:=Lib.hid (HG.out.lineLen hmem)
    have HLS:=Lib.hid (HG.out.lineShort hmem)
    clear hmem
    cases hby:beyV (ls[k]?.getD []) g sum with
    | true =>
     have HTT:=Lib.hid (tight_hit hno.out hkl hby)
     have HB2:=Lib.hid (HBY.out wr hbr k hlt)
     rw[hby] at HB2
     clear hby hkl hil
     go_wp2_with (go_at_call 148;refine HB2.out.mono ?_;rintro _ w2 ⟨rfl,hb2⟩)
     go_ret2
     exact ⟨by rw[HTT.out.1,HTT.out.2];rfl,hbr.trans (hb2.mono hbr.size)⟩
    | false =>
     have HB2:=Lib.hid (HBY.out wr hbr k hlt)
     rw[hby] at HB2
     have HNB:=Lib.hid hby
     clear hby hil
     go_wp2_with fail
     refine HB2.out.mono ?_
     rintro _ w2 ⟨rfl,hb2⟩
     have hbr2:=hbr.trans (hb2.mono hbr.size)
     have hblk2:=Lib.hid (keepq hb2 hblk.out)
     have hsz2:=q_lt hblk2.out
     have HIL2:=Lib.hid (HIL.out.mono hb2)
     have y3:w2.cell? ⟨w.heap.size,3,none⟩=some (.slice a' n' c'):=q_cell hblk2.out 3
     have HSUC:Hid (tightTo ls g (k+1)=if 0<(ownTo (ls[k]?.getD []) g (ls[k]?.getD []).length).length∧(ownTo (ls[k]?.getD []) g (ls[k]?.getD []).length).length<(tightTo ls g k).1 then ((ownTo (ls[k]?.getD []) g (ls[k]?.getD []).length).length,(ownTo (ls[k]?.getD []) g (ls[k]?.getD []).length)[0]?.getD 0) else tightTo ls g k):=rfl
     have hnl:=HIL.out.len
     have HNO2:Hid (∀j,j<k+1→beyV (ls[j]?.getD []) g sum=false):=fun j hj=>by
      rcases Nat.lt_or_ge j k with h1|h1
      ·exact hno.out j h1
      ·rw[show j=k from by omega];exact HNB.out
     generalize ls[k]?.getD []=l at *
     generalize tightTo ls g k=fc at *
     clear z0 z1 z2 z3 hkl
     have hnl2:nl≤256:=by have:=HLS.out;have:=HG.out.cells2;omega
     go_wp2_with fail
     go_loopg [10,12,40] nl (fun gk2 v _ jv wv=>∃j:Nat,gk2=nl - j∧j≤nl∧jv = .int .i64 j∧wv.ownsRow w2.heap.size 3 1 v (ownTo l g j).length ((ownTo l g j).map (Value.int .i64))∧Below w2.heap.size w2 wv)
     case atStart=>exact ⟨0,by omega,by omega,rfl,World.ownsRow_nil _ _ _ _,Below.refl _ _⟩
     case round =>
      obtain ⟨j,rfl,hj,rfl,hownj,hbj⟩:=hrel
      have hbt2:=hbr2.trans (hbj.mono hbr2.size)
      have hblk3:=Lib.hid (keepq hbj hblk2.out)
      have hlj:=ownTo_len l g j
      by_cases hltj:j<nl
      ·obtain ⟨b2,o2,rfl,hb2l,hcl2⟩:=(HIL2.out.mono hbj).2 j hltj
       have hjl:j<l.length:=by rw[hnl];exact hltj
       have hr:=HLR.out.2 _ (List.getElem_mem hjl)
       obtain ⟨x,hxx⟩:∃x:Nat,l[j]?.getD 0=(x:Int):=⟨(l[j]'hjl).toNat,by rw[List.getElem?_eq_getElem hjl,Option.getD_some];omega⟩
       have hxn:x<n':=by have h1:=HG.out.len;have h2:=hgl.out;rw[List.getElem?_eq_getElem hjl,Option.getD_some] at hxx;omega
       obtain ⟨bg,og,rfl,hbg,hcg⟩:=(H'.out.mono hbt2).2 x hxn
       have z3:wr.cell? ⟨w.heap.size,3,none⟩=some (.slice (some ⟨bg,og,none⟩) n' c'):=q_cell hblk3.out 3
       have HHIT:=Lib.hid (fun e=>ownTo_hit (g:=g) hjl e)
       have HMISS:=Lib.hid (fun e=>ownTo_miss (g:=g) hjl e)
       rw[hxx] at hcl2 HHIT HMISS
       rw[Int.toNat_natCast] at HHIT HMISS
       have hxn1:(x:Int)<(n':Int):=by omega
       have hjn1:(j:Int)<(nl:Int):=by omega
       generalize g[x]?.getD 0=y at hcg HHIT HMISS
       clear hr hxx hjl
       by_cases hy:(y==0)=true
       ·have hN:=Lib.hid (HHIT.out hy)
        have hszj:=hbj.size
        go_wp2_with (first|(at_builtin;refine wpList_append_own _ rfl _ _ 25 rfl w2.heap.size 3 i0 (.int .i64 0) 1 8 Tryz.underlying25 hi hz0 hz1 hz2 rfl (by decide) _ _ _ rfl (hownj.alloc _) ⟨wr.heap.size,0,none⟩ 1 1 [.int .i64 x] rfl rfl (cell_one_new _ _ _) (by simp[Value.oneCell']) (by unfold maxLen;omega) (by omega) (by simp;omega) ?_))
        intro v' w3 hown' hgrow _
        have hb3:Below w2.heap.size w2 w3:=(hbj.alloc hbj.size _).grown hgrow (by simp;omega) (fun j e=>(hownj.lt j e).1)
        have hown2:w3.ownsRow w2.heap.size 3 1 v' (ownTo l g (j+1)).length ((ownTo l g (j+1)).map (Value.int .i64)):=by
         rw[hN.out];simpa using hown'
        clear hown' hgrow hownj
        go_wp2_with fail
        go_roundg (nl - (j+1))
        case measure=>omega
        case rel=>exact ⟨j+1,rfl,by omega,by go_num,hown2,hb3⟩
       ·have hy2:(y==0)=false:=by simpa using hy
        have hN:=Lib.hid (HMISS.out hy2)
        clear hy
        go_wp2
        go_roundg (nl - (j+1))
        case measure=>omega
        case rel=>exact ⟨j+1,rfl,by omega,by go_num,by rw[hN.out];exact hownj,hbj⟩
      ·have e:j=nl:=by omega
       subst e
       rw[hnl] at HSUC
       obtain ⟨ao,co,rfl⟩:=owns_shape hownj
       have hic:=(IC.of_owns hownj (by omega)).1
       generalize ownTo l g j=own at *
       by_cases h0:0<own.length
       ·by_cases hf:own.length<fc.1
        ·obtain ⟨bo,oo,rfl,hbo,hco⟩:=hic.2 0 h0
         rw[Nat.add_zero] at hco
         have hS2:=Lib.hid (HSUC.out.trans (if_pos ⟨h0,hf⟩))
         generalize own[0]?.getD 0=x at hco hS2
         have h0i:(0:Int)<(own.length:Int):=by omega
         have hfi:(own.length:Int)<(fc.1:Int):=by omega
         clear hownj hic
         go_wp2
         refine wp_region_S (fun w'=>∃u,w'=over (wr) u) [6] [(0,0),(0,1),(0,2),(0,3),(0,4),(1,5),(2,6)] (by kernel_rfl) (by kernel_rfl) (by exact ⟨_,below_over (by repeat (first|assumption|exact Below.refl _ _|refine keep_drew ?_|refine keep_alloc ?_ _|refine keep_trans ?_ (by assumption)))⟩) ?_
         dsimp only[pickOps,nthOp]
         repeat (first|(refine wpS_skip rfl (fun K hK=>?_);go_big_quiet_op;refine hK _ ?_;clear hK K)|(refine wpS_quiet rfl rfl (fun K hK=>?_);go_big_quiet_op;refine hK _ ?_;clear hK K)|(refine wpS_loud ?_;go_wp2;refine ⟨?_,?_⟩;focus (exact ⟨_,below_over (by repeat (first|assumption|exact Below.refl _ _|refine keep_drew ?_|refine keep_alloc ?_ _|refine keep_trans ?_ (by assumption)))⟩)))
         refine wpS_late _ _ _ rfl ?_
         dsimp only[List.map]
         go_wp2
         refine NoPanic.normal ?_
         go_wp2
         go_roundg (n - (k+1))
         case measure=>omega
         case rel=>exact ⟨k+1,rfl,by omega,by go_num,by rw[hS2.out],by rw[hS2.out],HNO2.out,hbt2.drew,hblk3.out⟩
        ·have hS2:=Lib.hid (HSUC.out.trans (if_neg (fun e=>hf e.2)))
         have h0i:(0:Int)<(own.length:Int):=by omega
         have hfi:¬(own.length:Int)<(fc.1:Int):=by omega
         clear hownj hic
         go_wp2
         go_roundg (n - (k+1))
         case measure=>omega
         case rel=>exact ⟨k+1,rfl,by omega,by go_num,by rw[hS2.out],by rw[hS2.out],HNO2.out,hbt2,hblk3.out⟩
       ·have hS2:=Lib.hid (HSUC.out.trans (if_neg (fun e=>h0 e.1)))
        have h0i:¬(0:Int)<(own.length:Int):=by omega
        clear hownj hic
        go_wp2
        go_roundg (n - (k+1))
        case measure=>omega
        case rel=>exact ⟨k+1,rfl,by omega,by go_num,by rw[hS2.out],by rw[hS2.out],HNO2.out,hbt2,hblk3.out⟩
   ·have e:k=n:=by omega
    subst e
    have HTT:=Lib.hid (tight_none (by rw[hll.out];exact hno.out))
    rw[hll.out] at HTT
    generalize tightTo ls g k=fc at *
    go_wp2
    go_ret2
    exact ⟨by rw[HTT.out.1,HTT.out.2];rfl,hbr⟩
end
section
open Go Go.RowKit
attribute [local go_sem] over_cell
end
section
open Go Go.RowKit
theorem tmod_pos (a n:Int) (hn:1≤n) : -n<a.tmod n∧a.tmod n<n:=by
 refine ⟨?_,Int.tmod_lt_of_pos a (by omega)⟩
 have h:=Int.tmod_lt_of_pos (-a) (show 0<n by omega)
 rw[Int.neg_tmod] at h
 omega
theorem mod_val (a n:Int) (hn1:1≤n) (hn2:n≤1000000):(wrap64 (a.tmod n+n)).tmod n=a % n:=by
 obtain ⟨h1,h2⟩:=tmod_pos a n hn1
 have e:wrap64 (a.tmod n+n)=a.tmod n+n:=by unfold wrap64;omega
 rw[e,Int.tmod_eq_emod_of_nonneg (by omega),Int.add_emod_right]
 have h3:=Int.tmod_add_mul_tdiv a n
 conv=>rhs;rw[← h3]
 rw[Int.add_mul_emod_self_left]
theorem mod_c (a n:Int) (w:World) (hn1:1≤n) (hn2:n≤1000000) :
  Calls Tryz.prog 231 #[.int .i64 a,.int .i64 n] w fun e w'=>e = .returned (.int .i64 (a % n))∧w=w':=by
 have hn0:n≠0:=by omega
 have hn00:(n==0)=false:=by simp;omega
 have HN:=Lib.hid hn0
 clear hn0
 go_enter Tryz.func231,Tryz.ntmps231
 go_wp2
 go_ret
 exact ⟨congrArg Ending.returned (congrArg (Value.int IntKind.i64) (mod_val a n hn1 hn2)),rfl⟩
end
section
open Go Go.RowKit
attribute [local go_sem] over_cell
def diagTo (n s t:Int) (k:Nat):List Int:=(List.range k).map fun (i:Nat)=>n*i+(t*i+s) % n
theorem diagTo_succ (n s t:Int) (k:Nat):diagTo n s t (k+1)=diagTo n s t k++[n*k+(t*k+s) % n]:=by
 unfold diagTo;rw[List.range_succ,List.map_append];rfl
theorem diag_c (n:Nat) (s t:Int) (w:World) (hn1:1≤n) (hn2:n≤16) (hs1:0≤s) (hs2:s≤16) (ht:t=1∨t = -1) :
  Calls Tryz.prog 191 #[.int .i64 n,.int .i64 s,.int .i64 t] w fun e w'=>∃v,e = .returned v∧w'.ownsRow w.heap.size 3 1 v n ((diagTo n s t n).map (Value.int .i64))∧Below w.heap.size w w':=by
 obtain ⟨i0,hi,hz0,hz1,hz2⟩:=info_parts infoInt
 have HM:=Lib.hid (fun (x:Int) W=>mod_c x (n:Int) W (by omega) (by omega))
 have HT:=Lib.hid ht
 clear ht
 go_enter Tryz.func191,Tryz.ntmps191
 go_wp2_with fail
 go_loopw [7,8] (fun v i wr=>∃k:Nat,k≤n∧i = .int .i64 k∧wr.ownsRow w.heap.size 3 1 v k ((diagTo n s t k).map (Value.int .i64))∧Below w.heap.size w wr) (fun _ i _=>n - (intOf i).toNat)
 case atStart=>exact ⟨0,by omega,rfl,World.ownsRow_nil _ _ _ _,Below.refl _ _⟩
 case round =>
  obtain ⟨k,hk,rfl,hown,hbr⟩:=hrel
  by_cases hlt:k<n
  ·have hli:(k:Int)<(n:Int):=by omega
   have hszr:=hbr.size
   have h1:t*(k:Int)+s≤1000 ∧ -1000≤t*(k:Int)+s:=by rcases HT.out with e|e <;> rw[e] <;> omega
   have h2:0≤(n:Int)*(k:Int)∧(n:Int)*(k:Int)≤256:=by
    constructor
    ·exact Int.mul_nonneg (by omega) (by omega)
    ·have:=Int.mul_le_mul (show (n:Int)≤16 by omega) (show (k:Int)≤16 by omega) (by omega) (by omega);omega
   have h3 : -16≤t*(k:Int)∧t*(k:Int)≤16:=by rcases HT.out with e|e <;> rw[e] <;> omega
   have hN:=Lib.hid (diagTo_succ n s t k)
   have hm0:=Int.emod_nonneg (t*(k:Int)+s) (show (n:Int)≠0 by omega)
   have hm1:=Int.emod_lt_of_pos (t*(k:Int)+s) (show 0<(n:Int) by omega)
   have HM1:=Lib.hid (HM.out (t*(k:Int)+s))
   generalize (t*(k:Int)+s) % (n:Int)=m at hN hm0 hm1 HM1
   go_wp2_with (first|(go_at_call 231;refine (HM1.out _).mono ?_;rintro _ w2 ⟨rfl,rfl⟩)|(at_builtin;refine wpList_append_own _ rfl _ _ 25 rfl w.heap.size 3 i0 (.int .i64 0) 1 8 Tryz.underlying25 hi hz0 hz1 hz2 rfl (by decide) _ _ _ rfl (hown.alloc _) ⟨wr.heap.size,0,none⟩ 1 1 [.int .i64 ((n:Int)*k+m)] rfl rfl (cell_one_new _ _ _) (by simp[Value.oneCell']) (by unfold maxLen;omega) (by omega) (by simp;omega) ?_))
   intro v' w3 hown' hgrow _
   have hb3:Below w.heap.size w w3:=(hbr.alloc hbr.size _).grown hgrow (by simp;omega) (fun j e=>(hown.lt j e).1)
   have hown2:w3.ownsRow w.heap.size 3 1 v' (k+1) ((diagTo n s t (k+1)).map (Value.int .i64)):=by
    rw[hN.out];simpa using hown'
   clear hown' hgrow hown
   go_wp2
   go_roundw
   case rel=>exact ⟨k+1,by omega,by go_num,hown2,hb3⟩
   case measure=>simp[intOf];omega
  ·have e:k=n:=by omega
   subst e
   go_wp2
   go_ret
   exact ⟨_,rfl,hown,hbr⟩
end
section
open Go Go.RowKit
attribute [local go_sem] over_cell
attribute [local go_sem] Oper.semAt_some
end
section
open Go Go.RowKit
attribute [local go_sem] over_cell
end
section
open Go Go.RowKit
attribute [local go_sem] over_cell
end
section
open Go Go.RowKit
section
variable {P:Program} {ops:Array Oper} {Q:Exit→Act→World→Prop} {md:Region.Mode} {S:World→Prop} {late:Nat→Bool}
theorem wpL_firstW {i:Nat} {oi:Oper} {v:Value} (hi:ops[i]?=some oi) (hsel:∀(j:Nat) (o:Oper) cs b,ops[j]?=some o→o.op ≠ .select cs b)
  (hQ:∀c a w,Q (.panic c) (a.put oi.dst v) w→Q (.panic c) a w) (hl:late i=true) :
  ∀(fuel:Nat) (listed:Array Bool) (a:Act) (w:World),Closed md ops listed →
   (∀j oj,ops[j]?=some oj→j≠i→listed.getD j true=false→(∀e∈oj.after,Region.binds md e=true→e.on≠i)→oi.apart ops oj=true) →
   i∈Region.ready md ops listed→YieldsIf P ops (fun _=>True) oi v a →
   wpL P md ops Q S late fuel (listed.setIfInBounds i true) (a.put oi.dst v) w→wpL P md ops Q S late (fuel+1) listed a w:=by
 intro fuel
 induction fuel with
 | zero =>
  intro listed a w hcl hfree hr hy H
  refine ⟨fun h=>(by rw[h] at hr;cases hr),fun j hj=>?_⟩
  by_cases hji:j=i
  ·subst hji;exact hy.wpOp hi trivial ⟨fun h=>(by rw[hl] at h;cases h),H⟩
  ·have:=ready_mono hj hji
   rw[H.1] at this
   cases this
 | succ fuel ih =>
  intro listed a w hcl hfree hr hy H
  refine ⟨fun h=>(by rw[h] at hr;cases hr),fun j hj=>?_⟩
  by_cases hji:j=i
  ·subst hji;exact hy.wpOp hi trivial ⟨fun h=>(by rw[hl] at h;cases h),H⟩
  ·have h1:=H.2 j (ready_mono hj hji)
   obtain ⟨hjun,oj,hoj,hall⟩:=mem_ready.1 hj
   have hnot:∀e∈oj.after,Region.binds md e=true→e.on≠i:=fun e he hb heq=>by
    have h1:=hall e he hb
    have h0:=(mem_ready.1 hr).1
    rw[heq] at h1
    rcases Nat.lt_or_ge i listed.size with h'|h'
    ·simp[h'] at h0 h1;rw[h0] at h1;cases h1
    ·simp[Array.getElem?_eq_none h'] at h1
   have h2:=wpOp_putIf hoj (hfree j oj hoj hji hjun hnot) (fun cs b=>hsel i oi cs b hi) (fun cs b=>hsel j oj cs b hoj) hQ hy h1
   have hfree':∀k ok,ops[k]?=some ok→k≠i→(listed.setIfInBounds j true).getD k true=false →
     (∀e∈ok.after,Region.binds md e=true→e.on≠i)→oi.apart ops ok=true:=fun k ok hk hki hun hno=>by
    refine hfree k ok hk hki ?_ hno
    by_cases hjk:j=k
    ·subst hjk;exact hjun
    ·rw[getD_set_ne true hjk] at hun;exact hun
   refine wpOp_mono (fun a' w' h3=>⟨h3.2.1,ih (listed.setIfInBounds j true) a' w' (hcl.set hj) hfree' (ready_mono hr (Ne.symm hji)) h3.1 ?_⟩) h2
   rw[Array.setIfInBounds_comm _ _ hji]
   exact h3.2.2
def Has (listed:Array Bool) (pre:List Nat):Prop:=∀p∈pre,listed.getD p false=true
theorem Has.set {listed:Array Bool} {pre:List Nat} (h:Has listed pre) (j:Nat):Has (listed.setIfInBounds j true) pre:=fun p hp=>getD_set_true (h p hp)
theorem wpL_firstP {pre:List Nat} {i:Nat} {oi:Oper} {v:Value} (hi:ops[i]?=some oi) (hsel:∀(j:Nat) (o:Oper) cs b,ops[j]?=some o→o.op ≠ .select cs b)
  (hQ:∀c a w,Q (.panic c) (a.put oi.dst v) w→Q (.panic c) a w)
  (hlate:∀j listed,Has listed pre→late j=true→Closed md ops listed→j∈Region.ready md ops listed→listed.getD i false=true) :
  ∀(fuel:Nat) (listed:Array Bool) (a:Act) (w:World),Has listed pre→Closed md ops listed →
   (∀j oj,ops[j]?=some oj→j≠i→listed.getD j true=false→(∀e∈oj.after,Region.binds md e=true→e.on≠i)→oi.apart ops oj=true) →
   i∈Region.ready md ops listed→YieldsIf P ops S oi v a→S w →
   wpL P md ops Q S late fuel (listed.setIfInBounds i true) (a.put oi.dst v) w→wpL P md ops Q S late (fuel+1) listed a w:=by
 intro fuel
 induction fuel with
 | zero =>
  intro listed a w hp hcl hfree hr hy hS H
  refine ⟨fun h=>(by rw[h] at hr;cases hr),fun j hj=>?_⟩
  by_cases hji:j=i
  ·subst hji;exact hy.wpOp hi hS ⟨fun _=>hS,H⟩
  ·have:=ready_mono hj hji
   rw[H.1] at this
   cases this
 | succ fuel ih =>
  intro listed a w hp hcl hfree hr hy hS H
  refine ⟨fun h=>(by rw[h] at hr;cases hr),fun j hj=>?_⟩
  by_cases hji:j=i
  ·subst hji;exact hy.wpOp hi hS ⟨fun _=>hS,H⟩
  ·have h1:=H.2 j (ready_mono hj hji)
   obtain ⟨hjun,oj,hoj,hall⟩:=mem_ready.1 hj
   have hnot:∀e∈oj.after,Region.binds md e=true→e.on≠i:=fun e he hb heq=>by
    have h1:=hall e he hb
    have h0:=(mem_ready.1 hr).1
    rw[heq] at h1
    rcases Nat.lt_or_ge i listed.size with h'|h'
    ·simp[h'] at h0 h1;rw[h0] at h1;cases h1
    ·simp[Array.getElem?_eq_none h'] at h1
   have hjl:late j=false:=by
    cases hl:late j with
    | false=>rfl
    | true =>
     have h1:=hlate j listed hp hl hcl hj
     have h0:=(mem_ready.1 hr).1
     rcases Nat.lt_or_ge i listed.size with h'|h'
     ·simp[h'] at h0 h1;rw[h0] at h1;cases h1
     ·simp[Array.getElem?_eq_none h'] at h1
   have h2:=wpOp_putIf hoj (hfree j oj hoj hji hjun hnot) (fun cs b=>hsel i oi cs b hi) (fun cs b=>hsel j oj cs b hoj) hQ hy h1
   have hfree':∀k ok,ops[k]?=some ok→k≠i→(listed.setIfInBounds j true).getD k true=false →
     (∀e∈ok.after,Region.binds md e=true→e.on≠i)→oi.apart ops ok=true:=fun k ok hk hki hun hno=>by
    refine hfree k ok hk hki ?_ hno
    by_cases hjk:j=k
    ·subst hjk;exact hjun
    ·rw[getD_set_ne true hjk] at hun;exact hun
   refine wpOp_mono (fun a' w' h3=>⟨h3.2.1,ih (listed.setIfInBounds j true) a' w' (hp.set j) (hcl.set hj) hfree' (ready_mono hr (Ne.symm hji)) h3.1 (h3.2.1 hjl) ?_⟩) h2
   rw[Array.setIfInBounds_comm _ _ hji]
   exact h3.2.2
def wpF (P:Program) (ops:Array Oper) (K:Act→Prop):List Oper→Act→Prop
 | [],a=>K a
 | o :: r,a=>if Region.wanted o (yielded ops a.tmps) then ∃v,(∀w',(execOp a.eval o).run P w' = .ok (.value v) w')∧wpF P ops K r (a.put o.dst v) else wpF P ops K r (a.put o.dst undef)
def pickF (l:List Oper):List Nat→List Oper
 | []=>[]
 | i :: r=>match nthOp l i with
  | some o=>o :: pickF l r
  | none=>[]
def preOk (md:Region.Mode) (ops:Array Oper):List Nat→Array Bool→Bool
 | [],_=>true
 | i :: r,listed=>(Region.ready md ops listed).contains i&&Region.free md ops listed i&&preOk md ops r (listed.setIfInBounds i true)
def preSet:List Nat→Array Bool→Array Bool
 | [],listed=>listed
 | i :: r,listed=>preSet r (listed.setIfInBounds i true)
theorem preSet_has:∀(r:List Nat) (listed:Array Bool),preOk md ops r listed=true→Has (preSet r listed) r∧∀pre,Has listed pre→Has (preSet r listed) pre
 | [],listed,_=>⟨fun p hp=>(by cases hp),fun pre h=>h⟩
 | i :: r,listed,hc=>by
  simp only[preOk,Bool.and_eq_true] at hc
  obtain ⟨⟨hr,hf⟩,hc'⟩:=hc
  have ih:=preSet_has r _ hc'
  have hi:(listed.setIfInBounds i true).getD i false=true:=by
   obtain ⟨h1,oi,hoi,_⟩:=(mem_ready (md:=md) (ops:=ops) (listed:=listed) (j:=i)).1 (by simpa using hr)
   rcases Nat.lt_or_ge i listed.size with h'|h'
   ·simp[h']
   ·simp[Array.getElem?_eq_none h'] at h1
  refine ⟨fun p hp=>?_,fun pre h=>ih.2 pre (h.set i)⟩
  rcases List.mem_cons.1 hp with e|e
  ·subst e
   exact ih.2 [p] (fun q hq=>by obtain rfl:q=p:=(by simpa using hq);exact hi) p (by simp)
  ·exact ih.1 p e
theorem wpL_of_F (hs:Region.noSelect ops=true) (hQ:∀c a d v w,Q (.panic c) (Act.put a d v) w→Q (.panic c) a w) (fuel:Nat) :
  ∀(pre:List Nat) (listed:Array Bool) (a:Act) (w:World),(∀p∈pre,late p=true)→Closed md ops listed→preOk md ops pre listed=true →
   wpF P ops (fun a'=>wpL P md ops Q S late fuel (preSet pre listed) a' w) (pickF ops.toList pre) a→wpL P md ops Q S late (fuel+pre.length) listed a w∧Closed md ops (preSet pre listed)
 | [],listed,a,w,_,hcl,_,h=>⟨h,hcl⟩
 | i :: r,listed,a,w,hl,hcl,hc,h=>by
  simp only[preOk,Bool.and_eq_true] at hc
  obtain ⟨⟨hr,hf⟩,hc'⟩:=hc
  have hr':i∈Region.ready md ops listed:=by simpa using hr
  obtain ⟨oi,hoi⟩:∃oi,ops[i]?=some oi:=by
   obtain ⟨_,oi,h1,_⟩:=(mem_ready (md:=md) (ops:=ops) (listed:=listed) (j:=i)).1 hr'
   exact ⟨oi,h1⟩
  have hp:nthOp ops.toList i=some oi:=by rw[nthOp_eq];simpa using hoi
  simp only[pickF,hp,wpF] at h
  have key:∀v,YieldsIf P ops (fun _=>True) oi v a→wpF P ops (fun a'=>wpL P md ops Q S late fuel (preSet r (listed.setIfInBounds i true)) a' w) (pickF ops.toList r) (a.put oi.dst v)→wpL P md ops Q S late (fuel+(r.length+1)) listed a w∧Closed md ops (preSet (i :: r) listed):=by
   intro v hy hK
   have ih:=wpL_of_F hs hQ fuel r _ _ w (fun p hp=>hl p (by simp[hp])) (hcl.set hr') hc' hK
   exact ⟨wpL_firstW hoi (Region.noSelect_spec hs) (fun c a' w'=>hQ c a' _ _ w') (hl i (by simp)) (fuel+r.length) listed a w hcl (Region.free_spec hoi hf) hr' hy ih.1,ih.2⟩
  by_cases hw:Region.wanted oi (yielded ops a.tmps)=true
  ·rw[if_pos hw] at h
   obtain ⟨v,hv,hK⟩:=h
   exact key v (.inl ⟨hw,fun w' _=>hv w'⟩) hK
  ·rw[if_neg hw] at h
   exact key undef (.inr ⟨by simpa using hw,rfl⟩) h
theorem wpL_of_T (hs:Region.noSelect ops=true) (lt pre:List Nat) (hQ:∀c a d v w,Q (.panic c) (Act.put a d v) w→Q (.panic c) a w) :
  ∀(seq:List (Nat × Nat)) (listed:Array Bool) (a:Act) (w:World),Has listed pre→Closed md ops listed→((∃x∈seq,x.1≤1)→S w) →
   seqOk md ops lt seq listed=true→wpS P ops S Q (pickOps ops.toList seq) a w→wpL P md ops Q S (fun i=>lt.contains i||pre.contains i) seq.length listed a w
 | [],listed,a,w,_,_,_,hc,h=>⟨by simpa [seqOk] using hc,by simpa only[pickOps,wpS] using h⟩
 | (0,i) :: r,listed,a,w,hh,hcl,hS,hc,h=>by
  have hSw:S w:=hS ⟨_,List.mem_cons_self,Nat.zero_le _⟩
  simp only[seqOk,Bool.and_eq_true] at hc
  obtain ⟨⟨⟨⟨hr,hf⟩,hnl⟩,hla⟩,hc'⟩:=hc
  obtain ⟨oi,hoi⟩:∃oi,ops[i]?=some oi:=by
   have:=(mem_ready (md:=md) (ops:=ops) (listed:=listed) (j:=i)).1 (by simpa using hr)
   obtain ⟨_,oi,h1,_⟩:=this
   exact ⟨oi,h1⟩
  have hp:nthOp ops.toList i=some oi:=by rw[nthOp_eq];simpa using hoi
  have hlate:∀j listed,Has listed pre→(lt.contains j||pre.contains j)=true→Closed md ops listed→j∈Region.ready md ops listed→listed.getD i false=true:=by
   intro j listed' hp' hl hcl' hj
   rcases Bool.or_eq_true _ _▸hl with hl|hl
   ·have h1:=List.all_eq_true.1 hla j (by simpa using hl)
    exact closure_listed hcl' _ _ (ready_afters hj) i (by simpa using h1)
   ·have h1:=hp' j (by simpa using hl)
    have h0:=(mem_ready.1 hj).1
    rcases Nat.lt_or_ge j listed'.size with h'|h'
    ·simp[h'] at h0 h1;rw[h0] at h1;cases h1
    ·simp[Array.getElem?_eq_none h'] at h1
  simp only[pickOps,hp,wpS] at h
  have key:∀v,YieldsIf P ops S oi v a→wpS P ops S Q (pickOps ops.toList r) (a.put oi.dst v) w→wpL P md ops Q S (fun i=>lt.contains i||pre.contains i) (r.length+1) listed a w:=by
   intro v hy hK
   exact wpL_firstP (pre:=pre) hoi (Region.noSelect_spec hs) (fun c a' w'=>hQ c a' _ _ w') hlate r.length listed a w hh hcl (Region.free_spec hoi hf) (by simpa using hr) hy hSw
    (wpL_of_T hs lt pre hQ r _ _ w (hh.set i) (hcl.set (by simpa using hr)) (fun _=>hSw) hc' hK)
  by_cases hw:Region.wanted oi (yielded ops a.tmps)=true
  ·rw[if_pos hw] at h
   obtain ⟨v,hv,hK⟩:=h
   exact key v (.inl ⟨hw,hv⟩) hK
  ·rw[if_neg hw] at h
   exact key undef (.inr ⟨by simpa using hw,rfl⟩) h
 | (1,i) :: r,listed,a,w,hh,hcl,hS,hc,h=>by
  have hSw:S w:=hS ⟨_,List.mem_cons_self,Nat.le_refl _⟩
  simp only[seqOk,Bool.and_eq_true,beq_iff_eq] at hc
  obtain ⟨hr,hc'⟩:=hc
  obtain ⟨oi,hoi⟩:∃oi,ops[i]?=some oi:=by
   obtain ⟨_,oi,h1,_⟩:=(mem_ready (md:=md) (ops:=ops) (listed:=listed) (j:=i)).1 (by rw[hr];simp)
   exact ⟨oi,h1⟩
  have hp:nthOp ops.toList i=some oi:=by rw[nthOp_eq];simpa using hoi
  simp only[pickOps,hp,wpS] at h
  refine ⟨fun h0=>absurd (hr▸h0) (by simp),fun j hj=>?_⟩
  rw[hr] at hj
  obtain rfl:j=i:=by simpa using hj
  refine wpOp_of_if hoi ?_
  split
  ·rename_i hw
   rw[if_pos hw] at h
   exact h.imp (Oper.wp_mono fun a' w' hk=>⟨fun _=>hk.1,wpL_of_T hs lt pre hQ r _ a' w' (hh.set j) (hcl.set (by rw[hr];simp)) (fun _=>hk.1) hc' hk.2⟩) id
  ·rename_i hw
   rw[if_neg hw] at h
   exact ⟨fun _=>hSw,wpL_of_T hs lt pre hQ r _ _ w (hh.set j) (hcl.set (by rw[hr];simp)) (fun _=>hSw) hc' h⟩
 | (n+2,i) :: r,listed,a,w,hh,hcl,hS,hc,h=>by
  simp only[seqOk,Bool.and_eq_true,beq_iff_eq] at hc
  obtain ⟨⟨⟨hr,hl⟩,hno⟩,hc'⟩:=hc
  obtain ⟨oi,hoi⟩:∃oi,ops[i]?=some oi:=by
   obtain ⟨_,oi,h1,_⟩:=(mem_ready (md:=md) (ops:=ops) (listed:=listed) (j:=i)).1 (by rw[hr];simp)
   exact ⟨oi,h1⟩
  have hp:nthOp ops.toList i=some oi:=by rw[nthOp_eq];simpa using hoi
  simp only[pickOps,hp,wpS] at h
  refine ⟨fun h0=>absurd (hr▸h0) (by simp),fun j hj=>?_⟩
  rw[hr] at hj
  obtain rfl:j=i:=by simpa using hj
  have hnoz:¬∃x∈r,x.1≤1:=by
   rintro ⟨x,hx,h0⟩
   have:=List.all_eq_true.1 hno x hx
   simp at this
   omega
  refine wpOp_of_if hoi ?_
  split
  ·rename_i hw
   rw[if_pos hw] at h
   exact h.imp (Oper.wp_mono fun a' w' hk=>⟨fun h0=>by rw[show (fun i=>lt.contains i||pre.contains i) j=(lt.contains j||pre.contains j) from rfl,hl] at h0;exact absurd h0 (by simp),wpL_of_T hs lt pre hQ r _ a' w' (hh.set j) (hcl.set (by rw[hr];simp)) (fun hz=>absurd hz hnoz) hc' hk⟩) id
  ·rename_i hw
   rw[if_neg hw] at h
   exact ⟨fun h0=>by rw[show (fun i=>lt.contains i||pre.contains i) j=(lt.contains j||pre.contains j) from rfl,hl] at h0;exact absurd h0 (by simp),wpL_of_T hs lt pre hQ r _ _ w (hh.set j) (hcl.set (by rw[hr];simp)) (fun hz=>absurd hz hnoz) hc' h⟩
theorem wp_region_T {id:Nat} {l:List Oper} {a:Act} {w:World} (S:World→Prop) (pre lt:List Nat) (seq:List (Nat × Nat))
  (hm:P.follows .mixedOrders=true) (hc:(Region.noSelect l.toArray&&decide (seq.length+pre.length≤l.length)&&preOk .any l.toArray pre (Array.replicate l.length false)&&seqOk .any l.toArray lt seq (preSet pre (Array.replicate l.length false)))=true)
  (hS:S w.drew)
  (h:wpF P l.toArray (fun a'=>wpS P l.toArray S (NoPanic Q) (pickOps l seq) a' w.drew) (pickF l pre) a):(Code.region id l.toArray true).wp P Q a w:=by
 refine wp_region_noPanic ?_
 simp only[Bool.and_eq_true,decide_eq_true_eq] at hc
 obtain ⟨⟨⟨hs,hlen⟩,hp⟩,hc⟩:=hc
 refine wp_region_any hm ?_
 obtain ⟨m,hm'⟩:∃m,l.toArray.size=(seq.length+pre.length)+m:=⟨l.length - (seq.length+pre.length),by simp;omega⟩
 rw[hm']
 refine wpAny_more _ _ _ _ _ (wpAny_of_L (S:=S) (late:=fun i=>lt.contains i||pre.contains i) _ _ _ _ ?_)
 have e:Array.replicate (seq.length+pre.length+m) false=Array.replicate l.length false:=by rw[← hm'];simp
 rw[e]
 have hh:=(preSet_has (md := .any) (ops:=l.toArray) pre (Array.replicate l.length false) hp).1
 have hcl0:Closed .any l.toArray (Array.replicate l.length false):=closed_none _
 have hQ:∀c a d v w,NoPanic Q (.panic c) (Act.put a d v) w→NoPanic Q (.panic c) a w:=fun _ _ _ _ _ h=>h
 have hmono:∀(os:List Oper) (a:Act) (K K':Act→Prop),(∀a',K a'→K' a')→wpF P l.toArray K os a→wpF P l.toArray K' os a:=by
  intro os
  induction os with
  | nil=>intro a K K' hk h;exact hk a h
  | cons o r ih =>
   intro a K K' hk h
   simp only[wpF] at h ⊢
   split
   ·rename_i hw
    rw[if_pos hw] at h
    obtain ⟨v,hv,h⟩:=h
    exact ⟨v,hv,ih _ K K' hk h⟩
   ·rename_i hw
    rw[if_neg hw] at h
    exact ih _ K K' hk h
 have hcl:Closed .any l.toArray (preSet pre (Array.replicate l.length false)):=by
  have hgen:∀(pre:List Nat) (listed:Array Bool),Closed .any l.toArray listed→preOk .any l.toArray pre listed=true→Closed .any l.toArray (preSet pre listed):=by
   intro pre
   induction pre with
   | nil=>intro listed h _;exact h
   | cons i r ih =>
    intro listed h hc
    simp only[preOk,Bool.and_eq_true] at hc
    exact ih _ (h.set (by simpa using hc.1.1)) hc.2
  exact hgen pre _ hcl0 hp
 exact (wpL_of_F hs hQ seq.length pre _ a w.drew (fun p hp=>by simp[hp]) hcl0 hp (hmono _ _ _ _ (fun a' h'=>wpL_of_T hs lt pre hQ seq _ a' w.drew hh hcl (fun _=>hS) hc h') h)).1
theorem wpF_quiet {K:Act→Prop} {a:Act} {o:Oper} {r:List Oper} (hp:plainOp o=true) (hw:Region.wanted o (yielded ops a.tmps)=true)
  (h:∀K':Act→Prop,(∀a',wpF P ops K r a'→K' a')→o.quiet P a (fun _=>True) K'):wpF P ops K (o :: r) a:=by
 simp only[wpF,hw,if_true]
 obtain ⟨v,hv,hK⟩:=h (fun a'=>wpF P ops K r a') (fun _ h=>h)
 refine ⟨v,fun w'=>?_,hK⟩
 have hq:=hv w' trivial
 unfold Oper.quietAt at hq
 cases hr:(execOp a.eval o).run P w' with
 | halt x w1=>rw[hr] at hq;exact hq.elim
 | ok n w1 =>
  obtain ⟨u,rfl⟩:=plain_value hp _ hr
  rw[hr] at hq
  obtain ⟨rfl,rfl⟩:=hq
  rfl
theorem wpF_skip {K:Act→Prop} {a:Act} {dst:Option Tmp} {op:Op} {ty:TypeId} {pos:String} {after:Array Edge} {g:Option (Nat × Bool)} {r:List Oper}
  (hw:Region.wanted (Oper.mk dst op ty pos after g) (yielded ops a.tmps)=false)
  (h:∀K':Act→Prop,(∀a',wpF P ops K r a'→K' a')→(Oper.mk dst (.move (.const undef)) ty pos after none).quiet P a (fun _=>True) K'):wpF P ops K (Oper.mk dst op ty pos after g :: r) a:=by
 obtain ⟨v,hv,hK⟩:=h (fun a'=>wpF P ops K r a') (fun _ h=>h)
 have hq:=hv default trivial
 have:v=undef:=by
  simp[Oper.quietAt,execOp,Sem.run_pure,Oper.quietUpon] at hq
  exact hq.symm
 subst this
 simp only[wpF,hw]
 exact hK
theorem wpF_end {K:Act→Prop} {a:Act} (h:K a):wpF P ops K [] a:=h
attribute [irreducible] wpF
end
end
section
open Go Go.RowKit
theorem owns_slice4 {w:World} {base:Nat} {e:TypeId} {size:Nat} {v:Value} {n:Nat} {xs:List Value} (h:w.ownsRow base e size v n xs):∃a c,v = .slice a n c:=by
 rcases h.2 with ⟨h2,h3⟩|⟨g,cap,cur,hv,_⟩
 ·exact ⟨none,0,by rw[h2,h3]⟩
 ·exact ⟨_,_,hv⟩
theorem stays_q {S:Nat→Prop} {W W':World} {b:Nat} {o:Obj} (hs:Stays S W W') (hq:W.heap[b]?=some o) (hb:¬S b):W'.heap[b]?=some o:=(hs.block b (q_lt hq) hb).trans hq
theorem owns_ge {w:World} {base:Nat} {e:TypeId} {size:Nat} {v:Value} {n:Nat} {xs:List Value} (h:w.ownsRow base e size v n xs) {k:Nat} (hk:v.ownBlock=some k):base≤k:=by
 rcases h.2 with ⟨rfl,_⟩|⟨g,cap,cur,rfl,hb,_⟩
 ·cases hk
 ·cases hk;exact hb
theorem grow_s0 {W W2:World} {o:Obj} {row:Option Nat} (hg:(W.alloc o).grownBy W2 row):Stays (fun k=>row=some k) W W2 :=
 (Below.stays ((Below.refl _ W).alloc (Nat.le_refl _) o) _).trans (Stays.grown (S:=fun k=>row=some k) hg (fun _ e=>e)) (fun _ e => .inl e)
theorem owns_blk {w:World} {base n cap:Nat} {e:TypeId} {size:Nat} {a:Option Addr} {xs:List Value} (h:w.ownsRow base e size (.slice a n cap) n xs) (hn:0<n):∃g cur,a=some ⟨g,0,none⟩∧base≤g∧w.heap[g]?=some (.cells cur e (0,0)):=by
 rcases h.2 with ⟨_,h3⟩|⟨g,cap',cur,hv,hb,hh,_⟩
 ·omega
 ·simp only[Value.slice.injEq] at hv
  exact ⟨g,cur,hv.1,hb,hh⟩
end
section
open Go Go.RowKit
attribute [local go_sem] over_cell
attribute [local go_sem] Oper.semAt_some
def allM:Nat→Nat
 | 0=>0
 | k+1=>allM k ||| 2 ^ k
def begM (n:Nat) (x:Int):Nat:=if 0<x then 2 ^ (x.toNat - 1) else allM n
def begL (g:List Int):List Nat:=g.map (begM g.length)
end
section
open Go Go.RowKit
def findN {α:Type} (n:Nat) (f:Nat→Option α):Option α:=(List.range n).findSome? f
abbrev Rem:=Nat × Nat × Nat × Int
def singles (Ms:List Nat):List Nat:=Ms.filter fun s=>sizeM s==1
def oneM (Ms:List Nat):Nat:=onceTo (singles Ms) (singles Ms).length
def twoM (Ms:List Nat):Nat:=twiceTo (singles Ms) (singles Ms).length
def onceF (one two s:Nat):Nat:=aboveM (if sizeM s=1 then s &&& two else s &&& one) 0
def onceAt (one two:Nat) (Ms:List Nat) (c:Nat):Option Rem:=if 0<onceF one two (Ms[c]?.getD 0) then some (0,c,onceF one two (Ms[c]?.getD 0),-1) else none
def onceR (Ms:List Nat):Option Rem:=findN Ms.length (onceAt (oneM Ms) (twoM Ms) Ms)
def aloneM (Ms:List Nat):Nat:=minus (onceTo Ms Ms.length) (twiceTo Ms Ms.length)
def placeF (alone s:Nat):Nat:=if sizeM (s &&& alone)=0 then 0 else if sizeM (s &&& alone)=1 then aboveM (minus s (s &&& alone)) 0 else aboveM s 0
def placeAt (alone:Nat) (Ms:List Nat) (c:Nat):Option Rem:=if 0<placeF alone (Ms[c]?.getD 0) then some (2,c,placeF alone (Ms[c]?.getD 0),-1) else none
def placeR (Ms:List Nat):Option Rem:=findN Ms.length (placeAt (aloneM Ms) Ms)
def lowTo (Ms:List Nat) (l:List Int):Nat→Nat
 | 0=>0
 | j+1=>lowTo Ms l j+aboveM (Ms[(l[j]?.getD 0).toNat]?.getD 0) 0
def highTo (Ms:List Nat) (l:List Int):Nat→Nat
 | 0=>0
 | j+1=>highTo Ms l j+greatM (Ms[(l[j]?.getD 0).toNat]?.getD 0)
def lineF (sum:Int) (low high s:Nat):Nat :=
 if sum - ((high:Int) - greatM s)≤aboveM s 0 then aboveM s (max (sum - ((low:Int) - aboveM s 0)) 0).toNat else aboveM s 0
def lineAt (sum:Int) (low high:Nat) (Ms:List Nat) (k:Nat) (l:List Int) (j:Nat):Option Rem :=
 if 0<lineF sum low high (Ms[(l[j]?.getD 0).toNat]?.getD 0) then some (1,(l[j]?.getD 0).toNat,lineF sum low high (Ms[(l[j]?.getD 0).toNat]?.getD 0),k) else none
def lineK (sum:Int) (Ms:List Nat) (l:List Int) (k:Nat):Option Rem:=findN l.length (lineAt sum (lowTo Ms l l.length) (highTo Ms l l.length) Ms k l)
def lineR (ls:List (List Int)) (sum:Int) (Ms:List Nat):Option Rem:=findN ls.length fun k=>lineK sum Ms (ls[k]?.getD []) k
def stepR (ls:List (List Int)) (sum:Int) (M:Nat) (Ms:List Nat):Option Rem :=
 if contraB Ms M=true then none else match onceR Ms with
  | some r=>some r
  | none=>match lineR ls sum Ms with
   | some r=>some r
   | none=>placeR Ms
def dropR (Ms:List Nat) (r:Rem):List Nat:=Ms.set r.2.1 (clearBit (Ms[r.2.1]?.getD 0) (r.2.2.1 - 1))
def iterR (ls:List (List Int)) (sum:Int) (M:Nat):Nat→List Nat→List Rem × List Nat
 | 0,Ms=>([],Ms)
 | k+1,Ms=>match stepR ls sum M Ms with
  | none=>([],Ms)
  | some r=>(r :: (iterR ls sum M k (dropR Ms r)).1,(iterR ls sum M k (dropR Ms r)).2)
end
section
open Go Go.RowKit
attribute [local go_sem] over_cell
attribute [local go_sem] Oper.semAt_some
end
section
open Go Go.RowKit
attribute [local go_sem] over_cell
attribute [local go_sem] Oper.semAt_some
end
section
open Go Go.RowKit
end
section
open Go Go.RowKit
attribute [local go_sem] over_cell
attribute [local go_sem] Oper.semAt_some
end
section
open Go Go.RowKit
attribute [local go_sem] over_cell
attribute [local go_sem] Oper.semAt_some
end
section
open Go Go.RowKit
attribute [local go_sem] over_cell
attribute [local go_sem] Oper.semAt_some
def candL (M:Nat) (Ms:List Nat):List (List Int):=if contraB Ms M=true then Ms.map (fun _=>[]) else Ms.map elemsM
end
end Go.Proofs.YtaadpihbjhachaaGreat
