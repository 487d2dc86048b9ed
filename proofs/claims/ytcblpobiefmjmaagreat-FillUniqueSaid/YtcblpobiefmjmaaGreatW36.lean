/- Texts X1 to X2 of this proof, in one file. -/
import Derived.Test.YtcblpobiefmjmaaGreatW30
namespace Go.Proofs.YtcblpobiefmjmaaGreat
set_option maxRecDepth 100000
set_option maxHeartbeats 16000000
section
open Go Go.RowKit
attribute [local go_sem] over_cell
attribute [local go_sem] Oper.semAt_some
def fTo (out f:List Int) (j:Nat):List Int:=(List.range out.length).map fun k=>if k<j∧out[k]?.getD 0≠f[k]?.getD 0 then 0 else out[k]?.getD 0
theorem fTo_len (out f:List Int) (j:Nat):(fTo out f j).length=out.length:=by simp[fTo]
theorem fTo_get {out f:List Int} {j k:Nat} (hk:k<out.length):(fTo out f j)[k]?.getD 0=if k<j∧out[k]?.getD 0≠f[k]?.getD 0 then 0 else out[k]?.getD 0:=by
 unfold fTo
 rw[List.getElem?_map,List.getElem?_range hk]
 rfl
theorem ext_getD {a b:List Int} (hl:a.length=b.length) (h:∀k,k<a.length→a[k]?.getD 0=b[k]?.getD 0):a=b:=by
 apply List.ext_getElem hl
 intro k h1 h2
 have:=h k h1
 rw[List.getElem?_eq_getElem h1,List.getElem?_eq_getElem h2] at this
 simpa using this
theorem fTo_zero (out f:List Int):fTo out f 0=out :=
 ext_getD (fTo_len _ _ _) (fun k hk=>by rw[fTo_len] at hk;rw[fTo_get hk,if_neg (by omega)])
theorem fTo_self (out:List Int) (j:Nat):fTo out out j=out :=
 ext_getD (fTo_len _ _ _) (fun k hk=>by rw[fTo_len] at hk;rw[fTo_get hk,if_neg (fun h=>h.2 rfl)])
theorem fTo_keep {out f:List Int} {j:Nat} (h:out[j]?.getD 0=f[j]?.getD 0):fTo out f (j+1)=fTo out f j :=
 ext_getD (by rw[fTo_len,fTo_len]) (fun k hk=>by
  rw[fTo_len] at hk
  rw[fTo_get hk,fTo_get hk]
  by_cases e:k=j
  ·subst e
   rw[if_neg (fun h2=>h2.2 h),if_neg (by omega)]
  ·by_cases h2:k<j∧out[k]?.getD 0≠f[k]?.getD 0
   ·rw[if_pos h2,if_pos ⟨by omega,h2.2⟩]
   ·rw[if_neg h2,if_neg (fun h3=>h2 ⟨by omega,h3.2⟩)])
theorem fTo_drop {out f:List Int} {j:Nat} (hj:j<out.length) (h:out[j]?.getD 0≠f[j]?.getD 0):fTo out f (j+1)=(fTo out f j).set j 0 :=
 ext_getD (by rw[fTo_len,List.length_set,fTo_len]) (fun k hk=>by
  rw[fTo_len] at hk
  rw[fTo_get hk]
  by_cases e:k=j
  ·subst e
   rw[if_pos ⟨by omega,h⟩,List.getElem?_set_self (by rw[fTo_len];exact hk)];rfl
  ·rw[List.getElem?_set_ne (Ne.symm e),fTo_get hk]
   by_cases h2:k<j∧out[k]?.getD 0≠f[k]?.getD 0
   ·rw[if_pos h2,if_pos ⟨by omega,h2.2⟩]
   ·rw[if_neg h2,if_neg (fun h3=>h2 ⟨by omega,h3.2⟩)])
def fStep (out f:List Int):List Int:=fTo out f out.length
def forTo (L:List (List Int)) (i:Nat):List Int:=(L.take i).foldl fStep (L[0]?.getD [])
def forL (L:List (List Int)):List Int:=forTo L L.length
theorem forTo_succ {L:List (List Int)} {i:Nat} (h:i<L.length):forTo L (i+1)=fStep (forTo L i) (L[i]?.getD []):=by
 unfold forTo
 rw[take_snoc L [] i h,List.foldl_append]
 rfl
theorem fold_len:∀(l:List (List Int)) (o:List Int),(l.foldl fStep o).length=o.length
 | [],_=>rfl
 | x :: l,o=>by rw[List.foldl_cons,fold_len l];exact fTo_len _ _ _
theorem forTo_len (L:List (List Int)) (i:Nat):(forTo L i).length=(L[0]?.getD []).length:=fold_len _ _
end
section
open Go Go.RowKit
attribute [local go_sem] over_cell
attribute [local go_sem] Oper.semAt_some
theorem rforced_c (a:Option Addr) (n c:Nat) (L:List (List Int)) (m:Nat) (w:World) (h:RC w a n L) (hn:0<n) (hm:m≤256) (hm0:0<m) (hL:∀l,l∈L→l.length=m) :
  Calls Tryz.prog 49 #[.slice a n c] w fun e w'=>∃v,e = .returned v∧w'.ownsRow w.heap.size 3 1 v m ((forL L).map (Value.int .i64))∧Below w.heap.size w w':=by
 obtain ⟨i0,hi,hz0,hz1,hz2⟩:=info_parts infoInt
 have H:=Lib.hid h
 have hns:=h.small
 have hll:=Lib.hid h.len
 have hrl:∀i,i<n→(L[i]?.getD []).length=m:=fun i hi=>by
  have hi2:i<L.length:=by rw[hll.out];exact hi
  rw[List.getElem?_eq_getElem hi2]
  exact hL _ (List.getElem_mem hi2)
 have HRL:=Lib.hid hrl
 obtain ⟨b0,o0,a0,n0,c0,rfl,hb0,hc0,hic0,hcl0⟩:=h.2 0 hn
 have hn0:n0=m:=by rw[← hrl 0 hn];exact hic0.len.symm
 subst hn0
 rw[Nat.add_zero] at hc0
 have hni:(0:Int)<(n:Int):=by omega
 have hFL:Hid (∀i,(forTo L i).length=n0):=fun i=>by rw[forTo_len];exact hrl 0 hn
 have hownE:(w.alloc (.cells #[] 3)).ownsRow w.heap.size 3 1 (.slice (some ⟨w.heap.size,0,none⟩) 0 0) 0 []:=⟨rfl,.inr ⟨w.heap.size,0,#[],rfl,Nat.le_refl _,World.alloc_heap_new _ _,Nat.le_refl _,by unfold maxLen;omega,rfl,rfl⟩⟩
 have hBE:Below w.heap.size w (w.alloc (.cells #[] 3)):=(Below.refl _ _).alloc (Nat.le_refl _) _
 have hSR:SrcOk (w.alloc (.cells #[] 3)) a0 n0 ((L[0]?.getD []).map (Value.int .i64)):=(hic0.mono hBE).src
 have hc0':(w.alloc (.cells #[] 3)).cell? ⟨b0,o0,none⟩=some (.slice a0 n0 c0):=((bcell hBE).1 _ _ hb0).trans hc0
 have hb0':b0<(w.alloc (.cells #[] 3)).heap.size:=Nat.lt_of_lt_of_le hb0 hBE.size
 have hl0:=Lib.hid hic0.len
 clear h hrl hL hic0 hc0
 go_enter Tryz.func49,Tryz.ntmps49
 go_upto_region 2 with (at_builtin;refine wpList_append_any _ rfl _ _ 25 rfl w.heap.size 3 i0 (.int .i64 0) 8 Tryz.underlying25 hi hz0 hz1 hz2 rfl _ _ _ rfl hownE (by simp) _ _ _ ((L[0]?.getD []).map (Value.int .i64)) rfl (by rw[List.length_map];exact hl0.out) hSR (ints_one _) (by unfold maxLen;omega) (by omega) ?_;intro v5 w5 hown5 hst5 hk5)
 obtain ⟨a5,c5,rfl⟩:=owns_slice4 hown5
 simp only[Nat.zero_add,List.nil_append] at hown5 ⊢
 have hown6:w5.ownsRow w.heap.size 3 1 (.slice a5 n0 c5) n0 ((forTo L 0).map (Value.int .i64)):=hown5
 have hB5:Below w.heap.size w w5:=hBE.trans (hst5.below hBE.size (fun k e=>by cases e;exact Nat.le_refl _))
 obtain ⟨gb,cur,rfl,hgb,_⟩:=owns_blk hown6 hm0
 have hgb5:gb<w5.heap.size:=(hown6.lt gb rfl).2
 clear hown5 hst5 hk5 hownE hSR hc0' hb0' hBE
 go_wp2_with fail
 go_loopw [4,5] (fun iv _ wr=>∃i:Nat,i≤n∧iv = .int .i64 i∧wr.ownsRow w.heap.size 3 1 (.slice (some ⟨gb,0,none⟩) n0 c5) n0 ((forTo L i).map (Value.int .i64))∧Stays (fun b=>b=gb) w5 wr) (fun iv _ _=>n - (intOf iv).toNat)
 case atStart=>exact ⟨0,by omega,rfl,hown6,Stays.refl _ _⟩
 case round =>
  obtain ⟨i,hin,rfl,hown,hst⟩:=hrel
  by_cases hlt:i<n
  ·have hii:(i:Int)<(n:Int):=by omega
   have hil:(L[i]?.getD []).length=n0:=HRL.out i hlt
   obtain ⟨bi,oi,ai,ni,ci,e,hbi,hci,hici,_⟩:=H.out.2 i hlt
   cases e
   have hni2:ni=n0:=by rw[← hil];exact hici.len.symm
   subst hni2
   have hFS:=Lib.hid (forTo_succ (L:=L) (i:=i) (by rw[hll.out];exact hlt))
   have hOL:=hFL.out i
   obtain ⟨O,hO⟩:∃O,forTo L i=O:=⟨_,rfl⟩
   rw[hO] at hown hFS hOL
   obtain ⟨f,hf⟩:∃f,L[i]?.getD []=f:=⟨_,rfl⟩
   rw[hf] at hFS hici hil
   have HOL:=Lib.hid hOL
   have HOWN:Hid (wr.ownsRow w.heap.size 3 1 (.slice (some ⟨gb,0,none⟩) ni c5) ni ((fTo O f 0).map (Value.int .i64))):=by unfold Hid;rw[fTo_zero];exact hown
   clear hO hf hown hil hOL
   go_wp2_with fail
   go_loopw [5] (fun kv ws=>∃k:Nat,k≤ni∧kv = .int .i64 k∧ws.ownsRow w.heap.size 3 1 (.slice (some ⟨gb,0,none⟩) ni c5) ni ((fTo O f k).map (Value.int .i64))∧Stays (fun b=>b=gb) w5 ws) (fun kv _=>ni - (intOf kv).toNat)
   case atStart=>exact ⟨0,by omega,rfl,HOWN.out,hst⟩
   case round =>
    obtain ⟨k,hk,rfl,hown,hst⟩:=hrel
    by_cases hltk:k<ni
    ·have hki:(k:Int)<(ni:Int):=by omega
     obtain ⟨bf,of,rfl,hbf,hcf⟩:=hici.2 k hltk
     have hne1:b0≠gb:=by omega
     have hne2:bf≠gb:=by omega
     have hz5:=hB5.size
     have hci2:wr.cell? ⟨b0,o0+i,none⟩=some (.slice (some ⟨bf,of,none⟩) ni ci):=(hst.cell (by omega) hne1).trans (((bcell hB5).1 _ _ hbi).trans hci)
     have hbi2:b0<wr.heap.size:=by have:=hst.size;omega
     have hcf2:wr.cell? ⟨bf,of+k,none⟩=some (.int .i64 (f[k]?.getD 0)):=(hst.cell (by omega) hne2).trans (((bcell hB5).1 _ _ hbf).trans hcf)
     have hbf2:bf<wr.heap.size:=by have:=hst.size;omega
     obtain ⟨g9,c9,x9,e9,hx9,hcell9,hfr9,hlt9,hn9⟩:=owns_free hown k hltk
     simp only[Value.slice.injEq,Option.some.injEq,Addr.mk.injEq,true_and,and_true] at e9
     obtain ⟨rfl,hcap9⟩:=e9
     rw[← hcap9] at hn9
     have hval:x9 = .int .i64 (O[k]?.getD 0):=by
      rw[List.getElem?_map] at hx9
      have h1:k<(fTo O f k).length:=by rw[fTo_len,HOL.out];exact hltk
      have h2:=fTo_get (out:=O) (f:=f) (j:=k) (k:=k) (by rw[HOL.out];exact hltk)
      rw[if_neg (by omega),List.getElem?_eq_getElem h1,Option.getD_some] at h2
      rw[List.getElem?_eq_getElem h1] at hx9
      simp only[Option.map_some,Option.some.injEq] at hx9
      rw[← hx9,h2]
     subst hval
     have hkeep:Hid (O[k]?.getD 0=f[k]?.getD 0→fTo O f (k+1)=fTo O f k):=fTo_keep
     have hdrop:Hid (O[k]?.getD 0≠f[k]?.getD 0→fTo O f (k+1)=(fTo O f k).set k 0):=fTo_drop (by rw[HOL.out];exact hltk)
     generalize O[k]?.getD 0=x at hcell9 hkeep hdrop
     generalize f[k]?.getD 0=y at hcf2 hkeep hdrop
     by_cases exy:x=y
     ·have hF:=Lib.hid (hkeep.out exy)
      have mx:(x != y)=false:=by simpa using exy
      have HO7:=Lib.hid hown
      have HS7:=Lib.hid hst
      clear hown hst exy hcf hci hx9 hcap9
      go_wp2_with fail
      refine wp_region_S (fun w'=>∃u,w'=over (wr) u) [] [(0,0),(0,1),(0,2),(0,3),(0,4),(0,5),(0,6),(0,7),(0,8),(0,9),(0,10),(0,11)] (by kernel_rfl) (by kernel_rfl) (by exact ⟨_,below_over (by repeat (first|assumption|exact Below.refl _ _|refine keep_drew ?_|refine keep_alloc ?_ _|refine keep_trans ?_ (by assumption)))⟩) ?_
      dsimp only[pickOps,nthOp]
      repeat (first|(refine wpS_skip rfl (fun K hK=>?_);go_big_quiet_op;refine hK _ ?_;clear hK K)|(refine wpS_quiet rfl rfl (fun K hK=>?_);go_big_quiet_op;refine hK _ ?_;clear hK K))
      refine wpS_end ?_
      go_wp2
      go_roundw
      case rel=>exact ⟨k+1,by omega,by go_num,by rw[hF.out];exact HO7.out,HS7.out.drew⟩
      case measure=>simp[intOf];omega
     ·have hF:=Lib.hid (hdrop.out exy)
      have mx:(x != y)=true:=by simpa using exy
      have o7:(wr.drew.setCell ⟨gb,k,none⟩ (.int .i64 0)).ownsRow w.heap.size 3 1 (.slice (some ⟨gb,0,none⟩) ni c5) ni ((fTo O f (k+1)).map (Value.int .i64)):=by rw[hF.out,List.map_set];exact owns_set (w:=wr.drew) hown k _
      have s7:Stays (fun b=>b=gb) w5 (wr.drew.setCell ⟨gb,k,none⟩ (.int .i64 0)):=hst.drew.trans (Stays.setCell (S:=fun b=>b=gb) wr.drew (p:=⟨gb,k,none⟩) rfl _) (fun _ e => .inl e)
      have HO7:=Lib.hid o7
      have HS7:=Lib.hid s7
      clear hown hst exy hcf hci hx9 hcap9 o7 s7
      go_wp2_with fail
      refine wp_region_S (fun w'=>∃u,w'=over (wr) u) [] [(0,0),(0,1),(0,2),(0,3),(0,4),(0,5),(0,6),(0,7),(0,8),(0,9),(0,10),(0,11)] (by kernel_rfl) (by kernel_rfl) (by exact ⟨_,below_over (by repeat (first|assumption|exact Below.refl _ _|refine keep_drew ?_|refine keep_alloc ?_ _|refine keep_trans ?_ (by assumption)))⟩) ?_
      dsimp only[pickOps,nthOp]
      repeat (first|(refine wpS_skip rfl (fun K hK=>?_);go_big_quiet_op;refine hK _ ?_;clear hK K)|(refine wpS_quiet rfl rfl (fun K hK=>?_);go_big_quiet_op;refine hK _ ?_;clear hK K))
      refine wpS_end ?_
      go_wp2
      go_roundw
      case rel=>exact ⟨k+1,by omega,by go_num,HO7.out,HS7.out⟩
      case measure=>simp[intOf];omega
    ·have e:k=ni:=by omega
     subst e
     have HX:Hid (wr.ownsRow w.heap.size 3 1 (.slice (some ⟨gb,0,none⟩) k c5) k ((forTo L (i+1)).map (Value.int .i64))):=by unfold Hid;rw[hFS.out];unfold fStep;rw[HOL.out];exact hown
     have HS7:=Lib.hid hst
     clear hown hst
     go_wp2
     go_roundw
     case rel=>exact ⟨i+1,by omega,by go_num,HX.out,HS7.out⟩
     case measure=>simp[intOf];omega
  ·have e:i=n:=by omega
   subst e
   have HX:Hid (wr.ownsRow w.heap.size 3 1 (.slice (some ⟨gb,0,none⟩) n0 c5) n0 ((forL L).map (Value.int .i64))):=by unfold Hid forL;rw[hll.out];exact hown
   have HS7:=Lib.hid hst
   clear hown hst
   go_wp2
   go_ret
   exact ⟨_,rfl,HX.out,hB5.trans (HS7.out.below hB5.size (fun b e=>by omega))⟩
end
end Go.Proofs.YtcblpobiefmjmaaGreat
