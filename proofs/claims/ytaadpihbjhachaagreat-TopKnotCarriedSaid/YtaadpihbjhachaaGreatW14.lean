/- Texts H16 to H16 of this proof, in one file. -/
import Derived.Test.YtaadpihbjhachaaGreatW11
import Derived.Test.YtaadpihbjhachaaGreatW12
namespace Go.Proofs.YtaadpihbjhachaaGreat
set_option maxRecDepth 100000
set_option maxHeartbeats 16000000
section
open Go Go.RowKit
attribute [local go_sem] over_cell
attribute [local go_sem] Oper.semAt_some
def StC (w:World) (a:Option Addr) (n:Nat) (xs:List ByteArray):Prop :=
 (xs.length=n∧n≤17592186044416)∧∀k,k<n→∃b off,a=some ⟨b,off,none⟩∧b<w.heap.size∧w.cell? ⟨b,off+k,none⟩=some (.string (xs[k]?.getD ⟨#[]⟩))
theorem sindex_c (a:Option Addr) (n c:Nat) (xs:List ByteArray) (x:ByteArray) (w:World) (h:StC w a n xs) :
  Calls Tryz.prog 212 #[.slice a n c,.string x] w fun e w'=>e = .returned (.int .i64 (idxP (fun k=>isK x (xs[k]?.getD ⟨#[]⟩)) n))∧w=w':=by
 have hm:=h.1.2
 go_enter Tryz.func212,Tryz.ntmps212
 go_wp2
 go_loop [5,8] (fun _ i=>∃k:Nat,k≤n∧i = .int .i64 k∧Hid (∀j,j<k→isK x (xs[j]?.getD ⟨#[]⟩)=false)) (fun _ i=>n - (intOf i).toNat)
 case atStart=>exact ⟨0,by omega,rfl,fun j hj=>absurd hj (by omega)⟩
 case round =>
  obtain ⟨k,hk,rfl,hn⟩:=hrel
  by_cases hlt:k<n
  ·obtain ⟨b,off,rfl,hb,hc⟩:=h.2 k hlt
   have hK:=Lib.hid (upB_snoc (f:=fun j=>isK x (xs[j]?.getD ⟨#[]⟩)) hn.out)
   have hH:=Lib.hid (fun e=>idxP_hit (p:=fun j=>isK x (xs[j]?.getD ⟨#[]⟩)) hn.out hlt e)
   generalize xs[k]?.getD ⟨#[]⟩=y at hc hK hH
   go_wp2
   ·have he:(x.toList==y.toList)=true:=by assumption
    go_ret
    exact ⟨ret_int (hH.out he).symm,rfl⟩
   ·have he:(x.toList==y.toList)=false:=by assumption
    go_round
    case rel=>exact ⟨k+1,by omega,by go_num,hK.out he⟩
    case measure=>simp[intOf];omega
  ·have e:k=n:=by omega
   subst e
   go_wp2
   go_ret
   exact ⟨ret_int (idxP_none hn.out).symm,rfl⟩
theorem scontains_c (a:Option Addr) (n c:Nat) (xs:List ByteArray) (x:ByteArray) (w:World) (h:StC w a n xs) :
  Calls Tryz.prog 149 #[.slice a n c,.string x] w fun e w'=>e = .returned (.bool (anyP (fun k=>isK x (xs[k]?.getD ⟨#[]⟩)) n))∧w=w':=by
 have hE:Hid (decide (0≤idxP (fun k=>isK x (xs[k]?.getD ⟨#[]⟩)) n)=anyP (fun k=>isK x (xs[k]?.getD ⟨#[]⟩)) n):=by
  unfold Hid;rw[idxP_ge]
 have hI:=sindex_c a n c xs x w h
 generalize idxP (fun k=>isK x (xs[k]?.getD ⟨#[]⟩)) n=r at hE hI
 have HI:=Lib.hid hI
 clear hI
 go_enter Tryz.func149,Tryz.ntmps149
 go_wp2_with (go_at_call 212;refine HI.out.mono ?_;rintro e w1 ⟨rfl,rfl⟩)
 go_ret
 exact ⟨ret_bool hE.out,rfl⟩
def kindB (s:ByteArray):Bool:=isK s kLine||(isK s kCell||isK s kNumber)
theorem any3 (s:ByteArray):anyP (fun k=>isK s (([kLine,kCell,kNumber]:List ByteArray)[k]?.getD ⟨#[]⟩)) 3=kindB s:=by
 simp[anyP,List.range_succ,kindB]
def nodeBad (n:Nat) (d:Nd):Int:=firstL [whenV (!kindB d.kind) 13,whenV (decide (d.kids<0)||decide ((n:Int)<d.kids)) 3]
def ndAt (T:List Nd) (k:Nat):Nd:=T[k]?.getD ⟨⟨#[]⟩,0,0,0,0⟩
def treeErr (n:Nat) (T:List Nd):Int:=if 1000000<T.length then 5 else errs (fun k=>nodeBad n (ndAt T k)) T.length
theorem StC.new3 (w:World) (x y z:ByteArray) (T:TypeId):StC (w.alloc (.cells #[.string x,.string y,.string z] T)) (some ⟨w.heap.size,0,none⟩) 3 [x,y,z] :=
 ⟨⟨rfl,by omega⟩,fun k hk=>⟨w.heap.size,0,rfl,by simp,by
  rw[Nat.zero_add,box_cells]
  match k,hk with
  | 0,_=>rfl
  | 1,_=>rfl
  | 2,_=>rfl⟩⟩
theorem tree_c (v0 v1 v2:Value) (a':Option Addr) (n' c':Nat) (a:Option Addr) (n c:Nat) (T:List Nd) (w:World) (ht:TC w a n T) :
  Calls Tryz.prog 75 #[.agg #[v0,v1,v2,.slice a' n' c'],.slice a n c] w fun e w'=>e = .returned (.int .i64 (treeErr n' T))∧Below w.heap.size w w':=by
 have HT:=Lib.hid ht
 have hns:=ht.1.2
 have htl:=Lib.hid ht.1.1
 have hTE:Hid (treeErr n' T=if 1000000<n then 5 else errs (fun k=>nodeBad n' (ndAt T k)) n):=by unfold Hid treeErr;rw[ht.1.1]
 clear ht
 by_cases hbig:1000000<n
 ·rw[if_pos hbig] at hTE
  have hb2:(1000000:Int)<(n:Int):=by omega
  clear hbig
  go_enter Tryz.func75,Tryz.ntmps75
  go_wp2_with fail
  have fsz:(w.alloc (.cells #[v0,v1,v2,.slice a' n' c'] 27)).heap.size=w.heap.size+1:=by simp only[World.size_alloc]
  have fB:Below w.heap.size w (w.alloc (.cells #[v0,v1,v2,.slice a' n' c'] 27)):=(Below.refl _ _).alloc (Nat.le_refl _) _
  have fq0:(w.alloc (.cells #[v0,v1,v2,.slice a' n' c'] 27)).heap[w.heap.size]?=some (.cells #[v0,v1,v2,.slice a' n' c'] 27 (0,0)):=by have h:=World.alloc_heap_new w (.cells #[v0,v1,v2,.slice a' n' c'] 27);exact h
  generalize (w.alloc (.cells #[v0,v1,v2,.slice a' n' c'] 27))=W0 at fsz fB fq0 ⊢
  have HQ:=Lib.hid fq0
  clear fq0 fsz
  go_ret
  exact ⟨ret_int hTE.out.symm,fB⟩
 ·rw[if_neg hbig] at hTE
  have hb2:¬(1000000:Int)<(n:Int):=by omega
  clear hbig
  go_enter Tryz.func75,Tryz.ntmps75
  go_wp2_with fail
  have fsz:(w.alloc (.cells #[v0,v1,v2,.slice a' n' c'] 27)).heap.size=w.heap.size+1:=by simp only[World.size_alloc]
  have fB:Below w.heap.size w (w.alloc (.cells #[v0,v1,v2,.slice a' n' c'] 27)):=(Below.refl _ _).alloc (Nat.le_refl _) _
  have fq0:(w.alloc (.cells #[v0,v1,v2,.slice a' n' c'] 27)).heap[w.heap.size]?=some (.cells #[v0,v1,v2,.slice a' n' c'] 27 (0,0)):=by have h:=World.alloc_heap_new w (.cells #[v0,v1,v2,.slice a' n' c'] 27);exact h
  generalize (w.alloc (.cells #[v0,v1,v2,.slice a' n' c'] 27))=W0 at fsz fB fq0 ⊢
  have HQ:=Lib.hid fq0
  clear fq0 fsz
  go_loopw [6,7,8,14] (fun _ _ _ i wr=>∃k:Nat,k≤n∧i = .int .i64 k∧Hid (∀j,j<k→nodeBad n' (ndAt T j)=0)∧Below W0.heap.size W0 wr) (fun _ _ _ i _=>n - (intOf i).toNat)
  case atStart=>exact ⟨0,by omega,rfl,fun j hj=>absurd hj (by omega),Below.refl _ _⟩
  case round =>
   obtain ⟨k,hk,rfl,hno,hbr⟩:=hrel
   have hBr:=fB.trans (hbr.mono fB.size)
   by_cases hlt:k<n
   ·obtain ⟨d,hd⟩:∃d,T[k]?=some d:=⟨T[k]'(by rw[htl.out];exact hlt),List.getElem?_eq_getElem _⟩
    have HND:Hid (ndAt T k=d):=by unfold Hid ndAt;rw[hd];rfl
    obtain ⟨bt,off,rfl,hbt,t0,t1,t2,t3,t4⟩:=(HT.out.mono hBr).2 k d hd
    have hki:(k:Int)<(n:Int):=by omega
    have x3:wr.cell? ⟨w.heap.size,3,none⟩=some (.slice a' n' c'):=q_cell (keepq hbr HQ.out) 3
    have xl:=q_lt (keepq hbr HQ.out)
    have HQr:=Lib.hid (keepq hbr HQ.out)
    clear hd
    go_wp2_with fail
    have gsz:((wr.alloc (.cells #[.string d.kind,.int .i64 d.cell,.int .i64 d.line,.int .i64 d.number,.int .i64 d.kids] 104)).alloc (.cells #[.string ⟨#[108,105,110,101]⟩,.string ⟨#[99,101,108,108]⟩,.string ⟨#[110,117,109,98,101,114]⟩] 9)).heap.size=wr.heap.size+2:=by simp only[World.size_alloc] <;> omega
    have gB:Below wr.heap.size wr ((wr.alloc (.cells #[.string d.kind,.int .i64 d.cell,.int .i64 d.line,.int .i64 d.number,.int .i64 d.kids] 104)).alloc (.cells #[.string ⟨#[108,105,110,101]⟩,.string ⟨#[99,101,108,108]⟩,.string ⟨#[110,117,109,98,101,114]⟩] 9)):=((Below.refl _ _).alloc (Nat.le_refl _) _).alloc (by simp only[World.size_alloc];omega) _
    have gq0:((wr.alloc (.cells #[.string d.kind,.int .i64 d.cell,.int .i64 d.line,.int .i64 d.number,.int .i64 d.kids] 104)).alloc (.cells #[.string ⟨#[108,105,110,101]⟩,.string ⟨#[99,101,108,108]⟩,.string ⟨#[110,117,109,98,101,114]⟩] 9)).heap[wr.heap.size]?=some (.cells #[.string d.kind,.int .i64 d.cell,.int .i64 d.line,.int .i64 d.number,.int .i64 d.kids] 104 (0,0)):=by have h:=World.alloc_heap_new wr (.cells #[.string d.kind,.int .i64 d.cell,.int .i64 d.line,.int .i64 d.number,.int .i64 d.kids] 104);exact (Below.heap_alloc _ _ _ (by simp only[World.size_alloc];omega)).trans (h)
    have gq1:((wr.alloc (.cells #[.string d.kind,.int .i64 d.cell,.int .i64 d.line,.int .i64 d.number,.int .i64 d.kids] 104)).alloc (.cells #[.string ⟨#[108,105,110,101]⟩,.string ⟨#[99,101,108,108]⟩,.string ⟨#[110,117,109,98,101,114]⟩] 9)).heap[wr.heap.size+1]?=some (.cells #[.string ⟨#[108,105,110,101]⟩,.string ⟨#[99,101,108,108]⟩,.string ⟨#[110,117,109,98,101,114]⟩] 9 (0,0)):=by have h:=World.alloc_heap_new (wr.alloc (.cells #[.string d.kind,.int .i64 d.cell,.int .i64 d.line,.int .i64 d.number,.int .i64 d.kids] 104)) (.cells #[.string ⟨#[108,105,110,101]⟩,.string ⟨#[99,101,108,108]⟩,.string ⟨#[110,117,109,98,101,114]⟩] 9);simp only[World.size_alloc] at h;exact h
    generalize ((wr.alloc (.cells #[.string d.kind,.int .i64 d.cell,.int .i64 d.line,.int .i64 d.number,.int .i64 d.kids] 104)).alloc (.cells #[.string ⟨#[108,105,110,101]⟩,.string ⟨#[99,101,108,108]⟩,.string ⟨#[110,117,109,98,101,114]⟩] 9))=W1 at gsz gB gq0 gq1 ⊢
    have gsz':wr.heap.size+1<W1.heap.size:=by omega
    have hst3:StC W1 (some ⟨wr.heap.size+1,0,none⟩) 3 [kLine,kCell,kNumber]:=⟨⟨rfl,by omega⟩,fun k hk=>⟨_,0,rfl,gsz',by
     rw[Nat.zero_add]
     match k,hk with
     | 0,_=>exact q_cell gq1 0
     | 1,_=>exact q_cell gq1 1
     | 2,_=>exact q_cell gq1 2⟩⟩
    have HSC:=Lib.hid (scontains_c _ 3 3 _ d.kind W1 hst3)
    rw[any3] at HSC
    have y4:W1.cell? ⟨wr.heap.size,4,none⟩=some (.int .i64 d.kids):=q_cell gq0 4
    have yl:=q_lt gq0
    have z3:W1.cell? ⟨w.heap.size,3,none⟩=some (.slice a' n' c'):=q_cell (keepq gB HQr.out) 3
    have zl:=q_lt (keepq gB HQr.out)
    have hB1:Below W0.heap.size W0 W1:=hbr.trans (gB.mono hbr.size)
    have hBW1:Below w.heap.size w W1:=hBr.trans (gB.mono hBr.size)
    have hG:Hid (nodeBad n' d=firstL [whenV (!kindB d.kind) 13,whenV (decide (d.kids<0)||decide ((n':Int)<d.kids)) 3]):=rfl
    clear gq0 gq1 gsz x3 xl hst3 t0 t1 t2 t3 t4
    generalize kindB d.kind=K at HSC hG
    refine HSC.out.mono ?_
    rintro _ w5 ⟨rfl,rfl⟩
    by_cases hk0:d.kids<0
    ·have eB:(decide (d.kids<0)||decide ((n':Int)<d.kids))=true:=by simp[hk0]
     rw[eB] at hG
     by_cases hq:firstL [whenV (!K) 13,whenV (true) 3]=0
     ·have hq':(firstL [whenV (!K) 13,whenV (true) 3] != 0)=false:=by simpa using hq
      have hQ:=Lib.hid hq
      clear hq eB
      go_wp2_with fail
      refine wp_region_S (fun w'=>∃u,w'=over (W1) u) [17,16,15,14] [(0,0),(0,1),(0,3),(0,4),(0,5),(1,2),(0,6),(0,7),(0,8),(0,9),(0,10),(0,11),(0,12),(0,13),(2,14),(2,15),(2,16),(2,17)] (by kernel_rfl) (by kernel_rfl) (by exact ⟨_,below_over (by repeat (first|assumption|exact Below.refl _ _|refine keep_drew ?_|refine keep_alloc ?_ _|refine keep_trans ?_ (by assumption)))⟩) ?_
      dsimp only[pickOps,nthOp]
      repeat (first|(refine wpS_skip rfl (fun K hK=>?_);go_big_quiet_op;refine hK _ ?_;clear hK K)|(refine wpS_quiet rfl rfl (fun K hK=>?_);go_big_quiet_op;refine hK _ ?_;clear hK K)|(refine wpS_loud ?_;go_wp2_with (first|(go_at_call 66;refine (when_c _ _ _).mono ?_;rintro _ w2 ⟨rfl,rfl⟩)|(go_at_call 65;refine (first_c _ _ _ _ _ ((IC.new2 _ _ _ _).mono (keep_drew (Below.refl _ _)))).mono ?_;rintro _ w4 ⟨rfl,rfl⟩));refine ⟨?_,?_⟩;focus (exact ⟨_,below_over (by repeat (first|assumption|exact Below.refl _ _|refine keep_drew ?_|refine keep_alloc ?_ _|refine keep_trans ?_ (by assumption)))⟩)))
      refine wpS_late _ _ _ rfl ?_
      dsimp only[List.map]
      go_wp2_with (first|(go_at_call 66;refine (when_c _ _ _).mono ?_;rintro _ w2 ⟨rfl,rfl⟩)|(go_at_call 65;refine (first_c _ _ _ _ _ ((IC.new2 _ _ _ _).mono (keep_drew (Below.refl _ _)))).mono ?_;rintro _ w4 ⟨rfl,rfl⟩))
      refine NoPanic.normal ?_
      go_wp2
      go_roundw
      case rel=>exact ⟨k+1,by omega,by go_num,upto_snoc hno.out (by rw[HND.out,hG.out];exact hQ.out),(hB1.alloc hB1.size _).drew⟩
      case measure=>simp[intOf];omega
     ·have hq':(firstL [whenV (!K) 13,whenV (true) 3] != 0)=true:=by simpa using hq
      have hQ:=Lib.hid hq
      clear hq eB
      go_wp2_with fail
      refine wp_region_S (fun w'=>∃u,w'=over (W1) u) [17,16,15,14] [(0,0),(0,1),(0,3),(0,4),(0,5),(1,2),(0,6),(0,7),(0,8),(0,9),(0,10),(0,11),(0,12),(0,13),(2,14),(2,15),(2,16),(2,17)] (by kernel_rfl) (by kernel_rfl) (by exact ⟨_,below_over (by repeat (first|assumption|exact Below.refl _ _|refine keep_drew ?_|refine keep_alloc ?_ _|refine keep_trans ?_ (by assumption)))⟩) ?_
      dsimp only[pickOps,nthOp]
      repeat (first|(refine wpS_skip rfl (fun K hK=>?_);go_big_quiet_op;refine hK _ ?_;clear hK K)|(refine wpS_quiet rfl rfl (fun K hK=>?_);go_big_quiet_op;refine hK _ ?_;clear hK K)|(refine wpS_loud ?_;go_wp2_with (first|(go_at_call 66;refine (when_c _ _ _).mono ?_;rintro _ w2 ⟨rfl,rfl⟩)|(go_at_call 65;refine (first_c _ _ _ _ _ ((IC.new2 _ _ _ _).mono (keep_drew (Below.refl _ _)))).mono ?_;rintro _ w4 ⟨rfl,rfl⟩));refine ⟨?_,?_⟩;focus (exact ⟨_,below_over (by repeat (first|assumption|exact Below.refl _ _|refine keep_drew ?_|refine keep_alloc ?_ _|refine keep_trans ?_ (by assumption)))⟩)))
      refine wpS_late _ _ _ rfl ?_
      dsimp only[List.map]
      go_wp2_with (first|(go_at_call 66;refine (when_c _ _ _).mono ?_;rintro _ w2 ⟨rfl,rfl⟩)|(go_at_call 65;refine (first_c _ _ _ _ _ ((IC.new2 _ _ _ _).mono (keep_drew (Below.refl _ _)))).mono ?_;rintro _ w4 ⟨rfl,rfl⟩))
      refine NoPanic.normal ?_
      go_wp2
      go_ret
      have h1:=errs_found hno.out hlt (by rw[HND.out,hG.out];exact hQ.out)
      exact ⟨ret_int (by rw[hTE.out,h1,HND.out,hG.out]),(hBW1.alloc hBW1.size _).drew⟩
    ·have eB:(decide (d.kids<0)||decide ((n':Int)<d.kids))=decide ((n':Int)<d.kids):=by simp[hk0]
     rw[eB] at hG
     have hkd:decide (d.kids<0)=false:=by simp[hk0]
     by_cases hq:firstL [whenV (!K) 13,whenV (decide ((n':Int)<d.kids)) 3]=0
     ·have hq':(firstL [whenV (!K) 13,whenV (decide ((n':Int)<d.kids)) 3] != 0)=false:=by simpa using hq
      have hQ:=Lib.hid hq
      clear hq eB
      go_wp2_with fail
      refine wp_region_S (fun w'=>∃u,w'=over (W1) u) [17,16,15,14] [(0,0),(0,1),(0,3),(0,4),(0,5),(1,2),(0,6),(0,7),(0,8),(0,9),(0,10),(0,11),(0,12),(0,13),(2,14),(2,15),(2,16),(2,17)] (by kernel_rfl) (by kernel_rfl) (by exact ⟨_,below_over (by repeat (first|assumption|exact Below.refl _ _|refine keep_drew ?_|refine keep_alloc ?_ _|refine keep_trans ?_ (by assumption)))⟩) ?_
      dsimp only[pickOps,nthOp]
      repeat (first|(refine wpS_skip rfl (fun K hK=>?_);go_big_quiet_op;refine hK _ ?_;clear hK K)|(refine wpS_quiet rfl rfl (fun K hK=>?_);go_big_quiet_op;refine hK _ ?_;clear hK K)|(refine wpS_loud ?_;go_wp2_with (first|(go_at_call 66;refine (when_c _ _ _).mono ?_;rintro _ w2 ⟨rfl,rfl⟩)|(go_at_call 65;refine (first_c _ _ _ _ _ ((IC.new2 _ _ _ _).mono (keep_drew (Below.refl _ _)))).mono ?_;rintro _ w4 ⟨rfl,rfl⟩));refine ⟨?_,?_⟩;focus (exact ⟨_,below_over (by repeat (first|assumption|exact Below.refl _ _|refine keep_drew ?_|refine keep_alloc ?_ _|refine keep_trans ?_ (by assumption)))⟩)))
      refine wpS_late _ _ _ rfl ?_
      dsimp only[List.map]
      go_wp2_with (first|(go_at_call 66;refine (when_c _ _ _).mono ?_;rintro _ w2 ⟨rfl,rfl⟩)|(go_at_call 65;refine (first_c _ _ _ _ _ ((IC.new2 _ _ _ _).mono (keep_drew (Below.refl _ _)))).mono ?_;rintro _ w4 ⟨rfl,rfl⟩))
      refine NoPanic.normal ?_
      go_wp2
      go_roundw
      case rel=>exact ⟨k+1,by omega,by go_num,upto_snoc hno.out (by rw[HND.out,hG.out];exact hQ.out),(hB1.alloc hB1.size _).drew⟩
      case measure=>simp[intOf];omega
     ·have hq':(firstL [whenV (!K) 13,whenV (decide ((n':Int)<d.kids)) 3] != 0)=true:=by simpa using hq
      have hQ:=Lib.hid hq
      clear hq eB
      go_wp2_with fail
      refine wp_region_S (fun w'=>∃u,w'=over (W1) u) [17,16,15,14] [(0,0),(0,1),(0,3),(0,4),(0,5),(1,2),(0,6),(0,7),(0,8),(0,9),(0,10),(0,11),(0,12),(0,13),(2,14),(2,15),(2,16),(2,17)] (by kernel_rfl) (by kernel_rfl) (by exact ⟨_,below_over (by repeat (first|assumption|exact Below.refl _ _|refine keep_drew ?_|refine keep_alloc ?_ _|refine keep_trans ?_ (by assumption)))⟩) ?_
      dsimp only[pickOps,nthOp]
      repeat (first|(refine wpS_skip rfl (fun K hK=>?_);go_big_quiet_op;refine hK _ ?_;clear hK K)|(refine wpS_quiet rfl rfl (fun K hK=>?_);go_big_quiet_op;refine hK _ ?_;clear hK K)|(refine wpS_loud ?_;go_wp2_with (first|(go_at_call 66;refine (when_c _ _ _).mono ?_;rintro _ w2 ⟨rfl,rfl⟩)|(go_at_call 65;refine (first_c _ _ _ _ _ ((IC.new2 _ _ _ _).mono (keep_drew (Below.refl _ _)))).mono ?_;rintro _ w4 ⟨rfl,rfl⟩));refine ⟨?_,?_⟩;focus (exact ⟨_,below_over (by repeat (first|assumption|exact Below.refl _ _|refine keep_drew ?_|refine keep_alloc ?_ _|refine keep_trans ?_ (by assumption)))⟩)))
      refine wpS_late _ _ _ rfl ?_
      dsimp only[List.map]
      go_wp2_with (first|(go_at_call 66;refine (when_c _ _ _).mono ?_;rintro _ w2 ⟨rfl,rfl⟩)|(go_at_call 65;refine (first_c _ _ _ _ _ ((IC.new2 _ _ _ _).mono (keep_drew (Below.refl _ _)))).mono ?_;rintro _ w4 ⟨rfl,rfl⟩))
      refine NoPanic.normal ?_
      go_wp2
      go_ret
      have h1:=errs_found hno.out hlt (by rw[HND.out,hG.out];exact hQ.out)
      exact ⟨ret_int (by rw[hTE.out,h1,HND.out,hG.out]),(hBW1.alloc hBW1.size _).drew⟩
   ·have e:k=n:=by omega
    subst e
    go_wp2_with fail
    go_ret
    exact ⟨ret_int (by rw[hTE.out,errs_none hno.out]),hBr⟩
end
end Go.Proofs.YtaadpihbjhachaaGreat
