/- Texts C22 to C25 of this proof, in one file. -/
import Derived.Test.YtaadpihbjhachaaGreatW06
namespace Go.Proofs.YtaadpihbjhachaaGreat
set_option maxRecDepth 100000
set_option maxHeartbeats 16000000
section
open Go Go.RowKit
attribute [local go_sem] over_cell
theorem infoRows:(Tryz.prog.info? 22).map (fun i=>(i.zero,i.size,i.bytes))=some (some (.slice none 0 0),1,24):=by kernel_rfl
theorem infoRow:(Tryz.prog.info? 25).map (fun i=>(i.zero,i.size,i.bytes))=some (some (.slice none 0 0),1,24):=by kernel_rfl
theorem lineV_keep {w w':World} {a:Option Addr} {n:Nat} {ls:List (List Int)} (h:RC w a n ls) (hb:Below w.heap.size w w') (i:Nat) (hi:i<n):lineV w' a i=lineV w a i:=by
 obtain ⟨bl,off,_,_,_,e,hl,_⟩:=h.2 i hi
 subst e
 simp only[lineV]
 rw[(bcell hb).1 _ _ hl]
theorem cell_one_drew (w:World) (v:Value) (t:TypeId):∀j u,([v]:List Value)[j]?=some u→(w.alloc (.cells #[v] t)).drew.cell? ((⟨w.heap.size,0,none⟩:Addr).add j)=some u:=cell_one_new w v t
theorem owns_drew {w:World} {B:Nat} {e:TypeId} {size:Nat} {v:Value} {n:Nat} {xs:List Value} (h:w.ownsRow B e size v n xs):w.drew.ownsRow B e size v n xs:=h
theorem owns_len {w:World} {B:Nat} {e:TypeId} {v:Value} {n:Nat} {xs:List Value} (h:w.ownsRow B e 1 v n xs):w.ownsRow 0 e 1 v n xs:=owns_base h (Nat.zero_le _)
theorem searchOf_c (a:Option Addr) (n c:Nat) (ls:List (List Int)) (cells sum:Int) (a':Option Addr) (n' c':Nat) (g:List Int) (w:World) (h:RC w a n ls) (hcap:n≤c) (hnl:n≤1000000) (h':IC w a' n' g) (hm:n'≤256) (hg:∀k:Nat,k<n'→0≤g[k]?.getD 0∧g[k]?.getD 0≤256)
  (hline:∀l,l∈ls→l.length≤1000∧∀x,x∈l→0≤x∧x<(n':Int)) (Old:Nat→Prop) (hOl:∀k,Old k→k<w.heap.size)
  (hOld:Sure Old w (fun w'=>∀i,i<n→∃a9 n9 c9,lineV w a i = .slice a9 n9 c9∧IC w' a9 n9 (ls[i]?.getD [])∧n9≤c9)) :
  Calls Tryz.prog 128 #[.agg #[.int .i64 cells,.slice a n c,.int .i64 sum,.slice a' n' c']] w fun e w'=>∃b Im ao co al cl vf,e = .returned (.pointer (some ⟨b,0,none⟩))∧SR w' b Im ⟨cells,a,n,c,ls,sum,a',n',c',g,ao,co,al,cl⟩ vf (.slice none 0 0) []∧Below w.heap.size w w'∧w.heap.size≤b∧(∀k,vf.ownBlock=some k→w.heap.size≤k)∧(∀k,Im k→Old k∨w.heap.size≤k):=by
 have HLINE:=Lib.hid hline
 have HOL:=Lib.hid hOl
 have HOLD:=Lib.hid hOld
 have HH:=Lib.hid h
 clear hline hOl hOld
 go_enter Tryz.func128,Tryz.ntmps128
 go_wp2
 have hsz:w.heap.size<(w.alloc (.cells #[.int .i64 cells,.slice a n c,.int .i64 sum,.slice a' n' c'] 27)).heap.size:=by simp
 have hszE:(w.alloc (.cells #[.int .i64 cells,.slice a n c,.int .i64 sum,.slice a' n' c'] 27)).heap.size=w.heap.size+1:=by simp
 have hB:Below w.heap.size w (w.alloc (.cells #[.int .i64 cells,.slice a n c,.int .i64 sum,.slice a' n' c'] 27)):=(Below.refl _ _).alloc (Nat.le_refl _) _
 have x0:(w.alloc (.cells #[.int .i64 cells,.slice a n c,.int .i64 sum,.slice a' n' c'] 27)).cell? ⟨w.heap.size,0,none⟩=some (.int .i64 cells):=(box_cells w #[.int .i64 cells,.slice a n c,.int .i64 sum,.slice a' n' c'] 27 0).trans rfl
 have x1:(w.alloc (.cells #[.int .i64 cells,.slice a n c,.int .i64 sum,.slice a' n' c'] 27)).cell? ⟨w.heap.size,1,none⟩=some (.slice a n c):=(box_cells w #[.int .i64 cells,.slice a n c,.int .i64 sum,.slice a' n' c'] 27 1).trans rfl
 have x2:(w.alloc (.cells #[.int .i64 cells,.slice a n c,.int .i64 sum,.slice a' n' c'] 27)).cell? ⟨w.heap.size,2,none⟩=some (.int .i64 sum):=(box_cells w #[.int .i64 cells,.slice a n c,.int .i64 sum,.slice a' n' c'] 27 2).trans rfl
 have x3:(w.alloc (.cells #[.int .i64 cells,.slice a n c,.int .i64 sum,.slice a' n' c'] 27)).cell? ⟨w.heap.size,3,none⟩=some (.slice a' n' c'):=(box_cells w #[.int .i64 cells,.slice a n c,.int .i64 sum,.slice a' n' c'] 27 3).trans rfl
 generalize (w.alloc (.cells #[.int .i64 cells,.slice a n c,.int .i64 sum,.slice a' n' c'] 27))=W0 at hsz hszE hB x0 x1 x2 x3 ⊢
 have h0:=h.mono hB
 have h0':=h'.mono hB
 have HO:=Lib.hid (fun w1 (hb:Below W0.heap.size W0 w1)=>open_c (.slice a n c) cells sum a' n' c' g w1 (h0'.mono hb))
 have HC:=Lib.hid (fun w1 (hb:Below W0.heap.size W0 w1)=>clone_c a' n' c' g w1 (h0'.mono hb))
 refine wp_region_S (fun w'=>∃u,w'=over (W0) u) [8,7] [(0,0),(0,1),(0,3),(0,4),(1,2),(1,5),(0,6),(2,7),(2,8)] (by kernel_rfl) (by kernel_rfl) (by exact ⟨_,below_over (by repeat (first|assumption|exact Below.refl _ _|refine keep_drew ?_|refine keep_alloc ?_ _|refine keep_trans ?_ (by assumption)))⟩) ?_
 dsimp only[pickOps,nthOp]
 repeat (first|(refine wpS_skip rfl (fun K hK=>?_);go_big_quiet_op;refine hK _ ?_;clear hK K)|(refine wpS_quiet rfl rfl (fun K hK=>?_);go_big_quiet_op;refine hK _ ?_;clear hK K)|(refine wpS_loud ?_;go_wp2_with (first|(go_at_call 139;refine (HO.out _ (by first|exact keep_drew (Below.refl _ _)|(refine keep_drew ?_;assumption)|assumption)).mono ?_;rintro _ w1 ⟨v1,rfl,hown1,hb1⟩;obtain ⟨a1,c1,rfl⟩:=owns_shape hown1)|(go_at_call 71;refine (HC.out _ (keep_trans (keep_drew (Below.refl _ _)) hb1)).mono ?_;rintro _ w2 ⟨v2,rfl,hown2,hb2⟩;obtain ⟨a2,c2,rfl⟩:=owns_shape hown2));refine ⟨?_,?_⟩;focus (exact ⟨_,below_over (by repeat (first|assumption|exact Below.refl _ _|refine keep_drew ?_|refine keep_alloc ?_ _|refine keep_trans ?_ (by assumption)))⟩)))
 refine wpS_late _ _ _ rfl ?_
 dsimp only[List.map]
 go_wp2_with (first|(go_at_call 139;refine (HO.out _ (by first|exact keep_drew (Below.refl _ _)|(refine keep_drew ?_;assumption)|assumption)).mono ?_;rintro _ w1 ⟨v1,rfl,hown1,hb1⟩;obtain ⟨a1,c1,rfl⟩:=owns_shape hown1)|(go_at_call 71;refine (HC.out _ (keep_trans (keep_drew (Below.refl _ _)) hb1)).mono ?_;rintro _ w2 ⟨v2,rfl,hown2,hb2⟩;obtain ⟨a2,c2,rfl⟩:=owns_shape hown2))
 refine NoPanic.normal ?_
 have hW2:Below W0.heap.size W0 w2:=keep_trans (keep_trans (keep_drew (Below.refl _ _)) hb1) hb2
 have hbc:=fun i=>box_cells w2 #[.int .i64 cells,.slice a n c,.int .i64 sum,.slice a' n' c',.slice a1 (openL g).length c1,.int .u64 0,.int .u64 0,.int .u64 0,.int .u64 0,.slice none 0 0,.slice a2 g.length c2,.slice none 0 0] 184 i
 have hfzb:∀i,(w2.alloc (.cells #[.int .i64 cells,.slice a n c,.int .i64 sum,.slice a' n' c',.slice a1 (openL g).length c1,.int .u64 0,.int .u64 0,.int .u64 0,.int .u64 0,.slice none 0 0,.slice a2 g.length c2,.slice none 0 0] 184)).frozen? ⟨w2.heap.size,i,none⟩=false:=fun i=>by simp
 have hbw:Below w2.heap.size w2 (w2.alloc (.cells #[.int .i64 cells,.slice a n c,.int .i64 sum,.slice a' n' c',.slice a1 (openL g).length c1,.int .u64 0,.int .u64 0,.int .u64 0,.int .u64 0,.slice none 0 0,.slice a2 g.length c2,.slice none 0 0] 184)):=(Below.refl _ _).alloc (Nat.le_refl _) _
 have hszw:w2.heap.size<(w2.alloc (.cells #[.int .i64 cells,.slice a n c,.int .i64 sum,.slice a' n' c',.slice a1 (openL g).length c1,.int .u64 0,.int .u64 0,.int .u64 0,.int .u64 0,.slice none 0 0,.slice a2 g.length c2,.slice none 0 0] 184)).heap.size:=by simp
 generalize (w2.alloc (.cells #[.int .i64 cells,.slice a n c,.int .i64 sum,.slice a' n' c',.slice a1 (openL g).length c1,.int .u64 0,.int .u64 0,.int .u64 0,.int .u64 0,.slice none 0 0,.slice a2 g.length c2,.slice none 0 0] 184))=W3 at hbc hfzb hbw hszw ⊢
 obtain ⟨b,hb⟩:∃b,b=w2.heap.size:=⟨_,rfl⟩
 rw[← hb] at hbc hfzb hszw ⊢
 have HBE:=Lib.hid hb
 clear hb
 have hB3:Below W0.heap.size W0 W3:=keep_trans hW2 hbw
 have HBC:=Lib.hid hbc
 have HFZ:=Lib.hid hfzb
 clear hbc hfzb
 have y0:=((bcell hB3).1 _ _ hsz).trans x0
 have y1:=((bcell hB3).1 _ _ hsz).trans x1
 have y2:=((bcell hB3).1 _ _ hsz).trans x2
 have y3:=((bcell hB3).1 _ _ hsz).trans x3
 have HU:=Lib.hid (unused_c (.slice a n c) cells sum a' n' c' g W3 (h0'.mono hB3) hm hg)
 clear x0 x1 x2 x3 HO HC
 go_wp2_with (go_at_call 73;refine HU.out.mono ?_;rintro _ W4 ⟨v4,rfl,hown4,hb4⟩;obtain ⟨a4,c4,rfl⟩:=owns_shape hown4)
 have hb4l:b<W4.heap.size:=Nat.lt_of_lt_of_le hszw hb4.size
 have HC4:Hid (∀i,W4.cell? ⟨b,i,none⟩=#[Value.int .i64 cells,.slice a n c,.int .i64 sum,.slice a' n' c',.slice a1 (openL g).length c1,.int .u64 0,.int .u64 0,.int .u64 0,.int .u64 0,.slice none 0 0,.slice a2 g.length c2,.slice none 0 0][i]?):=fun i=>((bcell hb4).1 _ _ hszw).trans (HBC.out i)
 have HF4:Hid (∀i,W4.frozen? ⟨b,i,none⟩=false):=fun i=>((bcell hb4).2 _ _ hszw).trans (HFZ.out i)
 have hU:∀x,x∈unusedL g→1≤x∧x≤256:=fun x hx=>by
  have:=mem_unused.1 hx
  have:=h0'.len
  omega
 have hul:(unusedL g).length≤256:=by
  have:=unusedTo_len g g.length
  have:=h0'.len
  unfold unusedL;omega
 have HUN:=Lib.hid hU
 clear hU
 have a3:=HC4.out 10
 go_loopw [5,22] (fun _ i wr=>∃k:Nat,k≤(unusedL g).length∧i = .int .i64 k∧SetC wr b 5 (maskL ((unusedL g).take k))∧Stays (fun j=>j=b) W4 wr∧Hid (∀i,i<5∨9≤i→wr.cell? ⟨b,i,none⟩=W4.cell? ⟨b,i,none⟩)∧Hid (∀i,wr.frozen? ⟨b,i,none⟩=false)) (fun _ i _=>(unusedL g).length - (intOf i).toNat)
 case atStart =>
  refine ⟨0,by omega,rfl,fun q hq=>?_,Stays.refl _ _,fun _ _=>rfl,HF4.out⟩
  have e:word (maskL ((unusedL g).take 0)) q=0:=by simp[maskL,word]
  rw[e,HC4.out]
  match q,hq with
  | 0,_=>rfl
  | 1,_=>rfl
  | 2,_=>rfl
  | 3,_=>rfl
 case round =>
  obtain ⟨k,hk,rfl,hset,hst,hce,hfz⟩:=hrel
  have hbl:b<wr.heap.size:=Nat.lt_of_lt_of_le hb4l hst.size
  by_cases hlt:k<(unusedL g).length
  ·have hic:=(IC.of_owns (owns_keep hown4 (fun j e hjl=>hst.block j hjl (fun e2=>by have:=(hown4.lt j e).1;omega))) (by omega)).1
   obtain ⟨bu,off,rfl,hbu,hc⟩:=hic.2 k hlt
   have hx:=HUN.out ((unusedL g)[k]?.getD 0) (by rw[List.getElem?_eq_getElem hlt];exact List.getElem_mem hlt)
   have htk:(unusedL g).take (k+1)=(unusedL g).take k++[(unusedL g)[k]?.getD 0]:=take_snoc _ _ _ hlt
   generalize (unusedL g)[k]?.getD 0=x at hx hc htk
   have HP:=Lib.hid (sput_c b 5 (maskL ((unusedL g).take k)) x wr hset hx.1 hx.2 hbl (fun q _=>hfz.out _))
   go_wp2_with (go_at_call 146;refine HP.out.mono ?_;rintro _ w5 ⟨rfl,hp5⟩)
   go_roundw
   case rel =>
    refine ⟨k+1,by omega,by go_num,?_,hst.trans hp5.stays (fun i e => .inl e),fun i hi=>(hp5.cell i (by omega)).trans (hce.out i hi),fun i=>(hp5.frozen _).trans (hfz.out i)⟩
    rw[htk,maskL_snoc,if_pos (by omega)]
    exact PutW.set hset hp5
   case measure=>simp[intOf];omega
  ·have e:k=(unusedL g).length:=by omega
   subst e
   rw[List.take_length] at hset
   obtain ⟨W5,h5⟩:∃W5:World,W5=wr:=⟨_,rfl⟩
   rw[← h5] at hset hst hce hfz hbl
   subst h5
   have hB4:Below W0.heap.size W0 W4:=keep_trans hB3 hb4
   have hbW:W0.heap.size≤b:=by have h1:=hW2.size;have h2:=HBE.out;omega
   have hB5:Below W0.heap.size W0 W5:=hB4.trans (Stays.below hst hB4.size (fun k e=>by omega))
   have z1:=((bcell hB5).1 _ _ hsz).trans (((bcell hB3).1 _ _ hsz).symm.trans y1)
   have z4:W5.cell? ⟨b,4,none⟩=some (.slice a1 (openL g).length c1):=(hce.out 4 (by omega)).trans (HC4.out 4)
   have z9:W5.cell? ⟨b,9,none⟩=some (.slice none 0 0):=(hce.out 9 (by omega)).trans (HC4.out 9)
   have zf:=hfz.out 9
   have hol:(openL g).length≤256:=by
    have:=openTo_len g g.length
    have:=h0'.len
    unfold openL;omega
   clear y0 y1 y2 y3 a3
   obtain ⟨i2,hi,hz0,hz1,hz2⟩:=info_parts infoRows
   go_wp2_with (refine wpList_make_full _ rfl _ _ 155 rfl W5.heap.size 22 i2 (.slice none 0 0) 1 Tryz.underlying155 hi hz0 hz1 _ _ _ _ ((openL g).length+1) rfl rfl (by simp) (by simp) (by rw[hz2];omega) (by unfold maxLen;omega) (Nat.le_refl _) ?_)
   intro W6 hown6 hgr6
   have hs6:Stays (fun _=>False) W5 W6:=Stays.grown hgr6 (fun k e=>by cases e)
   have hbf:¬(fun _:Nat=>False) b:=id
   have hb6:b<W6.heap.size:=Nat.lt_of_lt_of_le hbl hs6.size
   have u9:W6.cell? ⟨b,9,none⟩=some (.slice none 0 0):=(hs6.cell hbl hbf).trans z9
   have uf:W6.frozen? ⟨b,9,none⟩=false:=(hs6.frozen hbl hbf).trans zf
   have hl5:w.heap.size<W5.heap.size:=Nat.lt_of_lt_of_le hsz hB5.size
   have hne9:(⟨b,9,none⟩:Addr)≠⟨w.heap.size,1,none⟩:=fun e=>by simp only[Addr.mk.injEq,and_true] at e;omega
   have u1:(W6.setCell ⟨b,9,none⟩ (.slice (some ⟨W5.heap.size,0,none⟩) ((openL g).length+1) ((openL g).length+1))).cell? ⟨w.heap.size,1,none⟩=some (.slice a n c):=(World.cell?_setCell_other _ _ _ _ hne9).trans ((hs6.cell hl5 id).trans z1)
   clear z1 z4 z9 zf
   obtain ⟨W7,h7⟩:∃W7,W7=W6.setCell ⟨b,9,none⟩ (.slice (some ⟨W5.heap.size,0,none⟩) ((openL g).length+1) ((openL g).length+1)):=⟨_,rfl⟩
   have HW7:=Lib.hid h7
   clear h7
   go_wp2
   rw[← HW7.out] at u1 ⊢
   -- the table,all rows empty
   obtain ⟨al,hal⟩:∃al,al=W5.heap.size:=⟨_,rfl⟩
   have hs7:Stays (fun k=>k=b) W6 W7:=by rw[HW7.out];exact Stays.setCell (S:=fun k=>k=b) W6 (p:=⟨b,9,none⟩) rfl _
   have hz7:W7.heap.size=W6.heap.size:=by rw[HW7.out];simp[World.setCell]
   have hal6:al<W6.heap.size:=by rw[hal];exact (hown6.lt _ rfl).2
   have hbal:¬al=b:=by omega
   have hT7:TB W7 al ((openL g).length+1) W7.heap.size (fun _=>[]) (fun _ => .slice none 0 0):=by
    have hrow:∀k,k<(openL g).length+1→W6.cell? ⟨al,k,none⟩=some (.slice none 0 0)∧W6.frozen? ⟨al,k,none⟩=false:=fun k hk=>by
     obtain ⟨g6,cap6,x6,e6,hx6,hc6,hf6,_,_⟩:=owns_free (owns_len hown6) k hk
     simp only[Value.slice.injEq,Option.some.injEq,Addr.mk.injEq,and_true] at e6
     obtain ⟨rfl,_⟩:=e6
     rw[hal]
     refine ⟨?_,hf6⟩
     rw[hc6,← hx6]
     simp[madeCells,hk,Nat.mod_one]
    exact ⟨by omega,fun k hk=>(hs7.frozen hal6 hbal).trans (hrow k hk).2,fun k hk=>(hs7.cell hal6 hbal).trans (hrow k hk).1,fun k _=>World.ownsRow_nil _ _ _ _,fun _ _ _ _ _ _ e=>by cases e⟩
   have hc7:Hid (∀i,i≠9→W7.cell? ⟨b,i,none⟩=W5.cell? ⟨b,i,none⟩):=fun i hi=>by
    rw[HW7.out]
    exact (World.cell?_setCell_other _ _ _ _ (fun e=>by simp only[Addr.mk.injEq,true_and,and_true] at e;exact hi e.symm)).trans (hs6.cell hbl id)
   have v9:W7.cell? ⟨b,9,none⟩=some (.slice (some ⟨al,0,none⟩) ((openL g).length+1) ((openL g).length+1)):=by
    rw[HW7.out,hal];exact World.cell?_setCell_same _ _ _ u9
   have v4:W7.cell? ⟨b,4,none⟩=some (.slice a1 (openL g).length c1):=(hc7.out 4 (by omega)).trans ((hce.out 4 (by omega)).trans (HC4.out 4))
   -- the open cells still read as they did
   have hsb:Stays (fun k=>k=b) w1 W7:=(((((Below.stays hb2 _).trans (Below.stays hbw (fun k=>k=b)) (fun i e => .inl e)).trans (Below.stays hb4 (fun k=>k=b)) (fun i e => .inl e)).trans hst (fun i e => .inl e)).trans (hs6.mono (fun i e=>e.elim)) (fun i e => .inl e)).trans hs7 (fun i e => .inl e)
   have hb1l:w1.heap.size≤b:=by have h1:=hb2.size;have h2:=HBE.out;omega
   have hO7:W7.ownsRow 0 3 1 (.slice a1 (openL g).length c1) (openL g).length ((openL g).map (Value.int .i64)):=owns_base (owns_keep hown1 (fun k e hlt=>hsb.block k hlt (fun e2=>by omega))) (Nat.zero_le _)
   have hR7:RC W7 a n ls:=h0.mono (hB5.trans ((Stays.below hs6 hB5.size (fun k e=>e.elim)).trans (Stays.below hs7 (by have h1:=hB5.size;have h2:=hs6.size;omega) (fun k e=>by omega))))
   have hB7:Below W0.heap.size W0 W7:=hB5.trans ((Stays.below hs6 hB5.size (fun k e=>e.elim)).trans (Stays.below hs7 (by have h1:=hB5.size;have h2:=hs6.size;omega) (fun k e=>by omega)))
   have halW:W0.heap.size≤al:=by have h1:=hB5.size;omega
   have hal7:al<W7.heap.size:=by omega
   have hb7:b<W7.heap.size:=by omega
   have hO1:∀k,(Value.slice a1 (openL g).length c1).ownBlock=some k→k<al:=fun k e=>by
    have h1:=(hown1.lt k e).2
    have h2:=hst.size
    omega
   have HO1:=Lib.hid hO1
   obtain ⟨lv,hlv⟩:∃lv,lv=lineV W7 a:=⟨_,rfl⟩
   have HLV:=Lib.hid hlv
   have HT7:=Lib.hid hT7
   have hF7:W7.ownsRow w1.heap.size 3 1 (.slice a2 g.length c2) g.length (g.map (Value.int .i64)):=owns_keep hown2 (fun k e hlt=>(((((Below.stays hbw (fun k=>k=b)).trans (Below.stays hb4 (fun k=>k=b)) (fun i e => .inl e)).trans hst (fun i e => .inl e)).trans (hs6.mono (fun i e=>e.elim)) (fun i e => .inl e)).trans hs7 (fun i e => .inl e)).block k hlt (fun e2=>by have h2:=HBE.out;omega))
   have hset7:SetC W7 b 5 (maskL (unusedL g)):=fun q hq=>(hc7.out _ (by omega)).trans (hset q hq)
   have hfz7:Hid (∀i,W7.frozen? ⟨b,i,none⟩=false):=fun i=>(World.frozen?_of_block (show W7.heap[b]?=_ from rfl)).trans (by rw[HW7.out,World.frozen?_setCell];exact (hs6.frozen hbl id).trans (hfz.out i))
   have hcl7:Hid (∀i,i≠9→(i<5∨9≤i)→W7.cell? ⟨b,i,none⟩=#[Value.int .i64 cells,.slice a n c,.int .i64 sum,.slice a' n' c',.slice a1 (openL g).length c1,.int .u64 0,.int .u64 0,.int .u64 0,.int .u64 0,.slice none 0 0,.slice a2 g.length c2,.slice none 0 0][i]?):=fun i h1 h2=>(hc7.out i h1).trans ((hce.out i h2).trans (HC4.out i))
   have hbal2:b<al:=by omega
   have hw1s:W0.heap.size≤w1.heap.size:=hb1.size
   have hown1b:=hown1.lt
   have HO1B:=Lib.hid hown1b
   have HSET7:=Lib.hid hset7
   clear hown1b hset7
   clear hal hlv hT7 hO1 u1 u9 uf hs6 hs7 hgr6 hown6 hown1 hown4 hb1 hb4 hset HUN HU h h' hsb
   go_loopw [7,8,9,10,46] (fun _ _ _ _ i wr=>∃j:Nat,j≤n∧i = .int .i64 j∧Hid (∃vs,TB wr al ((openL g).length+1) W7.heap.size (rowsTo (openL g) ls lv j) vs)∧Stays (fun k=>k=al) W7 wr) (fun _ _ _ _ i _=>n - (intOf i).toNat)
   case atStart=>exact ⟨0,by omega,rfl,⟨_,HT7.out⟩,Stays.refl _ _⟩
   case round =>
    obtain ⟨j,hj,rfl,htb,hs8⟩:=hrel
    have hbr:Below W0.heap.size W0 wr:=hB7.trans (Stays.below hs8 hB7.size (fun k e=>by omega))
    have hblr:b<wr.heap.size:=Nat.lt_of_lt_of_le hb7 hs8.size
    have w4:=(hs8.cell hb7 (fun e=>hbal e.symm)).trans v4
    have w9:=(hs8.cell hb7 (fun e=>hbal e.symm)).trans v9
    have hOr:IC wr a1 (openL g).length (openL g):=(IC.of_owns (owns_keep hO7 (fun k e hlt=>hs8.block k hlt (fun e2=>by have:=HO1.out k e;omega))) (by omega)).1
    by_cases hlt:j<n
    ·obtain ⟨bl,off,a9,n9,c9,ha,hbl9,hc9,hic,hn9⟩:=(h0.mono hbr).2 j hlt
     subst ha
     obtain ⟨wo,ho⟩:∃wo:World,wo=wr:=⟨_,rfl⟩
     rw[← ho] at htb hs8 hbr hblr w4 w9 hOr hbl9 hc9 hic
     subst ho
     have hcr:(lineV W7 (some ⟨bl,off,none⟩) j) = .slice a9 n9 c9:=by
      obtain ⟨bl2,off2,_,_,_,e2,hl2,hc2,_⟩:=hR7.2 j hlt
      simp only[Option.some.injEq,Addr.mk.injEq,and_true] at e2
      obtain ⟨rfl,rfl⟩:=e2
      have h3:wo.cell? ⟨bl,off+j,none⟩=W7.cell? ⟨bl,off+j,none⟩:=by
       obtain ⟨bl3,off3,_,_,_,e3,hl3,_⟩:=h0.2 j hlt
       simp only[Option.some.injEq,Addr.mk.injEq,and_true] at e3
       obtain ⟨rfl,rfl⟩:=e3
       exact ((bcell hbr).1 _ _ hl3).trans ((bcell hB7).1 _ _ hl3).symm
      simp only[lineV]
      rw[← h3,hc9]
      rfl
     have HCR:=Lib.hid hcr
     clear hcr
     go_wp2
     go_loop [8,9,10,55] (fun n8 _ _ i=>∃k:Nat,k≤(openL g).length∧i = .int .i64 k∧n8 = .int .i64 ((lastTo (openL g) (ls[j]?.getD []) k:Nat):Int)) (fun _ _ _ i=>(openL g).length - (intOf i).toNat)
     case atStart=>exact ⟨0,by omega,rfl,rfl⟩
     case round =>
      obtain ⟨k,hk,rfl,rfl⟩:=hrel
      by_cases hlt2:k<(openL g).length
      ·obtain ⟨bo,offo,rfl,hbo,hco⟩:=hOr.2 k hlt2
       have HCO:=Lib.hid (contains_c a9 n9 c9 (ls[j]?.getD []) ((openL g)[k]?.getD 0) wo hic)
       have HLS:=Lib.hid (lastTo_succ (openL g) (ls[j]?.getD []) k)
       generalize (openL g)[k]?.getD 0=x at hco HCO HLS
       by_cases hx:hasB (ls[j]?.getD []) x=true
       ·rw[hx] at HCO HLS
        go_wp2_with (go_at_call 134;refine HCO.out.mono ?_;rintro _ w9 ⟨rfl,rfl⟩)
        go_round
        case rel=>exact ⟨k+1,by omega,by go_num,by rw[HLS.out];simp⟩
        case measure=>simp[intOf];omega
       ·have hx':hasB (ls[j]?.getD []) x=false:=by simpa using hx
        rw[hx'] at HCO HLS
        go_wp2_with (go_at_call 134;refine HCO.out.mono ?_;rintro _ w9 ⟨rfl,rfl⟩)
        go_round
        case rel=>exact ⟨k+1,by omega,by go_num,by rw[HLS.out];simp⟩
        case measure=>simp[intOf];omega
      ·have e:k=(openL g).length:=by omega
       have hnle:=lastTo_le (openL g) (ls[j]?.getD []) (openL g).length
       have hll:lastO (openL g) (ls[j]?.getD [])=lastTo (openL g) (ls[j]?.getD []) k:=by rw[e];rfl
       rw[← e] at hnle
       obtain ⟨nn,hnn⟩:∃nn,nn=lastTo (openL g) (ls[j]?.getD []) k:=⟨_,rfl⟩
       rw[← hnn] at hll hnle
       rw[← hnn]
       clear hnn
       obtain ⟨vs,htv⟩:=htb.out
       have hnm:nn<(openL g).length+1:=by omega
       obtain ⟨ar,cr,hvn⟩:=owns_shape (htv.own nn hnm)
       have hown9:=owns_len (htv.own nn hnm)
       have hcn:=htv.cell nn hnm
       rw[hvn] at hown9 hcn
       have hrl:(rowsTo (openL g) ls lv j nn).length≤1000000:=by
        have h1:=List.length_filter_le (fun i=>lastO (openL g) (ls[i]?.getD [])==nn) (List.range j)
        simp only[rowsTo,List.length_map]
        simp only[List.length_range] at h1
        omega
       have hBt:W7.heap.size≤wo.heap.size:=hs8.size
       have hcs:=cutW_size hBt
       have hcb:=cutW_below hBt
       have g9:=(cutW_cell hBt (o:=9) hb7).trans w9
       have gn:=(cutW_cell hBt (o:=nn) hal7).trans hcn
       have hbS:b<(cutW wo W7.heap.size).heap.size:=by omega
       have haS:al<(cutW wo W7.heap.size).heap.size:=by omega
       generalize (cutW wo W7.heap.size)=S at hcs hcb g9 gn hbS haS
       have hn1:(nn:Int)<(((openL g).length+1:Nat):Int):=by omega
       have hn2:(0:Int)≤(nn:Int):=by omega
       have hfzn:=htv.fz nn hnm
       have HFZN:=Lib.hid hfzn
       have HCS:=Lib.hid hcs
       have HTV:=Lib.hid htv
       have HVN:=Lib.hid hvn
       clear hcs htv hvn hfzn
       obtain ⟨i2,hi,hz0,hz1,hz2⟩:=info_parts infoRow
       go_wp2
       clear hcn
       refine wp_region_S (fun w'=>∃u,w'=over (S) u) [16] [(0,0),(0,1),(0,2),(0,3),(0,4),(0,5),(0,6),(0,7),(0,8),(0,9),(0,10),(0,11),(0,12),(1,13),(1,14),(0,15),(2,16)] (by kernel_rfl) (by kernel_rfl) (by exact ⟨_,below_over (by repeat (first|assumption|exact Below.refl _ _|refine keep_drew ?_|refine keep_alloc ?_ _|refine keep_trans ?_ (by assumption)))⟩) ?_
       dsimp only[pickOps,nthOp]
       repeat (first|(refine wpS_skip rfl (fun K hK=>?_);go_big_quiet_op;refine hK _ ?_;clear hK K)|(refine wpS_quiet rfl rfl (fun K hK=>?_);go_big_quiet_op;refine hK _ ?_;clear hK K)|(refine wpS_loud ?_;go_wp2_with ((at_builtin;refine wpList_append_own2 _ rfl _ _ 22 rfl 25 i2 (.slice none 0 0) 1 24 Tryz.underlying22 hi hz0 hz1 hz2 rfl (by decide) _ _ _ rfl (owns_drew (hown9.alloc _)) ⟨wo.heap.size,0,none⟩ 1 1 [.slice a9 n9 c9] rfl rfl (cell_one_drew _ _ _) (by simp[Value.oneCell']) (by unfold maxLen;omega) (by omega) ?_;intro v' w9 hown' hgrow hnew;obtain ⟨av,cv,rfl⟩:=owns_shape hown';have hst9:Stays (fun k=>(Value.slice ar (rowsTo (openL g) ls lv j nn).length cr).ownBlock=some k) wo w9:=(Below.stays ((Below.refl _ wo).alloc (Nat.le_refl _) (.cells #[.slice a9 n9 c9] 25)).drew _).trans (Stays.grown (S:=fun k=>(Value.slice ar (rowsTo (openL g) ls lv j nn).length cr).ownBlock=some k) hgrow (fun k e=>e)) (fun i e => .inl e);have hbS9:Below S.heap.size S w9:=hcb.trans (hst9.below (by have h1:=HCS.out;omega) (fun k e=>by have h1:=HCS.out;have h2:=HVN.out;have h3:=(HTV.out.own nn hnm).lt k (by rw[h2];exact e);omega));have hna:¬(Value.slice ar (rowsTo (openL g) ls lv j nn).length cr).ownBlock=some al:=(fun e=>by have h1:=HCS.out;have h2:=HVN.out;have h3:=(HTV.out.own nn hnm).lt al (by rw[h2];exact e);omega);have q1:=(hst9.cell (o:=nn) HTV.out.lt hna).trans (HTV.out.cell nn hnm);have q2:=(hst9.frozen (o:=nn) HTV.out.lt hna).trans HFZN.out;rw[HVN.out] at q1));refine ⟨?_,?_⟩;focus (exact ⟨_,below_over (by repeat (first|assumption|exact Below.refl _ _|refine keep_drew ?_|refine keep_alloc ?_ _|refine keep_trans ?_ (by assumption)))⟩)))
       refine wpS_late _ _ _ rfl ?_
       dsimp only[List.map]
       go_wp2_with ((at_builtin;refine wpList_append_own2 _ rfl _ _ 22 rfl 25 i2 (.slice none 0 0) 1 24 Tryz.underlying22 hi hz0 hz1 hz2 rfl (by decide) _ _ _ rfl (owns_drew (hown9.alloc _)) ⟨wo.heap.size,0,none⟩ 1 1 [.slice a9 n9 c9] rfl rfl (cell_one_drew _ _ _) (by simp[Value.oneCell']) (by unfold maxLen;omega) (by omega) ?_;intro v' w9 hown' hgrow hnew;obtain ⟨av,cv,rfl⟩:=owns_shape hown';have hst9:Stays (fun k=>(Value.slice ar (rowsTo (openL g) ls lv j nn).length cr).ownBlock=some k) wo w9:=(Below.stays ((Below.refl _ wo).alloc (Nat.le_refl _) (.cells #[.slice a9 n9 c9] 25)).drew _).trans (Stays.grown (S:=fun k=>(Value.slice ar (rowsTo (openL g) ls lv j nn).length cr).ownBlock=some k) hgrow (fun k e=>e)) (fun i e => .inl e);have hbS9:Below S.heap.size S w9:=hcb.trans (hst9.below (by have h1:=HCS.out;omega) (fun k e=>by have h1:=HCS.out;have h2:=HVN.out;have h3:=(HTV.out.own nn hnm).lt k (by rw[h2];exact e);omega));have hna:¬(Value.slice ar (rowsTo (openL g) ls lv j nn).length cr).ownBlock=some al:=(fun e=>by have h1:=HCS.out;have h2:=HVN.out;have h3:=(HTV.out.own nn hnm).lt al (by rw[h2];exact e);omega);have q1:=(hst9.cell (o:=nn) HTV.out.lt hna).trans (HTV.out.cell nn hnm);have q2:=(hst9.frozen (o:=nn) HTV.out.lt hna).trans HFZN.out;rw[HVN.out] at q1))
       refine NoPanic.normal ?_
       have hadd:=TB.add HTV.out hal7 hBt hnm (v' := .slice av ((rowsTo (openL g) ls lv j nn).length+1) cv) (l := .slice a9 n9 c9) (w2:=w9) (by rw[HVN.out];exact hst9) hown' (fun k e=>by rw[HVN.out];exact (hnew k e).imp id (fun h=>by simp at h;omega))
       have hrw:rowsTo (openL g) ls lv (j+1)=fun k=>if k=nn then rowsTo (openL g) ls lv j nn++[.slice a9 n9 c9] else rowsTo (openL g) ls lv j k:=by
        rw[rowsTo_succ,hll]
        have:lv j = .slice a9 n9 c9:=by rw[HLV.out];exact HCR.out
        rw[this]
       rw[← hrw] at hadd
       have hs9':Stays (fun k=>k=al) W7 (w9.setCell ⟨al,nn,none⟩ (.slice av ((rowsTo (openL g) ls lv j nn).length+1) cv)):=(hs8.trans hst9 (fun i e => .inr (by have h2:=HVN.out;exact ((HTV.out.own nn hnm).lt i (by rw[h2];exact e)).1))).trans (Stays.setCell (S:=fun k=>k=al) w9 (p:=⟨al,nn,none⟩) rfl _) (fun i e => .inl e)
       have HADD:=Lib.hid hadd
       have HS9:=Lib.hid hs9'
       clear hadd hs9' hrw q1 q2
       go_wp2
       go_roundw
       case rel=>exact ⟨j+1,by omega,by go_num,⟨_,HADD.out⟩,HS9.out⟩
       case measure=>simp[intOf];omega
    ·have e:j=n:=by omega
     subst e
     go_wp2
     go_ret
     obtain ⟨vs,htv⟩:=htb.out
     have h2:=HBE.out
     have hb1l':=hb1l
     have hgl:=h0'.len
     have hW0:=hB7.size
     have hwr:Below w.heap.size w wr:=hB.trans (hbr.mono (by omega))
     have hw7:Below w.heap.size w W7:=hB.trans (hB7.mono (by omega))
     have hF8:wr.ownsRow w1.heap.size 3 1 (.slice a2 g.length c2) g.length (g.map (Value.int .i64)):=owns_keep hF7 (fun k e hlt=>hs8.block k hlt (fun e3=>by have h3:=(hown2.lt k e).2;omega))
     have hO8:wr.ownsRow 0 3 1 (.slice a1 (openL g).length c1) (openL g).length ((openL g).map (Value.int .i64)):=owns_keep hO7 (fun k e hlt=>hs8.block k hlt (fun e2=>by have:=HO1.out k e;omega))
     have ha2:∀k,(Value.slice a2 g.length c2).ownBlock=some k→w1.heap.size≤k∧k<b:=fun k e=>by have h3:=hown2.lt k e;omega
     have ha1:∀k,(Value.slice a1 (openL g).length c1).ownBlock=some k→W0.heap.size≤k∧k<w1.heap.size:=fun k e=>HO1B.out k e
     have hcr:∀i,wr.cell? ⟨b,i,none⟩=W7.cell? ⟨b,i,none⟩:=fun i=>hs8.cell hb7 (fun e=>hbal e.symm)
     have hcc:∀i,i≠9→(i<5∨9≤i)→wr.cell? ⟨b,i,none⟩=_:=fun i h1 h2=>(hcr i).trans (hcl7.out i h1 h2)
     refine ⟨b,fun k=>Old k∨(W0.heap.size≤k∧k<wr.heap.size∧k≠b∧(Value.slice a2 g.length c2).ownBlock≠some k),a1,c1,al,(openL g).length+1,.slice a2 g.length c2,rfl,?_,hwr,by omega,fun k e=>by have h3:=ha2 k e;have h4:=hW2.size;omega,fun k e=>e.imp id (fun e=>by have h3:=e.1;omega)⟩
     have hfP:fillP ⟨cells,a,j,c,ls,sum,a',n',c',g,a1,c1,al,(openL g).length+1⟩ []=g:=by simp[fillP]
     have hlP:leftL ⟨cells,a,j,c,ls,sum,a',n',c',g,a1,c1,al,(openL g).length+1⟩ []=unusedL g:=by simp[leftL,hasB]
     refine { fine:=⟨hgl,hm,fun k=>?_,HLINE.out⟩,ok:=⟨Nat.zero_le _,fun x hx=>absurd hx (by simp),List.nodup_nil⟩,imLt:=fun k e=>?_,sure:=?_,lt:=hblr,nb:=?_,nf:=fun k e=>?_,np:=fun k e=>(by cases e),f:=?_,p:=World.ownsRow_nil _ _ _ _,c0:=hcc 0 (by omega) (by omega),c1:=hcc 1 (by omega) (by omega),c2:=hcc 2 (by omega) (by omega),c3:=hcc 3 (by omega) (by omega),c4:=hcc 4 (by omega) (by omega),set:=?_,c9:=(hcr 9).trans v9,c10:=hcc 10 (by omega) (by omega),c11:=hcc 11 (by omega) (by omega),fz:=fun i _=>(hs8.frozen hb7 (fun e=>hbal e.symm)).trans (hfz7.out i) }
     ·by_cases hk:k<n'
      ·exact hg k hk
      ·show 0≤g[k]?.getD 0∧g[k]?.getD 0≤256
       rw[List.getElem?_eq_none (by omega)];decide
     ·rcases e with e|e
      ·exact Nat.lt_of_lt_of_le (HOL.out k e) hwr.size
      ·exact e.2.1
     ·intro w' hs' hag
      have hagO:∀k,Old k→w'.heap[k]?=w.heap[k]?:=fun k e=>(hag k (.inl e)).trans (hwr.block k (HOL.out k e))
      have hO9:=owns_keep hO8 (fun k e hlt=>hag k (.inr ⟨(ha1 k e).1,hlt,by have h3:=ha1 k e;omega,fun e2=>by have h3:=ha1 k e;have h4:=ha2 k e2;omega⟩))
      refine ⟨(IC.of_owns hO9 (by omega)).1,(IC.of_owns hO9 (by omega)).2,fun k hk=>?_⟩
      have hk':k<(openL g).length+1:=Nat.lt_succ_of_le hk
      have hala:(Value.slice a2 g.length c2).ownBlock≠some al:=fun e=>by have h3:=ha2 al e;omega
      have hcell:w'.cell? ⟨al,k,none⟩=some (vs k):=(World.cell?_of_block (hag al (.inr ⟨halW,htv.lt,hbal,hala⟩))).trans (htv.cell k hk')
      obtain ⟨ar,cr,hvk⟩:=owns_shape (htv.own k hk')
      have hrow:=owns_keep (w':=w') (htv.own k hk') (fun x e hlt=>hag x (.inr ⟨by have h3:=(htv.own k hk').lt x e;omega,hlt,by have h3:=(htv.own k hk').lt x e;omega,fun e2=>by have h3:=(htv.own k hk').lt x e;have h4:=ha2 x e2;omega⟩))
      rw[hvk] at hcell hrow
      rw[HLV.out] at hrow hcell
      have hrr:=row_rc (ls:=ls) (O:=openL g) (k:=k) (w0:=W7) h0.len (by omega) (fun i hi=>by
       obtain ⟨a9,n9,c9,e9,h9⟩:=HOLD.out w' (Nat.le_trans hwr.size hs') hagO i hi
       exact ⟨a9,n9,c9,(lineV_keep HH.out hw7 i hi).trans e9,h9⟩) hrow
      exact ⟨ar,_,cr,hcell,Nat.lt_of_lt_of_le htv.lt hs',hrr.1,hrr.2⟩
     ·rintro (e|e)
      ·have h3:=HOL.out b e;omega
      ·exact e.2.2.1 rfl
     ·have h3:=ha2 k e
      refine ⟨?_,by omega⟩
      rintro (e2|e2)
      ·have h4:=HOL.out k e2;omega
      ·exact e2.2.2.2 e
     ·rw[hfP];exact owns_len hF8
     ·rw[hlP];exact fun q hq=>(hcr _).trans (HSET7.out q hq)
end
section
open Go Go.RowKit
attribute [local go_sem] over_cell
def solV (bx:Nat):Value := .func (.func 193) #[] #[.pointer (some ⟨bx,0,none⟩)]
theorem solutions_c (b:Nat) (w:World) :
  Calls Tryz.prog 129 #[.pointer (some ⟨b,0,none⟩)] w fun e w'=>e = .returned (solV w.heap.size)∧w'=w.alloc (.cells #[.pointer (some ⟨b,0,none⟩)] 181):=by
 go_enter Tryz.func129,Tryz.ntmps129
 go_wp2
 go_ret
 exact ⟨rfl,rfl⟩
theorem all_c (a:Option Addr) (n c:Nat) (ls:List (List Int)) (cells sum:Int) (a':Option Addr) (n' c':Nat) (g:List Int) (w:World) (h:RC w a n ls) (hcap:n≤c) (hnl:n≤1000000) (h':IC w a' n' g) (hm:n'≤256) (hg:∀k:Nat,k<n'→0≤g[k]?.getD 0∧g[k]?.getD 0≤256)
  (hline:∀l,l∈ls→l.length≤1000∧∀x,x∈l→0≤x∧x<(n':Int)) (Old:Nat→Prop) (hOl:∀k,Old k→k<w.heap.size)
  (hOld:Sure Old w (fun w'=>∀i,i<n→∃a9 n9 c9,lineV w a i = .slice a9 n9 c9∧IC w' a9 n9 (ls[i]?.getD [])∧n9≤c9)) :
  Calls Tryz.prog 64 #[.agg #[.int .i64 cells,.slice a n c,.int .i64 sum,.slice a' n' c']] w fun e w'=>∃bx b Im ao co al cl vf,e = .returned (solV bx)∧w.heap.size≤bx∧bx<w'.heap.size∧bx≠b∧vf.ownBlock≠some bx∧¬Im bx∧w'.cell? ⟨bx,0,none⟩=some (.pointer (some ⟨b,0,none⟩))∧SR w' b Im ⟨cells,a,n,c,ls,sum,a',n',c',g,ao,co,al,cl⟩ vf (.slice none 0 0) []∧Below w.heap.size w w'∧w.heap.size≤b∧(∀k,vf.ownBlock=some k→w.heap.size≤k)∧(∀k,Im k→Old k∨w.heap.size≤k):=by
 have hB:Below w.heap.size w (w.alloc (.cells #[.int .i64 cells,.slice a n c,.int .i64 sum,.slice a' n' c'] 27)):=(Below.refl _ _).alloc (Nat.le_refl _) _
 have HS:=Lib.hid (searchOf_c a n c ls cells sum a' n' c' g _ (h.mono hB) hcap hnl (h'.mono hB) hm hg hline Old (fun k e=>by have:=hOl k e;simp;omega) (fun w' hs hb i hi=>by
  rw[lineV_keep h hB i hi]
  exact hOld w' (Nat.le_trans hB.size hs) (fun k e=>(hb k e).trans (hB.block k (hOl k e))) i hi))
 clear hOld hline hOl h h' hg
 go_enter Tryz.func64,Tryz.ntmps64
 go_wp2_with (first|(go_at_call 128;refine HS.out.mono ?_;rintro _ w1 ⟨b,Im,ao,co,al,cl,vf,rfl,hsr,hb1,hb2,hb3,hb4⟩)|(go_at_call 129;refine (solutions_c b w1).mono ?_;rintro _ w2 ⟨rfl,rfl⟩))
 go_ret
 have hb5:Below w1.heap.size w1 (w1.alloc (.cells #[.pointer (some ⟨b,0,none⟩)] 181)):=(Below.refl _ _).alloc (Nat.le_refl _) _
 have hlt:=hsr.lt
 have hsz:w.heap.size<w1.heap.size:=by have:=hb1.size;simp at this;omega
 refine ⟨w1.heap.size,b,Im,ao,co,al,cl,vf,rfl,by omega,by simp,by omega,?_,fun e=>by have:=hsr.imLt _ e;omega,(box_cells w1 #[.pointer (some ⟨b,0,none⟩)] _ 0).trans rfl,hsr.below hb5,(hB.trans (hb1.mono (by simp))).trans (hb5.mono (by omega)),by simp at hb2;omega,fun k e=>by have:=hb3 k e;simp at this;omega,fun k e=>(hb4 k e).imp id (fun h=>by simp at h;omega)⟩
 intro e
 have:=(hsr.f.lt _ e).2
 omega
end
section
open Go Go.RowKit
attribute [local go_sem] over_cell
end
section
open Go Go.RowKit
attribute [local go_sem] over_cell
def short6B (cells:Int) (ls:List (List Int)) (g:List Int):Bool:=shortB cells 40 ls&&decide ((g.length:Int)≤cells)
theorem short6_c (a:Option Addr) (n c:Nat) (ls:List (List Int)) (sc sum:Int) (a':Option Addr) (n' c':Nat) (g:List Int) (cells:Int) (w:World) (h:RC w a n ls) (h':IC w a' n' g) :
  Calls Tryz.prog 50 #[.agg #[.int .i64 sc,.slice a n c,.int .i64 sum,.slice a' n' c'],.int .i64 cells] w fun e w'=>e = .returned (.bool (short6B cells ls g))∧Below w.heap.size w w':=by
 have hl:=h'.len
 have hB:Below w.heap.size w (w.alloc (.cells #[.int .i64 sc,.slice a n c,.int .i64 sum,.slice a' n' c'] 30)):=(Below.refl _ _).alloc (Nat.le_refl _) _
 have HS:=Lib.hid (short2_c a n c ls cells 40 sc _ (h.mono hB))
 have hE:Hid (short6B cells ls g=(shortB cells 40 ls&&decide ((n':Int)≤cells))):=by
  unfold Hid
  rw[short6B,hl]
 clear h h'
 go_enter Tryz.func50,Tryz.ntmps50
 by_cases hs:shortB cells 40 ls=true
 ·rw[hs] at HS hE
  go_wp2_with (go_at_call 96;refine HS.out.mono ?_;rintro _ w1 ⟨rfl,hb0⟩;obtain ⟨⟨x0,x1,x2,x3⟩,hb1,hs1⟩:=box4 hb0;clear hb0)
  go_ret
  exact ⟨ret_bool (by rw[hE.out];simp),hb1⟩
 ·have hs':shortB cells 40 ls=false:=by simpa using hs
  rw[hs'] at HS hE
  go_wp2_with (go_at_call 96;refine HS.out.mono ?_;rintro _ w1 ⟨rfl,hb0⟩;obtain ⟨⟨x0,x1,x2,x3⟩,hb1,hs1⟩:=box4 hb0;clear hb0)
  go_ret
  exact ⟨ret_bool (by rw[hE.out];simp),hb1⟩
theorem box2 {w w1:World} {x0 x1:Value} {T:TypeId} (hb:Below (w.alloc (.cells #[x0,x1] T)).heap.size (w.alloc (.cells #[x0,x1] T)) w1) :
  (w1.cell? ⟨w.heap.size,0,none⟩=some x0∧w1.cell? ⟨w.heap.size,1,none⟩=some x1)∧Below w.heap.size w w1∧w.heap.size<w1.heap.size:=by
 have hlt:w.heap.size<(w.alloc (.cells #[x0,x1] T)).heap.size:=by simp
 have hc:=fun i=>((bcell hb).1 w.heap.size i hlt).trans (box_cells w #[x0,x1] T i)
 exact ⟨⟨hc 0,hc 1⟩,((Below.refl _ _).alloc (Nat.le_refl _) _).trans (hb.mono (by omega)),Nat.lt_of_lt_of_le hlt hb.size⟩
def few2B (cells lines sc:Int) (ls:List (List Int)):Bool:=shortB cells lines ls&&(sysErr sc ls==0)&&decide (sc≤cells)
theorem few2_c (a:Option Addr) (n c:Nat) (ls:List (List Int)) (sc cells lines:Int) (w:World) (h:RC w a n ls) (hcap:n≤c) :
  Calls Tryz.prog 33 #[.agg #[.int .i64 sc,.slice a n c],.int .i64 cells,.int .i64 lines] w fun e w'=>e = .returned (.bool (few2B cells lines sc ls))∧Below w.heap.size w w':=by
 have hB:Below w.heap.size w (w.alloc (.cells #[.int .i64 sc,.slice a n c] 24)):=(Below.refl _ _).alloc (Nat.le_refl _) _
 have HS:=Lib.hid (short2_c a n c ls cells lines sc _ (h.mono hB))
 have HC:=Lib.hid (fun w1 (hb:Below w.heap.size w w1)=>sys2_c a n c ls sc w1 (h.mono hb) hcap)
 have hE:Hid (few2B cells lines sc ls=(shortB cells lines ls&&(sysErr sc ls==0)&&decide (sc≤cells))):=rfl
 clear h
 go_enter Tryz.func33,Tryz.ntmps33
 by_cases hs:shortB cells lines ls=true
 ·rw[hs] at HS hE
  by_cases he:(sysErr sc ls==0)=true
  ·rw[he] at hE
   go_wp2_with (first|(go_at_call 96;refine HS.out.mono ?_;rintro _ w1 ⟨rfl,hb0⟩;obtain ⟨⟨x0,x1⟩,hb1,hs1⟩:=box2 hb0;clear hb0)|(go_at_call 61;refine (HC.out w1 hb1).mono ?_;rintro _ w2 ⟨rfl,hb2⟩;obtain ⟨y0,y1⟩:w2.cell? ⟨w.heap.size,0,none⟩=some (.int .i64 sc)∧w2.cell? ⟨w.heap.size,1,none⟩=some (.slice a n c):=⟨((bcell hb2).1 _ _ hs1).trans x0,((bcell hb2).1 _ _ hs1).trans x1⟩))
   go_ret
   exact ⟨ret_bool (by rw[hE.out];simp),hb1.trans (hb2.mono (by omega))⟩
  ·have he':(sysErr sc ls==0)=false:=by simpa using he
   rw[he'] at hE
   go_wp2_with (first|(go_at_call 96;refine HS.out.mono ?_;rintro _ w1 ⟨rfl,hb0⟩;obtain ⟨⟨x0,x1⟩,hb1,hs1⟩:=box2 hb0;clear hb0)|(go_at_call 61;refine (HC.out w1 hb1).mono ?_;rintro _ w2 ⟨rfl,hb2⟩;obtain ⟨y0,y1⟩:w2.cell? ⟨w.heap.size,0,none⟩=some (.int .i64 sc)∧w2.cell? ⟨w.heap.size,1,none⟩=some (.slice a n c):=⟨((bcell hb2).1 _ _ hs1).trans x0,((bcell hb2).1 _ _ hs1).trans x1⟩))
   go_ret
   exact ⟨ret_bool (by rw[hE.out];simp),hb1.trans (hb2.mono (by omega))⟩
 ·have hs':shortB cells lines ls=false:=by simpa using hs
  rw[hs'] at HS hE
  go_wp2_with (first|(go_at_call 96;refine HS.out.mono ?_;rintro _ w1 ⟨rfl,hb0⟩;obtain ⟨⟨x0,x1⟩,hb1,hs1⟩:=box2 hb0;clear hb0)|(go_at_call 61;refine (HC.out w1 hb1).mono ?_;rintro _ w2 ⟨rfl,hb2⟩;obtain ⟨y0,y1⟩:w2.cell? ⟨w.heap.size,0,none⟩=some (.int .i64 sc)∧w2.cell? ⟨w.heap.size,1,none⟩=some (.slice a n c):=⟨((bcell hb2).1 _ _ hs1).trans x0,((bcell hb2).1 _ _ hs1).trans x1⟩))
  go_ret
  exact ⟨ret_bool (by rw[hE.out];simp),hb1⟩
end
end Go.Proofs.YtaadpihbjhachaaGreat
