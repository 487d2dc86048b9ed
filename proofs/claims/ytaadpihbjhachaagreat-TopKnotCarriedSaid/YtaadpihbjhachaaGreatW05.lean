/- Texts C13 to C18 of this proof, in one file. -/
import Derived.Test.YtaadpihbjhachaaGreatW04
import Derived.Lib.SliceRun
import Derived.OneCell
namespace Go.Proofs.YtaadpihbjhachaaGreat
set_option maxRecDepth 100000
set_option maxHeartbeats 16000000
section
open Go Go.RowKit
attribute [local go_sem] over_cell
def smallErr (cells:Int) (ls:List (List Int)) (sum:Int) (g:List Int):Int :=
 if (taskErr cells ls sum g != 0)=true then taskErr cells ls sum g else whenV (decide (((openL g).length:Int)>16)) 20
theorem box4 {w w1:World} {x0 x1 x2 x3:Value} {T:TypeId} (hb:Below (w.alloc (.cells #[x0,x1,x2,x3] T)).heap.size (w.alloc (.cells #[x0,x1,x2,x3] T)) w1) :
  (w1.cell? ⟨w.heap.size,0,none⟩=some x0∧w1.cell? ⟨w.heap.size,1,none⟩=some x1∧w1.cell? ⟨w.heap.size,2,none⟩=some x2∧w1.cell? ⟨w.heap.size,3,none⟩=some x3)∧Below w.heap.size w w1∧w.heap.size<w1.heap.size:=by
 have hlt:w.heap.size<(w.alloc (.cells #[x0,x1,x2,x3] T)).heap.size:=by simp
 have hc:=fun i=>((bcell hb).1 w.heap.size i hlt).trans (box_cells w #[x0,x1,x2,x3] T i)
 exact ⟨⟨hc 0,hc 1,hc 2,hc 3⟩,((Below.refl _ _).alloc (Nat.le_refl _) _).trans (hb.mono (by omega)),Nat.lt_of_lt_of_le hlt hb.size⟩
theorem owns_shape {w:World} {base:Nat} {e:TypeId} {v:Value} {n:Nat} {xs:List Value} (h:w.ownsRow base e 1 v n xs):∃a c,v = .slice a n c:=by
 rcases h.2 with ⟨h2,h3⟩|⟨g,cap,cur,hv,_⟩
 ·exact ⟨none,0,by rw[h2,h3]⟩
 ·exact ⟨_,_,hv⟩
theorem small_c (a:Option Addr) (n c:Nat) (ls:List (List Int)) (cells sum:Int) (a':Option Addr) (n' c':Nat) (g:List Int) (w:World) (h:RC w a n ls) (hcap:n≤c) (h':IC w a' n' g) (hcap':n'≤c') :
  Calls Tryz.prog 63 #[.agg #[.int .i64 cells,.slice a n c,.int .i64 sum,.slice a' n' c']] w fun e w'=>e = .returned (.int .i64 (smallErr cells ls sum g))∧Below w.heap.size w w':=by
 have hm:=h.small
 have hm':=h'.small
 go_enter Tryz.func63,Tryz.ntmps63
 have hB:Below w.heap.size w (w.alloc (.cells #[.int .i64 cells,.slice a n c,.int .i64 sum,.slice a' n' c'] 27)):=(Below.refl _ _).alloc (Nat.le_refl _) _
 have HT:=Lib.hid (task_c a n c ls cells sum a' n' c' g _ (h.mono hB) hcap (h'.mono hB) hcap')
 go_wp2_with (first|(go_at_call 56;refine HT.out.mono ?_;rintro _ w1 ⟨rfl,hb0⟩;obtain ⟨⟨x0,x1,x2,x3⟩,hb1,hs1⟩:=box4 hb0;clear hb0)|(go_at_call 139;refine (open_c (.slice a n c) cells sum a' n' c' g w1 (h'.mono hb1)).mono ?_;rintro _ w2 ⟨v,rfl,hown,hb2⟩;obtain ⟨a2,c2,rfl⟩:=owns_shape hown)|(go_at_call 66;refine (when_c _ _ _).mono ?_;rintro e w3 ⟨rfl,rfl⟩))
 ·have he:(taskErr cells ls sum g != 0)=true:=by assumption
  go_ret
  exact ⟨ret_int (by rw[smallErr,if_pos he]),hb1⟩
 ·have he:¬(taskErr cells ls sum g != 0)=true:=by simp_all
  go_ret
  exact ⟨ret_int (by rw[smallErr,if_neg he]),hb1.trans (hb2.mono (by omega))⟩
theorem run_nilI (w:World) (a:Option Addr) (n c:Nat):(binOp .eql 25 (.slice a n c) (.slice none 0 0)).run Tryz.prog w = .ok (.bool a.isNone) w :=
 Go.Lib.run_eql_slice_nil w _ _ a n c 0 0 Tryz.underlying25
attribute [local go_sem] run_nilI
theorem IC.cells {w:World} {p:Addr} {n:Nat} {g:List Int} (h:IC w (some p) n g) (j:Nat) (u:Value) (hj:(g.map (Value.int .i64))[j]?=some u):w.cell? (p.add j)=some u:=by
 rw[List.getElem?_map,Option.map_eq_some_iff] at hj
 obtain ⟨x,hx,rfl⟩:=hj
 have hl:=h.len
 have hlt:j<g.length:=(List.getElem?_eq_some_iff.1 hx).1
 obtain ⟨b,off,e,_,hc⟩:=h.2 j (by omega)
 obtain rfl:p=⟨b,off,none⟩:=by simpa using e
 have e2:(⟨b,off,none⟩:Addr).add j=⟨b,off+j,none⟩:=by
  cases j <;> simp[Addr.add]
 rw[e2,hc,hx];rfl
theorem clone_c (a:Option Addr) (n c:Nat) (g:List Int) (w:World) (h:IC w a n g) :
  Calls Tryz.prog 71 #[.slice a n c] w fun e w'=>∃v,e = .returned v∧w'.ownsRow w.heap.size 3 1 v g.length (g.map (Value.int .i64))∧Below w.heap.size w w':=by
 have hm:=h.small
 have hl:=h.len
 obtain ⟨i0,hi,hz0,hz1,hz2⟩:=info_parts infoInt
 cases a with
 | none =>
  have hn:n=0:=by
   rcases Nat.eq_zero_or_pos n with h0|h0
   ·exact h0
   ·obtain ⟨_,_,e,_⟩:=h.2 0 h0
    cases e
  subst hn
  have hg:g=[]:=List.length_eq_zero_iff.1 hl
  subst hg
  go_enter Tryz.func71,Tryz.ntmps71
  go_wp2
  go_ret
  exact ⟨_,rfl,World.ownsRow_nil _ _ _ _,Below.refl _ _⟩
 | some p =>
  go_enter Tryz.func71,Tryz.ntmps71
  go_wp2_with (at_builtin;refine wpList_append_own _ rfl _ _ 25 rfl w.heap.size 3 i0 (.int .i64 0) 1 8 Tryz.underlying25 hi hz0 hz1 hz2 rfl (by decide) _ 0 [] rfl (World.ownsRow_made w #[] 0 (Nat.le_refl _) (by decide) rfl) p n c (g.map (Value.int .i64)) rfl (by simp[hl]) ?_ ?_ (by unfold maxLen;omega) (by omega) (by simp) ?_)
  ·intro j u hj
   exact (h.mono ((Below.refl _ _).alloc (Nat.le_refl _) _)).cells j u hj
  ·intro u hu
   obtain ⟨x,_,rfl⟩:=List.mem_map.1 hu
   rfl
  ·intro v' w1 hown hgrow _
   have hb1:Below w.heap.size w w1:=((Below.refl w.heap.size w).alloc (Nat.le_refl _) _).grown hgrow (by simp) (fun j e=>by simp[Value.ownBlock] at e;omega)
   clear hgrow
   go_wp2
   go_ret
   exact ⟨_,rfl,by rw[hl];exact hown,hb1⟩
end
section
open Go Go.RowKit
attribute [local go_sem] over_cell
structure Stays (S:Nat→Prop) (w w':World):Prop where
 os:w'.os=w.os
 tape:w'.tape=w.tape
 output:w'.output=w.output
 size:w.heap.size≤w'.heap.size
 block:∀k,k<w.heap.size→¬S k→w'.heap[k]?=w.heap[k]?
theorem Stays.refl (S:Nat→Prop) (w:World):Stays S w w:=⟨rfl,rfl,rfl,Nat.le_refl _,fun _ _ _=>rfl⟩
theorem Stays.trans {S T:Nat→Prop} {a b c:World} (h:Stays S a b) (k:Stays T b c) (ht:∀i,T i→S i∨a.heap.size≤i):Stays S a c :=
 ⟨k.os.trans h.os,k.tape.trans h.tape,k.output.trans h.output,Nat.le_trans h.size k.size,fun i hi hs =>
  (k.block i (Nat.lt_of_lt_of_le hi h.size) (fun t=>(ht i t).elim hs (fun e=>by omega))).trans (h.block i hi hs)⟩
theorem Stays.mono {S T:Nat→Prop} {a b:World} (h:Stays S a b) (hs:∀i,S i→T i):Stays T a b :=
 ⟨h.os,h.tape,h.output,h.size,fun i hi ht=>h.block i hi (fun s=>ht (hs i s))⟩
theorem Stays.drew {S:Nat→Prop} {a w:World} (h:Stays S a w):Stays S a w.drew:=⟨h.os,h.tape,h.output,h.size,h.block⟩
theorem Below.stays {w w':World} (h:Below w.heap.size w w') (S:Nat→Prop):Stays S w w':=⟨h.os,h.tape,h.output,h.size,fun k hk _=>h.block k hk⟩
theorem Stays.below {S:Nat→Prop} {w w':World} (h:Stays S w w') {B:Nat} (hB:B≤w.heap.size) (hs:∀k,S k→B≤k):Below B w w' :=
 ⟨h.os,h.tape,h.output,h.size,fun k hk=>h.block k (by omega) (fun e=>by have:=hs k e;omega)⟩
theorem Stays.setCell {S:Nat→Prop} (w:World) {p:Addr} (hp:S p.block) (u:Value):Stays S w (w.setCell p u) :=
 ⟨rfl,rfl,rfl,by simp[World.setCell],fun k _ hs=>Below.heap_setCell _ _ _ _ (fun e=>hs (e▸hp))⟩
theorem Stays.grown {S:Nat→Prop} {w w':World} {row:Option Nat} (hg:w.grownBy w' row) (hr:∀k,row=some k→S k):Stays S w w' :=
 ⟨hg.os,hg.tape,hg.output,hg.size,fun k hk hs=>hg.block k hk (fun e=>hs (hr k e.symm))⟩
theorem Stays.cell {S:Nat→Prop} {w w':World} (h:Stays S w w') {b o:Nat} (hb:b<w.heap.size) (hs:¬S b):w'.cell? ⟨b,o,none⟩=w.cell? ⟨b,o,none⟩ :=
 World.cell?_of_block (h.block b hb hs)
theorem Stays.frozen {S:Nat→Prop} {w w':World} (h:Stays S w w') {b o:Nat} (hb:b<w.heap.size) (hs:¬S b):w'.frozen? ⟨b,o,none⟩=w.frozen? ⟨b,o,none⟩ :=
 World.frozen?_of_block (h.block b hb hs)
def Sure (Im:Nat→Prop) (w:World) (φ:World→Prop):Prop:=∀w',w.heap.size≤w'.heap.size→(∀k,Im k→w'.heap[k]?=w.heap[k]?)→φ w'
theorem Sure.here {Im:Nat→Prop} {w:World} {φ:World→Prop} (h:Sure Im w φ):φ w:=h w (Nat.le_refl _) fun _ _=>rfl
theorem Sure.keep {Im:Nat→Prop} {w w':World} {φ:World→Prop} (h:Sure Im w φ) (hs:w.heap.size≤w'.heap.size) (hb:∀k,Im k→w'.heap[k]?=w.heap[k]?):Sure Im w' φ :=
 fun w2 h2 hb2=>h w2 (Nat.le_trans hs h2) fun k hk=>(hb2 k hk).trans (hb k hk)
structure Cst where
 cells:Int
 a:Option Addr
 n:Nat
 c:Nat
 ls:List (List Int)
 sum:Int
 a':Option Addr
 n':Nat
 c':Nat
 g:List Int
 ao:Option Addr
 co:Nat
 al:Nat
 cl:Nat
def Cst.O (C:Cst):List Int:=openL C.g
def lastO (O:List Int) (l:List Int):Nat:=(List.range O.length).foldl (fun m i=>if hasB l (O[i]?.getD 0)=true then i+1 else m) 0
def Cst.tbl (C:Cst) (k:Nat):List (List Int):=C.ls.filter (fun l=>lastO C.O l==k)
structure Imm (C:Cst) (w:World):Prop where
 o:IC w C.ao C.O.length C.O
 oc:C.O.length≤C.co
 t:∀k,k≤C.O.length→∃ak nk ck,w.cell? ⟨C.al,k,none⟩=some (.slice ak nk ck)∧C.al<w.heap.size∧RC w ak nk (C.tbl k)∧nk≤ck
structure Fine (C:Cst):Prop where
 len:C.g.length=C.n'
 most:C.n'≤256
 num:∀k:Nat,0≤C.g[k]?.getD 0∧C.g[k]?.getD 0≤256
 line:∀l,l∈C.ls→l.length≤1000∧∀x,x∈l→0≤x∧x<(C.n':Int)
def fillP (C:Cst) (P:List Int):List Int:=(C.O.zip P).foldl (fun f cx=>f.set cx.1.toNat cx.2) C.g
def leftL (C:Cst) (P:List Int):List Int:=(unusedL C.g).filter (fun x=>!hasB P x)
structure OkP (C:Cst) (P:List Int):Prop where
 len:P.length≤C.O.length
 num:∀x,x∈P→x∈unusedL C.g
 nodup:P.Nodup
def Mut (b:Nat) (vf vp:Value) (k:Nat):Prop:=k=b∨vf.ownBlock=some k∨vp.ownBlock=some k
structure SR (w:World) (b:Nat) (Im:Nat→Prop) (C:Cst) (vf vp:Value) (P:List Int):Prop where
 fine:Fine C
 ok:OkP C P
 imLt:∀k,Im k→k<w.heap.size
 sure:Sure Im w (Imm C)
 lt:b<w.heap.size
 nb:¬Im b
 nf:∀k,vf.ownBlock=some k→¬Im k∧k≠b
 np:∀k,vp.ownBlock=some k→¬Im k∧k≠b∧vf.ownBlock≠some k
 f:w.ownsRow 0 3 1 vf (fillP C P).length ((fillP C P).map (Value.int .i64))
 p:w.ownsRow 0 3 1 vp P.length (P.map (Value.int .i64))
 c0:w.cell? ⟨b,0,none⟩=some (.int .i64 C.cells)
 c1:w.cell? ⟨b,1,none⟩=some (.slice C.a C.n C.c)
 c2:w.cell? ⟨b,2,none⟩=some (.int .i64 C.sum)
 c3:w.cell? ⟨b,3,none⟩=some (.slice C.a' C.n' C.c')
 c4:w.cell? ⟨b,4,none⟩=some (.slice C.ao C.O.length C.co)
 set:SetC w b 5 (maskL (leftL C P))
 c9:w.cell? ⟨b,9,none⟩=some (.slice (some ⟨C.al,0,none⟩) (C.O.length+1) C.cl)
 c10:w.cell? ⟨b,10,none⟩=some vf
 c11:w.cell? ⟨b,11,none⟩=some vp
 fz:∀i,i<12→w.frozen? ⟨b,i,none⟩=false
theorem owns_keep {w w':World} {base:Nat} {e:TypeId} {size:Nat} {v:Value} {n:Nat} {xs:List Value} (h:w.ownsRow base e size v n xs) (hk:∀k,v.ownBlock=some k→k<w.heap.size→w'.heap[k]?=w.heap[k]?):w'.ownsRow base e size v n xs:=by
 refine ⟨h.1,h.2.imp id ?_⟩
 rintro ⟨g,cap,cur,rfl,hb,hh,r⟩
 exact ⟨g,cap,cur,rfl,hb,(hk g rfl (Array.getElem?_eq_some_iff.1 hh).1).trans hh,r⟩
theorem SR.keep {w w':World} {b:Nat} {Im:Nat→Prop} {C:Cst} {vf vp:Value} {P:List Int} (h:SR w b Im C vf vp P) (hs:w.heap.size≤w'.heap.size) (hk:∀k,k<w.heap.size→Im k∨Mut b vf vp k→w'.heap[k]?=w.heap[k]?):SR w' b Im C vf vp P:=by
 have hb:w'.heap[b]?=w.heap[b]?:=hk b h.lt (.inr (.inl rfl))
 have hc:∀i,w'.cell? ⟨b,i,none⟩=w.cell? ⟨b,i,none⟩:=fun i=>World.cell?_of_block hb
 exact { fine:=h.fine,ok:=h.ok,imLt:=fun k e=>Nat.lt_of_lt_of_le (h.imLt k e) hs,sure:=h.sure.keep hs (fun k e=>hk k (h.imLt k e) (.inl e)),lt:=Nat.lt_of_lt_of_le h.lt hs,nb:=h.nb,nf:=h.nf,np:=h.np,f:=owns_keep h.f (fun k e hlt=>hk k hlt (.inr (.inr (.inl e)))),p:=owns_keep h.p (fun k e hlt=>hk k hlt (.inr (.inr (.inr e)))),c0:=(hc 0).trans h.c0,c1:=(hc 1).trans h.c1,c2:=(hc 2).trans h.c2,c3:=(hc 3).trans h.c3,c4:=(hc 4).trans h.c4,set:=fun q hq=>(hc (5+q)).trans (h.set q hq),c9:=(hc 9).trans h.c9,c10:=(hc 10).trans h.c10,c11:=(hc 11).trans h.c11,fz:=fun i hi=>(World.frozen?_of_block hb).trans (h.fz i hi) }
theorem SR.below {w w':World} {b:Nat} {Im:Nat→Prop} {C:Cst} {vf vp:Value} {P:List Int} (h:SR w b Im C vf vp P) (hb:Below w.heap.size w w'):SR w' b Im C vf vp P :=
 h.keep hb.size fun k hk _=>hb.block k hk
theorem full_c (b:Nat) (Im:Nat→Prop) (C:Cst) (vf vp:Value) (P:List Int) (w:World) (h:SR w b Im C vf vp P) :
  Calls Tryz.prog 132 #[.pointer (some ⟨b,0,none⟩)] w fun e w'=>e = .returned (.bool (P.length==C.O.length))∧Below w.heap.size w w':=by
 have hlt:=h.lt
 have c4:=h.c4
 have c11:=h.c11
 obtain ⟨ap,cp,rfl⟩:=owns_shape h.p
 have hE:Hid ((((P.length:Nat):Int)==((C.O.length:Nat):Int))=(P.length==C.O.length)):=by
  unfold Hid
  rw[Bool.eq_iff_iff];simp;omega
 clear h
 go_enter Tryz.func132,Tryz.ntmps132
 go_wp2
 refine wp_region_S (fun w'=>∃u,w'=over (w) u) [11] [(0,0),(0,1),(0,2),(0,3),(0,4),(0,5),(0,6),(0,7),(0,8),(0,9),(0,10),(2,11)] (by kernel_rfl) (by kernel_rfl) (by exact ⟨_,below_over (by repeat (first|assumption|exact Below.refl _ _|refine keep_drew ?_|refine keep_alloc ?_ _|refine keep_trans ?_ (by assumption)))⟩) ?_
 dsimp only[pickOps,nthOp]
 repeat (first|(refine wpS_skip rfl (fun K hK=>?_);go_big_quiet_op;refine hK _ ?_;clear hK K)|(refine wpS_quiet rfl rfl (fun K hK=>?_);go_big_quiet_op;refine hK _ ?_;clear hK K))
 refine wpS_late _ _ _ rfl ?_
 dsimp only[List.map]
 go_wp2
 refine NoPanic.normal ?_
 go_wp2
 go_ret
 exact ⟨ret_bool hE.out,(Below.refl _ _).drew⟩
end
section
open Go Go.RowKit
attribute [local go_sem] over_cell
theorem mem_unused {g:List Int} {x:Int}:x∈unusedL g↔1≤x∧x≤g.length∧hasB g x=false:=by
 simp only[unusedL,unusedTo,List.mem_map,List.mem_filter,List.mem_range,Bool.not_eq_true']
 constructor
 ·rintro ⟨i,⟨h1,h2⟩,rfl⟩
  exact ⟨by omega,by omega,h2⟩
 ·rintro ⟨h1,h2,h3⟩
  refine ⟨(x - 1).toNat,⟨by omega,?_⟩,by omega⟩
  rw[show (((x - 1).toNat:Nat):Int)+1=x from by omega];exact h3
theorem foldl_set_len (l:List (Int × Int)):∀(g:List Int),(l.foldl (fun f cx=>f.set cx.1.toNat cx.2) g).length=g.length:=by
 induction l with
 | nil=>intro g;rfl
 | cons x l ih=>intro g;rw[List.foldl_cons,ih,List.length_set]
theorem fillP_len (C:Cst) (P:List Int):(fillP C P).length=C.g.length:=foldl_set_len _ _
theorem foldl_set_num (l:List (Int × Int)) (p:Int→Prop) (h0:p 0) (hl:∀x,x∈l→p x.2):∀(g:List Int),(∀k:Nat,p (g[k]?.getD 0))→∀k:Nat,p ((l.foldl (fun f cx=>f.set cx.1.toNat cx.2) g)[k]?.getD 0):=by
 induction l with
 | nil=>intro g hg;exact hg
 | cons x l ih =>
  intro g hg
  rw[List.foldl_cons]
  refine ih (fun y hy=>hl y (List.mem_cons_of_mem _ hy)) _ fun k=>?_
  rw[List.getElem?_set]
  by_cases e:x.1.toNat=k
  ·rw[if_pos e]
   by_cases e2:x.1.toNat<g.length
   ·rw[if_pos e2];exact hl x List.mem_cons_self
   ·rw[if_neg e2];exact h0
  ·rw[if_neg e];exact hg k
theorem fillP_num {C:Cst} {P:List Int} (hf:Fine C) (ho:OkP C P) (k:Nat):0≤(fillP C P)[k]?.getD 0∧(fillP C P)[k]?.getD 0≤256:=by
 refine foldl_set_num _ (fun x=>0≤x∧x≤256) (by decide) (fun x hx=>?_) _ hf.num k
 have:=mem_unused.1 (ho.num _ (List.of_mem_zip hx).2)
 have:=hf.len
 have:=hf.most
 omega
theorem SR.ic {w:World} {b:Nat} {Im:Nat→Prop} {C:Cst} {P:List Int} {a:Option Addr} {n c:Nat} {vp:Value} (h:SR w b Im C (.slice a n c) vp P):IC w a n (fillP C P)∧n≤c∧n=C.n':=by
 have hf:=h.f
 have hl:=fillP_len C P
 have h1:=h.fine.len
 have h2:=h.fine.most
 have hn:n=(fillP C P).length:=by
  rcases hf.2 with ⟨e,e2⟩|⟨_,_,_,e,_⟩
  ·simp only[Value.slice.injEq] at e;omega
  ·simp only[Value.slice.injEq] at e;omega
 subst hn
 have:=IC.of_owns hf (by omega)
 exact ⟨this.1,this.2,by omega⟩
theorem wrong1_c (bx b:Nat) (Im:Nat→Prop) (C:Cst) (vf vp:Value) (P:List Int) (w:World) (h:SR w b Im C vf vp P) (hxl:bx<w.heap.size) (hx:w.cell? ⟨bx,0,none⟩=some (.pointer (some ⟨b,0,none⟩)))
  (a1:Option Addr) (n1 c1:Nat) (l:List Int) (h1:IC w a1 n1 l) (hn:l.length≤1000) (hr:∀x,x∈l→0≤x∧x<(C.n':Int)) :
  Calls Tryz.prog 196 (#[.slice a1 n1 c1]++#[.pointer (some ⟨bx,0,none⟩)]) w fun e w'=>e = .returned (.bool (sumAt l (fillP C P) != C.sum))∧Below w.heap.size w w':=by
 have hlt:=h.lt
 have c2:=h.c2
 have c10:=h.c10
 obtain ⟨af,cf,rfl⟩:=owns_shape h.f
 have hi:=h.ic
 have hnum:=fun k=>fillP_num h.fine h.ok k
 have hl1:=h1.len
 have HS:=Lib.hid (fun w' (hb:Below w.heap.size w w')=>sum_c a1 af n1 (fillP C P).length c1 cf l (fillP C P) w' (h1.mono hb) (hi.1.mono hb) (by omega) (fun k hk=>by
  have:l[k]?.getD 0=l[k]'(by omega):=by rw[List.getElem?_eq_getElem (by omega)];rfl
  rw[this]
  have:=hr _ (List.getElem_mem (l:=l) (n:=k) (by omega))
  have:=hi.2.2
  omega) (fun k=>by have:=hnum k;omega))
 clear h hi hnum h1 hr
 generalize sumAt l (fillP C P)=s at HS
 go_enter Tryz.func196,Tryz.ntmps196
 go_wp2
 refine wp_region_S (fun w'=>∃u,w'=over (w) u) [12] [(0,0),(0,1),(0,2),(0,3),(0,4),(0,6),(0,7),(0,8),(0,9),(0,10),(1,5),(0,11),(2,12)] (by kernel_rfl) (by kernel_rfl) (by exact ⟨_,below_over (by repeat (first|assumption|exact Below.refl _ _|refine keep_drew ?_|refine keep_alloc ?_ _|refine keep_trans ?_ (by assumption)))⟩) ?_
 dsimp only[pickOps,nthOp]
 repeat (first|(refine wpS_skip rfl (fun K hK=>?_);go_big_quiet_op;refine hK _ ?_;clear hK K)|(refine wpS_quiet rfl rfl (fun K hK=>?_);go_big_quiet_op;refine hK _ ?_;clear hK K)|(refine wpS_loud ?_;go_wp2_with (go_at_call 145;refine (HS.out _ (keep_drew (Below.refl _ _))).mono ?_;rintro _ w1 ⟨rfl,rfl⟩);refine ⟨?_,?_⟩;focus (exact ⟨_,below_over (by repeat (first|assumption|exact Below.refl _ _|refine keep_drew ?_|refine keep_alloc ?_ _|refine keep_trans ?_ (by assumption)))⟩)))
 refine wpS_late _ _ _ rfl ?_
 dsimp only[List.map]
 go_wp2_with (go_at_call 145;refine (HS.out _ (keep_drew (Below.refl _ _))).mono ?_;rintro _ w1 ⟨rfl,rfl⟩)
 refine NoPanic.normal ?_
 go_wp2
 go_ret
 exact ⟨ret_bool rfl,(Below.refl _ _).drew⟩
def wrongB (C:Cst) (P:List Int):Bool:=(C.tbl P.length).any (fun l=>sumAt l (fillP C P) != C.sum)
theorem anyP_list {α:Type} (T:List α) (d:α) (q:α→Bool):anyP (fun k=>q (T[k]?.getD d)) T.length=T.any q:=by
 rw[Bool.eq_iff_iff]
 simp only[anyP,List.any_eq_true,List.mem_range]
 constructor
 ·rintro ⟨k,hk,hq⟩
  refine ⟨T[k],List.getElem_mem hk,?_⟩
  rwa [List.getElem?_eq_getElem hk] at hq
 ·rintro ⟨x,hx,hq⟩
  obtain ⟨k,hk,rfl⟩:=List.getElem_of_mem hx
  exact ⟨k,hk,by rw[List.getElem?_eq_getElem hk];exact hq⟩
theorem wrong_c (b:Nat) (Im:Nat→Prop) (C:Cst) (vf vp:Value) (P:List Int) (w:World) (h:SR w b Im C vf vp P) :
  Calls Tryz.prog 133 #[.pointer (some ⟨b,0,none⟩)] w fun e w'=>e = .returned (.bool (wrongB C P))∧Below w.heap.size w w':=by
 have hB:Below w.heap.size w (w.alloc (.cells #[.pointer (some ⟨b,0,none⟩)] 181)):=(Below.refl _ _).alloc (Nat.le_refl _) _
 have hsz:w.heap.size<(w.alloc (.cells #[.pointer (some ⟨b,0,none⟩)] 181)).heap.size:=by simp
 have hx:(w.alloc (.cells #[.pointer (some ⟨b,0,none⟩)] 181)).cell? ⟨w.heap.size,0,none⟩=some (.pointer (some ⟨b,0,none⟩)):=(box_cells w #[.pointer (some ⟨b,0,none⟩)] _ 0).trans rfl
 have h':=h.below hB
 have hok:=h.ok.len
 obtain ⟨ak,nk,ck,ht,hal,hT,hck⟩:=h'.sure.here.t P.length hok
 go_enter Tryz.func133,Tryz.ntmps133
 go_wp2
 generalize (w.alloc (.cells #[.pointer (some ⟨b,0,none⟩)] 181))=W0 at hB hsz hx h' ht hal hT ⊢
 have HC:=Lib.hid (fun w1 (hb:Below W0.heap.size W0 w1)=>containsFuncR_c ak nk ck (C.tbl P.length) 196 #[.pointer (some ⟨w.heap.size,0,none⟩)] (fun k=>sumAt ((C.tbl P.length)[k]?.getD []) (fillP C P) != C.sum) w1 (hT.mono hb) (by intro args w;kernel_rfl) (fun k hk w2 a1 n1 c1 hb2 hi hc1=>by
  have hb3:=hb.trans (hb2.mono hb.size)
  have hm:(C.tbl P.length)[k]?.getD []∈C.ls:=by
   have hk':k<(C.tbl P.length).length:=by rw[hT.len];exact hk
   rw[List.getElem?_eq_getElem hk']
   exact (List.mem_filter.1 (show _∈C.ls.filter _ from List.getElem_mem hk')).1
  exact wrong1_c w.heap.size b Im C vf vp P w2 (h'.below hb3) (Nat.lt_of_lt_of_le hsz hb3.size) (((bcell hb3).1 _ _ hsz).trans hx) a1 n1 c1 _ hi (h.fine.line _ hm).1 (h.fine.line _ hm).2))
 have hE:Hid (anyP (fun k=>sumAt ((C.tbl P.length)[k]?.getD []) (fillP C P) != C.sum) nk=wrongB C P):=by
  unfold Hid
  rw[wrongB,← anyP_list (C.tbl P.length) [] (fun l=>sumAt l (fillP C P) != C.sum),hT.len]
 generalize anyP (fun k=>sumAt ((C.tbl P.length)[k]?.getD []) (fillP C P) != C.sum) nk=r at HC hE
 have hlt:=h'.lt
 have c9:=h'.c9
 have c11:=h'.c11
 obtain ⟨ap,cp,rfl⟩:=owns_shape h'.p
 have hok1:(P.length:Int)<((C.O.length+1:Nat):Int):=by omega
 have hok2:(0:Int)≤(P.length:Int):=by omega
 clear h h' hT
 refine wp_region_S (fun w'=>∃u,w'=over (W0) u) [13,12] [(0,0),(0,1),(0,2),(0,3),(0,4),(0,5),(0,6),(0,7),(0,8),(0,9),(0,10),(0,11),(2,12),(2,13)] (by kernel_rfl) (by kernel_rfl) (by exact ⟨_,below_over (by repeat (first|assumption|exact Below.refl _ _|refine keep_drew ?_|refine keep_alloc ?_ _|refine keep_trans ?_ (by assumption)))⟩) ?_
 dsimp only[pickOps,nthOp]
 repeat (first|(refine wpS_skip rfl (fun K hK=>?_);go_big_quiet_op;refine hK _ ?_;clear hK K)|(refine wpS_quiet rfl rfl (fun K hK=>?_);go_big_quiet_op;refine hK _ ?_;clear hK K))
 refine wpS_late _ _ _ rfl ?_
 dsimp only[List.map]
 go_wp2_with (go_at_call 137;refine (HC.out _ (keep_drew (Below.refl _ _))).mono ?_;rintro _ w1 ⟨rfl,hb1⟩)
 refine NoPanic.normal ?_
 go_wp2
 go_ret
 exact ⟨ret_bool hE.out,hB.drew.trans (hb1.mono (Nat.le_of_lt hsz))⟩
end
section
open Go Go.RowKit
attribute [local go_sem] over_cell
theorem owns_set {w:World} {base:Nat} {e:TypeId} {g n cap:Nat} {xs:List Value} (h:w.ownsRow base e 1 (.slice (some ⟨g,0,none⟩) n cap) n xs) (i:Nat) (v:Value) :
  (w.setCell ⟨g,i,none⟩ v).ownsRow base e 1 (.slice (some ⟨g,0,none⟩) n cap) n (xs.set i v):=by
 obtain ⟨h1,h2⟩:=h
 refine ⟨by rw[List.length_set];exact h1,.inr ?_⟩
 rcases h2 with ⟨h2,_⟩|⟨g',cap',cur,hv,hb,hh,hn,hm,hs,ht⟩
 ·cases h2
 ·simp only[Value.slice.injEq,Option.some.injEq,Addr.mk.injEq,true_and,and_true] at hv
  obtain ⟨rfl,rfl⟩:=hv
  have hlt:=lt_of_block hh
  have h':w.heap[g] = .cells cur e (0,0):=by simpa [Array.getElem?_eq_getElem hlt] using hh
  refine ⟨g,cap,cur.setIfInBounds i v,rfl,hb,?_,hn,hm,by simpa using hs,?_⟩
  ·show (w.heap.modify g _)[g]?=_
   rw[Array.getElem?_eq_getElem (by simpa using hlt),Array.getElem_modify_self,h']
   rfl
  ·rw[← ht,Array.toList_setIfInBounds,List.take_set]
theorem owns_free {w:World} {base:Nat} {e:TypeId} {v:Value} {n:Nat} {xs:List Value} (h:w.ownsRow base e 1 v n xs) (i:Nat) (hi:i<n):∃g cap x,v = .slice (some ⟨g,0,none⟩) n cap∧xs[i]?=some x∧w.cell? ⟨g,i,none⟩=some x∧w.frozen? ⟨g,i,none⟩=false∧g<w.heap.size∧n≤cap:=by
 obtain ⟨h1,h2⟩:=h
 rcases h2 with ⟨_,h3⟩|⟨g,cap,cur,hv,hb,hh,hn,hm,hs,ht⟩
 ·omega
 ·obtain ⟨x,hx⟩:∃x,xs[i]?=some x:=⟨xs[i]'(by omega),List.getElem?_eq_getElem (by omega)⟩
  refine ⟨g,cap,x,hv,hx,?_,by simp[World.frozen?,hh],lt_of_block hh,hn⟩
  rw[cell_of_row w g i cur e (0,0) hh]
  rw[← ht,List.getElem?_take,if_pos (by omega)] at hx
  simpa using hx
theorem owns_front {w:World} {base:Nat} {e:TypeId} {a:Option Addr} {n cap:Nat} {xs:List Value} (h:w.ownsRow base e 1 (.slice a n cap) n xs) (k:Nat) (hk:k≤n):w.ownsRow base e 1 (.slice a k cap) k (xs.take k):=by
 obtain ⟨h1,h2⟩:=h
 refine ⟨by rw[List.length_take];omega,?_⟩
 rcases h2 with ⟨h2,h3⟩|⟨g,cap',cur,hv,hb,hh,hn,hm,hs,ht⟩
 ·simp only[Value.slice.injEq] at h2
  obtain ⟨rfl,rfl,rfl⟩:=h2
  have:k=0:=by omega
  subst this
  exact .inl ⟨rfl,rfl⟩
 ·simp only[Value.slice.injEq] at hv
  obtain ⟨rfl,_,rfl⟩:=hv
  exact .inr ⟨g,cap,cur,rfl,hb,hh,by omega,hm,hs,by rw[← ht,List.take_take];congr 1;omega⟩
theorem mem_open {g:List Int} {x:Int}:x∈openL g↔0≤x∧x<g.length∧g[x.toNat]?.getD 0=0:=by
 simp only[openL,openTo,List.mem_map,List.mem_filter,List.mem_range,beq_iff_eq]
 constructor
 ·rintro ⟨i,⟨h1,h2⟩,rfl⟩
  exact ⟨by omega,by omega,h2⟩
 ·rintro ⟨h1,h2,h3⟩
  exact ⟨x.toNat,⟨by omega,h3⟩,by omega⟩
theorem open_nodup (g:List Int):(openL g).Nodup:=by
 unfold openL openTo
 refine List.Pairwise.map _ (fun a b h=>?_) (List.Pairwise.filter _ List.nodup_range)
 omega
theorem unused_nodup (g:List Int):(unusedL g).Nodup:=by
 unfold unusedL unusedTo
 refine List.Pairwise.map _ (fun a b h=>?_) (List.Pairwise.filter _ List.nodup_range)
 omega
theorem zip_snoc {α β:Type}:∀(O:List α) (P:List β) (x:β) (h:P.length<O.length),O.zip (P++[x])=O.zip P++[(O[P.length],x)]
 | [],_,_,h=>absurd h (by simp)
 | o :: O,[],x,_=>by simp
 | o :: O,p :: P,x,h=>by
  have:=zip_snoc O P x (by simpa using h)
  simp[this]
theorem fillP_snoc (C:Cst) (P:List Int) (x:Int) (h:P.length<C.O.length):fillP C (P++[x])=(fillP C P).set (C.O[P.length]).toNat x:=by
 unfold fillP
 rw[zip_snoc _ _ _ h,List.foldl_append]
 rfl
theorem foldl_set_other (l:List (Int × Int)) (i:Nat) (hl:∀x,x∈l→x.1.toNat≠i):∀g:List Int,(l.foldl (fun f cx=>f.set cx.1.toNat cx.2) g)[i]?=g[i]?:=by
 induction l with
 | nil=>intro g;rfl
 | cons x l ih =>
  intro g
  rw[List.foldl_cons,ih (fun y hy=>hl y (List.mem_cons_of_mem _ hy)),List.getElem?_set_ne (hl x List.mem_cons_self)]
theorem zip_fst_take {α β:Type} {x:α × β}:∀{O:List α} {P:List β},x∈O.zip P→x.1∈O.take P.length
 | [],_,h=>by simp at h
 | _ :: _,[],h=>by simp at h
 | o :: O,p :: P,h=>by
  rw[List.zip_cons_cons,List.mem_cons] at h
  rw[List.length_cons,List.take_succ_cons,List.mem_cons]
  rcases h with h|h
  ·exact .inl (by rw[h])
  ·exact .inr (zip_fst_take h)
theorem fillP_next (C:Cst) (P:List Int) (h:P.length<C.O.length):(fillP C P)[(C.O[P.length]).toNat]?=some 0:=by
 have hm:=mem_open.1 (show C.O[P.length]∈openL C.g from List.getElem_mem h)
 unfold fillP
 rw[foldl_set_other]
 ·rw[List.getElem?_eq_getElem (by omega)] at hm ⊢
  rw[show C.g[(C.O[P.length]).toNat]=0 from hm.2.2]
 ·intro x hx e
  have h1:=zip_fst_take hx
  obtain ⟨j,hj,e2⟩:=List.getElem_of_mem h1
  have hj1:j<P.length:=by rw[List.length_take] at hj;omega
  have hj2:j<C.O.length:=by omega
  rw[List.getElem_take] at e2
  have hm2:=mem_open.1 (show C.O[j]∈openL C.g from List.getElem_mem hj2)
  have hm3:=mem_open.1 (show C.O[P.length]∈openL C.g from List.getElem_mem h)
  have e3:C.O[j]=C.O[P.length]:=by
   rw[← e2] at e
   omega
  exact List.pairwise_iff_getElem.1 (open_nodup C.g) j P.length hj2 h hj1 e3
theorem fillP_back (C:Cst) (P:List Int) (x:Int) (h:P.length<C.O.length):(fillP C (P++[x])).set (C.O[P.length]).toNat 0=fillP C P:=by
 rw[fillP_snoc _ _ _ h,List.set_set]
 have:=fillP_next C P h
 rw[List.getElem?_eq_some_iff] at this
 obtain ⟨h1,h2⟩:=this
 conv=>lhs;rw[← h2]
 exact List.set_getElem_self h1
theorem hasB_iff {xs:List Int} {x:Int}:hasB xs x=true↔x∈xs:=by simp[hasB]
theorem hasB_left (C:Cst) (P:List Int) (y:Int):hasB (leftL C P) y=(hasB (unusedL C.g) y&&!hasB P y):=by
 rw[Bool.eq_iff_iff,hasB_iff,Bool.and_eq_true,hasB_iff]
 simp[leftL,List.mem_filter]
theorem hasB_snoc (P:List Int) (x y:Int):hasB (P++[x]) y=(hasB P y||decide (y=x)):=by
 rw[Bool.eq_iff_iff,Bool.or_eq_true,hasB_iff,hasB_iff]
 simp
theorem left_push (C:Cst) (P:List Int) (x:Int) (h1:1≤x):maskL (leftL C (P++[x]))=clearBit (maskL (leftL C P)) (x.toNat - 1):=by
 apply Nat.eq_of_testBit_eq
 intro i
 rw[testBit_clear,testBit_maskL,testBit_maskL,hasB_left,hasB_left,hasB_snoc,Bool.not_or,← Bool.and_assoc]
 congr 1
 rw[Bool.eq_iff_iff];simp;omega
theorem left_pop (C:Cst) (P:List Int) (x:Int) (h1:x∈unusedL C.g) (h2:x ∉ P):maskL (leftL C P)=maskL (leftL C (P++[x])) ||| 2 ^ (x.toNat - 1):=by
 have h3:=mem_unused.1 h1
 apply Nat.eq_of_testBit_eq
 intro i
 rw[Nat.testBit_or,Nat.testBit_two_pow,testBit_maskL,testBit_maskL,hasB_left,hasB_left,hasB_snoc]
 by_cases e:(i:Int)+1=x
 ·subst e
  have a1:hasB (unusedL C.g) ((i:Int)+1)=true:=hasB_iff.2 h1
  have a2:hasB P ((i:Int)+1)=false:=by
   rw[Bool.eq_false_iff];intro h;exact h2 (hasB_iff.1 h)
  rw[a1,a2];simp
 ·have e2:¬x.toNat - 1=i:=by omega
  simp[e,e2]
theorem OkP.push {C:Cst} {P:List Int} {x:Int} (h:OkP C P) (hl:P.length<C.O.length) (hx:x∈unusedL C.g) (hn:x ∉ P):OkP C (P++[x]) :=
 ⟨by rw[List.length_append];exact hl,fun y hy=>by
  rcases List.mem_append.1 hy with h1|h1
  ·exact h.num y h1
  ·simp at h1;subst h1;exact hx,by
  rw[List.nodup_append]
  exact ⟨h.nodup,by simp,fun a ha b hb e=>by simp at hb;subst hb;subst e;exact hn ha⟩⟩
theorem OkP.pop {C:Cst} {P:List Int} {x:Int} (h:OkP C (P++[x])):OkP C P∧x∈unusedL C.g∧x ∉ P∧P.length<C.O.length:=by
 have hn:=List.nodup_append.1 h.nodup
 have hl:=h.len
 simp at hl
 exact ⟨⟨by omega,fun y hy=>h.num y (List.mem_append_left _ hy),hn.1⟩,h.num x (by simp),fun hx=>hn.2.2 x hx x (by simp) rfl,hl⟩
theorem PutW.stays {w w':World} {b off M M':Nat} (hp:PutW w w' b off M M'):Stays (fun k=>k=b) w w':=by
 obtain ⟨q,hq,rfl,ho⟩:=hp
 exact (Stays.setCell (S:=fun k=>k=b) w (p:=⟨b,off+q,none⟩) rfl _).drew
theorem PutW.cell {w w':World} {b off M M':Nat} (hp:PutW w w' b off M M') (i:Nat) (hi:i<off∨off+4≤i):w'.cell? ⟨b,i,none⟩=w.cell? ⟨b,i,none⟩:=by
 obtain ⟨q,hq,rfl,ho⟩:=hp
 exact World.cell?_setCell_other _ _ _ _ (fun e=>by simp only[Addr.mk.injEq,true_and,and_true] at e;omega)
end
section
open Go Go.RowKit
theorem run_append_own2 {P:Program} (w:World) (t ty e:TypeId) (i:TypeInfo) (z:Value) (size bytes:Nat) (ht:P.underlying t=some (.slice e)) (hi:P.info? e=some i) (hz:i.zero=some z)
  (hsize:i.size=size) (hby:i.bytes=bytes) (hzs:z.cells.size=size) (hsz:0<size)
  (v:Value) (n:Nat) (xs:List Value) (hown:w.ownsRow 0 e size v n xs)
  (a:Addr) (m c:Nat) (news:List Value) (hl:news.length=m*size) (hnews:∀j u,news[j]?=some u→w.cell? (a.add j)=some u) (h1:∀u∈news,u.oneCell'=true)
  (h63:n+m≤maxLen) (hbytes:(n+m)*bytes≤140737488355328) :
  ∃v' w',(Builtin.append_ #[t,t] ty #[v,.slice (some a) m c]).run P w = .ok v' w'∧w'.ownsRow 0 e size v' (n+m) (xs++news)∧w.grownBy w' v.ownBlock∧(∀k,v'.ownBlock=some k→v.ownBlock=some k∨w.heap.size≤k):=by
 obtain ⟨v',w',hr,h2,h3,_⟩:=run_append_own (P:=P) w 0 t ty e i z size bytes ht hi hz hsize hby hzs hsz v n xs hown a m c news hl hnews h1 h63 hbytes (Nat.zero_le _)
 refine ⟨v',w',hr,h2,h3,?_⟩
 rcases hown.2 with ⟨rfl,rfl⟩|⟨g,cap,cur,rfl,hbg,hg,hnc,hcm,hcs,htake⟩
 ·have hx:xs=[]:=List.eq_nil_of_length_eq_zero (by simpa using hown.1)
  subst hx
  obtain ⟨v2,w2,hr2,h4,_,_⟩:=run_append_own (P:=P) w w.heap.size t ty e i z size bytes ht hi hz hsize hby hzs hsz _ 0 [] (World.ownsRow_nil w _ e size) a m c news hl hnews h1 h63 hbytes (Nat.le_refl _)
  rw[hr] at hr2
  cases hr2
  exact fun k hk => .inr (h4.lt k hk).1
 ·by_cases hroom:n+m≤cap
  ·subst hsize
   have hfit:n*i.size+news.length≤cur.size:=by rw[hl,hcs,← Nat.add_mul];exact Nat.mul_le_mul_right _ hroom
   have hr2:=run_append_room (P:=P) w t ty e i ht hi g n cap cur hg a m c news hl hnews h1 hroom hfit
   rw[hr] at hr2
   cases hr2
   exact fun k hk => .inl hk
  ·subst hsize
   subst hby
   have hsmall:n+m≤9223372036854775807:=by simp only[maxLen] at h63;omega
   have holds:∀j u,xs[j]?=some u→w.cell? ((⟨g,0,none⟩:Addr).add j)=some u:=hown.cells (g:=g) rfl
   have hr2:=run_append_grow (P:=P) w t ty e i z ht hi hz ⟨g,0,none⟩ n cap xs hown.1 holds a m c news hl hnews (by omega) (by omega) (growslice_fits (by omega) hbytes)
   rw[hr] at hr2
   cases hr2
   intro k hk
   simp only[Value.ownBlock,Option.some.injEq] at hk
   exact .inr (by omega)
theorem wpList_append_own2 {P:Program} (w:World) {ops:Array Oper} {rest:List Oper} {o:Oper} {a:Act} {Q:Exit→Act→World→Prop} (hgd:o.guard=none) (s x:Operand) (t:TypeId)
  (ho:o.op = .call { callee := .builtin .append,args:=#[s,x],argTypes:=#[t,t] })
  (e:TypeId) (i:TypeInfo) (z:Value) (size bytes:Nat) (ht:P.underlying t=some (.slice e)) (hi:P.info? e=some i) (hz:i.zero=some z)
  (hsize:i.size=size) (hby:i.bytes=bytes) (hzs:z.cells.size=size) (hsz:0<size)
  (v:Value) (n:Nat) (xs:List Value) (hs:a.eval s=v) (hown:w.ownsRow 0 e size v n xs)
  (ad:Addr) (m c:Nat) (news:List Value) (hx:a.eval x = .slice (some ad) m c) (hl:news.length=m*size) (hnews:∀j u,news[j]?=some u→w.cell? (ad.add j)=some u) (h1:∀u∈news,u.oneCell'=true)
  (h63:n+m≤maxLen) (hbytes:(n+m)*bytes≤140737488355328)
  (h:∀v' w',w'.ownsRow 0 e size v' (n+m) (xs++news)→w.grownBy w' v.ownBlock→(∀k,v'.ownBlock=some k→v.ownBlock=some k∨w.heap.size≤k)→wpList P ops Q rest (a.put o.dst v') w'):wpList P ops Q (o :: rest) a w :=
 wpList_plain hgd fun _ hK=>by
  obtain ⟨v',w',hr,h2,h3,h4⟩:=run_append_own2 (P:=P) w t o.type e i z size bytes ht hi hz hsize hby hzs hsz v n xs hown ad m c news hl hnews h1 h63 hbytes
  unfold Oper.wp execOp
  simp only[ho,resolve,invoke,builtin,Sem.run_bind,Sem.run_pure,Result.andThen_ok,List.map_toArray,List.map_cons,List.map_nil,hs,hx,hr]
  exact hK _ _ (h v' w' h2 h3 h4)
end
section
open Go Go.RowKit
attribute [local go_sem] over_cell
def Stepped (w w':World) (b:Nat) (Im:Nat→Prop) (C:Cst) (vf vp:Value) (P:List Int):Prop :=
 ∃vp',SR w' b Im C vf vp' P∧Stays (Mut b vf vp) w w'∧∀k,vp'.ownBlock=some k→vp.ownBlock=some k∨w.heap.size≤k
theorem SR.ofl {w:World} {b:Nat} {Im:Nat→Prop} {C:Cst} {vf vp:Value} {P:List Int} (h:SR w b Im C vf vp P) (hl:P.length<C.O.length) :
  ∃(o bo off:Nat),C.O[P.length]'hl=(o:Int)∧o<C.n'∧C.ao=some ⟨bo,off,none⟩∧bo<w.heap.size∧w.cell? ⟨bo,off+P.length,none⟩=some (.int .i64 (o:Int)):=by
 have hm:=mem_open.1 (show C.O[P.length]'hl∈openL C.g from List.getElem_mem hl)
 obtain ⟨bo,off,ha,hb,hc⟩:=h.sure.here.o.2 P.length hl
 have:=h.fine.len
 refine ⟨(C.O[P.length]'hl).toNat,bo,off,by omega,by omega,ha,hb,?_⟩
 rw[hc,List.getElem?_eq_getElem hl,Option.getD_some,Int.toNat_of_nonneg hm.1]
theorem push_c (b:Nat) (Im:Nat→Prop) (C:Cst) (vf vp:Value) (P:List Int) (x:Int) (w:World) (h:SR w b Im C vf vp P) (hl:P.length<C.O.length) (hx:x∈unusedL C.g) (hn:x ∉ P) :
  Calls Tryz.prog 194 #[.pointer (some ⟨b,0,none⟩),.int .i64 x] w fun e w'=>e = .returned (.tuple #[])∧Stepped w w' b Im C vf vp (P++[x]):=by
 have H:=Lib.hid h
 have hxu:=mem_unused.1 hx
 have hm:=h.fine.most
 have hgl:=h.fine.len
 obtain ⟨o,bo,off,ho,hon,hao,hbo,hco⟩:=h.ofl hl
 have hfl:(fillP C P).length=C.n':=(fillP_len C P).trans hgl
 obtain ⟨bf,cf,x0,hvf,hx0,hcf,hff,hbf,hcap⟩:=owns_free h.f o (by omega)
 have hF:Hid (fillP C (P++[x])=(fillP C P).set o x):=by
  unfold Hid
  rw[fillP_snoc C P x hl,ho,Int.toNat_natCast]
 have hM:Hid (maskL (leftL C (P++[x]))=clearBit (maskL (leftL C P)) (x.toNat - 1)):=left_push C P x hxu.1
 have hOk:=Lib.hid (h.ok.push hl hx hn)
 have hlt:=h.lt
 have c4:=h.c4
 have c10:=h.c10
 have c11:=h.c11
 have hnf:=h.nf bf (by rw[hvf];rfl)
 obtain ⟨ap,cp,hvp⟩:=owns_shape h.p
 have hp:=h.p
 have hf:=h.f
 have hset:=h.set
 have hfz:=h.fz
 have hnp:=h.np
 rw[hfl] at hvf hf hcap
 rw[hao] at c4
 have hl1:(P.length:Int)<(C.O.length:Int):=by omega
 have hl2:(0:Int)≤(P.length:Int):=by omega
 have ho1:(o:Int)<(C.n':Int):=by omega
 have ho2:(0:Int)≤(o:Int):=by omega
 subst hvf
 -- the world behind the first store
 obtain ⟨W1,hW1⟩:∃W1,W1=(w.setCell ⟨bf,o,none⟩ (.int .i64 x)).drew:=⟨_,rfl⟩
 have hs1:Stays (fun k=>k=bf) w W1:=by rw[hW1];exact (Stays.setCell (S:=fun k=>k=bf) w (p:=⟨bf,o,none⟩) rfl _).drew
 have hsz1:W1.heap.size=w.heap.size:=by rw[hW1];simp[World.setCell,World.drew]
 have hf1:W1.ownsRow 0 3 1 (.slice (some ⟨bf,0,none⟩) C.n' cf) C.n' (((fillP C P).map (Value.int .i64)).set o (.int .i64 x)):=by rw[hW1];exact owns_set hf o (.int .i64 x)
 have hp1:W1.ownsRow 0 3 1 vp P.length (P.map (Value.int .i64)):=by rw[hW1];exact ownsRow_setCell_other hp (a:=⟨bf,o,none⟩) (fun e=>(hnp bf e).2.2 rfl) (.int .i64 x)
 have hbb:¬b=bf:=fun e=>hnf.2 e.symm
 have hb1:b<W1.heap.size:=by omega
 have hc1:∀i,W1.cell? ⟨b,i,none⟩=w.cell? ⟨b,i,none⟩:=fun i=>hs1.cell hlt hbb
 have hz1:∀i,W1.frozen? ⟨b,i,none⟩=w.frozen? ⟨b,i,none⟩:=fun i=>hs1.frozen hlt hbb
 have d11:=(hc1 11).trans c11
 have HSZ:=Lib.hid hsz1
 clear hsz1
 have HC1:=Lib.hid hc1
 have HZ1:=Lib.hid hz1
 clear hc1 hz1
 obtain ⟨i0,hi,hz0,hzz,hz2⟩:=info_parts infoInt
 have HW1:=Lib.hid hW1
 clear h hnf hW1
 have hvb:∀k,(Value.slice ap P.length cp).ownBlock=some k→vp.ownBlock=some k:=fun k e=>by rw[hvp];exact e
 have hvb':∀k,vp.ownBlock=some k→(Value.slice ap P.length cp).ownBlock=some k:=fun k e=>by rw[← hvp];exact e
 have hp1':=hp1
 rw[hvp] at c11 d11 hp1'
 have hPl:P.length≤256:=by
  have h1:=List.length_filter_le (fun (i:Nat)=>C.g[i]?.getD 0==0) (List.range C.g.length)
  have h2:C.O.length≤C.g.length:=by
   simpa [Cst.O,openL,openTo] using h1
  omega
 go_enter Tryz.func194,Tryz.ntmps194
 go_wp2
 refine wp_region_S (fun w'=>∃u,w'=over (w) u) [17] [(0,0),(0,1),(0,2),(0,3),(0,4),(0,5),(0,6),(0,7),(0,8),(0,9),(0,10),(0,11),(0,12),(0,13),(0,14),(0,15),(0,16),(2,17)] (by kernel_rfl) (by kernel_rfl) (by exact ⟨_,below_over (by repeat (first|assumption|exact Below.refl _ _|refine keep_drew ?_|refine keep_alloc ?_ _|refine keep_trans ?_ (by assumption)))⟩) ?_
 dsimp only[pickOps,nthOp]
 repeat (first|(refine wpS_skip rfl (fun K hK=>?_);go_big_quiet_op;refine hK _ ?_;clear hK K)|(refine wpS_quiet rfl rfl (fun K hK=>?_);go_big_quiet_op;refine hK _ ?_;clear hK K))
 refine wpS_late _ _ _ rfl ?_
 dsimp only[List.map]
 go_wp2
 refine NoPanic.normal ?_
 rw[← HW1.out]
 clear HW1 hcf hff c4 c10 c11 hco
 go_wp2_with (at_builtin;refine wpList_append_own2 _ rfl _ _ 25 rfl 3 i0 (.int .i64 0) 1 8 Tryz.underlying25 hi hz0 hzz hz2 rfl (by decide) _ _ _ rfl (hp1'.alloc _) ⟨W1.heap.size,0,none⟩ 1 1 [.int .i64 x] rfl rfl (cell_one_new _ _ _) (by simp[Value.oneCell']) (by unfold maxLen;omega) (by omega) ?_)
 intro v' W2 hown2 hgrow hnew
 obtain ⟨av,cv,rfl⟩:=owns_shape hown2
 have hs2:Stays (fun k=>(Value.slice ap P.length cp).ownBlock=some k) W1 W2:=(Below.stays ((Below.refl _ W1).alloc (Nat.le_refl _) _) _).trans (Stays.grown (S:=fun k=>(Value.slice ap P.length cp).ownBlock=some k) hgrow (fun k e=>e)) (fun i e => .inl e)
 have hbb2:¬(Value.slice ap P.length cp).ownBlock=some b:=fun e=>(hnp b (hvb b e)).2.1 rfl
 have hvn:∀k,(Value.slice av (P.length+1) cv).ownBlock=some k→vp.ownBlock=some k∨W1.heap.size<k:=fun k e=>(hnew k e).imp (hvb k) (fun h=>by omega)
 have hb2:b<W2.heap.size:=Nat.lt_of_lt_of_le hb1 hs2.size
 have e11:W2.cell? ⟨b,11,none⟩=some (.slice ap P.length cp):=(hs2.cell hb1 hbb2).trans d11
 have hz2:∀i,i<12→W2.frozen? ⟨b,i,none⟩=false:=fun i hi=>(hs2.frozen hb1 hbb2).trans ((HZ1.out i).trans (hfz i hi))
 have hset2:SetC W2 b 5 (maskL (leftL C P)):=fun q hq=>(hs2.cell hb1 hbb2).trans ((HC1.out _).trans (hset q hq))
 have HC2:Hid (∀i,W2.cell? ⟨b,i,none⟩=w.cell? ⟨b,i,none⟩):=fun i=>(hs2.cell hb1 hbb2).trans (HC1.out i)
 have f11:=hz2 11 (by omega)
 -- the world behind the second store
 have hc3:∀i,i≠11→(W2.setCell ⟨b,11,none⟩ (Value.slice av (P.length+1) cv)).cell? ⟨b,i,none⟩=W2.cell? ⟨b,i,none⟩:=fun i hi=>World.cell?_setCell_other _ _ _ _ (fun e=>by simp only[Addr.mk.injEq,true_and,and_true] at e;exact hi e.symm)
 have h311:(W2.setCell ⟨b,11,none⟩ (Value.slice av (P.length+1) cv)).cell? ⟨b,11,none⟩=some (.slice av (P.length+1) cv):=World.cell?_setCell_same _ _ _ e11
 have hset3:SetC (W2.setCell ⟨b,11,none⟩ (Value.slice av (P.length+1) cv)) b 5 (maskL (leftL C P)):=fun q hq=>(hc3 _ (by omega)).trans (hset2 q hq)
 have hz3:∀i,i<12→(W2.setCell ⟨b,11,none⟩ (Value.slice av (P.length+1) cv)).frozen? ⟨b,i,none⟩=false:=fun i hi=>(World.frozen?_setCell _ _ _ _).trans (hz2 i hi)
 have hs3:Stays (fun k=>k=b) W2 (W2.setCell ⟨b,11,none⟩ (Value.slice av (P.length+1) cv)):=Stays.setCell (S:=fun k=>k=b) W2 (p:=⟨b,11,none⟩) rfl _
 have hb3:b<(W2.setCell ⟨b,11,none⟩ (Value.slice av (P.length+1) cv)).heap.size:=Nat.lt_of_lt_of_le hb2 hs3.size
 have HD:=Lib.hid (sdrop_c b 5 (maskL (leftL C P)) x _ hset3 hxu.1 (by omega) hb3 (fun q hq=>hz3 _ (by omega)))
 have HC3:=Lib.hid hc3
 have H311:=Lib.hid h311
 have HZ3:=Lib.hid hz3
 have HS3:=Lib.hid hs3
 have HSET:=Lib.hid hset3
 clear hset2 hz2 hc3 hset3 hz3 hb3 hs3 h311 d11 hnew hgrow
 go_wp2_with (go_at_call 160;refine HD.out.mono ?_;rintro _ W4 ⟨rfl,hp4⟩)
 go_wp2
 go_end0
 have h:=H.out
 have hst2:Stays (fun k=>k=b) W2 W4:=HS3.out.trans hp4.stays (fun i e => .inl e)
 have hst1:Stays (fun k=>k=b∨(Value.slice ap P.length cp).ownBlock=some k) W1 W4:=(hs2.mono (fun i e => .inr e)).trans hst2 (fun i e => .inl (.inl e))
 have hst:Stays (Mut b (.slice (some ⟨bf,0,none⟩) C.n' cf) vp) w W4:=(hs1.mono (fun i e => .inr (.inl (by rw[e];rfl)))).trans hst1 (fun i e => .inl (e.elim .inl (fun e => .inr (.inr (hvb i e)))))
 have hsz:=HSZ.out
 have hcell:∀i,i≠11→(i<5∨9≤i)→W4.cell? ⟨b,i,none⟩=w.cell? ⟨b,i,none⟩:=fun i h1 h2=>(hp4.cell i (by omega)).trans ((HC3.out i h1).trans (HC2.out i))
 refine ⟨rfl,_,?_,hst,fun k e=>(hvn k e).imp id (fun h=>by omega)⟩
 have hfo:=hF.out
 refine { fine:=h.fine,ok:=hOk.out,imLt:=fun k e=>Nat.lt_of_lt_of_le (h.imLt k e) hst.size,sure:=h.sure.keep hst.size (fun k e=>hst.block k (h.imLt k e) ?_),lt:=Nat.lt_of_lt_of_le hlt hst.size,nb:=h.nb,nf:=h.nf,np:=?_,f:=?_,p:=?_,c0:=(hcell 0 (by omega) (by omega)).trans h.c0,c1:=(hcell 1 (by omega) (by omega)).trans h.c1,c2:=(hcell 2 (by omega) (by omega)).trans h.c2,c3:=(hcell 3 (by omega) (by omega)).trans h.c3,c4:=(hcell 4 (by omega) (by omega)).trans h.c4,set:=by rw[hM.out];exact PutW.set HSET.out hp4,c9:=(hcell 9 (by omega) (by omega)).trans h.c9,c10:=(hcell 10 (by omega) (by omega)).trans h.c10,c11:=(hp4.cell 11 (by omega)).trans H311.out,fz:=fun i hi=>(hp4.frozen _).trans (HZ3.out i hi) }
 ·rintro (e2|e2|e2)
  ·exact h.nb (e2▸e)
  ·exact (h.nf k e2).1 e
  ·exact (h.np k e2).1 e
 ·intro k e
  rcases hvn k e with e2|e2
  ·exact h.np k e2
  ·refine ⟨fun e3=>by have:=h.imLt k e3;omega,by omega,fun e3=>?_⟩
   simp only[Value.ownBlock,Option.some.injEq] at e3
   omega
 ·rw[hfo,List.length_set,hfl]
  refine owns_keep (w:=W1) ?_ (fun k e hlt=>hst1.block k hlt ?_)
  ·rw[List.map_set];exact hf1
  ·simp only[Value.ownBlock,Option.some.injEq] at e
   subst e
   rintro (e2|e2)
   ·exact hbb e2.symm
   ·exact (hnp _ (hvb _ e2)).2.2 rfl
 ·rw[List.length_append,List.map_append]
  refine owns_keep hown2 (fun k e hlt=>hst2.block k hlt (fun e2=>?_))
  rcases hvn k e with e3|e3
  ·exact (hnp k e3).2.1 e2
  ·omega
end
end Go.Proofs.YtaadpihbjhachaaGreat
