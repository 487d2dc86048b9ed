/- Texts D8 to M8 of this proof, in one file. -/
import Derived.Test.YtaadpihbjhachaaGreatW01
import Derived.Test.YtaadpihbjhachaaGreatW02
import Derived.Test.YtaadpihbjhachaaGreatW04
import Derived.Test.YtaadpihbjhachaaGreatW07
import Derived.Test.YtaadpihbjhachaaGreatW09
import Derived.Test.YtaadpihbjhachaaGreatW10
import Derived.Deep.CutBlock
import Derived.Deep.CutRange
import Derived.Laws.EntriesVeiled
namespace Go.Proofs.YtaadpihbjhachaaGreat
set_option maxRecDepth 100000
set_option maxHeartbeats 16000000
section
open Go Go.RowKit
attribute [local go_sem] over_cell
attribute [local go_sem] Oper.semAt_some
theorem setType:Tryz.prog.underlying 148=some (.array 4 146):=by kernel_rfl
theorem run_eq_set (d:Nat) (a0 a1 a2 a3 b0 b1 b2 b3:Int) (w:World) :
  (Op.equalIn (d+1+1) 148 (.agg #[.int .u64 a0,.int .u64 a1,.int .u64 a2,.int .u64 a3]) (.agg #[.int .u64 b0,.int .u64 b1,.int .u64 b2,.int .u64 b3])).run Tryz.prog w = .ok (a0==b0&&(a1==b1&&(a2==b2&&a3==b3))) w:=by
 rw[Op.equalIn]
 simp only[Sem.run_bind,run_underlying setType,Result.andThen_ok]
 simp[go_sem,List.range'_succ]
 by_cases h0:a0=b0
 ·by_cases h1:a1=b1
  ·by_cases h2:a2=b2
   ·by_cases h3:a3=b3
    ·simp[h0,h1,h2,h3]
    ·simp[h0,h1,h2,h3]
   ·simp[h0,h1,h2]
  ·simp[h0,h1]
 ·simp[h0]
def eqM (A B:Nat):Bool:=((word A 0:Nat):Int)==((word B 0:Nat):Int)&&(((word A 1:Nat):Int)==((word B 1:Nat):Int)&&(((word A 2:Nat):Int)==((word B 2:Nat):Int)&&((word A 3:Nat):Int)==((word B 3:Nat):Int)))
theorem run_eq_masks (A B:Nat) (w:World):(Op.equalIn 10000 148 (.agg #[.int .u64 ((word (A) 0:Nat):Int),.int .u64 ((word (A) 1:Nat):Int),.int .u64 ((word (A) 2:Nat):Int),.int .u64 ((word (A) 3:Nat):Int)]) (.agg #[.int .u64 ((word (B) 0:Nat):Int),.int .u64 ((word (B) 1:Nat):Int),.int .u64 ((word (B) 2:Nat):Int),.int .u64 ((word (B) 3:Nat):Int)])).run Tryz.prog w = .ok (eqM A B) w:=run_eq_set 9998 _ _ _ _ _ _ _ _ w
theorem run_eq_zero (A:Nat) (w:World):(Op.equalIn 10000 148 (.agg #[.int .u64 ((word (A) 0:Nat):Int),.int .u64 ((word (A) 1:Nat):Int),.int .u64 ((word (A) 2:Nat):Int),.int .u64 ((word (A) 3:Nat):Int)]) (.agg #[.int .u64 0,.int .u64 0,.int .u64 0,.int .u64 0])).run Tryz.prog w = .ok (eqM A 0) w:=by
 have h:=run_eq_set 9998 ((word A 0:Nat):Int) ((word A 1:Nat):Int) ((word A 2:Nat):Int) ((word A 3:Nat):Int) 0 0 0 0 w
 have e:eqM A 0=(((word A 0:Nat):Int)==0&&(((word A 1:Nat):Int)==0&&(((word A 2:Nat):Int)==0&&((word A 3:Nat):Int)==0))):=by
  have hz:∀q,word 0 q=0:=fun q=>by simp[word]
  unfold eqM
  rw[hz,hz,hz,hz]
  rfl
 rw[e]
 exact h
attribute [local go_sem] run_eq_masks
attribute [local go_sem] run_eq_zero
def fullTo (Ms:List Nat) (k:Nat):Bool:=(Ms.take k).all fun s=>!eqM s 0
def contraB (Ms:List Nat) (M:Nat):Bool:=!eqM (onceTo Ms Ms.length) M||!fullTo Ms Ms.length
end
section
open Go Go.RowKit
attribute [local go_sem] over_cell
end
section
open Go Go.RowKit
attribute [local go_sem] over_cell
def ownTo (l g:List Int) (j:Nat):List Int:=(l.take j).filter fun c=>g[c.toNat]?.getD 0==0
def tightTo (ls:List (List Int)) (g:List Int):Nat→Nat × Int
 | 0=>((openL g).length+1,(openL g)[0]?.getD 0)
 | k+1=>if 0<(ownTo (ls[k]?.getD []) g (ls[k]?.getD []).length).length∧(ownTo (ls[k]?.getD []) g (ls[k]?.getD []).length).length<(tightTo ls g k).1 then ((ownTo (ls[k]?.getD []) g (ls[k]?.getD []).length).length,(ownTo (ls[k]?.getD []) g (ls[k]?.getD []).length)[0]?.getD 0) else tightTo ls g k
def tightLine (ls:List (List Int)) (g:List Int) (sum:Int):Int:=match (List.range ls.length).find? (fun k=>beyV (ls[k]?.getD []) g sum) with|some k=>(k:Int)|none => -1
def tightCell (ls:List (List Int)) (g:List Int) (sum:Int):Int:=match (List.range ls.length).find? (fun k=>beyV (ls[k]?.getD []) g sum) with|some _=>0|none=>(tightTo ls g ls.length).2
end
section
open Go Go.RowKit
attribute [local go_sem] over_cell
end
section
open Go Go.RowKit
theorem tmod_pos (a n:Int) (hn:1≤n) : -n<a.tmod n∧a.tmod n<n:=by
 refine ⟨?_,Int.tmod_lt_of_pos a (by omega)⟩
 have h:=Int.tmod_lt_of_pos (-a) (show 0<n by omega)
 rw[Int.neg_tmod] at h
 omega
theorem mod_val (a n:Int) (hn1:1≤n) (hn2:n≤1000000):(wrap64 (a.tmod n+n)).tmod n=a % n:=by
 obtain ⟨h1,h2⟩:=tmod_pos a n hn1
 have e:wrap64 (a.tmod n+n)=a.tmod n+n:=by unfold wrap64;omega
 rw[e,Int.tmod_eq_emod_of_nonneg (by omega),Int.add_emod_right]
 have h3:=Int.tmod_add_mul_tdiv a n
 conv=>rhs;rw[← h3]
 rw[Int.add_mul_emod_self_left]
theorem mod_c (a n:Int) (w:World) (hn1:1≤n) (hn2:n≤1000000) :
  Calls Tryz.prog 231 #[.int .i64 a,.int .i64 n] w fun e w'=>e = .returned (.int .i64 (a % n))∧w=w':=by
 have hn0:n≠0:=by omega
 have hn00:(n==0)=false:=by simp;omega
 have HN:=Lib.hid hn0
 clear hn0
 go_enter Tryz.func231,Tryz.ntmps231
 go_wp2
 go_ret
 exact ⟨congrArg Ending.returned (congrArg (Value.int IntKind.i64) (mod_val a n hn1 hn2)),rfl⟩
end
section
open Go Go.RowKit
attribute [local go_sem] over_cell
def diagTo (n s t:Int) (k:Nat):List Int:=(List.range k).map fun (i:Nat)=>n*i+(t*i+s) % n
theorem diagTo_succ (n s t:Int) (k:Nat):diagTo n s t (k+1)=diagTo n s t k++[n*k+(t*k+s) % n]:=by
 unfold diagTo;rw[List.range_succ,List.map_append];rfl
theorem diag_c (n:Nat) (s t:Int) (w:World) (hn1:1≤n) (hn2:n≤16) (hs1:0≤s) (hs2:s≤16) (ht:t=1∨t = -1) :
  Calls Tryz.prog 191 #[.int .i64 n,.int .i64 s,.int .i64 t] w fun e w'=>∃v,e = .returned v∧w'.ownsRow w.heap.size 3 1 v n ((diagTo n s t n).map (Value.int .i64))∧Below w.heap.size w w':=by
 obtain ⟨i0,hi,hz0,hz1,hz2⟩:=info_parts infoInt
 have HM:=Lib.hid (fun (x:Int) W=>mod_c x (n:Int) W (by omega) (by omega))
 have HT:=Lib.hid ht
 clear ht
 go_enter Tryz.func191,Tryz.ntmps191
 go_wp2_with fail
 go_loopw [7,8] (fun v i wr=>∃k:Nat,k≤n∧i = .int .i64 k∧wr.ownsRow w.heap.size 3 1 v k ((diagTo n s t k).map (Value.int .i64))∧Below w.heap.size w wr) (fun _ i _=>n - (intOf i).toNat)
 case atStart=>exact ⟨0,by omega,rfl,World.ownsRow_nil _ _ _ _,Below.refl _ _⟩
 case round =>
  obtain ⟨k,hk,rfl,hown,hbr⟩:=hrel
  by_cases hlt:k<n
  ·have hli:(k:Int)<(n:Int):=by omega
   have hszr:=hbr.size
   have h1:t*(k:Int)+s≤1000 ∧ -1000≤t*(k:Int)+s:=by rcases HT.out with e|e <;> rw[e] <;> omega
   have h2:0≤(n:Int)*(k:Int)∧(n:Int)*(k:Int)≤256:=by
    constructor
    ·exact Int.mul_nonneg (by omega) (by omega)
    ·have:=Int.mul_le_mul (show (n:Int)≤16 by omega) (show (k:Int)≤16 by omega) (by omega) (by omega);omega
   have h3 : -16≤t*(k:Int)∧t*(k:Int)≤16:=by rcases HT.out with e|e <;> rw[e] <;> omega
   have hN:=Lib.hid (diagTo_succ n s t k)
   have hm0:=Int.emod_nonneg (t*(k:Int)+s) (show (n:Int)≠0 by omega)
   have hm1:=Int.emod_lt_of_pos (t*(k:Int)+s) (show 0<(n:Int) by omega)
   have HM1:=Lib.hid (HM.out (t*(k:Int)+s))
   generalize (t*(k:Int)+s) % (n:Int)=m at hN hm0 hm1 HM1
   go_wp2_with (first|(go_at_call 231;refine (HM1.out _).mono ?_;rintro _ w2 ⟨rfl,rfl⟩)|(at_builtin;refine wpList_append_own _ rfl _ _ 25 rfl w.heap.size 3 i0 (.int .i64 0) 1 8 Tryz.underlying25 hi hz0 hz1 hz2 rfl (by decide) _ _ _ rfl (hown.alloc _) ⟨wr.heap.size,0,none⟩ 1 1 [.int .i64 ((n:Int)*k+m)] rfl rfl (cell_one_new _ _ _) (by simp[Value.oneCell']) (by unfold maxLen;omega) (by omega) (by simp;omega) ?_))
   intro v' w3 hown' hgrow _
   have hb3:Below w.heap.size w w3:=(hbr.alloc hbr.size _).grown hgrow (by simp;omega) (fun j e=>(hown.lt j e).1)
   have hown2:w3.ownsRow w.heap.size 3 1 v' (k+1) ((diagTo n s t (k+1)).map (Value.int .i64)):=by
    rw[hN.out];simpa using hown'
   clear hown' hgrow hown
   go_wp2
   go_roundw
   case rel=>exact ⟨k+1,by omega,by go_num,hown2,hb3⟩
   case measure=>simp[intOf];omega
  ·have e:k=n:=by omega
   subst e
   go_wp2
   go_ret
   exact ⟨_,rfl,hown,hbr⟩
end
section
open Go Go.RowKit
attribute [local go_sem] over_cell
attribute [local go_sem] Oper.semAt_some
end
section
open Go Go.RowKit
section
variable {P:Program} {ops:Array Oper} {Q:Exit→Act→World→Prop} {md:Region.Mode} {S:World→Prop} {late:Nat→Bool}
def wpF (P:Program) (ops:Array Oper) (K:Act→Prop):List Oper→Act→Prop
 | [],a=>K a
 | o :: r,a=>if Region.wanted o (yielded ops a.tmps) then ∃v,(∀w',(execOp a.eval o).run P w' = .ok (.value v) w')∧wpF P ops K r (a.put o.dst v) else wpF P ops K r (a.put o.dst undef)
attribute [irreducible] wpF
end
end
section
open Go Go.RowKit
theorem owns_slice4 {w:World} {base:Nat} {e:TypeId} {size:Nat} {v:Value} {n:Nat} {xs:List Value} (h:w.ownsRow base e size v n xs):∃a c,v = .slice a n c:=by
 rcases h.2 with ⟨h2,h3⟩|⟨g,cap,cur,hv,_⟩
 ·exact ⟨none,0,by rw[h2,h3]⟩
 ·exact ⟨_,_,hv⟩
theorem stays_q {S:Nat→Prop} {W W':World} {b:Nat} {o:Obj} (hs:Stays S W W') (hq:W.heap[b]?=some o) (hb:¬S b):W'.heap[b]?=some o:=(hs.block b (q_lt hq) hb).trans hq
theorem owns_ge {w:World} {base:Nat} {e:TypeId} {size:Nat} {v:Value} {n:Nat} {xs:List Value} (h:w.ownsRow base e size v n xs) {k:Nat} (hk:v.ownBlock=some k):base≤k:=by
 rcases h.2 with ⟨rfl,_⟩|⟨g,cap,cur,rfl,hb,_⟩
 ·cases hk
 ·cases hk;exact hb
theorem grow_s0 {W W2:World} {o:Obj} {row:Option Nat} (hg:(W.alloc o).grownBy W2 row):Stays (fun k=>row=some k) W W2 :=
 (Below.stays ((Below.refl _ W).alloc (Nat.le_refl _) o) _).trans (Stays.grown (S:=fun k=>row=some k) hg (fun _ e=>e)) (fun _ e => .inl e)
theorem owns_blk {w:World} {base n cap:Nat} {e:TypeId} {size:Nat} {a:Option Addr} {xs:List Value} (h:w.ownsRow base e size (.slice a n cap) n xs) (hn:0<n):∃g cur,a=some ⟨g,0,none⟩∧base≤g∧w.heap[g]?=some (.cells cur e (0,0)):=by
 rcases h.2 with ⟨_,h3⟩|⟨g,cap',cur,hv,hb,hh,_⟩
 ·omega
 ·simp only[Value.slice.injEq] at hv
  exact ⟨g,cur,hv.1,hb,hh⟩
end
section
open Go Go.RowKit
attribute [local go_sem] over_cell
attribute [local go_sem] Oper.semAt_some
def allM:Nat→Nat
 | 0=>0
 | k+1=>allM k ||| 2 ^ k
def begM (n:Nat) (x:Int):Nat:=if 0<x then 2 ^ (x.toNat - 1) else allM n
def begL (g:List Int):List Nat:=g.map (begM g.length)
end
section
open Go Go.RowKit
def findN {α:Type} (n:Nat) (f:Nat→Option α):Option α:=(List.range n).findSome? f
abbrev Rem:=Nat × Nat × Nat × Int
def singles (Ms:List Nat):List Nat:=Ms.filter fun s=>sizeM s==1
def oneM (Ms:List Nat):Nat:=onceTo (singles Ms) (singles Ms).length
def twoM (Ms:List Nat):Nat:=twiceTo (singles Ms) (singles Ms).length
def onceF (one two s:Nat):Nat:=aboveM (if sizeM s=1 then s &&& two else s &&& one) 0
def onceAt (one two:Nat) (Ms:List Nat) (c:Nat):Option Rem:=if 0<onceF one two (Ms[c]?.getD 0) then some (0,c,onceF one two (Ms[c]?.getD 0),-1) else none
def onceR (Ms:List Nat):Option Rem:=findN Ms.length (onceAt (oneM Ms) (twoM Ms) Ms)
def aloneM (Ms:List Nat):Nat:=minus (onceTo Ms Ms.length) (twiceTo Ms Ms.length)
def placeF (alone s:Nat):Nat:=if sizeM (s &&& alone)=0 then 0 else if sizeM (s &&& alone)=1 then aboveM (minus s (s &&& alone)) 0 else aboveM s 0
def placeAt (alone:Nat) (Ms:List Nat) (c:Nat):Option Rem:=if 0<placeF alone (Ms[c]?.getD 0) then some (2,c,placeF alone (Ms[c]?.getD 0),-1) else none
def placeR (Ms:List Nat):Option Rem:=findN Ms.length (placeAt (aloneM Ms) Ms)
def lowTo (Ms:List Nat) (l:List Int):Nat→Nat
 | 0=>0
 | j+1=>lowTo Ms l j+aboveM (Ms[(l[j]?.getD 0).toNat]?.getD 0) 0
def highTo (Ms:List Nat) (l:List Int):Nat→Nat
 | 0=>0
 | j+1=>highTo Ms l j+greatM (Ms[(l[j]?.getD 0).toNat]?.getD 0)
def lineF (sum:Int) (low high s:Nat):Nat :=
 if sum - ((high:Int) - greatM s)≤aboveM s 0 then aboveM s (max (sum - ((low:Int) - aboveM s 0)) 0).toNat else aboveM s 0
def lineAt (sum:Int) (low high:Nat) (Ms:List Nat) (k:Nat) (l:List Int) (j:Nat):Option Rem :=
 if 0<lineF sum low high (Ms[(l[j]?.getD 0).toNat]?.getD 0) then some (1,(l[j]?.getD 0).toNat,lineF sum low high (Ms[(l[j]?.getD 0).toNat]?.getD 0),k) else none
def lineK (sum:Int) (Ms:List Nat) (l:List Int) (k:Nat):Option Rem:=findN l.length (lineAt sum (lowTo Ms l l.length) (highTo Ms l l.length) Ms k l)
def lineR (ls:List (List Int)) (sum:Int) (Ms:List Nat):Option Rem:=findN ls.length fun k=>lineK sum Ms (ls[k]?.getD []) k
def stepR (ls:List (List Int)) (sum:Int) (M:Nat) (Ms:List Nat):Option Rem :=
 if contraB Ms M=true then none else match onceR Ms with
  | some r=>some r
  | none=>match lineR ls sum Ms with
   | some r=>some r
   | none=>placeR Ms
def dropR (Ms:List Nat) (r:Rem):List Nat:=Ms.set r.2.1 (clearBit (Ms[r.2.1]?.getD 0) (r.2.2.1 - 1))
def iterR (ls:List (List Int)) (sum:Int) (M:Nat):Nat→List Nat→List Rem × List Nat
 | 0,Ms=>([],Ms)
 | k+1,Ms=>match stepR ls sum M Ms with
  | none=>([],Ms)
  | some r=>(r :: (iterR ls sum M k (dropR Ms r)).1,(iterR ls sum M k (dropR Ms r)).2)
end
section
open Go Go.RowKit
attribute [local go_sem] over_cell
attribute [local go_sem] Oper.semAt_some
end
section
open Go Go.RowKit
attribute [local go_sem] over_cell
attribute [local go_sem] Oper.semAt_some
end
section
open Go Go.RowKit
end
section
open Go Go.RowKit
attribute [local go_sem] over_cell
attribute [local go_sem] Oper.semAt_some
end
section
open Go Go.RowKit
attribute [local go_sem] over_cell
attribute [local go_sem] Oper.semAt_some
end
section
open Go Go.RowKit
attribute [local go_sem] over_cell
attribute [local go_sem] Oper.semAt_some
def candL (M:Nat) (Ms:List Nat):List (List Int):=if contraB Ms M=true then Ms.map (fun _=>[]) else Ms.map elemsM
end
section
open Go Go.RowKit
structure Nd where
 kind:ByteArray
 cell:Int
 line:Int
 number:Int
 kids:Int
def kLine:ByteArray:=⟨#[108,105,110,101]⟩
def lineOk (ls:List (List Int)) (sum:Int) (g:List Int) (d:Nd):Bool :=
 d.cell==0&&d.number==0&&d.kids==0&&decide (0≤d.line)&&decide (d.line<ls.length)&&beyV (ls[d.line.toNat]?.getD []) g sum
end
section
open Go Go.RowKit
attribute [local go_sem] over_cell
attribute [local go_sem] Oper.semAt_some
end
section
open Go Go.RowKit Go.Shelf
attribute [local go_sem] over_cell
attribute [local go_sem] Oper.semAt_some
end
section
open Go Go.RowKit
attribute [local go_sem] over_cell
attribute [local go_sem] Oper.semAt_some
def okTB (ls:List (List Int)) (sum:Int):Nat→List Int→Bool
 | 0,_=>false
 | f+1,g=>decide (0≤tightLine ls g sum) ||
  (decide (0≤tightCell ls g sum)&&decide (tightCell ls g sum<g.length)&&g[(tightCell ls g sum).toNat]?.getD 0==0&&(unusedL g).all fun x=>okTB ls sum f (g.set (tightCell ls g sum).toNat x))
end
section
open Go Go.RowKit
attribute [local go_sem] over_cell
attribute [local go_sem] Oper.semAt_some
end
section
open Go Go.RowKit
attribute [local go_sem] over_cell
attribute [local go_sem] Oper.semAt_some
end
section
open Go Go.RowKit
attribute [local go_sem] over_cell
attribute [local go_sem] Oper.semAt_some
end
section
open Go Go.RowKit
attribute [local go_sem] over_cell
attribute [local go_sem] Oper.semAt_some
end
section
open Go Go.RowKit
attribute [local go_sem] over_cell
attribute [local go_sem] Oper.semAt_some
end
section
open Go Go.RowKit
attribute [local go_sem] over_cell
attribute [local go_sem] Oper.semAt_some
end
section
open Go Go.RowKit
attribute [local go_sem] over_cell
attribute [local go_sem] Oper.semAt_some
def withL (ls:List (List Int)) (l:List Int):List (List Int):=if hasLineB ls l=true then ls else ls++[l]
theorem with_c (L:Nat) (v:Value) (pre:List (Value × List Int)) (al:Option Addr) (nl cl:Nat) (xs:List Int) (w:World) (hrow:RowsI w (fun _=>False) L v pre) (hl:IC w al nl xs) (h0:0<nl) (hn:nl≤256) (hL:L≤w.heap.size) (hp:pre.length≤1000) (hpl:∀x,x∈pre→x.2.length≤256)
  (hasc:∀i:Nat,1≤i→i<nl→¬xs[i]?.getD 0<xs[i - 1]?.getD 0) :
  Calls Tryz.prog 190 #[v,.slice al nl cl] w fun e w'=>∃v' pre',e = .returned v'∧RowsI w' (fun _=>False) L v' pre'∧pre'.map Prod.snd=withL (pre.map Prod.snd) xs∧Below L w w':=by
 obtain ⟨i0,hi,hz0,hz1,hz2⟩:=info_parts infoInt
 obtain ⟨i2,hi2,hy0,hy1,hy2⟩:=info_parts infoRow
 have HR:=Lib.hid hrow
 have hlen:=hl.len
 have HA:=Lib.hid hasc
 obtain ⟨av,cv,rfl⟩:=owns_shape hrow.1
 obtain ⟨bl,ol,rfl,hbl,_⟩:=hl.2 0 h0
 have HC:=Lib.hid (hl.cells (p:=⟨bl,ol,none⟩))
 clear hrow hasc
 go_enter Tryz.func190,Tryz.ntmps190
 have hownE:(w.alloc (.cells #[] 3)).ownsRow w.heap.size 3 1 (.slice (some ⟨w.heap.size,0,none⟩) 0 0) 0 []:=⟨rfl,.inr ⟨w.heap.size,0,#[],rfl,Nat.le_refl _,World.alloc_heap_new _ _,Nat.le_refl _,by unfold maxLen;omega,rfl,rfl⟩⟩
 have hBE:Below w.heap.size w (w.alloc (.cells #[] 3)):=(Below.refl _ _).alloc (Nat.le_refl _) _
 go_wp2_with (first|(at_builtin;refine wpList_append_own _ rfl _ _ 25 rfl w.heap.size 3 i0 (.int .i64 0) 1 8 Tryz.underlying25 hi hz0 hz1 hz2 rfl (by decide) _ _ _ rfl hownE ⟨bl,ol,none⟩ nl cl (xs.map (Value.int .i64)) rfl (by rw[List.length_map];omega) (fun j u hj=>by
  have h1:=HC.out j u hj
  rw[← h1]
  have hadd:((⟨bl,ol,none⟩:Addr).add j)=⟨bl,ol+j,none⟩:=by unfold Addr.add;split <;> simp_all
  rw[hadd]
  exact (bcell hBE).1 _ _ hbl) (by simp[Value.oneCell']) (by unfold maxLen;omega) (by omega) (by simp) ?_))
 intro v5 w5 hown5 hgrow _
 obtain ⟨a5,c5,rfl⟩:=owns_slice4 hown5
 have hB5:Below w.heap.size w w5:=hBE.grown hgrow (by simp) (fun k e=>by simp only[Value.ownBlock,Option.some.injEq] at e;omega)
 have hown6:w5.ownsRow w.heap.size 3 1 (.slice a5 xs.length c5) xs.length (xs.map (Value.int .i64)):=by rw[hlen];exact hown5
 have hic5:=(IC.of_owns hown6 (by omega)).1
 rw[hlen] at hic5
 have HIC:=Lib.hid hic5
 have HO5:=Lib.hid hown5
 clear hown5 hown6 hgrow hownE hBE hic5
 go_wp2_with fail
 go_loopw [6,7] (fun i _ wr=>∃m:Nat,m+1≤nl∧i = .int .i64 ((m:Int)+1)∧Below w5.heap.size w5 wr) (fun i _ _=>nl - (intOf i).toNat)
 case atStart=>exact ⟨0,by omega,rfl,Below.refl _ _⟩
 case round =>
  obtain ⟨m,hm,rfl,hbr⟩:=hrel
  have hBr:=hB5.trans (hbr.mono hB5.size)
  by_cases hlt:m+1<nl
  ·have hlti:(m:Int)+1<(nl:Int):=by omega
   obtain ⟨b5,o5,rfl,hb5,hc0⟩:=(HIC.out.mono hbr).2 m (by omega)
   obtain ⟨b6,o6,e6,hb6,hc1⟩:=(HIC.out.mono hbr).2 (m+1) hlt
   cases e6
   have hno:=HA.out (m+1) (by omega) hlt
   rw[show m+1 - 1=m from by omega] at hno
   generalize xs[m]?.getD 0=y0 at hc0 hno
   generalize xs[m+1]?.getD 0=y1 at hc1 hno
   have hdn:decide (y1<y0)=false:=decide_eq_false (by omega)
   have hpos:(0:Int)<(m:Int)+1:=by omega
   have hmi:(m:Int)<(nl:Int):=by omega
   go_wp2_with fail
   go_loop [7] (fun i=>i = .int .i64 ((m:Int)+1)) (fun _=>0)
   case atStart=>rfl
   case round =>
    subst hrel
    go_wp2_with fail
    refine wp_region_S (fun w'=>∃u,w'=over (wr) u) [] [(0,0),(0,1),(0,2),(0,3),(0,4),(0,5),(0,6),(0,7),(0,8),(0,9),(0,10),(0,11),(0,12),(0,13)] (by kernel_rfl) (by kernel_rfl) (by exact ⟨_,below_over (by repeat (first|assumption|exact Below.refl _ _|refine keep_drew ?_|refine keep_alloc ?_ _|refine keep_trans ?_ (by assumption)))⟩) ?_
    dsimp only[pickOps,nthOp]
    repeat (first|(refine wpS_skip rfl (fun K hK=>?_);go_big_quiet_op;refine hK _ ?_;clear hK K)|(refine wpS_quiet rfl rfl (fun K hK=>?_);go_big_quiet_op;refine hK _ ?_;clear hK K))
    refine wpS_end ?_
    go_wp2_with fail
    go_roundw
    case rel=>exact ⟨m+1,hlt,by go_num,hbr.drew⟩
    case measure=>simp[intOf];omega
  ·have e:m+1=nl:=by omega
   have hnl:¬(m:Int)+1<(nl:Int):=by omega
   obtain ⟨ar,cr,e2,hrc,hcr⟩:=(HR.out.keep ((Below.stays hBr _).toL 0) (M':=fun _=>False) (fun _ e=>e.elim)).rc (by omega) (fun x hx=>by have:=hpl x hx;omega)
   cases e2
   have HHL:=Lib.hid (hasLine_c av a5 pre.length nl cv c5 _ _ wr hrc (HIC.out.mono hbr))
   clear hrc
   go_wp2_with fail
   refine HHL.out.mono ?_
   rintro _ w7 ⟨rfl,hb7⟩
   have hB7:=hBr.trans (hb7.mono hBr.size)
   have HR7:=Lib.hid (HR.out.keep ((Below.stays hB7 _).toL 0) (M':=fun _=>False) (fun _ e=>e.elim))
   cases hh:hasLineB (pre.map Prod.snd) xs with
   | true =>
    have HH:=Lib.hid hh
    clear hh
    go_wp2_with fail
    go_ret
    exact ⟨_,pre,rfl,HR7.out,by unfold withL;rw[if_pos HH.out],hB7.mono hL⟩
   | false =>
    have HH:=Lib.hid hh
    clear hh
    have hra:=HR7.out.1
    have hz7:=hB7.size
    have HO7:=Lib.hid (owns_keep HO5.out (fun k _ hl=>(hbr.trans (hb7.mono hbr.size)).block k hl))
    go_wp2_with (first|(at_builtin;refine wpList_append_own2 _ rfl _ _ 22 rfl 25 i2 (.slice none 0 0) 1 24 Tryz.underlying22 hi2 hy0 hy1 hy2 rfl (by decide) _ _ _ rfl (owns_base (hra.alloc _) (Nat.zero_le _)) ⟨w7.heap.size,0,none⟩ 1 1 [.slice a5 nl c5] rfl rfl (cell_one_new _ _ _) (by simp[Value.oneCell']) (by unfold maxLen;omega) (by omega) ?_))
    intro v' w8 hown' hgrow hnew
    have hs8:=grow_stays hgrow
    have hnew2:∀k,v'.ownBlock=some k→(Value.slice av pre.length cv).ownBlock=some k∨w7.heap.size≤k:=fun k e=>(hnew k e).imp id (fun h=>by first|omega|(simp at h;omega))
    have hrow8:=HR7.out.append (x:=((Value.slice a5 nl c5),xs)) (v':=v') (fun k e=>e.elim) (by rw[hlen];exact owns_base HO7.out hL) (fun k e=>⟨fun h=>h,fun h2=>by have:=(HR.out.1.lt k h2).2;have:=owns_ge HO7.out e;omega⟩) hs8 (owns_up hown' (fun k e=>(hnew2 k e).elim (fun h=>owns_ge HR7.out.1 h) (fun h=>by omega))) hnew2
    have HR8:=Lib.hid hrow8
    have hB8:Below L w w8:=(hB7.mono hL).trans (hs8.below (B:=L) (by omega) (fun k e=>owns_ge HR7.out.1 e))
    clear hown' hgrow hnew hnew2 hrow8
    go_wp2_with fail
    go_ret
    exact ⟨v',_,rfl,HR8.out,by unfold withL;rw[if_neg (by rw[HH.out];decide),List.map_append];rfl,hB8⟩
end
section
open Go Go.RowKit
attribute [local go_sem] over_cell
attribute [local go_sem] Oper.semAt_some
theorem withL_len (ls:List (List Int)) (l:List Int):(withL ls l).length≤ls.length+1:=by
 unfold withL;split
 ·omega
 ·simp
theorem withL_mem {ls:List (List Int)} {l x:List Int} (h:x∈withL ls l):x∈ls∨x=l:=by
 unfold withL at h
 split at h
 ·exact .inl h
 ·rcases List.mem_append.1 h with h|h
  ·exact .inl h
  ·exact .inr (List.mem_singleton.1 h)
def qlR (n i j:Nat):List Int:=(List.range j).map fun (j:Nat)=>(n:Int)*i+j
theorem qlR_succ (n i j:Nat):qlR n i (j+1)=qlR n i j++[(n:Int)*i+j]:=by
 unfold qlR;rw[List.range_succ,List.map_append];rfl
theorem qlR_len (n i j:Nat):(qlR n i j).length=j:=by simp[qlR]
theorem qlR_get (n i m j:Nat) (h:j<m):(qlR n i m)[j]?.getD 0=(n:Int)*i+j:=by
 simp[qlR,h]
def qlsR (n:Nat) (ls:List (List Int)):Nat→List (List Int)
 | 0=>ls
 | i+1=>withL (qlsR n ls i) (qlR n i n)
theorem rows_c (L n:Nat) (v:Value) (pre:List (Value × List Int)) (w:World) (hrow:RowsI w (fun _=>False) L v pre) (hL:L≤w.heap.size) (h0:0<n) (hn:n≤16) (hp:pre.length≤500) (hpl:∀x,x∈pre→x.2.length≤256) :
  Calls Tryz.prog 189 #[v,.int .i64 n,.int .i64 n] w fun e w'=>∃v' pre',e = .returned v'∧RowsI w' (fun _=>False) L v' pre'∧pre'.map Prod.snd=qlsR n (pre.map Prod.snd) n∧pre'.length≤pre.length+n∧(∀x,x∈pre'→x.2.length≤256)∧Below L w w':=by
 obtain ⟨i0,hi,hz0,hz1,hz2⟩:=info_parts infoInt
 have HR:=Lib.hid hrow
 clear hrow
 go_enter Tryz.func189,Tryz.ntmps189
 go_wp2_with fail
 go_loopg [0,7,8,9] n (fun gk lv iv _ _ wv=>∃(i:Nat) (pre':List (Value × List Int)),gk=n - i∧i≤n∧iv = .int .i64 i∧Hid (RowsI wv (fun _=>False) L lv pre')∧Hid (pre'.map Prod.snd=qlsR n (pre.map Prod.snd) i)∧pre'.length≤pre.length+i∧Hid (∀x,x∈pre'→x.2.length≤256)∧Below L w wv)
 case atStart=>exact ⟨0,pre,by omega,by omega,rfl,HR.out,rfl,by omega,hpl,Below.refl _ _⟩
 case round =>
  obtain ⟨i,pre',rfl,hin,rfl,hrw,hls,hlen,hsh,hbr⟩:=hrel
  have hszr:=hbr.size
  by_cases hlt:i<n
  ·have hii:(i:Int)<(n:Int):=by omega
   obtain ⟨B0,hB0⟩:∃B0,B0=wr.heap.size:=⟨_,rfl⟩
   go_wp2_with fail
   go_loopg [8,9] n (fun gk v jv wv=>∃(j:Nat),gk=n - j∧j≤n∧jv = .int .i64 j∧Hid (wv.ownsRow B0 3 1 v j ((qlR n i j).map (Value.int .i64)))∧Below wr.heap.size wr wv)
   case atStart=>exact ⟨0,by omega,by omega,rfl,World.ownsRow_nil _ _ _ _,Below.refl _ _⟩
   case round =>
    obtain ⟨j,rfl,hj,rfl,hown,hbj⟩:=hrel
    obtain ⟨a1,c1,rfl⟩:=owns_shape (n:=j) (xs:=(qlR n i j).map (Value.int .i64)) (by simpa using hown.out)
    by_cases hltj:j<n
    ·have hji:(j:Int)<(n:Int):=by omega
     have h1:0≤(n:Int)*(i:Int)∧(n:Int)*(i:Int)≤256:=by
      constructor
      ·exact Int.mul_nonneg (by omega) (by omega)
      ·have:=Int.mul_le_mul (show (n:Int)≤16 by omega) (show (i:Int)≤16 by omega) (by omega) (by omega);omega
     have h2:0≤(n:Int)*(j:Int)∧(n:Int)*(j:Int)≤256:=by
      constructor
      ·exact Int.mul_nonneg (by omega) (by omega)
      ·have:=Int.mul_le_mul (show (n:Int)≤16 by omega) (show (j:Int)≤16 by omega) (by omega) (by omega);omega
     have hN:=Lib.hid (qlR_succ n i j)
     have ho:=hown.out
     have hszj:=hbj.size
     go_wp2_with (first|(at_builtin;refine wpList_append_own _ rfl _ _ 25 rfl B0 3 i0 (.int .i64 0) 1 8 Tryz.underlying25 hi hz0 hz1 hz2 rfl (by decide) _ _ _ rfl (ho.alloc _) ⟨wr.heap.size,0,none⟩ 1 1 [.int .i64 ((n:Int)*i+j)] rfl rfl (cell_one_new _ _ _) (by simp[Value.oneCell']) (by unfold maxLen;omega) (by omega) (by simp;omega) ?_))
     intro v' w3 hown' hgrow _
     have HO3:Hid (w3.ownsRow B0 3 1 v' (j+1) ((qlR n i (j+1)).map (Value.int .i64))):=by unfold Hid;rw[hN.out,List.map_append,hB0];exact hown'
     have hB3:=hbj.trans ((grow_s0 hgrow).below (B:=B0) (by omega) (fun k e=>owns_ge ho e) |>.mono (by omega))
     clear hown' hgrow ho
     go_wp2_with fail
     go_roundg (n - (j+1))
     case measure=>omega
     case rel=>exact ⟨j+1,rfl,by omega,by go_num,HO3.out,hB3⟩
    ·have e:j=n:=by omega
     subst e
     have ho:=hown.out
     have hic:IC wr a1 j (qlR j i j):=by
      have h9:(qlR j i j).length=j:=qlR_len j i j
      have h8:wr.ownsRow B0 3 1 (.slice a1 (qlR j i j).length c1) (qlR j i j).length ((qlR j i j).map (Value.int .i64)):=by rw[h9];exact ho
      have:=(IC.of_owns h8 (by omega)).1
      rw[h9] at this
      exact this
     have hrwj:=hrw.out.keep ((Below.stays hbj _).toL 0) (M':=fun _=>False) (fun _ e=>e.elim)
     have hzj:=hbj.size
     have HWI:=Lib.hid (with_c L _ pre' a1 j c1 (qlR j i j) wr hrwj hic h0 (by omega) (by omega) (by omega) hsh.out (fun m h1 h2=>by
      rw[qlR_get j i j m h2,qlR_get j i j (m - 1) (by omega)]
      omega))
     clear ho hic hrwj
     go_wp2_with fail
     refine HWI.out.mono ?_
     rintro _ w7 ⟨v7,pre7,rfl,hrw7,hls7,hb7⟩
     have HR7:=Lib.hid hrw7
     have HL7:Hid (pre7.map Prod.snd=qlsR j (pre.map Prod.snd) (i+1)):=by unfold Hid;rw[hls7,hls.out];rfl
     have hl7:pre7.length≤pre'.length+1:=by
      have h1:=congrArg List.length hls7
      rw[List.length_map] at h1
      have h2:=withL_len (pre'.map Prod.snd) (qlR j i j)
      rw[List.length_map] at h2
      omega
     have HS7:Hid (∀x,x∈pre7→x.2.length≤256):=fun x hx=>by
      have h1:x.2∈pre7.map Prod.snd:=List.mem_map.2 ⟨x,hx,rfl⟩
      rw[hls7] at h1
      rcases withL_mem h1 with h2|h2
      ·obtain ⟨y,hy,e⟩:=List.mem_map.1 h2
       rw[← e];exact hsh.out y hy
      ·rw[h2,qlR_len];omega
     have hB7:Below L w w7:=hbr.trans ((hbj.mono (by omega)).trans hb7)
     clear hrw7 hls7 HWI
     go_wp2_with fail
     go_roundg (j - (i+1))
     case measure=>omega
     case rel=>exact ⟨i+1,pre7,rfl,by omega,by go_num,HR7.out,HL7.out,by omega,HS7.out,hB7⟩
  ·have e:i=n:=by omega
   subst e
   go_wp2_with fail
   go_ret
   exact ⟨_,pre',rfl,hrw.out,hls.out,hlen,hsh.out,hbr⟩
def qlC (n i j:Nat):List Int:=(List.range j).map fun (j:Nat)=>(n:Int)*j+i
theorem qlC_succ (n i j:Nat):qlC n i (j+1)=qlC n i j++[(n:Int)*j+i]:=by
 unfold qlC;rw[List.range_succ,List.map_append];rfl
theorem qlC_len (n i j:Nat):(qlC n i j).length=j:=by simp[qlC]
theorem qlC_get (n i m j:Nat) (h:j<m):(qlC n i m)[j]?.getD 0=(n:Int)*j+i:=by
 simp[qlC,h]
def qlsC (n:Nat) (ls:List (List Int)):Nat→List (List Int)
 | 0=>ls
 | i+1=>withL (qlsC n ls i) (qlC n i n)
theorem columns_c (L n:Nat) (v:Value) (pre:List (Value × List Int)) (w:World) (hrow:RowsI w (fun _=>False) L v pre) (hL:L≤w.heap.size) (h0:0<n) (hn:n≤16) (hp:pre.length≤500) (hpl:∀x,x∈pre→x.2.length≤256) :
  Calls Tryz.prog 188 #[v,.int .i64 n,.int .i64 n] w fun e w'=>∃v' pre',e = .returned v'∧RowsI w' (fun _=>False) L v' pre'∧pre'.map Prod.snd=qlsC n (pre.map Prod.snd) n∧pre'.length≤pre.length+n∧(∀x,x∈pre'→x.2.length≤256)∧Below L w w':=by
 obtain ⟨i0,hi,hz0,hz1,hz2⟩:=info_parts infoInt
 have HR:=Lib.hid hrow
 clear hrow
 go_enter Tryz.func188,Tryz.ntmps188
 go_wp2_with fail
 go_loopg [0,7,8,9] n (fun gk lv iv _ _ wv=>∃(i:Nat) (pre':List (Value × List Int)),gk=n - i∧i≤n∧iv = .int .i64 i∧Hid (RowsI wv (fun _=>False) L lv pre')∧Hid (pre'.map Prod.snd=qlsC n (pre.map Prod.snd) i)∧pre'.length≤pre.length+i∧Hid (∀x,x∈pre'→x.2.length≤256)∧Below L w wv)
 case atStart=>exact ⟨0,pre,by omega,by omega,rfl,HR.out,rfl,by omega,hpl,Below.refl _ _⟩
 case round =>
  obtain ⟨i,pre',rfl,hin,rfl,hrw,hls,hlen,hsh,hbr⟩:=hrel
  have hszr:=hbr.size
  by_cases hlt:i<n
  ·have hii:(i:Int)<(n:Int):=by omega
   obtain ⟨B0,hB0⟩:∃B0,B0=wr.heap.size:=⟨_,rfl⟩
   go_wp2_with fail
   go_loopg [8,9] n (fun gk v jv wv=>∃(j:Nat),gk=n - j∧j≤n∧jv = .int .i64 j∧Hid (wv.ownsRow B0 3 1 v j ((qlC n i j).map (Value.int .i64)))∧Below wr.heap.size wr wv)
   case atStart=>exact ⟨0,by omega,by omega,rfl,World.ownsRow_nil _ _ _ _,Below.refl _ _⟩
   case round =>
    obtain ⟨j,rfl,hj,rfl,hown,hbj⟩:=hrel
    obtain ⟨a1,c1,rfl⟩:=owns_shape (n:=j) (xs:=(qlC n i j).map (Value.int .i64)) (by simpa using hown.out)
    by_cases hltj:j<n
    ·have hji:(j:Int)<(n:Int):=by omega
     have h1:0≤(n:Int)*(i:Int)∧(n:Int)*(i:Int)≤256:=by
      constructor
      ·exact Int.mul_nonneg (by omega) (by omega)
      ·have:=Int.mul_le_mul (show (n:Int)≤16 by omega) (show (i:Int)≤16 by omega) (by omega) (by omega);omega
     have h2:0≤(n:Int)*(j:Int)∧(n:Int)*(j:Int)≤256:=by
      constructor
      ·exact Int.mul_nonneg (by omega) (by omega)
      ·have:=Int.mul_le_mul (show (n:Int)≤16 by omega) (show (j:Int)≤16 by omega) (by omega) (by omega);omega
     have hN:=Lib.hid (qlC_succ n i j)
     have ho:=hown.out
     have hszj:=hbj.size
     go_wp2_with (first|(at_builtin;refine wpList_append_own _ rfl _ _ 25 rfl B0 3 i0 (.int .i64 0) 1 8 Tryz.underlying25 hi hz0 hz1 hz2 rfl (by decide) _ _ _ rfl (ho.alloc _) ⟨wr.heap.size,0,none⟩ 1 1 [.int .i64 ((n:Int)*j+i)] rfl rfl (cell_one_new _ _ _) (by simp[Value.oneCell']) (by unfold maxLen;omega) (by omega) (by simp;omega) ?_))
     intro v' w3 hown' hgrow _
     have HO3:Hid (w3.ownsRow B0 3 1 v' (j+1) ((qlC n i (j+1)).map (Value.int .i64))):=by unfold Hid;rw[hN.out,List.map_append,hB0];exact hown'
     have hB3:=hbj.trans ((grow_s0 hgrow).below (B:=B0) (by omega) (fun k e=>owns_ge ho e) |>.mono (by omega))
     clear hown' hgrow ho
     go_wp2_with fail
     go_roundg (n - (j+1))
     case measure=>omega
     case rel=>exact ⟨j+1,rfl,by omega,by go_num,HO3.out,hB3⟩
    ·have e:j=n:=by omega
     subst e
     have ho:=hown.out
     have hic:IC wr a1 j (qlC j i j):=by
      have h9:(qlC j i j).length=j:=qlC_len j i j
      have h8:wr.ownsRow B0 3 1 (.slice a1 (qlC j i j).length c1) (qlC j i j).length ((qlC j i j).map (Value.int .i64)):=by rw[h9];exact ho
      have:=(IC.of_owns h8 (by omega)).1
      rw[h9] at this
      exact this
     have hrwj:=hrw.out.keep ((Below.stays hbj _).toL 0) (M':=fun _=>False) (fun _ e=>e.elim)
     have hzj:=hbj.size
     have HWI:=Lib.hid (with_c L _ pre' a1 j c1 (qlC j i j) wr hrwj hic h0 (by omega) (by omega) (by omega) hsh.out (fun m h1 h2=>by
      rw[qlC_get j i j m h2,qlC_get j i j (m - 1) (by omega)]
      have h5:((m - 1:Nat):Int)=(m:Int) - 1:=by omega
      rw[h5,Int.mul_sub,Int.mul_one]
      omega))
     clear ho hic hrwj
     go_wp2_with fail
     refine HWI.out.mono ?_
     rintro _ w7 ⟨v7,pre7,rfl,hrw7,hls7,hb7⟩
     have HR7:=Lib.hid hrw7
     have HL7:Hid (pre7.map Prod.snd=qlsC j (pre.map Prod.snd) (i+1)):=by unfold Hid;rw[hls7,hls.out];rfl
     have hl7:pre7.length≤pre'.length+1:=by
      have h1:=congrArg List.length hls7
      rw[List.length_map] at h1
      have h2:=withL_len (pre'.map Prod.snd) (qlC j i j)
      rw[List.length_map] at h2
      omega
     have HS7:Hid (∀x,x∈pre7→x.2.length≤256):=fun x hx=>by
      have h1:x.2∈pre7.map Prod.snd:=List.mem_map.2 ⟨x,hx,rfl⟩
      rw[hls7] at h1
      rcases withL_mem h1 with h2|h2
      ·obtain ⟨y,hy,e⟩:=List.mem_map.1 h2
       rw[← e];exact hsh.out y hy
      ·rw[h2,qlC_len];omega
     have hB7:Below L w w7:=hbr.trans ((hbj.mono (by omega)).trans hb7)
     clear hrw7 hls7 HWI
     go_wp2_with fail
     go_roundg (j - (i+1))
     case measure=>omega
     case rel=>exact ⟨i+1,pre7,rfl,by omega,by go_num,HR7.out,HL7.out,by omega,HS7.out,hB7⟩
  ·have e:i=n:=by omega
   subst e
   go_wp2_with fail
   go_ret
   exact ⟨_,pre',rfl,hrw.out,hls.out,hlen,hsh.out,hbr⟩
end
section
open Go Go.RowKit
attribute [local go_sem] over_cell
attribute [local go_sem] Oper.semAt_some
theorem RowsI.low {W:World} {M:Nat→Prop} {L L':Nat} {v:Value} {pre:List (Value × List Int)} (h:RowsI W M L v pre) (hL:L'≤L):RowsI W M L' v pre :=
 ⟨owns_base h.1 hL,h.2.1,fun x hx=>⟨owns_base (h.2.2 x hx).1 hL,(h.2.2 x hx).2⟩⟩
def magic3:List (List Int):=withL (withL (qlsC 3 (qlsR 3 [] 3) 3) (diagTo 3 0 1 3)) (diagTo 3 2 (-1) 3)
theorem sqsys_c (w:World) :
  Calls Tryz.prog 125 #[.string ⟨#[109,97,103,105,99]⟩,.int .i64 3] w fun e w'=>∃al cl pre,e = .returned (.tuple #[.agg #[.int .i64 9,.slice al pre.length cl],.int .i64 0])∧RowsI w' (fun _=>False) w.heap.size (.slice al pre.length cl) pre∧pre.map Prod.snd=magic3∧pre.length≤8∧(∀x,x∈pre→x.2.length≤256)∧Below w.heap.size w w':=by
 have HRO:Hid (∀(L:Nat) (v:Value) (pre:List (Value × List Int)) (W:World),RowsI W (fun _=>False) L v pre→L≤W.heap.size→pre.length≤500→(∀x,x∈pre→x.2.length≤256)→Calls Tryz.prog 189 #[v,.int .i64 3,.int .i64 3] W fun e w'=>∃v' pre',e = .returned v'∧RowsI w' (fun _=>False) L v' pre'∧pre'.map Prod.snd=qlsR 3 (pre.map Prod.snd) 3∧pre'.length≤pre.length+3∧(∀x,x∈pre'→x.2.length≤256)∧Below L W w'):=fun L v pre W h1 h2 h3 h4=>rows_c L 3 v pre W h1 h2 (by decide) (by decide) h3 h4
 have HCO:Hid (∀(L:Nat) (v:Value) (pre:List (Value × List Int)) (W:World),RowsI W (fun _=>False) L v pre→L≤W.heap.size→pre.length≤500→(∀x,x∈pre→x.2.length≤256)→Calls Tryz.prog 188 #[v,.int .i64 3,.int .i64 3] W fun e w'=>∃v' pre',e = .returned v'∧RowsI w' (fun _=>False) L v' pre'∧pre'.map Prod.snd=qlsC 3 (pre.map Prod.snd) 3∧pre'.length≤pre.length+3∧(∀x,x∈pre'→x.2.length≤256)∧Below L W w'):=fun L v pre W h1 h2 h3 h4=>columns_c L 3 v pre W h1 h2 (by decide) (by decide) h3 h4
 have HD1:Hid (∀W,Calls Tryz.prog 191 #[.int .i64 3,.int .i64 0,.int .i64 1] W fun e w'=>∃v,e = .returned v∧w'.ownsRow W.heap.size 3 1 v 3 ((diagTo 3 0 1 3).map (Value.int .i64))∧Below W.heap.size W w'):=fun W=>diag_c 3 0 1 W (by decide) (by decide) (by decide) (by decide) (.inl rfl)
 have HD2:Hid (∀W,Calls Tryz.prog 191 #[.int .i64 3,.int .i64 2,.int .i64 (-1)] W fun e w'=>∃v,e = .returned v∧w'.ownsRow W.heap.size 3 1 v 3 ((diagTo 3 2 (-1) 3).map (Value.int .i64))∧Below W.heap.size W w'):=fun W=>diag_c 3 2 (-1) W (by decide) (by decide) (by decide) (by decide) (.inr rfl)
 go_enter Tryz.func125,Tryz.ntmps125
 go_wp2_with fail
 have fsz:(w.alloc (.cells #[.int .i64 0,.slice none 0 0] 24)).heap.size=w.heap.size+1:=by simp only[World.size_alloc]
 have fB:Below w.heap.size w (w.alloc (.cells #[.int .i64 0,.slice none 0 0] 24)):=(Below.refl _ _).alloc (Nat.le_refl _) _
 have fq0:(w.alloc (.cells #[.int .i64 0,.slice none 0 0] 24)).heap[w.heap.size]?=some (.cells #[.int .i64 0,.slice none 0 0] 24 (0,0)):=by have h:=World.alloc_heap_new w (.cells #[.int .i64 0,.slice none 0 0] 24);exact h
 generalize (w.alloc (.cells #[.int .i64 0,.slice none 0 0] 24))=W0 at fsz fB fq0 ⊢
 have HQ:=Lib.hid fq0
 have hz0:w.heap.size<W0.heap.size:=by omega
 clear fq0 fsz
 refine (HRO.out W0.heap.size (.slice none 0 0) [] W0 (RowsI.nil _ _ _) (Nat.le_refl _) (by simp) (fun x hx=>absurd hx (by simp))).mono ?_
 rintro _ w1 ⟨v1,p1,rfl,hr1,hl1,hn1,hs1,hb1⟩
 go_wp2_with fail
 refine (HCO.out W0.heap.size v1 p1 w1 hr1 hb1.size (by simp at hn1;omega) hs1).mono ?_
 rintro _ w2 ⟨v2,p2,rfl,hr2,hl2,hn2,hs2,hb2⟩
 have hb12:=hb1.trans hb2
 rw[hl1] at hl2
 simp only[List.length_nil,Nat.zero_add] at hn1
 go_wp2_with fail
 refine (HD1.out w2).mono ?_
 rintro _ w3 ⟨d1,rfl,hd1,hb3⟩
 obtain ⟨a3,c3,rfl⟩:=owns_slice4 hd1
 have hic3:IC w3 a3 3 (diagTo 3 0 1 3):=(IC.of_owns (xs:=diagTo 3 0 1 3) hd1 (by decide)).1
 have hr3:=hr2.keep ((Below.stays hb3 _).toL 0) (M':=fun _=>False) (fun _ e=>e.elim)
 have hb13:=hb12.trans (hb3.mono hb12.size)
 go_wp2_with fail
 refine (with_c W0.heap.size v2 p2 a3 3 c3 (diagTo 3 0 1 3) w3 hr3 hic3 (by decide) (by decide) hb13.size (by omega) hs2 (fun i h1 h2=>by
  rcases (by omega:i=1∨i=2) with rfl|rfl <;> decide)).mono ?_
 rintro _ w4 ⟨v4,p4,rfl,hr4,hl4,hb4⟩
 have hb14:=hb13.trans hb4
 rw[hl2] at hl4
 have hp4:p4.length≤7:=by
  have h1:=congrArg List.length hl4
  rw[List.length_map] at h1
  have h2:=withL_len (qlsC 3 (qlsR 3 (([]:List (Value × List Int)).map Prod.snd) 3) 3) (diagTo 3 0 1 3)
  have h3:=congrArg List.length hl2
  rw[List.length_map] at h3
  omega
 have hs4:∀x,x∈p4→x.2.length≤256:=fun x hx=>by
  have h1:x.2∈p4.map Prod.snd:=List.mem_map.2 ⟨x,hx,rfl⟩
  rw[hl4,← hl2] at h1
  rcases withL_mem h1 with h2|h2
  ·obtain ⟨y,hy,e⟩:=List.mem_map.1 h2
   rw[← e];exact hs2 y hy
  ·rw[h2];decide
 go_wp2_with fail
 refine (HD2.out w4).mono ?_
 rintro _ w5 ⟨d2,rfl,hd2,hb5⟩
 obtain ⟨a5,c5,rfl⟩:=owns_slice4 hd2
 have hic5:IC w5 a5 3 (diagTo 3 2 (-1) 3):=(IC.of_owns (xs:=diagTo 3 2 (-1) 3) hd2 (by decide)).1
 have hr5:=hr4.keep ((Below.stays hb5 _).toL 0) (M':=fun _=>False) (fun _ e=>e.elim)
 have hb15:=hb14.trans (hb5.mono hb14.size)
 go_wp2_with fail
 refine (with_c W0.heap.size v4 p4 a5 3 c5 (diagTo 3 2 (-1) 3) w5 hr5 hic5 (by decide) (by decide) hb15.size (by omega) hs4 (fun i h1 h2=>by
  rcases (by omega:i=1∨i=2) with rfl|rfl <;> decide)).mono ?_
 rintro _ w6 ⟨v6,p6,rfl,hr6,hl6,hb6⟩
 have hb16:=hb15.trans hb6
 rw[hl4] at hl6
 have hp6:p6.length≤8:=by
  have h1:=congrArg List.length hl6
  rw[List.length_map] at h1
  have h2:=withL_len (withL (qlsC 3 (qlsR 3 (([]:List (Value × List Int)).map Prod.snd) 3) 3) (diagTo 3 0 1 3)) (diagTo 3 2 (-1) 3)
  have h3:=congrArg List.length hl4
  rw[List.length_map] at h3
  omega
 have hs6:∀x,x∈p6→x.2.length≤256:=fun x hx=>by
  have h1:x.2∈p6.map Prod.snd:=List.mem_map.2 ⟨x,hx,rfl⟩
  rw[hl6,← hl4] at h1
  rcases withL_mem h1 with h2|h2
  ·obtain ⟨y,hy,e⟩:=List.mem_map.1 h2
   rw[← e];exact hs4 y hy
  ·rw[h2];decide
 have HM:Hid (p6.map Prod.snd=magic3):=hl6
 obtain ⟨av,cv,rfl⟩:=owns_shape hr6.1
 have hq6:=keepq hb16 HQ.out
 have r0:w6.cell? ⟨w.heap.size,0,none⟩=some (.int .i64 0):=q_cell hq6 0
 have r1:w6.cell? ⟨w.heap.size,1,none⟩=some (.slice none 0 0):=q_cell hq6 1
 have rf0:=q_free hq6 0
 have rf1:=q_free hq6 1
 have HQ6:=Lib.hid hq6
 have HR6:=Lib.hid hr6
 clear hr6 hr5 hr4 hr3 hr2 hr1 hl1 hl2 hl4 hl6 hs1 hs2 hd1 hd2 hic3 hic5 hq6 HRO HCO HD1 HD2
 go_wp2_with fail
 have r:=q_set (i:=1) (q_set (i:=0) HQ6.out (.int .i64 9)) (.slice av p6.length cv)
 have z0:=q_cell r 0
 have z1:=q_cell r 1
 have hr9:=(HR6.out.setCell (b:=w.heap.size) (i:=0) hz0 (.int .i64 9)).setCell (b:=w.heap.size) (i:=1) hz0 (.slice av p6.length cv)
 refine bodyPost_ret (v := .tuple #[.agg #[.int .i64 9,.slice av p6.length cv],.int .i64 0]) ?_ rfl ⟨av,cv,p6,rfl,hr9.low (by omega),HM.out,hp6,hs6,((fB.trans (hb16.mono fB.size)).setCell (p:=⟨w.heap.size,0,none⟩) (Nat.le_refl _) _).setCell (p:=⟨w.heap.size,1,none⟩) (Nat.le_refl _) _⟩
 simp[results,Tryz.f125,go_sem,z0,z1]
end
section
open Go Go.RowKit
attribute [local go_sem] over_cell
attribute [local go_sem] Oper.semAt_some
end
section
open Go Go.RowKit
def ga:List Int:=[2,7,6,0,0,0,0,0,0]
def gc:List Int:=[2,7,6,0,5,0,0,0,0]
def gr:List Int:=[1,2,0,0,0,0,0,0,0]
def gn:List Int:=[2,0,6,0,0,0,0,0,0]
theorem m3_val:magic3=[[0,1,2],[3,4,5],[6,7,8],[0,3,6],[1,4,7],[2,5,8],[0,4,8],[2,4,6]]:=by decide +kernel
def m3:List (List Int):=[[0,1,2],[3,4,5],[6,7,8],[0,3,6],[1,4,7],[2,5,8],[0,4,8],[2,4,6]]
theorem ta:taskErr 9 m3 15 ga=0:=by decide +kernel
theorem sa:solsL m3 15 ga []=[[2,7,6,9,5,1,4,3,8]]:=by decide +kernel
theorem sr:solsL m3 15 gr []=[]:=by decide +kernel
theorem er:okTB m3 15 8 gr=true:=by decide +kernel
theorem cs:(stepR m3 15 (allM 9) (iterR m3 15 (allM 9) 60 (begL gc)).2).isNone=true:=by decide +kernel
theorem cl:(candL (allM 9) (iterR m3 15 (allM 9) 60 (begL gc)).2).length=9∧(candL (allM 9) (iterR m3 15 (allM 9) 60 (begL gc)).2)[3]?.getD []=[9]∧(candL (allM 9) (iterR m3 15 (allM 9) 60 (begL gc)).2)[8]?.getD []=[8]:=by decide +kernel
end
section
open Go Go.RowKit
theorem l0:lineOk m3 15 gr ⟨kLine,0,0,0,0⟩=true:=by unfold lineOk;decide +kernel
theorem l1:lineOk m3 15 gr ⟨kLine,0,1,0,0⟩=false:=by unfold lineOk;decide +kernel
end
section
open Go Go.RowKit
def Ta (w:World) (al:Option Addr) (nl cl:Nat) (ag:Option Addr) (cg:Nat) (g:List Int):Prop:=RC w al nl m3∧nl≤cl∧IC w ag 9 g∧9≤cg
theorem Ta.mono {w w':World} {al ag:Option Addr} {nl cl cg:Nat} {g:List Int} (h:Ta w al nl cl ag cg g) (hb:Below w.heap.size w w'):Ta w' al nl cl ag cg g:=⟨h.1.mono hb,h.2.1,h.2.2.1.mono hb,h.2.2.2⟩
theorem small_ga:smallErr 9 m3 15 ga=0:=by decide +kernel
section
variable (al:Option Addr) (nl cl:Nat) (ag:Option Addr) (cg:Nat) (w:World)
theorem unique_u (h:Ta w al nl cl ag cg ga):Calls Tryz.prog 30 #[.agg #[.int .i64 9,.slice al nl cl,.int .i64 15,.slice ag 9 cg]] w fun e w'=>∃ar nr cr,e = .returned (.tuple #[.slice ar nr cr,.int .i64 0])∧IC w' ar nr [2,7,6,9,5,1,4,3,8]∧Below w.heap.size w w':=by
 refine (unique_c al nl cl m3 9 15 ag 9 cg ga w h.1 h.2.1 h.2.2.1 h.2.2.2).mono ?_
 rintro _ w' ⟨ar,nr,cr,rfl,hi,_,hb⟩
 have ht:twoL m3 15 ga=[[2,7,6,9,5,1,4,3,8]]:=by unfold twoL;rw[sa];rfl
 have h1:uniqE 9 m3 15 ga=0:=by unfold uniqE;rw[small_ga,if_neg (by decide),ht];rfl
 have h2:uniqL 9 m3 15 ga=[2,7,6,9,5,1,4,3,8]:=by unfold uniqL;rw[small_ga,if_neg (by decide),ht];rfl
 rw[h2] at hi
 exact ⟨ar,nr,cr,by rw[h1],hi,hb⟩
end
end
section
open Go Go.RowKit
attribute [local go_sem] over_cell
attribute [local go_sem] Oper.semAt_some
theorem ic_blk {W:World} {b:Nat} {xs:List Int} {T:TypeId} (h:W.heap[b]?=some (.cells (xs.map (Value.int .i64)).toArray T (0,0))) (hn:xs.length≤17592186044416):IC W (some ⟨b,0,none⟩) xs.length xs :=
 ⟨⟨rfl,hn⟩,fun k hk=>⟨b,0,rfl,q_lt h,by
  rw[Nat.zero_add,q_cell h k]
  simp[hk]⟩⟩
end
end Go.Proofs.YtaadpihbjhachaaGreat
