/- Texts Reg6 to J20 of this proof, in one file. -/
import Derived.Test.YtceombamoikhdaaW01
import Derived.Test.YtceombamoikhdaaW02
import Derived.Maps.OwnSet
import Derived.Below
import Derived.Laws.BitsAllLaws
namespace Go.Proofs.Ytceombamoikhdaa
set_option maxRecDepth 100000
set_option maxHeartbeats 16000000
section
open Go Go.RowKit
inductive PT where
 | leaf (s:List (Nat × Nat)):PT
 | fork (qs:List Nat) (i j:Nat) (ti tj:PT):PT
def PT.depth:PT→Nat
 | .leaf s=>s.length
 | .fork qs _ _ ti _=>qs.length+(ti.depth+1)
def KQ (K:Act→World→Prop) (Q:Exit→Act→World→Prop):Exit→Act→World→Prop
 | .normal,a,w=>K a w
 | e,a,w=>Q e a w
theorem keep_set {B:Nat} {w0 w:World} {p:Addr} (h:Below B w0 w) (hp:B≤p.block) (u:Value):Below B w0 (w.setCell p u):=h.setCell hp u
section
variable {P:Program} {ops:Array Oper} {Q:Exit→Act→World→Prop} {md:Region.Mode} {S:World→Prop}
def forkPre (md:Region.Mode) (ops:Array Oper) (lt:List Nat) (i j:Nat) (F:Array Bool→Bool):List Nat→Array Bool→Bool
 | [],listed=>((Region.ready md ops listed)==[i,j])&&F listed
 | k :: qs,listed =>
  (Region.ready md ops listed).contains k&&Region.free md ops listed k&&!lt.contains k&&lt.all (fun j=>(closure md ops ops.size (aftersOf md ops j)).contains k)&&forkPre md ops lt i j F qs (listed.setIfInBounds k true)
def treeOk (md:Region.Mode) (ops:Array Oper) (lt:List Nat):PT→Array Bool→Bool
 | .leaf s,listed=>decide (0<(s.filter fun x=>decide (x.1≤1)).length)&&seqOk md ops lt s listed
 | .fork qs i j ti tj,listed=>decide (tj.depth=ti.depth)&&!lt.contains i&&!lt.contains j &&
  forkPre md ops lt i j (fun l=>treeOk md ops lt ti (l.setIfInBounds i true)&&treeOk md ops lt tj (l.setIfInBounds j true)) qs listed
def wpTr (P:Program) (ops:Array Oper) (S:World→Prop) (Q:Exit→Act→World→Prop):PT→Act→World→Prop
 | .leaf s,a,w=>wpS P ops S Q (pickOps ops.toList s) a w
 | .fork qs i j ti tj,a,w=>wpS P ops S (KQ (wpTr P ops S Q ti) Q) (pickOps ops.toList (qs.map (fun k=>(0,k))++[(1,i)])) a w ∧
   wpS P ops S (KQ (wpTr P ops S Q tj) Q) (pickOps ops.toList (qs.map (fun k=>(0,k))++[(1,j)])) a w
theorem KQ_lets {K:Act→World→Prop} (h:LetsOut (KQ K Q)):LetsOut Q:=h
theorem loud_KQ {K:Act→World→Prop} {o:Oper} {a:Act} {w:World} (h:wpS P ops S (KQ K Q) [(1,o)] a w) :
  if Region.wanted o (yielded ops a.tmps) then o.wp P a w (fun a' w'=>S w'∧K a' w') Q∨(o.asks P a w∧LetsOut Q) else K (a.put o.dst undef) w:=by
 simp only[wpS] at h
 split
 ·rename_i hw
  rw[if_pos hw] at h
  rcases h with h|⟨h1,h2⟩
  ·left
   unfold Oper.wp at *
   generalize (execOp a.eval o).run P w=x at *
   cases x with
   | ok n w'=>cases n <;> simp only[Oper.upon] at h ⊢ <;> (try exact h) <;> (try exact h.2) <;> (try exact h.2.2)
   | halt x w'=>cases x <;> simp only[Oper.upon] at h ⊢ <;> exact h
  ·exact .inr ⟨h1,KQ_lets h2⟩
 ·rename_i hw
  rw[if_neg hw] at h
  exact h
theorem loud_K {lt:List Nat} {K:Act→World→Prop} {i:Nat} {listed:Array Bool} {d:Nat} {a:Act} {w:World}
  (hr:i∈Region.ready md ops listed) (_hnl:lt.contains i=false) (hS:S w)
  (hk:∀a' w',S w'→K a' w'→wpL P md ops Q S (fun i=>lt.contains i) d (listed.setIfInBounds i true) a' w') (h:wpS P ops S (KQ K Q) (pickOps ops.toList [(1,i)]) a w) :
  wpOp P ops Q i (fun a' w'=>(lt.contains i=false→S w')∧wpL P md ops Q S (fun i=>lt.contains i) d (listed.setIfInBounds i true) a' w') a w:=by
 obtain ⟨oi,hoi⟩:∃oi,ops[i]?=some oi:=by
  obtain ⟨_,oi,h1,_⟩:=(mem_ready (md:=md) (ops:=ops) (listed:=listed) (j:=i)).1 hr
  exact ⟨oi,h1⟩
 have hp:nthOp ops.toList i=some oi:=by rw[nthOp_eq];simpa using hoi
 simp only[pickOps,hp] at h
 have h2:=loud_KQ h
 refine wpOp_of_if hoi ?_
 split
 ·rename_i hw
  rw[if_pos hw] at h2
  exact h2.imp (Oper.wp_mono fun a' w' hx=>⟨fun _=>hx.1,hk a' w' hx.1 hx.2⟩) id
 ·rename_i hw
  rw[if_neg hw] at h2
  exact ⟨fun _=>hS,hk _ _ hS h2⟩
theorem wpL_of_pre (hs:Region.noSelect ops=true) (lt:List Nat) (i j:Nat) (F:Array Bool→Bool) (d:Nat) (Ki Kj:Act→World→Prop) (hQ:∀c a d v w,Q (.panic c) (Act.put a d v) w→Q (.panic c) a w)
  (hni:lt.contains i=false) (hnj:lt.contains j=false)
  (hF:∀listed,F listed=true→Closed md ops listed→(i∈Region.ready md ops listed→∀a' w',S w'→Ki a' w'→wpL P md ops Q S (fun i=>lt.contains i) d (listed.setIfInBounds i true) a' w')∧(j∈Region.ready md ops listed→∀a' w',S w'→Kj a' w'→wpL P md ops Q S (fun i=>lt.contains i) d (listed.setIfInBounds j true) a' w')) :
  ∀(qs:List Nat) (listed:Array Bool) (a:Act) (w:World),Closed md ops listed→S w→forkPre md ops lt i j F qs listed=true →
   wpS P ops S (KQ Ki Q) (pickOps ops.toList (qs.map (fun k=>(0,k))++[(1,i)])) a w→wpS P ops S (KQ Kj Q) (pickOps ops.toList (qs.map (fun k=>(0,k))++[(1,j)])) a w →
   wpL P md ops Q S (fun i=>lt.contains i) (qs.length+(d+1)) listed a w
 | [],listed,a,w,hcl,hSw,hc,h1,h2=>by
  simp only[forkPre,Bool.and_eq_true,beq_iff_eq] at hc
  obtain ⟨hr,hc1⟩:=hc
  rw[show ([]:List Nat).length+(d+1)=d+1 from by simp]
  refine ⟨fun h0=>absurd (hr▸h0) (by simp),fun k hk=>?_⟩
  have hk':=hk
  rw[hr] at hk'
  rcases List.mem_cons.1 hk' with rfl|hk2
  ·exact loud_K hk hni hSw ((hF listed hc1 hcl).1 hk) h1
  ·obtain rfl:k=j:=by simpa using hk2
   exact loud_K hk hnj hSw ((hF listed hc1 hcl).2 hk) h2
 | k :: qs,listed,a,w,hcl,hSw,hc,h1,h2=>by
  simp only[forkPre,Bool.and_eq_true] at hc
  obtain ⟨⟨⟨⟨hr,hf⟩,hnl⟩,hla⟩,hc'⟩:=hc
  obtain ⟨oi,hoi⟩:∃oi,ops[k]?=some oi:=by
   obtain ⟨_,oi,h1,_⟩:=(mem_ready (md:=md) (ops:=ops) (listed:=listed) (j:=k)).1 (by simpa using hr)
   exact ⟨oi,h1⟩
  have hp:nthOp ops.toList k=some oi:=by rw[nthOp_eq];simpa using hoi
  have hnl':lt.contains k=false:=by simpa using hnl
  have hlate:∀j listed,lt.contains j=true→Closed md ops listed→j∈Region.ready md ops listed→listed.getD k false=true:=by
   intro j listed' hl hcl' hj
   have h1:=List.all_eq_true.1 hla j (by simpa using hl)
   exact closure_listed hcl' _ _ (ready_afters hj) k (by simpa using h1)
  simp only[List.map_cons,List.cons_append,pickOps,hp,wpS] at h1 h2
  rw[show (k :: qs).length+(d+1)=(qs.length+(d+1))+1 from by simp only[List.length_cons];omega]
  have key:∀v,YieldsIf P ops S oi v a→wpS P ops S (KQ Ki Q) (pickOps ops.toList (qs.map (fun k=>(0,k))++[(1,i)])) (a.put oi.dst v) w→wpS P ops S (KQ Kj Q) (pickOps ops.toList (qs.map (fun k=>(0,k))++[(1,j)])) (a.put oi.dst v) w→wpL P md ops Q S (fun i=>lt.contains i) (qs.length+(d+1)+1) listed a w:=by
   intro v hy k1 k2
   exact wpL_first hoi (Region.noSelect_spec hs) (fun c a' w'=>hQ c a' _ _ w') hnl' hlate (qs.length+(d+1)) listed a w hcl (Region.free_spec hoi hf) (by simpa using hr) hy hSw
    (wpL_of_pre hs lt i j F d Ki Kj hQ hni hnj hF qs _ _ w (hcl.set (by simpa using hr)) hSw hc' k1 k2)
  by_cases hw:Region.wanted oi (yielded ops a.tmps)=true
  ·rw[if_pos hw] at h1 h2
   obtain ⟨v,hv,hK⟩:=h1
   obtain ⟨v2,hv2,hK2⟩:=h2
   have e:=(hv w hSw).symm.trans (hv2 w hSw)
   simp only[Result.ok.injEq,Next.value.injEq,and_true] at e
   subst e
   exact key v (.inl ⟨hw,hv⟩) hK hK2
  ·rw[if_neg hw] at h1 h2
   exact key undef (.inr ⟨by simpa using hw,rfl⟩) h1 h2
theorem wpL_of_tree (hs:Region.noSelect ops=true) (lt:List Nat) (hQ:∀c a d v w,Q (.panic c) (Act.put a d v) w→Q (.panic c) a w) :
  ∀(t:PT) (listed:Array Bool) (a:Act) (w:World),Closed md ops listed→S w→treeOk md ops lt t listed=true→wpTr P ops S Q t a w →
   wpL P md ops Q S (fun i=>lt.contains i) t.depth listed a w
 | .leaf s,listed,a,w,hcl,hSw,hc,h=>by
  simp only[treeOk,Bool.and_eq_true] at hc
  exact wpL_of_S hs lt hQ s listed a w hcl (fun _=>hSw) hc.2 h
 | .fork qs i j ti tj,listed,a,w,hcl,hSw,hc,h=>by
  simp only[treeOk,Bool.and_eq_true,decide_eq_true_eq] at hc
  obtain ⟨⟨⟨hd,hni⟩,hnj⟩,hpre⟩:=hc
  refine wpL_of_pre hs lt i j _ ti.depth (wpTr P ops S Q ti) (wpTr P ops S Q tj) hQ (by simpa using hni) (by simpa using hnj) (fun l hl hcl2=>?_) qs listed a w hcl hSw hpre h.1 h.2
  simp only[Bool.and_eq_true] at hl
  refine ⟨fun hr a' w' hS' hK=>wpL_of_tree hs lt hQ ti _ a' w' (hcl2.set hr) hS' hl.1 hK,fun hr a' w' hS' hK=>?_⟩
  rw[← hd]
  exact wpL_of_tree hs lt hQ tj _ a' w' (hcl2.set hr) hS' hl.2 hK
theorem wpTr_end {S:World→Prop} {K:Act→World→Prop} {a:Act} {w:World} (h:K a w):wpS P ops S (KQ K Q) [] a w:=by rw[wpS];exact h
theorem wp_region_tree {id:Nat} {l:List Oper} {a:Act} {w:World} (S:World→Prop) (lt:List Nat) (t:PT)
  (hm:P.follows .mixedOrders=true) (hc:(Region.noSelect l.toArray&&decide (t.depth≤l.length)&&treeOk .any l.toArray lt t (Array.replicate l.length false))=true)
  (hS:S w.drew) (h:wpTr P l.toArray S (NoPanic Q) t a w.drew):(Code.region id l.toArray true).wp P Q a w:=by
 refine wp_region_noPanic ?_
 simp only[Bool.and_eq_true,decide_eq_true_eq] at hc
 obtain ⟨⟨hs,hlen⟩,hc⟩:=hc
 refine wp_region_any hm ?_
 obtain ⟨m,hm'⟩:∃m,l.toArray.size=t.depth+m:=⟨l.length - t.depth,by simp;omega⟩
 rw[hm']
 refine wpAny_more _ _ _ _ _ (wpAny_of_L (S:=S) (late:=fun i=>lt.contains i) _ _ _ _ ?_)
 have e:Array.replicate (t.depth+m) false=Array.replicate l.length false:=by rw[← hm'];simp
 rw[e]
 exact wpL_of_tree hs lt (fun _ _ _ _ _ h=>h) t _ a w.drew (closed_none _) hS hc h
end
end
section
open Go Go.RowKit Go.Maps
section
variable {α:Type} {P:Program} {k e:TypeId} {κ:α→Lit} {b n:Nat} {w:World}
def MapI (w:World) (P:Program) (k e:TypeId) (κ:α→Lit) (b n:Nat) (g:α→Option Int):Prop :=
 ∃D:DataW Unit,w.ownsMap P k (plainElem P e) b n D∧∀x,has D (κ x)=(g x).isSome∧∀c,g x=some c→∀z,D.atKey (κ x) z = .lit (.int .i64 c)
theorem own_block {D:DataW Unit} {w':World} {R:Value→Option (DataW Unit × List MemPlace)} (h:w.ownsMap P k R b n D) (hb:w'.heap[b]?=w.heap[b]?):w'.ownsMap P k R b n D:=by
 obtain ⟨es,clock,h1,r⟩:=h
 exact ⟨es,clock,hb.trans h1,r⟩
theorem MapI.lt {g:α→Option Int} (h:MapI w P k e κ b n g):b<w.heap.size:=by obtain ⟨D,h1,_⟩:=h;exact h1.lt
theorem MapI.block {g:α→Option Int} (h:MapI w P k e κ b n g) {w':World} (hb:w'.heap[b]?=w.heap[b]?):MapI w' P k e κ b n g:=by
 obtain ⟨D,h1,h2⟩:=h
 exact ⟨D,own_block h1 hb,h2⟩
theorem MapI.mono {g:α→Option Int} (h:MapI w P k e κ b n g) {B:Nat} {w':World} (hb:Below B w w') (hlt:b<B):MapI w' P k e κ b n g:=h.block (hb.block b hlt)
theorem MapI.made:MapI (w.alloc (.map #[] 0)) P k e κ w.heap.size 0 (fun _=>none):=⟨_,World.ownsMap_made _ _ _ _,fun _=>⟨rfl,fun _ h=>by cases h⟩⟩
end
section
variable {α:Type} [DecidableEq α] {P:Program} (w:World) {ops:Array Oper} {rest:List Oper} {o:Oper} {a:Act} {Q:Exit→Act→World→Prop}
theorem wpList_putI (hg:o.guard=none) (m x v:Operand) (t:TypeId) (hop:o.op=Op.mapUpdate t m x v) (k e:TypeId) (K:Keyed P k) (ht:P.underlying t=some (.map k e)) (he:P.underlying e=some (.int .i64))
  (κ:α→Lit) (hinj:∀x y,κ x=κ y→x=y) (b n:Nat) (g:α→Option Int) (hm:a.eval m = .map (some b)) (h:MapI w P k e κ b n g) (hn:n<maxLen) (key:Value) (y:α) (c:Int) (hx:a.eval x=key) (hv:a.eval v = .int .i64 c)
  (hkey:keyOf P k key=some (κ y)) (hwf:(Lit.int .i64 c).wf=true)
  (hK:∀w',MapI w' P k e κ b (n+1) (fun z=>if z=y then some c else g z)→w.grownBy w' (some b)→wpList P ops Q rest (a.put o.dst undef) w') :
  wpList P ops Q (o :: rest) a w:=by
 obtain ⟨D,h1,h2⟩:=h
 refine wpList_mapUpdate_own w hg m x v t hop k e K ht (plainElem P e) b n D hm h1 hn key (.int .i64 c) (κ y) hx hv hkey (.lit (.int .i64 c)) [] (plainElem_int he hwf) (fun w' h3 h4=>hK w' ⟨_,h3,fun z=>?_⟩ h4)
 by_cases e1:z=y
 ·subst e1
  dsimp only
  rw[if_pos rfl]
  exact ⟨has_put_same h1.isMap (K.key hkey) _,fun c2 e2 z2=>by cases e2;exact atKey_put_same h1.isMap (K.key hkey) _ _⟩
 ·dsimp only
  rw[if_neg e1,has_put_other (fun e2=>e1 (hinj _ _ e2))]
  exact ⟨(h2 z).1,fun c2 e2 z2=>by rw[atKey_put_other (fun e3=>e1 (hinj _ _ e3))];exact (h2 z).2 c2 e2 z2⟩
end
section
variable {α:Type} {P:Program} (w:World) {ops:Array Oper} {rest:List Oper} {o:Oper} {a:Act} {Q:Exit→Act→World→Prop}
theorem wpList_lookI (hg:o.guard=none) (m x:Operand) (t:TypeId) (hop:o.op=Op.lookup t m x true) (k e:TypeId) (K:Keyed P k) (ht:P.underlying t=some (.map k e)) (he:P.underlying e=some (.int .i64)) (hz:(zeroValue e).run P w = .ok (.int .i64 0) w)
  (κ:α→Lit) (b n:Nat) (g:α→Option Int) (hm:a.eval m = .map (some b)) (h:MapI w P k e κ b n g) (key:Value) (y:α) (hx:a.eval x=key) (hkey:keyOf P k key=some (κ y))
  (hK:wpList P ops Q rest (a.put o.dst (.tuple #[.int .i64 ((g y).getD 0),.bool (g y).isSome])) w) :
  wpList P ops Q (o :: rest) a w:=by
 obtain ⟨D,h1,h2⟩:=h
 refine wpList_lookup_own_ok_int w hg m x t hop k e .i64 K ht he hz b n D hm h1 key (κ y) hx hkey (fun c h3 _=>?_)
 rw[(h2 y).1]
 cases hgy:g y with
 | some d =>
  rw[(h2 y).2 d hgy] at h3
  cases h3
  rw[hgy] at hK
  exact hK
 | none =>
  have h4:has D (κ y)=false:=by rw[(h2 y).1,hgy];rfl
  rw[atKey_of_not_has h4] at h3
  cases h3
  rw[hgy] at hK
  exact hK
end
end
section
open Go Go.RowKit
attribute [local go_sem] over_cell
attribute [local go_sem] Oper.semAt_some
theorem twhen_c (h:Bool) (e:Int) (w:World):Calls Try.prog 22 #[.bool h,.int .i64 e] w fun r w'=>r = .returned (.int .i64 (whenV h e))∧w=w':=by
 cases h
 ·go_enter Try.func22,Try.ntmps22
  go_wp2
  go_ret
  exact ⟨rfl,rfl⟩
 ·go_enter Try.func22,Try.ntmps22
  go_wp2
  go_ret
  exact ⟨rfl,rfl⟩
theorem tfirst_c (a:Option Addr) (n c:Nat) (xs:List Int) (w:World) (h:IC w a n xs) :
  Calls Try.prog 20 #[.slice a n c] w fun e w'=>e = .returned (.int .i64 (firstL xs))∧w=w':=by
 have hm:=h.small
 go_enter Try.func20,Try.ntmps20
 go_wp2
 go_loop [4,7] (fun _ i=>∃k:Nat,k≤n∧i = .int .i64 k∧Hid (∀j,j<k→xs[j]?.getD 0=0)) (fun _ i=>n - (intOf i).toNat)
 case atStart=>exact ⟨0,by omega,rfl,fun j hj=>absurd hj (by omega)⟩
 case round =>
  obtain ⟨k,hk,rfl,hn⟩:=hrel
  by_cases hlt:k<n
  ·obtain ⟨b,off,rfl,hb,hc⟩:=h.2 k hlt
   go_wp2
   ·have he:(xs[k]?.getD 0 != 0)=true:=by assumption
    go_ret
    exact ⟨ret_int (firstL_hit hn.out (by rw[h.len];exact hlt) (by simpa using he)).symm,rfl⟩
   ·have he:(xs[k]?.getD 0 != 0)=false:=by assumption
    go_round
    case rel=>exact ⟨k+1,by omega,by go_num,upI_snoc (f:=fun j=>xs[j]?.getD 0) hn.out (by simpa using he)⟩
    case measure=>simp[intOf];omega
  ·have e:k=n:=by omega
   subst e
   go_wp2
   go_ret
   exact ⟨ret_int (firstL_none (by rw[h.len];exact hn.out)).symm,rfl⟩
end
section
open Go Go.RowKit
attribute [local go_sem] over_cell
theorem and_bit32 (v r:Nat) (hv:v<4294967296):(bits BinOp.and IntKind.u32 ((v:Int) / 2 ^ r) 1==1)=v.testBit r:=by
 have e:((v:Int) / 2 ^ r)=((v / 2 ^ r:Nat):Int):=by simp
 have hlt:v / 2 ^ r<4294967296:=Nat.lt_of_le_of_lt (Nat.div_le_self _ _) hv
 rw[e,show (1:Int)=((1:Nat):Int) from rfl,u32_and_nat _ _ hlt (by decide)]
 rw[Nat.testBit_eq_decide_div_mod_eq,Nat.and_one_is_mod]
 have:v / 2 ^ r % 2=0∨v / 2 ^ r % 2=1:=by omega
 rcases this with h|h <;> simp[h]
theorem or_bit32 (v r:Nat) (hv:v<4294967296) (hr:r<32):bits BinOp.or IntKind.u32 (v:Int) (IntKind.u32.wrap (2 ^ r))=((v ||| 1 <<< r:Nat):Int):=by
 have h2:2 ^ r<4294967296:=by
  rw[show (4294967296:Nat)=2 ^ 32 from by decide];exact Nat.pow_lt_pow_right (by decide) hr
 have e:IntKind.u32.wrap (2 ^ r)=((2 ^ r:Nat):Int):=by
  rw[IntKind.wrap_u32']
  have:((2:Int) ^ r)=((2 ^ r:Nat):Int):=by simp
  rw[this]
  generalize 2 ^ r=m at h2 ⊢
  omega
 rw[e,u32_or_nat _ _ hv h2,Nat.one_shiftLeft]
theorem syhas_c (m:Nat) (x:Int) (w:World) (hm:m<4294967296) (h0:0≤x) (h1:x<32) :
  Calls Try.prog 61 #[.int .u32 (m:Int),.int .i64 x] w fun e w'=>e = .returned (.bool (m.testBit x.toNat))∧w=w':=by
 have hE:Hid ((bits BinOp.and IntKind.u32 ((m:Int) / 2 ^ x.toNat) 1==1)=m.testBit x.toNat):=and_bit32 _ _ hm
 generalize m.testBit x.toNat=b at hE
 go_enter Try.func61,Try.ntmps61
 go_wp2
 go_ret
 exact ⟨ret_bool hE.out,rfl⟩
theorem sywith_c (m:Nat) (x:Int) (w:World) (hm:m<4294967296) (h0:0≤x) (h1:x<32) :
  Calls Try.prog 62 #[.int .u32 (m:Int),.int .i64 x] w fun e w'=>e = .returned (.int .u32 ((m ||| 1 <<< x.toNat:Nat):Int))∧w=w':=by
 have hE:Hid (bits BinOp.or IntKind.u32 (m:Int) (2 ^ x.toNat % 4294967296)=((m ||| 1 <<< x.toNat:Nat):Int)):=by
  have h:=or_bit32 m x.toNat hm (by omega)
  rw[IntKind.wrap_u32'] at h
  exact h
 generalize m ||| 1 <<< x.toNat=b at hE
 go_enter Try.func62,Try.ntmps62
 go_wp2
 go_ret
 exact ⟨by rw[hE.out];rfl,rfl⟩
theorem isOrder_c (n:Int) (w:World):Calls Try.prog 45 #[.int .i64 n] w fun e w'=>e = .returned (.bool (decide (1≤n)&&decide (n≤16)))∧w=w':=by
 by_cases h1:1≤n
 ·have hd:decide (1≤n)=true:=decide_eq_true h1
  go_enter Try.func45,Try.ntmps45
  go_wp2
  go_ret
  exact ⟨by rw[hd];rfl,rfl⟩
 ·have hd:decide (1≤n)=false:=decide_eq_false h1
  go_enter Try.func45,Try.ntmps45
  go_wp2
  go_ret
  exact ⟨rfl,rfl⟩
end
section
open Go Go.RowKit
attribute [local go_sem] over_cell
attribute [local go_sem] over_frozen
theorem put_no (b:Nat) (i j m1 m2:Nat) (x:Int) (w:World) (hi:i<16) (hj:j<16) (h0:0≤x) (h1:x<32) (hm1:m1<4294967296) (hm2:m2<4294967296) (_hb:b<w.heap.size)
  (c1:w.cell? ⟨b,i,none⟩=some (.int .u32 (m1:Int))) (c2:w.cell? ⟨b,16+j,none⟩=some (.int .u32 (m2:Int))) (hno:(m1.testBit x.toNat||m2.testBit x.toNat)=true) :
  Calls Try.prog 47 #[.pointer (some ⟨b,0,none⟩),.int .i64 (i:Int),.int .i64 (j:Int),.int .i64 x] w fun e w'=>e = .returned (.bool false)∧w=w':=by
 have H1:=Lib.hid (fun W=>syhas_c m1 x W hm1 h0 h1)
 have H2:=Lib.hid (fun W=>syhas_c m2 x W hm2 h0 h1)
 generalize m1.testBit x.toNat=b1 at H1 hno
 generalize m2.testBit x.toNat=b2 at H2 hno
 have hi2:(i:Int)<16:=by omega
 have hj2:(j:Int)<16:=by omega
 cases b1 with
 | true =>
  go_enter Try.func47,Try.ntmps47
  go_wp2_with (first|(go_at_call 61;first|(refine (H1.out _).mono ?_;rintro _ w1 ⟨rfl,rfl⟩)))
  go_ret
  exact ⟨rfl,rfl⟩
 | false =>
  cases b2 with
  | false=>cases hno
  | true =>
   go_enter Try.func47,Try.ntmps47
   go_wp2_with fail
   refine (H1.out _).mono ?_
   rintro _ w1 ⟨rfl,rfl⟩
   go_wp2_with fail
   refine (H2.out _).mono ?_
   rintro _ w1 ⟨rfl,rfl⟩
   go_wp2_with fail
   go_ret
   exact ⟨rfl,rfl⟩
theorem put_yes (b:Nat) (i j m1 m2:Nat) (x:Int) (w:World) (hi:i<16) (hj:j<16) (h0:0≤x) (h1:x<32) (hm1:m1<4294967296) (hm2:m2<4294967296) (hb:b<w.heap.size)
  (c1:w.cell? ⟨b,i,none⟩=some (.int .u32 (m1:Int))) (c2:w.cell? ⟨b,16+j,none⟩=some (.int .u32 (m2:Int))) (f1:w.frozen? ⟨b,i,none⟩=false) (f2:w.frozen? ⟨b,16+j,none⟩=false) (hno:(m1.testBit x.toNat||m2.testBit x.toNat)=false) :
  Calls Try.prog 47 #[.pointer (some ⟨b,0,none⟩),.int .i64 (i:Int),.int .i64 (j:Int),.int .i64 x] w fun e w'=>e = .returned (.bool true)∧w'=((w.setCell ⟨b,i,none⟩ (.int .u32 ((m1 ||| 1 <<< x.toNat:Nat):Int))).setCell ⟨b,16+j,none⟩ (.int .u32 ((m2 ||| 1 <<< x.toNat:Nat):Int))).drew:=by
 rw[Bool.or_eq_false_iff] at hno
 have H1:=Lib.hid (fun W=>syhas_c m1 x W hm1 h0 h1)
 have H2:=Lib.hid (fun W=>syhas_c m2 x W hm2 h0 h1)
 rw[hno.1] at H1
 rw[hno.2] at H2
 have W1:=Lib.hid (fun W=>sywith_c m1 x W hm1 h0 h1)
 have W2:=Lib.hid (fun W=>sywith_c m2 x W hm2 h0 h1)
 generalize m1 ||| 1 <<< x.toNat=n1 at W1 ⊢
 generalize m2 ||| 1 <<< x.toNat=n2 at W2 ⊢
 have hi2:(i:Int)<16:=by omega
 have hj2:(j:Int)<16:=by omega
 go_enter Try.func47,Try.ntmps47
 go_wp2_with fail
 refine (H1.out _).mono ?_
 rintro _ w1 ⟨rfl,rfl⟩
 go_wp2_with fail
 refine (H2.out _).mono ?_
 rintro _ w1 ⟨rfl,rfl⟩
 go_wp2_with fail
 refine wp_region_T (fun w'=>∃u,w'=over (w) u) [0,1,2,3,4,5,6,7,8,10,12,13,14,15,16,18,20,21,24,25] [19,22,23,26,27] [(0,9),(0,17),(1,11),(2,19),(2,22),(2,23),(2,26),(2,27)] (by kernel_rfl) (by kernel_rfl) (by exact ⟨_,below_over (by repeat (first|assumption|exact Below.refl _ _|refine keep_drew ?_|refine keep_alloc ?_ _|refine keep_trans ?_ (by assumption)))⟩) ?_
 dsimp only[pickF,nthOp]
 repeat (first|(refine wpF_skip rfl (fun K hK=>?_);go_big_quiet_op;refine hK _ ?_;clear hK K)|(refine wpF_quiet rfl rfl (fun K hK=>?_);go_big_quiet_op;refine hK _ ?_;clear hK K))
 refine wpF_end ?_
 dsimp only[pickOps,nthOp]
 repeat (first|(refine wpS_skip rfl (fun K hK=>?_);go_big_quiet_op;refine hK _ ?_;clear hK K)|(refine wpS_quiet rfl rfl (fun K hK=>?_);go_big_quiet_op;refine hK _ ?_;clear hK K)|(refine wpS_loud ?_;go_wp2_with (go_at_call 62;first|(refine (W1.out _).mono ?_;rintro _ w1 ⟨rfl,rfl⟩)|(refine (W2.out _).mono ?_;rintro _ w1 ⟨rfl,rfl⟩));refine ⟨?_,?_⟩;focus (exact ⟨_,below_over (by repeat (first|assumption|exact Below.refl _ _|refine keep_drew ?_|refine keep_alloc ?_ _|refine keep_trans ?_ (by assumption)))⟩)))
 refine wpS_late _ _ _ rfl ?_
 dsimp only[List.map]
 go_wp2_with (go_at_call 62;first|(refine (W1.out _).mono ?_;rintro _ w1 ⟨rfl,rfl⟩)|(refine (W2.out _).mono ?_;rintro _ w1 ⟨rfl,rfl⟩))
 refine NoPanic.normal ?_
 go_wp2_with fail
 go_ret
 exact ⟨rfl,rfl⟩
end
section
end
section
open Go Go.RowKit
attribute [local go_sem] over_cell
attribute [local go_sem] Oper.semAt_some
theorem chk1_c (x low N:Int) (b1 b2:Nat) (w:World) (h1:w.cell? ⟨b1,0,none⟩=some (.int .i64 low)) (h2:w.cell? ⟨b2,0,none⟩=some (.int .i64 N)) :
  Calls Try.prog 67 #[.int .i64 x,.pointer (some ⟨b1,0,none⟩),.pointer (some ⟨b2,0,none⟩)] w fun e w'=>e = .returned (.bool (decide (x<low)||decide (N≤x)))∧w=w':=by
 by_cases h:x<low
 ·have hd:decide (x<low)=true:=decide_eq_true h
  go_enter Try.func67,Try.ntmps67
  go_wp2
  go_ret
  exact ⟨by rw[hd];rfl,rfl⟩
 ·have hd:decide (x<low)=false:=decide_eq_false h
  go_enter Try.func67,Try.ntmps67
  go_wp2
  go_ret
  exact ⟨rfl,rfl⟩
theorem chk1_fn:∀(args:Array Value) (w:World),Sem.run Try.prog (callFunc 67 args) w = .ok (.enter 67 args) w:=by
 intro args w;kernel_rfl
theorem anyP_any {f:Int→Bool} {cs:List Int}:anyP (fun k=>f (cs[k]?.getD 0)) cs.length=cs.any f:=by
 rw[Bool.eq_iff_iff]
 unfold anyP
 rw[List.any_eq_true,List.any_eq_true]
 constructor
 ·rintro ⟨k,hk,e⟩
  rw[List.mem_range] at hk
  rw[List.getElem?_eq_getElem hk,Option.getD_some] at e
  exact ⟨cs[k],List.getElem_mem hk,e⟩
 ·rintro ⟨x,hx,e⟩
  obtain ⟨k,hk,e2⟩:=List.getElem_of_mem hx
  exact ⟨k,List.mem_range.2 hk,by rw[List.getElem?_eq_getElem hk,Option.getD_some,e2];exact e⟩
theorem sc_other {w:World} {b i j:Nat} {v:Value} (h:i≠j):(w.setCell ⟨b,i,none⟩ v).cell? ⟨b,j,none⟩=w.cell? ⟨b,j,none⟩:=World.cell?_setCell_other _ _ _ _ (fun e=>h (congrArg Addr.off e))
theorem sc_same {w:World} {b i:Nat} {u v:Value} (h:w.cell? ⟨b,i,none⟩=some u):(w.setCell ⟨b,i,none⟩ v).cell? ⟨b,i,none⟩=some v:=World.cell?_setCell_same _ _ _ h
structure TkW (w:World) (b:Nat) (R K:Nat→Nat):Prop where
 lt:b<w.heap.size
 row:∀i,i<16→w.cell? ⟨b,i,none⟩=some (.int .u32 (R i:Int))∧w.frozen? ⟨b,i,none⟩=false
 col:∀i,i<16→w.cell? ⟨b,16+i,none⟩=some (.int .u32 (K i:Int))∧w.frozen? ⟨b,16+i,none⟩=false
theorem TkW.put {w:World} {b:Nat} {R K:Nat→Nat} (h:TkW w b R K) {i j n1 n2:Nat} (hi:i<16) (hj:j<16) :
  TkW ((w.setCell ⟨b,i,none⟩ (.int .u32 (n1:Int))).setCell ⟨b,16+j,none⟩ (.int .u32 (n2:Int))).drew b (fun r=>if r=i then n1 else R r) (fun r=>if r=j then n2 else K r):=by
 refine ⟨?_,fun r hr=>⟨?_,?_⟩,fun r hr=>⟨?_,?_⟩⟩
 ·have:=h.lt
  simpa [World.drew,World.setCell] using this
 ·show ((w.setCell _ _).setCell _ _).cell? _=_
  rw[sc_other (by omega)]
  by_cases e:r=i
  ·subst e
   rw[sc_same (h.row r hr).1,if_pos rfl]
  ·rw[sc_other (fun e2=>e e2.symm),(h.row r hr).1,if_neg e]
 ·show ((w.setCell _ _).setCell _ _).frozen? _=_
  rw[World.frozen?_setCell,World.frozen?_setCell]
  exact (h.row r hr).2
 ·show ((w.setCell _ _).setCell _ _).cell? _=_
  by_cases e:r=j
  ·subst e
   rw[sc_same (u := .int .u32 (K r:Int)) (by rw[sc_other (by omega)];exact (h.col r hr).1),if_pos rfl]
  ·rw[sc_other (by omega),sc_other (by omega),(h.col r hr).1,if_neg e]
 ·show ((w.setCell _ _).setCell _ _).frozen? _=_
  rw[World.frozen?_setCell,World.frozen?_setCell]
  exact (h.col r hr).2
theorem TkW.mono {w w':World} {b:Nat} {R K:Nat→Nat} (h:TkW w b R K) {B:Nat} (hb:Below B w w') (hlt:b<B):TkW w' b R K :=
 ⟨Nat.lt_of_lt_of_le h.lt hb.size,fun i hi=>⟨(hb.cell hlt).trans (h.row i hi).1,(hb.frozen hlt).trans (h.row i hi).2⟩,fun i hi=>⟨(hb.cell hlt).trans (h.col i hi).1,(hb.frozen hlt).trans (h.col i hi).2⟩⟩
theorem TkW.same {w:World} {b:Nat} {R K R' K':Nat→Nat} (h:TkW w b R K) (h1:∀i,i<16→R i=R' i) (h2:∀i,i<16→K i=K' i):TkW w b R' K' :=
 ⟨h.lt,fun i hi=>by rw[← h1 i hi];exact h.row i hi,fun i hi=>by rw[← h2 i hi];exact h.col i hi⟩
end
section
open Go Go.RowKit
attribute [local go_sem] over_cell
attribute [local go_sem] Oper.semAt_some
theorem tk_zero {w:World} {b:Nat} {T:TypeId} (h:w.heap[b]?=some (.cells (Array.replicate 32 (.int .u32 0)) T (0,0))):TkW w b (fun _=>0) (fun _=>0) :=
 ⟨q_lt h,fun i hi=>⟨by rw[q_cell h,Array.getElem?_replicate,if_pos (by omega)];rfl,q_free h i⟩,fun i hi=>⟨by rw[q_cell h,Array.getElem?_replicate,if_pos (by omega)];rfl,q_free h (16+i)⟩⟩
theorem chk_c (r:Int) (C:Nat) (a:Option Addr) (n c:Nat) (cs:List Int) (low:Int) (w:World) (h:IC w a n cs) (hC:1≤C) (hC2:C≤16) (hlow : -1≤low) (hn:n≤C*16) :
  Calls Try.prog 60 #[.agg #[.int .i64 r,.int .i64 (C:Int),.slice a n c],.int .i64 low,.int .i64 (C:Int)] w fun e w'=>e = .returned (.int .i64 (symE low C cs))∧Below w.heap.size w w':=by
 have hm:=h.small
 go_enter Try.func60,Try.ntmps60
 go_wp2_with fail
 have fsz:(((w.alloc (.cells #[.int .i64 r,.int .i64 (C:Int),.slice a n c] 24)).alloc (.cells #[.int .i64 low] 3)).alloc (.cells #[.int .i64 (C:Int)] 3)).heap.size=w.heap.size+3:=by simp only[World.size_alloc] <;> omega
 have fB:Below w.heap.size w (((w.alloc (.cells #[.int .i64 r,.int .i64 (C:Int),.slice a n c] 24)).alloc (.cells #[.int .i64 low] 3)).alloc (.cells #[.int .i64 (C:Int)] 3)):=(((Below.refl _ _).alloc (Nat.le_refl _) _).alloc (by simp only[World.size_alloc];omega) _).alloc (by simp only[World.size_alloc];omega) _
 have fq0:(((w.alloc (.cells #[.int .i64 r,.int .i64 (C:Int),.slice a n c] 24)).alloc (.cells #[.int .i64 low] 3)).alloc (.cells #[.int .i64 (C:Int)] 3)).heap[w.heap.size]?=some (.cells #[.int .i64 r,.int .i64 (C:Int),.slice a n c] 24 (0,0)):=by have h:=World.alloc_heap_new w (.cells #[.int .i64 r,.int .i64 (C:Int),.slice a n c] 24);exact (Below.heap_alloc _ _ _ (by simp only[World.size_alloc];omega)).trans ((Below.heap_alloc _ _ _ (by simp only[World.size_alloc];omega)).trans (h))
 have fq1:(((w.alloc (.cells #[.int .i64 r,.int .i64 (C:Int),.slice a n c] 24)).alloc (.cells #[.int .i64 low] 3)).alloc (.cells #[.int .i64 (C:Int)] 3)).heap[w.heap.size+1]?=some (.cells #[.int .i64 low] 3 (0,0)):=by have h:=World.alloc_heap_new (w.alloc (.cells #[.int .i64 r,.int .i64 (C:Int),.slice a n c] 24)) (.cells #[.int .i64 low] 3);simp only[World.size_alloc] at h;exact (Below.heap_alloc _ _ _ (by simp only[World.size_alloc];omega)).trans (h)
 have fq2:(((w.alloc (.cells #[.int .i64 r,.int .i64 (C:Int),.slice a n c] 24)).alloc (.cells #[.int .i64 low] 3)).alloc (.cells #[.int .i64 (C:Int)] 3)).heap[w.heap.size+1+1]?=some (.cells #[.int .i64 (C:Int)] 3 (0,0)):=by have h:=World.alloc_heap_new ((w.alloc (.cells #[.int .i64 r,.int .i64 (C:Int),.slice a n c] 24)).alloc (.cells #[.int .i64 low] 3)) (.cells #[.int .i64 (C:Int)] 3);simp only[World.size_alloc] at h;exact h
 generalize (((w.alloc (.cells #[.int .i64 r,.int .i64 (C:Int),.slice a n c] 24)).alloc (.cells #[.int .i64 low] 3)).alloc (.cells #[.int .i64 (C:Int)] 3))=W0 at fsz fB fq0 fq1 fq2 ⊢
 have H0:=Lib.hid (h.mono fB)
 have HC:Hid (Calls Try.prog 51 #[.slice a n c,.func (.func 67) #[] #[.pointer (some ⟨w.heap.size+1,0,none⟩),.pointer (some ⟨w.heap.size+2,0,none⟩)]] W0 fun e w'=>e = .returned (.bool (cs.any fun x=>decide (x<low)||decide ((C:Int)≤x)))∧Below W0.heap.size W0 w'):=by
  have h1:=containsFuncI_c a n c cs 67 #[.pointer (some ⟨w.heap.size+1,0,none⟩),.pointer (some ⟨w.heap.size+2,0,none⟩)] (fun k=>decide (cs[k]?.getD 0<low)||decide ((C:Int)≤cs[k]?.getD 0)) W0 H0.out chk1_fn (fun k hk W hb=>by
   refine (chk1_c _ low (C:Int) _ _ W (q_cell (keepq hb fq1) 0) (q_cell (keepq hb fq2) 0)).mono ?_
   rintro _ w1 ⟨rfl,rfl⟩
   exact ⟨rfl,Below.refl _ _⟩)
  have h2:=anyP_any (f:=fun x=>decide (x<low)||decide ((C:Int)≤x)) (cs:=cs)
  rw[h.len] at h2
  rw[h2] at h1
  exact h1
 have HS:Hid (symE low C cs=if (cs.any fun x=>decide (x<low)||decide ((C:Int)≤x))=true then 3 else if twiceB C cs=true then 17 else 0):=rfl
 have HV:Hid ((cs.any fun x=>decide (x<low)||decide ((C:Int)≤x))=false→∀k,k<n→low≤cs[k]?.getD 0∧cs[k]?.getD 0<(C:Int)):=fun e k hk=>by
  rw[List.any_eq_false] at e
  have hk2:k<cs.length:=by rw[h.len];exact hk
  have:=e cs[k] (List.getElem_mem hk2)
  rw[List.getElem?_eq_getElem hk2,Option.getD_some]
  simp only[Bool.or_eq_true,decide_eq_true_eq,not_or] at this
  omega
 have HL:=Lib.hid h.len
 clear h
 generalize (cs.any fun x=>decide (x<low)||decide ((C:Int)≤x))=av at HC HS HV
 obtain ⟨x0,x1,x2,xl⟩:W0.cell? ⟨w.heap.size,0,none⟩=some (.int .i64 r)∧W0.cell? ⟨w.heap.size,1,none⟩=some (.int .i64 (C:Int))∧W0.cell? ⟨w.heap.size,2,none⟩=some (.slice a n c)∧w.heap.size<W0.heap.size:=⟨q_cell fq0 0,q_cell fq0 1,q_cell fq0 2,q_lt fq0⟩
 clear fq0 fq1 fq2 fsz
 go_wp2_with fail
 refine HC.out.mono ?_
 rintro _ w1 ⟨rfl,hb1⟩
 cases av with
 | true =>
  rw[if_pos rfl] at HS
  go_wp2_with fail
  go_ret
  exact ⟨ret_int HS.out.symm,keep_trans fB hb1⟩
 | false =>
  rw[if_neg (by decide)] at HS
  have HV2:=Lib.hid (HV.out rfl)
  have y1:=(hb1.cell (p:=⟨w.heap.size,1,none⟩) xl).trans x1
  have y2:=(hb1.cell (p:=⟨w.heap.size,2,none⟩) xl).trans x2
  have yl:=Nat.lt_of_lt_of_le xl hb1.size
  clear x0 x1 x2 HV
  go_wp2_with fail
  have gsz:(w1.alloc (.cells #[.int .u32 0,.int .u32 0,.int .u32 0,.int .u32 0,.int .u32 0,.int .u32 0,.int .u32 0,.int .u32 0,.int .u32 0,.int .u32 0,.int .u32 0,.int .u32 0,.int .u32 0,.int .u32 0,.int .u32 0,.int .u32 0,.int .u32 0,.int .u32 0,.int .u32 0,.int .u32 0,.int .u32 0,.int .u32 0,.int .u32 0,.int .u32 0,.int .u32 0,.int .u32 0,.int .u32 0,.int .u32 0,.int .u32 0,.int .u32 0,.int .u32 0,.int .u32 0] 72)).heap.size=w1.heap.size+1:=by simp only[World.size_alloc]
  have gB:Below w1.heap.size w1 (w1.alloc (.cells #[.int .u32 0,.int .u32 0,.int .u32 0,.int .u32 0,.int .u32 0,.int .u32 0,.int .u32 0,.int .u32 0,.int .u32 0,.int .u32 0,.int .u32 0,.int .u32 0,.int .u32 0,.int .u32 0,.int .u32 0,.int .u32 0,.int .u32 0,.int .u32 0,.int .u32 0,.int .u32 0,.int .u32 0,.int .u32 0,.int .u32 0,.int .u32 0,.int .u32 0,.int .u32 0,.int .u32 0,.int .u32 0,.int .u32 0,.int .u32 0,.int .u32 0,.int .u32 0] 72)):=(Below.refl _ _).alloc (Nat.le_refl _) _
  have gq0:(w1.alloc (.cells #[.int .u32 0,.int .u32 0,.int .u32 0,.int .u32 0,.int .u32 0,.int .u32 0,.int .u32 0,.int .u32 0,.int .u32 0,.int .u32 0,.int .u32 0,.int .u32 0,.int .u32 0,.int .u32 0,.int .u32 0,.int .u32 0,.int .u32 0,.int .u32 0,.int .u32 0,.int .u32 0,.int .u32 0,.int .u32 0,.int .u32 0,.int .u32 0,.int .u32 0,.int .u32 0,.int .u32 0,.int .u32 0,.int .u32 0,.int .u32 0,.int .u32 0,.int .u32 0] 72)).heap[w1.heap.size]?=some (.cells #[.int .u32 0,.int .u32 0,.int .u32 0,.int .u32 0,.int .u32 0,.int .u32 0,.int .u32 0,.int .u32 0,.int .u32 0,.int .u32 0,.int .u32 0,.int .u32 0,.int .u32 0,.int .u32 0,.int .u32 0,.int .u32 0,.int .u32 0,.int .u32 0,.int .u32 0,.int .u32 0,.int .u32 0,.int .u32 0,.int .u32 0,.int .u32 0,.int .u32 0,.int .u32 0,.int .u32 0,.int .u32 0,.int .u32 0,.int .u32 0,.int .u32 0,.int .u32 0] 72 (0,0)):=by have h:=World.alloc_heap_new w1 (.cells #[.int .u32 0,.int .u32 0,.int .u32 0,.int .u32 0,.int .u32 0,.int .u32 0,.int .u32 0,.int .u32 0,.int .u32 0,.int .u32 0,.int .u32 0,.int .u32 0,.int .u32 0,.int .u32 0,.int .u32 0,.int .u32 0,.int .u32 0,.int .u32 0,.int .u32 0,.int .u32 0,.int .u32 0,.int .u32 0,.int .u32 0,.int .u32 0,.int .u32 0,.int .u32 0,.int .u32 0,.int .u32 0,.int .u32 0,.int .u32 0,.int .u32 0,.int .u32 0] 72);exact h
  generalize (w1.alloc (.cells #[.int .u32 0,.int .u32 0,.int .u32 0,.int .u32 0,.int .u32 0,.int .u32 0,.int .u32 0,.int .u32 0,.int .u32 0,.int .u32 0,.int .u32 0,.int .u32 0,.int .u32 0,.int .u32 0,.int .u32 0,.int .u32 0,.int .u32 0,.int .u32 0,.int .u32 0,.int .u32 0,.int .u32 0,.int .u32 0,.int .u32 0,.int .u32 0,.int .u32 0,.int .u32 0,.int .u32 0,.int .u32 0,.int .u32 0,.int .u32 0,.int .u32 0,.int .u32 0] 72))=W2 at gsz gB gq0 ⊢
  have HT0:=Lib.hid (tk_zero gq0)
  have HX:=Lib.hid (fun W (hb:Below w1.heap.size w1 W)=>And.intro ((hb.cell (p:=⟨w.heap.size,1,none⟩) yl).trans y1) (Nat.lt_of_lt_of_le yl hb.size))
  have HI:=Lib.hid (fun W (hb:Below w1.heap.size w1 W)=>(H0.out.mono hb1).mono hb)
  have HW:=Lib.hid (keep_trans fB hb1)
  have hgB:Below w1.heap.size w1 W2:=gB
  have hgl:w1.heap.size<W2.heap.size:=q_lt gq0
  clear gq0 gB gsz y1 y2 yl xl hb1 fB H0 HC
  generalize hbt:w1.heap.size=bt at *
  go_loopw [8,9,17] (fun _ _ iv wr=>∃k:Nat,k≤n∧iv = .int .i64 k∧Hid (NoTwice C cs k)∧Hid (TkW wr bt (rowM C cs k) (colM C cs k))∧Below bt w1 wr) (fun _ _ iv _=>n - (intOf iv).toNat)
  case atStart=>exact ⟨0,by omega,rfl,noTwice_zero,HT0.out,hgB⟩
  case round =>
   obtain ⟨k,hk,rfl,hnt,htk,hbr⟩:=hrel
   by_cases hlt:k<n
   ·obtain ⟨bx,ox,rfl,hbx,hcx⟩:=(HI.out _ hbr).2 k hlt
    obtain ⟨y1,yl⟩:=HX.out _ hbr
    have hv:=HV2.out k hlt
    have hki:(k:Int)<(n:Int):=by omega
    have HKL:Hid (k<cs.length):=by unfold Hid;rw[HL.out];exact hlt
    by_cases hneg:cs[k]?.getD 0<0
    ·have hskip:Hid (NoTwice C cs (k+1)∧∀W,TkW W bt (rowM C cs k) (colM C cs k)→TkW W bt (rowM C cs (k+1)) (colM C cs (k+1))) :=
      ⟨noTwice_succ hnt.out (fun h=>absurd h (by omega)),fun W h=>h.same (fun i _=>(rowM_skip hneg i).symm) (fun i _=>(colM_skip hneg i).symm)⟩
     have hx:cs[k]?.getD 0 = -1:=by omega
     rw[hx] at hcx
     clear hv hx hneg
     go_wp2_with fail
     refine wp_region_S (fun w'=>∃u,w'=over (wr) u) [] [(0,0),(0,1),(0,2),(0,3),(0,4),(0,5),(0,6),(0,7),(0,8),(0,9),(0,10),(0,11),(1,12),(0,13),(0,14)] (by kernel_rfl) (by kernel_rfl) (by exact ⟨_,below_over (by repeat (first|assumption|exact Below.refl _ _|refine keep_drew ?_|refine keep_alloc ?_ _|refine keep_trans ?_ (by assumption)))⟩) ?_
     dsimp only[pickOps,nthOp]
     repeat (first|(refine wpS_skip rfl (fun K hK=>?_);go_big_quiet_op;refine hK _ ?_;clear hK K)|(refine wpS_quiet rfl rfl (fun K hK=>?_);go_big_quiet_op;refine hK _ ?_;clear hK K)|(refine wpS_loud ?_;go_wp2;refine ⟨?_,?_⟩;focus (exact ⟨_,below_over (by repeat (first|assumption|exact Below.refl _ _|refine keep_drew ?_|refine keep_alloc ?_ _|refine keep_trans ?_ (by assumption)))⟩)))
     refine wpS_end ?_
     go_wp2_with fail
     go_roundw
     case rel=>exact ⟨k+1,by omega,by go_num,hskip.out.1,hskip.out.2 _ (htk.out.mono ((Below.refl _ _).drew) htk.out.lt),hbr.drew⟩
     case measure=>simp[intOf];omega
    ·have hx0:0≤cs[k]?.getD 0:=by omega
     have hCI:(C:Int)≠0:=by omega
     have hC0:(0:Int)<(C:Int):=by omega
     have hne:((cs[k]?.getD 0) != -1)=true:=by simp;omega
     have hq:wrap64 ((k:Int) / (C:Int))=((k / C:Nat):Int):=by
      rw[← Int.natCast_ediv]
      have h1:k / C≤k:=Nat.div_le_self _ _
      generalize k / C=q at h1 ⊢
      unfold wrap64
      omega
     have hr2:(k:Int) % (C:Int)=((k % C:Nat):Int):=by rw[← Int.natCast_emod]
     have hi16:k / C<16:=Nat.div_lt_of_lt_mul (by omega)
     have hj16:k % C<16:=Nat.lt_of_lt_of_le (Nat.mod_lt _ (by omega)) hC2
     have hall:∀j:Nat,cs[j]?.getD 0<((32:Nat):Int):=fun j=>by
      by_cases hj:j<n
      ·have:=(HV2.out j hj).2;omega
      ·rw[List.getElem?_eq_none (by rw[HL.out];omega)];decide
     have hR:rowM C cs k (k / C)<4294967296:=maskBy_lt (n:=32) hall
     have hK:colM C cs k (k % C)<4294967296:=maskBy_lt (n:=32) hall
     have hx32:cs[k]?.getD 0<32:=hall k
     by_cases htw:((rowM C cs k (k / C)).testBit (cs[k]?.getD 0).toNat||(colM C cs k (k % C)).testBit (cs[k]?.getD 0).toNat)=true
     ·have HP:Hid (∀W,TkW W bt (rowM C cs k) (colM C cs k)→Calls Try.prog 47 #[.pointer (some ⟨bt,0,none⟩),.int .i64 (wrap64 ((k:Int) / (C:Int))),.int .i64 ((k:Int) % (C:Int)),.int .i64 (cs[k]?.getD 0)] W fun e w'=>e = .returned (.bool false)∧W=w'):=fun W ht=>by
       rw[hq,hr2]
       exact put_no bt _ _ _ _ _ W hi16 hj16 hx0 hx32 hR hK ht.lt (ht.row _ hi16).1 (ht.col _ hj16).1 htw
      have hF:=Lib.hid (twice_at HKL.out hx0 (by simpa using htw))
      rw[hF.out,if_pos rfl] at HS
      clear hq hr2 hi16 hj16 hall hR hK htw hv HV2
      go_wp2_with fail
      refine wp_region_T (fun w'=>∃u,w'=over (wr) u) [0,1,2,3,4,7,8,11] [12,13,14] [(0,5),(0,6),(0,9),(0,10),(2,12),(2,13),(2,14)] (by kernel_rfl) (by kernel_rfl) (by exact ⟨_,below_over (by repeat (first|assumption|exact Below.refl _ _|refine keep_drew ?_|refine keep_alloc ?_ _|refine keep_trans ?_ (by assumption)))⟩) ?_
      dsimp only[pickF,nthOp]
      repeat (first|(refine wpF_skip rfl (fun K hK=>?_);go_big_quiet_op;refine hK _ ?_;clear hK K)|(refine wpF_quiet rfl rfl (fun K hK=>?_);go_big_quiet_op;refine hK _ ?_;clear hK K))
      refine wpF_end ?_
      dsimp only[pickOps,nthOp]
      repeat (first|(refine wpS_skip rfl (fun K hK=>?_);go_big_quiet_op;refine hK _ ?_;clear hK K)|(refine wpS_quiet rfl rfl (fun K hK=>?_);go_big_quiet_op;refine hK _ ?_;clear hK K))
      refine wpS_late _ _ _ rfl ?_
      dsimp only[List.map]
      go_wp2_with ((go_at_call 47;refine (HP.out _ (htk.out.mono ((Below.refl _ _).drew) htk.out.lt)).mono ?_;rintro _ w2 ⟨rfl,rfl⟩))
      refine NoPanic.normal ?_
      go_wp2_with fail
      go_ret
      exact ⟨ret_int HS.out.symm,HW.out.trans ((hbr.mono (by have:=HW.out.size;omega)).drew)⟩
     ·have HP:Hid (∀W,TkW W bt (rowM C cs k) (colM C cs k)→Calls Try.prog 47 #[.pointer (some ⟨bt,0,none⟩),.int .i64 (wrap64 ((k:Int) / (C:Int))),.int .i64 ((k:Int) % (C:Int)),.int .i64 (cs[k]?.getD 0)] W fun e w'=>e = .returned (.bool true)∧TkW w' bt (rowM C cs (k+1)) (colM C cs (k+1))∧Below bt W w'):=fun W ht=>by
       rw[hq,hr2]
       refine (put_yes bt _ _ _ _ _ W hi16 hj16 hx0 hx32 hR hK ht.lt (ht.row _ hi16).1 (ht.col _ hj16).1 (ht.row _ hi16).2 (ht.col _ hj16).2 (by simpa using htw)).mono ?_
       rintro _ w2 ⟨rfl,rfl⟩
       refine ⟨rfl,(ht.put hi16 hj16).same (fun i _=>?_) (fun i _=>?_),Below.drew (Below.setCell (Below.setCell (Below.refl bt W) (p:=⟨bt,k / C,none⟩) (Nat.le_refl bt) _) (p:=⟨bt,16+k % C,none⟩) (Nat.le_refl bt) _)⟩
       ·rw[rowM_succ hx0]
        by_cases e:i=k / C
        ·subst e;rw[if_pos rfl]
        ·rw[if_neg e,if_neg (fun h=>e h.symm)]
       ·rw[colM_succ hx0]
        by_cases e:i=k % C
        ·subst e;rw[if_pos rfl]
        ·rw[if_neg e,if_neg (fun h=>e h.symm)]
      have hN2:Hid (NoTwice C cs (k+1)):=noTwice_succ hnt.out (fun _=>by rw[Bool.not_eq_true,Bool.or_eq_false_iff] at htw;exact htw)
      clear hq hr2 hi16 hj16 hall hR hK htw hv HV2
      go_wp2_with fail
      refine wp_region_T (fun w'=>∃u,w'=over (wr) u) [0,1,2,3,4,7,8,11] [12,13,14] [(0,5),(0,6),(0,9),(0,10),(2,12),(2,13),(2,14)] (by kernel_rfl) (by kernel_rfl) (by exact ⟨_,below_over (by repeat (first|assumption|exact Below.refl _ _|refine keep_drew ?_|refine keep_alloc ?_ _|refine keep_trans ?_ (by assumption)))⟩) ?_
      dsimp only[pickF,nthOp]
      repeat (first|(refine wpF_skip rfl (fun K hK=>?_);go_big_quiet_op;refine hK _ ?_;clear hK K)|(refine wpF_quiet rfl rfl (fun K hK=>?_);go_big_quiet_op;refine hK _ ?_;clear hK K))
      refine wpF_end ?_
      dsimp only[pickOps,nthOp]
      repeat (first|(refine wpS_skip rfl (fun K hK=>?_);go_big_quiet_op;refine hK _ ?_;clear hK K)|(refine wpS_quiet rfl rfl (fun K hK=>?_);go_big_quiet_op;refine hK _ ?_;clear hK K))
      refine wpS_late _ _ _ rfl ?_
      dsimp only[List.map]
      go_wp2_with ((go_at_call 47;refine (HP.out _ (htk.out.mono ((Below.refl _ _).drew) htk.out.lt)).mono ?_;rintro _ w2 ⟨rfl,htk2,hb2⟩))
      refine NoPanic.normal ?_
      go_wp2_with fail
      go_roundw
      case rel=>exact ⟨k+1,by omega,by go_num,hN2.out,htk2,hbr.trans (((Below.refl _ _).drew).trans hb2)⟩
      case measure=>simp[intOf];omega
   ·have e:k=n:=by omega
    subst e
    have hF:=Lib.hid (noTwice_end (by rw[HL.out];exact hnt.out))
    rw[hF.out,if_neg (by decide)] at HS
    go_wp2_with fail
    go_ret
    exact ⟨ret_int HS.out.symm,HW.out.trans (hbr.mono (by have:=HW.out.size;omega))⟩
end
end Go.Proofs.Ytceombamoikhdaa
