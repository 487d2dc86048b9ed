/- Texts RegI to O5 of this proof, in one file. -/
import Derived.Test.YtpkghjoippcjeaaGreatDoorW01
import Derived.Test.YtpkghjoippcjeaaGreatDoorW02
import Derived.Test.YtpkghjoippcjeaaGreatDoorW03
import Derived.Test.YtpkghjoippcjeaaGreatDoorW06
import Derived.Test.YtpkghjoippcjeaaGreatDoorW13
import Derived.Test.YtpkghjoippcjeaaGreatDoorW53
import Derived.Test.YtpkghjoippcjeaaGreatDoorW54
import Derived.Test.YtpkghjoippcjeaaGreatDoorW55
import Derived.OwnWalkIn
import Derived.OrdersIn
import Derived.RangeFuncCalls
import Derived.TacticsIn
import Derived.Laws.EntriesVeiled
namespace Go.Proofs.YtpkghjoippcjeaaGreatDoor
set_option maxRecDepth 100000
set_option maxHeartbeats 16000000
section
open Go Go.RowKit
section
variable {P:Program} {ops:Array Oper} {Q:Exit→Act→World→Prop} {md:Region.Mode} {n:Nat} {S:World→Prop} {late:Nat→Bool}
def NPan (Q:Exit→Act→World→Prop):Exit→Act→World→Prop
 | .panic _,_,_=>False
 | .outgrown,_,_=>False
 | e,a,w=>Q e a w
theorem NPan.imp:∀e a w,NPan Q e a w→Q e a w:=fun e a w h=>by cases e <;> first|exact h|exact h.elim
end
end
section
open Go Go.RowKit
attribute [local go_sem] over_cell
structure CC where
 bP:Nat
 bFr:Nat
 bNo:Nat
 bY:Nat
 bN:Nat
 bT:Nat
 bC:Nat
 bFi:Nat
 g:Nat
 cap:Nat
 n:Nat
 m:Nat
 aP:Option Addr
 cP:Nat
 ps:List Int
 l:Nat
 fk:Nat
 fcaps:Array Value
 nk:Nat
 ncaps:Array Value
 Im:Nat→Prop
 MN:Nat→Prop
 M:Nat→Prop
 ok:Nat→Int→List Int→Bool
 Nt:List Int→World→Prop
 L0:List (List Int)
structure Gc (c:CC) (cs:List Int) (k:Nat):Prop where
 len:cs.length=c.m
 lo:∀j,j<k→j<c.m→0≤cs[j]?.getD 0
 lt:∀j:Nat,cs[j]?.getD 0<(c.n:Int)
 hi:∀j,k≤j→cs[j]?.getD 0=c.ps[j]?.getD 0
 giv:∀j:Nat,0≤c.ps[j]?.getD 0→cs[j]?.getD 0=c.ps[j]?.getD 0
theorem Gc.step {c:CC} {cs:List Int} {k:Nat} (h:Gc c cs k) (h0:0≤cs[k]?.getD 0):Gc c cs (k+1) :=
 ⟨h.len,fun j hj hm=>by
  rcases Nat.lt_or_ge j k with e|e
  ·exact h.lo j e hm
  ·rw[show j=k by omega];exact h0,h.lt,fun j hj=>h.hi j (by omega),h.giv⟩
theorem TkW.block {w w':World} {b:Nat} {R K:Nat→Nat} (h:TkW w b R K) (hs:w.heap.size≤w'.heap.size) (hb:w'.heap[b]?=w.heap[b]?):TkW w' b R K :=
 ⟨Nat.lt_of_lt_of_le h.lt hs,fun i hi=>⟨(World.cell?_of_block hb).trans (h.row i hi).1,(World.frozen?_of_block hb).trans (h.row i hi).2⟩,fun i hi=>⟨(World.cell?_of_block hb).trans (h.col i hi).1,(World.frozen?_of_block hb).trans (h.col i hi).2⟩⟩
theorem TkW.stays {w w':World} {b:Nat} {R K:Nat→Nat} {S:Nat→Prop} (h:TkW w b R K) (hs:Stays S w w') (hb:¬S b):TkW w' b R K:=h.block hs.size (hs.block b h.lt hb)
def Left (c:CC) (M:Nat→Prop) (W W':World):Prop:=W.heap.size≤W'.heap.size∧∀k,k<W.heap.size→M k→k≠c.g→k≠c.bT→¬c.MN k→W'.heap[k]?=W.heap[k]?
end
section
open Go Go.RowKit
attribute [local go_sem] over_cell
attribute [local go_sem] Oper.semAt_some
end
section
open Go Go.RowKit
attribute [local go_sem] over_cell
attribute [local go_sem] Oper.semAt_some
theorem hold2_c0 (v0 v1:Value) (T:TypeId) (b:Nat) (u:World):(hold (.cells #[v0,v1] T (0,0)) b u).cell? ⟨b,0,none⟩=some v0:=q_cell (hold_heap _ b u) 0
theorem hold2_c1 (v0 v1:Value) (T:TypeId) (b:Nat) (u:World):(hold (.cells #[v0,v1] T (0,0)) b u).cell? ⟨b,1,none⟩=some v1:=q_cell (hold_heap _ b u) 1
attribute [local go_sem] hold2_c0 hold2_c1
theorem Left.trans {c:CC} {M M':Nat→Prop} {A B D:World} (h:Left c M A B) (k:Left c M' B D) (hM:∀j,M j→M' j):Left c M A D :=
 ⟨Nat.le_trans h.1 k.1,fun j hl hm h1 h2 h3=>(k.2 j (Nat.lt_of_lt_of_le hl h.1) (hM j hm) h1 h2 h3).trans (h.2 j hl hm h1 h2 h3)⟩
end
section
open Go Go.RowKit
attribute [local go_sem] over_cell
attribute [local go_sem] Oper.semAt_some
def KpG (Prot:Nat→Prop) (M:Nat→Prop) (A B:World):Prop:=A.heap.size≤B.heap.size∧∀k,k<A.heap.size→Prot k∨M k→B.heap[k]?=A.heap[k]?
end
section
open Go Go.RowKit
attribute [local go_sem] over_cell
attribute [local go_sem] Oper.semAt_some
def gcells (n:Nat) (pre:List (Value × List Int)):List Value:=pre.flatMap fun x=>[.int .i64 (n:Int),.int .i64 (n:Int),x.1]
def GridsI (n:Nat) (W:World) (M:Nat→Prop) (L:Nat) (v:Value) (pre:List (Value × List Int)):Prop :=
 W.ownsRow L 24 3 v pre.length (gcells n pre)∧(∀k,v.ownBlock=some k→¬M k) ∧
  ∀x,x∈pre→W.ownsRow 0 3 1 x.1 x.2.length (x.2.map (Value.int .i64))∧∀k,x.1.ownBlock=some k→(L≤k∧¬M k)∧v.ownBlock≠some k
theorem GridsI.keep {n:Nat} {W W':World} {M M':Nat→Prop} {L L':Nat} {v:Value} {pre:List (Value × List Int)} (h:GridsI n W M L v pre) (hs:StaysL L' M W W') (hn:∀k,M' k→M k∨W.heap.size≤k):GridsI n W' M' L v pre :=
 ⟨hs.owns h.1 h.2.1,fun k e hm=>(hn k hm).elim (h.2.1 k e) (fun h2=>by have:=(h.1.lt k e).2;omega),
  fun x hx=>⟨hs.owns (h.2.2 x hx).1 (fun k e=>((h.2.2 x hx).2 k e).1.2),fun k e=>⟨⟨((h.2.2 x hx).2 k e).1.1,fun hm=>(hn k hm).elim ((h.2.2 x hx).2 k e).1.2 (fun h2=>by have:=((h.2.2 x hx).1.lt k e).2;omega)⟩,((h.2.2 x hx).2 k e).2⟩⟩⟩
theorem GridsI.setCell {n:Nat} {W:World} {M:Nat→Prop} {L:Nat} {v:Value} {pre:List (Value × List Int)} (h:GridsI n W M L v pre) {b i:Nat} (hb:b<L) (u:Value):GridsI n (W.setCell ⟨b,i,none⟩ u) M L v pre :=
 ⟨ownsRow_setCell_other h.1 (a:=⟨b,i,none⟩) (fun e=>by have:=(h.1.lt b e).1;omega) u,h.2.1,
  fun x hx=>⟨ownsRow_setCell_other (h.2.2 x hx).1 (a:=⟨b,i,none⟩) (fun e=>by have:=((h.2.2 x hx).2 b e).1.1;omega) u,(h.2.2 x hx).2⟩⟩
theorem GridsI.base {n:Nat} {W:World} {M:Nat→Prop} {L L':Nat} {v:Value} {pre:List (Value × List Int)} (h:GridsI n W M L v pre) (hl:L'≤L):GridsI n W M L' v pre :=
 ⟨owns_base h.1 hl,h.2.1,fun x hx=>⟨(h.2.2 x hx).1,fun k e=>⟨⟨Nat.le_trans hl ((h.2.2 x hx).2 k e).1.1,((h.2.2 x hx).2 k e).1.2⟩,((h.2.2 x hx).2 k e).2⟩⟩⟩
theorem GridsI.below {n:Nat} {W W':World} {L:Nat} {v:Value} {pre:List (Value × List Int)} (h:GridsI n W noB L v pre) (hb:Below W.heap.size W W'):GridsI n W' noB L v pre :=
 ⟨owns_keep h.1 (fun k _ hl=>hb.block k hl),h.2.1,fun x hx=>⟨owns_keep (h.2.2 x hx).1 (fun k _ hl=>hb.block k hl),(h.2.2 x hx).2⟩⟩
def GL (W:World) (a:Option Addr) (cnt n:Nat) (css:List (List Int)):Prop :=
 (css.length=cnt∧cnt≤17592186044416)∧∀k,k<cnt→∃b off a' c',a=some ⟨b,off,none⟩∧b<W.heap.size∧W.cell? ⟨b,off+3*k,none⟩=some (.int .i64 (n:Int))∧W.cell? ⟨b,off+(3*k+1),none⟩=some (.int .i64 (n:Int)) ∧
  W.cell? ⟨b,off+(3*k+2),none⟩=some (.slice a' (css[k]?.getD []).length c')∧IC W a' (css[k]?.getD []).length (css[k]?.getD [])∧(css[k]?.getD []).length≤c'
theorem GL.below {W W':World} {a:Option Addr} {cnt n:Nat} {css:List (List Int)} (h:GL W a cnt n css) (hb:Below W.heap.size W W'):GL W' a cnt n css :=
 ⟨h.1,fun k hk=>by
  obtain ⟨b,off,a',c',h1,h2,h3,h4,h5,h6,h7⟩:=h.2 k hk
  exact ⟨b,off,a',c',h1,Nat.lt_of_lt_of_le h2 hb.size,(hb.cell h2).trans h3,(hb.cell h2).trans h4,(hb.cell h2).trans h5,h6.mono hb,h7⟩⟩
end
section
open Go Go.RowKit
attribute [local go_sem] over_cell
attribute [local go_sem] Oper.semAt_some
theorem KpG.trans {Prot M:Nat→Prop} {A B C:World} (h:KpG Prot M A B) (k:KpG Prot M B C):KpG Prot M A C :=
 ⟨Nat.le_trans h.1 k.1,fun i hi hk=>(k.2 i (Nat.lt_of_lt_of_le hi h.1) hk).trans (h.2 i hi hk)⟩
variable {P:Program}
end
section
open Go Go.RowKit Go.ChangeShapes Go.WideShapes
theorem O5.cellsG:Tryz.prog.cellsOf 24=3:=by kernel_rfl
section
variable {H:Type} {enc:TypeId × Value→H} {w:World} {held:Bool}
theorem open_grid {base:Nat} {v:Value} {d:DataW H} {p:List MemPlace} (hv:Value.okWide Tryz.prog w .any base 24 v) (h:DataW.Trod enc Tryz.prog w 0 (fun _=>true) held 24 v d p) (hz:∀n∈d.weights Tryz.prog 24,n≤reachBytes) :
  ∃(r C:Int) (a:Option Addr) (n c:Nat) (P:List Int),v = .agg #[.int .i64 r,.int .i64 C,.slice a n c]∧n≤c∧IC w a n P:=by
 obtain ⟨cs,rfl,hsz⟩:=okWide_struct Tryz.underlying24 hv
 obtain ⟨c0,c1,c2,rfl⟩:=Go.Joins.array3 (hsz.trans O5.cellsG)
 obtain ⟨fuel,hf⟩:=h
 obtain ⟨y0,y1,y2,m,hx,_,h0,h1,h2⟩:=Go.Deep.trod_struct3 Tryz.underlying24 hf
 have h0':DataW.trod enc Tryz.prog w 0 (fun _=>true) held m 3 [c0]=some y0:=by simpa [Value.cells,O1.cells3] using h0
 have h1':DataW.trod enc Tryz.prog w 0 (fun _=>true) held m 3 [c1]=some y1:=by simpa [Value.cells,O1.cells3] using h1
 have h2':DataW.trod enc Tryz.prog w 0 (fun _=>true) held m 22 [c2]=some y2:=by simpa [Value.cells,O1.cells3,O1.cells25] using h2
 simp only[Prod.mk.injEq] at hx
 obtain ⟨rfl,rfl⟩:=hx
 have hwz:∀n,n∈y2.1.weights Tryz.prog 22→n≤reachBytes:=by
  intro n hn
  refine hz n ?_
  simp only[DataW.weights,Tryz.underlying24,List.map_cons,List.map_nil,DataW.weightsEach,List.mem_append]
  exact .inr (.inr (.inl hn))
 obtain ⟨r,e0,_,_⟩:=DataW.trod_int Tryz.underlying3 h0'
 obtain ⟨C,e1,_,_⟩:=DataW.trod_int Tryz.underlying3 h1'
 obtain ⟨a,n,c,P,rfl,hc,hP⟩:=O1.ints h2' hwz
 simp only[List.cons.injEq,and_true] at e0 e1
 exact ⟨r,C,a,n,c,P,by rw[e0,e1],hc,hP⟩
end
end
end Go.Proofs.YtpkghjoippcjeaaGreatDoor
