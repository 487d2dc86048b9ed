/- Texts B19 to B19 of this proof, in one file. -/
import Derived.Test.YtaadpihbjhachaaGreatW16
import Derived.Test.YtaadpihbjhachaaGreatW22
import Derived.Test.YtaadpihbjhachaaGreatW25
namespace Go.Proofs.YtaadpihbjhachaaGreat
set_option maxRecDepth 100000
set_option maxHeartbeats 16000000
section
open Go Go.RowKit
attribute [local go_sem] over_cell
attribute [local go_sem] Oper.semAt_some
theorem infoNodes:(Tryz.prog.info? 44).map (fun i=>(i.zero,i.size,i.bytes))=some (some (.slice none 0 0),1,24):=by kernel_rfl
def NP (w:World) (B:Nat) (vs:List Value) (Ts:List (List Nd)):Prop :=
 vs.length=Ts.length∧∀k,k<vs.length→∃v,vs[k]?=some v∧w.ownsRow B 104 5 v (Ts[k]?.getD []).length (ndsL (Ts[k]?.getD []))
theorem NP.keep {w w':World} {B:Nat} {vs:List Value} {Ts:List (List Nd)} (h:NP w B vs Ts) (hs:∀k cur,B≤k→k<w.heap.size→w.heap[k]?=some (.cells cur 104 (0,0))→w'.heap[k]?=w.heap[k]?):NP w' B vs Ts:=by
 refine ⟨h.1,fun k hk=>?_⟩
 obtain ⟨v,hv,hl,ho⟩:=h.2 k hk
 refine ⟨v,hv,hl,ho.imp id ?_⟩
 rintro ⟨g,cap,cur,e,hb,hh,r⟩
 exact ⟨g,cap,cur,e,hb,(hs g cur hb (lt_of_block hh) hh).trans hh,r⟩
theorem NP.set {w:World} {B:Nat} {vs:List Value} {Ts:List (List Nd)} (h:NP w B vs Ts) (k:Nat) {v:Value} {T:List Nd} (hv:w.ownsRow B 104 5 v T.length (ndsL T)):NP w B (vs.set k v) (Ts.set k T):=by
 refine ⟨by rw[List.length_set,List.length_set,h.1],fun j hj=>?_⟩
 rw[List.length_set] at hj
 have hj2:j<Ts.length:=by rw[← h.1];exact hj
 by_cases e:k=j
 ·subst e
  refine ⟨v,by rw[List.getElem?_set_self hj],?_⟩
  rw[List.getElem?_set_self hj2]
  exact hv
 ·obtain ⟨u,hu,ho⟩:=h.2 j hj
  refine ⟨u,by rw[List.getElem?_set_ne e];exact hu,?_⟩
  rw[List.getElem?_set_ne e]
  exact ho
theorem NP.one {w:World} {B:Nat} {vs:List Value} {Ts:List (List Nd)} (h:NP w B vs Ts):∀u∈vs,u.oneCell'=true:=by
 intro u hu
 obtain ⟨k,hk,e⟩:=List.getElem_of_mem hu
 obtain ⟨v,e2,ho⟩:=h.2 k hk
 rw[List.getElem?_eq_getElem hk,e] at e2
 cases e2
 obtain ⟨a,c,rfl⟩:=owns_slice4 ho
 rfl
theorem NP.nil (w:World) (B n:Nat):NP w B (List.replicate n (.slice none 0 0)) (List.replicate n []):=by
 refine ⟨by simp,fun k hk=>⟨.slice none 0 0,?_,?_⟩⟩
 ·rw[List.length_replicate] at hk
  rw[List.getElem?_replicate,if_pos hk]
 ·have:((List.replicate n ([]:List Nd))[k]?.getD [])=[]:=by
   rw[List.getElem?_replicate]
   split <;> rfl
  rw[this]
  exact World.ownsRow_nil _ _ _ _
theorem NP.cons {w:World} {B:Nat} {vs:List Value} {Ts:List (List Nd)} (h:NP w B vs Ts) {v:Value} {T:List Nd} (hv:w.ownsRow B 104 5 v T.length (ndsL T)):NP w B ([v]++vs) (T :: Ts):=by
 refine ⟨by simp[h.1],fun k hk=>?_⟩
 cases k with
 | zero=>exact ⟨v,rfl,hv⟩
 | succ k =>
  obtain ⟨u,hu,ho⟩:=h.2 k (by simpa using hk)
  exact ⟨u,by simpa using hu,by simpa using ho⟩
theorem NP.nc {w:World} {B B' n c m:Nat} {a:Option Addr} {vs:List Value} {Ts:List (List Nd)} {e:TypeId} (h:w.ownsRow B' e 1 (.slice a n c) m vs) (hv:NP w B vs Ts) (hn:m≤1000) (hT:∀T,T∈Ts→T.length≤1000000):NC w a n Ts∧n=m:=by
 have hl:=h.1
 rcases h.2 with ⟨e2,e3⟩|⟨g,cap,cur,e2,_,_,e5,_⟩
 ·simp only[Value.slice.injEq] at e2
  obtain ⟨rfl,rfl,rfl⟩:=e2
  exact ⟨⟨⟨by rw[← hv.1];omega,by omega⟩,fun k hk=>absurd hk (by omega)⟩,by omega⟩
 ·have e9:=e2
  simp only[Value.slice.injEq] at e9
  obtain ⟨rfl,rfl,rfl⟩:=e9
  refine ⟨⟨⟨by rw[← hv.1];omega,hn⟩,fun k hk=>?_⟩,rfl⟩
  obtain ⟨g2,cap2,x,hv2,hx,hc,_,hg,_⟩:=owns_free (owns_base h (Nat.zero_le _)) k hk
  cases hv2
  obtain ⟨v,e6,ho⟩:=hv.2 k (by omega)
  rw[hx] at e6
  cases e6
  obtain ⟨a',c',rfl⟩:=owns_slice4 ho
  have hlt:k<Ts.length:=by rw[← hv.1];omega
  have htc:=TC.of_owns ho (by rw[List.getElem?_eq_getElem hlt];exact Nat.le_trans (hT _ (List.getElem_mem hlt)) (by omega))
  exact ⟨g,0,a',_,c',rfl,hg,by rw[Nat.zero_add,hc],htc.1,htc.2.1⟩
theorem RT.other {w0 w:World} {rb gb cg:Nat} {at':Option Addr} {nt ct i n':Nat} {g:List Int} (h:RT w0 w rb gb cg at' nt ct i n' g) {b:Nat} (hb:w0.heap.size≤b) (h1:b≠rb) (h2:b≠gb) (k:Nat) (u:Value):RT w0 (w.setCell ⟨b,k,none⟩ u) rb gb cg at' nt ct i n' g :=
 ⟨h.below.setCell (p:=⟨b,k,none⟩) hb u,q_other h.rd (Ne.symm h1) u,owns_keep h.og (fun i e _=>Below.heap_setCell _ _ _ _ (by simp only[Value.ownBlock,Option.some.injEq] at e;show i≠b;omega)),h.ge⟩
theorem NP.stays {S:Nat→Prop} {w w':World} {B:Nat} {vs:List Value} {Ts:List (List Nd)} (h:NP w B vs Ts) (hs:Stays S w w') (hS:∀k cur,B≤k→w.heap[k]?=some (.cells cur 104 (0,0))→¬S k):NP w' B vs Ts :=
 h.keep (fun k cur hb hl hh=>hs.block k hl (hS k cur hb hh))
theorem own_new (w:World) (x:Value) (B:Nat) (T:TypeId) (hB:B≤w.heap.size):(w.alloc (.cells #[x] T)).ownsRow B T 1 (.slice (some ⟨w.heap.size,0,none⟩) 1 1) 1 [x] :=
 ⟨rfl,.inr ⟨w.heap.size,1,_,rfl,hB,World.alloc_heap_new _ _,Nat.le_refl _,by unfold maxLen;omega,rfl,rfl⟩⟩
def MT3 (rb gb pb:Nat) (k:Nat):Prop:=k=rb∨k=gb∨k=pb
theorem made_nilN (n:Nat):(madeCells (Value.slice none 0 0).cells (n*1)).toList=List.replicate n (Value.slice none 0 0):=by
 rw[Nat.mul_one]
 apply List.ext_getElem
 ·simp[madeCells,Value.cells]
 ·intro i h1 h2
  simp[madeCells,Value.cells,Nat.mod_one]
theorem made_drop {us:List Int} {F:Int→List Nd} {T R:List Nd} {i j:Nat} (hj:j<us.length) (h:T.drop (i+((us.take j).flatMap F).length)=(us.drop j).flatMap F++R) :
  T.drop (i+((us.take j).flatMap F).length)=F (us[j]?.getD 0)++((us.drop (j+1)).flatMap F++R)∧i+((us.take (j+1)).flatMap F).length=i+((us.take j).flatMap F).length+(F (us[j]?.getD 0)).length∧T.drop (i+((us.take (j+1)).flatMap F).length)=(us.drop (j+1)).flatMap F++R:=by
 have e1:(us.drop j).flatMap F=F (us[j]?.getD 0)++(us.drop (j+1)).flatMap F:=by
  rw[List.drop_eq_getElem_cons hj,List.flatMap_cons,List.getElem?_eq_getElem hj];rfl
 rw[e1,List.append_assoc] at h
 have e2:i+((us.take (j+1)).flatMap F).length=i+((us.take j).flatMap F).length+(F (us[j]?.getD 0)).length:=by
  rw[flat_snoc F us j hj,List.length_append];omega
 refine ⟨h,e2,?_⟩
 rw[e2,← List.drop_drop,h,List.drop_left']
 rfl
theorem moved_c {cells:Int} {ls:List (List Int)} {sum:Int} (w0:World) (rb gb cg:Nat) (a:Option Addr) (n c n':Nat) (hrc:RC w0 a n ls) (hn2:n'≤256) (at':Option Addr) (nt ct:Nat) (T:List Nd) (htc:TC w0 at' nt T) (hnt:nt≤2000) (ap:Option Addr) (cp:Nat) (p:List Int) (cb:Bool) (hp:IC w0 ap n' p):∀(f:Nat) (g:List Int) (i:Nat) (R:List Nd) (w:World),GoodTask cells ls sum g→T.drop i=madeT ls sum f g++R→okTB ls sum f g=true→RT w0 w rb gb cg at' nt ct i n' g →
  Calls Tryz.prog 77 #[.agg #[.int .i64 cells,.slice a n c,.int .i64 sum,.slice (some ⟨gb,0,none⟩) n' cg],nextV rb,.agg #[.slice ap n' cp,.bool cb]] w fun e w'=>∃v,e = .returned v∧w'.ownsRow w.heap.size 104 5 v (movT ls sum cb p f g).length (ndsL (movT ls sum cb p f g))∧RT w0 w' rb gb cg at' nt ct (i+(madeT ls sum f g).length) n' g∧Stays (MT rb gb) w w':=by
 obtain ⟨i2,hi,hz0,hz1,hz2⟩:∃i0,Tryz.prog.info? 44=some i0∧i0.zero=some (.slice none 0 0)∧i0.size=1∧i0.bytes=24:=by
  have h:=infoNodes
  cases hi:Tryz.prog.info? 44 with
  | none=>rw[hi] at h;cases h
  | some i0 =>
   rw[hi] at h
   simp only[Option.map_some,Option.some.injEq,Prod.mk.injEq] at h
   exact ⟨i0,rfl,h.1,h.2.1,h.2.2⟩
 intro f
 induction f with
 | zero=>intro g i R w _ _ hok _;cases hok
 | succ f ih =>
  intro g i R w hG hT hok hrt
  have HIH:=Lib.hid ih
  have HG:=Lib.hid hG
  have HRT:=Lib.hid hrt
  have htl:=Lib.hid htc.1.1
  have HTC:=Lib.hid htc
  have HRC:=Lib.hid hrc
  have HP:=Lib.hid hp
  have hpl:=Lib.hid hp.len
  have hgl:=(hrt.ic hn2).2
  obtain ⟨d,rest,hTd,hd1⟩:∃d rest,madeT ls sum (f+1) g=d :: rest∧((0≤tightLine ls g sum∧d=⟨kLine,0,tightLine ls g sum,0,0⟩∧rest=[])∨(¬0≤tightLine ls g sum∧d=⟨kCell,tightCell ls g sum,0,0,(unusedL g).length⟩∧rest=(unusedL g).flatMap fun x=>madeT ls sum f (g.set (tightCell ls g sum).toNat x))):=by
   by_cases ht:0≤tightLine ls g sum
   ·exact ⟨_,_,by simp only[madeT];rw[if_pos ht],.inl ⟨ht,rfl,rfl⟩⟩
   ·exact ⟨_,_,by simp only[madeT];rw[if_neg ht],.inr ⟨ht,rfl,rfl⟩⟩
  have hTi:T.drop i=d :: (rest++R):=by rw[hT,hTd];rfl
  have hlt:i<nt:=by
   have h1:(T.drop i).length=(rest++R).length+1:=by rw[hTi];rfl
   rw[List.length_drop,htl.out] at h1
   omega
  have hd:T[i]?=some d:=by
   have h1:(T.drop i)[0]?=some d:=by rw[hTi];rfl
   rw[List.getElem?_drop] at h1
   simpa using h1
  have HTR:Hid (T.drop (i+1)=rest++R):=by
   unfold Hid
   rw[← List.drop_drop,hTi];rfl
  have HLEN:Hid ((madeT ls sum (f+1) g).length=rest.length+1):=by unfold Hid;rw[hTd];rfl
  have HOK:=Lib.hid hok
  have HD1:=Lib.hid hd1
  clear ih hG hrt hT hTi hTd hok hd1
  unfold nextV
  go_enter Tryz.func77,Tryz.ntmps77
  go_wp2_with fail
  have fsz:((w.alloc (.cells #[.int .i64 cells,.slice a n c,.int .i64 sum,.slice (some ⟨gb,0,none⟩) n' cg] 27)).alloc (.cells #[.slice ap n' cp,.bool cb] 29)).heap.size=w.heap.size+2:=by simp only[World.size_alloc] <;> omega
  have fB:Below w.heap.size w ((w.alloc (.cells #[.int .i64 cells,.slice a n c,.int .i64 sum,.slice (some ⟨gb,0,none⟩) n' cg] 27)).alloc (.cells #[.slice ap n' cp,.bool cb] 29)):=((Below.refl _ _).alloc (Nat.le_refl _) _).alloc (by simp only[World.size_alloc];omega) _
  have fq0:((w.alloc (.cells #[.int .i64 cells,.slice a n c,.int .i64 sum,.slice (some ⟨gb,0,none⟩) n' cg] 27)).alloc (.cells #[.slice ap n' cp,.bool cb] 29)).heap[w.heap.size]?=some (.cells #[.int .i64 cells,.slice a n c,.int .i64 sum,.slice (some ⟨gb,0,none⟩) n' cg] 27 (0,0)):=by have h:=World.alloc_heap_new w (.cells #[.int .i64 cells,.slice a n c,.int .i64 sum,.slice (some ⟨gb,0,none⟩) n' cg] 27);exact (Below.heap_alloc _ _ _ (by simp only[World.size_alloc];omega)).trans (h)
  have fq1:((w.alloc (.cells #[.int .i64 cells,.slice a n c,.int .i64 sum,.slice (some ⟨gb,0,none⟩) n' cg] 27)).alloc (.cells #[.slice ap n' cp,.bool cb] 29)).heap[w.heap.size+1]?=some (.cells #[.slice ap n' cp,.bool cb] 29 (0,0)):=by have h:=World.alloc_heap_new (w.alloc (.cells #[.int .i64 cells,.slice a n c,.int .i64 sum,.slice (some ⟨gb,0,none⟩) n' cg] 27)) (.cells #[.slice ap n' cp,.bool cb] 29);simp only[World.size_alloc] at h;exact h
  generalize ((w.alloc (.cells #[.int .i64 cells,.slice a n c,.int .i64 sum,.slice (some ⟨gb,0,none⟩) n' cg] 27)).alloc (.cells #[.slice ap n' cp,.bool cb] 29))=W0 at fsz fB fq0 fq1 ⊢
  have HQ0:=Lib.hid fq0
  have HY0:=Lib.hid fq1
  have fsz':w.heap.size+1<W0.heap.size:=by omega
  have HR0:=Lib.hid (HRT.out.keep fB)
  clear fq0 fq1 fsz
  have hge:=HRT.out.ge
  refine (next_node rb at' nt ct i T d W0 HR0.out.rd (HTC.out.mono HR0.out.below) hd (fun q e=>by
   obtain ⟨b9,o9,e9,hl9,_⟩:=HTC.out.2 i d hd
   rw[e] at e9
   cases e9
   simp only
   omega)).mono ?_
  rintro _ w1 ⟨rfl,hrd1,hst1⟩
  unfold ndV
  have hrw:=q_lt HRT.out.rd
  have hq1:=stays_q hst1 HQ0.out (by omega)
  have hy1:=stays_q hst1 HY0.out (by omega)
  have HQ1:=Lib.hid hq1
  have HY1:=Lib.hid hy1
  have HST1:=Lib.hid hst1
  have hBs1:Below w0.heap.size w0 w1:=HR0.out.below.trans (hst1.below HR0.out.below.size (fun k e=>by omega))
  have HRT1:Hid (RT w0 w1 rb gb cg at' nt ct (i+1) n' g):=⟨hBs1,hrd1,owns_keep HR0.out.og (fun k e hl=>hst1.block k hl (fun e2=>by simp only[Value.ownBlock,Option.some.injEq] at e;omega)),hge⟩
  clear hd hrd1 hst1 hq1 hy1
  go_upto_region 2 with fail
  have ksz:(w1.alloc (.cells #[.string d.kind,.int .i64 d.cell,.int .i64 d.line,.int .i64 d.number,.int .i64 d.kids] 104)).heap.size=w1.heap.size+1:=by simp only[World.size_alloc]
  have kB:Below w1.heap.size w1 (w1.alloc (.cells #[.string d.kind,.int .i64 d.cell,.int .i64 d.line,.int .i64 d.number,.int .i64 d.kids] 104)):=(Below.refl _ _).alloc (Nat.le_refl _) _
  have kq0:(w1.alloc (.cells #[.string d.kind,.int .i64 d.cell,.int .i64 d.line,.int .i64 d.number,.int .i64 d.kids] 104)).heap[w1.heap.size]?=some (.cells #[.string d.kind,.int .i64 d.cell,.int .i64 d.line,.int .i64 d.number,.int .i64 d.kids] 104 (0,0)):=by have h:=World.alloc_heap_new w1 (.cells #[.string d.kind,.int .i64 d.cell,.int .i64 d.line,.int .i64 d.number,.int .i64 d.kids] 104);exact h
  generalize (w1.alloc (.cells #[.string d.kind,.int .i64 d.cell,.int .i64 d.line,.int .i64 d.number,.int .i64 d.kids] 104))=W3 at ksz kB kq0 ⊢
  have HN3:=Lib.hid kq0
  have HQ3:=Lib.hid (keepq kB HQ1.out)
  have HY3:=Lib.hid (keepq kB HY1.out)
  have HRT3:=Lib.hid (HRT1.out.keep kB)
  have hz01:=HST1.out.size
  have HST3:Hid (Stays (MT rb gb) w W3):=((Below.stays fB _).trans (HST1.out.mono (T:=MT rb gb) (fun k e => .inl e)) (fun _ e => .inl e)).trans (Below.stays kB (MT rb gb)) (fun _ e => .inl e)
  have x0:W3.cell? ⟨w.heap.size,0,none⟩=some (.int .i64 cells):=q_cell HQ3.out 0
  have x1:W3.cell? ⟨w.heap.size,1,none⟩=some (.slice a n c):=q_cell HQ3.out 1
  have x2:W3.cell? ⟨w.heap.size,2,none⟩=some (.int .i64 sum):=q_cell HQ3.out 2
  have x3:W3.cell? ⟨w.heap.size,3,none⟩=some (.slice (some ⟨gb,0,none⟩) n' cg):=q_cell HQ3.out 3
  have xl:=q_lt HQ3.out
  have y0:W3.cell? ⟨w1.heap.size,0,none⟩=some (.string d.kind):=q_cell kq0 0
  have y1:W3.cell? ⟨w1.heap.size,1,none⟩=some (.int .i64 d.cell):=q_cell kq0 1
  have y2:W3.cell? ⟨w1.heap.size,2,none⟩=some (.int .i64 d.line):=q_cell kq0 2
  have y3:W3.cell? ⟨w1.heap.size,3,none⟩=some (.int .i64 d.number):=q_cell kq0 3
  have y4:W3.cell? ⟨w1.heap.size,4,none⟩=some (.int .i64 d.kids):=q_cell kq0 4
  have yl:=q_lt kq0
  have ksz':w1.heap.size+1=W3.heap.size:=by omega
  have KSZ:=Lib.hid ksz'
  clear kq0 ksz ksz'
  rcases HD1.out with ⟨ht,hde,hre⟩|⟨ht,hde,hre⟩
  ·have hK:isK d.kind kLine=true:=by rw[hde];exact kind_vals.1
   have hKL:(d.kind.toList==[108,105,110,101])=true:=by rw[← kLine_l];exact hK
   have HMV:Hid (movT ls sum cb p (f+1) g=[d]):=by unfold Hid;simp only[movT];rw[if_pos ht,hde]
   have HML:Hid (i+(madeT ls sum (f+1) g).length=i+1):=by unfold Hid;rw[HLEN.out,hre];rfl
   clear hK ht hde hre HD1
   go_wp2_with fail
   go_ret
   have hbA:Below W3.heap.size W3 (W3.alloc (.cells #[.string d.kind,.int .i64 d.cell,.int .i64 d.line,.int .i64 d.number,.int .i64 d.kids] 104)):=(Below.refl _ _).alloc (Nat.le_refl _) _
   refine ⟨_,rfl,?_,?_,HST3.out.trans (Below.stays hbA (MT rb gb)) (fun _ e => .inl e)⟩
   ·rw[HMV.out]
    exact ⟨rfl,.inr ⟨W3.heap.size,1,_,rfl,by have:=HST3.out.size;omega,World.alloc_heap_new _ _,Nat.le_refl _,by unfold maxLen;omega,rfl,rfl⟩⟩
   ·rw[HML.out]
    exact HRT3.out.keep hbA
  ·have hKN:(d.kind.toList==[108,105,110,101])=false:=by rw[hde,← kLine_l];exact kind_vals.2.1
   have hKC:(d.kind.toList==[99,101,108,108])=true:=by rw[hde,← kCell_l];exact kind_vals.2.2
   have hKU:(d.kind.toList==[110,117,109,98,101,114])=false:=by rw[hde];simp[kCell]
   have hok2:=HOK.out
   simp only[okTB] at hok2
   rw[decide_eq_false (by omega),Bool.false_or] at hok2
   simp only[Bool.and_eq_true,decide_eq_true_eq,beq_iff_eq,List.all_eq_true] at hok2
   obtain ⟨⟨⟨ht1,ht2⟩,ht3⟩,hok3⟩:=hok2
   obtain ⟨cc,hcc⟩:∃cc:Nat,tightCell ls g sum=(cc:Int):=⟨(tightCell ls g sum).toNat,by omega⟩
   have hdc:d.cell=(cc:Int):=by rw[hde];exact hcc
   have HDV:Hid (d=⟨kCell,(cc:Int),0,0,((unusedL g).length:Int)⟩):=by unfold Hid;rw[hde,hcc]
   have HMV:Hid (movT ls sum cb p (f+1) g=⟨kCell,p[cc]?.getD 0,0,0,((unusedL g).length:Int)⟩ :: (kidO cb (unusedL g)).flatMap fun x=>movT ls sum cb p f (g.set cc x)):=by
    unfold Hid;simp only[movT];rw[if_neg (by omega),hcc,Int.toNat_natCast]
   rw[hcc,Int.toNat_natCast] at ht3 hok3 hre
   have hcn:cc<n':=by omega
   have hci:(cc:Int)<(n':Int):=by omega
   have HOK3:=Lib.hid hok3
   have HC3:=Lib.hid ht3
   have HKN:Hid (kidsN g d=(unusedL g).map fun x=>((cc:Int),x)):=by
    unfold Hid;rw[(fine_cell (g:=g) (by rw[hde];exact kind_vals.2.2)).2,hdc]
   have HKI:=Lib.hid (kids_c (.slice a n c) cells sum (some ⟨gb,0,none⟩) n' cg g d W3 (HRT3.out.ic hn2).1 hn2 HG.out.num')
   have HUB:Hid (∀x,x∈unusedL g→1≤x∧x≤(n':Int)):=fun x hx=>by have:=mem_unused.1 hx;omega
   have HUA:=Lib.hid (unused_asc g)
   have HUM:Hid (∀x,x∈unusedL g→x∈unusedL g):=fun x hx=>hx
   have HULN:Hid ((unusedL g).length≤256):=by unfold Hid;have:=unusedTo_len g g.length;unfold unusedL;omega
   have HDC:=Lib.hid hdc
   rw[hre] at HLEN HTR
   clear hdc hre hok3 ht3 ht2 ht1 hcc hde ht HD1 HOK
   generalize okN g d=okb at HKI
   generalize hU:unusedL g=us at HDV HMV HOK3 HKN HUB HUA HUM HULN HLEN HTR
   have HUS:=Lib.hid hU
   clear hU
   have HKL:Hid ((kidsN g d).length=us.length):=by unfold Hid;rw[HKN.out,List.length_map]
   have HKG:Hid (∀j,j<us.length→(kidsN g d)[j]?.getD (0,0)=((cc:Int),us[j]?.getD 0)):=fun j hj=>by rw[HKN.out,List.getElem?_map,List.getElem?_eq_getElem hj];rfl
   generalize kidsN g d=ks at HKI HKN HKL HKG
   rw[HKL.out] at HKI
   obtain ⟨F0,hF0⟩:∃F0:Int→List Nd,F0=fun x=>madeT ls sum f (g.set cc x):=⟨_,rfl⟩
   obtain ⟨F1,hF1⟩:∃F1:Int→List Nd,F1=fun x=>movT ls sum cb p f (g.set cc x):=⟨_,rfl⟩
   have HIH2:Hid (∀x,x∈us→∀(i:Nat) (R:List Nd) (w:World),T.drop i=F0 x++R→RT w0 w rb gb cg at' nt ct i n' (g.set cc x) →
     Calls Tryz.prog 77 #[.agg #[.int .i64 cells,.slice a n c,.int .i64 sum,.slice (some ⟨gb,0,none⟩) n' cg],nextV rb,.agg #[.slice ap n' cp,.bool cb]] w fun e w'=>∃v,e = .returned v∧w'.ownsRow w.heap.size 104 5 v (F1 x).length (ndsL (F1 x))∧RT w0 w' rb gb cg at' nt ct (i+(F0 x).length) n' (g.set cc x)∧Stays (MT rb gb) w w'):=by
    intro x hx i R w h1 h2
    rw[hF0] at h1 ⊢
    rw[hF1]
    exact HIH.out (g.set cc x) i R w (HG.out.put (by omega) (by rw[HUS.out];exact hx)) h1 (HOK3.out x hx) h2
   rw[← hF0] at HLEN HTR
   rw[← hF1] at HMV
   have HTL:Hid (∀j,(((us.take j).flatMap F0).length≤(us.flatMap F0).length)):=fun j=>flat_take F0 us j
   clear hF0 hF1 HIH HOK3
   have HFT:Hid (movT ls sum cb p (f+1) g=⟨kCell,p[cc]?.getD 0,0,0,(us.length:Int)⟩ :: (partsL cb n' us F1).flatten):=by
    unfold Hid;rw[HMV.out,parts_all HUA.out HUB.out]
   go_wp2_with fail
   refine HKI.out.mono ?_
   rintro _ w5 ⟨ar,cr,rfl,hown5,hb5⟩
   clear x0 x1 x2 x3 xl y0 y1 y2 y3 y4 yl HKI
   have HRT5:=Lib.hid (HRT3.out.keep hb5)
   have HST5:Hid (Stays (MT rb gb) w w5):=HST3.out.trans (Below.stays hb5 (MT rb gb)) (fun _ e => .inl e)
   have HQ5:=Lib.hid (keepq hb5 HQ3.out)
   have HY5:=Lib.hid (keepq hb5 HY3.out)
   have HN5:=Lib.hid (keepq hb5 HN3.out)
   have HO5:=Lib.hid hown5
   have hz35:=hb5.size
   have hz3:=HST3.out.size
   have hz5:=HST5.out.size
   have hgw:gb<w.heap.size:=(HRT.out.og.lt gb rfl).2
   have z3:w5.cell? ⟨w.heap.size,3,none⟩=some (.slice (some ⟨gb,0,none⟩) n' cg):=q_cell HQ5.out 3
   have zl:=q_lt HQ5.out
   clear hown5
   go_wp2_with (refine wpList_make_full _ rfl _ _ 202 rfl w5.heap.size 44 i2 (.slice none 0 0) 1 Tryz.underlying202 hi hz0 hz1 _ _ _ _ (n'+1) rfl rfl (by simp) (by simp) (by rw[hz2];omega) (by unfold maxLen;omega) (Nat.le_refl _) ?_;intro W4 hown4 hgr4)
   rw[made_nilN (n'+1)] at hown4
   have hB4:Below w5.heap.size w5 W4:=(Below.refl w5.heap.size w5).grown hgr4 (Nat.le_refl _) (fun k e=>by cases e)
   have HO4:=Lib.hid hown4
   have HRT4:=Lib.hid (HRT5.out.keep hB4)
   have HB4:=Lib.hid hB4
   have hz4:=hB4.size
   have HNP4:Hid (NP W4 w5.heap.size (List.replicate (n'+1) (.slice none 0 0)) (partsL cb n' [] F1)):=by unfold Hid;rw[parts_nil];exact NP.nil _ _ _
   have hp4:=(hown4.lt w5.heap.size rfl).2
   clear hgr4 z3 zl hown4 hB4
   have HSW:Hid (∀wv,Stays (MT3 rb gb w5.heap.size) W4 wv→Stays (MT rb gb) w wv):=fun wv hs=>(HST5.out.trans (Below.stays HB4.out (MT rb gb)) (fun _ e => .inl e)).trans hs (fun k e=>by
    rcases e with e|e|e
    ·exact .inl (.inl e)
    ·exact .inl (.inr e)
    ·exact .inr (by omega))
   go_loopw [13,14,38] (fun _ _ iv wv=>∃(j:Nat) (vs:List Value),j≤us.length∧iv = .int .i64 j∧Hid (RT w0 wv rb gb cg at' nt ct (i+1+((us.take j).flatMap F0).length) n' g)∧Hid (T.drop (i+1+((us.take j).flatMap F0).length)=(us.drop j).flatMap F0++R)∧Hid (wv.ownsRow w5.heap.size 44 1 (.slice (some ⟨w5.heap.size,0,none⟩) (n'+1) (n'+1)) (n'+1) vs)∧Hid (NP wv w5.heap.size vs (partsL cb n' (us.take j) F1))∧Hid (Stays (MT3 rb gb w5.heap.size) W4 wv)) (fun _ _ iv _=>us.length - (intOf iv).toNat)
   case atStart=>exact ⟨0,_,by omega,rfl,HRT4.out,HTR.out,HO4.out,HNP4.out,Stays.refl _ _⟩
   case round =>
    obtain ⟨j,vs,hj,rfl,hrt,hdr,hov,hnp,hst⟩:=hrel
    have hzr:=hst.out.size
    have hQr:=stays_q hst.out (keepq HB4.out HQ5.out) (by have:=q_lt HQ5.out;rintro (e|e|e) <;> omega)
    have hYr:=stays_q hst.out (keepq HB4.out HY5.out) (by have:=q_lt HY5.out;rintro (e|e|e) <;> omega)
    have hNr:=stays_q hst.out (keepq HB4.out HN5.out) (by have:=q_lt HN5.out;rintro (e|e|e) <;> omega)
    by_cases hlt2:j<us.length
    ·have hxm:us[j]?.getD 0∈us:=by rw[List.getElem?_eq_getElem hlt2];exact List.getElem_mem hlt2
     have hxb:=HUB.out _ hxm
     obtain ⟨hd1,hd2,hd3⟩:=made_drop hlt2 hdr.out
     have HPS:=Lib.hid (parts_set (c:=cb) (N:=n') (F:=F1) hlt2 (HUA.out.imp fun h=>Int.ne_of_lt h) HUB.out)
     have hown6:wr.ownsRow W3.heap.size 67 2 (.slice ar us.length cr) us.length (pairsL ks):=owns_keep HO5.out (fun k e hl=>(hst.out.block k (by omega) (by
      have h1:=owns_ge HO5.out e
      rintro (e2|e2|e2) <;> omega)).trans (HB4.out.block k hl))
     obtain ⟨gk,hgk,hp0,hp1,hgl2⟩:=owns_pair hown6 hlt2
     rw[HKG.out j hlt2] at hp0 hp1
     simp only at hp0 hp1
     have HIH3:=Lib.hid (HIH2.out _ hxm (i+1+((us.take j).flatMap F0).length) ((us.drop (j+1)).flatMap F0++R))
     have HD1':=Lib.hid hd1
     have HD2:=Lib.hid hd2
     have HD3:=Lib.hid hd3
     have HTLj:=HTL.out (j+1)
     clear hd1 hd2 hd3 hdr hxm
     generalize us[j]?.getD 0=x at hxb HPS hp1 HIH3 HD1' HD2
     have hji:(j:Int)<(us.length:Int):=by omega
     have HJ1:Hid (j+1≤us.length):=hlt2
     have hj256:j<256:=by have:=HULN.out;omega
     obtain ⟨key,hkey⟩:∃key:Nat,cmN cb (n':Int) x=(key:Int):=⟨(cmN cb (n':Int) x).toNat,by unfold cmN;split <;> omega⟩
     have hkn:key<n'+1:=(by have h9:cmN cb (n':Int) x≤n':=(by unfold cmN;split <;> omega);omega)
     have hki:(key:Int)<((n'+1:Nat):Int):=by omega
     rw[hkey,Int.toNat_natCast] at HPS
     have HNU:=Lib.hid (fun W=>number_c (.int .i64 cells) (.slice a n c) (.int .i64 sum) (some ⟨gb,0,none⟩) n' cg ap n' cp cb x W hn2 ⟨by omega,hxb.2⟩)
     rw[cgN_cmN (by omega),hkey] at HNU
     clear hkey
     subst hgk
     have HQr:=Lib.hid hQr
     have HYr:=Lib.hid hYr
     have HNr:=Lib.hid hNr
     have HOV:=Lib.hid hov.out
     have HNP:=Lib.hid hnp.out
     have HST:=Lib.hid hst.out
     have HRTr:=Lib.hid hrt.out
     clear hown6 hQr hYr hNr hov hnp hst hrt
     go_upto_region 9 with fail
     have msz:(wr.alloc (.cells #[.int .i64 (cc:Int),.int .i64 x] 67)).heap.size=wr.heap.size+1:=by simp only[World.size_alloc]
     have mB:Below wr.heap.size wr (wr.alloc (.cells #[.int .i64 (cc:Int),.int .i64 x] 67)):=(Below.refl _ _).alloc (Nat.le_refl _) _
     have mq0:(wr.alloc (.cells #[.int .i64 (cc:Int),.int .i64 x] 67)).heap[wr.heap.size]?=some (.cells #[.int .i64 (cc:Int),.int .i64 x] 67 (0,0)):=by have h:=World.alloc_heap_new wr (.cells #[.int .i64 (cc:Int),.int .i64 x] 67);exact h
     generalize (wr.alloc (.cells #[.int .i64 (cc:Int),.int .i64 x] 67))=W6 at msz mB mq0 ⊢
     have HP6:=Lib.hid mq0
     have hQ6:=keepq mB HQr.out
     have hY6:=keepq mB HYr.out
     have hN6:=keepq mB HNr.out
     have q0:W6.cell? ⟨w.heap.size,0,none⟩=some (.int .i64 cells):=q_cell hQ6 0
     have q1:W6.cell? ⟨w.heap.size,1,none⟩=some (.slice a n c):=q_cell hQ6 1
     have q2:W6.cell? ⟨w.heap.size,2,none⟩=some (.int .i64 sum):=q_cell hQ6 2
     have q3:W6.cell? ⟨w.heap.size,3,none⟩=some (.slice (some ⟨gb,0,none⟩) n' cg):=q_cell hQ6 3
     have ql:=q_lt hQ6
     have y0:W6.cell? ⟨w.heap.size+1,0,none⟩=some (.slice ap n' cp):=q_cell hY6 0
     have y1:W6.cell? ⟨w.heap.size+1,1,none⟩=some (.bool cb):=q_cell hY6 1
     have yl:=q_lt hY6
     have k0:W6.cell? ⟨wr.heap.size,0,none⟩=some (.int .i64 (cc:Int)):=q_cell mq0 0
     have k1:W6.cell? ⟨wr.heap.size,1,none⟩=some (.int .i64 x):=q_cell mq0 1
     have kl:=q_lt mq0
     have HQ6:=Lib.hid hQ6
     have HY6:=Lib.hid hY6
     have HN6:=Lib.hid hN6
     clear mq0 hQ6 hY6 hN6 hp0 hp1
     go_wp2_with fail
     refine (HNU.out W6).mono ?_
     rintro _ w7 ⟨rfl,hb7⟩
     clear q0 q1 q2 q3 ql y0 y1 yl k0 k1 kl
     have hB67:=mB.trans (hb7.mono mB.size)
     have HB67:=Lib.hid hB67
     have hQ7:=keepq hb7 HQ6.out
     have hY7:=keepq hb7 HY6.out
     have hN7:=keepq hb7 HN6.out
     have hP7:=keepq hb7 HP6.out
     have HRT7:=Lib.hid (HRTr.out.keep hB67)
     have n0:w7.cell? ⟨w1.heap.size,0,none⟩=some (.string d.kind):=q_cell hN7 0
     have nl:=q_lt hN7
     have q3:w7.cell? ⟨w.heap.size,3,none⟩=some (.slice (some ⟨gb,0,none⟩) n' cg):=q_cell hQ7 3
     have ql:=q_lt hQ7
     have k0:w7.cell? ⟨wr.heap.size,0,none⟩=some (.int .i64 (cc:Int)):=q_cell hP7 0
     have k1:w7.cell? ⟨wr.heap.size,1,none⟩=some (.int .i64 x):=q_cell hP7 1
     have kl:=q_lt hP7
     obtain ⟨g8,cap8,x8,hv8,_,hc8,hf8,hg8,_⟩:=owns_free HRT7.out.og cc hcn
     simp only[Value.slice.injEq,Option.some.injEq,Addr.mk.injEq,true_and,and_true] at hv8
     obtain ⟨rfl,hcap8⟩:=hv8
     have HQ7:=Lib.hid hQ7
     have HY7:=Lib.hid hY7
     have HP7:=Lib.hid hP7
     clear hcap8 hQ7 hY7 hN7 hP7 hb7 msz hB67
     go_upto_region 13 with fail
     have HRT8:=Lib.hid (HRT7.out.put cc x)
     have t8:=q_other HQ7.out (b':=gb) (i:=cc) (by omega) (.int .i64 x)
     have y8:=q_other HY7.out (b':=gb) (i:=cc) (by omega) (.int .i64 x)
     have p8:=q_other HP7.out (b':=gb) (i:=cc) (by omega) (.int .i64 x)
     have s8:Stays (MT rb gb) wr (w7.setCell ⟨gb,cc,none⟩ (.int .i64 x)):=(Below.stays HB67.out (MT rb gb)).trans (Stays.setCell (S:=MT rb gb) w7 (p:=⟨gb,cc,none⟩) (.inr rfl) _) (fun _ e => .inl e)
     have hl8:w5.heap.size<(w7.setCell ⟨gb,cc,none⟩ (.int .i64 x)).heap.size:=by have:=s8.size;omega
     clear n0 nl q3 ql k0 k1 kl hc8 hf8 hg8
     generalize (w7.setCell ⟨gb,cc,none⟩ (.int .i64 x))=W8 at HRT8 t8 y8 p8 s8 hl8 ⊢
     have q0:W8.cell? ⟨w.heap.size,0,none⟩=some (.int .i64 cells):=q_cell t8 0
     have q1:W8.cell? ⟨w.heap.size,1,none⟩=some (.slice a n c):=q_cell t8 1
     have q2:W8.cell? ⟨w.heap.size,2,none⟩=some (.int .i64 sum):=q_cell t8 2
     have q3:W8.cell? ⟨w.heap.size,3,none⟩=some (.slice (some ⟨gb,0,none⟩) n' cg):=q_cell t8 3
     have ql:=q_lt t8
     have y0:W8.cell? ⟨w.heap.size+1,0,none⟩=some (.slice ap n' cp):=q_cell y8 0
     have y1:W8.cell? ⟨w.heap.size+1,1,none⟩=some (.bool cb):=q_cell y8 1
     have yl:=q_lt y8
     have HT8:=Lib.hid t8
     have HP8:=Lib.hid p8
     have HS8:=Lib.hid s8
     clear t8 y8 p8 s8
     go_wp2_with fail
     refine (HIH3.out W8 HD1'.out HRT8.out).mono ?_
     rintro _ w9 ⟨v9,rfl,hv9,hrt9,hst9⟩
     rw[← HD2.out] at hrt9
     obtain ⟨a9,c9,rfl⟩:=owns_slice4 hv9
     clear q0 q1 q2 q3 ql y0 y1 yl
     have hS9:Stays (MT rb gb) wr w9:=HS8.out.trans hst9 (fun _ e => .inl e)
     have hov9:=owns_keep HOV.out (fun k e hl=>hS9.block k hl (by simp only[Value.ownBlock,Option.some.injEq] at e;rintro (e2|e2) <;> omega))
     have hnp9:=HNP.out.stays hS9 (fun k cur hb _=>by rintro (e2|e2) <;> omega)
     obtain ⟨g10,cap10,x10,hv10,_,hc10,hf10,hg10,_⟩:=owns_free (owns_base hov9 (Nat.zero_le _)) key hkn
     simp only[Value.slice.injEq,Option.some.injEq,Addr.mk.injEq,true_and,and_true] at hv10
     obtain ⟨e10,hcap10⟩:=hv10
     subst e10
     obtain ⟨gq,curq,eq,_,hhq⟩:=owns_blk hov9 (by omega)
     simp only[Option.some.injEq,Addr.mk.injEq,and_true] at eq
     subst eq
     have hov10:=owns_set hov9 key (.slice a9 (F1 x).length c9)
     have hnp10:NP (w9.setCell ⟨w5.heap.size,key,none⟩ (.slice a9 (F1 x).length c9)) w5.heap.size (vs.set key (.slice a9 (F1 x).length c9)) ((partsL cb n' (us.take j) F1).set key (F1 x)) :=
      (hnp9.set key (owns_base hv9 (by omega))).stays (Stays.setCell (S:=fun k=>k=w5.heap.size) w9 (p:=⟨w5.heap.size,key,none⟩) rfl _) (fun k cur _ hh e=>by
       subst e
       rw[hhq] at hh
       simp at hh)
     rw[HPS.out] at hnp10
     have hT10:=q_other (stays_q hst9 HT8.out (by rintro (e|e) <;> omega)) (b':=w5.heap.size) (i:=key) (by have:=q_lt HQ5.out;omega) (.slice a9 (F1 x).length c9)
     have hP10:=q_other (stays_q hst9 HP8.out (by rintro (e|e) <;> omega)) (b':=w5.heap.size) (i:=key) (by omega) (.slice a9 (F1 x).length c9)
     have hrt10:=hrt9.other (b:=w5.heap.size) (by have:=HRT5.out.below.size;omega) (by have:=q_lt HRT5.out.rd;omega) (by omega) key (.slice a9 (F1 x).length c9)
     have s10:Stays (MT3 rb gb w5.heap.size) W4 (w9.setCell ⟨w5.heap.size,key,none⟩ (.slice a9 (F1 x).length c9)):=(HST.out.trans (hS9.mono (T:=MT3 rb gb w5.heap.size) (fun k e=>e.elim .inl (fun e => .inr (.inl e)))) (fun _ e => .inl e)).trans (Stays.setCell (S:=MT3 rb gb w5.heap.size) w9 (p:=⟨w5.heap.size,key,none⟩) (.inr (.inr rfl)) _) (fun _ e => .inl e)
     have HRT10:=Lib.hid hrt10
     have HOV10:=Lib.hid hov10
     have HNP10:=Lib.hid hnp10
     have HS10:=Lib.hid s10
     clear hcap10 hhq hov9 hnp9 hrt9 hrt10 hst9 hS9 hov10 hnp10 s10 hv9
     go_upto_region 14 with fail
     clear hc10 hf10 hg10
     generalize (w9.setCell ⟨w5.heap.size,key,none⟩ (.slice a9 (F1 x).length c9))=W10 at HRT10 HOV10 HNP10 hT10 hP10 HS10 ⊢
     have z3:W10.cell? ⟨w.heap.size,3,none⟩=some (.slice (some ⟨gb,0,none⟩) n' cg):=q_cell hT10 3
     have zl:=q_lt hT10
     have k0:W10.cell? ⟨wr.heap.size,0,none⟩=some (.int .i64 (cc:Int)):=q_cell hP10 0
     have kl:=q_lt hP10
     obtain ⟨g7,cap7,x7,hv7,_,hc7,hf7,hg7,_⟩:=owns_free HRT10.out.og cc hcn
     simp only[Value.slice.injEq,Option.some.injEq,Addr.mk.injEq,true_and,and_true] at hv7
     obtain ⟨rfl,hcap7⟩:=hv7
     clear hcap7 hT10 hP10
     have HRT11:=Lib.hid (HRT10.out.put cc 0)
     rw[List.set_set,set_back HC3.out] at HRT11
     have HS11:Hid (Stays (MT3 rb gb w5.heap.size) W4 (W10.setCell ⟨gb,cc,none⟩ (.int .i64 0))):=HS10.out.trans (Stays.setCell (S:=MT3 rb gb w5.heap.size) W10 (p:=⟨gb,cc,none⟩) (.inr (.inl rfl)) _) (fun _ e => .inl e)
     have HOV11:Hid ((W10.setCell ⟨gb,cc,none⟩ (.int .i64 0)).ownsRow w5.heap.size 44 1 (.slice (some ⟨w5.heap.size,0,none⟩) (n'+1) (n'+1)) (n'+1) (vs.set key (.slice a9 (F1 x).length c9))):=owns_keep HOV10.out (fun k e _=>Below.heap_setCell _ _ _ _ (by simp only[Value.ownBlock,Option.some.injEq] at e;show k≠gb;omega))
     have HNP11:Hid (NP (W10.setCell ⟨gb,cc,none⟩ (.int .i64 0)) w5.heap.size (vs.set key (.slice a9 (F1 x).length c9)) (partsL cb n' (us.take (j+1)) F1)):=HNP10.out.stays (Stays.setCell (S:=fun k=>k=gb) W10 (p:=⟨gb,cc,none⟩) rfl _) (fun k cur hb _ e=>by omega)
     go_wp2_with fail
     go_roundw
     case rel=>exact ⟨j+1,_,HJ1.out,by go_num,HRT11.out,HD3.out,HOV11.out,HNP11.out,HS11.out⟩
     case measure=>have:=HJ1.out;simp[intOf];omega
    ·have hji:¬(j:Int)<(us.length:Int):=by omega
     have e:j=us.length:=by omega
     subst e
     rw[List.take_length] at hrt hnp
     have HIX:Hid (i+1+(us.flatMap F0).length=i+(madeT ls sum (f+1) g).length):=by unfold Hid;rw[HLEN.out];omega
     rw[HIX.out] at hrt
     clear HIX hdr
     have HRTr:=Lib.hid hrt.out
     have HOV:=Lib.hid hov.out
     have HNP:=Lib.hid hnp.out
     have HSWr:=Lib.hid (HSW.out wr hst.out)
     have y0:wr.cell? ⟨w.heap.size+1,0,none⟩=some (.slice ap n' cp):=q_cell hYr 0
     have yl:=q_lt hYr
     have n0:wr.cell? ⟨w1.heap.size,0,none⟩=some (.string d.kind):=q_cell hNr 0
     have n1:wr.cell? ⟨w1.heap.size,1,none⟩=some (.int .i64 d.cell):=q_cell hNr 1
     rw[HDC.out] at n1
     have n2:=q_free hNr 1
     have nl:=q_lt hNr
     obtain ⟨bp,op,rfl,hbp,hcp⟩:=(HP.out.mono HRTr.out.below).2 cc hcn
     have HNr:=Lib.hid hNr
     generalize hpc:p[cc]?.getD 0=pc at hcp HFT
     clear hpc hrt hov hnp hst hQr hYr
     go_upto_region 19 with fail
     have n9:=q_set (i:=1) hNr (.int .i64 pc)
     have hst9:Stays (fun k=>k=w1.heap.size) wr (wr.setCell ⟨w1.heap.size,1,none⟩ (.int .i64 pc)):=Stays.setCell (S:=fun k=>k=w1.heap.size) wr (p:=⟨w1.heap.size,1,none⟩) rfl _
     have hrt9:=HRTr.out.other (b:=w1.heap.size) (by have:=HRT1.out.below.size;omega) (by omega) (by omega) 1 (.int .i64 pc)
     have hov9:(wr.setCell ⟨w1.heap.size,1,none⟩ (.int .i64 pc)).ownsRow w5.heap.size 44 1 (.slice (some ⟨w5.heap.size,0,none⟩) (n'+1) (n'+1)) (n'+1) vs:=owns_keep HOV.out (fun k e _=>Below.heap_setCell _ _ _ _ (by have:=q_lt HN5.out;simp only[Value.ownBlock,Option.some.injEq] at e;show k≠w1.heap.size;omega))
     have hnp9:NP (wr.setCell ⟨w1.heap.size,1,none⟩ (.int .i64 pc)) w5.heap.size vs (partsL cb n' us F1):=HNP.out.keep (fun k cur hb hl hh=>Below.heap_setCell _ _ _ _ (by
      show k≠w1.heap.size
      have:=q_lt HN5.out
      omega))
     have hsw9:Stays (MT rb gb) w (wr.setCell ⟨w1.heap.size,1,none⟩ (.int .i64 pc)):=HSWr.out.trans hst9 (fun k e => .inr (by have:=HR0.out.below.size;omega))
     clear y0 yl n0 n1 n2 nl hst9
     generalize (wr.setCell ⟨w1.heap.size,1,none⟩ (.int .i64 pc))=W9 at n9 hrt9 hov9 hnp9 hsw9 ⊢
     replace n9:W9.heap[w1.heap.size]?=some (.cells #[.string d.kind,.int .i64 pc,.int .i64 d.line,.int .i64 d.number,.int .i64 d.kids] 104 (0,0)):=n9
     have n0:W9.cell? ⟨w1.heap.size,0,none⟩=some (.string d.kind):=q_cell n9 0
     have n1:W9.cell? ⟨w1.heap.size,1,none⟩=some (.int .i64 pc):=q_cell n9 1
     have n2:W9.cell? ⟨w1.heap.size,2,none⟩=some (.int .i64 d.line):=q_cell n9 2
     have n3:W9.cell? ⟨w1.heap.size,3,none⟩=some (.int .i64 d.number):=q_cell n9 3
     have n4:W9.cell? ⟨w1.heap.size,4,none⟩=some (.int .i64 d.kids):=q_cell n9 4
     have nl:=q_lt n9
     have hvl:=hov9.1
     have hln9:=(hov9.lt w5.heap.size rfl).2
     have hz9:=hsw9.size
     have HVL:Hid (vs.length=(n'+1)*1):=hvl
     have HOV9:=Lib.hid hov9
     have HNP9:=Lib.hid hnp9
     have HRT9:=Lib.hid hrt9
     have HSW9:=Lib.hid hsw9
     clear n9 hvl hov9 hnp9 hrt9 hsw9
     obtain ⟨W12,hW12⟩:∃W12,W12=(W9.alloc (.cells #[.string d.kind,.int .i64 pc,.int .i64 d.line,.int .i64 d.number,.int .i64 d.kids] 104)).alloc (.cells #[.slice (some ⟨W9.heap.size,0,none⟩) 1 1] 44):=⟨_,rfl⟩
     have hB12:Below W9.heap.size W9 W12:=by rw[hW12];exact ((Below.refl W9.heap.size W9).alloc (Nat.le_refl _) _).alloc (by simp) _
     have hsz12:W12.heap.size=W9.heap.size+2:=by rw[hW12];simp only[World.size_alloc]
     have hown12:W12.ownsRow W9.heap.size 44 1 (.slice (some ⟨W9.heap.size+1,0,none⟩) 1 1) 1 [.slice (some ⟨W9.heap.size,0,none⟩) 1 1]:=by
      have h:=own_new (W9.alloc (.cells #[.string d.kind,.int .i64 pc,.int .i64 d.line,.int .i64 d.number,.int .i64 d.kids] 104)) (.slice (some ⟨W9.heap.size,0,none⟩) 1 1) W9.heap.size 44 (by simp)
      rw[hW12]
      simpa only[World.size_alloc] using h
     have hnod12:W12.ownsRow W9.heap.size 104 5 (.slice (some ⟨W9.heap.size,0,none⟩) 1 1) 1 (ndsL [⟨d.kind,pc,d.line,d.number,d.kids⟩]):=by
      refine ⟨rfl,.inr ⟨W9.heap.size,1,#[.string d.kind,.int .i64 pc,.int .i64 d.line,.int .i64 d.number,.int .i64 d.kids],rfl,Nat.le_refl _,?_,Nat.le_refl _,by unfold maxLen;omega,rfl,rfl⟩⟩
      rw[hW12]
      exact (Below.heap_alloc _ _ _ (by simp only[World.size_alloc];omega)).trans (World.alloc_heap_new _ _)
     have hov12:=owns_keep HOV9.out (fun k e hl=>hB12.block k hl)
     have hsrc12:SrcOk W12 (some ⟨w5.heap.size,0,none⟩) (n'+1) vs := .inl ⟨_,rfl,hov12.cells rfl⟩
     have hone:=HNP9.out.one
     have hnp12:=HNP9.out.keep (fun k cur _ hl _=>hB12.block k hl)
     have hvl1:vs.length=n'+1:=by rw[HVL.out];omega
     have HW12:=Lib.hid hW12
     have HVL1:=Lib.hid hvl1
     have HNOD12:=Lib.hid hnod12
     have HNP12:=Lib.hid hnp12
     have HB12:=Lib.hid hB12
     rw[hW12] at hown12 hsrc12 hsz12
     clear hW12 hvl1 hnod12 hnp12 hB12 hov12 HVL
     have HSZ12:=Lib.hid hsz12
     clear hsz12
     go_wp2_with (first|(at_builtin;refine wpList_append_any _ rfl _ _ 202 rfl W9.heap.size 44 i2 (.slice none 0 0) 24 Tryz.underlying202 hi hz0 hz1 hz2 rfl (.slice (some ⟨W9.heap.size+1,0,none⟩) 1 1) 1 [.slice (some ⟨W9.heap.size,0,none⟩) 1 1] rfl hown12 (by rw[HSZ12.out];omega) _ _ _ vs rfl HVL1.out hsrc12 hone (by unfold maxLen;omega) (by omega) ?_;intro v13 w13 hown13 hst13 hk13))
     rw[← HW12.out] at hst13 hown12
     obtain ⟨a13,c13,rfl⟩:=owns_shape hown13
     have hsz12':W12.heap.size=W9.heap.size+2:=by rw[HW12.out];exact HSZ12.out
     obtain ⟨gq,curq,eq,_,hhq⟩:=owns_blk hown12 (by omega)
     simp only[Option.some.injEq,Addr.mk.injEq,and_true] at eq
     subst eq
     have hcons:=HNP12.out.cons (T:=[⟨d.kind,pc,d.line,d.number,d.kids⟩]) (owns_base HNOD12.out (by omega))
     have hnp13:=hcons.stays hst13 (fun k cur _ hh e=>by
      simp only[Value.ownBlock,Option.some.injEq] at e
      subst e
      rw[hhq] at hh
      simp at hh)
     have hb13:Below W9.heap.size W12 w13:=hst13.below (by omega) (fun k e=>by simp only[Value.ownBlock,Option.some.injEq] at e;omega)
     have hb913:Below W9.heap.size W9 w13:=HB12.out.trans hb13
     have hflat:([⟨d.kind,pc,d.line,d.number,d.kids⟩] :: partsL cb n' us F1).flatten=movT ls sum cb p (f+1) g:=by
      rw[HFT.out,List.flatten_cons,HDV.out];rfl
     have hml:(movT ls sum cb p (f+1) g).length≤2000:=by
      rw[movT_len,HLEN.out]
      have h1:(T.drop (i+1)).length=(us.flatMap F0++R).length:=by rw[HTR.out]
      rw[List.length_drop,List.length_append] at h1
      have:=htl.out
      omega
     have hnc:=hnp13.nc hown13 (by omega) (fun T hT=>by
      have h1:=(List.sublist_flatten_of_mem hT).length_le
      rw[hflat] at h1
      omega)
     have HCC:=Lib.hid (nconcat_c a13 _ c13 _ w13 hnc.1 (by rw[hflat];omega))
     rw[hflat] at HCC
     have HB913:=Lib.hid hb913
     clear hflat hml hnc hb913 hb13 hnp13 hcons hhq hst13 hk13 hown13 hown12 hsrc12
     go_wp2_with fail
     refine HCC.out.mono ?_
     rintro _ w14 ⟨v14,rfl,hown14,hb14⟩
     have hB914:Below W9.heap.size W9 w14:=HB913.out.trans (hb14.mono HB913.out.size)
     have HO14:Hid (w14.ownsRow w.heap.size 104 5 v14 (movT ls sum cb p (f+1) g).length (ndsL (movT ls sum cb p (f+1) g))):=owns_base hown14 (by have:=HB913.out.size;omega)
     clear hown14
     go_wp2_with fail
     go_ret
     exact ⟨_,rfl,HO14.out,HRT9.out.keep hB914,HSW9.out.trans (Below.stays hB914 (MT rb gb)) (fun _ e => .inl e)⟩
end
end Go.Proofs.YtaadpihbjhachaaGreat
