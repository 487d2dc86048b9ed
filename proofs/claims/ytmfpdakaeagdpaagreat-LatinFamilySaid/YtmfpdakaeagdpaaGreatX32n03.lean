/- Texts J123 to J169 of this proof, in one file. -/
import Derived.Test.YtmfpdakaeagdpaaGreatW01
import Derived.Test.YtmfpdakaeagdpaaGreatW02
import Derived.Test.YtmfpdakaeagdpaaGreatW03
import Derived.Test.YtmfpdakaeagdpaaGreatW04
import Derived.Test.YtmfpdakaeagdpaaGreatW05
import Derived.Test.YtmfpdakaeagdpaaGreatW06
import Derived.Test.YtmfpdakaeagdpaaGreatW07
import Derived.Test.YtmfpdakaeagdpaaGreatW08
import Derived.Test.YtmfpdakaeagdpaaGreatW09
import Derived.Test.YtmfpdakaeagdpaaGreatW10
import Derived.Test.YtmfpdakaeagdpaaGreatW11
import Derived.Test.YtmfpdakaeagdpaaGreatW12
import Derived.Test.YtmfpdakaeagdpaaGreatW13
import Derived.Test.YtmfpdakaeagdpaaGreatW14
import Derived.Test.YtmfpdakaeagdpaaGreatW15
import Derived.Test.YtmfpdakaeagdpaaGreatW16
import Derived.Test.YtmfpdakaeagdpaaGreatW17
import Derived.Test.YtmfpdakaeagdpaaGreatW18
import Derived.Test.YtmfpdakaeagdpaaGreatW19
import Derived.Test.YtmfpdakaeagdpaaGreatW20
import Derived.Test.YtmfpdakaeagdpaaGreatW21
import Derived.Test.YtmfpdakaeagdpaaGreatW22
import Derived.Test.YtmfpdakaeagdpaaGreatW23
import Derived.Test.YtmfpdakaeagdpaaGreatW24
import Derived.Test.YtmfpdakaeagdpaaGreatW25
import Derived.Test.YtmfpdakaeagdpaaGreatW26
import Derived.Test.YtmfpdakaeagdpaaGreatW27
import Derived.Test.YtmfpdakaeagdpaaGreatX32n01
import Derived.Test.YtmfpdakaeagdpaaGreatX32n02
import Derived.Below
import Derived.BigFrame
import Derived.BigQuiet
import Derived.ChangeArms
import Derived.Deep.CutBlock
import Derived.Deep.CutRange
import Derived.Deep.LoopGhost
import Derived.Deep.Matrix
import Derived.Deep.Quiet
import Derived.Deep.RegionHeld3
import Derived.DeepKeys4
import Derived.KernelRfl
import Derived.Laws.BitsAllLaws
import Derived.Laws.EntriesVeiled
import Derived.Laws.IdiomArrays
import Derived.Lib.AppendZeros
import Derived.Lib.Hide
import Derived.Lib.SlKeysI
import Derived.Lib.SliceRun
import Derived.Lib.SmallJoins
import Derived.LoopIn
import Derived.LoopNIn
import Derived.Maps.AppendAt
import Derived.Maps.OwnIn
import Derived.Maps.OwnSet
import Derived.OneCell
import Derived.OrdersHeld
import Derived.OrdersIn
import Derived.OwnWalkIn
import Derived.ProofKit
import Derived.RangeFuncBound
import Derived.RangeFuncBox
import Derived.RangeFuncCalls
import Derived.RangeFuncLeaves
import Derived.RangeFuncNested
import Derived.RangeFuncWrites
import Derived.Shelf.Abstract
import Derived.Shelf.SortM.Plain
import Derived.SizedLaws
import Derived.Still
import Derived.TacticsIn
import Derived.TacticsInMore
import Derived.Test.YtmfpdakaeagdpaaGreatProg
import Derived.WalkKit
import Derived.WalkLawsBesides
import Derived.WalkSpells
import Derived.WideKeyPair
namespace Go.Proofs.YtmfpdakaeagdpaaGreat
set_option maxRecDepth 100000
set_option maxHeartbeats 16000000
section
theorem lat_sqE {n:Nat} {cs:List Int} (L:Latin n cs):sqE 0 (n:Int) (n:Int) cs=0:=by
 have h1:sqB (n:Int) (n:Int) cs=true:=by
  unfold sqB
  rw[L.len,← Int.natCast_mul]
  simp only[Bool.and_eq_true,decide_eq_true_eq]
  exact ⟨⟨⟨trivial,by have:=L.pos;omega⟩,by have:=L.le;omega⟩,trivial⟩
 unfold sqE
 rw[if_pos h1]
 unfold symE
 rw[if_neg,if_neg]
 ·rw[Int.toNat_natCast,L.once];decide
 ·rw[Bool.not_eq_true,List.any_eq_false]
  intro x hx
  have:=L.num x hx
  simp only[Bool.or_eq_true,decide_eq_true_eq,Int.toNat_natCast]
  omega
theorem Latin.ron {n:Nat} {cs:List Int} (L:Latin n cs) {i x:Nat} (hi:i<n) (hx:x<n):∃j,j<n∧Go.Proofs.YtmfpdakaeagdpaaGreat.nat cs (i*n+j)=x:=by
 obtain ⟨j,hj,e⟩:=L.row hi (x:=(x:Int)) (by omega) (by omega)
 exact ⟨j,hj,by unfold Go.Proofs.YtmfpdakaeagdpaaGreat.nat;rw[e];exact Int.toNat_natCast x⟩
theorem ortho_iff {n:Nat} {cs ds:List Int} (L:Latin n cs) (D:Latin n ds):Ortho cs ds↔∀i j i' j',i<n→j<n→i'<n→j'<n→nat cs (i*n+j)=nat cs (i'*n+j')→nat ds (i*n+j)=nat ds (i'*n+j')→i=i'∧j=j':=by
 constructor
 ·intro h i j i' j' hi hj hi' hj' h1 h2
  have e1:=L.nat (gcell_lt hi hj)
  have e2:=L.nat (gcell_lt hi' hj')
  have e3:=D.nat (gcell_lt hi hj)
  have e4:=D.nat (gcell_lt hi' hj')
  have hp:pairEq cs ds (i*n+j) (i'*n+j')=true:=by
   unfold pairEq
   rw[e1.1,e2.1,e3.1,e4.1,h1,h2];simp
  have hp':pairEq cs ds (i'*n+j') (i*n+j)=true:=by
   unfold pairEq
   rw[e1.1,e2.1,e3.1,e4.1,h1,h2];simp
  have he:i*n+j=i'*n+j':=by
   rcases Nat.lt_trichotomy (i*n+j) (i'*n+j') with e|e|e
   ·rw[h _ _ e (by rw[L.len];exact gcell_lt hi' hj')] at hp;cases hp
   ·exact e
   ·rw[h _ _ e (by rw[L.len];exact gcell_lt hi hj)] at hp';cases hp'
  have d1:=gcell_div (i:=i) hj
  have d2:=gcell_div (i:=i') hj'
  rw[he] at d1
  exact ⟨by omega,by omega⟩
 ·intro h c d hcd hd
  rw[L.len] at hd
  rw[Bool.eq_false_iff]
  intro hp
  unfold pairEq at hp
  rw[Bool.and_eq_true,beq_iff_eq,beq_iff_eq] at hp
  obtain ⟨a1,a2,a3⟩:=cell_parts (show c<n*n by omega)
  obtain ⟨b1,b2,b3⟩:=cell_parts hd
  have:=h (c / n) (c % n) (d / n) (d % n) a1 a2 b1 b2 (by rw[← a3,← b3];unfold nat;rw[hp.1]) (by rw[← a3,← b3];unfold nat;rw[hp.2])
  rw[this.1,this.2] at a3
  omega
end
section
open Go Go.RowKit
attribute [local go_sem] over_cell
attribute [local go_sem] Oper.semAt_some
theorem firstL_z {l:List Int}:firstL (0 :: l)=firstL l:=by
 rw[firstL];simp
end
section
open Go Go.RowKit
theorem ge_of {w:World} {R:Int} {X:List Int} {er:Int} {e:Ending} {w':World} (hg:GridE w R R X er e w') (hl:X.length≤1000):∃a2 c2,e = .returned (.tuple #[.agg #[.int .i64 R,.int .i64 R,.slice a2 X.length c2],.int .i64 er])∧IC w' a2 X.length X∧Below w.heap.size w w':=by
 obtain ⟨a2,c2,he,hi,_,hb⟩:=gv_of hg hl
 exact ⟨a2,c2,he,hi,hb⟩
end
section
open Go Go.RowKit
attribute [local go_sem] over_cell
attribute [local go_sem] Oper.semAt_some
theorem rprime_c (q:Nat) (w:World) (hq:q≤16) :
  Calls Tryz.prog 171 #[.int .i64 (q:Int)] w fun e w'=>e = .returned (.bool (primeB q))∧Below w.heap.size w w':=by
 obtain ⟨R,hR⟩:∃R,R=primeB q:=⟨_,rfl⟩
 rw[← hR]
 have HR:=Lib.hid hR
 clear hR
 by_cases hq2:q<2
 ·have hqI:(q:Int)<2:=by omega
  have HN:Hid (R=false):=by unfold Hid;rw[HR.out];unfold primeB;rw[decide_eq_false (by omega)];rfl
  go_enter Tryz.func171,Tryz.ntmps171
  go_wp2_with fail
  refine bodyPost_ret (v := .bool false) ?_ rfl ⟨by rw[HN.out],Below.refl _ _⟩
  simp[results,Tryz.f171,go_sem]
 have hqI:¬(q:Int)<2:=by omega
 go_enter Tryz.func171,Tryz.ntmps171
 go_wp2_with fail
 go_loopw [2,3] (fun _ s3 wr=>∃i:Nat,2≤i∧i≤5∧s3 = .int .i64 (i:Int)∧Hid (∀j:Fin 6,2≤j.val→j.val<i→q % j.val≠0)∧wr=w) (fun _ s3 _=>6 - (intOf s3).toNat)
 case atStart=>exact ⟨2,by omega,by omega,rfl,fun j h1 h2=>absurd h2 (by omega),rfl⟩
 case round =>
  obtain ⟨i,hi1,hi2,rfl,hno,rfl⟩:=hrel
  have hii:i*i≤5*5:=Nat.mul_le_mul hi2 hi2
  have e1:(i:Int)*(i:Int)=((i*i:Nat):Int):=(Int.natCast_mul _ _).symm
  have e2:(q:Int) % (i:Int)=((q % i:Nat):Int):=(Int.natCast_emod _ _).symm
  have hne:(i:Int)≠0:=by omega
  by_cases hlt:i*i≤q
  ·have hi4:i≤4:=by
    by_cases e:i≤4
    ·exact e
    ·have:i=5:=by omega
     subst this;omega
   have hm:q % i≤q:=Nat.mod_le _ _
   by_cases h0:q % i=0
   ·have HN:Hid (R=false):=by unfold Hid;rw[HR.out];exact prime_no ⟨q,by omega⟩ ⟨i,by omega⟩ hi1 hlt h0
    generalize i*i=s at e1 hlt hii
    generalize q % i=m at e2 h0
    subst h0
    have hsI:(s:Int)≤(q:Int):=by omega
    go_wp2_with fail
    refine bodyPost_ret (v := .bool false) ?_ rfl ⟨by rw[HN.out],Below.refl _ _⟩
    simp[results,Tryz.f171,go_sem]
   ·have HN:Hid (∀j:Fin 6,2≤j.val→j.val<i+1→q % j.val≠0):=fun j h1 h2=>by
     by_cases e:j.val=i
     ·rw[e];exact h0
     ·exact hno.out j h1 (by omega)
    generalize i*i=s at e1 hlt hii
    generalize q % i=m at e2 h0 hm
    have hsI:(s:Int)≤(q:Int):=by omega
    have hmI:¬(m:Int)=0:=by omega
    go_wp2_with fail
    go_roundw
    case rel=>exact ⟨i+1,by omega,by omega,by go_num,HN,trivial⟩
    case measure=>simp[intOf];omega
  ·have HN:Hid (R=decide (2≤q)):=by unfold Hid;rw[HR.out];exact prime_end ⟨q,by omega⟩ ⟨i,by omega⟩ hi1 (fun j h1 h2=>hno.out j h1 h2) (by show q<i*i;omega)
   have HD:Hid (R=true):=by unfold Hid;rw[HN.out,decide_eq_true_eq];omega
   generalize i*i=s at e1 hlt hii
   have hsI:¬(s:Int)≤(q:Int):=by omega
   go_wp2_with fail
   refine bodyPost_ret (v := .bool true) ?_ rfl ⟨by rw[HD.out],Below.refl _ _⟩
   simp[results,Tryz.f171,go_sem]
def bseR (n:Nat):Int:=if n=4∨n=8∨n=16 then 2 else if n=9 then 3 else if primeB n=true then (n:Int) else 0
theorem rbase_c (n:Nat) (hn:n≤16) (w:World):Calls Tryz.prog 135 #[.int .i64 (n:Int)] w fun e w'=>e = .returned (.int .i64 (bseR n))∧Below w.heap.size w w':=by
 by_cases h4:n=4
 ·subst h4
  go_enter Tryz.func135,Tryz.ntmps135
  go_wp2_with fail
  refine bodyPost_ret (v := .int .i64 2) ?_ rfl ⟨rfl,Below.refl _ _⟩
  simp[results,Tryz.f135,go_sem]
 by_cases h8:n=8
 ·subst h8
  go_enter Tryz.func135,Tryz.ntmps135
  go_wp2_with fail
  refine bodyPost_ret (v := .int .i64 2) ?_ rfl ⟨rfl,Below.refl _ _⟩
  simp[results,Tryz.f135,go_sem]
 by_cases h16:n=16
 ·subst h16
  go_enter Tryz.func135,Tryz.ntmps135
  go_wp2_with fail
  refine bodyPost_ret (v := .int .i64 2) ?_ rfl ⟨rfl,Below.refl _ _⟩
  simp[results,Tryz.f135,go_sem]
 by_cases h9:n=9
 ·subst h9
  go_enter Tryz.func135,Tryz.ntmps135
  go_wp2_with fail
  refine bodyPost_ret (v := .int .i64 3) ?_ rfl ⟨rfl,Below.refl _ _⟩
  simp[results,Tryz.f135,go_sem]
 have HP:=Lib.hid (fun W=>rprime_c n W hn)
 have hb:bseR n=if primeB n=true then (n:Int) else 0:=by unfold bseR;rw[if_neg (by omega),if_neg h9]
 rw[hb]
 have d4:((n:Int)==4)=false:=by simpa using (show ¬(n:Int)=4 by omega)
 have d8:((n:Int)==8)=false:=by simpa using (show ¬(n:Int)=8 by omega)
 have d16:((n:Int)==16)=false:=by simpa using (show ¬(n:Int)=16 by omega)
 have d9:((n:Int)==9)=false:=by simpa using (show ¬(n:Int)=9 by omega)
 clear hb
 cases hp:primeB n with
 | true =>
  rw[hp] at HP
  rw[if_pos rfl]
  clear hp h4 h8 h16 h9
  go_enter Tryz.func135,Tryz.ntmps135
  go_wp2_with (first|(go_at_call 171;refine (HP.out _).mono ?_;rintro _ w5 ⟨rfl,hb5⟩)|fail)
  refine bodyPost_ret (v := .int .i64 (n:Int)) ?_ rfl ⟨rfl,hb5⟩
  simp[results,Tryz.f135,go_sem]
 | false =>
  rw[hp] at HP
  rw[if_neg (by simp)]
  clear hp h4 h8 h16 h9
  go_enter Tryz.func135,Tryz.ntmps135
  go_wp2_with (first|(go_at_call 171;refine (HP.out _).mono ?_;rintro _ w5 ⟨rfl,hb5⟩)|fail)
  refine bodyPost_ret (v := .int .i64 0) ?_ rfl ⟨rfl,hb5⟩
  simp[results,Tryz.f135,go_sem]
end
section
open Go Go.RowKit
attribute [local go_sem] over_cell
attribute [local go_sem] Oper.semAt_some
def fieE (n:Int):Int:=if ordE n=0 then whenV (!fldB n.toNat) 15 else ordE n
theorem ck_any (n:Int) (er:Int) (he:fieE n=er) (h0:er≠0):∀W,Calls Tryz.prog 130 #[.int .i64 n] W fun e w'=>∃(x0 x1:Int) (a:Option Addr) (m c:Nat),e = .returned (.tuple #[.agg #[.int .i64 x0,.int .i64 x1,.slice a m c],.int .i64 er])∧Below W.heap.size W w':=fun W=>by
 unfold fieE at he
 by_cases ho:ordE n=0
 ·rw[if_pos ho] at he
  have hn:1≤n∧n≤16:=by
   unfold ordE at ho
   by_cases h1:1≤n
   ·by_cases h2:n≤16
    ·exact ⟨h1,h2⟩
    ·rw[decide_eq_false h2,Bool.and_false] at ho;cases ho
   ·rw[decide_eq_false h1,Bool.false_and] at ho;cases ho
  obtain ⟨N,rfl⟩:∃N:Nat,n=(N:Int):=⟨n.toNat,by omega⟩
  rw[Int.toNat_natCast] at he
  have h9:=ckfield_ok N (by omega) (by omega) W
  rw[he] at h9
  exact h9.mono fun e w' ⟨a,c,h2,_,h3⟩=>⟨_,_,_,_,_,h2,h3⟩
 ·rw[if_neg ho] at he
  exact (ckfield_bad n W er he h0).mono fun e w' ⟨h2,h3⟩=>⟨0,0,none,0,0,h2,h3⟩
theorem field_any (n:Int) (er:Int) (he:fieE n=er) (h0:er≠0) (w:World):Calls Tryz.prog 56 #[.int .i64 n] w (TwoG w 0 [] [] er):=field_bad n w er h0 (fun W _=>ck_any n er he h0 W)
theorem family_any (n:Int) (er:Int) (he:fieE n=er) (h0:er≠0) (w:World):Calls Tryz.prog 57 #[.int .i64 n] w (GridsE w 0 [] er):=family_bad n w er h0 (fun W _=>ck_any n er he h0 W)
end
section
open Go Go.RowKit
attribute [local go_sem] over_cell
attribute [local go_sem] Oper.semAt_some
theorem rgcd_c (a b:Nat) (w:World) (ha:a≤2000000000) (hb:b≤2000000000) :
  Calls Tryz.prog 134 #[.int .i64 (a:Int),.int .i64 (b:Int)] w fun e w'=>e = .returned (.int .i64 ((Nat.gcd a b:Nat):Int))∧Below w.heap.size w w':=by
 obtain ⟨G,hG⟩:∃G,G=Nat.gcd a b:=⟨_,rfl⟩
 rw[← hG]
 have HG:=Lib.hid hG
 clear hG
 go_enter Tryz.func134,Tryz.ntmps134
 go_wp2
 go_loopw [0,1] (fun x y wr=>∃a' b':Nat,x = .int .i64 (a':Int)∧y = .int .i64 (b':Int)∧a'≤2000000000∧b'≤2000000000∧Hid (G=Nat.gcd a' b')∧Below w.heap.size w wr) (fun _ y _=>(intOf y).toNat)
 case atStart=>exact ⟨a,b,rfl,rfl,ha,hb,HG.out,Below.refl _ _⟩
 case round =>
  obtain ⟨a',b',rfl,rfl,ha',hb',hG',hbr⟩:=hrel
  by_cases h0:b'=0
  ·subst h0
   have hz:Hid ((G:Int)=(a':Int)):=by unfold Hid;rw[hG'.out,Nat.gcd_zero_right]
   have h00:¬(0:Int)<((0:Nat):Int):=by omega
   go_wp2
   go_ret
   exact ⟨ret_int (by rw[hz.out]),hbr⟩
  ·have h00:(0:Int)<(b':Int):=by omega
   have hne:(b':Int)≠0:=by omega
   have em:(a':Int) % (b':Int)=((a' % b':Nat):Int):=(Int.natCast_emod _ _).symm
   have hs:=Nat.mod_lt a' (show 0<b' by omega)
   have HT:Hid (Nat.gcd b' (a' % b')=Nat.gcd a' b'):=by unfold Hid;rw[Nat.gcd_comm,← Nat.gcd_rec,Nat.gcd_comm]
   generalize a' % b'=m at em hs HT
   go_wp2
   go_region
   go_wp2
   go_roundw
   case rel=>exact ⟨b',m,rfl,by first|rfl|(rw[em]),hb',by omega,by rw[hG'.out];exact HT.out.symm,keep_drew hbr⟩
   case measure=>simp[intOf];omega
theorem rGcd_c (a b:Nat) (w:World) (ha:a≤2000000000) (hb:b≤2000000000) :
  Calls Tryz.prog 61 #[.int .i64 (a:Int),.int .i64 (b:Int)] w fun e w'=>e = .returned (.int .i64 ((Nat.gcd a b:Nat):Int))∧Below w.heap.size w w':=by
 have HG:=Lib.hid (fun W=>rgcd_c a b W ha hb)
 have ea:max (a:Int) (-(a:Int))=(a:Int):=by omega
 have eb:max (b:Int) (-(b:Int))=(b:Int):=by omega
 generalize Nat.gcd a b=G at HG ⊢
 go_enter Tryz.func61,Tryz.ntmps61
 go_wp2_with (first|(go_at_call 134;(try rw[ea,eb]);(with_reducible refine (HG.out _).mono ?_);rintro _ w1 ⟨rfl,hb1⟩)|fail)
 refine bodyPost_ret (v := .int .i64 (G:Int)) ?_ rfl ⟨rfl,hb1⟩
 simp[results,Tryz.f61,go_sem]
theorem bse_pos (n:Nat) (h1:2≤n) (h2:n≤16):decide (0<bseR n)=fldB n:=by
 have:∀n,n<17→2≤n→decide (0<bseR n)=fldB n:=by decide +kernel
 exact this n (by omega) h1
theorem isf_c (n:Nat) (h1:1≤n) (h2:n≤16) (w:World) :
  Calls Tryz.prog 63 #[.int .i64 (n:Int)] w fun e w'=>e = .returned (.bool (fldB n))∧Below w.heap.size w w':=by
 by_cases hn:n=1
 ·subst hn
  go_enter Tryz.func63,Tryz.ntmps63
  go_wp2_with fail
  refine bodyPost_ret (v := .bool false) ?_ rfl ⟨by rw[show fldB 1=false by decide],Below.refl _ _⟩
  simp[results,Tryz.f63,go_sem]
 ·have HB:=Lib.hid (fun W=>rbase_c n h2 W)
  have d1:decide ((2:Int)≤(n:Int))=true:=decide_eq_true (by omega)
  have d2:decide ((n:Int)≤16)=true:=decide_eq_true (by omega)
  have h3:(2:Int)≤(n:Int):=by omega
  have hp:=bse_pos n (by omega) h2
  generalize bseR n=B at HB hp
  generalize fldB n=F at hp ⊢
  go_enter Tryz.func63,Tryz.ntmps63
  go_wp2_with (first|(go_at_call 135;refine (HB.out _).mono ?_;rintro _ w1 ⟨rfl,hb1⟩)|fail)
  refine bodyPost_ret (v := .bool F) ?_ rfl ⟨rfl,hb1⟩
  simp[results,Tryz.f63,go_sem]
end
section
open Go Go.RowKit
def hold2 (o:Obj) (b:Nat) (o2:Obj) (u:World):World:=hold o b (hold o2 (b+1) u)
theorem hold_size (o:Obj) (b:Nat) (u:World):b<(hold o b u).heap.size:=q_lt (hold_heap o b u)
theorem hold_above (o:Obj) (b:Nat) (u:World) {k:Nat} (hk:b<k) (hb:b<u.heap.size):(hold o b u).heap[k]?=u.heap[k]?:=by
 simp only[hold,List.getElem?_toArray]
 rw[show b - u.heap.size=0 from by omega,List.replicate_zero,List.append_nil,List.getElem?_append_right (by simp;omega),show k - (u.heap.toList.take b).length=(k - b - 1)+1 from by simp;omega,List.getElem?_cons_succ,List.getElem?_drop,Array.getElem?_toList]
 congr 1
 omega
theorem hold2_heap0 (o:Obj) (b:Nat) (o2:Obj) (u:World):(hold2 o b o2 u).heap[b]?=some o:=hold_heap _ _ _
theorem hold2_heap1 (o:Obj) (b:Nat) (o2:Obj) (u:World):(hold2 o b o2 u).heap[b+1]?=some o2:=by
 unfold hold2
 rw[hold_above _ _ _ (by omega) (by have:=hold_size o2 (b+1) u;omega)]
 exact hold_heap _ _ _
section
variable (v0 v1 v2:Value) (T:TypeId) (b:Nat) (o:Obj) (u:World)
theorem hold2_a0:(hold2 (.cells #[v0,v1,v2] T (0,0)) b o u).cell? ⟨b,0,none⟩=some v0:=q_cell (hold2_heap0 _ b _ u) 0
theorem hold2_a1:(hold2 (.cells #[v0,v1,v2] T (0,0)) b o u).cell? ⟨b,1,none⟩=some v1:=q_cell (hold2_heap0 _ b _ u) 1
theorem hold2_a2:(hold2 (.cells #[v0,v1,v2] T (0,0)) b o u).cell? ⟨b,2,none⟩=some v2:=q_cell (hold2_heap0 _ b _ u) 2
theorem hold2_b0:(hold2 o b (.cells #[v0,v1,v2] T (0,0)) u).cell? ⟨b+1,0,none⟩=some v0:=q_cell (hold2_heap1 _ b _ u) 0
theorem hold2_b1:(hold2 o b (.cells #[v0,v1,v2] T (0,0)) u).cell? ⟨b+1,1,none⟩=some v1:=q_cell (hold2_heap1 _ b _ u) 1
theorem hold2_b2:(hold2 o b (.cells #[v0,v1,v2] T (0,0)) u).cell? ⟨b+1,2,none⟩=some v2:=q_cell (hold2_heap1 _ b _ u) 2
end
end
section
open Go Go.RowKit
attribute [local go_sem] over_cell
attribute [local go_sem] Oper.semAt_some
@[reducible] def tH (w:World) (f:Nat) (args:Array Value) (v:Value):Prop:=∀W,Below w.heap.size w W→Calls Tryz.prog f args W fun e w'=>e = .returned v∧Below W.heap.size W w'
@[reducible] def tG (w:World) (f:Nat) (args:Array Value) (R1:Int) (k1:Nat) (X1:List Int) (er1:Int):Prop:=∀W,Below w.heap.size w W→Calls Tryz.prog f args W fun e w'=>∃a1 c1,e = .returned (.tuple #[.agg #[.int .i64 R1,.int .i64 R1,.slice a1 k1 c1],.int .i64 er1])∧IC w' a1 k1 X1∧Below W.heap.size W w'
@[reducible] def tF (w:World) (m:Int) (R3:Int) (k3 k4:Nat) (X3 X4:List Int) (er3:Int):Prop:=∀W,Below w.heap.size w W→Calls Tryz.prog 56 #[.int .i64 m] W fun e w'=>∃a3 c3 a4 c4,e = .returned (.tuple #[.agg #[.int .i64 R3,.int .i64 R3,.slice a3 k3 c3],.agg #[.int .i64 R3,.int .i64 R3,.slice a4 k4 c4],.int .i64 er3])∧IC w' a3 k3 X3∧IC w' a4 k4 X4∧Below W.heap.size W w'
@[reducible] def tL (w:World) (m:Int) (k5 NN:Nat) (css:List (List Int)) (er5:Int):Prop:=∀W,Below w.heap.size w W→Calls Tryz.prog 57 #[.int .i64 m] W fun e w'=>∃a5 c5,e = .returned (.tuple #[.slice a5 k5 c5,.int .i64 er5])∧GL w' a5 k5 NN css∧Below W.heap.size W w'
@[reducible] def tR (w:World) (args:Array Value) (K:Int) (z2:Nat) (Y2:List Int):Prop:=∀W,Below w.heap.size w W→Calls Tryz.prog 60 args W fun e w'=>∃a7 c7,e = .returned (.agg #[.int .i64 K,.int .i64 K,.slice a7 z2 c7])∧(∀b2 o2,a7=some ⟨b2,o2,none⟩→W.heap.size≤b2)∧IC w' a7 z2 Y2∧Below W.heap.size W w'
end
section
open Go Go.RowKit
theorem cyc_lin (N:Nat):madeTo N (cycS N) (N*N)=madeTo N (linS N 1 1) (N*N):=by
 unfold madeTo
 apply List.map_congr_left
 intro k _
 unfold cycS linS
 rw[Int.one_mul,Int.one_mul]
theorem ff_of {w:World} {R:Int} {X Y:List Int} {er:Int} {e:Ending} {w':World} (hg:TwoG w R X Y er e w'):∃a3 c3 a4 c4,e = .returned (.tuple #[.agg #[.int .i64 R,.int .i64 R,.slice a3 X.length c3],.agg #[.int .i64 R,.int .i64 R,.slice a4 Y.length c4],.int .i64 er])∧IC w' a3 X.length X∧IC w' a4 Y.length Y∧Below w.heap.size w w':=by
 obtain ⟨a,c,a2,c2,h1,h2,h3,_,_,h4⟩:=hg
 exact ⟨a,c,a2,c2,h1,h2,h3,h4⟩
theorem mN_len (N:Nat) (s:Nat→Nat→Int):(madeTo N s (N*N)).length=N*N:=madeTo_len _ _ _
end
section
open Go Go.RowKit Go.ChangeShapes Go.WideShapes
section
variable {H:Type} {enc:TypeId × Value→H} {P:Program} {w:World} {base:Nat} {spare:Nat→Bool} {held:Bool}
theorem O7.okArr {t e:TypeId} {n:Nat} {r:Reach} {b0:Nat} {v:Value} (ht:P.underlying t=some (.array n e)) (h:Value.okWide P w r b0 t v):∃cs,v = .agg cs∧cs.size=P.cellsOf t:=by
 simp only[Value.okWide,ht] at h
 obtain ⟨cs,h1,h2,_⟩:=h
 exact ⟨cs,h1,h2⟩
theorem O7.array5 {α:Type} {cs:Array α} (h:cs.size=5):∃c0 c1 c2 c3 c4,cs=#[c0,c1,c2,c3,c4]:=by
 obtain ⟨l⟩:=cs
 match l,h with
 | [c0,c1,c2,c3,c4],_=>exact ⟨c0,c1,c2,c3,c4,rfl⟩
theorem O7.trod5 {t e:TypeId} {fuel:Nat} {c0 c1 c2 c3 c4:Value} {x:DataW H × List MemPlace} (ht:P.underlying t=some (.array 5 e)) (hce:P.cellsOf e=1)
  (h:DataW.trod enc P w base spare held fuel t [c0,c1,c2,c3,c4]=some x) :
  ∃y0 y1 y2 y3 y4 n,DataW.trod enc P w base spare held n e [c0]=some y0∧DataW.trod enc P w base spare held n e [c1]=some y1∧DataW.trod enc P w base spare held n e [c2]=some y2∧DataW.trod enc P w base spare held n e [c3]=some y3∧DataW.trod enc P w base spare held n e [c4]=some y4:=by
 cases fuel with
 | zero=>simp[DataW.trod] at h
 | succ n =>
  unfold DataW.trod at h
  rw[ht] at h
  have r5:List.range 5=[0,1,2,3,4]:=rfl
  simp[r5,hce] at h
  obtain ⟨_,h⟩:=h
  cases h0:DataW.trod enc P w base spare held n e [c0] with
  | none=>simp[h0] at h
  | some y0 =>
   cases h1:DataW.trod enc P w base spare held n e [c1] with
   | none=>simp[h0,h1] at h
   | some y1 =>
    cases h2:DataW.trod enc P w base spare held n e [c2] with
    | none=>simp[h0,h1,h2] at h
    | some y2 =>
     cases h3:DataW.trod enc P w base spare held n e [c3] with
     | none=>simp[h0,h1,h2,h3] at h
     | some y3 =>
      cases h4:DataW.trod enc P w base spare held n e [c4] with
      | none=>simp[h0,h1,h2,h3,h4] at h
      | some y4=>exact ⟨y0,y1,y2,y3,y4,n,h0,h1,h2,h3,h4⟩
end
section
variable {H:Type} {enc:TypeId × Value→H} {w:World} {held:Bool}
theorem O7.cellsB:Tryz.prog.cellsOf 92=5:=by kernel_rfl
theorem O7.cellsU:Tryz.prog.cellsOf 5=1:=by kernel_rfl
theorem open_five {base:Nat} {v:Value} {d:DataW H} {p:List MemPlace} (hv:Value.okWide Tryz.prog w .any base 92 v) (h:DataW.Trod enc Tryz.prog w 0 (fun _=>true) held 92 v d p):∃p0 p1 p2 p3 p4:Int,v = .agg #[.int .u8 p0,.int .u8 p1,.int .u8 p2,.int .u8 p3,.int .u8 p4]∧∀x,x∈[p0,p1,p2,p3,p4]→0≤x∧x≤255:=by
 obtain ⟨cs,rfl,hsz⟩:=O7.okArr Tryz.underlying92 hv
 obtain ⟨c0,c1,c2,c3,c4,rfl⟩:=O7.array5 (hsz.trans O7.cellsB)
 obtain ⟨fuel,hf⟩:=h
 obtain ⟨y0,y1,y2,y3,y4,m,h0,h1,h2,h3,h4⟩:=O7.trod5 Tryz.underlying92 O7.cellsU hf
 obtain ⟨p0,e0,_,w0⟩:=DataW.trod_int Tryz.underlying5 h0
 obtain ⟨p1,e1,_,w1⟩:=DataW.trod_int Tryz.underlying5 h1
 obtain ⟨p2,e2,_,w2⟩:=DataW.trod_int Tryz.underlying5 h2
 obtain ⟨p3,e3,_,w3⟩:=DataW.trod_int Tryz.underlying5 h3
 obtain ⟨p4,e4,_,w4⟩:=DataW.trod_int Tryz.underlying5 h4
 simp only[List.cons.injEq,and_true] at e0 e1 e2 e3 e4
 refine ⟨p0,p1,p2,p3,p4,by rw[e0,e1,e2,e3,e4],?_⟩
 have f0:=wf_u8 w0
 have f1:=wf_u8 w1
 have f2:=wf_u8 w2
 have f3:=wf_u8 w3
 have f4:=wf_u8 w4
 intro x hx
 simp only[List.mem_cons,List.not_mem_nil,or_false] at hx
 omega
end
end
section
open Go Go.RowKit
attribute [local go_sem] over_cell
attribute [local go_sem] Oper.semAt_some
theorem gl_addr {W:World} {a:Option Addr} {cnt n:Nat} {css:List (List Int)} (h:GL W a cnt n css) (h1:1≤cnt):∃b o,a=some ⟨b,o,none⟩:=by
 obtain ⟨b,off,_,_,e,_⟩:=h.2 0 (by omega)
 exact ⟨b,off,e⟩
theorem gl_at {W:World} {b o cnt n:Nat} {css:List (List Int)} (h:GL W (some ⟨b,o,none⟩) cnt n css) {k:Nat} (hk:k<cnt):∃a' c',b<W.heap.size∧W.cell? ⟨b,o+k*3,none⟩=some (.int .i64 (n:Int))∧W.cell? ⟨b,o+k*3+1,none⟩=some (.int .i64 (n:Int))∧W.cell? ⟨b,o+k*3+2,none⟩=some (.slice a' (css[k]?.getD []).length c')∧IC W a' (css[k]?.getD []).length (css[k]?.getD [])∧(css[k]?.getD []).length≤c':=by
 obtain ⟨b2,o2,a',c',e,h1,h2,h3,h4,h5,h6⟩:=h.2 k hk
 cases e
 exact ⟨a',c',h1,by rw[show o+k*3=o+3*k by omega];exact h2,by rw[show o+k*3+1=o+(3*k+1) by omega];exact h3,by rw[show o+k*3+2=o+(3*k+2) by omega];exact h4,h5,h6⟩
end
section
def lk (T x y:Nat):Nat:=(T >>> (4*(16*x+y))) % 16
def ck3 (A M S x y z:Nat):Bool:=(lk A (lk A x y) z==lk A x (lk A y z))&&(lk M (lk M x y) z==lk M x (lk M y z))&&(lk M x (lk A y z)==lk A (lk M x y) (lk M x z))&&(!(lk A x y==lk A x z)||y==z)&&(x==0||!(lk M x y==lk M x z)||y==z)&&(lk S (lk A x z) (lk A y z)==lk S x y)&&(lk S (lk M x z) (lk M y z)==lk M (lk S x y) z)
def ck2 (q A M S x y:Nat):Bool:=decide (lk A x y<q)&&decide (lk M x y<q)&&decide (lk S x y<q)&&(lk A x y==lk A y x)&&(lk M x y==lk M y x)&&(!(lk S x y==0)||x==y)&&(fAdd q x y==(lk A x y:Int))&&(fTimes q x y==(lk M x y:Int))
def ck1 (q A M x:Nat):Bool:=(lk A x 0==x)&&(lk M x 1==x)&&(lk M x 0==0)&&(x==0||(List.range q).any fun y=>lk M x y==1)
def ckA (q A M S:Nat):Bool:=((List.range q).all fun x=>ck1 q A M x)&&((List.range q).all fun x=>(List.range q).all fun y=>ck2 q A M S x y)&&((List.range q).all fun x=>(List.range q).all fun y=>(List.range q).all fun z=>ck3 A M S x y z)
def aN (q x y:Nat):Nat:=(fAdd q x y).toNat
def tN (q x y:Nat):Nat:=(fTimes q x y).toNat
structure FldL (q:Nat) (A M S:Nat→Nat→Nat):Prop where
 ra:∀x y,x<q→y<q→A x y<q
 rm:∀x y,x<q→y<q→M x y<q
 rs:∀x y,x<q→y<q→S x y<q
 ca:∀x y,x<q→y<q→A x y=A y x
 cm:∀x y,x<q→y<q→M x y=M y x
 s0:∀x y,x<q→y<q→S x y=0→x=y
 aa:∀x y z,x<q→y<q→z<q→A (A x y) z=A x (A y z)
 am:∀x y z,x<q→y<q→z<q→M (M x y) z=M x (M y z)
 ds:∀x y z,x<q→y<q→z<q→M x (A y z)=A (M x y) (M x z)
 ja:∀x y z,x<q→y<q→z<q→A x y=A x z→y=z
 jm:∀x y z,x<q→y<q→z<q→x≠0→M x y=M x z→y=z
 sa:∀x y z,x<q→y<q→z<q→S (A x z) (A y z)=S x y
 sd:∀x y z,x<q→y<q→z<q→S (M x z) (M y z)=M (S x y) z
 a0:∀x,x<q→A x 0=x
 m1:∀x,x<q→M x 1=x
 m0:∀x,x<q→M x 0=0
 inv:∀x,x<q→x≠0→∃y,y<q∧M x y=1
theorem ck_laws {q A M S:Nat} (h2q:2≤q) (h:ckA q A M S=true):FldL q (aN q) (tN q) (lk S):=by
 unfold ckA at h
 rw[Bool.and_eq_true,Bool.and_eq_true] at h
 obtain ⟨⟨h1,h2⟩,h3⟩:=h
 have k1:∀x,x<q→ck1 q A M x=true:=fun x hx=>List.all_eq_true.1 h1 x (List.mem_range.2 hx)
 have k2:∀x y,x<q→y<q→ck2 q A M S x y=true:=fun x y hx hy=>List.all_eq_true.1 (List.all_eq_true.1 h2 x (List.mem_range.2 hx)) y (List.mem_range.2 hy)
 have k3:∀x y z,x<q→y<q→z<q→ck3 A M S x y z=true:=fun x y z hx hy hz=>List.all_eq_true.1 (List.all_eq_true.1 (List.all_eq_true.1 h3 x (List.mem_range.2 hx)) y (List.mem_range.2 hy)) z (List.mem_range.2 hz)
 clear h1 h2 h3
 have j2:∀x y,x<q→y<q→lk A x y<q∧lk M x y<q∧lk S x y<q∧lk A x y=lk A y x∧lk M x y=lk M y x∧(lk S x y=0→x=y)∧aN q x y=lk A x y∧tN q x y=lk M x y:=fun x y hx hy=>by
  have h:=k2 x y hx hy
  unfold ck2 at h
  simp only[Bool.and_eq_true,decide_eq_true_eq,beq_iff_eq,Bool.or_eq_true,Bool.not_eq_true',beq_eq_false_iff_ne] at h
  obtain ⟨⟨⟨⟨⟨⟨⟨a1,a2⟩,a3⟩,a4⟩,a5⟩,a6⟩,a7⟩,a8⟩:=h
  refine ⟨a1,a2,a3,a4,a5,fun e=>a6.resolve_left (fun n=>n e),?_,?_⟩
  ·unfold aN;rw[a7,Int.toNat_natCast]
  ·unfold tN;rw[a8,Int.toNat_natCast]
 have j3:∀x y z,x<q→y<q→z<q→lk A (lk A x y) z=lk A x (lk A y z)∧lk M (lk M x y) z=lk M x (lk M y z)∧lk M x (lk A y z)=lk A (lk M x y) (lk M x z)∧(lk A x y=lk A x z→y=z)∧(x≠0→lk M x y=lk M x z→y=z)∧lk S (lk A x z) (lk A y z)=lk S x y∧lk S (lk M x z) (lk M y z)=lk M (lk S x y) z:=fun x y z hx hy hz=>by
  have h:=k3 x y z hx hy hz
  unfold ck3 at h
  simp only[Bool.and_eq_true,beq_iff_eq,Bool.or_eq_true,Bool.not_eq_true',beq_eq_false_iff_ne] at h
  obtain ⟨⟨⟨⟨⟨⟨a1,a2⟩,a3⟩,a4⟩,a5⟩,a6⟩,a7⟩:=h
  exact ⟨a1,a2,a3,fun e=>a4.resolve_left (fun n=>n e),fun h0 e=>a5.resolve_left (fun n=>n.elim h0 (fun n=>n e)),a6,a7⟩
 have eA:=fun x y hx hy=>(j2 x y hx hy).2.2.2.2.2.2.1
 have eM:=fun x y hx hy=>(j2 x y hx hy).2.2.2.2.2.2.2
 have rA:=fun x y hx hy=>(j2 x y hx hy).1
 have rM:=fun x y hx hy=>(j2 x y hx hy).2.1
 have rS:=fun x y hx hy=>(j2 x y hx hy).2.2.1
 refine ⟨fun x y hx hy=>by rw[eA x y hx hy];exact rA x y hx hy,fun x y hx hy=>by rw[eM x y hx hy];exact rM x y hx hy,rS,
  fun x y hx hy=>by rw[eA x y hx hy,eA y x hy hx];exact (j2 x y hx hy).2.2.2.1,fun x y hx hy=>by rw[eM x y hx hy,eM y x hy hx];exact (j2 x y hx hy).2.2.2.2.1,fun x y hx hy=>(j2 x y hx hy).2.2.2.2.2.1,
  fun x y z hx hy hz=>?_,fun x y z hx hy hz=>?_,fun x y z hx hy hz=>?_,fun x y z hx hy hz e=>?_,fun x y z hx hy hz h0 e=>?_,fun x y z hx hy hz=>?_,fun x y z hx hy hz=>?_,fun x hx=>?_,fun x hx=>?_,fun x hx=>?_,fun x hx h0=>?_⟩
 ·rw[eA x y hx hy,eA _ z (rA x y hx hy) hz,eA y z hy hz,eA x _ hx (rA y z hy hz)];exact (j3 x y z hx hy hz).1
 ·rw[eM x y hx hy,eM _ z (rM x y hx hy) hz,eM y z hy hz,eM x _ hx (rM y z hy hz)];exact (j3 x y z hx hy hz).2.1
 ·rw[eA y z hy hz,eM x _ hx (rA y z hy hz),eM x y hx hy,eM x z hx hz,eA _ _ (rM x y hx hy) (rM x z hx hz)];exact (j3 x y z hx hy hz).2.2.1
 ·rw[eA x y hx hy,eA x z hx hz] at e;exact (j3 x y z hx hy hz).2.2.2.1 e
 ·rw[eM x y hx hy,eM x z hx hz] at e;exact (j3 x y z hx hy hz).2.2.2.2.1 h0 e
 ·rw[eA x z hx hz,eA y z hy hz];exact (j3 x y z hx hy hz).2.2.2.2.2.1
 ·rw[eM x z hx hz,eM y z hy hz,eM _ z (rS x y hx hy) hz];exact (j3 x y z hx hy hz).2.2.2.2.2.2
 all_goals
  have h:=k1 x hx
  unfold ck1 at h
  simp only[Bool.and_eq_true,beq_iff_eq,Bool.or_eq_true,List.any_eq_true,List.mem_range] at h
  obtain ⟨⟨⟨a1,a2⟩,a3⟩,a4⟩:=h
 ·rw[eA x 0 hx (by omega)];exact a1
 ·rw[eM x 1 hx (by omega)];exact a2
 ·rw[eM x 0 hx (by omega)];exact a3
 ·obtain ⟨y,hy,e⟩:=a4.resolve_left h0
  exact ⟨y,hy,by rw[eM x y hx hy];exact e⟩
theorem ck_2:ckA 2 18446744073709551632 295147905179352825856 18446744073709551632=true:=by decide +kernel
theorem ck_3:ckA 3 87792850665602123574159391271828613759504 98001321673230277487191767811267888152576 6125082604576892351803922643584827785504=true:=by decide +kernel
theorem ck_4:ckA 4 1826636604997524103687025415407641796770237830395656339993104 53330256343845239771214889408017248588558707406201035998363648 1826636604997524103687025415407641796770237830395656339993104=true:=by decide +kernel
theorem ck_5:ckA 5 23744325819004059034406350039066560157511542246644346540764386605092696850526646800 8633458173534295531708957194668506359272841672193293788818684081649949418234839040 539591135845893472321171984066689216925967072799218066438690850816917581846356800=true:=by decide +kernel
theorem ck_7:ckA 7 3478623690343450189344135562249338476532584588467764427001429982800215446745271625268546827762217480443917131115877490766352 752134494153338365622163830121678227156171018913178456748888587115968116127437694089971613802901525030371665776032251641856 47008405884583648061467424797718584759945791232612042288631768981257414823882029296160509060924983202698854755891344000352=true:=by decide +kernel
theorem ck_8:ckA 8 13874437610526695973432030937281792794508753341615275460032961883811228700950539972536064596195808715573671356327488034696840624189815766921744 638732648260906949777959678038565379125696596219037394524801015071477239970190909606175165633671146960191918252948923319017128185934182682198016 13874437610526695973432030937281792794508753341615275460032961883811228700950539972536064596195808715573671356327488034696840624189815766921744=true:=by decide +kernel
theorem ck_9:ckA 9 242280702199725469974352990928395429226526593484772418668161944328841606494906220325586153284455581685689327813808656503597945483892057202906626319625518304218853904 350271593073168926145148751542696170272942420121852288454124347193083665193360404733703433787666620839746384371830655548203159746643362737104589857648376464715808768 4095011303551043298381458892634582099661919021127691590168361890825419730600297983608501207060755564031003343017753233465183726221160828082437653171683206079471904=true:=by decide +kernel
theorem ck_11:ckA 11 47801256700862043884254755031597379698302990695283899141412257882146020190621083950061315865283666969764863811388089464880391574791307388108407416765586075869961916621518697839661709194056553661440086782480 5707612740341513482889274215300219212607810937975125163326021618047279574149327542673081591604818746784293751015793188419071153316961378705602856340041906233280890908852574691014268478255257506201311641600 356725796271344595362538697544313619467488421369493498037371366550617322162310163111120231790700680003529965624301981853184719610088996951904922053270643896404871333048989141424242719323225739706285656480=true:=by decide +kernel
theorem ck_13:ckA 13 5096332728548082069550025266041584509188004531269844101955021339290952149362303233226047325008983535190781031862781861491610551473830180381547968324462846126141658343850264751256541395366141382817658748651597524911171831391961899910866176572666384 497203193029057548978455390703706481544668932005568052453289575683692794108682690124607659936678962065035569766277507777915876887660390400113997489778725659446389730475565544531550620901614322287356732407761353473585146035747697513696149221933056 31075199564316097092164123159986678234084653062908532215099406960826074416817190105457162947172925869819060714816167685174817539909593556569676637595108693817430559743853949985054494722265734731669003308448100526216960918092851998983265129704384=true:=by decide +kernel
theorem ck_16:ckA 16 798974726605473726946832238011593618400339158202517049033210936078539962612148351302787556971974837864606271200763683943951953866025539096785282858647326000342156170857478456413950631519959977197563975844721619162716127815821009475742892049151496040916675244806998969647283770674449648040311876430683451920 116196760129267793630862849262464326346044543732748708940920453221664288556434379745879494961270582141731748813355742142288220638766218855867759359510984593843506004200114943278699875244065120512813025380665946106619127097398772031257643617143689515450995722003729973585221105779229319991106539050771048038400 798974726605473726946832238011593618400339158202517049033210936078539962612148351302787556971974837864606271200763683943951953866025539096785282858647326000342156170857478456413950631519959977197563975844721619162716127815821009475742892049151496040916675244806998969647283770674449648040311876430683451920=true:=by decide +kernel
theorem fld_laws {q:Nat} (h:q≤16) (hf:fldB q=true):∃S:Nat→Nat→Nat,FldL q (aN q) (tN q) S:=by
 rcases fld_cases h hf with e|e|e|e|e|e|e|e|e|e <;> subst e
 ·exact ⟨_,ck_laws (by decide) ck_2⟩
 ·exact ⟨_,ck_laws (by decide) ck_3⟩
 ·exact ⟨_,ck_laws (by decide) ck_4⟩
 ·exact ⟨_,ck_laws (by decide) ck_5⟩
 ·exact ⟨_,ck_laws (by decide) ck_7⟩
 ·exact ⟨_,ck_laws (by decide) ck_8⟩
 ·exact ⟨_,ck_laws (by decide) ck_9⟩
 ·exact ⟨_,ck_laws (by decide) ck_11⟩
 ·exact ⟨_,ck_laws (by decide) ck_13⟩
 ·exact ⟨_,ck_laws (by decide) ck_16⟩
theorem made_nat {N:Nat} {s:Nat→Nat→Int} {i j:Nat} (hi:i<N) (hj:j<N):nat (madeTo N s (N*N)) (i*N+j)=(s i j).toNat:=by
 have hlt:=gcell_lt hi hj
 have hd:=gcell_div (n:=N) (i:=i) hj
 unfold Go.Proofs.YtmfpdakaeagdpaaGreat.nat madeTo
 rw[List.getElem?_map,List.getElem?_range hlt,Option.map_some,Option.getD_some,hd.1,hd.2]
theorem made_latin {N:Nat} {s:Nat→Nat→Int} (h1:1≤N) (h16:N≤16) (hr:∀i j,i<N→j<N→0≤s i j∧s i j<(N:Int)) (hc:∀i j k,i<N→j<N→k<N→s i j=s i k→j=k) (hk:∀i k j,i<N→k<N→j<N→s i j=s k j→i=k):Latin N (madeTo N s (N*N)):=by
 have hl:(madeTo N s (N*N)).length=N*N:=madeTo_len _ _ _
 have hat:∀p,p<N*N→(madeTo N s (N*N))[p]?.getD 0=s (p / N) (p % N):=fun p hp=>by
  unfold madeTo
  rw[List.getElem?_map,List.getElem?_range hp]
  rfl
 refine ⟨hl,h1,h16,fun x hx=>?_,?_⟩
 ·obtain ⟨p,hp,e⟩:=List.getElem_of_mem hx
  rw[hl] at hp
  have h2:=hat p hp
  rw[List.getElem?_eq_getElem (by rw[hl];exact hp),Option.getD_some,e] at h2
  obtain ⟨c1,c2,_⟩:=cell_parts hp
  rw[h2]
  exact hr _ _ c1 c2
 ·rw[once_iff]
  intro p r hp hrr hpr hln he
  rw[hl] at hp hrr
  rw[hat p hp,hat r hrr] at he
  obtain ⟨c1,c2,c3⟩:=cell_parts hp
  obtain ⟨d1,d2,d3⟩:=cell_parts hrr
  unfold lineB at hln
  rw[Bool.or_eq_true,beq_iff_eq,beq_iff_eq] at hln
  exfalso
  rcases hln with e|e
  ·rw[← e] at he
   have:=hc _ _ _ c1 c2 d2 he
   rw[← e,← this] at d3
   omega
  ·rw[← e] at he
   have:=hk _ _ _ c1 d1 c2 he
   rw[← e,← this] at d3
   omega
theorem int_nat {x y:Int} (hx:0≤x) (hy:0≤y) (h:x.toNat=y.toNat):x=y:=by omega
theorem fad_latin {q:Nat} (h:q≤16) (hf:fldB q=true) (h1:1≤q):Latin q (fadL q):=by
 obtain ⟨S,F⟩:=fld_laws h hf
 refine made_latin h1 h (fun i j _ _=>fAdd_num h hf) (fun i j k hi hj hk e=>F.ja i j k hi hj hk (by unfold aN;rw[e])) (fun i k j hi hk hj e=>?_)
 have e2:aN q i j=aN q k j:=by unfold aN;rw[e]
 rw[F.ca i j hi hj,F.ca k j hk hj] at e2
 exact F.ja j i k hj hi hk e2
theorem fam_latin {q k:Nat} (h:q≤16) (hf:fldB q=true) (hk1:1≤k) (hk:k<q):Latin q (famG q k):=by
 obtain ⟨S,F⟩:=fld_laws h hf
 have hs:∀i j,i<q→j<q→(famS q k i j).toNat=aN q (tN q k i) j:=fun i j _ _=>rfl
 refine made_latin (by omega) h (fun i j _ _=>fAdd_num h hf) (fun i j m hi hj hm e=>?_) (fun i m j hi hm hj e=>?_)
 ·refine F.ja (tN q k i) j m (F.rm k i hk hi) hj hm ?_
  rw[← hs i j hi hj,← hs i m hi hm,e]
 ·have e2:aN q (tN q k i) j=aN q (tN q k m) j:=by rw[← hs i j hi hj,← hs m j hm hj,e]
  rw[F.ca _ j (F.rm k i hk hi) hj,F.ca _ j (F.rm k m hk hm) hj] at e2
  exact F.jm k i m hk hi hm (by omega) (F.ja j _ _ hj (F.rm k i hk hi) (F.rm k m hk hm) e2)
theorem fam_ortho {q i k:Nat} (h:q≤16) (hf:fldB q=true) (hi1:1≤i) (hi:i<q) (hk1:1≤k) (hk:k<q):(meetR (famG q i) (famG q k)).isNone=decide (i≠k):=by
 have L1:=fam_latin h hf hi1 hi
 have L2:=fam_latin h hf hk1 hk
 obtain ⟨S,F⟩:=fld_laws h hf
 have hq2:2≤q:=by omega
 have hat:∀k r c,r<q→c<q→nat (famG q k) (r*q+c)=aN q (tN q k r) c:=fun k r c hr hc=>made_nat (s:=famS q k) hr hc
 have hO:Ortho (famG q i) (famG q k)↔i≠k:=by
  rw[ortho_iff L1 L2]
  constructor
  ·intro hO e
   subst e
   have hz:tN q i 0=0:=F.m0 i hi
   obtain ⟨c,hc,ec⟩:=L1.ron (i:=1) (x:=0) (by omega) (by omega)
   have h00:nat (famG q i) (0*q+0)=0:=by rw[hat i 0 0 (by omega) (by omega),hz];exact F.a0 0 (by omega)
   have:=hO 0 0 1 c (by omega) (by omega) (by omega) hc (by rw[h00,ec]) (by rw[h00,ec])
   omega
  ·intro hne r c r' c' hr hc hr' hc' e1 e2
   rw[hat i r c hr hc,hat i r' c' hr' hc'] at e1
   rw[hat k r c hr hc,hat k r' c' hr' hc'] at e2
   have a1:=F.rm i r hi hr
   have a2:=F.rm k r hk hr
   have a3:=F.rm i r' hi hr'
   have a4:=F.rm k r' hk hr'
   have f1:=F.sa (tN q i r) (tN q k r) c a1 a2 hc
   have f2:=F.sa (tN q i r') (tN q k r') c' a3 a4 hc'
   rw[e1,e2,f2,F.sd i k r hi hk hr,F.sd i k r' hi hk hr'] at f1
   have hd:S i k≠0:=fun e=>hne (F.s0 i k hi hk e)
   have er:=F.jm (S i k) r' r (F.rs i k hi hk) hr' hr hd f1
   subst er
   exact ⟨rfl,F.ja (tN q i r') c c' a1 hc hc' e1⟩
 cases hm:meetR (famG q i) (famG q k) with
 | none=>rw[Option.isNone_none,decide_eq_true (hO.1 (meetR_none.1 hm))]
 | some x =>
  rw[Option.isNone_some]
  symm
  rw[decide_eq_false_iff_not]
  intro hne
  have:=meetR_none.2 (hO.2 hne)
  rw[hm] at this
  cases this
theorem lin_range (N:Nat) (h:1≤N) (a b:Int) (i j:Nat):0≤linS N a b i j∧linS N a b i j<(N:Int):=by
 unfold linS
 exact ⟨Int.emod_nonneg _ (by omega),Int.emod_lt_of_pos _ (by omega)⟩
theorem mul_cancel {N:Nat} {a:Int} (hg:Int.gcd a (N:Int)=1) {i k:Nat} (hi:i<N) (hk:k<N) (h:(N:Int) ∣ a*((i:Int) - (k:Int))):i=k:=by
 have h2:N ∣ a.natAbs*((i:Int) - (k:Int)).natAbs:=by
  have:=Int.natAbs_dvd_natAbs.2 h
  rw[Int.natAbs_natCast,Int.natAbs_mul] at this
  exact this
 have hc:Nat.Coprime N a.natAbs:=by
  unfold Int.gcd at hg
  rw[Int.natAbs_natCast,Nat.gcd_comm] at hg
  exact hg
 have h3:=Nat.Coprime.dvd_of_dvd_mul_left hc h2
 have h4:((i:Int) - (k:Int)).natAbs<N:=by omega
 have h5:=Nat.eq_zero_of_dvd_of_lt h3 h4
 omega
theorem emod_dvd {x y:Int} {N:Nat} (h:x % (N:Int)=y % (N:Int)):(N:Int) ∣ x - y:=Int.dvd_of_emod_eq_zero (by rw[Int.sub_emod,h];simp)
theorem lin_latin {N:Nat} (h1:1≤N) (h16:N≤16) {a b:Int} (ha:Int.gcd a (N:Int)=1) (hb:Int.gcd b (N:Int)=1):Latin N (madeTo N (linS N a b) (N*N)):=by
 refine made_latin h1 h16 (fun i j _ _=>lin_range N h1 a b i j) (fun i j k _ hj hk e=>?_) (fun i k j hi hk _ e=>?_)
 ·have h2:=emod_dvd e
  rw[show a*(i:Int)+b*(j:Int) - (a*(i:Int)+b*(k:Int))=b*((j:Int) - (k:Int)) by rw[Int.mul_sub];omega] at h2
  exact mul_cancel hb hj hk h2
 ·have h2:=emod_dvd e
  rw[show a*(i:Int)+b*(j:Int) - (a*(k:Int)+b*(j:Int))=a*((i:Int) - (k:Int)) by rw[Int.mul_sub];omega] at h2
  exact mul_cancel ha hi hk h2
theorem lin_ortho {N:Nat} (h1:1≤N) (h16:N≤16) {a b:Int} (ha:Int.gcd a (N:Int)=1) (hb:Int.gcd b (N:Int)=1):(meetR (madeTo N (linS N a b) (N*N)) (madeTo N (linS N 1 1) (N*N))).isNone=decide (Int.gcd (a - b) (N:Int)=1):=by
 have L1:=lin_latin h1 h16 ha hb
 have L2:=lin_latin (a:=1) (b:=1) h1 h16 (Int.one_gcd) (Int.one_gcd)
 have hat:∀a b:Int,∀i j,i<N→j<N→nat (madeTo N (linS N a b) (N*N)) (i*N+j)=(linS N a b i j).toNat:=fun a b i j hi hj=>made_nat hi hj
 have hO:Ortho (madeTo N (linS N a b) (N*N)) (madeTo N (linS N 1 1) (N*N))↔Int.gcd (a - b) (N:Int)=1:=by
  rw[ortho_iff L1 L2]
  constructor
  ·intro hO
   -- a common divisor gives two cells with the same pair
   obtain ⟨d,hd⟩:∃d,d=Int.gcd (a - b) (N:Int):=⟨_,rfl⟩
   rw[← hd]
   have hdN:d ∣ N:=by
    have:=Int.gcd_dvd_right (a - b) (N:Int)
    rw[← hd] at this
    exact Int.natCast_dvd_natCast.1 this
   have hda:(d:Int) ∣ a - b:=by rw[hd];exact Int.gcd_dvd_left (a - b) (N:Int)
   obtain ⟨m,hm⟩:=hdN
   obtain ⟨t,ht⟩:=hda
   have hd0:1≤d:=by
    rcases Nat.eq_zero_or_pos d with e|e
    ·rw[e,Nat.zero_mul] at hm;omega
    ·exact e
   have hm0:1≤m:=by
    rcases Nat.eq_zero_or_pos m with e|e
    ·rw[e,Nat.mul_zero] at hm;omega
    ·exact e
   by_cases hd1:d=1
   ·exact hd1
   ·exfalso
    have hmN:m<N:=by
     have:=Nat.mul_le_mul_right m (show 2≤d by omega)
     omega
    have e1:linS N a b m (N - m)=linS N a b 0 0:=by
     unfold linS
     have:a*(m:Int)+b*((N - m:Nat):Int)=(t+b)*(N:Int):=by
      have e2:((N - m:Nat):Int)=(N:Int) - (m:Int):=by omega
      have e3:(N:Int)=(d:Int)*(m:Int):=by rw[hm,Int.natCast_mul]
      have e4:a=(d:Int)*t+b:=by omega
      rw[e2,e4,Int.add_mul,Int.add_mul,Int.mul_sub,e3,Int.mul_comm (d:Int) t,Int.mul_assoc]
      omega
     rw[this,Int.mul_emod_left]
     simp
    have e5:linS N 1 1 m (N - m)=linS N 1 1 0 0:=by
     unfold linS
     have:(1:Int)*(m:Int)+1*((N - m:Nat):Int)=(N:Int):=by omega
     rw[this,Int.emod_self]
     simp
    have:=hO m (N - m) 0 0 hmN (by omega) (by omega) (by omega) (by rw[hat _ _ _ _ hmN (by omega),hat _ _ _ _ (by omega) (by omega),e1]) (by rw[hat _ _ _ _ hmN (by omega),hat _ _ _ _ (by omega) (by omega),e5])
    omega
  ·intro hg i j i' j' hi hj hi' hj' e1 e2
   rw[hat _ _ _ _ hi hj,hat _ _ _ _ hi' hj'] at e1 e2
   have f1:=emod_dvd (int_nat (lin_range N h1 a b i j).1 (lin_range N h1 a b i' j').1 e1)
   have f2:=emod_dvd (int_nat (lin_range N h1 1 1 i j).1 (lin_range N h1 1 1 i' j').1 e2)
   have f3:=Int.dvd_sub f1 (Int.dvd_mul_of_dvd_right f2:(N:Int) ∣ b*_)
   have f4:a*(i:Int)+b*(j:Int) - (a*(i':Int)+b*(j':Int)) - b*(1*(i:Int)+1*(j:Int) - (1*(i':Int)+1*(j':Int)))=(a - b)*((i:Int) - (i':Int)):=by
    rw[Int.one_mul,Int.one_mul,Int.one_mul,Int.one_mul,Int.mul_sub,Int.mul_add,Int.mul_add,Int.sub_mul,Int.mul_sub,Int.mul_sub]
    omega
   rw[f4] at f3
   have ei:=mul_cancel hg hi hi' f3
   subst ei
   refine ⟨rfl,?_⟩
   rw[show (1:Int)*(i:Int)+1*(j:Int) - (1*(i:Int)+1*(j':Int))=1*((j:Int) - (j':Int)) by omega] at f2
   exact mul_cancel (Int.one_gcd) hj hj' f2
 cases hm:meetR (madeTo N (linS N a b) (N*N)) (madeTo N (linS N 1 1) (N*N)) with
 | none=>rw[Option.isNone_none,decide_eq_true (hO.1 (meetR_none.1 hm))]
 | some x =>
  rw[Option.isNone_some]
  symm
  rw[decide_eq_false_iff_not]
  intro hg
  have:=meetR_none.2 (hO.2 hg)
  rw[hm] at this
  cases this
end
end Go.Proofs.YtmfpdakaeagdpaaGreat
