/- Texts J47 to J78 of this proof, in one file. -/
import Derived.Test.YtpkghjoippcjeaaW01
import Derived.Test.YtpkghjoippcjeaaW02
import Derived.Test.YtpkghjoippcjeaaW03
import Derived.Test.YtpkghjoippcjeaaW04
import Derived.Test.YtpkghjoippcjeaaW05
import Derived.Test.YtpkghjoippcjeaaW06
import Derived.Test.YtpkghjoippcjeaaW09
import Derived.OwnWalkIn
import Derived.OrdersIn
import Derived.RangeFuncCalls
import Derived.TacticsIn
import Derived.Laws.EntriesVeiled
namespace Go.Proofs.Ytpkghjoippcjeaa
set_option maxRecDepth 100000
set_option maxHeartbeats 16000000
section
open Go Go.RowKit
attribute [local go_sem] over_cell
attribute [local go_sem] Oper.semAt_some
-- a zero grid and an error come back;the result's box is bR
-- the arm of a call that makes a grid: its box holds zeros
def sia3:Rul:={ n:=3,s0:=0,s1:=1,x0:=2,x1:=1,y0:=2,y1:=2 }
def L9:List Int:=[8,1,6,3,5,7,4,9,2]
theorem sia3_ok:sia3.ok:=⟨by decide,by decide,by decide,by decide,by decide,by decide,by decide,by decide⟩
theorem sia3_lay:layTo sia3 (sia3.n*sia3.n)=L9:=by decide +kernel
theorem sia3_no:NoMeetR sia3:=by
 have h:∀k:Fin 9,(layTo sia3 k.1)[sia3.cell k.1]?.getD 0=0:=by decide +kernel
 exact fun k hk=>h ⟨k,hk⟩
theorem sia_c (w:World):Calls Try.prog 32 #[.int .i64 3] w (GridM w 3 3 L9):=by
 have HR:Hid (∀W,Calls Try.prog 19 #[.agg #[.int .i64 3,.int .i64 0,.int .i64 1,.int .i64 (-1),.int .i64 1,.int .i64 2,.int .i64 (-1)]] W fun e w'=>e = .returned (.agg #[.int .i64 3,.int .i64 0,.int .i64 1,.int .i64 2,.int .i64 1,.int .i64 2,.int .i64 2])∧Below W.heap.size W w'):=fun W=>ureduced_c 3 0 1 (-1) 1 2 (-1) W (by decide) (by decide)
 have HL:Hid (∀W,Calls Try.prog 20 #[.agg #[.int .i64 3,.int .i64 0,.int .i64 1,.int .i64 2,.int .i64 1,.int .i64 2,.int .i64 2]] W fun e w'=>∃a c,e = .returned (.tuple #[.agg #[.int .i64 3,.int .i64 3,.slice a 9 c],.agg #[.int .i64 0,.int .i64 0],.bool true])∧w'.ownsRow W.heap.size 3 1 (.slice a 9 c) 9 (L9.map (Value.int .i64))∧Below W.heap.size W w'):=by
  intro W
  have:=lay_c sia3 W sia3_ok sia3_no
  rw[sia3_lay] at this
  exact this
 go_enter Try.func32,Try.ntmps32
 go_upto_region 2 with fail
 have fsz:(w.alloc (.cells #[.int .i64 0,.int .i64 0,.slice none 0 0] 31)).heap.size=w.heap.size+1:=by simp only[World.size_alloc]
 have fB:Below w.heap.size w (w.alloc (.cells #[.int .i64 0,.int .i64 0,.slice none 0 0] 31)):=(Below.refl _ _).alloc (Nat.le_refl _) _
 have fq0:(w.alloc (.cells #[.int .i64 0,.int .i64 0,.slice none 0 0] 31)).heap[w.heap.size]?=some (.cells #[.int .i64 0,.int .i64 0,.slice none 0 0] 31 (0,0)):=by have h:=World.alloc_heap_new w (.cells #[.int .i64 0,.int .i64 0,.slice none 0 0] 31);exact h
 generalize (w.alloc (.cells #[.int .i64 0,.int .i64 0,.slice none 0 0] 31))=W0 at fsz fB fq0 ⊢
 have Q0:=Lib.hid fq0
 have hl:=q_lt fq0
 clear fsz fq0
 go_upto_region 3 with (first|(go_at_call 19;refine (HR.out _).mono ?_;rintro _ w1 ⟨rfl,hb1⟩)|(go_at_call 20;refine (HL.out _).mono ?_;rintro _ w2 ⟨a2,c2,rfl,hown2,hb2⟩))
 have gsz:((w2.alloc (.cells #[.int .i64 3,.int .i64 3,.slice a2 9 c2] 31)).alloc (.cells #[.int .i64 0,.int .i64 0] 22)).heap.size=w2.heap.size+2:=by simp only[World.size_alloc] <;> omega
 have gB:Below w2.heap.size w2 ((w2.alloc (.cells #[.int .i64 3,.int .i64 3,.slice a2 9 c2] 31)).alloc (.cells #[.int .i64 0,.int .i64 0] 22)):=((Below.refl _ _).alloc (Nat.le_refl _) _).alloc (by simp only[World.size_alloc];omega) _
 have gq0:((w2.alloc (.cells #[.int .i64 3,.int .i64 3,.slice a2 9 c2] 31)).alloc (.cells #[.int .i64 0,.int .i64 0] 22)).heap[w2.heap.size]?=some (.cells #[.int .i64 3,.int .i64 3,.slice a2 9 c2] 31 (0,0)):=by have h:=World.alloc_heap_new w2 (.cells #[.int .i64 3,.int .i64 3,.slice a2 9 c2] 31);exact (Below.heap_alloc _ _ _ (by simp only[World.size_alloc];omega)).trans (h)
 have gq1:((w2.alloc (.cells #[.int .i64 3,.int .i64 3,.slice a2 9 c2] 31)).alloc (.cells #[.int .i64 0,.int .i64 0] 22)).heap[w2.heap.size+1]?=some (.cells #[.int .i64 0,.int .i64 0] 22 (0,0)):=by have h:=World.alloc_heap_new (w2.alloc (.cells #[.int .i64 3,.int .i64 3,.slice a2 9 c2] 31)) (.cells #[.int .i64 0,.int .i64 0] 22);simp only[World.size_alloc] at h;exact h
 generalize ((w2.alloc (.cells #[.int .i64 3,.int .i64 3,.slice a2 9 c2] 31)).alloc (.cells #[.int .i64 0,.int .i64 0] 22))=W3 at gsz gB gq0 gq1 ⊢
 have hB3:=keep_trans (keep_trans hb1 hb2) gB
 have q1:=keepq hB3 Q0.out
 obtain ⟨x0,x1,x2,xl⟩:=c3_of gq0
 obtain ⟨y0,y1,y2,yl⟩:=c3_of q1
 obtain ⟨yf0,yf1,yf2⟩:=f3_of q1
 have HO:=Lib.hid (owns_keep hown2 (fun j _ hl=>gB.block j hl))
 have QR:=Lib.hid q1
 have hz:=hb1.size
 clear gsz gq0 gq1 hown2 q1
 go_wp2_with fail
 have g3:=st3_q (x0 := .int .i64 3) (x1 := .int .i64 3) (x2 := .slice a2 9 c2) QR.out
 have hown3:=st3_own (x0 := .int .i64 3) (x1 := .int .i64 3) (x2 := .slice a2 9 c2) HO.out (b:=w.heap.size) (fun e=>by have h1:=(HO.out.lt _ e).1;omega)
 have hb3:=st3_below (x0 := .int .i64 3) (x1 := .int .i64 3) (x2 := .slice a2 9 c2) (b:=w.heap.size) (keep_trans fB hB3) (Nat.le_refl _)
 obtain ⟨z0,z1,z2,zl⟩:=c3_of g3
 refine bodyPost_ret (v := .agg #[.int .i64 3,.int .i64 3,.slice a2 9 c2]) ?_ rfl ⟨_,_,rfl,owns_base hown3 (by omega),hb3⟩
 simp[results,Try.f32,go_sem,z0,z1,z2]
theorem orderly_c (w:World):Calls Try.prog 31 #[.int .i64 3,.bool true,.func (.func 32) #[.int .i64 3] #[]] w (GridE w 3 3 L9 0):=by
 have HO:Hid (∀W,Calls Try.prog 39 #[.int .i64 3] W fun e w'=>e = .returned (.int .i64 0)∧W=w'):=fun W=>uorder_c 3 (by decide) (by decide) W
 have HS:=Lib.hid (fun W=>sia_c W)
 have HF:Hid (firstL [0,whenV false 7]=0):=rfl
 go_enter Try.func31,Try.ntmps31
 go_upto_region 1 with fail
 have fsz:(w.alloc (.cells #[.int .i64 0,.int .i64 0,.slice none 0 0] 31)).heap.size=w.heap.size+1:=by simp only[World.size_alloc]
 have fB:Below w.heap.size w (w.alloc (.cells #[.int .i64 0,.int .i64 0,.slice none 0 0] 31)):=(Below.refl _ _).alloc (Nat.le_refl _) _
 have fq0:(w.alloc (.cells #[.int .i64 0,.int .i64 0,.slice none 0 0] 31)).heap[w.heap.size]?=some (.cells #[.int .i64 0,.int .i64 0,.slice none 0 0] 31 (0,0)):=by have h:=World.alloc_heap_new w (.cells #[.int .i64 0,.int .i64 0,.slice none 0 0] 31);exact h
 generalize (w.alloc (.cells #[.int .i64 0,.int .i64 0,.slice none 0 0] 31))=W0 at fsz fB fq0 ⊢
 have Q0:=Lib.hid fq0
 have hl:=q_lt fq0
 clear fsz fq0
 go_upto_region 4 with (first|(go_at_call 39;refine (HO.out _).mono ?_;rintro _ w1 ⟨rfl,rfl⟩)|(go_at_call 21;refine (uwhen_c _ _ _).mono ?_;rintro _ w3 ⟨rfl,rfl⟩)|(go_at_call 33;refine (ufirst_c _ _ _ _ _ (IC.new2 _ _ _ _)).mono ?_;rw[HF.out];rintro _ w4 ⟨rfl,rfl⟩))
 have hA:Below W0.heap.size W0 (W0.alloc (.cells #[.int .i64 0,.int .i64 (whenV false 7)] 32)):=keep_alloc (Below.refl _ _) _
 generalize (W0.alloc (.cells #[.int .i64 0,.int .i64 (whenV false 7)] 32))=W1 at hA ⊢
 have hz:=hA.size
 go_wp2_with (first|(refine (HS.out _).mono ?_;rintro _ w2 ⟨a2,c2,rfl,hown2,hb2⟩;have g1:=keepq hb2 (keepq hA Q0.out);obtain ⟨y0,y1,y2,yl⟩:=c3_of g1;obtain ⟨yf0,yf1,yf2⟩:=f3_of g1)|fail)
 have hlt:w.heap.size≤W1.heap.size:=by omega
 have hne:(Value.slice a2 (L9).length c2).ownBlock≠some (w.heap.size):=fun e=>absurd (hown2.lt _ e).1 (by omega)
 have g3:=st3_q (x0 := .int .i64 3) (x1 := .int .i64 3) (x2 := .slice a2 (L9).length c2) g1
 have hown3:=st3_own (x0 := .int .i64 3) (x1 := .int .i64 3) (x2 := .slice a2 (L9).length c2) hown2 hne
 have hb3:=st3_below (x0 := .int .i64 3) (x1 := .int .i64 3) (x2 := .slice a2 (L9).length c2) (b:=w.heap.size) (keep_trans (keep_trans fB hA) hb2) (by omega)
 obtain ⟨z0,z1,z2,zl⟩:=c3_of g3
 refine bodyPost_ret (v := .tuple #[.agg #[.int .i64 3,.int .i64 3,.slice a2 (L9).length c2],.int .i64 0]) ?_ rfl ⟨_,_,rfl,owns_base hown3 hlt,hb3⟩
 simp[results,Try.f31,go_sem,z0,z1,z2]
theorem siamese_c (w:World):Calls Try.prog 14 #[.int .i64 3] w (GridE w 3 3 L9 0):=by
 have HO:=Lib.hid (fun W=>orderly_c W)
 go_enter Try.func14,Try.ntmps14
 go_upto_region 1 with fail
 have fsz:(w.alloc (.cells #[.int .i64 0,.int .i64 0,.slice none 0 0] 31)).heap.size=w.heap.size+1:=by simp only[World.size_alloc]
 have fB:Below w.heap.size w (w.alloc (.cells #[.int .i64 0,.int .i64 0,.slice none 0 0] 31)):=(Below.refl _ _).alloc (Nat.le_refl _) _
 have fq0:(w.alloc (.cells #[.int .i64 0,.int .i64 0,.slice none 0 0] 31)).heap[w.heap.size]?=some (.cells #[.int .i64 0,.int .i64 0,.slice none 0 0] 31 (0,0)):=by have h:=World.alloc_heap_new w (.cells #[.int .i64 0,.int .i64 0,.slice none 0 0] 31);exact h
 generalize (w.alloc (.cells #[.int .i64 0,.int .i64 0,.slice none 0 0] 31))=W0 at fsz fB fq0 ⊢
 have Q0:=Lib.hid fq0
 have hl:=q_lt fq0
 clear fsz fq0
 go_wp2_with (first|(go_at_call 31;refine (HO.out _).mono ?_;rintro _ w2 ⟨a2,c2,rfl,hown2,hb2⟩;have g1:=keepq hb2 Q0.out;obtain ⟨y0,y1,y2,yl⟩:=c3_of g1;obtain ⟨yf0,yf1,yf2⟩:=f3_of g1)|fail)
 have hlt:w.heap.size≤W0.heap.size:=by omega
 have hne:(Value.slice a2 (L9).length c2).ownBlock≠some (w.heap.size):=fun e=>absurd (hown2.lt _ e).1 (by omega)
 have g3:=st3_q (x0 := .int .i64 3) (x1 := .int .i64 3) (x2 := .slice a2 (L9).length c2) g1
 have hown3:=st3_own (x0 := .int .i64 3) (x1 := .int .i64 3) (x2 := .slice a2 (L9).length c2) hown2 hne
 have hb3:=st3_below (x0 := .int .i64 3) (x1 := .int .i64 3) (x2 := .slice a2 (L9).length c2) (b:=w.heap.size) (keep_trans fB hb2) (by omega)
 obtain ⟨z0,z1,z2,zl⟩:=c3_of g3
 refine bodyPost_ret (v := .tuple #[.agg #[.int .i64 3,.int .i64 3,.slice a2 (L9).length c2],.int .i64 0]) ?_ rfl ⟨_,_,rfl,owns_base hown3 hlt,hb3⟩
 simp[results,Try.f14,go_sem,z0,z1,z2]
end
section
open Go Go.RowKit
attribute [local go_sem] over_cell
attribute [local go_sem] Oper.semAt_some
theorem samegr_c (r C:Int) (a:Option Addr) (n c:Nat) (cs:List Int) (a2:Option Addr) (n2 c2:Nat) (ds:List Int) (w:World) (h:IC w a n cs) (h2:IC w a2 n2 ds) :
  Calls Try.prog 16 #[.agg #[.int .i64 r,.int .i64 C,.slice a n c],.agg #[.int .i64 r,.int .i64 C,.slice a2 n2 c2]] w fun e w'=>e = .returned (.bool (sameB cs ds))∧Below w.heap.size w w':=by
 have HS:=Lib.hid (fun W (hb:Below w.heap.size w W)=>same_c a a2 n n2 c c2 cs ds W (h.mono hb) (h2.mono hb))
 clear h h2
 generalize sameB cs ds=b at HS ⊢
 have hr:(r==r)=true:=by simp
 have hC:(C==C)=true:=by simp
 go_enter Try.func16,Try.ntmps16
 go_upto_region 1 with fail
 have fsz:((w.alloc (.cells #[.int .i64 r,.int .i64 C,.slice a n c] 31)).alloc (.cells #[.int .i64 r,.int .i64 C,.slice a2 n2 c2] 31)).heap.size=w.heap.size+2:=by simp only[World.size_alloc] <;> omega
 have fB:Below w.heap.size w ((w.alloc (.cells #[.int .i64 r,.int .i64 C,.slice a n c] 31)).alloc (.cells #[.int .i64 r,.int .i64 C,.slice a2 n2 c2] 31)):=((Below.refl _ _).alloc (Nat.le_refl _) _).alloc (by simp only[World.size_alloc];omega) _
 have fq0:((w.alloc (.cells #[.int .i64 r,.int .i64 C,.slice a n c] 31)).alloc (.cells #[.int .i64 r,.int .i64 C,.slice a2 n2 c2] 31)).heap[w.heap.size]?=some (.cells #[.int .i64 r,.int .i64 C,.slice a n c] 31 (0,0)):=by have h:=World.alloc_heap_new w (.cells #[.int .i64 r,.int .i64 C,.slice a n c] 31);exact (Below.heap_alloc _ _ _ (by simp only[World.size_alloc];omega)).trans (h)
 have fq1:((w.alloc (.cells #[.int .i64 r,.int .i64 C,.slice a n c] 31)).alloc (.cells #[.int .i64 r,.int .i64 C,.slice a2 n2 c2] 31)).heap[w.heap.size+1]?=some (.cells #[.int .i64 r,.int .i64 C,.slice a2 n2 c2] 31 (0,0)):=by have h:=World.alloc_heap_new (w.alloc (.cells #[.int .i64 r,.int .i64 C,.slice a n c] 31)) (.cells #[.int .i64 r,.int .i64 C,.slice a2 n2 c2] 31);simp only[World.size_alloc] at h;exact h
 generalize ((w.alloc (.cells #[.int .i64 r,.int .i64 C,.slice a n c] 31)).alloc (.cells #[.int .i64 r,.int .i64 C,.slice a2 n2 c2] 31))=W0 at fsz fB fq0 fq1 ⊢
 obtain ⟨x0,x1,x2,xl⟩:=c3_of fq0
 obtain ⟨y0,y1,y2,yl⟩:=c3_of fq1
 clear fsz fq0 fq1
 go_wp2_with (first|(go_at_call 36;refine (HS.out _ fB).mono ?_;rintro _ w1 ⟨rfl,hb1⟩)|fail)
 go_ret
 exact ⟨rfl,keep_trans fB hb1⟩
def A9:List Int:=[1,0,2,2,1,0,0,2,1]
def B9:List Int:=[2,0,1,0,1,2,1,2,0]
theorem nor9:Nor 3 L9:=⟨by decide,by decide,by decide,by decide +kernel⟩
theorem digA9:dAL 3 L9=A9:=by decide +kernel
theorem digB9:dBL 3 L9=B9:=by decide +kernel
theorem fd9:fdL 3 A9 B9=L9:=by decide +kernel
theorem sqA9:Sq 3 A9:=⟨by decide,by decide,by decide,fun k=>by
 by_cases h:k<9
 ·have:∀k:Fin 9,0≤A9[k.1]?.getD 0∧A9[k.1]?.getD 0<3:=by decide +kernel
  exact this ⟨k,h⟩
 ·rw[List.getElem?_eq_none (by show A9.length≤k;have:A9.length=9:=rfl;omega)];decide⟩
theorem sqB9:Sq 3 B9:=⟨by decide,by decide,by decide,fun k=>by
 by_cases h:k<9
 ·have:∀k:Fin 9,0≤B9[k.1]?.getD 0∧B9[k.1]?.getD 0<3:=by decide +kernel
  exact this ⟨k,h⟩
 ·rw[List.getElem?_eq_none (by show B9.length≤k;have:B9.length=9:=rfl;omega)];decide⟩
theorem orth9:orthV 3 3 A9 3 3 B9 = .tuple #[.bool true,.int .i64 0]:=by
 have h1:twoE 3 3 A9 3 3 B9=0:=by decide +kernel
 have h2:(meetR A9 B9).isNone=true:=by decide +kernel
 unfold orthV
 rw[if_pos h1,h2]
theorem IC.own9 {w:World} {B:Nat} {a:Option Addr} {c:Nat} {xs:List Int} (h:w.ownsRow B 3 1 (.slice a 9 c) 9 (xs.map (Value.int .i64))) (hl:xs.length=9):IC w a 9 xs:=(IC.own h hl (by decide)).1
theorem pairs_c (w:World):Calls Try.prog 5 #[] w fun e w'=>e = .returned (.bool true)∧Below w.heap.size w w':=by
 have HSI:Hid (∀W,Calls Try.prog 14 #[.int .i64 3] W fun e w'=>∃a c,e = .returned (.tuple #[.agg #[.int .i64 3,.int .i64 3,.slice a 9 c],.int .i64 0])∧w'.ownsRow W.heap.size 3 1 (.slice a 9 c) 9 (L9.map (Value.int .i64))∧Below W.heap.size W w'):=fun W=>siamese_c W
 have HDI:Hid (∀W a c,IC W a 9 L9→Calls Try.prog 8 #[.agg #[.int .i64 3,.int .i64 3,.slice a 9 c]] W fun e w'=>∃a1 c1 a2 c2,e = .returned (.tuple #[.agg #[.int .i64 3,.int .i64 3,.slice a1 9 c1],.agg #[.int .i64 3,.int .i64 3,.slice a2 9 c2],.int .i64 0]) ∧
   w'.ownsRow W.heap.size 3 1 (.slice a1 9 c1) 9 (A9.map (Value.int .i64))∧w'.ownsRow W.heap.size 3 1 (.slice a2 9 c2) 9 (B9.map (Value.int .i64))∧Below W.heap.size W w'):=by
  intro W a c h
  have:=digits_c 3 a 9 c L9 W h nor9
  rw[digA9,digB9] at this
  exact this
 have HOR:Hid (∀W a1 c1 a2 c2,IC W a1 9 A9→IC W a2 9 B9→Calls Try.prog 11 #[.agg #[.int .i64 3,.int .i64 3,.slice a1 9 c1],.agg #[.int .i64 3,.int .i64 3,.slice a2 9 c2]] W fun e w'=>e = .returned (.tuple #[.bool true,.int .i64 0])∧Below W.heap.size W w'):=by
  intro W a1 c1 a2 c2 h1 h2
  have:=orth_c 3 3 3 3 a1 9 c1 A9 a2 9 c2 B9 W h1 h2
  rw[orth9] at this
  exact this
 have HFD:Hid (∀W a1 c1 a2 c2,IC W a1 9 A9→IC W a2 9 B9→Calls Try.prog 15 #[.agg #[.int .i64 3,.int .i64 3,.slice a1 9 c1],.agg #[.int .i64 3,.int .i64 3,.slice a2 9 c2]] W fun e w'=>∃a c,e = .returned (.tuple #[.agg #[.int .i64 3,.int .i64 3,.slice a 9 c],.int .i64 0])∧w'.ownsRow W.heap.size 3 1 (.slice a 9 c) 9 (L9.map (Value.int .i64))∧Below W.heap.size W w'):=by
  intro W a1 c1 a2 c2 h1 h2
  have:=fromdig_c 3 a1 9 c1 A9 a2 9 c2 B9 W h1 h2 sqA9 sqB9
  rw[fd9,nor9.nor] at this
  exact this
 have HSA:Hid (∀W a1 c1 a2 c2,IC W a1 9 L9→IC W a2 9 L9→Calls Try.prog 16 #[.agg #[.int .i64 3,.int .i64 3,.slice a1 9 c1],.agg #[.int .i64 3,.int .i64 3,.slice a2 9 c2]] W fun e w'=>e = .returned (.bool true)∧Below W.heap.size W w'):=fun W a1 c1 a2 c2 h1 h2=>samegr_c 3 3 a1 9 c1 L9 a2 9 c2 L9 W h1 h2
 go_enter Try.func5,Try.ntmps5
 go_upto_region 2 with (first|(go_at_call 14;refine (HSI.out _).mono ?_;rintro _ w1 ⟨a1,c1,rfl,hown1,hb1⟩))
 have hc1:Hid (IC w1 a1 9 L9):=IC.own9 hown1 rfl
 clear hown1
 have fsz:(w1.alloc (.cells #[.int .i64 3,.int .i64 3,.slice a1 9 c1] 31)).heap.size=w1.heap.size+1:=by simp only[World.size_alloc]
 have fB:Below w1.heap.size w1 (w1.alloc (.cells #[.int .i64 3,.int .i64 3,.slice a1 9 c1] 31)):=(Below.refl _ _).alloc (Nat.le_refl _) _
 have fq0:(w1.alloc (.cells #[.int .i64 3,.int .i64 3,.slice a1 9 c1] 31)).heap[w1.heap.size]?=some (.cells #[.int .i64 3,.int .i64 3,.slice a1 9 c1] 31 (0,0)):=by have h:=World.alloc_heap_new w1 (.cells #[.int .i64 3,.int .i64 3,.slice a1 9 c1] 31);exact h
 generalize (w1.alloc (.cells #[.int .i64 3,.int .i64 3,.slice a1 9 c1] 31))=W1 at fsz fB fq0 ⊢
 have ic1:=Lib.hid (hc1.out.mono fB)
 have hB1:=Lib.hid (keep_trans hb1 fB)
 have Q1:=Lib.hid fq0
 obtain ⟨x0,x1,x2,xl⟩:=c3_of fq0
 clear fsz fq0 fB hb1 hc1
 go_upto_region 3 with (first|(go_at_call 8;refine (HDI.out _ _ _ ic1.out).mono ?_;rintro _ w2 ⟨a3,c3,a4,c4,rfl,hown3,hown4,hb2⟩))
 have hc3:Hid (IC w2 a3 9 A9):=IC.own9 hown3 rfl
 have hc4:Hid (IC w2 a4 9 B9):=IC.own9 hown4 rfl
 clear hown3 hown4 x0 x1 x2 xl
 have gsz:((w2.alloc (.cells #[.int .i64 3,.int .i64 3,.slice a3 9 c3] 31)).alloc (.cells #[.int .i64 3,.int .i64 3,.slice a4 9 c4] 31)).heap.size=w2.heap.size+2:=by simp only[World.size_alloc] <;> omega
 have gB:Below w2.heap.size w2 ((w2.alloc (.cells #[.int .i64 3,.int .i64 3,.slice a3 9 c3] 31)).alloc (.cells #[.int .i64 3,.int .i64 3,.slice a4 9 c4] 31)):=((Below.refl _ _).alloc (Nat.le_refl _) _).alloc (by simp only[World.size_alloc];omega) _
 have gq0:((w2.alloc (.cells #[.int .i64 3,.int .i64 3,.slice a3 9 c3] 31)).alloc (.cells #[.int .i64 3,.int .i64 3,.slice a4 9 c4] 31)).heap[w2.heap.size]?=some (.cells #[.int .i64 3,.int .i64 3,.slice a3 9 c3] 31 (0,0)):=by have h:=World.alloc_heap_new w2 (.cells #[.int .i64 3,.int .i64 3,.slice a3 9 c3] 31);exact (Below.heap_alloc _ _ _ (by simp only[World.size_alloc];omega)).trans (h)
 have gq1:((w2.alloc (.cells #[.int .i64 3,.int .i64 3,.slice a3 9 c3] 31)).alloc (.cells #[.int .i64 3,.int .i64 3,.slice a4 9 c4] 31)).heap[w2.heap.size+1]?=some (.cells #[.int .i64 3,.int .i64 3,.slice a4 9 c4] 31 (0,0)):=by have h:=World.alloc_heap_new (w2.alloc (.cells #[.int .i64 3,.int .i64 3,.slice a3 9 c3] 31)) (.cells #[.int .i64 3,.int .i64 3,.slice a4 9 c4] 31);simp only[World.size_alloc] at h;exact h
 generalize ((w2.alloc (.cells #[.int .i64 3,.int .i64 3,.slice a3 9 c3] 31)).alloc (.cells #[.int .i64 3,.int .i64 3,.slice a4 9 c4] 31))=W2 at gsz gB gq0 gq1 ⊢
 have ic3:=Lib.hid (hc3.out.mono gB)
 have ic4:=Lib.hid (hc4.out.mono gB)
 have hB2:=Lib.hid (keep_trans hb2 gB)
 have Q3:=Lib.hid gq0
 have Q4:=Lib.hid gq1
 obtain ⟨x0,x1,x2,xl⟩:=c3_of gq0
 obtain ⟨y0,y1,y2,yl⟩:=c3_of gq1
 clear gsz gq0 gq1 gB hb2 hc3 hc4
 go_upto_region 4 with (first|(go_at_call 11;refine (HOR.out _ _ _ _ _ ic3.out ic4.out).mono ?_;rintro _ w3 ⟨rfl,hb3⟩))
 have HB3:=Lib.hid hb3
 have ic3':=Lib.hid (ic3.out.mono hb3)
 have ic4':=Lib.hid (ic4.out.mono hb3)
 clear x0 x1 x2 xl y0 y1 y2 yl
 obtain ⟨x0,x1,x2,xl⟩:=c3_of (keepq hb3 Q3.out)
 obtain ⟨y0,y1,y2,yl⟩:=c3_of (keepq hb3 Q4.out)
 clear hb3
 go_upto_region 5 with (first|(go_at_call 15;refine (HFD.out _ _ _ _ _ ic3'.out ic4'.out).mono ?_;rintro _ w4 ⟨a5,c5,rfl,hown5,hb4⟩))
 have hc5:Hid (IC w4 a5 9 L9):=IC.own9 hown5 rfl
 clear hown5 x0 x1 x2 xl y0 y1 y2 yl
 have ksz:(w4.alloc (.cells #[.int .i64 3,.int .i64 3,.slice a5 9 c5] 31)).heap.size=w4.heap.size+1:=by simp only[World.size_alloc]
 have kB:Below w4.heap.size w4 (w4.alloc (.cells #[.int .i64 3,.int .i64 3,.slice a5 9 c5] 31)):=(Below.refl _ _).alloc (Nat.le_refl _) _
 have kq0:(w4.alloc (.cells #[.int .i64 3,.int .i64 3,.slice a5 9 c5] 31)).heap[w4.heap.size]?=some (.cells #[.int .i64 3,.int .i64 3,.slice a5 9 c5] 31 (0,0)):=by have h:=World.alloc_heap_new w4 (.cells #[.int .i64 3,.int .i64 3,.slice a5 9 c5] 31);exact h
 generalize (w4.alloc (.cells #[.int .i64 3,.int .i64 3,.slice a5 9 c5] 31))=W4 at ksz kB kq0 ⊢
 have ic5:=Lib.hid (hc5.out.mono kB)
 have hB4:=keep_trans (keep_trans hB2.out HB3.out) (keep_trans hb4 kB)
 have HB4:=Lib.hid hB4
 have ic1':=Lib.hid (ic1.out.mono hB4)
 have q1:=keepq hB4 Q1.out
 obtain ⟨x0,x1,x2,xl⟩:=c3_of kq0
 obtain ⟨y0,y1,y2,yl⟩:=c3_of q1
 obtain ⟨b,off,rfl,hb,hc⟩:=ic1'.out.2 0 (by decide)
 have hc0:W4.cell? ⟨b,off,none⟩=some (.int .i64 8):=hc
 have Q1':=Lib.hid q1
 clear ksz kq0 kB hb4 hc5 hc hB4 q1
 go_wp2_with (first|(go_at_call 16;refine (HSA.out _ _ _ _ _ ic5.out ic1'.out).mono ?_;rintro _ w5 ⟨rfl,hb5⟩;have h5:=(hb5.cell hb).trans hc0;have hb9:=Nat.lt_of_lt_of_le hb hb5.size;clear y0 y1 y2 yl;obtain ⟨y0,y1,y2,yl⟩:=c3_of (keepq hb5 Q1'.out))|fail)
 go_ret
 exact ⟨rfl,keep_trans (keep_trans hB1.out HB4.out) hb5⟩
end
section
open Go Go.RowKit
section
variable {P:Program} {ops:Array Oper} {Q:Exit→Act→World→Prop} {md:Region.Mode} {n:Nat} {S:World→Prop} {late:Nat→Bool}
end
end
section
open Go Go.RowKit
attribute [local go_sem] over_cell
end
section
open Go Go.RowKit
attribute [local go_sem] over_cell
attribute [local go_sem] Oper.semAt_some
end
section
open Go Go.RowKit
attribute [local go_sem] over_cell
attribute [local go_sem] Oper.semAt_some
theorem hold2_c0 (v0 v1:Value) (T:TypeId) (b:Nat) (u:World):(hold (.cells #[v0,v1] T (0,0)) b u).cell? ⟨b,0,none⟩=some v0:=q_cell (hold_heap _ b u) 0
theorem hold2_c1 (v0 v1:Value) (T:TypeId) (b:Nat) (u:World):(hold (.cells #[v0,v1] T (0,0)) b u).cell? ⟨b,1,none⟩=some v1:=q_cell (hold_heap _ b u) 1
attribute [local go_sem] hold2_c0 hold2_c1
end
section
open Go Go.RowKit
attribute [local go_sem] over_cell
attribute [local go_sem] Oper.semAt_some
end
section
open Go Go.RowKit
attribute [local go_sem] over_cell
attribute [local go_sem] Oper.semAt_some
end
section
open Go Go.RowKit
attribute [local go_sem] over_cell
attribute [local go_sem] Oper.semAt_some
variable {P:Program}
end
section
theorem gcd_emod (a:Int) (n:Int):Int.gcd (a % n) n=Int.gcd a n:=by
 rw[Int.gcd_comm,Int.gcd_comm a n]
 conv=>rhs;rw[← Int.emod_add_mul_ediv a n]
 exact (Int.gcd_add_mul_left_right n (a % n) (a / n)).symm
end
section
def onceX (n:Nat) (cs:List Int) (col:Nat→Int) (i:Nat):Int:=cs[i*n+(col i % (n:Int)).toNat]?.getD 0
def onceXs (n:Nat) (cs:List Int) (col:Nat→Int) (k:Nat):List Int:=(List.range k).map (onceX n cs col)
theorem onceXs_succ (n:Nat) (cs:List Int) (col:Nat→Int) (k:Nat):onceXs n cs col (k+1)=onceXs n cs col k++[onceX n cs col k]:=by
 unfold onceXs;rw[List.range_succ,List.map_append];rfl
def onceB (n:Nat) (cs:List Int) (col:Nat→Int):Bool:=(List.range n).all fun i=>!(onceXs n cs col i).contains (onceX n cs col i)
def kRed (n:Nat) (cs:List Int):Bool:=decide (cs=reduL (-1) n cs)
def kSym (n:Nat) (cs:List Int):Bool:=(List.range (n*n)).all fun k=>cs[k]?.getD 0==cs[k % n*n+k / n]?.getD 0
def kIde (n:Nat) (cs:List Int):Bool:=(List.range n).all fun i=>cs[i*n+i]?.getD 0==(i:Int)
def kUni (n:Nat) (cs:List Int):Bool:=(List.range n).all fun i=>cs[i*n+i]?.getD 0==cs[0]?.getD 0
def kDia (n:Nat) (cs:List Int):Bool:=onceB n cs (fun i=>(i:Int))&&onceB n cs (fun i=>(n:Int) - 1 - (i:Int))
def kPan (n:Nat) (cs:List Int):Bool:=(List.range n).all fun k=>onceB n cs (fun i=>(i:Int)+(k:Int))&&onceB n cs (fun i=>(k:Int) - (i:Int))
def symM (n:Nat) (r:List Int) (x y:Nat):Nat:=(r[x*n+y]?.getD 0).toNat
def kGrp (n:Nat) (cs:List Int):Bool:=(List.range (n*n*n)).all fun k =>
 symM n (reduL (-1) n cs) (symM n (reduL (-1) n cs) (k / n / n) (k / n % n)) (k % n)==symM n (reduL (-1) n cs) (k / n / n) (symM n (reduL (-1) n cs) (k / n % n) (k % n))
def kindsB (n:Nat) (cs:List Int):List Bool:=[kRed n cs,kSym n cs,kIde n cs,kUni n cs,kDia n cs,kPan n cs,kGrp n cs]
def kindTo (n:Nat) (cs:List Int) (m:Nat):List Nat:=(List.range m).filter fun i=>(kindsB n cs)[i]?.getD false
theorem kindTo_succ (n:Nat) (cs:List Int) (m:Nat):kindTo n cs (m+1)=if (kindsB n cs)[m]?.getD false=true then kindTo n cs m++[m] else kindTo n cs m:=by
 unfold kindTo
 rw[List.range_succ,List.filter_append]
 split
 ·rename_i h
  rw[List.filter_cons,if_pos h,List.filter_nil]
 ·rename_i h
  rw[List.filter_cons,if_neg h,List.filter_nil,List.append_nil]
theorem allr_upto {p:Nat→Bool} {n:Nat} (h:∀i,i<n→p i=true):(List.range n).all p=true:=List.all_eq_true.2 fun i hi=>h i (List.mem_range.1 hi)
theorem allr_miss {p:Nat→Bool} {n k:Nat} (hk:k<n) (h:p k=false):(List.range n).all p=false:=by
 rw[Bool.eq_false_iff]
 intro ha
 have:=List.all_eq_true.1 ha k (List.mem_range.2 hk)
 rw[h] at this;cases this
end
section
open Go Go.RowKit
attribute [local go_sem] over_cell
attribute [local go_sem] Oper.semAt_some
end
section
open Go Go.RowKit
attribute [local go_sem] over_cell
attribute [local go_sem] Oper.semAt_some
end
section
open Go Go.RowKit
attribute [local go_sem] over_cell
attribute [local go_sem] Oper.semAt_some
end
section
open Go Go.RowKit
attribute [local go_sem] over_cell
attribute [local go_sem] Oper.semAt_some
theorem every_c (n:Nat) (hn:n≤100000) (fk:Nat) (fst caps:Array Value) (p:Nat→Bool) (I:Nat→World→Prop) (w:World)
  (hcf:∀args w,Sem.run Try.prog (callFunc fk args) w = .ok (.enter fk args) w) (h0:I 0 w)
  (hs:∀k:Nat,k<n→∀W,I k W→Calls Try.prog fk (fst.push (.int .i64 (k:Int))++caps) W (fun e w'=>e = .returned (.bool (p k))∧I (k+1) w')) :
  Calls Try.prog 53 #[.int .i64 (n:Int),.func (.func fk) fst caps] w fun e w'=>e = .returned (.bool ((List.range n).all p))∧∃k,I k w':=by
 have HS:=Lib.hid hs
 have H0:=Lib.hid h0
 clear hs h0
 go_enter Try.func53,Try.ntmps53
 go_wp2_with fail
 go_loopw [4,5,7] (fun _ _ s7 wr=>∃k:Nat,k≤n∧s7 = .int .i64 (k:Int)∧Hid (I k wr)∧Hid (∀j,j<k→p j=true)) (fun _ _ s7 _=>n - (intOf s7).toNat)
 case atStart=>exact ⟨0,by omega,rfl,H0,fun j h=>absurd h (by omega)⟩
 case round =>
  obtain ⟨k,hk1,rfl,hI,hp⟩:=hrel
  by_cases hlt:k<n
  ·have hkI:(k:Int)<(n:Int):=by omega
   have HC:=Lib.hid (HS.out k hlt _ hI.out)
   cases hb:p k with
   | true =>
    have HP:=Lib.hid hb
    rw[hb] at HC
    clear hb
    go_wp2_with (first|(refine HC.out.mono ?_;rintro _ w1 ⟨rfl,hi1⟩)|fail)
    go_roundw
    case rel=>exact ⟨k+1,by omega,by go_num,hi1,fun j hj=>by
      by_cases e:j=k
      ·rw[e];exact HP.out
      ·exact hp.out j (by omega)⟩
    case measure=>simp[intOf];omega
   | false =>
    have HA:=Lib.hid (allr_miss hlt hb)
    rw[hb] at HC
    clear hb
    go_wp2_with (first|(refine HC.out.mono ?_;rintro _ w1 ⟨rfl,hi1⟩)|fail)
    refine bodyPost_ret (v := .bool false) ?_ rfl ⟨by rw[HA.out],k+1,hi1⟩
    simp[results,Try.f53,go_sem]
  ·have e:k=n:=by omega
   subst e
   have HA:=Lib.hid (allr_upto hp.out)
   go_wp2_with fail
   refine bodyPost_ret (v := .bool true) ?_ rfl ⟨by rw[HA.out],k,hI.out⟩
   simp[results,Try.f53,go_sem]
end
section
open Go Go.RowKit
attribute [local go_sem] over_cell
attribute [local go_sem] Oper.semAt_some
theorem once1_c (N i:Nat) (a:Option Addr) (m c:Nat) (cs:List Int) (bl bf bs fk:Nat) (fst caps:Array Value) (col:Nat→Int) (w:World) (h:IC w a m cs) (L:Latin N cs) (hi:i<N)
  (q1:w.heap[bl]?=some (.cells #[.int .i64 (N:Int),.int .i64 (N:Int),.slice a m c] 31 (0,0)))
  (q2:w.heap[bf]?=some (.cells #[.func (.func fk) fst caps] 81 (0,0)))
  (q3:w.heap[bs]?=some (.cells #[.int .u32 (bitsOf (onceXs N cs col i):Int)] 96 (0,0)))
  (hcf:∀args w,Sem.run Try.prog (callFunc fk args) w = .ok (.enter fk args) w)
  (hs:∀W,Below w.heap.size w W→Calls Try.prog fk (fst.push (.int .i64 (i:Int))++caps) W (fun e w'=>e = .returned (.int .i64 (col i))∧Below W.heap.size W w')) :
  Calls Try.prog 79 #[.int .i64 (i:Int),.pointer (some ⟨bl,0,none⟩),.pointer (some ⟨bf,0,none⟩),.pointer (some ⟨bs,0,none⟩)] w fun e w'=>e = .returned (.bool (!(onceXs N cs col i).contains (onceX N cs col i)))∧w'.heap[bs]?=some (.cells #[.int .u32 (bitsOf (onceXs N cs col (i+1)):Int)] 96 (0,0))∧Below bs w w'∧w.heap.size≤w'.heap.size:=by
 have hN1:=L.pos
 have hN2:=L.le
 have hm:m=N*N:=by rw[← h.len];exact L.len
 obtain ⟨x0,x1,x2,xl⟩:=c3_of q1
 obtain ⟨y0,yf,yl⟩:=c1_of q2
 have Q3:=Lib.hid q3
 have HS:=Lib.hid hs
 obtain ⟨jn,hjn⟩:∃jn:Nat,col i % (N:Int)=(jn:Int):=⟨(col i % (N:Int)).toNat,by have:=Int.emod_nonneg (col i) (show (N:Int)≠0 by omega);omega⟩
 have hjN:jn<N:=by have:=Int.emod_lt_of_pos (col i) (show (0:Int)<(N:Int) by omega);omega
 have HM:Hid (∀W,Calls Try.prog 80 #[.int .i64 (col i),.int .i64 (N:Int)] W fun e w'=>e = .returned (.int .i64 (jn:Int))∧W=w'):=fun W=>by have:=modulo_c (col i) N W hN1 (by omega);rw[hjn] at this;exact this
 have HX:onceX N cs col i=cs[i*N+jn]?.getD 0:=by unfold onceX;rw[hjn];rfl
 have hXb:=L.num
 have HAT:Hid (∀W,Below w.heap.size w W→Calls Try.prog 55 #[.agg #[.int .i64 (N:Int),.int .i64 (N:Int),.slice a m c],.int .i64 (i:Int),.int .i64 (jn:Int)] W fun e w'=>e = .returned (.int .i64 (onceX N cs col i))∧Below W.heap.size W w'):=fun W hb=>by rw[HX];exact lat_c (N:Int) N i jn a m c cs W (h.mono hb) (by omega) (by omega) hjN (by rw[hm];exact gcell_lt hi hjN)
 have hnum:∀k,k<N→0≤onceX N cs col k∧onceX N cs col k<(N:Int):=by
  intro k hk
  unfold onceX
  have h1:=Int.emod_nonneg (col k) (show (N:Int)≠0 by omega)
  have h2:=Int.emod_lt_of_pos (col k) (show (0:Int)<(N:Int) by omega)
  have hlt:k*N+(col k % (N:Int)).toNat<cs.length:=by rw[L.len];exact gcell_lt hk (by omega)
  rw[List.getElem?_eq_getElem hlt,Option.getD_some]
  exact L.num _ (List.getElem_mem hlt)
 have hall:∀y,y∈onceXs N cs col i→0≤y∧y<(N:Int):=by
  intro y hy
  unfold onceXs at hy
  obtain ⟨k,hk,rfl⟩:=List.mem_map.1 hy
  exact hnum k (by have:=List.mem_range.1 hk;omega)
 have hmb:bitsOf (onceXs N cs col i)<4294967296:=Nat.lt_of_lt_of_le (bitsOf_lt (n:=N) (fun y hy=>hall y hy)) (Nat.le_trans (Nat.pow_le_pow_right (by decide) (show N≤32 by omega)) (by decide))
 have hX:=hnum i hi
 have HB:(bitsOf (onceXs N cs col i)).testBit (onceX N cs col i).toNat=(onceXs N cs col i).contains (onceX N cs col i):=by
  rw[Bool.eq_iff_iff,bitsOf_bit (fun y hy=>(hall y hy).1),List.contains_iff_mem,show ((onceX N cs col i).toNat:Int)=onceX N cs col i by omega]
 have HSU:=Lib.hid (show bitsOf (onceXs N cs col (i+1))=bitsOf (onceXs N cs col i) ||| 1 <<< (onceX N cs col i).toNat by rw[onceXs_succ,bitsOf_snoc])
 have HW:=Lib.hid (fun W=>sywith_c (bitsOf (onceXs N cs col i)) (onceX N cs col i) W hmb hX.1 (by omega))
 have HH:=Lib.hid (fun W=>syhas_c (bitsOf (onceXs N cs col i)) (onceX N cs col i) W hmb hX.1 (by omega))
 rw[HB] at HH
 rw[← HSU.out] at HW
 clear HB HX hnum hall hXb q3 hs hjn h hm L q1 q2
 generalize (onceXs N cs col i).contains (onceX N cs col i)=bb at HH ⊢
 generalize onceX N cs col i=X at HAT HW HH HSU hX
 go_enter Try.func79,Try.ntmps79
 go_upto_region 1 with fail
 refine wp_region_S (fun w'=>∃u,w'=over (w) u) [9,8] [(0,0),(0,1),(0,2),(0,3),(0,5),(0,6),(1,4),(1,7),(2,8),(2,9)] (by kernel_rfl) (by kernel_rfl) (by exact ⟨_,below_over (by repeat (first|assumption|exact Below.refl _ _|refine keep_drew ?_|refine keep_alloc ?_ _|refine keep_trans ?_ (by assumption)))⟩) ?_
 dsimp only[pickOps,nthOp]
 repeat (first|(refine wpS_skip rfl (fun K hK=>?_);go_big_quiet_op;refine hK _ ?_;clear hK K)|(refine wpS_quiet rfl rfl (fun K hK=>?_);go_big_quiet_op;refine hK _ ?_;clear hK K)|(refine wpS_loud ?_;go_wp2_with (first|(go_at_call 80;refine (HM.out _).mono ?_;rintro _ w2 ⟨rfl,rfl⟩)|(go_at_call 55;refine (HAT.out _ (by (repeat (first|assumption|exact Below.refl _ _|refine keep_drew ?_|refine keep_alloc ?_ _|refine keep_trans ?_ (by assumption))))).mono ?_;rintro _ w3 ⟨rfl,hb5⟩)|(with_reducible refine (HS.out _ (by (repeat (first|assumption|exact Below.refl _ _|refine keep_drew ?_|refine keep_alloc ?_ _|refine keep_trans ?_ (by assumption))))).mono ?_;rintro _ w1 ⟨rfl,hb3⟩)|fail);refine ⟨?_,?_⟩;focus (exact ⟨_,below_over (by repeat (first|assumption|exact Below.refl _ _|refine keep_drew ?_|refine keep_alloc ?_ _|refine keep_trans ?_ (by assumption)))⟩)))
 refine wpS_late _ _ _ rfl ?_
 dsimp only[List.map]
 go_wp2_with (first|(go_at_call 80;refine (HM.out _).mono ?_;rintro _ w2 ⟨rfl,rfl⟩)|(go_at_call 55;refine (HAT.out _ (by (repeat (first|assumption|exact Below.refl _ _|refine keep_drew ?_|refine keep_alloc ?_ _|refine keep_trans ?_ (by assumption))))).mono ?_;rintro _ w3 ⟨rfl,hb5⟩)|(with_reducible refine (HS.out _ (by (repeat (first|assumption|exact Below.refl _ _|refine keep_drew ?_|refine keep_alloc ?_ _|refine keep_trans ?_ (by assumption))))).mono ?_;rintro _ w1 ⟨rfl,hb3⟩)|fail)
 refine NoPanic.normal ?_
 have hW3:Below w.heap.size w w3:=by (repeat (first|assumption|exact Below.refl _ _|refine keep_drew ?_|refine keep_alloc ?_ _|refine keep_trans ?_ (by assumption)))
 have q3:=keepq hW3 Q3.out
 obtain ⟨z0,zf,zl⟩:=c1_of q3
 have HW3:=Lib.hid hW3
 have q4:=Lib.hid q3
 clear x0 x1 x2 xl y0 yf yl hW3 q3
 go_wp2_with (first|(go_at_call 81;refine (HH.out _).mono ?_;rintro _ w6 ⟨rfl,rfl⟩)|(go_at_call 82;refine (HW.out _).mono ?_;rintro _ w7 ⟨rfl,rfl⟩)|fail)
 have q5:=q_set (i:=0) q4.out (.int .u32 (bitsOf (onceXs N cs col (i+1)):Int))
 have hbs:=q_lt Q3.out
 have hb6:=(HW3.out.mono (Nat.le_of_lt hbs)).setCell (p:=⟨bs,0,none⟩) (Nat.le_refl _) (.int .u32 (bitsOf (onceXs N cs col (i+1)):Int))
 have hsz:=Nat.le_trans HW3.out.size (KeepsOthers.setCell w3 ⟨bs,0,none⟩ (.int .u32 (bitsOf (onceXs N cs col (i+1)):Int))).size
 refine bodyPost_ret (v := .bool (!bb)) ?_ rfl ⟨rfl,q5,hb6,hsz⟩
 simp[results,Try.f79,go_sem]
theorem enterOnce:∀args w,Sem.run Try.prog (callFunc 79 args) w = .ok (.enter 79 args) w:=by
 intro args w;kernel_rfl
theorem lonce_c (N:Nat) (a:Option Addr) (m c:Nat) (cs:List Int) (fk:Nat) (fst caps:Array Value) (col:Nat→Int) (w:World) (h:IC w a m cs) (L:Latin N cs)
  (hcf:∀args w,Sem.run Try.prog (callFunc fk args) w = .ok (.enter fk args) w)
  (hs:∀i:Nat,i<N→∀W,Below w.heap.size w W→Calls Try.prog fk (fst.push (.int .i64 (i:Int))++caps) W (fun e w'=>e = .returned (.int .i64 (col i))∧Below W.heap.size W w')) :
  Calls Try.prog 61 #[.agg #[.int .i64 (N:Int),.int .i64 (N:Int),.slice a m c],.func (.func fk) fst caps] w fun e w'=>e = .returned (.bool (onceB N cs col))∧Below w.heap.size w w':=by
 have HS:=Lib.hid hs
 have HL:=Lib.hid L
 have HI:=Lib.hid h
 have hN2:=L.le
 clear hs h L
 go_enter Try.func61,Try.ntmps61
 go_upto_region 2 with fail
 have fsz:(((w.alloc (.cells #[.int .i64 (N:Int),.int .i64 (N:Int),.slice a m c] 31)).alloc (.cells #[.func (.func fk) fst caps] 81)).alloc (.cells #[.int .u32 0] 96)).heap.size=w.heap.size+3:=by simp only[World.size_alloc] <;> omega
 have fB:Below w.heap.size w (((w.alloc (.cells #[.int .i64 (N:Int),.int .i64 (N:Int),.slice a m c] 31)).alloc (.cells #[.func (.func fk) fst caps] 81)).alloc (.cells #[.int .u32 0] 96)):=(((Below.refl _ _).alloc (Nat.le_refl _) _).alloc (by simp only[World.size_alloc];omega) _).alloc (by simp only[World.size_alloc];omega) _
 have fq0:(((w.alloc (.cells #[.int .i64 (N:Int),.int .i64 (N:Int),.slice a m c] 31)).alloc (.cells #[.func (.func fk) fst caps] 81)).alloc (.cells #[.int .u32 0] 96)).heap[w.heap.size]?=some (.cells #[.int .i64 (N:Int),.int .i64 (N:Int),.slice a m c] 31 (0,0)):=by have h:=World.alloc_heap_new w (.cells #[.int .i64 (N:Int),.int .i64 (N:Int),.slice a m c] 31);exact (Below.heap_alloc _ _ _ (by simp only[World.size_alloc];omega)).trans ((Below.heap_alloc _ _ _ (by simp only[World.size_alloc];omega)).trans (h))
 have fq1:(((w.alloc (.cells #[.int .i64 (N:Int),.int .i64 (N:Int),.slice a m c] 31)).alloc (.cells #[.func (.func fk) fst caps] 81)).alloc (.cells #[.int .u32 0] 96)).heap[w.heap.size+1]?=some (.cells #[.func (.func fk) fst caps] 81 (0,0)):=by have h:=World.alloc_heap_new (w.alloc (.cells #[.int .i64 (N:Int),.int .i64 (N:Int),.slice a m c] 31)) (.cells #[.func (.func fk) fst caps] 81);simp only[World.size_alloc] at h;exact (Below.heap_alloc _ _ _ (by simp only[World.size_alloc];omega)).trans (h)
 have fq2:(((w.alloc (.cells #[.int .i64 (N:Int),.int .i64 (N:Int),.slice a m c] 31)).alloc (.cells #[.func (.func fk) fst caps] 81)).alloc (.cells #[.int .u32 0] 96)).heap[w.heap.size+1+1]?=some (.cells #[.int .u32 0] 96 (0,0)):=by have h:=World.alloc_heap_new ((w.alloc (.cells #[.int .i64 (N:Int),.int .i64 (N:Int),.slice a m c] 31)).alloc (.cells #[.func (.func fk) fst caps] 81)) (.cells #[.int .u32 0] 96);simp only[World.size_alloc] at h;exact h
 generalize (((w.alloc (.cells #[.int .i64 (N:Int),.int .i64 (N:Int),.slice a m c] 31)).alloc (.cells #[.func (.func fk) fst caps] 81)).alloc (.cells #[.int .u32 0] 96))=W0 at fsz fB fq0 fq1 fq2 ⊢
 obtain ⟨x0,x1,x2,xl⟩:=c3_of fq0
 have hEV:=every_c N (by omega) 79 #[] #[.pointer (some ⟨w.heap.size,0,none⟩),.pointer (some ⟨w.heap.size+1,0,none⟩),.pointer (some ⟨w.heap.size+1+1,0,none⟩)]
  (fun i=>!(onceXs N cs col i).contains (onceX N cs col i)) (fun k W=>W.heap[w.heap.size+1+1]?=some (.cells #[.int .u32 (bitsOf (onceXs N cs col k):Int)] 96 (0,0))∧Below (w.heap.size+1+1) W0 W) W0 enterOnce ⟨fq2,Below.refl _ _⟩ (fun k hk W hI=>by
   obtain ⟨g3,hb⟩:=hI
   have hbw:Below w.heap.size w W:=fB.trans (hb.mono (by omega))
   refine (once1_c N k a m c cs w.heap.size (w.heap.size+1) (w.heap.size+1+1) fk fst caps col W (HI.out.mono hbw) HL.out hk ((hb.block _ (by omega)).trans fq0) ((hb.block _ (by omega)).trans fq1) g3 hcf (fun W' hb'=>HS.out k hk W' (keep_trans hbw hb'))).mono ?_
   rintro e w' ⟨rfl,g4,hb4,_⟩
   exact ⟨rfl,g4,hb.trans hb4⟩)
 have HEV:=Lib.hid hEV
 have FB:=Lib.hid fB
 have hsz:w.heap.size+3=W0.heap.size:=fsz.symm
 clear hEV fq0 fq1 fq2 fB fsz
 go_wp2_with (first|(go_at_call 53;refine HEV.out.mono ?_;rintro _ w6 ⟨rfl,k,g3,hb6⟩)|fail)
 refine bodyPost_ret (v := .bool (onceB N cs col)) ?_ rfl ⟨rfl,FB.out.trans (hb6.mono (by omega))⟩
 simp[results,Try.f61,go_sem,onceB]
end
end Go.Proofs.Ytpkghjoippcjeaa
