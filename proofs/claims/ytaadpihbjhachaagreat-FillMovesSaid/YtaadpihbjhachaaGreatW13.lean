/- Texts H4 to H6 of this proof, in one file. -/
import Derived.Test.YtaadpihbjhachaaGreatW10
import Derived.Test.YtaadpihbjhachaaGreatW12
import Derived.Deep.CutBlock
import Derived.Deep.CutRange
namespace Go.Proofs.YtaadpihbjhachaaGreat
set_option maxRecDepth 100000
set_option maxHeartbeats 16000000
section
open Go Go.RowKit
attribute [local go_sem] zv
attribute [local go_sem] Oper.semAt_some
def jS (Ms:List Nat) (k:Nat):List Nat:=(Ms.take k).filter fun s=>sizeM s==1
theorem singTo_hit {Ms:List Nat} {k:Nat} (h:k<Ms.length) (e:sizeM (Ms[k]?.getD 0)=1):jS Ms (k+1)=jS Ms k++[Ms[k]?.getD 0]:=by
 unfold jS;rw[zP Ms 0 k h,List.filter_append];simp[e]
theorem singTo_miss {Ms:List Nat} {k:Nat} (h:k<Ms.length) (e:¬sizeM (Ms[k]?.getD 0)=1):jS Ms (k+1)=jS Ms k:=by
 unfold jS;rw[zP Ms 0 k h,List.filter_append];simp[e]
theorem singTo_len (Ms:List Nat) (k:Nat):(jS Ms k).length≤k:=by
 unfold jS
 refine Nat.le_trans (List.length_filter_le _ _) ?_
 rw[List.length_take];omega
theorem once_c (b:Nat) (t0 t1 t2 t3:Value) (a:Option Addr) (n c M:Nat) (Ms:List Nat) (w:World) (hb:w.heap[b]?=some (.cells (jY t0 t1 t2 t3 a n c M) 150 (0,0))) (h:SL w a n Ms) (hn:n≤256) :
  Calls Tryz.prog 216 #[.pointer (some ⟨b,0,none⟩)] w fun e w'=>e = .returned (.tuple #[optV (onceR Ms),.bool (onceR Ms).isSome])∧Below w.heap.size w w':=by
 obtain ⟨i0,hi,hz0,hzz,hz2⟩:=info_parts infoSet
 have H:=za h
 have HB:=za hb
 have hml:=za h.1.1
 have c4:w.cell? ⟨b,4,none⟩=some (.slice a n c):=zc hb 4
 have hbl:=zy hb
 clear h hb
 go_enter Tryz.func216,Tryz.ntmps216
 go_wp2_with fail
 have fsz:(w.alloc (.cells #[.string ⟨#[]⟩,.int .i64 0,.int .i64 0,.int .i64 0] 214)).heap.size=w.heap.size+1:=by simp only[World.size_alloc]
 have fB:Below w.heap.size w (w.alloc (.cells #[.string ⟨#[]⟩,.int .i64 0,.int .i64 0,.int .i64 0] 214)):=(Below.refl _ _).alloc (Nat.le_refl _) _
 have fq0:(w.alloc (.cells #[.string ⟨#[]⟩,.int .i64 0,.int .i64 0,.int .i64 0] 214)).heap[w.heap.size]?=some (.cells #[.string ⟨#[]⟩,.int .i64 0,.int .i64 0,.int .i64 0] 214 (0,0)):=by have h:=World.alloc_heap_new w (.cells #[.string ⟨#[]⟩,.int .i64 0,.int .i64 0,.int .i64 0] 214);exact h
 generalize (w.alloc (.cells #[.string ⟨#[]⟩,.int .i64 0,.int .i64 0,.int .i64 0] 214))=W0 at fsz fB fq0 ⊢
 have fsz':w.heap.size<W0.heap.size:=by omega
 clear fsz
 have HQB:=za (zm fB HB.out)
 have HR0:=za fq0
 clear fq0 c4
 go_loopw [4,6,18] (fun v _ i wr=>∃(k:Nat) (a9:Option Addr) (c9:Nat),k≤n∧i = .int .i64 k∧v = .slice a9 (jS Ms k).length c9∧wr.ownsRow W0.heap.size 148 4 (.slice a9 (jS Ms k).length c9) (jS Ms k).length (jB (jS Ms k))∧Below W0.heap.size W0 wr) (fun _ _ i _=>n - (intOf i).toNat)
 case atStart=>exact ⟨0,none,0,by omega,rfl,rfl,World.ownsRow_nil _ _ _ _,Below.refl _ _⟩
 case round =>
  obtain ⟨k,a9,c9,hk,rfl,rfl,hown,hbr⟩:=hrel
  have hBr:=fB.trans (hbr.mono fB.size)
  by_cases hlt:k<n
  ·obtain ⟨b8,off,rfl,hb8,hc⟩:=(H.out.mono hBr).2 k hlt
   have e0:wr.cell? ⟨b8,off+k*4,none⟩=some (.int .u64 ((ze (Ms[k]?.getD 0) 0:Nat):Int)):=by simpa using hc 0 (by decide)
   have e1:=hc 1 (by decide)
   have e2:=hc 2 (by decide)
   have e3:=hc 3 (by decide)
   have hkl:k<Ms.length:=by rw[hml.out];exact hlt
   have HHIT:=za (fun e=>singTo_hit hkl e)
   have HMISS:=za (fun e=>singTo_miss hkl e)
   have hsl:=singTo_len Ms k
   generalize Ms[k]?.getD 0=E at *
   clear hc hkl
   go_wp2_with fail
   have gsz:(wr.alloc (.cells #[.int .u64 ((ze E 0:Nat):Int),.int .u64 ((ze E 1:Nat):Int),.int .u64 ((ze E 2:Nat):Int),.int .u64 ((ze E 3:Nat):Int)] 148)).heap.size=wr.heap.size+1:=by simp only[World.size_alloc]
   have gB:Below wr.heap.size wr (wr.alloc (.cells #[.int .u64 ((ze E 0:Nat):Int),.int .u64 ((ze E 1:Nat):Int),.int .u64 ((ze E 2:Nat):Int),.int .u64 ((ze E 3:Nat):Int)] 148)):=(Below.refl _ _).alloc (Nat.le_refl _) _
   have gq0:(wr.alloc (.cells #[.int .u64 ((ze E 0:Nat):Int),.int .u64 ((ze E 1:Nat):Int),.int .u64 ((ze E 2:Nat):Int),.int .u64 ((ze E 3:Nat):Int)] 148)).heap[wr.heap.size]?=some (.cells #[.int .u64 ((ze E 0:Nat):Int),.int .u64 ((ze E 1:Nat):Int),.int .u64 ((ze E 2:Nat):Int),.int .u64 ((ze E 3:Nat):Int)] 148 (0,0)):=by have h:=World.alloc_heap_new wr (.cells #[.int .u64 ((ze E 0:Nat):Int),.int .u64 ((ze E 1:Nat):Int),.int .u64 ((ze E 2:Nat):Int),.int .u64 ((ze E 3:Nat):Int)] 148);exact h
   generalize (wr.alloc (.cells #[.int .u64 ((ze E 0:Nat):Int),.int .u64 ((ze E 1:Nat):Int),.int .u64 ((ze E 2:Nat):Int),.int .u64 ((ze E 3:Nat):Int)] 148))=W1 at gsz gB gq0 ⊢
   have HG:=za gq0
   replace gq0:W1.heap[wr.heap.size]?=some (.cells (setA E) 148 (0,0)):=gq0
   have s0:(W1).cell? ⟨wr.heap.size,0,none⟩=some (.int .u64 ((ze (E) 0:Nat):Int)):=zc (gq0) 0
   have s1:(W1).cell? ⟨wr.heap.size,1,none⟩=some (.int .u64 ((ze (E) 1:Nat):Int)):=zc (gq0) 1
   have s2:(W1).cell? ⟨wr.heap.size,2,none⟩=some (.int .u64 ((ze (E) 2:Nat):Int)):=zc (gq0) 2
   have s3:(W1).cell? ⟨wr.heap.size,3,none⟩=some (.int .u64 ((ze (E) 3:Nat):Int)):=zc (gq0) 3
   have sl:=zy (gq0)
   have gsz':wr.heap.size<W1.heap.size:=by omega
   have hb1:=hbr.trans (gB.mono hbr.size)
   have hown1:W1.ownsRow W0.heap.size 148 4 (.slice a9 (jS Ms k).length c9) (jS Ms k).length (jB (jS Ms k)):=zw hown (fun j e hl=>gB.block j hl)
   clear e0 e1 e2 e3 gq0 gsz hown
   go_wp2_with fail
   refine (size_u E _).mono ?_
   rintro _ w2 ⟨rfl,hb2⟩
   have hown2:w2.ownsRow W0.heap.size 148 4 (.slice a9 (jS Ms k).length c9) (jS Ms k).length (jB (jS Ms k)):=zw hown1 (fun j e hl=>hb2.block j hl)
   have hq2:w2.heap[wr.heap.size]?=some (.cells (setA E) 148 (0,0)):=zm hb2 HG.out
   have r0:(w2).cell? ⟨wr.heap.size,0,none⟩=some (.int .u64 ((ze (E) 0:Nat):Int)):=zc (hq2) 0
   have r1:(w2).cell? ⟨wr.heap.size,1,none⟩=some (.int .u64 ((ze (E) 1:Nat):Int)):=zc (hq2) 1
   have r2:(w2).cell? ⟨wr.heap.size,2,none⟩=some (.int .u64 ((ze (E) 2:Nat):Int)):=zc (hq2) 2
   have r3:(w2).cell? ⟨wr.heap.size,3,none⟩=some (.int .u64 ((ze (E) 3:Nat):Int)):=zc (hq2) 3
   have rl:=zy (hq2)
   have hb2':=hb1.trans (hb2.mono hb1.size)
   have hszs:=sizeM_le E
   have hz2':=hb2'.size
   clear s0 s1 s2 s3 hown1
   obtain ⟨sz,hsz⟩:∃sz,sizeM E=sz:=⟨_,rfl⟩
   rw[hsz] at HHIT HMISS hszs
   rw[hsz]
   clear hsz
   by_cases h1:sz=1
   ·have HN:=za (HHIT.out h1)
    have h1b:(((sz:Nat):Int)==1)=true:=by rw[h1];rfl
    clear h1
    go_wp2_with (first|(at_builtin;refine wpList_append_own _ rfl _ _ 145 rfl W0.heap.size 148 i0 (.agg #[.int .u64 0,.int .u64 0,.int .u64 0,.int .u64 0]) 4 32 Tryz.underlying145 hi hz0 hzz hz2 rfl (by decide) _ _ _ rfl (hown2.alloc _) ⟨w2.heap.size,0,none⟩ 1 1 (setA E).toList rfl rfl (cell_new4 _ _ _ _ _ _) (by simp[setA,Value.oneCell']) (by unfold maxLen;omega) (by omega) (by simp;omega) ?_))
    intro v' w3 hown' hgrow _
    obtain ⟨av,cv,rfl⟩:=zM hown'
    have hB3:Below W0.heap.size W0 w3:=hb2'.trans ((jR hgrow).below (B:=W0.heap.size) (by omega) (fun i e=>zL hown2 e))
    have hown3:w3.ownsRow W0.heap.size 148 4 (.slice av (jS Ms (k+1)).length cv) (jS Ms (k+1)).length (jB (jS Ms (k+1))):=by
     rw[HN.out,setsL_snoc];simpa using hown'
    have hlen3:(jS Ms (k+1)).length=(jS Ms k).length+1:=by rw[HN.out];simp
    clear hown' hgrow hown2
    go_wp2_with fail
    go_roundw
    case rel=>exact ⟨k+1,av,cv,by omega,by go_num,by rw[hlen3],hown3,hB3⟩
    case measure=>simp[intOf];omega
   ·have HN:=za (HMISS.out h1)
    have h1b:(((sz:Nat):Int)==1)=false:=by simp;omega
    clear h1
    go_wp2_with fail
    go_roundw
    case rel=>exact ⟨k+1,a9,c9,by omega,by go_num,by rw[HN.out],by rw[HN.out];exact hown2,hb2'⟩
    case measure=>simp[intOf];omega
  ·have e:k=n:=by omega
   subst e
   have hst:jS Ms k=qj Ms:=by unfold jS qj;rw[List.take_of_length_le (by rw[hml.out];omega)]
   have hsl:=singTo_len Ms k
   rw[hst] at hown hsl
   rw[hst]
   have hSL:=(SL.of_owns hown (by omega)).1
   have hone:Hid (onceR Ms=findN k (onceAt (qd (qj Ms) (qj Ms).length) (jV (qj Ms) (qj Ms).length) Ms)):=by unfold Hid onceR oneM twoM;rw[hml.out]
   have HC:=za (counted_u a9 (qj Ms).length c9 (qj Ms) wr hSL)
   clear hown hst hSL hsl
   go_wp2_with fail
   refine HC.out.mono ?_
   rintro _ w1 ⟨rfl,hb1⟩
   obtain ⟨O,hO⟩:∃O,qd (qj Ms) (qj Ms).length=O:=⟨_,rfl⟩
   obtain ⟨T,hT⟩:∃T,jV (qj Ms) (qj Ms).length=T:=⟨_,rfl⟩
   rw[hO,hT]
   rw[hO,hT] at hone
   clear HC hO hT
   have hqb1:=zm hb1 (zm hbr HQB.out)
   have d4:w1.cell? ⟨b,4,none⟩=some (.slice a k c):=zc hqb1 4
   have hbb:=zy hqb1
   clear hqb1
   go_wp2_with fail
   have gsz:((w1.alloc (.cells #[.int .u64 ((ze O 0:Nat):Int),.int .u64 ((ze O 1:Nat):Int),.int .u64 ((ze O 2:Nat):Int),.int .u64 ((ze O 3:Nat):Int)] 148)).alloc (.cells #[.int .u64 ((ze T 0:Nat):Int),.int .u64 ((ze T 1:Nat):Int),.int .u64 ((ze T 2:Nat):Int),.int .u64 ((ze T 3:Nat):Int)] 148)).heap.size=w1.heap.size+2:=by simp only[World.size_alloc] <;> omega
   have gB:Below w1.heap.size w1 ((w1.alloc (.cells #[.int .u64 ((ze O 0:Nat):Int),.int .u64 ((ze O 1:Nat):Int),.int .u64 ((ze O 2:Nat):Int),.int .u64 ((ze O 3:Nat):Int)] 148)).alloc (.cells #[.int .u64 ((ze T 0:Nat):Int),.int .u64 ((ze T 1:Nat):Int),.int .u64 ((ze T 2:Nat):Int),.int .u64 ((ze T 3:Nat):Int)] 148)):=((Below.refl _ _).alloc (Nat.le_refl _) _).alloc (by simp only[World.size_alloc];omega) _
   have gq0:((w1.alloc (.cells #[.int .u64 ((ze O 0:Nat):Int),.int .u64 ((ze O 1:Nat):Int),.int .u64 ((ze O 2:Nat):Int),.int .u64 ((ze O 3:Nat):Int)] 148)).alloc (.cells #[.int .u64 ((ze T 0:Nat):Int),.int .u64 ((ze T 1:Nat):Int),.int .u64 ((ze T 2:Nat):Int),.int .u64 ((ze T 3:Nat):Int)] 148)).heap[w1.heap.size]?=some (.cells #[.int .u64 ((ze O 0:Nat):Int),.int .u64 ((ze O 1:Nat):Int),.int .u64 ((ze O 2:Nat):Int),.int .u64 ((ze O 3:Nat):Int)] 148 (0,0)):=by have h:=World.alloc_heap_new w1 (.cells #[.int .u64 ((ze O 0:Nat):Int),.int .u64 ((ze O 1:Nat):Int),.int .u64 ((ze O 2:Nat):Int),.int .u64 ((ze O 3:Nat):Int)] 148);exact (Below.heap_alloc _ _ _ (by simp only[World.size_alloc];omega)).trans (h)
   have gq1:((w1.alloc (.cells #[.int .u64 ((ze O 0:Nat):Int),.int .u64 ((ze O 1:Nat):Int),.int .u64 ((ze O 2:Nat):Int),.int .u64 ((ze O 3:Nat):Int)] 148)).alloc (.cells #[.int .u64 ((ze T 0:Nat):Int),.int .u64 ((ze T 1:Nat):Int),.int .u64 ((ze T 2:Nat):Int),.int .u64 ((ze T 3:Nat):Int)] 148)).heap[w1.heap.size+1]?=some (.cells #[.int .u64 ((ze T 0:Nat):Int),.int .u64 ((ze T 1:Nat):Int),.int .u64 ((ze T 2:Nat):Int),.int .u64 ((ze T 3:Nat):Int)] 148 (0,0)):=by have h:=World.alloc_heap_new (w1.alloc (.cells #[.int .u64 ((ze O 0:Nat):Int),.int .u64 ((ze O 1:Nat):Int),.int .u64 ((ze O 2:Nat):Int),.int .u64 ((ze O 3:Nat):Int)] 148)) (.cells #[.int .u64 ((ze T 0:Nat):Int),.int .u64 ((ze T 1:Nat):Int),.int .u64 ((ze T 2:Nat):Int),.int .u64 ((ze T 3:Nat):Int)] 148);simp only[World.size_alloc] at h;exact h
   generalize ((w1.alloc (.cells #[.int .u64 ((ze O 0:Nat):Int),.int .u64 ((ze O 1:Nat):Int),.int .u64 ((ze O 2:Nat):Int),.int .u64 ((ze O 3:Nat):Int)] 148)).alloc (.cells #[.int .u64 ((ze T 0:Nat):Int),.int .u64 ((ze T 1:Nat):Int),.int .u64 ((ze T 2:Nat):Int),.int .u64 ((ze T 3:Nat):Int)] 148))=W1 at gsz gB gq0 gq1 ⊢
   replace gq0:W1.heap[w1.heap.size]?=some (.cells (setA O) 148 (0,0)):=gq0
   replace gq1:W1.heap[w1.heap.size+1]?=some (.cells (setA T) 148 (0,0)):=gq1
   have hz0':=fB.size
   have hz1':=hbr.size
   have hz2':=hb1.size
   have gsz':w1.heap.size+1<W1.heap.size:=by omega
   clear gsz
   have hB1:Below W0.heap.size W0 W1:=hbr.trans ((hb1.trans (gB.mono hb1.size)).mono hbr.size)
   have hQB1:=za (zm hB1 HQB.out)
   have HO1:=za gq0
   have HT1:=za gq1
   have HR1:=za (zm hB1 HR0.out)
   clear gq0 gq1 d4 hbb
   go_loopw [9,10,11,12,40] (fun _ _ _ _ i wv=>∃j:Nat,j≤k∧i = .int .i64 j∧Hid (∀i,i<j→onceAt O T Ms i=none)∧Below W1.heap.size W1 wv) (fun _ _ _ _ i _=>k - (intOf i).toNat)
   case atStart=>exact ⟨0,by omega,rfl,fun i hi=>absurd hi (by omega),Below.refl _ _⟩
   case round =>
    obtain ⟨j,hj,rfl,hno,hbj⟩:=hrel
    have hszj:=hbj.size
    have hBj:Below w.heap.size w wr:=fB.trans ((hB1.trans (hbj.mono hB1.size)).mono fB.size)
    have HRj:=za (zm hbj HR1.out)
    by_cases hltj:j<k
    ·obtain ⟨b8,off,rfl,hb8,hc⟩:=(H.out.mono hBj).2 j hltj
     have e0:wr.cell? ⟨b8,off+j*4,none⟩=some (.int .u64 ((ze (Ms[j]?.getD 0) 0:Nat):Int)):=by simpa using hc 0 (by decide)
     have e1:=hc 1 (by decide)
     have e2:=hc 2 (by decide)
     have e3:=hc 3 (by decide)
     have HAT:Hid (onceAt O T Ms j=if 0<onceF O T (Ms[j]?.getD 0) then some (0,j,onceF O T (Ms[j]?.getD 0),-1) else none):=rfl
     have HF:Hid (∀E,onceF O T E=zJ (if sizeM E=1 then E &&& T else E &&& O) 0):=fun _=>rfl
     generalize Ms[j]?.getD 0=E at *
     clear hc
     have HOj:=za (zm hbj HO1.out)
     have o0:(wr).cell? ⟨w1.heap.size,0,none⟩=some (.int .u64 ((ze (O) 0:Nat):Int)):=zc (HOj.out) 0
     have o1:(wr).cell? ⟨w1.heap.size,1,none⟩=some (.int .u64 ((ze (O) 1:Nat):Int)):=zc (HOj.out) 1
     have o2:(wr).cell? ⟨w1.heap.size,2,none⟩=some (.int .u64 ((ze (O) 2:Nat):Int)):=zc (HOj.out) 2
     have o3:(wr).cell? ⟨w1.heap.size,3,none⟩=some (.int .u64 ((ze (O) 3:Nat):Int)):=zc (HOj.out) 3
     have ol:=zy (HOj.out)
     go_wp2_with fail
     have ksz:(wr.alloc (.cells #[.int .u64 ((ze E 0:Nat):Int),.int .u64 ((ze E 1:Nat):Int),.int .u64 ((ze E 2:Nat):Int),.int .u64 ((ze E 3:Nat):Int)] 148)).heap.size=wr.heap.size+1:=by simp only[World.size_alloc]
     have kB:Below wr.heap.size wr (wr.alloc (.cells #[.int .u64 ((ze E 0:Nat):Int),.int .u64 ((ze E 1:Nat):Int),.int .u64 ((ze E 2:Nat):Int),.int .u64 ((ze E 3:Nat):Int)] 148)):=(Below.refl _ _).alloc (Nat.le_refl _) _
     have kq0:(wr.alloc (.cells #[.int .u64 ((ze E 0:Nat):Int),.int .u64 ((ze E 1:Nat):Int),.int .u64 ((ze E 2:Nat):Int),.int .u64 ((ze E 3:Nat):Int)] 148)).heap[wr.heap.size]?=some (.cells #[.int .u64 ((ze E 0:Nat):Int),.int .u64 ((ze E 1:Nat):Int),.int .u64 ((ze E 2:Nat):Int),.int .u64 ((ze E 3:Nat):Int)] 148 (0,0)):=by have h:=World.alloc_heap_new wr (.cells #[.int .u64 ((ze E 0:Nat):Int),.int .u64 ((ze E 1:Nat):Int),.int .u64 ((ze E 2:Nat):Int),.int .u64 ((ze E 3:Nat):Int)] 148);exact h
     generalize (wr.alloc (.cells #[.int .u64 ((ze E 0:Nat):Int),.int .u64 ((ze E 1:Nat):Int),.int .u64 ((ze E 2:Nat):Int),.int .u64 ((ze E 3:Nat):Int)] 148))=W2 at ksz kB kq0 ⊢
     replace kq0:W2.heap[wr.heap.size]?=some (.cells (setA E) 148 (0,0)):=kq0
     have HE2:=za kq0
     have HT2:=za (zm kB (zm hbj HT1.out))
     have HR2:=za (zm kB HRj.out)
     have kB':=hbj.trans (kB.mono hszj)
     clear e0 e1 e2 e3 kq0 ksz o0 o1 o2 o3 ol
     refine (and_v E O _).mono ?_
     rintro _ w3 ⟨rfl,hb3⟩
     have HE3:=za (zm hb3 HE2.out)
     have HT3:=za (zm hb3 HT2.out)
     have HR3:=za (zm hb3 HR2.out)
     have hB3:=kB'.trans (hb3.mono kB'.size)
     obtain ⟨X,hX⟩:∃X,E &&& O=X:=⟨_,rfl⟩
     rw[hX]
     have HX:=za hX
     clear hX
     have s0:(w3).cell? ⟨wr.heap.size,0,none⟩=some (.int .u64 ((ze (E) 0:Nat):Int)):=zc (HE3.out) 0
     have s1:(w3).cell? ⟨wr.heap.size,1,none⟩=some (.int .u64 ((ze (E) 1:Nat):Int)):=zc (HE3.out) 1
     have s2:(w3).cell? ⟨wr.heap.size,2,none⟩=some (.int .u64 ((ze (E) 2:Nat):Int)):=zc (HE3.out) 2
     have s3:(w3).cell? ⟨wr.heap.size,3,none⟩=some (.int .u64 ((ze (E) 3:Nat):Int)):=zc (HE3.out) 3
     have sl:=zy (HE3.out)
     go_wp2_with fail
     have msz:(w3.alloc (.cells #[.int .u64 ((ze X 0:Nat):Int),.int .u64 ((ze X 1:Nat):Int),.int .u64 ((ze X 2:Nat):Int),.int .u64 ((ze X 3:Nat):Int)] 148)).heap.size=w3.heap.size+1:=by simp only[World.size_alloc]
     have mB:Below w3.heap.size w3 (w3.alloc (.cells #[.int .u64 ((ze X 0:Nat):Int),.int .u64 ((ze X 1:Nat):Int),.int .u64 ((ze X 2:Nat):Int),.int .u64 ((ze X 3:Nat):Int)] 148)):=(Below.refl _ _).alloc (Nat.le_refl _) _
     have mq0:(w3.alloc (.cells #[.int .u64 ((ze X 0:Nat):Int),.int .u64 ((ze X 1:Nat):Int),.int .u64 ((ze X 2:Nat):Int),.int .u64 ((ze X 3:Nat):Int)] 148)).heap[w3.heap.size]?=some (.cells #[.int .u64 ((ze X 0:Nat):Int),.int .u64 ((ze X 1:Nat):Int),.int .u64 ((ze X 2:Nat):Int),.int .u64 ((ze X 3:Nat):Int)] 148 (0,0)):=by have h:=World.alloc_heap_new w3 (.cells #[.int .u64 ((ze X 0:Nat):Int),.int .u64 ((ze X 1:Nat):Int),.int .u64 ((ze X 2:Nat):Int),.int .u64 ((ze X 3:Nat):Int)] 148);exact h
     generalize (w3.alloc (.cells #[.int .u64 ((ze X 0:Nat):Int),.int .u64 ((ze X 1:Nat):Int),.int .u64 ((ze X 2:Nat):Int),.int .u64 ((ze X 3:Nat):Int)] 148))=W4 at msz mB mq0 ⊢
     replace mq0:W4.heap[w3.heap.size]?=some (.cells (setA X) 148 (0,0)):=mq0
     have HX4:=za mq0
     have HE4:=za (zm mB HE3.out)
     have HT4:=za (zm mB HT3.out)
     have HR4:=za (zm mB HR3.out)
     have hB4:=hB3.trans (mB.mono hB3.size)
     clear s0 s1 s2 s3 sl mq0 msz
     refine (size_u E _).mono ?_
     rintro _ w5 ⟨rfl,hb5⟩
     have HX5:=za (zm hb5 HX4.out)
     have HR5:=za (zm hb5 HR4.out)
     have hB5:=hB4.trans (hb5.mono hB4.size)
     have hFE:=za (HF.out E)
     obtain ⟨sz,hsz⟩:∃sz,sizeM E=sz:=⟨_,rfl⟩
     rw[hsz] at hFE
     rw[hsz]
     clear hsz
     by_cases h1:sz=1
     ·rw[if_pos h1] at hFE
      have h1b:(((sz:Nat):Int)==1)=true:=by rw[h1];rfl
      clear h1
      have HE5:=za (zm hb5 HE4.out)
      have HT5:=za (zm hb5 HT4.out)
      have s0:(w5).cell? ⟨wr.heap.size,0,none⟩=some (.int .u64 ((ze (E) 0:Nat):Int)):=zc (HE5.out) 0
      have s1:(w5).cell? ⟨wr.heap.size,1,none⟩=some (.int .u64 ((ze (E) 1:Nat):Int)):=zc (HE5.out) 1
      have s2:(w5).cell? ⟨wr.heap.size,2,none⟩=some (.int .u64 ((ze (E) 2:Nat):Int)):=zc (HE5.out) 2
      have s3:(w5).cell? ⟨wr.heap.size,3,none⟩=some (.int .u64 ((ze (E) 3:Nat):Int)):=zc (HE5.out) 3
      have sl:=zy (HE5.out)
      have t0:(w5).cell? ⟨w1.heap.size+1,0,none⟩=some (.int .u64 ((ze (T) 0:Nat):Int)):=zc (HT5.out) 0
      have t1:(w5).cell? ⟨w1.heap.size+1,1,none⟩=some (.int .u64 ((ze (T) 1:Nat):Int)):=zc (HT5.out) 1
      have t2:(w5).cell? ⟨w1.heap.size+1,2,none⟩=some (.int .u64 ((ze (T) 2:Nat):Int)):=zc (HT5.out) 2
      have t3:(w5).cell? ⟨w1.heap.size+1,3,none⟩=some (.int .u64 ((ze (T) 3:Nat):Int)):=zc (HT5.out) 3
      have tl:=zy (HT5.out)
      go_wp2_with fail
      refine (and_v E T _).mono ?_
      rintro _ w6 ⟨rfl,hb6⟩
      obtain ⟨Y,hY⟩:∃Y,E &&& T=Y:=⟨_,rfl⟩
      rw[hY]
      rw[hY] at hFE
      clear hY
      have hB6:=hB5.trans (hb6.mono hB5.size)
      have HX6:=za (zm hb6 HX5.out)
      have HR6:=za (zm hb6 HR5.out)
      have x0:(w6).cell? ⟨w3.heap.size,0,none⟩=some (.int .u64 ((ze (X) 0:Nat):Int)):=zc (HX6.out) 0
      have xf0:(w6).frozen? ⟨w3.heap.size,0,none⟩=false:=zo (HX6.out) 0
      have x1:(w6).cell? ⟨w3.heap.size,1,none⟩=some (.int .u64 ((ze (X) 1:Nat):Int)):=zc (HX6.out) 1
      have xf1:(w6).frozen? ⟨w3.heap.size,1,none⟩=false:=zo (HX6.out) 1
      have x2:(w6).cell? ⟨w3.heap.size,2,none⟩=some (.int .u64 ((ze (X) 2:Nat):Int)):=zc (HX6.out) 2
      have xf2:(w6).frozen? ⟨w3.heap.size,2,none⟩=false:=zo (HX6.out) 2
      have x3:(w6).cell? ⟨w3.heap.size,3,none⟩=some (.int .u64 ((ze (X) 3:Nat):Int)):=zc (HX6.out) 3
      have xf3:(w6).frozen? ⟨w3.heap.size,3,none⟩=false:=zo (HX6.out) 3
      have xl:=zy (HX6.out)
      clear s0 s1 s2 s3 t0 t1 t2 t3 sl tl
      go_upto_region 15 with fail
      have hl3:=hB3.size
      have HXW:=za (put4_self (N:=Y) HX6.out)
      have HRW:=za (kb (b:=w3.heap.size) (N:=Y) HR6.out (by have:=fB.size;have:=hB1.size;have:=zy HRj.out;omega))
      have hB7:Below W1.heap.size W1 (put4 w6 w3.heap.size Y):=put4_below hB6 (by omega)
      generalize hW7:put4 w6 w3.heap.size Y=W7 at HXW HRW hB7
      unfold put4 at hW7
      rw[hW7]
      clear hW7 x0 x1 x2 x3 xf0 xf1 xf2 xf3 xl
      have hvl:=kk Y 0
      have HAB:=za (qR w3.heap.size 0 Y 0 W7 (SetC.ofA HXW.out) (by omega))
      have hBW:Below w.heap.size w W7:=fB.trans ((hB1.trans (hB7.mono hB1.size)).mono fB.size)
      generalize zJ Y 0=V at *
      rw[hFE.out] at HAT
      by_cases h0:0<V
      ·rw[if_pos h0] at HAT
       have hV:(0:Int)<(V:Int):=by omega
       have HON:=za (hone.out.trans (qF hno.out hltj HAT.out))
       clear h0
       go_wp2_with fail
       refine HAB.out.mono ?_
       rintro _ w9 ⟨rfl,rfl⟩
       have r0:W7.cell? ⟨w.heap.size,0,none⟩=some (.string ⟨#[]⟩):=zc HRW.out 0
       have r1:W7.cell? ⟨w.heap.size,1,none⟩=some (.int .i64 0):=zc HRW.out 1
       have r2:W7.cell? ⟨w.heap.size,2,none⟩=some (.int .i64 0):=zc HRW.out 2
       have r3:W7.cell? ⟨w.heap.size,3,none⟩=some (.int .i64 0):=zc HRW.out 3
       have rf0:=zo HRW.out 0
       have rf1:=zo HRW.out 1
       have rf2:=zo HRW.out 2
       have rf3:=zo HRW.out 3
       have rl:=zy HRW.out
       go_wp2
       have r:=zC (i:=3) (zC (i:=2) (zC (i:=1) (zC (i:=0) HRW.out (.string ⟨#[111,110,99,101]⟩)) (.int .i64 ((j:Nat)))) (.int .i64 ((V:Nat)))) (.int .i64 (-1))
       have z0:=zc r 0
       have z1:=zc r 1
       have z2:=zc r 2
       have z3:=zc r 3
       refine bodyPost_ret (v := .tuple #[.agg #[.string ⟨#[111,110,99,101]⟩,.int .i64 ((j:Nat)),.int .i64 ((V:Nat)),.int .i64 (-1)],.bool true]) ?_ rfl ⟨by rw[HON.out];rfl,(((hBW.setCell (p:=⟨w.heap.size,0,none⟩) (Nat.le_refl _) _).setCell (p:=⟨w.heap.size,1,none⟩) (Nat.le_refl _) _).setCell (p:=⟨w.heap.size,2,none⟩) (Nat.le_refl _) _).setCell (p:=⟨w.heap.size,3,none⟩) (Nat.le_refl _) _⟩
       simp[results,Tryz.f216,go_sem,z0,z1,z2,z3]
      ·rw[if_neg h0] at HAT
       have hV:¬(0:Int)<(V:Int):=by omega
       clear h0
       go_wp2_with fail
       refine HAB.out.mono ?_
       rintro _ w9 ⟨rfl,rfl⟩
       go_wp2_with fail
       go_roundw
       case rel=>exact ⟨j+1,by omega,by go_num,fun i hi=>by
        rcases Nat.lt_or_ge i j with h|h
        ·exact hno.out i h
        ·rw[show i=j from by omega];exact HAT.out,hB7⟩
       case measure=>simp[intOf];omega
     ·rw[if_neg h1,HX.out] at hFE
      have h1b:(((sz:Nat):Int)==1)=false:=by simp;omega
      clear h1
      obtain ⟨Y,hY⟩:∃Y,X=Y:=⟨_,rfl⟩
      subst hY
      have HXW:=HX5
      have HRW:=HR5
      obtain ⟨Y,hY⟩:∃Y,Y=X:=⟨_,rfl⟩
      rw[← hY] at HXW hFE
      clear hY
      have hvl:=kk Y 0
      have HAB:=za (qR w3.heap.size 0 Y 0 w5 (SetC.ofA HXW.out) (by omega))
      have hBW:Below w.heap.size w w5:=fB.trans ((hB1.trans (hB5.mono hB1.size)).mono fB.size)
      generalize zJ Y 0=V at *
      rw[hFE.out] at HAT
      by_cases h0:0<V
      ·rw[if_pos h0] at HAT
       have hV:(0:Int)<(V:Int):=by omega
       have HON:=za (hone.out.trans (qF hno.out hltj HAT.out))
       clear h0
       go_wp2_with fail
       refine HAB.out.mono ?_
       rintro _ w9 ⟨rfl,rfl⟩
       have r0:w5.cell? ⟨w.heap.size,0,none⟩=some (.string ⟨#[]⟩):=zc HRW.out 0
       have r1:w5.cell? ⟨w.heap.size,1,none⟩=some (.int .i64 0):=zc HRW.out 1
       have r2:w5.cell? ⟨w.heap.size,2,none⟩=some (.int .i64 0):=zc HRW.out 2
       have r3:w5.cell? ⟨w.heap.size,3,none⟩=some (.int .i64 0):=zc HRW.out 3
       have rf0:=zo HRW.out 0
       have rf1:=zo HRW.out 1
       have rf2:=zo HRW.out 2
       have rf3:=zo HRW.out 3
       have rl:=zy HRW.out
       go_wp2
       have r:=zC (i:=3) (zC (i:=2) (zC (i:=1) (zC (i:=0) HRW.out (.string ⟨#[111,110,99,101]⟩)) (.int .i64 ((j:Nat)))) (.int .i64 ((V:Nat)))) (.int .i64 (-1))
       have z0:=zc r 0
       have z1:=zc r 1
       have z2:=zc r 2
       have z3:=zc r 3
       refine bodyPost_ret (v := .tuple #[.agg #[.string ⟨#[111,110,99,101]⟩,.int .i64 ((j:Nat)),.int .i64 ((V:Nat)),.int .i64 (-1)],.bool true]) ?_ rfl ⟨by rw[HON.out];rfl,(((hBW.setCell (p:=⟨w.heap.size,0,none⟩) (Nat.le_refl _) _).setCell (p:=⟨w.heap.size,1,none⟩) (Nat.le_refl _) _).setCell (p:=⟨w.heap.size,2,none⟩) (Nat.le_refl _) _).setCell (p:=⟨w.heap.size,3,none⟩) (Nat.le_refl _) _⟩
       simp[results,Tryz.f216,go_sem,z0,z1,z2,z3]
      ·rw[if_neg h0] at HAT
       have hV:¬(0:Int)<(V:Int):=by omega
       clear h0
       go_wp2_with fail
       refine HAB.out.mono ?_
       rintro _ w9 ⟨rfl,rfl⟩
       go_wp2_with fail
       go_roundw
       case rel=>exact ⟨j+1,by omega,by go_num,fun i hi=>by
        rcases Nat.lt_or_ge i j with h|h
        ·exact hno.out i h
        ·rw[show i=j from by omega];exact HAT.out,hB5⟩
       case measure=>simp[intOf];omega
    ·have e:j=k:=by omega
     subst e
     have HN:=za (hone.out.trans (findN_none hno.out))
     clear hno hone
     have r0:wr.cell? ⟨w.heap.size,0,none⟩=some (.string ⟨#[]⟩):=zc HRj.out 0
     have r1:wr.cell? ⟨w.heap.size,1,none⟩=some (.int .i64 0):=zc HRj.out 1
     have r2:wr.cell? ⟨w.heap.size,2,none⟩=some (.int .i64 0):=zc HRj.out 2
     have r3:wr.cell? ⟨w.heap.size,3,none⟩=some (.int .i64 0):=zc HRj.out 3
     have rf0:=zo HRj.out 0
     have rf1:=zo HRj.out 1
     have rf2:=zo HRj.out 2
     have rf3:=zo HRj.out 3
     have rl:=zy HRj.out
     go_wp2
     have r:=zC (i:=3) (zC (i:=2) (zC (i:=1) (zC (i:=0) HRj.out (.string ⟨#[]⟩)) (.int .i64 0)) (.int .i64 0)) (.int .i64 0)
     have z0:=zc r 0
     have z1:=zc r 1
     have z2:=zc r 2
     have z3:=zc r 3
     refine bodyPost_ret (v := .tuple #[.agg #[.string ⟨#[]⟩,.int .i64 0,.int .i64 0,.int .i64 0],.bool false]) ?_ rfl ⟨by rw[HN.out];rfl,(((hBj.setCell (p:=⟨w.heap.size,0,none⟩) (Nat.le_refl _) _).setCell (p:=⟨w.heap.size,1,none⟩) (Nat.le_refl _) _).setCell (p:=⟨w.heap.size,2,none⟩) (Nat.le_refl _) _).setCell (p:=⟨w.heap.size,3,none⟩) (Nat.le_refl _) _⟩
     simp[results,Tryz.f216,go_sem,z0,z1,z2,z3]
end
section
open Go Go.RowKit
attribute [local go_sem] zv
attribute [local go_sem] Oper.semAt_some
theorem place_c (b:Nat) (t0 t1 t2 t3:Value) (a:Option Addr) (n c M:Nat) (Ms:List Nat) (w:World) (hb:w.heap[b]?=some (.cells (jY t0 t1 t2 t3 a n c M) 150 (0,0))) (h:SL w a n Ms) :
  Calls Tryz.prog 218 #[.pointer (some ⟨b,0,none⟩)] w fun e w'=>e = .returned (.tuple #[optV (placeR Ms),.bool (placeR Ms).isSome])∧Below w.heap.size w w':=by
 have H:=za h
 have HB:=za hb
 have hml:=za h.1.1
 have hns:=h.1.2
 have c4:w.cell? ⟨b,4,none⟩=some (.slice a n c):=zc hb 4
 have hbl:=zy hb
 have hone:Hid (placeR Ms=findN n (placeAt (minus (qd Ms n) (jV Ms n)) Ms)):=by unfold Hid placeR aloneM;rw[h.1.1]
 clear h hb
 go_enter Tryz.func218,Tryz.ntmps218
 go_wp2_with fail
 have fsz:(w.alloc (.cells #[.string ⟨#[]⟩,.int .i64 0,.int .i64 0,.int .i64 0] 214)).heap.size=w.heap.size+1:=by simp only[World.size_alloc]
 have fB:Below w.heap.size w (w.alloc (.cells #[.string ⟨#[]⟩,.int .i64 0,.int .i64 0,.int .i64 0] 214)):=(Below.refl _ _).alloc (Nat.le_refl _) _
 have fq0:(w.alloc (.cells #[.string ⟨#[]⟩,.int .i64 0,.int .i64 0,.int .i64 0] 214)).heap[w.heap.size]?=some (.cells #[.string ⟨#[]⟩,.int .i64 0,.int .i64 0,.int .i64 0] 214 (0,0)):=by have h:=World.alloc_heap_new w (.cells #[.string ⟨#[]⟩,.int .i64 0,.int .i64 0,.int .i64 0] 214);exact h
 generalize (w.alloc (.cells #[.string ⟨#[]⟩,.int .i64 0,.int .i64 0,.int .i64 0] 214))=W0 at fsz fB fq0 ⊢
 have fsz':w.heap.size<W0.heap.size:=by omega
 have HQB:=za (zm fB HB.out)
 have HR0:=za fq0
 clear fsz fq0 c4
 refine (counted_u a n c Ms W0 (H.out.mono fB)).mono ?_
 rintro _ w1 ⟨rfl,hb1⟩
 obtain ⟨O,hO⟩:∃O,qd Ms n=O:=⟨_,rfl⟩
 obtain ⟨T,hT⟩:∃T,jV Ms n=T:=⟨_,rfl⟩
 rw[hO,hT]
 rw[hO,hT] at hone
 clear hO hT
 go_wp2_with fail
 have gsz:((w1.alloc (.cells #[.int .u64 ((ze O 0:Nat):Int),.int .u64 ((ze O 1:Nat):Int),.int .u64 ((ze O 2:Nat):Int),.int .u64 ((ze O 3:Nat):Int)] 148)).alloc (.cells #[.int .u64 ((ze T 0:Nat):Int),.int .u64 ((ze T 1:Nat):Int),.int .u64 ((ze T 2:Nat):Int),.int .u64 ((ze T 3:Nat):Int)] 148)).heap.size=w1.heap.size+2:=by simp only[World.size_alloc] <;> omega
 have gB:Below w1.heap.size w1 ((w1.alloc (.cells #[.int .u64 ((ze O 0:Nat):Int),.int .u64 ((ze O 1:Nat):Int),.int .u64 ((ze O 2:Nat):Int),.int .u64 ((ze O 3:Nat):Int)] 148)).alloc (.cells #[.int .u64 ((ze T 0:Nat):Int),.int .u64 ((ze T 1:Nat):Int),.int .u64 ((ze T 2:Nat):Int),.int .u64 ((ze T 3:Nat):Int)] 148)):=((Below.refl _ _).alloc (Nat.le_refl _) _).alloc (by simp only[World.size_alloc];omega) _
 have gq0:((w1.alloc (.cells #[.int .u64 ((ze O 0:Nat):Int),.int .u64 ((ze O 1:Nat):Int),.int .u64 ((ze O 2:Nat):Int),.int .u64 ((ze O 3:Nat):Int)] 148)).alloc (.cells #[.int .u64 ((ze T 0:Nat):Int),.int .u64 ((ze T 1:Nat):Int),.int .u64 ((ze T 2:Nat):Int),.int .u64 ((ze T 3:Nat):Int)] 148)).heap[w1.heap.size]?=some (.cells #[.int .u64 ((ze O 0:Nat):Int),.int .u64 ((ze O 1:Nat):Int),.int .u64 ((ze O 2:Nat):Int),.int .u64 ((ze O 3:Nat):Int)] 148 (0,0)):=by have h:=World.alloc_heap_new w1 (.cells #[.int .u64 ((ze O 0:Nat):Int),.int .u64 ((ze O 1:Nat):Int),.int .u64 ((ze O 2:Nat):Int),.int .u64 ((ze O 3:Nat):Int)] 148);exact (Below.heap_alloc _ _ _ (by simp only[World.size_alloc];omega)).trans (h)
 have gq1:((w1.alloc (.cells #[.int .u64 ((ze O 0:Nat):Int),.int .u64 ((ze O 1:Nat):Int),.int .u64 ((ze O 2:Nat):Int),.int .u64 ((ze O 3:Nat):Int)] 148)).alloc (.cells #[.int .u64 ((ze T 0:Nat):Int),.int .u64 ((ze T 1:Nat):Int),.int .u64 ((ze T 2:Nat):Int),.int .u64 ((ze T 3:Nat):Int)] 148)).heap[w1.heap.size+1]?=some (.cells #[.int .u64 ((ze T 0:Nat):Int),.int .u64 ((ze T 1:Nat):Int),.int .u64 ((ze T 2:Nat):Int),.int .u64 ((ze T 3:Nat):Int)] 148 (0,0)):=by have h:=World.alloc_heap_new (w1.alloc (.cells #[.int .u64 ((ze O 0:Nat):Int),.int .u64 ((ze O 1:Nat):Int),.int .u64 ((ze O 2:Nat):Int),.int .u64 ((ze O 3:Nat):Int)] 148)) (.cells #[.int .u64 ((ze T 0:Nat):Int),.int .u64 ((ze T 1:Nat):Int),.int .u64 ((ze T 2:Nat):Int),.int .u64 ((ze T 3:Nat):Int)] 148);simp only[World.size_alloc] at h;exact h
 generalize ((w1.alloc (.cells #[.int .u64 ((ze O 0:Nat):Int),.int .u64 ((ze O 1:Nat):Int),.int .u64 ((ze O 2:Nat):Int),.int .u64 ((ze O 3:Nat):Int)] 148)).alloc (.cells #[.int .u64 ((ze T 0:Nat):Int),.int .u64 ((ze T 1:Nat):Int),.int .u64 ((ze T 2:Nat):Int),.int .u64 ((ze T 3:Nat):Int)] 148))=W1 at gsz gB gq0 gq1 ⊢
 have hz0':=fB.size
 have hz1':=hb1.size
 have gsz':w1.heap.size+1<W1.heap.size:=by omega
 clear gsz gq0 gq1
 have hB1:Below W0.heap.size W0 W1:=hb1.trans (gB.mono hb1.size)
 refine (without_u O T _).mono ?_
 rintro _ w2 ⟨rfl,hb2⟩
 obtain ⟨A,hA⟩:∃A,minus O T=A:=⟨_,rfl⟩
 rw[hA]
 rw[hA] at hone
 clear hA
 have hB1':=hB1.trans (hb2.mono hB1.size)
 have hqb2:=zm hB1' HQB.out
 have d4:w2.cell? ⟨b,4,none⟩=some (.slice a n c):=zc hqb2 4
 have hbb:=zy hqb2
 clear hqb2
 go_wp2_with fail
 have ksz:(w2.alloc (.cells #[.int .u64 ((ze A 0:Nat):Int),.int .u64 ((ze A 1:Nat):Int),.int .u64 ((ze A 2:Nat):Int),.int .u64 ((ze A 3:Nat):Int)] 148)).heap.size=w2.heap.size+1:=by simp only[World.size_alloc]
 have kB:Below w2.heap.size w2 (w2.alloc (.cells #[.int .u64 ((ze A 0:Nat):Int),.int .u64 ((ze A 1:Nat):Int),.int .u64 ((ze A 2:Nat):Int),.int .u64 ((ze A 3:Nat):Int)] 148)):=(Below.refl _ _).alloc (Nat.le_refl _) _
 have kq0:(w2.alloc (.cells #[.int .u64 ((ze A 0:Nat):Int),.int .u64 ((ze A 1:Nat):Int),.int .u64 ((ze A 2:Nat):Int),.int .u64 ((ze A 3:Nat):Int)] 148)).heap[w2.heap.size]?=some (.cells #[.int .u64 ((ze A 0:Nat):Int),.int .u64 ((ze A 1:Nat):Int),.int .u64 ((ze A 2:Nat):Int),.int .u64 ((ze A 3:Nat):Int)] 148 (0,0)):=by have h:=World.alloc_heap_new w2 (.cells #[.int .u64 ((ze A 0:Nat):Int),.int .u64 ((ze A 1:Nat):Int),.int .u64 ((ze A 2:Nat):Int),.int .u64 ((ze A 3:Nat):Int)] 148);exact h
 generalize (w2.alloc (.cells #[.int .u64 ((ze A 0:Nat):Int),.int .u64 ((ze A 1:Nat):Int),.int .u64 ((ze A 2:Nat):Int),.int .u64 ((ze A 3:Nat):Int)] 148))=W2 at ksz kB kq0 ⊢
 replace kq0:W2.heap[w2.heap.size]?=some (.cells (setA A) 148 (0,0)):=kq0
 have hB2:=hB1'.trans (kB.mono hB1'.size)
 have ksz':w2.heap.size<W2.heap.size:=by omega
 have HA2:=za kq0
 have HR2:=za (zm hB2 HR0.out)
 have hzz2:=hB1'.size
 clear kq0 ksz d4 hbb
 go_loopw [7,8,9,10,11,28,39,41] (fun _ _ _ _ _ i _ _ wv=>∃j:Nat,j≤n∧i = .int .i64 j∧Hid (∀i,i<j→placeAt A Ms i=none)∧Below W2.heap.size W2 wv) (fun _ _ _ _ _ i _ _ _=>n - (intOf i).toNat)
 case atStart=>exact ⟨0,by omega,rfl,fun i hi=>absurd hi (by omega),Below.refl _ _⟩
 case round =>
  obtain ⟨j,hj,rfl,hno,hbj⟩:=hrel
  have hszj:=hbj.size
  have hBj:Below w.heap.size w wr:=fB.trans ((hB2.trans (hbj.mono hB2.size)).mono fB.size)
  have HRj:=za (zm hbj HR2.out)
  by_cases hltj:j<n
  ·obtain ⟨b8,off,rfl,hb8,hc⟩:=(H.out.mono hBj).2 j hltj
   have e0:wr.cell? ⟨b8,off+j*4,none⟩=some (.int .u64 ((ze (Ms[j]?.getD 0) 0:Nat):Int)):=by simpa using hc 0 (by decide)
   have e1:=hc 1 (by decide)
   have e2:=hc 2 (by decide)
   have e3:=hc 3 (by decide)
   have HAT:Hid (placeAt A Ms j=if 0<placeF A (Ms[j]?.getD 0) then some (2,j,placeF A (Ms[j]?.getD 0),-1) else none):=rfl
   have HF:Hid (∀E,placeF A E=if sizeM (E &&& A)=0 then 0 else if sizeM (E &&& A)=1 then zJ (minus E (E &&& A)) 0 else zJ E 0):=fun _=>rfl
   generalize Ms[j]?.getD 0=E at *
   clear hc
   have HAj:=za (zm hbj HA2.out)
   have o0:(wr).cell? ⟨w2.heap.size,0,none⟩=some (.int .u64 ((ze (A) 0:Nat):Int)):=zc (HAj.out) 0
   have o1:(wr).cell? ⟨w2.heap.size,1,none⟩=some (.int .u64 ((ze (A) 1:Nat):Int)):=zc (HAj.out) 1
   have o2:(wr).cell? ⟨w2.heap.size,2,none⟩=some (.int .u64 ((ze (A) 2:Nat):Int)):=zc (HAj.out) 2
   have o3:(wr).cell? ⟨w2.heap.size,3,none⟩=some (.int .u64 ((ze (A) 3:Nat):Int)):=zc (HAj.out) 3
   have ol:=zy (HAj.out)
   go_wp2_with fail
   have msz:(wr.alloc (.cells #[.int .u64 ((ze E 0:Nat):Int),.int .u64 ((ze E 1:Nat):Int),.int .u64 ((ze E 2:Nat):Int),.int .u64 ((ze E 3:Nat):Int)] 148)).heap.size=wr.heap.size+1:=by simp only[World.size_alloc]
   have mB:Below wr.heap.size wr (wr.alloc (.cells #[.int .u64 ((ze E 0:Nat):Int),.int .u64 ((ze E 1:Nat):Int),.int .u64 ((ze E 2:Nat):Int),.int .u64 ((ze E 3:Nat):Int)] 148)):=(Below.refl _ _).alloc (Nat.le_refl _) _
   have mq0:(wr.alloc (.cells #[.int .u64 ((ze E 0:Nat):Int),.int .u64 ((ze E 1:Nat):Int),.int .u64 ((ze E 2:Nat):Int),.int .u64 ((ze E 3:Nat):Int)] 148)).heap[wr.heap.size]?=some (.cells #[.int .u64 ((ze E 0:Nat):Int),.int .u64 ((ze E 1:Nat):Int),.int .u64 ((ze E 2:Nat):Int),.int .u64 ((ze E 3:Nat):Int)] 148 (0,0)):=by have h:=World.alloc_heap_new wr (.cells #[.int .u64 ((ze E 0:Nat):Int),.int .u64 ((ze E 1:Nat):Int),.int .u64 ((ze E 2:Nat):Int),.int .u64 ((ze E 3:Nat):Int)] 148);exact h
   generalize (wr.alloc (.cells #[.int .u64 ((ze E 0:Nat):Int),.int .u64 ((ze E 1:Nat):Int),.int .u64 ((ze E 2:Nat):Int),.int .u64 ((ze E 3:Nat):Int)] 148))=W3 at msz mB mq0 ⊢
   replace mq0:W3.heap[wr.heap.size]?=some (.cells (setA E) 148 (0,0)):=mq0
   have HE3:=za mq0
   have HR3:=za (zm mB HRj.out)
   have hB3:=hbj.trans (mB.mono hszj)
   clear e0 e1 e2 e3 mq0 msz o0 o1 o2 o3 ol
   refine (and_v E A _).mono ?_
   rintro _ w4 ⟨rfl,hb4⟩
   have HE4:=za (zm hb4 HE3.out)
   have HR4:=za (zm hb4 HR3.out)
   have hB4:=hB3.trans (hb4.mono hB3.size)
   have hFE:=za (HF.out E)
   obtain ⟨X,hX⟩:∃X,E &&& A=X:=⟨_,rfl⟩
   rw[hX]
   rw[hX] at hFE
   clear hX
   have s0:(w4).cell? ⟨wr.heap.size,0,none⟩=some (.int .u64 ((ze (E) 0:Nat):Int)):=zc (HE4.out) 0
   have s1:(w4).cell? ⟨wr.heap.size,1,none⟩=some (.int .u64 ((ze (E) 1:Nat):Int)):=zc (HE4.out) 1
   have s2:(w4).cell? ⟨wr.heap.size,2,none⟩=some (.int .u64 ((ze (E) 2:Nat):Int)):=zc (HE4.out) 2
   have s3:(w4).cell? ⟨wr.heap.size,3,none⟩=some (.int .u64 ((ze (E) 3:Nat):Int)):=zc (HE4.out) 3
   have sl:=zy (HE4.out)
   go_wp2_with fail
   have psz:((w4.alloc (.cells #[.int .u64 ((ze X 0:Nat):Int),.int .u64 ((ze X 1:Nat):Int),.int .u64 ((ze X 2:Nat):Int),.int .u64 ((ze X 3:Nat):Int)] 148)).alloc (.cells #[.int .u64 ((ze E 0:Nat):Int),.int .u64 ((ze E 1:Nat):Int),.int .u64 ((ze E 2:Nat):Int),.int .u64 ((ze E 3:Nat):Int)] 148)).heap.size=w4.heap.size+2:=by simp only[World.size_alloc] <;> omega
   have pB:Below w4.heap.size w4 ((w4.alloc (.cells #[.int .u64 ((ze X 0:Nat):Int),.int .u64 ((ze X 1:Nat):Int),.int .u64 ((ze X 2:Nat):Int),.int .u64 ((ze X 3:Nat):Int)] 148)).alloc (.cells #[.int .u64 ((ze E 0:Nat):Int),.int .u64 ((ze E 1:Nat):Int),.int .u64 ((ze E 2:Nat):Int),.int .u64 ((ze E 3:Nat):Int)] 148)):=((Below.refl _ _).alloc (Nat.le_refl _) _).alloc (by simp only[World.size_alloc];omega) _
   have pq0:((w4.alloc (.cells #[.int .u64 ((ze X 0:Nat):Int),.int .u64 ((ze X 1:Nat):Int),.int .u64 ((ze X 2:Nat):Int),.int .u64 ((ze X 3:Nat):Int)] 148)).alloc (.cells #[.int .u64 ((ze E 0:Nat):Int),.int .u64 ((ze E 1:Nat):Int),.int .u64 ((ze E 2:Nat):Int),.int .u64 ((ze E 3:Nat):Int)] 148)).heap[w4.heap.size]?=some (.cells #[.int .u64 ((ze X 0:Nat):Int),.int .u64 ((ze X 1:Nat):Int),.int .u64 ((ze X 2:Nat):Int),.int .u64 ((ze X 3:Nat):Int)] 148 (0,0)):=by have h:=World.alloc_heap_new w4 (.cells #[.int .u64 ((ze X 0:Nat):Int),.int .u64 ((ze X 1:Nat):Int),.int .u64 ((ze X 2:Nat):Int),.int .u64 ((ze X 3:Nat):Int)] 148);exact (Below.heap_alloc _ _ _ (by simp only[World.size_alloc];omega)).trans (h)
   have pq1:((w4.alloc (.cells #[.int .u64 ((ze X 0:Nat):Int),.int .u64 ((ze X 1:Nat):Int),.int .u64 ((ze X 2:Nat):Int),.int .u64 ((ze X 3:Nat):Int)] 148)).alloc (.cells #[.int .u64 ((ze E 0:Nat):Int),.int .u64 ((ze E 1:Nat):Int),.int .u64 ((ze E 2:Nat):Int),.int .u64 ((ze E 3:Nat):Int)] 148)).heap[w4.heap.size+1]?=some (.cells #[.int .u64 ((ze E 0:Nat):Int),.int .u64 ((ze E 1:Nat):Int),.int .u64 ((ze E 2:Nat):Int),.int .u64 ((ze E 3:Nat):Int)] 148 (0,0)):=by have h:=World.alloc_heap_new (w4.alloc (.cells #[.int .u64 ((ze X 0:Nat):Int),.int .u64 ((ze X 1:Nat):Int),.int .u64 ((ze X 2:Nat):Int),.int .u64 ((ze X 3:Nat):Int)] 148)) (.cells #[.int .u64 ((ze E 0:Nat):Int),.int .u64 ((ze E 1:Nat):Int),.int .u64 ((ze E 2:Nat):Int),.int .u64 ((ze E 3:Nat):Int)] 148);simp only[World.size_alloc] at h;exact h
   generalize ((w4.alloc (.cells #[.int .u64 ((ze X 0:Nat):Int),.int .u64 ((ze X 1:Nat):Int),.int .u64 ((ze X 2:Nat):Int),.int .u64 ((ze X 3:Nat):Int)] 148)).alloc (.cells #[.int .u64 ((ze E 0:Nat):Int),.int .u64 ((ze E 1:Nat):Int),.int .u64 ((ze E 2:Nat):Int),.int .u64 ((ze E 3:Nat):Int)] 148))=W5 at psz pB pq0 pq1 ⊢
   replace pq0:W5.heap[w4.heap.size]?=some (.cells (setA X) 148 (0,0)):=pq0
   replace pq1:W5.heap[w4.heap.size+1]?=some (.cells (setA E) 148 (0,0)):=pq1
   have HX5:=za pq0
   have HE5:=za pq1
   have HS5:=za (zm pB HE4.out)
   have HR5:=za (zm pB HR4.out)
   have hB5:=hB4.trans (pB.mono hB4.size)
   clear s0 s1 s2 s3 sl pq0 pq1 psz
   refine (size_u X _).mono ?_
   rintro _ w6 ⟨rfl,hb6⟩
   have HX6:=za (zm hb6 HX5.out)
   have HE6:=za (zm hb6 HE5.out)
   have HS6:=za (zm hb6 HS5.out)
   have HR6:=za (zm hb6 HR5.out)
   have hB6:=hB5.trans (hb6.mono hB5.size)
   obtain ⟨sz,hsz⟩:∃sz,sizeM X=sz:=⟨_,rfl⟩
   rw[hsz] at hFE
   rw[hsz]
   clear hsz
   by_cases h1:sz=0
   ·rw[if_pos h1] at hFE
    have h1b:(((sz:Nat):Int)==0)=true:=by rw[h1];rfl
    rw[hFE.out,if_neg (by omega)] at HAT
    clear h1
    go_wp2_with fail
    go_roundw
    case rel=>exact ⟨j+1,by omega,by go_num,fun i hi=>by
     rcases Nat.lt_or_ge i j with h|h
     ·exact hno.out i h
     ·rw[show i=j from by omega];exact HAT.out,hB6⟩
    case measure=>simp[intOf];omega
   ·rw[if_neg h1] at hFE
    have h1b:(((sz:Nat):Int)==0)=false:=by simp;omega
    clear h1
    by_cases h2:sz=1
    ·rw[if_pos h2] at hFE
     have h2b:(((sz:Nat):Int)==1)=true:=by rw[h2];rfl
     clear h2
     have s0:(w6).cell? ⟨wr.heap.size,0,none⟩=some (.int .u64 ((ze (E) 0:Nat):Int)):=zc (HS6.out) 0
     have s1:(w6).cell? ⟨wr.heap.size,1,none⟩=some (.int .u64 ((ze (E) 1:Nat):Int)):=zc (HS6.out) 1
     have s2:(w6).cell? ⟨wr.heap.size,2,none⟩=some (.int .u64 ((ze (E) 2:Nat):Int)):=zc (HS6.out) 2
     have s3:(w6).cell? ⟨wr.heap.size,3,none⟩=some (.int .u64 ((ze (E) 3:Nat):Int)):=zc (HS6.out) 3
     have sl:=zy (HS6.out)
     have t0:(w6).cell? ⟨w4.heap.size,0,none⟩=some (.int .u64 ((ze (X) 0:Nat):Int)):=zc (HX6.out) 0
     have t1:(w6).cell? ⟨w4.heap.size,1,none⟩=some (.int .u64 ((ze (X) 1:Nat):Int)):=zc (HX6.out) 1
     have t2:(w6).cell? ⟨w4.heap.size,2,none⟩=some (.int .u64 ((ze (X) 2:Nat):Int)):=zc (HX6.out) 2
     have t3:(w6).cell? ⟨w4.heap.size,3,none⟩=some (.int .u64 ((ze (X) 3:Nat):Int)):=zc (HX6.out) 3
     have tl:=zy (HX6.out)
     go_wp2_with fail
     refine (without_u E X _).mono ?_
     rintro _ w7 ⟨rfl,hb7⟩
     obtain ⟨Y,hY⟩:∃Y,minus E X=Y:=⟨_,rfl⟩
     rw[hY]
     rw[hY] at hFE
     clear hY
     have hB7:=hB6.trans (hb7.mono hB6.size)
     have HE7:=za (zm hb7 HE6.out)
     have HR7:=za (zm hb7 HR6.out)
     have x0:(w7).cell? ⟨w4.heap.size+1,0,none⟩=some (.int .u64 ((ze (E) 0:Nat):Int)):=zc (HE7.out) 0
     have xf0:(w7).frozen? ⟨w4.heap.size+1,0,none⟩=false:=zo (HE7.out) 0
     have x1:(w7).cell? ⟨w4.heap.size+1,1,none⟩=some (.int .u64 ((ze (E) 1:Nat):Int)):=zc (HE7.out) 1
     have xf1:(w7).frozen? ⟨w4.heap.size+1,1,none⟩=false:=zo (HE7.out) 1
     have x2:(w7).cell? ⟨w4.heap.size+1,2,none⟩=some (.int .u64 ((ze (E) 2:Nat):Int)):=zc (HE7.out) 2
     have xf2:(w7).frozen? ⟨w4.heap.size+1,2,none⟩=false:=zo (HE7.out) 2
     have x3:(w7).cell? ⟨w4.heap.size+1,3,none⟩=some (.int .u64 ((ze (E) 3:Nat):Int)):=zc (HE7.out) 3
     have xf3:(w7).frozen? ⟨w4.heap.size+1,3,none⟩=false:=zo (HE7.out) 3
     have xl:=zy (HE7.out)
     clear s0 s1 s2 s3 t0 t1 t2 t3 sl tl
     go_upto_region 12 with fail
     have hl3:=hB4.size
     have hlr:=zy HRj.out
     have HXW:=za (put4_self (N:=Y) HE7.out)
     have HRW:=za (kb (b:=w4.heap.size+1) (N:=Y) HR7.out (by have:=hB2.size;omega))
     have hB8:Below W2.heap.size W2 (put4 w7 (w4.heap.size+1) Y):=put4_below hB7 (by omega)
     generalize hW7:put4 w7 (w4.heap.size+1) Y=W7 at HXW HRW hB8
     unfold put4 at hW7
     rw[hW7]
     clear hW7 x0 x1 x2 x3 xf0 xf1 xf2 xf3 xl
     have hvl:=kk Y 0
     have HAB:=za (qR (w4.heap.size+1) 0 Y 0 W7 (SetC.ofA HXW.out) (by omega))
     have hBW:Below w.heap.size w W7:=fB.trans ((hB2.trans (hB8.mono hB2.size)).mono fB.size)
     generalize zJ Y 0=V at *
     rw[hFE.out] at HAT
     by_cases h0:0<V
     ·rw[if_pos h0] at HAT
      have hV:(0:Int)<(V:Int):=by omega
      have HON:=za (hone.out.trans (qF hno.out hltj HAT.out))
      clear h0
      go_wp2_with fail
      refine HAB.out.mono ?_
      rintro _ w9 ⟨rfl,rfl⟩
      have r0:W7.cell? ⟨w.heap.size,0,none⟩=some (.string ⟨#[]⟩):=zc HRW.out 0
      have r1:W7.cell? ⟨w.heap.size,1,none⟩=some (.int .i64 0):=zc HRW.out 1
      have r2:W7.cell? ⟨w.heap.size,2,none⟩=some (.int .i64 0):=zc HRW.out 2
      have r3:W7.cell? ⟨w.heap.size,3,none⟩=some (.int .i64 0):=zc HRW.out 3
      have rf0:=zo HRW.out 0
      have rf1:=zo HRW.out 1
      have rf2:=zo HRW.out 2
      have rf3:=zo HRW.out 3
      have rl:=zy HRW.out
      go_wp2
      have r:=zC (i:=3) (zC (i:=2) (zC (i:=1) (zC (i:=0) HRW.out (.string ⟨#[112,108,97,99,101]⟩)) (.int .i64 ((j:Nat)))) (.int .i64 ((V:Nat)))) (.int .i64 (-1))
      have z0:=zc r 0
      have z1:=zc r 1
      have z2:=zc r 2
      have z3:=zc r 3
      refine bodyPost_ret (v := .tuple #[.agg #[.string ⟨#[112,108,97,99,101]⟩,.int .i64 ((j:Nat)),.int .i64 ((V:Nat)),.int .i64 (-1)],.bool true]) ?_ rfl ⟨by rw[HON.out];rfl,(((hBW.setCell (p:=⟨w.heap.size,0,none⟩) (Nat.le_refl _) _).setCell (p:=⟨w.heap.size,1,none⟩) (Nat.le_refl _) _).setCell (p:=⟨w.heap.size,2,none⟩) (Nat.le_refl _) _).setCell (p:=⟨w.heap.size,3,none⟩) (Nat.le_refl _) _⟩
      simp[results,Tryz.f218,go_sem,z0,z1,z2,z3]
     ·rw[if_neg h0] at HAT
      have hV:¬(0:Int)<(V:Int):=by omega
      clear h0
      go_wp2_with fail
      refine HAB.out.mono ?_
      rintro _ w9 ⟨rfl,rfl⟩
      go_wp2_with fail
      go_roundw
      case rel=>exact ⟨j+1,by omega,by go_num,fun i hi=>by
       rcases Nat.lt_or_ge i j with h|h
       ·exact hno.out i h
       ·rw[show i=j from by omega];exact HAT.out,hB8⟩
      case measure=>simp[intOf];omega
    ·rw[if_neg h2] at hFE
     have h2b:(((sz:Nat):Int)==1)=false:=by simp;omega
     clear h2
     have HXW:=HE6
     have HRW:=HR6
     obtain ⟨Y,hY⟩:∃Y,Y=E:=⟨_,rfl⟩
     rw[← hY] at HXW hFE HAT
     clear hY
     have hvl:=kk Y 0
     have HAB:=za (qR (w4.heap.size+1) 0 Y 0 w6 (SetC.ofA HXW.out) (by omega))
     have hBW:Below w.heap.size w w6:=fB.trans ((hB2.trans (hB6.mono hB2.size)).mono fB.size)
     generalize zJ Y 0=V at *
     rw[hFE.out] at HAT
     by_cases h0:0<V
     ·rw[if_pos h0] at HAT
      have hV:(0:Int)<(V:Int):=by omega
      have HON:=za (hone.out.trans (qF hno.out hltj HAT.out))
      clear h0
      go_wp2_with fail
      refine HAB.out.mono ?_
      rintro _ w9 ⟨rfl,rfl⟩
      have r0:w6.cell? ⟨w.heap.size,0,none⟩=some (.string ⟨#[]⟩):=zc HRW.out 0
      have r1:w6.cell? ⟨w.heap.size,1,none⟩=some (.int .i64 0):=zc HRW.out 1
      have r2:w6.cell? ⟨w.heap.size,2,none⟩=some (.int .i64 0):=zc HRW.out 2
      have r3:w6.cell? ⟨w.heap.size,3,none⟩=some (.int .i64 0):=zc HRW.out 3
      have rf0:=zo HRW.out 0
      have rf1:=zo HRW.out 1
      have rf2:=zo HRW.out 2
      have rf3:=zo HRW.out 3
      have rl:=zy HRW.out
      go_wp2
      have r:=zC (i:=3) (zC (i:=2) (zC (i:=1) (zC (i:=0) HRW.out (.string ⟨#[112,108,97,99,101]⟩)) (.int .i64 ((j:Nat)))) (.int .i64 ((V:Nat)))) (.int .i64 (-1))
      have z0:=zc r 0
      have z1:=zc r 1
      have z2:=zc r 2
      have z3:=zc r 3
      refine bodyPost_ret (v := .tuple #[.agg #[.string ⟨#[112,108,97,99,101]⟩,.int .i64 ((j:Nat)),.int .i64 ((V:Nat)),.int .i64 (-1)],.bool true]) ?_ rfl ⟨by rw[HON.out];rfl,(((hBW.setCell (p:=⟨w.heap.size,0,none⟩) (Nat.le_refl _) _).setCell (p:=⟨w.heap.size,1,none⟩) (Nat.le_refl _) _).setCell (p:=⟨w.heap.size,2,none⟩) (Nat.le_refl _) _).setCell (p:=⟨w.heap.size,3,none⟩) (Nat.le_refl _) _⟩
      simp[results,Tryz.f218,go_sem,z0,z1,z2,z3]
     ·rw[if_neg h0] at HAT
      have hV:¬(0:Int)<(V:Int):=by omega
      clear h0
      go_wp2_with fail
      refine HAB.out.mono ?_
      rintro _ w9 ⟨rfl,rfl⟩
      go_wp2_with fail
      go_roundw
      case rel=>exact ⟨j+1,by omega,by go_num,fun i hi=>by
       rcases Nat.lt_or_ge i j with h|h
       ·exact hno.out i h
       ·rw[show i=j from by omega];exact HAT.out,hB6⟩
      case measure=>simp[intOf];omega
  ·have e:j=n:=by omega
   subst e
   have HN:=za (hone.out.trans (findN_none hno.out))
   clear hno hone
   have r0:wr.cell? ⟨w.heap.size,0,none⟩=some (.string ⟨#[]⟩):=zc HRj.out 0
   have r1:wr.cell? ⟨w.heap.size,1,none⟩=some (.int .i64 0):=zc HRj.out 1
   have r2:wr.cell? ⟨w.heap.size,2,none⟩=some (.int .i64 0):=zc HRj.out 2
   have r3:wr.cell? ⟨w.heap.size,3,none⟩=some (.int .i64 0):=zc HRj.out 3
   have rf0:=zo HRj.out 0
   have rf1:=zo HRj.out 1
   have rf2:=zo HRj.out 2
   have rf3:=zo HRj.out 3
   have rl:=zy HRj.out
   go_wp2
   have r:=zC (i:=3) (zC (i:=2) (zC (i:=1) (zC (i:=0) HRj.out (.string ⟨#[]⟩)) (.int .i64 0)) (.int .i64 0)) (.int .i64 0)
   have z0:=zc r 0
   have z1:=zc r 1
   have z2:=zc r 2
   have z3:=zc r 3
   refine bodyPost_ret (v := .tuple #[.agg #[.string ⟨#[]⟩,.int .i64 0,.int .i64 0,.int .i64 0],.bool false]) ?_ rfl ⟨by rw[HN.out];rfl,(((hBj.setCell (p:=⟨w.heap.size,0,none⟩) (Nat.le_refl _) _).setCell (p:=⟨w.heap.size,1,none⟩) (Nat.le_refl _) _).setCell (p:=⟨w.heap.size,2,none⟩) (Nat.le_refl _) _).setCell (p:=⟨w.heap.size,3,none⟩) (Nat.le_refl _) _⟩
   simp[results,Tryz.f218,go_sem,z0,z1,z2,z3]
end
section
open Go Go.RowKit
theorem above_big (b off:Nat) (x:Int) (w:World) (h1:256≤x) (h2:x≤3000000000) :
  Calls Tryz.prog 162 #[.pointer (some ⟨b,off,none⟩),.int .i64 x] w fun e w'=>e = .returned (.int .i64 0)∧w=w':=by
 go_enter Tryz.func162,Tryz.ntmps162
 go_wp2
 go_loop [5] (fun i=>i = .int .i64 (x+1)) (fun _=>0)
 case atStart=>go_num
 case round =>
  subst hrel
  go_wp2
  go_ret
  exact ⟨rfl,rfl⟩
theorem above_any (b off M:Nat) (x:Int) (w:World) (h:SetC w b off M) (h1:0≤x) (h2:x≤3000000000) :
  Calls Tryz.prog 162 #[.pointer (some ⟨b,off,none⟩),.int .i64 x] w fun e w'=>e = .returned (.int .i64 (zJ M x.toNat:Nat))∧w=w':=by
 by_cases hx:x≤256
 ·have:=qR b off M x.toNat w h (by omega)
  rw[Int.toNat_of_nonneg h1] at this
  exact this
 ·refine (above_big b off x w (by omega) h2).mono ?_
  rintro _ w1 ⟨rfl,rfl⟩
  refine ⟨zD ?_,rfl⟩
  have:zJ M x.toNat=0:=by
   rcases Nat.eq_zero_or_pos (zJ M x.toNat) with e|e
   ·exact e
   ·have:=jH e;omega
  rw[this];rfl
end
end Go.Proofs.YtaadpihbjhachaaGreat
