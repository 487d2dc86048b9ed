/- Texts A5 to A5 of this proof, in one file. -/
import Derived.Test.YtcblpobiefmjmaaGreatW14
import Derived.Test.YtcblpobiefmjmaaGreatW53
namespace Go.Proofs.YtcblpobiefmjmaaGreat
set_option maxRecDepth 100000
set_option maxHeartbeats 16000000
section
open Go Go.RowKit
attribute [local go_sem] over_cell
attribute [local go_sem] Oper.semAt_some
theorem findN_at {α:Type} {n k:Nat} {f:Nat→Option α} {p:Nat→Bool} {v:Nat→α} (hf:∀j,f j=if p j=true then some (v j) else none) (h:∀j,j<k→p j=false) (hk:k<n) (hp:p k=true):findN n f=some (v k) :=
 findN_hit (fun j hj=>by rw[hf,if_neg (by rw[h j hj];decide)]) hk (by rw[hf,if_pos hp])
theorem findN_no {α:Type} {n:Nat} {f:Nat→Option α} {p:Nat→Bool} {v:Nat→α} (hf:∀j,f j=if p j=true then some (v j) else none) (h:∀j,j<n→p j=false):findN n f=none :=
 findN_none (fun j hj=>by rw[hf,if_neg (by rw[h j hj];decide)])
theorem upo_snoc {α:Type} {f:Nat→Option α} {k:Nat} (h:∀j,j<k→f j=none) (hk:f k=none):∀j,j<k+1→f j=none:=by
 intro j hj
 by_cases e:j=k
 ·rw[e];exact hk
 ·exact h j (by omega)
theorem rnext_c (a:Option Addr) (n c:Nat) (ls:List (List Int)) (cells sum:Int) (a':Option Addr) (n' c':Nat) (ar:Option Addr) (N cs:Nat) (Ms:List Nat) (w:World) (h:RC w a n ls) (hs:BS w ar N (N+1) Ms) (hB:BoundC Ms N) (hne:∀i,i<N→Ms[i]?.getD 0≠0)
  (hr:∀l,l∈ls→l.length≤1000∧∀x,x∈l→0≤x∧x<(N:Int)) (hsum:1≤sum∧sum≤999999999) :
  Calls Tryz.prog 77 #[.agg #[.int .i64 cells,.slice a n c,.int .i64 sum,.slice a' n' c'],.slice ar N cs] w fun e w'=>e = .returned (.tuple #[optV (nextQ ls sum Ms),.bool (nextQ ls sum Ms).isSome])∧Below w.heap.size w w':=by
 have hlen:=hs.1.1
 have hN:=hs.1.2.1
 have hll:=Lib.hid h.len
 have hns:=h.small
 have HQ:Hid (nextQ ls sum Ms=match findN N (onceN Ms) with|some r=>some r|none=>match findN n (fun k=>lineNk sum Ms (ls[k]?.getD []) k) with|some r=>some r|none=>findN N (aloneN Ms)):=by unfold Hid nextQ;rw[hlen,h.len];rfl
 have HON:=Lib.hid (fun W (hb:Below w.heap.size w W) i m (hm:m<N)=>ronce_c ar N cs Ms i m W (hs.mono hb) hm)
 have HAL:=Lib.hid (fun W (hb:Below w.heap.size w W) i m (hi:i<N)=>ralone_c ar N cs Ms i m W (hs.mono hb) hi)
 have HBY:=Lib.hid (fun W (hb:Below w.heap.size w W) k ci m (hk:k<n) (hm:m<N)=>rbeyond_c a n c ls cells sum a' n' c' ar N cs Ms k ci m W (h.mono hb) (hs.mono hb) hk hB hne (hr _ (by rw[List.getElem?_eq_getElem (by rw[h.len];exact hk)];exact List.getElem_mem _)).2 hsum (hr _ (by rw[List.getElem?_eq_getElem (by rw[h.len];exact hk)];exact List.getElem_mem _)).1 hm)
 have HR:Hid (∀k,k<n→(ls[k]?.getD []).length≤1000∧∀x,x∈ls[k]?.getD []→0≤x∧x<(N:Int)):=fun k hk=>hr _ (by rw[List.getElem?_eq_getElem (by rw[h.len];exact hk)];exact List.getElem_mem _)
 have HO1:Hid (∀i,onceN Ms i=findN N fun m=>if (hasQ Ms i m&&onceQ Ms i m)=true then some (0,i,m+1,-1) else none):=fun i=>by unfold onceN;rw[hlen]
 have HO2:Hid (∀i,aloneN Ms i=findN N fun m=>if (hasQ Ms i m&&aloneQ Ms i m)=true then some (2,i,m+1,-1) else none):=fun i=>by unfold aloneN;rw[hlen]
 have HO3:Hid (∀l k j,lineN sum Ms l k j=findN N fun m=>if (hasQ Ms (l[j]?.getD 0).toNat m&&beyondQ sum Ms l (l[j]?.getD 0) m)=true then some (1,(l[j]?.getD 0).toNat,m+1,(k:Int)) else none):=fun l k j=>by unfold lineN;rw[hlen]
 have HS:=Lib.hid hs
 have H:=Lib.hid h
 clear h hs hB hne hr hsum hlen
 go_enter Tryz.func77,Tryz.ntmps77
 go_wp2_with fail
 have fsz:((w.alloc (.cells #[.int .i64 cells,.slice a n c,.int .i64 sum,.slice a' n' c'] 28)).alloc (.cells #[.string ⟨#[]⟩,.int .i64 0,.int .i64 0,.int .i64 0] 55)).heap.size=w.heap.size+2:=by simp only[World.size_alloc] <;> omega
 have fB:Below w.heap.size w ((w.alloc (.cells #[.int .i64 cells,.slice a n c,.int .i64 sum,.slice a' n' c'] 28)).alloc (.cells #[.string ⟨#[]⟩,.int .i64 0,.int .i64 0,.int .i64 0] 55)):=((Below.refl _ _).alloc (Nat.le_refl _) _).alloc (by simp only[World.size_alloc];omega) _
 have fq0:((w.alloc (.cells #[.int .i64 cells,.slice a n c,.int .i64 sum,.slice a' n' c'] 28)).alloc (.cells #[.string ⟨#[]⟩,.int .i64 0,.int .i64 0,.int .i64 0] 55)).heap[w.heap.size]?=some (.cells #[.int .i64 cells,.slice a n c,.int .i64 sum,.slice a' n' c'] 28 (0,0)):=by have h:=World.alloc_heap_new w (.cells #[.int .i64 cells,.slice a n c,.int .i64 sum,.slice a' n' c'] 28);exact (Below.heap_alloc _ _ _ (by simp only[World.size_alloc];omega)).trans (h)
 have fq1:((w.alloc (.cells #[.int .i64 cells,.slice a n c,.int .i64 sum,.slice a' n' c'] 28)).alloc (.cells #[.string ⟨#[]⟩,.int .i64 0,.int .i64 0,.int .i64 0] 55)).heap[w.heap.size+1]?=some (.cells #[.string ⟨#[]⟩,.int .i64 0,.int .i64 0,.int .i64 0] 55 (0,0)):=by have h:=World.alloc_heap_new (w.alloc (.cells #[.int .i64 cells,.slice a n c,.int .i64 sum,.slice a' n' c'] 28)) (.cells #[.string ⟨#[]⟩,.int .i64 0,.int .i64 0,.int .i64 0] 55);simp only[World.size_alloc] at h;exact h
 generalize ((w.alloc (.cells #[.int .i64 cells,.slice a n c,.int .i64 sum,.slice a' n' c'] 28)).alloc (.cells #[.string ⟨#[]⟩,.int .i64 0,.int .i64 0,.int .i64 0] 55))=W0 at fsz fB fq0 fq1 ⊢
 have HT:=Lib.hid fq0
 have HR0:=Lib.hid fq1
 clear fq0 fq1 fsz
 go_loopw [6,7] (fun iv _ wr=>∃i:Nat,i≤N∧iv = .int .i64 i∧Hid (∀k,k<i→onceN Ms k=none)∧Below W0.heap.size W0 wr) (fun iv _ _=>N - (intOf iv).toNat)
 case atStart=>exact ⟨0,by omega,rfl,fun k hk=>absurd hk (by omega),Below.refl _ _⟩
 case round =>
  obtain ⟨i,hi,rfl,hno,hbr⟩:=hrel
  have hBr:=keep_trans fB hbr
  by_cases hlt:i<N
  ·have hii:(i:Int)<(N:Int):=by omega
   obtain ⟨b,off,a2,c2,rfl,hb,hc,hrow,_⟩:=(HS.out.mono hBr).2 i hlt
   have HROW:=Lib.hid hrow
   have HO:=Lib.hid (HO1.out i)
   clear hrow
   go_wp2_with fail
   go_loopg [7] N (fun gk mv wv=>∃m:Nat,gk=N - m∧m≤N∧mv = .int .i64 ((m:Int)+1)∧Hid (∀q,q<m→(hasQ Ms i q&&onceQ Ms i q)=false)∧wv=wr)
   case atStart=>exact ⟨0,by omega,by omega,rfl,fun k hk=>absurd hk (by omega),rfl⟩
   case round =>
    obtain ⟨m,rfl,hm,rfl,hno2,hwv⟩:=hrel
    replace hwv:=hwv.symm
    subst hwv
    by_cases hltm:m<N
    ·have hmi:(m:Int)+1<((N+1:Nat):Int):=by omega
     obtain ⟨b2,off2,rfl,hb2,hc2⟩:=HROW.out (m+1) (by omega)
     have hs2:hasQ Ms i m=(Ms[i]?.getD 0).testBit m:=rfl
     rw[decide_eq_true (show 0<m+1 by omega),Bool.true_and,show m+1 - 1=m from by omega,← hs2] at hc2
     have HC:=Lib.hid (HON.out wr hBr i m hltm)
     have HSN:Hid ((hasQ Ms i m&&onceQ Ms i m)=false→∀q,q<m+1→(hasQ Ms i q&&onceQ Ms i q)=false):=fun e=>upb_snoc hno2.out e
     have HHT:Hid ((hasQ Ms i m&&onceQ Ms i m)=true→findN N (onceN Ms)=some (0,i,m+1,-1)):=fun e=>findN_hit hno.out hlt ((HO.out).trans (findN_at (p:=fun q=>hasQ Ms i q&&onceQ Ms i q) (v:=fun q=>((0,i,q+1,-1):Rem)) (fun _=>rfl) hno2.out hltm e))
     clear hs2 hno2
     generalize hasQ Ms i m=x at hc2 HSN HHT
     generalize onceQ Ms i m=y at HC HSN HHT
     cases x with
     | false =>
      go_wp2_with fail
      go_roundg (N - (m+1))
      case measure=>omega
      case rel=>exact ⟨m+1,rfl,by omega,by go_num,HSN.out rfl,rfl⟩
     | true =>
      cases y with
      | false =>
       go_wp2_with (first|(go_at_call 125;refine HC.out.mono ?_;rintro _ _ ⟨rfl,rfl⟩))
       go_roundg (N - (m+1))
       case measure=>omega
       case rel=>exact ⟨m+1,rfl,by omega,by go_num,HSN.out rfl,rfl⟩
      | true =>
       have HR1:=Lib.hid (keepq hbr HR0.out)
       have HFX:=Lib.hid (HHT.out rfl)
       have HFY:Hid (nextQ ls sum Ms=some (0,i,m+1,-1)):=by unfold Hid;rw[HQ.out,HFX.out]
       go_upto_region 8 with (first|(go_at_call 125;refine HC.out.mono ?_;rintro _ _ ⟨rfl,rfl⟩))
       have r0:=q_cell HR1.out 0
       have r1:=q_cell HR1.out 1
       have r2:=q_cell HR1.out 2
       have r3:=q_cell HR1.out 3
       have rf0:=q_free HR1.out 0
       have rf1:=q_free HR1.out 1
       have rf2:=q_free HR1.out 2
       have rf3:=q_free HR1.out 3
       have rl:=q_lt HR1.out
       go_wp2_with fail
       have r:=q_set (i:=3) (q_set (i:=2) (q_set (i:=1) (q_set (i:=0) HR1.out (.string ⟨#[111,110,99,101]⟩)) (.int .i64 i)) (.int .i64 ((m:Int)+1))) (.int .i64 (-1))
       have z0:=q_cell r 0
       have z1:=q_cell r 1
       have z2:=q_cell r 2
       have z3:=q_cell r 3
       refine bodyPost_ret (v := .tuple #[.agg #[.string ⟨#[111,110,99,101]⟩,.int .i64 i,.int .i64 ((m:Int)+1),.int .i64 (-1)],.bool true]) ?_ rfl ⟨by rw[HFY.out];rfl,(((hBr.setCell (p:=⟨w.heap.size+1,0,none⟩) (Nat.le_succ _) _).setCell (p:=⟨w.heap.size+1,1,none⟩) (Nat.le_succ _) _).setCell (p:=⟨w.heap.size+1,2,none⟩) (Nat.le_succ _) _).setCell (p:=⟨w.heap.size+1,3,none⟩) (Nat.le_succ _) _⟩
       simp[results,Tryz.f77,go_sem,z0,z1,z2,z3]
    ·have e:N=m:=by omega
     subst e
     have hmi:¬(N:Int)+1<((N+1:Nat):Int):=by omega
     have HX:=Lib.hid (upo_snoc hno.out (HO.out.trans (findN_no (p:=fun q=>hasQ Ms i q&&onceQ Ms i q) (v:=fun q=>((0,i,q+1,-1):Rem)) (fun _=>rfl) hno2.out)))
     go_wp2_with fail
     go_roundw
     case rel=>exact ⟨i+1,by omega,by go_num,HX.out,hbr⟩
     case measure=>simp[intOf];omega
  ·have e:N=i:=by omega
   subst e
   have hii:¬(N:Int)<(N:Int):=by omega
   have HQ1:Hid (nextQ ls sum Ms=match findN n (fun k=>lineNk sum Ms (ls[k]?.getD []) k) with|some r=>some r|none=>findN N (aloneN Ms)):=by unfold Hid;rw[HQ.out,findN_none hno.out]
   have HT1:=Lib.hid (keepq hbr HT.out)
   clear HON HO1 HQ hno
   have x1:wr.cell? ⟨w.heap.size,1,none⟩=some (.slice a n c):=q_cell HT1.out 1
   have xl:=q_lt HT1.out
   have hbr0:=hbr
   go_wp2_with fail
   clear x1 xl HT1
   go_loopw [8,9,10,11] (fun kv _ _ _ wr=>∃k:Nat,k≤n∧kv = .int .i64 k∧Hid (∀q,q<k→lineNk sum Ms (ls[q]?.getD []) q=none)∧Below W0.heap.size W0 wr) (fun kv _ _ _ _=>n - (intOf kv).toNat)
   case atStart=>exact ⟨0,by omega,rfl,fun k hk=>absurd hk (by omega),hbr0⟩
   case round =>
    clear hbr hBr hbr0
    obtain ⟨k,hk,rfl,hno,hbr⟩:=hrel
    have hBr:=keep_trans fB hbr
    have x0:=q_cell (keepq hbr HT.out) 0
    have x1:wr.cell? ⟨w.heap.size,1,none⟩=some (.slice a n c):=q_cell (keepq hbr HT.out) 1
    have x2:=q_cell (keepq hbr HT.out) 2
    have x3:=q_cell (keepq hbr HT.out) 3
    have xl:=q_lt (keepq hbr HT.out)
    by_cases hlt:k<n
    ·have hki:(k:Int)<(n:Int):=by omega
     obtain ⟨b,off,al,nl,cl,rfl,hb,hc,hil,_⟩:=(H.out.mono hBr).2 k hlt
     have hnl:=hil.len
     have hrl:=HR.out k hlt
     have HLK:Hid (lineNk sum Ms (ls[k]?.getD []) k=findN nl fun j=>lineN sum Ms (ls[k]?.getD []) k j):=by unfold Hid lineNk;rw[hnl]
     have HBY1:=Lib.hid (fun W (hb:Below w.heap.size w W) ci m (hm:m<N)=>HBY.out W hb k ci m hlt hm)
     have HNL2:Hid (lineNk sum Ms (ls[k]?.getD []) k=none→∀q,q<k+1→lineNk sum Ms (ls[q]?.getD []) q=none):=fun e=>upo_snoc (f:=fun q=>lineNk sum Ms (ls[q]?.getD []) q) hno.out e
     have HLH:Hid (∀r,lineNk sum Ms (ls[k]?.getD []) k=some r→findN n (fun k=>lineNk sum Ms (ls[k]?.getD []) k)=some r):=fun r e=>findN_hit hno.out hlt e
     obtain ⟨l,hl9⟩:∃l,ls[k]?.getD []=l:=⟨_,rfl⟩
     rw[hl9] at hil hnl hrl HLK HBY1 HNL2 HLH
     have HIL:=Lib.hid hil
     have HRL:Hid (∀j,j<nl→0≤l[j]?.getD 0∧l[j]?.getD 0<(N:Int)):=fun j hj=>hrl.2 _ (by rw[List.getElem?_eq_getElem (by omega)];exact List.getElem_mem _)
     have hnl1:nl≤1000:=by have:=hrl.1;omega
     clear hno hl9 hil hnl hrl
     go_wp2_with fail
     go_loopg [10,11] nl (fun gk jv _ wv=>∃j:Nat,gk=nl - j∧j≤nl∧jv = .int .i64 j∧Hid (∀q,q<j→lineN sum Ms l k q=none)∧Below wr.heap.size wr wv)
     case atStart=>exact ⟨0,by omega,by omega,rfl,fun k hk=>absurd hk (by omega),Below.refl _ _⟩
     case round =>
      clear x0 x1 x2 x3 xl
      obtain ⟨j,rfl,hj,rfl,hno,hbj⟩:=hrel
      have hBj0:=keep_trans hbr hbj
      have hBj:=keep_trans fB hBj0
      have x0:=q_cell (keepq hBj0 HT.out) 0
      have x1:wr.cell? ⟨w.heap.size,1,none⟩=some (.slice (some ⟨b,off,none⟩) n c):=q_cell (keepq hBj0 HT.out) 1
      have x2:=q_cell (keepq hBj0 HT.out) 2
      have x3:=q_cell (keepq hBj0 HT.out) 3
      have xl:=q_lt (keepq hBj0 HT.out)
      by_cases hltj:j<nl
      ·have hji:(j:Int)<(nl:Int):=by omega
       obtain ⟨b3,off3,rfl,hb3,hc3⟩:=(HIL.out.mono hbj).2 j hltj
       have hx:=HRL.out j hltj
       have HO:=Lib.hid (HO3.out l k j)
       generalize l[j]?.getD 0=xv at hx hc3 HO
       obtain ⟨x,rfl⟩:∃x:Nat,xv=(x:Int):=⟨xv.toNat,by omega⟩
       rw[Int.toNat_natCast] at HO
       have hxN:x<N:=by omega
       have hxi:=hx.2
       obtain ⟨b4,off4,a4,c4,rfl,hb4,hc4,hrow,_⟩:=(HS.out.mono hBj).2 x hxN
       have HROW:=Lib.hid hrow
       clear hrow hx
       go_wp2_with fail
       go_loopg [11] N (fun gk mv wv=>∃m:Nat,gk=N - m∧m≤N∧mv = .int .i64 ((m:Int)+1)∧Hid (∀q,q<m→(hasQ Ms x q&&beyondQ sum Ms l (x:Int) q)=false)∧Below wr.heap.size wr wv)
       case atStart=>exact ⟨0,by omega,by omega,rfl,fun k hk=>absurd hk (by omega),Below.refl _ _⟩
       case round =>
        clear x0 x1 x2 x3 xl
        obtain ⟨m,rfl,hm,rfl,hno2,hbm⟩:=hrel
        have hBm0:=keep_trans hBj0 hbm
        have hBm:=keep_trans fB hBm0
        have x0:=q_cell (keepq hBm0 HT.out) 0
        have x1:wr.cell? ⟨w.heap.size,1,none⟩=some (.slice (some ⟨b,off,none⟩) n c):=q_cell (keepq hBm0 HT.out) 1
        have x2:=q_cell (keepq hBm0 HT.out) 2
        have x3:=q_cell (keepq hBm0 HT.out) 3
        have xl:=q_lt (keepq hBm0 HT.out)
        have y3:=((bcell hbm).1 b3 _ hb3).trans hc3
        have y3l:=Nat.lt_of_lt_of_le hb3 hbm.size
        have y4:=((bcell hbm).1 b4 _ hb4).trans hc4
        have y4l:=Nat.lt_of_lt_of_le hb4 hbm.size
        by_cases hltm:m<N
        ·have hmi:(m:Int)+1<((N+1:Nat):Int):=by omega
         obtain ⟨b2,off2,rfl,hb2,hc2⟩:=(HROW.out.mono hbm) (m+1) (by omega)
         have hs2:hasQ Ms x m=(Ms[x]?.getD 0).testBit m:=rfl
         rw[decide_eq_true (show 0<m+1 by omega),Bool.true_and,show m+1 - 1=m from by omega,← hs2] at hc2
         have HC:=Lib.hid (fun W (hb:Below w.heap.size w W)=>HBY1.out W hb x m hltm)
         have HSN:Hid ((hasQ Ms x m&&beyondQ sum Ms l (x:Int) m)=false→∀q,q<m+1→(hasQ Ms x q&&beyondQ sum Ms l (x:Int) q)=false):=fun e=>upb_snoc hno2.out e
         have HHT:Hid ((hasQ Ms x m&&beyondQ sum Ms l (x:Int) m)=true→findN n (fun k=>lineNk sum Ms (ls[k]?.getD []) k)=some (1,x,m+1,(k:Int))):=fun e=>HLH.out _ (HLK.out.trans (findN_hit hno.out hltj (HO.out.trans (findN_at (p:=fun q=>hasQ Ms x q&&beyondQ sum Ms l (x:Int) q) (v:=fun q=>((1,x,q+1,(k:Int)):Rem)) (fun _=>rfl) hno2.out hltm e))))
         clear hs2 hno2 hc3 hb3 hc4 hb4
         generalize hasQ Ms x m=xb at hc2 HSN HHT
         generalize beyondQ sum Ms l (x:Int) m=yb at HC HSN HHT
         cases xb with
         | false =>
          go_wp2_with fail
          refine wp_region_S (fun w'=>∃u,w'=over (wr) u) [] [(0,0),(0,1),(0,2),(0,3),(0,4),(0,5),(0,6),(0,7),(0,8),(0,9),(0,10),(0,11),(0,12),(0,13),(0,14),(0,15),(0,16),(0,17),(0,18),(1,19),(0,20)] (by kernel_rfl) (by kernel_rfl) (by exact ⟨_,below_over (by repeat (first|assumption|exact Below.refl _ _|refine keep_drew ?_|refine keep_alloc ?_ _|refine keep_trans ?_ (by assumption)))⟩) ?_
          dsimp only[pickOps,nthOp]
          repeat (first|(refine wpS_skip rfl (fun K hK=>?_);go_big_quiet_op;refine hK _ ?_;clear hK K)|(refine wpS_quiet rfl rfl (fun K hK=>?_);go_big_quiet_op;refine hK _ ?_;clear hK K)|(refine wpS_loud ?_;go_wp2;refine ⟨?_,?_⟩;focus (exact ⟨_,below_over (by repeat (first|assumption|exact Below.refl _ _|refine keep_drew ?_|refine keep_alloc ?_ _|refine keep_trans ?_ (by assumption)))⟩)))
          refine wpS_end ?_
          go_wp2_with fail
          go_roundg (N - (m+1))
          case measure=>omega
          case rel=>exact ⟨m+1,rfl,by omega,by go_num,HSN.out rfl,hbm.drew⟩
         | true =>
          cases yb with
          | false =>
           go_wp2_with fail
           refine wp_region_S (fun w'=>∃u,w'=over (wr) u) [] [(0,0),(0,1),(0,2),(0,3),(0,4),(0,5),(0,6),(0,7),(0,8),(0,9),(0,10),(0,11),(0,12),(0,13),(0,14),(0,15),(0,16),(0,17),(0,18),(1,19),(0,20)] (by kernel_rfl) (by kernel_rfl) (by exact ⟨_,below_over (by repeat (first|assumption|exact Below.refl _ _|refine keep_drew ?_|refine keep_alloc ?_ _|refine keep_trans ?_ (by assumption)))⟩) ?_
           dsimp only[pickOps,nthOp]
           repeat (first|(refine wpS_skip rfl (fun K hK=>?_);go_big_quiet_op;refine hK _ ?_;clear hK K)|(refine wpS_quiet rfl rfl (fun K hK=>?_);go_big_quiet_op;refine hK _ ?_;clear hK K)|(refine wpS_loud ?_;go_wp2_with ((go_at_call 126;refine (HC.out _ (keep_trans hBm (keep_drew (Below.refl _ _)))).mono ?_;rintro _ w3 ⟨rfl,hb3⟩));refine ⟨?_,?_⟩;focus (exact ⟨_,below_over (by repeat (first|assumption|exact Below.refl _ _|refine keep_drew ?_|refine keep_alloc ?_ _|refine keep_trans ?_ (by assumption)))⟩)))
           refine wpS_end ?_
           go_wp2_with fail
           go_roundg (N - (m+1))
           case measure=>omega
           case rel=>exact ⟨m+1,rfl,by omega,by go_num,HSN.out rfl,keep_trans hbm.drew hb3⟩
          | true =>
           have HFX:=Lib.hid (HHT.out rfl)
           have HFY:Hid (nextQ ls sum Ms=some (1,x,m+1,(k:Int))):=by unfold Hid;rw[HQ1.out,HFX.out]
           go_wp2_with fail
           refine wp_region_S (fun w'=>∃u,w'=over (wr) u) [] [(0,0),(0,1),(0,2),(0,3),(0,4),(0,5),(0,6),(0,7),(0,8),(0,9),(0,10),(0,11),(0,12),(0,13),(0,14),(0,15),(0,16),(0,17),(0,18),(1,19),(0,20)] (by kernel_rfl) (by kernel_rfl) (by exact ⟨_,below_over (by repeat (first|assumption|exact Below.refl _ _|refine keep_drew ?_|refine keep_alloc ?_ _|refine keep_trans ?_ (by assumption)))⟩) ?_
           dsimp only[pickOps,nthOp]
           repeat (first|(refine wpS_skip rfl (fun K hK=>?_);go_big_quiet_op;refine hK _ ?_;clear hK K)|(refine wpS_quiet rfl rfl (fun K hK=>?_);go_big_quiet_op;refine hK _ ?_;clear hK K)|(refine wpS_loud ?_;go_wp2_with ((go_at_call 126;refine (HC.out _ (keep_trans hBm (keep_drew (Below.refl _ _)))).mono ?_;rintro _ w3 ⟨rfl,hb3⟩));refine ⟨?_,?_⟩;focus (exact ⟨_,below_over (by repeat (first|assumption|exact Below.refl _ _|refine keep_drew ?_|refine keep_alloc ?_ _|refine keep_trans ?_ (by assumption)))⟩)))
           refine wpS_end ?_
           have hb3':Below wr.heap.size wr w3:=keep_trans (Below.refl _ wr).drew hb3
           have hB3:=keep_trans hBm hb3'
           have HR1:=Lib.hid (keepq (keep_trans hBm0 hb3') HR0.out)
           have y33:=((bcell hb3').1 b3 _ y3l).trans y3
           have y33l:=Nat.lt_of_lt_of_le y3l hb3'.size
           clear x0 x1 x2 x3 xl y3 y3l y4 y4l hc2 hb2 hb3 HC HHT HSN
           have r0:=q_cell HR1.out 0
           have r1:=q_cell HR1.out 1
           have r2:=q_cell HR1.out 2
           have r3:=q_cell HR1.out 3
           have rf0:=q_free HR1.out 0
           have rf1:=q_free HR1.out 1
           have rf2:=q_free HR1.out 2
           have rf3:=q_free HR1.out 3
           have rl:=q_lt HR1.out
           go_wp2_with fail
           have r:=q_set (i:=3) (q_set (i:=2) (q_set (i:=1) (q_set (i:=0) HR1.out (.string ⟨#[108,105,110,101]⟩)) (.int .i64 x)) (.int .i64 ((m:Int)+1))) (.int .i64 k)
           have z0:=q_cell r 0
           have z1:=q_cell r 1
           have z2:=q_cell r 2
           have z3:=q_cell r 3
           refine bodyPost_ret (v := .tuple #[.agg #[.string ⟨#[108,105,110,101]⟩,.int .i64 x,.int .i64 ((m:Int)+1),.int .i64 k],.bool true]) ?_ rfl ⟨by rw[HFY.out];rfl,(((hB3.setCell (p:=⟨w.heap.size+1,0,none⟩) (Nat.le_succ _) _).setCell (p:=⟨w.heap.size+1,1,none⟩) (Nat.le_succ _) _).setCell (p:=⟨w.heap.size+1,2,none⟩) (Nat.le_succ _) _).setCell (p:=⟨w.heap.size+1,3,none⟩) (Nat.le_succ _) _⟩
           simp[results,Tryz.f77,go_sem,z0,z1,z2,z3]
        ·have e:N=m:=by omega
         subst e
         have hmi:¬(N:Int)+1<((N+1:Nat):Int):=by omega
         have HX:=Lib.hid (upo_snoc hno.out (HO.out.trans (findN_no (p:=fun q=>hasQ Ms x q&&beyondQ sum Ms l (x:Int) q) (v:=fun q=>((1,x,q+1,(k:Int)):Rem)) (fun _=>rfl) hno2.out)))
         go_wp2_with fail
         go_roundg (nl - (j+1))
         case measure=>omega
         case rel=>exact ⟨j+1,rfl,by omega,by go_num,HX.out,keep_trans hbj hbm⟩
      ·have e:nl=j:=by omega
       subst e
       have hji:¬(nl:Int)<(nl:Int):=by omega
       have HX:=Lib.hid (HNL2.out (HLK.out.trans (findN_none hno.out)))
       have hbx:=keep_trans hbr hbj
       go_wp2_with fail
       go_roundw
       case rel=>exact ⟨k+1,by omega,by go_num,HX.out,hbx⟩
       case measure=>simp[intOf];omega
    ·have e:n=k:=by omega
     subst e
     have hki:¬(n:Int)<(n:Int):=by omega
     have HQ2:Hid (nextQ ls sum Ms=findN N (aloneN Ms)):=by unfold Hid;rw[HQ1.out,findN_none hno.out]
     clear HQ1 HBY HO3 hno
     have hcur:=hbr
     go_wp2_with fail
     clear x0 x1 x2 x3 xl hbr hBr
     go_loopw [12,13] (fun iv _ wr=>∃i:Nat,i≤N∧iv = .int .i64 i∧Hid (∀k,k<i→aloneN Ms k=none)∧Below W0.heap.size W0 wr) (fun iv _ _=>N - (intOf iv).toNat)
     case atStart=>exact ⟨0,by omega,rfl,fun k hk=>absurd hk (by omega),hcur⟩
     case round =>
      obtain ⟨i,hi,rfl,hno,hbr⟩:=hrel
      have hBr:=keep_trans fB hbr
      by_cases hlt:i<N
      ·have hii:(i:Int)<(N:Int):=by omega
       obtain ⟨b,off,a2,c2,rfl,hb,hc,hrow,_⟩:=(HS.out.mono hBr).2 i hlt
       have HROW:=Lib.hid hrow
       have HO:=Lib.hid (HO2.out i)
       clear hrow
       go_wp2_with fail
       go_loopg [13] N (fun gk mv wv=>∃m:Nat,gk=N - m∧m≤N∧mv = .int .i64 ((m:Int)+1)∧Hid (∀q,q<m→(hasQ Ms i q&&aloneQ Ms i q)=false)∧wv=wr)
       case atStart=>exact ⟨0,by omega,by omega,rfl,fun k hk=>absurd hk (by omega),rfl⟩
       case round =>
        obtain ⟨m,rfl,hm,rfl,hno2,hwv⟩:=hrel
        replace hwv:=hwv.symm
        subst hwv
        by_cases hltm:m<N
        ·have hmi:(m:Int)+1<((N+1:Nat):Int):=by omega
         obtain ⟨b2,off2,rfl,hb2,hc2⟩:=HROW.out (m+1) (by omega)
         have hs2:hasQ Ms i m=(Ms[i]?.getD 0).testBit m:=rfl
         rw[decide_eq_true (show 0<m+1 by omega),Bool.true_and,show m+1 - 1=m from by omega,← hs2] at hc2
         have HC:=Lib.hid (HAL.out wr hBr i m hlt)
         have HSN:Hid ((hasQ Ms i m&&aloneQ Ms i m)=false→∀q,q<m+1→(hasQ Ms i q&&aloneQ Ms i q)=false):=fun e=>upb_snoc hno2.out e
         have HHT:Hid ((hasQ Ms i m&&aloneQ Ms i m)=true→findN N (aloneN Ms)=some (2,i,m+1,-1)):=fun e=>findN_hit hno.out hlt ((HO.out).trans (findN_at (p:=fun q=>hasQ Ms i q&&aloneQ Ms i q) (v:=fun q=>((2,i,q+1,-1):Rem)) (fun _=>rfl) hno2.out hltm e))
         clear hs2 hno2
         generalize hasQ Ms i m=x at hc2 HSN HHT
         generalize aloneQ Ms i m=y at HC HSN HHT
         cases x with
         | false =>
          go_wp2_with fail
          go_roundg (N - (m+1))
          case measure=>omega
          case rel=>exact ⟨m+1,rfl,by omega,by go_num,HSN.out rfl,rfl⟩
         | true =>
          cases y with
          | false =>
           go_wp2_with (first|(go_at_call 127;refine HC.out.mono ?_;rintro _ _ ⟨rfl,rfl⟩))
           go_roundg (N - (m+1))
           case measure=>omega
           case rel=>exact ⟨m+1,rfl,by omega,by go_num,HSN.out rfl,rfl⟩
          | true =>
           have HR1:=Lib.hid (keepq hbr HR0.out)
           have HFX:=Lib.hid (HHT.out rfl)
           have HFY:Hid (nextQ ls sum Ms=some (2,i,m+1,-1)):=by unfold Hid;rw[HQ2.out,HFX.out]
           go_upto_region 28 with (first|(go_at_call 127;refine HC.out.mono ?_;rintro _ _ ⟨rfl,rfl⟩))
           have r0:=q_cell HR1.out 0
           have r1:=q_cell HR1.out 1
           have r2:=q_cell HR1.out 2
           have r3:=q_cell HR1.out 3
           have rf0:=q_free HR1.out 0
           have rf1:=q_free HR1.out 1
           have rf2:=q_free HR1.out 2
           have rf3:=q_free HR1.out 3
           have rl:=q_lt HR1.out
           go_wp2_with fail
           have r:=q_set (i:=3) (q_set (i:=2) (q_set (i:=1) (q_set (i:=0) HR1.out (.string ⟨#[112,108,97,99,101]⟩)) (.int .i64 i)) (.int .i64 ((m:Int)+1))) (.int .i64 (-1))
           have z0:=q_cell r 0
           have z1:=q_cell r 1
           have z2:=q_cell r 2
           have z3:=q_cell r 3
           refine bodyPost_ret (v := .tuple #[.agg #[.string ⟨#[112,108,97,99,101]⟩,.int .i64 i,.int .i64 ((m:Int)+1),.int .i64 (-1)],.bool true]) ?_ rfl ⟨by rw[HFY.out];rfl,(((hBr.setCell (p:=⟨w.heap.size+1,0,none⟩) (Nat.le_succ _) _).setCell (p:=⟨w.heap.size+1,1,none⟩) (Nat.le_succ _) _).setCell (p:=⟨w.heap.size+1,2,none⟩) (Nat.le_succ _) _).setCell (p:=⟨w.heap.size+1,3,none⟩) (Nat.le_succ _) _⟩
           simp[results,Tryz.f77,go_sem,z0,z1,z2,z3]
        ·have e:N=m:=by omega
         subst e
         have hmi:¬(N:Int)+1<((N+1:Nat):Int):=by omega
         have HX:=Lib.hid (upo_snoc hno.out (HO.out.trans (findN_no (p:=fun q=>hasQ Ms i q&&aloneQ Ms i q) (v:=fun q=>((2,i,q+1,-1):Rem)) (fun _=>rfl) hno2.out)))
         go_wp2_with fail
         go_roundw
         case rel=>exact ⟨i+1,by omega,by go_num,HX.out,hbr⟩
         case measure=>simp[intOf];omega
      ·have e:N=i:=by omega
       subst e
       have hii:¬(N:Int)<(N:Int):=by omega
       have HFY:Hid (nextQ ls sum Ms=none):=by unfold Hid;rw[HQ2.out,findN_none hno.out]
       have HR1:=Lib.hid (keepq hbr HR0.out)
       have r0:=q_cell HR1.out 0
       have r1:=q_cell HR1.out 1
       have r2:=q_cell HR1.out 2
       have r3:=q_cell HR1.out 3
       have rf0:=q_free HR1.out 0
       have rf1:=q_free HR1.out 1
       have rf2:=q_free HR1.out 2
       have rf3:=q_free HR1.out 3
       have rl:=q_lt HR1.out
       go_wp2_with fail
       have r:=q_set (i:=3) (q_set (i:=2) (q_set (i:=1) (q_set (i:=0) HR1.out (.string ⟨#[]⟩)) (.int .i64 0)) (.int .i64 0)) (.int .i64 0)
       have z0:=q_cell r 0
       have z1:=q_cell r 1
       have z2:=q_cell r 2
       have z3:=q_cell r 3
       refine bodyPost_ret (v := .tuple #[.agg #[.string ⟨#[]⟩,.int .i64 0,.int .i64 0,.int .i64 0],.bool false]) ?_ rfl ⟨by rw[HFY.out];rfl,(((hBr.setCell (p:=⟨w.heap.size+1,0,none⟩) (Nat.le_succ _) _).setCell (p:=⟨w.heap.size+1,1,none⟩) (Nat.le_succ _) _).setCell (p:=⟨w.heap.size+1,2,none⟩) (Nat.le_succ _) _).setCell (p:=⟨w.heap.size+1,3,none⟩) (Nat.le_succ _) _⟩
       simp[results,Tryz.f77,go_sem,z0,z1,z2,z3]
end
end Go.Proofs.YtcblpobiefmjmaaGreat
