/- Texts E2 to E9 of this proof, in one file. -/
import Derived.Test.YtaadpihbjhachaaGreatW01
import Derived.Test.YtaadpihbjhachaaGreatW03
import Derived.Test.YtaadpihbjhachaaGreatW07
import Derived.Test.YtaadpihbjhachaaGreatW08
import Derived.Deep.CutBlock
import Derived.Deep.CutRange
import Derived.Laws.EntriesVeiled
namespace Go.Proofs.YtaadpihbjhachaaGreat
set_option maxRecDepth 100000
set_option maxHeartbeats 16000000
section
open Go Go.RowKit
attribute [local go_sem] zv
def qA (l g:List Int) (j:Nat):List Int:=(l.take j).filter fun c=>g[c.toNat]?.getD 0==0
theorem ownTo_hit {l g:List Int} {j:Nat} (h:j<l.length) (e:(g[(l[j]?.getD 0).toNat]?.getD 0==0)=true):qA l g (j+1)=qA l g j++[l[j]?.getD 0]:=by
 unfold qA;rw[zP l 0 j h,List.filter_append];congr 1;simp[e]
theorem ownTo_miss {l g:List Int} {j:Nat} (h:j<l.length) (e:(g[(l[j]?.getD 0).toNat]?.getD 0==0)=false):qA l g (j+1)=qA l g j:=by
 unfold qA;rw[zP l 0 j h,List.filter_append];simp[e]
theorem ownTo_len (l g:List Int) (j:Nat):(qA l g j).length≤j:=cntTo_le l g j
def jZ (ls:List (List Int)) (g:List Int):Nat→Nat × Int
 | 0=>((zj g).length+1,(zj g)[0]?.getD 0)
 | k+1=>if 0<(qA (ls[k]?.getD []) g (ls[k]?.getD []).length).length∧(qA (ls[k]?.getD []) g (ls[k]?.getD []).length).length<(jZ ls g k).1 then ((qA (ls[k]?.getD []) g (ls[k]?.getD []).length).length,(qA (ls[k]?.getD []) g (ls[k]?.getD []).length)[0]?.getD 0) else jZ ls g k
def zV (ls:List (List Int)) (g:List Int) (sum:Int):Int:=match (List.range ls.length).find? (fun k=>beyV (ls[k]?.getD []) g sum) with|some k=>(k:Int)|none => -1
def zQ (ls:List (List Int)) (g:List Int) (sum:Int):Int:=match (List.range ls.length).find? (fun k=>beyV (ls[k]?.getD []) g sum) with|some _=>0|none=>(jZ ls g ls.length).2
theorem tight_hit {ls:List (List Int)} {g:List Int} {sum:Int} {k:Nat} (h:∀j,j<k→beyV (ls[j]?.getD []) g sum=false) (hk:k<ls.length) (hb:beyV (ls[k]?.getD []) g sum=true):zV ls g sum=(k:Int)∧zQ ls g sum=0:=by
 have:(List.range ls.length).find? (fun k=>beyV (ls[k]?.getD []) g sum)=some k:=by
  rw[List.find?_range_eq_some]
  exact ⟨hb,by simp[hk],fun j hj=>by simp[h j hj]⟩
 simp[zV,zQ,this]
theorem tight_none {ls:List (List Int)} {g:List Int} {sum:Int} (h:∀j,j<ls.length→beyV (ls[j]?.getD []) g sum=false):zV ls g sum = -1∧zQ ls g sum=(jZ ls g ls.length).2:=by
 have:(List.range ls.length).find? (fun k=>beyV (ls[k]?.getD []) g sum)=none:=by
  rw[List.find?_range_eq_none]
  exact fun j hj=>by simp[h j hj]
 simp[zV,zQ,this]
theorem tightTo_le (ls:List (List Int)) (g:List Int) (k:Nat):(jZ ls g k).1≤(zj g).length+1:=by
 induction k with
 | zero=>exact Nat.le_refl _
 | succ k ih =>
  unfold jZ
  split
  ·dsimp only;omega
  ·exact ih
theorem tight_c {cells:Int} {ls:List (List Int)} {sum:Int} {g:List Int} (G:GoodTask cells ls sum g) (a:Option Addr) (n c:Nat) (a':Option Addr) (n' c':Nat) (au:Option Addr) (nu cu:Nat) (w:World) (h:RC w a n ls) (h':IC w a' n' g) (hu:IC w au nu (zh g)) :
  Calls Tryz.prog 74 #[.agg #[.int .i64 cells,.slice a n c,.int .i64 sum,.slice a' n' c'],.slice au nu cu] w fun e w'=>e = .returned (.tuple #[.int .i64 (zV ls g sum),.int .i64 (zQ ls g sum)])∧Below w.heap.size w w':=by
 obtain ⟨i0,hi,hz0,hz1,hz2⟩:=info_parts qk
 have H:=za h
 have H':=za h'
 have HG:=za G
 have hns:=h.small
 have hll:=za h.len
 have hgl:=za h'.len
 have hn'2:n'≤256:=by have:=G.glen;have:=h'.len;omega
 have hopl:(zj g).length≤256:=by have:=jA g g.length;have:=G.glen;unfold zj;omega
 have HBY:=za (fun (W:World) (hb:Below w.heap.size w W) (k:Nat) (hk:k<n)=>beyond_c G a n c a' n' c' k au nu cu W (h.mono hb) (h'.mono hb) (hu.mono hb) hk)
 have HO:=za (fun (W:World) (hb:Below w.heap.size w W)=>open_c (.slice a n c) cells sum a' n' c' g W (h'.mono hb))
 clear h h' hu G
 go_enter Tryz.func74,Tryz.ntmps74
 go_wp2_with fail
 have fsz:(w.alloc (.cells #[.int .i64 cells,.slice a n c,.int .i64 sum,.slice a' n' c'] 27)).heap.size=w.heap.size+1:=by simp only[World.size_alloc]
 have fB:Below w.heap.size w (w.alloc (.cells #[.int .i64 cells,.slice a n c,.int .i64 sum,.slice a' n' c'] 27)):=(Below.refl _ _).alloc (Nat.le_refl _) _
 have fq0:(w.alloc (.cells #[.int .i64 cells,.slice a n c,.int .i64 sum,.slice a' n' c'] 27)).heap[w.heap.size]?=some (.cells #[.int .i64 cells,.slice a n c,.int .i64 sum,.slice a' n' c'] 27 (0,0)):=by have h:=World.alloc_heap_new w (.cells #[.int .i64 cells,.slice a n c,.int .i64 sum,.slice a' n' c'] 27);exact h
 generalize (w.alloc (.cells #[.int .i64 cells,.slice a n c,.int .i64 sum,.slice a' n' c'] 27))=W0 at fsz fB fq0 ⊢
 have hsz0:w.heap.size≤W0.heap.size:=fB.size
 clear fsz
 refine (HO.out W0 fB).mono ?_
 rintro _ w1 ⟨v1,rfl,hown,hb1⟩
 obtain ⟨a1,c1,rfl⟩:=zr hown
 have hop:=(IC.of_owns hown (by omega)).1
 have HOP:=za hop
 have hbt:=za (zm hb1 fq0)
 have hB1:=fB.trans (hb1.mono hsz0)
 clear hown fq0 hop
 go_upto_if 17 with fail
 go_cut [5] from 17 to 20 (fun v wx=>v = .int .i64 ((zj g)[0]?.getD 0)∧wx=w1)
 case first =>
  obtain ⟨x,hx⟩:∃x,(zj g)[0]?.getD 0=x:=⟨_,rfl⟩
  have HX:=za hx
  by_cases h0:0<(zj g).length
  ·obtain ⟨b,off,rfl,hb,hc⟩:=HOP.out.2 0 h0
   rw[Nat.add_zero,hx] at hc
   have h0i:(0:Int)<((zj g).length:Int):=by omega
   clear hx
   go_wp2_with fail
   go_meet
   exact ⟨by rw[HX.out],rfl⟩
  ·have e1:x=0:=by rw[← hx,List.getElem?_eq_none (by omega)];rfl
   have h0i:¬(0:Int)<((zj g).length:Int):=by omega
   clear hx
   subst e1
   go_wp2_with fail
   go_meet
   exact ⟨by rw[HX.out],rfl⟩
 case rest =>
  obtain ⟨rfl,rfl⟩:=hcut
  have hszc:w.heap.size<wc.heap.size:=zy hbt.out
  have b1:wc.cell? ⟨w.heap.size,1,none⟩=some (.slice a n c):=zc hbt.out 1
  go_wp2_with fail
  go_loopg [5,7,8,9,10,12,28] n (fun gk cv fv _ _ _ _ iv wv=>∃k:Nat,gk=n - k∧k≤n∧iv = .int .i64 k∧cv = .int .i64 (jZ ls g k).2∧fv = .int .i64 ((jZ ls g k).1:Nat)∧Hid (∀j,j<k→beyV (ls[j]?.getD []) g sum=false)∧Below w.heap.size w wv∧Hid (wv.heap[w.heap.size]?=some (.cells #[.int .i64 cells,.slice a n c,.int .i64 sum,.slice a' n' c'] 27 (0,0))))
  case atStart=>exact ⟨0,by omega,by omega,rfl,rfl,by simp[jZ],fun j hj=>absurd hj (by omega),hB1,hbt.out⟩
  case round =>
   obtain ⟨k,rfl,hk,rfl,rfl,rfl,hno,hbr,hblk⟩:=hrel
   have hTl:=tightTo_le ls g k
   by_cases hlt:k<n
   ·obtain ⟨bl,ol,al,nl,cl,rfl,hbl,hcl,hil,hnc⟩:=(H.out.mono hbr).2 k hlt
    have hszr:=zy hblk.out
    have z0:wr.cell? ⟨w.heap.size,0,none⟩=some (.int .i64 cells):=zc hblk.out 0
    have z1:wr.cell? ⟨w.heap.size,1,none⟩=some (.slice (some ⟨bl,ol,none⟩) n c):=zc hblk.out 1
    have z2:wr.cell? ⟨w.heap.size,2,none⟩=some (.int .i64 sum):=zc hblk.out 2
    have z3:wr.cell? ⟨w.heap.size,3,none⟩=some (.slice a' n' c'):=zc hblk.out 3
    have HIL:=za hil
    have hkl:k<ls.length:=by rw[hll.out];exact hlt
    have hmem:ls[k]?.getD []∈ls:=by rw[List.getElem?_eq_getElem hkl];exact List.getElem_mem hkl
    have HLR:=za (HG.out.lineLen hmem)
    have HLS:=za (HG.out.lineShort hmem)
    clear hmem
    cases hby:beyV (ls[k]?.getD []) g sum with
    | true =>
     have HTT:=za (tight_hit hno.out hkl hby)
     have HB2:=za (HBY.out wr hbr k hlt)
     rw[hby] at HB2
     clear hby hkl hil
     go_wp2_with (go_at_call 148;refine HB2.out.mono ?_;rintro _ w2 ⟨rfl,hb2⟩)
     go_ret2
     exact ⟨by rw[HTT.out.1,HTT.out.2];rfl,hbr.trans (hb2.mono hbr.size)⟩
    | false =>
     have HB2:=za (HBY.out wr hbr k hlt)
     rw[hby] at HB2
     have HNB:=za hby
     clear hby hil
     go_wp2_with fail
     refine HB2.out.mono ?_
     rintro _ w2 ⟨rfl,hb2⟩
     have hbr2:=hbr.trans (hb2.mono hbr.size)
     have hblk2:=za (zm hb2 hblk.out)
     have hsz2:=zy hblk2.out
     have HIL2:=za (HIL.out.mono hb2)
     have y3:w2.cell? ⟨w.heap.size,3,none⟩=some (.slice a' n' c'):=zc hblk2.out 3
     have HSUC:Hid (jZ ls g (k+1)=if 0<(qA (ls[k]?.getD []) g (ls[k]?.getD []).length).length∧(qA (ls[k]?.getD []) g (ls[k]?.getD []).length).length<(jZ ls g k).1 then ((qA (ls[k]?.getD []) g (ls[k]?.getD []).length).length,(qA (ls[k]?.getD []) g (ls[k]?.getD []).length)[0]?.getD 0) else jZ ls g k):=rfl
     have hnl:=HIL.out.len
     have HNO2:Hid (∀j,j<k+1→beyV (ls[j]?.getD []) g sum=false):=fun j hj=>by
      rcases Nat.lt_or_ge j k with h1|h1
      ·exact hno.out j h1
      ·rw[show j=k from by omega];exact HNB.out
     generalize ls[k]?.getD []=l at *
     generalize jZ ls g k=fc at *
     clear z0 z1 z2 z3 hkl
     have hnl2:nl≤256:=by have:=HLS.out;have:=HG.out.cells2;omega
     go_wp2_with fail
     go_loopg [10,12,40] nl (fun gk2 v _ jv wv=>∃j:Nat,gk2=nl - j∧j≤nl∧jv = .int .i64 j∧wv.ownsRow w2.heap.size 3 1 v (qA l g j).length ((qA l g j).map (Value.int .i64))∧Below w2.heap.size w2 wv)
     case atStart=>exact ⟨0,by omega,by omega,rfl,World.ownsRow_nil _ _ _ _,Below.refl _ _⟩
     case round =>
      obtain ⟨j,rfl,hj,rfl,hownj,hbj⟩:=hrel
      have hbt2:=hbr2.trans (hbj.mono hbr2.size)
      have hblk3:=za (zm hbj hblk2.out)
      have hlj:=ownTo_len l g j
      by_cases hltj:j<nl
      ·obtain ⟨b2,o2,rfl,hb2l,hcl2⟩:=(HIL2.out.mono hbj).2 j hltj
       have hjl:j<l.length:=by rw[hnl];exact hltj
       have hr:=HLR.out.2 _ (List.getElem_mem hjl)
       obtain ⟨x,hxx⟩:∃x:Nat,l[j]?.getD 0=(x:Int):=⟨(l[j]'hjl).toNat,by rw[List.getElem?_eq_getElem hjl,Option.getD_some];omega⟩
       have hxn:x<n':=by have h1:=HG.out.len;have h2:=hgl.out;rw[List.getElem?_eq_getElem hjl,Option.getD_some] at hxx;omega
       obtain ⟨bg,og,rfl,hbg,hcg⟩:=(H'.out.mono hbt2).2 x hxn
       have z3:wr.cell? ⟨w.heap.size,3,none⟩=some (.slice (some ⟨bg,og,none⟩) n' c'):=zc hblk3.out 3
       have HHIT:=za (fun e=>ownTo_hit (g:=g) hjl e)
       have HMISS:=za (fun e=>ownTo_miss (g:=g) hjl e)
       rw[hxx] at hcl2 HHIT HMISS
       rw[Int.toNat_natCast] at HHIT HMISS
       have hxn1:(x:Int)<(n':Int):=by omega
       have hjn1:(j:Int)<(nl:Int):=by omega
       generalize g[x]?.getD 0=y at hcg HHIT HMISS
       clear hr hxx hjl
       by_cases hy:(y==0)=true
       ·have hN:=za (HHIT.out hy)
        have hszj:=hbj.size
        go_wp2_with (first|(at_builtin;refine wpList_append_own _ rfl _ _ 25 rfl w2.heap.size 3 i0 (.int .i64 0) 1 8 Tryz.underlying25 hi hz0 hz1 hz2 rfl (by decide) _ _ _ rfl (hownj.alloc _) ⟨wr.heap.size,0,none⟩ 1 1 [.int .i64 x] rfl rfl (cell_one_new _ _ _) (by simp[Value.oneCell']) (by unfold maxLen;omega) (by omega) (by simp;omega) ?_))
        intro v' w3 hown' hgrow _
        have hb3:Below w2.heap.size w2 w3:=(hbj.alloc hbj.size _).grown hgrow (by simp;omega) (fun j e=>(hownj.lt j e).1)
        have hown2:w3.ownsRow w2.heap.size 3 1 v' (qA l g (j+1)).length ((qA l g (j+1)).map (Value.int .i64)):=by
         rw[hN.out];simpa using hown'
        clear hown' hgrow hownj
        go_wp2_with fail
        go_roundg (nl - (j+1))
        case measure=>omega
        case rel=>exact ⟨j+1,rfl,by omega,by go_num,hown2,hb3⟩
       ·have hy2:(y==0)=false:=by simpa using hy
        have hN:=za (HMISS.out hy2)
        clear hy
        go_wp2
        go_roundg (nl - (j+1))
        case measure=>omega
        case rel=>exact ⟨j+1,rfl,by omega,by go_num,by rw[hN.out];exact hownj,hbj⟩
      ·have e:j=nl:=by omega
       subst e
       rw[hnl] at HSUC
       obtain ⟨ao,co,rfl⟩:=zr hownj
       have hic:=(IC.of_owns hownj (by omega)).1
       generalize qA l g j=own at *
       by_cases h0:0<own.length
       ·by_cases hf:own.length<fc.1
        ·obtain ⟨bo,oo,rfl,hbo,hco⟩:=hic.2 0 h0
         rw[Nat.add_zero] at hco
         have hS2:=za (HSUC.out.trans (if_pos ⟨h0,hf⟩))
         generalize own[0]?.getD 0=x at hco hS2
         have h0i:(0:Int)<(own.length:Int):=by omega
         have hfi:(own.length:Int)<(fc.1:Int):=by omega
         clear hownj hic
         go_wp2
         refine zk (fun w'=>∃u,w'=over (wr) u) [6] [(0,0),(0,1),(0,2),(0,3),(0,4),(1,5),(2,6)] (by kernel_rfl) (by kernel_rfl) (by exact ⟨_,zi (by repeat (first|assumption|exact Below.refl _ _|refine zd ?_|refine zg ?_ _|refine zb ?_ (by assumption)))⟩) ?_
         dsimp only[zt,zG]
         repeat (first|(refine zu rfl (fun K hK=>?_);go_big_quiet_op;refine hK _ ?_;clear hK K)|(refine zp rfl rfl (fun K hK=>?_);go_big_quiet_op;refine hK _ ?_;clear hK K)|(refine zE ?_;go_wp2;refine ⟨?_,?_⟩;focus (exact ⟨_,zi (by repeat (first|assumption|exact Below.refl _ _|refine zd ?_|refine zg ?_ _|refine zb ?_ (by assumption)))⟩)))
         refine zA _ _ _ rfl ?_
         dsimp only[List.map]
         go_wp2
         refine NoPanic.normal ?_
         go_wp2
         go_roundg (n - (k+1))
         case measure=>omega
         case rel=>exact ⟨k+1,rfl,by omega,by go_num,by rw[hS2.out],by rw[hS2.out],HNO2.out,hbt2.drew,hblk3.out⟩
        ·have hS2:=za (HSUC.out.trans (if_neg (fun e=>hf e.2)))
         have h0i:(0:Int)<(own.length:Int):=by omega
         have hfi:¬(own.length:Int)<(fc.1:Int):=by omega
         clear hownj hic
         go_wp2
         go_roundg (n - (k+1))
         case measure=>omega
         case rel=>exact ⟨k+1,rfl,by omega,by go_num,by rw[hS2.out],by rw[hS2.out],HNO2.out,hbt2,hblk3.out⟩
       ·have hS2:=za (HSUC.out.trans (if_neg (fun e=>h0 e.1)))
        have h0i:¬(0:Int)<(own.length:Int):=by omega
        clear hownj hic
        go_wp2
        go_roundg (n - (k+1))
        case measure=>omega
        case rel=>exact ⟨k+1,rfl,by omega,by go_num,by rw[hS2.out],by rw[hS2.out],HNO2.out,hbt2,hblk3.out⟩
   ·have e:k=n:=by omega
    subst e
    have HTT:=za (tight_none (by rw[hll.out];exact hno.out))
    rw[hll.out] at HTT
    generalize jZ ls g k=fc at *
    go_wp2
    go_ret2
    exact ⟨by rw[HTT.out.1,HTT.out.2];rfl,hbr⟩
end
section
open Go Go.RowKit
attribute [local go_sem] zv
def pathBad (n:Nat) (g P:List Int) (k:Nat):Int:=zz [zn (decide (P[k]?.getD 0<1)||decide ((n:Int)<P[k]?.getD 0)) 3,zn (zY g (P[k]?.getD 0)||zY (P.take k) (P[k]?.getD 0)) 9]
def qv (n:Nat) (g P:List Int):Int:=qQ (pathBad n g P) P.length
theorem path_c (v1:Value) (cells sum:Int) (a':Option Addr) (n' c':Nat) (g:List Int) (ap:Option Addr) (np cp:Nat) (P:List Int) (w:World) (h':IC w a' n' g) (hP:IC w ap np P) (hcp:np≤cp) :
  Calls Tryz.prog 232 #[.agg #[.int .i64 cells,v1,.int .i64 sum,.slice a' n' c'],.slice ap np cp] w fun e w'=>e = .returned (.int .i64 (qv n' g P))∧Below w.heap.size w w':=by
 have H':=za h'
 have HP:=za hP
 have hpl:=za hP.len
 have hF:Hid (qv n' g P=qQ (pathBad n' g P) np):=by unfold Hid qv;rw[hpl.out]
 have hns:=hP.small
 have hn's:=h'.small
 clear h' hP
 go_enter Tryz.func232,Tryz.ntmps232
 go_wp2_with fail
 have hsz:w.heap.size<(w.alloc (.cells #[.int .i64 cells,v1,.int .i64 sum,.slice a' n' c'] 27)).heap.size:=by simp
 have hB:Below w.heap.size w (w.alloc (.cells #[.int .i64 cells,v1,.int .i64 sum,.slice a' n' c'] 27)):=(Below.refl _ _).alloc (Nat.le_refl _) _
 have x0:(w.alloc (.cells #[.int .i64 cells,v1,.int .i64 sum,.slice a' n' c'] 27)).cell? ⟨w.heap.size,0,none⟩=some (.int .i64 cells):=(zq w #[.int .i64 cells,v1,.int .i64 sum,.slice a' n' c'] 27 0).trans rfl
 have x1:(w.alloc (.cells #[.int .i64 cells,v1,.int .i64 sum,.slice a' n' c'] 27)).cell? ⟨w.heap.size,1,none⟩=some (v1):=(zq w #[.int .i64 cells,v1,.int .i64 sum,.slice a' n' c'] 27 1).trans rfl
 have x2:(w.alloc (.cells #[.int .i64 cells,v1,.int .i64 sum,.slice a' n' c'] 27)).cell? ⟨w.heap.size,2,none⟩=some (.int .i64 sum):=(zq w #[.int .i64 cells,v1,.int .i64 sum,.slice a' n' c'] 27 2).trans rfl
 have x3:(w.alloc (.cells #[.int .i64 cells,v1,.int .i64 sum,.slice a' n' c'] 27)).cell? ⟨w.heap.size,3,none⟩=some (.slice a' n' c'):=(zq w #[.int .i64 cells,v1,.int .i64 sum,.slice a' n' c'] 27 3).trans rfl
 generalize (w.alloc (.cells #[.int .i64 cells,v1,.int .i64 sum,.slice a' n' c'] 27))=W0 at hsz hB x0 x1 x2 x3 ⊢
 have Y3:=za x3
 clear x0 x1 x2 x3
 go_wp2_with fail
 go_loopw [5,6,7,10] (fun _ _ _ i wr=>∃k:Nat,k≤np∧i = .int .i64 k∧Hid (∀j,j<k→pathBad n' g P j=0)∧Below W0.heap.size W0 wr) (fun _ _ _ i _=>np - (intOf i).toNat)
 case atStart=>exact ⟨0,by omega,rfl,fun j hj=>absurd hj (by omega),Below.refl _ _⟩
 case round =>
  obtain ⟨k,hk,rfl,hn,hbr⟩:=hrel
  have hszr:w.heap.size<wr.heap.size:=by have:=hbr.size;omega
  have z3:=((zF hbr).1 _ _ hsz).trans Y3.out
  have hbw:=hB.trans (hbr.mono hB.size)
  by_cases hlt:k<np
  ·obtain ⟨b,off,rfl,hb,hc⟩:=(HP.out.mono hbw).2 k hlt
   have hli:(k:Int)<(np:Int):=by omega
   have hl0:(0:Int)≤(k:Int):=by omega
   have hkc:k≤cp:=by omega
   have hit:=(HP.out.mono hbw).take k hk
   have hig:=H'.out.mono hbw
   have hG:Hid (pathBad n' g P k=zz [zn (decide (P[k]?.getD 0<1)||decide ((n':Int)<P[k]?.getD 0)) 3,zn (zY g (P[k]?.getD 0)||zY (P.take k) (P[k]?.getD 0)) 9]):=rfl
   generalize P[k]?.getD 0=x at hc hG
   have HC1:=za (fun W (hb:Below wr.heap.size wr W)=>jw a' n' c' g x W (hig.mono hb))
   have HC2:=za (fun W (hb:Below wr.heap.size wr W)=>jw (some ⟨b,off,none⟩) k cp (P.take k) x W (hit.mono hb))
   clear hig hit
   by_cases g1:x<1
   ·have e1:decide (x<1)=true:=by simpa using g1
    rw[e1,Bool.true_or] at hG
    clear e1
    cases e2:zY g x with
    | true =>
     rw[e2,Bool.true_or] at hG
     by_cases hq:zz [zn true 3,zn true 9]=0
     ·have hq':(zz [zn true 3,zn true 9] != 0)=false:=by simpa using hq
      have hQ:=za hq
      clear hq
      go_wp2_with fail
      refine zk (fun w'=>∃u,w'=over (wr) u) [24,23,22,21] [(0,0),(0,1),(0,2),(0,3),(0,4),(0,5),(0,6),(0,7),(0,8),(0,10),(0,11),(0,12),(1,9),(1,13),(0,14),(0,15),(0,16),(0,17),(0,18),(1,19),(0,20),(2,21),(2,22),(2,23),(2,24)] (by kernel_rfl) (by kernel_rfl) (by exact ⟨_,zi (by repeat (first|assumption|exact Below.refl _ _|refine zd ?_|refine zg ?_ _|refine zb ?_ (by assumption)))⟩) ?_
      dsimp only[zt,zG]
      repeat (first|(refine zu rfl (fun K hK=>?_);go_big_quiet_op;refine hK _ ?_;clear hK K)|(refine zp rfl rfl (fun K hK=>?_);go_big_quiet_op;refine hK _ ?_;clear hK K)|(refine zE ?_;go_wp2_with (first|(go_at_call 134;first|(refine (HC1.out _ (zd (Below.refl _ _))).mono ?_;rintro e w2 ⟨rfl,rfl⟩)|(refine (HC2.out _ (zd (Below.refl _ _))).mono ?_;rintro e w2 ⟨rfl,rfl⟩))|(go_at_call 66;refine (zO _ _ _).mono ?_;rintro e w2 ⟨rfl,rfl⟩)|(go_at_call 65;refine (zK _ _ _ _ _ ((IC.new2 _ _ _ _).mono (zd (Below.refl _ _)))).mono ?_;rintro e w2 ⟨rfl,rfl⟩));refine ⟨?_,?_⟩;focus (exact ⟨_,zi (by repeat (first|assumption|exact Below.refl _ _|refine zd ?_|refine zg ?_ _|refine zb ?_ (by assumption)))⟩)))
      refine zA _ _ _ rfl ?_
      dsimp only[List.map]
      go_wp2_with (first|(go_at_call 134;first|(refine (HC1.out _ (zd (Below.refl _ _))).mono ?_;rintro e w2 ⟨rfl,rfl⟩)|(refine (HC2.out _ (zd (Below.refl _ _))).mono ?_;rintro e w2 ⟨rfl,rfl⟩))|(go_at_call 66;refine (zO _ _ _).mono ?_;rintro e w2 ⟨rfl,rfl⟩)|(go_at_call 65;refine (zK _ _ _ _ _ ((IC.new2 _ _ _ _).mono (zd (Below.refl _ _)))).mono ?_;rintro e w2 ⟨rfl,rfl⟩))
      refine NoPanic.normal ?_
      go_wp2
      go_roundw
      case rel=>exact ⟨k+1,by omega,by go_num,jj hn.out (by rw[hG.out];exact hQ.out),(hbr.alloc hbr.size _).drew⟩
      case measure=>simp[intOf];omega
     ·have hq':(zz [zn true 3,zn true 9] != 0)=true:=by simpa using hq
      have hQ:=za hq
      clear hq
      go_wp2_with fail
      refine zk (fun w'=>∃u,w'=over (wr) u) [24,23,22,21] [(0,0),(0,1),(0,2),(0,3),(0,4),(0,5),(0,6),(0,7),(0,8),(0,10),(0,11),(0,12),(1,9),(1,13),(0,14),(0,15),(0,16),(0,17),(0,18),(1,19),(0,20),(2,21),(2,22),(2,23),(2,24)] (by kernel_rfl) (by kernel_rfl) (by exact ⟨_,zi (by repeat (first|assumption|exact Below.refl _ _|refine zd ?_|refine zg ?_ _|refine zb ?_ (by assumption)))⟩) ?_
      dsimp only[zt,zG]
      repeat (first|(refine zu rfl (fun K hK=>?_);go_big_quiet_op;refine hK _ ?_;clear hK K)|(refine zp rfl rfl (fun K hK=>?_);go_big_quiet_op;refine hK _ ?_;clear hK K)|(refine zE ?_;go_wp2_with (first|(go_at_call 134;first|(refine (HC1.out _ (zd (Below.refl _ _))).mono ?_;rintro e w2 ⟨rfl,rfl⟩)|(refine (HC2.out _ (zd (Below.refl _ _))).mono ?_;rintro e w2 ⟨rfl,rfl⟩))|(go_at_call 66;refine (zO _ _ _).mono ?_;rintro e w2 ⟨rfl,rfl⟩)|(go_at_call 65;refine (zK _ _ _ _ _ ((IC.new2 _ _ _ _).mono (zd (Below.refl _ _)))).mono ?_;rintro e w2 ⟨rfl,rfl⟩));refine ⟨?_,?_⟩;focus (exact ⟨_,zi (by repeat (first|assumption|exact Below.refl _ _|refine zd ?_|refine zg ?_ _|refine zb ?_ (by assumption)))⟩)))
      refine zA _ _ _ rfl ?_
      dsimp only[List.map]
      go_wp2_with (first|(go_at_call 134;first|(refine (HC1.out _ (zd (Below.refl _ _))).mono ?_;rintro e w2 ⟨rfl,rfl⟩)|(refine (HC2.out _ (zd (Below.refl _ _))).mono ?_;rintro e w2 ⟨rfl,rfl⟩))|(go_at_call 66;refine (zO _ _ _).mono ?_;rintro e w2 ⟨rfl,rfl⟩)|(go_at_call 65;refine (zK _ _ _ _ _ ((IC.new2 _ _ _ _).mono (zd (Below.refl _ _)))).mono ?_;rintro e w2 ⟨rfl,rfl⟩))
      refine NoPanic.normal ?_
      go_wp2
      go_ret
      have h1:=zS hn.out hlt (by rw[hG.out];exact hQ.out)
      exact ⟨zD (by rw[hF.out,h1,hG.out]),(hbw.alloc hbw.size _).drew⟩
    | false =>
     rw[e2,Bool.false_or] at hG
     by_cases hq:zz [zn true 3,zn (zY (P.take k) x) 9]=0
     ·have hq':(zz [zn true 3,zn (zY (P.take k) x) 9] != 0)=false:=by simpa using hq
      have hQ:=za hq
      clear hq
      go_wp2_with fail
      refine zk (fun w'=>∃u,w'=over (wr) u) [24,23,22,21] [(0,0),(0,1),(0,2),(0,3),(0,4),(0,5),(0,6),(0,7),(0,8),(0,10),(0,11),(0,12),(1,9),(1,13),(0,14),(0,15),(0,16),(0,17),(0,18),(1,19),(0,20),(2,21),(2,22),(2,23),(2,24)] (by kernel_rfl) (by kernel_rfl) (by exact ⟨_,zi (by repeat (first|assumption|exact Below.refl _ _|refine zd ?_|refine zg ?_ _|refine zb ?_ (by assumption)))⟩) ?_
      dsimp only[zt,zG]
      repeat (first|(refine zu rfl (fun K hK=>?_);go_big_quiet_op;refine hK _ ?_;clear hK K)|(refine zp rfl rfl (fun K hK=>?_);go_big_quiet_op;refine hK _ ?_;clear hK K)|(refine zE ?_;go_wp2_with (first|(go_at_call 134;first|(refine (HC1.out _ (zd (Below.refl _ _))).mono ?_;rintro e w2 ⟨rfl,rfl⟩)|(refine (HC2.out _ (zd (Below.refl _ _))).mono ?_;rintro e w2 ⟨rfl,rfl⟩))|(go_at_call 66;refine (zO _ _ _).mono ?_;rintro e w2 ⟨rfl,rfl⟩)|(go_at_call 65;refine (zK _ _ _ _ _ ((IC.new2 _ _ _ _).mono (zd (Below.refl _ _)))).mono ?_;rintro e w2 ⟨rfl,rfl⟩));refine ⟨?_,?_⟩;focus (exact ⟨_,zi (by repeat (first|assumption|exact Below.refl _ _|refine zd ?_|refine zg ?_ _|refine zb ?_ (by assumption)))⟩)))
      refine zA _ _ _ rfl ?_
      dsimp only[List.map]
      go_wp2_with (first|(go_at_call 134;first|(refine (HC1.out _ (zd (Below.refl _ _))).mono ?_;rintro e w2 ⟨rfl,rfl⟩)|(refine (HC2.out _ (zd (Below.refl _ _))).mono ?_;rintro e w2 ⟨rfl,rfl⟩))|(go_at_call 66;refine (zO _ _ _).mono ?_;rintro e w2 ⟨rfl,rfl⟩)|(go_at_call 65;refine (zK _ _ _ _ _ ((IC.new2 _ _ _ _).mono (zd (Below.refl _ _)))).mono ?_;rintro e w2 ⟨rfl,rfl⟩))
      refine NoPanic.normal ?_
      go_wp2
      go_roundw
      case rel=>exact ⟨k+1,by omega,by go_num,jj hn.out (by rw[hG.out];exact hQ.out),(hbr.alloc hbr.size _).drew⟩
      case measure=>simp[intOf];omega
     ·have hq':(zz [zn true 3,zn (zY (P.take k) x) 9] != 0)=true:=by simpa using hq
      have hQ:=za hq
      clear hq
      go_wp2_with fail
      refine zk (fun w'=>∃u,w'=over (wr) u) [24,23,22,21] [(0,0),(0,1),(0,2),(0,3),(0,4),(0,5),(0,6),(0,7),(0,8),(0,10),(0,11),(0,12),(1,9),(1,13),(0,14),(0,15),(0,16),(0,17),(0,18),(1,19),(0,20),(2,21),(2,22),(2,23),(2,24)] (by kernel_rfl) (by kernel_rfl) (by exact ⟨_,zi (by repeat (first|assumption|exact Below.refl _ _|refine zd ?_|refine zg ?_ _|refine zb ?_ (by assumption)))⟩) ?_
      dsimp only[zt,zG]
      repeat (first|(refine zu rfl (fun K hK=>?_);go_big_quiet_op;refine hK _ ?_;clear hK K)|(refine zp rfl rfl (fun K hK=>?_);go_big_quiet_op;refine hK _ ?_;clear hK K)|(refine zE ?_;go_wp2_with (first|(go_at_call 134;first|(refine (HC1.out _ (zd (Below.refl _ _))).mono ?_;rintro e w2 ⟨rfl,rfl⟩)|(refine (HC2.out _ (zd (Below.refl _ _))).mono ?_;rintro e w2 ⟨rfl,rfl⟩))|(go_at_call 66;refine (zO _ _ _).mono ?_;rintro e w2 ⟨rfl,rfl⟩)|(go_at_call 65;refine (zK _ _ _ _ _ ((IC.new2 _ _ _ _).mono (zd (Below.refl _ _)))).mono ?_;rintro e w2 ⟨rfl,rfl⟩));refine ⟨?_,?_⟩;focus (exact ⟨_,zi (by repeat (first|assumption|exact Below.refl _ _|refine zd ?_|refine zg ?_ _|refine zb ?_ (by assumption)))⟩)))
      refine zA _ _ _ rfl ?_
      dsimp only[List.map]
      go_wp2_with (first|(go_at_call 134;first|(refine (HC1.out _ (zd (Below.refl _ _))).mono ?_;rintro e w2 ⟨rfl,rfl⟩)|(refine (HC2.out _ (zd (Below.refl _ _))).mono ?_;rintro e w2 ⟨rfl,rfl⟩))|(go_at_call 66;refine (zO _ _ _).mono ?_;rintro e w2 ⟨rfl,rfl⟩)|(go_at_call 65;refine (zK _ _ _ _ _ ((IC.new2 _ _ _ _).mono (zd (Below.refl _ _)))).mono ?_;rintro e w2 ⟨rfl,rfl⟩))
      refine NoPanic.normal ?_
      go_wp2
      go_ret
      have h1:=zS hn.out hlt (by rw[hG.out];exact hQ.out)
      exact ⟨zD (by rw[hF.out,h1,hG.out]),(hbw.alloc hbw.size _).drew⟩
   ·have e1:decide (x<1)=false:=by simpa using g1
    rw[e1,Bool.false_or] at hG
    cases e2:zY g x with
    | true =>
     rw[e2,Bool.true_or] at hG
     by_cases hq:zz [zn (decide ((n':Int)<x)) 3,zn true 9]=0
     ·have hq':(zz [zn (decide ((n':Int)<x)) 3,zn true 9] != 0)=false:=by simpa using hq
      have hQ:=za hq
      clear hq
      go_wp2_with fail
      refine zk (fun w'=>∃u,w'=over (wr) u) [24,23,22,21] [(0,0),(0,1),(0,2),(0,3),(0,4),(0,5),(0,6),(0,7),(0,8),(0,10),(0,11),(0,12),(1,9),(1,13),(0,14),(0,15),(0,16),(0,17),(0,18),(1,19),(0,20),(2,21),(2,22),(2,23),(2,24)] (by kernel_rfl) (by kernel_rfl) (by exact ⟨_,zi (by repeat (first|assumption|exact Below.refl _ _|refine zd ?_|refine zg ?_ _|refine zb ?_ (by assumption)))⟩) ?_
      dsimp only[zt,zG]
      repeat (first|(refine zu rfl (fun K hK=>?_);go_big_quiet_op;refine hK _ ?_;clear hK K)|(refine zp rfl rfl (fun K hK=>?_);go_big_quiet_op;refine hK _ ?_;clear hK K)|(refine zE ?_;go_wp2_with (first|(go_at_call 134;first|(refine (HC1.out _ (zd (Below.refl _ _))).mono ?_;rintro e w2 ⟨rfl,rfl⟩)|(refine (HC2.out _ (zd (Below.refl _ _))).mono ?_;rintro e w2 ⟨rfl,rfl⟩))|(go_at_call 66;refine (zO _ _ _).mono ?_;rintro e w2 ⟨rfl,rfl⟩)|(go_at_call 65;refine (zK _ _ _ _ _ ((IC.new2 _ _ _ _).mono (zd (Below.refl _ _)))).mono ?_;rintro e w2 ⟨rfl,rfl⟩));refine ⟨?_,?_⟩;focus (exact ⟨_,zi (by repeat (first|assumption|exact Below.refl _ _|refine zd ?_|refine zg ?_ _|refine zb ?_ (by assumption)))⟩)))
      refine zA _ _ _ rfl ?_
      dsimp only[List.map]
      go_wp2_with (first|(go_at_call 134;first|(refine (HC1.out _ (zd (Below.refl _ _))).mono ?_;rintro e w2 ⟨rfl,rfl⟩)|(refine (HC2.out _ (zd (Below.refl _ _))).mono ?_;rintro e w2 ⟨rfl,rfl⟩))|(go_at_call 66;refine (zO _ _ _).mono ?_;rintro e w2 ⟨rfl,rfl⟩)|(go_at_call 65;refine (zK _ _ _ _ _ ((IC.new2 _ _ _ _).mono (zd (Below.refl _ _)))).mono ?_;rintro e w2 ⟨rfl,rfl⟩))
      refine NoPanic.normal ?_
      go_wp2
      go_roundw
      case rel=>exact ⟨k+1,by omega,by go_num,jj hn.out (by rw[hG.out];exact hQ.out),(hbr.alloc hbr.size _).drew⟩
      case measure=>simp[intOf];omega
     ·have hq':(zz [zn (decide ((n':Int)<x)) 3,zn true 9] != 0)=true:=by simpa using hq
      have hQ:=za hq
      clear hq
      go_wp2_with fail
      refine zk (fun w'=>∃u,w'=over (wr) u) [24,23,22,21] [(0,0),(0,1),(0,2),(0,3),(0,4),(0,5),(0,6),(0,7),(0,8),(0,10),(0,11),(0,12),(1,9),(1,13),(0,14),(0,15),(0,16),(0,17),(0,18),(1,19),(0,20),(2,21),(2,22),(2,23),(2,24)] (by kernel_rfl) (by kernel_rfl) (by exact ⟨_,zi (by repeat (first|assumption|exact Below.refl _ _|refine zd ?_|refine zg ?_ _|refine zb ?_ (by assumption)))⟩) ?_
      dsimp only[zt,zG]
      repeat (first|(refine zu rfl (fun K hK=>?_);go_big_quiet_op;refine hK _ ?_;clear hK K)|(refine zp rfl rfl (fun K hK=>?_);go_big_quiet_op;refine hK _ ?_;clear hK K)|(refine zE ?_;go_wp2_with (first|(go_at_call 134;first|(refine (HC1.out _ (zd (Below.refl _ _))).mono ?_;rintro e w2 ⟨rfl,rfl⟩)|(refine (HC2.out _ (zd (Below.refl _ _))).mono ?_;rintro e w2 ⟨rfl,rfl⟩))|(go_at_call 66;refine (zO _ _ _).mono ?_;rintro e w2 ⟨rfl,rfl⟩)|(go_at_call 65;refine (zK _ _ _ _ _ ((IC.new2 _ _ _ _).mono (zd (Below.refl _ _)))).mono ?_;rintro e w2 ⟨rfl,rfl⟩));refine ⟨?_,?_⟩;focus (exact ⟨_,zi (by repeat (first|assumption|exact Below.refl _ _|refine zd ?_|refine zg ?_ _|refine zb ?_ (by assumption)))⟩)))
      refine zA _ _ _ rfl ?_
      dsimp only[List.map]
      go_wp2_with (first|(go_at_call 134;first|(refine (HC1.out _ (zd (Below.refl _ _))).mono ?_;rintro e w2 ⟨rfl,rfl⟩)|(refine (HC2.out _ (zd (Below.refl _ _))).mono ?_;rintro e w2 ⟨rfl,rfl⟩))|(go_at_call 66;refine (zO _ _ _).mono ?_;rintro e w2 ⟨rfl,rfl⟩)|(go_at_call 65;refine (zK _ _ _ _ _ ((IC.new2 _ _ _ _).mono (zd (Below.refl _ _)))).mono ?_;rintro e w2 ⟨rfl,rfl⟩))
      refine NoPanic.normal ?_
      go_wp2
      go_ret
      have h1:=zS hn.out hlt (by rw[hG.out];exact hQ.out)
      exact ⟨zD (by rw[hF.out,h1,hG.out]),(hbw.alloc hbw.size _).drew⟩
    | false =>
     rw[e2,Bool.false_or] at hG
     by_cases hq:zz [zn (decide ((n':Int)<x)) 3,zn (zY (P.take k) x) 9]=0
     ·have hq':(zz [zn (decide ((n':Int)<x)) 3,zn (zY (P.take k) x) 9] != 0)=false:=by simpa using hq
      have hQ:=za hq
      clear hq
      go_wp2_with fail
      refine zk (fun w'=>∃u,w'=over (wr) u) [24,23,22,21] [(0,0),(0,1),(0,2),(0,3),(0,4),(0,5),(0,6),(0,7),(0,8),(0,10),(0,11),(0,12),(1,9),(1,13),(0,14),(0,15),(0,16),(0,17),(0,18),(1,19),(0,20),(2,21),(2,22),(2,23),(2,24)] (by kernel_rfl) (by kernel_rfl) (by exact ⟨_,zi (by repeat (first|assumption|exact Below.refl _ _|refine zd ?_|refine zg ?_ _|refine zb ?_ (by assumption)))⟩) ?_
      dsimp only[zt,zG]
      repeat (first|(refine zu rfl (fun K hK=>?_);go_big_quiet_op;refine hK _ ?_;clear hK K)|(refine zp rfl rfl (fun K hK=>?_);go_big_quiet_op;refine hK _ ?_;clear hK K)|(refine zE ?_;go_wp2_with (first|(go_at_call 134;first|(refine (HC1.out _ (zd (Below.refl _ _))).mono ?_;rintro e w2 ⟨rfl,rfl⟩)|(refine (HC2.out _ (zd (Below.refl _ _))).mono ?_;rintro e w2 ⟨rfl,rfl⟩))|(go_at_call 66;refine (zO _ _ _).mono ?_;rintro e w2 ⟨rfl,rfl⟩)|(go_at_call 65;refine (zK _ _ _ _ _ ((IC.new2 _ _ _ _).mono (zd (Below.refl _ _)))).mono ?_;rintro e w2 ⟨rfl,rfl⟩));refine ⟨?_,?_⟩;focus (exact ⟨_,zi (by repeat (first|assumption|exact Below.refl _ _|refine zd ?_|refine zg ?_ _|refine zb ?_ (by assumption)))⟩)))
      refine zA _ _ _ rfl ?_
      dsimp only[List.map]
      go_wp2_with (first|(go_at_call 134;first|(refine (HC1.out _ (zd (Below.refl _ _))).mono ?_;rintro e w2 ⟨rfl,rfl⟩)|(refine (HC2.out _ (zd (Below.refl _ _))).mono ?_;rintro e w2 ⟨rfl,rfl⟩))|(go_at_call 66;refine (zO _ _ _).mono ?_;rintro e w2 ⟨rfl,rfl⟩)|(go_at_call 65;refine (zK _ _ _ _ _ ((IC.new2 _ _ _ _).mono (zd (Below.refl _ _)))).mono ?_;rintro e w2 ⟨rfl,rfl⟩))
      refine NoPanic.normal ?_
      go_wp2
      go_roundw
      case rel=>exact ⟨k+1,by omega,by go_num,jj hn.out (by rw[hG.out];exact hQ.out),(hbr.alloc hbr.size _).drew⟩
      case measure=>simp[intOf];omega
     ·have hq':(zz [zn (decide ((n':Int)<x)) 3,zn (zY (P.take k) x) 9] != 0)=true:=by simpa using hq
      have hQ:=za hq
      clear hq
      go_wp2_with fail
      refine zk (fun w'=>∃u,w'=over (wr) u) [24,23,22,21] [(0,0),(0,1),(0,2),(0,3),(0,4),(0,5),(0,6),(0,7),(0,8),(0,10),(0,11),(0,12),(1,9),(1,13),(0,14),(0,15),(0,16),(0,17),(0,18),(1,19),(0,20),(2,21),(2,22),(2,23),(2,24)] (by kernel_rfl) (by kernel_rfl) (by exact ⟨_,zi (by repeat (first|assumption|exact Below.refl _ _|refine zd ?_|refine zg ?_ _|refine zb ?_ (by assumption)))⟩) ?_
      dsimp only[zt,zG]
      repeat (first|(refine zu rfl (fun K hK=>?_);go_big_quiet_op;refine hK _ ?_;clear hK K)|(refine zp rfl rfl (fun K hK=>?_);go_big_quiet_op;refine hK _ ?_;clear hK K)|(refine zE ?_;go_wp2_with (first|(go_at_call 134;first|(refine (HC1.out _ (zd (Below.refl _ _))).mono ?_;rintro e w2 ⟨rfl,rfl⟩)|(refine (HC2.out _ (zd (Below.refl _ _))).mono ?_;rintro e w2 ⟨rfl,rfl⟩))|(go_at_call 66;refine (zO _ _ _).mono ?_;rintro e w2 ⟨rfl,rfl⟩)|(go_at_call 65;refine (zK _ _ _ _ _ ((IC.new2 _ _ _ _).mono (zd (Below.refl _ _)))).mono ?_;rintro e w2 ⟨rfl,rfl⟩));refine ⟨?_,?_⟩;focus (exact ⟨_,zi (by repeat (first|assumption|exact Below.refl _ _|refine zd ?_|refine zg ?_ _|refine zb ?_ (by assumption)))⟩)))
      refine zA _ _ _ rfl ?_
      dsimp only[List.map]
      go_wp2_with (first|(go_at_call 134;first|(refine (HC1.out _ (zd (Below.refl _ _))).mono ?_;rintro e w2 ⟨rfl,rfl⟩)|(refine (HC2.out _ (zd (Below.refl _ _))).mono ?_;rintro e w2 ⟨rfl,rfl⟩))|(go_at_call 66;refine (zO _ _ _).mono ?_;rintro e w2 ⟨rfl,rfl⟩)|(go_at_call 65;refine (zK _ _ _ _ _ ((IC.new2 _ _ _ _).mono (zd (Below.refl _ _)))).mono ?_;rintro e w2 ⟨rfl,rfl⟩))
      refine NoPanic.normal ?_
      go_wp2
      go_ret
      have h1:=zS hn.out hlt (by rw[hG.out];exact hQ.out)
      exact ⟨zD (by rw[hF.out,h1,hG.out]),(hbw.alloc hbw.size _).drew⟩
  ·have e:k=np:=by omega
   subst e
   go_wp2
   go_ret
   exact ⟨zD (by rw[hF.out,ju hn.out]),hbw⟩
end
section
open Go Go.RowKit
theorem tmod_pos (a n:Int) (hn:1≤n) : -n<a.tmod n∧a.tmod n<n:=by
 refine ⟨?_,Int.tmod_lt_of_pos a (by omega)⟩
 have h:=Int.tmod_lt_of_pos (-a) (show 0<n by omega)
 rw[Int.neg_tmod] at h
 omega
theorem mod_val (a n:Int) (hn1:1≤n) (hn2:n≤1000000):(wrap64 (a.tmod n+n)).tmod n=a % n:=by
 obtain ⟨h1,h2⟩:=tmod_pos a n hn1
 have e:wrap64 (a.tmod n+n)=a.tmod n+n:=by unfold wrap64;omega
 rw[e,Int.tmod_eq_emod_of_nonneg (by omega),Int.add_emod_right]
 have h3:=Int.tmod_add_mul_tdiv a n
 conv=>rhs;rw[← h3]
 rw[Int.add_mul_emod_self_left]
theorem mod_c (a n:Int) (w:World) (hn1:1≤n) (hn2:n≤1000000) :
  Calls Tryz.prog 231 #[.int .i64 a,.int .i64 n] w fun e w'=>e = .returned (.int .i64 (a % n))∧w=w':=by
 have hn0:n≠0:=by omega
 have hn00:(n==0)=false:=by simp;omega
 have HN:=za hn0
 clear hn0
 go_enter Tryz.func231,Tryz.ntmps231
 go_wp2
 go_ret
 exact ⟨congrArg Ending.returned (congrArg (Value.int IntKind.i64) (mod_val a n hn1 hn2)),rfl⟩
end
section
open Go Go.RowKit
attribute [local go_sem] zv
def qx (n s t:Int) (k:Nat):List Int:=(List.range k).map fun (i:Nat)=>n*i+(t*i+s) % n
theorem diagTo_succ (n s t:Int) (k:Nat):qx n s t (k+1)=qx n s t k++[n*k+(t*k+s) % n]:=by
 unfold qx;rw[List.range_succ,List.map_append];rfl
theorem diag_c (n:Nat) (s t:Int) (w:World) (hn1:1≤n) (hn2:n≤16) (hs1:0≤s) (hs2:s≤16) (ht:t=1∨t = -1) :
  Calls Tryz.prog 191 #[.int .i64 n,.int .i64 s,.int .i64 t] w fun e w'=>∃v,e = .returned v∧w'.ownsRow w.heap.size 3 1 v n ((qx n s t n).map (Value.int .i64))∧Below w.heap.size w w':=by
 obtain ⟨i0,hi,hz0,hz1,hz2⟩:=info_parts qk
 have HM:=za (fun (x:Int) W=>mod_c x (n:Int) W (by omega) (by omega))
 have HT:=za ht
 clear ht
 go_enter Tryz.func191,Tryz.ntmps191
 go_wp2_with fail
 go_loopw [7,8] (fun v i wr=>∃k:Nat,k≤n∧i = .int .i64 k∧wr.ownsRow w.heap.size 3 1 v k ((qx n s t k).map (Value.int .i64))∧Below w.heap.size w wr) (fun _ i _=>n - (intOf i).toNat)
 case atStart=>exact ⟨0,by omega,rfl,World.ownsRow_nil _ _ _ _,Below.refl _ _⟩
 case round =>
  obtain ⟨k,hk,rfl,hown,hbr⟩:=hrel
  by_cases hlt:k<n
  ·have hli:(k:Int)<(n:Int):=by omega
   have hszr:=hbr.size
   have h1:t*(k:Int)+s≤1000 ∧ -1000≤t*(k:Int)+s:=by rcases HT.out with e|e <;> rw[e] <;> omega
   have h2:0≤(n:Int)*(k:Int)∧(n:Int)*(k:Int)≤256:=by
    constructor
    ·exact Int.mul_nonneg (by omega) (by omega)
    ·have:=Int.mul_le_mul (show (n:Int)≤16 by omega) (show (k:Int)≤16 by omega) (by omega) (by omega);omega
   have h3 : -16≤t*(k:Int)∧t*(k:Int)≤16:=by rcases HT.out with e|e <;> rw[e] <;> omega
   have hN:=za (diagTo_succ n s t k)
   have hm0:=Int.emod_nonneg (t*(k:Int)+s) (show (n:Int)≠0 by omega)
   have hm1:=Int.emod_lt_of_pos (t*(k:Int)+s) (show 0<(n:Int) by omega)
   have HM1:=za (HM.out (t*(k:Int)+s))
   generalize (t*(k:Int)+s) % (n:Int)=m at hN hm0 hm1 HM1
   go_wp2_with (first|(go_at_call 231;refine (HM1.out _).mono ?_;rintro _ w2 ⟨rfl,rfl⟩)|(at_builtin;refine wpList_append_own _ rfl _ _ 25 rfl w.heap.size 3 i0 (.int .i64 0) 1 8 Tryz.underlying25 hi hz0 hz1 hz2 rfl (by decide) _ _ _ rfl (hown.alloc _) ⟨wr.heap.size,0,none⟩ 1 1 [.int .i64 ((n:Int)*k+m)] rfl rfl (cell_one_new _ _ _) (by simp[Value.oneCell']) (by unfold maxLen;omega) (by omega) (by simp;omega) ?_))
   intro v' w3 hown' hgrow _
   have hb3:Below w.heap.size w w3:=(hbr.alloc hbr.size _).grown hgrow (by simp;omega) (fun j e=>(hown.lt j e).1)
   have hown2:w3.ownsRow w.heap.size 3 1 v' (k+1) ((qx n s t (k+1)).map (Value.int .i64)):=by
    rw[hN.out];simpa using hown'
   clear hown' hgrow hown
   go_wp2
   go_roundw
   case rel=>exact ⟨k+1,by omega,by go_num,hown2,hb3⟩
   case measure=>simp[intOf];omega
  ·have e:k=n:=by omega
   subst e
   go_wp2
   go_ret
   exact ⟨_,rfl,hown,hbr⟩
end
section
open Go Go.RowKit
attribute [local go_sem] zv
attribute [local go_sem] Oper.semAt_some
theorem rules_c (w:World):Calls Tryz.prog 159 #[] w fun e w'=>e = .returned (.slice (some ⟨w.heap.size,0,none⟩) 3 3)∧w'.heap[w.heap.size]?=some (.cells #[.string ⟨#[111,110,99,101]⟩,.func (Fn.func 216) #[] #[],.string ⟨#[108,105,110,101]⟩,.func (Fn.func 217) #[] #[],.string ⟨#[112,108,97,99,101]⟩,.func (Fn.func 218) #[] #[]] 212 (0,0))∧Below w.heap.size w w':=by
 go_enter Tryz.func159,Tryz.ntmps159
 go_wp2
 go_ret
 exact ⟨rfl,World.alloc_heap_new _ _,(Below.refl _ _).alloc (Nat.le_refl _) _⟩
end
section
open Go Go.RowKit
attribute [local go_sem] zv
theorem runused_c (v1:Value) (cells sum:Int) (a':Option Addr) (n' c':Nat) (g:List Int) (w:World) (h':IC w a' n' g) :
  Calls Tryz.prog 154 #[.agg #[.int .i64 cells,v1,.int .i64 sum,.slice a' n' c']] w fun e w'=>∃v,e = .returned v∧w'.ownsRow w.heap.size 3 1 v (zh g).length ((zh g).map (Value.int .i64))∧Below w.heap.size w w':=by
 have hm':=h'.small
 obtain ⟨i0,hi,hz0,hz1,hz2⟩:=info_parts qk
 go_enter Tryz.func154,Tryz.ntmps154
 go_wp2_with fail
 have hsz:w.heap.size<(w.alloc (.cells #[.int .i64 cells,v1,.int .i64 sum,.slice a' n' c'] 30)).heap.size:=by simp
 have hB:Below w.heap.size w (w.alloc (.cells #[.int .i64 cells,v1,.int .i64 sum,.slice a' n' c'] 30)):=(Below.refl _ _).alloc (Nat.le_refl _) _
 have x0:(w.alloc (.cells #[.int .i64 cells,v1,.int .i64 sum,.slice a' n' c'] 30)).cell? ⟨w.heap.size,0,none⟩=some (.int .i64 cells):=(zq w #[.int .i64 cells,v1,.int .i64 sum,.slice a' n' c'] 30 0).trans rfl
 have x1:(w.alloc (.cells #[.int .i64 cells,v1,.int .i64 sum,.slice a' n' c'] 30)).cell? ⟨w.heap.size,1,none⟩=some (v1):=(zq w #[.int .i64 cells,v1,.int .i64 sum,.slice a' n' c'] 30 1).trans rfl
 have x2:(w.alloc (.cells #[.int .i64 cells,v1,.int .i64 sum,.slice a' n' c'] 30)).cell? ⟨w.heap.size,2,none⟩=some (.int .i64 sum):=(zq w #[.int .i64 cells,v1,.int .i64 sum,.slice a' n' c'] 30 2).trans rfl
 have x3:(w.alloc (.cells #[.int .i64 cells,v1,.int .i64 sum,.slice a' n' c'] 30)).cell? ⟨w.heap.size,3,none⟩=some (.slice a' n' c'):=(zq w #[.int .i64 cells,v1,.int .i64 sum,.slice a' n' c'] 30 3).trans rfl
 generalize (w.alloc (.cells #[.int .i64 cells,v1,.int .i64 sum,.slice a' n' c'] 30))=W0 at hsz hB x0 x1 x2 x3 ⊢
 have h0:=h'.mono hB
 have hgl:=za h'.len
 have X3:=za x3
 clear x0 x1 x2 x3 h'
 go_wp2_with fail
 go_loopw [3,4] (fun v i wr=>∃k:Nat,k≤n'∧i = .int .i64 ((k:Int)+1)∧wr.ownsRow W0.heap.size 3 1 v (jy g k).length ((jy g k).map (Value.int .i64))∧Below W0.heap.size W0 wr) (fun _ i _=>n'+1 - (intOf i).toNat)
 case atStart=>exact ⟨0,by omega,rfl,World.ownsRow_nil _ _ _ _,Below.refl _ _⟩
 case round =>
  obtain ⟨k,hk,rfl,hown,hbr⟩:=hrel
  have z3:=((zF hbr).1 _ _ hsz).trans X3.out
  have hszr:=hbr.size
  by_cases hlt:k<n'
  ·have hlen:=jd g k
   have HH:=za (has_c a' n' c' g ((k:Int)+1) wr (h0.mono hbr))
   cases hb:zY g ((k:Int)+1) with
   | true =>
    rw[hb] at HH
    have HBB:=za hb
    clear hb
    go_wp2_with (go_at_call 62;refine HH.out.mono ?_;rintro _ w2 ⟨rfl,rfl⟩)
    go_roundw
    case rel=>exact ⟨k+1,by omega,by go_num,by rw[unusedTo_miss HBB.out];exact hown,hbr⟩
    case measure=>simp[intOf];omega
   | false =>
    rw[hb] at HH
    have HBB:=za hb
    clear hb
    go_wp2_with (first|(go_at_call 62;refine HH.out.mono ?_;rintro _ w2 ⟨rfl,rfl⟩)|(at_builtin;refine wpList_append_own _ rfl _ _ 25 rfl W0.heap.size 3 i0 (.int .i64 0) 1 8 Tryz.underlying25 hi hz0 hz1 hz2 rfl (by decide) _ _ _ rfl (hown.alloc _) ⟨wr.heap.size,0,none⟩ 1 1 [.int .i64 ((k:Int)+1)] rfl rfl (cell_one_new _ _ _) (by simp[Value.oneCell']) (by unfold maxLen;omega) (by omega) (by simp;omega) ?_))
    intro v' w3 hown' hgrow _
    have hb3:Below W0.heap.size W0 w3:=(hbr.alloc hbr.size _).grown hgrow (by simp;omega) (fun j e=>(hown.lt j e).1)
    have hown2:w3.ownsRow W0.heap.size 3 1 v' (jy g (k+1)).length ((jy g (k+1)).map (Value.int .i64)):=by
     rw[unusedTo_hit HBB.out];simpa using hown'
    clear hown' hgrow hown
    go_wp2
    go_roundw
    case rel=>exact ⟨k+1,by omega,by go_num,hown2,hb3⟩
    case measure=>simp[intOf];omega
  ·have e:k=n':=by omega
   subst e
   go_wp2
   go_ret
   refine ⟨_,rfl,?_,hB.trans (hbr.mono (by omega))⟩
   unfold zh
   rw[hgl.out]
   exact zI hown (by omega)
end
section
open Go Go.RowKit
attribute [local go_sem] zv
theorem rbounds_c {cells:Int} {ls:List (List Int)} {sum:Int} {g:List Int} (G:GoodTask cells ls sum g) (a:Option Addr) (n c:Nat) (a':Option Addr) (n' c':Nat) (line:Nat) (w:World) (h:RC w a n ls) (h':IC w a' n' g) (hline:line<n) :
  Calls Tryz.prog 153 #[.agg #[.int .i64 cells,.slice a n c,.int .i64 sum,.slice a' n' c'],.int .i64 line] w fun e w'=>e = .returned (.tuple #[.int .i64 (lowV (ls[line]?.getD []) g (zh g)),.int .i64 (highV (ls[line]?.getD []) g (zh g))])∧Below w.heap.size w w':=by
 have hns:=h.small
 have hn's:=h'.small
 have hll:=h.len
 have hgl:=za h'.len
 have hmem:ls[line]?.getD []∈ls:=by rw[List.getElem?_eq_getElem (by omega)];exact List.getElem_mem (by omega)
 have hul:(zh g).length≤256:=by have:=jd g g.length;have:=G.glen;unfold zh;omega
 have HCN:=za (G.cnt hmem)
 have HL2:=za (G.lineLen hmem).2
 have hl1:(ls[line]?.getD []).length≤256:=by have:=G.lineShort hmem;have:=G.cells2;omega
 have HG:=za G.num'
 have HGL:=za G.len
 have HU:=za (unused_num G.glen)
 obtain ⟨bl,ol,a1,n1,c1,rfl,hbl,hcl,hil,hnc⟩:=h.2 line hline
 have HUN:=za (fun (W:World) (hb:Below w.heap.size w W)=>runused_c (.slice (some ⟨bl,ol,none⟩) n c) cells sum a' n' c' g W (h'.mono hb))
 have hlowE:Hid (lowV (ls[line]?.getD []) g (zh g)=jm (ls[line]?.getD []) g+loU (zh g) (jz (ls[line]?.getD []) g (ls[line]?.getD []).length)):=rfl
 have hhighE:Hid (highV (ls[line]?.getD []) g (zh g)=jm (ls[line]?.getD []) g+hiU (zh g) (jz (ls[line]?.getD []) g (ls[line]?.getD []).length)):=rfl
 clear hmem h hll G
 generalize ls[line]?.getD []=l at *
 have hn1:=hil.len
 have H':=za h'
 have HIL:=za hil
 have hli:(line:Int)<(n:Int):=by omega
 have hl0:(0:Int)≤(line:Int):=by omega
 clear h' hil
 go_enter Tryz.func153,Tryz.ntmps153
 go_wp2_with fail
 have hsz:w.heap.size<(w.alloc (.cells #[.int .i64 cells,.slice (some ⟨bl,ol,none⟩) n c,.int .i64 sum,.slice a' n' c'] 30)).heap.size:=by simp
 have hB:Below w.heap.size w (w.alloc (.cells #[.int .i64 cells,.slice (some ⟨bl,ol,none⟩) n c,.int .i64 sum,.slice a' n' c'] 30)):=(Below.refl _ _).alloc (Nat.le_refl _) _
 have x0:(w.alloc (.cells #[.int .i64 cells,.slice (some ⟨bl,ol,none⟩) n c,.int .i64 sum,.slice a' n' c'] 30)).cell? ⟨w.heap.size,0,none⟩=some (.int .i64 cells):=(zq w #[.int .i64 cells,.slice (some ⟨bl,ol,none⟩) n c,.int .i64 sum,.slice a' n' c'] 30 0).trans rfl
 have x1:(w.alloc (.cells #[.int .i64 cells,.slice (some ⟨bl,ol,none⟩) n c,.int .i64 sum,.slice a' n' c'] 30)).cell? ⟨w.heap.size,1,none⟩=some (.slice (some ⟨bl,ol,none⟩) n c):=(zq w #[.int .i64 cells,.slice (some ⟨bl,ol,none⟩) n c,.int .i64 sum,.slice a' n' c'] 30 1).trans rfl
 have x2:(w.alloc (.cells #[.int .i64 cells,.slice (some ⟨bl,ol,none⟩) n c,.int .i64 sum,.slice a' n' c'] 30)).cell? ⟨w.heap.size,2,none⟩=some (.int .i64 sum):=(zq w #[.int .i64 cells,.slice (some ⟨bl,ol,none⟩) n c,.int .i64 sum,.slice a' n' c'] 30 2).trans rfl
 have x3:(w.alloc (.cells #[.int .i64 cells,.slice (some ⟨bl,ol,none⟩) n c,.int .i64 sum,.slice a' n' c'] 30)).cell? ⟨w.heap.size,3,none⟩=some (.slice a' n' c'):=(zq w #[.int .i64 cells,.slice (some ⟨bl,ol,none⟩) n c,.int .i64 sum,.slice a' n' c'] 30 3).trans rfl
 generalize (w.alloc (.cells #[.int .i64 cells,.slice (some ⟨bl,ol,none⟩) n c,.int .i64 sum,.slice a' n' c'] 30))=W0 at hsz hB x0 x1 x2 x3 ⊢
 have hblW:bl<W0.heap.size:=Nat.lt_of_lt_of_le hbl hB.size
 have Y0:=za x0
 have Y1:=za x1
 have Y2:=za x2
 have Y3:=za x3
 have HIL0:=za (HIL.out.mono hB)
 have H'0:=za (H'.out.mono hB)
 clear x0 x1 x2 x3 hcl
 go_loopw [6,7,9] (fun sv ov i wr=>∃k:Nat,k≤n1∧i = .int .i64 k∧sv = .int .i64 (sumTo l g k)∧ov = .int .i64 (jz l g k)∧Below W0.heap.size W0 wr) (fun _ _ i _=>n1 - (intOf i).toNat)
 case atStart=>exact ⟨0,by omega,rfl,by simp[sumTo,jm],rfl,Below.refl _ _⟩
 case round =>
  obtain ⟨k,hk,rfl,rfl,rfl,hbr⟩:=hrel
  have hszr:w.heap.size<wr.heap.size:=Nat.lt_of_lt_of_le hsz hbr.size
  have hbd:=sumTo_bd (l:=l) (f:=g) (B:=256) HG.out k (by omega)
  have hb1:=hbd.1
  have hb2:sumTo l g k≤65536:=by omega
  have hc1:=cntTo_le l g k
  clear hbd
  by_cases hlt:k<n1
  ·have z3:=((zF hbr).1 _ _ hsz).trans Y3.out
   obtain ⟨bl1,ol1,rfl,hbl1,hcl1⟩:=(HIL0.out.mono hbr).2 k hlt
   have hkl:k<l.length:=by rw[hn1];exact hlt
   have hr:=HL2.out _ (List.getElem_mem hkl)
   obtain ⟨x,hxx⟩:∃x:Nat,l[k]?.getD 0=(x:Int):=⟨(l[k]'hkl).toNat,by rw[List.getElem?_eq_getElem hkl,Option.getD_some];omega⟩
   have hxn:x<n':=by have h1:=HGL.out;have h2:=hgl.out;rw[List.getElem?_eq_getElem hkl,Option.getD_some] at hxx;omega
   obtain ⟨bg,og,rfl,hbg,hcg⟩:=(H'0.out.mono hbr).2 x hxn
   have hS:=cntTo_succ (g:=g) hkl
   have hSS:=sumTo_succ (f:=g) hkl
   rw[hxx] at hcl1 hS hSS
   rw[Int.toNat_natCast] at hS hSS
   have hxn1:(x:Int)<(n':Int):=by omega
   have hki:(k:Int)<(n1:Int):=by omega
   have hy0:=HG.out x
   have hy1:=hy0.1
   have hy2:=hy0.2
   clear hy0
   generalize g[x]?.getD 0=y at hcg hS hSS hy1 hy2
   have HSS:=za hSS
   clear hr hxx hkl hSS
   by_cases hy:(y==0)=true
   ·rw[if_pos hy] at hS
    have HS:=za hS
    clear hS
    go_wp2_with fail
    refine zk (fun w'=>∃u,w'=over (wr) u) [10] [(0,0),(0,1),(0,2),(0,3),(0,4),(0,5),(0,6),(0,7),(0,8),(0,9),(2,10)] (by kernel_rfl) (by kernel_rfl) (by exact ⟨_,zi (by repeat (first|assumption|exact Below.refl _ _|refine zd ?_|refine zg ?_ _|refine zb ?_ (by assumption)))⟩) ?_
    dsimp only[zt,zG]
    repeat (first|(refine zu rfl (fun K hK=>?_);go_big_quiet_op;refine hK _ ?_;clear hK K)|(refine zp rfl rfl (fun K hK=>?_);go_big_quiet_op;refine hK _ ?_;clear hK K))
    refine zA _ _ _ rfl ?_
    dsimp only[List.map]
    go_wp2
    refine NoPanic.normal ?_
    go_wp2_with fail
    refine zk (fun w'=>∃u,w'=over (wr) u) [] [(0,0),(0,1),(0,2),(0,3),(0,4),(0,5),(0,6),(0,7),(0,8)] (by kernel_rfl) (by kernel_rfl) (by exact ⟨_,zi (by repeat (first|assumption|exact Below.refl _ _|refine zd ?_|refine zg ?_ _|refine zb ?_ (by assumption)))⟩) ?_
    dsimp only[zt,zG]
    repeat (first|(refine zu rfl (fun K hK=>?_);go_big_quiet_op;refine hK _ ?_;clear hK K)|(refine zp rfl rfl (fun K hK=>?_);go_big_quiet_op;refine hK _ ?_;clear hK K))
    refine jI ?_
    go_wp2
    go_roundw
    case rel=>exact ⟨k+1,by omega,by go_num,by rw[HSS.out],by rw[HS.out];go_num,hbr.drew.drew⟩
    case measure=>simp[intOf];omega
   ·rw[if_neg hy,Nat.add_zero] at hS
    have hyf:(y==0)=false:=by simpa using hy
    have HS:=za hS
    clear hS hy
    go_wp2_with fail
    refine zk (fun w'=>∃u,w'=over (wr) u) [10] [(0,0),(0,1),(0,2),(0,3),(0,4),(0,5),(0,6),(0,7),(0,8),(0,9),(2,10)] (by kernel_rfl) (by kernel_rfl) (by exact ⟨_,zi (by repeat (first|assumption|exact Below.refl _ _|refine zd ?_|refine zg ?_ _|refine zb ?_ (by assumption)))⟩) ?_
    dsimp only[zt,zG]
    repeat (first|(refine zu rfl (fun K hK=>?_);go_big_quiet_op;refine hK _ ?_;clear hK K)|(refine zp rfl rfl (fun K hK=>?_);go_big_quiet_op;refine hK _ ?_;clear hK K))
    refine zA _ _ _ rfl ?_
    dsimp only[List.map]
    go_wp2
    refine NoPanic.normal ?_
    go_wp2_with fail
    refine zk (fun w'=>∃u,w'=over (wr) u) [] [(0,0),(0,1),(0,2),(0,3),(0,4),(0,5),(0,6),(0,7),(0,8)] (by kernel_rfl) (by kernel_rfl) (by exact ⟨_,zi (by repeat (first|assumption|exact Below.refl _ _|refine zd ?_|refine zg ?_ _|refine zb ?_ (by assumption)))⟩) ?_
    dsimp only[zt,zG]
    repeat (first|(refine zu rfl (fun K hK=>?_);go_big_quiet_op;refine hK _ ?_;clear hK K)|(refine zp rfl rfl (fun K hK=>?_);go_big_quiet_op;refine hK _ ?_;clear hK K))
    refine jI ?_
    go_wp2
    go_roundw
    case rel=>exact ⟨k+1,by omega,by go_num,by rw[HSS.out],by rw[HS.out];rfl,hbr.drew.drew⟩
    case measure=>simp[intOf];omega
  ·have e:k=n1:=by omega
   subst e
   have hsA:sumTo l g k=jm l g:=by unfold sumTo;rw[List.take_of_length_le (by omega)]
   rw[hsA] at hb1 hb2 ⊢
   rw[hn1] at hlowE hhighE HCN
   have hbw:=hB.trans (hbr.mono hB.size)
   have z0:=((zF hbr).1 _ _ hsz).trans Y0.out
   have z1:=((zF hbr).1 _ _ hsz).trans Y1.out
   have z2:=((zF hbr).1 _ _ hsz).trans Y2.out
   have z3:=((zF hbr).1 _ _ hsz).trans Y3.out
   have hmn:=HCN.out
   generalize jz l g k=m at *
   clear hsA
   go_wp2_with fail
   refine (HUN.out wr hbw).mono ?_
   rintro _ w2 ⟨v2,rfl,hown,hb2w⟩
   obtain ⟨au,cu,rfl⟩:=zr hown
   have HUI:=za (IC.of_owns hown (by omega)).1
   have hB2:=hbw.trans (hb2w.mono hbw.size)
   clear hown z0 z1 z2 z3
   go_wp2_with fail
   go_loop [11,12,13] (fun lo hi i=>∃j:Nat,j≤m∧i = .int .i64 j∧lo = .int .i64 (jm l g+loU (zh g) j)∧hi = .int .i64 (jm l g+hiU (zh g) j)) (fun _ _ i=>m - (intOf i).toNat)
   case atStart=>exact ⟨0,by omega,rfl,by simp[loU],by simp[hiU]⟩
   case round =>
    obtain ⟨j,hj,rfl,rfl,rfl⟩:=hrel
    have b1:=loU_bd HU.out j
    have b2:=hiU_bd HU.out j
    by_cases hlt2:j<m
    ·obtain ⟨bu,ou,rfl,hbu,hcu⟩:=HUI.out.2 j (by omega)
     obtain ⟨bu2,ou2,e2,hbu2,hcu2⟩:=HUI.out.2 ((zh g).length - 1 - j) (by omega)
     simp only[Option.some.injEq,Addr.mk.injEq,and_true] at e2
     obtain ⟨rfl,rfl⟩:=e2
     have hSL:=za (loU_succ (zh g) j)
     have hSH:=za (hiU_succ (zh g) j)
     have hu1:=HU.out j
     have hu2:=HU.out ((zh g).length - 1 - j)
     generalize (zh g)[j]?.getD 0=u1 at hcu hSL hu1
     generalize (zh g)[(zh g).length - 1 - j]?.getD 0=u2 at hcu2 hSH hu2
     have hju:(j:Int)<((zh g).length:Int):=by omega
     have hjm:(j:Int)<(m:Int):=by omega
     generalize loU (zh g) j=lo at *
     generalize hiU (zh g) j=hi at *
     go_wp2
     go_round
     case rel=>exact ⟨j+1,by omega,by go_num,by rw[hSL.out];go_num,by rw[hSH.out];go_num⟩
     case measure=>simp[intOf];omega
    ·have e:j=m:=by omega
     subst e
     go_wp2
     go_ret2
     exact ⟨by rw[hlowE.out,hhighE.out];rfl,hB2⟩
end
end Go.Proofs.YtaadpihbjhachaaGreat
