/- Texts U6 to U8 of this proof, in one file. -/
import Derived.Test.YtaadpihbjhachaaGreatW03
import Derived.Test.YtaadpihbjhachaaGreatW08
import Derived.Test.YtaadpihbjhachaaGreatW28
import Derived.Test.YtaadpihbjhachaaGreatW54
import Derived.Test.YtaadpihbjhachaaGreatW57
import Derived.Test.YtaadpihbjhachaaGreatW58
import Derived.Deep.CutBlock
import Derived.Deep.CutRange
namespace Go.Proofs.YtaadpihbjhachaaGreat
set_option maxRecDepth 100000
set_option maxHeartbeats 16000000
section
open Go Go.RowKit
def srt (f:List Int):List Int:=f.mergeSort (fun x y=>decide (x≤y))
theorem srt_len (f:List Int):(srt f).length=f.length:=List.length_mergeSort f
theorem srt_mem {f:List Int} {x:Int}:x∈srt f↔x∈f:=List.mem_mergeSort
theorem srt_up (f:List Int):∀i j,i<j→j<f.length→(srt f)[i]?.getD 0≤(srt f)[j]?.getD 0:=by
 intro i j hij hj
 have hp:=List.pairwise_mergeSort (le:=fun x y:Int=>decide (x≤y)) (fun a b c h1 h2=>by simp at h1 h2 ⊢;omega) (fun a b=>by simp;omega) f
 have hl:=srt_len f
 have h:=List.pairwise_iff_getElem.1 hp i j (by unfold srt at hl;omega) (by unfold srt at hl;omega) hij
 rw[List.getElem?_eq_getElem (by omega),List.getElem?_eq_getElem (by omega)]
 exact of_decide_eq_true h
theorem srt_norm {f:List Int} (h:normB f=true):∀k,k<f.length→(srt f)[k]?.getD 0=(k:Int)+1:=by
 unfold normB at h
 rw[List.all_eq_true] at h
 have hl:=srt_len f
 have hex:∀v,v<f.length→∃i,i<f.length∧(srt f)[i]?.getD 0=(v:Int)+1:=by
  intro v hv
  have h1:=h v (by simpa using hv)
  have h2:((v:Int)+1)∈srt f:=srt_mem.2 (by unfold zY at h1;simpa using h1)
  obtain ⟨i,hi,e⟩:=List.getElem_of_mem h2
  exact ⟨i,by omega,by rw[List.getElem?_eq_getElem hi];exact e⟩
 have hlt:∀i j,i<f.length→j<f.length→(srt f)[i]?.getD 0<(srt f)[j]?.getD 0→i<j:=by
  intro i j hi hj hx
  apply Classical.byContradiction
  intro hn
  rcases Nat.lt_or_ge j i with h1|h1
  ·have:=srt_up f j i h1 hi;omega
  ·have e:i=j:=by omega
   subst e
   omega
 have lo:∀v i,v<f.length→i<f.length→(srt f)[i]?.getD 0=(v:Int)+1→v≤i:=by
  intro v
  induction v with
  | zero=>intro i _ _ _;omega
  | succ v ih =>
   intro i hv hi e
   obtain ⟨j,hj,ej⟩:=hex v (by omega)
   have h1:=ih j (by omega) hj ej
   have h2:=hlt j i hj hi (by omega)
   omega
 have hi:∀d v i,v+d+1=f.length→i<f.length→(srt f)[i]?.getD 0=(v:Int)+1→i≤v:=by
  intro d
  induction d with
  | zero=>intro v i hv hi _;omega
  | succ d ih =>
   intro v i hv hi e
   obtain ⟨j,hj,ej⟩:=hex (v+1) (by omega)
   have h1:=ih (v+1) j (by omega) hj ej
   have h2:=hlt i j hi hj (by omega)
   omega
 intro k hk
 obtain ⟨i,hi1,e⟩:=hex k hk
 have h1:=lo k i hk hi1 e
 have h2:=hi (f.length - k - 1) k i (by omega) hi1 e
 have e2:i=k:=by omega
 rw[← e2,e,e2]
theorem norm_srt {f:List Int} (h:∀k,k<f.length→(srt f)[k]?.getD 0=(k:Int)+1):normB f=true:=by
 refine norm_end fun k hk=>?_
 have h1:=h k hk
 have hl:=srt_len f
 have h2:(k:Int)+1∈srt f:=by
  rw[← h1,List.getElem?_eq_getElem (by omega)]
  exact List.getElem_mem _
 unfold zY
 simpa using srt_mem.1 h2
end
section
open Go Go.RowKit
attribute [local go_sem] zv
attribute [local go_sem] Oper.semAt_some
theorem lnorm1_c (a:Option Addr) (n c:Nat) (f:List Int) (w:World) (h:IC w a n f) (h1:1≤n) (h2:n≤256) :
  Calls Tryz.prog 143 #[.slice a n c] w fun e w'=>e = .returned (.bool (normB f))∧Below w.heap.size w w':=by
 have hl:=h.len
 obtain ⟨b,off,rfl,hb,_⟩:=h.2 0 (by omega)
 have HY:Hid (∀k,k<n→(srt f)[k]?.getD 0≠(k:Int)+1→normB f=false):=fun k hk hne=>by
  rw[Bool.eq_false_iff]
  intro e
  exact hne (srt_norm e k (by omega))
 have HZ:Hid ((∀k,k<n→(srt f)[k]?.getD 0=(k:Int)+1)→normB f=true):=fun e=>norm_srt (fun k hk=>e k (by omega))
 have fB:Below w.heap.size w (w.alloc (.cells #[.slice (some ⟨b,off,none⟩) n c] 25)):=(Below.refl _ _).alloc (Nat.le_refl _) _
 have fq:(w.alloc (.cells #[.slice (some ⟨b,off,none⟩) n c] 25)).heap[w.heap.size]?=some (.cells #[.slice (some ⟨b,off,none⟩) n c] 25 (0,0)):=World.alloc_heap_new _ _
 have HS:=sorted_c w.heap.size b off c f (by omega) (by omega) (w.alloc (.cells #[.slice (some ⟨b,off,none⟩) n c] 25)) (zy fq) (Nat.lt_of_lt_of_le hb fB.size) (by rw[hl];exact zc fq 0) (fun j hj=>by
  obtain ⟨b2,off2,e,_,hc⟩:=(h.mono fB).2 j (by omega)
  cases e
  exact hc)
 rw[hl] at HS
 have HS:=za HS
 have HFB:=za fB
 clear h fq fB hl
 generalize normB f=nb at HY HZ ⊢
 go_enter Tryz.func143,Tryz.ntmps143
 go_wp2_with (first|(go_at_call 121;refine (values_c _ _ _ _).mono ?_;rintro _ _ ⟨rfl,rfl⟩))
 refine HS.out.mono ?_
 rintro _ w2 ⟨⟨v,rfl,hown⟩,hb2⟩
 have hB2:=zb HFB.out hb2
 have hsl:(srt f).length=n:=hown.1 |> fun h=>by simpa [srt] using h
 obtain ⟨a2,c2,rfl⟩:=zr hown
 have hic:=(IC.of_owns (xs:=srt f) (by rw[hsl];exact hown) (by omega)).1
 have HI:=za hic
 clear hown hic hsl HS HFB
 generalize srt f=s at HY HZ HI
 go_wp2_with fail
 go_loop [3,4,9] (fun _ _ iv=>∃k:Nat,k≤n∧iv = .int .i64 k∧Hid (∀j,j<k→s[j]?.getD 0=(j:Int)+1)) (fun _ _ iv=>n - (intOf iv).toNat)
 case atStart=>exact ⟨0,by omega,rfl,fun j hj=>absurd hj (by omega)⟩
 case round =>
  obtain ⟨k,hk,rfl,hno⟩:=hrel
  by_cases hlt:k<n
  ·have hki:(k:Int)<(n:Int):=by omega
   obtain ⟨b3,off3,rfl,hb3,hc3⟩:=HI.out.2 k hlt
   have HYk:=za (HY.out k hlt)
   by_cases he:s[k]?.getD 0=(k:Int)+1
   ·have HSN:Hid (∀j,j<k+1→s[j]?.getD 0=(j:Int)+1):=fun j hj=>by
     by_cases e:j=k
     ·rw[e];exact he
     ·exact hno.out j (by omega)
    rw[he] at hc3
    clear he
    go_wp2_with fail
    go_round
    case rel=>exact ⟨k+1,by omega,by go_num,HSN.out⟩
    case measure=>simp[intOf];omega
   ·have HNB:=za (HYk.out he)
    have hne:((s[k]?.getD 0) != ((k:Int)+1))=true:=by simpa using he
    clear he
    generalize s[k]?.getD 0=x at hc3 hne
    clear HYk
    go_wp2_with fail
    go_ret
    exact ⟨zN HNB.out.symm,hB2⟩
  ·have hki:¬(k:Int)<(n:Int):=by omega
   have HT:=za (HZ.out (fun j hj=>hno.out j (by omega)))
   go_wp2_with fail
   go_ret
   exact ⟨zN HT.out.symm,hB2⟩
theorem lnorm_c (a:Option Addr) (n c:Nat) (f:List Int) (w:World) (h:IC w a n f) (h1:1≤n) (h2:n≤256) (hq:numE f=0) :
  Calls Tryz.prog 69 #[.slice a n c] w fun e w'=>e = .returned (.tuple #[.bool (normB f),.int .i64 0])∧Below w.heap.size w w':=by
 have HC:=za (lfill_c a n c f w h h1 h2)
 rw[numQ_eq,hq] at HC
 have HN:=za (fun W (hb:Below w.heap.size w W)=>lnorm1_c a n c f W (h.mono hb) h1 h2)
 clear h
 generalize normB f=nb at HN ⊢
 go_enter Tryz.func69,Tryz.ntmps69
 go_wp2_with (first|(go_at_call 142;refine HC.out.mono ?_;rintro _ w1 ⟨rfl,hb1⟩)|(go_at_call 143;refine (HN.out _ hb1).mono ?_;rintro _ w2 ⟨rfl,hb2⟩))
 go_ret2
 exact ⟨rfl,zb hb1 hb2⟩
end
section
open Go Go.RowKit
attribute [local go_sem] zv
attribute [local go_sem] Oper.semAt_some
theorem norm_num {f:List Int} (h:normB f=true) (hn:f.length≤256):∀c:Nat,0≤f[c]?.getD 0∧f[c]?.getD 0≤1000000000:=by
 intro c
 by_cases hc:c<f.length
 ·have h1:f[c]?.getD 0∈srt f:=srt_mem.2 (by rw[List.getElem?_eq_getElem hc];exact List.getElem_mem _)
  obtain ⟨k,hk,e⟩:=List.getElem_of_mem h1
  have hl:=srt_len f
  have h2:=srt_norm h k (by omega)
  rw[List.getElem?_eq_getElem hk,Option.getD_some,e] at h2
  omega
 ·rw[List.getElem?_eq_none (by omega)];decide
def fitB (ls:List (List Int)) (sum:Int) (g f:List Int):Bool:=(List.range f.length).all (extAt g f)&&ls.all fun l=>jm l f==sum
theorem fits1_c (a:Option Addr) (n c:Nat) (l:List Int) (af:Option Addr) (nf cf:Nat) (f:List Int) (sum:Int) (B3 B2:Nat) (w:World) (h:IC w a n l) (hf:IC w af nf f) (hn:n≤1000) (hl:∀k,k<n→0≤l[k]?.getD 0∧l[k]?.getD 0<(nf:Int)) (hfb:∀c:Nat,0≤f[c]?.getD 0∧f[c]?.getD 0≤1000000000)
  (h3:w.cell? ⟨B3,0,none⟩=some (.slice af nf cf)) (h2:w.cell? ⟨B2,1+1,none⟩=some (.int .i64 sum)) (hb3:B3<w.heap.size) (hb2:B2<w.heap.size) :
  Calls Tryz.prog 144 #[.slice a n c,.pointer (some ⟨B3,0,none⟩),.pointer (some ⟨B2,0,none⟩)] w fun e w'=>e = .returned (.bool (jm l f != sum))∧Below w.heap.size w w':=by
 have HS:=za (fun W (hb:Below w.heap.size w W)=>sum_c a af n nf c cf l f W (h.mono hb) (hf.mono hb) hn hl hfb)
 have h2':w.cell? ⟨B2,2,none⟩=some (.int .i64 sum):=h2
 clear h hf hl hfb h2
 generalize jm l f=s at HS ⊢
 go_enter Tryz.func144,Tryz.ntmps144
 go_wp2_with fail
 refine zk (fun w'=>∃u,w'=over (w) u) [6] [(0,0),(0,1),(0,3),(0,4),(1,2),(0,5),(2,6)] (by kernel_rfl) (by kernel_rfl) (by exact ⟨_,zi (by repeat (first|assumption|exact Below.refl _ _|refine zd ?_|refine zg ?_ _|refine zb ?_ (by assumption)))⟩) ?_
 dsimp only[zt,zG]
 repeat (first|(refine zu rfl (fun K hK=>?_);go_big_quiet_op;refine hK _ ?_;clear hK K)|(refine zp rfl rfl (fun K hK=>?_);go_big_quiet_op;refine hK _ ?_;clear hK K)|(refine zE ?_;go_wp2_with ((go_at_call 145;refine (HS.out _ (zd (Below.refl _ _))).mono ?_;rintro _ w1 ⟨rfl,rfl⟩));refine ⟨?_,?_⟩;focus (exact ⟨_,zi (by repeat (first|assumption|exact Below.refl _ _|refine zd ?_|refine zg ?_ _|refine zb ?_ (by assumption)))⟩)))
 refine zA _ _ _ rfl ?_
 dsimp only[List.map]
 go_wp2_with ((go_at_call 145;refine (HS.out _ (zd (Below.refl _ _))).mono ?_;rintro _ w1 ⟨rfl,rfl⟩))
 refine NoPanic.normal ?_
 go_wp2_with fail
 go_ret
 exact ⟨rfl,(Below.refl _ _).drew⟩
theorem fits1_fn:∀(args:Array Value) (w:World),Sem.run Tryz.prog (callFunc 144 args) w = .ok (.enter 144 args) w:=by
 intro args w;kernel_rfl
theorem anyP_sum (ls:List (List Int)) (f:List Int) (sum:Int):(!qh (fun k=>jm (ls[k]?.getD []) f != sum) ls.length)=ls.all fun l=>jm l f==sum:=by
 rw[Bool.eq_iff_iff,Bool.not_eq_true',List.all_eq_true]
 unfold qh
 rw[List.any_eq_false]
 constructor
 ·intro h l hl
  obtain ⟨k,hk,e⟩:=List.getElem_of_mem hl
  have:=h k (by simpa using hk)
  rw[List.getElem?_eq_getElem hk,Option.getD_some,e] at this
  simpa using this
 ·intro h k hk
  rw[List.mem_range] at hk
  have:=h (ls[k]?.getD []) (by rw[List.getElem?_eq_getElem hk];exact List.getElem_mem _)
  simp only[beq_iff_eq] at this
  simp[this]
theorem fits_c {cells:Int} {ls:List (List Int)} {sum:Int} {g:List Int} (G:GoodTask cells ls sum g) (a:Option Addr) (n c:Nat) (a':Option Addr) (n' c':Nat) (af:Option Addr) (cf:Nat) (f:List Int) (w:World) (h:RC w a n ls) (h':IC w a' n' g) (hf:IC w af n' f) (hn:normB f=true) :
  Calls Tryz.prog 70 #[.agg #[.int .i64 cells,.slice a n c,.int .i64 sum,.slice a' n' c'],.slice af n' cf] w fun e w'=>e = .returned (.bool (fitB ls sum g f))∧Below w.heap.size w w':=by
 have hn256:n'≤256:=by have:=G.glen;have:=h'.len;omega
 have hfl:=hf.len
 have hns:=h.small
 have HFB:=za (norm_num hn (by omega))
 have HLN:Hid (∀k,k<n→(ls[k]?.getD []).length≤1000∧∀x,x∈ls[k]?.getD []→0≤x∧x<(n':Int)):=fun k hk=>by
  have hk2:k<ls.length:=by rw[h.len];exact hk
  rw[List.getElem?_eq_getElem hk2,Option.getD_some]
  have h1:=G.lineLen (List.getElem_mem hk2)
  have h2:=G.len
  have h3:=h'.len
  exact ⟨h1.1,fun x hx=>by have:=h1.2 x hx;omega⟩
 have HE:Hid (fitB ls sum g f=((List.range n').all (extAt g f)&&!qh (fun k=>jm (ls[k]?.getD []) f != sum) n)):=by unfold Hid fitB;rw[hfl,← anyP_sum,h.len]
 have HM:Hid (∀k,k<n'→extAt g f k=false→(List.range n').all (extAt g f)=false):=fun k hk e=>all_miss hk e
 have HD:Hid ((∀k,k<n'→extAt g f k=true)→(List.range n').all (extAt g f)=true):=fun e=>all_end e
 have H:=za h
 have H':=za h'
 have HF:=za hf
 clear h h' hf hn G hfl
 generalize fitB ls sum g f=fb at HE ⊢
 generalize (List.range n').all (extAt g f)=eb at HE HM HD
 go_enter Tryz.func70,Tryz.ntmps70
 go_wp2_with fail
 have fsz:((w.alloc (.cells #[.int .i64 cells,.slice a n c,.int .i64 sum,.slice a' n' c'] 27)).alloc (.cells #[.slice af n' cf] 25)).heap.size=w.heap.size+2:=by simp only[World.size_alloc] <;> omega
 have fB:Below w.heap.size w ((w.alloc (.cells #[.int .i64 cells,.slice a n c,.int .i64 sum,.slice a' n' c'] 27)).alloc (.cells #[.slice af n' cf] 25)):=((Below.refl _ _).alloc (Nat.le_refl _) _).alloc (by simp only[World.size_alloc];omega) _
 have fq0:((w.alloc (.cells #[.int .i64 cells,.slice a n c,.int .i64 sum,.slice a' n' c'] 27)).alloc (.cells #[.slice af n' cf] 25)).heap[w.heap.size]?=some (.cells #[.int .i64 cells,.slice a n c,.int .i64 sum,.slice a' n' c'] 27 (0,0)):=by have h:=World.alloc_heap_new w (.cells #[.int .i64 cells,.slice a n c,.int .i64 sum,.slice a' n' c'] 27);exact (Below.heap_alloc _ _ _ (by simp only[World.size_alloc];omega)).trans (h)
 have fq1:((w.alloc (.cells #[.int .i64 cells,.slice a n c,.int .i64 sum,.slice a' n' c'] 27)).alloc (.cells #[.slice af n' cf] 25)).heap[w.heap.size+1]?=some (.cells #[.slice af n' cf] 25 (0,0)):=by have h:=World.alloc_heap_new (w.alloc (.cells #[.int .i64 cells,.slice a n c,.int .i64 sum,.slice a' n' c'] 27)) (.cells #[.slice af n' cf] 25);simp only[World.size_alloc] at h;exact h
 generalize ((w.alloc (.cells #[.int .i64 cells,.slice a n c,.int .i64 sum,.slice a' n' c'] 27)).alloc (.cells #[.slice af n' cf] 25))=W0 at fsz fB fq0 fq1 ⊢
 obtain ⟨x0,x1,x2,x3,xl⟩:=l4 fq0
 have y0:W0.cell? ⟨w.heap.size+1,0,none⟩=some (.slice af n' cf):=zc fq1 0
 have yl:=zy fq1
 have HG0:=za (H'.out.mono fB)
 have HF0:=za (HF.out.mono fB)
 have HC:Hid (Calls Tryz.prog 137 #[.slice a n c,.func (.func 144) #[] #[.pointer (some ⟨w.heap.size+1,0,none⟩),.pointer (some ⟨w.heap.size,0,none⟩)]] W0 fun e w'=>e = .returned (.bool (qh (fun k=>jm (ls[k]?.getD []) f != sum) n))∧Below W0.heap.size W0 w'):=ka a n c ls _ _ _ W0 (H.out.mono fB) fits1_fn (fun k hk W a1 n1 c1 hb hic _=>by
  have hln:=HLN.out k hk
  have hl1:=hic.len
  exact fits1_c a1 n1 c1 _ af n' cf f sum _ _ W hic (HF0.out.mono hb) (by omega) (fun j hj=>hln.2 _ (by rw[List.getElem?_eq_getElem (show j<(ls[k]?.getD []).length by omega)];exact List.getElem_mem _)) HFB.out (zc (zm hb fq1) 0) (zc (zm hb fq0) 2) (zy (zm hb fq1)) (zy (zm hb fq0)))
 generalize qh (fun k=>jm (ls[k]?.getD []) f != sum) n=ab at HC HE
 clear fq0 fq1 fsz
 go_wp2_with fail
 go_loop [5,6,10] (fun _ _ iv=>∃k:Nat,k≤n'∧iv = .int .i64 k∧Hid (∀j,j<k→extAt g f j=true)) (fun _ _ iv=>n' - (intOf iv).toNat)
 case atStart=>exact ⟨0,by omega,rfl,fun j hj=>absurd hj (by omega)⟩
 case round =>
  obtain ⟨k,hk,rfl,hno⟩:=hrel
  by_cases hlt:k<n'
  ·have hki:(k:Int)<(n':Int):=by omega
   obtain ⟨b1,o1,rfl,hb1,hc1⟩:=HG0.out.2 k hlt
   obtain ⟨b2,o2,rfl,hb2,hc2⟩:=HF0.out.2 k hlt
   have HX:Hid (extAt g f k=!(decide (0<g[k]?.getD 0)&&g[k]?.getD 0 != f[k]?.getD 0)):=rfl
   have HMk:=za (HM.out k hlt)
   have HSN:Hid (extAt g f k=true→∀j,j<k+1→extAt g f j=true):=fun e=>upt_snoc hno.out e
   generalize extAt g f k=ev at HX HMk HSN
   generalize g[k]?.getD 0=x at hc1 HX
   generalize f[k]?.getD 0=y at hc2 HX
   by_cases hx:0<x
   ·have hxd:decide (0<x)=true:=decide_eq_true hx
    rw[hxd,Bool.true_and] at HX
    cases hxy:(x != y) with
    | true =>
     rw[hxy] at HX
     have HEB:=za (HMk.out HX.out)
     go_wp2_with fail
     go_ret
     exact ⟨zN (by rw[HE.out,HEB.out];rfl),fB⟩
    | false =>
     rw[hxy] at HX
     go_wp2_with fail
     go_round
     case rel=>exact ⟨k+1,by omega,by go_num,HSN.out HX.out⟩
     case measure=>simp[intOf];omega
   ·have hxd:decide (0<x)=false:=decide_eq_false hx
    rw[hxd,Bool.false_and] at HX
    go_wp2_with fail
    go_round
    case rel=>exact ⟨k+1,by omega,by go_num,HSN.out HX.out⟩
    case measure=>simp[intOf];omega
  ·have hki:¬(k:Int)<(n':Int):=by omega
   have HEB:=za (HD.out (fun j hj=>hno.out j (by omega)))
   go_wp2_with (first|(go_at_call 137;refine HC.out.mono ?_;rintro _ w1 ⟨rfl,hb1⟩))
   go_ret
   exact ⟨zN (by rw[HE.out,HEB.out];rfl),zb fB hb1⟩
def solE (cells:Int) (ls:List (List Int)) (sum:Int) (g f:List Int):Int:=if zx cells ls sum g≠0 then zx cells ls sum g else fillE cells f
def isV (cells:Int) (ls:List (List Int)) (sum:Int) (g f:List Int):Bool:=if solE cells ls sum g f≠0 then false else solB ls sum g f
theorem fsol_c (a:Option Addr) (n c:Nat) (ls:List (List Int)) (cells sum:Int) (a':Option Addr) (n' c':Nat) (g:List Int) (af:Option Addr) (nf cf:Nat) (f:List Int) (w:World) (h:RC w a n ls) (hcap:n≤c) (h':IC w a' n' g) (hcap':n'≤c') (hf:IC w af nf f) :
  Calls Tryz.prog 16 #[.agg #[.int .i64 cells,.slice a n c,.int .i64 sum,.slice a' n' c'],.slice af nf cf] w fun e w'=>e = .returned (.tuple #[.bool (isV cells ls sum g f),.int .i64 (solE cells ls sum g f)])∧Below w.heap.size w w':=by
 have HT:=za (fun W (hb:Below w.heap.size w W)=>task_c a n c ls cells sum a' n' c' g W (h.mono hb) hcap (h'.mono hb) hcap')
 have HE:Hid (solE cells ls sum g f=if zx cells ls sum g≠0 then zx cells ls sum g else fillE cells f):=rfl
 have HV:Hid (isV cells ls sum g f=if solE cells ls sum g f≠0 then false else solB ls sum g f):=rfl
 have HSU:Hid (zx cells ls sum g=0→∀W,Below w.heap.size w W→Calls Tryz.prog 68 #[.agg #[.int .i64 cells,.slice a n c],.slice af nf cf] W fun e w'=>(∃v,e = .returned (.tuple #[v,.int .i64 (fillE cells f)]))∧Below W.heap.size W w'):=fun e W hb=>by
  have G:=qg e
  have hsy:zX cells ls=0:=by
   unfold zx at e
   by_cases hs:zX cells ls=0
   ·exact hs
   ·rw[if_pos hs] at e;exact absurd e hs
  have hn:n≤128:=by
   unfold zX at hsy
   have:=h.len
   split at hsy
   ·cases hsy
   ·split at hsy
    ·cases hsy
    ·omega
  exact lSums_c a n c ls cells af nf cf f W (h.mono hb) hcap (hf.mono hb) hn hsy (fun l hl=>G.lineLen hl)
 have HNO:Hid (zx cells ls sum g=0→fillE cells f=0→nf=n'∧∀W,Below w.heap.size w W→Calls Tryz.prog 69 #[.slice af nf cf] W fun e w'=>e = .returned (.tuple #[.bool (normB f),.int .i64 0])∧Below W.heap.size W w'):=fun e e2=>by
  have G:=qg e
  have h1:=G.len
  have h2:=G.cells1
  have h3:=G.cells2
  have h4:=h'.len
  have h5:=hf.len
  unfold fillE at e2
  by_cases hc:(f.length:Int)=cells
  ·rw[if_neg (fun h=>h hc)] at e2
   exact ⟨by omega,fun W hb=>lnorm_c af nf cf f W (hf.mono hb) (by omega) (by omega) e2⟩
  ·rw[if_pos hc] at e2;cases e2
 have HFI:Hid (zx cells ls sum g=0→nf=n'→normB f=true→∀W,Below w.heap.size w W→Calls Tryz.prog 70 #[.agg #[.int .i64 cells,.slice a n c,.int .i64 sum,.slice a' n' c'],.slice af nf cf] W fun e w'=>e = .returned (.bool (fitB ls sum g f))∧Below W.heap.size W w'):=fun e e2 e3 W hb=>by
  subst e2
  exact fits_c (qg e) a n c a' nf c' af cf f W (h.mono hb) (h'.mono hb) (hf.mono hb) e3
 have HSB:Hid (solB ls sum g f=(normB f&&fitB ls sum g f)):=rfl
 clear h h' hf
 generalize isV cells ls sum g f=sv at HV ⊢
 generalize solE cells ls sum g f=se at HE HV ⊢
 generalize solB ls sum g f=sb at HV HSB
 generalize fitB ls sum g f=ft at HFI HSB
 generalize normB f=nb at HNO HFI HSB
 generalize fillE cells f=fe at HE HSU HNO
 generalize zx cells ls sum g=te at HT HE HSU HNO HFI
 go_enter Tryz.func16,Tryz.ntmps16
 go_wp2_with fail
 have fsz:(w.alloc (.cells #[.int .i64 cells,.slice a n c,.int .i64 sum,.slice a' n' c'] 27)).heap.size=w.heap.size+1:=by simp only[World.size_alloc]
 have fB:Below w.heap.size w (w.alloc (.cells #[.int .i64 cells,.slice a n c,.int .i64 sum,.slice a' n' c'] 27)):=(Below.refl _ _).alloc (Nat.le_refl _) _
 have fq0:(w.alloc (.cells #[.int .i64 cells,.slice a n c,.int .i64 sum,.slice a' n' c'] 27)).heap[w.heap.size]?=some (.cells #[.int .i64 cells,.slice a n c,.int .i64 sum,.slice a' n' c'] 27 (0,0)):=by have h:=World.alloc_heap_new w (.cells #[.int .i64 cells,.slice a n c,.int .i64 sum,.slice a' n' c'] 27);exact h
 generalize (w.alloc (.cells #[.int .i64 cells,.slice a n c,.int .i64 sum,.slice a' n' c'] 27))=W0 at fsz fB fq0 ⊢
 have HX:=za (fun W (hb:Below W0.heap.size W0 W)=>l4 (zm hb fq0))
 have hcur:Below W0.heap.size W0 W0:=Below.refl _ _
 obtain ⟨x0,x1,x2,x3,xl⟩:=HX.out _ hcur
 clear fq0 fsz
 go_wp2_with fail
 refine (HT.out _ (zb fB hcur)).mono ?_
 rintro _ w1 ⟨rfl,hb1⟩
 replace hcur:=zb hcur hb1
 clear x0 x1 x2 x3 xl
 obtain ⟨x0,x1,x2,x3,xl⟩:=HX.out _ hcur
 by_cases ht:te=0
 ·rw[ht,if_neg (by decide)] at HE
  have HSU2:=za (HSU.out ht)
  have HNO2:=za (HNO.out ht)
  have HFI2:=za (HFI.out ht)
  clear HSU HNO HFI
  subst ht
  go_wp2_with fail
  refine (HSU2.out _ (zb fB hcur)).mono ?_
  rintro _ w1 ⟨⟨v,rfl⟩,hb1⟩
  replace hcur:=zb hcur hb1
  clear x0 x1 x2 x3 xl
  obtain ⟨x0,x1,x2,x3,xl⟩:=HX.out _ hcur
  by_cases hfe:fe=0
  ·rw[hfe] at HE
   obtain ⟨hnf,HN3⟩:=HNO2.out hfe
   have HN3:=za HN3
   rw[HE.out,if_neg (by decide)] at HV
   have HFI3:=za (HFI2.out hnf)
   have HSE:=za HE.out
   clear HNO2 HFI2 HSU2 hnf
   subst hfe
   go_wp2_with fail
   refine (HN3.out _ (zb fB hcur)).mono ?_
   rintro _ w1 ⟨rfl,hb1⟩
   replace hcur:=zb hcur hb1
   clear x0 x1 x2 x3 xl
   obtain ⟨x0,x1,x2,x3,xl⟩:=HX.out _ hcur
   cases nb with
   | false =>
    go_wp2_with fail
    go_ret2
    exact ⟨by rw[HSE.out,HV.out,HSB.out];rfl,zb fB hcur⟩
   | true =>
    have HFI4:=za (HFI3.out rfl)
    go_wp2_with fail
    refine (HFI4.out _ (zb fB hcur)).mono ?_
    rintro _ w1 ⟨rfl,hb1⟩
    replace hcur:=zb hcur hb1
    go_wp2_with fail
    go_ret2
    exact ⟨by rw[HSE.out,HV.out,HSB.out];rfl,zb fB hcur⟩
  ·have hne:(fe != 0)=true:=by simpa using hfe
   rw[HE.out,if_pos hfe] at HV
   clear HNO2 HFI2 HSU2 hfe
   go_wp2_with fail
   go_ret2
   exact ⟨by rw[HE.out,HV.out];rfl,zb fB hcur⟩
 ·have hne:(te != 0)=true:=by simpa using ht
  rw[if_pos ht] at HE
  rw[HE.out,if_pos ht] at HV
  clear HSU HNO HFI ht
  go_wp2_with fail
  go_ret2
  exact ⟨by rw[HE.out,HV.out];rfl,zb fB hcur⟩
end
end Go.Proofs.YtaadpihbjhachaaGreat
