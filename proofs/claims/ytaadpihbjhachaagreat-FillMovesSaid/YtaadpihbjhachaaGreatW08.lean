/- Texts D1 to D3 of this proof, in one file. -/
import Derived.Test.YtaadpihbjhachaaGreatW06
import Derived.Test.YtaadpihbjhachaaGreatW07
namespace Go.Proofs.YtaadpihbjhachaaGreat
set_option maxRecDepth 100000
set_option maxHeartbeats 16000000
section
open Go Go.RowKit
attribute [local go_sem] zv
def jz (l g:List Int) (k:Nat):Nat:=((l.take k).filter (fun c=>g[c.toNat]?.getD 0==0)).length
def loU (U:List Int) (m:Nat):Int:=((List.range m).map fun i=>U[i]?.getD 0).sum
def hiU (U:List Int) (m:Nat):Int:=((List.range m).map fun i=>U[U.length - 1 - i]?.getD 0).sum
def lowV (l g U:List Int):Int:=jm l g+loU U (jz l g l.length)
def highV (l g U:List Int):Int:=jm l g+hiU U (jz l g l.length)
theorem cntTo_zero (l g:List Int):jz l g 0=0:=rfl
theorem cntTo_succ {l g:List Int} {k:Nat} (h:k<l.length):jz l g (k+1)=jz l g k+(if (g[(l[k]?.getD 0).toNat]?.getD 0==0)=true then 1 else 0):=by
 unfold jz
 rw[zP l 0 k h,List.filter_append,List.length_append]
 congr 1
 by_cases e:(g[(l[k]?.getD 0).toNat]?.getD 0==0)=true
 ·rw[if_pos e];simp[e]
 ·rw[if_neg e];simp[e]
theorem cntTo_le (l g:List Int) (k:Nat):jz l g k≤k:=by
 have:=List.length_filter_le (fun c:Int=>g[c.toNat]?.getD 0==0) (l.take k)
 rw[List.length_take] at this
 unfold jz
 omega
theorem cntTo_mono (l g:List Int) (k:Nat):jz l g (k+1)≤jz l g l.length:=by
 unfold jz
 have e:l.take l.length=l.take (k+1)++l.drop (k+1):=by rw[List.take_append_drop,List.take_length]
 rw[e,List.filter_append,List.length_append]
 exact Nat.le_add_right _ _
theorem loU_succ (U:List Int) (m:Nat):loU U (m+1)=loU U m+U[m]?.getD 0:=by
 unfold loU;rw[List.range_succ,List.map_append,List.sum_append];simp
theorem hiU_succ (U:List Int) (m:Nat):hiU U (m+1)=hiU U m+U[U.length - 1 - m]?.getD 0:=by
 unfold hiU;rw[List.range_succ,List.map_append,List.sum_append];simp
theorem loU_bd {U:List Int} (h:∀k:Nat,0≤U[k]?.getD 0∧U[k]?.getD 0≤256) (m:Nat):0≤loU U m∧loU U m≤m*256:=by
 induction m with
 | zero=>simp[loU]
 | succ m ih=>rw[loU_succ];have:=h m;omega
theorem hiU_bd {U:List Int} (h:∀k:Nat,0≤U[k]?.getD 0∧U[k]?.getD 0≤256) (m:Nat):0≤hiU U m∧hiU U m≤m*256:=by
 induction m with
 | zero=>simp[hiU]
 | succ m ih=>rw[hiU_succ];have:=h (U.length - 1 - m);omega
theorem bounds_c (a:Option Addr) (n c:Nat) (ls:List (List Int)) (cells sum:Int) (a':Option Addr) (n' c':Nat) (g:List Int) (line:Nat) (au:Option Addr) (nu cu:Nat) (U:List Int) (w:World) (h:RC w a n ls) (h':IC w a' n' g) (hu:IC w au nu U)
  (hline:line<n) (hl1:(ls[line]?.getD []).length≤256) (hl2:∀x,x∈ls[line]?.getD []→0≤x∧x<(n':Int)) (hg:∀k:Nat,0≤g[k]?.getD 0∧g[k]?.getD 0≤256) (hU:∀k:Nat,0≤U[k]?.getD 0∧U[k]?.getD 0≤256)
  (hcnt:jz (ls[line]?.getD []) g (ls[line]?.getD []).length≤nu) :
  Calls Tryz.prog 126 #[.agg #[.int .i64 cells,.slice a n c,.int .i64 sum,.slice a' n' c'],.int .i64 line,.slice au nu cu] w fun e w'=>e = .returned (.tuple #[.int .i64 (lowV (ls[line]?.getD []) g U),.int .i64 (highV (ls[line]?.getD []) g U)])∧Below w.heap.size w w':=by
 obtain ⟨bl,ol,a1,n1,c1,rfl,hbl,hcl,hil,hnc⟩:=h.2 line hline
 have hB0:Below w.heap.size w (w.alloc (.cells #[.int .i64 cells,.slice (some ⟨bl,ol,none⟩) n c,.int .i64 sum,.slice a' n' c'] 27)):=(Below.refl _ _).alloc (Nat.le_refl _) _
 have hcl0:=((zF hB0).1 _ (ol+line) hbl).trans hcl
 generalize ls[line]?.getD []=l at *
 have hns:=h.small
 have hn1:=hil.len
 have hnu:=hu.len
 have hus:=hu.small
 have hn's:=h'.small
 have hsum:=za (fun W (hb:Below w.heap.size w W)=>sum_c a1 a' n1 n' c1 c' l g W (hil.mono hb) (h'.mono hb) (by omega) (fun k hk=>by
  rw[List.getElem?_eq_getElem (by omega)]
  exact hl2 _ (List.getElem_mem (by omega))) (fun k=>by have:=hg k;omega))
 have hIL:=za hil
 have HL2:=za hl2
 have HG:=za hg
 have HU:=za hU
 have HUL:=za hnu
 have HCN:=za hcnt
 have hs0:=za (sumTo_bd (l:=l) (f:=g) (B:=256) hg l.length (Nat.le_refl _))
 have hlowE:Hid (lowV l g U=jm l g+loU U (jz l g l.length)):=rfl
 have hhighE:Hid (highV l g U=jm l g+hiU U (jz l g l.length)):=rfl
 have hli:(line:Int)<(n:Int):=by omega
 have hl0:(0:Int)≤(line:Int):=by omega
 clear hg hU hl2 h hB0 hil hnu hcnt
 have hsA:0≤jm l g∧jm l g≤65536:=by
  have:=hs0.out
  unfold sumTo at this
  rw[List.take_length] at this
  have h2:(l.length:Int)*256≤256*256:=by omega
  omega
 go_enter Tryz.func126,Tryz.ntmps126
 go_wp2
 have hsz:w.heap.size<(w.alloc (.cells #[.int .i64 cells,.slice (some ⟨bl,ol,none⟩) n c,.int .i64 sum,.slice a' n' c'] 27)).heap.size:=by simp
 have hB:Below w.heap.size w (w.alloc (.cells #[.int .i64 cells,.slice (some ⟨bl,ol,none⟩) n c,.int .i64 sum,.slice a' n' c'] 27)):=(Below.refl _ _).alloc (Nat.le_refl _) _
 have x0:(w.alloc (.cells #[.int .i64 cells,.slice (some ⟨bl,ol,none⟩) n c,.int .i64 sum,.slice a' n' c'] 27)).cell? ⟨w.heap.size,0,none⟩=some (.int .i64 cells):=(zq w #[.int .i64 cells,.slice (some ⟨bl,ol,none⟩) n c,.int .i64 sum,.slice a' n' c'] 27 0).trans rfl
 have x1:(w.alloc (.cells #[.int .i64 cells,.slice (some ⟨bl,ol,none⟩) n c,.int .i64 sum,.slice a' n' c'] 27)).cell? ⟨w.heap.size,1,none⟩=some (.slice (some ⟨bl,ol,none⟩) n c):=(zq w #[.int .i64 cells,.slice (some ⟨bl,ol,none⟩) n c,.int .i64 sum,.slice a' n' c'] 27 1).trans rfl
 have x2:(w.alloc (.cells #[.int .i64 cells,.slice (some ⟨bl,ol,none⟩) n c,.int .i64 sum,.slice a' n' c'] 27)).cell? ⟨w.heap.size,2,none⟩=some (.int .i64 sum):=(zq w #[.int .i64 cells,.slice (some ⟨bl,ol,none⟩) n c,.int .i64 sum,.slice a' n' c'] 27 2).trans rfl
 have x3:(w.alloc (.cells #[.int .i64 cells,.slice (some ⟨bl,ol,none⟩) n c,.int .i64 sum,.slice a' n' c'] 27)).cell? ⟨w.heap.size,3,none⟩=some (.slice a' n' c'):=(zq w #[.int .i64 cells,.slice (some ⟨bl,ol,none⟩) n c,.int .i64 sum,.slice a' n' c'] 27 3).trans rfl
 generalize (w.alloc (.cells #[.int .i64 cells,.slice (some ⟨bl,ol,none⟩) n c,.int .i64 sum,.slice a' n' c'] 27))=W0 at hsz hB x0 x1 x2 x3 ⊢
 have hcl:W0.cell? ⟨bl,ol+line,none⟩=some (.slice a1 n1 c1):=((zF hB).1 _ _ hbl).trans ‹w.cell? ⟨bl,ol+line,none⟩=some (.slice a1 n1 c1)›
 have hblW:bl<W0.heap.size:=Nat.lt_of_lt_of_le hbl hB.size
 refine zk (fun w'=>∃u,w'=over (W0) u) [9,8] [(0,0),(0,1),(0,2),(0,3),(0,4),(0,5),(0,6),(0,7),(2,8),(2,9)] (by kernel_rfl) (by kernel_rfl) (by exact ⟨_,zi (by repeat (first|assumption|exact Below.refl _ _|refine zd ?_|refine zg ?_ _|refine zb ?_ (by assumption)))⟩) ?_
 dsimp only[zt,zG]
 repeat (first|(refine zu rfl (fun K hK=>?_);go_big_quiet_op;refine hK _ ?_;clear hK K)|(refine zp rfl rfl (fun K hK=>?_);go_big_quiet_op;refine hK _ ?_;clear hK K))
 refine zA _ _ _ rfl ?_
 dsimp only[List.map]
 go_wp2_with (go_at_call 145;refine (hsum.out _ (zd hB)).mono ?_;rintro _ w1 ⟨rfl,rfl⟩)
 refine NoPanic.normal ?_
 have H'0:=za (h'.mono hB)
 have HU0:=za (hu.mono hB)
 have HIL0:=za (hIL.out.mono hB)
 have Y0:=za x0
 have Y3:=za x3
 clear h' hu hcl0
 go_wp2_with fail
 go_loopw [8,9,10,12,30] (fun lo hi nn _ i wr=>∃k:Nat,k≤n1∧i = .int .i64 k∧lo = .int .i64 (jm l g+loU U (jz l g k))∧hi = .int .i64 (jm l g+hiU U (jz l g k))∧nn = .int .i64 (jz l g k)∧Below W0.heap.size W0 wr) (fun _ _ _ _ i _=>n1 - (intOf i).toNat)
 case atStart=>exact ⟨0,by omega,rfl,by simp[cntTo_zero,loU],by simp[cntTo_zero,hiU],rfl,(Below.refl _ _).drew⟩
 case round =>
  obtain ⟨k,hk,rfl,rfl,rfl,rfl,hbr⟩:=hrel
  have z3:=((zF hbr).1 _ _ hsz).trans Y3.out
  have hszr:w.heap.size<wr.heap.size:=Nat.lt_of_lt_of_le hsz hbr.size
  have b1:=loU_bd HU.out (jz l g k)
  have b2:=hiU_bd HU.out (jz l g k)
  have b3:=cntTo_le l g k
  by_cases hlt:k<n1
  ·obtain ⟨bl1,ol1,rfl,hbl1,hcl1⟩:=(HIL0.out.mono hbr).2 k hlt
   have hkl:k<l.length:=by rw[hn1];exact hlt
   have hr:=HL2.out _ (List.getElem_mem hkl)
   obtain ⟨x,hxx⟩:∃x:Nat,l[k]?.getD 0=(x:Int):=⟨(l[k]'hkl).toNat,by rw[List.getElem?_eq_getElem hkl,Option.getD_some];omega⟩
   have hxn:x<n':=by rw[List.getElem?_eq_getElem hkl,Option.getD_some] at hxx;omega
   obtain ⟨bg,og,rfl,hbg,hcg⟩:=(H'0.out.mono hbr).2 x hxn
   have hS:=cntTo_succ (g:=g) hkl
   have hM:=cntTo_mono l g k
   have hN:=HCN.out
   rw[hxx] at hcl1 hS
   rw[Int.toNat_natCast] at hS
   have hxn1:(x:Int)<(n':Int):=by omega
   generalize g[x]?.getD 0=y at hcg hS
   clear hr hxx
   by_cases hy:(y==0)=true
   ·rw[if_pos hy] at hS
    rw[hS] at hM
    have hmu:jz l g k<nu:=by omega
    obtain ⟨bu,ou,rfl,hbu,hcu⟩:=(HU0.out.mono hbr).2 _ hmu
    obtain ⟨bu2,ou2,e2,hbu2,hcu2⟩:=(HU0.out.mono hbr).2 (nu - 1 - jz l g k) (by omega)
    simp only[Option.some.injEq,Addr.mk.injEq,and_true] at e2
    obtain ⟨rfl,rfl⟩:=e2
    have hSL:=za (loU_succ U (jz l g k))
    have hSH:=za (hiU_succ U (jz l g k))
    rw[HUL.out] at hSH
    have hu1:=HU.out (jz l g k)
    have hu2:=HU.out (nu - 1 - jz l g k)
    generalize U[jz l g k]?.getD 0=u1 at hcu hSL hu1
    generalize U[nu - 1 - jz l g k]?.getD 0=u2 at hcu2 hSH hu2
    have HS:=za hS
    clear hS hM hN
    generalize jz l g k=m at *
    have hmi:(m:Int)<(nu:Int):=by omega
    generalize loU U m=lo at *
    generalize hiU U m=hi at *
    go_wp2
    refine zk (fun w'=>∃u,w'=over (wr) u) [17] [(0,0),(0,1),(0,2),(0,3),(0,4),(0,5),(0,6),(0,7),(0,8),(0,9),(0,10),(0,11),(0,12),(0,13),(0,14),(0,15),(1,16),(2,17)] (by kernel_rfl) (by kernel_rfl) (by exact ⟨_,zi (by repeat (first|assumption|exact Below.refl _ _|refine zd ?_|refine zg ?_ _|refine zb ?_ (by assumption)))⟩) ?_
    dsimp only[zt,zG]
    repeat (first|(refine zu rfl (fun K hK=>?_);go_big_quiet_op;refine hK _ ?_;clear hK K)|(refine zp rfl rfl (fun K hK=>?_);go_big_quiet_op;refine hK _ ?_;clear hK K)|(refine zE ?_;go_wp2;refine ⟨?_,?_⟩;focus (exact ⟨_,zi (by repeat (first|assumption|exact Below.refl _ _|refine zd ?_|refine zg ?_ _|refine zb ?_ (by assumption)))⟩)))
    refine zA _ _ _ rfl ?_
    dsimp only[List.map]
    go_wp2
    refine NoPanic.normal ?_
    go_wp2
    go_roundw
    case rel=>exact ⟨k+1,by omega,by go_num,by rw[HS.out,hSL.out];go_num,by rw[HS.out,hSH.out];go_num,by rw[HS.out];go_num,hbr.drew⟩
    case measure=>simp[intOf];omega
   ·rw[if_neg hy,Nat.add_zero] at hS
    have hy2:(y==0)=false:=by simpa using hy
    have HS:=za hS
    clear hS hM hN hy
    go_wp2
    go_roundw
    case rel=>exact ⟨k+1,by omega,by go_num,by rw[HS.out];rfl,by rw[HS.out];rfl,by rw[HS.out];rfl,hbr⟩
    case measure=>simp[intOf];omega
  ·have e:k=n1:=by omega
   subst e
   rw[hn1] at hlowE hhighE
   go_wp2
   go_ret2
   exact ⟨by rw[hlowE.out,hhighE.out];rfl,hB.trans (hbr.mono hB.size)⟩
end
section
open Go Go.RowKit
attribute [local go_sem] zv
def twoL (ls:List (List Int)) (sum:Int) (g:List Int):List (List Int):=(jk ls sum g []).take 2
def uniqE (cells:Int) (ls:List (List Int)) (sum:Int) (g:List Int):Int :=
 if (zH cells ls sum g != 0)=true then zH cells ls sum g else if (twoL ls sum g).length=0 then 21 else if (twoL ls sum g).length=1 then 0 else 22
def uniqL (cells:Int) (ls:List (List Int)) (sum:Int) (g:List Int):List Int :=
 if (zH cells ls sum g != 0)=true then [] else if (twoL ls sum g).length=1 then (twoL ls sum g)[0]?.getD [] else []
theorem small_good {cells:Int} {ls:List (List Int)} {sum:Int} {g:List Int} (h:zH cells ls sum g=0):GoodTask cells ls sum g:=by
 refine qg ?_
 unfold zH at h
 by_cases h1:(zx cells ls sum g != 0)=true
 ·rw[if_pos h1] at h;exact h
 ·simpa using h1
theorem IC.nil (w:World):IC w none 0 []:=⟨⟨rfl,by omega⟩,fun k hk=>absurd hk (Nat.not_lt_zero _)⟩
theorem all_few {a:Option Addr} {n c:Nat} {ls:List (List Int)} {cells sum:Int} {a':Option Addr} {n' c':Nat} {g:List Int} {w w5:World} (G:GoodTask cells ls sum g) (h:RC w a n ls) (hcap:n≤c) (h':IC w a' n' g) (hBW:Below w.heap.size w w5) (most:Int) (hm1:1≤most) (hm3:most≤1000000) :
  Calls Tryz.prog 64 #[.agg #[.int .i64 cells,.slice a n c,.int .i64 sum,.slice a' n' c']] w5 fun e w6=>∃bx,e = .returned (solV bx)∧Below w5.heap.size w5 w6 ∧
   Calls Tryz.prog 67 #[solV bx,.int .i64 most] w6 fun e w7=>∃ar nr cr,e = .returned (.slice ar nr cr)∧RC w7 ar nr ((jk ls sum g []).take most.toNat)∧nr≤cr∧Below w.heap.size w w7:=by
 have hl':=h'.len
 have hl:=h.len
 have hm2:n'≤256:=by have:=G.len;have:=G.cells2;omega
 have hn1:n≤1000000:=by have:=G.lines;omega
 have hOlt:∀k,k<w.heap.size→k<w5.heap.size:=fun k hk=>by have:=hBW.size;omega
 refine (all_c a n c ls cells sum a' n' c' g w5 (h.mono hBW) hcap hn1 (h'.mono hBW) hm2 (fun k hk=>by have:=G.num k (by omega);have:=G.cells2;omega) (fun l hl=>by have h1:=G.lineLen hl;have h2:=G.len;exact ⟨h1.1,fun x hx=>by have:=h1.2 x hx;omega⟩) (fun k=>k<w.heap.size) hOlt (old_lines h hBW)).mono ?_
 rintro _ w6 ⟨bx,b,Im,ao,co,al,cl,vf,rfl,hbx1,hbx2,hbx3,hbx4,hbx5,hbx6,hsr,hb3,hb4,hb5,hb6⟩
 refine ⟨bx,rfl,hb3,?_⟩
 refine (few_c b bx Im _ vf _ [] w6 hsr G.even hbx6 hbx2 (mut0 hbx3 hbx4) w.heap.size (by have:=hBW.size;have:=hb3.size;omega) (mut0_ge (by have:=hBW.size;omega) (fun k e=>by have h1:=hb5 k e;have h2:=hBW.size;omega)) most hm1 hm3).mono ?_
 rintro _ w7 ⟨ar,nr,cr,rfl,hrc,hcr,hbl⟩
 exact ⟨ar,nr,cr,rfl,hrc,hcr,(hBW.trans (hb3.mono (by have:=hBW.size;omega))).trans hbl⟩
theorem unique_c (a:Option Addr) (n c:Nat) (ls:List (List Int)) (cells sum:Int) (a':Option Addr) (n' c':Nat) (g:List Int) (w:World) (h:RC w a n ls) (hcap:n≤c) (h':IC w a' n' g) (hcap':n'≤c') :
  Calls Tryz.prog 30 #[.agg #[.int .i64 cells,.slice a n c,.int .i64 sum,.slice a' n' c']] w fun e w'=>∃ar nr cr,e = .returned (.tuple #[.slice ar nr cr,.int .i64 (uniqE cells ls sum g)])∧IC w' ar nr (uniqL cells ls sum g)∧nr≤cr∧Below w.heap.size w w':=by
 have H:=za h
 have H':=za h'
 have hE:Hid (uniqE cells ls sum g=if (zH cells ls sum g != 0)=true then zH cells ls sum g else if (twoL ls sum g).length=0 then 21 else if (twoL ls sum g).length=1 then 0 else 22):=rfl
 have hL:Hid (uniqL cells ls sum g=if (zH cells ls sum g != 0)=true then [] else if (twoL ls sum g).length=1 then (twoL ls sum g)[0]?.getD [] else []):=rfl
 go_enter Tryz.func30,Tryz.ntmps30
 go_wp2_with fail
 have hsz:w.heap.size<(w.alloc (.cells #[.int .i64 cells,.slice a n c,.int .i64 sum,.slice a' n' c'] 27)).heap.size:=by simp
 have hB:Below w.heap.size w (w.alloc (.cells #[.int .i64 cells,.slice a n c,.int .i64 sum,.slice a' n' c'] 27)):=(Below.refl _ _).alloc (Nat.le_refl _) _
 have x0:(w.alloc (.cells #[.int .i64 cells,.slice a n c,.int .i64 sum,.slice a' n' c'] 27)).cell? ⟨w.heap.size,0,none⟩=some (.int .i64 cells):=(zq w #[.int .i64 cells,.slice a n c,.int .i64 sum,.slice a' n' c'] 27 0).trans rfl
 have x1:(w.alloc (.cells #[.int .i64 cells,.slice a n c,.int .i64 sum,.slice a' n' c'] 27)).cell? ⟨w.heap.size,1,none⟩=some (.slice a n c):=(zq w #[.int .i64 cells,.slice a n c,.int .i64 sum,.slice a' n' c'] 27 1).trans rfl
 have x2:(w.alloc (.cells #[.int .i64 cells,.slice a n c,.int .i64 sum,.slice a' n' c'] 27)).cell? ⟨w.heap.size,2,none⟩=some (.int .i64 sum):=(zq w #[.int .i64 cells,.slice a n c,.int .i64 sum,.slice a' n' c'] 27 2).trans rfl
 have x3:(w.alloc (.cells #[.int .i64 cells,.slice a n c,.int .i64 sum,.slice a' n' c'] 27)).cell? ⟨w.heap.size,3,none⟩=some (.slice a' n' c'):=(zq w #[.int .i64 cells,.slice a n c,.int .i64 sum,.slice a' n' c'] 27 3).trans rfl
 generalize (w.alloc (.cells #[.int .i64 cells,.slice a n c,.int .i64 sum,.slice a' n' c'] 27))=W0 at hsz hB x0 x1 x2 x3 ⊢
 refine (small_c a n c ls cells sum a' n' c' g W0 (h.mono hB) hcap (h'.mono hB) hcap').mono ?_
 rintro _ w1 ⟨rfl,hb1⟩
 clear h h'
 have y0:=((zF hb1).1 _ _ hsz).trans x0
 have y1:=((zF hb1).1 _ _ hsz).trans x1
 have y2:=((zF hb1).1 _ _ hsz).trans x2
 have y3:=((zF hb1).1 _ _ hsz).trans x3
 clear x0 x1 x2 x3
 have hB1:=hB.trans (hb1.mono hB.size)
 by_cases he:(zH cells ls sum g != 0)=true
 ·rw[if_pos he] at hE hL
  have HE:=za he
  go_wp2
  go_ret2
  exact ⟨none,0,0,by rw[hE.out];rfl,by rw[hL.out];exact IC.nil _,Nat.le_refl _,hB1⟩
 ·have he0:zH cells ls sum g=0:=by simpa using he
  have G:=za (small_good he0)
  rw[if_neg he] at hE hL
  rw[he0]
  clear he he0
  have HA:=za (all_few (c':=c') G.out H.out hcap H'.out hB1 2 (by decide) (by decide))
  go_wp2_with fail
  refine HA.out.mono ?_
  rintro _ w6 ⟨bx,rfl,hb6,hfew⟩
  have HFEW:=za hfew
  clear hfew HA
  go_wp2_with fail
  refine HFEW.out.mono ?_
  rintro _ w7 ⟨ar,nr,cr,rfl,hrc,hcr,hbl⟩
  clear HFEW
  replace hrc:RC w7 ar nr (twoL ls sum g):=hrc
  have hln:=hrc.len
  have h2:nr≤2:=by rw[← hln];unfold twoL;rw[List.length_take];omega
  rw[hln] at hE hL
  clear hln
  rcases (by omega:nr=0∨nr=1∨nr=2) with rfl|rfl|rfl
  ·go_wp2
   go_ret2
   exact ⟨none,0,0,by rw[hE.out];rfl,by rw[hL.out];exact IC.nil _,Nat.le_refl _,hbl⟩
  ·obtain ⟨b,off,a1,n1,c1,rfl,hb,hc,hi,hic⟩:=hrc.2 0 (by omega)
   rw[Nat.add_zero] at hc
   have HI:=za hi
   clear hrc hi
   go_wp2
   go_ret2
   exact ⟨a1,n1,c1,by rw[hE.out];rfl,by rw[hL.out];exact HI.out,hic,hbl⟩
  ·clear hrc
   go_wp2
   go_ret2
   exact ⟨none,0,0,by rw[hE.out];rfl,by rw[hL.out];exact IC.nil _,Nat.le_refl _,hbl⟩
end
section
open Go Go.RowKit
attribute [local go_sem] zv
theorem GoodTask.nodup {cells:Int} {ls:List (List Int)} {sum:Int} {g:List Int} (h:GoodTask cells ls sum g) {l:List Int} (hl:l∈ls):l.Nodup:=by
 refine List.pairwise_iff_getElem.2 fun i j hi hj hij e=>?_
 have h1:=h.step hl i (j - i) (by omega)
 rw[show i+(j - i)=j from by omega,List.getElem?_eq_getElem hi,List.getElem?_eq_getElem hj] at h1
 simp only[Option.getD_some] at h1
 omega
theorem GoodTask.cnt {cells:Int} {ls:List (List Int)} {sum:Int} {g:List Int} (h:GoodTask cells ls sum g) {l:List Int} (hl:l∈ls):jz l g l.length≤(zh g).length:=by
 rw[h.even]
 unfold jz
 rw[List.take_length]
 refine nodup_le ((h.nodup hl).sublist List.filter_sublist) fun x hx=>?_
 obtain ⟨hx1,hx2⟩:=List.mem_filter.1 hx
 have h1:=(h.lineLen hl).2 x hx1
 have h2:=h.len
 exact jN.2 ⟨h1.1,by omega,by simpa using hx2⟩
theorem unused_num {g:List Int} (hn:g.length≤256) (k:Nat):0≤(zh g)[k]?.getD 0∧(zh g)[k]?.getD 0≤256:=by
 by_cases hk:k<(zh g).length
 ·rw[List.getElem?_eq_getElem hk,Option.getD_some]
  have:=zT.1 (List.getElem_mem hk)
  omega
 ·rw[List.getElem?_eq_none (by omega)];decide
theorem GoodTask.num' {cells:Int} {ls:List (List Int)} {sum:Int} {g:List Int} (h:GoodTask cells ls sum g) (k:Nat):0≤g[k]?.getD 0∧g[k]?.getD 0≤256:=by
 by_cases hk:k<g.length
 ·have:=h.num k hk;have:=h.cells2;omega
 ·rw[List.getElem?_eq_none (by omega)];decide
theorem GoodTask.glen {cells:Int} {ls:List (List Int)} {sum:Int} {g:List Int} (h:GoodTask cells ls sum g):g.length≤256:=by
 have:=h.len;have:=h.cells2;omega
theorem bounds_g {cells:Int} {ls:List (List Int)} {sum:Int} {g:List Int} (G:GoodTask cells ls sum g) (a:Option Addr) (n c:Nat) (a':Option Addr) (n' c':Nat) (line:Nat) (au:Option Addr) (nu cu:Nat) (w:World) (h:RC w a n ls) (h':IC w a' n' g) (hu:IC w au nu (zh g)) (hline:line<n) :
  Calls Tryz.prog 126 #[.agg #[.int .i64 cells,.slice a n c,.int .i64 sum,.slice a' n' c'],.int .i64 line,.slice au nu cu] w fun e w'=>e = .returned (.tuple #[.int .i64 (lowV (ls[line]?.getD []) g (zh g)),.int .i64 (highV (ls[line]?.getD []) g (zh g))])∧Below w.heap.size w w':=by
 have hl:ls[line]?.getD []∈ls:=by
  have:line<ls.length:=by rw[h.len];exact hline
  rw[List.getElem?_eq_getElem this];exact List.getElem_mem this
 have h1:=G.lineShort hl
 have h2:=G.cells2
 have h3:=h'.len
 have h4:=G.len
 refine bounds_c a n c ls cells sum a' n' c' g line au nu cu (zh g) w h h' hu hline (by omega) (fun x hx=>by have:=(G.lineLen hl).2 x hx;omega) G.num' (unused_num G.glen) ?_
 rw[← hu.len]
 exact G.cnt hl
def beyV (l g:List Int) (sum:Int):Bool:=decide (sum<lowV l g (zh g))||decide (highV l g (zh g)<sum)
theorem beyond_c {cells:Int} {ls:List (List Int)} {sum:Int} {g:List Int} (G:GoodTask cells ls sum g) (a:Option Addr) (n c:Nat) (a':Option Addr) (n' c':Nat) (line:Nat) (au:Option Addr) (nu cu:Nat) (w:World) (h:RC w a n ls) (h':IC w a' n' g) (hu:IC w au nu (zh g)) (hline:line<n) :
  Calls Tryz.prog 148 #[.agg #[.int .i64 cells,.slice a n c,.int .i64 sum,.slice a' n' c'],.int .i64 line,.slice au nu cu] w fun e w'=>e = .returned (.bool (beyV (ls[line]?.getD []) g sum))∧Below w.heap.size w w':=by
 have hE:Hid (beyV (ls[line]?.getD []) g sum=(decide (sum<lowV (ls[line]?.getD []) g (zh g))||decide (highV (ls[line]?.getD []) g (zh g)<sum))):=rfl
 have HB:=za (fun w1 (hb:Below w.heap.size w w1)=>bounds_g G a n c a' n' c' line au nu cu w1 (h.mono hb) (h'.mono hb) (hu.mono hb) hline)
 clear h h' hu G
 generalize lowV (ls[line]?.getD []) g (zh g)=lo at hE HB
 generalize highV (ls[line]?.getD []) g (zh g)=hi at hE HB
 go_enter Tryz.func148,Tryz.ntmps148
 go_wp2_with fail
 have hsz:w.heap.size<(w.alloc (.cells #[.int .i64 cells,.slice a n c,.int .i64 sum,.slice a' n' c'] 27)).heap.size:=by simp
 have hB:Below w.heap.size w (w.alloc (.cells #[.int .i64 cells,.slice a n c,.int .i64 sum,.slice a' n' c'] 27)):=(Below.refl _ _).alloc (Nat.le_refl _) _
 have x0:(w.alloc (.cells #[.int .i64 cells,.slice a n c,.int .i64 sum,.slice a' n' c'] 27)).cell? ⟨w.heap.size,0,none⟩=some (.int .i64 cells):=(zq w #[.int .i64 cells,.slice a n c,.int .i64 sum,.slice a' n' c'] 27 0).trans rfl
 have x1:(w.alloc (.cells #[.int .i64 cells,.slice a n c,.int .i64 sum,.slice a' n' c'] 27)).cell? ⟨w.heap.size,1,none⟩=some (.slice a n c):=(zq w #[.int .i64 cells,.slice a n c,.int .i64 sum,.slice a' n' c'] 27 1).trans rfl
 have x2:(w.alloc (.cells #[.int .i64 cells,.slice a n c,.int .i64 sum,.slice a' n' c'] 27)).cell? ⟨w.heap.size,2,none⟩=some (.int .i64 sum):=(zq w #[.int .i64 cells,.slice a n c,.int .i64 sum,.slice a' n' c'] 27 2).trans rfl
 have x3:(w.alloc (.cells #[.int .i64 cells,.slice a n c,.int .i64 sum,.slice a' n' c'] 27)).cell? ⟨w.heap.size,3,none⟩=some (.slice a' n' c'):=(zq w #[.int .i64 cells,.slice a n c,.int .i64 sum,.slice a' n' c'] 27 3).trans rfl
 generalize (w.alloc (.cells #[.int .i64 cells,.slice a n c,.int .i64 sum,.slice a' n' c'] 27))=W0 at hsz hB x0 x1 x2 x3 ⊢
 refine (HB.out W0 hB).mono ?_
 rintro _ w1 ⟨rfl,hb1⟩
 have y2:=((zF hb1).1 _ _ hsz).trans x2
 clear x0 x1 x2 x3
 by_cases h1:sum<lo
 ·go_wp2
  go_ret
  exact ⟨zN (by rw[hE.out];simp[h1]),hB.trans (hb1.mono hB.size)⟩
 ·by_cases h2:hi<sum
  ·go_wp2
   go_ret
   exact ⟨zN (by rw[hE.out];simp[h2]),hB.trans (hb1.mono hB.size)⟩
  ·go_wp2
   go_ret
   exact ⟨zN (by rw[hE.out];try simp[h1,h2]),hB.trans (hb1.mono hB.size)⟩
def bndE (cells:Int) (ls:List (List Int)) (sum:Int) (g:List Int) (line:Int):Int:=zz [zx cells ls sum g,zn (decide (line<0)||decide ((ls.length:Int)≤line)) 10]
def bndLo (cells:Int) (ls:List (List Int)) (sum:Int) (g:List Int) (line:Int):Int:=if (bndE cells ls sum g line != 0)=true then 0 else lowV (ls[line.toNat]?.getD []) g (zh g)
def bndHi (cells:Int) (ls:List (List Int)) (sum:Int) (g:List Int) (line:Int):Int:=if (bndE cells ls sum g line != 0)=true then 0 else highV (ls[line.toNat]?.getD []) g (zh g)
theorem bnd_c (a:Option Addr) (n c:Nat) (ls:List (List Int)) (cells sum:Int) (a':Option Addr) (n' c':Nat) (g:List Int) (line:Int) (w:World) (h:RC w a n ls) (hcap:n≤c) (h':IC w a' n' g) (hcap':n'≤c') :
  Calls Tryz.prog 53 #[.agg #[.int .i64 cells,.slice a n c,.int .i64 sum,.slice a' n' c'],.int .i64 line] w fun e w'=>e = .returned (.tuple #[.int .i64 (bndLo cells ls sum g line),.int .i64 (bndHi cells ls sum g line),.int .i64 (bndE cells ls sum g line)])∧Below w.heap.size w w':=by
 have H:=za h
 have H':=za h'
 have hln:=h.len
 have hE:Hid (bndE cells ls sum g line=zz [zx cells ls sum g,zn (decide (line<0)||decide ((n:Int)≤line)) 10]):=by unfold Hid bndE;rw[hln]
 have HLo:Hid (bndLo cells ls sum g line=if (bndE cells ls sum g line != 0)=true then 0 else lowV (ls[line.toNat]?.getD []) g (zh g)):=rfl
 have HHi:Hid (bndHi cells ls sum g line=if (bndE cells ls sum g line != 0)=true then 0 else highV (ls[line.toNat]?.getD []) g (zh g)):=rfl
 have HLN:=za hln
 have hns:=h.small
 clear hln
 go_enter Tryz.func53,Tryz.ntmps53
 go_wp2_with fail
 have hsz:w.heap.size<(w.alloc (.cells #[.int .i64 cells,.slice a n c,.int .i64 sum,.slice a' n' c'] 27)).heap.size:=by simp
 have hB:Below w.heap.size w (w.alloc (.cells #[.int .i64 cells,.slice a n c,.int .i64 sum,.slice a' n' c'] 27)):=(Below.refl _ _).alloc (Nat.le_refl _) _
 have x0:(w.alloc (.cells #[.int .i64 cells,.slice a n c,.int .i64 sum,.slice a' n' c'] 27)).cell? ⟨w.heap.size,0,none⟩=some (.int .i64 cells):=(zq w #[.int .i64 cells,.slice a n c,.int .i64 sum,.slice a' n' c'] 27 0).trans rfl
 have x1:(w.alloc (.cells #[.int .i64 cells,.slice a n c,.int .i64 sum,.slice a' n' c'] 27)).cell? ⟨w.heap.size,1,none⟩=some (.slice a n c):=(zq w #[.int .i64 cells,.slice a n c,.int .i64 sum,.slice a' n' c'] 27 1).trans rfl
 have x2:(w.alloc (.cells #[.int .i64 cells,.slice a n c,.int .i64 sum,.slice a' n' c'] 27)).cell? ⟨w.heap.size,2,none⟩=some (.int .i64 sum):=(zq w #[.int .i64 cells,.slice a n c,.int .i64 sum,.slice a' n' c'] 27 2).trans rfl
 have x3:(w.alloc (.cells #[.int .i64 cells,.slice a n c,.int .i64 sum,.slice a' n' c'] 27)).cell? ⟨w.heap.size,3,none⟩=some (.slice a' n' c'):=(zq w #[.int .i64 cells,.slice a n c,.int .i64 sum,.slice a' n' c'] 27 3).trans rfl
 generalize (w.alloc (.cells #[.int .i64 cells,.slice a n c,.int .i64 sum,.slice a' n' c'] 27))=W0 at hsz hB x0 x1 x2 x3 ⊢
 refine (task_c a n c ls cells sum a' n' c' g W0 (h.mono hB) hcap (h'.mono hB) hcap').mono ?_
 rintro _ w1 ⟨rfl,hb1⟩
 clear h h'
 have y0:=((zF hb1).1 _ _ hsz).trans x0
 have y1:=((zF hb1).1 _ _ hsz).trans x1
 have y2:=((zF hb1).1 _ _ hsz).trans x2
 have y3:=((zF hb1).1 _ _ hsz).trans x3
 clear x0 x1 x2 x3
 have hB1:=hB.trans (hb1.mono hB.size)
 have hsz1:w.heap.size<w1.heap.size:=Nat.lt_of_lt_of_le hsz hb1.size
 by_cases hl0:line<0
 ·have e1:decide (line<0)=true:=by simpa using hl0
  rw[e1,Bool.true_or] at hE
  clear e1
  have hv:zz [zx cells ls sum g,zn true 10]≠0:=fun e=>by have:=qN e 10 (by simp[zn]);omega
  have hv':(zz [zx cells ls sum g,zn true 10] != 0)=true:=by simpa using hv
  have HV:=za hv'
  have hBn:Below w.heap.size w (w1.alloc (.cells #[.int .i64 (zx cells ls sum g),.int .i64 (zn true 10)] 34)):=hB1.alloc (by omega) _
  clear hv
  go_wp2_with (first|(go_at_call 66;refine (zO _ _ _).mono ?_;rintro _ w2 ⟨rfl,rfl⟩)|(go_at_call 65;refine (zK _ _ _ _ _ (IC.new2 _ _ _ _)).mono ?_;rintro _ w4 ⟨rfl,rfl⟩))
  go_ret3
  exact ⟨by rw[HLo.out,HHi.out,hE.out,if_pos HV.out,if_pos HV.out];rfl,hBn⟩
 ·by_cases hl1:(n:Int)≤line
  ·have e1:decide ((n:Int)≤line)=true:=by simpa using hl1
   rw[e1,Bool.or_true] at hE
   clear e1
   have hv:zz [zx cells ls sum g,zn true 10]≠0:=fun e=>by have:=qN e 10 (by simp[zn]);omega
   have hv':(zz [zx cells ls sum g,zn true 10] != 0)=true:=by simpa using hv
   have HV:=za hv'
   have hBn:Below w.heap.size w (w1.alloc (.cells #[.int .i64 (zx cells ls sum g),.int .i64 (zn true 10)] 34)):=hB1.alloc (by omega) _
   clear hv
   go_wp2_with (first|(go_at_call 66;refine (zO _ _ _).mono ?_;rintro _ w2 ⟨rfl,rfl⟩)|(go_at_call 65;refine (zK _ _ _ _ _ (IC.new2 _ _ _ _)).mono ?_;rintro _ w4 ⟨rfl,rfl⟩))
   go_ret3
   exact ⟨by rw[HLo.out,HHi.out,hE.out,if_pos HV.out,if_pos HV.out];rfl,hBn⟩
  ·have e1:decide (line<0)=false:=by simpa using hl0
   have e2:decide ((n:Int)≤line)=false:=by simpa using hl1
   rw[e1,e2,Bool.or_false] at hE
   have hll:line<(n:Int):=by omega
   have hl00:0≤line:=by omega
   have hBn:Below w.heap.size w (w1.alloc (.cells #[.int .i64 (zx cells ls sum g),.int .i64 (zn false 10)] 34)):=hB1.alloc (by omega) _
   by_cases hv:zz [zx cells ls sum g,zn false 10]=0
   ·have hte:zx cells ls sum g=0:=qN hv _ (by simp)
    have G:=za (qg hte)
    have hv':(zz [zx cells ls sum g,zn false 10] != 0)=false:=by simpa using hv
    have HV:=za hv'
    have HVE:=za hv
    clear hv hte
    go_wp2_with (first|(go_at_call 66;refine (zO _ _ _).mono ?_;rintro _ w2 ⟨rfl,rfl⟩)|(go_at_call 65;refine (zK _ _ _ _ _ (IC.new2 _ _ _ _)).mono ?_;rintro _ w4 ⟨rfl,rfl⟩))
    obtain ⟨ln,rfl⟩:∃k:Nat,line=(k:Int):=⟨line.toNat,by omega⟩
    have hBA:Below w1.heap.size w1 (w1.alloc (.cells #[.int .i64 (zx cells ls sum g),.int .i64 (zn false 10)] 34)):=(Below.refl _ _).alloc (Nat.le_refl _) _
    have z0:=((zF hBA).1 _ _ hsz1).trans y0
    have z1:=((zF hBA).1 _ _ hsz1).trans y1
    have z2:=((zF hBA).1 _ _ hsz1).trans y2
    have z3:=((zF hBA).1 _ _ hsz1).trans y3
    have hszA:=Nat.lt_of_lt_of_le hsz1 hBA.size
    clear y0 y1 y2 y3
    generalize (w1.alloc (.cells #[.int .i64 (zx cells ls sum g),.int .i64 (zn false 10)] 34))=W2 at hBn hBA z0 z1 z2 z3 hszA ⊢
    have hn'l:=H'.out.len
    have HGL:=za hn'l
    have HU:=za (fun w' (hb:Below W2.heap.size W2 w')=>qX (.slice a n c) cells sum a' n' c' g w' ((H'.out.mono hBn).mono hb) (by have:=G.out.glen;omega) (fun k hk=>G.out.num' k))
    have HBD:=za (fun w' au nu cu (hb:Below W2.heap.size W2 w') (hu:IC w' au nu (zh g))=>bounds_g G.out a n c a' n' c' ln au nu cu w' ((H.out.mono hBn).mono hb) ((H'.out.mono hBn).mono hb) hu (by omega))
    have hul:(zh g).length≤17592186044416:=by have:=jd g g.length;have:=G.out.glen;unfold zh;omega
    clear hn'l
    refine zk (fun w'=>∃u,w'=over (W2) u) [9] [(0,0),(0,1),(0,2),(1,3),(1,4),(0,5),(0,6),(0,7),(1,8),(2,9)] (by kernel_rfl) (by kernel_rfl) (by exact ⟨_,zi (by repeat (first|assumption|exact Below.refl _ _|refine zd ?_|refine zg ?_ _|refine zb ?_ (by assumption)))⟩) ?_
    dsimp only[zt,zG]
    repeat (first|(refine zu rfl (fun K hK=>?_);go_big_quiet_op;refine hK _ ?_;clear hK K)|(refine zp rfl rfl (fun K hK=>?_);go_big_quiet_op;refine hK _ ?_;clear hK K)|(refine zE ?_;go_wp2_with (first|(go_at_call 73;refine (HU.out _ (zd (Below.refl _ _))).mono ?_;rintro _ w5 ⟨vu,rfl,hown,hb5⟩;obtain ⟨au,cu,rfl⟩:=zr hown;have hic:=za (IC.of_owns hown hul).1;clear hown)|(go_at_call 126;refine (HBD.out _ _ _ _ (zb (zd (Below.refl _ _)) hb5) hic.out).mono ?_;rintro _ w6 ⟨rfl,hb6⟩));refine ⟨?_,?_⟩;focus (exact ⟨_,zi (by repeat (first|assumption|exact Below.refl _ _|refine zd ?_|refine zg ?_ _|refine zb ?_ (by assumption)))⟩)))
    refine zA _ _ _ rfl ?_
    dsimp only[List.map]
    go_wp2_with (first|(go_at_call 73;refine (HU.out _ (zd (Below.refl _ _))).mono ?_;rintro _ w5 ⟨vu,rfl,hown,hb5⟩;obtain ⟨au,cu,rfl⟩:=zr hown;have hic:=za (IC.of_owns hown hul).1;clear hown)|(go_at_call 126;refine (HBD.out _ _ _ _ (zb (zd (Below.refl _ _)) hb5) hic.out).mono ?_;rintro _ w6 ⟨rfl,hb6⟩))
    refine NoPanic.normal ?_
    go_wp2
    go_ret3
    refine ⟨by rw[HLo.out,HHi.out,hE.out,if_neg (by rw[HV.out];decide),if_neg (by rw[HV.out];decide),HVE.out,Int.toNat_natCast];rfl,hBn.trans ((zb (zb (zd (Below.refl _ _)) hb5) hb6).mono hBn.size)⟩
   ·have hv':(zz [zx cells ls sum g,zn false 10] != 0)=true:=by simpa using hv
    have HV:=za hv'
    clear hv
    go_wp2_with (first|(go_at_call 66;refine (zO _ _ _).mono ?_;rintro _ w2 ⟨rfl,rfl⟩)|(go_at_call 65;refine (zK _ _ _ _ _ (IC.new2 _ _ _ _)).mono ?_;rintro _ w4 ⟨rfl,rfl⟩))
    go_ret3
    exact ⟨by rw[HLo.out,HHi.out,hE.out,if_pos HV.out,if_pos HV.out];rfl,hBn⟩
end
end Go.Proofs.YtaadpihbjhachaaGreat
