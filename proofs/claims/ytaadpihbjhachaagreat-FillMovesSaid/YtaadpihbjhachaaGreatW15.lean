/- Texts H9 to H11 of this proof, in one file. -/
import Derived.Test.YtaadpihbjhachaaGreatW05
import Derived.Test.YtaadpihbjhachaaGreatW08
import Derived.Test.YtaadpihbjhachaaGreatW11
import Derived.Test.YtaadpihbjhachaaGreatW14
import Derived.Deep.CutBlock
import Derived.Deep.CutRange
namespace Go.Proofs.YtaadpihbjhachaaGreat
set_option maxRecDepth 100000
set_option maxHeartbeats 16000000
section
open Go Go.RowKit
attribute [local go_sem] zv
attribute [local go_sem] Oper.semAt_some
theorem made_nil (N:Nat):(madeCells (Value.slice none 0 0).cells (N*1)).toList=List.replicate N (.slice none 0 0):=by
 apply List.ext_getElem?
 intro i
 by_cases h:i<N
 ·simp[madeCells,h,Value.cells,Nat.mod_one]
 ·simp[madeCells,h]
def candL (M:Nat) (Ms:List Nat):List (List Int):=if contraB Ms M=true then Ms.map (fun _=>[]) else Ms.map elemsM
theorem elemsM_len (M:Nat):(elemsM M).length≤256:=elemsTo_len M 256
theorem rc_of_rows {w:World} {og n:Nat} {B:Nat} {rv:List Value} {ES:List (List Int)} (h:w.ownsRow B 25 1 (.slice (some ⟨og,0,none⟩) n n) n rv) (hn:n≤256) (hl:ES.length=n) (hr:∀i:Nat,i<n→∃v,rv[i]?=some v∧w.ownsRow 0 3 1 v (ES[i]?.getD []).length ((ES[i]?.getD []).map (Value.int .i64))∧(ES[i]?.getD []).length≤256):RC w (some ⟨og,0,none⟩) n ES:=by
 refine ⟨⟨hl,by omega⟩,fun k hk=>?_⟩
 obtain ⟨g,cap,x,hv,hx,hc,_,hlt,_⟩:=jq h k hk
 simp only[Value.slice.injEq,Option.some.injEq,Addr.mk.injEq,true_and,and_true] at hv
 obtain ⟨rfl,_⟩:=hv
 obtain ⟨v,hv,ho,hle⟩:=hr k hk
 rw[hx] at hv
 cases hv
 obtain ⟨a1,c1,rfl⟩:=zr ho
 have:=IC.of_owns ho (by omega)
 refine ⟨og,0,a1,_,c1,rfl,hlt,?_,this.1,this.2⟩
 rw[Nat.zero_add]
 exact hc
theorem cand_c (a:Option Addr) (n c:Nat) (ls:List (List Int)) (cells sum:Int) (a':Option Addr) (n' c':Nat) (g:List Int) (w:World) (h:RC w a n ls) (hcap:n≤c) (h':IC w a' n' g) (hcap':n'≤c') :
  Calls Tryz.prog 26 #[.agg #[.int .i64 cells,.slice a n c,.int .i64 sum,.slice a' n' c']] w fun e w'=>∃ar nr cr,e = .returned (.tuple #[.slice ar nr cr,.int .i64 (zx cells ls sum g)])∧(zx cells ls sum g≠0→ar=none∧nr=0)∧(zx cells ls sum g=0→∃k,qS ls sum (qy n') (jh ls sum (qy n') k (begL g)).2=none∧RC w' ar nr (candL (qy n') (jh ls sum (qy n') k (begL g)).2))∧nr≤cr∧Below w.heap.size w w':=by
 have H:=za h
 have H':=za h'
 have HT:=za (fun w1 (hb:Below w.heap.size w w1)=>task_c a n c ls cells sum a' n' c' g w1 (h.mono hb) hcap (h'.mono hb) hcap')
 clear h h'
 go_enter Tryz.func26,Tryz.ntmps26
 go_wp2_with fail
 have fsz:(w.alloc (.cells #[.int .i64 cells,.slice a n c,.int .i64 sum,.slice a' n' c'] 27)).heap.size=w.heap.size+1:=by simp only[World.size_alloc]
 have fB:Below w.heap.size w (w.alloc (.cells #[.int .i64 cells,.slice a n c,.int .i64 sum,.slice a' n' c'] 27)):=(Below.refl _ _).alloc (Nat.le_refl _) _
 have fq0:(w.alloc (.cells #[.int .i64 cells,.slice a n c,.int .i64 sum,.slice a' n' c'] 27)).heap[w.heap.size]?=some (.cells #[.int .i64 cells,.slice a n c,.int .i64 sum,.slice a' n' c'] 27 (0,0)):=by have h:=World.alloc_heap_new w (.cells #[.int .i64 cells,.slice a n c,.int .i64 sum,.slice a' n' c'] 27);exact h
 generalize (w.alloc (.cells #[.int .i64 cells,.slice a n c,.int .i64 sum,.slice a' n' c'] 27))=W0 at fsz fB fq0 ⊢
 have fsz':w.heap.size<W0.heap.size:=by omega
 clear fsz
 refine (HT.out W0 fB).mono ?_
 rintro _ w1 ⟨rfl,hb1⟩
 have HQ1:=za (zm hb1 fq0)
 have hB1:=fB.trans (hb1.mono fB.size)
 clear HT fq0
 by_cases he:(zx cells ls sum g != 0)=true
 ·have hne:zx cells ls sum g≠0:=by simpa using he
  have HNE:=za hne
  clear hne
  obtain ⟨er,her⟩:∃er,zx cells ls sum g=er:=⟨_,rfl⟩
  have HER:=za her
  rw[her] at he
  rw[her]
  clear her
  go_wp2_with fail
  go_ret2
  exact ⟨none,0,0,by rw[HER.out];rfl,fun _=>⟨rfl,rfl⟩,fun h=>absurd h HNE.out,by omega,hB1⟩
 ·have he0:zx cells ls sum g=0:=by simpa using he
  have G:=za (qg he0)
  have HE0:=za he0
  rw[he0]
  clear he he0
  have hn2:n'≤256:=by have:=G.out.glen;have:=H'.out.len;omega
  have x0:w1.cell? ⟨w.heap.size,0,none⟩=some (.int .i64 cells):=zc HQ1.out 0
  have x1:w1.cell? ⟨w.heap.size,1,none⟩=some (.slice a n c):=zc HQ1.out 1
  have x2:w1.cell? ⟨w.heap.size,2,none⟩=some (.int .i64 sum):=zc HQ1.out 2
  have x3:w1.cell? ⟨w.heap.size,3,none⟩=some (.slice a' n' c'):=zc HQ1.out 3
  have xl:=zy HQ1.out
  go_wp2_with fail
  refine (fbegin_c a n c cells sum a' n' c' g w1 (H'.out.mono hB1) hn2 G.out.num').mono ?_
  rintro _ w2 ⟨b,a9,c9,rfl,hqb,hbge,hown,hb2⟩
  have hB2:=hB1.trans (hb2.mono hB1.size)
  have hsz1:=hB1.size
  clear x0 x1 x2 x3 xl
  have HBL:Hid ((begL g).length=n'):=by unfold Hid begL;rw[List.length_map,H'.out.len]
  have HS:=za (settle_c w b (.int .i64 cells) (.slice a' n' c') a n c ls sum a9 n' c9 (qy n') (begL g) w2 hqb hown HBL.out hn2 H.out hB2 (by omega) (fun l hl=>by
   have h1:=G.out.lineShort hl
   have h2:=G.out.cells2
   have h3:=(G.out.lineLen hl).2
   have h4:=G.out.len
   have h5:=H'.out.len
   exact ⟨by omega,fun x hx=>by have:=h3 x hx;omega⟩) G.out.sum1 G.out.sum2)
  clear hqb hown
  go_wp2_with fail
  refine HS.out.mono ?_
  rintro _ w3 ⟨k,v,rfl,hend,_,_,hqb3,hown3,hBk⟩
  have hB3:Below w.heap.size w w3:=hB2.trans (hBk.mono (by omega))
  have hML:((jh ls sum (qy n') k (begL g)).2).length=n':=by rw[iterR_len];exact HBL.out
  have HRES:Hid (∀(w':World) (ar:Option Addr) (nr cr:Nat),RC w' ar nr (candL (qy n') (jh ls sum (qy n') k (begL g)).2)→nr≤cr→Below w.heap.size w w'→∃ar' nr' cr',Ending.returned (.tuple #[.slice ar nr cr,.int .i64 0]) = .returned (.tuple #[.slice ar' nr' cr',.int .i64 (zx cells ls sum g)])∧(zx cells ls sum g≠0→ar'=none∧nr'=0)∧(zx cells ls sum g=0→∃k,qS ls sum (qy n') (jh ls sum (qy n') k (begL g)).2=none∧RC w' ar' nr' (candL (qy n') (jh ls sum (qy n') k (begL g)).2))∧nr'≤cr'∧Below w.heap.size w w') :=
   fun w' ar nr cr hrc hc hb=>⟨ar,nr,cr,by rw[HE0.out],fun h=>absurd HE0.out h,fun _=>⟨k,hend,hrc⟩,hc,hb⟩
  obtain ⟨Mk,hMk⟩:∃X,(jh ls sum (qy n') k (begL g)).2=X:=⟨_,rfl⟩
  rw[hMk] at hML hown3 HRES
  clear hMk hend HS HBL
  have HML:=za hML
  have HO3:=za hown3
  have HB3:=za hqb3
  have c4:w3.cell? ⟨b,4,none⟩=some (.slice a9 n' c9):=zc hqb3 4
  have hbl:=zy hqb3
  clear hML hown3 hqb3
  obtain ⟨i2,hi,hz0,hz1,hz2⟩:=info_parts infoRow
  go_wp2_with (refine wpList_make_full _ rfl _ _ 22 rfl w3.heap.size 25 i2 (.slice none 0 0) 1 Tryz.underlying22 hi hz0 hz1 _ _ _ _ n' rfl rfl (by simp) (by simp) (by rw[hz2];omega) (by unfold maxLen;omega) (Nat.le_refl _) ?_;intro W4 hown4 hgr4)
  rw[made_nil] at hown4
  have hB34:=(Below.refl w3.heap.size w3).grown hgr4 (Nat.le_refl _) (fun k e=>by cases e)
  have hB4:=hB3.trans (hB34.mono hB3.size)
  have HB4:=za (zm hB34 HB3.out)
  have hown4b:W4.ownsRow (b+1) 148 4 (.slice a9 n' c9) n' (jB Mk):=zw HO3.out (fun i e hl=>hB34.block i hl)
  have hSL4:=(SL.of_owns hown4b (by rw[HML.out];omega)).1
  have HC:=za (contra_c b _ _ _ _ a9 n' c9 (qy n') Mk W4 HB4.out hSL4)
  have HSL4:=za hSL4
  have HO4:=za hown4
  clear hown4b hSL4 hown4 c4 hbl hgr4
  cases hcb:contraB Mk (qy n') with
  | true =>
   rw[hcb] at HC
   have HCL:Hid (candL (qy n') Mk=Mk.map (fun _=>[])):=by unfold Hid candL;rw[if_pos hcb]
   clear hcb
   go_wp2_with fail
   refine HC.out.mono ?_
   rintro _ w5 ⟨rfl,hb5⟩
   go_wp2_with fail
   go_ret2
   refine HRES.out _ _ _ _ ?_ (Nat.le_refl _) (hB4.trans (hb5.mono hB4.size))
   rw[HCL.out]
   refine rc_of_rows (zw HO4.out (fun i e hl=>hb5.block i hl)) hn2 (by rw[List.length_map,HML.out]) (fun i hi=>⟨.slice none 0 0,by simp[hi],?_,?_⟩)
   ·rw[List.getElem?_map,List.getElem?_eq_getElem (by rw[HML.out];exact hi)]
    exact World.ownsRow_nil _ _ _ _
   ·rw[List.getElem?_map,List.getElem?_eq_getElem (by rw[HML.out];exact hi)]
    simp
  | false =>
   rw[hcb] at HC
   have HCL:Hid (candL (qy n') Mk=Mk.map elemsM):=by unfold Hid candL;rw[if_neg (by rw[hcb];simp)]
   clear hcb
   go_wp2_with fail
   refine HC.out.mono ?_
   rintro _ w5 ⟨rfl,hb5⟩
   have HO5:=za (zw HO4.out (fun i e hl=>hb5.block i hl))
   have HB5:=za (zm hb5 HB4.out)
   have HSL5:=za (HSL4.out.mono hb5)
   have hB5:=hB4.trans (hb5.mono hB4.size)
   have c4:w5.cell? ⟨b,4,none⟩=some (.slice a9 n' c9):=zc HB5.out 4
   have hbl:=zy HB5.out
   clear HC HO4 HSL4
   have hl35:w3.heap.size<w5.heap.size:=(HO5.out.lt w3.heap.size rfl).2
   have hb3l:=zy HB3.out
   have HNB:Hid (∀x:Addr,a9=some x→¬x.block=w3.heap.size):=fun x e=>by
    have:=(HO3.out.lt x.block (by rw[e];rfl)).2
    omega
   go_wp2_with fail
   go_loopw [7,31] (fun _ i wr=>∃(j:Nat) (rv:List Value),j≤n'∧i = .int .i64 j∧wr.ownsRow w3.heap.size 25 1 (.slice (some ⟨w3.heap.size,0,none⟩) n' n') n' rv∧Hid (∀i:Nat,i<j→∃v,rv[i]?=some v∧wr.ownsRow w5.heap.size 3 1 v (elemsM (Mk[i]?.getD 0)).length ((elemsM (Mk[i]?.getD 0)).map (Value.int .i64)))∧Hid (Stays (fun k=>k=w3.heap.size) w5 wr)) (fun _ i _=>n' - (intOf i).toNat)
   case atStart=>exact ⟨0,_,by omega,rfl,HO5.out,fun i hi=>absurd hi (by omega),Stays.refl _ _⟩
   case round =>
    obtain ⟨j,rv,hj,rfl,hrv,hrows,hst⟩:=hrel
    have hl5r:=hst.out.size
    have HBr:=za (je hst.out HB5.out (by omega))
    by_cases hlt:j<n'
    ·obtain ⟨b8,off,rfl,hb8,hc⟩:=HSL5.out.2 j hlt
     have hb83:¬b8=w3.heap.size:=HNB.out _ rfl
     have hc2:SetC wr b8 (off+j*4) (Mk[j]?.getD 0):=fun q hq=>(hst.out.cell hb8 hb83).trans (hc q hq)
     have HEL:=za (elems_c b8 (off+j*4) (Mk[j]?.getD 0) wr hc2 (by omega))
     have c4:wr.cell? ⟨b,4,none⟩=some (.slice (some ⟨b8,off,none⟩) n' c9):=zc HBr.out 4
     have hbl:=zy HBr.out
     have hji:(j:Int)<(n':Int):=by omega
     have hel:=elemsM_len (Mk[j]?.getD 0)
     clear hc hc2
     go_wp2_with fail
     refine HEL.out.mono ?_
     rintro _ w6 ⟨v6,rfl,hown6,hb6⟩
     obtain ⟨g9,cap9,x9,hv9,hx9,hc9,hf9,hg9,_⟩:=jq (zw hrv (fun i e hl=>hb6.block i hl)) j hlt
     simp only[Value.slice.injEq,Option.some.injEq,Addr.mk.injEq,true_and,and_true] at hv9
     obtain ⟨rfl,hcap9⟩:=hv9
     clear hcap9
     obtain ⟨a6,c6,rfl⟩:=zr hown6
     have HO6:=za hown6
     clear hown6 HEL hx9
     go_wp2_with fail
     go_roundw
     case rel =>
      refine ⟨j+1,rv.set j (.slice a6 (elemsM (Mk[j]?.getD 0)).length c6),by omega,by go_num,qJ (zw hrv (fun i e hl=>hb6.block i hl)) j _,fun i hi=>?_,?_⟩
      ·rcases Nat.lt_or_ge i j with h|h
       ·obtain ⟨v,hv,ho⟩:=hrows.out i h
        exact ⟨v,by rw[List.getElem?_set_ne (by omega)];exact hv,zw ho (fun x e hl=>(Below.heap_setCell _ _ _ _ (fun e2=>by have:=zL ho e;simp at e2;omega)).trans (hb6.block x hl))⟩
       ·obtain rfl:i=j:=by omega
        refine ⟨_,List.getElem?_set_self (by have:=hrv.1;omega),owns_up (zw (zI HO6.out (Nat.zero_le _)) (fun x e hl=>Below.heap_setCell _ _ _ _ (fun e2=>by have:=zL HO6.out e;simp at e2;omega))) (fun x e=>by have:=zL HO6.out e;omega)⟩
      ·exact hst.out.trans ((Below.stays hb6 _).trans (Stays.setCell (S:=fun k=>k=w3.heap.size) w6 (p:=⟨w3.heap.size,j,none⟩) rfl _) (fun _ e => .inl e)) (fun _ e => .inl e)
     case measure=>simp[intOf];omega
    ·have e:j=n':=by omega
     subst e
     go_wp2_with fail
     go_ret2
     refine HRES.out _ _ _ _ ?_ (Nat.le_refl _) (hB5.trans (hst.out.below hB5.size (fun i e=>by have:=hB3.size;omega)))
     rw[HCL.out]
     refine rc_of_rows hrv hn2 (by rw[List.length_map,HML.out]) (fun i hi=>?_)
     obtain ⟨v,hv,ho⟩:=hrows.out i hi
     have hel:(Mk.map elemsM)[i]?.getD []=elemsM (Mk[i]?.getD 0):=by
      rw[List.getElem?_map,List.getElem?_eq_getElem (show i<Mk.length by rw[HML.out];exact hi)];rfl
     rw[hel]
     exact ⟨v,hv,zI ho (Nat.zero_le _),elemsM_len _⟩
end
section
open Go Go.RowKit
structure Nd where
 kind:ByteArray
 cell:Int
 line:Int
 number:Int
 kids:Int
def kLine:ByteArray:=⟨#[108,105,110,101]⟩
def kCell:ByteArray:=⟨#[99,101,108,108]⟩
def kNumber:ByteArray:=⟨#[110,117,109,98,101,114]⟩
def isK (s k:ByteArray):Bool:=s.toList==k.toList
def ndV (n:Nd):Value := .agg #[.string n.kind,.int .i64 n.cell,.int .i64 n.line,.int .i64 n.number,.int .i64 n.kids]
def ndA (n:Nd):List Value:=[.string n.kind,.int .i64 n.cell,.int .i64 n.line,.int .i64 n.number,.int .i64 n.kids]
def qL:List Nd→List Value
 | []=>[]
 | n :: r=>ndA n++qL r
theorem ndsL_len:∀T:List Nd,(qL T).length=T.length*5
 | []=>rfl
 | n :: r=>by
  have:=ndsL_len r
  simp only[qL,List.length_append,this,List.length_cons,ndA]
  simp;omega
theorem ndsL_append:∀(T S:List Nd),qL (T++S)=qL T++qL S
 | [],S=>by simp[qL]
 | _ :: r,S=>by simp[qL,ndsL_append r S]
theorem ndsL_get:∀(T:List Nd) (k q:Nat) (n:Nd),T[k]?=some n→q<5→(qL T)[k*5+q]?=(ndA n)[q]?
 | m :: r,0,q,n,h,hq=>by
  simp only[List.getElem?_cons_zero,Option.some.injEq] at h
  subst h
  simp only[qL]
  rw[List.getElem?_append_left (by simp[ndA];omega)]
  simp
 | m :: r,k+1,q,n,h,hq=>by
  simp only[qL]
  rw[List.getElem?_append_right (by simp[ndA];omega),show (k+1)*5+q - (ndA m).length=k*5+q from by simp[ndA];omega,ndsL_get r k q n (by simpa using h) hq]
def TC (w:World) (a:Option Addr) (n:Nat) (T:List Nd):Prop :=
 (T.length=n∧n≤4398046511104)∧∀k d,T[k]?=some d→∃b off,a=some ⟨b,off,none⟩∧b<w.heap.size∧w.cell? ⟨b,off+k*5,none⟩=some (.string d.kind)∧w.cell? ⟨b,off+k*5+1,none⟩=some (.int .i64 d.cell)∧w.cell? ⟨b,off+k*5+2,none⟩=some (.int .i64 d.line)∧w.cell? ⟨b,off+k*5+3,none⟩=some (.int .i64 d.number)∧w.cell? ⟨b,off+k*5+4,none⟩=some (.int .i64 d.kids)
theorem TC.mono {w w':World} {a:Option Addr} {n:Nat} {T:List Nd} (h:TC w a n T) (hb:Below w.heap.size w w'):TC w' a n T :=
 ⟨h.1,fun k d hk=>by
  obtain ⟨b,off,e,hlt,c0,c1,c2,c3,c4⟩:=h.2 k d hk
  exact ⟨b,off,e,Nat.lt_of_lt_of_le hlt hb.size,((zF hb).1 b _ hlt).trans c0,((zF hb).1 b _ hlt).trans c1,((zF hb).1 b _ hlt).trans c2,((zF hb).1 b _ hlt).trans c3,((zF hb).1 b _ hlt).trans c4⟩⟩
def zR (g:List Int) (d:Nd):List (Int × Int) :=
 if isK d.kind kCell=true then (zh g).map fun x=>(d.cell,x) else if isK d.kind kNumber=true then (zj g).map fun c=>(c,d.number) else []
def qZ (g:List Int) (d:Nd):Bool :=
 if isK d.kind kCell=true then d.line==0&&d.number==0&&decide (0≤d.cell)&&decide (d.cell<g.length)&&g[d.cell.toNat]?.getD 0==0
 else if isK d.kind kNumber=true then d.line==0&&d.cell==0&&decide (1≤d.number)&&decide (d.number≤g.length)&&!zY g d.number else false
def okN (g:List Int) (d:Nd):Bool:=qZ g d&&((zR g d).length:Int)==d.kids
def jO (ls:List (List Int)) (sum:Int) (g:List Int) (d:Nd):Bool :=
 d.cell==0&&d.number==0&&d.kids==0&&decide (0≤d.line)&&decide (d.line<ls.length)&&beyV (ls[d.line.toNat]?.getD []) g sum
def jP (f:List Int→List Nd→Option (List Nd)) (g:List Int):List (Int × Int)→List Nd→Option (List Nd)
 | [],T=>some T
 | k :: r,T=>match f (g.set k.1.toNat k.2) T with
  | none=>none
  | some T'=>jP f g r T'
def jr (ls:List (List Int)) (sum:Int):Nat→List Int→List Nd→Option (List Nd)
 | 0,_,_=>none
 | _+1,_,[]=>none
 | f+1,g,d :: T =>
  if isK d.kind kLine=true then (if jO ls sum g d=true then some T else none)
  else if okN g d=true then jP (jr ls sum f) g (zR g d) T else none
theorem kidsR_le {f:List Int→List Nd→Option (List Nd)} (hf:∀g T T',f g T=some T'→T'.length≤T.length) (g:List Int):∀(ks:List (Int × Int)) (T T':List Nd),jP f g ks T=some T'→T'.length≤T.length
 | [],T,T',h=>by simp only[jP,Option.some.injEq] at h;subst h;exact Nat.le_refl _
 | k :: r,T,T',h=>by
  simp only[jP] at h
  cases h1:f (g.set k.1.toNat k.2) T with
  | none=>rw[h1] at h;cases h
  | some T1 =>
   rw[h1] at h
   have:=hf _ _ _ h1
   have:=kidsR_le hf g r T1 T' h
   omega
theorem refT_lt (ls:List (List Int)) (sum:Int):∀(f:Nat) (g:List Int) (T T':List Nd),jr ls sum f g T=some T'→T'.length<T.length
 | 0,_,_,_,h=>by cases h
 | _+1,_,[],_,h=>by cases h
 | f+1,g,d :: T,T',h=>by
  simp only[jr] at h
  simp only[List.length_cons]
  split at h
  ·split at h
   ·cases h;omega
   ·cases h
  ·split at h
   ·have:=kidsR_le (fun g T T' e=>Nat.le_of_lt (refT_lt ls sum f g T T' e)) g _ _ _ h
    omega
   ·cases h
theorem kidsR_congr {f f':List Int→List Nd→Option (List Nd)} (hle:∀g T T',f g T=some T'→T'.length≤T.length) {m:Nat} (hf:∀g T,T.length≤m→f g T=f' g T) (g:List Int):∀(ks:List (Int × Int)) (T:List Nd),T.length≤m→jP f g ks T=jP f' g ks T
 | [],_,_=>rfl
 | k :: r,T,h=>by
  simp only[jP]
  rw[← hf _ T h]
  cases h1:f (g.set k.1.toNat k.2) T with
  | none=>rfl
  | some T1 =>
   have:=hle _ _ _ h1
   exact kidsR_congr hle hf g r T1 (by omega)
theorem refT_fuel (ls:List (List Int)) (sum:Int):∀(f f':Nat) (g:List Int) (T:List Nd),T.length<f→T.length<f'→jr ls sum f g T=jr ls sum f' g T
 | 0,_,_,_,h,_=>by omega
 | _+1,0,_,_,_,h=>by omega
 | f+1,f'+1,g,[],_,_=>rfl
 | f+1,f'+1,g,d :: T,h,h'=>by
  simp only[List.length_cons] at h h'
  simp only[jr]
  split
  ·rfl
  ·split
   ·exact kidsR_congr (fun g T T' e=>Nat.le_of_lt (refT_lt ls sum f g T T' e)) (m:=T.length) (fun g2 T2 h2=>refT_fuel ls sum f f' g2 T2 (by omega) (by omega)) g _ T (Nat.le_refl _)
   ·rfl
def qa (ls:List (List Int)) (sum:Int) (g:List Int) (T:List Nd):Bool:=match jr ls sum (T.length+1) g T with
 | some []=>true
 | _=>false
def ji (ls:List (List Int)) (sum:Int):Nat→List Int→List Nd
 | 0,_=>[]
 | f+1,g =>
  if 0≤zV ls g sum then [⟨kLine,0,zV ls g sum,0,0⟩]
  else ⟨kCell,zQ ls g sum,0,0,(zh g).length⟩ :: (zh g).flatMap fun x=>ji ls sum f (g.set (zQ ls g sum).toNat x)
end
section
open Go Go.RowKit
attribute [local go_sem] zv
attribute [local go_sem] Oper.semAt_some
theorem whenV_zero {b:Bool} {e:Int} (he:e≠0) (h:zn b e=0):b=false:=by
 cases b with
 | false=>rfl
 | true=>exact absurd h (by simpa [zn] using he)
theorem firstL_all {l:List Int} (h:zz l=0):∀x,x∈l→x=0:=fun x hx=>qN h x hx
theorem path_at {g P:List Int} (h:qv g.length g P=0) {k:Nat} (hk:k<P.length):P[k]?.getD 0∈zh g∧P[k]?.getD 0 ∉ P.take k:=by
 have h1:pathBad g.length g P k=0:=ki h k hk
 unfold pathBad at h1
 have h20:=firstL_all h1 (zn (decide (P[k]?.getD 0<1)||decide ((g.length:Int)<P[k]?.getD 0)) 3) (by simp)
 have h2:=whenV_zero (by decide) h20
 have h3:=firstL_all h1 (zn (zY g (P[k]?.getD 0)||zY (P.take k) (P[k]?.getD 0)) 9) (by simp)
 have h4:=whenV_zero (by decide) h3
 rw[Bool.or_eq_false_iff] at h2 h4
 have h5:=of_decide_eq_false h2.1
 have h6:=of_decide_eq_false h2.2
 refine ⟨zT.2 ⟨by omega,by omega,h4.1⟩,fun hm=>?_⟩
 have h7:=h4.2
 unfold zY at h7
 rw[Bool.eq_false_iff] at h7
 exact h7 (by simpa using hm)
theorem path_okP {C:Cst} {P:List Int} (h:qv C.g.length C.g P=0) (hl:P.length≤C.O.length):∀k,k≤P.length→OkP C (P.take k)
 | 0,_=>⟨Nat.zero_le _,fun x hx=>absurd hx (by simp),by simp⟩
 | k+1,hk=>by
  have ih:=path_okP h hl k (by omega)
  have h1:=path_at h (k:=k) (by omega)
  rw[zP P 0 k (by omega)]
  refine ⟨by rw[List.length_append,List.length_take];simp;omega,fun x hx=>?_,?_⟩
  ·rcases List.mem_append.1 hx with e|e
   ·exact ih.num x e
   ·rw[List.mem_singleton.1 e];exact h1.1
  ·rw[List.nodup_append]
   refine ⟨ih.nodup,by simp,fun x hx y hy=>?_⟩
   rw[List.mem_singleton.1 hy]
   exact fun e=>h1.2 (e▸hx)
theorem wrongB_pl (C:Cst) (P:List Int):jE C P=jE (plC C.ls C.sum C.g) P:=rfl
def headErr (g P:List Int) (tried:Int) (done:Bool):Int:=zz [zn (decide ((zj g).length<P.length)||(done&&decide (0<P.length))) 2,zn (decide (tried<0)||decide (999999999<tried)) 3,qv g.length g P]
def badAt (ls:List (List Int)) (sum:Int) (g P:List Int) (k:Nat):Int:=if jE (plC ls sum g) (P.take k)=true then 29 else 0
def stateErr (ls:List (List Int)) (sum:Int) (g P:List Int) (tried:Int) (done:Bool):Int :=
 if headErr g P tried done≠0 then headErr g P tried done else qQ (badAt ls sum g P) P.length
theorem headErr_len {g P:List Int} {tried:Int} {done:Bool} (h:headErr g P tried done=0):P.length≤(zj g).length∧qv g.length g P=0:=by
 have h10:=firstL_all h (zn (decide ((zj g).length<P.length)||(done&&decide (0<P.length))) 2) (by simp)
 have h1:=whenV_zero (by decide) h10
 have h2:=firstL_all h (qv g.length g P) (by simp)
 rw[Bool.or_eq_false_iff] at h1
 have:=of_decide_eq_false h1.1
 exact ⟨by omega,h2⟩
theorem cstate_c {cells:Int} {ls:List (List Int)} {sum:Int} {g:List Int} (G:GoodTask cells ls sum g) (a:Option Addr) (n c:Nat) (a':Option Addr) (n' c':Nat) (ap:Option Addr) (np cp:Nat) (P:List Int) (tried:Int) (done:Bool) (w:World) (h:RC w a n ls) (hcap:n≤c) (h':IC w a' n' g) (hP:IC w ap np P) (hcp:np≤cp) :
  Calls Tryz.prog 192 #[.agg #[.int .i64 cells,.slice a n c,.int .i64 sum,.slice a' n' c'],.agg #[.slice ap np cp,.int .i64 tried,.bool done]] w fun e w'=>e = .returned (.int .i64 (stateErr ls sum g P tried done))∧Below w.heap.size w w':=by
 have H:=za h
 have H':=za h'
 have HP:=za hP
 have HG:=za G
 have hgl:=za h'.len
 have hpl:=za hP.len
 have hll:=za h.len
 have hps:=hP.small
 have hn2:n'≤256:=by have:=G.glen;have:=h'.len;omega
 have hn1:n≤1000000:=by have:=G.lines;have:=h.len;omega
 have hopl:(zj g).length≤256:=by have:=jA g g.length;have:=G.glen;unfold zj;omega
 clear h h' hP G
 go_enter Tryz.func192,Tryz.ntmps192
 go_wp2_with fail
 have fsz:((w.alloc (.cells #[.int .i64 cells,.slice a n c,.int .i64 sum,.slice a' n' c'] 27)).alloc (.cells #[.slice ap np cp,.int .i64 tried,.bool done] 98)).heap.size=w.heap.size+2:=by simp only[World.size_alloc] <;> omega
 have fB:Below w.heap.size w ((w.alloc (.cells #[.int .i64 cells,.slice a n c,.int .i64 sum,.slice a' n' c'] 27)).alloc (.cells #[.slice ap np cp,.int .i64 tried,.bool done] 98)):=((Below.refl _ _).alloc (Nat.le_refl _) _).alloc (by simp only[World.size_alloc];omega) _
 have fq0:((w.alloc (.cells #[.int .i64 cells,.slice a n c,.int .i64 sum,.slice a' n' c'] 27)).alloc (.cells #[.slice ap np cp,.int .i64 tried,.bool done] 98)).heap[w.heap.size]?=some (.cells #[.int .i64 cells,.slice a n c,.int .i64 sum,.slice a' n' c'] 27 (0,0)):=by have h:=World.alloc_heap_new w (.cells #[.int .i64 cells,.slice a n c,.int .i64 sum,.slice a' n' c'] 27);exact (Below.heap_alloc _ _ _ (by simp only[World.size_alloc];omega)).trans (h)
 have fq1:((w.alloc (.cells #[.int .i64 cells,.slice a n c,.int .i64 sum,.slice a' n' c'] 27)).alloc (.cells #[.slice ap np cp,.int .i64 tried,.bool done] 98)).heap[w.heap.size+1]?=some (.cells #[.slice ap np cp,.int .i64 tried,.bool done] 98 (0,0)):=by have h:=World.alloc_heap_new (w.alloc (.cells #[.int .i64 cells,.slice a n c,.int .i64 sum,.slice a' n' c'] 27)) (.cells #[.slice ap np cp,.int .i64 tried,.bool done] 98);simp only[World.size_alloc] at h;exact h
 generalize ((w.alloc (.cells #[.int .i64 cells,.slice a n c,.int .i64 sum,.slice a' n' c'] 27)).alloc (.cells #[.slice ap np cp,.int .i64 tried,.bool done] 98))=W0 at fsz fB fq0 fq1 ⊢
 have fsz':w.heap.size+1<W0.heap.size:=by omega
 clear fsz
 have hOlt:∀k,k<w.heap.size→k<W0.heap.size:=fun k hk=>by omega
 refine (searchOf_c a n c ls cells sum a' n' c' g W0 (H.out.mono fB) hcap hn1 (H'.out.mono fB) hn2 (fun k hk=>by have:=HG.out.num k (by have:=hgl.out;omega);have:=HG.out.cells2;omega) (fun l hl=>by have h1:=HG.out.lineLen hl;have h2:=HG.out.len;have h3:=hgl.out;exact ⟨h1.1,fun x hx=>by have:=h1.2 x hx;omega⟩) (fun k=>k<w.heap.size) hOlt (old_lines H.out fB)).mono ?_
 rintro _ w1 ⟨b,Im,ao,co,al,cl,vf,rfl,hsr,hb1,hbge,hvge,himge⟩
 have HQ0:=za (zm hb1 fq0)
 have HQ1:=za (zm hb1 fq1)
 have hB1:=fB.trans (hb1.mono fB.size)
 have HSR:=za hsr
 have HVG:=za hvge
 have x0:w1.cell? ⟨w.heap.size,0,none⟩=some (.int .i64 cells):=zc HQ0.out 0
 have x1:w1.cell? ⟨w.heap.size,1,none⟩=some (.slice a n c):=zc HQ0.out 1
 have x2:w1.cell? ⟨w.heap.size,2,none⟩=some (.int .i64 sum):=zc HQ0.out 2
 have x3:w1.cell? ⟨w.heap.size,3,none⟩=some (.slice a' n' c'):=zc HQ0.out 3
 have y0:w1.cell? ⟨w.heap.size+1,0,none⟩=some (.slice ap np cp):=zc HQ1.out 0
 have y1:w1.cell? ⟨w.heap.size+1,1,none⟩=some (.int .i64 tried):=zc HQ1.out 1
 have y2:w1.cell? ⟨w.heap.size+1,2,none⟩=some (.bool done):=zc HQ1.out 2
 have xl:=zy HQ0.out
 have yl:=zy HQ1.out
 have s4:w1.cell? ⟨b,4,none⟩=some (.slice ao (zj g).length co):=hsr.c4
 have sl:=hsr.lt
 have HPA:=za (fun W (hb:Below w1.heap.size w1 W)=>path_c (.slice a n c) cells sum a' n' c' g ap np cp P W ((H'.out.mono hB1).mono hb) ((HP.out.mono hB1).mono hb) hcp)
 obtain ⟨eF,hEF⟩:∃e,headErr g P tried done=e:=⟨_,rfl⟩
 have HEF0:=za hEF
 have HEF:Hid (zz [zn (decide ((zj g).length<np)||(done&&decide (0<np))) 2,zn (decide (tried<0)||decide (999999999<tried)) 3,qv n' g P]=eF):=by
  unfold Hid;rw[← hEF,headErr,hpl.out,hgl.out]
 clear hEF fq0 fq1 hsr hvge himge hb1 hOlt
 go_upto_region 3 with fail
 go_cut [6] from 11 to 45 (fun v wx=>v = .int .i64 eF∧Below w1.heap.size w1 wx)
 case first =>
  clear HEF0
  by_cases hA:(zj g).length<np
  ·have hAi:(((zj g).length:Nat):Int)<((np:Nat):Int):=by omega
   have eA:(decide ((zj g).length<np)||(done&&decide (0<np)))=true:=by simp[hA]
   by_cases hT:tried<0
   ·have eB:(decide (tried<0)||decide (999999999<tried))=true:=by simp[hT]
    have hF:Hid (zz [zn (true) 2,zn (true) 3,qv n' g P]=eF):=by unfold Hid;rw[← HEF.out,eA,eB]
    clear eA eB
    go_wp2_with fail
    refine zk (fun w'=>∃u,w'=over (w1) u) [35,34,33,32] [(0,0),(0,1),(0,2),(0,3),(0,4),(0,5),(0,6),(0,7),(0,8),(0,9),(0,10),(0,11),(0,12),(0,13),(0,14),(0,15),(0,16),(0,17),(0,18),(0,20),(0,21),(0,22),(0,29),(0,30),(0,31),(1,19),(0,23),(0,24),(0,25),(0,26),(0,27),(1,28),(2,32),(2,33),(2,34),(2,35)] (by kernel_rfl) (by kernel_rfl) (by exact ⟨_,zi (by repeat (first|assumption|exact Below.refl _ _|refine zd ?_|refine zg ?_ _|refine zb ?_ (by assumption)))⟩) ?_
    dsimp only[zt,zG]
    repeat (first|(refine zu rfl (fun K hK=>?_);go_big_quiet_op;refine hK _ ?_;clear hK K)|(refine zp rfl rfl (fun K hK=>?_);go_big_quiet_op;refine hK _ ?_;clear hK K)|(refine zE ?_;go_wp2_with (first|(go_at_call 66;refine (zO _ _ _).mono ?_;rintro _ w2 ⟨rfl,rfl⟩)|(go_at_call 232;refine (HPA.out _ (zd (Below.refl _ _))).mono ?_;rintro _ w3 ⟨rfl,hb3⟩)|(go_at_call 65;refine (zK _ _ _ _ _ (IC.new3 _ _ _ _ _)).mono ?_;rintro _ w4 ⟨rfl,rfl⟩));refine ⟨?_,?_⟩;focus (exact ⟨_,zi (by repeat (first|assumption|exact Below.refl _ _|refine zd ?_|refine zg ?_ _|refine zb ?_ (by assumption)))⟩)))
    refine zA _ _ _ rfl ?_
    dsimp only[List.map]
    go_wp2_with (first|(go_at_call 66;refine (zO _ _ _).mono ?_;rintro _ w2 ⟨rfl,rfl⟩)|(go_at_call 232;refine (HPA.out _ (zd (Below.refl _ _))).mono ?_;rintro _ w3 ⟨rfl,hb3⟩)|(go_at_call 65;refine (zK _ _ _ _ _ (IC.new3 _ _ _ _ _)).mono ?_;rintro _ w4 ⟨rfl,rfl⟩))
    refine NoPanic.normal ?_
    go_wp2_with fail
    go_meet
    exact ⟨by rw[hF.out],zg (zb (zd (Below.refl _ _)) hb3) _⟩
   ·have eB:(decide (tried<0)||decide (999999999<tried))=decide (999999999<tried):=by simp[hT]
    have hTd:decide (tried<0)=false:=by simp[hT]
    have hF:Hid (zz [zn (true) 2,zn (decide (999999999<tried)) 3,qv n' g P]=eF):=by unfold Hid;rw[← HEF.out,eA,eB]
    clear eA eB
    go_wp2_with fail
    refine zk (fun w'=>∃u,w'=over (w1) u) [35,34,33,32] [(0,0),(0,1),(0,2),(0,3),(0,4),(0,5),(0,6),(0,7),(0,8),(0,9),(0,10),(0,11),(0,12),(0,13),(0,14),(0,15),(0,16),(0,17),(0,18),(0,20),(0,21),(0,22),(0,29),(0,30),(0,31),(1,19),(0,23),(0,24),(0,25),(0,26),(0,27),(1,28),(2,32),(2,33),(2,34),(2,35)] (by kernel_rfl) (by kernel_rfl) (by exact ⟨_,zi (by repeat (first|assumption|exact Below.refl _ _|refine zd ?_|refine zg ?_ _|refine zb ?_ (by assumption)))⟩) ?_
    dsimp only[zt,zG]
    repeat (first|(refine zu rfl (fun K hK=>?_);go_big_quiet_op;refine hK _ ?_;clear hK K)|(refine zp rfl rfl (fun K hK=>?_);go_big_quiet_op;refine hK _ ?_;clear hK K)|(refine zE ?_;go_wp2_with (first|(go_at_call 66;refine (zO _ _ _).mono ?_;rintro _ w2 ⟨rfl,rfl⟩)|(go_at_call 232;refine (HPA.out _ (zd (Below.refl _ _))).mono ?_;rintro _ w3 ⟨rfl,hb3⟩)|(go_at_call 65;refine (zK _ _ _ _ _ (IC.new3 _ _ _ _ _)).mono ?_;rintro _ w4 ⟨rfl,rfl⟩));refine ⟨?_,?_⟩;focus (exact ⟨_,zi (by repeat (first|assumption|exact Below.refl _ _|refine zd ?_|refine zg ?_ _|refine zb ?_ (by assumption)))⟩)))
    refine zA _ _ _ rfl ?_
    dsimp only[List.map]
    go_wp2_with (first|(go_at_call 66;refine (zO _ _ _).mono ?_;rintro _ w2 ⟨rfl,rfl⟩)|(go_at_call 232;refine (HPA.out _ (zd (Below.refl _ _))).mono ?_;rintro _ w3 ⟨rfl,hb3⟩)|(go_at_call 65;refine (zK _ _ _ _ _ (IC.new3 _ _ _ _ _)).mono ?_;rintro _ w4 ⟨rfl,rfl⟩))
    refine NoPanic.normal ?_
    go_wp2_with fail
    go_meet
    exact ⟨by rw[hF.out],zg (zb (zd (Below.refl _ _)) hb3) _⟩
  ·have hAi:¬(((zj g).length:Nat):Int)<((np:Nat):Int):=by omega
   cases done with
   | false =>
    have eA:(decide ((zj g).length<np)||(false&&decide (0<np)))=false:=by simp[hA]
    by_cases hT:tried<0
    ·have eB:(decide (tried<0)||decide (999999999<tried))=true:=by simp[hT]
     have hF:Hid (zz [zn (false) 2,zn (true) 3,qv n' g P]=eF):=by unfold Hid;rw[← HEF.out,eA,eB]
     clear eA eB
     go_wp2_with fail
     refine zk (fun w'=>∃u,w'=over (w1) u) [35,34,33,32] [(0,0),(0,1),(0,2),(0,3),(0,4),(0,5),(0,6),(0,7),(0,8),(0,9),(0,10),(0,11),(0,12),(0,13),(0,14),(0,15),(0,16),(0,17),(0,18),(0,20),(0,21),(0,22),(0,29),(0,30),(0,31),(1,19),(0,23),(0,24),(0,25),(0,26),(0,27),(1,28),(2,32),(2,33),(2,34),(2,35)] (by kernel_rfl) (by kernel_rfl) (by exact ⟨_,zi (by repeat (first|assumption|exact Below.refl _ _|refine zd ?_|refine zg ?_ _|refine zb ?_ (by assumption)))⟩) ?_
     dsimp only[zt,zG]
     repeat (first|(refine zu rfl (fun K hK=>?_);go_big_quiet_op;refine hK _ ?_;clear hK K)|(refine zp rfl rfl (fun K hK=>?_);go_big_quiet_op;refine hK _ ?_;clear hK K)|(refine zE ?_;go_wp2_with (first|(go_at_call 66;refine (zO _ _ _).mono ?_;rintro _ w2 ⟨rfl,rfl⟩)|(go_at_call 232;refine (HPA.out _ (zd (Below.refl _ _))).mono ?_;rintro _ w3 ⟨rfl,hb3⟩)|(go_at_call 65;refine (zK _ _ _ _ _ (IC.new3 _ _ _ _ _)).mono ?_;rintro _ w4 ⟨rfl,rfl⟩));refine ⟨?_,?_⟩;focus (exact ⟨_,zi (by repeat (first|assumption|exact Below.refl _ _|refine zd ?_|refine zg ?_ _|refine zb ?_ (by assumption)))⟩)))
     refine zA _ _ _ rfl ?_
     dsimp only[List.map]
     go_wp2_with (first|(go_at_call 66;refine (zO _ _ _).mono ?_;rintro _ w2 ⟨rfl,rfl⟩)|(go_at_call 232;refine (HPA.out _ (zd (Below.refl _ _))).mono ?_;rintro _ w3 ⟨rfl,hb3⟩)|(go_at_call 65;refine (zK _ _ _ _ _ (IC.new3 _ _ _ _ _)).mono ?_;rintro _ w4 ⟨rfl,rfl⟩))
     refine NoPanic.normal ?_
     go_wp2_with fail
     go_meet
     exact ⟨by rw[hF.out],zg (zb (zd (Below.refl _ _)) hb3) _⟩
    ·have eB:(decide (tried<0)||decide (999999999<tried))=decide (999999999<tried):=by simp[hT]
     have hTd:decide (tried<0)=false:=by simp[hT]
     have hF:Hid (zz [zn (false) 2,zn (decide (999999999<tried)) 3,qv n' g P]=eF):=by unfold Hid;rw[← HEF.out,eA,eB]
     clear eA eB
     go_wp2_with fail
     refine zk (fun w'=>∃u,w'=over (w1) u) [35,34,33,32] [(0,0),(0,1),(0,2),(0,3),(0,4),(0,5),(0,6),(0,7),(0,8),(0,9),(0,10),(0,11),(0,12),(0,13),(0,14),(0,15),(0,16),(0,17),(0,18),(0,20),(0,21),(0,22),(0,29),(0,30),(0,31),(1,19),(0,23),(0,24),(0,25),(0,26),(0,27),(1,28),(2,32),(2,33),(2,34),(2,35)] (by kernel_rfl) (by kernel_rfl) (by exact ⟨_,zi (by repeat (first|assumption|exact Below.refl _ _|refine zd ?_|refine zg ?_ _|refine zb ?_ (by assumption)))⟩) ?_
     dsimp only[zt,zG]
     repeat (first|(refine zu rfl (fun K hK=>?_);go_big_quiet_op;refine hK _ ?_;clear hK K)|(refine zp rfl rfl (fun K hK=>?_);go_big_quiet_op;refine hK _ ?_;clear hK K)|(refine zE ?_;go_wp2_with (first|(go_at_call 66;refine (zO _ _ _).mono ?_;rintro _ w2 ⟨rfl,rfl⟩)|(go_at_call 232;refine (HPA.out _ (zd (Below.refl _ _))).mono ?_;rintro _ w3 ⟨rfl,hb3⟩)|(go_at_call 65;refine (zK _ _ _ _ _ (IC.new3 _ _ _ _ _)).mono ?_;rintro _ w4 ⟨rfl,rfl⟩));refine ⟨?_,?_⟩;focus (exact ⟨_,zi (by repeat (first|assumption|exact Below.refl _ _|refine zd ?_|refine zg ?_ _|refine zb ?_ (by assumption)))⟩)))
     refine zA _ _ _ rfl ?_
     dsimp only[List.map]
     go_wp2_with (first|(go_at_call 66;refine (zO _ _ _).mono ?_;rintro _ w2 ⟨rfl,rfl⟩)|(go_at_call 232;refine (HPA.out _ (zd (Below.refl _ _))).mono ?_;rintro _ w3 ⟨rfl,hb3⟩)|(go_at_call 65;refine (zK _ _ _ _ _ (IC.new3 _ _ _ _ _)).mono ?_;rintro _ w4 ⟨rfl,rfl⟩))
     refine NoPanic.normal ?_
     go_wp2_with fail
     go_meet
     exact ⟨by rw[hF.out],zg (zb (zd (Below.refl _ _)) hb3) _⟩
   | true =>
    have eA:(decide ((zj g).length<np)||(true&&decide (0<np)))=decide (0<np):=by rw[Bool.true_and];rw[show decide ((zj g).length<np)=false from by simp[hA],Bool.false_or]
    by_cases hT:tried<0
    ·have eB:(decide (tried<0)||decide (999999999<tried))=true:=by simp[hT]
     have hF:Hid (zz [zn (decide (0<np)) 2,zn (true) 3,qv n' g P]=eF):=by unfold Hid;rw[← HEF.out,eA,eB]
     clear eA eB
     go_wp2_with fail
     refine zk (fun w'=>∃u,w'=over (w1) u) [35,34,33,32] [(0,0),(0,1),(0,2),(0,3),(0,4),(0,5),(0,6),(0,7),(0,8),(0,9),(0,10),(0,11),(0,12),(0,13),(0,14),(0,15),(0,16),(0,17),(0,18),(0,20),(0,21),(0,22),(0,29),(0,30),(0,31),(1,19),(0,23),(0,24),(0,25),(0,26),(0,27),(1,28),(2,32),(2,33),(2,34),(2,35)] (by kernel_rfl) (by kernel_rfl) (by exact ⟨_,zi (by repeat (first|assumption|exact Below.refl _ _|refine zd ?_|refine zg ?_ _|refine zb ?_ (by assumption)))⟩) ?_
     dsimp only[zt,zG]
     repeat (first|(refine zu rfl (fun K hK=>?_);go_big_quiet_op;refine hK _ ?_;clear hK K)|(refine zp rfl rfl (fun K hK=>?_);go_big_quiet_op;refine hK _ ?_;clear hK K)|(refine zE ?_;go_wp2_with (first|(go_at_call 66;refine (zO _ _ _).mono ?_;rintro _ w2 ⟨rfl,rfl⟩)|(go_at_call 232;refine (HPA.out _ (zd (Below.refl _ _))).mono ?_;rintro _ w3 ⟨rfl,hb3⟩)|(go_at_call 65;refine (zK _ _ _ _ _ (IC.new3 _ _ _ _ _)).mono ?_;rintro _ w4 ⟨rfl,rfl⟩));refine ⟨?_,?_⟩;focus (exact ⟨_,zi (by repeat (first|assumption|exact Below.refl _ _|refine zd ?_|refine zg ?_ _|refine zb ?_ (by assumption)))⟩)))
     refine zA _ _ _ rfl ?_
     dsimp only[List.map]
     go_wp2_with (first|(go_at_call 66;refine (zO _ _ _).mono ?_;rintro _ w2 ⟨rfl,rfl⟩)|(go_at_call 232;refine (HPA.out _ (zd (Below.refl _ _))).mono ?_;rintro _ w3 ⟨rfl,hb3⟩)|(go_at_call 65;refine (zK _ _ _ _ _ (IC.new3 _ _ _ _ _)).mono ?_;rintro _ w4 ⟨rfl,rfl⟩))
     refine NoPanic.normal ?_
     go_wp2_with fail
     go_meet
     exact ⟨by rw[hF.out],zg (zb (zd (Below.refl _ _)) hb3) _⟩
    ·have eB:(decide (tried<0)||decide (999999999<tried))=decide (999999999<tried):=by simp[hT]
     have hTd:decide (tried<0)=false:=by simp[hT]
     have hF:Hid (zz [zn (decide (0<np)) 2,zn (decide (999999999<tried)) 3,qv n' g P]=eF):=by unfold Hid;rw[← HEF.out,eA,eB]
     clear eA eB
     go_wp2_with fail
     refine zk (fun w'=>∃u,w'=over (w1) u) [35,34,33,32] [(0,0),(0,1),(0,2),(0,3),(0,4),(0,5),(0,6),(0,7),(0,8),(0,9),(0,10),(0,11),(0,12),(0,13),(0,14),(0,15),(0,16),(0,17),(0,18),(0,20),(0,21),(0,22),(0,29),(0,30),(0,31),(1,19),(0,23),(0,24),(0,25),(0,26),(0,27),(1,28),(2,32),(2,33),(2,34),(2,35)] (by kernel_rfl) (by kernel_rfl) (by exact ⟨_,zi (by repeat (first|assumption|exact Below.refl _ _|refine zd ?_|refine zg ?_ _|refine zb ?_ (by assumption)))⟩) ?_
     dsimp only[zt,zG]
     repeat (first|(refine zu rfl (fun K hK=>?_);go_big_quiet_op;refine hK _ ?_;clear hK K)|(refine zp rfl rfl (fun K hK=>?_);go_big_quiet_op;refine hK _ ?_;clear hK K)|(refine zE ?_;go_wp2_with (first|(go_at_call 66;refine (zO _ _ _).mono ?_;rintro _ w2 ⟨rfl,rfl⟩)|(go_at_call 232;refine (HPA.out _ (zd (Below.refl _ _))).mono ?_;rintro _ w3 ⟨rfl,hb3⟩)|(go_at_call 65;refine (zK _ _ _ _ _ (IC.new3 _ _ _ _ _)).mono ?_;rintro _ w4 ⟨rfl,rfl⟩));refine ⟨?_,?_⟩;focus (exact ⟨_,zi (by repeat (first|assumption|exact Below.refl _ _|refine zd ?_|refine zg ?_ _|refine zb ?_ (by assumption)))⟩)))
     refine zA _ _ _ rfl ?_
     dsimp only[List.map]
     go_wp2_with (first|(go_at_call 66;refine (zO _ _ _).mono ?_;rintro _ w2 ⟨rfl,rfl⟩)|(go_at_call 232;refine (HPA.out _ (zd (Below.refl _ _))).mono ?_;rintro _ w3 ⟨rfl,hb3⟩)|(go_at_call 65;refine (zK _ _ _ _ _ (IC.new3 _ _ _ _ _)).mono ?_;rintro _ w4 ⟨rfl,rfl⟩))
     refine NoPanic.normal ?_
     go_wp2_with fail
     go_meet
     exact ⟨by rw[hF.out],zg (zb (zd (Below.refl _ _)) hb3) _⟩
 case rest =>
  obtain ⟨rfl,hbw⟩:=hcut
  have y0c:wc.cell? ⟨w.heap.size+1,0,none⟩=some (.slice ap np cp):=((zF hbw).1 _ _ yl).trans y0
  have ylc:w.heap.size+1<wc.heap.size:=Nat.lt_of_lt_of_le yl hbw.size
  have HSC:=za (HSR.out.below hbw)
  have hBc:=hB1.trans (hbw.mono hB1.size)
  have hbge2:w.heap.size≤b:=by omega
  clear x0 x1 x2 x3 y0 y1 y2 s4 HPA
  by_cases he:eF=0
  ·subst he
   have h0:=headErr_len HEF0.out
   have HLE:=za h0.1
   have HPE:=za h0.2
   have hSE:Hid (stateErr ls sum g P tried done=qQ (badAt ls sum g P) P.length):=by
    unfold Hid stateErr;rw[if_neg (by rw[HEF0.out];simp)]
   clear h0 HEF
   go_wp2_with fail
   go_loopw [8,52] (fun _ i wv=>∃(k:Nat) (vp:Value),k≤np∧i = .int .i64 k∧Hid (SR wv b Im ⟨cells,a,n,c,ls,sum,a',n',c',g,ao,co,al,cl⟩ vf vp (P.take k))∧Hid (∀q,vp.ownBlock=some q→w.heap.size≤q)∧Hid (∀j,j<k→badAt ls sum g P j=0)∧Below w.heap.size w wv) (fun _ i _=>np - (intOf i).toNat)
   case atStart=>exact ⟨0,_,by omega,rfl,HSC.out,fun q e=>(by cases e),fun j hj=>absurd hj (by omega),hBc⟩
   case round =>
    obtain ⟨k,vp,hk,rfl,hsr,hvp,hno,hbr⟩:=hrel
    by_cases hlt:k<np
    ·obtain ⟨bi,oi,rfl,hbi,hci⟩:=(HP.out.mono hbr).2 k hlt
     have hkl:k<P.length:=by rw[hpl.out];exact hlt
     have HPA:=za (path_at HPE.out hkl)
     have HSN:=za (zP P 0 k hkl)
     have hki:(k:Int)<(np:Int):=by omega
     have hTL:Hid ((P.take k).length<(zj g).length):=by unfold Hid;have:=HLE.out;rw[List.length_take];omega
     have hBA:Hid (badAt ls sum g P k=if jE (plC ls sum g) (P.take k)=true then 29 else 0):=rfl
     have HWR:=za (wrong_c b Im _ vf vp (P.take k) wr hsr.out)
     rw[wrongB_pl] at HWR
     clear hkl
     generalize P[k]?.getD 0=x at *
     cases hw:jE (plC ls sum g) (P.take k) with
     | true =>
      rw[hw,if_pos rfl] at hBA
      have HW2:Hid (Calls Tryz.prog 133 #[.pointer (some ⟨b,0,none⟩)] wr fun e w'=>e = .returned (.bool true)∧Below wr.heap.size wr w'):=by
       have:=HWR.out;rw[← hw];exact this
      clear hw HWR
      go_wp2_with fail
      refine HW2.out.mono ?_
      rintro _ w5 ⟨rfl,hb5⟩
      go_wp2_with fail
      go_ret
      exact ⟨zD (by rw[hSE.out,zS hno.out (by rw[hpl.out];exact hlt) (by rw[hBA.out];decide),hBA.out]),hbr.trans (hb5.mono hbr.size)⟩
     | false =>
      rw[hw,if_neg (by decide)] at hBA
      have HW2:Hid (Calls Tryz.prog 133 #[.pointer (some ⟨b,0,none⟩)] wr fun e w'=>e = .returned (.bool false)∧Below wr.heap.size wr w'):=by
       have:=HWR.out;rw[← hw];exact this
      clear hw HWR
      go_wp2_with fail
      refine HW2.out.mono ?_
      rintro _ w5 ⟨rfl,hb5⟩
      have hsr5:=hsr.out.below hb5
      have hbr5:=hbr.trans (hb5.mono hbr.size)
      have HPU:=za (push_c b Im _ vf vp (P.take k) x w5 hsr5 hTL.out HPA.out.1 HPA.out.2)
      clear hsr5
      go_wp2_with fail
      refine HPU.out.mono ?_
      rintro _ w6 ⟨rfl,vp',hsr6,hst6,hvp6⟩
      rw[← HSN.out] at hsr6
      have HS6:=za hsr6
      clear hsr6
      go_wp2_with fail
      go_roundw
      case rel =>
       have hz5:=hbr5.size
       refine ⟨k+1,vp',by omega,by go_num,HS6.out,fun q e=>(hvp6 q e).elim (fun h=>hvp.out q h) (fun h=>by omega),jj hno.out hBA.out,hbr5.trans (hst6.below hz5 ?_)⟩
       rintro q (e|e|e)
       ·omega
       ·have:=HVG.out q e;omega
       ·exact hvp.out q e
      case measure=>simp[intOf];omega
    ·have e:k=np:=by omega
     subst e
     go_wp2_with fail
     go_ret
     exact ⟨zD (by rw[hSE.out,ju (by rw[hpl.out];exact hno.out)]),hbr⟩
  ·have hne:(eF != 0)=true:=by simpa using he
   have HNE:=za he
   clear he
   go_wp2_with fail
   go_ret
   exact ⟨zD (by unfold stateErr;rw[HEF0.out,if_pos HNE.out]),hBc⟩
def stateE (cells:Int) (ls:List (List Int)) (sum:Int) (g P:List Int) (tried:Int) (done:Bool):Int :=
 if zx cells ls sum g≠0 then zx cells ls sum g else stateErr ls sum g P tried done
theorem kstate_c (a:Option Addr) (n c:Nat) (ls:List (List Int)) (cells sum:Int) (a':Option Addr) (n' c':Nat) (g:List Int) (ap:Option Addr) (np cp:Nat) (P:List Int) (tried:Int) (done:Bool) (w:World) (h:RC w a n ls) (hcap:n≤c) (h':IC w a' n' g) (hcap':n'≤c') (hP:IC w ap np P) (hcp:np≤cp) :
  Calls Tryz.prog 127 #[.agg #[.int .i64 cells,.slice a n c,.int .i64 sum,.slice a' n' c'],.agg #[.slice ap np cp,.int .i64 tried,.bool done]] w fun e w'=>e = .returned (.int .i64 (stateE cells ls sum g P tried done))∧Below w.heap.size w w':=by
 have HS:=za (fun (G:GoodTask cells ls sum g) w1 (hb:Below w.heap.size w w1)=>cstate_c G a n c a' n' c' ap np cp P tried done w1 (h.mono hb) hcap (h'.mono hb) (hP.mono hb) hcp)
 have HT:=za (fun w1 (hb:Below w.heap.size w w1)=>task_c a n c ls cells sum a' n' c' g w1 (h.mono hb) hcap (h'.mono hb) hcap')
 clear h h' hP
 go_enter Tryz.func127,Tryz.ntmps127
 go_wp2_with fail
 have fsz:((w.alloc (.cells #[.int .i64 cells,.slice a n c,.int .i64 sum,.slice a' n' c'] 27)).alloc (.cells #[.slice ap np cp,.int .i64 tried,.bool done] 98)).heap.size=w.heap.size+2:=by simp only[World.size_alloc] <;> omega
 have fB:Below w.heap.size w ((w.alloc (.cells #[.int .i64 cells,.slice a n c,.int .i64 sum,.slice a' n' c'] 27)).alloc (.cells #[.slice ap np cp,.int .i64 tried,.bool done] 98)):=((Below.refl _ _).alloc (Nat.le_refl _) _).alloc (by simp only[World.size_alloc];omega) _
 have fq0:((w.alloc (.cells #[.int .i64 cells,.slice a n c,.int .i64 sum,.slice a' n' c'] 27)).alloc (.cells #[.slice ap np cp,.int .i64 tried,.bool done] 98)).heap[w.heap.size]?=some (.cells #[.int .i64 cells,.slice a n c,.int .i64 sum,.slice a' n' c'] 27 (0,0)):=by have h:=World.alloc_heap_new w (.cells #[.int .i64 cells,.slice a n c,.int .i64 sum,.slice a' n' c'] 27);exact (Below.heap_alloc _ _ _ (by simp only[World.size_alloc];omega)).trans (h)
 have fq1:((w.alloc (.cells #[.int .i64 cells,.slice a n c,.int .i64 sum,.slice a' n' c'] 27)).alloc (.cells #[.slice ap np cp,.int .i64 tried,.bool done] 98)).heap[w.heap.size+1]?=some (.cells #[.slice ap np cp,.int .i64 tried,.bool done] 98 (0,0)):=by have h:=World.alloc_heap_new (w.alloc (.cells #[.int .i64 cells,.slice a n c,.int .i64 sum,.slice a' n' c'] 27)) (.cells #[.slice ap np cp,.int .i64 tried,.bool done] 98);simp only[World.size_alloc] at h;exact h
 generalize ((w.alloc (.cells #[.int .i64 cells,.slice a n c,.int .i64 sum,.slice a' n' c'] 27)).alloc (.cells #[.slice ap np cp,.int .i64 tried,.bool done] 98))=W0 at fsz fB fq0 fq1 ⊢
 clear fsz
 refine (HT.out W0 fB).mono ?_
 rintro _ w1 ⟨rfl,hb1⟩
 have hB1:=fB.trans (hb1.mono fB.size)
 by_cases he:zx cells ls sum g=0
 ·have HE:Hid (stateE cells ls sum g P tried done=stateErr ls sum g P tried done):=by unfold Hid stateE;rw[if_neg (by simpa using he)]
  have HQ0:=za (zm hb1 fq0)
  have HQ1:=za (zm hb1 fq1)
  have x0:w1.cell? ⟨w.heap.size,0,none⟩=some (.int .i64 cells):=zc HQ0.out 0
  have x1:w1.cell? ⟨w.heap.size,1,none⟩=some (.slice a n c):=zc HQ0.out 1
  have x2:w1.cell? ⟨w.heap.size,2,none⟩=some (.int .i64 sum):=zc HQ0.out 2
  have x3:w1.cell? ⟨w.heap.size,3,none⟩=some (.slice a' n' c'):=zc HQ0.out 3
  have y0:w1.cell? ⟨w.heap.size+1,0,none⟩=some (.slice ap np cp):=zc HQ1.out 0
  have y1:w1.cell? ⟨w.heap.size+1,1,none⟩=some (.int .i64 tried):=zc HQ1.out 1
  have y2:w1.cell? ⟨w.heap.size+1,2,none⟩=some (.bool done):=zc HQ1.out 2
  have hC:=za (HS.out (qg he) w1 hB1)
  rw[he]
  clear fq0 fq1 HS HT he
  go_wp2_with fail
  refine hC.out.mono ?_
  rintro _ w2 ⟨rfl,hb2⟩
  go_wp2_with fail
  go_ret
  exact ⟨zD HE.out.symm,hB1.trans (hb2.mono hB1.size)⟩
 ·have HE:Hid (stateE cells ls sum g P tried done=zx cells ls sum g):=by unfold Hid stateE;rw[if_pos he]
  have hne:(zx cells ls sum g != 0)=true:=by simpa using he
  obtain ⟨er,her⟩:∃er,zx cells ls sum g=er:=⟨_,rfl⟩
  rw[her] at hne HE
  rw[her]
  clear fq0 fq1 HS HT he her
  go_wp2_with fail
  go_ret
  exact ⟨zD HE.out.symm,hB1⟩
end
end Go.Proofs.YtaadpihbjhachaaGreat
