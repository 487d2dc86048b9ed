/- Texts J138 to J138 of this proof, in one file. -/
import Derived.Test.YtmfpdakaeagdpaaGreatW01
import Derived.Test.YtmfpdakaeagdpaaGreatW02
import Derived.Test.YtmfpdakaeagdpaaGreatW03
import Derived.Test.YtmfpdakaeagdpaaGreatW04
import Derived.Test.YtmfpdakaeagdpaaGreatW05
import Derived.Test.YtmfpdakaeagdpaaGreatW06
import Derived.Test.YtmfpdakaeagdpaaGreatW07
import Derived.Test.YtmfpdakaeagdpaaGreatW08
import Derived.Test.YtmfpdakaeagdpaaGreatW09
import Derived.Test.YtmfpdakaeagdpaaGreatW10
import Derived.Test.YtmfpdakaeagdpaaGreatW11
import Derived.Test.YtmfpdakaeagdpaaGreatW12
import Derived.Test.YtmfpdakaeagdpaaGreatW13
import Derived.Test.YtmfpdakaeagdpaaGreatW14
import Derived.Test.YtmfpdakaeagdpaaGreatW15
import Derived.Test.YtmfpdakaeagdpaaGreatW16
import Derived.Test.YtmfpdakaeagdpaaGreatW17
import Derived.Test.YtmfpdakaeagdpaaGreatW18
import Derived.Test.YtmfpdakaeagdpaaGreatW19
import Derived.Test.YtmfpdakaeagdpaaGreatW20
import Derived.Test.YtmfpdakaeagdpaaGreatW21
import Derived.Test.YtmfpdakaeagdpaaGreatW22
import Derived.Test.YtmfpdakaeagdpaaGreatW23
import Derived.Test.YtmfpdakaeagdpaaGreatW24
import Derived.Test.YtmfpdakaeagdpaaGreatW25
import Derived.Test.YtmfpdakaeagdpaaGreatW26
import Derived.Test.YtmfpdakaeagdpaaGreatW27
import Derived.Test.YtmfpdakaeagdpaaGreatX26n01
import Derived.Test.YtmfpdakaeagdpaaGreatX26n02
import Derived.Below
import Derived.BigFrame
import Derived.BigQuiet
import Derived.Deep.CutBlock
import Derived.Deep.CutRange
import Derived.Deep.LoopGhost
import Derived.Deep.Quiet
import Derived.Deep.RegionHeld3
import Derived.DeepKeys4
import Derived.KernelRfl
import Derived.Laws.BitsAllLaws
import Derived.Laws.EntriesVeiled
import Derived.Lib.AppendZeros
import Derived.Lib.Hide
import Derived.Lib.SlKeysI
import Derived.Lib.SliceRun
import Derived.LoopIn
import Derived.LoopNIn
import Derived.Maps.AppendAt
import Derived.Maps.OwnIn
import Derived.Maps.OwnSet
import Derived.OneCell
import Derived.OrdersHeld
import Derived.OrdersIn
import Derived.OwnWalkIn
import Derived.RangeFuncBound
import Derived.RangeFuncBox
import Derived.RangeFuncCalls
import Derived.RangeFuncLeaves
import Derived.RangeFuncNested
import Derived.RangeFuncWrites
import Derived.Shelf.Abstract
import Derived.Shelf.SortM.Plain
import Derived.Still
import Derived.TacticsIn
import Derived.TacticsInMore
import Derived.Test.YtmfpdakaeagdpaaGreatProg
import Derived.WalkKit
import Derived.WalkLawsBesides
import Derived.WalkSpells
import Derived.WideKeyPair
namespace Go.Proofs.YtmfpdakaeagdpaaGreat
set_option maxRecDepth 100000
set_option maxHeartbeats 16000000
section
open Go Go.RowKit
attribute [local go_sem] over_cell
attribute [local go_sem] Oper.semAt_some
theorem own_one (w:World) (B:Nat) (T:TypeId) (x:Value) (hB:B≤w.heap.size):(w.alloc (.cells #[x] T)).ownsRow B T 1 (.slice (some ⟨w.heap.size,0,none⟩) 1 1) 1 [x] :=
 ⟨rfl,.inr ⟨w.heap.size,1,#[x],rfl,hB,World.alloc_heap_new _ _,Nat.le_refl _,by unfold maxLen;omega,rfl,rfl⟩⟩
theorem src_of_owns {w:World} {B n c:Nat} {e:TypeId} {a:Option Addr} {vs:List Value} (h:w.ownsRow B e 1 (.slice a n c) n vs):SrcOk w a n vs:=by
 have hl:vs.length=n:=by have:=h.1;omega
 cases a with
 | some p =>
  refine .inl ⟨p,rfl,fun j u hu=>?_⟩
  have hj:=(List.getElem?_eq_some_iff.1 hu).1
  obtain ⟨g,cap,x,hv,hx,hc,_⟩:=owns_free h j (by omega)
  simp only[Value.slice.injEq,Option.some.injEq] at hv
  obtain ⟨rfl,_,_⟩:=hv
  rw[hu] at hx
  cases hx
  have hadd:((⟨g,0,none⟩:Addr).add j)=⟨g,j,none⟩:=by unfold Addr.add;split <;> simp_all
  rw[hadd];exact hc
 | none =>
  rcases Nat.eq_zero_or_pos n with e|e
  ·exact .inr ⟨rfl,e⟩
  ·obtain ⟨g,cap,x,hv,_⟩:=owns_free h 0 e
   simp at hv
theorem RowsI.appendL {W W2:World} {L:Nat} {v v':Value} {pre pre2:List (Value × List Int)} (h:RowsI W noB L v pre)
  (hx:∀x,x∈pre2→W.ownsRow L 3 1 x.1 x.2.length (x.2.map (Value.int .i64))∧∀k,x.1.ownBlock=some k→v.ownBlock≠some k)
  (hs:Stays (fun k=>v.ownBlock=some k) W W2) (hown:W2.ownsRow L 22 1 v' (pre.length+pre2.length) (pre.map Prod.fst++pre2.map Prod.fst)) (hnew:∀k,v'.ownBlock=some k→v.ownBlock=some k∨W.heap.size≤k):RowsI W2 noB L v' (pre++pre2):=by
 have hold:∀y,y∈pre++pre2→W.ownsRow L 3 1 y.1 y.2.length (y.2.map (Value.int .i64))∧∀k,y.1.ownBlock=some k→v.ownBlock≠some k:=by
  intro y hy
  rcases List.mem_append.1 hy with hy|hy
  ·exact ⟨(h.2.2 y hy).1,fun k e=>((h.2.2 y hy).2 k e).2⟩
  ·exact hx y hy
 refine ⟨by rw[List.length_append,List.map_append];exact hown,fun k _ hm=>hm,fun y hy=>⟨owns_keep (hold y hy).1 (fun k e hlt=>hs.block k hlt ((hold y hy).2 k e)),fun k e=>⟨fun hm=>hm,fun e2=>?_⟩⟩⟩
 rcases hnew k e2 with e3|e3
 ·exact (hold y hy).2 k e e3
 ·have:=((hold y hy).1.lt _ e).2
  omega
def ExtE (w:World) (xss:List (List Int)) (e:Ending) (w':World):Prop:=∃v pre,e = .returned v∧RowsI w' noB w.heap.size v pre∧pre.map Prod.snd=xss∧Below w.heap.size w w'
def ExtS (N nn:Nat) (cs:List Int) (f:Nat):Prop:=∀(a:Option Addr) (ca:Nat) (aT:Option Addr) (nT cT:Nat) (t:List Int) (w:World),IC w a nn cs→IC w aT nT t→nT+f=N→(∀y,y∈t→0≤y∧y<(N:Int)) →
 Calls Tryz.prog 142 #[.agg #[.int .i64 (N:Int),.int .i64 (N:Int),.slice a nn ca],.slice aT nT cT] w (ExtE w (transL N cs f t))
theorem rext_zero (N nn:Nat) (cs:List Int) (hN2:N≤16):ExtS N nn cs 0:=by
 intro a ca aT nT cT t w h hT hf _
 have hR:transL N cs 0 t=[t]:=rfl
 rw[hR]
 have hnT:nT=N:=by omega
 subst hnT
 have HLM:Hid ((t.map (Value.int .i64)).length=nT):=by unfold Hid;rw[List.length_map];exact hT.len
 have HTL:Hid (t.length=nT):=hT.len
 have HT:=Lib.hid hT
 have he:((nT:Int)==(nT:Int))=true:=by simp
 obtain ⟨i0,hi0,hz0,hz1,hz2⟩:=info_parts infoInt
 clear h hT hf hR
 go_enter Tryz.func142,Tryz.ntmps142
 go_upto_region 1 with fail
 have fB:Below w.heap.size w (w.alloc (.cells #[.int .i64 (nT:Int),.int .i64 (nT:Int),.slice a nn ca] 24)):=(Below.refl _ _).alloc (Nat.le_refl _) _
 have FQ:Hid ((w.alloc (.cells #[.int .i64 (nT:Int),.int .i64 (nT:Int),.slice a nn ca] 24)).heap[w.heap.size]?=some (.cells #[.int .i64 (nT:Int),.int .i64 (nT:Int),.slice a nn ca] 24 (0,0))):=World.alloc_heap_new _ _
 generalize (w.alloc (.cells #[.int .i64 (nT:Int),.int .i64 (nT:Int),.slice a nn ca] 24))=wr at fB FQ ⊢
 obtain ⟨x0,x1,x2,xl⟩:=c3_of FQ.out
 have FB:=Lib.hid fB
 have HSRC:=Lib.hid ((HT.out.mono fB).src)
 clear fB
 go_wp2_with (first|(at_builtin;refine wpList_append_any _ rfl _ _ 22 rfl wr.heap.size 3 i0 (.int .i64 0) 8 Tryz.underlying22 hi0 hz0 hz1 hz2 rfl _ 0 [] rfl ((own_emp wr wr.heap.size 3 (Nat.le_refl _))) (by first|exact Nat.le_refl _|exact Nat.le_succ _|(simp;done)|(simp;omega)) aT nT cT (t.map (Value.int .i64)) rfl HLM.out (src_below HSRC.out (((Below.refl wr.heap.size wr).alloc (Nat.le_refl _) (.cells #[] 3)))) (ints_one _) (by unfold maxLen;omega) (by omega) ?_;intro v4 w4 hown4 hst4 hk4;rw[Nat.zero_add,List.nil_append] at hown4;have hB4:Below wr.heap.size wr w4:=(((Below.refl wr.heap.size wr).alloc (Nat.le_refl _) (.cells #[] 3))).trans (hst4.below (by first|exact Nat.le_refl _|exact Nat.le_succ _|(simp;done)|(simp;omega)) (fun q e=>by injection e with e;all_goals (first|omega|(simp at e;done)|(simp at e;omega))));obtain ⟨a7,c7,rfl⟩:=owns_shape hown4)|fail)
 have hs4:=hB4.size
 have hwr:w.heap.size≤wr.heap.size:=FB.out.size
 have hR1:RowsI (w4.alloc (.cells #[.slice a7 nT c7] 22)) noB w.heap.size (.slice (some ⟨w4.heap.size,0,none⟩) 1 1) [(.slice a7 nT c7,t)]:=by
  refine ⟨own_one w4 w.heap.size 22 _ (by omega),fun k _ hm=>hm,fun x hx=>?_⟩
  rw[List.mem_singleton.1 hx]
  have h9:(w4.alloc (.cells #[.slice a7 nT c7] 22)).ownsRow wr.heap.size 3 1 (.slice a7 nT c7) t.length (t.map (Value.int .i64)):=by
   rw[HTL.out]
   exact owns_keep hown4 (fun k _ hl=>((Below.refl w4.heap.size w4).alloc (Nat.le_refl _) _).block k hl)
  refine ⟨owns_base h9 (by omega),fun k e=>⟨fun hm=>hm,fun e2=>?_⟩⟩
  have:=(hown4.lt k e).2
  have e3:w4.heap.size=k:=Option.some.inj e2
  omega
 refine bodyPost_ret (v := .slice (some ⟨w4.heap.size,0,none⟩) 1 1) ?_ rfl ⟨_,[(.slice a7 nT c7,t)],rfl,hR1,rfl,keep_alloc (keep_trans FB.out hB4) _⟩
 simp[results,Tryz.f142,go_sem]
def extG (N:Nat) (cs:List Int) (f:Nat) (t:List Int) (j:Nat):List (List Int):=(List.range j).flatMap fun (x:Nat)=>if transB N cs (t++[(x:Int)])=true then transL N cs f (t++[(x:Int)]) else []
theorem extG_succ (N:Nat) (cs:List Int) (f:Nat) (t:List Int) (j:Nat):extG N cs f t (j+1)=extG N cs f t j++if transB N cs (t++[(j:Int)])=true then transL N cs f (t++[(j:Int)]) else []:=by
 unfold extG
 rw[List.range_succ,List.flatMap_append];simp
theorem extG_all (N:Nat) (cs:List Int) (f:Nat) (t:List Int):extG N cs f t N=transL N cs (f+1) t:=rfl
theorem extG_le {N f:Nat} {cs t:List Int}:∀j,(extG N cs f t j).length≤j*N ^ f
 | 0=>by unfold extG;simp
 | j+1=>by
  rw[extG_succ,List.length_append,Nat.add_mul,Nat.one_mul]
  have h1:=extG_le (N:=N) (f:=f) (cs:=cs) (t:=t) j
  have h2:(if transB N cs (t++[(j:Int)])=true then transL N cs f (t++[(j:Int)]) else []).length≤N ^ f:=by
   split
   ·exact (tr_len N cs f _).1
   ·simp
  omega
theorem rext_succ (N nn:Nat) (cs:List Int) (hN1:1≤N) (hN2:N≤7) (hnn:nn=N*N) (f:Nat) (IH:ExtS N nn cs f):ExtS N nn cs (f+1):=by
 intro a ca aT nT cT t w h hT hf hr
 have hlt0:nT<N:=by omega
 have hne:((nT:Int)==(N:Int))=false:=by simpa using (show ¬(nT:Int)=(N:Int) by omega)
 have HLM:Hid ((t.map (Value.int .i64)).length=nT):=by unfold Hid;rw[List.length_map];exact hT.len
 have HTL:Hid (t.length=nT):=hT.len
 have hpow:N ^ f≤7 ^ 6:=Nat.le_trans (Nat.pow_le_pow_left hN2 f) (Nat.pow_le_pow_right (by omega) (by omega))
 have HBND:Hid (∀j,j≤N→(extG N cs f t j).length≤1000000):=fun j hj=>by
  have h1:=extG_le (N:=N) (f:=f) (cs:=cs) (t:=t) j
  have h2:=Nat.mul_le_mul (show j≤7 by omega) hpow
  omega
 have HGS:=Lib.hid (extG_succ N cs f t)
 have HRI:Hid (∀(av:Option Addr) (cv j:Nat) W,j<N→Below w.heap.size w W→IC W av (nT+1) (t++[(j:Int)])→Calls Tryz.prog 68 #[.agg #[.int .i64 (N:Int),.int .i64 (N:Int),.slice a nn ca],.slice av (nT+1) cv] W fun e w'=>e = .returned (.bool (transB N cs (t++[(j:Int)])))∧Below W.heap.size W w'):=fun av cv j W hj hb hi =>
  rist_c N nn a ca cs av (nT+1) cv _ W (h.mono hb) hi hnn hN1 (by omega) (by omega) (fun y hy=>by
   rcases List.mem_append.1 hy with e|e
   ·exact hr y e
   ·rw[List.mem_singleton.1 e];omega)
 have HIH:Hid (∀(av:Option Addr) (cv j:Nat) W,j<N→Below w.heap.size w W→IC W av (nT+1) (t++[(j:Int)])→Calls Tryz.prog 142 #[.agg #[.int .i64 (N:Int),.int .i64 (N:Int),.slice a nn ca],.slice av (nT+1) cv] W (ExtE W (transL N cs f (t++[(j:Int)])))):=fun av cv j W hj hb hi =>
  IH a ca av (nT+1) cv _ W (h.mono hb) hi (by omega) (fun y hy=>by
   rcases List.mem_append.1 hy with e|e
   ·exact hr y e
   ·rw[List.mem_singleton.1 e];omega)
 rw[← extG_all]
 have HT:=Lib.hid hT
 obtain ⟨i0,hi0,hz0,hz1,hz2⟩:=info_parts infoInt
 obtain ⟨i2,hi2,hy0,hy1,hy2⟩:=info_parts infoRow
 clear h hT hf hr IH hnn
 go_enter Tryz.func142,Tryz.ntmps142
 go_upto_region 1 with fail
 have fB:Below w.heap.size w (w.alloc (.cells #[.int .i64 (N:Int),.int .i64 (N:Int),.slice a nn ca] 24)):=(Below.refl _ _).alloc (Nat.le_refl _) _
 have FQ:Hid ((w.alloc (.cells #[.int .i64 (N:Int),.int .i64 (N:Int),.slice a nn ca] 24)).heap[w.heap.size]?=some (.cells #[.int .i64 (N:Int),.int .i64 (N:Int),.slice a nn ca] 24 (0,0))):=World.alloc_heap_new _ _
 generalize (w.alloc (.cells #[.int .i64 (N:Int),.int .i64 (N:Int),.slice a nn ca] 24))=W0 at fB FQ ⊢
 obtain ⟨x0,x1,x2,xl⟩:=c3_of FQ.out
 have FB:=Lib.hid fB
 have hw0:=fB.size
 clear fB
 go_wp2_with fail
 go_loopw [5,6,7] (fun s5 s6 _ wr=>∃(j:Nat) (pre:List (Value × List Int)) (av:Option Addr) (cv:Nat),j≤N∧s6 = .int .i64 (j:Int)∧s5 = .slice av pre.length cv∧Hid (RowsI wr noB W0.heap.size (.slice av pre.length cv) pre)∧Hid (pre.map Prod.snd=extG N cs f t j)∧Hid (Below W0.heap.size W0 wr)) (fun _ s6 _ _=>N - (intOf s6).toNat)
 case atStart=>exact ⟨0,[],none,0,by omega,rfl,rfl,RowsI.nil _ _ _,rfl,Below.refl _ _⟩
 case round =>
  obtain ⟨j,pre,av,cv,hj,rfl,rfl,hR,hM,hbr⟩:=hrel
  clear x0 x1 x2 xl
  obtain ⟨x0,x1,x2,xl⟩:=c3_of (keepq hbr.out FQ.out)
  have HPL:Hid (pre.length≤1000000):=by
   have:=congrArg List.length hM.out
   rw[List.length_map] at this
   have h2:=HBND.out j hj
   unfold Hid
   omega
  by_cases hlt:j<N
  ·have hji:(j:Int)<(N:Int):=by omega
   have HSRC:=Lib.hid ((HT.out.mono (keep_trans FB.out hbr.out)).src)
   have HG1:=Lib.hid (HGS.out j)
   go_upto_region 8 with (first|(at_builtin;refine wpList_append_any _ rfl _ _ 22 rfl wr.heap.size 3 i0 (.int .i64 0) 8 Tryz.underlying22 hi0 hz0 hz1 hz2 rfl _ 0 [] rfl ((own_emp wr wr.heap.size 3 (Nat.le_refl _))) (by first|exact Nat.le_refl _|exact Nat.le_succ _|(simp;done)|(simp;omega)) aT nT cT (t.map (Value.int .i64)) rfl HLM.out (src_below HSRC.out (((Below.refl wr.heap.size wr).alloc (Nat.le_refl _) (.cells #[] 3)))) (ints_one _) (by unfold maxLen;omega) (by omega) ?_;intro v4 w4 hown4 hst4 hk4;rw[Nat.zero_add,List.nil_append] at hown4;have hB4:Below wr.heap.size wr w4:=(((Below.refl wr.heap.size wr).alloc (Nat.le_refl _) (.cells #[] 3))).trans (hst4.below (by first|exact Nat.le_refl _|exact Nat.le_succ _|(simp;done)|(simp;omega)) (fun q e=>by injection e with e;all_goals (first|omega|(simp at e;done)|(simp at e;omega)))))|(at_builtin;refine wpList_append_any _ rfl _ _ 22 rfl wr.heap.size 3 i0 (.int .i64 0) 8 Tryz.underlying22 hi0 hz0 hz1 hz2 rfl v4 nT (t.map (Value.int .i64)) rfl (hown4.alloc _) (by have:=hB4.size;simp;omega) _ 1 1 [.int .i64 (j:Int)] rfl rfl (src_one w4 _ _) (by intro u hu;rw[List.mem_singleton.1 hu];rfl) (by unfold maxLen;omega) (by omega) ?_;intro v7 w7 hown7 hst7 hk7;have hB7:Below wr.heap.size wr w7:=(hB4.alloc hB4.size _).trans (hst7.below (by first|exact hB4.size|(have:=hB4.size;simp;omega)) (fun q e=>(hown4.lt q e).1));obtain ⟨a7,c7,rfl⟩:=owns_shape hown7)|fail)
   have hn7:IC w7 a7 (nT+1) (t++[(j:Int)]):=(IC.of_owns (by rw[List.length_append,List.length_singleton,List.map_append,HTL.out];exact hown7) (by rw[List.length_append,List.length_singleton,HTL.out];omega)).1
   have hb7:=keep_trans hbr.out hB7
   have HTT:=Lib.hid (HRI.out a7 c7 j w7 hlt (keep_trans FB.out hb7) hn7)
   have HN7:=Lib.hid hn7
   have HB7:=Lib.hid hb7
   have HR7:=Lib.hid (hR.out.below hB7)
   have hs7:=hB7.size
   clear x0 x1 x2 xl hown4 hst4 hk4 hB4 hown7 hst7 hk7 hB7 hn7 hb7
   obtain ⟨x0,x1,x2,xl⟩:=c3_of (keepq HB7.out FQ.out)
   cases htb:transB N cs (t++[(j:Int)]) with
   | false =>
    rw[htb] at HTT
    rw[htb,if_neg (by decide),List.append_nil] at HG1
    go_wp2_with (first|(go_at_call 68;(with_reducible refine HTT.out.mono ?_);rintro _ w8 ⟨rfl,hb8⟩)|fail)
    go_roundw
    case rel=>exact ⟨j+1,pre,av,cv,by omega,by go_num,rfl,HR7.out.below hb8,hM.out.trans HG1.out.symm,keep_trans HB7.out hb8⟩
    case measure=>simp[intOf];omega
   | true =>
    rw[htb] at HTT
    rw[htb,if_pos rfl] at HG1
    have hlen1:=HBND.out (j+1) (by omega)
    rw[HG1.out,List.length_append,← hM.out,List.length_map] at hlen1
    have HLEN:=Lib.hid hlen1
    have HEX:=Lib.hid (fun W (hb:Below w7.heap.size w7 W)=>HIH.out a7 c7 j W hlt (keep_trans FB.out (keep_trans HB7.out hb)) (HN7.out.mono hb))
    generalize transL N cs f (t++[(j:Int)])=T at HEX HG1 HLEN
    clear hlen1
    go_wp2_with (first|(go_at_call 68;(with_reducible refine HTT.out.mono ?_);rintro _ w8 ⟨rfl,hb8⟩;clear x0 x1 x2 xl;obtain ⟨x0,x1,x2,xl⟩:=c3_of (keepq (keep_trans HB7.out hb8) FQ.out))|(go_at_call 142;(with_reducible refine (HEX.out _ hb8).mono ?_);rintro _ w9 ⟨v9,pre9,rfl,hR9,hM9,hb9⟩;obtain ⟨a9,c9,rfl⟩:=owns_shape hR9.1;have hRq:=(HR7.out.below hb8).below hb9;have HL9:Hid (pre9.length=T.length):=(by unfold Hid;rw[← hM9,List.length_map]))|(at_builtin;refine wpList_append_any _ rfl _ _ 40 rfl W0.heap.size 22 i2 (.slice none 0 0) 24 Tryz.underlying40 hi2 hy0 hy1 hy2 rfl _ pre.length (pre.map Prod.fst) rfl hRq.1 (by have:=HB7.out.size;have:=hb8.size;have:=hb9.size;omega) a9 pre9.length c9 (pre9.map Prod.fst) rfl (by rw[List.length_map]) (src_of_owns hR9.1) (fun u hu=>by obtain ⟨y,hy,rfl⟩:=List.mem_map.1 hu;obtain ⟨a5,c5,e5⟩:=owns_shape (hR9.2.2 y hy).1;rw[e5];rfl) (by have:=HLEN.out;have:=HL9.out;unfold maxLen;omega) (by have:=HLEN.out;have:=HL9.out;omega) ?_;intro v10 w10 hown10 hst10 hk10;obtain ⟨a10,c10,rfl⟩:=owns_shape hown10)|fail)
    have hs78:=HB7.out.size
    have hs8:=hb8.size
    have hs9:=hb9.size
    have hR10:=RowsI.appendL hRq (pre2:=pre9) (fun x hx=>⟨owns_base (hR9.2.2 x hx).1 (by omega),fun k e e2=>by
     have h1:=((hR9.2.2 x hx).1.lt k e).1
     have h2:=(HR7.out.1.lt k e2).2
     omega⟩) hst10 hown10 hk10
    have hB10:Below W0.heap.size W0 w10:=hst10.below' (by omega) (keep_trans (keep_trans HB7.out hb8) hb9) (fun k e=>(hRq.1.lt k e).1)
    go_roundw
    case rel=>exact ⟨j+1,pre++pre9,a10,c10,by omega,by go_num,by rw[List.length_append],by rw[List.length_append];exact hR10,by rw[List.map_append,hM.out,hM9];exact HG1.out.symm,hB10⟩
    case measure=>simp[intOf];omega
  ·have e:j=N:=by omega
   have hji:¬(j:Int)<(N:Int):=by omega
   have HMN:Hid (pre.map Prod.snd=extG N cs f t N):=by unfold Hid;rw[hM.out,e]
   clear e
   go_wp2_with fail
   refine bodyPost_ret (v := .slice av pre.length cv) ?_ rfl ⟨_,pre,rfl,hR.out.base hw0,HMN.out,keep_trans FB.out hbr.out⟩
   simp[results,Tryz.f142,go_sem]
theorem rext_c (N nn:Nat) (cs:List Int) (hN1:1≤N) (hN2:N≤7) (hnn:nn=N*N):∀f,ExtS N nn cs f
 | 0=>rext_zero N nn cs (by omega)
 | f+1=>rext_succ N nn cs hN1 hN2 hnn f (rext_c N nn cs hN1 hN2 hnn f)
theorem rTransv_c (N nn:Nat) (a:Option Addr) (ca:Nat) (cs:List Int) (w:World) (h:IC w a nn cs) (hN1:1≤N) (hN2:N≤7) (hnn:nn=N*N) :
  Calls Tryz.prog 69 #[.agg #[.int .i64 (N:Int),.int .i64 (N:Int),.slice a nn ca]] w fun e w'=>∃a9 c9,e = .returned (.slice a9 (transL N cs N []).length c9)∧RC w' a9 (transL N cs N []).length (transL N cs N [])∧Below w.heap.size w w':=by
 have HE:=Lib.hid (fun W (hb:Below w.heap.size w W)=>rext_c N nn cs hN1 hN2 hnn N a ca none 0 0 [] W (h.mono hb) ⟨⟨rfl,by omega⟩,fun k hk=>absurd hk (by omega)⟩ (by omega) (fun y hy=>by cases hy))
 have HL:Hid ((transL N cs N []).length≤1000000):=Nat.le_trans (tr_len N cs N []).1 (Nat.le_trans (Nat.pow_le_pow_left hN2 N) (Nat.le_trans (Nat.pow_le_pow_right (by omega) hN2) (by decide)))
 have HEL:Hid (∀x,x∈transL N cs N []→x.length≤100):=fun x hx=>by have:=tr_el_len hx;rw[this];simp;omega
 generalize transL N cs N []=T at HE HL HEL ⊢
 have HI:=Lib.hid h
 clear h hnn
 have hq:∀{e w'} {W:World},Below w.heap.size w W→ExtE W T e w'→∃a9 c9,e = .returned (.slice a9 T.length c9)∧RC w' a9 T.length T∧Below w.heap.size w w':=fun {e w' W} hb hg=>by
  obtain ⟨v,pre,he,hR,hM,hB⟩:=hg
  have hl:pre.length=T.length:=by rw[← hM,List.length_map]
  obtain ⟨a9,c9,rfl,hrc,_⟩:=hR.rc (by have:=HL.out;omega) (fun x hx=>by
   have:=HEL.out x.2 (by rw[← hM];exact List.mem_map_of_mem hx)
   omega)
  rw[hM,hl] at hrc
  rw[hl] at he
  exact ⟨a9,c9,he,hrc,keep_trans hb hB⟩
 have HQ:Hid (∀{e:Ending} {w' W:World},Below w.heap.size w W→ExtE W T e w'→∃a9 c9,e = .returned (.slice a9 T.length c9)∧RC w' a9 T.length T∧Below w.heap.size w w'):=@hq
 clear hq
 go_enter Tryz.func69,Tryz.ntmps69
 go_upto_region 1 with fail
 have fB:Below w.heap.size w (w.alloc (.cells #[.int .i64 (N:Int),.int .i64 (N:Int),.slice a nn ca] 24)):=(Below.refl _ _).alloc (Nat.le_refl _) _
 have FQ:Hid ((w.alloc (.cells #[.int .i64 (N:Int),.int .i64 (N:Int),.slice a nn ca] 24)).heap[w.heap.size]?=some (.cells #[.int .i64 (N:Int),.int .i64 (N:Int),.slice a nn ca] 24 (0,0))):=World.alloc_heap_new _ _
 generalize (w.alloc (.cells #[.int .i64 (N:Int),.int .i64 (N:Int),.slice a nn ca] 24))=W0 at fB FQ ⊢
 obtain ⟨x0,x1,x2,xl⟩:=c3_of FQ.out
 have FB:=Lib.hid fB
 clear fB
 go_wp2_with (first|(go_at_call 142;(with_reducible refine (HE.out _ FB.out).mono ?_);intro e9 w9 hg9;obtain ⟨a9,c9,rfl,hr9,hb9⟩:=HQ.out FB.out hg9)|fail)
 refine bodyPost_ret (v := .slice a9 T.length c9) ?_ rfl ⟨a9,c9,rfl,hr9,hb9⟩
 simp[results,Tryz.f69,go_sem]
theorem llists_t (a:Option Addr) (n c:Nat) (xss:List (List Int)) (a2:Option Addr) (c2:Nat) (w:World) (h:RC w a n xss) (h2:RC w a2 n xss) :
  Calls Tryz.prog 70 #[.slice a n c,.slice a2 n c2] w fun e w'=>e = .returned (.bool true)∧Below w.heap.size w w':=by
 have H1:=Lib.hid h
 have H2:=Lib.hid h2
 have hsm:=h.1.2
 have hne:((n:Int) != (n:Int))=false:=by simp
 clear h h2
 go_enter Tryz.func70,Tryz.ntmps70
 go_wp2_with fail
 go_loopw [5,13] (fun _ s13 wr=>∃k:Nat,k≤n∧s13 = .int .i64 (k:Int)∧Below w.heap.size w wr) (fun _ s13 _=>n - (intOf s13).toNat)
 case atStart=>exact ⟨0,by omega,rfl,Below.refl _ _⟩
 case round =>
  obtain ⟨k,hk,rfl,hbr⟩:=hrel
  by_cases hlt:k<n
  ·have hki:(k:Int)<(n:Int):=by omega
   obtain ⟨b,off,ax,nx,cx,rfl,hl,hc,hi,_⟩:=H1.out.2 k hlt
   obtain ⟨b2,off2,ay,ny,cy,rfl,hl2,hc2,hi2,_⟩:=H2.out.2 k hlt
   have g1:=(hbr.cell (p:=⟨b,off+k,none⟩) hl).trans hc
   have g2:=(hbr.cell (p:=⟨b2,off2+k,none⟩) hl2).trans hc2
   have l1:=Nat.lt_of_lt_of_le hl hbr.size
   have l2:=Nat.lt_of_lt_of_le hl2 hbr.size
   have HS:=Lib.hid (fun W (hb:Below wr.heap.size wr W)=>same_c ax ay nx ny cx cy _ _ W (hi.mono (keep_trans hbr hb)) (hi2.mono (keep_trans hbr hb)))
   rw[show sameB (xss[k]?.getD []) (xss[k]?.getD [])=true from decide_eq_true rfl] at HS
   clear hc hc2 hi hi2
   go_wp2_with fail
   refine wp_region_S (fun w'=>∃u,w'=over (wr) u) [] [(0,0),(0,1),(0,2),(0,3),(0,4),(0,5),(0,6),(0,7),(1,8),(0,9)] (by kernel_rfl) (by kernel_rfl) (by exact ⟨_,below_over (by repeat (first|assumption|exact Below.refl _ _|refine keep_drew ?_|refine keep_alloc ?_ _|refine keep_trans ?_ (by assumption)))⟩) ?_
   dsimp only[pickOps,nthOp]
   repeat (first|(refine wpS_skip rfl (fun K hK=>?_);go_big_quiet_op;refine hK _ ?_;clear hK K)|(refine wpS_quiet rfl rfl (fun K hK=>?_);go_big_quiet_op;refine hK _ ?_;clear hK K)|(refine wpS_loud ?_;go_wp2_with (first|(go_at_call 38;refine (HS.out _ (by (repeat (first|assumption|exact Below.refl _ _|refine keep_drew ?_|refine keep_alloc ?_ _|refine keep_trans ?_ (by assumption))))).mono ?_;rintro _ w5 ⟨rfl,hb5⟩)|fail);refine ⟨?_,?_⟩;focus (exact ⟨_,below_over (by repeat (first|assumption|exact Below.refl _ _|refine keep_drew ?_|refine keep_alloc ?_ _|refine keep_trans ?_ (by assumption)))⟩)))
   refine wpS_end ?_
   go_wp2_with fail
   go_roundw
   case rel=>exact ⟨k+1,by omega,by go_num,keep_trans hbr (show Below wr.heap.size wr w5 by (repeat (first|assumption|exact Below.refl _ _|refine keep_drew ?_|refine keep_alloc ?_ _|refine keep_trans ?_ (by assumption))))⟩
   case measure=>simp[intOf];omega
  ·have hno:¬(k:Int)<(n:Int):=by omega
   go_wp2_with fail
   refine bodyPost_ret (v := .bool true) ?_ rfl ⟨rfl,hbr⟩
   simp[results,Tryz.f70,go_sem]
end
end Go.Proofs.YtmfpdakaeagdpaaGreat
