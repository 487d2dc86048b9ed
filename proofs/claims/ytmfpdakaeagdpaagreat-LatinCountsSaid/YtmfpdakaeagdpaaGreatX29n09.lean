/- Texts J155 to J155 of this proof, in one file. -/
import Derived.Test.YtmfpdakaeagdpaaGreatW01
import Derived.Test.YtmfpdakaeagdpaaGreatW02
import Derived.Test.YtmfpdakaeagdpaaGreatW03
import Derived.Test.YtmfpdakaeagdpaaGreatW04
import Derived.Test.YtmfpdakaeagdpaaGreatW05
import Derived.Test.YtmfpdakaeagdpaaGreatW06
import Derived.Test.YtmfpdakaeagdpaaGreatW07
import Derived.Test.YtmfpdakaeagdpaaGreatW08
import Derived.Test.YtmfpdakaeagdpaaGreatW09
import Derived.Test.YtmfpdakaeagdpaaGreatW10
import Derived.Test.YtmfpdakaeagdpaaGreatW11
import Derived.Test.YtmfpdakaeagdpaaGreatW12
import Derived.Test.YtmfpdakaeagdpaaGreatW13
import Derived.Test.YtmfpdakaeagdpaaGreatW14
import Derived.Test.YtmfpdakaeagdpaaGreatW15
import Derived.Test.YtmfpdakaeagdpaaGreatW16
import Derived.Test.YtmfpdakaeagdpaaGreatW17
import Derived.Test.YtmfpdakaeagdpaaGreatW18
import Derived.Test.YtmfpdakaeagdpaaGreatW19
import Derived.Test.YtmfpdakaeagdpaaGreatW20
import Derived.Test.YtmfpdakaeagdpaaGreatW21
import Derived.Test.YtmfpdakaeagdpaaGreatW22
import Derived.Test.YtmfpdakaeagdpaaGreatW23
import Derived.Test.YtmfpdakaeagdpaaGreatW24
import Derived.Test.YtmfpdakaeagdpaaGreatW25
import Derived.Test.YtmfpdakaeagdpaaGreatW26
import Derived.Test.YtmfpdakaeagdpaaGreatW27
import Derived.Test.YtmfpdakaeagdpaaGreatX29n01
import Derived.Test.YtmfpdakaeagdpaaGreatX29n02
import Derived.Test.YtmfpdakaeagdpaaGreatX29n03
import Derived.Test.YtmfpdakaeagdpaaGreatX29n04
import Derived.Test.YtmfpdakaeagdpaaGreatX29n05
import Derived.Test.YtmfpdakaeagdpaaGreatX29n06
import Derived.Test.YtmfpdakaeagdpaaGreatX29n07
import Derived.Test.YtmfpdakaeagdpaaGreatX29n08
import Derived.Below
import Derived.BigFrame
import Derived.BigQuiet
import Derived.Deep.CutBlock
import Derived.Deep.CutRange
import Derived.Deep.LoopGhost
import Derived.Deep.Quiet
import Derived.Deep.RegionHeld3
import Derived.DeepKeys4
import Derived.KernelRfl
import Derived.Laws.BitsAllLaws
import Derived.Laws.EntriesVeiled
import Derived.Lib.AppendZeros
import Derived.Lib.Hide
import Derived.Lib.SlKeysI
import Derived.Lib.SliceRun
import Derived.LoopIn
import Derived.LoopNIn
import Derived.Maps.AppendAt
import Derived.Maps.OwnIn
import Derived.Maps.OwnSet
import Derived.OneCell
import Derived.OrdersHeld
import Derived.OrdersIn
import Derived.OwnWalkIn
import Derived.RangeFuncBound
import Derived.RangeFuncBox
import Derived.RangeFuncCalls
import Derived.RangeFuncLeaves
import Derived.RangeFuncNested
import Derived.RangeFuncWrites
import Derived.Shelf.Abstract
import Derived.Shelf.SortM.Plain
import Derived.Still
import Derived.TacticsIn
import Derived.TacticsInMore
import Derived.Test.YtmfpdakaeagdpaaGreatProg
import Derived.WalkKit
import Derived.WalkLawsBesides
import Derived.WalkSpells
import Derived.WideKeyPair
namespace Go.Proofs.YtmfpdakaeagdpaaGreat
set_option maxRecDepth 100000
set_option maxHeartbeats 16000000
section
open Go Go.RowKit
theorem names_sc {w:World} {l:List ByteArray} {e:Ending} {w':World} (h:NamesE w l e w') (hl:l.length≤1000):∃a c,e = .returned (.slice a l.length c)∧SC w' a l.length l∧Below w.heap.size w w':=by
 obtain ⟨a,c,he,ho,hb⟩:=h
 refine ⟨a,c,he,⟨⟨rfl,hl⟩,fun k hk=>?_⟩,hb⟩
 obtain ⟨g,cap,x,hv,hx,hc,_,hg,_⟩:=owns_free ho k hk
 simp only[Value.slice.injEq,true_and] at hv
 obtain ⟨rfl,_⟩:=hv
 refine ⟨g,0,rfl,hg,?_⟩
 rw[List.getElem?_map,List.getElem?_eq_getElem hk,Option.map_some] at hx
 rw[Nat.zero_add,hc,List.getElem?_eq_getElem hk,Option.getD_some]
 exact hx.symm
theorem kinds_sl {w:World} {l:List ByteArray} {er:Int} {e:Ending} {w':World} (h:KindsE w l er e w') (hl:l.length≤1000):∃a c,e = .returned (.tuple #[.slice a l.length c,.int .i64 er])∧SC w' a l.length l∧Below w.heap.size w w':=by
 obtain ⟨a,c,he,ho,hb⟩:=h
 obtain ⟨a2,c2,h1,h2,h3⟩:=names_sc (e := .returned (.slice a l.length c)) ⟨a,c,rfl,ho,hb⟩ hl
 injection h1 with h1
 injection h1 with h4 _ h5
 subst h4
 exact ⟨a,c,he,h2,hb⟩
theorem ord_num {m:Int} (h:ordE m=0):1≤m∧m≤16:=by
 by_cases h1:1≤m∧m≤16
 ·exact h1
 ·have:ordE m=3:=by
   unfold ordE whenV
   by_cases h2:1≤m
   ·rw[decide_eq_false (show ¬m≤16 by omega),Bool.and_false];rfl
   ·rw[decide_eq_false h2];rfl
  rw[this] at h
  exact absurd h (by decide)
theorem red_L {m:Int} (ho:ordE m=0) (h5:5<m) (W:World):Calls Tryz.prog 75 #[.int .i64 m] W fun e w'=>e = .returned (.tuple #[.slice none 0 0,.int .i64 20])∧Below W.heap.size W w' :=
 allred_bad m 20 (by rw[ho,decide_eq_true h5];rfl) (by decide) W
theorem lcounts_c (r C:Int) (a:Option Addr) (n c:Nat) (cs:List Int) (r2 C2:Int) (a2:Option Addr) (n2 c2:Nat) (ds:List Int) (m:Int) (w:World) (h:IC w a n cs) (hc:n≤c) (h2:IC w a2 n2 ds) (_hc2:n2≤c2) :
  Calls Tryz.prog 14 #[.agg #[.int .i64 r,.int .i64 C,.slice a n c],.agg #[.int .i64 r2,.int .i64 C2,.slice a2 n2 c2],.int .i64 m] w fun e w'=>e = .returned (.bool true)∧Below w.heap.size w w':=by
 by_cases g0:100<n
 ·exact lcounts_g0 r C a n c r2 C2 a2 n2 c2 m w g0
 by_cases g1:100<n2
 ·exact lcounts_g1 r C a n c r2 C2 a2 n2 c2 m w g0 g1
 have HA:=fun W (hb:Below w.heap.size w W)=>rcheck_c r C a n c cs W (h.mono hb)
 have HB:=fun W (hb:Below w.heap.size w W)=>rcheck_c r2 C2 a2 n2 c2 ds W (h2.mono hb)
 have H1:=fun W (hb:Below w.heap.size w W)=>product_c r C a n c cs r2 C2 a2 n2 c2 ds W (h.mono hb) (h2.mono hb)
 have H2:=fun W (hb:Below w.heap.size w W)=>inter_c r C a n c cs W (h.mono hb)
 have H3:=fun W (hb:Below w.heap.size w W)=>Kinds_c r C a n c cs W (h.mono hb) hc
 have H5:=fun W=>lorder_c m W
 by_cases e0:sqE 0 r C cs=0
 case neg =>
  have f1:proE r C cs r2 C2 ds=sqE 0 r C cs:=by
   unfold proE
   rw[firstL_ne e0,if_neg e0]
  have l1:proL r C cs r2 C2 ds=[]:=if_neg (by rw[f1];exact e0)
  have l3:kiL r C cs=[]:=if_neg e0
  rw[f1,if_neg e0,l1] at H1
  rw[l3] at H3
  have H1':=fun W (hb:Below w.heap.size w W)=>(H1 W hb).mono fun e w' hg=>ge_of hg (by decide)
  have H3':=fun W (hb:Below w.heap.size w W)=>(H3 W hb).mono fun e w' hg=>kinds_sl hg (by decide)
  have H2':=H2
  rw[show inL r C cs=0 from if_neg e0,show inE r C cs=sqE 0 r C cs from rfl] at H2'
  by_cases ho:ordE m=0
  case neg=>exact lcounts_A r C a n c r2 C2 a2 n2 c2 m w g0 g1 0 0 [] _ _ _ 0 0 [] (by omega) (.inl ⟨ho,rfl⟩) (fun _=>⟨rfl,rfl⟩) _ e0 (made_bad e0) H1' H2' H3' (fun W _=>(allred_bad m (ordE m) (firstL_ne ho) ho W).mono fun e w x=>⟨none,0,x.1,gl_nil _ _,x.2⟩) (fun h=>absurd h ho) H5 HA
  rw[ho] at H5
  by_cases hm5:5<m
  ·exact lcounts_A r C a n c r2 C2 a2 n2 c2 m w g0 g1 0 0 [] _ _ _ 0 0 [] (by omega) (.inr (.inl ⟨rfl,hm5,rfl⟩)) (fun _=>⟨rfl,rfl⟩) _ e0 (made_bad e0) H1' H2' H3' (fun W _=>(red_L ho hm5 W).mono fun e w x=>⟨none,0,x.1,gl_nil _ _,x.2⟩) (fun h=>absurd h (by decide)) H5 HA
  ·obtain ⟨k,rfl⟩:∃k:Nat,m=(k:Int):=⟨m.toNat,by have:=ord_num ho;omega⟩
   have hk1:1≤k:=by have:=ord_num ho;omega
   have hk5:k≤5:=by omega
   have hl:=red_cnt k hk1 hk5
   exact lcounts_A r C a n c r2 C2 a2 n2 c2 (k:Int) w g0 g1 0 0 [] _ _ _ k (redC k).length (redC k) (by omega) (.inr (.inr ⟨rfl,hm5,rfl⟩)) (fun h=>absurd rfl h) _ e0 (made_bad e0) H1' H2' H3' (fun W _=>allred_c k hk1 hk5 W) (fun _ W _=>rReduced_c k (k*k) rfl hk1 hk5 W) H5 HA
 rw[e0] at HA
 obtain ⟨N,rfl,rfl,L⟩:=sqE_ok e0
 have hn:n=N*N:=by rw[← h.len];exact L.len
 have hN1:=L.pos
 have hN2:=L.le
 have hkn:=kNames_len N cs
 have H2':=H2
 rw[show inL (N:Int) (N:Int) cs=(itK N cs N:Int) from if_pos e0,show inE (N:Int) (N:Int) cs=0 from e0] at H2'
 rw[show kiL (N:Int) (N:Int) cs=kNames N cs 7 from if_pos e0,e0] at H3
 have H3':=fun W (hb:Below w.heap.size w W)=>(H3 W hb).mono fun e w' hg=>kinds_sl hg hkn
 have HN:=fun W (hb:Below w.heap.size w W)=>(rkinds_c N n hn a c cs W (h.mono hb) hc L).mono fun e w' hg=>names_sc hg hkn
 have HI:=fun W (hb:Below w.heap.size w W)=>rinter_c N n hn a c cs W (h.mono hb) L
 by_cases e1:sqE 0 r2 C2 ds=0
 case neg =>
  have f0:firstL [sqE 0 (N:Int) (N:Int) cs,sqE 0 r2 C2 ds]=sqE 0 r2 C2 ds:=by rw[e0];exact first1 _
  have f1:proE (N:Int) (N:Int) cs r2 C2 ds=sqE 0 r2 C2 ds:=by
   unfold proE
   rw[f0,if_neg e1]
  have l1:proL (N:Int) (N:Int) cs r2 C2 ds=[]:=if_neg (by rw[f1];exact e1)
  rw[f1,if_neg e1,l1] at H1
  have H1':=fun W (hb:Below w.heap.size w W)=>(H1 W hb).mono fun e w' hg=>ge_of hg (by decide)
  by_cases ho:ordE m=0
  case neg=>exact lcounts_B (N:Int) (N:Int) a n c r2 C2 a2 n2 c2 m w g0 g1 0 0 [] _ (itK N cs N:Int) _ (kNames N cs 7) _ _ 0 0 [] (by omega) (.inl ⟨ho,rfl⟩) (fun _=>⟨rfl,rfl⟩) _ e1 (made_bad e1) H1' H2' H3' (fun W _=>(allred_bad m (ordE m) (firstL_ne ho) ho W).mono fun e w x=>⟨none,0,x.1,gl_nil _ _,x.2⟩) (fun h=>absurd h ho) H5 HA HB HN HI
  rw[ho] at H5
  by_cases hm5:5<m
  ·exact lcounts_B (N:Int) (N:Int) a n c r2 C2 a2 n2 c2 m w g0 g1 0 0 [] _ (itK N cs N:Int) _ (kNames N cs 7) _ _ 0 0 [] (by omega) (.inr (.inl ⟨rfl,hm5,rfl⟩)) (fun _=>⟨rfl,rfl⟩) _ e1 (made_bad e1) H1' H2' H3' (fun W _=>(red_L ho hm5 W).mono fun e w x=>⟨none,0,x.1,gl_nil _ _,x.2⟩) (fun h=>absurd h (by decide)) H5 HA HB HN HI
  ·obtain ⟨k,rfl⟩:∃k:Nat,m=(k:Int):=⟨m.toNat,by have:=ord_num ho;omega⟩
   have hk1:1≤k:=by have:=ord_num ho;omega
   have hk5:k≤5:=by omega
   have hl:=red_cnt k hk1 hk5
   exact lcounts_B (N:Int) (N:Int) a n c r2 C2 a2 n2 c2 (k:Int) w g0 g1 0 0 [] _ (itK N cs N:Int) _ (kNames N cs 7) _ _ k (redC k).length (redC k) (by omega) (.inr (.inr ⟨rfl,hm5,rfl⟩)) (fun h=>absurd rfl h) _ e1 (made_bad e1) H1' H2' H3' (fun W _=>allred_c k hk1 hk5 W) (fun _ W _=>rReduced_c k (k*k) rfl hk1 hk5 W) H5 HA HB HN HI
 rw[e1] at HB
 obtain ⟨M,rfl,rfl,L'⟩:=sqE_ok e1
 have hn2:n2=M*M:=by rw[← h2.len];exact L'.len
 have hM2:=L'.le
 have hNM:=Nat.mul_le_mul hN2 hM2
 have f0:firstL [sqE 0 (N:Int) (N:Int) cs,sqE 0 (M:Int) (M:Int) ds]=0:=by rw[e0,e1];rfl
 have hK:(N:Int)*(M:Int)=((N*M:Nat):Int):=(Int.natCast_mul _ _).symm
 by_cases hbig:16<N*M
 ·have f1:proE (N:Int) (N:Int) cs (M:Int) (M:Int) ds=20:=by
   unfold proE
   rw[if_pos f0,if_pos (by rw[hK];omega)]
  have l1:proL (N:Int) (N:Int) cs (M:Int) (M:Int) ds=[]:=if_neg (by rw[f1];decide)
  rw[f1,if_neg (by decide),l1] at H1
  have H1':=fun W (hb:Below w.heap.size w W)=>(H1 W hb).mono fun e w' hg=>ge_of hg (by decide)
  by_cases ho:ordE m=0
  case neg=>exact lcounts_L (N:Int) (N:Int) a n c (M:Int) (M:Int) a2 n2 c2 m w g0 g1 0 0 [] _ (itK N cs N:Int) _ (kNames N cs 7) _ _ 0 0 [] (by omega) (.inl ⟨ho,rfl⟩) (fun _=>⟨rfl,rfl⟩) ((N*M:Nat):Int) hK (by omega) (by omega) (made_bad (by decide)) H1' H2' H3' (fun W _=>(allred_bad m (ordE m) (firstL_ne ho) ho W).mono fun e w x=>⟨none,0,x.1,gl_nil _ _,x.2⟩) (fun h=>absurd h ho) H5 HA HB HN HI
  rw[ho] at H5
  by_cases hm5:5<m
  ·exact lcounts_L (N:Int) (N:Int) a n c (M:Int) (M:Int) a2 n2 c2 m w g0 g1 0 0 [] _ (itK N cs N:Int) _ (kNames N cs 7) _ _ 0 0 [] (by omega) (.inr (.inl ⟨rfl,hm5,rfl⟩)) (fun _=>⟨rfl,rfl⟩) ((N*M:Nat):Int) hK (by omega) (by omega) (made_bad (by decide)) H1' H2' H3' (fun W _=>(red_L ho hm5 W).mono fun e w x=>⟨none,0,x.1,gl_nil _ _,x.2⟩) (fun h=>absurd h (by decide)) H5 HA HB HN HI
  ·obtain ⟨k,rfl⟩:∃k:Nat,m=(k:Int):=⟨m.toNat,by have:=ord_num ho;omega⟩
   have hk1:1≤k:=by have:=ord_num ho;omega
   have hk5:k≤5:=by omega
   have hl:=red_cnt k hk1 hk5
   exact lcounts_L (N:Int) (N:Int) a n c (M:Int) (M:Int) a2 n2 c2 (k:Int) w g0 g1 0 0 [] _ (itK N cs N:Int) _ (kNames N cs 7) _ _ k (redC k).length (redC k) (by omega) (.inr (.inr ⟨rfl,hm5,rfl⟩)) (fun h=>absurd rfl h) ((N*M:Nat):Int) hK (by omega) (by omega) (made_bad (by decide)) H1' H2' H3' (fun W _=>allred_c k hk1 hk5 W) (fun _ W _=>rReduced_c k (k*k) rfl hk1 hk5 W) H5 HA HB HN HI
 ·have f1:proE (N:Int) (N:Int) cs (M:Int) (M:Int) ds=0:=by
   unfold proE
   rw[if_pos f0,if_neg (by rw[hK];omega)]
  have l1:proL (N:Int) (N:Int) cs (M:Int) (M:Int) ds=proC N M cs ds:=by
   unfold proL
   rw[if_pos f1,Int.toNat_natCast,Int.toNat_natCast];rfl
  rw[f1,if_pos rfl,l1,hK] at H1
  have hmm:=Nat.mul_le_mul (show N*M≤16 by omega) (show N*M≤16 by omega)
  have hlen:(proC N M cs ds).length≤1000:=by rw[proC_len];omega
  have H1':=fun W (hb:Below w.heap.size w W)=>(H1 W hb).mono fun e w' hg=>ge_of hg hlen
  have HR:=fun W (hb:Below w.heap.size w W)=>(rprod_c N M n n2 (N*M) (N*M*(N*M)) hn hn2 rfl rfl (by omega) a c cs a2 c2 ds W (h.mono hb) (h2.mono hb) L L').mono fun e w' hg=>gr_of hg (by omega)
  by_cases ho:ordE m=0
  case neg=>exact lcounts_P (N:Int) (N:Int) a n c (M:Int) (M:Int) a2 n2 c2 m w g0 g1 ((N*M:Nat):Int) _ (proC N M cs ds) 0 (itK N cs N:Int) _ (kNames N cs 7) _ _ 0 0 [] (by omega) (.inl ⟨ho,rfl⟩) (fun _=>⟨rfl,rfl⟩) ((N*M:Nat):Int) hK (by omega) (by omega) _ (proC N M cs ds) (made_eq _ _) H1' H2' H3' (fun W _=>(allred_bad m (ordE m) (firstL_ne ho) ho W).mono fun e w x=>⟨none,0,x.1,gl_nil _ _,x.2⟩) (fun h=>absurd h ho) H5 HA HB HR HN HI
  rw[ho] at H5
  by_cases hm5:5<m
  ·exact lcounts_P (N:Int) (N:Int) a n c (M:Int) (M:Int) a2 n2 c2 m w g0 g1 ((N*M:Nat):Int) _ (proC N M cs ds) 0 (itK N cs N:Int) _ (kNames N cs 7) _ _ 0 0 [] (by omega) (.inr (.inl ⟨rfl,hm5,rfl⟩)) (fun _=>⟨rfl,rfl⟩) ((N*M:Nat):Int) hK (by omega) (by omega) _ (proC N M cs ds) (made_eq _ _) H1' H2' H3' (fun W _=>(red_L ho hm5 W).mono fun e w x=>⟨none,0,x.1,gl_nil _ _,x.2⟩) (fun h=>absurd h (by decide)) H5 HA HB HR HN HI
  ·obtain ⟨k,rfl⟩:∃k:Nat,m=(k:Int):=⟨m.toNat,by have:=ord_num ho;omega⟩
   have hk1:1≤k:=by have:=ord_num ho;omega
   have hk5:k≤5:=by omega
   have hl:=red_cnt k hk1 hk5
   exact lcounts_P (N:Int) (N:Int) a n c (M:Int) (M:Int) a2 n2 c2 (k:Int) w g0 g1 ((N*M:Nat):Int) _ (proC N M cs ds) 0 (itK N cs N:Int) _ (kNames N cs 7) _ _ k (redC k).length (redC k) (by omega) (.inr (.inr ⟨rfl,hm5,rfl⟩)) (fun h=>absurd rfl h) ((N*M:Nat):Int) hK (by omega) (by omega) _ (proC N M cs ds) (made_eq _ _) H1' H2' H3' (fun W _=>allred_c k hk1 hk5 W) (fun _ W _=>rReduced_c k (k*k) rfl hk1 hk5 W) H5 HA HB HR HN HI
end
end Go.Proofs.YtmfpdakaeagdpaaGreat
