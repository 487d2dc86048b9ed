/- Texts J159 to Reg8 of this proof, in one file. -/
import Derived.Test.YtmfpdakaeagdpaaGreatW01
import Derived.Test.YtmfpdakaeagdpaaGreatW02
import Derived.Test.YtmfpdakaeagdpaaGreatW03
import Derived.Test.YtmfpdakaeagdpaaGreatW04
import Derived.Test.YtmfpdakaeagdpaaGreatW05
import Derived.Test.YtmfpdakaeagdpaaGreatW06
import Derived.Test.YtmfpdakaeagdpaaGreatW07
import Derived.Test.YtmfpdakaeagdpaaGreatW08
import Derived.Test.YtmfpdakaeagdpaaGreatW09
import Derived.Test.YtmfpdakaeagdpaaGreatW10
import Derived.Test.YtmfpdakaeagdpaaGreatW11
import Derived.Test.YtmfpdakaeagdpaaGreatW12
import Derived.Test.YtmfpdakaeagdpaaGreatW13
import Derived.Test.YtmfpdakaeagdpaaGreatW14
import Derived.Test.YtmfpdakaeagdpaaGreatW15
import Derived.Test.YtmfpdakaeagdpaaGreatW16
import Derived.Test.YtmfpdakaeagdpaaGreatW17
import Derived.Test.YtmfpdakaeagdpaaGreatW18
import Derived.Test.YtmfpdakaeagdpaaGreatW19
import Derived.Test.YtmfpdakaeagdpaaGreatW20
import Derived.Test.YtmfpdakaeagdpaaGreatW21
import Derived.Test.YtmfpdakaeagdpaaGreatW22
import Derived.Test.YtmfpdakaeagdpaaGreatW23
import Derived.Test.YtmfpdakaeagdpaaGreatW24
import Derived.Test.YtmfpdakaeagdpaaGreatW25
import Derived.Test.YtmfpdakaeagdpaaGreatW26
import Derived.Test.YtmfpdakaeagdpaaGreatW27
import Derived.Test.YtmfpdakaeagdpaaGreatX30n01
import Derived.Test.YtmfpdakaeagdpaaGreatX30n02
import Derived.Test.YtmfpdakaeagdpaaGreatX30n03
import Derived.Below
import Derived.BigFrame
import Derived.BigQuiet
import Derived.Deep.CutBlock
import Derived.Deep.CutRange
import Derived.Deep.LoopGhost
import Derived.Deep.Quiet
import Derived.Deep.RegionHeld3
import Derived.DeepKeys4
import Derived.KernelRfl
import Derived.Laws.BitsAllLaws
import Derived.Laws.EntriesVeiled
import Derived.Lib.AppendZeros
import Derived.Lib.Hide
import Derived.Lib.SlKeysI
import Derived.Lib.SliceRun
import Derived.LoopIn
import Derived.LoopNIn
import Derived.Maps.AppendAt
import Derived.Maps.OwnIn
import Derived.Maps.OwnSet
import Derived.OneCell
import Derived.OrdersHeld
import Derived.OrdersIn
import Derived.OwnWalkIn
import Derived.RangeFuncBound
import Derived.RangeFuncBox
import Derived.RangeFuncCalls
import Derived.RangeFuncLeaves
import Derived.RangeFuncNested
import Derived.RangeFuncWrites
import Derived.Shelf.Abstract
import Derived.Shelf.SortM.Plain
import Derived.Still
import Derived.TacticsIn
import Derived.TacticsInMore
import Derived.Test.YtmfpdakaeagdpaaGreatProg
import Derived.WalkKit
import Derived.WalkLawsBesides
import Derived.WalkSpells
import Derived.WideKeyPair
namespace Go.Proofs.YtmfpdakaeagdpaaGreat
set_option maxRecDepth 100000
set_option maxHeartbeats 16000000
section
open Go Go.RowKit
attribute [local go_sem] over_cell
attribute [local go_sem] Oper.semAt_some
def NB (p:Nat) (l:List Int):Prop:=∀i:Nat,∃X:Nat,l[i]?.getD 0=(X:Int)∧X<p
theorem NB.set {p:Nat} {l:List Int} (h:NB p l) (_hp:1≤p) (k:Nat) {m:Nat} (hm:m<p):NB p (l.set k (m:Int)):=fun i=>by
 by_cases hk:k<l.length
 ·rw[iset_get hk]
  split
  ·exact ⟨m,rfl,hm⟩
  ·exact h i
 ·rw[List.set_eq_of_length_le (by omega)]
  exact h i
theorem NB.mod {p:Nat} (hp:1≤p) {l:List Int} (h:NB p l) (k:Nat) (A B C:Nat):NB p (l.set k (((A:Int)+(B:Int)*(C:Int)) % (p:Int))):=by
 have e:((A:Int)+(B:Int)*(C:Int)) % (p:Int)=((A+B*C) % p:Nat):=by rw[Int.natCast_emod];simp
 rw[e]
 exact h.set hp k (Nat.mod_lt _ (by omega))
theorem NB.zero {p:Nat} (hp:1≤p) (n:Nat):NB p (List.replicate n 0):=fun i=>⟨0,by
 rw[List.getElem?_replicate]
 split <;> rfl,by omega⟩
def rcvTo (p:Nat) (a b:List Int) (n m:Nat):List Int :=
 (List.range m).foldl (fun l t=>l.set (t / n+t % n) ((l[t / n+t % n]?.getD 0+a[t / n]?.getD 0*b[t % n]?.getD 0) % (p:Int))) (List.replicate (2*n) 0)
theorem rcvTo_succ (p:Nat) (a b:List Int) (n m:Nat):rcvTo p a b n (m+1)=(rcvTo p a b n m).set (m / n+m % n) (((rcvTo p a b n m)[m / n+m % n]?.getD 0+a[m / n]?.getD 0*b[m % n]?.getD 0) % (p:Int)):=by
 unfold rcvTo;rw[List.range_succ,List.foldl_append];rfl
theorem rcvTo_len (p:Nat) (a b:List Int) (n m:Nat):(rcvTo p a b n m).length=2*n:=by
 induction m with
 | zero=>simp[rcvTo]
 | succ m ih=>rw[rcvTo_succ,List.length_set,ih]
theorem rcvTo_nb {p:Nat} (hp:1≤p) {a b:List Int} (ha:NB p a) (hb:NB p b) (n m:Nat):NB p (rcvTo p a b n m):=by
 induction m with
 | zero=>exact NB.zero hp _
 | succ m ih =>
  rw[rcvTo_succ]
  obtain ⟨X,hX,_⟩:=ih (m / n+m % n)
  obtain ⟨Y,hY,_⟩:=ha (m / n)
  obtain ⟨Z,hZ,_⟩:=hb (m % n)
  rw[hX,hY,hZ]
  exact ih.mod hp _ X Y Z
def rrdJ (p:Nat) (z l:List Int) (n e:Nat):Nat→List Int
 | 0=>l
 | j+1=>(rrdJ p z l n e j).set (e - n+j) (((rrdJ p z l n e j)[e - n+j]?.getD 0+(rrdJ p z l n e j)[e]?.getD 0*z[j]?.getD 0) % (p:Int))
def rrdI (p:Nat) (z l:List Int) (n:Nat):Nat→List Int
 | 0=>l
 | i+1=>(rrdJ p z (rrdI p z l n i) n (2*n - 1 - i) n).set (2*n - 1 - i) 0
theorem rrdJ_len (p:Nat) (z l:List Int) (n e:Nat):∀j,(rrdJ p z l n e j).length=l.length
 | 0=>rfl
 | j+1=>by rw[rrdJ,List.length_set,rrdJ_len p z l n e j]
theorem rrdI_len (p:Nat) (z l:List Int) (n:Nat):∀i,(rrdI p z l n i).length=l.length
 | 0=>rfl
 | i+1=>by rw[rrdI,List.length_set,rrdJ_len,rrdI_len p z l n i]
theorem rrdJ_nb {p:Nat} (hp:1≤p) {z l:List Int} (hz:NB p z) (hl:NB p l) (n e:Nat):∀j,NB p (rrdJ p z l n e j)
 | 0=>hl
 | j+1=>by
  have ih:=rrdJ_nb hp hz hl n e j
  rw[rrdJ]
  obtain ⟨X,hX,_⟩:=ih (e - n+j)
  obtain ⟨Y,hY,_⟩:=ih e
  obtain ⟨Z,hZ,_⟩:=hz j
  rw[hX,hY,hZ]
  exact ih.mod hp _ X Y Z
theorem rrdI_nb {p:Nat} (hp:1≤p) {z l:List Int} (hz:NB p z) (hl:NB p l) (n:Nat):∀i,NB p (rrdI p z l n i)
 | 0=>hl
 | i+1=>by
  rw[rrdI]
  exact (rrdJ_nb hp hz (rrdI_nb hp hz hl n i) n _ n).set hp _ (m:=0) (by omega)
structure TmR (W2:World) (d cl:Nat) (xs:List Int) (W:World):Prop where
 ol:OI W W2.heap.size W2.heap.size d cl xs
 b:Below W2.heap.size W2 W
theorem TmR.set {W2:World} {d cl:Nat} {xs:List Int} {W:World} (h:TmR W2 d cl xs W) (k:Nat) (x:Int):TmR W2 d cl (xs.set k x) (W.setCell ⟨W2.heap.size,k,none⟩ (.int .i64 x)) where
 ol:=h.ol.set k x
 b:=h.b.setCell (p:=⟨W2.heap.size,k,none⟩) (Nat.le_refl _) _
theorem TmR.drew {W2:World} {d cl:Nat} {xs:List Int} {W:World} (h:TmR W2 d cl xs W):TmR W2 d cl xs W.drew where
 ol:=h.ol.drew
 b:=h.b.drew
theorem rtimes_p (n x y:Nat) (hn:n≤16) (hn1:1≤n) (hbs:bseR n=(n:Int)) (hx:x≤1000) (hy:y≤1000) (w:World) :
  Calls Tryz.prog 137 #[.int .i64 (n:Int),.int .i64 (x:Int),.int .i64 (y:Int)] w fun e w'=>e = .returned (.int .i64 ((x*y % n:Nat):Int))∧Below w.heap.size w w':=by
 have HBA:=Lib.hid (fun W=>rbase_c n hn W)
 rw[hbs] at HBA
 have HMO:=Lib.hid (fun W=>rmodu_c n W)
 have hxy:x*y≤1000*1000:=Nat.mul_le_mul hx hy
 have e1:(x:Int)*(y:Int)=((x*y:Nat):Int):=(Int.natCast_mul _ _).symm
 have e2:((x*y:Nat):Int) % (n:Int)=((x*y % n:Nat):Int):=(Int.natCast_emod _ _).symm
 have hne:(n:Int)≠0:=by omega
 generalize x*y % n=r at e2 ⊢
 generalize x*y=s at e1 e2 hxy
 clear hbs
 go_enter Tryz.func137,Tryz.ntmps137
 go_wp2_with (first|(go_at_call 135;refine (HBA.out _).mono ?_;rintro _ w1 ⟨rfl,hb1⟩)|(go_at_call 173;refine (HMO.out _).mono ?_;rintro _ w2 ⟨a2,c2,rfl,hi2,hb2⟩)|fail)
 refine bodyPost_ret (v := .int .i64 (r:Int)) ?_ rfl ⟨rfl,show Below w.heap.size w w2 by (repeat (first|assumption|exact Below.refl _ _|refine keep_drew ?_|refine keep_alloc ?_ _|refine keep_trans ?_ (by assumption)))⟩
 simp[results,Tryz.f137,go_sem]
 try exact e2
theorem rtimes_n (n p k x y:Nat) (ms:List Int) (hn:n≤16) (hne9:p≠n) (hbs:bseR n=(p:Int)) (hmd:modR n=ms) (hml:ms.length=k) (hmn:NB p ms) (hp1:1≤p) (hp2:p≤16) (hk1:1≤k) (hk:k≤4) (hx:x≤1000) (hy:y≤1000) (w:World) (R:Int)
  (hR:R=numL p ((rrdI p ms (rcvTo p (dgtL p k x) (dgtL p k y) k (k*k)) k k).take k)) (hRb:∀l:List Int,NB p l→l.length≤4→0≤numL p l∧numL p l≤1000000) :
  Calls Tryz.prog 137 #[.int .i64 (n:Int),.int .i64 (x:Int),.int .i64 (y:Int)] w fun e w'=>e = .returned (.int .i64 R)∧Below w.heap.size w w':=by
 obtain ⟨i0,hi,hz0,hz1,hz2⟩:=info_parts infoInt
 have HBA:=Lib.hid (fun W=>rbase_c n hn W)
 rw[hbs] at HBA
 have HMO:Hid (∀W,Calls Tryz.prog 173 #[.int .i64 (n:Int)] W fun e w'=>∃a c,e = .returned (.slice a k c)∧IC w' a k ms∧Below W.heap.size W w'):=fun W=>(rmodu_c n W).mono fun e w' ⟨a,c,he,hi,hb⟩=>by
  rw[hmd,hml] at he hi
  exact ⟨a,c,he,hi,hb⟩
 have hdg:∀z:Nat,z≤1000→Hid (∀W,Calls Tryz.prog 172 #[.int .i64 (z:Int),.int .i64 (p:Int),.int .i64 (k:Int)] W fun e w'=>∃a c,e = .returned (.slice a k c)∧IC w' a k (dgtL p k z)∧Below W.heap.size W w'):=fun z hz W=>by
  have hl:=dgtL_len p k z
  refine (rdig_c z p k hp1 hp2 (by omega) hz W).mono fun e w' h9=>?_
  obtain ⟨g,c,he,ho,hb⟩:=owns_oi h9 (by rw[hl];exact hk1)
  rw[hl] at he ho
  exact ⟨_,c,he,ho.ic (by omega),hb⟩
 have HDX:=hdg x hx
 have HDY:=hdg y hy
 have na:NB p (dgtL p k x):=fun i=>by have:=dgtL_num p hp1 k x i;exact ⟨((dgtL p k x)[i]?.getD 0).toNat,by omega,by omega⟩
 have nb:NB p (dgtL p k y):=fun i=>by have:=dgtL_num p hp1 k y i;exact ⟨((dgtL p k y)[i]?.getD 0).toNat,by omega,by omega⟩
 generalize dgtL p k x=A at HDX na hR
 generalize dgtL p k y=B at HDY nb hR
 have hkk:k*k≤4*4:=Nat.mul_le_mul hk hk
 have HNA:=Lib.hid na
 have HNB:=Lib.hid nb
 have HNM:=Lib.hid hmn
 have HCV:=Lib.hid (fun m=>rcvTo_nb hp1 na nb k m)
 have hcl:=rcvTo_len p A B k (k*k)
 obtain ⟨C,hC⟩:∃C,C=rcvTo p A B k (k*k):=⟨_,rfl⟩
 have hCn:NB p C:=by rw[hC];exact rcvTo_nb hp1 na nb k _
 rw[← hC] at hR hcl
 have HJ:=Lib.hid (fun i j=>rrdJ_nb hp1 hmn (rrdI_nb hp1 hmn hCn k i) k (2*k - 1 - i) j)
 have hfin:NB p ((rrdI p ms C k k).take k):=fun i=>by
  rw[List.getElem?_take]
  split
  ·exact rrdI_nb hp1 hmn hCn k k i
  ·exact ⟨0,rfl,by omega⟩
 have hfl:((rrdI p ms C k k).take k).length=k:=by rw[List.length_take,rrdI_len,hcl];omega
 have HNU:Hid (∀W c g,IC W (some ⟨g,0,none⟩) k ((rrdI p ms C k k).take k)→Calls Tryz.prog 174 #[.slice (some ⟨g,0,none⟩) k c,.int .i64 (p:Int)] W fun e w'=>e = .returned (.int .i64 R)∧Below W.heap.size W w'):=fun W c g hi=>by
  rw[hR]
  refine rnum_c (some ⟨g,0,none⟩) k c _ p hp2 (by omega) (fun t ht=>hRb _ (fun i=>?_) (by rw[List.length_drop];omega)) (fun t ht=>?_) W hi
  ·rw[List.getElem?_drop];exact hfin _
  ·obtain ⟨X,hX,hX2⟩:=hfin t
   rw[hX];omega
 have HC:=Lib.hid hC
 have HN9:¬(p:Int)=(n:Int):=by omega
 have hne:(p:Int)≠0:=by omega
 clear hR hC hbs hmd hml hmn na nb hdg hcl hCn hfin hfl hkk hne9 hRb
 go_enter Tryz.func137,Tryz.ntmps137
 go_upto_region 2 with (first|(go_at_call 135;refine (HBA.out _).mono ?_;rintro _ w1 ⟨rfl,hb1⟩)|(go_at_call 173;refine (HMO.out _).mono ?_;rintro _ w2 ⟨am,cm,rfl,im,hb2⟩)|fail)
 have hB2:Below w.heap.size w w2:=by (repeat (first|assumption|exact Below.refl _ _|refine keep_drew ?_|refine keep_alloc ?_ _|refine keep_trans ?_ (by assumption)))
 have HB2:=Lib.hid hB2
 have IM:=Lib.hid im
 clear hb1 hb2 hB2 im
 go_upto_region 6 with (first|(go_at_call 172;(with_reducible refine (HDX.out _).mono ?_);rintro _ w3 ⟨ga,ca,rfl,ia,hb3⟩)|(go_at_call 172;(with_reducible refine (HDY.out _).mono ?_);rintro _ w5 ⟨gb,cb,rfl,ib,hb5⟩)|fail)
 have hB5:Below w2.heap.size w2 w5:=by (repeat (first|assumption|exact Below.refl _ _|refine keep_drew ?_|refine keep_alloc ?_ _|refine keep_trans ?_ (by assumption)))
 have HB5:=Lib.hid (keep_trans HB2.out hB5)
 have IM5:=Lib.hid (IM.out.mono hB5)
 have IA5:=Lib.hid (ia.mono (show Below w3.heap.size w3 w5 by (repeat (first|assumption|exact Below.refl _ _|refine keep_drew ?_|refine keep_alloc ?_ _|refine keep_trans ?_ (by assumption)))))
 have IB5:=Lib.hid ib
 clear ia ib hb3 hb5 hB5 IM
 obtain ⟨d,hd⟩:∃d,d=2*k:=⟨_,rfl⟩
 have hd2:(2:Int)*(k:Int)=(d:Int):=by omega
 have hd8:d≤8:=by omega
 have HD2:=Lib.hid hd
 clear hd
 go_wp2_with (first|(refine wpList_make_full _ rfl _ _ 22 rfl w5.heap.size 3 i0 (.int .i64 0) 1 Tryz.underlying22 hi hz0 hz1 _ _ _ _ d rfl rfl (by simp) (by simp) (by rw[hz2];omega) (by unfold maxLen;omega) (Nat.le_refl _) ?_;intro W4 hown4 hgr4)|fail)
 rw[made_zeroF d] at hown4
 have hb4:Below w5.heap.size w5 W4:=(Below.refl w5.heap.size w5).grown hgr4 (Nat.le_refl _) (fun k e=>by cases e)
 have OL:OI W4 w5.heap.size w5.heap.size d d (List.replicate d 0):=⟨by simp,hown4⟩
 have T0:TmR w5 d d (rcvTo p A B k (0*k)) W4:=⟨by rw[Nat.zero_mul,show rcvTo p A B k 0=List.replicate d 0 by rw[HD2.out];rfl];exact OL,hb4⟩
 clear hown4 hgr4 OL hb4
 go_loopw [13,14] (fun s13 _ wr=>∃i:Nat,i≤k∧s13 = .int .i64 (i:Int)∧Hid (TmR w5 d d (rcvTo p A B k (i*k)) wr)) (fun s13 _ _=>k - (intOf s13).toNat)
 case atStart=>exact ⟨0,by omega,rfl,T0⟩
 case round =>
  obtain ⟨i,hik,rfl,hT⟩:=hrel
  by_cases hlt:i<k
  ·have hki:(i:Int)<(k:Int):=by omega
   go_wp2_with fail
   go_loopw [14] (fun s14 wr=>∃j:Nat,j≤k∧s14 = .int .i64 (j:Int)∧Hid (TmR w5 d d (rcvTo p A B k (i*k+j)) wr)) (fun s14 _=>k - (intOf s14).toNat)
   case atStart=>exact ⟨0,by omega,rfl,hT⟩
   case round =>
    obtain ⟨j,hj,rfl,hT2⟩:=hrel
    by_cases hlt2:j<k
    ·have hji:(j:Int)<(k:Int):=by omega
     obtain ⟨b1,o1,rfl,hl1,hc1⟩:=(IA5.out.mono hT2.out.b).2 i hlt
     obtain ⟨b2,o2,rfl,hl2,hc2⟩:=(IB5.out.mono hT2.out.b).2 j hlt2
     obtain ⟨e,he⟩:∃e,e=i+j:=⟨_,rfl⟩
     have hei:(i:Int)+(j:Int)=(e:Int):=by omega
     have hed:e<d:=by have:=HD2.out;omega
     obtain ⟨z0,z1,z2⟩:=hT2.out.ol.at hed
     have hgc:=gcell_div (n:=k) (i:=i) hlt2
     have HS:Hid ((rcvTo p A B k (i*k+j)).set e (((rcvTo p A B k (i*k+j))[e]?.getD 0+A[i]?.getD 0*B[j]?.getD 0) % (p:Int))=rcvTo p A B k (i*k+(j+1))):=by
      unfold Hid
      rw[show i*k+(j+1)=i*k+j+1 by omega,rcvTo_succ,hgc.1,hgc.2,he]
     obtain ⟨X,hX,hX2⟩:=HNA.out i
     obtain ⟨Y,hY,hY2⟩:=HNB.out j
     obtain ⟨Z,hZ,hZ2⟩:=HCV.out (i*k+j) e
     rw[hX] at hc1 HS
     rw[hY] at hc2 HS
     rw[hZ] at z0 HS
     have hm:X*Y≤16*16:=Nat.mul_le_mul (by omega) (by omega)
     have em:(X:Int)*(Y:Int)=((X*Y:Nat):Int):=(Int.natCast_mul _ _).symm
     rw[em] at HS
     generalize X*Y=m at em hm HS
     obtain ⟨s,hs⟩:∃s,s=Z+m:=⟨_,rfl⟩
     have es:(Z:Int)+(m:Int)=(s:Int):=by omega
     have er:(s:Int) % (p:Int)=((s % p:Nat):Int):=(Int.natCast_emod _ _).symm
     have hs2:s≤1000:=by omega
     rw[es,er] at HS
     generalize s % p=r at er HS
     have k1:=Lib.hid (hT2.out.set e (r:Int))
     rw[HS.out] at k1
     clear hX hY hZ hs he hgc hX2 hY2 hZ2
     go_wp2_with fail
     refine wp_region_S (fun w'=>∃u,w'=over (wr) u) [23] [(0,0),(0,1),(0,2),(0,3),(0,4),(0,5),(0,6),(0,7),(0,8),(0,9),(0,10),(0,11),(0,12),(0,13),(0,14),(0,15),(0,16),(0,17),(0,18),(0,19),(0,20),(0,21),(0,22),(2,23)] (by kernel_rfl) (by kernel_rfl) (by exact ⟨_,below_over (by repeat (first|assumption|exact Below.refl _ _|refine keep_drew ?_|refine keep_alloc ?_ _|refine keep_trans ?_ (by assumption)))⟩) ?_
     dsimp only[pickOps,nthOp]
     repeat (first|(refine wpS_skip rfl (fun K hK=>?_);go_big_quiet_op;refine hK _ ?_;clear hK K)|(refine wpS_quiet rfl rfl (fun K hK=>?_);go_big_quiet_op;refine hK _ ?_;clear hK K))
     refine wpS_late _ _ _ rfl ?_
     dsimp only[List.map]
     go_wp2
     refine NoPanic.normal ?_
     go_wp2_with fail
     go_roundw
     case rel=>exact ⟨j+1,by omega,by go_num,k1.out.drew⟩
     case measure=>simp[intOf];omega
    ·have e:j=k:=by omega
     have hji:¬(j:Int)<(k:Int):=by omega
     have HT3:Hid (TmR w5 d d (rcvTo p A B k ((i+1)*k)) wr):=by have h:=hT2.out;rw[e,show i*k+k=(i+1)*k by rw[Nat.succ_mul]] at h;exact h
     clear e
     go_wp2_with fail
     go_roundw
     case rel=>exact ⟨i+1,by omega,by go_num,HT3⟩
     case measure=>simp[intOf];omega
  ·have e:i=k:=by omega
   have hki:¬(i:Int)<(k:Int):=by omega
   have T1:=hT.out
   rw[e,← HC.out] at T1
   have HT1:=Lib.hid T1
   clear hT T0 T1 e
   go_wp2_with fail
   go_loopw [15,16] (fun s15 _ wr=>∃t:Nat,t≤k∧s15 = .int .i64 ((d:Int) - 1 - (t:Int))∧Hid (TmR w5 d d (rrdI p ms C k t) wr)) (fun s15 _ _=>(intOf s15+1).toNat)
   case atStart=>exact ⟨0,by omega,by go_num,HT1.out⟩
   case round =>
    obtain ⟨t,htk,rfl,hT⟩:=hrel
    by_cases hlt:t<k
    ·obtain ⟨e1,he1⟩:∃e1,e1=2*k - 1 - t:=⟨_,rfl⟩
     have he1i:(d:Int) - 1 - (t:Int)=(e1:Int):=by have:=HD2.out;omega
     have he1k:(k:Int)≤(e1:Int):=by omega
     have he1d:e1<d:=by have:=HD2.out;omega
     have HE1:=Lib.hid he1
     have HI0:Hid (TmR w5 d d (rrdJ p ms (rrdI p ms C k t) k e1 0) wr):=hT
     have HJ2:=Lib.hid (HJ.out t)
     rw[← he1] at HJ2
     have HI1:Hid (rrdI p ms C k (t+1)=(rrdJ p ms (rrdI p ms C k t) k e1 k).set e1 0):=by unfold Hid;rw[he1];rfl
     rw[he1i]
     have HE1I:=Lib.hid he1i
     have HJS:Hid (∀j,rrdJ p ms (rrdI p ms C k t) k e1 (j+1)=(rrdJ p ms (rrdI p ms C k t) k e1 j).set (e1 - k+j) (((rrdJ p ms (rrdI p ms C k t) k e1 j)[e1 - k+j]?.getD 0+(rrdJ p ms (rrdI p ms C k t) k e1 j)[e1]?.getD 0*ms[j]?.getD 0) % (p:Int))):=fun j=>rfl
     generalize rrdJ p ms (rrdI p ms C k t) k e1=rj at HI0 HJ2 HI1 HJS
     clear he1 he1i hT
     go_wp2_with fail
     go_loopw [16] (fun s16 wr=>∃j:Nat,j≤k∧s16 = .int .i64 (j:Int)∧Hid (TmR w5 d d (rj j) wr)) (fun s16 _=>k - (intOf s16).toNat)
     case atStart=>exact ⟨0,by omega,rfl,HI0⟩
     case round =>
      obtain ⟨j,hj,rfl,hT2⟩:=hrel
      by_cases hlt2:j<k
      ·have hji:(j:Int)<(k:Int):=by omega
       obtain ⟨b1,o1,rfl,hl1,hc1⟩:=(IM5.out.mono hT2.out.b).2 j hlt2
       obtain ⟨e2,he2⟩:∃e2,e2=e1 - k+j:=⟨_,rfl⟩
       have he2a:(e1:Int) - (k:Int)=((e1 - k:Nat):Int):=by omega
       have he2b:((e1 - k:Nat):Int)+(j:Int)=(e2:Int):=by omega
       have he2d:e2<d:=by have:=HD2.out;have:=HE1.out;omega
       have he3:e1 - k≤8:=by omega
       obtain ⟨z0,z1,z2⟩:=hT2.out.ol.at he2d
       obtain ⟨y0,y1,y2⟩:=hT2.out.ol.at he1d
       have HS:=Lib.hid (HJS.out j)
       rw[← he2] at HS
       obtain ⟨X,hX,hX2⟩:=HNM.out j
       obtain ⟨Y,hY,hY2⟩:=HJ2.out j e1
       obtain ⟨Z,hZ,hZ2⟩:=HJ2.out j e2
       rw[hX] at hc1 HS
       rw[hY] at y0 HS
       rw[hZ] at z0 HS
       have hm:Y*X≤16*16:=Nat.mul_le_mul (by omega) (by omega)
       have em:(Y:Int)*(X:Int)=((Y*X:Nat):Int):=(Int.natCast_mul _ _).symm
       rw[em] at HS
       generalize Y*X=m at em hm HS
       obtain ⟨s,hs⟩:∃s,s=Z+m:=⟨_,rfl⟩
       have es:(Z:Int)+(m:Int)=(s:Int):=by omega
       have er:(s:Int) % (p:Int)=((s % p:Nat):Int):=(Int.natCast_emod _ _).symm
       have hs2:s≤1000:=by omega
       rw[es,er] at HS
       generalize s % p=r at er HS
       have k1:=Lib.hid (hT2.out.set e2 (r:Int))
       rw[← HS.out] at k1
       generalize e1 - k=e3 at he2a he2b he3
       clear hX hY hZ hs he2 hX2 hY2 hZ2
       go_wp2_with fail
       refine wp_region_S (fun w'=>∃u,w'=over (wr) u) [27] [(0,0),(0,1),(0,2),(0,3),(0,4),(0,5),(0,6),(0,7),(0,8),(0,9),(0,10),(0,11),(0,12),(0,13),(0,14),(0,15),(0,16),(0,17),(0,18),(0,19),(0,20),(0,21),(0,22),(0,23),(0,24),(0,25),(0,26),(2,27)] (by kernel_rfl) (by kernel_rfl) (by exact ⟨_,below_over (by repeat (first|assumption|exact Below.refl _ _|refine keep_drew ?_|refine keep_alloc ?_ _|refine keep_trans ?_ (by assumption)))⟩) ?_
       dsimp only[pickOps,nthOp]
       repeat (first|(refine wpS_skip rfl (fun K hK=>?_);go_big_quiet_op;refine hK _ ?_;clear hK K)|(refine wpS_quiet rfl rfl (fun K hK=>?_);go_big_quiet_op;refine hK _ ?_;clear hK K))
       refine wpS_late _ _ _ rfl ?_
       dsimp only[List.map]
       go_wp2
       refine NoPanic.normal ?_
       go_wp2_with fail
       go_roundw
       case rel=>exact ⟨j+1,by omega,by go_num,k1.out.drew⟩
       case measure=>simp[intOf];omega
      ·have e:j=k:=by omega
       have hji:¬(j:Int)<(k:Int):=by omega
       obtain ⟨y0,y1,y2⟩:=hT2.out.ol.at he1d
       have k1:=hT2.out.set e1 0
       rw[e,← HI1.out] at k1
       have K1:=Lib.hid k1
       clear e k1
       go_wp2_with fail
       go_roundw
       case rel=>exact ⟨t+1,by omega,by have:=HE1I.out;go_num,K1⟩
       case measure=>simp[intOf] <;> omega
    ·have e:t=k:=by omega
     have hlow:¬(k:Int)≤(d:Int) - 1 - (t:Int):=by have:=HD2.out;omega
     have hol:=hT.out.ol
     rw[e] at hol
     have HNW:=Lib.hid (fun W (hb:Below wr.heap.size wr W)=>HNU.out W d w5.heap.size ((hol.take (by have:=HD2.out;omega) (by omega)).mono hb))
     have hid:(k:Int)≤(d:Int):=by have:=HD2.out;omega
     clear hol e
     go_wp2_with (first|(go_at_call 174;refine (HNW.out _ (by (repeat (first|assumption|exact Below.refl _ _|refine keep_drew ?_|refine keep_alloc ?_ _|refine keep_trans ?_ (by assumption))))).mono ?_;rintro _ w9 ⟨rfl,hb9⟩)|fail)
     refine bodyPost_ret (v := .int .i64 R) ?_ rfl ⟨rfl,keep_trans HB5.out (keep_trans hT.out.b hb9)⟩
     simp[results,Tryz.f137,go_sem]
end
section
open Go Go.RowKit
attribute [local go_sem] over_cell
attribute [local go_sem] Oper.semAt_some
def rTm (n x y:Nat):Int:=if bseR n=(n:Int) then ((x*y % n:Nat):Int) else
 numL (bseR n).toNat ((rrdI (bseR n).toNat (modR n) (rcvTo (bseR n).toNat (dgtL (bseR n).toNat (modR n).length x) (dgtL (bseR n).toNat (modR n).length y) (modR n).length ((modR n).length*(modR n).length)) (modR n).length (modR n).length).take (modR n).length)
theorem rTm_4:∀x,x<4→∀y,y<4→rTm 4 x y=fTimes 4 x y:=by decide +kernel
theorem rTm_8:∀x,x<8→∀y,y<8→rTm 8 x y=fTimes 8 x y:=by decide +kernel
theorem rTm_9:∀x,x<9→∀y,y<9→rTm 9 x y=fTimes 9 x y:=by decide +kernel
theorem rTm_16:∀x,x<16→∀y,y<16→rTm 16 x y=fTimes 16 x y:=by decide +kernel
theorem bse_two (n:Nat) (h:n≤16) (hf:fldB n=true):(n=4∨n=8∨n=9∨n=16)∨(bseR n=(n:Int)∧fldP n=n):=by
 rcases fld_cases h hf with e|e|e|e|e|e|e|e|e|e <;> subst e
 ·exact .inr ⟨by decide,by decide⟩
 ·exact .inr ⟨by decide,by decide⟩
 ·exact .inl (by decide)
 ·exact .inr ⟨by decide,by decide⟩
 ·exact .inr ⟨by decide,by decide⟩
 ·exact .inl (by decide)
 ·exact .inl (by decide)
 ·exact .inr ⟨by decide,by decide⟩
 ·exact .inr ⟨by decide,by decide⟩
 ·exact .inl (by decide)
theorem rTm_eq {n x y:Nat} (h:n≤16) (hf:fldB n=true) (hx:x<n) (hy:y<n):rTm n x y=fTimes n x y:=by
 rcases bse_two n h hf with (e|e|e|e)|⟨e1,e2⟩
 ·subst e;exact rTm_4 x hx y hy
 ·subst e;exact rTm_8 x hx y hy
 ·subst e;exact rTm_9 x hx y hy
 ·subst e;exact rTm_16 x hx y hy
 ·unfold rTm fTimes
  rw[if_pos e1,if_pos e2]
theorem numL_small {p:Nat} (hp1:1≤p) (hp2:p≤16):∀l:List Int,NB p l→0≤numL p l∧numL p l<((p ^ l.length:Nat):Int)
 | [],_=>by simp[numL]
 | c :: l,h=>by
  obtain ⟨h0,h1⟩:=numL_small hp1 hp2 l (fun i=>h (i+1))
  obtain ⟨X,hX,hX2⟩:=h 0
  simp only[List.getElem?_cons_zero,Option.getD_some] at hX
  subst hX
  have e:numL p ((X:Int) :: l)=(p:Int)*numL p l+(X:Int):=rfl
  rw[e,List.length_cons,Nat.pow_succ]
  push_cast at h1 ⊢
  constructor
  ·have:=Int.mul_nonneg (show (0:Int)≤(p:Int) by omega) h0;omega
  ·have:=Int.mul_le_mul_of_nonneg_right (show numL p l+1≤(p:Int) ^ l.length by omega) (show (0:Int)≤(p:Int) by omega)
   rw[Int.add_mul,Int.one_mul] at this
   have e2:=Int.mul_comm (numL p l) (p:Int)
   omega
theorem mod_facts (n:Nat) (h:n=4∨n=8∨n=9∨n=16):1≤(bseR n).toNat∧(bseR n).toNat≤3∧bseR n=((bseR n).toNat:Int)∧(bseR n).toNat≠n∧bseR n≠(n:Int)∧1≤(modR n).length∧(modR n).length≤4∧NB (bseR n).toNat (modR n):=by
 have hnb:∀(p:Nat) (l:List Int),1≤p→(∀x,x∈l→0≤x∧x<(p:Int))→NB p l:=fun p l hp hl i=>by
  by_cases hi:i<l.length
  ·have:=hl _ (List.getElem_mem hi)
   rw[List.getElem?_eq_getElem hi,Option.getD_some]
   exact ⟨l[i].toNat,by omega,by omega⟩
  ·rw[List.getElem?_eq_none (by omega)]
   exact ⟨0,rfl,by omega⟩
 rcases h with rfl|rfl|rfl|rfl
 ·exact ⟨by decide,by decide,by decide,by decide,by decide,by decide,by decide,hnb _ _ (by decide) (by decide)⟩
 ·exact ⟨by decide,by decide,by decide,by decide,by decide,by decide,by decide,hnb _ _ (by decide) (by decide)⟩
 ·exact ⟨by decide,by decide,by decide,by decide,by decide,by decide,by decide,hnb _ _ (by decide) (by decide)⟩
 ·exact ⟨by decide,by decide,by decide,by decide,by decide,by decide,by decide,hnb _ _ (by decide) (by decide)⟩
theorem rtimes_c (n x y:Nat) (h:n≤16) (hf:fldB n=true) (hx:x<n) (hy:y<n) (w:World) :
  Calls Tryz.prog 137 #[.int .i64 (n:Int),.int .i64 (x:Int),.int .i64 (y:Int)] w fun e w'=>e = .returned (.int .i64 (fTimes n x y))∧Below w.heap.size w w':=by
 rw[← rTm_eq h hf hx hy]
 rcases bse_two n h hf with e|⟨e1,e2⟩
 ·obtain ⟨h1,h2,h3,h4,h5,h6,h7,h8⟩:=mod_facts n e
  refine rtimes_n n (bseR n).toNat (modR n).length x y (modR n) h h4 h3 rfl rfl h8 h1 (by omega) h6 h7 (by omega) (by omega) w _ (by unfold rTm;rw[if_neg h5]) (fun l hl hll=>?_)
  have h9:=numL_small h1 (by omega) l hl
  have h10:(bseR n).toNat ^ l.length≤3 ^ 4:=Nat.le_trans (Nat.pow_le_pow_left h2 _) (Nat.pow_le_pow_right (by decide) hll)
  have h11:(3:Nat) ^ 4=81:=by decide
  omega
 ·unfold rTm
  rw[if_pos e1]
  exact rtimes_p n x y h (by omega) e1 (by omega) (by omega) w
theorem add_facts (n:Nat) (h:n≤16) (hf:fldB n=true):bseR n=(fldP n:Int)∧(modR n).length=(fldZ n).length:=by
 rcases fld_cases h hf with e|e|e|e|e|e|e|e|e|e <;> subst e <;> decide
theorem raddq_c (n x y:Nat) (h:n≤16) (hf:fldB n=true) (hx:x≤1000) (hy:y≤1000) (w:World) :
  Calls Tryz.prog 136 #[.int .i64 (n:Int),.int .i64 (x:Int),.int .i64 (y:Int)] w fun e w'=>e = .returned (.int .i64 (fAdd n x y))∧Below w.heap.size w w':=by
 obtain ⟨h1,h2⟩:=add_facts n h hf
 obtain ⟨_,h3,h4,h5,h6⟩:=fld_pow h hf
 exact radd_c n (fldP n) (fldZ n).length x y h h1 h2 (by omega) h4 h5 h6 hx hy w
end
section
open Go Go.RowKit
attribute [local go_sem] over_cell
attribute [local go_sem] Oper.semAt_some
structure RqG (W0:World) (b9 g m:Nat) (n:Int) (xs:List Int) (W:World):Prop where
 q9:W.heap[b9]?=some (.cells #[.int .i64 n,.int .i64 n,.slice (some ⟨g,0,none⟩) m m] 24 (0,0))
 o:OI W W0.heap.size g m m xs
 bl:Below W0.heap.size W0 W
 ne:g<b9
theorem RqG.set {W0:World} {b9 g m:Nat} {n:Int} {xs:List Int} {W:World} (h:RqG W0 b9 g m n xs W) (k:Nat) (x:Int):RqG W0 b9 g m n (xs.set k x) (W.setCell ⟨g,k,none⟩ (.int .i64 x)) where
 q9:=q_other h.q9 (by have:=h.ne;omega) _
 o:=h.o.set k x
 bl:=h.bl.setCell (p:=⟨g,k,none⟩) h.o.blk.1 _
 ne:=h.ne
theorem RqG.keep {W0:World} {b9 g m:Nat} {n:Int} {xs:List Int} {W W':World} (h:RqG W0 b9 g m n xs W) (hb:Below W.heap.size W W'):RqG W0 b9 g m n xs W' where
 q9:=keepq hb h.q9
 o:=h.o.keep hb
 bl:=keep_trans h.bl hb
 ne:=h.ne
def FamR (w:World) (N:Nat) (e:Ending) (w':World):Prop:=∃a c,e = .returned (.slice a (famL N).length c)∧GL w' a (famL N).length N (famL N)∧Below w.heap.size w w'
theorem rfamily_c (N:Nat) (w:World) (h1:1≤N) (h2:N≤16) (hf:fldB N=true):Calls Tryz.prog 65 #[.int .i64 (N:Int)] w (FamR w N):=by
 obtain ⟨i0,hi,hz0,hz1,hz2⟩:=info_parts infoGrid
 have hm:N*N≤16*16:=Nat.mul_le_mul h2 h2
 obtain ⟨m,hmm⟩:∃m,m=N*N:=⟨_,rfl⟩
 have HS:=Lib.hid (fun W=>rsq_c N m hmm (by omega) W)
 have hmb:m≤256:=by omega
 have HMM:=Lib.hid hmm
 have HAD:=Lib.hid (fun (k i j:Nat) (hk:k<N) (hi:i<N) (hj:j<N) W=>raddq_c N (fTimes N k i).toNat j h2 hf (by have:=fTimes_num (x:=k) (y:=i) h2 hf;omega) (by omega) W)
 have HTI:Hid (∀k i:Nat,k<N→i<N→∀W,Calls Tryz.prog 137 #[.int .i64 (N:Int),.int .i64 (k:Int),.int .i64 (i:Int)] W fun e w'=>e = .returned (.int .i64 ((fTimes N k i).toNat:Int))∧Below W.heap.size W w'):=fun k i hk hi W=>by
  have h9:=rtimes_c N k i h2 hf hk hi W
  rw[show fTimes N k i=((fTimes N k i).toNat:Int) by have:=fTimes_num (x:=k) (y:=i) h2 hf;omega] at h9
  exact h9
 clear hmm hm
 go_enter Tryz.func65,Tryz.ntmps65
 go_wp2_with fail
 go_loopw [3,4,5,6,7] (fun s3 s4 _ _ _ wr=>∃(k:Nat) (pre:List (Value × List Int)),1≤k∧k≤N∧s4 = .int .i64 (k:Int)∧Hid (Below w.heap.size w wr)∧Hid (GridsI N wr noB w.heap.size s3 pre)∧Hid (pre.map Prod.snd=(famL N).take (k - 1))) (fun _ s4 _ _ _ _=>N - (intOf s4).toNat)
 case atStart=>exact ⟨1,[],by omega,h1,rfl,Below.refl _ _,GridsI.nil _ _ _ _,rfl⟩
 case round =>
  obtain ⟨k,pre,hk1,hkN,rfl,hB,hG,hP⟩:=hrel
  have hpl:pre.length=k - 1:=by
   have:=congrArg List.length hP.out
   rw[List.length_map,List.length_take,famL_len] at this
   omega
  obtain ⟨av,cv,hs3⟩:=owns_shape3 hG.out.1
  subst hs3
  by_cases hlt:k<N
  ·have hki:(k:Int)<(N:Int):=by omega
   have HPL:=Lib.hid hpl
   clear hpl
   go_upto_region 6 with (first|(go_at_call 101;refine (HS.out _).mono ?_;rintro _ w2 ⟨g,rfl,o2,hb2⟩)|fail)
   have hg:=o2.blk
   have qsz:(w2.alloc (.cells #[.int .i64 (N:Int),.int .i64 (N:Int),.slice (some ⟨g,0,none⟩) m m] 24)).heap.size=w2.heap.size+1:=by simp only[World.size_alloc]
   have qB:Below w2.heap.size w2 (w2.alloc (.cells #[.int .i64 (N:Int),.int .i64 (N:Int),.slice (some ⟨g,0,none⟩) m m] 24)):=(Below.refl _ _).alloc (Nat.le_refl _) _
   have qq0:(w2.alloc (.cells #[.int .i64 (N:Int),.int .i64 (N:Int),.slice (some ⟨g,0,none⟩) m m] 24)).heap[w2.heap.size]?=some (.cells #[.int .i64 (N:Int),.int .i64 (N:Int),.slice (some ⟨g,0,none⟩) m m] 24 (0,0)):=by have h:=World.alloc_heap_new w2 (.cells #[.int .i64 (N:Int),.int .i64 (N:Int),.slice (some ⟨g,0,none⟩) m m] 24);exact h
   generalize (w2.alloc (.cells #[.int .i64 (N:Int),.int .i64 (N:Int),.slice (some ⟨g,0,none⟩) m m] 24))=W3 at qsz qB qq0 ⊢
   obtain ⟨W9,hW9⟩:∃W9,W9=wr:=⟨_,rfl⟩
   have HR:Hid (RqG W9 w2.heap.size g m (N:Int) (fillTo N (famS N k) m (0*N)) W3):=by
    rw[hW9]
    exact ⟨qq0,by rw[Nat.zero_mul,fillTo_zero];exact (o2.keep qB).base (by omega),keep_trans hb2 qB,by omega⟩
   have hB9:=hB
   have hG9:=hG
   rw[← hW9] at hB9 hG9
   clear qsz qq0 qB hb2 o2 hg hB hG hW9
   generalize w2.heap.size=b9 at HR ⊢
   go_wp2_with fail
   go_loopw [6,7] (fun s6 _ wr=>∃i:Nat,i≤N∧s6 = .int .i64 (i:Int)∧Hid (RqG W9 b9 g m (N:Int) (fillTo N (famS N k) m (i*N)) wr)) (fun s6 _ _=>N - (intOf s6).toNat)
   case atStart=>exact ⟨0,by omega,rfl,HR⟩
   case round =>
    obtain ⟨i,hi9,rfl,hR⟩:=hrel
    by_cases hlt3:i<N
    ·have hii:(i:Int)<(N:Int):=by omega
     go_wp2_with fail
     go_loopw [7] (fun s7 wr=>∃j:Nat,j≤N∧s7 = .int .i64 (j:Int)∧Hid (RqG W9 b9 g m (N:Int) (fillTo N (famS N k) m (i*N+j)) wr)) (fun s7 _=>N - (intOf s7).toNat)
     case atStart=>exact ⟨0,by omega,rfl,hR⟩
     case round =>
      obtain ⟨j,hj,rfl,hR2⟩:=hrel
      by_cases hlt2:j<N
      ·have hji:(j:Int)<(N:Int):=by omega
       have hkk:i*N+j<m:=by rw[HMM.out];exact gcell_lt hlt3 hlt2
       have HT:=Lib.hid (HTI.out k i hlt hlt3)
       have HA:=Lib.hid (HAD.out k i j hlt hlt3 hlt2)
       rw[show fAdd N (fTimes N k i).toNat j=famS N k i j from rfl] at HA
       have HKS:=Lib.hid (fun W (hb:Below wr.heap.size wr W)=>(hR2.out.keep hb).set (i*N+j) (famS N k i j))
       rw[fillTo_set (s:=famS N k) hlt2 hkk] at HKS
       obtain ⟨e,he⟩:∃e,e=i*N+j:=⟨_,rfl⟩
       obtain ⟨d,hd⟩:∃d,d=i*N:=⟨_,rfl⟩
       have hd1:(i:Int)*(N:Int)=(d:Int):=by rw[hd,Int.natCast_mul]
       have hd2:(d:Int)+(j:Int)=(e:Int):=by rw[he,hd,Int.natCast_add]
       have hke:e<m:=by omega
       have hd3:d≤256:=by omega
       have HK1:Hid (∀W,Below wr.heap.size wr W→RqG W9 b9 g m (N:Int) (fillTo N (famS N k) m (i*N+j+1)) (W.setCell ⟨g,e,none⟩ (.int .i64 (famS N k i j)))):=fun W hb=>by rw[he];exact HKS.out W hb
       have HCE:=Lib.hid (fun W (hb:Below wr.heap.size wr W)=>(hR2.out.keep hb).o.at hke)
       obtain ⟨x0,x1,x2,xl⟩:=c3_of hR2.out.q9
       generalize famS N k i j=sv at HA HK1
       generalize (fTimes N k i).toNat=tv at HT HA
       clear he hd hkk HKS
       go_wp2_with fail
       refine wp_region_S (fun w'=>∃u,w'=over (wr) u) [15] [(0,0),(0,1),(0,2),(0,3),(0,4),(0,5),(0,6),(0,7),(0,8),(0,9),(0,10),(0,12),(1,11),(1,13),(0,14),(2,15)] (by kernel_rfl) (by kernel_rfl) (by exact ⟨_,below_over (by repeat (first|assumption|exact Below.refl _ _|refine keep_drew ?_|refine keep_alloc ?_ _|refine keep_trans ?_ (by assumption)))⟩) ?_
       dsimp only[pickOps,nthOp]
       repeat (first|(refine wpS_skip rfl (fun K hK=>?_);go_big_quiet_op;refine hK _ ?_;clear hK K)|(refine wpS_quiet rfl rfl (fun K hK=>?_);go_big_quiet_op;refine hK _ ?_;clear hK K)|(refine wpS_loud ?_;go_wp2_with (first|(go_at_call 137;(with_reducible refine (HT.out _).mono ?_);rintro _ w5 ⟨rfl,hb5⟩)|(go_at_call 136;(with_reducible refine (HA.out _).mono ?_);rintro _ w6 ⟨rfl,hb6⟩;have hk6:Below wr.heap.size wr w6:=(by (repeat (first|assumption|exact Below.refl _ _|refine keep_drew ?_|refine keep_alloc ?_ _|refine keep_trans ?_ (by assumption))));obtain ⟨u0,u1,u2⟩:=HCE.out _ hk6)|fail);refine ⟨?_,?_⟩;focus (exact ⟨_,below_over (by repeat (first|assumption|exact Below.refl _ _|refine keep_drew ?_|refine keep_alloc ?_ _|refine keep_trans ?_ (by assumption)))⟩)))
       refine wpS_late _ _ _ rfl ?_
       dsimp only[List.map]
       go_wp2_with (first|(go_at_call 137;(with_reducible refine (HT.out _).mono ?_);rintro _ w5 ⟨rfl,hb5⟩)|(go_at_call 136;(with_reducible refine (HA.out _).mono ?_);rintro _ w6 ⟨rfl,hb6⟩;have hk6:Below wr.heap.size wr w6:=(by (repeat (first|assumption|exact Below.refl _ _|refine keep_drew ?_|refine keep_alloc ?_ _|refine keep_trans ?_ (by assumption))));obtain ⟨u0,u1,u2⟩:=HCE.out _ hk6)|fail)
       refine NoPanic.normal ?_
       go_wp2_with fail
       go_roundw
       case rel=>exact ⟨j+1,by omega,by go_num,HK1.out _ hk6⟩
       case measure=>simp[intOf];omega
      ·have e:j=N:=by omega
       have HK2:Hid (RqG W9 b9 g m (N:Int) (fillTo N (famS N k) m ((i+1)*N)) wr):=by have h:=hR2.out;rw[e,show i*N+N=(i+1)*N by rw[Nat.succ_mul]] at h;exact h
       have hno:¬(j:Int)<(N:Int):=by omega
       clear e
       go_wp2_with fail
       go_roundw
       case rel=>exact ⟨i+1,by omega,by go_num,HK2⟩
       case measure=>simp[intOf];omega
    ·have e:i=N:=by omega
     have hno:¬(i:Int)<(N:Int):=by omega
     have HF:=hR.out
     have hgl:(famG N k).length=m:=by rw[HMM.out];exact madeTo_len _ _ _
     rw[e,← HMM.out,fillTo_end,show madeTo N (famS N k) m=famG N k by rw[HMM.out];rfl] at HF
     have HFB:=Lib.hid HF.bl
     have HFO:=Lib.hid HF.o
     have hG5:=hG9.out.below HF.bl
     obtain ⟨x0,x1,x2,xl⟩:=c3_of HF.q9
     have HGL:=Lib.hid hgl
     have hown5:wr.ownsRow W9.heap.size 3 1 (.slice (some ⟨g,0,none⟩) m m) (famG N k).length ((famG N k).map (Value.int .i64)):=by rw[hgl];exact HF.o.own
     have HOW:=Lib.hid hown5
     clear e hR HR HF hgl hown5
     go_wp2_with (first|(at_builtin;refine wpList_append_own2 _ rfl _ _ 35 rfl 24 i0 (.agg #[.int .i64 0,.int .i64 0,.slice none 0 0]) 3 40 Tryz.underlying35 hi hz0 hz1 hz2 rfl (by decide) _ _ _ rfl (owns_base (hG5.1.alloc _) (Nat.zero_le _)) ⟨wr.heap.size,0,none⟩ 1 1 [.int .i64 (N:Int),.int .i64 (N:Int),.slice (some ⟨g,0,none⟩) m m] rfl rfl (cell_new3 _ _ _ _ _) (by simp[Value.oneCell']) (by have:=HPL.out;unfold maxLen;omega) (by have:=HPL.out;omega) ?_;intro v7 w7 hown7 hgr7 hk7;have hs7:=grow_stays hgr7)|fail)
     have hwr:=hB9.out.size
     have hwb:=HFB.out.size
     have hown7L:=own_lift hown7 (L:=w.heap.size) (fun j e=>(hk7 j e).elim (fun e2=>(hG5.1.lt j e2).1) (fun h=>by simp at h;omega))
     have hGn:=hG5.append (x:=(.slice (some ⟨g,0,none⟩) m m,famG N k)) (fun _ h=>h.elim) (owns_base HOW.out (Nat.zero_le _)) (fun j e=>⟨⟨by have:=(HOW.out.lt j e).1;omega,fun h=>h⟩,fun e2=>by have h3:=(HOW.out.lt j e).1;have h4:=(hG9.out.1.lt j e2).2;omega⟩) hs7 hown7L (fun j e=>(hk7 j e).imp id (fun h=>by simp at h;omega))
     have hB7:=hs7.below' (B:=w.heap.size) (w0:=w) (by omega) (keep_trans hB9.out HFB.out) (fun j e=>(hG5.1.lt j e).1)
     have HP7:Hid ((pre++[(Value.slice (some ⟨g,0,none⟩) m m,famG N k)]).map Prod.snd=(famL N).take (k+1 - 1)):=by
      unfold Hid
      rw[List.map_append,hP.out,famL_take N k hk1 hlt]
      rfl
     have HG7:=Lib.hid hGn
     have HB7:=Lib.hid hB7
     clear hown7 hgr7 hk7 hs7 hown7L hGn hB7 hG5
     go_roundw
     case rel=>exact ⟨k+1,_,by omega,by omega,by go_num,HB7,HG7,HP7⟩
     case measure=>simp[intOf];omega
  ·have e:k=N:=by omega
   have hno:¬(k:Int)<(N:Int):=by omega
   have hGL:=hG.out.gl (by omega) (fun x hx=>by
    have hx2:=List.mem_map_of_mem (f:=Prod.snd) hx
    rw[hP.out] at hx2
    have hx3:=List.mem_of_mem_take hx2
    rw[famL_eq] at hx3
    obtain ⟨j,_,hj⟩:=List.mem_map.1 hx3
    rw[← hj,show (famG N (j+1)).length=N*N from madeTo_len _ _ _]
    have:=Nat.mul_le_mul h2 h2
    omega)
   obtain ⟨a9,c9,he9,hg9⟩:=hGL
   cases he9
   rw[hP.out,e,show (famL N).take (N - 1)=famL N from List.take_of_length_le (by rw[famL_len];omega)] at hg9
   have hl9:pre.length=(famL N).length:=by rw[famL_len];omega
   rw[hl9] at hg9 ⊢
   have HG9:=Lib.hid hg9
   clear hG hg9 hP hpl hl9 e
   go_wp2_with fail
   refine bodyPost_ret (v := .slice av (famL N).length cv) ?_ rfl ⟨av,cv,rfl,HG9.out,hB.out⟩
   simp[results,Tryz.f65,go_sem]
def fieE (n:Int):Int:=if ordE n=0 then whenV (!fldB n.toNat) 15 else ordE n
theorem ck_any (n:Int) (er:Int) (he:fieE n=er) (h0:er≠0):∀W,Calls Tryz.prog 130 #[.int .i64 n] W fun e w'=>∃(x0 x1:Int) (a:Option Addr) (m c:Nat),e = .returned (.tuple #[.agg #[.int .i64 x0,.int .i64 x1,.slice a m c],.int .i64 er])∧Below W.heap.size W w':=fun W=>by
 unfold fieE at he
 by_cases ho:ordE n=0
 ·rw[if_pos ho] at he
  have hn:1≤n∧n≤16:=by
   unfold ordE at ho
   by_cases h1:1≤n
   ·by_cases h2:n≤16
    ·exact ⟨h1,h2⟩
    ·rw[decide_eq_false h2,Bool.and_false] at ho;cases ho
   ·rw[decide_eq_false h1,Bool.false_and] at ho;cases ho
  obtain ⟨N,rfl⟩:∃N:Nat,n=(N:Int):=⟨n.toNat,by omega⟩
  rw[Int.toNat_natCast] at he
  have h9:=ckfield_ok N (by omega) (by omega) W
  rw[he] at h9
  exact h9.mono fun e w' ⟨a,c,h2,_,h3⟩=>⟨_,_,_,_,_,h2,h3⟩
 ·rw[if_neg ho] at he
  exact (ckfield_bad n W er he h0).mono fun e w' ⟨h2,h3⟩=>⟨0,0,none,0,0,h2,h3⟩
theorem field_any (n:Int) (er:Int) (he:fieE n=er) (h0:er≠0) (w:World):Calls Tryz.prog 56 #[.int .i64 n] w (TwoG w 0 [] [] er):=field_bad n w er h0 (fun W _=>ck_any n er he h0 W)
theorem family_any (n:Int) (er:Int) (he:fieE n=er) (h0:er≠0) (w:World):Calls Tryz.prog 57 #[.int .i64 n] w (GridsE w 0 [] er):=family_bad n w er h0 (fun W _=>ck_any n er he h0 W)
end
section
open Go Go.RowKit
attribute [local go_sem] over_cell
attribute [local go_sem] Oper.semAt_some
theorem rgcd_c (a b:Nat) (w:World) (ha:a≤2000000000) (hb:b≤2000000000) :
  Calls Tryz.prog 134 #[.int .i64 (a:Int),.int .i64 (b:Int)] w fun e w'=>e = .returned (.int .i64 ((Nat.gcd a b:Nat):Int))∧Below w.heap.size w w':=by
 obtain ⟨G,hG⟩:∃G,G=Nat.gcd a b:=⟨_,rfl⟩
 rw[← hG]
 have HG:=Lib.hid hG
 clear hG
 go_enter Tryz.func134,Tryz.ntmps134
 go_wp2
 go_loopw [0,1] (fun x y wr=>∃a' b':Nat,x = .int .i64 (a':Int)∧y = .int .i64 (b':Int)∧a'≤2000000000∧b'≤2000000000∧Hid (G=Nat.gcd a' b')∧Below w.heap.size w wr) (fun _ y _=>(intOf y).toNat)
 case atStart=>exact ⟨a,b,rfl,rfl,ha,hb,HG.out,Below.refl _ _⟩
 case round =>
  obtain ⟨a',b',rfl,rfl,ha',hb',hG',hbr⟩:=hrel
  by_cases h0:b'=0
  ·subst h0
   have hz:Hid ((G:Int)=(a':Int)):=by unfold Hid;rw[hG'.out,Nat.gcd_zero_right]
   have h00:¬(0:Int)<((0:Nat):Int):=by omega
   go_wp2
   go_ret
   exact ⟨ret_int (by rw[hz.out]),hbr⟩
  ·have h00:(0:Int)<(b':Int):=by omega
   have hne:(b':Int)≠0:=by omega
   have em:(a':Int) % (b':Int)=((a' % b':Nat):Int):=(Int.natCast_emod _ _).symm
   have hs:=Nat.mod_lt a' (show 0<b' by omega)
   have HT:Hid (Nat.gcd b' (a' % b')=Nat.gcd a' b'):=by unfold Hid;rw[Nat.gcd_comm,← Nat.gcd_rec,Nat.gcd_comm]
   generalize a' % b'=m at em hs HT
   go_wp2
   go_region
   go_wp2
   go_roundw
   case rel=>exact ⟨b',m,rfl,by first|rfl|(rw[em]),hb',by omega,by rw[hG'.out];exact HT.out.symm,keep_drew hbr⟩
   case measure=>simp[intOf];omega
theorem rGcd_c (a b:Nat) (w:World) (ha:a≤2000000000) (hb:b≤2000000000) :
  Calls Tryz.prog 61 #[.int .i64 (a:Int),.int .i64 (b:Int)] w fun e w'=>e = .returned (.int .i64 ((Nat.gcd a b:Nat):Int))∧Below w.heap.size w w':=by
 have HG:=Lib.hid (fun W=>rgcd_c a b W ha hb)
 have ea:max (a:Int) (-(a:Int))=(a:Int):=by omega
 have eb:max (b:Int) (-(b:Int))=(b:Int):=by omega
 generalize Nat.gcd a b=G at HG ⊢
 go_enter Tryz.func61,Tryz.ntmps61
 go_wp2_with (first|(go_at_call 134;(try rw[ea,eb]);(with_reducible refine (HG.out _).mono ?_);rintro _ w1 ⟨rfl,hb1⟩)|fail)
 refine bodyPost_ret (v := .int .i64 (G:Int)) ?_ rfl ⟨rfl,hb1⟩
 simp[results,Tryz.f61,go_sem]
theorem bse_pos (n:Nat) (h1:2≤n) (h2:n≤16):decide (0<bseR n)=fldB n:=by
 have:∀n,n<17→2≤n→decide (0<bseR n)=fldB n:=by decide +kernel
 exact this n (by omega) h1
theorem isf_c (n:Nat) (h1:1≤n) (h2:n≤16) (w:World) :
  Calls Tryz.prog 63 #[.int .i64 (n:Int)] w fun e w'=>e = .returned (.bool (fldB n))∧Below w.heap.size w w':=by
 by_cases hn:n=1
 ·subst hn
  go_enter Tryz.func63,Tryz.ntmps63
  go_wp2_with fail
  refine bodyPost_ret (v := .bool false) ?_ rfl ⟨by rw[show fldB 1=false by decide],Below.refl _ _⟩
  simp[results,Tryz.f63,go_sem]
 ·have HB:=Lib.hid (fun W=>rbase_c n h2 W)
  have d1:decide ((2:Int)≤(n:Int))=true:=decide_eq_true (by omega)
  have d2:decide ((n:Int)≤16)=true:=decide_eq_true (by omega)
  have h3:(2:Int)≤(n:Int):=by omega
  have hp:=bse_pos n (by omega) h2
  generalize bseR n=B at HB hp
  generalize fldB n=F at hp ⊢
  go_enter Tryz.func63,Tryz.ntmps63
  go_wp2_with (first|(go_at_call 135;refine (HB.out _).mono ?_;rintro _ w1 ⟨rfl,hb1⟩)|fail)
  refine bodyPost_ret (v := .bool F) ?_ rfl ⟨rfl,hb1⟩
  simp[results,Tryz.f63,go_sem]
end
section
open Go Go.RowKit
def hold2 (o:Obj) (b:Nat) (o2:Obj) (u:World):World:=hold o b (hold o2 (b+1) u)
theorem hold_size (o:Obj) (b:Nat) (u:World):b<(hold o b u).heap.size:=q_lt (hold_heap o b u)
theorem hold_above (o:Obj) (b:Nat) (u:World) {k:Nat} (hk:b<k) (hb:b<u.heap.size):(hold o b u).heap[k]?=u.heap[k]?:=by
 simp only[hold,List.getElem?_toArray]
 rw[show b - u.heap.size=0 from by omega,List.replicate_zero,List.append_nil,List.getElem?_append_right (by simp;omega),show k - (u.heap.toList.take b).length=(k - b - 1)+1 from by simp;omega,List.getElem?_cons_succ,List.getElem?_drop,Array.getElem?_toList]
 congr 1
 omega
theorem hold2_heap0 (o:Obj) (b:Nat) (o2:Obj) (u:World):(hold2 o b o2 u).heap[b]?=some o:=hold_heap _ _ _
theorem hold2_heap1 (o:Obj) (b:Nat) (o2:Obj) (u:World):(hold2 o b o2 u).heap[b+1]?=some o2:=by
 unfold hold2
 rw[hold_above _ _ _ (by omega) (by have:=hold_size o2 (b+1) u;omega)]
 exact hold_heap _ _ _
theorem hold2_of {o o2:Obj} {b:Nat} {w:World} (h:w.heap[b]?=some o) (h2:w.heap[b+1]?=some o2):w=hold2 o b o2 w:=by
 unfold hold2
 rw[← hold_of h2,← hold_of h]
section
variable (v0 v1 v2:Value) (T:TypeId) (b:Nat) (o:Obj) (u:World)
theorem hold2_a0:(hold2 (.cells #[v0,v1,v2] T (0,0)) b o u).cell? ⟨b,0,none⟩=some v0:=q_cell (hold2_heap0 _ b _ u) 0
theorem hold2_a1:(hold2 (.cells #[v0,v1,v2] T (0,0)) b o u).cell? ⟨b,1,none⟩=some v1:=q_cell (hold2_heap0 _ b _ u) 1
theorem hold2_a2:(hold2 (.cells #[v0,v1,v2] T (0,0)) b o u).cell? ⟨b,2,none⟩=some v2:=q_cell (hold2_heap0 _ b _ u) 2
theorem hold2_b0:(hold2 o b (.cells #[v0,v1,v2] T (0,0)) u).cell? ⟨b+1,0,none⟩=some v0:=q_cell (hold2_heap1 _ b _ u) 0
theorem hold2_b1:(hold2 o b (.cells #[v0,v1,v2] T (0,0)) u).cell? ⟨b+1,1,none⟩=some v1:=q_cell (hold2_heap1 _ b _ u) 1
theorem hold2_b2:(hold2 o b (.cells #[v0,v1,v2] T (0,0)) u).cell? ⟨b+1,2,none⟩=some v2:=q_cell (hold2_heap1 _ b _ u) 2
end
end
end Go.Proofs.YtmfpdakaeagdpaaGreat
