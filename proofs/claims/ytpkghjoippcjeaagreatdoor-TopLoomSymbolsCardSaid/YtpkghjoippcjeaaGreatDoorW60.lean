/- Texts J11 to J136 of this proof, in one file. -/
import Derived.Test.YtpkghjoippcjeaaGreatDoorW01
import Derived.Test.YtpkghjoippcjeaaGreatDoorW04
import Derived.Test.YtpkghjoippcjeaaGreatDoorW13
import Derived.Test.YtpkghjoippcjeaaGreatDoorW42
import Derived.Test.YtpkghjoippcjeaaGreatDoorW53
import Derived.Test.YtpkghjoippcjeaaGreatDoorW54
import Derived.Test.YtpkghjoippcjeaaGreatDoorW55
import Derived.Test.YtpkghjoippcjeaaGreatDoorW56
import Derived.Test.YtpkghjoippcjeaaGreatDoorW57
import Derived.Test.YtpkghjoippcjeaaGreatDoorW58
import Derived.Test.YtpkghjoippcjeaaGreatDoorW59
namespace Go.Proofs.YtpkghjoippcjeaaGreatDoor
set_option maxRecDepth 100000
set_option maxHeartbeats 16000000
section
open Go Go.RowKit
theorem goes_nil {sets:List (List Int)} {l:List Int}:Goes sets [] l↔Sdr sets l:=⟨fun h=>h.1,fun h=>⟨h,by simp⟩⟩
theorem rpO_eq (sets:List (List Int)):rpO sets=repR sets sets.length [] :=
 rep_eq (by simp) List.nodup_nil (fun i hi=>absurd hi (by simp)) ⟨rfl,fun i hi=>absurd hi (by simp),fun i _=>rfl⟩
theorem rpO_some {sets:List (List Int)} {l:List Int} (h:rpO sets=some l):Sdr sets l:=by
 rw[rpO_eq] at h
 exact (repR_some (by simp) List.nodup_nil (fun i hi=>absurd hi (by simp)) h).1
theorem rpO_none {sets:List (List Int)} (h:rpO sets=none) (l:List Int):¬Sdr sets l:=fun hl=>by
 rw[rpO_eq] at h
 exact repR_none (by simp) h (goes_nil.2 hl)
theorem haO_ok (sets:List (List Int)):(∀g,haO sets = .inl g→∃l,Sdr sets l)∧(∀A,haO sets = .inr A→Violates sets A∧A≠[]) :=
 match_ok (F:=sets.flatten.length+1) (by omega) sets.length 0 (fun _=>none) (by omega) ⟨fun _ _ h=>(by cases h),fun _ _ _ _ h=>(by cases h),fun t ht=>absurd ht (by omega),fun _ _ h=>(by cases h)⟩
theorem rp_ha (sets:List (List Int)):(∃l g,rpO sets=some l∧haO sets = .inl g∧Sdr sets l)∨(∃A,rpO sets=none∧haO sets = .inr A∧Violates sets A∧A≠[]):=by
 obtain ⟨h1,h2⟩:=haO_ok sets
 cases ho:rpO sets with
 | some l =>
  have hs:=rpO_some ho
  cases hh:haO sets with
  | inl g=>exact .inl ⟨l,g,rfl,rfl,hs⟩
  | inr A=>exact (violates_none (h2 A hh).1 hs).elim
 | none =>
  cases hh:haO sets with
  | inl g =>
   obtain ⟨l,hl⟩:=h1 g hh
   exact (rpO_none ho l hl).elim
  | inr A=>exact .inr ⟨A,rfl,rfl,h2 A hh⟩
end
section
theorem Latin.lt {n:Nat} {cs:List Int} (L:Latin n cs) {i j:Nat} (hi:i<n) (hj:j<n):Go.Proofs.YtpkghjoippcjeaaGreatDoor.nat cs (i*n+j)<n:=(L.nat (gcell_lt hi hj)).2
theorem Latin.rinj {n:Nat} {cs:List Int} (L:Latin n cs) {i j k:Nat} (hi:i<n) (hj:j<n) (hk:k<n) (h:Go.Proofs.YtpkghjoippcjeaaGreatDoor.nat cs (i*n+j)=Go.Proofs.YtpkghjoippcjeaaGreatDoor.nat cs (i*n+k)):j=k:=by
 by_cases e:j=k
 ·exact e
 ·have h1:=L.nat (gcell_lt hi hj)
  have h2:=L.nat (gcell_lt hi hk)
  have h3:=once_iff.1 L.once (i*n+j) (i*n+k) (by rw[L.len];exact gcell_lt hi hj) (by rw[L.len];exact gcell_lt hi hk) (by omega) (by unfold lineB;rw[(gcell_div hj).1,(gcell_div hk).1];simp) (by rw[h1.1,h2.1,h])
  omega
theorem Latin.cinj {n:Nat} {cs:List Int} (L:Latin n cs) {i j k:Nat} (hi:i<n) (hj:j<n) (hk:k<n) (h:Go.Proofs.YtpkghjoippcjeaaGreatDoor.nat cs (i*n+j)=Go.Proofs.YtpkghjoippcjeaaGreatDoor.nat cs (k*n+j)):i=k:=by
 by_cases e:i=k
 ·exact e
 ·have h1:=L.nat (gcell_lt hi hj)
  have h2:=L.nat (gcell_lt hk hj)
  have h3:=once_iff.1 L.once (i*n+j) (k*n+j) (by rw[L.len];exact gcell_lt hi hj) (by rw[L.len];exact gcell_lt hk hj) (fun e2=>e (by have:=congrArg (· / n) e2;simp only[(gcell_div hj).1] at this;exact this)) (by unfold lineB;rw[(gcell_div hj).2,(gcell_div hj).2];simp) (by rw[h1.1,h2.1,h])
  omega
theorem Latin.ron {n:Nat} {cs:List Int} (L:Latin n cs) {i x:Nat} (hi:i<n) (hx:x<n):∃j,j<n∧Go.Proofs.YtpkghjoippcjeaaGreatDoor.nat cs (i*n+j)=x:=by
 obtain ⟨j,hj,e⟩:=L.row hi (x:=(x:Int)) (by omega) (by omega)
 exact ⟨j,hj,by unfold Go.Proofs.YtpkghjoippcjeaaGreatDoor.nat;rw[e];exact Int.toNat_natCast x⟩
theorem inj_onto {n:Nat} {f:Nat→Nat} (hf:∀i,i<n→f i<n) (hi:∀i j,i<n→j<n→f i=f j→i=j) {x:Nat} (hx:x<n):∃i,i<n∧f i=x:=by
 have hm:=full_mem (n:=n) (l:=(List.range n).map fun i=>((f i:Nat):Int)) (by
  rw[List.nodup_iff_pairwise_ne,List.pairwise_map]
  refine (List.pairwise_lt_range (n:=n)).imp_of_mem (fun {a b} ha hb hab e=>?_)
  rw[List.mem_range] at ha hb
  have:=hi a b ha hb (by omega)
  omega) (by rw[List.length_map,List.length_range]) (fun y hy=>by
  obtain ⟨j,hj,e⟩:=List.mem_map.1 hy
  have:=hf j (List.mem_range.1 hj)
  omega) (x:=(x:Int)) (by omega) (by omega)
 obtain ⟨i,h1,e⟩:=List.mem_map.1 hm
 exact ⟨i,List.mem_range.1 h1,by omega⟩
end
end Go.Proofs.YtpkghjoippcjeaaGreatDoor
