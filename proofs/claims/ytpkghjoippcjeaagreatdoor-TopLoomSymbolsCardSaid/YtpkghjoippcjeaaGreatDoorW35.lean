/- Texts J1 to B3 of this proof, in one file. -/
import Derived.Test.YtpkghjoippcjeaaGreatDoorW01
import Derived.Test.YtpkghjoippcjeaaGreatDoorW02
import Derived.Test.YtpkghjoippcjeaaGreatDoorW18
import Derived.Test.YtpkghjoippcjeaaGreatDoorW34
namespace Go.Proofs.YtpkghjoippcjeaaGreatDoor
set_option maxRecDepth 100000
set_option maxHeartbeats 16000000
section
def lineB (C c d:Nat):Bool:=c / C==d / C||c % C==d % C
def twiceB (C:Nat) (cs:List Int):Bool:=(List.range cs.length).any fun c=>(List.range c).any fun d=>lineB C c d&&cs[c]?.getD 0==cs[d]?.getD 0&&decide (0≤cs[c]?.getD 0)
theorem twiceB_true {C:Nat} {cs:List Int}:twiceB C cs=true↔∃c d,c<cs.length∧d<c∧lineB C c d=true∧cs[c]?.getD 0=cs[d]?.getD 0∧0≤cs[c]?.getD 0:=by
 unfold twiceB
 simp only[List.any_eq_true,List.mem_range,Bool.and_eq_true,beq_iff_eq,decide_eq_true_eq]
 constructor
 ·rintro ⟨c,hc,d,hd,⟨h1,h2⟩,h3⟩;exact ⟨c,d,hc,hd,h1,h2,h3⟩
 ·rintro ⟨c,d,hc,hd,h1,h2,h3⟩;exact ⟨c,hc,d,hd,⟨h1,h2⟩,h3⟩
def symE (low:Int) (C:Nat) (cs:List Int):Int:=if (cs.any fun x=>decide (x<low)||decide ((C:Int)≤x))=true then 3 else if twiceB C cs=true then 17 else 0
def sqB (rows cols:Int) (cs:List Int):Bool:=decide (rows=cols)&&decide (1≤rows)&&decide (rows≤16)&&decide ((cs.length:Int)=rows*cols)
def sqE (low rows cols:Int) (cs:List Int):Int:=if sqB rows cols cs=true then symE low cols.toNat cs else 2
structure Latin (n:Nat) (cs:List Int):Prop where
 len:cs.length=n*n
 pos:1≤n
 le:n≤16
 num:∀x,x∈cs→0≤x∧x<(n:Int)
 once:twiceB n cs=false
theorem sqE_ok {rows cols:Int} {cs:List Int} (h:sqE 0 rows cols cs=0):∃n:Nat,rows=(n:Int)∧cols=(n:Int)∧Latin n cs:=by
 unfold sqE at h
 by_cases h1:sqB rows cols cs=true
 ·rw[if_pos h1] at h
  unfold sqB at h1
  simp only[Bool.and_eq_true,decide_eq_true_eq] at h1
  obtain ⟨⟨⟨e1,e2⟩,e3⟩,e4⟩:=h1
  subst e1
  obtain ⟨n,rfl⟩:=Int.eq_ofNat_of_zero_le (show 0≤rows by omega)
  unfold symE at h
  by_cases h2:(cs.any fun x=>decide (x<0)||decide (((n:Int).toNat:Int)≤x))=true
  ·rw[if_pos h2] at h;cases h
  ·rw[if_neg h2] at h
   by_cases h3:twiceB (n:Int).toNat cs=true
   ·rw[if_pos h3] at h;cases h
   ·refine ⟨n,rfl,rfl,⟨by exact_mod_cast e4,by omega,by omega,fun x hx=>?_,by simpa using h3⟩⟩
    rw[List.any_eq_true] at h2
    by_cases hx0:0≤x∧x<(n:Int)
    ·exact hx0
    ·exact absurd ⟨x,hx,by rw[Bool.or_eq_true,decide_eq_true_eq,decide_eq_true_eq];simp only[Int.toNat_natCast];omega⟩ h2
 ·rw[if_neg h1] at h;cases h
end
section
end
section
open Go Go.RowKit
def badP (p:List Int) (k:Nat):Bool:=decide (p[k]?.getD 0<0)||(decide ((p.length:Int)≤p[k]?.getD 0)||hasB (p.take k) (p[k]?.getD 0))
def permB (p:List Int):Bool:=!(List.range p.length).any (badP p)
def permE (p:List Int):Int:=if 256<p.length then 5 else if permB p=true then 0 else 14
theorem permB_miss {p:List Int} {k:Nat} (hk:k<p.length) (h:badP p k=true):permB p=false:=by
 unfold permB
 rw[Bool.not_eq_false',List.any_eq_true]
 exact ⟨k,by simpa using hk,h⟩
theorem permB_end {p:List Int} (h:∀k,k<p.length→badP p k=false):permB p=true:=by
 unfold permB
 rw[Bool.not_eq_true',List.any_eq_false]
 intro k hk
 rw[h k (by simpa using hk)]
 decide
structure PermP (p:List Int):Prop where
 num:∀k,k<p.length→0≤p[k]?.getD 0∧p[k]?.getD 0<(p.length:Int)
 inj:∀i j,i<p.length→j<p.length→p[i]?.getD 0=p[j]?.getD 0→i=j
theorem PermP.nodup {p:List Int} (h:PermP p):p.Nodup:=by
 unfold List.Nodup
 rw[List.pairwise_iff_getElem]
 intro i j hi hj hij e
 have:=h.inj i j hi hj (by rw[List.getElem?_eq_getElem hi,List.getElem?_eq_getElem hj,e])
 omega
theorem perm_upto {f:Nat→Bool} {k:Nat} (h:∀j,j<k→f j=false) (hk:f k=false):∀j,j<k+1→f j=false:=by
 intro j hj
 by_cases e:j=k
 ·rw[e];exact hk
 ·exact h j (by omega)
end
end Go.Proofs.YtpkghjoippcjeaaGreatDoor
