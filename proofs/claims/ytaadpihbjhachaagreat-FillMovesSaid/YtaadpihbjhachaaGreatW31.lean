/- Texts Q1 to Q1 of this proof, in one file. -/
import Derived.Test.YtaadpihbjhachaaGreatW02
import Derived.Test.YtaadpihbjhachaaGreatW30
namespace Go.Proofs.YtaadpihbjhachaaGreat
set_option maxRecDepth 100000
set_option maxHeartbeats 16000000
section
open Go Go.RowKit
attribute [local go_sem] zv
attribute [local go_sem] Oper.semAt_some
def fall:Nat→Nat→Nat
 | _,0=>1
 | n,k+1=>n*fall (n - 1) k
def perms:Nat→List Int→List (List Int)
 | 0,_=>[[]]
 | k+1,U=>U.flatMap fun x=>(perms k (U.erase x)).map (x :: ·)
theorem sum_const (c:Nat):∀U:List Int,(U.map fun _=>c).sum=U.length*c
 | []=>by simp
 | x :: U=>by rw[List.map_cons,List.sum_cons,sum_const c U,List.length_cons,Nat.succ_mul];omega
theorem perms_len:∀(k:Nat) (U:List Int),(perms k U).length=fall U.length k
 | 0,_=>rfl
 | k+1,U=>by
  simp only[perms,fall,List.length_flatMap,List.length_map]
  have:∀x,x∈U→(perms k (U.erase x)).length=fall (U.length - 1) k:=fun x hx=>by
   rw[perms_len k,List.length_erase_of_mem hx]
  rw[List.map_congr_left this,sum_const]
theorem mem_perms:∀(k:Nat) (U S:List Int),S.length=k→S.Nodup→(∀x,x∈S→x∈U)→S∈perms k U
 | 0,U,S,h,_,_=>by
  rw[List.eq_nil_of_length_eq_zero h];simp[perms]
 | k+1,U,x :: S,h,hn,hu=>by
  simp only[perms,List.mem_flatMap,List.mem_map]
  have hn2:=List.nodup_cons.1 hn
  exact ⟨x,hu x List.mem_cons_self,S,mem_perms k (U.erase x) S (by simpa using h) hn2.2 (fun y hy=>(List.mem_erase_of_ne (fun e=>hn2.1 (by rw[← e];exact hy))).2 (hu y (List.mem_cons_of_mem _ hy))),rfl⟩
theorem nodup_len:∀{l m:List (List Int)},l.Nodup→(∀x,x∈l→x∈m)→l.length≤m.length
 | [],m,_,_=>Nat.zero_le _
 | x :: l,m,hn,hs=>by
  have hx:=hs x List.mem_cons_self
  have hn':=List.nodup_cons.1 hn
  have:=nodup_len (l:=l) (m:=m.erase x) hn'.2 (fun y hy=>by
   rw[List.mem_erase_of_ne (fun e:y=x=>hn'.1 (by rw[← e];exact hy))]
   exact hs y (List.mem_cons_of_mem _ hy))
  rw[List.length_erase_of_mem hx] at this
  have:0<m.length:=List.length_pos_of_mem hx
  simp only[List.length_cons]
  omega
theorem found_paths {C:Cst} (he:Even C) (hf:Fine C):∀(n:Nat) (P:List Int),qu C P=n→OkP C P→Rch C P→∃Ss:List (List Int),qb C P=Ss.map (jc C)∧Ss.Pairwise (fun S T=>val C.O.length S<val C.O.length T)∧∀S,S∈Ss→SolP C S∧val C.O.length P<val C.O.length S:=by
 intro n
 induction n using Nat.strongRecOn with
 | _ n ih =>
  intro P hn ho hr
  rw[found_step he hf ho]
  cases hP:jJ C P with
  | none=>exact ⟨[],rfl,List.Pairwise.nil,fun S h=>by cases h⟩
  | some P' =>
   have hlt:=fuelP_lt he hf ho hP
   have hok:=nextP_ok he hf ho hP
   have hv:=nextP_val he hf ho hP
   have hr':=rch_next hr hP
   obtain ⟨Ss,h1,h2,h3⟩:=ih (qu C P') (by omega) P' rfl hok hr'
   simp only
   by_cases hc:(P'.length==C.O.length)=true∧jE C P'=false
   ·rw[if_pos hc]
    have hl:P'.length=C.O.length:=by simpa using hc.1
    refine ⟨P' :: Ss,by rw[h1];rfl,List.pairwise_cons.2 ⟨fun S hS=>(h3 S hS).2,h2⟩,fun S hS=>?_⟩
    rcases List.mem_cons.1 hS with rfl|hS
    ·refine ⟨⟨hok,hl,fun k hk=>?_⟩,hv⟩
     rcases Nat.lt_or_ge k S.length with h4|h4
     ·exact hr' k h4
     ·rw[List.take_of_length_le h4];exact hc.2
    ·exact ⟨(h3 S hS).1,by have:=(h3 S hS).2;omega⟩
   ·rw[if_neg hc]
    exact ⟨Ss,by rw[h1];rfl,h2,fun S hS=>⟨(h3 S hS).1,by have:=(h3 S hS).2;omega⟩⟩
theorem fall_le:∀n,n≤7→fall n n≤5040:=by decide
theorem sols_count {cells:Int} {ls:List (List Int)} {sum:Int} {g:List Int} (G:GoodTask cells ls sum g) (h7:(zj g).length≤7):(jk ls sum g []).length≤5040:=by
 have e:jk ls sum g []=sols (gC cells ls sum g) []:=(sols_pl (gC cells ls sum g) []).symm
 rw[e]
 unfold sols
 split
 ·split <;> simp
 ·obtain ⟨Ss,h1,h2,h3⟩:=found_paths (gC_even G) (gC_fine G) _ [] rfl ⟨by simp,fun x hx=>(by cases hx),List.nodup_nil⟩ (fun k hk=>absurd hk (Nat.not_lt_zero _))
  rw[h1,List.length_map]
  have hn:Ss.Nodup:=h2.imp (fun {a b} h e=>by rw[e] at h;exact absurd h (Nat.lt_irrefl _))
  have hU:(zh g).length=(zj g).length:=G.even
  have hm:∀S,S∈Ss→S∈perms (zj g).length (zh g):=fun S hS=>by
   have h4:=(h3 S hS).1
   exact mem_perms _ _ S h4.len h4.ok.nodup h4.ok.num
  have h5:=nodup_len hn hm
  rw[perms_len,hU] at h5
  have:=fall_le _ h7
  omega
end
end Go.Proofs.YtaadpihbjhachaaGreat
