/- Texts Y4 to Y7 of this proof, in one file. -/
import Derived.Test.YtcblpobiefmjmaaGreatW10
import Derived.Test.YtcblpobiefmjmaaGreatW31
import Derived.Test.YtcblpobiefmjmaaGreatW32
import Derived.Test.YtcblpobiefmjmaaGreatW44
import Derived.Test.YtcblpobiefmjmaaGreatW45
namespace Go.Proofs.YtcblpobiefmjmaaGreat
set_option maxRecDepth 100000
set_option maxHeartbeats 16000000
section
open Go Go.RowKit
theorem go_cont {cells:Int} {ls:List (List Int)} {sum:Int} {g:List Int} (G:GoodTask cells ls sum g):∀(k:Nat) (P:List Int) (t:Int),OkG g P→Rch (plC ls sum g) P →
  goR ls sum g k (P,t,false)=(((contL ls sum g k P).1,t+((contL ls sum g k P).2.1:Int),(contL ls sum g k P).2.2.2),(contL ls sum g k P).2.2.1)
 | 0,P,t,_,_=>by simp[goR,contL]
 | k+1,P,t,ho,hr=>by
  have he:=step_eq G ho hr
  simp only[goR,contL]
  rw[if_neg (by decide),he]
  cases hs:nextP (plC ls sum g) P with
  | none=>simp
  | some P' =>
   rw[hs] at he
   have ho':=stpR_ok G ho he
   have hr':=rch_next hr hs
   simp only
   rw[go_cont G k P' (t+1) ho' hr']
   have hf:(if foundR ls sum g P'=true then [fillG g P'] else [])=foundAt ls sum g P':=by
    unfold foundAt;rw[found_eq G ho' hr'];rfl
   rw[hf]
   refine Prod.ext (Prod.ext rfl (Prod.ext ?_ rfl)) rfl
   show t+1+(((contL ls sum g k P').2.1:Nat):Int)=t+(((contL ls sum g k P').2.1+1:Nat):Int)
   omega
theorem contR_go {ls:List (List Int)} {sum:Int} {g:List Int} (h0:(openL g).length≠0) (B:Nat) (s:Sta):contR ls sum g B s=goR ls sum g B s:=by
 unfold contR preR
 rw[if_neg (fun h=>h0 h.2.2.1)]
 rfl
theorem contR_done (ls:List (List Int)) (sum:Int) (g:List Int) (B:Nat) (P:List Int) (t:Int):contR ls sum g B (P,t,true)=((P,t,true),[]):=by
 unfold contR preR
 rw[goR_done ls sum g B _ rfl,if_neg (fun h=>absurd h.2.1 (by simp))]
 rfl
theorem contR_zero (ls:List (List Int)) (sum:Int) (g:List Int) (s:Sta):contR ls sum g 0 s=(s,[]):=by
 unfold contR preR
 rw[if_neg (fun h=>absurd h.1 (by decide))]
 rfl
theorem contR_open {cells:Int} {ls:List (List Int)} {sum:Int} {g:List Int} (G:GoodTask cells ls sum g) (h0:(openL g).length=0) {B:Nat} (hB:0<B) (t:Int):contR ls sum g B ([],t,false)=(([],t,true),(solsL ls sum g []).take 1):=by
 have hs:stpR ls sum g []=none:=by
  unfold stpR deadR
  rw[h0]
  rfl
 have hw:=wrong_eq G (OkG.nil g) (fun k hk=>absurd hk (Nat.not_lt_zero _))
 obtain ⟨m,rfl⟩:∃m,B=m+1:=⟨B - 1,by omega⟩
 have h0':(plC ls sum g).O.length=0:=h0
 unfold contR
 simp only[goR]
 rw[if_neg (by decide),hs]
 unfold preR foundR solsL sols
 rw[if_pos h0',h0,hw]
 cases wrongB (plC ls sum g) [] <;> rfl
theorem good_state {ls:List (List Int)} {sum:Int} {g P:List Int} {t:Int} {d:Bool} (h:stateErr ls sum g P t d=0):OkG g P∧Rch (plC ls sum g) P∧(d=true→P=[])∧0≤t∧t≤999999999:=by
 unfold stateErr at h
 by_cases e:headErr g P t d=0
 ·rw[if_neg (by simpa using e)] at h
  have h1:=headErr_len e
  have h2:=path_okP (C:=plC [] 0 g) h1.2 h1.1 P.length (Nat.le_refl _)
  rw[List.take_length] at h2
  have h3:=take_badAt (k:=P.length) (errs_zero h)
  rw[List.take_length] at h3
  have h4:=firstL_all e
  have h5:=whenV_zero (by decide) (h4 _ List.mem_cons_self)
  have h6:=whenV_zero (by decide) (h4 _ (List.mem_cons_of_mem _ List.mem_cons_self))
  rw[Bool.or_eq_false_iff] at h5 h6
  refine ⟨h2,h3,fun hd=>?_,by simpa using h6.1,by simpa using h6.2⟩
  have h7:=h5.2
  rw[hd,Bool.true_and,decide_eq_false_iff_not] at h7
  exact List.eq_nil_of_length_eq_zero (by omega)
 ·rw[if_pos e] at h;exact absurd h e
end
section
open Go Go.RowKit
structure SOk (ls:List (List Int)) (sum:Int) (g:List Int) (s:Sta):Prop where
 ok:OkG g s.1
 rch:Rch (plC ls sum g) s.1
 dn:s.2.2=true→s.1=[]
theorem SOk.nil (ls:List (List Int)) (sum:Int) (g:List Int) (t:Int) (d:Bool):SOk ls sum g ([],t,d):=⟨OkG.nil g,fun _ hk=>absurd hk (Nat.not_lt_zero _),fun _=>rfl⟩
theorem goR_ok {cells:Int} {ls:List (List Int)} {sum:Int} {g:List Int} (G:GoodTask cells ls sum g):∀(k:Nat) (s:Sta),SOk ls sum g s→SOk ls sum g (goR ls sum g k s).1∧s.2.1≤(goR ls sum g k s).1.2.1∧(goR ls sum g k s).1.2.1≤s.2.1+k∧((goR ls sum g k s).1.2.2=false→(goR ls sum g k s).1.2.1=s.2.1+k)
 | 0,s,h=>⟨h,by simp[goR],by simp[goR],fun _=>by simp[goR]⟩
 | k+1,(P,t,d),h=>by
  simp only[goR]
  cases d with
  | true=>rw[if_pos rfl];exact ⟨h,Int.le_refl _,by show t≤t+_;omega,fun h=>by cases h⟩
  | false =>
   rw[if_neg (by decide)]
   cases hs:stpR ls sum g P with
   | none=>exact ⟨SOk.nil _ _ _ _ _,Int.le_refl _,by show t≤t+_;omega,fun h=>by cases h⟩
   | some P' =>
    have hn:=step_eq G h.ok h.rch
    rw[hs] at hn
    obtain ⟨h1,h2,h3,h4⟩:=goR_ok G k (P',t+1,false) ⟨stpR_ok G h.ok hs,rch_next h.rch hn.symm,fun h=>by cases h⟩
    simp only
    simp only at h2 h3 h4
    exact ⟨h1,by omega,by omega,fun h=>by have:=h4 h;omega⟩
theorem contR_fst (ls:List (List Int)) (sum:Int) (g:List Int) (B:Nat) (s:Sta):(contR ls sum g B s).1=(goR ls sum g B s).1:=rfl
theorem goR_app {ls:List (List Int)} {sum:Int} {g:List Int} (b:Nat):∀(a:Nat) (s:Sta),goR ls sum g (a+b) s=((goR ls sum g b (goR ls sum g a s).1).1,(goR ls sum g a s).2++(goR ls sum g b (goR ls sum g a s).1).2)
 | 0,s=>by simp[goR]
 | a+1,s=>by
  by_cases hd:s.2.2=true
  ·rw[goR_done _ _ _ _ _ hd,goR_done _ _ _ _ _ hd,goR_done _ _ _ _ _ hd]
   simp
  ·rw[show a+1+b=(a+b)+1 from by omega]
   simp only[goR]
   rw[if_neg hd,if_neg hd]
   cases hs:stpR ls sum g s.1 with
   | none =>
    simp only
    rw[goR_done _ _ _ b ([],s.2.1,true) rfl]
    simp
   | some P' =>
    simp only
    rw[goR_app b a (P',s.2.1+1,false),List.append_assoc]
theorem contR_app {cells:Int} {ls:List (List Int)} {sum:Int} {g:List Int} (G:GoodTask cells ls sum g) (a b:Nat) {s:Sta} (h:SOk ls sum g s):contR ls sum g (a+b) s=((contR ls sum g b (contR ls sum g a s).1).1,(contR ls sum g a s).2++(contR ls sum g b (contR ls sum g a s).1).2):=by
 by_cases h0:(openL g).length=0
 ·obtain ⟨P,t,d⟩:=s
  cases d with
  | true=>rw[contR_done,contR_done,contR_done];simp
  | false =>
   have hP:P=[]:=List.eq_nil_of_length_eq_zero (by have h1:=h.ok.len;simp only at h1;omega)
   subst hP
   rcases Nat.eq_zero_or_pos a with rfl|ha
   ·rw[contR_zero,Nat.zero_add];simp
   ·rw[contR_open G h0 (by omega) t,contR_open G h0 ha t,contR_done]
    simp
 ·rw[contR_go h0,contR_go h0,contR_go h0]
  exact goR_app b a s
def restA (ls:List (List Int)) (sum:Int) (g:List Int) (s:Sta):List (List Int):=if s.2.2=true then [] else solsL ls sum g s.1
theorem sols_next {cells:Int} {ls:List (List Int)} {sum:Int} {g:List Int} (G:GoodTask cells ls sum g) (h0:(openL g).length≠0) {P:List Int} (ho:OkG g P):solsL ls sum g P=match nextP (plC ls sum g) P with
  | none=>[]
  | some P'=>foundAt ls sum g P'++solsL ls sum g P':=by
 have e:∀Q,solsL ls sum g Q=found (gC cells ls sum g) Q:=fun Q=>by
  rw[show solsL ls sum g Q=sols (gC cells ls sum g) Q from (sols_pl (gC cells ls sum g) Q).symm]
  unfold sols
  rw[if_neg (show (gC cells ls sum g).O.length≠0 from h0)]
 have e2:nextP (gC cells ls sum g) P=nextP (plC ls sum g) P:=nextP_pl (gC cells ls sum g) P
 rw[e,found_step (gC_even G) (gC_fine G) (P:=P) ⟨ho.1,ho.2,ho.3⟩,e2]
 cases nextP (plC ls sum g) P with
 | none=>rfl
 | some P' =>
  simp only
  rw[e]
  congr 1
  unfold foundAt
  by_cases hc:(P'.length==(openL g).length&&!wrongB (plC ls sum g) P')=true
  ·rw[if_pos hc]
   rw[Bool.and_eq_true,Bool.not_eq_true'] at hc
   exact if_pos hc
  ·rw[if_neg hc]
   rw[Bool.and_eq_true,Bool.not_eq_true'] at hc
   exact if_neg hc
theorem goR_rest {cells:Int} {ls:List (List Int)} {sum:Int} {g:List Int} (G:GoodTask cells ls sum g) (h0:(openL g).length≠0):∀(k:Nat) (s:Sta),SOk ls sum g s→(goR ls sum g k s).2++restA ls sum g (goR ls sum g k s).1=restA ls sum g s
 | 0,s,_=>by simp[goR]
 | k+1,(P,t,d),h=>by
  simp only[goR]
  cases d with
  | true=>rw[if_pos rfl];rfl
  | false =>
   rw[if_neg (by decide)]
   have hn:=step_eq G h.ok h.rch
   have hs2:=sols_next G h0 h.ok
   simp only at hn hs2
   rw[← hn] at hs2
   show _=solsL ls sum g P
   rw[hs2]
   cases hs:stpR ls sum g P with
   | none=>rfl
   | some P' =>
    rw[hs] at hn
    have ho':=stpR_ok G h.ok hs
    have hr':=rch_next h.rch hn.symm
    have ih:=goR_rest G h0 k (P',t+1,false) ⟨ho',hr',fun h=>by cases h⟩
    simp only
    rw[List.append_assoc,ih]
    congr 1
    unfold foundAt
    rw[found_eq G ho' hr']
    rfl
theorem contR_rest {cells:Int} {ls:List (List Int)} {sum:Int} {g:List Int} (G:GoodTask cells ls sum g) (B:Nat) {s:Sta} (h:SOk ls sum g s):(contR ls sum g B s).2++restA ls sum g (contR ls sum g B s).1=restA ls sum g s:=by
 by_cases h0:(openL g).length=0
 ·obtain ⟨P,t,d⟩:=s
  cases d with
  | true=>rw[contR_done];rfl
  | false =>
   have hP:P=[]:=List.eq_nil_of_length_eq_zero (by have h1:=h.ok.len;simp only at h1;omega)
   subst hP
   rcases Nat.eq_zero_or_pos B with rfl|ha
   ·rw[contR_zero];rfl
   ·rw[contR_open G h0 ha t]
    show (solsL ls sum g []).take 1++[]=solsL ls sum g []
    rw[List.append_nil]
    apply List.take_of_length_le
    unfold solsL sols
    rw[if_pos (show (plC ls sum g).O.length=0 from h0)]
    split <;> simp
 ·rw[contR_go h0]
  exact goR_rest G h0 B s h
theorem SOk.err {ls:List (List Int)} {sum:Int} {g:List Int} {P:List Int} {t:Int} {d:Bool} (h:SOk ls sum g (P,t,d)) (h1:0≤t) (h2:t≤999999999):stateErr ls sum g P t d=0:=by
 have hok:=h.ok
 have hrc:=h.rch
 have hd:=h.dn
 simp only at hok hrc hd
 have hnum:∀k,k<P.length→1≤P[k]?.getD 0∧P[k]?.getD 0≤(g.length:Int)∧hasB g (P[k]?.getD 0)=false:=fun k hk=>by
  have hm:P[k]?.getD 0∈P:=by rw[List.getElem?_eq_getElem hk];exact List.getElem_mem hk
  have:=mem_unused.1 (OkP.num hok _ hm)
  exact this
 have hpath:pathErr g.length g P=0:=by
  unfold pathErr
  refine errs_none fun j hj=>?_
  have hb:=hnum j hj
  refine pathBad_ok (by omega) (by omega) hb.2.2 ?_
  rw[Bool.eq_false_iff]
  intro hh
  have hm:=hasB_iff.1 hh
  obtain ⟨i,hi,e⟩:=List.getElem_of_mem hm
  rw[List.length_take] at hi
  rw[List.getElem_take,List.getElem?_eq_getElem hj,Option.getD_some] at e
  have:=(List.getElem_inj hok.3).1 e
  omega
 have hhead:headErr g P t d=0:=by
  unfold headErr
  have e1:(decide ((openL g).length<P.length)||(d&&decide (0<P.length)))=false:=by
   rw[Bool.or_eq_false_iff]
   refine ⟨decide_eq_false (by have:=hok.len;omega),?_⟩
   cases d with
   | false=>rfl
   | true=>rw[hd rfl];rfl
  have e2:(decide (t<0)||decide (999999999<t))=false:=by
   rw[decide_eq_false (by omega),decide_eq_false (by omega)];rfl
  rw[e1,e2,hpath]
  rfl
 unfold stateErr
 rw[if_neg (by rw[hhead];decide)]
 refine errs_none fun j hj=>?_
 unfold badAt
 rw[if_neg]
 rw[hrc j hj]
 decide
def partS (ls:List (List Int)) (sum:Int) (g:List Int) (T:Nat):Sta × List (List Int):=contR ls sum g T ([],0,false)
theorem part_add {cells:Int} {ls:List (List Int)} {sum:Int} {g:List Int} (G:GoodTask cells ls sum g) (T b:Nat):partS ls sum g (T+b)=((contR ls sum g b (partS ls sum g T).1).1,(partS ls sum g T).2++(contR ls sum g b (partS ls sum g T).1).2):=contR_app G T b (SOk.nil _ _ _ _ _)
theorem part_ok {cells:Int} {ls:List (List Int)} {sum:Int} {g:List Int} (G:GoodTask cells ls sum g) (T:Nat) (hT:T≤10000):SOk ls sum g (partS ls sum g T).1∧stateErr ls sum g (partS ls sum g T).1.1 (partS ls sum g T).1.2.1 (partS ls sum g T).1.2.2=0∧0≤(partS ls sum g T).1.2.1∧(partS ls sum g T).1.2.1≤T∧(partS ls sum g T).2++restA ls sum g (partS ls sum g T).1=solsL ls sum g []:=by
 obtain ⟨h1,h2,h3,_⟩:=goR_ok G T ([],0,false) (SOk.nil ls sum g 0 false)
 have h4:=contR_rest G T (SOk.nil ls sum g 0 false)
 rw[← contR_fst] at h1 h2 h3
 simp only at h2 h3
 refine ⟨h1,?_,h2,by show (contR ls sum g T ([],0,false)).1.2.1≤_;omega,h4⟩
 exact SOk.err (P:=(partS ls sum g T).1.1) (t:=(partS ls sum g T).1.2.1) (d:=(partS ls sum g T).1.2.2) h1 h2 (by show (contR ls sum g T ([],0,false)).1.2.1≤_;omega)
theorem part_tried {cells:Int} {ls:List (List Int)} {sum:Int} {g:List Int} (G:GoodTask cells ls sum g) (B:Nat) {s:Sta} (h:SOk ls sum g s):(contR ls sum g B s).1.2.1≤s.2.1+B∧((contR ls sum g B s).1.2.2=false→(contR ls sum g B s).1.2.1=s.2.1+B):=by
 obtain ⟨_,_,h3,h4⟩:=goR_ok G B s h
 exact ⟨h3,h4⟩
theorem fall_le5:∀n,n≤5→fall n n≤120:=by decide
theorem sols_count5 {cells:Int} {ls:List (List Int)} {sum:Int} {g:List Int} (G:GoodTask cells ls sum g) (h5:(openL g).length≤5):(solsL ls sum g []).length≤120:=by
 have e:solsL ls sum g []=sols (gC cells ls sum g) []:=(sols_pl (gC cells ls sum g) []).symm
 rw[e]
 unfold sols
 split
 ·split <;> simp
 ·obtain ⟨Ss,h1,h2,h3⟩:=found_paths (gC_even G) (gC_fine G) _ [] rfl ⟨by simp,fun x hx=>(by cases hx),List.nodup_nil⟩ (fun k hk=>absurd hk (Nat.not_lt_zero _))
  rw[h1,List.length_map]
  have hn:Ss.Nodup:=h2.imp (fun {a b} h e=>by rw[e] at h;exact absurd h (Nat.lt_irrefl _))
  have hU:(unusedL g).length=(openL g).length:=G.even
  have hm:∀S,S∈Ss→S∈perms (openL g).length (unusedL g):=fun S hS=>by
   have h4:=(h3 S hS).1
   exact mem_perms _ _ S h4.len h4.ok.nodup h4.ok.num
  have h6:=nodup_len hn hm
  rw[perms_len,hU] at h6
  have:=fall_le5 _ h5
  omega
end
section
open Go Go.RowKit
end
section
open Go Go.RowKit
theorem state_te {cells:Int} {ls:List (List Int)} {sum:Int} {g P:List Int} {t:Int} {d:Bool} (hte:taskErr cells ls sum g=0):stateE cells ls sum g P t d=stateErr ls sum g P t d:=by
 unfold stateE
 rw[if_neg (by simpa using hte)]
end
end Go.Proofs.YtcblpobiefmjmaaGreat
