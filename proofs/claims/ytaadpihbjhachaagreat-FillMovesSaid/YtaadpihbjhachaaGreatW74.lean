/- Texts B18 to B18 of this proof, in one file. -/
import Derived.Test.YtaadpihbjhachaaGreatW17
import Derived.Test.YtaadpihbjhachaaGreatW30
import Derived.Test.YtaadpihbjhachaaGreatW73
import Derived.Lib.AppendZeros
namespace Go.Proofs.YtaadpihbjhachaaGreat
set_option maxRecDepth 100000
set_option maxHeartbeats 16000000
section
open Go Go.RowKit
attribute [local go_sem] zv
attribute [local go_sem] Oper.semAt_some
theorem wpList_append_anyN {P:Program} (w:World) {ops:Array Oper} {rest:List Oper} {o:Oper} {a:Act} {Q:Exit→Act→World→Prop} (hgd:o.guard=none) (s x:Operand) (t:TypeId)
  (ho:o.op = .call { callee := .builtin .append,args:=#[s,x],argTypes:=#[t,t] })
  (B:Nat) (e:TypeId) (i:TypeInfo) (z:Value) (size bytes:Nat) (ht:P.underlying t=some (.slice e)) (hi:P.info? e=some i) (hz:i.zero=some z)
  (hsize:i.size=size) (hby:i.bytes=bytes) (hzs:z.cells.size=size) (hsz:0<size)
  (v:Value) (n:Nat) (xs:List Value) (hs:a.eval s=v) (hown:w.ownsRow B e size v n xs) (hB:B≤w.heap.size)
  (ad:Option Addr) (m c:Nat) (news:List Value) (hx:a.eval x = .slice ad m c) (hl:news.length=m*size) (hnews:SrcOk w ad m news) (h1:∀u∈news,u.oneCell'=true)
  (h63:n+m≤maxLen) (hbytes:(n+m)*bytes≤140737488355328)
  (h:∀v' w',w'.ownsRow B e size v' (n+m) (xs++news)→Stays (fun k=>v.ownBlock=some k) w w'→(∀k,v'.ownBlock=some k→v.ownBlock=some k∨w.heap.size≤k)→wpList P ops Q rest (a.put o.dst v') w'):wpList P ops Q (o :: rest) a w:=by
 rcases hnews with ⟨p,rfl,hn⟩|⟨rfl,rfl⟩
 ·refine zW w hgd s x t ho e i z size bytes ht hi hz hsize hby hzs hsz v n xs hs (zI hown (Nat.zero_le _)) p m c news hx hl hn h1 h63 hbytes ?_
  intro v' w' ho' hg hk
  refine h v' w' ?_ (Stays.grown hg (fun k e=>e)) hk
  refine ⟨ho'.1,ho'.2.imp id ?_⟩
  rintro ⟨g,cap,cur,rfl,_,r⟩
  refine ⟨g,cap,cur,rfl,?_,r⟩
  rcases hk g rfl with e|e
  ·exact zL hown e
  ·omega
 ·have hn:news=[]:=List.eq_nil_of_length_eq_zero (by rw[hl,Nat.zero_mul])
  subst hn
  obtain ⟨b,cap,hv,hcap⟩:∃b cap,v = .slice b n cap∧n≤cap:=by
   rcases hown.2 with ⟨h2,h3⟩|⟨g,cap,cur,h2,_,_,h3,_⟩
   ·exact ⟨none,0,by rw[h2,h3],by omega⟩
   ·exact ⟨_,cap,h2,h3⟩
  refine wpList_plain hgd fun _ hK=>?_
  have hr:=run_append_nothing (P:=P) w t o.type e i ht hi b n cap c hcap
  unfold Oper.wp execOp
  simp only[ho,resolve,invoke,builtin,Sem.run_bind,Sem.run_pure,Result.andThen_ok,List.map_toArray,List.map_cons,List.map_nil,hs,hv,hx,hr]
  refine hK _ _ ?_
  rw[← hv]
  exact h v w (by simpa using hown) (Stays.refl _ _) (fun k e => .inl e)
theorem TC.src {w:World} {a:Option Addr} {n:Nat} {T:List Nd} (h:TC w a n T):SrcOk w a n (qL T):=by
 cases a with
 | none =>
  refine .inr ⟨rfl,?_⟩
  rcases Nat.eq_zero_or_pos n with e|e
  ·exact e
  ·have hl:=h.1.1
   obtain ⟨_,_,e2,_⟩:=h.2 0 (T[0]'(by omega)) (List.getElem?_eq_getElem _)
   cases e2
 | some p =>
  refine .inl ⟨p,rfl,fun j u hj=>?_⟩
  have hlt:=(List.getElem?_eq_some_iff.1 hj).1
  rw[ndsL_len] at hlt
  have hk:j / 5<T.length:=by omega
  obtain ⟨b,off,e,_,c0,c1,c2,c3,c4⟩:=h.2 (j / 5) (T[j / 5]) (List.getElem?_eq_getElem hk)
  cases e
  have hg:=ndsL_get T (j / 5) (j % 5) (T[j / 5]) (List.getElem?_eq_getElem hk) (by omega)
  rw[show j / 5*5+j % 5=j from by omega,hj] at hg
  have hadd:((⟨b,off,none⟩:Addr).add j)=⟨b,off+j / 5*5+j % 5,none⟩:=by unfold Addr.add;split <;> simp_all <;> omega
  rw[hadd]
  have h5:j % 5<5:=by omega
  generalize j % 5=q at h5 hg ⊢
  match q,h5 with
  | 0,_=>rw[hg];exact c0
  | 1,_=>rw[hg];exact c1
  | 2,_=>rw[hg];exact c2
  | 3,_=>rw[hg];exact c3
  | 4,_=>rw[hg];exact c4
theorem ndsL_one:∀T:List Nd,∀u∈qL T,u.oneCell'=true
 | [],u,h=>by simp[qL] at h
 | d :: T,u,h=>by
  simp only[qL,List.mem_append] at h
  rcases h with h|h
  ·simp only[ndA,List.mem_cons,List.not_mem_nil,or_false] at h
   rcases h with rfl|rfl|rfl|rfl|rfl <;> rfl
  ·exact ndsL_one T u h
def NC (w:World) (a:Option Addr) (n:Nat) (Ts:List (List Nd)):Prop :=
 (Ts.length=n∧n≤1000)∧∀k,k<n→∃b off a' n' c',a=some ⟨b,off,none⟩∧b<w.heap.size∧w.cell? ⟨b,off+k,none⟩=some (.slice a' n' c')∧TC w a' n' (Ts[k]?.getD [])∧n'≤c'
theorem NC.mono {w w':World} {a:Option Addr} {n:Nat} {Ts:List (List Nd)} (h:NC w a n Ts) (hb:Below w.heap.size w w'):NC w' a n Ts :=
 ⟨h.1,fun k hk=>by
  obtain ⟨b,off,a',n',c',e,hlt,hc,hi⟩:=h.2 k hk
  exact ⟨b,off,a',n',c',e,Nat.lt_of_lt_of_le hlt hb.size,((zF hb).1 b _ hlt).trans hc,hi.1.mono hb,hi.2⟩⟩
theorem zeros_len (m:Nat):(Builtin.zeroCells #[.string ⟨#[]⟩,.int .i64 0,.int .i64 0,.int .i64 0,.int .i64 0] m).size=m*5:=by
 simp[Builtin.zeroCells]
theorem ngrow_c (m:Nat) (w:World) (hm:m≤1000000) :
  Calls Tryz.prog 213 #[.slice none 0 0,.int .i64 (m:Int)] w fun e w'=>∃v,e = .returned v∧w'.ownsRow w.heap.size 104 5 v 0 []∧Below w.heap.size w w':=by
 obtain ⟨i0,hi,hz0,hzz,hz2⟩:∃i0,Tryz.prog.info? 104=some i0∧i0.zero=some (.agg #[.string ⟨#[]⟩,.int .i64 0,.int .i64 0,.int .i64 0,.int .i64 0])∧i0.size=5∧i0.bytes=48:=by
  have h:=infoNode
  cases hi:Tryz.prog.info? 104 with
  | none=>rw[hi] at h;cases h
  | some i0 =>
   rw[hi] at h
   simp only[Option.map_some,Option.some.injEq,Prod.mk.injEq] at h
   exact ⟨i0,rfl,h.1,h.2.1,h.2.2⟩
 have h1:¬((m:Int)<0):=by omega
 by_cases h0:m=0
 ·subst h0
  go_enter Tryz.func213,Tryz.ntmps213
  go_wp2
  go_ret
  exact ⟨_,rfl,World.ownsRow_nil _ _ _ _,Below.refl _ _⟩
 ·have hpos:(m:Int)>0:=by omega
  have hr:=Go.Lib.run_append_nil_zeros (P:=Tryz.prog) w 44 3 44 104 i0 (.agg #[.string ⟨#[]⟩,.int .i64 0,.int .i64 0,.int .i64 0,.int .i64 0]) .i64 .i64 Tryz.underlying44 Tryz.underlying3 hi hz0 m (by omega) (by omega) (by omega) (by rw[hz2];omega)
  go_enter Tryz.func213,Tryz.ntmps213
  go_wp2_with (at_builtin;refine Lib.wpList_append_run _ rfl _ _ _ _ rfl _ _ rfl rfl _ _ hr ?_)
  go_ret
  refine ⟨_,rfl,⟨rfl,.inr ⟨w.heap.size,grownCap w m 0 104,_,rfl,Nat.le_refl _,World.alloc_heap_new _ _,Nat.zero_le _,?_,?_,rfl⟩⟩,((Below.refl _ _).drew.alloc (Nat.le_refl _) _)⟩
  ·exact grownCap_le_maxLen _ _ _ _ (by unfold maxLen;omega)
  ·have:=grownCap_ge w m 0 104;rw[Array.size_append,zeros_len,zeros_len];omega
def catN (Ts:List (List Nd)) (k:Nat):List Nd:=(Ts.take k).flatten
theorem catN_succ {Ts:List (List Nd)} {k:Nat} (h:k<Ts.length):catN Ts (k+1)=catN Ts k++Ts[k]?.getD []:=by
 unfold catN
 rw[zP Ts [] k h,List.flatten_append,List.flatten_singleton]
theorem catN_le (Ts:List (List Nd)) (k:Nat):(catN Ts k).length≤Ts.flatten.length:=by
 unfold catN
 conv=>rhs;rw[← List.take_append_drop k Ts,List.flatten_append,List.length_append]
 omega
theorem nconcat_c (a:Option Addr) (n c:Nat) (Ts:List (List Nd)) (w:World) (h:NC w a n Ts) (hT:Ts.flatten.length≤1000000) :
  Calls Tryz.prog 152 #[.slice a n c] w fun e w'=>∃v,e = .returned v∧w'.ownsRow w.heap.size 104 5 v Ts.flatten.length (qL Ts.flatten)∧Below w.heap.size w w':=by
 obtain ⟨i0,hi,hz0,hzz,hz2⟩:∃i0,Tryz.prog.info? 104=some i0∧i0.zero=some (.agg #[.string ⟨#[]⟩,.int .i64 0,.int .i64 0,.int .i64 0,.int .i64 0])∧i0.size=5∧i0.bytes=48:=by
  have h:=infoNode
  cases hi:Tryz.prog.info? 104 with
  | none=>rw[hi] at h;cases h
  | some i0 =>
   rw[hi] at h
   simp only[Option.map_some,Option.some.injEq,Prod.mk.injEq] at h
   exact ⟨i0,rfl,h.1,h.2.1,h.2.2⟩
 have H:=za h
 have hn:=h.1.2
 have hll:=za h.1.1
 have HS:Hid (∀k,k<n→catN Ts (k+1)=catN Ts k++Ts[k]?.getD []):=fun k hk=>catN_succ (by rw[h.1.1];exact hk)
 have HE:Hid (catN Ts n=Ts.flatten):=by unfold Hid catN;rw[← h.1.1,List.take_length]
 have HB:Hid (∀k,(catN Ts k).length≤1000000):=fun k=>Nat.le_trans (catN_le Ts k) hT
 have H0:Hid (catN Ts 0=[]):=rfl
 generalize Ts.flatten=F at HE hT ⊢
 generalize hcat:catN Ts=C at HS HE HB H0
 clear hcat h
 go_enter Tryz.func152,Tryz.ntmps152
 go_wp2
 go_loop [3,5,11] (fun s _ i=>∃k:Nat,k≤n∧i = .int .i64 k∧s = .int .i64 ((C k).length:Int)) (fun _ _ i=>n - (intOf i).toNat)
 case atStart=>exact ⟨0,by omega,rfl,by rw[H0.out];rfl⟩
 case round =>
  obtain ⟨k,hk,rfl,rfl⟩:=hrel
  have hbk:=HB.out k
  by_cases hlt:k<n
  ·obtain ⟨b,off,a',n',c',rfl,hbb,hc,ht,_⟩:=H.out.2 k hlt
   have hS:=za (HS.out k hlt)
   have htl:=ht.1.1
   have hbk1:=HB.out (k+1)
   have hL:Hid ((C (k+1)).length=(C k).length+n'):=by unfold Hid;rw[hS.out,List.length_append,htl]
   rw[hL.out] at hbk1
   generalize (C k).length=t at hbk hbk1 hL ⊢
   clear hS htl ht
   have hneg:¬((t:Int)+(n':Int)<0):=by omega
   go_wp2
   go_round
   case rel=>exact ⟨k+1,by omega,by go_num,by rw[hL.out];go_num⟩
   case measure=>simp[intOf];omega
  ·have e:k=n:=by omega
   subst e
   have HG:=za (ngrow_c (C k).length w hbk)
   rw[HE.out] at hbk HG ⊢
   generalize hFl:F.length=fl at hbk HG ⊢
   have HFl:=za hFl
   clear hFl
   go_wp2_with fail
   refine HG.out.mono ?_
   rintro _ w1 ⟨v1,rfl,hown1,hb1⟩
   have HO1:=za hown1
   have hz1:=hb1.size
   clear hown1 HG
   go_wp2_with fail
   go_loopw [6,8,27] (fun ov _ iv wr=>∃(j:Nat),j≤k∧iv = .int .i64 j∧wr.ownsRow w.heap.size 104 5 ov (C j).length (qL (C j))∧Below w.heap.size w wr) (fun _ _ iv _=>k - (intOf iv).toNat)
   case atStart=>exact ⟨0,by omega,rfl,by rw[H0.out];exact HO1.out,hb1⟩
   case round =>
    obtain ⟨j,hj,rfl,hown,hbr⟩:=hrel
    have hszr:=hbr.size
    have hbj:=HB.out j
    by_cases hlt2:j<k
    ·have hji:(j:Int)<(k:Int):=by omega
     obtain ⟨b,off,a',n',c',rfl,hbb,hc,ht,_⟩:=(H.out.mono hbr).2 j hlt2
     have hS:=za (HS.out j hlt2)
     have hbj1:=HB.out (j+1)
     have htl:=za ht.1.1
     have hL:Hid ((C (j+1)).length=(C j).length+n'):=by unfold Hid;rw[hS.out,List.length_append,htl.out]
     have hND:Hid (qL (C (j+1))=qL (C j)++qL (Ts[j]?.getD [])):=by unfold Hid;rw[hS.out,ndsL_append]
     have HSRC:=za ht.src
     have HNL:Hid ((qL (Ts[j]?.getD [])).length=n'*5):=by unfold Hid;rw[ndsL_len,htl.out]
     have hone:=ndsL_one (Ts[j]?.getD [])
     rw[hL.out] at hbj1
     generalize qL (Ts[j]?.getD [])=nws at hND HSRC HNL hone
     generalize qL (C j)=olds at hown hND
     generalize (C j).length=t at hbj hbj1 hL hown
     obtain ⟨ao,co,rfl⟩:=zM hown
     clear ht
     go_wp2_with (first|(at_builtin;refine wpList_append_anyN _ rfl _ _ 44 rfl w.heap.size 104 i0 (.agg #[.string ⟨#[]⟩,.int .i64 0,.int .i64 0,.int .i64 0,.int .i64 0]) 5 48 Tryz.underlying44 hi hz0 hzz hz2 rfl (by decide) _ _ _ rfl hown hszr _ _ _ nws rfl HNL.out HSRC.out hone (by unfold maxLen;omega) (by omega) ?_;intro v5 w5 hown5 hst5 _;have hb5:Below w.heap.size w w5:=hbr.trans (hst5.below hszr (fun k e=>zL hown e));rw[← hND.out,← hL.out] at hown5;have HO:=za hown5;clear hown5 hown))
     go_roundw
     case rel=>exact ⟨j+1,by omega,by go_num,HO.out,hb5⟩
     case measure=>simp[intOf];omega
    ·have hji:¬(j:Int)<(k:Int):=by omega
     have e:j=k:=by omega
     subst e
     rw[HE.out] at hown
     have HO:=za hown
     clear hown
     go_wp2_with fail
     go_ret
     exact ⟨_,rfl,by rw[← HFl.out];exact HO.out,hbr⟩
end
end Go.Proofs.YtaadpihbjhachaaGreat
