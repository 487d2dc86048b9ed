/- Texts B4 to B5 of this proof, in one file. -/
import Derived.Test.YtaadpihbjhachaaGreatW08
import Derived.Test.YtaadpihbjhachaaGreatW28
import Derived.Test.YtaadpihbjhachaaGreatW61
namespace Go.Proofs.YtaadpihbjhachaaGreat
set_option maxRecDepth 100000
set_option maxHeartbeats 16000000
section
open Go Go.RowKit
def cmN (c:Bool) (N x:Int):Int:=if c=true then N+1 - x else x
def cgN (c:Bool) (N x:Int):Int:=if (c&&decide (0<x))=true then N+1 - x else x
def cmS (c:Bool) (N n sum:Int):Int:=if c=true then n*(N+1) - sum else sum
def jU (c:Bool) (p g:List Int):List Int:=movL p (g.map (cgN c g.length))
def movF (c:Bool) (p f:List Int):List Int:=movL p (f.map (cmN c f.length))
theorem map_get {h:Int→Int} {l:List Int} {i:Nat} (hi:i<l.length):(l.map h)[i]?.getD 0=h (l[i]?.getD 0):=by
 rw[List.getElem?_map,List.getElem?_eq_getElem hi];rfl
theorem jl (c:Bool) (p g:List Int):(jU c p g).length=g.length:=by unfold jU;rw[movL_len,List.length_map]
theorem movF_len (c:Bool) (p g:List Int):(movF c p g).length=g.length:=by unfold movF;rw[movL_len,List.length_map]
theorem movF_from {c:Bool} {p f:List Int} (hp:PermP p) (hl:p.length=f.length) {j:Nat} (hj:j<f.length):∃i,i<f.length∧p[i]?.getD 0=(j:Int)∧(movF c p f)[j]?.getD 0=cmN c f.length (f[i]?.getD 0):=by
 obtain ⟨i,hi,e,h⟩:=movL_from (vs:=f.map (cmN c f.length)) hp (by rw[List.length_map];exact hl) (j:=j) (by rw[List.length_map];exact hj)
 rw[List.length_map] at hi
 exact ⟨i,hi,e,h.trans (map_get hi)⟩
theorem kg {c:Bool} {p f:List Int} (hp:PermP p) (hl:p.length=f.length) {j:Nat} (hj:j<f.length):∃i,i<f.length∧p[i]?.getD 0=(j:Int)∧(jU c p f)[j]?.getD 0=cgN c f.length (f[i]?.getD 0):=by
 obtain ⟨i,hi,e,h⟩:=movL_from (vs:=f.map (cgN c f.length)) hp (by rw[List.length_map];exact hl) (j:=j) (by rw[List.length_map];exact hj)
 rw[List.length_map] at hi
 exact ⟨i,hi,e,h.trans (map_get hi)⟩
theorem cmN_inj {c:Bool} {N x y:Int} (h:cmN c N x=cmN c N y):x=y:=by
 unfold cmN at h
 split at h <;> omega
theorem sum_cm {c:Bool} {N:Int} {f:List Int}:∀{l:List Int},(∀x,x∈l→0≤x∧x<(f.length:Int))→jm l (f.map (cmN c N))=cmS c N l.length (jm l f):=by
 intro l h
 rw[sumAt_map,sumAt_map]
 induction l with
 | nil=>unfold cmS;cases c <;> simp
 | cons a l ih =>
  have ha:=h a List.mem_cons_self
  simp only[List.map_cons,List.sum_cons]
  rw[ih (fun x hx=>h x (List.mem_cons_of_mem _ hx)),map_get (by omega)]
  unfold cmS cmN
  cases c with
  | false=>rfl
  | true =>
   simp only[if_true,List.length_cons]
   have:((l.length+1:Nat):Int)*(N+1)=(l.length:Int)*(N+1)+(N+1):=by rw[Int.natCast_add,Int.add_mul];omega
   rw[this]
   omega
theorem move_sol {cells:Int} {ls:List (List Int)} {sum:Int} {g:List Int} (G:GoodTask cells ls sum g) {p:List Int} (hp:PermP p) (hpl:p.length=g.length) {c:Bool} {n:Int} (hn:c=true→∀l,l∈ls→(l.length:Int)=n) {f:List Int} (h:SolF ls sum g f) :
  SolF (ls.map (jb p)) (cmS c g.length n sum) (jU c p g) (movF c p f):=by
 have hl:=h.len
 have hpf:p.length=f.length:=by omega
 refine ⟨by rw[jl,movF_len,hl],fun j hj=>?_,fun i j hi hj e=>?_,fun j hj hne=>?_,fun m hm=>?_⟩
 ·rw[movF_len] at hj
  rw[jl]
  obtain ⟨i,hi,_,e⟩:=movF_from (c:=c) hp hpf hj
  rw[e]
  have:=h.num i hi
  unfold cmN
  split <;> omega
 ·rw[movF_len] at hi hj
  obtain ⟨a,ha,ea,e1⟩:=movF_from (c:=c) hp hpf hi
  obtain ⟨b,hb,eb,e2⟩:=movF_from (c:=c) hp hpf hj
  rw[e1,e2] at e
  have:=h.inj a b ha hb (cmN_inj e)
  subst this
  omega
 ·rw[jl] at hj
  obtain ⟨a,ha,ea,e1⟩:=kg (c:=c) hp hpl hj
  obtain ⟨b,hb,eb,e2⟩:=movF_from (c:=c) hp hpf (j:=j) (by omega)
  have hab:=hp.inj a b (by omega) (by omega) (by omega)
  subst hab
  rw[e1] at hne ⊢
  rw[e2,hl]
  have hg0:=G.num a ha
  have hgn:g[a]?.getD 0≠0:=fun e=>by
   rw[e] at hne
   unfold cgN at hne
   rw[if_neg (by simp)] at hne
   exact hne rfl
  rw[h.ext a ha hgn]
  unfold cmN cgN
  cases c with
  | false=>rfl
  | true =>
   rw[if_pos rfl,if_pos]
   rw[Bool.true_and,decide_eq_true_eq]
   omega
 ·obtain ⟨l,hml,e⟩:=List.mem_map.1 hm
  have hb:∀x,x∈l→0≤x∧x<(f.length:Int):=fun x hx=>by
   have h1:=(G.lineLen hml).2 x hx
   have h2:=G.len
   omega
  rw[← e]
  unfold movF
  rw[sumAt_line hp (by rw[List.length_map];exact hpf) (fun x hx=>by have:=hb x hx;omega),sum_cm hb,h.line l hml,hl]
  unfold cmS
  cases c with
  | false=>rfl
  | true=>rw[if_pos rfl,if_pos rfl,hn rfl l hml]
theorem movF_inj {c:Bool} {p f h:List Int} (hp:PermP p) (h1:p.length=f.length) (h2:p.length=h.length) (e:movF c p f=movF c p h):f=h:=by
 apply List.ext_getElem
 ·omega
 ·intro i hi hj
  have a1:=movL_at (vs:=f.map (cmN c f.length)) hp (by rw[List.length_map];exact h1) (i:=i) (by rw[List.length_map];exact hi)
  have a2:=movL_at (vs:=h.map (cmN c h.length)) hp (by rw[List.length_map];exact h2) (i:=i) (by rw[List.length_map];exact hj)
  have a3:movL p (f.map (cmN c f.length))=movL p (h.map (cmN c h.length)):=e
  rw[a3,a2,map_get hi,map_get hj,show f.length=h.length by omega] at a1
  have:=cmN_inj a1
  rw[List.getElem?_eq_getElem hi,List.getElem?_eq_getElem hj] at this
  simpa using this.symm
theorem sols_nodup {cells:Int} {ls:List (List Int)} {sum:Int} {g:List Int} (G:GoodTask cells ls sum g):(jk ls sum g []).Nodup:=(sols_sorted G).imp fun h e=>by rw[e] at h;exact Lx.irr _ h
theorem sols_le {cells cells':Int} {ls ls':List (List Int)} {sum sum':Int} {g g':List Int} (G:GoodTask cells ls sum g) (F:List Int→List Int) (hF:∀f,SolF ls sum g f→SolF ls' sum' g' (F f)) (hi:∀f h,SolF ls sum g f→SolF ls sum g h→F f=F h→f=h) (G':GoodTask cells' ls' sum' g') :
  (jk ls sum g []).length≤(jk ls' sum' g' []).length:=by
 have hn:((jk ls sum g []).map F).Nodup:=by
  unfold List.Nodup
  rw[List.pairwise_map]
  refine List.Pairwise.imp_of_mem ?_ (sols_nodup G)
  intro a b ha hb hab e
  exact hab (hi a b ((mem_sols G).1 ha) ((mem_sols G).1 hb) e)
 have:=nodup_leG hn (m:=jk ls' sum' g' []) (fun x hx=>by
  obtain ⟨f,hf,e⟩:=List.mem_map.1 hx
  rw[← e]
  exact (mem_sols G').2 (hF f ((mem_sols G).1 hf)))
 rwa [List.length_map] at this
def invP (p:List Int):List Int:=movL p ((List.range p.length).map fun (i:Nat)=>(i:Int))
theorem invP_len (p:List Int):(invP p).length=p.length:=by unfold invP;rw[movL_len,List.length_map,List.length_range]
theorem invP_at {p:List Int} (hp:PermP p) {i:Nat} (hi:i<p.length):(invP p)[(p[i]?.getD 0).toNat]?.getD 0=(i:Int):=by
 unfold invP
 rw[movL_at hp (by simp) (i:=i) (by simpa using hi),List.getElem?_map,List.getElem?_range hi]
 rfl
theorem invP_from {p:List Int} (hp:PermP p) {j:Nat} (hj:j<p.length):∃i,i<p.length∧p[i]?.getD 0=(j:Int)∧(invP p)[j]?.getD 0=(i:Int):=by
 obtain ⟨i,hi,e⟩:=hp.onto hj
 have h:=invP_at hp hi
 rw[e,Int.toNat_natCast] at h
 exact ⟨i,hi,e,h⟩
theorem invP_perm {p:List Int} (hp:PermP p):PermP (invP p):=by
 refine ⟨fun k hk=>?_,fun i j hi hj e=>?_⟩
 ·rw[invP_len] at hk ⊢
  obtain ⟨i,hi,_,e⟩:=invP_from hp hk
  rw[e]
  omega
 ·rw[invP_len] at hi hj
  obtain ⟨a,ha,e1,e2⟩:=invP_from hp hi
  obtain ⟨b,hb,e3,e4⟩:=invP_from hp hj
  rw[e2,e4] at e
  have:a=b:=by omega
  subst this
  omega
theorem get_ext {l m:List Int} (hl:l.length=m.length) (h:∀i,i<l.length→l[i]?.getD 0=m[i]?.getD 0):l=m:=by
 apply List.ext_getElem hl
 intro i h1 h2
 have:=h i h1
 rw[List.getElem?_eq_getElem h1,List.getElem?_eq_getElem h2] at this
 simpa using this
theorem line_back {p l:List Int} (hp:PermP p) (hb:∀x,x∈l→0≤x∧x<(p.length:Int)) (ha:l.Pairwise (·<·)):jb (invP p) (jb p l)=l:=by
 have hup:(jb (invP p) (jb p l)).Pairwise (·≤·):=by
  unfold jb srt
  refine (List.pairwise_mergeSort (le:=fun x y:Int=>decide (x≤y)) (fun a b c h1 h2=>?_) (fun a b=>?_) _).imp fun h=>?_
  ·simp only[decide_eq_true_eq] at h1 h2 ⊢;omega
  ·simp only[Bool.or_eq_true,decide_eq_true_eq];omega
  ·simpa using h
 have hpm:(jb (invP p) (jb p l)).Perm l:=by
  unfold jb
  refine (List.mergeSort_perm _ _).trans ?_
  refine ((List.mergeSort_perm _ _).map _).trans ?_
  rw[List.map_map]
  have:(l.map ((fun c:Int=>(invP p)[c.toNat]?.getD 0) ∘ fun c:Int=>p[c.toNat]?.getD 0))=l:=by
   conv=>rhs;rw[← List.map_id l]
   apply List.map_congr_left
   intro x hx
   have h:=hb x hx
   simp only[Function.comp,id]
   rw[invP_at hp (by omega)]
   omega
  rw[this]
 exact List.Perm.eq_of_pairwise (le:=(·≤·)) (fun a b _ _ h1 h2=>Int.le_antisymm h1 h2) hup (ha.imp fun h=>Int.le_of_lt h) hpm
end
section
open Go Go.RowKit
theorem sys_of {cells:Int} {ls:List (List Int)} (h1:1≤cells) (h2:cells≤256) (h3:ls.length≤128) (hne:∀l,l∈ls→0<l.length) (hm:∀l,l∈ls→∀k:Nat,k<l.length→0≤l[k]?.getD 0∧l[k]?.getD 0<cells)
  (ha:∀l,l∈ls→∀k:Nat,0<k→k<l.length→l[k - 1]?.getD 0<l[k]?.getD 0) (hd:ls.Nodup):zX cells ls=0:=by
 unfold zX
 rw[if_neg (by omega),if_neg (by omega)]
 refine ju fun i hi=>?_
 have hml:ls[i]?.getD []∈ls:=by rw[List.getElem?_eq_getElem hi];exact List.getElem_mem hi
 have hz:qQ (jt cells (ls[i]?.getD [])) (ls[i]?.getD []).length=0:=ju fun k hk=>by
  unfold jt
  have:=hm _ hml k hk
  rw[if_neg (by omega)]
  by_cases h0:0<k
  ·have:=ha _ hml k h0 hk
   rw[if_neg (by omega)]
  ·rw[if_neg (fun e=>h0 e.1)]
 have hno:jG (ls.take i) (ls[i]?.getD [])=false:=by
  rw[Bool.eq_false_iff]
  intro hb
  unfold jG at hb
  rw[List.contains_iff_mem,List.mem_take_iff_getElem] at hb
  obtain ⟨j,hj,e⟩:=hb
  rw[List.getElem?_eq_getElem hi,Option.getD_some] at e
  have:=(List.getElem_inj hd).1 e
  omega
 unfold jF
 rw[if_neg (by have:=hne _ hml;omega),hz,if_neg (by decide),hno]
 rfl
theorem sys_nodup {cells:Int} {ls:List (List Int)} (h:zX cells ls=0):ls.Nodup:=by
 unfold zX at h
 split at h
 ·cases h
 ·split at h
  ·cases h
  ·have hz:=ki h
   unfold List.Nodup
   rw[List.pairwise_iff_getElem]
   intro i j hi hj hij e
   have h2:=hz j hj
   unfold jF at h2
   split at h2
   ·cases h2
   ·split at h2
    ·rename_i h3;exact h3 h2
    ·have:jG (ls.take j) (ls[j]?.getD [])=true:=by
      unfold jG
      rw[List.contains_iff_mem,List.mem_take_iff_getElem,List.getElem?_eq_getElem hj]
      exact ⟨i,by omega,e⟩
     rw[this] at h2
     cases h2
theorem asc_pair {l:List Int} (h:∀k:Nat,0<k→k<l.length→l[k - 1]?.getD 0<l[k]?.getD 0):l.Pairwise (·<·):=by
 rw[List.pairwise_iff_getElem]
 intro i j hi hj hij
 have key:∀d,i+d+1<l.length→l[i]?.getD 0<l[i+d+1]?.getD 0:=by
  intro d
  induction d with
  | zero=>intro h1;exact h (i+1) (by omega) h1
  | succ d ih =>
   intro h1
   have h2:=ih (by omega)
   have h3:=h (i+(d+1)+1) (by omega) h1
   have e:i+(d+1)+1 - 1=i+d+1:=by omega
   rw[e] at h3
   omega
 have:=key (j - i - 1) (by omega)
 rw[show i+(j - i - 1)+1=j by omega,List.getElem?_eq_getElem hi,List.getElem?_eq_getElem hj] at this
 exact this
theorem pair_asc {l:List Int} (h:l.Pairwise (·<·)):∀k:Nat,0<k→k<l.length→l[k - 1]?.getD 0<l[k]?.getD 0:=by
 intro k h0 hk
 rw[List.pairwise_iff_getElem] at h
 have:=h (k - 1) k (by omega) hk (by omega)
 rw[List.getElem?_eq_getElem hk,List.getElem?_eq_getElem (show k - 1<l.length by omega)]
 exact this
theorem mem_at {l:List Int} {N:Int} (h:∀k:Nat,k<l.length→0≤l[k]?.getD 0∧l[k]?.getD 0<N):∀x,x∈l→0≤x∧x<N:=by
 intro x hx
 obtain ⟨k,hk,e⟩:=List.getElem_of_mem hx
 have:=h k hk
 rw[List.getElem?_eq_getElem hk,Option.getD_some,e] at this
 exact this
theorem lineI_asc {p l:List Int} (hp:PermP p) (hb:∀x,x∈l→0≤x∧x<(p.length:Int)) (ha:l.Pairwise (·<·)):(jb p l).Pairwise (·<·):=by
 have hup:(jb p l).Pairwise (·≤·):=by
  unfold jb srt
  refine (List.pairwise_mergeSort (le:=fun x y:Int=>decide (x≤y)) (fun a b c h1 h2=>?_) (fun a b=>?_) _).imp fun h=>?_
  ·simp only[decide_eq_true_eq] at h1 h2 ⊢;omega
  ·simp only[Bool.or_eq_true,decide_eq_true_eq];omega
  ·simpa using h
 have hnd:(jb p l).Nodup:=by
  unfold jb srt
  rw[(List.mergeSort_perm _ _).nodup_iff]
  unfold List.Nodup
  rw[List.pairwise_map]
  refine List.Pairwise.imp_of_mem ?_ ha
  intro a b h1 h2 hab e
  have h3:=hb a h1
  have h4:=hb b h2
  have:=hp.inj a.toNat b.toNat (by omega) (by omega) e
  omega
 exact (hup.and hnd).imp fun h=>by have h1:=h.1;have h2:=h.2;omega
structure MovedS (cells:Int) (ls:List (List Int)) (p:List Int):Prop where
 sys:zX cells (ls.map (jb p))=0
 mem:∀l,l∈ls→∀x,x∈jb p l→0≤x∧x<cells
 back:∀l,l∈ls→jb (invP p) (jb p l)=l
theorem GoodTask.bnd {cells:Int} {ls:List (List Int)} {sum:Int} {g:List Int} (G:GoodTask cells ls sum g) {l:List Int} (hl:l∈ls):∀x,x∈l→0≤x∧x<cells:=mem_at (G.mem l hl)
theorem moved_sys {cells:Int} {ls:List (List Int)} {sum:Int} {g:List Int} (G:GoodTask cells ls sum g) (hs:zX cells ls=0) {p:List Int} (hp:PermP p) (hpl:p.length=g.length):MovedS cells ls p:=by
 have hlen:=G.len
 have hb:∀l,l∈ls→∀x,x∈l→0≤x∧x<(p.length:Int):=fun l hl x hx=>by have:=G.bnd hl x hx;omega
 have hmem:∀l,l∈ls→∀x,x∈jb p l→0≤x∧x<cells:=fun l hl x hx=>by
  obtain ⟨y,hy,e⟩:=lineI_mem.1 hx
  have h1:=hb l hl y hy
  have h2:=hp.num y.toNat (by omega)
  omega
 have hbk:∀l,l∈ls→jb (invP p) (jb p l)=l:=fun l hl=>line_back hp (hb l hl) (asc_pair (G.asc l hl))
 refine ⟨sys_of G.cells1 G.cells2 (by rw[List.length_map];exact G.lines) (fun m hm=>?_) (fun m hm k hk=>?_) (fun m hm=>?_) ?_,hmem,hbk⟩
 ·obtain ⟨l,hl,e⟩:=List.mem_map.1 hm
  rw[← e,lineI_len]
  exact G.some l hl
 ·obtain ⟨l,hl,e⟩:=List.mem_map.1 hm
  rw[← e] at hk ⊢
  exact hmem l hl _ (get_mem hk)
 ·obtain ⟨l,hl,e⟩:=List.mem_map.1 hm
  rw[← e]
  exact pair_asc (lineI_asc hp (hb l hl) (asc_pair (G.asc l hl)))
 ·unfold List.Nodup
  rw[List.pairwise_map]
  refine List.Pairwise.imp_of_mem ?_ (sys_nodup hs)
  intro a b ha hb2 hab e
  exact hab ((hbk a ha).symm.trans ((congrArg (jb (invP p)) e).trans (hbk b hb2)))
theorem moved_good {cells:Int} {ls:List (List Int)} {sum:Int} {g:List Int} (G:GoodTask cells ls sum g) (hs:zX cells ls=0) {p:List Int} (hp:PermP p) (hpl:p.length=g.length) {c:Bool} {sum':Int} (h1:1≤sum') (h2:sum'≤999999999) :
  GoodTask cells (ls.map (jb p)) sum' (jU c p g):=by
 have M:=moved_sys G hs hp hpl
 have hlen:=G.len
 have hcg:∀a,a<g.length→0≤cgN c g.length (g[a]?.getD 0)∧cgN c g.length (g[a]?.getD 0)≤cells∧(cgN c g.length (g[a]?.getD 0)=0→g[a]?.getD 0=0):=fun a ha=>by
  have:=G.num a ha
  unfold cgN
  split
  ·rename_i h
   rw[Bool.and_eq_true,decide_eq_true_eq] at h
   omega
  ·omega
 refine ⟨G.cells1,G.cells2,by rw[List.length_map];exact G.lines,h1,h2,by rw[jl];exact hlen,fun m hm=>?_,fun m hm k hk=>?_,fun m hm=>?_,fun j hj=>?_,fun i j hij hj hp0 e=>?_⟩
 ·obtain ⟨l,hl,e⟩:=List.mem_map.1 hm
  rw[← e,lineI_len]
  exact G.some l hl
 ·obtain ⟨l,hl,e⟩:=List.mem_map.1 hm
  rw[← e] at hk ⊢
  exact M.mem l hl _ (get_mem hk)
 ·obtain ⟨l,hl,e⟩:=List.mem_map.1 hm
  rw[← e]
  exact pair_asc (lineI_asc hp (fun x hx=>by have:=G.bnd hl x hx;omega) (asc_pair (G.asc l hl)))
 ·rw[jl] at hj
  obtain ⟨a,ha,_,e⟩:=kg (c:=c) hp hpl hj
  rw[e]
  have:=hcg a ha
  omega
 ·rw[jl] at hj
  obtain ⟨a,ha,ea,e1⟩:=kg (c:=c) hp hpl (j:=i) (by omega)
  obtain ⟨b,hb,eb,e2⟩:=kg (c:=c) hp hpl hj
  rw[e1,e2] at e
  rw[e2] at hp0
  have hga:=G.num a ha
  have hgb:=G.num b hb
  have hb0:g[b]?.getD 0≠0:=fun e0=>by rw[e0] at hp0;unfold cgN at hp0;simp at hp0
  have ha0:g[a]?.getD 0≠0:=fun e0=>by
   have h3:=hcg b hb
   rw[← e,e0] at h3
   have:cgN c g.length 0=0:=by unfold cgN;simp
   exact hb0 (h3.2.2 this)
  have hab:g[a]?.getD 0=g[b]?.getD 0:=by
   unfold cgN at e
   rw[decide_eq_true (show 0<g[a]?.getD 0 by omega),decide_eq_true (show 0<g[b]?.getD 0 by omega),Bool.and_true] at e
   split at e <;> omega
  have hne:a≠b:=fun e3=>by subst e3;omega
  rcases Nat.lt_or_gt_of_ne hne with h3|h3
  ·exact G.apart a b h3 hb (by omega) hab
  ·exact G.apart b a h3 ha (by omega) hab.symm
theorem movG_back {c:Bool} {p g:List Int} (hp:PermP p) (hpl:p.length=g.length) (hg:∀i,i<g.length→0≤g[i]?.getD 0∧g[i]?.getD 0≤(g.length:Int)):jU c (invP p) (jU c p g)=g:=by
 refine get_ext (by rw[jl,jl]) fun i hi=>?_
 rw[jl,jl] at hi
 obtain ⟨a,ha,e1,e2⟩:=kg (c:=c) (f:=jU c p g) (invP_perm hp) (by rw[invP_len,jl];exact hpl) (j:=i) (by rw[jl];exact hi)
 rw[jl] at ha e2
 obtain ⟨b,hb,e3,e4⟩:=kg (c:=c) hp hpl ha
 have e5:=invP_at hp (i:=b) (by omega)
 rw[e3,Int.toNat_natCast,e1] at e5
 have:i=b:=by omega
 subst this
 rw[e2,e4]
 have:=hg i hi
 unfold cgN
 cases c with
 | false=>rfl
 | true =>
  simp only[Bool.true_and,decide_eq_true_eq]
  by_cases h0:0<g[i]?.getD 0
  ·rw[if_pos h0,if_pos (by omega)];omega
  ·rw[if_neg h0,if_neg h0]
theorem cmS_back (c:Bool) (N n sum:Int):cmS c N n (cmS c N n sum)=sum:=by
 unfold cmS
 cases c with
 | false=>rfl
 | true=>simp only[if_true];omega
theorem moved_count {cells:Int} {ls:List (List Int)} {sum:Int} {g:List Int} (G:GoodTask cells ls sum g) (hs:zX cells ls=0) {p:List Int} (hp:PermP p) (hpl:p.length=g.length) {c:Bool} {n:Int} (hn:c=true→∀l,l∈ls→(l.length:Int)=n)
  (h1:1≤cmS c g.length n sum) (h2:cmS c g.length n sum≤999999999):(jk (ls.map (jb p)) (cmS c g.length n sum) (jU c p g) []).length=(jk ls sum g []).length:=by
 have G':=moved_good (c:=c) G hs hp hpl h1 h2
 have M:=moved_sys G hs hp hpl
 apply Nat.le_antisymm
 ·refine sols_le G' (movF c (invP p)) (fun f hf=>?_) (fun f h hf hh e=>movF_inj (invP_perm hp) (by rw[invP_len,hf.len,jl];exact hpl) (by rw[invP_len,hh.len,jl];exact hpl) e) G
  have:=move_sol G' (invP_perm hp) (by rw[invP_len,jl];exact hpl) (c:=c) (n:=n) (fun e m hm=>by
   obtain ⟨l,hl,e2⟩:=List.mem_map.1 hm
   rw[← e2,lineI_len]
   exact hn e l hl) hf
  rw[jl,cmS_back,movG_back hp hpl (fun i hi=>by have:=G.num i hi;have:=G.len;omega),List.map_map] at this
  have e:ls.map (jb (invP p) ∘ jb p)=ls:=by
   conv=>rhs;rw[← List.map_id ls]
   apply List.map_congr_left
   intro l hl
   exact M.back l hl
  rw[e] at this
  exact this
 ·exact sols_le G (movF c p) (fun f hf=>move_sol G hp hpl hn hf) (fun f h hf hh e=>movF_inj hp (by rw[hf.len];exact hpl) (by rw[hh.len];exact hpl) e) G'
end
end Go.Proofs.YtaadpihbjhachaaGreat
