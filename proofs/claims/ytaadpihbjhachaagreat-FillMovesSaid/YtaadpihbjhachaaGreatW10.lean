/- Texts B1 to E1 of this proof, in one file. -/
import Derived.Test.YtaadpihbjhachaaGreatW01
import Derived.Test.YtaadpihbjhachaaGreatW07
import Derived.Test.YtaadpihbjhachaaGreatW09
import Derived.Laws.Bits128
namespace Go.Proofs.YtaadpihbjhachaaGreat
set_option maxRecDepth 100000
set_option maxHeartbeats 16000000
section
open Go
def qD (n x:Nat):Nat:=((List.range n).filter fun i=>x.testBit i).length
theorem cntB_split (n x:Nat):qD (8+n) x=qD 8 (x % 256)+qD n (x / 256):=by
 unfold qD
 rw[List.range_add,List.filter_append,List.length_append]
 congr 1
 ·congr 1
  refine List.filter_congr fun i hi=>?_
  rw[List.mem_range] at hi
  rw[show (256:Nat)=2 ^ 8 from rfl,Nat.testBit_mod_two_pow]
  simp[hi]
 ·rw[List.filter_map,List.length_map]
  congr 2
  funext i
  simp only[Function.comp_apply]
  rw[show (256:Nat)=2 ^ 8 from rfl,Nat.testBit_div_two_pow,Nat.add_comm]
def qn:List Nat→Nat
 | []=>0
 | b :: r=>b+256*qn r
def maskB (m:Nat):Nat→Nat
 | 0=>0
 | n+1=>m+256*maskB m n
theorem and_byte (b m x M:Nat) (hb:b<256) (hm:m<256):(b+256*x) &&& (m+256*M)=(b &&& m)+256*(x &&& M):=by
 have e:=Nat.mod_add_div ((b+256*x) &&& (m+256*M)) 256
 have e1:((b+256*x) &&& (m+256*M)) % 256=b &&& m:=by
  rw[show (256:Nat)=2 ^ 8 from rfl,Nat.and_mod_two_pow]
  rw[show (b+2 ^ 8*x) % 2 ^ 8=b from by omega,show (m+2 ^ 8*M) % 2 ^ 8=m from by omega]
 have e2:((b+256*x) &&& (m+256*M)) / 256=x &&& M:=by
  rw[show (256:Nat)=2 ^ 8 from rfl,Nat.and_div_two_pow]
  rw[show (b+2 ^ 8*x) / 2 ^ 8=x from by omega,show (m+2 ^ 8*M) / 2 ^ 8=M from by omega]
 rw[e1,e2] at e
 omega
def s1 (b:Nat):Nat:=(b / 2 &&& 85)+(b &&& 85)
def s2 (b:Nat):Nat:=(b / 4 &&& 51)+(b &&& 51)
def s3 (b:Nat):Nat:=(b / 16+b) &&& 15
theorem low1:∀b:Fin 256,∀t:Fin 2,(b.val / 2+128*t.val) &&& 85=b.val / 2 &&& 85:=by decide +kernel
theorem low2:∀b:Fin 256,∀t:Fin 4,(b.val / 4+64*t.val) &&& 51=b.val / 4 &&& 51:=by decide +kernel
theorem low3:∀b:Fin 256,∀t:Fin 5,(b.val % 16≤4∧b.val / 16≤4)→(b.val / 16+16*t.val+b.val) &&& 15=s3 b.val:=by decide +kernel
theorem s1_lt:∀b:Fin 256,s1 b.val<256:=by decide +kernel
theorem s2_ok:∀b:Fin 256,s2 (s1 b.val)<256∧s2 (s1 b.val) % 16≤4∧s2 (s1 b.val) / 16≤4:=by decide +kernel
theorem s3_eq:∀b:Fin 256,s3 (s2 (s1 b.val))=qD 8 b.val∧qD 8 b.val≤8:=by decide +kernel
theorem step1:∀bs:List Nat,(∀b,b∈bs→b<256)→(qn bs / 2 &&& maskB 85 bs.length)+(qn bs &&& maskB 85 bs.length)=qn (bs.map s1)
 | [],_=>rfl
 | b :: r,h=>by
  have hb:=h b (by simp)
  have ih:=step1 r (fun x hx=>h x (by simp[hx]))
  simp only[qn,List.length_cons,maskB,List.map_cons]
  generalize qn r=v at *
  generalize maskB 85 r.length=M at *
  have e:(b+256*v) / 2=(b / 2+128*(v % 2))+256*(v / 2):=by omega
  have hl:=low1 ⟨b,hb⟩ ⟨v % 2,by omega⟩
  simp only at hl
  rw[e,and_byte _ _ _ _ (by omega) (by decide),and_byte _ _ _ _ hb (by decide),hl]
  have es:s1 b=(b / 2 &&& 85)+(b &&& 85):=rfl
  omega
theorem step2:∀bs:List Nat,(∀b,b∈bs→b<256)→(qn bs / 4 &&& maskB 51 bs.length)+(qn bs &&& maskB 51 bs.length)=qn (bs.map s2)
 | [],_=>rfl
 | b :: r,h=>by
  have hb:=h b (by simp)
  have ih:=step2 r (fun x hx=>h x (by simp[hx]))
  simp only[qn,List.length_cons,maskB,List.map_cons]
  generalize qn r=v at *
  generalize maskB 51 r.length=M at *
  have e:(b+256*v) / 4=(b / 4+64*(v % 4))+256*(v / 4):=by omega
  have hl:=low2 ⟨b,hb⟩ ⟨v % 4,by omega⟩
  simp only at hl
  rw[e,and_byte _ _ _ _ (by omega) (by decide),and_byte _ _ _ _ hb (by decide),hl]
  have es:s2 b=(b / 4 &&& 51)+(b &&& 51):=rfl
  omega
theorem step3:∀bs:List Nat,(∀b,b∈bs→b<256∧b % 16≤4∧b / 16≤4)→((qn bs / 16+qn bs) &&& maskB 15 bs.length)=qn (bs.map s3)
 | [],_=>rfl
 | b :: r,h=>by
  obtain ⟨hb,hb1,hb2⟩:=h b (by simp)
  have ih:=step3 r (fun x hx=>h x (by simp[hx]))
  have hv:qn r % 16≤4:=by
   cases r with
   | nil=>simp[qn]
   | cons c r =>
    have:=h c (by simp)
    simp only[qn]
    omega
  simp only[qn,List.length_cons,maskB,List.map_cons]
  generalize qn r=v at *
  generalize maskB 15 r.length=M at *
  have e:(b+256*v) / 16+(b+256*v)=(b / 16+16*(v % 16)+b)+256*(v / 16+v):=by omega
  have hl:=low3 ⟨b,hb⟩ ⟨v % 16,by omega⟩ ⟨hb1,hb2⟩
  simp only at hl
  rw[e,and_byte _ _ _ _ (by omega) (by decide),hl,ih]
def f1 (x:Nat):Nat:=(x / 2 &&& 6148914691236517205)+(x &&& 6148914691236517205)
def f2 (x:Nat):Nat:=(x / 4 &&& 3689348814741910323)+(x &&& 3689348814741910323)
def f3 (x:Nat):Nat:=(x / 16+x) &&& 1085102592571150095
def f4 (x:Nat):Nat:=x+x / 256
def f5 (x:Nat):Nat:=x+x / 65536
def f6 (x:Nat):Nat:=x+x / 4294967296
def bytesB (x:Nat):List Nat:=[x % 256,x / 256 % 256,x / 65536 % 256,x / 16777216 % 256,x / 4294967296 % 256,x / 1099511627776 % 256,x / 281474976710656 % 256,x / 72057594037927936 % 256]
theorem valB_bytes (x:Nat) (hx:x<18446744073709551616):qn (bytesB x)=x:=by
 simp only[bytesB,qn]
 omega
theorem f3_val (x:Nat) (hx:x<18446744073709551616):f3 (f2 (f1 x))=qn ((bytesB x).map fun b=>s3 (s2 (s1 b))):=by
 have hb:∀b,b∈bytesB x→b<256:=by
  intro b hb
  simp only[bytesB,List.mem_cons,List.not_mem_nil,or_false] at hb
  omega
 have e1:f1 x=qn ((bytesB x).map s1):=by
  rw[← step1 _ hb,valB_bytes x hx];rfl
 have e2:f2 (f1 x)=qn (((bytesB x).map s1).map s2):=by
  rw[← step2 _ (fun b hb2=>by obtain ⟨c,hc,rfl⟩:=List.mem_map.1 hb2;exact s1_lt ⟨c,hb c hc⟩),e1];rfl
 rw[e2]
 have e3:=step3 (((bytesB x).map s1).map s2) (fun b hb2=>by
  rw[List.map_map] at hb2
  obtain ⟨c,hc,rfl⟩:=List.mem_map.1 hb2
  exact s2_ok ⟨c,hb c hc⟩)
 rw[List.map_map,List.map_map] at e3
 rw[List.map_map]
 exact e3
theorem f6_low (a b c d q:Nat) (ha:a≤32) (hb:b≤32) (hc:c≤32) (hd:d≤32):(a+256*(b+256*(c+256*(d+256*q)))) / 4294967296=q:=by omega
theorem f6_val (a b c d e f g h:Nat) (ha:a≤32) (hb:b≤32) (hc:c≤32) (hd:d≤32) (he:e≤32):f6 (qn [a,b,c,d,e,f,g,h]) % 128=a+e:=by
 have e1:qn [a,b,c,d,e,f,g,h]=a+256*(b+256*(c+256*(d+256*(qn [e,f,g,h])))):=rfl
 have e2:=f6_low a b c d (qn [e,f,g,h]) ha hb hc hd
 rw[← e1] at e2
 unfold f6
 rw[e2,e1]
 have e3:qn [e,f,g,h]=e+256*qn [f,g,h]:=rfl
 rw[e3]
 generalize qn [f,g,h]=r
 omega
theorem pop_sum (c0 c1 c2 c3 c4 c5 c6 c7:Nat) (h0:c0≤8) (h1:c1≤8) (h2:c2≤8) (h3:c3≤8) (h4:c4≤8) (h5:c5≤8) (h6:c6≤8) (h7:c7≤8) :
  f6 (f5 (f4 (qn [c0,c1,c2,c3,c4,c5,c6,c7]))) % 128=c0+c1+c2+c3+c4+c5+c6+c7:=by
 have e4:f4 (qn [c0,c1,c2,c3,c4,c5,c6,c7])=qn [c0+c1,c1+c2,c2+c3,c3+c4,c4+c5,c5+c6,c6+c7,c7]:=by
  simp only[f4,qn];omega
 have e5:f5 (qn [c0+c1,c1+c2,c2+c3,c3+c4,c4+c5,c5+c6,c6+c7,c7])=qn [c0+c1+c2+c3,c1+c2+c3+c4,c2+c3+c4+c5,c3+c4+c5+c6,c4+c5+c6+c7,c5+c6+c7,c6+c7,c7]:=by
  simp only[f5,qn];omega
 rw[e4,e5]
 rw[f6_val _ _ _ _ _ _ _ _ (by omega) (by omega) (by omega) (by omega) (by omega)]
 omega
theorem pop_eq (x:Nat) (hx:x<18446744073709551616):f6 (f5 (f4 (f3 (f2 (f1 x))))) % 128=qD 64 x∧qD 64 x≤64:=by
 rw[f3_val x hx]
 have hs:∀y,qD 8 (y % 256)≤8∧s3 (s2 (s1 (y % 256)))=qD 8 (y % 256):=fun y=>⟨(s3_eq ⟨y % 256,by omega⟩).2,(s3_eq ⟨y % 256,by omega⟩).1⟩
 simp only[bytesB,List.map_cons,List.map_nil]
 rw[(hs x).2,(hs _).2,(hs _).2,(hs _).2,(hs _).2,(hs _).2,(hs _).2,(hs _).2]
 rw[pop_sum _ _ _ _ _ _ _ _ (hs _).1 (hs _).1 (hs _).1 (hs _).1 (hs _).1 (hs _).1 (hs _).1 (hs _).1]
 have e:qD 64 x=qD 8 (x % 256)+qD 8 (x / 256 % 256)+qD 8 (x / 65536 % 256)+qD 8 (x / 16777216 % 256)+qD 8 (x / 4294967296 % 256)+qD 8 (x / 1099511627776 % 256)+qD 8 (x / 281474976710656 % 256)+qD 8 (x / 72057594037927936 % 256):=by
  rw[show (64:Nat)=8+(8+(8+(8+(8+(8+(8+(8+0))))))) from rfl]
  simp only[cntB_split,Nat.div_div_eq_div_mul,Nat.reduceMul]
  simp only[qD,List.range_zero,List.filter_nil,List.length_nil]
  omega
 have h0:=(hs x).1
 have h1:=(hs (x / 256)).1
 have h2:=(hs (x / 65536)).1
 have h3:=(hs (x / 16777216)).1
 have h4:=(hs (x / 4294967296)).1
 have h5:=(hs (x / 1099511627776)).1
 have h6:=(hs (x / 281474976710656)).1
 have h7:=(hs (x / 72057594037927936)).1
 omega
end
section
open Go Go.RowKit
theorem u64_wrap_nat (x:Nat) (h:x<18446744073709551616):IntKind.u64.wrap (x:Int)=(x:Int):=by
 rw[IntKind.wrap_u64];omega
theorem valB_le8:∀bs:List Nat,(∀b,b∈bs→b≤8)→qn bs≤maskB 8 bs.length
 | [],_=>Nat.le_refl _
 | b :: r,h=>by
  have h1:=h b (by simp)
  have h2:=valB_le8 r (fun x hx=>h x (by simp[hx]))
  simp only[qn,List.length_cons,maskB]
  omega
theorem f3_le (x:Nat) (hx:x<18446744073709551616):f3 (f2 (f1 x))≤578721382704613384:=by
 rw[f3_val x hx]
 have:=valB_le8 ((bytesB x).map fun b=>s3 (s2 (s1 b))) (fun b hb=>by
  obtain ⟨c,hc,rfl⟩:=List.mem_map.1 hb
  have hc2:c<256:=by
   simp only[bytesB,List.mem_cons,List.not_mem_nil,or_false] at hc
   omega
  have:=s3_eq ⟨c,hc2⟩
  simp only at this
  omega)
 exact this
theorem f1_lt (x:Nat):f1 x<18446744073709551616:=by
 have h1:x / 2 &&& 6148914691236517205≤6148914691236517205:=Nat.and_le_right
 have h2:x &&& 6148914691236517205≤6148914691236517205:=Nat.and_le_right
 unfold f1
 omega
theorem f2_lt (x:Nat):f2 x<7378697629483820647:=by
 have h1:x / 4 &&& 3689348814741910323≤3689348814741910323:=Nat.and_le_right
 have h2:x &&& 3689348814741910323≤3689348814741910323:=Nat.and_le_right
 unfold f2
 omega
theorem ones_c (x:Nat) (w:World) (hx:x<18446744073709551616) :
  Calls Tryz.prog 258 #[.int .u64 (x:Int)] w fun e w'=>e = .returned (.int .i64 ((qD 64 x:Nat):Int))∧w=w':=by
 have g1:IntKind.u64.wrap (bits BinOp.and IntKind.u64 ((x:Int) / 2) 6148914691236517205+bits BinOp.and IntKind.u64 (x:Int) 6148914691236517205)=((f1 x:Nat):Int):=by
  have e1:=u64_and_nat (x / 2) 6148914691236517205 (by omega) (by decide)
  have e2:=u64_and_nat x 6148914691236517205 (by omega) (by decide)
  rw[show ((x:Int) / 2)=((x / 2:Nat):Int) from by omega]
  rw[show (6148914691236517205:Int)=((6148914691236517205:Nat):Int) from rfl,e1,e2,← Int.natCast_add]
  exact u64_wrap_nat _ (f1_lt x)
 have g2:IntKind.u64.wrap (bits BinOp.and IntKind.u64 (((f1 x:Nat):Int) / 4) 3689348814741910323+bits BinOp.and IntKind.u64 ((f1 x:Nat):Int) 3689348814741910323)=((f2 (f1 x):Nat):Int):=by
  have hl:=f1_lt x
  have hl2:=f2_lt (f1 x)
  generalize f1 x=y at *
  have e1:=u64_and_nat (y / 4) 3689348814741910323 (by omega) (by decide)
  have e2:=u64_and_nat y 3689348814741910323 (by omega) (by decide)
  rw[show ((y:Int) / 4)=((y / 4:Nat):Int) from by omega]
  rw[show (3689348814741910323:Int)=((3689348814741910323:Nat):Int) from rfl,e1,e2,← Int.natCast_add]
  exact u64_wrap_nat _ (by unfold f2 at hl2;omega)
 have g3a:IntKind.u64.wrap (((f2 (f1 x):Nat):Int) / 16+((f2 (f1 x):Nat):Int))=((f2 (f1 x) / 16+f2 (f1 x):Nat):Int):=by
  have hl2:=f2_lt (f1 x)
  generalize f2 (f1 x)=y at *
  rw[show ((y:Int) / 16+(y:Int))=((y / 16+y:Nat):Int) from by omega]
  exact u64_wrap_nat _ (by omega)
 have g3:bits BinOp.and IntKind.u64 ((f2 (f1 x) / 16+f2 (f1 x):Nat):Int) 1085102592571150095=((f3 (f2 (f1 x)):Nat):Int):=by
  have hl2:=f2_lt (f1 x)
  have e1:=u64_and_nat (f2 (f1 x) / 16+f2 (f1 x)) 1085102592571150095 (by omega) (by decide)
  rw[show (1085102592571150095:Int)=((1085102592571150095:Nat):Int) from rfl,e1]
  rfl
 have hb:=f3_le x hx
 have hp:=pop_eq x hx
 generalize f2 (f1 x) / 16+f2 (f1 x)=y3a at g3a g3
 generalize f3 (f2 (f1 x))=y3 at *
 generalize f2 (f1 x)=y2 at *
 generalize f1 x=y1 at *
 have HP:=za hp
 clear hp
 have hx0:(0:Int)≤(x:Int):=by omega
 go_enter Tryz.func258,Tryz.ntmps258
 go_wp2
 go_ret
 refine ⟨congrArg Ending.returned (congrArg (Value.int IntKind.i64) ?_),rfl⟩
 have h1:=HP.out.1
 unfold f6 f5 f4 at h1
 refine (i64_and127 _).trans ?_
 rw[← h1]
 omega
def qG (M:Nat):Nat→Nat
 | 0=>0
 | k+1=>qG M k+qD 64 (ze M k)
def sizeM (M:Nat):Nat:=qG M 4
theorem sizeTo_le (M k:Nat):qG M k≤k*64:=by
 induction k with
 | zero=>simp[qG]
 | succ k ih =>
  have:=(pop_eq (ze M k) (jp M k)).2
  simp only[qG]
  omega
theorem idx0 (x0 x1 x2 x3:Value) (w:World):(Instr.index 148 (.agg #[x0,x1,x2,x3]) (.int .i64 0)).run Tryz.prog w = .ok x0 w:=by kernel_rfl
theorem idx1 (x0 x1 x2 x3:Value) (w:World):(Instr.index 148 (.agg #[x0,x1,x2,x3]) (.int .i64 1)).run Tryz.prog w = .ok x1 w:=by kernel_rfl
theorem idx2 (x0 x1 x2 x3:Value) (w:World):(Instr.index 148 (.agg #[x0,x1,x2,x3]) (.int .i64 2)).run Tryz.prog w = .ok x2 w:=by kernel_rfl
theorem idx3 (x0 x1 x2 x3:Value) (w:World):(Instr.index 148 (.agg #[x0,x1,x2,x3]) (.int .i64 3)).run Tryz.prog w = .ok x3 w:=by kernel_rfl
attribute [local go_sem] zv
attribute [local go_sem] Oper.semAt_some
theorem size_c (M:Nat) (w:World) :
  Calls Tryz.prog 239 #[setV M] w fun e w'=>e = .returned (.int .i64 (sizeM M:Nat))∧Below w.heap.size w w':=by
 have HO:=za (fun q W=>ones_c (ze M q) W (jp M q))
 unfold setV
 go_enter Tryz.func239,Tryz.ntmps239
 go_wp2_with fail
 have hsz:w.heap.size<(w.alloc (.cells #[.int .u64 ((ze M 0:Nat):Int),.int .u64 ((ze M 1:Nat):Int),.int .u64 ((ze M 2:Nat):Int),.int .u64 ((ze M 3:Nat):Int)] 148)).heap.size:=by simp
 have hB:Below w.heap.size w (w.alloc (.cells #[.int .u64 ((ze M 0:Nat):Int),.int .u64 ((ze M 1:Nat):Int),.int .u64 ((ze M 2:Nat):Int),.int .u64 ((ze M 3:Nat):Int)] 148)):=(Below.refl _ _).alloc (Nat.le_refl _) _
 have x0:(w.alloc (.cells #[.int .u64 ((ze M 0:Nat):Int),.int .u64 ((ze M 1:Nat):Int),.int .u64 ((ze M 2:Nat):Int),.int .u64 ((ze M 3:Nat):Int)] 148)).cell? ⟨w.heap.size,0,none⟩=some (.int .u64 ((ze M 0:Nat):Int)):=(zq w #[.int .u64 ((ze M 0:Nat):Int),.int .u64 ((ze M 1:Nat):Int),.int .u64 ((ze M 2:Nat):Int),.int .u64 ((ze M 3:Nat):Int)] 148 0).trans rfl
 have x1:(w.alloc (.cells #[.int .u64 ((ze M 0:Nat):Int),.int .u64 ((ze M 1:Nat):Int),.int .u64 ((ze M 2:Nat):Int),.int .u64 ((ze M 3:Nat):Int)] 148)).cell? ⟨w.heap.size,1,none⟩=some (.int .u64 ((ze M 1:Nat):Int)):=(zq w #[.int .u64 ((ze M 0:Nat):Int),.int .u64 ((ze M 1:Nat):Int),.int .u64 ((ze M 2:Nat):Int),.int .u64 ((ze M 3:Nat):Int)] 148 1).trans rfl
 have x2:(w.alloc (.cells #[.int .u64 ((ze M 0:Nat):Int),.int .u64 ((ze M 1:Nat):Int),.int .u64 ((ze M 2:Nat):Int),.int .u64 ((ze M 3:Nat):Int)] 148)).cell? ⟨w.heap.size,2,none⟩=some (.int .u64 ((ze M 2:Nat):Int)):=(zq w #[.int .u64 ((ze M 0:Nat):Int),.int .u64 ((ze M 1:Nat):Int),.int .u64 ((ze M 2:Nat):Int),.int .u64 ((ze M 3:Nat):Int)] 148 2).trans rfl
 have x3:(w.alloc (.cells #[.int .u64 ((ze M 0:Nat):Int),.int .u64 ((ze M 1:Nat):Int),.int .u64 ((ze M 2:Nat):Int),.int .u64 ((ze M 3:Nat):Int)] 148)).cell? ⟨w.heap.size,3,none⟩=some (.int .u64 ((ze M 3:Nat):Int)):=(zq w #[.int .u64 ((ze M 0:Nat):Int),.int .u64 ((ze M 1:Nat):Int),.int .u64 ((ze M 2:Nat):Int),.int .u64 ((ze M 3:Nat):Int)] 148 3).trans rfl
 generalize (w.alloc (.cells #[.int .u64 ((ze M 0:Nat):Int),.int .u64 ((ze M 1:Nat):Int),.int .u64 ((ze M 2:Nat):Int),.int .u64 ((ze M 3:Nat):Int)] 148))=W0 at hsz hB x0 x1 x2 x3 ⊢
 go_wp2_with fail
 go_loop [3,5,7] (fun v _ i=>∃k:Nat,k≤4∧i = .int .i64 k∧v = .int .i64 (qG M k:Nat)) (fun _ _ i=>4 - (intOf i).toNat)
 case atStart=>exact ⟨0,by omega,rfl,rfl⟩
 case round =>
  obtain ⟨k,hk,rfl,rfl⟩:=hrel
  have hb:=sizeTo_le M k
  rcases (by omega:k=0∨k=1∨k=2∨k=3∨k=4) with rfl|rfl|rfl|rfl|rfl
  ·have hS:Hid (qG M 1=qG M 0+qD 64 (ze M 0)):=rfl
   have hc:=(pop_eq (ze M 0) (jp M 0)).2
   have HK:=za (HO.out 0 W0)
   have hix:=idx0 (.int .u64 ((ze M 0:Nat):Int)) (.int .u64 ((ze M 1:Nat):Int)) (.int .u64 ((ze M 2:Nat):Int)) (.int .u64 ((ze M 3:Nat):Int))
   generalize qG M 0=s at *
   generalize qD 64 (ze M 0)=d at *
   go_wp2_with (go_at_call 258;refine HK.out.mono ?_;rintro _ w1 ⟨rfl,rfl⟩)
   go_round
   case rel=>exact ⟨1,by omega,by go_num,by rw[hS.out];go_num⟩
   case measure=>simp[intOf]
  ·have hS:Hid (qG M 2=qG M 1+qD 64 (ze M 1)):=rfl
   have hc:=(pop_eq (ze M 1) (jp M 1)).2
   have HK:=za (HO.out 1 W0)
   have hix:=idx1 (.int .u64 ((ze M 0:Nat):Int)) (.int .u64 ((ze M 1:Nat):Int)) (.int .u64 ((ze M 2:Nat):Int)) (.int .u64 ((ze M 3:Nat):Int))
   generalize qG M 1=s at *
   generalize qD 64 (ze M 1)=d at *
   go_wp2_with (go_at_call 258;refine HK.out.mono ?_;rintro _ w1 ⟨rfl,rfl⟩)
   go_round
   case rel=>exact ⟨2,by omega,by go_num,by rw[hS.out];go_num⟩
   case measure=>simp[intOf]
  ·have hS:Hid (qG M 3=qG M 2+qD 64 (ze M 2)):=rfl
   have hc:=(pop_eq (ze M 2) (jp M 2)).2
   have HK:=za (HO.out 2 W0)
   have hix:=idx2 (.int .u64 ((ze M 0:Nat):Int)) (.int .u64 ((ze M 1:Nat):Int)) (.int .u64 ((ze M 2:Nat):Int)) (.int .u64 ((ze M 3:Nat):Int))
   generalize qG M 2=s at *
   generalize qD 64 (ze M 2)=d at *
   go_wp2_with (go_at_call 258;refine HK.out.mono ?_;rintro _ w1 ⟨rfl,rfl⟩)
   go_round
   case rel=>exact ⟨3,by omega,by go_num,by rw[hS.out];go_num⟩
   case measure=>simp[intOf]
  ·have hS:Hid (qG M 4=qG M 3+qD 64 (ze M 3)):=rfl
   have hc:=(pop_eq (ze M 3) (jp M 3)).2
   have HK:=za (HO.out 3 W0)
   have hix:=idx3 (.int .u64 ((ze M 0:Nat):Int)) (.int .u64 ((ze M 1:Nat):Int)) (.int .u64 ((ze M 2:Nat):Int)) (.int .u64 ((ze M 3:Nat):Int))
   generalize qG M 3=s at *
   generalize qD 64 (ze M 3)=d at *
   go_wp2_with (go_at_call 258;refine HK.out.mono ?_;rintro _ w1 ⟨rfl,rfl⟩)
   go_round
   case rel=>exact ⟨4,by omega,by go_num,by rw[hS.out];go_num⟩
   case measure=>simp[intOf]
  ·go_wp2
   go_ret
   exact ⟨rfl,hB⟩
end
section
open Go Go.RowKit
attribute [local go_sem] zv
attribute [local go_sem] Oper.semAt_some
def setA (M:Nat):Array Value:=#[.int .u64 ((ze M 0:Nat):Int),.int .u64 ((ze M 1:Nat):Int),.int .u64 ((ze M 2:Nat):Int),.int .u64 ((ze M 3:Nat):Int)]
def SL (w:World) (a:Option Addr) (n:Nat) (Ms:List Nat):Prop :=
 (Ms.length=n∧n≤4398046511104)∧∀k,k<n→∃b off,a=some ⟨b,off,none⟩∧b<w.heap.size∧SetC w b (off+k*4) (Ms[k]?.getD 0)
theorem SL.mono {w w':World} {a:Option Addr} {n:Nat} {Ms:List Nat} (h:SL w a n Ms) (hb:Below w.heap.size w w'):SL w' a n Ms :=
 ⟨h.1,fun k hk=>by
  obtain ⟨b,off,e,hlt,hc⟩:=h.2 k hk
  exact ⟨b,off,e,Nat.lt_of_lt_of_le hlt hb.size,hc.keep hlt hb⟩⟩
theorem and_u (A B:Nat) (w:World):Calls Tryz.prog 220 #[.agg (setA A),.agg (setA B)] w fun e w'=>e = .returned (.agg #[.int .u64 ((ze (A &&& B) 0:Nat):Int),.int .u64 ((ze (A &&& B) 1:Nat):Int),.int .u64 ((ze (A &&& B) 2:Nat):Int),.int .u64 ((ze (A &&& B) 3:Nat):Int)])∧Below w.heap.size w w':=and_c A B w
theorem or_u (A B:Nat) (w:World):Calls Tryz.prog 219 #[.agg (setA A),.agg (setA B)] w fun e w'=>e = .returned (.agg #[.int .u64 ((ze (A ||| B) 0:Nat):Int),.int .u64 ((ze (A ||| B) 1:Nat):Int),.int .u64 ((ze (A ||| B) 2:Nat):Int),.int .u64 ((ze (A ||| B) 3:Nat):Int)])∧Below w.heap.size w w':=or_c A B w
def put4 (W:World) (b M:Nat):World:=(((W.setCell ⟨b,0,none⟩ (.int .u64 ((ze M 0:Nat):Int))).setCell ⟨b,1,none⟩ (.int .u64 ((ze M 1:Nat):Int))).setCell ⟨b,2,none⟩ (.int .u64 ((ze M 2:Nat):Int))).setCell ⟨b,3,none⟩ (.int .u64 ((ze M 3:Nat):Int))
theorem put4_self {W:World} {b M N:Nat} {T:TypeId} (h:W.heap[b]?=some (.cells (setA M) T (0,0))):(put4 W b N).heap[b]?=some (.cells (setA N) T (0,0)) :=
 zC (i:=3) (zC (i:=2) (zC (i:=1) (zC (i:=0) h _) _) _) _
theorem kb {W:World} {b b' N:Nat} {o:Obj} (h:W.heap[b']?=some o) (hb:b'≠b):(put4 W b N).heap[b']?=some o:=zU (zU (zU (zU h hb _) hb _) hb _) hb _
theorem put4_below {B:Nat} {w W:World} {b N:Nat} (h:Below B w W) (hb:B≤b):Below B w (put4 W b N) :=
 (((h.setCell (p:=⟨b,0,none⟩) hb _).setCell (p:=⟨b,1,none⟩) hb _).setCell (p:=⟨b,2,none⟩) hb _).setCell (p:=⟨b,3,none⟩) hb _
theorem zeroA:setA 0=#[.int .u64 0,.int .u64 0,.int .u64 0,.int .u64 0]:=by simp[setA,ze]
def qd (Ms:List Nat) (k:Nat):Nat:=(Ms.take k).foldl (fun o s=>o ||| s) 0
def jV (Ms:List Nat):Nat→Nat
 | 0=>0
 | k+1=>jV Ms k ||| (qd Ms k &&& Ms[k]?.getD 0)
theorem onceTo_succ {Ms:List Nat} {k:Nat} (h:k<Ms.length):qd Ms (k+1)=qd Ms k ||| Ms[k]?.getD 0:=by
 unfold qd
 rw[zP Ms 0 k h,List.foldl_append]
 rfl
theorem counted_c (a:Option Addr) (n c:Nat) (Ms:List Nat) (w:World) (h:SL w a n Ms) :
  Calls Tryz.prog 161 #[.slice a n c] w fun e w'=>e = .returned (.tuple #[.agg (setA (qd Ms n)),.agg (setA (jV Ms n))])∧Below w.heap.size w w':=by
 have H:=za h
 have hns:=h.1.2
 clear h
 go_enter Tryz.func161,Tryz.ntmps161
 go_wp2_with fail
 have fsz:((w.alloc (.cells #[.int .u64 0,.int .u64 0,.int .u64 0,.int .u64 0] 148)).alloc (.cells #[.int .u64 0,.int .u64 0,.int .u64 0,.int .u64 0] 148)).heap.size=w.heap.size+2:=by simp only[World.size_alloc] <;> omega
 have fB:Below w.heap.size w ((w.alloc (.cells #[.int .u64 0,.int .u64 0,.int .u64 0,.int .u64 0] 148)).alloc (.cells #[.int .u64 0,.int .u64 0,.int .u64 0,.int .u64 0] 148)):=((Below.refl _ _).alloc (Nat.le_refl _) _).alloc (by simp only[World.size_alloc];omega) _
 have fq0:((w.alloc (.cells #[.int .u64 0,.int .u64 0,.int .u64 0,.int .u64 0] 148)).alloc (.cells #[.int .u64 0,.int .u64 0,.int .u64 0,.int .u64 0] 148)).heap[w.heap.size]?=some (.cells #[.int .u64 0,.int .u64 0,.int .u64 0,.int .u64 0] 148 (0,0)):=by have h:=World.alloc_heap_new w (.cells #[.int .u64 0,.int .u64 0,.int .u64 0,.int .u64 0] 148);exact (Below.heap_alloc _ _ _ (by simp only[World.size_alloc];omega)).trans (h)
 have fq1:((w.alloc (.cells #[.int .u64 0,.int .u64 0,.int .u64 0,.int .u64 0] 148)).alloc (.cells #[.int .u64 0,.int .u64 0,.int .u64 0,.int .u64 0] 148)).heap[w.heap.size+1]?=some (.cells #[.int .u64 0,.int .u64 0,.int .u64 0,.int .u64 0] 148 (0,0)):=by have h:=World.alloc_heap_new (w.alloc (.cells #[.int .u64 0,.int .u64 0,.int .u64 0,.int .u64 0] 148)) (.cells #[.int .u64 0,.int .u64 0,.int .u64 0,.int .u64 0] 148);simp only[World.size_alloc] at h;exact h
 generalize ((w.alloc (.cells #[.int .u64 0,.int .u64 0,.int .u64 0,.int .u64 0] 148)).alloc (.cells #[.int .u64 0,.int .u64 0,.int .u64 0,.int .u64 0] 148))=W0 at fsz fB fq0 fq1 ⊢
 have HSZ:=za fsz
 have fsz':w.heap.size+1<W0.heap.size:=by omega
 clear fsz
 go_loopw [5,8] (fun _ i wr=>∃k:Nat,k≤n∧i = .int .i64 k∧wr.heap[w.heap.size]?=some (.cells (setA (qd Ms k)) 148 (0,0))∧wr.heap[w.heap.size+1]?=some (.cells (setA (jV Ms k)) 148 (0,0))∧Below w.heap.size w wr) (fun _ i _=>n - (intOf i).toNat)
 case atStart=>exact ⟨0,by omega,rfl,by rw[show qd Ms 0=0 from rfl,zeroA];exact fq0,by rw[show jV Ms 0=0 from rfl,zeroA];exact fq1,fB⟩
 case round =>
  obtain ⟨k,hk,rfl,hq0,hq1,hbr⟩:=hrel
  have l1:=zy hq1
  by_cases hlt:k<n
  ·obtain ⟨b,off,rfl,hb,hc⟩:=(H.out.mono hbr).2 k hlt
   have e0:wr.cell? ⟨b,off+k*4,none⟩=some (.int .u64 ((ze (Ms[k]?.getD 0) 0:Nat):Int)):=by simpa using hc 0 (by decide)
   have e1:=hc 1 (by decide)
   have e2:=hc 2 (by decide)
   have e3:=hc 3 (by decide)
   have HO:=za (onceTo_succ (Ms:=Ms) (k:=k) (by rw[H.out.1.1];exact hlt))
   have HT:Hid (jV Ms (k+1)=jV Ms k ||| (qd Ms k &&& Ms[k]?.getD 0)):=rfl
   generalize Ms[k]?.getD 0=E at *
   generalize qd Ms k=O at *
   generalize jV Ms k=T at *
   have HQ0:=za hq0
   have HQ1:=za hq1
   clear hq0 hq1 hc
   go_wp2_with fail
   have gsz:(wr.alloc (.cells #[.int .u64 ((ze E 0:Nat):Int),.int .u64 ((ze E 1:Nat):Int),.int .u64 ((ze E 2:Nat):Int),.int .u64 ((ze E 3:Nat):Int)] 148)).heap.size=wr.heap.size+1:=by simp only[World.size_alloc]
   have gB:Below wr.heap.size wr (wr.alloc (.cells #[.int .u64 ((ze E 0:Nat):Int),.int .u64 ((ze E 1:Nat):Int),.int .u64 ((ze E 2:Nat):Int),.int .u64 ((ze E 3:Nat):Int)] 148)):=(Below.refl _ _).alloc (Nat.le_refl _) _
   have gq0:(wr.alloc (.cells #[.int .u64 ((ze E 0:Nat):Int),.int .u64 ((ze E 1:Nat):Int),.int .u64 ((ze E 2:Nat):Int),.int .u64 ((ze E 3:Nat):Int)] 148)).heap[wr.heap.size]?=some (.cells #[.int .u64 ((ze E 0:Nat):Int),.int .u64 ((ze E 1:Nat):Int),.int .u64 ((ze E 2:Nat):Int),.int .u64 ((ze E 3:Nat):Int)] 148 (0,0)):=by have h:=World.alloc_heap_new wr (.cells #[.int .u64 ((ze E 0:Nat):Int),.int .u64 ((ze E 1:Nat):Int),.int .u64 ((ze E 2:Nat):Int),.int .u64 ((ze E 3:Nat):Int)] 148);exact h
   generalize (wr.alloc (.cells #[.int .u64 ((ze E 0:Nat):Int),.int .u64 ((ze E 1:Nat):Int),.int .u64 ((ze E 2:Nat):Int),.int .u64 ((ze E 3:Nat):Int)] 148))=W1 at gsz gB gq0 ⊢
   replace gq0:W1.heap[wr.heap.size]?=some (.cells (setA E) 148 (0,0)):=gq0
   have HG:=za gq0
   have hB1:=hbr.trans (gB.mono hbr.size)
   have r0:=za (zm gB HQ0.out)
   have r1:=za (zm gB HQ1.out)
   have o0:(W1).cell? ⟨w.heap.size,0,none⟩=some (.int .u64 ((ze (O) 0:Nat):Int)):=zc (r0.out) 0
   have o1:(W1).cell? ⟨w.heap.size,1,none⟩=some (.int .u64 ((ze (O) 1:Nat):Int)):=zc (r0.out) 1
   have o2:(W1).cell? ⟨w.heap.size,2,none⟩=some (.int .u64 ((ze (O) 2:Nat):Int)):=zc (r0.out) 2
   have o3:(W1).cell? ⟨w.heap.size,3,none⟩=some (.int .u64 ((ze (O) 3:Nat):Int)):=zc (r0.out) 3
   have ol:=zy (r0.out)
   have t0:(W1).cell? ⟨w.heap.size+1,0,none⟩=some (.int .u64 ((ze (T) 0:Nat):Int)):=zc (r1.out) 0
   have tf0:(W1).frozen? ⟨w.heap.size+1,0,none⟩=false:=zo (r1.out) 0
   have t1:(W1).cell? ⟨w.heap.size+1,1,none⟩=some (.int .u64 ((ze (T) 1:Nat):Int)):=zc (r1.out) 1
   have tf1:(W1).frozen? ⟨w.heap.size+1,1,none⟩=false:=zo (r1.out) 1
   have t2:(W1).cell? ⟨w.heap.size+1,2,none⟩=some (.int .u64 ((ze (T) 2:Nat):Int)):=zc (r1.out) 2
   have tf2:(W1).frozen? ⟨w.heap.size+1,2,none⟩=false:=zo (r1.out) 2
   have t3:(W1).cell? ⟨w.heap.size+1,3,none⟩=some (.int .u64 ((ze (T) 3:Nat):Int)):=zc (r1.out) 3
   have tf3:(W1).frozen? ⟨w.heap.size+1,3,none⟩=false:=zo (r1.out) 3
   have tl:=zy (r1.out)
   have s0:(W1).cell? ⟨wr.heap.size,0,none⟩=some (.int .u64 ((ze (E) 0:Nat):Int)):=zc (gq0) 0
   have s1:(W1).cell? ⟨wr.heap.size,1,none⟩=some (.int .u64 ((ze (E) 1:Nat):Int)):=zc (gq0) 1
   have s2:(W1).cell? ⟨wr.heap.size,2,none⟩=some (.int .u64 ((ze (E) 2:Nat):Int)):=zc (gq0) 2
   have s3:(W1).cell? ⟨wr.heap.size,3,none⟩=some (.int .u64 ((ze (E) 3:Nat):Int)):=zc (gq0) 3
   have sl:=zy (gq0)
   have HGSZ:=za gsz
   clear e0 e1 e2 e3 gq0 gsz
   refine zk (fun w'=>∃u,w'=over (W1) u) [5,4] [(0,0),(0,1),(0,2),(1,3),(2,4),(2,5)] (by kernel_rfl) (by kernel_rfl) (by exact ⟨_,zi (by repeat (first|assumption|exact Below.refl _ _|refine zd ?_|refine zg ?_ _|refine zb ?_ (by assumption)))⟩) ?_
   dsimp only[zt,zG]
   repeat (first|(refine zu rfl (fun K hK=>?_);go_big_quiet_op;refine hK _ ?_;clear hK K)|(refine zp rfl rfl (fun K hK=>?_);go_big_quiet_op;refine hK _ ?_;clear hK K)|(refine zE ?_;go_wp2_with (first|(go_at_call 220;refine (and_u O E _).mono ?_;rintro _ w2 ⟨rfl,hb2⟩)|(go_at_call 219;refine (or_u T (O &&& E) _).mono ?_;rintro _ w3 ⟨rfl,hb3⟩;have v1:=za (zm hb3 (zm hb2 r1.out));have y0:=zo v1.out 0;have y1:=zo v1.out 1;have y2:=zo v1.out 2;have y3:=zo v1.out 3;have x0:w3.cell? ⟨w.heap.size+1,0,none⟩=some (.int .u64 ((ze T 0:Nat):Int)):=zc v1.out 0;have x1:w3.cell? ⟨w.heap.size+1,1,none⟩=some (.int .u64 ((ze T 1:Nat):Int)):=zc v1.out 1;have x2:w3.cell? ⟨w.heap.size+1,2,none⟩=some (.int .u64 ((ze T 2:Nat):Int)):=zc v1.out 2;have x3:w3.cell? ⟨w.heap.size+1,3,none⟩=some (.int .u64 ((ze T 3:Nat):Int)):=zc v1.out 3));refine ⟨?_,?_⟩;focus (exact ⟨_,zi (by repeat (first|assumption|exact Below.refl _ _|refine zd ?_|refine zg ?_ _|refine zb ?_ (by assumption)))⟩)))
   refine zA _ _ _ rfl ?_
   dsimp only[List.map]
   go_wp2_with (first|(go_at_call 220;refine (and_u O E _).mono ?_;rintro _ w2 ⟨rfl,hb2⟩)|(go_at_call 219;refine (or_u T (O &&& E) _).mono ?_;rintro _ w3 ⟨rfl,hb3⟩;have v1:=za (zm hb3 (zm hb2 r1.out));have y0:=zo v1.out 0;have y1:=zo v1.out 1;have y2:=zo v1.out 2;have y3:=zo v1.out 3;have x0:w3.cell? ⟨w.heap.size+1,0,none⟩=some (.int .u64 ((ze T 0:Nat):Int)):=zc v1.out 0;have x1:w3.cell? ⟨w.heap.size+1,1,none⟩=some (.int .u64 ((ze T 1:Nat):Int)):=zc v1.out 1;have x2:w3.cell? ⟨w.heap.size+1,2,none⟩=some (.int .u64 ((ze T 2:Nat):Int)):=zc v1.out 2;have x3:w3.cell? ⟨w.heap.size+1,3,none⟩=some (.int .u64 ((ze T 3:Nat):Int)):=zc v1.out 3))
   refine NoPanic.normal ?_
   have hs2:=hb2.size
   have hs3:=hb3.size
   have p1:=put4_self (N:=T ||| O &&& E) v1.out
   have p0:=kb (b:=w.heap.size+1) (N:=T ||| O &&& E) (zm hb3 (zm (o := .cells (setA O) 148 (0,0)) hb2 r0.out)) (by omega)
   have pE:=kb (b:=w.heap.size+1) (N:=T ||| O &&& E) (zm hb3 (zm (o := .cells (setA E) 148 (0,0)) hb2 HG.out)) (by omega)
   have hB3:Below w.heap.size w w3:=hB1.drew.trans ((hb2.trans (hb3.mono hs2)).mono hB1.size)
   have hB4:=put4_below (b:=w.heap.size+1) (N:=T ||| O &&& E) hB3 (by omega)
   generalize hW4:put4 w3 (w.heap.size+1) (T ||| O &&& E)=W4 at p1 p0 pE hB4
   unfold put4 at hW4
   rw[hW4]
   clear hW4 x0 x1 x2 x3 y0 y1 y2 y3 o0 o1 o2 o3 t0 t1 t2 t3 tf0 tf1 tf2 tf3 s0 s1 s2 s3 hs2 hs3
   have P0:=za p0
   have P1:=za p1
   have o0:(W4).cell? ⟨w.heap.size,0,none⟩=some (.int .u64 ((ze (O) 0:Nat):Int)):=zc (p0) 0
   have o1:(W4).cell? ⟨w.heap.size,1,none⟩=some (.int .u64 ((ze (O) 1:Nat):Int)):=zc (p0) 1
   have o2:(W4).cell? ⟨w.heap.size,2,none⟩=some (.int .u64 ((ze (O) 2:Nat):Int)):=zc (p0) 2
   have o3:(W4).cell? ⟨w.heap.size,3,none⟩=some (.int .u64 ((ze (O) 3:Nat):Int)):=zc (p0) 3
   have ol:=zy (p0)
   have s0:(W4).cell? ⟨wr.heap.size,0,none⟩=some (.int .u64 ((ze (E) 0:Nat):Int)):=zc (pE) 0
   have s1:(W4).cell? ⟨wr.heap.size,1,none⟩=some (.int .u64 ((ze (E) 1:Nat):Int)):=zc (pE) 1
   have s2:(W4).cell? ⟨wr.heap.size,2,none⟩=some (.int .u64 ((ze (E) 2:Nat):Int)):=zc (pE) 2
   have s3:(W4).cell? ⟨wr.heap.size,3,none⟩=some (.int .u64 ((ze (E) 3:Nat):Int)):=zc (pE) 3
   have sl:=zy (pE)
   clear p0 p1 pE
   go_wp2_with (go_at_call 219;refine (or_u O E _).mono ?_;rintro _ w5 ⟨rfl,hb5⟩;have v2:=za (zm hb5 P0.out);have y0:=zo v2.out 0;have y1:=zo v2.out 1;have y2:=zo v2.out 2;have y3:=zo v2.out 3;have x0:w5.cell? ⟨w.heap.size,0,none⟩=some (.int .u64 ((ze O 0:Nat):Int)):=zc v2.out 0;have x1:w5.cell? ⟨w.heap.size,1,none⟩=some (.int .u64 ((ze O 1:Nat):Int)):=zc v2.out 1;have x2:w5.cell? ⟨w.heap.size,2,none⟩=some (.int .u64 ((ze O 2:Nat):Int)):=zc v2.out 2;have x3:w5.cell? ⟨w.heap.size,3,none⟩=some (.int .u64 ((ze O 3:Nat):Int)):=zc v2.out 3)
   go_roundw
   case rel=>exact ⟨k+1,by omega,by go_num,by rw[HO.out];exact put4_self v2.out,by rw[HT.out];exact kb (zm hb5 P1.out) (by omega),put4_below (hB4.trans (hb5.mono hB4.size)) (Nat.le_refl _)⟩
   case measure=>simp[intOf];omega
  ·have e:k=n:=by omega
   subst e
   obtain ⟨O,hO⟩:∃O,qd Ms k=O:=⟨_,rfl⟩
   obtain ⟨T,hT⟩:∃T,jV Ms k=T:=⟨_,rfl⟩
   rw[hO] at hq0
   rw[hT] at hq1
   have HO9:=za hO
   have HT9:=za hT
   clear hO hT
   have o0:(wr).cell? ⟨w.heap.size,0,none⟩=some (.int .u64 ((ze (O) 0:Nat):Int)):=zc (hq0) 0
   have of0:(wr).frozen? ⟨w.heap.size,0,none⟩=false:=zo (hq0) 0
   have o1:(wr).cell? ⟨w.heap.size,1,none⟩=some (.int .u64 ((ze (O) 1:Nat):Int)):=zc (hq0) 1
   have of1:(wr).frozen? ⟨w.heap.size,1,none⟩=false:=zo (hq0) 1
   have o2:(wr).cell? ⟨w.heap.size,2,none⟩=some (.int .u64 ((ze (O) 2:Nat):Int)):=zc (hq0) 2
   have of2:(wr).frozen? ⟨w.heap.size,2,none⟩=false:=zo (hq0) 2
   have o3:(wr).cell? ⟨w.heap.size,3,none⟩=some (.int .u64 ((ze (O) 3:Nat):Int)):=zc (hq0) 3
   have of3:(wr).frozen? ⟨w.heap.size,3,none⟩=false:=zo (hq0) 3
   have ol:=zy (hq0)
   have t0:(wr).cell? ⟨w.heap.size+1,0,none⟩=some (.int .u64 ((ze (T) 0:Nat):Int)):=zc (hq1) 0
   have tf0:(wr).frozen? ⟨w.heap.size+1,0,none⟩=false:=zo (hq1) 0
   have t1:(wr).cell? ⟨w.heap.size+1,1,none⟩=some (.int .u64 ((ze (T) 1:Nat):Int)):=zc (hq1) 1
   have tf1:(wr).frozen? ⟨w.heap.size+1,1,none⟩=false:=zo (hq1) 1
   have t2:(wr).cell? ⟨w.heap.size+1,2,none⟩=some (.int .u64 ((ze (T) 2:Nat):Int)):=zc (hq1) 2
   have tf2:(wr).frozen? ⟨w.heap.size+1,2,none⟩=false:=zo (hq1) 2
   have t3:(wr).cell? ⟨w.heap.size+1,3,none⟩=some (.int .u64 ((ze (T) 3:Nat):Int)):=zc (hq1) 3
   have tf3:(wr).frozen? ⟨w.heap.size+1,3,none⟩=false:=zo (hq1) 3
   have tl:=zy (hq1)
   have HQ0:=za hq0
   have HQ1:=za hq1
   clear hq0 hq1
   go_wp2_with fail
   go_region
   have z0:=kb (b:=w.heap.size+1) (N:=T) (put4_self (N:=O) HQ0.out) (by omega)
   have z1:=put4_self (N:=T) (kb (b:=w.heap.size) (N:=O) HQ1.out (by omega))
   have hB9:=put4_below (b:=w.heap.size+1) (N:=T) (put4_below (b:=w.heap.size) (N:=O) hbr (Nat.le_refl _)) (by omega)
   generalize hW9:put4 (put4 wr w.heap.size O) (w.heap.size+1) T=W9 at z0 z1 hB9
   unfold put4 at hW9
   rw[hW9]
   clear hW9
   have x0:(W9).cell? ⟨w.heap.size,0,none⟩=some (.int .u64 ((ze (O) 0:Nat):Int)):=zc (z0) 0
   have x1:(W9).cell? ⟨w.heap.size,1,none⟩=some (.int .u64 ((ze (O) 1:Nat):Int)):=zc (z0) 1
   have x2:(W9).cell? ⟨w.heap.size,2,none⟩=some (.int .u64 ((ze (O) 2:Nat):Int)):=zc (z0) 2
   have x3:(W9).cell? ⟨w.heap.size,3,none⟩=some (.int .u64 ((ze (O) 3:Nat):Int)):=zc (z0) 3
   have xl:=zy (z0)
   have y0:(W9).cell? ⟨w.heap.size+1,0,none⟩=some (.int .u64 ((ze (T) 0:Nat):Int)):=zc (z1) 0
   have y1:(W9).cell? ⟨w.heap.size+1,1,none⟩=some (.int .u64 ((ze (T) 1:Nat):Int)):=zc (z1) 1
   have y2:(W9).cell? ⟨w.heap.size+1,2,none⟩=some (.int .u64 ((ze (T) 2:Nat):Int)):=zc (z1) 2
   have y3:(W9).cell? ⟨w.heap.size+1,3,none⟩=some (.int .u64 ((ze (T) 3:Nat):Int)):=zc (z1) 3
   have yl:=zy (z1)
   go_wp2_with fail
   refine bodyPost_ret (v := .tuple #[.agg #[.int .u64 ((ze (O) 0:Nat):Int),.int .u64 ((ze (O) 1:Nat):Int),.int .u64 ((ze (O) 2:Nat):Int),.int .u64 ((ze (O) 3:Nat):Int)],.agg #[.int .u64 ((ze (T) 0:Nat):Int),.int .u64 ((ze (T) 1:Nat):Int),.int .u64 ((ze (T) 2:Nat):Int),.int .u64 ((ze (T) 3:Nat):Int)]]) ?_ rfl ⟨by rw[HO9.out,HT9.out];rfl,hB9.drew⟩
   simp[results,Tryz.f161,go_sem,x0,x1,x2,x3,y0,y1,y2,y3]
end
section
open Go Go.RowKit
attribute [local go_sem] zv
attribute [local go_sem] Oper.semAt_some
def jY (t0 t1 t2 t3:Value) (a:Option Addr) (n c:Nat) (M:Nat):Array Value:=#[t0,t1,t2,t3,.slice a n c,.int .u64 ((ze M 0:Nat):Int),.int .u64 ((ze M 1:Nat):Int),.int .u64 ((ze M 2:Nat):Int),.int .u64 ((ze M 3:Nat):Int)]
theorem counted_u (a:Option Addr) (n c:Nat) (Ms:List Nat) (w:World) (h:SL w a n Ms) :
  Calls Tryz.prog 161 #[.slice a n c] w fun e w'=>e = .returned (.tuple #[.agg #[.int .u64 ((ze (qd Ms n) 0:Nat):Int),.int .u64 ((ze (qd Ms n) 1:Nat):Int),.int .u64 ((ze (qd Ms n) 2:Nat):Int),.int .u64 ((ze (qd Ms n) 3:Nat):Int)],.agg #[.int .u64 ((ze (jV Ms n) 0:Nat):Int),.int .u64 ((ze (jV Ms n) 1:Nat):Int),.int .u64 ((ze (jV Ms n) 2:Nat):Int),.int .u64 ((ze (jV Ms n) 3:Nat):Int)]])∧Below w.heap.size w w':=counted_c a n c Ms w h
theorem setType:Tryz.prog.underlying 148=some (.array 4 146):=by kernel_rfl
theorem run_eq_set (d:Nat) (a0 a1 a2 a3 b0 b1 b2 b3:Int) (w:World) :
  (Op.equalIn (d+1+1) 148 (.agg #[.int .u64 a0,.int .u64 a1,.int .u64 a2,.int .u64 a3]) (.agg #[.int .u64 b0,.int .u64 b1,.int .u64 b2,.int .u64 b3])).run Tryz.prog w = .ok (a0==b0&&(a1==b1&&(a2==b2&&a3==b3))) w:=by
 rw[Op.equalIn]
 simp only[Sem.run_bind,run_underlying setType,Result.andThen_ok]
 simp[go_sem,List.range'_succ]
 by_cases h0:a0=b0
 ·by_cases h1:a1=b1
  ·by_cases h2:a2=b2
   ·by_cases h3:a3=b3
    ·simp[h0,h1,h2,h3]
    ·simp[h0,h1,h2,h3]
   ·simp[h0,h1,h2]
  ·simp[h0,h1]
 ·simp[h0]
def eqM (A B:Nat):Bool:=((ze A 0:Nat):Int)==((ze B 0:Nat):Int)&&(((ze A 1:Nat):Int)==((ze B 1:Nat):Int)&&(((ze A 2:Nat):Int)==((ze B 2:Nat):Int)&&((ze A 3:Nat):Int)==((ze B 3:Nat):Int)))
theorem run_eq_masks (A B:Nat) (w:World):(Op.equalIn 10000 148 (.agg #[.int .u64 ((ze (A) 0:Nat):Int),.int .u64 ((ze (A) 1:Nat):Int),.int .u64 ((ze (A) 2:Nat):Int),.int .u64 ((ze (A) 3:Nat):Int)]) (.agg #[.int .u64 ((ze (B) 0:Nat):Int),.int .u64 ((ze (B) 1:Nat):Int),.int .u64 ((ze (B) 2:Nat):Int),.int .u64 ((ze (B) 3:Nat):Int)])).run Tryz.prog w = .ok (eqM A B) w:=run_eq_set 9998 _ _ _ _ _ _ _ _ w
theorem run_eq_zero (A:Nat) (w:World):(Op.equalIn 10000 148 (.agg #[.int .u64 ((ze (A) 0:Nat):Int),.int .u64 ((ze (A) 1:Nat):Int),.int .u64 ((ze (A) 2:Nat):Int),.int .u64 ((ze (A) 3:Nat):Int)]) (.agg #[.int .u64 0,.int .u64 0,.int .u64 0,.int .u64 0])).run Tryz.prog w = .ok (eqM A 0) w:=by
 have h:=run_eq_set 9998 ((ze A 0:Nat):Int) ((ze A 1:Nat):Int) ((ze A 2:Nat):Int) ((ze A 3:Nat):Int) 0 0 0 0 w
 have e:eqM A 0=(((ze A 0:Nat):Int)==0&&(((ze A 1:Nat):Int)==0&&(((ze A 2:Nat):Int)==0&&((ze A 3:Nat):Int)==0))):=by
  have hz:∀q,ze 0 q=0:=fun q=>by simp[ze]
  unfold eqM
  rw[hz,hz,hz,hz]
  rfl
 rw[e]
 exact h
attribute [local go_sem] run_eq_masks
attribute [local go_sem] run_eq_zero
def fullTo (Ms:List Nat) (k:Nat):Bool:=(Ms.take k).all fun s=>!eqM s 0
theorem fullTo_succ {Ms:List Nat} {k:Nat} (h:k<Ms.length):fullTo Ms (k+1)=(fullTo Ms k&&!eqM (Ms[k]?.getD 0) 0):=by
 unfold fullTo
 rw[zP Ms 0 k h,List.all_append]
 simp
theorem fullTo_mono {Ms:List Nat} {k:Nat} (h:fullTo Ms k=false):fullTo Ms Ms.length=false:=by
 unfold fullTo at *
 rw[List.take_length]
 rw[Bool.eq_false_iff] at h ⊢
 intro hh
 apply h
 rw[List.all_eq_true] at hh ⊢
 exact fun x hx=>hh x (List.mem_of_mem_take hx)
def contraB (Ms:List Nat) (M:Nat):Bool:=!eqM (qd Ms Ms.length) M||!fullTo Ms Ms.length
theorem contra_c (b:Nat) (t0 t1 t2 t3:Value) (a:Option Addr) (n c M:Nat) (Ms:List Nat) (w:World) (hb:w.heap[b]?=some (.cells (jY t0 t1 t2 t3 a n c M) 150 (0,0))) (h:SL w a n Ms) :
  Calls Tryz.prog 91 #[.pointer (some ⟨b,0,none⟩)] w fun e w'=>e = .returned (.bool (contraB Ms M))∧Below w.heap.size w w':=by
 have H:=za h
 have HB:=za hb
 have hns:=h.1.2
 have c4:w.cell? ⟨b,4,none⟩=some (.slice a n c):=zc hb 4
 have hC:=za (fun W (hW:Below w.heap.size w W)=>counted_u a n c Ms W (h.mono hW))
 clear h hb
 go_enter Tryz.func91,Tryz.ntmps91
 go_wp2_with fail
 refine (hC.out w (Below.refl _ _)).mono ?_
 rintro _ w1 ⟨rfl,hb1⟩
 go_wp2_with fail
 obtain ⟨O,hO⟩:∃O,qd Ms n=O:=⟨_,rfl⟩
 obtain ⟨T,hT⟩:∃T,jV Ms n=T:=⟨_,rfl⟩
 rw[hO,hT]
 have HO9:=za hO
 clear hO hT
 have fsz:((w1.alloc (.cells #[.int .u64 ((ze (O) 0:Nat):Int),.int .u64 ((ze (O) 1:Nat):Int),.int .u64 ((ze (O) 2:Nat):Int),.int .u64 ((ze (O) 3:Nat):Int)] 148)).alloc (.cells #[.int .u64 ((ze (T) 0:Nat):Int),.int .u64 ((ze (T) 1:Nat):Int),.int .u64 ((ze (T) 2:Nat):Int),.int .u64 ((ze (T) 3:Nat):Int)] 148)).heap.size=w1.heap.size+2:=by simp only[World.size_alloc] <;> omega
 have fB:Below w1.heap.size w1 ((w1.alloc (.cells #[.int .u64 ((ze (O) 0:Nat):Int),.int .u64 ((ze (O) 1:Nat):Int),.int .u64 ((ze (O) 2:Nat):Int),.int .u64 ((ze (O) 3:Nat):Int)] 148)).alloc (.cells #[.int .u64 ((ze (T) 0:Nat):Int),.int .u64 ((ze (T) 1:Nat):Int),.int .u64 ((ze (T) 2:Nat):Int),.int .u64 ((ze (T) 3:Nat):Int)] 148)):=((Below.refl _ _).alloc (Nat.le_refl _) _).alloc (by simp only[World.size_alloc];omega) _
 have fq0:((w1.alloc (.cells #[.int .u64 ((ze (O) 0:Nat):Int),.int .u64 ((ze (O) 1:Nat):Int),.int .u64 ((ze (O) 2:Nat):Int),.int .u64 ((ze (O) 3:Nat):Int)] 148)).alloc (.cells #[.int .u64 ((ze (T) 0:Nat):Int),.int .u64 ((ze (T) 1:Nat):Int),.int .u64 ((ze (T) 2:Nat):Int),.int .u64 ((ze (T) 3:Nat):Int)] 148)).heap[w1.heap.size]?=some (.cells #[.int .u64 ((ze (O) 0:Nat):Int),.int .u64 ((ze (O) 1:Nat):Int),.int .u64 ((ze (O) 2:Nat):Int),.int .u64 ((ze (O) 3:Nat):Int)] 148 (0,0)):=by have h:=World.alloc_heap_new w1 (.cells #[.int .u64 ((ze (O) 0:Nat):Int),.int .u64 ((ze (O) 1:Nat):Int),.int .u64 ((ze (O) 2:Nat):Int),.int .u64 ((ze (O) 3:Nat):Int)] 148);exact (Below.heap_alloc _ _ _ (by simp only[World.size_alloc];omega)).trans (h)
 have fq1:((w1.alloc (.cells #[.int .u64 ((ze (O) 0:Nat):Int),.int .u64 ((ze (O) 1:Nat):Int),.int .u64 ((ze (O) 2:Nat):Int),.int .u64 ((ze (O) 3:Nat):Int)] 148)).alloc (.cells #[.int .u64 ((ze (T) 0:Nat):Int),.int .u64 ((ze (T) 1:Nat):Int),.int .u64 ((ze (T) 2:Nat):Int),.int .u64 ((ze (T) 3:Nat):Int)] 148)).heap[w1.heap.size+1]?=some (.cells #[.int .u64 ((ze (T) 0:Nat):Int),.int .u64 ((ze (T) 1:Nat):Int),.int .u64 ((ze (T) 2:Nat):Int),.int .u64 ((ze (T) 3:Nat):Int)] 148 (0,0)):=by have h:=World.alloc_heap_new (w1.alloc (.cells #[.int .u64 ((ze (O) 0:Nat):Int),.int .u64 ((ze (O) 1:Nat):Int),.int .u64 ((ze (O) 2:Nat):Int),.int .u64 ((ze (O) 3:Nat):Int)] 148)) (.cells #[.int .u64 ((ze (T) 0:Nat):Int),.int .u64 ((ze (T) 1:Nat):Int),.int .u64 ((ze (T) 2:Nat):Int),.int .u64 ((ze (T) 3:Nat):Int)] 148);simp only[World.size_alloc] at h;exact h
 generalize ((w1.alloc (.cells #[.int .u64 ((ze (O) 0:Nat):Int),.int .u64 ((ze (O) 1:Nat):Int),.int .u64 ((ze (O) 2:Nat):Int),.int .u64 ((ze (O) 3:Nat):Int)] 148)).alloc (.cells #[.int .u64 ((ze (T) 0:Nat):Int),.int .u64 ((ze (T) 1:Nat):Int),.int .u64 ((ze (T) 2:Nat):Int),.int .u64 ((ze (T) 3:Nat):Int)] 148))=W1 at fsz fB fq0 fq1 ⊢
 have hbl:=zy HB.out
 have hz1:=hb1.size
 have HFS:=za fsz
 have hbW:b<W1.heap.size:=by omega
 have hqb:W1.heap[b]?=some (.cells (jY t0 t1 t2 t3 a n c M) 150 (0,0)):=zm fB (zm hb1 HB.out)
 have m0:W1.cell? ⟨b,5,none⟩=some (.int .u64 ((ze M 0:Nat):Int)):=zc hqb 5
 have m1:W1.cell? ⟨b,6,none⟩=some (.int .u64 ((ze M 1:Nat):Int)):=zc hqb 6
 have m2:W1.cell? ⟨b,7,none⟩=some (.int .u64 ((ze M 2:Nat):Int)):=zc hqb 7
 have m3:W1.cell? ⟨b,8,none⟩=some (.int .u64 ((ze M 3:Nat):Int)):=zc hqb 8
 have m4:W1.cell? ⟨b,4,none⟩=some (.slice a n c):=zc hqb 4
 have HQB:=za hqb
 replace fq0:W1.heap[w1.heap.size]?=some (.cells (setA O) 148 (0,0)):=fq0
 have o0:(W1).cell? ⟨w1.heap.size,0,none⟩=some (.int .u64 ((ze (O) 0:Nat):Int)):=zc (fq0) 0
 have o1:(W1).cell? ⟨w1.heap.size,1,none⟩=some (.int .u64 ((ze (O) 1:Nat):Int)):=zc (fq0) 1
 have o2:(W1).cell? ⟨w1.heap.size,2,none⟩=some (.int .u64 ((ze (O) 2:Nat):Int)):=zc (fq0) 2
 have o3:(W1).cell? ⟨w1.heap.size,3,none⟩=some (.int .u64 ((ze (O) 3:Nat):Int)):=zc (fq0) 3
 have ol:=zy (fq0)
 clear fq0 fq1 fsz hqb c4
 refine zk (fun w'=>∃u,w'=over (W1) u) [] [(0,0),(0,1),(0,2),(0,3),(0,4),(0,5)] (by kernel_rfl) (by kernel_rfl) (by exact ⟨_,zi (by repeat (first|assumption|exact Below.refl _ _|refine zd ?_|refine zg ?_ _|refine zb ?_ (by assumption)))⟩) ?_
 dsimp only[zt,zG]
 repeat (first|(refine zu rfl (fun K hK=>?_);go_big_quiet_op;refine hK _ ?_;clear hK K)|(refine zp rfl rfl (fun K hK=>?_);go_big_quiet_op;refine hK _ ?_;clear hK K))
 refine jI ?_
 have hE:Hid (contraB Ms M=(!eqM O M||!fullTo Ms n)):=by unfold Hid contraB;rw[H.out.1.1,HO9.out]
 have hBW:Below w.heap.size w W1:=hb1.trans (fB.mono hz1)
 by_cases hq:eqM O M=true
 ·rw[hq] at hE
  simp only[hq,Bool.not_true]
  clear hq
  go_wp2_with fail
  go_loopw [6,26] (fun _ i wr=>∃k:Nat,k≤n∧i = .int .i64 k∧Hid (fullTo Ms k=true)∧Below w.heap.size w wr) (fun _ i _=>n - (intOf i).toNat)
  case atStart=>exact ⟨0,by omega,rfl,rfl,hBW.drew⟩
  case round =>
   obtain ⟨k,hk,rfl,hf,hbr⟩:=hrel
   by_cases hlt:k<n
   ·obtain ⟨b9,off,rfl,hb9,hc⟩:=(H.out.mono hbr).2 k hlt
    have e0:wr.cell? ⟨b9,off+k*4,none⟩=some (.int .u64 ((ze (Ms[k]?.getD 0) 0:Nat):Int)):=by simpa using hc 0 (by decide)
    have e1:=hc 1 (by decide)
    have e2:=hc 2 (by decide)
    have e3:=hc 3 (by decide)
    have hkl:k<Ms.length:=by rw[H.out.1.1];exact hlt
    have HF:=za (fullTo_succ hkl)
    have HM:=za (fun (h:fullTo Ms (k+1)=false)=>fullTo_mono h)
    rw[H.out.1.1] at HM
    generalize Ms[k]?.getD 0=E at *
    clear hc hkl
    have hA9:Below w.heap.size w (wr.alloc (.cells #[.int .u64 ((ze E 0:Nat):Int),.int .u64 ((ze E 1:Nat):Int),.int .u64 ((ze E 2:Nat):Int),.int .u64 ((ze E 3:Nat):Int)] 148)):=hbr.alloc hbr.size _
    cases hz:eqM E 0 with
    | true =>
     have HZ:=za hz
     go_wp2
     go_ret
     exact ⟨zN (by rw[hE.out,HM.out (by rw[HF.out,HZ.out];simp)];rfl),hA9⟩
    | false =>
     have HZ:=za hz
     go_wp2
     go_roundw
     case rel=>exact ⟨k+1,by omega,by go_num,by unfold Hid;rw[HF.out,hf.out,HZ.out];rfl,hA9⟩
     case measure=>simp[intOf];omega
   ·have e:k=n:=by omega
    subst e
    go_wp2
    go_ret
    refine ⟨zN ?_,hbr⟩
    rw[hE.out,hf.out]
    rfl
 ·have hq2:eqM O M=false:=by simpa using hq
  rw[hq2] at hE
  simp only[hq2,Bool.not_false]
  clear hq hq2
  go_wp2
  go_ret
  exact ⟨zN (by rw[hE.out];rfl),hBW.drew⟩
end
section
open Go Go.RowKit
attribute [local go_sem] zv
def sameSt (xs ys:List Int) (t t':Int) (d d':Bool):Bool:=qH xs ys&&(t==t')&&(d==d')
theorem samest_c (a:Option Addr) (n c:Nat) (xs:List Int) (t:Int) (d:Bool) (a':Option Addr) (n' c':Nat) (ys:List Int) (t':Int) (d':Bool) (w:World) (h:IC w a n xs) (h':IC w a' n' ys) :
  Calls Tryz.prog 55 #[.agg #[.slice a n c,.int .i64 t,.bool d],.agg #[.slice a' n' c',.int .i64 t',.bool d']] w fun e w'=>e = .returned (.bool (sameSt xs ys t t' d d'))∧Below w.heap.size w w':=by
 have hE:Hid (sameSt xs ys t t' d d'=(qH xs ys&&(t==t')&&(d==d'))):=rfl
 go_enter Tryz.func55,Tryz.ntmps55
 go_wp2_with fail
 have fsz:((w.alloc (.cells #[.slice a n c,.int .i64 t,.bool d] 102)).alloc (.cells #[.slice a' n' c',.int .i64 t',.bool d'] 102)).heap.size=w.heap.size+2:=by simp only[World.size_alloc] <;> omega
 have fB:Below w.heap.size w ((w.alloc (.cells #[.slice a n c,.int .i64 t,.bool d] 102)).alloc (.cells #[.slice a' n' c',.int .i64 t',.bool d'] 102)):=((Below.refl _ _).alloc (Nat.le_refl _) _).alloc (by simp only[World.size_alloc];omega) _
 have fq0:((w.alloc (.cells #[.slice a n c,.int .i64 t,.bool d] 102)).alloc (.cells #[.slice a' n' c',.int .i64 t',.bool d'] 102)).heap[w.heap.size]?=some (.cells #[.slice a n c,.int .i64 t,.bool d] 102 (0,0)):=by have h:=World.alloc_heap_new w (.cells #[.slice a n c,.int .i64 t,.bool d] 102);exact (Below.heap_alloc _ _ _ (by simp only[World.size_alloc];omega)).trans (h)
 have fq1:((w.alloc (.cells #[.slice a n c,.int .i64 t,.bool d] 102)).alloc (.cells #[.slice a' n' c',.int .i64 t',.bool d'] 102)).heap[w.heap.size+1]?=some (.cells #[.slice a' n' c',.int .i64 t',.bool d'] 102 (0,0)):=by have h:=World.alloc_heap_new (w.alloc (.cells #[.slice a n c,.int .i64 t,.bool d] 102)) (.cells #[.slice a' n' c',.int .i64 t',.bool d'] 102);simp only[World.size_alloc] at h;exact h
 generalize ((w.alloc (.cells #[.slice a n c,.int .i64 t,.bool d] 102)).alloc (.cells #[.slice a' n' c',.int .i64 t',.bool d'] 102))=W0 at fsz fB fq0 fq1 ⊢
 have hz0:w.heap.size≤W0.heap.size:=fB.size
 clear fsz
 refine (same_c a a' n n' c c' xs ys W0 (h.mono fB) (h'.mono fB)).mono ?_
 rintro _ w1 ⟨rfl,hb1⟩
 have g0:=zm hb1 fq0
 have g1:=zm hb1 fq1
 have x1:w1.cell? ⟨w.heap.size,1,none⟩=some (.int .i64 t):=zc g0 1
 have x2:w1.cell? ⟨w.heap.size,2,none⟩=some (.bool d):=zc g0 2
 have y1:w1.cell? ⟨w.heap.size+1,1,none⟩=some (.int .i64 t'):=zc g1 1
 have y2:w1.cell? ⟨w.heap.size+1,2,none⟩=some (.bool d'):=zc g1 2
 have hB:=fB.trans (hb1.mono hz0)
 clear fq0 fq1 g0 g1 h h'
 cases hs:qH xs ys with
 | false =>
  rw[hs] at hE
  clear hs
  go_wp2
  go_ret
  exact ⟨zN (by rw[hE.out];rfl),hB⟩
 | true =>
  rw[hs] at hE
  clear hs
  cases ht:(t==t') with
  | false =>
   rw[ht] at hE
   go_wp2
   go_ret
   exact ⟨zN (by rw[hE.out];rfl),hB⟩
  | true =>
   rw[ht] at hE
   go_wp2
   go_ret
   exact ⟨zN (by rw[hE.out];rfl),hB⟩
end
end Go.Proofs.YtaadpihbjhachaaGreat
