/- Texts J199 to O8 of this proof, in one file. -/
import Derived.Test.YtpkghjoippcjeaaW14
import Derived.Test.YtpkghjoippcjeaaW17
namespace Go.Proofs.Ytpkghjoippcjeaa
set_option maxRecDepth 100000
set_option maxHeartbeats 16000000
section
open Go Go.RowKit
theorem orthV_true {n:Nat} {cs ds:List Int} (L:Latin n cs) (M:Latin n ds) (h:Ortho cs ds):orthV (n:Int) (n:Int) cs (n:Int) (n:Int) ds = .tuple #[.bool true,.int .i64 0]:=by
 have ht:twoE (n:Int) (n:Int) cs (n:Int) (n:Int) ds=0:=by
  unfold twoE
  rw[lat_sqE L,lat_sqE M]
  simp[firstL,whenV]
 unfold orthV
 rw[if_pos ht,meetR_none.2 h];rfl
theorem knames_small (n:Nat) (cs:List Int):(kNames n cs 7).length≤1000:=by
 unfold kNames kindTo
 rw[List.length_map]
 exact Nat.le_trans (List.length_filter_le _ _) (by rw[List.length_range];decide)
theorem ldigits_c (z a0 a1 b0 b1 c0 c1:Int) (w:World) :
  Calls Try.prog 3 #[.agg #[.int .i64 z,.int .i64 a0,.int .i64 a1,.int .i64 b0,.int .i64 b1,.int .i64 c0,.int .i64 c1]] w fun e w'=>e = .returned (.bool true)∧Below w.heap.size w w':=by
 by_cases h0:stepE z [a0,a1,b0,b1,c0,c1]=0
 case neg=>exact ldig_g0 z a0 a1 b0 b1 c0 c1 w h0
 by_cases h9:9<z
 ·exact ldig_g1 z a0 a1 b0 b1 c0 c1 w h0 h9
 obtain ⟨⟨hz1,hz2⟩,hn⟩:=stepE_of h0
 obtain ⟨n,rfl⟩:∃n:Nat,z=(n:Int):=⟨z.toNat,by omega⟩
 have h1:1≤n:=by omega
 have h2:n≤16:=by omega
 have h9':n≤9:=by omega
 have HS:Hid (∀W,Calls Try.prog 4 #[.agg #[.int .i64 (n:Int),.int .i64 a0,.int .i64 a1,.int .i64 b0,.int .i64 b1,.int .i64 c0,.int .i64 c1]] W fun e w'=>e = .returned (.int .i64 0)∧Below W.heap.size W w'):=Lib.hid (fun W=>by
  have:=rstep3_c (n:Int) a0 a1 b0 b1 c0 c1 W
  rw[h0] at this
  exact this)
 obtain ⟨r,hr⟩:∃r,r=ruOf n a0 a1 b0 b1 c0 c1:=⟨_,rfl⟩
 have hrn:r.n=n:=by rw[hr];rfl
 have hrk:r.ok:=by rw[hr];exact ruOf_ok h1 h2 a0 a1 b0 b1 c0 c1
 have hrv:r.val = .agg #[.int .i64 (n:Int),.int .i64 (a0 % (n:Int)),.int .i64 (a1 % (n:Int)),.int .i64 (b0 % (n:Int)),.int .i64 (b1 % (n:Int)),.int .i64 (c0 % (n:Int)),.int .i64 (c1 % (n:Int))]:=by rw[hr];exact ruOf_val h1 a0 a1 b0 b1 c0 c1
 have HM:=fun W=>rmeet3_c n a0 a1 b0 b1 c0 c1 W h1 h2
 rw[← hr] at HM
 by_cases hno:NoM (n*n) r.cell
 case neg =>
  refine ldig_g2 n a0 a1 b0 b1 c0 c1 w HS h9' (Lib.hid (fun W=>(HM W).mono fun e w' h=>⟨?_,h.2⟩))
  obtain ⟨p,q,he,⟨h3,_⟩|⟨_,h3⟩⟩:=h.1
  ·exact absurd h3 hno
  ·exact ⟨p,q,he,h3⟩
 have hnm:NoMeetR r:=fun k hk=>by
  rw[layTo_eq,hrn]
  rw[hrn] at hk
  exact hno k hk
 have hru:=(noMeet_ru (r:=r) (by rw[hrn];exact h1)).1 hnm
 rw[hrn] at hru
 have HM':Hid (∀W,Calls Try.prog 6 #[.agg #[.int .i64 (n:Int),.int .i64 a0,.int .i64 a1,.int .i64 b0,.int .i64 b1,.int .i64 c0,.int .i64 c1]] W fun e w'=>(∃p:Int,e = .returned (.tuple #[.int .i64 p,.int .i64 0]))∧Below W.heap.size W w') :=
  Lib.hid (fun W=>(HM W).mono fun e w' h=>⟨by
   obtain ⟨p,q,he,⟨_,h3⟩|⟨h3,_⟩⟩:=h.1
   ·exact ⟨p,by rw[he,h3]⟩
   ·exact absurd hno h3,h.2⟩)
 have hL:layTo r (n*n)=ruSq n r.s0 r.s1 r.x0 r.x1 r.y0 r.y1:=by
  have:=layTo_ru r
  rw[hrn] at this
  exact this
 have HU:=fun W=>uuni_c n a0 a1 b0 b1 c0 c1 W h1 h2 hn (by rw[← hr];exact hnm)
 rw[← hr,hL] at HU
 obtain ⟨s0,s1,x0,x1,y0,y1,e0,e1,e2,e3,e4,e5⟩:∃s0 s1 x0 x1 y0 y1,r.s0=s0∧r.s1=s1∧r.x0=x0∧r.x1=x1∧r.y0=y0∧r.y1=y1:=⟨_,_,_,_,_,_,rfl,rfl,rfl,rfl,rfl,rfl⟩
 have hsem:=r.sem_iff
 have hpan:=r.pan_iff
 rw[hrn,e2,e3,e4,e5] at hsem hpan
 rw[e0,e1,e2,e3,e4,e5] at hru HU
 have hlen:=ruSq_len n s0 s1 x0 x1 y0 y1
 have hnn:n*n≤81:=Nat.mul_le_mul h9' h9'
 have hnor:Nor n (ruSq n s0 s1 x0 x1 y0 y1):=⟨h1,h2,hlen,ru_nor h1 hru⟩
 have hla:=ru_latin h1 h2 hru
 have hor:=ru_ortho h1 h2 hru
 have hpa:=ru_pan h1 h2 hru
 have hdA:dAL n (ruSq n s0 s1 x0 x1 y0 y1)=madeTo n (ruA n s0 s1 x0 x1 y0 y1) (n*n):=rfl
 have hdB:dBL n (ruSq n s0 s1 x0 x1 y0 y1)=madeTo n (ruB n s0 s1 x0 x1 y0 y1) (n*n):=rfl
 have HD:=fun W a c (h:IC W a (ruSq n s0 s1 x0 x1 y0 y1).length (ruSq n s0 s1 x0 x1 y0 y1))=>digits_c n a _ c _ W h hnor
 rw[hdA,hdB] at HD
 have lA:=madeTo_len n (ruA n s0 s1 x0 x1 y0 y1) (n*n)
 have lB:=madeTo_len n (ruB n s0 s1 x0 x1 y0 y1) (n*n)
 generalize madeTo n (ruA n s0 s1 x0 x1 y0 y1) (n*n)=A at HD hla hor hpa lA
 generalize madeTo n (ruB n s0 s1 x0 x1 y0 y1) (n*n)=B at HD hla hor hpa lB
 generalize ruSq n s0 s1 x0 x1 y0 y1=L at HU HD hlen
 have HD':=Lib.hid (fun W a c (h:IC W a L.length L)=>(HD W a c h).mono fun e w' h=>by
  obtain ⟨q1,d1,q2,d2,he,o1,o2,hb⟩:=h
  exact (⟨q1,d1,q2,d2,he,IC.own o1 rfl (by omega),IC.own o2 rfl (by omega),hb⟩:∃a1 c1 a2 c2,
   e = .returned (.tuple #[.agg #[.int .i64 (n:Int),.int .i64 (n:Int),.slice a1 A.length c1],.agg #[.int .i64 (n:Int),.int .i64 (n:Int),.slice a2 B.length c2],.int .i64 0]) ∧
   (IC w' a1 A.length A∧A.length≤c1)∧(IC w' a2 B.length B∧B.length≤c2)∧Below W.heap.size W w'))
 have HU':=Lib.hid HU
 have HLL:L.length≤1000:=by omega
 have H1:=Lib.hid (fun W=>uadmits_c n a0 a1 b0 b1 c0 c1 kSe 72 1 r.semB W h1 h2 hn rfl (by decide) (by intro args w;kernel_rfl) (fun W=>by
  have:=usemi_c r W hrk
  rw[hrv] at this
  exact this))
 have H2:=Lib.hid (fun W=>uadmits_c n a0 a1 b0 b1 c0 c1 kPa 74 3 r.panB W h1 h2 hn rfl (by decide) (by intro args w;kernel_rfl) (fun W=>by
  have:=upan_c r W hrk
  rw[hrv] at this
  exact this))
 have HC:Hid (∀W a c cs er,IC W a cs.length cs→sqE 0 (n:Int) (n:Int) cs=er→Calls Try.prog 10 #[.agg #[.int .i64 (n:Int),.int .i64 (n:Int),.slice a cs.length c]] W fun e w'=>e = .returned (.int .i64 er)∧Below W.heap.size W w'):=Lib.hid (fun W a c cs er h he=>by
  have:=latcheck_c (n:Int) (n:Int) a cs.length c cs W h
  rw[he] at this
  exact this)
 have hps:r.panB=true→r.semB=true:=fun h=>by unfold Rul.panB at h;rw[Bool.and_eq_true] at h;exact h.1
 generalize r.semB=sB at H1 hsem hps
 generalize r.panB=pB at H2 hpan hps
 by_cases eA:sqE 0 (n:Int) (n:Int) A=0
 case neg =>
  have hs:sB=false:=by
   cases sB with
   | false=>rfl
   | true=>exact absurd (lat_sqE (hla.2 (hsem.1 rfl)).1) eA
  exact ldig_a n a0 a1 b0 b1 c0 c1 L A B _ sB pB w HS h9' HM' HU' HD' HLL H1 H2 HC rfl eA hs (by
   cases pB with
   | false=>rfl
   | true=>rw[hs] at hps;exact absurd (hps rfl) (by decide))
 by_cases eB:sqE 0 (n:Int) (n:Int) B=0
 case neg =>
  have hs:sB=false:=by
   cases sB with
   | false=>rfl
   | true=>exact absurd (lat_sqE (hla.2 (hsem.1 rfl)).2) eB
  exact ldig_b n a0 a1 b0 b1 c0 c1 L A B _ sB pB w HS h9' HM' HU' HD' HLL H1 H2 HC eA rfl eB hs (by
   cases pB with
   | false=>rfl
   | true=>rw[hs] at hps;exact absurd (hps rfl) (by decide))
 have LA:Latin n A:=by
  obtain ⟨m,hm,_,hl⟩:=sqE_ok eA
  rw[show n=m from Int.ofNat.inj hm];exact hl
 have LB:Latin n B:=by
  obtain ⟨m,hm,_,hl⟩:=sqE_ok eB
  rw[show n=m from Int.ofNat.inj hm];exact hl
 have hs:sB=true:=hsem.2 (hla.1 ⟨LA,LB⟩)
 have hO:=hor LA LB
 have hpp:=(hpa (hsem.1 hs)).trans hpan.symm
 have HO:=Lib.hid (fun W a c a2 c2 (h:IC W a A.length A) (h2:IC W a2 B.length B)=>by
  have:=orth_c (n:Int) (n:Int) (n:Int) (n:Int) a A.length c A a2 B.length c2 B W h h2
  rw[orthV_true LA LB hO] at this
  exact this)
 have HK:∀cs,Latin n cs→∀W a c,IC W a cs.length cs→cs.length≤c→Calls Try.prog 12 #[.agg #[.int .i64 (n:Int),.int .i64 (n:Int),.slice a cs.length c]] W fun e w'=>∃a c,e = .returned (.tuple #[.slice a (kNames n cs 7).length c,.int .i64 0])∧SC w' a (kNames n cs 7).length (kNames n cs 7)∧Below W.heap.size W w':=by
  intro cs hl W a c h hc
  have:=Kinds_c (n:Int) (n:Int) a cs.length c cs W h hc
  rw[lat_sqE hl,show kiL (n:Int) (n:Int) cs=kNames n cs 7 from if_pos (lat_sqE hl)] at this
  exact this.mono fun e w' hg=>kinds_sc hg (knames_small n cs)
 have pA:=names_pan n A
 have pB':=names_pan n B
 cases hkA:kPan n A with
 | false =>
  rw[hkA] at pA
  exact ldig_c n a0 a1 b0 b1 c0 c1 L A B sB pB w HS h9' HM' HU' HD' HLL H1 H2 HC eA eB hs HO _ _ (Lib.hid (HK A LA)) (Lib.hid (HK B LB)) pA (by
   cases hq:pB with
   | false=>rfl
   | true=>have:=(hpp.2 hq).1;rw[hkA] at this;cases this)
 | true =>
  rw[hkA] at pA
  refine ldig_d n a0 a1 b0 b1 c0 c1 L A B sB pB w HS h9' HM' HU' HD' HLL H1 H2 HC eA eB hs HO _ _ (Lib.hid (HK A LA)) (Lib.hid (HK B LB)) pA ?_
  rw[pB']
  rw[Bool.eq_iff_iff]
  exact ⟨fun h=>(hpp.2 h).2,fun h=>hpp.1 ⟨hkA,h⟩⟩
end
section
open Go Go.RowKit Go.ChangeShapes Go.WideShapes
theorem O8.cellsS:Try.prog.cellsOf 24=7:=by kernel_rfl
theorem O8.array7 {α:Type} {cs:Array α} (h:cs.size=7):∃c0 c1 c2 c3 c4 c5 c6,cs=#[c0,c1,c2,c3,c4,c5,c6]:=by
 obtain ⟨l⟩:=cs
 match l,h with
 | [c0,c1,c2,c3,c4,c5,c6],_=>exact ⟨c0,c1,c2,c3,c4,c5,c6,rfl⟩
section
variable {H:Type} {enc:TypeId × Value→H} {w:World} {held:Bool}
theorem open_step {base:Nat} {v:Value} {d:DataW H} {p:List MemPlace} (hv:Value.okWide Try.prog w .any base 24 v) (h:DataW.Trod enc Try.prog w 0 (fun _=>true) held 24 v d p) :
  ∃n a0 a1 b0 b1 c0 c1:Int,v = .agg #[.int .i64 n,.int .i64 a0,.int .i64 a1,.int .i64 b0,.int .i64 b1,.int .i64 c0,.int .i64 c1]:=by
 obtain ⟨cs,rfl,hsz⟩:=okWide_struct Try.underlying24 hv
 obtain ⟨c0,c1,c2,c3,c4,c5,c6,rfl⟩:=O8.array7 (hsz.trans O8.cellsS)
 obtain ⟨fuel,hf⟩:=h
 obtain ⟨y0,y1,y2,y3,m,hx,_,h0,h1,h2,h3⟩:=Go.Joins.trod_struct4 Try.underlying24 hf
 have h0':DataW.trod enc Try.prog w 0 (fun _=>true) held m 3 [c0]=some y0:=by simpa [Value.cells,O1.cells3] using h0
 have h1':DataW.trod enc Try.prog w 0 (fun _=>true) held m 22 [c1,c2]=some y1:=by simpa [Value.cells,O1.cells3,O7.cellsP] using h1
 have h2':DataW.trod enc Try.prog w 0 (fun _=>true) held m 22 [c3,c4]=some y2:=by simpa [Value.cells,O1.cells3,O7.cellsP] using h2
 have h3':DataW.trod enc Try.prog w 0 (fun _=>true) held m 22 [c5,c6]=some y3:=by simpa [Value.cells,O1.cells3,O7.cellsP] using h3
 obtain ⟨z0,z1,m1,g0,g1⟩:=O7.trod2 Try.underlying22 O1.cells3 h1'
 obtain ⟨z2,z3,m2,g2,g3⟩:=O7.trod2 Try.underlying22 O1.cells3 h2'
 obtain ⟨z4,z5,m3,g4,g5⟩:=O7.trod2 Try.underlying22 O1.cells3 h3'
 obtain ⟨n,e0,_,_⟩:=DataW.trod_int Try.underlying3 h0'
 obtain ⟨p0,e1,_,_⟩:=DataW.trod_int Try.underlying3 g0
 obtain ⟨p1,e2,_,_⟩:=DataW.trod_int Try.underlying3 g1
 obtain ⟨p2,e3,_,_⟩:=DataW.trod_int Try.underlying3 g2
 obtain ⟨p3,e4,_,_⟩:=DataW.trod_int Try.underlying3 g3
 obtain ⟨p4,e5,_,_⟩:=DataW.trod_int Try.underlying3 g4
 obtain ⟨p5,e6,_,_⟩:=DataW.trod_int Try.underlying3 g5
 simp only[List.cons.injEq,and_true] at e0 e1 e2 e3 e4 e5 e6
 exact ⟨n,p0,p1,p2,p3,p4,p5,by rw[e0,e1,e2,e3,e4,e5,e6]⟩
end
end
end Go.Proofs.Ytpkghjoippcjeaa
