/- Texts H7 to H8 of this proof, in one file. -/
import Derived.Test.YtaadpihbjhachaaGreatW11
import Derived.Test.YtaadpihbjhachaaGreatW12
import Derived.Test.YtaadpihbjhachaaGreatW13
import Derived.Deep.CutBlock
import Derived.Deep.CutRange
namespace Go.Proofs.YtaadpihbjhachaaGreat
set_option maxRecDepth 100000
set_option maxHeartbeats 16000000
section
open Go Go.RowKit
attribute [local go_sem] zv
attribute [local go_sem] Oper.semAt_some
theorem lowTo_le (Ms:List Nat) (l:List Int) (j:Nat):lowTo Ms l j≤j*256:=by
 induction j with
 | zero=>simp[lowTo]
 | succ j ih=>have:=kk (Ms[(l[j]?.getD 0).toNat]?.getD 0) 0;simp only[lowTo];omega
theorem greatM_le (M:Nat):greatM M≤256:=by
 have key:∀k,greatTo M k≤64*k:=by
  intro k
  induction k with
  | zero=>simp[greatTo]
  | succ k ih =>
   simp only[greatTo]
   split
   ·omega
   ·have:Lib.bitLen (ze M k)≤64:=bitLenAux_le 64 (ze M k)
    omega
 have:=key 4
 unfold greatM
 omega
theorem highTo_le (Ms:List Nat) (l:List Int) (j:Nat):highTo Ms l j≤j*256:=by
 induction j with
 | zero=>simp[highTo]
 | succ j ih=>have:=greatM_le (Ms[(l[j]?.getD 0).toNat]?.getD 0);simp only[highTo];omega
theorem line_c (b:Nat) (t0 t3:Value) (al:Option Addr) (nl cl:Nat) (ls:List (List Int)) (sum:Int) (a:Option Addr) (n c M:Nat) (Ms:List Nat) (w:World) (hb:w.heap[b]?=some (.cells (jY t0 (.slice al nl cl) (.int .i64 sum) t3 a n c M) 150 (0,0))) (h:SL w a n Ms) (hrc:RC w al nl ls)
  (hr:∀l∈ls,l.length≤256∧∀x∈l,0≤x∧x<(n:Int)) (hs1:1≤sum) (hs2:sum≤999999999) :
  Calls Tryz.prog 217 #[.pointer (some ⟨b,0,none⟩)] w fun e w'=>e = .returned (.tuple #[optV (lineR ls sum Ms),.bool (lineR ls sum Ms).isSome])∧Below w.heap.size w w':=by
 have H:=za h
 have HB:=za hb
 have HRC:=za hrc
 have HR:=za hr
 have hll:=za hrc.len
 have hnls:=hrc.small
 have hml:=za h.1.1
 have hns:=h.1.2
 have c1:w.cell? ⟨b,1,none⟩=some (.slice al nl cl):=zc hb 1
 have hbl:=zy hb
 have hone:Hid (lineR ls sum Ms=findN ls.length fun k=>lineK sum Ms (ls[k]?.getD []) k):=rfl
 clear h hb hrc hr
 go_enter Tryz.func217,Tryz.ntmps217
 go_wp2_with fail
 have fsz:(w.alloc (.cells #[.string ⟨#[]⟩,.int .i64 0,.int .i64 0,.int .i64 0] 214)).heap.size=w.heap.size+1:=by simp only[World.size_alloc]
 have fB:Below w.heap.size w (w.alloc (.cells #[.string ⟨#[]⟩,.int .i64 0,.int .i64 0,.int .i64 0] 214)):=(Below.refl _ _).alloc (Nat.le_refl _) _
 have fq0:(w.alloc (.cells #[.string ⟨#[]⟩,.int .i64 0,.int .i64 0,.int .i64 0] 214)).heap[w.heap.size]?=some (.cells #[.string ⟨#[]⟩,.int .i64 0,.int .i64 0,.int .i64 0] 214 (0,0)):=by have h:=World.alloc_heap_new w (.cells #[.string ⟨#[]⟩,.int .i64 0,.int .i64 0,.int .i64 0] 214);exact h
 generalize (w.alloc (.cells #[.string ⟨#[]⟩,.int .i64 0,.int .i64 0,.int .i64 0] 214))=W0 at fsz fB fq0 ⊢
 have fsz':w.heap.size<W0.heap.size:=by omega
 have HQB:=za (zm fB HB.out)
 have HR0:=za fq0
 clear fsz fq0 c1
 go_loopg [4,5,6,7,9,11,12,13,14,15,16,24,31,56] nl (fun gk _ _ _ _ _ _ _ _ _ _ _ iv _ _ wv=>∃k:Nat,gk=nl - k∧k≤nl∧iv = .int .i64 k∧Hid (∀i,i<k→lineK sum Ms (ls[i]?.getD []) i=none)∧Below W0.heap.size W0 wv)
 case atStart=>exact ⟨0,by omega,by omega,rfl,fun i hi=>absurd hi (by omega),Below.refl _ _⟩
 case round =>
  obtain ⟨k,rfl,hk,rfl,hno,hbr⟩:=hrel
  have hBr:=fB.trans (hbr.mono fB.size)
  have hszr:=hbr.size
  by_cases hlt:k<nl
  ·obtain ⟨bl,ol,al2,m,cl2,rfl,hbl2,hcl2,hil,hmc⟩:=(HRC.out.mono hBr).2 k hlt
   have hkl:k<ls.length:=by rw[hll.out];exact hlt
   have hmem:ls[k]?.getD []∈ls:=by rw[List.getElem?_eq_getElem hkl];exact List.getElem_mem hkl
   have HLR:=za (HR.out _ hmem)
   have hm2:=(HR.out _ hmem).1
   have hnl:=hil.len
   have HLK:Hid (lineK sum Ms (ls[k]?.getD []) k=findN (ls[k]?.getD []).length (lineAt sum (lowTo Ms (ls[k]?.getD []) (ls[k]?.getD []).length) (highTo Ms (ls[k]?.getD []) (ls[k]?.getD []).length) Ms k (ls[k]?.getD []))):=rfl
   have HIL:=za hil
   obtain ⟨l,hl9⟩:∃l,ls[k]?.getD []=l:=⟨_,rfl⟩
   have HL9:=za hl9
   rw[hl9] at HLR HLK HIL hnl hm2
   have HNL:=za hnl
   rw[hnl] at hm2
   clear hmem hil hl9 hnl
   go_wp2_with fail
   go_loopg [6,7,9,31] m (fun gk lv hv _ jv wv=>∃j:Nat,gk=m - j∧j≤m∧jv = .int .i64 j∧lv = .int .i64 (lowTo Ms l j)∧hv = .int .i64 (highTo Ms l j)∧Below wr.heap.size wr wv)
   case atStart=>exact ⟨0,by omega,by omega,rfl,rfl,rfl,Below.refl _ _⟩
   case round =>
    obtain ⟨j,rfl,hj,rfl,rfl,rfl,hbj⟩:=hrel
    have hBj0:=hbr.trans (hbj.mono hbr.size)
    have hBj:=fB.trans (hBj0.mono fB.size)
    have HQj:=za (zm hBj0 HQB.out)
    have hlo:=lowTo_le Ms l j
    have hhi:=highTo_le Ms l j
    by_cases hltj:j<m
    ·obtain ⟨bi,oi,rfl,hbi,hci⟩:=(HIL.out.mono hbj).2 j hltj
     have hjl:j<l.length:=by rw[HNL.out];exact hltj
     have hrx:=HLR.out.2 _ (List.getElem_mem hjl)
     obtain ⟨x,hxx⟩:∃x:Nat,l[j]?.getD 0=(x:Int):=⟨(l[j]'hjl).toNat,by rw[List.getElem?_eq_getElem hjl,Option.getD_some];omega⟩
     have hxn:x<n:=by rw[List.getElem?_eq_getElem hjl,Option.getD_some] at hxx;omega
     have HLO:Hid (lowTo Ms l (j+1)=lowTo Ms l j+zJ (Ms[(l[j]?.getD 0).toNat]?.getD 0) 0):=rfl
     have HHI:Hid (highTo Ms l (j+1)=highTo Ms l j+greatM (Ms[(l[j]?.getD 0).toNat]?.getD 0)):=rfl
     rw[hxx] at hci HLO HHI
     rw[Int.toNat_natCast] at HLO HHI
     obtain ⟨b8,off,rfl,hb8,hc⟩:=(H.out.mono hBj).2 x hxn
     have hxi:(x:Int)<(n:Int):=by omega
     have c4:wr.cell? ⟨b,4,none⟩=some (.slice (some ⟨b8,off,none⟩) n c):=zc HQj.out 4
     have hbb:=zy HQj.out
     have hA1:=kk (Ms[x]?.getD 0) 0
     have hG1:=greatM_le (Ms[x]?.getD 0)
     have HAB:=za (fun W (hW:Below wr.heap.size wr W)=>qR b8 (off+x*4) (Ms[x]?.getD 0) 0 W (hc.keep hb8 hW) (by omega))
     have HGR:=za (fun W (hW:Below wr.heap.size wr W)=>great_c b8 (off+x*4) (Ms[x]?.getD 0) W (hc.keep hb8 hW))
     clear hrx hxx hjl hc
     generalize zJ (Ms[x]?.getD 0) 0=A at *
     generalize greatM (Ms[x]?.getD 0)=G at *
     generalize lowTo Ms l j=lo at *
     generalize highTo Ms l j=hi at *
     go_wp2_with fail
     refine zk (fun w'=>∃u,w'=over (wr) u) [19] [(0,0),(0,1),(0,2),(0,3),(0,4),(0,5),(0,6),(0,9),(0,10),(0,11),(0,12),(0,13),(0,14),(0,15),(1,7),(0,8),(1,16),(0,17),(1,18),(2,19)] (by kernel_rfl) (by kernel_rfl) (by exact ⟨_,zi (by repeat (first|assumption|exact Below.refl _ _|refine zd ?_|refine zg ?_ _|refine zb ?_ (by assumption)))⟩) ?_
     dsimp only[zt,zG]
     repeat (first|(refine zu rfl (fun K hK=>?_);go_big_quiet_op;refine hK _ ?_;clear hK K)|(refine zp rfl rfl (fun K hK=>?_);go_big_quiet_op;refine hK _ ?_;clear hK K)|(refine zE ?_;go_wp2_with (first|(go_at_call 162;refine (HAB.out _ (zd (Below.refl _ _))).mono ?_;rintro _ w2 ⟨rfl,rfl⟩)|(go_at_call 240;refine (HGR.out _ (zd (Below.refl _ _))).mono ?_;rintro _ w3 ⟨rfl,rfl⟩));refine ⟨?_,?_⟩;focus (exact ⟨_,zi (by repeat (first|assumption|exact Below.refl _ _|refine zd ?_|refine zg ?_ _|refine zb ?_ (by assumption)))⟩)))
     refine zA _ _ _ rfl ?_
     dsimp only[List.map]
     go_wp2_with (first|(go_at_call 162;refine (HAB.out _ (zd (Below.refl _ _))).mono ?_;rintro _ w2 ⟨rfl,rfl⟩)|(go_at_call 240;refine (HGR.out _ (zd (Below.refl _ _))).mono ?_;rintro _ w3 ⟨rfl,rfl⟩))
     refine NoPanic.normal ?_
     go_wp2_with fail
     go_roundg (m - (j+1))
     case measure=>omega
     case rel=>exact ⟨j+1,rfl,by omega,by go_num,by rw[HLO.out];go_num,by rw[HHI.out];go_num,hbj.drew⟩
    ·have e:j=m:=by omega
     subst e
     have hnl:=HNL.out
     rw[hnl] at HLK
     obtain ⟨low,hlow⟩:∃v,lowTo Ms l j=v:=⟨_,rfl⟩
     obtain ⟨high,hhigh⟩:∃v,highTo Ms l j=v:=⟨_,rfl⟩
     rw[hlow,hhigh] at HLK
     rw[hlow] at hlo
     rw[hhigh] at hhi
     rw[hlow,hhigh]
     have HIL2:=za (HIL.out.mono hbj)
     clear hlow hhigh hnl HIL
     go_wp2_with fail
     go_loopg [11,12,13,14,15,16,56] j (fun gk _ _ _ _ _ _ jv wv=>∃i:Nat,gk=j - i∧i≤j∧jv = .int .i64 i∧Hid (∀q,q<i→lineAt sum low high Ms k l q=none)∧Below wr.heap.size wr wv)
     case atStart=>exact ⟨0,by omega,by omega,rfl,fun i hi=>absurd hi (by omega),Below.refl _ _⟩
     case round =>
      obtain ⟨i,rfl,hi,rfl,hno2,hbi⟩:=hrel
      have hBi0:=hBj0.trans (hbi.mono hBj0.size)
      have hBW:=fB.trans (hBi0.mono fB.size)
      have HQi:=za (zm hBi0 HQB.out)
      have HRW:=za (zm hBi0 HR0.out)
      by_cases hlti:i<j
      ·obtain ⟨bi,oi,rfl,hbi',hci⟩:=(HIL2.out.mono hbi).2 i hlti
       have hil2:i<l.length:=by rw[HNL.out];exact hlti
       have hrx:=HLR.out.2 _ (List.getElem_mem hil2)
       obtain ⟨x,hxx⟩:∃x:Nat,l[i]?.getD 0=(x:Int):=⟨(l[i]'hil2).toNat,by rw[List.getElem?_eq_getElem hil2,Option.getD_some];omega⟩
       have hxn:x<n:=by rw[List.getElem?_eq_getElem hil2,Option.getD_some] at hxx;omega
       have HAT:Hid (lineAt sum low high Ms k l i=if 0<lineF sum low high (Ms[(l[i]?.getD 0).toNat]?.getD 0) then some (1,(l[i]?.getD 0).toNat,lineF sum low high (Ms[(l[i]?.getD 0).toNat]?.getD 0),(k:Int)) else none):=rfl
       rw[hxx] at hci HAT
       rw[Int.toNat_natCast] at HAT
       obtain ⟨b8,off,rfl,hb8,hc⟩:=(H.out.mono hBW).2 x hxn
       have hxi:(x:Int)<(n:Int):=by omega
       have c4:wr.cell? ⟨b,4,none⟩=some (.slice (some ⟨b8,off,none⟩) n c):=zc HQi.out 4
       have c2:wr.cell? ⟨b,2,none⟩=some (.int .i64 sum):=zc HQi.out 2
       have hbb:=zy HQi.out
       have hA1:=kk (Ms[x]?.getD 0) 0
       have hG1:=greatM_le (Ms[x]?.getD 0)
       have hLF:Hid (lineF sum low high (Ms[x]?.getD 0)=if sum - ((high:Int) - greatM (Ms[x]?.getD 0))≤zJ (Ms[x]?.getD 0) 0 then zJ (Ms[x]?.getD 0) (max (sum - ((low:Int) - zJ (Ms[x]?.getD 0) 0)) 0).toNat else zJ (Ms[x]?.getD 0) 0):=rfl
       have HAB:=za (fun W (hW:Below wr.heap.size wr W)=>qR b8 (off+x*4) (Ms[x]?.getD 0) 0 W (hc.keep hb8 hW) (by omega))
       have HGR:=za (fun W (hW:Below wr.heap.size wr W)=>great_c b8 (off+x*4) (Ms[x]?.getD 0) W (hc.keep hb8 hW))
       have HABX:=za (fun W (hW:Below wr.heap.size wr W)=>above_any b8 (off+x*4) (Ms[x]?.getD 0) (max (sum - ((low:Int) - zJ (Ms[x]?.getD 0) 0)) 0) W (hc.keep hb8 hW) (by omega) (by omega))
       have hA2:=kk (Ms[x]?.getD 0) (max (sum - ((low:Int) - zJ (Ms[x]?.getD 0) 0)) 0).toNat
       clear hrx hxx hil2 hc
       generalize lineF sum low high (Ms[x]?.getD 0)=V at *
       generalize zJ (Ms[x]?.getD 0) (max (sum - ((low:Int) - zJ (Ms[x]?.getD 0) 0)) 0).toNat=A2 at *
       generalize zJ (Ms[x]?.getD 0) 0=A at *
       generalize greatM (Ms[x]?.getD 0)=G at *
       go_wp2_with fail
       refine (HAB.out _ (Below.refl _ _)).mono ?_
       rintro _ w2 ⟨rfl,rfl⟩
       go_wp2_with fail
       refine zk (fun w'=>∃u,w'=over (wr) u) [10] [(0,0),(0,1),(0,2),(0,3),(0,4),(0,5),(0,6),(1,7),(0,8),(0,9),(2,10)] (by kernel_rfl) (by kernel_rfl) (by exact ⟨_,zi (by repeat (first|assumption|exact Below.refl _ _|refine zd ?_|refine zg ?_ _|refine zb ?_ (by assumption)))⟩) ?_
       dsimp only[zt,zG]
       repeat (first|(refine zu rfl (fun K hK=>?_);go_big_quiet_op;refine hK _ ?_;clear hK K)|(refine zp rfl rfl (fun K hK=>?_);go_big_quiet_op;refine hK _ ?_;clear hK K)|(refine zE ?_;go_wp2_with (first|(go_at_call 240;refine (HGR.out _ (zd (Below.refl _ _))).mono ?_;rintro _ w3 ⟨rfl,rfl⟩));refine ⟨?_,?_⟩;focus (exact ⟨_,zi (by repeat (first|assumption|exact Below.refl _ _|refine zd ?_|refine zg ?_ _|refine zb ?_ (by assumption)))⟩)))
       refine zA _ _ _ rfl ?_
       dsimp only[List.map]
       go_wp2_with (first|(go_at_call 240;refine (HGR.out _ (zd (Below.refl _ _))).mono ?_;rintro _ w3 ⟨rfl,rfl⟩))
       refine NoPanic.normal ?_
       have HRD:Hid (wr.drew.heap[w.heap.size]?=some (.cells #[.string ⟨#[]⟩,.int .i64 0,.int .i64 0,.int .i64 0] 214 (0,0))):=HRW.out
       have hBWd:Below w.heap.size w wr.drew:=hBW.drew
       have hbid:=hbi.drew
       have HAD:=za (HABX.out wr.drew (zd (Below.refl _ _)))
       clear HRW hBW HABX HAB HGR c4 c2 hci HQi
       generalize wr.drew=wd at *
       by_cases hge:sum - ((high:Int) - G)≤A
       ·rw[if_pos hge] at hLF
        have hge2:(A:Int)≥sum - ((high:Int) - G):=hge
        have hVA:=hLF.out
        subst hVA
        clear hge
        by_cases hp:0≤sum - ((low:Int) - A)
        ·rw[show max (sum - ((low:Int) - A)) 0=sum - ((low:Int) - A) from by omega] at HAD
         by_cases h0:0<V
         ·rw[if_pos h0] at HAT
          have hV:(0:Int)<(V:Int):=by omega
          have HON:=za ((qF (f:=fun k=>lineK sum Ms (ls[k]?.getD []) k) hno.out hkl (by rw[HL9.out];exact HLK.out.trans (qF hno2.out hlti HAT.out))))
          have HON2:=za (hone.out.trans HON.out)
          clear h0 HON
          go_wp2_with fail
          refine HAD.out.mono ?_
          rintro _ w9 ⟨rfl,rfl⟩
          have r0:wd.cell? ⟨w.heap.size,0,none⟩=some (.string ⟨#[]⟩):=zc HRD.out 0
          have r1:wd.cell? ⟨w.heap.size,1,none⟩=some (.int .i64 0):=zc HRD.out 1
          have r2:wd.cell? ⟨w.heap.size,2,none⟩=some (.int .i64 0):=zc HRD.out 2
          have r3:wd.cell? ⟨w.heap.size,3,none⟩=some (.int .i64 0):=zc HRD.out 3
          have rf0:=zo HRD.out 0
          have rf1:=zo HRD.out 1
          have rf2:=zo HRD.out 2
          have rf3:=zo HRD.out 3
          have rl:=zy HRD.out
          go_wp2
          have r:=zC (i:=3) (zC (i:=2) (zC (i:=1) (zC (i:=0) HRD.out (.string ⟨#[108,105,110,101]⟩)) (.int .i64 ((x:Nat)))) (.int .i64 ((V:Nat)))) (.int .i64 ((k:Nat)))
          have z0:=zc r 0
          have z1:=zc r 1
          have z2:=zc r 2
          have z3:=zc r 3
          refine bodyPost_ret (v := .tuple #[.agg #[.string ⟨#[108,105,110,101]⟩,.int .i64 ((x:Nat)),.int .i64 ((V:Nat)),.int .i64 ((k:Nat))],.bool true]) ?_ rfl ⟨by rw[HON2.out];rfl,(((hBWd.setCell (p:=⟨w.heap.size,0,none⟩) (Nat.le_refl _) _).setCell (p:=⟨w.heap.size,1,none⟩) (Nat.le_refl _) _).setCell (p:=⟨w.heap.size,2,none⟩) (Nat.le_refl _) _).setCell (p:=⟨w.heap.size,3,none⟩) (Nat.le_refl _) _⟩
          simp[results,Tryz.f217,go_sem,z0,z1,z2,z3]
         ·rw[if_neg h0] at HAT
          have hV:¬(0:Int)<(V:Int):=by omega
          clear h0
          go_wp2_with fail
          refine HAD.out.mono ?_
          rintro _ w9 ⟨rfl,rfl⟩
          go_wp2_with fail
          go_roundg (j - (i+1))
          case measure=>omega
          case rel=>exact ⟨i+1,rfl,by omega,by go_num,fun q hq=>by
           rcases Nat.lt_or_ge q i with h|h
           ·exact hno2.out q h
           ·rw[show q=i from by omega];exact HAT.out,hbid⟩
        ·rw[show max (sum - ((low:Int) - A)) 0=0 from by omega] at HAD
         have hp2:sum - ((low:Int) - A)<0:=by omega
         by_cases h0:0<V
         ·rw[if_pos h0] at HAT
          have hV:(0:Int)<(V:Int):=by omega
          have HON:=za ((qF (f:=fun k=>lineK sum Ms (ls[k]?.getD []) k) hno.out hkl (by rw[HL9.out];exact HLK.out.trans (qF hno2.out hlti HAT.out))))
          have HON2:=za (hone.out.trans HON.out)
          clear h0 HON
          go_wp2_with fail
          refine HAD.out.mono ?_
          rintro _ w9 ⟨rfl,rfl⟩
          have r0:wd.cell? ⟨w.heap.size,0,none⟩=some (.string ⟨#[]⟩):=zc HRD.out 0
          have r1:wd.cell? ⟨w.heap.size,1,none⟩=some (.int .i64 0):=zc HRD.out 1
          have r2:wd.cell? ⟨w.heap.size,2,none⟩=some (.int .i64 0):=zc HRD.out 2
          have r3:wd.cell? ⟨w.heap.size,3,none⟩=some (.int .i64 0):=zc HRD.out 3
          have rf0:=zo HRD.out 0
          have rf1:=zo HRD.out 1
          have rf2:=zo HRD.out 2
          have rf3:=zo HRD.out 3
          have rl:=zy HRD.out
          go_wp2
          have r:=zC (i:=3) (zC (i:=2) (zC (i:=1) (zC (i:=0) HRD.out (.string ⟨#[108,105,110,101]⟩)) (.int .i64 ((x:Nat)))) (.int .i64 ((V:Nat)))) (.int .i64 ((k:Nat)))
          have z0:=zc r 0
          have z1:=zc r 1
          have z2:=zc r 2
          have z3:=zc r 3
          refine bodyPost_ret (v := .tuple #[.agg #[.string ⟨#[108,105,110,101]⟩,.int .i64 ((x:Nat)),.int .i64 ((V:Nat)),.int .i64 ((k:Nat))],.bool true]) ?_ rfl ⟨by rw[HON2.out];rfl,(((hBWd.setCell (p:=⟨w.heap.size,0,none⟩) (Nat.le_refl _) _).setCell (p:=⟨w.heap.size,1,none⟩) (Nat.le_refl _) _).setCell (p:=⟨w.heap.size,2,none⟩) (Nat.le_refl _) _).setCell (p:=⟨w.heap.size,3,none⟩) (Nat.le_refl _) _⟩
          simp[results,Tryz.f217,go_sem,z0,z1,z2,z3]
         ·rw[if_neg h0] at HAT
          have hV:¬(0:Int)<(V:Int):=by omega
          clear h0
          go_wp2_with fail
          refine HAD.out.mono ?_
          rintro _ w9 ⟨rfl,rfl⟩
          go_wp2_with fail
          go_roundg (j - (i+1))
          case measure=>omega
          case rel=>exact ⟨i+1,rfl,by omega,by go_num,fun q hq=>by
           rcases Nat.lt_or_ge q i with h|h
           ·exact hno2.out q h
           ·rw[show q=i from by omega];exact HAT.out,hbid⟩
       ·rw[if_neg hge] at hLF
        have hVA:=hLF.out
        subst hVA
        by_cases h0:0<V
        ·rw[if_pos h0] at HAT
         have hV:(0:Int)<(V:Int):=by omega
         have HON:=za ((qF (f:=fun k=>lineK sum Ms (ls[k]?.getD []) k) hno.out hkl (by rw[HL9.out];exact HLK.out.trans (qF hno2.out hlti HAT.out))))
         have HON2:=za (hone.out.trans HON.out)
         clear h0 HON
         have r0:wd.cell? ⟨w.heap.size,0,none⟩=some (.string ⟨#[]⟩):=zc HRD.out 0
         have r1:wd.cell? ⟨w.heap.size,1,none⟩=some (.int .i64 0):=zc HRD.out 1
         have r2:wd.cell? ⟨w.heap.size,2,none⟩=some (.int .i64 0):=zc HRD.out 2
         have r3:wd.cell? ⟨w.heap.size,3,none⟩=some (.int .i64 0):=zc HRD.out 3
         have rf0:=zo HRD.out 0
         have rf1:=zo HRD.out 1
         have rf2:=zo HRD.out 2
         have rf3:=zo HRD.out 3
         have rl:=zy HRD.out
         go_wp2
         have r:=zC (i:=3) (zC (i:=2) (zC (i:=1) (zC (i:=0) HRD.out (.string ⟨#[108,105,110,101]⟩)) (.int .i64 ((x:Nat)))) (.int .i64 ((V:Nat)))) (.int .i64 ((k:Nat)))
         have z0:=zc r 0
         have z1:=zc r 1
         have z2:=zc r 2
         have z3:=zc r 3
         refine bodyPost_ret (v := .tuple #[.agg #[.string ⟨#[108,105,110,101]⟩,.int .i64 ((x:Nat)),.int .i64 ((V:Nat)),.int .i64 ((k:Nat))],.bool true]) ?_ rfl ⟨by rw[HON2.out];rfl,(((hBWd.setCell (p:=⟨w.heap.size,0,none⟩) (Nat.le_refl _) _).setCell (p:=⟨w.heap.size,1,none⟩) (Nat.le_refl _) _).setCell (p:=⟨w.heap.size,2,none⟩) (Nat.le_refl _) _).setCell (p:=⟨w.heap.size,3,none⟩) (Nat.le_refl _) _⟩
         simp[results,Tryz.f217,go_sem,z0,z1,z2,z3]
        ·rw[if_neg h0] at HAT
         have hV:¬(0:Int)<(V:Int):=by omega
         clear h0
         go_wp2_with fail
         go_roundg (j - (i+1))
         case measure=>omega
         case rel=>exact ⟨i+1,rfl,by omega,by go_num,fun q hq=>by
          rcases Nat.lt_or_ge q i with h|h
          ·exact hno2.out q h
          ·rw[show q=i from by omega];exact HAT.out,hbid⟩
      ·have e:i=j:=by omega
       subst e
       have HLN:=za (HLK.out.trans (findN_none hno2.out))
       go_wp2_with fail
       go_roundg (nl - (k+1))
       case measure=>omega
       case rel=>exact ⟨k+1,rfl,by omega,by go_num,fun q hq=>by
        rcases Nat.lt_or_ge q k with h|h
        ·exact hno.out q h
        ·rw[show q=k from by omega,HL9.out];exact HLN.out,hBi0⟩
  ·have e:k=nl:=by omega
   subst e
   have HN:=za (hone.out.trans (findN_none (by rw[hll.out];exact hno.out)))
   have HRj:=za (zm hbr HR0.out)
   clear hno hone
   have r0:wr.cell? ⟨w.heap.size,0,none⟩=some (.string ⟨#[]⟩):=zc HRj.out 0
   have r1:wr.cell? ⟨w.heap.size,1,none⟩=some (.int .i64 0):=zc HRj.out 1
   have r2:wr.cell? ⟨w.heap.size,2,none⟩=some (.int .i64 0):=zc HRj.out 2
   have r3:wr.cell? ⟨w.heap.size,3,none⟩=some (.int .i64 0):=zc HRj.out 3
   have rf0:=zo HRj.out 0
   have rf1:=zo HRj.out 1
   have rf2:=zo HRj.out 2
   have rf3:=zo HRj.out 3
   have rl:=zy HRj.out
   go_wp2
   have r:=zC (i:=3) (zC (i:=2) (zC (i:=1) (zC (i:=0) HRj.out (.string ⟨#[]⟩)) (.int .i64 0)) (.int .i64 0)) (.int .i64 0)
   have z0:=zc r 0
   have z1:=zc r 1
   have z2:=zc r 2
   have z3:=zc r 3
   refine bodyPost_ret (v := .tuple #[.agg #[.string ⟨#[]⟩,.int .i64 0,.int .i64 0,.int .i64 0],.bool false]) ?_ rfl ⟨by rw[HN.out];rfl,(((hBr.setCell (p:=⟨w.heap.size,0,none⟩) (Nat.le_refl _) _).setCell (p:=⟨w.heap.size,1,none⟩) (Nat.le_refl _) _).setCell (p:=⟨w.heap.size,2,none⟩) (Nat.le_refl _) _).setCell (p:=⟨w.heap.size,3,none⟩) (Nat.le_refl _) _⟩
   simp[results,Tryz.f217,go_sem,z0,z1,z2,z3]
end
section
open Go Go.RowKit
attribute [local go_sem] zv
attribute [local go_sem] Oper.semAt_some
theorem infoRem:(Tryz.prog.info? 214).map (fun i=>(i.zero,i.size,i.bytes))=some (some (.agg #[.string ⟨#[]⟩,.int .i64 0,.int .i64 0,.int .i64 0]),4,40):=by kernel_rfl
def remA (r:Rem):List Value:=[ruleS r.1,.int .i64 r.2.1,.int .i64 r.2.2.1,.int .i64 r.2.2.2]
def remsL:List Rem→List Value
 | []=>[]
 | r :: l=>remA r++remsL l
theorem remsL_snoc:∀(l:List Rem) (r:Rem),remsL (l++[r])=remsL l++remA r
 | [],r=>by simp[remsL]
 | _ :: l,r=>by simp[remsL,remsL_snoc l r]
theorem onceR_shape {Ms:List Nat} {r:Rem} (h:onceR Ms=some r):∃x y,r=(0,x,y,-1):=by
 obtain ⟨c,_,h1⟩:=qO h
 unfold onceAt at h1
 split at h1
 ·cases h1;exact ⟨_,_,rfl⟩
 ·cases h1
theorem placeR_shape {Ms:List Nat} {r:Rem} (h:placeR Ms=some r):∃x y,r=(2,x,y,-1):=by
 obtain ⟨c,_,h1⟩:=qO h
 unfold placeAt at h1
 split at h1
 ·cases h1;exact ⟨_,_,rfl⟩
 ·cases h1
theorem lineR_shape {ls:List (List Int)} {sum:Int} {Ms:List Nat} {r:Rem} (h:lineR ls sum Ms=some r):∃x y,∃q:Nat,r=(1,x,y,(q:Int)):=by
 obtain ⟨k,_,h1⟩:=qO h
 obtain ⟨j,_,h2⟩:=qO h1
 unfold lineAt at h2
 split at h2
 ·cases h2;exact ⟨_,_,_,rfl⟩
 ·cases h2
theorem stepR_once {ls:List (List Int)} {sum:Int} {M:Nat} {Ms:List Nat} {r:Rem} (h:contraB Ms M=false) (h1:onceR Ms=some r):qS ls sum M Ms=some r:=by simp[qS,h,h1]
theorem stepR_line {ls:List (List Int)} {sum:Int} {M:Nat} {Ms:List Nat} {r:Rem} (h:contraB Ms M=false) (h1:onceR Ms=none) (h2:lineR ls sum Ms=some r):qS ls sum M Ms=some r:=by simp[qS,h,h1,h2]
theorem stepR_place {ls:List (List Int)} {sum:Int} {M:Nat} {Ms:List Nat} {r:Option Rem} (h:contraB Ms M=false) (h1:onceR Ms=none) (h2:lineR ls sum Ms=none) (h3:placeR Ms=r):qS ls sum M Ms=r:=by simp[qS,h,h1,h2,h3]
theorem stepR_contra {ls:List (List Int)} {sum:Int} {M:Nat} {Ms:List Nat} (h:contraB Ms M=true):qS ls sum M Ms=none:=by simp[qS,h]
theorem iterR_len {ls:List (List Int)} {sum:Int} {M:Nat}:∀(k:Nat) (Ms:List Nat),(jh ls sum M k Ms).2.length=Ms.length
 | 0,_=>rfl
 | k+1,Ms=>by
  simp only[jh]
  split
  ·rfl
  ·rw[iterR_len k,dropR_len]
theorem settle_c (w0:World) (b:Nat) (t0 t3:Value) (al:Option Addr) (nl cl:Nat) (ls:List (List Int)) (sum:Int) (a:Option Addr) (n c M:Nat) (Ms:List Nat) (w:World) (hb:w.heap[b]?=some (.cells (jY t0 (.slice al nl cl) (.int .i64 sum) t3 a n c M) 150 (0,0)))
  (hown:w.ownsRow (b+1) 148 4 (.slice a n c) n (jB Ms)) (hml:Ms.length=n) (hn:n≤256) (hrc:RC w0 al nl ls) (hB0:Below w0.heap.size w0 w) (hb0:w0.heap.size≤b)
  (hr:∀l∈ls,l.length≤256∧∀x∈l,0≤x∧x<(n:Int)) (hs1:1≤sum) (hs2:sum≤999999999) :
  Calls Tryz.prog 90 #[.pointer (some ⟨b,0,none⟩)] w fun e w'=>∃(k:Nat) (v:Value),e = .returned v∧qS ls sum M (jh ls sum M k Ms).2=none∧w'.ownsRow (b+1) 214 4 v (jh ls sum M k Ms).1.length (remsL (jh ls sum M k Ms).1)∧(jh ls sum M k Ms).1.length≤n*256 ∧
   w'.heap[b]?=some (.cells (jY t0 (.slice al nl cl) (.int .i64 sum) t3 a n c M) 150 (0,0))∧w'.ownsRow (b+1) 148 4 (.slice a n c) n (jB (jh ls sum M k Ms).2)∧Below (b+1) w w':=by
 obtain ⟨i0,hi,hz0,hzz,hz2⟩:=info_parts infoRem
 have HB:=za hb
 have HOW:=za hown
 have HRC:=za hrc
 have HR:=za hr
 have HML0:=za hml
 have hbl:=zy hb
 clear hb hown hrc hr hml
 go_enter Tryz.func90,Tryz.ntmps90
 go_wp2_with fail
 go_step3
 go_wp2_with fail
 refine (rules_c w).mono ?_
 rintro _ w1 ⟨rfl,hru,hb1⟩
 have HRU:=za hru
 clear hru
 go_wp2_with fail
 go_step3
 go_wp2_with fail
 go_loopg [3,6,7,8,15] (candN Ms) (fun gk v _ _ _ _ wv=>∃(k:Nat) (ao:Option Addr) (co:Nat),gk=candN (jh ls sum M k Ms).2∧v = .slice ao (jh ls sum M k Ms).1.length co∧Hid (wv.ownsRow (w.heap.size+1) 214 4 (.slice ao (jh ls sum M k Ms).1.length co) (jh ls sum M k Ms).1.length (remsL (jh ls sum M k Ms).1))∧(jh ls sum M k Ms).1.length+candN (jh ls sum M k Ms).2≤n*256 ∧
   Hid (wv.heap[b]?=some (.cells (jY t0 (.slice al nl cl) (.int .i64 sum) t3 a n c M) 150 (0,0)))∧Hid (wv.ownsRow (b+1) 148 4 (.slice a n c) n (jB (jh ls sum M k Ms).2))∧Below (b+1) w wv∧Hid (wv.heap[w.heap.size]?=some (.cells #[.string ⟨#[111,110,99,101]⟩,.func (Fn.func 216) #[] #[],.string ⟨#[108,105,110,101]⟩,.func (Fn.func 217) #[] #[],.string ⟨#[112,108,97,99,101]⟩,.func (Fn.func 218) #[] #[]] 212 (0,0))))
 case atStart=>exact ⟨0,none,0,rfl,rfl,World.ownsRow_nil _ _ _ _,by have:=candN_le Ms;have:=HML0.out;simp[jh];omega,zm hb1 HB.out,zw HOW.out (fun i e hl=>hb1.block i hl),hb1.mono (by omega),HRU.out⟩
 case round =>
  obtain ⟨k,ao,co,rfl,rfl,HUo,hsum,HBo,HOWo,hBk0,HRUo⟩:=hrel
  obtain ⟨Mk,hMk⟩:∃X,(jh ls sum M k Ms).2=X:=⟨_,rfl⟩
  obtain ⟨Ok,hOk⟩:∃X,(jh ls sum M k Ms).1=X:=⟨_,rfl⟩
  have HIK:Hid (jh ls sum M k Ms=(Ok,Mk)):=by unfold Hid;rw[← hMk,← hOk]
  have HML:Hid (Mk.length=n):=by unfold Hid;rw[← hMk,iterR_len,HML0.out]
  rw[hOk] at HUo hsum
  rw[hMk] at hsum HOWo
  rw[hOk]
  have HB00:=za (hB0.trans (hBk0.mono (show w0.heap.size≤b+1 by omega)))
  have hSLo:=(SL.of_owns HOWo.out (by rw[HML.out];omega)).1
  clear hMk hOk
  have HC:=za (contra_c b t0 (.slice al nl cl) (.int .i64 sum) t3 a n c M Mk wr HBo.out hSLo)
  clear hSLo
  cases hcb:contraB Mk M with
  | true =>
   have HEND:=za (stepR_contra (ls:=ls) (sum:=sum) hcb)
   rw[hcb] at HC
   clear hcb
   go_wp2_with fail
   refine HC.out.mono ?_
   rintro _ w2 ⟨rfl,hb2⟩
   go_wp2_with fail
   rw[Exit.noGoto_ret]
   go_ret
   refine ⟨k,_,rfl,?_⟩
   rw[HIK.out]
   exact ⟨HEND.out,zI (zw HUo.out (fun i e hl=>hb2.block i hl)) (by omega),by dsimp only;omega,zm hb2 HBo.out,zw HOWo.out (fun i e hl=>hb2.block i hl),hBk0.trans (hb2.mono (zy HBo.out))⟩
  | false =>
   have HNC:=za hcb
   rw[hcb] at HC
   clear hcb
   go_wp2_with fail
   refine HC.out.mono ?_
   rintro _ w2 ⟨rfl,hb2⟩
   clear HC
   go_wp2_with fail
   go_loopg [3,6,7,8,15] 3 (fun gk ov _ _ _ jv wv=>∃j:Nat,j≤3∧gk=3 - j∧jv = .int .i64 j∧ov = .slice ao Ok.length co∧(1≤j→onceR Mk=none)∧(2≤j→lineR ls sum Mk=none)∧(3≤j→placeR Mk=none)∧Below wr.heap.size wr wv)
   case atStart=>exact ⟨0,by omega,by omega,rfl,rfl,fun h=>absurd h (by omega),fun h=>absurd h (by omega),fun h=>absurd h (by omega),hb2⟩
   case round =>
    obtain ⟨j,hj,rfl,rfl,rfl,hn1,hn2,hn3,hbj⟩:=hrel
    have HRUr:=za (zm hbj HRUo.out)
    rcases (by omega:j=0∨j=1∨j=2∨j=3) with rfl|rfl|rfl|rfl
    ·have p0:wr.cell? ⟨w.heap.size,0,none⟩=some (.string ⟨#[111,110,99,101]⟩):=zc HRUr.out 0
     have p1:wr.cell? ⟨w.heap.size,1,none⟩=some (.func (Fn.func 216) #[] #[]):=zc HRUr.out 1
     have hlw:=zy HRUr.out
     go_wp2_with fail
     have gsz:(wr.alloc (.cells #[.string ⟨#[111,110,99,101]⟩,.func (Fn.func 216) #[] #[]] 212)).heap.size=wr.heap.size+1:=by simp only[World.size_alloc]
     have gB:Below wr.heap.size wr (wr.alloc (.cells #[.string ⟨#[111,110,99,101]⟩,.func (Fn.func 216) #[] #[]] 212)):=(Below.refl _ _).alloc (Nat.le_refl _) _
     have gq0:(wr.alloc (.cells #[.string ⟨#[111,110,99,101]⟩,.func (Fn.func 216) #[] #[]] 212)).heap[wr.heap.size]?=some (.cells #[.string ⟨#[111,110,99,101]⟩,.func (Fn.func 216) #[] #[]] 212 (0,0)):=by have h:=World.alloc_heap_new wr (.cells #[.string ⟨#[111,110,99,101]⟩,.func (Fn.func 216) #[] #[]] 212);exact h
     generalize (wr.alloc (.cells #[.string ⟨#[111,110,99,101]⟩,.func (Fn.func 216) #[] #[]] 212))=W1 at gsz gB gq0 ⊢
     have hBj1:=hbj.trans (gB.mono hbj.size)
     have HB1:=za (zm hBj1 HBo.out)
     have hown1:W1.ownsRow (b+1) 148 4 (.slice a n c) n (jB Mk):=zw HOWo.out (fun i e hl=>hBj1.block i hl)
     have HSL1:=za (SL.of_owns hown1 (by rw[HML.out];omega)).1
     have hB01:Below w0.heap.size w0 W1:=HB00.out.trans (hBj1.mono HB00.out.size)
     have gsz':wr.heap.size<W1.heap.size:=by omega
     clear p0 p1 gq0 gsz hown1
     refine (once_c b t0 (.slice al nl cl) (.int .i64 sum) t3 a n c M Mk W1 HB1.out HSL1.out hn).mono ?_
     rintro _ w2 ⟨rfl,hb2⟩
     have hBj2:=hBj1.trans (hb2.mono hBj1.size)
     cases hOc:onceR Mk with
     | none =>
      dsimp only[optV,Option.isSome]
      go_wp2_with fail
      go_roundg (3 - 1)
      case measure=>omega
      case rel =>
       exact ⟨1,by omega,rfl,by go_num,rfl,fun _=>hOc,fun h=>absurd h (by omega),fun h=>absurd h (by omega),hBj2.alloc hBj2.size _⟩
     | some r =>
      obtain ⟨x,y,rfl⟩:=onceR_shape hOc
      have hst:=za (stepR_once (ls:=ls) (sum:=sum) HNC.out hOc)
      obtain ⟨hx0,hy1,hy2,htb⟩:=stepR_ok (by rw[HML.out];exact fun l hl=>(HR.out l hl).2) hst.out
      have HCD:=za (candN_drop ⟨hx0,hy1,hy2,htb⟩)
      dsimp only at hx0 hy1 hy2 htb
      have hxn:x<n:=by rw[HML.out] at hx0;exact hx0
      have hown2:w2.ownsRow (b+1) 148 4 (.slice a n c) n (jB Mk):=zw HOWo.out (fun i e hl=>hBj2.block i hl)
      obtain ⟨g0,cur,rfl,hgb,hgq⟩:=owns_blk hown2 (by omega)
      have hg0:g0<w.heap.size:=(HOW.out.lt g0 rfl).2
      have HB2:=za (zm hBj2 HBo.out)
      have hxi:(x:Int)<(n:Int):=by omega
      have c4:w2.cell? ⟨b,4,none⟩=some (.slice (some ⟨g0,0,none⟩) n c):=zc HB2.out 4
      have hl2:=zy HB2.out
      have HX0:=za hx0
      dsimp only[optV,remV,ruleS,Option.isSome]
      clear hOc htb hx0
      go_wp2_with fail
      have msz:(w2.alloc (.cells #[.string ⟨#[111,110,99,101]⟩,.int .i64 (x:Nat),.int .i64 (y:Nat),.int .i64 (-1)] 214)).heap.size=w2.heap.size+1:=by simp only[World.size_alloc]
      have mB:Below w2.heap.size w2 (w2.alloc (.cells #[.string ⟨#[111,110,99,101]⟩,.int .i64 (x:Nat),.int .i64 (y:Nat),.int .i64 (-1)] 214)):=(Below.refl _ _).alloc (Nat.le_refl _) _
      have mq0:(w2.alloc (.cells #[.string ⟨#[111,110,99,101]⟩,.int .i64 (x:Nat),.int .i64 (y:Nat),.int .i64 (-1)] 214)).heap[w2.heap.size]?=some (.cells #[.string ⟨#[111,110,99,101]⟩,.int .i64 (x:Nat),.int .i64 (y:Nat),.int .i64 (-1)] 214 (0,0)):=by have h:=World.alloc_heap_new w2 (.cells #[.string ⟨#[111,110,99,101]⟩,.int .i64 (x:Nat),.int .i64 (y:Nat),.int .i64 (-1)] 214);exact h
      generalize (w2.alloc (.cells #[.string ⟨#[111,110,99,101]⟩,.int .i64 (x:Nat),.int .i64 (y:Nat),.int .i64 (-1)] 214))=W3 at msz mB mq0 ⊢
      have HM3:=za mq0
      have HB3:=za (zm mB HB2.out)
      have hown3:W3.drew.ownsRow (b+1) 148 4 (.slice (some ⟨g0,0,none⟩) n c) n (jB Mk):=zw (w:=w2) (w':=W3) hown2 (fun i e hl=>mB.block i hl)
      have hBj3:=hBj2.trans (mB.mono hBj2.size)
      have hgq3:=zm mB hgq
      have d4:W3.cell? ⟨b,4,none⟩=some (.slice (some ⟨g0,0,none⟩) n c):=zc HB3.out 4
      have m1:W3.cell? ⟨w2.heap.size,1,none⟩=some (.int .i64 (x:Nat)):=zc mq0 1
      have m2:W3.cell? ⟨w2.heap.size,2,none⟩=some (.int .i64 (y:Nat)):=zc mq0 2
      have hl3:=zy HB3.out
      have msz':w2.heap.size<W3.heap.size:=by omega
      have HDR:=za (sdrop_c g0 (x*4) (Mk[x]?.getD 0) (y:Int) W3.drew (owns_setc hown3 HX0.out) (by omega) (by omega) (zy (W:=W3.drew) (o := .cells cur 148 (0,0)) hgq3) (fun q _=>zo (W:=W3.drew) (t:=148) hgq3 _))
      rw[Int.toNat_natCast] at HDR
      have HO3:=za hown3
      have hsz2:=hBj2.size
      have hlo:=zy HRUo.out
      clear hown2 hown3 hgq hgq3 mq0 msz c4 hl2
      refine qp (fun w'=>∃u,w'=over (W3) u) [0,1,2,4,7] [9] [(0,3),(0,5),(0,6),(0,8),(2,9)] (by kernel_rfl) (by kernel_rfl) (by exact ⟨_,zi (by repeat (first|assumption|exact Below.refl _ _|refine zd ?_|refine zg ?_ _|refine zb ?_ (by assumption)))⟩) ?_
      dsimp only[pickF,zG]
      repeat (first|(refine wpF_skip rfl (fun K hK=>?_);go_big_quiet_op;refine hK _ ?_;clear hK K)|(refine kc rfl rfl (fun K hK=>?_);go_big_quiet_op;refine hK _ ?_;clear hK K))
      refine wpF_end ?_
      dsimp only[zt,zG]
      repeat (first|(refine zu rfl (fun K hK=>?_);go_big_quiet_op;refine hK _ ?_;clear hK K)|(refine zp rfl rfl (fun K hK=>?_);go_big_quiet_op;refine hK _ ?_;clear hK K))
      refine zA _ _ _ rfl ?_
      dsimp only[List.map]
      go_wp2_with ((go_at_call 160;refine HDR.out.mono ?_;rintro _ w4 ⟨rfl,hp⟩))
      refine NoPanic.normal ?_
      have hown4:=hp.owns HO3.out HX0.out
      have hst4:Stays (fun k=>k=g0) W3 w4:=(Stays.refl _ W3).drew.trans hp.stays (fun _ e => .inl e)
      have HM4:=za (je hst4 HM3.out (by omega))
      have HB4:=za (je hst4 HB3.out (by omega))
      have hout3:W3.ownsRow (w.heap.size+1) 214 4 (.slice ao Ok.length co) Ok.length (remsL Ok):=zw HUo.out (fun i e hl=>hBj3.block i hl)
      have hout4:w4.ownsRow (w.heap.size+1) 214 4 (.slice ao Ok.length co) Ok.length (remsL Ok):=zw hout3 (fun i e hl=>hst4.block i hl (fun e2=>by have:=zL hout3 e;omega))
      have hRU4:=je hst4 (zm hBj3 HRUo.out) (by omega)
      have HO4:=za hown4
      have HRU4:=za hRU4
      have HHP:=za hp
      have s0:w4.cell? ⟨w2.heap.size,0,none⟩=some (.string ⟨#[111,110,99,101]⟩):=zc HM4.out 0
      have s1:w4.cell? ⟨w2.heap.size,1,none⟩=some (.int .i64 (x:Nat)):=zc HM4.out 1
      have s2:w4.cell? ⟨w2.heap.size,2,none⟩=some (.int .i64 (y:Nat)):=zc HM4.out 2
      have s3:w4.cell? ⟨w2.heap.size,3,none⟩=some (.int .i64 (-1)):=zc HM4.out 3
      have sl:=zy HM4.out
      have hz4:=hst4.size
      clear hout3 hown4 hRU4 hp d4 m1 m2 hl3 HDR
      go_wp2_with (first|(at_builtin;refine wpList_append_own _ rfl _ _ 143 rfl (w.heap.size+1) 214 i0 (.agg #[.string ⟨#[]⟩,.int .i64 0,.int .i64 0,.int .i64 0]) 4 40 Tryz.underlying143 hi hz0 hzz hz2 rfl (by decide) _ _ _ rfl (hout4.alloc _) ⟨w4.heap.size,0,none⟩ 1 1 [.string ⟨#[111,110,99,101]⟩,.int .i64 (x:Nat),.int .i64 (y:Nat),.int .i64 (-1)] rfl rfl (cell_new4 _ _ _ _ _ _) (by simp[Value.oneCell']) (by unfold maxLen;omega) (by omega) (by simp;omega) ?_))
      intro v' w5 hown' hgrow _
      obtain ⟨av,cv,rfl⟩:=zM hown'
      have hs5:=jR hgrow
      have hout5:w5.ownsRow (w.heap.size+1) 214 4 (.slice av (Ok.length+1) cv) (Ok++[(0,x,y,-1)]).length (remsL (Ok++[(0,x,y,-1)])):=by
       rw[remsL_snoc];simpa [remA,ruleS] using hown'
      have hRU5:=je hs5 HRU4.out (fun e=>by have:=zL hout4 e;omega)
      have hB5:=je hs5 HB4.out (fun e=>by have:=zL hout4 e;omega)
      have hown5:=zw HO4.out (fun i e hl=>hs5.block i hl (fun e2=>by have:=zL hout4 e2;simp only[Value.ownBlock,Option.some.injEq] at e;omega))
      have hBk5:Below (b+1) w w5:=hBk0.trans ((hBj3.mono (by omega)).trans (((Below.refl _ W3).drew.trans (HHP.out.below.mono (by omega))).trans (hs5.below (B:=b+1) (by omega) (fun i e=>by have:=zL hout4 e;omega))))
      have HE:=za (iterR_snoc (ls:=ls) (sum:=sum) (M:=M) (r:=(0,x,y,-1)) k Ms (by rw[HIK.out];exact hst.out))
      have hcd:=HCD.out
      clear hown' hgrow hout4 s0 s1 s2 s3 sl
      go_wp2_with fail
      go_roundg (candN (dropR Mk (0,x,y,-1)))
      case measure=>first|omega|(rw[HIK.out];exact hcd)
      case rel =>
       refine ⟨k+1,av,cv,?_⟩
       rw[HE.out,HIK.out]
       exact ⟨rfl,by simp,by unfold Hid;simpa using hout5,by simp;omega,hB5,hown5,hBk5,hRU5⟩
    ·have p0:wr.cell? ⟨w.heap.size,2,none⟩=some (.string ⟨#[108,105,110,101]⟩):=zc HRUr.out 2
     have p1:wr.cell? ⟨w.heap.size,3,none⟩=some (.func (Fn.func 217) #[] #[]):=zc HRUr.out 3
     have hlw:=zy HRUr.out
     go_wp2_with fail
     have gsz:(wr.alloc (.cells #[.string ⟨#[108,105,110,101]⟩,.func (Fn.func 217) #[] #[]] 212)).heap.size=wr.heap.size+1:=by simp only[World.size_alloc]
     have gB:Below wr.heap.size wr (wr.alloc (.cells #[.string ⟨#[108,105,110,101]⟩,.func (Fn.func 217) #[] #[]] 212)):=(Below.refl _ _).alloc (Nat.le_refl _) _
     have gq0:(wr.alloc (.cells #[.string ⟨#[108,105,110,101]⟩,.func (Fn.func 217) #[] #[]] 212)).heap[wr.heap.size]?=some (.cells #[.string ⟨#[108,105,110,101]⟩,.func (Fn.func 217) #[] #[]] 212 (0,0)):=by have h:=World.alloc_heap_new wr (.cells #[.string ⟨#[108,105,110,101]⟩,.func (Fn.func 217) #[] #[]] 212);exact h
     generalize (wr.alloc (.cells #[.string ⟨#[108,105,110,101]⟩,.func (Fn.func 217) #[] #[]] 212))=W1 at gsz gB gq0 ⊢
     have hBj1:=hbj.trans (gB.mono hbj.size)
     have HB1:=za (zm hBj1 HBo.out)
     have hown1:W1.ownsRow (b+1) 148 4 (.slice a n c) n (jB Mk):=zw HOWo.out (fun i e hl=>hBj1.block i hl)
     have HSL1:=za (SL.of_owns hown1 (by rw[HML.out];omega)).1
     have hB01:Below w0.heap.size w0 W1:=HB00.out.trans (hBj1.mono HB00.out.size)
     have gsz':wr.heap.size<W1.heap.size:=by omega
     clear p0 p1 gq0 gsz hown1
     refine (line_c b t0 t3 al nl cl ls sum a n c M Mk W1 HB1.out HSL1.out (HRC.out.mono hB01) HR.out hs1 hs2).mono ?_
     rintro _ w2 ⟨rfl,hb2⟩
     have hBj2:=hBj1.trans (hb2.mono hBj1.size)
     cases hOc:lineR ls sum Mk with
     | none =>
      dsimp only[optV,Option.isSome]
      go_wp2_with fail
      go_roundg (3 - 2)
      case measure=>omega
      case rel =>
       exact ⟨2,by omega,rfl,by go_num,rfl,fun _=>hn1 (by omega),fun _=>hOc,fun h=>absurd h (by omega),hBj2.alloc hBj2.size _⟩
     | some r =>
      obtain ⟨x,y,q,rfl⟩:=lineR_shape hOc
      have hst:=za (stepR_line HNC.out (hn1 (by omega)) hOc)
      obtain ⟨hx0,hy1,hy2,htb⟩:=stepR_ok (by rw[HML.out];exact fun l hl=>(HR.out l hl).2) hst.out
      have HCD:=za (candN_drop ⟨hx0,hy1,hy2,htb⟩)
      dsimp only at hx0 hy1 hy2 htb
      have hxn:x<n:=by rw[HML.out] at hx0;exact hx0
      have hown2:w2.ownsRow (b+1) 148 4 (.slice a n c) n (jB Mk):=zw HOWo.out (fun i e hl=>hBj2.block i hl)
      obtain ⟨g0,cur,rfl,hgb,hgq⟩:=owns_blk hown2 (by omega)
      have hg0:g0<w.heap.size:=(HOW.out.lt g0 rfl).2
      have HB2:=za (zm hBj2 HBo.out)
      have hxi:(x:Int)<(n:Int):=by omega
      have c4:w2.cell? ⟨b,4,none⟩=some (.slice (some ⟨g0,0,none⟩) n c):=zc HB2.out 4
      have hl2:=zy HB2.out
      have HX0:=za hx0
      dsimp only[optV,remV,ruleS,Option.isSome]
      clear hOc htb hx0
      go_wp2_with fail
      have msz:(w2.alloc (.cells #[.string ⟨#[108,105,110,101]⟩,.int .i64 (x:Nat),.int .i64 (y:Nat),.int .i64 (((q:Nat):Int))] 214)).heap.size=w2.heap.size+1:=by simp only[World.size_alloc]
      have mB:Below w2.heap.size w2 (w2.alloc (.cells #[.string ⟨#[108,105,110,101]⟩,.int .i64 (x:Nat),.int .i64 (y:Nat),.int .i64 (((q:Nat):Int))] 214)):=(Below.refl _ _).alloc (Nat.le_refl _) _
      have mq0:(w2.alloc (.cells #[.string ⟨#[108,105,110,101]⟩,.int .i64 (x:Nat),.int .i64 (y:Nat),.int .i64 (((q:Nat):Int))] 214)).heap[w2.heap.size]?=some (.cells #[.string ⟨#[108,105,110,101]⟩,.int .i64 (x:Nat),.int .i64 (y:Nat),.int .i64 (((q:Nat):Int))] 214 (0,0)):=by have h:=World.alloc_heap_new w2 (.cells #[.string ⟨#[108,105,110,101]⟩,.int .i64 (x:Nat),.int .i64 (y:Nat),.int .i64 (((q:Nat):Int))] 214);exact h
      generalize (w2.alloc (.cells #[.string ⟨#[108,105,110,101]⟩,.int .i64 (x:Nat),.int .i64 (y:Nat),.int .i64 (((q:Nat):Int))] 214))=W3 at msz mB mq0 ⊢
      have HM3:=za mq0
      have HB3:=za (zm mB HB2.out)
      have hown3:W3.drew.ownsRow (b+1) 148 4 (.slice (some ⟨g0,0,none⟩) n c) n (jB Mk):=zw (w:=w2) (w':=W3) hown2 (fun i e hl=>mB.block i hl)
      have hBj3:=hBj2.trans (mB.mono hBj2.size)
      have hgq3:=zm mB hgq
      have d4:W3.cell? ⟨b,4,none⟩=some (.slice (some ⟨g0,0,none⟩) n c):=zc HB3.out 4
      have m1:W3.cell? ⟨w2.heap.size,1,none⟩=some (.int .i64 (x:Nat)):=zc mq0 1
      have m2:W3.cell? ⟨w2.heap.size,2,none⟩=some (.int .i64 (y:Nat)):=zc mq0 2
      have hl3:=zy HB3.out
      have msz':w2.heap.size<W3.heap.size:=by omega
      have HDR:=za (sdrop_c g0 (x*4) (Mk[x]?.getD 0) (y:Int) W3.drew (owns_setc hown3 HX0.out) (by omega) (by omega) (zy (W:=W3.drew) (o := .cells cur 148 (0,0)) hgq3) (fun q _=>zo (W:=W3.drew) (t:=148) hgq3 _))
      rw[Int.toNat_natCast] at HDR
      have HO3:=za hown3
      have hsz2:=hBj2.size
      have hlo:=zy HRUo.out
      clear hown2 hown3 hgq hgq3 mq0 msz c4 hl2
      refine qp (fun w'=>∃u,w'=over (W3) u) [0,1,2,4,7] [9] [(0,3),(0,5),(0,6),(0,8),(2,9)] (by kernel_rfl) (by kernel_rfl) (by exact ⟨_,zi (by repeat (first|assumption|exact Below.refl _ _|refine zd ?_|refine zg ?_ _|refine zb ?_ (by assumption)))⟩) ?_
      dsimp only[pickF,zG]
      repeat (first|(refine wpF_skip rfl (fun K hK=>?_);go_big_quiet_op;refine hK _ ?_;clear hK K)|(refine kc rfl rfl (fun K hK=>?_);go_big_quiet_op;refine hK _ ?_;clear hK K))
      refine wpF_end ?_
      dsimp only[zt,zG]
      repeat (first|(refine zu rfl (fun K hK=>?_);go_big_quiet_op;refine hK _ ?_;clear hK K)|(refine zp rfl rfl (fun K hK=>?_);go_big_quiet_op;refine hK _ ?_;clear hK K))
      refine zA _ _ _ rfl ?_
      dsimp only[List.map]
      go_wp2_with ((go_at_call 160;refine HDR.out.mono ?_;rintro _ w4 ⟨rfl,hp⟩))
      refine NoPanic.normal ?_
      have hown4:=hp.owns HO3.out HX0.out
      have hst4:Stays (fun k=>k=g0) W3 w4:=(Stays.refl _ W3).drew.trans hp.stays (fun _ e => .inl e)
      have HM4:=za (je hst4 HM3.out (by omega))
      have HB4:=za (je hst4 HB3.out (by omega))
      have hout3:W3.ownsRow (w.heap.size+1) 214 4 (.slice ao Ok.length co) Ok.length (remsL Ok):=zw HUo.out (fun i e hl=>hBj3.block i hl)
      have hout4:w4.ownsRow (w.heap.size+1) 214 4 (.slice ao Ok.length co) Ok.length (remsL Ok):=zw hout3 (fun i e hl=>hst4.block i hl (fun e2=>by have:=zL hout3 e;omega))
      have hRU4:=je hst4 (zm hBj3 HRUo.out) (by omega)
      have HO4:=za hown4
      have HRU4:=za hRU4
      have HHP:=za hp
      have s0:w4.cell? ⟨w2.heap.size,0,none⟩=some (.string ⟨#[108,105,110,101]⟩):=zc HM4.out 0
      have s1:w4.cell? ⟨w2.heap.size,1,none⟩=some (.int .i64 (x:Nat)):=zc HM4.out 1
      have s2:w4.cell? ⟨w2.heap.size,2,none⟩=some (.int .i64 (y:Nat)):=zc HM4.out 2
      have s3:w4.cell? ⟨w2.heap.size,3,none⟩=some (.int .i64 (((q:Nat):Int))):=zc HM4.out 3
      have sl:=zy HM4.out
      have hz4:=hst4.size
      clear hout3 hown4 hRU4 hp d4 m1 m2 hl3 HDR
      go_wp2_with (first|(at_builtin;refine wpList_append_own _ rfl _ _ 143 rfl (w.heap.size+1) 214 i0 (.agg #[.string ⟨#[]⟩,.int .i64 0,.int .i64 0,.int .i64 0]) 4 40 Tryz.underlying143 hi hz0 hzz hz2 rfl (by decide) _ _ _ rfl (hout4.alloc _) ⟨w4.heap.size,0,none⟩ 1 1 [.string ⟨#[108,105,110,101]⟩,.int .i64 (x:Nat),.int .i64 (y:Nat),.int .i64 (((q:Nat):Int))] rfl rfl (cell_new4 _ _ _ _ _ _) (by simp[Value.oneCell']) (by unfold maxLen;omega) (by omega) (by simp;omega) ?_))
      intro v' w5 hown' hgrow _
      obtain ⟨av,cv,rfl⟩:=zM hown'
      have hs5:=jR hgrow
      have hout5:w5.ownsRow (w.heap.size+1) 214 4 (.slice av (Ok.length+1) cv) (Ok++[(1,x,y,((q:Nat):Int))]).length (remsL (Ok++[(1,x,y,((q:Nat):Int))])):=by
       rw[remsL_snoc];simpa [remA,ruleS] using hown'
      have hRU5:=je hs5 HRU4.out (fun e=>by have:=zL hout4 e;omega)
      have hB5:=je hs5 HB4.out (fun e=>by have:=zL hout4 e;omega)
      have hown5:=zw HO4.out (fun i e hl=>hs5.block i hl (fun e2=>by have:=zL hout4 e2;simp only[Value.ownBlock,Option.some.injEq] at e;omega))
      have hBk5:Below (b+1) w w5:=hBk0.trans ((hBj3.mono (by omega)).trans (((Below.refl _ W3).drew.trans (HHP.out.below.mono (by omega))).trans (hs5.below (B:=b+1) (by omega) (fun i e=>by have:=zL hout4 e;omega))))
      have HE:=za (iterR_snoc (ls:=ls) (sum:=sum) (M:=M) (r:=(1,x,y,((q:Nat):Int))) k Ms (by rw[HIK.out];exact hst.out))
      have hcd:=HCD.out
      clear hown' hgrow hout4 s0 s1 s2 s3 sl
      go_wp2_with fail
      go_roundg (candN (dropR Mk (1,x,y,((q:Nat):Int))))
      case measure=>first|omega|(rw[HIK.out];exact hcd)
      case rel =>
       refine ⟨k+1,av,cv,?_⟩
       rw[HE.out,HIK.out]
       exact ⟨rfl,by simp,by unfold Hid;simpa using hout5,by simp;omega,hB5,hown5,hBk5,hRU5⟩
    ·have p0:wr.cell? ⟨w.heap.size,4,none⟩=some (.string ⟨#[112,108,97,99,101]⟩):=zc HRUr.out 4
     have p1:wr.cell? ⟨w.heap.size,5,none⟩=some (.func (Fn.func 218) #[] #[]):=zc HRUr.out 5
     have hlw:=zy HRUr.out
     go_wp2_with fail
     have gsz:(wr.alloc (.cells #[.string ⟨#[112,108,97,99,101]⟩,.func (Fn.func 218) #[] #[]] 212)).heap.size=wr.heap.size+1:=by simp only[World.size_alloc]
     have gB:Below wr.heap.size wr (wr.alloc (.cells #[.string ⟨#[112,108,97,99,101]⟩,.func (Fn.func 218) #[] #[]] 212)):=(Below.refl _ _).alloc (Nat.le_refl _) _
     have gq0:(wr.alloc (.cells #[.string ⟨#[112,108,97,99,101]⟩,.func (Fn.func 218) #[] #[]] 212)).heap[wr.heap.size]?=some (.cells #[.string ⟨#[112,108,97,99,101]⟩,.func (Fn.func 218) #[] #[]] 212 (0,0)):=by have h:=World.alloc_heap_new wr (.cells #[.string ⟨#[112,108,97,99,101]⟩,.func (Fn.func 218) #[] #[]] 212);exact h
     generalize (wr.alloc (.cells #[.string ⟨#[112,108,97,99,101]⟩,.func (Fn.func 218) #[] #[]] 212))=W1 at gsz gB gq0 ⊢
     have hBj1:=hbj.trans (gB.mono hbj.size)
     have HB1:=za (zm hBj1 HBo.out)
     have hown1:W1.ownsRow (b+1) 148 4 (.slice a n c) n (jB Mk):=zw HOWo.out (fun i e hl=>hBj1.block i hl)
     have HSL1:=za (SL.of_owns hown1 (by rw[HML.out];omega)).1
     have hB01:Below w0.heap.size w0 W1:=HB00.out.trans (hBj1.mono HB00.out.size)
     have gsz':wr.heap.size<W1.heap.size:=by omega
     clear p0 p1 gq0 gsz hown1
     refine (place_c b t0 (.slice al nl cl) (.int .i64 sum) t3 a n c M Mk W1 HB1.out HSL1.out).mono ?_
     rintro _ w2 ⟨rfl,hb2⟩
     have hBj2:=hBj1.trans (hb2.mono hBj1.size)
     cases hOc:placeR Mk with
     | none =>
      dsimp only[optV,Option.isSome]
      go_wp2_with fail
      go_roundg (3 - 3)
      case measure=>omega
      case rel =>
       exact ⟨3,by omega,rfl,by go_num,rfl,fun _=>hn1 (by omega),fun _=>hn2 (by omega),fun _=>hOc,hBj2.alloc hBj2.size _⟩
     | some r =>
      obtain ⟨x,y,rfl⟩:=placeR_shape hOc
      have hst:=za (stepR_place HNC.out (hn1 (by omega)) (hn2 (by omega)) hOc)
      obtain ⟨hx0,hy1,hy2,htb⟩:=stepR_ok (by rw[HML.out];exact fun l hl=>(HR.out l hl).2) hst.out
      have HCD:=za (candN_drop ⟨hx0,hy1,hy2,htb⟩)
      dsimp only at hx0 hy1 hy2 htb
      have hxn:x<n:=by rw[HML.out] at hx0;exact hx0
      have hown2:w2.ownsRow (b+1) 148 4 (.slice a n c) n (jB Mk):=zw HOWo.out (fun i e hl=>hBj2.block i hl)
      obtain ⟨g0,cur,rfl,hgb,hgq⟩:=owns_blk hown2 (by omega)
      have hg0:g0<w.heap.size:=(HOW.out.lt g0 rfl).2
      have HB2:=za (zm hBj2 HBo.out)
      have hxi:(x:Int)<(n:Int):=by omega
      have c4:w2.cell? ⟨b,4,none⟩=some (.slice (some ⟨g0,0,none⟩) n c):=zc HB2.out 4
      have hl2:=zy HB2.out
      have HX0:=za hx0
      dsimp only[optV,remV,ruleS,Option.isSome]
      clear hOc htb hx0
      go_wp2_with fail
      have msz:(w2.alloc (.cells #[.string ⟨#[112,108,97,99,101]⟩,.int .i64 (x:Nat),.int .i64 (y:Nat),.int .i64 (-1)] 214)).heap.size=w2.heap.size+1:=by simp only[World.size_alloc]
      have mB:Below w2.heap.size w2 (w2.alloc (.cells #[.string ⟨#[112,108,97,99,101]⟩,.int .i64 (x:Nat),.int .i64 (y:Nat),.int .i64 (-1)] 214)):=(Below.refl _ _).alloc (Nat.le_refl _) _
      have mq0:(w2.alloc (.cells #[.string ⟨#[112,108,97,99,101]⟩,.int .i64 (x:Nat),.int .i64 (y:Nat),.int .i64 (-1)] 214)).heap[w2.heap.size]?=some (.cells #[.string ⟨#[112,108,97,99,101]⟩,.int .i64 (x:Nat),.int .i64 (y:Nat),.int .i64 (-1)] 214 (0,0)):=by have h:=World.alloc_heap_new w2 (.cells #[.string ⟨#[112,108,97,99,101]⟩,.int .i64 (x:Nat),.int .i64 (y:Nat),.int .i64 (-1)] 214);exact h
      generalize (w2.alloc (.cells #[.string ⟨#[112,108,97,99,101]⟩,.int .i64 (x:Nat),.int .i64 (y:Nat),.int .i64 (-1)] 214))=W3 at msz mB mq0 ⊢
      have HM3:=za mq0
      have HB3:=za (zm mB HB2.out)
      have hown3:W3.drew.ownsRow (b+1) 148 4 (.slice (some ⟨g0,0,none⟩) n c) n (jB Mk):=zw (w:=w2) (w':=W3) hown2 (fun i e hl=>mB.block i hl)
      have hBj3:=hBj2.trans (mB.mono hBj2.size)
      have hgq3:=zm mB hgq
      have d4:W3.cell? ⟨b,4,none⟩=some (.slice (some ⟨g0,0,none⟩) n c):=zc HB3.out 4
      have m1:W3.cell? ⟨w2.heap.size,1,none⟩=some (.int .i64 (x:Nat)):=zc mq0 1
      have m2:W3.cell? ⟨w2.heap.size,2,none⟩=some (.int .i64 (y:Nat)):=zc mq0 2
      have hl3:=zy HB3.out
      have msz':w2.heap.size<W3.heap.size:=by omega
      have HDR:=za (sdrop_c g0 (x*4) (Mk[x]?.getD 0) (y:Int) W3.drew (owns_setc hown3 HX0.out) (by omega) (by omega) (zy (W:=W3.drew) (o := .cells cur 148 (0,0)) hgq3) (fun q _=>zo (W:=W3.drew) (t:=148) hgq3 _))
      rw[Int.toNat_natCast] at HDR
      have HO3:=za hown3
      have hsz2:=hBj2.size
      have hlo:=zy HRUo.out
      clear hown2 hown3 hgq hgq3 mq0 msz c4 hl2
      refine qp (fun w'=>∃u,w'=over (W3) u) [0,1,2,4,7] [9] [(0,3),(0,5),(0,6),(0,8),(2,9)] (by kernel_rfl) (by kernel_rfl) (by exact ⟨_,zi (by repeat (first|assumption|exact Below.refl _ _|refine zd ?_|refine zg ?_ _|refine zb ?_ (by assumption)))⟩) ?_
      dsimp only[pickF,zG]
      repeat (first|(refine wpF_skip rfl (fun K hK=>?_);go_big_quiet_op;refine hK _ ?_;clear hK K)|(refine kc rfl rfl (fun K hK=>?_);go_big_quiet_op;refine hK _ ?_;clear hK K))
      refine wpF_end ?_
      dsimp only[zt,zG]
      repeat (first|(refine zu rfl (fun K hK=>?_);go_big_quiet_op;refine hK _ ?_;clear hK K)|(refine zp rfl rfl (fun K hK=>?_);go_big_quiet_op;refine hK _ ?_;clear hK K))
      refine zA _ _ _ rfl ?_
      dsimp only[List.map]
      go_wp2_with ((go_at_call 160;refine HDR.out.mono ?_;rintro _ w4 ⟨rfl,hp⟩))
      refine NoPanic.normal ?_
      have hown4:=hp.owns HO3.out HX0.out
      have hst4:Stays (fun k=>k=g0) W3 w4:=(Stays.refl _ W3).drew.trans hp.stays (fun _ e => .inl e)
      have HM4:=za (je hst4 HM3.out (by omega))
      have HB4:=za (je hst4 HB3.out (by omega))
      have hout3:W3.ownsRow (w.heap.size+1) 214 4 (.slice ao Ok.length co) Ok.length (remsL Ok):=zw HUo.out (fun i e hl=>hBj3.block i hl)
      have hout4:w4.ownsRow (w.heap.size+1) 214 4 (.slice ao Ok.length co) Ok.length (remsL Ok):=zw hout3 (fun i e hl=>hst4.block i hl (fun e2=>by have:=zL hout3 e;omega))
      have hRU4:=je hst4 (zm hBj3 HRUo.out) (by omega)
      have HO4:=za hown4
      have HRU4:=za hRU4
      have HHP:=za hp
      have s0:w4.cell? ⟨w2.heap.size,0,none⟩=some (.string ⟨#[112,108,97,99,101]⟩):=zc HM4.out 0
      have s1:w4.cell? ⟨w2.heap.size,1,none⟩=some (.int .i64 (x:Nat)):=zc HM4.out 1
      have s2:w4.cell? ⟨w2.heap.size,2,none⟩=some (.int .i64 (y:Nat)):=zc HM4.out 2
      have s3:w4.cell? ⟨w2.heap.size,3,none⟩=some (.int .i64 (-1)):=zc HM4.out 3
      have sl:=zy HM4.out
      have hz4:=hst4.size
      clear hout3 hown4 hRU4 hp d4 m1 m2 hl3 HDR
      go_wp2_with (first|(at_builtin;refine wpList_append_own _ rfl _ _ 143 rfl (w.heap.size+1) 214 i0 (.agg #[.string ⟨#[]⟩,.int .i64 0,.int .i64 0,.int .i64 0]) 4 40 Tryz.underlying143 hi hz0 hzz hz2 rfl (by decide) _ _ _ rfl (hout4.alloc _) ⟨w4.heap.size,0,none⟩ 1 1 [.string ⟨#[112,108,97,99,101]⟩,.int .i64 (x:Nat),.int .i64 (y:Nat),.int .i64 (-1)] rfl rfl (cell_new4 _ _ _ _ _ _) (by simp[Value.oneCell']) (by unfold maxLen;omega) (by omega) (by simp;omega) ?_))
      intro v' w5 hown' hgrow _
      obtain ⟨av,cv,rfl⟩:=zM hown'
      have hs5:=jR hgrow
      have hout5:w5.ownsRow (w.heap.size+1) 214 4 (.slice av (Ok.length+1) cv) (Ok++[(2,x,y,-1)]).length (remsL (Ok++[(2,x,y,-1)])):=by
       rw[remsL_snoc];simpa [remA,ruleS] using hown'
      have hRU5:=je hs5 HRU4.out (fun e=>by have:=zL hout4 e;omega)
      have hB5:=je hs5 HB4.out (fun e=>by have:=zL hout4 e;omega)
      have hown5:=zw HO4.out (fun i e hl=>hs5.block i hl (fun e2=>by have:=zL hout4 e2;simp only[Value.ownBlock,Option.some.injEq] at e;omega))
      have hBk5:Below (b+1) w w5:=hBk0.trans ((hBj3.mono (by omega)).trans (((Below.refl _ W3).drew.trans (HHP.out.below.mono (by omega))).trans (hs5.below (B:=b+1) (by omega) (fun i e=>by have:=zL hout4 e;omega))))
      have HE:=za (iterR_snoc (ls:=ls) (sum:=sum) (M:=M) (r:=(2,x,y,-1)) k Ms (by rw[HIK.out];exact hst.out))
      have hcd:=HCD.out
      clear hown' hgrow hout4 s0 s1 s2 s3 sl
      go_wp2_with fail
      go_roundg (candN (dropR Mk (2,x,y,-1)))
      case measure=>first|omega|(rw[HIK.out];exact hcd)
      case rel =>
       refine ⟨k+1,av,cv,?_⟩
       rw[HE.out,HIK.out]
       exact ⟨rfl,by simp,by unfold Hid;simpa using hout5,by simp;omega,hB5,hown5,hBk5,hRU5⟩
    ·have HEND:=za (stepR_place (sum:=sum) HNC.out (hn1 (by omega)) (hn2 (by omega)) (hn3 (by omega)))
     go_wp2_with fail
     rw[Exit.noGoto_ret]
     go_ret
     refine ⟨k,_,rfl,?_⟩
     rw[HIK.out]
     exact ⟨HEND.out,zI (zw HUo.out (fun i e hl=>hbj.block i hl)) (show b+1≤w.heap.size+1 by omega),by dsimp only;omega,zm hbj HBo.out,zw HOWo.out (fun i e hl=>hbj.block i hl),hBk0.trans (hbj.mono (zy HBo.out))⟩
end
end Go.Proofs.YtaadpihbjhachaaGreat
