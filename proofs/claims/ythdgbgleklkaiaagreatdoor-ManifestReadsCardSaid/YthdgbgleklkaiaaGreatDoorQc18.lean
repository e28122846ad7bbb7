/- chacha.quarter and the document's: chacha.begin: chacha.Block: Prime n. Condition: as each theorem says. -/

import Derived.Test.YthdgbgleklkaiaaGreatDoorQc05
open Go.Lib renaming hid→abC
open Nat renaming mul_mod→abD,pow_add→abJ,mod_mod→abK,mod_eq_of_lt→abL,mod_lt→abM,eq_or_lt_of_le→abN,mul_one→abP,eq_zero_or_pos→abQ,pow_mod→abR,le_of_dvd→abS,mul_comm→abT,dvd_of_mod_eq_zero→abY,mod_mod_of_dvd→acA,mul_le_mul_left→acE,mul_le_mul_right→acF
open List renaming take_succ_cons→abE,take_zero→abF,drop_succ_cons→abG,drop_zero→abH,replicate→abI,range→abO,set_append_right→abU,replicate_succ→abV
set_option linter.unusedSimpArgs false
set_option linter.unusedVariables false
set_option maxRecDepth 100000
set_option maxHeartbeats 16000000
namespace Go.Proofs.YthdgbgleklkaiaaGreatDoor.Ch
open Go.RowKit
theorem EP (p:Nat) (s:List Int) (a b c d:Nat) (w:World) (hp:w.heap[p]? = some (.cells (arr .u32 s) 235 (0,0))) (hl:s.length=16) (ha:a < 16) (hb:b < 16) (hc:c < 16) (hd:d < 16) :
  Calls Tryz.prog 206 #[.pointer (some ⟨p,0,none⟩), .int .i64 (a:Int), .int .i64 (b:Int), .int .i64 (c:Int), .int .i64 (d:Int)] w fun e w'=>e = .returned (.tuple #[])∧w'.heap[p]? = some (.cells (arr .u32 (quarter s a b c d)) 235 (0,0))∧Kept (fun x=>x=p) w w':=by
 obtain ⟨qf,hqf⟩:∃ qf,qf=quarter s a b c d:=⟨_,rfl⟩
 have HQF:=abC hqf
 have ia:(a:Int) < 16:=by omega
 have ib:(b:Int) < 16:=by omega
 have ic:(c:Int) < 16:=by omega
 have id:(d:Int) < 16:=by omega
 have K0:=abC (Kept.refl (fun x=>x=p) w)
 have L0:=abC hl
 have H0:=abC hp
 rw [← hqf]
 clear hqf hl hp
 obtain ⟨w0,hw0⟩:∃ w0,w0=w:=⟨_,rfl⟩
 rw [← hw0] at K0 H0 ⊢
 obtain ⟨s0,hs0⟩:∃ s0,s0=s:=⟨_,rfl⟩
 rw [← hs0] at H0 L0
 have bW:=abC hs0
 have HW0:=abC hw0
 clear hs0 hw0
 go_enter Tryz.func206, Tryz.ntmps206
 obtain ⟨s1,hs1⟩:∃ t,t=qa s0 a b:=⟨_,rfl⟩
 have x0':=aJ H0.out a (by rw [L0.out];exact ha)
 have y0':=aJ H0.out b (by rw [L0.out];exact hb)
 have f0:=aC H0.out a
 have hn0:∀ v,v=add (s0.getD a 0) (s0.getD b 0)→(w0.setCell ⟨p,a,none⟩ (.int .u32 v)).heap[p]? = some (.cells (arr .u32 s1) 235 (0,0)):=by
  rintro v rfl
  rw [bJ H0.out,hs1]
  rfl
 have L1:Hid (s1.length=16):=abC (by rw [hs1];simp only [zL];exact L0.out)
 have iY:=abC hs1
 have HN0:=abC hn0
 have KK0:=abC (fun v=>(K0.out.at a v).drew)
 clear hs1 hn0 H0 K0
 generalize s0.getD a 0=x0 at x0' HN0
 generalize s0.getD b 0=y0 at y0' HN0
 go_wp2_with fail
 refine wp_region_still_tail 15 (by kernel_rfl) (by kernel_rfl) ?_
 simp only [abE,abF,abG,abH]
 repeat still_step
 refine wpStill_nil ?_
 change wpList _ _ _ _ _ w0.drew
 go_wp2_with fail
 have H1:Hid ((w0.setCell ⟨p,a,none⟩ (.int .u32 ((x0+y0) % 4294967296))).drew.heap[p]? = some (.cells (arr .u32 s1) 235 (0,0))):=abC (HN0.out _ (by first|rfl|(unfold add;rfl)))
 have K1:=abC (KK0.out (.int .u32 ((x0+y0) % 4294967296)))
 clear HN0 KK0 x0' y0' f0
 generalize (w0.setCell ⟨p,a,none⟩ (.int .u32 ((x0+y0) % 4294967296))).drew=w1 at H1 K1 ⊢
 obtain ⟨s2,hs2⟩:∃ t,t=qx s1 d a 65536 65536:=⟨_,rfl⟩
 have x1':=aJ H1.out d (by rw [L1.out];exact hd)
 have y1':=aJ H1.out a (by rw [L1.out];exact ha)
 have f1:=aC H1.out d
 have hn1:∀ v,v=rotl (bits .xor .u32 (s1.getD d 0) (s1.getD a 0)) 65536 65536→(w1.setCell ⟨p,d,none⟩ (.int .u32 v)).heap[p]? = some (.cells (arr .u32 s2) 235 (0,0)):=by
  rintro v rfl
  rw [bJ H1.out,hs2]
  rfl
 have L2:Hid (s2.length=16):=abC (by rw [hs2];simp only [zK];exact L1.out)
 have HS2:=abC hs2
 have HN1:=abC hn1
 have KK1:=abC (fun v=>(K1.out.at d v).drew)
 clear hs2 hn1 H1 K1
 generalize s1.getD d 0=x1 at x1' HN1
 generalize s1.getD a 0=y1 at y1' HN1
 go_wp2_with fail
 refine wp_region_still_tail 16 (by kernel_rfl) (by kernel_rfl) ?_
 simp only [abE,abF,abG,abH]
 repeat still_step
 (refine wpStill_step (fun K hK=>?_);go_simp;refine Exists.intro _ (And.intro (wQ (rol_16 _ _)) ?_);refine hK _ ?_;clear hK K)
 repeat still_step
 refine wpStill_nil ?_
 change wpList _ _ _ _ _ w1.drew
 go_wp2_with fail
 have H2:Hid ((w1.setCell ⟨p,d,none⟩ (.int .u32 (rotl (bits .xor .u32 x1 y1) 65536 65536))).drew.heap[p]? = some (.cells (arr .u32 s2) 235 (0,0))):=abC (HN1.out _ (by first|rfl|(unfold add;rfl)))
 have K2:=abC (KK1.out (.int .u32 (rotl (bits .xor .u32 x1 y1) 65536 65536)))
 clear HN1 KK1 x1' y1' f1
 generalize (w1.setCell ⟨p,d,none⟩ (.int .u32 (rotl (bits .xor .u32 x1 y1) 65536 65536))).drew=w2 at H2 K2 ⊢
 obtain ⟨s3,hs3⟩:∃ t,t=qa s2 c d:=⟨_,rfl⟩
 have x2':=aJ H2.out c (by rw [L2.out];exact hc)
 have y2':=aJ H2.out d (by rw [L2.out];exact hd)
 have f2:=aC H2.out c
 have hn2:∀ v,v=add (s2.getD c 0) (s2.getD d 0)→(w2.setCell ⟨p,c,none⟩ (.int .u32 v)).heap[p]? = some (.cells (arr .u32 s3) 235 (0,0)):=by
  rintro v rfl
  rw [bJ H2.out,hs3]
  rfl
 have L3:Hid (s3.length=16):=abC (by rw [hs3];simp only [zL];exact L2.out)
 have Ef:=abC hs3
 have HN2:=abC hn2
 have KK2:=abC (fun v=>(K2.out.at c v).drew)
 clear hs3 hn2 H2 K2
 generalize s2.getD c 0=x2 at x2' HN2
 generalize s2.getD d 0=y2 at y2' HN2
 go_wp2_with fail
 refine wp_region_still_tail 15 (by kernel_rfl) (by kernel_rfl) ?_
 simp only [abE,abF,abG,abH]
 repeat still_step
 refine wpStill_nil ?_
 change wpList _ _ _ _ _ w2.drew
 go_wp2_with fail
 have H3:Hid ((w2.setCell ⟨p,c,none⟩ (.int .u32 ((x2+y2) % 4294967296))).drew.heap[p]? = some (.cells (arr .u32 s3) 235 (0,0))):=abC (HN2.out _ (by first|rfl|(unfold add;rfl)))
 have K3:=abC (KK2.out (.int .u32 ((x2+y2) % 4294967296)))
 clear HN2 KK2 x2' y2' f2
 generalize (w2.setCell ⟨p,c,none⟩ (.int .u32 ((x2+y2) % 4294967296))).drew=w3 at H3 K3 ⊢
 obtain ⟨s4,hs4⟩:∃ t,t=qx s3 b c 4096 1048576:=⟨_,rfl⟩
 have x3':=aJ H3.out b (by rw [L3.out];exact hb)
 have y3':=aJ H3.out c (by rw [L3.out];exact hc)
 have f3:=aC H3.out b
 have hn3:∀ v,v=rotl (bits .xor .u32 (s3.getD b 0) (s3.getD c 0)) 4096 1048576→(w3.setCell ⟨p,b,none⟩ (.int .u32 v)).heap[p]? = some (.cells (arr .u32 s4) 235 (0,0)):=by
  rintro v rfl
  rw [bJ H3.out,hs4]
  rfl
 have L4:Hid (s4.length=16):=abC (by rw [hs4];simp only [zK];exact L3.out)
 have H9:=abC hs4
 have HN3:=abC hn3
 have KK3:=abC (fun v=>(K3.out.at b v).drew)
 clear hs4 hn3 H3 K3
 generalize s3.getD b 0=x3 at x3' HN3
 generalize s3.getD c 0=y3 at y3' HN3
 go_wp2_with fail
 refine wp_region_still_tail 16 (by kernel_rfl) (by kernel_rfl) ?_
 simp only [abE,abF,abG,abH]
 repeat still_step
 (refine wpStill_step (fun K hK=>?_);go_simp;refine Exists.intro _ (And.intro (wQ (rol_12 _ _)) ?_);refine hK _ ?_;clear hK K)
 repeat still_step
 refine wpStill_nil ?_
 change wpList _ _ _ _ _ w3.drew
 go_wp2_with fail
 have H4:Hid ((w3.setCell ⟨p,b,none⟩ (.int .u32 (rotl (bits .xor .u32 x3 y3) 4096 1048576))).drew.heap[p]? = some (.cells (arr .u32 s4) 235 (0,0))):=abC (HN3.out _ (by first|rfl|(unfold add;rfl)))
 have K4:=abC (KK3.out (.int .u32 (rotl (bits .xor .u32 x3 y3) 4096 1048576)))
 clear HN3 KK3 x3' y3' f3
 generalize (w3.setCell ⟨p,b,none⟩ (.int .u32 (rotl (bits .xor .u32 x3 y3) 4096 1048576))).drew=w4 at H4 K4 ⊢
 obtain ⟨s5,hs5⟩:∃ t,t=qa s4 a b:=⟨_,rfl⟩
 have x4':=aJ H4.out a (by rw [L4.out];exact ha)
 have y4':=aJ H4.out b (by rw [L4.out];exact hb)
 have f4:=aC H4.out a
 have hn4:∀ v,v=add (s4.getD a 0) (s4.getD b 0)→(w4.setCell ⟨p,a,none⟩ (.int .u32 v)).heap[p]? = some (.cells (arr .u32 s5) 235 (0,0)):=by
  rintro v rfl
  rw [bJ H4.out,hs5]
  rfl
 have L5:Hid (s5.length=16):=abC (by rw [hs5];simp only [zL];exact L4.out)
 have HS5:=abC hs5
 have HN4:=abC hn4
 have KK4:=abC (fun v=>(K4.out.at a v).drew)
 clear hs5 hn4 H4 K4
 generalize s4.getD a 0=x4 at x4' HN4
 generalize s4.getD b 0=y4 at y4' HN4
 go_wp2_with fail
 refine wp_region_still_tail 15 (by kernel_rfl) (by kernel_rfl) ?_
 simp only [abE,abF,abG,abH]
 repeat still_step
 refine wpStill_nil ?_
 change wpList _ _ _ _ _ w4.drew
 go_wp2_with fail
 have H5:Hid ((w4.setCell ⟨p,a,none⟩ (.int .u32 ((x4+y4) % 4294967296))).drew.heap[p]? = some (.cells (arr .u32 s5) 235 (0,0))):=abC (HN4.out _ (by first|rfl|(unfold add;rfl)))
 have K5:=abC (KK4.out (.int .u32 ((x4+y4) % 4294967296)))
 clear HN4 KK4 x4' y4' f4
 generalize (w4.setCell ⟨p,a,none⟩ (.int .u32 ((x4+y4) % 4294967296))).drew=w5 at H5 K5 ⊢
 obtain ⟨s6,hs6⟩:∃ t,t=qx s5 d a 256 16777216:=⟨_,rfl⟩
 have x5':=aJ H5.out d (by rw [L5.out];exact hd)
 have y5':=aJ H5.out a (by rw [L5.out];exact ha)
 have f5:=aC H5.out d
 have hn5:∀ v,v=rotl (bits .xor .u32 (s5.getD d 0) (s5.getD a 0)) 256 16777216→(w5.setCell ⟨p,d,none⟩ (.int .u32 v)).heap[p]? = some (.cells (arr .u32 s6) 235 (0,0)):=by
  rintro v rfl
  rw [bJ H5.out,hs6]
  rfl
 have L6:Hid (s6.length=16):=abC (by rw [hs6];simp only [zK];exact L5.out)
 have HS6:=abC hs6
 have HN5:=abC hn5
 have KK5:=abC (fun v=>(K5.out.at d v).drew)
 clear hs6 hn5 H5 K5
 generalize s5.getD d 0=x5 at x5' HN5
 generalize s5.getD a 0=y5 at y5' HN5
 go_wp2_with fail
 refine wp_region_still_tail 16 (by kernel_rfl) (by kernel_rfl) ?_
 simp only [abE,abF,abG,abH]
 repeat still_step
 (refine wpStill_step (fun K hK=>?_);go_simp;refine Exists.intro _ (And.intro (wQ (rol_8 _ _)) ?_);refine hK _ ?_;clear hK K)
 repeat still_step
 refine wpStill_nil ?_
 change wpList _ _ _ _ _ w5.drew
 go_wp2_with fail
 have H6:Hid ((w5.setCell ⟨p,d,none⟩ (.int .u32 (rotl (bits .xor .u32 x5 y5) 256 16777216))).drew.heap[p]? = some (.cells (arr .u32 s6) 235 (0,0))):=abC (HN5.out _ (by first|rfl|(unfold add;rfl)))
 have K6:=abC (KK5.out (.int .u32 (rotl (bits .xor .u32 x5 y5) 256 16777216)))
 clear HN5 KK5 x5' y5' f5
 generalize (w5.setCell ⟨p,d,none⟩ (.int .u32 (rotl (bits .xor .u32 x5 y5) 256 16777216))).drew=w6 at H6 K6 ⊢
 obtain ⟨s7,hs7⟩:∃ t,t=qa s6 c d:=⟨_,rfl⟩
 have x6':=aJ H6.out c (by rw [L6.out];exact hc)
 have y6':=aJ H6.out d (by rw [L6.out];exact hd)
 have f6:=aC H6.out c
 have hn6:∀ v,v=add (s6.getD c 0) (s6.getD d 0)→(w6.setCell ⟨p,c,none⟩ (.int .u32 v)).heap[p]? = some (.cells (arr .u32 s7) 235 (0,0)):=by
  rintro v rfl
  rw [bJ H6.out,hs7]
  rfl
 have L7:Hid (s7.length=16):=abC (by rw [hs7];simp only [zL];exact L6.out)
 have HS7:=abC hs7
 have HN6:=abC hn6
 have KK6:=abC (fun v=>(K6.out.at c v).drew)
 clear hs7 hn6 H6 K6
 generalize s6.getD c 0=x6 at x6' HN6
 generalize s6.getD d 0=y6 at y6' HN6
 go_wp2_with fail
 refine wp_region_still_tail 15 (by kernel_rfl) (by kernel_rfl) ?_
 simp only [abE,abF,abG,abH]
 repeat still_step
 refine wpStill_nil ?_
 change wpList _ _ _ _ _ w6.drew
 go_wp2_with fail
 have H7:Hid ((w6.setCell ⟨p,c,none⟩ (.int .u32 ((x6+y6) % 4294967296))).drew.heap[p]? = some (.cells (arr .u32 s7) 235 (0,0))):=abC (HN6.out _ (by first|rfl|(unfold add;rfl)))
 have K7:=abC (KK6.out (.int .u32 ((x6+y6) % 4294967296)))
 clear HN6 KK6 x6' y6' f6
 generalize (w6.setCell ⟨p,c,none⟩ (.int .u32 ((x6+y6) % 4294967296))).drew=w7 at H7 K7 ⊢
 obtain ⟨s8,hs8⟩:∃ t,t=qx s7 b c 128 33554432:=⟨_,rfl⟩
 have x7':=aJ H7.out b (by rw [L7.out];exact hb)
 have y7':=aJ H7.out c (by rw [L7.out];exact hc)
 have f7:=aC H7.out b
 have hn7:∀ v,v=rotl (bits .xor .u32 (s7.getD b 0) (s7.getD c 0)) 128 33554432→(w7.setCell ⟨p,b,none⟩ (.int .u32 v)).heap[p]? = some (.cells (arr .u32 s8) 235 (0,0)):=by
  rintro v rfl
  rw [bJ H7.out,hs8]
  rfl
 have L8:Hid (s8.length=16):=abC (by rw [hs8];simp only [zK];exact L7.out)
 have Kg:=abC hs8
 have HN7:=abC hn7
 have KK7:=abC (fun v=>(K7.out.at b v).drew)
 clear hs8 hn7 H7 K7
 generalize s7.getD b 0=x7 at x7' HN7
 generalize s7.getD c 0=y7 at y7' HN7
 go_wp2_with fail
 refine wp_region_still_tail 16 (by kernel_rfl) (by kernel_rfl) ?_
 simp only [abE,abF,abG,abH]
 repeat still_step
 (refine wpStill_step (fun K hK=>?_);go_simp;refine Exists.intro _ (And.intro (wQ (rol_7 _ _)) ?_);refine hK _ ?_;clear hK K)
 repeat still_step
 refine wpStill_nil ?_
 change wpList _ _ _ _ _ w7.drew
 go_wp2_with fail
 have H8:Hid ((w7.setCell ⟨p,b,none⟩ (.int .u32 (rotl (bits .xor .u32 x7 y7) 128 33554432))).drew.heap[p]? = some (.cells (arr .u32 s8) 235 (0,0))):=abC (HN7.out _ (by first|rfl|(unfold add;rfl)))
 have K8:=abC (KK7.out (.int .u32 (rotl (bits .xor .u32 x7 y7) 128 33554432)))
 clear HN7 KK7 x7' y7' f7
 generalize (w7.setCell ⟨p,b,none⟩ (.int .u32 (rotl (bits .xor .u32 x7 y7) 128 33554432))).drew=w8 at H8 K8 ⊢
 go_end0
 have e:s8=qf:=by rw [HQF.out,Kg.out,HS7.out,HS6.out,HS5.out,H9.out,Ef.out,HS2.out,iY.out,bW.out];rfl
 rw [e] at H8
 exact ⟨rfl,H8.out,K8.out⟩
end Go.Proofs.YthdgbgleklkaiaaGreatDoor.Ch
namespace Go.Proofs.YthdgbgleklkaiaaGreatDoor.Ch
open Go.RowKit
def lay (pre:List Int) (f:Nat→Int) (i n:Nat):List Int:=pre ++ (abO i).map f ++ abI (n - i) 0
theorem FR (pre:List Int) (f:Nat→Int) (i n:Nat) (h:i≤n):(lay pre f i n).length=pre.length+n:=by simp [lay];omega
theorem FQ (pre:List Int) (f:Nat→Int) (i n:Nat) (h:i < n):(lay pre f i n).set (pre.length+i) (f i)=lay pre f (i+1) n:=by
 unfold lay
 rw [abU _ _ (by simp),show n - i=(n - (i+1))+1 by omega,abV,List.range_succ]
 simp
theorem Jb (pre:List Int) (f:Nat→Int) (i n:Nat) (g:Nat→Int) (_h:i≤n):lay pre f i n=lay (pre ++ (abO i).map f) g 0 (n - i):=by simp [lay]
theorem al32 : Tryz.prog.arrayLen 25 = 32:=by kernel_rfl
theorem al12 : Tryz.prog.arrayLen 135 = 12:=by kernel_rfl
theorem U9 (w:World):(zeroValue 235).run Tryz.prog w = .ok (.agg (arr .u32 (abI 16 0))) w:=by kernel_rfl
theorem size16:(Tryz.prog.info? 235).map (·.size)=some 16:=by kernel_rfl
structure Bg (w wr:World) (key aM s:List Int):Prop where
 bk:wr.heap[w.heap.size]? = some (.cells (arr .u8 key) 25 (0,0))
 bn:wr.heap[w.heap.size+1]? = some (.cells (arr .u8 aM) 135 (0,0))
 br:wr.heap[w.heap.size+1+1]? = some (.cells (arr .u32 (abI 16 0)) 235 (0,0))
 bs:wr.heap[w.heap.size+1+1+1]? = some (.cells (arr .u32 s) 235 (0,0))
 below:Below w.heap.size w wr
theorem Bg.drewN {w wr:World} {key aM s:List Int} (h:Bg w wr key aM s) (n:Nat):Bg w (wr.drewN n) key aM s:=⟨h.bk,h.bn,h.br,h.bs,Go.Proofs.YthdgbgleklkaiaaGreatDoor.Below.drewN h.below n⟩
theorem Bg.set {w wr:World} {key aM s:List Int} (h:Bg w wr key aM s) (i:Nat) (x:Int):Bg w (wr.setCell ⟨w.heap.size+1+1+1,i,none⟩ (.int .u32 x)) key aM (s.set i x) :=
 ⟨ay h.bk _ (by omega),ay h.bn _ (by omega),ay h.br _ (by omega),bJ h.bs i x,h.below.setCell (p:=⟨w.heap.size+1+1+1,i,none⟩) (by simp;omega) _⟩
theorem Py (t:TypeId) (N g i:Nat) (ht : Tryz.prog.underlying t=some (.array (Tryz.prog.arrayLen t) (Tryz.prog.elem t))) (al : Tryz.prog.arrayLen t=N) (hz:∀ w,(sizeOf (Tryz.prog.elem t)).run Tryz.prog w = .ok 1 w) (hi:i < N) (w:World) :
  (Instr.sliceAt t (.pointer (some ⟨g,0,none⟩)) (some (.int .i64 (i:Int))) none none).run Tryz.prog w = .ok (.slice (some ⟨g,i,none⟩) (N - i) (N - i)) w:=by
 rw [run_sliceAt_array_l w t ⟨g,0,none⟩ ht .i64 i (by omega) (by rw [al];omega),hz,al,Result.andThen_ok]
 unfold slicedAt
 rw [Int.toNat_natCast,if_neg (by omega),abP]
 have e:(⟨g,0,none⟩:Addr).add i=⟨g,i,none⟩:=by
  unfold Addr.add
  by_cases h0:i=0
  ·subst h0;rfl
  ·simp [h0]
 rw [e]
end Go.Proofs.YthdgbgleklkaiaaGreatDoor.Ch
namespace Go.Proofs.YthdgbgleklkaiaaGreatDoor.Ch
open Go.RowKit
theorem zero64 (w:World):(zeroValue 27).run Tryz.prog w = .ok (.agg (arr .u8 (abI 64 0))) w:=by kernel_rfl
theorem VY:(Tryz.prog.info? 27).map (·.size)=some 64:=by kernel_rfl
theorem qZ:(Tryz.prog.info? 25).map (·.size)=some 32:=by kernel_rfl
theorem uR:(Tryz.prog.info? 135).map (·.size)=some 12:=by kernel_rfl
structure Bk (w wr:World) (g h:Nat) (s v:List Int):Prop where
 br:wr.heap[w.heap.size+1+1]? = some (.cells (arr .u8 (abI 64 0)) 27 (0,0))
 bs:wr.heap[g]? = some (.cells (arr .u32 s) 235 (0,0))
 bv:wr.heap[h]? = some (.cells (arr .u32 v) 235 (0,0))
 below:Below w.heap.size w wr
 lt:w.heap.size+1+1 < g
 gh:g < h
theorem Bk.kept {w wr w':World} {g h:Nat} {s v v':List Int} (b:Bk w wr g h s v) (k:Kept (fun x=>x=h) wr w') (hv:w'.heap[h]? = some (.cells (arr .u32 v') 235 (0,0))):Bk w w' g h s v':=by
 have h1:=b.lt
 have h2:=b.gh
 exact ⟨k.blk b.br (by omega),k.blk b.bs (by omega),hv,b.below.trans (k.toBelow b.below.size (by rintro i rfl;omega)),h1,h2⟩
theorem Bk.drew {w wr:World} {g h:Nat} {s v:List Int} (b:Bk w wr g h s v):Bk w wr.drew g h s v:=⟨b.br,b.bs,b.bv,⟨b.below.os,b.below.tape,b.below.output,b.below.size,b.below.block⟩,b.lt,b.gh⟩
theorem Bk.alloc {w wr:World} {g h:Nat} {s v:List Int} (b:Bk w wr g h s v) (o:Obj):Bk w (wr.alloc o) g h s v:=⟨aY b.br o,aY b.bs o,aY b.bv o,b.below.alloc b.below.size o,b.lt,b.gh⟩
theorem Bk.out {w wr:World} {g h:Nat} {s v:List Int} (b:Bk w wr g h s v) (k i:Nat) (u:Value) (hk:h < k):Bk w (wr.setCell ⟨k,i,none⟩ u) g h s v:=by
 have h1:=b.lt
 have h2:=b.gh
 exact ⟨ay b.br _ (by omega),ay b.bs _ (by omega),ay b.bv _ (by omega),b.below.setCell (p:=⟨k,i,none⟩) (by simp;omega) _,h1,h2⟩
theorem out_set (v s:List Int) (i:Nat) (h:i < 64) :
  ((fT v s).take i ++ abI (64 - i) (0:Int)).set i (add (v.getD (i / 4) 0) (s.getD (i / 4) 0) / 2 ^ (8 * (i % 4)) % 256)=(fT v s).take (i+1) ++ abI (64 - (i+1)) 0:=by
 have hl:(fT v s).length=64:=by simp [fT]
 rw [abU _ _ (by simp [hl];omega),show 64 - i=(64 - (i+1))+1 by omega,abV,show i - ((fT v s).take i).length=0 by simp [hl];omega,List.set_cons_zero,gD (fT v s) i 0 (by omega)]
 simp [fT,h]
end Go.Proofs.YthdgbgleklkaiaaGreatDoor.Ch
namespace Go.Proofs.YthdgbgleklkaiaaGreatDoor.Pri
def Pr (p:Nat):Prop:=1 < p∧∀ m,m ∣ p→m=1∨m=p
def pw (n a e:Nat):Nat→Nat
 | 0=>1
 | k+1=>if e / 2 ^ (255 - k) % 2=1 then pw n a e k * pw n a e k % n * a % n else pw n a e k * pw n a e k % n
theorem Wy (n a e:Nat) (he:e < 2 ^ 256):∀ k,k≤256→pw n a e k % n=a ^ (e / 2 ^ (256 - k)) % n
 | 0,_=>by
  rw [Nat.sub_zero,Nat.div_eq_of_lt he]
  rfl
 | k+1,hk=>by
  have ih:=Wy n a e he k (by omega)
  have h1:256 - k=(255 - k)+1:=by omega
  have h2:256 - (k+1)=255 - k:=by omega
  have h3:e / 2 ^ (256 - k)=e / 2 ^ (255 - k) / 2:=by rw [h1,Nat.pow_succ,Nat.div_div_eq_div_mul]
  have h4:pw n a e k * pw n a e k % n=a ^ (e / 2 ^ (255 - k) / 2 * 2) % n:=by
   rw [abD,ih,← abD,h3,← abJ]
   congr 2
   omega
  rw [h2]
  unfold pw
  split
  ·rename_i hb
   rw [abK,abD,h4,abK,← abD,← Nat.pow_succ]
   congr 2
   omega
  ·rename_i hb
   rw [abK,h4]
   congr 2
   omega
theorem yw (n a e:Nat) (he:e < 2 ^ 256):pw n a e 256 % n=a ^ e % n:=by
 rw [Wy n a e he 256 (Nat.le_refl _)]
 simp
theorem Fw:∀ (m d:Nat) (f:Nat→Nat),(∀ i,i < d→f i < m)→(∀ i j,i < j→j < d→f i≠f j)→d≤m
 | 0,d,f,h,_=>by
  rcases abQ d with h0|h0
  ·omega
  ·exact absurd (h 0 h0) (Nat.not_lt_zero _)
 | m+1,d,f,h,hi=>by
  by_cases hx:∃ i,i < d∧f i=m
  ·obtain ⟨i0,h0,e0⟩:=hx
   have:=Fw m (d - 1) (fun i=>if i < i0 then f i else f (i+1)) (fun i hid=>by
    show (if i < i0 then f i else f (i+1)) < m
    split
    ·rename_i hlt
     have a1:=h i (by omega)
     have a2:=hi i i0 hlt h0
     omega
    ·rename_i hlt
     have a1:=h (i+1) (by omega)
     have a2:=hi i0 (i+1) (by omega) (by omega)
     omega) (fun i j hij hj=>by
    show (if i < i0 then f i else f (i+1))≠(if j < i0 then f j else f (j+1))
    split <;> split
    ·exact hi i j hij (by omega)
    ·exact hi i (j+1) (by omega) (by omega)
    ·omega
    ·exact hi (i+1) (j+1) (by omega) (by omega))
   omega
  ·have:=Fw m d f (fun i hid=>by
    have a1:=h i hid
    have a2:f i≠m:=fun e=>hx ⟨i,hid,e⟩
    omega) hi
   omega
def Ord (l a d:Nat):Prop:=0 < d∧a ^ d % l=1∧∀ e,0 < e→e < d→a ^ e % l≠1
theorem ord_ex (l a:Nat):∀ (n:Nat),0 < n→a ^ n % l=1→∃ d,Ord l a d:=by
 intro n
 induction n using Nat.strongRecOn with
 | _ n ih =>
  intro hn h
  by_cases hx:∃ e,0 < e∧e < n∧a ^ e % l=1
  ·obtain ⟨e,e0,e1,e2⟩:=hx
   exact ih e e1 e0 e2
  ·exact ⟨n,hn,h,fun e e0 e1 e2=>hx ⟨e,e0,e1,e2⟩⟩
theorem lQ {l a d:Nat} (hl:1 < l) (h:a ^ d % l=1) (c:Nat):a ^ (d * c) % l=1:=by
 rw [Nat.pow_mul,abR,h,Nat.one_pow,abL hl]
theorem Ord.dvd {l a d n:Nat} (hl:1 < l) (o:Ord l a d) (h:a ^ n % l=1):d ∣ n:=by
 rcases abQ (n % d) with h0|h0
 ·exact abY h0
 ·refine absurd ?_ (o.2.2 (n % d) h0 (abM _ o.1))
  have e1:a ^ n=a ^ (d * (n / d)) * a ^ (n % d):=by rw [← abJ,Nat.div_add_mod]
  rw [e1,abD,lQ hl o.2.1,Nat.one_mul,abK] at h
  exact h
theorem Ord.ne {l a d i j:Nat} (o:Ord l a d) (hij:i < j) (hj:j < d):a ^ i % l≠a ^ j % l:=by
 intro h
 refine o.2.2 (j - i) (by omega) (by omega) ?_
 have e1:a ^ i * a ^ (d - i) % l=1:=by rw [← abJ,show i+(d - i)=d by omega];exact o.2.1
 have e2:a ^ j * a ^ (d - i) % l=a ^ (j - i) % l:=by
  rw [← abJ,show j+(d - i)=d+(j - i) by omega,abJ,abD,o.2.1,Nat.one_mul,abK]
 rw [← e2,abD,← h,← abD,e1]
theorem Ord.pos {l a d:Nat} (hl:1 < l) (o:Ord l a d) (i:Nat):0 < a ^ i % l:=by
 rcases abQ (a ^ i % l) with h|h
 ·have h1:a ^ (d * i) % l=1:=lQ hl o.2.1 i
  have h2:a ^ (d * i)=a ^ i * a ^ ((d - 1) * i):=by
   rw [← abJ]
   congr 1
   have:d=1+(d - 1):=by have:=o.1;omega
   rw [this]
   simp [Nat.add_mul]
  rw [h2,abD,h,Nat.zero_mul,Nat.zero_mod] at h1
  omega
 ·exact h
theorem Ord.le {l a d:Nat} (hl:1 < l) (o:Ord l a d):d≤l - 1 :=
 Fw (l - 1) d (fun i=>a ^ i % l - 1) (fun i _=>by
  show a ^ i % l - 1 < l - 1
  have:=abM (a ^ i) (show l > 0 by omega)
  have:=o.pos hl i
  omega) (fun i j hij hj=>by
  show a ^ i % l - 1≠a ^ j % l - 1
  have:=o.ne hij hj
  have:=o.pos hl i
  have:=o.pos hl j
  omega)
def mul:List Nat→Nat
 | []=>1
 | r :: rs=>r * mul rs
theorem cop {r c:Nat} (hr:Pr r) (h:¬ r ∣ c):Nat.Coprime r c:=by
 rcases hr.2 _ (Nat.gcd_dvd_left r c) with h1|h1
 ·exact h1
 ·exact absurd (h1▸Nat.gcd_dvd_right r c) h
theorem QK {c:Nat}:∀ (rs:List Nat),(∀ r∈rs,Nat.Coprime r c)→Nat.Coprime (mul rs) c
 | [],_=>Nat.gcd_one_left c
 | r :: rs,h=>Nat.Coprime.mul_left (h r (List.mem_cons_self ..)) (QK rs fun x hx=>h x (List.mem_cons_of_mem _ hx))
structure Test (N a:Nat) (rs:List Nat):Prop where
 big:1 < N
 lt:N - 1 < 2 ^ 256
 pr:∀ r∈rs,Pr r
 dv:N - 1=mul rs * ((N - 1) / mul rs)
 one:pw N a (N - 1) 256 % N=1
 gc:∀ r∈rs,Nat.gcd (pw N a ((N - 1) / r) 256 % N+(N - 1)) N=1
theorem Test.ord {N a l:Nat} {rs:List Nat} (T:Test N a rs) (hl:1 < l) (hd:l ∣ N):∃ d,Ord l a d∧mul rs ∣ d:=by
 have hN:0 < N:=by have:=T.big;omega
 have h1:a ^ (N - 1) % l=1:=by
  rw [← acA _ hd,← yw N a _ T.lt,T.one,abL hl]
 obtain ⟨d,o⟩:=ord_ex l a (N - 1) (by have:=T.big;omega) h1
 refine ⟨d,o,?_⟩
 obtain ⟨c,hc⟩:=o.dvd hl h1
 have hcop:Nat.Coprime (mul rs) c:=QK rs fun r hr=>cop (T.pr r hr) fun hrc=>by
  obtain ⟨c',rfl⟩:=hrc
  have hr0:0 < r:=by have:=(T.pr r hr).1;omega
  have e1:(N - 1) / r=d * c':=by
   rw [hc,show d * (r * c')=r * (d * c') by rw [Nat.mul_left_comm],Nat.mul_div_cancel_left _ hr0]
  have e2:pw N a ((N - 1) / r) 256 % N % l=1:=by
   rw [yw N a _ (Nat.lt_of_le_of_lt (Nat.div_le_self _ _) T.lt),acA _ hd,e1]
   exact lQ hl o.2.1 c'
  have e3:l ∣ pw N a ((N - 1) / r) 256 % N+(N - 1):=by
   apply abY
   obtain ⟨k,hk⟩:=hd
   rw [Nat.add_mod,e2,← abL hl,← Nat.add_mod,abL hl,show 1+(N - 1)=N by omega,hk,Nat.mul_mod_right]
  have e4:l ∣ 1:=T.gc r hr▸Nat.dvd_gcd e3 hd
  have:=abS (by decide) e4
  omega
 exact hcop.dvd_of_dvd_mul_right (hc▸⟨_,T.dv⟩)
theorem Test.prime {N a:Nat} {rs:List Nat} (T:Test N a rs) (hF:N < (mul rs+1) * (mul rs+1)):Pr N:=by
 have key:∀ l,1 < l→l ∣ N→l * l≤N→False:=by
  intro l hl hd hs
  obtain ⟨d,o,h⟩:=T.ord hl hd
  have h1:=abS o.1 h
  have h2:=o.le hl
  have h3:mul rs+1≤l:=by omega
  have:=Nat.mul_le_mul h3 h3
  omega
 have hN:0 < N:=by have:=T.big;omega
 refine ⟨T.big,fun m hm=>?_⟩
 obtain ⟨k,hk⟩:=hm
 rcases abN (Nat.one_le_iff_ne_zero.2 (show m≠0 by rintro rfl;simp at hk;omega)) with h|hm1
 ·exact Or.inl h.symm
 rcases abN (Nat.one_le_iff_ne_zero.2 (show k≠0 by rintro rfl;simp at hk;omega)) with h|hk1
 ·right;rw [hk,← h,abP]
 exfalso
 rcases Nat.le_total m k with h|h
 ·exact key m hm1 ⟨k,hk⟩ (by rw [hk];exact acE _ h)
 ·exact key k hk1 ⟨m,by rw [hk,abT]⟩ (by rw [hk];exact acF _ h)
theorem Pr.dvd_mul {p a b:Nat} (h:Pr p) (hd:p ∣ a * b):p ∣ a∨p ∣ b:=by
 by_cases ha:p ∣ a
 ·exact Or.inl ha
 ·exact Or.inr ((cop h ha).dvd_of_dvd_mul_left hd)
theorem Test.vo {N a:Nat} {rs:List Nat} (T:Test N a rs) (hF:mul rs=N - 1) (b:Nat) (hb:b % N≠0):b ^ (N - 1) % N=1:=by
 have hN:=T.big
 obtain ⟨d,o,h⟩:=T.ord T.big (Nat.dvd_refl N)
 rw [hF] at h
 have h1:=abS o.1 h
 have h2:=o.le T.big
 have hd:d=N - 1:=by omega
 subst hd
 by_cases hx:∃ i,i < N - 1∧a ^ i % N=b % N
 ·obtain ⟨i,_,hi⟩:=hx
  rw [abR,← hi,← abR,← Nat.pow_mul,abT]
  exact lQ T.big o.2.1 i
 ·exfalso
  have:=Fw (N - 1) N (fun i=>if i < N - 1 then a ^ i % N - 1 else b % N - 1) (fun i hi=>by
   show (if i < N - 1 then a ^ i % N - 1 else b % N - 1) < N - 1
   have:=abM (a ^ i) (show N > 0 by omega)
   have:=abM b (show N > 0 by omega)
   have:=o.pos T.big i
   split <;> omega) (fun i j hij hj=>by
   show (if i < N - 1 then a ^ i % N - 1 else b % N - 1)≠(if j < N - 1 then a ^ j % N - 1 else b % N - 1)
   rw [if_pos (show i < N - 1 by omega)]
   split
   ·rename_i hjl
    have:=o.ne hij hjl
    have:=o.pos T.big i
    have:=o.pos T.big j
    omega
   ·have:a ^ i % N≠b % N:=fun e=>hx ⟨i,by omega,e⟩
    have:=o.pos T.big i
    omega)
  omega
theorem trial {n k:Nat} (hn:1 < n) (hk:n < k * k) (h:(abO k).all (fun m=>decide (m < 2) || n % m != 0)=true):Pr n:=by
 have key:∀ m,1 < m→m ∣ n→m * m≤n→False:=by
  intro m h1 hd hs
  have hlt:m < k:=by
   rcases Nat.lt_or_ge m k with h2|h2
   ·exact h2
   ·have:=Nat.mul_le_mul h2 h2
    omega
  have:=List.all_eq_true.1 h m (List.mem_range.2 hlt)
  simp only [Bool.or_eq_true,decide_eq_true_eq,bne_iff_ne,ne_eq] at this
  rcases this with h3|h3
  ·omega
  ·exact h3 (Nat.mod_eq_zero_of_dvd hd)
 refine ⟨hn,fun m hm=>?_⟩
 obtain ⟨c,hc⟩:=hm
 rcases abN (Nat.one_le_iff_ne_zero.2 (show m≠0 by rintro rfl;simp at hc;omega)) with h1|hm1
 ·exact Or.inl h1.symm
 rcases abN (Nat.one_le_iff_ne_zero.2 (show c≠0 by rintro rfl;simp at hc;omega)) with h1|hk1
 ·right;rw [hc,← h1,abP]
 exfalso
 rcases Nat.le_total m c with h1|h1
 ·exact key m hm1 ⟨c,hc⟩ (by rw [hc];exact acE _ h1)
 ·exact key c hk1 ⟨m,by rw [hc,abT]⟩ (by rw [hc];exact acF _ h1)
theorem pr2:Pr 2:=trial (k:=2) (by decide) (by decide) (by decide)
theorem pr3:Pr 3:=trial (k:=2) (by decide) (by decide) (by decide)
theorem pr127:Pr 127:=trial (k:=12) (by decide) (by decide) (by decide +kernel)
theorem pr4153:Pr 4153:=trial (k:=65) (by decide) (by decide) (by decide +kernel)
theorem pr65147:Pr 65147:=trial (k:=256) (by decide) (by decide) (by decide +kernel)
theorem WE:Pr 430751:=trial (k:=657) (by decide) (by decide) (by decide +kernel)
theorem WC:Pr 569003:=trial (k:=755) (by decide) (by decide) (by decide +kernel)
theorem SA:Pr 8574133:=trial (k:=2929) (by decide) (by decide) (by decide +kernel)
theorem prG:Pr 2773320623:=Test.prime (a:=5) (rs:=[569003]) ⟨by decide,by decide +kernel,by simpa using WC,by decide +kernel,by decide +kernel,by decide +kernel⟩ (by decide +kernel)
theorem prC:Pr 31757755568855353:=Test.prime (a:=2) (rs:=[4153,430751]) ⟨by decide,by decide +kernel,by simpa using ⟨pr4153,WE⟩,by decide +kernel,by decide +kernel,by decide +kernel⟩ (by decide +kernel)
theorem prE:Pr 1919519569386763:=Test.prime (a:=2) (rs:=[127,8574133]) ⟨by decide,by decide +kernel,by simpa using ⟨pr127,SA⟩,by decide +kernel,by decide +kernel,by decide +kernel⟩ (by decide +kernel)
theorem prD:Pr 72106336199:=Test.prime (a:=2) (rs:=[2773320623]) ⟨by decide,by decide +kernel,by simpa using prG,by decide +kernel,by decide +kernel,by decide +kernel⟩ (by decide +kernel)
theorem prM:Pr 75445702479781427272750846543864801:=Test.prime (a:=2) (rs:=[72106336199,1919519569386763]) ⟨by decide,by decide +kernel,by simpa using ⟨prD,prE⟩,by decide +kernel,by decide +kernel,by decide +kernel⟩ (by decide +kernel)
theorem prB:Pr 74058212732561358302231226437062788676166966415465897661863160754340907:=Test.prime (a:=2) (rs:=[31757755568855353,75445702479781427272750846543864801]) ⟨by decide,by decide +kernel,by simpa using ⟨prC,prM⟩,by decide +kernel,by decide +kernel,by decide +kernel⟩ (by decide +kernel)
def P0:Nat:=57896044618658097711785492504343953926634992332820282019728792003956564819949
def fs:List Nat:=[2,2,3,65147,74058212732561358302231226437062788676166966415465897661863160754340907]
theorem tP:Test P0 2 fs:=⟨by decide +kernel,by decide +kernel,by
 intro r hr
 simp only [fs,List.mem_cons,List.not_mem_nil,or_false] at hr
 rcases hr with rfl|rfl|rfl|rfl|rfl
 ·exact pr2
 ·exact pr2
 ·exact pr3
 ·exact pr65147
 ·exact prB,by decide +kernel,by decide +kernel,by decide +kernel⟩
theorem prP:Pr P0:=tP.prime (by decide +kernel)
theorem vo (b:Nat) (hb:b % P0≠0):b ^ (P0 - 1) % P0=1:=tP.vo (by decide +kernel) b hb
end Go.Proofs.YthdgbgleklkaiaaGreatDoor.Pri
