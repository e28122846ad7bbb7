/- chacha.begin: chacha.Block: The document's Block: Prime numbers by Pocklington's and Lucas' tests. Condition: as each theorem says. -/

import Derived.Test.YthdgbgleklkaiaaDoorQa05
set_option linter.unusedSimpArgs false
set_option linter.unusedVariables false
set_option maxRecDepth 100000
set_option maxHeartbeats 16000000
namespace Go.Proofs.YthdgbgleklkaiaaDoor.Ch
open Go.RowKit
def lay (pre:List Int) (f:Nat→Int) (i n:Nat):List Int:=pre ++ (List.range i).map f ++ List.replicate (n - i) 0
theorem Eo (pre:List Int) (f:Nat→Int) (i n:Nat) (h:i≤n):(lay pre f i n).length=pre.length+n:=by simp [lay];omega
theorem En (pre:List Int) (f:Nat→Int) (i n:Nat) (h:i < n):(lay pre f i n).set (pre.length+i) (f i)=lay pre f (i+1) n:=by
 unfold lay
 rw [List.set_append_right _ _ (by simp),show n - i=(n - (i+1))+1 by omega,List.replicate_succ,List.range_succ]
 simp
theorem GZ (pre:List Int) (f:Nat→Int) (i n:Nat) (g:Nat→Int) (_h:i≤n):lay pre f i n=lay (pre ++ (List.range i).map f) g 0 (n - i):=by simp [lay]
theorem al32 : Tryd.prog.arrayLen 23 = 32:=by kernel_rfl
theorem al12 : Tryd.prog.arrayLen 108 = 12:=by kernel_rfl
theorem Tf (w:World):(zeroValue 143).run Tryd.prog w = .ok (.agg (arr .u32 (List.replicate 16 0))) w:=by kernel_rfl
theorem size16:(Tryd.prog.info? 143).map (·.size)=some 16:=by kernel_rfl
structure Bg (w wr:World) (key aK s:List Int):Prop where
 bk:wr.heap[w.heap.size]? = some (.cells (arr .u8 key) 23 (0,0))
 bn:wr.heap[w.heap.size+1]? = some (.cells (arr .u8 aK) 108 (0,0))
 br:wr.heap[w.heap.size+1+1]? = some (.cells (arr .u32 (List.replicate 16 0)) 143 (0,0))
 bs:wr.heap[w.heap.size+1+1+1]? = some (.cells (arr .u32 s) 143 (0,0))
 below:Below w.heap.size w wr
theorem Bg.drewN {w wr:World} {key aK s:List Int} (h:Bg w wr key aK s) (n:Nat):Bg w (wr.drewN n) key aK s:=⟨h.bk,h.bn,h.br,h.bs,Go.Proofs.YthdgbgleklkaiaaDoor.Below.drewN h.below n⟩
theorem Bg.set {w wr:World} {key aK s:List Int} (h:Bg w wr key aK s) (i:Nat) (x:Int):Bg w (wr.setCell ⟨w.heap.size+1+1+1,i,none⟩ (.int .u32 x)) key aK (s.set i x) :=
 ⟨aB h.bk _ (by omega),aB h.bn _ (by omega),aB h.br _ (by omega),bK h.bs i x,h.below.setCell (p:=⟨w.heap.size+1+1+1,i,none⟩) (by simp;omega) _⟩
theorem Oc (t:TypeId) (N g i:Nat) (ht : Tryd.prog.underlying t=some (.array (Tryd.prog.arrayLen t) (Tryd.prog.elem t))) (al : Tryd.prog.arrayLen t=N) (hz:∀ w,(sizeOf (Tryd.prog.elem t)).run Tryd.prog w = .ok 1 w) (hi:i < N) (w:World) :
  (Instr.sliceAt t (.pointer (some ⟨g,0,none⟩)) (some (.int .i64 (i:Int))) none none).run Tryd.prog w = .ok (.slice (some ⟨g,i,none⟩) (N - i) (N - i)) w:=by
 rw [run_sliceAt_array_l w t ⟨g,0,none⟩ ht .i64 i (by omega) (by rw [al];omega),hz,al,Result.andThen_ok]
 unfold slicedAt
 rw [Int.toNat_natCast,if_neg (by omega),Nat.mul_one]
 have e:(⟨g,0,none⟩:Addr).add i=⟨g,i,none⟩:=by
  unfold Addr.add
  by_cases h0:i=0
  ·subst h0;rfl
  ·simp [h0]
 rw [e]
end Go.Proofs.YthdgbgleklkaiaaDoor.Ch
namespace Go.Proofs.YthdgbgleklkaiaaDoor.Ch
open Go.RowKit
theorem zero64 (w:World):(zeroValue 26).run Tryd.prog w = .ok (.agg (arr .u8 (List.replicate 64 0))) w:=by kernel_rfl
theorem Uh:(Tryd.prog.info? 26).map (·.size)=some 64:=by kernel_rfl
theorem qV:(Tryd.prog.info? 23).map (·.size)=some 32:=by kernel_rfl
theorem uT:(Tryd.prog.info? 108).map (·.size)=some 12:=by kernel_rfl
structure Bk (w wr:World) (g h:Nat) (s v:List Int):Prop where
 br:wr.heap[w.heap.size+1+1]? = some (.cells (arr .u8 (List.replicate 64 0)) 26 (0,0))
 bs:wr.heap[g]? = some (.cells (arr .u32 s) 143 (0,0))
 bv:wr.heap[h]? = some (.cells (arr .u32 v) 143 (0,0))
 below:Below w.heap.size w wr
 lt:w.heap.size+1+1 < g
 gh:g < h
theorem Bk.kept {w wr w':World} {g h:Nat} {s v v':List Int} (b:Bk w wr g h s v) (k:Kept (fun x=>x=h) wr w') (hv:w'.heap[h]? = some (.cells (arr .u32 v') 143 (0,0))):Bk w w' g h s v':=by
 have h1:=b.lt
 have h2:=b.gh
 exact ⟨k.blk b.br (by omega),k.blk b.bs (by omega),hv,b.below.trans (k.toBelow b.below.size (by rintro i rfl;omega)),h1,h2⟩
theorem Bk.drew {w wr:World} {g h:Nat} {s v:List Int} (b:Bk w wr g h s v):Bk w wr.drew g h s v:=⟨b.br,b.bs,b.bv,⟨b.below.os,b.below.tape,b.below.output,b.below.size,b.below.block⟩,b.lt,b.gh⟩
theorem Bk.alloc {w wr:World} {g h:Nat} {s v:List Int} (b:Bk w wr g h s v) (o:Obj):Bk w (wr.alloc o) g h s v:=⟨bf b.br o,bf b.bs o,bf b.bv o,b.below.alloc b.below.size o,b.lt,b.gh⟩
theorem Bk.out {w wr:World} {g h:Nat} {s v:List Int} (b:Bk w wr g h s v) (k i:Nat) (u:Value) (hk:h < k):Bk w (wr.setCell ⟨k,i,none⟩ u) g h s v:=by
 have h1:=b.lt
 have h2:=b.gh
 exact ⟨aB b.br _ (by omega),aB b.bs _ (by omega),aB b.bv _ (by omega),b.below.setCell (p:=⟨k,i,none⟩) (by simp;omega) _,h1,h2⟩
theorem out_set (v s:List Int) (i:Nat) (h:i < 64) :
  ((fC v s).take i ++ List.replicate (64 - i) (0:Int)).set i (add (v.getD (i / 4) 0) (s.getD (i / 4) 0) / 2 ^ (8 * (i % 4)) % 256)=(fC v s).take (i+1) ++ List.replicate (64 - (i+1)) 0:=by
 have hl:(fC v s).length=64:=by simp [fC]
 rw [List.set_append_right _ _ (by simp [hl];omega),show 64 - i=(64 - (i+1))+1 by omega,List.replicate_succ,show i - ((fC v s).take i).length=0 by simp [hl];omega,List.set_cons_zero,iD (fC v s) i 0 (by omega)]
 simp [fC,h]
end Go.Proofs.YthdgbgleklkaiaaDoor.Ch
namespace Go.Proofs.YthdgbgleklkaiaaDoor.Ch
open Go.RowKit
theorem uy (y:Int):IntKind.u8.wrap (bits .and .u32 y 255)=y % 256:=by
 have h2:(BitVec.ofInt 32 (255:Int)).toNat=255:=by decide
 have e:∀ x:Nat,x &&& 255=x % 256:=fun x=>Nat.and_two_pow_sub_one_eq_mod x 8
 show IntKind.u8.wrap (IntKind.u32.wrap ((BitVec.ofInt 32 y &&& BitVec.ofInt 32 (255:Int)).toNat:Int))=_
 rw [BitVec.toNat_and,h2,e,BitVec.toNat_ofInt,IntKind.wrap_u8,IntKind.wrap_u32]
 omega
theorem Mh (c:Int):bits .and .i64 c 4294967295=c % 4294967296:=by
 have h2:(BitVec.ofInt 64 (4294967295:Int)).toNat=4294967295:=by decide
 have e:∀ x:Nat,x &&& 4294967295=x % 4294967296:=fun x=>Nat.and_two_pow_sub_one_eq_mod x 32
 show IntKind.i64.wrap ((BitVec.ofInt 64 c &&& BitVec.ofInt 64 (4294967295:Int)).toNat:Int)=_
 rw [BitVec.toNat_and,h2,e,BitVec.toNat_ofInt,IntKind.wrap_i64]
 omega
theorem gD (p:Nat) (s:List Int) (a b c d:Nat) (ia ib ic id:Int) (w:World) (hp:w.heap[p]? = some (.cells (arr .u32 s) 143 (0,0))) (hl:s.length=16) (ha:a < 16) (hb:b < 16) (hc:c < 16) (hd:d < 16) (ea:ia=a) (eb:ib=b) (ec:ic=c) (ed:id=d) :
  Calls Tryd.prog 98 #[.pointer (some ⟨p,0,none⟩), .int .i64 ia, .int .i64 ib, .int .i64 ic, .int .i64 id] w fun e w'=>e = .returned (.tuple #[])∧w'.heap[p]? = some (.cells (arr .u32 (quarter s a b c d)) 143 (0,0))∧Kept (fun x=>x=p) w w':=by
 subst ea eb ec ed
 exact DT p s a b c d w hp hl ha hb hc hd
theorem dbl (v:List Int):quarter (quarter (quarter (quarter (quarter (quarter (quarter (quarter v 0 4 8 12) 1 5 9 13) 2 6 10 14) 3 7 11 15) 0 5 10 15) 1 6 11 12) 2 7 8 13) 3 4 9 14=diags (Ii v 4) 4:=by simp [Ii,diags,List.range_succ]
theorem Bk.drewN {w wr:World} {g h:Nat} {s v:List Int} (b:Bk w wr g h s v) (n:Nat):Bk w (wr.drewN n) g h s v:=⟨b.br,b.bs,b.bv,⟨b.below.os,b.below.tape,b.below.output,b.below.size,b.below.block⟩,b.lt,b.gh⟩
structure Bo (w wr:World) (key aK s:List Int):Prop where
 bk:wr.heap[w.heap.size]? = some (.cells (arr .u8 key) 23 (0,0))
 bn:wr.heap[w.heap.size+1]? = some (.cells (arr .u8 aK) 108 (0,0))
 br:wr.heap[w.heap.size+1+1]? = some (.cells (arr .u8 (List.replicate 64 0)) 26 (0,0))
 bs:wr.heap[w.heap.size+1+1+1]? = some (.cells (arr .u32 s) 143 (0,0))
 below:Below w.heap.size w wr
theorem Bo.start (w:World) (key aK s:List Int):Bo w ((((w.alloc (.cells (arr .u8 key) 23)).alloc (.cells (arr .u8 aK) 108)).alloc (.cells (arr .u8 (List.replicate 64 0)) 26)).alloc (.cells (arr .u32 s) 143)) key aK s:=by
 have e1:∀ o,(w.alloc o).heap.size=w.heap.size+1:=by simp
 have e2:∀ o p,((w.alloc o).alloc p).heap.size=w.heap.size+1+1:=by simp
 have e3:∀ o p q,(((w.alloc o).alloc p).alloc q).heap.size=w.heap.size+1+1+1:=by simp
 refine ⟨bf (bf (bf (aL w _) _) _) _,?_,?_,?_,((((Below.refl _ w).alloc (Nat.le_refl _) _).alloc (by rw [e1];omega) _).alloc (by rw [e2];omega) _).alloc (by rw [e3];omega) _⟩
 ·rw [← e1]
  exact bf (bf (aL _ _) _) _
 ·rw [← e2]
  exact bf (aL _ _) _
 ·rw [← e3]
  exact aL _ _
theorem Bo.drewN {w wr:World} {key aK s:List Int} (h:Bo w wr key aK s) (n:Nat):Bo w (wr.drewN n) key aK s:=⟨h.bk,h.bn,h.br,h.bs,Go.Proofs.YthdgbgleklkaiaaDoor.Below.drewN h.below n⟩
theorem Bo.set {w wr:World} {key aK s:List Int} (h:Bo w wr key aK s) (i:Nat) (x:Int):Bo w (wr.setCell ⟨w.heap.size+1+1+1,i,none⟩ (.int .u32 x)) key aK (s.set i x) :=
 ⟨aB h.bk _ (by omega),aB h.bn _ (by omega),aB h.br _ (by omega),bK h.bs i x,h.below.setCell (p:=⟨w.heap.size+1+1+1,i,none⟩) (by simp;omega) _⟩
theorem ny (key aK:List Int) (c:Int) (w:World) (hk:key.length=32) (hn:aK.length=12) (bk:bytes key) (bn:bytes aK) :
  Calls Tryd.prog 89 #[.agg (arr .u8 key), .int .i64 c, .agg (arr .u8 aK)] w fun e w'=>e = .returned (.agg (arr .u8 (block key (c % 4294967296) aK)))∧Below w.heap.size w w':=by
 have al:=al32
 have al2:=al12
 have HK:=Lib.hid hk
 have HN:=Lib.hid hn
 have BK:=Lib.hid bk
 have BN:=Lib.hid bn
 obtain ⟨wA,hwA⟩:∃ wA,wA=((((w.alloc (.cells (arr .u8 key) 23)).alloc (.cells (arr .u8 aK) 108)).alloc (.cells (arr .u8 (List.replicate 64 0)) 26)).alloc (.cells (arr .u32 (List.replicate 16 0)) 143)):=⟨_,rfl⟩
 have s0:=Bo.start w key aK (List.replicate 16 0)
 rw [← hwA] at s0
 have y0:=aU s0.bs 0 (by simp)
 have y1:=aU s0.bs 1 (by simp)
 have y2:=aU s0.bs 2 (by simp)
 have y3:=aU s0.bs 3 (by simp)
 have f0:=aC s0.bs 0
 have f1:=aC s0.bs 1
 have f2:=aC s0.bs 2
 have f3:=aC s0.bs 3
 have S0:=Lib.hid ((((s0.set 0 1634760805).set 1 857760878).set 2 2036477234).set 3 1797285236)
 have SB:Hid (((((List.replicate 16 (0:Int)).set 0 1634760805).set 1 857760878).set 2 2036477234).set 3 1797285236=lay [1634760805,857760878,2036477234,1797285236] (fun i=>word key (4 * i)) 0 12):=Lib.hid (by rfl)
 have HWA:=Lib.hid hwA
 have hc:=Mh c
 clear hk hn bk bn hwA s0
 go_enter Tryd.func89, Tryd.ntmps89
 go_wp2_with (first|((with_reducible refine aS 6 ?_);refine aj rfl 26 rfl _ (zero64 _) ?_)|((with_reducible refine aS 7 ?_);refine aj rfl 143 rfl _ (Tf _) ?_;rw [← HWA.out]))
 have s1:=S0.out
 rw [SB.out] at s1
 have S1:=Lib.hid s1
 clear s1 S0 SB HWA y0 y1 y2 y3 f0 f1 f2 f3
 go_loopw [8] (fun i wr=>∃ n:Nat,n≤8∧i = .int .i64 n∧Bo w wr key aK (lay [1634760805,857760878,2036477234,1797285236] (fun i=>word key (4 * i)) n 12)) (fun i _=>8 - (intOf i).toNat)
 case atStart=>exact ⟨0,Nat.zero_le _,rfl,S1.out⟩
 clear S1
 case round =>
 obtain ⟨n,hn8,rfl,hB⟩:=hrel
 by_cases hlt:n < 8
 ·have HB:=Lib.hid hB
  have hsl:=Oc 23 32 w.heap.size (4 * n) (by kernel_rfl) al (fun w=>by kernel_rfl) (by omega)
  rw [show ((4 * n:Nat):Int)=4 * (n:Int) by omega] at hsl
  have hc4:∀ j,j < 4→wr.cell? ⟨w.heap.size,4 * n+j,none⟩=some (.int .u8 (key.getD (4 * n+j) 0)):=fun j hj=>aU hB.bk _ (by rw [HK.out];omega)
  have HC:=Lib.hid hc4
  have hfr:=aC hB.bs (4+n)
  have hce:=aU hB.bs (4+n) (by rw [Eo _ _ _ _ (by omega)];simp;omega)
  clear hB hc4
  go_wp2_with (go_at_call 97; refine (zl w.heap.size (4 * n) (32 - 4 * n) (32 - 4 * n) key (4 * n) wr BK.out (by omega) (HC.out 0 (by omega)) (HC.out 1 (by omega)) (HC.out 2 (by omega)) (HC.out 3 (by omega))).mono ?_;rintro e w' ⟨rfl,k,rfl⟩)
  have hd:=HB.out.drewN k
  have HS:=Lib.hid (hd.set (4+n) (word key (4 * n)))
  have HL:=Lib.hid (En [1634760805,857760878,2036477234,1797285236] (fun i=>word key (4 * i)) n 12 (by omega))
  clear hsl HC hfr hce hd HB
  go_roundw
  case rel =>
   refine ⟨n+1,by omega,by go_num,?_⟩
   rw [← HL.out]
   exact HS.out
  case measure=>simp [intOf];omega
 ·have e8:n=8:=by omega
  rw [e8] at hB
  obtain ⟨pre,hpre⟩:∃ pre,pre=[1634760805,857760878,2036477234,1797285236] ++ (List.range 8).map fun i=>word key (4 * i):=⟨_,rfl⟩
  have hpl:pre.length=12:=by rw [hpre];simp
  obtain ⟨cc,hcc⟩:∃ cc,cc=c % 4294967296:=⟨_,rfl⟩
  have hcb:0≤cc:=by omega
  have hcb2:cc≤4294967295:=by omega
  rw [← hcc] at hc
  rw [GZ _ _ 8 12 (fun _=>cc) (by omega),← hpre] at hB
  have hc12:=aU hB.bs 12 (by rw [Eo _ _ _ _ (by omega)];omega)
  have hf12:=aC hB.bs 12
  have hs12:=En pre (fun _=>cc) 0 4 (by omega)
  rw [hpl,GZ _ _ (0+1) 4 (fun i=>word aK (4 * i)) (by omega)] at hs12
  have hB2:=hB.set 12 cc
  rw [show (12:Nat)=12+0 by rfl,hs12] at hB2
  obtain ⟨JL,OY⟩:∃ JL,JL=pre ++ (List.range (0+1)).map fun _=>cc:=⟨_,rfl⟩
  rw [← OY] at hB2
  have hpl2:JL.length=13:=by rw [OY];simp;omega
  have hend:JL ++ ((List.range 3).map fun i=>word aK (4 * i))=begin key cc aK:=by rw [OY,hpre];rfl
  have HB2:=Lib.hid hB2
  have EZ:=Lib.hid hpl2
  have HE:=Lib.hid hend
  have HCC:=Lib.hid hcc
  clear hB hs12 hB2 hpre OY hpl hpl2 hend e8 hcc
  go_wp2_with fail
  clear hc12 hf12
  generalize Value.bool (decide ((n:Int) < 8))=u20
  go_loopw [9] (fun i wr=>∃ n:Nat,n≤3∧i = .int .i64 n∧Bo w wr key aK (lay JL (fun i=>word aK (4 * i)) n 3)) (fun i _=>3 - (intOf i).toNat)
  case atStart=>exact ⟨0,Nat.zero_le _,rfl,HB2.out⟩
  clear HB2
  case round =>
  obtain ⟨n,hn8,rfl,hB⟩:=hrel
  by_cases hlt:n < 3
  ·have HB:=Lib.hid hB
   have hsl:=Oc 108 12 (w.heap.size+1) (4 * n) (by kernel_rfl) al2 (fun w=>by kernel_rfl) (by omega)
   rw [show ((4 * n:Nat):Int)=4 * (n:Int) by omega] at hsl
   have hc4:∀ j,j < 4→wr.cell? ⟨w.heap.size+1,4 * n+j,none⟩=some (.int .u8 (aK.getD (4 * n+j) 0)):=fun j hj=>aU hB.bn _ (by rw [HN.out];omega)
   have HC:=Lib.hid hc4
   have hfr:=aC hB.bs (13+n)
   have hce:=aU hB.bs (13+n) (by rw [Eo _ _ _ _ (by omega),EZ.out];omega)
   clear hB hc4
   go_wp2_with (go_at_call 97; refine (zl (w.heap.size+1) (4 * n) (12 - 4 * n) (12 - 4 * n) aK (4 * n) wr BN.out (by omega) (HC.out 0 (by omega)) (HC.out 1 (by omega)) (HC.out 2 (by omega)) (HC.out 3 (by omega))).mono ?_;rintro e w' ⟨rfl,k,rfl⟩)
   have hd:=HB.out.drewN k
   have hl:=En JL (fun i=>word aK (4 * i)) n 3 (by omega)
   rw [EZ.out] at hl
   have HS:=Lib.hid (hd.set (13+n) (word aK (4 * n)))
   have HL:=Lib.hid hl
   clear hsl HC hfr hce hd HB hl
   go_roundw
   case rel =>
    refine ⟨n+1,by omega,by go_num,?_⟩
    rw [← HL.out]
    exact HS.out
   case measure=>simp [intOf];omega
  ·have e3:n=3:=by omega
   rw [e3] at hB
   rw [show lay JL (fun i=>word aK (4 * i)) 3 3=begin key cc aK by rw [← HE.out];simp [lay]] at hB
   obtain ⟨s,hs⟩:∃ s,s=begin key cc aK:=⟨_,rfl⟩
   rw [← hs] at hB
   have hsl:s.length=16:=by rw [hs];exact R9 _ _ _
   have hp:((arr .u32 s).toList.drop 0).take s.length=s.map (Value.int .u32):=by rw [List.drop_zero,bQ,List.take_of_length_le (by simp)]
   have z1:(Tryd.prog.info? 143).map (·.size)=some s.length:=by rw [hsl];exact size16
   have z2:(Tryd.prog.info? 143).map (·.size)=some (arr .u32 s).size:=by rw [aF];exact z1
   have z3:(arr .u32 s).size=(arr .u32 (List.replicate 16 0)).size:=by rw [aF,aF,hsl,List.length_replicate]
   have hfin:fC (doubles s 10) s=block key (c % 4294967296) aK:=by rw [hs,HCC.out];rfl
   have HB:=Lib.hid hB
   have HP:=Lib.hid hp
   have Z1:=Lib.hid z1
   have Z2:=Lib.hid z2
   have Z3:=Lib.hid z3
   have HF:=Lib.hid hfin
   have HSL:=Lib.hid hsl
   obtain ⟨w2,hw2⟩:∃ w2,w2=wr:=⟨_,rfl⟩
   rw [← hw2] at HB ⊢
   clear hB hp z1 z2 z3 hs hsl hfin e3 hw2 HE EZ HCC
   go_wp2_with (first|((with_reducible refine aS 45 ?_);refine ak rfl 143 _ rfl (w.heap.size+1+1+1) 0 _ 143 (0,0) _ HB.out.bs rfl .u32 s HP.out Tryd.underlying143 rfl Z1.out ?_)|((with_reducible refine aS 10 ?_);refine aj rfl 143 rfl _ (Tf _) ?_)|((with_reducible show wpList _ _ _ (Oper.mk none (.store _ (.tmp 10) _) _ _ _ _ :: _) _ _);refine ah rfl 143 _ _ rfl w2.heap.size _ _ 143 (aL w2 _) rfl rfl Z3.out Z2.out (av _ _) ?_;intro w3 hb3 hk3 hz3;have HB3:=Lib.hid hb3;have HK3:=Lib.hid hk3;clear hb3 hk3 hz3))
   have hB:Bk w w3 (w.heap.size+1+1+1) w2.heap.size s s:=by
    have h0:=aR HB.out.bs
    refine ⟨HK3.out.blk (bf HB.out.br _) (by omega),HK3.out.blk (bf HB.out.bs _) (by omega),HB3.out,?_,by omega,by omega⟩
    exact HB.out.below.trans (((Below.refl w.heap.size w2).alloc (by omega) _).trans (HK3.out.toBelow (B:=w.heap.size) (by simp;omega) (by rintro i rfl;omega)))
   have HB0:=Lib.hid hB
   clear hB HB3 HK3 HB HP Z1 Z2 Z3
   generalize w2.heap.size=h at HB0 ⊢
   generalize Value.bool (decide ((n:Int) < 3))=u35
   go_loopw [11] (fun i wr=>∃ n:Nat,n≤10∧i = .int .i64 n∧Bk w wr (w.heap.size+1+1+1) h s (doubles s n)) (fun i _=>10 - (intOf i).toNat)
   case atStart=>exact ⟨0,Nat.zero_le _,rfl,HB0.out⟩
   clear HB0
   case round =>
   obtain ⟨m,hm8,rfl,hB⟩:=hrel
   by_cases hltm:m < 10
   ·obtain ⟨v0,hv⟩:∃ v,v=doubles s m:=⟨_,rfl⟩
    rw [← hv] at hB
    have hvl:v0.length=16:=by rw [hv,wN];exact HSL.out
    have HV:=Lib.hid hv
    have L0:=Lib.hid hvl
    have B0:=Lib.hid hB
    obtain ⟨w0,hw0⟩:∃ w0,w0=wr:=⟨_,rfl⟩
    rw [← hw0] at B0 ⊢
    clear hv hvl hB hw0
    obtain ⟨v1,hv1⟩:∃ t,t=quarter v0 0 4 8 12:=⟨_,rfl⟩
    have L1:Hid (v1.length=16):=Lib.hid (by rw [hv1,eD];exact L0.out)
    have V1:=Lib.hid hv1
    clear hv1
    obtain ⟨v2,hv2⟩:∃ t,t=quarter v1 1 5 9 13:=⟨_,rfl⟩
    have L2:Hid (v2.length=16):=Lib.hid (by rw [hv2,eD];exact L1.out)
    have V2:=Lib.hid hv2
    clear hv2
    obtain ⟨v3,hv3⟩:∃ t,t=quarter v2 2 6 10 14:=⟨_,rfl⟩
    have L3:Hid (v3.length=16):=Lib.hid (by rw [hv3,eD];exact L2.out)
    have V3:=Lib.hid hv3
    clear hv3
    obtain ⟨v4,hv4⟩:∃ t,t=quarter v3 3 7 11 15:=⟨_,rfl⟩
    have L4:Hid (v4.length=16):=Lib.hid (by rw [hv4,eD];exact L3.out)
    have V4:=Lib.hid hv4
    clear hv4
    obtain ⟨v5,hv5⟩:∃ t,t=quarter v4 0 5 10 15:=⟨_,rfl⟩
    have L5:Hid (v5.length=16):=Lib.hid (by rw [hv5,eD];exact L4.out)
    have V5:=Lib.hid hv5
    clear hv5
    obtain ⟨v6,hv6⟩:∃ t,t=quarter v5 1 6 11 12:=⟨_,rfl⟩
    have L6:Hid (v6.length=16):=Lib.hid (by rw [hv6,eD];exact L5.out)
    have V6:=Lib.hid hv6
    clear hv6
    obtain ⟨v7,hv7⟩:∃ t,t=quarter v6 2 7 8 13:=⟨_,rfl⟩
    have L7:Hid (v7.length=16):=Lib.hid (by rw [hv7,eD];exact L6.out)
    have V7:=Lib.hid hv7
    clear hv7
    obtain ⟨v8,hv8⟩:∃ t,t=quarter v7 3 4 9 14:=⟨_,rfl⟩
    have L8:Hid (v8.length=16):=Lib.hid (by rw [hv8,eD];exact L7.out)
    have V8:=Lib.hid hv8
    clear hv8
    go_wp2_with (first|((with_reducible show Calls _ _ _ w0 _);go_at_call 98; refine (gD h v0 0 4 8 12 0 4 8 12 w0 B0.out.bv L0.out (by omega) (by omega) (by omega) (by omega) (by rfl) (by rfl) (by rfl) (by rfl)).mono ?_;rintro e w1 ⟨rfl,hb4,hk4⟩;rw [← V1.out] at hb4;have B1:=Lib.hid (B0.out.kept hk4 hb4);clear hb4 hk4)|((with_reducible show Calls _ _ _ w1 _);go_at_call 98; refine (gD h v1 1 5 9 13 1 5 9 13 w1 B1.out.bv L1.out (by omega) (by omega) (by omega) (by omega) (by rfl) (by rfl) (by rfl) (by rfl)).mono ?_;rintro e w2 ⟨rfl,hb4,hk4⟩;rw [← V2.out] at hb4;have B2:=Lib.hid (B1.out.kept hk4 hb4);clear hb4 hk4)|((with_reducible show Calls _ _ _ w2 _);go_at_call 98; refine (gD h v2 2 6 10 14 2 6 10 14 w2 B2.out.bv L2.out (by omega) (by omega) (by omega) (by omega) (by rfl) (by rfl) (by rfl) (by rfl)).mono ?_;rintro e w3 ⟨rfl,hb4,hk4⟩;rw [← V3.out] at hb4;have B3:=Lib.hid (B2.out.kept hk4 hb4);clear hb4 hk4)|((with_reducible show Calls _ _ _ w3 _);go_at_call 98; refine (gD h v3 3 7 11 15 3 7 11 15 w3 B3.out.bv L3.out (by omega) (by omega) (by omega) (by omega) (by rfl) (by rfl) (by rfl) (by rfl)).mono ?_;rintro e w4 ⟨rfl,hb4,hk4⟩;rw [← V4.out] at hb4;have B4:=Lib.hid (B3.out.kept hk4 hb4);clear hb4 hk4)|((with_reducible show Calls _ _ _ w4 _);go_at_call 98; refine (gD h v4 0 5 10 15 0 5 10 15 w4 B4.out.bv L4.out (by omega) (by omega) (by omega) (by omega) (by rfl) (by rfl) (by rfl) (by rfl)).mono ?_;rintro e w5 ⟨rfl,hb4,hk4⟩;rw [← V5.out] at hb4;have B5:=Lib.hid (B4.out.kept hk4 hb4);clear hb4 hk4)|((with_reducible show Calls _ _ _ w5 _);go_at_call 98; refine (gD h v5 1 6 11 12 1 6 11 12 w5 B5.out.bv L5.out (by omega) (by omega) (by omega) (by omega) (by rfl) (by rfl) (by rfl) (by rfl)).mono ?_;rintro e w6 ⟨rfl,hb4,hk4⟩;rw [← V6.out] at hb4;have B6:=Lib.hid (B5.out.kept hk4 hb4);clear hb4 hk4)|((with_reducible show Calls _ _ _ w6 _);go_at_call 98; refine (gD h v6 2 7 8 13 2 7 8 13 w6 B6.out.bv L6.out (by omega) (by omega) (by omega) (by omega) (by rfl) (by rfl) (by rfl) (by rfl)).mono ?_;rintro e w7 ⟨rfl,hb4,hk4⟩;rw [← V7.out] at hb4;have B7:=Lib.hid (B6.out.kept hk4 hb4);clear hb4 hk4)|((with_reducible show Calls _ _ _ w7 _);go_at_call 98; refine (gD h v7 3 4 9 14 3 4 9 14 w7 B7.out.bv L7.out (by omega) (by omega) (by omega) (by omega) (by rfl) (by rfl) (by rfl) (by rfl)).mono ?_;rintro e w8 ⟨rfl,hb4,hk4⟩;rw [← V8.out] at hb4;have B8:=Lib.hid (B7.out.kept hk4 hb4);clear hb4 hk4))
    have gu:Hid (Bk w w8 (w.heap.size+1+1+1) h s (doubles s (m+1))):=Lib.hid (by rw [uh,← HV.out,← dbl,← V1.out,← V2.out,← V3.out,← V4.out,← V5.out,← V6.out,← V7.out,← V8.out];exact B8.out)
    clear B0 B1 B2 B3 B4 B5 B6 B7 B8
    go_roundw
    case rel=>exact ⟨m+1,by omega,by go_num,gu.out⟩
    case measure=>simp [intOf];omega
   ·have e4:m=10:=by omega
    rw [e4] at hB
    obtain ⟨v,hv⟩:∃ v,v=doubles s 10:=⟨_,rfl⟩
    have hvl:v.length=16:=by rw [hv,wN];exact HSL.out
    rw [← hv] at hB
    have hfin:=HF.out
    rw [← hv] at hfin
    have HF2:=Lib.hid hfin
    have FZ:=Lib.hid hvl
    have gu:=Lib.hid (hB.alloc (.cells (arr .u8 (List.replicate 64 0)) 26))
    have HX:Hid ((wr.alloc (.cells (arr .u8 (List.replicate 64 0)) 26)).heap[wr.heap.size]? = some (.cells (arr .u8 ((fC v s).take 0 ++ List.replicate (64 - 0) 0)) 26 (0,0))):=Lib.hid (aL _ _)
    have og:Hid (h < wr.heap.size):=Lib.hid (aR hB.bv)
    clear hv hvl hB hfin HF e4
    go_wp2_with ((with_reducible refine aS 12 ?_);refine aj rfl 26 rfl _ (zero64 _) ?_)
    obtain ⟨q,hq⟩:∃ q,q=wr.heap.size:=⟨_,rfl⟩
    rw [← hq] at HX og ⊢
    clear hq
    generalize Value.bool (decide ((m:Int) < 10))=u47
    go_loopw [13] (fun i wr=>∃ i9:Nat,i9≤64∧i = .int .i64 i9∧wr.heap[q]? = some (.cells (arr .u8 ((fC v s).take i9 ++ List.replicate (64 - i9) 0)) 26 (0,0))∧Bk w wr (w.heap.size+1+1+1) h s v) (fun i _=>64 - (intOf i).toNat)
    case atStart=>exact ⟨0,Nat.zero_le _,rfl,HX.out,gu.out⟩
    clear HX gu
    case round =>
    obtain ⟨i9,hi9,rfl,hb,hB⟩:=hrel
    have hbl:(fC v s).length=64:=by simp [fC]
    by_cases Kl:i9 < 64
    ·have y0:=aU hB.bv (i9 / 4) (by rw [FZ.out];omega)
     have y1:=aU hB.bs (i9 / 4) (by rw [HSL.out];omega)
     have y2:=aC hb i9
     have y3:=aU hb i9 (by simp [hbl];omega)
     have G1:Hid (∀ k u,u=add (v.getD (i9 / 4) 0) (s.getD (i9 / 4) 0) / 2 ^ (8 * (i9 % 4)) % 256→((wr.drewN k).setCell ⟨q,i9,none⟩ (.int .u8 u)).heap[q]? = some (.cells (arr .u8 ((fC v s).take (i9+1) ++ List.replicate (64 - (i9+1)) 0)) 26 (0,0))):=Lib.hid (by
      rintro k u rfl
      have hb:(wr.drewN k).heap[q]? = some (.cells (arr .u8 ((fC v s).take i9 ++ List.replicate (64 - i9) 0)) 26 (0,0)):=hb
      rw [bK hb,out_set v s i9 Kl])
     have EW:=Lib.hid (fun k u=>(hB.drewN k).out q i9 u og.out)
     have e1:(8 * ((i9:Int) % 4)).toNat=8 * (i9 % 4):=by omega
     have e2:0≤8 * ((i9:Int) % 4):=by omega
     have e3:8 * ((i9:Int) % 4)≤24:=by omega
     clear hb hB hbl
     generalize v.getD (i9 / 4) 0=x at y0 G1
     generalize s.getD (i9 / 4) 0=y at y1 G1
     go_wp2_with fail
     go_quiet (fail)
     have y4:(wr.drewN nq).frozen? ⟨q,i9,none⟩=false:=y2
     have y5:=(show (wr.drewN nq).cell? ⟨q,i9,none⟩=wr.cell? ⟨q,i9,none⟩ from rfl).trans y3
     go_wp2_with fail
     clear e1 e2 e3 y0 y1 y2 y3 y4 y5
     go_roundw
     case rel=>exact ⟨i9+1,by omega,by go_num,G1.out _ _ (uy _),EW.out _ _⟩
     case measure=>simp [intOf];omega
    ·have e9:i9=64:=by omega
     rw [e9,Nat.sub_self,List.replicate_zero,List.append_nil,List.take_of_length_le (by omega)] at hb
     obtain ⟨bb,hbb⟩:∃ bb,bb=fC v s:=⟨_,rfl⟩
     rw [← hbb] at hb hbl
     have z1:(Tryd.prog.info? 26).map (·.size)=some bb.length:=by rw [hbl];exact Uh
     have z2:(Tryd.prog.info? 26).map (·.size)=some (arr .u8 bb).size:=by rw [aF];exact z1
     have z3:(arr .u8 bb).size=(arr .u8 (List.replicate 64 0)).size:=by rw [aF,aF,hbl,List.length_replicate]
     have z4:((arr .u8 bb).toList.drop 0).take bb.length=bb.map (Value.int .u8):=by rw [bQ,List.drop_zero,List.take_of_length_le (by simp)]
     have HB:=Lib.hid hb
     have oD:=Lib.hid hbb
     have F4:=Lib.hid hB
     have ZZ1:=Lib.hid z1
     have ZZ2:=Lib.hid z2
     have ZZ3:=Lib.hid z3
     have ZZ4:=Lib.hid z4
     clear hb hB z1 z2 z3 z4 e9 hbb hbl
     go_wp2_with (first|((with_reducible refine aS 81 ?_);refine ak rfl 26 _ rfl q 0 _ 26 (0,0) _ HB.out rfl .u8 bb ZZ4.out Tryd.underlying26 rfl ZZ1.out ?_)|((with_reducible show wpList _ _ _ (Oper.mk none _ _ _ _ _ :: _) _ _);refine ah rfl 26 _ _ rfl (w.heap.size+1+1) _ _ 26 F4.out.br rfl rfl ZZ3.out ZZ2.out (av _ _) ?_;intro w7 dV iA kZ;have eX:=Lib.hid dV;have HK7:=Lib.hid iA;clear dV iA kZ))
     (try simp only [Exit.inBlock,Exit.then])
     refine bodyPost_ret (results_cell_row rfl _ _ (w.heap.size+1+1) 26 _ (0,0) _ rfl eX.out Tryd.underlying26 rfl ZZ2.out) rfl ?_
     rw [oD.out,HF2.out]
     exact ⟨rfl,F4.out.below.trans (HK7.out.toBelow F4.out.below.size (by rintro i rfl;omega))⟩
end Go.Proofs.YthdgbgleklkaiaaDoor.Ch
namespace Go.Proofs.YthdgbgleklkaiaaDoor.Pri
def Pr (p:Nat):Prop:=1 < p∧∀ m,m ∣ p→m=1∨m=p
def pw (n a e:Nat):Nat→Nat
 | 0=>1
 | k+1=>if e / 2 ^ (255 - k) % 2=1 then pw n a e k * pw n a e k % n * a % n else pw n a e k * pw n a e k % n
theorem Uz (n a e:Nat) (he:e < 2 ^ 256):∀ k,k≤256→pw n a e k % n=a ^ (e / 2 ^ (256 - k)) % n
 | 0,_=>by
  rw [Nat.sub_zero,Nat.div_eq_of_lt he]
  rfl
 | k+1,hk=>by
  have ih:=Uz n a e he k (by omega)
  have h1:256 - k=(255 - k)+1:=by omega
  have h2:256 - (k+1)=255 - k:=by omega
  have h3:e / 2 ^ (256 - k)=e / 2 ^ (255 - k) / 2:=by rw [h1,Nat.pow_succ,Nat.div_div_eq_div_mul]
  have h4:pw n a e k * pw n a e k % n=a ^ (e / 2 ^ (255 - k) / 2 * 2) % n:=by
   rw [Nat.mul_mod,ih,← Nat.mul_mod,h3,← Nat.pow_add]
   congr 2
   omega
  rw [h2]
  unfold pw
  split
  ·rename_i hb
   rw [Nat.mod_mod,Nat.mul_mod,h4,Nat.mod_mod,← Nat.mul_mod,← Nat.pow_succ]
   congr 2
   omega
  ·rename_i hb
   rw [Nat.mod_mod,h4]
   congr 2
   omega
theorem xO (n a e:Nat) (he:e < 2 ^ 256):pw n a e 256 % n=a ^ e % n:=by
 rw [Uz n a e he 256 (Nat.le_refl _)]
 simp
theorem D5:∀ (m d:Nat) (f:Nat→Nat),(∀ i,i < d→f i < m)→(∀ i j,i < j→j < d→f i≠f j)→d≤m
 | 0,d,f,h,_=>by
  rcases Nat.eq_zero_or_pos d with h0|h0
  ·omega
  ·exact absurd (h 0 h0) (Nat.not_lt_zero _)
 | m+1,d,f,h,hi=>by
  by_cases hx:∃ i,i < d∧f i=m
  ·obtain ⟨i0,h0,e0⟩:=hx
   have:=D5 m (d - 1) (fun i=>if i < i0 then f i else f (i+1)) (fun i hid=>by
    show (if i < i0 then f i else f (i+1)) < m
    split
    ·rename_i hlt
     have a1:=h i (by omega)
     have a2:=hi i i0 hlt h0
     omega
    ·rename_i hlt
     have a1:=h (i+1) (by omega)
     have a2:=hi i0 (i+1) (by omega) (by omega)
     omega) (fun i j hij hj=>by
    show (if i < i0 then f i else f (i+1))≠(if j < i0 then f j else f (j+1))
    split <;> split
    ·exact hi i j hij (by omega)
    ·exact hi i (j+1) (by omega) (by omega)
    ·omega
    ·exact hi (i+1) (j+1) (by omega) (by omega))
   omega
  ·have:=D5 m d f (fun i hid=>by
    have a1:=h i hid
    have a2:f i≠m:=fun e=>hx ⟨i,hid,e⟩
    omega) hi
   omega
def Ord (l a d:Nat):Prop:=0 < d∧a ^ d % l=1∧∀ e,0 < e→e < d→a ^ e % l≠1
theorem ord_ex (l a:Nat):∀ (n:Nat),0 < n→a ^ n % l=1→∃ d,Ord l a d:=by
 intro n
 induction n using Nat.strongRecOn with
 | _ n ih =>
  intro hn h
  by_cases hx:∃ e,0 < e∧e < n∧a ^ e % l=1
  ·obtain ⟨e,e0,e1,e2⟩:=hx
   exact ih e e1 e0 e2
  ·exact ⟨n,hn,h,fun e e0 e1 e2=>hx ⟨e,e0,e1,e2⟩⟩
theorem lI {l a d:Nat} (hl:1 < l) (h:a ^ d % l=1) (c:Nat):a ^ (d * c) % l=1:=by
 rw [Nat.pow_mul,Nat.pow_mod,h,Nat.one_pow,Nat.mod_eq_of_lt hl]
theorem Ord.dvd {l a d n:Nat} (hl:1 < l) (o:Ord l a d) (h:a ^ n % l=1):d ∣ n:=by
 rcases Nat.eq_zero_or_pos (n % d) with h0|h0
 ·exact Nat.dvd_of_mod_eq_zero h0
 ·refine absurd ?_ (o.2.2 (n % d) h0 (Nat.mod_lt _ o.1))
  have e1:a ^ n=a ^ (d * (n / d)) * a ^ (n % d):=by rw [← Nat.pow_add,Nat.div_add_mod]
  rw [e1,Nat.mul_mod,lI hl o.2.1,Nat.one_mul,Nat.mod_mod] at h
  exact h
theorem Ord.ne {l a d i j:Nat} (o:Ord l a d) (hij:i < j) (hj:j < d):a ^ i % l≠a ^ j % l:=by
 intro h
 refine o.2.2 (j - i) (by omega) (by omega) ?_
 have e1:a ^ i * a ^ (d - i) % l=1:=by rw [← Nat.pow_add,show i+(d - i)=d by omega];exact o.2.1
 have e2:a ^ j * a ^ (d - i) % l=a ^ (j - i) % l:=by
  rw [← Nat.pow_add,show j+(d - i)=d+(j - i) by omega,Nat.pow_add,Nat.mul_mod,o.2.1,Nat.one_mul,Nat.mod_mod]
 rw [← e2,Nat.mul_mod,← h,← Nat.mul_mod,e1]
theorem Ord.pos {l a d:Nat} (hl:1 < l) (o:Ord l a d) (i:Nat):0 < a ^ i % l:=by
 rcases Nat.eq_zero_or_pos (a ^ i % l) with h|h
 ·have h1:a ^ (d * i) % l=1:=lI hl o.2.1 i
  have h2:a ^ (d * i)=a ^ i * a ^ ((d - 1) * i):=by
   rw [← Nat.pow_add]
   congr 1
   have:d=1+(d - 1):=by have:=o.1;omega
   rw [this]
   simp [Nat.add_mul]
  rw [h2,Nat.mul_mod,h,Nat.zero_mul,Nat.zero_mod] at h1
  omega
 ·exact h
theorem Ord.le {l a d:Nat} (hl:1 < l) (o:Ord l a d):d≤l - 1 :=
 D5 (l - 1) d (fun i=>a ^ i % l - 1) (fun i _=>by
  show a ^ i % l - 1 < l - 1
  have:=Nat.mod_lt (a ^ i) (show l > 0 by omega)
  have:=o.pos hl i
  omega) (fun i j hij hj=>by
  show a ^ i % l - 1≠a ^ j % l - 1
  have:=o.ne hij hj
  have:=o.pos hl i
  have:=o.pos hl j
  omega)
def mul:List Nat→Nat
 | []=>1
 | r :: rs=>r * mul rs
theorem cop {r c:Nat} (hr:Pr r) (h:¬ r ∣ c):Nat.Coprime r c:=by
 rcases hr.2 _ (Nat.gcd_dvd_left r c) with h1|h1
 ·exact h1
 ·exact absurd (h1▸Nat.gcd_dvd_right r c) h
theorem O9 {c:Nat}:∀ (rs:List Nat),(∀ r∈rs,Nat.Coprime r c)→Nat.Coprime (mul rs) c
 | [],_=>Nat.gcd_one_left c
 | r :: rs,h=>Nat.Coprime.mul_left (h r (List.mem_cons_self ..)) (O9 rs fun x hx=>h x (List.mem_cons_of_mem _ hx))
structure Test (N a:Nat) (rs:List Nat):Prop where
 big:1 < N
 lt:N - 1 < 2 ^ 256
 pr:∀ r∈rs,Pr r
 dv:N - 1=mul rs * ((N - 1) / mul rs)
 one:pw N a (N - 1) 256 % N=1
 gc:∀ r∈rs,Nat.gcd (pw N a ((N - 1) / r) 256 % N+(N - 1)) N=1
theorem Test.ord {N a l:Nat} {rs:List Nat} (T:Test N a rs) (hl:1 < l) (hd:l ∣ N):∃ d,Ord l a d∧mul rs ∣ d:=by
 have hN:0 < N:=by have:=T.big;omega
 have h1:a ^ (N - 1) % l=1:=by
  rw [← Nat.mod_mod_of_dvd _ hd,← xO N a _ T.lt,T.one,Nat.mod_eq_of_lt hl]
 obtain ⟨d,o⟩:=ord_ex l a (N - 1) (by have:=T.big;omega) h1
 refine ⟨d,o,?_⟩
 obtain ⟨c,hc⟩:=o.dvd hl h1
 have hcop:Nat.Coprime (mul rs) c:=O9 rs fun r hr=>cop (T.pr r hr) fun hrc=>by
  obtain ⟨c',rfl⟩:=hrc
  have hr0:0 < r:=by have:=(T.pr r hr).1;omega
  have e1:(N - 1) / r=d * c':=by
   rw [hc,show d * (r * c')=r * (d * c') by rw [Nat.mul_left_comm],Nat.mul_div_cancel_left _ hr0]
  have e2:pw N a ((N - 1) / r) 256 % N % l=1:=by
   rw [xO N a _ (Nat.lt_of_le_of_lt (Nat.div_le_self _ _) T.lt),Nat.mod_mod_of_dvd _ hd,e1]
   exact lI hl o.2.1 c'
  have e3:l ∣ pw N a ((N - 1) / r) 256 % N+(N - 1):=by
   apply Nat.dvd_of_mod_eq_zero
   obtain ⟨k,hk⟩:=hd
   rw [Nat.add_mod,e2,← Nat.mod_eq_of_lt hl,← Nat.add_mod,Nat.mod_eq_of_lt hl,show 1+(N - 1)=N by omega,hk,Nat.mul_mod_right]
  have e4:l ∣ 1:=T.gc r hr▸Nat.dvd_gcd e3 hd
  have:=Nat.le_of_dvd (by decide) e4
  omega
 exact hcop.dvd_of_dvd_mul_right (hc▸⟨_,T.dv⟩)
theorem Test.prime {N a:Nat} {rs:List Nat} (T:Test N a rs) (hF:N < (mul rs+1) * (mul rs+1)):Pr N:=by
 have key:∀ l,1 < l→l ∣ N→l * l≤N→False:=by
  intro l hl hd hs
  obtain ⟨d,o,h⟩:=T.ord hl hd
  have h1:=Nat.le_of_dvd o.1 h
  have h2:=o.le hl
  have h3:mul rs+1≤l:=by omega
  have:=Nat.mul_le_mul h3 h3
  omega
 have hN:0 < N:=by have:=T.big;omega
 refine ⟨T.big,fun m hm=>?_⟩
 obtain ⟨k,hk⟩:=hm
 rcases Nat.eq_or_lt_of_le (Nat.one_le_iff_ne_zero.2 (show m≠0 by rintro rfl;simp at hk;omega)) with h|hm1
 ·exact Or.inl h.symm
 rcases Nat.eq_or_lt_of_le (Nat.one_le_iff_ne_zero.2 (show k≠0 by rintro rfl;simp at hk;omega)) with h|hk1
 ·right;rw [hk,← h,Nat.mul_one]
 exfalso
 rcases Nat.le_total m k with h|h
 ·exact key m hm1 ⟨k,hk⟩ (by rw [hk];exact Nat.mul_le_mul_left _ h)
 ·exact key k hk1 ⟨m,by rw [hk,Nat.mul_comm]⟩ (by rw [hk];exact Nat.mul_le_mul_right _ h)
theorem Pr.dvd_mul {p a b:Nat} (h:Pr p) (hd:p ∣ a * b):p ∣ a∨p ∣ b:=by
 by_cases ha:p ∣ a
 ·exact Or.inl ha
 ·exact Or.inr ((cop h ha).dvd_of_dvd_mul_left hd)
theorem Test.u7 {N a:Nat} {rs:List Nat} (T:Test N a rs) (hF:mul rs=N - 1) (b:Nat) (hb:b % N≠0):b ^ (N - 1) % N=1:=by
 have hN:=T.big
 obtain ⟨d,o,h⟩:=T.ord T.big (Nat.dvd_refl N)
 rw [hF] at h
 have h1:=Nat.le_of_dvd o.1 h
 have h2:=o.le T.big
 have hd:d=N - 1:=by omega
 subst hd
 by_cases hx:∃ i,i < N - 1∧a ^ i % N=b % N
 ·obtain ⟨i,_,hi⟩:=hx
  rw [Nat.pow_mod,← hi,← Nat.pow_mod,← Nat.pow_mul,Nat.mul_comm]
  exact lI T.big o.2.1 i
 ·exfalso
  have:=D5 (N - 1) N (fun i=>if i < N - 1 then a ^ i % N - 1 else b % N - 1) (fun i hi=>by
   show (if i < N - 1 then a ^ i % N - 1 else b % N - 1) < N - 1
   have:=Nat.mod_lt (a ^ i) (show N > 0 by omega)
   have:=Nat.mod_lt b (show N > 0 by omega)
   have:=o.pos T.big i
   split <;> omega) (fun i j hij hj=>by
   show (if i < N - 1 then a ^ i % N - 1 else b % N - 1)≠(if j < N - 1 then a ^ j % N - 1 else b % N - 1)
   rw [if_pos (show i < N - 1 by omega)]
   split
   ·rename_i hjl
    have:=o.ne hij hjl
    have:=o.pos T.big i
    have:=o.pos T.big j
    omega
   ·have:a ^ i % N≠b % N:=fun e=>hx ⟨i,by omega,e⟩
    have:=o.pos T.big i
    omega)
  omega
theorem trial {n k:Nat} (hn:1 < n) (hk:n < k * k) (h:(List.range k).all (fun m=>decide (m < 2) || n % m != 0)=true):Pr n:=by
 have key:∀ m,1 < m→m ∣ n→m * m≤n→False:=by
  intro m h1 hd hs
  have hlt:m < k:=by
   rcases Nat.lt_or_ge m k with h2|h2
   ·exact h2
   ·have:=Nat.mul_le_mul h2 h2
    omega
  have:=List.all_eq_true.1 h m (List.mem_range.2 hlt)
  simp only [Bool.or_eq_true,decide_eq_true_eq,bne_iff_ne,ne_eq] at this
  rcases this with h3|h3
  ·omega
  ·exact h3 (Nat.mod_eq_zero_of_dvd hd)
 refine ⟨hn,fun m hm=>?_⟩
 obtain ⟨c,hc⟩:=hm
 rcases Nat.eq_or_lt_of_le (Nat.one_le_iff_ne_zero.2 (show m≠0 by rintro rfl;simp at hc;omega)) with h1|hm1
 ·exact Or.inl h1.symm
 rcases Nat.eq_or_lt_of_le (Nat.one_le_iff_ne_zero.2 (show c≠0 by rintro rfl;simp at hc;omega)) with h1|hk1
 ·right;rw [hc,← h1,Nat.mul_one]
 exfalso
 rcases Nat.le_total m c with h1|h1
 ·exact key m hm1 ⟨c,hc⟩ (by rw [hc];exact Nat.mul_le_mul_left _ h1)
 ·exact key c hk1 ⟨m,by rw [hc,Nat.mul_comm]⟩ (by rw [hc];exact Nat.mul_le_mul_right _ h1)
theorem pr2:Pr 2:=trial (k:=2) (by decide) (by decide) (by decide)
theorem pr3:Pr 3:=trial (k:=2) (by decide) (by decide) (by decide)
theorem pr127:Pr 127:=trial (k:=12) (by decide) (by decide) (by decide +kernel)
theorem pr4153:Pr 4153:=trial (k:=65) (by decide) (by decide) (by decide +kernel)
theorem pr65147:Pr 65147:=trial (k:=256) (by decide) (by decide) (by decide +kernel)
theorem UG:Pr 430751:=trial (k:=657) (by decide) (by decide) (by decide +kernel)
theorem UF:Pr 569003:=trial (k:=755) (by decide) (by decide) (by decide +kernel)
theorem QK:Pr 8574133:=trial (k:=2929) (by decide) (by decide) (by decide +kernel)
theorem prG:Pr 2773320623:=Test.prime (a:=5) (rs:=[569003]) ⟨by decide,by decide +kernel,by simpa using UF,by decide +kernel,by decide +kernel,by decide +kernel⟩ (by decide +kernel)
theorem prC:Pr 31757755568855353:=Test.prime (a:=2) (rs:=[4153,430751]) ⟨by decide,by decide +kernel,by simpa using ⟨pr4153,UG⟩,by decide +kernel,by decide +kernel,by decide +kernel⟩ (by decide +kernel)
theorem prE:Pr 1919519569386763:=Test.prime (a:=2) (rs:=[127,8574133]) ⟨by decide,by decide +kernel,by simpa using ⟨pr127,QK⟩,by decide +kernel,by decide +kernel,by decide +kernel⟩ (by decide +kernel)
theorem prD:Pr 72106336199:=Test.prime (a:=2) (rs:=[2773320623]) ⟨by decide,by decide +kernel,by simpa using prG,by decide +kernel,by decide +kernel,by decide +kernel⟩ (by decide +kernel)
theorem prM:Pr 75445702479781427272750846543864801:=Test.prime (a:=2) (rs:=[72106336199,1919519569386763]) ⟨by decide,by decide +kernel,by simpa using ⟨prD,prE⟩,by decide +kernel,by decide +kernel,by decide +kernel⟩ (by decide +kernel)
theorem prB:Pr 74058212732561358302231226437062788676166966415465897661863160754340907:=Test.prime (a:=2) (rs:=[31757755568855353,75445702479781427272750846543864801]) ⟨by decide,by decide +kernel,by simpa using ⟨prC,prM⟩,by decide +kernel,by decide +kernel,by decide +kernel⟩ (by decide +kernel)
def P0:Nat:=57896044618658097711785492504343953926634992332820282019728792003956564819949
def fs:List Nat:=[2,2,3,65147,74058212732561358302231226437062788676166966415465897661863160754340907]
theorem tP:Test P0 2 fs:=⟨by decide +kernel,by decide +kernel,by
 intro r hr
 simp only [fs,List.mem_cons,List.not_mem_nil,or_false] at hr
 rcases hr with rfl|rfl|rfl|rfl|rfl
 ·exact pr2
 ·exact pr2
 ·exact pr3
 ·exact pr65147
 ·exact prB,by decide +kernel,by decide +kernel,by decide +kernel⟩
theorem prP:Pr P0:=tP.prime (by decide +kernel)
theorem u7 (b:Nat) (hb:b % P0≠0):b ^ (P0 - 1) % P0=1:=tP.u7 (by decide +kernel) b hb
end Go.Proofs.YthdgbgleklkaiaaDoor.Pri
