/- scalar.order, reduce: what they answer. Condition: at most eight limbs. scalar.Less, Mul: what they answer. Condition: 32 bytes each. scalar.Add, Reduce: what they answer. Condition: 32 bytes each; 64 bytes. scalar.Reduce: what it answers. Condition: 64 bytes. -/
import Derived.Test.YtodnkallpfkdiaaDoorFa
import Derived.Test.YtodnkallpfkdiaaDoorMa
set_option maxRecDepth 100000
set_option maxHeartbeats 16000000
set_option linter.unusedSimpArgs false
set_option linter.unusedVariables false
namespace Go.Proofs.YtodnkallpfkdiaaDoor.Sl
open Go.RowKit Lm Fp Sc
theorem q_lt4:q < 18446744073709551616 ^ 4:=by decide +kernel
theorem ev_lt (P:Nat) (h:P < q):2 * P+1 < 18446744073709551616 ^ 4:=by
 have:=q_lt
 omega
theorem order_any (w:World):Calls Tryd.prog 137 #[] w fun e w'=>∃ zs,e = .returned (.agg (arr .u64 zs))∧N4 zs q∧Below w.heap.size w w':=by
 have hn:=n4_of q q_lt4
 obtain ⟨ps,hps⟩:∃ x,x=nar (dig 18446744073709551616 4 q):=⟨_,rfl⟩
 rw [← hps] at hn
 have HBL:Hid (∀ w,(Instr.build 131 #[(0, .int .u64 6346243789798364141),(1, .int .u64 1503914060200516822),(2, .int .u64 0),(3, .int .u64 1152921504606846976)]).run Tryd.prog w = .ok (.agg (arr .u64 ps)) w):=Lib.hid (fun w=>by rw [hps];kernel_rfl)
 have HPL:=Lib.hid hn.len
 have HN:=Lib.hid hn
 obtain ⟨zl,hzl⟩:∃ zs:List Int,zs=List.replicate 4 0:=⟨_,rfl⟩
 have HZzl:Hid (∀ w,(zeroValue 131).run Tryd.prog w = .ok (.agg (arr .u64 zl)) w):=Lib.hid (by intro w;rw [hzl];exact zero_lim w)
 have HLzl:Hid (zl.length=4):=Lib.hid (by rw [hzl];rfl)
 have HS0:=Lib.hid (Blk.one w (arr .u64 zl) 131)
 clear hzl hps hn
 go_enter Tryd.func137, Tryd.ntmps137
 go_wp2_with (first|((with_reducible refine aS 0 ?_);refine wpList_alloc_row rfl 131 rfl _ (HZzl.out _) ?_)|((with_reducible refine aS 1 ?_);refine wpList_build (by rfl) 131 _ rfl #[(0, .int .u64 6346243789798364141),(1, .int .u64 1503914060200516822),(2, .int .u64 0),(3, .int .u64 1152921504606846976)] rfl _ (HBL.out _) ?_)|((with_reducible refine aT 0 ?_);refine wpList_store_whole rfl 131 _ _ rfl (w.heap.size) _ _ 131 (HS0.out.get 0 rfl) rfl rfl (arr_len2 _ _ HPL.out HLzl.out) (lim_s HPL.out) (all_arr _ _) ?_;intro w1 hb1 hk1 hz1;have HB1:=Lib.hid (HS0.out.put 0 rfl hk1 hb1);clear hb1 hk1 hz1))
 (try simp only [Exit.then])
 refine bodyPost_ret (results_cell_row rfl _ _ (w.heap.size) 131 _ (0,0) _ rfl (HB1.out.get 0 rfl) Tryd.underlying131 rfl (lim_s HPL.out)) rfl ?_
 exact ⟨_,rfl,HN.out,HB1.out.below⟩
theorem or_bit (d b:Nat) (hd:2 * d < 18446744073709551616) (hb:b≤1):bits .or .u64 ((2 * d:Nat):Int) (b:Int)=((2 * d+b:Nat):Int):=by
 have h1:(BitVec.ofInt 64 ((2 * d:Nat):Int)).toNat=2 * d:=by rw [BitVec.ofInt_natCast,BitVec.toNat_ofNat];exact Nat.mod_eq_of_lt hd
 have h2:(BitVec.ofInt 64 (b:Int)).toNat=b:=by rw [BitVec.ofInt_natCast,BitVec.toNat_ofNat];exact Nat.mod_eq_of_lt (by omega)
 have e:2 * d ||| b=2 * d+b:=(Nat.two_pow_add_eq_or_of_lt (i:=1) (b:=b) (by omega) d).symm
 show IntKind.u64.wrap ((BitVec.ofInt 64 ((2 * d:Nat):Int) ||| BitVec.ofInt 64 (b:Int)).toNat:Int)=_
 rw [BitVec.toNat_or,h1,h2,e,IntKind.wrap_u64]
 omega
theorem set_low (P b:Nat) (hb:b≤1):(nar (dig 18446744073709551616 4 (2 * P))).set 0 ((2 * P % 18446744073709551616+b:Nat):Int)=nar (dig 18446744073709551616 4 (2 * P+b)):=by
 have e1:(2 * P+b) % 18446744073709551616=2 * P % 18446744073709551616+b:=by omega
 have e2:(2 * P+b) / 18446744073709551616=2 * P / 18446744073709551616:=by omega
 simp only [dig,e1,e2]
 rfl
theorem limb_bit' (ls:List Nat) (V k:Nat) (hb:∀ x∈ls,x < 18446744073709551616) (hV:val 18446744073709551616 ls=V) (hk:k / 64 < ls.length):bits .and .u64 ((ls.getD (k / 64) 0:Nat) / 2 ^ (k % 64):Int) 1=((V / 2 ^ k % 2:Nat):Int):=by
 have hg:ls.getD (k / 64) 0=V / 18446744073709551616 ^ (k / 64) % 18446744073709551616:=by
  exact (congrArg (fun l=>l.getD (k / 64) 0) (dig_eq 18446744073709551616 (by decide) ls.length _ ls rfl hb hV)).trans (dig_get _ _ _ _ hk)
 have e1:((ls.getD (k / 64) 0:Nat):Int) / 2 ^ (k % 64)=((V / 18446744073709551616 ^ (k / 64) % 18446744073709551616 / 2 ^ (k % 64):Nat):Int):=by
  rw [hg,Int.natCast_ediv,Int.natCast_pow];rfl
 rw [e1,and1w _ (Nat.lt_of_le_of_lt (Nat.div_le_self _ _) (Nat.mod_lt _ (by decide))),bit_limb]
theorem sub_q (N P b:Nat) (hN:N=2 * P+b) (hP:P < q) (hb:b≤1) (h:¬ N < q):(N+18446744073709551616 ^ 4 - q) % 18446744073709551616 ^ 4=N - q:=by
 have:=q_lt
 rw [show N+18446744073709551616 ^ 4 - q=N - q+18446744073709551616 ^ 4 by omega,Nat.add_mod_right,Nat.mod_eq_of_lt (by omega)]
theorem red_any (g n cp V:Nat) (ls:List Nat) (w:World) (hl:ls.length=n) (h8:n≤8) (hb:∀ x∈ls,x < 18446744073709551616) (hV:val 18446744073709551616 ls=V) (hc:∀ i,i < n→w.cell? ⟨g,i,none⟩=some (.int .u64 ((ls.getD i 0:Nat):Int))) :
  Calls Tryd.prog 132 #[.slice (some ⟨g,0,none⟩) n cp] w fun e w'=>∃ zs,e = .returned (.agg (arr .u64 zs))∧N4 zs (V % q)∧Below w.heap.size w w':=by
 have hVl:V < 2 ^ (64 * n):=by
  have:=val_lt 18446744073709551616 ls hb
  rw [hV,hl,show (18446744073709551616:Nat)=2 ^ 64 from rfl,← Nat.pow_mul] at this
  exact this
 have HV0:=Lib.hid (upq_top V (64 * n) hVl)
 have HVE:=Lib.hid (upq_zero V)
 have HCL:=Lib.hid hc
 have HLB:=Lib.hid (fun k (hk:k / 64 < n)=>limb_bit' ls V k hb hV (by rw [hl];exact hk))
 have HLT:=Lib.hid (fun k=>lt_getD hb (show 0 < 18446744073709551616 by decide) k)
 have HQ:=Lib.hid order_any
 obtain ⟨zl,hzl⟩:∃ zs:List Int,zs=List.replicate 4 0:=⟨_,rfl⟩
 have HZzl:Hid (∀ w,(zeroValue 131).run Tryd.prog w = .ok (.agg (arr .u64 zl)) w):=Lib.hid (by intro w;rw [hzl];exact zero_lim w)
 have HLzl:Hid (zl.length=4):=Lib.hid (by rw [hzl];rfl)
 have hz0:N4 zl 0:=by rw [hzl];exact n4_small 0 (by decide)
 have HZ0:=Lib.hid hz0
 have HS0:=Lib.hid (Blk.two w (arr .u64 zl) (arr .u64 zl) 131 131)
 clear hzl hz0 hVl hc hb hV hl
 go_enter Tryd.func132, Tryd.ntmps132
 go_wp2_with (first|((with_reducible refine aS 2 ?_);refine wpList_alloc_row rfl 131 rfl _ (HZzl.out _) ?_)|((with_reducible refine aS 3 ?_);refine wpList_alloc_row rfl 131 rfl _ (HZzl.out _) ?_))
 go_loopw [4] (fun v wr=>∃ m:Nat,m≤64 * n∧v = .int .i64 ((n:Int) * 64 - 1 - (m:Int))∧∃ cs:List Int,N4 cs (upq V (64 * n - m))∧Blk w wr [(w.heap.size,arr .u64 zl, 131),(w.heap.size+1,arr .u64 cs, 131)]) (fun v _=>(intOf v+1).toNat)
 case atStart=>exact ⟨0,Nat.zero_le _,by congr 1;omega,_,by rw [Nat.sub_zero,HV0.out];exact HZ0.out,HS0.out⟩
 clear HS0
 case round =>
 obtain ⟨m,hm,rfl,cs,hcs,hB⟩:=hrel
 by_cases hlt:m < 64 * n
 ·obtain ⟨i,hi⟩:∃ i:Nat,i+m+1=64 * n:=⟨64 * n - 1 - m,by omega⟩
  have hz:(n:Int) * 64 - 1 - (m:Int)=(i:Int):=by omega
  have hi2:i / 64 < n:=by omega
  have q0:=below_cell hB.below (HCL.out (i / 64) hi2)
  have hbit:=HLB.out i hi2
  have hyl:=HLT.out (i / 64)
  obtain ⟨y,hy⟩:∃ y,y=ls.getD (i / 64) 0:=⟨_,rfl⟩
  rw [← hy] at q0 hbit hyl
  have HYE:=Lib.hid hy
  clear hy
  rw [show 64 * n - m=i+1 by omega] at hcs
  rw [hz]
  have hps:=fun N=>upq_step V i N
  have hpl:=upq_lt V (i+1)
  generalize upq V (i+1)=P at hcs hps hpl
  have hbl:V / 2 ^ i % 2≤1:=by omega
  generalize V / 2 ^ i % 2=b at hbit hps hbl
  have h2p:2 * P < 18446744073709551616 ^ 4:=by have:=ev_lt P hpl;omega
  have HDB:Hid ((P+P) % 18446744073709551616 ^ 4=2 * P):=Lib.hid (by rw [← Nat.two_mul,Nat.mod_eq_of_lt h2p])
  have HCS:=Lib.hid hcs
  have HCSL:=Lib.hid hcs.len
  have HB:=Lib.hid hB
  have HI:=Lib.hid hi
  have HPS:=Lib.hid hps
  have HPL:=Lib.hid hpl
  have HBL:=Lib.hid hbl
  have HBT:=Lib.hid hbit
  have HY:=Lib.hid hyl
  have q9:0≤(i:Int):=by omega
  clear hB hz hi hps hpl hcs h2p hbl hbit hyl
  go_upto_region 5 with fail
  go_upto_region 6 with (first|((with_reducible refine aS 16 ?_);refine wpList_load_part rfl 131 _ rfl (w.heap.size+1) (0) _ 131 (0,0) _ (HB.out.get 1 rfl) rfl .u64 cs (arr_part _ _) Tryd.underlying131 rfl (lim_i HCSL.out) ?_)|((with_reducible refine aS 17 ?_);refine wpList_load_part rfl 131 _ rfl (w.heap.size+1) (0) _ 131 (0,0) _ (HB.out.get 1 rfl) rfl .u64 cs (arr_part _ _) Tryd.underlying131 rfl (lim_i HCSL.out) ?_)|((with_reducible show Calls _ 131 #[.agg _, .agg _] _ _);go_at_call 131; refine (ladd4 _ _ _ HCS.out HCS.out).mono ?_;rintro e w1301 ⟨z1301,rfl,h1301,hb1301⟩;have HZ1301:=Lib.hid h1301;have HL1301:=Lib.hid h1301.len;clear h1301;have HB1301:=Lib.hid (HB.out.kept hb1301);clear hb1301)|((with_reducible refine aT 3 (x:=(Operand.tmp 19)) ?_);refine wpList_store_whole rfl 131 _ _ rfl (w.heap.size+1) _ _ 131 (HB1301.out.get 1 rfl) rfl rfl (arr_len2 _ _ HL1301.out HCSL.out) (lim_s HL1301.out) (all_arr _ _) ?_;intro w1302 hb1302 hk1302 hz1302;have HB1302:=Lib.hid (HB1301.out.put 1 rfl hk1302 hb1302);clear hb1302 hk1302 hz1302;clear HB1301))
  have hn5:=(HZ1301.out.cast HDB.out)
  have e5:=hn5.1
  have q1:=below_cell HB1302.out.below (HCL.out (i / 64) hi2)
  rw [← HYE.out] at q1
  clear q0
  have q2:=arr_get' (HB1302.out.get 1 rfl) 0 (by rw [HL1301.out];decide)
  have q3:=free_blk (HB1302.out.get 1 rfl) 0
  have hd0:z1301.getD 0 0=((2 * (P % 9223372036854775808):Nat):Int):=by rw [e5,nar_get,dig_get _ _ _ _ (by decide),Nat.pow_zero,Nat.div_one];omega
  rw [hd0] at q2
  have hor:=or_bit (P % 9223372036854775808) b (by omega) HBL.out
  have hsl:=set_low P b HBL.out
  rw [← e5,show 2 * P % 18446744073709551616=2 * (P % 9223372036854775808) by omega] at hsl
  have hb1:=HB1302.out.cell 1 rfl 0 (.int .u64 (bits .or .u64 ((2 * (P % 9223372036854775808):Nat):Int) (b:Int)))
  have e2:(arr .u64 z1301).setIfInBounds 0 (.int .u64 (bits .or .u64 ((2 * (P % 9223372036854775808):Nat):Int) (b:Int)))=arr .u64 (nar (dig 18446744073709551616 4 (2 * P+b))):=by rw [arr_set,hor,hsl]
  obtain ⟨ns,hns⟩:∃ x,x=nar (dig 18446744073709551616 4 (2 * P+b)):=⟨_,rfl⟩
  rw [← hns] at e2
  have HNS:Hid (N4 ns (2 * P+b)):=Lib.hid ⟨hns,by have:=ev_lt P HPL.out;have:=HBL.out;omega⟩
  have HNSL:=Lib.hid HNS.out.len
  have HB6:=Lib.hid ((hb1.cast (l':=[(w.heap.size,arr .u64 zl, 131),(w.heap.size+1,arr .u64 ns, 131)]) (by rw [← e2];rfl)).drew)
  have hbit:=HBT.out
  generalize 2 * (P % 9223372036854775808)=d at q2 hb1 HB6
  obtain ⟨N,hN⟩:∃ N,N=2 * P+b:=⟨_,rfl⟩
  rw [← hN] at HNS
  have HNE:=Lib.hid hN
  clear hN
  clear hb1 e2 hns hsl hor hd0 e5 hn5 HB1302
  (try simp only [Act.put])
  go_region
  (try simp only [Act.put])
  generalize World.drew _=w6 at HB6 ⊢
  go_upto_region 7 with fail
  have hpn:=HPS.out N HNE.out
  have HPN:=Lib.hid hpn
  clear hpn q1 q2 q3 hbit HPS HBT HY HB
  go_cut [5,6] (fun u5 u6 wx=>∃ gg xx,u5 = .pointer (some ⟨gg,0,none⟩)∧u6 = .int .u64 ((brw N q:Nat):Int)∧N4 xx ((N+18446744073709551616 ^ 4 - q) % 18446744073709551616 ^ 4)∧Blk w wx [(w.heap.size,arr .u64 zl, 131),(w.heap.size+1,arr .u64 ns, 131),(gg,arr .u64 xx, 131)])
  case first =>
   have HK0:=Lib.hid ((Kept.refl (fun _=>False) w6).drew)
   have HBd:=Lib.hid (HB6.out.drew)
   refine wp_region_held_drew (S:=(fun w'=>Kept (fun _=>False) w6 w')) (by kernel_rfl) (HK0.out) (fun hHeld=>?_)
   generalize w6.drew=wd at HK0 HBd hHeld ⊢
   refine' wpAnyH_take (i:=0) (oi:=(⟨some 35,_,_,_,_,none⟩:Oper)) (v:=_) rfl (by kernel_rfl) (by kernel_rfl) (by kernel_rfl) (fun _ _ _ h=>h) (yieldsIf_load_mid (by rfl) _ _ rfl _ _ rfl (ns.map (Value.int .u64)) _ ?hS1303 Tryd.underlying131 rfl (by rw [List.length_map];exact lim_i HNSL.out)) (by assumption) ?rest1303
   case hS1303=>(intro w hSw;(try dsimp only at hSw);exact range_part (hSw.blk (HB6.out.get 1 rfl) (fun e=>e.elim)) 0 _ (by rw [List.length_map];exact arr_part _ _))
   (try simp only [Act.put,sA,sZ,sS])
   refine wpAnyH_ready (rs:=[1,6]) (by kernel_rfl) (by simp) ?_
   refine AllReadyH.cons (o:=(⟨some 36,_,_,_,_,none⟩:Oper)) rfl (fun K hK=>?_) ?_
   ·go_simp
    go_at_call 137
    refine (HQ.out _).mono ?_
    rintro e w1304 ⟨z1304,rfl,h1304,hb1304⟩
    have HZ1304:=Lib.hid h1304
    have HL1304:=Lib.hid h1304.len
    clear h1304
    have HB1304:=Lib.hid (HBd.out.kept hb1304)
    have HK1304:=Lib.hid (HK0.out.trans (Kept.of_below hb1304))
    clear hb1304
    (try dsimp only)
    clear HBd
    clear HK0
    clear hHeld
    refine hK.out _ _ (HK1304.out) (fun hHeld=>?_)
    clear hK K
    (try simp only [Act.put,sA,sZ,sS])
    refine wpAnyH_ready (rs:=[2,6]) (by kernel_rfl) (by simp) ?_
    refine AllReadyH.cons (o:=({ dst:=some 37,op:=Op.call { callee:=Callee.value (Operand.func 151),args := #[Operand.tmp 35,Operand.tmp 36],argTypes := #[131, 131] },type := 168, pos := "scalar.go:25", after := #[{ on:=0,ground:=Ground.data },{ on:=1,ground:=Ground.data },{ on:=1,ground:=Ground.chain }],guard:=none }:Oper)) rfl (fun K hK=>?_) ?_
    ·go_simp
     go_at_call 151
     refine (lsub4 _ _ _ HNS.out HZ1304.out).mono ?_
     rintro e w1305 ⟨z1305,rfl,h1305,hb1305⟩
     have HZ1305:=Lib.hid h1305
     have HL1305:=Lib.hid h1305.len
     clear h1305
     have HB1305:=Lib.hid (HB1304.out.kept hb1305)
     have HK1305:=Lib.hid (HK1304.out.trans (Kept.of_below hb1305))
     clear hb1305
     (try dsimp only)
     clear HB1304
     clear HK1304
     clear hHeld
     refine hK.out _ _ (HK1305.out) (fun hHeld=>?_)
     clear hK K
     (try simp only [Act.put,sA,sZ,sS])
     refine wpAnyH_take (i:=3) (oi:=({ dst:=some 34,op:=Op.move (Operand.tmp 37),type := 168, pos := "scalar.go:25", after := #[{ on:=2,ground:=Ground.data }],guard:=none }:Oper)) (v:=?v1306) rfl (by kernel_rfl) (by kernel_rfl) (by kernel_rfl) (fun _ _ _ h=>h) (Or.inl ⟨by rfl,?hy1306⟩) (by assumption) ?rest1306
     case hy1306=>(intro w hSw;(try dsimp only at hSw);go_simp;try (with_reducible rfl))
     (try simp only [Act.put,sA,sZ,sS])
     refine wpAnyH_take (i:=4) (oi:=(⟨some 38,_,_,_,_,none⟩:Oper)) (v:=?v1307) rfl (by kernel_rfl) (by kernel_rfl) (by kernel_rfl) (fun _ _ _ h=>h) (Or.inl ⟨by rfl,?hy1307⟩) (by assumption) ?rest1307
     case hy1307=>(intro w hSw;(try dsimp only at hSw);go_simp;try (with_reducible rfl))
     (try simp only [Act.put,sA,sZ,sS])
     refine wpAnyH_take (i:=5) (oi:=(⟨some 39,_,_,_,_,none⟩:Oper)) (v:=?v1308) rfl (by kernel_rfl) (by kernel_rfl) (by kernel_rfl) (fun _ _ _ h=>h) (Or.inl ⟨by rfl,?hy1308⟩) (by assumption) ?rest1308
     case hy1308=>(intro w hSw;(try dsimp only at hSw);go_simp;try (with_reducible rfl))
     (try simp only [Act.put,sA,sZ,sS])
     refine wpAnyH_ready (rs:=[6]) (by kernel_rfl) (by simp) ?_
     refine AllReadyH.cons (o:=(⟨some 5,_,_,_,_,none⟩:Oper)) rfl (fun K hK=>?_) AllReadyH.nil
     refine step_alloc_row rfl 131 rfl _ (HZzl.out _) ?_
     have HB1309:=Lib.hid (HB1305.out.alloc (arr .u64 zl) 131)
     have HK1309:=Lib.hid (HK1305.out.alloc (.cells (arr .u64 zl) 131))
     have HN1309:=Lib.hid (show w6.heap.size≤(w1305).heap.size from HK1305.out.size)
     generalize (w1305).heap.size=g1309 at HB1309 HN1309 ⊢
     generalize (w1305).alloc (.cells (arr .u64 zl) 131)=w1309 at HB1309 HK1309 ⊢
     clear HB1305
     clear HK1305
     clear hHeld
     refine hK.out _ _ (HK1309.out) (fun hHeld=>?_)
     clear hK K
     (try simp only [Act.put,sA,sZ,sS])
     refine wpAnyH_ready (rs:=[7]) (by kernel_rfl) (by simp) ?_
     refine AllReadyH.cons (o:=(⟨none,_,_,_,_,none⟩:Oper)) rfl (fun K hK=>?_) AllReadyH.nil
     refine step_store_whole rfl 131 (.tmp 5) (.tmp 38) rfl (g1309) _ _ _ (HB1309.out.get 2 rfl) rfl rfl (arr_len2 _ _ HL1305.out HLzl.out) (lim_s HL1305.out) (all_arr _ _) ?_
     intro w1310 hb1310 hk1310 hz1310
     have HB1310:=Lib.hid (HB1309.out.put 2 rfl hk1310 hb1310)
     have HK1310:=Lib.hid (HK1309.out.trans_new hk1310 (fun i hi e=>absurd hi (by rw [e];exact Nat.not_lt.2 HN1309.out)))
     clear hb1310 hk1310 hz1310
     clear HB1309
     clear HK1309
     clear hHeld
     refine hK.out _ _ (HK1310.out) (fun hHeld=>?_)
     clear hK K
     (try simp only [Act.put])
     refine wpAnyH_take (i:=8) (oi:=(⟨some 6,_,_,_,_,none⟩:Oper)) (v:=?v1311) rfl (by kernel_rfl) (by kernel_rfl) (by kernel_rfl) (fun _ _ _ h=>h) (Or.inl ⟨by rfl,?hy1311⟩) (by assumption) ?rest1311
     case hy1311=>(intro w hSw;(try dsimp only at hSw);go_simp;try (with_reducible rfl))
     (try simp only [Act.put,sA,sZ,sS])
     refine wpAnyH_done (by kernel_rfl) ?_ _
     go_wp2_with fail
     go_meet
     exact ⟨_,_,rfl,rfl,HZ1305.out,HB1310.out⟩
    refine AllReadyH.cons (o:=(⟨some 5,_,_,_,_,none⟩:Oper)) rfl (fun K hK=>?_) ?_
    ·refine step_alloc_row rfl 131 rfl _ (HZzl.out _) ?_
     have HB1312:=Lib.hid (HB1304.out.alloc (arr .u64 zl) 131)
     have HK1312:=Lib.hid (HK1304.out.alloc (.cells (arr .u64 zl) 131))
     have HN1312:=Lib.hid (show w6.heap.size≤(w1304).heap.size from HK1304.out.size)
     generalize (w1304).heap.size=g1312 at HB1312 HN1312 ⊢
     generalize (w1304).alloc (.cells (arr .u64 zl) 131)=w1312 at HB1312 HK1312 ⊢
     clear HB1304
     clear HK1304
     clear hHeld
     refine hK.out _ _ (HK1312.out) (fun hHeld=>?_)
     clear hK K
     (try simp only [Act.put,sA,sZ,sS])
     refine wpAnyH_ready (rs:=[2]) (by kernel_rfl) (by simp) ?_
     refine AllReadyH.cons (o:=({ dst:=some 37,op:=Op.call { callee:=Callee.value (Operand.func 151),args := #[Operand.tmp 35,Operand.tmp 36],argTypes := #[131, 131] },type := 168, pos := "scalar.go:25", after := #[{ on:=0,ground:=Ground.data },{ on:=1,ground:=Ground.data },{ on:=1,ground:=Ground.chain }],guard:=none }:Oper)) rfl (fun K hK=>?_) AllReadyH.nil
     go_simp
     go_at_call 151
     refine (lsub4 _ _ _ HNS.out HZ1304.out).mono ?_
     rintro e w1313 ⟨z1313,rfl,h1313,hb1313⟩
     have HZ1313:=Lib.hid h1313
     have HL1313:=Lib.hid h1313.len
     clear h1313
     have HB1313:=Lib.hid (HB1312.out.kept hb1313)
     have HK1313:=Lib.hid (HK1312.out.trans (Kept.of_below hb1313))
     clear hb1313
     (try dsimp only)
     clear HB1312
     clear HK1312
     clear hHeld
     refine hK.out _ _ (HK1313.out) (fun hHeld=>?_)
     clear hK K
     (try simp only [Act.put,sA,sZ,sS])
     refine wpAnyH_take (i:=3) (oi:=({ dst:=some 34,op:=Op.move (Operand.tmp 37),type := 168, pos := "scalar.go:25", after := #[{ on:=2,ground:=Ground.data }],guard:=none }:Oper)) (v:=?v1314) rfl (by kernel_rfl) (by kernel_rfl) (by kernel_rfl) (fun _ _ _ h=>h) (Or.inl ⟨by rfl,?hy1314⟩) (by assumption) ?rest1314
     case hy1314=>(intro w hSw;(try dsimp only at hSw);go_simp;try (with_reducible rfl))
     (try simp only [Act.put,sA,sZ,sS])
     refine wpAnyH_take (i:=4) (oi:=(⟨some 38,_,_,_,_,none⟩:Oper)) (v:=?v1315) rfl (by kernel_rfl) (by kernel_rfl) (by kernel_rfl) (fun _ _ _ h=>h) (Or.inl ⟨by rfl,?hy1315⟩) (by assumption) ?rest1315
     case hy1315=>(intro w hSw;(try dsimp only at hSw);go_simp;try (with_reducible rfl))
     (try simp only [Act.put,sA,sZ,sS])
     refine wpAnyH_take (i:=5) (oi:=(⟨some 39,_,_,_,_,none⟩:Oper)) (v:=?v1316) rfl (by kernel_rfl) (by kernel_rfl) (by kernel_rfl) (fun _ _ _ h=>h) (Or.inl ⟨by rfl,?hy1316⟩) (by assumption) ?rest1316
     case hy1316=>(intro w hSw;(try dsimp only at hSw);go_simp;try (with_reducible rfl))
     (try simp only [Act.put,sA,sZ,sS])
     refine wpAnyH_ready (rs:=[7]) (by kernel_rfl) (by simp) ?_
     refine AllReadyH.cons (o:=(⟨none,_,_,_,_,none⟩:Oper)) rfl (fun K hK=>?_) AllReadyH.nil
     refine step_store_whole rfl 131 (.tmp 5) (.tmp 38) rfl (g1312) _ _ _ (HB1313.out.get 2 rfl) rfl rfl (arr_len2 _ _ HL1313.out HLzl.out) (lim_s HL1313.out) (all_arr _ _) ?_
     intro w1317 hb1317 hk1317 hz1317
     have HB1317:=Lib.hid (HB1313.out.put 2 rfl hk1317 hb1317)
     have HK1317:=Lib.hid (HK1313.out.trans_new hk1317 (fun i hi e=>absurd hi (by rw [e];exact Nat.not_lt.2 HN1312.out)))
     clear hb1317 hk1317 hz1317
     clear HB1313
     clear HK1313
     clear hHeld
     refine hK.out _ _ (HK1317.out) (fun hHeld=>?_)
     clear hK K
     (try simp only [Act.put])
     refine wpAnyH_take (i:=8) (oi:=(⟨some 6,_,_,_,_,none⟩:Oper)) (v:=?v1318) rfl (by kernel_rfl) (by kernel_rfl) (by kernel_rfl) (fun _ _ _ h=>h) (Or.inl ⟨by rfl,?hy1318⟩) (by assumption) ?rest1318
     case hy1318=>(intro w hSw;(try dsimp only at hSw);go_simp;try (with_reducible rfl))
     (try simp only [Act.put,sA,sZ,sS])
     refine wpAnyH_done (by kernel_rfl) ?_ _
     go_wp2_with fail
     go_meet
     exact ⟨_,_,rfl,rfl,HZ1313.out,HB1317.out⟩
    exact AllReadyH.nil
   refine AllReadyH.cons (o:=(⟨some 5,_,_,_,_,none⟩:Oper)) rfl (fun K hK=>?_) ?_
   ·refine step_alloc_row rfl 131 rfl _ (HZzl.out _) ?_
    have HB1319:=Lib.hid (HBd.out.alloc (arr .u64 zl) 131)
    have HK1319:=Lib.hid (HK0.out.alloc (.cells (arr .u64 zl) 131))
    have HN1319:=Lib.hid (show w6.heap.size≤(wd).heap.size from HK0.out.size)
    generalize (wd).heap.size=g1319 at HB1319 HN1319 ⊢
    generalize (wd).alloc (.cells (arr .u64 zl) 131)=w1319 at HB1319 HK1319 ⊢
    clear HBd
    clear HK0
    clear hHeld
    refine hK.out _ _ (HK1319.out) (fun hHeld=>?_)
    clear hK K
    (try simp only [Act.put,sA,sZ,sS])
    refine wpAnyH_ready (rs:=[1]) (by kernel_rfl) (by simp) ?_
    refine AllReadyH.cons (o:=(⟨some 36,_,_,_,_,none⟩:Oper)) rfl (fun K hK=>?_) AllReadyH.nil
    go_simp
    go_at_call 137
    refine (HQ.out _).mono ?_
    rintro e w1320 ⟨z1320,rfl,h1320,hb1320⟩
    have HZ1320:=Lib.hid h1320
    have HL1320:=Lib.hid h1320.len
    clear h1320
    have HB1320:=Lib.hid (HB1319.out.kept hb1320)
    have HK1320:=Lib.hid (HK1319.out.trans (Kept.of_below hb1320))
    clear hb1320
    (try dsimp only)
    clear HB1319
    clear HK1319
    clear hHeld
    refine hK.out _ _ (HK1320.out) (fun hHeld=>?_)
    clear hK K
    (try simp only [Act.put,sA,sZ,sS])
    refine wpAnyH_ready (rs:=[2]) (by kernel_rfl) (by simp) ?_
    refine AllReadyH.cons (o:=({ dst:=some 37,op:=Op.call { callee:=Callee.value (Operand.func 151),args := #[Operand.tmp 35,Operand.tmp 36],argTypes := #[131, 131] },type := 168, pos := "scalar.go:25", after := #[{ on:=0,ground:=Ground.data },{ on:=1,ground:=Ground.data },{ on:=1,ground:=Ground.chain }],guard:=none }:Oper)) rfl (fun K hK=>?_) AllReadyH.nil
    go_simp
    go_at_call 151
    refine (lsub4 _ _ _ HNS.out HZ1320.out).mono ?_
    rintro e w1321 ⟨z1321,rfl,h1321,hb1321⟩
    have HZ1321:=Lib.hid h1321
    have HL1321:=Lib.hid h1321.len
    clear h1321
    have HB1321:=Lib.hid (HB1320.out.kept hb1321)
    have HK1321:=Lib.hid (HK1320.out.trans (Kept.of_below hb1321))
    clear hb1321
    (try dsimp only)
    clear HB1320
    clear HK1320
    clear hHeld
    refine hK.out _ _ (HK1321.out) (fun hHeld=>?_)
    clear hK K
    (try simp only [Act.put,sA,sZ,sS])
    refine wpAnyH_take (i:=3) (oi:=({ dst:=some 34,op:=Op.move (Operand.tmp 37),type := 168, pos := "scalar.go:25", after := #[{ on:=2,ground:=Ground.data }],guard:=none }:Oper)) (v:=?v1322) rfl (by kernel_rfl) (by kernel_rfl) (by kernel_rfl) (fun _ _ _ h=>h) (Or.inl ⟨by rfl,?hy1322⟩) (by assumption) ?rest1322
    case hy1322=>(intro w hSw;(try dsimp only at hSw);go_simp;try (with_reducible rfl))
    (try simp only [Act.put,sA,sZ,sS])
    refine wpAnyH_take (i:=4) (oi:=(⟨some 38,_,_,_,_,none⟩:Oper)) (v:=?v1323) rfl (by kernel_rfl) (by kernel_rfl) (by kernel_rfl) (fun _ _ _ h=>h) (Or.inl ⟨by rfl,?hy1323⟩) (by assumption) ?rest1323
    case hy1323=>(intro w hSw;(try dsimp only at hSw);go_simp;try (with_reducible rfl))
    (try simp only [Act.put,sA,sZ,sS])
    refine wpAnyH_take (i:=5) (oi:=(⟨some 39,_,_,_,_,none⟩:Oper)) (v:=?v1324) rfl (by kernel_rfl) (by kernel_rfl) (by kernel_rfl) (fun _ _ _ h=>h) (Or.inl ⟨by rfl,?hy1324⟩) (by assumption) ?rest1324
    case hy1324=>(intro w hSw;(try dsimp only at hSw);go_simp;try (with_reducible rfl))
    (try simp only [Act.put,sA,sZ,sS])
    refine wpAnyH_ready (rs:=[7]) (by kernel_rfl) (by simp) ?_
    refine AllReadyH.cons (o:=(⟨none,_,_,_,_,none⟩:Oper)) rfl (fun K hK=>?_) AllReadyH.nil
    refine step_store_whole rfl 131 (.tmp 5) (.tmp 38) rfl (g1319) _ _ _ (HB1321.out.get 2 rfl) rfl rfl (arr_len2 _ _ HL1321.out HLzl.out) (lim_s HL1321.out) (all_arr _ _) ?_
    intro w1325 hb1325 hk1325 hz1325
    have HB1325:=Lib.hid (HB1321.out.put 2 rfl hk1325 hb1325)
    have HK1325:=Lib.hid (HK1321.out.trans_new hk1325 (fun i hi e=>absurd hi (by rw [e];exact Nat.not_lt.2 HN1319.out)))
    clear hb1325 hk1325 hz1325
    clear HB1321
    clear HK1321
    clear hHeld
    refine hK.out _ _ (HK1325.out) (fun hHeld=>?_)
    clear hK K
    (try simp only [Act.put])
    refine wpAnyH_take (i:=8) (oi:=(⟨some 6,_,_,_,_,none⟩:Oper)) (v:=?v1326) rfl (by kernel_rfl) (by kernel_rfl) (by kernel_rfl) (fun _ _ _ h=>h) (Or.inl ⟨by rfl,?hy1326⟩) (by assumption) ?rest1326
    case hy1326=>(intro w hSw;(try dsimp only at hSw);go_simp;try (with_reducible rfl))
    (try simp only [Act.put,sA,sZ,sS])
    refine wpAnyH_done (by kernel_rfl) ?_ _
    go_wp2_with fail
    go_meet
    exact ⟨_,_,rfl,rfl,HZ1321.out,HB1325.out⟩
   exact AllReadyH.nil
  case rest =>
  obtain ⟨wy,rfl⟩:∃ x:World,x=wc:=⟨_,rfl⟩
  obtain ⟨gd,ds,rfl,rfl,h1,hb1⟩:=hcut
  have HB1:=Lib.hid hb1
  have HD:=Lib.hid h1
  have HDL:=Lib.hid h1.len
  clear h1 hb1 HB6
  have HMI:Hid (64 * n - (m+1)=i):=Lib.hid (by have:=HI.out;omega)
  by_cases hp:N < q
  ·rw [brw_yes hp]
   have HN:Hid (N=upq V i):=Lib.hid (by rw [← HPN.out,if_pos hp])
   have hbv:(((1:Nat):Int) == 0)=false:=rfl
   clear hp
   go_wp2_with fail
   go_roundw
   case rel =>
    have e:=HI.out
    exact ⟨m+1,by omega,congrArg (Value.int .i64) (by omega),ns,HNS.out.cast (by rw [HMI.out];exact HN.out),HB1.out.less 2⟩
   case measure =>
    have e:=HI.out
    simp [intOf]
    try omega
  ·rw [brw_no hp]
   have HN:Hid ((N+18446744073709551616 ^ 4 - q) % 18446744073709551616 ^ 4=upq V i):=Lib.hid (by rw [← HPN.out,if_neg hp,sub_q N P b HNE.out HPL.out HBL.out hp])
   have hbv:(((0:Nat):Int) == 0)=true:=rfl
   clear hp
   go_wp2_with (first|((with_reducible refine aS 42 ?_);refine wpList_load_part rfl 131 _ rfl (gd) 0 _ 131 (0,0) _ (HB1.out.get 2 rfl) rfl .u64 ds (arr_part _ _) Tryd.underlying131 rfl (lim_i HDL.out) ?_)|((with_reducible refine aT 3 ?_);refine wpList_store_whole rfl 131 _ _ rfl (w.heap.size+1) _ _ 131 (HB1.out.get 1 rfl) rfl rfl (arr_len2 _ _ HDL.out HNSL.out) (lim_s HDL.out) (all_arr _ _) ?_;intro w7 hb7 hk7 hz7;have HB7:=Lib.hid (HB1.out.put 1 rfl hk7 hb7);clear hb7 hk7 hz7))
   go_roundw
   case rel =>
    have e:=HI.out
    exact ⟨m+1,by omega,congrArg (Value.int .i64) (by omega),ds,HD.out.cast (by rw [HMI.out];exact HN.out),HB7.out.less 2⟩
   case measure =>
    have e:=HI.out
    simp [intOf]
    try omega
 ·obtain rfl:m=64 * n:=by omega
  rw [Nat.sub_self,HVE.out] at hcs
  have hz:(n:Int) * 64 - 1 - ((64 * n:Nat):Int) = -1:=by omega
  rw [hz]
  have HY:=Lib.hid hcs
  have HYL:=Lib.hid hcs.len
  have HB:=Lib.hid hB
  clear hcs hB hz
  go_wp2_with (first|((with_reducible refine aS 43 ?_);refine wpList_load_part rfl 131 _ rfl (w.heap.size+1) 0 _ 131 (0,0) _ (HB.out.get 1 rfl) rfl .u64 cs (arr_part _ _) Tryd.underlying131 rfl (lim_i HYL.out) ?_)|((with_reducible refine aT 2 ?_);refine wpList_store_whole rfl 131 _ _ rfl (w.heap.size) _ _ 131 (HB.out.get 0 rfl) rfl rfl (arr_len2 _ _ HYL.out HLzl.out) (lim_s HYL.out) (all_arr _ _) ?_;intro w7 hb7 hk7 hz7;have HB7:=Lib.hid (HB.out.put 0 rfl hk7 hb7);clear hb7 hk7 hz7))
  (try simp only [Exit.inBlock,Exit.then])
  refine bodyPost_ret (results_cell_row rfl _ _ (w.heap.size) 131 _ (0,0) _ rfl (HB7.out.get 0 rfl) Tryd.underlying131 rfl (lim_s HYL.out)) rfl ?_
  exact ⟨_,rfl,HY.out,HB7.out.below⟩
end Go.Proofs.YtodnkallpfkdiaaDoor.Sl
namespace Go.Proofs.YtodnkallpfkdiaaDoor.Sl
open Go.RowKit Lm Fp Sc
theorem sless_any {ks:List Int} (a:Nat) (w:World) (h:K32 ks a):Calls Tryd.prog 92 #[.agg (arr .u8 ks)] w fun e w'=>e = .returned (.bool (decide (a < q)))∧Below w.heap.size w w':=by
 have HK:=Lib.hid h
 have HKL:=Lib.hid h.len
 have HS0:=Lib.hid (Blk.one w (arr .u8 ks) 23)
 obtain ⟨c,hc⟩:∃ c,c=decide (a < q):=⟨_,rfl⟩
 have HNL:=Lib.hid (fun xs ys w h1 h2=>(by rw [hc];exact nless_any a q w h1 h2:Calls Tryd.prog 136 #[.agg (arr .u64 xs), .agg (arr .u64 ys)] w fun e w'=>e = .returned (.bool c)∧Below w.heap.size w w'))
 rw [← hc]
 clear h hc
 go_enter Tryd.func92, Tryd.ntmps92
 go_wp2_with (first|((with_reducible refine aS 3 ?_);refine wpList_load_part rfl 23 _ rfl (w.heap.size) (0) _ 23 (0,0) _ (HS0.out.get 0 rfl) rfl .u8 ks (arr_part _ _) Tryd.underlying23 rfl (num_i HKL.out) ?_)|((with_reducible show Calls _ 117 #[.agg _] _ _);go_at_call 117; refine (of4 _ _ HK.out).mono ?_;rintro e w1501 ⟨z1501,rfl,h1501,hb1501⟩;have HZ1501:=Lib.hid h1501;have HL1501:=Lib.hid h1501.len;clear h1501;have HB1501:=Lib.hid (HS0.out.kept hb1501);clear hb1501)|((with_reducible show Calls _ 137 #[] _ _);go_at_call 137; refine (order_any _).mono ?_;rintro e w1502 ⟨z1502,rfl,h1502,hb1502⟩;have HZ1502:=Lib.hid h1502;have HL1502:=Lib.hid h1502.len;clear h1502;have HB1502:=Lib.hid (HB1501.out.kept hb1502);clear hb1502;clear HB1501)|((with_reducible show Calls _ 136 #[.agg _, .agg _] _ _);go_at_call 136; refine (HNL.out _ _ _ HZ1501.out HZ1502.out).mono ?_;rintro e w1503 ⟨rfl,hb1503⟩;have HB1503:=Lib.hid (HB1502.out.kept hb1503);clear hb1503;clear HB1502))
 (try simp only [Exit.then])
 go_ret
 exact ⟨rfl,HB1503.out.below⟩
theorem prod_lt {a b:Nat} (ha:a < 18446744073709551616 ^ 4) (hb:b < 18446744073709551616 ^ 4):a * b < 18446744073709551616 ^ 8:=by
 rw [show 8=4+4 from rfl,Nat.pow_add]
 exact Nat.mul_lt_mul_of_lt_of_lt ha hb
theorem smul_any {xs ys:List Int} (a b:Nat) (w:World) (hx:K32 xs a) (hy:K32 ys b):Calls Tryd.prog 88 #[.agg (arr .u8 xs), .agg (arr .u8 ys)] w fun e w'=>∃ zs,e = .returned (.agg (arr .u8 zs))∧K32 zs (a * b % q)∧Below w.heap.size w w':=by
 have hab:a * b < 18446744073709551616 ^ 8:=prod_lt (by rw [← pow_same];exact hx.2) (by rw [← pow_same];exact hy.2)
 obtain ⟨ws,hws⟩:∃ r,r=dig 18446744073709551616 8 (a * b):=⟨_,rfl⟩
 have WL:Hid (ws.length=8):=Lib.hid (by rw [hws,dig_len])
 have WB:Hid (∀ x∈ws,x < 18446744073709551616):=Lib.hid (by rw [hws];exact dig_lt _ (by decide) _ _)
 have WV:Hid (val 18446744073709551616 ws=a * b):=Lib.hid (by rw [hws,val_dig,Nat.mod_eq_of_lt hab])
 obtain ⟨w8,hw8⟩:∃ x,x=nar ws:=⟨_,rfl⟩
 have W8L:Hid (w8.length=8):=Lib.hid (by rw [hw8,nar_len,WL.out])
 have W8G:Hid (∀ k,w8.getD k 0=((ws.getD k 0:Nat):Int)):=Lib.hid (fun k=>by rw [hw8,nar_get])
 have HM:Hid (∀ (us vs:List Int) (w:World),N4 us a→N4 vs b→Calls Tryd.prog 133 #[.agg (arr .u64 us), .agg (arr .u64 vs)] w fun e w'=>e = .returned (.agg (arr .u64 w8))∧Below w.heap.size w w'):=Lib.hid (by
  rintro us vs w ⟨rfl,h1⟩ ⟨rfl,h2⟩
  have hm:=lmul_any (dig 18446744073709551616 4 a) (dig 18446744073709551616 4 b) w (dig_len _ _ _) (dig_len _ _ _) (dig_lt _ (by decide) _ _) (dig_lt _ (by decide) _ _)
  rw [vd a h1,vd b h2,← hws,← hw8] at hm
  exact hm)
 have HX:=Lib.hid hx
 have HY:=Lib.hid hy
 have HXL:=Lib.hid hx.len
 have HYL:=Lib.hid hy.len
 obtain ⟨zn,hzn⟩:∃ zs:List Int,zs=List.replicate 32 0:=⟨_,rfl⟩
 have HZzn:Hid (∀ w,(zeroValue 23).run Tryd.prog w = .ok (.agg (arr .u8 zn)) w):=Lib.hid (by intro w;rw [hzn];exact zero_num w)
 have HLzn:Hid (zn.length=32):=Lib.hid (by rw [hzn];rfl)
 obtain ⟨z8,hz8⟩:∃ zs:List Int,zs=List.replicate 8 0:=⟨_,rfl⟩
 have HZz8:Hid (∀ w,(zeroValue 172).run Tryd.prog w = .ok (.agg (arr .u64 z8)) w):=Lib.hid (by intro w;rw [hz8];exact Lm.zero8 w)
 have HLz8:Hid (z8.length=8):=Lib.hid (by rw [hz8];rfl)
 have HS0:=Lib.hid (Blk.three w (arr .u8 xs) (arr .u8 ys) (arr .u8 zn) 23 23 23)
 clear hzn hz8 hx hy hab hws hw8
 go_enter Tryd.func88, Tryd.ntmps88
 go_upto_region 1 with (first|((with_reducible refine aS 4 ?_);refine wpList_alloc_row rfl 23 rfl _ (HZzn.out _) ?_))
 (try simp only [World.size_alloc,Act.put,sA,sZ,sS])
 generalize (((w.alloc (.cells (arr .u8 xs) 23)).alloc (.cells (arr .u8 ys) 23)).alloc (.cells (arr .u8 zn) 23))=wb at HS0 ⊢
 go_cut [5] (fun u5 wx=>∃ gg,u5 = .pointer (some ⟨gg,0,none⟩)∧Blk w wx [(w.heap.size,arr .u8 xs, 23),(w.heap.size+1,arr .u8 ys, 23),(w.heap.size+1+1,arr .u8 zn, 23),(gg,arr .u64 w8, 172)])
 case first =>
  have HK0:=Lib.hid ((Kept.refl (fun _=>False) wb).drew)
  have HBd:=Lib.hid (HS0.out.drew)
  refine wp_region_held_drew (S:=(fun w'=>Kept (fun _=>False) wb w')) (by kernel_rfl) (HK0.out) (fun hHeld=>?_)
  generalize wb.drew=wd at HK0 HBd hHeld ⊢
  refine' wpAnyH_take (i:=0) (oi:=(⟨some 6,_,_,_,_,none⟩:Oper)) (v:=_) rfl (by kernel_rfl) (by kernel_rfl) (by kernel_rfl) (fun _ _ _ h=>h) (yieldsIf_load_mid (by rfl) _ _ rfl _ _ rfl (xs.map (Value.int .u8)) _ ?hS1504 Tryd.underlying23 rfl (by rw [List.length_map];exact num_i HXL.out)) (by assumption) ?rest1504
  case hS1504=>(intro w hSw;(try dsimp only at hSw);exact range_part (hSw.blk (HS0.out.get 0 rfl) (fun e=>e.elim)) 0 _ (by rw [List.length_map];exact arr_part _ _))
  (try simp only [Act.put,sA,sZ,sS])
  refine' wpAnyH_take (i:=2) (oi:=(⟨some 8,_,_,_,_,none⟩:Oper)) (v:=_) rfl (by kernel_rfl) (by kernel_rfl) (by kernel_rfl) (fun _ _ _ h=>h) (yieldsIf_load_mid (by rfl) _ _ rfl _ _ rfl (ys.map (Value.int .u8)) _ ?hS1505 Tryd.underlying23 rfl (by rw [List.length_map];exact num_i HYL.out)) (by assumption) ?rest1505
  case hS1505=>(intro w hSw;(try dsimp only at hSw);exact range_part (hSw.blk (HS0.out.get 1 rfl) (fun e=>e.elim)) 0 _ (by rw [List.length_map];exact arr_part _ _))
  (try simp only [Act.put,sA,sZ,sS])
  refine wpAnyH_ready (rs:=[1,5]) (by kernel_rfl) (by simp) ?_
  refine AllReadyH.cons (o:=(⟨some 7,_,_,_,_,none⟩:Oper)) rfl (fun K hK=>?_) ?_
  ·go_simp
   go_at_call 117
   refine (of4 _ _ HX.out).mono ?_
   rintro e w1506 ⟨z1506,rfl,h1506,hb1506⟩
   have HZ1506:=Lib.hid h1506
   have HL1506:=Lib.hid h1506.len
   clear h1506
   have HB1506:=Lib.hid (HBd.out.kept hb1506)
   have HK1506:=Lib.hid (HK0.out.trans (Kept.of_below hb1506))
   clear hb1506
   (try dsimp only)
   clear HBd
   clear HK0
   clear hHeld
   refine hK.out _ _ (HK1506.out) (fun hHeld=>?_)
   clear hK K
   (try simp only [Act.put,sA,sZ,sS])
   refine wpAnyH_ready (rs:=[3,5]) (by kernel_rfl) (by simp) ?_
   refine AllReadyH.cons (o:=(⟨some 9,_,_,_,_,none⟩:Oper)) rfl (fun K hK=>?_) ?_
   ·go_simp
    go_at_call 117
    refine (of4 _ _ HY.out).mono ?_
    rintro e w1507 ⟨z1507,rfl,h1507,hb1507⟩
    have HZ1507:=Lib.hid h1507
    have HL1507:=Lib.hid h1507.len
    clear h1507
    have HB1507:=Lib.hid (HB1506.out.kept hb1507)
    have HK1507:=Lib.hid (HK1506.out.trans (Kept.of_below hb1507))
    clear hb1507
    (try dsimp only)
    clear HB1506
    clear HK1506
    clear hHeld
    refine hK.out _ _ (HK1507.out) (fun hHeld=>?_)
    clear hK K
    (try simp only [Act.put,sA,sZ,sS])
    refine wpAnyH_ready (rs:=[4,5]) (by kernel_rfl) (by simp) ?_
    refine AllReadyH.cons (o:=(⟨some 10,_,_,_,_,none⟩:Oper)) rfl (fun K hK=>?_) ?_
    ·go_simp
     go_at_call 133
     refine (HM.out _ _ _ HZ1506.out HZ1507.out).mono ?_
     rintro e w1508 ⟨rfl,hb1508⟩
     have HB1508:=Lib.hid (HB1507.out.kept hb1508)
     have HK1508:=Lib.hid (HK1507.out.trans (Kept.of_below hb1508))
     clear hb1508
     (try dsimp only)
     clear HB1507
     clear HK1507
     clear hHeld
     refine hK.out _ _ (HK1508.out) (fun hHeld=>?_)
     clear hK K
     (try simp only [Act.put,sA,sZ,sS])
     refine wpAnyH_ready (rs:=[5]) (by kernel_rfl) (by simp) ?_
     refine AllReadyH.cons (o:=(⟨some 5,_,_,_,_,none⟩:Oper)) rfl (fun K hK=>?_) AllReadyH.nil
     refine step_alloc_row rfl 172 rfl _ (HZz8.out _) ?_
     have HB1509:=Lib.hid (HB1508.out.alloc (arr .u64 z8) 172)
     have HK1509:=Lib.hid (HK1508.out.alloc (.cells (arr .u64 z8) 172))
     have HN1509:=Lib.hid (show wb.heap.size≤(w1508).heap.size from HK1508.out.size)
     generalize (w1508).heap.size=g1509 at HB1509 HN1509 ⊢
     generalize (w1508).alloc (.cells (arr .u64 z8) 172)=w1509 at HB1509 HK1509 ⊢
     clear HB1508
     clear HK1508
     clear hHeld
     refine hK.out _ _ (HK1509.out) (fun hHeld=>?_)
     clear hK K
     (try simp only [Act.put,sA,sZ,sS])
     refine wpAnyH_ready (rs:=[6]) (by kernel_rfl) (by simp) ?_
     refine AllReadyH.cons (o:=(⟨none,_,_,_,_,none⟩:Oper)) rfl (fun K hK=>?_) AllReadyH.nil
     refine step_store_whole rfl 172 (.tmp 5) (.tmp 10) rfl (g1509) _ _ _ (HB1509.out.get 3 rfl) rfl rfl (arr_len2 _ _ W8L.out HLz8.out) (t8_s W8L.out) (all_arr _ _) ?_
     intro w1510 hb1510 hk1510 hz1510
     have HB1510:=Lib.hid (HB1509.out.put 3 rfl hk1510 hb1510)
     have HK1510:=Lib.hid (HK1509.out.trans_new hk1510 (fun i hi e=>absurd hi (by rw [e];exact Nat.not_lt.2 HN1509.out)))
     clear hb1510 hk1510 hz1510
     clear HB1509
     clear HK1509
     clear hHeld
     refine hK.out _ _ (HK1510.out) (fun hHeld=>?_)
     clear hK K
     (try simp only [Act.put])
     refine wpAnyH_done (by kernel_rfl) ?_ _
     go_wp2_with fail
     go_meet
     exact ⟨_,rfl,HB1510.out⟩
    refine AllReadyH.cons (o:=(⟨some 5,_,_,_,_,none⟩:Oper)) rfl (fun K hK=>?_) ?_
    ·refine step_alloc_row rfl 172 rfl _ (HZz8.out _) ?_
     have HB1511:=Lib.hid (HB1507.out.alloc (arr .u64 z8) 172)
     have HK1511:=Lib.hid (HK1507.out.alloc (.cells (arr .u64 z8) 172))
     have HN1511:=Lib.hid (show wb.heap.size≤(w1507).heap.size from HK1507.out.size)
     generalize (w1507).heap.size=g1511 at HB1511 HN1511 ⊢
     generalize (w1507).alloc (.cells (arr .u64 z8) 172)=w1511 at HB1511 HK1511 ⊢
     clear HB1507
     clear HK1507
     clear hHeld
     refine hK.out _ _ (HK1511.out) (fun hHeld=>?_)
     clear hK K
     (try simp only [Act.put,sA,sZ,sS])
     refine wpAnyH_ready (rs:=[4]) (by kernel_rfl) (by simp) ?_
     refine AllReadyH.cons (o:=(⟨some 10,_,_,_,_,none⟩:Oper)) rfl (fun K hK=>?_) AllReadyH.nil
     go_simp
     go_at_call 133
     refine (HM.out _ _ _ HZ1506.out HZ1507.out).mono ?_
     rintro e w1512 ⟨rfl,hb1512⟩
     have HB1512:=Lib.hid (HB1511.out.kept hb1512)
     have HK1512:=Lib.hid (HK1511.out.trans (Kept.of_below hb1512))
     clear hb1512
     (try dsimp only)
     clear HB1511
     clear HK1511
     clear hHeld
     refine hK.out _ _ (HK1512.out) (fun hHeld=>?_)
     clear hK K
     (try simp only [Act.put,sA,sZ,sS])
     refine wpAnyH_ready (rs:=[6]) (by kernel_rfl) (by simp) ?_
     refine AllReadyH.cons (o:=(⟨none,_,_,_,_,none⟩:Oper)) rfl (fun K hK=>?_) AllReadyH.nil
     refine step_store_whole rfl 172 (.tmp 5) (.tmp 10) rfl (g1511) _ _ _ (HB1512.out.get 3 rfl) rfl rfl (arr_len2 _ _ W8L.out HLz8.out) (t8_s W8L.out) (all_arr _ _) ?_
     intro w1513 hb1513 hk1513 hz1513
     have HB1513:=Lib.hid (HB1512.out.put 3 rfl hk1513 hb1513)
     have HK1513:=Lib.hid (HK1512.out.trans_new hk1513 (fun i hi e=>absurd hi (by rw [e];exact Nat.not_lt.2 HN1511.out)))
     clear hb1513 hk1513 hz1513
     clear HB1512
     clear HK1512
     clear hHeld
     refine hK.out _ _ (HK1513.out) (fun hHeld=>?_)
     clear hK K
     (try simp only [Act.put])
     refine wpAnyH_done (by kernel_rfl) ?_ _
     go_wp2_with fail
     go_meet
     exact ⟨_,rfl,HB1513.out⟩
    exact AllReadyH.nil
   refine AllReadyH.cons (o:=(⟨some 5,_,_,_,_,none⟩:Oper)) rfl (fun K hK=>?_) ?_
   ·refine step_alloc_row rfl 172 rfl _ (HZz8.out _) ?_
    have HB1514:=Lib.hid (HB1506.out.alloc (arr .u64 z8) 172)
    have HK1514:=Lib.hid (HK1506.out.alloc (.cells (arr .u64 z8) 172))
    have HN1514:=Lib.hid (show wb.heap.size≤(w1506).heap.size from HK1506.out.size)
    generalize (w1506).heap.size=g1514 at HB1514 HN1514 ⊢
    generalize (w1506).alloc (.cells (arr .u64 z8) 172)=w1514 at HB1514 HK1514 ⊢
    clear HB1506
    clear HK1506
    clear hHeld
    refine hK.out _ _ (HK1514.out) (fun hHeld=>?_)
    clear hK K
    (try simp only [Act.put,sA,sZ,sS])
    refine wpAnyH_ready (rs:=[3]) (by kernel_rfl) (by simp) ?_
    refine AllReadyH.cons (o:=(⟨some 9,_,_,_,_,none⟩:Oper)) rfl (fun K hK=>?_) AllReadyH.nil
    go_simp
    go_at_call 117
    refine (of4 _ _ HY.out).mono ?_
    rintro e w1515 ⟨z1515,rfl,h1515,hb1515⟩
    have HZ1515:=Lib.hid h1515
    have HL1515:=Lib.hid h1515.len
    clear h1515
    have HB1515:=Lib.hid (HB1514.out.kept hb1515)
    have HK1515:=Lib.hid (HK1514.out.trans (Kept.of_below hb1515))
    clear hb1515
    (try dsimp only)
    clear HB1514
    clear HK1514
    clear hHeld
    refine hK.out _ _ (HK1515.out) (fun hHeld=>?_)
    clear hK K
    (try simp only [Act.put,sA,sZ,sS])
    refine wpAnyH_ready (rs:=[4]) (by kernel_rfl) (by simp) ?_
    refine AllReadyH.cons (o:=(⟨some 10,_,_,_,_,none⟩:Oper)) rfl (fun K hK=>?_) AllReadyH.nil
    go_simp
    go_at_call 133
    refine (HM.out _ _ _ HZ1506.out HZ1515.out).mono ?_
    rintro e w1516 ⟨rfl,hb1516⟩
    have HB1516:=Lib.hid (HB1515.out.kept hb1516)
    have HK1516:=Lib.hid (HK1515.out.trans (Kept.of_below hb1516))
    clear hb1516
    (try dsimp only)
    clear HB1515
    clear HK1515
    clear hHeld
    refine hK.out _ _ (HK1516.out) (fun hHeld=>?_)
    clear hK K
    (try simp only [Act.put,sA,sZ,sS])
    refine wpAnyH_ready (rs:=[6]) (by kernel_rfl) (by simp) ?_
    refine AllReadyH.cons (o:=(⟨none,_,_,_,_,none⟩:Oper)) rfl (fun K hK=>?_) AllReadyH.nil
    refine step_store_whole rfl 172 (.tmp 5) (.tmp 10) rfl (g1514) _ _ _ (HB1516.out.get 3 rfl) rfl rfl (arr_len2 _ _ W8L.out HLz8.out) (t8_s W8L.out) (all_arr _ _) ?_
    intro w1517 hb1517 hk1517 hz1517
    have HB1517:=Lib.hid (HB1516.out.put 3 rfl hk1517 hb1517)
    have HK1517:=Lib.hid (HK1516.out.trans_new hk1517 (fun i hi e=>absurd hi (by rw [e];exact Nat.not_lt.2 HN1514.out)))
    clear hb1517 hk1517 hz1517
    clear HB1516
    clear HK1516
    clear hHeld
    refine hK.out _ _ (HK1517.out) (fun hHeld=>?_)
    clear hK K
    (try simp only [Act.put])
    refine wpAnyH_done (by kernel_rfl) ?_ _
    go_wp2_with fail
    go_meet
    exact ⟨_,rfl,HB1517.out⟩
   exact AllReadyH.nil
  refine AllReadyH.cons (o:=(⟨some 5,_,_,_,_,none⟩:Oper)) rfl (fun K hK=>?_) ?_
  ·refine step_alloc_row rfl 172 rfl _ (HZz8.out _) ?_
   have HB1518:=Lib.hid (HBd.out.alloc (arr .u64 z8) 172)
   have HK1518:=Lib.hid (HK0.out.alloc (.cells (arr .u64 z8) 172))
   have HN1518:=Lib.hid (show wb.heap.size≤(wd).heap.size from HK0.out.size)
   generalize (wd).heap.size=g1518 at HB1518 HN1518 ⊢
   generalize (wd).alloc (.cells (arr .u64 z8) 172)=w1518 at HB1518 HK1518 ⊢
   clear HBd
   clear HK0
   clear hHeld
   refine hK.out _ _ (HK1518.out) (fun hHeld=>?_)
   clear hK K
   (try simp only [Act.put,sA,sZ,sS])
   refine wpAnyH_ready (rs:=[1]) (by kernel_rfl) (by simp) ?_
   refine AllReadyH.cons (o:=(⟨some 7,_,_,_,_,none⟩:Oper)) rfl (fun K hK=>?_) AllReadyH.nil
   go_simp
   go_at_call 117
   refine (of4 _ _ HX.out).mono ?_
   rintro e w1519 ⟨z1519,rfl,h1519,hb1519⟩
   have HZ1519:=Lib.hid h1519
   have HL1519:=Lib.hid h1519.len
   clear h1519
   have HB1519:=Lib.hid (HB1518.out.kept hb1519)
   have HK1519:=Lib.hid (HK1518.out.trans (Kept.of_below hb1519))
   clear hb1519
   (try dsimp only)
   clear HB1518
   clear HK1518
   clear hHeld
   refine hK.out _ _ (HK1519.out) (fun hHeld=>?_)
   clear hK K
   (try simp only [Act.put,sA,sZ,sS])
   refine wpAnyH_ready (rs:=[3]) (by kernel_rfl) (by simp) ?_
   refine AllReadyH.cons (o:=(⟨some 9,_,_,_,_,none⟩:Oper)) rfl (fun K hK=>?_) AllReadyH.nil
   go_simp
   go_at_call 117
   refine (of4 _ _ HY.out).mono ?_
   rintro e w1520 ⟨z1520,rfl,h1520,hb1520⟩
   have HZ1520:=Lib.hid h1520
   have HL1520:=Lib.hid h1520.len
   clear h1520
   have HB1520:=Lib.hid (HB1519.out.kept hb1520)
   have HK1520:=Lib.hid (HK1519.out.trans (Kept.of_below hb1520))
   clear hb1520
   (try dsimp only)
   clear HB1519
   clear HK1519
   clear hHeld
   refine hK.out _ _ (HK1520.out) (fun hHeld=>?_)
   clear hK K
   (try simp only [Act.put,sA,sZ,sS])
   refine wpAnyH_ready (rs:=[4]) (by kernel_rfl) (by simp) ?_
   refine AllReadyH.cons (o:=(⟨some 10,_,_,_,_,none⟩:Oper)) rfl (fun K hK=>?_) AllReadyH.nil
   go_simp
   go_at_call 133
   refine (HM.out _ _ _ HZ1519.out HZ1520.out).mono ?_
   rintro e w1521 ⟨rfl,hb1521⟩
   have HB1521:=Lib.hid (HB1520.out.kept hb1521)
   have HK1521:=Lib.hid (HK1520.out.trans (Kept.of_below hb1521))
   clear hb1521
   (try dsimp only)
   clear HB1520
   clear HK1520
   clear hHeld
   refine hK.out _ _ (HK1521.out) (fun hHeld=>?_)
   clear hK K
   (try simp only [Act.put,sA,sZ,sS])
   refine wpAnyH_ready (rs:=[6]) (by kernel_rfl) (by simp) ?_
   refine AllReadyH.cons (o:=(⟨none,_,_,_,_,none⟩:Oper)) rfl (fun K hK=>?_) AllReadyH.nil
   refine step_store_whole rfl 172 (.tmp 5) (.tmp 10) rfl (g1518) _ _ _ (HB1521.out.get 3 rfl) rfl rfl (arr_len2 _ _ W8L.out HLz8.out) (t8_s W8L.out) (all_arr _ _) ?_
   intro w1522 hb1522 hk1522 hz1522
   have HB1522:=Lib.hid (HB1521.out.put 3 rfl hk1522 hb1522)
   have HK1522:=Lib.hid (HK1521.out.trans_new hk1522 (fun i hi e=>absurd hi (by rw [e];exact Nat.not_lt.2 HN1518.out)))
   clear hb1522 hk1522 hz1522
   clear HB1521
   clear HK1521
   clear hHeld
   refine hK.out _ _ (HK1522.out) (fun hHeld=>?_)
   clear hK K
   (try simp only [Act.put])
   refine wpAnyH_done (by kernel_rfl) ?_ _
   go_wp2_with fail
   go_meet
   exact ⟨_,rfl,HB1522.out⟩
  exact AllReadyH.nil
 case rest =>
 obtain ⟨wy,rfl⟩:∃ x:World,x=wc:=⟨_,rfl⟩
 obtain ⟨g8,rfl,hb1⟩:=hcut
 have HB1:=Lib.hid hb1
 have HC8:Hid (∀ i,i < 8→wy.cell? ⟨g8,i,none⟩=some (.int .u64 ((ws.getD i 0:Nat):Int))):=Lib.hid (fun i hi=>by
  have:=arr_get' (hb1.get 3 rfl) i (by rw [W8L.out];exact hi)
  rw [W8G.out] at this
  exact this)
 clear hb1 HS0
 go_wp2_with (first|((with_reducible show Calls _ 132 _ _ _);go_at_call 132; refine (red_any g8 8 _ (a * b) ws _ WL.out (by decide) WB.out WV.out HC8.out).mono ?_;rintro e w5 ⟨z5,rfl,h5,hb5⟩;have HZ5:=Lib.hid h5;have HB5:=Lib.hid (HB1.out.kept hb5);clear h5 hb5)|((with_reducible show Calls _ 130 _ _ _);go_at_call 130; refine (num4 _ _ HZ5.out).mono ?_;rintro e w6 ⟨z6,rfl,h6,hb6⟩;have HZ6:=Lib.hid h6;have HL6:=Lib.hid h6.len;have HB6:=Lib.hid (HB5.out.kept hb6);clear h6 hb6)|((with_reducible refine aT 4 ?_);refine wpList_store_whole rfl 23 _ _ rfl (w.heap.size+1+1) _ _ 23 (HB6.out.get 2 rfl) rfl rfl (arr_len2 _ _ HL6.out HLzn.out) (num_s HL6.out) (all_arr _ _) ?_;intro w7 hb7 hk7 hz7;have HB7:=Lib.hid (HB6.out.put 2 rfl hk7 hb7);clear hb7 hk7 hz7))
 (try simp only [Exit.then])
 refine bodyPost_ret (results_cell_row rfl _ _ (w.heap.size+1+1) 23 _ (0,0) _ rfl (HB7.out.get 2 rfl) Tryd.underlying23 rfl (num_s HL6.out)) rfl ?_
 exact ⟨_,rfl,HZ6.out,HB7.out.below⟩
end Go.Proofs.YtodnkallpfkdiaaDoor.Sl
namespace Go.Proofs.YtodnkallpfkdiaaDoor.Sl
open Go.RowKit Lm Fp Sc
theorem info_u64:(Tryd.prog.info? 123).map (fun i=>(i.zero,i.size,i.bytes))=some (some (.int .u64 0),1,8):=by kernel_rfl
/-- A limb behind four. -/
theorem wpList_app5 {ops:Array Oper} {rest:List Oper} {o:Oper} {a:Act} {Q:Exit→Act→World→Prop} (hg:o.guard=none) (s x:Operand) (w:World) (hop:o.op=Op.call { callee:=Callee.builtin Builtin.append,args := #[s,x],argTypes := #[171, 171] })
  (g gb:Nat) (xx:List Int) (c:Int) (hl:xx.length=4) (hs:a.eval s = .slice (some ⟨g,0,none⟩) 4 4) (hx:a.eval x = .slice (some ⟨gb,0,none⟩) 1 1) (h1:∀ i,i < 4→w.cell? ⟨g,i,none⟩=some (.int .u64 (xx.getD i 0))) (h2:w.cell? ⟨gb,0,none⟩=some (.int .u64 c))
  (h:∀ g' cap w',(∀ i,i < 5→w'.cell? ⟨g',i,none⟩=some (.int .u64 ((xx ++ [c]).getD i 0)))→Below w.heap.size w w'→wpList Tryd.prog ops Q rest (a.put o.dst (.slice (some ⟨g',0,none⟩) 5 cap)) w'):wpList Tryd.prog ops Q (o :: rest) a w:=by
 obtain ⟨i,hi,hz⟩:=Option.map_eq_some_iff.1 info_u64
 simp only [Prod.mk.injEq] at hz
 obtain ⟨z0,z1,z2⟩:=hz
 refine wpList_append_grows w hg s x _ hop 123 i (.int .u64 0) 1 8 Tryd.underlying171 hi z0 z1 z2 rfl (by decide) (some ⟨g,0,none⟩) 4 4 (xx.map (Value.int .u64)) hs (fun e=>by cases e) (by simp [hl]) ?_ ⟨gb,0,none⟩ 1 1 [.int .u64 c] hx rfl ?_ ?_ (by decide) (by decide) (by decide) ?_
 ·intro b hb j u hj
  cases hb
  rw [List.getElem?_map,Option.map_eq_some_iff] at hj
  obtain ⟨y,hy,rfl⟩:=hj
  have hj4:j < 4:=by rw [← hl];exact (List.getElem?_eq_some_iff.1 hy).1
  have:=h1 j hj4
  rw [List.getD,hy] at this
  rw [Addr.add_lit,Nat.zero_add]
  exact this
 ·intro j u hj
  obtain rfl:j=0:=by
   have:=(List.getElem?_eq_some_iff.1 hj).1
   simp at this
   exact this
  cases hj
  rw [Addr.add_lit]
  exact h2
 ·intro u hu
  simp only [List.mem_singleton] at hu
  subst hu
  rfl
 ·intro v' w' hown hgr
  rcases hown.2 with ⟨-, h0⟩|⟨g',cap,cur,rfl, -, -⟩
  ·exact absurd h0 (by decide)
  ·refine h g' cap w' (fun j hj=>?_) ⟨hgr.os,hgr.tape,hgr.output,hgr.size,fun k hk=>hgr.block k hk (by simp)⟩
   have hc:=World.ownsRow.cells hown (g:=g') rfl j (.int .u64 ((xx ++ [c]).getD j 0)) (by
    rw [show xx.map (Value.int .u64) ++ [Value.int .u64 c]=(xx ++ [c]).map (Value.int .u64) by simp,List.getElem?_map,List.getD,List.getElem?_eq_getElem (by simp [hl];omega)]
    rfl)
   rw [Addr.add_lit,Nat.zero_add] at hc
   exact hc
theorem val5 (xs:List Nat) (c:Nat) (hl:xs.length=4):val 18446744073709551616 (xs ++ [c])=val 18446744073709551616 xs+18446744073709551616 ^ 4 * c:=by
 rw [val_append,hl]
 simp [val]
theorem sadd_any {xs ys:List Int} (a b:Nat) (w:World) (hx:K32 xs a) (hy:K32 ys b):Calls Tryd.prog 87 #[.agg (arr .u8 xs), .agg (arr .u8 ys)] w fun e w'=>∃ zs,e = .returned (.agg (arr .u8 zs))∧K32 zs ((a+b) % q)∧Below w.heap.size w w':=by
 have hcl:cry a b < 18446744073709551616:=by
  have h1:=hx.2
  have h2:=hy.2
  rw [pow_same] at h1 h2
  have h3:(a+b) / 18446744073709551616 ^ 4 < 2:=Nat.div_lt_of_lt_mul (by omega)
  exact Nat.lt_of_lt_of_le h3 (by decide)
 have hab:(a+b) % 18446744073709551616 ^ 4+18446744073709551616 ^ 4 * cry a b=a+b:=Nat.mod_add_div _ _
 have HX:=Lib.hid hx
 have HY:=Lib.hid hy
 have HXL:=Lib.hid hx.len
 have HYL:=Lib.hid hy.len
 have HLA:=Lib.hid (fun (us vs:List Int) (w:World) h1 h2 => @ladd4 us vs a b w h1 h2)
 generalize cry a b=c at hcl hab HLA
 have HCL:=Lib.hid hcl
 have HAB:=Lib.hid hab
 obtain ⟨zn,hzn⟩:∃ zs:List Int,zs=List.replicate 32 0:=⟨_,rfl⟩
 have HZzn:Hid (∀ w,(zeroValue 23).run Tryd.prog w = .ok (.agg (arr .u8 zn)) w):=Lib.hid (by intro w;rw [hzn];exact zero_num w)
 have HLzn:Hid (zn.length=32):=Lib.hid (by rw [hzn];rfl)
 obtain ⟨zl,hzl⟩:∃ zs:List Int,zs=List.replicate 4 0:=⟨_,rfl⟩
 have HZzl:Hid (∀ w,(zeroValue 131).run Tryd.prog w = .ok (.agg (arr .u64 zl)) w):=Lib.hid (by intro w;rw [hzl];exact zero_lim w)
 have HLzl:Hid (zl.length=4):=Lib.hid (by rw [hzl];rfl)
 have HS0:=Lib.hid (Blk.three w (arr .u8 xs) (arr .u8 ys) (arr .u8 zn) 23 23 23)
 clear hzn hzl hx hy hcl hab
 go_enter Tryd.func87, Tryd.ntmps87
 go_upto_region 1 with (first|((with_reducible refine aS 4 ?_);refine wpList_alloc_row rfl 23 rfl _ (HZzn.out _) ?_))
 (try simp only [World.size_alloc,Act.put,sA,sZ,sS])
 generalize (((w.alloc (.cells (arr .u8 xs) 23)).alloc (.cells (arr .u8 ys) 23)).alloc (.cells (arr .u8 zn) 23))=wb at HS0 ⊢
 go_cut [5,6] (fun u5 u6 wx=>∃ gg xx,u5 = .pointer (some ⟨gg,0,none⟩)∧u6 = .int .u64 (c:Int)∧N4 xx ((a+b) % 18446744073709551616 ^ 4)∧Blk w wx [(w.heap.size,arr .u8 xs, 23),(w.heap.size+1,arr .u8 ys, 23),(w.heap.size+1+1,arr .u8 zn, 23),(gg,arr .u64 xx, 131)])
 case first =>
  have HK0:=Lib.hid ((Kept.refl (fun _=>False) wb).drew)
  have HBd:=Lib.hid (HS0.out.drew)
  refine wp_region_held_drew (S:=(fun w'=>Kept (fun _=>False) wb w')) (by kernel_rfl) (HK0.out) (fun hHeld=>?_)
  generalize wb.drew=wd at HK0 HBd hHeld ⊢
  refine' wpAnyH_take (i:=0) (oi:=(⟨some 8,_,_,_,_,none⟩:Oper)) (v:=_) rfl (by kernel_rfl) (by kernel_rfl) (by kernel_rfl) (fun _ _ _ h=>h) (yieldsIf_load_mid (by rfl) _ _ rfl _ _ rfl (xs.map (Value.int .u8)) _ ?hS1701 Tryd.underlying23 rfl (by rw [List.length_map];exact num_i HXL.out)) (by assumption) ?rest1701
  case hS1701=>(intro w hSw;(try dsimp only at hSw);exact range_part (hSw.blk (HS0.out.get 0 rfl) (fun e=>e.elim)) 0 _ (by rw [List.length_map];exact arr_part _ _))
  (try simp only [Act.put,sA,sZ,sS])
  refine' wpAnyH_take (i:=2) (oi:=(⟨some 10,_,_,_,_,none⟩:Oper)) (v:=_) rfl (by kernel_rfl) (by kernel_rfl) (by kernel_rfl) (fun _ _ _ h=>h) (yieldsIf_load_mid (by rfl) _ _ rfl _ _ rfl (ys.map (Value.int .u8)) _ ?hS1702 Tryd.underlying23 rfl (by rw [List.length_map];exact num_i HYL.out)) (by assumption) ?rest1702
  case hS1702=>(intro w hSw;(try dsimp only at hSw);exact range_part (hSw.blk (HS0.out.get 1 rfl) (fun e=>e.elim)) 0 _ (by rw [List.length_map];exact arr_part _ _))
  (try simp only [Act.put,sA,sZ,sS])
  refine wpAnyH_ready (rs:=[1,8]) (by kernel_rfl) (by simp) ?_
  refine AllReadyH.cons (o:=(⟨some 9,_,_,_,_,none⟩:Oper)) rfl (fun K hK=>?_) ?_
  ·go_simp
   go_at_call 117
   refine (of4 _ _ HX.out).mono ?_
   rintro e w1703 ⟨z1703,rfl,h1703,hb1703⟩
   have HZ1703:=Lib.hid h1703
   have HL1703:=Lib.hid h1703.len
   clear h1703
   have HB1703:=Lib.hid (HBd.out.kept hb1703)
   have HK1703:=Lib.hid (HK0.out.trans (Kept.of_below hb1703))
   clear hb1703
   (try dsimp only)
   clear HBd
   clear HK0
   clear hHeld
   refine hK.out _ _ (HK1703.out) (fun hHeld=>?_)
   clear hK K
   (try simp only [Act.put,sA,sZ,sS])
   refine wpAnyH_ready (rs:=[3,8]) (by kernel_rfl) (by simp) ?_
   refine AllReadyH.cons (o:=(⟨some 11,_,_,_,_,none⟩:Oper)) rfl (fun K hK=>?_) ?_
   ·go_simp
    go_at_call 117
    refine (of4 _ _ HY.out).mono ?_
    rintro e w1704 ⟨z1704,rfl,h1704,hb1704⟩
    have HZ1704:=Lib.hid h1704
    have HL1704:=Lib.hid h1704.len
    clear h1704
    have HB1704:=Lib.hid (HB1703.out.kept hb1704)
    have HK1704:=Lib.hid (HK1703.out.trans (Kept.of_below hb1704))
    clear hb1704
    (try dsimp only)
    clear HB1703
    clear HK1703
    clear hHeld
    refine hK.out _ _ (HK1704.out) (fun hHeld=>?_)
    clear hK K
    (try simp only [Act.put,sA,sZ,sS])
    refine wpAnyH_ready (rs:=[4,8]) (by kernel_rfl) (by simp) ?_
    refine AllReadyH.cons (o:=({ dst:=some 12,op:=Op.call { callee:=Callee.value (Operand.func 131),args := #[Operand.tmp 9,Operand.tmp 11],argTypes := #[131, 131] },type := 168, pos := "scalar.go:43", after := #[{ on:=1,ground:=Ground.data },{ on:=3,ground:=Ground.data },{ on:=3,ground:=Ground.chain }],guard:=none }:Oper)) rfl (fun K hK=>?_) ?_
    ·go_simp
     go_at_call 131
     refine (HLA.out _ _ _ HZ1703.out HZ1704.out).mono ?_
     rintro e w1705 ⟨z1705,rfl,h1705,hb1705⟩
     have HZ1705:=Lib.hid h1705
     have HL1705:=Lib.hid h1705.len
     clear h1705
     have HB1705:=Lib.hid (HB1704.out.kept hb1705)
     have HK1705:=Lib.hid (HK1704.out.trans (Kept.of_below hb1705))
     clear hb1705
     (try dsimp only)
     clear HB1704
     clear HK1704
     clear hHeld
     refine hK.out _ _ (HK1705.out) (fun hHeld=>?_)
     clear hK K
     (try simp only [Act.put,sA,sZ,sS])
     refine wpAnyH_take (i:=5) (oi:=({ dst:=some 7,op:=Op.move (Operand.tmp 12),type := 168, pos := "scalar.go:43", after := #[{ on:=4,ground:=Ground.data }],guard:=none }:Oper)) (v:=?v1706) rfl (by kernel_rfl) (by kernel_rfl) (by kernel_rfl) (fun _ _ _ h=>h) (Or.inl ⟨by rfl,?hy1706⟩) (by assumption) ?rest1706
     case hy1706=>(intro w hSw;(try dsimp only at hSw);go_simp;try (with_reducible rfl))
     (try simp only [Act.put,sA,sZ,sS])
     refine wpAnyH_take (i:=6) (oi:=(⟨some 13,_,_,_,_,none⟩:Oper)) (v:=?v1707) rfl (by kernel_rfl) (by kernel_rfl) (by kernel_rfl) (fun _ _ _ h=>h) (Or.inl ⟨by rfl,?hy1707⟩) (by assumption) ?rest1707
     case hy1707=>(intro w hSw;(try dsimp only at hSw);go_simp;try (with_reducible rfl))
     (try simp only [Act.put,sA,sZ,sS])
     refine wpAnyH_take (i:=7) (oi:=(⟨some 14,_,_,_,_,none⟩:Oper)) (v:=?v1708) rfl (by kernel_rfl) (by kernel_rfl) (by kernel_rfl) (fun _ _ _ h=>h) (Or.inl ⟨by rfl,?hy1708⟩) (by assumption) ?rest1708
     case hy1708=>(intro w hSw;(try dsimp only at hSw);go_simp;try (with_reducible rfl))
     (try simp only [Act.put,sA,sZ,sS])
     refine wpAnyH_ready (rs:=[8]) (by kernel_rfl) (by simp) ?_
     refine AllReadyH.cons (o:=(⟨some 5,_,_,_,_,none⟩:Oper)) rfl (fun K hK=>?_) AllReadyH.nil
     refine step_alloc_row rfl 131 rfl _ (HZzl.out _) ?_
     have HB1709:=Lib.hid (HB1705.out.alloc (arr .u64 zl) 131)
     have HK1709:=Lib.hid (HK1705.out.alloc (.cells (arr .u64 zl) 131))
     have HN1709:=Lib.hid (show wb.heap.size≤(w1705).heap.size from HK1705.out.size)
     generalize (w1705).heap.size=g1709 at HB1709 HN1709 ⊢
     generalize (w1705).alloc (.cells (arr .u64 zl) 131)=w1709 at HB1709 HK1709 ⊢
     clear HB1705
     clear HK1705
     clear hHeld
     refine hK.out _ _ (HK1709.out) (fun hHeld=>?_)
     clear hK K
     (try simp only [Act.put,sA,sZ,sS])
     refine wpAnyH_ready (rs:=[9]) (by kernel_rfl) (by simp) ?_
     refine AllReadyH.cons (o:=(⟨none,_,_,_,_,none⟩:Oper)) rfl (fun K hK=>?_) AllReadyH.nil
     refine step_store_whole rfl 131 (.tmp 5) (.tmp 13) rfl (g1709) _ _ _ (HB1709.out.get 3 rfl) rfl rfl (arr_len2 _ _ HL1705.out HLzl.out) (lim_s HL1705.out) (all_arr _ _) ?_
     intro w1710 hb1710 hk1710 hz1710
     have HB1710:=Lib.hid (HB1709.out.put 3 rfl hk1710 hb1710)
     have HK1710:=Lib.hid (HK1709.out.trans_new hk1710 (fun i hi e=>absurd hi (by rw [e];exact Nat.not_lt.2 HN1709.out)))
     clear hb1710 hk1710 hz1710
     clear HB1709
     clear HK1709
     clear hHeld
     refine hK.out _ _ (HK1710.out) (fun hHeld=>?_)
     clear hK K
     (try simp only [Act.put])
     refine wpAnyH_take (i:=10) (oi:=(⟨some 6,_,_,_,_,none⟩:Oper)) (v:=?v1711) rfl (by kernel_rfl) (by kernel_rfl) (by kernel_rfl) (fun _ _ _ h=>h) (Or.inl ⟨by rfl,?hy1711⟩) (by assumption) ?rest1711
     case hy1711=>(intro w hSw;(try dsimp only at hSw);go_simp;try (with_reducible rfl))
     (try simp only [Act.put,sA,sZ,sS])
     refine wpAnyH_done (by kernel_rfl) ?_ _
     go_wp2_with fail
     go_meet
     exact ⟨_,_,rfl,rfl,HZ1705.out,HB1710.out⟩
    refine AllReadyH.cons (o:=(⟨some 5,_,_,_,_,none⟩:Oper)) rfl (fun K hK=>?_) ?_
    ·refine step_alloc_row rfl 131 rfl _ (HZzl.out _) ?_
     have HB1712:=Lib.hid (HB1704.out.alloc (arr .u64 zl) 131)
     have HK1712:=Lib.hid (HK1704.out.alloc (.cells (arr .u64 zl) 131))
     have HN1712:=Lib.hid (show wb.heap.size≤(w1704).heap.size from HK1704.out.size)
     generalize (w1704).heap.size=g1712 at HB1712 HN1712 ⊢
     generalize (w1704).alloc (.cells (arr .u64 zl) 131)=w1712 at HB1712 HK1712 ⊢
     clear HB1704
     clear HK1704
     clear hHeld
     refine hK.out _ _ (HK1712.out) (fun hHeld=>?_)
     clear hK K
     (try simp only [Act.put,sA,sZ,sS])
     refine wpAnyH_ready (rs:=[4]) (by kernel_rfl) (by simp) ?_
     refine AllReadyH.cons (o:=({ dst:=some 12,op:=Op.call { callee:=Callee.value (Operand.func 131),args := #[Operand.tmp 9,Operand.tmp 11],argTypes := #[131, 131] },type := 168, pos := "scalar.go:43", after := #[{ on:=1,ground:=Ground.data },{ on:=3,ground:=Ground.data },{ on:=3,ground:=Ground.chain }],guard:=none }:Oper)) rfl (fun K hK=>?_) AllReadyH.nil
     go_simp
     go_at_call 131
     refine (HLA.out _ _ _ HZ1703.out HZ1704.out).mono ?_
     rintro e w1713 ⟨z1713,rfl,h1713,hb1713⟩
     have HZ1713:=Lib.hid h1713
     have HL1713:=Lib.hid h1713.len
     clear h1713
     have HB1713:=Lib.hid (HB1712.out.kept hb1713)
     have HK1713:=Lib.hid (HK1712.out.trans (Kept.of_below hb1713))
     clear hb1713
     (try dsimp only)
     clear HB1712
     clear HK1712
     clear hHeld
     refine hK.out _ _ (HK1713.out) (fun hHeld=>?_)
     clear hK K
     (try simp only [Act.put,sA,sZ,sS])
     refine wpAnyH_take (i:=5) (oi:=({ dst:=some 7,op:=Op.move (Operand.tmp 12),type := 168, pos := "scalar.go:43", after := #[{ on:=4,ground:=Ground.data }],guard:=none }:Oper)) (v:=?v1714) rfl (by kernel_rfl) (by kernel_rfl) (by kernel_rfl) (fun _ _ _ h=>h) (Or.inl ⟨by rfl,?hy1714⟩) (by assumption) ?rest1714
     case hy1714=>(intro w hSw;(try dsimp only at hSw);go_simp;try (with_reducible rfl))
     (try simp only [Act.put,sA,sZ,sS])
     refine wpAnyH_take (i:=6) (oi:=(⟨some 13,_,_,_,_,none⟩:Oper)) (v:=?v1715) rfl (by kernel_rfl) (by kernel_rfl) (by kernel_rfl) (fun _ _ _ h=>h) (Or.inl ⟨by rfl,?hy1715⟩) (by assumption) ?rest1715
     case hy1715=>(intro w hSw;(try dsimp only at hSw);go_simp;try (with_reducible rfl))
     (try simp only [Act.put,sA,sZ,sS])
     refine wpAnyH_take (i:=7) (oi:=(⟨some 14,_,_,_,_,none⟩:Oper)) (v:=?v1716) rfl (by kernel_rfl) (by kernel_rfl) (by kernel_rfl) (fun _ _ _ h=>h) (Or.inl ⟨by rfl,?hy1716⟩) (by assumption) ?rest1716
     case hy1716=>(intro w hSw;(try dsimp only at hSw);go_simp;try (with_reducible rfl))
     (try simp only [Act.put,sA,sZ,sS])
     refine wpAnyH_ready (rs:=[9]) (by kernel_rfl) (by simp) ?_
     refine AllReadyH.cons (o:=(⟨none,_,_,_,_,none⟩:Oper)) rfl (fun K hK=>?_) AllReadyH.nil
     refine step_store_whole rfl 131 (.tmp 5) (.tmp 13) rfl (g1712) _ _ _ (HB1713.out.get 3 rfl) rfl rfl (arr_len2 _ _ HL1713.out HLzl.out) (lim_s HL1713.out) (all_arr _ _) ?_
     intro w1717 hb1717 hk1717 hz1717
     have HB1717:=Lib.hid (HB1713.out.put 3 rfl hk1717 hb1717)
     have HK1717:=Lib.hid (HK1713.out.trans_new hk1717 (fun i hi e=>absurd hi (by rw [e];exact Nat.not_lt.2 HN1712.out)))
     clear hb1717 hk1717 hz1717
     clear HB1713
     clear HK1713
     clear hHeld
     refine hK.out _ _ (HK1717.out) (fun hHeld=>?_)
     clear hK K
     (try simp only [Act.put])
     refine wpAnyH_take (i:=10) (oi:=(⟨some 6,_,_,_,_,none⟩:Oper)) (v:=?v1718) rfl (by kernel_rfl) (by kernel_rfl) (by kernel_rfl) (fun _ _ _ h=>h) (Or.inl ⟨by rfl,?hy1718⟩) (by assumption) ?rest1718
     case hy1718=>(intro w hSw;(try dsimp only at hSw);go_simp;try (with_reducible rfl))
     (try simp only [Act.put,sA,sZ,sS])
     refine wpAnyH_done (by kernel_rfl) ?_ _
     go_wp2_with fail
     go_meet
     exact ⟨_,_,rfl,rfl,HZ1713.out,HB1717.out⟩
    exact AllReadyH.nil
   refine AllReadyH.cons (o:=(⟨some 5,_,_,_,_,none⟩:Oper)) rfl (fun K hK=>?_) ?_
   ·refine step_alloc_row rfl 131 rfl _ (HZzl.out _) ?_
    have HB1719:=Lib.hid (HB1703.out.alloc (arr .u64 zl) 131)
    have HK1719:=Lib.hid (HK1703.out.alloc (.cells (arr .u64 zl) 131))
    have HN1719:=Lib.hid (show wb.heap.size≤(w1703).heap.size from HK1703.out.size)
    generalize (w1703).heap.size=g1719 at HB1719 HN1719 ⊢
    generalize (w1703).alloc (.cells (arr .u64 zl) 131)=w1719 at HB1719 HK1719 ⊢
    clear HB1703
    clear HK1703
    clear hHeld
    refine hK.out _ _ (HK1719.out) (fun hHeld=>?_)
    clear hK K
    (try simp only [Act.put,sA,sZ,sS])
    refine wpAnyH_ready (rs:=[3]) (by kernel_rfl) (by simp) ?_
    refine AllReadyH.cons (o:=(⟨some 11,_,_,_,_,none⟩:Oper)) rfl (fun K hK=>?_) AllReadyH.nil
    go_simp
    go_at_call 117
    refine (of4 _ _ HY.out).mono ?_
    rintro e w1720 ⟨z1720,rfl,h1720,hb1720⟩
    have HZ1720:=Lib.hid h1720
    have HL1720:=Lib.hid h1720.len
    clear h1720
    have HB1720:=Lib.hid (HB1719.out.kept hb1720)
    have HK1720:=Lib.hid (HK1719.out.trans (Kept.of_below hb1720))
    clear hb1720
    (try dsimp only)
    clear HB1719
    clear HK1719
    clear hHeld
    refine hK.out _ _ (HK1720.out) (fun hHeld=>?_)
    clear hK K
    (try simp only [Act.put,sA,sZ,sS])
    refine wpAnyH_ready (rs:=[4]) (by kernel_rfl) (by simp) ?_
    refine AllReadyH.cons (o:=({ dst:=some 12,op:=Op.call { callee:=Callee.value (Operand.func 131),args := #[Operand.tmp 9,Operand.tmp 11],argTypes := #[131, 131] },type := 168, pos := "scalar.go:43", after := #[{ on:=1,ground:=Ground.data },{ on:=3,ground:=Ground.data },{ on:=3,ground:=Ground.chain }],guard:=none }:Oper)) rfl (fun K hK=>?_) AllReadyH.nil
    go_simp
    go_at_call 131
    refine (HLA.out _ _ _ HZ1703.out HZ1720.out).mono ?_
    rintro e w1721 ⟨z1721,rfl,h1721,hb1721⟩
    have HZ1721:=Lib.hid h1721
    have HL1721:=Lib.hid h1721.len
    clear h1721
    have HB1721:=Lib.hid (HB1720.out.kept hb1721)
    have HK1721:=Lib.hid (HK1720.out.trans (Kept.of_below hb1721))
    clear hb1721
    (try dsimp only)
    clear HB1720
    clear HK1720
    clear hHeld
    refine hK.out _ _ (HK1721.out) (fun hHeld=>?_)
    clear hK K
    (try simp only [Act.put,sA,sZ,sS])
    refine wpAnyH_take (i:=5) (oi:=({ dst:=some 7,op:=Op.move (Operand.tmp 12),type := 168, pos := "scalar.go:43", after := #[{ on:=4,ground:=Ground.data }],guard:=none }:Oper)) (v:=?v1722) rfl (by kernel_rfl) (by kernel_rfl) (by kernel_rfl) (fun _ _ _ h=>h) (Or.inl ⟨by rfl,?hy1722⟩) (by assumption) ?rest1722
    case hy1722=>(intro w hSw;(try dsimp only at hSw);go_simp;try (with_reducible rfl))
    (try simp only [Act.put,sA,sZ,sS])
    refine wpAnyH_take (i:=6) (oi:=(⟨some 13,_,_,_,_,none⟩:Oper)) (v:=?v1723) rfl (by kernel_rfl) (by kernel_rfl) (by kernel_rfl) (fun _ _ _ h=>h) (Or.inl ⟨by rfl,?hy1723⟩) (by assumption) ?rest1723
    case hy1723=>(intro w hSw;(try dsimp only at hSw);go_simp;try (with_reducible rfl))
    (try simp only [Act.put,sA,sZ,sS])
    refine wpAnyH_take (i:=7) (oi:=(⟨some 14,_,_,_,_,none⟩:Oper)) (v:=?v1724) rfl (by kernel_rfl) (by kernel_rfl) (by kernel_rfl) (fun _ _ _ h=>h) (Or.inl ⟨by rfl,?hy1724⟩) (by assumption) ?rest1724
    case hy1724=>(intro w hSw;(try dsimp only at hSw);go_simp;try (with_reducible rfl))
    (try simp only [Act.put,sA,sZ,sS])
    refine wpAnyH_ready (rs:=[9]) (by kernel_rfl) (by simp) ?_
    refine AllReadyH.cons (o:=(⟨none,_,_,_,_,none⟩:Oper)) rfl (fun K hK=>?_) AllReadyH.nil
    refine step_store_whole rfl 131 (.tmp 5) (.tmp 13) rfl (g1719) _ _ _ (HB1721.out.get 3 rfl) rfl rfl (arr_len2 _ _ HL1721.out HLzl.out) (lim_s HL1721.out) (all_arr _ _) ?_
    intro w1725 hb1725 hk1725 hz1725
    have HB1725:=Lib.hid (HB1721.out.put 3 rfl hk1725 hb1725)
    have HK1725:=Lib.hid (HK1721.out.trans_new hk1725 (fun i hi e=>absurd hi (by rw [e];exact Nat.not_lt.2 HN1719.out)))
    clear hb1725 hk1725 hz1725
    clear HB1721
    clear HK1721
    clear hHeld
    refine hK.out _ _ (HK1725.out) (fun hHeld=>?_)
    clear hK K
    (try simp only [Act.put])
    refine wpAnyH_take (i:=10) (oi:=(⟨some 6,_,_,_,_,none⟩:Oper)) (v:=?v1726) rfl (by kernel_rfl) (by kernel_rfl) (by kernel_rfl) (fun _ _ _ h=>h) (Or.inl ⟨by rfl,?hy1726⟩) (by assumption) ?rest1726
    case hy1726=>(intro w hSw;(try dsimp only at hSw);go_simp;try (with_reducible rfl))
    (try simp only [Act.put,sA,sZ,sS])
    refine wpAnyH_done (by kernel_rfl) ?_ _
    go_wp2_with fail
    go_meet
    exact ⟨_,_,rfl,rfl,HZ1721.out,HB1725.out⟩
   exact AllReadyH.nil
  refine AllReadyH.cons (o:=(⟨some 5,_,_,_,_,none⟩:Oper)) rfl (fun K hK=>?_) ?_
  ·refine step_alloc_row rfl 131 rfl _ (HZzl.out _) ?_
   have HB1727:=Lib.hid (HBd.out.alloc (arr .u64 zl) 131)
   have HK1727:=Lib.hid (HK0.out.alloc (.cells (arr .u64 zl) 131))
   have HN1727:=Lib.hid (show wb.heap.size≤(wd).heap.size from HK0.out.size)
   generalize (wd).heap.size=g1727 at HB1727 HN1727 ⊢
   generalize (wd).alloc (.cells (arr .u64 zl) 131)=w1727 at HB1727 HK1727 ⊢
   clear HBd
   clear HK0
   clear hHeld
   refine hK.out _ _ (HK1727.out) (fun hHeld=>?_)
   clear hK K
   (try simp only [Act.put,sA,sZ,sS])
   refine wpAnyH_ready (rs:=[1]) (by kernel_rfl) (by simp) ?_
   refine AllReadyH.cons (o:=(⟨some 9,_,_,_,_,none⟩:Oper)) rfl (fun K hK=>?_) AllReadyH.nil
   go_simp
   go_at_call 117
   refine (of4 _ _ HX.out).mono ?_
   rintro e w1728 ⟨z1728,rfl,h1728,hb1728⟩
   have HZ1728:=Lib.hid h1728
   have HL1728:=Lib.hid h1728.len
   clear h1728
   have HB1728:=Lib.hid (HB1727.out.kept hb1728)
   have HK1728:=Lib.hid (HK1727.out.trans (Kept.of_below hb1728))
   clear hb1728
   (try dsimp only)
   clear HB1727
   clear HK1727
   clear hHeld
   refine hK.out _ _ (HK1728.out) (fun hHeld=>?_)
   clear hK K
   (try simp only [Act.put,sA,sZ,sS])
   refine wpAnyH_ready (rs:=[3]) (by kernel_rfl) (by simp) ?_
   refine AllReadyH.cons (o:=(⟨some 11,_,_,_,_,none⟩:Oper)) rfl (fun K hK=>?_) AllReadyH.nil
   go_simp
   go_at_call 117
   refine (of4 _ _ HY.out).mono ?_
   rintro e w1729 ⟨z1729,rfl,h1729,hb1729⟩
   have HZ1729:=Lib.hid h1729
   have HL1729:=Lib.hid h1729.len
   clear h1729
   have HB1729:=Lib.hid (HB1728.out.kept hb1729)
   have HK1729:=Lib.hid (HK1728.out.trans (Kept.of_below hb1729))
   clear hb1729
   (try dsimp only)
   clear HB1728
   clear HK1728
   clear hHeld
   refine hK.out _ _ (HK1729.out) (fun hHeld=>?_)
   clear hK K
   (try simp only [Act.put,sA,sZ,sS])
   refine wpAnyH_ready (rs:=[4]) (by kernel_rfl) (by simp) ?_
   refine AllReadyH.cons (o:=({ dst:=some 12,op:=Op.call { callee:=Callee.value (Operand.func 131),args := #[Operand.tmp 9,Operand.tmp 11],argTypes := #[131, 131] },type := 168, pos := "scalar.go:43", after := #[{ on:=1,ground:=Ground.data },{ on:=3,ground:=Ground.data },{ on:=3,ground:=Ground.chain }],guard:=none }:Oper)) rfl (fun K hK=>?_) AllReadyH.nil
   go_simp
   go_at_call 131
   refine (HLA.out _ _ _ HZ1728.out HZ1729.out).mono ?_
   rintro e w1730 ⟨z1730,rfl,h1730,hb1730⟩
   have HZ1730:=Lib.hid h1730
   have HL1730:=Lib.hid h1730.len
   clear h1730
   have HB1730:=Lib.hid (HB1729.out.kept hb1730)
   have HK1730:=Lib.hid (HK1729.out.trans (Kept.of_below hb1730))
   clear hb1730
   (try dsimp only)
   clear HB1729
   clear HK1729
   clear hHeld
   refine hK.out _ _ (HK1730.out) (fun hHeld=>?_)
   clear hK K
   (try simp only [Act.put,sA,sZ,sS])
   refine wpAnyH_take (i:=5) (oi:=({ dst:=some 7,op:=Op.move (Operand.tmp 12),type := 168, pos := "scalar.go:43", after := #[{ on:=4,ground:=Ground.data }],guard:=none }:Oper)) (v:=?v1731) rfl (by kernel_rfl) (by kernel_rfl) (by kernel_rfl) (fun _ _ _ h=>h) (Or.inl ⟨by rfl,?hy1731⟩) (by assumption) ?rest1731
   case hy1731=>(intro w hSw;(try dsimp only at hSw);go_simp;try (with_reducible rfl))
   (try simp only [Act.put,sA,sZ,sS])
   refine wpAnyH_take (i:=6) (oi:=(⟨some 13,_,_,_,_,none⟩:Oper)) (v:=?v1732) rfl (by kernel_rfl) (by kernel_rfl) (by kernel_rfl) (fun _ _ _ h=>h) (Or.inl ⟨by rfl,?hy1732⟩) (by assumption) ?rest1732
   case hy1732=>(intro w hSw;(try dsimp only at hSw);go_simp;try (with_reducible rfl))
   (try simp only [Act.put,sA,sZ,sS])
   refine wpAnyH_take (i:=7) (oi:=(⟨some 14,_,_,_,_,none⟩:Oper)) (v:=?v1733) rfl (by kernel_rfl) (by kernel_rfl) (by kernel_rfl) (fun _ _ _ h=>h) (Or.inl ⟨by rfl,?hy1733⟩) (by assumption) ?rest1733
   case hy1733=>(intro w hSw;(try dsimp only at hSw);go_simp;try (with_reducible rfl))
   (try simp only [Act.put,sA,sZ,sS])
   refine wpAnyH_ready (rs:=[9]) (by kernel_rfl) (by simp) ?_
   refine AllReadyH.cons (o:=(⟨none,_,_,_,_,none⟩:Oper)) rfl (fun K hK=>?_) AllReadyH.nil
   refine step_store_whole rfl 131 (.tmp 5) (.tmp 13) rfl (g1727) _ _ _ (HB1730.out.get 3 rfl) rfl rfl (arr_len2 _ _ HL1730.out HLzl.out) (lim_s HL1730.out) (all_arr _ _) ?_
   intro w1734 hb1734 hk1734 hz1734
   have HB1734:=Lib.hid (HB1730.out.put 3 rfl hk1734 hb1734)
   have HK1734:=Lib.hid (HK1730.out.trans_new hk1734 (fun i hi e=>absurd hi (by rw [e];exact Nat.not_lt.2 HN1727.out)))
   clear hb1734 hk1734 hz1734
   clear HB1730
   clear HK1730
   clear hHeld
   refine hK.out _ _ (HK1734.out) (fun hHeld=>?_)
   clear hK K
   (try simp only [Act.put])
   refine wpAnyH_take (i:=10) (oi:=(⟨some 6,_,_,_,_,none⟩:Oper)) (v:=?v1735) rfl (by kernel_rfl) (by kernel_rfl) (by kernel_rfl) (fun _ _ _ h=>h) (Or.inl ⟨by rfl,?hy1735⟩) (by assumption) ?rest1735
   case hy1735=>(intro w hSw;(try dsimp only at hSw);go_simp;try (with_reducible rfl))
   (try simp only [Act.put,sA,sZ,sS])
   refine wpAnyH_done (by kernel_rfl) ?_ _
   go_wp2_with fail
   go_meet
   exact ⟨_,_,rfl,rfl,HZ1730.out,HB1734.out⟩
  exact AllReadyH.nil
 case rest =>
 obtain ⟨wy,rfl⟩:∃ x:World,x=wc:=⟨_,rfl⟩
 obtain ⟨gg,xx,rfl,rfl,h1,hb1⟩:=hcut
 have HB1:=Lib.hid hb1
 have XXL:=Lib.hid h1.len
 have XXE:=Lib.hid h1.1
 have hred:=fun g' cap w' hc=>red_any g' 5 cap (a+b) (dig 18446744073709551616 4 ((a+b) % 18446744073709551616 ^ 4) ++ [c]) w' (by rw [List.length_append,dig_len];rfl) (by decide) (by
  intro x hx
  rcases List.mem_append.1 hx with hx|hx
  ·exact dig_lt _ (by decide) _ _ x hx
  ·rw [List.mem_singleton] at hx
   subst hx
   exact HCL.out) (by rw [val5 _ _ (dig_len _ _ _),vd _ h1.2,HAB.out]) hc
 have HRED:Hid (∀ (g' cap:Nat) (w':World),(∀ i,i < 5→w'.cell? ⟨g',i,none⟩=some (.int .u64 ((xx ++ [(c:Int)]).getD i 0)))→Calls Tryd.prog 132 #[.slice (some ⟨g',0,none⟩) 5 cap] w' fun e w''=>∃ zs,e = .returned (.agg (arr .u64 zs))∧N4 zs ((a+b) % q)∧Below w'.heap.size w' w''):=Lib.hid (fun g' cap w' hc=>hred g' cap w' (fun i hi=>by
  rw [hc i hi,XXE.out,← nar_get]
  simp [nar]))
 clear hb1 HS0 h1 hred
 go_upto_region 2 with fail
 go_wp2_with (first|((with_reducible refine aS 18 ?_);refine wpList_app5 rfl _ _ _ rfl gg _ xx (c:Int) XXL.out rfl rfl ?h1 ?h2 ?h3))
 case h1 =>
  intro i hi
  exact arr_get' ((HB1.out.alloc #[.int .u64 (c:Int)] 123).get 3 rfl) i (by rw [XXL.out];exact hi)
 case h2=>exact cell_blk (blk_new _ _) 0
 case h3 =>
  intro g' cap w' hc5 hb5
  have HC5:=Lib.hid hc5
  have HB5:=Lib.hid ((HB1.out.alloc #[.int .u64 (c:Int)] 123).kept (by rw [size1];exact hb5))
  clear hc5 hb5
  go_wp2_with (first|((with_reducible show Calls _ 132 _ _ _);go_at_call 132; refine (HRED.out _ _ _ HC5.out).mono ?_;rintro e w6 ⟨z6,rfl,h6,hb6⟩;have HZ6:=Lib.hid h6;have HB6:=Lib.hid (HB5.out.kept hb6);clear h6 hb6)|((with_reducible show Calls _ 130 _ _ _);go_at_call 130; refine (num4 _ _ HZ6.out).mono ?_;rintro e w7 ⟨z7,rfl,h7,hb7⟩;have HZ7:=Lib.hid h7;have HL7:=Lib.hid h7.len;have HB7:=Lib.hid (HB6.out.kept hb7);clear h7 hb7)|((with_reducible refine aT 4 ?_);refine wpList_store_whole rfl 23 _ _ rfl (w.heap.size+1+1) _ _ 23 (HB7.out.get 2 rfl) rfl rfl (arr_len2 _ _ HL7.out HLzn.out) (num_s HL7.out) (all_arr _ _) ?_;intro w8 hb8 hk8 hz8;have HB8:=Lib.hid (HB7.out.put 2 rfl hk8 hb8);clear hb8 hk8 hz8))
  (try simp only [Exit.then])
  refine bodyPost_ret (results_cell_row rfl _ _ (w.heap.size+1+1) 23 _ (0,0) _ rfl (HB8.out.get 2 rfl) Tryd.underlying23 rfl (num_s HL7.out)) rfl ?_
  exact ⟨_,rfl,HZ7.out,HB8.out.below⟩
end Go.Proofs.YtodnkallpfkdiaaDoor.Sl
namespace Go.Proofs.YtodnkallpfkdiaaDoor.Sl
open Go.RowKit Lm Fp Sc
theorem of_step8 (v j x y:Nat) (os:List Nat) (hj:j < 64) (hos:os=dig 18446744073709551616 8 v) (hv:v < 256 ^ j) (hx:os.getD (j / 8) 0=x) (hy:y < 256) :
  x < 2 ^ (8 * (j % 8))∧os.set (j / 8) (x+y * 2 ^ (8 * (j % 8)))=dig 18446744073709551616 8 (v+256 ^ j * y):=by
 have e:=pow_split j
 have hs:8 * (j % 8)≤56:=by omega
 have hol:os.length=8:=by rw [hos,dig_len]
 have hx2:x < 2 ^ (8 * (j % 8)):=by
  rw [← hx,hos,dig_get _ _ _ _ (by omega)]
  refine Nat.lt_of_le_of_lt (Nat.mod_le _ _) (Nat.div_lt_of_lt_mul ?_)
  rw [← e];exact hv
 refine ⟨hx2,?_⟩
 have hp:2 ^ (8 * (j % 8))≤2 ^ 56:=Nat.pow_le_pow_right (by omega) hs
 have h2:y * 2 ^ (8 * (j % 8))≤255 * 2 ^ (8 * (j % 8)):=Nat.mul_le_mul (by omega) (Nat.le_refl _)
 refine dig_eq 18446744073709551616 (by decide) 8 _ _ (by simpa using hol) (lt_set (by rw [hos];exact dig_lt _ (by decide) _ _) _ _ (by omega)) ?_
 have h3:=val_set 18446744073709551616 os (j / 8) (x+y * 2 ^ (8 * (j % 8))) (by omega)
 have h4:val 18446744073709551616 os=v:=by
  rw [hos,val_dig]
  refine Nat.mod_eq_of_lt (Nat.lt_of_lt_of_le hv ?_)
  exact Nat.le_trans (Nat.pow_le_pow_right (by decide) (show j≤64 by omega)) (by decide)
 have h5:18446744073709551616 ^ (j / 8) * (y * 2 ^ (8 * (j % 8)))=256 ^ j * y:=by rw [e,Nat.mul_comm y,Nat.mul_assoc]
 rw [hx,h4,Nat.mul_add,h5] at h3
 omega
theorem sreduce_any (sa:Option Addr) (cp V:Nat) (w:World) (hs:Src w sa 64 (nar (dig 256 64 V))) (hV:V < 256 ^ 64) (hcp:64≤cp) :
  Calls Tryd.prog 127 #[.slice sa 64 cp] w fun e w'=>∃ zs,e = .returned (.agg (arr .u8 zs))∧K32 zs (V % q)∧Below w.heap.size w w':=by
 obtain ⟨ad,rfl, -⟩:=hs.cell 0 (by decide)
 obtain ⟨ks,hks⟩:∃ r,r=dig 256 64 V:=⟨_,rfl⟩
 rw [← hks] at hs
 have KL:Hid (ks.length=64):=Lib.hid (by rw [hks,dig_len])
 have KB:Hid (∀ x∈ks,x < 256):=Lib.hid (by rw [hks];exact dig_lt _ (by decide) _ _)
 have KV:Hid (val 256 ks=V):=Lib.hid (by rw [hks,val_dig];exact Nat.mod_eq_of_lt hV)
 have hcell:∀ i,i < 64→w.cell? (ad.add i)=some (.int .u8 ((ks.getD i 0:Nat):Int)):=fun i hi=>by
  obtain ⟨a,h1,h2⟩:=hs.cell i hi
  cases h1
  rw [nar_get] at h2
  exact h2
 have HCELL:=Lib.hid hcell
 obtain ⟨zn,hzn⟩:∃ zs:List Int,zs=List.replicate 32 0:=⟨_,rfl⟩
 have HZzn:Hid (∀ w,(zeroValue 23).run Tryd.prog w = .ok (.agg (arr .u8 zn)) w):=Lib.hid (by intro w;rw [hzn];exact zero_num w)
 have HLzn:Hid (zn.length=32):=Lib.hid (by rw [hzn];rfl)
 obtain ⟨z8,hz8⟩:∃ zs:List Int,zs=nar (List.replicate 8 0):=⟨_,rfl⟩
 have HMK:Hid (∀ w:World,(Instr.makeSlice 171 (.int .i64 8) (.int .i64 8)).run Tryd.prog w = .ok (.slice (some ⟨w.heap.size,0,none⟩) 8 8) (w.alloc (.cells (arr .u64 z8) 123))):=Lib.hid (by
  intro w
  rw [hz8]
  kernel_rfl)
 have hmk:=HMK.out
 have HZ8:=Lib.hid hz8
 have HS0:=Lib.hid (Blk.two w (arr .u8 zn) (arr .u64 z8) 23 123)
 clear hzn hz8 hs hks hcell hV
 go_enter Tryd.func127, Tryd.ntmps127
 go_wp2_with (first|((with_reducible refine aS 2 ?_);refine wpList_alloc_row rfl 23 rfl _ (HZzn.out _) ?_))
 go_loopw [13] (fun i wr=>∃ (j:Nat) (os:List Nat),j≤64∧i = .int .i64 j∧os=dig 18446744073709551616 8 (val 256 (ks.take j))∧Blk w wr [(w.heap.size,arr .u8 zn, 23),(w.heap.size+1,arr .u64 (nar os), 123)]) (fun i _=>64 - (intOf i).toNat)
 case atStart=>exact ⟨0,List.replicate 8 0,Nat.zero_le _,rfl,by rw [List.take_zero];decide,by rw [← HZ8.out];exact HS0.out⟩
 clear HS0 hmk
 case round =>
 obtain ⟨j,os,hj,rfl,hos,hB⟩:=hrel
 have hol:os.length=8:=by rw [hos,dig_len]
 by_cases hlt:j < 64
 ·have q2:=arr_get' (hB.get 1 rfl) (j / 8) (by rw [nar_len,hol];omega)
  have q3:=free_blk (hB.get 1 rfl) (j / 8)
  rw [nar_get] at q2
  have q0:=below_cell hB.below (HCELL.out j hlt)
  have y1:=lt_getD KB.out (by omega) j
  obtain ⟨y,hy⟩:∃ y,y=ks.getD j 0:=⟨_,rfl⟩
  rw [← hy] at q0 y1
  have hv:val 256 (ks.take j) < 256 ^ j:=by
   have:=val_lt 256 (ks.take j) (fun x hx=>KB.out x (List.mem_of_mem_take hx))
   rwa [List.length_take,KL.out,Nat.min_eq_left hj] at this
  have x9:val 256 (ks.take (j+1))=val 256 (ks.take j)+256 ^ j * y:=by rw [hy];exact val_take_succ 256 ks j (by rw [KL.out];exact hlt)
  generalize hx:os.getD (j / 8) 0=x at q2
  obtain ⟨hx1,hst⟩:=of_step8 _ j x y os hlt hos hv hx y1
  have hor:=or_shl x y (8 * (j % 8)) (by omega) hx1 y1
  have hb1:=hB.cell 1 rfl (j / 8) (.int .u64 (bits .or .u64 (x:Int) (IntKind.u64.wrap ((y:Int) * 2 ^ (8 * (j % 8))))))
  have e2:(arr .u64 (nar os)).setIfInBounds (j / 8) (.int .u64 (bits .or .u64 (x:Int) (IntKind.u64.wrap ((y:Int) * 2 ^ (8 * (j % 8))))))=arr .u64 (nar (dig 18446744073709551616 8 (val 256 (ks.take (j+1))))):=by rw [arr_set,hor,← nar_set,hst,← x9]
  have HB1:=Lib.hid (hb1.cast (l':=[(w.heap.size,arr .u8 zn, 23),(w.heap.size+1,arr .u64 (nar (dig 18446744073709551616 8 (val 256 (ks.take (j+1))))), 123)]) (by rw [← e2];rfl))
  clear hB hol hb1 hst hx1 hor hx hv x9 hos hy e2
  go_wp2_with fail
  go_region
  go_wp2_with fail
  go_roundw
  case rel=>exact ⟨j+1,_,by omega,by go_num,rfl,HB1.out.drew⟩
  case measure=>simp [intOf];omega
 ·obtain rfl:j=64:=by omega
  rw [List.take_of_length_le (by rw [KL.out];exact Nat.le_refl _),KV.out] at hos
  have HC8:Hid (∀ i,i < 8→wr.cell? ⟨w.heap.size+1,i,none⟩=some (.int .u64 ((os.getD i 0:Nat):Int))):=Lib.hid (fun i hi=>by
   have:=arr_get' (hB.get 1 rfl) i (by rw [nar_len,hol];exact hi)
   rw [nar_get] at this
   exact this)
  have OL:=Lib.hid hol
  have OB:Hid (∀ x∈os,x < 18446744073709551616):=Lib.hid (by rw [hos];exact dig_lt _ (by decide) _ _)
  have OV:Hid (val 18446744073709551616 os=V):=Lib.hid (by
   rw [hos,val_dig]
   refine Nat.mod_eq_of_lt ?_
   have h1:=val_lt 256 ks KB.out
   rw [KV.out,KL.out] at h1
   exact Nat.lt_of_lt_of_le h1 (by decide))
  have HB1:=Lib.hid hB
  clear hB hol hos
  go_wp2_with (first|((with_reducible show Calls _ 132 _ _ _);go_at_call 132; refine (red_any (w.heap.size+1) 8 _ V os _ OL.out (by decide) OB.out OV.out HC8.out).mono ?_;rintro e w5 ⟨z5,rfl,h5,hb5⟩;have HZ5:=Lib.hid h5;have HB5:=Lib.hid (HB1.out.kept hb5);clear h5 hb5)|((with_reducible show Calls _ 130 _ _ _);go_at_call 130; refine (num4 _ _ HZ5.out).mono ?_;rintro e w6 ⟨z6,rfl,h6,hb6⟩;have HZ6:=Lib.hid h6;have HL6:=Lib.hid h6.len;have HB6:=Lib.hid (HB5.out.kept hb6);clear h6 hb6)|((with_reducible refine aT 2 ?_);refine wpList_store_whole rfl 23 _ _ rfl (w.heap.size) _ _ 23 (HB6.out.get 0 rfl) rfl rfl (arr_len2 _ _ HL6.out HLzn.out) (num_s HL6.out) (all_arr _ _) ?_;intro w7 hb7 hk7 hz7;have HB7:=Lib.hid (HB6.out.put 0 rfl hk7 hb7);clear hb7 hk7 hz7))
  (try simp only [Exit.inBlock,Exit.then])
  refine bodyPost_ret (results_cell_row rfl _ _ (w.heap.size) 23 _ (0,0) _ rfl (HB7.out.get 0 rfl) Tryd.underlying23 rfl (num_s HL6.out)) rfl ?_
  exact ⟨_,rfl,HZ6.out,HB7.out.below⟩
end Go.Proofs.YtodnkallpfkdiaaDoor.Sl
