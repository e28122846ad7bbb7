/- The document's read, May: what they answer. Condition: 32 bytes; the tables hold what their text lays. The document's May: what they answer. Condition: 32 bytes; for May the tables. -/
import Derived.Test.YtodnkallpfkdiaaDoorRg
set_option maxRecDepth 100000
set_option maxHeartbeats 16000000
set_option linter.unusedSimpArgs false
set_option linter.unusedVariables false
namespace Go.Proofs.YtodnkallpfkdiaaDoor.Rd
open Go.RowKit Lm Fp Cu
theorem build_num0 (w:World):(Instr.build 23 #[]).run Tryd.prog w = .ok (.agg (arr .u8 (List.replicate 32 0))) w:=by kernel_rfl
theorem and127 (t:Nat) (h:t < 256):bits .and .u8 (t:Int) 127=((t % 128:Nat):Int):=by
 have e:t &&& 127=t % 128:=Nat.and_two_pow_sub_one_eq_mod t 7
 have h1:(BitVec.ofInt 8 (t:Int)).toNat=t:=by rw [BitVec.ofInt_natCast,BitVec.toNat_ofNat];exact Nat.mod_eq_of_lt (by omega)
 have h2:(BitVec.ofInt 8 (127:Int)).toNat=127:=by decide
 show IntKind.u8.wrap ((BitVec.ofInt 8 (t:Int) &&& BitVec.ofInt 8 (127:Int)).toNat:Int)=_
 rw [BitVec.toNat_and,h1,h2,e,IntKind.wrap_u8]
 omega
theorem dig32_inj {a b:Nat} (ha:a < 256 ^ 32) (hb:b < 256 ^ 32):(nar (dig 256 32 a) == nar (dig 256 32 b))=decide (a=b):=by
 by_cases e:a=b
 ·subst e;simp
 ·rw [decide_eq_false e,beq_eq_false_iff_ne]
  intro h
  have h3:dig 256 32 a=dig 256 32 b:=by
   have:=congrArg (List.map Int.toNat) h
   have e:∀ l:List Nat,(nar l).map Int.toNat=l:=fun l=>by rw [nar,List.map_map];exact List.map_id l
   rwa [e,e] at this
  have h4:=congrArg (val 256) h3
  rw [val32 a ha,val32 b hb] at h4
  exact e h4
theorem zero_dig:(List.replicate 32 0:List Int)=nar (dig 256 32 0):=by decide +kernel
theorem read_any (v:Nat) (w:World) (hv:v < 2 ^ 256) (hTd:TabD w) (hTi:TabI w) :
  Calls Tryd.prog 69 #[.agg (arr .u8 (nar (dig 256 32 v)))] w fun e w'=>∃ zs,e = .returned (.tuple #[.agg (arr .i64 zs), .bool (eread v).isSome])∧zs.length=64∧(∀ P,eread v=some P→PtEl zs P)∧Below w.heap.size w w':=by
 obtain ⟨y,hy⟩:∃ y,y=v % 2 ^ 255:=⟨_,rfl⟩
 obtain ⟨b,hb⟩:∃ b,b=v / 2 ^ 255:=⟨_,rfl⟩
 have hy2:y < 2 ^ 255:=by rw [hy];exact Nat.mod_lt _ (by decide)
 have hy32:y < 256 ^ 32:=Nat.lt_of_lt_of_le hy2 (by decide)
 obtain ⟨t1,t2⟩:=top_byte256 v hv
 have hds:=dec_set v hv
 have htb:=top_bit v
 have hb2:b≤1:=by
  rw [hb]
  have:v / 2 ^ 255 < 2:=Nat.div_lt_of_lt_mul (by rw [← Nat.pow_succ];exact hv)
  omega
 rw [← hy] at hds
 rw [← hb] at htb
 generalize v / 256 ^ 31=t at t1 t2 hds htb
 have hbt:(t:Int) / 128=(b:Int):=by omega
 have ha:=and127 t t2
 have hE1:=eread_none_big v
 have hE2:=eread_none_root v
 have hE3:=eread_none_zero v
 have hE4:=fun r h1 h2 h3 h4=>eread_some v r hv h1 h2 h3 h4
 rw [← hy] at hE1 hE2 hE3 hE4
 rw [← hb] at hE3 hE4
 obtain ⟨ev,hev⟩:∃ e,e=eread v:=⟨_,rfl⟩
 rw [← hev] at hE1 hE2 hE3 hE4 ⊢
 obtain ⟨ns,hns⟩:∃ x,x=nar (dig 256 32 v):=⟨_,rfl⟩
 have HNL:Hid (ns.length=32):=Lib.hid (by rw [hns,nar_len,dig_len])
 have g31:ns.getD 31 0=(t:Int):=by rw [hns,nar_get,t1]
 have hn2:ns.set 31 ((t % 128:Nat):Int)=nar (dig 256 32 y):=by rw [hns,← nar_set,hds]
 rw [← hns]
 have hin:=fun w=>in_num y w hy32
 have hca:=fun w=>canon_any y w hy32
 have hne:(!(nar (dig 256 32 (y % p)) == nar (dig 256 32 y)))=decide (¬ y < p):=by
  rw [dig32_inj (Nat.lt_trans (Nat.mod_lt _ p_pos) p_lt32) hy32]
  by_cases h:y < p
  ·rw [Nat.mod_eq_of_lt h];simp [h]
  ·have:¬ y % p=y:=by have:=Nat.mod_lt y p_pos;omega
   simp [this,h]
 have HY2:=Lib.hid hy2
 obtain ⟨ms,hms⟩:∃ x,x=nar (dig 256 32 y):=⟨_,rfl⟩
 have HML:Hid (ms.length=32):=Lib.hid (by rw [hms,nar_len,dig_len])
 obtain ⟨ks,hks⟩:∃ x,x=nar (dig 256 32 (y % p)):=⟨_,rfl⟩
 have HKL:Hid (ks.length=32):=Lib.hid (by rw [hks,nar_len,dig_len])
 rw [← hms] at hin hca hn2 hne
 rw [← hks] at hca hne
 have HIN:=Lib.hid hin
 have HCA:=Lib.hid hca
 have HNE:=Lib.hid hne
 have HA:=Lib.hid ha
 have HBT:=Lib.hid hbt
 have HE1:=Lib.hid hE1
 have HE2:=Lib.hid hE2
 have HE3:=Lib.hid hE3
 have HE4:=Lib.hid hE4
 have HB2:=Lib.hid hb2
 obtain ⟨dl,hdl⟩:∃ x,x=dL:=⟨_,rfl⟩
 have HD:Hid (El dl dd):=Lib.hid (by rw [hdl];exact dL_el)
 have HDL:=Lib.hid HD.out.1
 have HTI:=Lib.hid hTi
 unfold TabD at hTd
 rw [← hdl] at hTd
 have HTD:=Lib.hid hTd
 obtain ⟨ze,hze⟩:∃ zs:List Int,zs=List.replicate 16 0:=⟨_,rfl⟩
 have HZze:Hid (∀ w,(zeroValue 100).run Tryd.prog w = .ok (.agg (arr .i64 ze)) w):=Lib.hid (by intro w;rw [hze];exact zero_el w)
 have HLze:Hid (ze.length=16):=Lib.hid (by rw [hze];rfl)
 obtain ⟨zn,hzn⟩:∃ zs:List Int,zs=List.replicate 32 0:=⟨_,rfl⟩
 have HZzn:Hid (∀ w,(zeroValue 23).run Tryd.prog w = .ok (.agg (arr .u8 zn)) w):=Lib.hid (by intro w;rw [hzn];exact zero_num w)
 have HLzn:Hid (zn.length=32):=Lib.hid (by rw [hzn];rfl)
 obtain ⟨zp,hzp⟩:∃ zs:List Int,zs=List.replicate 64 0:=⟨_,rfl⟩
 have HZzp:Hid (∀ w,(zeroValue 102).run Tryd.prog w = .ok (.agg (arr .i64 zp)) w):=Lib.hid (by intro w;rw [hzp];exact zero_pt w)
 have HLzp:Hid (zp.length=64):=Lib.hid (by rw [hzp];rfl)
 have HEz:Hid (El ze 0):=Lib.hid (by rw [hze];exact el_zero)
 have HNz:Hid (zn=nar (dig 256 32 0)):=Lib.hid (by rw [hzn];exact zero_dig)
 have HBE:Hid (∀ w,(Instr.build 100 #[]).run Tryd.prog w = .ok (.agg (arr .i64 ze)) w):=Lib.hid (by intro w;rw [hze];exact build_el0 w)
 have HBP:Hid (∀ w,(Instr.build 102 #[]).run Tryd.prog w = .ok (.agg (arr .i64 zp)) w):=Lib.hid (by intro w;rw [hzp];exact build_pt0 w)
 have HBN:Hid (∀ w,(Instr.build 23 #[]).run Tryd.prog w = .ok (.agg (arr .u8 zn)) w):=Lib.hid (by intro w;rw [hzn];exact build_num0 w)
 have hS0:=Blk.two w (arr .u8 ns) (arr .i64 zp) 23 102
 have q0:=arr_get' (hS0.get 0 rfl) 31 (by rw [HNL.out];decide)
 have q1:=free_blk (hS0.get 0 rfl) 31
 rw [g31] at q0
 have e2:(arr .u8 ns).setIfInBounds 31 (.int .u8 (bits .and .u8 (t:Int) 127))=arr .u8 ms:=by rw [HA.out,arr_set,hn2]
 have HS1:=Lib.hid ((Blk.two w ((arr .u8 ns).setIfInBounds 31 (.int .u8 (bits .and .u8 (t:Int) 127))) (arr .i64 zp) 23 102).cast (l':=[(w.heap.size,arr .u8 ms, 23),(w.heap.size+1,arr .i64 zp, 102)]) (by rw [e2]))
 clear hze hzn hzp hdl hTd hTi hin hca hne ha hbt hE1 hE2 hE3 hE4 hb2 hy hb hy2 hy32 t1 hds htb hev hns g31 hn2 hms hks hS0 e2
 go_enter Tryd.func69, Tryd.ntmps69
 go_upto_region 3 with (first|((with_reducible refine aS 2 ?_);refine wpList_alloc_row rfl 102 rfl _ (HZzp.out _) ?_))
 rw [HBT.out]
 generalize ((w.alloc (.cells ((arr .u8 ns).setIfInBounds 31 (.int .u8 (bits .and .u8 (t:Int) 127))) 23)).alloc (.cells (arr .i64 zp) 102))=wb at HS1 ⊢
 by_cases hyp:y < p
 rotate_left
 ·have hn:=HNE.out
  rw [decide_eq_true hyp] at hn
  have HNB:=Lib.hid hn
  clear hn
  have HK0:=Lib.hid ((Kept.refl (fun _=>False) wb).drew)
  have HBd:=Lib.hid (HS1.out.drew)
  refine wp_region_held_drew (S:=(fun w'=>Kept (fun _=>False) wb w')) (by kernel_rfl) (HK0.out) (fun hHeld=>?_)
  generalize wb.drew=wd at HK0 HBd hHeld ⊢
  refine' wpAnyH_take (i:=0) (oi:=(⟨some 17,_,_,_,_,none⟩:Oper)) (v:=_) rfl (by kernel_rfl) (by kernel_rfl) (by kernel_rfl) (fun _ _ _ h=>h) (yieldsIf_load_mid (by rfl) _ _ rfl _ _ rfl (ms.map (Value.int .u8)) _ ?hS701 Tryd.underlying23 rfl (by rw [List.length_map];exact num_i HML.out)) (by assumption) ?rest701
  case hS701=>(intro w hSw;(try dsimp only at hSw);exact range_part (hSw.blk (HS1.out.get 0 rfl) (fun e=>e.elim)) 0 _ (by rw [List.length_map];exact arr_part _ _))
  (try simp only [Act.put,sA,sZ,sS])
  refine' wpAnyH_take (i:=2) (oi:=(⟨some 19,_,_,_,_,none⟩:Oper)) (v:=_) rfl (by kernel_rfl) (by kernel_rfl) (by kernel_rfl) (fun _ _ _ h=>h) (yieldsIf_load_mid (by rfl) _ _ rfl _ _ rfl (ms.map (Value.int .u8)) _ ?hS702 Tryd.underlying23 rfl (by rw [List.length_map];exact num_i HML.out)) (by assumption) ?rest702
  case hS702=>(intro w hSw;(try dsimp only at hSw);exact range_part (hSw.blk (HS1.out.get 0 rfl) (fun e=>e.elim)) 0 _ (by rw [List.length_map];exact arr_part _ _))
  (try simp only [Act.put,sA,sZ,sS])
  refine wpAnyH_ready (rs:=[1]) (by kernel_rfl) (by simp) ?_
  refine AllReadyH.cons (o:=(⟨some 18,_,_,_,_,none⟩:Oper)) rfl (fun K hK=>?_) AllReadyH.nil
  go_simp
  go_at_call 103
  refine (HCA.out _).mono ?_
  rintro e w703 ⟨rfl,hb703⟩
  have HB703:=Lib.hid (HBd.out.kept hb703)
  have HK703:=Lib.hid (HK0.out.trans (Kept.of_below hb703))
  clear hb703
  (try dsimp only)
  clear HBd
  clear HK0
  clear hHeld
  refine hK.out _ _ (HK703.out) (fun hHeld=>?_)
  clear hK K
  (try simp only [Act.put,sA,sZ,sS])
  refine wpAnyH_take (i:=3) (oi:=(⟨some 20,_,_,_,_,none⟩:Oper)) (v:=(.bool true)) rfl (by kernel_rfl) (by kernel_rfl) (by kernel_rfl) (fun _ _ _ h=>h) (Or.inl ⟨by rfl,?hy704⟩) (by assumption) ?rest704
  case hy704=>(intro w hSw;(try dsimp only at hSw);exact exec_neq_arr 23 _ _ (.tmp 18) (.tmp 19) rfl 32 .u8 .u8 Tryd.underlying23 Tryd.underlying5 (fun w=>by kernel_rfl) (by kernel_rfl) ks ms rfl rfl HKL.out HML.out _ HNB.out)
  (try simp only [Act.put,sA,sZ,sS])
  refine wpAnyH_done (by kernel_rfl) ?_ _
  have HBF:=HB703
  clear HS1
  (try simp only [Exit.then])
  go_wp2_with (first|((with_reducible refine aS 21 ?_);refine wpList_build (by rfl) 102 _ rfl #[] rfl _ (HBP.out _) ?_)|((with_reducible refine aT 2 ?_);refine wpList_store_whole rfl 102 _ _ rfl (w.heap.size+1) _ _ 102 (HBF.out.get 1 rfl) rfl rfl (arr_len2 _ _ HLzp.out HLzp.out) (pt_s HLzp.out) (all_arr _ _) ?_;intro w99 hb99 hk99 hz99;have HBZ:=Lib.hid (HBF.out.put 1 rfl hk99 hb99);clear hb99 hk99 hz99))
  (try simp only [Exit.then])
  refine bodyPost_ret (results_cell_tmp_row rfl _ _ (w.heap.size+1) 102 _ (0,0) _ _ rfl (HBZ.out.get 1 rfl) Tryd.underlying102 rfl (pt_s HLzp.out) rfl) rfl ?_
  have hev:=HE1.out hyp
  exact ⟨zp,by rw [hev];rfl,HLzp.out,(fun P h=>by rw [hev] at h;cases h),HBZ.out.below⟩
 ·have hn:=HNE.out
  rw [decide_eq_false (fun h=>h hyp)] at hn
  have HNB:=Lib.hid hn
  clear hn
  have HK0:=Lib.hid ((Kept.refl (fun _=>False) wb).drew)
  have HBd:=Lib.hid (HS1.out.drew)
  refine wp_region_held_drew (S:=(fun w'=>Kept (fun _=>False) wb w')) (by kernel_rfl) (HK0.out) (fun hHeld=>?_)
  generalize wb.drew=wd at HK0 HBd hHeld ⊢
  refine' wpAnyH_take (i:=0) (oi:=(⟨some 17,_,_,_,_,none⟩:Oper)) (v:=_) rfl (by kernel_rfl) (by kernel_rfl) (by kernel_rfl) (fun _ _ _ h=>h) (yieldsIf_load_mid (by rfl) _ _ rfl _ _ rfl (ms.map (Value.int .u8)) _ ?hS705 Tryd.underlying23 rfl (by rw [List.length_map];exact num_i HML.out)) (by assumption) ?rest705
  case hS705=>(intro w hSw;(try dsimp only at hSw);exact range_part (hSw.blk (HS1.out.get 0 rfl) (fun e=>e.elim)) 0 _ (by rw [List.length_map];exact arr_part _ _))
  (try simp only [Act.put,sA,sZ,sS])
  refine' wpAnyH_take (i:=2) (oi:=(⟨some 19,_,_,_,_,none⟩:Oper)) (v:=_) rfl (by kernel_rfl) (by kernel_rfl) (by kernel_rfl) (fun _ _ _ h=>h) (yieldsIf_load_mid (by rfl) _ _ rfl _ _ rfl (ms.map (Value.int .u8)) _ ?hS706 Tryd.underlying23 rfl (by rw [List.length_map];exact num_i HML.out)) (by assumption) ?rest706
  case hS706=>(intro w hSw;(try dsimp only at hSw);exact range_part (hSw.blk (HS1.out.get 0 rfl) (fun e=>e.elim)) 0 _ (by rw [List.length_map];exact arr_part _ _))
  (try simp only [Act.put,sA,sZ,sS])
  refine wpAnyH_ready (rs:=[1]) (by kernel_rfl) (by simp) ?_
  refine AllReadyH.cons (o:=(⟨some 18,_,_,_,_,none⟩:Oper)) rfl (fun K hK=>?_) AllReadyH.nil
  go_simp
  go_at_call 103
  refine (HCA.out _).mono ?_
  rintro e w707 ⟨rfl,hb707⟩
  have HB707:=Lib.hid (HBd.out.kept hb707)
  have HK707:=Lib.hid (HK0.out.trans (Kept.of_below hb707))
  clear hb707
  (try dsimp only)
  clear HBd
  clear HK0
  clear hHeld
  refine hK.out _ _ (HK707.out) (fun hHeld=>?_)
  clear hK K
  (try simp only [Act.put,sA,sZ,sS])
  refine wpAnyH_take (i:=3) (oi:=(⟨some 20,_,_,_,_,none⟩:Oper)) (v:=(.bool false)) rfl (by kernel_rfl) (by kernel_rfl) (by kernel_rfl) (fun _ _ _ h=>h) (Or.inl ⟨by rfl,?hy708⟩) (by assumption) ?rest708
  case hy708=>(intro w hSw;(try dsimp only at hSw);exact exec_neq_arr 23 _ _ (.tmp 18) (.tmp 19) rfl 32 .u8 .u8 Tryd.underlying23 Tryd.underlying5 (fun w=>by kernel_rfl) (by kernel_rfl) ks ms rfl rfl HKL.out HML.out _ HNB.out)
  (try simp only [Act.put,sA,sZ,sS])
  refine wpAnyH_done (by kernel_rfl) ?_ _
  have HBF:=HB707
  clear HS1
  (try simp only [Exit.then])
  have hin2:=HIN.out
  rw [Nat.mod_eq_of_lt hyp] at hin2
  have HINy:=Lib.hid hin2
  clear hin2
  have hbf:=HBF.out
  have HBF':=Lib.hid hbf
  clear hbf
  go_upto_region 7 with (first|((with_reducible refine aS 22 ?_);refine wpList_load_part rfl 23 _ rfl (w.heap.size) (0) _ 23 (0,0) _ (HBF'.out.get 0 rfl) rfl .u8 ms (arr_part _ _) Tryd.underlying23 rfl (num_i HML.out) ?_)|((with_reducible show Calls _ 104 #[.agg _] _ _);go_at_call 104; refine (HINy.out _).mono ?_;rintro e w709 ⟨z709,rfl,h709,hb709⟩;have HZ709:=Lib.hid h709;have HL709:=Lib.hid h709.1;clear h709;have HB709:=Lib.hid (HBF'.out.kept hb709);clear hb709)|((with_reducible refine aS 5 ?_);refine wpList_alloc_row rfl 100 rfl _ (HZze.out _) ?_;have HB710:=Lib.hid (HB709.out.alloc (arr .i64 ze) 100);generalize w709.heap.size=g710 at HB710 ⊢; generalize w709.alloc (.cells (arr .i64 ze) 100)=w710 at HB710 ⊢; clear HB709)|((with_reducible refine aT 5 (x:=(Operand.tmp 23)) ?_);refine wpList_store_whole rfl 100 _ _ rfl (g710) _ _ 100 (HB710.out.get 2 rfl) rfl rfl (arr_len2 _ _ HL709.out HLze.out) (el_s HL709.out) (all_arr _ _) ?_;intro w711 hb711 hk711 hz711;have HB711:=Lib.hid (HB710.out.put 2 rfl hk711 hb711);clear hb711 hk711 hz711;clear HB710)|((with_reducible refine aS 24 ?_);refine wpList_load_part rfl 100 _ rfl (g710) (0) _ 100 (0,0) _ (HB711.out.get 2 rfl) rfl .i64 z709 (arr_part _ _) Tryd.underlying100 rfl (el_i HL709.out) ?_)|((with_reducible refine aS 25 ?_);refine wpList_load_part rfl 100 _ rfl (g710) (0) _ 100 (0,0) _ (HB711.out.get 2 rfl) rfl .i64 z709 (arr_part _ _) Tryd.underlying100 rfl (el_i HL709.out) ?_)|((with_reducible show Calls _ 98 #[.agg _, .agg _] _ _);go_at_call 98; refine (mul_any _ _ _ _ _ HZ709.out HZ709.out).mono ?_;rintro e w712 ⟨z712,rfl,h712,hb712⟩;have HZ712:=Lib.hid h712;have HL712:=Lib.hid h712.1;clear h712;have HB712:=Lib.hid (HB711.out.kept hb712);clear hb712;clear HB711)|((with_reducible refine aS 6 ?_);refine wpList_alloc_row rfl 100 rfl _ (HZze.out _) ?_;have HB713:=Lib.hid (HB712.out.alloc (arr .i64 ze) 100);generalize w712.heap.size=g713 at HB713 ⊢; generalize w712.alloc (.cells (arr .i64 ze) 100)=w713 at HB713 ⊢; clear HB712)|((with_reducible refine aT 6 (x:=(Operand.tmp 26)) ?_);refine wpList_store_whole rfl 100 _ _ rfl (g713) _ _ 100 (HB713.out.get 3 rfl) rfl rfl (arr_len2 _ _ HL712.out HLze.out) (el_s HL712.out) (all_arr _ _) ?_;intro w714 hb714 hk714 hz714;have HB714:=Lib.hid (HB713.out.put 3 rfl hk714 hb714);clear hb714 hk714 hz714;clear HB713))
  (try simp only [Act.put,sA,sZ,sS])
  obtain ⟨U,hU⟩:∃ u,u=under y:=⟨_,rfl⟩
  have hE2:=HE2.out
  have hE3:=HE3.out
  have hE4:=HE4.out
  have hU2:fmul (fsub (fmul y y) 1) (finv (fadd (fmul dd (fmul y y)) 1))=U:=hU.symm
  rw [← hU] at hE2 hE3 hE4
  have HE2':=Lib.hid hE2
  have HE3':=Lib.hid hE3
  have HE4':=Lib.hid hE4
  have HUU:=Lib.hid hU2
  clear hE2 hE3 hE4 hU hU2
  refine wp_region_lin (fun (fF:Fill) (uF:World)=>(∀ v,fF 0=some v→v = .agg (arr .i64 z712)∧True)∧(∀ v,fF 1=some v→∃ zs:List Int,v = .agg (arr .i64 zs)∧El zs 1)∧(∀ v,fF 2=some v→∃ zs:List Int,v = .agg (arr .i64 zs)∧El zs (fsub (fmul y y) 1))∧(∀ v,fF 3=some v→v = .agg (arr .i64 dl)∧True)∧(∀ v,fF 4=some v→v = .agg (arr .i64 z712)∧True)∧(∀ v,fF 5=some v→∃ zs:List Int,v = .agg (arr .i64 zs)∧El zs (fmul dd (fmul y y)))∧(∀ v,fF 6=some v→∃ zs:List Int,v = .agg (arr .i64 zs)∧El zs 1)∧(∀ v,fF 7=some v→∃ zs:List Int,v = .agg (arr .i64 zs)∧El zs (fadd (fmul dd (fmul y y)) 1))∧(∀ v,fF 8=some v→∃ zs:List Int,v = .agg (arr .i64 zs)∧El zs (finv (fadd (fmul dd (fmul y y)) 1)))∧(∀ v,fF 9=some v→∃ zs:List Int,v = .agg (arr .i64 zs)∧El zs (fmul (fsub (fmul y y) 1) (finv (fadd (fmul dd (fmul y y)) 1))))∧(∀ v,fF 10=some v→∃ zs:List Int,v = .tuple #[.agg (arr .i64 zs), .bool (rsqrt U).2]∧El zs (rsqrt U).1)∧(∀ v,fF 11=some v→∃ zs:List Int,v = .tuple #[.agg (arr .i64 zs), .bool (rsqrt U).2]∧El zs (rsqrt U).1)∧(∀ v,fF 12=some v→∃ zs:List Int,v = .agg (arr .i64 zs)∧El zs (rsqrt U).1)∧(∀ v,fF 13=some v→v = .bool (rsqrt U).2∧True)∧(∀ v,fF 14=some v→∃ g:Nat,v = .pointer (some ⟨g,0,none⟩))∧(∀ v,fF 16=some v→v = .bool (rsqrt U).2∧True)∧Blk w uF ([(w.heap.size,arr .u8 ms, 23),(w.heap.size+1,arr .i64 zp, 102),(g710,arr .i64 z709, 100),(g713,arr .i64 z712, 100)] ++ (ent (fF 14) ((if (fF 15).isSome=true then aggOf (fF 12) else arr .i64 ze)) 100))) (by kernel_rfl) (by kernel_rfl) ?zd7 ?sd7 ?ed7
  case zd7=>exact ⟨fun _ h=>(by cases h),fun _ h=>(by cases h),fun _ h=>(by cases h),fun _ h=>(by cases h),fun _ h=>(by cases h),fun _ h=>(by cases h),fun _ h=>(by cases h),fun _ h=>(by cases h),fun _ h=>(by cases h),fun _ h=>(by cases h),fun _ h=>(by cases h),fun _ h=>(by cases h),fun _ h=>(by cases h),fun _ h=>(by cases h),fun _ h=>(by cases h),fun _ h=>(by cases h),HB714.out.drew⟩
  case sd7 =>
   refine LinAll.cons (fun fF bF uF kF hJF hfF hcF hupF hsF hKF=>?_) ?_
   ·obtain ⟨j0,j1,j2,j3,j4,j5,j6,j7,j8,j9,j10,j11,j12,j13,j14,j16,hB⟩:=hJF
    have e6:bF.eval (.tmp 6) = .pointer (some ⟨g713,0,none⟩):=hsF.old' 6 (by kernel_rfl) rfl
    have hB':=hB
    refine step_load_part rfl 100 _ rfl (g713) (0) (arr .i64 z712) 100 (0,0) _ (hB'.get 3 rfl) e6 .i64 z712 (arr_part _ _) Tryd.underlying100 rfl (el_i HL712.out) ?_
    exact hKF _ _ ⟨fun _ h=>⟨sI h,trivial⟩,j1,j2,j3,j4,j5,j6,j7,j8,j9,j10,j11,j12,j13,j14,j16,hB⟩
   refine LinAll.cons (fun fF bF uF kF hJF hfF hcF hupF hsF hKF=>?_) ?_
   ·obtain ⟨j0,j1,j2,j3,j4,j5,j6,j7,j8,j9,j10,j11,j12,j13,j14,j16,hB⟩:=hJF
    refine lin_call rfl 101 [Operand.const (Value.int IntKind.i64 1)] _ [.int .i64 1] rfl (by simp only [List.map_cons,List.map_nil] <;> rfl) (fun _ _=>by kernel_rfl) ?_
    refine Calls.mono (one_any 1 _ (by decide)) ?_
    rintro e w1 ⟨zq,rfl,rq,hb⟩
    exact ⟨_,rfl,hKF _ _ ⟨j0,fun _ h=>⟨zq,sI h,rq⟩,j2,j3,j4,j5,j6,j7,j8,j9,j10,j11,j12,j13,j14,j16,hB.kept hb⟩⟩
   refine LinAll.cons (fun fF bF uF kF hJF hfF hcF hupF hsF hKF=>?_) ?_
   ·obtain ⟨j0,j1,j2,j3,j4,j5,j6,j7,j8,j9,j10,j11,j12,j13,j14,j16,hB⟩:=hJF
    obtain ⟨e28,p28⟩:=hsF.at hupF 0 28 (by kernel_rfl) rfl j0
    have y1:=hupF 1 (by kernel_rfl)
    obtain ⟨v1,s1⟩:=sE y1
    obtain ⟨xd7_1,rfl,r1⟩:=j1 _ s1
    have Rd7_1:=Lib.hid r1
    have HLd7_1:=Lib.hid (r1.1)
    have e29:=hsF.val 1 29 rfl s1
    refine lin_call rfl 106 [Operand.tmp 28,Operand.tmp 29] _ [.agg (arr .i64 z712), .agg (arr .i64 xd7_1)] rfl (by simp only [List.map_cons,List.map_nil,e28,e29] <;> rfl) (fun _ _=>by kernel_rfl) ?_
    refine Calls.mono (sub_any _ _ _ _ _ HZ712.out Rd7_1.out) ?_
    rintro e w1 ⟨zq,rfl,rq,hb⟩
    exact ⟨_,rfl,hKF _ _ ⟨j0,j1,fun _ h=>⟨zq,sI h,rq⟩,j3,j4,j5,j6,j7,j8,j9,j10,j11,j12,j13,j14,j16,hB.kept hb⟩⟩
   refine LinAll.cons (fun fF bF uF kF hJF hfF hcF hupF hsF hKF=>?_) ?_
   ·obtain ⟨j0,j1,j2,j3,j4,j5,j6,j7,j8,j9,j10,j11,j12,j13,j14,j16,hB⟩:=hJF
    rw [if_pos (by simp [Region.wanted])]
    refine wp_load_mid 100 (.global 3) rfl 3 0 rfl (dl.map (Value.int .i64)) _ (range_below HTD.out hB.below) Tryd.underlying100 rfl (by rw [List.length_map];exact el_i HDL.out) ?_
    exact hKF _ _ ⟨j0,j1,j2,fun _ h=>⟨sI h,trivial⟩,j4,j5,j6,j7,j8,j9,j10,j11,j12,j13,j14,j16,hB⟩
   refine LinAll.cons (fun fF bF uF kF hJF hfF hcF hupF hsF hKF=>?_) ?_
   ·obtain ⟨j0,j1,j2,j3,j4,j5,j6,j7,j8,j9,j10,j11,j12,j13,j14,j16,hB⟩:=hJF
    have e6:bF.eval (.tmp 6) = .pointer (some ⟨g713,0,none⟩):=hsF.old' 6 (by kernel_rfl) rfl
    have hB':=hB
    refine step_load_part rfl 100 _ rfl (g713) (0) (arr .i64 z712) 100 (0,0) _ (hB'.get 3 rfl) e6 .i64 z712 (arr_part _ _) Tryd.underlying100 rfl (el_i HL712.out) ?_
    exact hKF _ _ ⟨j0,j1,j2,j3,fun _ h=>⟨sI h,trivial⟩,j5,j6,j7,j8,j9,j10,j11,j12,j13,j14,j16,hB⟩
   refine LinAll.cons (fun fF bF uF kF hJF hfF hcF hupF hsF hKF=>?_) ?_
   ·obtain ⟨j0,j1,j2,j3,j4,j5,j6,j7,j8,j9,j10,j11,j12,j13,j14,j16,hB⟩:=hJF
    obtain ⟨e31,p31⟩:=hsF.at hupF 3 31 (by kernel_rfl) rfl j3
    obtain ⟨e32,p32⟩:=hsF.at hupF 4 32 (by kernel_rfl) rfl j4
    refine lin_call rfl 98 [Operand.tmp 31,Operand.tmp 32] _ [.agg (arr .i64 dl), .agg (arr .i64 z712)] rfl (by simp only [List.map_cons,List.map_nil,e31,e32] <;> rfl) (fun _ _=>by kernel_rfl) ?_
    refine Calls.mono (mul_any _ _ _ _ _ HD.out HZ712.out) ?_
    rintro e w1 ⟨zq,rfl,rq,hb⟩
    exact ⟨_,rfl,hKF _ _ ⟨j0,j1,j2,j3,j4,fun _ h=>⟨zq,sI h,rq⟩,j6,j7,j8,j9,j10,j11,j12,j13,j14,j16,hB.kept hb⟩⟩
   refine LinAll.cons (fun fF bF uF kF hJF hfF hcF hupF hsF hKF=>?_) ?_
   ·obtain ⟨j0,j1,j2,j3,j4,j5,j6,j7,j8,j9,j10,j11,j12,j13,j14,j16,hB⟩:=hJF
    refine lin_call rfl 101 [Operand.const (Value.int IntKind.i64 1)] _ [.int .i64 1] rfl (by simp only [List.map_cons,List.map_nil] <;> rfl) (fun _ _=>by kernel_rfl) ?_
    refine Calls.mono (one_any 1 _ (by decide)) ?_
    rintro e w1 ⟨zq,rfl,rq,hb⟩
    exact ⟨_,rfl,hKF _ _ ⟨j0,j1,j2,j3,j4,j5,fun _ h=>⟨zq,sI h,rq⟩,j7,j8,j9,j10,j11,j12,j13,j14,j16,hB.kept hb⟩⟩
   refine LinAll.cons (fun fF bF uF kF hJF hfF hcF hupF hsF hKF=>?_) ?_
   ·obtain ⟨j0,j1,j2,j3,j4,j5,j6,j7,j8,j9,j10,j11,j12,j13,j14,j16,hB⟩:=hJF
    have y5:=hupF 5 (by kernel_rfl)
    obtain ⟨v5,s5⟩:=sE y5
    obtain ⟨xd7_5,rfl,r5⟩:=j5 _ s5
    have Rd7_5:=Lib.hid r5
    have HLd7_5:=Lib.hid (r5.1)
    have e33:=hsF.val 5 33 rfl s5
    have y6:=hupF 6 (by kernel_rfl)
    obtain ⟨v6,s6⟩:=sE y6
    obtain ⟨xd7_6,rfl,r6⟩:=j6 _ s6
    have Rd7_6:=Lib.hid r6
    have HLd7_6:=Lib.hid (r6.1)
    have e34:=hsF.val 6 34 rfl s6
    refine lin_call rfl 107 [Operand.tmp 33,Operand.tmp 34] _ [.agg (arr .i64 xd7_5), .agg (arr .i64 xd7_6)] rfl (by simp only [List.map_cons,List.map_nil,e33,e34] <;> rfl) (fun _ _=>by kernel_rfl) ?_
    refine Calls.mono (add_any _ _ _ _ _ Rd7_5.out Rd7_6.out) ?_
    rintro e w1 ⟨zq,rfl,rq,hb⟩
    exact ⟨_,rfl,hKF _ _ ⟨j0,j1,j2,j3,j4,j5,j6,fun _ h=>⟨zq,sI h,rq⟩,j8,j9,j10,j11,j12,j13,j14,j16,hB.kept hb⟩⟩
   refine LinAll.cons (fun fF bF uF kF hJF hfF hcF hupF hsF hKF=>?_) ?_
   ·obtain ⟨j0,j1,j2,j3,j4,j5,j6,j7,j8,j9,j10,j11,j12,j13,j14,j16,hB⟩:=hJF
    have y7:=hupF 7 (by kernel_rfl)
    obtain ⟨v7,s7⟩:=sE y7
    obtain ⟨xd7_7,rfl,r7⟩:=j7 _ s7
    have Rd7_7:=Lib.hid r7
    have HLd7_7:=Lib.hid (r7.1)
    have e35:=hsF.val 7 35 rfl s7
    refine lin_call rfl 96 [Operand.tmp 35] _ [.agg (arr .i64 xd7_7)] rfl (by simp only [List.map_cons,List.map_nil,e35] <;> rfl) (fun _ _=>by kernel_rfl) ?_
    refine Calls.mono (inv_any _ _ _ Rd7_7.out) ?_
    rintro e w1 ⟨zq,rfl,rq,hb⟩
    exact ⟨_,rfl,hKF _ _ ⟨j0,j1,j2,j3,j4,j5,j6,j7,fun _ h=>⟨zq,sI h,rq⟩,j9,j10,j11,j12,j13,j14,j16,hB.kept hb⟩⟩
   refine LinAll.cons (fun fF bF uF kF hJF hfF hcF hupF hsF hKF=>?_) ?_
   ·obtain ⟨j0,j1,j2,j3,j4,j5,j6,j7,j8,j9,j10,j11,j12,j13,j14,j16,hB⟩:=hJF
    have y2:=hupF 2 (by kernel_rfl)
    obtain ⟨v2,s2⟩:=sE y2
    obtain ⟨xd7_2,rfl,r2⟩:=j2 _ s2
    have Rd7_2:=Lib.hid r2
    have HLd7_2:=Lib.hid (r2.1)
    have e30:=hsF.val 2 30 rfl s2
    have y8:=hupF 8 (by kernel_rfl)
    obtain ⟨v8,s8⟩:=sE y8
    obtain ⟨xd7_8,rfl,r8⟩:=j8 _ s8
    have Rd7_8:=Lib.hid r8
    have HLd7_8:=Lib.hid (r8.1)
    have e36:=hsF.val 8 36 rfl s8
    refine lin_call rfl 98 [Operand.tmp 30,Operand.tmp 36] _ [.agg (arr .i64 xd7_2), .agg (arr .i64 xd7_8)] rfl (by simp only [List.map_cons,List.map_nil,e30,e36] <;> rfl) (fun _ _=>by kernel_rfl) ?_
    refine Calls.mono (mul_any _ _ _ _ _ Rd7_2.out Rd7_8.out) ?_
    rintro e w1 ⟨zq,rfl,rq,hb⟩
    exact ⟨_,rfl,hKF _ _ ⟨j0,j1,j2,j3,j4,j5,j6,j7,j8,fun _ h=>⟨zq,sI h,rq⟩,j10,j11,j12,j13,j14,j16,hB.kept hb⟩⟩
   refine LinAll.cons (fun fF bF uF kF hJF hfF hcF hupF hsF hKF=>?_) ?_
   ·obtain ⟨j0,j1,j2,j3,j4,j5,j6,j7,j8,j9,j10,j11,j12,j13,j14,j16,hB⟩:=hJF
    have y9:=hupF 9 (by kernel_rfl)
    obtain ⟨v9,s9⟩:=sE y9
    obtain ⟨xd7_9,rfl,r9⟩:=j9 _ s9
    have Rd7_9:=Lib.hid r9
    have HLd7_9:=Lib.hid (r9.1)
    have e37:=hsF.val 9 37 rfl s9
    refine lin_call rfl 105 [Operand.tmp 37] _ [.agg (arr .i64 xd7_9)] rfl (by simp only [List.map_cons,List.map_nil,e37] <;> rfl) (fun _ _=>by kernel_rfl) ?_
    refine Calls.mono (root_any _ U _ (by rw [← HUU.out];exact Rd7_9.out) (range_below HTI.out hB.below)) ?_
    rintro e w1 ⟨zq,rfl,rq,hb⟩
    exact ⟨_,rfl,hKF _ _ ⟨j0,j1,j2,j3,j4,j5,j6,j7,j8,j9,fun _ h=>⟨zq,sI h,rq⟩,j11,j12,j13,j14,j16,hB.kept hb⟩⟩
   refine LinAll.cons (fun fF bF uF kF hJF hfF hcF hupF hsF hKF=>?_) ?_
   ·obtain ⟨j0,j1,j2,j3,j4,j5,j6,j7,j8,j9,j10,j11,j12,j13,j14,j16,hB⟩:=hJF
    have y10:=hupF 10 (by kernel_rfl)
    obtain ⟨v10,s10⟩:=sE y10
    obtain ⟨xd7_10,rfl,r10⟩:=j10 _ s10
    have Rd7_10:=Lib.hid r10
    have HLd7_10:=Lib.hid (r10.1)
    have e38:=hsF.val 10 38 rfl s10
    exact lin_pure rfl (.tuple #[.agg (arr .i64 xd7_10), .bool (rsqrt U).2]) (by simp only [execOp,e38] <;> first|rfl|kernel_rfl|(go_simp;done)) (hKF _ _ ⟨j0,j1,j2,j3,j4,j5,j6,j7,j8,j9,j10,fun _ h=>⟨xd7_10,sI h,Rd7_10.out⟩,j12,j13,j14,j16,hB⟩)
   refine LinAll.cons (fun fF bF uF kF hJF hfF hcF hupF hsF hKF=>?_) ?_
   ·obtain ⟨j0,j1,j2,j3,j4,j5,j6,j7,j8,j9,j10,j11,j12,j13,j14,j16,hB⟩:=hJF
    have y11:=hupF 11 (by kernel_rfl)
    obtain ⟨v11,s11⟩:=sE y11
    obtain ⟨xd7_11,rfl,r11⟩:=j11 _ s11
    have Rd7_11:=Lib.hid r11
    have HLd7_11:=Lib.hid (r11.1)
    have e27:=hsF.val 11 27 rfl s11
    have n15:=hcF.down 15 12 (by kernel_rfl) hfF
    exact lin_pure rfl (.agg (arr .i64 xd7_11)) (by simp only [execOp,e27] <;> first|rfl|kernel_rfl|(go_simp;done)) (hKF _ _ ⟨j0,j1,j2,j3,j4,j5,j6,j7,j8,j9,j10,j11,fun _ h=>⟨xd7_11,sI h,Rd7_11.out⟩,j13,j14,j16,(by have h:=hB;rw [n15] at h;rw [upd_none n15];exact h;decide)⟩)
   refine LinAll.cons (fun fF bF uF kF hJF hfF hcF hupF hsF hKF=>?_) ?_
   ·obtain ⟨j0,j1,j2,j3,j4,j5,j6,j7,j8,j9,j10,j11,j12,j13,j14,j16,hB⟩:=hJF
    have y11:=hupF 11 (by kernel_rfl)
    obtain ⟨v11,s11⟩:=sE y11
    obtain ⟨xd7_11,rfl,r11⟩:=j11 _ s11
    have Rd7_11:=Lib.hid r11
    have HLd7_11:=Lib.hid (r11.1)
    have e27:=hsF.val 11 27 rfl s11
    exact lin_pure rfl (.bool (rsqrt U).2) (by simp only [execOp,e27] <;> first|rfl|kernel_rfl|(go_simp;done)) (hKF _ _ ⟨j0,j1,j2,j3,j4,j5,j6,j7,j8,j9,j10,j11,j12,fun _ h=>⟨sI h,trivial⟩,j14,j16,hB⟩)
   refine LinAll.cons (fun fF bF uF kF hJF hfF hcF hupF hsF hKF=>?_) ?_
   ·obtain ⟨j0,j1,j2,j3,j4,j5,j6,j7,j8,j9,j10,j11,j12,j13,j14,j16,hB⟩:=hJF
    have n15:=hcF.down 15 14 (by kernel_rfl) hfF
    refine step_alloc_row rfl 100 rfl _ (HZze.out _) ?_
    have hB1:Blk w (uF.alloc (.cells (arr .i64 ze) 100)) ([(w.heap.size,arr .u8 ms, 23),(w.heap.size+1,arr .i64 zp, 102),(g710,arr .i64 z709, 100),(g713,arr .i64 z712, 100)] ++ (ent ((some (.pointer (some ⟨uF.heap.size,0,none⟩)):Option Value)) ((if (fF 15).isSome=true then aggOf (fF 12) else arr .i64 ze)) 100)):=hB.ins (a:=[(w.heap.size,arr .u8 ms, 23),(w.heap.size+1,arr .i64 zp, 102),(g710,arr .i64 z709, 100),(g713,arr .i64 z712, 100)]) (b:=[]) _ _ (by rw [hfF,n15];simp only [ent_none,List.nil_append,List.append_nil,List.append_assoc,List.cons_append]) (by rw [n15];simp only [ent_some,List.nil_append,List.append_nil,List.append_assoc,List.cons_append,Option.isSome_none,Bool.false_eq_true,if_false])
    exact hKF _ _ ⟨j0,j1,j2,j3,j4,j5,j6,j7,j8,j9,j10,j11,j12,j13,fun _ h=>⟨_,sI h⟩,j16,hB1⟩
   refine LinAll.cons (fun fF bF uF kF hJF hfF hcF hupF hsF hKF=>?_) ?_
   ·obtain ⟨j0,j1,j2,j3,j4,j5,j6,j7,j8,j9,j10,j11,j12,j13,j14,j16,hB⟩:=hJF
    have y14:=hupF 14 (by kernel_rfl)
    obtain ⟨v14,s14⟩:=sE y14
    obtain ⟨gd7_4,rfl⟩:=j14 _ s14
    have e7:=hsF.val 14 7 rfl s14
    have y12:=hupF 12 (by kernel_rfl)
    obtain ⟨v12,s12⟩:=sE y12
    obtain ⟨xd7_12,rfl,r12⟩:=j12 _ s12
    have Rd7_12:=Lib.hid r12
    have HLd7_12:=Lib.hid (r12.1)
    have e39:=hsF.val 12 39 rfl s12
    have hB':=hB
    rw [s14,s12,hfF] at hB'
    refine step_store_whole rfl 100 (.tmp 7) (.tmp 39) rfl (gd7_4) (arr .i64 ze) _ 100 (hB'.get 4 rfl) e7 e39 (arr_len2 _ _ HLd7_12.out HLze.out) (el_s HLd7_12.out) (all_arr _ _) ?_
    intro w1 hb1 hk1 hz1
    have hB1:Blk w w1 ([(w.heap.size,arr .u8 ms, 23),(w.heap.size+1,arr .i64 zp, 102),(g710,arr .i64 z709, 100),(g713,arr .i64 z712, 100)] ++ (ent (fF 14) ((if ((some undef:Option Value)).isSome=true then aggOf (fF 12) else arr .i64 ze)) 100)):=by rw [s14,s12];exact hB'.put 4 rfl hk1 hb1
    exact hKF undef w1 ⟨j0,j1,j2,j3,j4,j5,j6,j7,j8,j9,j10,j11,j12,j13,j14,j16,hB1⟩
   refine LinAll.cons (fun fF bF uF kF hJF hfF hcF hupF hsF hKF=>?_) ?_
   ·obtain ⟨j0,j1,j2,j3,j4,j5,j6,j7,j8,j9,j10,j11,j12,j13,j14,j16,hB⟩:=hJF
    obtain ⟨e40,p40⟩:=hsF.at hupF 13 40 (by kernel_rfl) rfl j13
    exact lin_pure rfl (.bool (rsqrt U).2) (by simp only [execOp,e40] <;> first|rfl|kernel_rfl|(go_simp;done)) (hKF _ _ ⟨j0,j1,j2,j3,j4,j5,j6,j7,j8,j9,j10,j11,j12,j13,j14,fun _ h=>⟨sI h,trivial⟩,hB⟩)
   exact LinAll.nil
  case ed7 =>
  intro fF ud7 hall hJF
  obtain ⟨j0,j1,j2,j3,j4,j5,j6,j7,j8,j9,j10,j11,j12,j13,j14,j16,hB⟩:=hJF
  obtain ⟨v0,h0⟩:=sE (hall 0 (by decide))
  obtain ⟨rfl,p0⟩:=j0 _ h0
  obtain ⟨v1,h1⟩:=sE (hall 1 (by decide))
  obtain ⟨xd7_1,rfl,r1⟩:=j1 _ h1
  have Rd7_1:=Lib.hid r1
  have HLd7_1:=Lib.hid (r1.1)
  clear r1
  obtain ⟨v2,h2⟩:=sE (hall 2 (by decide))
  obtain ⟨xd7_2,rfl,r2⟩:=j2 _ h2
  have Rd7_2:=Lib.hid r2
  have HLd7_2:=Lib.hid (r2.1)
  clear r2
  obtain ⟨v3,h3⟩:=sE (hall 3 (by decide))
  obtain ⟨rfl,p3⟩:=j3 _ h3
  obtain ⟨v4,h4⟩:=sE (hall 4 (by decide))
  obtain ⟨rfl,p4⟩:=j4 _ h4
  obtain ⟨v5,h5⟩:=sE (hall 5 (by decide))
  obtain ⟨xd7_5,rfl,r5⟩:=j5 _ h5
  have Rd7_5:=Lib.hid r5
  have HLd7_5:=Lib.hid (r5.1)
  clear r5
  obtain ⟨v6,h6⟩:=sE (hall 6 (by decide))
  obtain ⟨xd7_6,rfl,r6⟩:=j6 _ h6
  have Rd7_6:=Lib.hid r6
  have HLd7_6:=Lib.hid (r6.1)
  clear r6
  obtain ⟨v7,h7⟩:=sE (hall 7 (by decide))
  obtain ⟨xd7_7,rfl,r7⟩:=j7 _ h7
  have Rd7_7:=Lib.hid r7
  have HLd7_7:=Lib.hid (r7.1)
  clear r7
  obtain ⟨v8,h8⟩:=sE (hall 8 (by decide))
  obtain ⟨xd7_8,rfl,r8⟩:=j8 _ h8
  have Rd7_8:=Lib.hid r8
  have HLd7_8:=Lib.hid (r8.1)
  clear r8
  obtain ⟨v9,h9⟩:=sE (hall 9 (by decide))
  obtain ⟨xd7_9,rfl,r9⟩:=j9 _ h9
  have Rd7_9:=Lib.hid r9
  have HLd7_9:=Lib.hid (r9.1)
  clear r9
  obtain ⟨v10,h10⟩:=sE (hall 10 (by decide))
  obtain ⟨xd7_10,rfl,r10⟩:=j10 _ h10
  have Rd7_10:=Lib.hid r10
  have HLd7_10:=Lib.hid (r10.1)
  clear r10
  obtain ⟨v11,h11⟩:=sE (hall 11 (by decide))
  obtain ⟨xd7_11,rfl,r11⟩:=j11 _ h11
  have Rd7_11:=Lib.hid r11
  have HLd7_11:=Lib.hid (r11.1)
  clear r11
  obtain ⟨v12,h12⟩:=sE (hall 12 (by decide))
  obtain ⟨xd7_12,rfl,r12⟩:=j12 _ h12
  have Rd7_12:=Lib.hid r12
  have HLd7_12:=Lib.hid (r12.1)
  clear r12
  obtain ⟨v13,h13⟩:=sE (hall 13 (by decide))
  obtain ⟨rfl,p13⟩:=j13 _ h13
  obtain ⟨v14,h14⟩:=sE (hall 14 (by decide))
  obtain ⟨gd7_4,rfl⟩:=j14 _ h14
  obtain ⟨v15,h15⟩:=sE (hall 15 (by decide))
  obtain ⟨v16,h16⟩:=sE (hall 16 (by decide))
  obtain ⟨rfl,p16⟩:=j16 _ h16
  rw [h14,h15,h12] at hB
  have HBd7:Hid (Blk w ud7 [(w.heap.size,arr .u8 ms, 23),(w.heap.size+1,arr .i64 zp, 102),(g710,arr .i64 z709, 100),(g713,arr .i64 z712, 100),(gd7_4,arr .i64 xd7_12, 100)]):=Lib.hid hB
  simp only [laid,Nat.zero_add,Nat.reduceAdd,h0,h1,h2,h3,h4,h5,h6,h7,h8,h9,h10,h11,h12,h13,h14,h15,h16,Act.put,sA,sZ,sS]
  clear j0 j1 j2 j3 j4 j5 j6 j7 j8 j9 j10 j11 j12 j13 j14 j16 hB h0 h1 h2 h3 h4 h5 h6 h7 h8 h9 h10 h11 h12 h13 h14 h15 h16 hall fF HB714
  clear p0 p3 p4 p13 p16
  (try simp only [Exit.then])
  have HB8:=HBd7
  have HXR:=Rd7_12
  have HXL:=HLd7_12
  clear HBd7 Rd7_12
  generalize xd7_12=xr at HB8 HXR HXL ⊢
  generalize ud7=wy at HB8 ⊢
  generalize gd7_4=gx at HB8 ⊢
  obtain ⟨r,hr⟩:∃ r,r=(rsqrt U).1:=⟨_,rfl⟩
  have HR:=Lib.hid hr
  rw [← hr] at HXR
  have hrl:r < p:=by rw [hr];exact rsqrt_lt U
  have HRL:=Lib.hid hrl
  clear hr hrl
  cases hok:(rsqrt U).2 with
  | false =>
   have HOK:=Lib.hid hok
   clear hok
   go_wp2_with (first|((with_reducible refine aS 43 ?_);refine wpList_build (by rfl) 102 _ rfl #[] rfl _ (HBP.out _) ?_)|((with_reducible refine aT 2 ?_);refine wpList_store_whole rfl 102 _ _ rfl (w.heap.size+1) _ _ 102 (HB8.out.get 1 rfl) rfl rfl (arr_len2 _ _ HLzp.out HLzp.out) (pt_s HLzp.out) (all_arr _ _) ?_;intro w99 hb99 hk99 hz99;have HBZ:=Lib.hid (HB8.out.put 1 rfl hk99 hb99);clear hb99 hk99 hz99))
   (try simp only [Exit.then])
   refine bodyPost_ret (results_cell_tmp_row rfl _ _ (w.heap.size+1) 102 _ (0,0) _ _ rfl (HBZ.out.get 1 rfl) Tryd.underlying102 rfl (pt_s HLzp.out) rfl) rfl ?_
   have hev:=HE2'.out HOK.out
   exact ⟨zp,by rw [hev];rfl,HLzp.out,(fun P h=>by rw [hev] at h;cases h),HBZ.out.below⟩
  | true =>
   have HOK:=Lib.hid hok
   clear hok
   have how:=fun w=>out_any xr r w HXR.out
   have hz:=dig32_inj (Nat.lt_trans HRL.out p_lt32) (show 0 < 256 ^ 32 by decide)
   rw [← HNz.out] at hz
   have hlo:(nar (dig 256 32 r)).getD 0 0=((r % 256:Nat):Int):=by rw [nar_get,low_byte]
   obtain ⟨rw8,hrw⟩:∃ x,x=nar (dig 256 32 r):=⟨_,rfl⟩
   have HWL:Hid (rw8.length=32):=Lib.hid (by rw [hrw,nar_len,dig_len])
   rw [← hrw] at how hz hlo
   have HOW:=Lib.hid how
   have HZZ:=Lib.hid hz
   have HLO:=Lib.hid hlo
   clear how hz hlo hrw
   go_upto_region 11 with (first|((with_reducible refine aS 44 ?_);refine wpList_load_part rfl 100 _ rfl (gx) (0) _ 100 (0,0) _ (HB8.out.get 4 rfl) rfl .i64 xr (arr_part _ _) Tryd.underlying100 rfl (el_i HXL.out) ?_)|((with_reducible show Calls _ 97 #[.agg _] _ _);go_at_call 97; refine (HOW.out _).mono ?_;rintro e w715 ⟨rfl,hb715⟩;have HB715:=Lib.hid (HB8.out.kept hb715);clear hb715)|((with_reducible refine aS 9 ?_);refine wpList_alloc_row rfl 23 rfl _ (HZzn.out _) ?_;have HB716:=Lib.hid (HB715.out.alloc (arr .u8 zn) 23);generalize w715.heap.size=g716 at HB716 ⊢; generalize w715.alloc (.cells (arr .u8 zn) 23)=w716 at HB716 ⊢; clear HB715)|((with_reducible refine aT 9 (x:=(Operand.tmp 45)) ?_);refine wpList_store_whole rfl 23 _ _ rfl (g716) _ _ 23 (HB716.out.get 5 rfl) rfl rfl (arr_len2 _ _ HWL.out HLzn.out) (num_s HWL.out) (all_arr _ _) ?_;intro w717 hb717 hk717 hz717;have HB717:=Lib.hid (HB716.out.put 5 rfl hk717 hb717);clear hb717 hk717 hz717;clear HB716))
   (try simp only [World.size_alloc,Act.put,sA,sZ,sS])
   by_cases hz:r=0∧b=1
   ·obtain ⟨hz1,hz2⟩:=hz
    have hzb:=HZZ.out
    rw [decide_eq_true hz1] at hzb
    have HZB:=Lib.hid hzb
    have HNO:=Lib.hid (HE3'.out hz2 (by rw [← HR.out];exact hz1))
    have hb1:((b:Int) == 1)=true:=by rw [hz2];rfl
    clear hzb hz1 hz2
    go_upto_region 12 with (first|((with_reducible refine aS 46 ?_);refine wpList_load_part rfl 23 _ rfl (g716) 0 _ 23 (0,0) _ (HB717.out.get 5 rfl) rfl .u8 rw8 (arr_part _ _) Tryd.underlying23 rfl (num_i HWL.out) ?_)|((with_reducible refine aS 47 ?_);refine wpList_build (by rfl) 23 _ rfl #[] rfl _ (HBN.out _) ?_)|((with_reducible refine aS 48 ?_);refine wpList_eql_arr (by rfl) 23 _ _ (.tmp 46) (.tmp 47) rfl 32 .u8 .u8 Tryd.underlying23 Tryd.underlying5 (fun w=>by kernel_rfl) (by kernel_rfl) rw8 zn rfl rfl HWL.out HLzn.out true HZB.out ?_))
    go_wp2_with (first|((with_reducible refine aS 53 ?_);refine wpList_build (by rfl) 102 _ rfl #[] rfl _ (HBP.out _) ?_)|((with_reducible refine aT 2 ?_);refine wpList_store_whole rfl 102 _ _ rfl (w.heap.size+1) _ _ 102 (HB717.out.get 1 rfl) rfl rfl (arr_len2 _ _ HLzp.out HLzp.out) (pt_s HLzp.out) (all_arr _ _) ?_;intro w99 hb99 hk99 hz99;have HBZ:=Lib.hid (HB717.out.put 1 rfl hk99 hb99);clear hb99 hk99 hz99))
    (try simp only [Exit.then])
    refine bodyPost_ret (results_cell_tmp_row rfl _ _ (w.heap.size+1) 102 _ (0,0) _ _ rfl (HBZ.out.get 1 rfl) Tryd.underlying102 rfl (pt_s HLzp.out) rfl) rfl ?_
    have hev:=HNO.out
    exact ⟨zp,by rw [hev];rfl,HLzp.out,(fun P h=>by rw [hev] at h;cases h),HBZ.out.below⟩
   ·have HSO:=Lib.hid (HE4'.out r hyp HR.out.symm HOK.out hz)
    have hzk:=Lib.hid hz
    go_cut [52] (fun v52 wx=>v52 = .bool false∧Blk w wx [(w.heap.size,arr .u8 ms, 23),(w.heap.size+1,arr .i64 zp, 102),(g710,arr .i64 z709, 100),(g713,arr .i64 z712, 100),(gx,arr .i64 xr, 100),(g716,(arr .u8 rw8), 23)])
    case first =>
     by_cases hz1:r=0
     ·have hzb:=HZZ.out
      rw [decide_eq_true hz1] at hzb
      have HZB:=Lib.hid hzb
      clear hzb hz
      have hb0:((b:Int) == 1)=false:=by rw [beq_eq_false_iff_ne];have:=HB2.out;have:¬ b=1:=fun e=>hzk.out ⟨hz1,e⟩;omega
      go_wp2_with (first|((with_reducible refine aS 46 ?_);refine wpList_load_part rfl 23 _ rfl (g716) 0 _ 23 (0,0) _ (HB717.out.get 5 rfl) rfl .u8 rw8 (arr_part _ _) Tryd.underlying23 rfl (num_i HWL.out) ?_)|((with_reducible refine aS 47 ?_);refine wpList_build (by rfl) 23 _ rfl #[] rfl _ (HBN.out _) ?_)|((with_reducible refine aS 48 ?_);refine wpList_eql_arr (by rfl) 23 _ _ (.tmp 46) (.tmp 47) rfl 32 .u8 .u8 Tryd.underlying23 Tryd.underlying5 (fun w=>by kernel_rfl) (by kernel_rfl) rw8 zn rfl rfl HWL.out HLzn.out true HZB.out ?_))
      go_meet
      exact ⟨rfl,HB717.out⟩
     ·have hzb:=HZZ.out
      rw [decide_eq_false hz1] at hzb
      have HZB:=Lib.hid hzb
      clear hzb hz
      go_wp2_with (first|((with_reducible refine aS 46 ?_);refine wpList_load_part rfl 23 _ rfl (g716) 0 _ 23 (0,0) _ (HB717.out.get 5 rfl) rfl .u8 rw8 (arr_part _ _) Tryd.underlying23 rfl (num_i HWL.out) ?_)|((with_reducible refine aS 47 ?_);refine wpList_build (by rfl) 23 _ rfl #[] rfl _ (HBN.out _) ?_)|((with_reducible refine aS 48 ?_);refine wpList_eql_arr (by rfl) 23 _ _ (.tmp 46) (.tmp 47) rfl 32 .u8 .u8 Tryd.underlying23 Tryd.underlying5 (fun w=>by kernel_rfl) (by kernel_rfl) rw8 zn rfl rfl HWL.out HLzn.out false HZB.out ?_))
      go_meet
      exact ⟨rfl,HB717.out⟩
    case rest =>
    obtain ⟨wz,rfl⟩:∃ x:World,x=wc:=⟨_,rfl⟩
    obtain ⟨rfl,hbc⟩:=hcut
    have HBC:=Lib.hid hbc
    clear hbc
    have q0:=arr_get' (HBC.out.get 5 rfl) 0 (by rw [HWL.out];decide)
    rw [HLO.out] at q0
    have ha2:=and1u (r % 256) (Nat.mod_lt _ (by decide))
    rw [Nat.mod_mod_of_dvd r (show 2 ∣ 256 by decide)] at ha2
    have hbb:=HB2.out
    by_cases hf:r % 2≠b
    ·have HFL:=Lib.hid hf
     have hw:(bits .and .u8 ((r % 256:Nat):Int) 1 == (b:Int))=false:=by rw [ha2];rw [beq_eq_false_iff_ne];omega
     generalize r % 256=rb at q0 hw
     clear hf ha2
     go_upto_region 13 with fail
     go_upto_region 15 with (first|((with_reducible refine aS 59 ?_);refine wpList_build (by rfl) 100 _ rfl #[] rfl _ (HBE.out _) ?_)|((with_reducible refine aS 60 ?_);refine wpList_load_part rfl 100 _ rfl (gx) (0) _ 100 (0,0) _ (HBC.out.get 4 rfl) rfl .i64 xr (arr_part _ _) Tryd.underlying100 rfl (el_i HXL.out) ?_)|((with_reducible show Calls _ 106 #[.agg _, .agg _] _ _);go_at_call 106; refine (sub_any _ _ _ _ _ HEz.out HXR.out).mono ?_;rintro e w718 ⟨z718,rfl,h718,hb718⟩;have HZ718:=Lib.hid h718;have HL718:=Lib.hid h718.1;clear h718;have HB718:=Lib.hid (HBC.out.kept hb718);clear hb718)|((with_reducible refine aT 7 (x:=(Operand.tmp 61)) ?_);refine wpList_store_whole rfl 100 _ _ rfl (gx) _ _ 100 (HB718.out.get 4 rfl) rfl rfl (arr_len2 _ _ HL718.out HXL.out) (el_s HL718.out) (all_arr _ _) ?_;intro w719 hb719 hk719 hz719;have HB719:=Lib.hid (HB718.out.put 4 rfl hk719 hb719);clear hb719 hk719 hz719;clear HB718))
     have HK0:=Lib.hid ((Kept.refl (fun x=>x=w.heap.size+1) w719).drew)
     have HBd:=Lib.hid (HB719.out.drew)
     refine wp_region_held_drew (S:=(fun w'=>Kept (fun x=>x=w.heap.size+1) w719 w')) (by kernel_rfl) (HK0.out) (fun hHeld=>?_)
     generalize w719.drew=wd at HK0 HBd hHeld ⊢
     refine' wpAnyH_take (i:=0) (oi:=(⟨some 62,_,_,_,_,none⟩:Oper)) (v:=_) rfl (by kernel_rfl) (by kernel_rfl) (by kernel_rfl) (fun _ _ _ h=>h) (yieldsIf_load_mid (by rfl) _ _ rfl _ _ rfl (z718.map (Value.int .i64)) _ ?hS720 Tryd.underlying100 rfl (by rw [List.length_map];exact el_i HL718.out)) (by assumption) ?rest720
     case hS720=>(intro w hSw;(try dsimp only at hSw);exact range_part (hSw.blk (HB719.out.get 4 rfl) (HB719.out.ne 4 1 rfl rfl (by decide))) 0 _ (by rw [List.length_map];exact arr_part _ _))
     (try simp only [Act.put,sA,sZ,sS])
     refine' wpAnyH_take (i:=1) (oi:=(⟨some 63,_,_,_,_,none⟩:Oper)) (v:=_) rfl (by kernel_rfl) (by kernel_rfl) (by kernel_rfl) (fun _ _ _ h=>h) (yieldsIf_load_mid (by rfl) _ _ rfl _ _ rfl (z709.map (Value.int .i64)) _ ?hS721 Tryd.underlying100 rfl (by rw [List.length_map];exact el_i HL709.out)) (by assumption) ?rest721
     case hS721=>(intro w hSw;(try dsimp only at hSw);exact range_part (hSw.blk (HB719.out.get 2 rfl) (HB719.out.ne 2 1 rfl rfl (by decide))) 0 _ (by rw [List.length_map];exact arr_part _ _))
     (try simp only [Act.put,sA,sZ,sS])
     refine' wpAnyH_take (i:=3) (oi:=(⟨some 65,_,_,_,_,none⟩:Oper)) (v:=_) rfl (by kernel_rfl) (by kernel_rfl) (by kernel_rfl) (fun _ _ _ h=>h) (yieldsIf_load_mid (by rfl) _ _ rfl _ _ rfl (z718.map (Value.int .i64)) _ ?hS722 Tryd.underlying100 rfl (by rw [List.length_map];exact el_i HL718.out)) (by assumption) ?rest722
     case hS722=>(intro w hSw;(try dsimp only at hSw);exact range_part (hSw.blk (HB719.out.get 4 rfl) (HB719.out.ne 4 1 rfl rfl (by decide))) 0 _ (by rw [List.length_map];exact arr_part _ _))
     (try simp only [Act.put,sA,sZ,sS])
     refine' wpAnyH_take (i:=4) (oi:=(⟨some 66,_,_,_,_,none⟩:Oper)) (v:=_) rfl (by kernel_rfl) (by kernel_rfl) (by kernel_rfl) (fun _ _ _ h=>h) (yieldsIf_load_mid (by rfl) _ _ rfl _ _ rfl (z709.map (Value.int .i64)) _ ?hS723 Tryd.underlying100 rfl (by rw [List.length_map];exact el_i HL709.out)) (by assumption) ?rest723
     case hS723=>(intro w hSw;(try dsimp only at hSw);exact range_part (hSw.blk (HB719.out.get 2 rfl) (HB719.out.ne 2 1 rfl rfl (by decide))) 0 _ (by rw [List.length_map];exact arr_part _ _))
     (try simp only [Act.put,sA,sZ,sS])
     refine wpAnyH_ready (rs:=[2]) (by kernel_rfl) (by simp) ?_
     refine AllReadyH.cons (o:=(⟨some 64,_,_,_,_,none⟩:Oper)) rfl (fun K hK=>?_) AllReadyH.nil
     go_simp
     go_at_call 101
     refine (one_any 1 _ (by decide)).mono ?_
     rintro e w724 ⟨z724,rfl,h724,hb724⟩
     have HZ724:=Lib.hid h724
     have HL724:=Lib.hid h724.1
     clear h724
     have HB724:=Lib.hid (HBd.out.kept hb724)
     have HK724:=Lib.hid (HK0.out.trans (Kept.of_below hb724))
     clear hb724
     (try dsimp only)
     clear HBd
     clear HK0
     clear hHeld
     refine hK.out _ _ (HK724.out) (fun hHeld=>?_)
     clear hK K
     (try simp only [Act.put,sA,sZ,sS])
     refine wpAnyH_ready (rs:=[5]) (by kernel_rfl) (by simp) ?_
     refine AllReadyH.cons (o:=(⟨some 67,_,_,_,_,none⟩:Oper)) rfl (fun K hK=>?_) AllReadyH.nil
     go_simp
     go_at_call 98
     refine (mul_any _ _ _ _ _ HZ718.out HZ709.out).mono ?_
     rintro e w725 ⟨z725,rfl,h725,hb725⟩
     have HZ725:=Lib.hid h725
     have HL725:=Lib.hid h725.1
     clear h725
     have HB725:=Lib.hid (HB724.out.kept hb725)
     have HK725:=Lib.hid (HK724.out.trans (Kept.of_below hb725))
     clear hb725
     (try dsimp only)
     clear HB724
     clear HK724
     clear hHeld
     refine hK.out _ _ (HK725.out) (fun hHeld=>?_)
     clear hK K
     (try simp only [Act.put,sA,sZ,sS])
     obtain ⟨v727,hv727⟩:∃ x,x=z718 ++ z709 ++ z724 ++ z725:=⟨_,rfl⟩
     have HR727:Hid (∀ w,(Instr.build 102 #[(0, .agg (arr .i64 z718)),(1, .agg (arr .i64 z709)),(2, .agg (arr .i64 z724)),(3, .agg (arr .i64 z725))]).run Tryd.prog w = .ok (.agg (arr .i64 v727)) w):=Lib.hid (fun w=>by rw [hv727];exact build_pt _ _ _ _ HL718.out HL709.out HL724.out HL725.out w)
     have HL727:Hid (v727.length=64):=Lib.hid (by rw [hv727];exact pt_len HL718.out HL709.out HL724.out HL725.out)
     have HV727:=Lib.hid hv727
     clear hv727
     refine wpAnyH_take (i:=6) (oi:=(⟨some 68,_,_,_,_,none⟩:Oper)) (v:=(.agg (arr .i64 v727))) rfl (by kernel_rfl) (by kernel_rfl) (by kernel_rfl) (fun _ _ _ h=>h) (Or.inl ⟨by rfl,?hy726⟩) (by assumption) ?rest726
     case hy726=>(intro w hSw;(try dsimp only at hSw);exact exec_build 102 _ rfl #[(0, .agg (arr .i64 z718)),(1, .agg (arr .i64 z709)),(2, .agg (arr .i64 z724)),(3, .agg (arr .i64 z725))] rfl _ (HR727.out _))
     (try simp only [Act.put,sA,sZ,sS])
     refine wpAnyH_ready (rs:=[7]) (by kernel_rfl) (by simp) ?_
     refine AllReadyH.cons (o:=(⟨none,_,_,_,_,none⟩:Oper)) rfl (fun K hK=>?_) AllReadyH.nil
     refine step_store_whole rfl 102 (.tmp 2) (.tmp 68) rfl (w.heap.size+1) _ _ _ (HB725.out.get 1 rfl) rfl rfl (arr_len2 _ _ HL727.out HLzp.out) (pt_s HL727.out) (all_arr _ _) ?_
     intro w728 hb728 hk728 hz728
     have HB728:=Lib.hid (HB725.out.put 1 rfl hk728 hb728)
     have HK728:=Lib.hid (HK725.out.trans hk728)
     clear hb728 hk728 hz728
     clear HB725
     clear HK725
     clear hHeld
     refine hK.out _ _ (HK728.out) (fun hHeld=>?_)
     clear hK K
     (try simp only [Act.put])
     refine wpAnyH_take (i:=8) (oi:=(⟨some 3,_,_,_,_,none⟩:Oper)) (v:=?v729) rfl (by kernel_rfl) (by kernel_rfl) (by kernel_rfl) (fun _ _ _ h=>h) (Or.inl ⟨by rfl,?hy729⟩) (by assumption) ?rest729
     case hy729=>(intro w hSw;(try dsimp only at hSw);go_simp;try (with_reducible rfl))
     (try simp only [Act.put,sA,sZ,sS])
     refine wpAnyH_done (by kernel_rfl) ?_ _
     have HBQ:=HB728
     have HWQ:=HL727
     have HF0:=HV727
     have HF1:=HZ718
     have HF2:=HZ709
     have HF3:=HZ724
     have HF4:=HZ725
     (try simp only [Exit.then])
     go_wp2_with fail
     refine bodyPost_ret (results_cell_tmp_row rfl _ _ (w.heap.size+1) 102 _ (0,0) _ _ rfl (HBQ.out.get 1 rfl) Tryd.underlying102 rfl (pt_s HWQ.out) rfl) rfl ?_
     have hev:=HSO.out
     rw [if_pos HFL.out] at hev
     refine ⟨_,by rw [hev];rfl,HWQ.out,(fun P h=>?_),HBQ.out.below⟩
     rw [hev] at h
     cases h
     exact ⟨_,_,_,_,HF0.out,HF1.out,HF2.out,HF3.out,HF4.out⟩
    ·have HFL:=Lib.hid hf
     have hw:(bits .and .u8 ((r % 256:Nat):Int) 1 == (b:Int))=true:=by rw [ha2];rw [beq_iff_eq];omega
     generalize r % 256=rb at q0 hw
     clear hf ha2
     go_upto_region 13 with fail
     go_upto_region 15 with fail
     have HK0:=Lib.hid ((Kept.refl (fun x=>x=w.heap.size+1) wz).drew)
     have HBd:=Lib.hid (HBC.out.drew)
     refine wp_region_held_drew (S:=(fun w'=>Kept (fun x=>x=w.heap.size+1) wz w')) (by kernel_rfl) (HK0.out) (fun hHeld=>?_)
     generalize wz.drew=wd at HK0 HBd hHeld ⊢
     refine' wpAnyH_take (i:=0) (oi:=(⟨some 62,_,_,_,_,none⟩:Oper)) (v:=_) rfl (by kernel_rfl) (by kernel_rfl) (by kernel_rfl) (fun _ _ _ h=>h) (yieldsIf_load_mid (by rfl) _ _ rfl _ _ rfl (xr.map (Value.int .i64)) _ ?hS730 Tryd.underlying100 rfl (by rw [List.length_map];exact el_i HXL.out)) (by assumption) ?rest730
     case hS730=>(intro w hSw;(try dsimp only at hSw);exact range_part (hSw.blk (HBC.out.get 4 rfl) (HBC.out.ne 4 1 rfl rfl (by decide))) 0 _ (by rw [List.length_map];exact arr_part _ _))
     (try simp only [Act.put,sA,sZ,sS])
     refine' wpAnyH_take (i:=1) (oi:=(⟨some 63,_,_,_,_,none⟩:Oper)) (v:=_) rfl (by kernel_rfl) (by kernel_rfl) (by kernel_rfl) (fun _ _ _ h=>h) (yieldsIf_load_mid (by rfl) _ _ rfl _ _ rfl (z709.map (Value.int .i64)) _ ?hS731 Tryd.underlying100 rfl (by rw [List.length_map];exact el_i HL709.out)) (by assumption) ?rest731
     case hS731=>(intro w hSw;(try dsimp only at hSw);exact range_part (hSw.blk (HBC.out.get 2 rfl) (HBC.out.ne 2 1 rfl rfl (by decide))) 0 _ (by rw [List.length_map];exact arr_part _ _))
     (try simp only [Act.put,sA,sZ,sS])
     refine' wpAnyH_take (i:=3) (oi:=(⟨some 65,_,_,_,_,none⟩:Oper)) (v:=_) rfl (by kernel_rfl) (by kernel_rfl) (by kernel_rfl) (fun _ _ _ h=>h) (yieldsIf_load_mid (by rfl) _ _ rfl _ _ rfl (xr.map (Value.int .i64)) _ ?hS732 Tryd.underlying100 rfl (by rw [List.length_map];exact el_i HXL.out)) (by assumption) ?rest732
     case hS732=>(intro w hSw;(try dsimp only at hSw);exact range_part (hSw.blk (HBC.out.get 4 rfl) (HBC.out.ne 4 1 rfl rfl (by decide))) 0 _ (by rw [List.length_map];exact arr_part _ _))
     (try simp only [Act.put,sA,sZ,sS])
     refine' wpAnyH_take (i:=4) (oi:=(⟨some 66,_,_,_,_,none⟩:Oper)) (v:=_) rfl (by kernel_rfl) (by kernel_rfl) (by kernel_rfl) (fun _ _ _ h=>h) (yieldsIf_load_mid (by rfl) _ _ rfl _ _ rfl (z709.map (Value.int .i64)) _ ?hS733 Tryd.underlying100 rfl (by rw [List.length_map];exact el_i HL709.out)) (by assumption) ?rest733
     case hS733=>(intro w hSw;(try dsimp only at hSw);exact range_part (hSw.blk (HBC.out.get 2 rfl) (HBC.out.ne 2 1 rfl rfl (by decide))) 0 _ (by rw [List.length_map];exact arr_part _ _))
     (try simp only [Act.put,sA,sZ,sS])
     refine wpAnyH_ready (rs:=[2]) (by kernel_rfl) (by simp) ?_
     refine AllReadyH.cons (o:=(⟨some 64,_,_,_,_,none⟩:Oper)) rfl (fun K hK=>?_) AllReadyH.nil
     go_simp
     go_at_call 101
     refine (one_any 1 _ (by decide)).mono ?_
     rintro e w734 ⟨z734,rfl,h734,hb734⟩
     have HZ734:=Lib.hid h734
     have HL734:=Lib.hid h734.1
     clear h734
     have HB734:=Lib.hid (HBd.out.kept hb734)
     have HK734:=Lib.hid (HK0.out.trans (Kept.of_below hb734))
     clear hb734
     (try dsimp only)
     clear HBd
     clear HK0
     clear hHeld
     refine hK.out _ _ (HK734.out) (fun hHeld=>?_)
     clear hK K
     (try simp only [Act.put,sA,sZ,sS])
     refine wpAnyH_ready (rs:=[5]) (by kernel_rfl) (by simp) ?_
     refine AllReadyH.cons (o:=(⟨some 67,_,_,_,_,none⟩:Oper)) rfl (fun K hK=>?_) AllReadyH.nil
     go_simp
     go_at_call 98
     refine (mul_any _ _ _ _ _ HXR.out HZ709.out).mono ?_
     rintro e w735 ⟨z735,rfl,h735,hb735⟩
     have HZ735:=Lib.hid h735
     have HL735:=Lib.hid h735.1
     clear h735
     have HB735:=Lib.hid (HB734.out.kept hb735)
     have HK735:=Lib.hid (HK734.out.trans (Kept.of_below hb735))
     clear hb735
     (try dsimp only)
     clear HB734
     clear HK734
     clear hHeld
     refine hK.out _ _ (HK735.out) (fun hHeld=>?_)
     clear hK K
     (try simp only [Act.put,sA,sZ,sS])
     obtain ⟨v737,hv737⟩:∃ x,x=xr ++ z709 ++ z734 ++ z735:=⟨_,rfl⟩
     have HR737:Hid (∀ w,(Instr.build 102 #[(0, .agg (arr .i64 xr)),(1, .agg (arr .i64 z709)),(2, .agg (arr .i64 z734)),(3, .agg (arr .i64 z735))]).run Tryd.prog w = .ok (.agg (arr .i64 v737)) w):=Lib.hid (fun w=>by rw [hv737];exact build_pt _ _ _ _ HXL.out HL709.out HL734.out HL735.out w)
     have HL737:Hid (v737.length=64):=Lib.hid (by rw [hv737];exact pt_len HXL.out HL709.out HL734.out HL735.out)
     have HV737:=Lib.hid hv737
     clear hv737
     refine wpAnyH_take (i:=6) (oi:=(⟨some 68,_,_,_,_,none⟩:Oper)) (v:=(.agg (arr .i64 v737))) rfl (by kernel_rfl) (by kernel_rfl) (by kernel_rfl) (fun _ _ _ h=>h) (Or.inl ⟨by rfl,?hy736⟩) (by assumption) ?rest736
     case hy736=>(intro w hSw;(try dsimp only at hSw);exact exec_build 102 _ rfl #[(0, .agg (arr .i64 xr)),(1, .agg (arr .i64 z709)),(2, .agg (arr .i64 z734)),(3, .agg (arr .i64 z735))] rfl _ (HR737.out _))
     (try simp only [Act.put,sA,sZ,sS])
     refine wpAnyH_ready (rs:=[7]) (by kernel_rfl) (by simp) ?_
     refine AllReadyH.cons (o:=(⟨none,_,_,_,_,none⟩:Oper)) rfl (fun K hK=>?_) AllReadyH.nil
     refine step_store_whole rfl 102 (.tmp 2) (.tmp 68) rfl (w.heap.size+1) _ _ _ (HB735.out.get 1 rfl) rfl rfl (arr_len2 _ _ HL737.out HLzp.out) (pt_s HL737.out) (all_arr _ _) ?_
     intro w738 hb738 hk738 hz738
     have HB738:=Lib.hid (HB735.out.put 1 rfl hk738 hb738)
     have HK738:=Lib.hid (HK735.out.trans hk738)
     clear hb738 hk738 hz738
     clear HB735
     clear HK735
     clear hHeld
     refine hK.out _ _ (HK738.out) (fun hHeld=>?_)
     clear hK K
     (try simp only [Act.put])
     refine wpAnyH_take (i:=8) (oi:=(⟨some 3,_,_,_,_,none⟩:Oper)) (v:=?v739) rfl (by kernel_rfl) (by kernel_rfl) (by kernel_rfl) (fun _ _ _ h=>h) (Or.inl ⟨by rfl,?hy739⟩) (by assumption) ?rest739
     case hy739=>(intro w hSw;(try dsimp only at hSw);go_simp;try (with_reducible rfl))
     (try simp only [Act.put,sA,sZ,sS])
     refine wpAnyH_done (by kernel_rfl) ?_ _
     have HBQ:=HB738
     have HWQ:=HL737
     have HF0:=HV737
     have HF1:=HXR
     have HF2:=HZ709
     have HF3:=HZ734
     have HF4:=HZ735
     (try simp only [Exit.then])
     go_wp2_with fail
     refine bodyPost_ret (results_cell_tmp_row rfl _ _ (w.heap.size+1) 102 _ (0,0) _ _ rfl (HBQ.out.get 1 rfl) Tryd.underlying102 rfl (pt_s HWQ.out) rfl) rfl ?_
     have hev:=HSO.out
     rw [if_neg HFL.out] at hev
     refine ⟨_,by rw [hev];rfl,HWQ.out,(fun P h=>?_),HBQ.out.below⟩
     rw [hev] at h
     cases h
     exact ⟨_,_,_,_,HF0.out,HF1.out,HF2.out,HF3.out,HF4.out⟩
end Go.Proofs.YtodnkallpfkdiaaDoor.Rd
namespace Go.Proofs.YtodnkallpfkdiaaDoor.Rd
open Go.RowKit Lm Fp Cu
theorem may_any (v:Nat) (w:World) (hv:v < 2 ^ 256) (hTd:TabD w) (hTi:TabI w) :
  Calls Tryd.prog 37 #[.agg (arr .u8 (nar (dig 256 32 v)))] w fun e w'=>e = .returned (.bool (eread v).isSome)∧Below w.heap.size w w':=by
 obtain ⟨ns,hns⟩:∃ x,x=nar (dig 256 32 v):=⟨_,rfl⟩
 have hr:=fun w (h1:TabD w) (h2:TabI w)=>read_any v w hv h1 h2
 have HNL:Hid (ns.length=32):=Lib.hid (by rw [hns,nar_len,dig_len])
 rw [← hns] at hr ⊢
 obtain ⟨bb,hbb⟩:∃ b,b=(eread v).isSome:=⟨_,rfl⟩
 rw [← hbb] at hr ⊢
 have hS0:=Blk.one w (arr .u8 ns) 23
 have HTD:=Lib.hid (range_below hTd hS0.below)
 have HTI:=Lib.hid (range_below hTi hS0.below)
 have HS0:=Lib.hid hS0
 have HR:=Lib.hid hr
 obtain ⟨zp,hzp⟩:∃ zs:List Int,zs=List.replicate 64 0:=⟨_,rfl⟩
 have HZzp:Hid (∀ w,(zeroValue 102).run Tryd.prog w = .ok (.agg (arr .i64 zp)) w):=Lib.hid (by intro w;rw [hzp];exact zero_pt w)
 have HLzp:Hid (zp.length=64):=Lib.hid (by rw [hzp];rfl)
 clear hzp hns hr hbb hS0 hTd hTi
 go_enter Tryd.func37, Tryd.ntmps37
 go_wp2_with (first|((with_reducible refine aS 6 ?_);refine wpList_load_part rfl 23 _ rfl (w.heap.size) 0 _ 23 (0,0) _ (HS0.out.get 0 rfl) rfl .u8 ns (arr_part _ _) Tryd.underlying23 rfl (num_i HNL.out) ?_)|((with_reducible show Calls _ 69 _ _ _);go_at_call 69; refine (HR.out _ HTD.out HTI.out).mono ?_;rintro e w1 ⟨z1,rfl,h1, -, hb1⟩;have HL1:=Lib.hid h1;have HB1:=Lib.hid (HS0.out.kept hb1);clear h1 hb1)|((with_reducible refine aS 3 ?_);refine wpList_alloc_row rfl 102 rfl _ (HZzp.out _) ?_;have HB2:=Lib.hid (HB1.out.alloc (arr .i64 zp) 102);generalize w1.heap.size=g1 at HB2 ⊢; generalize w1.alloc (.cells (arr .i64 zp) 102)=w2 at HB2 ⊢)|((with_reducible refine aT 3 ?_);refine wpList_store_whole rfl 102 _ _ rfl (g1) _ _ 102 (HB2.out.get 1 rfl) rfl rfl (arr_len2 _ _ HL1.out HLzp.out) (pt_s HL1.out) (all_arr _ _) ?_;intro w3 hb3 hk3 hz3;have HB3:=Lib.hid (HB2.out.put 1 rfl hk3 hb3);clear hb3 hk3 hz3))
 go_ret
 exact ⟨rfl,HB3.out.below⟩
end Go.Proofs.YtodnkallpfkdiaaDoor.Rd
