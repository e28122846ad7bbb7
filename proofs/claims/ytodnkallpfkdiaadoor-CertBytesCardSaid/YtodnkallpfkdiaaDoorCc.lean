/- What a signature is, in plain words. Condition: as each theorem says. -/
import Derived.Test.YtodnkallpfkdiaaDoorCa
import Derived.Test.YtodnkallpfkdiaaDoorMb
import Derived.Test.YtodnkallpfkdiaaDoorFa
import Derived.Test.YtodnkallpfkdiaaDoorSz
import Derived.Lib.SlBytesConst
set_option maxRecDepth 100000
set_option maxHeartbeats 16000000
set_option linter.unusedSimpArgs false
set_option linter.unusedVariables false
namespace Go.Proofs.YtodnkallpfkdiaaDoor.Cu
open Go.RowKit Lm Fp Sc
def wide (xs:List Int):Nat:=hnum (Hb.hash xs) % q
def spart (seed:Nat):Nat:=clamp (hnum ((Hb.hash (n32 seed)).take 32))
def srest (seed:Nat):List Int:=(Hb.hash (n32 seed)).drop 32
def epub (seed:Nat):Nat:=ebytes (emul base (spart seed) 256)
def esignR (seed:Nat) (b:List Int):Nat:=ebytes (emul base (wide (srest seed ++ b)) 256)
def esignS (seed:Nat) (b:List Int):Nat:=(wide (srest seed ++ b)+wide (n32 (esignR seed b) ++ (n32 (epub seed) ++ b)) * spart seed % q) % q
def esign (seed:Nat) (b:List Int):List Int:=n32 (esignR seed b) ++ n32 (esignS seed b)
def everify (key R S:Nat) (b:List Int):Bool :=
 match eread R,eread key with
 | some r,some a=>decide (S < q) && (ebytes (emul base S 256) == ebytes (eadd r (emul a (wide (n32 R ++ (n32 key ++ b))) 256)))
 | _,_=>false
theorem hash_bytes' (m:List Int):bytes (Hb.hash m):=by
 intro x hx
 simp only [Hb.hash,Hb.digest,List.mem_map,List.mem_range] at hx
 obtain ⟨i,_,rfl⟩:=hx
 omega
theorem wide_lt (xs:List Int):wide xs < 256 ^ 32:=Nat.lt_trans (Nat.mod_lt _ q_pos) q_lt32
theorem srest_len (seed:Nat):(srest seed).length=32:=by rw [srest,List.length_drop,Hb.hash_len]
theorem srest_bytes (seed:Nat):bytes (srest seed):=bytes_drop (hash_bytes' _) _
theorem alive13:(let p:=epub 0;let g:=(esignR 0 [120],esignS 0 [120]);everify p g.1 g.2 [120] && !everify p 0 0 [121] && (eread p).isSome)=true:=by decide +kernel
end Go.Proofs.YtodnkallpfkdiaaDoor.Cu
namespace Go.Proofs.YtodnkallpfkdiaaDoor.Sl
open Go.RowKit Lm Fp Cu Rd Sc
theorem csecret_any {ks:List Int} (seed:Nat) (w:World) (hk:K32 ks seed):Calls Tryd.prog 81 #[.agg (arr .u8 ks)] w fun e w'=>∃ zs g hs,e = .returned (.tuple #[.agg (arr .u8 zs), .slice (some ⟨g,32,none⟩) 32 32])∧K32 zs (spart seed)∧(w'.heap[g]? = some (.cells (arr .u8 hs) 26 (0,0))∧w.heap.size≤g∧hs.length=64∧hs.drop 32=srest seed)∧Below w.heap.size w w':=by
 have hkb:bytes ks:=by rw [hk.1];exact n32_bytes seed
 have hh:bytes (Hb.hash ks):=hash_bytes' ks
 have hl:(Hb.hash ks).length=64:=Hb.hash_len ks
 have h32:K32 ((Hb.hash ks).take 32) (hnum ((Hb.hash ks).take 32)):=⟨(n32_hnum (bytes_take hh 32) (by rw [List.length_take,hl];rfl)).symm,by have:=hnum_lt (bytes_take hh 32);rwa [List.length_take,hl] at this⟩
 have hsp:clamp (hnum ((Hb.hash ks).take 32))=spart seed:=by rw [spart,n32,← hk.1]
 have hsr:srest seed=(Hb.hash ks).drop 32:=by rw [srest,n32,← hk.1]
 have hsum:=fun (sa:Option Addr) (n c:Nat) (w:World) (hs:SrcL w sa n [ks]) (hn:n=1)=>Hb.sum_any sa n c [ks] w hs (by intro l h;simp only [List.mem_singleton] at h;subst h;exact hkb) (by simp [hk.len]) (by omega)
 rw [show [ks].flatten=ks by simp] at hsum
 obtain ⟨hs,hhs⟩:∃ h,h=Hb.hash ks:=⟨_,rfl⟩
 have hpt:=part_take hs 32
 rw [← hhs] at hsum hl h32 hsp hsr
 obtain ⟨h0,hh0⟩:∃ h,h=hs.take 32:=⟨_,rfl⟩
 rw [← hh0] at h32 hsp hpt
 rw [hsr]
 obtain ⟨N0,hN0⟩:∃ n,n=hnum h0:=⟨_,rfl⟩
 rw [← hN0] at h32 hsp
 have HCLP:Hid (∀ (xs:List Int) (w:World),K32 xs N0→Calls Tryd.prog 126 #[.agg (arr .u8 xs)] w fun e w'=>∃ zs,e = .returned (.agg (arr .u8 zs))∧K32 zs (spart seed)∧Below w.heap.size w w'):=Lib.hid (fun xs w h=>by rw [← hsp];exact clamp_any N0 w h)
 have H32:=Lib.hid h32
 have H32L:=Lib.hid h32.len
 have HSUM:=Lib.hid hsum
 have HPT:=Lib.hid hpt
 have HSL:=Lib.hid hl
 have HKL:=Lib.hid hk.len
 obtain ⟨zn,hzn⟩:∃ zs:List Int,zs=List.replicate 32 0:=⟨_,rfl⟩
 have HZzn:Hid (∀ w,(zeroValue 23).run Tryd.prog w = .ok (.agg (arr .u8 zn)) w):=Lib.hid (by intro w;rw [hzn];exact zero_num w)
 have HLzn:Hid (zn.length=32):=Lib.hid (by rw [hzn];rfl)
 obtain ⟨zs64,hzs64⟩:∃ zs:List Int,zs=List.replicate 64 0:=⟨_,rfl⟩
 have HZzs64:Hid (∀ w,(zeroValue 26).run Tryd.prog w = .ok (.agg (arr .u8 zs64)) w):=Lib.hid (by intro w;rw [hzs64];exact zero_sig w)
 have HLzs64:Hid (zs64.length=64):=Lib.hid (by rw [hzs64];rfl)
 have HS0:=Lib.hid (Blk.two w (arr .u8 ks) (arr .u8 zn) 23 23)
 clear hzn hzs64 hk hkb hh hl h32 hsp hsr hsum hhs hpt hh0 hN0
 go_enter Tryd.func81, Tryd.ntmps81
 go_upto_region 1 with (first|((with_reducible refine aS 2 ?_);refine wpList_alloc_row rfl 23 rfl _ (HZzn.out _) ?_))
 (try simp only [World.size_alloc,Act.put,sA,sZ,sS])
 generalize ((w.alloc (.cells (arr .u8 ks) 23)).alloc (.cells (arr .u8 zn) 23))=wb at HS0 ⊢
 go_upto_region 2 with (first|((with_reducible show Calls _ 125 _ _ _);go_at_call 125; refine (HSUM.out _ _ _ _ (csrcL_one (src_all (HS0.out.get 0 rfl) 32 HKL.out) (Nat.le_refl _)) rfl).mono ?_;rintro e w1 ⟨rfl,hb1⟩;have HB1:=Lib.hid (HS0.out.kept (below_new hb1));clear hb1)|((with_reducible refine aS 4 ?_);refine wpList_alloc_row rfl 26 rfl _ (HZzs64.out _) ?_;have HB2:=Lib.hid (HB1.out.alloc (arr .u8 zs64) 26);generalize w1.heap.size=g4 at HB2 ⊢; generalize w1.alloc (.cells (arr .u8 zs64) 26)=w2 at HB2 ⊢)|((with_reducible refine aT 4 ?_);refine wpList_store_whole rfl 26 _ _ rfl (g4) _ _ 26 (HB2.out.get 2 rfl) rfl rfl (arr_len2 _ _ HSL.out HLzs64.out) (sig_s HSL.out) (all_arr _ _) ?_;intro w3 hb3 hk3 hz3;have HB3:=Lib.hid (HB2.out.put 2 rfl hk3 hb3);clear hb3 hk3 hz3))
 (try simp only [World.size_alloc,Act.put,sA,sZ,sS])
 obtain ⟨z5901,HZ5901,HL5901,HE5901⟩:=k32_ex (a:=(spart seed)) (Nat.lt_trans (show spart seed < 2 ^ 255 from clamp_lt _) (by decide))
 refine wp_region_sym (T:=fun _=>False) (w:=w) (sy:=[Yv (.slice (some ⟨g4,0,none⟩) 32 64),Yp (g4) 0,Yr .u8 h0,Yr .u8 z5901,Yv (.slice (some ⟨g4,32,none⟩) 32 32),Y0,Yv (.slice (some ⟨g4,32,none⟩) 32 32)]) (pt:=[(5,1,cel (arr .u8 z5901) 23)]) (by kernel_rfl) (by kernel_rfl) (by kernel_rfl) HB3.out.holds (fun hW=>?ss2) (fun qs2 xs2 us2 _ hH=>?es2)
 case ss2 =>
  refine SyP hW ?_
  refine SyP hW ?_
  refine SyL hW ?_ 2 0 (arr .u8 hs) 26 rowN H32L.out (HPT.out)
  refine SyC hW ?_ (fun _=>HCLP.out _ _ H32.out) HE5901.out
  refine SyP hW ?_
  refine SyS hW ?_ 1 (arr .u8 zn) 23 rowN HL5901.out (asz HLzn.out)
  refine SyP hW ?_
  exact SyN
 case es2 =>
 have HBs2:=Lib.hid (hH.blk [0,1,2] [(w.heap.size,arr .u8 ks, 23),(w.heap.size+1,arr .u8 z5901, 23),(g4,arr .u8 hs, 26)] (by decide) (by kernel_rfl))
 simp only [lay,Sy.at,den',Yr,Yv,Yp,Yq,Yn,Y0,Act.put,sA,sZ,sS,Nat.reduceAdd]
 clear hH HB3
 (try simp only [Exit.then])
 go_wp2_with fail
 refine bodyPost_ret (results_cell_tmp_row rfl _ _ (w.heap.size+1) 23 _ (0,0) _ _ rfl (HBs2.out.get 1 rfl) Tryd.underlying23 rfl (num_s HL5901.out) rfl) rfl ?_
 exact ⟨_,_,hs,rfl,HZ5901.out,⟨HBs2.out.get 2 rfl,HBs2.out.low 2 rfl,HSL.out,rfl⟩,HBs2.out.below⟩
theorem cpublic_any {ks:List Int} (seed:Nat) (w:World) (hk:K32 ks seed):Calls Tryd.prog 82 #[.agg (arr .u8 ks)] w fun e w'=>∃ zs,e = .returned (.agg (arr .u8 zs))∧K32 zs (epub seed)∧Below w.heap.size w w':=by
 have HK:=Lib.hid hk
 have HKL:=Lib.hid hk.len
 obtain ⟨zn,hzn⟩:∃ zs:List Int,zs=List.replicate 32 0:=⟨_,rfl⟩
 have HZzn:Hid (∀ w,(zeroValue 23).run Tryd.prog w = .ok (.agg (arr .u8 zn)) w):=Lib.hid (by intro w;rw [hzn];exact zero_num w)
 have HLzn:Hid (zn.length=32):=Lib.hid (by rw [hzn];rfl)
 have HS0:=Lib.hid (Blk.two w (arr .u8 ks) (arr .u8 zn) 23 23)
 clear hzn hk
 go_enter Tryd.func82, Tryd.ntmps82
 go_upto_region 1 with (first|((with_reducible refine aS 2 ?_);refine wpList_alloc_row rfl 23 rfl _ (HZzn.out _) ?_))
 (try simp only [World.size_alloc,Act.put,sA,sZ,sS])
 generalize ((w.alloc (.cells (arr .u8 ks) 23)).alloc (.cells (arr .u8 zn) 23))=wb at HS0 ⊢
 go_upto_region 2 with (first|((with_reducible refine aS 6 ?_);refine wpList_load_part rfl 23 _ rfl (w.heap.size) 0 _ 23 (0,0) _ (HS0.out.get 0 rfl) rfl .u8 ks (arr_part _ _) Tryd.underlying23 rfl (num_i HKL.out) ?_)|((with_reducible show Calls _ 81 _ _ _);go_at_call 81; refine (csecret_any _ _ HK.out).mono ?_;rintro e w1 ⟨z1,gs,hs1,rfl,h1, -, hb1⟩;have HZ1:=Lib.hid h1;have HL1:=Lib.hid h1.len;have HB1:=Lib.hid (HS0.out.kept hb1);clear h1 hb1)|((with_reducible refine aS 3 ?_);refine wpList_alloc_row rfl 23 rfl _ (HZzn.out _) ?_;have HB2:=Lib.hid (HB1.out.alloc (arr .u8 zn) 23);generalize w1.heap.size=g3 at HB2 ⊢; generalize w1.alloc (.cells (arr .u8 zn) 23)=w2 at HB2 ⊢)|((with_reducible refine aT 3 ?_);refine wpList_store_whole rfl 23 _ _ rfl (g3) _ _ 23 (HB2.out.get 2 rfl) rfl rfl (arr_len2 _ _ HL1.out HLzn.out) (num_s HL1.out) (all_arr _ _) ?_;intro w3 hb3 hk3 hz3;have HB3:=Lib.hid (HB2.out.put 2 rfl hk3 hb3);clear hb3 hk3 hz3))
 (try simp only [World.size_alloc,Act.put,sA,sZ,sS])
 obtain ⟨z5902,HZ5902,HL5902,HE5902⟩:=p4_ex (a:=base) base_ok
 obtain ⟨z5903,HZ5903,HL5903,HE5903⟩:=p4_ex (a:=(emul base (spart seed) 256)) (emul_ok _ _ _)
 obtain ⟨z5904,HZ5904,HL5904,HE5904⟩:=k32_ex (a:=(ebytes (emul base (spart seed) 256))) (ebytes_lt _)
 refine wp_region_sym (T:=fun _=>False) (w:=w) (sy:=[Yr .u64 z5902,Yr .u8 z1,Yr .u64 z5903,Yr .u8 z5904,Y0]) (pt:=[(4,1,cel (arr .u8 z5904) 23)]) (by kernel_rfl) (by kernel_rfl) (by kernel_rfl) HB3.out.holds (fun hW=>?sp2) (fun qp2 xp2 up2 _ hH=>?ep2)
 case sp2 =>
  refine SyC hW ?_ (fun _=>base_any _) HE5902.out
  refine SyL hW ?_ 2 0 (arr .u8 z1) 23 rowN HL1.out (arr_part _ _)
  refine SyC hW ?_ (fun _=>ptimes_any _ _ _ HZ5902.out HZ1.out) HE5903.out
  refine SyC hW ?_ (fun _=>pbytes_any _ _ HZ5903.out) HE5904.out
  refine SyS hW ?_ 1 (arr .u8 zn) 23 rowN HL5904.out (asz HLzn.out)
  exact SyN
 case ep2 =>
 have HBp2:=Lib.hid (hH.blk [0,1,2] [(w.heap.size,arr .u8 ks, 23),(w.heap.size+1,arr .u8 z5904, 23),(g3,arr .u8 z1, 23)] (by decide) (by kernel_rfl))
 simp only [lay,Sy.at,den',Yr,Yv,Yp,Yq,Yn,Y0,Act.put,sA,sZ,sS,Nat.reduceAdd]
 clear hH HB3
 (try simp only [Exit.then])
 go_wp2_with fail
 refine bodyPost_ret (results_cell_row rfl _ _ (w.heap.size+1) 23 _ (0,0) _ rfl (HBp2.out.get 1 rfl) Tryd.underlying23 rfl (num_s HL5904.out)) rfl ?_
 exact ⟨_,rfl,HZ5904.out,HBp2.out.below⟩
theorem csum_any (g oa na:Nat) (LA:List (List Int)) (sb:Option Addr) (nb cb:Nat) (LB:List (List Int)) (w:World) (hA:SrcL w (some ⟨g,oa,none⟩) na LA) (hB:SrcL w sb nb LB)
  (bA:∀ l∈LA,bytes l) (bB:∀ l∈LB,bytes l) (hN:(LA ++ LB).flatten.length≤1152921504606846976) (hn:na+nb≤1099511627776) :
  Calls Tryd.prog 83 #[.slice sb nb cb, .slice (some ⟨g,oa,none⟩) na na] w fun e w'=>∃ zs,e = .returned (.agg (arr .u8 zs))∧K32 zs (wide (LA ++ LB).flatten)∧Below w.heap.size w w':=by
 have hsum:=fun (ad:Addr) (c:Nat) (w':World) (hs:SrcL w' (some ad) (na+nb) (LA ++ LB))=>Hb.sum_any (some ad) (na+nb) c (LA ++ LB) w' hs (fun l h=>(List.mem_append.1 h).elim (bA l) (bB l)) hN hn
 have hwd:wide (LA ++ LB).flatten=hnum (Hb.hash (LA ++ LB).flatten) % q:=rfl
 have hh:=hash_bytes' (LA ++ LB).flatten
 have hl:=Hb.hash_len (LA ++ LB).flatten
 rw [hwd]
 obtain ⟨hs,hhs⟩:∃ h,h=Hb.hash (LA ++ LB).flatten:=⟨_,rfl⟩
 rw [← hhs] at hsum hh hl ⊢
 have hd:=dig_hnum hh
 rw [hl] at hd
 have hV:=hnum_lt hh
 rw [hl] at hV
 obtain ⟨V,hVe⟩:∃ v,v=hnum hs:=⟨_,rfl⟩
 rw [← hVe] at hd hV ⊢
 have HA:=Lib.hid (hA.below ((Below.refl _ w).alloc (Nat.le_refl _) (.cells (arr .u8 (List.replicate 32 0)) 23)))
 have HB:=Lib.hid (hB.below ((Below.refl _ w).alloc (Nat.le_refl _) (.cells (arr .u8 (List.replicate 32 0)) 23)))
 have HSUM:=Lib.hid hsum
 have HHN:=Lib.hid hn
 have HRED:Hid (∀ (sa:Option Addr) (w:World),Src w sa 64 hs→Calls Tryd.prog 127 #[.slice sa 64 64] w fun e w'=>∃ zs,e = .returned (.agg (arr .u8 zs))∧K32 zs (V % q)∧Below w.heap.size w w'):=Lib.hid (fun sa w h=>sreduce_any sa 64 V w (by rw [hd];exact h) hV (Nat.le_refl _))
 have HSL:=Lib.hid hl
 obtain ⟨zn,hzn⟩:∃ zs:List Int,zs=List.replicate 32 0:=⟨_,rfl⟩
 have HZzn:Hid (∀ w,(zeroValue 23).run Tryd.prog w = .ok (.agg (arr .u8 zn)) w):=Lib.hid (by intro w;rw [hzn];exact zero_num w)
 have HLzn:Hid (zn.length=32):=Lib.hid (by rw [hzn];rfl)
 obtain ⟨zs64,hzs64⟩:∃ zs:List Int,zs=List.replicate 64 0:=⟨_,rfl⟩
 have HZzs64:Hid (∀ w,(zeroValue 26).run Tryd.prog w = .ok (.agg (arr .u8 zs64)) w):=Lib.hid (by intro w;rw [hzs64];exact zero_sig w)
 have HLzs64:Hid (zs64.length=64):=Lib.hid (by rw [hzs64];rfl)
 rw [← hzn] at HA HB
 have HS0:=Lib.hid (Blk.one w (arr .u8 zn) 23)
 clear hzn hzs64 hA hB bA bB hN hn hsum hwd hh hl hhs hd hV hVe
 go_enter Tryd.func83, Tryd.ntmps83
 go_upto_region 1 with (first|((with_reducible refine aS 4 ?_);refine wpList_alloc_row rfl 23 rfl _ (HZzn.out _) ?_))
 (try simp only [World.size_alloc,Act.put,sA,sZ,sS])
 generalize (w.alloc (.cells (arr .u8 zn) 23))=wb at HS0 HA HB ⊢
 go_upto_region 2 with (first|((with_reducible refine aS 8 ?_);refine wpList_appLL rfl (.tmp 6) (.tmp 7) rfl g oa na LA sb nb cb LB rfl rfl HA.out HB.out HHN.out ?_;intro ad' cap w0 hs0 hb0;have HL0:=Lib.hid hs0;have HB0:=Lib.hid (HS0.out.kept hb0);clear hs0 hb0)|((with_reducible show Calls _ 125 _ _ _);go_at_call 125; refine (HSUM.out _ _ _ HL0.out).mono ?_;rintro e w1 ⟨rfl,hb1⟩;have HB1:=Lib.hid (HB0.out.kept hb1);clear hb1)|((with_reducible refine aS 5 ?_);refine wpList_alloc_row rfl 26 rfl _ (HZzs64.out _) ?_;have HB2:=Lib.hid (HB1.out.alloc (arr .u8 zs64) 26);generalize w1.heap.size=g5 at HB2 ⊢; generalize w1.alloc (.cells (arr .u8 zs64) 26)=w2 at HB2 ⊢)|((with_reducible refine aT 5 ?_);refine wpList_store_whole rfl 26 _ _ rfl (g5) _ _ 26 (HB2.out.get 1 rfl) rfl rfl (arr_len2 _ _ HSL.out HLzs64.out) (sig_s HSL.out) (all_arr _ _) ?_;intro w3 hb3 hk3 hz3;have HB3:=Lib.hid (HB2.out.put 1 rfl hk3 hb3);clear hb3 hk3 hz3))
 (try simp only [World.size_alloc,Act.put,sA,sZ,sS])
 go_wp2_with (first|((with_reducible show Calls _ 127 _ _ _);go_at_call 127; refine (HRED.out _ _ (src_all (HB3.out.get 1 rfl) 64 HSL.out)).mono ?_;rintro e w4 ⟨z4,rfl,h4,hb4⟩;have HZ4:=Lib.hid h4;have HL4:=Lib.hid h4.len;have HB4:=Lib.hid (HB3.out.kept hb4);clear h4 hb4)|((with_reducible refine aT 4 ?_);refine wpList_store_whole rfl 23 _ _ rfl (w.heap.size) _ _ 23 (HB4.out.get 0 rfl) rfl rfl (arr_len2 _ _ HL4.out HLzn.out) (num_s HL4.out) (all_arr _ _) ?_;intro w5 hb5 hk5 hz5;have HB5:=Lib.hid (HB4.out.put 0 rfl hk5 hb5);clear hb5 hk5 hz5))
 (try simp only [Exit.then])
 refine bodyPost_ret (results_cell_row rfl _ _ (w.heap.size) 23 _ (0,0) _ rfl (HB5.out.get 0 rfl) Tryd.underlying23 rfl (num_s HL4.out)) rfl ?_
 exact ⟨_,rfl,HZ4.out,HB5.out.below⟩
end Go.Proofs.YtodnkallpfkdiaaDoor.Sl
namespace Go.Proofs.YtodnkallpfkdiaaDoor.Rd
open Go.RowKit Lm Fp Cu Sc
/-- copy of as many bytes as there is room for. -/
theorem step_copy {w:World} {ops:Array Oper} {o:Oper} {a:Act} {K:Act→World→Prop} {Q:Exit→Act→World→Prop} {E:Prop} (hgd:o.guard=none) (d s:Operand)
  (ho:o.op = .call { callee := .builtin .copy,args := #[d,s],argTypes := #[24, 24] }) (g off m c cs:Nat) (ad:Addr) (cur xs:List Int) (t:TypeId)
  (hd:a.eval d = .slice (some ⟨g,off,none⟩) m c) (hs:a.eval s = .slice (some ad) m cs) (hg:w.heap[g]? = some (.cells (arr .u8 cur) t (0,0))) (hsrc:Src w (some ad) m xs) (hfit:off+m≤cur.length)
  (h:∀ w',w'.heap[g]? = some (.cells (arr .u8 (cur.take off ++ xs ++ cur.drop (off+m))) t (0,0))→Kept (fun x=>x=g) w w'→K (a.put o.dst (.int .i64 (m:Int))) w') :
  if Region.wanted o (yielded ops a.tmps)=true then Oper.wp Tryd.prog o a w K Q else E:=by
 have hw:Region.wanted o (yielded ops a.tmps)=true:=by simp [Region.wanted,hgd]
 rw [if_pos hw]
 have hl:=hsrc.len
 have hrun:=run_copy_row (P := Tryd.prog) w 24 24 o.type 5 g off m c ad m cs (arr .u8 cur) t (xs.map (Value.int .u8)) Tryd.underlying24 (by kernel_rfl) hg (by simp [hl]) (src_news hsrc _ rfl) (by rw [List.length_map,hl,arr_size];exact hfit) (one_ints _ _)
 unfold Oper.wp execOp
 simp only [ho,resolve,invoke,builtin,Sem.run_bind,Sem.run_pure,Result.andThen_ok,List.map_toArray,List.map_cons,List.map_nil,hd,hs,hrun]
 have e:((arr .u8 cur).toList.take off ++ xs.map (Value.int .u8) ++ (arr .u8 cur).toList.drop (off+(xs.map (Value.int .u8)).length)).toArray=arr .u8 (cur.take off ++ xs ++ cur.drop (off+m)):=by
  show ((cur.map (Value.int .u8)).take off ++ xs.map (Value.int .u8) ++ (cur.map (Value.int .u8)).drop (off+(xs.map (Value.int .u8)).length)).toArray=((cur.take off ++ xs ++ cur.drop (off+m)).map (Value.int .u8)).toArray
  rw [List.length_map,hl,List.map_append,List.map_append,List.map_take,List.map_drop]
 rw [e,List.length_map,hl]
 exact h _ (setRow_heap w g _ _ t _ hg) ⟨rfl,rfl,rfl,by simp [World.setRow],fun k _ hne=>setRow_other w g k _ hne⟩
theorem src_three {w:World} {g:Nat} {t:TypeId} {fr:Nat×Nat} {s1 s2 s3:Option Addr} {n1 n2 n3 c1 c2 c3:Nat} {x1 x2 x3:List Int} (h:w.heap[g]? = some (.cells #[.slice s1 n1 c1, .slice s2 n2 c2, .slice s3 n3 c3] t fr))
  (h1:Src w s1 n1 x1) (h2:Src w s2 n2 x2) (h3:Src w s3 n3 x3) (l1:n1≤c1) (l2:n2≤c2) (l3:n3≤c3):SrcL w (some ⟨g,0,none⟩) 3 [x1,x2,x3]:=by
 have e1:=h1.len
 have e2:=h2.len
 have e3:=h3.len
 subst e1 e2 e3
 refine ⟨rfl,fun i hi=>?_⟩
 match i,hi with
 | 0,_=>exact ⟨_,s1,c1,rfl,by rw [show (⟨g,0,none⟩:Addr).add 0=⟨g,0,none⟩ from rfl,cell_blk h];rfl,l1,h1⟩
 | 1,_=>exact ⟨_,s2,c2,rfl,by rw [show (⟨g,0,none⟩:Addr).add 1=⟨g,1,none⟩ from rfl,cell_blk h];rfl,l2,h2⟩
 | 2,_=>exact ⟨_,s3,c3,rfl,by rw [show (⟨g,0,none⟩:Addr).add 2=⟨g,2,none⟩ from rfl,cell_blk h];rfl,l3,h3⟩
theorem copied {cur xs:List Int} {n:Nat} (h1:cur.length=n) (h2:xs.length=n):cur.take 0 ++ xs ++ cur.drop (0+n)=xs:=by
 rw [List.take_zero,List.nil_append,Nat.zero_add,List.drop_of_length_le (by omega),List.append_nil]
end Go.Proofs.YtodnkallpfkdiaaDoor.Rd
namespace Go.Proofs.YtodnkallpfkdiaaDoor.Sl
open Go.RowKit Lm Fp Cu Rd Sc
theorem cells_of {w:World} {g:Nat} {zs:List Int} {n:Nat} (h:Src w (some ⟨g,0,none⟩) n zs):w.rangeAt g 0 (zs.map (Value.int .u8)):=by
 intro j v hj
 rw [List.getElem?_map,Option.map_eq_some_iff] at hj
 obtain ⟨y,hy,rfl⟩:=hj
 obtain ⟨hj1,hj2⟩:=List.getElem?_eq_some_iff.1 hy
 obtain ⟨a,e,hc⟩:=h.cell j (by rw [← h.len];exact hj1)
 cases e
 rw [Addr.add_lit] at hc
 rw [hc]
 simp [List.getD,hy]
theorem info_u8':(Tryd.prog.info? 5).map (fun i=>(i.zero,i.size,i.bytes))=some (some (.int .u8 0),1,1):=by kernel_rfl
/-- append onto all of an array. -/
theorem step_append_arr {w:World} {ops:Array Oper} {o:Oper} {a:Act} {K:Act→World→Prop} {Q:Exit→Act→World→Prop} {E:Prop} (hgd:o.guard=none) (s x:Operand)
  (ho:o.op = .call { callee := .builtin .append,args := #[s,x],argTypes := #[24, 24] }) (g g2 n m:Nat) (xs ys:List Int) (hs:a.eval s = .slice (some ⟨g,0,none⟩) n n) (hx:a.eval x = .slice (some ⟨g2,0,none⟩) m m)
  (h1:Src w (some ⟨g,0,none⟩) n xs) (h2:Src w (some ⟨g2,0,none⟩) m ys) (hm:0 < m) (hle:n+m≤1099511627776)
  (h:∀ g' cap w',Src w' (some ⟨g',0,none⟩) (n+m) (xs ++ ys)→Below w.heap.size w w'→K (a.put o.dst (.slice (some ⟨g',0,none⟩) (n+m) cap)) w') :
  if Region.wanted o (yielded ops a.tmps)=true then Oper.wp Tryd.prog o a w K Q else E:=by
 have hw:Region.wanted o (yielded ops a.tmps)=true:=by simp [Region.wanted,hgd]
 rw [if_pos hw]
 obtain ⟨i0,hi,hz⟩:=Option.map_eq_some_iff.1 info_u8'
 simp only [Prod.mk.injEq] at hz
 obtain ⟨z0,z1,z2⟩:=hz
 obtain ⟨v',w',hrun,hown,hgr⟩:=run_append_arg_grows (P := Tryd.prog) w 24 o.type 5 i0 (.int .u8 0) 1 1 Tryd.underlying24 hi z0 z1 z2 rfl (by decide) ⟨g,0,none⟩ n n (xs.map (Value.int .u8)) (by simp [h1.len]) (src_news h1 _ rfl) ⟨g2,0,none⟩ m m (ys.map (Value.int .u8)) (by simp [h2.len]) (src_news h2 _ rfl) (by omega) (by unfold maxLen;omega) (by omega)
 have hb:Below w.heap.size w w':=⟨hgr.os,hgr.tape,hgr.output,hgr.size,fun k hk=>hgr.block k hk (by simp)⟩
 unfold Oper.wp execOp
 simp only [ho,resolve,invoke,builtin,Sem.run_bind,Sem.run_pure,Result.andThen_ok,List.map_toArray,List.map_cons,List.map_nil,hs,hx,hrun]
 rcases hown.2 with ⟨-, h0⟩|⟨g',cap,cur,rfl, -, -⟩
 ·exact absurd h0 (by omega)
 ·refine h g' cap w' ⟨by rw [List.length_append,h1.len,h2.len],fun j hj=>⟨_,rfl,?_⟩⟩ hb
  rw [← List.map_append] at hown
  refine World.ownsRow.cells hown (g:=g') rfl j _ ?_
  have hj2:j < (xs ++ ys).length:=by rw [List.length_append,h1.len,h2.len];exact hj
  rw [List.getElem?_map,List.getD,List.getElem?_eq_getElem hj2]
  rfl
theorem csign_any {ks:List Int} (seed:Nat) (sb:Option Addr) (nb cb:Nat) (LB:List (List Int)) (w:World) (hk:K32 ks seed) (hB:SrcL w sb nb LB) (bB:∀ l∈LB,bytes l) (hN:LB.flatten.length≤1125899906842624) (hn:nb≤1099511627770) :
  Calls Tryd.prog 55 #[.agg (arr .u8 ks), .slice sb nb cb] w fun e w'=>e = .returned (.agg (arr .u8 (esign seed LB.flatten)))∧Below w.heap.size w w':=by
 have hsl:=srest_len seed
 have hsb:=srest_bytes seed
 have hsum1:=fun (g oa:Nat) (u:World) (hA:SrcL u (some ⟨g,oa,none⟩) 1 [srest seed]) (hB:SrcL u sb nb LB)=>csum_any g oa 1 [srest seed] sb nb cb LB u hA hB (by intro l h;simp only [List.mem_singleton] at h;subst h;exact hsb) bB (by rw [List.flatten_append,List.length_append,show [srest seed].flatten=srest seed by simp,hsl];omega) (by omega)
 rw [show ([srest seed] ++ LB).flatten=srest seed ++ LB.flatten by simp] at hsum1
 obtain ⟨BB,hBB⟩:∃ b,b=LB.flatten:=⟨_,rfl⟩
 have hsum2:=fun (g oa:Nat) (u:World) (x1 x2:List Int) (n1 n2:Nat) (k1:K32 x1 n1) (k2:K32 x2 n2) (hA:SrcL u (some ⟨g,oa,none⟩) 2 [x1,x2]) (hB:SrcL u sb nb LB)=>csum_any g oa 2 [x1,x2] sb nb cb LB u hA hB (by intro l h;simp only [List.mem_cons,List.not_mem_nil,or_false] at h;rcases h with rfl|rfl;exact (by rw [k1.1];exact n32_bytes n1);exact (by rw [k2.1];exact n32_bytes n2)) bB (by rw [List.flatten_append,List.length_append,show [x1,x2].flatten=x1 ++ x2 by simp,List.length_append,k1.len,k2.len];omega) (by omega)
 have hsum3:∀ (g oa:Nat) (u:World) (x1 x2:List Int) (n1 n2:Nat),K32 x1 n1→K32 x2 n2→SrcL u (some ⟨g,oa,none⟩) 2 [x1,x2]→SrcL u sb nb LB→Calls Tryd.prog 83 #[.slice sb nb cb, .slice (some ⟨g,oa,none⟩) 2 2] u fun e w'=>∃ zs,e = .returned (.agg (arr .u8 zs))∧K32 zs (wide (n32 n1 ++ (n32 n2 ++ BB)))∧Below u.heap.size u w':=by
  intro g oa u x1 x2 n1 n2 k1 k2 hA hB
  have:=hsum2 g oa u x1 x2 n1 n2 k1 k2 hA hB
  rw [show ([x1,x2] ++ LB).flatten=x1 ++ (x2 ++ LB.flatten) by simp] at this
  rw [hBB,n32,n32,← k1.1,← k2.1]
  exact this
 rw [← hBB] at hsum1 ⊢
 have hes:esign seed BB=n32 (esignR seed BB) ++ n32 (esignS seed BB):=rfl
 obtain ⟨RR,hRR⟩:∃ r,r=wide (srest seed ++ BB):=⟨_,rfl⟩
 have hR:esignR seed BB=ebytes (emul base RR 256):=by rw [hRR];rfl
 have hS:esignS seed BB=(RR+wide (n32 (ebytes (emul base RR 256)) ++ (n32 (epub seed) ++ BB)) * spart seed % q) % q:=by rw [hRR];rfl
 rw [← hRR] at hsum1
 rw [hes,hR,hS]
 obtain ⟨res,hres⟩:∃ r,r=n32 (ebytes (emul base RR 256)) ++ n32 ((RR+wide (n32 (ebytes (emul base RR 256)) ++ (n32 (epub seed) ++ BB)) * spart seed % q) % q):=⟨_,rfl⟩
 rw [← hres]
 have HRES:=Lib.hid hres
 have HRESL:Hid (res.length=64):=Lib.hid (by rw [hres,List.length_append,n32_len,n32_len])
 have HSUM1:=Lib.hid hsum1
 have HSUM3:=Lib.hid hsum3
 have HSB:=Lib.hid hB
 have HK:=Lib.hid hk
 have HKL:=Lib.hid hk.len
 obtain ⟨zn,hzn⟩:∃ zs:List Int,zs=List.replicate 32 0:=⟨_,rfl⟩
 have HZzn:Hid (∀ w,(zeroValue 23).run Tryd.prog w = .ok (.agg (arr .u8 zn)) w):=Lib.hid (by intro w;rw [hzn];exact zero_num w)
 have HLzn:Hid (zn.length=32):=Lib.hid (by rw [hzn];rfl)
 obtain ⟨zs64,hzs64⟩:∃ zs:List Int,zs=List.replicate 64 0:=⟨_,rfl⟩
 have HZzs64:Hid (∀ w,(zeroValue 26).run Tryd.prog w = .ok (.agg (arr .u8 zs64)) w):=Lib.hid (by intro w;rw [hzs64];exact zero_sig w)
 have HLzs64:Hid (zs64.length=64):=Lib.hid (by rw [hzs64];rfl)
 have HS0:=Lib.hid (Blk.two w (arr .u8 ks) (arr .u8 zs64) 23 26)
 clear hzn hzs64 hsl hsb hsum1 hBB hsum2 hsum3 hes hRR hR hS hres hk hB bB hN hn
 go_enter Tryd.func55, Tryd.ntmps55
 go_upto_region 1 with (first|((with_reducible refine aS 4 ?_);refine wpList_alloc_row rfl 26 rfl _ (HZzs64.out _) ?_))
 (try simp only [World.size_alloc,Act.put,sA,sZ,sS])
 generalize ((w.alloc (.cells (arr .u8 ks) 23)).alloc (.cells (arr .u8 zs64) 26))=wb at HS0 ⊢
 go_upto_region 2 with (first|((with_reducible refine aS 13 ?_);refine wpList_load_part rfl 23 _ rfl (w.heap.size) 0 _ 23 (0,0) _ (HS0.out.get 0 rfl) rfl .u8 ks (arr_part _ _) Tryd.underlying23 rfl (num_i HKL.out) ?_)|((with_reducible show Calls _ 81 _ _ _);go_at_call 81; refine (csecret_any _ _ HK.out).mono ?_;rintro e w1 ⟨z1,gs,hs,rfl,h1,⟨h2,h3,h4,h5⟩,hb1⟩;have HZ1:=Lib.hid h1;have HL1:=Lib.hid h1.len;have HB1:=Lib.hid (Blk.add HS0.out hb1 h2 h3);have HHL:=Lib.hid h4;have HHD:=Lib.hid h5;clear h1 hb1 h2 h3 h4 h5)|((with_reducible refine aS 5 ?_);refine wpList_alloc_row rfl 23 rfl _ (HZzn.out _) ?_;have HB2:=Lib.hid (HB1.out.alloc (arr .u8 zn) 23);generalize w1.heap.size=g5 at HB2 ⊢; generalize w1.alloc (.cells (arr .u8 zn) 23)=w2 at HB2 ⊢)|((with_reducible refine aT 5 ?_);refine wpList_store_whole rfl 23 _ _ rfl (g5) _ _ 23 (HB2.out.get 3 rfl) rfl rfl (arr_len2 _ _ HL1.out HLzn.out) (num_s HL1.out) (all_arr _ _) ?_;intro w3 hb3 hk3 hz3;have HB3:=Lib.hid (HB2.out.put 3 rfl hk3 hb3);clear hb3 hk3 hz3))
 (try simp only [World.size_alloc,Act.put,sA,sZ,sS])
 go_upto_region 3 with (first|((with_reducible refine aS 17 ?_);refine wpList_load_part rfl 23 _ rfl (w.heap.size) 0 _ 23 (0,0) _ (HB3.out.get 0 rfl) rfl .u8 ks (arr_part _ _) Tryd.underlying23 rfl (num_i HKL.out) ?_)|((with_reducible show Calls _ 82 _ _ _);go_at_call 82; refine (cpublic_any _ _ HK.out).mono ?_;rintro e w4 ⟨z4,rfl,h4,hb4⟩;have HZ4:=Lib.hid h4;have HL4:=Lib.hid h4.len;have HB4:=Lib.hid (HB3.out.kept hb4);clear h4 hb4)|((with_reducible refine aS 7 ?_);refine wpList_alloc_row rfl 23 rfl _ (HZzn.out _) ?_;have HB5:=Lib.hid (HB4.out.alloc (arr .u8 zn) 23);generalize w4.heap.size=g7 at HB5 ⊢; generalize w4.alloc (.cells (arr .u8 zn) 23)=w5 at HB5 ⊢)|((with_reducible refine aT 7 ?_);refine wpList_store_whole rfl 23 _ _ rfl (g7) _ _ 23 (HB5.out.get 4 rfl) rfl rfl (arr_len2 _ _ HL4.out HLzn.out) (num_s HL4.out) (all_arr _ _) ?_;intro w6 hb6 hk6 hz6;have HB6:=Lib.hid (HB5.out.put 4 rfl hk6 hb6);clear hb6 hk6 hz6))
 (try simp only [World.size_alloc,Act.put,sA,sZ,sS])
 have HSRC:Hid (Src w6 (some ⟨gs,32,none⟩) 32 (srest seed)):=Lib.hid (by have:=src_off (HB6.out.get 2 rfl) 32 32 (by rw [HHL.out];decide);rwa [List.take_of_length_le (by rw [List.length_drop,HHL.out];decide),HHD.out] at this)
 go_upto_region 4 with (first|((with_reducible show Calls _ 83 _ _ _);go_at_call 83; refine (HSUM1.out _ _ _ (csrcL_one HSRC.out (Nat.le_refl _)) (HSB.out.below (HB6.out.below.alloc HB6.out.below.size _))).mono ?_;rintro e w7 ⟨z7,rfl,h7,hb7⟩;have HZ7:=Lib.hid h7;have HL7:=Lib.hid h7.len;have HB7:=Lib.hid (HB6.out.kept (below_new hb7));clear h7 hb7)|((with_reducible refine aS 8 ?_);refine wpList_alloc_row rfl 23 rfl _ (HZzn.out _) ?_;have HB8:=Lib.hid (HB7.out.alloc (arr .u8 zn) 23);generalize w7.heap.size=g8 at HB8 ⊢; generalize w7.alloc (.cells (arr .u8 zn) 23)=w8 at HB8 ⊢)|((with_reducible refine aT 8 ?_);refine wpList_store_whole rfl 23 _ _ rfl (g8) _ _ 23 (HB8.out.get 5 rfl) rfl rfl (arr_len2 _ _ HL7.out HLzn.out) (num_s HL7.out) (all_arr _ _) ?_;intro w9 hb9 hk9 hz9;have HB9:=Lib.hid (HB8.out.put 5 rfl hk9 hb9);clear hb9 hk9 hz9))
 (try simp only [World.size_alloc,Act.put,sA,sZ,sS])
 obtain ⟨z6101,HZ6101,HL6101,HE6101⟩:=p4_ex (a:=base) base_ok
 obtain ⟨z6102,HZ6102,HL6102,HE6102⟩:=p4_ex (a:=(emul base RR 256)) (emul_ok _ _ _)
 obtain ⟨z6103,HZ6103,HL6103,HE6103⟩:=k32_ex (a:=(ebytes (emul base RR 256))) (ebytes_lt _)
 refine wp_region_sym (T:=fun _=>False) (w:=w) (sy:=[Yr .u64 z6101,Yr .u8 z7,Yr .u64 z6102,Yr .u8 z6103,Yn (arr .u8 zn) 23, Y0]) (pt:=[(5,10,cel (arr .u8 z6103) 23)]) (by kernel_rfl) (by kernel_rfl) (by kernel_rfl) HB9.out.holds (fun hW=>?sg4) (fun qg4 xg4 ug4 _ hH=>?eg4)
 case sg4 =>
  refine SyC hW ?_ (fun _=>base_any _) HE6101.out
  refine SyL hW ?_ 5 0 (arr .u8 z7) 23 rowN HL7.out (arr_part _ _)
  refine SyC hW ?_ (fun _=>ptimes_any _ _ _ HZ6101.out HZ7.out) HE6102.out
  refine SyC hW ?_ (fun _=>pbytes_any _ _ HZ6102.out) HE6103.out
  refine SyA hW ?_ HZzn.out
  refine SyS hW ?_ 10 (arr .u8 zn) 23 rowN HL6103.out (asz HLzn.out)
  exact SyN
 case eg4 =>
 have HBg4:=Lib.hid (hH.blk [0,1,2,3,4,5,10] [(w.heap.size,arr .u8 ks, 23),(w.heap.size+1,arr .u8 zs64, 26),(gs,arr .u8 hs, 26),(g5,arr .u8 z1, 23),(g7,arr .u8 z4, 23),(g8,arr .u8 z7, 23),((qg4 4),arr .u8 z6103, 23)] (by decide) (by kernel_rfl))
 simp only [lay,Sy.at,den',Yr,Yv,Yp,Yq,Yn,Y0,Act.put,sA,sZ,sS,Nat.reduceAdd]
 clear hH HB9
 (try simp only [Exit.then])
 go_upto_region 5 with fail
 (try simp only [World.size_alloc,Act.put,sA,sZ,sS])
 obtain ⟨z6104,hz6104⟩:∃ z:List Int,z=nar (dig 256 32 (wide (n32 (ebytes (emul base RR 256)) ++ (n32 (epub seed) ++ BB)))):=⟨_,rfl⟩
 have HE6104:=Lib.hid hz6104
 have HL6104:Hid (z6104.length=32):=Lib.hid (by rw [hz6104];exact (nar_len _).trans (dig_len _ _ _))
 clear hz6104
 refine wp_region_lin (fun (fF:Fill) (uF:World)=>(∀ v,fF 0=some v→v = .slice sb nb cb∧True)∧(∀ v,fF 1=some v→v = .slice (some ⟨(qg4 4),0,none⟩) 32 32∧True)∧(∀ v,fF 2=some v→v = .slice (some ⟨g7,0,none⟩) 32 32∧True)∧(∀ v,fF 3=some v→∃ g:Nat,v = .slice (some ⟨g,0,none⟩) 2 2)∧(∀ v,fF 4=some v→v = .agg (arr .u8 z6104)∧K32 z6104 (wide (n32 (ebytes (emul base RR 256)) ++ (n32 (epub seed) ++ BB))))∧(∀ v,fF 5=some v→∃ g:Nat,v = .pointer (some ⟨g,0,none⟩))∧Blk w uF ([(w.heap.size,arr .u8 ks, 23),(w.heap.size+1,arr .u8 zs64, 26),(gs,arr .u8 hs, 26),(g5,arr .u8 z1, 23),(g7,arr .u8 z4, 23),(g8,arr .u8 z7, 23),((qg4 4),arr .u8 z6103, 23)] ++ (ent (fF 3) (#[.slice (some ⟨(qg4 4),0,none⟩) 32 32, .slice (some ⟨g7,0,none⟩) 32 32]) 24 ++ (ent (fF 5) ((if (fF 6).isSome=true then arr .u8 z6104 else arr .u8 zn)) 23)))) (by kernel_rfl) (by kernel_rfl) ?zg5 ?sg5 ?eg5
 case zg5=>exact ⟨fun _ h=>(by cases h),fun _ h=>(by cases h),fun _ h=>(by cases h),fun _ h=>(by cases h),fun _ h=>(by cases h),fun _ h=>(by cases h),HBg4.out.drew⟩
 case sg5 =>
  refine LinAll.cons (fun fF bF uF kF hJF hfF hcF hupF hsF hKF=>?_) ?_
  ·obtain ⟨j0,j1,j2,j3,j4,j5,hB⟩:=hJF
   have e1:bF.eval (.tmp 1) = .slice sb nb cb:=hsF.old' 1 (by kernel_rfl) rfl
   exact lin_pure rfl (.slice sb nb cb) (by simp only [execOp,e1] <;> first|rfl|kernel_rfl|(go_simp;done)) (hKF _ _ ⟨fun _ h=>⟨sI h,trivial⟩,j1,j2,j3,j4,j5,hB⟩)
  refine LinAll.cons (fun fF bF uF kF hJF hfF hcF hupF hsF hKF=>?_) ?_
  ·obtain ⟨j0,j1,j2,j3,j4,j5,hB⟩:=hJF
   have e9:bF.eval (.tmp 9) = .pointer (some ⟨(qg4 4),0,none⟩):=hsF.old' 9 (by kernel_rfl) rfl
   exact lin_pure rfl (.slice (some ⟨(qg4 4),0,none⟩) 32 32) (by simp only [execOp,e9];first|rfl|(go_simp;done)) (hKF _ _ ⟨j0,fun _ h=>⟨sI h,trivial⟩,j2,j3,j4,j5,hB⟩)
  refine LinAll.cons (fun fF bF uF kF hJF hfF hcF hupF hsF hKF=>?_) ?_
  ·obtain ⟨j0,j1,j2,j3,j4,j5,hB⟩:=hJF
   have e7:bF.eval (.tmp 7) = .pointer (some ⟨g7,0,none⟩):=hsF.old' 7 (by kernel_rfl) rfl
   exact lin_pure rfl (.slice (some ⟨g7,0,none⟩) 32 32) (by simp only [execOp,e7];first|rfl|(go_simp;done)) (hKF _ _ ⟨j0,j1,fun _ h=>⟨sI h,trivial⟩,j3,j4,j5,hB⟩)
  refine LinAll.cons (fun fF bF uF kF hJF hfF hcF hupF hsF hKF=>?_) ?_
  ·obtain ⟨j0,j1,j2,j3,j4,j5,hB⟩:=hJF
   obtain ⟨e28,p28⟩:=hsF.at hupF 1 28 (by kernel_rfl) rfl j1
   obtain ⟨e29,p29⟩:=hsF.at hupF 2 29 (by kernel_rfl) rfl j2
   have hB1:Blk w (uF.alloc (.cells #[.slice (some ⟨(qg4 4),0,none⟩) 32 32, .slice (some ⟨g7,0,none⟩) 32 32] 24)) ([(w.heap.size,arr .u8 ks, 23),(w.heap.size+1,arr .u8 zs64, 26),(gs,arr .u8 hs, 26),(g5,arr .u8 z1, 23),(g7,arr .u8 z4, 23),(g8,arr .u8 z7, 23),((qg4 4),arr .u8 z6103, 23)] ++ (ent ((some (.slice (some ⟨uF.heap.size,0,none⟩) 2 2):Option Value)) (#[.slice (some ⟨(qg4 4),0,none⟩) 32 32, .slice (some ⟨g7,0,none⟩) 32 32]) 24 ++ (ent (fF 5) ((if (fF 6).isSome=true then arr .u8 z6104 else arr .u8 zn)) 23))):=hB.ins (a:=[(w.heap.size,arr .u8 ks, 23),(w.heap.size+1,arr .u8 zs64, 26),(gs,arr .u8 hs, 26),(g5,arr .u8 z1, 23),(g7,arr .u8 z4, 23),(g8,arr .u8 z7, 23),((qg4 4),arr .u8 z6103, 23)]) (b:=ent (fF 5) ((if (fF 6).isSome=true then arr .u8 z6104 else arr .u8 zn)) 23) _ _ (by rw [hfF];simp only [ent_none,List.nil_append,List.append_nil,List.append_assoc,List.cons_append]) (by simp only [ent_slice,List.nil_append,List.append_nil,List.append_assoc,List.cons_append,Option.isSome_none,Bool.false_eq_true,if_false])
   rw [if_pos (by simp [Region.wanted])]
   unfold Oper.wp
   simp only [execOp,List.map_toArray,List.map_cons,List.map_nil,e28,e29]
   generalize hX:Sem.run Tryd.prog _ uF=X
   have hrun:X = .ok (.value (.slice (some ⟨uF.heap.size,0,none⟩) 2 2)) (uF.alloc (.cells #[.slice (some ⟨(qg4 4),0,none⟩) 32 32, .slice (some ⟨g7,0,none⟩) 32 32] 24)):=by
    rw [← hX]
    first|rfl|kernel_rfl
   rw [hrun]
   exact hKF _ _ ⟨j0,j1,j2,fun _ h=>⟨_,sI h⟩,j4,j5,hB1⟩
  refine LinAll.cons (fun fF bF uF kF hJF hfF hcF hupF hsF hKF=>?_) ?_
  ·obtain ⟨j0,j1,j2,j3,j4,j5,hB⟩:=hJF
   obtain ⟨e27,p27⟩:=hsF.at hupF 0 27 (by kernel_rfl) rfl j0
   have y3:=hupF 3 (by kernel_rfl)
   obtain ⟨v3,s3⟩:=sE y3
   obtain ⟨gg5_7,rfl⟩:=j3 _ s3
   have e30:=hsF.val 3 30 rfl s3
   have hB':=hB
   rw [s3] at hB'
   have hsl:=src_two (hB'.get 7 rfl) (src_all (hB'.get 6 rfl) 32 HL6103.out) (src_all (hB'.get 4 rfl) 32 HL4.out) (Nat.le_refl _) (Nat.le_refl _)
   refine lin_call rfl 83 [Operand.tmp 27,Operand.tmp 30] _ [.slice sb nb cb, .slice (some ⟨gg5_7,0,none⟩) 2 2] rfl (by simp only [List.map_cons,List.map_nil,e27,e30] <;> rfl) (fun _ _=>by kernel_rfl) ?_
   refine Calls.mono (HSUM3.out _ _ _ _ _ _ _ HZ6103.out HZ4.out hsl (HSB.out.below hB.below)) ?_
   rintro e w1 ⟨y6105_0,rfl,r6105_0,hb⟩
   obtain rfl:y6105_0=z6104:=r6105_0.1.trans HE6104.out.symm
   exact ⟨_,rfl,hKF _ _ ⟨j0,j1,j2,j3,fun _ h=>⟨sI h,r6105_0⟩,j5,hB.kept hb⟩⟩
  refine LinAll.cons (fun fF bF uF kF hJF hfF hcF hupF hsF hKF=>?_) ?_
  ·obtain ⟨j0,j1,j2,j3,j4,j5,hB⟩:=hJF
   have n6:=hcF.down 6 5 (by kernel_rfl) hfF
   refine step_alloc_row rfl 23 rfl _ (HZzn.out _) ?_
   have hB1:Blk w (uF.alloc (.cells (arr .u8 zn) 23)) ([(w.heap.size,arr .u8 ks, 23),(w.heap.size+1,arr .u8 zs64, 26),(gs,arr .u8 hs, 26),(g5,arr .u8 z1, 23),(g7,arr .u8 z4, 23),(g8,arr .u8 z7, 23),((qg4 4),arr .u8 z6103, 23)] ++ (ent (fF 3) (#[.slice (some ⟨(qg4 4),0,none⟩) 32 32, .slice (some ⟨g7,0,none⟩) 32 32]) 24 ++ (ent ((some (.pointer (some ⟨uF.heap.size,0,none⟩)):Option Value)) ((if (fF 6).isSome=true then arr .u8 z6104 else arr .u8 zn)) 23))):=hB.ins (a:=[(w.heap.size,arr .u8 ks, 23),(w.heap.size+1,arr .u8 zs64, 26),(gs,arr .u8 hs, 26),(g5,arr .u8 z1, 23),(g7,arr .u8 z4, 23),(g8,arr .u8 z7, 23),((qg4 4),arr .u8 z6103, 23)] ++ ent (fF 3) (#[.slice (some ⟨(qg4 4),0,none⟩) 32 32, .slice (some ⟨g7,0,none⟩) 32 32]) 24) (b:=[]) _ _ (by rw [hfF,n6];simp only [ent_none,List.nil_append,List.append_nil,List.append_assoc,List.cons_append]) (by rw [n6];simp only [ent_some,List.nil_append,List.append_nil,List.append_assoc,List.cons_append,Option.isSome_none,Bool.false_eq_true,if_false])
   exact hKF _ _ ⟨j0,j1,j2,j3,j4,fun _ h=>⟨_,sI h⟩,hB1⟩
  refine LinAll.cons (fun fF bF uF kF hJF hfF hcF hupF hsF hKF=>?_) ?_
  ·obtain ⟨j0,j1,j2,j3,j4,j5,hB⟩:=hJF
   have y3:=hupF 3 (by kernel_rfl)
   obtain ⟨v3,s3⟩:=sE y3
   obtain ⟨gg5_7,rfl⟩:=j3 _ s3
   have y5:=hupF 5 (by kernel_rfl)
   obtain ⟨v5,s5⟩:=sE y5
   obtain ⟨gg5_8,rfl⟩:=j5 _ s5
   have e10:=hsF.val 5 10 rfl s5
   obtain ⟨e31,p31⟩:=hsF.at hupF 4 31 (by kernel_rfl) rfl j4
   have y4:=hupF 4 (by kernel_rfl)
   obtain ⟨v4,s4⟩:=sE y4
   have HZ6104:=Lib.hid (j4 _ s4).2
   have hB':=hB
   rw [s3,s5,hfF] at hB'
   refine step_store_whole rfl 23 (.tmp 10) (.tmp 31) rfl (gg5_8) (arr .u8 zn) _ 23 (hB'.get 8 rfl) e10 e31 (arr_len2 _ _ HL6104.out HLzn.out) (num_s HL6104.out) (all_arr _ _) ?_
   intro w1 hb1 hk1 hz1
   have hB1:Blk w w1 ([(w.heap.size,arr .u8 ks, 23),(w.heap.size+1,arr .u8 zs64, 26),(gs,arr .u8 hs, 26),(g5,arr .u8 z1, 23),(g7,arr .u8 z4, 23),(g8,arr .u8 z7, 23),((qg4 4),arr .u8 z6103, 23)] ++ (ent (fF 3) (#[.slice (some ⟨(qg4 4),0,none⟩) 32 32, .slice (some ⟨g7,0,none⟩) 32 32]) 24 ++ (ent (fF 5) ((if ((some undef:Option Value)).isSome=true then arr .u8 z6104 else arr .u8 zn)) 23))):=by rw [s3,s5];exact hB'.put 8 rfl hk1 hb1
   exact hKF undef w1 ⟨j0,j1,j2,j3,j4,j5,hB1⟩
  exact LinAll.nil
 case eg5 =>
 intro fF ug5 hall hJF
 obtain ⟨j0,j1,j2,j3,j4,j5,hB⟩:=hJF
 obtain ⟨v0,h0⟩:=sE (hall 0 (by decide))
 obtain ⟨rfl,p0⟩:=j0 _ h0
 obtain ⟨v1,h1⟩:=sE (hall 1 (by decide))
 obtain ⟨rfl,p1⟩:=j1 _ h1
 obtain ⟨v2,h2⟩:=sE (hall 2 (by decide))
 obtain ⟨rfl,p2⟩:=j2 _ h2
 obtain ⟨v3,h3⟩:=sE (hall 3 (by decide))
 obtain ⟨gg5_7,rfl⟩:=j3 _ h3
 obtain ⟨v4,h4⟩:=sE (hall 4 (by decide))
 obtain ⟨rfl,p4⟩:=j4 _ h4
 obtain ⟨v5,h5⟩:=sE (hall 5 (by decide))
 obtain ⟨gg5_8,rfl⟩:=j5 _ h5
 obtain ⟨v6,h6⟩:=sE (hall 6 (by decide))
 rw [h3,h5,h6] at hB
 have HBg5:Hid (Blk w ug5 [(w.heap.size,arr .u8 ks, 23),(w.heap.size+1,arr .u8 zs64, 26),(gs,arr .u8 hs, 26),(g5,arr .u8 z1, 23),(g7,arr .u8 z4, 23),(g8,arr .u8 z7, 23),((qg4 4),arr .u8 z6103, 23),(gg5_7, #[.slice (some ⟨(qg4 4),0,none⟩) 32 32, .slice (some ⟨g7,0,none⟩) 32 32], 24),(gg5_8,arr .u8 z6104, 23)]):=Lib.hid hB
 have HZ6104:=Lib.hid p4
 simp only [laid,Nat.zero_add,Nat.reduceAdd,h0,h1,h2,h3,h4,h5,h6,Act.put,sA,sZ,sS]
 clear j0 j1 j2 j3 j4 j5 hB h0 h1 h2 h3 h4 h5 h6 hall fF HBg4
 clear p0 p1 p2 p4
 (try simp only [Exit.then])
 go_upto_region 6 with fail
 (try simp only [World.size_alloc,Act.put,sA,sZ,sS])
 obtain ⟨z6106,HZ6106,HL6106,HE6106⟩:=k32_ex (a:=((wide (n32 (ebytes (emul base RR 256)) ++ (n32 (epub seed) ++ BB))) * (spart seed) % q)) (Nat.lt_trans (Nat.mod_lt _ (by decide +kernel)) (by decide +kernel))
 obtain ⟨z6107,HZ6107,HL6107,HE6107⟩:=k32_ex (a:=((RR+((wide (n32 (ebytes (emul base RR 256)) ++ (n32 (epub seed) ++ BB))) * (spart seed) % q)) % q)) (Nat.lt_trans (Nat.mod_lt _ (by decide +kernel)) (by decide +kernel))
 refine wp_region_sym (T:=fun _=>False) (w:=w) (sy:=[Yr .u8 z7,Yr .u8 z6104,Yr .u8 z1,Yr .u8 z6106,Yr .u8 z6107,Yn (arr .u8 zn) 23, Y0]) (pt:=[(6,14,cel (arr .u8 z6107) 23)]) (by kernel_rfl) (by kernel_rfl) (by kernel_rfl) HBg5.out.holds (fun hW=>?sg6) (fun qg6 xg6 ug6 _ hH=>?eg6)
 case sg6 =>
  refine SyL hW ?_ 5 0 (arr .u8 z7) 23 rowN HL7.out (arr_part _ _)
  refine SyL hW ?_ 8 0 (arr .u8 z6104) 23 rowN HL6104.out (arr_part _ _)
  refine SyL hW ?_ 3 0 (arr .u8 z1) 23 rowN HL1.out (arr_part _ _)
  refine SyC hW ?_ (fun _=>smul_any _ _ _ HZ6104.out HZ1.out) HE6106.out
  refine SyC hW ?_ (fun _=>sadd_any _ _ _ HZ7.out HZ6106.out) HE6107.out
  refine SyA hW ?_ HZzn.out
  refine SyS hW ?_ 14 (arr .u8 zn) 23 rowN HL6107.out (asz HLzn.out)
  exact SyN
 case eg6 =>
 have HBg6:=Lib.hid (hH.blk [0,1,2,3,4,5,6,7,8,14] [(w.heap.size,arr .u8 ks, 23),(w.heap.size+1,arr .u8 zs64, 26),(gs,arr .u8 hs, 26),(g5,arr .u8 z1, 23),(g7,arr .u8 z4, 23),(g8,arr .u8 z7, 23),((qg4 4),arr .u8 z6103, 23),(gg5_7, #[.slice (some ⟨(qg4 4),0,none⟩) 32 32, .slice (some ⟨g7,0,none⟩) 32 32], 24),(gg5_8,arr .u8 z6104, 23),((qg6 5),arr .u8 z6107, 23)] (by decide) (by kernel_rfl))
 simp only [lay,Sy.at,den',Yr,Yv,Yp,Yq,Yn,Y0,Act.put,sA,sZ,sS,Nat.reduceAdd]
 clear hH HBg5
 (try simp only [Exit.then])
 go_upto_region 7 with fail
 (try simp only [World.size_alloc,Act.put,sA,sZ,sS])
 have hfin:z6103 ++ z6107=res:=by rw [HRES.out,HZ6103.out.1,HZ6107.out.1];rfl
 have HFIN:=Lib.hid hfin
 clear hfin
 refine wp_region_held_drew (S:=fun _=>True) (by kernel_rfl) trivial (fun hHeld=>?_)
 have HBd:=Lib.hid (HBg6.out.drew)
 generalize ug6.drew=wd at HBd ⊢
 refine wpAnyH_take (i:=0) (oi:=(⟨some 37,_,_,_,_,none⟩:Oper)) (v := .slice (some ⟨(qg4 4),0,none⟩) 32 32) rfl (by kernel_rfl) (by kernel_rfl) (by kernel_rfl) (fun _ _ _ h=>h) (Or.inl ⟨by rfl,?hy4100⟩) trivial ?rest4100
 case hy4100=>(intro w _;(try dsimp only);go_simp;try (with_reducible rfl))
 (try simp only [Act.put,sA,sZ,sS])
 refine wpAnyH_take (i:=1) (oi:=(⟨some 38,_,_,_,_,none⟩:Oper)) (v := .slice (some ⟨(qg6 5),0,none⟩) 32 32) rfl (by kernel_rfl) (by kernel_rfl) (by kernel_rfl) (fun _ _ _ h=>h) (Or.inl ⟨by rfl,?hy4101⟩) trivial ?rest4101
 case hy4101=>(intro w _;(try dsimp only);go_simp;try (with_reducible rfl))
 (try simp only [Act.put,sA,sZ,sS])
 refine wpAnyH_ready (rs:=[2]) (by kernel_rfl) (by simp) ?_
 refine AllReadyH.cons (o:=(⟨some 39,_,_,_,_,none⟩:Oper)) rfl (fun K hK=>?_) AllReadyH.nil
 refine step_append_arr rfl (.tmp 37) (.tmp 38) rfl (qg4 4) (qg6 5) 32 32 z6103 z6107 rfl rfl (src_all (HBd.out.get 6 rfl) 32 HL6103.out) (src_all (HBd.out.get 9 rfl) 32 HL6107.out) (by decide) (by decide) ?_
 rw [HFIN.out]
 intro gr cap we hre hbe
 have HRE:=Lib.hid hre
 have HBe:=Lib.hid (HBd.out.kept hbe)
 clear hre hbe
 refine hK.out _ _ trivial (fun _=>?_)
 clear hK K
 (try simp only [Act.put,sA,sZ,sS])
 refine wpAnyH_take (i:=3) (oi:=(⟨some 40,_,_,_,_,none⟩:Oper)) (v := .pointer (some ⟨gr,0,none⟩)) rfl (by kernel_rfl) (by kernel_rfl) (by kernel_rfl) (fun _ _ _ h=>h) (Or.inl ⟨by rfl,?hy4103⟩) trivial ?rest4103
 case hy4103=>(intro w _;(try dsimp only);first|rfl|kernel_rfl)
 (try simp only [Act.put,sA,sZ,sS])
 refine wpAnyH_ready (rs:=[4]) (by kernel_rfl) (by simp) ?_
 refine AllReadyH.cons (o:=(⟨some 41,_,_,_,_,none⟩:Oper)) rfl (fun K hK=>?_) AllReadyH.nil
 rw [if_pos (by simp [Region.wanted])]
 refine wp_load_mid 26 (.tmp 40) rfl gr 0 rfl (res.map (Value.int .u8)) _ (cells_of HRE.out) Tryd.underlying26 rfl (by rw [List.length_map];exact sig_i HRESL.out) ?_
 refine hK.out _ _ trivial (fun _=>?_)
 clear hK K
 (try simp only [Act.put,sA,sZ,sS])
 refine wpAnyH_ready (rs:=[5]) (by kernel_rfl) (by simp) ?_
 refine AllReadyH.cons (o:=(⟨none,_,_,_,_,none⟩:Oper)) rfl (fun K hK=>?_) AllReadyH.nil
 refine step_store_whole rfl 26 (.tmp 4) (.tmp 41) rfl (w.heap.size+1) _ _ 26 (HBe.out.get 1 rfl) rfl rfl (arr_len2 _ _ HRESL.out HLzs64.out) (sig_s HRESL.out) (all_arr _ _) ?_
 intro wf hbf hkf hzf
 have HBf:=Lib.hid (HBe.out.put 1 rfl hkf hbf)
 clear hbf hkf hzf
 refine hK.out _ _ trivial (fun _=>?_)
 clear hK K
 (try simp only [Act.put,sA,sZ,sS])
 refine wpAnyH_done (by kernel_rfl) ?_ _
 (try simp only [Exit.then])
 go_wp2_with fail
 refine bodyPost_ret (results_cell_row rfl _ _ (w.heap.size+1) 26 _ (0,0) _ rfl (HBf.out.get 1 rfl) Tryd.underlying26 rfl (sig_s HRESL.out)) rfl ?_
 exact ⟨rfl,HBf.out.below⟩
end Go.Proofs.YtodnkallpfkdiaaDoor.Sl
namespace Go.Proofs.YtodnkallpfkdiaaDoor.Sl
open Go.RowKit Lm Fp Cu Rd Sc
theorem exec_eql_arr {P:Program} {o:Oper} {ev:Operand→Value} {w:World} (t ty:TypeId) (e:TypeId) (x y:Operand) (ho:o.op = .binOp .eql t x y ty) (n:Nat) (k k':IntKind)
  (ht:P.underlying t=some (.array n e)) (he:P.underlying e=some (.int k')) (hsz:∀ w,(sizeOf e).run P w = .ok 1 w) (hm:P.eqGuardType P.depth t=false)
  (xs ys:List Int) (hx:ev x = .agg (arr k xs)) (hy:ev y = .agg (arr k ys)) (lx:xs.length=n) (ly:ys.length=n) (b:Bool) (hb:(xs == ys)=b) :
  (execOp ev o).run P w = .ok (.value (.bool b)) w:=by
 simp only [execOp,ho,hx,hy,Sem.run_bind,run_eqGuard_agg w .eql t x y _ _ hm,Result.andThen_ok,run_eql_arr w t e n k k' ht he hsz xs ys lx ly,hb]
 rfl
theorem wpList_s2a {P:Program} {ops:Array Oper} {rest:List Oper} {o:Oper} {a:Act} {w:World} {Q:Exit→Act→World→Prop} (hg:o.guard=none) (t:TypeId) (x:Operand) (ho:o.op = .sliceToArrayPointer t x) (v u:Value) (hx:a.eval x=v) (hrun:(Instr.arrayAt t v).run P w = .ok u w)
  (h:wpList P ops Q rest (a.put o.dst u) w):wpList P ops Q (o :: rest) a w:=by
 refine wpList_plain hg fun _ hK=>?_
 unfold Oper.wp execOp
 simp only [ho,hx,Sem.run_bind,hrun,Result.andThen_ok]
 exact hK _ _ h
theorem bytes_n32 {xs:List Int} {a:Nat} (h:K32 xs a):bytes xs:=by rw [h.1];exact n32_bytes a
theorem cverify_any {ks gs:List Int} (key:Nat) (sb:Option Addr) (nb cb:Nat) (LB:List (List Int)) (w:World) (hk:K32 ks key) (hg:gs.length=64) (hgb:bytes gs) (hB:SrcL w sb nb LB) (bB:∀ l∈LB,bytes l) (hN:LB.flatten.length≤1125899906842624) (hn:nb≤1099511627770) :
  Calls Tryd.prog 59 #[.agg (arr .u8 ks), .agg (arr .u8 gs), .slice sb nb cb] w fun e w'=>e = .returned (.bool (everify key (hnum (gs.take 32)) (hnum (gs.drop 32)) LB.flatten))∧Below w.heap.size w w':=by
 have hr0:K32 (gs.take 32) (hnum (gs.take 32)):=⟨(n32_hnum (bytes_take hgb 32) (by rw [List.length_take,hg];rfl)).symm,by have:=hnum_lt (bytes_take hgb 32);rwa [List.length_take,hg] at this⟩
 have hs0:K32 (gs.drop 32) (hnum (gs.drop 32)):=⟨(n32_hnum (bytes_drop hgb 32) (by rw [List.length_drop,hg])).symm,by have:=hnum_lt (bytes_drop hgb 32);rwa [List.length_drop,hg] at this⟩
 have hp0:=part_take gs 32
 have hp1:=part_off gs 32 32 (by rw [hg];decide)
 rw [List.take_of_length_le (show (gs.drop 32).length≤32 by rw [List.length_drop,hg];decide)] at hp1
 obtain ⟨rg0,hr0e⟩:∃ x,x=gs.take 32:=⟨_,rfl⟩
 have hsr:=fun (u:World) (g:Nat) (h:u.heap[g]? = some (.cells (arr .u8 gs) 26 (0,0)))=>src_off h 0 32 (by rw [hg];decide)
 rw [List.drop_zero] at hsr
 rw [← hr0e] at hr0 hp0 hsr
 obtain ⟨sg0,hs0e⟩:∃ x,x=gs.drop 32:=⟨_,rfl⟩
 rw [← hs0e] at hs0 hp1
 rw [← hr0e,← hs0e]
 obtain ⟨RN,hRN⟩:∃ x,x=hnum rg0:=⟨_,rfl⟩
 rw [← hRN] at hr0 ⊢
 obtain ⟨SN,hSN⟩:∃ x,x=hnum sg0:=⟨_,rfl⟩
 rw [← hSN] at hs0 ⊢
 obtain ⟨BB,hBB⟩:∃ b,b=LB.flatten:=⟨_,rfl⟩
 have hsum3:∀ (g oa:Nat) (u:World),SrcL u (some ⟨g,oa,none⟩) 2 [rg0,ks]→SrcL u sb nb LB→Calls Tryd.prog 83 #[.slice sb nb cb, .slice (some ⟨g,oa,none⟩) 2 2] u fun e w'=>∃ zs,e = .returned (.agg (arr .u8 zs))∧K32 zs (wide (n32 RN ++ (n32 key ++ BB)))∧Below u.heap.size u w':=by
  intro g oa u hA hB
  have:=csum_any g oa 2 [rg0,ks] sb nb cb LB u hA hB (by intro l h;simp only [List.mem_cons,List.not_mem_nil,or_false] at h;rcases h with rfl|rfl;exact bytes_n32 hr0;exact bytes_n32 hk) bB (by rw [List.flatten_append,List.length_append,show [rg0,ks].flatten=rg0 ++ ks by simp,List.length_append,hr0.len,hk.len];omega) (by omega)
  rw [show ([rg0,ks] ++ LB).flatten=rg0 ++ (ks ++ LB.flatten) by simp] at this
  rw [hBB,n32,n32,← hr0.1,← hk.1]
  exact this
 rw [← hBB]
 have hev:everify key RN SN BB=match eread RN,eread key with
  | some r,some a=>decide (SN < q) && (ebytes (emul base SN 256) == ebytes (eadd r (emul a (wide (n32 RN ++ (n32 key ++ BB))) 256)))
  | _,_=>false:=rfl
 obtain ⟨KK,hKK⟩:∃ k,k=wide (n32 RN ++ (n32 key ++ BB)):=⟨_,rfl⟩
 rw [← hKK] at hev hsum3
 have hread1:=fun (w:World)=>cread_any RN w hr0
 have hread2:=fun (w:World)=>cread_any key w hk
 obtain ⟨er,her⟩:∃ x,x=eread RN:=⟨_,rfl⟩
 obtain ⟨ea,hea⟩:∃ x,x=eread key:=⟨_,rfl⟩
 rw [← her] at hev hread1
 rw [← hea] at hev hread2
 obtain ⟨ev,hevv⟩:∃ x,x=everify key RN SN BB:=⟨_,rfl⟩
 rw [← hevv] at hev ⊢
 obtain ⟨rb,hrb⟩:∃ x,x=er.isSome:=⟨_,rfl⟩
 obtain ⟨ab,hab⟩:∃ x,x=ea.isSome:=⟨_,rfl⟩
 rw [← hrb] at hread1
 rw [← hab] at hread2
 obtain ⟨lb,hlb⟩:∃ x,x=decide (SN < q):=⟨_,rfl⟩
 have hless:=fun (w:World)=>sless_any SN w hs0
 rw [← hlb] at hev hless
 have HEV:=Lib.hid hev
 have HRB:=Lib.hid hrb
 have HAB:=Lib.hid hab
 have HR1:=Lib.hid hread1
 have HR2:=Lib.hid hread2
 have HLESS:=Lib.hid hless
 have HSUM3:=Lib.hid hsum3
 have HSR:=Lib.hid hsr
 have HP0:=Lib.hid hp0
 have HP1:=Lib.hid hp1
 have HR0:=Lib.hid hr0
 have HR0L:=Lib.hid hr0.len
 have HS0:=Lib.hid hs0
 have HS0L:=Lib.hid hs0.len
 have HGL:=Lib.hid hg
 have HK:=Lib.hid hk
 have HKL:=Lib.hid hk.len
 have HSB:=Lib.hid hB
 obtain ⟨zn,hzn⟩:∃ zs:List Int,zs=List.replicate 32 0:=⟨_,rfl⟩
 have HZzn:Hid (∀ w,(zeroValue 23).run Tryd.prog w = .ok (.agg (arr .u8 zn)) w):=Lib.hid (by intro w;rw [hzn];exact zero_num w)
 have HLzn:Hid (zn.length=32):=Lib.hid (by rw [hzn];rfl)
 obtain ⟨zp,hzp⟩:∃ zs:List Int,zs=List.replicate 16 0:=⟨_,rfl⟩
 have HZzp:Hid (∀ w,(zeroValue 133).run Tryd.prog w = .ok (.agg (arr .u64 zp)) w):=Lib.hid (by intro w;rw [hzp];exact zero_cpt w)
 have HLzp:Hid (zp.length=16):=Lib.hid (by rw [hzp];rfl)
 have HI0:=Lib.hid (Blk.two w (arr .u8 ks) (arr .u8 gs) 23 26)
 clear hzn hzp hk hg hgb hB bB hN hn hr0 hs0 hp0 hp1 hr0e hs0e hsr hRN hSN hBB hsum3 hev hKK hread1 hread2 her hea hevv hrb hab hlb hless
 go_enter Tryd.func59, Tryd.ntmps59
 go_upto_region 1 with fail
 (try simp only [World.size_alloc,Act.put,sA,sZ,sS])
 generalize ((w.alloc (.cells (arr .u8 ks) 23)).alloc (.cells (arr .u8 gs) 26))=wb at HI0 ⊢
 go_upto_region 2 with (first|((with_reducible refine aS 14 ?_);refine wpList_s2a rfl 23 (.tmp 13) rfl (.slice (some ⟨w.heap.size+1,32,none⟩) 32 32) (.pointer (some ⟨w.heap.size+1,32,none⟩)) rfl (by first|rfl|kernel_rfl) ?_)|((with_reducible refine aS 15 ?_);refine wpList_load_part rfl 23 _ rfl (w.heap.size+1) (32) _ 26 (0,0) _ (HI0.out.get 1 rfl) rfl .u8 sg0 (HP1.out) Tryd.underlying23 rfl (num_i HS0L.out) ?_)|((with_reducible refine aS 7 ?_);refine wpList_alloc_row rfl 23 rfl _ (HZzn.out _) ?_;have HI1:=Lib.hid (HI0.out.alloc (arr .u8 zn) 23);generalize wb.heap.size=g7 at HI1 ⊢; generalize wb.alloc (.cells (arr .u8 zn) 23)=w1 at HI1 ⊢)|((with_reducible refine aT 7 ?_);refine wpList_store_whole rfl 23 _ _ rfl (g7) _ _ 23 (HI1.out.get 2 rfl) rfl rfl (arr_len2 _ _ HS0L.out HLzn.out) (num_s HS0L.out) (all_arr _ _) ?_;intro w2 hb2 hk2 hz2;have HI2:=Lib.hid (HI1.out.put 2 rfl hk2 hb2);clear hb2 hk2 hz2))
 (try simp only [World.size_alloc,Act.put,sA,sZ,sS])
 go_upto_region 3 with (first|((with_reducible refine aS 18 ?_);refine wpList_s2a rfl 23 (.tmp 17) rfl (.slice (some ⟨w.heap.size+1,0,none⟩) 32 64) (.pointer (some ⟨w.heap.size+1,0,none⟩)) rfl (by first|rfl|kernel_rfl) ?_)|((with_reducible refine aS 19 ?_);refine wpList_load_part rfl 23 _ rfl (w.heap.size+1) (0) _ 26 (0,0) _ (HI2.out.get 1 rfl) rfl .u8 rg0 (HP0.out) Tryd.underlying23 rfl (num_i HR0L.out) ?_)|((with_reducible show Calls _ 80 _ _ _);go_at_call 80; refine (HR1.out _).mono ?_;rintro e w3 ⟨z3,rfl,⟨h3,k3⟩,hb3⟩;have HZ3:=Lib.hid k3;have HL3:=Lib.hid h3;have HI3:=Lib.hid (HI2.out.kept hb3);clear h3 k3 hb3)|((with_reducible refine aS 8 ?_);refine wpList_alloc_row rfl 133 rfl _ (HZzp.out _) ?_;have HI4:=Lib.hid (HI3.out.alloc (arr .u64 zp) 133);generalize w3.heap.size=g8 at HI4 ⊢; generalize w3.alloc (.cells (arr .u64 zp) 133)=w4 at HI4 ⊢)|((with_reducible refine aT 8 ?_);refine wpList_store_whole rfl 133 _ _ rfl (g8) _ _ 133 (HI4.out.get 3 rfl) rfl rfl (arr_len2 _ _ HL3.out HLzp.out) (cpt_s HL3.out) (all_arr _ _) ?_;intro w5 hb5 hk5 hz5;have HI5:=Lib.hid (HI4.out.put 3 rfl hk5 hb5);clear hb5 hk5 hz5))
 (try simp only [World.size_alloc,Act.put,sA,sZ,sS])
 go_upto_region 4 with (first|((with_reducible refine aS 24 ?_);refine wpList_load_part rfl 23 _ rfl (w.heap.size) (0) _ 23 (0,0) _ (HI5.out.get 0 rfl) rfl .u8 ks (arr_part _ _) Tryd.underlying23 rfl (num_i HKL.out) ?_)|((with_reducible show Calls _ 80 _ _ _);go_at_call 80; refine (HR2.out _).mono ?_;rintro e w6 ⟨z6,rfl,⟨h6,k6⟩,hb6⟩;have HZ6:=Lib.hid k6;have HL6:=Lib.hid h6;have HI6:=Lib.hid (HI5.out.kept hb6);clear h6 k6 hb6)|((with_reducible refine aS 10 ?_);refine wpList_alloc_row rfl 133 rfl _ (HZzp.out _) ?_;have HI7:=Lib.hid (HI6.out.alloc (arr .u64 zp) 133);generalize w6.heap.size=g10 at HI7 ⊢; generalize w6.alloc (.cells (arr .u64 zp) 133)=w7 at HI7 ⊢)|((with_reducible refine aT 10 ?_);refine wpList_store_whole rfl 133 _ _ rfl (g10) _ _ 133 (HI7.out.get 4 rfl) rfl rfl (arr_len2 _ _ HL6.out HLzp.out) (cpt_s HL6.out) (all_arr _ _) ?_;intro w8 hb8 hk8 hz8;have HI8:=Lib.hid (HI7.out.put 4 rfl hk8 hb8);clear hb8 hk8 hz8))
 (try simp only [World.size_alloc,Act.put,sA,sZ,sS])
 cases er with
 | none =>
  obtain rfl:rb=false:=HRB.out
  obtain rfl:ev=false:=HEV.out
  go_wp2_with fail
  (try simp only [Exit.then])
  go_ret
  exact ⟨rfl,HI8.out.below⟩
 | some pr =>
  obtain rfl:rb=true:=HRB.out
  cases ea with
  | none =>
   obtain rfl:ab=false:=HAB.out
   obtain rfl:ev=false:=HEV.out
   go_wp2_with fail
   (try simp only [Exit.then])
   go_ret
   exact ⟨rfl,HI8.out.below⟩
  | some pa =>
   obtain rfl:ab=true:=HAB.out
   have HPR:=Lib.hid (HZ3.out pr rfl)
   have HPA:=Lib.hid (HZ6.out pa rfl)
   obtain ⟨eb,heb⟩:∃ b,b=decide (ebytes (emul base SN 256)=ebytes (eadd pr (emul pa KK 256))):=⟨_,rfl⟩
   have hev2:ev=(lb && eb):=by rw [HEV.out,heb];rfl
   have HEB:=Lib.hid heb
   have HEV2:=Lib.hid hev2
   clear HEV HZ3 HZ6 HR1 HR2 HRB HAB heb hev2
   rcases Bool.eq_false_or_eq_true lb with hl|hl
   rotate_left
   ·subst hl
    obtain rfl:ev=false:=HEV2.out
    go_wp2_with (first|((with_reducible refine aS 35 ?_);refine wpList_load_wanted (by rfl) 23 _ rfl (g7) (0) _ 23 (0,0) _ (HI8.out.get 2 rfl) rfl .u8 sg0 (arr_part _ _) Tryd.underlying23 rfl (num_i HS0L.out) ?_)|((with_reducible show Calls _ 92 _ _ _);go_at_call 92; refine (HLESS.out _).mono ?_;rintro e w9 ⟨rfl,hb9⟩;have HI9:=Lib.hid (HI8.out.kept hb9);clear hb9))
    (try simp only [Exit.then])
    go_ret
    exact ⟨rfl,HI9.out.below⟩
   ·subst hl
    obtain rfl:ev=eb:=HEV2.out
    go_upto_region 6 with (first|((with_reducible refine aS 35 ?_);refine wpList_load_wanted (by rfl) 23 _ rfl (g7) (0) _ 23 (0,0) _ (HI8.out.get 2 rfl) rfl .u8 sg0 (arr_part _ _) Tryd.underlying23 rfl (num_i HS0L.out) ?_)|((with_reducible show Calls _ 92 _ _ _);go_at_call 92; refine (HLESS.out _).mono ?_;rintro e w9 ⟨rfl,hb9⟩;have HI9:=Lib.hid (HI8.out.kept hb9);clear hb9))
    (try simp only [World.size_alloc,Act.put,sA,sZ,sS])
    obtain ⟨z6301,hz6301⟩:∃ z:List Int,z=nar (dig 256 32 KK):=⟨_,rfl⟩
    have HE6301:=Lib.hid hz6301
    have HL6301:Hid (z6301.length=32):=Lib.hid (by rw [hz6301];exact (nar_len _).trans (dig_len _ _ _))
    clear hz6301
    refine wp_region_lin (fun (fF:Fill) (uF:World)=>(∀ v,fF 0=some v→v = .slice sb nb cb∧True)∧(∀ v,fF 1=some v→v = .slice (some ⟨w.heap.size+1,0,none⟩) 32 64∧True)∧(∀ v,fF 2=some v→v = .slice (some ⟨w.heap.size,0,none⟩) 32 32∧True)∧(∀ v,fF 3=some v→∃ g:Nat,v = .slice (some ⟨g,0,none⟩) 2 2)∧(∀ v,fF 4=some v→v = .agg (arr .u8 z6301)∧K32 z6301 KK)∧(∀ v,fF 5=some v→∃ g:Nat,v = .pointer (some ⟨g,0,none⟩))∧Blk w uF ([(w.heap.size,arr .u8 ks, 23),(w.heap.size+1,arr .u8 gs, 26),(g7,arr .u8 sg0, 23),(g8,arr .u64 z3, 133),(g10,arr .u64 z6, 133)] ++ (ent (fF 3) (#[.slice (some ⟨w.heap.size+1,0,none⟩) 32 64, .slice (some ⟨w.heap.size,0,none⟩) 32 32]) 24 ++ (ent (fF 5) ((if (fF 6).isSome=true then arr .u8 z6301 else arr .u8 zn)) 23)))) (by kernel_rfl) (by kernel_rfl) ?zh6 ?sh6 ?eh6
    case zh6=>exact ⟨fun _ h=>(by cases h),fun _ h=>(by cases h),fun _ h=>(by cases h),fun _ h=>(by cases h),fun _ h=>(by cases h),fun _ h=>(by cases h),HI9.out.drew⟩
    case sh6 =>
     refine LinAll.cons (fun fF bF uF kF hJF hfF hcF hupF hsF hKF=>?_) ?_
     ·obtain ⟨j0,j1,j2,j3,j4,j5,hB⟩:=hJF
      have e2:bF.eval (.tmp 2) = .slice sb nb cb:=hsF.old' 2 (by kernel_rfl) rfl
      exact lin_pure rfl (.slice sb nb cb) (by simp only [execOp,e2] <;> first|rfl|kernel_rfl|(go_simp;done)) (hKF _ _ ⟨fun _ h=>⟨sI h,trivial⟩,j1,j2,j3,j4,j5,hB⟩)
     refine LinAll.cons (fun fF bF uF kF hJF hfF hcF hupF hsF hKF=>?_) ?_
     ·obtain ⟨j0,j1,j2,j3,j4,j5,hB⟩:=hJF
      have e4:bF.eval (.tmp 4) = .pointer (some ⟨w.heap.size+1,0,none⟩):=hsF.old' 4 (by kernel_rfl) rfl
      exact lin_pure rfl (.slice (some ⟨w.heap.size+1,0,none⟩) 32 64) (by simp only [execOp,e4];first|rfl|(go_simp;done)) (hKF _ _ ⟨j0,fun _ h=>⟨sI h,trivial⟩,j2,j3,j4,j5,hB⟩)
     refine LinAll.cons (fun fF bF uF kF hJF hfF hcF hupF hsF hKF=>?_) ?_
     ·obtain ⟨j0,j1,j2,j3,j4,j5,hB⟩:=hJF
      have e3:bF.eval (.tmp 3) = .pointer (some ⟨w.heap.size,0,none⟩):=hsF.old' 3 (by kernel_rfl) rfl
      exact lin_pure rfl (.slice (some ⟨w.heap.size,0,none⟩) 32 32) (by simp only [execOp,e3];first|rfl|(go_simp;done)) (hKF _ _ ⟨j0,j1,fun _ h=>⟨sI h,trivial⟩,j3,j4,j5,hB⟩)
     refine LinAll.cons (fun fF bF uF kF hJF hfF hcF hupF hsF hKF=>?_) ?_
     ·obtain ⟨j0,j1,j2,j3,j4,j5,hB⟩:=hJF
      obtain ⟨e40,p40⟩:=hsF.at hupF 1 40 (by kernel_rfl) rfl j1
      obtain ⟨e41,p41⟩:=hsF.at hupF 2 41 (by kernel_rfl) rfl j2
      have hB1:Blk w (uF.alloc (.cells #[.slice (some ⟨w.heap.size+1,0,none⟩) 32 64, .slice (some ⟨w.heap.size,0,none⟩) 32 32] 24)) ([(w.heap.size,arr .u8 ks, 23),(w.heap.size+1,arr .u8 gs, 26),(g7,arr .u8 sg0, 23),(g8,arr .u64 z3, 133),(g10,arr .u64 z6, 133)] ++ (ent ((some (.slice (some ⟨uF.heap.size,0,none⟩) 2 2):Option Value)) (#[.slice (some ⟨w.heap.size+1,0,none⟩) 32 64, .slice (some ⟨w.heap.size,0,none⟩) 32 32]) 24 ++ (ent (fF 5) ((if (fF 6).isSome=true then arr .u8 z6301 else arr .u8 zn)) 23))):=hB.ins (a:=[(w.heap.size,arr .u8 ks, 23),(w.heap.size+1,arr .u8 gs, 26),(g7,arr .u8 sg0, 23),(g8,arr .u64 z3, 133),(g10,arr .u64 z6, 133)]) (b:=ent (fF 5) ((if (fF 6).isSome=true then arr .u8 z6301 else arr .u8 zn)) 23) _ _ (by rw [hfF];simp only [ent_none,List.nil_append,List.append_nil,List.append_assoc,List.cons_append]) (by simp only [ent_slice,List.nil_append,List.append_nil,List.append_assoc,List.cons_append,Option.isSome_none,Bool.false_eq_true,if_false])
      rw [if_pos (by simp [Region.wanted])]
      unfold Oper.wp
      simp only [execOp,List.map_toArray,List.map_cons,List.map_nil,e40,e41]
      generalize hX:Sem.run Tryd.prog _ uF=X
      have hrun:X = .ok (.value (.slice (some ⟨uF.heap.size,0,none⟩) 2 2)) (uF.alloc (.cells #[.slice (some ⟨w.heap.size+1,0,none⟩) 32 64, .slice (some ⟨w.heap.size,0,none⟩) 32 32] 24)):=by
       rw [← hX]
       first|rfl|kernel_rfl
      rw [hrun]
      exact hKF _ _ ⟨j0,j1,j2,fun _ h=>⟨_,sI h⟩,j4,j5,hB1⟩
     refine LinAll.cons (fun fF bF uF kF hJF hfF hcF hupF hsF hKF=>?_) ?_
     ·obtain ⟨j0,j1,j2,j3,j4,j5,hB⟩:=hJF
      obtain ⟨e39,p39⟩:=hsF.at hupF 0 39 (by kernel_rfl) rfl j0
      have y3:=hupF 3 (by kernel_rfl)
      obtain ⟨v3,s3⟩:=sE y3
      obtain ⟨gh6_5,rfl⟩:=j3 _ s3
      have e42:=hsF.val 3 42 rfl s3
      have hB':=hB
      rw [s3] at hB'
      have hsl:=src_two (hB'.get 5 rfl) (HSR.out _ _ (hB'.get 1 rfl)) (src_all (hB'.get 0 rfl) 32 HKL.out) (by decide) (Nat.le_refl _)
      refine lin_call rfl 83 [Operand.tmp 39,Operand.tmp 42] _ [.slice sb nb cb, .slice (some ⟨gh6_5,0,none⟩) 2 2] rfl (by simp only [List.map_cons,List.map_nil,e39,e42] <;> rfl) (fun _ _=>by kernel_rfl) ?_
      refine Calls.mono (HSUM3.out _ _ _ hsl (HSB.out.below hB.below)) ?_
      rintro e w1 ⟨y6302_0,rfl,r6302_0,hb⟩
      obtain rfl:y6302_0=z6301:=r6302_0.1.trans HE6301.out.symm
      exact ⟨_,rfl,hKF _ _ ⟨j0,j1,j2,j3,fun _ h=>⟨sI h,r6302_0⟩,j5,hB.kept hb⟩⟩
     refine LinAll.cons (fun fF bF uF kF hJF hfF hcF hupF hsF hKF=>?_) ?_
     ·obtain ⟨j0,j1,j2,j3,j4,j5,hB⟩:=hJF
      have n6:=hcF.down 6 5 (by kernel_rfl) hfF
      refine step_alloc_row rfl 23 rfl _ (HZzn.out _) ?_
      have hB1:Blk w (uF.alloc (.cells (arr .u8 zn) 23)) ([(w.heap.size,arr .u8 ks, 23),(w.heap.size+1,arr .u8 gs, 26),(g7,arr .u8 sg0, 23),(g8,arr .u64 z3, 133),(g10,arr .u64 z6, 133)] ++ (ent (fF 3) (#[.slice (some ⟨w.heap.size+1,0,none⟩) 32 64, .slice (some ⟨w.heap.size,0,none⟩) 32 32]) 24 ++ (ent ((some (.pointer (some ⟨uF.heap.size,0,none⟩)):Option Value)) ((if (fF 6).isSome=true then arr .u8 z6301 else arr .u8 zn)) 23))):=hB.ins (a:=[(w.heap.size,arr .u8 ks, 23),(w.heap.size+1,arr .u8 gs, 26),(g7,arr .u8 sg0, 23),(g8,arr .u64 z3, 133),(g10,arr .u64 z6, 133)] ++ ent (fF 3) (#[.slice (some ⟨w.heap.size+1,0,none⟩) 32 64, .slice (some ⟨w.heap.size,0,none⟩) 32 32]) 24) (b:=[]) _ _ (by rw [hfF,n6];simp only [ent_none,List.nil_append,List.append_nil,List.append_assoc,List.cons_append]) (by rw [n6];simp only [ent_some,List.nil_append,List.append_nil,List.append_assoc,List.cons_append,Option.isSome_none,Bool.false_eq_true,if_false])
      exact hKF _ _ ⟨j0,j1,j2,j3,j4,fun _ h=>⟨_,sI h⟩,hB1⟩
     refine LinAll.cons (fun fF bF uF kF hJF hfF hcF hupF hsF hKF=>?_) ?_
     ·obtain ⟨j0,j1,j2,j3,j4,j5,hB⟩:=hJF
      have y3:=hupF 3 (by kernel_rfl)
      obtain ⟨v3,s3⟩:=sE y3
      obtain ⟨gh6_5,rfl⟩:=j3 _ s3
      have y5:=hupF 5 (by kernel_rfl)
      obtain ⟨v5,s5⟩:=sE y5
      obtain ⟨gh6_6,rfl⟩:=j5 _ s5
      have e12:=hsF.val 5 12 rfl s5
      obtain ⟨e43,p43⟩:=hsF.at hupF 4 43 (by kernel_rfl) rfl j4
      have y4:=hupF 4 (by kernel_rfl)
      obtain ⟨v4,s4⟩:=sE y4
      have HZ6301:=Lib.hid (j4 _ s4).2
      have hB':=hB
      rw [s3,s5,hfF] at hB'
      refine step_store_whole rfl 23 (.tmp 12) (.tmp 43) rfl (gh6_6) (arr .u8 zn) _ 23 (hB'.get 6 rfl) e12 e43 (arr_len2 _ _ HL6301.out HLzn.out) (num_s HL6301.out) (all_arr _ _) ?_
      intro w1 hb1 hk1 hz1
      have hB1:Blk w w1 ([(w.heap.size,arr .u8 ks, 23),(w.heap.size+1,arr .u8 gs, 26),(g7,arr .u8 sg0, 23),(g8,arr .u64 z3, 133),(g10,arr .u64 z6, 133)] ++ (ent (fF 3) (#[.slice (some ⟨w.heap.size+1,0,none⟩) 32 64, .slice (some ⟨w.heap.size,0,none⟩) 32 32]) 24 ++ (ent (fF 5) ((if ((some undef:Option Value)).isSome=true then arr .u8 z6301 else arr .u8 zn)) 23))):=by rw [s3,s5];exact hB'.put 6 rfl hk1 hb1
      exact hKF undef w1 ⟨j0,j1,j2,j3,j4,j5,hB1⟩
     exact LinAll.nil
    case eh6 =>
    intro fF uh6 hall hJF
    obtain ⟨j0,j1,j2,j3,j4,j5,hB⟩:=hJF
    obtain ⟨v0,h0⟩:=sE (hall 0 (by decide))
    obtain ⟨rfl,p0⟩:=j0 _ h0
    obtain ⟨v1,h1⟩:=sE (hall 1 (by decide))
    obtain ⟨rfl,p1⟩:=j1 _ h1
    obtain ⟨v2,h2⟩:=sE (hall 2 (by decide))
    obtain ⟨rfl,p2⟩:=j2 _ h2
    obtain ⟨v3,h3⟩:=sE (hall 3 (by decide))
    obtain ⟨gh6_5,rfl⟩:=j3 _ h3
    obtain ⟨v4,h4⟩:=sE (hall 4 (by decide))
    obtain ⟨rfl,p4⟩:=j4 _ h4
    obtain ⟨v5,h5⟩:=sE (hall 5 (by decide))
    obtain ⟨gh6_6,rfl⟩:=j5 _ h5
    obtain ⟨v6,h6⟩:=sE (hall 6 (by decide))
    rw [h3,h5,h6] at hB
    have HBh6:Hid (Blk w uh6 [(w.heap.size,arr .u8 ks, 23),(w.heap.size+1,arr .u8 gs, 26),(g7,arr .u8 sg0, 23),(g8,arr .u64 z3, 133),(g10,arr .u64 z6, 133),(gh6_5, #[.slice (some ⟨w.heap.size+1,0,none⟩) 32 64, .slice (some ⟨w.heap.size,0,none⟩) 32 32], 24),(gh6_6,arr .u8 z6301, 23)]):=Lib.hid hB
    have HZ6301:=Lib.hid p4
    simp only [laid,Nat.zero_add,Nat.reduceAdd,h0,h1,h2,h3,h4,h5,h6,Act.put,sA,sZ,sS]
    clear j0 j1 j2 j3 j4 j5 hB h0 h1 h2 h3 h4 h5 h6 hall fF HI9
    clear p0 p1 p2 p4
    (try simp only [Exit.then])
    go_upto_region 7 with fail
    (try simp only [World.size_alloc,Act.put,sA,sZ,sS])
    obtain ⟨z6303,hz6303⟩:∃ z:List Int,z=ptl base:=⟨_,rfl⟩
    have HE6303:=Lib.hid hz6303
    have HL6303:Hid (z6303.length=16):=Lib.hid (by rw [hz6303];exact ptl_len _)
    clear hz6303
    obtain ⟨z6304,hz6304⟩:∃ z:List Int,z=ptl (emul base SN 256):=⟨_,rfl⟩
    have HE6304:=Lib.hid hz6304
    have HL6304:Hid (z6304.length=16):=Lib.hid (by rw [hz6304];exact ptl_len _)
    clear hz6304
    obtain ⟨z6305,hz6305⟩:∃ z:List Int,z=nar (dig 256 32 (ebytes (emul base SN 256))):=⟨_,rfl⟩
    have HE6305:=Lib.hid hz6305
    have HL6305:Hid (z6305.length=32):=Lib.hid (by rw [hz6305];exact (nar_len _).trans (dig_len _ _ _))
    clear hz6305
    obtain ⟨z6306,hz6306⟩:∃ z:List Int,z=ptl (emul pa KK 256):=⟨_,rfl⟩
    have HE6306:=Lib.hid hz6306
    have HL6306:Hid (z6306.length=16):=Lib.hid (by rw [hz6306];exact ptl_len _)
    clear hz6306
    obtain ⟨z6307,hz6307⟩:∃ z:List Int,z=ptl (eadd pr (emul pa KK 256)):=⟨_,rfl⟩
    have HE6307:=Lib.hid hz6307
    have HL6307:Hid (z6307.length=16):=Lib.hid (by rw [hz6307];exact ptl_len _)
    clear hz6307
    obtain ⟨z6308,hz6308⟩:∃ z:List Int,z=nar (dig 256 32 (ebytes (eadd pr (emul pa KK 256)))):=⟨_,rfl⟩
    have HE6308:=Lib.hid hz6308
    have HL6308:Hid (z6308.length=32):=Lib.hid (by rw [hz6308];exact (nar_len _).trans (dig_len _ _ _))
    clear hz6308
    refine wp_region_lin (fun (fF:Fill) (uF:World)=>(∀ v,fF 0=some v→v = .agg (arr .u64 z6303)∧P4 z6303 base)∧(∀ v,fF 1=some v→v = .agg (arr .u8 sg0)∧True)∧(∀ v,fF 2=some v→v = .agg (arr .u64 z6304)∧P4 z6304 (emul base SN 256))∧(∀ v,fF 3=some v→v = .agg (arr .u8 z6305)∧K32 z6305 (ebytes (emul base SN 256)))∧(∀ v,fF 4=some v→v = .agg (arr .u64 z3)∧True)∧(∀ v,fF 5=some v→v = .agg (arr .u64 z6)∧True)∧(∀ v,fF 6=some v→v = .agg (arr .u8 z6301)∧True)∧(∀ v,fF 7=some v→v = .agg (arr .u64 z6306)∧P4 z6306 (emul pa KK 256))∧(∀ v,fF 8=some v→v = .agg (arr .u64 z6307)∧P4 z6307 (eadd pr (emul pa KK 256)))∧(∀ v,fF 9=some v→v = .agg (arr .u8 z6308)∧K32 z6308 (ebytes (eadd pr (emul pa KK 256))))∧(∀ v,fF 10=some v→v = .bool ev∧True)∧(∀ v,fF 11=some v→v = .bool ev∧True)∧Blk w uF ([(w.heap.size,arr .u8 ks, 23),(w.heap.size+1,arr .u8 gs, 26),(g7,arr .u8 sg0, 23),(g8,arr .u64 z3, 133),(g10,arr .u64 z6, 133),(gh6_5, #[.slice (some ⟨w.heap.size+1,0,none⟩) 32 64, .slice (some ⟨w.heap.size,0,none⟩) 32 32], 24),(gh6_6,arr .u8 z6301, 23)])) (by kernel_rfl) (by kernel_rfl) ?zh7 ?sh7 ?eh7
    case zh7=>exact ⟨fun _ h=>(by cases h),fun _ h=>(by cases h),fun _ h=>(by cases h),fun _ h=>(by cases h),fun _ h=>(by cases h),fun _ h=>(by cases h),fun _ h=>(by cases h),fun _ h=>(by cases h),fun _ h=>(by cases h),fun _ h=>(by cases h),fun _ h=>(by cases h),fun _ h=>(by cases h),HBh6.out.drew⟩
    case sh7 =>
     refine LinAll.cons (fun fF bF uF kF hJF hfF hcF hupF hsF hKF=>?_) ?_
     ·obtain ⟨j0,j1,j2,j3,j4,j5,j6,j7,j8,j9,j10,j11,hB⟩:=hJF
      refine lin_call rfl 84 [] _ [] rfl (by simp only [List.map_cons,List.map_nil] <;> rfl) (fun _ _=>by kernel_rfl) ?_
      refine Calls.mono (base_any _) ?_
      rintro e w1 ⟨y6309_0,rfl,r6309_0,hb⟩
      obtain rfl:y6309_0=z6303:=r6309_0.1.trans HE6303.out.symm
      exact ⟨_,rfl,hKF _ _ ⟨fun _ h=>⟨sI h,r6309_0⟩,j1,j2,j3,j4,j5,j6,j7,j8,j9,j10,j11,hB.kept hb⟩⟩
     refine LinAll.cons (fun fF bF uF kF hJF hfF hcF hupF hsF hKF=>?_) ?_
     ·obtain ⟨j0,j1,j2,j3,j4,j5,j6,j7,j8,j9,j10,j11,hB⟩:=hJF
      have e7:bF.eval (.tmp 7) = .pointer (some ⟨g7,0,none⟩):=hsF.old' 7 (by kernel_rfl) rfl
      have hB':=hB
      refine step_load_part rfl 23 _ rfl (g7) (0) (arr .u8 sg0) 23 (0,0) _ (hB'.get 2 rfl) e7 .u8 sg0 (arr_part _ _) Tryd.underlying23 rfl (num_i HS0L.out) ?_
      exact hKF _ _ ⟨j0,fun _ h=>⟨sI h,trivial⟩,j2,j3,j4,j5,j6,j7,j8,j9,j10,j11,hB⟩
     refine LinAll.cons (fun fF bF uF kF hJF hfF hcF hupF hsF hKF=>?_) ?_
     ·obtain ⟨j0,j1,j2,j3,j4,j5,j6,j7,j8,j9,j10,j11,hB⟩:=hJF
      obtain ⟨e44,p44⟩:=hsF.at hupF 0 44 (by kernel_rfl) rfl j0
      obtain ⟨e45,p45⟩:=hsF.at hupF 1 45 (by kernel_rfl) rfl j1
      have y0:=hupF 0 (by kernel_rfl)
      obtain ⟨v0,s0⟩:=sE y0
      have HZ6303:=Lib.hid (j0 _ s0).2
      refine lin_call rfl 85 [Operand.tmp 44,Operand.tmp 45] _ [.agg (arr .u64 z6303), .agg (arr .u8 sg0)] rfl (by simp only [List.map_cons,List.map_nil,e44,e45] <;> rfl) (fun _ _=>by kernel_rfl) ?_
      refine Calls.mono (ptimes_any _ _ _ HZ6303.out HS0.out) ?_
      rintro e w1 ⟨y6310_0,rfl,r6310_0,hb⟩
      obtain rfl:y6310_0=z6304:=r6310_0.1.trans HE6304.out.symm
      exact ⟨_,rfl,hKF _ _ ⟨j0,j1,fun _ h=>⟨sI h,r6310_0⟩,j3,j4,j5,j6,j7,j8,j9,j10,j11,hB.kept hb⟩⟩
     refine LinAll.cons (fun fF bF uF kF hJF hfF hcF hupF hsF hKF=>?_) ?_
     ·obtain ⟨j0,j1,j2,j3,j4,j5,j6,j7,j8,j9,j10,j11,hB⟩:=hJF
      obtain ⟨e46,p46⟩:=hsF.at hupF 2 46 (by kernel_rfl) rfl j2
      have y2:=hupF 2 (by kernel_rfl)
      obtain ⟨v2,s2⟩:=sE y2
      have HZ6304:=Lib.hid (j2 _ s2).2
      refine lin_call rfl 86 [Operand.tmp 46] _ [.agg (arr .u64 z6304)] rfl (by simp only [List.map_cons,List.map_nil,e46] <;> rfl) (fun _ _=>by kernel_rfl) ?_
      refine Calls.mono (pbytes_any _ _ HZ6304.out) ?_
      rintro e w1 ⟨y6311_0,rfl,r6311_0,hb⟩
      obtain rfl:y6311_0=z6305:=r6311_0.1.trans HE6305.out.symm
      exact ⟨_,rfl,hKF _ _ ⟨j0,j1,j2,fun _ h=>⟨sI h,r6311_0⟩,j4,j5,j6,j7,j8,j9,j10,j11,hB.kept hb⟩⟩
     refine LinAll.cons (fun fF bF uF kF hJF hfF hcF hupF hsF hKF=>?_) ?_
     ·obtain ⟨j0,j1,j2,j3,j4,j5,j6,j7,j8,j9,j10,j11,hB⟩:=hJF
      have e8:bF.eval (.tmp 8) = .pointer (some ⟨g8,0,none⟩):=hsF.old' 8 (by kernel_rfl) rfl
      have hB':=hB
      refine step_load_part rfl 133 _ rfl (g8) (0) (arr .u64 z3) 133 (0,0) _ (hB'.get 3 rfl) e8 .u64 z3 (arr_part _ _) Tryd.underlying133 rfl (cpt_i HL3.out) ?_
      exact hKF _ _ ⟨j0,j1,j2,j3,fun _ h=>⟨sI h,trivial⟩,j5,j6,j7,j8,j9,j10,j11,hB⟩
     refine LinAll.cons (fun fF bF uF kF hJF hfF hcF hupF hsF hKF=>?_) ?_
     ·obtain ⟨j0,j1,j2,j3,j4,j5,j6,j7,j8,j9,j10,j11,hB⟩:=hJF
      have e10:bF.eval (.tmp 10) = .pointer (some ⟨g10,0,none⟩):=hsF.old' 10 (by kernel_rfl) rfl
      have hB':=hB
      refine step_load_part rfl 133 _ rfl (g10) (0) (arr .u64 z6) 133 (0,0) _ (hB'.get 4 rfl) e10 .u64 z6 (arr_part _ _) Tryd.underlying133 rfl (cpt_i HL6.out) ?_
      exact hKF _ _ ⟨j0,j1,j2,j3,j4,fun _ h=>⟨sI h,trivial⟩,j6,j7,j8,j9,j10,j11,hB⟩
     refine LinAll.cons (fun fF bF uF kF hJF hfF hcF hupF hsF hKF=>?_) ?_
     ·obtain ⟨j0,j1,j2,j3,j4,j5,j6,j7,j8,j9,j10,j11,hB⟩:=hJF
      have e12:bF.eval (.tmp 12) = .pointer (some ⟨gh6_6,0,none⟩):=hsF.old' 12 (by kernel_rfl) rfl
      have hB':=hB
      refine step_load_part rfl 23 _ rfl (gh6_6) (0) (arr .u8 z6301) 23 (0,0) _ (hB'.get 6 rfl) e12 .u8 z6301 (arr_part _ _) Tryd.underlying23 rfl (num_i HL6301.out) ?_
      exact hKF _ _ ⟨j0,j1,j2,j3,j4,j5,fun _ h=>⟨sI h,trivial⟩,j7,j8,j9,j10,j11,hB⟩
     refine LinAll.cons (fun fF bF uF kF hJF hfF hcF hupF hsF hKF=>?_) ?_
     ·obtain ⟨j0,j1,j2,j3,j4,j5,j6,j7,j8,j9,j10,j11,hB⟩:=hJF
      obtain ⟨e49,p49⟩:=hsF.at hupF 5 49 (by kernel_rfl) rfl j5
      obtain ⟨e50,p50⟩:=hsF.at hupF 6 50 (by kernel_rfl) rfl j6
      refine lin_call rfl 85 [Operand.tmp 49,Operand.tmp 50] _ [.agg (arr .u64 z6), .agg (arr .u8 z6301)] rfl (by simp only [List.map_cons,List.map_nil,e49,e50] <;> rfl) (fun _ _=>by kernel_rfl) ?_
      refine Calls.mono (ptimes_any _ _ _ HPA.out HZ6301.out) ?_
      rintro e w1 ⟨y6312_0,rfl,r6312_0,hb⟩
      obtain rfl:y6312_0=z6306:=r6312_0.1.trans HE6306.out.symm
      exact ⟨_,rfl,hKF _ _ ⟨j0,j1,j2,j3,j4,j5,j6,fun _ h=>⟨sI h,r6312_0⟩,j8,j9,j10,j11,hB.kept hb⟩⟩
     refine LinAll.cons (fun fF bF uF kF hJF hfF hcF hupF hsF hKF=>?_) ?_
     ·obtain ⟨j0,j1,j2,j3,j4,j5,j6,j7,j8,j9,j10,j11,hB⟩:=hJF
      obtain ⟨e48,p48⟩:=hsF.at hupF 4 48 (by kernel_rfl) rfl j4
      obtain ⟨e51,p51⟩:=hsF.at hupF 7 51 (by kernel_rfl) rfl j7
      have y7:=hupF 7 (by kernel_rfl)
      obtain ⟨v7,s7⟩:=sE y7
      have HZ6306:=Lib.hid (j7 _ s7).2
      refine lin_call rfl 93 [Operand.tmp 48,Operand.tmp 51] _ [.agg (arr .u64 z3), .agg (arr .u64 z6306)] rfl (by simp only [List.map_cons,List.map_nil,e48,e51] <;> rfl) (fun _ _=>by kernel_rfl) ?_
      refine Calls.mono (padd_any _ _ _ HPR.out HZ6306.out) ?_
      rintro e w1 ⟨y6313_0,rfl,r6313_0,hb⟩
      obtain rfl:y6313_0=z6307:=r6313_0.1.trans HE6307.out.symm
      exact ⟨_,rfl,hKF _ _ ⟨j0,j1,j2,j3,j4,j5,j6,j7,fun _ h=>⟨sI h,r6313_0⟩,j9,j10,j11,hB.kept hb⟩⟩
     refine LinAll.cons (fun fF bF uF kF hJF hfF hcF hupF hsF hKF=>?_) ?_
     ·obtain ⟨j0,j1,j2,j3,j4,j5,j6,j7,j8,j9,j10,j11,hB⟩:=hJF
      obtain ⟨e52,p52⟩:=hsF.at hupF 8 52 (by kernel_rfl) rfl j8
      have y8:=hupF 8 (by kernel_rfl)
      obtain ⟨v8,s8⟩:=sE y8
      have HZ6307:=Lib.hid (j8 _ s8).2
      refine lin_call rfl 86 [Operand.tmp 52] _ [.agg (arr .u64 z6307)] rfl (by simp only [List.map_cons,List.map_nil,e52] <;> rfl) (fun _ _=>by kernel_rfl) ?_
      refine Calls.mono (pbytes_any _ _ HZ6307.out) ?_
      rintro e w1 ⟨y6314_0,rfl,r6314_0,hb⟩
      obtain rfl:y6314_0=z6308:=r6314_0.1.trans HE6308.out.symm
      exact ⟨_,rfl,hKF _ _ ⟨j0,j1,j2,j3,j4,j5,j6,j7,j8,fun _ h=>⟨sI h,r6314_0⟩,j10,j11,hB.kept hb⟩⟩
     refine LinAll.cons (fun fF bF uF kF hJF hfF hcF hupF hsF hKF=>?_) ?_
     ·obtain ⟨j0,j1,j2,j3,j4,j5,j6,j7,j8,j9,j10,j11,hB⟩:=hJF
      obtain ⟨e47,p47⟩:=hsF.at hupF 3 47 (by kernel_rfl) rfl j3
      obtain ⟨e53,p53⟩:=hsF.at hupF 9 53 (by kernel_rfl) rfl j9
      have y3:=hupF 3 (by kernel_rfl)
      obtain ⟨v3,s3⟩:=sE y3
      have HZ6305:=Lib.hid (j3 _ s3).2
      have y9:=hupF 9 (by kernel_rfl)
      obtain ⟨v9,s9⟩:=sE y9
      have HZ6308:=Lib.hid (j9 _ s9).2
      have hq:(z6305 == z6308)=ev:=by rw [HZ6305.out.inj HZ6308.out,HEB.out]
      exact lin_pure rfl (.bool ev) (exec_eql_arr 23 _ _ (.tmp 47) (.tmp 53) rfl 32 .u8 .u8 Tryd.underlying23 Tryd.underlying5 (fun w=>by kernel_rfl) (by kernel_rfl) z6305 z6308 e47 e53 HL6305.out HL6308.out _ hq) (hKF _ _ ⟨j0,j1,j2,j3,j4,j5,j6,j7,j8,j9,fun _ h=>⟨sI h,trivial⟩,j11,hB⟩)
     refine LinAll.cons (fun fF bF uF kF hJF hfF hcF hupF hsF hKF=>?_) ?_
     ·obtain ⟨j0,j1,j2,j3,j4,j5,j6,j7,j8,j9,j10,j11,hB⟩:=hJF
      obtain ⟨e54,p54⟩:=hsF.at hupF 10 54 (by kernel_rfl) rfl j10
      exact lin_pure rfl (.bool ev) (by simp only [execOp,e54] <;> first|rfl|kernel_rfl|(go_simp;done)) (hKF _ _ ⟨j0,j1,j2,j3,j4,j5,j6,j7,j8,j9,j10,fun _ h=>⟨sI h,trivial⟩,hB⟩)
     exact LinAll.nil
    case eh7 =>
    intro fF uh7 hall hJF
    obtain ⟨j0,j1,j2,j3,j4,j5,j6,j7,j8,j9,j10,j11,hB⟩:=hJF
    obtain ⟨v0,h0⟩:=sE (hall 0 (by decide))
    obtain ⟨rfl,p0⟩:=j0 _ h0
    obtain ⟨v1,h1⟩:=sE (hall 1 (by decide))
    obtain ⟨rfl,p1⟩:=j1 _ h1
    obtain ⟨v2,h2⟩:=sE (hall 2 (by decide))
    obtain ⟨rfl,p2⟩:=j2 _ h2
    obtain ⟨v3,h3⟩:=sE (hall 3 (by decide))
    obtain ⟨rfl,p3⟩:=j3 _ h3
    obtain ⟨v4,h4⟩:=sE (hall 4 (by decide))
    obtain ⟨rfl,p4⟩:=j4 _ h4
    obtain ⟨v5,h5⟩:=sE (hall 5 (by decide))
    obtain ⟨rfl,p5⟩:=j5 _ h5
    obtain ⟨v6,h6⟩:=sE (hall 6 (by decide))
    obtain ⟨rfl,p6⟩:=j6 _ h6
    obtain ⟨v7,h7⟩:=sE (hall 7 (by decide))
    obtain ⟨rfl,p7⟩:=j7 _ h7
    obtain ⟨v8,h8⟩:=sE (hall 8 (by decide))
    obtain ⟨rfl,p8⟩:=j8 _ h8
    obtain ⟨v9,h9⟩:=sE (hall 9 (by decide))
    obtain ⟨rfl,p9⟩:=j9 _ h9
    obtain ⟨v10,h10⟩:=sE (hall 10 (by decide))
    obtain ⟨rfl,p10⟩:=j10 _ h10
    obtain ⟨v11,h11⟩:=sE (hall 11 (by decide))
    obtain ⟨rfl,p11⟩:=j11 _ h11
    have HBh7:Hid (Blk w uh7 [(w.heap.size,arr .u8 ks, 23),(w.heap.size+1,arr .u8 gs, 26),(g7,arr .u8 sg0, 23),(g8,arr .u64 z3, 133),(g10,arr .u64 z6, 133),(gh6_5, #[.slice (some ⟨w.heap.size+1,0,none⟩) 32 64, .slice (some ⟨w.heap.size,0,none⟩) 32 32], 24),(gh6_6,arr .u8 z6301, 23)]):=Lib.hid hB
    have HZ6303:=Lib.hid p0
    have HZ6304:=Lib.hid p2
    have HZ6305:=Lib.hid p3
    have HZ6306:=Lib.hid p7
    have HZ6307:=Lib.hid p8
    have HZ6308:=Lib.hid p9
    simp only [laid,Nat.zero_add,Nat.reduceAdd,h0,h1,h2,h3,h4,h5,h6,h7,h8,h9,h10,h11,Act.put,sA,sZ,sS]
    clear j0 j1 j2 j3 j4 j5 j6 j7 j8 j9 j10 j11 hB h0 h1 h2 h3 h4 h5 h6 h7 h8 h9 h10 h11 hall fF HBh6
    clear p0 p1 p2 p3 p4 p5 p6 p7 p8 p9 p10 p11
    (try simp only [Exit.then])
    go_wp2_with fail
    (try simp only [Exit.then])
    go_ret
    exact ⟨rfl,HBh7.out.below⟩
end Go.Proofs.YtodnkallpfkdiaaDoor.Sl
namespace Go.Proofs.YtodnkallpfkdiaaDoor.Sl
open Go.RowKit Lm Fp Cu Rd Sc
theorem esign_len (s:Nat) (b:List Int):(esign s b).length=64:=by rw [esign,List.length_append,n32_len,n32_len]
theorem esign_bytes (s:Nat) (b:List Int):bytes (esign s b):=bytes_app (n32_bytes _) (n32_bytes _)
theorem esignR_lt (s:Nat) (b:List Int):esignR s b < 256 ^ 32:=ebytes_lt _
theorem esignS_lt (s:Nat) (b:List Int):esignS s b < 256 ^ 32:=Nat.lt_trans (Nat.mod_lt _ q_pos) q_lt32
theorem esign_R (s:Nat) (b:List Int):hnum ((esign s b).take 32)=esignR s b:=by
 rw [esign,List.take_append_of_le_length (by rw [n32_len];decide),List.take_of_length_le (by rw [n32_len];decide),hnum_n32 (esignR_lt s b)]
theorem esign_S (s:Nat) (b:List Int):hnum ((esign s b).drop 32)=esignS s b:=by
 rw [esign,List.drop_append_of_le_length (by rw [n32_len];decide),List.drop_of_length_le (by rw [n32_len];decide),List.nil_append,hnum_n32 (esignS_lt s b)]
theorem alive13a:everify (epub 0) (esignR 0 [120]) (esignS 0 [120]) [120]=true∧everify (epub 0) 0 0 [121]=false∧(eread (epub 0)).isSome=true:=by
 have h:=alive13
 simp only [Bool.and_eq_true,Bool.not_eq_true'] at h
 exact ⟨h.1.1,h.1.2,h.2⟩
theorem epub_lt (s:Nat):epub s < 256 ^ 32:=ebytes_lt _
theorem build_sig0 (w:World):(Instr.build 26 #[]).run Tryd.prog w = .ok (.agg (arr .u8 (List.replicate 64 0))) w:=by kernel_rfl
theorem conv_bytes (w:World) (x:Int):(convert 24 24 (.slice (some ⟨w.heap.size,0,none⟩) 1 1)).run Tryd.prog (w.alloc (.cells #[.int .u8 x] 5)) = .ok (.slice (some ⟨w.heap.size,0,none⟩) 1 1) (w.alloc (.cells #[.int .u8 x] 5 (1,2))) :=
 Lib.run_convert_bytes_const w 24 5 #[.int .u8 x] 1 1 Tryd.underlying24 Tryd.underlying5
theorem wpList_conv {P:Program} {ops:Array Oper} {rest:List Oper} {o:Oper} {a:Act} {w w':World} {Q:Exit→Act→World→Prop} (hg:o.guard=none) (t u:TypeId) (x:Operand) (ho:o.op = .convert t u x) (v v':Value) (hx:a.eval x=v) (hrun:(convert t u v).run P w = .ok v' w')
  (h:wpList P ops Q rest (a.put o.dst v') w'):wpList P ops Q (o :: rest) a w:=by
 refine wpList_plain hg fun _ hK=>?_
 unfold Oper.wp execOp
 simp only [ho,hx,Sem.run_bind,hrun,Result.andThen_ok]
 exact hK _ _ h
theorem srcL_byte (w:World) (x:Int):SrcL ((w.alloc (.cells #[.int .u8 x] 5 (1,2))).alloc (.cells #[.slice (some ⟨w.heap.size,0,none⟩) 1 1] 24)) (some ⟨w.heap.size+1,0,none⟩) 1 [[x]]:=by
 have h:=csrcL_one (w:=w.alloc (.cells #[.int .u8 x] 5 (1,2))) (src_row (xs:=[x]) (m:=1) (blk_new w _) rfl rfl) (Nat.le_refl 1)
 rwa [size1] at h
end Go.Proofs.YtodnkallpfkdiaaDoor.Sl
