/- What a point's bytes come to, in plain words. Condition: as each theorem says. -/
import Derived.Test.YtodnkallpfkdiaaDoorFa
import Derived.Test.YtodnkallpfkdiaaDoorSy
set_option maxRecDepth 100000
set_option maxHeartbeats 16000000
set_option linter.unusedSimpArgs false
set_option linter.unusedVariables false
namespace Go.Proofs.YtodnkallpfkdiaaDoor.Rd
open Go.RowKit Lm Fp Cu
def rsqrt (a:Nat):Nat×Bool:=if fmul (fpow a eighth 256) (fpow a eighth 256)=a then (fpow a eighth 256,true) else (fmul (fpow a eighth 256) im,decide (fmul (fmul (fpow a eighth 256) im) (fmul (fpow a eighth 256) im)=a))
theorem rsqrt_lt (a:Nat):(rsqrt a).1 < p:=by
 unfold rsqrt
 split
 ·exact fpow_lt _ _ _
 ·exact fmul_lt _ _
theorem fsub0 (r:Nat) (h:r < p):fsub 0 r=if r=0 then 0 else p - r:=by
 unfold fsub
 rw [Nat.zero_add]
 split
 ·rename_i e;subst e;rw [Nat.sub_zero,Nat.mod_self]
 ·rw [Nat.mod_eq_of_lt (by omega)]
theorem fsqrt_r (a:Nat):fsqrt a=if (rsqrt a).2=true then (if (rsqrt a).1 % 2=1 then fsub 0 (rsqrt a).1 else (rsqrt a).1,true) else (0,false):=by
 unfold fsqrt rsqrt
 simp only
 by_cases h:fmul (fpow a eighth 256) (fpow a eighth 256)=a
 ·rw [if_pos h,if_pos h]
  simp only [h,if_true]
 ·rw [if_neg h,if_neg h]
  simp only [decide_eq_true_eq]
theorem p_odd:p % 2=1:=by decide +kernel
/-- The number under the root. -/
def under (y:Nat):Nat:=fmul (fsub (fmul y y) 1) (finv (fadd (fmul dd (fmul y y)) 1))
theorem eread_none_big (v:Nat) (h:¬ v % 2 ^ 255 < p):eread v=none:=by
 unfold eread
 simp only
 rw [if_neg h]
theorem eread_none_root (v:Nat) (h:(rsqrt (under (v % 2 ^ 255))).2=false):eread v=none:=by
 unfold eread
 simp only
 split
 ·rw [if_neg]
  rintro ⟨h1, -⟩
  have e:=fsqrt_r (under (v % 2 ^ 255))
  rw [h,if_neg (by decide)] at e
  rw [show fsqrt (fmul (fsub (fmul (v % 2 ^ 255) (v % 2 ^ 255)) 1) (finv (fadd (fmul dd (fmul (v % 2 ^ 255) (v % 2 ^ 255))) 1)))=fsqrt (under (v % 2 ^ 255)) from rfl,e] at h1
  cases h1
 ·rfl
theorem eread_none_zero (v:Nat) (hb:v / 2 ^ 255=1) (h0:(rsqrt (under (v % 2 ^ 255))).1=0):eread v=none:=by
 unfold eread
 simp only
 split
 ·rw [if_neg]
  rintro ⟨h1,h2⟩
  rw [show fsqrt (fmul (fsub (fmul (v % 2 ^ 255) (v % 2 ^ 255)) 1) (finv (fadd (fmul dd (fmul (v % 2 ^ 255) (v % 2 ^ 255))) 1)))=fsqrt (under (v % 2 ^ 255)) from rfl,fsqrt_r,h0] at h1 h2
  refine h2 hb ?_
  split at h1
  ·rename_i h3;rw [if_pos h3];rfl
  ·cases h1
 ·rfl
theorem eread_some (v r:Nat) (hv:v < 2 ^ 256) (hy:v % 2 ^ 255 < p) (hr:(rsqrt (under (v % 2 ^ 255))).1=r) (hk:(rsqrt (under (v % 2 ^ 255))).2=true) (hz:¬ (r=0∧v / 2 ^ 255=1)) :
  eread v=some ⟨if r % 2≠v / 2 ^ 255 then fsub 0 r else r,v % 2 ^ 255,1,fmul (if r % 2≠v / 2 ^ 255 then fsub 0 r else r) (v % 2 ^ 255)⟩:=by
 have hrl:=rsqrt_lt (under (v % 2 ^ 255))
 rw [hr] at hrl
 have hod:=p_odd
 have f0:=fsub0 r hrl
 have hb2:v / 2 ^ 255=0∨v / 2 ^ 255=1:=by
  have:v / 2 ^ 255 < 2:=Nat.div_lt_of_lt_mul (by rw [← Nat.pow_succ];exact hv)
  omega
 have e:=fsqrt_r (under (v % 2 ^ 255))
 rw [hk,if_pos rfl,hr] at e
 unfold eread
 simp only
 rw [if_pos hy,show fsqrt (fmul (fsub (fmul (v % 2 ^ 255) (v % 2 ^ 255)) 1) (finv (fadd (fmul dd (fmul (v % 2 ^ 255) (v % 2 ^ 255))) 1)))=fsqrt (under (v % 2 ^ 255)) from rfl,e]
 simp only [true_and]
 have key:(if v / 2 ^ 255=1 then fsub 0 (if r % 2=1 then fsub 0 r else r) else if r % 2=1 then fsub 0 r else r)=if r % 2≠v / 2 ^ 255 then fsub 0 r else r:=by
  rcases hb2 with hb|hb
  ·rw [hb,if_neg (by decide)]
   by_cases h1:r % 2=1
   ·rw [if_pos h1,if_pos (by omega)]
   ·rw [if_neg h1,if_neg (by omega)]
  ·rw [hb,if_pos rfl]
   by_cases h1:r % 2=1
   ·rw [if_pos h1,if_neg (by omega),f0,if_neg (by omega),fsub0 _ (by omega),if_neg (by omega)]
    omega
   ·rw [if_neg h1,if_pos (by omega)]
 rw [if_pos,key]
 intro hb
 split
 ·rename_i h1
  rw [f0,if_neg (by omega)]
  omega
 ·intro h0
  exact hz ⟨h0,hb⟩
/-! ### The bytes -/
theorem enc_set (Y b:Nat) (hY:Y < 2 ^ 255) (hb:b≤1):(dig 256 32 Y).set 31 (Y / 256 ^ 31+128 * b)=dig 256 32 (Y+2 ^ 255 * b):=by
 have hlt:Y / 256 ^ 31 < 128:=Nat.div_lt_of_lt_mul (Nat.lt_of_lt_of_le hY (by decide))
 refine dig_eq 256 (by decide) 32 _ _ (by rw [List.length_set,dig_len]) (lt_set (dig_lt 256 (by decide) _ _) _ _ (by omega)) ?_
 have h:=val_set 256 (dig 256 32 Y) 31 (Y / 256 ^ 31+128 * b) (by rw [dig_len];decide)
 rw [dig_get _ _ _ _ (by decide),val_dig,Nat.mod_eq_of_lt (show Y / 256 ^ 31 < 256 by omega),Nat.mod_eq_of_lt (Nat.lt_of_lt_of_le hY (by decide)),Nat.mul_add] at h
 have e:256 ^ 31 * (128 * b)=2 ^ 255 * b:=by rw [← Nat.mul_assoc]
 rw [e] at h
 omega
theorem top_byte (Y:Nat) (hY:Y < 2 ^ 255):(dig 256 32 Y).getD 31 0=Y / 256 ^ 31∧Y / 256 ^ 31 < 128:=by
 have hlt:Y / 256 ^ 31 < 128:=Nat.div_lt_of_lt_mul (Nat.lt_of_lt_of_le hY (by decide))
 rw [dig_get _ _ _ _ (by decide),Nat.mod_eq_of_lt (by omega)]
 exact ⟨rfl,hlt⟩
theorem low_byte (X:Nat):(dig 256 32 X).getD 0 0=X % 256:=by rw [dig_get _ _ _ _ (by decide)];simp
/-- A number's highest bit is put away. -/
theorem dec_set (v:Nat) (hv:v < 2 ^ 256):(dig 256 32 v).set 31 (v / 256 ^ 31 % 128)=dig 256 32 (v % 2 ^ 255):=by
 have hlt:v / 256 ^ 31 < 256:=Nat.div_lt_of_lt_mul (Nat.lt_of_lt_of_le hv (by decide))
 have hm:v % 2 ^ 255 < 2 ^ 255:=Nat.mod_lt _ (by decide)
 have hb2:v / 2 ^ 255≤1:=by
  have:v / 2 ^ 255 < 2:=Nat.div_lt_of_lt_mul (by rw [← Nat.pow_succ];exact hv)
  omega
 have hd:=Nat.mod_add_div v (2 ^ 255)
 refine dig_eq 256 (by decide) 32 _ _ (by rw [List.length_set,dig_len]) (lt_set (dig_lt 256 (by decide) _ _) _ _ (by omega)) ?_
 have h:=val_set 256 (dig 256 32 v) 31 (v / 256 ^ 31 % 128) (by rw [dig_len];decide)
 rw [dig_get _ _ _ _ (by decide),val_dig,Nat.mod_eq_of_lt hlt,Nat.mod_eq_of_lt (Nat.lt_of_lt_of_le hv (by decide))] at h
 have e1:v / 256 ^ 31=v / 256 ^ 31 % 128+128 * (v / 2 ^ 255):=by
  have:v / 2 ^ 255=v / 256 ^ 31 / 128:=by rw [Nat.div_div_eq_div_mul]
  rw [this,Nat.mod_add_div]
 have e2:256 ^ 31 * (v / 256 ^ 31)=256 ^ 31 * (v / 256 ^ 31 % 128)+2 ^ 255 * (v / 2 ^ 255):=by
  rw [show (2:Nat) ^ 255 * (v / 2 ^ 255)=256 ^ 31 * (128 * (v / 2 ^ 255)) by rw [← Nat.mul_assoc],← Nat.mul_add,← e1]
 omega
theorem top_bit (v:Nat):v / 256 ^ 31 / 128=v / 2 ^ 255:=by rw [Nat.div_div_eq_div_mul]
theorem top_byte256 (v:Nat) (hv:v < 2 ^ 256):(dig 256 32 v).getD 31 0=v / 256 ^ 31∧v / 256 ^ 31 < 256:=by
 have hlt:v / 256 ^ 31 < 256:=Nat.div_lt_of_lt_mul (Nat.lt_of_lt_of_le hv (by decide))
 rw [dig_get _ _ _ _ (by decide),Nat.mod_eq_of_lt hlt]
 exact ⟨rfl,hlt⟩
end Go.Proofs.YtodnkallpfkdiaaDoor.Rd
namespace Go.Proofs.YtodnkallpfkdiaaDoor.Rd
open Go.RowKit Lm Fp Cu
theorem and248:∀ x:Nat,x < 256→bits .and .u8 (x:Int) 248=((x / 8 * 8:Nat):Int):=by decide +kernel
theorem or64:∀ x:Nat,x < 256→bits .or .u8 (bits .and .u8 (x:Int) 127) 64=((x % 64+64:Nat):Int):=by decide +kernel
theorem clamp_set (v:Nat) (hv:v < 2 ^ 256):((dig 256 32 v).set 0 (v % 256 / 8 * 8)).set 31 (v / 256 ^ 31 % 64+64)=dig 256 32 (clamp v):=by
 have hlt:v / 256 ^ 31 < 256:=Nat.div_lt_of_lt_mul (Nat.lt_of_lt_of_le hv (by decide))
 have hcl:clamp v < 256 ^ 32:=by
  unfold clamp
  have:=Nat.mod_lt (v / 8 * 8) (show 0 < 2 ^ 254 by decide)
  exact Nat.lt_of_lt_of_le (Nat.add_lt_add_right this _) (by decide)
 have l0:v % 256 / 8 * 8 < 256:=by omega
 have l1:∀ x∈(dig 256 32 v).set 0 (v % 256 / 8 * 8),x < 256:=lt_set (dig_lt 256 (by decide) _ _) _ _ l0
 refine dig_eq 256 (by decide) 32 _ _ (by rw [List.length_set,List.length_set,dig_len]) (lt_set l1 _ _ (by omega)) ?_
 have h0:=val_set 256 (dig 256 32 v) 0 (v % 256 / 8 * 8) (by rw [dig_len];decide)
 have h1:=val_set 256 ((dig 256 32 v).set 0 (v % 256 / 8 * 8)) 31 (v / 256 ^ 31 % 64+64) (by rw [List.length_set,dig_len];decide)
 have g31:((dig 256 32 v).set 0 (v % 256 / 8 * 8)).getD 31 0=v / 256 ^ 31:=by
  simp only [List.getD]
  rw [List.getElem?_set_ne (by decide)]
  have:=dig_get 256 32 v 31 (by decide)
  rw [Nat.mod_eq_of_lt hlt] at this
  simpa [List.getD] using this
 have g0:(dig 256 32 v).getD 0 0=v % 256:=by rw [dig_get _ _ _ _ (by decide)];simp
 have hv32:v % 256 ^ 32=v:=Nat.mod_eq_of_lt (Nat.lt_of_lt_of_le hv (by decide))
 rw [g0,val_dig,hv32,Nat.pow_zero,Nat.one_mul,Nat.one_mul] at h0
 rw [g31] at h1
 have e1:clamp v=v / 8 * 8 % 2 ^ 254+2 ^ 254:=rfl
 have e3:v / 8 * 8 / 2 ^ 254=v / 256 ^ 31 / 64:=by
  rw [show (2:Nat) ^ 254=8 * 2 ^ 251 by decide,← Nat.div_div_eq_div_mul,Nat.mul_div_cancel _ (by decide),Nat.div_div_eq_div_mul,Nat.div_div_eq_div_mul]
 have e2:=Nat.mod_add_div (v / 8 * 8) (2 ^ 254)
 have e4:=Nat.mod_add_div (v / 256 ^ 31) 64
 rw [e3] at e2
 clear g31 g0
 generalize v / 256 ^ 31=t at *
 rw [e1]
 have k1:(256:Nat) ^ 31=452312848583266388373324160190187140051835877600158453279131187530910662656:=by decide
 have k2:(2:Nat) ^ 254=28948022309329048855892746252171976963317496166410141009864396001978282409984:=by decide
 rw [k1] at h1
 rw [k2] at e2 ⊢
 have e5:v % 256 / 8 * 8+(v - v % 256)=v / 8 * 8:=by omega
 have e6:v % 256≤v:=Nat.mod_le _ _
 omega
end Go.Proofs.YtodnkallpfkdiaaDoor.Rd
namespace Go.Proofs.YtodnkallpfkdiaaDoor.Sl
open Go.RowKit Lm Fp Cu Rd
theorem clamp_run (v:Nat) (w:World) (hv:v < 2 ^ 256) :
  Calls Tryd.prog 126 #[.agg (arr .u8 (nar (dig 256 32 v)))] w fun e w'=>e = .returned (.agg (arr .u8 (nar (dig 256 32 (clamp v)))))∧Below w.heap.size w w':=by
 have hcs:=clamp_set v hv
 obtain ⟨t1,t2⟩:=top_byte256 v hv
 have l1:=low_byte v
 have g0:(nar (dig 256 32 v)).getD 0 0=((v % 256:Nat):Int):=by rw [nar_get,l1]
 have g31:(nar (dig 256 32 v)).getD 31 0=((v / 256 ^ 31:Nat):Int):=by rw [nar_get,t1]
 have a0:=and248 (v % 256) (Nat.mod_lt _ (by decide))
 have a1:=or64 (v / 256 ^ 31) t2
 have hfin:((nar (dig 256 32 v)).set 0 ((v % 256 / 8 * 8:Nat):Int)).set 31 ((v / 256 ^ 31 % 64+64:Nat):Int)=nar (dig 256 32 (clamp v)):=by rw [← nar_set,← nar_set,hcs]
 obtain ⟨ns,hns⟩:∃ x,x=nar (dig 256 32 v):=⟨_,rfl⟩
 obtain ⟨rs,hrs⟩:∃ x,x=nar (dig 256 32 (clamp v)):=⟨_,rfl⟩
 have HNL:Hid (ns.length=32):=Lib.hid (by rw [hns,nar_len,dig_len])
 have HRL:Hid (rs.length=32):=Lib.hid (by rw [hrs,nar_len,dig_len])
 rw [← hns] at g0 g31 hfin ⊢
 rw [← hrs] at hfin
 generalize v / 256 ^ 31=t at g31 a1 hfin t2
 generalize hx:v % 256=x at g0 a0 hfin
 have hx2:x < 256:=by omega
 obtain ⟨zn,hzn⟩:∃ zs:List Int,zs=List.replicate 32 0:=⟨_,rfl⟩
 have HZzn:Hid (∀ w,(zeroValue 23).run Tryd.prog w = .ok (.agg (arr .u8 zn)) w):=Lib.hid (by intro w;rw [hzn];exact zero_num w)
 have HLzn:Hid (zn.length=32):=Lib.hid (by rw [hzn];rfl)
 have HS0:=Lib.hid (Blk.two w (arr .u8 ns) (arr .u8 zn) 23 23)
 have e2:((arr .u8 ns).setIfInBounds 0 (.int .u8 (bits .and .u8 (x:Int) 248))).setIfInBounds 31 (.int .u8 (bits .or .u8 (bits .and .u8 (t:Int) 127) 64))=arr .u8 rs:=by rw [a0,a1,arr_set,arr_set,hfin]
 have HE2:=Lib.hid e2
 have HRS:=Lib.hid hrs
 have HG0:=Lib.hid g0
 have HG31:=Lib.hid g31
 clear hzn hns hrs hcs t1 l1 g0 g31 a0 a1 hfin e2 hx
 go_enter Tryd.func126, Tryd.ntmps126
 go_upto_region 1 with (first|((with_reducible refine aS 2 ?_);refine wpList_alloc_row rfl 23 rfl _ (HZzn.out _) ?_))
 (try simp only [World.size_alloc,Act.put,sA,sZ,sS])
 generalize ((w.alloc (.cells (arr .u8 ns) 23)).alloc (.cells (arr .u8 zn) 23))=wb at HS0 ⊢
 have q0:=arr_get' (HS0.out.get 0 rfl) 0 (by rw [HNL.out];decide)
 have q1:=arr_get' (HS0.out.get 0 rfl) 31 (by rw [HNL.out];decide)
 have q2:=free_blk (HS0.out.get 0 rfl) 0
 have q3:=free_blk (HS0.out.get 0 rfl) 31
 rw [HG0.out] at q0
 rw [HG31.out] at q1
 have hb1:=(HS0.out.cell 0 rfl 0 (.int .u8 (bits .and .u8 (x:Int) 248))).cell 0 rfl 31 (.int .u8 (bits .or .u8 (bits .and .u8 (t:Int) 127) 64))
 have HS1:=Lib.hid (hb1.cast (l':=[(w.heap.size,arr .u8 rs, 23),(w.heap.size+1,arr .u8 zn, 23)]) (by rw [← HE2.out];rfl))
 clear hb1
 go_upto_region 3 with fail
 go_wp2_with (first|((with_reducible refine aS 12 ?_);refine wpList_load_part rfl 23 _ rfl (w.heap.size) 0 _ 23 (0,0) _ (HS1.out.get 0 rfl) rfl .u8 rs (arr_part _ _) Tryd.underlying23 rfl (num_i HRL.out) ?_)|((with_reducible refine aT 2 ?_);refine wpList_store_whole rfl 23 _ _ rfl (w.heap.size+1) _ _ 23 (HS1.out.get 1 rfl) rfl rfl (arr_len2 _ _ HRL.out HLzn.out) (num_s HRL.out) (all_arr _ _) ?_;intro w3 hb3 hk3 hz3;have HB3:=Lib.hid (HS1.out.put 1 rfl hk3 hb3);clear hb3 hk3 hz3))
 (try simp only [Exit.then])
 refine bodyPost_ret (results_cell_row rfl _ _ (w.heap.size+1) 23 _ (0,0) _ rfl (HB3.out.get 1 rfl) Tryd.underlying23 rfl (num_s HRL.out)) rfl ?_
 exact ⟨by rw [HRS.out],HB3.out.below⟩
theorem clamp_lt (k:Nat):clamp k < 2 ^ 255:=by
 unfold clamp
 have:=Nat.mod_lt (k / 8 * 8) (show 0 < 2 ^ 254 by decide)
 rw [show (2:Nat) ^ 255=2 ^ 254+2 ^ 254 by decide]
 omega
theorem clamp_any {ks:List Int} (k:Nat) (w:World) (h:K32 ks k):Calls Tryd.prog 126 #[.agg (arr .u8 ks)] w fun e w'=>∃ zs,e = .returned (.agg (arr .u8 zs))∧K32 zs (clamp k)∧Below w.heap.size w w':=by
 obtain ⟨rfl,h1⟩:=h
 refine (clamp_run k w (by rw [show (2:Nat) ^ 256=256 ^ 32 by decide];exact h1)).mono ?_
 rintro e w' ⟨rfl,hb⟩
 exact ⟨_,rfl,⟨rfl,Nat.lt_of_lt_of_le (clamp_lt k) (by decide)⟩,hb⟩
end Go.Proofs.YtodnkallpfkdiaaDoor.Sl
namespace Go.Proofs.YtodnkallpfkdiaaDoor.Fp
open Go.RowKit Lm
theorem p_lt4x:p < 18446744073709551616 ^ 4:=by decide +kernel
theorem n4_ex {a:Nat} (h:a < p):∃ z:List Int,Hid (N4 z a)∧Hid (z.length=4)∧Hid (∀ y,N4 y a→y=z) :=
 ⟨_,Lib.hid (n4_of a (Nat.lt_trans h p_lt4x)),Lib.hid (n4_of a (Nat.lt_trans h p_lt4x)).len,Lib.hid (fun _ h=>h.1)⟩
theorem p32 {a:Nat} (h:a < p):a < 256 ^ 32:=Nat.lt_trans h (by decide +kernel)
theorem k32_ex {a:Nat} (h:a < 256 ^ 32):∃ z:List Int,Hid (Sl.K32 z a)∧Hid (z.length=32)∧Hid (∀ y,Sl.K32 y a→y=z) :=
 have h1:Sl.K32 (nar (dig 256 32 a)) a:=⟨rfl,h⟩
 ⟨_,Lib.hid h1,Lib.hid h1.len,Lib.hid (fun _ h=>h.1)⟩
theorem pick_lt {c a b:Nat} (ha:a < p) (hb:b < p):(if c=1 then b else a) < p:=by split <;> assumption
theorem rowL:RowT Tryd.prog 131 4:=⟨⟨_, Tryd.underlying131, rfl⟩,by kernel_rfl⟩
theorem rowN:RowT Tryd.prog 23 32:=⟨⟨_, Tryd.underlying23, rfl⟩,by kernel_rfl⟩
theorem asz {k:IntKind} {xs:List Int} {n:Nat} (h:xs.length=n):(arr k xs).size=n:=by rw [arr_size,h]
end Go.Proofs.YtodnkallpfkdiaaDoor.Fp
namespace Go.Proofs.YtodnkallpfkdiaaDoor.Sl
open Go.RowKit Lm Fp Cu Rd
theorem zero_cpt (w:World):(zeroValue 133).run Tryd.prog w = .ok (.agg (arr .u64 (List.replicate 16 0))) w:=by kernel_rfl
theorem size_cpt:(Tryd.prog.info? 133).map (·.size)=some 16:=by kernel_rfl
theorem cpt_s {xs:List Int} (h:xs.length=16):(Tryd.prog.info? 133).map (·.size)=some (arr .u64 xs).size:=by rw [arr_size,h];exact size_cpt
theorem cpt_i {xs:List Int} (h:xs.length=16):(Tryd.prog.info? 133).map (·.size)=some xs.length:=by rw [h];exact size_cpt
theorem cpt_len {a b c d:List Int} (ha:a.length=4) (hb:b.length=4) (hc:c.length=4) (hd:d.length=4):(a ++ b ++ c ++ d).length=16:=by simp [ha,hb,hc,hd]
theorem four_part4 (k:IntKind) (a b c d:List Int) (n:Nat) (ha:a.length=n) (hb:b.length=n) (hc:c.length=n) (hd:d.length=n) :
  ((arr k (a ++ b ++ c ++ d)).toList.drop 0).take a.length=a.map (Value.int k)∧((arr k (a ++ b ++ c ++ d)).toList.drop n).take b.length=b.map (Value.int k) ∧
  ((arr k (a ++ b ++ c ++ d)).toList.drop (n+n)).take c.length=c.map (Value.int k)∧((arr k (a ++ b ++ c ++ d)).toList.drop (n+n+n)).take d.length=d.map (Value.int k):=by
 have e:a ++ b ++ c ++ d=a ++ (b ++ (c ++ d)):=by simp only [List.append_assoc]
 have _:=hd
 rw [e]
 exact four_part k a b c d n ha hb hc
theorem build_cpt (a b c d:List Int) (ha:a.length=4) (hb:b.length=4) (hc:c.length=4) (hd:d.length=4) (w:World) :
  (Instr.build 133 #[(0, .agg (arr .u64 a)),(1, .agg (arr .u64 b)),(2, .agg (arr .u64 c)),(3, .agg (arr .u64 d))]).run Tryd.prog w = .ok (.agg (arr .u64 (a ++ b ++ c ++ d))) w:=by
 obtain ⟨a0,a1,a2,a3,rfl⟩:∃ x y z t,a=[x,y,z,t]:=by match a,ha with|[x,y,z,t],_=>exact ⟨x,y,z,t,rfl⟩
 obtain ⟨b0,b1,b2,b3,rfl⟩:∃ x y z t,b=[x,y,z,t]:=by match b,hb with|[x,y,z,t],_=>exact ⟨x,y,z,t,rfl⟩
 obtain ⟨c0,c1,c2,c3,rfl⟩:∃ x y z t,c=[x,y,z,t]:=by match c,hc with|[x,y,z,t],_=>exact ⟨x,y,z,t,rfl⟩
 obtain ⟨d0,d1,d2,d3,rfl⟩:∃ x y z t,d=[x,y,z,t]:=by match d,hd with|[x,y,z,t],_=>exact ⟨x,y,z,t,rfl⟩
 kernel_rfl
/-- The limbs of a point. -/
def ptl (P:Pt):List Int:=nar (dig 18446744073709551616 4 P.x) ++ nar (dig 18446744073709551616 4 P.y) ++ nar (dig 18446744073709551616 4 P.z) ++ nar (dig 18446744073709551616 4 P.t)
theorem ptl_len (P:Pt):(ptl P).length=16:=cpt_len ((nar_len _).trans (dig_len _ _ _)) ((nar_len _).trans (dig_len _ _ _)) ((nar_len _).trans (dig_len _ _ _)) ((nar_len _).trans (dig_len _ _ _))
def P4 (ps:List Int) (P:Pt):Prop:=ps=ptl P∧P.Ok
theorem P4.len {ps:List Int} {P:Pt} (h:P4 ps P):ps.length=16:=by rw [h.1];exact ptl_len P
theorem P4.cast {ps:List Int} {P Q:Pt} (h:P4 ps P) (e:P=Q):P4 ps Q:=e▸h
theorem p_lt4:p < 18446744073709551616 ^ 4:=by decide +kernel
theorem n4_lt {a:Nat} (h:a < p):N4 (nar (dig 18446744073709551616 4 a)) a:=n4_of a (Nat.lt_trans h p_lt4)
theorem P4.parts {ps:List Int} {P:Pt} (h:P4 ps P):∃ x y z t,ps=x ++ y ++ z ++ t∧N4 x P.x∧N4 y P.y∧N4 z P.z∧N4 t P.t∧P.Ok:=⟨_,_,_,_,h.1,n4_lt h.2.x,n4_lt h.2.y,n4_lt h.2.z,n4_lt h.2.t,h.2⟩
theorem P4.of {x y z t:List Int} {P:Pt} (hx:N4 x P.x) (hy:N4 y P.y) (hz:N4 z P.z) (ht:N4 t P.t) (h:P.Ok):P4 (x ++ y ++ z ++ t) P:=⟨by rw [hx.1,hy.1,hz.1,ht.1];rfl,h⟩
theorem p4_ex {a:Pt} (h:a.Ok):∃ z:List Int,Hid (P4 z a)∧Hid (z.length=16)∧Hid (∀ y,P4 y a→y=z) :=
 ⟨_,Lib.hid ⟨rfl,h⟩,Lib.hid (ptl_len a),Lib.hid (fun _ h=>h.1)⟩
theorem rowC:RowT Tryd.prog 133 16:=⟨⟨_, Tryd.underlying133, rfl⟩,size_cpt⟩
theorem dd_lt:dd < p:=by decide +kernel
theorem build_dd (w:World):(Instr.build 131 #[(0, .int .u64 8496970652267935907),(1, .int .u64 31536524315187371),(2, .int .u64 10144147576115030168),(3, .int .u64 5909686906226998899)]).run Tryd.prog w = .ok (.agg (arr .u64 (nar (dig 18446744073709551616 4 dd)))) w:=by kernel_rfl
theorem build_bx (w:World):(Instr.build 131 #[(0, .int .u64 14507833142362363162),(1, .int .u64 7578651490590762930),(2, .int .u64 13881468655802702940),(3, .int .u64 2407515759118799870)]).run Tryd.prog w = .ok (.agg (arr .u64 (nar (dig 18446744073709551616 4 bx)))) w:=by kernel_rfl
theorem build_by (w:World):(Instr.build 131 #[(0, .int .u64 7378697629483820632),(1, .int .u64 7378697629483820646),(2, .int .u64 7378697629483820646),(3, .int .u64 7378697629483820646)]).run Tryd.prog w = .ok (.agg (arr .u64 (nar (dig 18446744073709551616 4 bY)))) w:=by kernel_rfl
theorem factor_any (w:World):Calls Tryd.prog 122 #[] w fun e w'=>∃ zs,e = .returned (.agg (arr .u64 zs))∧N4 zs dd∧Below w.heap.size w w':=by
 have hbd:=fun w=>build_dd w
 have hd:=n4_lt dd_lt
 obtain ⟨dl,hdl⟩:∃ x,x=nar (dig 18446744073709551616 4 dd):=⟨_,rfl⟩
 rw [← hdl] at hbd hd
 have HBD:=Lib.hid hbd
 have HD:=Lib.hid hd
 have HDL:=Lib.hid hd.len
 obtain ⟨zl,hzl⟩:∃ zs:List Int,zs=List.replicate 4 0:=⟨_,rfl⟩
 have HZzl:Hid (∀ w,(zeroValue 131).run Tryd.prog w = .ok (.agg (arr .u64 zl)) w):=Lib.hid (by intro w;rw [hzl];exact zero_lim w)
 have HLzl:Hid (zl.length=4):=Lib.hid (by rw [hzl];rfl)
 have HS0:=Lib.hid (Blk.one w (arr .u64 zl) 131)
 clear hzl hbd hd hdl
 go_enter Tryd.func122, Tryd.ntmps122
 go_wp2_with (first|((with_reducible refine aS 0 ?_);refine wpList_alloc_row rfl 131 rfl _ (HZzl.out _) ?_)|((with_reducible refine aS 1 ?_);refine wpList_build (by rfl) 131 _ rfl #[(0, .int .u64 8496970652267935907),(1, .int .u64 31536524315187371),(2, .int .u64 10144147576115030168),(3, .int .u64 5909686906226998899)] rfl _ (HBD.out _) ?_)|((with_reducible refine aT 0 ?_);refine wpList_store_whole rfl 131 _ _ rfl (w.heap.size) _ _ 131 (HS0.out.get 0 rfl) rfl rfl (arr_len2 _ _ HDL.out HLzl.out) (lim_s HDL.out) (all_arr _ _) ?_;intro w7 hb7 hk7 hz7;have HB7:=Lib.hid (HS0.out.put 0 rfl hk7 hb7);clear hb7 hk7 hz7))
 (try simp only [Exit.then])
 refine bodyPost_ret (results_cell_row rfl _ _ (w.heap.size) 131 _ (0,0) _ rfl (HB7.out.get 0 rfl) Tryd.underlying131 rfl (lim_s HDL.out)) rfl ?_
 exact ⟨_,rfl,HD.out,HB7.out.below⟩
theorem padd_any {ps qs:List Int} (P Q:Pt) (w:World) (hp:P4 ps P) (hq:P4 qs Q):Calls Tryd.prog 93 #[.agg (arr .u64 ps), .agg (arr .u64 qs)] w fun e w'=>∃ zs,e = .returned (.agg (arr .u64 zs))∧P4 zs (eadd P Q)∧Below w.heap.size w w':=by
 obtain ⟨mx,my,mz,mt,hme,hmx,hmy,hmz,hmt,hmok⟩:=hp.parts
 have Hmx:=Lib.hid hmx
 have HmxL:=Lib.hid hmx.len
 have Hmy:=Lib.hid hmy
 have HmyL:=Lib.hid hmy.len
 have Hmz:=Lib.hid hmz
 have HmzL:=Lib.hid hmz.len
 have Hmt:=Lib.hid hmt
 have HmtL:=Lib.hid hmt.len
 have HmW:=Lib.hid hp.len
 have Hmok:=Lib.hid hmok
 have hmP:=four_part4 .u64 mx my mz mt 4 hmx.len hmy.len hmz.len hmt.len
 rw [← hme] at hmP
 have HmP:=Lib.hid hmP
 clear hmx hmy hmz hmt hme hmP hmok
 obtain ⟨ox,oy,oz,ot,hoe,hox,hoy,hoz,hot,hook⟩:=hq.parts
 have Hox:=Lib.hid hox
 have HoxL:=Lib.hid hox.len
 have Hoy:=Lib.hid hoy
 have HoyL:=Lib.hid hoy.len
 have Hoz:=Lib.hid hoz
 have HozL:=Lib.hid hoz.len
 have Hot:=Lib.hid hot
 have HotL:=Lib.hid hot.len
 have HoW:=Lib.hid hq.len
 have Hook:=Lib.hid hook
 have hoP:=four_part4 .u64 ox oy oz ot 4 hox.len hoy.len hoz.len hot.len
 rw [← hoe] at hoP
 have HoP:=Lib.hid hoP
 clear hox hoy hoz hot hoe hoP hook
 obtain ⟨zl,hzl⟩:∃ zs:List Int,zs=List.replicate 4 0:=⟨_,rfl⟩
 have HZzl:Hid (∀ w,(zeroValue 131).run Tryd.prog w = .ok (.agg (arr .u64 zl)) w):=Lib.hid (by intro w;rw [hzl];exact zero_lim w)
 have HLzl:Hid (zl.length=4):=Lib.hid (by rw [hzl];rfl)
 obtain ⟨zp,hzp⟩:∃ zs:List Int,zs=List.replicate 16 0:=⟨_,rfl⟩
 have HZzp:Hid (∀ w,(zeroValue 133).run Tryd.prog w = .ok (.agg (arr .u64 zp)) w):=Lib.hid (by intro w;rw [hzp];exact zero_cpt w)
 have HLzp:Hid (zp.length=16):=Lib.hid (by rw [hzp];rfl)
 have hk1:N4 [(1:Int),0,0,0] 1:=n4_small 1 (by decide)
 have hbk1:=fun w=>build_raw 1 w
 obtain ⟨k1,hk1e⟩:∃ b:List Int,b=[(1:Int),0,0,0]:=⟨_,rfl⟩
 rw [← hk1e] at hk1 hbk1
 have HK1:=Lib.hid hk1
 have HK1L:=Lib.hid hk1.len
 have HBK1:=Lib.hid hbk1
 have hk0:N4 [(0:Int),0,0,0] 0:=n4_small 0 (by decide)
 have hbk0:=fun w=>build_no w
 obtain ⟨k0,hk0e⟩:∃ b:List Int,b=[(0:Int),0,0,0]:=⟨_,rfl⟩
 rw [← hk0e] at hk0 hbk0
 have HK0:=Lib.hid hk0
 have HK0L:=Lib.hid hk0.len
 have HBK0:=Lib.hid hbk0
 clear hk1 hbk1 hk1e hk0 hbk0 hk0e
 have HS0:=Lib.hid (Blk.three w (arr .u64 ps) (arr .u64 qs) (arr .u64 zp) 133 133 133)
 clear hzl hzp hp hq
 go_enter Tryd.func93, Tryd.ntmps93
 go_upto_region 1 with (first|((with_reducible refine aS 4 ?_);refine wpList_alloc_row rfl 133 rfl _ (HZzp.out _) ?_))
 (try simp only [World.size_alloc,Act.put,sA,sZ,sS])
 generalize (((w.alloc (.cells (arr .u64 ps) 133)).alloc (.cells (arr .u64 qs) 133)).alloc (.cells (arr .u64 zp) 133))=wb at HS0 ⊢
 go_upto_region 2 with (first|((with_reducible show Calls _ 122 #[] _ _);go_at_call 122; refine (factor_any _).mono ?_;rintro e w3201 ⟨z3201,rfl,h3201,hb3201⟩;have HZ3201:=Lib.hid h3201;have HL3201:=Lib.hid h3201.len;clear h3201;have HB3201:=Lib.hid (HS0.out.kept hb3201);clear hb3201)|((with_reducible refine aS 5 ?_);refine wpList_alloc_row rfl 131 rfl _ (HZzl.out _) ?_;have HB3202:=Lib.hid (HB3201.out.alloc (arr .u64 zl) 131);generalize w3201.heap.size=g3202 at HB3202 ⊢; generalize w3201.alloc (.cells (arr .u64 zl) 131)=w3202 at HB3202 ⊢; clear HB3201)|((with_reducible refine aT 5 (x:=(Operand.tmp 14)) ?_);refine wpList_store_whole rfl 131 _ _ rfl (g3202) _ _ 131 (HB3202.out.get 3 rfl) rfl rfl (arr_len2 _ _ HL3201.out HLzl.out) (lim_s HL3201.out) (all_arr _ _) ?_;intro w3203 hb3203 hk3203 hz3203;have HB3203:=Lib.hid (HB3202.out.put 3 rfl hk3203 hb3203);clear hb3203 hk3203 hz3203;clear HB3202))
 (try simp only [World.size_alloc,Act.put,sA,sZ,sS])
 obtain ⟨z5001,HZ5001,HL5001,HE5001⟩:=n4_ex (a:=(fsub P.y P.x)) (fsub_lt _ _)
 obtain ⟨z5002,HZ5002,HL5002,HE5002⟩:=n4_ex (a:=(fsub Q.y Q.x)) (fsub_lt _ _)
 obtain ⟨z5003,HZ5003,HL5003,HE5003⟩:=n4_ex (a:=(fmul (fsub P.y P.x) (fsub Q.y Q.x))) (fmul_lt _ _)
 refine wp_region_sym (T:=fun _=>False) (w:=w) (sy:=[Yp (w.heap.size) 4,Yr .u64 my,Yp (w.heap.size) 0,Yr .u64 mx,Yr .u64 z5001,Yp (w.heap.size+1) 4,Yr .u64 oy,Yp (w.heap.size+1) 0,Yr .u64 ox,Yr .u64 z5002,Yr .u64 z5003,Yn (arr .u64 zl) 131, Y0]) (pt:=[(12,15,cel (arr .u64 z5003) 131)]) (by kernel_rfl) (by kernel_rfl) (by kernel_rfl) HB3203.out.holds (fun hW=>?sa2) (fun qa2 xa2 ua2 _ hH=>?ea2)
 case sa2 =>
  refine SyP hW ?_
  refine SyL hW ?_ 0 4 (arr .u64 ps) 133 rowL HmyL.out (HmP.out.2.1)
  refine SyP hW ?_
  refine SyL hW ?_ 0 0 (arr .u64 ps) 133 rowL HmxL.out (HmP.out.1)
  refine SyC hW ?_ (fun _=>minus_any _ _ _ Hmy.out Hmx.out Hmok.out.y Hmok.out.x) HE5001.out
  refine SyP hW ?_
  refine SyL hW ?_ 1 4 (arr .u64 qs) 133 rowL HoyL.out (HoP.out.2.1)
  refine SyP hW ?_
  refine SyL hW ?_ 1 0 (arr .u64 qs) 133 rowL HoxL.out (HoP.out.1)
  refine SyC hW ?_ (fun _=>minus_any _ _ _ Hoy.out Hox.out Hook.out.y Hook.out.x) HE5002.out
  refine SyC hW ?_ (fun _=>times_any _ _ _ HZ5001.out HZ5002.out) HE5003.out
  refine SyA hW ?_ HZzl.out
  refine SyS hW ?_ 15 (arr .u64 zl) 131 rowL HL5003.out (asz HLzl.out)
  exact SyN
 case ea2 =>
 have HBa2:=Lib.hid (hH.blk [0,1,2,3,15] [(w.heap.size,arr .u64 ps, 133),(w.heap.size+1,arr .u64 qs, 133),(w.heap.size+1+1,arr .u64 zp, 133),(g3202,(arr .u64 z3201), 131),((qa2 11),arr .u64 z5003, 131)] (by decide) (by kernel_rfl))
 simp only [lay,Sy.at,den',Yr,Yv,Yp,Yq,Yn,Y0,Act.put,sA,sZ,sS,Nat.reduceAdd]
 clear hH HB3203
 (try simp only [Exit.then])
 go_upto_region 3 with fail
 (try simp only [World.size_alloc,Act.put,sA,sZ,sS])
 obtain ⟨z5004,HZ5004,HL5004,HE5004⟩:=n4_ex (a:=(fadd P.y P.x)) (fadd_lt _ _)
 obtain ⟨z5005,HZ5005,HL5005,HE5005⟩:=n4_ex (a:=(fadd Q.y Q.x)) (fadd_lt _ _)
 obtain ⟨z5006,HZ5006,HL5006,HE5006⟩:=n4_ex (a:=(fmul (fadd P.y P.x) (fadd Q.y Q.x))) (fmul_lt _ _)
 refine wp_region_sym (T:=fun _=>False) (w:=w) (sy:=[Yp (w.heap.size) 4,Yr .u64 my,Yp (w.heap.size) 0,Yr .u64 mx,Yr .u64 z5004,Yp (w.heap.size+1) 4,Yr .u64 oy,Yp (w.heap.size+1) 0,Yr .u64 ox,Yr .u64 z5005,Yr .u64 z5006,Yn (arr .u64 zl) 131, Y0]) (pt:=[(12,16,cel (arr .u64 z5006) 131)]) (by kernel_rfl) (by kernel_rfl) (by kernel_rfl) HBa2.out.holds (fun hW=>?sa3) (fun qa3 xa3 ua3 _ hH=>?ea3)
 case sa3 =>
  refine SyP hW ?_
  refine SyL hW ?_ 0 4 (arr .u64 ps) 133 rowL HmyL.out (HmP.out.2.1)
  refine SyP hW ?_
  refine SyL hW ?_ 0 0 (arr .u64 ps) 133 rowL HmxL.out (HmP.out.1)
  refine SyC hW ?_ (fun _=>plus_any _ _ _ Hmy.out Hmx.out) HE5004.out
  refine SyP hW ?_
  refine SyL hW ?_ 1 4 (arr .u64 qs) 133 rowL HoyL.out (HoP.out.2.1)
  refine SyP hW ?_
  refine SyL hW ?_ 1 0 (arr .u64 qs) 133 rowL HoxL.out (HoP.out.1)
  refine SyC hW ?_ (fun _=>plus_any _ _ _ Hoy.out Hox.out) HE5005.out
  refine SyC hW ?_ (fun _=>times_any _ _ _ HZ5004.out HZ5005.out) HE5006.out
  refine SyA hW ?_ HZzl.out
  refine SyS hW ?_ 16 (arr .u64 zl) 131 rowL HL5006.out (asz HLzl.out)
  exact SyN
 case ea3 =>
 have HBa3:=Lib.hid (hH.blk [0,1,2,3,4,16] [(w.heap.size,arr .u64 ps, 133),(w.heap.size+1,arr .u64 qs, 133),(w.heap.size+1+1,arr .u64 zp, 133),(g3202,(arr .u64 z3201), 131),((qa2 11),arr .u64 z5003, 131),((qa3 11),arr .u64 z5006, 131)] (by decide) (by kernel_rfl))
 simp only [lay,Sy.at,den',Yr,Yv,Yp,Yq,Yn,Y0,Act.put,sA,sZ,sS,Nat.reduceAdd]
 clear hH HBa2
 (try simp only [Exit.then])
 go_upto_region 4 with fail
 (try simp only [World.size_alloc,Act.put,sA,sZ,sS])
 obtain ⟨z5007,HZ5007,HL5007,HE5007⟩:=n4_ex (a:=(fadd dd dd)) (fadd_lt _ _)
 obtain ⟨z5008,HZ5008,HL5008,HE5008⟩:=n4_ex (a:=(fmul P.t (fadd dd dd))) (fmul_lt _ _)
 obtain ⟨z5009,HZ5009,HL5009,HE5009⟩:=n4_ex (a:=(fmul (fmul P.t (fadd dd dd)) Q.t)) (fmul_lt _ _)
 refine wp_region_sym (T:=fun _=>False) (w:=w) (sy:=[Yp (w.heap.size) 12,Yr .u64 mt,Yr .u64 z3201,Yr .u64 z3201,Yr .u64 z5007,Yr .u64 z5008,Yp (w.heap.size+1) 12,Yr .u64 ot,Yr .u64 z5009,Yn (arr .u64 zl) 131, Y0]) (pt:=[(10,15,cel (arr .u64 z5009) 131)]) (by kernel_rfl) (by kernel_rfl) (by kernel_rfl) HBa3.out.holds (fun hW=>?sa4) (fun qa4 xa4 ua4 _ hH=>?ea4)
 case sa4 =>
  refine SyP hW ?_
  refine SyL hW ?_ 0 12 (arr .u64 ps) 133 rowL HmtL.out (HmP.out.2.2.2)
  refine SyL hW ?_ 3 0 ((arr .u64 z3201)) 131 rowL HL3201.out (arr_part _ _)
  refine SyL hW ?_ 3 0 ((arr .u64 z3201)) 131 rowL HL3201.out (arr_part _ _)
  refine SyC hW ?_ (fun _=>plus_any _ _ _ HZ3201.out HZ3201.out) HE5007.out
  refine SyC hW ?_ (fun _=>times_any _ _ _ Hmt.out HZ5007.out) HE5008.out
  refine SyP hW ?_
  refine SyL hW ?_ 1 12 (arr .u64 qs) 133 rowL HotL.out (HoP.out.2.2.2)
  refine SyC hW ?_ (fun _=>times_any _ _ _ HZ5008.out Hot.out) HE5009.out
  refine SyA hW ?_ HZzl.out
  refine SyS hW ?_ 15 (arr .u64 zl) 131 rowL HL5009.out (asz HLzl.out)
  exact SyN
 case ea4 =>
 have HBa4:=Lib.hid (hH.blk [0,1,2,3,4,5,15] [(w.heap.size,arr .u64 ps, 133),(w.heap.size+1,arr .u64 qs, 133),(w.heap.size+1+1,arr .u64 zp, 133),(g3202,(arr .u64 z3201), 131),((qa2 11),arr .u64 z5003, 131),((qa3 11),arr .u64 z5006, 131),((qa4 9),arr .u64 z5009, 131)] (by decide) (by kernel_rfl))
 simp only [lay,Sy.at,den',Yr,Yv,Yp,Yq,Yn,Y0,Act.put,sA,sZ,sS,Nat.reduceAdd]
 clear hH HBa3
 (try simp only [Exit.then])
 go_upto_region 5 with fail
 (try simp only [World.size_alloc,Act.put,sA,sZ,sS])
 obtain ⟨z5010,HZ5010,HL5010,HE5010⟩:=n4_ex (a:=(fadd Q.z Q.z)) (fadd_lt _ _)
 obtain ⟨z5011,HZ5011,HL5011,HE5011⟩:=n4_ex (a:=(fmul P.z (fadd Q.z Q.z))) (fmul_lt _ _)
 refine wp_region_sym (T:=fun _=>False) (w:=w) (sy:=[Yp (w.heap.size) 8,Yr .u64 mz,Yp (w.heap.size+1) 8,Yr .u64 oz,Yp (w.heap.size+1) 8,Yr .u64 oz,Yr .u64 z5010,Yr .u64 z5011,Yn (arr .u64 zl) 131, Y0]) (pt:=[(9,15,cel (arr .u64 z5011) 131)]) (by kernel_rfl) (by kernel_rfl) (by kernel_rfl) HBa4.out.holds (fun hW=>?sa5) (fun qa5 xa5 ua5 _ hH=>?ea5)
 case sa5 =>
  refine SyP hW ?_
  refine SyL hW ?_ 0 8 (arr .u64 ps) 133 rowL HmzL.out (HmP.out.2.2.1)
  refine SyP hW ?_
  refine SyL hW ?_ 1 8 (arr .u64 qs) 133 rowL HozL.out (HoP.out.2.2.1)
  refine SyP hW ?_
  refine SyL hW ?_ 1 8 (arr .u64 qs) 133 rowL HozL.out (HoP.out.2.2.1)
  refine SyC hW ?_ (fun _=>plus_any _ _ _ Hoz.out Hoz.out) HE5010.out
  refine SyC hW ?_ (fun _=>times_any _ _ _ Hmz.out HZ5010.out) HE5011.out
  refine SyA hW ?_ HZzl.out
  refine SyS hW ?_ 15 (arr .u64 zl) 131 rowL HL5011.out (asz HLzl.out)
  exact SyN
 case ea5 =>
 have HBa5:=Lib.hid (hH.blk [0,1,2,3,4,5,6,15] [(w.heap.size,arr .u64 ps, 133),(w.heap.size+1,arr .u64 qs, 133),(w.heap.size+1+1,arr .u64 zp, 133),(g3202,(arr .u64 z3201), 131),((qa2 11),arr .u64 z5003, 131),((qa3 11),arr .u64 z5006, 131),((qa4 9),arr .u64 z5009, 131),((qa5 8),arr .u64 z5011, 131)] (by decide) (by kernel_rfl))
 simp only [lay,Sy.at,den',Yr,Yv,Yp,Yq,Yn,Y0,Act.put,sA,sZ,sS,Nat.reduceAdd]
 clear hH HBa4
 (try simp only [Exit.then])
 go_upto_region 6 with fail
 (try simp only [World.size_alloc,Act.put,sA,sZ,sS])
 obtain ⟨z5012,HZ5012,HL5012,HE5012⟩:=n4_ex (a:=(fsub (fmul (fadd P.y P.x) (fadd Q.y Q.x)) (fmul (fsub P.y P.x) (fsub Q.y Q.x)))) (fsub_lt _ _)
 obtain ⟨z5013,HZ5013,HL5013,HE5013⟩:=n4_ex (a:=(fsub (fmul P.z (fadd Q.z Q.z)) (fmul (fmul P.t (fadd dd dd)) Q.t))) (fsub_lt _ _)
 obtain ⟨z5014,HZ5014,HL5014,HE5014⟩:=n4_ex (a:=(fadd (fmul P.z (fadd Q.z Q.z)) (fmul (fmul P.t (fadd dd dd)) Q.t))) (fadd_lt _ _)
 obtain ⟨z5015,HZ5015,HL5015,HE5015⟩:=n4_ex (a:=(fadd (fmul (fadd P.y P.x) (fadd Q.y Q.x)) (fmul (fsub P.y P.x) (fsub Q.y Q.x)))) (fadd_lt _ _)
 refine wp_region_sym (T:=fun _=>False) (w:=w) (sy:=[Yr .u64 z5006,Yr .u64 z5003,Yr .u64 z5012,Yr .u64 z5011,Yr .u64 z5009,Yr .u64 z5013,Yr .u64 z5011,Yr .u64 z5009,Yr .u64 z5014,Yr .u64 z5006,Yr .u64 z5003,Yr .u64 z5015,Yn (arr .u64 zl) 131, Yn (arr .u64 zl) 131, Yn (arr .u64 zl) 131, Yn (arr .u64 zl) 131, Y0,Y0,Y0,Y0]) (pt:=[(16,20,cel (arr .u64 z5012) 131),(17,21,cel (arr .u64 z5013) 131),(18,22,cel (arr .u64 z5014) 131),(19,23,cel (arr .u64 z5015) 131)]) (by kernel_rfl) (by kernel_rfl) (by kernel_rfl) HBa5.out.holds (fun hW=>?sa6) (fun qa6 xa6 ua6 _ hH=>?ea6)
 case sa6 =>
  refine SyL hW ?_ 5 0 (arr .u64 z5006) 131 rowL HL5006.out (arr_part _ _)
  refine SyL hW ?_ 4 0 (arr .u64 z5003) 131 rowL HL5003.out (arr_part _ _)
  refine SyC hW ?_ (fun _=>minus_any _ _ _ HZ5006.out HZ5003.out (fmul_lt _ _) (fmul_lt _ _)) HE5012.out
  refine SyL hW ?_ 7 0 (arr .u64 z5011) 131 rowL HL5011.out (arr_part _ _)
  refine SyL hW ?_ 6 0 (arr .u64 z5009) 131 rowL HL5009.out (arr_part _ _)
  refine SyC hW ?_ (fun _=>minus_any _ _ _ HZ5011.out HZ5009.out (fmul_lt _ _) (fmul_lt _ _)) HE5013.out
  refine SyL hW ?_ 7 0 (arr .u64 z5011) 131 rowL HL5011.out (arr_part _ _)
  refine SyL hW ?_ 6 0 (arr .u64 z5009) 131 rowL HL5009.out (arr_part _ _)
  refine SyC hW ?_ (fun _=>plus_any _ _ _ HZ5011.out HZ5009.out) HE5014.out
  refine SyL hW ?_ 5 0 (arr .u64 z5006) 131 rowL HL5006.out (arr_part _ _)
  refine SyL hW ?_ 4 0 (arr .u64 z5003) 131 rowL HL5003.out (arr_part _ _)
  refine SyC hW ?_ (fun _=>plus_any _ _ _ HZ5006.out HZ5003.out) HE5015.out
  refine SyA hW ?_ HZzl.out
  refine SyA hW ?_ HZzl.out
  refine SyA hW ?_ HZzl.out
  refine SyA hW ?_ HZzl.out
  refine SyS hW ?_ 20 (arr .u64 zl) 131 rowL HL5012.out (asz HLzl.out)
  refine SyS hW ?_ 21 (arr .u64 zl) 131 rowL HL5013.out (asz HLzl.out)
  refine SyS hW ?_ 22 (arr .u64 zl) 131 rowL HL5014.out (asz HLzl.out)
  refine SyS hW ?_ 23 (arr .u64 zl) 131 rowL HL5015.out (asz HLzl.out)
  exact SyN
 case ea6 =>
 have HBa6:=Lib.hid (hH.blk [0,1,2,3,4,5,6,7,20,21,22,23] [(w.heap.size,arr .u64 ps, 133),(w.heap.size+1,arr .u64 qs, 133),(w.heap.size+1+1,arr .u64 zp, 133),(g3202,(arr .u64 z3201), 131),((qa2 11),arr .u64 z5003, 131),((qa3 11),arr .u64 z5006, 131),((qa4 9),arr .u64 z5009, 131),((qa5 8),arr .u64 z5011, 131),((qa6 12),arr .u64 z5012, 131),((qa6 13),arr .u64 z5013, 131),((qa6 14),arr .u64 z5014, 131),((qa6 15),arr .u64 z5015, 131)] (by decide) (by kernel_rfl))
 simp only [lay,Sy.at,den',Yr,Yv,Yp,Yq,Yn,Y0,Act.put,sA,sZ,sS,Nat.reduceAdd]
 clear hH HBa5
 (try simp only [Exit.then])
 go_upto_region 7 with fail
 (try simp only [World.size_alloc,Act.put,sA,sZ,sS])
 obtain ⟨z5016,HZ5016,HL5016,HE5016⟩:=n4_ex (a:=(fmul (fsub (fmul (fadd P.y P.x) (fadd Q.y Q.x)) (fmul (fsub P.y P.x) (fsub Q.y Q.x))) (fsub (fmul P.z (fadd Q.z Q.z)) (fmul (fmul P.t (fadd dd dd)) Q.t)))) (fmul_lt _ _)
 obtain ⟨z5017,HZ5017,HL5017,HE5017⟩:=n4_ex (a:=(fmul (fadd (fmul P.z (fadd Q.z Q.z)) (fmul (fmul P.t (fadd dd dd)) Q.t)) (fadd (fmul (fadd P.y P.x) (fadd Q.y Q.x)) (fmul (fsub P.y P.x) (fsub Q.y Q.x))))) (fmul_lt _ _)
 obtain ⟨z5018,HZ5018,HL5018,HE5018⟩:=n4_ex (a:=(fmul (fsub (fmul P.z (fadd Q.z Q.z)) (fmul (fmul P.t (fadd dd dd)) Q.t)) (fadd (fmul P.z (fadd Q.z Q.z)) (fmul (fmul P.t (fadd dd dd)) Q.t)))) (fmul_lt _ _)
 obtain ⟨z5019,HZ5019,HL5019,HE5019⟩:=n4_ex (a:=(fmul (fsub (fmul (fadd P.y P.x) (fadd Q.y Q.x)) (fmul (fsub P.y P.x) (fsub Q.y Q.x))) (fadd (fmul (fadd P.y P.x) (fadd Q.y Q.x)) (fmul (fsub P.y P.x) (fsub Q.y Q.x))))) (fmul_lt _ _)
 obtain ⟨v5020,hv5020⟩:∃ x,x=z5016 ++ z5017 ++ z5018 ++ z5019:=⟨_,rfl⟩
 have HR5020:Hid (∀ w,(Instr.build 133 #[(0, .agg (arr .u64 z5016)),(1, .agg (arr .u64 z5017)),(2, .agg (arr .u64 z5018)),(3, .agg (arr .u64 z5019))]).run Tryd.prog w = .ok (.agg (arr .u64 v5020)) w):=Lib.hid (fun w=>by rw [hv5020];exact build_cpt _ _ _ _ HL5016.out HL5017.out HL5018.out HL5019.out w)
 have HL5020:Hid (v5020.length=16):=Lib.hid (by rw [hv5020];exact cpt_len HL5016.out HL5017.out HL5018.out HL5019.out)
 have HV5020:=Lib.hid hv5020
 clear hv5020
 refine wp_region_sym (T:=fun _=>False) (w:=w) (sy:=[Yr .u64 z5012,Yr .u64 z5013,Yr .u64 z5016,Yr .u64 z5014,Yr .u64 z5015,Yr .u64 z5017,Yr .u64 z5013,Yr .u64 z5014,Yr .u64 z5018,Yr .u64 z5012,Yr .u64 z5015,Yr .u64 z5019,Yr .u64 v5020,Y0]) (pt:=[(13,2,cel (arr .u64 v5020) 133)]) (by kernel_rfl) (by kernel_rfl) (by kernel_rfl) HBa6.out.holds (fun hW=>?sa7) (fun qa7 xa7 ua7 _ hH=>?ea7)
 case sa7 =>
  refine SyL hW ?_ 8 0 (arr .u64 z5012) 131 rowL HL5012.out (arr_part _ _)
  refine SyL hW ?_ 9 0 (arr .u64 z5013) 131 rowL HL5013.out (arr_part _ _)
  refine SyC hW ?_ (fun _=>times_any _ _ _ HZ5012.out HZ5013.out) HE5016.out
  refine SyL hW ?_ 10 0 (arr .u64 z5014) 131 rowL HL5014.out (arr_part _ _)
  refine SyL hW ?_ 11 0 (arr .u64 z5015) 131 rowL HL5015.out (arr_part _ _)
  refine SyC hW ?_ (fun _=>times_any _ _ _ HZ5014.out HZ5015.out) HE5017.out
  refine SyL hW ?_ 9 0 (arr .u64 z5013) 131 rowL HL5013.out (arr_part _ _)
  refine SyL hW ?_ 10 0 (arr .u64 z5014) 131 rowL HL5014.out (arr_part _ _)
  refine SyC hW ?_ (fun _=>times_any _ _ _ HZ5013.out HZ5014.out) HE5018.out
  refine SyL hW ?_ 8 0 (arr .u64 z5012) 131 rowL HL5012.out (arr_part _ _)
  refine SyL hW ?_ 11 0 (arr .u64 z5015) 131 rowL HL5015.out (arr_part _ _)
  refine SyC hW ?_ (fun _=>times_any _ _ _ HZ5012.out HZ5015.out) HE5019.out
  refine SyB hW ?_ _ _ _ (fun u=>HR5020.out u)
  refine SyS hW ?_ 2 (arr .u64 zp) 133 rowC HL5020.out (asz HLzp.out)
  exact SyN
 case ea7 =>
 have HBa7:=Lib.hid (hH.blk [0,1,2,3,4,5,6,7,8,9,10,11] [(w.heap.size,arr .u64 ps, 133),(w.heap.size+1,arr .u64 qs, 133),(w.heap.size+1+1,arr .u64 v5020, 133),(g3202,(arr .u64 z3201), 131),((qa2 11),arr .u64 z5003, 131),((qa3 11),arr .u64 z5006, 131),((qa4 9),arr .u64 z5009, 131),((qa5 8),arr .u64 z5011, 131),((qa6 12),arr .u64 z5012, 131),((qa6 13),arr .u64 z5013, 131),((qa6 14),arr .u64 z5014, 131),((qa6 15),arr .u64 z5015, 131)] (by decide) (by kernel_rfl))
 simp only [lay,Sy.at,den',Yr,Yv,Yp,Yq,Yn,Y0,Act.put,sA,sZ,sS,Nat.reduceAdd]
 clear hH HBa6
 (try simp only [Exit.then])
 go_wp2_with fail
 refine bodyPost_ret (results_cell_row rfl _ _ (w.heap.size+1+1) 133 _ (0,0) _ rfl (HBa7.out.get 2 rfl) Tryd.underlying133 rfl (cpt_s HL5020.out)) rfl ?_
 exact ⟨_,rfl,by rw [HV5020.out];exact P4.of HZ5016.out HZ5017.out HZ5018.out HZ5019.out (eadd_ok P Q),HBa7.out.below⟩
end Go.Proofs.YtodnkallpfkdiaaDoor.Sl
namespace Go.Proofs.YtodnkallpfkdiaaDoor.Sl
open Go.RowKit Lm Fp Cu Rd
theorem base_any (w:World):Calls Tryd.prog 84 #[] w fun e w'=>∃ zs,e = .returned (.agg (arr .u64 zs))∧P4 zs base∧Below w.heap.size w w':=by
 have hbx:=fun w=>build_bx w
 have hx:=n4_lt (show bx < p by decide +kernel)
 obtain ⟨xl,hxl⟩:∃ x,x=nar (dig 18446744073709551616 4 bx):=⟨_,rfl⟩
 rw [← hxl] at hbx hx
 have HBX:=Lib.hid hbx
 have HX:=Lib.hid hx
 have HXL:=Lib.hid hx.len
 have hby:=fun w=>build_by w
 have hy:=n4_lt (show bY < p by decide +kernel)
 obtain ⟨yl,hyl⟩:∃ x,x=nar (dig 18446744073709551616 4 bY):=⟨_,rfl⟩
 rw [← hyl] at hby hy
 have HBY:=Lib.hid hby
 have HY:=Lib.hid hy
 have HYL:=Lib.hid hy.len
 obtain ⟨zl,hzl⟩:∃ zs:List Int,zs=List.replicate 4 0:=⟨_,rfl⟩
 have HZzl:Hid (∀ w,(zeroValue 131).run Tryd.prog w = .ok (.agg (arr .u64 zl)) w):=Lib.hid (by intro w;rw [hzl];exact zero_lim w)
 have HLzl:Hid (zl.length=4):=Lib.hid (by rw [hzl];rfl)
 obtain ⟨zp,hzp⟩:∃ zs:List Int,zs=List.replicate 16 0:=⟨_,rfl⟩
 have HZzp:Hid (∀ w,(zeroValue 133).run Tryd.prog w = .ok (.agg (arr .u64 zp)) w):=Lib.hid (by intro w;rw [hzp];exact zero_cpt w)
 have HLzp:Hid (zp.length=16):=Lib.hid (by rw [hzp];rfl)
 have hk1:N4 [(1:Int),0,0,0] 1:=n4_small 1 (by decide)
 have hbk1:=fun w=>build_raw 1 w
 obtain ⟨k1,hk1e⟩:∃ b:List Int,b=[(1:Int),0,0,0]:=⟨_,rfl⟩
 rw [← hk1e] at hk1 hbk1
 have HK1:=Lib.hid hk1
 have HK1L:=Lib.hid hk1.len
 have HBK1:=Lib.hid hbk1
 have hk0:N4 [(0:Int),0,0,0] 0:=n4_small 0 (by decide)
 have hbk0:=fun w=>build_no w
 obtain ⟨k0,hk0e⟩:∃ b:List Int,b=[(0:Int),0,0,0]:=⟨_,rfl⟩
 rw [← hk0e] at hk0 hbk0
 have HK0:=Lib.hid hk0
 have HK0L:=Lib.hid hk0.len
 have HBK0:=Lib.hid hbk0
 clear hk1 hbk1 hk1e hk0 hbk0 hk0e
 have HS0:=Lib.hid (Blk.one w (arr .u64 zp) 133)
 clear hzl hzp hbx hx hxl hby hy hyl
 go_enter Tryd.func84, Tryd.ntmps84
 go_upto_region 1 with (first|((with_reducible refine aS 0 ?_);refine wpList_alloc_row rfl 133 rfl _ (HZzp.out _) ?_))
 (try simp only [World.size_alloc,Act.put,sA,sZ,sS])
 generalize (w.alloc (.cells (arr .u64 zp) 133))=wb at HS0 ⊢
 go_upto_region 2 with (first|((with_reducible refine aS 3 ?_);refine wpList_build (by rfl) 131 _ rfl #[(0, .int .u64 14507833142362363162),(1, .int .u64 7578651490590762930),(2, .int .u64 13881468655802702940),(3, .int .u64 2407515759118799870)] rfl _ (HBX.out _) ?_)|((with_reducible refine aS 1 ?_);refine wpList_alloc_row rfl 131 rfl _ (HZzl.out _) ?_;have HB3301:=Lib.hid (HS0.out.alloc (arr .u64 zl) 131);generalize wb.heap.size=g3301 at HB3301 ⊢; generalize wb.alloc (.cells (arr .u64 zl) 131)=w3301 at HB3301 ⊢)|((with_reducible refine aT 1 (x:=(Operand.tmp 3)) ?_);refine wpList_store_whole rfl 131 _ _ rfl (g3301) _ _ 131 (HB3301.out.get 1 rfl) rfl rfl (arr_len2 _ _ HXL.out HLzl.out) (lim_s HXL.out) (all_arr _ _) ?_;intro w3302 hb3302 hk3302 hz3302;have HB3302:=Lib.hid (HB3301.out.put 1 rfl hk3302 hb3302);clear hb3302 hk3302 hz3302;clear HB3301))
 (try simp only [World.size_alloc,Act.put,sA,sZ,sS])
 go_upto_region 3 with (first|((with_reducible refine aS 4 ?_);refine wpList_build (by rfl) 131 _ rfl #[(0, .int .u64 7378697629483820632),(1, .int .u64 7378697629483820646),(2, .int .u64 7378697629483820646),(3, .int .u64 7378697629483820646)] rfl _ (HBY.out _) ?_)|((with_reducible refine aS 2 ?_);refine wpList_alloc_row rfl 131 rfl _ (HZzl.out _) ?_;have HB3303:=Lib.hid (HB3302.out.alloc (arr .u64 zl) 131);generalize w3302.heap.size=g3303 at HB3303 ⊢; generalize w3302.alloc (.cells (arr .u64 zl) 131)=w3303 at HB3303 ⊢; clear HB3302)|((with_reducible refine aT 2 (x:=(Operand.tmp 4)) ?_);refine wpList_store_whole rfl 131 _ _ rfl (g3303) _ _ 131 (HB3303.out.get 2 rfl) rfl rfl (arr_len2 _ _ HYL.out HLzl.out) (lim_s HYL.out) (all_arr _ _) ?_;intro w3304 hb3304 hk3304 hz3304;have HB3304:=Lib.hid (HB3303.out.put 2 rfl hk3304 hb3304);clear hb3304 hk3304 hz3304;clear HB3303))
 (try simp only [World.size_alloc,Act.put,sA,sZ,sS])
 obtain ⟨z5401,HZ5401,HL5401,HE5401⟩:=n4_ex (a:=(fmul bx bY)) (fmul_lt _ _)
 obtain ⟨v5402,hv5402⟩:∃ x,x=xl ++ yl ++ k1 ++ z5401:=⟨_,rfl⟩
 have HR5402:Hid (∀ w,(Instr.build 133 #[(0, .agg (arr .u64 xl)),(1, .agg (arr .u64 yl)),(2, .agg (arr .u64 k1)),(3, .agg (arr .u64 z5401))]).run Tryd.prog w = .ok (.agg (arr .u64 v5402)) w):=Lib.hid (fun w=>by rw [hv5402];exact build_cpt _ _ _ _ HXL.out HYL.out HK1L.out HL5401.out w)
 have HL5402:Hid (v5402.length=16):=Lib.hid (by rw [hv5402];exact cpt_len HXL.out HYL.out HK1L.out HL5401.out)
 have HV5402:=Lib.hid hv5402
 clear hv5402
 refine wp_region_sym (T:=fun _=>False) (w:=w) (sy:=[Yr .u64 xl,Yr .u64 yl,Yr .u64 k1,Yr .u64 xl,Yr .u64 yl,Yr .u64 z5401,Yr .u64 v5402,Y0]) (pt:=[(7,0,cel (arr .u64 v5402) 133)]) (by kernel_rfl) (by kernel_rfl) (by kernel_rfl) HB3304.out.holds (fun hW=>?sb3) (fun qb3 xb3 ub3 _ hH=>?eb3)
 case sb3 =>
  refine SyL hW ?_ 1 0 ((arr .u64 xl)) 131 rowL HXL.out (arr_part _ _)
  refine SyL hW ?_ 2 0 ((arr .u64 yl)) 131 rowL HYL.out (arr_part _ _)
  refine SyB hW ?_ _ _ _ (fun u=>HBK1.out u)
  refine SyL hW ?_ 1 0 ((arr .u64 xl)) 131 rowL HXL.out (arr_part _ _)
  refine SyL hW ?_ 2 0 ((arr .u64 yl)) 131 rowL HYL.out (arr_part _ _)
  refine SyC hW ?_ (fun _=>times_any _ _ _ HX.out HY.out) HE5401.out
  refine SyB hW ?_ _ _ _ (fun u=>HR5402.out u)
  refine SyS hW ?_ 0 (arr .u64 zp) 133 rowC HL5402.out (asz HLzp.out)
  exact SyN
 case eb3 =>
 have HBb3:=Lib.hid (hH.blk [0,1,2] [(w.heap.size,arr .u64 v5402, 133),(g3301,(arr .u64 xl), 131),(g3303,(arr .u64 yl), 131)] (by decide) (by kernel_rfl))
 simp only [lay,Sy.at,den',Yr,Yv,Yp,Yq,Yn,Y0,Act.put,sA,sZ,sS,Nat.reduceAdd]
 clear hH HB3304
 (try simp only [Exit.then])
 go_wp2_with fail
 refine bodyPost_ret (results_cell_row rfl _ _ (w.heap.size) 133 _ (0,0) _ rfl (HBb3.out.get 0 rfl) Tryd.underlying133 rfl (cpt_s HL5402.out)) rfl ?_
 exact ⟨_,rfl,by rw [HV5402.out];exact P4.of HX.out HY.out HK1.out HZ5401.out base_ok,HBb3.out.below⟩
theorem build_pno (w:World):(Instr.build 133 #[(1, .agg (arr .u64 [1,0,0,0])),(2, .agg (arr .u64 [1,0,0,0]))]).run Tryd.prog w = .ok (.agg (arr .u64 (ptl nought))) w:=by kernel_rfl
theorem none_any (w:World):Calls Tryd.prog 128 #[] w fun e w'=>∃ zs,e = .returned (.agg (arr .u64 zs))∧P4 zs nought∧Below w.heap.size w w':=by
 have hbp:=fun w=>build_pno w
 have hp:P4 (ptl nought) nought:=⟨rfl,nought_ok⟩
 obtain ⟨pl,hpl⟩:∃ x,x=ptl nought:=⟨_,rfl⟩
 rw [← hpl] at hbp hp
 have hbk1:=fun w=>build_raw 1 w
 obtain ⟨k1,hk1e⟩:∃ b:List Int,b=[(1:Int),0,0,0]:=⟨_,rfl⟩
 rw [← hk1e] at hbp hbk1
 have HBK1:=Lib.hid hbk1
 have HBP:=Lib.hid hbp
 have HP:=Lib.hid hp
 have HPL:=Lib.hid hp.len
 obtain ⟨zp,hzp⟩:∃ zs:List Int,zs=List.replicate 16 0:=⟨_,rfl⟩
 have HZzp:Hid (∀ w,(zeroValue 133).run Tryd.prog w = .ok (.agg (arr .u64 zp)) w):=Lib.hid (by intro w;rw [hzp];exact zero_cpt w)
 have HLzp:Hid (zp.length=16):=Lib.hid (by rw [hzp];rfl)
 have HS0:=Lib.hid (Blk.one w (arr .u64 zp) 133)
 clear hzp hbp hp hpl hbk1 hk1e
 go_enter Tryd.func128, Tryd.ntmps128
 go_wp2_with (first|((with_reducible refine aS 0 ?_);refine wpList_alloc_row rfl 133 rfl _ (HZzp.out _) ?_)|((with_reducible refine aS 1 ?_);refine wpList_build (by rfl) 131 _ rfl #[(0, .int .u64 1)] rfl _ (HBK1.out _) ?_)|((with_reducible refine aS 2 ?_);refine wpList_build (by rfl) 131 _ rfl #[(0, .int .u64 1)] rfl _ (HBK1.out _) ?_)|((with_reducible refine aS 3 ?_);refine wpList_build (by rfl) 133 _ rfl #[(1, .agg (arr .u64 k1)),(2, .agg (arr .u64 k1))] rfl _ (HBP.out _) ?_)|((with_reducible refine aT 0 ?_);refine wpList_store_whole rfl 133 _ _ rfl (w.heap.size) _ _ 133 (HS0.out.get 0 rfl) rfl rfl (arr_len2 _ _ HPL.out HLzp.out) (cpt_s HPL.out) (all_arr _ _) ?_;intro w7 hb7 hk7 hz7;have HB7:=Lib.hid (HS0.out.put 0 rfl hk7 hb7);clear hb7 hk7 hz7))
 (try simp only [Exit.then])
 refine bodyPost_ret (results_cell_row rfl _ _ (w.heap.size) 133 _ (0,0) _ rfl (HB7.out.get 0 rfl) Tryd.underlying133 rfl (cpt_s HPL.out)) rfl ?_
 exact ⟨_,rfl,HP.out,HB7.out.below⟩
theorem emul_next (P:Pt) (k n:Nat):emul P k (n+1)=if k / 2 ^ (255 - n) % 2=1 then eadd (eadd (emul P k n) (emul P k n)) P else eadd (emul P k n) (emul P k n):=rfl
theorem ptimes_any {ps ks:List Int} (P:Pt) (k:Nat) (w:World) (hp:P4 ps P) (hk:K32 ks k):Calls Tryd.prog 85 #[.agg (arr .u64 ps), .agg (arr .u8 ks)] w fun e w'=>∃ zs,e = .returned (.agg (arr .u64 zs))∧P4 zs (emul P k 256)∧Below w.heap.size w w':=by
 have HP:=Lib.hid hp
 have HPL:=Lib.hid hp.len
 have HK:=Lib.hid hk
 have HKL:=Lib.hid hk.len
 obtain ⟨zl,hzl⟩:∃ zs:List Int,zs=List.replicate 4 0:=⟨_,rfl⟩
 have HZzl:Hid (∀ w,(zeroValue 131).run Tryd.prog w = .ok (.agg (arr .u64 zl)) w):=Lib.hid (by intro w;rw [hzl];exact zero_lim w)
 have HLzl:Hid (zl.length=4):=Lib.hid (by rw [hzl];rfl)
 obtain ⟨zp,hzp⟩:∃ zs:List Int,zs=List.replicate 16 0:=⟨_,rfl⟩
 have HZzp:Hid (∀ w,(zeroValue 133).run Tryd.prog w = .ok (.agg (arr .u64 zp)) w):=Lib.hid (by intro w;rw [hzp];exact zero_cpt w)
 have HLzp:Hid (zp.length=16):=Lib.hid (by rw [hzp];rfl)
 have HS0:=Lib.hid (Blk.three w (arr .u64 ps) (arr .u8 ks) (arr .u64 zp) 133 23 133)
 clear hzl hzp hp hk
 go_enter Tryd.func85, Tryd.ntmps85
 go_upto_region 1 with (first|((with_reducible refine aS 4 ?_);refine wpList_alloc_row rfl 133 rfl _ (HZzp.out _) ?_))
 (try simp only [World.size_alloc,Act.put,sA,sZ,sS])
 generalize (((w.alloc (.cells (arr .u64 ps) 133)).alloc (.cells (arr .u8 ks) 23)).alloc (.cells (arr .u64 zp) 133))=wb at HS0 ⊢
 go_upto_region 2 with (first|((with_reducible refine aS 8 ?_);refine wpList_load_part rfl 23 _ rfl (w.heap.size+1) (0) _ 23 (0,0) _ (HS0.out.get 1 rfl) rfl .u8 ks (arr_part _ _) Tryd.underlying23 rfl (num_i HKL.out) ?_)|((with_reducible show Calls _ 117 #[.agg _] _ _);go_at_call 117; refine (of4 _ _ HK.out).mono ?_;rintro e w3305 ⟨z3305,rfl,h3305,hb3305⟩;have HZ3305:=Lib.hid h3305;have HL3305:=Lib.hid h3305.len;clear h3305;have HB3305:=Lib.hid (HS0.out.kept hb3305);clear hb3305)|((with_reducible refine aS 5 ?_);refine wpList_alloc_row rfl 131 rfl _ (HZzl.out _) ?_;have HB3306:=Lib.hid (HB3305.out.alloc (arr .u64 zl) 131);generalize w3305.heap.size=g3306 at HB3306 ⊢; generalize w3305.alloc (.cells (arr .u64 zl) 131)=w3306 at HB3306 ⊢; clear HB3305)|((with_reducible refine aT 5 (x:=(Operand.tmp 9)) ?_);refine wpList_store_whole rfl 131 _ _ rfl (g3306) _ _ 131 (HB3306.out.get 3 rfl) rfl rfl (arr_len2 _ _ HL3305.out HLzl.out) (lim_s HL3305.out) (all_arr _ _) ?_;intro w3307 hb3307 hk3307 hz3307;have HB3307:=Lib.hid (HB3306.out.put 3 rfl hk3307 hb3307);clear hb3307 hk3307 hz3307;clear HB3306))
 (try simp only [World.size_alloc,Act.put,sA,sZ,sS])
 go_wp2_with (first|((with_reducible show Calls _ 128 #[] _ _);go_at_call 128; refine (none_any _).mono ?_;rintro e w3308 ⟨z3308,rfl,h3308,hb3308⟩;have HZ3308:=Lib.hid h3308;have HL3308:=Lib.hid h3308.len;clear h3308;have HB3308:=Lib.hid (HB3307.out.kept hb3308);clear hb3308;clear HB3307)|((with_reducible refine aS 6 ?_);refine wpList_alloc_row rfl 133 rfl _ (HZzp.out _) ?_;have HB3309:=Lib.hid (HB3308.out.alloc (arr .u64 zp) 133);generalize w3308.heap.size=g3309 at HB3309 ⊢; generalize w3308.alloc (.cells (arr .u64 zp) 133)=w3309 at HB3309 ⊢; clear HB3308)|((with_reducible refine aT 6 (x:=(Operand.tmp 10)) ?_);refine wpList_store_whole rfl 133 _ _ rfl (g3309) _ _ 133 (HB3309.out.get 4 rfl) rfl rfl (arr_len2 _ _ HL3308.out HLzp.out) (cpt_s HL3308.out) (all_arr _ _) ?_;intro w3310 hb3310 hk3310 hz3310;have HB3310:=Lib.hid (HB3309.out.put 4 rfl hk3310 hb3310);clear hb3310 hk3310 hz3310;clear HB3309))
 go_loopw [7] (fun v' wr=>∃ n:Nat,n≤256∧v' = .int .i64 (255 - (n:Int))∧∃ cs:List Int,P4 cs (emul P k n)∧Blk w wr [(w.heap.size,arr .u64 ps, 133),(w.heap.size+1,arr .u8 ks, 23),(w.heap.size+1+1,arr .u64 zp, 133),(g3306,(arr .u64 z3305), 131),(g3309,arr .u64 cs, 133)]) (fun v' _=>(intOf v'+1).toNat)
 case atStart=>exact ⟨0,Nat.zero_le _,rfl,_,HZ3308.out,HB3310.out⟩
 case round =>
 obtain ⟨n,hn,rfl,cs,hcs,hB⟩:=hrel
 have HCS:=Lib.hid hcs
 have HCL:=Lib.hid hcs.len
 have HB:=Lib.hid hB
 clear hcs hB HB3310
 by_cases hlt:n < 256
 ·obtain ⟨i,hi⟩:∃ i:Nat,i+n=255:=⟨255 - n,by omega⟩
  have hz:(255:Int) - (n:Int)=(i:Int):=by omega
  have hi2:i < 256:=by omega
  have hpn:=emul_next P k n
  rw [show 255 - n=i by omega] at hpn
  rw [hz]
  have HI:=Lib.hid hi
  clear hz hi
  have q9:0≤(i:Int):=by omega
  rcases (show k / 2 ^ i % 2=0∨k / 2 ^ i % 2=1 by omega) with hb|hb
  ·rw [if_neg (by omega)] at hpn
   have HPN:=Lib.hid hpn
   have HBT:=Lib.hid hb
   clear hpn hb
   go_upto_region 7 with (first|((with_reducible refine aS 15 ?_);refine wpList_load_part rfl 133 _ rfl (g3309) (0) _ 133 (0,0) _ (HB.out.get 4 rfl) rfl .u64 cs (arr_part _ _) Tryd.underlying133 rfl (cpt_i HCL.out) ?_)|((with_reducible refine aS 16 ?_);refine wpList_load_part rfl 133 _ rfl (g3309) (0) _ 133 (0,0) _ (HB.out.get 4 rfl) rfl .u64 cs (arr_part _ _) Tryd.underlying133 rfl (cpt_i HCL.out) ?_)|((with_reducible show Calls _ 93 #[.agg _, .agg _] _ _);go_at_call 93; refine (padd_any _ _ _ HCS.out HCS.out).mono ?_;rintro e w3311 ⟨z3311,rfl,h3311,hb3311⟩;have HZ3311:=Lib.hid h3311;have HL3311:=Lib.hid h3311.len;clear h3311;have HB3311:=Lib.hid (HB.out.kept hb3311);clear hb3311)|((with_reducible refine aT 6 (x:=(Operand.tmp 17)) ?_);refine wpList_store_whole rfl 133 _ _ rfl (g3309) _ _ 133 (HB3311.out.get 4 rfl) rfl rfl (arr_len2 _ _ HL3311.out HCL.out) (cpt_s HL3311.out) (all_arr _ _) ?_;intro w3312 hb3312 hk3312 hz3312;have HB3312:=Lib.hid (HB3311.out.put 4 rfl hk3312 hb3312);clear hb3312 hk3312 hz3312;clear HB3311))
   (try simp only [World.size_alloc,Act.put,sA,sZ,sS])
   have hbv:(((0:Nat):Int) == 1)=false:=rfl
   go_wp2_with (first|((with_reducible refine aS 18 ?_);refine wpList_load_part rfl 131 _ rfl (g3306) (0) _ 131 (0,0) _ (HB3312.out.get 3 rfl) rfl .u64 z3305 (arr_part _ _) Tryd.underlying131 rfl (lim_i HL3305.out) ?_)|((with_reducible show Calls _ 129 #[.agg _,_] _ _);go_at_call 129; refine (bit_any _ i _ _ HZ3305.out hi2 HBT.out).mono ?_;rintro e w3313 ⟨rfl,hb3313⟩;have HB3313:=Lib.hid (HB3312.out.kept hb3313);clear hb3313;clear HB3312))
   go_roundw
   case rel =>
    have e:=HI.out
    exact ⟨n+1,by omega,by congr 1;omega,_,by rw [HPN.out];exact HZ3311.out,HB3313.out⟩
   case measure=>simp [intOf]
  ·rw [if_pos hb] at hpn
   have HPN:=Lib.hid hpn
   have HBT:=Lib.hid hb
   clear hpn hb
   go_upto_region 7 with (first|((with_reducible refine aS 15 ?_);refine wpList_load_part rfl 133 _ rfl (g3309) (0) _ 133 (0,0) _ (HB.out.get 4 rfl) rfl .u64 cs (arr_part _ _) Tryd.underlying133 rfl (cpt_i HCL.out) ?_)|((with_reducible refine aS 16 ?_);refine wpList_load_part rfl 133 _ rfl (g3309) (0) _ 133 (0,0) _ (HB.out.get 4 rfl) rfl .u64 cs (arr_part _ _) Tryd.underlying133 rfl (cpt_i HCL.out) ?_)|((with_reducible show Calls _ 93 #[.agg _, .agg _] _ _);go_at_call 93; refine (padd_any _ _ _ HCS.out HCS.out).mono ?_;rintro e w3314 ⟨z3314,rfl,h3314,hb3314⟩;have HZ3314:=Lib.hid h3314;have HL3314:=Lib.hid h3314.len;clear h3314;have HB3314:=Lib.hid (HB.out.kept hb3314);clear hb3314)|((with_reducible refine aT 6 (x:=(Operand.tmp 17)) ?_);refine wpList_store_whole rfl 133 _ _ rfl (g3309) _ _ 133 (HB3314.out.get 4 rfl) rfl rfl (arr_len2 _ _ HL3314.out HCL.out) (cpt_s HL3314.out) (all_arr _ _) ?_;intro w3315 hb3315 hk3315 hz3315;have HB3315:=Lib.hid (HB3314.out.put 4 rfl hk3315 hb3315);clear hb3315 hk3315 hz3315;clear HB3314))
   (try simp only [World.size_alloc,Act.put,sA,sZ,sS])
   have hbv:(((1:Nat):Int) == 1)=true:=rfl
   go_wp2_with (first|((with_reducible refine aS 18 ?_);refine wpList_load_part rfl 131 _ rfl (g3306) (0) _ 131 (0,0) _ (HB3315.out.get 3 rfl) rfl .u64 z3305 (arr_part _ _) Tryd.underlying131 rfl (lim_i HL3305.out) ?_)|((with_reducible show Calls _ 129 #[.agg _,_] _ _);go_at_call 129; refine (bit_any _ i _ _ HZ3305.out hi2 HBT.out).mono ?_;rintro e w3316 ⟨rfl,hb3316⟩;have HB3316:=Lib.hid (HB3315.out.kept hb3316);clear hb3316;clear HB3315)|((with_reducible refine aS 22 ?_);refine wpList_load_part rfl 133 _ rfl (g3309) (0) _ 133 (0,0) _ (HB3316.out.get 4 rfl) rfl .u64 z3314 (arr_part _ _) Tryd.underlying133 rfl (cpt_i HL3314.out) ?_)|((with_reducible refine aS 23 ?_);refine wpList_load_part rfl 133 _ rfl (w.heap.size) (0) _ 133 (0,0) _ (HB3316.out.get 0 rfl) rfl .u64 ps (arr_part _ _) Tryd.underlying133 rfl (cpt_i HPL.out) ?_)|((with_reducible show Calls _ 93 #[.agg _, .agg _] _ _);go_at_call 93; refine (padd_any _ _ _ HZ3314.out HP.out).mono ?_;rintro e w3317 ⟨z3317,rfl,h3317,hb3317⟩;have HZ3317:=Lib.hid h3317;have HL3317:=Lib.hid h3317.len;clear h3317;have HB3317:=Lib.hid (HB3316.out.kept hb3317);clear hb3317;clear HB3316)|((with_reducible refine aT 6 (x:=(Operand.tmp 24)) ?_);refine wpList_store_whole rfl 133 _ _ rfl (g3309) _ _ 133 (HB3317.out.get 4 rfl) rfl rfl (arr_len2 _ _ HL3317.out HL3314.out) (cpt_s HL3317.out) (all_arr _ _) ?_;intro w3318 hb3318 hk3318 hz3318;have HB3318:=Lib.hid (HB3317.out.put 4 rfl hk3318 hb3318);clear hb3318 hk3318 hz3318;clear HB3317))
   go_roundw
   case rel =>
    have e:=HI.out
    exact ⟨n+1,by omega,by congr 1;omega,_,by rw [HPN.out];exact HZ3317.out,HB3318.out⟩
   case measure=>simp [intOf]
 ·obtain rfl:n=256:=by omega
  have hz:(255:Int) - ((256:Nat):Int) = -1:=by omega
  rw [hz]
  clear hz
  go_wp2_with (first|((with_reducible refine aS 25 ?_);refine wpList_load_part rfl 133 _ rfl (g3309) (0) _ 133 (0,0) _ (HB.out.get 4 rfl) rfl .u64 cs (arr_part _ _) Tryd.underlying133 rfl (cpt_i HCL.out) ?_)|((with_reducible refine aT 4 (x:=(Operand.tmp 25)) ?_);refine wpList_store_whole rfl 133 _ _ rfl (w.heap.size+1+1) _ _ 133 (HB.out.get 2 rfl) rfl rfl (arr_len2 _ _ HCL.out HLzp.out) (cpt_s HCL.out) (all_arr _ _) ?_;intro w3319 hb3319 hk3319 hz3319;have HB3319:=Lib.hid (HB.out.put 2 rfl hk3319 hb3319);clear hb3319 hk3319 hz3319))
  (try simp only [Exit.inBlock,Exit.then])
  refine bodyPost_ret (results_cell_row rfl _ _ (w.heap.size+1+1) 133 _ (0,0) _ rfl (HB3319.out.get 2 rfl) Tryd.underlying133 rfl (cpt_s HCL.out)) rfl ?_
  exact ⟨_,rfl,HCS.out,HB3319.out.below⟩
end Go.Proofs.YtodnkallpfkdiaaDoor.Sl
namespace Go.Proofs.YtodnkallpfkdiaaDoor.Sl
open Go.RowKit Lm Fp Cu Rd
theorem or_top (t b:Nat) (ht:t < 128) (hb:b=0∨b=1):bits .or .u8 (t:Int) ((b:Int) * 128)=((t+128 * b:Nat):Int):=by
 have h1:(BitVec.ofInt 8 (t:Int)).toNat=t:=by rw [BitVec.ofInt_natCast,BitVec.toNat_ofNat];exact Nat.mod_eq_of_lt (by omega)
 rcases hb with rfl|rfl
 ·show IntKind.u8.wrap ((BitVec.ofInt 8 (t:Int) ||| BitVec.ofInt 8 (((0:Nat):Int) * 128)).toNat:Int)=_
  rw [BitVec.toNat_or,h1,show (BitVec.ofInt 8 (((0:Nat):Int) * 128)).toNat=0 from by decide,Nat.or_zero,IntKind.wrap_u8]
  omega
 ·show IntKind.u8.wrap ((BitVec.ofInt 8 (t:Int) ||| BitVec.ofInt 8 (((1:Nat):Int) * 128)).toNat:Int)=_
  have h3:t ||| 128=128+t:=by
   rw [Nat.or_comm]
   have:=Nat.two_pow_add_eq_or_of_lt (i:=7) (b:=t) (by omega) 1
   simpa using this.symm
  rw [BitVec.toNat_or,h1,show (BitVec.ofInt 8 (((1:Nat):Int) * 128)).toNat=128 from by decide,h3,IntKind.wrap_u8]
  omega
theorem pbytes_any {ps:List Int} (P:Pt) (w:World) (hp:P4 ps P):Calls Tryd.prog 86 #[.agg (arr .u64 ps)] w fun e w'=>∃ zs,e = .returned (.agg (arr .u8 zs))∧K32 zs (ebytes P)∧Below w.heap.size w w':=by
 obtain ⟨mx,my,mz,mt,hme,hmx,hmy,hmz,hmt,hmok⟩:=hp.parts
 have Hmx:=Lib.hid hmx
 have HmxL:=Lib.hid hmx.len
 have Hmy:=Lib.hid hmy
 have HmyL:=Lib.hid hmy.len
 have Hmz:=Lib.hid hmz
 have HmzL:=Lib.hid hmz.len
 have Hmt:=Lib.hid hmt
 have HmtL:=Lib.hid hmt.len
 have HmW:=Lib.hid hp.len
 have Hmok:=Lib.hid hmok
 have hmP:=four_part4 .u64 mx my mz mt 4 hmx.len hmy.len hmz.len hmt.len
 rw [← hme] at hmP
 have HmP:=Lib.hid hmP
 clear hmx hmy hmz hmt hme hmP hmok
 obtain ⟨zl,hzl⟩:∃ zs:List Int,zs=List.replicate 4 0:=⟨_,rfl⟩
 have HZzl:Hid (∀ w,(zeroValue 131).run Tryd.prog w = .ok (.agg (arr .u64 zl)) w):=Lib.hid (by intro w;rw [hzl];exact zero_lim w)
 have HLzl:Hid (zl.length=4):=Lib.hid (by rw [hzl];rfl)
 obtain ⟨zn,hzn⟩:∃ zs:List Int,zs=List.replicate 32 0:=⟨_,rfl⟩
 have HZzn:Hid (∀ w,(zeroValue 23).run Tryd.prog w = .ok (.agg (arr .u8 zn)) w):=Lib.hid (by intro w;rw [hzn];exact zero_num w)
 have HLzn:Hid (zn.length=32):=Lib.hid (by rw [hzn];rfl)
 obtain ⟨X,hX⟩:∃ x,x=fmul P.x (finv P.z):=⟨_,rfl⟩
 obtain ⟨Y,hY⟩:∃ x,x=fmul P.y (finv P.z):=⟨_,rfl⟩
 have hYlt:Y < 2 ^ 255:=by rw [hY];exact Nat.lt_of_lt_of_le (fmul_lt _ _) (by decide +kernel)
 have hYK:Y < 256 ^ 32:=Nat.lt_of_lt_of_le hYlt (by decide)
 have hen:=enc_set Y (X % 2) hYlt (by omega)
 obtain ⟨ht1,ht2⟩:=top_byte Y hYlt
 have heb:ebytes P=Y+2 ^ 255 * (X % 2):=by rw [hX,hY];rfl
 have hebl:=ebytes_lt P
 obtain ⟨E,hE⟩:∃ x,x=ebytes P:=⟨_,rfl⟩
 rw [← hE] at heb hebl
 rw [← hE]
 rw [← heb] at hen
 have g1:(nar (dig 256 32 Y)).getD 31 0=((Y / 256 ^ 31:Nat):Int):=by rw [nar_get,ht1]
 have hfin:(nar (dig 256 32 Y)).set 31 ((Y / 256 ^ 31+128 * (X % 2):Nat):Int)=nar (dig 256 32 E):=by rw [← nar_set,hen]
 have hb0:X / 2 ^ 0 % 2=X % 2:=by simp
 have hb01:X % 2=0∨X % 2=1:=by omega
 have hor:=or_top (Y / 256 ^ 31) (X % 2) ht2 hb01
 generalize X % 2=bq at hfin hb0 hb01 hor
 generalize Y / 256 ^ 31=tq at g1 hfin hor
 obtain ⟨rs,hrs⟩:∃ r,r=nar (dig 256 32 E):=⟨_,rfl⟩
 obtain ⟨ys,hys⟩:∃ r,r=nar (dig 256 32 Y):=⟨_,rfl⟩
 have HRS:Hid (K32 rs E):=Lib.hid ⟨hrs,hebl⟩
 have HRL:=Lib.hid HRS.out.len
 have HYS:Hid (K32 ys Y):=Lib.hid ⟨hys,hYK⟩
 have HYL:=Lib.hid HYS.out.len
 rw [← hys] at g1 hfin
 rw [← hrs] at hfin
 have HG1:=Lib.hid g1
 have HFN:=Lib.hid hfin
 have HOR:=Lib.hid hor
 have HX:=Lib.hid hX
 have HY:=Lib.hid hY
 have HB0:=Lib.hid hb0
 have HB01:=Lib.hid hb01
 have HS0:=Lib.hid (Blk.two w (arr .u64 ps) (arr .u8 zn) 133 23)
 clear hzl hzn hp hX hY hYlt hYK hen ht1 ht2 heb hebl hE g1 hfin hb0 hb01 hor hrs hys
 go_enter Tryd.func86, Tryd.ntmps86
 go_upto_region 1 with (first|((with_reducible refine aS 2 ?_);refine wpList_alloc_row rfl 23 rfl _ (HZzn.out _) ?_))
 (try simp only [World.size_alloc,Act.put,sA,sZ,sS])
 generalize ((w.alloc (.cells (arr .u64 ps) 133)).alloc (.cells (arr .u8 zn) 23))=wb at HS0 ⊢
 go_upto_region 2 with (first|((with_reducible refine aS 6 ?_);refine wpList_load_part rfl 131 _ rfl (w.heap.size) (8) _ 133 (0,0) _ (HS0.out.get 0 rfl) rfl .u64 mz (HmP.out.2.2.1) Tryd.underlying131 rfl (lim_i HmzL.out) ?_)|((with_reducible show Calls _ 124 #[.agg _] _ _);go_at_call 124; refine (inverse_any _ _ Hmz.out).mono ?_;rintro e w3401 ⟨z3401,rfl,h3401,hb3401⟩;have HZ3401:=Lib.hid h3401;have HL3401:=Lib.hid h3401.len;clear h3401;have HB3401:=Lib.hid (HS0.out.kept hb3401);clear hb3401)|((with_reducible refine aS 3 ?_);refine wpList_alloc_row rfl 131 rfl _ (HZzl.out _) ?_;have HB3402:=Lib.hid (HB3401.out.alloc (arr .u64 zl) 131);generalize w3401.heap.size=g3402 at HB3402 ⊢; generalize w3401.alloc (.cells (arr .u64 zl) 131)=w3402 at HB3402 ⊢; clear HB3401)|((with_reducible refine aT 3 (x:=(Operand.tmp 7)) ?_);refine wpList_store_whole rfl 131 _ _ rfl (g3402) _ _ 131 (HB3402.out.get 2 rfl) rfl rfl (arr_len2 _ _ HL3401.out HLzl.out) (lim_s HL3401.out) (all_arr _ _) ?_;intro w3403 hb3403 hk3403 hz3403;have HB3403:=Lib.hid (HB3402.out.put 2 rfl hk3403 hb3403);clear hb3403 hk3403 hz3403;clear HB3402))
 (try simp only [World.size_alloc,Act.put,sA,sZ,sS])
 go_upto_region 3 with (first|((with_reducible refine aS 9 ?_);refine wpList_load_part rfl 131 _ rfl (w.heap.size) (4) _ 133 (0,0) _ (HB3403.out.get 0 rfl) rfl .u64 my (HmP.out.2.1) Tryd.underlying131 rfl (lim_i HmyL.out) ?_)|((with_reducible refine aS 10 ?_);refine wpList_load_part rfl 131 _ rfl (g3402) (0) _ 131 (0,0) _ (HB3403.out.get 2 rfl) rfl .u64 z3401 (arr_part _ _) Tryd.underlying131 rfl (lim_i HL3401.out) ?_)|((with_reducible show Calls _ 119 #[.agg _, .agg _] _ _);go_at_call 119; refine (times_any _ _ _ Hmy.out HZ3401.out).mono ?_;rintro e w3404 ⟨z3404,rfl,h3404,hb3404⟩;have HZ3404:=Lib.hid h3404;have HL3404:=Lib.hid h3404.len;clear h3404;have HB3404:=Lib.hid (HB3403.out.kept hb3404);clear hb3404;clear HB3403)|((with_reducible show Calls _ 130 #[.agg _] _ _);go_at_call 130; refine (num4 _ _ HZ3404.out).mono ?_;rintro e w3405 ⟨z3405,rfl,h3405,hb3405⟩;have HZ3405:=Lib.hid h3405;have HL3405:=Lib.hid h3405.len;clear h3405;have HB3405:=Lib.hid (HB3404.out.kept hb3405);clear hb3405;clear HB3404)|((with_reducible refine aS 4 ?_);refine wpList_alloc_row rfl 23 rfl _ (HZzn.out _) ?_;have HB3406:=Lib.hid (HB3405.out.alloc (arr .u8 zn) 23);generalize w3405.heap.size=g3406 at HB3406 ⊢; generalize w3405.alloc (.cells (arr .u8 zn) 23)=w3406 at HB3406 ⊢; clear HB3405)|((with_reducible refine aT 4 (x:=(Operand.tmp 12)) ?_);refine wpList_store_whole rfl 23 _ _ rfl (g3406) _ _ 23 (HB3406.out.get 3 rfl) rfl rfl (arr_len2 _ _ HL3405.out HLzn.out) (num_s HL3405.out) (all_arr _ _) ?_;intro w3407 hb3407 hk3407 hz3407;have HB3407:=Lib.hid (HB3406.out.put 3 rfl hk3407 hb3407);clear hb3407 hk3407 hz3407;clear HB3406))
 (try simp only [World.size_alloc,Act.put,sA,sZ,sS])
 obtain rfl:z3405=ys:=by rw [HZ3405.out.1,HYS.out.1,HY.out]
 obtain ⟨z5501,hz5501⟩:∃ z:List Int,z=nar (dig 18446744073709551616 4 (fmul P.x (finv P.z))):=⟨_,rfl⟩
 have HE5501:=Lib.hid hz5501
 have HL5501:Hid (z5501.length=4):=Lib.hid (by rw [hz5501];exact (nar_len _).trans (dig_len _ _ _))
 clear hz5501
 refine wp_region_lin (fun (fF:Fill) (uF:World)=>(∀ v,fF 0=some v→v = .pointer (some ⟨g3406,31,none⟩)∧True)∧(∀ v,fF 1=some v→v = .int .u8 (tq:Int)∧True)∧(∀ v,fF 2=some v→v = .pointer (some ⟨w.heap.size,0,none⟩)∧True)∧(∀ v,fF 3=some v→v = .agg (arr .u64 mx)∧True)∧(∀ v,fF 4=some v→v = .agg (arr .u64 z3401)∧True)∧(∀ v,fF 5=some v→v = .agg (arr .u64 z5501)∧N4 z5501 (fmul P.x (finv P.z)))∧(∀ v,fF 6=some v→v = .int .u64 (bq:Int)∧True)∧(∀ v,fF 7=some v→v = .int .u8 (bq:Int)∧True)∧(∀ v,fF 8=some v→v = .int .u8 ((bq:Int) * 128)∧True)∧(∀ v,fF 9=some v→v = .int .u8 (bits .or .u8 (tq:Int) ((bq:Int) * 128))∧True)∧(∀ v,fF 10=some v→v = .pointer (some ⟨g3406,31,none⟩)∧True)∧Blk w uF ([(w.heap.size,arr .u64 ps, 133),(w.heap.size+1,arr .u8 zn, 23),(g3402,(arr .u64 z3401), 131),(g3406,(if (fF 11).isSome=true then arr .u8 rs else (arr .u8 z3405)), 23)])) (by kernel_rfl) (by kernel_rfl) ?zb3 ?sb3 ?eb3
 case zb3=>exact ⟨fun _ h=>(by cases h),fun _ h=>(by cases h),fun _ h=>(by cases h),fun _ h=>(by cases h),fun _ h=>(by cases h),fun _ h=>(by cases h),fun _ h=>(by cases h),fun _ h=>(by cases h),fun _ h=>(by cases h),fun _ h=>(by cases h),fun _ h=>(by cases h),HB3407.out.drew⟩
 case sb3 =>
  refine LinAll.cons (fun fF bF uF kF hJF hfF hcF hupF hsF hKF=>?_) ?_
  ·obtain ⟨j0,j1,j2,j3,j4,j5,j6,j7,j8,j9,j10,hB⟩:=hJF
   have e4:bF.eval (.tmp 4) = .pointer (some ⟨g3406,0,none⟩):=hsF.old' 4 (by kernel_rfl) rfl
   exact lin_pure rfl (.pointer (some ⟨g3406,31,none⟩)) (by simp only [execOp,e4] <;> first|rfl|kernel_rfl|(go_simp;done)) (hKF _ _ ⟨fun _ h=>⟨sI h,trivial⟩,j1,j2,j3,j4,j5,j6,j7,j8,j9,j10,hB⟩)
  refine LinAll.cons (fun fF bF uF kF hJF hfF hcF hupF hsF hKF=>?_) ?_
  ·obtain ⟨j0,j1,j2,j3,j4,j5,j6,j7,j8,j9,j10,hB⟩:=hJF
   obtain ⟨e13,p13⟩:=hsF.at hupF 0 13 (by kernel_rfl) rfl j0
   have n11:=hcF.down 11 1 (by kernel_rfl) hfF
   have hB':=hB
   rw [n11] at hB'
   have q0:=arr_get' (k := .u8) (xs:=z3405) (hB'.get 3 rfl) 31 (by rw [HYL.out];decide)
   rw [HG1.out] at q0
   exact lin_pure rfl (.int .u8 (tq:Int)) (by simp only [execOp,e13];go_simp;done) (hKF _ _ ⟨j0,fun _ h=>⟨sI h,trivial⟩,j2,j3,j4,j5,j6,j7,j8,j9,j10,hB⟩)
  refine LinAll.cons (fun fF bF uF kF hJF hfF hcF hupF hsF hKF=>?_) ?_
  ·obtain ⟨j0,j1,j2,j3,j4,j5,j6,j7,j8,j9,j10,hB⟩:=hJF
   have e1:bF.eval (.tmp 1) = .pointer (some ⟨w.heap.size,0,none⟩):=hsF.old' 1 (by kernel_rfl) rfl
   exact lin_pure rfl (.pointer (some ⟨w.heap.size,0,none⟩)) (by simp only [execOp,e1] <;> first|rfl|kernel_rfl|(go_simp;done)) (hKF _ _ ⟨j0,j1,fun _ h=>⟨sI h,trivial⟩,j3,j4,j5,j6,j7,j8,j9,j10,hB⟩)
  refine LinAll.cons (fun fF bF uF kF hJF hfF hcF hupF hsF hKF=>?_) ?_
  ·obtain ⟨j0,j1,j2,j3,j4,j5,j6,j7,j8,j9,j10,hB⟩:=hJF
   obtain ⟨e15,p15⟩:=hsF.at hupF 2 15 (by kernel_rfl) rfl j2
   have hB':=hB
   refine step_load_part rfl 131 _ rfl (w.heap.size) (0) (arr .u64 ps) 133 (0,0) _ (hB'.get 0 rfl) e15 .u64 mx (HmP.out.1) Tryd.underlying131 rfl (lim_i HmxL.out) ?_
   exact hKF _ _ ⟨j0,j1,j2,fun _ h=>⟨sI h,trivial⟩,j4,j5,j6,j7,j8,j9,j10,hB⟩
  refine LinAll.cons (fun fF bF uF kF hJF hfF hcF hupF hsF hKF=>?_) ?_
  ·obtain ⟨j0,j1,j2,j3,j4,j5,j6,j7,j8,j9,j10,hB⟩:=hJF
   have e3:bF.eval (.tmp 3) = .pointer (some ⟨g3402,0,none⟩):=hsF.old' 3 (by kernel_rfl) rfl
   have hB':=hB
   refine step_load_part rfl 131 _ rfl (g3402) (0) ((arr .u64 z3401)) 131 (0,0) _ (hB'.get 2 rfl) e3 .u64 z3401 (arr_part _ _) Tryd.underlying131 rfl (lim_i HL3401.out) ?_
   exact hKF _ _ ⟨j0,j1,j2,j3,fun _ h=>⟨sI h,trivial⟩,j5,j6,j7,j8,j9,j10,hB⟩
  refine LinAll.cons (fun fF bF uF kF hJF hfF hcF hupF hsF hKF=>?_) ?_
  ·obtain ⟨j0,j1,j2,j3,j4,j5,j6,j7,j8,j9,j10,hB⟩:=hJF
   obtain ⟨e16,p16⟩:=hsF.at hupF 3 16 (by kernel_rfl) rfl j3
   obtain ⟨e17,p17⟩:=hsF.at hupF 4 17 (by kernel_rfl) rfl j4
   refine lin_call rfl 119 [Operand.tmp 16,Operand.tmp 17] _ [.agg (arr .u64 mx), .agg (arr .u64 z3401)] rfl (by simp only [List.map_cons,List.map_nil,e16,e17] <;> rfl) (fun _ _=>by kernel_rfl) ?_
   refine Calls.mono (times_any _ _ _ Hmx.out HZ3401.out) ?_
   rintro e w1 ⟨y5502_0,rfl,r5502_0,hb⟩
   obtain rfl:y5502_0=z5501:=r5502_0.1.trans HE5501.out.symm
   exact ⟨_,rfl,hKF _ _ ⟨j0,j1,j2,j3,j4,fun _ h=>⟨sI h,r5502_0⟩,j6,j7,j8,j9,j10,hB.kept hb⟩⟩
  refine LinAll.cons (fun fF bF uF kF hJF hfF hcF hupF hsF hKF=>?_) ?_
  ·obtain ⟨j0,j1,j2,j3,j4,j5,j6,j7,j8,j9,j10,hB⟩:=hJF
   obtain ⟨e18,p18⟩:=hsF.at hupF 5 18 (by kernel_rfl) rfl j5
   have y5:=hupF 5 (by kernel_rfl)
   obtain ⟨v5,s5⟩:=sE y5
   have HZ5501:=Lib.hid (j5 _ s5).2
   refine lin_call rfl 129 [Operand.tmp 18,Operand.const (Value.int IntKind.i64 0)] _ [.agg (arr .u64 z5501), .int .i64 0] rfl (by simp only [List.map_cons,List.map_nil,e18] <;> rfl) (fun _ _=>by kernel_rfl) ?_
   refine Calls.mono (bit_any X 0 bq _ (by rw [HX.out];exact HZ5501.out) (by decide) HB0.out) ?_
   rintro e w1 ⟨rfl,hb⟩
   exact ⟨_,rfl,hKF _ _ ⟨j0,j1,j2,j3,j4,j5,fun _ h=>⟨sI h,trivial⟩,j7,j8,j9,j10,hB.kept hb⟩⟩
  refine LinAll.cons (fun fF bF uF kF hJF hfF hcF hupF hsF hKF=>?_) ?_
  ·obtain ⟨j0,j1,j2,j3,j4,j5,j6,j7,j8,j9,j10,hB⟩:=hJF
   obtain ⟨e19,p19⟩:=hsF.at hupF 6 19 (by kernel_rfl) rfl j6
   exact lin_pure rfl (.int .u8 (bq:Int)) (by simp only [execOp,e19];have hb01:=HB01.out;clear HB01;rcases hb01 with rfl|rfl <;> rfl) (hKF _ _ ⟨j0,j1,j2,j3,j4,j5,j6,fun _ h=>⟨sI h,trivial⟩,j8,j9,j10,hB⟩)
  refine LinAll.cons (fun fF bF uF kF hJF hfF hcF hupF hsF hKF=>?_) ?_
  ·obtain ⟨j0,j1,j2,j3,j4,j5,j6,j7,j8,j9,j10,hB⟩:=hJF
   obtain ⟨e20,p20⟩:=hsF.at hupF 7 20 (by kernel_rfl) rfl j7
   exact lin_pure rfl (.int .u8 ((bq:Int) * 128)) (by simp only [execOp,e20];have hb01:=HB01.out;clear HB01;rcases hb01 with rfl|rfl <;> rfl) (hKF _ _ ⟨j0,j1,j2,j3,j4,j5,j6,j7,fun _ h=>⟨sI h,trivial⟩,j9,j10,hB⟩)
  refine LinAll.cons (fun fF bF uF kF hJF hfF hcF hupF hsF hKF=>?_) ?_
  ·obtain ⟨j0,j1,j2,j3,j4,j5,j6,j7,j8,j9,j10,hB⟩:=hJF
   obtain ⟨e14,p14⟩:=hsF.at hupF 1 14 (by kernel_rfl) rfl j1
   obtain ⟨e21,p21⟩:=hsF.at hupF 8 21 (by kernel_rfl) rfl j8
   exact lin_pure rfl (.int .u8 (bits .or .u8 (tq:Int) ((bq:Int) * 128))) (by simp only [execOp,e14,e21];first|rfl|(go_simp;done)) (hKF _ _ ⟨j0,j1,j2,j3,j4,j5,j6,j7,j8,fun _ h=>⟨sI h,trivial⟩,j10,hB⟩)
  refine LinAll.cons (fun fF bF uF kF hJF hfF hcF hupF hsF hKF=>?_) ?_
  ·obtain ⟨j0,j1,j2,j3,j4,j5,j6,j7,j8,j9,j10,hB⟩:=hJF
   have e4:bF.eval (.tmp 4) = .pointer (some ⟨g3406,0,none⟩):=hsF.old' 4 (by kernel_rfl) rfl
   exact lin_pure rfl (.pointer (some ⟨g3406,31,none⟩)) (by simp only [execOp,e4] <;> first|rfl|kernel_rfl|(go_simp;done)) (hKF _ _ ⟨j0,j1,j2,j3,j4,j5,j6,j7,j8,j9,fun _ h=>⟨sI h,trivial⟩,hB⟩)
  refine LinAll.cons (fun fF bF uF kF hJF hfF hcF hupF hsF hKF=>?_) ?_
  ·obtain ⟨j0,j1,j2,j3,j4,j5,j6,j7,j8,j9,j10,hB⟩:=hJF
   obtain ⟨e23,p23⟩:=hsF.at hupF 10 23 (by kernel_rfl) rfl j10
   obtain ⟨e22,p22⟩:=hsF.at hupF 9 22 (by kernel_rfl) rfl j9
   have hB':=hB
   rw [hfF] at hB'
   have q0:=arr_get' (k := .u8) (xs:=z3405) (hB'.get 3 rfl) 31 (by rw [HYL.out];decide)
   have q1:=free_blk (hB'.get 3 rfl) 31
   have hb2:=hB'.cell 3 rfl 31 (.int .u8 (bits .or .u8 (tq:Int) ((bq:Int) * 128)))
   have e9:(arr .u8 z3405).setIfInBounds 31 (.int .u8 (bits .or .u8 (tq:Int) ((bq:Int) * 128)))=arr .u8 rs:=by rw [HOR.out,arr_set,HFN.out]
   have hB1:Blk w (uF.setCell ⟨g3406,31,none⟩ (.int .u8 (bits .or .u8 (tq:Int) ((bq:Int) * 128)))) ([(w.heap.size,arr .u64 ps, 133),(w.heap.size+1,arr .u8 zn, 23),(g3402,(arr .u64 z3401), 131),(g3406,(if ((some undef:Option Value)).isSome=true then arr .u8 rs else (arr .u8 z3405)), 23)]):=hb2.cast (by rw [← e9];rfl)
   rw [if_pos (by simp [Region.wanted])]
   unfold Oper.wp
   simp only [execOp,e23,e22]
   go_simp
   exact hKF undef _ ⟨j0,j1,j2,j3,j4,j5,j6,j7,j8,j9,j10,hB1⟩
  exact LinAll.nil
 case eb3 =>
 intro fF ub3 hall hJF
 obtain ⟨j0,j1,j2,j3,j4,j5,j6,j7,j8,j9,j10,hB⟩:=hJF
 obtain ⟨v0,h0⟩:=sE (hall 0 (by decide))
 obtain ⟨rfl,p0⟩:=j0 _ h0
 obtain ⟨v1,h1⟩:=sE (hall 1 (by decide))
 obtain ⟨rfl,p1⟩:=j1 _ h1
 obtain ⟨v2,h2⟩:=sE (hall 2 (by decide))
 obtain ⟨rfl,p2⟩:=j2 _ h2
 obtain ⟨v3,h3⟩:=sE (hall 3 (by decide))
 obtain ⟨rfl,p3⟩:=j3 _ h3
 obtain ⟨v4,h4⟩:=sE (hall 4 (by decide))
 obtain ⟨rfl,p4⟩:=j4 _ h4
 obtain ⟨v5,h5⟩:=sE (hall 5 (by decide))
 obtain ⟨rfl,p5⟩:=j5 _ h5
 obtain ⟨v6,h6⟩:=sE (hall 6 (by decide))
 obtain ⟨rfl,p6⟩:=j6 _ h6
 obtain ⟨v7,h7⟩:=sE (hall 7 (by decide))
 obtain ⟨rfl,p7⟩:=j7 _ h7
 obtain ⟨v8,h8⟩:=sE (hall 8 (by decide))
 obtain ⟨rfl,p8⟩:=j8 _ h8
 obtain ⟨v9,h9⟩:=sE (hall 9 (by decide))
 obtain ⟨rfl,p9⟩:=j9 _ h9
 obtain ⟨v10,h10⟩:=sE (hall 10 (by decide))
 obtain ⟨rfl,p10⟩:=j10 _ h10
 obtain ⟨v11,h11⟩:=sE (hall 11 (by decide))
 rw [h11] at hB
 have HBb3:Hid (Blk w ub3 [(w.heap.size,arr .u64 ps, 133),(w.heap.size+1,arr .u8 zn, 23),(g3402,(arr .u64 z3401), 131),(g3406,arr .u8 rs, 23)]):=Lib.hid hB
 have HZ5501:=Lib.hid p5
 simp only [laid,Nat.zero_add,Nat.reduceAdd,h0,h1,h2,h3,h4,h5,h6,h7,h8,h9,h10,h11,Act.put,sA,sZ,sS]
 clear j0 j1 j2 j3 j4 j5 j6 j7 j8 j9 j10 hB h0 h1 h2 h3 h4 h5 h6 h7 h8 h9 h10 h11 hall fF HB3407
 clear p0 p1 p2 p3 p4 p5 p6 p7 p8 p9 p10
 (try simp only [Exit.then])
 go_wp2_with (first|((with_reducible refine aS 24 ?_);refine wpList_load_part rfl 23 _ rfl (g3406) (0) _ 23 (0,0) _ (HBb3.out.get 3 rfl) rfl .u8 rs (arr_part _ _) Tryd.underlying23 rfl (num_i HRL.out) ?_)|((with_reducible refine aT 2 (x:=(Operand.tmp 24)) ?_);refine wpList_store_whole rfl 23 _ _ rfl (w.heap.size+1) _ _ 23 (HBb3.out.get 1 rfl) rfl rfl (arr_len2 _ _ HRL.out HLzn.out) (num_s HRL.out) (all_arr _ _) ?_;intro w3408 hb3408 hk3408 hz3408;have HB3408:=Lib.hid (HBb3.out.put 1 rfl hk3408 hb3408);clear hb3408 hk3408 hz3408))
 (try simp only [Exit.then])
 refine bodyPost_ret (results_cell_row rfl _ _ (w.heap.size+1) 23 _ (0,0) _ rfl (HB3408.out.get 1 rfl) Tryd.underlying23 rfl (num_s HRL.out)) rfl ?_
 exact ⟨_,rfl,HRS.out,HB3408.out.below⟩
end Go.Proofs.YtodnkallpfkdiaaDoor.Sl
namespace Go.Proofs.YtodnkallpfkdiaaDoor.Fp
open Go.RowKit Lm
theorem exec_neq_limb {P:Program} {o:Oper} {ev:Operand→Value} {w:World} (t ty:TypeId) (e:TypeId) (x y:Operand) (ho:o.op = .binOp .neq t x y ty) (n:Nat) (k k':IntKind)
  (ht:P.underlying t=some (.array n e)) (he:P.underlying e=some (.int k')) (hsz:∀ w,(sizeOf e).run P w = .ok 1 w) (hm:P.eqGuardType P.depth t=false)
  (xs ys:List Int) (hx:ev x = .agg (arr k xs)) (hy:ev y = .agg (arr k ys)) (lx:xs.length=n) (ly:ys.length=n) (b:Bool) (hb:(!(xs == ys))=b) :
  (execOp ev o).run P w = .ok (.value (.bool b)) w:=by
 simp only [execOp,ho,hx,hy,Sem.run_bind,run_eqGuard_agg w .neq t x y _ _ hm,Result.andThen_ok,run_neq_arr w t e n k k' ht he hsz xs ys lx ly,hb]
 rfl
theorem n4_neq {xs ys:List Int} {a b:Nat} (hx:N4 xs a) (hy:N4 ys b) (c:Bool) (h:decide (a≠b)=c):(!(xs == ys))=c:=by
 rw [N4.inj hx hy,← h]
 by_cases e:a=b <;> simp [e]
theorem build_eighth (w:World):(Instr.build 131 #[(0, .int .u64 18446744073709551614),(1, .int .u64 18446744073709551615),(2, .int .u64 18446744073709551615),(3, .int .u64 1152921504606846975)]).run Tryd.prog w = .ok (.agg (arr .u64 (nar (dig 18446744073709551616 4 eighth)))) w:=by kernel_rfl
theorem build_im (w:World):(Instr.build 131 #[(0, .int .u64 14190309331451158704),(1, .int .u64 3405592160176694392),(2, .int .u64 3120150775007532967),(3, .int .u64 3135389899092516619)]).run Tryd.prog w = .ok (.agg (arr .u64 (nar (dig 18446744073709551616 4 im)))) w:=by kernel_rfl
theorem build_none (w:World):(Instr.build 131 #[]).run Tryd.prog w = .ok (.agg (arr .u64 [0,0,0,0])) w:=by kernel_rfl
theorem eighth_lt:eighth < 18446744073709551616 ^ 4:=by decide +kernel
theorem im_lt:im < 18446744073709551616 ^ 4:=by decide +kernel
theorem fsqrt_eq (a x y:Nat) (hx:x=fpow a eighth 256) (hy:y=if fmul x x=a then x else fmul x im):fsqrt a=if fmul y y=a then (if y % 2=1 then fsub 0 y else y,true) else (0,false):=by
 subst hx;subst hy;rfl
theorem square_any {xs:List Int} (a:Nat) (w:World) (hx:N4 xs a):Calls Tryd.prog 123 #[.agg (arr .u64 xs)] w fun e w'=>∃ zs,e = .returned (.tuple #[.agg (arr .u64 zs), .bool (fsqrt a).2])∧N4 zs (fsqrt a).1∧Below w.heap.size w w':=by
 have he:=n4_of eighth eighth_lt
 have hi:=n4_of im im_lt
 have hbe:=build_eighth
 have hbi:=build_im
 have hbz:=build_none
 have hz:N4 [0,0,0,0] 0:=n4_small 0 (by decide)
 obtain ⟨es,hes⟩:∃ x,x=nar (dig 18446744073709551616 4 eighth):=⟨_,rfl⟩
 rw [← hes] at he hbe
 obtain ⟨is,his⟩:∃ x,x=nar (dig 18446744073709551616 4 im):=⟨_,rfl⟩
 rw [← his] at hi hbi
 obtain ⟨os,hos⟩:∃ x:List Int,x=[0,0,0,0]:=⟨_,rfl⟩
 rw [← hos] at hz hbz
 have HE:=Lib.hid he
 have HEL:=Lib.hid he.len
 have HI:=Lib.hid hi
 have HIL:=Lib.hid hi.len
 have HO:=Lib.hid hz
 have HOL:=Lib.hid hz.len
 have HBE:=Lib.hid hbe
 have HBI:=Lib.hid hbi
 have HBO:=Lib.hid hbz
 have hpw:=fun w=>power_any a eighth w hx HE.out
 have hxl:=fpow_lt a eighth 256
 obtain ⟨x0,hx0⟩:∃ x,x=fpow a eighth 256:=⟨_,rfl⟩
 rw [← hx0] at hpw hxl
 have HPW:=Lib.hid hpw
 have HX0:=Lib.hid hxl
 have HRS:=Lib.hid (fun y hy=>fsqrt_eq a x0 y hx0 hy)
 have HX:=Lib.hid hx
 have HXL:=Lib.hid hx.len
 obtain ⟨zl,hzl⟩:∃ zs:List Int,zs=List.replicate 4 0:=⟨_,rfl⟩
 have HZzl:Hid (∀ w,(zeroValue 131).run Tryd.prog w = .ok (.agg (arr .u64 zl)) w):=Lib.hid (by intro w;rw [hzl];exact zero_lim w)
 have HLzl:Hid (zl.length=4):=Lib.hid (by rw [hzl];rfl)
 have HS0:=Lib.hid (Blk.two w (arr .u64 xs) (arr .u64 zl) 131 131)
 clear hzl hx he hi hbe hbi hbz hz hes his hos hpw hxl hx0
 go_enter Tryd.func123, Tryd.ntmps123
 go_upto_region 1 with (first|((with_reducible refine aS 2 ?_);refine wpList_alloc_row rfl 131 rfl _ (HZzl.out _) ?_))
 generalize ((w.alloc (.cells (arr .u64 xs) 131)).alloc (.cells (arr .u64 zl) 131))=wb at HS0 ⊢
 go_upto_region 2 with (first|((with_reducible refine aS 7 ?_);refine wpList_build (by rfl) 131 _ rfl #[(0, .int .u64 18446744073709551614),(1, .int .u64 18446744073709551615),(2, .int .u64 18446744073709551615),(3, .int .u64 1152921504606846975)] rfl _ (HBE.out _) ?_)|((with_reducible refine aS 4 ?_);refine wpList_alloc_row rfl 131 rfl _ (HZzl.out _) ?_;have HB1101:=Lib.hid (HS0.out.alloc (arr .u64 zl) 131);generalize wb.heap.size=g1101 at HB1101 ⊢; generalize wb.alloc (.cells (arr .u64 zl) 131)=w1101 at HB1101 ⊢)|((with_reducible refine aT 4 (x:=(Operand.tmp 7)) ?_);refine wpList_store_whole rfl 131 _ _ rfl (g1101) _ _ 131 (HB1101.out.get 2 rfl) rfl rfl (arr_len2 _ _ HEL.out HLzl.out) (lim_s HEL.out) (all_arr _ _) ?_;intro w1102 hb1102 hk1102 hz1102;have HB1102:=Lib.hid (HB1101.out.put 2 rfl hk1102 hb1102);clear hb1102 hk1102 hz1102;clear HB1101))
 go_upto_region 3 with (first|((with_reducible refine aS 8 ?_);refine wpList_build (by rfl) 131 _ rfl #[(0, .int .u64 14190309331451158704),(1, .int .u64 3405592160176694392),(2, .int .u64 3120150775007532967),(3, .int .u64 3135389899092516619)] rfl _ (HBI.out _) ?_)|((with_reducible refine aS 5 ?_);refine wpList_alloc_row rfl 131 rfl _ (HZzl.out _) ?_;have HB1103:=Lib.hid (HB1102.out.alloc (arr .u64 zl) 131);generalize w1102.heap.size=g1103 at HB1103 ⊢; generalize w1102.alloc (.cells (arr .u64 zl) 131)=w1103 at HB1103 ⊢; clear HB1102)|((with_reducible refine aT 5 (x:=(Operand.tmp 8)) ?_);refine wpList_store_whole rfl 131 _ _ rfl (g1103) _ _ 131 (HB1103.out.get 3 rfl) rfl rfl (arr_len2 _ _ HIL.out HLzl.out) (lim_s HIL.out) (all_arr _ _) ?_;intro w1104 hb1104 hk1104 hz1104;have HB1104:=Lib.hid (HB1103.out.put 3 rfl hk1104 hb1104);clear hb1104 hk1104 hz1104;clear HB1103))
 go_upto_region 4 with (first|((with_reducible refine aS 9 ?_);refine wpList_load_part rfl 131 _ rfl (w.heap.size) (0) _ 131 (0,0) _ (HB1104.out.get 0 rfl) rfl .u64 xs (arr_part _ _) Tryd.underlying131 rfl (lim_i HXL.out) ?_)|((with_reducible refine aS 10 ?_);refine wpList_load_part rfl 131 _ rfl (g1101) (0) _ 131 (0,0) _ (HB1104.out.get 2 rfl) rfl .u64 es (arr_part _ _) Tryd.underlying131 rfl (lim_i HEL.out) ?_)|((with_reducible show Calls _ 156 #[.agg _, .agg _] _ _);go_at_call 156; refine (HPW.out _).mono ?_;rintro e w1105 ⟨z1105,rfl,h1105,hb1105⟩;have HZ1105:=Lib.hid h1105;have HL1105:=Lib.hid h1105.len;clear h1105;have HB1105:=Lib.hid (HB1104.out.kept hb1105);clear hb1105;clear HB1104)|((with_reducible refine aS 6 ?_);refine wpList_alloc_row rfl 131 rfl _ (HZzl.out _) ?_;have HB1106:=Lib.hid (HB1105.out.alloc (arr .u64 zl) 131);generalize w1105.heap.size=g1106 at HB1106 ⊢; generalize w1105.alloc (.cells (arr .u64 zl) 131)=w1106 at HB1106 ⊢; clear HB1105)|((with_reducible refine aT 6 (x:=(Operand.tmp 11)) ?_);refine wpList_store_whole rfl 131 _ _ rfl (g1106) _ _ 131 (HB1106.out.get 4 rfl) rfl rfl (arr_len2 _ _ HL1105.out HLzl.out) (lim_s HL1105.out) (all_arr _ _) ?_;intro w1107 hb1107 hk1107 hz1107;have HB1107:=Lib.hid (HB1106.out.put 4 rfl hk1107 hb1107);clear hb1107 hk1107 hz1107;clear HB1106))
 by_cases h1:fmul x0 x0=a
 ·have HQ:Hid (decide (fmul x0 x0≠a)=false):=Lib.hid (by simp [h1])
  have HYE:Hid (x0=if fmul x0 x0=a then x0 else fmul x0 im):=Lib.hid (by rw [if_pos h1])
  have HYL:=HX0
  clear h1
  have HK0:=Lib.hid ((Kept.refl (fun _=>False) w1107).drew)
  have HBd:=Lib.hid (HB1107.out.drew)
  refine wp_region_held_drew (S:=(fun w'=>Kept (fun _=>False) w1107 w')) (by kernel_rfl) (HK0.out) (fun hHeld=>?_)
  generalize w1107.drew=wd at HK0 HBd hHeld ⊢
  refine' wpAnyH_take (i:=0) (oi:=(⟨some 12,_,_,_,_,none⟩:Oper)) (v:=_) rfl (by kernel_rfl) (by kernel_rfl) (by kernel_rfl) (fun _ _ _ h=>h) (yieldsIf_load_mid (by rfl) _ _ rfl _ _ rfl (z1105.map (Value.int .u64)) _ ?hS1108 Tryd.underlying131 rfl (by rw [List.length_map];exact lim_i HL1105.out)) (by assumption) ?rest1108
  case hS1108=>(intro w hSw;(try dsimp only at hSw);exact range_part (hSw.blk (HB1107.out.get 4 rfl) (fun e=>e.elim)) 0 _ (by rw [List.length_map];exact arr_part _ _))
  (try simp only [Act.put,sA,sZ,sS])
  refine' wpAnyH_take (i:=1) (oi:=(⟨some 13,_,_,_,_,none⟩:Oper)) (v:=_) rfl (by kernel_rfl) (by kernel_rfl) (by kernel_rfl) (fun _ _ _ h=>h) (yieldsIf_load_mid (by rfl) _ _ rfl _ _ rfl (z1105.map (Value.int .u64)) _ ?hS1109 Tryd.underlying131 rfl (by rw [List.length_map];exact lim_i HL1105.out)) (by assumption) ?rest1109
  case hS1109=>(intro w hSw;(try dsimp only at hSw);exact range_part (hSw.blk (HB1107.out.get 4 rfl) (fun e=>e.elim)) 0 _ (by rw [List.length_map];exact arr_part _ _))
  (try simp only [Act.put,sA,sZ,sS])
  refine' wpAnyH_take (i:=3) (oi:=(⟨some 15,_,_,_,_,none⟩:Oper)) (v:=_) rfl (by kernel_rfl) (by kernel_rfl) (by kernel_rfl) (fun _ _ _ h=>h) (yieldsIf_load_mid (by rfl) _ _ rfl _ _ rfl (xs.map (Value.int .u64)) _ ?hS1110 Tryd.underlying131 rfl (by rw [List.length_map];exact lim_i HXL.out)) (by assumption) ?rest1110
  case hS1110=>(intro w hSw;(try dsimp only at hSw);exact range_part (hSw.blk (HB1107.out.get 0 rfl) (fun e=>e.elim)) 0 _ (by rw [List.length_map];exact arr_part _ _))
  (try simp only [Act.put,sA,sZ,sS])
  refine wpAnyH_ready (rs:=[2]) (by kernel_rfl) (by simp) ?_
  refine AllReadyH.cons (o:=(⟨some 14,_,_,_,_,none⟩:Oper)) rfl (fun K hK=>?_) AllReadyH.nil
  go_simp
  go_at_call 119
  refine (times_any _ _ _ HZ1105.out HZ1105.out).mono ?_
  rintro e w1111 ⟨z1111,rfl,h1111,hb1111⟩
  have HZ1111:=Lib.hid h1111
  have HL1111:=Lib.hid h1111.len
  clear h1111
  have HB1111:=Lib.hid (HBd.out.kept hb1111)
  have HK1111:=Lib.hid (HK0.out.trans (Kept.of_below hb1111))
  clear hb1111
  (try dsimp only)
  clear HBd
  clear HK0
  clear hHeld
  refine hK.out _ _ (HK1111.out) (fun hHeld=>?_)
  clear hK K
  (try simp only [Act.put,sA,sZ,sS])
  refine wpAnyH_take (i:=4) (oi:=(⟨some 16,_,_,_,_,none⟩:Oper)) (v:=(.bool false)) rfl (by kernel_rfl) (by kernel_rfl) (by kernel_rfl) (fun _ _ _ h=>h) (Or.inl ⟨by rfl,?hy1112⟩) (by assumption) ?rest1112
  case hy1112=>(intro w hSw;(try dsimp only at hSw);exact exec_neq_limb 131 _ _ (.tmp 14) (.tmp 15) rfl 4 .u64 .u64 Tryd.underlying131 Tryd.underlying123 (fun w=>by kernel_rfl) (by kernel_rfl) z1111 xs rfl rfl HL1111.out HXL.out _ (n4_neq HZ1111.out HX.out _ HQ.out))
  (try simp only [Act.put,sA,sZ,sS])
  refine wpAnyH_done (by kernel_rfl) ?_ _
  have HBF4:=HB1111
  clear HB1107
  clear HB1111
  clear HQ
  (try simp only [Exit.then])
  go_upto_region 6 with fail
  have HYQ:=Lib.hid (HRS.out x0 HYE.out)
  clear HYE
  by_cases h2:fmul x0 x0=a
  ·have HQ:Hid (decide (fmul x0 x0≠a)=false):=Lib.hid (by simp [h2])
   have hr:=HYQ.out
   rw [if_pos h2] at hr
   have HR0:=Lib.hid hr
   clear hr h2 HYQ
   have HK0:=Lib.hid ((Kept.refl (fun _=>False) w1111).drew)
   have HBd:=Lib.hid (HBF4.out.drew)
   refine wp_region_held_drew (S:=(fun w'=>Kept (fun _=>False) w1111 w')) (by kernel_rfl) (HK0.out) (fun hHeld=>?_)
   generalize w1111.drew=wd at HK0 HBd hHeld ⊢
   refine' wpAnyH_take (i:=0) (oi:=(⟨some 20,_,_,_,_,none⟩:Oper)) (v:=_) rfl (by kernel_rfl) (by kernel_rfl) (by kernel_rfl) (fun _ _ _ h=>h) (yieldsIf_load_mid (by rfl) _ _ rfl _ _ rfl (z1105.map (Value.int .u64)) _ ?hS1113 Tryd.underlying131 rfl (by rw [List.length_map];exact lim_i HL1105.out)) (by assumption) ?rest1113
   case hS1113=>(intro w hSw;(try dsimp only at hSw);exact range_part (hSw.blk (HBF4.out.get 4 rfl) (fun e=>e.elim)) 0 _ (by rw [List.length_map];exact arr_part _ _))
   (try simp only [Act.put,sA,sZ,sS])
   refine' wpAnyH_take (i:=1) (oi:=(⟨some 21,_,_,_,_,none⟩:Oper)) (v:=_) rfl (by kernel_rfl) (by kernel_rfl) (by kernel_rfl) (fun _ _ _ h=>h) (yieldsIf_load_mid (by rfl) _ _ rfl _ _ rfl (z1105.map (Value.int .u64)) _ ?hS1114 Tryd.underlying131 rfl (by rw [List.length_map];exact lim_i HL1105.out)) (by assumption) ?rest1114
   case hS1114=>(intro w hSw;(try dsimp only at hSw);exact range_part (hSw.blk (HBF4.out.get 4 rfl) (fun e=>e.elim)) 0 _ (by rw [List.length_map];exact arr_part _ _))
   (try simp only [Act.put,sA,sZ,sS])
   refine' wpAnyH_take (i:=3) (oi:=(⟨some 23,_,_,_,_,none⟩:Oper)) (v:=_) rfl (by kernel_rfl) (by kernel_rfl) (by kernel_rfl) (fun _ _ _ h=>h) (yieldsIf_load_mid (by rfl) _ _ rfl _ _ rfl (xs.map (Value.int .u64)) _ ?hS1115 Tryd.underlying131 rfl (by rw [List.length_map];exact lim_i HXL.out)) (by assumption) ?rest1115
   case hS1115=>(intro w hSw;(try dsimp only at hSw);exact range_part (hSw.blk (HBF4.out.get 0 rfl) (fun e=>e.elim)) 0 _ (by rw [List.length_map];exact arr_part _ _))
   (try simp only [Act.put,sA,sZ,sS])
   refine wpAnyH_ready (rs:=[2]) (by kernel_rfl) (by simp) ?_
   refine AllReadyH.cons (o:=(⟨some 22,_,_,_,_,none⟩:Oper)) rfl (fun K hK=>?_) AllReadyH.nil
   go_simp
   go_at_call 119
   refine (times_any _ _ _ HZ1105.out HZ1105.out).mono ?_
   rintro e w1116 ⟨z1116,rfl,h1116,hb1116⟩
   have HZ1116:=Lib.hid h1116
   have HL1116:=Lib.hid h1116.len
   clear h1116
   have HB1116:=Lib.hid (HBd.out.kept hb1116)
   have HK1116:=Lib.hid (HK0.out.trans (Kept.of_below hb1116))
   clear hb1116
   (try dsimp only)
   clear HBd
   clear HK0
   clear hHeld
   refine hK.out _ _ (HK1116.out) (fun hHeld=>?_)
   clear hK K
   (try simp only [Act.put,sA,sZ,sS])
   refine wpAnyH_take (i:=4) (oi:=(⟨some 24,_,_,_,_,none⟩:Oper)) (v:=(.bool false)) rfl (by kernel_rfl) (by kernel_rfl) (by kernel_rfl) (fun _ _ _ h=>h) (Or.inl ⟨by rfl,?hy1117⟩) (by assumption) ?rest1117
   case hy1117=>(intro w hSw;(try dsimp only at hSw);exact exec_neq_limb 131 _ _ (.tmp 22) (.tmp 23) rfl 4 .u64 .u64 Tryd.underlying131 Tryd.underlying123 (fun w=>by kernel_rfl) (by kernel_rfl) z1116 xs rfl rfl HL1116.out HXL.out _ (n4_neq HZ1116.out HX.out _ HQ.out))
   (try simp only [Act.put,sA,sZ,sS])
   refine wpAnyH_done (by kernel_rfl) ?_ _
   have HBF6:=HB1116
   clear HBF4
   clear HB1116
   clear HQ
   (try simp only [Exit.then])
   rcases (show x0 % 2=0∨x0 % 2=1 by omega) with hb|hb
   ·have hr:=HR0.out
    rw [if_neg (by omega)] at hr
    have HR:=Lib.hid hr
    have HBT:=Lib.hid (fun w=>(bit_any x0 0 0 w HZ1105.out (by decide) (by rw [Nat.pow_zero,Nat.div_one];exact hb):Calls Tryd.prog 129 #[.agg (arr .u64 z1105), .int .i64 0] w fun e w'=>e = .returned (.int .u64 0)∧Below w.heap.size w w'))
    clear hr hb HR0
    go_upto_region 10 with (first|((with_reducible refine aS 26 ?_);refine wpList_load_part rfl 131 _ rfl (g1106) (0) _ 131 (0,0) _ (HBF6.out.get 4 rfl) rfl .u64 z1105 (arr_part _ _) Tryd.underlying131 rfl (lim_i HL1105.out) ?_)|((with_reducible show Calls _ 129 #[.agg _,_] _ _);go_at_call 129; refine (HBT.out _).mono ?_;rintro e w1118 ⟨rfl,hb1118⟩;have HB1118:=Lib.hid (HBF6.out.kept hb1118);clear hb1118))
    go_wp2_with (first|((with_reducible refine aS 32 ?_);refine wpList_load_part rfl 131 _ rfl (g1106) (0) _ 131 (0,0) _ (HB1118.out.get 4 rfl) rfl .u64 z1105 (arr_part _ _) Tryd.underlying131 rfl (lim_i HL1105.out) ?_)|((with_reducible refine aT 2 (x:=(Operand.tmp 32)) ?_);refine wpList_store_whole rfl 131 _ _ rfl (w.heap.size+1) _ _ 131 (HB1118.out.get 1 rfl) rfl rfl (arr_len2 _ _ HL1105.out HLzl.out) (lim_s HL1105.out) (all_arr _ _) ?_;intro w1119 hb1119 hk1119 hz1119;have HB1119:=Lib.hid (HB1118.out.put 1 rfl hk1119 hb1119);clear hb1119 hk1119 hz1119;clear HB1118))
    (try simp only [Exit.inBlock,Exit.then])
    refine bodyPost_ret (results_cell_tmp_row rfl _ _ (w.heap.size+1) 131 _ (0,0) _ _ rfl (HB1119.out.get 1 rfl) Tryd.underlying131 rfl (lim_s HL1105.out) rfl) rfl ?_
    refine ⟨_,?_,by rw [HR.out];exact HZ1105.out,HB1119.out.below⟩
    rw [HR.out];rfl
   ·have hr:=HR0.out
    rw [if_pos hb] at hr
    have HR:=Lib.hid hr
    have HBT:=Lib.hid (fun w=>(bit_any x0 0 1 w HZ1105.out (by decide) (by rw [Nat.pow_zero,Nat.div_one];exact hb):Calls Tryd.prog 129 #[.agg (arr .u64 z1105), .int .i64 0] w fun e w'=>e = .returned (.int .u64 1)∧Below w.heap.size w w'))
    clear hr hb HR0
    go_upto_region 9 with (first|((with_reducible refine aS 26 ?_);refine wpList_load_part rfl 131 _ rfl (g1106) (0) _ 131 (0,0) _ (HBF6.out.get 4 rfl) rfl .u64 z1105 (arr_part _ _) Tryd.underlying131 rfl (lim_i HL1105.out) ?_)|((with_reducible show Calls _ 129 #[.agg _,_] _ _);go_at_call 129; refine (HBT.out _).mono ?_;rintro e w1120 ⟨rfl,hb1120⟩;have HB1120:=Lib.hid (HBF6.out.kept hb1120);clear hb1120))
    go_upto_region 10 with (first|((with_reducible refine aS 29 ?_);refine wpList_build (by rfl) 131 _ rfl #[] rfl _ (HBO.out _) ?_)|((with_reducible refine aS 30 ?_);refine wpList_load_part rfl 131 _ rfl (g1106) (0) _ 131 (0,0) _ (HB1120.out.get 4 rfl) rfl .u64 z1105 (arr_part _ _) Tryd.underlying131 rfl (lim_i HL1105.out) ?_)|((with_reducible show Calls _ 120 #[.agg _, .agg _] _ _);go_at_call 120; refine (minus_any _ _ _ HO.out HZ1105.out p_pos HYL.out).mono ?_;rintro e w1121 ⟨z1121,rfl,h1121,hb1121⟩;have HZ1121:=Lib.hid h1121;have HL1121:=Lib.hid h1121.len;clear h1121;have HB1121:=Lib.hid (HB1120.out.kept hb1121);clear hb1121;clear HB1120)|((with_reducible refine aT 6 (x:=(Operand.tmp 31)) ?_);refine wpList_store_whole rfl 131 _ _ rfl (g1106) _ _ 131 (HB1121.out.get 4 rfl) rfl rfl (arr_len2 _ _ HL1121.out HL1105.out) (lim_s HL1121.out) (all_arr _ _) ?_;intro w1122 hb1122 hk1122 hz1122;have HB1122:=Lib.hid (HB1121.out.put 4 rfl hk1122 hb1122);clear hb1122 hk1122 hz1122;clear HB1121))
    go_wp2_with (first|((with_reducible refine aS 32 ?_);refine wpList_load_part rfl 131 _ rfl (g1106) (0) _ 131 (0,0) _ (HB1122.out.get 4 rfl) rfl .u64 z1121 (arr_part _ _) Tryd.underlying131 rfl (lim_i HL1121.out) ?_)|((with_reducible refine aT 2 (x:=(Operand.tmp 32)) ?_);refine wpList_store_whole rfl 131 _ _ rfl (w.heap.size+1) _ _ 131 (HB1122.out.get 1 rfl) rfl rfl (arr_len2 _ _ HL1121.out HLzl.out) (lim_s HL1121.out) (all_arr _ _) ?_;intro w1123 hb1123 hk1123 hz1123;have HB1123:=Lib.hid (HB1122.out.put 1 rfl hk1123 hb1123);clear hb1123 hk1123 hz1123;clear HB1122))
    (try simp only [Exit.inBlock,Exit.then])
    refine bodyPost_ret (results_cell_tmp_row rfl _ _ (w.heap.size+1) 131 _ (0,0) _ _ rfl (HB1123.out.get 1 rfl) Tryd.underlying131 rfl (lim_s HL1121.out) rfl) rfl ?_
    refine ⟨_,?_,by rw [HR.out];exact HZ1121.out,HB1123.out.below⟩
    rw [HR.out];rfl
  ·have HQ:Hid (decide (fmul x0 x0≠a)=true):=Lib.hid (by simp [h2])
   have hr:=HYQ.out
   rw [if_neg h2] at hr
   have HR0:=Lib.hid hr
   clear hr h2 HYQ
   have HK0:=Lib.hid ((Kept.refl (fun _=>False) w1111).drew)
   have HBd:=Lib.hid (HBF4.out.drew)
   refine wp_region_held_drew (S:=(fun w'=>Kept (fun _=>False) w1111 w')) (by kernel_rfl) (HK0.out) (fun hHeld=>?_)
   generalize w1111.drew=wd at HK0 HBd hHeld ⊢
   refine' wpAnyH_take (i:=0) (oi:=(⟨some 20,_,_,_,_,none⟩:Oper)) (v:=_) rfl (by kernel_rfl) (by kernel_rfl) (by kernel_rfl) (fun _ _ _ h=>h) (yieldsIf_load_mid (by rfl) _ _ rfl _ _ rfl (z1105.map (Value.int .u64)) _ ?hS1124 Tryd.underlying131 rfl (by rw [List.length_map];exact lim_i HL1105.out)) (by assumption) ?rest1124
   case hS1124=>(intro w hSw;(try dsimp only at hSw);exact range_part (hSw.blk (HBF4.out.get 4 rfl) (fun e=>e.elim)) 0 _ (by rw [List.length_map];exact arr_part _ _))
   (try simp only [Act.put,sA,sZ,sS])
   refine' wpAnyH_take (i:=1) (oi:=(⟨some 21,_,_,_,_,none⟩:Oper)) (v:=_) rfl (by kernel_rfl) (by kernel_rfl) (by kernel_rfl) (fun _ _ _ h=>h) (yieldsIf_load_mid (by rfl) _ _ rfl _ _ rfl (z1105.map (Value.int .u64)) _ ?hS1125 Tryd.underlying131 rfl (by rw [List.length_map];exact lim_i HL1105.out)) (by assumption) ?rest1125
   case hS1125=>(intro w hSw;(try dsimp only at hSw);exact range_part (hSw.blk (HBF4.out.get 4 rfl) (fun e=>e.elim)) 0 _ (by rw [List.length_map];exact arr_part _ _))
   (try simp only [Act.put,sA,sZ,sS])
   refine' wpAnyH_take (i:=3) (oi:=(⟨some 23,_,_,_,_,none⟩:Oper)) (v:=_) rfl (by kernel_rfl) (by kernel_rfl) (by kernel_rfl) (fun _ _ _ h=>h) (yieldsIf_load_mid (by rfl) _ _ rfl _ _ rfl (xs.map (Value.int .u64)) _ ?hS1126 Tryd.underlying131 rfl (by rw [List.length_map];exact lim_i HXL.out)) (by assumption) ?rest1126
   case hS1126=>(intro w hSw;(try dsimp only at hSw);exact range_part (hSw.blk (HBF4.out.get 0 rfl) (fun e=>e.elim)) 0 _ (by rw [List.length_map];exact arr_part _ _))
   (try simp only [Act.put,sA,sZ,sS])
   refine wpAnyH_ready (rs:=[2]) (by kernel_rfl) (by simp) ?_
   refine AllReadyH.cons (o:=(⟨some 22,_,_,_,_,none⟩:Oper)) rfl (fun K hK=>?_) AllReadyH.nil
   go_simp
   go_at_call 119
   refine (times_any _ _ _ HZ1105.out HZ1105.out).mono ?_
   rintro e w1127 ⟨z1127,rfl,h1127,hb1127⟩
   have HZ1127:=Lib.hid h1127
   have HL1127:=Lib.hid h1127.len
   clear h1127
   have HB1127:=Lib.hid (HBd.out.kept hb1127)
   have HK1127:=Lib.hid (HK0.out.trans (Kept.of_below hb1127))
   clear hb1127
   (try dsimp only)
   clear HBd
   clear HK0
   clear hHeld
   refine hK.out _ _ (HK1127.out) (fun hHeld=>?_)
   clear hK K
   (try simp only [Act.put,sA,sZ,sS])
   refine wpAnyH_take (i:=4) (oi:=(⟨some 24,_,_,_,_,none⟩:Oper)) (v:=(.bool true)) rfl (by kernel_rfl) (by kernel_rfl) (by kernel_rfl) (fun _ _ _ h=>h) (Or.inl ⟨by rfl,?hy1128⟩) (by assumption) ?rest1128
   case hy1128=>(intro w hSw;(try dsimp only at hSw);exact exec_neq_limb 131 _ _ (.tmp 22) (.tmp 23) rfl 4 .u64 .u64 Tryd.underlying131 Tryd.underlying123 (fun w=>by kernel_rfl) (by kernel_rfl) z1127 xs rfl rfl HL1127.out HXL.out _ (n4_neq HZ1127.out HX.out _ HQ.out))
   (try simp only [Act.put,sA,sZ,sS])
   refine wpAnyH_done (by kernel_rfl) ?_ _
   have HBF6:=HB1127
   clear HBF4
   clear HB1127
   clear HQ
   (try simp only [Exit.then])
   have HR:=HR0
   clear HR0
   go_wp2_with (first|((with_reducible refine aS 25 ?_);refine wpList_build (by rfl) 131 _ rfl #[] rfl _ (HBO.out _) ?_)|((with_reducible refine aT 2 (x:=(Operand.tmp 25)) ?_);refine wpList_store_whole rfl 131 _ _ rfl (w.heap.size+1) _ _ 131 (HBF6.out.get 1 rfl) rfl rfl (arr_len2 _ _ HOL.out HLzl.out) (lim_s HOL.out) (all_arr _ _) ?_;intro w1129 hb1129 hk1129 hz1129;have HB1129:=Lib.hid (HBF6.out.put 1 rfl hk1129 hb1129);clear hb1129 hk1129 hz1129))
   (try simp only [Exit.inBlock,Exit.then])
   refine bodyPost_ret (results_cell_tmp_row rfl _ _ (w.heap.size+1) 131 _ (0,0) _ _ rfl (HB1129.out.get 1 rfl) Tryd.underlying131 rfl (lim_s HOL.out) rfl) rfl ?_
   refine ⟨_,?_,by rw [HR.out];exact HO.out,HB1129.out.below⟩
   rw [HR.out];rfl
 ·have HQ:Hid (decide (fmul x0 x0≠a)=true):=Lib.hid (by simp [h1])
  obtain ⟨y0,hy0⟩:∃ y,y=fmul x0 im:=⟨_,rfl⟩
  have HYE:Hid (y0=if fmul x0 x0=a then x0 else fmul x0 im):=Lib.hid (by rw [if_neg h1];exact hy0)
  have HYL:Hid (y0 < p):=Lib.hid (by rw [hy0];exact fmul_lt _ _)
  have HY0:=Lib.hid hy0
  clear hy0
  clear h1
  have HK0:=Lib.hid ((Kept.refl (fun _=>False) w1107).drew)
  have HBd:=Lib.hid (HB1107.out.drew)
  refine wp_region_held_drew (S:=(fun w'=>Kept (fun _=>False) w1107 w')) (by kernel_rfl) (HK0.out) (fun hHeld=>?_)
  generalize w1107.drew=wd at HK0 HBd hHeld ⊢
  refine' wpAnyH_take (i:=0) (oi:=(⟨some 12,_,_,_,_,none⟩:Oper)) (v:=_) rfl (by kernel_rfl) (by kernel_rfl) (by kernel_rfl) (fun _ _ _ h=>h) (yieldsIf_load_mid (by rfl) _ _ rfl _ _ rfl (z1105.map (Value.int .u64)) _ ?hS1130 Tryd.underlying131 rfl (by rw [List.length_map];exact lim_i HL1105.out)) (by assumption) ?rest1130
  case hS1130=>(intro w hSw;(try dsimp only at hSw);exact range_part (hSw.blk (HB1107.out.get 4 rfl) (fun e=>e.elim)) 0 _ (by rw [List.length_map];exact arr_part _ _))
  (try simp only [Act.put,sA,sZ,sS])
  refine' wpAnyH_take (i:=1) (oi:=(⟨some 13,_,_,_,_,none⟩:Oper)) (v:=_) rfl (by kernel_rfl) (by kernel_rfl) (by kernel_rfl) (fun _ _ _ h=>h) (yieldsIf_load_mid (by rfl) _ _ rfl _ _ rfl (z1105.map (Value.int .u64)) _ ?hS1131 Tryd.underlying131 rfl (by rw [List.length_map];exact lim_i HL1105.out)) (by assumption) ?rest1131
  case hS1131=>(intro w hSw;(try dsimp only at hSw);exact range_part (hSw.blk (HB1107.out.get 4 rfl) (fun e=>e.elim)) 0 _ (by rw [List.length_map];exact arr_part _ _))
  (try simp only [Act.put,sA,sZ,sS])
  refine' wpAnyH_take (i:=3) (oi:=(⟨some 15,_,_,_,_,none⟩:Oper)) (v:=_) rfl (by kernel_rfl) (by kernel_rfl) (by kernel_rfl) (fun _ _ _ h=>h) (yieldsIf_load_mid (by rfl) _ _ rfl _ _ rfl (xs.map (Value.int .u64)) _ ?hS1132 Tryd.underlying131 rfl (by rw [List.length_map];exact lim_i HXL.out)) (by assumption) ?rest1132
  case hS1132=>(intro w hSw;(try dsimp only at hSw);exact range_part (hSw.blk (HB1107.out.get 0 rfl) (fun e=>e.elim)) 0 _ (by rw [List.length_map];exact arr_part _ _))
  (try simp only [Act.put,sA,sZ,sS])
  refine wpAnyH_ready (rs:=[2]) (by kernel_rfl) (by simp) ?_
  refine AllReadyH.cons (o:=(⟨some 14,_,_,_,_,none⟩:Oper)) rfl (fun K hK=>?_) AllReadyH.nil
  go_simp
  go_at_call 119
  refine (times_any _ _ _ HZ1105.out HZ1105.out).mono ?_
  rintro e w1133 ⟨z1133,rfl,h1133,hb1133⟩
  have HZ1133:=Lib.hid h1133
  have HL1133:=Lib.hid h1133.len
  clear h1133
  have HB1133:=Lib.hid (HBd.out.kept hb1133)
  have HK1133:=Lib.hid (HK0.out.trans (Kept.of_below hb1133))
  clear hb1133
  (try dsimp only)
  clear HBd
  clear HK0
  clear hHeld
  refine hK.out _ _ (HK1133.out) (fun hHeld=>?_)
  clear hK K
  (try simp only [Act.put,sA,sZ,sS])
  refine wpAnyH_take (i:=4) (oi:=(⟨some 16,_,_,_,_,none⟩:Oper)) (v:=(.bool true)) rfl (by kernel_rfl) (by kernel_rfl) (by kernel_rfl) (fun _ _ _ h=>h) (Or.inl ⟨by rfl,?hy1134⟩) (by assumption) ?rest1134
  case hy1134=>(intro w hSw;(try dsimp only at hSw);exact exec_neq_limb 131 _ _ (.tmp 14) (.tmp 15) rfl 4 .u64 .u64 Tryd.underlying131 Tryd.underlying123 (fun w=>by kernel_rfl) (by kernel_rfl) z1133 xs rfl rfl HL1133.out HXL.out _ (n4_neq HZ1133.out HX.out _ HQ.out))
  (try simp only [Act.put,sA,sZ,sS])
  refine wpAnyH_done (by kernel_rfl) ?_ _
  have HBF4:=HB1133
  clear HB1107
  clear HB1133
  clear HQ
  (try simp only [Exit.then])
  go_upto_region 6 with (first|((with_reducible refine aS 17 ?_);refine wpList_load_part rfl 131 _ rfl (g1106) (0) _ 131 (0,0) _ (HBF4.out.get 4 rfl) rfl .u64 z1105 (arr_part _ _) Tryd.underlying131 rfl (lim_i HL1105.out) ?_)|((with_reducible refine aS 18 ?_);refine wpList_load_part rfl 131 _ rfl (g1103) (0) _ 131 (0,0) _ (HBF4.out.get 3 rfl) rfl .u64 is (arr_part _ _) Tryd.underlying131 rfl (lim_i HIL.out) ?_)|((with_reducible show Calls _ 119 #[.agg _, .agg _] _ _);go_at_call 119; refine (times_any _ _ _ HZ1105.out HI.out).mono ?_;rintro e w1135 ⟨z1135,rfl,h1135,hb1135⟩;have HZ1135:=Lib.hid h1135;have HL1135:=Lib.hid h1135.len;clear h1135;have HB1135:=Lib.hid (HBF4.out.kept hb1135);clear hb1135)|((with_reducible refine aT 6 (x:=(Operand.tmp 19)) ?_);refine wpList_store_whole rfl 131 _ _ rfl (g1106) _ _ 131 (HB1135.out.get 4 rfl) rfl rfl (arr_len2 _ _ HL1135.out HL1105.out) (lim_s HL1135.out) (all_arr _ _) ?_;intro w1136 hb1136 hk1136 hz1136;have HB1136:=Lib.hid (HB1135.out.put 4 rfl hk1136 hb1136);clear hb1136 hk1136 hz1136;clear HB1135))
  have HZY:=Lib.hid (HZ1135.out.cast HY0.out.symm)
  have HYQ:=Lib.hid (HRS.out y0 HYE.out)
  clear HYE
  by_cases h2:fmul y0 y0=a
  ·have HQ:Hid (decide (fmul y0 y0≠a)=false):=Lib.hid (by simp [h2])
   have hr:=HYQ.out
   rw [if_pos h2] at hr
   have HR0:=Lib.hid hr
   clear hr h2 HYQ
   have HK0:=Lib.hid ((Kept.refl (fun _=>False) w1136).drew)
   have HBd:=Lib.hid (HB1136.out.drew)
   refine wp_region_held_drew (S:=(fun w'=>Kept (fun _=>False) w1136 w')) (by kernel_rfl) (HK0.out) (fun hHeld=>?_)
   generalize w1136.drew=wd at HK0 HBd hHeld ⊢
   refine' wpAnyH_take (i:=0) (oi:=(⟨some 20,_,_,_,_,none⟩:Oper)) (v:=_) rfl (by kernel_rfl) (by kernel_rfl) (by kernel_rfl) (fun _ _ _ h=>h) (yieldsIf_load_mid (by rfl) _ _ rfl _ _ rfl (z1135.map (Value.int .u64)) _ ?hS1137 Tryd.underlying131 rfl (by rw [List.length_map];exact lim_i HL1135.out)) (by assumption) ?rest1137
   case hS1137=>(intro w hSw;(try dsimp only at hSw);exact range_part (hSw.blk (HB1136.out.get 4 rfl) (fun e=>e.elim)) 0 _ (by rw [List.length_map];exact arr_part _ _))
   (try simp only [Act.put,sA,sZ,sS])
   refine' wpAnyH_take (i:=1) (oi:=(⟨some 21,_,_,_,_,none⟩:Oper)) (v:=_) rfl (by kernel_rfl) (by kernel_rfl) (by kernel_rfl) (fun _ _ _ h=>h) (yieldsIf_load_mid (by rfl) _ _ rfl _ _ rfl (z1135.map (Value.int .u64)) _ ?hS1138 Tryd.underlying131 rfl (by rw [List.length_map];exact lim_i HL1135.out)) (by assumption) ?rest1138
   case hS1138=>(intro w hSw;(try dsimp only at hSw);exact range_part (hSw.blk (HB1136.out.get 4 rfl) (fun e=>e.elim)) 0 _ (by rw [List.length_map];exact arr_part _ _))
   (try simp only [Act.put,sA,sZ,sS])
   refine' wpAnyH_take (i:=3) (oi:=(⟨some 23,_,_,_,_,none⟩:Oper)) (v:=_) rfl (by kernel_rfl) (by kernel_rfl) (by kernel_rfl) (fun _ _ _ h=>h) (yieldsIf_load_mid (by rfl) _ _ rfl _ _ rfl (xs.map (Value.int .u64)) _ ?hS1139 Tryd.underlying131 rfl (by rw [List.length_map];exact lim_i HXL.out)) (by assumption) ?rest1139
   case hS1139=>(intro w hSw;(try dsimp only at hSw);exact range_part (hSw.blk (HB1136.out.get 0 rfl) (fun e=>e.elim)) 0 _ (by rw [List.length_map];exact arr_part _ _))
   (try simp only [Act.put,sA,sZ,sS])
   refine wpAnyH_ready (rs:=[2]) (by kernel_rfl) (by simp) ?_
   refine AllReadyH.cons (o:=(⟨some 22,_,_,_,_,none⟩:Oper)) rfl (fun K hK=>?_) AllReadyH.nil
   go_simp
   go_at_call 119
   refine (times_any _ _ _ HZY.out HZY.out).mono ?_
   rintro e w1140 ⟨z1140,rfl,h1140,hb1140⟩
   have HZ1140:=Lib.hid h1140
   have HL1140:=Lib.hid h1140.len
   clear h1140
   have HB1140:=Lib.hid (HBd.out.kept hb1140)
   have HK1140:=Lib.hid (HK0.out.trans (Kept.of_below hb1140))
   clear hb1140
   (try dsimp only)
   clear HBd
   clear HK0
   clear hHeld
   refine hK.out _ _ (HK1140.out) (fun hHeld=>?_)
   clear hK K
   (try simp only [Act.put,sA,sZ,sS])
   refine wpAnyH_take (i:=4) (oi:=(⟨some 24,_,_,_,_,none⟩:Oper)) (v:=(.bool false)) rfl (by kernel_rfl) (by kernel_rfl) (by kernel_rfl) (fun _ _ _ h=>h) (Or.inl ⟨by rfl,?hy1141⟩) (by assumption) ?rest1141
   case hy1141=>(intro w hSw;(try dsimp only at hSw);exact exec_neq_limb 131 _ _ (.tmp 22) (.tmp 23) rfl 4 .u64 .u64 Tryd.underlying131 Tryd.underlying123 (fun w=>by kernel_rfl) (by kernel_rfl) z1140 xs rfl rfl HL1140.out HXL.out _ (n4_neq HZ1140.out HX.out _ HQ.out))
   (try simp only [Act.put,sA,sZ,sS])
   refine wpAnyH_done (by kernel_rfl) ?_ _
   have HBF6:=HB1140
   clear HB1136
   clear HB1140
   clear HQ
   (try simp only [Exit.then])
   rcases (show y0 % 2=0∨y0 % 2=1 by omega) with hb|hb
   ·have hr:=HR0.out
    rw [if_neg (by omega)] at hr
    have HR:=Lib.hid hr
    have HBT:=Lib.hid (fun w=>(bit_any y0 0 0 w HZY.out (by decide) (by rw [Nat.pow_zero,Nat.div_one];exact hb):Calls Tryd.prog 129 #[.agg (arr .u64 z1135), .int .i64 0] w fun e w'=>e = .returned (.int .u64 0)∧Below w.heap.size w w'))
    clear hr hb HR0
    go_upto_region 10 with (first|((with_reducible refine aS 26 ?_);refine wpList_load_part rfl 131 _ rfl (g1106) (0) _ 131 (0,0) _ (HBF6.out.get 4 rfl) rfl .u64 z1135 (arr_part _ _) Tryd.underlying131 rfl (lim_i HL1135.out) ?_)|((with_reducible show Calls _ 129 #[.agg _,_] _ _);go_at_call 129; refine (HBT.out _).mono ?_;rintro e w1142 ⟨rfl,hb1142⟩;have HB1142:=Lib.hid (HBF6.out.kept hb1142);clear hb1142))
    go_wp2_with (first|((with_reducible refine aS 32 ?_);refine wpList_load_part rfl 131 _ rfl (g1106) (0) _ 131 (0,0) _ (HB1142.out.get 4 rfl) rfl .u64 z1135 (arr_part _ _) Tryd.underlying131 rfl (lim_i HL1135.out) ?_)|((with_reducible refine aT 2 (x:=(Operand.tmp 32)) ?_);refine wpList_store_whole rfl 131 _ _ rfl (w.heap.size+1) _ _ 131 (HB1142.out.get 1 rfl) rfl rfl (arr_len2 _ _ HL1135.out HLzl.out) (lim_s HL1135.out) (all_arr _ _) ?_;intro w1143 hb1143 hk1143 hz1143;have HB1143:=Lib.hid (HB1142.out.put 1 rfl hk1143 hb1143);clear hb1143 hk1143 hz1143;clear HB1142))
    (try simp only [Exit.inBlock,Exit.then])
    refine bodyPost_ret (results_cell_tmp_row rfl _ _ (w.heap.size+1) 131 _ (0,0) _ _ rfl (HB1143.out.get 1 rfl) Tryd.underlying131 rfl (lim_s HL1135.out) rfl) rfl ?_
    refine ⟨_,?_,by rw [HR.out];exact HZY.out,HB1143.out.below⟩
    rw [HR.out];rfl
   ·have hr:=HR0.out
    rw [if_pos hb] at hr
    have HR:=Lib.hid hr
    have HBT:=Lib.hid (fun w=>(bit_any y0 0 1 w HZY.out (by decide) (by rw [Nat.pow_zero,Nat.div_one];exact hb):Calls Tryd.prog 129 #[.agg (arr .u64 z1135), .int .i64 0] w fun e w'=>e = .returned (.int .u64 1)∧Below w.heap.size w w'))
    clear hr hb HR0
    go_upto_region 9 with (first|((with_reducible refine aS 26 ?_);refine wpList_load_part rfl 131 _ rfl (g1106) (0) _ 131 (0,0) _ (HBF6.out.get 4 rfl) rfl .u64 z1135 (arr_part _ _) Tryd.underlying131 rfl (lim_i HL1135.out) ?_)|((with_reducible show Calls _ 129 #[.agg _,_] _ _);go_at_call 129; refine (HBT.out _).mono ?_;rintro e w1144 ⟨rfl,hb1144⟩;have HB1144:=Lib.hid (HBF6.out.kept hb1144);clear hb1144))
    go_upto_region 10 with (first|((with_reducible refine aS 29 ?_);refine wpList_build (by rfl) 131 _ rfl #[] rfl _ (HBO.out _) ?_)|((with_reducible refine aS 30 ?_);refine wpList_load_part rfl 131 _ rfl (g1106) (0) _ 131 (0,0) _ (HB1144.out.get 4 rfl) rfl .u64 z1135 (arr_part _ _) Tryd.underlying131 rfl (lim_i HL1135.out) ?_)|((with_reducible show Calls _ 120 #[.agg _, .agg _] _ _);go_at_call 120; refine (minus_any _ _ _ HO.out HZY.out p_pos HYL.out).mono ?_;rintro e w1145 ⟨z1145,rfl,h1145,hb1145⟩;have HZ1145:=Lib.hid h1145;have HL1145:=Lib.hid h1145.len;clear h1145;have HB1145:=Lib.hid (HB1144.out.kept hb1145);clear hb1145;clear HB1144)|((with_reducible refine aT 6 (x:=(Operand.tmp 31)) ?_);refine wpList_store_whole rfl 131 _ _ rfl (g1106) _ _ 131 (HB1145.out.get 4 rfl) rfl rfl (arr_len2 _ _ HL1145.out HL1135.out) (lim_s HL1145.out) (all_arr _ _) ?_;intro w1146 hb1146 hk1146 hz1146;have HB1146:=Lib.hid (HB1145.out.put 4 rfl hk1146 hb1146);clear hb1146 hk1146 hz1146;clear HB1145))
    go_wp2_with (first|((with_reducible refine aS 32 ?_);refine wpList_load_part rfl 131 _ rfl (g1106) (0) _ 131 (0,0) _ (HB1146.out.get 4 rfl) rfl .u64 z1145 (arr_part _ _) Tryd.underlying131 rfl (lim_i HL1145.out) ?_)|((with_reducible refine aT 2 (x:=(Operand.tmp 32)) ?_);refine wpList_store_whole rfl 131 _ _ rfl (w.heap.size+1) _ _ 131 (HB1146.out.get 1 rfl) rfl rfl (arr_len2 _ _ HL1145.out HLzl.out) (lim_s HL1145.out) (all_arr _ _) ?_;intro w1147 hb1147 hk1147 hz1147;have HB1147:=Lib.hid (HB1146.out.put 1 rfl hk1147 hb1147);clear hb1147 hk1147 hz1147;clear HB1146))
    (try simp only [Exit.inBlock,Exit.then])
    refine bodyPost_ret (results_cell_tmp_row rfl _ _ (w.heap.size+1) 131 _ (0,0) _ _ rfl (HB1147.out.get 1 rfl) Tryd.underlying131 rfl (lim_s HL1145.out) rfl) rfl ?_
    refine ⟨_,?_,by rw [HR.out];exact HZ1145.out,HB1147.out.below⟩
    rw [HR.out];rfl
  ·have HQ:Hid (decide (fmul y0 y0≠a)=true):=Lib.hid (by simp [h2])
   have hr:=HYQ.out
   rw [if_neg h2] at hr
   have HR0:=Lib.hid hr
   clear hr h2 HYQ
   have HK0:=Lib.hid ((Kept.refl (fun _=>False) w1136).drew)
   have HBd:=Lib.hid (HB1136.out.drew)
   refine wp_region_held_drew (S:=(fun w'=>Kept (fun _=>False) w1136 w')) (by kernel_rfl) (HK0.out) (fun hHeld=>?_)
   generalize w1136.drew=wd at HK0 HBd hHeld ⊢
   refine' wpAnyH_take (i:=0) (oi:=(⟨some 20,_,_,_,_,none⟩:Oper)) (v:=_) rfl (by kernel_rfl) (by kernel_rfl) (by kernel_rfl) (fun _ _ _ h=>h) (yieldsIf_load_mid (by rfl) _ _ rfl _ _ rfl (z1135.map (Value.int .u64)) _ ?hS1148 Tryd.underlying131 rfl (by rw [List.length_map];exact lim_i HL1135.out)) (by assumption) ?rest1148
   case hS1148=>(intro w hSw;(try dsimp only at hSw);exact range_part (hSw.blk (HB1136.out.get 4 rfl) (fun e=>e.elim)) 0 _ (by rw [List.length_map];exact arr_part _ _))
   (try simp only [Act.put,sA,sZ,sS])
   refine' wpAnyH_take (i:=1) (oi:=(⟨some 21,_,_,_,_,none⟩:Oper)) (v:=_) rfl (by kernel_rfl) (by kernel_rfl) (by kernel_rfl) (fun _ _ _ h=>h) (yieldsIf_load_mid (by rfl) _ _ rfl _ _ rfl (z1135.map (Value.int .u64)) _ ?hS1149 Tryd.underlying131 rfl (by rw [List.length_map];exact lim_i HL1135.out)) (by assumption) ?rest1149
   case hS1149=>(intro w hSw;(try dsimp only at hSw);exact range_part (hSw.blk (HB1136.out.get 4 rfl) (fun e=>e.elim)) 0 _ (by rw [List.length_map];exact arr_part _ _))
   (try simp only [Act.put,sA,sZ,sS])
   refine' wpAnyH_take (i:=3) (oi:=(⟨some 23,_,_,_,_,none⟩:Oper)) (v:=_) rfl (by kernel_rfl) (by kernel_rfl) (by kernel_rfl) (fun _ _ _ h=>h) (yieldsIf_load_mid (by rfl) _ _ rfl _ _ rfl (xs.map (Value.int .u64)) _ ?hS1150 Tryd.underlying131 rfl (by rw [List.length_map];exact lim_i HXL.out)) (by assumption) ?rest1150
   case hS1150=>(intro w hSw;(try dsimp only at hSw);exact range_part (hSw.blk (HB1136.out.get 0 rfl) (fun e=>e.elim)) 0 _ (by rw [List.length_map];exact arr_part _ _))
   (try simp only [Act.put,sA,sZ,sS])
   refine wpAnyH_ready (rs:=[2]) (by kernel_rfl) (by simp) ?_
   refine AllReadyH.cons (o:=(⟨some 22,_,_,_,_,none⟩:Oper)) rfl (fun K hK=>?_) AllReadyH.nil
   go_simp
   go_at_call 119
   refine (times_any _ _ _ HZY.out HZY.out).mono ?_
   rintro e w1151 ⟨z1151,rfl,h1151,hb1151⟩
   have HZ1151:=Lib.hid h1151
   have HL1151:=Lib.hid h1151.len
   clear h1151
   have HB1151:=Lib.hid (HBd.out.kept hb1151)
   have HK1151:=Lib.hid (HK0.out.trans (Kept.of_below hb1151))
   clear hb1151
   (try dsimp only)
   clear HBd
   clear HK0
   clear hHeld
   refine hK.out _ _ (HK1151.out) (fun hHeld=>?_)
   clear hK K
   (try simp only [Act.put,sA,sZ,sS])
   refine wpAnyH_take (i:=4) (oi:=(⟨some 24,_,_,_,_,none⟩:Oper)) (v:=(.bool true)) rfl (by kernel_rfl) (by kernel_rfl) (by kernel_rfl) (fun _ _ _ h=>h) (Or.inl ⟨by rfl,?hy1152⟩) (by assumption) ?rest1152
   case hy1152=>(intro w hSw;(try dsimp only at hSw);exact exec_neq_limb 131 _ _ (.tmp 22) (.tmp 23) rfl 4 .u64 .u64 Tryd.underlying131 Tryd.underlying123 (fun w=>by kernel_rfl) (by kernel_rfl) z1151 xs rfl rfl HL1151.out HXL.out _ (n4_neq HZ1151.out HX.out _ HQ.out))
   (try simp only [Act.put,sA,sZ,sS])
   refine wpAnyH_done (by kernel_rfl) ?_ _
   have HBF6:=HB1151
   clear HB1136
   clear HB1151
   clear HQ
   (try simp only [Exit.then])
   have HR:=HR0
   clear HR0
   go_wp2_with (first|((with_reducible refine aS 25 ?_);refine wpList_build (by rfl) 131 _ rfl #[] rfl _ (HBO.out _) ?_)|((with_reducible refine aT 2 (x:=(Operand.tmp 25)) ?_);refine wpList_store_whole rfl 131 _ _ rfl (w.heap.size+1) _ _ 131 (HBF6.out.get 1 rfl) rfl rfl (arr_len2 _ _ HOL.out HLzl.out) (lim_s HOL.out) (all_arr _ _) ?_;intro w1153 hb1153 hk1153 hz1153;have HB1153:=Lib.hid (HBF6.out.put 1 rfl hk1153 hb1153);clear hb1153 hk1153 hz1153))
   (try simp only [Exit.inBlock,Exit.then])
   refine bodyPost_ret (results_cell_tmp_row rfl _ _ (w.heap.size+1) 131 _ (0,0) _ _ rfl (HB1153.out.get 1 rfl) Tryd.underlying131 rfl (lim_s HOL.out) rfl) rfl ?_
   refine ⟨_,?_,by rw [HR.out];exact HO.out,HB1153.out.below⟩
   rw [HR.out];rfl
end Go.Proofs.YtodnkallpfkdiaaDoor.Fp
namespace Go.Proofs.YtodnkallpfkdiaaDoor.Sl
open Go.RowKit Lm Fp Cu Rd
theorem build_pz (w:World):(Instr.build 133 #[]).run Tryd.prog w = .ok (.agg (arr .u64 (List.replicate 16 0))) w:=by kernel_rfl
theorem cread_any {ks:List Int} (v:Nat) (w:World) (hk:K32 ks v):Calls Tryd.prog 80 #[.agg (arr .u8 ks)] w fun e w'=>∃ zs,e = .returned (.tuple #[.agg (arr .u64 zs), .bool (eread v).isSome])∧(zs.length=16∧∀ P,eread v=some P→P4 zs P)∧Below w.heap.size w w':=by
 have p256:(256:Nat) ^ 32=2 ^ 256:=by decide
 have hv:=hk.2
 rw [p256] at hv
 obtain ⟨t1,t2⟩:=top_byte256 v hv
 have htb:=top_bit v
 have hds:=dec_set v hv
 have hy2:v % 2 ^ 255 < 2 ^ 255:=Nat.mod_lt _ (by decide)
 have g31:ks.getD 31 0=((v / 256 ^ 31:Nat):Int):=by rw [hk.1,nar_get,t1]
 have hn2:ks.set 31 ((v / 256 ^ 31 % 128:Nat):Int)=nar (dig 256 32 (v % 2 ^ 255)):=by rw [hk.1,← nar_set,hds]
 have ha:=sand127 (v / 256 ^ 31) t2
 have ho2:v / 2 ^ 255=0∨v / 2 ^ 255=1:=by omega
 obtain ⟨o,ho⟩:∃ o,o=v / 2 ^ 255:=⟨_,rfl⟩
 rw [← ho] at htb ho2
 generalize v / 256 ^ 31=t at g31 hn2 ha t2 htb
 obtain ⟨Y,hY⟩:∃ y,y=v % 2 ^ 255:=⟨_,rfl⟩
 rw [← hY] at hn2 hy2
 have hYK:K32 (nar (dig 256 32 Y)) Y:=⟨rfl,Nat.lt_of_lt_of_le hy2 (by decide)⟩
 obtain ⟨ys,hys⟩:∃ x,x=nar (dig 256 32 Y):=⟨_,rfl⟩
 rw [← hys] at hYK hn2
 have her:eread v=if Y < p then (if (fsqrt (fmul (fsub (fmul Y Y) 1) (finv (fadd (fmul dd (fmul Y Y)) 1)))).2=true∧(o=1→(fsqrt (fmul (fsub (fmul Y Y) 1) (finv (fadd (fmul dd (fmul Y Y)) 1)))).1≠0) then some ⟨if o=1 then fsub 0 (fsqrt (fmul (fsub (fmul Y Y) 1) (finv (fadd (fmul dd (fmul Y Y)) 1)))).1 else (fsqrt (fmul (fsub (fmul Y Y) 1) (finv (fadd (fmul dd (fmul Y Y)) 1)))).1,Y,1,fmul (if o=1 then fsub 0 (fsqrt (fmul (fsub (fmul Y Y) 1) (finv (fadd (fmul dd (fmul Y Y)) 1)))).1 else (fsqrt (fmul (fsub (fmul Y Y) 1) (finv (fadd (fmul dd (fmul Y Y)) 1)))).1) Y⟩ else none) else none:=by rw [hY,ho];rfl
 obtain ⟨AA,hAA⟩:∃ a,a=fmul (fsub (fmul Y Y) 1) (finv (fadd (fmul dd (fmul Y Y)) 1)):=⟨_,rfl⟩
 rw [← hAA] at her
 have hsl:=fsqrt_lt AA
 obtain ⟨R,hR⟩:∃ r,r=(fsqrt AA).1:=⟨_,rfl⟩
 obtain ⟨k2,hk2⟩:∃ r,r=(fsqrt AA).2:=⟨_,rfl⟩
 rw [← hR] at her hsl
 rw [← hk2] at her
 have hsq:=fun (xs:List Int) (w:World) (h:N4 xs AA)=>square_any AA w h
 rw [← hR,← hk2] at hsq
 obtain ⟨X,hX⟩:∃ x,x=if o=1 then fsub 0 R else R:=⟨_,rfl⟩
 rw [← hX] at her
 obtain ⟨er,her2⟩:∃ e,e=eread v:=⟨_,rfl⟩
 rw [← her2] at her ⊢
 have HSQ:=Lib.hid hsq
 have HER:=Lib.hid her
 have HX:=Lib.hid hX
 have HAA:=Lib.hid hAA
 have HYS:=Lib.hid hYK
 have HYL:=Lib.hid hYK.len
 have HKS:=Lib.hid hk
 have HKL:=Lib.hid hk.len
 have HG:=Lib.hid g31
 have HN2:=Lib.hid hn2
 have HA:=Lib.hid ha
 have HSL:=Lib.hid hsl
 obtain ⟨zl,hzl⟩:∃ zs:List Int,zs=List.replicate 4 0:=⟨_,rfl⟩
 have HZzl:Hid (∀ w,(zeroValue 131).run Tryd.prog w = .ok (.agg (arr .u64 zl)) w):=Lib.hid (by intro w;rw [hzl];exact zero_lim w)
 have HLzl:Hid (zl.length=4):=Lib.hid (by rw [hzl];rfl)
 obtain ⟨zp,hzp⟩:∃ zs:List Int,zs=List.replicate 16 0:=⟨_,rfl⟩
 have HZzp:Hid (∀ w,(zeroValue 133).run Tryd.prog w = .ok (.agg (arr .u64 zp)) w):=Lib.hid (by intro w;rw [hzp];exact zero_cpt w)
 have HLzp:Hid (zp.length=16):=Lib.hid (by rw [hzp];rfl)
 have hk1:N4 [(1:Int),0,0,0] 1:=n4_small 1 (by decide)
 have hbk1:=fun w=>build_raw 1 w
 obtain ⟨k1,hk1e⟩:∃ b:List Int,b=[(1:Int),0,0,0]:=⟨_,rfl⟩
 rw [← hk1e] at hk1 hbk1
 have HK1:=Lib.hid hk1
 have HK1L:=Lib.hid hk1.len
 have HBK1:=Lib.hid hbk1
 have hk0:N4 [(0:Int),0,0,0] 0:=n4_small 0 (by decide)
 have hbk0:=fun w=>build_no w
 obtain ⟨k0,hk0e⟩:∃ b:List Int,b=[(0:Int),0,0,0]:=⟨_,rfl⟩
 rw [← hk0e] at hk0 hbk0
 have HK0:=Lib.hid hk0
 have HK0L:=Lib.hid hk0.len
 have HBK0:=Lib.hid hbk0
 clear hk1 hbk1 hk1e hk0 hbk0 hk0e
 have HBZ:Hid (∀ w,(Instr.build 133 #[]).run Tryd.prog w = .ok (.agg (arr .u64 zp)) w):=Lib.hid (by intro w;rw [hzp];exact build_pz w)
 have HS0:=Lib.hid (Blk.two w (arr .u8 ks) (arr .u64 zp) 23 133)
 clear hzl hzp hk p256 hv t1 hds hy2 g31 hn2 ha ho hY hYK hys her hAA hsl hR hk2 hsq hX her2
 have hodd:∃ ob:Bool,ob=decide (o=1)∧((t:Int) / 128 == 1)=ob:=by
  refine ⟨_,rfl,?_⟩
  rw [show (t:Int) / 128=((t / 128:Nat):Int) by omega,htb]
  rcases ho2 with rfl|rfl <;> rfl
 obtain ⟨ob,hob,hob2⟩:=hodd
 have HOB:=Lib.hid hob
 clear hob
 go_enter Tryd.func80, Tryd.ntmps80
 go_upto_region 1 with (first|((with_reducible refine aS 2 ?_);refine wpList_alloc_row rfl 133 rfl _ (HZzp.out _) ?_))
 (try simp only [World.size_alloc,Act.put,sA,sZ,sS])
 generalize ((w.alloc (.cells (arr .u8 ks) 23)).alloc (.cells (arr .u64 zp) 133))=wb at HS0 ⊢
 have q0:=arr_get' (HS0.out.get 0 rfl) 31 (by rw [HKL.out];decide)
 have q1:=free_blk (HS0.out.get 0 rfl) 31
 rw [HG.out] at q0
 have hb1:=HS0.out.cell 0 rfl 31 (.int .u8 (bits .and .u8 (t:Int) 127))
 have e2:(arr .u8 ks).setIfInBounds 31 (.int .u8 (bits .and .u8 (t:Int) 127))=arr .u8 ys:=by rw [HA.out,arr_set,HN2.out]
 have HU1:=Lib.hid (hb1.cast (l':=[(w.heap.size,arr .u8 ys, 23),(w.heap.size+1,arr .u64 zp, 133)]) (by rw [← e2];rfl))
 clear hb1 e2
 go_upto_region 2 with fail
 go_upto_region 3 with fail
 generalize wb.setCell ⟨w.heap.size,31,none⟩ (.int .u8 (bits .and .u8 (t:Int) 127))=wu at HU1 ⊢
 clear q0 q1 hob2
 go_upto_region 4 with (first|((with_reducible refine aS 20 ?_);refine wpList_load_part rfl 23 _ rfl (w.heap.size) (0) _ 23 (0,0) _ (HU1.out.get 0 rfl) rfl .u8 ys (arr_part _ _) Tryd.underlying23 rfl (num_i HYL.out) ?_)|((with_reducible show Calls _ 117 #[.agg _] _ _);go_at_call 117; refine (of4 _ _ HYS.out).mono ?_;rintro e w3601 ⟨z3601,rfl,h3601,hb3601⟩;have HZ3601:=Lib.hid h3601;have HL3601:=Lib.hid h3601.len;clear h3601;have HB3601:=Lib.hid (HU1.out.kept hb3601);clear hb3601)|((with_reducible refine aS 5 ?_);refine wpList_alloc_row rfl 131 rfl _ (HZzl.out _) ?_;have HB3602:=Lib.hid (HB3601.out.alloc (arr .u64 zl) 131);generalize w3601.heap.size=g3602 at HB3602 ⊢; generalize w3601.alloc (.cells (arr .u64 zl) 131)=w3602 at HB3602 ⊢; clear HB3601)|((with_reducible refine aT 5 (x:=(Operand.tmp 21)) ?_);refine wpList_store_whole rfl 131 _ _ rfl (g3602) _ _ 131 (HB3602.out.get 2 rfl) rfl rfl (arr_len2 _ _ HL3601.out HLzl.out) (lim_s HL3601.out) (all_arr _ _) ?_;intro w3603 hb3603 hk3603 hz3603;have HB3603:=Lib.hid (HB3602.out.put 2 rfl hk3603 hb3603);clear hb3603 hk3603 hz3603;clear HB3602))
 (try simp only [World.size_alloc,Act.put,sA,sZ,sS])
 obtain ⟨cY,hcY⟩:∃ c,c=decide (Y % p≠Y):=⟨_,rfl⟩
 have HCY:=Lib.hid hcY
 clear hcY
 obtain ⟨z5701,hz5701⟩:∃ z:List Int,z=nar (dig 18446744073709551616 4 (Y % p)):=⟨_,rfl⟩
 have HE5701:=Lib.hid hz5701
 have HL5701:Hid (z5701.length=4):=Lib.hid (by rw [hz5701];exact (nar_len _).trans (dig_len _ _ _))
 clear hz5701
 refine wp_region_lin (fun (fF:Fill) (uF:World)=>(∀ v,fF 0=some v→v = .agg (arr .u64 z3601)∧True)∧(∀ v,fF 1=some v→v = .agg (arr .u64 z5701)∧N4 z5701 (Y % p))∧(∀ v,fF 2=some v→v = .agg (arr .u64 z3601)∧True)∧(∀ v,fF 3=some v→v = .bool cY∧True)∧Blk w uF ([(w.heap.size,arr .u8 ys, 23),(w.heap.size+1,arr .u64 zp, 133),(g3602,(arr .u64 z3601), 131)])) (by kernel_rfl) (by kernel_rfl) ?zd4 ?sd4 ?ed4
 case zd4=>exact ⟨fun _ h=>(by cases h),fun _ h=>(by cases h),fun _ h=>(by cases h),fun _ h=>(by cases h),HB3603.out.drew⟩
 case sd4 =>
  refine LinAll.cons (fun fF bF uF kF hJF hfF hcF hupF hsF hKF=>?_) ?_
  ·obtain ⟨j0,j1,j2,j3,hB⟩:=hJF
   have e5:bF.eval (.tmp 5) = .pointer (some ⟨g3602,0,none⟩):=hsF.old' 5 (by kernel_rfl) rfl
   have hB':=hB
   refine step_load_part rfl 131 _ rfl (g3602) (0) ((arr .u64 z3601)) 131 (0,0) _ (hB'.get 2 rfl) e5 .u64 z3601 (arr_part _ _) Tryd.underlying131 rfl (lim_i HL3601.out) ?_
   exact hKF _ _ ⟨fun _ h=>⟨sI h,trivial⟩,j1,j2,j3,hB⟩
  refine LinAll.cons (fun fF bF uF kF hJF hfF hcF hupF hsF hKF=>?_) ?_
  ·obtain ⟨j0,j1,j2,j3,hB⟩:=hJF
   obtain ⟨e22,p22⟩:=hsF.at hupF 0 22 (by kernel_rfl) rfl j0
   refine lin_call rfl 118 [Operand.tmp 22] _ [.agg (arr .u64 z3601)] rfl (by simp only [List.map_cons,List.map_nil,e22] <;> rfl) (fun _ _=>by kernel_rfl) ?_
   refine Calls.mono (lessen_any _ _ HZ3601.out) ?_
   rintro e w1 ⟨y5702_0,rfl,r5702_0,hb⟩
   obtain rfl:y5702_0=z5701:=r5702_0.1.trans HE5701.out.symm
   exact ⟨_,rfl,hKF _ _ ⟨j0,fun _ h=>⟨sI h,r5702_0⟩,j2,j3,hB.kept hb⟩⟩
  refine LinAll.cons (fun fF bF uF kF hJF hfF hcF hupF hsF hKF=>?_) ?_
  ·obtain ⟨j0,j1,j2,j3,hB⟩:=hJF
   have e5:bF.eval (.tmp 5) = .pointer (some ⟨g3602,0,none⟩):=hsF.old' 5 (by kernel_rfl) rfl
   have hB':=hB
   refine step_load_part rfl 131 _ rfl (g3602) (0) ((arr .u64 z3601)) 131 (0,0) _ (hB'.get 2 rfl) e5 .u64 z3601 (arr_part _ _) Tryd.underlying131 rfl (lim_i HL3601.out) ?_
   exact hKF _ _ ⟨j0,j1,fun _ h=>⟨sI h,trivial⟩,j3,hB⟩
  refine LinAll.cons (fun fF bF uF kF hJF hfF hcF hupF hsF hKF=>?_) ?_
  ·obtain ⟨j0,j1,j2,j3,hB⟩:=hJF
   obtain ⟨e23,p23⟩:=hsF.at hupF 1 23 (by kernel_rfl) rfl j1
   obtain ⟨e24,p24⟩:=hsF.at hupF 2 24 (by kernel_rfl) rfl j2
   have y1:=hupF 1 (by kernel_rfl)
   obtain ⟨v1,s1⟩:=sE y1
   have HZ5701:=Lib.hid (j1 _ s1).2
   exact lin_pure rfl (.bool cY) (exec_neq_limb 131 _ _ (.tmp 23) (.tmp 24) rfl 4 .u64 .u64 Tryd.underlying131 Tryd.underlying123 (fun w=>by kernel_rfl) (by kernel_rfl) z5701 z3601 e23 e24 HL5701.out HL3601.out _ (n4_neq HZ5701.out HZ3601.out _ HCY.out.symm)) (hKF _ _ ⟨j0,j1,j2,fun _ h=>⟨sI h,trivial⟩,hB⟩)
  exact LinAll.nil
 case ed4 =>
 intro fF ud4 hall hJF
 obtain ⟨j0,j1,j2,j3,hB⟩:=hJF
 obtain ⟨v0,h0⟩:=sE (hall 0 (by decide))
 obtain ⟨rfl,p0⟩:=j0 _ h0
 obtain ⟨v1,h1⟩:=sE (hall 1 (by decide))
 obtain ⟨rfl,p1⟩:=j1 _ h1
 obtain ⟨v2,h2⟩:=sE (hall 2 (by decide))
 obtain ⟨rfl,p2⟩:=j2 _ h2
 obtain ⟨v3,h3⟩:=sE (hall 3 (by decide))
 obtain ⟨rfl,p3⟩:=j3 _ h3
 have HBd4:Hid (Blk w ud4 [(w.heap.size,arr .u8 ys, 23),(w.heap.size+1,arr .u64 zp, 133),(g3602,(arr .u64 z3601), 131)]):=Lib.hid hB
 have HZ5701:=Lib.hid p1
 simp only [laid,Nat.zero_add,Nat.reduceAdd,h0,h1,h2,h3,Act.put,sA,sZ,sS]
 clear j0 j1 j2 j3 hB h0 h1 h2 h3 hall fF HB3603
 clear p0 p1 p2 p3
 (try simp only [Exit.then])
 by_cases hlt:Y < p
 rotate_left
 ·obtain rfl:cY=true:=by rw [HCY.out];exact decide_eq_true (fun e=>hlt (e▸Nat.mod_lt _ p_pos))
  obtain rfl:er=none:=by rw [HER.out];rw [if_neg hlt]
  go_wp2_with (first|((with_reducible refine aS 26 ?_);refine wpList_build (by rfl) 133 _ rfl #[] rfl _ (HBZ.out _) ?_)|((with_reducible refine aT 2 (x:=(Operand.tmp 26)) ?_);refine wpList_store_whole rfl 133 _ _ rfl (w.heap.size+1) _ _ 133 (HBd4.out.get 1 rfl) rfl rfl (arr_len2 _ _ HLzp.out HLzp.out) (cpt_s HLzp.out) (all_arr _ _) ?_;intro w3604 hb3604 hk3604 hz3604;have HB3604:=Lib.hid (HBd4.out.put 1 rfl hk3604 hb3604);clear hb3604 hk3604 hz3604))
  (try simp only [Exit.then])
  refine bodyPost_ret (results_cell_tmp_row rfl _ _ (w.heap.size+1) 133 _ (0,0) _ _ rfl (HB3604.out.get 1 rfl) Tryd.underlying133 rfl (cpt_s HLzp.out) rfl) rfl ?_
  refine ⟨_,rfl,?_,HB3604.out.below⟩
  first|exact HLzp.out|exact ⟨HLzp.out,fun P h=>by cases h⟩
 obtain rfl:cY=false:=by rw [HCY.out];exact decide_eq_false (fun h=>h (Nat.mod_eq_of_lt hlt))
 go_upto_region 7 with (first|((with_reducible refine aS 27 ?_);refine wpList_build (by rfl) 131 _ rfl #[(0, .int .u64 1)] rfl _ (HBK1.out _) ?_)|((with_reducible refine aS 6 ?_);refine wpList_alloc_row rfl 131 rfl _ (HZzl.out _) ?_;have HB3605:=Lib.hid (HBd4.out.alloc (arr .u64 zl) 131);generalize ud4.heap.size=g3605 at HB3605 ⊢; generalize ud4.alloc (.cells (arr .u64 zl) 131)=w3605 at HB3605 ⊢)|((with_reducible refine aT 6 (x:=(Operand.tmp 27)) ?_);refine wpList_store_whole rfl 131 _ _ rfl (g3605) _ _ 131 (HB3605.out.get 3 rfl) rfl rfl (arr_len2 _ _ HK1L.out HLzl.out) (lim_s HK1L.out) (all_arr _ _) ?_;intro w3606 hb3606 hk3606 hz3606;have HB3606:=Lib.hid (HB3605.out.put 3 rfl hk3606 hb3606);clear hb3606 hk3606 hz3606;clear HB3605))
 (try simp only [World.size_alloc,Act.put,sA,sZ,sS])
 go_upto_region 8 with (first|((with_reducible refine aS 28 ?_);refine wpList_load_part rfl 131 _ rfl (g3602) (0) _ 131 (0,0) _ (HB3606.out.get 2 rfl) rfl .u64 z3601 (arr_part _ _) Tryd.underlying131 rfl (lim_i HL3601.out) ?_)|((with_reducible refine aS 29 ?_);refine wpList_load_part rfl 131 _ rfl (g3602) (0) _ 131 (0,0) _ (HB3606.out.get 2 rfl) rfl .u64 z3601 (arr_part _ _) Tryd.underlying131 rfl (lim_i HL3601.out) ?_)|((with_reducible show Calls _ 119 #[.agg _, .agg _] _ _);go_at_call 119; refine (times_any _ _ _ HZ3601.out HZ3601.out).mono ?_;rintro e w3607 ⟨z3607,rfl,h3607,hb3607⟩;have HZ3607:=Lib.hid h3607;have HL3607:=Lib.hid h3607.len;clear h3607;have HB3607:=Lib.hid (HB3606.out.kept hb3607);clear hb3607;clear HB3606)|((with_reducible refine aS 7 ?_);refine wpList_alloc_row rfl 131 rfl _ (HZzl.out _) ?_;have HB3608:=Lib.hid (HB3607.out.alloc (arr .u64 zl) 131);generalize w3607.heap.size=g3608 at HB3608 ⊢; generalize w3607.alloc (.cells (arr .u64 zl) 131)=w3608 at HB3608 ⊢; clear HB3607)|((with_reducible refine aT 7 (x:=(Operand.tmp 30)) ?_);refine wpList_store_whole rfl 131 _ _ rfl (g3608) _ _ 131 (HB3608.out.get 4 rfl) rfl rfl (arr_len2 _ _ HL3607.out HLzl.out) (lim_s HL3607.out) (all_arr _ _) ?_;intro w3609 hb3609 hk3609 hz3609;have HB3609:=Lib.hid (HB3608.out.put 4 rfl hk3609 hb3609);clear hb3609 hk3609 hz3609;clear HB3608))
 (try simp only [World.size_alloc,Act.put,sA,sZ,sS])
 obtain ⟨z5703,HZ5703,HL5703,HE5703⟩:=n4_ex (a:=(fsub (fmul Y Y) 1)) (fsub_lt _ _)
 obtain ⟨z5704,HZ5704,HL5704,HE5704⟩:=n4_ex (a:=dd) dd_lt
 obtain ⟨z5705,HZ5705,HL5705,HE5705⟩:=n4_ex (a:=(fmul dd (fmul Y Y))) (fmul_lt _ _)
 obtain ⟨z5706,HZ5706,HL5706,HE5706⟩:=n4_ex (a:=(fadd (fmul dd (fmul Y Y)) 1)) (fadd_lt _ _)
 refine wp_region_sym (T:=fun _=>False) (w:=w) (sy:=[Yr .u64 z3607,Yr .u64 k1,Yr .u64 z5703,Yr .u64 z5704,Yr .u64 z3607,Yr .u64 z5705,Yr .u64 k1,Yr .u64 z5706,Yn (arr .u64 zl) 131, Yn (arr .u64 zl) 131, Y0,Y0]) (pt:=[(10,13,cel (arr .u64 z5703) 131),(11,14,cel (arr .u64 z5706) 131)]) (by kernel_rfl) (by kernel_rfl) (by kernel_rfl) HB3609.out.holds (fun hW=>?sd8) (fun qd8 xd8 ud8 _ hH=>?ed8)
 case sd8 =>
  refine SyL hW ?_ 4 0 ((arr .u64 z3607)) 131 rowL HL3607.out (arr_part _ _)
  refine SyL hW ?_ 3 0 ((arr .u64 k1)) 131 rowL HK1L.out (arr_part _ _)
  refine SyC hW ?_ (fun _=>minus_any _ _ _ HZ3607.out HK1.out (fmul_lt _ _) one_lt) HE5703.out
  refine SyC hW ?_ (fun _=>factor_any _) HE5704.out
  refine SyL hW ?_ 4 0 ((arr .u64 z3607)) 131 rowL HL3607.out (arr_part _ _)
  refine SyC hW ?_ (fun _=>times_any _ _ _ HZ5704.out HZ3607.out) HE5705.out
  refine SyL hW ?_ 3 0 ((arr .u64 k1)) 131 rowL HK1L.out (arr_part _ _)
  refine SyC hW ?_ (fun _=>plus_any _ _ _ HZ5705.out HK1.out) HE5706.out
  refine SyA hW ?_ HZzl.out
  refine SyA hW ?_ HZzl.out
  refine SyS hW ?_ 13 (arr .u64 zl) 131 rowL HL5703.out (asz HLzl.out)
  refine SyS hW ?_ 14 (arr .u64 zl) 131 rowL HL5706.out (asz HLzl.out)
  exact SyN
 case ed8 =>
 have HBd8:=Lib.hid (hH.blk [0,1,2,3,4,13,14] [(w.heap.size,arr .u8 ys, 23),(w.heap.size+1,arr .u64 zp, 133),(g3602,(arr .u64 z3601), 131),(g3605,(arr .u64 k1), 131),(g3608,(arr .u64 z3607), 131),((qd8 8),arr .u64 z5703, 131),((qd8 9),arr .u64 z5706, 131)] (by decide) (by kernel_rfl))
 simp only [lay,Sy.at,den',Yr,Yv,Yp,Yq,Yn,Y0,Act.put,sA,sZ,sS,Nat.reduceAdd]
 clear hH HB3609
 (try simp only [Exit.then])
 go_upto_region 9 with fail
 (try simp only [World.size_alloc,Act.put,sA,sZ,sS])
 obtain ⟨z5707,hz5707⟩:∃ z:List Int,z=nar (dig 18446744073709551616 4 (finv (fadd (fmul dd (fmul Y Y)) 1))):=⟨_,rfl⟩
 have HE5707:=Lib.hid hz5707
 have HL5707:Hid (z5707.length=4):=Lib.hid (by rw [hz5707];exact (nar_len _).trans (dig_len _ _ _))
 clear hz5707
 obtain ⟨z5708,hz5708⟩:∃ z:List Int,z=nar (dig 18446744073709551616 4 (fmul (fsub (fmul Y Y) 1) (finv (fadd (fmul dd (fmul Y Y)) 1)))):=⟨_,rfl⟩
 have HE5708:=Lib.hid hz5708
 have HL5708:Hid (z5708.length=4):=Lib.hid (by rw [hz5708];exact (nar_len _).trans (dig_len _ _ _))
 clear hz5708
 obtain ⟨z5709,hz5709⟩:∃ z:List Int,z=nar (dig 18446744073709551616 4 R):=⟨_,rfl⟩
 have HE5709:=Lib.hid hz5709
 have HL5709:Hid (z5709.length=4):=Lib.hid (by rw [hz5709];exact (nar_len _).trans (dig_len _ _ _))
 clear hz5709
 refine wp_region_lin (fun (fF:Fill) (uF:World)=>(∀ v,fF 0=some v→v = .agg (arr .u64 z5703)∧True)∧(∀ v,fF 1=some v→v = .agg (arr .u64 z5706)∧True)∧(∀ v,fF 2=some v→v = .agg (arr .u64 z5707)∧N4 z5707 (finv (fadd (fmul dd (fmul Y Y)) 1)))∧(∀ v,fF 3=some v→v = .agg (arr .u64 z5708)∧N4 z5708 (fmul (fsub (fmul Y Y) 1) (finv (fadd (fmul dd (fmul Y Y)) 1))))∧(∀ v,fF 4=some v→v = .tuple #[.agg (arr .u64 z5709), .bool k2]∧N4 z5709 R)∧(∀ v,fF 5=some v→v = .tuple #[.agg (arr .u64 z5709), .bool k2]∧True)∧(∀ v,fF 6=some v→v = .agg (arr .u64 z5709)∧True)∧(∀ v,fF 7=some v→v = .bool k2∧True)∧(∀ v,fF 8=some v→∃ g:Nat,v = .pointer (some ⟨g,0,none⟩))∧(∀ v,fF 10=some v→v = .bool k2∧True)∧Blk w uF ([(w.heap.size,arr .u8 ys, 23),(w.heap.size+1,arr .u64 zp, 133),(g3602,(arr .u64 z3601), 131),(g3605,(arr .u64 k1), 131),(g3608,(arr .u64 z3607), 131),((qd8 8),arr .u64 z5703, 131),((qd8 9),arr .u64 z5706, 131)] ++ (ent (fF 8) ((if (fF 9).isSome=true then arr .u64 z5709 else arr .u64 zl)) 131))) (by kernel_rfl) (by kernel_rfl) ?zd9 ?sd9 ?ed9
 case zd9=>exact ⟨fun _ h=>(by cases h),fun _ h=>(by cases h),fun _ h=>(by cases h),fun _ h=>(by cases h),fun _ h=>(by cases h),fun _ h=>(by cases h),fun _ h=>(by cases h),fun _ h=>(by cases h),fun _ h=>(by cases h),fun _ h=>(by cases h),HBd8.out.drew⟩
 case sd9 =>
  refine LinAll.cons (fun fF bF uF kF hJF hfF hcF hupF hsF hKF=>?_) ?_
  ·obtain ⟨j0,j1,j2,j3,j4,j5,j6,j7,j8,j10,hB⟩:=hJF
   have e8:bF.eval (.tmp 8) = .pointer (some ⟨(qd8 8),0,none⟩):=hsF.old' 8 (by kernel_rfl) rfl
   have hB':=hB
   refine step_load_part rfl 131 _ rfl ((qd8 8)) (0) (arr .u64 z5703) 131 (0,0) _ (hB'.get 5 rfl) e8 .u64 z5703 (arr_part _ _) Tryd.underlying131 rfl (lim_i HL5703.out) ?_
   exact hKF _ _ ⟨fun _ h=>⟨sI h,trivial⟩,j1,j2,j3,j4,j5,j6,j7,j8,j10,hB⟩
  refine LinAll.cons (fun fF bF uF kF hJF hfF hcF hupF hsF hKF=>?_) ?_
  ·obtain ⟨j0,j1,j2,j3,j4,j5,j6,j7,j8,j10,hB⟩:=hJF
   have e9:bF.eval (.tmp 9) = .pointer (some ⟨(qd8 9),0,none⟩):=hsF.old' 9 (by kernel_rfl) rfl
   have hB':=hB
   refine step_load_part rfl 131 _ rfl ((qd8 9)) (0) (arr .u64 z5706) 131 (0,0) _ (hB'.get 6 rfl) e9 .u64 z5706 (arr_part _ _) Tryd.underlying131 rfl (lim_i HL5706.out) ?_
   exact hKF _ _ ⟨j0,fun _ h=>⟨sI h,trivial⟩,j2,j3,j4,j5,j6,j7,j8,j10,hB⟩
  refine LinAll.cons (fun fF bF uF kF hJF hfF hcF hupF hsF hKF=>?_) ?_
  ·obtain ⟨j0,j1,j2,j3,j4,j5,j6,j7,j8,j10,hB⟩:=hJF
   obtain ⟨e41,p41⟩:=hsF.at hupF 1 41 (by kernel_rfl) rfl j1
   refine lin_call rfl 124 [Operand.tmp 41] _ [.agg (arr .u64 z5706)] rfl (by simp only [List.map_cons,List.map_nil,e41] <;> rfl) (fun _ _=>by kernel_rfl) ?_
   refine Calls.mono (inverse_any _ _ HZ5706.out) ?_
   rintro e w1 ⟨y5710_0,rfl,r5710_0,hb⟩
   obtain rfl:y5710_0=z5707:=r5710_0.1.trans HE5707.out.symm
   exact ⟨_,rfl,hKF _ _ ⟨j0,j1,fun _ h=>⟨sI h,r5710_0⟩,j3,j4,j5,j6,j7,j8,j10,hB.kept hb⟩⟩
  refine LinAll.cons (fun fF bF uF kF hJF hfF hcF hupF hsF hKF=>?_) ?_
  ·obtain ⟨j0,j1,j2,j3,j4,j5,j6,j7,j8,j10,hB⟩:=hJF
   obtain ⟨e40,p40⟩:=hsF.at hupF 0 40 (by kernel_rfl) rfl j0
   obtain ⟨e42,p42⟩:=hsF.at hupF 2 42 (by kernel_rfl) rfl j2
   have y2:=hupF 2 (by kernel_rfl)
   obtain ⟨v2,s2⟩:=sE y2
   have HZ5707:=Lib.hid (j2 _ s2).2
   refine lin_call rfl 119 [Operand.tmp 40,Operand.tmp 42] _ [.agg (arr .u64 z5703), .agg (arr .u64 z5707)] rfl (by simp only [List.map_cons,List.map_nil,e40,e42] <;> rfl) (fun _ _=>by kernel_rfl) ?_
   refine Calls.mono (times_any _ _ _ HZ5703.out HZ5707.out) ?_
   rintro e w1 ⟨y5711_0,rfl,r5711_0,hb⟩
   obtain rfl:y5711_0=z5708:=r5711_0.1.trans HE5708.out.symm
   exact ⟨_,rfl,hKF _ _ ⟨j0,j1,j2,fun _ h=>⟨sI h,r5711_0⟩,j4,j5,j6,j7,j8,j10,hB.kept hb⟩⟩
  refine LinAll.cons (fun fF bF uF kF hJF hfF hcF hupF hsF hKF=>?_) ?_
  ·obtain ⟨j0,j1,j2,j3,j4,j5,j6,j7,j8,j10,hB⟩:=hJF
   obtain ⟨e43,p43⟩:=hsF.at hupF 3 43 (by kernel_rfl) rfl j3
   have y3:=hupF 3 (by kernel_rfl)
   obtain ⟨v3,s3⟩:=sE y3
   have HZ5708:=Lib.hid (j3 _ s3).2
   refine lin_call rfl 123 [Operand.tmp 43] _ [.agg (arr .u64 z5708)] rfl (by simp only [List.map_cons,List.map_nil,e43] <;> rfl) (fun _ _=>by kernel_rfl) ?_
   refine Calls.mono (HSQ.out _ _ (HZ5708.out.cast HAA.out.symm)) ?_
   rintro e w1 ⟨y5712_0,rfl,r5712_0,hb⟩
   obtain rfl:y5712_0=z5709:=r5712_0.1.trans HE5709.out.symm
   exact ⟨_,rfl,hKF _ _ ⟨j0,j1,j2,j3,fun _ h=>⟨sI h,r5712_0⟩,j5,j6,j7,j8,j10,hB.kept hb⟩⟩
  refine LinAll.cons (fun fF bF uF kF hJF hfF hcF hupF hsF hKF=>?_) ?_
  ·obtain ⟨j0,j1,j2,j3,j4,j5,j6,j7,j8,j10,hB⟩:=hJF
   obtain ⟨e44,p44⟩:=hsF.at hupF 4 44 (by kernel_rfl) rfl j4
   exact lin_pure rfl (.tuple #[.agg (arr .u64 z5709), .bool k2]) (by simp only [execOp,e44] <;> first|rfl|kernel_rfl|(go_simp;done)) (hKF _ _ ⟨j0,j1,j2,j3,j4,fun _ h=>⟨sI h,trivial⟩,j6,j7,j8,j10,hB⟩)
  refine LinAll.cons (fun fF bF uF kF hJF hfF hcF hupF hsF hKF=>?_) ?_
  ·obtain ⟨j0,j1,j2,j3,j4,j5,j6,j7,j8,j10,hB⟩:=hJF
   obtain ⟨e39,p39⟩:=hsF.at hupF 5 39 (by kernel_rfl) rfl j5
   exact lin_pure rfl (.agg (arr .u64 z5709)) (by simp only [execOp,e39] <;> first|rfl|kernel_rfl|(go_simp;done)) (hKF _ _ ⟨j0,j1,j2,j3,j4,j5,fun _ h=>⟨sI h,trivial⟩,j7,j8,j10,hB⟩)
  refine LinAll.cons (fun fF bF uF kF hJF hfF hcF hupF hsF hKF=>?_) ?_
  ·obtain ⟨j0,j1,j2,j3,j4,j5,j6,j7,j8,j10,hB⟩:=hJF
   obtain ⟨e39,p39⟩:=hsF.at hupF 5 39 (by kernel_rfl) rfl j5
   exact lin_pure rfl (.bool k2) (by simp only [execOp,e39] <;> first|rfl|kernel_rfl|(go_simp;done)) (hKF _ _ ⟨j0,j1,j2,j3,j4,j5,j6,fun _ h=>⟨sI h,trivial⟩,j8,j10,hB⟩)
  refine LinAll.cons (fun fF bF uF kF hJF hfF hcF hupF hsF hKF=>?_) ?_
  ·obtain ⟨j0,j1,j2,j3,j4,j5,j6,j7,j8,j10,hB⟩:=hJF
   have n9:=hcF.down 9 8 (by kernel_rfl) hfF
   refine step_alloc_row rfl 131 rfl _ (HZzl.out _) ?_
   have hB1:Blk w (uF.alloc (.cells (arr .u64 zl) 131)) ([(w.heap.size,arr .u8 ys, 23),(w.heap.size+1,arr .u64 zp, 133),(g3602,(arr .u64 z3601), 131),(g3605,(arr .u64 k1), 131),(g3608,(arr .u64 z3607), 131),((qd8 8),arr .u64 z5703, 131),((qd8 9),arr .u64 z5706, 131)] ++ (ent ((some (.pointer (some ⟨uF.heap.size,0,none⟩)):Option Value)) ((if (fF 9).isSome=true then arr .u64 z5709 else arr .u64 zl)) 131)):=hB.ins (a:=[(w.heap.size,arr .u8 ys, 23),(w.heap.size+1,arr .u64 zp, 133),(g3602,(arr .u64 z3601), 131),(g3605,(arr .u64 k1), 131),(g3608,(arr .u64 z3607), 131),((qd8 8),arr .u64 z5703, 131),((qd8 9),arr .u64 z5706, 131)]) (b:=[]) _ _ (by rw [hfF,n9];simp only [ent_none,List.nil_append,List.append_nil,List.append_assoc,List.cons_append]) (by rw [n9];simp only [ent_some,List.nil_append,List.append_nil,List.append_assoc,List.cons_append,Option.isSome_none,Bool.false_eq_true,if_false])
   exact hKF _ _ ⟨j0,j1,j2,j3,j4,j5,j6,j7,fun _ h=>⟨_,sI h⟩,j10,hB1⟩
  refine LinAll.cons (fun fF bF uF kF hJF hfF hcF hupF hsF hKF=>?_) ?_
  ·obtain ⟨j0,j1,j2,j3,j4,j5,j6,j7,j8,j10,hB⟩:=hJF
   have y8:=hupF 8 (by kernel_rfl)
   obtain ⟨v8,s8⟩:=sE y8
   obtain ⟨gd9_7,rfl⟩:=j8 _ s8
   have e10:=hsF.val 8 10 rfl s8
   obtain ⟨e45,p45⟩:=hsF.at hupF 6 45 (by kernel_rfl) rfl j6
   have y4:=hupF 4 (by kernel_rfl)
   obtain ⟨v4,s4⟩:=sE y4
   have HZ5709:=Lib.hid (j4 _ s4).2
   have hB':=hB
   rw [s8,hfF] at hB'
   refine step_store_whole rfl 131 (.tmp 10) (.tmp 45) rfl (gd9_7) (arr .u64 zl) _ 131 (hB'.get 7 rfl) e10 e45 (arr_len2 _ _ HL5709.out HLzl.out) (lim_s HL5709.out) (all_arr _ _) ?_
   intro w1 hb1 hk1 hz1
   have hB1:Blk w w1 ([(w.heap.size,arr .u8 ys, 23),(w.heap.size+1,arr .u64 zp, 133),(g3602,(arr .u64 z3601), 131),(g3605,(arr .u64 k1), 131),(g3608,(arr .u64 z3607), 131),((qd8 8),arr .u64 z5703, 131),((qd8 9),arr .u64 z5706, 131)] ++ (ent (fF 8) ((if ((some undef:Option Value)).isSome=true then arr .u64 z5709 else arr .u64 zl)) 131)):=by rw [s8];exact hB'.put 7 rfl hk1 hb1
   exact hKF undef w1 ⟨j0,j1,j2,j3,j4,j5,j6,j7,j8,j10,hB1⟩
  refine LinAll.cons (fun fF bF uF kF hJF hfF hcF hupF hsF hKF=>?_) ?_
  ·obtain ⟨j0,j1,j2,j3,j4,j5,j6,j7,j8,j10,hB⟩:=hJF
   obtain ⟨e46,p46⟩:=hsF.at hupF 7 46 (by kernel_rfl) rfl j7
   exact lin_pure rfl (.bool k2) (by simp only [execOp,e46] <;> first|rfl|kernel_rfl|(go_simp;done)) (hKF _ _ ⟨j0,j1,j2,j3,j4,j5,j6,j7,j8,fun _ h=>⟨sI h,trivial⟩,hB⟩)
  exact LinAll.nil
 case ed9 =>
 intro fF ud9 hall hJF
 obtain ⟨j0,j1,j2,j3,j4,j5,j6,j7,j8,j10,hB⟩:=hJF
 obtain ⟨v0,h0⟩:=sE (hall 0 (by decide))
 obtain ⟨rfl,p0⟩:=j0 _ h0
 obtain ⟨v1,h1⟩:=sE (hall 1 (by decide))
 obtain ⟨rfl,p1⟩:=j1 _ h1
 obtain ⟨v2,h2⟩:=sE (hall 2 (by decide))
 obtain ⟨rfl,p2⟩:=j2 _ h2
 obtain ⟨v3,h3⟩:=sE (hall 3 (by decide))
 obtain ⟨rfl,p3⟩:=j3 _ h3
 obtain ⟨v4,h4⟩:=sE (hall 4 (by decide))
 obtain ⟨rfl,p4⟩:=j4 _ h4
 obtain ⟨v5,h5⟩:=sE (hall 5 (by decide))
 obtain ⟨rfl,p5⟩:=j5 _ h5
 obtain ⟨v6,h6⟩:=sE (hall 6 (by decide))
 obtain ⟨rfl,p6⟩:=j6 _ h6
 obtain ⟨v7,h7⟩:=sE (hall 7 (by decide))
 obtain ⟨rfl,p7⟩:=j7 _ h7
 obtain ⟨v8,h8⟩:=sE (hall 8 (by decide))
 obtain ⟨gd9_7,rfl⟩:=j8 _ h8
 obtain ⟨v9,h9⟩:=sE (hall 9 (by decide))
 obtain ⟨v10,h10⟩:=sE (hall 10 (by decide))
 obtain ⟨rfl,p10⟩:=j10 _ h10
 rw [h8,h9] at hB
 have HBd9:Hid (Blk w ud9 [(w.heap.size,arr .u8 ys, 23),(w.heap.size+1,arr .u64 zp, 133),(g3602,(arr .u64 z3601), 131),(g3605,(arr .u64 k1), 131),(g3608,(arr .u64 z3607), 131),((qd8 8),arr .u64 z5703, 131),((qd8 9),arr .u64 z5706, 131),(gd9_7,arr .u64 z5709, 131)]):=Lib.hid hB
 have HZ5707:=Lib.hid p2
 have HZ5708:=Lib.hid p3
 have HZ5709:=Lib.hid p4
 simp only [laid,Nat.zero_add,Nat.reduceAdd,h0,h1,h2,h3,h4,h5,h6,h7,h8,h9,h10,Act.put,sA,sZ,sS]
 clear j0 j1 j2 j3 j4 j5 j6 j7 j8 j10 hB h0 h1 h2 h3 h4 h5 h6 h7 h8 h9 h10 hall fF HBd8
 clear p0 p1 p2 p3 p4 p5 p6 p7 p10
 (try simp only [Exit.then])
 rcases Bool.eq_false_or_eq_true k2 with hk|hk
 rotate_left
 ·obtain rfl:er=none:=by rw [HER.out];rw [if_pos hlt,if_neg (by rw [hk];exact fun h=>by cases h.1)]
  subst hk
  go_wp2_with (first|((with_reducible refine aS 52 ?_);refine wpList_load_part rfl 131 _ rfl (gd9_7) (0) _ 131 (0,0) _ (HBd9.out.get 7 rfl) rfl .u64 z5709 (arr_part _ _) Tryd.underlying131 rfl (lim_i HL5709.out) ?_)|((with_reducible refine aS 53 ?_);refine wpList_build (by rfl) 131 _ rfl #[] rfl _ (HBK0.out _) ?_)|((with_reducible refine aS 57 ?_);refine wpList_build (by rfl) 133 _ rfl #[] rfl _ (HBZ.out _) ?_)|((with_reducible refine aT 2 (x:=(Operand.tmp 57)) ?_);refine wpList_store_whole rfl 133 _ _ rfl (w.heap.size+1) _ _ 133 (HBd9.out.get 1 rfl) rfl rfl (arr_len2 _ _ HLzp.out HLzp.out) (cpt_s HLzp.out) (all_arr _ _) ?_;intro w3610 hb3610 hk3610 hz3610;have HB3610:=Lib.hid (HBd9.out.put 1 rfl hk3610 hb3610);clear hb3610 hk3610 hz3610))
  (try simp only [Exit.then])
  refine bodyPost_ret (results_cell_tmp_row rfl _ _ (w.heap.size+1) 133 _ (0,0) _ _ rfl (HB3610.out.get 1 rfl) Tryd.underlying133 rfl (cpt_s HLzp.out) rfl) rfl ?_
  refine ⟨_,rfl,?_,HB3610.out.below⟩
  first|exact HLzp.out|exact ⟨HLzp.out,fun P h=>by cases h⟩
 subst hk
 have hqz:=HZ5709.out.inj HK0.out
 rcases ho2 with rfl|rfl
 ·obtain rfl:ob=false:=by rw [HOB.out];rfl
  go_upto_region 14 with (first|((with_reducible refine aS 52 ?_);refine wpList_load_part rfl 131 _ rfl (gd9_7) (0) _ 131 (0,0) _ (HBd9.out.get 7 rfl) rfl .u64 z5709 (arr_part _ _) Tryd.underlying131 rfl (lim_i HL5709.out) ?_)|((with_reducible refine aS 53 ?_);refine wpList_build (by rfl) 131 _ rfl #[] rfl _ (HBK0.out _) ?_))
  (try simp only [World.size_alloc,Act.put,sA,sZ,sS])
  obtain ⟨z5713,HZ5713,HL5713,HE5713⟩:=n4_ex (a:=(fmul R Y)) (fmul_lt _ _)
  obtain ⟨v5714,hv5714⟩:∃ x,x=z5709 ++ z3601 ++ k1 ++ z5713:=⟨_,rfl⟩
  have HR5714:Hid (∀ w,(Instr.build 133 #[(0, .agg (arr .u64 z5709)),(1, .agg (arr .u64 z3601)),(2, .agg (arr .u64 k1)),(3, .agg (arr .u64 z5713))]).run Tryd.prog w = .ok (.agg (arr .u64 v5714)) w):=Lib.hid (fun w=>by rw [hv5714];exact build_cpt _ _ _ _ HL5709.out HL3601.out HK1L.out HL5713.out w)
  have HL5714:Hid (v5714.length=16):=Lib.hid (by rw [hv5714];exact cpt_len HL5709.out HL3601.out HK1L.out HL5713.out)
  have HV5714:=Lib.hid hv5714
  clear hv5714
  refine wp_region_sym (T:=fun _=>False) (w:=w) (sy:=[Yr .u64 z5709,Yr .u64 z3601,Yr .u64 k1,Yr .u64 z5709,Yr .u64 z3601,Yr .u64 z5713,Yr .u64 v5714,Y0,Yv (.bool true)]) (pt:=[(7,1,cel (arr .u64 v5714) 133)]) (by kernel_rfl) (by kernel_rfl) (by kernel_rfl) HBd9.out.holds (fun hW=>?sd144x9) (fun qd144x9 xd144x9 ud144x9 _ hH=>?ed144x9)
  case sd144x9 =>
   refine SyL hW ?_ 7 0 (arr .u64 z5709) 131 rowL HL5709.out (arr_part _ _)
   refine SyL hW ?_ 2 0 ((arr .u64 z3601)) 131 rowL HL3601.out (arr_part _ _)
   refine SyL hW ?_ 3 0 ((arr .u64 k1)) 131 rowL HK1L.out (arr_part _ _)
   refine SyL hW ?_ 7 0 (arr .u64 z5709) 131 rowL HL5709.out (arr_part _ _)
   refine SyL hW ?_ 2 0 ((arr .u64 z3601)) 131 rowL HL3601.out (arr_part _ _)
   refine SyC hW ?_ (fun _=>times_any _ _ _ HZ5709.out HZ3601.out) HE5713.out
   refine SyB hW ?_ _ _ _ (fun u=>HR5714.out u)
   refine SyS hW ?_ 1 (arr .u64 zp) 133 rowC HL5714.out (asz HLzp.out)
   refine SyP hW ?_
   exact SyN
  case ed144x9 =>
  have HBd144x9:=Lib.hid (hH.blk [0,1,2,3,4,5,6,7] [(w.heap.size,arr .u8 ys, 23),(w.heap.size+1,arr .u64 v5714, 133),(g3602,(arr .u64 z3601), 131),(g3605,(arr .u64 k1), 131),(g3608,(arr .u64 z3607), 131),((qd8 8),arr .u64 z5703, 131),((qd8 9),arr .u64 z5706, 131),(gd9_7,arr .u64 z5709, 131)] (by decide) (by kernel_rfl))
  simp only [lay,Sy.at,den',Yr,Yv,Yp,Yq,Yn,Y0,Act.put,sA,sZ,sS,Nat.reduceAdd]
  clear hH HBd9
  (try simp only [Exit.then])
  go_wp2_with fail
  (try simp only [Exit.then])
  refine bodyPost_ret (results_cell_tmp_row rfl _ _ (w.heap.size+1) 133 _ (0,0) _ _ rfl (HBd144x9.out.get 1 rfl) Tryd.underlying133 rfl (cpt_s HL5714.out) rfl) rfl ?_
  have hxe:X=R:=by rw [HX.out];rfl
  obtain rfl:er=some ⟨R,Y,1,fmul R Y⟩:=by rw [HER.out,if_pos hlt,hxe];exact if_pos (by simp)
  exact ⟨_,rfl,⟨HL5714.out,fun P h=>by cases h;rw [HV5714.out];exact P4.of HZ5709.out HZ3601.out HK1.out HZ5713.out ⟨HSL.out,hlt,one_lt,fmul_lt _ _⟩⟩,HBd144x9.out.below⟩
 ·obtain rfl:ob=true:=by rw [HOB.out];rfl
  by_cases hz:R=0
  ·rw [decide_eq_true hz] at hqz
   have HQZ:=Lib.hid hqz
   clear hqz
   obtain rfl:er=none:=by rw [HER.out];rw [if_pos hlt,if_neg (fun h=>h.2 rfl hz)]
   go_wp2_with (first|((with_reducible refine aS 52 ?_);refine wpList_load_wanted (by rfl) 131 _ rfl (gd9_7) (0) _ 131 (0,0) _ (HBd9.out.get 7 rfl) rfl .u64 z5709 (arr_part _ _) Tryd.underlying131 rfl (lim_i HL5709.out) ?_)|((with_reducible refine aS 54 ?_);refine wpList_eql_arr (by rfl) 131 _ _ (.tmp 52) (.tmp 53) rfl 4 .u64 .u64 Tryd.underlying131 Tryd.underlying123 (fun w=>by kernel_rfl) (by kernel_rfl) z5709 k0 rfl rfl HL5709.out HK0L.out true HQZ.out ?_)|((with_reducible refine aS 52 ?_);refine wpList_load_part rfl 131 _ rfl (gd9_7) (0) _ 131 (0,0) _ (HBd9.out.get 7 rfl) rfl .u64 z5709 (arr_part _ _) Tryd.underlying131 rfl (lim_i HL5709.out) ?_)|((with_reducible refine aS 53 ?_);refine wpList_build (by rfl) 131 _ rfl #[] rfl _ (HBK0.out _) ?_)|((with_reducible refine aS 57 ?_);refine wpList_build (by rfl) 133 _ rfl #[] rfl _ (HBZ.out _) ?_)|((with_reducible refine aT 2 (x:=(Operand.tmp 57)) ?_);refine wpList_store_whole rfl 133 _ _ rfl (w.heap.size+1) _ _ 133 (HBd9.out.get 1 rfl) rfl rfl (arr_len2 _ _ HLzp.out HLzp.out) (cpt_s HLzp.out) (all_arr _ _) ?_;intro w3611 hb3611 hk3611 hz3611;have HB3611:=Lib.hid (HBd9.out.put 1 rfl hk3611 hb3611);clear hb3611 hk3611 hz3611))
   (try simp only [Exit.then])
   refine bodyPost_ret (results_cell_tmp_row rfl _ _ (w.heap.size+1) 133 _ (0,0) _ _ rfl (HB3611.out.get 1 rfl) Tryd.underlying133 rfl (cpt_s HLzp.out) rfl) rfl ?_
   refine ⟨_,rfl,?_,HB3611.out.below⟩
   first|exact HLzp.out|exact ⟨HLzp.out,fun P h=>by cases h⟩
  ·rw [decide_eq_false hz] at hqz
   have HQZ:=Lib.hid hqz
   clear hqz
   go_upto_region 13 with (first|((with_reducible refine aS 52 ?_);refine wpList_load_wanted (by rfl) 131 _ rfl (gd9_7) (0) _ 131 (0,0) _ (HBd9.out.get 7 rfl) rfl .u64 z5709 (arr_part _ _) Tryd.underlying131 rfl (lim_i HL5709.out) ?_)|((with_reducible refine aS 54 ?_);refine wpList_eql_arr (by rfl) 131 _ _ (.tmp 52) (.tmp 53) rfl 4 .u64 .u64 Tryd.underlying131 Tryd.underlying123 (fun w=>by kernel_rfl) (by kernel_rfl) z5709 k0 rfl rfl HL5709.out HK0L.out false HQZ.out ?_)|((with_reducible refine aS 52 ?_);refine wpList_load_part rfl 131 _ rfl (gd9_7) (0) _ 131 (0,0) _ (HBd9.out.get 7 rfl) rfl .u64 z5709 (arr_part _ _) Tryd.underlying131 rfl (lim_i HL5709.out) ?_)|((with_reducible refine aS 53 ?_);refine wpList_build (by rfl) 131 _ rfl #[] rfl _ (HBK0.out _) ?_))
   go_upto_region 14 with (first|((with_reducible refine aS 59 ?_);refine wpList_build (by rfl) 131 _ rfl #[] rfl _ (HBK0.out _) ?_)|((with_reducible refine aS 60 ?_);refine wpList_load_part rfl 131 _ rfl (gd9_7) (0) _ 131 (0,0) _ (HBd9.out.get 7 rfl) rfl .u64 z5709 (arr_part _ _) Tryd.underlying131 rfl (lim_i HL5709.out) ?_)|((with_reducible show Calls _ 120 #[.agg _, .agg _] _ _);go_at_call 120; refine (minus_any _ _ _ HK0.out HZ5709.out p_pos HSL.out).mono ?_;rintro e w3612 ⟨z3612,rfl,h3612,hb3612⟩;have HZ3612:=Lib.hid h3612;have HL3612:=Lib.hid h3612.len;clear h3612;have HB3612:=Lib.hid (HBd9.out.kept hb3612);clear hb3612)|((with_reducible refine aT 10 (x:=(Operand.tmp 61)) ?_);refine wpList_store_whole rfl 131 _ _ rfl (gd9_7) _ _ 131 (HB3612.out.get 7 rfl) rfl rfl (arr_len2 _ _ HL3612.out HL5709.out) (lim_s HL3612.out) (all_arr _ _) ?_;intro w3613 hb3613 hk3613 hz3613;have HB3613:=Lib.hid (HB3612.out.put 7 rfl hk3613 hb3613);clear hb3613 hk3613 hz3613;clear HB3612))
   (try simp only [World.size_alloc,Act.put,sA,sZ,sS])
   obtain ⟨z5715,HZ5715,HL5715,HE5715⟩:=n4_ex (a:=(fmul (fsub 0 R) Y)) (fmul_lt _ _)
   obtain ⟨v5716,hv5716⟩:∃ x,x=z3612 ++ z3601 ++ k1 ++ z5715:=⟨_,rfl⟩
   have HR5716:Hid (∀ w,(Instr.build 133 #[(0, .agg (arr .u64 z3612)),(1, .agg (arr .u64 z3601)),(2, .agg (arr .u64 k1)),(3, .agg (arr .u64 z5715))]).run Tryd.prog w = .ok (.agg (arr .u64 v5716)) w):=Lib.hid (fun w=>by rw [hv5716];exact build_cpt _ _ _ _ HL3612.out HL3601.out HK1L.out HL5715.out w)
   have HL5716:Hid (v5716.length=16):=Lib.hid (by rw [hv5716];exact cpt_len HL3612.out HL3601.out HK1L.out HL5715.out)
   have HV5716:=Lib.hid hv5716
   clear hv5716
   refine wp_region_sym (T:=fun _=>False) (w:=w) (sy:=[Yr .u64 z3612,Yr .u64 z3601,Yr .u64 k1,Yr .u64 z3612,Yr .u64 z3601,Yr .u64 z5715,Yr .u64 v5716,Y0,Yv (.bool true)]) (pt:=[(7,1,cel (arr .u64 v5716) 133)]) (by kernel_rfl) (by kernel_rfl) (by kernel_rfl) HB3613.out.holds (fun hW=>?sd14613) (fun qd14613 xd14613 ud14613 _ hH=>?ed14613)
   case sd14613 =>
    refine SyL hW ?_ 7 0 ((arr .u64 z3612)) 131 rowL HL3612.out (arr_part _ _)
    refine SyL hW ?_ 2 0 ((arr .u64 z3601)) 131 rowL HL3601.out (arr_part _ _)
    refine SyL hW ?_ 3 0 ((arr .u64 k1)) 131 rowL HK1L.out (arr_part _ _)
    refine SyL hW ?_ 7 0 ((arr .u64 z3612)) 131 rowL HL3612.out (arr_part _ _)
    refine SyL hW ?_ 2 0 ((arr .u64 z3601)) 131 rowL HL3601.out (arr_part _ _)
    refine SyC hW ?_ (fun _=>times_any _ _ _ HZ3612.out HZ3601.out) HE5715.out
    refine SyB hW ?_ _ _ _ (fun u=>HR5716.out u)
    refine SyS hW ?_ 1 (arr .u64 zp) 133 rowC HL5716.out (asz HLzp.out)
    refine SyP hW ?_
    exact SyN
   case ed14613 =>
   have HBd14613:=Lib.hid (hH.blk [0,1,2,3,4,5,6,7] [(w.heap.size,arr .u8 ys, 23),(w.heap.size+1,arr .u64 v5716, 133),(g3602,(arr .u64 z3601), 131),(g3605,(arr .u64 k1), 131),(g3608,(arr .u64 z3607), 131),((qd8 8),arr .u64 z5703, 131),((qd8 9),arr .u64 z5706, 131),(gd9_7,(arr .u64 z3612), 131)] (by decide) (by kernel_rfl))
   simp only [lay,Sy.at,den',Yr,Yv,Yp,Yq,Yn,Y0,Act.put,sA,sZ,sS,Nat.reduceAdd]
   clear hH HB3613
   (try simp only [Exit.then])
   go_wp2_with fail
   (try simp only [Exit.then])
   refine bodyPost_ret (results_cell_tmp_row rfl _ _ (w.heap.size+1) 133 _ (0,0) _ _ rfl (HBd14613.out.get 1 rfl) Tryd.underlying133 rfl (cpt_s HL5716.out) rfl) rfl ?_
   have hxe:X=(fsub 0 R):=by rw [HX.out];rfl
   obtain rfl:er=some ⟨(fsub 0 R),Y,1,fmul (fsub 0 R) Y⟩:=by rw [HER.out,if_pos hlt,hxe];exact if_pos (by simp [hz])
   exact ⟨_,rfl,⟨HL5716.out,fun P h=>by cases h;rw [HV5716.out];exact P4.of HZ3612.out HZ3601.out HK1.out HZ5715.out ⟨fsub_lt _ _,hlt,one_lt,fmul_lt _ _⟩⟩,HBd14613.out.below⟩
theorem cmay_any {ks:List Int} (v:Nat) (w:World) (hk:K32 ks v):Calls Tryd.prog 54 #[.agg (arr .u8 ks)] w fun e w'=>e = .returned (.bool (eread v).isSome)∧Below w.heap.size w w':=by
 have HKS:=Lib.hid hk
 have HKL:=Lib.hid hk.len
 have hr:=fun (w:World)=>cread_any v w hk
 obtain ⟨bb,hbb⟩:∃ b,b=(eread v).isSome:=⟨_,rfl⟩
 rw [← hbb] at hr ⊢
 have HR:=Lib.hid hr
 obtain ⟨zp,hzp⟩:∃ zs:List Int,zs=List.replicate 16 0:=⟨_,rfl⟩
 have HZzp:Hid (∀ w,(zeroValue 133).run Tryd.prog w = .ok (.agg (arr .u64 zp)) w):=Lib.hid (by intro w;rw [hzp];exact zero_cpt w)
 have HLzp:Hid (zp.length=16):=Lib.hid (by rw [hzp];rfl)
 have HS0:=Lib.hid (Blk.one w (arr .u8 ks) 23)
 clear hzp hk hr hbb
 go_enter Tryd.func54, Tryd.ntmps54
 go_wp2_with (first|((with_reducible refine aS 6 ?_);refine wpList_load_part rfl 23 _ rfl (w.heap.size) 0 _ 23 (0,0) _ (HS0.out.get 0 rfl) rfl .u8 ks (arr_part _ _) Tryd.underlying23 rfl (num_i HKL.out) ?_)|((with_reducible show Calls _ 80 #[.agg _] _ _);go_at_call 80; refine (HR.out _).mono ?_;rintro e w1 ⟨z1,rfl,h1,hb1⟩;have HL1:=Lib.hid h1.1;have HB1:=Lib.hid (HS0.out.kept hb1);clear h1 hb1)|((with_reducible refine aS 3 ?_);refine wpList_alloc_row rfl 133 rfl _ (HZzp.out _) ?_;have HB2:=Lib.hid (HB1.out.alloc (arr .u64 zp) 133);generalize w1.heap.size=g1 at HB2 ⊢; generalize w1.alloc (.cells (arr .u64 zp) 133)=w2 at HB2 ⊢)|((with_reducible refine aT 3 ?_);refine wpList_store_whole rfl 133 _ _ rfl (g1) _ _ 133 (HB2.out.get 1 rfl) rfl rfl (arr_len2 _ _ HL1.out HLzp.out) (cpt_s HL1.out) (all_arr _ _) ?_;intro w3 hb3 hk3 hz3;have HB3:=Lib.hid (HB2.out.put 1 rfl hk3 hb3);clear hb3 hk3 hz3))
 go_ret
 exact ⟨rfl,HB3.out.below⟩
end Go.Proofs.YtodnkallpfkdiaaDoor.Sl
