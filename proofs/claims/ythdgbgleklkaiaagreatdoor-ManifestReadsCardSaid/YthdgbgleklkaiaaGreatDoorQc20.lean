/- The clamping of a key, in plain words. curve.factor, base, none, point. Condition: as each theorem says. -/
import Derived.Laws.Cover3
import Derived.Test.YthdgbgleklkaiaaGreatDoorQc07
import Derived.Test.YthdgbgleklkaiaaGreatDoorQc08
import Derived.Test.YthdgbgleklkaiaaGreatDoorQc11
import Derived.Test.YthdgbgleklkaiaaGreatDoorQc16
import Derived.Test.YthdgbgleklkaiaaGreatDoorQc19
open Go.Lib renaming hid→abC
open List renaming replicate→abD,length_map→abE,getElem?_append_right→abF,set_append_right→abI,length_set→abJ,getD→abK,getElem?_append_left→abO,getElem?_eq_getElem→abV,getElem_mem→abW,getElem?_toArray→abX,length_append→abY
open Nat renaming mod_lt→abG,mod_eq_of_lt→abH,div_div_eq_div_mul→abL,lt_of_lt_of_le→abM,le_refl→abN,pow_mod→abP,mul_pow→abQ,mod_add_div→abT,mod_eq_zero_of_dvd→acA
set_option linter.unusedSimpArgs false
set_option linter.unusedVariables false
set_option maxRecDepth 100000
set_option maxHeartbeats 16000000
namespace Go.Proofs.YthdgbgleklkaiaaGreatDoor.Rd
open Go.RowKit Lm Fp Cu
theorem and248:∀ x:Nat,x < 256→bits .and .u8 (x:Int) 248=((x / 8 * 8:Nat):Int):=by decide +kernel
theorem or64:∀ x:Nat,x < 256→bits .or .u8 (bits .and .u8 (x:Int) 127) 64=((x % 64+64:Nat):Int):=by decide +kernel
theorem Uf (v:Nat) (hv:v < 2 ^ 256):((bD 256 32 v).set 0 (v % 256 / 8 * 8)).set 31 (v / 256 ^ 31 % 64+64)=bD 256 32 (clamp v):=by
 have hlt:v / 256 ^ 31 < 256:=Nat.div_lt_of_lt_mul (abM hv (by decide))
 have hcl:clamp v < 256 ^ 32:=by
  unfold clamp
  have:=abG (v / 8 * 8) (show 0 < 2 ^ 254 by decide)
  exact abM (Nat.add_lt_add_right this _) (by decide)
 have l0:v % 256 / 8 * 8 < 256:=by omega
 have l1:∀ x∈(bD 256 32 v).set 0 (v % 256 / 8 * 8),x < 256:=jN (iw 256 (by decide) _ _) _ _ l0
 refine nV 256 (by decide) 32 _ _ (by rw [abJ,abJ,aK]) (jN l1 _ _ (by omega)) ?_
 have h0:=nG 256 (bD 256 32 v) 0 (v % 256 / 8 * 8) (by rw [aK];decide)
 have h1:=nG 256 ((bD 256 32 v).set 0 (v % 256 / 8 * 8)) 31 (v / 256 ^ 31 % 64+64) (by rw [abJ,aK];decide)
 have Na:((bD 256 32 v).set 0 (v % 256 / 8 * 8)).getD 31 0=v / 256 ^ 31:=by
  simp only [abK]
  rw [List.getElem?_set_ne (by decide)]
  have:=dn 256 32 v 31 (by decide)
  rw [abH hlt] at this
  simpa [abK] using this
 have g0:(bD 256 32 v).getD 0 0=v % 256:=by rw [dn _ _ _ _ (by decide)];simp
 have hv32:v % 256 ^ 32=v:=abH (abM hv (by decide))
 rw [g0,fA,hv32,Nat.pow_zero,Nat.one_mul,Nat.one_mul] at h0
 rw [Na] at h1
 have e1:clamp v=v / 8 * 8 % 2 ^ 254+2 ^ 254:=rfl
 have e3:v / 8 * 8 / 2 ^ 254=v / 256 ^ 31 / 64:=by
  rw [show (2:Nat) ^ 254=8 * 2 ^ 251 by decide,← abL,Nat.mul_div_cancel _ (by decide),abL,abL]
 have e2:=abT (v / 8 * 8) (2 ^ 254)
 have e4:=abT (v / 256 ^ 31) 64
 rw [e3] at e2
 clear Na g0
 generalize v / 256 ^ 31=t at *
 rw [e1]
 have k1:(256:Nat) ^ 31=452312848583266388373324160190187140051835877600158453279131187530910662656:=by decide
 have k2:(2:Nat) ^ 254=28948022309329048855892746252171976963317496166410141009864396001978282409984:=by decide
 rw [k1] at h1
 rw [k2] at e2 ⊢
 have e5:v % 256 / 8 * 8+(v - v % 256)=v / 8 * 8:=by omega
 have e6:v % 256≤v:=Nat.mod_le _ _
 omega
end Go.Proofs.YthdgbgleklkaiaaGreatDoor.Rd
namespace Go.Proofs.YthdgbgleklkaiaaGreatDoor.Sl
open Go.RowKit Lm Fp Cu Rd
theorem cpt_len {a b c d:List Int} (ha:a.length=4) (hb:b.length=4) (hc:c.length=4) (hd:d.length=4):(a ++ b ++ c ++ d).length=16:=by simp [ha,hb,hc,hd]
def ptl (P:Pt):List Int:=aW (bD 18446744073709551616 4 P.x) ++ aW (bD 18446744073709551616 4 P.y) ++ aW (bD 18446744073709551616 4 P.z) ++ aW (bD 18446744073709551616 4 P.t)
theorem ptl_len (P:Pt):(ptl P).length=16:=cpt_len ((aG _).trans (aK _ _ _)) ((aG _).trans (aK _ _ _)) ((aG _).trans (aK _ _ _)) ((aG _).trans (aK _ _ _))
def P4 (ps:List Int) (P:Pt):Prop:=ps=ptl P∧P.Ok
theorem P4.len {ps:List Int} {P:Pt} (h:P4 ps P):ps.length=16:=by rw [h.1];exact ptl_len P
theorem P4.cast {ps:List Int} {P Q:Pt} (h:P4 ps P) (e:P=Q):P4 ps Q:=e▸h
end Go.Proofs.YthdgbgleklkaiaaGreatDoor.Sl
namespace Go.Proofs.YthdgbgleklkaiaaGreatDoor.Cu
open Go.RowKit Lm Fp Sc
def wide (xs:List Int):Nat:=fD (Hb.hash xs) % q
def jU (seed:Nat):Nat:=clamp (fD ((Hb.hash (n32 seed)).take 32))
def jT (seed:Nat):List Int:=(Hb.hash (n32 seed)).drop 32
def xQ (seed:Nat):Nat:=lF (kC base (jU seed) 256)
def vw (seed:Nat) (b:List Int):Nat:=lF (kC base (wide (jT seed ++ b)) 256)
def Nc (seed:Nat) (b:List Int):Nat:=(wide (jT seed ++ b)+wide (n32 (vw seed b) ++ (n32 (xQ seed) ++ b)) * jU seed % q) % q
def kH (seed:Nat) (b:List Int):List Int:=n32 (vw seed b) ++ n32 (Nc seed b)
theorem pQ (m:List Int):bytes (Hb.hash m):=by
 intro x hx
 simp only [Hb.hash,Hb.digest,List.mem_map,List.mem_range] at hx
 obtain ⟨i,_,rfl⟩:=hx
 omega
end Go.Proofs.YthdgbgleklkaiaaGreatDoor.Cu
namespace Go.Proofs.YthdgbgleklkaiaaGreatDoor.Sl
open Go.RowKit Lm Fp Cu Sc
theorem sJ (w:World):(zeroValue 27).run Tryz.prog w = .ok (.agg (arr .u8 (abD 64 0))) w:=by kernel_rfl
theorem Iz:(Tryz.prog.info? 27).map (·.size)=some 64:=by kernel_rfl
theorem sU {xs:List Int} (h:xs.length=64):(Tryz.prog.info? 27).map (·.size)=some (arr .u8 xs).size:=by rw [aD,h];exact Iz
theorem sig_i {xs:List Int} (h:xs.length=64):(Tryz.prog.info? 27).map (·.size)=some xs.length:=by rw [h];exact Iz
theorem EK {w:World} {g:Nat} {xs:List Int} {t:TypeId} {fr:Nat×Nat} (h:w.heap[g]? = some (.cells (arr .u8 xs) t fr)) (o m:Nat) (hm:o+m≤xs.length):Src w (some ⟨g,o,none⟩) m ((xs.drop o).take m):=by
 refine ⟨by rw [List.length_take,List.length_drop];omega,fun i hi=>⟨_,rfl,?_⟩⟩
 rw [Addr.add_lit,cB h (o+i) (by omega)]
 have e:((xs.drop o).take m).getD i 0=xs.getD (o+i) 0:=by simp [abK,List.getElem?_take,hi,List.getElem?_drop]
 rw [e]
theorem bQ {w:World} {g:Nat} {xs:List Int} {t:TypeId} {fr:Nat×Nat} (h:w.heap[g]? = some (.cells (arr .u8 xs) t fr)) (m:Nat) (hm:xs.length=m):Src w (some ⟨g,0,none⟩) m xs:=by
 have:=EK h 0 m (by omega)
 rwa [List.drop_zero,List.take_of_length_le (by omega)] at this
theorem Ua {w:World} {si:Option Addr} {n ci:Nat} {l:List Int} (h:Src w si n l) (hc:n≤ci) :
  om (w.alloc (.cells #[.slice si n ci] 22)) (some ⟨w.heap.size,0,none⟩) 1 [l]:=by
 have hl:=h.len
 subst hl
 refine ⟨rfl,fun i hi=>?_⟩
 obtain rfl:i=0:=by omega
 refine ⟨_,si,ci,rfl,?_,hc,h.below ((Below.refl _ w).alloc (abN _) _)⟩
 rw [show (⟨w.heap.size,0,none⟩:Addr).add 0=⟨w.heap.size,0,none⟩ from rfl,aF (aH w _)]
 rfl
theorem Uu {w w':World} {o:Obj} (h:Below (w.alloc o).heap.size (w.alloc o) w'):Below w.heap.size w w':=by
 have b1:Below w.heap.size w (w.alloc o):=(Below.refl _ w).alloc (abN _) o
 exact b1.trans (h.mono b1.size)
theorem bO.add {w wr w':World} {l:List (Nat×Array Value×TypeId)} (h:bO w wr l) (b:Below wr.heap.size wr w') {g:Nat} {c:Array Value} {t:TypeId} (hg:w'.heap[g]? = some (.cells c t (0,0))) (hle:wr.heap.size≤g):bO w w' (l ++ [(g,c,t)]):=by
 have h1:=h.kept b
 have hlt:∀ (i g':Nat) (c':Array Value) (t':TypeId),l[i]? = some (g',c',t')→g' < wr.heap.size:=fun i g' c' t' hi=>h.lt i hi
 refine ⟨fun i g' c' t' hi=>?_,fun i j g' c1 t1 c2 t2 hi hj=>?_,h1.below⟩
 ·rcases Nat.lt_or_ge i l.length with hl|hl
  ·rw [abO hl] at hi
   exact h1.mem i g' c' t' hi
  ·rw [abF hl] at hi
   obtain ⟨hh0,e⟩:=List.getElem?_eq_some_iff.1 hi
   have e2:(g,c,t)=(g',c',t'):=by rw [← e];simp
   cases e2
   exact ⟨hg,Nat.le_trans h.below.size hle⟩
 ·have key:∀ (i g':Nat) (c':Array Value) (t':TypeId),(l ++ [(g,c,t)])[i]? = some (g',c',t')→(i < l.length∧l[i]? = some (g',c',t'))∨(i=l.length∧g'=g):=by
   intro i g' c' t' hi
   rcases Nat.lt_or_ge i l.length with hl|hl
   ·rw [abO hl] at hi
    exact .inl ⟨hl,hi⟩
   ·rw [abF hl] at hi
    obtain ⟨hh,e⟩:=List.getElem?_eq_some_iff.1 hi
    have e2:(g,c,t)=(g',c',t'):=by rw [← e];simp
    cases e2
    simp at hh
    exact .inr ⟨by omega,rfl⟩
  rcases key i g' c1 t1 hi with ⟨a1,a2⟩|⟨a1,a2⟩ <;> rcases key j g' c2 t2 hj with ⟨b1,b2⟩|⟨b1,b2⟩
  ·exact h.inj i j _ _ _ _ _ a2 b2
  ·have:=hlt i g' c1 t1 a2;omega
  ·have:=hlt j g' c2 t2 b2;omega
  ·omega
theorem src_two {w:World} {g:Nat} {t:TypeId} {fr:Nat×Nat} {s1 s2:Option Addr} {n1 n2 c1 c2:Nat} {x1 x2:List Int} (h:w.heap[g]? = some (.cells #[.slice s1 n1 c1, .slice s2 n2 c2] t fr)) (h1:Src w s1 n1 x1) (h2:Src w s2 n2 x2) (l1:n1≤c1) (l2:n2≤c2) :
  om w (some ⟨g,0,none⟩) 2 [x1,x2]:=by
 have e1:=h1.len
 have e2:=h2.len
 subst e1 e2
 refine ⟨rfl,fun i hi=>?_⟩
 match i,hi with
 | 0,_=>exact ⟨_,s1,c1,rfl,by rw [show (⟨g,0,none⟩:Addr).add 0=⟨g,0,none⟩ from rfl,aF h];rfl,l1,h1⟩
 | 1,_=>exact ⟨_,s2,c2,rfl,by rw [show (⟨g,0,none⟩:Addr).add 1=⟨g,1,none⟩ from rfl,aF h];rfl,l2,h2⟩
end Go.Proofs.YthdgbgleklkaiaaGreatDoor.Sl
namespace Go.Proofs.YthdgbgleklkaiaaGreatDoor.Sm
open Go.RowKit
theorem str_inj:∀ (xs ys:List Int),bytes xs→bytes ys→strOfNums xs=strOfNums ys→xs=ys:=by
 intro xs ys hx hy h
 have h2:(strOfNums xs).data.toList=(strOfNums ys).data.toList:=by rw [h]
 rw [strOfNums_data,strOfNums_data] at h2
 have hl:xs.length=ys.length:=by have:=congrArg List.length h2;simpa using this
 apply List.ext_getElem hl
 intro i h1 h3
 have e:=congrArg (fun l=>l[i]?) h2
 simp only [List.getElem?_map,abV h1,abV h3,Option.map_some,Option.some.injEq] at e
 have b1:=hx xs[i] (abW h1)
 have b2:=hy ys[i] (abW h3)
 have e2:=congrArg UInt8.toNat e
 rw [UInt8.toNat_ofNat',UInt8.toNat_ofNat'] at e2
 omega
theorem str_eq (xs ys:List Int) (hx:bytes xs) (hy:bytes ys):((strOfNums xs).toList == (strOfNums ys).toList)=decide (xs=ys):=by
 by_cases h:xs=ys
 ·rw [h,decide_eq_true rfl,beq_iff_eq]
 ·rw [decide_eq_false h,beq_eq_false_iff_ne]
  intro e
  apply h
  apply str_inj xs ys hx hy
  rw [ByteArray.toList_eq,ByteArray.toList_eq] at e
  exact ByteArray.ext (Array.toList_inj.1 e)
end Go.Proofs.YthdgbgleklkaiaaGreatDoor.Sm
namespace Go.Proofs.YthdgbgleklkaiaaGreatDoor.Rd
open Go.RowKit Lm Fp Cu
theorem tZ {P:Program} {o:Oper} {ev:Operand→Value} {w:World} (t ty:TypeId) (e:TypeId) (x y:Operand) (ho:o.op = .binOp .neq t x y ty) (n:Nat) (k k':IntKind)
  (ht:P.underlying t=some (.array n e)) (he:P.underlying e=some (.int k')) (hsz:∀ w,(sizeOf e).run P w = .ok 1 w) (hm:P.eqGuardType P.depth t=false)
  (xs ys:List Int) (hx:ev x = .agg (arr k xs)) (hy:ev y = .agg (arr k ys)) (lx:xs.length=n) (ly:ys.length=n) (b:Bool) (hb:(!(xs == ys))=b) :
  (execOp ev o).run P w = .ok (.value (.bool b)) w:=by
 simp only [execOp,ho,hx,hy,Sem.run_bind,run_eqGuard_agg w .neq t x y _ _ hm,Result.andThen_ok,IE w t e n k k' ht he hsz xs ys lx ly,hb]
 rfl
theorem KX:p < 256 ^ 32:=by decide +kernel
theorem yV (v:Nat) (h:v < 256 ^ 32):val 256 (bD 256 32 v)=v:=by rw [fA,abH h]
theorem Lp (v:Nat) (w:World) (h:v < 256 ^ 32):Calls Tryz.prog 141 #[.agg (arr .u8 (aW (bD 256 32 v)))] w fun e w'=>∃ zs,e = .returned (.agg (arr .i64 zs))∧El zs (v % p)∧Below w.heap.size w w':=by
 have:=in_any (bD 256 32 v) w (aK _ _ _) (iw 256 (by decide) _ _)
 rwa [yV v h] at this
theorem Um (v:Nat) (w:World) (h:v < 256 ^ 32):Calls Tryz.prog 159 #[.agg (arr .u8 (aW (bD 256 32 v)))] w fun e w'=>e = .returned (.agg (arr .u8 (aW (bD 256 32 (v % p)))))∧Below w.heap.size w w':=by
 have hi:=fun w=>Lp v w h
 obtain ⟨ns,hns⟩:∃ x,x=aW (bD 256 32 v):=⟨_,rfl⟩
 have uL:Hid (ns.length=32):=abC (by rw [hns,aG,aK])
 rw [← hns] at hi ⊢
 have ho:=fun xs w (h:El xs (v % p))=>nQ xs (v % p) w h
 obtain ⟨os,hos⟩:∃ x,x=aW (bD 256 32 (v % p)):=⟨_,rfl⟩
 have HOL:Hid (os.length=32):=abC (by rw [hos,aG,aK])
 have HOS:=abC hos
 rw [← hos] at ho
 have HI:=abC hi
 have HO:=abC ho
 obtain ⟨zn,hzn,dB,dw⟩:=zN zero_num
 have bW:=abC (bO.two w (arr .u8 ns) (arr .u8 zn) 25 25)
 clear hzn hi ho hns hos
 go_enter Tryz.func159, Tryz.ntmps159
 go_wp2_with (first|((with_reducible refine aS 2 ?_);refine ah rfl 25 rfl _ (dB.out _) ?_)|((with_reducible refine aS 3 ?_);refine lL rfl rfl (bW.out.get 0 rfl) rfl (aj _ _) Tryz.underlying25 rfl (bU uL.out) ?_)|((with_reducible show Calls _ 141 _ _ _);go_at_call 141; refine (HI.out _).mono ?_;rintro e w1 ⟨z1,rfl,h1,hb1⟩;have HZ1:=abC h1;have HB1:=abC (bW.out.kept hb1);clear h1 hb1)|((with_reducible show Calls _ 131 _ _ _);go_at_call 131; refine lC (HO.out _ _ HZ1.out) HB1 ?_;intro w2 HB2)|((with_reducible refine aT 2 ?_);refine lS rfl rfl HB2 1 rfl rfl rfl (av _ _ HOL.out dw.out) (bG HOL.out) (ak _ _) ?_;intro w3 HB3))
 (try simp only [Exit.then])
 refine bodyPost_ret (results_cell_row rfl _ _ (w.heap.size+1) 25 _ (0,0) _ rfl (HB3.out.get 1 rfl) Tryz.underlying25 rfl (bG HOL.out)) rfl ?_
 exact ⟨by rw [HOS.out],HB3.out.below⟩
end Go.Proofs.YthdgbgleklkaiaaGreatDoor.Rd
namespace Go.Proofs.YthdgbgleklkaiaaGreatDoor.Rd
open Go.RowKit Lm Fp Cu
theorem wW (v:Nat) (w:World) (hv:v < 2 ^ 256) :
  Calls Tryz.prog 129 #[.agg (arr .u8 (aW (bD 256 32 v)))] w fun e w'=>e = .returned (.agg (arr .u8 (aW (bD 256 32 (clamp v)))))∧Below w.heap.size w w':=by
 have hcs:=Uf v hv
 obtain ⟨t1,t2⟩:=oU v hv
 have l1:=zZ v
 have g0:(aW (bD 256 32 v)).getD 0 0=((v % 256:Nat):Int):=by rw [bH,l1]
 have Na:(aW (bD 256 32 v)).getD 31 0=((v / 256 ^ 31:Nat):Int):=by rw [bH,t1]
 have a0:=and248 (v % 256) (abG _ (by decide))
 have a1:=or64 (v / 256 ^ 31) t2
 have hfin:((aW (bD 256 32 v)).set 0 ((v % 256 / 8 * 8:Nat):Int)).set 31 ((v / 256 ^ 31 % 64+64:Nat):Int)=aW (bD 256 32 (clamp v)):=by rw [← cZ,← cZ,hcs]
 obtain ⟨ns,hns⟩:∃ x,x=aW (bD 256 32 v):=⟨_,rfl⟩
 obtain ⟨rs,hrs⟩:∃ x,x=aW (bD 256 32 (clamp v)):=⟨_,rfl⟩
 have uL:Hid (ns.length=32):=abC (by rw [hns,aG,aK])
 have iR:Hid (rs.length=32):=abC (by rw [hrs,aG,aK])
 rw [← hns] at g0 Na hfin ⊢
 rw [← hrs] at hfin
 generalize v / 256 ^ 31=t at Na a1 hfin t2
 generalize hx:v % 256=x at g0 a0 hfin
 have hx2:x < 256:=by omega
 obtain ⟨zn,hzn,dB,dw⟩:=zN zero_num
 have bW:=abC (bO.two w (arr .u8 ns) (arr .u8 zn) 25 25)
 have e2:((arr .u8 ns).setIfInBounds 0 (.int .u8 (bits .and .u8 (x:Int) 248))).setIfInBounds 31 (.int .u8 (bits .or .u8 (bits .and .u8 (t:Int) 127) 64))=arr .u8 rs:=by rw [a0,a1,bq,bq,hfin]
 have HE2:=abC e2
 have CV:=abC hrs
 have HG0:=abC g0
 have HG31:=abC Na
 clear hzn hns hrs hcs t1 l1 g0 Na a0 a1 hfin e2 hx
 go_enter Tryz.func129, Tryz.ntmps129
 go_upto_region 1 with (first|((with_reducible refine aS 2 ?_);refine ah rfl 25 rfl _ (dB.out _) ?_))
 (try simp only [World.size_alloc,Act.put,sA,sZ,sS])
 generalize ((w.alloc (.cells (arr .u8 ns) 25)).alloc (.cells (arr .u8 zn) 25))=wb at bW ⊢
 have q0:=aP (bW.out.get 0 rfl) 0 (by rw [uL.out];decide)
 have q1:=aP (bW.out.get 0 rfl) 31 (by rw [uL.out];decide)
 have q2:=aC (bW.out.get 0 rfl) 0
 have q3:=aC (bW.out.get 0 rfl) 31
 rw [HG0.out] at q0
 rw [HG31.out] at q1
 have hb1:=(bW.out.cell 0 rfl 0 (.int .u8 (bits .and .u8 (x:Int) 248))).cell 0 rfl 31 (.int .u8 (bits .or .u8 (bits .and .u8 (t:Int) 127) 64))
 have iY:=abC (hb1.cast (l':=[(w.heap.size,arr .u8 rs, 25),(w.heap.size+1,arr .u8 zn, 25)]) (by rw [← HE2.out];rfl))
 clear hb1
 go_upto_region 3 with fail
 go_wp2_with (first|((with_reducible refine aS 12 ?_);refine lL rfl rfl (iY.out.get 0 rfl) rfl (aj _ _) Tryz.underlying25 rfl (bU iR.out) ?_)|((with_reducible refine aT 2 ?_);refine lS rfl rfl iY 1 rfl rfl rfl (av _ _ iR.out dw.out) (bG iR.out) (ak _ _) ?_;intro w3 HB3))
 (try simp only [Exit.then])
 refine bodyPost_ret (results_cell_row rfl _ _ (w.heap.size+1) 25 _ (0,0) _ rfl (HB3.out.get 1 rfl) Tryz.underlying25 rfl (bG iR.out)) rfl ?_
 exact ⟨by rw [CV.out],HB3.out.below⟩
end Go.Proofs.YthdgbgleklkaiaaGreatDoor.Rd
namespace Go.Proofs.YthdgbgleklkaiaaGreatDoor.Wr
open Go.RowKit Lm Cu Sl
theorem wO {w:World} {ops:Array Oper} {rest:List Oper} {o:Oper} {a:Act} {Q:Exit→Act→World→Prop} (hgd:o.guard=none) (d s:Operand)
  (ho:o.op = .call { callee := .builtin .copy,args := #[d,s],argTypes := #[22, 22] }) (g m c n cs:Nat) (ad:Addr) (cur xs:List Int) (t:TypeId)
  (hd:a.eval d = .slice (some ⟨g,0,none⟩) m c) (hs:a.eval s = .slice (some ad) n cs) (hg:w.heap[g]? = some (.cells (arr .u8 cur) t (0,0))) (hsrc:Src w (some ad) n xs) (hnm:n≤m) (hfit:m≤cur.length)
  (h:∀ w',w'.heap[g]? = some (.cells (arr .u8 (xs ++ cur.drop n)) t (0,0))→Kept (fun x=>x=g) w w'→wpList Tryz.prog ops Q rest (a.put o.dst (.int .i64 (n:Int))) w'):wpList Tryz.prog ops Q (o :: rest) a w:=by
 refine wpList_plain hgd fun K hK=>?_
 have hl:=hsrc.len
 have hrun:=run_copy_row (P := Tryz.prog) w 22 22 o.type 5 g 0 m c ad n cs (arr .u8 cur) t (xs.map (Value.int .u8)) Tryz.underlying22 (by kernel_rfl) hg (by rw [abE,hl];exact (Nat.min_eq_left hnm).symm) (jq hsrc _ rfl) (by rw [abE,hl,aD];omega) (mQ _ _)
 unfold Oper.wp execOp
 simp only [ho,resolve,invoke,builtin,Sem.run_bind,Sem.run_pure,Result.andThen_ok,List.map_toArray,List.map_cons,List.map_nil,hd,hs,hrun]
 have e:((arr .u8 cur).toList.take 0 ++ xs.map (Value.int .u8) ++ (arr .u8 cur).toList.drop (0+(xs.map (Value.int .u8)).length)).toArray=arr .u8 (xs ++ cur.drop n):=by
  show ((cur.map (Value.int .u8)).take 0 ++ xs.map (Value.int .u8) ++ (cur.map (Value.int .u8)).drop (0+(xs.map (Value.int .u8)).length)).toArray=((xs ++ cur.drop n).map (Value.int .u8)).toArray
  rw [abE,hl,List.map_append,List.map_drop,List.take_zero,List.nil_append,Nat.zero_add]
 rw [e,abE,hl]
 exact hK _ _ (h _ (setRow_heap w g _ _ t _ hg) ⟨rfl,rfl,rfl,by simp [World.setRow],fun k _ hne=>setRow_other w g k _ hne⟩)
theorem mk64 (w:World):(Instr.makeSlice 22 (.int .i64 64) (.int .i64 64)).run Tryz.prog w = .ok (.slice (some ⟨w.heap.size,0,none⟩) 64 64) (w.alloc (.cells (arr .u8 (abD 64 0)) 5)):=by kernel_rfl
end Go.Proofs.YthdgbgleklkaiaaGreatDoor.Wr
namespace Go.Proofs.YthdgbgleklkaiaaGreatDoor.Po
open Go.RowKit Lm
def jo (h r b:List Nat) (n:Nat):Array Value:=((aW h).map (Value.int .u64) ++ ((aW r).map (Value.int .u64) ++ ((aW b).map (Value.int .u8) ++ [Value.int .i64 (n:Int)]))).toArray
structure bE (w:World) (p:Nat) (h r b:List Nat) (n:Nat):Prop where
 blk:w.heap[p]? = some (.cells (jo h r b n) 246 (0,0))
 hl:h.length=4
 rl:r.length=4
 bl:b.length=16
theorem bE.fr {w:World} {p n:Nat} {h r b:List Nat} (s:bE w p h r b n) (o:Nat):w.frozen? ⟨p,o,none⟩=false:=aC s.blk o
theorem bE.kept {T:Nat→Prop} {w w':World} {p n:Nat} {h r b:List Nat} (s:bE w p h r b n) (k:Kept T w w') (hp:¬ T p):bE w' p h r b n:=⟨k.blk s.blk hp,s.hl,s.rl,s.bl⟩
theorem bE.below {w w':World} {p n:Nat} {h r b:List Nat} (s:bE w p h r b n) (k:Below w.heap.size w w'):bE w' p h r b n:=⟨Below.blk k s.blk (aV s.blk),s.hl,s.rl,s.bl⟩
theorem bE.drewN {w:World} {p n:Nat} {h r b:List Nat} (s:bE w p h r b n) (k:Nat):bE (w.drewN k) p h r b n:=⟨s.blk,s.hl,s.rl,s.bl⟩
theorem bE.drew {w:World} {p n:Nat} {h r b:List Nat} (s:bE w p h r b n):bE w.drew p h r b n:=⟨s.blk,s.hl,s.rl,s.bl⟩
theorem bE.alloc {w:World} {p n:Nat} {h r b:List Nat} (s:bE w p h r b n) (o:Obj):bE (w.alloc o) p h r b n:=⟨aY s.blk o,s.hl,s.rl,s.bl⟩
theorem nS (k:IntKind) (xs:List Nat) (i:Nat) (hi:i < xs.length):((aW xs).map (Value.int k))[i]? = some (.int k ((xs.getD i 0:Nat):Int)):=by
 rw [← bH]
 have:i < (aW xs).length:=by rw [aG];exact hi
 simp [abK,this]
theorem Ir {h r b:List Nat} (n:Nat) (hl:h.length=4) (rl:r.length=4) (bl:b.length=16) (i:Nat) (hi:i < 16):(jo h r b n)[8+i]? = some (.int .u8 ((b.getD i 0:Nat):Int)):=by
 unfold jo
 rw [abX,abF (by simp [aG];omega),abF (by simp [aG];omega),abO (by simp [aG];omega),abE,abE,aG,aG,hl,rl,show 8+i - 4 - 4=i by omega,nS _ _ _ (by omega)]
theorem zA {h r b:List Nat} (n:Nat) (hl:h.length=4) (rl:r.length=4) (bl:b.length=16):(jo h r b n)[24]? = some (.int .i64 (n:Int)):=by
 unfold jo
 rw [abX,abF (by simp [aG];omega),abF (by simp [aG];omega),abF (by simp [aG];omega)]
 simp [aG,hl,rl,bl]
theorem xH (cs:List Value) (i:Nat) (v:Value):cs.toArray.setIfInBounds i v=(cs.set i v).toArray:=by simp
theorem oW {h r b:List Nat} (n:Nat) (hl:h.length=4) (rl:r.length=4) (bl:b.length=16) (i:Nat) (hi:i < 16) (x:Nat):(jo h r b n).setIfInBounds (8+i) (.int .u8 (x:Int))=jo h r (b.set i x) n:=by
 unfold jo
 rw [xH,abI _ _ (by simp [aG];omega),abI _ _ (by simp [aG];omega),List.set_append_left _ _ (by simp [aG];omega),cZ,List.map_set,abE,abE,aG,aG,hl,rl,show 8+i - 4 - 4=i by omega]
theorem kV {h r b:List Nat} (n:Nat) (hl:h.length=4) (rl:r.length=4) (bl:b.length=16) (x:Nat):(jo h r b n).setIfInBounds 24 (.int .i64 (x:Int))=jo h r b x:=by
 unfold jo
 rw [xH,abI _ _ (by simp [aG];omega),abI _ _ (by simp [aG];omega),abI _ _ (by simp [aG];omega)]
 simp [aG,hl,rl,bl]
theorem bE.NI {w:World} {p n:Nat} {h r b:List Nat} (s:bE w p h r b n):w.cell? ⟨p,24,none⟩=some (.int .i64 (n:Int)):=by rw [aF s.blk,zA n s.hl s.rl s.bl]
theorem bE.at_b {w:World} {p n:Nat} {h r b:List Nat} (s:bE w p h r b n) (i:Nat) (hi:i < 16):w.cell? ⟨p,8+i,none⟩=some (.int .u8 ((b.getD i 0:Nat):Int)):=by rw [aF s.blk,Ir n s.hl s.rl s.bl i hi]
theorem bE.Wi {w:World} {p n:Nat} {h r b:List Nat} (s:bE w p h r b n) (i:Nat) (hi:i < 16) (x:Nat):bE (w.setCell ⟨p,8+i,none⟩ (.int .u8 (x:Int))) p h r (b.set i x) n :=
 ⟨by rw [aQ s.blk,oW n s.hl s.rl s.bl i hi],s.hl,s.rl,by rw [abJ];exact s.bl⟩
theorem bE.IB {w:World} {p n:Nat} {h r b:List Nat} (s:bE w p h r b n) (x:Nat):bE (w.setCell ⟨p,24,none⟩ (.int .i64 (x:Int))) p h r b x :=
 ⟨by rw [aQ s.blk,kV n s.hl s.rl s.bl],s.hl,s.rl,s.bl⟩
structure xR (p:Nat) (w wr:World) (h r b:List Nat) (n:Nat):Prop where
 st:bE wr p h r b n
 kept:Kept (fun x=>x=p) w wr
theorem xR.after {p n:Nat} {w wr w':World} {h r b:List Nat} (s:xR p w wr h r b n) (k:Below wr.heap.size wr w'):xR p w w' h r b n :=
 ⟨s.st.below k,s.kept.trans ((Kept.of_below (T:=fun _=>False) k).mono (fun _ _ hf=>hf.elim))⟩
theorem xR.alloc {p n:Nat} {w wr:World} {h r b:List Nat} (s:xR p w wr h r b n) (o:Obj):xR p w (wr.alloc o) h r b n:=⟨s.st.alloc o,s.kept.alloc o⟩
theorem xR.drew {p n:Nat} {w wr:World} {h r b:List Nat} (s:xR p w wr h r b n):xR p w wr.drew h r b n:=⟨s.st.drew,s.kept.drew⟩
theorem xR.far {p n:Nat} {w wr w':World} {h r b:List Nat} {g:Nat} (s:xR p w wr h r b n) (k:Kept (fun i=>i=g) wr w') (hg:p < g) (hw:w.heap.size≤g):xR p w w' h r b n :=
 ⟨s.st.kept k (by omega),s.kept.bS k (fun i hi e=>by omega)⟩
end Go.Proofs.YthdgbgleklkaiaaGreatDoor.Po
namespace Go.Proofs.YthdgbgleklkaiaaGreatDoor.Po
open Go.RowKit Lm
theorem zero32' (w:World):(zeroValue 25).run Tryz.prog w = .ok (.agg (arr .u8 (abD 32 0))) w:=by kernel_rfl
end Go.Proofs.YthdgbgleklkaiaaGreatDoor.Po
namespace Go.Proofs.YthdgbgleklkaiaaGreatDoor.Po
open Go.RowKit Lm
theorem Pj (w:World):(zeroValue 177).run Tryz.prog w = .ok (.agg (arr .u8 (abD 16 0))) w:=by kernel_rfl
theorem xW (r:Nat) (m:List Nat) (q:Nat):acc r m q < 2 ^ 130 - 5:=by
 cases q with
 | zero=>show 0 < 2 ^ 130 - 5;decide
 | succ q=>exact abG _ (by decide)
end Go.Proofs.YthdgbgleklkaiaaGreatDoor.Po
namespace Go.Proofs.YthdgbgleklkaiaaGreatDoor.Ae
open Go.RowKit Lm Po Ch
def zr (n:Nat):Nat:=(16 - n % 16) % 16
def FP (n:Nat):List Int:=aW (bD 256 8 n)
def msg (beside c:List Int):List Int:=beside ++ (abD (zr beside.length) 0 ++ (c ++ (abD (zr c.length) 0 ++ (FP beside.length ++ FP c.length))))
def toN (xs:List Int):List Nat:=xs.map Int.toNat
def tag (key aM c beside:List Int):List Int:=aW (KC (toN ((block key 0 aM).take 32)) (toN (msg beside c)))
def lN (key aM plain beside:List Int):List Int:=turn key 1 aM plain ++ tag key aM (turn key 1 aM plain) beside
theorem toN_nar {xs:List Int} (h:bytes xs):aW (toN xs)=xs:=K9 xs (fun x hx=>(h x hx).1)
theorem toN_lt {xs:List Int} (h:bytes xs):∀ x∈toN xs,x < 256:=by
 intro x hx
 obtain ⟨y,hy,rfl⟩:=List.mem_map.1 hx
 have:=h y hy
 omega
theorem toN_len (xs:List Int):(toN xs).length=xs.length:=by simp [toN]
theorem xW (key aM c beside:List Int):(tag key aM c beside).length=16:=by rw [tag,aG,KC,aK]
theorem D7 {xs:List Nat} (h:∀ x∈xs,x < 256):bytes (aW xs):=by
 intro x hx
 obtain ⟨y,hy,rfl⟩:=List.mem_map.1 hx
 have:=h y hy
 show 0≤(y:Int)∧(y:Int)≤255
 omega
theorem Un (key aM c beside:List Int):bytes (tag key aM c beside):=D7 (iw 256 (by decide) _ _)
theorem D8 (n:Nat):bytes (FP n):=D7 (iw 256 (by decide) _ _)
theorem nT (n:Nat):(FP n).length=8:=by rw [FP,aG,aK]
theorem qh (n:Nat):bytes (abD n 0):=by
 intro x hx
 rw [List.mem_replicate] at hx
 omega
theorem bytes_append {xs ys:List Int} (h:bytes xs) (k:bytes ys):bytes (xs ++ ys):=by
 intro x hx
 rcases List.mem_append.1 hx with hx|hx
 ·exact h x hx
 ·exact k x hx
theorem nY {xs:List Int} (h:bytes xs) (n:Nat):bytes (xs.take n):=fun x hx=>h x (List.mem_of_mem_take hx)
theorem JJ (key:List Int) (c:Int) (aM:List Int):bytes (block key c aM):=by
 intro x hx
 obtain ⟨i,_,rfl⟩:=List.mem_map.1 hx
 omega
theorem Ur {beside c:List Int} (h:bytes beside) (k:bytes c):bytes (msg beside c) :=
 bytes_append h (bytes_append (qh _) (bytes_append k (bytes_append (qh _) (bytes_append (D8 _) (D8 _)))))
theorem msg_len (beside c:List Int):(msg beside c).length≤beside.length+c.length+46:=by
 simp only [msg,abY,List.length_replicate,nT]
 have h1:zr beside.length < 16:=abG _ (by decide)
 have h2:zr c.length < 16:=abG _ (by decide)
 omega
theorem yT (x y:Int):0≤bits .xor .u8 x y∧bits .xor .u8 x y≤255:=by
 unfold bits
 simp only
 show 0≤IntKind.u8.wrap _∧IntKind.u8.wrap _≤255
 rw [IntKind.wrap_u8]
 omega
theorem Bl (key:List Int) (c:Int) (aM b:List Int):bytes (turn key c aM b):=by
 intro x hx
 obtain ⟨i,h,rfl⟩:=List.mem_mapIdx.1 hx
 exact yT _ _
theorem IC (key aM plain beside:List Int):(lN key aM plain beside).length=plain.length+16:=by rw [lN,abY,yZ,xW]
theorem rH (key aM plain beside:List Int):bytes (lN key aM plain beside):=bytes_append (Bl _ _ _ _) (Un _ _ _ _)
end Go.Proofs.YthdgbgleklkaiaaGreatDoor.Ae
namespace Go.Proofs.YthdgbgleklkaiaaGreatDoor.Wr
open Go.RowKit Lm Cu Fp
def n0:List Int:=abD 12 0
def sealed (T D:Nat) (x:List Int):List Int:=Ae.lN (Ii (n32 (bZ D 9)) (n32 (bZ D T))) n0 x (n32 T)
def Co (T D:Nat) (x:List Int):List Int:=if bZ D T=0 then [] else n32 (bZ D 9) ++ sealed T D x
def RH (T D:Nat):Int:=if bZ D T=0 then 21 else 0
theorem n0_len:n0.length=12:=rfl
theorem Xa:bytes n0:=by intro x hx;have:=List.eq_of_mem_replicate hx;subst this;decide
theorem zC (T D:Nat) (x:List Int) (h:x.length=32):(sealed T D x).length=48:=by rw [sealed,Ae.IC,h]
end Go.Proofs.YthdgbgleklkaiaaGreatDoor.Wr
namespace Go.Proofs.YthdgbgleklkaiaaGreatDoor.Ed
open Pri
abbrev K:=Fin P0
instance:NeZero P0:=⟨by decide +kernel⟩
def toK (x:Nat):K:=Fin.ofNat P0 x
theorem je (x:Nat):(toK x).val=x % P0:=rfl
theorem Kz (x:Nat):toK (x % P0)=toK x:=Fin.ext (by rw [je,je,Nat.mod_mod])
theorem jd (a:K):toK a.val=a:=Fin.ext (by rw [je];exact abH a.isLt)
theorem KA (x y:Nat):toK (x+y)=toK x+toK y:=Fin.ext (by rw [Fin.val_add,je,je,je,← Nat.add_mod])
theorem lY (x y:Nat):toK (x * y)=toK x * toK y:=Fin.ext (by rw [Fin.val_mul,je,je,je,← Nat.mul_mod])
theorem to_sub {x y:Nat} (h:y < P0):toK (x+P0 - y)=toK x - toK y:=by
 have h1:toK (x+P0 - y)+toK y=toK x:=by
  rw [← KA,show x+P0 - y+y=x+P0 by omega]
  exact Fin.ext (by rw [je,je,Nat.add_mod_right])
 grind
theorem to_eq {x y:Nat}:toK x=toK y↔x % P0=y % P0:=⟨fun h=>by have:=congrArg Fin.val h;rwa [je,je] at this,fun h=>Fin.ext h⟩
theorem nH {x:Nat}:toK x=0↔x % P0=0:=by
 rw [show (0:K)=toK 0 from rfl,to_eq,Nat.zero_mod]
theorem int {a b:K} (h:a * b=0):a=0∨b=0:=by
 rw [← jd a,← jd b,← lY,nH] at h
 rcases prP.dvd_mul (Nat.dvd_of_mod_eq_zero h) with h1|h1
 ·left;rw [← jd a];exact nH.2 (acA h1)
 ·right;rw [← jd b];exact nH.2 (acA h1)
def D0:Nat:=37095705934669439343138083508754565189542113879843219016388785533085940283555
def I0:Nat:=19681161376707505956807079304988542015446066515923890162744021073123829784752
def H0:Nat:=(P0 - 1) / 2
theorem d_half:D0 ^ H0 % P0=P0 - 1:=by
 rw [← yw P0 D0 H0 (by decide +kernel)]
 decide +kernel
theorem non {a b:K} (h:a * a=toK D0 * (b * b)):b=0:=by
 rcases Classical.em (b=0) with hb|hb
 ·exact hb
 exfalso
 have hb':b.val % P0≠0:=fun e=>hb (by rw [← jd b];exact nH.2 e)
 have e1:(a.val * a.val) % P0=(D0 * (b.val * b.val)) % P0:=by
  rw [← to_eq,lY,lY,lY,jd,jd];exact h
 have e2:(a.val * a.val) ^ H0 % P0=(D0 * (b.val * b.val)) ^ H0 % P0:=by
  rw [abP,e1,← abP]
 have h2:H0+H0=P0 - 1:=by decide +kernel
 rw [abQ,abQ,abQ,← Nat.pow_add,← Nat.pow_add,h2,Nat.mul_mod,d_half,vo _ hb',Nat.mul_one,abH (show P0 - 1 < P0 by decide +kernel)] at e2
 by_cases ha:a.val % P0=0
 ·rw [abP,ha,Nat.zero_pow (by decide +kernel)] at e2
  exact absurd e2 (by decide +kernel)
 ·rw [vo _ ha] at e2
  exact absurd e2 (by decide +kernel)
theorem mX:Rw (toK D0) where
 int _ _ h:=int h
 im:=⟨toK I0,by decide +kernel⟩
 non _ _ h:=non h
 two:=by decide +kernel
 one:=by decide +kernel
def inv (a:K):K:=toK (a.val ^ (P0 - 2))
theorem dK:Inv inv:=by
 intro a ha
 have h1:a.val % P0≠0:=fun e=>ha (by rw [← jd a];exact nH.2 e)
 unfold inv
 rw [← congrArg (· * toK (a.val ^ (P0 - 2))) (jd a)]
 show toK a.val * toK (a.val ^ (P0 - 2))=1
 rw [← lY,Nat.mul_comm,← Nat.pow_succ,show (P0 - 2).succ=P0 - 1 by decide +kernel]
 show toK _=toK 1
 rw [to_eq,vo _ h1]
 decide +kernel
end Go.Proofs.YthdgbgleklkaiaaGreatDoor.Ed
namespace Go.Proofs.YthdgbgleklkaiaaGreatDoor.Ed
section
variable {n:Nat} [NeZero n]
theorem xa (a1 a2 b1 b2 z1 z2:Fin n):(a2*z1+a1*z1)*(b2*z2+b1*z2) - (a2*z1 - a1*z1)*(b2*z2 - b1*z2)=2*z1*z2*(a1*b2+a2*b1):=by grind
theorem xb (a1 a2 b1 b2 z1 z2:Fin n):(a2*z1+a1*z1)*(b2*z2+b1*z2)+(a2*z1 - a1*z1)*(b2*z2 - b1*z2)=2*z1*z2*(a2*b2+a1*b1):=by grind
theorem xc (d a1 a2 b1 b2 z1 z2:Fin n):z1*(z2+z2) - (a1*a2*z1)*(d+d)*(b1*b2*z2)=2*z1*z2*(1 - d*a1*b1*a2*b2):=by grind
theorem xd (d a1 a2 b1 b2 z1 z2:Fin n):z1*(z2+z2)+(a1*a2*z1)*(d+d)*(b1*b2*z2)=2*z1*z2*(1+d*a1*b1*a2*b2):=by grind
theorem xe (w A u m p:Fin n) (h:p*u=1):(w*A)*(w*m)=(A*u)*((w*m)*(w*p)):=by grind
theorem xf (w B v m p:Fin n) (h:m*v=1):(w*p)*(w*B)=(B*v)*((w*m)*(w*p)):=by grind
theorem xg (w A B u v m p:Fin n) (h:p*u=1) (h':m*v=1):(w*A)*(w*B)=(A*u)*(B*v)*((w*m)*(w*p)):=by grind
structure Ext (x y z t:Fin n) (A:Fin n×Fin n):Prop where
 ez:z≠0
 ex:x=A.1 * z
 ey:y=A.2 * z
 et:t=A.1 * A.2 * z
theorem Ext.add {d:Fin n} {inv:Fin n→Fin n} (F:Rw d) (I:Inv inv) {x1 y1 z1 t1 x2 y2 z2 t2:Fin n} {A B:Fin n×Fin n} (hA:NT d A) (hB:NT d B)
  (E1:Ext x1 y1 z1 t1 A) (E2:Ext x2 y2 z2 t2 B) {a b c z:Fin n} (ha:a=(y1 - x1)*(y2 - x2)) (hb:b=(y1+x1)*(y2+x2)) (hc:c=t1*(d+d)*t2) (hz:z=z1*(z2+z2)) :
  Ext ((b - a)*(z - c)) ((z+c)*(b+a)) ((z - c)*(z+c)) ((b - a)*(b+a)) (iB d inv A B):=by
 obtain ⟨p1,m1⟩:=whole F hA hB
 have u1:=I _ p1
 have v1:=I _ m1
 have n1:=E1.ez
 have n2:=E2.ez
 have e1:b - a=2*z1*z2*(A.1*B.2+A.2*B.1):=by rw [ha,hb,E1.ex,E1.ey,E2.ex,E2.ey];exact xa _ _ _ _ _ _
 have e2:b+a=2*z1*z2*(A.2*B.2+A.1*B.1):=by rw [ha,hb,E1.ex,E1.ey,E2.ex,E2.ey];exact xb _ _ _ _ _ _
 have e3:z - c=2*z1*z2*(1 - d*A.1*B.1*A.2*B.2):=by rw [hc,hz,E1.et,E2.et];exact xc _ _ _ _ _ _ _
 have e4:z+c=2*z1*z2*(1+d*A.1*B.1*A.2*B.2):=by rw [hc,hz,E1.et,E2.et];exact xd _ _ _ _ _ _ _
 have hw:(2*z1*z2:Fin n)≠0:=jy F (jy F F.two n1) n2
 rw [e1,e2,e3,e4]
 exact ⟨jy F (jy F hw m1) (jy F hw p1),xe _ _ _ _ _ u1,xf _ _ _ _ _ v1,xg _ _ _ _ _ _ _ u1 v1⟩
def times (d:Fin n) (inv:Fin n→Fin n) (A:Fin n×Fin n):Nat→Fin n×Fin n
 | 0=>(0,1)
 | k+1=>iB d inv (times d inv A k) A
theorem on_zero (d:Fin n):NT d (0,1):=by
 show (1:Fin n)*1=0*0+1+d*(0*0)*(1*1)
 grind
theorem iV {d:Fin n} {inv:Fin n→Fin n} (F:Rw d) (I:Inv inv) {A:Fin n×Fin n} (hA:NT d A):∀ k,NT d (times d inv A k)
 | 0=>on_zero d
 | k+1=>Fx F I (iV F I hA k) hA
theorem jg {d:Fin n} {inv:Fin n→Fin n} (F:Rw d) (I:Inv inv) {A:Fin n×Fin n} (hA:NT d A) (j:Nat):∀ k,times d inv A (j+k)=iB d inv (times d inv A j) (times d inv A k)
 | 0=>(add_zero I F.one _).symm
 | k+1=>by
  show iB d inv (times d inv A (j+k)) A=iB d inv _ (iB d inv (times d inv A k) A)
  rw [jg F I hA j k,add_assoc F I (iV F I hA j) (iV F I hA k) hA]
theorem zero_add {d:Fin n} {inv:Fin n→Fin n} (F:Rw d) (I:Inv inv) (A:Fin n×Fin n):iB d inv (0,1) A=A:=by
 rw [add_comm];exact add_zero I F.one A
theorem uP {d:Fin n} {inv:Fin n→Fin n} (F:Rw d) (I:Inv inv) {A:Fin n×Fin n} (hA:NT d A) (j:Nat):∀ k,times d inv A (j * k)=times d inv (times d inv A j) k
 | 0=>rfl
 | k+1=>by
  show times d inv A (j * k+j)=iB d inv (times d inv (times d inv A j) k) _
  rw [jg F I hA,uP F I hA j k]
theorem za {d:Fin n} {inv:Fin n→Fin n} (F:Rw d) (I:Inv inv):∀ k,times d inv (0,1) k=(0,1)
 | 0=>rfl
 | k+1=>by
  show iB d inv (times d inv (0,1) k) (0,1)=(0,1)
  rw [za F I k,add_zero I F.one]
theorem RN {d:Fin n} {inv:Fin n→Fin n} (F:Rw d) (I:Inv inv) {A:Fin n×Fin n} (hA:NT d A) {q:Nat} (hq:times d inv A q=(0,1)) (k:Nat):times d inv A (k % q)=times d inv A k:=by
 have h:times d inv A k=iB d inv (times d inv A (q * (k / q))) (times d inv A (k % q)):=by
  rw [← jg F I hA,Nat.div_add_mod]
 rw [h,uP F I hA,hq,za F I,zero_add F I]
end
end Go.Proofs.YthdgbgleklkaiaaGreatDoor.Ed
namespace Go.Proofs.YthdgbgleklkaiaaGreatDoor.Ed
open Go.RowKit Lm Fp Cu Pri
theorem SE:Fp.p=P0:=rfl
theorem EH (x y:Nat):toK (aL x y)=toK x+toK y:=by rw [aL,SE,Kz,KA]
theorem gN (x y:Nat):toK (aA x y)=toK x * toK y:=by rw [aA,SE,Kz,lY]
theorem kJ (x:Nat) {y:Nat} (h:y < Fp.p):toK (bf x y)=toK x - toK y:=by rw [bf,SE,Kz,to_sub h]
structure Is (P:Pt) (A:K×K):Prop where
 ok:P.Ok
 ext:Ext (toK P.x) (toK P.y) (toK P.z) (toK P.t) A
abbrev add (A B:K×K):K×K:=iB (toK D0) inv A B
abbrev on (A:K×K):Prop:=NT (toK D0) A
abbrev tm (A:K×K) (k:Nat):K×K:=times (toK D0) inv A k
theorem d_is:dd=D0:=rfl
theorem Is.add {P Q:Pt} {A B:K×K} (hP:Is P A) (hQ:Is Q B) (hA:on A) (hB:on B):Is (Cu.iB P Q) (add A B):=by
 refine ⟨eadd_ok P Q,?_⟩
 have h:=Ext.add mX dK hA hB hP.ext hQ.ext rfl rfl rfl rfl
 simp only [Cu.iB,gN,EH,kJ _ (dH _ _),kJ _ hP.ok.x,kJ _ hQ.ok.x,d_is]
 exact h
theorem Is.nought:Is nought (0,1):=⟨SI,⟨by decide +kernel,by decide +kernel,by decide +kernel,by decide +kernel⟩⟩
theorem Is.mul {P:Pt} {A:K×K} (hP:Is P A) (hA:on A) (k:Nat) (hk:k < 2 ^ 256):∀ n,n≤256→Is (kC P k n) (tm A (k / 2 ^ (256 - n)))
 | 0,_=>by
  rw [Nat.sub_zero,Nat.div_eq_of_lt hk]
  exact Is.nought
 | n+1,hn=>by
  have ih:=Is.mul hP hA k hk n (by omega)
  have ho:=iV mX dK hA (k / 2 ^ (256 - n))
  have h2:=ih.add ih ho ho
  have h1:256 - n=(255 - n)+1:=by omega
  have h3:k / 2 ^ (256 - n)=k / 2 ^ (255 - n) / 2:=by rw [h1,Nat.pow_succ,abL]
  rw [show 256 - (n+1)=255 - n by omega]
  rw [show Ed.add (tm A (k / 2 ^ (256 - n))) (tm A (k / 2 ^ (256 - n)))=tm A (k / 2 ^ (256 - n)+k / 2 ^ (256 - n)) from (jg mX dK hA _ _).symm,h3] at h2
  unfold kC
  split
  ·rename_i hb
   have e:k / 2 ^ (255 - n)=k / 2 ^ (255 - n) / 2+k / 2 ^ (255 - n) / 2+1:=by omega
   rw [e]
   exact h2.add hP (iV mX dK hA _) hA
  ·rename_i hb
   have e:k / 2 ^ (255 - n)=k / 2 ^ (255 - n) / 2+k / 2 ^ (255 - n) / 2:=by omega
   rw [e]
   exact h2
theorem Is.IV {P:Pt} {A:K×K} (hP:Is P A) (hA:on A) (k:Nat) (hk:k < 2 ^ 256):Is (kC P k 256) (tm A k):=by
 have h:=hP.mul hA k hk 256 (abN _)
 rwa [show 256 - 256=0 from rfl,Nat.pow_zero,Nat.div_one] at h
def B0:K×K:=(toK bx,toK bY)
theorem Is.base:Is base B0:=⟨base_ok,⟨by decide +kernel,by decide +kernel,by decide +kernel,by decide +kernel⟩⟩
theorem kN:on B0:=by
 show toK bY * toK bY=toK bx * toK bx+1+toK D0 * (toK bx * toK bx) * (toK bY * toK bY)
 decide +kernel
theorem Ext.zero {x y z t:K} {A:K×K} (h:Ext x y z t A) (hx:x=0) (hy:y=z):A=(0,1):=by
 have h1:A.1 * z=0:=by rw [← h.ex,hx]
 have h2:(A.2 - 1) * z=0:=by
  have:=h.ey
  rw [hy] at this
  grind
 refine Prod.ext ((int h1).resolve_right h.ez) ?_
 have:=(int h2).resolve_right h.ez
 show A.2=1
 grind
theorem base_q:tm B0 Sc.q=(0,1):=by
 have h:=Is.base.IV kN Sc.q (by decide +kernel)
 have e:(kC base Sc.q 256).x=0∧(kC base Sc.q 256).y=(kC base Sc.q 256).z:=by decide +kernel
 exact h.ext.zero (by rw [e.1];rfl) (by rw [e.2])
end Go.Proofs.YthdgbgleklkaiaaGreatDoor.Ed
namespace Go.Proofs.YthdgbgleklkaiaaGreatDoor.Ed
open Go.RowKit Lm Fp Cu Pri
def LtP (s:La):Prop:=s.a < p∧s.b < p∧s.c < p∧s.d < p
theorem Xk (x:Nat) (s:La):LtP (lU x s):=⟨dH _ _,dH _ _,dH _ _,dH _ _⟩
theorem swap_lt {s:La} (h:LtP s) (b:Nat):LtP (s.swap b):=by
 unfold La.swap
 split
 ·exact ⟨h.2.2.1,h.2.2.2,h.1,h.2.1⟩
 ·exact h
theorem lstep_k (x:Nat) (s:La) (h:LtP s) :
  toK (lU x s).a=(toK s.a+toK s.b) * (toK s.a+toK s.b) * ((toK s.a - toK s.b) * (toK s.a - toK s.b)) ∧
  toK (lU x s).b=((toK s.a+toK s.b) * (toK s.a+toK s.b) - (toK s.a - toK s.b) * (toK s.a - toK s.b)) * ((toK s.a+toK s.b) * (toK s.a+toK s.b)+toK 121665 * ((toK s.a+toK s.b) * (toK s.a+toK s.b) - (toK s.a - toK s.b) * (toK s.a - toK s.b))) ∧
  toK (lU x s).c=((toK s.c - toK s.d) * (toK s.a+toK s.b)+(toK s.c+toK s.d) * (toK s.a - toK s.b)) * ((toK s.c - toK s.d) * (toK s.a+toK s.b)+(toK s.c+toK s.d) * (toK s.a - toK s.b)) ∧
  toK (lU x s).d=toK x * (((toK s.c - toK s.d) * (toK s.a+toK s.b) - (toK s.c+toK s.d) * (toK s.a - toK s.b)) * ((toK s.c - toK s.d) * (toK s.a+toK s.b) - (toK s.c+toK s.d) * (toK s.a - toK s.b))):=by
 unfold lU
 simp only [gN,EH,kJ _ h.2.1,kJ _ h.2.2.2,kJ _ (dH _ _)]
 exact ⟨trivial,trivial,trivial,trivial⟩
theorem Km (a:K):(0:K) * a=0:=by grind
theorem lgo_lt (x k:Nat) (hx:x < p):∀ n,LtP (FN x k n)
 | 0=>⟨show 1 < p by decide,show 0 < p by decide,hx,show 1 < p by decide⟩
 | n+1=>swap_lt (Xk _ _) _
end Go.Proofs.YthdgbgleklkaiaaGreatDoor.Ed
