/- Rows made place by place, and the steps of limb.Num and limb.Mul, in p. Condition: as each theorem says. -/
import Derived.Deep.Slices
import Derived.Lib.AppendStr
import Derived.Lib.ConvBytes
import Derived.OpenShut
import Derived.ProofKit
import Derived.WalkMore
import Derived.Test.YthdgbgleklkaiaaGreatDoorQc03
import Derived.Test.YthdgbgleklkaiaaGreatDoorQc04
open Go.Lib renaming hid→abC
open List renaming range→abD,replicate→abF,getD→abG,ext_getElem→abH,length_map→abK,length_append→abL,range_succ→abN,foldl_append→abO,getElem_map→abQ,getElem_range→abR,mem_of_mem_take→abT,eq_nil_of_length_eq_zero→abV
open Int renaming toNat→abE
open Nat renaming mod_eq_of_lt→abI,le_refl→abJ,eq_zero_or_pos→abM,add_mul_mod_self_left→abP,add_mul_div_left→abX,div_eq_of_lt→abY
set_option linter.unusedSimpArgs false
set_option linter.unusedVariables false
set_option maxRecDepth 100000
set_option maxHeartbeats 16000000
namespace Go.Proofs.YthdgbgleklkaiaaGreatDoor.Lm
open Go.RowKit
def upto (f:Nat→Nat) (n j:Nat):List Nat:=(abD n).map fun i=>if i < j then f i else 0
theorem oQ (f:Nat→Nat) (n j:Nat):(upto f n j).length=n:=by simp [upto]
theorem uO (f:Nat→Nat) (n:Nat):upto f n 0=abF n 0:=by
 apply abH <;> simp [upto]
theorem yX (f:Nat→Nat) (n j:Nat):(upto f n j).set j (f j)=upto f n (j+1):=by
 apply abH
 ·simp [upto]
 ·intro i h1 h2
  simp only [upto,List.getElem_set,abQ,abR]
  by_cases e:j=i
  ·subst e;simp
  ·rw [if_neg e]
   by_cases h:i < j
   ·rw [if_pos h,if_pos (by omega)]
   ·rw [if_neg h,if_neg (by omega)]
theorem Il (f:Nat→Nat) (n:Nat):upto f n n=(abD n).map f:=by
 apply abH
 ·simp [upto]
 ·intro i h1 h2
  simp only [upto,abQ,abR]
  rw [if_pos (by simpa [upto] using h1)]
theorem ZH (b n v:Nat):bD b n v=upto (fun i=>v / b ^ i % b) n n:=by
 rw [Il]
 apply abH
 ·simp [aK]
 ·intro i h1 h2
  have hi:i < n:=by simpa using h2
  have:=dn b n v i hi
  rw [abG,List.getElem?_eq_getElem h1] at this
  simpa using this
theorem Us (v j x:Nat) (hx:x=v / 18446744073709551616 ^ (j / 8) % 18446744073709551616) (e:256 ^ j=18446744073709551616 ^ (j / 8) * 2 ^ (8 * (j % 8))):x / 2 ^ (8 * (j % 8)) % 256=v / 256 ^ j % 256:=by
 rw [e,← Nat.div_div_eq_div_mul,hx]
 generalize v / 18446744073709551616 ^ (j / 8)=y
 have h8:j % 8 < 8:=Nat.mod_lt _ (by decide)
 generalize j % 8=s at h8 ⊢
 have hB:(18446744073709551616:Nat)=2 ^ (8 * s) * (256 * 2 ^ (56 - 8 * s)):=by
  rw [show (256:Nat)=2 ^ 8 by rfl,show (18446744073709551616:Nat)=2 ^ 64 by rfl,← Nat.pow_add,← Nat.pow_add]
  congr 1
  omega
 rw [hB,Nat.mod_mul_right_div_self,Nat.mod_mul_right_mod]
end Go.Proofs.YthdgbgleklkaiaaGreatDoor.Lm
namespace Go.Proofs.YthdgbgleklkaiaaGreatDoor.Lm
open Go.RowKit
theorem zero32 (w:World):(zeroValue 25).run Tryz.prog w = .ok (.agg (arr .u8 (abF 32 0))) w:=by kernel_rfl
theorem nar32 (xs:List Nat) (hl:xs.length=32):(arr .u8 (aW xs)).size=(arr .u8 (abF 32 0)).size:=by rw [aD,aD,aG,hl,List.length_replicate]
theorem W9 (xs:List Nat) (hl:xs.length=32):(Tryz.prog.info? 25).map (·.size)=some (arr .u8 (aW xs)).size:=by rw [aD,aG,hl];kernel_rfl
theorem Fy (xs:List Nat) (w:World) (lx:xs.length=4) (bx:∀ x∈xs,x < 18446744073709551616) :
  Calls Tryz.prog 158 #[.agg (arr .u64 (aW xs))] w fun e w'=>e = .returned (.agg (arr .u8 (aW (bD 256 32 (val 18446744073709551616 xs)))))∧Below w.heap.size w w':=by
 have S0:=abC (B3.start w (arr .u64 (aW xs)) (arr .u8 (abF 32 0)) (arr .u8 (abF 32 0)) 154 25 25)
 have hxs:xs=bD 18446744073709551616 4 (val 18446744073709551616 xs):=nV _ (by decide) 4 _ _ lx bx rfl
 obtain ⟨v,hv⟩:∃ v,v=val 18446744073709551616 xs:=⟨_,rfl⟩
 rw [← hv] at hxs ⊢
 rw [ZH 256]
 obtain ⟨F,hF⟩:∃ F:Nat→Nat,F=fun i=>v / 256 ^ i % 256:=⟨_,rfl⟩
 rw [← hF]
 have LX:=abC lx
 have HX:=abC hxs
 have HF:=abC hF
 clear lx bx hxs hv hF
 go_enter Tryz.func158, Tryz.ntmps158
 go_wp2_with (first|((with_reducible refine aS 2 ?_);refine ah rfl 25 rfl _ (zero32 _) ?_)|((with_reducible refine aS 3 ?_);refine ah rfl 25 rfl _ (zero32 _) ?_))
 go_loopw [5] (fun i wr=>∃ (j:Nat),j≤32∧i = .int .i64 j∧B3 w wr (arr .u64 (aW xs)) (arr .u8 (abF 32 0)) (arr .u8 (aW (upto F 32 j))) 154 25 25) (fun i _=>32 - (intOf i).toNat)
 case atStart=>exact ⟨0,Nat.zero_le _,rfl,by rw [uO,iM];exact S0.out⟩
 clear S0
 case round =>
 obtain ⟨j,hj,rfl,hB⟩:=hrel
 by_cases hlt:j < 32
 ·have q0:=cB hB.b0 (j / 8) (by rw [aG,LX.out];omega)
  have q2:=cB hB.b2 j (by rw [aG,oQ];omega)
  have q3:=aC hB.b2 j
  rw [bH] at q0
  have hxj:xs.getD (j / 8) 0=v / 18446744073709551616 ^ (j / 8) % 18446744073709551616:=by
   rw [HX.out];exact dn _ _ _ _ (by omega)
  generalize xs.getD (j / 8) 0=x at q0 hxj
  have hby:=Us v j x hxj (SB j)
  have hb1:=hB.set2 j (.int .u8 ((F j:Nat):Int))
  rw [bq,← cZ,yX] at hb1
  have hFj:F j=x / 2 ^ (8 * (j % 8)) % 256:=by rw [HF.out,hby]
  rw [hFj] at hb1
  have HB:=abC hB
  have HB1:=abC hb1
  have HXJ:=abC hxj
  have HFJ:=abC hFj
  clear hB hb1 hxj hby hFj
  go_wp2_with fail
  go_roundw
  case rel=>exact ⟨j+1,by omega,by go_num,HB1.out⟩
  case measure=>simp [intOf];omega
 ·have e4:j=32:=by omega
  rw [e4] at hB
  have HB:=abC hB
  have HOL:Hid ((upto F 32 32).length=32):=abC (oQ _ _ _)
  clear hB e4
  obtain ⟨os,hos⟩:∃ os,os=upto F 32 32:=⟨_,rfl⟩
  rw [← hos] at HB HOL
  have HOS:=abC hos
  clear hos
  go_wp2_with (first|((with_reducible refine aS 20 ?_);refine aB rfl 25 _ rfl (w.heap.size+1+1) 0 _ 25 (0,0) _ HB.out.b2 rfl .u8 (aW os) (aj _ _) Tryz.underlying25 rfl (nar32i os HOL.out) ?_)|((with_reducible show wpList _ _ _ (Oper.mk none _ _ _ _ _ :: _) _ _);refine au rfl 25 _ _ rfl (w.heap.size+1) _ _ 25 HB.out.b1 rfl rfl (nar32 os HOL.out) (W9 os HOL.out) (ak _ _) ?_;intro w7 jh qP Cy;have fC:=abC (HB.out.IL qP jh);clear jh qP Cy))
  (try simp only [Exit.inBlock,Exit.then])
  refine bodyPost_ret (results_cell_row rfl _ _ (w.heap.size+1) 25 _ (0,0) _ rfl fC.out.b1 Tryz.underlying25 rfl (W9 os HOL.out)) rfl ?_
  exact ⟨by rw [HOS.out],fC.out.below⟩
end Go.Proofs.YthdgbgleklkaiaaGreatDoor.Lm
namespace Go.Proofs.YthdgbgleklkaiaaGreatDoor.Fp
open Go.RowKit Lm
def N4 (xs:List Int) (a:Nat):Prop:=xs=aW (bD 18446744073709551616 4 a)∧a < 18446744073709551616 ^ 4
theorem N4.len {xs:List Int} {a:Nat} (h:N4 xs a):xs.length=4:=by rw [h.1,aG,aK]
theorem N4.cast {xs:List Int} {a b:Nat} (h:N4 xs a) (e:a=b):N4 xs b:=e▸h
theorem N4.inj {xs ys:List Int} {a b:Nat} (hx:N4 xs a) (hy:N4 ys b):(xs == ys)=decide (a=b):=by
 obtain ⟨rfl,h1⟩:=hx
 obtain ⟨rfl,h2⟩:=hy
 by_cases e:a=b
 ·subst e;simp
 ·rw [decide_eq_false e,beq_eq_false_iff_ne]
  intro h
  have h3:bD 18446744073709551616 4 a=bD 18446744073709551616 4 b:=by
   have:=congrArg (List.map abE) h
   have e:∀ l:List Nat,(aW l).map abE=l:=fun l=>by rw [aW,List.map_map];exact List.map_id l
   rwa [e,e] at this
  have h4:=congrArg (val 18446744073709551616) h3
  rw [fA,fA,abI h1,abI h2] at h4
  exact e h4
end Go.Proofs.YthdgbgleklkaiaaGreatDoor.Fp
namespace Go.Proofs.YthdgbgleklkaiaaGreatDoor.Cu
open Go.RowKit Lm Fp Sc
def fD (xs:List Int):Nat:=val 256 (xs.map abE)
def n32 (a:Nat):List Int:=aW (bD 256 32 a)
theorem cK (a:Nat):(n32 a).length=32:=(aG _).trans (aK _ _ _)
theorem eY (a:Nat):bytes (n32 a):=by
 intro x hx
 obtain ⟨y,hy,rfl⟩:=List.mem_map.1 hx
 have:=iw 256 (by decide) 32 a y hy
 refine ⟨Int.natCast_nonneg y,?_⟩
 show (y:Int)≤255
 omega
theorem SQ {xs:List Int} (h:bytes xs):aW (xs.map abE)=xs:=K9 xs (fun x hx=>(h x hx).1)
theorem toNat_lt {xs:List Int} (h:bytes xs):∀ x∈xs.map abE,x < 256:=by
 intro x hx
 obtain ⟨y,hy,rfl⟩:=List.mem_map.1 hx
 have:=h y hy
 omega
theorem JF {xs:List Int} (h:bytes xs):aW (bD 256 xs.length (fD xs))=xs:=by
 have h1:=Gb 256 (by decide) (xs.map abE) (toNat_lt h)
 rw [abK] at h1
 rw [fD,h1,SQ h]
theorem yF {xs:List Int} (h:bytes xs):fD xs < 256 ^ xs.length:=by
 have:=qW 256 (xs.map abE) (toNat_lt h)
 rwa [abK] at this
theorem tH {xs:List Int} (h:bytes xs) (hl:xs.length=32):n32 (fD xs)=xs:=by rw [n32,← hl];exact JF h
theorem nY {xs:List Int} (h:bytes xs) (n:Nat):bytes (xs.take n):=fun x hx=>h x (abT hx)
theorem Nu {xs:List Int} (h:bytes xs) (n:Nat):bytes (xs.drop n):=fun x hx=>h x (List.mem_of_mem_drop hx)
theorem jk {xs ys:List Int} (h:bytes xs) (k:bytes ys):bytes (xs ++ ys):=fun x hx=>(List.mem_append.1 hx).elim (h x) (k x)
end Go.Proofs.YthdgbgleklkaiaaGreatDoor.Cu
namespace Go.Proofs.YthdgbgleklkaiaaGreatDoor
open Go.RowKit
def iq (s:ByteArray):List Int:=s.data.toList.map fun b=>(b.toNat:Int)
theorem zF (s:ByteArray):(iq s).length=s.size:=by rw [iq,abK,Array.length_toList];rfl
theorem Gf (s:ByteArray):∀ x∈iq s,0≤x∧x≤255:=by
 intro x hx
 simp only [iq,List.mem_map] at hx
 obtain ⟨b,_,rfl⟩:=hx
 have:=b.toNat_lt
 omega
theorem Iq (s:ByteArray):Lib.strCells s=(iq s).map (Value.int .u8):=by simp [Lib.strCells,iq]
theorem EO {w:World} {B:Nat} {v:Value} {xs:List Int} {s:ByteArray} {u ty:TypeId} (hu : Tryz.prog.underlying u=some .string) (hown:aU w B v xs) (hlen:xs.length+s.size≤140737488355328) (hbase:B≤w.heap.size) :
  ∃ v' w',(Builtin.append_ #[22, u] ty #[v, .string s]).run Tryz.prog w = .ok v' w'∧aU w' B v' (xs ++ iq s)∧w.grownBy w' v.ownBlock:=by
 obtain ⟨i0,hi,hz0,hz1,hz2⟩:=info_parts yD
 obtain ⟨v',w',hr,h1,h2, -⟩:=Lib.run_append_own_string (P := Tryz.prog) w B 22 u ty 5 i0 Tryz.underlying22 hu hi hz0 hz1 hz2 v xs.length (xs.map (Value.int .u8)) hown s (by simp only [maxLen];omega) hlen hbase
 refine ⟨v',w',hr,?_,h2⟩
 rw [Iq,← List.map_append] at h1
 rwa [show xs.length+s.size=(xs ++ iq s).length by rw [abL,zF]] at h1
theorem Ih {w:World} {o:Oper} {a:Act} {K:Act→World→Prop} {Q:Exit→Act→World→Prop} (s x:Operand) (u:TypeId) (hu : Tryz.prog.underlying u=some .string)
  (ho:o.op = .call { callee := .builtin .append,args := #[s,x],argTypes := #[22, u] })
  (B:Nat) (v:Value) (xs:List Int) (t:ByteArray) (hs:a.eval s=v) (hx:a.eval x = .string t) (hown:aU w B v xs)
  (hlen:xs.length+t.size≤140737488355328) (hbase:B≤w.heap.size)
  (h:∀ v' w',aU w' B v' (xs ++ iq t)→w.grownBy w' v.ownBlock→K (a.put o.dst v') w'):o.wp Tryz.prog a w K Q:=by
 obtain ⟨v',w',hr,h2,h3⟩:=EO (ty:=o.type) hu hown hlen hbase
 unfold Oper.wp execOp
 simp only [ho,resolve,invoke,builtin,Sem.run_bind,Sem.run_pure,Result.andThen_ok,List.map_toArray,List.map_cons,List.map_nil,hs,hx,hr]
 exact h v' w' h2 h3
theorem Cq {w:World} {ops:Array Oper} {o:Oper} {a:Act} {K:Act→World→Prop} {Q:Exit→Act→World→Prop} {E:Prop} (hgd:o.guard=none) (s x:Operand) (u:TypeId) (hu : Tryz.prog.underlying u=some .string)
  (ho:o.op = .call { callee := .builtin .append,args := #[s,x],argTypes := #[22, u] })
  (B:Nat) (v:Value) (xs:List Int) (t:ByteArray) (hs:a.eval s=v) (hx:a.eval x = .string t) (hown:aU w B v xs)
  (hlen:xs.length+t.size≤140737488355328) (hbase:B≤w.heap.size)
  (h:∀ v' w',aU w' B v' (xs ++ iq t)→w.grownBy w' v.ownBlock→K (a.put o.dst v') w') :
  if Region.wanted o (yielded ops a.tmps)=true then Oper.wp Tryz.prog o a w K Q else E:=by
 have hw:Region.wanted o (yielded ops a.tmps)=true:=by simp [Region.wanted,hgd]
 rw [if_pos hw]
 exact Ih s x u hu ho B v xs t hs hx hown hlen hbase h
section
variable {P:Program}
theorem xE {ops:Array Oper} {o:Oper} {a:Act} {w:World} {K:Act→World→Prop} {Q:Exit→Act→World→Prop} {E:Prop} (hgd:o.guard=none) (ty:TypeId) (x y:Operand) (ho:o.op = .store ty x y)
  (g off:Nat) (cs ds:Array Value) (t:TypeId) (hb:w.heap[g]? = some (.cells cs t (0,0))) (hx:a.eval x = .pointer (some ⟨g,off,none⟩)) (hy:a.eval y = .agg ds)
  (hs:off+ds.size≤cs.size) (hi:(P.info? ty).map (·.size)=some ds.size) (h1:ds.all (·.oneCell')=true)
  (h:∀ w',w'.heap[g]? = some (.cells (cs.toList.take off ++ ds.toList ++ cs.toList.drop (off+ds.size)).toArray t (0,0))→Kept (fun i=>i=g) w w'→w'.heap.size=w.heap.size→K (a.put o.dst undef) w') :
  if Region.wanted o (yielded ops a.tmps)=true then Oper.wp P o a w K Q else E:=by
 have hw:Region.wanted o (yielded ops a.tmps)=true:=by simp [Region.wanted,hgd]
 rw [if_pos hw]
 refine wp_store_mid ty x y ho g off ds hx hy (fun j hj=>?_) hi h1 (h _ ?_ ?_ ?_)
 ·rw [aF hb]
  exact ⟨by rw [Array.getElem?_eq_getElem (by omega)];rfl,aC hb _⟩
 ·rw [kP _ _ _ _ _ _ _ hb (by simpa using hs)]
  simp
 ·exact jR g _ _ _ (Kept.refl _ _) (.inl rfl)
 ·have:∀ (vs:List Value) (o:Nat) (w:World),(w.setCells g o vs).heap.size=w.heap.size:=by
   intro vs
   induction vs with
   | nil=>intro o w;rfl
   | cons v vs ih=>intro o w;rw [World.setCells,ih];simp [World.setCell]
  exact this _ _ _
end
end Go.Proofs.YthdgbgleklkaiaaGreatDoor
namespace Go.Proofs.YthdgbgleklkaiaaGreatDoor
open Go.RowKit
theorem Ud (c:Nat) (w:World) :
  Calls Tryz.prog 90 #[.slice none 0 c] w fun e w'=>e = .returned (.slice none 0 0)∧w=w':=by
 have q:=fun (w:World) (a:Option Addr) (n c n' c':Nat)=>Lib.run_eql_slice_nil (P := Tryz.prog) w 22 5 a n c n' c' Tryz.underlying22
 go_enter Tryz.func90, Tryz.ntmps90
 go_wp2
 go_ret
 exact ⟨rfl,rfl⟩
theorem Ue (ad:Addr) (n c:Nat) (xs:List Int) (w:World) (hsrc:Src w (some ad) n xs) (hn:n≤1099511627776) :
  Calls Tryz.prog 90 #[.slice (some ad) n c] w fun e w'=>∃ v,e = .returned v∧kg w' w.heap.size v xs∧Below w.heap.size w w':=by
 have q:=fun (w:World) (a:Option Addr) (n c n' c':Nat)=>Lib.run_eql_slice_nil (P := Tryz.prog) w 22 5 a n c n' c' Tryz.underlying22
 obtain ⟨i0,hi,hz0,hz1,hz2⟩:=info_parts yD
 have hxl:=hsrc.len
 have hcs:(xs.map (Value.int .u8)).length=n * 1:=by simp [hxl]
 have hsr:∀ o,∀ j v,(xs.map (Value.int .u8))[j]? = some v→(w.alloc o).cell? (ad.add j)=some v:=by
  intro o j v hj
  rw [List.getElem?_map] at hj
  have hjl:j < xs.length:=by
   rcases Nat.lt_or_ge j xs.length with q|q
   ·exact q
   ·rw [List.getElem?_eq_none q] at hj;cases hj
  obtain ⟨a',he,hc⟩:=hsrc.cell j (by omega)
  cases he
  refine ((Kept.refl (fun _=>False) w).alloc o).lV (v:=v) ?_ id
  rw [hc]
  simp [hjl] at hj
  simp [abG,hjl,hj]
 have hone:∀ v∈xs.map (Value.int .u8),v.oneCell'=true:=by
  intro v hv
  obtain ⟨x,_,rfl⟩:=List.mem_map.1 hv
  rfl
 have hown0:(w.alloc (.cells #[] 5)).ownsRow w.heap.size 5 1 (.slice (some ⟨w.heap.size,0,none⟩) 0 0) 0 []:=World.ownsRow_made w #[] 0 (abJ _) (by decide) rfl
 have J8:=abC hcs
 have Gm:=abC hsr
 have HONE:=abC hone
 have HOWN:=abC hown0
 have jc:=abC hxl
 clear hcs hsr hone hown0 hxl
 go_enter Tryz.func90, Tryz.ntmps90
 go_wp2_with (at_builtin;refine wpList_append_own _ rfl _ _ 22 rfl w.heap.size 5 i0 (.int .u8 0) 1 1 Tryz.underlying22 hi hz0 hz1 hz2 rfl (by decide) _ _ _ rfl HOWN.out ad n _ (xs.map (Value.int .u8)) rfl J8.out (Gm.out _) HONE.out ?_ ?_ ?_ ?_;rotate_right;intro v' w1 hown' hgrow hnil)
 ·go_ret
  refine ⟨v',rfl,kg.KY ?_ ?_,?_⟩
  ·rw [jc.out];simpa using hown'
  ·intro e
   have:=(hnil.1 e).1
   cases this
  ·exact ((Below.refl _ w).alloc (abJ _) _).grown hgrow (by simp) (fun k e=>by cases e;exact abJ _)
 ·unfold maxLen;omega
 ·omega
 ·simp
end Go.Proofs.YthdgbgleklkaiaaGreatDoor
namespace Go.Proofs.YthdgbgleklkaiaaGreatDoor
open Go.RowKit Go.ChangeShapes Go.WideShapes
def CU (k:IntKind) (w:World) (a:Option Addr) (len cap:Nat) (zs:List Int):Prop :=
 (a=none∧len=0∧cap=0∧zs=[]) ∨
 ∃ x,a=some x∧len≤cap∧cap≤maxLen∧zs.length=cap∧(∀ i,i < zs.length→w.cell? (x.add i)=some (.int k (zs.getD i 0)))∧∀ n∈zs,(Lit.int k n).wf=true
section
variable {H:Type} {enc:TypeId×Value→H} {P:Program} {w:World} {base:Nat} {spare:Nat→Bool} {held:Bool}
theorem row_of {k:IntKind} {t e:TypeId} {a:Option Addr} {len cap fuel:Nat} {x:DataW H×List MemPlace} (ht:P.underlying t=some (.slice e)) (he:P.underlying e=some (.int k)) (hc:P.cellsOf e=1)
  (hf:DataW.trod enc P w base (fun _=>true) held fuel t (Value.slice a len cap).cells.toList=some x):∃ zs,CU k w a len cap zs:=by
 rcases open_ints ht he hc hf with ⟨hcs,_⟩|⟨x,l,c,zs,hcs,_,hl,hm,hz,_,hcell,hwz⟩
 ·simp [Value.cells] at hcs
  obtain ⟨rfl,rfl,rfl⟩:=hcs
  exact ⟨[], .inl ⟨rfl,rfl,rfl,rfl⟩⟩
 ·simp [Value.cells] at hcs
  obtain ⟨rfl,rfl,rfl⟩:=hcs
  exact ⟨zs, .inr ⟨_,rfl,hl,hm,by simpa using hz,hcell,hwz⟩⟩
theorem wf_u8 {n:Int} (h:(Lit.int .u8 n).wf=true):0≤n∧n≤255:=bounds_u8 h
end
end Go.Proofs.YthdgbgleklkaiaaGreatDoor
namespace Go.Proofs.YthdgbgleklkaiaaGreatDoor
open Go.RowKit
theorem CU.src {w:World} {a:Option Addr} {len cap:Nat} {zs:List Int} (h:CU .u8 w a len cap zs):Src w a len (zs.take len)∧bytes (zs.take len)∧len≤cap:=by
 rcases h with ⟨rfl,rfl,rfl,rfl⟩|⟨x,rfl,hl,hm,hz,hc,hw⟩
 ·exact ⟨⟨rfl,fun i hi=>absurd hi (by omega)⟩,fun x hx=>by simp at hx,abJ _⟩
 ·refine ⟨⟨by simp;omega,fun i hi=>⟨x,rfl,?_⟩⟩,fun y hy=>wf_u8 (hw y (abT hy)),hl⟩
  rw [hc i (by omega)]
  simp [abG,hi]
theorem KD {w:World} {sa:Option Addr} {n c:Nat} {xs:List Int} (h:Src w sa n xs):(convert 22 9 (.slice sa n c)).run Tryz.prog w = .ok (.string (strOfNums xs)) w:=by
 cases sa with
 | none =>
  have h0:n=0:=by
   rcases abM n with h0|h0
   ·exact h0
   ·obtain ⟨_,he,_⟩:=h.cell 0 h0
    cases he
  have hx:xs=[]:=abV (h.len.trans h0)
  subst hx
  exact run_convert_bytes_nil w 22 5 Tryz.underlying22 Tryz.underlying5 n c 9 Tryz.underlying9
 | some a =>
  have hl:(loadCells a n).run Tryz.prog w = .ok (xs.map (Value.int .u8)).toArray w:=by
   have:=run_loadCells_list (P := Tryz.prog) w a (xs.map (Value.int .u8)) (jq h a rfl)
   simpa [h.len] using this
  rw [run_convert_bytes_string w 22 9 5 _ n c Tryz.underlying22 Tryz.underlying5 Tryz.underlying9, run_bytesToString w _ n c xs hl,foldl_push_bytes]
  simp [strOfNums,ByteArray.empty,ByteArray.emptyWithCapacity]
  rfl
theorem Src.take {w:World} {sa:Option Addr} {n:Nat} {xs:List Int} (h:Src w sa n xs) (m:Nat) (hm:m≤n):Src w sa m (xs.take m):=by
 refine ⟨by simp;have:=h.len;omega,fun i hi=>?_⟩
 obtain ⟨a,e,hc⟩:=h.cell i (by omega)
 refine ⟨a,e,?_⟩
 rw [hc]
 simp [abG,hi]
theorem Src.part {w:World} {ad:Addr} {n:Nat} {xs:List Int} (h:Src w (some ad) n xs) (o m:Nat) (hm:o+m≤n):Src w (some (ad.add o)) m ((xs.drop o).take m):=by
 refine ⟨by simp;have:=h.len;omega,fun i hi=>⟨_,rfl,?_⟩⟩
 obtain ⟨a,e,hc⟩:=h.cell (o+i) (by omega)
 cases e
 have:(ad.add o).add i=ad.add (o+i):=by
  obtain ⟨b,off,s⟩:=ad
  unfold Addr.add
  by_cases ho:o=0
  ·subst ho;simp
  ·by_cases hj:i=0
   ·subst hj;simp
   ·simp [ho,hj,Nat.add_assoc]
 rw [this,hc]
 simp [abG,hi,List.getElem?_drop]
end Go.Proofs.YthdgbgleklkaiaaGreatDoor
namespace Go.Proofs.YthdgbgleklkaiaaGreatDoor
open Go.RowKit
def jE (x:Int):List Int:=(abD 8).map fun j=>x / 2 ^ (8 * (7 - j)) % 256
theorem iy (x:Int):(jE x).length=8:=by simp [jE]
theorem kT (x:Int):bytes (jE x):=by
 intro y hy
 simp only [jE,List.mem_map,List.mem_range] at hy
 obtain ⟨j,_,rfl⟩:=hy
 omega
def iH (bs:List Int) (ns:List Int):List Int:=bs ++ ns.flatMap jE
theorem KW (bs ns:List Int) (i:Nat) (h:i < ns.length):iH bs (ns.take (i+1))=iH bs (ns.take i) ++ jE (ns.getD i 0):=by
 rw [gD ns i 0 h]
 simp [iH]
theorem gG (bs ns:List Int):(iH bs ns).length=bs.length+8 * ns.length:=by
 unfold iH
 rw [abL]
 congr 1
 induction ns with
 | nil=>rfl
 | cons n ns ih=>rw [List.flatMap_cons,abL,iy,ih,List.length_cons];omega
structure Br (w:World) (sa:Option Addr) (n:Nat) (xs:List Int):Prop where
 len:xs.length=n
 cell:∀ i,i < n→∃ a,sa=some a∧w.cell? (a.add i)=some (.int .i64 (xs.getD i 0))
theorem Br.below {w w':World} {sa:Option Addr} {n:Nat} {xs:List Int} (h:Br w sa n xs) (k:Below w.heap.size w w'):Br w' sa n xs:=by
 refine ⟨h.len,fun i hi=>?_⟩
 obtain ⟨a,e,hc⟩:=h.cell i hi
 exact ⟨a,e,eD k hc⟩
theorem Iy (w:World) (x:Int):Br (w.alloc (.cells #[.int .i64 x] 3)) (some ⟨w.heap.size,0,none⟩) 1 [x]:=by
 refine ⟨rfl,fun i hi=>⟨_,rfl,?_⟩⟩
 obtain rfl:i=0:=by omega
 rw [show (⟨w.heap.size,0,none⟩:Addr).add 0=⟨w.heap.size,0,none⟩ from rfl,aF (aH w _)]
 rfl
theorem DZ (sa:Option Addr) (n c:Nat) (xs:List Int) (w:World) (hs:Src w sa n xs) (hn:n≤1099511627776) :
  Calls Tryz.prog 90 #[.slice sa n c] w fun e w'=>∃ v,e = .returned v∧aU w' w.heap.size v xs∧Below w.heap.size w w':=by
 cases sa with
 | none =>
  have h0:n=0:=by
   rcases abM n with h0|h0
   ·exact h0
   ·obtain ⟨_,he,_⟩:=hs.cell 0 h0
    cases he
  subst h0
  have hx:xs=[]:=abV hs.len
  subst hx
  exact (Ud c w).mono fun e w' ⟨he,hw⟩=>⟨_,he,aU.nil _ _,by subst hw;exact Below.refl _ _⟩
 | some ad=>exact (Ue ad n c xs w hs hn).mono fun e w' ⟨v,he,ho,hb⟩=>⟨v,he,aU.Qc ho,hb⟩
end Go.Proofs.YthdgbgleklkaiaaGreatDoor
namespace Go.Proofs.YthdgbgleklkaiaaGreatDoor
open Go.RowKit
theorem EF {P:Program} {a:Act} {w:World} {Q:Exit→Act→World→Prop} {c rest:Code} (l:Nat) (hf:findLabel c l=some rest)
  (h:c.wp P (Exit.jump l (fun a w=>rest.wp P (Exit.noGoto Q) a w) Q) a w):(Code.scope c).wp P Q a w:=by
 refine wp_scope_jumps l (fun a w=>rest.wp P (Exit.noGoto Q) a w) (fun _ _=>0) hf h (fun a w hJ=>Code.wp_mono (fun e a w q=>?_) hJ)
 cases e <;> first|exact q|exact q.elim
end Go.Proofs.YthdgbgleklkaiaaGreatDoor
namespace Go.Proofs.YthdgbgleklkaiaaGreatDoor.Ch
open Go.RowKit
def rotl (x m n:Int):Int:=bits .or .u32 (IntKind.u32.wrap (x * m)) (x / n)
def add (x y:Int):Int:=(x+y) % 4294967296
def qa (s:List Int) (a b:Nat):List Int:=s.set a (add (s.getD a 0) (s.getD b 0))
def qx (s:List Int) (d a:Nat) (m n:Int):List Int:=s.set d (rotl (bits .xor .u32 (s.getD d 0) (s.getD a 0)) m n)
def quarter (s:List Int) (a b c d:Nat):List Int :=
 qx (qa (qx (qa (qx (qa (qx (qa s a b) d a 65536 65536) c d) b c 4096 1048576) a b) d a 256 16777216) c d) b c 128 33554432
theorem zL (s:List Int) (a b:Nat):(qa s a b).length=s.length:=by simp [qa]
theorem zK (s:List Int) (d a:Nat) (m n:Int):(qx s d a m n).length=s.length:=by simp [qx]
theorem eU (s:List Int) (a b c d:Nat):(quarter s a b c d).length=s.length:=by simp [quarter,zL,zK]
def word (b:List Int) (o:Nat):Int:=bits .or .u32 (bits .or .u32 (bits .or .u32 (b.getD o 0) (b.getD (o+1) 0 * 256)) (b.getD (o+2) 0 * 65536)) (b.getD (o+3) 0 * 16777216)
def begin (key:List Int) (counter:Int) (aM:List Int):List Int :=
 [1634760805,857760878,2036477234,1797285236] ++ ((abD 8).map fun i=>word key (4 * i)) ++ [counter] ++ ((abD 3).map fun i=>word aM (4 * i))
theorem Uv (key:List Int) (counter:Int) (aM:List Int):(begin key counter aM).length=16:=by simp [begin]
def JH (s:List Int) (k:Nat):List Int:=(abD k).foldl (fun s i=>quarter s i (4+i) (8+i) (12+i)) s
def diags (s:List Int) (k:Nat):List Int:=(abD k).foldl (fun s i=>quarter s i (4+(i+1) % 4) (8+(i+2) % 4) (12+(i+3) % 4)) s
def doubles (s:List Int) (k:Nat):List Int:=(abD k).foldl (fun s _=>diags (JH s 4) 4) s
theorem Uc (s:List Int) (k:Nat):JH s (k+1)=quarter (JH s k) k (4+k) (8+k) (12+k):=by simp [JH,abN,abO]
theorem Nn (s:List Int) (k:Nat):diags s (k+1)=quarter (diags s k) k (4+(k+1) % 4) (8+(k+2) % 4) (12+(k+3) % 4):=by simp [diags,abN,abO]
theorem uh (s:List Int) (k:Nat):doubles s (k+1)=diags (JH (doubles s k) 4) 4:=by simp [doubles,abN,abO]
theorem ZL (s:List Int) (k:Nat):(JH s k).length=s.length:=by
 induction k with
 | zero=>rfl
 | succ k ih=>rw [Uc,eU,ih]
theorem TY (s:List Int) (k:Nat):(diags s k).length=s.length:=by
 induction k with
 | zero=>rfl
 | succ k ih=>rw [Nn,eU,ih]
theorem wV (s:List Int) (k:Nat):(doubles s k).length=s.length:=by
 induction k with
 | zero=>rfl
 | succ k ih=>rw [uh,TY,ZL,ih]
def fT (v s:List Int):List Int:=(abD 64).map fun i=>add (v.getD (i / 4) 0) (s.getD (i / 4) 0) / 2 ^ (8 * (i % 4)) % 256
def block (key:List Int) (counter:Int) (aM:List Int):List Int:=fT (doubles (begin key counter aM) 10) (begin key counter aM)
theorem qE (key:List Int) (counter:Int) (aM:List Int):(block key counter aM).length=64:=by simp [block,fT]
def turn (key:List Int) (c:Int) (aM b:List Int):List Int:=b.mapIdx fun i x=>bits .xor .u8 x ((block key ((c+(i / 64:Nat)) % 4294967296) aM).getD (i % 64) 0)
theorem yZ (key:List Int) (c:Int) (aM b:List Int):(turn key c aM b).length=b.length:=by simp [turn]
theorem aJ {w:World} {g:Nat} {k:IntKind} {xs:List Int} {t:TypeId} {fr:Nat×Nat} (h:w.heap[g]? = some (.cells (arr k xs) t fr)) (i:Nat) (hi:i < xs.length):w.cell? ⟨g,i,none⟩=some (.int k (xs.getD i 0)):=(aF h i).trans (uq _ _ _ hi)
theorem bJ {w:World} {g:Nat} {k:IntKind} {xs:List Int} {t:TypeId} (h:w.heap[g]? = some (.cells (arr k xs) t (0,0))) (i:Nat) (x:Int):(w.setCell ⟨g,i,none⟩ (.int k x)).heap[g]? = some (.cells (arr k (xs.set i x)) t (0,0)):=by
 rw [aQ h]
 congr 2
 simp [arr,List.map_set]
end Go.Proofs.YthdgbgleklkaiaaGreatDoor.Ch
namespace Go.Proofs.YthdgbgleklkaiaaGreatDoor.Ch
open Go.RowKit
theorem rol_16 (x:Int) (w:World):Calls Tryz.prog 220 #[.int .u32 x, .int .u64 16] w fun e w'=>e = .returned (.int .u32 (rotl x 65536 65536))∧w=w':=by
 go_enter Tryz.func220, Tryz.ntmps220
 go_wp2
 go_ret
 exact ⟨rfl,rfl⟩
theorem rol_12 (x:Int) (w:World):Calls Tryz.prog 220 #[.int .u32 x, .int .u64 12] w fun e w'=>e = .returned (.int .u32 (rotl x 4096 1048576))∧w=w':=by
 go_enter Tryz.func220, Tryz.ntmps220
 go_wp2
 go_ret
 exact ⟨rfl,rfl⟩
theorem rol_8 (x:Int) (w:World):Calls Tryz.prog 220 #[.int .u32 x, .int .u64 8] w fun e w'=>e = .returned (.int .u32 (rotl x 256 16777216))∧w=w':=by
 go_enter Tryz.func220, Tryz.ntmps220
 go_wp2
 go_ret
 exact ⟨rfl,rfl⟩
theorem rol_7 (x:Int) (w:World):Calls Tryz.prog 220 #[.int .u32 x, .int .u64 7] w fun e w'=>e = .returned (.int .u32 (rotl x 128 33554432))∧w=w':=by
 go_enter Tryz.func220, Tryz.ntmps220
 go_wp2
 go_ret
 exact ⟨rfl,rfl⟩
theorem wQ {P:Program} {f:FuncId} {args:Array Value} {w:World} {v:Value} (h:Calls P f args w fun e w'=>e = .returned v∧w=w'):Calls P f args w fun e w''=>e = .returned v∧w''=w:=h.mono fun _ _ h=>⟨h.1,h.2.symm⟩
theorem z8 (p q m c:Nat) (b:List Int) (o:Nat) (w:World) (hb:bytes b) (hm:4≤m) (h0:w.cell? ⟨p,q,none⟩=some (.int .u8 (b.getD o 0))) (h1:w.cell? ⟨p,q+1,none⟩=some (.int .u8 (b.getD (o+1) 0))) (h2:w.cell? ⟨p,q+2,none⟩=some (.int .u8 (b.getD (o+2) 0))) (h3:w.cell? ⟨p,q+3,none⟩=some (.int .u8 (b.getD (o+3) 0))) :
  Calls Tryz.prog 205 #[.slice (some ⟨p,q,none⟩) m c] w fun e w'=>e = .returned (.int .u32 (word b o))∧∃ k,w'=w.drewN k:=by
 obtain ⟨b00,b01⟩:=bytes_at hb o
 obtain ⟨b10,b11⟩:=bytes_at hb (o+1)
 obtain ⟨b20,b21⟩:=bytes_at hb (o+2)
 obtain ⟨b30,b31⟩:=bytes_at hb (o+3)
 have hw:word b o=bits .or .u32 (bits .or .u32 (bits .or .u32 (b.getD o 0) (b.getD (o+1) 0 * 256)) (b.getD (o+2) 0 * 65536)) (b.getD (o+3) 0 * 16777216):=rfl
 have HW:=abC hw
 have m0:(0:Int) < m:=by omega
 have m1:(1:Int) < m:=by omega
 have m2:(2:Int) < m:=by omega
 have m3:(3:Int) < m:=by omega
 clear hw hb
 generalize b.getD o 0=x0 at h0 b00 b01 HW
 generalize b.getD (o+1) 0=x1 at h1 b10 b11 HW
 generalize b.getD (o+2) 0=x2 at h2 b20 b21 HW
 generalize b.getD (o+3) 0=x3 at h3 b30 b31 HW
 go_enter Tryz.func205, Tryz.ntmps205
 go_wp2_with fail
 go_quiet (fail)
 go_wp2_with fail
 go_ret
 exact ⟨by rw [HW.out];rfl,_,rfl⟩
end Go.Proofs.YthdgbgleklkaiaaGreatDoor.Ch
namespace Go.Proofs.YthdgbgleklkaiaaGreatDoor.Po
open Go.RowKit Lm
def fold (v:Nat):Nat:=v % 2 ^ 130+5 * (v / 2 ^ 130)
theorem pU (v:Nat):fold v % (2 ^ 130 - 5)=v % (2 ^ 130 - 5):=by
 have h:v=fold v+(2 ^ 130 - 5) * (v / 2 ^ 130):=by unfold fold;omega
 have:(fold v+(2 ^ 130 - 5) * (v / 2 ^ 130)) % (2 ^ 130 - 5)=fold v % (2 ^ 130 - 5):=abP _ _ _
 rw [← h] at this
 exact this.symm
theorem and_split (k a b:Nat):a &&& b=(a % 2 ^ k &&& b % 2 ^ k)+2 ^ k * (a / 2 ^ k &&& b / 2 ^ k):=by
 have h1:(a &&& b) % 2 ^ k=a % 2 ^ k &&& b % 2 ^ k:=Nat.and_mod_two_pow
 have h2:(a &&& b) / 2 ^ k=a / 2 ^ k &&& b / 2 ^ k:=Nat.and_div_two_pow
 rw [← h1,← h2]
 exact (Nat.mod_add_div _ _).symm
def mask:Nat:=21267647620597763993911028882763415551
def rv (ks:List Nat):Nat:=val 256 ks &&& mask
def masks:List Nat:=[255,255,255,15,252,255,255,15,252,255,255,15,252,255,255,15]
theorem Pq:∀ xs ms:List Nat,(∀ x∈xs,x < 256)→(∀ x∈ms,x < 256)→val 256 xs &&& val 256 ms=val 256 (List.zipWith (· &&& ·) xs ms)
 | [],_,_,_=>by simp [val]
 | _ :: _,[],_,_=>by simp [val]
 | x :: xs,m :: ms,hx,hm=>by
  have h1:=hx x (by simp)
  have h2:=hm m (by simp)
  have ih:=Pq xs ms (fun y hy=>hx y (by simp [hy])) (fun y hy=>hm y (by simp [hy]))
  rw [List.zipWith_cons_cons,val,val,val,← ih,and_split 8]
  rw [show (2:Nat) ^ 8=256 by rfl,abP,abP,abI h1,abI h2,abX _ _ (by decide),abX _ _ (by decide),abY h1,abY h2,Nat.zero_add,Nat.zero_add]
theorem Wj (ks:List Nat) (hb:∀ x∈ks,x < 256):rv ks=val 256 (List.zipWith (· &&& ·) ks masks):=by
 rw [← Pq ks masks hb (by decide)]
 rfl
theorem JE (b:Nat):∀ (n k v:Nat),(bD b (n+k) v).take n=bD b n v
 | 0,_,_=>by simp [bD]
 | n+1,k,v=>by
  rw [show n+1+k=(n+k)+1 by omega,bD,bD,List.take_succ_cons,JE b n k]
def acc (r:Nat) (m:List Nat):Nat→Nat
 | 0=>0
 | q+1=>(acc r m q+val 256 ((m.drop (16 * q)).take 16 ++ [1])) * r % (2 ^ 130 - 5)
def KC (ks m:List Nat):List Nat:=bD 256 16 (acc (rv ks) m ((m.length+15) / 16)+val 256 (ks.drop 16))
end Go.Proofs.YthdgbgleklkaiaaGreatDoor.Po
namespace Go.Proofs.YthdgbgleklkaiaaGreatDoor
open Go.RowKit Go.ChangeShapes Go.WideShapes
theorem CU.below {k:IntKind} {w w':World} {a:Option Addr} {len cap:Nat} {zs:List Int} (h:CU k w a len cap zs) (hb:Below w.heap.size w w'):CU k w' a len cap zs:=by
 rcases h with h0|⟨x,h1,h2,h3,h4,h5,h6⟩
 ·exact .inl h0
 ·exact .inr ⟨x,h1,h2,h3,h4,fun i hi=>eD hb (h5 i hi),h6⟩
theorem CU.lt {k:IntKind} {w:World} {a:Option Addr} {len cap:Nat} {zs:List Int} (h:CU k w a len cap zs) (x:Addr) (hx:a=some x):len=0∨x.block < w.heap.size:=by
 rcases h with ⟨rfl,_⟩|⟨y,rfl,h2,h3,h4,h5,h6⟩
 ·cases hx
 ·cases hx
  rcases abM len with h0|h0
  ·exact .inl h0
  ·exact .inr (World.block_lt_of_cell? _ _ (h5 0 (by omega)))
section
end
end Go.Proofs.YthdgbgleklkaiaaGreatDoor
