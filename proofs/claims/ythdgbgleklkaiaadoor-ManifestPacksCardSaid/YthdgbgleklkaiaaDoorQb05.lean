/- Rows made place by place, and the steps of limb.Num and limb.Mul, in plain words. field.prime, Lessen, fold, Plus, Minus: Reckoning modulo the order of the base point, in plain wor. Condition: as each theorem says. -/
import Derived.Shelf.Bits.Mul64
import Derived.Shelf.Spec.BitsCarry
import Derived.StillTailTactics
import Derived.Test.YthdgbgleklkaiaaDoorQb01
import Derived.Test.YthdgbgleklkaiaaDoorQb02
import Derived.Test.YthdgbgleklkaiaaDoorQb03
import Derived.Test.YthdgbgleklkaiaaDoorQb04
open Go.Lib renaming hid→acD
open List renaming replicate→acE,take_of_length_le→acJ,ext_getElem→acK,getD→acL,range→acM,length_append→acQ,length_take→acR,getElem?_eq_getElem→acT,getElem_mem→acU,getElem_map→acW,getElem_range→acX,length_map→adA,getElem?_map→adB
open Nat renaming le_refl→acF,mod_eq_of_lt→acH,zero_le→acI,mod_lt→acN,div_eq_of_lt→acO,min_eq_left→acP,add_mul_mod_self_left→acV,add_mul_div_left→adI
open Int renaming toNat→acG
open BitVec renaming ofInt→acS
set_option linter.unusedSimpArgs false
set_option linter.unusedVariables false
set_option maxRecDepth 100000
set_option maxHeartbeats 16000000
namespace Go.Proofs.YthdgbgleklkaiaaDoor.Lm
open Go.RowKit
def upto (f:Nat→Nat) (n j:Nat):List Nat:=(acM n).map fun i=>if i < j then f i else 0
theorem zi (f:Nat→Nat) (n j:Nat):(upto f n j).length=n:=by simp [upto]
theorem Di (f:Nat→Nat) (n:Nat):upto f n 0=acE n 0:=by
 apply acK <;> simp [upto]
theorem Hf (f:Nat→Nat) (n j:Nat):(upto f n j).set j (f j)=upto f n (j+1):=by
 apply acK
 ·simp [upto]
 ·intro i h1 h2
  simp only [upto,List.getElem_set,acW,acX]
  by_cases e:j=i
  ·subst e;simp
  ·rw [if_neg e]
   by_cases h:i < j
   ·rw [if_pos h,if_pos (by omega)]
   ·rw [if_neg h,if_neg (by omega)]
theorem Vd (f:Nat→Nat) (n:Nat):upto f n n=(acM n).map f:=by
 apply acK
 ·simp [upto]
 ·intro i h1 h2
  simp only [upto,acW,acX]
  rw [if_pos (by simpa [upto] using h1)]
end Go.Proofs.YthdgbgleklkaiaaDoor.Lm
namespace Go.Proofs.YthdgbgleklkaiaaDoor.Fp
open Go.RowKit Lm
def N4 (xs:List Int) (a:Nat):Prop:=xs=aW (bD 18446744073709551616 4 a)∧a < 18446744073709551616 ^ 4
theorem N4.len {xs:List Int} {a:Nat} (h:N4 xs a):xs.length=4:=by rw [h.1,aJ,aK]
theorem N4.cast {xs:List Int} {a b:Nat} (h:N4 xs a) (e:a=b):N4 xs b:=e▸h
theorem N4.inj {xs ys:List Int} {a b:Nat} (hx:N4 xs a) (hy:N4 ys b):(xs == ys)=decide (a=b):=by
 obtain ⟨rfl,h1⟩:=hx
 obtain ⟨rfl,h2⟩:=hy
 by_cases e:a=b
 ·subst e;simp
 ·rw [decide_eq_false e,beq_eq_false_iff_ne]
  intro h
  have h3:bD 18446744073709551616 4 a=bD 18446744073709551616 4 b:=by
   have:=congrArg (List.map acG) h
   have e:∀ l:List Nat,(aW l).map acG=l:=fun l=>by rw [aW,List.map_map];exact List.map_id l
   rwa [e,e] at this
  have h4:=congrArg (val 18446744073709551616) h3
  rw [fA,fA,acH h1,acH h2] at h4
  exact e h4
end Go.Proofs.YthdgbgleklkaiaaDoor.Fp
namespace Go.Proofs.YthdgbgleklkaiaaDoor.Sc
open Go.RowKit Lm
def q:Nat:=7237005577332262213973186563042994240857116359379907606001950938285454250989
theorem Kt:q < 256 ^ 32:=by decide +kernel
theorem PL:0 < q:=by decide +kernel
def Ro (V i:Nat):Nat:=V / 2 ^ i % q
theorem Vg (V i:Nat):Ro V i < q:=acN _ PL
theorem Ve (V:Nat):Ro V 0=V % q:=by simp [Ro]
theorem upq_top (V i:Nat) (h:V < 2 ^ i):Ro V i=0:=by rw [Ro,acO h];rfl
theorem abO (V i:Nat):V / 2 ^ i=2 * (V / 2 ^ (i+1))+V / 2 ^ i % 2:=by
 rw [Nat.pow_succ,← Nat.div_div_eq_div_mul]
 omega
theorem Vf (V i n:Nat) (hn:n=2 * Ro V (i+1)+V / 2 ^ i % 2):(if n < q then n else n - q)=Ro V i:=by
 have h1:=Vg V (i+1)
 have h2:V / 2 ^ i % 2 < 2:=acN _ (by decide)
 have e:Ro V i=n % q:=by
  rw [Ro,abO V i,hn,Ro]
  rw [Nat.add_mod,Nat.mul_mod,← Nat.mul_mod_mod,← Nat.mul_mod,← Nat.add_mod]
 rw [e]
 split
 ·rename_i h;rw [acH h]
 ·rename_i h
  rw [Nat.mod_eq_sub_mod (by omega),acH (by omega)]
end Go.Proofs.YthdgbgleklkaiaaDoor.Sc
namespace Go.Proofs.YthdgbgleklkaiaaDoor.Cu
open Go.RowKit Lm Fp
structure Pt where
 x:Nat
 y:Nat
 z:Nat
 t:Nat
def dd:Nat:=37095705934669439343138083508754565189542113879843219016388785533085940283555
def bx:Nat:=15112221349535400772501151409588531511454012693041857206046113283949847762202
def bY:Nat:=46316835694926478169428394003475163141307993866256225615783033603165251855960
def base:Pt:=⟨bx,bY,1,aA bx bY⟩
def nought:Pt:=⟨0,1,1,0⟩
def iy (P Q:Pt):Pt :=
 let a:=aA (aX P.y P.x) (aX Q.y Q.x)
 let b:=aA (aL P.y P.x) (aL Q.y Q.x)
 let c:=aA (aA P.t (aL dd dd)) Q.t
 let z:=aA P.z (aL Q.z Q.z)
 ⟨aA (aX b a) (aX z c),aA (aL z c) (aL b a),aA (aX z c) (aL z c),aA (aX b a) (aL b a)⟩
def ku (P:Pt) (k:Nat):Nat→Pt
 | 0=>nought
 | n+1=>if k / 2 ^ (255 - n) % 2=1 then iy (iy (ku P k n) (ku P k n)) P else iy (ku P k n) (ku P k n)
def lK (P:Pt):Nat:=aA P.y (finv P.z)+2 ^ 255 * (aA P.x (finv P.z) % 2)
def iU (v:Nat):Option Pt :=
 let y:=v % 2 ^ 255
 if y < p then
  let r:=jC (aA (aX (aA y y) 1) (finv (aL (aA dd (aA y y)) 1)))
  if r.2=true∧(v / 2 ^ 255=1→r.1≠0) then
   let x:=if v / 2 ^ 255=1 then aX 0 r.1 else r.1
   some ⟨x,y,1,aA x y⟩
  else none
 else none
def clamp (k:Nat):Nat:=k / 8 * 8 % 2 ^ 254+2 ^ 254
structure Pt.Ok (P:Pt):Prop where
 x:P.x < p
 y:P.y < p
 z:P.z < p
 t:P.t < p
theorem eadd_ok (P Q:Pt):(iy P Q).Ok:=⟨dH _ _,dH _ _,dH _ _,dH _ _⟩
theorem zY:1 < p:=by decide +kernel
theorem Sd:nought.Ok:=⟨zW,zY,zY,zW⟩
theorem base_ok:base.Ok:=⟨by decide +kernel,by decide +kernel,zY,dH _ _⟩
theorem Tv (P:Pt):lK P < 256 ^ 32:=by
 have h1:=dH P.y (finv P.z)
 have h2:aA P.x (finv P.z) % 2 < 2:=acN _ (by decide)
 have h3:=p_eq
 have h4:(256:Nat) ^ 32=2 ^ 255+2 ^ 255:=by decide +kernel
 unfold lK
 rw [h4,← h3]
 rcases (show aA P.x (finv P.z) % 2=0∨aA P.x (finv P.z) % 2=1 by omega) with h|h <;> rw [h] <;> omega
structure La where
 a:Nat
 b:Nat
 c:Nat
 d:Nat
def lY (x:Nat) (s:La):La :=
 let pp:=aA (aL s.a s.b) (aL s.a s.b)
 let mm:=aA (aX s.a s.b) (aX s.a s.b)
 let e:=aX pp mm
 let da:=aA (aX s.c s.d) (aL s.a s.b)
 let cb:=aA (aL s.c s.d) (aX s.a s.b)
 ⟨aA pp mm,aA e (aL pp (aA 121665 e)),aA (aL da cb) (aL da cb),aA x (aA (aX da cb) (aX da cb))⟩
def La.swap (s:La) (b:Nat):La:=if b=1 then ⟨s.c,s.d,s.a,s.b⟩ else s
def Fb (x k:Nat):Nat→La
 | 0=>⟨1,0,x,1⟩
 | n+1=>(lY x ((Fb x k n).swap (k / 2 ^ (254 - n) % 2))).swap (k / 2 ^ (254 - n) % 2)
def bW (k u:Nat):Nat :=
 let s:=Fb (u % 2 ^ 255 % p) (clamp k) 255
 aA s.a (finv s.b)
theorem vo (k u:Nat):bW k u < p:=dH _ _
end Go.Proofs.YthdgbgleklkaiaaDoor.Cu
namespace Go.Proofs.YthdgbgleklkaiaaDoor.Hb
open Go.RowKit
theorem nG (w:World):(zeroValue 26).run Tryd.prog w = .ok (.agg (arr .u8 (acE 64 0))) w:=by kernel_rfl
theorem nN:(Tryd.prog.info? 26).map (·.size)=some 64:=by kernel_rfl
theorem yP (h:List Int) (i:Nat) (hi:i < 64) (v:Int) (hv:v=(digest h).getD i 0):((digest h).take i ++ acE (64 - i) 0).set i v=(digest h).take (i+1) ++ acE (64 - (i+1)) 0:=by
 have hl:(digest h).length=64:=by simp [digest]
 rw [gD _ i 0 (by omega),← hv,List.set_append_right _ _ (by simp;omega),show 64 - i=(64 - (i+1))+1 by omega,List.replicate_succ]
 simp [hl,acP (Nat.le_of_lt hi)]
theorem dz (h:List Int) (i:Nat) (hi:i < 64):(digest h).getD i 0=h.getD (i / 8) 0 / 2 ^ (8 * (7 - i % 8)) % 256:=by simp [digest,acL,hi]
end Go.Proofs.YthdgbgleklkaiaaDoor.Hb
namespace Go.Proofs.YthdgbgleklkaiaaDoor.Cu
open Go.RowKit Lm Fp Sc
def fD (xs:List Int):Nat:=val 256 (xs.map acG)
def n32 (a:Nat):List Int:=aW (bD 256 32 a)
theorem bX (a:Nat):(n32 a).length=32:=(aJ _).trans (aK _ _ _)
theorem eY (a:Nat):bytes (n32 a):=by
 intro x hx
 obtain ⟨y,hy,rfl⟩:=List.mem_map.1 hx
 have:=ig 256 (by decide) 32 a y hy
 refine ⟨Int.natCast_nonneg y,?_⟩
 show (y:Int)≤255
 omega
theorem Sj {xs:List Int} (h:bytes xs):aW (xs.map acG)=xs:=KH xs (fun x hx=>(h x hx).1)
theorem toNat_lt {xs:List Int} (h:bytes xs):∀ x∈xs.map acG,x < 256:=by
 intro x hx
 obtain ⟨y,hy,rfl⟩:=List.mem_map.1 hx
 have:=h y hy
 omega
theorem Jh {xs:List Int} (h:bytes xs):aW (bD 256 xs.length (fD xs))=xs:=by
 have h1:=FJ 256 (by decide) (xs.map acG) (toNat_lt h)
 rw [adA] at h1
 rw [fD,h1,Sj h]
theorem yK {xs:List Int} (h:bytes xs):fD xs < 256 ^ xs.length:=by
 have:=rO 256 (xs.map acG) (toNat_lt h)
 rwa [adA] at this
theorem uq {xs:List Int} (h:bytes xs) (hl:xs.length=32):n32 (fD xs)=xs:=by rw [n32,← hl];exact Jh h
theorem oh {xs:List Int} (h:bytes xs) (n:Nat):bytes (xs.take n):=fun x hx=>h x (List.mem_of_mem_take hx)
theorem Na {xs:List Int} (h:bytes xs) (n:Nat):bytes (xs.drop n):=fun x hx=>h x (List.mem_of_mem_drop hx)
theorem gX {xs ys:List Int} (h:bytes xs) (k:bytes ys):bytes (xs ++ ys):=fun x hx=>(List.mem_append.1 hx).elim (h x) (k x)
end Go.Proofs.YthdgbgleklkaiaaDoor.Cu
namespace Go.Proofs.YthdgbgleklkaiaaDoor
open Go.RowKit
theorem TB (c:Nat) (w:World) :
  Calls Tryd.prog 39 #[.slice none 0 c] w fun e w'=>e = .returned (.slice none 0 0)∧w=w':=by
 have q:=fun (w:World) (a:Option Addr) (n c n' c':Nat)=>Lib.run_eql_slice_nil (P := Tryd.prog) w 24 5 a n c n' c' Tryd.underlying24
 go_enter Tryd.func39, Tryd.ntmps39
 go_wp2
 go_ret
 exact ⟨rfl,rfl⟩
theorem TD (ad:Addr) (n c:Nat) (xs:List Int) (w:World) (hsrc:Src w (some ad) n xs) (hn:n≤1099511627776) :
  Calls Tryd.prog 39 #[.slice (some ad) n c] w fun e w'=>∃ v,e = .returned v∧jY w' w.heap.size v xs∧Below w.heap.size w w':=by
 have q:=fun (w:World) (a:Option Addr) (n c n' c':Nat)=>Lib.run_eql_slice_nil (P := Tryd.prog) w 24 5 a n c n' c' Tryd.underlying24
 obtain ⟨i0,hi,hz0,hz1,hz2⟩:=info_parts yH
 have hxl:=hsrc.len
 have hcs:(xs.map (Value.int .u8)).length=n * 1:=by simp [hxl]
 have hsr:∀ o,∀ j v,(xs.map (Value.int .u8))[j]? = some v→(w.alloc o).cell? (ad.add j)=some v:=by
  intro o j v hj
  rw [adB] at hj
  have hjl:j < xs.length:=by
   rcases Nat.lt_or_ge j xs.length with q|q
   ·exact q
   ·rw [List.getElem?_eq_none q] at hj;cases hj
  obtain ⟨a',he,hc⟩:=hsrc.cell j (by omega)
  cases he
  refine ((Kept.refl (fun _=>False) w).alloc o).l9 (v:=v) ?_ id
  rw [hc]
  simp [hjl] at hj
  simp [acL,hjl,hj]
 have hone:∀ v∈xs.map (Value.int .u8),v.oneCell'=true:=by
  intro v hv
  obtain ⟨x,_,rfl⟩:=List.mem_map.1 hv
  rfl
 have hown0:(w.alloc (.cells #[] 5)).ownsRow w.heap.size 5 1 (.slice (some ⟨w.heap.size,0,none⟩) 0 0) 0 []:=World.ownsRow_made w #[] 0 (acF _) (by decide) rfl
 have JG:=acD hcs
 have xJ:=acD hsr
 have HONE:=acD hone
 have HOWN:=acD hown0
 have iK:=acD hxl
 clear hcs hsr hone hown0 hxl
 go_enter Tryd.func39, Tryd.ntmps39
 go_wp2_with (at_builtin;refine wpList_append_own _ rfl _ _ 24 rfl w.heap.size 5 i0 (.int .u8 0) 1 1 Tryd.underlying24 hi hz0 hz1 hz2 rfl (by decide) _ _ _ rfl HOWN.out ad n _ (xs.map (Value.int .u8)) rfl JG.out (xJ.out _) HONE.out ?_ ?_ ?_ ?_;rotate_right;intro v' w1 hown' hgrow hnil)
 ·go_ret
  refine ⟨v',rfl,jY.KF ?_ ?_,?_⟩
  ·rw [iK.out];simpa using hown'
  ·intro e
   have:=(hnil.1 e).1
   cases this
  ·exact ((Below.refl _ w).alloc (acF _) _).grown hgrow (by simp) (fun k e=>by cases e;exact acF _)
 ·unfold maxLen;omega
 ·omega
 ·simp
end Go.Proofs.YthdgbgleklkaiaaDoor
namespace Go.Proofs.YthdgbgleklkaiaaDoor
open Go.RowKit
def iV (x:Int):List Int:=(acM 8).map fun j=>x / 2 ^ (8 * (7 - j)) % 256
theorem fU (x:Int):(iV x).length=8:=by simp [iV]
theorem abP (x:Int) (j:Nat) (hj:j < 8):(iV x).take (j+1)=(iV x).take j ++ [x / 2 ^ (8 * (7 - j)) % 256]:=by
 rw [gD _ j 0 (by rw [fU];exact hj)]
 simp [iV,acL,hj]
theorem lq (x:Int):bytes (iV x):=by
 intro y hy
 simp only [iV,List.mem_map,List.mem_range] at hy
 obtain ⟨j,_,rfl⟩:=hy
 omega
def fq (bs:List Int) (ns:List Int):List Int:=bs ++ ns.flatMap iV
theorem zV (bs ns:List Int) (i:Nat) (h:i < ns.length):fq bs (ns.take (i+1))=fq bs (ns.take i) ++ iV (ns.getD i 0):=by
 rw [gD ns i 0 h]
 simp [fq]
theorem dO (bs ns:List Int):(fq bs ns).length=bs.length+8 * ns.length:=by
 unfold fq
 rw [acQ]
 congr 1
 induction ns with
 | nil=>rfl
 | cons n ns ih=>rw [List.flatMap_cons,acQ,fU,ih,List.length_cons];omega
structure sH (w:World) (sa:Option Addr) (n:Nat) (xs:List Int):Prop where
 len:xs.length=n
 cell:∀ i,i < n→∃ a,sa=some a∧w.cell? (a.add i)=some (.int .i64 (xs.getD i 0))
theorem sH.below {w w':World} {sa:Option Addr} {n:Nat} {xs:List Int} (h:sH w sa n xs) (k:Below w.heap.size w w'):sH w' sa n xs:=by
 refine ⟨h.len,fun i hi=>?_⟩
 obtain ⟨a,e,hc⟩:=h.cell i hi
 exact ⟨a,e,dI k hc⟩
theorem zH (w:World) (x:Int):sH (w.alloc (.cells #[.int .i64 x] 3)) (some ⟨w.heap.size,0,none⟩) 1 [x]:=by
 refine ⟨rfl,fun i hi=>⟨_,rfl,?_⟩⟩
 obtain rfl:i=0:=by omega
 rw [show (⟨w.heap.size,0,none⟩:Addr).add 0=⟨w.heap.size,0,none⟩ from rfl,aF (aG w _)]
 rfl
theorem vS (sa:Option Addr) (n c:Nat) (xs:List Int) (w:World) (hs:Src w sa n xs) (hn:n≤1099511627776) :
  Calls Tryd.prog 39 #[.slice sa n c] w fun e w'=>∃ v,e = .returned v∧aU w' w.heap.size v xs∧Below w.heap.size w w':=by
 cases sa with
 | none =>
  have h0:n=0:=by
   rcases Nat.eq_zero_or_pos n with h0|h0
   ·exact h0
   ·obtain ⟨_,he,_⟩:=hs.cell 0 h0
    cases he
  subst h0
  have hx:xs=[]:=List.eq_nil_of_length_eq_zero hs.len
  subst hx
  exact (TB c w).mono fun e w' ⟨he,hw⟩=>⟨_,he,aU.nil _ _,by subst hw;exact Below.refl _ _⟩
 | some ad=>exact (TD ad n c xs w hs hn).mono fun e w' ⟨v,he,ho,hb⟩=>⟨v,he,aU.PS ho,hb⟩
theorem Vi (x:Int) (j:Nat) (hj:j < 8):IntKind.u8.wrap (IntKind.u64.wrap x / 2 ^ (8 * (7 - j)))=x / 2 ^ (8 * (7 - j)) % 256:=by
 rw [IntKind.wrap_u8,IntKind.wrap_u64]
 have:j=0∨j=1∨j=2∨j=3∨j=4∨j=5∨j=6∨j=7:=by omega
 rcases this with rfl|rfl|rfl|rfl|rfl|rfl|rfl|rfl
 all_goals (simp only [Nat.reduceSub,Nat.reduceMul,Int.reducePow,Nat.mul_zero,Int.pow_zero];omega)
theorem Ie (sa si:Option Addr) (nb cb n ci:Nat) (bs ns:List Int) (w:World) (hs:Src w sa nb bs) (hi:sH w si n ns) (hnb:nb≤1099511627776) (hn:n≤1048576) :
  Calls Tryd.prog 24 #[.slice sa nb cb, .slice si n ci] w fun e w'=>∃ v,e = .returned v∧aU w' w.heap.size v (fq bs ns)∧Below w.heap.size w w':=by
 have hlb:=hs.len
 have hln:=hi.len
 have HC:=acD (vS sa nb cb bs w hs hnb)
 have HI:=acD hi
 have HLB:=acD hlb
 have GQ:=acD hln
 clear hs hi hlb hln
 go_enter Tryd.func24, Tryd.ntmps24
 go_wp2_with (go_at_call 39; refine HC.out.mono ?_;rintro e w1 ⟨v1,rfl,ho1,hb1⟩;have NA:=acD ho1;have HB1:=acD hb1;clear ho1 hb1)
 go_loopw [5,14] (fun v i wr=>∃ j:Nat,j≤n∧i = .int .i64 j∧aU wr w.heap.size v (fq bs (ns.take j))∧Below w.heap.size w wr) (fun _ i _=>n - (intOf i).toNat)
 case atStart=>exact ⟨0,acI _,rfl,by simpa [fq] using NA.out,HB1.out⟩
 case round =>
  obtain ⟨j,hj,rfl,hO,hB⟩:=hrel
  by_cases hlt:j < n
  ·obtain ⟨a,rfl,hc⟩:=HI.out.cell j hlt
   have x0:=dI hB hc
   have FZ:=acD (zV bs ns j (by rw [GQ.out];exact hlt))
   have SQ:=dO bs (ns.take j)
   rw [HLB.out,acR,GQ.out,acP hj] at SQ
   obtain ⟨T,hT⟩:∃ T,T=fq bs (ns.take j):=⟨_,rfl⟩
   rw [← hT] at hO SQ FZ
   have qZ:=acD SQ
   have HO:=acD hO
   have HB:=acD hB
   clear hT SQ hO hB hc
   generalize ns.getD j 0=x at x0 FZ
   obtain ⟨wo,rfl⟩:∃ wo:World,wo=wr:=⟨_,rfl⟩
   go_wp2_with fail
   go_loopw [5,9] (fun v i wr=>∃ j5:Nat,j5≤8∧i = .int .i64 (7 - (j5:Int))∧aU wr w.heap.size v (T ++ (iV x).take j5)∧Below w.heap.size w wr) (fun _ i _=>(1+intOf i).toNat)
   case atStart=>exact ⟨0,acI _,rfl,by simpa using HO.out,HB.out⟩
   case round =>
    obtain ⟨j5,hj5,rfl,hO,hB⟩:=hrel
    by_cases SN:j5 < 8
    ·obtain ⟨va,vc,hv, -⟩:=hO.form
     have hml:(T ++ (iV x).take j5).length=nb+8 * j+j5:=by rw [acQ,qZ.out,acR,fU];omega
     rw [hml] at hv
     subst hv
     have tH:=acD hml
     have GL:=acD hO
     have kW:=acD hB
     have HBT:=acD (abP x j5 SN)
     have HUB:=acD (Vi x j5 SN)
     have e1:(8 * (7 - (j5:Int))).toNat=8 * (7 - j5):=by omega
     have e2:0≤8 * (7 - (j5:Int)):=by omega
     have e3:8 * (7 - (j5:Int))≤56:=by omega
     clear hO hB hml
     go_wp2_with ((with_reducible refine aS 31 ?_);refine aR rfl (.tmp 24) (.tmp 30) rfl w.heap.size (.slice va (nb+8 * j+j5) vc) (T ++ (iV x).take j5) rfl (GL.out.alloc _) (some ⟨wr.heap.size,0,none⟩) 1 1 [x / 2 ^ (8 * (7 - j5)) % 256] rfl (by rw [← HUB.out];exact jK wr _) (by rw [tH.out];omega) (Nat.le_trans kW.out.size (by simp)) ?_;intro v6 w6 yJ DR hn6 hb6;have En:=acD yJ;have lN:=acD DR;clear yJ DR hn6 hb6)
     clear e1 e2 e3
     go_roundw
     case rel=>exact ⟨j5+1,by omega,by go_num,by rw [HBT.out,← List.append_assoc];exact En.out,aQ (GL.out.alloc _) lN.out (kW.out.alloc kW.out.size _) (Nat.le_trans kW.out.size (by simp))⟩
     case measure=>simp [intOf];omega
    ·have e8:(iV x).take j5=iV x:=acJ (by rw [fU];omega)
     rw [e8] at hO
     have GL:=acD hO
     have kW:=acD hB
     clear hO hB e8
     go_wp2_with fail
     go_roundw
     case rel=>exact ⟨j+1,by omega,by go_num,by rw [FZ.out];exact GL.out,kW.out⟩
     case measure=>simp [intOf];omega
  ·have ej:ns.take j=ns:=acJ (by rw [GQ.out];omega)
   rw [ej] at hO
   have HO:=acD hO
   have HB:=acD hB
   clear hO hB ej
   go_wp2_with fail
   (try simp only [Exit.inBlock,Exit.then])
   go_ret
   exact ⟨_,rfl,HO.out,HB.out⟩
end Go.Proofs.YthdgbgleklkaiaaDoor
namespace Go.Proofs.YthdgbgleklkaiaaDoor
open Go.RowKit
theorem qX (y:Int):IntKind.u8.wrap (bits .and .i64 y 255)=y % 256:=by
 have h2:(acS 64 (255:Int)).toNat=255:=by decide
 have e:∀ x:Nat,x &&& 255=x % 256:=fun x=>Nat.and_two_pow_sub_one_eq_mod x 8
 show IntKind.u8.wrap (IntKind.i64.wrap ((acS 64 y &&& acS 64 (255:Int)).toNat:Int))=_
 rw [BitVec.toNat_and,h2,e,BitVec.toNat_ofInt,IntKind.wrap_u8]
 have hb:(((y % ((2 ^ 64:Nat):Int)).toNat % 256:Nat):Int)=y % 256:=by omega
 rw [hb,IntWalk.i64_in _ (by omega)]
 omega
theorem zero8b (w:World):(zeroValue 83).run Tryd.prog w = .ok (.agg (arr .u8 (acE 8 0))) w:=by kernel_rfl
def CP (x:Int) (j:Nat):List Int:=acE (8 - j) 0 ++ (iV x).drop (8 - j)
theorem WS (x:Int) (j:Nat):(CP x j).length=8:=by simp [CP,fU]
theorem SG (x:Int) (j:Nat) (hj:j < 8):(CP x j).set (7 - j) (x / 2 ^ (8 * j) % 256)=CP x (j+1):=by
 have:j=0∨j=1∨j=2∨j=3∨j=4∨j=5∨j=6∨j=7:=by omega
 rcases this with rfl|rfl|rfl|rfl|rfl|rfl|rfl|rfl <;> rfl
theorem WT (x:Int):CP x 8=iV x:=by simp [CP]
theorem down8 (x:Int) (j:Nat) (hj:j < 8):x / 2 ^ (8 * j) / 256=x / 2 ^ (8 * (j+1)):=by
 have:j=0∨j=1∨j=2∨j=3∨j=4∨j=5∨j=6∨j=7:=by omega
 rcases this with rfl|rfl|rfl|rfl|rfl|rfl|rfl|rfl
 all_goals (simp only [Nat.reduceMul,Nat.reduceAdd,Int.reducePow,Nat.mul_zero,Int.pow_zero];omega)
theorem abN {w:World} {g:Nat} {k:IntKind} {xs:List Int} {t:TypeId} (h:w.heap[g]? = some (.cells (arr k xs) t (0,0))) (i:Nat) (hi:i < xs.length):w.cell? ⟨g,i,none⟩=some (.int k (xs.getD i 0)):=(aF h i).trans (uQ _ _ _ hi)
theorem FQ {w:World} {g:Nat} {k:IntKind} {xs:List Int} {t:TypeId} (h:w.heap[g]? = some (.cells (arr k xs) t (0,0))) (i:Nat) (x:Int):(w.setCell ⟨g,i,none⟩ (.int k x)).heap[g]? = some (.cells (arr k (xs.set i x)) t (0,0)):=by
 rw [bq h]
 congr 2
 simp [arr,List.map_set]
theorem uh (sa si:Option Addr) (nb cb n ci:Nat) (bs ns:List Int) (w:World) (hs:Src w sa nb bs) (hi:sH w si n ns) (hnb:nb≤1099511627776) (hn:n≤1048576) (hwf:∀ x∈ns, -9223372036854775808≤x∧x≤9223372036854775807) :
  Calls Tryd.prog 26 #[.slice sa nb cb, .slice si n ci] w fun e w'=>∃ v,e = .returned v∧aU w' w.heap.size v (fq bs ns)∧Below w.heap.size w w':=by
 have hlb:=hs.len
 have hln:=hi.len
 have QI:=acD hs
 have HI:=acD hi
 have HLB:=acD hlb
 have GQ:=acD hln
 have HWF:=acD hwf
 have HN0:=acD (aU.nil w w.heap.size)
 clear hs hi hlb hln hwf
 go_enter Tryd.func26, Tryd.ntmps26
 go_wp2_with ((with_reducible refine aS 11 ?_);refine aR rfl (.const (.slice none 0 0)) (.tmp 10) rfl w.heap.size (.slice none 0 0) [] rfl HN0.out sa nb cb bs rfl QI.out (by simp;omega) (acF _) ?_;intro v1 w1 ho1 hg1 hn1 hb1;have NA:=acD ho1;have HB1:=acD (aQ HN0.out hg1 (Below.refl _ w) (acF _));clear ho1 hg1 hn1 hb1)
 go_loopw [5,6] (fun v i wr=>∃ j:Nat,j≤n∧i = .int .i64 j∧aU wr w.heap.size v (fq bs (ns.take j))∧Below w.heap.size w wr) (fun _ i _=>n - (intOf i).toNat)
 case atStart=>exact ⟨0,acI _,rfl,by simpa [fq] using NA.out,HB1.out⟩
 case round =>
  obtain ⟨j,hj,rfl,hO,hB⟩:=hrel
  by_cases hlt:j < n
  ·obtain ⟨a,rfl,hc⟩:=HI.out.cell j hlt
   have x0:=dI hB hc
   have FZ:=acD (zV bs ns j (by rw [GQ.out];exact hlt))
   have hwx:=HWF.out (ns.getD j 0) (by
    have:j < ns.length:=by rw [GQ.out];exact hlt
    simp only [acL,acT this,Option.getD_some]
    exact acU this)
   have SQ:=dO bs (ns.take j)
   rw [HLB.out,acR,GQ.out,acP hj] at SQ
   obtain ⟨va,vc,hv, -⟩:=hO.form
   obtain ⟨T,hT⟩:∃ T,T=fq bs (ns.take j):=⟨_,rfl⟩
   rw [← hT] at hO SQ FZ hv
   rw [SQ] at hv
   subst hv
   have qZ:=acD SQ
   have HO:=acD hO
   have HB:=acD hB
   clear hT SQ hO hB hc
   generalize ns.getD j 0=x at x0 FZ hwx
   obtain ⟨wo,rfl⟩:∃ wo:World,wo=wr:=⟨_,rfl⟩
   have hb0:(wo.alloc (.cells (arr .u8 (acE 8 0)) 83)).heap[wo.heap.size]? = some (.cells (arr .u8 (CP x 0)) 83 (0,0)):=by
    rw [show CP x 0=acE 8 0 from rfl]
    exact aG _ _
   have HB0:=acD hb0
   have HBA:=acD ((Below.refl wo.heap.size wo).alloc (acF _) (.cells (arr .u8 (acE 8 0)) 83))
   have HX0:=acD (show x=x / 2 ^ (8 * 0) by simp)
   clear hb0
   go_wp2_with ((with_reducible refine aS 8 ?_);refine aj rfl 83 rfl _ (zero8b _) ?_)
   go_loopw [7,9] (fun u i wr=>∃ j5:Nat,j5≤8∧i = .int .i64 (7 - (j5:Int))∧u = .int .i64 (x / 2 ^ (8 * j5))∧wr.heap[wo.heap.size]? = some (.cells (arr .u8 (CP x j5)) 83 (0,0))∧Below wo.heap.size wo wr) (fun _ i _=>(1+intOf i).toNat)
   case atStart=>exact ⟨0,acI _,rfl,by rw [← HX0.out],HB0.out,HBA.out⟩
   case round =>
    obtain ⟨j5,hj5,rfl,rfl,hb,hB5⟩:=hrel
    by_cases SN:j5 < 8
    ·have y0:=abN hb (7 - j5) (by rw [WS _ _];omega)
     have y1:=aC hb (7 - j5)
     have h2:∀ u,u=x / 2 ^ (8 * j5) % 256→(wr.setCell ⟨wo.heap.size,7 - j5,none⟩ (.int .u8 u)).heap[wo.heap.size]? = some (.cells (arr .u8 (CP x (j5+1))) 83 (0,0)):=by
      rintro u rfl
      rw [FQ hb,SG x j5 SN]
     have H2:=acD h2
     have fM:=acD (fun u=>hB5.setCell (p:=⟨wo.heap.size,7 - j5,none⟩) (acF _) (.int .u8 u))
     have HD:=acD (down8 x j5 SN)
     have e1:(7 - (j5:Int)).toNat=7 - j5:=by omega
     have e2:0≤7 - (j5:Int):=by omega
     have e3:7 - (j5:Int) < 8:=by omega
     clear hb hB5 h2
     generalize hy:x / 2 ^ (8 * j5)=y at H2 HD ⊢
     go_wp2_with fail
     clear e1 e2 e3
     go_roundw
     case rel=>exact ⟨j5+1,by omega,by go_num,by rw [← HD.out],H2.out _ (qX _),fM.out _⟩
     case measure=>simp [intOf];omega
    ·obtain rfl:j5=8:=by omega
     rw [WT] at hb
     have hsr:Src wr (some ⟨wo.heap.size,0,none⟩) 8 (iV x):=nL hb (by rw [Nat.mul_one,bN,acJ (by simp)]) (fU x)
     have xJ:=acD hsr
     have GL:=acD (HO.out.below hB5)
     have kW:=acD (HB.out.trans (hB5.mono HB.out.size))
     clear hb hB5 hsr
     go_wp2_with ((with_reducible refine aS 35 ?_);refine aR rfl (.tmp 33) (.tmp 34) rfl w.heap.size (.slice va (nb+8 * j) vc) T rfl GL.out (some ⟨wo.heap.size,0,none⟩) 8 8 (iV x) rfl xJ.out (by rw [qZ.out];omega) kW.out.size ?_;intro v6 w6 yJ DR hn6 hb6;have En:=acD yJ;have lN:=acD DR;clear yJ DR hn6 hb6)
     go_roundw
     case rel=>exact ⟨j+1,by omega,by go_num,by rw [FZ.out];exact En.out,aQ GL.out lN.out kW.out kW.out.size⟩
     case measure=>simp [intOf];omega
  ·have ej:ns.take j=ns:=acJ (by rw [GQ.out];omega)
   rw [ej] at hO
   have HO:=acD hO
   have HB:=acD hB
   clear hO hB ej
   go_wp2_with fail
   (try simp only [Exit.inBlock,Exit.then])
   go_ret
   exact ⟨_,rfl,HO.out,HB.out⟩
theorem gu (x:Int) (w:World) (hx : -9223372036854775808≤x∧x≤9223372036854775807) :
  Calls Tryd.prog 30 #[.int .i64 x] w fun e w'=>∃ v,e = .returned v∧aU w' w.heap.size v (iV x)∧Below w.heap.size w w':=by
 have h:=uh none (some ⟨w.heap.size,0,none⟩) 0 0 1 1 [] [x] (w.alloc (.cells #[.int .i64 x] 3)) ⟨rfl,fun i hi=>absurd hi (by omega)⟩ (zH w x) (by omega) (by omega) (by intro y hy;simp at hy;subst hy;exact hx)
 rw [show fq [] [x]=iV x by simp [fq]] at h
 have H:=acD h
 have HB:=acD ((Below.refl _ w).alloc (acF _) (.cells #[.int .i64 x] 3))
 clear h hx
 go_enter Tryd.func30, Tryd.ntmps30
 go_wp2_with (go_at_call 26; refine H.out.mono ?_;rintro e w1 ⟨v1,rfl,ho1,hb1⟩;have NA:=acD (ho1.mono (B':=w.heap.size) (by simp));have HB1:=acD (HB.out.trans (hb1.mono HB.out.size));clear ho1 hb1)
 go_ret
 exact ⟨_,rfl,NA.out,HB1.out⟩
end Go.Proofs.YthdgbgleklkaiaaDoor
namespace Go.Proofs.YthdgbgleklkaiaaDoor.Sm
open Go.RowKit
theorem str_inj:∀ (xs ys:List Int),bytes xs→bytes ys→strOfNums xs=strOfNums ys→xs=ys:=by
 intro xs ys hx hy h
 have h2:(strOfNums xs).data.toList=(strOfNums ys).data.toList:=by rw [h]
 rw [strOfNums_data,strOfNums_data] at h2
 have hl:xs.length=ys.length:=by have:=congrArg List.length h2;simpa using this
 apply acK hl
 intro i h1 h3
 have e:=congrArg (fun l=>l[i]?) h2
 simp only [adB,acT h1,acT h3,Option.map_some,Option.some.injEq] at e
 have b1:=hx xs[i] (acU h1)
 have b2:=hy ys[i] (acU h3)
 have e2:=congrArg UInt8.toNat e
 rw [UInt8.toNat_ofNat',UInt8.toNat_ofNat'] at e2
 omega
theorem str_eq (xs ys:List Int) (hx:bytes xs) (hy:bytes ys):((strOfNums xs).toList == (strOfNums ys).toList)=decide (xs=ys):=by
 by_cases h:xs=ys
 ·rw [h,decide_eq_true rfl,beq_iff_eq]
 ·rw [decide_eq_false h,beq_eq_false_iff_ne]
  intro e
  apply h
  apply str_inj xs ys hx hy
  rw [ByteArray.toList_eq,ByteArray.toList_eq] at e
  exact ByteArray.ext (Array.toList_inj.1 e)
end Go.Proofs.YthdgbgleklkaiaaDoor.Sm
namespace Go.Proofs.YthdgbgleklkaiaaDoor
open Go.RowKit
theorem WX (sa:Option Addr) (n c:Nat) (L:List (List Int)) (w:World) (hs:oq w sa n L) (hN:L.flatten.length≤1099511627776) (hn:n≤1099511627776) :
  Calls Tryd.prog 83 #[.slice sa n c] w fun e w'=>∃ v,e = .returned v∧aU w' w.heap.size v L.flatten∧Below w.heap.size w w':=by
 have hl:=hs.len
 have HS:=acD hs
 have HL:=acD hl
 clear hs hl
 go_enter Tryd.func83, Tryd.ntmps83
 go_wp2_with fail
 go_loopw [3,4] (fun v i wr=>∃ j:Nat,j≤n∧i = .int .i64 j∧aU wr w.heap.size v (L.take j).flatten∧Below w.heap.size w wr) (fun _ i _=>n - (intOf i).toNat)
 case atStart=>exact ⟨0,acI _,rfl,aU.nil _ _,Below.refl _ _⟩
 case round =>
  obtain ⟨j,hj,rfl,hO,hB⟩:=hrel
  by_cases hlt:j < n
  ·obtain ⟨a,si,ci,rfl,hc,hci,hsi⟩:=HS.out.cell j hlt
   have x0:=dI hB hc
   have hsi':=hsi.below hB
   have hfl:=Qp L j (by rw [HL.out];exact hlt)
   have HFS:=acD (vL L j (by rw [HL.out];exact hlt))
   obtain ⟨va,vc,hv, -⟩:=hO.form
   obtain ⟨T,hT⟩:∃ T,T=(L.take j).flatten:=⟨_,rfl⟩
   obtain ⟨l,hlj⟩:∃ l,l=L.getD j []:=⟨_,rfl⟩
   rw [← hlj] at x0 hci hsi' hfl HFS
   rw [← hT] at hO hv hfl HFS
   subst hv
   obtain ⟨m,hm⟩:∃ m,m=l.length:=⟨_,rfl⟩
   obtain ⟨t,ht⟩:∃ t,t=T.length:=⟨_,rfl⟩
   rw [← hm] at x0 hci hsi' hfl
   rw [← ht] at hO hfl ⊢
   have qZ:=acD ht.symm
   have HO:=acD hO
   have FU:=acD hsi'
   have HB:=acD hB
   clear hO hsi hsi' hB hc hT hlj hm ht
   go_wp2_with ((with_reducible refine aS 16 ?_);refine aR rfl (.tmp 11) (.tmp 15) rfl w.heap.size (.slice va t vc) T rfl HO.out si m ci l rfl FU.out (by rw [qZ.out];omega) HB.out.size ?_;intro v6 w6 yJ DR hn6 hb6;have En:=acD yJ;have lN:=acD DR;clear yJ DR hn6 hb6)
   go_roundw
   case rel=>exact ⟨j+1,by omega,by go_num,by rw [HFS.out];exact En.out,aQ HO.out lN.out HB.out HB.out.size⟩
   case measure=>simp [intOf];omega
  ·have ej:L.take j=L:=acJ (by rw [HL.out];omega)
   rw [ej] at hO
   have HO:=acD hO
   have HB:=acD hB
   clear hO hB ej
   go_wp2_with fail
   (try simp only [Exit.inBlock,Exit.then])
   go_ret
   exact ⟨_,rfl,HO.out,HB.out⟩
end Go.Proofs.YthdgbgleklkaiaaDoor
namespace Go.Proofs.YthdgbgleklkaiaaDoor.Po
open Go.RowKit Lm
def fold (v:Nat):Nat:=v % 2 ^ 130+5 * (v / 2 ^ 130)
theorem qh (v:Nat):fold v % (2 ^ 130 - 5)=v % (2 ^ 130 - 5):=by
 have h:v=fold v+(2 ^ 130 - 5) * (v / 2 ^ 130):=by unfold fold;omega
 have:(fold v+(2 ^ 130 - 5) * (v / 2 ^ 130)) % (2 ^ 130 - 5)=fold v % (2 ^ 130 - 5):=acV _ _ _
 rw [← h] at this
 exact this.symm
theorem and_split (k a b:Nat):a &&& b=(a % 2 ^ k &&& b % 2 ^ k)+2 ^ k * (a / 2 ^ k &&& b / 2 ^ k):=by
 have h1:(a &&& b) % 2 ^ k=a % 2 ^ k &&& b % 2 ^ k:=Nat.and_mod_two_pow
 have h2:(a &&& b) / 2 ^ k=a / 2 ^ k &&& b / 2 ^ k:=Nat.and_div_two_pow
 rw [← h1,← h2]
 exact (Nat.mod_add_div _ _).symm
def mask:Nat:=21267647620597763993911028882763415551
def rv (ks:List Nat):Nat:=val 256 ks &&& mask
def masks:List Nat:=[255,255,255,15,252,255,255,15,252,255,255,15,252,255,255,15]
theorem OZ:∀ xs ms:List Nat,(∀ x∈xs,x < 256)→(∀ x∈ms,x < 256)→val 256 xs &&& val 256 ms=val 256 (List.zipWith (· &&& ·) xs ms)
 | [],_,_,_=>by simp [val]
 | _ :: _,[],_,_=>by simp [val]
 | x :: xs,m :: ms,hx,hm=>by
  have h1:=hx x (by simp)
  have h2:=hm m (by simp)
  have ih:=OZ xs ms (fun y hy=>hx y (by simp [hy])) (fun y hy=>hm y (by simp [hy]))
  rw [List.zipWith_cons_cons,val,val,val,← ih,and_split 8]
  rw [show (2:Nat) ^ 8=256 by rfl,acV,acV,acH h1,acH h2,adI _ _ (by decide),adI _ _ (by decide),acO h1,acO h2,Nat.zero_add,Nat.zero_add]
theorem VA (ks:List Nat) (hb:∀ x∈ks,x < 256):rv ks=val 256 (List.zipWith (· &&& ·) ks masks):=by
 rw [← OZ ks masks hb (by decide)]
 rfl
theorem Jg (b:Nat):∀ (n k v:Nat),(bD b (n+k) v).take n=bD b n v
 | 0,_,_=>by simp [bD]
 | n+1,k,v=>by
  rw [show n+1+k=(n+k)+1 by omega,bD,bD,List.take_succ_cons,Jg b n k]
def acc (r:Nat) (m:List Nat):Nat→Nat
 | 0=>0
 | q+1=>(acc r m q+val 256 ((m.drop (16 * q)).take 16 ++ [1])) * r % (2 ^ 130 - 5)
def Kh (ks m:List Nat):List Nat:=bD 256 16 (acc (rv ks) m ((m.length+15) / 16)+val 256 (ks.drop 16))
end Go.Proofs.YthdgbgleklkaiaaDoor.Po
