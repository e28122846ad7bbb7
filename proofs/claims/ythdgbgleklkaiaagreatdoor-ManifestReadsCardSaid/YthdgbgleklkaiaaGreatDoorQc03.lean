/- limb.Of: Reckoning modulo the order of the base point, in plain words. Condition: as each theorem says. -/
import Derived.Shelf.Bits.Mul64
import Derived.Shelf.Spec.BitsCarry
import Derived.Test.YthdgbgleklkaiaaGreatDoorQc02
open Nat renaming mod_eq_of_lt→abC,div_lt_of_lt_mul→abE,lt_of_lt_of_le→abF,mod_lt→abG,div_div_eq_div_mul→abH,pow_mul→abI,pow_succ→abJ,add_comm→abL,mod_add_div→abT
open List renaming replicate→abD,getD→abK,length_set→abQ,mem_of_getElem?→abU,flatten_append→abV,length_append→abW,getD_cons_succ→abX
open Int renaming pow_succ→abM,natCast_emod→abZ
set_option linter.unusedSimpArgs false
set_option linter.unusedVariables false
set_option maxRecDepth 100000
set_option maxHeartbeats 16000000
namespace Go.Proofs.YthdgbgleklkaiaaGreatDoor.Lm
open Go.RowKit
theorem nar32i (xs:List Nat) (hl:xs.length=32):(Tryz.prog.info? 25).map (·.size)=some (aW xs).length:=by rw [aG,hl];kernel_rfl
theorem SB (j:Nat):256 ^ j=18446744073709551616 ^ (j / 8) * 2 ^ (8 * (j % 8)):=by
 rw [show (256:Nat)=2 ^ 8 by rfl,show (18446744073709551616:Nat)=2 ^ 64 by rfl,← abI,← abI,← Nat.pow_add]
 congr 1
 omega
end Go.Proofs.YthdgbgleklkaiaaGreatDoor.Lm
namespace Go.Proofs.YthdgbgleklkaiaaGreatDoor.Sc
open Go.RowKit Lm
def q:Nat:=7237005577332262213973186563042994240857116359379907606001950938285454250989
theorem KQ:q < 256 ^ 32:=by decide +kernel
theorem P9:0 < q:=by decide +kernel
def RI (V i:Nat):Nat:=V / 2 ^ i % q
theorem VD (V i:Nat):RI V i < q:=abG _ P9
theorem Vz (V:Nat):RI V 0=V % q:=by simp [RI]
theorem upq_top (V i:Nat) (h:V < 2 ^ i):RI V i=0:=by rw [RI,Nat.div_eq_of_lt h];rfl
theorem ZV (V i:Nat):V / 2 ^ i=2 * (V / 2 ^ (i+1))+V / 2 ^ i % 2:=by
 rw [abJ,← abH]
 omega
theorem VA (V i n:Nat) (hn:n=2 * RI V (i+1)+V / 2 ^ i % 2):(if n < q then n else n - q)=RI V i:=by
 have h1:=VD V (i+1)
 have h2:V / 2 ^ i % 2 < 2:=abG _ (by decide)
 have e:RI V i=n % q:=by
  rw [RI,ZV V i,hn,RI]
  rw [Nat.add_mod,Nat.mul_mod,← Nat.mul_mod_mod,← Nat.mul_mod,← Nat.add_mod]
 rw [e]
 split
 ·rename_i h;rw [abC h]
 ·rename_i h
  rw [Nat.mod_eq_sub_mod (by omega),abC (by omega)]
end Go.Proofs.YthdgbgleklkaiaaGreatDoor.Sc
namespace Go.Proofs.YthdgbgleklkaiaaGreatDoor.Cu
open Go.RowKit Lm Fp
structure Pt where
 x:Nat
 y:Nat
 z:Nat
 t:Nat
def dd:Nat:=37095705934669439343138083508754565189542113879843219016388785533085940283555
def bx:Nat:=15112221349535400772501151409588531511454012693041857206046113283949847762202
def bY:Nat:=46316835694926478169428394003475163141307993866256225615783033603165251855960
def base:Pt:=⟨bx,bY,1,aA bx bY⟩
def nought:Pt:=⟨0,1,1,0⟩
def iB (P Q:Pt):Pt :=
 let a:=aA (bf P.y P.x) (bf Q.y Q.x)
 let b:=aA (aL P.y P.x) (aL Q.y Q.x)
 let c:=aA (aA P.t (aL dd dd)) Q.t
 let z:=aA P.z (aL Q.z Q.z)
 ⟨aA (bf b a) (bf z c),aA (aL z c) (aL b a),aA (bf z c) (aL z c),aA (bf b a) (aL b a)⟩
def kC (P:Pt) (k:Nat):Nat→Pt
 | 0=>nought
 | n+1=>if k / 2 ^ (255 - n) % 2=1 then iB (iB (kC P k n) (kC P k n)) P else iB (kC P k n) (kC P k n)
def lF (P:Pt):Nat:=aA P.y (finv P.z)+2 ^ 255 * (aA P.x (finv P.z) % 2)
def iX (v:Nat):Option Pt :=
 let y:=v % 2 ^ 255
 if y < p then
  let r:=jG (aA (bf (aA y y) 1) (finv (aL (aA dd (aA y y)) 1)))
  if r.2=true∧(v / 2 ^ 255=1→r.1≠0) then
   let x:=if v / 2 ^ 255=1 then bf 0 r.1 else r.1
   some ⟨x,y,1,aA x y⟩
  else none
 else none
def clamp (k:Nat):Nat:=k / 8 * 8 % 2 ^ 254+2 ^ 254
structure Pt.Ok (P:Pt):Prop where
 x:P.x < p
 y:P.y < p
 z:P.z < p
 t:P.t < p
theorem eadd_ok (P Q:Pt):(iB P Q).Ok:=⟨dH _ _,dH _ _,dH _ _,dH _ _⟩
theorem zS:1 < p:=by decide +kernel
theorem SI:nought.Ok:=⟨zQ,zS,zS,zQ⟩
theorem base_ok:base.Ok:=⟨by decide +kernel,by decide +kernel,zS,dH _ _⟩
theorem TV (P:Pt):lF P < 256 ^ 32:=by
 have h1:=dH P.y (finv P.z)
 have h2:aA P.x (finv P.z) % 2 < 2:=abG _ (by decide)
 have h3:=p_eq
 have h4:(256:Nat) ^ 32=2 ^ 255+2 ^ 255:=by decide +kernel
 unfold lF
 rw [h4,← h3]
 rcases (show aA P.x (finv P.z) % 2=0∨aA P.x (finv P.z) % 2=1 by omega) with h|h <;> rw [h] <;> omega
structure La where
 a:Nat
 b:Nat
 c:Nat
 d:Nat
def lU (x:Nat) (s:La):La :=
 let pp:=aA (aL s.a s.b) (aL s.a s.b)
 let mm:=aA (bf s.a s.b) (bf s.a s.b)
 let e:=bf pp mm
 let da:=aA (bf s.c s.d) (aL s.a s.b)
 let cb:=aA (aL s.c s.d) (bf s.a s.b)
 ⟨aA pp mm,aA e (aL pp (aA 121665 e)),aA (aL da cb) (aL da cb),aA x (aA (bf da cb) (bf da cb))⟩
def La.swap (s:La) (b:Nat):La:=if b=1 then ⟨s.c,s.d,s.a,s.b⟩ else s
def FN (x k:Nat):Nat→La
 | 0=>⟨1,0,x,1⟩
 | n+1=>(lU x ((FN x k n).swap (k / 2 ^ (254 - n) % 2))).swap (k / 2 ^ (254 - n) % 2)
def bZ (k u:Nat):Nat :=
 let s:=FN (u % 2 ^ 255 % p) (clamp k) 255
 aA s.a (finv s.b)
theorem uN (k u:Nat):bZ k u < p:=dH _ _
end Go.Proofs.YthdgbgleklkaiaaGreatDoor.Cu
namespace Go.Proofs.YthdgbgleklkaiaaGreatDoor.Rd
open Go.RowKit Lm Fp Cu
def gK (a:Nat):Nat×Bool:=if aA (iI a eighth 256) (iI a eighth 256)=a then (iI a eighth 256,true) else (aA (iI a eighth 256) im,decide (aA (aA (iI a eighth 256) im) (aA (iI a eighth 256) im)=a))
theorem IG (a:Nat):(gK a).1 < p:=by
 unfold gK
 split
 ·exact QE _ _ _
 ·exact dH _ _
theorem fsub0 (r:Nat) (h:r < p):bf 0 r=if r=0 then 0 else p - r:=by
 unfold bf
 rw [Nat.zero_add]
 split
 ·rename_i e;subst e;rw [Nat.sub_zero,Nat.mod_self]
 ·rw [abC (by omega)]
theorem F4 (a:Nat):jG a=if (gK a).2=true then (if (gK a).1 % 2=1 then bf 0 (gK a).1 else (gK a).1,true) else (0,false):=by
 unfold jG gK
 simp only
 by_cases h:aA (iI a eighth 256) (iI a eighth 256)=a
 ·rw [if_pos h,if_pos h]
  simp only [h,if_true]
 ·rw [if_neg h,if_neg h]
  simp only [decide_eq_true_eq]
theorem p_odd:p % 2=1:=by decide +kernel
def under (y:Nat):Nat:=aA (bf (aA y y) 1) (finv (aL (aA dd (aA y y)) 1))
theorem A8 (v:Nat) (h:¬ v % 2 ^ 255 < p):iX v=none:=by
 unfold iX
 simp only
 rw [if_neg h]
theorem xP (v:Nat) (h:(gK (under (v % 2 ^ 255))).2=false):iX v=none:=by
 unfold iX
 simp only
 split
 ·rw [if_neg]
  rintro ⟨h1, -⟩
  have e:=F4 (under (v % 2 ^ 255))
  rw [h,if_neg (by decide)] at e
  rw [show jG (aA (bf (aA (v % 2 ^ 255) (v % 2 ^ 255)) 1) (finv (aL (aA dd (aA (v % 2 ^ 255) (v % 2 ^ 255))) 1)))=jG (under (v % 2 ^ 255)) from rfl,e] at h1
  cases h1
 ·rfl
theorem xO (v:Nat) (hb:v / 2 ^ 255=1) (h0:(gK (under (v % 2 ^ 255))).1=0):iX v=none:=by
 unfold iX
 simp only
 split
 ·rw [if_neg]
  rintro ⟨h1,h2⟩
  rw [show jG (aA (bf (aA (v % 2 ^ 255) (v % 2 ^ 255)) 1) (finv (aL (aA dd (aA (v % 2 ^ 255) (v % 2 ^ 255))) 1)))=jG (under (v % 2 ^ 255)) from rfl,F4,h0] at h1 h2
  refine h2 hb ?_
  split at h1
  ·rename_i h3;rw [if_pos h3];rfl
  ·cases h1
 ·rfl
theorem Nf (v r:Nat) (hv:v < 2 ^ 256) (hy:v % 2 ^ 255 < p) (hr:(gK (under (v % 2 ^ 255))).1=r) (hk:(gK (under (v % 2 ^ 255))).2=true) (hz:¬ (r=0∧v / 2 ^ 255=1)) :
  iX v=some ⟨if r % 2≠v / 2 ^ 255 then bf 0 r else r,v % 2 ^ 255,1,aA (if r % 2≠v / 2 ^ 255 then bf 0 r else r) (v % 2 ^ 255)⟩:=by
 have hrl:=IG (under (v % 2 ^ 255))
 rw [hr] at hrl
 have hod:=p_odd
 have f0:=fsub0 r hrl
 have hb2:v / 2 ^ 255=0∨v / 2 ^ 255=1:=by
  have:v / 2 ^ 255 < 2:=abE (by rw [← abJ];exact hv)
  omega
 have e:=F4 (under (v % 2 ^ 255))
 rw [hk,if_pos rfl,hr] at e
 unfold iX
 simp only
 rw [if_pos hy,show jG (aA (bf (aA (v % 2 ^ 255) (v % 2 ^ 255)) 1) (finv (aL (aA dd (aA (v % 2 ^ 255) (v % 2 ^ 255))) 1)))=jG (under (v % 2 ^ 255)) from rfl,e]
 simp only [true_and]
 have key:(if v / 2 ^ 255=1 then bf 0 (if r % 2=1 then bf 0 r else r) else if r % 2=1 then bf 0 r else r)=if r % 2≠v / 2 ^ 255 then bf 0 r else r:=by
  rcases hb2 with hb|hb
  ·rw [hb,if_neg (by decide)]
   by_cases h1:r % 2=1
   ·rw [if_pos h1,if_pos (by omega)]
   ·rw [if_neg h1,if_neg (by omega)]
  ·rw [hb,if_pos rfl]
   by_cases h1:r % 2=1
   ·rw [if_pos h1,if_neg (by omega),f0,if_neg (by omega),fsub0 _ (by omega),if_neg (by omega)]
    omega
   ·rw [if_neg h1,if_pos (by omega)]
 rw [if_pos,key]
 intro hb
 split
 ·rename_i h1
  rw [f0,if_neg (by omega)]
  omega
 ·intro h0
  exact hz ⟨h0,hb⟩
theorem enc_set (Y b:Nat) (hY:Y < 2 ^ 255) (hb:b≤1):(bD 256 32 Y).set 31 (Y / 256 ^ 31+128 * b)=bD 256 32 (Y+2 ^ 255 * b):=by
 have hlt:Y / 256 ^ 31 < 128:=abE (abF hY (by decide))
 refine nV 256 (by decide) 32 _ _ (by rw [abQ,aK]) (jN (iw 256 (by decide) _ _) _ _ (by omega)) ?_
 have h:=nG 256 (bD 256 32 Y) 31 (Y / 256 ^ 31+128 * b) (by rw [aK];decide)
 rw [dn _ _ _ _ (by decide),fA,abC (show Y / 256 ^ 31 < 256 by omega),abC (abF hY (by decide)),Nat.mul_add] at h
 have e:256 ^ 31 * (128 * b)=2 ^ 255 * b:=by rw [← Nat.mul_assoc]
 rw [e] at h
 omega
theorem VH (Y:Nat) (hY:Y < 2 ^ 255):(bD 256 32 Y).getD 31 0=Y / 256 ^ 31∧Y / 256 ^ 31 < 128:=by
 have hlt:Y / 256 ^ 31 < 128:=abE (abF hY (by decide))
 rw [dn _ _ _ _ (by decide),abC (by omega)]
 exact ⟨rfl,hlt⟩
theorem zZ (X:Nat):(bD 256 32 X).getD 0 0=X % 256:=by rw [dn _ _ _ _ (by decide)];simp
theorem QJ (v:Nat) (hv:v < 2 ^ 256):(bD 256 32 v).set 31 (v / 256 ^ 31 % 128)=bD 256 32 (v % 2 ^ 255):=by
 have hlt:v / 256 ^ 31 < 256:=abE (abF hv (by decide))
 have hm:v % 2 ^ 255 < 2 ^ 255:=abG _ (by decide)
 have hb2:v / 2 ^ 255≤1:=by
  have:v / 2 ^ 255 < 2:=abE (by rw [← abJ];exact hv)
  omega
 have hd:=abT v (2 ^ 255)
 refine nV 256 (by decide) 32 _ _ (by rw [abQ,aK]) (jN (iw 256 (by decide) _ _) _ _ (by omega)) ?_
 have h:=nG 256 (bD 256 32 v) 31 (v / 256 ^ 31 % 128) (by rw [aK];decide)
 rw [dn _ _ _ _ (by decide),fA,abC hlt,abC (abF hv (by decide))] at h
 have e1:v / 256 ^ 31=v / 256 ^ 31 % 128+128 * (v / 2 ^ 255):=by
  have:v / 2 ^ 255=v / 256 ^ 31 / 128:=by rw [abH]
  rw [this,abT]
 have e2:256 ^ 31 * (v / 256 ^ 31)=256 ^ 31 * (v / 256 ^ 31 % 128)+2 ^ 255 * (v / 2 ^ 255):=by
  rw [show (2:Nat) ^ 255 * (v / 2 ^ 255)=256 ^ 31 * (128 * (v / 2 ^ 255)) by rw [← Nat.mul_assoc],← Nat.mul_add,← e1]
 omega
theorem top_bit (v:Nat):v / 256 ^ 31 / 128=v / 2 ^ 255:=by rw [abH]
theorem oU (v:Nat) (hv:v < 2 ^ 256):(bD 256 32 v).getD 31 0=v / 256 ^ 31∧v / 256 ^ 31 < 256:=by
 have hlt:v / 256 ^ 31 < 256:=abE (abF hv (by decide))
 rw [dn _ _ _ _ (by decide),abC hlt]
 exact ⟨rfl,hlt⟩
end Go.Proofs.YthdgbgleklkaiaaGreatDoor.Rd
namespace Go.Proofs.YthdgbgleklkaiaaGreatDoor
open Go.RowKit
structure om (w:World) (sa:Option Addr) (n:Nat) (L:List (List Int)):Prop where
 len:L.length=n
 cell:∀ i,i < n→∃ a si ci,sa=some a∧w.cell? (a.add i)=some (.slice si (L.getD i []).length ci)∧(L.getD i []).length≤ci∧Src w si (L.getD i []).length (L.getD i [])
theorem om.below {w w':World} {sa:Option Addr} {n:Nat} {L:List (List Int)} (h:om w sa n L) (k:Below w.heap.size w w'):om w' sa n L:=by
 refine ⟨h.len,fun i hi=>?_⟩
 obtain ⟨a,si,ci,h1,h2,h3,h4⟩:=h.cell i hi
 exact ⟨a,si,ci,h1,(k.cell (World.block_lt_of_cell? w _ h2)).trans h2,h3,h4.below k⟩
def bytes (xs:List Int):Prop:=∀ x∈xs,0≤x∧x≤255
theorem bytes_at {xs:List Int} (h:bytes xs) (i:Nat):0≤xs.getD i 0∧xs.getD i 0≤255:=by
 simp only [abK]
 cases e:xs[i]? with
 | none=>simp
 | some y=>simpa using h y (abU e)
theorem gD {α:Type} (xs:List α) (i:Nat) (d:α) (h:i < xs.length):xs.take (i+1)=xs.take i ++ [xs.getD i d]:=by
 rw [List.take_succ_eq_append_getElem h]
 simp [abK,h]
theorem vk (L:List (List Int)) (i:Nat) (h:i < L.length):(L.take (i+1)).flatten=(L.take i).flatten ++ L.getD i []:=by
 rw [gD L i [] h,abV]
 simp
theorem QF (L:List (List Int)) (i:Nat) (h:i < L.length):(L.take i).flatten.length+(L.getD i []).length≤L.flatten.length:=by
 have e:=congrArg List.length (vk L i h)
 rw [abW] at e
 rw [← e]
 have e2:L.flatten=(L.take (i+1)).flatten ++ (L.drop (i+1)).flatten:=by rw [← abV,List.take_append_drop]
 rw [e2,abW]
 omega
end Go.Proofs.YthdgbgleklkaiaaGreatDoor
namespace Go.Proofs.YthdgbgleklkaiaaGreatDoor.Rd
open Go.RowKit Lm Fp
theorem Vv (ns:List Nat):vi (aW ns)=(val 65536 ns:Int):=by
 induction ns with
 | nil=>rfl
 | cons n ns ih =>
  have e1:vi (aW (n :: ns))=(n:Int)+65536 * vi (aW ns):=by
   rw [lX (1+ns.length) (aW (n :: ns)) (by simp [aW];omega),zB,lX ns.length (aW ns) (by simp [aW]),← EN]
   have:si 1 (fun i=>(65536:Int) ^ i * (aW (n :: ns)).getD i 0)=n:=by simp [si,aW]
   rw [this]
   congr 1
   refine iF _ _ _ fun i _=>?_
   rw [bH,bH,abL 1 i,abX,abM]
   grind
  rw [e1,ih,val]
  omega
theorem Dt {xs:List Int} (h:ko 0 xs):∃ ns:List Nat,xs=aW ns∧ns.length=16∧(∀ n∈ns,n < 65536):=by
 have hm:=mR h (by decide)
 refine ⟨xs.map Int.toNat,(K9 xs fun x hx=>by have:=hm x hx;omega).symm,by simpa using h.1,fun n hn=>?_⟩
 obtain ⟨x,hx,rfl⟩:=List.mem_map.1 hn
 have:=hm x hx
 omega
theorem Du {xs:List Int} (h:ko 0 xs) (V:Nat) (hv:vi xs=V):xs=aW (bD 65536 16 V)∧V < 65536 ^ 16:=by
 obtain ⟨ns,rfl,hl,hb⟩:=Dt h
 rw [Vv] at hv
 have hv':val 65536 ns=V:=by omega
 refine ⟨by rw [← nV 65536 (by decide) 16 V ns hl hb hv'],?_⟩
 have:=qW 65536 ns hb
 rw [hl,hv'] at this
 exact this
theorem SN {xs:List Int} (h:ko 0 xs):∃ V:Nat,vi xs=V:=by
 obtain ⟨ns,rfl,_,_⟩:=Dt h
 exact ⟨_,Vv ns⟩
def P16:List Int:=[65517,65535,65535,65535,65535,65535,65535,65535,65535,65535,65535,65535,65535,65535,65535,32767]
theorem vi_P:vi P16=(p:Int):=by decide +kernel
def sb (ds:List Int) (i:Nat):List Int:=tb 16 fun j=>if j+1 < i then (ds.getD j 0+cr ds j) % 65536 else if j+1=i then ds.getD j 0+cr ds j else 0
theorem sb_one (ds:List Int):(abD 16 (0:Int)).set 0 (ds.getD 0 0)=sb ds 1:=by
 rw [sN,iP]
 refine cO _ _ _ fun j _=>?_
 by_cases e:j=0
 ·subst e;rw [if_pos rfl,if_neg (by omega),if_pos rfl,cr];omega
 ·rw [if_neg e,if_neg (by omega),if_neg (by omega)]
theorem sb_get (ds:List Int) (i:Nat) (h:i < 16):(sb ds (i+1)).getD i 0=ds.getD i 0+cr ds i:=by
 rw [sb,jl _ _ _ h,if_neg (by omega),if_pos rfl]
theorem PI (ds:List Int) (i:Nat) (x:Int) (_h:i < 15) (hx:ds.getD i 0+cr ds i=x) :
  ((sb ds (i+1)).set (i+1) (ds.getD (i+1) 0+x / 65536)).set i (x % 65536)=sb ds (i+2):=by
 subst hx
 rw [sb,iP,iP]
 refine cO _ _ _ fun j hj=>?_
 by_cases e:j=i
 ·subst e
  rw [if_pos rfl,if_pos (by omega)]
 ·rw [if_neg e]
  by_cases e2:j=i+1
  ·subst e2
   rw [if_pos rfl,if_neg (by omega),if_pos (by omega)]
   rfl
  ·rw [if_neg e2]
   by_cases e3:j < i
   ·rw [if_pos (by omega),if_pos (by omega)]
   ·rw [if_neg (by omega),if_neg (by omega),if_neg (by omega),if_neg (by omega)]
theorem sb_last (ds:List Int):sb ds 16=mid ds 15:=by
 refine cO _ _ _ fun j hj=>?_
 by_cases e:j < 15
 ·rw [if_pos (by omega),if_pos e]
 ·rw [if_neg (by omega),if_neg e,if_pos (by omega),if_pos (by omega)]
def kD (us:List Int):List Int:=Bb us P16
theorem mZ (us:List Int) (j:Nat) (hj:j < 16):(kD us).getD j 0=us.getD j 0 - P16.getD j 0:=by rw [kD,Bb,jl _ _ _ hj]
theorem P16_get (j:Nat) (h:0 < j) (h2:j < 15):P16.getD j 0=65535:=by
 match j,h,h2 with
 | 1,_,_|2,_,_|3,_,_|4,_,_|5,_,_|6,_,_|7,_,_|8,_,_|9,_,_|10,_,_|11,_,_|12,_,_|13,_,_|14,_,_=>rfl
theorem vO (j:Nat):0≤P16.getD j 0∧P16.getD j 0≤65535:=by
 simp only [abK]
 cases e:P16[j]? with
 | none=>simp
 | some y =>
  have h:∀ x∈P16,0≤x∧x≤65535:=by decide
  simpa using h y (abU e)
theorem jM {us:List Int} (h:ko 0 us) (j:Nat):0≤us.getD j 0∧us.getD j 0≤65535:=by
 cases j with
 | zero=>have:=h.2.1;omega
 | succ j=>exact h.2.2 j
theorem Ga {us:List Int} (h:ko 0 us):∀ j,j≤16 → -1≤cr (kD us) j∧cr (kD us) j≤0
 | 0,_=>by rw [cr];omega
 | j+1,hj=>by
  have ih:=Ga h j (by omega)
  have h1:=jM h j
  have h2:=vO j
  rw [cr,mZ us j (by omega)]
  omega
theorem Vw (ds:List Int):vi (mid ds 15)=si 15 (fun j=>65536 ^ j * ((ds.getD j 0+cr ds j) % 65536))+65536 ^ 15 * (ds.getD 15 0+cr ds 15):=by
 have a1:∀ f:Nat→Int,si 16 f=si 15 f+f 15:=fun _=>rfl
 rw [mid,wP,a1]
 congr 1
theorem vi_mid2 (ds:List Int) (h:ds.length=16):vi (mid ds 15)=vi ds:=by
 have a1:∀ f:Nat→Int,si 16 f=si 15 f+f 15:=fun _=>rfl
 rw [Vw,tele,lX 16 ds h,a1,Int.mul_add]
 omega
theorem V9 (f:Nat→Int) (h:∀ j,0≤f j∧f j≤65535):∀ n,0≤si n (fun j=>65536 ^ j * f j)∧si n (fun j=>65536 ^ j * f j) < 65536 ^ n
 | 0=>by simp [si]
 | n+1=>by
  have ih:=V9 f h n
  have hf:=h n
  have hp:(0:Int) < 65536 ^ n:=Int.pow_pos (by decide)
  have e1:(65536:Int) ^ n * f n≤65536 ^ n * 65535:=Int.mul_le_mul_of_nonneg_left hf.2 (by omega)
  have e2:0≤(65536:Int) ^ n * f n:=Int.mul_nonneg (by omega) hf.1
  have e3:(65536:Int) ^ (n+1)=65536 ^ n * 65536:=abM _ _
  rw [si]
  omega
theorem sub_dec {us:List Int} (h:ko 0 us) (V:Nat) (hv:vi us=V) :
  ((kD us).getD 15 0+cr (kD us) 15 < 0∧V < p)∨(0≤(kD us).getD 15 0+cr (kD us) 15∧p≤V∧ko 0 (mid (kD us) 15)∧vi (mid (kD us) 15)=((V - p:Nat):Int)):=by
 have e:vi (mid (kD us) 15)=(V:Int) - (p:Int):=by rw [vi_mid2 _ (show (kD us).length=16 from dX _ _),kD,Pp _ _ h.1 rfl,hv,vi_P]
 have e2:=Vw (kD us)
 have e3:=V9 (fun j=>((kD us).getD j 0+cr (kD us) j) % 65536) (fun j=>by omega) 15
 have e4:(65536:Int) ^ 15=1766847064778384329583297500742918515827483896875618958121606201292619776:=by decide
 have h15:=jM h 15
 have p15:=vO 15
 have c15:=Ga h 15 (by decide)
 have d15:=mZ us 15 (by decide)
 by_cases hs:(kD us).getD 15 0+cr (kD us) 15 < 0
 ·refine .inl ⟨hs,?_⟩
  rw [e,e4] at e2
  rw [e4] at e3
  generalize si 15 (fun j=>65536 ^ j * (((kD us).getD j 0+cr (kD us) j) % 65536))=L at e2 e3
  omega
 ·refine .inr ⟨by omega,?_,⟨dX _ _,?_,fun j=>?_⟩,?_⟩
  ·rw [e,e4] at e2
   rw [e4] at e3
   generalize si 15 (fun j=>65536 ^ j * (((kD us).getD j 0+cr (kD us) j) % 65536))=L at e2 e3
   omega
  ·rw [mid,jl _ _ _ (by decide),if_pos (by decide)]
   omega
  ·rcases Nat.lt_or_ge (j+1) 16 with hj|hj
   ·rw [mid,jl _ _ _ hj]
    by_cases e5:j+1 < 15
    ·rw [if_pos e5];omega
    ·rw [if_neg e5,if_pos (by omega),show j+1=15 by omega]
     omega
   ·rw [mid,VI _ _ _ hj];omega
  ·rw [e]
   have:p≤V:=by
    rw [e,e4] at e2
    rw [e4] at e3
    generalize si 15 (fun j=>65536 ^ j * (((kD us).getD j 0+cr (kD us) j) % 65536))=L at e2 e3
    omega
   omega
def byt (us:List Int) (j:Nat):Int:=us.getD (j / 2) 0 / 256 ^ (j % 2) % 256
def outs (us:List Int) (i:Nat):List Int:=tb 32 fun j=>if j < 2 * i then byt us j else 0
theorem SF (us:List Int):abD 32 0=outs us 0:=by
 rw [sN]
 exact cO _ _ _ fun j _=>by rw [if_neg (by omega)]
theorem SG (us:List Int) (i:Nat) (x:Int) (hx:us.getD i 0=x):((outs us i).set (2 * i) (x % 256)).set (2 * i+1) (x / 256 % 256)=outs us (i+1):=by
 subst hx
 rw [outs,iP,iP]
 refine cO _ _ _ fun j _=>?_
 by_cases e:j=2 * i+1
 ·subst e
  rw [if_pos rfl,if_pos (by omega),byt,show (2 * i+1) / 2=i by omega,show (2 * i+1) % 2=1 by omega]
  simp
 ·rw [if_neg e]
  by_cases e2:j=2 * i
  ·subst e2
   rw [if_pos rfl,if_pos (by omega),byt,show 2 * i / 2=i by omega,show 2 * i % 2=0 by omega]
   simp
  ·rw [if_neg e2]
   by_cases e3:j < 2 * i
   ·rw [if_pos e3,if_pos (by omega)]
   ·rw [if_neg e3,if_neg (by omega)]
theorem WQ (V:Nat):outs (aW (bD 65536 16 V)) 16=aW (bD 256 32 V):=by
 rw [CZ 32 (aW (bD 256 32 V)) (by rw [aG,aK])]
 refine cO _ _ _ fun j hj=>?_
 rw [if_pos (by omega),bH,dn _ _ _ _ hj,byt,bH,dn _ _ _ _ (by omega)]
 have e:256 ^ j=65536 ^ (j / 2) * 256 ^ (j % 2):=by
  rw [show (65536:Nat)=256 ^ 2 by rfl,← abI,← Nat.pow_add]
  congr 1
  omega
 rw [e,← abH]
 generalize V / 65536 ^ (j / 2)=y
 have:j % 2=0∨j % 2=1:=by omega
 rcases this with h|h
 ·rw [h];simp only [Int.pow_zero,Nat.pow_zero,Nat.div_one,Int.ediv_one];omega
 ·rw [h];simp only [Nat.pow_one];omega
def ins (ns:List Int) (i:Nat):List Int:=tb 16 fun j=>if j < i then ns.getD (2 * j) 0+256 * ns.getD (2 * j+1) 0 else 0
theorem Xy (ns:List Int):abD 16 0=ins ns 0:=by
 rw [sN]
 exact cO _ _ _ fun j _=>by rw [if_neg (by omega)]
theorem Xz (ns:List Int) (i:Nat):(ins ns i).set i (ns.getD (2 * i) 0+256 * ns.getD (2 * i+1) 0)=ins ns (i+1):=by
 rw [ins,iP]
 refine cO _ _ _ fun j _=>?_
 by_cases e:j=i
 ·subst e;rw [if_pos rfl,if_pos (by omega)]
 ·rw [if_neg e]
  by_cases e3:j < i
  ·rw [if_pos e3,if_pos (by omega)]
  ·rw [if_neg e3,if_neg (by omega)]
theorem Ik:∀ (n:Nat) (ns:List Nat),ns.length=2 * n→si n (fun j=>(65536:Int) ^ j * ((aW ns).getD (2 * j) 0+256 * (aW ns).getD (2 * j+1) 0))=(val 256 ns:Int)
 | 0,[],_=>rfl
 | n+1,a :: b :: ns,h=>by
  have ih:=Ik n ns (by simp at h;omega)
  rw [abL n 1,zB,val,val]
  have e1:si 1 (fun j=>(65536:Int) ^ j * ((aW (a :: b :: ns)).getD (2 * j) 0+256 * (aW (a :: b :: ns)).getD (2 * j+1) 0))=(a:Int)+256 * (b:Int):=by simp [si,aW]
  have e2:si n (fun i=>(65536:Int) ^ (1+i) * ((aW (a :: b :: ns)).getD (2 * (1+i)) 0+256 * (aW (a :: b :: ns)).getD (2 * (1+i)+1) 0))=65536 * (val 256 ns:Int):=by
   rw [← ih,← EN]
   refine iF _ _ _ fun i _=>?_
   rw [show 2 * (1+i)=2 * i+1+1 by omega,show 2 * i+1+1+1=(2 * i+1)+1+1 by omega]
   simp only [bH,abX]
   rw [abL 1 i,abM]
   grind
  rw [e1,e2]
  omega
theorem ins_el (ns:List Nat) (hl:ns.length=32) (hb:∀ n∈ns,n < 256):El (ins (aW ns) 16) (val 256 ns % p):=by
 refine ⟨dX _ _,?_,?_⟩
 ·refine zf _ _ _ fun i hi=>?_
  have h1:=dA hb (by decide) (2 * i)
  have h2:=dA hb (by decide) (2 * i+1)
  rw [if_pos hi,bH,bH]
  omega
 ·have e:=Ik 16 ns hl
  rw [ins,wP,iF 16 _ (fun j=>(65536:Int) ^ j * ((aW ns).getD (2 * j) 0+256 * (aW ns).getD (2 * j+1) 0)) (fun i hi=>by rw [if_pos hi]),e]
  exact (abZ _ _).symm
theorem TI {xs:List Int} {a:Nat} (h:El xs a):ko 0 (carry (carry (carry (carry xs))))∧vi (carry (carry (carry (carry xs)))) % (p:Int)=(a:Int):=by
 have n1:ko (38 * 17) (carry xs):=kS xs 1048576 17 (bV xs 1048576 h.2.1 (by decide)) (by decide) (by decide)
 have n2:ko 38 (carry (carry xs)):=qc _ _ n1 (by decide) (by decide)
 have n3:=qd _ n2
 refine ⟨qd _ (SK n3 (by decide)),?_⟩
 rw [ji _ n3.1,ji _ n2.1,ji _ n1.1,ji _ h.1,h.2.2]
theorem JC (n:Nat) (hn:n≤1048576):El ((abD 16 (0:Int)).set 0 n) n:=by
 have hp:n < p:=Nat.lt_of_le_of_lt hn (by decide +kernel)
 refine ⟨by simp,?_,?_⟩
 ·intro x hx
  rcases List.mem_or_eq_of_mem_set hx with h|rfl
  ·have:=List.eq_of_mem_replicate h
   omega
  ·omega
 ·rw [Vu _ _ _ (by simp)]
  have e:vi (abD 16 (0:Int))=0:=by decide
  rw [e]
  simp only [List.getD_eq_getElem?_getD]
  have:((abD 16 (0:Int))[0]?.getD 0)=0:=by decide
  rw [this]
  simp only [Int.pow_zero,Int.sub_zero,Int.one_mul,Int.zero_add]
  rw [← abZ,abC hp]
theorem F9:El (abD 16 (0:Int)) 0:=by
 have:=JC 0 (by decide)
 exact this
end Go.Proofs.YthdgbgleklkaiaaGreatDoor.Rd
