/- bytes. Condition: as each theorem says. -/
import Derived.Test.YtodnkallpfkdiaaDoorMa
import Derived.ProofKit
import Derived.OpenShut
import Derived.Lib.AppendStr
import Derived.Lib.ConvBytes
import Derived.StillTailTactics
set_option maxRecDepth 100000
set_option maxHeartbeats 16000000
set_option linter.unusedSimpArgs false
set_option linter.unusedVariables false
namespace Go.Proofs.YtodnkallpfkdiaaDoor
open Go.RowKit
theorem clone_nil (c:Nat) (w:World) :
  Calls Tryd.prog 77 #[.slice none 0 c] w fun e w'=>e = .returned (.slice none 0 0)∧w=w':=by
 have q:=fun (w:World) (a:Option Addr) (n c n' c':Nat)=>Lib.run_eql_slice_nil (P := Tryd.prog) w 24 5 a n c n' c' Tryd.underlying24
 go_enter Tryd.func77, Tryd.ntmps77
 go_wp2
 go_ret
 exact ⟨rfl,rfl⟩
theorem clone_any (ad:Addr) (n c:Nat) (xs:List Int) (w:World) (hsrc:Src w (some ad) n xs) (hn:n≤1099511627776) :
  Calls Tryd.prog 77 #[.slice (some ad) n c] w fun e w'=>∃ v,e = .returned v∧Owns w' w.heap.size v xs∧Below w.heap.size w w':=by
 have q:=fun (w:World) (a:Option Addr) (n c n' c':Nat)=>Lib.run_eql_slice_nil (P := Tryd.prog) w 24 5 a n c n' c' Tryd.underlying24
 obtain ⟨i0,hi,hz0,hz1,hz2⟩:=info_parts info_u8
 have hxl:=hsrc.len
 have hcs:(xs.map (Value.int .u8)).length=n * 1:=by simp [hxl]
 have hsr:∀ o,∀ j v,(xs.map (Value.int .u8))[j]? = some v→(w.alloc o).cell? (ad.add j)=some v:=by
  intro o j v hj
  rw [List.getElem?_map] at hj
  have hjl:j < xs.length:=by
   rcases Nat.lt_or_ge j xs.length with q|q
   ·exact q
   ·rw [List.getElem?_eq_none q] at hj;cases hj
  obtain ⟨a',he,hc⟩:=hsrc.cell j (by omega)
  cases he
  refine ((Kept.refl (fun _=>False) w).alloc o).cellX (v:=v) ?_ id
  rw [hc]
  simp [hjl] at hj
  simp [List.getD,hjl,hj]
 have hone:∀ v∈xs.map (Value.int .u8),v.oneCell'=true:=by
  intro v hv
  obtain ⟨x,_,rfl⟩:=List.mem_map.1 hv
  rfl
 have hown0:(w.alloc (.cells #[] 5)).ownsRow w.heap.size 5 1 (.slice (some ⟨w.heap.size,0,none⟩) 0 0) 0 []:=World.ownsRow_made w #[] 0 (Nat.le_refl _) (by decide) rfl
 have HCS:=Lib.hid hcs
 have HSR:=Lib.hid hsr
 have HONE:=Lib.hid hone
 have HOWN:=Lib.hid hown0
 have HXL:=Lib.hid hxl
 clear hcs hsr hone hown0 hxl
 go_enter Tryd.func77, Tryd.ntmps77
 go_wp2_with (at_builtin;refine wpList_append_own _ rfl _ _ 24 rfl w.heap.size 5 i0 (.int .u8 0) 1 1 Tryd.underlying24 hi hz0 hz1 hz2 rfl (by decide) _ _ _ rfl HOWN.out ad n _ (xs.map (Value.int .u8)) rfl HCS.out (HSR.out _) HONE.out ?_ ?_ ?_ ?_;rotate_right;intro v' w1 hown' hgrow hnil)
 ·go_ret
  refine ⟨v',rfl,Owns.of_row ?_ ?_,?_⟩
  ·rw [HXL.out];simpa using hown'
  ·intro e
   have:=(hnil.1 e).1
   cases this
  ·exact ((Below.refl _ w).alloc (Nat.le_refl _) _).grown hgrow (by simp) (fun k e=>by cases e;exact Nat.le_refl _)
 ·unfold maxLen;omega
 ·omega
 ·simp
end Go.Proofs.YtodnkallpfkdiaaDoor
namespace Go.Proofs.YtodnkallpfkdiaaDoor
open Go.RowKit Go.ChangeShapes Go.WideShapes
/-- A slice of integers that came in. -/
def RowI (k:IntKind) (w:World) (a:Option Addr) (len cap:Nat) (zs:List Int):Prop :=
 (a=none∧len=0∧cap=0∧zs=[]) ∨
 ∃ x,a=some x∧len≤cap∧cap≤maxLen∧zs.length=cap∧(∀ i,i < zs.length→w.cell? (x.add i)=some (.int k (zs.getD i 0)))∧∀ n∈zs,(Lit.int k n).wf=true
/-- An array of n integers by value. -/
def ArrOf (k:IntKind) (n:Nat) (v:Value) (zs:List Int):Prop:=v = .agg (zs.map (Value.int k)).toArray∧zs.length=n∧∀ z∈zs,(Lit.int k z).wf=true
section
variable {H:Type} {enc:TypeId×Value→H} {P:Program} {w:World} {base:Nat} {spare:Nat→Bool} {held:Bool}
theorem okWide_arr {r:Reach} {b0:Nat} {t e:TypeId} {n:Nat} {v:Value} (ht:P.underlying t=some (.array n e)) (h:Value.okWide P w r b0 t v):∃ cs,v = .agg cs∧cs.size=P.cellsOf t:=by
 simp only [Value.okWide,ht] at h
 obtain ⟨cs,h1,h2,_⟩:=h
 exact ⟨cs,h1,h2⟩
theorem row_of {k:IntKind} {t e:TypeId} {a:Option Addr} {len cap fuel:Nat} {x:DataW H×List MemPlace} (ht:P.underlying t=some (.slice e)) (he:P.underlying e=some (.int k)) (hc:P.cellsOf e=1)
  (hf:DataW.trod enc P w base (fun _=>true) held fuel t (Value.slice a len cap).cells.toList=some x):∃ zs,RowI k w a len cap zs:=by
 rcases open_ints ht he hc hf with ⟨hcs,_⟩|⟨x,l,c,zs,hcs,_,hl,hm,hz,_,hcell,hwz⟩
 ·simp [Value.cells] at hcs
  obtain ⟨rfl,rfl,rfl⟩:=hcs
  exact ⟨[], .inl ⟨rfl,rfl,rfl,rfl⟩⟩
 ·simp [Value.cells] at hcs
  obtain ⟨rfl,rfl,rfl⟩:=hcs
  exact ⟨zs, .inr ⟨_,rfl,hl,hm,by simpa using hz,hcell,hwz⟩⟩
theorem cells_ints {k:IntKind}:∀ (n:Nat) (cs:List Value),cs.length=n→(∀ i,i < n→∃ z,(cs.drop i).take 1=[.int k z]∧(Lit.int k z).wf=true)→∃ zs:List Int,cs=zs.map (Value.int k)∧zs.length=n∧∀ z∈zs,(Lit.int k z).wf=true
 | 0,cs,hl,_=>⟨[],by simpa using List.eq_nil_of_length_eq_zero hl,rfl,by simp⟩
 | n+1,cs,hl,h=>by
  cases cs with
  | nil=>simp at hl
  | cons c cs =>
   obtain ⟨z,h1,h2⟩:=h 0 (by omega)
   simp at h1
   obtain ⟨zs,e,l,m⟩:=cells_ints n cs (by simpa using hl) (fun i hi=>by simpa using h (i+1) (by omega))
   refine ⟨z :: zs,by simp [h1,e],by simp [l],?_⟩
   intro y hy
   rcases List.mem_cons.1 hy with rfl|hy
   ·exact h2
   ·exact m y hy
theorem arr_of {k:IntKind} {r:Reach} {b0:Nat} {t e:TypeId} {n:Nat} {v:Value} {d:DataW H} {p:List MemPlace} (ht:P.underlying t=some (.array n e)) (he:P.underlying e=some (.int k)) (hc:P.cellsOf e=1) (hn:P.cellsOf t=n)
  (hv:Value.okWide P w r b0 t v) (h:DataW.Trod enc P w base spare held t v d p):∃ zs,ArrOf k n v zs:=by
 obtain ⟨cs,rfl,hs⟩:=okWide_arr ht hv
 obtain ⟨fuel,hf⟩:=h
 obtain ⟨xs,m,_,_,hl,hx,hi⟩:=DataW.trod_array ht hf
 rw [hc] at hi
 have hl':cs.toList.length=n:=by rw [← hn];exact hl
 obtain ⟨zs,e1,e2,e3⟩:=cells_ints (k:=k) n cs.toList hl' (fun i h=>by
  have:=hi i h
  have hsome:∃ y,xs[i]? = some y:=⟨xs[i],by rw [List.getElem?_eq_getElem]⟩
  obtain ⟨y,hy⟩:=hsome
  rw [hy] at this
  obtain ⟨z,h1,_,h2⟩:=DataW.trod_int he this
  refine ⟨z,?_,h2⟩
  simpa [Value.cells] using h1)
 exact ⟨zs,by congr 1;apply Array.toList_inj.1;simpa using e1,e2,e3⟩
theorem wf_u8 {n:Int} (h:(Lit.int .u8 n).wf=true):0≤n∧n≤255:=bounds_u8 h
theorem wf_i64 {n:Int} (h:(Lit.int .i64 n).wf=true) : -9223372036854775808≤n∧n≤9223372036854775807:=bounds_i64 h
end
end Go.Proofs.YtodnkallpfkdiaaDoor
namespace Go.Proofs.YtodnkallpfkdiaaDoor
open Go.RowKit
theorem RowI.src {w:World} {a:Option Addr} {len cap:Nat} {zs:List Int} (h:RowI .u8 w a len cap zs):Src w a len (zs.take len)∧bytes (zs.take len)∧len≤cap:=by
 rcases h with ⟨rfl,rfl,rfl,rfl⟩|⟨x,rfl,hl,hm,hz,hc,hw⟩
 ·exact ⟨⟨rfl,fun i hi=>absurd hi (by omega)⟩,fun x hx=>by simp at hx,Nat.le_refl _⟩
 ·refine ⟨⟨by simp;omega,fun i hi=>⟨x,rfl,?_⟩⟩,fun y hy=>wf_u8 (hw y (List.mem_of_mem_take hy)),hl⟩
  rw [hc i (by omega)]
  simp [List.getD,hi]
theorem src_string {w:World} {sa:Option Addr} {n c:Nat} {xs:List Int} (h:Src w sa n xs):(convert 24 9 (.slice sa n c)).run Tryd.prog w = .ok (.string (strOfNums xs)) w:=by
 cases sa with
 | none =>
  have h0:n=0:=by
   rcases Nat.eq_zero_or_pos n with h0|h0
   ·exact h0
   ·obtain ⟨_,he,_⟩:=h.cell 0 h0
    cases he
  have hx:xs=[]:=List.eq_nil_of_length_eq_zero (h.len.trans h0)
  subst hx
  exact run_convert_bytes_nil w 24 5 Tryd.underlying24 Tryd.underlying5 n c 9 Tryd.underlying9
 | some a =>
  have hl:(loadCells a n).run Tryd.prog w = .ok (xs.map (Value.int .u8)).toArray w:=by
   have:=run_loadCells_list (P := Tryd.prog) w a (xs.map (Value.int .u8)) (src_news h a rfl)
   simpa [h.len] using this
  rw [run_convert_bytes_string w 24 9 5 _ n c Tryd.underlying24 Tryd.underlying5 Tryd.underlying9, run_bytesToString w _ n c xs hl,foldl_push_bytes]
  simp [strOfNums,ByteArray.empty,ByteArray.emptyWithCapacity]
  rfl
theorem Src.take {w:World} {sa:Option Addr} {n:Nat} {xs:List Int} (h:Src w sa n xs) (m:Nat) (hm:m≤n):Src w sa m (xs.take m):=by
 refine ⟨by simp;have:=h.len;omega,fun i hi=>?_⟩
 obtain ⟨a,e,hc⟩:=h.cell i (by omega)
 refine ⟨a,e,?_⟩
 rw [hc]
 simp [List.getD,hi]
/-- A part of a source. -/
theorem Src.part {w:World} {ad:Addr} {n:Nat} {xs:List Int} (h:Src w (some ad) n xs) (o m:Nat) (hm:o+m≤n):Src w (some (ad.add o)) m ((xs.drop o).take m):=by
 refine ⟨by simp;have:=h.len;omega,fun i hi=>⟨_,rfl,?_⟩⟩
 obtain ⟨a,e,hc⟩:=h.cell (o+i) (by omega)
 cases e
 have:(ad.add o).add i=ad.add (o+i):=by
  obtain ⟨b,off,s⟩:=ad
  unfold Addr.add
  by_cases ho:o=0
  ·subst ho;simp
  ·by_cases hj:i=0
   ·subst hj;simp
   ·simp [ho,hj,Nat.add_assoc]
 rw [this,hc]
 simp [List.getD,hi,List.getElem?_drop]
end Go.Proofs.YtodnkallpfkdiaaDoor
namespace Go.Proofs.YtodnkallpfkdiaaDoor
open Go.RowKit
/-- A number's eight bytes, the highest first. -/
def be8 (x:Int):List Int:=(List.range 8).map fun j=>x / 2 ^ (8 * (7 - j)) % 256
theorem be8_len (x:Int):(be8 x).length=8:=by simp [be8]
theorem be8_take (x:Int) (j:Nat) (hj:j < 8):(be8 x).take (j+1)=(be8 x).take j ++ [x / 2 ^ (8 * (7 - j)) % 256]:=by
 rw [take_snoc _ j 0 (by rw [be8_len];exact hj)]
 simp [be8,List.getD,hj]
theorem be8_bytes (x:Int):bytes (be8 x):=by
 intro y hy
 simp only [be8,List.mem_map,List.mem_range] at hy
 obtain ⟨j,_,rfl⟩:=hy
 omega
def packL (bs:List Int) (ns:List Int):List Int:=bs ++ ns.flatMap be8
theorem packL_snoc (bs ns:List Int) (i:Nat) (h:i < ns.length):packL bs (ns.take (i+1))=packL bs (ns.take i) ++ be8 (ns.getD i 0):=by
 rw [take_snoc ns i 0 h]
 simp [packL]
theorem packL_len (bs ns:List Int):(packL bs ns).length=bs.length+8 * ns.length:=by
 unfold packL
 rw [List.length_append]
 congr 1
 induction ns with
 | nil=>rfl
 | cons n ns ih=>rw [List.flatMap_cons,List.length_append,be8_len,ih,List.length_cons];omega
/-- n integers lie behind the address sa. -/
structure SrcI (w:World) (sa:Option Addr) (n:Nat) (xs:List Int):Prop where
 len:xs.length=n
 cell:∀ i,i < n→∃ a,sa=some a∧w.cell? (a.add i)=some (.int .i64 (xs.getD i 0))
theorem SrcI.below {w w':World} {sa:Option Addr} {n:Nat} {xs:List Int} (h:SrcI w sa n xs) (k:Below w.heap.size w w'):SrcI w' sa n xs:=by
 refine ⟨h.len,fun i hi=>?_⟩
 obtain ⟨a,e,hc⟩:=h.cell i hi
 exact ⟨a,e,below_cell k hc⟩
/-- One number in a block of its own. -/
theorem srcI_one (w:World) (x:Int):SrcI (w.alloc (.cells #[.int .i64 x] 3)) (some ⟨w.heap.size,0,none⟩) 1 [x]:=by
 refine ⟨rfl,fun i hi=>⟨_,rfl,?_⟩⟩
 obtain rfl:i=0:=by omega
 rw [show (⟨w.heap.size,0,none⟩:Addr).add 0=⟨w.heap.size,0,none⟩ from rfl,cell_blk (blk_new w _)]
 rfl
/-- bytes.Clone of whatever bytes, nil among them. -/
theorem clone_all (sa:Option Addr) (n c:Nat) (xs:List Int) (w:World) (hs:Src w sa n xs) (hn:n≤1099511627776) :
  Calls Tryd.prog 77 #[.slice sa n c] w fun e w'=>∃ v,e = .returned v∧Own8 w' w.heap.size v xs∧Below w.heap.size w w':=by
 cases sa with
 | none =>
  have h0:n=0:=by
   rcases Nat.eq_zero_or_pos n with h0|h0
   ·exact h0
   ·obtain ⟨_,he,_⟩:=hs.cell 0 h0
    cases he
  subst h0
  have hx:xs=[]:=List.eq_nil_of_length_eq_zero hs.len
  subst hx
  exact (clone_nil c w).mono fun e w' ⟨he,hw⟩=>⟨_,he,Own8.nil _ _,by subst hw;exact Below.refl _ _⟩
 | some ad=>exact (clone_any ad n c xs w hs hn).mono fun e w' ⟨v,he,ho,hb⟩=>⟨v,he,Own8.of_owns ho,hb⟩
theorem u64_byte (x:Int) (j:Nat) (hj:j < 8):IntKind.u8.wrap (IntKind.u64.wrap x / 2 ^ (8 * (7 - j)))=x / 2 ^ (8 * (7 - j)) % 256:=by
 rw [IntKind.wrap_u8,IntKind.wrap_u64]
 have:j=0∨j=1∨j=2∨j=3∨j=4∨j=5∨j=6∨j=7:=by omega
 rcases this with rfl|rfl|rfl|rfl|rfl|rfl|rfl|rfl
 all_goals (simp only [Nat.reduceSub,Nat.reduceMul,Int.reducePow,Nat.mul_zero,Int.pow_zero];omega)
theorem pint_any (sa si:Option Addr) (nb cb n ci:Nat) (bs ns:List Int) (w:World) (hs:Src w sa nb bs) (hi:SrcI w si n ns) (hnb:nb≤1099511627776) (hn:n≤1048576) :
  Calls Tryd.prog 47 #[.slice sa nb cb, .slice si n ci] w fun e w'=>∃ v,e = .returned v∧Own8 w' w.heap.size v (packL bs ns)∧Below w.heap.size w w':=by
 have hlb:=hs.len
 have hln:=hi.len
 have HC:=Lib.hid (clone_all sa nb cb bs w hs hnb)
 have HI:=Lib.hid hi
 have HLB:=Lib.hid hlb
 have HLN:=Lib.hid hln
 clear hs hi hlb hln
 go_enter Tryd.func47, Tryd.ntmps47
 go_wp2_with (go_at_call 77; refine HC.out.mono ?_;rintro e w1 ⟨v1,rfl,ho1,hb1⟩;have HO1:=Lib.hid ho1;have HB1:=Lib.hid hb1;clear ho1 hb1)
 go_loopw [5,14] (fun v i wr=>∃ j:Nat,j≤n∧i = .int .i64 j∧Own8 wr w.heap.size v (packL bs (ns.take j))∧Below w.heap.size w wr) (fun _ i _=>n - (intOf i).toNat)
 case atStart=>exact ⟨0,Nat.zero_le _,rfl,by simpa [packL] using HO1.out,HB1.out⟩
 case round =>
  obtain ⟨j,hj,rfl,hO,hB⟩:=hrel
  by_cases hlt:j < n
  ·obtain ⟨a,rfl,hc⟩:=HI.out.cell j hlt
   have x0:=below_cell hB hc
   have HPS:=Lib.hid (packL_snoc bs ns j (by rw [HLN.out];exact hlt))
   have hTl:=packL_len bs (ns.take j)
   rw [HLB.out,List.length_take,HLN.out,Nat.min_eq_left hj] at hTl
   obtain ⟨T,hT⟩:∃ T,T=packL bs (ns.take j):=⟨_,rfl⟩
   rw [← hT] at hO hTl HPS
   have HTL:=Lib.hid hTl
   have HO:=Lib.hid hO
   have HB:=Lib.hid hB
   clear hT hTl hO hB hc
   generalize ns.getD j 0=x at x0 HPS
   obtain ⟨wo,rfl⟩:∃ wo:World,wo=wr:=⟨_,rfl⟩
   go_wp2_with fail
   go_loopw [5,9] (fun v i wr=>∃ j5:Nat,j5≤8∧i = .int .i64 (7 - (j5:Int))∧Own8 wr w.heap.size v (T ++ (be8 x).take j5)∧Below w.heap.size w wr) (fun _ i _=>(1+intOf i).toNat)
   case atStart=>exact ⟨0,Nat.zero_le _,rfl,by simpa using HO.out,HB.out⟩
   case round =>
    obtain ⟨j5,hj5,rfl,hO,hB⟩:=hrel
    by_cases hlt5:j5 < 8
    ·obtain ⟨va,vc,hv, -⟩:=hO.form
     have hml:(T ++ (be8 x).take j5).length=nb+8 * j+j5:=by rw [List.length_append,HTL.out,List.length_take,be8_len];omega
     rw [hml] at hv
     subst hv
     have HML:=Lib.hid hml
     have HO9:=Lib.hid hO
     have HB9:=Lib.hid hB
     have HBT:=Lib.hid (be8_take x j5 hlt5)
     have HUB:=Lib.hid (u64_byte x j5 hlt5)
     have e1:(8 * (7 - (j5:Int))).toNat=8 * (7 - j5):=by omega
     have e2:0≤8 * (7 - (j5:Int)):=by omega
     have e3:8 * (7 - (j5:Int))≤56:=by omega
     clear hO hB hml
     go_wp2_with ((with_reducible refine aS 31 ?_);refine wpList_app8 rfl (.tmp 24) (.tmp 30) rfl w.heap.size (.slice va (nb+8 * j+j5) vc) (T ++ (be8 x).take j5) rfl (HO9.out.alloc _) (some ⟨wr.heap.size,0,none⟩) 1 1 [x / 2 ^ (8 * (7 - j5)) % 256] rfl (by rw [← HUB.out];exact src_one wr _) (by rw [HML.out];omega) (Nat.le_trans HB9.out.size (by simp)) ?_;intro v6 w6 ho6 hg6 hn6 hb6;have HO6:=Lib.hid ho6;have HG6:=Lib.hid hg6;clear ho6 hg6 hn6 hb6)
     clear e1 e2 e3
     go_roundw
     case rel=>exact ⟨j5+1,by omega,by go_num,by rw [HBT.out,← List.append_assoc];exact HO6.out,app8_below (HO9.out.alloc _) HG6.out (HB9.out.alloc HB9.out.size _) (Nat.le_trans HB9.out.size (by simp))⟩
     case measure=>simp [intOf];omega
    ·have e8:(be8 x).take j5=be8 x:=List.take_of_length_le (by rw [be8_len];omega)
     rw [e8] at hO
     have HO9:=Lib.hid hO
     have HB9:=Lib.hid hB
     clear hO hB e8
     go_wp2_with fail
     go_roundw
     case rel=>exact ⟨j+1,by omega,by go_num,by rw [HPS.out];exact HO9.out,HB9.out⟩
     case measure=>simp [intOf];omega
  ·have ej:ns.take j=ns:=List.take_of_length_le (by rw [HLN.out];omega)
   rw [ej] at hO
   have HO:=Lib.hid hO
   have HB:=Lib.hid hB
   clear hO hB ej
   go_wp2_with fail
   (try simp only [Exit.inBlock,Exit.then])
   go_ret
   exact ⟨_,rfl,HO.out,HB.out⟩
end Go.Proofs.YtodnkallpfkdiaaDoor
namespace Go.Proofs.YtodnkallpfkdiaaDoor
open Go.RowKit
def sbytes (s:ByteArray):List Int:=s.data.toList.map fun b=>(b.toNat:Int)
theorem sbytes_len (s:ByteArray):(sbytes s).length=s.size:=by rw [sbytes,List.length_map,Array.length_toList];rfl
theorem bytes_sbytes (s:ByteArray):∀ x∈sbytes s,0≤x∧x≤255:=by
 intro x hx
 simp only [sbytes,List.mem_map] at hx
 obtain ⟨b,_,rfl⟩:=hx
 have:=b.toNat_lt
 omega
theorem strCells_sb (s:ByteArray):Lib.strCells s=(sbytes s).map (Value.int .u8):=by simp [Lib.strCells,sbytes]
theorem run_app8_str {w:World} {B:Nat} {v:Value} {xs:List Int} {s:ByteArray} {u ty:TypeId} (hu : Tryd.prog.underlying u=some .string) (hown:Own8 w B v xs) (hlen:xs.length+s.size≤140737488355328) (hbase:B≤w.heap.size) :
  ∃ v' w',(Builtin.append_ #[24, u] ty #[v, .string s]).run Tryd.prog w = .ok v' w'∧Own8 w' B v' (xs ++ sbytes s)∧w.grownBy w' v.ownBlock:=by
 obtain ⟨i0,hi,hz0,hz1,hz2⟩:=info_parts info_u8
 obtain ⟨v',w',hr,h1,h2, -⟩:=Lib.run_append_own_string (P := Tryd.prog) w B 24 u ty 5 i0 Tryd.underlying24 hu hi hz0 hz1 hz2 v xs.length (xs.map (Value.int .u8)) hown s (by simp only [maxLen];omega) hlen hbase
 refine ⟨v',w',hr,?_,h2⟩
 rw [strCells_sb,← List.map_append] at h1
 rwa [show xs.length+s.size=(xs ++ sbytes s).length by rw [List.length_append,sbytes_len]] at h1
theorem wp_app8_str {w:World} {o:Oper} {a:Act} {K:Act→World→Prop} {Q:Exit→Act→World→Prop} (s x:Operand) (u:TypeId) (hu : Tryd.prog.underlying u=some .string)
  (ho:o.op = .call { callee := .builtin .append,args := #[s,x],argTypes := #[24, u] })
  (B:Nat) (v:Value) (xs:List Int) (t:ByteArray) (hs:a.eval s=v) (hx:a.eval x = .string t) (hown:Own8 w B v xs)
  (hlen:xs.length+t.size≤140737488355328) (hbase:B≤w.heap.size)
  (h:∀ v' w',Own8 w' B v' (xs ++ sbytes t)→w.grownBy w' v.ownBlock→K (a.put o.dst v') w'):o.wp Tryd.prog a w K Q:=by
 obtain ⟨v',w',hr,h2,h3⟩:=run_app8_str (ty:=o.type) hu hown hlen hbase
 unfold Oper.wp execOp
 simp only [ho,resolve,invoke,builtin,Sem.run_bind,Sem.run_pure,Result.andThen_ok,List.map_toArray,List.map_cons,List.map_nil,hs,hx,hr]
 exact h v' w' h2 h3
theorem wpList_app8_str {w:World} {ops:Array Oper} {rest:List Oper} {o:Oper} {a:Act} {Q:Exit→Act→World→Prop} (hgd:o.guard=none) (s x:Operand) (u:TypeId) (hu : Tryd.prog.underlying u=some .string)
  (ho:o.op = .call { callee := .builtin .append,args := #[s,x],argTypes := #[24, u] })
  (B:Nat) (v:Value) (xs:List Int) (t:ByteArray) (hs:a.eval s=v) (hx:a.eval x = .string t) (hown:Own8 w B v xs)
  (hlen:xs.length+t.size≤140737488355328) (hbase:B≤w.heap.size)
  (h:∀ v' w',Own8 w' B v' (xs ++ sbytes t)→w.grownBy w' v.ownBlock→wpList Tryd.prog ops Q rest (a.put o.dst v') w'):wpList Tryd.prog ops Q (o :: rest) a w :=
 wpList_plain hgd fun _ hK=>wp_app8_str s x u hu ho B v xs t hs hx hown hlen hbase fun v' w' h2 h3=>hK _ _ (h v' w' h2 h3)
theorem step_app8_str {w:World} {ops:Array Oper} {o:Oper} {a:Act} {K:Act→World→Prop} {Q:Exit→Act→World→Prop} {E:Prop} (hgd:o.guard=none) (s x:Operand) (u:TypeId) (hu : Tryd.prog.underlying u=some .string)
  (ho:o.op = .call { callee := .builtin .append,args := #[s,x],argTypes := #[24, u] })
  (B:Nat) (v:Value) (xs:List Int) (t:ByteArray) (hs:a.eval s=v) (hx:a.eval x = .string t) (hown:Own8 w B v xs)
  (hlen:xs.length+t.size≤140737488355328) (hbase:B≤w.heap.size)
  (h:∀ v' w',Own8 w' B v' (xs ++ sbytes t)→w.grownBy w' v.ownBlock→K (a.put o.dst v') w') :
  if Region.wanted o (yielded ops a.tmps)=true then Oper.wp Tryd.prog o a w K Q else E:=by
 have hw:Region.wanted o (yielded ops a.tmps)=true:=by simp [Region.wanted,hgd]
 rw [if_pos hw]
 exact wp_app8_str s x u hu ho B v xs t hs hx hown hlen hbase h
theorem conv_str (s:ByteArray) (w:World):(convert 9 24 (.string s)).run Tryd.prog w = .ok (.slice (some ⟨w.heap.size,0,none⟩) s.size (grownCap w s.size 0 5)) (Lib.bytesWorld w 5 s) :=
 Lib.run_convert_string_bytes w 9 24 5 s Tryd.underlying9 Tryd.underlying24 Tryd.underlying5
theorem conv_str_below (w:World) (s:ByteArray):Below w.heap.size w (Lib.bytesWorld w 5 s) :=
 ⟨rfl,rfl,rfl,by rw [Lib.bytesWorld_size];omega,fun k hk=>Lib.bytesWorld_at_old w _ s k hk⟩
theorem conv_str_src (w:World) (s:ByteArray):Src (Lib.bytesWorld w 5 s) (some ⟨w.heap.size,0,none⟩) s.size (sbytes s):=by
 refine ⟨sbytes_len s,fun i hi=>⟨_,rfl,?_⟩⟩
 have e:(⟨w.heap.size,0,none⟩:Addr).add i=⟨w.heap.size,i,none⟩:=by unfold Addr.add;split <;> simp_all
 rw [e,Lib.bytesWorld_cell w _ s i hi]
 have hl:s.data[i]? = some s.data[i]:=Array.getElem?_eq_getElem hi
 simp [sbytes,List.getD,hl]
theorem conv_str_cap (w:World) (s:ByteArray):s.size≤grownCap w s.size 0 5 := grownCap_ge w s.size 0 _
section
variable {P:Program}
theorem step_store_part {ops:Array Oper} {o:Oper} {a:Act} {w:World} {K:Act→World→Prop} {Q:Exit→Act→World→Prop} {E:Prop} (hgd:o.guard=none) (ty:TypeId) (x y:Operand) (ho:o.op = .store ty x y)
  (g off:Nat) (cs ds:Array Value) (t:TypeId) (hb:w.heap[g]? = some (.cells cs t (0,0))) (hx:a.eval x = .pointer (some ⟨g,off,none⟩)) (hy:a.eval y = .agg ds)
  (hs:off+ds.size≤cs.size) (hi:(P.info? ty).map (·.size)=some ds.size) (h1:ds.all (·.oneCell')=true)
  (h:∀ w',w'.heap[g]? = some (.cells (cs.toList.take off ++ ds.toList ++ cs.toList.drop (off+ds.size)).toArray t (0,0))→Kept (fun i=>i=g) w w'→w'.heap.size=w.heap.size→K (a.put o.dst undef) w') :
  if Region.wanted o (yielded ops a.tmps)=true then Oper.wp P o a w K Q else E:=by
 have hw:Region.wanted o (yielded ops a.tmps)=true:=by simp [Region.wanted,hgd]
 rw [if_pos hw]
 refine wp_store_mid ty x y ho g off ds hx hy (fun j hj=>?_) hi h1 (h _ ?_ ?_ ?_)
 ·rw [cell_blk hb]
  exact ⟨by rw [Array.getElem?_eq_getElem (by omega)];rfl,free_blk hb _⟩
 ·rw [blk_setCells _ _ _ _ _ _ _ hb (by simpa using hs)]
  simp
 ·exact kept_setCells g _ _ _ (Kept.refl _ _) (.inl rfl)
 ·have:∀ (vs:List Value) (o:Nat) (w:World),(w.setCells g o vs).heap.size=w.heap.size:=by
   intro vs
   induction vs with
   | nil=>intro o w;rfl
   | cons v vs ih=>intro o w;rw [World.setCells,ih];simp [World.setCell]
  exact this _ _ _
end
end Go.Proofs.YtodnkallpfkdiaaDoor
namespace Go.Proofs.YtodnkallpfkdiaaDoor
open Go.RowKit
theorem join_any (sa:Option Addr) (n c:Nat) (L:List (List Int)) (w:World) (hs:SrcL w sa n L) (hN:L.flatten.length≤1099511627776) (hn:n≤1099511627776) :
  Calls Tryd.prog 134 #[.slice sa n c] w fun e w'=>∃ v,e = .returned v∧Own8 w' w.heap.size v L.flatten∧Below w.heap.size w w':=by
 have hl:=hs.len
 have HS:=Lib.hid hs
 have HL:=Lib.hid hl
 clear hs hl
 go_enter Tryd.func134, Tryd.ntmps134
 go_wp2_with fail
 go_loopw [3,4] (fun v i wr=>∃ j:Nat,j≤n∧i = .int .i64 j∧Own8 wr w.heap.size v (L.take j).flatten∧Below w.heap.size w wr) (fun _ i _=>n - (intOf i).toNat)
 case atStart=>exact ⟨0,Nat.zero_le _,rfl,Own8.nil _ _,Below.refl _ _⟩
 case round =>
  obtain ⟨j,hj,rfl,hO,hB⟩:=hrel
  by_cases hlt:j < n
  ·obtain ⟨a,si,ci,rfl,hc,hci,hsi⟩:=HS.out.cell j hlt
   have x0:=below_cell hB hc
   have hsi':=hsi.below hB
   have hfl:=flat_le L j (by rw [HL.out];exact hlt)
   have HFS:=Lib.hid (flat_snoc L j (by rw [HL.out];exact hlt))
   obtain ⟨va,vc,hv, -⟩:=hO.form
   obtain ⟨T,hT⟩:∃ T,T=(L.take j).flatten:=⟨_,rfl⟩
   obtain ⟨l,hlj⟩:∃ l,l=L.getD j []:=⟨_,rfl⟩
   rw [← hlj] at x0 hci hsi' hfl HFS
   rw [← hT] at hO hv hfl HFS
   subst hv
   obtain ⟨m,hm⟩:∃ m,m=l.length:=⟨_,rfl⟩
   obtain ⟨t,ht⟩:∃ t,t=T.length:=⟨_,rfl⟩
   rw [← hm] at x0 hci hsi' hfl
   rw [← ht] at hO hfl ⊢
   have HTL:=Lib.hid ht.symm
   have HO:=Lib.hid hO
   have HSI:=Lib.hid hsi'
   have HB:=Lib.hid hB
   clear hO hsi hsi' hB hc hT hlj hm ht
   go_wp2_with ((with_reducible refine aS 16 ?_);refine wpList_app8 rfl (.tmp 11) (.tmp 15) rfl w.heap.size (.slice va t vc) T rfl HO.out si m ci l rfl HSI.out (by rw [HTL.out];omega) HB.out.size ?_;intro v6 w6 ho6 hg6 hn6 hb6;have HO6:=Lib.hid ho6;have HG6:=Lib.hid hg6;clear ho6 hg6 hn6 hb6)
   go_roundw
   case rel=>exact ⟨j+1,by omega,by go_num,by rw [HFS.out];exact HO6.out,app8_below HO.out HG6.out HB.out HB.out.size⟩
   case measure=>simp [intOf];omega
  ·have ej:L.take j=L:=List.take_of_length_le (by rw [HL.out];omega)
   rw [ej] at hO
   have HO:=Lib.hid hO
   have HB:=Lib.hid hB
   clear hO hB ej
   go_wp2_with fail
   (try simp only [Exit.inBlock,Exit.then])
   go_ret
   exact ⟨_,rfl,HO.out,HB.out⟩
end Go.Proofs.YtodnkallpfkdiaaDoor
