/- The document's cursor's End, ReadStop: what they answer. Condition: the bytes lie there. -/
import Derived.Test.YtodnkallpfkdiaaDoorCeJ
import Derived.Test.YtodnkallpfkdiaaDoorCdA
import Derived.Test.YtodnkallpfkdiaaDoorRkB
import Derived.Test.YtodnkallpfkdiaaDoorCpc
import Derived.Test.YtodnkallpfkdiaaDoorMy
set_option maxRecDepth 100000
set_option maxHeartbeats 16000000
set_option linter.unusedSimpArgs false
set_option linter.unusedVariables false
namespace Go.Proofs.YtodnkallpfkdiaaDoor.Bk
open Go.RowKit
theorem dend_cells (p:Nat) (sa:Option Addr) (n c k:Nat) (bad:Bool) (w:World) (h1:w.heap[p]? = some (.cells #[.slice sa n c, .int .i64 (k:Int), .bool bad] 108 (0,0))) :
  Calls Tryd.prog 68 #[.pointer (some ⟨p,0,none⟩)] w fun e w'=>e = .returned (.bool (!bad && decide (k=n)))∧Below w.heap.size w w':=by
 have c0:w.cell? ⟨p,0,none⟩=some (.slice sa n c):=cell_blk h1 0
 have c1:w.cell? ⟨p,1,none⟩=some (.int .i64 (k:Int)):=cell_blk h1 1
 have c2:w.cell? ⟨p,2,none⟩=some (.bool bad):=cell_blk h1 2
 clear h1
 cases bad with
 | true =>
  go_enter Tryd.func68, Tryd.ntmps68
  go_upto_region 1 with fail
  refine wp_region_held_drew (S:=fun u=>u.cell? ⟨p,0,none⟩=some (.slice sa n c)∧u.cell? ⟨p,1,none⟩=some (.int .i64 (k:Int))∧u.cell? ⟨p,2,none⟩=some (.bool true)) (by kernel_rfl) (⟨c0,c1,c2⟩) (fun hHeld=>?_)
  refine wpAnyH_take (i:=0) (oi:=(⟨some 3,_,_,_,_,none⟩:Oper)) (v := .pointer (some ⟨p,0,none⟩)) rfl (by kernel_rfl) (by kernel_rfl) (by kernel_rfl) (fun _ _ _ h=>h) (Or.inl ⟨by rfl,?hy101⟩) (by assumption) ?rest101
  case hy101=>(intro u hSu;(try dsimp only at hSu);go_simp;try (with_reducible rfl))
  (try simp only [Act.put,sA,sZ,sS])
  refine wpAnyH_take (i:=1) (oi:=(⟨some 4,_,_,_,_,none⟩:Oper)) (v := .pointer (some ⟨p,0,none⟩)) rfl (by kernel_rfl) (by kernel_rfl) (by kernel_rfl) (fun _ _ _ h=>h) (Or.inl ⟨by rfl,?hy102⟩) (by assumption) ?rest102
  case hy102=>(intro u hSu;(try dsimp only at hSu);go_simp;try (with_reducible rfl))
  (try simp only [Act.put,sA,sZ,sS])
  refine wpAnyH_take (i:=2) (oi:=(⟨some 5,_,_,_,_,none⟩:Oper)) (v := .pointer (some ⟨p,2,none⟩)) rfl (by kernel_rfl) (by kernel_rfl) (by kernel_rfl) (fun _ _ _ h=>h) (Or.inl ⟨by rfl,?hy103⟩) (by assumption) ?rest103
  case hy103=>(intro u hSu;(try dsimp only at hSu);go_simp;try (with_reducible rfl))
  (try simp only [Act.put,sA,sZ,sS])
  refine wpAnyH_take (i:=3) (oi:=(⟨some 6,_,_,_,_,none⟩:Oper)) (v := .bool true) rfl (by kernel_rfl) (by kernel_rfl) (by kernel_rfl) (fun _ _ _ h=>h) (Or.inl ⟨by rfl,?hy104⟩) (by assumption) ?rest104
  case hy104=>(intro u hSu;(try dsimp only at hSu);obtain ⟨k0,k1,k2⟩:=hSu;go_simp;try (with_reducible rfl))
  (try simp only [Act.put,sA,sZ,sS])
  refine wpAnyH_take (i:=4) (oi:=(⟨some 7,_,_,_,_,none⟩:Oper)) (v := .bool false) rfl (by kernel_rfl) (by kernel_rfl) (by kernel_rfl) (fun _ _ _ h=>h) (Or.inl ⟨by rfl,?hy105⟩) (by assumption) ?rest105
  case hy105=>(intro u hSu;(try dsimp only at hSu);go_simp;try (with_reducible rfl))
  (try simp only [Act.put,sA,sZ,sS])
  refine wpAnyH_take (i:=5) (oi:=(⟨some 8,_,_,_,_,none⟩:Oper)) (v := .bool false) rfl (by kernel_rfl) (by kernel_rfl) (by kernel_rfl) (fun _ _ _ h=>h) (Or.inl ⟨by rfl,?hy106⟩) (by assumption) ?rest106
  case hy106=>(intro u hSu;(try dsimp only at hSu);go_simp;try (with_reducible rfl))
  (try simp only [Act.put,sA,sZ,sS])
  refine wpAnyH_take (i:=6) (oi:=(⟨some 9,_,_,_,_,_⟩:Oper)) (v:=undef) rfl (by kernel_rfl) (by kernel_rfl) (by kernel_rfl) (fun _ _ _ h=>h) (Or.inr ⟨by rfl,rfl⟩) (by assumption) ?_
  (try simp only [Act.put,sA,sZ,sS])
  refine wpAnyH_take (i:=7) (oi:=(⟨some 10,_,_,_,_,_⟩:Oper)) (v:=undef) rfl (by kernel_rfl) (by kernel_rfl) (by kernel_rfl) (fun _ _ _ h=>h) (Or.inr ⟨by rfl,rfl⟩) (by assumption) ?_
  (try simp only [Act.put,sA,sZ,sS])
  refine wpAnyH_take (i:=8) (oi:=(⟨some 11,_,_,_,_,_⟩:Oper)) (v:=undef) rfl (by kernel_rfl) (by kernel_rfl) (by kernel_rfl) (fun _ _ _ h=>h) (Or.inr ⟨by rfl,rfl⟩) (by assumption) ?_
  (try simp only [Act.put,sA,sZ,sS])
  refine wpAnyH_take (i:=9) (oi:=(⟨some 12,_,_,_,_,_⟩:Oper)) (v:=undef) rfl (by kernel_rfl) (by kernel_rfl) (by kernel_rfl) (fun _ _ _ h=>h) (Or.inr ⟨by rfl,rfl⟩) (by assumption) ?_
  (try simp only [Act.put,sA,sZ,sS])
  refine wpAnyH_take (i:=10) (oi:=(⟨some 13,_,_,_,_,_⟩:Oper)) (v:=undef) rfl (by kernel_rfl) (by kernel_rfl) (by kernel_rfl) (fun _ _ _ h=>h) (Or.inr ⟨by rfl,rfl⟩) (by assumption) ?_
  (try simp only [Act.put,sA,sZ,sS])
  refine wpAnyH_take (i:=11) (oi:=(⟨some 14,_,_,_,_,_⟩:Oper)) (v:=undef) rfl (by kernel_rfl) (by kernel_rfl) (by kernel_rfl) (fun _ _ _ h=>h) (Or.inr ⟨by rfl,rfl⟩) (by assumption) ?_
  (try simp only [Act.put,sA,sZ,sS])
  refine wpAnyH_take (i:=12) (oi:=(⟨some 15,_,_,_,_,_⟩:Oper)) (v:=undef) rfl (by kernel_rfl) (by kernel_rfl) (by kernel_rfl) (fun _ _ _ h=>h) (Or.inr ⟨by rfl,rfl⟩) (by assumption) ?_
  (try simp only [Act.put,sA,sZ,sS])
  refine wpAnyH_take (i:=13) (oi:=(⟨some 16,_,_,_,_,_⟩:Oper)) (v:=undef) rfl (by kernel_rfl) (by kernel_rfl) (by kernel_rfl) (fun _ _ _ h=>h) (Or.inr ⟨by rfl,rfl⟩) (by assumption) ?_
  (try simp only [Act.put,sA,sZ,sS])
  refine wpAnyH_take (i:=14) (oi:=(⟨some 17,_,_,_,_,_⟩:Oper)) (v:=undef) rfl (by kernel_rfl) (by kernel_rfl) (by kernel_rfl) (fun _ _ _ h=>h) (Or.inr ⟨by rfl,rfl⟩) (by assumption) ?_
  (try simp only [Act.put,sA,sZ,sS])
  refine wpAnyH_take (i:=15) (oi:=(⟨some 18,_,_,_,_,_⟩:Oper)) (v:=undef) rfl (by kernel_rfl) (by kernel_rfl) (by kernel_rfl) (fun _ _ _ h=>h) (Or.inr ⟨by rfl,rfl⟩) (by assumption) ?_
  (try simp only [Act.put,sA,sZ,sS])
  refine wpAnyH_take (i:=16) (oi:=(⟨some 19,_,_,_,_,none⟩:Oper)) (v := .bool false) rfl (by kernel_rfl) (by kernel_rfl) (by kernel_rfl) (fun _ _ _ h=>h) (Or.inl ⟨by rfl,?hy107⟩) (by assumption) ?rest107
  case hy107=>(intro u hSu;(try dsimp only at hSu);go_simp;try (with_reducible rfl))
  (try simp only [Act.put,sA,sZ,sS])
  refine wpAnyH_take (i:=17) (oi:=(⟨some 2,_,_,_,_,none⟩:Oper)) (v := .bool false) rfl (by kernel_rfl) (by kernel_rfl) (by kernel_rfl) (fun _ _ _ h=>h) (Or.inl ⟨by rfl,?hy108⟩) (by assumption) ?rest108
  case hy108=>(intro u hSu;(try dsimp only at hSu);go_simp;try (with_reducible rfl))
  (try simp only [Act.put,sA,sZ,sS])
  refine wpAnyH_done (by kernel_rfl) ?_ _
  (try simp only [Exit.then])
  go_wp2_with fail
  go_ret
  exact ⟨rfl,(Below.refl _ w).drew⟩
 | false =>
  by_cases hkn:k=n
  ·rw [decide_eq_true hkn]
   have hz:((k:Int) == (n:Int))=true:=by rw [hkn];exact beq_self_eq_true _
   clear hkn
   go_enter Tryd.func68, Tryd.ntmps68
   go_upto_region 1 with fail
   refine wp_region_held_drew (S:=fun u=>u.cell? ⟨p,0,none⟩=some (.slice sa n c)∧u.cell? ⟨p,1,none⟩=some (.int .i64 (k:Int))∧u.cell? ⟨p,2,none⟩=some (.bool false)) (by kernel_rfl) (⟨c0,c1,c2⟩) (fun hHeld=>?_)
   refine wpAnyH_take (i:=0) (oi:=(⟨some 3,_,_,_,_,none⟩:Oper)) (v := .pointer (some ⟨p,0,none⟩)) rfl (by kernel_rfl) (by kernel_rfl) (by kernel_rfl) (fun _ _ _ h=>h) (Or.inl ⟨by rfl,?hy109⟩) (by assumption) ?rest109
   case hy109=>(intro u hSu;(try dsimp only at hSu);go_simp;try (with_reducible rfl))
   (try simp only [Act.put,sA,sZ,sS])
   refine wpAnyH_take (i:=1) (oi:=(⟨some 4,_,_,_,_,none⟩:Oper)) (v := .pointer (some ⟨p,0,none⟩)) rfl (by kernel_rfl) (by kernel_rfl) (by kernel_rfl) (fun _ _ _ h=>h) (Or.inl ⟨by rfl,?hy110⟩) (by assumption) ?rest110
   case hy110=>(intro u hSu;(try dsimp only at hSu);go_simp;try (with_reducible rfl))
   (try simp only [Act.put,sA,sZ,sS])
   refine wpAnyH_take (i:=2) (oi:=(⟨some 5,_,_,_,_,none⟩:Oper)) (v := .pointer (some ⟨p,2,none⟩)) rfl (by kernel_rfl) (by kernel_rfl) (by kernel_rfl) (fun _ _ _ h=>h) (Or.inl ⟨by rfl,?hy111⟩) (by assumption) ?rest111
   case hy111=>(intro u hSu;(try dsimp only at hSu);go_simp;try (with_reducible rfl))
   (try simp only [Act.put,sA,sZ,sS])
   refine wpAnyH_take (i:=3) (oi:=(⟨some 6,_,_,_,_,none⟩:Oper)) (v := .bool false) rfl (by kernel_rfl) (by kernel_rfl) (by kernel_rfl) (fun _ _ _ h=>h) (Or.inl ⟨by rfl,?hy112⟩) (by assumption) ?rest112
   case hy112=>(intro u hSu;(try dsimp only at hSu);obtain ⟨k0,k1,k2⟩:=hSu;go_simp;try (with_reducible rfl))
   (try simp only [Act.put,sA,sZ,sS])
   refine wpAnyH_take (i:=4) (oi:=(⟨some 7,_,_,_,_,none⟩:Oper)) (v := .bool true) rfl (by kernel_rfl) (by kernel_rfl) (by kernel_rfl) (fun _ _ _ h=>h) (Or.inl ⟨by rfl,?hy113⟩) (by assumption) ?rest113
   case hy113=>(intro u hSu;(try dsimp only at hSu);go_simp;try (with_reducible rfl))
   (try simp only [Act.put,sA,sZ,sS])
   refine wpAnyH_take (i:=5) (oi:=(⟨some 8,_,_,_,_,none⟩:Oper)) (v := .bool true) rfl (by kernel_rfl) (by kernel_rfl) (by kernel_rfl) (fun _ _ _ h=>h) (Or.inl ⟨by rfl,?hy114⟩) (by assumption) ?rest114
   case hy114=>(intro u hSu;(try dsimp only at hSu);go_simp;try (with_reducible rfl))
   (try simp only [Act.put,sA,sZ,sS])
   refine wpAnyH_take (i:=6) (oi:=(⟨some 9,_,_,_,_,_⟩:Oper)) (v := .pointer (some ⟨p,0,none⟩)) rfl (by kernel_rfl) (by kernel_rfl) (by kernel_rfl) (fun _ _ _ h=>h) (Or.inl ⟨by rfl,?hy115⟩) (by assumption) ?rest115
   case hy115=>(intro u hSu;(try dsimp only at hSu);go_simp;try (with_reducible rfl))
   (try simp only [Act.put,sA,sZ,sS])
   refine wpAnyH_take (i:=7) (oi:=(⟨some 10,_,_,_,_,_⟩:Oper)) (v := .pointer (some ⟨p,0,none⟩)) rfl (by kernel_rfl) (by kernel_rfl) (by kernel_rfl) (fun _ _ _ h=>h) (Or.inl ⟨by rfl,?hy116⟩) (by assumption) ?rest116
   case hy116=>(intro u hSu;(try dsimp only at hSu);go_simp;try (with_reducible rfl))
   (try simp only [Act.put,sA,sZ,sS])
   refine wpAnyH_take (i:=8) (oi:=(⟨some 11,_,_,_,_,_⟩:Oper)) (v := .pointer (some ⟨p,1,none⟩)) rfl (by kernel_rfl) (by kernel_rfl) (by kernel_rfl) (fun _ _ _ h=>h) (Or.inl ⟨by rfl,?hy117⟩) (by assumption) ?rest117
   case hy117=>(intro u hSu;(try dsimp only at hSu);go_simp;try (with_reducible rfl))
   (try simp only [Act.put,sA,sZ,sS])
   refine wpAnyH_take (i:=9) (oi:=(⟨some 12,_,_,_,_,_⟩:Oper)) (v := .int .i64 (k:Int)) rfl (by kernel_rfl) (by kernel_rfl) (by kernel_rfl) (fun _ _ _ h=>h) (Or.inl ⟨by rfl,?hy118⟩) (by assumption) ?rest118
   case hy118=>(intro u hSu;(try dsimp only at hSu);obtain ⟨k0,k1,k2⟩:=hSu;go_simp;try (with_reducible rfl))
   (try simp only [Act.put,sA,sZ,sS])
   refine wpAnyH_take (i:=10) (oi:=(⟨some 13,_,_,_,_,_⟩:Oper)) (v := .pointer (some ⟨p,0,none⟩)) rfl (by kernel_rfl) (by kernel_rfl) (by kernel_rfl) (fun _ _ _ h=>h) (Or.inl ⟨by rfl,?hy119⟩) (by assumption) ?rest119
   case hy119=>(intro u hSu;(try dsimp only at hSu);go_simp;try (with_reducible rfl))
   (try simp only [Act.put,sA,sZ,sS])
   refine wpAnyH_take (i:=11) (oi:=(⟨some 14,_,_,_,_,_⟩:Oper)) (v := .pointer (some ⟨p,0,none⟩)) rfl (by kernel_rfl) (by kernel_rfl) (by kernel_rfl) (fun _ _ _ h=>h) (Or.inl ⟨by rfl,?hy120⟩) (by assumption) ?rest120
   case hy120=>(intro u hSu;(try dsimp only at hSu);go_simp;try (with_reducible rfl))
   (try simp only [Act.put,sA,sZ,sS])
   refine wpAnyH_take (i:=12) (oi:=(⟨some 15,_,_,_,_,_⟩:Oper)) (v := .pointer (some ⟨p,0,none⟩)) rfl (by kernel_rfl) (by kernel_rfl) (by kernel_rfl) (fun _ _ _ h=>h) (Or.inl ⟨by rfl,?hy121⟩) (by assumption) ?rest121
   case hy121=>(intro u hSu;(try dsimp only at hSu);go_simp;try (with_reducible rfl))
   (try simp only [Act.put,sA,sZ,sS])
   refine wpAnyH_take (i:=13) (oi:=(⟨some 16,_,_,_,_,_⟩:Oper)) (v := .slice sa n c) rfl (by kernel_rfl) (by kernel_rfl) (by kernel_rfl) (fun _ _ _ h=>h) (Or.inl ⟨by rfl,?hy122⟩) (by assumption) ?rest122
   case hy122=>(intro u hSu;(try dsimp only at hSu);obtain ⟨k0,k1,k2⟩:=hSu;go_simp;try (with_reducible rfl))
   (try simp only [Act.put,sA,sZ,sS])
   refine wpAnyH_take (i:=14) (oi:=(⟨some 17,_,_,_,_,_⟩:Oper)) (v := .int .i64 (n:Int)) rfl (by kernel_rfl) (by kernel_rfl) (by kernel_rfl) (fun _ _ _ h=>h) (Or.inl ⟨by rfl,?hy123⟩) (by assumption) ?rest123
   case hy123=>(intro u hSu;(try dsimp only at hSu);go_simp;try (with_reducible rfl))
   (try simp only [Act.put,sA,sZ,sS])
   refine wpAnyH_take (i:=15) (oi:=(⟨some 18,_,_,_,_,_⟩:Oper)) (v := .bool true) rfl (by kernel_rfl) (by kernel_rfl) (by kernel_rfl) (fun _ _ _ h=>h) (Or.inl ⟨by rfl,?hy124⟩) (by assumption) ?rest124
   case hy124=>(intro u hSu;(try dsimp only at hSu);go_simp;(try rw [hz]);try (with_reducible rfl))
   (try simp only [Act.put,sA,sZ,sS])
   refine wpAnyH_take (i:=16) (oi:=(⟨some 19,_,_,_,_,none⟩:Oper)) (v := .bool true) rfl (by kernel_rfl) (by kernel_rfl) (by kernel_rfl) (fun _ _ _ h=>h) (Or.inl ⟨by rfl,?hy125⟩) (by assumption) ?rest125
   case hy125=>(intro u hSu;(try dsimp only at hSu);go_simp;try (with_reducible rfl))
   (try simp only [Act.put,sA,sZ,sS])
   refine wpAnyH_take (i:=17) (oi:=(⟨some 2,_,_,_,_,none⟩:Oper)) (v := .bool true) rfl (by kernel_rfl) (by kernel_rfl) (by kernel_rfl) (fun _ _ _ h=>h) (Or.inl ⟨by rfl,?hy126⟩) (by assumption) ?rest126
   case hy126=>(intro u hSu;(try dsimp only at hSu);go_simp;try (with_reducible rfl))
   (try simp only [Act.put,sA,sZ,sS])
   refine wpAnyH_done (by kernel_rfl) ?_ _
   (try simp only [Exit.then])
   go_wp2_with fail
   go_ret
   exact ⟨rfl,(Below.refl _ w).drew⟩
  ·rw [decide_eq_false hkn]
   have hz:((k:Int) == (n:Int))=false:=by rw [beq_eq_false_iff_ne];omega
   clear hkn
   go_enter Tryd.func68, Tryd.ntmps68
   go_upto_region 1 with fail
   refine wp_region_held_drew (S:=fun u=>u.cell? ⟨p,0,none⟩=some (.slice sa n c)∧u.cell? ⟨p,1,none⟩=some (.int .i64 (k:Int))∧u.cell? ⟨p,2,none⟩=some (.bool false)) (by kernel_rfl) (⟨c0,c1,c2⟩) (fun hHeld=>?_)
   refine wpAnyH_take (i:=0) (oi:=(⟨some 3,_,_,_,_,none⟩:Oper)) (v := .pointer (some ⟨p,0,none⟩)) rfl (by kernel_rfl) (by kernel_rfl) (by kernel_rfl) (fun _ _ _ h=>h) (Or.inl ⟨by rfl,?hy127⟩) (by assumption) ?rest127
   case hy127=>(intro u hSu;(try dsimp only at hSu);go_simp;try (with_reducible rfl))
   (try simp only [Act.put,sA,sZ,sS])
   refine wpAnyH_take (i:=1) (oi:=(⟨some 4,_,_,_,_,none⟩:Oper)) (v := .pointer (some ⟨p,0,none⟩)) rfl (by kernel_rfl) (by kernel_rfl) (by kernel_rfl) (fun _ _ _ h=>h) (Or.inl ⟨by rfl,?hy128⟩) (by assumption) ?rest128
   case hy128=>(intro u hSu;(try dsimp only at hSu);go_simp;try (with_reducible rfl))
   (try simp only [Act.put,sA,sZ,sS])
   refine wpAnyH_take (i:=2) (oi:=(⟨some 5,_,_,_,_,none⟩:Oper)) (v := .pointer (some ⟨p,2,none⟩)) rfl (by kernel_rfl) (by kernel_rfl) (by kernel_rfl) (fun _ _ _ h=>h) (Or.inl ⟨by rfl,?hy129⟩) (by assumption) ?rest129
   case hy129=>(intro u hSu;(try dsimp only at hSu);go_simp;try (with_reducible rfl))
   (try simp only [Act.put,sA,sZ,sS])
   refine wpAnyH_take (i:=3) (oi:=(⟨some 6,_,_,_,_,none⟩:Oper)) (v := .bool false) rfl (by kernel_rfl) (by kernel_rfl) (by kernel_rfl) (fun _ _ _ h=>h) (Or.inl ⟨by rfl,?hy130⟩) (by assumption) ?rest130
   case hy130=>(intro u hSu;(try dsimp only at hSu);obtain ⟨k0,k1,k2⟩:=hSu;go_simp;try (with_reducible rfl))
   (try simp only [Act.put,sA,sZ,sS])
   refine wpAnyH_take (i:=4) (oi:=(⟨some 7,_,_,_,_,none⟩:Oper)) (v := .bool true) rfl (by kernel_rfl) (by kernel_rfl) (by kernel_rfl) (fun _ _ _ h=>h) (Or.inl ⟨by rfl,?hy131⟩) (by assumption) ?rest131
   case hy131=>(intro u hSu;(try dsimp only at hSu);go_simp;try (with_reducible rfl))
   (try simp only [Act.put,sA,sZ,sS])
   refine wpAnyH_take (i:=5) (oi:=(⟨some 8,_,_,_,_,none⟩:Oper)) (v := .bool true) rfl (by kernel_rfl) (by kernel_rfl) (by kernel_rfl) (fun _ _ _ h=>h) (Or.inl ⟨by rfl,?hy132⟩) (by assumption) ?rest132
   case hy132=>(intro u hSu;(try dsimp only at hSu);go_simp;try (with_reducible rfl))
   (try simp only [Act.put,sA,sZ,sS])
   refine wpAnyH_take (i:=6) (oi:=(⟨some 9,_,_,_,_,_⟩:Oper)) (v := .pointer (some ⟨p,0,none⟩)) rfl (by kernel_rfl) (by kernel_rfl) (by kernel_rfl) (fun _ _ _ h=>h) (Or.inl ⟨by rfl,?hy133⟩) (by assumption) ?rest133
   case hy133=>(intro u hSu;(try dsimp only at hSu);go_simp;try (with_reducible rfl))
   (try simp only [Act.put,sA,sZ,sS])
   refine wpAnyH_take (i:=7) (oi:=(⟨some 10,_,_,_,_,_⟩:Oper)) (v := .pointer (some ⟨p,0,none⟩)) rfl (by kernel_rfl) (by kernel_rfl) (by kernel_rfl) (fun _ _ _ h=>h) (Or.inl ⟨by rfl,?hy134⟩) (by assumption) ?rest134
   case hy134=>(intro u hSu;(try dsimp only at hSu);go_simp;try (with_reducible rfl))
   (try simp only [Act.put,sA,sZ,sS])
   refine wpAnyH_take (i:=8) (oi:=(⟨some 11,_,_,_,_,_⟩:Oper)) (v := .pointer (some ⟨p,1,none⟩)) rfl (by kernel_rfl) (by kernel_rfl) (by kernel_rfl) (fun _ _ _ h=>h) (Or.inl ⟨by rfl,?hy135⟩) (by assumption) ?rest135
   case hy135=>(intro u hSu;(try dsimp only at hSu);go_simp;try (with_reducible rfl))
   (try simp only [Act.put,sA,sZ,sS])
   refine wpAnyH_take (i:=9) (oi:=(⟨some 12,_,_,_,_,_⟩:Oper)) (v := .int .i64 (k:Int)) rfl (by kernel_rfl) (by kernel_rfl) (by kernel_rfl) (fun _ _ _ h=>h) (Or.inl ⟨by rfl,?hy136⟩) (by assumption) ?rest136
   case hy136=>(intro u hSu;(try dsimp only at hSu);obtain ⟨k0,k1,k2⟩:=hSu;go_simp;try (with_reducible rfl))
   (try simp only [Act.put,sA,sZ,sS])
   refine wpAnyH_take (i:=10) (oi:=(⟨some 13,_,_,_,_,_⟩:Oper)) (v := .pointer (some ⟨p,0,none⟩)) rfl (by kernel_rfl) (by kernel_rfl) (by kernel_rfl) (fun _ _ _ h=>h) (Or.inl ⟨by rfl,?hy137⟩) (by assumption) ?rest137
   case hy137=>(intro u hSu;(try dsimp only at hSu);go_simp;try (with_reducible rfl))
   (try simp only [Act.put,sA,sZ,sS])
   refine wpAnyH_take (i:=11) (oi:=(⟨some 14,_,_,_,_,_⟩:Oper)) (v := .pointer (some ⟨p,0,none⟩)) rfl (by kernel_rfl) (by kernel_rfl) (by kernel_rfl) (fun _ _ _ h=>h) (Or.inl ⟨by rfl,?hy138⟩) (by assumption) ?rest138
   case hy138=>(intro u hSu;(try dsimp only at hSu);go_simp;try (with_reducible rfl))
   (try simp only [Act.put,sA,sZ,sS])
   refine wpAnyH_take (i:=12) (oi:=(⟨some 15,_,_,_,_,_⟩:Oper)) (v := .pointer (some ⟨p,0,none⟩)) rfl (by kernel_rfl) (by kernel_rfl) (by kernel_rfl) (fun _ _ _ h=>h) (Or.inl ⟨by rfl,?hy139⟩) (by assumption) ?rest139
   case hy139=>(intro u hSu;(try dsimp only at hSu);go_simp;try (with_reducible rfl))
   (try simp only [Act.put,sA,sZ,sS])
   refine wpAnyH_take (i:=13) (oi:=(⟨some 16,_,_,_,_,_⟩:Oper)) (v := .slice sa n c) rfl (by kernel_rfl) (by kernel_rfl) (by kernel_rfl) (fun _ _ _ h=>h) (Or.inl ⟨by rfl,?hy140⟩) (by assumption) ?rest140
   case hy140=>(intro u hSu;(try dsimp only at hSu);obtain ⟨k0,k1,k2⟩:=hSu;go_simp;try (with_reducible rfl))
   (try simp only [Act.put,sA,sZ,sS])
   refine wpAnyH_take (i:=14) (oi:=(⟨some 17,_,_,_,_,_⟩:Oper)) (v := .int .i64 (n:Int)) rfl (by kernel_rfl) (by kernel_rfl) (by kernel_rfl) (fun _ _ _ h=>h) (Or.inl ⟨by rfl,?hy141⟩) (by assumption) ?rest141
   case hy141=>(intro u hSu;(try dsimp only at hSu);go_simp;try (with_reducible rfl))
   (try simp only [Act.put,sA,sZ,sS])
   refine wpAnyH_take (i:=15) (oi:=(⟨some 18,_,_,_,_,_⟩:Oper)) (v := .bool false) rfl (by kernel_rfl) (by kernel_rfl) (by kernel_rfl) (fun _ _ _ h=>h) (Or.inl ⟨by rfl,?hy142⟩) (by assumption) ?rest142
   case hy142=>(intro u hSu;(try dsimp only at hSu);go_simp;(try rw [hz]);try (with_reducible rfl))
   (try simp only [Act.put,sA,sZ,sS])
   refine wpAnyH_take (i:=16) (oi:=(⟨some 19,_,_,_,_,none⟩:Oper)) (v := .bool false) rfl (by kernel_rfl) (by kernel_rfl) (by kernel_rfl) (fun _ _ _ h=>h) (Or.inl ⟨by rfl,?hy143⟩) (by assumption) ?rest143
   case hy143=>(intro u hSu;(try dsimp only at hSu);go_simp;try (with_reducible rfl))
   (try simp only [Act.put,sA,sZ,sS])
   refine wpAnyH_take (i:=17) (oi:=(⟨some 2,_,_,_,_,none⟩:Oper)) (v := .bool false) rfl (by kernel_rfl) (by kernel_rfl) (by kernel_rfl) (fun _ _ _ h=>h) (Or.inl ⟨by rfl,?hy144⟩) (by assumption) ?rest144
   case hy144=>(intro u hSu;(try dsimp only at hSu);go_simp;try (with_reducible rfl))
   (try simp only [Act.put,sA,sZ,sS])
   refine wpAnyH_done (by kernel_rfl) ?_ _
   (try simp only [Exit.then])
   go_wp2_with fail
   go_ret
   exact ⟨rfl,(Below.refl _ w).drew⟩
theorem dend_any (p g off c:Nat) (xs:List Int) (k:Nat) (bad:Bool) (w:World) (h:IsDc w p g off c xs k bad) :
  Calls Tryd.prog 68 #[.pointer (some ⟨p,0,none⟩)] w fun e w'=>e = .returned (.bool (!bad && decide (k=xs.length)))∧Below w.heap.size w w':=dend_cells p _ _ c k bad w h.st
end Go.Proofs.YtodnkallpfkdiaaDoor.Bk
namespace Go.Proofs.YtodnkallpfkdiaaDoor.Ce
open Go.RowKit Lm Fp Cu Sl Sc Bk
/-- Block p is the document's cursor at byte k of the bytes xs, wherever they lie. -/
def IsDo (w:World) (p:Nat) (sa:Option Addr) (c:Nat) (xs:List Int) (k:Nat) (bad:Bool):Prop :=
 (∃ g off,sa=some ⟨g,off,none⟩∧IsDc w p g off c xs k bad)∨(xs=[]∧k=0∧w.heap[p]? = some (.cells #[.slice sa xs.length c, .int .i64 (k:Int), .bool bad] 108 (0,0)))
theorem IsDo.st {w:World} {p c k:Nat} {sa:Option Addr} {xs:List Int} {bad:Bool} (h:IsDo w p sa c xs k bad):w.heap[p]? = some (.cells #[.slice sa xs.length c, .int .i64 (k:Int), .bool bad] 108 (0,0)):=by
 rcases h with ⟨g,off,rfl,h⟩|⟨_,_,h⟩
 ·exact h.st
 ·exact h
theorem IsDo.below {w w':World} {p c k:Nat} {sa:Option Addr} {xs:List Int} {bad:Bool} (h:IsDo w p sa c xs k bad) (kk:Below w.heap.size w w'):IsDo w' p sa c xs k bad:=by
 rcases h with ⟨g,off,rfl,h⟩|⟨h1,h2,h⟩
 ·exact .inl ⟨g,off,rfl,h.below kk⟩
 ·exact .inr ⟨h1,h2,Below.blk kk h (blk_lt h)⟩
theorem IsDo.kept {T:Nat→Prop} {w w':World} {p c k:Nat} {sa:Option Addr} {xs:List Int} {bad:Bool} (h:IsDo w p sa c xs k bad) (kk:Kept T w w') (hp:¬ T p) (hg:∀ a,sa=some a→¬ T a.block):IsDo w' p sa c xs k bad:=by
 rcases h with ⟨g,off,rfl,h⟩|⟨h1,h2,h⟩
 ·exact .inl ⟨g,off,rfl,h.kept kk hp (hg _ rfl)⟩
 ·exact .inr ⟨h1,h2,kk.blk h hp⟩
theorem drawo_any (p:Nat) (sa:Option Addr) (c:Nat) (xs:List Int) (k:Nat) (bad:Bool) (n:Int) (w:World) (h:IsDo w p sa c xs k bad) (hl:xs.length≤1099511627776) (hn:0 < n) :
  Calls Tryd.prog 66 #[.pointer (some ⟨p,0,none⟩), .int .i64 n] w fun e w'=>∃ v,e = .returned v∧Own8 w' w.heap.size v (rawV (xs.drop k) bad n)∧IsDo w' p sa c xs (k+(rawV (xs.drop k) bad n).length) (!rawOk (xs.drop k) bad n)∧Kept (· = p) w w':=by
 rcases h with ⟨g,off,rfl,h⟩|⟨rfl,rfl,h⟩
 ·refine (draw_any p g off c xs k bad n w h hl).mono ?_
  rintro e w' ⟨v,rfl,ho,hc,hk⟩
  exact ⟨v,rfl,ho, .inl ⟨g,off,rfl,hc⟩,hk⟩
 ·have hno:rawOk (([]:List Int).drop 0) bad n=false:=by
   rw [← Bool.not_eq_true,rawOk_iff]
   simp
   omega
  have hv:rawV (([]:List Int).drop 0) bad n=[]:=by rw [rawV,hno];rfl
  rw [hv,hno]
  cases bad with
  | true =>
   refine (dbad_any p sa c [] 0 n w h ⟨by decide,by decide⟩ hl).mono ?_
   rintro e w' ⟨rfl,h1,hk⟩
   exact ⟨_,rfl,Own8.nil _ _, .inr ⟨rfl,rfl,h1⟩,hk⟩
  | false =>
   refine (dlong_any p sa c [] 0 n w h ⟨by decide,by decide⟩ hl ⟨by omega,by simpa using hn⟩).mono ?_
   rintro e w' ⟨rfl,h1,hk⟩
   exact ⟨_,rfl,Own8.nil _ _, .inr ⟨rfl,rfl,h1⟩,hk⟩
theorem dinto_any (p:Nat) (sa:Option Addr) (c:Nat) (xs:List Int) (k:Nat) (bad:Bool) (w:World) (h:IsDo w p sa c xs k bad) (hl:xs.length≤1099511627776) (hx:bytes xs) :
  Calls Tryd.prog 67 #[.pointer (some ⟨p,0,none⟩)] w fun e w'=>e = .returned (.int .i64 (intV (xs.drop k) bad))∧IsDo w' p sa c xs (k+(rawV (xs.drop k) bad 8).length) (!rawOk (xs.drop k) bad 8)∧Kept (· = p) w w' :=
 dint_of p (xs.drop k) bad (fun w'=>IsDo w' p sa c xs (k+(rawV (xs.drop k) bad 8).length) (!rawOk (xs.drop k) bad 8)) w (fun x hx'=>hx x (List.mem_of_mem_drop hx')) (drawo_any p sa c xs k bad 8 w h hl (by decide))
theorem raw_drop {zs:List Int} {bad:Bool} {n:Int} (h:rawOk zs bad n=true):zs.drop (rawV zs bad n).length=rawS zs bad n:=by
 obtain ⟨-, h1,h2⟩:=rawOk_iff.1 h
 rw [rawV,rawS,if_pos h,if_pos h,List.length_take,Nat.min_eq_left (by omega)]
theorem rawV_bad (zs:List Int) (n:Int):rawV zs true n=[]:=by
 rw [rawV,if_neg (by simp [rawOk])]
theorem intV_bad (zs ys:List Int):intV zs true=intV ys true:=by rw [intV,intV,rawV_bad,rawV_bad]
theorem rawOk_bad (zs:List Int) (n:Int):rawOk zs true n=false:=by simp [rawOk]
/-- Where the document's cursor stands. -/
def dk1 (xs:List Int):Nat:=(rdH xs).length
def dk2 (xs:List Int):Nat:=dk1 xs+(rawV (xs.drop (dk1 xs)) (rdB1 xs) 8).length
def dk3 (xs:List Int):Nat:=dk2 xs+(rawV (xs.drop (dk2 xs)) (rdB2 xs) 64).length
theorem dS1 {xs:List Int} (h:rdB1 xs=false):xs.drop (dk1 xs)=rdS1 xs:=raw_drop (by rw [rdB1,Bool.not_eq_false'] at h;exact h)
theorem dI (xs:List Int):intV (xs.drop (dk1 xs)) (rdB1 xs)=rdI xs:=by
 unfold rdI
 cases h:rdB1 xs with
 | false=>rw [dS1 h]
 | true=>exact intV_bad _ _
theorem dB2 (xs:List Int):(!rawOk (xs.drop (dk1 xs)) (rdB1 xs) 8)=rdB2 xs:=by
 unfold rdB2
 cases h:rdB1 xs with
 | false=>rw [dS1 h]
 | true=>rw [rawOk_bad,rawOk_bad]
theorem B12 {xs:List Int} (h:rdB2 xs=false):rdB1 xs=false:=by
 cases h1:rdB1 xs with
 | false=>rfl
 | true=>rw [rdB2,h1,rawOk_bad] at h;cases h
theorem dS2 {xs:List Int} (h:rdB2 xs=false):xs.drop (dk2 xs)=rdS2 xs:=by
 have h1:=B12 h
 rw [dk2,← List.drop_drop,dS1 h1,h1,rdS2,h1]
 rw [rdB2,h1,Bool.not_eq_false'] at h
 exact raw_drop h
theorem dG (xs:List Int):rawV (xs.drop (dk2 xs)) (rdB2 xs) 64=rdG xs:=by
 unfold rdG
 cases h:rdB2 xs with
 | false=>rw [dS2 h]
 | true=>rw [rawV_bad,rawV_bad]
theorem dB3 (xs:List Int):(!rawOk (xs.drop (dk2 xs)) (rdB2 xs) 64)=rdB3 xs:=by
 unfold rdB3
 cases h:rdB2 xs with
 | false=>rw [dS2 h]
 | true=>rw [rawOk_bad,rawOk_bad]
theorem B23 {xs:List Int} (h:rdB3 xs=false):rdB2 xs=false:=by
 cases h1:rdB2 xs with
 | false=>rfl
 | true=>rw [rdB3,h1,rawOk_bad] at h;cases h
theorem dS3 {xs:List Int} (h:rdB3 xs=false):xs.drop (dk3 xs)=rdS3 xs:=by
 have h1:=B23 h
 rw [dk3,← List.drop_drop,dS2 h1,h1,rdS3,h1]
 rw [rdB3,h1,Bool.not_eq_false'] at h
 exact raw_drop h
theorem dk3_le {xs:List Int} (h:rdB3 xs=false):dk3 xs≤xs.length:=by
 have h2:=B23 h
 have h1:=B12 h2
 have e3:=h
 rw [rdB3,Bool.not_eq_false'] at e3
 have e2:=h2
 rw [rdB2,Bool.not_eq_false'] at e2
 have e1:=h1
 rw [rdB1,Bool.not_eq_false'] at e1
 obtain ⟨-, -, l1⟩:=rawOk_iff.1 e1
 obtain ⟨-, -, l2⟩:=rawOk_iff.1 e2
 obtain ⟨-, -, l3⟩:=rawOk_iff.1 e3
 rw [← dS2 h2,List.length_drop] at l3
 rw [dk3,dG,rdG,rawV,if_pos e3,List.length_take,← dS2 h2,List.length_drop]
 have:(64:Int).toNat=64:=rfl
 omega
theorem dE (xs:List Int):(!rdB3 xs && decide (dk3 xs=xs.length))=rdE xs:=by
 unfold rdE
 cases h:rdB3 xs with
 | true=>rfl
 | false =>
  have h1:=dk3_le h
  rw [← dS3 h,List.length_drop]
  congr 1
  exact decide_eq_decide.2 (by omega)
theorem rdG_le (xs:List Int):(rdG xs).length≤64:=by
 unfold rdG rawV
 split
 ·rw [List.length_take]
  exact Nat.min_le_left _ _
 ·simp
theorem build_stopI (id:Int) (w:World):(Instr.build 52 #[(0, .int .i64 id)]).run Tryd.prog w = .ok (.agg (stopC id (List.replicate 64 0))) w:=by kernel_rfl
/-- A stop of which a part of the signature is written. -/
def stopP (id:Int) (gs:List Int):Array Value:=((stopC id (List.replicate 64 0)).toList.take 1 ++ gs.map (Value.int .u8) ++ (stopC id (List.replicate 64 0)).toList.drop (1+gs.length)).toArray
theorem stopP_id (id:Int) (gs:List Int):(stopP id gs)[0]? = some (.int .i64 id):=by simp [stopP,stopC]
theorem stopP_all (id:Int) (gs:List Int) (h:gs.length=64):stopP id gs=stopC id gs:=by
 apply Array.ext'
 simp [stopP,stopC,arr,h]
/-- What is known on the way. -/
structure DoR (w u:World) (sa:Option Addr) (c:Nat) (xs:List Int) (k:Nat) (bad:Bool):Prop where
 i:u.heap[w.heap.size]? = some (.cells (stopC 0 (List.replicate 64 0)) 52 (0,0))
 c:IsDo u (w.heap.size+1) sa c xs k bad
 b:Below w.heap.size w u
theorem DoR.turn {w u u':World} {sa:Option Addr} {c k k':Nat} {xs:List Int} {bad bad':Bool} (h:DoR w u sa c xs k bad) (kk:Kept (· = w.heap.size+1) u u') (hc:IsDo u' (w.heap.size+1) sa c xs k' bad'):DoR w u' sa c xs k' bad' :=
 ⟨kk.blk h.i (by omega),hc,h.b.trans ⟨kk.os,kk.tape,kk.output,kk.size,fun i hi=>kk.block i (Nat.lt_of_lt_of_le hi h.b.size) (by omega)⟩⟩
theorem DoR.fresh {w u u':World} {sa:Option Addr} {c k:Nat} {xs:List Int} {bad:Bool} (h:DoR w u sa c xs k bad) (kk:Below u.heap.size u u'):DoR w u' sa c xs k bad :=
 ⟨Below.blk kk h.i (blk_lt h.i),h.c.below kk,h.b.trans (kk.mono h.b.size)⟩
theorem DoR.adr {w u:World} {sa:Option Addr} {c k:Nat} {xs:List Int} {bad:Bool} (h:DoR w u sa c xs k bad):∀ a,sa=some a→a.block < u.heap.size∨xs=[]:=by
 intro a e
 subst e
 rcases h.c with ⟨g,off,e,h1⟩|⟨h1, -, -⟩
 ·cases e
  rcases Nat.eq_zero_or_pos xs.length with h0|h0
  ·exact .inr (List.eq_nil_of_length_eq_zero h0)
  ·obtain ⟨a',e',hc'⟩:=h1.src.cell 0 h0
   cases e'
   exact .inl (World.block_lt_of_cell? _ _ hc')
 ·exact .inr h1
theorem DoR.other {w u u':World} {sa:Option Addr} {c k g:Nat} {xs:List Int} {bad:Bool} (h:DoR w u sa c xs k bad) (kk:Kept (fun x=>x=g) u u') (hg:w.heap.size+1 < g) (ha:∀ a,sa=some a→a.block < g∨xs=[]):DoR w u' sa c xs k bad:=by
 refine ⟨kk.blk h.i (by omega),?_,h.b.trans ⟨kk.os,kk.tape,kk.output,kk.size,fun i hi=>kk.block i (Nat.lt_of_lt_of_le hi h.b.size) (by omega)⟩⟩
 rcases h.c with ⟨gg,off,rfl,h1⟩|⟨h1,h2,h3⟩
 ·rcases ha _ rfl with h4|h4
  ·exact .inl ⟨gg,off,rfl,h1.kept kk (by omega) (by have:gg < g:=h4;omega)⟩
  ·subst h4
   have:=h1.le
   exact .inr ⟨rfl,by simpa using this,kk.blk h1.st (by omega)⟩
 ·exact .inr ⟨h1,h2,kk.blk h3 (by omega)⟩
theorem rreadStop_any (sa:Option Addr) (n c:Nat) (xs:List Int) (w:World) (hs:Src w sa n xs) (hc:n≤c) (hx:bytes xs) (hn:n≤1099511627776) :
  Calls Tryd.prog 33 #[.slice sa n c] w fun e w'=>e = .returned (readV xs)∧Below w.heap.size w w':=by
 have hxl:xs.length≤1099511627776:=by rw [hs.len];exact hn
 have hln:=hs.len
 have hr1:DoR w ((w.alloc (.cells (stopC 0 (List.replicate 64 0)) 52)).alloc (.cells #[.slice sa n c, .int .i64 0, .bool false] 108)) sa c xs 0 false:=by
  have hb:Below w.heap.size w ((w.alloc (.cells (stopC 0 (List.replicate 64 0)) 52)).alloc (.cells #[.slice sa n c, .int .i64 0, .bool false] 108)):=((Below.refl _ w).alloc (Nat.le_refl _) _).alloc (by simp) _
  have hst:((w.alloc (.cells (stopC 0 (List.replicate 64 0)) 52)).alloc (.cells #[.slice sa n c, .int .i64 0, .bool false] 108)).heap[w.heap.size+1]? = some (.cells #[.slice sa xs.length c, .int .i64 ((0:Nat):Int), .bool false] 108 (0,0)):=by
   have:=blk_new (w.alloc (.cells (stopC 0 (List.replicate 64 0)) 52)) (.cells #[.slice sa n c, .int .i64 0, .bool false] 108)
   rw [World.size_alloc] at this
   rw [hln]
   exact this
  refine ⟨blk_alloc (blk_new w _) _,?_,hb⟩
  rcases Nat.eq_zero_or_pos n with h0|h0
  ·have hxn:xs=[]:=List.eq_nil_of_length_eq_zero (by rw [hln,h0])
   exact .inr ⟨hxn,rfl,hst⟩
  ·obtain ⟨a,rfl,hca⟩:=hs.cell 0 h0
   obtain ⟨g,off,rfl⟩:∃ g off,a=⟨g,off,none⟩:=by
    obtain ⟨b,o,e⟩:=plain_addr hca
    rcases a with ⟨g,off,sp⟩
    cases sp with
    | none=>exact ⟨g,off,rfl⟩
    | some s=>exfalso;simp [World.cell?, Addr.add] at hca;split at hca <;> cases hca
   have hlt:g < w.heap.size:=World.block_lt_of_cell? _ _ hca
   have hs2:Src ((w.alloc (.cells (stopC 0 (List.replicate 64 0)) 52)).alloc (.cells #[.slice (some ⟨g,off,none⟩) n c, .int .i64 0, .bool false] 108)) (some ⟨g,off,none⟩) xs.length xs:=by
    rw [hln]
    exact hs.below hb
   exact .inl ⟨g,off,rfl,hst,hs2,by rw [hln];exact hc,Nat.zero_le _,by omega⟩
 have hw1:∀ u,DoR w u sa c xs 0 false→Calls Tryd.prog 66 #[.pointer (some ⟨w.heap.size+1,0,none⟩), .int .i64 4] u fun e w'=>∃ v,e = .returned v∧Own8 w' (w.heap.size+1+1) v (rdH xs)∧DoR w w' sa c xs (dk1 xs) (rdB1 xs):=by
  intro u hu
  refine (drawo_any _ sa c xs 0 false 4 u hu.c hxl (by decide)).mono ?_
  rintro e w' ⟨v,rfl,ho,hc,hk⟩
  rw [List.drop_zero,Nat.zero_add] at hc
  rw [List.drop_zero] at ho
  exact ⟨v,rfl,ho.mono (blk_lt hu.c.st),hu.turn hk hc⟩
 have hw2:∀ u,DoR w u sa c xs (dk1 xs) (rdB1 xs)→Calls Tryd.prog 67 #[.pointer (some ⟨w.heap.size+1,0,none⟩)] u fun e w'=>e = .returned (.int .i64 (rdI xs))∧Kept (· = w.heap.size+1) u w'∧DoR w w' sa c xs (dk2 xs) (rdB2 xs):=by
  intro u hu
  refine (dinto_any _ sa c xs _ _ u hu.c hxl hx).mono ?_
  rintro e w' ⟨rfl,hc,hk⟩
  rw [dB2] at hc
  exact ⟨by rw [dI],hk,hu.turn hk hc⟩
 have hw3:∀ u,DoR w u sa c xs (dk2 xs) (rdB2 xs)→Calls Tryd.prog 66 #[.pointer (some ⟨w.heap.size+1,0,none⟩), .int .i64 64] u fun e w'=>∃ s c',e = .returned (.slice s (rdG xs).length c')∧Src w' s (rdG xs).length (rdG xs)∧Kept (· = w.heap.size+1) u w'∧DoR w w' sa c xs (dk3 xs) (rdB3 xs):=by
  intro u hu
  refine (drawo_any _ sa c xs _ _ 64 u hu.c hxl (by decide)).mono ?_
  rintro e w' ⟨v,rfl,ho,hc,hk⟩
  rw [dB3] at hc
  rw [dG] at ho
  obtain ⟨s,c',rfl, -, -, h2, -⟩:=ho.form
  exact ⟨s,c',rfl,h2,hk,hu.turn hk hc⟩
 have hw4:∀ u,DoR w u sa c xs (dk3 xs) (rdB3 xs)→Calls Tryd.prog 68 #[.pointer (some ⟨w.heap.size+1,0,none⟩)] u fun e w'=>e = .returned (.bool (rdE xs))∧Below u.heap.size u w':=by
  intro u hu
  have:=dend_cells (w.heap.size+1) sa xs.length c (dk3 xs) (rdB3 xs) u hu.c.st
  rwa [dE] at this
 have hm:=fun u=>small_any (rdI xs) u
 have hgl := @rdG_len xs
 have hgle:=rdG_le xs
 have hq:((strOfNums (rdH xs)).toList == [80,67,83,84])=decide (rdH xs=[80,67,83,84]):=by
  have h1:=Sm.str_eq (rdH xs) [80,67,83,84] (raw_bytes hx _ _).1 (by unfold bytes;decide)
  rwa [str_cst,pcst_list] at h1
 have hbi:=fun u=>build_stopI (rdI xs) u
 have hp0:=stopP_id (rdI xs) (rdG xs)
 have hpa:=stopP_all (rdI xs) (rdG xs)
 have hzsz:(stopC (rdI xs) (List.replicate 64 0)).size=65:=stopC_size (by simp)
 have hoi:=stopC_one (rdI xs) (List.replicate 64 0)
 have hsp:((stopC (rdI xs) (List.replicate 64 0)).toList.take 1 ++ (rdG xs).map (Value.int .u8) ++ (stopC (rdI xs) (List.replicate 64 0)).toList.drop (1+(rdG xs).length)).toArray=stopP (rdI xs) (rdG xs):=rfl
 unfold readV rdOk
 have hzs:(stopC 0 (List.replicate 64 0)).size=65:=stopC_size (id:=0) (gs:=List.replicate 64 0) (by simp)
 have hz1:=stopC_one 0 (List.replicate 64 0)
 have hz:=fun w=>zero_stop w
 have hz0:=fun w=>build_stop0 w
 have HR1:=Lib.hid hr1
 obtain ⟨zc,hzc⟩:∃ c,c=(stopC 0 (List.replicate 64 0)):=⟨_,rfl⟩
 have HSI:Hid ((stopC (rdI xs) (List.replicate 64 0)).size=zc.size):=Lib.hid (by rw [hzsz,hzc,hzs])
 have HII:Hid ((Tryd.prog.info? 52).map (·.size)=some (stopC (rdI xs) (List.replicate 64 0)).size):=Lib.hid (by rw [hzsz];exact size_stop)
 rw [← hzc] at hzs hz1 hz hz0 HR1 ⊢
 obtain ⟨E,hE⟩:∃ x,x=rdE xs:=⟨_,rfl⟩
 rw [← hE] at hw4 hgl ⊢
 obtain ⟨H,hH⟩:∃ x,x=rdH xs:=⟨_,rfl⟩
 rw [← hH] at hw1 hq ⊢
 obtain ⟨id,hid⟩:∃ x,x=rdI xs:=⟨_,rfl⟩
 rw [← hid] at hw2 hm hbi hp0 hpa hzsz hoi hsp HSI HII ⊢
 obtain ⟨gs,hgs⟩:∃ x,x=rdG xs:=⟨_,rfl⟩
 rw [← hgs] at hw3 hgl hgle hp0 hpa hsp ⊢
 obtain ⟨zi,hzi⟩:∃ c,c=stopC id (List.replicate 64 0):=⟨_,rfl⟩
 rw [← hzi] at hbi hzsz hoi hsp HSI HII
 obtain ⟨sp,hspe⟩:∃ c,c=stopP id gs:=⟨_,rfl⟩
 rw [← hspe] at hsp hp0 hpa
 obtain ⟨SH,hSH⟩:∃ x,x=strOfNums H:=⟨_,rfl⟩
 rw [← hSH] at hq
 have HW1:=Lib.hid hw1
 have HW2:=Lib.hid hw2
 have HW3:=Lib.hid hw3
 have HW4:=Lib.hid hw4
 have HBI:=Lib.hid hbi
 have HP0:=Lib.hid hp0
 have HOI:=Lib.hid hoi
 have HSP:=Lib.hid hsp
 have HGL:=Lib.hid hgle
 have HZI:=Lib.hid hzsz
 have HSH:=Lib.hid hSH.symm
 have HZ:=Lib.hid hz
 have HZ0:=Lib.hid hz0
 have HZ1:=Lib.hid hz1
 have HIZ:Hid ((Tryd.prog.info? 52).map (·.size)=some zc.size):=Lib.hid (by rw [hzs];exact size_stop)
 have HZW:=Lib.hid hzs
 have HZC:=Lib.hid hzc.symm
 clear hr1 hw1 hw2 hw3 hw4 hbi hp0 hoi hsp hgle hzsz hz hz0 hz1 hzs hs hx hn hxl hln hc hzi hspe hSH hE hH hid hgs hzc
 cases E with
 | false =>
  have HM:=Lib.hid hm
  clear hm hgl hpa
  simp only [Bool.false_and,Bool.false_eq_true,if_false]
  by_cases hH:H=[80,67,83,84]
  ·rw [decide_eq_true hH] at hq
   clear hH
   go_enter Tryd.func33, Tryd.ntmps33
   go_upto_region 2 with ((with_reducible refine aS 2 ?_);refine wpList_alloc_row rfl 52 rfl _ (HZ.out _) ?_)
   generalize (w.alloc (.cells zc 52)).alloc (.cells #[.slice sa n c, .int .i64 0, .bool false] 108)=w1 at HR1 ⊢
   go_upto_region 3 with (go_at_call 66; refine (HW1.out _ HR1.out).mono ?_;rintro e w2 ⟨v2,rfl,ho2,hr2⟩;have HR2:=Lib.hid hr2;have HO2:=Lib.hid ho2;clear hr2 ho2)
   go_upto_region 4 with (first|(go_at_call 67; refine (HW2.out _ HR2.out).mono ?_;rintro e w3 ⟨rfl,hk3,hr3⟩;have HR3:=Lib.hid hr3;have HO3:=Lib.hid (HO2.out.kept hk3 (fun k e=>by have:=HO2.out.lt k e;omega));clear hr3 hk3)|((with_reducible refine aS 14 ?_);refine wpList_build (by rfl) 52 _ rfl #[(0, .int .i64 id)] rfl _ (HBI.out _) ?_)|((with_reducible refine aS 6 ?_);refine wpList_alloc_row rfl 52 rfl _ (HZ.out _) ?_;have HR4:=Lib.hid (HR3.out.fresh ((Below.refl _ w3).alloc (Nat.le_refl _) (.cells zc 52)));have HO4:=Lib.hid (HO3.out.alloc (.cells zc 52));have HI4:Hid ((w3.alloc (.cells zc 52)).heap[w3.heap.size]? = some (.cells zc 52 (0,0))):=Lib.hid (blk_new w3 _);have HG6:Hid ((∀ k,v2.ownBlock=some k→k≠w3.heap.size)∧w.heap.size+1 < w3.heap.size∧(∀ a,sa=some a→a.block < w3.heap.size∨xs=[])):=Lib.hid ⟨fun k e=>by have:=HO3.out.lt k e;omega,by have:=blk_lt HR3.out.c.st;omega,HR3.out.adr⟩;generalize w3.heap.size=g6 at HI4 HG6 ⊢; generalize w3.alloc (.cells zc 52)=w4 at HR4 HO4 HI4 ⊢)|((with_reducible refine aT 6 ?_);refine wpList_store_whole rfl 52 _ _ rfl (g6) _ _ 52 HI4.out rfl rfl HSI.out HII.out HOI.out ?_;intro w5 hb5 hk5 hz5;have HI5:=Lib.hid hb5;have HR5:=Lib.hid (DoR.other HR4.out hk5 HG6.out.2.1 HG6.out.2.2);have HO5:=Lib.hid (HO4.out.kept hk5 (fun k e=>HG6.out.1 k e));clear hb5 hk5 hz5))
   (try simp only [World.size_alloc,Act.put,sA,sZ,sS])
   refine wp_region_held_drew (S:=fun u=>True) (by kernel_rfl) (trivial) (fun hHeld=>?_)
   refine wpAnyH_take (i:=0) (oi:=(⟨some 15,_,_,_,_,none⟩:Oper)) (v := .pointer (some ⟨g6,1,none⟩)) rfl (by kernel_rfl) (by kernel_rfl) (by kernel_rfl) (fun _ _ _ h=>h) (Or.inl ⟨by rfl,?hy145⟩) (by assumption) ?rest145
   case hy145=>(intro u hSu;(try dsimp only at hSu);go_simp;try (with_reducible rfl))
   (try simp only [Act.put,sA,sZ,sS])
   refine wpAnyH_take (i:=1) (oi:=(⟨some 16,_,_,_,_,none⟩:Oper)) (v := .slice (some ⟨g6,1,none⟩) 64 64) rfl (by kernel_rfl) (by kernel_rfl) (by kernel_rfl) (fun _ _ _ h=>h) (Or.inl ⟨by rfl,?hy146⟩) (by assumption) ?rest146
   case hy146=>(intro u hSu;(try dsimp only at hSu);go_simp;try (with_reducible rfl))
   (try simp only [Act.put,sA,sZ,sS])
   refine wpAnyH_take (i:=2) (oi:=(⟨some 17,_,_,_,_,none⟩:Oper)) (v := .pointer (some ⟨w.heap.size+1,0,none⟩)) rfl (by kernel_rfl) (by kernel_rfl) (by kernel_rfl) (fun _ _ _ h=>h) (Or.inl ⟨by rfl,?hy147⟩) (by assumption) ?rest147
   case hy147=>(intro u hSu;(try dsimp only at hSu);go_simp;try (with_reducible rfl))
   (try simp only [Act.put,sA,sZ,sS])
   refine wpAnyH_ready (rs:=[3]) (by kernel_rfl) (by simp) ?_
   refine AllReadyH.cons (o:=(⟨some 18,_,_,_,_,none⟩:Oper)) rfl (fun K hK=>?_) AllReadyH.nil
   go_simp
   go_at_call 66
   refine (HW3.out _ (HR5.out.fresh (Below.refl _ w5).drew)).mono ?_
   rintro e w6 ⟨s6,c6,rfl,hs6,hk6,hr6⟩
   have HR6:=Lib.hid hr6
   have HS6:=Lib.hid hs6
   have HI6:=Lib.hid (hk6.blk (Below.blk (Below.refl _ w5).drew HI5.out (blk_lt HI5.out)) (by have:=HG6.out.2.1;omega))
   have HO6:=Lib.hid ((HO5.out.below (Below.refl _ w5).drew).kept hk6 (fun k e=>by have:=HO5.out.lt k e;omega))
   clear hr6 hs6 hk6
   refine hK.out _ _ (trivial) (fun hHeld=>?_)
   clear hK K
   (try simp only [Act.put,sA,sZ,sS])
   refine wpAnyH_ready (rs:=[4]) (by kernel_rfl) (by simp) ?_
   refine AllReadyH.cons (o:=(⟨some 19,_,_,_,_,none⟩:Oper)) rfl (fun K hK=>?_) AllReadyH.nil
   refine step_copyC rfl (.tmp 16) (.tmp 18) rfl g6 1 64 64 gs.length c6 s6 zi gs 52 rfl rfl HI6.out HS6.out HGL.out (by rw [HZI.out];have:=HGL.out;omega) ?_
   intro w7 hb7 hk7
   rw [HSP.out] at hb7
   have HI7:=Lib.hid hb7
   have HR7:=Lib.hid (DoR.other HR6.out hk7 HG6.out.2.1 HG6.out.2.2)
   have HO7:=Lib.hid (HO6.out.kept hk7 (fun k e=>HG6.out.1 k e))
   clear hb7 hk7
   refine hK.out _ _ (trivial) (fun hHeld=>?_)
   clear hK K
   (try simp only [Act.put,sA,sZ,sS])
   refine wpAnyH_done (by kernel_rfl) ?_ _
   (try simp only [Exit.then])
   have cv:=HO7.out.str
   rw [HSH.out] at cv
   have c6:w7.cell? ⟨g6,0,none⟩=some (.int .i64 id):=by rw [cell_blk HI7.out];exact HP0.out
   go_wp2_with (first|((with_reducible show Calls _ 68 _ _ _);go_at_call 68; refine (HW4.out _ HR7.out).mono ?_;rintro e w8 ⟨rfl,hb8⟩;have HR8:=Lib.hid (HR7.out.fresh hb8);have c8:=below_cell hb8 c6;have HI8:=Lib.hid (Below.blk hb8 HI7.out (blk_lt HI7.out));clear hb8)|((with_reducible show Calls _ 48 _ _ _);go_at_call 48; refine (HM.out _).mono ?_;rintro e w9 ⟨rfl,rfl⟩)|((with_reducible refine aS 34 ?_);refine wpList_build (by rfl) 52 _ rfl #[] rfl _ (HZ0.out _) ?_)|((with_reducible refine aT 2 ?_);refine wpList_store_whole rfl 52 _ _ rfl (w.heap.size) _ _ 52 (by have h:=HR8.out.i;rw [HZC.out] at h;exact h) rfl rfl rfl HIZ.out HZ1.out ?_;intro w10 hb10 hk10 hz10;have HB10:=Lib.hid hb10;have HK10:=Lib.hid hk10;clear hb10 hk10 hz10))
   all_goals (try simp only [Exit.then])
   refine bodyPost_ret (results_cell_tmp_row rfl _ _ (w.heap.size) 52 _ (0,0) _ _ rfl HB10.out Tryd.underlying52 rfl HIZ.out rfl) rfl ?_
   exact ⟨by first|rfl|simp,HR8.out.b.trans ⟨HK10.out.os,HK10.out.tape,HK10.out.output,HK10.out.size,fun i hi=>HK10.out.block i (Nat.lt_of_lt_of_le hi HR8.out.b.size) (by omega)⟩⟩
  ·rw [decide_eq_false hH] at hq
   clear hH
   go_enter Tryd.func33, Tryd.ntmps33
   go_upto_region 2 with ((with_reducible refine aS 2 ?_);refine wpList_alloc_row rfl 52 rfl _ (HZ.out _) ?_)
   generalize (w.alloc (.cells zc 52)).alloc (.cells #[.slice sa n c, .int .i64 0, .bool false] 108)=w1 at HR1 ⊢
   go_upto_region 3 with (go_at_call 66; refine (HW1.out _ HR1.out).mono ?_;rintro e w2 ⟨v2,rfl,ho2,hr2⟩;have HR2:=Lib.hid hr2;have HO2:=Lib.hid ho2;clear hr2 ho2)
   go_upto_region 4 with (first|(go_at_call 67; refine (HW2.out _ HR2.out).mono ?_;rintro e w3 ⟨rfl,hk3,hr3⟩;have HR3:=Lib.hid hr3;have HO3:=Lib.hid (HO2.out.kept hk3 (fun k e=>by have:=HO2.out.lt k e;omega));clear hr3 hk3)|((with_reducible refine aS 14 ?_);refine wpList_build (by rfl) 52 _ rfl #[(0, .int .i64 id)] rfl _ (HBI.out _) ?_)|((with_reducible refine aS 6 ?_);refine wpList_alloc_row rfl 52 rfl _ (HZ.out _) ?_;have HR4:=Lib.hid (HR3.out.fresh ((Below.refl _ w3).alloc (Nat.le_refl _) (.cells zc 52)));have HO4:=Lib.hid (HO3.out.alloc (.cells zc 52));have HI4:Hid ((w3.alloc (.cells zc 52)).heap[w3.heap.size]? = some (.cells zc 52 (0,0))):=Lib.hid (blk_new w3 _);have HG6:Hid ((∀ k,v2.ownBlock=some k→k≠w3.heap.size)∧w.heap.size+1 < w3.heap.size∧(∀ a,sa=some a→a.block < w3.heap.size∨xs=[])):=Lib.hid ⟨fun k e=>by have:=HO3.out.lt k e;omega,by have:=blk_lt HR3.out.c.st;omega,HR3.out.adr⟩;generalize w3.heap.size=g6 at HI4 HG6 ⊢; generalize w3.alloc (.cells zc 52)=w4 at HR4 HO4 HI4 ⊢)|((with_reducible refine aT 6 ?_);refine wpList_store_whole rfl 52 _ _ rfl (g6) _ _ 52 HI4.out rfl rfl HSI.out HII.out HOI.out ?_;intro w5 hb5 hk5 hz5;have HI5:=Lib.hid hb5;have HR5:=Lib.hid (DoR.other HR4.out hk5 HG6.out.2.1 HG6.out.2.2);have HO5:=Lib.hid (HO4.out.kept hk5 (fun k e=>HG6.out.1 k e));clear hb5 hk5 hz5))
   (try simp only [World.size_alloc,Act.put,sA,sZ,sS])
   refine wp_region_held_drew (S:=fun u=>True) (by kernel_rfl) (trivial) (fun hHeld=>?_)
   refine wpAnyH_take (i:=0) (oi:=(⟨some 15,_,_,_,_,none⟩:Oper)) (v := .pointer (some ⟨g6,1,none⟩)) rfl (by kernel_rfl) (by kernel_rfl) (by kernel_rfl) (fun _ _ _ h=>h) (Or.inl ⟨by rfl,?hy148⟩) (by assumption) ?rest148
   case hy148=>(intro u hSu;(try dsimp only at hSu);go_simp;try (with_reducible rfl))
   (try simp only [Act.put,sA,sZ,sS])
   refine wpAnyH_take (i:=1) (oi:=(⟨some 16,_,_,_,_,none⟩:Oper)) (v := .slice (some ⟨g6,1,none⟩) 64 64) rfl (by kernel_rfl) (by kernel_rfl) (by kernel_rfl) (fun _ _ _ h=>h) (Or.inl ⟨by rfl,?hy149⟩) (by assumption) ?rest149
   case hy149=>(intro u hSu;(try dsimp only at hSu);go_simp;try (with_reducible rfl))
   (try simp only [Act.put,sA,sZ,sS])
   refine wpAnyH_take (i:=2) (oi:=(⟨some 17,_,_,_,_,none⟩:Oper)) (v := .pointer (some ⟨w.heap.size+1,0,none⟩)) rfl (by kernel_rfl) (by kernel_rfl) (by kernel_rfl) (fun _ _ _ h=>h) (Or.inl ⟨by rfl,?hy150⟩) (by assumption) ?rest150
   case hy150=>(intro u hSu;(try dsimp only at hSu);go_simp;try (with_reducible rfl))
   (try simp only [Act.put,sA,sZ,sS])
   refine wpAnyH_ready (rs:=[3]) (by kernel_rfl) (by simp) ?_
   refine AllReadyH.cons (o:=(⟨some 18,_,_,_,_,none⟩:Oper)) rfl (fun K hK=>?_) AllReadyH.nil
   go_simp
   go_at_call 66
   refine (HW3.out _ (HR5.out.fresh (Below.refl _ w5).drew)).mono ?_
   rintro e w6 ⟨s6,c6,rfl,hs6,hk6,hr6⟩
   have HR6:=Lib.hid hr6
   have HS6:=Lib.hid hs6
   have HI6:=Lib.hid (hk6.blk (Below.blk (Below.refl _ w5).drew HI5.out (blk_lt HI5.out)) (by have:=HG6.out.2.1;omega))
   have HO6:=Lib.hid ((HO5.out.below (Below.refl _ w5).drew).kept hk6 (fun k e=>by have:=HO5.out.lt k e;omega))
   clear hr6 hs6 hk6
   refine hK.out _ _ (trivial) (fun hHeld=>?_)
   clear hK K
   (try simp only [Act.put,sA,sZ,sS])
   refine wpAnyH_ready (rs:=[4]) (by kernel_rfl) (by simp) ?_
   refine AllReadyH.cons (o:=(⟨some 19,_,_,_,_,none⟩:Oper)) rfl (fun K hK=>?_) AllReadyH.nil
   refine step_copyC rfl (.tmp 16) (.tmp 18) rfl g6 1 64 64 gs.length c6 s6 zi gs 52 rfl rfl HI6.out HS6.out HGL.out (by rw [HZI.out];have:=HGL.out;omega) ?_
   intro w7 hb7 hk7
   rw [HSP.out] at hb7
   have HI7:=Lib.hid hb7
   have HR7:=Lib.hid (DoR.other HR6.out hk7 HG6.out.2.1 HG6.out.2.2)
   have HO7:=Lib.hid (HO6.out.kept hk7 (fun k e=>HG6.out.1 k e))
   clear hb7 hk7
   refine hK.out _ _ (trivial) (fun hHeld=>?_)
   clear hK K
   (try simp only [Act.put,sA,sZ,sS])
   refine wpAnyH_done (by kernel_rfl) ?_ _
   (try simp only [Exit.then])
   have cv:=HO7.out.str
   rw [HSH.out] at cv
   have c6:w7.cell? ⟨g6,0,none⟩=some (.int .i64 id):=by rw [cell_blk HI7.out];exact HP0.out
   go_wp2_with (first|((with_reducible show Calls _ 68 _ _ _);go_at_call 68; refine (HW4.out _ HR7.out).mono ?_;rintro e w8 ⟨rfl,hb8⟩;have HR8:=Lib.hid (HR7.out.fresh hb8);have c8:=below_cell hb8 c6;have HI8:=Lib.hid (Below.blk hb8 HI7.out (blk_lt HI7.out));clear hb8)|((with_reducible show Calls _ 48 _ _ _);go_at_call 48; refine (HM.out _).mono ?_;rintro e w9 ⟨rfl,rfl⟩)|((with_reducible refine aS 34 ?_);refine wpList_build (by rfl) 52 _ rfl #[] rfl _ (HZ0.out _) ?_)|((with_reducible refine aT 2 ?_);refine wpList_store_whole rfl 52 _ _ rfl (w.heap.size) _ _ 52 (by have h:=HR7.out.i;rw [HZC.out] at h;exact h) rfl rfl rfl HIZ.out HZ1.out ?_;intro w10 hb10 hk10 hz10;have HB10:=Lib.hid hb10;have HK10:=Lib.hid hk10;clear hb10 hk10 hz10))
   all_goals (try simp only [Exit.then])
   refine bodyPost_ret (results_cell_tmp_row rfl _ _ (w.heap.size) 52 _ (0,0) _ _ rfl HB10.out Tryd.underlying52 rfl HIZ.out rfl) rfl ?_
   exact ⟨by first|rfl|simp,HR7.out.b.trans ⟨HK10.out.os,HK10.out.tape,HK10.out.output,HK10.out.size,fun i hi=>HK10.out.block i (Nat.lt_of_lt_of_le hi HR7.out.b.size) (by omega)⟩⟩
 | true =>
  by_cases hH:H=[80,67,83,84]
  ·rw [decide_eq_true hH] at hq ⊢
   clear hH
   cases hok:okI id with
   | false =>
    rw [hok] at hm
    have HM:=Lib.hid hm
    clear hm hgl hpa
    simp only [Bool.and_false,Bool.false_eq_true,if_false]
    go_enter Tryd.func33, Tryd.ntmps33
    go_upto_region 2 with ((with_reducible refine aS 2 ?_);refine wpList_alloc_row rfl 52 rfl _ (HZ.out _) ?_)
    generalize (w.alloc (.cells zc 52)).alloc (.cells #[.slice sa n c, .int .i64 0, .bool false] 108)=w1 at HR1 ⊢
    go_upto_region 3 with (go_at_call 66; refine (HW1.out _ HR1.out).mono ?_;rintro e w2 ⟨v2,rfl,ho2,hr2⟩;have HR2:=Lib.hid hr2;have HO2:=Lib.hid ho2;clear hr2 ho2)
    go_upto_region 4 with (first|(go_at_call 67; refine (HW2.out _ HR2.out).mono ?_;rintro e w3 ⟨rfl,hk3,hr3⟩;have HR3:=Lib.hid hr3;have HO3:=Lib.hid (HO2.out.kept hk3 (fun k e=>by have:=HO2.out.lt k e;omega));clear hr3 hk3)|((with_reducible refine aS 14 ?_);refine wpList_build (by rfl) 52 _ rfl #[(0, .int .i64 id)] rfl _ (HBI.out _) ?_)|((with_reducible refine aS 6 ?_);refine wpList_alloc_row rfl 52 rfl _ (HZ.out _) ?_;have HR4:=Lib.hid (HR3.out.fresh ((Below.refl _ w3).alloc (Nat.le_refl _) (.cells zc 52)));have HO4:=Lib.hid (HO3.out.alloc (.cells zc 52));have HI4:Hid ((w3.alloc (.cells zc 52)).heap[w3.heap.size]? = some (.cells zc 52 (0,0))):=Lib.hid (blk_new w3 _);have HG6:Hid ((∀ k,v2.ownBlock=some k→k≠w3.heap.size)∧w.heap.size+1 < w3.heap.size∧(∀ a,sa=some a→a.block < w3.heap.size∨xs=[])):=Lib.hid ⟨fun k e=>by have:=HO3.out.lt k e;omega,by have:=blk_lt HR3.out.c.st;omega,HR3.out.adr⟩;generalize w3.heap.size=g6 at HI4 HG6 ⊢; generalize w3.alloc (.cells zc 52)=w4 at HR4 HO4 HI4 ⊢)|((with_reducible refine aT 6 ?_);refine wpList_store_whole rfl 52 _ _ rfl (g6) _ _ 52 HI4.out rfl rfl HSI.out HII.out HOI.out ?_;intro w5 hb5 hk5 hz5;have HI5:=Lib.hid hb5;have HR5:=Lib.hid (DoR.other HR4.out hk5 HG6.out.2.1 HG6.out.2.2);have HO5:=Lib.hid (HO4.out.kept hk5 (fun k e=>HG6.out.1 k e));clear hb5 hk5 hz5))
    (try simp only [World.size_alloc,Act.put,sA,sZ,sS])
    refine wp_region_held_drew (S:=fun u=>True) (by kernel_rfl) (trivial) (fun hHeld=>?_)
    refine wpAnyH_take (i:=0) (oi:=(⟨some 15,_,_,_,_,none⟩:Oper)) (v := .pointer (some ⟨g6,1,none⟩)) rfl (by kernel_rfl) (by kernel_rfl) (by kernel_rfl) (fun _ _ _ h=>h) (Or.inl ⟨by rfl,?hy151⟩) (by assumption) ?rest151
    case hy151=>(intro u hSu;(try dsimp only at hSu);go_simp;try (with_reducible rfl))
    (try simp only [Act.put,sA,sZ,sS])
    refine wpAnyH_take (i:=1) (oi:=(⟨some 16,_,_,_,_,none⟩:Oper)) (v := .slice (some ⟨g6,1,none⟩) 64 64) rfl (by kernel_rfl) (by kernel_rfl) (by kernel_rfl) (fun _ _ _ h=>h) (Or.inl ⟨by rfl,?hy152⟩) (by assumption) ?rest152
    case hy152=>(intro u hSu;(try dsimp only at hSu);go_simp;try (with_reducible rfl))
    (try simp only [Act.put,sA,sZ,sS])
    refine wpAnyH_take (i:=2) (oi:=(⟨some 17,_,_,_,_,none⟩:Oper)) (v := .pointer (some ⟨w.heap.size+1,0,none⟩)) rfl (by kernel_rfl) (by kernel_rfl) (by kernel_rfl) (fun _ _ _ h=>h) (Or.inl ⟨by rfl,?hy153⟩) (by assumption) ?rest153
    case hy153=>(intro u hSu;(try dsimp only at hSu);go_simp;try (with_reducible rfl))
    (try simp only [Act.put,sA,sZ,sS])
    refine wpAnyH_ready (rs:=[3]) (by kernel_rfl) (by simp) ?_
    refine AllReadyH.cons (o:=(⟨some 18,_,_,_,_,none⟩:Oper)) rfl (fun K hK=>?_) AllReadyH.nil
    go_simp
    go_at_call 66
    refine (HW3.out _ (HR5.out.fresh (Below.refl _ w5).drew)).mono ?_
    rintro e w6 ⟨s6,c6,rfl,hs6,hk6,hr6⟩
    have HR6:=Lib.hid hr6
    have HS6:=Lib.hid hs6
    have HI6:=Lib.hid (hk6.blk (Below.blk (Below.refl _ w5).drew HI5.out (blk_lt HI5.out)) (by have:=HG6.out.2.1;omega))
    have HO6:=Lib.hid ((HO5.out.below (Below.refl _ w5).drew).kept hk6 (fun k e=>by have:=HO5.out.lt k e;omega))
    clear hr6 hs6 hk6
    refine hK.out _ _ (trivial) (fun hHeld=>?_)
    clear hK K
    (try simp only [Act.put,sA,sZ,sS])
    refine wpAnyH_ready (rs:=[4]) (by kernel_rfl) (by simp) ?_
    refine AllReadyH.cons (o:=(⟨some 19,_,_,_,_,none⟩:Oper)) rfl (fun K hK=>?_) AllReadyH.nil
    refine step_copyC rfl (.tmp 16) (.tmp 18) rfl g6 1 64 64 gs.length c6 s6 zi gs 52 rfl rfl HI6.out HS6.out HGL.out (by rw [HZI.out];have:=HGL.out;omega) ?_
    intro w7 hb7 hk7
    rw [HSP.out] at hb7
    have HI7:=Lib.hid hb7
    have HR7:=Lib.hid (DoR.other HR6.out hk7 HG6.out.2.1 HG6.out.2.2)
    have HO7:=Lib.hid (HO6.out.kept hk7 (fun k e=>HG6.out.1 k e))
    clear hb7 hk7
    refine hK.out _ _ (trivial) (fun hHeld=>?_)
    clear hK K
    (try simp only [Act.put,sA,sZ,sS])
    refine wpAnyH_done (by kernel_rfl) ?_ _
    (try simp only [Exit.then])
    have cv:=HO7.out.str
    rw [HSH.out] at cv
    have c6:w7.cell? ⟨g6,0,none⟩=some (.int .i64 id):=by rw [cell_blk HI7.out];exact HP0.out
    go_wp2_with (first|((with_reducible show Calls _ 68 _ _ _);go_at_call 68; refine (HW4.out _ HR7.out).mono ?_;rintro e w8 ⟨rfl,hb8⟩;have HR8:=Lib.hid (HR7.out.fresh hb8);have c8:=below_cell hb8 c6;have HI8:=Lib.hid (Below.blk hb8 HI7.out (blk_lt HI7.out));clear hb8)|((with_reducible show Calls _ 48 _ _ _);go_at_call 48; refine (HM.out _).mono ?_;rintro e w9 ⟨rfl,rfl⟩)|((with_reducible refine aS 34 ?_);refine wpList_build (by rfl) 52 _ rfl #[] rfl _ (HZ0.out _) ?_)|((with_reducible refine aT 2 ?_);refine wpList_store_whole rfl 52 _ _ rfl (w.heap.size) _ _ 52 (by have h:=HR8.out.i;rw [HZC.out] at h;exact h) rfl rfl rfl HIZ.out HZ1.out ?_;intro w10 hb10 hk10 hz10;have HB10:=Lib.hid hb10;have HK10:=Lib.hid hk10;clear hb10 hk10 hz10))
    all_goals (try simp only [Exit.then])
    refine bodyPost_ret (results_cell_tmp_row rfl _ _ (w.heap.size) 52 _ (0,0) _ _ rfl HB10.out Tryd.underlying52 rfl HIZ.out rfl) rfl ?_
    exact ⟨by first|rfl|simp,HR8.out.b.trans ⟨HK10.out.os,HK10.out.tape,HK10.out.output,HK10.out.size,fun i hi=>HK10.out.block i (Nat.lt_of_lt_of_le hi HR8.out.b.size) (by omega)⟩⟩
   | true =>
    rw [hok] at hm
    have HM:=Lib.hid hm
    have hg64:=hgl rfl
    have hsc:=hpa hg64
    have HSS:Hid (sp.size=zc.size):=Lib.hid (by rw [hsc,stopC_size hg64,HZW.out])
    have HIP:Hid ((Tryd.prog.info? 52).map (·.size)=some sp.size):=Lib.hid (by rw [hsc,stopC_size hg64];exact size_stop)
    have HS1:Hid (sp.all (·.oneCell')=true):=Lib.hid (by rw [hsc];exact stopC_one _ _)
    clear hm hgl hpa hg64
    simp only [Bool.and_true,if_true]
    rw [← hsc]
    clear hsc
    go_enter Tryd.func33, Tryd.ntmps33
    go_upto_region 2 with ((with_reducible refine aS 2 ?_);refine wpList_alloc_row rfl 52 rfl _ (HZ.out _) ?_)
    generalize (w.alloc (.cells zc 52)).alloc (.cells #[.slice sa n c, .int .i64 0, .bool false] 108)=w1 at HR1 ⊢
    go_upto_region 3 with (go_at_call 66; refine (HW1.out _ HR1.out).mono ?_;rintro e w2 ⟨v2,rfl,ho2,hr2⟩;have HR2:=Lib.hid hr2;have HO2:=Lib.hid ho2;clear hr2 ho2)
    go_upto_region 4 with (first|(go_at_call 67; refine (HW2.out _ HR2.out).mono ?_;rintro e w3 ⟨rfl,hk3,hr3⟩;have HR3:=Lib.hid hr3;have HO3:=Lib.hid (HO2.out.kept hk3 (fun k e=>by have:=HO2.out.lt k e;omega));clear hr3 hk3)|((with_reducible refine aS 14 ?_);refine wpList_build (by rfl) 52 _ rfl #[(0, .int .i64 id)] rfl _ (HBI.out _) ?_)|((with_reducible refine aS 6 ?_);refine wpList_alloc_row rfl 52 rfl _ (HZ.out _) ?_;have HR4:=Lib.hid (HR3.out.fresh ((Below.refl _ w3).alloc (Nat.le_refl _) (.cells zc 52)));have HO4:=Lib.hid (HO3.out.alloc (.cells zc 52));have HI4:Hid ((w3.alloc (.cells zc 52)).heap[w3.heap.size]? = some (.cells zc 52 (0,0))):=Lib.hid (blk_new w3 _);have HG6:Hid ((∀ k,v2.ownBlock=some k→k≠w3.heap.size)∧w.heap.size+1 < w3.heap.size∧(∀ a,sa=some a→a.block < w3.heap.size∨xs=[])):=Lib.hid ⟨fun k e=>by have:=HO3.out.lt k e;omega,by have:=blk_lt HR3.out.c.st;omega,HR3.out.adr⟩;generalize w3.heap.size=g6 at HI4 HG6 ⊢; generalize w3.alloc (.cells zc 52)=w4 at HR4 HO4 HI4 ⊢)|((with_reducible refine aT 6 ?_);refine wpList_store_whole rfl 52 _ _ rfl (g6) _ _ 52 HI4.out rfl rfl HSI.out HII.out HOI.out ?_;intro w5 hb5 hk5 hz5;have HI5:=Lib.hid hb5;have HR5:=Lib.hid (DoR.other HR4.out hk5 HG6.out.2.1 HG6.out.2.2);have HO5:=Lib.hid (HO4.out.kept hk5 (fun k e=>HG6.out.1 k e));clear hb5 hk5 hz5))
    (try simp only [World.size_alloc,Act.put,sA,sZ,sS])
    refine wp_region_held_drew (S:=fun u=>True) (by kernel_rfl) (trivial) (fun hHeld=>?_)
    refine wpAnyH_take (i:=0) (oi:=(⟨some 15,_,_,_,_,none⟩:Oper)) (v := .pointer (some ⟨g6,1,none⟩)) rfl (by kernel_rfl) (by kernel_rfl) (by kernel_rfl) (fun _ _ _ h=>h) (Or.inl ⟨by rfl,?hy154⟩) (by assumption) ?rest154
    case hy154=>(intro u hSu;(try dsimp only at hSu);go_simp;try (with_reducible rfl))
    (try simp only [Act.put,sA,sZ,sS])
    refine wpAnyH_take (i:=1) (oi:=(⟨some 16,_,_,_,_,none⟩:Oper)) (v := .slice (some ⟨g6,1,none⟩) 64 64) rfl (by kernel_rfl) (by kernel_rfl) (by kernel_rfl) (fun _ _ _ h=>h) (Or.inl ⟨by rfl,?hy155⟩) (by assumption) ?rest155
    case hy155=>(intro u hSu;(try dsimp only at hSu);go_simp;try (with_reducible rfl))
    (try simp only [Act.put,sA,sZ,sS])
    refine wpAnyH_take (i:=2) (oi:=(⟨some 17,_,_,_,_,none⟩:Oper)) (v := .pointer (some ⟨w.heap.size+1,0,none⟩)) rfl (by kernel_rfl) (by kernel_rfl) (by kernel_rfl) (fun _ _ _ h=>h) (Or.inl ⟨by rfl,?hy156⟩) (by assumption) ?rest156
    case hy156=>(intro u hSu;(try dsimp only at hSu);go_simp;try (with_reducible rfl))
    (try simp only [Act.put,sA,sZ,sS])
    refine wpAnyH_ready (rs:=[3]) (by kernel_rfl) (by simp) ?_
    refine AllReadyH.cons (o:=(⟨some 18,_,_,_,_,none⟩:Oper)) rfl (fun K hK=>?_) AllReadyH.nil
    go_simp
    go_at_call 66
    refine (HW3.out _ (HR5.out.fresh (Below.refl _ w5).drew)).mono ?_
    rintro e w6 ⟨s6,c6,rfl,hs6,hk6,hr6⟩
    have HR6:=Lib.hid hr6
    have HS6:=Lib.hid hs6
    have HI6:=Lib.hid (hk6.blk (Below.blk (Below.refl _ w5).drew HI5.out (blk_lt HI5.out)) (by have:=HG6.out.2.1;omega))
    have HO6:=Lib.hid ((HO5.out.below (Below.refl _ w5).drew).kept hk6 (fun k e=>by have:=HO5.out.lt k e;omega))
    clear hr6 hs6 hk6
    refine hK.out _ _ (trivial) (fun hHeld=>?_)
    clear hK K
    (try simp only [Act.put,sA,sZ,sS])
    refine wpAnyH_ready (rs:=[4]) (by kernel_rfl) (by simp) ?_
    refine AllReadyH.cons (o:=(⟨some 19,_,_,_,_,none⟩:Oper)) rfl (fun K hK=>?_) AllReadyH.nil
    refine step_copyC rfl (.tmp 16) (.tmp 18) rfl g6 1 64 64 gs.length c6 s6 zi gs 52 rfl rfl HI6.out HS6.out HGL.out (by rw [HZI.out];have:=HGL.out;omega) ?_
    intro w7 hb7 hk7
    rw [HSP.out] at hb7
    have HI7:=Lib.hid hb7
    have HR7:=Lib.hid (DoR.other HR6.out hk7 HG6.out.2.1 HG6.out.2.2)
    have HO7:=Lib.hid (HO6.out.kept hk7 (fun k e=>HG6.out.1 k e))
    clear hb7 hk7
    refine hK.out _ _ (trivial) (fun hHeld=>?_)
    clear hK K
    (try simp only [Act.put,sA,sZ,sS])
    refine wpAnyH_done (by kernel_rfl) ?_ _
    (try simp only [Exit.then])
    have cv:=HO7.out.str
    rw [HSH.out] at cv
    have c6:w7.cell? ⟨g6,0,none⟩=some (.int .i64 id):=by rw [cell_blk HI7.out];exact HP0.out
    go_wp2_with (first|((with_reducible show Calls _ 68 _ _ _);go_at_call 68; refine (HW4.out _ HR7.out).mono ?_;rintro e w8 ⟨rfl,hb8⟩;have HR8:=Lib.hid (HR7.out.fresh hb8);have c8:=below_cell hb8 c6;have HI8:=Lib.hid (Below.blk hb8 HI7.out (blk_lt HI7.out));clear hb8)|((with_reducible show Calls _ 48 _ _ _);go_at_call 48; refine (HM.out _).mono ?_;rintro e w9 ⟨rfl,rfl⟩)|((with_reducible refine aS 35 ?_);refine wpList_load_row rfl 52 _ rfl (g6) rfl _ _ (0,0) _ HI8.out Tryd.underlying52 rfl HIP.out ?_)|((with_reducible refine aT 2 ?_);refine wpList_store_whole rfl 52 _ _ rfl (w.heap.size) _ _ 52 (by have h:=HR8.out.i;rw [HZC.out] at h;exact h) rfl rfl HSS.out HIP.out HS1.out ?_;intro w10 hb10 hk10 hz10;have HB10:=Lib.hid hb10;have HK10:=Lib.hid hk10;clear hb10 hk10 hz10))
    all_goals (try simp only [Exit.then])
    refine bodyPost_ret (results_cell_tmp_row rfl _ _ (w.heap.size) 52 _ (0,0) _ _ rfl HB10.out Tryd.underlying52 rfl HIP.out rfl) rfl ?_
    exact ⟨by first|rfl|simp,HR8.out.b.trans ⟨HK10.out.os,HK10.out.tape,HK10.out.output,HK10.out.size,fun i hi=>HK10.out.block i (Nat.lt_of_lt_of_le hi HR8.out.b.size) (by omega)⟩⟩
  ·rw [decide_eq_false hH] at hq ⊢
   clear hH
   have HM:=Lib.hid hm
   clear hm hgl hpa
   simp only [Bool.and_false,Bool.false_and,Bool.false_eq_true,if_false]
   go_enter Tryd.func33, Tryd.ntmps33
   go_upto_region 2 with ((with_reducible refine aS 2 ?_);refine wpList_alloc_row rfl 52 rfl _ (HZ.out _) ?_)
   generalize (w.alloc (.cells zc 52)).alloc (.cells #[.slice sa n c, .int .i64 0, .bool false] 108)=w1 at HR1 ⊢
   go_upto_region 3 with (go_at_call 66; refine (HW1.out _ HR1.out).mono ?_;rintro e w2 ⟨v2,rfl,ho2,hr2⟩;have HR2:=Lib.hid hr2;have HO2:=Lib.hid ho2;clear hr2 ho2)
   go_upto_region 4 with (first|(go_at_call 67; refine (HW2.out _ HR2.out).mono ?_;rintro e w3 ⟨rfl,hk3,hr3⟩;have HR3:=Lib.hid hr3;have HO3:=Lib.hid (HO2.out.kept hk3 (fun k e=>by have:=HO2.out.lt k e;omega));clear hr3 hk3)|((with_reducible refine aS 14 ?_);refine wpList_build (by rfl) 52 _ rfl #[(0, .int .i64 id)] rfl _ (HBI.out _) ?_)|((with_reducible refine aS 6 ?_);refine wpList_alloc_row rfl 52 rfl _ (HZ.out _) ?_;have HR4:=Lib.hid (HR3.out.fresh ((Below.refl _ w3).alloc (Nat.le_refl _) (.cells zc 52)));have HO4:=Lib.hid (HO3.out.alloc (.cells zc 52));have HI4:Hid ((w3.alloc (.cells zc 52)).heap[w3.heap.size]? = some (.cells zc 52 (0,0))):=Lib.hid (blk_new w3 _);have HG6:Hid ((∀ k,v2.ownBlock=some k→k≠w3.heap.size)∧w.heap.size+1 < w3.heap.size∧(∀ a,sa=some a→a.block < w3.heap.size∨xs=[])):=Lib.hid ⟨fun k e=>by have:=HO3.out.lt k e;omega,by have:=blk_lt HR3.out.c.st;omega,HR3.out.adr⟩;generalize w3.heap.size=g6 at HI4 HG6 ⊢; generalize w3.alloc (.cells zc 52)=w4 at HR4 HO4 HI4 ⊢)|((with_reducible refine aT 6 ?_);refine wpList_store_whole rfl 52 _ _ rfl (g6) _ _ 52 HI4.out rfl rfl HSI.out HII.out HOI.out ?_;intro w5 hb5 hk5 hz5;have HI5:=Lib.hid hb5;have HR5:=Lib.hid (DoR.other HR4.out hk5 HG6.out.2.1 HG6.out.2.2);have HO5:=Lib.hid (HO4.out.kept hk5 (fun k e=>HG6.out.1 k e));clear hb5 hk5 hz5))
   (try simp only [World.size_alloc,Act.put,sA,sZ,sS])
   refine wp_region_held_drew (S:=fun u=>True) (by kernel_rfl) (trivial) (fun hHeld=>?_)
   refine wpAnyH_take (i:=0) (oi:=(⟨some 15,_,_,_,_,none⟩:Oper)) (v := .pointer (some ⟨g6,1,none⟩)) rfl (by kernel_rfl) (by kernel_rfl) (by kernel_rfl) (fun _ _ _ h=>h) (Or.inl ⟨by rfl,?hy157⟩) (by assumption) ?rest157
   case hy157=>(intro u hSu;(try dsimp only at hSu);go_simp;try (with_reducible rfl))
   (try simp only [Act.put,sA,sZ,sS])
   refine wpAnyH_take (i:=1) (oi:=(⟨some 16,_,_,_,_,none⟩:Oper)) (v := .slice (some ⟨g6,1,none⟩) 64 64) rfl (by kernel_rfl) (by kernel_rfl) (by kernel_rfl) (fun _ _ _ h=>h) (Or.inl ⟨by rfl,?hy158⟩) (by assumption) ?rest158
   case hy158=>(intro u hSu;(try dsimp only at hSu);go_simp;try (with_reducible rfl))
   (try simp only [Act.put,sA,sZ,sS])
   refine wpAnyH_take (i:=2) (oi:=(⟨some 17,_,_,_,_,none⟩:Oper)) (v := .pointer (some ⟨w.heap.size+1,0,none⟩)) rfl (by kernel_rfl) (by kernel_rfl) (by kernel_rfl) (fun _ _ _ h=>h) (Or.inl ⟨by rfl,?hy159⟩) (by assumption) ?rest159
   case hy159=>(intro u hSu;(try dsimp only at hSu);go_simp;try (with_reducible rfl))
   (try simp only [Act.put,sA,sZ,sS])
   refine wpAnyH_ready (rs:=[3]) (by kernel_rfl) (by simp) ?_
   refine AllReadyH.cons (o:=(⟨some 18,_,_,_,_,none⟩:Oper)) rfl (fun K hK=>?_) AllReadyH.nil
   go_simp
   go_at_call 66
   refine (HW3.out _ (HR5.out.fresh (Below.refl _ w5).drew)).mono ?_
   rintro e w6 ⟨s6,c6,rfl,hs6,hk6,hr6⟩
   have HR6:=Lib.hid hr6
   have HS6:=Lib.hid hs6
   have HI6:=Lib.hid (hk6.blk (Below.blk (Below.refl _ w5).drew HI5.out (blk_lt HI5.out)) (by have:=HG6.out.2.1;omega))
   have HO6:=Lib.hid ((HO5.out.below (Below.refl _ w5).drew).kept hk6 (fun k e=>by have:=HO5.out.lt k e;omega))
   clear hr6 hs6 hk6
   refine hK.out _ _ (trivial) (fun hHeld=>?_)
   clear hK K
   (try simp only [Act.put,sA,sZ,sS])
   refine wpAnyH_ready (rs:=[4]) (by kernel_rfl) (by simp) ?_
   refine AllReadyH.cons (o:=(⟨some 19,_,_,_,_,none⟩:Oper)) rfl (fun K hK=>?_) AllReadyH.nil
   refine step_copyC rfl (.tmp 16) (.tmp 18) rfl g6 1 64 64 gs.length c6 s6 zi gs 52 rfl rfl HI6.out HS6.out HGL.out (by rw [HZI.out];have:=HGL.out;omega) ?_
   intro w7 hb7 hk7
   rw [HSP.out] at hb7
   have HI7:=Lib.hid hb7
   have HR7:=Lib.hid (DoR.other HR6.out hk7 HG6.out.2.1 HG6.out.2.2)
   have HO7:=Lib.hid (HO6.out.kept hk7 (fun k e=>HG6.out.1 k e))
   clear hb7 hk7
   refine hK.out _ _ (trivial) (fun hHeld=>?_)
   clear hK K
   (try simp only [Act.put,sA,sZ,sS])
   refine wpAnyH_done (by kernel_rfl) ?_ _
   (try simp only [Exit.then])
   have cv:=HO7.out.str
   rw [HSH.out] at cv
   have c6:w7.cell? ⟨g6,0,none⟩=some (.int .i64 id):=by rw [cell_blk HI7.out];exact HP0.out
   go_wp2_with (first|((with_reducible show Calls _ 68 _ _ _);go_at_call 68; refine (HW4.out _ HR7.out).mono ?_;rintro e w8 ⟨rfl,hb8⟩;have HR8:=Lib.hid (HR7.out.fresh hb8);have c8:=below_cell hb8 c6;have HI8:=Lib.hid (Below.blk hb8 HI7.out (blk_lt HI7.out));clear hb8)|((with_reducible show Calls _ 48 _ _ _);go_at_call 48; refine (HM.out _).mono ?_;rintro e w9 ⟨rfl,rfl⟩)|((with_reducible refine aS 34 ?_);refine wpList_build (by rfl) 52 _ rfl #[] rfl _ (HZ0.out _) ?_)|((with_reducible refine aT 2 ?_);refine wpList_store_whole rfl 52 _ _ rfl (w.heap.size) _ _ 52 (by have h:=HR7.out.i;rw [HZC.out] at h;exact h) rfl rfl rfl HIZ.out HZ1.out ?_;intro w10 hb10 hk10 hz10;have HB10:=Lib.hid hb10;have HK10:=Lib.hid hk10;clear hb10 hk10 hz10))
   all_goals (try simp only [Exit.then])
   refine bodyPost_ret (results_cell_tmp_row rfl _ _ (w.heap.size) 52 _ (0,0) _ _ rfl HB10.out Tryd.underlying52 rfl HIZ.out rfl) rfl ?_
   exact ⟨by first|rfl|simp,HR7.out.b.trans ⟨HK10.out.os,HK10.out.tape,HK10.out.output,HK10.out.size,fun i hi=>HK10.out.block i (Nat.lt_of_lt_of_le hi HR7.out.b.size) (by omega)⟩⟩
end Go.Proofs.YtodnkallpfkdiaaDoor.Ce
