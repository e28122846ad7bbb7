/- portcullisref1.Cursor.Raw: the document's own. Condition: the cursor lies there. -/
import Derived.Test.YtodnkallpfkdiaaDoorMx
import Derived.Test.YtodnkallpfkdiaaDoorMz
import Derived.Test.YtodnkallpfkdiaaDoorMa
import Derived.Deep.RegionHeld3
set_option maxRecDepth 100000
set_option maxHeartbeats 16000000
set_option linter.unusedSimpArgs false
set_option linter.unusedVariables false
namespace Go.Proofs.YtodnkallpfkdiaaDoor.Bk
open Go.RowKit
theorem dbad_any (p:Nat) (sa:Option Addr) (c:Nat) (xs:List Int) (at' n:Int) (w:World) (h1:w.heap[p]? = some (.cells #[.slice sa xs.length c, .int .i64 at', .bool true] 108 (0,0))) (ha:0≤at'∧at'≤xs.length) (hl:xs.length≤1099511627776) :
  Calls Tryd.prog 66 #[.pointer (some ⟨p,0,none⟩), .int .i64 n] w fun e w'=>e = .returned (.slice none 0 0)∧w'.heap[p]? = some (.cells #[.slice sa xs.length c, .int .i64 at', .bool true] 108 (0,0))∧Kept (· = p) w w':=by
 have c0:w.cell? ⟨p,0,none⟩=some (.slice sa xs.length c):=cell_blk h1 0
 have c1:w.cell? ⟨p,1,none⟩=some (.int .i64 at'):=cell_blk h1 1
 have c2:w.cell? ⟨p,2,none⟩=some (.bool true):=cell_blk h1 2
 have f2:w.drew.frozen? ⟨p,2,none⟩=false:=free_blk h1 2
 have d2:w.drew.cell? ⟨p,2,none⟩=some (.bool true):=cell_blk h1 2
 have H1:Hid (w.heap[p]? = some (.cells #[.slice sa xs.length c, .int .i64 at', .bool true] 108 (0,0))):=Lib.hid h1
 clear h1
 go_enter Tryd.func66, Tryd.ntmps66
 go_upto_region 1 with fail
 refine wp_region_held_drew (S:=fun u=>u.cell? ⟨p,0,none⟩=some (.slice sa xs.length c)∧u.cell? ⟨p,1,none⟩=some (.int .i64 at')∧u.cell? ⟨p,2,none⟩=some (.bool true)) (by kernel_rfl) (⟨c0,c1,c2⟩) (fun hHeld=>?_)
 refine wpAnyH_take (i:=0) (oi:=(⟨some 6,_,_,_,_,none⟩:Oper)) (v := .pointer (some ⟨p,0,none⟩)) rfl (by kernel_rfl) (by kernel_rfl) (by kernel_rfl) (fun _ _ _ h=>h) (Or.inl ⟨by rfl,?hy101⟩) (by assumption) ?rest101
 case hy101=>(intro u hSu;(try dsimp only at hSu);go_simp;try (with_reducible rfl))
 (try simp only [Act.put,sA,sZ,sS])
 refine wpAnyH_take (i:=1) (oi:=(⟨some 7,_,_,_,_,none⟩:Oper)) (v := .pointer (some ⟨p,0,none⟩)) rfl (by kernel_rfl) (by kernel_rfl) (by kernel_rfl) (fun _ _ _ h=>h) (Or.inl ⟨by rfl,?hy102⟩) (by assumption) ?rest102
 case hy102=>(intro u hSu;(try dsimp only at hSu);go_simp;try (with_reducible rfl))
 (try simp only [Act.put,sA,sZ,sS])
 refine wpAnyH_take (i:=2) (oi:=(⟨some 8,_,_,_,_,none⟩:Oper)) (v := .pointer (some ⟨p,2,none⟩)) rfl (by kernel_rfl) (by kernel_rfl) (by kernel_rfl) (fun _ _ _ h=>h) (Or.inl ⟨by rfl,?hy103⟩) (by assumption) ?rest103
 case hy103=>(intro u hSu;(try dsimp only at hSu);go_simp;try (with_reducible rfl))
 (try simp only [Act.put,sA,sZ,sS])
 refine wpAnyH_take (i:=3) (oi:=(⟨some 9,_,_,_,_,none⟩:Oper)) (v := .bool true) rfl (by kernel_rfl) (by kernel_rfl) (by kernel_rfl) (fun _ _ _ h=>h) (Or.inl ⟨by rfl,?hy104⟩) (by assumption) ?rest104
 case hy104=>(intro u hSu;(try dsimp only at hSu);obtain ⟨k0,k1,k2⟩:=hSu;go_simp;try (with_reducible rfl))
 (try simp only [Act.put,sA,sZ,sS])
 refine wpAnyH_take (i:=4) (oi:=(⟨some 10,_,_,_,_,none⟩:Oper)) (v := .bool true) rfl (by kernel_rfl) (by kernel_rfl) (by kernel_rfl) (fun _ _ _ h=>h) (Or.inl ⟨by rfl,?hy105⟩) (by assumption) ?rest105
 case hy105=>(intro u hSu;(try dsimp only at hSu);go_simp;try (with_reducible rfl))
 (try simp only [Act.put,sA,sZ,sS])
 refine wpAnyH_take (i:=5) (oi:=(⟨some 11,_,_,_,_,_⟩:Oper)) (v:=undef) rfl (by kernel_rfl) (by kernel_rfl) (by kernel_rfl) (fun _ _ _ h=>h) (Or.inr ⟨by rfl,rfl⟩) (by assumption) ?_
 (try simp only [Act.put,sA,sZ,sS])
 refine wpAnyH_take (i:=6) (oi:=(⟨some 12,_,_,_,_,_⟩:Oper)) (v:=undef) rfl (by kernel_rfl) (by kernel_rfl) (by kernel_rfl) (fun _ _ _ h=>h) (Or.inr ⟨by rfl,rfl⟩) (by assumption) ?_
 (try simp only [Act.put,sA,sZ,sS])
 refine wpAnyH_take (i:=7) (oi:=(⟨some 13,_,_,_,_,none⟩:Oper)) (v := .bool true) rfl (by kernel_rfl) (by kernel_rfl) (by kernel_rfl) (fun _ _ _ h=>h) (Or.inl ⟨by rfl,?hy106⟩) (by assumption) ?rest106
 case hy106=>(intro u hSu;(try dsimp only at hSu);go_simp;try (with_reducible rfl))
 (try simp only [Act.put,sA,sZ,sS])
 refine wpAnyH_take (i:=8) (oi:=(⟨some 14,_,_,_,_,none⟩:Oper)) (v := .bool true) rfl (by kernel_rfl) (by kernel_rfl) (by kernel_rfl) (fun _ _ _ h=>h) (Or.inl ⟨by rfl,?hy107⟩) (by assumption) ?rest107
 case hy107=>(intro u hSu;(try dsimp only at hSu);go_simp;try (with_reducible rfl))
 (try simp only [Act.put,sA,sZ,sS])
 refine wpAnyH_take (i:=9) (oi:=(⟨some 15,_,_,_,_,_⟩:Oper)) (v:=undef) rfl (by kernel_rfl) (by kernel_rfl) (by kernel_rfl) (fun _ _ _ h=>h) (Or.inr ⟨by rfl,rfl⟩) (by assumption) ?_
 (try simp only [Act.put,sA,sZ,sS])
 refine wpAnyH_take (i:=10) (oi:=(⟨some 16,_,_,_,_,_⟩:Oper)) (v:=undef) rfl (by kernel_rfl) (by kernel_rfl) (by kernel_rfl) (fun _ _ _ h=>h) (Or.inr ⟨by rfl,rfl⟩) (by assumption) ?_
 (try simp only [Act.put,sA,sZ,sS])
 refine wpAnyH_take (i:=11) (oi:=(⟨some 17,_,_,_,_,_⟩:Oper)) (v:=undef) rfl (by kernel_rfl) (by kernel_rfl) (by kernel_rfl) (fun _ _ _ h=>h) (Or.inr ⟨by rfl,rfl⟩) (by assumption) ?_
 (try simp only [Act.put,sA,sZ,sS])
 refine wpAnyH_take (i:=12) (oi:=(⟨some 18,_,_,_,_,_⟩:Oper)) (v:=undef) rfl (by kernel_rfl) (by kernel_rfl) (by kernel_rfl) (fun _ _ _ h=>h) (Or.inr ⟨by rfl,rfl⟩) (by assumption) ?_
 (try simp only [Act.put,sA,sZ,sS])
 refine wpAnyH_take (i:=13) (oi:=(⟨some 19,_,_,_,_,_⟩:Oper)) (v:=undef) rfl (by kernel_rfl) (by kernel_rfl) (by kernel_rfl) (fun _ _ _ h=>h) (Or.inr ⟨by rfl,rfl⟩) (by assumption) ?_
 (try simp only [Act.put,sA,sZ,sS])
 refine wpAnyH_take (i:=14) (oi:=(⟨some 20,_,_,_,_,_⟩:Oper)) (v:=undef) rfl (by kernel_rfl) (by kernel_rfl) (by kernel_rfl) (fun _ _ _ h=>h) (Or.inr ⟨by rfl,rfl⟩) (by assumption) ?_
 (try simp only [Act.put,sA,sZ,sS])
 refine wpAnyH_take (i:=15) (oi:=(⟨some 21,_,_,_,_,_⟩:Oper)) (v:=undef) rfl (by kernel_rfl) (by kernel_rfl) (by kernel_rfl) (fun _ _ _ h=>h) (Or.inr ⟨by rfl,rfl⟩) (by assumption) ?_
 (try simp only [Act.put,sA,sZ,sS])
 refine wpAnyH_take (i:=16) (oi:=(⟨some 22,_,_,_,_,_⟩:Oper)) (v:=undef) rfl (by kernel_rfl) (by kernel_rfl) (by kernel_rfl) (fun _ _ _ h=>h) (Or.inr ⟨by rfl,rfl⟩) (by assumption) ?_
 (try simp only [Act.put,sA,sZ,sS])
 refine wpAnyH_take (i:=17) (oi:=(⟨some 23,_,_,_,_,_⟩:Oper)) (v:=undef) rfl (by kernel_rfl) (by kernel_rfl) (by kernel_rfl) (fun _ _ _ h=>h) (Or.inr ⟨by rfl,rfl⟩) (by assumption) ?_
 (try simp only [Act.put,sA,sZ,sS])
 refine wpAnyH_take (i:=18) (oi:=(⟨some 24,_,_,_,_,_⟩:Oper)) (v:=undef) rfl (by kernel_rfl) (by kernel_rfl) (by kernel_rfl) (fun _ _ _ h=>h) (Or.inr ⟨by rfl,rfl⟩) (by assumption) ?_
 (try simp only [Act.put,sA,sZ,sS])
 refine wpAnyH_take (i:=19) (oi:=(⟨some 25,_,_,_,_,_⟩:Oper)) (v:=undef) rfl (by kernel_rfl) (by kernel_rfl) (by kernel_rfl) (fun _ _ _ h=>h) (Or.inr ⟨by rfl,rfl⟩) (by assumption) ?_
 (try simp only [Act.put,sA,sZ,sS])
 refine wpAnyH_take (i:=20) (oi:=(⟨some 26,_,_,_,_,_⟩:Oper)) (v:=undef) rfl (by kernel_rfl) (by kernel_rfl) (by kernel_rfl) (fun _ _ _ h=>h) (Or.inr ⟨by rfl,rfl⟩) (by assumption) ?_
 (try simp only [Act.put,sA,sZ,sS])
 refine wpAnyH_take (i:=21) (oi:=(⟨some 27,_,_,_,_,none⟩:Oper)) (v := .bool true) rfl (by kernel_rfl) (by kernel_rfl) (by kernel_rfl) (fun _ _ _ h=>h) (Or.inl ⟨by rfl,?hy108⟩) (by assumption) ?rest108
 case hy108=>(intro u hSu;(try dsimp only at hSu);go_simp;try (with_reducible rfl))
 (try simp only [Act.put,sA,sZ,sS])
 refine wpAnyH_done (by kernel_rfl) ?_ _
 (try simp only [Exit.then])
 go_wp2_with fail
 go_ret
 exact ⟨rfl,by show (w.setCell ⟨p,2,none⟩ (.bool true)).heap[p]? = _;rw [blk_setCell H1.out];simp,((Kept.refl _ w).at _ _).drewN 1⟩
theorem dneg_any (p:Nat) (sa:Option Addr) (c:Nat) (xs:List Int) (at' n:Int) (w:World) (h1:w.heap[p]? = some (.cells #[.slice sa xs.length c, .int .i64 at', .bool false] 108 (0,0))) (ha:0≤at'∧at'≤xs.length) (hl:xs.length≤1099511627776) (hn:n < 0) :
  Calls Tryd.prog 66 #[.pointer (some ⟨p,0,none⟩), .int .i64 n] w fun e w'=>e = .returned (.slice none 0 0)∧w'.heap[p]? = some (.cells #[.slice sa xs.length c, .int .i64 at', .bool true] 108 (0,0))∧Kept (· = p) w w':=by
 have c0:w.cell? ⟨p,0,none⟩=some (.slice sa xs.length c):=cell_blk h1 0
 have c1:w.cell? ⟨p,1,none⟩=some (.int .i64 at'):=cell_blk h1 1
 have c2:w.cell? ⟨p,2,none⟩=some (.bool false):=cell_blk h1 2
 have f2:w.drew.frozen? ⟨p,2,none⟩=false:=free_blk h1 2
 have d2:w.drew.cell? ⟨p,2,none⟩=some (.bool false):=cell_blk h1 2
 have H1:Hid (w.heap[p]? = some (.cells #[.slice sa xs.length c, .int .i64 at', .bool false] 108 (0,0))):=Lib.hid h1
 clear h1
 go_enter Tryd.func66, Tryd.ntmps66
 go_upto_region 1 with fail
 refine wp_region_held_drew (S:=fun u=>u.cell? ⟨p,0,none⟩=some (.slice sa xs.length c)∧u.cell? ⟨p,1,none⟩=some (.int .i64 at')∧u.cell? ⟨p,2,none⟩=some (.bool false)) (by kernel_rfl) (⟨c0,c1,c2⟩) (fun hHeld=>?_)
 refine wpAnyH_take (i:=0) (oi:=(⟨some 6,_,_,_,_,none⟩:Oper)) (v := .pointer (some ⟨p,0,none⟩)) rfl (by kernel_rfl) (by kernel_rfl) (by kernel_rfl) (fun _ _ _ h=>h) (Or.inl ⟨by rfl,?hy109⟩) (by assumption) ?rest109
 case hy109=>(intro u hSu;(try dsimp only at hSu);go_simp;try (with_reducible rfl))
 (try simp only [Act.put,sA,sZ,sS])
 refine wpAnyH_take (i:=1) (oi:=(⟨some 7,_,_,_,_,none⟩:Oper)) (v := .pointer (some ⟨p,0,none⟩)) rfl (by kernel_rfl) (by kernel_rfl) (by kernel_rfl) (fun _ _ _ h=>h) (Or.inl ⟨by rfl,?hy110⟩) (by assumption) ?rest110
 case hy110=>(intro u hSu;(try dsimp only at hSu);go_simp;try (with_reducible rfl))
 (try simp only [Act.put,sA,sZ,sS])
 refine wpAnyH_take (i:=2) (oi:=(⟨some 8,_,_,_,_,none⟩:Oper)) (v := .pointer (some ⟨p,2,none⟩)) rfl (by kernel_rfl) (by kernel_rfl) (by kernel_rfl) (fun _ _ _ h=>h) (Or.inl ⟨by rfl,?hy111⟩) (by assumption) ?rest111
 case hy111=>(intro u hSu;(try dsimp only at hSu);go_simp;try (with_reducible rfl))
 (try simp only [Act.put,sA,sZ,sS])
 refine wpAnyH_take (i:=3) (oi:=(⟨some 9,_,_,_,_,none⟩:Oper)) (v := .bool false) rfl (by kernel_rfl) (by kernel_rfl) (by kernel_rfl) (fun _ _ _ h=>h) (Or.inl ⟨by rfl,?hy112⟩) (by assumption) ?rest112
 case hy112=>(intro u hSu;(try dsimp only at hSu);obtain ⟨k0,k1,k2⟩:=hSu;go_simp;try (with_reducible rfl))
 (try simp only [Act.put,sA,sZ,sS])
 refine wpAnyH_take (i:=4) (oi:=(⟨some 10,_,_,_,_,none⟩:Oper)) (v := .bool false) rfl (by kernel_rfl) (by kernel_rfl) (by kernel_rfl) (fun _ _ _ h=>h) (Or.inl ⟨by rfl,?hy113⟩) (by assumption) ?rest113
 case hy113=>(intro u hSu;(try dsimp only at hSu);go_simp;try (with_reducible rfl))
 (try simp only [Act.put,sA,sZ,sS])
 refine wpAnyH_take (i:=5) (oi:=(⟨some 11,_,_,_,_,_⟩:Oper)) (v := .int .i64 n) rfl (by kernel_rfl) (by kernel_rfl) (by kernel_rfl) (fun _ _ _ h=>h) (Or.inl ⟨by rfl,?hy114⟩) (by assumption) ?rest114
 case hy114=>(intro u hSu;(try dsimp only at hSu);go_simp;try (with_reducible rfl))
 (try simp only [Act.put,sA,sZ,sS])
 refine wpAnyH_take (i:=6) (oi:=(⟨some 12,_,_,_,_,_⟩:Oper)) (v := .bool true) rfl (by kernel_rfl) (by kernel_rfl) (by kernel_rfl) (fun _ _ _ h=>h) (Or.inl ⟨by rfl,?hy115⟩) (by assumption) ?rest115
 case hy115=>(intro u hSu;(try dsimp only at hSu);go_simp;try (with_reducible rfl))
 (try simp only [Act.put,sA,sZ,sS])
 refine wpAnyH_take (i:=7) (oi:=(⟨some 13,_,_,_,_,none⟩:Oper)) (v := .bool true) rfl (by kernel_rfl) (by kernel_rfl) (by kernel_rfl) (fun _ _ _ h=>h) (Or.inl ⟨by rfl,?hy116⟩) (by assumption) ?rest116
 case hy116=>(intro u hSu;(try dsimp only at hSu);go_simp;try (with_reducible rfl))
 (try simp only [Act.put,sA,sZ,sS])
 refine wpAnyH_take (i:=8) (oi:=(⟨some 14,_,_,_,_,none⟩:Oper)) (v := .bool true) rfl (by kernel_rfl) (by kernel_rfl) (by kernel_rfl) (fun _ _ _ h=>h) (Or.inl ⟨by rfl,?hy117⟩) (by assumption) ?rest117
 case hy117=>(intro u hSu;(try dsimp only at hSu);go_simp;try (with_reducible rfl))
 (try simp only [Act.put,sA,sZ,sS])
 refine wpAnyH_take (i:=9) (oi:=(⟨some 15,_,_,_,_,_⟩:Oper)) (v:=undef) rfl (by kernel_rfl) (by kernel_rfl) (by kernel_rfl) (fun _ _ _ h=>h) (Or.inr ⟨by rfl,rfl⟩) (by assumption) ?_
 (try simp only [Act.put,sA,sZ,sS])
 refine wpAnyH_take (i:=10) (oi:=(⟨some 16,_,_,_,_,_⟩:Oper)) (v:=undef) rfl (by kernel_rfl) (by kernel_rfl) (by kernel_rfl) (fun _ _ _ h=>h) (Or.inr ⟨by rfl,rfl⟩) (by assumption) ?_
 (try simp only [Act.put,sA,sZ,sS])
 refine wpAnyH_take (i:=11) (oi:=(⟨some 17,_,_,_,_,_⟩:Oper)) (v:=undef) rfl (by kernel_rfl) (by kernel_rfl) (by kernel_rfl) (fun _ _ _ h=>h) (Or.inr ⟨by rfl,rfl⟩) (by assumption) ?_
 (try simp only [Act.put,sA,sZ,sS])
 refine wpAnyH_take (i:=12) (oi:=(⟨some 18,_,_,_,_,_⟩:Oper)) (v:=undef) rfl (by kernel_rfl) (by kernel_rfl) (by kernel_rfl) (fun _ _ _ h=>h) (Or.inr ⟨by rfl,rfl⟩) (by assumption) ?_
 (try simp only [Act.put,sA,sZ,sS])
 refine wpAnyH_take (i:=13) (oi:=(⟨some 19,_,_,_,_,_⟩:Oper)) (v:=undef) rfl (by kernel_rfl) (by kernel_rfl) (by kernel_rfl) (fun _ _ _ h=>h) (Or.inr ⟨by rfl,rfl⟩) (by assumption) ?_
 (try simp only [Act.put,sA,sZ,sS])
 refine wpAnyH_take (i:=14) (oi:=(⟨some 20,_,_,_,_,_⟩:Oper)) (v:=undef) rfl (by kernel_rfl) (by kernel_rfl) (by kernel_rfl) (fun _ _ _ h=>h) (Or.inr ⟨by rfl,rfl⟩) (by assumption) ?_
 (try simp only [Act.put,sA,sZ,sS])
 refine wpAnyH_take (i:=15) (oi:=(⟨some 21,_,_,_,_,_⟩:Oper)) (v:=undef) rfl (by kernel_rfl) (by kernel_rfl) (by kernel_rfl) (fun _ _ _ h=>h) (Or.inr ⟨by rfl,rfl⟩) (by assumption) ?_
 (try simp only [Act.put,sA,sZ,sS])
 refine wpAnyH_take (i:=16) (oi:=(⟨some 22,_,_,_,_,_⟩:Oper)) (v:=undef) rfl (by kernel_rfl) (by kernel_rfl) (by kernel_rfl) (fun _ _ _ h=>h) (Or.inr ⟨by rfl,rfl⟩) (by assumption) ?_
 (try simp only [Act.put,sA,sZ,sS])
 refine wpAnyH_take (i:=17) (oi:=(⟨some 23,_,_,_,_,_⟩:Oper)) (v:=undef) rfl (by kernel_rfl) (by kernel_rfl) (by kernel_rfl) (fun _ _ _ h=>h) (Or.inr ⟨by rfl,rfl⟩) (by assumption) ?_
 (try simp only [Act.put,sA,sZ,sS])
 refine wpAnyH_take (i:=18) (oi:=(⟨some 24,_,_,_,_,_⟩:Oper)) (v:=undef) rfl (by kernel_rfl) (by kernel_rfl) (by kernel_rfl) (fun _ _ _ h=>h) (Or.inr ⟨by rfl,rfl⟩) (by assumption) ?_
 (try simp only [Act.put,sA,sZ,sS])
 refine wpAnyH_take (i:=19) (oi:=(⟨some 25,_,_,_,_,_⟩:Oper)) (v:=undef) rfl (by kernel_rfl) (by kernel_rfl) (by kernel_rfl) (fun _ _ _ h=>h) (Or.inr ⟨by rfl,rfl⟩) (by assumption) ?_
 (try simp only [Act.put,sA,sZ,sS])
 refine wpAnyH_take (i:=20) (oi:=(⟨some 26,_,_,_,_,_⟩:Oper)) (v:=undef) rfl (by kernel_rfl) (by kernel_rfl) (by kernel_rfl) (fun _ _ _ h=>h) (Or.inr ⟨by rfl,rfl⟩) (by assumption) ?_
 (try simp only [Act.put,sA,sZ,sS])
 refine wpAnyH_take (i:=21) (oi:=(⟨some 27,_,_,_,_,none⟩:Oper)) (v := .bool true) rfl (by kernel_rfl) (by kernel_rfl) (by kernel_rfl) (fun _ _ _ h=>h) (Or.inl ⟨by rfl,?hy118⟩) (by assumption) ?rest118
 case hy118=>(intro u hSu;(try dsimp only at hSu);go_simp;try (with_reducible rfl))
 (try simp only [Act.put,sA,sZ,sS])
 refine wpAnyH_done (by kernel_rfl) ?_ _
 (try simp only [Exit.then])
 go_wp2_with fail
 go_ret
 exact ⟨rfl,by show (w.setCell ⟨p,2,none⟩ (.bool true)).heap[p]? = _;rw [blk_setCell H1.out];simp,((Kept.refl _ w).at _ _).drewN 1⟩
theorem dlong_any (p:Nat) (sa:Option Addr) (c:Nat) (xs:List Int) (at' n:Int) (w:World) (h1:w.heap[p]? = some (.cells #[.slice sa xs.length c, .int .i64 at', .bool false] 108 (0,0))) (ha:0≤at'∧at'≤xs.length) (hl:xs.length≤1099511627776) (hn:0≤n∧(xs.length:Int) - at' < n) :
  Calls Tryd.prog 66 #[.pointer (some ⟨p,0,none⟩), .int .i64 n] w fun e w'=>e = .returned (.slice none 0 0)∧w'.heap[p]? = some (.cells #[.slice sa xs.length c, .int .i64 at', .bool true] 108 (0,0))∧Kept (· = p) w w':=by
 have c0:w.cell? ⟨p,0,none⟩=some (.slice sa xs.length c):=cell_blk h1 0
 have c1:w.cell? ⟨p,1,none⟩=some (.int .i64 at'):=cell_blk h1 1
 have c2:w.cell? ⟨p,2,none⟩=some (.bool false):=cell_blk h1 2
 have f2:w.drew.frozen? ⟨p,2,none⟩=false:=free_blk h1 2
 have d2:w.drew.cell? ⟨p,2,none⟩=some (.bool false):=cell_blk h1 2
 have H1:Hid (w.heap[p]? = some (.cells #[.slice sa xs.length c, .int .i64 at', .bool false] 108 (0,0))):=Lib.hid h1
 clear h1
 go_enter Tryd.func66, Tryd.ntmps66
 go_upto_region 1 with fail
 refine wp_region_held_drew (S:=fun u=>u.cell? ⟨p,0,none⟩=some (.slice sa xs.length c)∧u.cell? ⟨p,1,none⟩=some (.int .i64 at')∧u.cell? ⟨p,2,none⟩=some (.bool false)) (by kernel_rfl) (⟨c0,c1,c2⟩) (fun hHeld=>?_)
 refine wpAnyH_take (i:=0) (oi:=(⟨some 6,_,_,_,_,none⟩:Oper)) (v := .pointer (some ⟨p,0,none⟩)) rfl (by kernel_rfl) (by kernel_rfl) (by kernel_rfl) (fun _ _ _ h=>h) (Or.inl ⟨by rfl,?hy119⟩) (by assumption) ?rest119
 case hy119=>(intro u hSu;(try dsimp only at hSu);go_simp;try (with_reducible rfl))
 (try simp only [Act.put,sA,sZ,sS])
 refine wpAnyH_take (i:=1) (oi:=(⟨some 7,_,_,_,_,none⟩:Oper)) (v := .pointer (some ⟨p,0,none⟩)) rfl (by kernel_rfl) (by kernel_rfl) (by kernel_rfl) (fun _ _ _ h=>h) (Or.inl ⟨by rfl,?hy120⟩) (by assumption) ?rest120
 case hy120=>(intro u hSu;(try dsimp only at hSu);go_simp;try (with_reducible rfl))
 (try simp only [Act.put,sA,sZ,sS])
 refine wpAnyH_take (i:=2) (oi:=(⟨some 8,_,_,_,_,none⟩:Oper)) (v := .pointer (some ⟨p,2,none⟩)) rfl (by kernel_rfl) (by kernel_rfl) (by kernel_rfl) (fun _ _ _ h=>h) (Or.inl ⟨by rfl,?hy121⟩) (by assumption) ?rest121
 case hy121=>(intro u hSu;(try dsimp only at hSu);go_simp;try (with_reducible rfl))
 (try simp only [Act.put,sA,sZ,sS])
 refine wpAnyH_take (i:=3) (oi:=(⟨some 9,_,_,_,_,none⟩:Oper)) (v := .bool false) rfl (by kernel_rfl) (by kernel_rfl) (by kernel_rfl) (fun _ _ _ h=>h) (Or.inl ⟨by rfl,?hy122⟩) (by assumption) ?rest122
 case hy122=>(intro u hSu;(try dsimp only at hSu);obtain ⟨k0,k1,k2⟩:=hSu;go_simp;try (with_reducible rfl))
 (try simp only [Act.put,sA,sZ,sS])
 refine wpAnyH_take (i:=4) (oi:=(⟨some 10,_,_,_,_,none⟩:Oper)) (v := .bool false) rfl (by kernel_rfl) (by kernel_rfl) (by kernel_rfl) (fun _ _ _ h=>h) (Or.inl ⟨by rfl,?hy123⟩) (by assumption) ?rest123
 case hy123=>(intro u hSu;(try dsimp only at hSu);go_simp;try (with_reducible rfl))
 (try simp only [Act.put,sA,sZ,sS])
 refine wpAnyH_take (i:=5) (oi:=(⟨some 11,_,_,_,_,_⟩:Oper)) (v := .int .i64 n) rfl (by kernel_rfl) (by kernel_rfl) (by kernel_rfl) (fun _ _ _ h=>h) (Or.inl ⟨by rfl,?hy124⟩) (by assumption) ?rest124
 case hy124=>(intro u hSu;(try dsimp only at hSu);go_simp;try (with_reducible rfl))
 (try simp only [Act.put,sA,sZ,sS])
 refine wpAnyH_take (i:=6) (oi:=(⟨some 12,_,_,_,_,_⟩:Oper)) (v := .bool false) rfl (by kernel_rfl) (by kernel_rfl) (by kernel_rfl) (fun _ _ _ h=>h) (Or.inl ⟨by rfl,?hy125⟩) (by assumption) ?rest125
 case hy125=>(intro u hSu;(try dsimp only at hSu);go_simp;try (with_reducible rfl))
 (try simp only [Act.put,sA,sZ,sS])
 refine wpAnyH_take (i:=7) (oi:=(⟨some 13,_,_,_,_,none⟩:Oper)) (v := .bool false) rfl (by kernel_rfl) (by kernel_rfl) (by kernel_rfl) (fun _ _ _ h=>h) (Or.inl ⟨by rfl,?hy126⟩) (by assumption) ?rest126
 case hy126=>(intro u hSu;(try dsimp only at hSu);go_simp;try (with_reducible rfl))
 (try simp only [Act.put,sA,sZ,sS])
 refine wpAnyH_take (i:=8) (oi:=(⟨some 14,_,_,_,_,none⟩:Oper)) (v := .bool false) rfl (by kernel_rfl) (by kernel_rfl) (by kernel_rfl) (fun _ _ _ h=>h) (Or.inl ⟨by rfl,?hy127⟩) (by assumption) ?rest127
 case hy127=>(intro u hSu;(try dsimp only at hSu);go_simp;try (with_reducible rfl))
 (try simp only [Act.put,sA,sZ,sS])
 refine wpAnyH_take (i:=9) (oi:=(⟨some 15,_,_,_,_,_⟩:Oper)) (v := .int .i64 n) rfl (by kernel_rfl) (by kernel_rfl) (by kernel_rfl) (fun _ _ _ h=>h) (Or.inl ⟨by rfl,?hy128⟩) (by assumption) ?rest128
 case hy128=>(intro u hSu;(try dsimp only at hSu);go_simp;try (with_reducible rfl))
 (try simp only [Act.put,sA,sZ,sS])
 refine wpAnyH_take (i:=10) (oi:=(⟨some 16,_,_,_,_,_⟩:Oper)) (v := .pointer (some ⟨p,0,none⟩)) rfl (by kernel_rfl) (by kernel_rfl) (by kernel_rfl) (fun _ _ _ h=>h) (Or.inl ⟨by rfl,?hy129⟩) (by assumption) ?rest129
 case hy129=>(intro u hSu;(try dsimp only at hSu);go_simp;try (with_reducible rfl))
 (try simp only [Act.put,sA,sZ,sS])
 refine wpAnyH_take (i:=11) (oi:=(⟨some 17,_,_,_,_,_⟩:Oper)) (v := .pointer (some ⟨p,0,none⟩)) rfl (by kernel_rfl) (by kernel_rfl) (by kernel_rfl) (fun _ _ _ h=>h) (Or.inl ⟨by rfl,?hy130⟩) (by assumption) ?rest130
 case hy130=>(intro u hSu;(try dsimp only at hSu);go_simp;try (with_reducible rfl))
 (try simp only [Act.put,sA,sZ,sS])
 refine wpAnyH_take (i:=12) (oi:=(⟨some 18,_,_,_,_,_⟩:Oper)) (v := .pointer (some ⟨p,0,none⟩)) rfl (by kernel_rfl) (by kernel_rfl) (by kernel_rfl) (fun _ _ _ h=>h) (Or.inl ⟨by rfl,?hy131⟩) (by assumption) ?rest131
 case hy131=>(intro u hSu;(try dsimp only at hSu);go_simp;try (with_reducible rfl))
 (try simp only [Act.put,sA,sZ,sS])
 refine wpAnyH_take (i:=13) (oi:=(⟨some 19,_,_,_,_,_⟩:Oper)) (v := .slice sa xs.length c) rfl (by kernel_rfl) (by kernel_rfl) (by kernel_rfl) (fun _ _ _ h=>h) (Or.inl ⟨by rfl,?hy132⟩) (by assumption) ?rest132
 case hy132=>(intro u hSu;(try dsimp only at hSu);obtain ⟨k0,k1,k2⟩:=hSu;go_simp;try (with_reducible rfl))
 (try simp only [Act.put,sA,sZ,sS])
 refine wpAnyH_take (i:=14) (oi:=(⟨some 20,_,_,_,_,_⟩:Oper)) (v := .int .i64 xs.length) rfl (by kernel_rfl) (by kernel_rfl) (by kernel_rfl) (fun _ _ _ h=>h) (Or.inl ⟨by rfl,?hy133⟩) (by assumption) ?rest133
 case hy133=>(intro u hSu;(try dsimp only at hSu);go_simp;try (with_reducible rfl))
 (try simp only [Act.put,sA,sZ,sS])
 refine wpAnyH_take (i:=15) (oi:=(⟨some 21,_,_,_,_,_⟩:Oper)) (v := .pointer (some ⟨p,0,none⟩)) rfl (by kernel_rfl) (by kernel_rfl) (by kernel_rfl) (fun _ _ _ h=>h) (Or.inl ⟨by rfl,?hy134⟩) (by assumption) ?rest134
 case hy134=>(intro u hSu;(try dsimp only at hSu);go_simp;try (with_reducible rfl))
 (try simp only [Act.put,sA,sZ,sS])
 refine wpAnyH_take (i:=16) (oi:=(⟨some 22,_,_,_,_,_⟩:Oper)) (v := .pointer (some ⟨p,0,none⟩)) rfl (by kernel_rfl) (by kernel_rfl) (by kernel_rfl) (fun _ _ _ h=>h) (Or.inl ⟨by rfl,?hy135⟩) (by assumption) ?rest135
 case hy135=>(intro u hSu;(try dsimp only at hSu);go_simp;try (with_reducible rfl))
 (try simp only [Act.put,sA,sZ,sS])
 refine wpAnyH_take (i:=17) (oi:=(⟨some 23,_,_,_,_,_⟩:Oper)) (v := .pointer (some ⟨p,1,none⟩)) rfl (by kernel_rfl) (by kernel_rfl) (by kernel_rfl) (fun _ _ _ h=>h) (Or.inl ⟨by rfl,?hy136⟩) (by assumption) ?rest136
 case hy136=>(intro u hSu;(try dsimp only at hSu);go_simp;try (with_reducible rfl))
 (try simp only [Act.put,sA,sZ,sS])
 refine wpAnyH_take (i:=18) (oi:=(⟨some 24,_,_,_,_,_⟩:Oper)) (v := .int .i64 at') rfl (by kernel_rfl) (by kernel_rfl) (by kernel_rfl) (fun _ _ _ h=>h) (Or.inl ⟨by rfl,?hy137⟩) (by assumption) ?rest137
 case hy137=>(intro u hSu;(try dsimp only at hSu);obtain ⟨k0,k1,k2⟩:=hSu;go_simp;try (with_reducible rfl))
 (try simp only [Act.put,sA,sZ,sS])
 refine wpAnyH_take (i:=19) (oi:=(⟨some 25,_,_,_,_,_⟩:Oper)) (v := .int .i64 ((xs.length:Int) - at')) rfl (by kernel_rfl) (by kernel_rfl) (by kernel_rfl) (fun _ _ _ h=>h) (Or.inl ⟨by rfl,?hy138⟩) (by assumption) ?rest138
 case hy138=>(intro u hSu;(try dsimp only at hSu);go_simp;first|(with_reducible rfl)|go_num|(rw [IntKind.wrap_i64];omega))
 (try simp only [Act.put,sA,sZ,sS])
 refine wpAnyH_take (i:=20) (oi:=(⟨some 26,_,_,_,_,_⟩:Oper)) (v := .bool true) rfl (by kernel_rfl) (by kernel_rfl) (by kernel_rfl) (fun _ _ _ h=>h) (Or.inl ⟨by rfl,?hy139⟩) (by assumption) ?rest139
 case hy139=>(intro u hSu;(try dsimp only at hSu);go_simp;try (with_reducible rfl))
 (try simp only [Act.put,sA,sZ,sS])
 refine wpAnyH_take (i:=21) (oi:=(⟨some 27,_,_,_,_,none⟩:Oper)) (v := .bool true) rfl (by kernel_rfl) (by kernel_rfl) (by kernel_rfl) (fun _ _ _ h=>h) (Or.inl ⟨by rfl,?hy140⟩) (by assumption) ?rest140
 case hy140=>(intro u hSu;(try dsimp only at hSu);go_simp;try (with_reducible rfl))
 (try simp only [Act.put,sA,sZ,sS])
 refine wpAnyH_done (by kernel_rfl) ?_ _
 (try simp only [Exit.then])
 go_wp2_with fail
 go_ret
 exact ⟨rfl,by show (w.setCell ⟨p,2,none⟩ (.bool true)).heap[p]? = _;rw [blk_setCell H1.out];simp,((Kept.refl _ w).at _ _).drewN 1⟩
/-- What 'b[k : k + m]' is. -/
theorem cut_run (g off L c k m:Nat) (hm:k+m≤L) (hc:L≤c):∃ s2 c2,(s2=some (if c=k then ⟨g,off,none⟩ else (⟨g,off,none⟩:Addr).add k))∧∀ u,(Instr.sliceAt 24 (.slice (some ⟨g,off,none⟩) L c) (some (.int .i64 (k:Int))) (some (.int .i64 ((k+m:Nat):Int))) none).run Tryd.prog u = .ok (.slice s2 m c2) u:=by
 refine ⟨some (if c=k then ⟨g,off,none⟩ else (⟨g,off,none⟩:Addr).add k),c - k,rfl,fun u=>?_⟩
 have h1:¬ ((k+m:Nat):Int) < (k:Int):=by omega
 have h2:¬ (k:Int) < 0:=by omega
 have h3:¬ (c:Int) < ((k+m:Nat):Int):=by omega
 have h4:¬ ((k+m:Nat):Int) < 0:=by omega
 have e1:(((k+m:Nat):Int) - (k:Int)).toNat=m:=by omega
 have e2:((c:Int) - (k:Int)).toNat=c - k:=by omega
 have e3:((c:Int)=(k:Int))=(c=k):=propext (by omega)
 go_simp
 rw [if_pos (by omega),if_pos (by omega),show ((k:Int)+(m:Int)).toNat - k=m by omega]
 by_cases e:c=k
 ·rw [if_pos e,if_pos e]
 ·rw [if_neg e,if_neg e]
theorem dok_any (p g off c k m:Nat) (xs:List Int) (w:World) (h1:w.heap[p]? = some (.cells #[.slice (some ⟨g,off,none⟩) xs.length c, .int .i64 (k:Int), .bool false] 108 (0,0))) (hs:Src w (some ⟨g,off,none⟩) xs.length xs) (hc:xs.length≤c) (hm:k+m≤xs.length) (hl:xs.length≤1099511627776) :
  Calls Tryd.prog 66 #[.pointer (some ⟨p,0,none⟩), .int .i64 (m:Int)] w fun e w'=>∃ v,e = .returned v∧Own8 w' w.heap.size v ((xs.drop k).take m)∧w'.heap[p]? = some (.cells #[.slice (some ⟨g,off,none⟩) xs.length c, .int .i64 ((k+m:Nat):Int), .bool false] 108 (0,0))∧Kept (· = p) w w':=by
 have c0:w.cell? ⟨p,0,none⟩=some (.slice (some ⟨g,off,none⟩) xs.length c):=cell_blk h1 0
 have c1:w.cell? ⟨p,1,none⟩=some (.int .i64 (k:Int)):=cell_blk h1 1
 have c2:w.cell? ⟨p,2,none⟩=some (.bool false):=cell_blk h1 2
 obtain ⟨s2,c3,es,hsl⟩:=cut_run g off xs.length c k m hm hc
 have hs2:Src w s2 m ((xs.drop k).take m):=by
  subst es
  by_cases e:c=k
  ·obtain rfl:m=0:=by omega
   rw [List.take_zero]
   exact ⟨rfl,fun i hi=>absurd hi (by omega)⟩
  ·rw [if_neg e]
   exact hs.part k m hm
 have HSL:=Lib.hid hsl
 have HS2:=Lib.hid hs2
 have H1:=Lib.hid h1
 have HLT:=Lib.hid (blk_lt h1)
 have HM:=Lib.hid hm
 have hn0:¬ (m:Int) < 0:=by omega
 have hn1:¬ (xs.length:Int) - (k:Int) < (m:Int):=by omega
 clear h1 hsl hs2 hs es
 go_enter Tryd.func66, Tryd.ntmps66
 go_upto_region 1 with fail
 refine wp_region_held_drew (S:=fun u=>u.cell? ⟨p,0,none⟩=some (.slice (some ⟨g,off,none⟩) xs.length c)∧u.cell? ⟨p,1,none⟩=some (.int .i64 (k:Int))∧u.cell? ⟨p,2,none⟩=some (.bool false)) (by kernel_rfl) (⟨c0,c1,c2⟩) (fun hHeld=>?_)
 refine wpAnyH_take (i:=0) (oi:=(⟨some 6,_,_,_,_,none⟩:Oper)) (v := .pointer (some ⟨p,0,none⟩)) rfl (by kernel_rfl) (by kernel_rfl) (by kernel_rfl) (fun _ _ _ h=>h) (Or.inl ⟨by rfl,?hy141⟩) (by assumption) ?rest141
 case hy141=>(intro u hSu;(try dsimp only at hSu);go_simp;try (with_reducible rfl))
 (try simp only [Act.put,sA,sZ,sS])
 refine wpAnyH_take (i:=1) (oi:=(⟨some 7,_,_,_,_,none⟩:Oper)) (v := .pointer (some ⟨p,0,none⟩)) rfl (by kernel_rfl) (by kernel_rfl) (by kernel_rfl) (fun _ _ _ h=>h) (Or.inl ⟨by rfl,?hy142⟩) (by assumption) ?rest142
 case hy142=>(intro u hSu;(try dsimp only at hSu);go_simp;try (with_reducible rfl))
 (try simp only [Act.put,sA,sZ,sS])
 refine wpAnyH_take (i:=2) (oi:=(⟨some 8,_,_,_,_,none⟩:Oper)) (v := .pointer (some ⟨p,2,none⟩)) rfl (by kernel_rfl) (by kernel_rfl) (by kernel_rfl) (fun _ _ _ h=>h) (Or.inl ⟨by rfl,?hy143⟩) (by assumption) ?rest143
 case hy143=>(intro u hSu;(try dsimp only at hSu);go_simp;try (with_reducible rfl))
 (try simp only [Act.put,sA,sZ,sS])
 refine wpAnyH_take (i:=3) (oi:=(⟨some 9,_,_,_,_,none⟩:Oper)) (v := .bool false) rfl (by kernel_rfl) (by kernel_rfl) (by kernel_rfl) (fun _ _ _ h=>h) (Or.inl ⟨by rfl,?hy144⟩) (by assumption) ?rest144
 case hy144=>(intro u hSu;(try dsimp only at hSu);obtain ⟨k0,k1,k2⟩:=hSu;go_simp;try (with_reducible rfl))
 (try simp only [Act.put,sA,sZ,sS])
 refine wpAnyH_take (i:=4) (oi:=(⟨some 10,_,_,_,_,none⟩:Oper)) (v := .bool false) rfl (by kernel_rfl) (by kernel_rfl) (by kernel_rfl) (fun _ _ _ h=>h) (Or.inl ⟨by rfl,?hy145⟩) (by assumption) ?rest145
 case hy145=>(intro u hSu;(try dsimp only at hSu);go_simp;try (with_reducible rfl))
 (try simp only [Act.put,sA,sZ,sS])
 refine wpAnyH_take (i:=5) (oi:=(⟨some 11,_,_,_,_,_⟩:Oper)) (v := .int .i64 (m:Int)) rfl (by kernel_rfl) (by kernel_rfl) (by kernel_rfl) (fun _ _ _ h=>h) (Or.inl ⟨by rfl,?hy146⟩) (by assumption) ?rest146
 case hy146=>(intro u hSu;(try dsimp only at hSu);go_simp;try (with_reducible rfl))
 (try simp only [Act.put,sA,sZ,sS])
 refine wpAnyH_take (i:=6) (oi:=(⟨some 12,_,_,_,_,_⟩:Oper)) (v := .bool false) rfl (by kernel_rfl) (by kernel_rfl) (by kernel_rfl) (fun _ _ _ h=>h) (Or.inl ⟨by rfl,?hy147⟩) (by assumption) ?rest147
 case hy147=>(intro u hSu;(try dsimp only at hSu);go_simp;try (with_reducible rfl))
 (try simp only [Act.put,sA,sZ,sS])
 refine wpAnyH_take (i:=7) (oi:=(⟨some 13,_,_,_,_,none⟩:Oper)) (v := .bool false) rfl (by kernel_rfl) (by kernel_rfl) (by kernel_rfl) (fun _ _ _ h=>h) (Or.inl ⟨by rfl,?hy148⟩) (by assumption) ?rest148
 case hy148=>(intro u hSu;(try dsimp only at hSu);go_simp;try (with_reducible rfl))
 (try simp only [Act.put,sA,sZ,sS])
 refine wpAnyH_take (i:=8) (oi:=(⟨some 14,_,_,_,_,none⟩:Oper)) (v := .bool false) rfl (by kernel_rfl) (by kernel_rfl) (by kernel_rfl) (fun _ _ _ h=>h) (Or.inl ⟨by rfl,?hy149⟩) (by assumption) ?rest149
 case hy149=>(intro u hSu;(try dsimp only at hSu);go_simp;try (with_reducible rfl))
 (try simp only [Act.put,sA,sZ,sS])
 refine wpAnyH_take (i:=9) (oi:=(⟨some 15,_,_,_,_,_⟩:Oper)) (v := .int .i64 (m:Int)) rfl (by kernel_rfl) (by kernel_rfl) (by kernel_rfl) (fun _ _ _ h=>h) (Or.inl ⟨by rfl,?hy150⟩) (by assumption) ?rest150
 case hy150=>(intro u hSu;(try dsimp only at hSu);go_simp;try (with_reducible rfl))
 (try simp only [Act.put,sA,sZ,sS])
 refine wpAnyH_take (i:=10) (oi:=(⟨some 16,_,_,_,_,_⟩:Oper)) (v := .pointer (some ⟨p,0,none⟩)) rfl (by kernel_rfl) (by kernel_rfl) (by kernel_rfl) (fun _ _ _ h=>h) (Or.inl ⟨by rfl,?hy151⟩) (by assumption) ?rest151
 case hy151=>(intro u hSu;(try dsimp only at hSu);go_simp;try (with_reducible rfl))
 (try simp only [Act.put,sA,sZ,sS])
 refine wpAnyH_take (i:=11) (oi:=(⟨some 17,_,_,_,_,_⟩:Oper)) (v := .pointer (some ⟨p,0,none⟩)) rfl (by kernel_rfl) (by kernel_rfl) (by kernel_rfl) (fun _ _ _ h=>h) (Or.inl ⟨by rfl,?hy152⟩) (by assumption) ?rest152
 case hy152=>(intro u hSu;(try dsimp only at hSu);go_simp;try (with_reducible rfl))
 (try simp only [Act.put,sA,sZ,sS])
 refine wpAnyH_take (i:=12) (oi:=(⟨some 18,_,_,_,_,_⟩:Oper)) (v := .pointer (some ⟨p,0,none⟩)) rfl (by kernel_rfl) (by kernel_rfl) (by kernel_rfl) (fun _ _ _ h=>h) (Or.inl ⟨by rfl,?hy153⟩) (by assumption) ?rest153
 case hy153=>(intro u hSu;(try dsimp only at hSu);go_simp;try (with_reducible rfl))
 (try simp only [Act.put,sA,sZ,sS])
 refine wpAnyH_take (i:=13) (oi:=(⟨some 19,_,_,_,_,_⟩:Oper)) (v := .slice (some ⟨g,off,none⟩) xs.length c) rfl (by kernel_rfl) (by kernel_rfl) (by kernel_rfl) (fun _ _ _ h=>h) (Or.inl ⟨by rfl,?hy154⟩) (by assumption) ?rest154
 case hy154=>(intro u hSu;(try dsimp only at hSu);obtain ⟨k0,k1,k2⟩:=hSu;go_simp;try (with_reducible rfl))
 (try simp only [Act.put,sA,sZ,sS])
 refine wpAnyH_take (i:=14) (oi:=(⟨some 20,_,_,_,_,_⟩:Oper)) (v := .int .i64 xs.length) rfl (by kernel_rfl) (by kernel_rfl) (by kernel_rfl) (fun _ _ _ h=>h) (Or.inl ⟨by rfl,?hy155⟩) (by assumption) ?rest155
 case hy155=>(intro u hSu;(try dsimp only at hSu);go_simp;try (with_reducible rfl))
 (try simp only [Act.put,sA,sZ,sS])
 refine wpAnyH_take (i:=15) (oi:=(⟨some 21,_,_,_,_,_⟩:Oper)) (v := .pointer (some ⟨p,0,none⟩)) rfl (by kernel_rfl) (by kernel_rfl) (by kernel_rfl) (fun _ _ _ h=>h) (Or.inl ⟨by rfl,?hy156⟩) (by assumption) ?rest156
 case hy156=>(intro u hSu;(try dsimp only at hSu);go_simp;try (with_reducible rfl))
 (try simp only [Act.put,sA,sZ,sS])
 refine wpAnyH_take (i:=16) (oi:=(⟨some 22,_,_,_,_,_⟩:Oper)) (v := .pointer (some ⟨p,0,none⟩)) rfl (by kernel_rfl) (by kernel_rfl) (by kernel_rfl) (fun _ _ _ h=>h) (Or.inl ⟨by rfl,?hy157⟩) (by assumption) ?rest157
 case hy157=>(intro u hSu;(try dsimp only at hSu);go_simp;try (with_reducible rfl))
 (try simp only [Act.put,sA,sZ,sS])
 refine wpAnyH_take (i:=17) (oi:=(⟨some 23,_,_,_,_,_⟩:Oper)) (v := .pointer (some ⟨p,1,none⟩)) rfl (by kernel_rfl) (by kernel_rfl) (by kernel_rfl) (fun _ _ _ h=>h) (Or.inl ⟨by rfl,?hy158⟩) (by assumption) ?rest158
 case hy158=>(intro u hSu;(try dsimp only at hSu);go_simp;try (with_reducible rfl))
 (try simp only [Act.put,sA,sZ,sS])
 refine wpAnyH_take (i:=18) (oi:=(⟨some 24,_,_,_,_,_⟩:Oper)) (v := .int .i64 (k:Int)) rfl (by kernel_rfl) (by kernel_rfl) (by kernel_rfl) (fun _ _ _ h=>h) (Or.inl ⟨by rfl,?hy159⟩) (by assumption) ?rest159
 case hy159=>(intro u hSu;(try dsimp only at hSu);obtain ⟨k0,k1,k2⟩:=hSu;go_simp;try (with_reducible rfl))
 (try simp only [Act.put,sA,sZ,sS])
 refine wpAnyH_take (i:=19) (oi:=(⟨some 25,_,_,_,_,_⟩:Oper)) (v := .int .i64 ((xs.length:Int) - (k:Int))) rfl (by kernel_rfl) (by kernel_rfl) (by kernel_rfl) (fun _ _ _ h=>h) (Or.inl ⟨by rfl,?hy160⟩) (by assumption) ?rest160
 case hy160=>(intro u hSu;(try dsimp only at hSu);go_simp;first|(with_reducible rfl)|go_num|(rw [IntKind.wrap_i64];omega))
 (try simp only [Act.put,sA,sZ,sS])
 refine wpAnyH_take (i:=20) (oi:=(⟨some 26,_,_,_,_,_⟩:Oper)) (v := .bool false) rfl (by kernel_rfl) (by kernel_rfl) (by kernel_rfl) (fun _ _ _ h=>h) (Or.inl ⟨by rfl,?hy161⟩) (by assumption) ?rest161
 case hy161=>(intro u hSu;(try dsimp only at hSu);go_simp;try (with_reducible rfl))
 (try simp only [Act.put,sA,sZ,sS])
 refine wpAnyH_take (i:=21) (oi:=(⟨some 27,_,_,_,_,none⟩:Oper)) (v := .bool false) rfl (by kernel_rfl) (by kernel_rfl) (by kernel_rfl) (fun _ _ _ h=>h) (Or.inl ⟨by rfl,?hy162⟩) (by assumption) ?rest162
 case hy162=>(intro u hSu;(try dsimp only at hSu);go_simp;try (with_reducible rfl))
 (try simp only [Act.put,sA,sZ,sS])
 refine wpAnyH_done (by kernel_rfl) ?_ _
 (try simp only [Exit.then])
 clear hHeld
 go_upto_region 4 with fail
 refine wp_region_held_drew (S:=fun u=>u.cell? ⟨p,0,none⟩=some (.slice (some ⟨g,off,none⟩) xs.length c)∧u.cell? ⟨p,1,none⟩=some (.int .i64 (k:Int))∧True) (by kernel_rfl) (⟨c0,c1,trivial⟩) (fun hHeld=>?_)
 refine wpAnyH_take (i:=0) (oi:=(⟨some 31,_,_,_,_,none⟩:Oper)) (v := .pointer (some ⟨p,0,none⟩)) rfl (by kernel_rfl) (by kernel_rfl) (by kernel_rfl) (fun _ _ _ h=>h) (Or.inl ⟨by rfl,?hy163⟩) (by assumption) ?rest163
 case hy163=>(intro u hSu;(try dsimp only at hSu);go_simp;try (with_reducible rfl))
 (try simp only [Act.put,sA,sZ,sS])
 refine wpAnyH_take (i:=1) (oi:=(⟨some 32,_,_,_,_,none⟩:Oper)) (v := .pointer (some ⟨p,0,none⟩)) rfl (by kernel_rfl) (by kernel_rfl) (by kernel_rfl) (fun _ _ _ h=>h) (Or.inl ⟨by rfl,?hy164⟩) (by assumption) ?rest164
 case hy164=>(intro u hSu;(try dsimp only at hSu);go_simp;try (with_reducible rfl))
 (try simp only [Act.put,sA,sZ,sS])
 refine wpAnyH_take (i:=2) (oi:=(⟨some 33,_,_,_,_,none⟩:Oper)) (v := .pointer (some ⟨p,0,none⟩)) rfl (by kernel_rfl) (by kernel_rfl) (by kernel_rfl) (fun _ _ _ h=>h) (Or.inl ⟨by rfl,?hy165⟩) (by assumption) ?rest165
 case hy165=>(intro u hSu;(try dsimp only at hSu);go_simp;try (with_reducible rfl))
 (try simp only [Act.put,sA,sZ,sS])
 refine wpAnyH_take (i:=3) (oi:=(⟨some 34,_,_,_,_,none⟩:Oper)) (v := .slice (some ⟨g,off,none⟩) xs.length c) rfl (by kernel_rfl) (by kernel_rfl) (by kernel_rfl) (fun _ _ _ h=>h) (Or.inl ⟨by rfl,?hy166⟩) (by assumption) ?rest166
 case hy166=>(intro u hSu;(try dsimp only at hSu);obtain ⟨k0,k1, -⟩:=hSu;go_simp;try (with_reducible rfl))
 (try simp only [Act.put,sA,sZ,sS])
 refine wpAnyH_take (i:=4) (oi:=(⟨some 35,_,_,_,_,none⟩:Oper)) (v := .pointer (some ⟨p,0,none⟩)) rfl (by kernel_rfl) (by kernel_rfl) (by kernel_rfl) (fun _ _ _ h=>h) (Or.inl ⟨by rfl,?hy167⟩) (by assumption) ?rest167
 case hy167=>(intro u hSu;(try dsimp only at hSu);go_simp;try (with_reducible rfl))
 (try simp only [Act.put,sA,sZ,sS])
 refine wpAnyH_take (i:=5) (oi:=(⟨some 36,_,_,_,_,none⟩:Oper)) (v := .pointer (some ⟨p,0,none⟩)) rfl (by kernel_rfl) (by kernel_rfl) (by kernel_rfl) (fun _ _ _ h=>h) (Or.inl ⟨by rfl,?hy168⟩) (by assumption) ?rest168
 case hy168=>(intro u hSu;(try dsimp only at hSu);go_simp;try (with_reducible rfl))
 (try simp only [Act.put,sA,sZ,sS])
 refine wpAnyH_take (i:=6) (oi:=(⟨some 37,_,_,_,_,none⟩:Oper)) (v := .pointer (some ⟨p,1,none⟩)) rfl (by kernel_rfl) (by kernel_rfl) (by kernel_rfl) (fun _ _ _ h=>h) (Or.inl ⟨by rfl,?hy169⟩) (by assumption) ?rest169
 case hy169=>(intro u hSu;(try dsimp only at hSu);go_simp;try (with_reducible rfl))
 (try simp only [Act.put,sA,sZ,sS])
 refine wpAnyH_take (i:=7) (oi:=(⟨some 38,_,_,_,_,none⟩:Oper)) (v := .int .i64 (k:Int)) rfl (by kernel_rfl) (by kernel_rfl) (by kernel_rfl) (fun _ _ _ h=>h) (Or.inl ⟨by rfl,?hy170⟩) (by assumption) ?rest170
 case hy170=>(intro u hSu;(try dsimp only at hSu);obtain ⟨k0,k1, -⟩:=hSu;go_simp;try (with_reducible rfl))
 (try simp only [Act.put,sA,sZ,sS])
 refine wpAnyH_take (i:=8) (oi:=(⟨some 39,_,_,_,_,none⟩:Oper)) (v := .pointer (some ⟨p,0,none⟩)) rfl (by kernel_rfl) (by kernel_rfl) (by kernel_rfl) (fun _ _ _ h=>h) (Or.inl ⟨by rfl,?hy171⟩) (by assumption) ?rest171
 case hy171=>(intro u hSu;(try dsimp only at hSu);go_simp;try (with_reducible rfl))
 (try simp only [Act.put,sA,sZ,sS])
 refine wpAnyH_take (i:=9) (oi:=(⟨some 40,_,_,_,_,none⟩:Oper)) (v := .pointer (some ⟨p,0,none⟩)) rfl (by kernel_rfl) (by kernel_rfl) (by kernel_rfl) (fun _ _ _ h=>h) (Or.inl ⟨by rfl,?hy172⟩) (by assumption) ?rest172
 case hy172=>(intro u hSu;(try dsimp only at hSu);go_simp;try (with_reducible rfl))
 (try simp only [Act.put,sA,sZ,sS])
 refine wpAnyH_take (i:=10) (oi:=(⟨some 41,_,_,_,_,none⟩:Oper)) (v := .pointer (some ⟨p,1,none⟩)) rfl (by kernel_rfl) (by kernel_rfl) (by kernel_rfl) (fun _ _ _ h=>h) (Or.inl ⟨by rfl,?hy173⟩) (by assumption) ?rest173
 case hy173=>(intro u hSu;(try dsimp only at hSu);go_simp;try (with_reducible rfl))
 (try simp only [Act.put,sA,sZ,sS])
 refine wpAnyH_take (i:=11) (oi:=(⟨some 42,_,_,_,_,none⟩:Oper)) (v := .int .i64 (k:Int)) rfl (by kernel_rfl) (by kernel_rfl) (by kernel_rfl) (fun _ _ _ h=>h) (Or.inl ⟨by rfl,?hy174⟩) (by assumption) ?rest174
 case hy174=>(intro u hSu;(try dsimp only at hSu);obtain ⟨k0,k1, -⟩:=hSu;go_simp;try (with_reducible rfl))
 (try simp only [Act.put,sA,sZ,sS])
 refine wpAnyH_take (i:=12) (oi:=(⟨some 43,_,_,_,_,none⟩:Oper)) (v := .int .i64 (m:Int)) rfl (by kernel_rfl) (by kernel_rfl) (by kernel_rfl) (fun _ _ _ h=>h) (Or.inl ⟨by rfl,?hy175⟩) (by assumption) ?rest175
 case hy175=>(intro u hSu;(try dsimp only at hSu);go_simp;try (with_reducible rfl))
 (try simp only [Act.put,sA,sZ,sS])
 refine wpAnyH_take (i:=13) (oi:=(⟨some 44,_,_,_,_,none⟩:Oper)) (v := .int .i64 ((k+m:Nat):Int)) rfl (by kernel_rfl) (by kernel_rfl) (by kernel_rfl) (fun _ _ _ h=>h) (Or.inl ⟨by rfl,?hy176⟩) (by assumption) ?rest176
 case hy176=>(intro u hSu;(try dsimp only at hSu);go_simp;first|(with_reducible rfl)|(rw [IntKind.wrap_i64];omega))
 (try simp only [Act.put,sA,sZ,sS])
 refine wpAnyH_take (i:=14) (oi:=(⟨some 45,_,_,_,_,none⟩:Oper)) (v := .slice s2 m c3) rfl (by kernel_rfl) (by kernel_rfl) (by kernel_rfl) (fun _ _ _ h=>h) (Or.inl ⟨by rfl,?hy177⟩) (by assumption) ?rest177
 case hy177=>(intro u hSu;(try dsimp only at hSu);exact exec_slice 24 _ _ _ rfl (.slice (some ⟨g,off,none⟩) xs.length c) (some (.int .i64 (k:Int))) (some (.int .i64 ((k+m:Nat):Int))) rfl rfl rfl _ (HSL.out u))
 (try simp only [Act.put,sA,sZ,sS])
 refine wpAnyH_ready (rs:=[15]) (by kernel_rfl) (by simp) ?_
 refine AllReadyH.cons (o:=(⟨some 46,_,_,_,_,none⟩:Oper)) rfl (fun K hK=>?_) AllReadyH.nil
 refine step_app8 rfl (.const (.slice none 0 0)) (.tmp 45) rfl w.heap.size (.slice none 0 0) [] rfl (Own8.nil _ _) s2 m c3 ((xs.drop k).take m) rfl (HS2.out.kept ((Kept.refl (fun _=>False) w).drewN 2) (fun _ _ => .inr id)) (by show 0+m≤_;omega) (Nat.le_refl _) ?_
 intro v6 w6 ho6 hg6 _ _
 rw [List.nil_append] at ho6
 have hb6:Below w.drew.drew.heap.size w.drew.drew w6:=⟨hg6.os,hg6.tape,hg6.output,hg6.size,fun k hk=>hg6.block k hk (by simp [Value.ownBlock])⟩
 have H6:=Lib.hid (Below.blk hb6 H1.out HLT.out)
 have HK6:Hid (Kept (· = p) w w6):=Lib.hid (((Kept.refl _ w).drewN 2).trans (Kept.of_below hb6))
 have HO6:=Lib.hid ho6
 clear ho6 hg6
 refine hK.out _ _ (⟨cell_blk H6.out 0,cell_blk H6.out 1,trivial⟩) (fun hHeld=>?_)
 clear hK K
 (try simp only [Act.put,sA,sZ,sS])
 refine wpAnyH_take (i:=16) (oi:=(⟨some 5,_,_,_,_,none⟩:Oper)) (v:=v6) rfl (by kernel_rfl) (by kernel_rfl) (by kernel_rfl) (fun _ _ _ h=>h) (Or.inl ⟨by rfl,?hy178⟩) (by assumption) ?rest178
 case hy178=>(intro u hSu;(try dsimp only at hSu);go_simp;try (with_reducible rfl))
 (try simp only [Act.put,sA,sZ,sS])
 refine wpAnyH_done (by kernel_rfl) ?_ _
 (try simp only [Exit.then])
 clear hHeld
 have d1:w6.cell? ⟨p,1,none⟩=some (.int .i64 (k:Int)):=cell_blk H6.out 1
 have f1:=free_blk H6.out 1
 have hwr:IntKind.i64.wrap ((k:Int)+(m:Int))=((k+m:Nat):Int):=by have:=HM.out;rw [IntKind.wrap_i64];omega
 go_wp2_with fail
 go_ret
 refine ⟨v6,rfl,HO6.out.kept ((Kept.refl (· = p) w6).at _ _) (fun g' e=>by have h1:=(HO6.out.lt g' e).1;have h2:=HLT.out;omega),?_,HK6.out.at _ _⟩
 rw [blk_setCell H6.out]
 simp
end Go.Proofs.YtodnkallpfkdiaaDoor.Bk
