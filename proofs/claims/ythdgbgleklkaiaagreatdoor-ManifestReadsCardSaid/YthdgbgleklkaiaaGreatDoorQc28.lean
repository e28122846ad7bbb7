/- portcullisref1.Cursor.Raw. Condition: as each theorem says. -/

import Derived.Test.YthdgbgleklkaiaaGreatDoorQc06
import Derived.Test.YthdgbgleklkaiaaGreatDoorQc27
open Go.Lib renaming hid→abC
set_option linter.unusedSimpArgs false
set_option linter.unusedVariables false
set_option maxRecDepth 100000
set_option maxHeartbeats 16000000
namespace Go.Proofs.YthdgbgleklkaiaaGreatDoor.Bk
open Go.RowKit
theorem JG (p:Nat) (sa:Option Addr) (c:Nat) (xs:List Int) (at' n:Int) (w:World) (h1:w.heap[p]? = some (.cells #[.slice sa xs.length c, .int .i64 at', .bool true] 86 (0,0))) (ha:0≤at'∧at'≤xs.length) (hl:xs.length≤1099511627776) :
  Calls Tryz.prog 46 #[.pointer (some ⟨p,0,none⟩), .int .i64 n] w fun e w'=>e = .returned (.slice none 0 0)∧w'.heap[p]? = some (.cells #[.slice sa xs.length c, .int .i64 at', .bool true] 86 (0,0))∧Kept (· = p) w w':=by
 have c0:w.cell? ⟨p,0,none⟩=some (.slice sa xs.length c):=aF h1 0
 have c1:w.cell? ⟨p,1,none⟩=some (.int .i64 at'):=aF h1 1
 have c2:w.cell? ⟨p,2,none⟩=some (.bool true):=aF h1 2
 have f2:w.drew.frozen? ⟨p,2,none⟩=false:=aC h1 2
 have d2:w.drew.cell? ⟨p,2,none⟩=some (.bool true):=aF h1 2
 have H1:Hid (w.heap[p]? = some (.cells #[.slice sa xs.length c, .int .i64 at', .bool true] 86 (0,0))):=abC h1
 clear h1
 go_enter Tryz.func46, Tryz.ntmps46
 go_upto_region 1 with fail
 refine wp_region_held_drew (S:=fun u=>u.cell? ⟨p,0,none⟩=some (.slice sa xs.length c)∧u.cell? ⟨p,1,none⟩=some (.int .i64 at')∧u.cell? ⟨p,2,none⟩=some (.bool true)) (by kernel_rfl) (⟨c0,c1,c2⟩) (fun hHeld=>?_)
 refine pT 0 ⟨some 6,_,_,_,_,none⟩ (.pointer (some ⟨p,0,none⟩)) ?_
 (try simp only [Act.put,sA,sZ,sS])
 refine pT 1 ⟨some 7,_,_,_,_,none⟩ (.pointer (some ⟨p,0,none⟩)) ?_
 (try simp only [Act.put,sA,sZ,sS])
 refine pT 2 ⟨some 8,_,_,_,_,none⟩ (.pointer (some ⟨p,2,none⟩)) ?_
 (try simp only [Act.put,sA,sZ,sS])
 refine wpAnyH_take (i:=3) (oi:=(⟨some 9,_,_,_,_,none⟩:Oper)) (v := .bool true) rfl (by kernel_rfl) (by kernel_rfl) (by kernel_rfl) (fun _ _ _ h=>h) (Or.inl ⟨by rfl,?hy104⟩) (by assumption) ?Fh
 case hy104=>(intro u aR;(try dsimp only at aR);obtain ⟨k0,k1,k2⟩:=aR;go_simp;try (with_reducible rfl))
 (try simp only [Act.put,sA,sZ,sS])
 refine pT 4 ⟨some 10,_,_,_,_,none⟩ (.bool true) ?_
 (try simp only [Act.put,sA,sZ,sS])
 refine wpAnyH_take (i:=5) (oi:=(⟨some 11,_,_,_,_,_⟩:Oper)) (v:=undef) rfl (by kernel_rfl) (by kernel_rfl) (by kernel_rfl) (fun _ _ _ h=>h) (Or.inr ⟨by rfl,rfl⟩) (by assumption) ?_
 (try simp only [Act.put,sA,sZ,sS])
 refine wpAnyH_take (i:=6) (oi:=(⟨some 12,_,_,_,_,_⟩:Oper)) (v:=undef) rfl (by kernel_rfl) (by kernel_rfl) (by kernel_rfl) (fun _ _ _ h=>h) (Or.inr ⟨by rfl,rfl⟩) (by assumption) ?_
 (try simp only [Act.put,sA,sZ,sS])
 refine pT 7 ⟨some 13,_,_,_,_,none⟩ (.bool true) ?_
 (try simp only [Act.put,sA,sZ,sS])
 refine pT 8 ⟨some 14,_,_,_,_,none⟩ (.bool true) ?_
 (try simp only [Act.put,sA,sZ,sS])
 refine wpAnyH_take (i:=9) (oi:=(⟨some 15,_,_,_,_,_⟩:Oper)) (v:=undef) rfl (by kernel_rfl) (by kernel_rfl) (by kernel_rfl) (fun _ _ _ h=>h) (Or.inr ⟨by rfl,rfl⟩) (by assumption) ?_
 (try simp only [Act.put,sA,sZ,sS])
 refine wpAnyH_take (i:=10) (oi:=(⟨some 16,_,_,_,_,_⟩:Oper)) (v:=undef) rfl (by kernel_rfl) (by kernel_rfl) (by kernel_rfl) (fun _ _ _ h=>h) (Or.inr ⟨by rfl,rfl⟩) (by assumption) ?_
 (try simp only [Act.put,sA,sZ,sS])
 refine wpAnyH_take (i:=11) (oi:=(⟨some 17,_,_,_,_,_⟩:Oper)) (v:=undef) rfl (by kernel_rfl) (by kernel_rfl) (by kernel_rfl) (fun _ _ _ h=>h) (Or.inr ⟨by rfl,rfl⟩) (by assumption) ?_
 (try simp only [Act.put,sA,sZ,sS])
 refine wpAnyH_take (i:=12) (oi:=(⟨some 18,_,_,_,_,_⟩:Oper)) (v:=undef) rfl (by kernel_rfl) (by kernel_rfl) (by kernel_rfl) (fun _ _ _ h=>h) (Or.inr ⟨by rfl,rfl⟩) (by assumption) ?_
 (try simp only [Act.put,sA,sZ,sS])
 refine wpAnyH_take (i:=13) (oi:=(⟨some 19,_,_,_,_,_⟩:Oper)) (v:=undef) rfl (by kernel_rfl) (by kernel_rfl) (by kernel_rfl) (fun _ _ _ h=>h) (Or.inr ⟨by rfl,rfl⟩) (by assumption) ?_
 (try simp only [Act.put,sA,sZ,sS])
 refine wpAnyH_take (i:=14) (oi:=(⟨some 20,_,_,_,_,_⟩:Oper)) (v:=undef) rfl (by kernel_rfl) (by kernel_rfl) (by kernel_rfl) (fun _ _ _ h=>h) (Or.inr ⟨by rfl,rfl⟩) (by assumption) ?_
 (try simp only [Act.put,sA,sZ,sS])
 refine wpAnyH_take (i:=15) (oi:=(⟨some 21,_,_,_,_,_⟩:Oper)) (v:=undef) rfl (by kernel_rfl) (by kernel_rfl) (by kernel_rfl) (fun _ _ _ h=>h) (Or.inr ⟨by rfl,rfl⟩) (by assumption) ?_
 (try simp only [Act.put,sA,sZ,sS])
 refine wpAnyH_take (i:=16) (oi:=(⟨some 22,_,_,_,_,_⟩:Oper)) (v:=undef) rfl (by kernel_rfl) (by kernel_rfl) (by kernel_rfl) (fun _ _ _ h=>h) (Or.inr ⟨by rfl,rfl⟩) (by assumption) ?_
 (try simp only [Act.put,sA,sZ,sS])
 refine wpAnyH_take (i:=17) (oi:=(⟨some 23,_,_,_,_,_⟩:Oper)) (v:=undef) rfl (by kernel_rfl) (by kernel_rfl) (by kernel_rfl) (fun _ _ _ h=>h) (Or.inr ⟨by rfl,rfl⟩) (by assumption) ?_
 (try simp only [Act.put,sA,sZ,sS])
 refine wpAnyH_take (i:=18) (oi:=(⟨some 24,_,_,_,_,_⟩:Oper)) (v:=undef) rfl (by kernel_rfl) (by kernel_rfl) (by kernel_rfl) (fun _ _ _ h=>h) (Or.inr ⟨by rfl,rfl⟩) (by assumption) ?_
 (try simp only [Act.put,sA,sZ,sS])
 refine wpAnyH_take (i:=19) (oi:=(⟨some 25,_,_,_,_,_⟩:Oper)) (v:=undef) rfl (by kernel_rfl) (by kernel_rfl) (by kernel_rfl) (fun _ _ _ h=>h) (Or.inr ⟨by rfl,rfl⟩) (by assumption) ?_
 (try simp only [Act.put,sA,sZ,sS])
 refine wpAnyH_take (i:=20) (oi:=(⟨some 26,_,_,_,_,_⟩:Oper)) (v:=undef) rfl (by kernel_rfl) (by kernel_rfl) (by kernel_rfl) (fun _ _ _ h=>h) (Or.inr ⟨by rfl,rfl⟩) (by assumption) ?_
 (try simp only [Act.put,sA,sZ,sS])
 refine pT 21 ⟨some 27,_,_,_,_,none⟩ (.bool true) ?_
 (try simp only [Act.put,sA,sZ,sS])
 refine wpAnyH_done (by kernel_rfl) ?_ _
 (try simp only [Exit.then])
 go_wp2_with fail
 go_ret
 exact ⟨rfl,by show (w.setCell ⟨p,2,none⟩ (.bool true)).heap[p]? = _;rw [aQ H1.out];simp,((Kept.refl _ w).at _ _).drewN 1⟩
theorem ZG (p:Nat) (sa:Option Addr) (c:Nat) (xs:List Int) (at' n:Int) (w:World) (h1:w.heap[p]? = some (.cells #[.slice sa xs.length c, .int .i64 at', .bool false] 86 (0,0))) (ha:0≤at'∧at'≤xs.length) (hl:xs.length≤1099511627776) (hn:n < 0) :
  Calls Tryz.prog 46 #[.pointer (some ⟨p,0,none⟩), .int .i64 n] w fun e w'=>e = .returned (.slice none 0 0)∧w'.heap[p]? = some (.cells #[.slice sa xs.length c, .int .i64 at', .bool true] 86 (0,0))∧Kept (· = p) w w':=by
 have c0:w.cell? ⟨p,0,none⟩=some (.slice sa xs.length c):=aF h1 0
 have c1:w.cell? ⟨p,1,none⟩=some (.int .i64 at'):=aF h1 1
 have c2:w.cell? ⟨p,2,none⟩=some (.bool false):=aF h1 2
 have f2:w.drew.frozen? ⟨p,2,none⟩=false:=aC h1 2
 have d2:w.drew.cell? ⟨p,2,none⟩=some (.bool false):=aF h1 2
 have H1:Hid (w.heap[p]? = some (.cells #[.slice sa xs.length c, .int .i64 at', .bool false] 86 (0,0))):=abC h1
 clear h1
 go_enter Tryz.func46, Tryz.ntmps46
 go_upto_region 1 with fail
 refine wp_region_held_drew (S:=fun u=>u.cell? ⟨p,0,none⟩=some (.slice sa xs.length c)∧u.cell? ⟨p,1,none⟩=some (.int .i64 at')∧u.cell? ⟨p,2,none⟩=some (.bool false)) (by kernel_rfl) (⟨c0,c1,c2⟩) (fun hHeld=>?_)
 refine pT 0 ⟨some 6,_,_,_,_,none⟩ (.pointer (some ⟨p,0,none⟩)) ?_
 (try simp only [Act.put,sA,sZ,sS])
 refine pT 1 ⟨some 7,_,_,_,_,none⟩ (.pointer (some ⟨p,0,none⟩)) ?_
 (try simp only [Act.put,sA,sZ,sS])
 refine pT 2 ⟨some 8,_,_,_,_,none⟩ (.pointer (some ⟨p,2,none⟩)) ?_
 (try simp only [Act.put,sA,sZ,sS])
 refine wpAnyH_take (i:=3) (oi:=(⟨some 9,_,_,_,_,none⟩:Oper)) (v := .bool false) rfl (by kernel_rfl) (by kernel_rfl) (by kernel_rfl) (fun _ _ _ h=>h) (Or.inl ⟨by rfl,?hy112⟩) (by assumption) ?PY
 case hy112=>(intro u aR;(try dsimp only at aR);obtain ⟨k0,k1,k2⟩:=aR;go_simp;try (with_reducible rfl))
 (try simp only [Act.put,sA,sZ,sS])
 refine pT 4 ⟨some 10,_,_,_,_,none⟩ (.bool false) ?_
 (try simp only [Act.put,sA,sZ,sS])
 refine pT 5 ⟨some 11,_,_,_,_,_⟩ (.int .i64 n) ?_
 (try simp only [Act.put,sA,sZ,sS])
 refine pT 6 ⟨some 12,_,_,_,_,_⟩ (.bool true) ?_
 (try simp only [Act.put,sA,sZ,sS])
 refine pT 7 ⟨some 13,_,_,_,_,none⟩ (.bool true) ?_
 (try simp only [Act.put,sA,sZ,sS])
 refine pT 8 ⟨some 14,_,_,_,_,none⟩ (.bool true) ?_
 (try simp only [Act.put,sA,sZ,sS])
 refine wpAnyH_take (i:=9) (oi:=(⟨some 15,_,_,_,_,_⟩:Oper)) (v:=undef) rfl (by kernel_rfl) (by kernel_rfl) (by kernel_rfl) (fun _ _ _ h=>h) (Or.inr ⟨by rfl,rfl⟩) (by assumption) ?_
 (try simp only [Act.put,sA,sZ,sS])
 refine wpAnyH_take (i:=10) (oi:=(⟨some 16,_,_,_,_,_⟩:Oper)) (v:=undef) rfl (by kernel_rfl) (by kernel_rfl) (by kernel_rfl) (fun _ _ _ h=>h) (Or.inr ⟨by rfl,rfl⟩) (by assumption) ?_
 (try simp only [Act.put,sA,sZ,sS])
 refine wpAnyH_take (i:=11) (oi:=(⟨some 17,_,_,_,_,_⟩:Oper)) (v:=undef) rfl (by kernel_rfl) (by kernel_rfl) (by kernel_rfl) (fun _ _ _ h=>h) (Or.inr ⟨by rfl,rfl⟩) (by assumption) ?_
 (try simp only [Act.put,sA,sZ,sS])
 refine wpAnyH_take (i:=12) (oi:=(⟨some 18,_,_,_,_,_⟩:Oper)) (v:=undef) rfl (by kernel_rfl) (by kernel_rfl) (by kernel_rfl) (fun _ _ _ h=>h) (Or.inr ⟨by rfl,rfl⟩) (by assumption) ?_
 (try simp only [Act.put,sA,sZ,sS])
 refine wpAnyH_take (i:=13) (oi:=(⟨some 19,_,_,_,_,_⟩:Oper)) (v:=undef) rfl (by kernel_rfl) (by kernel_rfl) (by kernel_rfl) (fun _ _ _ h=>h) (Or.inr ⟨by rfl,rfl⟩) (by assumption) ?_
 (try simp only [Act.put,sA,sZ,sS])
 refine wpAnyH_take (i:=14) (oi:=(⟨some 20,_,_,_,_,_⟩:Oper)) (v:=undef) rfl (by kernel_rfl) (by kernel_rfl) (by kernel_rfl) (fun _ _ _ h=>h) (Or.inr ⟨by rfl,rfl⟩) (by assumption) ?_
 (try simp only [Act.put,sA,sZ,sS])
 refine wpAnyH_take (i:=15) (oi:=(⟨some 21,_,_,_,_,_⟩:Oper)) (v:=undef) rfl (by kernel_rfl) (by kernel_rfl) (by kernel_rfl) (fun _ _ _ h=>h) (Or.inr ⟨by rfl,rfl⟩) (by assumption) ?_
 (try simp only [Act.put,sA,sZ,sS])
 refine wpAnyH_take (i:=16) (oi:=(⟨some 22,_,_,_,_,_⟩:Oper)) (v:=undef) rfl (by kernel_rfl) (by kernel_rfl) (by kernel_rfl) (fun _ _ _ h=>h) (Or.inr ⟨by rfl,rfl⟩) (by assumption) ?_
 (try simp only [Act.put,sA,sZ,sS])
 refine wpAnyH_take (i:=17) (oi:=(⟨some 23,_,_,_,_,_⟩:Oper)) (v:=undef) rfl (by kernel_rfl) (by kernel_rfl) (by kernel_rfl) (fun _ _ _ h=>h) (Or.inr ⟨by rfl,rfl⟩) (by assumption) ?_
 (try simp only [Act.put,sA,sZ,sS])
 refine wpAnyH_take (i:=18) (oi:=(⟨some 24,_,_,_,_,_⟩:Oper)) (v:=undef) rfl (by kernel_rfl) (by kernel_rfl) (by kernel_rfl) (fun _ _ _ h=>h) (Or.inr ⟨by rfl,rfl⟩) (by assumption) ?_
 (try simp only [Act.put,sA,sZ,sS])
 refine wpAnyH_take (i:=19) (oi:=(⟨some 25,_,_,_,_,_⟩:Oper)) (v:=undef) rfl (by kernel_rfl) (by kernel_rfl) (by kernel_rfl) (fun _ _ _ h=>h) (Or.inr ⟨by rfl,rfl⟩) (by assumption) ?_
 (try simp only [Act.put,sA,sZ,sS])
 refine wpAnyH_take (i:=20) (oi:=(⟨some 26,_,_,_,_,_⟩:Oper)) (v:=undef) rfl (by kernel_rfl) (by kernel_rfl) (by kernel_rfl) (fun _ _ _ h=>h) (Or.inr ⟨by rfl,rfl⟩) (by assumption) ?_
 (try simp only [Act.put,sA,sZ,sS])
 refine pT 21 ⟨some 27,_,_,_,_,none⟩ (.bool true) ?_
 (try simp only [Act.put,sA,sZ,sS])
 refine wpAnyH_done (by kernel_rfl) ?_ _
 (try simp only [Exit.then])
 go_wp2_with fail
 go_ret
 exact ⟨rfl,by show (w.setCell ⟨p,2,none⟩ (.bool true)).heap[p]? = _;rw [aQ H1.out];simp,((Kept.refl _ w).at _ _).drewN 1⟩
theorem DV (p:Nat) (sa:Option Addr) (c:Nat) (xs:List Int) (at' n:Int) (w:World) (h1:w.heap[p]? = some (.cells #[.slice sa xs.length c, .int .i64 at', .bool false] 86 (0,0))) (ha:0≤at'∧at'≤xs.length) (hl:xs.length≤1099511627776) (hn:0≤n∧(xs.length:Int) - at' < n) :
  Calls Tryz.prog 46 #[.pointer (some ⟨p,0,none⟩), .int .i64 n] w fun e w'=>e = .returned (.slice none 0 0)∧w'.heap[p]? = some (.cells #[.slice sa xs.length c, .int .i64 at', .bool true] 86 (0,0))∧Kept (· = p) w w':=by
 have c0:w.cell? ⟨p,0,none⟩=some (.slice sa xs.length c):=aF h1 0
 have c1:w.cell? ⟨p,1,none⟩=some (.int .i64 at'):=aF h1 1
 have c2:w.cell? ⟨p,2,none⟩=some (.bool false):=aF h1 2
 have f2:w.drew.frozen? ⟨p,2,none⟩=false:=aC h1 2
 have d2:w.drew.cell? ⟨p,2,none⟩=some (.bool false):=aF h1 2
 have H1:Hid (w.heap[p]? = some (.cells #[.slice sa xs.length c, .int .i64 at', .bool false] 86 (0,0))):=abC h1
 clear h1
 go_enter Tryz.func46, Tryz.ntmps46
 go_upto_region 1 with fail
 refine wp_region_held_drew (S:=fun u=>u.cell? ⟨p,0,none⟩=some (.slice sa xs.length c)∧u.cell? ⟨p,1,none⟩=some (.int .i64 at')∧u.cell? ⟨p,2,none⟩=some (.bool false)) (by kernel_rfl) (⟨c0,c1,c2⟩) (fun hHeld=>?_)
 refine pT 0 ⟨some 6,_,_,_,_,none⟩ (.pointer (some ⟨p,0,none⟩)) ?_
 (try simp only [Act.put,sA,sZ,sS])
 refine pT 1 ⟨some 7,_,_,_,_,none⟩ (.pointer (some ⟨p,0,none⟩)) ?_
 (try simp only [Act.put,sA,sZ,sS])
 refine pT 2 ⟨some 8,_,_,_,_,none⟩ (.pointer (some ⟨p,2,none⟩)) ?_
 (try simp only [Act.put,sA,sZ,sS])
 refine wpAnyH_take (i:=3) (oi:=(⟨some 9,_,_,_,_,none⟩:Oper)) (v := .bool false) rfl (by kernel_rfl) (by kernel_rfl) (by kernel_rfl) (fun _ _ _ h=>h) (Or.inl ⟨by rfl,?Ao⟩) (by assumption) ?EX
 case Ao=>(intro u aR;(try dsimp only at aR);obtain ⟨k0,k1,k2⟩:=aR;go_simp;try (with_reducible rfl))
 (try simp only [Act.put,sA,sZ,sS])
 refine pT 4 ⟨some 10,_,_,_,_,none⟩ (.bool false) ?_
 (try simp only [Act.put,sA,sZ,sS])
 refine pT 5 ⟨some 11,_,_,_,_,_⟩ (.int .i64 n) ?_
 (try simp only [Act.put,sA,sZ,sS])
 refine pT 6 ⟨some 12,_,_,_,_,_⟩ (.bool false) ?_
 (try simp only [Act.put,sA,sZ,sS])
 refine pT 7 ⟨some 13,_,_,_,_,none⟩ (.bool false) ?_
 (try simp only [Act.put,sA,sZ,sS])
 refine pT 8 ⟨some 14,_,_,_,_,none⟩ (.bool false) ?_
 (try simp only [Act.put,sA,sZ,sS])
 refine pT 9 ⟨some 15,_,_,_,_,_⟩ (.int .i64 n) ?_
 (try simp only [Act.put,sA,sZ,sS])
 refine pT 10 ⟨some 16,_,_,_,_,_⟩ (.pointer (some ⟨p,0,none⟩)) ?_
 (try simp only [Act.put,sA,sZ,sS])
 refine pT 11 ⟨some 17,_,_,_,_,_⟩ (.pointer (some ⟨p,0,none⟩)) ?_
 (try simp only [Act.put,sA,sZ,sS])
 refine pT 12 ⟨some 18,_,_,_,_,_⟩ (.pointer (some ⟨p,0,none⟩)) ?_
 (try simp only [Act.put,sA,sZ,sS])
 refine wpAnyH_take (i:=13) (oi:=(⟨some 19,_,_,_,_,_⟩:Oper)) (v := .slice sa xs.length c) rfl (by kernel_rfl) (by kernel_rfl) (by kernel_rfl) (fun _ _ _ h=>h) (Or.inl ⟨by rfl,?Aj⟩) (by assumption) ?ET
 case Aj=>(intro u aR;(try dsimp only at aR);obtain ⟨k0,k1,k2⟩:=aR;go_simp;try (with_reducible rfl))
 (try simp only [Act.put,sA,sZ,sS])
 refine pT 14 ⟨some 20,_,_,_,_,_⟩ (.int .i64 xs.length) ?_
 (try simp only [Act.put,sA,sZ,sS])
 refine pT 15 ⟨some 21,_,_,_,_,_⟩ (.pointer (some ⟨p,0,none⟩)) ?_
 (try simp only [Act.put,sA,sZ,sS])
 refine pT 16 ⟨some 22,_,_,_,_,_⟩ (.pointer (some ⟨p,0,none⟩)) ?_
 (try simp only [Act.put,sA,sZ,sS])
 refine pT 17 ⟨some 23,_,_,_,_,_⟩ (.pointer (some ⟨p,1,none⟩)) ?_
 (try simp only [Act.put,sA,sZ,sS])
 refine wpAnyH_take (i:=18) (oi:=(⟨some 24,_,_,_,_,_⟩:Oper)) (v := .int .i64 at') rfl (by kernel_rfl) (by kernel_rfl) (by kernel_rfl) (fun _ _ _ h=>h) (Or.inl ⟨by rfl,?XR⟩) (by assumption) ?rest137
 case XR=>(intro u aR;(try dsimp only at aR);obtain ⟨k0,k1,k2⟩:=aR;go_simp;try (with_reducible rfl))
 (try simp only [Act.put,sA,sZ,sS])
 refine wpAnyH_take (i:=19) (oi:=(⟨some 25,_,_,_,_,_⟩:Oper)) (v := .int .i64 ((xs.length:Int) - at')) rfl (by kernel_rfl) (by kernel_rfl) (by kernel_rfl) (fun _ _ _ h=>h) (Or.inl ⟨by rfl,?Jf⟩) (by assumption) ?PO
 case Jf=>(intro u aR;(try dsimp only at aR);go_simp;first|(with_reducible rfl)|go_num|(rw [IntKind.wrap_i64];omega))
 (try simp only [Act.put,sA,sZ,sS])
 refine pT 20 ⟨some 26,_,_,_,_,_⟩ (.bool true) ?_
 (try simp only [Act.put,sA,sZ,sS])
 refine pT 21 ⟨some 27,_,_,_,_,none⟩ (.bool true) ?_
 (try simp only [Act.put,sA,sZ,sS])
 refine wpAnyH_done (by kernel_rfl) ?_ _
 (try simp only [Exit.then])
 go_wp2_with fail
 go_ret
 exact ⟨rfl,by show (w.setCell ⟨p,2,none⟩ (.bool true)).heap[p]? = _;rw [aQ H1.out];simp,((Kept.refl _ w).at _ _).drewN 1⟩
theorem cut_run (g off L c k m:Nat) (hm:k+m≤L) (hc:L≤c):∃ s2 c2,(s2=some (if c=k then ⟨g,off,none⟩ else (⟨g,off,none⟩:Addr).add k))∧∀ u,(Instr.sliceAt 22 (.slice (some ⟨g,off,none⟩) L c) (some (.int .i64 (k:Int))) (some (.int .i64 ((k+m:Nat):Int))) none).run Tryz.prog u = .ok (.slice s2 m c2) u:=by
 refine ⟨some (if c=k then ⟨g,off,none⟩ else (⟨g,off,none⟩:Addr).add k),c - k,rfl,fun u=>?_⟩
 have h1:¬ ((k+m:Nat):Int) < (k:Int):=by omega
 have h2:¬ (k:Int) < 0:=by omega
 have h3:¬ (c:Int) < ((k+m:Nat):Int):=by omega
 have h4:¬ ((k+m:Nat):Int) < 0:=by omega
 have e1:(((k+m:Nat):Int) - (k:Int)).toNat=m:=by omega
 have e2:((c:Int) - (k:Int)).toNat=c - k:=by omega
 have e3:((c:Int)=(k:Int))=(c=k):=propext (by omega)
 go_simp
 rw [if_pos (by omega),if_pos (by omega),show ((k:Int)+(m:Int)).toNat - k=m by omega]
 by_cases e:c=k
 ·rw [if_pos e,if_pos e]
 ·rw [if_neg e,if_neg e]
theorem dok_any (p g off c k m:Nat) (xs:List Int) (w:World) (h1:w.heap[p]? = some (.cells #[.slice (some ⟨g,off,none⟩) xs.length c, .int .i64 (k:Int), .bool false] 86 (0,0))) (hs:Src w (some ⟨g,off,none⟩) xs.length xs) (hc:xs.length≤c) (hm:k+m≤xs.length) (hl:xs.length≤1099511627776) :
  Calls Tryz.prog 46 #[.pointer (some ⟨p,0,none⟩), .int .i64 (m:Int)] w fun e w'=>∃ v,e = .returned v∧aU w' w.heap.size v ((xs.drop k).take m)∧w'.heap[p]? = some (.cells #[.slice (some ⟨g,off,none⟩) xs.length c, .int .i64 ((k+m:Nat):Int), .bool false] 86 (0,0))∧Kept (· = p) w w':=by
 have c0:w.cell? ⟨p,0,none⟩=some (.slice (some ⟨g,off,none⟩) xs.length c):=aF h1 0
 have c1:w.cell? ⟨p,1,none⟩=some (.int .i64 (k:Int)):=aF h1 1
 have c2:w.cell? ⟨p,2,none⟩=some (.bool false):=aF h1 2
 obtain ⟨s2,c3,es,hsl⟩:=cut_run g off xs.length c k m hm hc
 have hs2:Src w s2 m ((xs.drop k).take m):=by
  subst es
  by_cases e:c=k
  ·obtain rfl:m=0:=by omega
   rw [List.take_zero]
   exact ⟨rfl,fun i hi=>absurd hi (by omega)⟩
  ·rw [if_neg e]
   exact hs.part k m hm
 have HSL:=abC hsl
 have HS2:=abC hs2
 have H1:=abC h1
 have nC:=abC (aV h1)
 have HM:=abC hm
 have hn0:¬ (m:Int) < 0:=by omega
 have hn1:¬ (xs.length:Int) - (k:Int) < (m:Int):=by omega
 clear h1 hsl hs2 hs es
 go_enter Tryz.func46, Tryz.ntmps46
 go_upto_region 1 with fail
 refine wp_region_held_drew (S:=fun u=>u.cell? ⟨p,0,none⟩=some (.slice (some ⟨g,off,none⟩) xs.length c)∧u.cell? ⟨p,1,none⟩=some (.int .i64 (k:Int))∧u.cell? ⟨p,2,none⟩=some (.bool false)) (by kernel_rfl) (⟨c0,c1,c2⟩) (fun hHeld=>?_)
 refine pT 0 ⟨some 6,_,_,_,_,none⟩ (.pointer (some ⟨p,0,none⟩)) ?_
 (try simp only [Act.put,sA,sZ,sS])
 refine pT 1 ⟨some 7,_,_,_,_,none⟩ (.pointer (some ⟨p,0,none⟩)) ?_
 (try simp only [Act.put,sA,sZ,sS])
 refine pT 2 ⟨some 8,_,_,_,_,none⟩ (.pointer (some ⟨p,2,none⟩)) ?_
 (try simp only [Act.put,sA,sZ,sS])
 refine wpAnyH_take (i:=3) (oi:=(⟨some 9,_,_,_,_,none⟩:Oper)) (v := .bool false) rfl (by kernel_rfl) (by kernel_rfl) (by kernel_rfl) (fun _ _ _ h=>h) (Or.inl ⟨by rfl,?XJ⟩) (by assumption) ?rest144
 case XJ=>(intro u aR;(try dsimp only at aR);obtain ⟨k0,k1,k2⟩:=aR;go_simp;try (with_reducible rfl))
 (try simp only [Act.put,sA,sZ,sS])
 refine pT 4 ⟨some 10,_,_,_,_,none⟩ (.bool false) ?_
 (try simp only [Act.put,sA,sZ,sS])
 refine pT 5 ⟨some 11,_,_,_,_,_⟩ (.int .i64 (m:Int)) ?_
 (try simp only [Act.put,sA,sZ,sS])
 refine pT 6 ⟨some 12,_,_,_,_,_⟩ (.bool false) ?_
 (try simp only [Act.put,sA,sZ,sS])
 refine pT 7 ⟨some 13,_,_,_,_,none⟩ (.bool false) ?_
 (try simp only [Act.put,sA,sZ,sS])
 refine pT 8 ⟨some 14,_,_,_,_,none⟩ (.bool false) ?_
 (try simp only [Act.put,sA,sZ,sS])
 refine pT 9 ⟨some 15,_,_,_,_,_⟩ (.int .i64 (m:Int)) ?_
 (try simp only [Act.put,sA,sZ,sS])
 refine pT 10 ⟨some 16,_,_,_,_,_⟩ (.pointer (some ⟨p,0,none⟩)) ?_
 (try simp only [Act.put,sA,sZ,sS])
 refine pT 11 ⟨some 17,_,_,_,_,_⟩ (.pointer (some ⟨p,0,none⟩)) ?_
 (try simp only [Act.put,sA,sZ,sS])
 refine pT 12 ⟨some 18,_,_,_,_,_⟩ (.pointer (some ⟨p,0,none⟩)) ?_
 (try simp only [Act.put,sA,sZ,sS])
 refine wpAnyH_take (i:=13) (oi:=(⟨some 19,_,_,_,_,_⟩:Oper)) (v := .slice (some ⟨g,off,none⟩) xs.length c) rfl (by kernel_rfl) (by kernel_rfl) (by kernel_rfl) (fun _ _ _ h=>h) (Or.inl ⟨by rfl,?hy154⟩) (by assumption) ?rest154
 case hy154=>(intro u aR;(try dsimp only at aR);obtain ⟨k0,k1,k2⟩:=aR;go_simp;try (with_reducible rfl))
 (try simp only [Act.put,sA,sZ,sS])
 refine pT 14 ⟨some 20,_,_,_,_,_⟩ (.int .i64 xs.length) ?_
 (try simp only [Act.put,sA,sZ,sS])
 refine pT 15 ⟨some 21,_,_,_,_,_⟩ (.pointer (some ⟨p,0,none⟩)) ?_
 (try simp only [Act.put,sA,sZ,sS])
 refine pT 16 ⟨some 22,_,_,_,_,_⟩ (.pointer (some ⟨p,0,none⟩)) ?_
 (try simp only [Act.put,sA,sZ,sS])
 refine pT 17 ⟨some 23,_,_,_,_,_⟩ (.pointer (some ⟨p,1,none⟩)) ?_
 (try simp only [Act.put,sA,sZ,sS])
 refine wpAnyH_take (i:=18) (oi:=(⟨some 24,_,_,_,_,_⟩:Oper)) (v := .int .i64 (k:Int)) rfl (by kernel_rfl) (by kernel_rfl) (by kernel_rfl) (fun _ _ _ h=>h) (Or.inl ⟨by rfl,?hy159⟩) (by assumption) ?rest159
 case hy159=>(intro u aR;(try dsimp only at aR);obtain ⟨k0,k1,k2⟩:=aR;go_simp;try (with_reducible rfl))
 (try simp only [Act.put,sA,sZ,sS])
 refine wpAnyH_take (i:=19) (oi:=(⟨some 25,_,_,_,_,_⟩:Oper)) (v := .int .i64 ((xs.length:Int) - (k:Int))) rfl (by kernel_rfl) (by kernel_rfl) (by kernel_rfl) (fun _ _ _ h=>h) (Or.inl ⟨by rfl,?hy160⟩) (by assumption) ?rest160
 case hy160=>(intro u aR;(try dsimp only at aR);go_simp;first|(with_reducible rfl)|go_num|(rw [IntKind.wrap_i64];omega))
 (try simp only [Act.put,sA,sZ,sS])
 refine pT 20 ⟨some 26,_,_,_,_,_⟩ (.bool false) ?_
 (try simp only [Act.put,sA,sZ,sS])
 refine pT 21 ⟨some 27,_,_,_,_,none⟩ (.bool false) ?_
 (try simp only [Act.put,sA,sZ,sS])
 refine wpAnyH_done (by kernel_rfl) ?_ _
 (try simp only [Exit.then])
 clear hHeld
 go_upto_region 4 with fail
 refine wp_region_held_drew (S:=fun u=>u.cell? ⟨p,0,none⟩=some (.slice (some ⟨g,off,none⟩) xs.length c)∧u.cell? ⟨p,1,none⟩=some (.int .i64 (k:Int))∧True) (by kernel_rfl) (⟨c0,c1,trivial⟩) (fun hHeld=>?_)
 refine pT 0 ⟨some 31,_,_,_,_,none⟩ (.pointer (some ⟨p,0,none⟩)) ?_
 (try simp only [Act.put,sA,sZ,sS])
 refine pT 1 ⟨some 32,_,_,_,_,none⟩ (.pointer (some ⟨p,0,none⟩)) ?_
 (try simp only [Act.put,sA,sZ,sS])
 refine pT 2 ⟨some 33,_,_,_,_,none⟩ (.pointer (some ⟨p,0,none⟩)) ?_
 (try simp only [Act.put,sA,sZ,sS])
 refine wpAnyH_take (i:=3) (oi:=(⟨some 34,_,_,_,_,none⟩:Oper)) (v := .slice (some ⟨g,off,none⟩) xs.length c) rfl (by kernel_rfl) (by kernel_rfl) (by kernel_rfl) (fun _ _ _ h=>h) (Or.inl ⟨by rfl,?hy166⟩) (by assumption) ?rest166
 case hy166=>(intro u aR;(try dsimp only at aR);obtain ⟨k0,k1, -⟩:=aR;go_simp;try (with_reducible rfl))
 (try simp only [Act.put,sA,sZ,sS])
 refine pT 4 ⟨some 35,_,_,_,_,none⟩ (.pointer (some ⟨p,0,none⟩)) ?_
 (try simp only [Act.put,sA,sZ,sS])
 refine pT 5 ⟨some 36,_,_,_,_,none⟩ (.pointer (some ⟨p,0,none⟩)) ?_
 (try simp only [Act.put,sA,sZ,sS])
 refine pT 6 ⟨some 37,_,_,_,_,none⟩ (.pointer (some ⟨p,1,none⟩)) ?_
 (try simp only [Act.put,sA,sZ,sS])
 refine wpAnyH_take (i:=7) (oi:=(⟨some 38,_,_,_,_,none⟩:Oper)) (v := .int .i64 (k:Int)) rfl (by kernel_rfl) (by kernel_rfl) (by kernel_rfl) (fun _ _ _ h=>h) (Or.inl ⟨by rfl,?hy170⟩) (by assumption) ?rest170
 case hy170=>(intro u aR;(try dsimp only at aR);obtain ⟨k0,k1, -⟩:=aR;go_simp;try (with_reducible rfl))
 (try simp only [Act.put,sA,sZ,sS])
 refine pT 8 ⟨some 39,_,_,_,_,none⟩ (.pointer (some ⟨p,0,none⟩)) ?_
 (try simp only [Act.put,sA,sZ,sS])
 refine pT 9 ⟨some 40,_,_,_,_,none⟩ (.pointer (some ⟨p,0,none⟩)) ?_
 (try simp only [Act.put,sA,sZ,sS])
 refine pT 10 ⟨some 41,_,_,_,_,none⟩ (.pointer (some ⟨p,1,none⟩)) ?_
 (try simp only [Act.put,sA,sZ,sS])
 refine wpAnyH_take (i:=11) (oi:=(⟨some 42,_,_,_,_,none⟩:Oper)) (v := .int .i64 (k:Int)) rfl (by kernel_rfl) (by kernel_rfl) (by kernel_rfl) (fun _ _ _ h=>h) (Or.inl ⟨by rfl,?hy174⟩) (by assumption) ?rest174
 case hy174=>(intro u aR;(try dsimp only at aR);obtain ⟨k0,k1, -⟩:=aR;go_simp;try (with_reducible rfl))
 (try simp only [Act.put,sA,sZ,sS])
 refine pT 12 ⟨some 43,_,_,_,_,none⟩ (.int .i64 (m:Int)) ?_
 (try simp only [Act.put,sA,sZ,sS])
 refine wpAnyH_take (i:=13) (oi:=(⟨some 44,_,_,_,_,none⟩:Oper)) (v := .int .i64 ((k+m:Nat):Int)) rfl (by kernel_rfl) (by kernel_rfl) (by kernel_rfl) (fun _ _ _ h=>h) (Or.inl ⟨by rfl,?hy176⟩) (by assumption) ?rest176
 case hy176=>(intro u aR;(try dsimp only at aR);go_simp;first|(with_reducible rfl)|(rw [IntKind.wrap_i64];omega))
 (try simp only [Act.put,sA,sZ,sS])
 refine wpAnyH_take (i:=14) (oi:=(⟨some 45,_,_,_,_,none⟩:Oper)) (v := .slice s2 m c3) rfl (by kernel_rfl) (by kernel_rfl) (by kernel_rfl) (fun _ _ _ h=>h) (Or.inl ⟨by rfl,?hy177⟩) (by assumption) ?rest177
 case hy177=>(intro u aR;(try dsimp only at aR);exact Nb 22 _ _ _ rfl (.slice (some ⟨g,off,none⟩) xs.length c) (some (.int .i64 (k:Int))) (some (.int .i64 ((k+m:Nat):Int))) rfl rfl rfl _ (HSL.out u))
 (try simp only [Act.put,sA,sZ,sS])
 refine pR 15 ⟨some 46,_,_,_,_,none⟩ (fun K hK=>?_)
 refine fM rfl (.const (.slice none 0 0)) (.tmp 45) rfl w.heap.size (.slice none 0 0) [] rfl (aU.nil _ _) s2 m c3 ((xs.drop k).take m) rfl (HS2.out.kept ((Kept.refl (fun _=>False) w).drewN 2) (fun _ _ => .inr id)) (by show 0+m≤_;omega) (Nat.le_refl _) ?_
 intro v6 w6 xM yH _ _
 rw [List.nil_append] at xM
 have hb6:Below w.drew.drew.heap.size w.drew.drew w6:=⟨yH.os,yH.tape,yH.output,yH.size,fun k hk=>yH.block k hk (by simp [Value.ownBlock])⟩
 have H6:=abC (Below.blk hb6 H1.out nC.out)
 have HK6:Hid (Kept (· = p) w w6):=abC (((Kept.refl _ w).drewN 2).trans (Kept.of_below hb6))
 have Gr:=abC xM
 clear xM yH
 refine hK.out _ _ (⟨aF H6.out 0,aF H6.out 1,trivial⟩) (fun hHeld=>?_)
 clear hK K
 (try simp only [Act.put,sA,sZ,sS])
 refine pT 16 ⟨some 5,_,_,_,_,none⟩ (v6) ?_
 (try simp only [Act.put,sA,sZ,sS])
 refine wpAnyH_done (by kernel_rfl) ?_ _
 (try simp only [Exit.then])
 clear hHeld
 have d1:w6.cell? ⟨p,1,none⟩=some (.int .i64 (k:Int)):=aF H6.out 1
 have f1:=aC H6.out 1
 have hwr:IntKind.i64.wrap ((k:Int)+(m:Int))=((k+m:Nat):Int):=by have:=HM.out;rw [IntKind.wrap_i64];omega
 go_wp2_with fail
 go_ret
 refine ⟨v6,rfl,Gr.out.kept ((Kept.refl (· = p) w6).at _ _) (fun g' e=>by have h1:=(Gr.out.lt g' e).1;have h2:=nC.out;omega),?_,HK6.out.at _ _⟩
 rw [aQ H6.out]
 simp
end Go.Proofs.YthdgbgleklkaiaaGreatDoor.Bk
