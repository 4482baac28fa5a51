/- hood's two tables, walked. -/
import Derived.Test.YtkahgdkpehlanaaDoorProg
import Derived.WalkKit
import Derived.Below
namespace Go.Proofs.YtkahgdkpehlanaaDoor.L
open Go.RowKit
set_option linter.unusedVariables false
set_option linter.unusedSimpArgs false
set_option maxHeartbeats 8000000 in
set_option maxRecDepth 100000 in
theorem hood_within1 (w : World) :
    Calls Tryd.prog 98 #[.int .u8 1] w fun e w' => e = .returned (.tuple #[.agg #[.bool true, .bool true, .bool true, .bool true, .bool true, .bool true, .bool true, .bool true], .int .i64 0]) ∧ w' = (w.alloc (.cells #[.bool true, .bool true, .bool true, .bool true, .bool true, .bool true, .bool true, .bool true] 140)) := by
    go_enter Tryd.func98, Tryd.ntmps98
    go_wp2
    exact bodyPost_ret (v := .tuple #[.agg #[.bool true, .bool true, .bool true, .bool true, .bool true, .bool true, .bool true, .bool true], .int .i64 0]) (by simp [results, Tryd.results98, go_sem]) rfl ⟨rfl, rfl⟩
set_option maxHeartbeats 8000000 in
set_option maxRecDepth 100000 in
theorem hood_within2 (w : World) :
    Calls Tryd.prog 98 #[.int .u8 2] w fun e w' => e = .returned (.tuple #[.agg #[.bool true, .bool false, .bool true, .bool false, .bool true, .bool false, .bool true, .bool false], .int .i64 0]) ∧ w' = (w.alloc (.cells #[.bool true, .bool false, .bool true, .bool false, .bool true, .bool false, .bool true, .bool false] 140)) := by
    go_enter Tryd.func98, Tryd.ntmps98
    go_wp2
    exact bodyPost_ret (v := .tuple #[.agg #[.bool true, .bool false, .bool true, .bool false, .bool true, .bool false, .bool true, .bool false], .int .i64 0]) (by simp [results, Tryd.results98, go_sem]) rfl ⟨rfl, rfl⟩
set_option maxHeartbeats 8000000 in
set_option maxRecDepth 100000 in
theorem hood_within3 (w : World) :
    Calls Tryd.prog 98 #[.int .u8 3] w fun e w' => e = .returned (.tuple #[.agg #[.bool true, .bool false, .bool true, .bool true, .bool true, .bool false, .bool true, .bool true], .int .i64 0]) ∧ w' = (w.alloc (.cells #[.bool true, .bool false, .bool true, .bool true, .bool true, .bool false, .bool true, .bool true] 140)) := by
    go_enter Tryd.func98, Tryd.ntmps98
    go_wp2
    exact bodyPost_ret (v := .tuple #[.agg #[.bool true, .bool false, .bool true, .bool true, .bool true, .bool false, .bool true, .bool true], .int .i64 0]) (by simp [results, Tryd.results98, go_sem]) rfl ⟨rfl, rfl⟩
set_option maxHeartbeats 8000000 in
set_option maxRecDepth 100000 in
theorem hood_within0 (a : Int) (h1 : (a == 1) = false) (h2 : (a == 2) = false) (h3 : (a == 3) = false) (w : World) :
    Calls Tryd.prog 98 #[.int .u8 a] w fun e w' => e = .returned (.tuple #[.agg #[.bool false, .bool false, .bool false, .bool false, .bool false, .bool false, .bool false, .bool false], .int .i64 70]) ∧ w' = (w.alloc (.cells #[.bool false, .bool false, .bool false, .bool false, .bool false, .bool false, .bool false, .bool false] 140)) := by
    go_enter Tryd.func98, Tryd.ntmps98
    go_wp2
    exact bodyPost_ret (v := .tuple #[.agg #[.bool false, .bool false, .bool false, .bool false, .bool false, .bool false, .bool false, .bool false], .int .i64 70]) (by simp [results, Tryd.results98, go_sem]) rfl ⟨rfl, rfl⟩
set_option maxHeartbeats 8000000 in
set_option maxRecDepth 100000 in
theorem hood_all0 (w : World) :
    Calls Tryd.prog 99 #[] w fun e w' => e = .returned (.agg #[.int .i64 0, .int .i64 (-1), .int .i64 1, .int .i64 (-1), .int .i64 1, .int .i64 0, .int .i64 1, .int .i64 1, .int .i64 0, .int .i64 1, .int .i64 (-1), .int .i64 1, .int .i64 (-1), .int .i64 0, .int .i64 (-1), .int .i64 (-1)]) ∧ w' = w.alloc (.cells #[.int .i64 0, .int .i64 (-1), .int .i64 1, .int .i64 (-1), .int .i64 1, .int .i64 0, .int .i64 1, .int .i64 1, .int .i64 0, .int .i64 1, .int .i64 (-1), .int .i64 1, .int .i64 (-1), .int .i64 0, .int .i64 (-1), .int .i64 (-1)] 145) := by
    go_enter Tryd.func99, Tryd.ntmps99
    go_wp2
    exact bodyPost_ret (v := .agg #[.int .i64 0, .int .i64 (-1), .int .i64 1, .int .i64 (-1), .int .i64 1, .int .i64 0, .int .i64 1, .int .i64 1, .int .i64 0, .int .i64 1, .int .i64 (-1), .int .i64 1, .int .i64 (-1), .int .i64 0, .int .i64 (-1), .int .i64 (-1)]) (by simp [results, Tryd.results99, go_sem]) rfl ⟨rfl, rfl⟩

end Go.Proofs.YtkahgdkpehlanaaDoor.L
