/- Calls of the program that are known; the kernel runs them. No statement of the seat stands here. -/
import Derived.Test.YtolkehkjhpnioaaGreatDoorTb
import Derived.KernelRfl
namespace Go.HL
open Go
set_option maxRecDepth 1000000
noncomputable section
def ent7 : Ent := {
 f := 261,
 args := [(.agg [(.str 1 107), (.slice 1006 0 1 none), .nils, (.int .i64 (.ofNat 4)), (.slice 1008 0 1 none)])],
 next := 1428,
 hin := [(4, tab4O),
  (8, tab8O),
  (1006, (.cells [(.str 1 97), (.bool true)] 248 true true)),
  (1008, (.cells [(.slice 1199 0 5 none), (.int .i64 (.ofNat 2)), (.int .i64 (.ofNat 0)), (.int .i64 (.ofNat 0)), (.int .i64 (.ofNat 0))] 260 true true)),
  (1199, (.cells [(.int .i64 (.ofNat 4)), (.int .i64 (.ofNat 0)), (.int .i64 (.ofNat 0)), (.int .i64 (.ofNat 0)), (.int .i64 (.ofNat 0)), (.int .i32 (.ofNat 0)), .nils, (.int .i64 (.ofNat 4)), (.int .i64 (.ofNat 0)), (.int .i64 (.ofNat 1)), (.int .i64 (.ofNat 0)), (.int .i64 (.ofNat 0)), (.int .i32 (.ofNat 0)), .nils, (.int .i64 (.ofNat 0)), (.int .i64 (.ofNat 0)), (.int .i64 (.ofNat 2)), (.int .i64 (.ofNat 0)), (.int .i64 (.ofNat 0)), (.int .i32 (.ofNat 2)), .nils, (.int .i64 (.ofNat 3)), (.int .i64 (.ofNat 2)), (.int .i64 (.ofNat 3)), (.int .i64 (.ofNat 1)), (.int .i64 (.ofNat 2)), (.int .i32 (.ofNat 0)), .nils, (.int .i64 (.ofNat 7)), (.int .i64 (.ofNat 0)), (.int .i64 (.ofNat 0)), (.int .i64 (.ofNat 0)), (.int .i64 (.ofNat 3)), (.int .i32 (.ofNat 0)), .nils] 262 true true))],
 res := (.ptr 1435 0),
 next' := 1596,
 hout := [(4, tab4O),
  (8, tab8O),
  (1006, (.cells [(.str 1 97), (.bool true)] 248 true true)),
  (1008, (.cells [(.slice 1199 0 5 none), (.int .i64 (.ofNat 2)), (.int .i64 (.ofNat 0)), (.int .i64 (.ofNat 0)), (.int .i64 (.ofNat 0))] 260 true true)),
  (1199, (.cells [(.int .i64 (.ofNat 4)), (.int .i64 (.ofNat 0)), (.int .i64 (.ofNat 0)), (.int .i64 (.ofNat 0)), (.int .i64 (.ofNat 0)), (.int .i32 (.ofNat 0)), .nils, (.int .i64 (.ofNat 4)), (.int .i64 (.ofNat 0)), (.int .i64 (.ofNat 1)), (.int .i64 (.ofNat 0)), (.int .i64 (.ofNat 0)), (.int .i32 (.ofNat 0)), .nils, (.int .i64 (.ofNat 0)), (.int .i64 (.ofNat 0)), (.int .i64 (.ofNat 2)), (.int .i64 (.ofNat 0)), (.int .i64 (.ofNat 0)), (.int .i32 (.ofNat 2)), .nils, (.int .i64 (.ofNat 3)), (.int .i64 (.ofNat 2)), (.int .i64 (.ofNat 3)), (.int .i64 (.ofNat 1)), (.int .i64 (.ofNat 2)), (.int .i32 (.ofNat 0)), .nils, (.int .i64 (.ofNat 7)), (.int .i64 (.ofNat 0)), (.int .i64 (.ofNat 0)), (.int .i64 (.ofNat 0)), (.int .i64 (.ofNat 3)), (.int .i32 (.ofNat 0)), .nils] 262 true true)),
  (1430, (.cells [(.str 1 97), (.bool true)] 248 true true)),
  (1432, (.cells [(.slice 1434 0 5 none), (.int .i64 (.ofNat 2)), (.int .i64 (.ofNat 0)), (.int .i64 (.ofNat 0)), (.int .i64 (.ofNat 0))] 260 true true)),
  (1434, (.cells [(.int .i64 (.ofNat 4)), (.int .i64 (.ofNat 0)), (.int .i64 (.ofNat 0)), (.int .i64 (.ofNat 0)), (.int .i64 (.ofNat 0)), (.int .i32 (.ofNat 0)), .nils, (.int .i64 (.ofNat 4)), (.int .i64 (.ofNat 0)), (.int .i64 (.ofNat 1)), (.int .i64 (.ofNat 0)), (.int .i64 (.ofNat 0)), (.int .i32 (.ofNat 0)), .nils, (.int .i64 (.ofNat 0)), (.int .i64 (.ofNat 0)), (.int .i64 (.ofNat 2)), (.int .i64 (.ofNat 0)), (.int .i64 (.ofNat 0)), (.int .i32 (.ofNat 2)), .nils, (.int .i64 (.ofNat 3)), (.int .i64 (.ofNat 2)), (.int .i64 (.ofNat 3)), (.int .i64 (.ofNat 1)), (.int .i64 (.ofNat 2)), (.int .i32 (.ofNat 0)), .nils, (.int .i64 (.ofNat 7)), (.int .i64 (.ofNat 0)), (.int .i64 (.ofNat 0)), (.int .i64 (.ofNat 0)), (.int .i64 (.ofNat 3)), (.int .i32 (.ofNat 0)), .nils] 262 true true)),
  (1435, (.cells [(.str 1 107), (.slice 1430 0 1 none), .nils, (.int .i64 (.ofNat 4)), (.slice 1432 0 1 none), (.slice 1515 0 1 none), (.slice 1593 0 1 (some 1))] 434 false true)),
  (1515, (.cells [.nils] 154 true true)),
  (1593, (.cells [.nils] 154 false true))] }
theorem ent7_ok : provedBy (runF Go.Proofs.Tryz.prog tb (noneK) 100000) ent7 = true := by kernel_rfl
theorem ent7_fine : Fine Go.Proofs.Tryz.prog ent7 := fine_of_run (noneK_sound) ent7_ok
end
end Go.HL
namespace Go.HL
open Go
set_option maxRecDepth 1000000
noncomputable section
def ent8 : Ent := {
 f := 145,
 args := [(.ptr 1435 0)],
 next := 1596,
 hin := [(4, tab4O),
  (8, tab8O),
  (1430, (.cells [(.str 1 97), (.bool true)] 248 true true)),
  (1432, (.cells [(.slice 1434 0 5 none), (.int .i64 (.ofNat 2)), (.int .i64 (.ofNat 0)), (.int .i64 (.ofNat 0)), (.int .i64 (.ofNat 0))] 260 true true)),
  (1434, (.cells [(.int .i64 (.ofNat 4)), (.int .i64 (.ofNat 0)), (.int .i64 (.ofNat 0)), (.int .i64 (.ofNat 0)), (.int .i64 (.ofNat 0)), (.int .i32 (.ofNat 0)), .nils, (.int .i64 (.ofNat 4)), (.int .i64 (.ofNat 0)), (.int .i64 (.ofNat 1)), (.int .i64 (.ofNat 0)), (.int .i64 (.ofNat 0)), (.int .i32 (.ofNat 0)), .nils, (.int .i64 (.ofNat 0)), (.int .i64 (.ofNat 0)), (.int .i64 (.ofNat 2)), (.int .i64 (.ofNat 0)), (.int .i64 (.ofNat 0)), (.int .i32 (.ofNat 2)), .nils, (.int .i64 (.ofNat 3)), (.int .i64 (.ofNat 2)), (.int .i64 (.ofNat 3)), (.int .i64 (.ofNat 1)), (.int .i64 (.ofNat 2)), (.int .i32 (.ofNat 0)), .nils, (.int .i64 (.ofNat 7)), (.int .i64 (.ofNat 0)), (.int .i64 (.ofNat 0)), (.int .i64 (.ofNat 0)), (.int .i64 (.ofNat 3)), (.int .i32 (.ofNat 0)), .nils] 262 true true)),
  (1435, (.cells [(.str 1 107), (.slice 1430 0 1 none), .nils, (.int .i64 (.ofNat 4)), (.slice 1432 0 1 none), (.slice 1515 0 1 none), (.slice 1593 0 1 (some 1))] 434 false true)),
  (1515, (.cells [.nils] 154 true true)),
  (1593, (.cells [.nils] 154 false true))],
 res := (.bool false),
 next' := 1784,
 hout := [(4, tab4O),
  (8, tab8O),
  (1430, (.cells [(.str 1 97), (.bool true)] 248 true true)),
  (1432, (.cells [(.slice 1434 0 5 none), (.int .i64 (.ofNat 2)), (.int .i64 (.ofNat 0)), (.int .i64 (.ofNat 0)), (.int .i64 (.ofNat 0))] 260 true true)),
  (1434, (.cells [(.int .i64 (.ofNat 4)), (.int .i64 (.ofNat 0)), (.int .i64 (.ofNat 0)), (.int .i64 (.ofNat 0)), (.int .i64 (.ofNat 0)), (.int .i32 (.ofNat 0)), .nils, (.int .i64 (.ofNat 4)), (.int .i64 (.ofNat 0)), (.int .i64 (.ofNat 1)), (.int .i64 (.ofNat 0)), (.int .i64 (.ofNat 0)), (.int .i32 (.ofNat 0)), .nils, (.int .i64 (.ofNat 0)), (.int .i64 (.ofNat 0)), (.int .i64 (.ofNat 2)), (.int .i64 (.ofNat 0)), (.int .i64 (.ofNat 0)), (.int .i32 (.ofNat 2)), .nils, (.int .i64 (.ofNat 3)), (.int .i64 (.ofNat 2)), (.int .i64 (.ofNat 3)), (.int .i64 (.ofNat 1)), (.int .i64 (.ofNat 2)), (.int .i32 (.ofNat 0)), .nils, (.int .i64 (.ofNat 7)), (.int .i64 (.ofNat 0)), (.int .i64 (.ofNat 0)), (.int .i64 (.ofNat 0)), (.int .i64 (.ofNat 3)), (.int .i32 (.ofNat 0)), .nils] 262 true true)),
  (1435, (.cells [(.str 1 107), (.slice 1430 0 1 none), .nils, (.int .i64 (.ofNat 4)), (.slice 1432 0 1 none), (.slice 1703 0 1 none), (.slice 1781 0 1 (some 1))] 434 false true)),
  (1515, (.cells [.nils] 154 true true)),
  (1593, (.cells [.nils] 154 false true)),
  (1703, (.cells [.nils] 154 true true)),
  (1781, (.cells [.nils] 154 false true))] }
theorem ent8_ok : provedBy (runF Go.Proofs.Tryz.prog tb (noneK) 100000) ent8 = true := by kernel_rfl
theorem ent8_fine : Fine Go.Proofs.Tryz.prog ent8 := fine_of_run (noneK_sound) ent8_ok
end
end Go.HL
namespace Go.HL
open Go
set_option maxRecDepth 1000000
noncomputable section
def ent9 : Ent := {
 f := 145,
 args := [(.ptr 1435 0)],
 next := 1946,
 hin := [(4, tab4O),
  (8, tab8O),
  (1430, (.cells [(.str 1 97), (.bool true)] 248 true true)),
  (1432, (.cells [(.slice 1434 0 4 none), (.int .i64 (.ofNat 2)), (.int .i64 (.ofNat 0)), (.int .i64 (.ofNat 0)), (.int .i64 (.ofNat 0))] 260 true true)),
  (1434, (.cells [(.int .i64 (.ofNat 4)), (.int .i64 (.ofNat 0)), (.int .i64 (.ofNat 0)), (.int .i64 (.ofNat 0)), (.int .i64 (.ofNat 0)), (.int .i32 (.ofNat 0)), .nils, (.int .i64 (.ofNat 0)), (.int .i64 (.ofNat 0)), (.int .i64 (.ofNat 2)), (.int .i64 (.ofNat 0)), (.int .i64 (.ofNat 0)), (.int .i32 (.ofNat 2)), .nils, (.int .i64 (.ofNat 3)), (.int .i64 (.ofNat 2)), (.int .i64 (.ofNat 3)), (.int .i64 (.ofNat 0)), (.int .i64 (.ofNat 2)), (.int .i32 (.ofNat 0)), .nils, (.int .i64 (.ofNat 7)), (.int .i64 (.ofNat 0)), (.int .i64 (.ofNat 0)), (.int .i64 (.ofNat 0)), (.int .i64 (.ofNat 3)), (.int .i32 (.ofNat 0)), .nils, (.int .i64 (.ofNat 0)), (.int .i64 (.ofNat 0)), (.int .i64 (.ofNat 0)), (.int .i64 (.ofNat 0)), (.int .i64 (.ofNat 0)), (.int .i32 (.ofNat 0)), .nils] 262 true true)),
  (1435, (.cells [(.str 1 107), (.slice 1430 0 1 none), .nils, (.int .i64 (.ofNat 4)), (.slice 1432 0 1 none), (.slice 1703 0 1 none), (.slice 1781 0 1 (some 1))] 434 false true)),
  (1703, (.cells [.nils] 154 true true)),
  (1781, (.cells [.nils] 154 false true))],
 res := (.bool false),
 next' := 2107,
 hout := [(4, tab4O),
  (8, tab8O),
  (1430, (.cells [(.str 1 97), (.bool true)] 248 true true)),
  (1432, (.cells [(.slice 1434 0 4 none), (.int .i64 (.ofNat 2)), (.int .i64 (.ofNat 0)), (.int .i64 (.ofNat 0)), (.int .i64 (.ofNat 0))] 260 true true)),
  (1434, (.cells [(.int .i64 (.ofNat 4)), (.int .i64 (.ofNat 0)), (.int .i64 (.ofNat 0)), (.int .i64 (.ofNat 0)), (.int .i64 (.ofNat 0)), (.int .i32 (.ofNat 0)), .nils, (.int .i64 (.ofNat 0)), (.int .i64 (.ofNat 0)), (.int .i64 (.ofNat 2)), (.int .i64 (.ofNat 0)), (.int .i64 (.ofNat 0)), (.int .i32 (.ofNat 2)), .nils, (.int .i64 (.ofNat 3)), (.int .i64 (.ofNat 2)), (.int .i64 (.ofNat 3)), (.int .i64 (.ofNat 0)), (.int .i64 (.ofNat 2)), (.int .i32 (.ofNat 0)), .nils, (.int .i64 (.ofNat 7)), (.int .i64 (.ofNat 0)), (.int .i64 (.ofNat 0)), (.int .i64 (.ofNat 0)), (.int .i64 (.ofNat 3)), (.int .i32 (.ofNat 0)), .nils, (.int .i64 (.ofNat 0)), (.int .i64 (.ofNat 0)), (.int .i64 (.ofNat 0)), (.int .i64 (.ofNat 0)), (.int .i64 (.ofNat 0)), (.int .i32 (.ofNat 0)), .nils] 262 true true)),
  (1435, (.cells [(.str 1 107), (.slice 1430 0 1 none), .nils, (.int .i64 (.ofNat 4)), (.slice 1432 0 1 none), (.slice 2037 0 1 none), (.slice 2104 0 1 (some 1))] 434 false true)),
  (1703, (.cells [.nils] 154 true true)),
  (1781, (.cells [.nils] 154 false true)),
  (2037, (.cells [.nils] 154 true true)),
  (2104, (.cells [.nils] 154 false true))] }
theorem ent9_ok : provedBy (runF Go.Proofs.Tryz.prog tb (noneK) 100000) ent9 = true := by kernel_rfl
theorem ent9_fine : Fine Go.Proofs.Tryz.prog ent9 := fine_of_run (noneK_sound) ent9_ok
end
end Go.HL
