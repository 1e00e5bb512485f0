/- Calls of the program that are known; the kernel runs them. No statement of the seat stands here. -/
import Derived.Test.YtolkehkjhpnioaaGreatDoorTb
import Derived.KernelRfl
namespace Go.HL
open Go
set_option maxRecDepth 1000000
noncomputable section
def ent1 : Ent := {
 f := 42,
 args := [(.str 40 896082250341741886336870758073067032154031785515960219866192691204266879628268623310706372714621)],
 next := 39,
 hin := [(4, tab4O),
  (8, tab8O)],
 res := (.tuple [(.agg [.nils, (.slice 291 0 1 none)]), (.int .i64 (.ofNat 0)), (.int .i64 (.ofNat 0))]),
 next' := 453,
 hout := [(4, tab4O),
  (8, tab8O),
  (158, (.cells [(.str 1 97), (.bool true)] 248 true true)),
  (253, (.cells [(.int .i64 (.ofNat 2)), (.int .i64 (.ofNat 0)), (.int .i32 (.ofNat 0)), (.str 0 0), .nils, (.int .i64 (.ofNat 0)), (.int .i64 (.ofNat 0)), (.int .i32 (.ofNat 2)), (.str 0 0), .nils] 521 false true)),
  (286, (.cells [(.int .i64 (.ofNat 2)), (.int .i64 (.ofNat 0)), (.int .i32 (.ofNat 0)), (.str 0 0), .nils, (.int .i64 (.ofNat 4)), (.int .i64 (.ofNat 2)), (.int .i32 (.ofNat 0)), (.str 0 0), (.slice 253 0 2 (some 2))] 521 true true)),
  (289, (.cells [(.int .i64 (.ofNat 2)), (.int .i64 (.ofNat 0)), (.str 1 97), (.slice 286 0 2 none), .nils, .nils] 379 true true)),
  (291, (.cells [(.str 1 107), (.slice 158 0 1 none), .nils, (.slice 289 0 1 none)] 88 true true))] }
theorem ent1_ok : provedBy (runF Go.Proofs.Tryz.prog tb (noneK) 100000) ent1 = true := by kernel_rfl
theorem ent1_fine : Fine Go.Proofs.Tryz.prog ent1 := fine_of_run (noneK_sound) ent1_ok
end
end Go.HL
namespace Go.HL
open Go
set_option maxRecDepth 1000000
noncomputable section
def ent2 : Ent := {
 f := 44,
 args := [(.agg [.nils, (.slice 291 0 1 none)])],
 next := 454,
 hin := [(4, tab4O),
  (8, tab8O),
  (158, (.cells [(.str 1 97), (.bool true)] 248 true true)),
  (253, (.cells [(.int .i64 (.ofNat 2)), (.int .i64 (.ofNat 0)), (.int .i32 (.ofNat 0)), (.str 0 0), .nils, (.int .i64 (.ofNat 0)), (.int .i64 (.ofNat 0)), (.int .i32 (.ofNat 2)), (.str 0 0), .nils] 521 false true)),
  (286, (.cells [(.int .i64 (.ofNat 2)), (.int .i64 (.ofNat 0)), (.int .i32 (.ofNat 0)), (.str 0 0), .nils, (.int .i64 (.ofNat 4)), (.int .i64 (.ofNat 2)), (.int .i32 (.ofNat 0)), (.str 0 0), (.slice 253 0 2 (some 2))] 521 true true)),
  (289, (.cells [(.int .i64 (.ofNat 2)), (.int .i64 (.ofNat 0)), (.str 1 97), (.slice 286 0 2 none), .nils, .nils] 379 true true)),
  (291, (.cells [(.str 1 107), (.slice 158 0 1 none), .nils, (.slice 289 0 1 none)] 88 true true))],
 res := (.tuple [(.str 0 0), (.int .i64 (.ofNat 0))]),
 next' := 641,
 hout := [(4, tab4O),
  (8, tab8O),
  (158, (.cells [(.str 1 97), (.bool true)] 248 true true)),
  (253, (.cells [(.int .i64 (.ofNat 2)), (.int .i64 (.ofNat 0)), (.int .i32 (.ofNat 0)), (.str 0 0), .nils, (.int .i64 (.ofNat 0)), (.int .i64 (.ofNat 0)), (.int .i32 (.ofNat 2)), (.str 0 0), .nils] 521 false true)),
  (286, (.cells [(.int .i64 (.ofNat 2)), (.int .i64 (.ofNat 0)), (.int .i32 (.ofNat 0)), (.str 0 0), .nils, (.int .i64 (.ofNat 4)), (.int .i64 (.ofNat 2)), (.int .i32 (.ofNat 0)), (.str 0 0), (.slice 253 0 2 (some 2))] 521 true true)),
  (289, (.cells [(.int .i64 (.ofNat 2)), (.int .i64 (.ofNat 0)), (.str 1 97), (.slice 286 0 2 none), .nils, .nils] 379 true true)),
  (291, (.cells [(.str 1 107), (.slice 158 0 1 none), .nils, (.slice 289 0 1 none)] 88 true true))] }
theorem ent2_ok : provedBy (runF Go.Proofs.Tryz.prog tb (noneK) 100000) ent2 = true := by kernel_rfl
theorem ent2_fine : Fine Go.Proofs.Tryz.prog ent2 := fine_of_run (noneK_sound) ent2_ok
end
end Go.HL
namespace Go.HL
open Go
set_option maxRecDepth 1000000
noncomputable section
def ent3 : Ent := {
 f := 44,
 args := [(.agg [.nils, (.slice 291 0 1 none)])],
 next := 649,
 hin := [(4, tab4O),
  (8, tab8O),
  (158, (.cells [(.str 1 97), (.bool true)] 248 true true)),
  (253, (.cells [(.int .i64 (.ofNat 2)), (.int .i64 (.ofNat 0)), (.int .i32 (.ofNat 0)), (.str 0 0), .nils, (.int .i64 (.ofNat 0)), (.int .i64 (.ofNat 0)), (.int .i32 (.ofNat 2)), (.str 0 0), .nils] 521 false true)),
  (286, (.cells [(.int .i64 (.ofNat 2)), (.int .i64 (.ofNat 0)), (.int .i32 (.ofNat 0)), (.str 0 0), .nils, (.int .i64 (.ofNat 4)), (.int .i64 (.ofNat 2)), (.int .i32 (.ofNat 0)), (.str 0 0), (.slice 253 0 2 (some 2))] 521 true true)),
  (289, (.cells [(.int .i64 (.ofNat 2)), (.int .i64 (.ofNat 0)), (.str 1 97), (.slice 286 0 2 none), .nils, .nils] 379 true true)),
  (291, (.cells [(.str 1 107), (.slice 158 0 1 none), .nils, (.slice 289 0 1 none)] 88 true true))],
 res := (.tuple [(.str 0 0), (.int .i64 (.ofNat 0))]),
 next' := 836,
 hout := [(4, tab4O),
  (8, tab8O),
  (158, (.cells [(.str 1 97), (.bool true)] 248 true true)),
  (253, (.cells [(.int .i64 (.ofNat 2)), (.int .i64 (.ofNat 0)), (.int .i32 (.ofNat 0)), (.str 0 0), .nils, (.int .i64 (.ofNat 0)), (.int .i64 (.ofNat 0)), (.int .i32 (.ofNat 2)), (.str 0 0), .nils] 521 false true)),
  (286, (.cells [(.int .i64 (.ofNat 2)), (.int .i64 (.ofNat 0)), (.int .i32 (.ofNat 0)), (.str 0 0), .nils, (.int .i64 (.ofNat 4)), (.int .i64 (.ofNat 2)), (.int .i32 (.ofNat 0)), (.str 0 0), (.slice 253 0 2 (some 2))] 521 true true)),
  (289, (.cells [(.int .i64 (.ofNat 2)), (.int .i64 (.ofNat 0)), (.str 1 97), (.slice 286 0 2 none), .nils, .nils] 379 true true)),
  (291, (.cells [(.str 1 107), (.slice 158 0 1 none), .nils, (.slice 289 0 1 none)] 88 true true))] }
theorem ent3_ok : provedBy (runF Go.Proofs.Tryz.prog tb (noneK) 100000) ent3 = true := by kernel_rfl
theorem ent3_fine : Fine Go.Proofs.Tryz.prog ent3 := fine_of_run (noneK_sound) ent3_ok
end
end Go.HL
