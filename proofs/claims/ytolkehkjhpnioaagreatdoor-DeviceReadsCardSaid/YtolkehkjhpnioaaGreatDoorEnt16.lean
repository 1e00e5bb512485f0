/- A call of the program's, known: number 16. The kernel runs it. No statement of the seat stands here. -/
import Derived.Test.YtolkehkjhpnioaaGreatDoorTb
import Derived.Test.YtolkehkjhpnioaaGreatDoorEA
import Derived.Test.YtolkehkjhpnioaaGreatDoorEnt15
import Derived.KernelRfl
namespace Go.HL
open Go
set_option maxRecDepth 1000000
noncomputable section
def ent16 : Ent := {
  f := 7,
  args := [(.ptr 12 0), (.str 50 485448020827372184771083222032866740389363019456838431878957726489964153556594668774164925781353186230758244418559090813)],
  next := 13,
  hin := [(4, tab4O),
    (8, tab8O),
    (12, (.cells [.nilm, .nils, (.int .i64 (.ofNat 4)), (.bool false), (.int .i64 (.ofNat 1)), (.int .i64 (.ofNat 1)), (.int .i64 (.ofNat 0)), (.int .i64 (.ofNat 0)), (.int .i64 (.ofNat 0)), .nilp, .nilm, .nils, (.int .i64 (.ofNat 4)), (.bool false), (.int .i64 (.ofNat 1)), (.int .i64 (.ofNat 1)), (.int .i64 (.ofNat 0)), (.int .i64 (.ofNat 0)), (.int .i64 (.ofNat 0)), .nilp, .nilm, .nils, (.int .i64 (.ofNat 4)), (.bool false), (.int .i64 (.ofNat 1)), (.int .i64 (.ofNat 1)), (.int .i64 (.ofNat 0)), (.int .i64 (.ofNat 0)), (.int .i64 (.ofNat 0)), .nilp, (.bool true)] 45 false true))],
  res := (.str 4 1869291569),
  next' := 3122,
  hout := [(4, tab4O),
    (8, tab8O),
    (12, (.cells [(.map 641), .nils, (.int .i64 (.ofNat 4)), (.bool false), (.int .i64 (.ofNat 1)), (.int .i64 (.ofNat 1)), (.int .i64 (.ofNat 0)), (.int .i64 (.ofNat 0)), (.int .i64 (.ofNat 0)), .nilp, .nilm, .nils, (.int .i64 (.ofNat 4)), (.bool false), (.int .i64 (.ofNat 1)), (.int .i64 (.ofNat 1)), (.int .i64 (.ofNat 0)), (.int .i64 (.ofNat 0)), (.int .i64 (.ofNat 0)), .nilp, .nilm, .nils, (.int .i64 (.ofNat 4)), (.bool false), (.int .i64 (.ofNat 1)), (.int .i64 (.ofNat 1)), (.int .i64 (.ofNat 0)), (.int .i64 (.ofNat 0)), (.int .i64 (.ofNat 0)), .nilp, (.bool true)] 45 false true)),
    (641, (.map [⟨(.str 1 107), (.agg [(.str 1 107), (.slice 3112 0 1 none), .nils, (.int .i64 (.ofNat 0)), (.slice 3110 0 5 none)]), 0⟩] 1 true)),
    (3110, (.cells [(.int .i64 (.ofNat 4)), (.int .i64 (.ofNat 0)), (.int .i64 (.ofNat 0)), (.int .i64 (.ofNat 0)), (.int .i64 (.ofNat 0)), (.int .i32 (.ofNat 0)), (.int .i64 (.ofNat 0)), (.int .i64 (.ofNat 0)), (.int .i64 (.ofNat 0)), (.int .i64 (.ofNat 0)), (.int .i64 (.ofNat 1)), (.int .i64 (.ofNat 0)), (.int .i64 (.ofNat 0)), (.int .i32 (.ofNat 2)), (.int .i64 (.ofNat 0)), (.int .i64 (.ofNat 0)), (.int .i64 (.ofNat 3)), (.int .i64 (.ofNat 2)), (.int .i64 (.ofNat 1)), (.int .i64 (.ofNat 0)), (.int .i64 (.ofNat 1)), (.int .i32 (.ofNat 0)), (.int .i64 (.ofNat 0)), (.int .i64 (.ofNat 0)), (.int .i64 (.ofNat 7)), (.int .i64 (.ofNat 0)), (.int .i64 (.ofNat 0)), (.int .i64 (.ofNat 0)), (.int .i64 (.ofNat 1)), (.int .i32 (.ofNat 0)), (.int .i64 (.ofNat 0)), (.int .i64 (.ofNat 0)), (.int .i64 (.ofNat 15)), (.int .i64 (.ofNat 0)), (.int .i64 (.ofNat 0)), (.int .i64 (.ofNat 0)), (.int .i64 (.ofNat 0)), (.int .i32 (.ofNat 0)), (.int .i64 (.ofNat 0)), (.int .i64 (.ofNat 0))] 297 true true)),
    (3112, (.cells [(.str 1 97), (.bool true)] 248 true true))] }
theorem ent16_ok : provedBy (runF Go.Proofs.Tryz.prog tb (known [ent1, ent2, ent15]) 100000) ent16 = true := by kernel_rfl
theorem ent16_fine : Fine Go.Proofs.Tryz.prog ent16 := fine_of_run (known_sound (fine_cons ent1_fine (fine_cons ent2_fine (fine_cons ent15_fine (fine_nil))))) ent16_ok
end
end Go.HL
