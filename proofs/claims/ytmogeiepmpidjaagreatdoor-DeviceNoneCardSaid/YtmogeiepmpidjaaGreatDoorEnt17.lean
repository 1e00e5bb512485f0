/- A call of the program's, known: number 17. The kernel runs it. No statement of the seat stands here. -/
import Derived.Test.YtmogeiepmpidjaaGreatDoorTb
import Derived.KernelRfl
namespace Go.HL
open Go
set_option maxRecDepth 1000000
noncomputable section
def ent17 : Ent := {
  f := 4,
  args := [(.ptr 13 0), (.str 16 63971295518861232071876413890667749424)],
  next := 3146,
  hin := [(4, tab4O),
    (8, tab8O),
    (13, (.cells [(.map 642), (.slice 3135 0 1 none), (.int .i64 (.ofNat 4)), (.bool false), (.int .i64 (.ofNat 1)), (.int .i64 (.ofNat 1)), (.int .i64 (.ofNat 0)), (.int .i64 (.ofNat 0)), (.int .i64 (.ofNat 0)), .nilp, .nilm, .nils, (.int .i64 (.ofNat 4)), (.bool false), (.int .i64 (.ofNat 1)), (.int .i64 (.ofNat 1)), (.int .i64 (.ofNat 0)), (.int .i64 (.ofNat 0)), (.int .i64 (.ofNat 0)), .nilp, .nilm, .nils, (.int .i64 (.ofNat 4)), (.bool false), (.int .i64 (.ofNat 1)), (.int .i64 (.ofNat 1)), (.int .i64 (.ofNat 0)), (.int .i64 (.ofNat 0)), (.int .i64 (.ofNat 0)), .nilp, (.bool true)] 33 false true)),
    (642, (.map [⟨(.str 1 107), (.agg [(.str 1 107), (.slice 3113 0 1 none), .nils, (.int .i64 (.ofNat 0)), (.slice 3111 0 5 none)]), 0⟩] 1 true)),
    (3111, (.cells [(.int .i64 (.ofNat 4)), (.int .i64 (.ofNat 0)), (.int .i64 (.ofNat 0)), (.int .i64 (.ofNat 0)), (.int .i64 (.ofNat 0)), (.int .i32 (.ofNat 0)), (.int .i64 (.ofNat 0)), (.int .i64 (.ofNat 0)), (.int .i64 (.ofNat 0)), (.int .i64 (.ofNat 0)), (.int .i64 (.ofNat 1)), (.int .i64 (.ofNat 0)), (.int .i64 (.ofNat 0)), (.int .i32 (.ofNat 2)), (.int .i64 (.ofNat 0)), (.int .i64 (.ofNat 0)), (.int .i64 (.ofNat 3)), (.int .i64 (.ofNat 2)), (.int .i64 (.ofNat 1)), (.int .i64 (.ofNat 0)), (.int .i64 (.ofNat 1)), (.int .i32 (.ofNat 0)), (.int .i64 (.ofNat 0)), (.int .i64 (.ofNat 0)), (.int .i64 (.ofNat 7)), (.int .i64 (.ofNat 0)), (.int .i64 (.ofNat 0)), (.int .i64 (.ofNat 0)), (.int .i64 (.ofNat 1)), (.int .i32 (.ofNat 0)), (.int .i64 (.ofNat 0)), (.int .i64 (.ofNat 0)), (.int .i64 (.ofNat 15)), (.int .i64 (.ofNat 0)), (.int .i64 (.ofNat 0)), (.int .i64 (.ofNat 0)), (.int .i64 (.ofNat 0)), (.int .i32 (.ofNat 0)), (.int .i64 (.ofNat 0)), (.int .i64 (.ofNat 0))] 111 true true)),
    (3113, (.cells [(.str 1 97), (.bool true)] 105 true true)),
    (3133, (.cells [(.int .i32 (.ofNat 0)), (.int .i32 (.ofNat 0)), (.int .i32 (.ofNat 0)), (.int .i32 (.ofNat 0))] 21 false true)),
    (3135, (.cells [(.slice 3133 0 4 (some 4))] 46 true true))],
  res := (.str 2 28523),
  next' := 3266,
  hout := [(4, tab4O),
    (8, tab8O),
    (13, (.cells [(.map 642), (.slice 3135 0 1 none), (.int .i64 (.ofNat 4)), (.bool false), (.int .i64 (.ofNat 1)), (.int .i64 (.ofNat 1)), (.int .i64 (.ofNat 0)), (.int .i64 (.ofNat 0)), (.int .i64 (.ofNat 0)), (.ptr 3253 0), .nilm, .nils, (.int .i64 (.ofNat 4)), (.bool false), (.int .i64 (.ofNat 1)), (.int .i64 (.ofNat 1)), (.int .i64 (.ofNat 0)), (.int .i64 (.ofNat 0)), (.int .i64 (.ofNat 0)), .nilp, .nilm, .nils, (.int .i64 (.ofNat 4)), (.bool false), (.int .i64 (.ofNat 1)), (.int .i64 (.ofNat 1)), (.int .i64 (.ofNat 0)), (.int .i64 (.ofNat 0)), (.int .i64 (.ofNat 0)), .nilp, (.bool true)] 33 false true)),
    (642, (.map [⟨(.str 1 107), (.agg [(.str 1 107), (.slice 3113 0 1 none), .nils, (.int .i64 (.ofNat 0)), (.slice 3111 0 5 none)]), 0⟩] 1 true)),
    (3111, (.cells [(.int .i64 (.ofNat 4)), (.int .i64 (.ofNat 0)), (.int .i64 (.ofNat 0)), (.int .i64 (.ofNat 0)), (.int .i64 (.ofNat 0)), (.int .i32 (.ofNat 0)), (.int .i64 (.ofNat 0)), (.int .i64 (.ofNat 0)), (.int .i64 (.ofNat 0)), (.int .i64 (.ofNat 0)), (.int .i64 (.ofNat 1)), (.int .i64 (.ofNat 0)), (.int .i64 (.ofNat 0)), (.int .i32 (.ofNat 2)), (.int .i64 (.ofNat 0)), (.int .i64 (.ofNat 0)), (.int .i64 (.ofNat 3)), (.int .i64 (.ofNat 2)), (.int .i64 (.ofNat 1)), (.int .i64 (.ofNat 0)), (.int .i64 (.ofNat 1)), (.int .i32 (.ofNat 0)), (.int .i64 (.ofNat 0)), (.int .i64 (.ofNat 0)), (.int .i64 (.ofNat 7)), (.int .i64 (.ofNat 0)), (.int .i64 (.ofNat 0)), (.int .i64 (.ofNat 0)), (.int .i64 (.ofNat 1)), (.int .i32 (.ofNat 0)), (.int .i64 (.ofNat 0)), (.int .i64 (.ofNat 0)), (.int .i64 (.ofNat 15)), (.int .i64 (.ofNat 0)), (.int .i64 (.ofNat 0)), (.int .i64 (.ofNat 0)), (.int .i64 (.ofNat 0)), (.int .i32 (.ofNat 0)), (.int .i64 (.ofNat 0)), (.int .i64 (.ofNat 0))] 111 true true)),
    (3113, (.cells [(.str 1 97), (.bool true)] 105 true true)),
    (3133, (.cells [(.int .i32 (.ofNat 0)), (.int .i32 (.ofNat 0)), (.int .i32 (.ofNat 0)), (.int .i32 (.ofNat 0))] 21 false true)),
    (3135, (.cells [(.slice 3133 0 4 (some 4))] 46 true true)),
    (3233, (.cells [(.str 1 97), (.bool true)] 105 true true)),
    (3235, (.cells [(.int .i32 (.ofNat 0))] 21 true true)),
    (3236, (.cells [(.slice 3238 0 4 none)] 46 false true)),
    (3238, (.cells [(.int .i32 (.ofNat 0)), (.int .i32 (.ofNat 0)), (.int .i32 (.ofNat 0)), (.int .i32 (.ofNat 0))] 21 true true)),
    (3239, (.cells [(.slice 3233 0 1 none), (.slice 3235 0 1 none), (.slice 3236 0 1 (some 1)), (.slice 3241 0 1 none)] 177 false true)),
    (3241, (.cells [.nils] 179 true true)),
    (3242, (.cells [.nils, .nils, .nils, .nils] 117 false true)),
    (3243, (.cells [(.ptr 3239 0), (.int .i64 (.ofNat 0)), (.slice 3242 0 4 (some 4))] 115 false true)),
    (3245, (.cells [.nilp] 80 false true)),
    (3246, (.cells [(.int .i64 (.ofNat 0)), (.int .i64 (.ofNat 0)), (.int .i64 (.ofNat 0)), (.int .i64 (.ofNat 0))] 3 false true)),
    (3250, (.cells [(.str 1 97), (.bool true)] 105 true true)),
    (3252, (.cells [(.int .i64 (.ofNat 4)), (.int .i64 (.ofNat 0)), (.int .i64 (.ofNat 0)), (.int .i64 (.ofNat 0)), (.int .i64 (.ofNat 0)), (.int .i32 (.ofNat 0)), (.int .i64 (.ofNat 0)), (.int .i64 (.ofNat 0)), (.int .i64 (.ofNat 0)), (.int .i64 (.ofNat 0)), (.int .i64 (.ofNat 1)), (.int .i64 (.ofNat 0)), (.int .i64 (.ofNat 0)), (.int .i32 (.ofNat 2)), (.int .i64 (.ofNat 0)), (.int .i64 (.ofNat 0)), (.int .i64 (.ofNat 3)), (.int .i64 (.ofNat 2)), (.int .i64 (.ofNat 1)), (.int .i64 (.ofNat 0)), (.int .i64 (.ofNat 1)), (.int .i32 (.ofNat 0)), (.int .i64 (.ofNat 0)), (.int .i64 (.ofNat 0)), (.int .i64 (.ofNat 7)), (.int .i64 (.ofNat 0)), (.int .i64 (.ofNat 0)), (.int .i64 (.ofNat 0)), (.int .i64 (.ofNat 1)), (.int .i32 (.ofNat 0)), (.int .i64 (.ofNat 0)), (.int .i64 (.ofNat 0)), (.int .i64 (.ofNat 15)), (.int .i64 (.ofNat 0)), (.int .i64 (.ofNat 0)), (.int .i64 (.ofNat 0)), (.int .i64 (.ofNat 0)), (.int .i32 (.ofNat 0)), (.int .i64 (.ofNat 0)), (.int .i64 (.ofNat 0))] 111 true true)),
    (3253, (.cells [(.str 1 107), (.slice 3250 0 1 none), .nils, (.int .i64 (.ofNat 0)), (.slice 3252 0 5 none), (.str 1 107), (.int .i64 (.ofNat 1)), (.int .i64 (.ofNat 4)), (.slice 3255 0 1 none), (.int .i64 (.ofNat 4)), (.bool false), (.int .i64 (.ofNat 1)), (.int .i64 (.ofNat 1)), (.int .i64 (.ofNat 0)), (.int .i64 (.ofNat 0)), (.int .i64 (.ofNat 0)), (.ptr 3243 0), (.slice 3264 0 1 none), (.slice 3245 0 1 (some 1)), (.slice 3260 0 1 (some 1)), (.slice 3246 0 4 (some 4)), .nils, (.int .i64 (.ofNat 0)), (.bool false), (.int .i64 (.ofNat 0)), (.slice 3256 0 1 (some 1)), .nils] 77 false true)),
    (3255, (.cells [(.int .i32 (.ofNat 0))] 21 true true)),
    (3256, (.cells [(.slice 3258 0 4 none)] 46 false true)),
    (3258, (.cells [(.int .i32 (.ofNat 0)), (.int .i32 (.ofNat 0)), (.int .i32 (.ofNat 0)), (.int .i32 (.ofNat 0))] 21 true true)),
    (3260, (.cells [(.int .i64 (.negSucc 0))] 3 false true)),
    (3262, (.cells [(.func 312 [] []), (.int .i64 (.ofNat 0)), (.bool true), .nils, .nilp, (.int .i64 (.negSucc 0)), (.int .i64 (.ofNat 0)), (.int .i64 (.ofNat 0)), (.int .i64 (.ofNat 0)), (.int .i64 (.ofNat 0)), (.int .i64 (.ofNat 0)), (.int .i64 (.ofNat 0))] 137 false true)),
    (3264, (.cells [(.ptr 3262 0), (.int .i64 (.ofNat 1))] 84 true true))] }
theorem ent17_ok : provedBy (runF Go.Proofs.Tryz.prog tb (noneK) 100000) ent17 = true := by kernel_rfl
theorem ent17_fine : Fine Go.Proofs.Tryz.prog ent17 := fine_of_run (noneK_sound) ent17_ok
end
end Go.HL
