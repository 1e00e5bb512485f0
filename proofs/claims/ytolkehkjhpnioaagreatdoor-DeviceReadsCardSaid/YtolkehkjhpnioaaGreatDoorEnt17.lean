/- A call of the program's, known: number 17. The kernel runs it. No statement of the seat stands here. -/
import Derived.Test.YtolkehkjhpnioaaGreatDoorTb
import Derived.KernelRfl
namespace Go.HL
open Go
set_option maxRecDepth 1000000
noncomputable section
def ent17 : Ent := {
  f := 7,
  args := [(.ptr 12 0), (.str 16 63971295518861232071876413890667749424)],
  next := 3145,
  hin := [(4, tab4O),
    (8, tab8O),
    (12, (.cells [(.map 641), (.slice 3134 0 1 none), (.int .i64 (.ofNat 4)), (.bool false), (.int .i64 (.ofNat 1)), (.int .i64 (.ofNat 1)), (.int .i64 (.ofNat 0)), (.int .i64 (.ofNat 0)), (.int .i64 (.ofNat 0)), .nilp, .nilm, .nils, (.int .i64 (.ofNat 4)), (.bool false), (.int .i64 (.ofNat 1)), (.int .i64 (.ofNat 1)), (.int .i64 (.ofNat 0)), (.int .i64 (.ofNat 0)), (.int .i64 (.ofNat 0)), .nilp, .nilm, .nils, (.int .i64 (.ofNat 4)), (.bool false), (.int .i64 (.ofNat 1)), (.int .i64 (.ofNat 1)), (.int .i64 (.ofNat 0)), (.int .i64 (.ofNat 0)), (.int .i64 (.ofNat 0)), .nilp, (.bool true)] 45 false true)),
    (641, (.map [⟨(.str 1 107), (.agg [(.str 1 107), (.slice 3112 0 1 none), .nils, (.int .i64 (.ofNat 0)), (.slice 3110 0 5 none)]), 0⟩] 1 true)),
    (3110, (.cells [(.int .i64 (.ofNat 4)), (.int .i64 (.ofNat 0)), (.int .i64 (.ofNat 0)), (.int .i64 (.ofNat 0)), (.int .i64 (.ofNat 0)), (.int .i32 (.ofNat 0)), (.int .i64 (.ofNat 0)), (.int .i64 (.ofNat 0)), (.int .i64 (.ofNat 0)), (.int .i64 (.ofNat 0)), (.int .i64 (.ofNat 1)), (.int .i64 (.ofNat 0)), (.int .i64 (.ofNat 0)), (.int .i32 (.ofNat 2)), (.int .i64 (.ofNat 0)), (.int .i64 (.ofNat 0)), (.int .i64 (.ofNat 3)), (.int .i64 (.ofNat 2)), (.int .i64 (.ofNat 1)), (.int .i64 (.ofNat 0)), (.int .i64 (.ofNat 1)), (.int .i32 (.ofNat 0)), (.int .i64 (.ofNat 0)), (.int .i64 (.ofNat 0)), (.int .i64 (.ofNat 7)), (.int .i64 (.ofNat 0)), (.int .i64 (.ofNat 0)), (.int .i64 (.ofNat 0)), (.int .i64 (.ofNat 1)), (.int .i32 (.ofNat 0)), (.int .i64 (.ofNat 0)), (.int .i64 (.ofNat 0)), (.int .i64 (.ofNat 15)), (.int .i64 (.ofNat 0)), (.int .i64 (.ofNat 0)), (.int .i64 (.ofNat 0)), (.int .i64 (.ofNat 0)), (.int .i32 (.ofNat 0)), (.int .i64 (.ofNat 0)), (.int .i64 (.ofNat 0))] 297 true true)),
    (3112, (.cells [(.str 1 97), (.bool true)] 248 true true)),
    (3132, (.cells [(.int .i32 (.ofNat 0)), (.int .i32 (.ofNat 0)), (.int .i32 (.ofNat 0)), (.int .i32 (.ofNat 0))] 21 false true)),
    (3134, (.cells [(.slice 3132 0 4 (some 4))] 22 true true))],
  res := (.str 2 28523),
  next' := 3265,
  hout := [(4, tab4O),
    (8, tab8O),
    (12, (.cells [(.map 641), (.slice 3134 0 1 none), (.int .i64 (.ofNat 4)), (.bool false), (.int .i64 (.ofNat 1)), (.int .i64 (.ofNat 1)), (.int .i64 (.ofNat 0)), (.int .i64 (.ofNat 0)), (.int .i64 (.ofNat 0)), (.ptr 3252 0), .nilm, .nils, (.int .i64 (.ofNat 4)), (.bool false), (.int .i64 (.ofNat 1)), (.int .i64 (.ofNat 1)), (.int .i64 (.ofNat 0)), (.int .i64 (.ofNat 0)), (.int .i64 (.ofNat 0)), .nilp, .nilm, .nils, (.int .i64 (.ofNat 4)), (.bool false), (.int .i64 (.ofNat 1)), (.int .i64 (.ofNat 1)), (.int .i64 (.ofNat 0)), (.int .i64 (.ofNat 0)), (.int .i64 (.ofNat 0)), .nilp, (.bool true)] 45 false true)),
    (641, (.map [⟨(.str 1 107), (.agg [(.str 1 107), (.slice 3112 0 1 none), .nils, (.int .i64 (.ofNat 0)), (.slice 3110 0 5 none)]), 0⟩] 1 true)),
    (3110, (.cells [(.int .i64 (.ofNat 4)), (.int .i64 (.ofNat 0)), (.int .i64 (.ofNat 0)), (.int .i64 (.ofNat 0)), (.int .i64 (.ofNat 0)), (.int .i32 (.ofNat 0)), (.int .i64 (.ofNat 0)), (.int .i64 (.ofNat 0)), (.int .i64 (.ofNat 0)), (.int .i64 (.ofNat 0)), (.int .i64 (.ofNat 1)), (.int .i64 (.ofNat 0)), (.int .i64 (.ofNat 0)), (.int .i32 (.ofNat 2)), (.int .i64 (.ofNat 0)), (.int .i64 (.ofNat 0)), (.int .i64 (.ofNat 3)), (.int .i64 (.ofNat 2)), (.int .i64 (.ofNat 1)), (.int .i64 (.ofNat 0)), (.int .i64 (.ofNat 1)), (.int .i32 (.ofNat 0)), (.int .i64 (.ofNat 0)), (.int .i64 (.ofNat 0)), (.int .i64 (.ofNat 7)), (.int .i64 (.ofNat 0)), (.int .i64 (.ofNat 0)), (.int .i64 (.ofNat 0)), (.int .i64 (.ofNat 1)), (.int .i32 (.ofNat 0)), (.int .i64 (.ofNat 0)), (.int .i64 (.ofNat 0)), (.int .i64 (.ofNat 15)), (.int .i64 (.ofNat 0)), (.int .i64 (.ofNat 0)), (.int .i64 (.ofNat 0)), (.int .i64 (.ofNat 0)), (.int .i32 (.ofNat 0)), (.int .i64 (.ofNat 0)), (.int .i64 (.ofNat 0))] 297 true true)),
    (3112, (.cells [(.str 1 97), (.bool true)] 248 true true)),
    (3132, (.cells [(.int .i32 (.ofNat 0)), (.int .i32 (.ofNat 0)), (.int .i32 (.ofNat 0)), (.int .i32 (.ofNat 0))] 21 false true)),
    (3134, (.cells [(.slice 3132 0 4 (some 4))] 22 true true)),
    (3232, (.cells [(.str 1 97), (.bool true)] 248 true true)),
    (3234, (.cells [(.int .i32 (.ofNat 0))] 21 true true)),
    (3235, (.cells [(.slice 3237 0 4 none)] 22 false true)),
    (3237, (.cells [(.int .i32 (.ofNat 0)), (.int .i32 (.ofNat 0)), (.int .i32 (.ofNat 0)), (.int .i32 (.ofNat 0))] 21 true true)),
    (3238, (.cells [(.slice 3232 0 1 none), (.slice 3234 0 1 none), (.slice 3235 0 1 (some 1)), (.slice 3240 0 1 none)] 476 false true)),
    (3240, (.cells [.nils] 477 true true)),
    (3241, (.cells [.nils, .nils, .nils, .nils] 563 false true)),
    (3242, (.cells [(.ptr 3238 0), (.int .i64 (.ofNat 0)), (.slice 3241 0 4 (some 4))] 306 false true)),
    (3244, (.cells [.nilp] 319 false true)),
    (3245, (.cells [(.int .i64 (.ofNat 0)), (.int .i64 (.ofNat 0)), (.int .i64 (.ofNat 0)), (.int .i64 (.ofNat 0))] 3 false true)),
    (3249, (.cells [(.str 1 97), (.bool true)] 248 true true)),
    (3251, (.cells [(.int .i64 (.ofNat 4)), (.int .i64 (.ofNat 0)), (.int .i64 (.ofNat 0)), (.int .i64 (.ofNat 0)), (.int .i64 (.ofNat 0)), (.int .i32 (.ofNat 0)), (.int .i64 (.ofNat 0)), (.int .i64 (.ofNat 0)), (.int .i64 (.ofNat 0)), (.int .i64 (.ofNat 0)), (.int .i64 (.ofNat 1)), (.int .i64 (.ofNat 0)), (.int .i64 (.ofNat 0)), (.int .i32 (.ofNat 2)), (.int .i64 (.ofNat 0)), (.int .i64 (.ofNat 0)), (.int .i64 (.ofNat 3)), (.int .i64 (.ofNat 2)), (.int .i64 (.ofNat 1)), (.int .i64 (.ofNat 0)), (.int .i64 (.ofNat 1)), (.int .i32 (.ofNat 0)), (.int .i64 (.ofNat 0)), (.int .i64 (.ofNat 0)), (.int .i64 (.ofNat 7)), (.int .i64 (.ofNat 0)), (.int .i64 (.ofNat 0)), (.int .i64 (.ofNat 0)), (.int .i64 (.ofNat 1)), (.int .i32 (.ofNat 0)), (.int .i64 (.ofNat 0)), (.int .i64 (.ofNat 0)), (.int .i64 (.ofNat 15)), (.int .i64 (.ofNat 0)), (.int .i64 (.ofNat 0)), (.int .i64 (.ofNat 0)), (.int .i64 (.ofNat 0)), (.int .i32 (.ofNat 0)), (.int .i64 (.ofNat 0)), (.int .i64 (.ofNat 0))] 297 true true)),
    (3252, (.cells [(.str 1 107), (.slice 3249 0 1 none), .nils, (.int .i64 (.ofNat 0)), (.slice 3251 0 5 none), (.str 1 107), (.int .i64 (.ofNat 1)), (.int .i64 (.ofNat 4)), (.slice 3254 0 1 none), (.int .i64 (.ofNat 4)), (.bool false), (.int .i64 (.ofNat 1)), (.int .i64 (.ofNat 1)), (.int .i64 (.ofNat 0)), (.int .i64 (.ofNat 0)), (.int .i64 (.ofNat 0)), (.ptr 3242 0), (.slice 3263 0 1 none), (.slice 3244 0 1 (some 1)), (.slice 3259 0 1 (some 1)), (.slice 3245 0 4 (some 4)), .nils, (.int .i64 (.ofNat 0)), (.bool false), (.int .i64 (.ofNat 0)), (.slice 3255 0 1 (some 1)), .nils] 167 false true)),
    (3254, (.cells [(.int .i32 (.ofNat 0))] 21 true true)),
    (3255, (.cells [(.slice 3257 0 4 none)] 22 false true)),
    (3257, (.cells [(.int .i32 (.ofNat 0)), (.int .i32 (.ofNat 0)), (.int .i32 (.ofNat 0)), (.int .i32 (.ofNat 0))] 21 true true)),
    (3259, (.cells [(.int .i64 (.negSucc 0))] 3 false true)),
    (3261, (.cells [(.func 299 [] []), (.int .i64 (.ofNat 0)), (.bool true), .nils, .nilp, (.int .i64 (.negSucc 0)), (.int .i64 (.ofNat 0)), (.int .i64 (.ofNat 0)), (.int .i64 (.ofNat 0)), (.int .i64 (.ofNat 0)), (.int .i64 (.ofNat 0)), (.int .i64 (.ofNat 0))] 314 false true)),
    (3263, (.cells [(.ptr 3261 0), (.int .i64 (.ofNat 1))] 175 true true))] }
theorem ent17_ok : provedBy (runF Go.Proofs.Tryz.prog tb (noneK) 100000) ent17 = true := by kernel_rfl
theorem ent17_fine : Fine Go.Proofs.Tryz.prog ent17 := fine_of_run (noneK_sound) ent17_ok
end
end Go.HL
