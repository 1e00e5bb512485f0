/- The types that the walk of FlowValid meets. No statement of the seat stands here. -/
import Derived.Test.YtfmflhdogffjoaaGreatDoorSC
import Derived.Test.YtfmflhdogffjoaaGreatDoorProg
import Derived.KernelRfl
namespace Go.HL
open Go
noncomputable section
namespace Fv
noncomputable abbrev P : Program := Go.Proofs.Tryz.prog
noncomputable def tab : Tab := [(3, .int .i64, 1), (4, .bool, 1), (5, .int .u8, 1), (9, .str, 1), (21, .int .i32, 1), (22, .slice 35, 1), (23, .slice 37, 1), (24, .slice 40, 1),
  (26, .struct [(0, 9), (1, 22), (2, 23), (3, 3), (4, 24)], 5), (29, .slice 41, 1), (30, .int .i64, 1), (35, .struct [(0, 9), (1, 4)], 2), (37, .struct [(0, 9), (1, 3)], 2),
  (38, .slice 43, 1), (40, .struct [(0, 38), (1, 3), (2, 3), (3, 3), (4, 3)], 5), (41, .slice 3, 1), (43, .struct [(0, 3), (1, 3), (2, 3), (3, 3), (4, 3), (5, 21), (6, 41)], 7),
  (70, .slice 4, 1), (101, .struct [(0, 4), (1, 4), (2, 4), (3, 4), (4, 4), (5, 4), (6, 3), (7, 4), (8, 4), (9, 4)], 10), (106, .slice 9, 1), (66, .map 3 4, 1), (98, .map 9 4, 1)]
theorem hT : tabOk P tab = true := by kernel_rfl
theorem z3 : zeroCells? P 3 = some [.int .i64 0] := by kernel_rfl
theorem z4 : zeroCells? P 4 = some [.bool false] := by kernel_rfl
theorem z9 : zeroCells? P 9 = some [.str 0 0] := by kernel_rfl
theorem z41 : zeroCells? P 41 = some [.nils] := by kernel_rfl
theorem z40 : zeroCells? P 40 = some [.nils, .int .i64 0, .int .i64 0, .int .i64 0, .int .i64 0] := by kernel_rfl
theorem z43 : zeroCells? P 43 = some [.int .i64 0, .int .i64 0, .int .i64 0, .int .i64 0, .int .i64 0, .int .i32 0, .nils] := by kernel_rfl
theorem z35 : zeroCells? P 35 = some [.str 0 0, .bool false] := by kernel_rfl
theorem z37 : zeroCells? P 37 = some [.str 0 0, .int .i64 0] := by kernel_rfl
theorem z101 : zeroCells? P 101 = some [.bool false, .bool false, .bool false, .bool false, .bool false, .bool false, .int .i64 0, .bool false, .bool false, .bool false] := by kernel_rfl
theorem zh4 : zeroH P 4 = some (.bool false) := by kernel_rfl
theorem fs9 : KeyFine P 9 strKey := fine_str (tab_str hT (t := 9) rfl)
theorem fi3 : KeyFine P 3 intKey := fine_int (tab_int hT (t := 3) rfl)
theorem b4 : P.bytesOf 4 = 1 := by kernel_rfl
theorem b41 : P.bytesOf 41 = 24 := by kernel_rfl
theorem b3 : P.bytesOf 3 = 8 := by kernel_rfl
theorem b9 : P.bytesOf 9 = 16 := by kernel_rfl
theorem i4 : ∃ inf, P.info? 4 = some inf := (tab_slice hT (t := 70) rfl).2
theorem i41 : ∃ inf, P.info? 41 = some inf := (tab_slice hT (t := 29) rfl).2
theorem i40 : ∃ inf, P.info? 40 = some inf := (tab_slice hT (t := 24) rfl).2
theorem i43 : ∃ inf, P.info? 43 = some inf := (tab_slice hT (t := 38) rfl).2
theorem i35 : ∃ inf, P.info? 35 = some inf := (tab_slice hT (t := 22) rfl).2
theorem i37 : ∃ inf, P.info? 37 = some inf := (tab_slice hT (t := 23) rfl).2
theorem i101 : ∃ inf, P.info? 101 = some inf := (tab_struct hT (t := 101) rfl).elim fun _ h => info_of_underlying h.1
theorem mask3 : Nat.lor (maskOf Go.Proofs.Tryz.f3) (Nat.sub (Nat.pow 2 1) 1) = 6143 := by kernel_rfl
theorem mask4 : Nat.lor (maskOf Go.Proofs.Tryz.f4) (Nat.sub (Nat.pow 2 1) 1) = 618970056608308448888619263 := by kernel_rfl
theorem mask6 : Nat.lor (maskOf Go.Proofs.Tryz.f6) (Nat.sub (Nat.pow 2 1) 1) = 31327 := by kernel_rfl
theorem mask7 : Nat.lor (maskOf Go.Proofs.Tryz.f7) (Nat.sub (Nat.pow 2 1) 1) = 79 := by kernel_rfl
theorem mask8 : Nat.lor (maskOf Go.Proofs.Tryz.f8) (Nat.sub (Nat.pow 2 1) 1) = 79 := by kernel_rfl
theorem mask9 : Nat.lor (maskOf Go.Proofs.Tryz.f9) (Nat.sub (Nat.pow 2 1) 1) = 79 := by kernel_rfl
theorem mask10 : Nat.lor (maskOf Go.Proofs.Tryz.f10) (Nat.sub (Nat.pow 2 1) 1) = 77371269758166293773550335 := by kernel_rfl
theorem mask11 : Nat.lor (maskOf Go.Proofs.Tryz.f11) (Nat.sub (Nat.pow 2 1) 1) = 89202980794122571872282283311836625991894015 := by kernel_rfl
theorem mask12 : Nat.lor (maskOf Go.Proofs.Tryz.f12) (Nat.sub (Nat.pow 2 2) 1) = 67126323 := by kernel_rfl
theorem mask19 : Nat.lor (maskOf Go.Proofs.Tryz.f19) (Nat.sub (Nat.pow 2 1) 1) = 1079 := by kernel_rfl
theorem mask20 : Nat.lor (maskOf Go.Proofs.Tryz.f20) (Nat.sub (Nat.pow 2 1) 1) = 543 := by kernel_rfl
theorem mask21 : Nat.lor (maskOf Go.Proofs.Tryz.f21) (Nat.sub (Nat.pow 2 1) 1) = 70368807338431 := by kernel_rfl
theorem mask22 : Nat.lor (maskOf Go.Proofs.Tryz.f22) (Nat.sub (Nat.pow 2 1) 1) = 2199157506175 := by kernel_rfl
theorem mask23 : Nat.lor (maskOf Go.Proofs.Tryz.f23) (Nat.sub (Nat.pow 2 1) 1) = 4835705442439177032433839 := by kernel_rfl
theorem mask24 : Nat.lor (maskOf Go.Proofs.Tryz.f24) (Nat.sub (Nat.pow 2 1) 1) = 2634179185365556365565814909299671 := by kernel_rfl
theorem mask25 : Nat.lor (maskOf Go.Proofs.Tryz.f25) (Nat.sub (Nat.pow 2 3) 1) = 2321439809803238884822222303 := by kernel_rfl
theorem mask26 : Nat.lor (maskOf Go.Proofs.Tryz.f26) (Nat.sub (Nat.pow 2 3) 1) = 144255934154704839 := by kernel_rfl
theorem mask27 : Nat.lor (maskOf Go.Proofs.Tryz.f27) (Nat.sub (Nat.pow 2 2) 1) = 18018803535319167 := by kernel_rfl
theorem mask28 : Nat.lor (maskOf Go.Proofs.Tryz.f28) (Nat.sub (Nat.pow 2 1) 1) = 1100585435263 := by kernel_rfl
theorem mask29 : Nat.lor (maskOf Go.Proofs.Tryz.f29) (Nat.sub (Nat.pow 2 3) 1) = 5070621786227329785880415307743 := by kernel_rfl
theorem mask30 : Nat.lor (maskOf Go.Proofs.Tryz.f30) (Nat.sub (Nat.pow 2 2) 1) = 262707 := by kernel_rfl
theorem mask31 : Nat.lor (maskOf Go.Proofs.Tryz.f31) (Nat.sub (Nat.pow 2 2) 1) = 33571891 := by kernel_rfl
theorem mask39 : Nat.lor (maskOf Go.Proofs.Tryz.f39) (Nat.sub (Nat.pow 2 1) 1) = 1079 := by kernel_rfl
theorem mask40 : Nat.lor (maskOf Go.Proofs.Tryz.f40) (Nat.sub (Nat.pow 2 1) 1) = 2208301069 := by kernel_rfl
theorem mask41 : Nat.lor (maskOf Go.Proofs.Tryz.f41) (Nat.sub (Nat.pow 2 3) 1) = 335 := by kernel_rfl
theorem mask42 : Nat.lor (maskOf Go.Proofs.Tryz.f42) (Nat.sub (Nat.pow 2 1) 1) = 314146179389 := by kernel_rfl
theorem mask43 : Nat.lor (maskOf Go.Proofs.Tryz.f43) (Nat.sub (Nat.pow 2 3) 1) = 4432406250751 := by kernel_rfl
theorem mask44 : Nat.lor (maskOf Go.Proofs.Tryz.f44) (Nat.sub (Nat.pow 2 1) 1) = 21 := by kernel_rfl
theorem mask45 : Nat.lor (maskOf Go.Proofs.Tryz.f45) (Nat.sub (Nat.pow 2 3) 1) = 9223372328948203975 := by kernel_rfl
theorem mask46 : Nat.lor (maskOf Go.Proofs.Tryz.f46) (Nat.sub (Nat.pow 2 2) 1) = 131635 := by kernel_rfl
theorem mask47 : Nat.lor (maskOf Go.Proofs.Tryz.f47) (Nat.sub (Nat.pow 2 1) 1) = 329853 := by kernel_rfl
theorem mask48 : Nat.lor (maskOf Go.Proofs.Tryz.f48) (Nat.sub (Nat.pow 2 3) 1) = 71 := by kernel_rfl
theorem mask49 : Nat.lor (maskOf Go.Proofs.Tryz.f49) (Nat.sub (Nat.pow 2 2) 1) = 4211827 := by kernel_rfl
theorem mask50 : Nat.lor (maskOf Go.Proofs.Tryz.f50) (Nat.sub (Nat.pow 2 1) 1) = 1373 := by kernel_rfl
theorem mask51 : Nat.lor (maskOf Go.Proofs.Tryz.f51) (Nat.sub (Nat.pow 2 4) 1) = 148150413342516709135 := by kernel_rfl
theorem mask52 : Nat.lor (maskOf Go.Proofs.Tryz.f52) (Nat.sub (Nat.pow 2 1) 1) = 4445 := by kernel_rfl
theorem mask71 : Nat.lor (maskOf Go.Proofs.Tryz.f71) (Nat.sub (Nat.pow 2 1) 1) = 5 := by kernel_rfl
theorem mask73 : Nat.lor (maskOf Go.Proofs.Tryz.f73) (Nat.sub (Nat.pow 2 1) 1) = 5 := by kernel_rfl
theorem mask74 : Nat.lor (maskOf Go.Proofs.Tryz.f74) (Nat.sub (Nat.pow 2 2) 1) = 87 := by kernel_rfl
theorem mask75 : Nat.lor (maskOf Go.Proofs.Tryz.f75) (Nat.sub (Nat.pow 2 1) 1) = 10813 := by kernel_rfl
theorem mask76 : Nat.lor (maskOf Go.Proofs.Tryz.f76) (Nat.sub (Nat.pow 2 1) 1) = 5 := by kernel_rfl
theorem mask77 : Nat.lor (maskOf Go.Proofs.Tryz.f77) (Nat.sub (Nat.pow 2 1) 1) = 5 := by kernel_rfl
theorem mask78 : Nat.lor (maskOf Go.Proofs.Tryz.f78) (Nat.sub (Nat.pow 2 1) 1) = 5 := by kernel_rfl
theorem mask79 : Nat.lor (maskOf Go.Proofs.Tryz.f79) (Nat.sub (Nat.pow 2 1) 1) = 21 := by kernel_rfl
theorem mask104 : Nat.lor (maskOf Go.Proofs.Tryz.f104) (Nat.sub (Nat.pow 2 1) 1) = 5 := by kernel_rfl
theorem mask105 : Nat.lor (maskOf Go.Proofs.Tryz.f105) (Nat.sub (Nat.pow 2 1) 1) = 4229133 := by kernel_rfl
theorem mask106 : Nat.lor (maskOf Go.Proofs.Tryz.f106) (Nat.sub (Nat.pow 2 0) 1) = 1 := by kernel_rfl
theorem mask107 : Nat.lor (maskOf Go.Proofs.Tryz.f107) (Nat.sub (Nat.pow 2 1) 1) = 10813 := by kernel_rfl
theorem mask144 : Nat.lor (maskOf Go.Proofs.Tryz.f144) (Nat.sub (Nat.pow 2 1) 1) = 5 := by kernel_rfl
theorem ca144 : Callable P 144 := ⟨_, _, Go.Proofs.Tryz.func144, rfl, by kernel_rfl, rfl⟩
theorem mask142 : Nat.lor (maskOf Go.Proofs.Tryz.f142) (Nat.sub (Nat.pow 2 1) 1) = 5 := by kernel_rfl
theorem ca142 : Callable P 142 := ⟨_, _, Go.Proofs.Tryz.func142, rfl, by kernel_rfl, rfl⟩
theorem mask140 : Nat.lor (maskOf Go.Proofs.Tryz.f140) (Nat.sub (Nat.pow 2 1) 1) = 5 := by kernel_rfl
theorem ca140 : Callable P 140 := ⟨_, _, Go.Proofs.Tryz.func140, rfl, by kernel_rfl, rfl⟩
theorem ca3 : Callable P 3 := ⟨_, _, Go.Proofs.Tryz.func3, rfl, by kernel_rfl, rfl⟩
theorem ca4 : Callable P 4 := ⟨_, _, Go.Proofs.Tryz.func4, rfl, by kernel_rfl, rfl⟩
theorem ca6 : Callable P 6 := ⟨_, _, Go.Proofs.Tryz.func6, rfl, by kernel_rfl, rfl⟩
theorem ca7 : Callable P 7 := ⟨_, _, Go.Proofs.Tryz.func7, rfl, by kernel_rfl, rfl⟩
theorem ca8 : Callable P 8 := ⟨_, _, Go.Proofs.Tryz.func8, rfl, by kernel_rfl, rfl⟩
theorem ca9 : Callable P 9 := ⟨_, _, Go.Proofs.Tryz.func9, rfl, by kernel_rfl, rfl⟩
theorem ca10 : Callable P 10 := ⟨_, _, Go.Proofs.Tryz.func10, rfl, by kernel_rfl, rfl⟩
theorem ca11 : Callable P 11 := ⟨_, _, Go.Proofs.Tryz.func11, rfl, by kernel_rfl, rfl⟩
theorem ca12 : Callable P 12 := ⟨_, _, Go.Proofs.Tryz.func12, rfl, by kernel_rfl, rfl⟩
theorem ca19 : Callable P 19 := ⟨_, _, Go.Proofs.Tryz.func19, rfl, by kernel_rfl, rfl⟩
theorem ca20 : Callable P 20 := ⟨_, _, Go.Proofs.Tryz.func20, rfl, by kernel_rfl, rfl⟩
theorem ca21 : Callable P 21 := ⟨_, _, Go.Proofs.Tryz.func21, rfl, by kernel_rfl, rfl⟩
theorem ca22 : Callable P 22 := ⟨_, _, Go.Proofs.Tryz.func22, rfl, by kernel_rfl, rfl⟩
theorem ca23 : Callable P 23 := ⟨_, _, Go.Proofs.Tryz.func23, rfl, by kernel_rfl, rfl⟩
theorem ca24 : Callable P 24 := ⟨_, _, Go.Proofs.Tryz.func24, rfl, by kernel_rfl, rfl⟩
theorem ca25 : Callable P 25 := ⟨_, _, Go.Proofs.Tryz.func25, rfl, by kernel_rfl, rfl⟩
theorem ca26 : Callable P 26 := ⟨_, _, Go.Proofs.Tryz.func26, rfl, by kernel_rfl, rfl⟩
theorem ca27 : Callable P 27 := ⟨_, _, Go.Proofs.Tryz.func27, rfl, by kernel_rfl, rfl⟩
theorem ca28 : Callable P 28 := ⟨_, _, Go.Proofs.Tryz.func28, rfl, by kernel_rfl, rfl⟩
theorem ca29 : Callable P 29 := ⟨_, _, Go.Proofs.Tryz.func29, rfl, by kernel_rfl, rfl⟩
theorem ca30 : Callable P 30 := ⟨_, _, Go.Proofs.Tryz.func30, rfl, by kernel_rfl, rfl⟩
theorem ca31 : Callable P 31 := ⟨_, _, Go.Proofs.Tryz.func31, rfl, by kernel_rfl, rfl⟩
theorem ca39 : Callable P 39 := ⟨_, _, Go.Proofs.Tryz.func39, rfl, by kernel_rfl, rfl⟩
theorem ca40 : Callable P 40 := ⟨_, _, Go.Proofs.Tryz.func40, rfl, by kernel_rfl, rfl⟩
theorem ca41 : Callable P 41 := ⟨_, _, Go.Proofs.Tryz.func41, rfl, by kernel_rfl, rfl⟩
theorem ca42 : Callable P 42 := ⟨_, _, Go.Proofs.Tryz.func42, rfl, by kernel_rfl, rfl⟩
theorem ca43 : Callable P 43 := ⟨_, _, Go.Proofs.Tryz.func43, rfl, by kernel_rfl, rfl⟩
theorem ca44 : Callable P 44 := ⟨_, _, Go.Proofs.Tryz.func44, rfl, by kernel_rfl, rfl⟩
theorem ca45 : Callable P 45 := ⟨_, _, Go.Proofs.Tryz.func45, rfl, by kernel_rfl, rfl⟩
theorem ca46 : Callable P 46 := ⟨_, _, Go.Proofs.Tryz.func46, rfl, by kernel_rfl, rfl⟩
theorem ca47 : Callable P 47 := ⟨_, _, Go.Proofs.Tryz.func47, rfl, by kernel_rfl, rfl⟩
theorem ca48 : Callable P 48 := ⟨_, _, Go.Proofs.Tryz.func48, rfl, by kernel_rfl, rfl⟩
theorem ca49 : Callable P 49 := ⟨_, _, Go.Proofs.Tryz.func49, rfl, by kernel_rfl, rfl⟩
theorem ca50 : Callable P 50 := ⟨_, _, Go.Proofs.Tryz.func50, rfl, by kernel_rfl, rfl⟩
theorem ca51 : Callable P 51 := ⟨_, _, Go.Proofs.Tryz.func51, rfl, by kernel_rfl, rfl⟩
theorem ca52 : Callable P 52 := ⟨_, _, Go.Proofs.Tryz.func52, rfl, by kernel_rfl, rfl⟩
theorem ca71 : Callable P 71 := ⟨_, _, Go.Proofs.Tryz.func71, rfl, by kernel_rfl, rfl⟩
theorem ca73 : Callable P 73 := ⟨_, _, Go.Proofs.Tryz.func73, rfl, by kernel_rfl, rfl⟩
theorem ca74 : Callable P 74 := ⟨_, _, Go.Proofs.Tryz.func74, rfl, by kernel_rfl, rfl⟩
theorem ca75 : Callable P 75 := ⟨_, _, Go.Proofs.Tryz.func75, rfl, by kernel_rfl, rfl⟩
theorem ca76 : Callable P 76 := ⟨_, _, Go.Proofs.Tryz.func76, rfl, by kernel_rfl, rfl⟩
theorem ca77 : Callable P 77 := ⟨_, _, Go.Proofs.Tryz.func77, rfl, by kernel_rfl, rfl⟩
theorem ca78 : Callable P 78 := ⟨_, _, Go.Proofs.Tryz.func78, rfl, by kernel_rfl, rfl⟩
theorem ca79 : Callable P 79 := ⟨_, _, Go.Proofs.Tryz.func79, rfl, by kernel_rfl, rfl⟩
theorem ca104 : Callable P 104 := ⟨_, _, Go.Proofs.Tryz.func104, rfl, by kernel_rfl, rfl⟩
theorem ca105 : Callable P 105 := ⟨_, _, Go.Proofs.Tryz.func105, rfl, by kernel_rfl, rfl⟩
theorem ca106 : Callable P 106 := ⟨_, _, Go.Proofs.Tryz.func106, rfl, by kernel_rfl, rfl⟩
theorem ca107 : Callable P 107 := ⟨_, _, Go.Proofs.Tryz.func107, rfl, by kernel_rfl, rfl⟩
theorem ca5 : Callable P 5 := ⟨_, _, Go.Proofs.Tryz.func5, rfl, by kernel_rfl, rfl⟩
theorem ca72 : Callable P 72 := ⟨_, _, Go.Proofs.Tryz.func72, rfl, by kernel_rfl, rfl⟩
/-- the words that are no names -/
def wordList : List (Nat × Nat) := [(4, 1718972003), (6, 118083455706476), (6, 108256368682354), (3, 6909556), (6, 126892148680036), (3, 7103860), (2, 26982), (4, 1701606245), (5, 512852847717), (5, 422826041707), (8, 7165066978433856869), (6, 125780071117422), (7, 27691691891320178), (6, 107152713541987), (7, 27988534160089972), (3, 7629156), (3, 6449508), (3, 6580589), (4, 1735551332), (3, 7170414), (3, 7168376), (3, 6382692), (3, 6385252), (2, 28530), (3, 7892850)]
def wordsObj : HObj := .map (wordList.zipIdx.map fun p => ⟨strKey p.1, .bool true, p.2⟩) 25 true
/-- what is known beforehand: 5 and 72 alone; base: what must lie in the memory -/
structure Based (base : List (Nat × HObj)) (h : Heap) : Prop where
  get : ∀ p ∈ base, h.get p.1 = some p.2
theorem Based.grow {base : List (Nat × HObj)} {h h' : Heap} (g : Grow h h') (b : Based base h) : Based base h' := ⟨fun p hp => g.get (b.get p hp)⟩
structure KN (base : List (Nat × HObj)) (K : CallFn) : Prop where
  none : ∀ f, Nat.beq f 5 = false → Nat.beq f 72 = false → ∀ a h, K f a h = none
  words : ∀ h, Based base h → K 72 [] h = some (.ret (.map h.next), h.new wordsObj)
  awake : ∀ h, Based base h → K 5 [] h = some (.ret (.bool true), h)
end Fv
end
end Go.HL
