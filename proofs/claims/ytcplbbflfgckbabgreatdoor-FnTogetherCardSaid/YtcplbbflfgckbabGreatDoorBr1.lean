/- Functions, by evaluation. No conditions. -/
import Derived.Test.YtcplbbflfgckbabGreatDoorHs
set_option linter.unusedVariables false
set_option linter.unusedSimpArgs false
namespace Go.Ab.S
open Go Go.Ab Go.Ab.Pw Go.Proofs Go.Proofs.YtcplbbflfgckbabGreatDoor
/-! laws_vBig -/
inductive F4 : List Rel → List (List TV) → List (List TV) × List (List TV) → Prop
  | mk (a0_0 r) (h : X.laws_vBig.f a0_0 = some r) : F4 [] [[⟨(.row 5 (.int .u8)), a0_0⟩]] ([[⟨.bool, r⟩]], [])
abbrev c4 : Con := ⟨4, [.val false], [(false, [false])], false, F4⟩
abbrev N4 : Specs := ⟨[], ofS [], ofS []⟩
set_option maxHeartbeats 0 in
set_option maxRecDepth 100000 in
theorem o4 : GoodCon Tryz.prog c4 := by
  refine fo (C := ofL []) (N := N4) (ts := [.tmp 2]) hT hm (by refine ofL_ok ?_; exact .nil) Tryz.func4 rfl rfl rfl rfl (by decide) rfl (by decide) ?_
  intro Rs ins out hL h; clear hL; cases h; rename_i h
  have uf := @X.laws_vBig.f.eq_1
  rw [uf] at h
  exact go
/-! spec_l1Cur_next -/
inductive F74 : List Rel → List (List TV) → List (List TV) × List (List TV) → Prop
  | mk (a0_0 a0_1 a0_2 r) (h : X.spec_l1Cur_next.f a0_0 a0_1 a0_2 = some r) : F74 [] [[⟨(.row 5 (.int .u8)), a0_0⟩, ⟨(.int .i64), a0_1⟩, ⟨(.int .u64), a0_2⟩]] ([[⟨(.int .i64), r.1⟩]], [[⟨(.row 5 (.int .u8)), a0_0⟩, ⟨(.int .i64), r.2.1⟩, ⟨(.int .u64), r.2.2⟩]])
abbrev c74 : Con := ⟨74, [.ptr 49], [(false, [false])], true, F74⟩
abbrev N74 : Specs := ⟨[62], ofS [], ofS []⟩
set_option maxHeartbeats 0 in
set_option maxRecDepth 100000 in
theorem o74 : GoodCon Tryz.prog c74 := by
  refine fo (C := ofL []) (N := N74) (ts := [.tmp 2]) hT hm (by refine ofL_ok ?_; exact .nil) Tryz.func74 rfl rfl rfl rfl (by decide) rfl (by decide) ?_
  intro Rs ins out hL h; clear hL; cases h; rename_i h
  have uf := @X.spec_l1Cur_next.f.eq_1
  rw [uf] at h
  exact go
/-! spec_l1Cur_pick -/
inductive F49 : List Rel → List (List TV) → List (List TV) × List (List TV) → Prop
  | mk (a0_0 a0_1 a0_2 a1_0 r) (h : X.spec_l1Cur_pick.f a0_0 a0_1 a0_2 a1_0 = some r) : F49 [] [[⟨(.row 5 (.int .u8)), a0_0⟩, ⟨(.int .i64), a0_1⟩, ⟨(.int .u64), a0_2⟩], [⟨(.int .i64), a1_0⟩]] ([[⟨(.int .i64), r.1⟩]], [[⟨(.row 5 (.int .u8)), a0_0⟩, ⟨(.int .i64), r.2.1⟩, ⟨(.int .u64), r.2.2⟩]])
abbrev c49 : Con := ⟨49, [.ptr 49, .val false], [(false, [false])], true, F49⟩
abbrev N49 : Specs := ⟨[20], ofS [], ofS []⟩
set_option maxHeartbeats 0 in
set_option maxRecDepth 100000 in
theorem o49 : GoodCon Tryz.prog c49 := by
  refine fo (C := ofL [c74]) (N := N49) (ts := [.tmp 4]) hT hm (by refine ofL_ok ?_; refine .cons o74 ?_; exact .nil) Tryz.func49 rfl rfl rfl rfl (by decide) rfl (by decide) ?_
  intro Rs ins out hL h; clear hL; cases h; rename_i h
  have uf := @X.spec_l1Cur_pick.f.eq_1
  rw [uf] at h
  exact go
/-! spec_l1Cur_one -/
inductive F26 : List Rel → List (List TV) → List (List TV) × List (List TV) → Prop
  | mk (a0_0 a0_1 a0_2 a1_0 r) (h : X.spec_l1Cur_one.f a0_0 a0_1 a0_2 a1_0 = some r) : F26 [] [[⟨(.row 5 (.int .u8)), a0_0⟩, ⟨(.int .i64), a0_1⟩, ⟨(.int .u64), a0_2⟩], [⟨(.int .i64), a1_0⟩]] ([[⟨.bool, r.1⟩]], [[⟨(.row 5 (.int .u8)), a0_0⟩, ⟨(.int .i64), r.2.1⟩, ⟨(.int .u64), r.2.2⟩]])
abbrev c26 : Con := ⟨26, [.ptr 49, .val false], [(false, [false])], true, F26⟩
abbrev N26 : Specs := ⟨[9], ofS [], ofS []⟩
set_option maxHeartbeats 0 in
set_option maxRecDepth 100000 in
theorem o26 : GoodCon Tryz.prog c26 := by
  refine fo (C := ofL [c49]) (N := N26) (ts := [.tmp 4]) hT hm (by refine ofL_ok ?_; refine .cons o49 ?_; exact .nil) Tryz.func26 rfl rfl rfl rfl (by decide) rfl (by decide) ?_
  intro Rs ins out hL h; clear hL; cases h; rename_i h
  have uf := @X.spec_l1Cur_one.f.eq_1
  rw [uf] at h
  exact go
/-! spec_l2Before -/
inductive F75 : List Rel → List (List TV) → List (List TV) × List (List TV) → Prop
  | mk (a0_0 a1_0 r k) (h : X.spec_l2Before.f k a0_0 a1_0 = some r) : F75 [] [[⟨.str, a0_0⟩], [⟨.str, a1_0⟩]] ([[⟨.bool, r⟩]], [])
abbrev c75 : Con := ⟨75, [.val false, .val false], [(false, [false])], false, F75⟩
abbrev N75 : Specs := ⟨[], ofS [(2, ⟨[0, 1, 5], [], [], [], [], [], []⟩)], ofS [(100015, ⟨[0, 1, 5, 15], [], [], [], [], [], []⟩)]⟩
inductive Q75 (r : (Bool)) : Nat → Nat → St → Prop
  | l0 (k x0 x1 x5) (h : X.spec_l2Before.l0 k x0 x1 x5 = some r) : Q75 r 2 k (mkSt [(0, sv1 (.dat .str x0)), (1, sv1 (.dat .str x1)), (5, sv1 (.dat (.int .i64) x5))] [] [] [])
  | j1 (k x0 x1 x5 x15) (h : X.spec_l2Before.j1 k x0 x1 x5 x15 = some r) : Q75 r 100015 k (mkSt [(0, sv1 (.dat .str x0)), (1, sv1 (.dat .str x1)), (5, sv1 (.dat (.int .i64) x5)), (15, sv1 (.dat .bool x15))] [] [] [])
set_option maxHeartbeats 4000000 in
set_option maxRecDepth 100000 in
theorem o75 : GoodCon Tryz.prog c75 := by
  refine fo (C := ofL []) (N := N75) (ts := [.tmp 4]) hT hm (by refine ofL_ok ?_; exact .nil) Tryz.func75 rfl rfl rfl rfl (by decide) rfl (by decide) ?_
  intro Rs ins out hL h; clear hL; cases h; rename_i a0_0 a1_0 r k h
  let Q := Q75 r
  have u0 := @X.spec_l2Before.l0.eq_2
  have u1 := @X.spec_l2Before.j1.eq_2
  have uf := @X.spec_l2Before.f.eq_1
  rw [uf] at h
  exact go
/-! spec_l2Own -/
inductive F76 : List Rel → List (List TV) → List (List TV) × List (List TV) → Prop
  | mk (a0_0 r) (h : X.spec_l2Own.f a0_0 = some r) : F76 [] [[⟨(.row 9 .str), a0_0⟩]] ([[⟨(.row 9 .str), r⟩]], [])
abbrev c76 : Con := ⟨76, [.val false], [(false, [true])], false, F76⟩
abbrev N76 : Specs := ⟨[], ofS [], ofS []⟩
set_option maxHeartbeats 0 in
set_option maxRecDepth 100000 in
theorem o76 : GoodCon Tryz.prog c76 := by
  refine fo (C := ofL []) (N := N76) (ts := [.tmp 2]) hT hm (by refine ofL_ok ?_; exact .nil) Tryz.func76 rfl rfl rfl rfl (by decide) rfl (by decide) ?_
  intro Rs ins out hL h; clear hL; cases h; rename_i h
  have uf := @X.spec_l2Own.f.eq_1
  rw [uf] at h
  exact go
/-! spec_l2Put -/
inductive F50 : List Rel → List (List TV) → List (List TV) × List (List TV) → Prop
  | mk (a0_0 a1_0 r k) (h : X.spec_l2Put.f k a0_0 a1_0 = some r) : F50 [] [[⟨(.row 9 .str), a0_0⟩], [⟨.str, a1_0⟩]] ([[⟨(.row 9 .str), r⟩]], [])
abbrev c50 : Con := ⟨50, [.val false, .val false], [(false, [false])], true, F50⟩
abbrev N50 : Specs := ⟨[], ofS [(2, ⟨[0, 1, 4, 5], [], [], [], [0], [], []⟩)], ofS []⟩
inductive Q50 (r : (List ByteArray)) : Nat → Nat → St → Prop
  | l0 (k x0 x1 x5) (h : X.spec_l2Put.l0 k x0 x1 x5 = some r) : Q50 r 2 k (mkSt [(0, sv1 (.dat (.row 9 .str) x0)), (1, sv1 (.dat .str x1)), (4, sv1 (.nil 9 .str)), (5, sv1 (.dat (.int .i64) x5))] [] [] [])
set_option maxHeartbeats 4000000 in
set_option maxRecDepth 100000 in
theorem o50 : GoodCon Tryz.prog c50 := by
  refine fo (C := ofL [c75, c76]) (N := N50) (ts := [.tmp 4]) hT hm (by refine ofL_ok ?_; refine .cons o75 ?_; refine .cons o76 ?_; exact .nil) Tryz.func50 rfl rfl rfl rfl (by decide) rfl (by decide) ?_
  intro Rs ins out hL h; clear hL; cases h; rename_i a0_0 a1_0 r k h
  let Q := Q50 r
  have u0 := @X.spec_l2Put.l0.eq_2
  have uf := @X.spec_l2Put.f.eq_1
  rw [uf] at h
  exact go
/-! spec_l2Has -/
inductive F65 : List Rel → List (List TV) → List (List TV) × List (List TV) → Prop
  | mk (a0_0 a1_0 r k) (h : X.spec_l2Has.f k a0_0 a1_0 = some r) : F65 [] [[⟨(.row 9 .str), a0_0⟩], [⟨.str, a1_0⟩]] ([[⟨.bool, r⟩]], [])
abbrev c65 : Con := ⟨65, [.val false, .val false], [(false, [false])], false, F65⟩
abbrev N65 : Specs := ⟨[], ofS [(2, ⟨[0, 1, 5], [], [], [], [0], [], []⟩)], ofS []⟩
inductive Q65 (r : (Bool)) : Nat → Nat → St → Prop
  | l0 (k x0 x1 x5) (h : X.spec_l2Has.l0 k x0 x1 x5 = some r) : Q65 r 2 k (mkSt [(0, sv1 (.dat (.row 9 .str) x0)), (1, sv1 (.dat .str x1)), (5, sv1 (.dat (.int .i64) x5))] [] [] [])
set_option maxHeartbeats 4000000 in
set_option maxRecDepth 100000 in
theorem o65 : GoodCon Tryz.prog c65 := by
  refine fo (C := ofL []) (N := N65) (ts := [.tmp 4]) hT hm (by refine ofL_ok ?_; exact .nil) Tryz.func65 rfl rfl rfl rfl (by decide) rfl (by decide) ?_
  intro Rs ins out hL h; clear hL; cases h; rename_i a0_0 a1_0 r k h
  let Q := Q65 r
  have u0 := @X.spec_l2Has.l0.eq_2
  have uf := @X.spec_l2Has.f.eq_1
  rw [uf] at h
  exact go
/-! spec_l2Place -/
inductive F77 : List Rel → List (List TV) → List (List TV) × List (List TV) → Prop
  | mk (a0_0 a1_0 r k) (h : X.spec_l2Place.f k a0_0 a1_0 = some r) : F77 [] [[⟨(.row 9 .str), a0_0⟩], [⟨.str, a1_0⟩]] ([[⟨(.int .i64), r⟩]], [])
abbrev c77 : Con := ⟨77, [.val false, .val false], [(false, [false])], false, F77⟩
abbrev N77 : Specs := ⟨[], ofS [(2, ⟨[0, 1, 5], [], [], [], [0], [], []⟩)], ofS []⟩
inductive Q77 (r : (Int)) : Nat → Nat → St → Prop
  | l0 (k x0 x1 x5) (h : X.spec_l2Place.l0 k x0 x1 x5 = some r) : Q77 r 2 k (mkSt [(0, sv1 (.dat (.row 9 .str) x0)), (1, sv1 (.dat .str x1)), (5, sv1 (.dat (.int .i64) x5))] [] [] [])
set_option maxHeartbeats 4000000 in
set_option maxRecDepth 100000 in
theorem o77 : GoodCon Tryz.prog c77 := by
  refine fo (C := ofL []) (N := N77) (ts := [.tmp 4]) hT hm (by refine ofL_ok ?_; exact .nil) Tryz.func77 rfl rfl rfl rfl (by decide) rfl (by decide) ?_
  intro Rs ins out hL h; clear hL; cases h; rename_i a0_0 a1_0 r k h
  let Q := Q77 r
  have u0 := @X.spec_l2Place.l0.eq_2
  have uf := @X.spec_l2Place.f.eq_1
  rw [uf] at h
  exact go
/-! spec_l2Of -/
inductive F51 : List Rel → List (List TV) → List (List TV) × List (List TV) → Prop
  | mk (a0_0 r k) (h : X.spec_l2Of.f k a0_0 = some r) : F51 [] [[⟨(.row 9 .str), a0_0⟩]] ([[⟨(.row 65 (.pair (.int .i64) (.pair (.int .i64) .bool))), r⟩]], [])
abbrev c51 : Con := ⟨51, [.val false], [(true, [true])], false, F51⟩
abbrev N51 : Specs := ⟨[], ofS [(3, ⟨[0, 2, 3, 4], [], [], [2], [0, 3], [], []⟩), (6, ⟨[0, 2, 3, 4, 5], [], [], [2], [0, 3], [], []⟩), (11, ⟨[0, 2, 3, 6, 7], [], [(6, 0, 1002500)], [2, 6], [0, 3], [], []⟩)], ofS []⟩
inductive Q51 (r : ((List (X.S65)))) : Nat → Nat → St → Prop
  | l0 (k x0 x3 x4) (h : X.spec_l2Of.l0 k x0 x3 x4 = some r) : Q51 r 3 k (mkSt [(0, sv1 (.dat (.row 9 .str) x0)), (2, sv1 (.ptr 2 0)), (3, sv1 (.dat (.row 9 .str) x3)), (4, sv1 (.dat (.int .i64) x4))] [(2, ⟨26, [.nil 65 (.pair (.int .i64) (.pair (.int .i64) .bool))]⟩)] [] [])
  | l1 (k x0 x3 x4 x5) (h : X.spec_l2Of.l1 k x0 x3 x4 x5 = some r) : Q51 r 6 k (mkSt [(0, sv1 (.dat (.row 9 .str) x0)), (2, sv1 (.ptr 2 0)), (3, sv1 (.dat (.row 9 .str) x3)), (4, sv1 (.dat (.int .i64) x4)), (5, sv1 (.dat (.int .i64) x5))] [(2, ⟨26, [.nil 65 (.pair (.int .i64) (.pair (.int .i64) .bool))]⟩)] [] [])
  | l2 (k x0 x3 x7 x179000) (h : X.spec_l2Of.l2 k x0 x3 x7 x179000 = some r) : Q51 r 11 k (mkSt [(0, sv1 (.dat (.row 9 .str) x0)), (2, sv1 (.ptr 2 0)), (3, sv1 (.dat (.row 9 .str) x3)), (6, sv1 (.ptr 6 0)), (7, sv1 (.dat (.int .i64) x7))] [(2, ⟨26, [.nil 65 (.pair (.int .i64) (.pair (.int .i64) .bool))]⟩), (6, ⟨26, [.own 1002500 0]⟩)] [(1002500, ⟨65, (.pair (.int .i64) (.pair (.int .i64) .bool)), x179000, 0⟩)] [])
set_option maxHeartbeats 4000000 in
set_option maxRecDepth 100000 in
theorem o51 : GoodCon Tryz.prog c51 := by
  refine fo (C := ofL [c50, c65, c77]) (N := N51) (ts := [.cell 2 26]) hT hm (by refine ofL_ok ?_; refine .cons o50 ?_; refine .cons o65 ?_; refine .cons o77 ?_; exact .nil) Tryz.func51 rfl rfl rfl rfl (by decide) rfl (by decide) ?_
  intro Rs ins out hL h; clear hL; cases h; rename_i a0_0 r k h
  let Q := Q51 r
  have u0 := @X.spec_l2Of.l0.eq_2
  have u1 := @X.spec_l2Of.l1.eq_2
  have u2 := @X.spec_l2Of.l2.eq_2
  have uf := @X.spec_l2Of.f.eq_1
  rw [uf] at h
  exact go
/-! spec_l1Cur_full -/
inductive F27 : List Rel → List (List TV) → List (List TV) × List (List TV) → Prop
  | mk (a0_0 a0_1 a0_2 r k) (h : X.spec_l1Cur_full.f k a0_0 a0_1 a0_2 = some r) : F27 [] [[⟨(.row 5 (.int .u8)), a0_0⟩, ⟨(.int .i64), a0_1⟩, ⟨(.int .u64), a0_2⟩]] ([[⟨(.row 65 (.pair (.int .i64) (.pair (.int .i64) .bool))), r.1⟩]], [[⟨(.row 5 (.int .u8)), a0_0⟩, ⟨(.int .i64), r.2.1⟩, ⟨(.int .u64), r.2.2⟩]])
abbrev c27 : Con := ⟨27, [.ptr 49], [(true, [true])], true, F27⟩
abbrev N27 : Specs := ⟨[29], ofS [(3, ⟨[0, 2, 3, 4, 5, 7], [], [], [29, 2], [3], [], []⟩)], ofS []⟩
inductive Q27 (a0_0 : Ty.den (.row 5 (.int .u8))) (r : ((List (X.S65)) × Int × Int)) : Nat → Nat → St → Prop
  | l0 (k x3 x4 x5 x1001 x1002) (h : X.spec_l1Cur_full.l0 k x3 x4 x5 a0_0 x1001 x1002 = some r) : Q27 a0_0 r 3 k (mkSt [(0, sv1 (.ptr 29 0)), (2, sv1 (.ptr 2 0)), (3, sv1 (.dat (.row 9 .str) x3)), (4, sv1 (.dat (.int .i64) x4)), (5, sv1 (.dat (.int .i64) x5)), (7, sv1 (.ptr 29 0))] [(29, ⟨49, [.dat (.row 5 (.int .u8)) a0_0, .dat (.int .i64) x1001, .dat (.int .u64) x1002]⟩), (2, ⟨26, [.nil 65 (.pair (.int .i64) (.pair (.int .i64) .bool))]⟩)] [] [])
set_option maxHeartbeats 4000000 in
set_option maxRecDepth 100000 in
theorem o27 : GoodCon Tryz.prog c27 := by
  refine fo (C := ofL [c49, c50, c51]) (N := N27) (ts := [.cell 2 26]) hT hm (by refine ofL_ok ?_; refine .cons o49 ?_; refine .cons o50 ?_; refine .cons o51 ?_; exact .nil) Tryz.func27 rfl rfl rfl rfl (by decide) rfl (by decide) ?_
  intro Rs ins out hL h; clear hL; cases h; rename_i a0_0 a0_1 a0_2 r k h
  let Q := Q27 a0_0 r
  have u0 := @X.spec_l1Cur_full.l0.eq_2
  have uf := @X.spec_l1Cur_full.f.eq_1
  rw [uf] at h
  exact go
/-! spec_l1Cur_among -/
inductive F54 : List Rel → List (List TV) → List (List TV) × List (List TV) → Prop
  | mk (a0_0 a0_1 a0_2 a1_0 r) (h : X.spec_l1Cur_among.f a0_0 a0_1 a0_2 a1_0 = some r) : F54 [] [[⟨(.row 5 (.int .u8)), a0_0⟩, ⟨(.int .i64), a0_1⟩, ⟨(.int .u64), a0_2⟩], [⟨(.row 3 (.int .i64)), a1_0⟩]] ([[⟨(.int .i64), r.1⟩]], [[⟨(.row 5 (.int .u8)), a0_0⟩, ⟨(.int .i64), r.2.1⟩, ⟨(.int .u64), r.2.2⟩]])
abbrev c54 : Con := ⟨54, [.ptr 49, .val false], [(false, [false])], true, F54⟩
abbrev N54 : Specs := ⟨[12], ofS [], ofS []⟩
set_option maxHeartbeats 0 in
set_option maxRecDepth 100000 in
theorem o54 : GoodCon Tryz.prog c54 := by
  refine fo (C := ofL [c49]) (N := N54) (ts := [.tmp 4]) hT hm (by refine ofL_ok ?_; refine .cons o49 ?_; exact .nil) Tryz.func54 rfl rfl rfl rfl (by decide) rfl (by decide) ?_
  intro Rs ins out hL h; clear hL; cases h; rename_i h
  have uf := @X.spec_l1Cur_among.f.eq_1
  rw [uf] at h
  exact go
/-! spec_l1Cur_of -/
inductive F79 : List Rel → List (List TV) → List (List TV) × List (List TV) → Prop
  | mk (a0_0 a0_1 a0_2 a1_0 r) (h : X.spec_l1Cur_of.f a0_0 a0_1 a0_2 a1_0 = some r) : F79 [] [[⟨(.row 5 (.int .u8)), a0_0⟩, ⟨(.int .i64), a0_1⟩, ⟨(.int .u64), a0_2⟩], [⟨(.row 9 .str), a1_0⟩]] ([[⟨.str, r.1⟩]], [[⟨(.row 5 (.int .u8)), a0_0⟩, ⟨(.int .i64), r.2.1⟩, ⟨(.int .u64), r.2.2⟩]])
abbrev c79 : Con := ⟨79, [.ptr 49, .val false], [(false, [false])], true, F79⟩
abbrev N79 : Specs := ⟨[12], ofS [], ofS []⟩
set_option maxHeartbeats 0 in
set_option maxRecDepth 100000 in
theorem o79 : GoodCon Tryz.prog c79 := by
  refine fo (C := ofL [c49]) (N := N79) (ts := [.tmp 4]) hT hm (by refine ofL_ok ?_; refine .cons o49 ?_; exact .nil) Tryz.func79 rfl rfl rfl rfl (by decide) rfl (by decide) ?_
  intro Rs ins out hL h; clear hL; cases h; rename_i h
  have uf := @X.spec_l1Cur_of.f.eq_1
  rw [uf] at h
  exact go
/-! spec_l1Cur_word -/
inductive F78 : List Rel → List (List TV) → List (List TV) × List (List TV) → Prop
  | mk (a0_0 a0_1 a0_2 r k) (h : X.spec_l1Cur_word.f k a0_0 a0_1 a0_2 = some r) : F78 [] [[⟨(.row 5 (.int .u8)), a0_0⟩, ⟨(.int .i64), a0_1⟩, ⟨(.int .u64), a0_2⟩]] ([[⟨.str, r.1⟩]], [[⟨(.row 5 (.int .u8)), a0_0⟩, ⟨(.int .i64), r.2.1⟩, ⟨(.int .u64), r.2.2⟩]])
abbrev c78 : Con := ⟨78, [.ptr 49], [(false, [false])], true, F78⟩
abbrev N78 : Specs := ⟨[25], ofS [(3, ⟨[0, 3, 4, 5], [], [], [25], [], [], []⟩)], ofS []⟩
inductive Q78 (a0_0 : Ty.den (.row 5 (.int .u8))) (r : (ByteArray × Int × Int)) : Nat → Nat → St → Prop
  | l0 (k x3 x4 x1001 x1002) (h : X.spec_l1Cur_word.l0 k x3 x4 a0_0 x1001 x1002 = some r) : Q78 a0_0 r 3 k (mkSt [(0, sv1 (.ptr 25 0)), (3, sv1 (.dat .str x3)), (4, sv1 (.dat (.int .i64) x4)), (5, sv1 (.ptr 25 0))] [(25, ⟨49, [.dat (.row 5 (.int .u8)) a0_0, .dat (.int .i64) x1001, .dat (.int .u64) x1002]⟩)] [] [])
set_option maxHeartbeats 4000000 in
set_option maxRecDepth 100000 in
theorem o78 : GoodCon Tryz.prog c78 := by
  refine fo (C := ofL [c54, c79, c26]) (N := N78) (ts := [.tmp 2]) hT hm (by refine ofL_ok ?_; refine .cons o54 ?_; refine .cons o79 ?_; refine .cons o26 ?_; exact .nil) Tryz.func78 rfl rfl rfl rfl (by decide) rfl (by decide) ?_
  intro Rs ins out hL h; clear hL; cases h; rename_i a0_0 a0_1 a0_2 r k h
  let Q := Q78 a0_0 r
  have u0 := @X.spec_l1Cur_word.l0.eq_2
  have uf := @X.spec_l1Cur_word.f.eq_1
  rw [uf] at h
  exact go
/-! spec_l1Cur_words -/
inductive F53 : List Rel → List (List TV) → List (List TV) × List (List TV) → Prop
  | mk (a0_0 a0_1 a0_2 r k) (h : X.spec_l1Cur_words.f k a0_0 a0_1 a0_2 = some r) : F53 [] [[⟨(.row 5 (.int .u8)), a0_0⟩, ⟨(.int .i64), a0_1⟩, ⟨(.int .u64), a0_2⟩]] ([[⟨(.row 9 .str), r.1⟩]], [[⟨(.row 5 (.int .u8)), a0_0⟩, ⟨(.int .i64), r.2.1⟩, ⟨(.int .u64), r.2.2⟩]])
abbrev c53 : Con := ⟨53, [.ptr 49], [(false, [true])], true, F53⟩
abbrev N53 : Specs := ⟨[75], ofS [(3, ⟨[0, 3, 4, 8], [(3, 1000000)], [], [75], [], [], []⟩), (15, ⟨[0, 3, 6, 8, 55], [(3, 1003000)], [], [75], [], [], []⟩)], ofS [(100023, ⟨[0, 3, 4, 5, 8, 15, 23], [(3, 1001000)], [], [75], [], [], []⟩), (100037, ⟨[0, 3, 4, 5, 8, 15, 25, 31, 37], [(3, 1002000)], [], [75], [], [], []⟩)]⟩
inductive Q53 (a0_0 : Ty.den (.row 5 (.int .u8))) (r : (List ByteArray × Int × Int)) : Nat → Nat → St → Prop
  | l0 (k x3 x4 x1001 x1002) (h : X.spec_l1Cur_words.l0 k x3 x4 a0_0 x1001 x1002 = some r) : Q53 a0_0 r 3 k (mkSt [(0, sv1 (.ptr 75 0)), (3, sv1 (.own 1000000 0)), (4, sv1 (.dat (.int .i64) x4)), (8, sv1 (.ptr 75 0))] [(75, ⟨49, [.dat (.row 5 (.int .u8)) a0_0, .dat (.int .i64) x1001, .dat (.int .u64) x1002]⟩)] [(1000000, ⟨9, .str, x3, 0⟩)] [])
  | j1 (k x3 x4 x5 x23 x1001 x1002) (h : X.spec_l1Cur_words.j1 k x3 x4 x5 x23 a0_0 x1001 x1002 = some r) : Q53 a0_0 r 100023 k (mkSt [(0, sv1 (.ptr 75 0)), (3, sv1 (.own 1001000 0)), (4, sv1 (.dat (.int .i64) x4)), (5, sv1 (.dat .str x5)), (8, sv1 (.ptr 75 0)), (15, sv1 (.ptr 75 0)), (23, sv1 (.dat .bool x23))] [(75, ⟨49, [.dat (.row 5 (.int .u8)) a0_0, .dat (.int .i64) x1001, .dat (.int .u64) x1002]⟩)] [(1001000, ⟨9, .str, x3, 0⟩)] [])
  | j2 (k x3 x4 x5 x37 x1001 x1002) (h : X.spec_l1Cur_words.j2 k x3 x4 x5 x37 a0_0 x1001 x1002 = some r) : Q53 a0_0 r 100037 k (mkSt [(0, sv1 (.ptr 75 0)), (3, sv1 (.own 1002000 0)), (4, sv1 (.dat (.int .i64) x4)), (5, sv1 (.dat .str x5)), (8, sv1 (.ptr 75 0)), (15, sv1 (.ptr 75 0)), (25, sv1 (.ptr 75 0)), (31, sv1 (.ptr 75 0)), (37, sv1 (.dat .bool x37))] [(75, ⟨49, [.dat (.row 5 (.int .u8)) a0_0, .dat (.int .i64) x1001, .dat (.int .u64) x1002]⟩)] [(1002000, ⟨9, .str, x3, 0⟩)] [])
  | l1 (k x3 x6 x1001 x1002) (h : X.spec_l1Cur_words.l1 k x3 x6 a0_0 x1001 x1002 = some r) : Q53 a0_0 r 15 k (mkSt [(0, sv1 (.ptr 75 0)), (3, sv1 (.own 1003000 0)), (6, sv1 (.dat (.int .i64) x6)), (8, sv1 (.ptr 75 0)), (55, sv1 (.ptr 75 0))] [(75, ⟨49, [.dat (.row 5 (.int .u8)) a0_0, .dat (.int .i64) x1001, .dat (.int .u64) x1002]⟩)] [(1003000, ⟨9, .str, x3, 0⟩)] [])
set_option maxHeartbeats 4000000 in
set_option maxRecDepth 100000 in
theorem o53 : GoodCon Tryz.prog c53 := by
  refine fo (C := ofL [c54, c78, c26, c49, c79]) (N := N53) (ts := [.tmp 2]) hT hm (by refine ofL_ok ?_; refine .cons o54 ?_; refine .cons o78 ?_; refine .cons o26 ?_; refine .cons o49 ?_; refine .cons o79 ?_; exact .nil) Tryz.func53 rfl rfl rfl rfl (by decide) rfl (by decide) ?_
  intro Rs ins out hL h; clear hL; cases h; rename_i a0_0 a0_1 a0_2 r k h
  let Q := Q53 a0_0 r
  have u0 := @X.spec_l1Cur_words.l0.eq_2
  have u1 := @X.spec_l1Cur_words.j1.eq_2
  have u2 := @X.spec_l1Cur_words.j2.eq_2
  have u3 := @X.spec_l1Cur_words.l1.eq_2
  have uf := @X.spec_l1Cur_words.f.eq_1
  rw [uf] at h
  exact go
/-! spec_l2Word -/
inductive F46 : List Rel → List (List TV) → List (List TV) × List (List TV) → Prop
  | mk (a0_0 r k) (h : X.spec_l2Word.f k a0_0 = some r) : F46 [] [[⟨.str, a0_0⟩]] ([[⟨.bool, r⟩]], [])
abbrev c46 : Con := ⟨46, [.val false], [(false, [false])], false, F46⟩
abbrev N46 : Specs := ⟨[], ofS [(2, ⟨[0, 3], [], [], [], [], [], []⟩)], ofS [(100011, ⟨[0, 3, 11], [], [], [], [], [], []⟩)]⟩
inductive Q46 (r : (Bool)) : Nat → Nat → St → Prop
  | l0 (k x0 x3) (h : X.spec_l2Word.l0 k x0 x3 = some r) : Q46 r 2 k (mkSt [(0, sv1 (.dat .str x0)), (3, sv1 (.dat (.int .i64) x3))] [] [] [])
  | j1 (k x0 x3 x11) (h : X.spec_l2Word.j1 k x0 x3 x11 = some r) : Q46 r 100011 k (mkSt [(0, sv1 (.dat .str x0)), (3, sv1 (.dat (.int .i64) x3)), (11, sv1 (.dat .bool x11))] [] [] [])
set_option maxHeartbeats 4000000 in
set_option maxRecDepth 100000 in
theorem o46 : GoodCon Tryz.prog c46 := by
  refine fo (C := ofL []) (N := N46) (ts := [.tmp 2]) hT hm (by refine ofL_ok ?_; exact .nil) Tryz.func46 rfl rfl rfl rfl (by decide) rfl (by decide) ?_
  intro Rs ins out hL h; clear hL; cases h; rename_i a0_0 r k h
  let Q := Q46 r
  have u0 := @X.spec_l2Word.l0.eq_2
  have u1 := @X.spec_l2Word.j1.eq_2
  have uf := @X.spec_l2Word.f.eq_1
  rw [uf] at h
  exact go
/-! spec_l2Set -/
inductive F52 : List Rel → List (List TV) → List (List TV) × List (List TV) → Prop
  | mk (a0_0 r k) (h : X.spec_l2Set.f k a0_0 = some r) : F52 [] [[⟨(.row 9 .str), a0_0⟩]] ([[⟨(.row 9 .str), r.1⟩], [⟨.bool, r.2⟩]], [])
abbrev c52 : Con := ⟨52, [.val false], [(false, [false]), (false, [false])], true, F52⟩
abbrev N52 : Specs := ⟨[], ofS [(3, ⟨[0, 4, 5], [], [], [], [0, 4], [], []⟩)], ofS []⟩
inductive Q52 (r : (List ByteArray × Bool)) : Nat → Nat → St → Prop
  | l0 (k x0 x4 x5) (h : X.spec_l2Set.l0 k x0 x4 x5 = some r) : Q52 r 3 k (mkSt [(0, sv1 (.dat (.row 9 .str) x0)), (4, sv1 (.dat (.row 9 .str) x4)), (5, sv1 (.dat (.int .i64) x5))] [] [] [])
set_option maxHeartbeats 4000000 in
set_option maxRecDepth 100000 in
theorem o52 : GoodCon Tryz.prog c52 := by
  refine fo (C := ofL [c46, c50]) (N := N52) (ts := [.tmp 2, .tmp 3]) hT hm (by refine ofL_ok ?_; refine .cons o46 ?_; refine .cons o50 ?_; exact .nil) Tryz.func52 rfl rfl rfl rfl (by decide) rfl (by decide) ?_
  intro Rs ins out hL h; clear hL; cases h; rename_i a0_0 r k h
  let Q := Q52 r
  have u0 := @X.spec_l2Set.l0.eq_2
  have uf := @X.spec_l2Set.f.eq_1
  rw [uf] at h
  exact go
/-! spec_l1Cur_trie -/
inductive F28 : List Rel → List (List TV) → List (List TV) × List (List TV) → Prop
  | mk (a0_0 a0_1 a0_2 r k) (h : X.spec_l1Cur_trie.f k a0_0 a0_1 a0_2 = some r) : F28 [] [[⟨(.row 5 (.int .u8)), a0_0⟩, ⟨(.int .i64), a0_1⟩, ⟨(.int .u64), a0_2⟩]] ([[⟨(.row 65 (.pair (.int .i64) (.pair (.int .i64) .bool))), r.1⟩]], [[⟨(.row 5 (.int .u8)), a0_0⟩, ⟨(.int .i64), r.2.1⟩, ⟨(.int .u64), r.2.2⟩]])
abbrev c28 : Con := ⟨28, [.ptr 49], [(true, [true])], true, F28⟩
abbrev N28 : Specs := ⟨[70], ofS [], ofS []⟩
set_option maxHeartbeats 0 in
set_option maxRecDepth 100000 in
theorem o28 : GoodCon Tryz.prog c28 := by
  refine fo (C := ofL [c53, c52, c51, c49, c26, c54]) (N := N28) (ts := [.cell 2 26]) hT hm (by refine ofL_ok ?_; refine .cons o53 ?_; refine .cons o52 ?_; refine .cons o51 ?_; refine .cons o49 ?_; refine .cons o26 ?_; refine .cons o54 ?_; exact .nil) Tryz.func28 rfl rfl rfl rfl (by decide) rfl (by decide) ?_
  intro Rs ins out hL h; clear hL; cases h; rename_i k h
  have uf := @X.spec_l1Cur_trie.f.eq_1
  rw [uf] at h
  exact go
/-! spec_l1In -/
inductive F71 : List Rel → List (List TV) → List (List TV) × List (List TV) → Prop
  | mk (a0_0 a1_0 a2_0 r) (h : X.spec_l1In.f a0_0 a1_0 a2_0 = some r) : F71 [] [[⟨(.int .i64), a0_0⟩], [⟨(.int .i64), a1_0⟩], [⟨(.int .i64), a2_0⟩]] ([[⟨.bool, r⟩]], [])
abbrev c71 : Con := ⟨71, [.val false, .val false, .val false], [(false, [false])], false, F71⟩
abbrev N71 : Specs := ⟨[], ofS [], ofS []⟩
set_option maxHeartbeats 0 in
set_option maxRecDepth 100000 in
theorem o71 : GoodCon Tryz.prog c71 := by
  refine fo (C := ofL []) (N := N71) (ts := [.tmp 6]) hT hm (by refine ofL_ok ?_; exact .nil) Tryz.func71 rfl rfl rfl rfl (by decide) rfl (by decide) ?_
  intro Rs ins out hL h; clear hL; cases h; rename_i h
  have uf := @X.spec_l1In.f.eq_1
  rw [uf] at h
  exact go
/-! spec_l2Prefix -/
inductive F61 : List Rel → List (List TV) → List (List TV) × List (List TV) → Prop
  | mk (a0_0 a1_0 r k) (h : X.spec_l2Prefix.f k a0_0 a1_0 = some r) : F61 [] [[⟨(.row 65 (.pair (.int .i64) (.pair (.int .i64) .bool))), a0_0⟩], [⟨(.int .i64), a1_0⟩]] ([[⟨.str, r⟩]], [])
abbrev c61 : Con := ⟨61, [.val true, .val false], [(false, [false])], false, F61⟩
abbrev N61 : Specs := ⟨[], ofS [(2, ⟨[1, 2, 5], [], [], [2], [], [], []⟩)], ofS [(100013, ⟨[1, 2, 5, 13], [], [], [2], [], [], []⟩)]⟩
inductive Q61 (r : (ByteArray)) : Nat → Nat → St → Prop
  | l0 (k x1 x5 x346000) (h : X.spec_l2Prefix.l0 k x1 x5 x346000 = some r) : Q61 r 2 k (mkSt [(1, sv1 (.dat (.int .i64) x1)), (2, sv1 (.ptr 2 0)), (5, sv1 (.dat .str x5))] [(2, ⟨26, [.dat (.row 65 (.pair (.int .i64) (.pair (.int .i64) .bool))) x346000]⟩)] [] [])
  | j1 (k x1 x5 x13 x346000) (h : X.spec_l2Prefix.j1 k x1 x5 x13 x346000 = some r) : Q61 r 100013 k (mkSt [(1, sv1 (.dat (.int .i64) x1)), (2, sv1 (.ptr 2 0)), (5, sv1 (.dat .str x5)), (13, sv1 (.dat .bool x13))] [(2, ⟨26, [.dat (.row 65 (.pair (.int .i64) (.pair (.int .i64) .bool))) x346000]⟩)] [] [])
set_option maxHeartbeats 4000000 in
set_option maxRecDepth 100000 in
theorem o61 : GoodCon Tryz.prog c61 := by
  refine fo (C := ofL [c71]) (N := N61) (ts := [.tmp 4]) hT hm (by refine ofL_ok ?_; refine .cons o71 ?_; exact .nil) Tryz.func61 rfl rfl rfl rfl (by decide) rfl (by decide) ?_
  intro Rs ins out hL h; clear hL; cases h; rename_i a0_0 a1_0 r k h
  let Q := Q61 r
  have u0 := @X.spec_l2Prefix.l0.eq_2
  have u1 := @X.spec_l2Prefix.j1.eq_2
  have uf := @X.spec_l2Prefix.f.eq_1
  rw [uf] at h
  exact go
/-! spec_l2Words -/
inductive F35 : List Rel → List (List TV) → List (List TV) × List (List TV) → Prop
  | mk (a0_0 r k) (h : X.spec_l2Words.f k a0_0 = some r) : F35 [] [[⟨(.row 65 (.pair (.int .i64) (.pair (.int .i64) .bool))), a0_0⟩]] ([[⟨(.row 9 .str), r⟩]], [])
abbrev c35 : Con := ⟨35, [.val true], [(false, [true])], false, F35⟩
abbrev N35 : Specs := ⟨[], ofS [(3, ⟨[1, 2, 3, 4], [(3, 1000000)], [], [1], [], [], []⟩)], ofS []⟩
inductive Q35 (r : (List ByteArray)) : Nat → Nat → St → Prop
  | l0 (k x3 x4 x353000) (h : X.spec_l2Words.l0 k x3 x4 x353000 = some r) : Q35 r 3 k (mkSt [(1, sv1 (.ptr 1 0)), (2, sv1 (.nil 9 .str)), (3, sv1 (.own 1000000 0)), (4, sv1 (.dat (.int .i64) x4))] [(1, ⟨26, [.dat (.row 65 (.pair (.int .i64) (.pair (.int .i64) .bool))) x353000]⟩)] [(1000000, ⟨9, .str, x3, 0⟩)] [])
set_option maxHeartbeats 4000000 in
set_option maxRecDepth 100000 in
theorem o35 : GoodCon Tryz.prog c35 := by
  refine fo (C := ofL [c61]) (N := N35) (ts := [.tmp 2]) hT hm (by refine ofL_ok ?_; refine .cons o61 ?_; exact .nil) Tryz.func35 rfl rfl rfl rfl (by decide) rfl (by decide) ?_
  intro Rs ins out hL h; clear hL; cases h; rename_i a0_0 r k h
  let Q := Q35 r
  have u0 := @X.spec_l2Words.l0.eq_2
  have uf := @X.spec_l2Words.f.eq_1
  rw [uf] at h
  exact go
/-! spec_l2Same -/
inductive F72 : List Rel → List (List TV) → List (List TV) × List (List TV) → Prop
  | mk (a0_0 a1_0 r k) (h : X.spec_l2Same.f k a0_0 a1_0 = some r) : F72 [] [[⟨(.row 65 (.pair (.int .i64) (.pair (.int .i64) .bool))), a0_0⟩], [⟨(.row 65 (.pair (.int .i64) (.pair (.int .i64) .bool))), a1_0⟩]] ([[⟨.bool, r⟩]], [])
abbrev c72 : Con := ⟨72, [.val true, .val true], [(false, [false])], false, F72⟩
abbrev N72 : Specs := ⟨[], ofS [(2, ⟨[2, 3, 5], [], [], [2, 3], [], [], []⟩)], ofS [(100017, ⟨[2, 3, 5, 17], [], [], [2, 3], [], [], []⟩)]⟩
inductive Q72 (r : (Bool)) : Nat → Nat → St → Prop
  | l0 (k x5 x362000 x363000) (h : X.spec_l2Same.l0 k x5 x362000 x363000 = some r) : Q72 r 2 k (mkSt [(2, sv1 (.ptr 2 0)), (3, sv1 (.ptr 3 0)), (5, sv1 (.dat (.int .i64) x5))] [(2, ⟨26, [.dat (.row 65 (.pair (.int .i64) (.pair (.int .i64) .bool))) x362000]⟩), (3, ⟨26, [.dat (.row 65 (.pair (.int .i64) (.pair (.int .i64) .bool))) x363000]⟩)] [] [])
  | j1 (k x5 x17 x362000 x363000) (h : X.spec_l2Same.j1 k x5 x17 x362000 x363000 = some r) : Q72 r 100017 k (mkSt [(2, sv1 (.ptr 2 0)), (3, sv1 (.ptr 3 0)), (5, sv1 (.dat (.int .i64) x5)), (17, sv1 (.dat .bool x17))] [(2, ⟨26, [.dat (.row 65 (.pair (.int .i64) (.pair (.int .i64) .bool))) x362000]⟩), (3, ⟨26, [.dat (.row 65 (.pair (.int .i64) (.pair (.int .i64) .bool))) x363000]⟩)] [] [])
set_option maxHeartbeats 4000000 in
set_option maxRecDepth 100000 in
theorem o72 : GoodCon Tryz.prog c72 := by
  refine fo (C := ofL []) (N := N72) (ts := [.tmp 4]) hT hm (by refine ofL_ok ?_; exact .nil) Tryz.func72 rfl rfl rfl rfl (by decide) rfl (by decide) ?_
  intro Rs ins out hL h; clear hL; cases h; rename_i a0_0 a1_0 r k h
  let Q := Q72 r
  have u0 := @X.spec_l2Same.l0.eq_2
  have u1 := @X.spec_l2Same.j1.eq_2
  have uf := @X.spec_l2Same.f.eq_1
  rw [uf] at h
  exact go
/-! spec_l2Trie -/
inductive F45 : List Rel → List (List TV) → List (List TV) × List (List TV) → Prop
  | mk (a0_0 r k) (h : X.spec_l2Trie.f k a0_0 = some r) : F45 [] [[⟨(.row 65 (.pair (.int .i64) (.pair (.int .i64) .bool))), a0_0⟩]] ([[⟨.bool, r⟩]], [])
abbrev c45 : Con := ⟨45, [.val true], [(false, [false])], false, F45⟩
abbrev N45 : Specs := ⟨[], ofS [], ofS []⟩
set_option maxHeartbeats 0 in
set_option maxRecDepth 100000 in
theorem o45 : GoodCon Tryz.prog c45 := by
  refine fo (C := ofL [c71, c35, c52, c51, c72]) (N := N45) (ts := [.tmp 2]) hT hm (by refine ofL_ok ?_; refine .cons o71 ?_; refine .cons o35 ?_; refine .cons o52 ?_; refine .cons o51 ?_; refine .cons o72 ?_; exact .nil) Tryz.func45 rfl rfl rfl rfl (by decide) rfl (by decide) ?_
  intro Rs ins out hL h; clear hL; cases h; rename_i k h
  have uf := @X.spec_l2Trie.f.eq_1
  rw [uf] at h
  exact go
/-! spec_l5Two -/
inductive F33 : List Rel → List (List TV) → List (List TV) × List (List TV) → Prop
  | mk (a0_0 a1_0 r k) (h : X.spec_l5Two.f k a0_0 a1_0 = some r) : F33 [] [[⟨(.row 65 (.pair (.int .i64) (.pair (.int .i64) .bool))), a0_0⟩], [⟨(.row 65 (.pair (.int .i64) (.pair (.int .i64) .bool))), a1_0⟩]] ([[⟨.bool, r⟩]], [])
abbrev c33 : Con := ⟨33, [.val true, .val true], [(false, [false])], false, F33⟩
abbrev N33 : Specs := ⟨[], ofS [], ofS []⟩
set_option maxHeartbeats 0 in
set_option maxRecDepth 100000 in
theorem o33 : GoodCon Tryz.prog c33 := by
  refine fo (C := ofL [c45]) (N := N33) (ts := [.tmp 4]) hT hm (by refine ofL_ok ?_; refine .cons o45 ?_; exact .nil) Tryz.func33 rfl rfl rfl rfl (by decide) rfl (by decide) ?_
  intro Rs ins out hL h; clear hL; cases h; rename_i k h
  have uf := @X.spec_l5Two.f.eq_1
  rw [uf] at h
  exact go
/-! spec_l1Cur_two5 -/
inductive F29 : List Rel → List (List TV) → List (List TV) × List (List TV) → Prop
  | mk (a0_0 a0_1 a0_2 r k) (h : X.spec_l1Cur_two5.f k a0_0 a0_1 a0_2 = some r) : F29 [] [[⟨(.row 5 (.int .u8)), a0_0⟩, ⟨(.int .i64), a0_1⟩, ⟨(.int .u64), a0_2⟩]] ([[⟨(.row 65 (.pair (.int .i64) (.pair (.int .i64) .bool))), r.1⟩], [⟨(.row 65 (.pair (.int .i64) (.pair (.int .i64) .bool))), r.2.1⟩]], [[⟨(.row 5 (.int .u8)), a0_0⟩, ⟨(.int .i64), r.2.2.1⟩, ⟨(.int .u64), r.2.2.2⟩]])
abbrev c29 : Con := ⟨29, [.ptr 49], [(true, [false]), (true, [false])], true, F29⟩
abbrev N29 : Specs := ⟨[49], ofS [(6, ⟨[0, 2, 3, 4, 6, 7, 8, 9, 11], [(7, 1001000)], [(4, 0, 1001500)], [49, 2, 3, 4], [6], [], []⟩)], ofS [(100020, ⟨[0, 2, 3, 4, 5, 9, 11, 20], [], [(4, 0, 1000500), (5, 0, 1000501)], [49, 2, 3, 4, 5], [], [], []⟩), (100033, ⟨[0, 2, 3, 4, 6, 7, 8, 9, 11, 33], [(7, 1002000)], [(4, 0, 1002500)], [49, 2, 3, 4], [6], [], []⟩)]⟩
inductive Q29 (a0_0 : Ty.den (.row 5 (.int .u8))) (r : ((List (X.S65)) × (List (X.S65)) × Int × Int)) : Nat → Nat → St → Prop
  | j0 (k x20 x1001 x1002 x395000 x396000) (h : X.spec_l1Cur_two5.j0 k x20 a0_0 x1001 x1002 x395000 x396000 = some r) : Q29 a0_0 r 100020 k (mkSt [(0, sv1 (.ptr 49 0)), (2, sv1 (.ptr 2 0)), (3, sv1 (.ptr 3 0)), (4, sv1 (.ptr 4 0)), (5, sv1 (.ptr 5 0)), (9, sv1 (.ptr 49 0)), (11, sv1 (.ptr 49 0)), (20, sv1 (.dat .bool x20))] [(49, ⟨49, [.dat (.row 5 (.int .u8)) a0_0, .dat (.int .i64) x1001, .dat (.int .u64) x1002]⟩), (2, ⟨26, [.nil 65 (.pair (.int .i64) (.pair (.int .i64) .bool))]⟩), (3, ⟨26, [.nil 65 (.pair (.int .i64) (.pair (.int .i64) .bool))]⟩), (4, ⟨26, [.own 1000500 0]⟩), (5, ⟨26, [.own 1000501 0]⟩)] [(1000500, ⟨65, (.pair (.int .i64) (.pair (.int .i64) .bool)), x395000, 0⟩), (1000501, ⟨65, (.pair (.int .i64) (.pair (.int .i64) .bool)), x396000, 0⟩)] [])
  | l0 (k x6 x7 x8 x1001 x1002 x395000) (h : X.spec_l1Cur_two5.l0 k x6 x7 x8 a0_0 x1001 x1002 x395000 = some r) : Q29 a0_0 r 6 k (mkSt [(0, sv1 (.ptr 49 0)), (2, sv1 (.ptr 2 0)), (3, sv1 (.ptr 3 0)), (4, sv1 (.ptr 4 0)), (6, sv1 (.dat (.row 9 .str) x6)), (7, sv1 (.own 1001000 0)), (8, sv1 (.dat (.int .i64) x8)), (9, sv1 (.ptr 49 0)), (11, sv1 (.ptr 49 0))] [(49, ⟨49, [.dat (.row 5 (.int .u8)) a0_0, .dat (.int .i64) x1001, .dat (.int .u64) x1002]⟩), (2, ⟨26, [.nil 65 (.pair (.int .i64) (.pair (.int .i64) .bool))]⟩), (3, ⟨26, [.nil 65 (.pair (.int .i64) (.pair (.int .i64) .bool))]⟩), (4, ⟨26, [.own 1001500 0]⟩)] [(1001000, ⟨9, .str, x7, 0⟩), (1001500, ⟨65, (.pair (.int .i64) (.pair (.int .i64) .bool)), x395000, 0⟩)] [])
  | j2 (k x6 x7 x8 x33 x1001 x1002 x395000) (h : X.spec_l1Cur_two5.j2 k x6 x7 x8 x33 a0_0 x1001 x1002 x395000 = some r) : Q29 a0_0 r 100033 k (mkSt [(0, sv1 (.ptr 49 0)), (2, sv1 (.ptr 2 0)), (3, sv1 (.ptr 3 0)), (4, sv1 (.ptr 4 0)), (6, sv1 (.dat (.row 9 .str) x6)), (7, sv1 (.own 1002000 0)), (8, sv1 (.dat (.int .i64) x8)), (9, sv1 (.ptr 49 0)), (11, sv1 (.ptr 49 0)), (33, sv1 (.dat .bool x33))] [(49, ⟨49, [.dat (.row 5 (.int .u8)) a0_0, .dat (.int .i64) x1001, .dat (.int .u64) x1002]⟩), (2, ⟨26, [.nil 65 (.pair (.int .i64) (.pair (.int .i64) .bool))]⟩), (3, ⟨26, [.nil 65 (.pair (.int .i64) (.pair (.int .i64) .bool))]⟩), (4, ⟨26, [.own 1002500 0]⟩)] [(1002000, ⟨9, .str, x7, 0⟩), (1002500, ⟨65, (.pair (.int .i64) (.pair (.int .i64) .bool)), x395000, 0⟩)] [])
set_option maxHeartbeats 4000000 in
set_option maxRecDepth 100000 in
theorem o29 : GoodCon Tryz.prog c29 := by
  refine fo (C := ofL [c28, c33, c26, c35, c51, c50]) (N := N29) (ts := [.cell 2 26, .cell 3 26]) hT hm (by refine ofL_ok ?_; refine .cons o28 ?_; refine .cons o33 ?_; refine .cons o26 ?_; refine .cons o35 ?_; refine .cons o51 ?_; refine .cons o50 ?_; exact .nil) Tryz.func29 rfl rfl rfl rfl (by decide) rfl (by decide) ?_
  intro Rs ins out hL h; clear hL; cases h; rename_i a0_0 a0_1 a0_2 r k h
  let Q := Q29 a0_0 r
  have u0 := @X.spec_l1Cur_two5.j0.eq_2
  have u1 := @X.spec_l1Cur_two5.l0.eq_2
  have u2 := @X.spec_l1Cur_two5.j2.eq_2
  have uf := @X.spec_l1Cur_two5.f.eq_1
  rw [uf] at h
  exact go
/-! spec_DrawJoinTries -/
inductive F5 : List Rel → List (List TV) → List (List TV) × List (List TV) → Prop
  | mk (a0_0 r k) (h : X.spec_DrawJoinTries.f k a0_0 = some r) : F5 [] [[⟨(.row 5 (.int .u8)), a0_0⟩]] ([[⟨(.row 65 (.pair (.int .i64) (.pair (.int .i64) .bool))), r.1⟩], [⟨(.row 65 (.pair (.int .i64) (.pair (.int .i64) .bool))), r.2⟩]], [])
abbrev c5 : Con := ⟨5, [.val false], [(true, [false]), (true, [false])], true, F5⟩
abbrev N5 : Specs := ⟨[], ofS [], ofS []⟩
set_option maxHeartbeats 0 in
set_option maxRecDepth 100000 in
theorem o5 : GoodCon Tryz.prog c5 := by
  refine fo (C := ofL [c26, c27, c28, c29]) (N := N5) (ts := [.cell 2 26, .cell 3 26]) hT hm (by refine ofL_ok ?_; refine .cons o26 ?_; refine .cons o27 ?_; refine .cons o28 ?_; refine .cons o29 ?_; exact .nil) Tryz.func5 rfl rfl rfl rfl (by decide) rfl (by decide) ?_
  intro Rs ins out hL h; clear hL; cases h; rename_i k h
  have uf := @X.spec_DrawJoinTries.f.eq_1
  rw [uf] at h
  exact go
/-! impl_in -/
inductive F48 : List Rel → List (List TV) → List (List TV) × List (List TV) → Prop
  | mk (a0_0 a1_0 a2_0 r) (h : X.impl_in.f a0_0 a1_0 a2_0 = some r) : F48 [] [[⟨(.int .i64), a0_0⟩], [⟨(.int .i64), a1_0⟩], [⟨(.int .i64), a2_0⟩]] ([[⟨.bool, r⟩]], [])
abbrev c48 : Con := ⟨48, [.val false, .val false, .val false], [(false, [false])], false, F48⟩
abbrev N48 : Specs := ⟨[], ofS [], ofS []⟩
set_option maxHeartbeats 0 in
set_option maxRecDepth 100000 in
theorem o48 : GoodCon Tryz.prog c48 := by
  refine fo (C := ofL []) (N := N48) (ts := [.tmp 6]) hT hm (by refine ofL_ok ?_; exact .nil) Tryz.func48 rfl rfl rfl rfl (by decide) rfl (by decide) ?_
  intro Rs ins out hL h; clear hL; cases h; rename_i h
  have uf := @X.impl_in.f.eq_1
  rw [uf] at h
  exact go
/-! impl_letter -/
inductive F80 : List Rel → List (List TV) → List (List TV) × List (List TV) → Prop
  | mk (a0_0 r) (h : X.impl_letter.f a0_0 = some r) : F80 [] [[⟨(.int .i64), a0_0⟩]] ([[⟨.str, r⟩]], [])
abbrev c80 : Con := ⟨80, [.val false], [(false, [false])], false, F80⟩
abbrev N80 : Specs := ⟨[], ofS [], ofS []⟩
set_option maxHeartbeats 0 in
set_option maxRecDepth 100000 in
theorem o80 : GoodCon Tryz.prog c80 := by
  refine fo (C := ofL []) (N := N80) (ts := [.tmp 2]) hT hm (by refine ofL_ok ?_; exact .nil) Tryz.func80 rfl rfl rfl rfl (by decide) rfl (by decide) ?_
  intro Rs ins out hL h; clear hL; cases h; rename_i h
  have uf := @X.impl_letter.f.eq_1
  rw [uf] at h
  exact go
/-! impl_Trie_prefixes -/
inductive F55 : List Rel → List (List TV) → List (List TV) × List (List TV) → Prop
  | mk (a0_0 r k) (h : X.impl_Trie_prefixes.f k a0_0 = some r) : F55 [] [[⟨(.row 65 (.pair (.int .i64) (.pair (.int .i64) .bool))), a0_0⟩]] ([[⟨(.row 9 .str), r.1⟩], [⟨.bool, r.2⟩]], [])
abbrev c55 : Con := ⟨55, [.val true], [(false, [true]), (false, [false])], false, F55⟩
abbrev N55 : Specs := ⟨[], ofS [(5, ⟨[4, 15, 16, 17], [(4, 1000000)], [], [], [15], [], []⟩)], ofS []⟩
inductive Q55 (r : (List ByteArray × Bool)) : Nat → Nat → St → Prop
  | l0 (k x4 x15 x16 x17) (h : X.impl_Trie_prefixes.l0 k x4 x15 x16 x17 = some r) : Q55 r 5 k (mkSt [(4, sv1 (.own 1000000 0)), (15, sv1 (.dat (.row 65 (.pair (.int .i64) (.pair (.int .i64) .bool))) x15)), (16, sv1 (.dat (.int .i64) x16)), (17, sv1 (.dat (.int .i64) x17))] [] [(1000000, ⟨9, .str, x4, 0⟩)] [])
set_option maxHeartbeats 4000000 in
set_option maxRecDepth 100000 in
theorem o55 : GoodCon Tryz.prog c55 := by
  refine fo (C := ofL [c48, c80]) (N := N55) (ts := [.tmp 2, .tmp 3]) hT hm (by refine ofL_ok ?_; refine .cons o48 ?_; refine .cons o80 ?_; exact .nil) Tryz.func55 rfl rfl rfl rfl (by decide) rfl (by decide) ?_
  intro Rs ins out hL h; clear hL; cases h; rename_i a0_0 r k h
  let Q := Q55 r
  have u0 := @X.impl_Trie_prefixes.l0.eq_2
  have uf := @X.impl_Trie_prefixes.f.eq_1
  rw [uf] at h
  exact go
/-! impl_isTrie_1 -/
inductive F56 : List Rel → List (List TV) → List (List TV) × List (List TV) → Prop
  | mk (a0_0 r) (h : X.impl_isTrie_1.f a0_0 = some r) : F56 [] [[⟨.str, a0_0⟩]] ([[⟨.bool, r⟩]], [])
abbrev c56 : Con := ⟨56, [.val false], [(false, [false])], false, F56⟩
abbrev N56 : Specs := ⟨[], ofS [], ofS []⟩
set_option maxHeartbeats 0 in
set_option maxRecDepth 100000 in
theorem o56 : GoodCon Tryz.prog c56 := by
  refine fo (C := ofL []) (N := N56) (ts := [.tmp 2]) hT hm (by refine ofL_ok ?_; exact .nil) Tryz.func56 rfl rfl rfl rfl (by decide) rfl (by decide) ?_
  intro Rs ins out hL h; clear hL; cases h; rename_i h
  have uf := @X.impl_isTrie_1.f.eq_1
  rw [uf] at h
  exact go
/-! impl_Trie_words -/
inductive F32 : List Rel → List (List TV) → List (List TV) × List (List TV) → Prop
  | mk (a0_0 r k) (h : X.impl_Trie_words.f k a0_0 = some r) : F32 [] [[⟨(.row 65 (.pair (.int .i64) (.pair (.int .i64) .bool))), a0_0⟩]] ([[⟨(.row 9 .str), r⟩]], [])
abbrev c32 : Con := ⟨32, [.val true], [(false, [true])], false, F32⟩
abbrev N32 : Specs := ⟨[], ofS [(4, ⟨[2, 3, 5, 15, 16, 17], [(3, 1000000), (5, 1000001)], [], [], [15], [], []⟩)], ofS []⟩
inductive Q32 (r : (List ByteArray)) : Nat → Nat → St → Prop
  | l0 (k x3 x5 x15 x16 x17) (h : X.impl_Trie_words.l0 k x3 x5 x15 x16 x17 = some r) : Q32 r 4 k (mkSt [(2, sv1 (.nil 9 .str)), (3, sv1 (.own 1000000 0)), (5, sv1 (.own 1000001 0)), (15, sv1 (.dat (.row 65 (.pair (.int .i64) (.pair (.int .i64) .bool))) x15)), (16, sv1 (.dat (.int .i64) x16)), (17, sv1 (.dat (.int .i64) x17))] [] [(1000000, ⟨9, .str, x3, 0⟩), (1000001, ⟨9, .str, x5, 0⟩)] [])
set_option maxHeartbeats 4000000 in
set_option maxRecDepth 100000 in
theorem o32 : GoodCon Tryz.prog c32 := by
  refine fo (C := ofL [c55]) (N := N32) (ts := [.tmp 2]) hT hm (by refine ofL_ok ?_; refine .cons o55 ?_; exact .nil) Tryz.func32 rfl rfl rfl rfl (by decide) rfl (by decide) ?_
  intro Rs ins out hL h; clear hL; cases h; rename_i a0_0 r k h
  let Q := Q32 r
  have u0 := @X.impl_Trie_words.l0.eq_2
  have uf := @X.impl_Trie_words.f.eq_1
  rw [uf] at h
  exact go
/-! cmp_isNaN_string -/
inductive F89 : List Rel → List (List TV) → List (List TV) × List (List TV) → Prop
  | mk (a0_0 r) (h : X.cmp_isNaN_string.f a0_0 = some r) : F89 [] [[⟨.str, a0_0⟩]] ([[⟨.bool, r⟩]], [])
abbrev c89 : Con := ⟨89, [.val false], [(false, [false])], false, F89⟩
abbrev N89 : Specs := ⟨[], ofS [], ofS []⟩
set_option maxHeartbeats 0 in
set_option maxRecDepth 100000 in
theorem o89 : GoodCon Tryz.prog c89 := by
  refine fo (C := ofL []) (N := N89) (ts := [.tmp 2]) hT hm (by refine ofL_ok ?_; exact .nil) Tryz.func89 rfl rfl rfl rfl (by decide) rfl (by decide) ?_
  intro Rs ins out hL h; clear hL; cases h; rename_i h
  have uf := @X.cmp_isNaN_string.f.eq_1
  rw [uf] at h
  exact go
/-! cmp_Less_string -/
inductive F81 : List Rel → List (List TV) → List (List TV) × List (List TV) → Prop
  | mk (a0_0 a1_0 r) (h : X.cmp_Less_string.f a0_0 a1_0 = some r) : F81 [] [[⟨.str, a0_0⟩], [⟨.str, a1_0⟩]] ([[⟨.bool, r⟩]], [])
abbrev c81 : Con := ⟨81, [.val false, .val false], [(false, [false])], false, F81⟩
abbrev N81 : Specs := ⟨[], ofS [], ofS []⟩
set_option maxHeartbeats 0 in
set_option maxRecDepth 100000 in
theorem o81 : GoodCon Tryz.prog c81 := by
  refine fo (C := ofL [c89]) (N := N81) (ts := [.tmp 4]) hT hm (by refine ofL_ok ?_; refine .cons o89 ?_; exact .nil) Tryz.func81 rfl rfl rfl rfl (by decide) rfl (by decide) ?_
  intro Rs ins out hL h; clear hL; cases h; rename_i h
  have uf := @X.cmp_Less_string.f.eq_1
  rw [uf] at h
  exact go
/-! slices_IsSorted_string_string -/
inductive F57 : List Rel → List (List TV) → List (List TV) × List (List TV) → Prop
  | mk (a0_0 r k) (h : X.slices_IsSorted_string_string.f k a0_0 = some r) : F57 [] [[⟨(.row 9 .str), a0_0⟩]] ([[⟨.bool, r⟩]], [])
abbrev c57 : Con := ⟨57, [.val false], [(false, [false])], false, F57⟩
abbrev N57 : Specs := ⟨[], ofS [(2, ⟨[0, 3], [], [], [], [0], [], []⟩)], ofS []⟩
inductive Q57 (r : (Bool)) : Nat → Nat → St → Prop
  | l0 (k x0 x3) (h : X.slices_IsSorted_string_string.l0 k x0 x3 = some r) : Q57 r 2 k (mkSt [(0, sv1 (.dat (.row 9 .str) x0)), (3, sv1 (.dat (.int .i64) x3))] [] [] [])
set_option maxHeartbeats 4000000 in
set_option maxRecDepth 100000 in
theorem o57 : GoodCon Tryz.prog c57 := by
  refine fo (C := ofL [c81]) (N := N57) (ts := [.tmp 2]) hT hm (by refine ofL_ok ?_; refine .cons o81 ?_; exact .nil) Tryz.func57 rfl rfl rfl rfl (by decide) rfl (by decide) ?_
  intro Rs ins out hL h; clear hL; cases h; rename_i a0_0 r k h
  let Q := Q57 r
  have u0 := @X.slices_IsSorted_string_string.l0.eq_2
  have uf := @X.slices_IsSorted_string_string.f.eq_1
  rw [uf] at h
  exact go
/-! slices_isNaN_string -/
inductive F93 : List Rel → List (List TV) → List (List TV) × List (List TV) → Prop
  | mk (a0_0 r) (h : X.slices_isNaN_string.f a0_0 = some r) : F93 [] [[⟨.str, a0_0⟩]] ([[⟨.bool, r⟩]], [])
abbrev c93 : Con := ⟨93, [.val false], [(false, [false])], false, F93⟩
abbrev N93 : Specs := ⟨[], ofS [], ofS []⟩
set_option maxHeartbeats 0 in
set_option maxRecDepth 100000 in
theorem o93 : GoodCon Tryz.prog c93 := by
  refine fo (C := ofL []) (N := N93) (ts := [.tmp 2]) hT hm (by refine ofL_ok ?_; exact .nil) Tryz.func93 rfl rfl rfl rfl (by decide) rfl (by decide) ?_
  intro Rs ins out hL h; clear hL; cases h; rename_i h
  have uf := @X.slices_isNaN_string.f.eq_1
  rw [uf] at h
  exact go
/-! slices_BinarySearch_string_string -/
inductive F83 : List Rel → List (List TV) → List (List TV) × List (List TV) → Prop
  | mk (a0_0 a1_0 r k) (h : X.slices_BinarySearch_string_string.f k a0_0 a1_0 = some r) : F83 [] [[⟨(.row 9 .str), a0_0⟩], [⟨.str, a1_0⟩]] ([[⟨(.int .i64), r.1⟩], [⟨.bool, r.2⟩]], [])
abbrev c83 : Con := ⟨83, [.val false, .val false], [(false, [false]), (false, [false])], false, F83⟩
abbrev N83 : Specs := ⟨[], ofS [(3, ⟨[0, 1, 6, 7, 8], [], [], [], [0], [], []⟩)], ofS []⟩
inductive Q83 (r : (Int × Bool)) : Nat → Nat → St → Prop
  | l0 (k x0 x1 x6 x7 x8) (h : X.slices_BinarySearch_string_string.l0 k x0 x1 x6 x7 x8 = some r) : Q83 r 3 k (mkSt [(0, sv1 (.dat (.row 9 .str) x0)), (1, sv1 (.dat .str x1)), (6, sv1 (.dat (.int .i64) x6)), (7, sv1 (.dat (.int .i64) x7)), (8, sv1 (.dat (.int .i64) x8))] [] [] [])
set_option maxHeartbeats 4000000 in
set_option maxRecDepth 100000 in
theorem o83 : GoodCon Tryz.prog c83 := by
  refine fo (C := ofL [c81, c93]) (N := N83) (ts := [.tmp 4, .tmp 5]) hT hm (by refine ofL_ok ?_; refine .cons o81 ?_; refine .cons o93 ?_; exact .nil) Tryz.func83 rfl rfl rfl rfl (by decide) rfl (by decide) ?_
  intro Rs ins out hL h; clear hL; cases h; rename_i a0_0 a1_0 r k h
  let Q := Q83 r
  have u0 := @X.slices_BinarySearch_string_string.l0.eq_2
  have uf := @X.slices_BinarySearch_string_string.f.eq_1
  rw [uf] at h
  exact go
/-! impl_trieOf -/
inductive F59 : List Rel → List (List TV) → List (List TV) × List (List TV) → Prop
  | mk (a0_0 r k) (h : X.impl_trieOf.f k a0_0 = some r) : F59 [] [[⟨(.row 9 .str), a0_0⟩]] ([[⟨(.row 65 (.pair (.int .i64) (.pair (.int .i64) .bool))), r⟩]], [])
abbrev c59 : Con := ⟨59, [.val false], [(true, [true])], false, F59⟩
abbrev N59 : Specs := ⟨[], ofS [(3, ⟨[0, 2, 3, 15, 16, 17], [(3, 1000000)], [], [2], [0, 15], [], []⟩), (6, ⟨[0, 2, 3, 5, 15, 16, 17, 22, 23], [(3, 1001000)], [], [2], [0, 15], [], []⟩), (14, ⟨[0, 2, 7, 8, 38, 39, 40, 41], [(39, 1002000)], [(7, 0, 1002500)], [2, 7], [0], [38], []⟩)], ofS []⟩
inductive Q59 (r : ((List (X.S65)))) : Nat → Nat → St → Prop
  | l0 (k x0 x3 x15 x16 x17) (h : X.impl_trieOf.l0 k x0 x3 x15 x16 x17 = some r) : Q59 r 3 k (mkSt [(0, sv1 (.dat (.row 9 .str) x0)), (2, sv1 (.ptr 2 0)), (3, sv1 (.own 1000000 0)), (15, sv1 (.dat (.row 9 .str) x15)), (16, sv1 (.dat (.int .i64) x16)), (17, sv1 (.dat (.int .i64) x17))] [(2, ⟨26, [.nil 65 (.pair (.int .i64) (.pair (.int .i64) .bool))]⟩)] [(1000000, ⟨9, .str, x3, 0⟩)] [])
  | l1 (k x0 x3 x5 x15 x16 x17 x22 x23) (h : X.impl_trieOf.l1 k x0 x3 x5 x15 x16 x17 x22 x23 = some r) : Q59 r 6 k (mkSt [(0, sv1 (.dat (.row 9 .str) x0)), (2, sv1 (.ptr 2 0)), (3, sv1 (.own 1001000 0)), (5, sv1 (.dat .str x5)), (15, sv1 (.dat (.row 9 .str) x15)), (16, sv1 (.dat (.int .i64) x16)), (17, sv1 (.dat (.int .i64) x17)), (22, sv1 (.dat (.int .i64) x22)), (23, sv1 (.dat (.int .i64) x23))] [(2, ⟨26, [.nil 65 (.pair (.int .i64) (.pair (.int .i64) .bool))]⟩)] [(1001000, ⟨9, .str, x3, 0⟩)] [])
  | l2 (k x0 x39 x40 x41 x500000 x501000) (h : X.impl_trieOf.l2 k x0 x39 x40 x41 x500000 x501000 = some r) : Q59 r 14 k (mkSt [(0, sv1 (.dat (.row 9 .str) x0)), (2, sv1 (.ptr 2 0)), (7, sv1 (.ptr 7 0)), (8, sv1 (.mp 38)), (38, sv1 (.mp 38)), (39, sv1 (.own 1002000 0)), (40, sv1 (.dat (.int .i64) x40)), (41, sv1 (.dat (.int .i64) x41))] [(2, ⟨26, [.nil 65 (.pair (.int .i64) (.pair (.int .i64) .bool))]⟩), (7, ⟨26, [.own 1002500 0]⟩)] [(1002000, ⟨9, .str, x39, 0⟩), (1002500, ⟨65, (.pair (.int .i64) (.pair (.int .i64) .bool)), x501000, 0⟩)] [(38, ⟨9, 3, x500000⟩)])
set_option maxHeartbeats 4000000 in
set_option maxRecDepth 100000 in
theorem o59 : GoodCon Tryz.prog c59 := by
  refine fo (C := ofL [c82, c83]) (N := N59) (ts := [.cell 2 26]) hT hm (by refine ofL_ok ?_; refine .cons o82 ?_; refine .cons o83 ?_; exact .nil) Tryz.func59 rfl rfl rfl rfl (by decide) rfl (by decide) ?_
  intro Rs ins out hL h; clear hL; cases h; rename_i a0_0 r k h
  let Q := Q59 r
  have u0 := @X.impl_trieOf.l0.eq_2
  have u1 := @X.impl_trieOf.l1.eq_2
  have u2 := @X.impl_trieOf.l2.eq_2
  have uf := @X.impl_trieOf.f.eq_1
  rw [uf] at h
  exact go
/-! impl_Node -/
inductive F58 : List Rel → List (List TV) → List (List TV) × List (List TV) → Prop
  | mk (a0_0 a1_0 r k) (h : X.impl_Node.f k a0_0 a1_0 = some r) : F58 [] [[⟨(.row 65 (.pair (.int .i64) (.pair (.int .i64) .bool))), a0_0⟩], [⟨(.row 65 (.pair (.int .i64) (.pair (.int .i64) .bool))), a1_0⟩]] ([[⟨.bool, r⟩]], [])
abbrev c58 : Con := ⟨58, [.val false, .val false], [(false, [false])], false, F58⟩
abbrev N58 : Specs := ⟨[], ofS [(4, ⟨[0, 1, 12, 13], [], [], [], [0, 1], [], []⟩)], ofS []⟩
inductive Q58 (r : (Bool)) : Nat → Nat → St → Prop
  | l0 (k x0 x1 x12 x13) (h : X.impl_Node.l0 k x0 x1 x12 x13 = some r) : Q58 r 4 k (mkSt [(0, sv1 (.dat (.row 65 (.pair (.int .i64) (.pair (.int .i64) .bool))) x0)), (1, sv1 (.dat (.row 65 (.pair (.int .i64) (.pair (.int .i64) .bool))) x1)), (12, sv1 (.dat (.int .i64) x12)), (13, sv1 (.dat (.int .i64) x13))] [] [] [])
set_option maxHeartbeats 4000000 in
set_option maxRecDepth 100000 in
theorem o58 : GoodCon Tryz.prog c58 := by
  refine fo (C := ofL []) (N := N58) (ts := [.tmp 4]) hT hm (by refine ofL_ok ?_; exact .nil) Tryz.func58 rfl rfl rfl rfl (by decide) rfl (by decide) ?_
  intro Rs ins out hL h; clear hL; cases h; rename_i a0_0 a1_0 r k h
  let Q := Q58 r
  have u0 := @X.impl_Node.l0.eq_2
  have uf := @X.impl_Node.f.eq_1
  rw [uf] at h
  exact go
/-! impl_isTrie -/
inductive F30 : List Rel → List (List TV) → List (List TV) × List (List TV) → Prop
  | mk (a0_0 r k) (h : X.impl_isTrie.f k a0_0 = some r) : F30 [] [[⟨(.row 65 (.pair (.int .i64) (.pair (.int .i64) .bool))), a0_0⟩]] ([[⟨.bool, r⟩]], [])
abbrev c30 : Con := ⟨30, [.val true], [(false, [false])], false, F30⟩
abbrev N30 : Specs := ⟨[], ofS [], ofS [(100016, ⟨[1, 16], [], [], [1], [], [], []⟩)]⟩
inductive Q30 (r : (Bool)) : Nat → Nat → St → Prop
  | j0 (k x16 x513000) (h : X.impl_isTrie.j0 k x16 x513000 = some r) : Q30 r 100016 k (mkSt [(1, sv1 (.ptr 1 0)), (16, sv1 (.dat .bool x16))] [(1, ⟨26, [.dat (.row 65 (.pair (.int .i64) (.pair (.int .i64) .bool))) x513000]⟩)] [] [])
set_option maxHeartbeats 4000000 in
set_option maxRecDepth 100000 in
theorem o30 : GoodCon Tryz.prog c30 := by
  refine fo (C := ofL [c55, c56, c40, c32, c57, c59, c58]) (N := N30) (ts := [.tmp 2]) hT hm (by refine ofL_ok ?_; refine .cons o55 ?_; refine .cons o56 ?_; refine .cons o40 ?_; refine .cons o32 ?_; refine .cons o57 ?_; refine .cons o59 ?_; refine .cons o58 ?_; exact .nil) Tryz.func30 rfl rfl rfl rfl (by decide) rfl (by decide) ?_
  intro Rs ins out hL h; clear hL; cases h; rename_i a0_0 r k h
  let Q := Q30 r
  have u0 := @X.impl_isTrie.j0.eq_2
  have uf := @X.impl_isTrie.f.eq_1
  rw [uf] at h
  exact go
/-! impl_areLetters -/
inductive F87 : List Rel → List (List TV) → List (List TV) × List (List TV) → Prop
  | mk (a0_0 r) (h : X.impl_areLetters.f a0_0 = some r) : F87 [] [[⟨.str, a0_0⟩]] ([[⟨.bool, r⟩]], [])
abbrev c87 : Con := ⟨87, [.val false], [(false, [false])], false, F87⟩
abbrev N87 : Specs := ⟨[], ofS [], ofS []⟩
set_option maxHeartbeats 0 in
set_option maxRecDepth 100000 in
theorem o87 : GoodCon Tryz.prog c87 := by
  refine fo (C := ofL [c94]) (N := N87) (ts := [.tmp 2]) hT hm (by refine ofL_ok ?_; refine .cons o94 ?_; exact .nil) Tryz.func87 rfl rfl rfl rfl (by decide) rfl (by decide) ?_
  intro Rs ins out hL h; clear hL; cases h; rename_i h
  have uf := @X.impl_areLetters.f.eq_1
  rw [uf] at h
  exact go
/-! impl_isWord -/
inductive F68 : List Rel → List (List TV) → List (List TV) × List (List TV) → Prop
  | mk (a0_0 r) (h : X.impl_isWord.f a0_0 = some r) : F68 [] [[⟨.str, a0_0⟩]] ([[⟨.bool, r⟩]], [])
abbrev c68 : Con := ⟨68, [.val false], [(false, [false])], false, F68⟩
abbrev N68 : Specs := ⟨[], ofS [], ofS []⟩
set_option maxHeartbeats 0 in
set_option maxRecDepth 100000 in
theorem o68 : GoodCon Tryz.prog c68 := by
  refine fo (C := ofL [c87]) (N := N68) (ts := [.tmp 2]) hT hm (by refine ofL_ok ?_; refine .cons o87 ?_; exact .nil) Tryz.func68 rfl rfl rfl rfl (by decide) rfl (by decide) ?_
  intro Rs ins out hL h; clear hL; cases h; rename_i h
  have uf := @X.impl_isWord.f.eq_1
  rw [uf] at h
  exact go
/-! impl_TrieOf_1 -/
inductive F84 : List Rel → List (List TV) → List (List TV) × List (List TV) → Prop
  | mk (a0_0 r) (h : X.impl_TrieOf_1.f a0_0 = some r) : F84 [] [[⟨.str, a0_0⟩]] ([[⟨.bool, r⟩]], [])
abbrev c84 : Con := ⟨84, [.val false], [(false, [false])], false, F84⟩
abbrev N84 : Specs := ⟨[], ofS [], ofS []⟩
set_option maxHeartbeats 0 in
set_option maxRecDepth 100000 in
theorem o84 : GoodCon Tryz.prog c84 := by
  refine fo (C := ofL [c68]) (N := N84) (ts := [.tmp 2]) hT hm (by refine ofL_ok ?_; refine .cons o68 ?_; exact .nil) Tryz.func84 rfl rfl rfl rfl (by decide) rfl (by decide) ?_
  intro Rs ins out hL h; clear hL; cases h; rename_i h
  have uf := @X.impl_TrieOf_1.f.eq_1
  rw [uf] at h
  exact go
/-! impl_ofWords -/
inductive F85 : List Rel → List (List TV) → List (List TV) × List (List TV) → Prop
  | mk (a0_0 r k) (h : X.impl_ofWords.f k a0_0 = some r) : F85 [] [[⟨(.row 9 .str), a0_0⟩]] ([[⟨(.row 65 (.pair (.int .i64) (.pair (.int .i64) .bool))), r.1⟩], [⟨.bool, r.2⟩]], [])
abbrev c85 : Con := ⟨85, [.val false], [(true, [true]), (false, [false])], false, F85⟩
abbrev N85 : Specs := ⟨[], ofS [], ofS []⟩
set_option maxHeartbeats 0 in
set_option maxRecDepth 100000 in
theorem o85 : GoodCon Tryz.prog c85 := by
  refine fo (C := ofL [c82, c59]) (N := N85) (ts := [.cell 2 26, .tmp 3]) hT hm (by refine ofL_ok ?_; refine .cons o82 ?_; refine .cons o59 ?_; exact .nil) Tryz.func85 rfl rfl rfl rfl (by decide) rfl (by decide) ?_
  intro Rs ins out hL h; clear hL; cases h; rename_i k h
  have uf := @X.impl_ofWords.f.eq_1
  rw [uf] at h
  exact go
/-! impl_TrieOf -/
inductive F60 : List Rel → List (List TV) → List (List TV) × List (List TV) → Prop
  | mk (a0_0 r k) (h : X.impl_TrieOf.f k a0_0 = some r) : F60 [] [[⟨(.row 9 .str), a0_0⟩]] ([[⟨(.row 65 (.pair (.int .i64) (.pair (.int .i64) .bool))), r.1⟩], [⟨.bool, r.2⟩]], [])
abbrev c60 : Con := ⟨60, [.val false], [(true, [true]), (false, [false])], false, F60⟩
abbrev N60 : Specs := ⟨[], ofS [], ofS []⟩
set_option maxHeartbeats 0 in
set_option maxRecDepth 100000 in
theorem o60 : GoodCon Tryz.prog c60 := by
  refine fo (C := ofL [c84, c40, c85]) (N := N60) (ts := [.cell 2 26, .tmp 3]) hT hm (by refine ofL_ok ?_; refine .cons o84 ?_; refine .cons o40 ?_; refine .cons o85 ?_; exact .nil) Tryz.func60 rfl rfl rfl rfl (by decide) rfl (by decide) ?_
  intro Rs ins out hL h; clear hL; cases h; rename_i k h
  have uf := @X.impl_TrieOf.f.eq_1
  rw [uf] at h
  exact go
/-! impl_madeOf -/
inductive F31 : List Rel → List (List TV) → List (List TV) × List (List TV) → Prop
  | mk (a0_0 r k) (h : X.impl_madeOf.f k a0_0 = some r) : F31 [] [[⟨(.row 9 .str), a0_0⟩]] ([[⟨(.row 65 (.pair (.int .i64) (.pair (.int .i64) .bool))), r.1⟩], [⟨.bool, r.2⟩]], [])
abbrev c31 : Con := ⟨31, [.val false], [(true, [true]), (false, [false])], false, F31⟩
abbrev N31 : Specs := ⟨[], ofS [], ofS []⟩
set_option maxHeartbeats 0 in
set_option maxRecDepth 100000 in
theorem o31 : GoodCon Tryz.prog c31 := by
  refine fo (C := ofL [c60]) (N := N31) (ts := [.cell 2 26, .tmp 3]) hT hm (by refine ofL_ok ?_; refine .cons o60 ?_; exact .nil) Tryz.func31 rfl rfl rfl rfl (by decide) rfl (by decide) ?_
  intro Rs ins out hL h; clear hL; cases h; rename_i k h
  have uf := @X.impl_madeOf.f.eq_1
  rw [uf] at h
  exact go
/-! impl_JoinTries -/
inductive F6 : List Rel → List (List TV) → List (List TV) × List (List TV) → Prop
  | mk (a0_0 a1_0 r k) (h : X.impl_JoinTries.f k a0_0 a1_0 = some r) : F6 [] [[⟨(.row 65 (.pair (.int .i64) (.pair (.int .i64) .bool))), a0_0⟩], [⟨(.row 65 (.pair (.int .i64) (.pair (.int .i64) .bool))), a1_0⟩]] ([[⟨(.row 65 (.pair (.int .i64) (.pair (.int .i64) .bool))), r.1⟩], [⟨.bool, r.2⟩]], [])
abbrev c6 : Con := ⟨6, [.val true, .val true], [(true, [true]), (false, [false])], false, F6⟩
abbrev N6 : Specs := ⟨[], ofS [], ofS [(100013, ⟨[2, 3, 4, 13], [], [], [2, 3, 4], [], [], []⟩)]⟩
inductive Q6 (r : ((List (X.S65)) × Bool)) : Nat → Nat → St → Prop
  | j0 (k x13 x548000 x549000) (h : X.impl_JoinTries.j0 k x13 x548000 x549000 = some r) : Q6 r 100013 k (mkSt [(2, sv1 (.ptr 2 0)), (3, sv1 (.ptr 3 0)), (4, sv1 (.ptr 4 0)), (13, sv1 (.dat .bool x13))] [(2, ⟨26, [.dat (.row 65 (.pair (.int .i64) (.pair (.int .i64) .bool))) x548000]⟩), (3, ⟨26, [.dat (.row 65 (.pair (.int .i64) (.pair (.int .i64) .bool))) x549000]⟩), (4, ⟨26, [.nil 65 (.pair (.int .i64) (.pair (.int .i64) .bool))]⟩)] [] [])
set_option maxHeartbeats 4000000 in
set_option maxRecDepth 100000 in
theorem o6 : GoodCon Tryz.prog c6 := by
  refine fo (C := ofL [c30, c32, c31]) (N := N6) (ts := [.cell 4 26, .tmp 5]) hT hm (by refine ofL_ok ?_; refine .cons o30 ?_; refine .cons o32 ?_; refine .cons o31 ?_; exact .nil) Tryz.func6 rfl rfl rfl rfl (by decide) rfl (by decide) ?_
  intro Rs ins out hL h; clear hL; cases h; rename_i a0_0 a1_0 r k h
  let Q := Q6 r
  have u0 := @X.impl_JoinTries.j0.eq_2
  have uf := @X.impl_JoinTries.f.eq_1
  rw [uf] at h
  exact go
/-! spec_l5Made -/
inductive F34 : List Rel → List (List TV) → List (List TV) × List (List TV) → Prop
  | mk (a0_0 r k) (h : X.spec_l5Made.f k a0_0 = some r) : F34 [] [[⟨(.row 9 .str), a0_0⟩]] ([[⟨(.row 65 (.pair (.int .i64) (.pair (.int .i64) .bool))), r.1⟩], [⟨.bool, r.2⟩]], [])
abbrev c34 : Con := ⟨34, [.val false], [(true, [true]), (false, [false])], false, F34⟩
abbrev N34 : Specs := ⟨[], ofS [], ofS []⟩
set_option maxHeartbeats 0 in
set_option maxRecDepth 100000 in
theorem o34 : GoodCon Tryz.prog c34 := by
  refine fo (C := ofL [c52, c51]) (N := N34) (ts := [.cell 2 26, .tmp 3]) hT hm (by refine ofL_ok ?_; refine .cons o52 ?_; refine .cons o51 ?_; exact .nil) Tryz.func34 rfl rfl rfl rfl (by decide) rfl (by decide) ?_
  intro Rs ins out hL h; clear hL; cases h; rename_i k h
  have uf := @X.spec_l5Made.f.eq_1
  rw [uf] at h
  exact go
/-! spec_JoinTries -/
inductive F7 : List Rel → List (List TV) → List (List TV) × List (List TV) → Prop
  | mk (a0_0 a1_0 r k) (h : X.spec_JoinTries.f k a0_0 a1_0 = some r) : F7 [] [[⟨(.row 65 (.pair (.int .i64) (.pair (.int .i64) .bool))), a0_0⟩], [⟨(.row 65 (.pair (.int .i64) (.pair (.int .i64) .bool))), a1_0⟩]] ([[⟨(.row 65 (.pair (.int .i64) (.pair (.int .i64) .bool))), r.1⟩], [⟨.bool, r.2⟩]], [])
abbrev c7 : Con := ⟨7, [.val true, .val true], [(true, [true]), (false, [false])], false, F7⟩
abbrev N7 : Specs := ⟨[], ofS [], ofS []⟩
set_option maxHeartbeats 0 in
set_option maxRecDepth 100000 in
theorem o7 : GoodCon Tryz.prog c7 := by
  refine fo (C := ofL [c33, c35, c34]) (N := N7) (ts := [.cell 4 26, .tmp 5]) hT hm (by refine ofL_ok ?_; refine .cons o33 ?_; refine .cons o35 ?_; refine .cons o34 ?_; exact .nil) Tryz.func7 rfl rfl rfl rfl (by decide) rfl (by decide) ?_
  intro Rs ins out hL h; clear hL; cases h; rename_i k h
  have uf := @X.spec_JoinTries.f.eq_1
  rw [uf] at h
  exact go
/-! slices_Index_string_string -/
inductive F86 : List Rel → List (List TV) → List (List TV) × List (List TV) → Prop
  | mk (a0_0 a1_0 r k) (h : X.slices_Index_string_string.f k a0_0 a1_0 = some r) : F86 [] [[⟨(.row 9 .str), a0_0⟩], [⟨.str, a1_0⟩]] ([[⟨(.int .i64), r⟩]], [])
abbrev c86 : Con := ⟨86, [.val false, .val false], [(false, [false])], false, F86⟩
abbrev N86 : Specs := ⟨[], ofS [(2, ⟨[0, 1, 7, 8], [], [], [], [0], [], []⟩)], ofS []⟩
inductive Q86 (r : (Int)) : Nat → Nat → St → Prop
  | l0 (k x0 x1 x7 x8) (h : X.slices_Index_string_string.l0 k x0 x1 x7 x8 = some r) : Q86 r 2 k (mkSt [(0, sv1 (.dat (.row 9 .str) x0)), (1, sv1 (.dat .str x1)), (7, sv1 (.dat (.int .i64) x7)), (8, sv1 (.dat (.int .i64) x8))] [] [] [])
set_option maxHeartbeats 4000000 in
set_option maxRecDepth 100000 in
theorem o86 : GoodCon Tryz.prog c86 := by
  refine fo (C := ofL []) (N := N86) (ts := [.tmp 4]) hT hm (by refine ofL_ok ?_; exact .nil) Tryz.func86 rfl rfl rfl rfl (by decide) rfl (by decide) ?_
  intro Rs ins out hL h; clear hL; cases h; rename_i a0_0 a1_0 r k h
  let Q := Q86 r
  have u0 := @X.slices_Index_string_string.l0.eq_2
  have uf := @X.slices_Index_string_string.f.eq_1
  rw [uf] at h
  exact go
/-! slices_Contains_string_string -/
inductive F64 : List Rel → List (List TV) → List (List TV) × List (List TV) → Prop
  | mk (a0_0 a1_0 r k) (h : X.slices_Contains_string_string.f k a0_0 a1_0 = some r) : F64 [] [[⟨(.row 9 .str), a0_0⟩], [⟨.str, a1_0⟩]] ([[⟨.bool, r⟩]], [])
abbrev c64 : Con := ⟨64, [.val false, .val false], [(false, [false])], false, F64⟩
abbrev N64 : Specs := ⟨[], ofS [], ofS []⟩
set_option maxHeartbeats 0 in
set_option maxRecDepth 100000 in
theorem o64 : GoodCon Tryz.prog c64 := by
  refine fo (C := ofL [c86]) (N := N64) (ts := [.tmp 4]) hT hm (by refine ofL_ok ?_; refine .cons o86 ?_; exact .nil) Tryz.func64 rfl rfl rfl rfl (by decide) rfl (by decide) ?_
  intro Rs ins out hL h; clear hL; cases h; rename_i k h
  have uf := @X.slices_Contains_string_string.f.eq_1
  rw [uf] at h
  exact go
/-! impl_Trie_has -/
inductive F37 : List Rel → List (List TV) → List (List TV) × List (List TV) → Prop
  | mk (a0_0 a1_0 r k) (h : X.impl_Trie_has.f k a0_0 a1_0 = some r) : F37 [] [[⟨(.row 65 (.pair (.int .i64) (.pair (.int .i64) .bool))), a0_0⟩], [⟨.str, a1_0⟩]] ([[⟨.bool, r⟩]], [])
abbrev c37 : Con := ⟨37, [.val true, .val false], [(false, [false])], false, F37⟩
abbrev N37 : Specs := ⟨[], ofS [], ofS []⟩
set_option maxHeartbeats 0 in
set_option maxRecDepth 100000 in
theorem o37 : GoodCon Tryz.prog c37 := by
  refine fo (C := ofL [c32, c64]) (N := N37) (ts := [.tmp 4]) hT hm (by refine ofL_ok ?_; refine .cons o32 ?_; refine .cons o64 ?_; exact .nil) Tryz.func37 rfl rfl rfl rfl (by decide) rfl (by decide) ?_
  intro Rs ins out hL h; clear hL; cases h; rename_i k h
  have uf := @X.impl_Trie_has.f.eq_1
  rw [uf] at h
  exact go
/-! impl_Trie_chosen_1 -/
inductive F63 : List Rel → List (List TV) → List (List TV) × List (List TV) → Prop
  | mk (a0_0 a1_0 r) (h : X.impl_Trie_chosen_1.f a0_0 a1_0 = some r) : F63 [rel58 a1_0] [[⟨.str, a0_0⟩]] ([[⟨.bool, r⟩]], [])
abbrev c63 : Con := ⟨63, [.val false, .rdf sg58], [(false, [false])], false, F63⟩
abbrev N63 : Specs := ⟨[], ofS [], ofS []⟩
set_option maxHeartbeats 0 in
set_option maxRecDepth 100000 in
theorem o63 : GoodCon Tryz.prog c63 := by
  refine fo (C := ofL []) (N := N63) (ts := [.tmp 3]) hT hm (by refine ofL_ok ?_; exact .nil) Tryz.func63 rfl rfl rfl rfl (by decide) rfl (by decide) ?_
  intro Rs ins out hL h; clear hL; cases h; rename_i h
  have uf := @X.impl_Trie_chosen_1.f.eq_1
  rw [uf] at h
  exact go
/-! impl_Trie_chosen -/
inductive F36 : List Rel → List (List TV) → List (List TV) × List (List TV) → Prop
  | mk (a0_0 a1 r k) (h : X.impl_Trie_chosen.f k a0_0 a1 = some r) : F36 [rel58 a1] [[⟨(.row 65 (.pair (.int .i64) (.pair (.int .i64) .bool))), a0_0⟩]] ([[⟨(.row 65 (.pair (.int .i64) (.pair (.int .i64) .bool))), r⟩]], [])
abbrev c36 : Con := ⟨36, [.val true, .fn sg58], [(true, [true])], false, F36⟩
abbrev N36 : Specs := ⟨[], ofS [], ofS []⟩
set_option maxHeartbeats 0 in
set_option maxRecDepth 100000 in
theorem o36 : GoodCon Tryz.prog c36 := by
  refine fo (C := ofL [c32, c63, c62, c59]) (N := N36) (ts := [.cell 4 26]) hT hm (by refine ofL_ok ?_; refine .cons o32 ?_; refine .cons o63 ?_; refine .cons o62 ?_; refine .cons o59 ?_; exact .nil) Tryz.func36 rfl rfl rfl rfl (by decide) rfl (by decide) ?_
  intro Rs ins out hL h; clear hL; cases h; rename_i k h
  have uf := @X.impl_Trie_chosen.f.eq_1
  rw [uf] at h
  exact go
/-! impl_MeetTries -/
inductive F8 : List Rel → List (List TV) → List (List TV) × List (List TV) → Prop
  | mk (a0_0 a1_0 r k) (h : X.impl_MeetTries.f k a0_0 a1_0 = some r) : F8 [] [[⟨(.row 65 (.pair (.int .i64) (.pair (.int .i64) .bool))), a0_0⟩], [⟨(.row 65 (.pair (.int .i64) (.pair (.int .i64) .bool))), a1_0⟩]] ([[⟨(.row 65 (.pair (.int .i64) (.pair (.int .i64) .bool))), r.1⟩], [⟨.bool, r.2⟩]], [])
abbrev c8 : Con := ⟨8, [.val true, .val true], [(true, [true]), (false, [false])], false, F8⟩
abbrev N8 : Specs := ⟨[], ofS [], ofS []⟩
set_option maxHeartbeats 0 in
set_option maxRecDepth 100000 in
theorem o8 : GoodCon Tryz.prog c8 := by
  refine fo (C := ofL [c30, c37, c36]) (N := N8) (ts := [.cell 4 26, .tmp 5]) hT hm (by refine ofL_ok ?_; refine .cons o30 ?_; refine .cons o37 ?_; refine .cons o36 ?_; exact .nil) Tryz.func8 rfl rfl rfl rfl (by decide) rfl (by decide) ?_
  intro Rs ins out hL h; clear hL; cases h; rename_i k h
  have uf := @X.impl_MeetTries.f.eq_1
  rw [uf] at h
  exact go
/-! spec_l5Those -/
inductive F38 : List Rel → List (List TV) → List (List TV) × List (List TV) → Prop
  | mk (a0_0 a1_0 a2_0 r k) (h : X.spec_l5Those.f k a0_0 a1_0 a2_0 = some r) : F38 [] [[⟨(.row 9 .str), a0_0⟩], [⟨(.row 9 .str), a1_0⟩], [⟨.bool, a2_0⟩]] ([[⟨(.row 9 .str), r⟩]], [])
abbrev c38 : Con := ⟨38, [.val false, .val false, .val false], [(false, [true])], false, F38⟩
abbrev N38 : Specs := ⟨[], ofS [(3, ⟨[0, 1, 2, 6, 7, 8], [(7, 1000000)], [], [], [0, 1], [], []⟩)], ofS []⟩
inductive Q38 (r : (List ByteArray)) : Nat → Nat → St → Prop
  | l0 (k x0 x1 x2 x7 x8) (h : X.spec_l5Those.l0 k x0 x1 x2 x7 x8 = some r) : Q38 r 3 k (mkSt [(0, sv1 (.dat (.row 9 .str) x0)), (1, sv1 (.dat (.row 9 .str) x1)), (2, sv1 (.dat .bool x2)), (6, sv1 (.nil 9 .str)), (7, sv1 (.own 1000000 0)), (8, sv1 (.dat (.int .i64) x8))] [] [(1000000, ⟨9, .str, x7, 0⟩)] [])
set_option maxHeartbeats 4000000 in
set_option maxRecDepth 100000 in
theorem o38 : GoodCon Tryz.prog c38 := by
  refine fo (C := ofL [c65]) (N := N38) (ts := [.tmp 6]) hT hm (by refine ofL_ok ?_; refine .cons o65 ?_; exact .nil) Tryz.func38 rfl rfl rfl rfl (by decide) rfl (by decide) ?_
  intro Rs ins out hL h; clear hL; cases h; rename_i a0_0 a1_0 a2_0 r k h
  let Q := Q38 r
  have u0 := @X.spec_l5Those.l0.eq_2
  have uf := @X.spec_l5Those.f.eq_1
  rw [uf] at h
  exact go
/-! spec_MeetTries -/
inductive F9 : List Rel → List (List TV) → List (List TV) × List (List TV) → Prop
  | mk (a0_0 a1_0 r k) (h : X.spec_MeetTries.f k a0_0 a1_0 = some r) : F9 [] [[⟨(.row 65 (.pair (.int .i64) (.pair (.int .i64) .bool))), a0_0⟩], [⟨(.row 65 (.pair (.int .i64) (.pair (.int .i64) .bool))), a1_0⟩]] ([[⟨(.row 65 (.pair (.int .i64) (.pair (.int .i64) .bool))), r.1⟩], [⟨.bool, r.2⟩]], [])
abbrev c9 : Con := ⟨9, [.val true, .val true], [(true, [true]), (false, [false])], false, F9⟩
abbrev N9 : Specs := ⟨[], ofS [], ofS []⟩
set_option maxHeartbeats 0 in
set_option maxRecDepth 100000 in
theorem o9 : GoodCon Tryz.prog c9 := by
  refine fo (C := ofL [c33, c35, c38, c34]) (N := N9) (ts := [.cell 4 26, .tmp 5]) hT hm (by refine ofL_ok ?_; refine .cons o33 ?_; refine .cons o35 ?_; refine .cons o38 ?_; refine .cons o34 ?_; exact .nil) Tryz.func9 rfl rfl rfl rfl (by decide) rfl (by decide) ?_
  intro Rs ins out hL h; clear hL; cases h; rename_i k h
  have uf := @X.spec_MeetTries.f.eq_1
  rw [uf] at h
  exact go
/-! impl_WithoutTrie_1 -/
inductive F39 : List Rel → List (List TV) → List (List TV) × List (List TV) → Prop
  | mk (a0_0 a1_0 r k) (h : X.impl_WithoutTrie_1.f k a0_0 a1_0 = some r) : F39 [] [[⟨.str, a0_0⟩], [⟨(.row 65 (.pair (.int .i64) (.pair (.int .i64) .bool))), a1_0⟩]] ([[⟨.bool, r⟩]], [])
abbrev c39 : Con := ⟨39, [.val false, .rd (.row 65 (.pair (.int .i64) (.pair (.int .i64) .bool)))], [(false, [false])], false, F39⟩
abbrev N39 : Specs := ⟨[], ofS [], ofS []⟩
set_option maxHeartbeats 0 in
set_option maxRecDepth 100000 in
theorem o39 : GoodCon Tryz.prog c39 := by
  refine fo (C := ofL [c37]) (N := N39) (ts := [.tmp 3]) hT hm (by refine ofL_ok ?_; refine .cons o37 ?_; exact .nil) Tryz.func39 rfl rfl rfl rfl (by decide) rfl (by decide) ?_
  intro Rs ins out hL h; clear hL; cases h; rename_i k h
  have uf := @X.impl_WithoutTrie_1.f.eq_1
  rw [uf] at h
  exact go
/-! impl_WithoutTrie -/
inductive F10 : List Rel → List (List TV) → List (List TV) × List (List TV) → Prop
  | mk (a0_0 a1_0 r k) (h : X.impl_WithoutTrie.f k a0_0 a1_0 = some r) : F10 [] [[⟨(.row 65 (.pair (.int .i64) (.pair (.int .i64) .bool))), a0_0⟩], [⟨(.row 65 (.pair (.int .i64) (.pair (.int .i64) .bool))), a1_0⟩]] ([[⟨(.row 65 (.pair (.int .i64) (.pair (.int .i64) .bool))), r.1⟩], [⟨.bool, r.2⟩]], [])
abbrev c10 : Con := ⟨10, [.val true, .val true], [(true, [true]), (false, [false])], false, F10⟩
abbrev N10 : Specs := ⟨[], ofS [], ofS []⟩
set_option maxHeartbeats 0 in
set_option maxRecDepth 100000 in
theorem o10 : GoodCon Tryz.prog c10 := by
  refine fo (C := ofL [c30, c39, c36]) (N := N10) (ts := [.cell 4 26, .tmp 5]) hT hm (by refine ofL_ok ?_; refine .cons o30 ?_; refine .cons o39 ?_; refine .cons o36 ?_; exact .nil) Tryz.func10 rfl rfl rfl rfl (by decide) rfl (by decide) ?_
  intro Rs ins out hL h; clear hL; cases h; rename_i k h
  have uf := @X.impl_WithoutTrie.f.eq_1
  rw [uf] at h
  exact go
/-! spec_WithoutTrie -/
inductive F11 : List Rel → List (List TV) → List (List TV) × List (List TV) → Prop
  | mk (a0_0 a1_0 r k) (h : X.spec_WithoutTrie.f k a0_0 a1_0 = some r) : F11 [] [[⟨(.row 65 (.pair (.int .i64) (.pair (.int .i64) .bool))), a0_0⟩], [⟨(.row 65 (.pair (.int .i64) (.pair (.int .i64) .bool))), a1_0⟩]] ([[⟨(.row 65 (.pair (.int .i64) (.pair (.int .i64) .bool))), r.1⟩], [⟨.bool, r.2⟩]], [])
abbrev c11 : Con := ⟨11, [.val true, .val true], [(true, [true]), (false, [false])], false, F11⟩
abbrev N11 : Specs := ⟨[], ofS [], ofS []⟩
set_option maxHeartbeats 0 in
set_option maxRecDepth 100000 in
theorem o11 : GoodCon Tryz.prog c11 := by
  refine fo (C := ofL [c33, c35, c38, c34]) (N := N11) (ts := [.cell 4 26, .tmp 5]) hT hm (by refine ofL_ok ?_; refine .cons o33 ?_; refine .cons o35 ?_; refine .cons o38 ?_; refine .cons o34 ?_; exact .nil) Tryz.func11 rfl rfl rfl rfl (by decide) rfl (by decide) ?_
  intro Rs ins out hL h; clear hL; cases h; rename_i k h
  have uf := @X.spec_WithoutTrie.f.eq_1
  rw [uf] at h
  exact go
/-! impl_TimesTrie -/
inductive F12 : List Rel → List (List TV) → List (List TV) × List (List TV) → Prop
  | mk (a0_0 a1_0 r k) (h : X.impl_TimesTrie.f k a0_0 a1_0 = some r) : F12 [] [[⟨(.row 65 (.pair (.int .i64) (.pair (.int .i64) .bool))), a0_0⟩], [⟨(.row 65 (.pair (.int .i64) (.pair (.int .i64) .bool))), a1_0⟩]] ([[⟨(.row 65 (.pair (.int .i64) (.pair (.int .i64) .bool))), r.1⟩], [⟨.bool, r.2⟩]], [])
abbrev c12 : Con := ⟨12, [.val true, .val true], [(true, [true]), (false, [false])], false, F12⟩
abbrev N12 : Specs := ⟨[], ofS [(5, ⟨[3, 4, 6, 22, 23, 24], [(6, 1001000), (22, 1001001)], [], [3, 4], [], [], []⟩), (8, ⟨[3, 4, 6, 8, 22, 23, 24, 29, 30, 31], [(6, 1002000), (22, 1002001), (29, 1002002)], [], [3, 4], [], [], []⟩)], ofS [(100018, ⟨[2, 3, 4, 18], [], [], [2, 3, 4], [], [], []⟩)]⟩
inductive Q12 (r : ((List (X.S65)) × Bool)) : Nat → Nat → St → Prop
  | j0 (k x18 x673000 x674000) (h : X.impl_TimesTrie.j0 k x18 x673000 x674000 = some r) : Q12 r 100018 k (mkSt [(2, sv1 (.ptr 2 0)), (3, sv1 (.ptr 3 0)), (4, sv1 (.ptr 4 0)), (18, sv1 (.dat .bool x18))] [(2, ⟨26, [.dat (.row 65 (.pair (.int .i64) (.pair (.int .i64) .bool))) x673000]⟩), (3, ⟨26, [.dat (.row 65 (.pair (.int .i64) (.pair (.int .i64) .bool))) x674000]⟩), (4, ⟨26, [.nil 65 (.pair (.int .i64) (.pair (.int .i64) .bool))]⟩)] [] [])
  | l0 (k x6 x22 x23 x24 x674000) (h : X.impl_TimesTrie.l0 k x6 x22 x23 x24 x674000 = some r) : Q12 r 5 k (mkSt [(3, sv1 (.ptr 3 0)), (4, sv1 (.ptr 4 0)), (6, sv1 (.own 1001000 0)), (22, sv1 (.own 1001001 0)), (23, sv1 (.dat (.int .i64) x23)), (24, sv1 (.dat (.int .i64) x24))] [(3, ⟨26, [.dat (.row 65 (.pair (.int .i64) (.pair (.int .i64) .bool))) x674000]⟩), (4, ⟨26, [.nil 65 (.pair (.int .i64) (.pair (.int .i64) .bool))]⟩)] [(1001000, ⟨9, .str, x6, 0⟩), (1001001, ⟨9, .str, x22, 0⟩)] [])
  | l1 (k x6 x8 x22 x23 x24 x29 x30 x31 x674000) (h : X.impl_TimesTrie.l1 k x6 x8 x22 x23 x24 x29 x30 x31 x674000 = some r) : Q12 r 8 k (mkSt [(3, sv1 (.ptr 3 0)), (4, sv1 (.ptr 4 0)), (6, sv1 (.own 1002000 0)), (8, sv1 (.dat .str x8)), (22, sv1 (.own 1002001 0)), (23, sv1 (.dat (.int .i64) x23)), (24, sv1 (.dat (.int .i64) x24)), (29, sv1 (.own 1002002 0)), (30, sv1 (.dat (.int .i64) x30)), (31, sv1 (.dat (.int .i64) x31))] [(3, ⟨26, [.dat (.row 65 (.pair (.int .i64) (.pair (.int .i64) .bool))) x674000]⟩), (4, ⟨26, [.nil 65 (.pair (.int .i64) (.pair (.int .i64) .bool))]⟩)] [(1002000, ⟨9, .str, x6, 0⟩), (1002001, ⟨9, .str, x22, 0⟩), (1002002, ⟨9, .str, x29, 0⟩)] [])
set_option maxHeartbeats 4000000 in
set_option maxRecDepth 100000 in
theorem o12 : GoodCon Tryz.prog c12 := by
  refine fo (C := ofL [c30, c32, c31]) (N := N12) (ts := [.cell 4 26, .tmp 5]) hT hm (by refine ofL_ok ?_; refine .cons o30 ?_; refine .cons o32 ?_; refine .cons o31 ?_; exact .nil) Tryz.func12 rfl rfl rfl rfl (by decide) rfl (by decide) ?_
  intro Rs ins out hL h; clear hL; cases h; rename_i a0_0 a1_0 r k h
  let Q := Q12 r
  have u0 := @X.impl_TimesTrie.j0.eq_2
  have u1 := @X.impl_TimesTrie.l0.eq_2
  have u2 := @X.impl_TimesTrie.l1.eq_2
  have uf := @X.impl_TimesTrie.f.eq_1
  rw [uf] at h
  exact go
/-! spec_TimesTrie -/
inductive F13 : List Rel → List (List TV) → List (List TV) × List (List TV) → Prop
  | mk (a0_0 a1_0 r k) (h : X.spec_TimesTrie.f k a0_0 a1_0 = some r) : F13 [] [[⟨(.row 65 (.pair (.int .i64) (.pair (.int .i64) .bool))), a0_0⟩], [⟨(.row 65 (.pair (.int .i64) (.pair (.int .i64) .bool))), a1_0⟩]] ([[⟨(.row 65 (.pair (.int .i64) (.pair (.int .i64) .bool))), r.1⟩], [⟨.bool, r.2⟩]], [])
abbrev c13 : Con := ⟨13, [.val true, .val true], [(true, [true]), (false, [false])], false, F13⟩
abbrev N13 : Specs := ⟨[], ofS [(5, ⟨[4, 6, 7, 8, 9], [(6, 1000000), (7, 1000001), (8, 1000002)], [], [4], [], [], []⟩), (8, ⟨[4, 6, 7, 8, 9, 10], [(6, 1001000), (7, 1001001), (8, 1001002)], [], [4], [], [], []⟩)], ofS []⟩
inductive Q13 (r : ((List (X.S65)) × Bool)) : Nat → Nat → St → Prop
  | l0 (k x6 x7 x8 x9) (h : X.spec_TimesTrie.l0 k x6 x7 x8 x9 = some r) : Q13 r 5 k (mkSt [(4, sv1 (.ptr 4 0)), (6, sv1 (.own 1000000 0)), (7, sv1 (.own 1000001 0)), (8, sv1 (.own 1000002 0)), (9, sv1 (.dat (.int .i64) x9))] [(4, ⟨26, [.nil 65 (.pair (.int .i64) (.pair (.int .i64) .bool))]⟩)] [(1000000, ⟨9, .str, x6, 0⟩), (1000001, ⟨9, .str, x7, 0⟩), (1000002, ⟨9, .str, x8, 0⟩)] [])
  | l1 (k x6 x7 x8 x9 x10) (h : X.spec_TimesTrie.l1 k x6 x7 x8 x9 x10 = some r) : Q13 r 8 k (mkSt [(4, sv1 (.ptr 4 0)), (6, sv1 (.own 1001000 0)), (7, sv1 (.own 1001001 0)), (8, sv1 (.own 1001002 0)), (9, sv1 (.dat (.int .i64) x9)), (10, sv1 (.dat (.int .i64) x10))] [(4, ⟨26, [.nil 65 (.pair (.int .i64) (.pair (.int .i64) .bool))]⟩)] [(1001000, ⟨9, .str, x6, 0⟩), (1001001, ⟨9, .str, x7, 0⟩), (1001002, ⟨9, .str, x8, 0⟩)] [])
set_option maxHeartbeats 4000000 in
set_option maxRecDepth 100000 in
theorem o13 : GoodCon Tryz.prog c13 := by
  refine fo (C := ofL [c33, c35, c34]) (N := N13) (ts := [.cell 4 26, .tmp 5]) hT hm (by refine ofL_ok ?_; refine .cons o33 ?_; refine .cons o35 ?_; refine .cons o34 ?_; exact .nil) Tryz.func13 rfl rfl rfl rfl (by decide) rfl (by decide) ?_
  intro Rs ins out hL h; clear hL; cases h; rename_i a0_0 a1_0 r k h
  let Q := Q13 r
  have u0 := @X.spec_TimesTrie.l0.eq_2
  have u1 := @X.spec_TimesTrie.l1.eq_2
  have uf := @X.spec_TimesTrie.f.eq_1
  rw [uf] at h
  exact go
/-! impl_IsPartTrie_1 -/
inductive F41 : List Rel → List (List TV) → List (List TV) × List (List TV) → Prop
  | mk (a0_0 a1_0 r k) (h : X.impl_IsPartTrie_1.f k a0_0 a1_0 = some r) : F41 [] [[⟨.str, a0_0⟩], [⟨(.row 65 (.pair (.int .i64) (.pair (.int .i64) .bool))), a1_0⟩]] ([[⟨.bool, r⟩]], [])
abbrev c41 : Con := ⟨41, [.val false, .rd (.row 65 (.pair (.int .i64) (.pair (.int .i64) .bool)))], [(false, [false])], false, F41⟩
abbrev N41 : Specs := ⟨[], ofS [], ofS []⟩
set_option maxHeartbeats 0 in
set_option maxRecDepth 100000 in
theorem o41 : GoodCon Tryz.prog c41 := by
  refine fo (C := ofL [c37]) (N := N41) (ts := [.tmp 3]) hT hm (by refine ofL_ok ?_; refine .cons o37 ?_; exact .nil) Tryz.func41 rfl rfl rfl rfl (by decide) rfl (by decide) ?_
  intro Rs ins out hL h; clear hL; cases h; rename_i k h
  have uf := @X.impl_IsPartTrie_1.f.eq_1
  rw [uf] at h
  exact go
/-! impl_IsPartTrie -/
inductive F14 : List Rel → List (List TV) → List (List TV) × List (List TV) → Prop
  | mk (a0_0 a1_0 r k) (h : X.impl_IsPartTrie.f k a0_0 a1_0 = some r) : F14 [] [[⟨(.row 65 (.pair (.int .i64) (.pair (.int .i64) .bool))), a0_0⟩], [⟨(.row 65 (.pair (.int .i64) (.pair (.int .i64) .bool))), a1_0⟩]] ([[⟨.bool, r.1⟩], [⟨.bool, r.2⟩]], [])
abbrev c14 : Con := ⟨14, [.val true, .val true], [(false, [false]), (false, [false])], false, F14⟩
abbrev N14 : Specs := ⟨[], ofS [], ofS [(100013, ⟨[2, 3, 13], [], [], [2, 3], [], [], []⟩)]⟩
inductive Q14 (r : (Bool × Bool)) : Nat → Nat → St → Prop
  | j0 (k x13 x720000 x721000) (h : X.impl_IsPartTrie.j0 k x13 x720000 x721000 = some r) : Q14 r 100013 k (mkSt [(2, sv1 (.ptr 2 0)), (3, sv1 (.ptr 3 0)), (13, sv1 (.dat .bool x13))] [(2, ⟨26, [.dat (.row 65 (.pair (.int .i64) (.pair (.int .i64) .bool))) x720000]⟩), (3, ⟨26, [.dat (.row 65 (.pair (.int .i64) (.pair (.int .i64) .bool))) x721000]⟩)] [] [])
set_option maxHeartbeats 4000000 in
set_option maxRecDepth 100000 in
theorem o14 : GoodCon Tryz.prog c14 := by
  refine fo (C := ofL [c30, c32, c41, c40]) (N := N14) (ts := [.tmp 4, .tmp 5]) hT hm (by refine ofL_ok ?_; refine .cons o30 ?_; refine .cons o32 ?_; refine .cons o41 ?_; refine .cons o40 ?_; exact .nil) Tryz.func14 rfl rfl rfl rfl (by decide) rfl (by decide) ?_
  intro Rs ins out hL h; clear hL; cases h; rename_i a0_0 a1_0 r k h
  let Q := Q14 r
  have u0 := @X.impl_IsPartTrie.j0.eq_2
  have uf := @X.impl_IsPartTrie.f.eq_1
  rw [uf] at h
  exact go
/-! spec_IsPartTrie -/
inductive F15 : List Rel → List (List TV) → List (List TV) × List (List TV) → Prop
  | mk (a0_0 a1_0 r k) (h : X.spec_IsPartTrie.f k a0_0 a1_0 = some r) : F15 [] [[⟨(.row 65 (.pair (.int .i64) (.pair (.int .i64) .bool))), a0_0⟩], [⟨(.row 65 (.pair (.int .i64) (.pair (.int .i64) .bool))), a1_0⟩]] ([[⟨.bool, r.1⟩], [⟨.bool, r.2⟩]], [])
abbrev c15 : Con := ⟨15, [.val true, .val true], [(false, [false]), (false, [false])], false, F15⟩
abbrev N15 : Specs := ⟨[], ofS [], ofS []⟩
set_option maxHeartbeats 0 in
set_option maxRecDepth 100000 in
theorem o15 : GoodCon Tryz.prog c15 := by
  refine fo (C := ofL [c33, c35, c38]) (N := N15) (ts := [.tmp 4, .tmp 5]) hT hm (by refine ofL_ok ?_; refine .cons o33 ?_; refine .cons o35 ?_; refine .cons o38 ?_; exact .nil) Tryz.func15 rfl rfl rfl rfl (by decide) rfl (by decide) ?_
  intro Rs ins out hL h; clear hL; cases h; rename_i k h
  have uf := @X.spec_IsPartTrie.f.eq_1
  rw [uf] at h
  exact go
/-! impl_DifferTries -/
inductive F16 : List Rel → List (List TV) → List (List TV) × List (List TV) → Prop
  | mk (a0_0 a1_0 r k) (h : X.impl_DifferTries.f k a0_0 a1_0 = some r) : F16 [] [[⟨(.row 65 (.pair (.int .i64) (.pair (.int .i64) .bool))), a0_0⟩], [⟨(.row 65 (.pair (.int .i64) (.pair (.int .i64) .bool))), a1_0⟩]] ([[⟨(.int .i64), r.1⟩], [⟨.bool, r.2⟩]], [])
abbrev c16 : Con := ⟨16, [.val true, .val true], [(false, [false]), (false, [false])], false, F16⟩
abbrev N16 : Specs := ⟨[], ofS [(5, ⟨[2, 3, 6, 20, 21, 22], [(20, 1001000)], [], [2, 3], [], [], []⟩), (11, ⟨[2, 6, 34, 35, 36], [(34, 1002000)], [], [2], [], [], []⟩)], ofS [(100018, ⟨[2, 3, 18], [], [], [2, 3], [], [], []⟩)]⟩
inductive Q16 (r : (Int × Bool)) : Nat → Nat → St → Prop
  | j0 (k x18 x740000 x741000) (h : X.impl_DifferTries.j0 k x18 x740000 x741000 = some r) : Q16 r 100018 k (mkSt [(2, sv1 (.ptr 2 0)), (3, sv1 (.ptr 3 0)), (18, sv1 (.dat .bool x18))] [(2, ⟨26, [.dat (.row 65 (.pair (.int .i64) (.pair (.int .i64) .bool))) x740000]⟩), (3, ⟨26, [.dat (.row 65 (.pair (.int .i64) (.pair (.int .i64) .bool))) x741000]⟩)] [] [])
  | l0 (k x6 x20 x21 x22 x740000 x741000) (h : X.impl_DifferTries.l0 k x6 x20 x21 x22 x740000 x741000 = some r) : Q16 r 5 k (mkSt [(2, sv1 (.ptr 2 0)), (3, sv1 (.ptr 3 0)), (6, sv1 (.dat (.int .i64) x6)), (20, sv1 (.own 1001000 0)), (21, sv1 (.dat (.int .i64) x21)), (22, sv1 (.dat (.int .i64) x22))] [(2, ⟨26, [.dat (.row 65 (.pair (.int .i64) (.pair (.int .i64) .bool))) x740000]⟩), (3, ⟨26, [.dat (.row 65 (.pair (.int .i64) (.pair (.int .i64) .bool))) x741000]⟩)] [(1001000, ⟨9, .str, x20, 0⟩)] [])
  | l1 (k x6 x34 x35 x36 x740000) (h : X.impl_DifferTries.l1 k x6 x34 x35 x36 x740000 = some r) : Q16 r 11 k (mkSt [(2, sv1 (.ptr 2 0)), (6, sv1 (.dat (.int .i64) x6)), (34, sv1 (.own 1002000 0)), (35, sv1 (.dat (.int .i64) x35)), (36, sv1 (.dat (.int .i64) x36))] [(2, ⟨26, [.dat (.row 65 (.pair (.int .i64) (.pair (.int .i64) .bool))) x740000]⟩)] [(1002000, ⟨9, .str, x34, 0⟩)] [])
set_option maxHeartbeats 4000000 in
set_option maxRecDepth 100000 in
theorem o16 : GoodCon Tryz.prog c16 := by
  refine fo (C := ofL [c30, c32, c37]) (N := N16) (ts := [.tmp 4, .tmp 5]) hT hm (by refine ofL_ok ?_; refine .cons o30 ?_; refine .cons o32 ?_; refine .cons o37 ?_; exact .nil) Tryz.func16 rfl rfl rfl rfl (by decide) rfl (by decide) ?_
  intro Rs ins out hL h; clear hL; cases h; rename_i a0_0 a1_0 r k h
  let Q := Q16 r
  have u0 := @X.impl_DifferTries.j0.eq_2
  have u1 := @X.impl_DifferTries.l0.eq_2
  have u2 := @X.impl_DifferTries.l1.eq_2
  have uf := @X.impl_DifferTries.f.eq_1
  rw [uf] at h
  exact go
end Go.Ab.S
