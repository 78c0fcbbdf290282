/- Functions, by evaluation. No conditions. -/
import Derived.Test.YtcplbbflfgckbabGreatDoorBr2
set_option linter.unusedVariables false
set_option linter.unusedSimpArgs false
namespace Go.Ab.S
open Go Go.Ab Go.Ab.Pw Go.Proofs Go.Proofs.YtcplbbflfgckbabGreatDoor
/-! laws_vCut -/
inductive F19 : List Rel → List (List TV) → List (List TV) × List (List TV) → Prop
  | mk (a0_0 a1_0 r) (h : X.laws_vCut.f a0_0 a1_0 = some r) : F19 [] [[⟨(.row 5 (.int .u8)), a0_0⟩], [⟨(.int .i64), a1_0⟩]] ([[⟨(.row 5 (.int .u8)), r⟩]], [])
abbrev c19 : Con := ⟨19, [.val false, .val false], [(false, [true])], false, F19⟩
abbrev N19 : Specs := ⟨[], ofS [], ofS []⟩
set_option maxHeartbeats 0 in
set_option maxRecDepth 100000 in
theorem o19 : GoodCon Tryz.prog c19 := by
  refine fo (C := ofL []) (N := N19) (ts := [.tmp 4]) hT hm (by refine ofL_ok ?_; exact .nil) Tryz.func19 rfl rfl rfl rfl (by decide) rfl (by decide) ?_
  intro Rs ins out hL h; clear hL; cases h; rename_i h
  have uf := @X.laws_vCut.f.eq_1
  rw [uf] at h
  exact go
/-! spec_l1Cur_wordOf -/
inductive F67 : List Rel → List (List TV) → List (List TV) × List (List TV) → Prop
  | mk (a0_0 a0_1 a0_2 a1_0 r k) (h : X.spec_l1Cur_wordOf.f k a0_0 a0_1 a0_2 a1_0 = some r) : F67 [] [[⟨(.row 5 (.int .u8)), a0_0⟩, ⟨(.int .i64), a0_1⟩, ⟨(.int .u64), a0_2⟩], [⟨(.row 65 (.pair (.int .i64) (.pair (.int .i64) .bool))), a1_0⟩]] ([[⟨.str, r.1⟩]], [[⟨(.row 5 (.int .u8)), a0_0⟩, ⟨(.int .i64), r.2.1⟩, ⟨(.int .u64), r.2.2⟩]])
abbrev c67 : Con := ⟨67, [.ptr 49, .val true], [(false, [false])], true, F67⟩
abbrev N67 : Specs := ⟨[41], ofS [], ofS [(100020, ⟨[0, 3, 5, 20], [], [], [41, 3], [], [], []⟩), (100032, ⟨[0, 6, 22, 26, 32], [], [], [41], [], [], []⟩)]⟩
inductive Q67 (a0_0 : Ty.den (.row 5 (.int .u8))) (r : (ByteArray × Int × Int)) : Nat → Nat → St → Prop
  | j0 (k x5 x20 x1001 x1002 x775000) (h : X.spec_l1Cur_wordOf.j0 k x5 x20 a0_0 x1001 x1002 x775000 = some r) : Q67 a0_0 r 100020 k (mkSt [(0, sv1 (.ptr 41 0)), (3, sv1 (.ptr 3 0)), (5, sv1 (.dat (.int .i64) x5)), (20, sv1 (.dat .bool x20))] [(41, ⟨49, [.dat (.row 5 (.int .u8)) a0_0, .dat (.int .i64) x1001, .dat (.int .u64) x1002]⟩), (3, ⟨26, [.dat (.row 65 (.pair (.int .i64) (.pair (.int .i64) .bool))) x775000]⟩)] [] [])
  | j1 (k x6 x32 x1001 x1002) (h : X.spec_l1Cur_wordOf.j1 k x6 x32 a0_0 x1001 x1002 = some r) : Q67 a0_0 r 100032 k (mkSt [(0, sv1 (.ptr 41 0)), (6, sv1 (.dat .str x6)), (22, sv1 (.ptr 41 0)), (26, sv1 (.ptr 41 0)), (32, sv1 (.dat .bool x32))] [(41, ⟨49, [.dat (.row 5 (.int .u8)) a0_0, .dat (.int .i64) x1001, .dat (.int .u64) x1002]⟩)] [] [])
set_option maxHeartbeats 4000000 in
set_option maxRecDepth 100000 in
theorem o67 : GoodCon Tryz.prog c67 := by
  refine fo (C := ofL [c26, c45, c49, c61, c79, c78]) (N := N67) (ts := [.tmp 4]) hT hm (by refine ofL_ok ?_; refine .cons o26 ?_; refine .cons o45 ?_; refine .cons o49 ?_; refine .cons o61 ?_; refine .cons o79 ?_; refine .cons o78 ?_; exact .nil) Tryz.func67 rfl rfl rfl rfl (by decide) rfl (by decide) ?_
  intro Rs ins out hL h; clear hL; cases h; rename_i a0_0 a0_1 a0_2 a1_0 r k h
  let Q := Q67 a0_0 r
  have u0 := @X.spec_l1Cur_wordOf.j0.eq_2
  have u1 := @X.spec_l1Cur_wordOf.j1.eq_2
  have uf := @X.spec_l1Cur_wordOf.f.eq_1
  rw [uf] at h
  exact go
/-! spec_DrawUniquePrefix -/
inductive F42 : List Rel → List (List TV) → List (List TV) × List (List TV) → Prop
  | mk (a0_0 r k) (h : X.spec_DrawUniquePrefix.f k a0_0 = some r) : F42 [] [[⟨(.row 5 (.int .u8)), a0_0⟩]] ([[⟨(.row 65 (.pair (.int .i64) (.pair (.int .i64) .bool))), r.1⟩], [⟨.str, r.2⟩]], [])
abbrev c42 : Con := ⟨42, [.val false], [(true, [false]), (false, [false])], true, F42⟩
abbrev N42 : Specs := ⟨[], ofS [], ofS []⟩
set_option maxHeartbeats 0 in
set_option maxRecDepth 100000 in
theorem o42 : GoodCon Tryz.prog c42 := by
  refine fo (C := ofL [c28, c67]) (N := N42) (ts := [.cell 2 26, .tmp 3]) hT hm (by refine ofL_ok ?_; refine .cons o28 ?_; refine .cons o67 ?_; exact .nil) Tryz.func42 rfl rfl rfl rfl (by decide) rfl (by decide) ?_
  intro Rs ins out hL h; clear hL; cases h; rename_i k h
  have uf := @X.spec_DrawUniquePrefix.f.eq_1
  rw [uf] at h
  exact go
/-! spec_DrawBehindPrefix -/
inductive F18 : List Rel → List (List TV) → List (List TV) × List (List TV) → Prop
  | mk (a0_0 r k) (h : X.spec_DrawBehindPrefix.f k a0_0 = some r) : F18 [] [[⟨(.row 5 (.int .u8)), a0_0⟩]] ([[⟨(.row 65 (.pair (.int .i64) (.pair (.int .i64) .bool))), r.1⟩], [⟨.str, r.2⟩]], [])
abbrev c18 : Con := ⟨18, [.val false], [(true, [false]), (false, [false])], true, F18⟩
abbrev N18 : Specs := ⟨[], ofS [], ofS []⟩
set_option maxHeartbeats 0 in
set_option maxRecDepth 100000 in
theorem o18 : GoodCon Tryz.prog c18 := by
  refine fo (C := ofL [c42]) (N := N18) (ts := [.cell 2 26, .tmp 3]) hT hm (by refine ofL_ok ?_; refine .cons o42 ?_; exact .nil) Tryz.func18 rfl rfl rfl rfl (by decide) rfl (by decide) ?_
  intro Rs ins out hL h; clear hL; cases h; rename_i k h
  have uf := @X.spec_DrawBehindPrefix.f.eq_1
  rw [uf] at h
  exact go
/-! impl_areKept -/
inductive F43 : List Rel → List (List TV) → List (List TV) × List (List TV) → Prop
  | mk (a0_0 a1_0 r k) (h : X.impl_areKept.f k a0_0 a1_0 = some r) : F43 [] [[⟨(.row 65 (.pair (.int .i64) (.pair (.int .i64) .bool))), a0_0⟩], [⟨.str, a1_0⟩]] ([[⟨.bool, r⟩]], [])
abbrev c43 : Con := ⟨43, [.val true, .val false], [(false, [false])], false, F43⟩
abbrev N43 : Specs := ⟨[], ofS [], ofS []⟩
set_option maxHeartbeats 0 in
set_option maxRecDepth 100000 in
theorem o43 : GoodCon Tryz.prog c43 := by
  refine fo (C := ofL [c30, c68]) (N := N43) (ts := [.tmp 4]) hT hm (by refine ofL_ok ?_; refine .cons o30 ?_; refine .cons o68 ?_; exact .nil) Tryz.func43 rfl rfl rfl rfl (by decide) rfl (by decide) ?_
  intro Rs ins out hL h; clear hL; cases h; rename_i k h
  have uf := @X.impl_areKept.f.eq_1
  rw [uf] at h
  exact go
/-! stringslite_HasPrefix -/
inductive F88 : List Rel → List (List TV) → List (List TV) × List (List TV) → Prop
  | mk (a0_0 a1_0 r) (h : X.stringslite_HasPrefix.f a0_0 a1_0 = some r) : F88 [] [[⟨.str, a0_0⟩], [⟨.str, a1_0⟩]] ([[⟨.bool, r⟩]], [])
abbrev c88 : Con := ⟨88, [.val false, .val false], [(false, [false])], false, F88⟩
abbrev N88 : Specs := ⟨[], ofS [], ofS []⟩
set_option maxHeartbeats 0 in
set_option maxRecDepth 100000 in
theorem o88 : GoodCon Tryz.prog c88 := by
  refine fo (C := ofL []) (N := N88) (ts := [.tmp 4]) hT hm (by refine ofL_ok ?_; exact .nil) Tryz.func88 rfl rfl rfl rfl (by decide) rfl (by decide) ?_
  intro Rs ins out hL h; clear hL; cases h; rename_i h
  have uf := @X.stringslite_HasPrefix.f.eq_1
  rw [uf] at h
  exact go
/-! strings_HasPrefix -/
inductive F70 : List Rel → List (List TV) → List (List TV) × List (List TV) → Prop
  | mk (a0_0 a1_0 r) (h : X.strings_HasPrefix.f a0_0 a1_0 = some r) : F70 [] [[⟨.str, a0_0⟩], [⟨.str, a1_0⟩]] ([[⟨.bool, r⟩]], [])
abbrev c70 : Con := ⟨70, [.val false, .val false], [(false, [false])], false, F70⟩
abbrev N70 : Specs := ⟨[], ofS [], ofS []⟩
set_option maxHeartbeats 0 in
set_option maxRecDepth 100000 in
theorem o70 : GoodCon Tryz.prog c70 := by
  refine fo (C := ofL [c88]) (N := N70) (ts := [.tmp 4]) hT hm (by refine ofL_ok ?_; refine .cons o88 ?_; exact .nil) Tryz.func70 rfl rfl rfl rfl (by decide) rfl (by decide) ?_
  intro Rs ins out hL h; clear hL; cases h; rename_i h
  have uf := @X.strings_HasPrefix.f.eq_1
  rw [uf] at h
  exact go
/-! impl_Trie_under_1 -/
inductive F69 : List Rel → List (List TV) → List (List TV) × List (List TV) → Prop
  | mk (a0_0 a1_0 r) (h : X.impl_Trie_under_1.f a0_0 a1_0 = some r) : F69 [] [[⟨.str, a0_0⟩], [⟨.str, a1_0⟩]] ([[⟨.bool, r⟩]], [])
abbrev c69 : Con := ⟨69, [.val false, .rd .str], [(false, [false])], false, F69⟩
abbrev N69 : Specs := ⟨[], ofS [], ofS []⟩
set_option maxHeartbeats 0 in
set_option maxRecDepth 100000 in
theorem o69 : GoodCon Tryz.prog c69 := by
  refine fo (C := ofL [c70]) (N := N69) (ts := [.tmp 3]) hT hm (by refine ofL_ok ?_; refine .cons o70 ?_; exact .nil) Tryz.func69 rfl rfl rfl rfl (by decide) rfl (by decide) ?_
  intro Rs ins out hL h; clear hL; cases h; rename_i h
  have uf := @X.impl_Trie_under_1.f.eq_1
  rw [uf] at h
  exact go
/-! impl_Trie_under -/
inductive F44 : List Rel → List (List TV) → List (List TV) × List (List TV) → Prop
  | mk (a0_0 a1_0 r k) (h : X.impl_Trie_under.f k a0_0 a1_0 = some r) : F44 [] [[⟨(.row 65 (.pair (.int .i64) (.pair (.int .i64) .bool))), a0_0⟩], [⟨.str, a1_0⟩]] ([[⟨(.row 9 .str), r⟩]], [])
abbrev c44 : Con := ⟨44, [.val true, .val false], [(false, [true])], false, F44⟩
abbrev N44 : Specs := ⟨[], ofS [], ofS []⟩
set_option maxHeartbeats 0 in
set_option maxRecDepth 100000 in
theorem o44 : GoodCon Tryz.prog c44 := by
  refine fo (C := ofL [c32, c69, c62]) (N := N44) (ts := [.tmp 4]) hT hm (by refine ofL_ok ?_; refine .cons o32 ?_; refine .cons o69 ?_; refine .cons o62 ?_; exact .nil) Tryz.func44 rfl rfl rfl rfl (by decide) rfl (by decide) ?_
  intro Rs ins out hL h; clear hL; cases h; rename_i k h
  have uf := @X.impl_Trie_under.f.eq_1
  rw [uf] at h
  exact go
/-! impl_BehindPrefix -/
inductive F20 : List Rel → List (List TV) → List (List TV) × List (List TV) → Prop
  | mk (a0_0 a1_0 r k) (h : X.impl_BehindPrefix.f k a0_0 a1_0 = some r) : F20 [] [[⟨(.row 65 (.pair (.int .i64) (.pair (.int .i64) .bool))), a0_0⟩], [⟨.str, a1_0⟩]] ([[⟨(.row 65 (.pair (.int .i64) (.pair (.int .i64) .bool))), r.1⟩], [⟨.bool, r.2⟩]], [])
abbrev c20 : Con := ⟨20, [.val true, .val false], [(true, [true]), (false, [false])], false, F20⟩
abbrev N20 : Specs := ⟨[], ofS [(5, ⟨[1, 4, 6, 17, 18, 19], [(6, 1000000), (17, 1000001)], [], [4], [], [], []⟩)], ofS []⟩
inductive Q20 (r : ((List (X.S65)) × Bool)) : Nat → Nat → St → Prop
  | l0 (k x1 x6 x17 x18 x19) (h : X.impl_BehindPrefix.l0 k x1 x6 x17 x18 x19 = some r) : Q20 r 5 k (mkSt [(1, sv1 (.dat .str x1)), (4, sv1 (.ptr 4 0)), (6, sv1 (.own 1000000 0)), (17, sv1 (.own 1000001 0)), (18, sv1 (.dat (.int .i64) x18)), (19, sv1 (.dat (.int .i64) x19))] [(4, ⟨26, [.nil 65 (.pair (.int .i64) (.pair (.int .i64) .bool))]⟩)] [(1000000, ⟨9, .str, x6, 0⟩), (1000001, ⟨9, .str, x17, 0⟩)] [])
set_option maxHeartbeats 4000000 in
set_option maxRecDepth 100000 in
theorem o20 : GoodCon Tryz.prog c20 := by
  refine fo (C := ofL [c43, c44, c31]) (N := N20) (ts := [.cell 4 26, .tmp 5]) hT hm (by refine ofL_ok ?_; refine .cons o43 ?_; refine .cons o44 ?_; refine .cons o31 ?_; exact .nil) Tryz.func20 rfl rfl rfl rfl (by decide) rfl (by decide) ?_
  intro Rs ins out hL h; clear hL; cases h; rename_i a0_0 a1_0 r k h
  let Q := Q20 r
  have u0 := @X.impl_BehindPrefix.l0.eq_2
  have uf := @X.impl_BehindPrefix.f.eq_1
  rw [uf] at h
  exact go
/-! spec_l2Begins -/
inductive F73 : List Rel → List (List TV) → List (List TV) × List (List TV) → Prop
  | mk (a0_0 a1_0 r) (h : X.spec_l2Begins.f a0_0 a1_0 = some r) : F73 [] [[⟨.str, a0_0⟩], [⟨.str, a1_0⟩]] ([[⟨.bool, r⟩]], [])
abbrev c73 : Con := ⟨73, [.val false, .val false], [(false, [false])], false, F73⟩
abbrev N73 : Specs := ⟨[], ofS [], ofS []⟩
set_option maxHeartbeats 0 in
set_option maxRecDepth 100000 in
theorem o73 : GoodCon Tryz.prog c73 := by
  refine fo (C := ofL []) (N := N73) (ts := [.tmp 4]) hT hm (by refine ofL_ok ?_; exact .nil) Tryz.func73 rfl rfl rfl rfl (by decide) rfl (by decide) ?_
  intro Rs ins out hL h; clear hL; cases h; rename_i h
  have uf := @X.spec_l2Begins.f.eq_1
  rw [uf] at h
  exact go
/-! spec_l3Under -/
inductive F47 : List Rel → List (List TV) → List (List TV) × List (List TV) → Prop
  | mk (a0_0 a1_0 r k) (h : X.spec_l3Under.f k a0_0 a1_0 = some r) : F47 [] [[⟨(.row 9 .str), a0_0⟩], [⟨.str, a1_0⟩]] ([[⟨(.row 9 .str), r⟩]], [])
abbrev c47 : Con := ⟨47, [.val false, .val false], [(false, [true])], false, F47⟩
abbrev N47 : Specs := ⟨[], ofS [(3, ⟨[0, 1, 4, 5, 6], [(5, 1000000)], [], [], [0], [], []⟩)], ofS []⟩
inductive Q47 (r : (List ByteArray)) : Nat → Nat → St → Prop
  | l0 (k x0 x1 x5 x6) (h : X.spec_l3Under.l0 k x0 x1 x5 x6 = some r) : Q47 r 3 k (mkSt [(0, sv1 (.dat (.row 9 .str) x0)), (1, sv1 (.dat .str x1)), (4, sv1 (.nil 9 .str)), (5, sv1 (.own 1000000 0)), (6, sv1 (.dat (.int .i64) x6))] [] [(1000000, ⟨9, .str, x5, 0⟩)] [])
set_option maxHeartbeats 4000000 in
set_option maxRecDepth 100000 in
theorem o47 : GoodCon Tryz.prog c47 := by
  refine fo (C := ofL [c73]) (N := N47) (ts := [.tmp 4]) hT hm (by refine ofL_ok ?_; refine .cons o73 ?_; exact .nil) Tryz.func47 rfl rfl rfl rfl (by decide) rfl (by decide) ?_
  intro Rs ins out hL h; clear hL; cases h; rename_i a0_0 a1_0 r k h
  let Q := Q47 r
  have u0 := @X.spec_l3Under.l0.eq_2
  have uf := @X.spec_l3Under.f.eq_1
  rw [uf] at h
  exact go
/-! spec_BehindPrefix -/
inductive F21 : List Rel → List (List TV) → List (List TV) × List (List TV) → Prop
  | mk (a0_0 a1_0 r k) (h : X.spec_BehindPrefix.f k a0_0 a1_0 = some r) : F21 [] [[⟨(.row 65 (.pair (.int .i64) (.pair (.int .i64) .bool))), a0_0⟩], [⟨.str, a1_0⟩]] ([[⟨(.row 65 (.pair (.int .i64) (.pair (.int .i64) .bool))), r.1⟩], [⟨.bool, r.2⟩]], [])
abbrev c21 : Con := ⟨21, [.val true, .val false], [(true, [true]), (false, [false])], false, F21⟩
abbrev N21 : Specs := ⟨[], ofS [(5, ⟨[1, 4, 6, 7, 8], [(6, 1001000), (7, 1001001)], [], [4], [], [], []⟩)], ofS [(100016, ⟨[1, 2, 4, 16], [], [], [2, 4], [], [], []⟩)]⟩
inductive Q21 (r : ((List (X.S65)) × Bool)) : Nat → Nat → St → Prop
  | j0 (k x1 x16 x872000) (h : X.spec_BehindPrefix.j0 k x1 x16 x872000 = some r) : Q21 r 100016 k (mkSt [(1, sv1 (.dat .str x1)), (2, sv1 (.ptr 2 0)), (4, sv1 (.ptr 4 0)), (16, sv1 (.dat .bool x16))] [(2, ⟨26, [.dat (.row 65 (.pair (.int .i64) (.pair (.int .i64) .bool))) x872000]⟩), (4, ⟨26, [.nil 65 (.pair (.int .i64) (.pair (.int .i64) .bool))]⟩)] [] [])
  | l0 (k x1 x6 x7 x8) (h : X.spec_BehindPrefix.l0 k x1 x6 x7 x8 = some r) : Q21 r 5 k (mkSt [(1, sv1 (.dat .str x1)), (4, sv1 (.ptr 4 0)), (6, sv1 (.own 1001000 0)), (7, sv1 (.own 1001001 0)), (8, sv1 (.dat (.int .i64) x8))] [(4, ⟨26, [.nil 65 (.pair (.int .i64) (.pair (.int .i64) .bool))]⟩)] [(1001000, ⟨9, .str, x6, 0⟩), (1001001, ⟨9, .str, x7, 0⟩)] [])
set_option maxHeartbeats 4000000 in
set_option maxRecDepth 100000 in
theorem o21 : GoodCon Tryz.prog c21 := by
  refine fo (C := ofL [c45, c46, c35, c47, c34]) (N := N21) (ts := [.cell 4 26, .tmp 5]) hT hm (by refine ofL_ok ?_; refine .cons o45 ?_; refine .cons o46 ?_; refine .cons o35 ?_; refine .cons o47 ?_; refine .cons o34 ?_; exact .nil) Tryz.func21 rfl rfl rfl rfl (by decide) rfl (by decide) ?_
  intro Rs ins out hL h; clear hL; cases h; rename_i a0_0 a1_0 r k h
  let Q := Q21 r
  have u0 := @X.spec_BehindPrefix.j0.eq_2
  have u1 := @X.spec_BehindPrefix.l0.eq_2
  have uf := @X.spec_BehindPrefix.f.eq_1
  rw [uf] at h
  exact go
/-! laws_vTrie -/
inductive F22 : List Rel → List (List TV) → List (List TV) × List (List TV) → Prop
  | mk (a0_0 a1_0 r k) (h : X.laws_vTrie.f k a0_0 a1_0 = some r) : F22 [] [[⟨(.row 65 (.pair (.int .i64) (.pair (.int .i64) .bool))), a0_0⟩], [⟨(.row 65 (.pair (.int .i64) (.pair (.int .i64) .bool))), a1_0⟩]] ([[⟨.bool, r⟩]], [])
abbrev c22 : Con := ⟨22, [.val true, .val true], [(false, [false])], false, F22⟩
abbrev N22 : Specs := ⟨[], ofS [(4, ⟨[2, 3, 5], [], [], [2, 3], [], [], [2, 3]⟩)], ofS []⟩
inductive Q22 (r : (Bool)) : Nat → Nat → St → Prop
  | l0 (k x5 x893000 x894000) (h : X.laws_vTrie.l0 k x5 x893000 x894000 = some r) : Q22 r 4 k (mkSt [(2, sv1 (.ptr 2 0)), (3, sv1 (.ptr 3 0)), (5, sv1 (.dat (.int .i64) x5))] [(2, ⟨26, [.dat (.row 65 (.pair (.int .i64) (.pair (.int .i64) .bool))) x893000]⟩), (3, ⟨26, [.dat (.row 65 (.pair (.int .i64) (.pair (.int .i64) .bool))) x894000]⟩)] [] [])
set_option maxHeartbeats 4000000 in
set_option maxRecDepth 100000 in
theorem o22 : GoodCon Tryz.prog c22 := by
  refine fo (C := ofL []) (N := N22) (ts := [.tmp 4]) hT hm (by refine ofL_ok ?_; exact .nil) Tryz.func22 rfl rfl rfl rfl (by decide) rfl (by decide) ?_
  intro Rs ins out hL h; clear hL; cases h; rename_i a0_0 a1_0 r k h
  let Q := Q22 r
  have u0 := @X.laws_vTrie.l0.eq_2
  have uf := @X.laws_vTrie.f.eq_1
  rw [uf] at h
  exact go
/-! impl_CountWords -/
inductive F23 : List Rel → List (List TV) → List (List TV) × List (List TV) → Prop
  | mk (a0_0 r k) (h : X.impl_CountWords.f k a0_0 = some r) : F23 [] [[⟨(.row 65 (.pair (.int .i64) (.pair (.int .i64) .bool))), a0_0⟩]] ([[⟨(.int .i64), r.1⟩], [⟨.bool, r.2⟩]], [])
abbrev c23 : Con := ⟨23, [.val true], [(false, [false]), (false, [false])], false, F23⟩
abbrev N23 : Specs := ⟨[], ofS [], ofS []⟩
set_option maxHeartbeats 0 in
set_option maxRecDepth 100000 in
theorem o23 : GoodCon Tryz.prog c23 := by
  refine fo (C := ofL [c30, c32]) (N := N23) (ts := [.tmp 2, .tmp 3]) hT hm (by refine ofL_ok ?_; refine .cons o30 ?_; refine .cons o32 ?_; exact .nil) Tryz.func23 rfl rfl rfl rfl (by decide) rfl (by decide) ?_
  intro Rs ins out hL h; clear hL; cases h; rename_i k h
  have uf := @X.impl_CountWords.f.eq_1
  rw [uf] at h
  exact go
/-! impl_WordsUnder -/
inductive F24 : List Rel → List (List TV) → List (List TV) × List (List TV) → Prop
  | mk (a0_0 a1_0 r k) (h : X.impl_WordsUnder.f k a0_0 a1_0 = some r) : F24 [] [[⟨(.row 65 (.pair (.int .i64) (.pair (.int .i64) .bool))), a0_0⟩], [⟨.str, a1_0⟩]] ([[⟨(.row 9 .str), r.1⟩], [⟨.bool, r.2⟩]], [])
abbrev c24 : Con := ⟨24, [.val true, .val false], [(false, [true]), (false, [false])], false, F24⟩
abbrev N24 : Specs := ⟨[], ofS [], ofS []⟩
set_option maxHeartbeats 0 in
set_option maxRecDepth 100000 in
theorem o24 : GoodCon Tryz.prog c24 := by
  refine fo (C := ofL [c43, c44]) (N := N24) (ts := [.tmp 4, .tmp 5]) hT hm (by refine ofL_ok ?_; refine .cons o43 ?_; refine .cons o44 ?_; exact .nil) Tryz.func24 rfl rfl rfl rfl (by decide) rfl (by decide) ?_
  intro Rs ins out hL h; clear hL; cases h; rename_i k h
  have uf := @X.impl_WordsUnder.f.eq_1
  rw [uf] at h
  exact go
/-! impl_WordAt -/
inductive F25 : List Rel → List (List TV) → List (List TV) × List (List TV) → Prop
  | mk (a0_0 a1_0 r k) (h : X.impl_WordAt.f k a0_0 a1_0 = some r) : F25 [] [[⟨(.row 65 (.pair (.int .i64) (.pair (.int .i64) .bool))), a0_0⟩], [⟨(.int .i64), a1_0⟩]] ([[⟨.str, r.1⟩], [⟨.bool, r.2⟩]], [])
abbrev c25 : Con := ⟨25, [.val true, .val false], [(false, [false]), (false, [false])], false, F25⟩
abbrev N25 : Specs := ⟨[], ofS [], ofS []⟩
set_option maxHeartbeats 0 in
set_option maxRecDepth 100000 in
theorem o25 : GoodCon Tryz.prog c25 := by
  refine fo (C := ofL [c30, c32, c48]) (N := N25) (ts := [.tmp 4, .tmp 5]) hT hm (by refine ofL_ok ?_; refine .cons o30 ?_; refine .cons o32 ?_; refine .cons o48 ?_; exact .nil) Tryz.func25 rfl rfl rfl rfl (by decide) rfl (by decide) ?_
  intro Rs ins out hL h; clear hL; cases h; rename_i k h
  have uf := @X.impl_WordAt.f.eq_1
  rw [uf] at h
  exact go
/-! laws_FnTogether -/
inductive F3 : List Rel → List (List TV) → List (List TV) × List (List TV) → Prop
  | mk (a0_0 r k) (h : X.laws_FnTogether.f k a0_0 = some r) : F3 [] [[⟨(.row 5 (.int .u8)), a0_0⟩]] ([[⟨.bool, r⟩]], [])
abbrev c3 : Con := ⟨3, [.val false], [(false, [false])], false, F3⟩
abbrev N3 : Specs := ⟨[], ofS [], ofS [(100248, ⟨[3, 4, 5, 6, 9, 10, 13, 17, 18, 21, 25, 29, 30, 31, 32, 248], [], [], [3, 4, 5, 9, 13, 17, 29, 31], [], [], [3, 4, 5, 9, 13, 17, 29, 31]⟩), (26, ⟨[3, 4, 5, 6, 9, 10, 13, 17, 18, 21, 25], [], [], [3, 4, 5, 9, 13, 17], [], [], [3, 4, 5, 9, 13, 17]⟩), (100341, ⟨[3, 4, 5, 6, 17, 18, 39, 41, 43, 341], [], [], [3, 4, 5, 17], [], [], [3, 4, 5, 17]⟩), (39, ⟨[3, 4, 17, 18, 39], [], [], [3, 4, 17], [], [], [3, 4, 17]⟩), (100377, ⟨[3, 4, 17, 377], [], [], [3, 4, 17], [], [], [3, 4, 17]⟩)]⟩
inductive Q3 (r : (Bool)) : Nat → Nat → St → Prop
  | j0 (k x6 x10 x18 x21 x25 x30 x32 x248 x924000 x925000 x930000 x940000 x950000 x960000 x981000 x986000) (h : X.laws_FnTogether.j0 k x6 x10 x18 x21 x25 x30 x32 x248 x924000 x925000 x930000 x940000 x950000 x960000 x981000 x986000 = some r) : Q3 r 100248 k (mkSt [(3, sv1 (.ptr 3 0)), (4, sv1 (.ptr 4 0)), (5, sv1 (.ptr 5 0)), (6, sv1 (.dat .bool x6)), (9, sv1 (.ptr 9 0)), (10, sv1 (.dat .bool x10)), (13, sv1 (.ptr 13 0)), (17, sv1 (.ptr 17 0)), (18, sv1 (.dat .bool x18)), (21, sv1 (.dat .bool x21)), (25, sv1 (.dat (.int .i64) x25)), (29, sv1 (.ptr 29 0)), (30, sv1 (.dat .str x30)), (31, sv1 (.ptr 31 0)), (32, sv1 (.dat .bool x32)), (248, sv1 (.dat .bool x248))] [(3, ⟨26, [.dat (.row 65 (.pair (.int .i64) (.pair (.int .i64) .bool))) x924000]⟩), (4, ⟨26, [.dat (.row 65 (.pair (.int .i64) (.pair (.int .i64) .bool))) x925000]⟩), (5, ⟨26, [.dat (.row 65 (.pair (.int .i64) (.pair (.int .i64) .bool))) x930000]⟩), (9, ⟨26, [.dat (.row 65 (.pair (.int .i64) (.pair (.int .i64) .bool))) x940000]⟩), (13, ⟨26, [.dat (.row 65 (.pair (.int .i64) (.pair (.int .i64) .bool))) x950000]⟩), (17, ⟨26, [.dat (.row 65 (.pair (.int .i64) (.pair (.int .i64) .bool))) x960000]⟩), (29, ⟨26, [.dat (.row 65 (.pair (.int .i64) (.pair (.int .i64) .bool))) x981000]⟩), (31, ⟨26, [.dat (.row 65 (.pair (.int .i64) (.pair (.int .i64) .bool))) x986000]⟩)] [] [])
  | j1 (k x6 x10 x18 x21 x25 x924000 x925000 x930000 x940000 x950000 x960000) (h : X.laws_FnTogether.j1 k x6 x10 x18 x21 x25 x924000 x925000 x930000 x940000 x950000 x960000 = some r) : Q3 r 26 k (mkSt [(3, sv1 (.ptr 3 0)), (4, sv1 (.ptr 4 0)), (5, sv1 (.ptr 5 0)), (6, sv1 (.dat .bool x6)), (9, sv1 (.ptr 9 0)), (10, sv1 (.dat .bool x10)), (13, sv1 (.ptr 13 0)), (17, sv1 (.ptr 17 0)), (18, sv1 (.dat .bool x18)), (21, sv1 (.dat .bool x21)), (25, sv1 (.dat (.int .i64) x25))] [(3, ⟨26, [.dat (.row 65 (.pair (.int .i64) (.pair (.int .i64) .bool))) x924000]⟩), (4, ⟨26, [.dat (.row 65 (.pair (.int .i64) (.pair (.int .i64) .bool))) x925000]⟩), (5, ⟨26, [.dat (.row 65 (.pair (.int .i64) (.pair (.int .i64) .bool))) x930000]⟩), (9, ⟨26, [.dat (.row 65 (.pair (.int .i64) (.pair (.int .i64) .bool))) x940000]⟩), (13, ⟨26, [.dat (.row 65 (.pair (.int .i64) (.pair (.int .i64) .bool))) x950000]⟩), (17, ⟨26, [.dat (.row 65 (.pair (.int .i64) (.pair (.int .i64) .bool))) x960000]⟩)] [] [])
  | j2 (k x6 x18 x39 x41 x43 x341 x924000 x925000 x930000 x960000) (h : X.laws_FnTogether.j2 k x6 x18 x39 x41 x43 x341 x924000 x925000 x930000 x960000 = some r) : Q3 r 100341 k (mkSt [(3, sv1 (.ptr 3 0)), (4, sv1 (.ptr 4 0)), (5, sv1 (.ptr 5 0)), (6, sv1 (.dat .bool x6)), (17, sv1 (.ptr 17 0)), (18, sv1 (.dat .bool x18)), (39, sv1 (.dat (.int .i64) x39)), (41, sv1 (.dat (.int .i64) x41)), (43, sv1 (.dat (.int .i64) x43)), (341, sv1 (.dat .bool x341))] [(3, ⟨26, [.dat (.row 65 (.pair (.int .i64) (.pair (.int .i64) .bool))) x924000]⟩), (4, ⟨26, [.dat (.row 65 (.pair (.int .i64) (.pair (.int .i64) .bool))) x925000]⟩), (5, ⟨26, [.dat (.row 65 (.pair (.int .i64) (.pair (.int .i64) .bool))) x930000]⟩), (17, ⟨26, [.dat (.row 65 (.pair (.int .i64) (.pair (.int .i64) .bool))) x960000]⟩)] [] [])
  | j3 (k x18 x39 x924000 x925000 x960000) (h : X.laws_FnTogether.j3 k x18 x39 x924000 x925000 x960000 = some r) : Q3 r 39 k (mkSt [(3, sv1 (.ptr 3 0)), (4, sv1 (.ptr 4 0)), (17, sv1 (.ptr 17 0)), (18, sv1 (.dat .bool x18)), (39, sv1 (.dat (.int .i64) x39))] [(3, ⟨26, [.dat (.row 65 (.pair (.int .i64) (.pair (.int .i64) .bool))) x924000]⟩), (4, ⟨26, [.dat (.row 65 (.pair (.int .i64) (.pair (.int .i64) .bool))) x925000]⟩), (17, ⟨26, [.dat (.row 65 (.pair (.int .i64) (.pair (.int .i64) .bool))) x960000]⟩)] [] [])
  | j4 (k x377 x924000 x925000 x960000) (h : X.laws_FnTogether.j4 k x377 x924000 x925000 x960000 = some r) : Q3 r 100377 k (mkSt [(3, sv1 (.ptr 3 0)), (4, sv1 (.ptr 4 0)), (17, sv1 (.ptr 17 0)), (377, sv1 (.dat .bool x377))] [(3, ⟨26, [.dat (.row 65 (.pair (.int .i64) (.pair (.int .i64) .bool))) x924000]⟩), (4, ⟨26, [.dat (.row 65 (.pair (.int .i64) (.pair (.int .i64) .bool))) x925000]⟩), (17, ⟨26, [.dat (.row 65 (.pair (.int .i64) (.pair (.int .i64) .bool))) x960000]⟩)] [] [])
set_option maxHeartbeats 4000000 in
set_option maxRecDepth 100000 in
theorem o3 : GoodCon Tryz.prog c3 := by
  refine fo (C := ofL [c4, c5, c6, c7, c8, c9, c10, c11, c12, c13, c14, c15, c16, c17, c19, c18, c20, c21, c22, c23, c24, c25]) (N := N3) (ts := [.tmp 2]) hT hm (by refine ofL_ok ?_; refine .cons o4 ?_; refine .cons o5 ?_; refine .cons o6 ?_; refine .cons o7 ?_; refine .cons o8 ?_; refine .cons o9 ?_; refine .cons o10 ?_; refine .cons o11 ?_; refine .cons o12 ?_; refine .cons o13 ?_; refine .cons o14 ?_; refine .cons o15 ?_; refine .cons o16 ?_; refine .cons o17 ?_; refine .cons o19 ?_; refine .cons o18 ?_; refine .cons o20 ?_; refine .cons o21 ?_; refine .cons o22 ?_; refine .cons o23 ?_; refine .cons o24 ?_; refine .cons o25 ?_; exact .nil) Tryz.func3 rfl rfl rfl rfl (by decide) rfl (by decide) ?_
  intro Rs ins out hL h; clear hL; cases h; rename_i a0_0 r k h
  let Q := Q3 r
  have u0 := @X.laws_FnTogether.j0.eq_2
  have u1 := @X.laws_FnTogether.j1.eq_2
  have u2 := @X.laws_FnTogether.j2.eq_2
  have u3 := @X.laws_FnTogether.j3.eq_2
  have u4 := @X.laws_FnTogether.j4.eq_2
  have uf := @X.laws_FnTogether.f.eq_1
  rw [uf] at h
  exact go
end Go.Ab.S
