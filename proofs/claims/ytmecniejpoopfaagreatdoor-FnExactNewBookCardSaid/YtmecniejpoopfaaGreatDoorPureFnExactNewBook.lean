/- Plain: NewBook of the program and of the reference answer alike. -/
import Derived.Test.YtmecniejpoopfaaGreatDoorX14
import Derived.Test.YtmecniejpoopfaaGreatDoorBookLaw
import Derived.Test.YtmecniejpoopfaaGreatDoorGlue
set_option linter.unusedVariables false
set_option linter.unusedSimpArgs false
namespace Go.Proofs.YtmecniejpoopfaaGreatDoor.Pure
open Go.RowKit Go.Proofs.YtmecniejpoopfaaGreatDoorW.PrintWords Go.Proofs.YtmecniejpoopfaaGreatDoorW.PrintLast Go.Proofs.YtmecniejpoopfaaGreatDoorW.PrintMore Go.Proofs.YtmecniejpoopfaaGreatDoor.X Go.Proofs.YtmecniejpoopfaaGreatDoor.Pl
theorem bad_eq2 (w : ByteArray) (hs : w.size ≤ 140737488351232) : impl_NewBook_1.f w = some (badW (bw w)) := by
  unfold impl_NewBook_1.f badW
  by_cases h : bw w = []
  · rw [if_pos ((nil_iff w).2 h), decide_eq_true (.inl h)]
  · rw [if_neg (fun e => h ((nil_iff w).1 e)), isWord_eq w hs]
    show some (!decide (okW (bw w))) = _
    congr 1
    by_cases ho : okW (bw w)
    · rw [decide_eq_true ho, decide_eq_false (fun h2 => h2.elim h (fun h3 => h3 ho))]; rfl
    · rw [decide_eq_false ho, decide_eq_true (.inr ho)]; rfl
theorem joinS_eq (ws : List Wd) (h1 : ws.length ≤ 1048576) (h2 : ∀ w ∈ ws, w.length ≤ 1048576) : strings_Join.f (ws.map wb) (⟨#[32]⟩ : ByteArray) = some (wb (Lib.join ws [32])) := by
  unfold strings_Join.f
  have e : (ws.map wb).map (fun s => s.data.toList) = ws := bw_map_wb ws
  have hj := join_length 32 1048576 ws h2
  have hb : (Lib.join ws [32]).length ≤ 1048576 * 1048577 := Nat.le_trans hj (Nat.mul_le_mul_right _ h1)
  rw [e, show (⟨#[32]⟩ : ByteArray).data.toList = [32] from rfl, List.length_map, if_pos ⟨by omega, by omega⟩]
  rfl
theorem both (l : List ByteArray) (hl : l.length ≤ 1048576) (hs : ∀ y ∈ l, y.size ≤ 1048576) : ∃ r, Ev (fun k => spec_NewBook.f k l) r ∧ Ev (fun k => impl_NewBook.f k l) r := by
  have e0 : (l.map bw).map wb = l := by
    rw [List.map_map]
    exact (List.map_congr_left fun x _ => wb_bw x).trans (List.map_id l)
  have hss : ∀ w ∈ l.map bw, w.length ≤ 1048576 := fun w hw => by
    obtain ⟨x, hx, rfl⟩ := List.mem_map.1 hw
    rw [bw_size]; exact hs x hx
  have hset := l2Set_ev l (by omega) (fun x hx => by have := hs x hx; omega)
  have hsl : (setW (l.map bw)).length ≤ 1048576 := Nat.le_trans (setW_length _) (by rw [List.length_map]; exact hl)
  have hsm : ∀ w ∈ setW (l.map bw), w.length ≤ 1048576 := fun w hw => hss w ((mem_setW _ _).1 hw)
  have hany : slices_ContainsFunc_string_string.f l (fun z_ => impl_NewBook_1.f z_) = some (decide (¬ ∀ w ∈ l.map bw, w ≠ [] ∧ okW w)) := by
    rw [← anyBad, e0]
    exact anyM_congr fun z hz => bad_eq2 z (by have := hs z hz; omega)
  have hi1 : impl_set.f l = some ((setW (l.map bw)).map wb) := by
    have := set_eq (l.map bw) (by rw [List.length_map]; omega)
    rw [e0] at this
    exact this
  have hi2 := joinS_eq (setW (l.map bw)) hsl hsm
  unfold spec_NewBook.f impl_NewBook.f
  rw [hi1]
  generalize hws : l.map bw = ws at hset hany hi2 hsl hsm
  have fail : ∀ b : Bool, b = decide (¬ ∀ w ∈ ws, w ≠ [] ∧ okW w) → (b = false → ∃ r, r = false ∧ Ev (fun k => impl_Book_isBook.f k (wb (Lib.join (setW ws) [32])) (⟨#[]⟩ : ByteArray) 0) r) → Ev (fun k => (some ((setW ws).map wb)).bind fun t273 => ((strings_Join.f t273 (⟨#[32]⟩ : ByteArray)).bind fun t276 => ((slices_ContainsFunc_string_string.f l (fun z_ => impl_NewBook_1.f z_)).bind fun t278 => (if t278 = true then (some ((⟨#[]⟩ : ByteArray), (⟨#[]⟩ : ByteArray), (0 : Int), false)) else ((impl_Book_isBook.f k t276 (⟨#[]⟩ : ByteArray) 0).bind fun t279 => (if t279 = true then (some (t276, (⟨#[]⟩ : ByteArray), (0 : Int), true)) else (some ((⟨#[]⟩ : ByteArray), (⟨#[]⟩ : ByteArray), (0 : Int), false)))))))) ((⟨#[]⟩ : ByteArray), (⟨#[]⟩ : ByteArray), (0 : Int), false) := by
    intro b hb hr
    simp only [Option.bind_some, hi2, hany]
    rw [← hb]
    cases b with
    | true => exact ev_pos rfl (ev_eq rfl)
    | false =>
      obtain ⟨r, e, h1⟩ := hr rfl
      subst e
      exact ev_neg (by decide) (Ev.bind h1 (ev_neg (by decide) (ev_eq rfl)))
  unfold refSet at hset
  by_cases hall : ∀ w ∈ ws, okW w
  case neg =>
    rw [if_neg hall] at hset
    refine ⟨_, Ev.bind hset (ev_neg (by decide) (ev_eq rfl)), fail true ?_ (fun h => absurd h (by decide))⟩
    symm; rw [decide_eq_true_eq]; exact fun h => hall fun w hw => (h w hw).2
  rw [if_pos hall] at hset
  have hbook : (∀ w ∈ ws, w ≠ [] ∧ okW w) → Ev (fun k => impl_Book_isBook.f k (wb (Lib.join (setW ws) [32])) (⟨#[]⟩ : ByteArray) 0) (decide ((setW ws).length ≤ 40)) := by
    intro hgood
    have hgs : ∀ w ∈ setW ws, w ≠ [] ∧ okW w := fun w hw2 => hgood w ((mem_setW _ _).1 hw2)
    have hj := join_length 32 12 (setW ws) (fun w hw => (hgs w hw).2.1)
    have h := isBook_ev (wb (Lib.join (setW ws) [32])) (⟨#[]⟩ : ByteArray) 0 (by rw [wb_size]; omega)
    rw [show bookB (wb (Lib.join (setW ws) [32])) (⟨#[]⟩ : ByteArray) 0 = decide ((setW ws).length ≤ 40) from ?_] at h
    · exact h
    unfold bookB
    rw [decide_eq_decide, wordsS_of_join hgs]
    constructor
    · exact fun h => h.1.1
    · exact fun h => ⟨⟨h, hgs, setW_of_SS (setW_SS ws)⟩, by omega, (mem_prefs _ _).2 (.inl rfl)⟩
  by_cases hl4 : (setW ws).length ≤ 40
  case neg =>
    rw [decide_eq_false hl4] at hset
    refine ⟨_, Ev.bind hset (ev_neg (by simp) (ev_eq rfl)), fail _ rfl (fun hb => ?_)⟩
    have hgood := Classical.not_not.1 (of_decide_eq_false hb)
    have := hbook hgood
    rw [decide_eq_false hl4] at this
    exact ⟨false, rfl, this⟩
  rw [decide_eq_true hl4] at hset
  have hhas := l2Has_ev ((setW ws).map wb) (⟨#[]⟩ : ByteArray) (by rw [List.length_map]; omega)
  rw [nil_mem_iff] at hhas
  by_cases hn : ([] : Wd) ∈ setW ws
  · rw [decide_eq_true hn] at hhas
    refine ⟨_, Ev.bind hset (ev_pos rfl (Ev.bind hhas (ev_pos rfl (ev_eq rfl)))), fail true ?_ (fun h => absurd h (by decide))⟩
    symm; rw [decide_eq_true_eq]; exact fun h => (h _ ((mem_setW _ _).1 hn)).1 rfl
  rw [decide_eq_false hn] at hhas
  have hgood : ∀ w ∈ ws, w ≠ [] ∧ okW w := fun w hw2 => ⟨fun e => hn ((mem_setW _ _).2 (e ▸ hw2)), hall w hw2⟩
  have hb := hbook hgood
  rw [decide_eq_true hl4] at hb
  have hjn := joined_ev (setW ws) (by omega) (fun w hw2 => by have := (hall w ((mem_setW _ _).1 hw2)).1; omega)
  refine ⟨(wb (Lib.join (setW ws) [32]), (⟨#[]⟩ : ByteArray), 0, true), Ev.bind hset (ev_pos rfl (Ev.bind hhas (ev_neg (by decide) (Ev.bind hjn (ev_eq rfl))))), ?_⟩
  simp only [Option.bind_some, hi2, hany]
  rw [decide_eq_false (fun h => h hgood)]
  exact ev_neg (by decide) (Ev.bind hb (ev_pos rfl (ev_eq rfl)))
theorem FnExactNewBook : ∀ (l0 : List ByteArray), (l0.length * 16 ≤ 140737488351232 ∧ ∀ y ∈ l0, y.size ≤ 140737488351232) → ∃ k, laws_FnExactNewBook.f k l0 = some true := by
  rintro l ⟨hl, hs⟩
  refine Ev.rounds (r := true) ?_
  obtain ⟨r, hr, hr2, hr3⟩ := szStringS_ev l 1048576 (by omega) (by omega) hl hs
  unfold laws_FnExactNewBook.f
  refine Ev.bind hr (ev_ite (fun _ => ev_eq rfl) (fun hpos => ?_))
  have hz := hr2 (by omega)
  obtain ⟨⟨b0, b1, b2, ok⟩, h1, h2⟩ := both l (by have := hz.2.1; omega) (fun y hy => by have := hz.2.2 y hy; omega)
  refine Ev.bind (toStringS_ev l hl) (Ev.bind h1 (Ev.bind (toStringS_ev l hl) (Ev.bind h2 ?_)))
  simp only [eqBook_refl, bne_self_eq_false]
  refine ev_some (ev_pos rfl (Ev.step (fun k => by unfold laws_FnExactNewBook.j0; rfl) (ev_neg (by decide) ?_)))
  exact Ev.bind (toStringS_ev l hl) (Ev.bind (eqStringS_ev l l (by omega)) (ev_pos (by simp) (ev_eq rfl)))
end Go.Proofs.YtmecniejpoopfaaGreatDoor.Pure
