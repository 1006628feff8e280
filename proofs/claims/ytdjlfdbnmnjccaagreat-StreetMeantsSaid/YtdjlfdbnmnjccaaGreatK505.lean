/- A part of the proof of a law of this seat: lemmas that hold without conditions. -/
import Derived.Deep.Strs
import Derived.Deep.Slices
import Derived.Test.YtdjlfdbnmnjccaaGreatB03
set_option linter.all false
set_option linter.unusedSectionVars false
section
set_option linter.unusedVariables false
set_option linter.unusedSimpArgs false
namespace Go.Proofs.YtdjlfdbnmnjccaaGreat.St
open Go.RowKit Go.Proofs.YtdjlfdbnmnjccaaGreatW.PrintWords Go.Proofs.YtdjlfdbnmnjccaaGreatW.PrintLast Go.Proofs.YtdjlfdbnmnjccaaGreatW.PrintMore
theorem open_texts {H : Type} {enc : TypeId × Value → H} {w : World} {base : Nat} {spare : Nat → Bool} {held : Bool} {fuel : Nat} {cs : List Value} {x : DataW H × List MemPlace} (h : DataW.trod enc Tryz.prog w base spare held fuel 22 cs = some x) :
    ∃ (A : Option Addr) (c : Nat) (l : List ByteArray), cs = [.slice A l.length c] ∧ l.length ≤ c ∧ Kd.C Kd.string w A l.length l := by
  rcases Go.Deep.open_strs Tryz.underlying22 Tryz.underlying9 (by kernel_rfl) h with ⟨rfl, _⟩ | ⟨a, len, cap, m, Sx, rfl, _, hl, hm, hmm, _, hc⟩
  · exact ⟨none, 0, [], rfl, Nat.le_refl _, Kd.C_nil _ _⟩
  · refine ⟨some a, cap, (List.range len).map Sx, by simp, by simpa using hl, rfl, by simp [maxLen] at hm ⊢; omega, fun _ => ⟨a, rfl, fun j p hj => ⟨[.string p], rfl, rfl, fun i u hi => ?_⟩⟩⟩
    obtain ⟨hjl, e⟩ := List.getElem?_eq_some_iff.1 hj
    rw [List.length_map, List.length_range] at hjl
    rw [List.getElem_map, List.getElem_range] at e
    subst e
    cases i with
    | zero =>
      have e2 : u = .string (Sx j) := (Option.some.inj hi).symm
      rw [e2, show j * Kd.string.sz + 0 = j from Nat.mul_one j]
      exact (hc j (by rw [hmm]; split <;> omega)).1
    | succ i => exact absurd hi (by simp)
set_option maxRecDepth 100000 in
theorem change_cells {H : Type} {enc : TypeId × Value → H} {w : World} {base : Nat} {spare : Nat → Bool} {held : Bool} {fuel : Nat} {cs : List Value} {x : DataW H × List MemPlace} (h : DataW.trod enc Tryz.prog w base spare held fuel 60 cs = some x) :
    ∃ p : S60, cs = [.int .i64 p.f0, .int .i64 p.f1, .string p.f2] := by
  obtain ⟨y0, y1, y2, n, _, hl, h0, h1, h2⟩ := Go.Deep.trod_struct3 Tryz.underlying60 h
  obtain ⟨n0, e0, _, _⟩ := DataW.trod_int Tryz.underlying3 h0
  obtain ⟨n1, e1, _, _⟩ := DataW.trod_int Tryz.underlying3 h1
  obtain ⟨s2, e2, _, _⟩ := DataW.trod_string Tryz.underlying9 h2
  have hl3 : cs.length = 3 := hl.trans (by kernel_rfl)
  match cs, hl3 with
  | [a, b, c], _ =>
    have k0 : a = .int .i64 n0 := by
      have : [a] = [Value.int .i64 n0] := e0
      exact List.head_eq_of_cons_eq this
    have k1 : b = .int .i64 n1 := by
      have : [b] = [Value.int .i64 n1] := e1
      exact List.head_eq_of_cons_eq this
    have k2 : c = .string s2 := by
      have : [c] = [Value.string s2] := e2
      exact List.head_eq_of_cons_eq this
    subst k0; subst k1; subst k2
    exact ⟨⟨n0, n1, s2⟩, rfl⟩
theorem cells3 {w : World} {base : Nat} {a : Addr} {v0 v1 v2 : Value} (h : w.cells? base a 3 = some [v0, v1, v2]) : w.cell? (a.add 0) = some v0 ∧ w.cell? (a.add 1) = some v1 ∧ w.cell? (a.add 2) = some v2 := by
  unfold World.cells? at h
  split at h
  · simp only [List.range_succ, List.range_zero, List.nil_append, List.cons_append, List.mapM_cons, List.mapM_nil, Option.bind_eq_bind, Option.pure_def] at h
    cases h0 : w.cell? (a.add 0) with
    | none => simp [h0] at h
    | some u0 =>
      cases h1 : w.cell? (a.add 1) with
      | none => simp [h0, h1] at h
      | some u1 =>
        cases h2 : w.cell? (a.add 2) with
        | none => simp [h0, h1, h2] at h
        | some u2 =>
          simp [h0, h1, h2] at h
          obtain ⟨rfl, rfl, rfl⟩ := h
          exact ⟨rfl, rfl, rfl⟩
  · cases h
theorem open_changes {H : Type} {enc : TypeId × Value → H} {w : World} {base : Nat} {spare : Nat → Bool} {held : Bool} {fuel : Nat} {cs : List Value} {x : DataW H × List MemPlace} (h : DataW.trod enc Tryz.prog w base spare held fuel 23 cs = some x) :
    ∃ (A : Option Addr) (c : Nat) (l : List S60), cs = [.slice A l.length c] ∧ l.length ≤ c ∧ Kd.C k60 w A l.length l := by
  rcases Go.Deep.open_slice Tryz.underlying23 h with ⟨rfl, _⟩ | ⟨a, len, cap, m, n, D, Pl, rfl, _, hl, hm, hmm, _, hc⟩
  · exact ⟨none, 0, [], rfl, Nat.le_refl _, Kd.C_nil _ _⟩
  · have h3 : Tryz.prog.cellsOf 60 = 3 := by kernel_rfl
    have key : ∀ i : Nat, ∃ p : S60, i < m → w.cells? base (a.add (i * 3)) 3 = some [.int .i64 p.f0, .int .i64 p.f1, .string p.f2] := by
      intro i
      by_cases hi : i < m
      · obtain ⟨cs', k1, k2⟩ := hc i hi
        obtain ⟨p, rfl⟩ := change_cells k2
        rw [h3] at k1
        exact ⟨p, fun _ => k1⟩
      · exact ⟨⟨0, 0, ByteArray.empty⟩, fun h => absurd h hi⟩
    obtain ⟨Sx, hS⟩ := Classical.axiomOfChoice key
    refine ⟨some a, cap, (List.range len).map Sx, by simp, by simpa using hl, rfl, by simp [maxLen] at hm ⊢; omega, fun _ => ⟨a, rfl, fun j p hj => ⟨[.int .i64 p.f0, .int .i64 p.f1, .string p.f2], rfl, k60_mk w p, fun i u hi => ?_⟩⟩⟩
    obtain ⟨hjl, e⟩ := List.getElem?_eq_some_iff.1 hj
    rw [List.length_map, List.length_range] at hjl
    rw [List.getElem_map, List.getElem_range] at e
    subst e
    obtain ⟨c0, c1, c2⟩ := cells3 (hS j (by rw [hmm]; split <;> omega))
    have ha : ∀ q : Nat, (a.add (j * 3)).add q = a.add (j * 3 + q) := fun q => by
      unfold Addr.add
      by_cases z1 : j * 3 = 0
      · rw [if_pos z1, z1, Nat.zero_add]
      · rw [if_neg z1]
        by_cases z2 : q = 0
        · subst z2; rw [if_pos rfl, Nat.add_zero, if_neg z1]
        · rw [if_neg z2, if_neg (by omega), Nat.add_assoc]
    rw [ha] at c0 c1 c2
    match i, hi with
    | 0, hi => obtain rfl := Option.some.inj hi; exact c0
    | 1, hi => obtain rfl := Option.some.inj hi; exact c1
    | 2, hi => obtain rfl := Option.some.inj hi; exact c2
    | i + 3, hi => simp at hi
set_option maxRecDepth 100000 in
theorem open_town {H : Type} {enc : TypeId × Value → H} {w : World} {base : Nat} {spare : Nat → Bool} {held : Bool} {fuel : Nat} {cs : List Value} {x : DataW H × List MemPlace} (h : DataW.trod enc Tryz.prog w base spare held fuel 25 cs = some x) :
    ∃ (A0 : Option Addr) (c0 : Nat) (l0 : List ByteArray) (A1 : Option Addr) (c1 : Nat) (l1 : List S60), cs = [.slice A0 l0.length c0, .slice A1 l1.length c1] ∧ l0.length ≤ c0 ∧ Kd.C Kd.string w A0 l0.length l0 ∧ l1.length ≤ c1 ∧ Kd.C k60 w A1 l1.length l1 := by
  obtain ⟨y0, y1, n, _, hl, h0, h1⟩ := Go.ChangeShapes.trod_struct2 Tryz.underlying25 h
  obtain ⟨A0, c0, l0, e0, n0, k0⟩ := open_texts h0
  obtain ⟨A1, c1, l1, e1, n1, k1⟩ := open_changes h1
  have hl2 : cs.length = 2 := hl.trans (by kernel_rfl)
  match cs, hl2 with
  | [a, b], _ =>
    have j0 : a = .slice A0 l0.length c0 := by
      have : [a] = [Value.slice A0 l0.length c0] := e0
      exact List.head_eq_of_cons_eq this
    have j1 : b = .slice A1 l1.length c1 := by
      have : [b] = [Value.slice A1 l1.length c1] := e1
      exact List.head_eq_of_cons_eq this
    subst j0; subst j1
    exact ⟨A0, c0, l0, A1, c1, l1, rfl, n0, k0, n1, k1⟩
end Go.Proofs.YtdjlfdbnmnjccaaGreat.St
end
section
set_option linter.unusedVariables false
set_option linter.unusedSimpArgs false
namespace Go.Proofs.YtdjlfdbnmnjccaaGreat.St
open Go.RowKit Go.Proofs.YtdjlfdbnmnjccaaGreatW.PrintWords Go.Proofs.YtdjlfdbnmnjccaaGreatW.PrintLast Go.Proofs.YtdjlfdbnmnjccaaGreatW.PrintMore
set_option maxRecDepth 100000 in
theorem ask_cells {H : Type} {enc : TypeId × Value → H} {w : World} {base : Nat} {spare : Nat → Bool} {held : Bool} {fuel : Nat} {cs : List Value} {x : DataW H × List MemPlace} (h : DataW.trod enc Tryz.prog w base spare held fuel 77 cs = some x) :
    ∃ a b c : Int, cs = [.int .i64 a, .int .i64 b, .int .i64 c] := by
  obtain ⟨y0, y1, n, _, hl, h0, h1⟩ := Go.ChangeShapes.trod_struct2 Tryz.underlying77 h
  obtain ⟨z0, z1, m, _, hl2, g0, g1⟩ := Go.ChangeShapes.trod_struct2 Tryz.underlying75 h0
  obtain ⟨n0, e0, _, _⟩ := DataW.trod_int Tryz.underlying3 g0
  obtain ⟨n1, e1, _, _⟩ := DataW.trod_int Tryz.underlying3 g1
  obtain ⟨n2, e2, _, _⟩ := DataW.trod_int Tryz.underlying3 h1
  have hs2 : Tryz.prog.cellsOf 75 = 2 := by kernel_rfl
  have hl3 : cs.length = 3 := hl.trans (by kernel_rfl)
  match cs, hl3 with
  | [a, b, c], _ =>
    have k0 : a = .int .i64 n0 := by
      have e : (([a, b, c].drop 0).take (Tryz.prog.cellsOf 75)) = [a, b] := by rw [hs2]; rfl
      rw [e] at e0
      have : [a] = [Value.int .i64 n0] := e0
      exact List.head_eq_of_cons_eq this
    have k1 : b = .int .i64 n1 := by
      have e : (([a, b, c].drop 0).take (Tryz.prog.cellsOf 75)) = [a, b] := by rw [hs2]; rfl
      rw [e] at e1
      have : [b] = [Value.int .i64 n1] := e1
      exact List.head_eq_of_cons_eq this
    have k2 : c = .int .i64 n2 := by
      have : [c] = [Value.int .i64 n2] := e2
      exact List.head_eq_of_cons_eq this
    subst k0; subst k1; subst k2
    exact ⟨n0, n1, n2, rfl⟩
end Go.Proofs.YtdjlfdbnmnjccaaGreat.St
end
