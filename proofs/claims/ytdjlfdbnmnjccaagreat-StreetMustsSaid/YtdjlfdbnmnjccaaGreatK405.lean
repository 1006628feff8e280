/- A part of the proof of a law of this seat: lemmas that hold without conditions. -/
import Derived.Test.YtdjlfdbnmnjccaaGreatK404
set_option linter.all false
set_option linter.unusedSectionVars false
section
set_option linter.unusedVariables false
set_option linter.unusedSimpArgs false
namespace Go.Proofs.YtdjlfdbnmnjccaaGreat.St
open Go.RowKit Go.Proofs.YtdjlfdbnmnjccaaGreatW.PrintWords Go.Proofs.YtdjlfdbnmnjccaaGreatW.PrintLast Go.Proofs.YtdjlfdbnmnjccaaGreatW.PrintMore
set_option maxRecDepth 100000 in
theorem order_cells {H : Type} {enc : TypeId × Value → H} {w : World} {base : Nat} {spare : Nat → Bool} {held : Bool} {fuel : Nat} {cs : List Value} {x : DataW H × List MemPlace} (h : DataW.trod enc Tryz.prog w base spare held fuel 62 cs = some x) :
    ∃ p : S62, cs = [.int .i64 p.f0, .int .i64 p.f1, .string p.f2] := by
  obtain ⟨y0, y1, y2, n, _, hl, h0, h1, h2⟩ := Go.Deep.trod_struct3 Tryz.underlying62 h
  obtain ⟨n0, e0, _, _⟩ := DataW.trod_int Tryz.underlying3 h0
  obtain ⟨n1, e1, _, _⟩ := DataW.trod_int Tryz.underlying3 h1
  obtain ⟨s2, e2, _, _⟩ := DataW.trod_string Tryz.underlying9 h2
  have hl3 : cs.length = 3 := hl.trans (by kernel_rfl)
  match cs, hl3 with
  | [a, b, c], _ =>
    have k0 : a = .int .i64 n0 := by
      have : [a] = [Value.int .i64 n0] := e0
      exact List.head_eq_of_cons_eq this
    have k1 : b = .int .i64 n1 := by
      have : [b] = [Value.int .i64 n1] := e1
      exact List.head_eq_of_cons_eq this
    have k2 : c = .string s2 := by
      have : [c] = [Value.string s2] := e2
      exact List.head_eq_of_cons_eq this
    subst k0; subst k1; subst k2
    exact ⟨⟨n0, n1, s2⟩, rfl⟩
theorem open_orders {H : Type} {enc : TypeId × Value → H} {w : World} {base : Nat} {spare : Nat → Bool} {held : Bool} {fuel : Nat} {cs : List Value} {x : DataW H × List MemPlace} (h : DataW.trod enc Tryz.prog w base spare held fuel 58 cs = some x) :
    ∃ (A : Option Addr) (c : Nat) (l : List S62), cs = [.slice A l.length c] ∧ l.length ≤ c ∧ Kd.C k62 w A l.length l := by
  rcases Go.Deep.open_slice Tryz.underlying58 h with ⟨rfl, _⟩ | ⟨a, len, cap, m, n, D, Pl, rfl, _, hl, hm, hmm, _, hc⟩
  · exact ⟨none, 0, [], rfl, Nat.le_refl _, Kd.C_nil _ _⟩
  · have h3 : Tryz.prog.cellsOf 62 = 3 := by kernel_rfl
    have key : ∀ i : Nat, ∃ p : S62, i < m → w.cells? base (a.add (i * 3)) 3 = some [.int .i64 p.f0, .int .i64 p.f1, .string p.f2] := by
      intro i
      by_cases hi : i < m
      · obtain ⟨cs', k1, k2⟩ := hc i hi
        obtain ⟨p, rfl⟩ := order_cells k2
        rw [h3] at k1
        exact ⟨p, fun _ => k1⟩
      · exact ⟨⟨0, 0, ByteArray.empty⟩, fun h => absurd h hi⟩
    obtain ⟨Sx, hS⟩ := Classical.axiomOfChoice key
    refine ⟨some a, cap, (List.range len).map Sx, by simp, by simpa using hl, rfl, by simp [maxLen] at hm ⊢; omega, fun _ => ⟨a, rfl, fun j p hj => ⟨[.int .i64 p.f0, .int .i64 p.f1, .string p.f2], rfl, k62_mk w p, fun i u hi => ?_⟩⟩⟩
    obtain ⟨hjl, e⟩ := List.getElem?_eq_some_iff.1 hj
    rw [List.length_map, List.length_range] at hjl
    rw [List.getElem_map, List.getElem_range] at e
    subst e
    obtain ⟨c0, c1, c2⟩ := cells3 (hS j (by rw [hmm]; split <;> omega))
    have ha : ∀ q : Nat, (a.add (j * 3)).add q = a.add (j * 3 + q) := fun q => by
      unfold Addr.add
      by_cases z1 : j * 3 = 0
      · rw [if_pos z1, z1, Nat.zero_add]
      · rw [if_neg z1]
        by_cases z2 : q = 0
        · subst z2; rw [if_pos rfl, Nat.add_zero, if_neg z1]
        · rw [if_neg z2, if_neg (by omega), Nat.add_assoc]
    rw [ha] at c0 c1 c2
    match i, hi with
    | 0, hi => obtain rfl := Option.some.inj hi; exact c0
    | 1, hi => obtain rfl := Option.some.inj hi; exact c1
    | 2, hi => obtain rfl := Option.some.inj hi; exact c2
    | i + 3, hi => simp at hi
end Go.Proofs.YtdjlfdbnmnjccaaGreat.St
end
