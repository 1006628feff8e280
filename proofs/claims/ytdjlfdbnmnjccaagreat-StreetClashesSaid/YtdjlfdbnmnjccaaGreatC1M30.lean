/- A part of the proof of LClashes: lemmas that hold without conditions. -/
import Derived.Test.YtdjlfdbnmnjccaaGreatC1M02
import Derived.Test.YtdjlfdbnmnjccaaGreatC1M23
import Derived.Test.YtdjlfdbnmnjccaaGreatC1M26
import Derived.Test.YtdjlfdbnmnjccaaGreatC1M28
import Derived.Test.YtdjlfdbnmnjccaaGreatC1M29
set_option linter.all false
set_option linter.unusedSectionVars false
section
namespace Go.Proofs.YtdjlfdbnmnjccaaGreat.St
open Go.RowKit Go.Proofs.YtdjlfdbnmnjccaaGreatW.PrintWords Go.Proofs.YtdjlfdbnmnjccaaGreatW.PrintLast Go.Proofs.YtdjlfdbnmnjccaaGreatW.PrintMore
attribute [local go_sem] max2_int min2_int max_two min_two max_three min_three max_four min_four
set_option linter.unusedVariables false
set_option linter.unusedSimpArgs false
attribute [local go_sem high] eqA116
def smaltoref08_Times.l0 : Nat → List (S116) → List (S116) → Int → Option (Bool)
  | 0, _, _, _ => none
  | k + 1, x0, x1, x5 => if x5 < (x0.length : Int) then (if 0 ≤ x5 then (if x5 < (x1.length : Int) then (if (!((((rd_T116 x0 x5).f0).toList) == (((rd_T116 x1 x5).f0).toList)) || ((!(((rd_T116 x0 x5).f1.f0) == ((rd_T116 x1 x5).f1.f0)) || (!(((rd_T116 x0 x5).f1.f1) == ((rd_T116 x1 x5).f1.f1)))))) = true then (some false) else (smaltoref08_Times.l0 k x0 x1 (wrap64 (x5 + 1)))) else (none)) else (none)) else (some true)
def smaltoref08_Times.f (k : Nat) (l0 : List (S116)) (l1 : List (S116)) : Option (Bool) := if (l0.length : Int) = (l1.length : Int) then (smaltoref08_Times.l0 k l0 l1 0) else (some false)
set_option maxHeartbeats 8000000 in
set_option maxRecDepth 100000 in
theorem smaltoref08_Times.calls (k : Nat) (A0 : Option Addr) (c0 : Nat) (l0 : List (S116)) (A1 : Option Addr) (c1 : Nat) (l1 : List (S116)) (r : Bool) (w : World) (hr0 : Kd.C k116 w A0 l0.length l0) (hc0 : l0.length ≤ c0) (hr1 : Kd.C k116 w A1 l1.length l1) (hc1 : l1.length ≤ c1) (h : smaltoref08_Times.f k l0 l1 = some r) :
    Calls Tryz.prog 29 #[.slice A0 l0.length c0, .slice A1 l1.length c1] w fun e w' => e = .returned (.bool r) ∧ Drawn0 w w' := by
  have hu116 := Tryz.underlying116
  have HR0 := Aside0.mk hr0
  have HC0 := Aside0.mk hc0
  clear hr0 hc0
  have HR1 := Aside0.mk hr1
  have HC1 := Aside0.mk hc1
  clear hr1 hc1
  have H : (if (l0.length : Int) = (l1.length : Int) then (smaltoref08_Times.l0 k l0 l1 0) else (some false)) = some r := h
  clear h
  by_cases c3 : (l0.length : Int) = (l1.length : Int)
  · rw [if_pos c3] at H
    have c3b0 : ((l0.length : Int) == (l1.length : Int)) = true := beq_iff_eq.mpr c3
    have c3b1 : ((l0.length : Int) != (l1.length : Int)) = false := bne_eq_false_iff_eq.mpr c3
    have c3b2 : (l0.length == l1.length) = true := by first | simpa using c3 | (simp at c3 ⊢; omega)
    clear c3
    have H' := Aside0.mk H
    clear H
    go_enter Tryz.func29, Tryz.ntmps29
    go_wp2
    repeat (go_quiet (fail); try go_wp2)
    go_loopg [5] k (fun kq v5 w' => ∃ (x5_1 : Int), v5 = .int .i64 x5_1 ∧ Aside0 (smaltoref08_Times.l0 kq l0 l1 x5_1 = some r) ∧ Aside0 (kq ≤ k) ∧ Drawn0 w w')
    case atStart => exact ⟨(0), (by first | rfl | (simp; done) | (simp [*]; done)), H', ⟨Nat.le_refl _⟩, by repeat (first | exact Drawn0.refl _ | apply Drawn0.step)⟩
    case round =>
      clear H'
      try clear c1
      try clear c2
      try clear p2
      try clear c3
      try clear c3b0
      try clear c3b1
      try clear c3b2
      obtain ⟨x5_1, rfl, HA, HK1, ⟨m1, rfl⟩⟩ := hrel
      cases gk with
      | zero => exact absurd HA.out (by simp [smaltoref08_Times.l0])
      | succ k1 =>
        have H := HA.out
        clear HA
        simp only [smaltoref08_Times.l0] at H
        by_cases c4 : x5_1 < (l0.length : Int)
        · rw [if_pos c4] at H
          have c4b0 : decide (x5_1 < (l0.length : Int)) = true := decide_eq_true c4
          clear c4
          by_cases c5 : 0 ≤ x5_1
          · rw [if_pos c5] at H
            have c5b0 : decide (0 ≤ x5_1) = true := decide_eq_true c5
            clear c5
            by_cases c6 : x5_1 < (l1.length : Int)
            · rw [if_pos c6] at H
              have c6b0 : decide (x5_1 < (l1.length : Int)) = true := decide_eq_true c6
              clear c6
              by_cases c7 : (!((((rd_T116 l0 x5_1).f0).toList) == (((rd_T116 l1 x5_1).f0).toList)) || ((!(((rd_T116 l0 x5_1).f1.f0) == ((rd_T116 l1 x5_1).f1.f0)) || (!(((rd_T116 l0 x5_1).f1.f1) == ((rd_T116 l1 x5_1).f1.f1)))))) = true
              · rw [if_pos c7] at H
                have c7b0 : (!((((rd_T116 l0 x5_1).f0).toList) == (((rd_T116 l1 x5_1).f0).toList)) || ((!(((rd_T116 l0 x5_1).f1.f0) == ((rd_T116 l1 x5_1).f1.f0)) || (!(((rd_T116 l0 x5_1).f1.f1) == ((rd_T116 l1 x5_1).f1.f1)))))) = true := c7
                clear c7
                obtain rfl := Option.some.inj H
                have p265 : 0 ≤ (x5_1 : Int) := of_decide_eq_true (by first | (with_reducible assumption) | assumption)
                have q265 : x5_1 < (l0.length : Int) := of_decide_eq_true (by first | (with_reducible assumption) | assumption)
                obtain ⟨ad265, e265, hx265_0, hx265_1, hx265_2⟩ := at_T116 HR0.out x5_1 p265 q265
                cases e265
                replace p265 := eq_true p265
                replace q265 := eq_true q265
                have p266 : 0 ≤ (x5_1 : Int) := of_decide_eq_true (by first | (with_reducible assumption) | assumption)
                have q266 : x5_1 < (l1.length : Int) := of_decide_eq_true (by first | (with_reducible assumption) | assumption)
                obtain ⟨ad266, e266, hx266_0, hx266_1, hx266_2⟩ := at_T116 HR1.out x5_1 p266 q266
                cases e266
                replace p266 := eq_true p266
                replace q266 := eq_true q266
                go_wp2
                repeat (go_quiet (fail); try go_wp2)
                go_ret
                exact ⟨by first | rfl | (simp; done) | (simp [*]; done), by repeat (first | exact Drawn0.refl _ | apply Drawn0.step)⟩
              · rw [if_neg c7] at H
                have c7b0 : (!((((rd_T116 l0 x5_1).f0).toList) == (((rd_T116 l1 x5_1).f0).toList)) || ((!(((rd_T116 l0 x5_1).f1.f0) == ((rd_T116 l1 x5_1).f1.f0)) || (!(((rd_T116 l0 x5_1).f1.f1) == ((rd_T116 l1 x5_1).f1.f1)))))) = false := by simpa using c7
                clear c7
                have H' := Aside0.mk H
                clear H
                have p265 : 0 ≤ (x5_1 : Int) := of_decide_eq_true (by first | (with_reducible assumption) | assumption)
                have q265 : x5_1 < (l0.length : Int) := of_decide_eq_true (by first | (with_reducible assumption) | assumption)
                obtain ⟨ad265, e265, hx265_0, hx265_1, hx265_2⟩ := at_T116 HR0.out x5_1 p265 q265
                cases e265
                replace p265 := eq_true p265
                replace q265 := eq_true q265
                have p266 : 0 ≤ (x5_1 : Int) := of_decide_eq_true (by first | (with_reducible assumption) | assumption)
                have q266 : x5_1 < (l1.length : Int) := of_decide_eq_true (by first | (with_reducible assumption) | assumption)
                obtain ⟨ad266, e266, hx266_0, hx266_1, hx266_2⟩ := at_T116 HR1.out x5_1 p266 q266
                cases e266
                replace p266 := eq_true p266
                replace q266 := eq_true q266
                go_wp2
                repeat (go_quiet (fail); try go_wp2)
                go_roundg k1
                case measure => have := HK1.out; omega
                case rel => exact ⟨(wrap64 (x5_1 + 1)), (by first | rfl | (simp; done) | (simp [*]; done)), H', ⟨by have := HK1.out; omega⟩, by repeat (first | exact Drawn0.refl _ | apply Drawn0.step)⟩
            · rw [if_neg c6] at H
              exact absurd H (by simp)
          · rw [if_neg c5] at H
            exact absurd H (by simp)
        · rw [if_neg c4] at H
          have c4b0 : decide (x5_1 < (l0.length : Int)) = false := decide_eq_false c4
          clear c4
          obtain rfl := Option.some.inj H
          go_wp2
          repeat (go_quiet (fail); try go_wp2)
          go_ret
          exact ⟨by first | rfl | (simp; done) | (simp [*]; done), by repeat (first | exact Drawn0.refl _ | apply Drawn0.step)⟩
  · rw [if_neg c3] at H
    have c3b0 : ((l0.length : Int) == (l1.length : Int)) = false := beq_eq_false_iff_ne.mpr c3
    have c3b1 : ((l0.length : Int) != (l1.length : Int)) = true := bne_iff_ne.mpr c3
    have c3b2 : (l0.length == l1.length) = false := by first | simpa using c3 | (simp at c3 ⊢; omega)
    obtain rfl := Option.some.inj H
    go_enter Tryz.func29, Tryz.ntmps29
    go_wp2
    repeat (go_quiet (fail); try go_wp2)
    go_ret
    exact ⟨by first | rfl | (simp; done) | (simp [*]; done), by repeat (first | exact Drawn0.refl _ | apply Drawn0.step)⟩
end Go.Proofs.YtdjlfdbnmnjccaaGreat.St
end
section
namespace Go.Proofs.YtdjlfdbnmnjccaaGreat.St
open Go.RowKit Go.Proofs.YtdjlfdbnmnjccaaGreatW.PrintWords Go.Proofs.YtdjlfdbnmnjccaaGreatW.PrintLast Go.Proofs.YtdjlfdbnmnjccaaGreatW.PrintMore
attribute [local go_sem] max2_int min2_int max_two min_two max_three min_three max_four min_four
set_option linter.unusedVariables false
set_option linter.unusedSimpArgs false
attribute [local go_sem high] eqA75
def smaltoref08_Spans.l0 : Nat → List (S75) → List (S75) → Int → Option (Bool)
  | 0, _, _, _ => none
  | k + 1, x0, x1, x5 => if x5 < (x0.length : Int) then (if 0 ≤ x5 then (if x5 < (x1.length : Int) then (if (!(((rd_T75 x0 x5).f0) == ((rd_T75 x1 x5).f0)) || (!(((rd_T75 x0 x5).f1) == ((rd_T75 x1 x5).f1)))) = true then (some false) else (smaltoref08_Spans.l0 k x0 x1 (wrap64 (x5 + 1)))) else (none)) else (none)) else (some true)
def smaltoref08_Spans.f (k : Nat) (l0 : List (S75)) (l1 : List (S75)) : Option (Bool) := if (l0.length : Int) = (l1.length : Int) then (smaltoref08_Spans.l0 k l0 l1 0) else (some false)
set_option maxHeartbeats 8000000 in
set_option maxRecDepth 100000 in
theorem smaltoref08_Spans.calls (k : Nat) (A0 : Option Addr) (c0 : Nat) (l0 : List (S75)) (A1 : Option Addr) (c1 : Nat) (l1 : List (S75)) (r : Bool) (w : World) (hr0 : Kd.C k75 w A0 l0.length l0) (hc0 : l0.length ≤ c0) (hr1 : Kd.C k75 w A1 l1.length l1) (hc1 : l1.length ≤ c1) (h : smaltoref08_Spans.f k l0 l1 = some r) :
    Calls Tryz.prog 47 #[.slice A0 l0.length c0, .slice A1 l1.length c1] w fun e w' => e = .returned (.bool r) ∧ Drawn0 w w' := by
  have hu75 := Tryz.underlying75
  have HR0 := Aside0.mk hr0
  have HC0 := Aside0.mk hc0
  clear hr0 hc0
  have HR1 := Aside0.mk hr1
  have HC1 := Aside0.mk hc1
  clear hr1 hc1
  have H : (if (l0.length : Int) = (l1.length : Int) then (smaltoref08_Spans.l0 k l0 l1 0) else (some false)) = some r := h
  clear h
  by_cases c3 : (l0.length : Int) = (l1.length : Int)
  · rw [if_pos c3] at H
    have c3b0 : ((l0.length : Int) == (l1.length : Int)) = true := beq_iff_eq.mpr c3
    have c3b1 : ((l0.length : Int) != (l1.length : Int)) = false := bne_eq_false_iff_eq.mpr c3
    have c3b2 : (l0.length == l1.length) = true := by first | simpa using c3 | (simp at c3 ⊢; omega)
    clear c3
    have H' := Aside0.mk H
    clear H
    go_enter Tryz.func47, Tryz.ntmps47
    go_wp2
    repeat (go_quiet (fail); try go_wp2)
    go_loopg [5] k (fun kq v5 w' => ∃ (x5_1 : Int), v5 = .int .i64 x5_1 ∧ Aside0 (smaltoref08_Spans.l0 kq l0 l1 x5_1 = some r) ∧ Aside0 (kq ≤ k) ∧ Drawn0 w w')
    case atStart => exact ⟨(0), (by first | rfl | (simp; done) | (simp [*]; done)), H', ⟨Nat.le_refl _⟩, by repeat (first | exact Drawn0.refl _ | apply Drawn0.step)⟩
    case round =>
      clear H'
      try clear c1
      try clear p2
      try clear c3
      try clear c3b0
      try clear c3b1
      try clear c3b2
      obtain ⟨x5_1, rfl, HA, HK1, ⟨m1, rfl⟩⟩ := hrel
      cases gk with
      | zero => exact absurd HA.out (by simp [smaltoref08_Spans.l0])
      | succ k1 =>
        have H := HA.out
        clear HA
        simp only [smaltoref08_Spans.l0] at H
        by_cases c4 : x5_1 < (l0.length : Int)
        · rw [if_pos c4] at H
          have c4b0 : decide (x5_1 < (l0.length : Int)) = true := decide_eq_true c4
          clear c4
          by_cases c5 : 0 ≤ x5_1
          · rw [if_pos c5] at H
            have c5b0 : decide (0 ≤ x5_1) = true := decide_eq_true c5
            clear c5
            by_cases c6 : x5_1 < (l1.length : Int)
            · rw [if_pos c6] at H
              have c6b0 : decide (x5_1 < (l1.length : Int)) = true := decide_eq_true c6
              clear c6
              by_cases c7 : (!(((rd_T75 l0 x5_1).f0) == ((rd_T75 l1 x5_1).f0)) || (!(((rd_T75 l0 x5_1).f1) == ((rd_T75 l1 x5_1).f1)))) = true
              · rw [if_pos c7] at H
                have c7b0 : (!(((rd_T75 l0 x5_1).f0) == ((rd_T75 l1 x5_1).f0)) || (!(((rd_T75 l0 x5_1).f1) == ((rd_T75 l1 x5_1).f1)))) = true := c7
                clear c7
                obtain rfl := Option.some.inj H
                have p297 : 0 ≤ (x5_1 : Int) := of_decide_eq_true (by first | (with_reducible assumption) | assumption)
                have q297 : x5_1 < (l0.length : Int) := of_decide_eq_true (by first | (with_reducible assumption) | assumption)
                obtain ⟨ad297, e297, hx297_0, hx297_1⟩ := at_T75 HR0.out x5_1 p297 q297
                cases e297
                replace p297 := eq_true p297
                replace q297 := eq_true q297
                have p298 : 0 ≤ (x5_1 : Int) := of_decide_eq_true (by first | (with_reducible assumption) | assumption)
                have q298 : x5_1 < (l1.length : Int) := of_decide_eq_true (by first | (with_reducible assumption) | assumption)
                obtain ⟨ad298, e298, hx298_0, hx298_1⟩ := at_T75 HR1.out x5_1 p298 q298
                cases e298
                replace p298 := eq_true p298
                replace q298 := eq_true q298
                go_wp2
                repeat (go_quiet (fail); try go_wp2)
                go_ret
                exact ⟨by first | rfl | (simp; done) | (simp [*]; done), by repeat (first | exact Drawn0.refl _ | apply Drawn0.step)⟩
              · rw [if_neg c7] at H
                have c7b0 : (!(((rd_T75 l0 x5_1).f0) == ((rd_T75 l1 x5_1).f0)) || (!(((rd_T75 l0 x5_1).f1) == ((rd_T75 l1 x5_1).f1)))) = false := by simpa using c7
                clear c7
                have H' := Aside0.mk H
                clear H
                have p297 : 0 ≤ (x5_1 : Int) := of_decide_eq_true (by first | (with_reducible assumption) | assumption)
                have q297 : x5_1 < (l0.length : Int) := of_decide_eq_true (by first | (with_reducible assumption) | assumption)
                obtain ⟨ad297, e297, hx297_0, hx297_1⟩ := at_T75 HR0.out x5_1 p297 q297
                cases e297
                replace p297 := eq_true p297
                replace q297 := eq_true q297
                have p298 : 0 ≤ (x5_1 : Int) := of_decide_eq_true (by first | (with_reducible assumption) | assumption)
                have q298 : x5_1 < (l1.length : Int) := of_decide_eq_true (by first | (with_reducible assumption) | assumption)
                obtain ⟨ad298, e298, hx298_0, hx298_1⟩ := at_T75 HR1.out x5_1 p298 q298
                cases e298
                replace p298 := eq_true p298
                replace q298 := eq_true q298
                go_wp2
                repeat (go_quiet (fail); try go_wp2)
                go_roundg k1
                case measure => have := HK1.out; omega
                case rel => exact ⟨(wrap64 (x5_1 + 1)), (by first | rfl | (simp; done) | (simp [*]; done)), H', ⟨by have := HK1.out; omega⟩, by repeat (first | exact Drawn0.refl _ | apply Drawn0.step)⟩
            · rw [if_neg c6] at H
              exact absurd H (by simp)
          · rw [if_neg c5] at H
            exact absurd H (by simp)
        · rw [if_neg c4] at H
          have c4b0 : decide (x5_1 < (l0.length : Int)) = false := decide_eq_false c4
          clear c4
          obtain rfl := Option.some.inj H
          go_wp2
          repeat (go_quiet (fail); try go_wp2)
          go_ret
          exact ⟨by first | rfl | (simp; done) | (simp [*]; done), by repeat (first | exact Drawn0.refl _ | apply Drawn0.step)⟩
  · rw [if_neg c3] at H
    have c3b0 : ((l0.length : Int) == (l1.length : Int)) = false := beq_eq_false_iff_ne.mpr c3
    have c3b1 : ((l0.length : Int) != (l1.length : Int)) = true := bne_iff_ne.mpr c3
    have c3b2 : (l0.length == l1.length) = false := by first | simpa using c3 | (simp at c3 ⊢; omega)
    obtain rfl := Option.some.inj H
    go_enter Tryz.func47, Tryz.ntmps47
    go_wp2
    repeat (go_quiet (fail); try go_wp2)
    go_ret
    exact ⟨by first | rfl | (simp; done) | (simp [*]; done), by repeat (first | exact Drawn0.refl _ | apply Drawn0.step)⟩
end Go.Proofs.YtdjlfdbnmnjccaaGreat.St
end
section
set_option linter.unusedVariables false
set_option linter.unusedSimpArgs false
namespace Go.Proofs.YtdjlfdbnmnjccaaGreat.St
open Go.RowKit Go.Shelf Go.Proofs.YtdjlfdbnmnjccaaGreatW.PrintWords Go.Proofs.YtdjlfdbnmnjccaaGreatW.PrintLast Go.Proofs.YtdjlfdbnmnjccaaGreatW.PrintMore
def rClash : List Int := [0, 1]
def rHist : List S116 := [⟨xKing, ⟨0, 99⟩⟩, ⟨xQueen, ⟨100, 299⟩⟩, ⟨xMill, ⟨300, 1000⟩⟩]
def rAgain : List ByteArray := [xKing, xMill]
def rMust : List ByteArray := [xMill, xKing, xQueen]
def rWrong : List Int := [1]
def rChanged : List Int := [2]
def rPoss : List Int := [2]
def rNear : List Int := [0]
def rHours : List S75 := [⟨200, 299⟩]
def rBad : List Int := [2]
structure LC {α : Type} (d : Kd α) (w : World) (A : Option Addr) (c : Nat) (xs : List α) : Prop where
  kc : Kd.C d w A xs.length xs
  kn : xs.length ≤ c
theorem LC.below {α : Type} {d : Kd α} {w w' : World} {A : Option Addr} {c : Nat} {xs : List α} (h : LC d w A c xs) (hb : Below w.heap.size w w') : LC d w' A c xs := ⟨Kd.C_below h.kc hb, h.kn⟩
structure TownC (w : World) (A : Option Addr) (c : Nat) (A' : Option Addr) (c' : Nat) (cs : List S60) : Prop where
  f : LC Kd.string w A c xF
  g : LC k60 w A' c' cs
theorem TownC.below {w w' : World} {A A' : Option Addr} {c c' : Nat} {cs : List S60} (h : TownC w A c A' c' cs) (hb : Below w.heap.size w w') : TownC w' A c A' c' cs := ⟨h.f.below hb, h.g.below hb⟩
theorem LC.of {α : Type} {d : Kd α} {e base : Nat} {ok : Nat → Prop} {w : World} {v : Value} {xs : List α} (h : Kd.R d e w base ok v xs) : ∃ A c, v = .slice A xs.length c ∧ LC d w A c xs := by
  obtain ⟨A, c, e, h1, h2⟩ := Kd.R_reads h
  exact ⟨A, c, e, h2, h1⟩
theorem R_new {α : Type} (d : Kd α) (e : Nat) (W : World) (xs : List α) (inner : List Value) (hrep : Reps (d.M W W.heap.size fun _ => True) d.sz xs inner) (hm : xs.length ≤ 9223372036854775807) :
    Kd.R d e (W.alloc (.cells inner.toArray e)) W.heap.size (fun _ => True) (.slice (some ⟨W.heap.size, 0, none⟩) xs.length xs.length) xs := by
  refine ⟨fun _ _ => trivial, inner, ?_, ?_⟩
  · have h2 := World.ownsRow_lit (base := W.heap.size) (e := e) (size := d.sz) W inner.toArray xs.length (Nat.le_refl _) (by simpa [maxLen] using hm) (by simpa using hrep.1)
    simpa using h2
  · refine hrep.imp_ (fun p c hp => d.M_mono (fun k hk => ⟨trivial, fun he => ?_⟩) (Kd.M_below (d.M_bound hp) (below_alloc (Below.refl _ _) _)))
    have h3 : k = W.heap.size := by simpa [Value.ownBlock] using he
    have := hk.2.2.1
    omega
theorem LC.new {α : Type} (d : Kd α) (e : Nat) (W : World) (xs : List α) (inner : List Value) (hrep : Reps (d.M W W.heap.size fun _ => True) d.sz xs inner) (hm : xs.length ≤ 9223372036854775807) :
    LC d (W.alloc (.cells inner.toArray e)) (some ⟨W.heap.size, 0, none⟩) xs.length xs := by
  obtain ⟨A, c, e1, h1⟩ := LC.of (R_new d e W xs inner hrep hm)
  injection e1 with e1 e2 e3
  subst e1
  subst e3
  exact h1
theorem townK (w : World) : Calls Tryz.prog 55 #[.slice none 0 0] w fun e w' => ∃ A c A' c', e = .returned (.agg #[.slice A xF.length c, .slice A' xC.length c']) ∧ Aside0 (TownC w' A c A' c' xC) ∧ Aside0 (Below w.heap.size w w') := by
  refine (smaltolaw08_town.calls none 0 [] xF xC w (Kd.C_nil _ _) (Nat.le_refl _) ev_town).mono ?_
  rintro e w' ⟨v0, v1, rfl, h0, h1, hb⟩
  obtain ⟨A, c, rfl, k0⟩ := LC.of h0
  obtain ⟨A', c', rfl, k1⟩ := LC.of h1
  exact ⟨A, c, A', c', rfl, ⟨⟨k0, k1⟩⟩, ⟨hb⟩⟩
theorem changeK (a0 a1 : Int) (a2 : ByteArray) (w : World) : Calls Tryz.prog 56 #[.int .i64 a0, .int .i64 a1, .string a2] w fun e w' => e = .returned (.agg #[.int .i64 a0, .int .i64 a1, .string a2]) ∧ Aside0 (Below w.heap.size w w') :=
  (smaltolaw08_change.calls a0 a1 a2 a0 a1 a2 w rfl).mono fun e w' ⟨h, hb⟩ => ⟨h, ⟨hb⟩⟩
theorem spanK (a0 a1 : Int) (w : World) : Calls Tryz.prog 58 #[.int .i64 a0, .int .i64 a1] w fun e w' => e = .returned (.agg #[.int .i64 a0, .int .i64 a1]) ∧ Aside0 (Below w.heap.size w w') :=
  (smaltolaw08_span.calls a0 a1 a0 a1 w rfl).mono fun e w' ⟨h, hb⟩ => ⟨h, ⟨hb⟩⟩
theorem ordersK (w : World) : Calls Tryz.prog 57 #[] w fun e w' => ∃ A c, e = .returned (.slice A xO.length c) ∧ Aside0 (LC k62 w' A c xO) ∧ Aside0 (Below w.heap.size w w') := by
  refine (smaltolaw08_orders.calls xO w ev_orders).mono ?_
  rintro e w' ⟨v0, rfl, h0, hb⟩
  obtain ⟨A, c, rfl, k0⟩ := LC.of h0
  exact ⟨A, c, rfl, ⟨k0⟩, ⟨hb⟩⟩
theorem townK1 (w : World) : Calls Tryz.prog 55 #[.slice (some ⟨w.heap.size, 0, none⟩) 1 1] (w.alloc (.cells #[.int .i64 250, .int .i64 1, .string ⟨#[107, 105, 110, 103]⟩] 60)) fun e w' => ∃ A c A' c', e = .returned (.agg #[.slice A xF.length c, .slice A' xC1.length c']) ∧ Aside0 (TownC w' A c A' c' xC1) ∧ Aside0 (Below w.heap.size w w') := by
  have hn := LC.new k60 60 w [⟨250, 1, xKing⟩] [.int .i64 250, .int .i64 1, .string ⟨#[107, 105, 110, 103]⟩] (Reps.c3 (k60_mkM _ _ _ ⟨250, 1, xKing⟩) (Reps.none _ _)) (by simp)
  refine (smaltolaw08_town.calls _ _ [⟨250, 1, xKing⟩] xF xC1 _ hn.kc hn.kn ev_town1).mono ?_
  rintro e w' ⟨v0, v1, rfl, h0, h1, hb⟩
  obtain ⟨A, c, rfl, k0⟩ := LC.of h0
  obtain ⟨A', c', rfl, k1⟩ := LC.of h1
  exact ⟨A, c, A', c', rfl, ⟨⟨k0, k1⟩⟩, ⟨below_from (below_alloc (Below.refl _ _) _) hb⟩⟩
theorem clash0K (w : World) (A : Option Addr) (c : Nat) (A' : Option Addr) (c' : Nat) (T : TownC w A c A' c' xC) : Calls Tryz.prog 14 #[.agg #[.slice A xF.length c, .slice A' xC.length c']] w fun e w' => ∃ R0 d0, e = .returned (.tuple #[.int .i64 0, .slice R0 0 d0, .int .i64 6]) ∧ Aside0 (Below w.heap.size w w') := by
  refine (street_Clash.calls A c xF A' c' xC 0 [] 6 w T.f.kc T.f.kn T.g.kc T.g.kn ev_clash0).mono ?_
  rintro e w' ⟨v0, rfl, h0, hb⟩
  obtain ⟨R0, d0, rfl, k0⟩ := LC.of h0
  exact ⟨R0, d0, rfl, ⟨hb⟩⟩
theorem clash1K (w : World) (A : Option Addr) (c : Nat) (A' : Option Addr) (c' : Nat) (T : TownC w A c A' c' xC1) : Calls Tryz.prog 14 #[.agg #[.slice A xF.length c, .slice A' xC1.length c']] w fun e w' => ∃ R0 d0, e = .returned (.tuple #[.int .i64 250, .slice R0 rClash.length d0, .int .i64 0]) ∧ Aside0 (LC (Kd.int .i64) w' R0 d0 rClash) ∧ Aside0 (Below w.heap.size w w') := by
  refine (street_Clash.calls A c xF A' c' xC1 250 rClash 0 w T.f.kc T.f.kn T.g.kc T.g.kn ev_clash1).mono ?_
  rintro e w' ⟨v0, rfl, h0, hb⟩
  obtain ⟨R0, d0, rfl, k0⟩ := LC.of h0
  exact ⟨R0, d0, rfl, ⟨k0⟩, ⟨hb⟩⟩
theorem nameK (w : World) (A : Option Addr) (c : Nat) (A' : Option Addr) (c' : Nat) (T : TownC w A c A' c' xC) : Calls Tryz.prog 19 #[.agg #[.slice A xF.length c, .slice A' xC.length c'], .int .i64 0, .int .i64 199] w fun e w' => e = .returned (.tuple #[.string ⟨#[109, 105, 108, 108]⟩, .int .i64 0]) ∧ Aside0 (Below w.heap.size w w') := by
  refine (street_Name.calls A c xF A' c' xC 0 199 xMill 0 w T.f.kc T.f.kn T.g.kc T.g.kn ev_name).mono ?_
  rintro e w' ⟨rfl, hb⟩
  exact ⟨rfl, ⟨hb⟩⟩
theorem whoK (w : World) (A : Option Addr) (c : Nat) (A' : Option Addr) (c' : Nat) (T : TownC w A c A' c' xC) : Calls Tryz.prog 20 #[.agg #[.slice A xF.length c, .slice A' xC.length c'], .string ⟨#[107, 105, 110, 103]⟩, .int .i64 250] w fun e w' => e = .returned (.tuple #[.int .i64 0, .int .i64 0]) ∧ Aside0 (Below w.heap.size w w') := by
  refine (street_Who.calls A c xF A' c' xC xKing 250 0 0 w T.f.kc T.f.kn T.g.kc T.g.kn ev_who).mono ?_
  rintro e w' ⟨rfl, hb⟩
  exact ⟨rfl, ⟨hb⟩⟩
theorem histK (w : World) (A : Option Addr) (c : Nat) (A' : Option Addr) (c' : Nat) (T : TownC w A c A' c' xC) : Calls Tryz.prog 25 #[.agg #[.slice A xF.length c, .slice A' xC.length c'], .int .i64 2] w fun e w' => ∃ R0 d0, e = .returned (.tuple #[.slice R0 rHist.length d0, .int .i64 0]) ∧ Aside0 (LC k116 w' R0 d0 rHist) ∧ Aside0 (Below w.heap.size w w') := by
  refine (street_History.calls A c xF A' c' xC 2 rHist 0 w T.f.kc T.f.kn T.g.kc T.g.kn ev_hist).mono ?_
  rintro e w' ⟨v0, rfl, h0, hb⟩
  obtain ⟨R0, d0, rfl, k0⟩ := LC.of h0
  exact ⟨R0, d0, rfl, ⟨k0⟩, ⟨hb⟩⟩
theorem againK (w : World) (A : Option Addr) (c : Nat) (A' : Option Addr) (c' : Nat) (T : TownC w A c A' c' xC) : Calls Tryz.prog 26 #[.agg #[.slice A xF.length c, .slice A' xC.length c']] w fun e w' => ∃ R0 d0, e = .returned (.tuple #[.slice R0 rAgain.length d0, .int .i64 0]) ∧ Aside0 (LC Kd.string w' R0 d0 rAgain) ∧ Aside0 (Below w.heap.size w w') := by
  refine (street_Again.calls A c xF A' c' xC rAgain 0 w T.f.kc T.f.kn T.g.kc T.g.kn ev_again).mono ?_
  rintro e w' ⟨v0, rfl, h0, hb⟩
  obtain ⟨R0, d0, rfl, k0⟩ := LC.of h0
  exact ⟨R0, d0, rfl, ⟨k0⟩, ⟨hb⟩⟩
theorem mustK (w : World) (A : Option Addr) (c : Nat) (A' : Option Addr) (c' : Nat) (B : Option Addr) (b : Nat) (T : TownC w A c A' c' xC) (O : LC k62 w B b xO) : Calls Tryz.prog 31 #[.agg #[.slice A xF.length c, .slice A' xC.length c'], .slice B xO.length b] w fun e w' => ∃ R0 d0 R1 d1, e = .returned (.tuple #[.slice R0 rMust.length d0, .slice R1 rWrong.length d1, .int .i64 0]) ∧ Aside0 (LC Kd.string w' R0 d0 rMust) ∧ Aside0 (LC (Kd.int .i64) w' R1 d1 rWrong) ∧ Aside0 (Below w.heap.size w w') := by
  refine (street_Must.calls A c xF A' c' xC B b xO rMust rWrong 0 w T.f.kc T.f.kn T.g.kc T.g.kn O.kc O.kn ev_must).mono ?_
  rintro e w' ⟨v0, v1, rfl, h0, h1, hb⟩
  obtain ⟨R0, d0, rfl, k0⟩ := LC.of h0
  obtain ⟨R1, d1, rfl, k1⟩ := LC.of h1
  exact ⟨R0, d0, R1, d1, rfl, ⟨k0⟩, ⟨k1⟩, ⟨hb⟩⟩
theorem changedK (w : World) (A : Option Addr) (c : Nat) (A' : Option Addr) (c' : Nat) (B : Option Addr) (b : Nat) (T : TownC w A c A' c' xC) (O : LC k62 w B b xO) : Calls Tryz.prog 32 #[.agg #[.slice A xF.length c, .slice A' xC.length c'], .slice B xO.length b, .agg #[.int .i64 110, .int .i64 2, .string ⟨#[99, 114, 111, 119, 110]⟩]] w fun e w' => ∃ R0 d0, e = .returned (.tuple #[.slice R0 rChanged.length d0, .int .i64 0]) ∧ Aside0 (LC (Kd.int .i64) w' R0 d0 rChanged) ∧ Aside0 (Below w.heap.size w w') := by
  refine (street_Changed.calls A c xF A' c' xC B b xO 110 2 xCrown rChanged 0 w T.f.kc T.f.kn T.g.kc T.g.kn O.kc O.kn ev_changed).mono ?_
  rintro e w' ⟨v0, rfl, h0, hb⟩
  obtain ⟨R0, d0, rfl, k0⟩ := LC.of h0
  exact ⟨R0, d0, rfl, ⟨k0⟩, ⟨hb⟩⟩
theorem meantK (w : World) (A : Option Addr) (c : Nat) (A' : Option Addr) (c' : Nat) (T : TownC w A c A' c' xC) : Calls Tryz.prog 38 #[.agg #[.slice A xF.length c, .slice A' xC.length c'], .string ⟨#[107, 105, 110]⟩, .agg #[.int .i64 50, .int .i64 150, .int .i64 1]] w fun e w' => ∃ R0 d0 R1 d1, e = .returned (.tuple #[.slice R0 0 d0, .slice R1 rPoss.length d1, .int .i64 0]) ∧ Aside0 (LC (Kd.int .i64) w' R1 d1 rPoss) ∧ Aside0 (Below w.heap.size w w') := by
  refine (street_Meant.calls A c xF A' c' xC xKin 50 150 1 [] rPoss 0 w T.f.kc T.f.kn T.g.kc T.g.kn ev_meant).mono ?_
  rintro e w' ⟨v0, v1, rfl, h0, h1, hb⟩
  obtain ⟨R0, d0, rfl, k0⟩ := LC.of h0
  obtain ⟨R1, d1, rfl, k1⟩ := LC.of h1
  exact ⟨R0, d0, R1, d1, rfl, ⟨k1⟩, ⟨hb⟩⟩
theorem nearK (w : World) (A : Option Addr) (c : Nat) (A' : Option Addr) (c' : Nat) (T : TownC w A c A' c' xC) : Calls Tryz.prog 39 #[.agg #[.slice A xF.length c, .slice A' xC.length c'], .string ⟨#[109, 105, 108]⟩, .int .i64 250] w fun e w' => ∃ R0 d0, e = .returned (.tuple #[.slice R0 rNear.length d0, .int .i64 3, .int .i64 0]) ∧ Aside0 (LC (Kd.int .i64) w' R0 d0 rNear) ∧ Aside0 (Below w.heap.size w w') := by
  refine (street_Nearest.calls A c xF A' c' xC xMil 250 rNear 3 0 w T.f.kc T.f.kn T.g.kc T.g.kn ev_near).mono ?_
  rintro e w' ⟨v0, rfl, h0, hb⟩
  obtain ⟨R0, d0, rfl, k0⟩ := LC.of h0
  exact ⟨R0, d0, rfl, ⟨k0⟩, ⟨hb⟩⟩
theorem hoursK (w : World) (A : Option Addr) (c : Nat) (A' : Option Addr) (c' : Nat) (B : Option Addr) (b : Nat) (T : TownC w A c A' c' xC) (O : LC k89 w B b xS1) : Calls Tryz.prog 42 #[.agg #[.slice A xF.length c, .slice A' xC.length c'], .slice B xS1.length b] w fun e w' => ∃ R0 d0, e = .returned (.tuple #[.slice R0 rHours.length d0, .int .i64 0]) ∧ Aside0 (LC k75 w' R0 d0 rHours) ∧ Aside0 (Below w.heap.size w w') := by
  refine (street_Hours.calls A c xF A' c' xC B b xS1 rHours 0 w T.f.kc T.f.kn T.g.kc T.g.kn O.kc O.kn ev_hours).mono ?_
  rintro e w' ⟨v0, rfl, h0, hb⟩
  obtain ⟨R0, d0, rfl, k0⟩ := LC.of h0
  exact ⟨R0, d0, rfl, ⟨k0⟩, ⟨hb⟩⟩
theorem wrongK (w : World) (A : Option Addr) (c : Nat) (A' : Option Addr) (c' : Nat) (B : Option Addr) (b : Nat) (T : TownC w A c A' c' xC) (O : LC k89 w B b xS2) : Calls Tryz.prog 43 #[.agg #[.slice A xF.length c, .slice A' xC.length c'], .slice B xS2.length b] w fun e w' => ∃ R0 d0, e = .returned (.tuple #[.slice R0 rBad.length d0, .int .i64 0]) ∧ Aside0 (LC (Kd.int .i64) w' R0 d0 rBad) ∧ Aside0 (Below w.heap.size w w') := by
  refine (street_Wrong.calls A c xF A' c' xC B b xS2 rBad 0 w T.f.kc T.f.kn T.g.kc T.g.kn O.kc O.kn ev_wrong).mono ?_
  rintro e w' ⟨v0, rfl, h0, hb⟩
  obtain ⟨R0, d0, rfl, k0⟩ := LC.of h0
  exact ⟨R0, d0, rfl, ⟨k0⟩, ⟨hb⟩⟩
theorem seenK1 (w : World) : LC k89 (w.alloc (.cells #[.int .i64 2, .string ⟨#[113, 117, 101, 101, 110]⟩, .int .i64 0, .string ⟨#[107, 105, 110, 103]⟩] 89)) (some ⟨w.heap.size, 0, none⟩) 2 xS1 :=
  LC.new k89 89 w xS1 [.int .i64 2, .string ⟨#[113, 117, 101, 101, 110]⟩, .int .i64 0, .string ⟨#[107, 105, 110, 103]⟩] (Reps.c2 (k89_mkM _ _ _ ⟨2, xQueen⟩) (Reps.c2 (k89_mkM _ _ _ ⟨0, xKing⟩) (Reps.none _ _))) (by simp [xS1])
theorem seenK2 (w : World) : LC k89 (w.alloc (.cells #[.int .i64 2, .string ⟨#[113, 117, 101, 101, 110]⟩, .int .i64 0, .string ⟨#[109, 105, 108, 108]⟩, .int .i64 1, .string ⟨#[107, 105, 110, 103]⟩] 89)) (some ⟨w.heap.size, 0, none⟩) 3 xS2 :=
  LC.new k89 89 w xS2 [.int .i64 2, .string ⟨#[113, 117, 101, 101, 110]⟩, .int .i64 0, .string ⟨#[109, 105, 108, 108]⟩, .int .i64 1, .string ⟨#[107, 105, 110, 103]⟩] (Reps.c2 (k89_mkM _ _ _ ⟨2, xQueen⟩) (Reps.c2 (k89_mkM _ _ _ ⟨0, xMill⟩) (Reps.c2 (k89_mkM _ _ _ ⟨1, xKing⟩) (Reps.none _ _)))) (by simp [xS2])
theorem below_alloc_drew (w : World) (o : Obj) (n : Nat) : Below w.heap.size w ((w.alloc o).drewN n) := pw_below_drewN (below_alloc (Below.refl _ _) o) n
theorem intsK (xs : List Int) (cs : List Value) (n : Nat) (hn : xs.length = n) (A : Option Addr) (c : Nat) (w : World) (h : LC (Kd.int .i64) w A c xs) (hrep : Reps (Kd.M (Kd.int .i64) w w.heap.size fun _ => True) (Kd.sz (Kd.int .i64)) xs cs) (hm : xs.length ≤ 100) (hf : smaltoref08_Ints.f 10 xs xs = some true) :
    Calls Tryz.prog 18 #[.slice A xs.length c, .slice (some ⟨w.heap.size, 0, none⟩) n n] (w.alloc (.cells cs.toArray 3)) fun e w' => e = .returned (.bool true) ∧ Aside0 (Below w.heap.size w w') := by
  subst hn
  have hl := LC.new (Kd.int .i64) 3 w xs cs hrep (by omega)
  have hl0 := h.below (below_alloc (Below.refl _ _) (.cells cs.toArray 3))
  refine (smaltoref08_Ints.calls 10 A c xs _ _ xs true _ hl0.kc hl0.kn hl.kc hl.kn hf).mono ?_
  rintro e w' ⟨rfl, n, rfl⟩
  exact ⟨rfl, ⟨below_alloc_drew w _ n⟩⟩
theorem textsK (xs : List ByteArray) (cs : List Value) (n : Nat) (hn : xs.length = n) (A : Option Addr) (c : Nat) (w : World) (h : LC Kd.string w A c xs) (hrep : Reps (Kd.M Kd.string w w.heap.size fun _ => True) (Kd.sz Kd.string) xs cs) (hm : xs.length ≤ 100) (hf : smaltoref08_Texts.f 10 xs xs = some true) :
    Calls Tryz.prog 27 #[.slice A xs.length c, .slice (some ⟨w.heap.size, 0, none⟩) n n] (w.alloc (.cells cs.toArray 9)) fun e w' => e = .returned (.bool true) ∧ Aside0 (Below w.heap.size w w') := by
  subst hn
  have hl := LC.new Kd.string 9 w xs cs hrep (by omega)
  have hl0 := h.below (below_alloc (Below.refl _ _) (.cells cs.toArray 9))
  refine (smaltoref08_Texts.calls 10 A c xs _ _ xs true _ hl0.kc hl0.kn hl.kc hl.kn hf).mono ?_
  rintro e w' ⟨rfl, n, rfl⟩
  exact ⟨rfl, ⟨below_alloc_drew w _ n⟩⟩
theorem timesK (xs : List S116) (cs : List Value) (n : Nat) (hn : xs.length = n) (A : Option Addr) (c : Nat) (w : World) (h : LC k116 w A c xs) (hrep : Reps (Kd.M k116 w w.heap.size fun _ => True) (Kd.sz k116) xs cs) (hm : xs.length ≤ 100) (hf : smaltoref08_Times.f 10 xs xs = some true) :
    Calls Tryz.prog 29 #[.slice A xs.length c, .slice (some ⟨w.heap.size, 0, none⟩) n n] (w.alloc (.cells cs.toArray 116)) fun e w' => e = .returned (.bool true) ∧ Aside0 (Below w.heap.size w w') := by
  subst hn
  have hl := LC.new k116 116 w xs cs hrep (by omega)
  have hl0 := h.below (below_alloc (Below.refl _ _) (.cells cs.toArray 116))
  refine (smaltoref08_Times.calls 10 A c xs _ _ xs true _ hl0.kc hl0.kn hl.kc hl.kn hf).mono ?_
  rintro e w' ⟨rfl, n, rfl⟩
  exact ⟨rfl, ⟨below_alloc_drew w _ n⟩⟩
theorem spansK (xs : List S75) (cs : List Value) (n : Nat) (hn : xs.length = n) (A : Option Addr) (c : Nat) (w : World) (h : LC k75 w A c xs) (hrep : Reps (Kd.M k75 w w.heap.size fun _ => True) (Kd.sz k75) xs cs) (hm : xs.length ≤ 100) (hf : smaltoref08_Spans.f 10 xs xs = some true) :
    Calls Tryz.prog 47 #[.slice A xs.length c, .slice (some ⟨w.heap.size, 0, none⟩) n n] (w.alloc (.cells cs.toArray 75)) fun e w' => e = .returned (.bool true) ∧ Aside0 (Below w.heap.size w w') := by
  subst hn
  have hl := LC.new k75 75 w xs cs hrep (by omega)
  have hl0 := h.below (below_alloc (Below.refl _ _) (.cells cs.toArray 75))
  refine (smaltoref08_Spans.calls 10 A c xs _ _ xs true _ hl0.kc hl0.kn hl.kc hl.kn hf).mono ?_
  rintro e w' ⟨rfl, n, rfl⟩
  exact ⟨rfl, ⟨below_alloc_drew w _ n⟩⟩
end Go.Proofs.YtdjlfdbnmnjccaaGreat.St
end
section
set_option linter.unusedVariables false
set_option linter.unusedSimpArgs false
namespace Go.Proofs.YtdjlfdbnmnjccaaGreat.St
open Go.RowKit Go.Shelf Go.Proofs.YtdjlfdbnmnjccaaGreatW.PrintWords Go.Proofs.YtdjlfdbnmnjccaaGreatW.PrintLast Go.Proofs.YtdjlfdbnmnjccaaGreatW.PrintMore
set_option maxHeartbeats 8000000 in
set_option maxRecDepth 100000 in
theorem known_any (w : World) : Calls Tryz.prog 11 #[] w fun e w' => e = .returned (.bool true) ∧ Below w.heap.size w w' := by
  go_enter Tryz.func11, Tryz.ntmps11
  go_wp2_with fail
  refine (townK _).mono ?_
  rintro e w1 ⟨A1, c1, D1, d1, rfl, T1, B1⟩
  go_wp2_with fail
  refine (clash0K _ _ _ _ _ T1.out).mono ?_
  rintro e w2 ⟨R2, x2, rfl, B2⟩
  go_wp2_with fail
  refine (changeK _ _ _ _).mono ?_
  rintro e w3 ⟨rfl, B3⟩
  go_wp2_with fail
  refine (townK1 _).mono ?_
  rintro e w4 ⟨A4, c4, D4, d4, rfl, T4, B4⟩
  go_wp2_with fail
  refine (clash1K _ _ _ _ _ T4.out).mono ?_
  rintro e w5 ⟨R5, x5, rfl, K5, B5⟩
  go_wp2_with fail
  refine (townK _).mono ?_
  rintro e w6 ⟨A6, c6, D6, d6, rfl, T6, B6⟩
  go_wp2_with fail
  refine (nameK _ _ _ _ _ T6.out).mono ?_
  rintro e w7 ⟨rfl, B7⟩
  go_wp2_with fail
  refine (townK _).mono ?_
  rintro e w8 ⟨A8, c8, D8, d8, rfl, T8, B8⟩
  go_wp2_with fail
  refine (whoK _ _ _ _ _ T8.out).mono ?_
  rintro e w9 ⟨rfl, B9⟩
  go_wp2_with fail
  refine (townK _).mono ?_
  rintro e w10 ⟨A10, c10, D10, d10, rfl, T10, B10⟩
  go_wp2_with fail
  refine (histK _ _ _ _ _ T10.out).mono ?_
  rintro e w11 ⟨R11, x11, rfl, K11, B11⟩
  go_wp2_with fail
  refine (townK _).mono ?_
  rintro e w12 ⟨A12, c12, D12, d12, rfl, T12, B12⟩
  go_wp2_with fail
  refine (againK _ _ _ _ _ T12.out).mono ?_
  rintro e w13 ⟨R13, x13, rfl, K13, B13⟩
  go_wp2_with fail
  refine (townK _).mono ?_
  rintro e w14 ⟨A14, c14, D14, d14, rfl, T14, B14⟩
  go_wp2_with fail
  refine (ordersK _).mono ?_
  rintro e w15 ⟨A15, c15, rfl, O15, B15⟩
  go_wp2_with fail
  refine (mustK _ _ _ _ _ _ _ (T14.out.below B15.out) O15.out).mono ?_
  rintro e w16 ⟨R16, x16, Q16, y16, rfl, K16, L16, B16⟩
  go_wp2_with fail
  refine (townK _).mono ?_
  rintro e w17 ⟨A17, c17, D17, d17, rfl, T17, B17⟩
  go_wp2_with fail
  refine (ordersK _).mono ?_
  rintro e w18 ⟨A18, c18, rfl, O18, B18⟩
  go_wp2_with fail
  refine (changeK _ _ _ _).mono ?_
  rintro e w19 ⟨rfl, B19⟩
  go_wp2_with fail
  refine (changedK _ _ _ _ _ _ _ ((T17.out.below B18.out).below B19.out) (O18.out.below B19.out)).mono ?_
  rintro e w20 ⟨R20, x20, rfl, K20, B20⟩
  go_wp2_with fail
  refine (townK _).mono ?_
  rintro e w21 ⟨A21, c21, D21, d21, rfl, T21, B21⟩
  go_wp2_with fail
  refine (spanK _ _ _).mono ?_
  rintro e w22 ⟨rfl, B22⟩
  go_wp2_with fail
  refine (meantK _ _ _ _ _ (T21.out.below B22.out)).mono ?_
  rintro e w23 ⟨R23, x23, Q23, y23, rfl, K23, B23⟩
  go_wp2_with fail
  refine (townK _).mono ?_
  rintro e w24 ⟨A24, c24, D24, d24, rfl, T24, B24⟩
  go_wp2_with fail
  refine (nearK _ _ _ _ _ T24.out).mono ?_
  rintro e w25 ⟨R25, x25, rfl, K25, B25⟩
  go_wp2_with fail
  refine (townK _).mono ?_
  rintro e w26 ⟨A26, c26, D26, d26, rfl, T26, B26⟩
  go_wp2_with fail
  refine (hoursK _ _ _ _ _ _ _ (T26.out.below (below_alloc (Below.refl _ _) _)) (seenK1 w26)).mono ?_
  rintro e w27 ⟨R27, x27, rfl, K27, B27⟩
  replace B27 : Aside0 (Below w26.heap.size w26 w27) := ⟨below_from (below_alloc (Below.refl _ _) _) B27.out⟩
  go_wp2_with fail
  refine (townK _).mono ?_
  rintro e w28 ⟨A28, c28, D28, d28, rfl, T28, B28⟩
  go_wp2_with fail
  refine (wrongK _ _ _ _ _ _ _ (T28.out.below (below_alloc (Below.refl _ _) _)) (seenK2 w28)).mono ?_
  rintro e w29 ⟨R29, x29, rfl, K29, B29⟩
  replace B29 : Aside0 (Below w28.heap.size w28 w29) := ⟨below_from (below_alloc (Below.refl _ _) _) B29.out⟩
  go_wp2_with fail
  refine (intsK rClash [.int .i64 0, .int .i64 1] 2 rfl _ _ _ (by repeat (first | exact Aside0.out (by assumption) | refine LC.below ?_ (Aside0.out (by assumption)))) (Reps.one rfl (Reps.one rfl (Reps.none _ _))) (by decide) (by kernel_rfl)).mono ?_
  rintro e w30 ⟨rfl, B30⟩
  go_wp2_with fail
  refine (spanK _ _ _).mono ?_
  rintro e w31 ⟨rfl, B31⟩
  go_wp2_with fail
  refine (spanK _ _ _).mono ?_
  rintro e w32 ⟨rfl, B32⟩
  go_wp2_with fail
  refine (spanK _ _ _).mono ?_
  rintro e w33 ⟨rfl, B33⟩
  go_wp2_with fail
  refine (timesK rHist [.string ⟨#[107, 105, 110, 103]⟩, .int .i64 0, .int .i64 99, .string ⟨#[113, 117, 101, 101, 110]⟩, .int .i64 100, .int .i64 299, .string ⟨#[109, 105, 108, 108]⟩, .int .i64 300, .int .i64 1000] 3 rfl _ _ _ (by repeat (first | exact Aside0.out (by assumption) | refine LC.below ?_ (Aside0.out (by assumption)))) (Reps.c3 (k116_mkM _ _ _ ⟨xKing, ⟨0, 99⟩⟩) (Reps.c3 (k116_mkM _ _ _ ⟨xQueen, ⟨100, 299⟩⟩) (Reps.c3 (k116_mkM _ _ _ ⟨xMill, ⟨300, 1000⟩⟩) (Reps.none _ _)))) (by decide) (by kernel_rfl)).mono ?_
  rintro e w34 ⟨rfl, B34⟩
  go_wp2_with fail
  refine (textsK rAgain [.string ⟨#[107, 105, 110, 103]⟩, .string ⟨#[109, 105, 108, 108]⟩] 2 rfl _ _ _ (by repeat (first | exact Aside0.out (by assumption) | refine LC.below ?_ (Aside0.out (by assumption)))) (Reps.one rfl (Reps.one rfl (Reps.none _ _))) (by decide) (by kernel_rfl)).mono ?_
  rintro e w35 ⟨rfl, B35⟩
  go_wp2_with fail
  refine (textsK rMust [.string ⟨#[109, 105, 108, 108]⟩, .string ⟨#[107, 105, 110, 103]⟩, .string ⟨#[113, 117, 101, 101, 110]⟩] 3 rfl _ _ _ (by repeat (first | exact Aside0.out (by assumption) | refine LC.below ?_ (Aside0.out (by assumption)))) (Reps.one rfl (Reps.one rfl (Reps.one rfl (Reps.none _ _)))) (by decide) (by kernel_rfl)).mono ?_
  rintro e w36 ⟨rfl, B36⟩
  go_wp2_with fail
  refine (intsK rWrong [.int .i64 1] 1 rfl _ _ _ (by repeat (first | exact Aside0.out (by assumption) | refine LC.below ?_ (Aside0.out (by assumption)))) (Reps.one rfl (Reps.none _ _)) (by decide) (by kernel_rfl)).mono ?_
  rintro e w37 ⟨rfl, B37⟩
  go_wp2_with fail
  refine (intsK rChanged [.int .i64 2] 1 rfl _ _ _ (by repeat (first | exact Aside0.out (by assumption) | refine LC.below ?_ (Aside0.out (by assumption)))) (Reps.one rfl (Reps.none _ _)) (by decide) (by kernel_rfl)).mono ?_
  rintro e w38 ⟨rfl, B38⟩
  go_wp2_with fail
  refine (intsK rPoss [.int .i64 2] 1 rfl _ _ _ (by repeat (first | exact Aside0.out (by assumption) | refine LC.below ?_ (Aside0.out (by assumption)))) (Reps.one rfl (Reps.none _ _)) (by decide) (by kernel_rfl)).mono ?_
  rintro e w39 ⟨rfl, B39⟩
  go_wp2_with fail
  refine (intsK rNear [.int .i64 0] 1 rfl _ _ _ (by repeat (first | exact Aside0.out (by assumption) | refine LC.below ?_ (Aside0.out (by assumption)))) (Reps.one rfl (Reps.none _ _)) (by decide) (by kernel_rfl)).mono ?_
  rintro e w40 ⟨rfl, B40⟩
  go_wp2_with fail
  refine (spanK _ _ _).mono ?_
  rintro e w41 ⟨rfl, B41⟩
  go_wp2_with fail
  refine (spansK rHours [.int .i64 200, .int .i64 299] 1 rfl _ _ _ (by repeat (first | exact Aside0.out (by assumption) | refine LC.below ?_ (Aside0.out (by assumption)))) (Reps.c2 (k75_mkM _ _ _ ⟨200, 299⟩) (Reps.none _ _)) (by decide) (by kernel_rfl)).mono ?_
  rintro e w42 ⟨rfl, B42⟩
  go_wp2_with fail
  refine (intsK rBad [.int .i64 2] 1 rfl _ _ _ (by repeat (first | exact Aside0.out (by assumption) | refine LC.below ?_ (Aside0.out (by assumption)))) (Reps.one rfl (Reps.none _ _)) (by decide) (by kernel_rfl)).mono ?_
  rintro e w43 ⟨rfl, B43⟩
  go_wp2_with fail
  go_ret
  refine ⟨rfl, ?_⟩
  repeat (first | exact Below.refl _ _ | refine below_from ?_ (Aside0.out (by assumption)))
def smaltolaw08_known.f : Option Bool := some true
theorem smaltolaw08_known.calls (r : Bool) (w : World) (h : smaltolaw08_known.f = some r) : Calls Tryz.prog 11 #[] w fun e w' => e = .returned (.bool r) ∧ Below w.heap.size w w' := by
  have e := Option.some.inj h
  subst e
  exact known_any w
end Go.Proofs.YtdjlfdbnmnjccaaGreat.St
end
