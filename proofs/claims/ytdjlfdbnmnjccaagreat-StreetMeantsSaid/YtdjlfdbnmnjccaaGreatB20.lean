/- A part of the proofs of the laws of this seat: the walks of the program's functions, and lemmas. They hold without conditions. -/
import Derived.Test.YtdjlfdbnmnjccaaGreatB03
import Derived.Test.YtdjlfdbnmnjccaaGreatB04
import Derived.Test.YtdjlfdbnmnjccaaGreatB19
set_option linter.all false
set_option linter.unusedSectionVars false
section
namespace Go.Proofs.YtdjlfdbnmnjccaaGreat.St
open Go.RowKit Go.Proofs.YtdjlfdbnmnjccaaGreatW.PrintWords Go.Proofs.YtdjlfdbnmnjccaaGreatW.PrintLast Go.Proofs.YtdjlfdbnmnjccaaGreatW.PrintMore
attribute [local go_sem] max2_int min2_int max_two min_two max_three min_three max_four min_four
set_option linter.unusedVariables false
set_option linter.unusedSimpArgs false
def slices_Compare_int_int.l0 : Nat → List Int → List Int → List Int → Int → Int → Option (Int)
  | 0, _, _, _, _, _ => none
  | k + 1, x0, x1, x9, x10, x11 => if x11 < x10 then (if 0 ≤ x11 then (if x11 < (x9.length : Int) then (if x11 ≥ (x1.length : Int) then (some 1) else (if x11 < (x1.length : Int) then ((cmp_Compare_int.f (rd x9 x11) (rd x1 x11)).bind fun t296 => (if t296 = 0 then (slices_Compare_int_int.l0 k x0 x1 x9 x10 (wrap64 (x11 + 1))) else (some t296))) else (none))) else (none)) else (none)) else (if (x0.length : Int) < (x1.length : Int) then (some (-1)) else (some 0))
def slices_Compare_int_int.f (k : Nat) (l0 : List Int) (l1 : List Int) : Option (Int) := slices_Compare_int_int.l0 k l0 l1 l0 (l0.length : Int) 0
theorem slices_Compare_int_int.mono_l : ∀ k, (∀ y0 y1 y2 y3 y4, LeO (slices_Compare_int_int.l0 k y0 y1 y2 y3 y4) (slices_Compare_int_int.l0 (k + 1) y0 y1 y2 y3 y4))
  | 0 => fun _ _ _ _ _ r h => by simp [slices_Compare_int_int.l0] at h
  | k + 1 => by
    have ih0 := slices_Compare_int_int.mono_l k
    · intro y0 y1 y2 y3 y4
      unfold slices_Compare_int_int.l0
      repeat' first
      | (with_reducible exact ih0 _ _ _ _ _)
      | (with_reducible exact LeO.refl _)
      | (with_reducible exact LeO.none _)
      | (with_reducible refine LeO.ite ?_ ?_)
      | (with_reducible refine LeO.bind ?_ (fun _ => ?_))
      | exact ih0 _ _ _ _ _
      | exact LeO.none _
      | refine LeO.ite ?_ ?_
      | refine LeO.bind ?_ (fun _ => ?_)
theorem slices_Compare_int_int.mono : ∀ a0 a1 k, LeO (slices_Compare_int_int.f k a0 a1) (slices_Compare_int_int.f (k + 1) a0 a1) := by
  intro a0 a1 k
  have ih0 := slices_Compare_int_int.mono_l k
  unfold slices_Compare_int_int.f
  repeat' first
      | (with_reducible exact ih0 _ _ _ _ _)
      | (with_reducible exact LeO.refl _)
      | (with_reducible exact LeO.none _)
      | (with_reducible refine LeO.ite ?_ ?_)
      | (with_reducible refine LeO.bind ?_ (fun _ => ?_))
      | exact ih0 _ _ _ _ _
      | exact LeO.none _
      | refine LeO.ite ?_ ?_
      | refine LeO.bind ?_ (fun _ => ?_)
set_option maxHeartbeats 8000000 in
set_option maxRecDepth 100000 in
theorem slices_Compare_int_int.calls (k : Nat) (A0 : Option Addr) (c0 : Nat) (l0 : List Int) (A1 : Option Addr) (c1 : Nat) (l1 : List Int) (r : Int) (w : World) (hr0 : Kd.C (Kd.int .i64) w A0 l0.length l0) (hc0 : l0.length ≤ c0) (hr1 : Kd.C (Kd.int .i64) w A1 l1.length l1) (hc1 : l1.length ≤ c1) (h : slices_Compare_int_int.f k l0 l1 = some r) :
    Calls Tryz.prog 89 #[.slice A0 l0.length c0, .slice A1 l1.length c1] w fun e w' => e = .returned (.int .i64 r) ∧ Drawn0 w w' := by
  have HR0 := Aside0.mk hr0
  have HC0 := Aside0.mk hc0
  clear hr0 hc0
  have HR1 := Aside0.mk hr1
  have HC1 := Aside0.mk hc1
  clear hr1 hc1
  have H : (slices_Compare_int_int.l0 k l0 l1 l0 (l0.length : Int) 0) = some r := h
  clear h
  have H' := Aside0.mk H
  clear H
  go_enter Tryz.func89, Tryz.ntmps89
  go_wp2
  go_loopg [11] k (fun kq v11 w' => ∃ (x11_1 : Int), v11 = .int .i64 x11_1 ∧ Aside0 (slices_Compare_int_int.l0 kq l0 l1 l0 (l0.length : Int) x11_1 = some r) ∧ Aside0 (kq ≤ k) ∧ Drawn0 w w')
  case atStart => exact ⟨(0), (by first | rfl | (simp; done) | (simp [*]; done)), H', ⟨Nat.le_refl _⟩, by repeat (first | exact Drawn0.refl _ | apply Drawn0.step)⟩
  case round =>
    clear H'
    try clear c1
    try clear p2
    obtain ⟨x11_1, rfl, HA, HK1, ⟨m1, rfl⟩⟩ := hrel
    cases gk with
    | zero => exact absurd HA.out (by simp [slices_Compare_int_int.l0])
    | succ k1 =>
      have H := HA.out
      clear HA
      simp only [slices_Compare_int_int.l0] at H
      by_cases c3 : x11_1 < (l0.length : Int)
      · rw [if_pos c3] at H
        have c3b0 : decide (x11_1 < (l0.length : Int)) = true := decide_eq_true c3
        clear c3
        by_cases c4 : 0 ≤ x11_1
        · rw [if_pos c4] at H
          have c4b0 : decide (0 ≤ x11_1) = true := decide_eq_true c4
          clear c4
          by_cases c5 : x11_1 < (l0.length : Int)
          · rw [if_pos c5] at H
            have c5b0 : decide (x11_1 < (l0.length : Int)) = true := decide_eq_true c5
            clear c5
            by_cases c6 : x11_1 ≥ (l1.length : Int)
            · rw [if_pos c6] at H
              have c6b0 : decide ((l1.length : Int) ≤ x11_1) = true := decide_eq_true c6
              clear c6
              obtain rfl := Option.some.inj H
              have p294 : 0 ≤ (x11_1 : Int) := of_decide_eq_true (by first | (with_reducible assumption) | assumption)
              have q294 : x11_1 < (l0.length : Int) := of_decide_eq_true (by first | (with_reducible assumption) | assumption)
              obtain ⟨ad294, e294, hx294_0⟩ := Kd.at_int HR0.out x11_1 p294 q294
              cases e294
              replace p294 := eq_true p294
              replace q294 := eq_true q294
              go_wp2
              go_ret
              exact ⟨by first | rfl | (simp; done) | (simp [*]; done), by repeat (first | exact Drawn0.refl _ | apply Drawn0.step)⟩
            · rw [if_neg c6] at H
              have c6b0 : decide ((l1.length : Int) ≤ x11_1) = false := decide_eq_false c6
              clear c6
              by_cases c7 : x11_1 < (l1.length : Int)
              · rw [if_pos c7] at H
                have c7b0 : decide (x11_1 < (l1.length : Int)) = true := decide_eq_true c7
                clear c7
                replace H := Option.bind_eq_some_iff.mp H
                obtain ⟨t296, A80, H⟩ := H
                replace H : (if t296 = 0 then (slices_Compare_int_int.l0 k1 l0 l1 l0 (l0.length : Int) (wrap64 (x11_1 + 1))) else (some t296)) = some r := H
                have A8 := Aside0.mk A80
                clear A80
                by_cases c9 : t296 = 0
                · rw [if_pos c9] at H
                  have c9b0 : (t296 == 0) = true := beq_iff_eq.mpr c9
                  have c9b1 : (t296 != 0) = false := bne_eq_false_iff_eq.mpr c9
                  clear c9
                  have H' := Aside0.mk H
                  clear H
                  have p294 : 0 ≤ (x11_1 : Int) := of_decide_eq_true (by first | (with_reducible assumption) | assumption)
                  have q294 : x11_1 < (l0.length : Int) := of_decide_eq_true (by first | (with_reducible assumption) | assumption)
                  obtain ⟨ad294, e294, hx294_0⟩ := Kd.at_int HR0.out x11_1 p294 q294
                  cases e294
                  replace p294 := eq_true p294
                  replace q294 := eq_true q294
                  have p295 : 0 ≤ (x11_1 : Int) := of_decide_eq_true (by first | (with_reducible assumption) | assumption)
                  have q295 : x11_1 < (l1.length : Int) := of_decide_eq_true (by first | (with_reducible assumption) | assumption)
                  obtain ⟨ad295, e295, hx295_0⟩ := Kd.at_int HR1.out x11_1 p295 q295
                  cases e295
                  replace p295 := eq_true p295
                  replace q295 := eq_true q295
                  go_wp2_with (first | ((with_reducible refine gate_callee (f := 101) rfl ?_); refine goesL_ (some 26) rfl rfl Tryz.func101 (by kernel_rfl) rfl #[.int .i64 (rd l0 x11_1), .int .i64 (rd l1 x11_1)] rfl (by (try simp only [List.map_toArray, List.map_cons, List.map_nil]); first | done | rfl | (simp only [List.length_drop, List.length_take]; rfl)) ?_; (with_reducible refine (cmp_Compare_int.calls (rd l0 x11_1) (rd l1 x11_1) t296 _ A8.out).mono ?_); rintro e w' ⟨rfl, ⟨nd, rfl⟩⟩; refine ⟨_, rfl, ?_⟩))
                  go_roundg k1
                  case measure => have := HK1.out; omega
                  case rel => exact ⟨(wrap64 (x11_1 + 1)), (by first | rfl | (simp; done) | (simp [*]; done)), H', ⟨by have := HK1.out; omega⟩, by repeat (first | exact Drawn0.refl _ | apply Drawn0.step)⟩
                · rw [if_neg c9] at H
                  have c9b0 : (t296 == 0) = false := beq_eq_false_iff_ne.mpr c9
                  have c9b1 : (t296 != 0) = true := bne_iff_ne.mpr c9
                  obtain rfl := Option.some.inj H
                  have p294 : 0 ≤ (x11_1 : Int) := of_decide_eq_true (by first | (with_reducible assumption) | assumption)
                  have q294 : x11_1 < (l0.length : Int) := of_decide_eq_true (by first | (with_reducible assumption) | assumption)
                  obtain ⟨ad294, e294, hx294_0⟩ := Kd.at_int HR0.out x11_1 p294 q294
                  cases e294
                  replace p294 := eq_true p294
                  replace q294 := eq_true q294
                  have p295 : 0 ≤ (x11_1 : Int) := of_decide_eq_true (by first | (with_reducible assumption) | assumption)
                  have q295 : x11_1 < (l1.length : Int) := of_decide_eq_true (by first | (with_reducible assumption) | assumption)
                  obtain ⟨ad295, e295, hx295_0⟩ := Kd.at_int HR1.out x11_1 p295 q295
                  cases e295
                  replace p295 := eq_true p295
                  replace q295 := eq_true q295
                  go_wp2_with (first | ((with_reducible refine gate_callee (f := 101) rfl ?_); refine goesL_ (some 26) rfl rfl Tryz.func101 (by kernel_rfl) rfl #[.int .i64 (rd l0 x11_1), .int .i64 (rd l1 x11_1)] rfl (by (try simp only [List.map_toArray, List.map_cons, List.map_nil]); first | done | rfl | (simp only [List.length_drop, List.length_take]; rfl)) ?_; (with_reducible refine (cmp_Compare_int.calls (rd l0 x11_1) (rd l1 x11_1) t296 _ A8.out).mono ?_); rintro e w' ⟨rfl, ⟨nd, rfl⟩⟩; refine ⟨_, rfl, ?_⟩))
                  go_ret
                  exact ⟨by first | rfl | (simp; done) | (simp [*]; done), by repeat (first | exact Drawn0.refl _ | apply Drawn0.step)⟩
              · rw [if_neg c7] at H
                exact absurd H (by simp)
          · rw [if_neg c5] at H
            exact absurd H (by simp)
        · rw [if_neg c4] at H
          exact absurd H (by simp)
      · rw [if_neg c3] at H
        have c3b0 : decide (x11_1 < (l0.length : Int)) = false := decide_eq_false c3
        clear c3
        by_cases c10 : (l0.length : Int) < (l1.length : Int)
        · rw [if_pos c10] at H
          have c10b0 : decide ((l0.length : Int) < (l1.length : Int)) = true := decide_eq_true c10
          have c10b1 : decide (l0.length < l1.length) = true := decide_eq_true (Int.ofNat_lt.mp c10)
          clear c10
          obtain rfl := Option.some.inj H
          go_wp2
          go_ret
          exact ⟨by first | rfl | (simp; done) | (simp [*]; done), by repeat (first | exact Drawn0.refl _ | apply Drawn0.step)⟩
        · rw [if_neg c10] at H
          have c10b0 : decide ((l0.length : Int) < (l1.length : Int)) = false := decide_eq_false c10
          have c10b1 : decide (l0.length < l1.length) = false := decide_eq_false (fun h => c10 (Int.ofNat_lt.mpr h))
          clear c10
          obtain rfl := Option.some.inj H
          go_wp2
          go_ret
          exact ⟨by first | rfl | (simp; done) | (simp [*]; done), by repeat (first | exact Drawn0.refl _ | apply Drawn0.step)⟩
end Go.Proofs.YtdjlfdbnmnjccaaGreat.St
end
section
set_option linter.unusedVariables false
set_option linter.unusedSimpArgs false
namespace Go.Proofs.YtdjlfdbnmnjccaaGreat.St
open Go.RowKit Go.Proofs.YtdjlfdbnmnjccaaGreatW.PrintWords Go.Proofs.YtdjlfdbnmnjccaaGreatW.PrintLast Go.Proofs.YtdjlfdbnmnjccaaGreatW.PrintMore
def cmpL : List Int → List Int → Int
  | [], [] => 0
  | [], _ :: _ => -1
  | _ :: _, [] => 1
  | x :: xs, y :: ys => if x < y then -1 else if y < x then 1 else cmpL xs ys
theorem cmpInt_f (a b : Int) : cmp_Compare_int.f a b = some (if a < b then -1 else if b < a then 1 else 0) := by
  unfold cmp_Compare_int.f cmp_isNaN_int.f
  simp only [bne_self_eq_false, Option.bind_some, Bool.false_eq_true, if_false]
  by_cases h1 : a < b
  · rw [if_pos h1, if_pos h1]
  · by_cases h2 : b < a
    · rw [if_neg h1, if_pos h2, if_neg h1, if_pos h2]
    · rw [if_neg h1, if_neg h2, if_neg h1, if_neg h2]
theorem wrap_succ {i : Nat} (h : i < 100000) : wrap64 ((i : Int) + 1) = ((i + 1 : Nat) : Int) := by unfold wrap64; omega
theorem rd_at {a : List Int} {i : Nat} (h : i < a.length) : rd a (i : Int) = a[i] := by unfold rd; simp [List.getD_eq_getElem?_getD, h]
theorem compare_l0 (a b : List Int) (ha : a.length < 100000) : ∀ d i k : Nat, a.length - i = d → i ≤ a.length → i ≤ b.length → d < k →
    slices_Compare_int_int.l0 k a b a (a.length : Int) (i : Int) = some (cmpL (a.drop i) (b.drop i)) := by
  intro d
  induction d with
  | zero =>
    intro i k hd hi hb hk
    obtain ⟨k, rfl⟩ : ∃ m, k = m + 1 := ⟨k - 1, by omega⟩
    obtain rfl : i = a.length := by omega
    simp only [slices_Compare_int_int.l0]
    rw [if_neg (by omega), List.drop_length]
    by_cases h : a.length < b.length
    · rw [if_pos (by omega), List.drop_eq_getElem_cons h]
      rfl
    · rw [if_neg (by omega), List.drop_of_length_le (by omega)]
      rfl
  | succ d ih =>
    intro i k hd hi hb hk
    obtain ⟨k, rfl⟩ : ∃ m, k = m + 1 := ⟨k - 1, by omega⟩
    have hia : i < a.length := by omega
    have hd' : a.length - (i + 1) = d := by omega
    have hk' : d < k := by omega
    simp only [slices_Compare_int_int.l0]
    rw [if_pos (by omega), if_pos (by omega), if_pos (by omega), List.drop_eq_getElem_cons hia]
    by_cases hbi : i < b.length
    · rw [if_neg (by omega), if_pos (by omega), cmpInt_f, Option.bind_some, List.drop_eq_getElem_cons hbi, rd_at hia, rd_at hbi]
      have hc : cmpL (a[i] :: a.drop (i + 1)) (b[i] :: b.drop (i + 1)) = if a[i] < b[i] then -1 else if b[i] < a[i] then 1 else cmpL (a.drop (i + 1)) (b.drop (i + 1)) := rfl
      rw [hc]
      by_cases h1 : a[i] < b[i]
      · rw [if_pos h1, if_pos h1]; rfl
      · by_cases h2 : b[i] < a[i]
        · rw [if_neg h1, if_pos h2, if_neg h1, if_pos h2]; rfl
        · rw [if_neg h1, if_neg h2, if_neg h1, if_neg h2, if_pos rfl]
          rw [wrap_succ (Nat.lt_of_le_of_lt hi ha)]
          exact ih (i + 1) k hd' hia hbi hk'
    · rw [if_pos (by omega), List.drop_of_length_le (by omega : b.length ≤ i)]
      rfl
theorem compare_f (a b : List Int) (ha : a.length < 100000) : slices_Compare_int_int.f (a.length + 1) a b = some (cmpL a b) := by
  unfold slices_Compare_int_int.f
  have h := compare_l0 a b ha a.length 0 (a.length + 1) (by omega) (by omega) (by omega) (by omega)
  rw [List.drop_zero, List.drop_zero] at h
  exact h
end Go.Proofs.YtdjlfdbnmnjccaaGreat.St
end
section
set_option linter.unusedVariables false
set_option linter.unusedSimpArgs false
namespace Go.Proofs.YtdjlfdbnmnjccaaGreat.St
open Go.Sort hiding rd
open Go.RowKit Go.Shelf Go.Proofs.YtdjlfdbnmnjccaaGreatW.PrintWords Go.Proofs.YtdjlfdbnmnjccaaGreatW.PrintLast Go.Proofs.YtdjlfdbnmnjccaaGreatW.PrintMore
attribute [local go_sem] Oper.semAt_some
def bestTo (ps : List S167) (lines : List S89) : Nat → List Int
  | 0 => List.replicate (lines.length + 1) 0
  | k + 1 =>
    if (wrongL lines (rd_T167 ps k).f1 lines.length).length < (bestTo ps lines k).length then wrongL lines (rd_T167 ps k).f1 lines.length
    else if (wrongL lines (rd_T167 ps k).f1 lines.length).length = (bestTo ps lines k).length ∧ cmpL (wrongL lines (rd_T167 ps k).f1 lines.length) (bestTo ps lines k) < 0 then wrongL lines (rd_T167 ps k).f1 lines.length
    else bestTo ps lines k
theorem bestTo_succ (ps : List S167) (lines : List S89) (k : Nat) : bestTo ps lines (k + 1) =
    if (wrongL lines (rd_T167 ps k).f1 lines.length).length < (bestTo ps lines k).length then wrongL lines (rd_T167 ps k).f1 lines.length
    else if (wrongL lines (rd_T167 ps k).f1 lines.length).length = (bestTo ps lines k).length ∧ cmpL (wrongL lines (rd_T167 ps k).f1 lines.length) (bestTo ps lines k) < 0 then wrongL lines (rd_T167 ps k).f1 lines.length
    else bestTo ps lines k := rfl
theorem bestTo_len (ps : List S167) (lines : List S89) : ∀ k, (bestTo ps lines k).length ≤ lines.length + 1
  | 0 => by simp [bestTo]
  | k + 1 => by
    have := bestTo_len ps lines k
    have := wrongL_len lines (rd_T167 ps k).f1 lines.length
    rw [bestTo_succ]
    split
    · omega
    · split <;> omega
def wrongR (first : List ByteArray) (changes : List S60) (lines : List S89) : List Int × Int :=
  if openListE first changes lines ≠ 0 then ([], openListE first changes lines)
  else if bestTo (pagesOf first changes) lines (pagesOf first changes).length = [] then ([], 6)
  else (bestTo (pagesOf first changes) lines (pagesOf first changes).length, 0)
set_option maxHeartbeats 4000000 in
set_option maxRecDepth 100000 in
theorem wrongR_any (A0 : Option Addr) (c0 : Nat) (first : List ByteArray) (A1 : Option Addr) (c1 : Nat) (changes : List S60) (Al : Option Addr) (cl : Nat) (lines : List S89) (w : World)
    (hr0 : Kd.C Kd.string w A0 first.length first) (hc0 : first.length ≤ c0) (hr1 : Kd.C k60 w A1 changes.length changes) (hc1 : changes.length ≤ c1) (hrl : Kd.C k89 w Al lines.length lines) :
    Calls Tryz.prog 43 #[.agg #[.slice A0 first.length c0, .slice A1 changes.length c1], .slice Al lines.length cl] w fun e w' =>
      ∃ v : Value, e = .returned (.tuple #[v, .int .i64 (wrongR first changes lines).2]) ∧ Kd.R (Kd.int .i64) 3 w' w.heap.size (fun _ => True) v (wrongR first changes lines).1 ∧ Below w.heap.size w w' := by
  have HOP := Aside0.mk (fun (W : World) (hb : Below w.heap.size w W) => openList_any A0 c0 first A1 c1 changes Al cl lines W (Kd.C_below hr0 hb) hc0 (Kd.C_below hr1 hb) hc1 (Kd.C_below hrl hb))
  have HRL := Aside0.mk hrl
  clear hr0 hr1 hrl
  refine (callsIn_wide (n := 8)).1 ?_
  refine callsIn_of_wp_marks Tryz.func43 rfl trivial ?_ rfl
  simp only [Tryz.ntmps43, List.size_toArray, List.length_cons, List.length_nil, Nat.reduceAdd, Nat.reduceSub, Array.replicate_succ, Array.replicate_zero, List.push_toArray, List.append_toArray, List.nil_append, List.cons_append]
  have h18 : 1 ≤ 8 := by omega
  gi_wp2_with fail
  obtain ⟨W1, hW1⟩ : ∃ W1, (w.alloc (.cells #[.slice A0 first.length c0, .slice A1 changes.length c1] 25)).alloc (.cells #[.slice none 0 0] 31) = W1 := ⟨_, rfl⟩
  have hb1 : Below w.heap.size w W1 := by rw [← hW1]; exact below_alloc (below_alloc (Below.refl _ _) _) _
  have hbo : W1.heap[w.heap.size + 1]? = some (.cells #[.slice none 0 0] 31 (0, 0)) := by
    rw [← hW1]
    have := blk_new (w.alloc (.cells #[.slice A0 first.length c0, .slice A1 changes.length c1] 25)) (.cells #[.slice none 0 0] 31)
    rwa [World.size_alloc] at this
  rw [hW1]
  clear hW1
  refine ⟨trivial, (callsIn_wide.2 (HOP.out W1 hb1)).mono ?_⟩
  rintro e w2 ⟨B0, n0, d0, B1, n1, d1, Bp, np, dp, Bl, nl, dl, rfl, hop, hb⟩
  obtain ⟨oe, hoe⟩ : ∃ oe, openListE first changes lines = oe := ⟨_, rfl⟩
  rw [hoe]
  have HB2 := Aside0.mk (below_from hb1 hb)
  have hb2 := hb.size
  have BO2 := Aside0.mk (blk_below hbo hb)
  clear hb HOP hbo
  obtain ⟨W3, hW3⟩ : ∃ W3, w2.alloc (.cells #[.slice B0 n0 d0, .slice B1 n1 d1, .slice Bp np dp, .slice Bl nl dl] 147) = W3 := ⟨_, rfl⟩
  have HB3 := Aside0.mk (show Below w.heap.size w W3 from by rw [← hW3]; exact below_alloc HB2.out _)
  have BO3 := Aside0.mk (show W3.heap[w.heap.size + 1]? = some (.cells #[.slice none 0 0] 31 (0, 0)) from by rw [← hW3]; exact blk_alloc BO2.out _)
  have HL3 := Aside0.mk (show W3.heap[w2.heap.size]? = some (.cells #[.slice B0 n0 d0, .slice B1 n1 d1, .slice Bp np dp, .slice Bl nl dl] 147 (0, 0)) from by rw [← hW3]; exact blk_new w2 _)
  have l0 : W3.cell? ⟨w.heap.size + 1, 0, none⟩ = some (.slice none 0 0) := (blk_cell BO3.out 0).trans rfl
  have lf0 := blk_frozen BO3.out 0
  have ll := blk_lt BO3.out
  by_cases h0 : oe = 0
  · subst h0
    obtain ⟨e0, e1, e2, hp⟩ := hop hoe
    have hP3 : Kd.R k167 167 W3 W1.heap.size (fun _ => True) (.slice Bp np dp) (pagesOf first changes) := by rw [← hW3]; exact Kd.R_alloc hp _
    obtain ⟨hnp, _, _⟩ := Kd.R_reads' hP3
    subst hnp
    cases e0
    cases e1
    cases e2
    obtain ⟨ho0, ho1, _⟩ := openListE_zero hoe
    have HST := Aside0.mk (fun k hk => seen_at hoe k hk)
    have HOK := Aside0.mk (pages_ok ho0)
    have HN := Aside0.mk (show wrongR first changes lines = if bestTo (pagesOf first changes) lines (pagesOf first changes).length = [] then ([], 6) else (bestTo (pagesOf first changes) lines (pagesOf first changes).length, 0) from by unfold wrongR; rw [if_neg (by rw [hoe]; simp)])
    obtain ⟨ps, hps⟩ : ∃ ps, pagesOf first changes = ps := ⟨_, rfl⟩
    rw [hps] at hP3 HOK HN HL3
    have HP3 := Aside0.mk hP3
    obtain ⟨⟨c0_, c1_, c2_, c3_⟩, _, cl_⟩ := blk4 HL3.out
    have hsm : lines.length < 1000 := by omega
    clear hoe hop hp hP3 ho0
    have H8 := Aside0.mk ho1
    clear ho1
    rw [hps] at hW3 ⊢
    clear hps
    have HL1 := Aside0.mk (show W1.heap.size ≤ W3.heap.size from by rw [← hW3]; have := (Kd.R_reads' HP3.out).1; simp; exact Nat.le_succ_of_le hb2)
    have E6 := Aside0.mk (show List.replicate ((lines.length : Int) + 1).toNat (0 : Int) = bestTo ps lines 0 from by unfold bestTo; rw [show ((lines.length : Int) + 1).toNat = lines.length + 1 by omega])
    gi_wp2_with (gi_at_make; refine listIn_wide ?_; refine Kd.R_make (Kd.int .i64) (w0 := W3) (W := W3) W3.heap.size 3 ?b1 (N := 22) ?b2 31 (.tmp 21) (.tmp 21) ?b3 ((lines.length : Int) + 1) ?b4 ?b5 Tryz.underlying31 (.int .i64 0) 8 info3 rfl (by decide) (by omega) (0 : Int) (ok := fun _ => True) (okp := fun _ => False) ?aP (fun _ hk => hk.elim) trivial ?a0 ?aL ?aB ?aS ?_; (case b1 => rfl); (case b2 => rfl); (case b3 => rfl); (case b4 => rfl); (case b5 => rfl); (case aP => exact rfl); (case a0 => omega); (case aL => omega); (case aB => exact Below.refl _ _); (case aS => exact Nat.le_refl _); intro v1 w4 hv hb hgr _; rw [E6.out] at hv; have m1_ := Aside0.mk (Kd.R_lower hv HB3.out.size); have m2_ := Aside0.mk (below_from HB3.out hb); have m3_ := Aside0.mk (blk_grown BO3.out hgr (by simp)); have m4_ := Aside0.mk (blk_grown HL3.out hgr (by simp)); have m5_ := Aside0.mk (Kd.R_below HP3.out hb); clear hv hb hgr; obtain ⟨A5, c5, e5⟩ := Kd.R_slice m1_.out; subst e5; have l0 := (blk_cell m3_.out 0).trans rfl; have lf0 := blk_frozen m3_.out 0; have ll := blk_lt m3_.out)
    clear hW3
    go_wp2_with fail
    refine onlyN_mk ?_
    obtain ⟨B0l, hB0l⟩ : ∃ B, bestTo ps lines 0 = B := ⟨_, rfl⟩
    rw [hB0l] at m1_ ⊢
    obtain ⟨Wb, hWb⟩ : ∃ Wb, w4.setCell ⟨w.heap.size + 1, 0, none⟩ (.slice A5 B0l.length c5) = Wb := ⟨_, rfl⟩
    have n1 := Aside0.mk (show Kd.R (Kd.int .i64) 3 Wb w.heap.size (fun _ => True) (.slice A5 B0l.length c5) (bestTo ps lines 0) from by rw [← hWb, hB0l]; exact Kd.R_set m1_.out m3_.out (by decide) 0 _)
    have n2 := Aside0.mk (show Below w.heap.size w Wb from by rw [← hWb]; exact m2_.out.setCell (p := ⟨w.heap.size + 1, 0, none⟩) (by show w.heap.size ≤ w.heap.size + 1; omega) _)
    have n3 := Aside0.mk (show Wb.heap[w.heap.size + 1]? = some (.cells #[.slice A5 B0l.length c5] 31 (0, 0)) from by rw [← hWb]; exact blk_put m3_.out 0 _ rfl)
    have hnb : w2.heap.size ≠ w.heap.size + 1 := by have h1 := hb1.size; have h2 := HB2.out.size; have h3 := blk_lt BO2.out; omega
    have n4 := Aside0.mk (show Wb.heap[w2.heap.size]? = some (.cells #[.slice A0 first.length c0, .slice A1 changes.length c1, .slice Bp ps.length dp, .slice Al lines.length cl] 147 (0, 0)) from by rw [← hWb]; exact blk_far m4_.out (p := ⟨w.heap.size + 1, 0, none⟩) hnb _)
    have n5 := Aside0.mk (show Kd.R k167 167 Wb W1.heap.size (fun _ => True) (.slice Bp ps.length dp) ps from by rw [← hWb]; exact Kd.R_set m5_.out m3_.out (by decide) 0 _)
    rw [hWb]
    clear hWb m1_ m2_ m3_ m4_ m5_ l0 lf0 ll BO3 HL3 HP3 hB0l c0_ c1_ c2_ c3_ cl_ HB3
    obtain ⟨g, cg, vals, hveq, hgb, hpa, hna⟩ := pagesAt_of_R n5.out HOK.out.ne
    cases hveq
    have HPA := Aside0.mk hpa
    have HNA := Aside0.mk hna
    clear hpa hna
    obtain ⟨⟨c0_, c1_, c2_, c3_⟩, _, cl_⟩ := blk4 n4.out
    gi_wp2_with fail
    refine' rangeBound (enc := encP ps vals) (T := fun t => t = 167 ∨ t = 124 ∨ t = 9) (N := ps.length) (w0 := Wb) rfl (by omega) rfl trivial (enters_of Tryz.func73 (by kernel_rfl) rfl)
      (times_seq Fence.wide 7 trivial rfl (by omega) (.slice A0 first.length c0) (.slice A1 changes.length c1) g dp first.length ps HOK.out vals _ (.inl rfl) (.inr (.inl rfl)) Wb HPA.out) (KeepT.refl _ _) (fun _ => rfl)
      (fun k W => ∃ v : Value, W.heap[w.heap.size + 1]? = some (.cells #[v] 31 (0, 0)) ∧ W.heap[w2.heap.size]? = some (.cells #[.slice A0 first.length c0, .slice A1 changes.length c1, .slice (some ⟨g, 0, none⟩) ps.length dp, .slice Al lines.length cl] 147 (0, 0)) ∧
        Kd.R (Kd.int .i64) 3 W w.heap.size (fun _ => True) v (bestTo ps lines k) ∧ Below w.heap.size w W ∧ NamesAt W W1.heap.size ps vals ∧ Wb.heap.size ≤ W.heap.size) ?ia ?ip ?i0
      (NoBox (fun k => ({ tmps := #[Value.agg #[Value.slice A0 first.length c0, Value.slice A1 changes.length c1], Value.slice Al lines.length cl, Value.pointer (some { block := w.heap.size, off := 0 }), undef, Value.pointer (some { block := w.heap.size + 1, off := 0 }), Value.int IntKind.i64 0, Value.pointer (some { block := w2.heap.size, off := 0 }), undef, vals k, undef, Value.tuple #[Value.agg #[Value.slice A0 first.length c0, Value.slice A1 changes.length c1, Value.slice (some { block := g, off := 0 }) ps.length dp, Value.slice Al lines.length cl], Value.int IntKind.i64 0], Value.agg #[Value.slice A0 first.length c0, Value.slice A1 changes.length c1], Value.slice Al lines.length cl, Value.tuple #[Value.agg #[Value.slice A0 first.length c0, Value.slice A1 changes.length c1, Value.slice (some { block := g, off := 0 }) ps.length dp, Value.slice Al lines.length cl], Value.int IntKind.i64 0], Value.agg #[Value.slice A0 first.length c0, Value.slice A1 changes.length c1, Value.slice (some { block := g, off := 0 }) ps.length dp, Value.slice Al lines.length cl], Value.int IntKind.i64 0, Value.int IntKind.i64 0, Value.bool false, undef, Value.slice Al lines.length cl, Value.int IntKind.i64 (lines.length : Int), Value.int IntKind.i64 ((lines.length : Int) + 1), Value.slice A5 B0l.length c5, Value.pointer (some { block := w2.heap.size, off := 0 }), Value.agg #[Value.slice A0 first.length c0, Value.slice A1 changes.length c1, Value.slice (some { block := g, off := 0 }) ps.length dp], Value.func (Fn.func 73) #[Value.agg #[Value.slice A0 first.length c0, Value.slice A1 changes.length c1, Value.slice (some { block := g, off := 0 }) ps.length dp]] #[], Value.agg #[Value.int IntKind.i64 (rd_T167 ps (k : Int)).f0, Value.int IntKind.i64 (hiOf ps k)], vals k, undef, undef, undef, undef, undef, undef, undef, undef, undef, undef, undef, undef, undef, undef, undef, undef, undef, undef, undef, undef, undef, undef, undef, undef, undef, undef], defers := [] } : Act))) (fun k a' W l o o' _ _ _ h => ⟨h.out⟩) ?assign ?body ?done
    case ia =>
      rintro k W o ⟨v, h1, h2, h3, h5, h6, h7⟩
      exact ⟨v, blk_alloc h1 _, blk_alloc h2 _, Kd.R_alloc h3 _, h5.trans ((Below.refl _ W).alloc h5.size _), ⟨fun k hk => Kd.R_alloc (h6.at_ k hk) _⟩, by simp; omega⟩
    case ip =>
      rintro k W l o o' hl hlo ho ⟨v, h1, h2, h3, h5, h6, h7⟩
      have hne : ∀ (j : Nat) (cs : Array Value) (t : Nat), W.heap[j]? = some (.cells cs t (0, 0)) → (W.putObj l o').heap[j]? = some (.cells cs t (0, 0)) := fun j cs t hj => by
        rw [World.putObj_heap_other (fun e => by subst e; rw [hlo] at hj; cases hj; cases ho)]; exact hj
      exact ⟨v, hne _ _ _ h1, hne _ _ _ h2, R_putObj h3 hlo ho o', (h5.grown (grownBy_putObj' W l o') h5.size (fun j hj => by cases hj; exact Nat.le_trans n2.out.size hl)), ⟨fun k hk => R_putObj (h6.at_ k hk) hlo ho o'⟩, by simpa [World.putObj] using h7⟩
    case i0 => exact ⟨_, n3.out, n4.out, n1.out, n2.out, HNA.out, Nat.le_refl _⟩
    case assign =>
      rintro l k W K ⟨v, h1, h2, h3, h5, h6, h7⟩ hk hK
      unfold encP
      gi_wp2_with fail
      exact hK _ _ ((KeepsOthers.refl _).from _) (KeepT.refl _ _) ⟨v, h1, h2, h3, h5, h6, h7⟩ ⟨rfl⟩
    case done =>
      rintro D W hD ⟨v, h1, h2, h3, h5, h6, h7⟩ hK
      have q0 : W.cell? ⟨w.heap.size + 1, 0, none⟩ = some v := (blk_cell h1 0).trans rfl
      have qf := blk_frozen h1 0
      have ql := blk_lt h1
      obtain ⟨FL, hFL⟩ : ∃ FL, bestTo ps lines ps.length = FL := ⟨_, rfl⟩
      rw [hFL] at h3 HN
      obtain ⟨Av, cv, rfl⟩ := Kd.R_slice h3
      have G1 := Aside0.mk h1
      have G3 := Aside0.mk h3
      have G5 := Aside0.mk h5
      have GK := Aside0.mk hK
      have hne : D ≠ w.heap.size + 1 := fun e => by have h1 := G1.out; have h2 := GK.out; rw [e, h1] at h2; cases h2
      clear h1 h2 h3 h5 hK c0_ c1_ c2_ c3_ cl_ hFL
      by_cases hfl : FL = []
      · subst hfl
        have q0' : W.cell? ⟨w.heap.size + 1, 0, none⟩ = some (.slice Av 0 cv) := q0
        clear q0
        gi_wp2_with fail
        obtain ⟨W', hW'⟩ : ∃ W', W.setCell ⟨w.heap.size + 1, 0, none⟩ (.slice none 0 0) = W' := ⟨_, rfl⟩
        have hKD : W'.heap[D]? = some (.deferred (some [])) := by
          rw [← hW']
          have : (W.setCell ⟨w.heap.size + 1, 0, none⟩ (.slice none 0 0)).heap[D]? = W.heap[D]? := by simp [World.setCell, Array.getElem?_modify, Ne.symm hne]
          rw [this]; exact GK.out
        have hG1 : W'.heap[w.heap.size + 1]? = some (.cells #[.slice none 0 0] 31 (0, 0)) := by rw [← hW']; exact blk_put G1.out 0 _ rfl
        have hG5 : Below w.heap.size w W' := by rw [← hW']; exact G5.out.setCell (p := ⟨w.heap.size + 1, 0, none⟩) (by show w.heap.size ≤ w.heap.size + 1; omega) _
        have q' : (W'.putObj D (.deferred none)).cell? ⟨w.heap.size + 1, 0, none⟩ = some (.slice none 0 0) := (blk_cell ((World.putObj_heap_other (Ne.symm hne)).trans hG1) 0).trans rfl
        have HN2 := HN.out
        rw [if_pos trivial] at HN2
        rw [hW', HN2]
        refine ⟨by simp, .inl ⟨_, _, rfl, run_takeDeferred hKD, ?_⟩⟩
        show ∃ v, _ ∧ _
        refine ⟨.tuple #[.slice none 0 0, .int .i64 6], by simp [results, Tryz.results43, go_sem, q'], ?_⟩
        exact ⟨_, rfl, Kd.R_nil _ _ _ _ _, hG5.grown (grownBy_putObj' W' D _) hG5.size (fun j hj => by cases hj; exact Nat.le_trans n2.out.size hD)⟩
      · have hpos : 0 < FL.length := List.length_pos_iff.2 hfl
        have hposz : 0 < (FL.length : Int) := by omega
        have hz1 : ((FL.length : Int) == 0) = false := by rw [beq_eq_false_iff_ne]; omega
        have HN2 := HN.out
        rw [if_neg hfl] at HN2
        have HN3 := Aside0.mk HN2
        clear hfl HN2
        gi_wp2_with fail
        obtain ⟨W', hW'⟩ : ∃ W', W.setCell ⟨w.heap.size + 1, 0, none⟩ (.slice Av FL.length cv) = W' := ⟨_, rfl⟩
        have hKD : W'.heap[D]? = some (.deferred (some [])) := by
          rw [← hW']
          have : (W.setCell ⟨w.heap.size + 1, 0, none⟩ (.slice Av FL.length cv)).heap[D]? = W.heap[D]? := by simp [World.setCell, Array.getElem?_modify, Ne.symm hne]
          rw [this]; exact GK.out
        have hG1 : W'.heap[w.heap.size + 1]? = some (.cells #[.slice Av FL.length cv] 31 (0, 0)) := by rw [← hW']; exact blk_put G1.out 0 _ rfl
        have hG3 : Kd.R (Kd.int .i64) 3 W' w.heap.size (fun _ => True) (.slice Av FL.length cv) FL := by rw [← hW']; exact Kd.R_set G3.out G1.out (by decide) 0 _
        have hG5 : Below w.heap.size w W' := by rw [← hW']; exact G5.out.setCell (p := ⟨w.heap.size + 1, 0, none⟩) (by show w.heap.size ≤ w.heap.size + 1; omega) _
        have q' : (W'.putObj D (.deferred none)).cell? ⟨w.heap.size + 1, 0, none⟩ = some (.slice Av FL.length cv) := (blk_cell ((World.putObj_heap_other (Ne.symm hne)).trans hG1) 0).trans rfl
        rw [hW', HN3.out]
        refine ⟨by simp, .inl ⟨_, _, rfl, run_takeDeferred hKD, ?_⟩⟩
        show ∃ v, _ ∧ _
        refine ⟨.tuple #[.slice Av FL.length cv, .int .i64 0], by simp [results, Tryz.results43, go_sem, q'], ?_⟩
        exact ⟨_, rfl, R_putObj hG3 hKD rfl _, hG5.grown (grownBy_putObj' W' D _) hG5.size (fun j hj => by cases hj; exact Nat.le_trans n2.out.size hD)⟩
    case body =>
      rintro l k a' W hl ⟨r, hr⟩ ⟨v, h1, h2, h3, h5, h6, h7⟩ hax hlt
      obtain rfl := hax.out
      have hna := h6.at_ k hlt
      obtain ⟨nm, hnm⟩ : ∃ nm, (rd_T167 ps (k : Int)).f1 = nm := ⟨_, rfl⟩
      rw [hnm] at hna
      obtain ⟨An, cn, hvk, hnc, hnC⟩ := Kd.R_reads hna
      have hnl : nm.length = first.length := by rw [← hnm]; exact HOK.out.len _ (rd_page_mem k hlt)
      have hcall := wrong_any A0 first.length c0 A1 changes.length c1 (some ⟨g, 0, none⟩) ps.length dp Al cl lines An cn nm W (Kd.C_below HRL.out h5) hnC (fun k hk => by rw [hnl]; exact HST.out k hk) (by omega)
      dsimp only
      rw [hvk]
      obtain ⟨WL, hWL⟩ : ∃ WL, wrongL lines nm lines.length = WL := ⟨_, rfl⟩
      rw [hWL] at hcall
      have HC := Aside0.mk hcall
      have hwl : WL.length ≤ lines.length := by rw [← hWL]; exact wrongL_len lines nm lines.length
      have hbl := bestTo_len ps lines k
      have hsu := bestTo_succ ps lines k
      rw [hnm, hWL] at hsu
      obtain ⟨BT, hBT⟩ : ∃ BT, bestTo ps lines k = BT := ⟨_, rfl⟩
      rw [hBT] at h3 hbl hsu
      have HSU := Aside0.mk hsu
      obtain ⟨Av, cv, rfl⟩ := Kd.R_slice h3
      have H1 := Aside0.mk h1
      have H2 := Aside0.mk h2
      have H3 := Aside0.mk h3
      have H5 := Aside0.mk h5
      have H6 := Aside0.mk h6
      have HR := Aside0.mk hr
      obtain ⟨⟨c0_, c1_, c2_, c3_⟩, _, cl_⟩ := blk4 h2
      clear hcall h1 h2 h3 h5 h6 hnm hWL hr hna hnC hvk hnc hnl hBT hsu
      gi_wp2_with fail
      refine ⟨trivial, (CallsIn.inRound l (callsIn_wide.2 HC.out)).mono ?_⟩
      rintro e w5 ⟨v2, rfl, hv2, hnil2, hb⟩
      have R2 := Aside0.mk ((Rn.refl (fun t => t = 167 ∨ t = 124 ∨ t = 9) W).below hb)
      have G1 := Aside0.mk (blk_below H1.out hb)
      have G2 := Aside0.mk (blk_below H2.out hb)
      have G3 := Aside0.mk (Kd.R_below H3.out hb)
      have G4 := Aside0.mk (Kd.R_lower hv2 H5.out.size)
      have G5 := Aside0.mk (H5.out.trans (hb.mono H5.out.size))
      have G7 := Aside0.mk (Nat.le_trans h7 hb.size)
      obtain ⟨A2, c2, rfl⟩ := Kd.R_slice hv2
      clear hb H1 H2 H3 H5 h7 c0_ c1_ c2_ c3_ cl_ hv2 hnil2
      have l0 : w5.cell? ⟨w.heap.size + 1, 0, none⟩ = some (.slice Av BT.length cv) := (blk_cell G1.out 0).trans rfl
      have lf0 := blk_frozen G1.out 0
      have ll := blk_lt G1.out
      have hwl2 : WL.length ≤ 1000 := by omega
      have hbl2 : BT.length ≤ 1000 := by omega
      by_cases hc1 : WL.length < BT.length
      · have hz1 : decide (WL.length < BT.length) = true := by simpa using hc1
        have HSV := HSU.out
        rw [if_pos hc1] at HSV
        have HSW := Aside0.mk HSV
        clear HSV hc1 HSU
        gi_wp2_with fail
        · rename_i b hu1 hu2
          exact absurd hu1 (by simp [undef])
        · rename_i b hu1 hu2
          exact absurd hu1 (by simp [undef])
        refine ⟨trivial, ?_⟩
        gi_wp2_with fail
        have hRn := R2.out.set G1.out (by decide) 0 (.slice A2 WL.length c2)
        refine ⟨hRn.k.from _, hRn.t, ⟨_, blk_put G1.out 0 _ rfl, blk_far G2.out (p := ⟨w.heap.size + 1, 0, none⟩) hnb _, by rw [HSW.out]; exact Kd.R_set G4.out G1.out (by decide) 0 _, G5.out.setCell (p := ⟨w.heap.size + 1, 0, none⟩) (by show w.heap.size ≤ w.heap.size + 1; omega) _, H6.out.keep (.inr (.inr rfl)) hRn.t, by have := G7.out; simpa using this⟩⟩
      · have hz1 : ¬ (WL.length : Int) < (BT.length : Int) := by omega
        have HSV := HSU.out
        rw [if_neg hc1] at HSV
        by_cases hc2 : WL.length = BT.length
        · have hz2 : ((WL.length : Int) == (BT.length : Int)) = true := by rw [hc2]; simp
          have HCP := Aside0.mk (slices_Compare_int_int.calls (WL.length + 1) A2 c2 WL Av cv BT (cmpL WL BT) w5 (Kd.R_reads' G4.out).2.2 (Kd.R_reads' G4.out).2.1 (Kd.R_reads' G3.out).2.2 (Kd.R_reads' G3.out).2.1 (compare_f WL BT (by omega)))
          obtain ⟨cv9, hcv9⟩ : ∃ c, cmpL WL BT = c := ⟨_, rfl⟩
          rw [hcv9] at HCP HSV
          by_cases hc3 : cv9 < 0
          · rw [if_pos ⟨hc2, hc3⟩] at HSV
            have HSW := Aside0.mk HSV
            clear HSV hc1 HSU hcv9 hc2
            gi_wp2_with fail
            refine ⟨trivial, (CallsIn.inRound l (callsIn_wide.2 HCP.out)).mono ?_⟩
            rintro e w6 ⟨rfl, ⟨nd, rfl⟩⟩
            gi_wp2_with fail
            have hRn := (R2.out.drewN nd).set (blk_drewN G1.out nd) (by decide) 0 (.slice A2 WL.length c2)
            refine ⟨hRn.k.from _, hRn.t, ⟨_, blk_put (blk_drewN G1.out nd) 0 _ rfl, blk_far (blk_drewN G2.out nd) (p := ⟨w.heap.size + 1, 0, none⟩) hnb _, by rw [HSW.out]; exact Kd.R_set (Kd.R_drewN G4.out nd) (blk_drewN G1.out nd) (by decide) 0 _, (pw_below_drewN G5.out nd).setCell (p := ⟨w.heap.size + 1, 0, none⟩) (by show w.heap.size ≤ w.heap.size + 1; omega) _, H6.out.keep (.inr (.inr rfl)) hRn.t, by have := G7.out; simpa using this⟩⟩
          · rw [if_neg (fun h => hc3 h.2)] at HSV
            have HSW := Aside0.mk HSV
            clear HSV hc1 HSU hcv9 hc2
            gi_wp2_with fail
            refine ⟨trivial, (CallsIn.inRound l (callsIn_wide.2 HCP.out)).mono ?_⟩
            rintro e w6 ⟨rfl, ⟨nd, rfl⟩⟩
            gi_wp2_with fail
            have hRn := R2.out.drewN nd
            refine ⟨hRn.k.from _, hRn.t, ⟨_, blk_drewN G1.out nd, blk_drewN G2.out nd, by rw [HSW.out]; exact Kd.R_drewN G3.out nd, pw_below_drewN G5.out nd, H6.out.keep (.inr (.inr rfl)) hRn.t, by have := G7.out; simpa using this⟩⟩
        · have hz2 : ((WL.length : Int) == (BT.length : Int)) = false := by rw [beq_eq_false_iff_ne]; omega
          rw [if_neg (fun h => hc2 h.1)] at HSV
          have HSW := Aside0.mk HSV
          clear HSV hc1 HSU hc2
          gi_wp2_with fail
          refine ⟨trivial, ?_⟩
          gi_wp2_with fail
          refine ⟨R2.out.k.from _, R2.out.t, ⟨_, G1.out, G2.out, by rw [HSW.out]; exact G3.out, G5.out, H6.out.keep (.inr (.inr rfl)) R2.out.t, G7.out⟩⟩
  · have h0' : (oe != 0) = true := by simp [h0]
    have HN := Aside0.mk (show wrongR first changes lines = ([], oe) from by unfold wrongR; rw [if_pos (by rw [hoe]; exact h0), hoe])
    clear h0 hop hoe
    gi_wp2_with fail
    obtain ⟨W', hW'⟩ : ∃ W', W3.setCell ⟨w.heap.size + 1, 0, none⟩ (.slice none 0 0) = W' := ⟨_, rfl⟩
    have q0 : W'.cell? ⟨w.heap.size + 1, 0, none⟩ = some (.slice none 0 0) := by rw [← hW']; exact (blk_cell (blk_put BO3.out 0 _ rfl) 0).trans rfl
    have HBW : Below w.heap.size w W' := by rw [← hW']; exact HB3.out.setCell (p := ⟨w.heap.size + 1, 0, none⟩) (by show w.heap.size ≤ w.heap.size + 1; omega) _
    rw [hW', HN.out]
    show ∃ v, _ ∧ _
    refine ⟨.tuple #[.slice none 0 0, .int .i64 oe], by simp [results, Tryz.results43, go_sem, q0], ?_⟩
    exact ⟨_, rfl, Kd.R_nil _ _ _ _ _, HBW⟩
def street_Wrong.f (l0_0 : List ByteArray) (l0_1 : List S60) (l1 : List S89) : Option (List Int × Int) := some (wrongR l0_0 l0_1 l1)
theorem street_Wrong.calls (A0_0 : Option Addr) (c0_0 : Nat) (l0_0 : List ByteArray) (A0_1 : Option Addr) (c0_1 : Nat) (l0_1 : List S60) (A1 : Option Addr) (c1 : Nat) (l1 : List S89) (r_0 : List Int) (r_1 : Int) (w : World) (hr0_0 : Kd.C Kd.string w A0_0 l0_0.length l0_0) (hc0_0 : l0_0.length ≤ c0_0) (hr0_1 : Kd.C k60 w A0_1 l0_1.length l0_1) (hc0_1 : l0_1.length ≤ c0_1) (hr1 : Kd.C k89 w A1 l1.length l1) (hc1 : l1.length ≤ c1) (h : street_Wrong.f l0_0 l0_1 l1 = some (r_0, r_1)) :
    Calls Tryz.prog 43 #[.agg #[.slice A0_0 l0_0.length c0_0, .slice A0_1 l0_1.length c0_1], .slice A1 l1.length c1] w fun e w' => ∃ v0_ : Value, e = .returned (.tuple #[v0_, .int .i64 r_1]) ∧ Kd.R (Kd.int .i64) 3 w' w.heap.size (fun _ => True) v0_ r_0 ∧ Below w.heap.size w w' := by
  have e := Option.some.inj h
  have h0 : (wrongR l0_0 l0_1 l1).1 = r_0 := by rw [e]
  have h1 : (wrongR l0_0 l0_1 l1).2 = r_1 := by rw [e]
  have := wrongR_any A0_0 c0_0 l0_0 A0_1 c0_1 l0_1 A1 c1 l1 w hr0_0 hc0_0 hr0_1 hc0_1 hr1
  rwa [h0, h1] at this
end Go.Proofs.YtdjlfdbnmnjccaaGreat.St
end
section
namespace Go.Proofs.YtdjlfdbnmnjccaaGreat.St
open Go.RowKit Go.Proofs.YtdjlfdbnmnjccaaGreatW.PrintWords Go.Proofs.YtdjlfdbnmnjccaaGreatW.PrintLast Go.Proofs.YtdjlfdbnmnjccaaGreatW.PrintMore
attribute [local go_sem] max2_int min2_int max_two min_two max_three min_three max_four min_four
set_option linter.unusedVariables false
set_option linter.unusedSimpArgs false
def smaltolaw08_change.f (a0 : Int) (a1 : Int) (a2 : ByteArray) : Option (Int × Int × ByteArray) := some (a0, a1, a2)
set_option maxHeartbeats 8000000 in
set_option maxRecDepth 100000 in
theorem smaltolaw08_change.calls (a0 : Int) (a1 : Int) (a2 : ByteArray) (r1 : Int) (r2 : Int) (r3 : ByteArray) (w : World) (h : smaltolaw08_change.f a0 a1 a2 = some (r1, r2, r3)) :
    Calls Tryz.prog 56 #[.int .i64 a0, .int .i64 a1, .string a2] w fun e w' => e = .returned (.agg #[.int .i64 r1, .int .i64 r2, .string r3]) ∧ Below w.heap.size w w' := by
  have hu60 := Tryz.underlying60
  have HB := Aside0.mk (Below.refl w.heap.size w)
  have H : (some (a0, a1, a2)) = some (r1, r2, r3) := h
  clear h
  simp only [Option.some.injEq, Prod.mk.injEq] at H
  obtain ⟨rfl, rfl, rfl⟩ := H
  go_enter Tryz.func56, Tryz.ntmps56
  go_wp2_with (first | ((with_reducible refine gate_dst (N := 6) rfl ?_); refine box_event ?hg (N := 6) ?hd (cs := #[.int .i64 0, .int .i64 0, .string (⟨#[]⟩ : ByteArray)]) (t := 60) ?hr ?_; (case hd => rfl); (case hg => rfl); (case hr => first | (go_simp; done) | (go_simp; rfl)); intro gb299 hg w4 hbox hb; have n0_ := Aside0.mk (below_step (by repeat (first | (with_reducible first | exact HB.out | apply below_alloc | apply pw_below_drewN | apply below_drew1) | exact HB.out)) hb); have n1_ := Aside0.mk (hbox); have n2_ := Aside0.mk ((by rw [hg]; exact (below_size (by repeat (first | (with_reducible first | exact HB.out | apply below_alloc | apply pw_below_drewN | apply below_drew1) | exact HB.out))) : w.heap.size ≤ gb299)); have n3_ := Aside0.mk ((by rw [hg]; exact (below_size (by repeat (first | (with_reducible first | exact HB.out | apply below_alloc | apply pw_below_drewN | apply below_drew1) | exact HB.out))) : w.heap.size ≤ gb299)); clear HB; have HB := n0_; have BK299 := n1_; have GW299 := n2_; have GE299 := n3_; clear n0_ n1_ n2_ n3_; clear hb hbox hg; have hcz5_0 : w4.cell? ⟨gb299, 0, none⟩ = some (.int .i64 0) := (blk_cell BK299.out 0).trans rfl; have hcz5_1 : w4.cell? ⟨gb299, 1, none⟩ = some (.int .i64 0) := (blk_cell BK299.out 1).trans rfl; have hcz5_2 : w4.cell? ⟨gb299, 2, none⟩ = some (.string (⟨#[]⟩ : ByteArray)) := (blk_cell BK299.out 2).trans rfl; have hfz5_0 := blk_frozen BK299.out 0; have hfz5_1 := blk_frozen BK299.out 1; have hfz5_2 := blk_frozen BK299.out 2))
  refine bodyPost_ret (results_cell_row rfl _ _ gb299 60 #[.int .i64 a0, .int .i64 a1, .string a2] (0, 0) _ rfl (by (with_reducible repeat (first | refine blk_drewN ?_ _ | refine blk_drew ?_ | refine blk_alloc ?_ _)); refine blk_put (cs := #[.int .i64 a0, .int .i64 a1, .string (⟨#[]⟩ : ByteArray)]) ?_ 2 _ rfl; (with_reducible repeat (first | refine blk_drewN ?_ _ | refine blk_drew ?_ | refine blk_alloc ?_ _)); refine blk_put (cs := #[.int .i64 a0, .int .i64 0, .string (⟨#[]⟩ : ByteArray)]) ?_ 1 _ rfl; (with_reducible repeat (first | refine blk_drewN ?_ _ | refine blk_drew ?_ | refine blk_alloc ?_ _)); refine blk_put (cs := #[.int .i64 0, .int .i64 0, .string (⟨#[]⟩ : ByteArray)]) ?_ 0 _ rfl; (with_reducible repeat (first | refine blk_drewN ?_ _ | refine blk_drew ?_ | refine blk_alloc ?_ _)); exact BK299.out) Tryz.underlying60 rfl (by kernel_rfl)) rfl ?_
  exact ⟨by first | rfl | (simp [errW_none, errW_some] <;> rfl) | (simp [*, errW_none, errW_some] <;> rfl), by repeat (first | (with_reducible first | exact HB.out | apply below_alloc | apply pw_below_drewN | apply below_drew1 | refine below_set ?_ GE299.out) | exact HB.out)⟩
end Go.Proofs.YtdjlfdbnmnjccaaGreat.St
end
