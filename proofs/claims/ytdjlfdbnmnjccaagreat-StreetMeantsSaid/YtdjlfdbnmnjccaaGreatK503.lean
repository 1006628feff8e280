/- A part of the proof of a law of this seat: lemmas that hold without conditions. -/
import Derived.Test.YtdjlfdbnmnjccaaGreatB32
import Derived.Test.YtdjlfdbnmnjccaaGreatK502
set_option linter.all false
set_option linter.unusedSectionVars false
section
set_option linter.unusedVariables false
set_option linter.unusedSimpArgs false
namespace Go.Proofs.YtdjlfdbnmnjccaaGreat.St
open Go.RowKit Go.Shelf Go.Proofs.YtdjlfdbnmnjccaaGreatW.PrintWords Go.Proofs.YtdjlfdbnmnjccaaGreatW.PrintLast Go.Proofs.YtdjlfdbnmnjccaaGreatW.PrintMore
theorem lev_max (a b : ByteArray) : ∀ i k m : Nat, i ≤ m → k ≤ m → lev a b i k ≤ (m : Int)
  | 0, k, m, _, hk => by rw [lev_zero]; omega
  | i + 1, 0, m, hi, _ => by rw [lev_left]; omega
  | i + 1, k + 1, m, hi, hk => by
    obtain ⟨m, rfl⟩ : ∃ j, m = j + 1 := ⟨m - 1, by omega⟩
    have h1 := lev_max a b i k m (by omega) (by omega)
    rw [lev_succ]
    split <;> omega
def eqTo (F : Nat → Int) (L : Int) (m : Nat) : List Int := ((List.range m).filter fun j => decide (F j = L)).map fun j : Nat => (j : Int)
theorem eqTo_succ (F : Nat → Int) (L : Int) (m : Nat) : eqTo F L (m + 1) = if F m = L then eqTo F L m ++ [(m : Int)] else eqTo F L m := by
  unfold eqTo
  rw [List.range_succ, List.filter_append, List.map_append]
  by_cases e : F m = L
  · simp [e]
  · simp [e]
theorem eqTo_none (F : Nat → Int) (L : Int) (m : Nat) (h : ∀ j, j < m → F j ≠ L) : eqTo F L m = [] := by
  unfold eqTo
  rw [List.map_eq_nil_iff, List.filter_eq_nil_iff]
  intro j hj
  rw [List.mem_range] at hj
  simp [h j hj]
theorem eqTo_len (F : Nat → Int) (L : Int) (m : Nat) : (eqTo F L m).length ≤ m := by
  unfold eqTo
  rw [List.length_map]
  exact Nat.le_trans (List.length_filter_le _ _) (by simp)
theorem near_inv (word : ByteArray) (ns : List ByteArray) (F : Nat → Int) (n : Nat) (hF : ∀ j, j < n → faultsV word (ns.getD j ByteArray.empty) = F j) (hb : ∀ j, j < n → F j ≤ 10) : ∀ m, m ≤ n →
    (nearTo word ns m).1 = eqTo F (nearTo word ns m).2 m ∧ (∀ j, j < m → (nearTo word ns m).2 ≤ F j) ∧ (0 < m → ∃ j, j < m ∧ (nearTo word ns m).2 = F j) ∧ (m = 0 → (nearTo word ns m).2 = 11)
  | 0, _ => ⟨rfl, fun j h => absurd h (Nat.not_lt_zero _), fun h => absurd h (Nat.not_lt_zero _), fun _ => rfl⟩
  | m + 1, hm => by
    obtain ⟨i1, i2, i3, i4⟩ := near_inv word ns F n hF hb m (by omega)
    rw [nearTo_succ, hF m (by omega)]
    have hbm := hb m (by omega)
    by_cases e1 : F m < (nearTo word ns m).2
    · rw [if_pos e1]
      refine ⟨?_, fun j hj => ?_, fun _ => ⟨m, Nat.lt_succ_self _, rfl⟩, fun h => absurd h (Nat.succ_ne_zero _)⟩
      · show [(m : Int)] = eqTo F (F m) (m + 1)
        rw [eqTo_succ, if_pos rfl, eqTo_none F (F m) m (fun j hj => by have := i2 j hj; omega)]
        rfl
      · show F m ≤ F j
        by_cases e : j = m
        · rw [e]; exact Int.le_refl _
        · have := i2 j (by omega); omega
    · rw [if_neg e1]
      by_cases e2 : F m = (nearTo word ns m).2
      · rw [if_pos e2]
        refine ⟨?_, fun j hj => ?_, fun _ => ⟨m, Nat.lt_succ_self _, e2.symm⟩, fun h => absurd h (Nat.succ_ne_zero _)⟩
        · show (nearTo word ns m).1 ++ [(m : Int)] = eqTo F (nearTo word ns m).2 (m + 1)
          rw [eqTo_succ, if_pos e2, i1]
        · show (nearTo word ns m).2 ≤ F j
          by_cases e : j = m
          · rw [e]; omega
          · exact i2 j (by omega)
      · rw [if_neg e2]
        refine ⟨?_, fun j hj => ?_, fun _ => ?_, fun h => absurd h (Nat.succ_ne_zero _)⟩
        · rw [eqTo_succ, if_neg e2]; exact i1
        · by_cases e : j = m
          · rw [e]; omega
          · exact i2 j (by omega)
        · by_cases e : m = 0
          · have := i4 e; omega
          · obtain ⟨j, hj, h⟩ := i3 (by omega)
            exact ⟨j, by omega, h⟩
def minP (F : Nat → Int) : Nat → Int
  | 0 => 99
  | j + 1 => mn (minP F j) (F j)
theorem minP_spec (F : Nat → Int) (hb : ∀ j, F j ≤ 98) : ∀ n, (∀ j, j < n → minP F n ≤ F j) ∧ (0 < n → ∃ j, j < n ∧ minP F n = F j) ∧ minP F n ≤ 99
  | 0 => ⟨fun j h => absurd h (Nat.not_lt_zero _), fun h => absurd h (Nat.not_lt_zero _), Int.le_refl _⟩
  | n + 1 => by
    obtain ⟨i1, i2, i3⟩ := minP_spec F hb n
    have e : minP F (n + 1) = mn (minP F n) (F n) := rfl
    have hn := hb n
    rw [e]
    unfold mn
    split
    · rename_i h
      refine ⟨fun j hj => ?_, fun _ => ?_, by omega⟩
      · by_cases e : j = n
        · rw [e]; omega
        · have := i1 j (by omega); omega
      · first
        | exact ⟨n, Nat.lt_succ_self _, rfl⟩
        | (by_cases e : n = 0
           · subst e; have : minP F 0 = 99 := rfl; omega
           · obtain ⟨j, hj, h⟩ := i2 (by omega); exact ⟨j, by omega, h⟩)
    · rename_i h
      refine ⟨fun j hj => ?_, fun _ => ?_, by omega⟩
      · by_cases e : j = n
        · rw [e]; omega
        · have := i1 j (by omega); omega
      · first
        | exact ⟨n, Nat.lt_succ_self _, rfl⟩
        | (by_cases e : n = 0
           · subst e; have : minP F 0 = 99 := rfl; omega
           · obtain ⟨j, hj, h⟩ := i2 (by omega); exact ⟨j, by omega, h⟩)
theorem nearest_f (l0 : List ByteArray) (l1 : List S60) (h0 : openE l0 l1 = 0) (word : ByteArray) (hw : word.size ≤ 10) (hour : Int) (hh : 0 ≤ hour) (k : Nat) (hk : 100 ≤ k) :
    smaltoref08_Nearest.f k l0 l1 word hour = some (nearTo word (namesAt (pagesOf l0 l1) hour) (namesAt (pagesOf l0 l1) hour).length) := by
  obtain ⟨hn1, hn6, _, _, hc8, _⟩ := check_ok (open_zero h0).1
  obtain ⟨F, hF⟩ : ∃ F : Nat → Int, F = fun j => if j < l0.length then faultsV word (calledP l0 l1 (j : Int) hour) else 0 := ⟨_, rfl⟩
  have hFj : ∀ j, j < l0.length → F j = faultsV word (calledP l0 l1 (j : Int) hour) := fun j hj => by rw [hF]; simp [hj]
  have hb : ∀ j, F j ≤ 10 := fun j => by
    by_cases e : j < l0.length
    · have hs := called_size h0 j e hour
      rw [hFj j e, faultsV_lev _ _ hs.2]
      exact lev_max _ _ _ _ 10 hw hs.2
    · rw [hF]; simp [e]
  rw [pages_names h0 hh, namesP_len]
  have hg : ∀ j, j < l0.length → faultsV word ((namesP l0 l1 hour).getD j ByteArray.empty) = F j := fun j hj => by
    rw [hFj j hj, List.getD_eq_getElem?_getD, List.getElem?_eq_getElem (by rw [namesP_len]; exact hj), Option.getD_some, namesP_at l0 l1 hour j hj]
  obtain ⟨i1, i2, i3, _⟩ := near_inv word (namesP l0 l1 hour) F l0.length hg (fun j _ => hb j) l0.length (Nat.le_refl _)
  obtain ⟨m1, m2, _⟩ := minP_spec F (fun j => by have := hb j; omega) l0.length
  have hmin : minP F l0.length = (nearTo word (namesP l0 l1 hour) l0.length).2 := by
    obtain ⟨j, hj, e⟩ := i3 (by omega)
    obtain ⟨j', hj', e'⟩ := m2 (by omega)
    have a := m1 j hj
    have b := i2 j' hj'
    omega
  have hcal : ∀ j, j < l0.length → smaltoref08_Called.f l0 l1 (j : Int) hour = some (calledP l0 l1 (j : Int) hour) := fun j hj => called_f l0 l1 (by omega) j hj hour
  have hfa : ∀ j, j < l0.length → smaltoref08_Faults.f word (calledP l0 l1 (j : Int) hour) = some (F j) := fun j hj => by
    have hs := called_size h0 j hj hour
    unfold smaltoref08_Faults.f
    rw [if_pos hw, if_pos hs.2, hFj j hj, faultsV_lev _ _ hs.2]
  have k1 : ∀ (d i k : Nat), i + d = l0.length → d < k → smaltoref08_Nearest.l1 k word hour (minP F l0.length) (eqTo F (minP F l0.length) i) i l0 l1 = some (eqTo F (minP F l0.length) l0.length, minP F l0.length) := by
    intro d
    induction d with
    | zero =>
      intro i k hd hk
      obtain ⟨k, rfl⟩ : ∃ j, k = j + 1 := ⟨k - 1, by omega⟩
      obtain rfl : i = l0.length := by omega
      rw [smaltoref08_Nearest.l1, if_neg (by omega)]
    | succ d ih =>
      intro i k hd hk
      obtain ⟨k, rfl⟩ : ∃ j, k = j + 1 := ⟨k - 1, by omega⟩
      have hi : i < l0.length := by omega
      have ih2 := ih (i + 1) k (by omega) (by omega)
      rw [eqTo_succ] at ih2
      have hl := eqTo_len F (minP F l0.length) i
      rw [smaltoref08_Nearest.l1, if_pos (by omega), hcal i hi, Option.bind_some, hfa i hi, Option.bind_some, w64 (by omega)]
      by_cases e : F i = minP F l0.length
      · rw [if_pos e, if_pos (by omega)]
        rw [if_pos e] at ih2
        exact ih2
      · rw [if_neg e]
        rw [if_neg e] at ih2
        exact ih2
  have k0 : ∀ (d i k : Nat), i + d = l0.length → d + l0.length + 1 < k → smaltoref08_Nearest.l0 k word hour (minP F i) [] i l0 l1 = some (eqTo F (minP F l0.length) l0.length, minP F l0.length) := by
    intro d
    induction d with
    | zero =>
      intro i k hd hk
      obtain ⟨k, rfl⟩ : ∃ j, k = j + 1 := ⟨k - 1, by omega⟩
      obtain rfl : i = l0.length := by omega
      rw [smaltoref08_Nearest.l0, if_neg (by omega)]
      exact k1 l0.length 0 k (by omega) (by omega)
    | succ d ih =>
      intro i k hd hk
      obtain ⟨k, rfl⟩ : ∃ j, k = j + 1 := ⟨k - 1, by omega⟩
      have hi : i < l0.length := by omega
      rw [smaltoref08_Nearest.l0, if_pos (by omega), hcal i hi, Option.bind_some, hfa i hi, Option.bind_some, w64 (by omega)]
      exact ih (i + 1) k (by omega) (by omega)
  unfold smaltoref08_Nearest.f
  have := k0 l0.length 0 k (by omega) (by omega)
  refine Eq.trans this ?_
  rw [hmin, ← i1]
end Go.Proofs.YtdjlfdbnmnjccaaGreat.St
end
section
set_option linter.unusedVariables false
set_option linter.unusedSimpArgs false
namespace Go.Proofs.YtdjlfdbnmnjccaaGreat.St
open Go.RowKit Go.Shelf Go.Proofs.YtdjlfdbnmnjccaaGreatW.PrintWords Go.Proofs.YtdjlfdbnmnjccaaGreatW.PrintLast Go.Proofs.YtdjlfdbnmnjccaaGreatW.PrintMore
def everyP (l0 : List ByteArray) (l1 : List S60) (word : ByteArray) (lo hi most : Int) : List Bool := everyTo (pagesOf l0 l1) word lo hi most l0.length (pagesOf l0 l1).length
def someP (l0 : List ByteArray) (l1 : List S60) (word : ByteArray) (lo hi most : Int) : List Bool := someTo (pagesOf l0 l1) word lo hi most l0.length (pagesOf l0 l1).length
def nearP (l0 : List ByteArray) (l1 : List S60) (word : ByteArray) (h : Int) : List Int × Int := nearTo word (namesAt (pagesOf l0 l1) h) (namesAt (pagesOf l0 l1) h).length
section
variable {l0 : List ByteArray} {l1 : List S60} {word : ByteArray} {lo hi most : Int}
theorem meantR_open {E : Int} (h : openE l0 l1 = E) (h0 : E ≠ 0) : meantR l0 l1 word lo hi most = ([], [], E) := by subst h; unfold meantR; rw [if_pos h0]
theorem meantR_name (h : openE l0 l1 = 0) (hn : isNameB word = false) : meantR l0 l1 word lo hi most = ([], [], 4) := by unfold meantR; rw [if_neg (by simp [h]), if_pos hn]
theorem meantR_range (h : openE l0 l1 = 0) (hn : isNameB word = true) (hr : ¬ ((0 ≤ lo ∧ lo ≤ hi) ∧ hi ≤ 1000 ∧ 0 ≤ most ∧ most ≤ 3)) : meantR l0 l1 word lo hi most = ([], [], 3) := by
  unfold meantR isHourB
  rw [if_neg (by simp [h]), if_neg (by simp [hn])]
  simp only [Bool.and_eq_false_iff, decide_eq_false_iff_not]
  split
  · rfl
  · split
    · rfl
    · split
      · rfl
      · split
        · rfl
        · exfalso; omega
theorem meantR_ok (h : openE l0 l1 = 0) (hn : isNameB word = true) (hr : (0 ≤ lo ∧ lo ≤ hi) ∧ hi ≤ 1000 ∧ 0 ≤ most ∧ most ≤ 3) : meantR l0 l1 word lo hi most = (numbersTo (everyP l0 l1 word lo hi most) l0.length, numbersTo (someP l0 l1 word lo hi most) l0.length, 0) := by
  unfold meantR isHourB
  rw [if_neg (by simp [h]), if_neg (by simp [hn])]
  simp only [Bool.and_eq_false_iff, decide_eq_false_iff_not]
  rw [if_neg (by omega), if_neg (by omega), if_neg (by omega), if_neg (by omega)]
  rfl
theorem nearR_open {E : Int} (h : openE l0 l1 = E) (h0 : E ≠ 0) : nearR l0 l1 word lo = ([], 0, E) := by subst h; unfold nearR; rw [if_pos h0]
theorem nearR_name (h : openE l0 l1 = 0) (hn : isNameB word = false) : nearR l0 l1 word lo = ([], 0, 4) := by unfold nearR; rw [if_neg (by simp [h]), if_pos hn]
theorem nearR_range (h : openE l0 l1 = 0) (hn : isNameB word = true) (hr : (decide (0 ≤ lo) && decide (lo ≤ 1000)) = false) : nearR l0 l1 word lo = ([], 0, 3) := by
  unfold nearR; rw [if_neg (by simp [h]), if_neg (by simp [hn]), if_pos (by unfold isHourB; exact hr)]
theorem nearR_ok (h : openE l0 l1 = 0) (hn : isNameB word = true) (hr : (decide (0 ≤ lo) && decide (lo ≤ 1000)) = true) : nearR l0 l1 word lo = ((nearP l0 l1 word lo).1, (nearP l0 l1 word lo).2, 0) := by
  unfold nearR; rw [if_neg (by simp [h]), if_neg (by simp [hn]), if_neg (by unfold isHourB; simp [hr])]; rfl
theorem nearP_len : (nearP l0 l1 word lo).1.length ≤ (namesAt (pagesOf l0 l1) lo).length := nearTo_len _ _ _
theorem nearP_small (h0 : openE l0 l1 = 0) (hl : l0.length ≤ 20) (h : 0 ≤ lo) : (nearP l0 l1 word lo).1.length < 100000 := by
  have := nearP_len (l0 := l0) (l1 := l1) (word := word) (lo := lo)
  rw [pages_names h0 h, namesP_len] at this
  omega
theorem word_size10 (h : isNameB word = true) : word.size ≤ 10 := by
  unfold isNameB at h
  simp only [Bool.and_eq_true, decide_eq_true_eq] at h
  omega
end
theorem meaG (A0 : Option Addr) (c0 : Nat) (l0 : List ByteArray) (A1 : Option Addr) (c1 : Nat) (l1 : List S60) (word : ByteArray) (lo hi most : Int) (w : World) (T : TwC w A0 c0 l0 A1 c1 l1) {m1 m2 : List Int} {m3 : Int} (h : meantR l0 l1 word lo hi most = (m1, m2, m3)) :
    Calls Tryz.prog 38 #[.agg #[.slice A0 l0.length c0, .slice A1 l1.length c1], .string word, .agg #[.int .i64 lo, .int .i64 hi, .int .i64 most]] w fun e w' => ∃ R0 d0 R1 d1, e = .returned (.tuple #[.slice R0 m1.length d0, .slice R1 m2.length d1, .int .i64 m3]) ∧ Aside0 (LC (Kd.int .i64) w' R0 d0 m1) ∧ Aside0 (LC (Kd.int .i64) w' R1 d1 m2) ∧ Aside0 (Below w.heap.size w w') := by
  refine (street_Meant.calls A0 c0 l0 A1 c1 l1 word lo hi most m1 m2 m3 w T.f.kc T.f.kn T.g.kc T.g.kn (congrArg some h)).mono ?_
  rintro e w' ⟨v0, v1, rfl, h0, h1, hb⟩
  obtain ⟨R0, d0, rfl, k0⟩ := LC.of h0
  obtain ⟨R1, d1, rfl, k1⟩ := LC.of h1
  exact ⟨R0, d0, R1, d1, rfl, ⟨k0⟩, ⟨k1⟩, ⟨hb⟩⟩
theorem neaG (A0 : Option Addr) (c0 : Nat) (l0 : List ByteArray) (A1 : Option Addr) (c1 : Nat) (l1 : List S60) (word : ByteArray) (lo : Int) (w : World) (T : TwC w A0 c0 l0 A1 c1 l1) {m1 : List Int} {m2 m3 : Int} (h : nearR l0 l1 word lo = (m1, m2, m3)) :
    Calls Tryz.prog 39 #[.agg #[.slice A0 l0.length c0, .slice A1 l1.length c1], .string word, .int .i64 lo] w fun e w' => ∃ R0 d0, e = .returned (.tuple #[.slice R0 m1.length d0, .int .i64 m2, .int .i64 m3]) ∧ Aside0 (LC (Kd.int .i64) w' R0 d0 m1) ∧ Aside0 (Below w.heap.size w w') := by
  refine (street_Nearest.calls A0 c0 l0 A1 c1 l1 word lo m1 m2 m3 w T.f.kc T.f.kn T.g.kc T.g.kn (congrArg some h)).mono ?_
  rintro e w' ⟨v0, rfl, h0, hb⟩
  obtain ⟨R0, d0, rfl, k0⟩ := LC.of h0
  exact ⟨R0, d0, rfl, ⟨k0⟩, ⟨hb⟩⟩
theorem meaRG (A0 : Option Addr) (c0 : Nat) (l0 : List ByteArray) (A1 : Option Addr) (c1 : Nat) (l1 : List S60) (word : ByteArray) (lo hi most : Int) (w : World) (T : TwC w A0 c0 l0 A1 c1 l1) (h0 : openE l0 l1 = 0) (hw : word.size ≤ 10) (hr : (0 ≤ lo ∧ lo ≤ hi) ∧ hi ≤ 1000) (s : Nat) (hs : s < l0.length) {b1 b2 : Bool} (e1 : rdOf false (everyP l0 l1 word lo hi most) (s : Int) = b1) (e2 : rdOf false (someP l0 l1 word lo hi most) (s : Int) = b2) :
    Calls Tryz.prog 40 #[.agg #[.slice A0 l0.length c0, .slice A1 l1.length c1], .string word, .int .i64 s, .agg #[.int .i64 lo, .int .i64 hi, .int .i64 most]] w fun e w' => e = .returned (.tuple #[.bool b1, .bool b2]) ∧ Aside0 (Below w.heap.size w w') := by
  subst e1 e2
  refine (smaltoref08_Meant.calls 1003 A0 c0 l0 A1 c1 l1 word s lo hi most _ _ w T.f.kc T.f.kn T.g.kc T.g.kn (meant_f l0 l1 h0 word hw s hs lo hi most hr.1.1 hr.1.2 hr.2 1003 (by decide))).mono ?_
  rintro e w' ⟨rfl, hb⟩
  exact ⟨rfl, ⟨by first | exact hb | exact hb.below⟩⟩
theorem neaRG (A0 : Option Addr) (c0 : Nat) (l0 : List ByteArray) (A1 : Option Addr) (c1 : Nat) (l1 : List S60) (word : ByteArray) (lo : Int) (w : World) (T : TwC w A0 c0 l0 A1 c1 l1) (h0 : openE l0 l1 = 0) (hw : word.size ≤ 10) (hl : 0 ≤ lo) {m1 : List Int} {m2 : Int} (h : nearP l0 l1 word lo = (m1, m2)) :
    Calls Tryz.prog 41 #[.agg #[.slice A0 l0.length c0, .slice A1 l1.length c1], .string word, .int .i64 lo] w fun e w' => ∃ R0 d0, e = .returned (.tuple #[.slice R0 m1.length d0, .int .i64 m2]) ∧ Aside0 (LC (Kd.int .i64) w' R0 d0 m1) ∧ Aside0 (Below w.heap.size w w') := by
  refine (smaltoref08_Nearest.calls 100 A0 c0 l0 A1 c1 l1 word lo m1 m2 w T.f.kc T.f.kn T.g.kc T.g.kn ((nearest_f l0 l1 h0 word hw lo hl 100 (Nat.le_refl _)).trans (congrArg some h))).mono ?_
  rintro e w' ⟨v0, rfl, h0, hb⟩
  obtain ⟨R0, d0, rfl, k0⟩ := LC.of h0
  exact ⟨R0, d0, rfl, ⟨k0⟩, ⟨hb⟩⟩
theorem intsM (A : Option Addr) (c : Nat) (B : Option Addr) (d : Nat) (l : List Int) (w : World) (L : LC (Kd.int .i64) w A c l) (L' : LC (Kd.int .i64) w B d l) (hl : l.length < 100000) : Calls Tryz.prog 18 #[.slice A l.length c, .slice B l.length d] w fun e w' => e = .returned (.bool true) ∧ Aside0 (Below w.heap.size w w') :=
  (smaltoref08_Ints.calls (l.length + 1) A c l B d l true w L.kc L.kn L'.kc L'.kn (ints_self l hl _ (Nat.lt_succ_self _))).mono fun e w' ⟨h, hb⟩ => ⟨h, ⟨hb.below⟩⟩
end Go.Proofs.YtdjlfdbnmnjccaaGreat.St
end
section
set_option linter.unusedVariables false
set_option linter.unusedSimpArgs false
namespace Go.Proofs.YtdjlfdbnmnjccaaGreat.St
open Go.RowKit Go.Shelf Go.Proofs.YtdjlfdbnmnjccaaGreatW.PrintWords Go.Proofs.YtdjlfdbnmnjccaaGreatW.PrintLast Go.Proofs.YtdjlfdbnmnjccaaGreatW.PrintMore
theorem copyRR {A : Option Addr} {c : Nat} {l0 : List ByteArray} {A' : Option Addr} {c' : Nat} {l1 : List S60} (S : Small l0 l1) (w : World) (T : TwC w A c l0 A' c' l1) : Calls Tryz.prog 12 #[.agg #[.slice A l0.length c, .slice A' l1.length c']] w fun e w' =>
    ∃ B d B' d', e = .returned (.agg #[.slice B l0.length d, .slice B' l1.length d']) ∧ Aside0 (TwR w' w.heap.size B d l0 B' d' l1) ∧ Aside0 (Below w.heap.size w w') := by
  refine (smaltoref08_Copy.calls A c l0 A' c' l1 l0 l1 w T.f.kc T.f.kn T.g.kc T.g.kn (copy_self l0 l1 (by have := S.n0; omega) (by have := S.n1; omega))).mono ?_
  rintro e w' ⟨v0, v1, rfl, h0, h1, hb⟩
  obtain ⟨B, d, rfl⟩ := Kd.R_slice h0
  obtain ⟨B', d', rfl⟩ := Kd.R_slice h1
  exact ⟨B, d, B', d', rfl, ⟨⟨h0, h1⟩⟩, ⟨hb⟩⟩
end Go.Proofs.YtdjlfdbnmnjccaaGreat.St
end
