/- A part of the proof of a law of this seat: lemmas that hold without conditions. -/
import Derived.Deep.DeepCutAuto
import Derived.Deep.WholeRow
import Derived.Test.YtdjlfdbnmnjccaaGreatB32
set_option linter.all false
set_option linter.unusedSectionVars false
section
set_option linter.unusedVariables false
set_option linter.unusedSimpArgs false
namespace Go.Proofs.YtdjlfdbnmnjccaaGreat.St
open Go.RowKit Go.Shelf Go.Proofs.YtdjlfdbnmnjccaaGreatW.PrintWords Go.Proofs.YtdjlfdbnmnjccaaGreatW.PrintLast Go.Proofs.YtdjlfdbnmnjccaaGreatW.PrintMore
def lev (a b : ByteArray) : Nat → Nat → Int
  | 0, k => k
  | i + 1, 0 => ((i + 1 : Nat) : Int)
  | i + 1, k + 1 => min (min (if bt a (i : Int) = bt b (k : Int) then lev a b i k else lev a b i k + 1) (1 + lev a b i (k + 1))) (1 + lev a b (i + 1) k)
theorem lev_zero (a b : ByteArray) (k : Nat) : lev a b 0 k = k := by unfold lev; rfl
theorem lev_left (a b : ByteArray) (i : Nat) : lev a b (i + 1) 0 = ((i + 1 : Nat) : Int) := by unfold lev; rfl
theorem lev_succ (a b : ByteArray) (i k : Nat) : lev a b (i + 1) (k + 1) = min (min (if bt a (i : Int) = bt b (k : Int) then lev a b i k else lev a b i k + 1) (1 + lev a b i (k + 1))) (1 + lev a b (i + 1) k) := by rw [lev]
theorem rd_nat {l : List Int} {k : Nat} : rd l (k : Int) = l.getD k 0 := by unfold rd; rw [Int.toNat_natCast]
theorem getD_set {l : List Int} {j k : Nat} {x : Int} (hj : j < l.length) : (l.set j x).getD k 0 = if k = j then x else l.getD k 0 := by
  rw [List.getD_eq_getElem?_getD, List.getD_eq_getElem?_getD, List.getElem?_set]
  by_cases e : j = k
  · subst e; simp [hj]
  · rw [if_neg e, if_neg (fun h => e h.symm)]
theorem set_len {l : List Int} {j : Nat} {x : Int} {n : Nat} (h : l.length = n) : (l.set j x).length = n := by rw [List.length_set, h]
theorem faultsIn_lev (a b : ByteArray) (i : Nat) : ∀ (n k : Nat) (row : List Int) (corner : Int), row.length = 11 → n + k ≤ 10 → corner = lev a b i k → (∀ j, j ≤ k → row.getD j 0 = lev a b (i + 1) j) → (∀ j, k < j → j ≤ n + k → row.getD j 0 = lev a b i j) →
    (faultsIn a b (i : Int) n k row corner).length = 11 ∧ ∀ j, j ≤ n + k → (faultsIn a b (i : Int) n k row corner).getD j 0 = lev a b (i + 1) j
  | 0, k, row, corner, hl, hn, hc, h1, h2 => ⟨hl, fun j hj => h1 j (by omega)⟩
  | n + 1, k, row, corner, hl, hn, hc, h1, h2 => by
    have e0 := h1 k (Nat.le_refl _)
    have e1 := h2 (k + 1) (by omega) (by omega)
    have key : min (min (if bt a (i : Int) = bt b (k : Int) then corner else corner + 1) (rd row (k : Int) + 1)) (rd row ((k + 1 : Nat) : Int) + 1) = lev a b (i + 1) (k + 1) := by
      rw [lev_succ, rd_nat, rd_nat, e0, e1, hc]
      omega
    have ih := faultsIn_lev a b i n (k + 1) (row.set (k + 1) (lev a b (i + 1) (k + 1))) (rd row ((k + 1 : Nat) : Int)) (set_len hl) (by omega) (by rw [rd_nat, e1]) (fun j hj => by
      rw [getD_set (by omega)]
      by_cases e : j = k + 1
      · rw [if_pos e, e]
      · rw [if_neg e]; exact h1 j (by omega)) (fun j hj hj2 => by
      rw [getD_set (by omega), if_neg (by omega)]
      exact h2 j (by omega) (by omega))
    unfold faultsIn
    rw [key]
    exact ⟨ih.1, fun j hj => ih.2 j (by omega)⟩
theorem faultsOut_lev (a b : ByteArray) (hb : b.size ≤ 10) : ∀ (n i : Nat) (row : List Int), row.length = 11 → (∀ j, j ≤ b.size → row.getD j 0 = lev a b i j) → (faultsOut a b n i row).length = 11 ∧ ∀ j, j ≤ b.size → (faultsOut a b n i row).getD j 0 = lev a b (n + i) j
  | 0, i, row, hl, h => ⟨hl, fun j hj => by rw [Nat.zero_add]; exact h j hj⟩
  | n + 1, i, row, hl, h => by
    have hin := faultsIn_lev a b i b.size 0 (row.set 0 ((i + 1 : Nat) : Int)) (rd row 0) (set_len hl) (by omega) (by have := h 0 (Nat.zero_le _); rw [← this]; rfl) (fun j hj => by
      obtain rfl : j = 0 := by omega
      rw [getD_set (by omega), if_pos rfl, lev_left]) (fun j hj hj2 => by
      rw [getD_set (by omega), if_neg (by omega)]
      exact h j (by omega))
    have ih := faultsOut_lev a b hb n (i + 1) _ hin.1 (fun j hj => hin.2 j (by omega))
    unfold faultsOut
    exact ⟨ih.1, fun j hj => by rw [ih.2 j hj, show n + (i + 1) = n + 1 + i by omega]⟩
theorem faultsV_lev (a b : ByteArray) (hb : b.size ≤ 10) : faultsV a b = lev a b a.size b.size := by
  unfold faultsV
  rw [rd_nat]
  have := (faultsOut_lev a b hb a.size 0 rowStart rfl (fun j hj => by
    rw [lev_zero]
    have : j ≤ 10 := by omega
    match j, this with
    | 0, _ | 1, _ | 2, _ | 3, _ | 4, _ | 5, _ | 6, _ | 7, _ | 8, _ | 9, _ | 10, _ => rfl
    | j + 11, h => omega)).2 b.size (Nat.le_refl _)
  rw [this, Nat.add_zero]
theorem lev_bound (a b : ByteArray) : ∀ i k : Nat, 0 ≤ lev a b i k ∧ lev a b i k ≤ ((i + k : Nat) : Int)
  | 0, k => by rw [lev_zero]; omega
  | i + 1, 0 => by rw [lev_left]; omega
  | i + 1, k + 1 => by
    have h1 := lev_bound a b i k
    have h2 := lev_bound a b i (k + 1)
    have h3 := lev_bound a b (i + 1) k
    rw [lev_succ]
    split <;> omega
end Go.Proofs.YtdjlfdbnmnjccaaGreat.St
end
section
set_option linter.unusedVariables false
set_option linter.unusedSimpArgs false
namespace Go.Proofs.YtdjlfdbnmnjccaaGreat.St
open Go.RowKit Go.Shelf Go.Proofs.YtdjlfdbnmnjccaaGreatW.PrintWords Go.Proofs.YtdjlfdbnmnjccaaGreatW.PrintLast Go.Proofs.YtdjlfdbnmnjccaaGreatW.PrintMore
section
variable {l0 : List ByteArray} {l1 : List S60} (h0 : openE l0 l1 = 0)
include h0
theorem hi_lo (k : Nat) (hk : k < (pagesOf l0 l1).length) : (rd_T167 (pagesOf l0 l1) k).f0 ≤ hiOf (pagesOf l0 l1) k ∧ hiOf (pagesOf l0 l1) k ≤ 1000 ∧ 0 ≤ (rd_T167 (pagesOf l0 l1) k).f0 := by
  have P := pages_ok h0
  have h1 := P.le _ (rd_page_mem k hk)
  unfold hiOf
  split
  · rename_i hh
    have h2 := P.inc k (k + 1) (Nat.lt_succ_self _) hh
    have h3 := P.le _ (rd_page_mem (k + 1) hh)
    omega
  · omega
theorem page_hours (k : Nat) (hk : k < (pagesOf l0 l1).length) (h : Int) (ha : (rd_T167 (pagesOf l0 l1) k).f0 ≤ h) (hb : h ≤ hiOf (pagesOf l0 l1) k) : (rd_T167 (pagesOf l0 l1) k).f1 = namesP l0 l1 h := by
  have P := pages_ok h0
  have hp := hi_lo h0 k hk
  rw [← pages_names h0 (show 0 ≤ h by omega)]
  refine (namesAt_eq hk ha (fun t h1 h2 => ?_)).symm
  have h3 := P.inc k (k + 1) (Nat.lt_succ_self _) (by omega)
  unfold hiOf at hb
  rw [if_pos (by omega)] at hb
  rcases Nat.lt_or_eq_of_le (show k + 1 ≤ t by omega) with h4 | h4
  · have := P.inc (k + 1) t h4 h2; omega
  · rw [← h4]; omega
theorem hour_page (h : Int) (ha : 0 ≤ h) (hb : h ≤ 1000) : ∃ k, k < (pagesOf l0 l1).length ∧ (rd_T167 (pagesOf l0 l1) k).f0 ≤ h ∧ h ≤ hiOf (pagesOf l0 l1) k := by
  have P := pages_ok h0
  have key : ∀ d k : Nat, k + d + 1 = (pagesOf l0 l1).length → (rd_T167 (pagesOf l0 l1) k).f0 ≤ h → ∃ k, k < (pagesOf l0 l1).length ∧ (rd_T167 (pagesOf l0 l1) k).f0 ≤ h ∧ h ≤ hiOf (pagesOf l0 l1) k := by
    intro d
    induction d with
    | zero =>
      intro k hd hk
      refine ⟨k, by omega, hk, ?_⟩
      unfold hiOf
      rw [if_neg (by omega)]; exact hb
    | succ d ih =>
      intro k hd hk
      by_cases e : (rd_T167 (pagesOf l0 l1) ((k + 1 : Nat) : Int)).f0 ≤ h
      · exact ih (k + 1) (by omega) e
      · refine ⟨k, by omega, hk, ?_⟩
        unfold hiOf
        rw [if_pos (by omega)]; omega
  have hne := P.ne
  have h00 := P.h0
  exact key ((pagesOf l0 l1).length - 1) 0 (by omega) (by
    have e : rd_T167 (pagesOf l0 l1) ((0 : Nat) : Int) = rd_T167 (pagesOf l0 l1) 0 := rfl
    rw [e, h00]; exact ha)
end
theorem rdOf_set {l : List Bool} {i j : Nat} {x : Bool} (hi : i < l.length) : rdOf false (l.set i x) (j : Int) = if j = i then x else rdOf false l (j : Int) := by
  unfold rdOf
  rw [Int.toNat_natCast, List.getD_eq_getElem?_getD, List.getD_eq_getElem?_getD, List.getElem?_set]
  by_cases e : i = j
  · subst e; simp [hi]
  · rw [if_neg e, if_neg (fun h => e h.symm)]
theorem evIn_at (word : ByteArray) (most : Int) (nm : List ByteArray) (E : List Bool) (s : Nat) : ∀ i, i ≤ E.length → rdOf false (evIn word most nm E i) (s : Int) = if s < i then (rdOf false E (s : Int) && isMeant word most (rdOf ByteArray.empty nm (s : Int))) else rdOf false E (s : Int)
  | 0, _ => by rw [if_neg (by omega)]; rfl
  | i + 1, hi => by
    have ih := evIn_at word most nm E s i (by omega)
    have ih2 := evIn_at word most nm E i i (by omega)
    rw [if_neg (Nat.lt_irrefl _)] at ih2
    unfold evIn
    rw [rdOf_set (by rw [evIn_len]; omega)]
    by_cases e : s = i
    · subst e
      rw [if_pos rfl, if_pos (Nat.lt_succ_self _), ih2]
    · rw [if_neg e, ih]
      by_cases e2 : s < i
      · rw [if_pos e2, if_pos (by omega)]
      · rw [if_neg e2, if_neg (by omega)]
theorem smIn_at (word : ByteArray) (most : Int) (nm : List ByteArray) (E : List Bool) (s : Nat) : ∀ i, i ≤ E.length → rdOf false (smIn word most nm E i) (s : Int) = if s < i then (rdOf false E (s : Int) || isMeant word most (rdOf ByteArray.empty nm (s : Int))) else rdOf false E (s : Int)
  | 0, _ => by rw [if_neg (by omega)]; rfl
  | i + 1, hi => by
    have ih := smIn_at word most nm E s i (by omega)
    have ih2 := smIn_at word most nm E i i (by omega)
    rw [if_neg (Nat.lt_irrefl _)] at ih2
    unfold smIn
    rw [rdOf_set (by rw [smIn_len]; omega)]
    by_cases e : s = i
    · subst e
      rw [if_pos rfl, if_pos (Nat.lt_succ_self _), ih2]
    · rw [if_neg e, ih]
      by_cases e2 : s < i
      · rw [if_pos e2, if_pos (by omega)]
      · rw [if_neg e2, if_neg (by omega)]
end Go.Proofs.YtdjlfdbnmnjccaaGreat.St
end
section
set_option linter.unusedVariables false
set_option linter.unusedSimpArgs false
namespace Go.Proofs.YtdjlfdbnmnjccaaGreat.St
open Go.RowKit Go.Shelf Go.Proofs.YtdjlfdbnmnjccaaGreatW.PrintWords Go.Proofs.YtdjlfdbnmnjccaaGreatW.PrintLast Go.Proofs.YtdjlfdbnmnjccaaGreatW.PrintMore
def TabAt (W : World) (B : Nat) (f : Nat → Int) : Prop := W.heap[B]? = some (.cells ((List.range 121).map fun j => Value.int .i64 (f j)).toArray 181 (0, 0))
theorem TabAt.cell {W : World} {B : Nat} {f : Nat → Int} (h : TabAt W B f) (k : Nat) (hk : k < 121) : W.cell? ⟨B, k, none⟩ = some (.int .i64 (f k)) ∧ W.frozen? ⟨B, k, none⟩ = false := by
  refine ⟨(blk_cell h k).trans ?_, blk_frozen h k⟩
  simp [hk]
theorem TabAt.put {W : World} {B : Nat} {f : Nat → Int} (h : TabAt W B f) (k : Nat) (x : Int) : TabAt (W.setCell ⟨B, k, none⟩ (.int .i64 x)) B (fun j => if j = k then x else f j) := by
  refine blk_put h k _ ?_
  apply Array.ext_getElem?
  intro i
  rw [Array.getElem?_setIfInBounds]
  by_cases e : k = i
  · subst e
    by_cases hk : k < 121
    · simp [hk]
    · simp [hk]
  · simp only [if_neg e, List.getElem?_toArray, List.getElem?_map]
    by_cases hk : i < 121
    · have e2 : ¬ i = k := fun h => e h.symm
      simp [hk, e2]
    · simp [hk]
set_option maxHeartbeats 4000000 in
set_option maxRecDepth 100000 in
theorem faults_ref (a b : ByteArray) (ha : a.size ≤ 10) (hb : b.size ≤ 10) (w : World) :
    Calls Tryz.prog 85 #[.string a, .string b] w fun e w' => e = .returned (.int .i64 (lev a b a.size b.size)) ∧ Below w.heap.size w w' := by
  have hst := run_storeCells_new (P := Tryz.prog) w 181 Tryz.zeroCells181 Tryz.zeroCells181 (by kernel_rfl) rfl (by kernel_rfl)
  have H0 : Aside0 (TabAt (w.alloc (.cells Tryz.zeroCells181 181)) w.heap.size (fun _ => 0)) := ⟨(blk_new w _).trans (by kernel_rfl)⟩
  go_enter Tryz.func85, Tryz.ntmps85
  go_upto_region 2 with fail
  clear hst
  obtain ⟨w1, hw1⟩ : ∃ x, w.alloc (.cells Tryz.zeroCells181 181) = x := ⟨_, rfl⟩
  have B1 : Aside0 (Below w.heap.size w w1) := ⟨by rw [← hw1]; exact below_alloc (Below.refl _ _) _⟩
  rw [hw1] at H0 ⊢
  clear hw1
  go_wp2_with fail
  go_loopg [6, 7, 8, 60, 68] (a.size + 1) (fun gg s6 _ _ _ _ wr => ∃ (i : Nat) (f : Nat → Int), i ≤ a.size + 1 ∧ a.size + 1 - i ≤ gg ∧ s6 = .int .i64 i ∧ Aside0 (TabAt wr w.heap.size f) ∧ Aside0 (∀ i' k, i' < i → k ≤ b.size → f (i' * 11 + k) = lev a b i' k) ∧ Aside0 (Below w.heap.size w wr))
  case atStart => exact ⟨0, _, Nat.zero_le _, by omega, rfl, H0, ⟨fun i' k h => absurd h (Nat.not_lt_zero _)⟩, B1⟩
  case round =>
    clear H0 B1
    rename World => w2
    obtain ⟨i, f, hi, hg, rfl, HT, HF, B2⟩ := hrel
    by_cases hlt : i ≤ a.size
    · have hltz : (i : Int) ≤ (a.size : Int) := by omega
      go_wp2_with fail
      go_loopg [7, 8, 60, 68] (b.size + 1) (fun gg s7 _ _ _ wr => ∃ (k : Nat) (g : Nat → Int), k ≤ b.size + 1 ∧ b.size + 1 - k ≤ gg ∧ s7 = .int .i64 k ∧ Aside0 (TabAt wr w.heap.size g) ∧ Aside0 (∀ i' k', i' < i → k' ≤ b.size → g (i' * 11 + k') = lev a b i' k') ∧ Aside0 (∀ k', k' < k → g (i * 11 + k') = lev a b i k') ∧ Aside0 (Below w.heap.size w wr))
      case atStart => exact ⟨0, f, Nat.zero_le _, by omega, rfl, HT, HF, ⟨fun k' h => absurd h (Nat.not_lt_zero _)⟩, B2⟩
      case round =>
        clear HT HF B2
        rename World => w3
        obtain ⟨k, g, hk, hg2, rfl, HT, HF, HG, B3⟩ := hrel
        by_cases hlt2 : k ≤ b.size
        · have hltz2 : (k : Int) ≤ (b.size : Int) := by omega
          have hl := blk_lt HT.out
          cases i with
          | zero =>
            obtain ⟨hc, hf⟩ := HT.out.cell k (by omega)
            have HT2 := Aside0.mk (HT.out.put k (k : Int))
            go_wp2_with fail
            go_roundg (b.size + 1 - (k + 1))
            case measure => omega
            case rel =>
              refine ⟨k + 1, _, by omega, by omega, by go_num, HT2, ⟨fun i' k' h _ => absurd h (Nat.not_lt_zero _)⟩, ⟨fun k' h => ?_⟩, ⟨below_set B3.out (Nat.le_refl _)⟩⟩
              show (if 0 * 11 + k' = k then (k : Int) else g (0 * 11 + k')) = lev a b 0 k'
              by_cases e : k' = k
              · rw [if_pos (by omega), lev_zero, e]
              · rw [if_neg (by omega)]; exact HG.out k' (by omega)
          | succ n =>
            cases k with
            | zero =>
              obtain ⟨hc, hf⟩ := HT.out.cell ((n + 1) * 11) (by omega)
              have HT2 := Aside0.mk (HT.out.put ((n + 1) * 11) ((n : Int) + 1))
              go_wp2_with fail
              go_roundg (b.size + 1 - (0 + 1))
              case measure => omega
              case rel =>
                refine ⟨0 + 1, _, by omega, by omega, by go_num, HT2, ⟨fun i' k' h h2 => ?_⟩, ⟨fun k' h => ?_⟩, ⟨below_set B3.out (Nat.le_refl _)⟩⟩
                · show (if i' * 11 + k' = (n + 1) * 11 then (n : Int) + 1 else g (i' * 11 + k')) = lev a b i' k'
                  rw [if_neg (by omega)]; exact HF.out i' k' h h2
                · obtain rfl : k' = 0 := by omega
                  show (if (n + 1) * 11 + 0 = (n + 1) * 11 then (n : Int) + 1 else g ((n + 1) * 11 + 0)) = lev a b (n + 1) 0
                  rw [if_pos (by omega), lev_left]; omega
            | succ m =>
              obtain ⟨hc0, hf0⟩ := HT.out.cell (n * 11 + m) (by omega)
              obtain ⟨hc1, hf1⟩ := HT.out.cell (n * 11 + (m + 1)) (by omega)
              obtain ⟨hc2, hf2⟩ := HT.out.cell ((n + 1) * 11 + m) (by omega)
              obtain ⟨hc3, hf3⟩ := HT.out.cell ((n + 1) * 11 + (m + 1)) (by omega)
              rw [HF.out n m (by omega) (by omega)] at hc0
              rw [HF.out n (m + 1) (by omega) (by omega)] at hc1
              rw [HG.out m (by omega)] at hc2
              have b0 := lev_bound a b n m
              have b1 := lev_bound a b n (m + 1)
              have b2 := lev_bound a b (n + 1) m
              have s1 : ((n + 1 : Nat) : Int) - 1 = (n : Int) := by omega
              have s2 : ((m + 1 : Nat) : Int) - 1 = (m : Int) := by omega
              have q1 : (n : Int) < (a.size : Int) := by omega
              have q2 : (m : Int) < (b.size : Int) := by omega
              have hA := bt_at a (n : Int) (by rw [Int.toNat_natCast]; omega)
              have hBt := bt_at b (m : Int) (by rw [Int.toNat_natCast]; omega)
              simp only [Int.toNat_natCast] at hA hBt
              have HAB := Aside0.mk (And.intro hA hBt)
              clear hA hBt
              go_wp2_with fail
              go_region
              all_goals go_wp2_with fail
              all_goals go_region
              · rename_i hqq
                have hq : bt a (n : Int) ≠ bt b (m : Int) := by rw [← HAB.out.1, ← HAB.out.2]; simpa using hqq
                obtain ⟨mv, hmv⟩ : ∃ mv : Int, (if 1 + lev a b (n + 1) m < (if 1 + lev a b n (m + 1) < lev a b n m + 1 then 1 + lev a b n (m + 1) else lev a b n m + 1) then 1 + lev a b (n + 1) m else (if 1 + lev a b n (m + 1) < lev a b n m + 1 then 1 + lev a b n (m + 1) else lev a b n m + 1)) = mv := ⟨_, rfl⟩
                have hlev : lev a b (n + 1) (m + 1) = mv := by
                  rw [lev_succ, if_neg hq, ← hmv]
                  simp only [Int.min_def]
                  repeat' split
                  all_goals omega
                rw [hmv]
                have HLV := Aside0.mk hlev
                have HT2 := Aside0.mk (show TabAt (w3.setCell ⟨w.heap.size, (n + 1) * 11 + (m + 1), none⟩ (.int .i64 mv)).drew.drew w.heap.size (fun j => if j = (n + 1) * 11 + (m + 1) then mv else g j) from HT.out.put ((n + 1) * 11 + (m + 1)) mv)
                clear hmv hlev hq hqq hc0 hc1 hc2 hc3 hf0 hf1 hf2 hf3 b0 b1 b2
                go_wp2_with fail
                go_roundg (b.size + 1 - (m + 1 + 1))
                case measure => omega
                case rel =>
                  refine ⟨m + 1 + 1, _, by omega, by omega, by go_num, HT2, ⟨fun i' k' h h2 => ?_⟩, ⟨fun k' h => ?_⟩, ⟨below_drew (below_drew (below_set B3.out (Nat.le_refl _)))⟩⟩
                  · show (if i' * 11 + k' = (n + 1) * 11 + (m + 1) then mv else g (i' * 11 + k')) = lev a b i' k'
                    rw [if_neg (by omega)]; exact HF.out i' k' h h2
                  · show (if (n + 1) * 11 + k' = (n + 1) * 11 + (m + 1) then mv else g ((n + 1) * 11 + k')) = lev a b (n + 1) k'
                    by_cases e : k' = m + 1
                    · rw [if_pos (by omega), e, HLV.out]
                    · rw [if_neg (by omega)]; exact HG.out k' (by omega)
              · rename_i hqq
                have hq : bt a (n : Int) = bt b (m : Int) := by rw [← HAB.out.1, ← HAB.out.2]; simpa using hqq
                obtain ⟨mv, hmv⟩ : ∃ mv : Int, (if 1 + lev a b (n + 1) m < (if 1 + lev a b n (m + 1) < lev a b n m then 1 + lev a b n (m + 1) else lev a b n m) then 1 + lev a b (n + 1) m else (if 1 + lev a b n (m + 1) < lev a b n m then 1 + lev a b n (m + 1) else lev a b n m)) = mv := ⟨_, rfl⟩
                have hlev : lev a b (n + 1) (m + 1) = mv := by
                  rw [lev_succ, if_pos hq, ← hmv]
                  simp only [Int.min_def]
                  repeat' split
                  all_goals omega
                rw [hmv]
                have HLV := Aside0.mk hlev
                have HT2 := Aside0.mk (show TabAt (w3.setCell ⟨w.heap.size, (n + 1) * 11 + (m + 1), none⟩ (.int .i64 mv)).drew.drew w.heap.size (fun j => if j = (n + 1) * 11 + (m + 1) then mv else g j) from HT.out.put ((n + 1) * 11 + (m + 1)) mv)
                clear hmv hlev hq hqq hc0 hc1 hc2 hc3 hf0 hf1 hf2 hf3 b0 b1 b2
                go_wp2_with fail
                go_roundg (b.size + 1 - (m + 1 + 1))
                case measure => omega
                case rel =>
                  refine ⟨m + 1 + 1, _, by omega, by omega, by go_num, HT2, ⟨fun i' k' h h2 => ?_⟩, ⟨fun k' h => ?_⟩, ⟨below_drew (below_drew (below_set B3.out (Nat.le_refl _)))⟩⟩
                  · show (if i' * 11 + k' = (n + 1) * 11 + (m + 1) then mv else g (i' * 11 + k')) = lev a b i' k'
                    rw [if_neg (by omega)]; exact HF.out i' k' h h2
                  · show (if (n + 1) * 11 + k' = (n + 1) * 11 + (m + 1) then mv else g ((n + 1) * 11 + k')) = lev a b (n + 1) k'
                    by_cases e : k' = m + 1
                    · rw [if_pos (by omega), e, HLV.out]
                    · rw [if_neg (by omega)]; exact HG.out k' (by omega)
        · have hltz2 : ¬ (k : Int) ≤ (b.size : Int) := by omega
          go_wp2_with fail
          go_roundg (a.size + 1 - (i + 1))
          case measure => omega
          case rel => exact ⟨i + 1, g, by omega, by omega, by go_num, HT, ⟨fun i' k' h h2 => if e : i' < i then HF.out i' k' e h2 else by obtain rfl : i' = i := (by omega); exact HG.out k' (by omega)⟩, B3⟩
    · have hltz : ¬ (i : Int) ≤ (a.size : Int) := by omega
      have hl := blk_lt HT.out
      obtain ⟨hc, hf⟩ := HT.out.cell (a.size * 11 + b.size) (by omega)
      rw [HF.out a.size b.size (by omega) (Nat.le_refl _)] at hc
      go_wp2_with fail
      go_ret
      exact ⟨rfl, B2.out⟩
def smaltoref08_Faults.f (a0 a1 : ByteArray) : Option Int := if a0.size ≤ 10 then (if a1.size ≤ 10 then some (lev a0 a1 a0.size a1.size) else none) else none
theorem smaltoref08_Faults.calls (a0 a1 : ByteArray) (r : Int) (w : World) (h : smaltoref08_Faults.f a0 a1 = some r) :
    Calls Tryz.prog 85 #[.string a0, .string a1] w fun e w' => e = .returned (.int .i64 r) ∧ Below w.heap.size w w' := by
  unfold smaltoref08_Faults.f at h
  split at h
  · rename_i h0
    split at h
    · rename_i h1
      obtain rfl := Option.some.inj h
      exact faults_ref a0 a1 h0 h1 w
    · cases h
  · cases h
end Go.Proofs.YtdjlfdbnmnjccaaGreat.St
end
