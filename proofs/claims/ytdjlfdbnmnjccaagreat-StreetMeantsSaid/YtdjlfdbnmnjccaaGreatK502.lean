/- A part of the proof of a law of this seat: lemmas that hold without conditions. -/
import Derived.Test.YtdjlfdbnmnjccaaGreatB03
import Derived.Test.YtdjlfdbnmnjccaaGreatB23
import Derived.Test.YtdjlfdbnmnjccaaGreatK500
import Derived.Test.YtdjlfdbnmnjccaaGreatK501
set_option linter.all false
set_option linter.unusedSectionVars false
section
namespace Go.Proofs.YtdjlfdbnmnjccaaGreat.St
open Go.RowKit Go.Proofs.YtdjlfdbnmnjccaaGreatW.PrintWords Go.Proofs.YtdjlfdbnmnjccaaGreatW.PrintLast Go.Proofs.YtdjlfdbnmnjccaaGreatW.PrintMore
attribute [local go_sem] max2_int min2_int max_two min_two max_three min_three max_four min_four
set_option linter.unusedVariables false
set_option linter.unusedSimpArgs false
mutual
def smaltoref08_Nearest.l0 : Nat → ByteArray → Int → Int → List Int → Int → List ByteArray → List (S60) → Option (List Int × Int)
  | 0, _, _, _, _, _, _, _ => none
  | k + 1, x1, x2, x8, x9, x10, x595000, x595001 => if x10 < (x595000.length : Int) then ((smaltoref08_Called.f x595000 x595001 x10 x2).bind fun t598 => ((smaltoref08_Faults.f x1 t598).bind fun t599 => (smaltoref08_Nearest.l0 k x1 x2 (mn x8 t599) x9 (wrap64 (x10 + 1)) x595000 x595001))) else (smaltoref08_Nearest.l1 k x1 x2 x8 x9 0 x595000 x595001)
def smaltoref08_Nearest.l1 : Nat → ByteArray → Int → Int → List Int → Int → List ByteArray → List (S60) → Option (List Int × Int)
  | 0, _, _, _, _, _, _, _ => none
  | k + 1, x1, x2, x8, x9, x11, x595000, x595001 => if x11 < (x595000.length : Int) then ((smaltoref08_Called.f x595000 x595001 x11 x2).bind fun t600 => ((smaltoref08_Faults.f x1 t600).bind fun t601 => (if t601 = x8 then (if x9.length < 17592186044416 then (smaltoref08_Nearest.l1 k x1 x2 x8 (x9 ++ [x11]) (wrap64 (x11 + 1)) x595000 x595001) else (none)) else (smaltoref08_Nearest.l1 k x1 x2 x8 x9 (wrap64 (x11 + 1)) x595000 x595001)))) else (some (x9, x8))
end
def smaltoref08_Nearest.f (k : Nat) (l0_0 : List ByteArray) (l0_1 : List (S60)) (a1 : ByteArray) (a2 : Int) : Option (List Int × Int) := smaltoref08_Nearest.l0 k a1 a2 99 (([] : List Int)) 0 l0_0 l0_1
set_option maxHeartbeats 8000000 in
set_option maxRecDepth 100000 in
theorem smaltoref08_Nearest.calls (k : Nat) (A0_0 : Option Addr) (c0_0 : Nat) (l0_0 : List ByteArray) (A0_1 : Option Addr) (c0_1 : Nat) (l0_1 : List (S60)) (a1 : ByteArray) (a2 : Int) (r1 : List Int) (r2 : Int) (w : World) (hr0_0 : Kd.C Kd.string w A0_0 l0_0.length l0_0) (hc0_0 : l0_0.length ≤ c0_0) (hr0_1 : Kd.C k60 w A0_1 l0_1.length l0_1) (hc0_1 : l0_1.length ≤ c0_1) (h : smaltoref08_Nearest.f k l0_0 l0_1 a1 a2 = some (r1, r2)) :
    Calls Tryz.prog 41 #[.agg #[.slice A0_0 l0_0.length c0_0, .slice A0_1 l0_1.length c0_1], .string a1, .int .i64 a2] w fun e w' => ∃ v0_ : Value, e = .returned (.tuple #[v0_, .int .i64 r2]) ∧ Kd.R (Kd.int .i64) 3 w' w.heap.size (fun _ => True) v0_ r1 ∧ Below w.heap.size w w' := by
  have hu25 := Tryz.underlying25
  have HR0_0 := Aside0.mk hr0_0
  have HC0_0 := Aside0.mk hc0_0
  clear hr0_0 hc0_0
  have HR0_1 := Aside0.mk hr0_1
  have HC0_1 := Aside0.mk hc0_1
  clear hr0_1 hc0_1
  have HB := Aside0.mk (Below.refl w.heap.size w)
  have H : (smaltoref08_Nearest.l0 k a1 a2 99 (([] : List Int)) 0 l0_0 l0_1) = some (r1, r2) := h
  clear h
  obtain ⟨y595, hy595⟩ : ∃ y_ : List Int, y_ = (([] : List Int)) := ⟨_, rfl⟩
  replace H : (smaltoref08_Nearest.l0 k a1 a2 99 y595 0 l0_0 l0_1) = some (r1, r2) := by first | (rw [hy595]; with_reducible exact H) | (have H2_ := (Option.bind_some _ _).symm.trans H; rw [hy595]; with_reducible exact H2_) | (have H2_ := (Option.bind_some _ _).symm.trans H; with_reducible exact H2_) | with_reducible exact H | (rw [hy595]; exact H) | exact H
  have Ny595 := Aside0.mk hy595
  clear hy595
  have H' := Aside0.mk H
  clear H
  go_enter Tryz.func41, Tryz.ntmps41
  go_wp2_with (first | ((with_reducible refine gate_dst (N := 3) rfl ?_); refine box_event ?hg (N := 3) ?hd (cs := #[.slice A0_0 l0_0.length c0_0, .slice A0_1 l0_1.length c0_1]) (t := 25) ?hr ?_; (case hd => rfl); (case hg => rfl); (case hr => first | (go_simp; done) | (go_simp; rfl)); intro gb594 hg w4 hbox hb; have n0_ := Aside0.mk (below_step (by repeat (first | (with_reducible first | exact HB.out | apply below_alloc | apply pw_below_drewN | apply below_drew1) | exact HB.out)) hb); have n1_ := Aside0.mk (hbox); have n2_ := Aside0.mk ((by rw [hg]; exact (below_size (by repeat (first | (with_reducible first | exact HB.out | apply below_alloc | apply pw_below_drewN | apply below_drew1) | exact HB.out))) : w.heap.size ≤ gb594)); have n3_ := Aside0.mk ((by rw [hg]; exact (below_size (by repeat (first | (with_reducible first | exact HB.out | apply below_alloc | apply pw_below_drewN | apply below_drew1) | exact HB.out))) : w.heap.size ≤ gb594)); clear HB; have HB := n0_; have BK594 := n1_; have GW594 := n2_; have GE594 := n3_; clear n0_ n1_ n2_ n3_; clear hb hbox hg) | ((with_reducible refine gate_dst (N := 12) rfl ?_); refine Kd.R_lit (Kd.int .i64) _ 3 ?hg (N := 12) ?hd (xs := ([] : List Int)) (inner := []) (ok := fun _ => True) (okp := fun _ => True) ?hr ?hp (fun _ hk => hk) trivial (Below.refl _ _) (Nat.le_refl _) (by simp) ?_; (case hd => rfl); (case hg => rfl); (case hr => first | (go_simp; done) | (go_simp; rfl)); (case hp => exact (Reps.none _ _)); intro v596 w5 ho6 hb hg_ hnew_; clear hg_ hnew_; (first | rw [← Ny595.out] at ho6 | (simp only [Int.reduceToNat] at ho6; rw [← Ny595.out] at ho6)); have n0_ := Aside0.mk (Kd.R_lower ho6 (below_size (by repeat (first | (with_reducible first | exact HB.out | apply below_alloc | apply pw_below_drewN | apply below_drew1 | refine below_set ?_ GE594.out) | exact HB.out)))); have n1_ := Aside0.mk (blk_below (g := gb594) (o := .cells #[.slice A0_0 l0_0.length c0_0, .slice A0_1 l0_1.length c0_1] 25 (0, 0)) (by (with_reducible repeat (first | refine blk_drewN ?_ _ | refine blk_drew ?_ | refine blk_alloc ?_ _)); exact BK594.out) hb); have n2_ := Aside0.mk (below_step (by repeat (first | (with_reducible first | exact HB.out | apply below_alloc | apply pw_below_drewN | apply below_drew1 | refine below_set ?_ GE594.out) | exact HB.out)) hb); clear BK594; clear HB; have HO597 := n0_; have BK594 := n1_; have HB := n2_; clear n0_ n1_ n2_; clear hb ho6))
  go_loopg [8, 10] k (fun kq v8 v10 w' => ∃ (x8_1 : Int) (x10_1 : Int), v8 = .int .i64 x8_1 ∧ v10 = .int .i64 x10_1 ∧ Aside0 (smaltoref08_Nearest.l0 kq a1 a2 x8_1 y595 x10_1 l0_0 l0_1 = some (r1, r2)) ∧ Aside0 (kq ≤ k) ∧ Aside0 (Kd.R (Kd.int .i64) 3 w' w.heap.size (fun _ => True) v596 y595) ∧ Aside0 (w'.heap[gb594]? = some (.cells #[(.slice A0_0 l0_0.length c0_0), (.slice A0_1 l0_1.length c0_1)] 25 (0, 0))) ∧ Aside0 (Below w.heap.size w w'))
  case atStart => exact ⟨(99), (0), (by first | rfl | (simp; done) | (simp [*]; done)), (by first | rfl | (simp; done) | (simp [*]; done)), H', ⟨Nat.le_refl _⟩, ⟨by (with_reducible repeat (first | apply Kd.R_alloc | apply Kd.R_drewN | apply Kd.R_drew)); exact HO597.out⟩, ⟨by (with_reducible repeat (first | refine blk_drewN ?_ _ | refine blk_drew ?_ | refine blk_alloc ?_ _)); exact BK594.out⟩, ⟨by repeat (first | (with_reducible first | exact HB.out | apply below_alloc | apply pw_below_drewN | apply below_drew1 | refine below_set ?_ GE594.out) | exact HB.out)⟩⟩
  case round =>
    clear H'
    try clear p2
    try clear c4
    obtain ⟨x8_1, x10_1, rfl, rfl, HA, HK1, HO_9, BK594, HB⟩ := hrel
    cases gk with
    | zero => exact absurd HA.out (by simp [smaltoref08_Nearest.l0])
    | succ k1 =>
      have H := HA.out
      clear HA
      simp only [smaltoref08_Nearest.l0] at H
      by_cases c7 : x10_1 < (l0_0.length : Int)
      · rw [if_pos c7] at H
        have c7b0 : decide (x10_1 < (l0_0.length : Int)) = true := decide_eq_true c7
        clear c7
        replace H := Option.bind_eq_some_iff.mp H
        obtain ⟨t598, A80, H⟩ := H
        replace H : ((smaltoref08_Faults.f a1 t598).bind fun t599 => (smaltoref08_Nearest.l0 k1 a1 a2 (mn x8_1 t599) y595 (wrap64 (x10_1 + 1)) l0_0 l0_1)) = some (r1, r2) := H
        have A8 := Aside0.mk A80
        clear A80
        replace H := Option.bind_eq_some_iff.mp H
        obtain ⟨t599, A90, H⟩ := H
        replace H : (smaltoref08_Nearest.l0 k1 a1 a2 (mn x8_1 t599) y595 (wrap64 (x10_1 + 1)) l0_0 l0_1) = some (r1, r2) := H
        have A9 := Aside0.mk A90
        clear A90
        obtain ⟨ji10, hji10⟩ : ∃ j_ : Int, (mn x8_1 t599) = j_ := ⟨_, rfl⟩
        replace H : (smaltoref08_Nearest.l0 k1 a1 a2 ji10 y595 (wrap64 (x10_1 + 1)) l0_0 l0_1) = some (r1, r2) := by first | (rw [hji10] at H; exact H) | (simp only [hji10] at H ⊢; exact H)
        (try rw [hji10] at A8)
        (try rw [hji10] at A9)
        have hji10_ : (if t599 < x8_1 then t599 else x8_1) = ji10 := hji10
        have H' := Aside0.mk H
        clear H
        have hcz11_0 : wr.cell? ⟨gb594, 0, none⟩ = some (.slice A0_0 l0_0.length c0_0) := (blk_cell BK594.out 0).trans rfl
        have hcz11_1 : wr.cell? ⟨gb594, 1, none⟩ = some (.slice A0_1 l0_1.length c0_1) := (blk_cell BK594.out 1).trans rfl
        have hfz11_0 := blk_frozen BK594.out 0
        have hfz11_1 := blk_frozen BK594.out 1
        go_wp2_with (first | ((with_reducible refine gate_callee (f := 23) rfl ?_); refine goesL_ (some 25) rfl rfl Tryz.func23 (by kernel_rfl) rfl #[.agg #[.slice A0_0 l0_0.length c0_0, .slice A0_1 l0_1.length c0_1], .int .i64 x10_1, .int .i64 a2] rfl (by (try simp only [List.map_toArray, List.map_cons, List.map_nil]); first | done | rfl | (simp only [List.length_drop, List.length_take]; rfl)) ?_; (with_reducible refine (smaltoref08_Called.calls _ _ l0_0 _ _ l0_1 x10_1 a2 t598 _ ?side1 ?side2 ?side3 ?side4 A8.out).mono ?_); (case side1 => repeat (first | exact (Kd.C_below HR0_0.out HB.out) | (with_reducible refine Kd.C_alloc ?_ _) | (with_reducible refine Kd.C_drewN ?_ _) | (with_reducible refine Kd.C_drew ?_))); (case side2 => exact HC0_0.out); (case side3 => repeat (first | exact (Kd.C_below HR0_1.out HB.out) | (with_reducible refine Kd.C_alloc ?_ _) | (with_reducible refine Kd.C_drewN ?_ _) | (with_reducible refine Kd.C_drew ?_))); (case side4 => exact HC0_1.out); rintro e w12 ⟨rfl, hb⟩; refine ⟨_, rfl, ?_⟩; have n0_ := Aside0.mk (Kd.R_below (by (with_reducible repeat (first | apply Kd.R_alloc | apply Kd.R_drewN | apply Kd.R_drew)); exact HO_9.out) hb); have n1_ := Aside0.mk (blk_below (g := gb594) (o := .cells #[.slice A0_0 l0_0.length c0_0, .slice A0_1 l0_1.length c0_1] 25 (0, 0)) (by (with_reducible repeat (first | refine blk_drewN ?_ _ | refine blk_drew ?_ | refine blk_alloc ?_ _)); exact BK594.out) hb); have n2_ := Aside0.mk (below_step (by repeat (first | (with_reducible first | exact HB.out | apply below_alloc | apply pw_below_drewN | apply below_drew1 | refine below_set ?_ GE594.out) | exact HB.out)) hb); clear HO_9; clear BK594; clear HB; have HO_9 := n0_; have BK594 := n1_; have HB := n2_; clear n0_ n1_ n2_; (try clear hb); (try clear hb2); (try clear hk); (try clear hi)) | ((with_reducible refine gate_callee (f := 85) rfl ?_); refine goesL_ (some 26) rfl rfl Tryz.func85 (by kernel_rfl) rfl #[.string a1, .string t598] rfl (by (try simp only [List.map_toArray, List.map_cons, List.map_nil]); first | done | rfl | (simp only [List.length_drop, List.length_take]; rfl)) ?_; (with_reducible refine (smaltoref08_Faults.calls a1 t598 t599 _ A9.out).mono ?_); rintro e w13 ⟨rfl, hb⟩; refine ⟨_, rfl, ?_⟩; have n0_ := Aside0.mk (Kd.R_below (by (with_reducible repeat (first | apply Kd.R_alloc | apply Kd.R_drewN | apply Kd.R_drew)); exact HO_9.out) hb); have n1_ := Aside0.mk (blk_below (g := gb594) (o := .cells #[.slice A0_0 l0_0.length c0_0, .slice A0_1 l0_1.length c0_1] 25 (0, 0)) (by (with_reducible repeat (first | refine blk_drewN ?_ _ | refine blk_drew ?_ | refine blk_alloc ?_ _)); exact BK594.out) hb); have n2_ := Aside0.mk (below_step (by repeat (first | (with_reducible first | exact HB.out | apply below_alloc | apply pw_below_drewN | apply below_drew1 | refine below_set ?_ GE594.out) | exact HB.out)) hb); clear HO_9; clear BK594; clear HB; have HO_9 := n0_; have BK594 := n1_; have HB := n2_; clear n0_ n1_ n2_; (try clear hb); (try clear hb2); (try clear hk); (try clear hi)))
        go_roundg k1
        case measure => have := HK1.out; omega
        case rel => exact ⟨(ji10), (wrap64 (x10_1 + 1)), (by first | rfl | (simp; done) | (simp only [← hji10] <;> (first | rfl | simp)) | (simp [*]; done)), (by first | rfl | (simp; done) | (simp [*]; done)), H', ⟨by have := HK1.out; omega⟩, ⟨by (with_reducible repeat (first | apply Kd.R_alloc | apply Kd.R_drewN | apply Kd.R_drew)); exact HO_9.out⟩, ⟨by (with_reducible repeat (first | refine blk_drewN ?_ _ | refine blk_drew ?_ | refine blk_alloc ?_ _)); exact BK594.out⟩, ⟨by repeat (first | (with_reducible first | exact HB.out | apply below_alloc | apply pw_below_drewN | apply below_drew1 | refine below_set ?_ GE594.out) | exact HB.out)⟩⟩
      · rw [if_neg c7] at H
        have c7b0 : decide (x10_1 < (l0_0.length : Int)) = false := decide_eq_false c7
        clear c7
        have H' := Aside0.mk H
        clear H
        have hcz14_0 : wr.cell? ⟨gb594, 0, none⟩ = some (.slice A0_0 l0_0.length c0_0) := (blk_cell BK594.out 0).trans rfl
        have hcz14_1 : wr.cell? ⟨gb594, 1, none⟩ = some (.slice A0_1 l0_1.length c0_1) := (blk_cell BK594.out 1).trans rfl
        have hfz14_0 := blk_frozen BK594.out 0
        have hfz14_1 := blk_frozen BK594.out 1
        go_wp2
        go_loopg [9, 11] k1 (fun kq v9 v11 w' => ∃ (x9_2 : List Int) (x11_2 : Int), v11 = .int .i64 x11_2 ∧ Aside0 (smaltoref08_Nearest.l1 kq a1 a2 x8_1 x9_2 x11_2 l0_0 l0_1 = some (r1, r2)) ∧ Aside0 (kq ≤ k1) ∧ Aside0 (Kd.R (Kd.int .i64) 3 w' w.heap.size (fun _ => True) v9 x9_2) ∧ Aside0 (w'.heap[gb594]? = some (.cells #[(.slice A0_0 l0_0.length c0_0), (.slice A0_1 l0_1.length c0_1)] 25 (0, 0))) ∧ Aside0 (Below w.heap.size w w'))
        case atStart => exact ⟨(y595), (0), (by first | rfl | (simp; done) | (simp [*]; done)), H', ⟨Nat.le_refl _⟩, ⟨by (with_reducible repeat (first | apply Kd.R_alloc | apply Kd.R_drewN | apply Kd.R_drew)); exact HO_9.out⟩, ⟨by (with_reducible repeat (first | refine blk_drewN ?_ _ | refine blk_drew ?_ | refine blk_alloc ?_ _)); exact BK594.out⟩, ⟨by repeat (first | (with_reducible first | exact HB.out | apply below_alloc | apply pw_below_drewN | apply below_drew1 | refine below_set ?_ GE594.out) | exact HB.out)⟩⟩
        case round =>
          clear H'
          try clear c2
          try clear p2
          try clear c4
          try clear p6
          try clear c7
          try clear c7b0
          try clear c8
          try clear hcz11_0
          try clear hcz11_1
          try clear hcz14_0
          try clear hcz14_1
          try clear hfz11_0
          try clear hfz11_1
          try clear hfz14_0
          try clear hfz14_1
          try clear p2
          obtain ⟨x9_2, x11_2, rfl, HA, HK2, HO_9, BK594, HB⟩ := hrel
          cases gk with
          | zero => exact absurd HA.out (by simp [smaltoref08_Nearest.l1])
          | succ k2 =>
            have H := HA.out
            clear HA
            simp only [smaltoref08_Nearest.l1] at H
            by_cases c15 : x11_2 < (l0_0.length : Int)
            · rw [if_pos c15] at H
              have c15b0 : decide (x11_2 < (l0_0.length : Int)) = true := decide_eq_true c15
              clear c15
              replace H := Option.bind_eq_some_iff.mp H
              obtain ⟨t600, A160, H⟩ := H
              replace H : ((smaltoref08_Faults.f a1 t600).bind fun t601 => (if t601 = x8_1 then (if x9_2.length < 17592186044416 then (smaltoref08_Nearest.l1 k2 a1 a2 x8_1 (x9_2 ++ [x11_2]) (wrap64 (x11_2 + 1)) l0_0 l0_1) else (none)) else (smaltoref08_Nearest.l1 k2 a1 a2 x8_1 x9_2 (wrap64 (x11_2 + 1)) l0_0 l0_1))) = some (r1, r2) := H
              have A16 := Aside0.mk A160
              clear A160
              replace H := Option.bind_eq_some_iff.mp H
              obtain ⟨t601, A170, H⟩ := H
              replace H : (if t601 = x8_1 then (if x9_2.length < 17592186044416 then (smaltoref08_Nearest.l1 k2 a1 a2 x8_1 (x9_2 ++ [x11_2]) (wrap64 (x11_2 + 1)) l0_0 l0_1) else (none)) else (smaltoref08_Nearest.l1 k2 a1 a2 x8_1 x9_2 (wrap64 (x11_2 + 1)) l0_0 l0_1)) = some (r1, r2) := H
              have A17 := Aside0.mk A170
              clear A170
              by_cases c18 : t601 = x8_1
              · rw [if_pos c18] at H
                have c18b0 : (t601 == x8_1) = true := beq_iff_eq.mpr c18
                have c18b1 : (t601 != x8_1) = false := bne_eq_false_iff_eq.mpr c18
                clear c18
                by_cases c19 : x9_2.length < 17592186044416
                · rw [if_pos c19] at H
                  have LMc19 := Aside0.mk c19
                  clear c19
                  obtain ⟨y602, hy602⟩ : ∃ y_ : List Int, y_ = (x9_2 ++ [x11_2]) := ⟨_, rfl⟩
                  replace H : (smaltoref08_Nearest.l1 k2 a1 a2 x8_1 y602 (wrap64 (x11_2 + 1)) l0_0 l0_1) = some (r1, r2) := by first | (rw [hy602]; with_reducible exact H) | (have H2_ := (Option.bind_some _ _).symm.trans H; rw [hy602]; with_reducible exact H2_) | (have H2_ := (Option.bind_some _ _).symm.trans H; with_reducible exact H2_) | with_reducible exact H | (rw [hy602]; exact H) | exact H
                  have Ny602 := Aside0.mk hy602
                  clear hy602
                  have H' := Aside0.mk H
                  clear H
                  have hcz20_0 : wr.cell? ⟨gb594, 0, none⟩ = some (.slice A0_0 l0_0.length c0_0) := (blk_cell BK594.out 0).trans rfl
                  have hcz20_1 : wr.cell? ⟨gb594, 1, none⟩ = some (.slice A0_1 l0_1.length c0_1) := (blk_cell BK594.out 1).trans rfl
                  have hfz20_0 := blk_frozen BK594.out 0
                  have hfz20_1 := blk_frozen BK594.out 1
                  go_wp2_with (first | ((with_reducible refine gate_callee (f := 23) rfl ?_); refine goesL_ (some 39) rfl rfl Tryz.func23 (by kernel_rfl) rfl #[.agg #[.slice A0_0 l0_0.length c0_0, .slice A0_1 l0_1.length c0_1], .int .i64 x11_2, .int .i64 a2] rfl (by (try simp only [List.map_toArray, List.map_cons, List.map_nil]); first | done | rfl | (simp only [List.length_drop, List.length_take]; rfl)) ?_; (with_reducible refine (smaltoref08_Called.calls _ _ l0_0 _ _ l0_1 x11_2 a2 t600 _ ?side1 ?side2 ?side3 ?side4 A16.out).mono ?_); (case side1 => repeat (first | exact (Kd.C_below HR0_0.out HB.out) | (with_reducible refine Kd.C_alloc ?_ _) | (with_reducible refine Kd.C_drewN ?_ _) | (with_reducible refine Kd.C_drew ?_))); (case side2 => exact HC0_0.out); (case side3 => repeat (first | exact (Kd.C_below HR0_1.out HB.out) | (with_reducible refine Kd.C_alloc ?_ _) | (with_reducible refine Kd.C_drewN ?_ _) | (with_reducible refine Kd.C_drew ?_))); (case side4 => exact HC0_1.out); rintro e w21 ⟨rfl, hb⟩; refine ⟨_, rfl, ?_⟩; have n0_ := Aside0.mk (Kd.R_below (by (with_reducible repeat (first | apply Kd.R_alloc | apply Kd.R_drewN | apply Kd.R_drew)); exact HO_9.out) hb); have n1_ := Aside0.mk (blk_below (g := gb594) (o := .cells #[.slice A0_0 l0_0.length c0_0, .slice A0_1 l0_1.length c0_1] 25 (0, 0)) (by (with_reducible repeat (first | refine blk_drewN ?_ _ | refine blk_drew ?_ | refine blk_alloc ?_ _)); exact BK594.out) hb); have n2_ := Aside0.mk (below_step (by repeat (first | (with_reducible first | exact HB.out | apply below_alloc | apply pw_below_drewN | apply below_drew1 | refine below_set ?_ GE594.out) | exact HB.out)) hb); clear HO_9; clear BK594; clear HB; have HO_9 := n0_; have BK594 := n1_; have HB := n2_; clear n0_ n1_ n2_; (try clear hb); (try clear hb2); (try clear hk); (try clear hi)) | ((with_reducible refine gate_callee (f := 85) rfl ?_); refine goesL_ (some 40) rfl rfl Tryz.func85 (by kernel_rfl) rfl #[.string a1, .string t600] rfl (by (try simp only [List.map_toArray, List.map_cons, List.map_nil]); first | done | rfl | (simp only [List.length_drop, List.length_take]; rfl)) ?_; (with_reducible refine (smaltoref08_Faults.calls a1 t600 t601 _ A17.out).mono ?_); rintro e w22 ⟨rfl, hb⟩; refine ⟨_, rfl, ?_⟩; have n0_ := Aside0.mk (Kd.R_below (by (with_reducible repeat (first | apply Kd.R_alloc | apply Kd.R_drewN | apply Kd.R_drew)); exact HO_9.out) hb); have n1_ := Aside0.mk (blk_below (g := gb594) (o := .cells #[.slice A0_0 l0_0.length c0_0, .slice A0_1 l0_1.length c0_1] 25 (0, 0)) (by (with_reducible repeat (first | refine blk_drewN ?_ _ | refine blk_drew ?_ | refine blk_alloc ?_ _)); exact BK594.out) hb); have n2_ := Aside0.mk (below_step (by repeat (first | (with_reducible first | exact HB.out | apply below_alloc | apply pw_below_drewN | apply below_drew1 | refine below_set ?_ GE594.out) | exact HB.out)) hb); clear HO_9; clear BK594; clear HB; have HO_9 := n0_; have BK594 := n1_; have HB := n2_; clear n0_ n1_ n2_; (try clear hb); (try clear hb2); (try clear hk); (try clear hi)) | ((with_reducible refine gate_builtin (b := .append) (xs := #[.tmp 43, .tmp 45]) rfl ?_); at_builtin; refine Kd.R_append (Kd.int .i64) (w0 := w) w.heap.size rfl (.tmp 43) (.tmp 45) 31 3 (.int .i64 0) 8 rfl Tryz.underlying31 info3 rfl (by decide) (by omega) u9 x9_2 x11_2 [.int .i64 x11_2] (fun _ => True) (fun _ => False) rfl rfl ?aP (fun _ hk => hk.elim) ?aF ?aO ?aB ?aS ?aL ?_; (case aP => exact rfl); (case aB => exact (by repeat (first | (with_reducible first | exact HB.out | apply below_alloc | apply pw_below_drewN | apply below_drew1 | refine below_set ?_ GE594.out) | exact HB.out))); (case aF => exact (fun _ _ => trivial)); (case aO => exact (by (with_reducible repeat (first | apply Kd.R_alloc | apply Kd.R_drewN | apply Kd.R_drew)); exact HO_9.out)); (case aS => exact (below_size (by repeat (first | (with_reducible first | exact HB.out | apply below_alloc | apply pw_below_drewN | apply below_drew1 | refine below_set ?_ GE594.out) | exact HB.out)))); (case aL => have := LMc19.out; omega); intro v603 w23 ho hb hg hat; rw [← Ny602.out] at ho; have n0_ := Aside0.mk (blk_grown (g := gb594) (o := .cells #[.slice A0_0 l0_0.length c0_0, .slice A0_1 l0_1.length c0_1] 25 (0, 0)) (by (with_reducible repeat (first | refine blk_drewN ?_ _ | refine blk_drew ?_ | refine blk_alloc ?_ _)); exact BK594.out) hg (Kd.R_ne HO_9.out BK594.out (by decide))); have n1_ := Aside0.mk (hb); have n2_ := Aside0.mk (ho); clear BK594; clear HB; clear HO_9; have BK594 := n0_; have HB := n1_; have HO604 := n2_; clear n0_ n1_ n2_; clear ho hb hg hat))
                  go_roundg k2
                  case measure => have := HK1.out; have := HK2.out; omega
                  case rel => exact ⟨(y602), (wrap64 (x11_2 + 1)), (by first | rfl | (simp; done) | (simp [*]; done)), H', ⟨by have := HK1.out; have := HK2.out; omega⟩, ⟨by (with_reducible repeat (first | apply Kd.R_alloc | apply Kd.R_drewN | apply Kd.R_drew)); exact HO604.out⟩, ⟨by (with_reducible repeat (first | refine blk_drewN ?_ _ | refine blk_drew ?_ | refine blk_alloc ?_ _)); exact BK594.out⟩, ⟨by repeat (first | (with_reducible first | exact HB.out | apply below_alloc | apply pw_below_drewN | apply below_drew1 | refine below_set ?_ GE594.out) | exact HB.out)⟩⟩
                · rw [if_neg c19] at H
                  exact absurd H (by simp)
              · rw [if_neg c18] at H
                have c18b0 : (t601 == x8_1) = false := beq_eq_false_iff_ne.mpr c18
                have c18b1 : (t601 != x8_1) = true := bne_iff_ne.mpr c18
                have H' := Aside0.mk H
                clear H
                have hcz24_0 : wr.cell? ⟨gb594, 0, none⟩ = some (.slice A0_0 l0_0.length c0_0) := (blk_cell BK594.out 0).trans rfl
                have hcz24_1 : wr.cell? ⟨gb594, 1, none⟩ = some (.slice A0_1 l0_1.length c0_1) := (blk_cell BK594.out 1).trans rfl
                have hfz24_0 := blk_frozen BK594.out 0
                have hfz24_1 := blk_frozen BK594.out 1
                go_wp2_with (first | ((with_reducible refine gate_callee (f := 23) rfl ?_); refine goesL_ (some 39) rfl rfl Tryz.func23 (by kernel_rfl) rfl #[.agg #[.slice A0_0 l0_0.length c0_0, .slice A0_1 l0_1.length c0_1], .int .i64 x11_2, .int .i64 a2] rfl (by (try simp only [List.map_toArray, List.map_cons, List.map_nil]); first | done | rfl | (simp only [List.length_drop, List.length_take]; rfl)) ?_; (with_reducible refine (smaltoref08_Called.calls _ _ l0_0 _ _ l0_1 x11_2 a2 t600 _ ?side1 ?side2 ?side3 ?side4 A16.out).mono ?_); (case side1 => repeat (first | exact (Kd.C_below HR0_0.out HB.out) | (with_reducible refine Kd.C_alloc ?_ _) | (with_reducible refine Kd.C_drewN ?_ _) | (with_reducible refine Kd.C_drew ?_))); (case side2 => exact HC0_0.out); (case side3 => repeat (first | exact (Kd.C_below HR0_1.out HB.out) | (with_reducible refine Kd.C_alloc ?_ _) | (with_reducible refine Kd.C_drewN ?_ _) | (with_reducible refine Kd.C_drew ?_))); (case side4 => exact HC0_1.out); rintro e w25 ⟨rfl, hb⟩; refine ⟨_, rfl, ?_⟩; have n0_ := Aside0.mk (Kd.R_below (by (with_reducible repeat (first | apply Kd.R_alloc | apply Kd.R_drewN | apply Kd.R_drew)); exact HO_9.out) hb); have n1_ := Aside0.mk (blk_below (g := gb594) (o := .cells #[.slice A0_0 l0_0.length c0_0, .slice A0_1 l0_1.length c0_1] 25 (0, 0)) (by (with_reducible repeat (first | refine blk_drewN ?_ _ | refine blk_drew ?_ | refine blk_alloc ?_ _)); exact BK594.out) hb); have n2_ := Aside0.mk (below_step (by repeat (first | (with_reducible first | exact HB.out | apply below_alloc | apply pw_below_drewN | apply below_drew1 | refine below_set ?_ GE594.out) | exact HB.out)) hb); clear HO_9; clear BK594; clear HB; have HO_9 := n0_; have BK594 := n1_; have HB := n2_; clear n0_ n1_ n2_; (try clear hb); (try clear hb2); (try clear hk); (try clear hi)) | ((with_reducible refine gate_callee (f := 85) rfl ?_); refine goesL_ (some 40) rfl rfl Tryz.func85 (by kernel_rfl) rfl #[.string a1, .string t600] rfl (by (try simp only [List.map_toArray, List.map_cons, List.map_nil]); first | done | rfl | (simp only [List.length_drop, List.length_take]; rfl)) ?_; (with_reducible refine (smaltoref08_Faults.calls a1 t600 t601 _ A17.out).mono ?_); rintro e w26 ⟨rfl, hb⟩; refine ⟨_, rfl, ?_⟩; have n0_ := Aside0.mk (Kd.R_below (by (with_reducible repeat (first | apply Kd.R_alloc | apply Kd.R_drewN | apply Kd.R_drew)); exact HO_9.out) hb); have n1_ := Aside0.mk (blk_below (g := gb594) (o := .cells #[.slice A0_0 l0_0.length c0_0, .slice A0_1 l0_1.length c0_1] 25 (0, 0)) (by (with_reducible repeat (first | refine blk_drewN ?_ _ | refine blk_drew ?_ | refine blk_alloc ?_ _)); exact BK594.out) hb); have n2_ := Aside0.mk (below_step (by repeat (first | (with_reducible first | exact HB.out | apply below_alloc | apply pw_below_drewN | apply below_drew1 | refine below_set ?_ GE594.out) | exact HB.out)) hb); clear HO_9; clear BK594; clear HB; have HO_9 := n0_; have BK594 := n1_; have HB := n2_; clear n0_ n1_ n2_; (try clear hb); (try clear hb2); (try clear hk); (try clear hi)))
                go_roundg k2
                case measure => have := HK1.out; have := HK2.out; omega
                case rel => exact ⟨(x9_2), (wrap64 (x11_2 + 1)), (by first | rfl | (simp; done) | (simp [*]; done)), H', ⟨by have := HK1.out; have := HK2.out; omega⟩, ⟨by (with_reducible repeat (first | apply Kd.R_alloc | apply Kd.R_drewN | apply Kd.R_drew)); exact HO_9.out⟩, ⟨by (with_reducible repeat (first | refine blk_drewN ?_ _ | refine blk_drew ?_ | refine blk_alloc ?_ _)); exact BK594.out⟩, ⟨by repeat (first | (with_reducible first | exact HB.out | apply below_alloc | apply pw_below_drewN | apply below_drew1 | refine below_set ?_ GE594.out) | exact HB.out)⟩⟩
            · rw [if_neg c15] at H
              have c15b0 : decide (x11_2 < (l0_0.length : Int)) = false := decide_eq_false c15
              clear c15
              simp only [Option.some.injEq, Prod.mk.injEq] at H
              obtain ⟨rfl, rfl⟩ := H
              have hcz27_0 : wr.cell? ⟨gb594, 0, none⟩ = some (.slice A0_0 l0_0.length c0_0) := (blk_cell BK594.out 0).trans rfl
              have hcz27_1 : wr.cell? ⟨gb594, 1, none⟩ = some (.slice A0_1 l0_1.length c0_1) := (blk_cell BK594.out 1).trans rfl
              have hfz27_0 := blk_frozen BK594.out 0
              have hfz27_1 := blk_frozen BK594.out 1
              go_wp2
              go_ret2
              exact ⟨_, by first | rfl | (simp [errW_none, errW_some] <;> rfl) | (simp [*, errW_none, errW_some] <;> rfl), by (with_reducible repeat (first | apply Kd.R_alloc | apply Kd.R_drewN | apply Kd.R_drew)); exact HO_9.out, by repeat (first | (with_reducible first | exact HB.out | apply below_alloc | apply pw_below_drewN | apply below_drew1 | refine below_set ?_ GE594.out) | exact HB.out)⟩
end Go.Proofs.YtdjlfdbnmnjccaaGreat.St
end
section
set_option linter.unusedVariables false
set_option linter.unusedSimpArgs false
namespace Go.Proofs.YtdjlfdbnmnjccaaGreat.St
open Go.RowKit Go.Shelf Go.Proofs.YtdjlfdbnmnjccaaGreatW.PrintWords Go.Proofs.YtdjlfdbnmnjccaaGreatW.PrintLast Go.Proofs.YtdjlfdbnmnjccaaGreatW.PrintMore
section
variable {l0 : List ByteArray} {l1 : List S60} (h0 : openE l0 l1 = 0)
include h0
theorem called_name (s : Nat) (hs : s < l0.length) (h : Int) : isNameB (calledP l0 l1 s h) = true := by
  obtain ⟨_, _, hn, _, _, hch⟩ := check_ok (open_zero h0).1
  unfold calledP
  rcases calledL_spec (s : Int) h l1 (rdOf ByteArray.empty l0 (s : Int)) 0 with ⟨e, _⟩ | ⟨x, hx, _, _, _, e, _⟩
  · rw [e, rdOf_at hs]; exact hn _ (List.getElem_mem hs)
  · rw [e]
    have := hch x hx
    unfold isChangeB at this
    simp only [Bool.and_eq_true] at this
    exact this.2
theorem called_size (s : Nat) (hs : s < l0.length) (h : Int) : 1 ≤ (calledP l0 l1 s h).size ∧ (calledP l0 l1 s h).size ≤ 10 := by
  have := called_name h0 s hs h
  unfold isNameB at this
  simp only [Bool.and_eq_true, decide_eq_true_eq] at this
  exact this.2
theorem every_at (word : ByteArray) (lo hi most : Int) (s : Nat) (hs : s < l0.length) : ∀ K, K ≤ (pagesOf l0 l1).length →
    (rdOf false (everyTo (pagesOf l0 l1) word lo hi most l0.length K) (s : Int) = true ↔ ∀ j, j < K → ¬ (hiOf (pagesOf l0 l1) j < lo ∨ hi < (rd_T167 (pagesOf l0 l1) j).f0) → isMeant word most (rdOf ByteArray.empty (rd_T167 (pagesOf l0 l1) j).f1 (s : Int)) = true)
  | 0, _ => by
    refine ⟨fun _ j hj => absurd hj (Nat.not_lt_zero _), fun _ => ?_⟩
    unfold everyTo rdOf
    simp [List.getD_eq_getElem?_getD, hs]
  | K + 1, hK => by
    have ih := every_at word lo hi most s hs K (by omega)
    rw [everyTo_succ]
    by_cases e : hiOf (pagesOf l0 l1) K < lo ∨ hi < (rd_T167 (pagesOf l0 l1) K).f0
    · rw [if_pos e, ih]
      refine ⟨fun h j hj hn => ?_, fun h j hj => h j (by omega)⟩
      by_cases ej : j = K
      · subst ej; exact absurd e hn
      · exact h j (by omega) hn
    · have hlen : (rd_T167 (pagesOf l0 l1) K).f1.length = l0.length := (pages_ok h0).len _ (rd_page_mem K (by omega))
      rw [if_neg e, evIn_at _ _ _ _ _ _ (by rw [everyTo_len, hlen]; exact Nat.le_refl _), if_pos (by rw [hlen]; exact hs), Bool.and_eq_true, ih]
      refine ⟨fun h j hj hn => ?_, fun h => ⟨fun j hj => h j (by omega), h K (Nat.lt_succ_self _) e⟩⟩
      by_cases ej : j = K
      · subst ej; exact h.2
      · exact h.1 j (by omega) hn
theorem some_at (word : ByteArray) (lo hi most : Int) (s : Nat) (hs : s < l0.length) : ∀ K, K ≤ (pagesOf l0 l1).length →
    (rdOf false (someTo (pagesOf l0 l1) word lo hi most l0.length K) (s : Int) = true ↔ ∃ j, j < K ∧ ¬ (hiOf (pagesOf l0 l1) j < lo ∨ hi < (rd_T167 (pagesOf l0 l1) j).f0) ∧ isMeant word most (rdOf ByteArray.empty (rd_T167 (pagesOf l0 l1) j).f1 (s : Int)) = true)
  | 0, _ => by
    refine ⟨fun h => ?_, fun ⟨j, hj, _⟩ => absurd hj (Nat.not_lt_zero _)⟩
    unfold someTo rdOf at h
    simp [List.getD_eq_getElem?_getD, hs] at h
  | K + 1, hK => by
    have ih := some_at word lo hi most s hs K (by omega)
    rw [someTo_succ]
    by_cases e : hiOf (pagesOf l0 l1) K < lo ∨ hi < (rd_T167 (pagesOf l0 l1) K).f0
    · rw [if_pos e, ih]
      refine ⟨fun ⟨j, hj, h⟩ => ⟨j, by omega, h⟩, fun ⟨j, hj, hn, h⟩ => ⟨j, ?_, hn, h⟩⟩
      by_cases ej : j = K
      · subst ej; exact absurd e hn
      · omega
    · have hlen : (rd_T167 (pagesOf l0 l1) K).f1.length = l0.length := (pages_ok h0).len _ (rd_page_mem K (by omega))
      rw [if_neg e, smIn_at _ _ _ _ _ _ (by rw [someTo_len, hlen]; exact Nat.le_refl _), if_pos (by rw [hlen]; exact hs), Bool.or_eq_true, ih]
      refine ⟨fun h => ?_, fun ⟨j, hj, hn, h⟩ => ?_⟩
      · rcases h with ⟨j, hj, h⟩ | h
        · exact ⟨j, by omega, h⟩
        · exact ⟨K, Nat.lt_succ_self _, e, h⟩
      · by_cases ej : j = K
        · subst ej; exact .inr h
        · exact .inl ⟨j, by omega, hn, h⟩
theorem every_hours (word : ByteArray) (lo hi most : Int) (hl : 0 ≤ lo) (hlh : lo ≤ hi) (hh : hi ≤ 1000) (s : Nat) (hs : s < l0.length) :
    rdOf false (everyTo (pagesOf l0 l1) word lo hi most l0.length (pagesOf l0 l1).length) (s : Int) = true ↔ ∀ h, lo ≤ h → h ≤ hi → isMeant word most (calledP l0 l1 s h) = true := by
  rw [every_at h0 word lo hi most s hs _ (Nat.le_refl _)]
  constructor
  · intro H h ha hb
    obtain ⟨k, hk, k1, k2⟩ := hour_page h0 h (by omega) (by omega)
    have := H k hk (by omega)
    rwa [page_hours h0 k hk h k1 k2, namesP_rd l0 l1 h s hs] at this
  · intro H j hj hn
    have hp := hi_lo h0 j hj
    obtain ⟨h, a, b, c, d⟩ : ∃ h : Int, lo ≤ h ∧ h ≤ hi ∧ (rd_T167 (pagesOf l0 l1) j).f0 ≤ h ∧ h ≤ hiOf (pagesOf l0 l1) j := by
      by_cases e : lo ≤ (rd_T167 (pagesOf l0 l1) j).f0
      · exact ⟨_, e, by omega, Int.le_refl _, hp.1⟩
      · exact ⟨lo, Int.le_refl _, hlh, by omega, by omega⟩
    rw [page_hours h0 j hj h c d, namesP_rd l0 l1 h s hs]
    exact H h a b
theorem some_hours (word : ByteArray) (lo hi most : Int) (hl : 0 ≤ lo) (hlh : lo ≤ hi) (hh : hi ≤ 1000) (s : Nat) (hs : s < l0.length) :
    rdOf false (someTo (pagesOf l0 l1) word lo hi most l0.length (pagesOf l0 l1).length) (s : Int) = true ↔ ∃ h, lo ≤ h ∧ h ≤ hi ∧ isMeant word most (calledP l0 l1 s h) = true := by
  rw [some_at h0 word lo hi most s hs _ (Nat.le_refl _)]
  constructor
  · rintro ⟨j, hj, hn, H⟩
    have hp := hi_lo h0 j hj
    obtain ⟨h, a, b, c, d⟩ : ∃ h : Int, lo ≤ h ∧ h ≤ hi ∧ (rd_T167 (pagesOf l0 l1) j).f0 ≤ h ∧ h ≤ hiOf (pagesOf l0 l1) j := by
      by_cases e : lo ≤ (rd_T167 (pagesOf l0 l1) j).f0
      · exact ⟨_, e, by omega, Int.le_refl _, hp.1⟩
      · exact ⟨lo, Int.le_refl _, hlh, by omega, by omega⟩
    rw [page_hours h0 j hj h c d, namesP_rd l0 l1 h s hs] at H
    exact ⟨h, a, b, H⟩
  · rintro ⟨h, ha, hb, H⟩
    obtain ⟨k, hk, k1, k2⟩ := hour_page h0 h (by omega) (by omega)
    refine ⟨k, hk, by omega, ?_⟩
    rwa [page_hours h0 k hk h k1 k2, namesP_rd l0 l1 h s hs]
end
theorem toList_inj {x y : ByteArray} (h : x.toList = y.toList) : x = y := by
  rw [Go.ByteArray.toList_eq, Go.ByteArray.toList_eq] at h
  exact ByteArray.ext (Array.toList_inj.1 h)
theorem meant_step (l0 : List ByteArray) (l1 : List S60) (word : ByteArray) (s : Int) (lo hi most : Int) (k : Nat) (x10 x11 x13 : Bool) (x12 nm : ByteArray) (v h : Int) (hx : h ≤ hi) (hc : smaltoref08_Called.f l0 l1 s h = some nm) (hf : smaltoref08_Faults.f word nm = some v) (is : Bool) (hi1 : nm = x12 → is = x13) (hi2 : nm ≠ x12 → is = decide (v ≤ most)) :
    smaltoref08_Meant.l0 (k + 1) word s x10 x11 x12 x13 h l0 l1 lo hi most = smaltoref08_Meant.l0 k word s (x10 && is) (x11 || is) nm is (wrap64 (h + 1)) l0 l1 lo hi most := by
  rw [smaltoref08_Meant.l0]
  rw [if_pos hx, hc, Option.bind_some]
  by_cases e : nm = x12
  · subst e
    rw [if_pos rfl, hi1 rfl]
    cases x10 <;> cases x11 <;> rfl
  · rw [if_neg (fun h => e (toList_inj h)), hf, Option.bind_some, hi2 e]
    cases x10 <;> cases x11 <;> rfl
theorem meant_f (l0 : List ByteArray) (l1 : List S60) (h0 : openE l0 l1 = 0) (word : ByteArray) (hw : word.size ≤ 10) (s : Nat) (hs : s < l0.length) (lo hi most : Int) (hl : 0 ≤ lo) (hlh : lo ≤ hi) (hh : hi ≤ 1000) (k : Nat) (hk : 1002 < k) :
    smaltoref08_Meant.f k l0 l1 word s lo hi most = some (rdOf false (everyTo (pagesOf l0 l1) word lo hi most l0.length (pagesOf l0 l1).length) (s : Int), rdOf false (someTo (pagesOf l0 l1) word lo hi most l0.length (pagesOf l0 l1).length) (s : Int)) := by
  have hev := every_hours h0 word lo hi most hl hlh hh s hs
  have hso := some_hours h0 word lo hi most hl hlh hh s hs
  obtain ⟨E, hE⟩ : ∃ E, rdOf false (everyTo (pagesOf l0 l1) word lo hi most l0.length (pagesOf l0 l1).length) (s : Int) = E := ⟨_, rfl⟩
  obtain ⟨M, hM⟩ : ∃ M, rdOf false (someTo (pagesOf l0 l1) word lo hi most l0.length (pagesOf l0 l1).length) (s : Int) = M := ⟨_, rfl⟩
  rw [hE] at hev ⊢
  rw [hM] at hso ⊢
  have hc8 := (check_ok (open_zero h0).1).2.2.2.2.1
  have key : ∀ (d k : Nat) (h : Int) (x10 x11 x13 : Bool) (x12 : ByteArray), h + d = hi + 1 → lo ≤ h → d < k → (x10 = true ↔ ∀ t, lo ≤ t → t < h → isMeant word most (calledP l0 l1 s t) = true) → (x11 = true ↔ ∃ t, lo ≤ t ∧ t < h ∧ isMeant word most (calledP l0 l1 s t) = true) →
      (x12 = ByteArray.empty ∨ x13 = isMeant word most x12) → smaltoref08_Meant.l0 k word s x10 x11 x12 x13 h l0 l1 lo hi most = some (E, M) := by
    intro d
    induction d with
    | zero =>
      intro k h x10 x11 x13 x12 hd hlo hk e1 e2 e3
      obtain ⟨k, rfl⟩ : ∃ j, k = j + 1 := ⟨k - 1, by omega⟩
      rw [smaltoref08_Meant.l0, if_neg (by omega)]
      have a1 : x10 = E := by
        rw [Bool.eq_iff_iff, e1, hev]
        exact ⟨fun H t ha hb => H t ha (by omega), fun H t ha hb => H t ha (by omega)⟩
      have a2 : x11 = M := by
        rw [Bool.eq_iff_iff, e2, hso]
        exact ⟨fun ⟨t, ha, hb, H⟩ => ⟨t, ha, by omega, H⟩, fun ⟨t, ha, hb, H⟩ => ⟨t, ha, by omega, H⟩⟩
      rw [a1, a2]
    | succ d ih =>
      intro k h x10 x11 x13 x12 hd hlo hk e1 e2 e3
      obtain ⟨k, rfl⟩ : ∃ j, k = j + 1 := ⟨k - 1, by omega⟩
      have hsz := called_size h0 s hs h
      have hcal := called_f l0 l1 (by omega) s hs h
      have hfa : smaltoref08_Faults.f word (calledP l0 l1 s h) = some (faultsV word (calledP l0 l1 s h)) := by
        unfold smaltoref08_Faults.f
        rw [if_pos hw, if_pos hsz.2, faultsV_lev _ _ hsz.2]
      rw [meant_step l0 l1 word s lo hi most k x10 x11 x13 x12 (calledP l0 l1 s h) (faultsV word (calledP l0 l1 s h)) h (by omega) hcal hfa (isMeant word most (calledP l0 l1 s h)) (fun e => by
        rcases e3 with e4 | e4
        · rw [e, e4] at hsz
          have : ByteArray.empty.size = 0 := rfl
          omega
        · rw [e4, e]) (fun _ => rfl)]
      rw [show wrap64 (h + 1) = h + 1 from by unfold wrap64; omega]
      refine ih k (h + 1) _ _ _ _ (by omega) (by omega) (by omega) ?_ ?_ (.inr rfl)
      · rw [Bool.and_eq_true, e1]
        refine ⟨fun ⟨H, H2⟩ t ha hb => ?_, fun H => ⟨fun t ha hb => H t ha (by omega), H h hlo (by omega)⟩⟩
        by_cases e : t = h
        · rw [e]; exact H2
        · exact H t ha (by omega)
      · rw [Bool.or_eq_true, e2]
        refine ⟨fun H => ?_, fun ⟨t, ha, hb, H⟩ => ?_⟩
        · rcases H with ⟨t, ha, hb, H⟩ | H
          · exact ⟨t, ha, by omega, H⟩
          · exact ⟨h, hlo, by omega, H⟩
        · by_cases e : t = h
          · rw [e] at H; exact .inr H
          · exact .inl ⟨t, ha, by omega, H⟩
  unfold smaltoref08_Meant.f
  exact key (hi + 1 - lo).toNat k lo true false false _ (by omega) (Int.le_refl _) (by omega) ⟨fun _ t ha hb => absurd hb (by omega), fun _ => rfl⟩ ⟨fun h => absurd h (by decide), fun ⟨t, ha, hb, _⟩ => absurd hb (by omega)⟩ (.inl rfl)
end Go.Proofs.YtdjlfdbnmnjccaaGreat.St
end
