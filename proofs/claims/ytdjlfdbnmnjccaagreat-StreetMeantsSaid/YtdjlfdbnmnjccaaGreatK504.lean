/- A part of the proof of a law of this seat: lemmas that hold without conditions. -/
import Derived.Deep.DeepCutAuto
import Derived.Test.YtdjlfdbnmnjccaaGreatB24
import Derived.Test.YtdjlfdbnmnjccaaGreatK503
set_option linter.all false
set_option linter.unusedSectionVars false
section
set_option linter.unusedVariables false
set_option linter.unusedSimpArgs false
namespace Go.Proofs.YtdjlfdbnmnjccaaGreat.St
open Go.RowKit Go.Shelf Go.Proofs.YtdjlfdbnmnjccaaGreatW.PrintWords Go.Proofs.YtdjlfdbnmnjccaaGreatW.PrintLast Go.Proofs.YtdjlfdbnmnjccaaGreatW.PrintMore
set_option maxHeartbeats 8000000 in
set_option maxRecDepth 100000 in
theorem meants_walk (A0 : Option Addr) (c0 : Nat) (l0 : List ByteArray) (A1 : Option Addr) (c1 : Nat) (l1 : List S60) (word : ByteArray) (lo hi most : Int) (w : World) (T : TwC w A0 c0 l0 A1 c1 l1) :
    Calls Tryz.prog 7 #[.agg #[.slice A0 l0.length c0, .slice A1 l1.length c1], .string word, .agg #[.int .i64 lo, .int .i64 hi, .int .i64 most]] w fun e w' => e = .returned (.bool true) ∧ Below w.heap.size w w' := by
 have T0 := Aside0.mk T
 clear T
 go_enter Tryz.func7, Tryz.ntmps7
 go_wp2_with fail
 obtain ⟨w1, hw1⟩ : ∃ x, ((w.alloc (.cells #[.slice A0 l0.length c0, .slice A1 l1.length c1] 25)).alloc (.cells #[.int .i64 lo, .int .i64 hi, .int .i64 most] 77)).alloc (.cells #[.string word] 9) = x := ⟨_, rfl⟩
 have B1 : Aside0 (Below w.heap.size w w1) := ⟨by rw [← hw1]; exact below_alloc (below_alloc (below_alloc (Below.refl _ _) _) _) _⟩
 have X1 : Aside0 (w1.heap[w.heap.size]? = some (.cells #[.slice A0 l0.length c0, .slice A1 l1.length c1] 25 (0, 0))) := ⟨by rw [← hw1]; exact blk_alloc (blk_alloc (blk_new w _) _) _⟩
 have Y1 : Aside0 (w1.heap[w.heap.size + 1]? = some (.cells #[.int .i64 lo, .int .i64 hi, .int .i64 most] 77 (0, 0))) := ⟨by rw [← hw1]; refine blk_alloc ?_ _; have := blk_new (w.alloc (.cells #[.slice A0 l0.length c0, .slice A1 l1.length c1] 25)) (.cells #[.int .i64 lo, .int .i64 hi, .int .i64 most] 77); rwa [World.size_alloc] at this⟩
 have N1 : Aside0 (LC Kd.string w1 (some ⟨w.heap.size + 1 + 1, 0, none⟩) 1 [word]) := ⟨by rw [← hw1]; exact LC.one word 9 (by rw [World.size_alloc, World.size_alloc])⟩
 rw [hw1]
 clear hw1
 obtain ⟨b, HLG, HB⟩ := longG (T0.out.below B1.out) N1.out
 refine (HLG).mono ?_
 rintro e w2 ⟨rfl, B2⟩
 cases b with
 | true =>
  go_wp2_with fail
  refine (knownG _).mono ?_
  rintro e w3 ⟨rfl, B3⟩
  go_wp2_with fail
  go_ret
  exact ⟨rfl, (by repeat (first | exact Below.refl _ _ | refine below_from ?_ (Aside0.out (by assumption))))⟩
 | false =>
  obtain ⟨S, hs⟩ := HB rfl
  have hs40 := hs word (List.mem_cons_self ..)
  have hl20 := S.n0
  clear HB HLG hs
  have c_t : w2.heap[w.heap.size]? = some (.cells #[.slice A0 l0.length c0, .slice A1 l1.length c1] 25 (0, 0)) := (by repeat (first | exact Aside0.out (by assumption) | refine blk_below ?_ (Aside0.out (by assumption))))
  have c_t0 : w2.cell? ⟨w.heap.size, 0, none⟩ = some (.slice A0 l0.length c0) := (blk_cell c_t 0).trans rfl
  have c_t1 : w2.cell? ⟨w.heap.size, 1, none⟩ = some (.slice A1 l1.length c1) := (blk_cell c_t 1).trans rfl
  have T2 : Aside0 (TwC w2 A0 c0 l0 A1 c1 l1) := ⟨(by repeat (first | exact Aside0.out (by assumption) | refine TwC.below ?_ (Aside0.out (by assumption))))⟩
  go_upto_region 4 with (go_at_call 12; refine (copyRR S _ T2.out).mono ?_; rintro e w3 ⟨B, d, B', d', rfl, T3, B3⟩)
  clear c_t0 c_t1 c_t
  obtain ⟨w4, hw4⟩ : ∃ x, w3.alloc (.cells #[.slice B l0.length d, .slice B' l1.length d'] 25) = x := ⟨_, rfl⟩
  have B4 : Aside0 (Below w3.heap.size w3 w4) := ⟨by rw [← hw4]; exact below_alloc (Below.refl _ _) _⟩
  have X4 : Aside0 (w4.heap[w3.heap.size]? = some (.cells #[.slice B l0.length d, .slice B' l1.length d'] 25 (0, 0))) := ⟨by rw [← hw4]; exact blk_new w3 _⟩
  rw [hw4]
  clear hw4
  have TX : Aside0 (TwC w4 B d l0 B' d' l1) := ⟨T3.out.tw.below B4.out⟩
  clear T3
  obtain ⟨m1, m2, m3, hm⟩ : ∃ a b c, meantR l0 l1 word lo hi most = (a, b, c) := ⟨_, _, _, rfl⟩
  obtain ⟨n1, n2, n3, hn⟩ : ∃ a b c, nearR l0 l1 word lo = (a, b, c) := ⟨_, _, _, rfl⟩
  have c_x : w4.heap[w3.heap.size]? = some (.cells #[.slice B l0.length d, .slice B' l1.length d'] 25 (0, 0)) := (by repeat (first | exact Aside0.out (by assumption) | refine blk_below ?_ (Aside0.out (by assumption))))
  have c_x0 : w4.cell? ⟨w3.heap.size, 0, none⟩ = some (.slice B l0.length d) := (blk_cell c_x 0).trans rfl
  have c_x1 : w4.cell? ⟨w3.heap.size, 1, none⟩ = some (.slice B' l1.length d') := (blk_cell c_x 1).trans rfl
  have c_v : w4.heap[w.heap.size + 1]? = some (.cells #[.int .i64 lo, .int .i64 hi, .int .i64 most] 77 (0, 0)) := (by repeat (first | exact Aside0.out (by assumption) | refine blk_below ?_ (Aside0.out (by assumption))))
  have c_v0 : w4.cell? ⟨w.heap.size + 1, 0, none⟩ = some (.int .i64 lo) := (blk_cell c_v 0).trans rfl
  have c_v1 : w4.cell? ⟨w.heap.size + 1, 1, none⟩ = some (.int .i64 hi) := (blk_cell c_v 1).trans rfl
  have c_v2 : w4.cell? ⟨w.heap.size + 1, 2, none⟩ = some (.int .i64 most) := (blk_cell c_v 2).trans rfl
  go_wp2_with fail
  refine (meaG B d l0 B' d' l1 word lo hi most w4 TX.out hm).mono ?_
  rintro e w5 ⟨R0, e0, R1, e1, rfl, M1, M2, B5⟩
  clear c_x0 c_x1 c_x c_v0 c_v1 c_v2 c_v
  have c_x : w5.heap[w3.heap.size]? = some (.cells #[.slice B l0.length d, .slice B' l1.length d'] 25 (0, 0)) := (by repeat (first | exact Aside0.out (by assumption) | refine blk_below ?_ (Aside0.out (by assumption))))
  have c_x0 : w5.cell? ⟨w3.heap.size, 0, none⟩ = some (.slice B l0.length d) := (blk_cell c_x 0).trans rfl
  have c_x1 : w5.cell? ⟨w3.heap.size, 1, none⟩ = some (.slice B' l1.length d') := (blk_cell c_x 1).trans rfl
  have c_v : w5.heap[w.heap.size + 1]? = some (.cells #[.int .i64 lo, .int .i64 hi, .int .i64 most] 77 (0, 0)) := (by repeat (first | exact Aside0.out (by assumption) | refine blk_below ?_ (Aside0.out (by assumption))))
  have c_v0 : w5.cell? ⟨w.heap.size + 1, 0, none⟩ = some (.int .i64 lo) := (blk_cell c_v 0).trans rfl
  have c_v1 : w5.cell? ⟨w.heap.size + 1, 1, none⟩ = some (.int .i64 hi) := (blk_cell c_v 1).trans rfl
  have c_v2 : w5.cell? ⟨w.heap.size + 1, 2, none⟩ = some (.int .i64 most) := (blk_cell c_v 2).trans rfl
  go_wp2_with fail
  refine (neaG B d l0 B' d' l1 word lo w5 (TX.out.below B5.out) hn).mono ?_
  rintro e w6 ⟨R2, e2, rfl, M3, B6⟩
  clear c_x0 c_x1 c_x c_v0 c_v1 c_v2 c_v
  have c_x : w6.heap[w3.heap.size]? = some (.cells #[.slice B l0.length d, .slice B' l1.length d'] 25 (0, 0)) := (by repeat (first | exact Aside0.out (by assumption) | refine blk_below ?_ (Aside0.out (by assumption))))
  have c_x0 : w6.cell? ⟨w3.heap.size, 0, none⟩ = some (.slice B l0.length d) := (blk_cell c_x 0).trans rfl
  have c_x1 : w6.cell? ⟨w3.heap.size, 1, none⟩ = some (.slice B' l1.length d') := (blk_cell c_x 1).trans rfl
  have c_t : w6.heap[w.heap.size]? = some (.cells #[.slice A0 l0.length c0, .slice A1 l1.length c1] 25 (0, 0)) := (by repeat (first | exact Aside0.out (by assumption) | refine blk_below ?_ (Aside0.out (by assumption))))
  have c_t0 : w6.cell? ⟨w.heap.size, 0, none⟩ = some (.slice A0 l0.length c0) := (blk_cell c_t 0).trans rfl
  have c_t1 : w6.cell? ⟨w.heap.size, 1, none⟩ = some (.slice A1 l1.length c1) := (blk_cell c_t 1).trans rfl
  go_wp2_with fail
  refine (sameG S w6 ((by repeat (first | exact Aside0.out (by assumption) | refine TwC.below ?_ (Aside0.out (by assumption)))) : TwC w6 B d l0 B' d' l1) ((by repeat (first | exact Aside0.out (by assumption) | refine TwC.below ?_ (Aside0.out (by assumption)))) : TwC w6 A0 c0 l0 A1 c1 l1)).mono ?_
  rintro e w7 ⟨rfl, B7⟩
  clear c_x0 c_x1 c_x c_t0 c_t1 c_t
  have c_t : w7.heap[w.heap.size]? = some (.cells #[.slice A0 l0.length c0, .slice A1 l1.length c1] 25 (0, 0)) := (by repeat (first | exact Aside0.out (by assumption) | refine blk_below ?_ (Aside0.out (by assumption))))
  have c_t0 : w7.cell? ⟨w.heap.size, 0, none⟩ = some (.slice A0 l0.length c0) := (blk_cell c_t 0).trans rfl
  have c_t1 : w7.cell? ⟨w.heap.size, 1, none⟩ = some (.slice A1 l1.length c1) := (blk_cell c_t 1).trans rfl
  go_wp2_with fail
  refine (openG S w7 ((by repeat (first | exact Aside0.out (by assumption) | refine TwC.below ?_ (Aside0.out (by assumption)))) : TwC w7 A0 c0 l0 A1 c1 l1)).mono ?_
  rintro e w8 ⟨rfl, B8⟩
  clear c_t0 c_t1 c_t
  obtain ⟨E, hE⟩ : ∃ E, openE l0 l1 = E := ⟨_, rfl⟩
  rw [hE]
  by_cases hE0 : E = 0
  ·
   subst hE0
   go_wp2_with fail
   refine (isNameG word hs40 _).mono ?_
   rintro e w9 ⟨rfl, B9⟩
   obtain ⟨b3, hb3⟩ : ∃ b, isNameB word = b := ⟨_, rfl⟩
   rw [hb3]
   cases b3 with
   | false =>
    rw [meantR_name hE hb3] at hm
    rw [nearR_name hE hb3] at hn
    obtain ⟨rfl, rfl, rfl⟩ : ([] : List Int) = m1 ∧ ([] : List Int) = m2 ∧ (4 : Int) = m3 := by cases hm; exact ⟨rfl, rfl, rfl⟩
    clear hm
    obtain ⟨rfl, rfl, rfl⟩ : ([] : List Int) = n1 ∧ (0 : Int) = n2 ∧ (4 : Int) = n3 := by cases hn; exact ⟨rfl, rfl, rfl⟩
    clear hn
    go_wp2_with fail
    refine (knownG _).mono ?_
    rintro e w10 ⟨rfl, B10⟩
    go_wp2_with fail
    go_ret
    exact ⟨rfl, (by repeat (first | exact Below.refl _ _ | refine below_from ?_ (Aside0.out (by assumption))))⟩
   | true =>
    have c_v : w9.heap[w.heap.size + 1]? = some (.cells #[.int .i64 lo, .int .i64 hi, .int .i64 most] 77 (0, 0)) := (by repeat (first | exact Aside0.out (by assumption) | refine blk_below ?_ (Aside0.out (by assumption))))
    have c_v0 : w9.cell? ⟨w.heap.size + 1, 0, none⟩ = some (.int .i64 lo) := (blk_cell c_v 0).trans rfl
    have c_v1 : w9.cell? ⟨w.heap.size + 1, 1, none⟩ = some (.int .i64 hi) := (blk_cell c_v 1).trans rfl
    have c_v2 : w9.cell? ⟨w.heap.size + 1, 2, none⟩ = some (.int .i64 most) := (blk_cell c_v 2).trans rfl
    go_wp2_with fail
    refine (inG lo 0 hi _).mono ?_
    rintro e w10 ⟨rfl, B10⟩
    clear c_v0 c_v1 c_v2 c_v
    obtain ⟨b1, hb1⟩ : ∃ b, (decide (0 ≤ lo) && decide (lo ≤ hi)) = b := ⟨_, rfl⟩
    rw [hb1]
    cases b1 with
    | false =>
     rw [meantR_range hE hb3 (by simp only [Bool.and_eq_false_iff, decide_eq_false_iff_not] at hb1; omega)] at hm
     obtain ⟨rfl, rfl, rfl⟩ : ([] : List Int) = m1 ∧ ([] : List Int) = m2 ∧ (3 : Int) = m3 := by cases hm; exact ⟨rfl, rfl, rfl⟩
     clear hm
     have c_v : w10.heap[w.heap.size + 1]? = some (.cells #[.int .i64 lo, .int .i64 hi, .int .i64 most] 77 (0, 0)) := (by repeat (first | exact Aside0.out (by assumption) | refine blk_below ?_ (Aside0.out (by assumption))))
     have c_v0 : w10.cell? ⟨w.heap.size + 1, 0, none⟩ = some (.int .i64 lo) := (blk_cell c_v 0).trans rfl
     have c_v1 : w10.cell? ⟨w.heap.size + 1, 1, none⟩ = some (.int .i64 hi) := (blk_cell c_v 1).trans rfl
     have c_v2 : w10.cell? ⟨w.heap.size + 1, 2, none⟩ = some (.int .i64 most) := (blk_cell c_v 2).trans rfl
     go_wp2_with fail
     refine (inG lo 0 1000 _).mono ?_
     rintro e w11 ⟨rfl, B11⟩
     clear c_v0 c_v1 c_v2 c_v
     obtain ⟨b4, hb4⟩ : ∃ b, (decide (0 ≤ lo) && decide (lo ≤ 1000)) = b := ⟨_, rfl⟩
     rw [hb4]
     cases b4 with
     | false =>
      rw [nearR_range hE hb3 hb4] at hn
      obtain ⟨rfl, rfl, rfl⟩ : ([] : List Int) = n1 ∧ (0 : Int) = n2 ∧ (3 : Int) = n3 := by cases hn; exact ⟨rfl, rfl, rfl⟩
      clear hn
      go_wp2_with fail
      refine (knownG _).mono ?_
      rintro e w12 ⟨rfl, B12⟩
      go_wp2_with fail
      go_ret
      exact ⟨rfl, (by repeat (first | exact Below.refl _ _ | refine below_from ?_ (Aside0.out (by assumption))))⟩
     | true =>
      rw [nearR_ok hE hb3 hb4] at hn
      obtain ⟨k1, k2, hk⟩ : ∃ a b, nearP l0 l1 word lo = (a, b) := ⟨_, _, rfl⟩
      rw [hk] at hn
      obtain ⟨rfl, rfl, rfl⟩ : k1 = n1 ∧ k2 = n2 ∧ (0 : Int) = n3 := by cases hn; exact ⟨rfl, rfl, rfl⟩
      clear hn
      have hlo : 0 ≤ lo := by simp only [Bool.and_eq_true, decide_eq_true_eq] at hb4; exact hb4.1
      have HLN : Aside0 (k1.length < 100000) := ⟨by have := nearP_small hE (word := word) (lo := lo) hl20 hlo; rw [hk] at this; exact this⟩
      have HK := Aside0.mk hk
      clear hk
      have c_t : w11.heap[w.heap.size]? = some (.cells #[.slice A0 l0.length c0, .slice A1 l1.length c1] 25 (0, 0)) := (by repeat (first | exact Aside0.out (by assumption) | refine blk_below ?_ (Aside0.out (by assumption))))
      have c_t0 : w11.cell? ⟨w.heap.size, 0, none⟩ = some (.slice A0 l0.length c0) := (blk_cell c_t 0).trans rfl
      have c_t1 : w11.cell? ⟨w.heap.size, 1, none⟩ = some (.slice A1 l1.length c1) := (blk_cell c_t 1).trans rfl
      have c_v : w11.heap[w.heap.size + 1]? = some (.cells #[.int .i64 lo, .int .i64 hi, .int .i64 most] 77 (0, 0)) := (by repeat (first | exact Aside0.out (by assumption) | refine blk_below ?_ (Aside0.out (by assumption))))
      have c_v0 : w11.cell? ⟨w.heap.size + 1, 0, none⟩ = some (.int .i64 lo) := (blk_cell c_v 0).trans rfl
      have c_v1 : w11.cell? ⟨w.heap.size + 1, 1, none⟩ = some (.int .i64 hi) := (blk_cell c_v 1).trans rfl
      have c_v2 : w11.cell? ⟨w.heap.size + 1, 2, none⟩ = some (.int .i64 most) := (blk_cell c_v 2).trans rfl
      go_wp2_with fail
      refine (neaRG A0 c0 l0 A1 c1 l1 word lo w11 ((by repeat (first | exact Aside0.out (by assumption) | refine TwC.below ?_ (Aside0.out (by assumption)))) : TwC _ A0 c0 l0 A1 c1 l1) hE (word_size10 hb3) hlo HK.out).mono ?_
      rintro e w12 ⟨R3, e3, rfl, M4, B12⟩
      clear c_t0 c_t1 c_t c_v0 c_v1 c_v2 c_v
      go_wp2_with fail
      refine (intsM R2 e2 R3 e3 k1 w12 (by repeat (first | exact Aside0.out (by assumption) | refine LC.below ?_ (Aside0.out (by assumption)))) (by repeat (first | exact Aside0.out (by assumption) | refine LC.below ?_ (Aside0.out (by assumption)))) HLN.out).mono ?_
      rintro e w13 ⟨rfl, B13⟩
      go_wp2_with fail
      refine (knownG _).mono ?_
      rintro e w14 ⟨rfl, B14⟩
      go_wp2_with fail
      go_ret
      exact ⟨rfl, (by repeat (first | exact Below.refl _ _ | refine below_from ?_ (Aside0.out (by assumption))))⟩
    | true =>
     by_cases hh : hi > 1000
     ·
      rw [meantR_range hE hb3 (by omega)] at hm
      obtain ⟨rfl, rfl, rfl⟩ : ([] : List Int) = m1 ∧ ([] : List Int) = m2 ∧ (3 : Int) = m3 := by cases hm; exact ⟨rfl, rfl, rfl⟩
      clear hm
      have c_v : w10.heap[w.heap.size + 1]? = some (.cells #[.int .i64 lo, .int .i64 hi, .int .i64 most] 77 (0, 0)) := (by repeat (first | exact Aside0.out (by assumption) | refine blk_below ?_ (Aside0.out (by assumption))))
      have c_v0 : w10.cell? ⟨w.heap.size + 1, 0, none⟩ = some (.int .i64 lo) := (blk_cell c_v 0).trans rfl
      have c_v1 : w10.cell? ⟨w.heap.size + 1, 1, none⟩ = some (.int .i64 hi) := (blk_cell c_v 1).trans rfl
      have c_v2 : w10.cell? ⟨w.heap.size + 1, 2, none⟩ = some (.int .i64 most) := (blk_cell c_v 2).trans rfl
      go_wp2_with fail
      refine (inG lo 0 1000 _).mono ?_
      rintro e w11 ⟨rfl, B11⟩
      clear c_v0 c_v1 c_v2 c_v
      obtain ⟨b4, hb4⟩ : ∃ b, (decide (0 ≤ lo) && decide (lo ≤ 1000)) = b := ⟨_, rfl⟩
      rw [hb4]
      cases b4 with
      | false =>
       rw [nearR_range hE hb3 hb4] at hn
       obtain ⟨rfl, rfl, rfl⟩ : ([] : List Int) = n1 ∧ (0 : Int) = n2 ∧ (3 : Int) = n3 := by cases hn; exact ⟨rfl, rfl, rfl⟩
       clear hn
       go_wp2_with fail
       refine (knownG _).mono ?_
       rintro e w12 ⟨rfl, B12⟩
       go_wp2_with fail
       go_ret
       exact ⟨rfl, (by repeat (first | exact Below.refl _ _ | refine below_from ?_ (Aside0.out (by assumption))))⟩
      | true =>
       rw [nearR_ok hE hb3 hb4] at hn
       obtain ⟨k1, k2, hk⟩ : ∃ a b, nearP l0 l1 word lo = (a, b) := ⟨_, _, rfl⟩
       rw [hk] at hn
       obtain ⟨rfl, rfl, rfl⟩ : k1 = n1 ∧ k2 = n2 ∧ (0 : Int) = n3 := by cases hn; exact ⟨rfl, rfl, rfl⟩
       clear hn
       have hlo : 0 ≤ lo := by simp only [Bool.and_eq_true, decide_eq_true_eq] at hb4; exact hb4.1
       have HLN : Aside0 (k1.length < 100000) := ⟨by have := nearP_small hE (word := word) (lo := lo) hl20 hlo; rw [hk] at this; exact this⟩
       have HK := Aside0.mk hk
       clear hk
       have c_t : w11.heap[w.heap.size]? = some (.cells #[.slice A0 l0.length c0, .slice A1 l1.length c1] 25 (0, 0)) := (by repeat (first | exact Aside0.out (by assumption) | refine blk_below ?_ (Aside0.out (by assumption))))
       have c_t0 : w11.cell? ⟨w.heap.size, 0, none⟩ = some (.slice A0 l0.length c0) := (blk_cell c_t 0).trans rfl
       have c_t1 : w11.cell? ⟨w.heap.size, 1, none⟩ = some (.slice A1 l1.length c1) := (blk_cell c_t 1).trans rfl
       have c_v : w11.heap[w.heap.size + 1]? = some (.cells #[.int .i64 lo, .int .i64 hi, .int .i64 most] 77 (0, 0)) := (by repeat (first | exact Aside0.out (by assumption) | refine blk_below ?_ (Aside0.out (by assumption))))
       have c_v0 : w11.cell? ⟨w.heap.size + 1, 0, none⟩ = some (.int .i64 lo) := (blk_cell c_v 0).trans rfl
       have c_v1 : w11.cell? ⟨w.heap.size + 1, 1, none⟩ = some (.int .i64 hi) := (blk_cell c_v 1).trans rfl
       have c_v2 : w11.cell? ⟨w.heap.size + 1, 2, none⟩ = some (.int .i64 most) := (blk_cell c_v 2).trans rfl
       go_wp2_with fail
       refine (neaRG A0 c0 l0 A1 c1 l1 word lo w11 ((by repeat (first | exact Aside0.out (by assumption) | refine TwC.below ?_ (Aside0.out (by assumption)))) : TwC _ A0 c0 l0 A1 c1 l1) hE (word_size10 hb3) hlo HK.out).mono ?_
       rintro e w12 ⟨R3, e3, rfl, M4, B12⟩
       clear c_t0 c_t1 c_t c_v0 c_v1 c_v2 c_v
       go_wp2_with fail
       refine (intsM R2 e2 R3 e3 k1 w12 (by repeat (first | exact Aside0.out (by assumption) | refine LC.below ?_ (Aside0.out (by assumption)))) (by repeat (first | exact Aside0.out (by assumption) | refine LC.below ?_ (Aside0.out (by assumption)))) HLN.out).mono ?_
       rintro e w13 ⟨rfl, B13⟩
       go_wp2_with fail
       refine (knownG _).mono ?_
       rintro e w14 ⟨rfl, B14⟩
       go_wp2_with fail
       go_ret
       exact ⟨rfl, (by repeat (first | exact Below.refl _ _ | refine below_from ?_ (Aside0.out (by assumption))))⟩
     ·
      have c_v : w10.heap[w.heap.size + 1]? = some (.cells #[.int .i64 lo, .int .i64 hi, .int .i64 most] 77 (0, 0)) := (by repeat (first | exact Aside0.out (by assumption) | refine blk_below ?_ (Aside0.out (by assumption))))
      have c_v0 : w10.cell? ⟨w.heap.size + 1, 0, none⟩ = some (.int .i64 lo) := (blk_cell c_v 0).trans rfl
      have c_v1 : w10.cell? ⟨w.heap.size + 1, 1, none⟩ = some (.int .i64 hi) := (blk_cell c_v 1).trans rfl
      have c_v2 : w10.cell? ⟨w.heap.size + 1, 2, none⟩ = some (.int .i64 most) := (blk_cell c_v 2).trans rfl
      go_wp2_with fail
      refine (inG most 0 3 _).mono ?_
      rintro e w11 ⟨rfl, B11⟩
      clear c_v0 c_v1 c_v2 c_v
      obtain ⟨b2, hb2⟩ : ∃ b, (decide (0 ≤ most) && decide (most ≤ 3)) = b := ⟨_, rfl⟩
      rw [hb2]
      cases b2 with
      | false =>
       rw [meantR_range hE hb3 (by simp only [Bool.and_eq_false_iff, decide_eq_false_iff_not] at hb2; omega)] at hm
       obtain ⟨rfl, rfl, rfl⟩ : ([] : List Int) = m1 ∧ ([] : List Int) = m2 ∧ (3 : Int) = m3 := by cases hm; exact ⟨rfl, rfl, rfl⟩
       clear hm
       have c_v : w11.heap[w.heap.size + 1]? = some (.cells #[.int .i64 lo, .int .i64 hi, .int .i64 most] 77 (0, 0)) := (by repeat (first | exact Aside0.out (by assumption) | refine blk_below ?_ (Aside0.out (by assumption))))
       have c_v0 : w11.cell? ⟨w.heap.size + 1, 0, none⟩ = some (.int .i64 lo) := (blk_cell c_v 0).trans rfl
       have c_v1 : w11.cell? ⟨w.heap.size + 1, 1, none⟩ = some (.int .i64 hi) := (blk_cell c_v 1).trans rfl
       have c_v2 : w11.cell? ⟨w.heap.size + 1, 2, none⟩ = some (.int .i64 most) := (blk_cell c_v 2).trans rfl
       go_wp2_with fail
       refine (inG lo 0 1000 _).mono ?_
       rintro e w12 ⟨rfl, B12⟩
       clear c_v0 c_v1 c_v2 c_v
       obtain ⟨b4, hb4⟩ : ∃ b, (decide (0 ≤ lo) && decide (lo ≤ 1000)) = b := ⟨_, rfl⟩
       rw [hb4]
       cases b4 with
       | false =>
        rw [nearR_range hE hb3 hb4] at hn
        obtain ⟨rfl, rfl, rfl⟩ : ([] : List Int) = n1 ∧ (0 : Int) = n2 ∧ (3 : Int) = n3 := by cases hn; exact ⟨rfl, rfl, rfl⟩
        clear hn
        go_wp2_with fail
        refine (knownG _).mono ?_
        rintro e w13 ⟨rfl, B13⟩
        go_wp2_with fail
        go_ret
        exact ⟨rfl, (by repeat (first | exact Below.refl _ _ | refine below_from ?_ (Aside0.out (by assumption))))⟩
       | true =>
        rw [nearR_ok hE hb3 hb4] at hn
        obtain ⟨k1, k2, hk⟩ : ∃ a b, nearP l0 l1 word lo = (a, b) := ⟨_, _, rfl⟩
        rw [hk] at hn
        obtain ⟨rfl, rfl, rfl⟩ : k1 = n1 ∧ k2 = n2 ∧ (0 : Int) = n3 := by cases hn; exact ⟨rfl, rfl, rfl⟩
        clear hn
        have hlo : 0 ≤ lo := by simp only [Bool.and_eq_true, decide_eq_true_eq] at hb4; exact hb4.1
        have HLN : Aside0 (k1.length < 100000) := ⟨by have := nearP_small hE (word := word) (lo := lo) hl20 hlo; rw [hk] at this; exact this⟩
        have HK := Aside0.mk hk
        clear hk
        have c_t : w12.heap[w.heap.size]? = some (.cells #[.slice A0 l0.length c0, .slice A1 l1.length c1] 25 (0, 0)) := (by repeat (first | exact Aside0.out (by assumption) | refine blk_below ?_ (Aside0.out (by assumption))))
        have c_t0 : w12.cell? ⟨w.heap.size, 0, none⟩ = some (.slice A0 l0.length c0) := (blk_cell c_t 0).trans rfl
        have c_t1 : w12.cell? ⟨w.heap.size, 1, none⟩ = some (.slice A1 l1.length c1) := (blk_cell c_t 1).trans rfl
        have c_v : w12.heap[w.heap.size + 1]? = some (.cells #[.int .i64 lo, .int .i64 hi, .int .i64 most] 77 (0, 0)) := (by repeat (first | exact Aside0.out (by assumption) | refine blk_below ?_ (Aside0.out (by assumption))))
        have c_v0 : w12.cell? ⟨w.heap.size + 1, 0, none⟩ = some (.int .i64 lo) := (blk_cell c_v 0).trans rfl
        have c_v1 : w12.cell? ⟨w.heap.size + 1, 1, none⟩ = some (.int .i64 hi) := (blk_cell c_v 1).trans rfl
        have c_v2 : w12.cell? ⟨w.heap.size + 1, 2, none⟩ = some (.int .i64 most) := (blk_cell c_v 2).trans rfl
        go_wp2_with fail
        refine (neaRG A0 c0 l0 A1 c1 l1 word lo w12 ((by repeat (first | exact Aside0.out (by assumption) | refine TwC.below ?_ (Aside0.out (by assumption)))) : TwC _ A0 c0 l0 A1 c1 l1) hE (word_size10 hb3) hlo HK.out).mono ?_
        rintro e w13 ⟨R3, e3, rfl, M4, B13⟩
        clear c_t0 c_t1 c_t c_v0 c_v1 c_v2 c_v
        go_wp2_with fail
        refine (intsM R2 e2 R3 e3 k1 w13 (by repeat (first | exact Aside0.out (by assumption) | refine LC.below ?_ (Aside0.out (by assumption)))) (by repeat (first | exact Aside0.out (by assumption) | refine LC.below ?_ (Aside0.out (by assumption)))) HLN.out).mono ?_
        rintro e w14 ⟨rfl, B14⟩
        go_wp2_with fail
        refine (knownG _).mono ?_
        rintro e w15 ⟨rfl, B15⟩
        go_wp2_with fail
        go_ret
        exact ⟨rfl, (by repeat (first | exact Below.refl _ _ | refine below_from ?_ (Aside0.out (by assumption))))⟩
      | true =>
       have hrr : (0 ≤ lo ∧ lo ≤ hi) ∧ hi ≤ 1000 ∧ 0 ≤ most ∧ most ≤ 3 := by simp only [Bool.and_eq_true, decide_eq_true_eq] at hb1 hb2; omega
       rw [meantR_ok hE hb3 hrr] at hm
       have HRR := Aside0.mk hrr
       clear hrr
       obtain ⟨EV, hEV⟩ : ∃ x, everyP l0 l1 word lo hi most = x := ⟨_, rfl⟩
       obtain ⟨SV, hSV⟩ : ∃ x, someP l0 l1 word lo hi most = x := ⟨_, rfl⟩
       rw [hEV, hSV] at hm
       obtain ⟨rfl, rfl, rfl⟩ : numbersTo EV l0.length = m1 ∧ numbersTo SV l0.length = m2 ∧ (0 : Int) = m3 := by cases hm; exact ⟨rfl, rfl, rfl⟩
       clear hm
       have HEV := Aside0.mk hEV
       have HSV := Aside0.mk hSV
       clear hEV hSV
       obtain ⟨f1, hf1⟩ : ∃ x, numbersTo EV l0.length = x := ⟨_, rfl⟩
       obtain ⟨f2, hf2⟩ : ∃ x, numbersTo SV l0.length = x := ⟨_, rfl⟩
       rw [hf1] at M1 ⊢
       rw [hf2] at M2 ⊢
       have HF1 := Aside0.mk hf1
       have HF2 := Aside0.mk hf2
       have HL1 : Aside0 (f1.length < 100000) := ⟨by rw [← hf1]; have := numbersTo_len EV l0.length; omega⟩
       have HL2 : Aside0 (f2.length < 100000) := ⟨by rw [← hf2]; have := numbersTo_len SV l0.length; omega⟩
       clear hf1 hf2
       go_wp2_with fail
       have P12 : Aside0 (ApR ((w11.alloc (.cells #[] 3)).alloc (.cells #[] 3)) w11.heap.size (.slice (some ⟨w11.heap.size, 0, none⟩) 0 0) [] (.slice (some ⟨w11.heap.size + 1, 0, none⟩) 0 0) []) := ⟨ApR.start (Nat.le_refl _)⟩
       obtain ⟨w12, hw12⟩ : ∃ x, (w11.alloc (.cells #[] 3)).alloc (.cells #[] 3) = x := ⟨_, rfl⟩
       have B12 : Aside0 (Below w11.heap.size w11 w12) := ⟨by rw [← hw12]; exact below_alloc (below_alloc (Below.refl _ _) _) _⟩
       rw [hw12] at P12 ⊢
       clear hw12
       go_loopg [16, 17, 18, 19, 20] l0.length (fun gg s16 s17 s18 _ _ wr => ∃ kk : Nat, kk ≤ l0.length ∧ l0.length - kk ≤ gg ∧ s18 = .int .i64 kk ∧ Aside0 (ApR wr w11.heap.size s16 (numbersTo EV kk) s17 (numbersTo SV kk)) ∧ Aside0 (Below w11.heap.size w11 wr))
       case atStart => exact ⟨0, Nat.zero_le _, by omega, rfl, P12, B12⟩
       case round =>
        rename World => wr
        clear P12 B12
        obtain ⟨kk, hkk, hg, rfl, P2, BR⟩ := hrel
        by_cases hlt : kk < l0.length
        ·
         have hltz : (kk : Int) < (l0.length : Int) := by omega
         obtain ⟨b5, hb5⟩ : ∃ b, rdOf false EV (kk : Int) = b := ⟨_, rfl⟩
         obtain ⟨b6, hb6⟩ : ∃ b, rdOf false SV (kk : Int) = b := ⟨_, rfl⟩
         have H1 := numbersTo_succ EV kk
         have H2 := numbersTo_succ SV kk
         rw [hb5] at H1
         rw [hb6] at H2
         have HB5 := Aside0.mk hb5
         have HB6 := Aside0.mk hb6
         clear hb5 hb6
         have h1l := numbersTo_len EV kk
         have h2l := numbersTo_len SV kk
         have H1A := Aside0.mk H1
         have H2A := Aside0.mk H2
         clear H1 H2
         have c_t : wr.heap[w.heap.size]? = some (.cells #[.slice A0 l0.length c0, .slice A1 l1.length c1] 25 (0, 0)) := (by repeat (first | exact Aside0.out (by assumption) | refine blk_below ?_ (Aside0.out (by assumption))))
         have c_t0 : wr.cell? ⟨w.heap.size, 0, none⟩ = some (.slice A0 l0.length c0) := (blk_cell c_t 0).trans rfl
         have c_t1 : wr.cell? ⟨w.heap.size, 1, none⟩ = some (.slice A1 l1.length c1) := (blk_cell c_t 1).trans rfl
         have c_v : wr.heap[w.heap.size + 1]? = some (.cells #[.int .i64 lo, .int .i64 hi, .int .i64 most] 77 (0, 0)) := (by repeat (first | exact Aside0.out (by assumption) | refine blk_below ?_ (Aside0.out (by assumption))))
         have c_v0 : wr.cell? ⟨w.heap.size + 1, 0, none⟩ = some (.int .i64 lo) := (blk_cell c_v 0).trans rfl
         have c_v1 : wr.cell? ⟨w.heap.size + 1, 1, none⟩ = some (.int .i64 hi) := (blk_cell c_v 1).trans rfl
         have c_v2 : wr.cell? ⟨w.heap.size + 1, 2, none⟩ = some (.int .i64 most) := (blk_cell c_v 2).trans rfl
         go_wp2_with fail
         refine (meaRG A0 c0 l0 A1 c1 l1 word lo hi most wr ((by repeat (first | exact Aside0.out (by assumption) | refine TwC.below ?_ (Aside0.out (by assumption)))) : TwC _ A0 c0 l0 A1 c1 l1) hE (word_size10 hb3) ⟨HRR.out.1, HRR.out.2.1⟩ kk hlt (b1 := b5) (b2 := b6) (by rw [HEV.out]; exact HB5.out) (by rw [HSV.out]; exact HB6.out)).mono ?_
         rintro e w13 ⟨rfl, B13⟩
         clear c_t0 c_t1 c_t c_v0 c_v1 c_v2 c_v
         have HAP : Aside0 (ApR w13 w11.heap.size u16 (numbersTo EV kk) u17 (numbersTo SV kk)) := ⟨P2.out.below B13.out⟩
         clear P2
         cases b5 with
         | true =>
          cases b6 with
          | true =>
           have e1 := Aside0.mk (show numbersTo EV (kk + 1) = numbersTo EV kk ++ [(kk : Int)] from by rw [H1A.out, if_pos rfl])
           have e2 := Aside0.mk (show numbersTo SV (kk + 1) = numbersTo SV kk ++ [(kk : Int)] from by rw [H2A.out, if_pos rfl])
           clear H1A H2A
           go_wp2_with (first | (at_builtin; refine Kd.R_append (Kd.int .i64) (w0 := w11) (W := w13) w11.heap.size ?b1 (.tmp 121) (.tmp 123) 31 3 (.int .i64 0) 8 ?b2 Tryz.underlying31 info3 rfl (by decide) (by omega) u16 (numbersTo EV kk) (kk : Int) [.int .i64 (kk : Int)] (fun k => some k ≠ u17.ownBlock) (fun _ => False) ?b3 ?b4 ?aP (fun _ hk => hk.elim) ?aF ?aO ?aB ?aS ?aL ?_; (case b1 => rfl); (case b2 => rfl); (case b3 => rfl); (case b4 => rfl); (case aP => exact rfl); (case aB => exact (by repeat (first | exact Below.refl _ _ | refine below_from ?_ (Aside0.out (by assumption))))); (case aF => exact fun k hk => own_below HAP.out.b hk); (case aO => exact HAP.out.a); (case aS => exact Below.size (by repeat (first | exact Below.refl _ _ | refine below_from ?_ (Aside0.out (by assumption))))); (case aL => omega); intro v5 wp ho hb hgr hat; have Ewp := Aside0.mk hb; have Q5 := Aside0.mk (ApR.grow HAP.out hgr hat ho); clear ho hb hgr hat) | (at_builtin; refine Kd.R_append (Kd.int .i64) (w0 := w11) (W := wp) w11.heap.size ?b1 (.tmp 126) (.tmp 128) 31 3 (.int .i64 0) 8 ?b2 Tryz.underlying31 info3 rfl (by decide) (by omega) u17 (numbersTo SV kk) (kk : Int) [.int .i64 (kk : Int)] (fun k => some k ≠ v5.ownBlock) (fun _ => False) ?b3 ?b4 ?aP (fun _ hk => hk.elim) ?aF ?aO ?aB ?aS ?aL ?_; (case b1 => rfl); (case b2 => rfl); (case b3 => rfl); (case b4 => rfl); (case aP => exact rfl); (case aB => exact Ewp.out); (case aF => exact fun k hk => own_below Q5.out.a hk); (case aO => exact Q5.out.b); (case aS => exact Below.size Ewp.out); (case aL => omega); intro v6 wq ho hb hgr hat; have Ewq := Aside0.mk hb; have Q6 := Aside0.mk (ApR.grow Q5.out.symm hgr hat ho); clear ho hb hgr hat))
           go_roundg (l0.length - (kk + 1))
           case measure => omega
           case rel => exact ⟨kk + 1, by omega, by omega, by go_num, ⟨by rw [e1.out, e2.out]; exact Q6.out.symm⟩, Ewq⟩
          | false =>
           have e1 := Aside0.mk (show numbersTo EV (kk + 1) = numbersTo EV kk ++ [(kk : Int)] from by rw [H1A.out, if_pos rfl])
           have e2 := Aside0.mk (show numbersTo SV (kk + 1) = numbersTo SV kk from by rw [H2A.out, if_neg (by decide)])
           clear H1A H2A
           go_wp2_with (at_builtin; refine Kd.R_append (Kd.int .i64) (w0 := w11) (W := w13) w11.heap.size ?b1 (.tmp 121) (.tmp 123) 31 3 (.int .i64 0) 8 ?b2 Tryz.underlying31 info3 rfl (by decide) (by omega) u16 (numbersTo EV kk) (kk : Int) [.int .i64 (kk : Int)] (fun k => some k ≠ u17.ownBlock) (fun _ => False) ?b3 ?b4 ?aP (fun _ hk => hk.elim) ?aF ?aO ?aB ?aS ?aL ?_; (case b1 => rfl); (case b2 => rfl); (case b3 => rfl); (case b4 => rfl); (case aP => exact rfl); (case aB => exact (by repeat (first | exact Below.refl _ _ | refine below_from ?_ (Aside0.out (by assumption))))); (case aF => exact fun k hk => own_below HAP.out.b hk); (case aO => exact HAP.out.a); (case aS => exact Below.size (by repeat (first | exact Below.refl _ _ | refine below_from ?_ (Aside0.out (by assumption))))); (case aL => omega); intro v5 wp ho hb hgr hat; have Ewp := Aside0.mk hb; have Q5 := Aside0.mk (ApR.grow HAP.out hgr hat ho); clear ho hb hgr hat)
           go_roundg (l0.length - (kk + 1))
           case measure => omega
           case rel => exact ⟨kk + 1, by omega, by omega, by go_num, ⟨by rw [e1.out, e2.out]; exact Q5.out⟩, Ewp⟩
         | false =>
          cases b6 with
          | true =>
           have e1 := Aside0.mk (show numbersTo EV (kk + 1) = numbersTo EV kk from by rw [H1A.out, if_neg (by decide)])
           have e2 := Aside0.mk (show numbersTo SV (kk + 1) = numbersTo SV kk ++ [(kk : Int)] from by rw [H2A.out, if_pos rfl])
           clear H1A H2A
           go_wp2_with (at_builtin; refine Kd.R_append (Kd.int .i64) (w0 := w11) (W := w13) w11.heap.size ?b1 (.tmp 126) (.tmp 128) 31 3 (.int .i64 0) 8 ?b2 Tryz.underlying31 info3 rfl (by decide) (by omega) u17 (numbersTo SV kk) (kk : Int) [.int .i64 (kk : Int)] (fun k => some k ≠ u16.ownBlock) (fun _ => False) ?b3 ?b4 ?aP (fun _ hk => hk.elim) ?aF ?aO ?aB ?aS ?aL ?_; (case b1 => rfl); (case b2 => rfl); (case b3 => rfl); (case b4 => rfl); (case aP => exact rfl); (case aB => exact (by repeat (first | exact Below.refl _ _ | refine below_from ?_ (Aside0.out (by assumption))))); (case aF => exact fun k hk => own_below HAP.out.a hk); (case aO => exact HAP.out.b); (case aS => exact Below.size (by repeat (first | exact Below.refl _ _ | refine below_from ?_ (Aside0.out (by assumption))))); (case aL => omega); intro v6 wq ho hb hgr hat; have Ewq := Aside0.mk hb; have Q6 := Aside0.mk (ApR.grow HAP.out.symm hgr hat ho); clear ho hb hgr hat)
           go_roundg (l0.length - (kk + 1))
           case measure => omega
           case rel => exact ⟨kk + 1, by omega, by omega, by go_num, ⟨by rw [e1.out, e2.out]; exact Q6.out.symm⟩, Ewq⟩
          | false =>
           have e1 := Aside0.mk (show numbersTo EV (kk + 1) = numbersTo EV kk from by rw [H1A.out, if_neg (by decide)])
           have e2 := Aside0.mk (show numbersTo SV (kk + 1) = numbersTo SV kk from by rw [H2A.out, if_neg (by decide)])
           clear H1A H2A
           go_wp2_with fail
           go_roundg (l0.length - (kk + 1))
           case measure => omega
           case rel => exact ⟨kk + 1, by omega, by omega, by go_num, ⟨by rw [e1.out, e2.out]; exact HAP.out⟩, ⟨(by repeat (first | exact Below.refl _ _ | refine below_from ?_ (Aside0.out (by assumption))))⟩⟩
        have hltz : ¬ (kk : Int) < (l0.length : Int) := by omega
        obtain rfl : kk = l0.length := by omega
        rw [HF1.out, HF2.out] at P2
        obtain ⟨A7, c7, hs7, k7⟩ := LC.of (Kd.R_mono P2.out.a (fun _ _ => trivial))
        obtain ⟨A8, c8, hs8, k8⟩ := LC.of (Kd.R_mono P2.out.b (fun _ _ => trivial))
        subst hs7
        subst hs8
        have L7 : Aside0 (LC (Kd.int .i64) wr A7 c7 f1) := ⟨k7⟩
        have L8 : Aside0 (LC (Kd.int .i64) wr A8 c8 f2) := ⟨k8⟩
        clear P2 k7 k8
        have c_t : wr.heap[w.heap.size]? = some (.cells #[.slice A0 l0.length c0, .slice A1 l1.length c1] 25 (0, 0)) := (by repeat (first | exact Aside0.out (by assumption) | refine blk_below ?_ (Aside0.out (by assumption))))
        have c_t0 : wr.cell? ⟨w.heap.size, 0, none⟩ = some (.slice A0 l0.length c0) := (blk_cell c_t 0).trans rfl
        have c_t1 : wr.cell? ⟨w.heap.size, 1, none⟩ = some (.slice A1 l1.length c1) := (blk_cell c_t 1).trans rfl
        go_wp2_with fail
        refine (intsM R0 e0 A7 c7 f1 wr (by repeat (first | exact Aside0.out (by assumption) | refine LC.below ?_ (Aside0.out (by assumption)))) (by repeat (first | exact Aside0.out (by assumption) | refine LC.below ?_ (Aside0.out (by assumption)))) HL1.out).mono ?_
        rintro e w13 ⟨rfl, B13⟩
        clear c_t0 c_t1 c_t
        go_wp2_with fail
        refine (intsM R1 e1 A8 c8 f2 w13 (by repeat (first | exact Aside0.out (by assumption) | refine LC.below ?_ (Aside0.out (by assumption)))) (by repeat (first | exact Aside0.out (by assumption) | refine LC.below ?_ (Aside0.out (by assumption)))) HL2.out).mono ?_
        rintro e w14 ⟨rfl, B14⟩
        have c_v : w14.heap[w.heap.size + 1]? = some (.cells #[.int .i64 lo, .int .i64 hi, .int .i64 most] 77 (0, 0)) := (by repeat (first | exact Aside0.out (by assumption) | refine blk_below ?_ (Aside0.out (by assumption))))
        have c_v0 : w14.cell? ⟨w.heap.size + 1, 0, none⟩ = some (.int .i64 lo) := (blk_cell c_v 0).trans rfl
        have c_v1 : w14.cell? ⟨w.heap.size + 1, 1, none⟩ = some (.int .i64 hi) := (blk_cell c_v 1).trans rfl
        have c_v2 : w14.cell? ⟨w.heap.size + 1, 2, none⟩ = some (.int .i64 most) := (blk_cell c_v 2).trans rfl
        go_wp2_with fail
        refine (inG lo 0 1000 _).mono ?_
        rintro e w15 ⟨rfl, B15⟩
        clear c_v0 c_v1 c_v2 c_v
        obtain ⟨b4, hb4⟩ : ∃ b, (decide (0 ≤ lo) && decide (lo ≤ 1000)) = b := ⟨_, rfl⟩
        rw [hb4]
        cases b4 with
        | false =>
         rw [nearR_range hE hb3 hb4] at hn
         obtain ⟨rfl, rfl, rfl⟩ : ([] : List Int) = n1 ∧ (0 : Int) = n2 ∧ (3 : Int) = n3 := by cases hn; exact ⟨rfl, rfl, rfl⟩
         clear hn
         go_wp2_with fail
         refine (knownG _).mono ?_
         rintro e w16 ⟨rfl, B16⟩
         go_wp2_with fail
         go_ret
         exact ⟨rfl, (by repeat (first | exact Below.refl _ _ | refine below_from ?_ (Aside0.out (by assumption))))⟩
        | true =>
         rw [nearR_ok hE hb3 hb4] at hn
         obtain ⟨k1, k2, hk⟩ : ∃ a b, nearP l0 l1 word lo = (a, b) := ⟨_, _, rfl⟩
         rw [hk] at hn
         obtain ⟨rfl, rfl, rfl⟩ : k1 = n1 ∧ k2 = n2 ∧ (0 : Int) = n3 := by cases hn; exact ⟨rfl, rfl, rfl⟩
         clear hn
         have hlo : 0 ≤ lo := by simp only [Bool.and_eq_true, decide_eq_true_eq] at hb4; exact hb4.1
         have HLN : Aside0 (k1.length < 100000) := ⟨by have := nearP_small hE (word := word) (lo := lo) hl20 hlo; rw [hk] at this; exact this⟩
         have HK := Aside0.mk hk
         clear hk
         have c_t : w15.heap[w.heap.size]? = some (.cells #[.slice A0 l0.length c0, .slice A1 l1.length c1] 25 (0, 0)) := (by repeat (first | exact Aside0.out (by assumption) | refine blk_below ?_ (Aside0.out (by assumption))))
         have c_t0 : w15.cell? ⟨w.heap.size, 0, none⟩ = some (.slice A0 l0.length c0) := (blk_cell c_t 0).trans rfl
         have c_t1 : w15.cell? ⟨w.heap.size, 1, none⟩ = some (.slice A1 l1.length c1) := (blk_cell c_t 1).trans rfl
         have c_v : w15.heap[w.heap.size + 1]? = some (.cells #[.int .i64 lo, .int .i64 hi, .int .i64 most] 77 (0, 0)) := (by repeat (first | exact Aside0.out (by assumption) | refine blk_below ?_ (Aside0.out (by assumption))))
         have c_v0 : w15.cell? ⟨w.heap.size + 1, 0, none⟩ = some (.int .i64 lo) := (blk_cell c_v 0).trans rfl
         have c_v1 : w15.cell? ⟨w.heap.size + 1, 1, none⟩ = some (.int .i64 hi) := (blk_cell c_v 1).trans rfl
         have c_v2 : w15.cell? ⟨w.heap.size + 1, 2, none⟩ = some (.int .i64 most) := (blk_cell c_v 2).trans rfl
         go_wp2_with fail
         refine (neaRG A0 c0 l0 A1 c1 l1 word lo w15 ((by repeat (first | exact Aside0.out (by assumption) | refine TwC.below ?_ (Aside0.out (by assumption)))) : TwC _ A0 c0 l0 A1 c1 l1) hE (word_size10 hb3) hlo HK.out).mono ?_
         rintro e w16 ⟨R3, e3, rfl, M4, B16⟩
         clear c_t0 c_t1 c_t c_v0 c_v1 c_v2 c_v
         go_wp2_with fail
         refine (intsM R2 e2 R3 e3 k1 w16 (by repeat (first | exact Aside0.out (by assumption) | refine LC.below ?_ (Aside0.out (by assumption)))) (by repeat (first | exact Aside0.out (by assumption) | refine LC.below ?_ (Aside0.out (by assumption)))) HLN.out).mono ?_
         rintro e w17 ⟨rfl, B17⟩
         go_wp2_with fail
         refine (knownG _).mono ?_
         rintro e w18 ⟨rfl, B18⟩
         go_wp2_with fail
         go_ret
         exact ⟨rfl, (by repeat (first | exact Below.refl _ _ | refine below_from ?_ (Aside0.out (by assumption))))⟩
  ·
   have hq0 : (E == 0) = false := by simp [hE0]
   have hq1 : (E != 0) = true := by simp [hE0]
   rw [meantR_open hE hE0] at hm
   rw [nearR_open hE hE0] at hn
   obtain ⟨rfl, rfl, rfl⟩ : ([] : List Int) = m1 ∧ ([] : List Int) = m2 ∧ E = m3 := by cases hm; exact ⟨rfl, rfl, rfl⟩
   clear hm
   obtain ⟨rfl, rfl, rfl⟩ : ([] : List Int) = n1 ∧ (0 : Int) = n2 ∧ E = n3 := by cases hn; exact ⟨rfl, rfl, rfl⟩
   clear hn
   go_wp2_with fail
   refine (knownG _).mono ?_
   rintro e w9 ⟨rfl, B9⟩
   go_wp2_with fail
   go_ret
   exact ⟨rfl, (by repeat (first | exact Below.refl _ _ | refine below_from ?_ (Aside0.out (by assumption))))⟩
end Go.Proofs.YtdjlfdbnmnjccaaGreat.St
end
