/- A part of the proof of a law of this seat: lemmas that hold without conditions. -/
import Derived.Deep.DeepCutAuto
import Derived.Test.YtdjlfdbnmnjccaaGreatB32
set_option linter.all false
set_option linter.unusedSectionVars false
section
set_option linter.unusedVariables false
set_option linter.unusedSimpArgs false
namespace Go.Proofs.YtdjlfdbnmnjccaaGreat.St
open Go.RowKit Go.Shelf Go.Proofs.YtdjlfdbnmnjccaaGreatW.PrintWords Go.Proofs.YtdjlfdbnmnjccaaGreatW.PrintLast Go.Proofs.YtdjlfdbnmnjccaaGreatW.PrintMore
theorem copyR {A : Option Addr} {c : Nat} {l0 : List ByteArray} {A' : Option Addr} {c' : Nat} {l1 : List S60} (S : Small l0 l1) (w : World) (T : TwC w A c l0 A' c' l1) : Calls Tryz.prog 12 #[.agg #[.slice A l0.length c, .slice A' l1.length c']] w fun e w' =>
    ∃ B d B' d', e = .returned (.agg #[.slice B l0.length d, .slice B' l1.length d']) ∧ Aside0 (TwR w' w.heap.size B d l0 B' d' l1) ∧ Aside0 (Below w.heap.size w w') := by
  refine (smaltoref08_Copy.calls A c l0 A' c' l1 l0 l1 w T.f.kc T.f.kn T.g.kc T.g.kn (copy_self l0 l1 (by have := S.n0; omega) (by have := S.n1; omega))).mono ?_
  rintro e w' ⟨v0, v1, rfl, h0, h1, hb⟩
  obtain ⟨B, d, rfl⟩ := Kd.R_slice h0
  obtain ⟨B', d', rfl⟩ := Kd.R_slice h1
  exact ⟨B, d, B', d', rfl, ⟨⟨h0, h1⟩⟩, ⟨hb⟩⟩
section
variable {l0 : List ByteArray} {l1 : List S60}
theorem nameR_open {n hour E : Int} (h : openE l0 l1 = E) (h0 : E ≠ 0) : nameR l0 l1 n hour = (ByteArray.empty, E) := by subst h; unfold nameR; rw [if_pos h0]
theorem nameR_none {n hour : Int} (h : openE l0 l1 = 0) (hb : (decide (0 ≤ n) && decide (n ≤ (l0.length : Int) - 1)) = false) : nameR l0 l1 n hour = (ByteArray.empty, 7) := by unfold nameR; rw [if_neg (by simp [h]), if_pos hb]
theorem nameR_range {n hour : Int} (h : openE l0 l1 = 0) (hb : (decide (0 ≤ n) && decide (n ≤ (l0.length : Int) - 1)) = true) (hh : (decide (0 ≤ hour) && decide (hour ≤ 1000)) = false) : nameR l0 l1 n hour = (ByteArray.empty, 3) := by
  unfold nameR isHourB; rw [if_neg (by simp [h]), if_neg (by simp [hb]), if_pos hh]
theorem nameR_ok {n hour : Int} (h : openE l0 l1 = 0) (hb : (decide (0 ≤ n) && decide (n ≤ (l0.length : Int) - 1)) = true) (hh : (decide (0 ≤ hour) && decide (hour ≤ 1000)) = true) : nameR l0 l1 n hour = (calledP l0 l1 n hour, 0) := by
  unfold nameR isHourB; rw [if_neg (by simp [h]), if_neg (by simp [hb]), if_neg (by simp [hh])]
  simp at hb hh
  rw [pages_names h (by omega)]
  have e := namesP_rd l0 l1 hour n.toNat (by omega)
  rw [show ((n.toNat : Nat) : Int) = n by omega] at e
  rw [e]
def whoE (l0 : List ByteArray) (l1 : List S60) (name : ByteArray) (hour : Int) : Int :=
  if openE l0 l1 ≠ 0 then openE l0 l1 else if isNameB name = false then 4 else if (decide (0 ≤ hour) && decide (hour ≤ 1000)) = false then 3 else 0
theorem whoR_bad {name : ByteArray} {hour : Int} (h : whoE l0 l1 name hour ≠ 0) : whoR l0 l1 name hour = (0, whoE l0 l1 name hour) := by
  unfold whoR whoE isHourB at *
  split
  · rfl
  · split
    · rfl
    · split
      · rfl
      · rename_i h1 h2 h3
        rw [if_neg h1, if_neg h2, if_neg h3] at h
        exact absurd rfl h
theorem whoR_zero {name : ByteArray} {hour : Int} (h : whoE l0 l1 name hour = 0) : openE l0 l1 = 0 ∧ 0 ≤ hour := by
  unfold whoE at h
  split at h
  · rename_i h1; exact absurd h h1
  · rename_i h1
    split at h
    · cases h
    · split at h
      · cases h
      · rename_i h3
        simp at h3
        exact ⟨by simpa using h1, h3.1⟩
theorem whoR_some {name : ByteArray} {hour : Int} (h : whoE l0 l1 name hour = 0) (k : Nat) (hk : k < l0.length) (e : calledP l0 l1 k hour = name) (hn : ∀ j : Nat, j < k → calledP l0 l1 j hour ≠ name) : whoR l0 l1 name hour = ((k : Int), 0) := by
  obtain ⟨h0, hh⟩ := whoR_zero h
  have hi : nameIdx (namesAt (pagesOf l0 l1) hour) name = k := by
    rw [pages_names h0 hh]
    have := nameIdx_some name (namesP l0 l1 hour) 0 k (by rw [namesP_len]; exact hk) (by rw [namesP_at l0 l1 hour k hk]; exact e) (fun j hj => by rw [namesP_at l0 l1 hour j (by omega)]; exact hn j hj)
    unfold nameIdx
    rw [this]; omega
  unfold whoE at h
  unfold whoR isHourB
  split at h
  · rename_i h1; exact absurd h h1
  · rename_i h1
    split at h
    · cases h
    · rename_i h2
      split at h
      · cases h
      · rename_i h3
        rw [if_neg h1, if_neg h2, if_neg h3, hi, if_neg (by omega)]
theorem whoR_none {name : ByteArray} {hour : Int} (h : whoE l0 l1 name hour = 0) (hn : ∀ j : Nat, j < l0.length → calledP l0 l1 j hour ≠ name) : whoR l0 l1 name hour = (0, 7) := by
  obtain ⟨h0, hh⟩ := whoR_zero h
  have hi : nameIdx (namesAt (pagesOf l0 l1) hour) name = -1 := by
    rw [pages_names h0 hh]
    refine nameIdx_none _ _ (fun s hs => ?_)
    obtain ⟨j, hj, rfl⟩ := List.mem_iff_getElem.1 hs
    rw [namesP_len] at hj
    rw [namesP_at l0 l1 hour j hj]
    exact hn j hj
  unfold whoE at h
  unfold whoR isHourB
  split at h
  · rename_i h1; exact absurd h h1
  · rename_i h1
    split at h
    · cases h
    · rename_i h2
      split at h
      · cases h
      · rename_i h3
        rw [if_neg h1, if_neg h2, if_neg h3, hi, if_pos (by omega)]
end
end Go.Proofs.YtdjlfdbnmnjccaaGreat.St
end
section
set_option linter.unusedVariables false
set_option linter.unusedSimpArgs false
namespace Go.Proofs.YtdjlfdbnmnjccaaGreat.St
open Go.RowKit Go.Shelf Go.Proofs.YtdjlfdbnmnjccaaGreatW.PrintWords Go.Proofs.YtdjlfdbnmnjccaaGreatW.PrintLast Go.Proofs.YtdjlfdbnmnjccaaGreatW.PrintMore
set_option maxHeartbeats 8000000 in
set_option maxRecDepth 100000 in
theorem names_walk (A0 : Option Addr) (c0 : Nat) (l0 : List ByteArray) (A1 : Option Addr) (c1 : Nat) (l1 : List S60) (name : ByteArray) (n hour : Int) (w : World) (T : TwC w A0 c0 l0 A1 c1 l1) :
    Calls Tryz.prog 4 #[.agg #[.slice A0 l0.length c0, .slice A1 l1.length c1], .string name, .agg #[.int .i64 n, .int .i64 hour]] w fun e w' => e = .returned (.bool true) ∧ Below w.heap.size w w' := by
  have T0 := Aside0.mk T
  clear T
  go_enter Tryz.func4, Tryz.ntmps4
  go_wp2_with fail
  obtain ⟨w1, hw1⟩ : ∃ x, ((w.alloc (.cells #[.slice A0 l0.length c0, .slice A1 l1.length c1] 25)).alloc (.cells #[.int .i64 n, .int .i64 hour] 39)).alloc (.cells #[.string name] 9) = x := ⟨_, rfl⟩
  have B1 : Aside0 (Below w.heap.size w w1) := ⟨by rw [← hw1]; exact below_alloc (below_alloc (below_alloc (Below.refl _ _) _) _) _⟩
  have X1 : Aside0 (w1.heap[w.heap.size]? = some (.cells #[.slice A0 l0.length c0, .slice A1 l1.length c1] 25 (0, 0))) := ⟨by rw [← hw1]; exact blk_alloc (blk_alloc (blk_new w _) _) _⟩
  have Y1 : Aside0 (w1.heap[w.heap.size + 1]? = some (.cells #[.int .i64 n, .int .i64 hour] 39 (0, 0))) := ⟨by rw [← hw1]; refine blk_alloc ?_ _; have := blk_new (w.alloc (.cells #[.slice A0 l0.length c0, .slice A1 l1.length c1] 25)) (.cells #[.int .i64 n, .int .i64 hour] 39); rwa [World.size_alloc] at this⟩
  have N1 : Aside0 (LC Kd.string w1 (some ⟨w.heap.size + 1 + 1, 0, none⟩) 1 [name]) := ⟨by rw [← hw1]; exact LC.one name 9 (by rw [World.size_alloc, World.size_alloc])⟩
  rw [hw1]
  clear hw1
  obtain ⟨b, HLG, HB⟩ := longG (T0.out.below B1.out) N1.out
  refine (HLG).mono ?_
  rintro e w2 ⟨rfl, B2⟩
  cases b with
  | true =>
    go_wp2_with fail
    refine (knownG _).mono ?_
    rintro e w3 ⟨rfl, B3⟩
    go_wp2_with fail
    go_ret
    exact ⟨rfl, (by repeat (first | exact Below.refl _ _ | refine below_from ?_ (Aside0.out (by assumption))))⟩
  | false =>
    obtain ⟨S, hs⟩ := HB rfl
    have hs40 := hs name (List.mem_cons_self ..)
    have hl20 := S.n0
    clear HB HLG hs
    have T2 := Aside0.mk ((T0.out.below B1.out).below B2.out)
    have X2 := Aside0.mk (blk_below X1.out B2.out)
    have Y2 := Aside0.mk (blk_below Y1.out B2.out)
    clear N1
    go_upto_region 3 with fail
    go_cut [7, 8, 9] (fun v7 v8 v9 wc => ∃ (g : Nat) (B : Option Addr) (d : Nat) (B' : Option Addr) (d' : Nat), v7 = .pointer (some ⟨g, 0, none⟩) ∧ v8 = .int .i64 n ∧ v9 = .int .i64 hour ∧ Aside0 (wc.heap[g]? = some (.cells #[.slice B l0.length d, .slice B' l1.length d'] 25 (0, 0))) ∧ Aside0 (TwC wc B d l0 B' d' l1) ∧ Aside0 (Below w2.heap.size w2 wc))
    case first =>
      have c_t : w2.heap[w.heap.size]? = some (.cells #[.slice A0 l0.length c0, .slice A1 l1.length c1] 25 (0, 0)) := (by repeat (first | exact Aside0.out (by assumption) | refine blk_below ?_ (Aside0.out (by assumption))))
      have c_t0 : w2.cell? ⟨w.heap.size, 0, none⟩ = some (.slice A0 l0.length c0) := (blk_cell c_t 0).trans rfl
      have c_t1 : w2.cell? ⟨w.heap.size, 1, none⟩ = some (.slice A1 l1.length c1) := (blk_cell c_t 1).trans rfl
      have c_v : w2.heap[w.heap.size + 1]? = some (.cells #[.int .i64 n, .int .i64 hour] 39 (0, 0)) := (by repeat (first | exact Aside0.out (by assumption) | refine blk_below ?_ (Aside0.out (by assumption))))
      have c_v0 : w2.cell? ⟨w.heap.size + 1, 0, none⟩ = some (.int .i64 n) := (blk_cell c_v 0).trans rfl
      have c_v1 : w2.cell? ⟨w.heap.size + 1, 1, none⟩ = some (.int .i64 hour) := (blk_cell c_v 1).trans rfl
      have e0 := World.new_ne w2 _ c_t0
      have e1 := World.new_ne w2 _ c_t1
      have e2 := World.new_ne w2 _ c_v0
      have e3 := World.new_ne w2 _ c_v1
      go_region_held3 (fun w' => (w'.cell? ⟨w.heap.size, 0, none⟩ = some (.slice A0 l0.length c0) ∧ w'.cell? ⟨w.heap.size, 1, none⟩ = some (.slice A1 l1.length c1)) ∧ w'.cell? ⟨w.heap.size + 1, 0, none⟩ = some (.int .i64 n) ∧ w'.cell? ⟨w.heap.size + 1, 1, none⟩ = some (.int .i64 hour)) (go_keep) ((go_at_call 12; refine (copyR S _ ?tw).mono ?_; (case tw => first | exact T2.out.below (below_drew (Below.refl _ _)) | exact T2.out.below (below_alloc (below_drew (Below.refl _ _)) _)); rintro e w3 ⟨B, d, B', d', rfl, T3, B3⟩; have Bx : Aside0 (Below w2.heap.size w2 w3) := ⟨below_from (by first | exact below_drew (Below.refl _ _) | exact below_alloc (below_drew (Below.refl _ _)) _) B3.out⟩; obtain ⟨x0, x1, xl⟩ := blk2 (blk_below X2.out Bx.out); obtain ⟨y0, y1, yl⟩ := blk2 (blk_below Y2.out Bx.out); have f0 := World.new_ne w3 _ x0; have f1 := World.new_ne w3 _ x1; have f2 := World.new_ne w3 _ y0; have f3 := World.new_ne w3 _ y1; (try (have hz : w3.heap[w2.heap.size]? = some (.cells #[.slice none 0 0, .slice none 0 0] 25 (0, 0)) := blk_below (blk_new w2.drew _) B3.out; have n0 := blk_frozen hz 0; have n1 := blk_frozen hz 1; obtain ⟨m0, m1, ml⟩ := blk2 hz))))
      · go_wp2_with fail
        go_meet
        case rel => exact ⟨w3.heap.size, B, d, B', d', rfl, rfl, rfl, ⟨blk_new w3 _⟩, ⟨T3.out.tw.below (below_alloc (Below.refl _ _) _)⟩, ⟨below_alloc Bx.out _⟩⟩
      · go_wp2_with fail
        go_meet
        case rel => exact ⟨w2.heap.size, B, d, B', d', rfl, rfl, rfl, ⟨blk_put (blk_put hz 0 _ rfl) 1 _ rfl⟩, ⟨(T3.out.set2 hz _ _).tw⟩, ⟨below_set (below_set Bx.out (Nat.le_refl _)) (Nat.le_refl _)⟩⟩
    case rest =>
      obtain ⟨g, B, d, B', d', rfl, rfl, rfl, X3, T3, B3⟩ := hcut
      obtain ⟨s1, e1, hr1⟩ : ∃ s e, nameR l0 l1 n hour = (s, e) := ⟨_, _, rfl⟩
      obtain ⟨i2, e2, hr2⟩ : ∃ i e, whoR l0 l1 name hour = (i, e) := ⟨_, _, rfl⟩
      have n1 := Aside0.mk (nameG wc T3.out n hour)
      rw [hr1] at n1
      have c_x : wc.heap[g]? = some (.cells #[.slice B l0.length d, .slice B' l1.length d'] 25 (0, 0)) := (by repeat (first | exact Aside0.out (by assumption) | refine blk_below ?_ (Aside0.out (by assumption))))
      have c_x0 : wc.cell? ⟨g, 0, none⟩ = some (.slice B l0.length d) := (blk_cell c_x 0).trans rfl
      have c_x1 : wc.cell? ⟨g, 1, none⟩ = some (.slice B' l1.length d') := (blk_cell c_x 1).trans rfl
      have c_t : wc.heap[w.heap.size]? = some (.cells #[.slice A0 l0.length c0, .slice A1 l1.length c1] 25 (0, 0)) := (by repeat (first | exact Aside0.out (by assumption) | refine blk_below ?_ (Aside0.out (by assumption))))
      have c_t0 : wc.cell? ⟨w.heap.size, 0, none⟩ = some (.slice A0 l0.length c0) := (blk_cell c_t 0).trans rfl
      have c_t1 : wc.cell? ⟨w.heap.size, 1, none⟩ = some (.slice A1 l1.length c1) := (blk_cell c_t 1).trans rfl
      go_wp2_with fail
      refine (n1.out).mono ?_
      rintro e w4 ⟨rfl, B4⟩
      clear c_x0 c_x1 c_x c_t0 c_t1 c_t
      clear n1
      have n2 := Aside0.mk (whoG w4 (by repeat (first | exact Aside0.out (by assumption) | refine TwC.below ?_ (Aside0.out (by assumption)))) name hour : Calls _ _ #[.agg #[.slice B l0.length d, .slice B' l1.length d'], .string name, .int .i64 hour] w4 _)
      rw [hr2] at n2
      have c_x : w4.heap[g]? = some (.cells #[.slice B l0.length d, .slice B' l1.length d'] 25 (0, 0)) := (by repeat (first | exact Aside0.out (by assumption) | refine blk_below ?_ (Aside0.out (by assumption))))
      have c_x0 : w4.cell? ⟨g, 0, none⟩ = some (.slice B l0.length d) := (blk_cell c_x 0).trans rfl
      have c_x1 : w4.cell? ⟨g, 1, none⟩ = some (.slice B' l1.length d') := (blk_cell c_x 1).trans rfl
      have c_t : w4.heap[w.heap.size]? = some (.cells #[.slice A0 l0.length c0, .slice A1 l1.length c1] 25 (0, 0)) := (by repeat (first | exact Aside0.out (by assumption) | refine blk_below ?_ (Aside0.out (by assumption))))
      have c_t0 : w4.cell? ⟨w.heap.size, 0, none⟩ = some (.slice A0 l0.length c0) := (blk_cell c_t 0).trans rfl
      have c_t1 : w4.cell? ⟨w.heap.size, 1, none⟩ = some (.slice A1 l1.length c1) := (blk_cell c_t 1).trans rfl
      go_wp2_with fail
      refine (n2.out).mono ?_
      rintro e w5 ⟨rfl, B5⟩
      clear c_x0 c_x1 c_x c_t0 c_t1 c_t
      clear n2
      have c_x : w5.heap[g]? = some (.cells #[.slice B l0.length d, .slice B' l1.length d'] 25 (0, 0)) := (by repeat (first | exact Aside0.out (by assumption) | refine blk_below ?_ (Aside0.out (by assumption))))
      have c_x0 : w5.cell? ⟨g, 0, none⟩ = some (.slice B l0.length d) := (blk_cell c_x 0).trans rfl
      have c_x1 : w5.cell? ⟨g, 1, none⟩ = some (.slice B' l1.length d') := (blk_cell c_x 1).trans rfl
      have c_t : w5.heap[w.heap.size]? = some (.cells #[.slice A0 l0.length c0, .slice A1 l1.length c1] 25 (0, 0)) := (by repeat (first | exact Aside0.out (by assumption) | refine blk_below ?_ (Aside0.out (by assumption))))
      have c_t0 : w5.cell? ⟨w.heap.size, 0, none⟩ = some (.slice A0 l0.length c0) := (blk_cell c_t 0).trans rfl
      have c_t1 : w5.cell? ⟨w.heap.size, 1, none⟩ = some (.slice A1 l1.length c1) := (blk_cell c_t 1).trans rfl
      go_wp2_with fail
      refine (sameG S w5 (by repeat (first | exact Aside0.out (by assumption) | refine TwC.below ?_ (Aside0.out (by assumption)))) (by repeat (first | exact Aside0.out (by assumption) | refine TwC.below ?_ (Aside0.out (by assumption))))).mono ?_
      rintro e w6 ⟨rfl, B6⟩
      clear c_x0 c_x1 c_x c_t0 c_t1 c_t
      have c_t : w6.heap[w.heap.size]? = some (.cells #[.slice A0 l0.length c0, .slice A1 l1.length c1] 25 (0, 0)) := (by repeat (first | exact Aside0.out (by assumption) | refine blk_below ?_ (Aside0.out (by assumption))))
      have c_t0 : w6.cell? ⟨w.heap.size, 0, none⟩ = some (.slice A0 l0.length c0) := (blk_cell c_t 0).trans rfl
      have c_t1 : w6.cell? ⟨w.heap.size, 1, none⟩ = some (.slice A1 l1.length c1) := (blk_cell c_t 1).trans rfl
      go_wp2_with fail
      refine (openG S w6 (by repeat (first | exact Aside0.out (by assumption) | refine TwC.below ?_ (Aside0.out (by assumption))))).mono ?_
      rintro e w7 ⟨rfl, B7⟩
      clear c_t0 c_t1 c_t
      have c_t : w7.heap[w.heap.size]? = some (.cells #[.slice A0 l0.length c0, .slice A1 l1.length c1] 25 (0, 0)) := (by repeat (first | exact Aside0.out (by assumption) | refine blk_below ?_ (Aside0.out (by assumption))))
      have c_t0 : w7.cell? ⟨w.heap.size, 0, none⟩ = some (.slice A0 l0.length c0) := (blk_cell c_t 0).trans rfl
      have c_t1 : w7.cell? ⟨w.heap.size, 1, none⟩ = some (.slice A1 l1.length c1) := (blk_cell c_t 1).trans rfl
      obtain ⟨E, hE⟩ : ∃ E, openE l0 l1 = E := ⟨_, rfl⟩
      rw [hE]
      by_cases hE0 : E = 0
      · subst hE0
        go_wp2_with fail
        refine (inG n 0 ((l0.length : Int) - 1) _).mono ?_
        rintro e w8 ⟨rfl, B8⟩
        clear c_t0 c_t1 c_t
        obtain ⟨b1, hb1⟩ : ∃ b, (decide (0 ≤ n) && decide (n ≤ (l0.length : Int) - 1)) = b := ⟨_, rfl⟩
        rw [hb1]
        cases b1 with
        | false =>
          rw [nameR_none hE hb1] at hr1
          cases hr1
          go_wp2_with fail
          refine (isNameG name hs40 _).mono ?_
          rintro e w9 ⟨rfl, B9⟩
          obtain ⟨b3, hb3⟩ : ∃ b, isNameB name = b := ⟨_, rfl⟩
          rw [hb3]
          cases b3 with
          | false =>
            have hW : whoE l0 l1 name hour = 4 := by unfold whoE; rw [if_neg (by simp [hE]), if_pos hb3]
            rw [whoR_bad (by rw [hW]; decide), hW] at hr2
            obtain ⟨rfl, rfl⟩ : (0 : Int) = i2 ∧ (4 : Int) = e2 := by cases hr2; exact ⟨rfl, rfl⟩
            go_wp2_with fail
            go_loopg [6, 16] 1 (fun gg _ s16 wr => s16 = .int .i64 0 ∧ Aside0 (Below w9.heap.size w9 wr))
            case atStart => exact ⟨rfl, ⟨Below.refl _ _⟩⟩
            case round =>
              obtain ⟨rfl, BR⟩ := hrel
              by_cases hlen : (0 : Int) < (l0.length : Int)
              · skip
                have c_t : wr.heap[w.heap.size]? = some (.cells #[.slice A0 l0.length c0, .slice A1 l1.length c1] 25 (0, 0)) := (by repeat (first | exact Aside0.out (by assumption) | refine blk_below ?_ (Aside0.out (by assumption))))
                have c_t0 : wr.cell? ⟨w.heap.size, 0, none⟩ = some (.slice A0 l0.length c0) := (blk_cell c_t 0).trans rfl
                have c_t1 : wr.cell? ⟨w.heap.size, 1, none⟩ = some (.slice A1 l1.length c1) := (blk_cell c_t 1).trans rfl
                go_wp2_with fail
                refine (knownG _).mono ?_
                rintro e w10 ⟨rfl, B10⟩
                clear c_t0 c_t1 c_t
                go_wp2_with fail
                go_ret
                exact ⟨rfl, (by repeat (first | exact Below.refl _ _ | refine below_from ?_ (Aside0.out (by assumption))))⟩
              · skip
                have c_t : wr.heap[w.heap.size]? = some (.cells #[.slice A0 l0.length c0, .slice A1 l1.length c1] 25 (0, 0)) := (by repeat (first | exact Aside0.out (by assumption) | refine blk_below ?_ (Aside0.out (by assumption))))
                have c_t0 : wr.cell? ⟨w.heap.size, 0, none⟩ = some (.slice A0 l0.length c0) := (blk_cell c_t 0).trans rfl
                have c_t1 : wr.cell? ⟨w.heap.size, 1, none⟩ = some (.slice A1 l1.length c1) := (blk_cell c_t 1).trans rfl
                go_wp2_with fail
                refine (knownG _).mono ?_
                rintro e w10 ⟨rfl, B10⟩
                clear c_t0 c_t1 c_t
                go_wp2_with fail
                go_ret
                exact ⟨rfl, (by repeat (first | exact Below.refl _ _ | refine below_from ?_ (Aside0.out (by assumption))))⟩
          | true =>
            go_wp2_with fail
            refine (inG hour 0 1000 _).mono ?_
            rintro e w10 ⟨rfl, B10⟩
            obtain ⟨b2, hb2⟩ : ∃ b, (decide (0 ≤ hour) && decide (hour ≤ 1000)) = b := ⟨_, rfl⟩
            rw [hb2]
            cases b2 with
            | false =>
              have hW : whoE l0 l1 name hour = 3 := by unfold whoE; rw [if_neg (by simp [hE]), if_neg (by simp [hb3]), if_pos hb2]
              rw [whoR_bad (by rw [hW]; decide), hW] at hr2
              obtain ⟨rfl, rfl⟩ : (0 : Int) = i2 ∧ (3 : Int) = e2 := by cases hr2; exact ⟨rfl, rfl⟩
              go_wp2_with fail
              go_loopg [6, 16] 1 (fun gg _ s16 wr => s16 = .int .i64 0 ∧ Aside0 (Below w10.heap.size w10 wr))
              case atStart => exact ⟨rfl, ⟨Below.refl _ _⟩⟩
              case round =>
                obtain ⟨rfl, BR⟩ := hrel
                by_cases hlen : (0 : Int) < (l0.length : Int)
                · skip
                  have c_t : wr.heap[w.heap.size]? = some (.cells #[.slice A0 l0.length c0, .slice A1 l1.length c1] 25 (0, 0)) := (by repeat (first | exact Aside0.out (by assumption) | refine blk_below ?_ (Aside0.out (by assumption))))
                  have c_t0 : wr.cell? ⟨w.heap.size, 0, none⟩ = some (.slice A0 l0.length c0) := (blk_cell c_t 0).trans rfl
                  have c_t1 : wr.cell? ⟨w.heap.size, 1, none⟩ = some (.slice A1 l1.length c1) := (blk_cell c_t 1).trans rfl
                  go_wp2_with fail
                  refine (knownG _).mono ?_
                  rintro e w11 ⟨rfl, B11⟩
                  clear c_t0 c_t1 c_t
                  go_wp2_with fail
                  go_ret
                  exact ⟨rfl, (by repeat (first | exact Below.refl _ _ | refine below_from ?_ (Aside0.out (by assumption))))⟩
                · skip
                  have c_t : wr.heap[w.heap.size]? = some (.cells #[.slice A0 l0.length c0, .slice A1 l1.length c1] 25 (0, 0)) := (by repeat (first | exact Aside0.out (by assumption) | refine blk_below ?_ (Aside0.out (by assumption))))
                  have c_t0 : wr.cell? ⟨w.heap.size, 0, none⟩ = some (.slice A0 l0.length c0) := (blk_cell c_t 0).trans rfl
                  have c_t1 : wr.cell? ⟨w.heap.size, 1, none⟩ = some (.slice A1 l1.length c1) := (blk_cell c_t 1).trans rfl
                  go_wp2_with fail
                  refine (knownG _).mono ?_
                  rintro e w11 ⟨rfl, B11⟩
                  clear c_t0 c_t1 c_t
                  go_wp2_with fail
                  go_ret
                  exact ⟨rfl, (by repeat (first | exact Below.refl _ _ | refine below_from ?_ (Aside0.out (by assumption))))⟩
            | true =>
              have hW : whoE l0 l1 name hour = 0 := by unfold whoE; rw [if_neg (by simp [hE]), if_neg (by simp [hb3]), if_neg (by simp [hb2])]
              have hlen := (check_ok (open_zero hE).1).1
              go_wp2_with fail
              go_loopg [6, 16] l0.length (fun gg _ s16 wr => ∃ kk : Nat, kk ≤ l0.length ∧ l0.length - kk ≤ gg ∧ s16 = .int .i64 kk ∧ Aside0 (∀ j : Nat, j < kk → calledP l0 l1 j hour ≠ name) ∧ Aside0 (Below w10.heap.size w10 wr))
              case atStart => exact ⟨0, Nat.zero_le _, by omega, rfl, ⟨fun j hj => absurd hj (Nat.not_lt_zero _)⟩, ⟨Below.refl _ _⟩⟩
              case round =>
                obtain ⟨kk, hkk, hg, rfl, HN, BR⟩ := hrel
                by_cases hlt : kk < l0.length
                · have hltz : (kk : Int) < (l0.length : Int) := by omega
                  obtain ⟨s3, hs3⟩ : ∃ s, calledP l0 l1 (kk : Int) hour = s := ⟨_, rfl⟩
                  have n4 := Aside0.mk (calledG S wr ((by repeat (first | exact Aside0.out (by assumption) | refine TwC.below ?_ (Aside0.out (by assumption)))) : TwC _ A0 c0 l0 A1 c1 l1) (kk : Int) (by omega) hltz hour)
                  rw [hs3] at n4
                  have c_t : wr.heap[w.heap.size]? = some (.cells #[.slice A0 l0.length c0, .slice A1 l1.length c1] 25 (0, 0)) := (by repeat (first | exact Aside0.out (by assumption) | refine blk_below ?_ (Aside0.out (by assumption))))
                  have c_t0 : wr.cell? ⟨w.heap.size, 0, none⟩ = some (.slice A0 l0.length c0) := (blk_cell c_t 0).trans rfl
                  have c_t1 : wr.cell? ⟨w.heap.size, 1, none⟩ = some (.slice A1 l1.length c1) := (blk_cell c_t 1).trans rfl
                  go_wp2_with fail
                  refine (n4.out).mono ?_
                  rintro e w11 ⟨rfl, B11⟩
                  clear c_t0 c_t1 c_t
                  clear n4
                  by_cases hq : s3 = name
                  · subst hq
                    rw [whoR_some hW kk hlt hs3 HN.out] at hr2
                    cases hr2
                    go_wp2_with fail
                    refine (knownG _).mono ?_
                    rintro e w12 ⟨rfl, B12⟩
                    go_wp2_with fail
                    go_ret
                    exact ⟨rfl, (by repeat (first | exact Below.refl _ _ | refine below_from ?_ (Aside0.out (by assumption))))⟩
                  · have hq1 : (s3.toList == name.toList) = false := beq_eq_false_iff_ne.2 (fun h => hq (by rw [Go.ByteArray.toList_eq, Go.ByteArray.toList_eq] at h; exact ByteArray.ext (Array.toList_inj.1 h)))
                    go_wp2_with fail
                    go_roundg (l0.length - (kk + 1))
                    case measure => omega
                    case rel => exact ⟨kk + 1, by omega, by omega, by go_num, ⟨fun j hj => if h : j < kk then HN.out j h else by obtain rfl : j = kk := (by omega); rw [hs3]; exact hq⟩, ⟨(by repeat (first | exact Below.refl _ _ | refine below_from ?_ (Aside0.out (by assumption))))⟩⟩
                · have hltz : ¬ (kk : Int) < (l0.length : Int) := by omega
                  obtain rfl : kk = l0.length := by omega
                  rw [whoR_none hW HN.out] at hr2
                  cases hr2
                  have c_t : wr.heap[w.heap.size]? = some (.cells #[.slice A0 l0.length c0, .slice A1 l1.length c1] 25 (0, 0)) := (by repeat (first | exact Aside0.out (by assumption) | refine blk_below ?_ (Aside0.out (by assumption))))
                  have c_t0 : wr.cell? ⟨w.heap.size, 0, none⟩ = some (.slice A0 l0.length c0) := (blk_cell c_t 0).trans rfl
                  have c_t1 : wr.cell? ⟨w.heap.size, 1, none⟩ = some (.slice A1 l1.length c1) := (blk_cell c_t 1).trans rfl
                  go_wp2_with fail
                  refine (knownG _).mono ?_
                  rintro e w11 ⟨rfl, B11⟩
                  clear c_t0 c_t1 c_t
                  go_wp2_with fail
                  go_ret
                  exact ⟨rfl, (by repeat (first | exact Below.refl _ _ | refine below_from ?_ (Aside0.out (by assumption))))⟩
        | true =>
          go_wp2_with fail
          refine (inG hour 0 1000 _).mono ?_
          rintro e w9 ⟨rfl, B9⟩
          obtain ⟨b2, hb2⟩ : ∃ b, (decide (0 ≤ hour) && decide (hour ≤ 1000)) = b := ⟨_, rfl⟩
          rw [hb2]
          cases b2 with
          | false =>
            rw [nameR_range hE hb1 hb2] at hr1
            cases hr1
            go_wp2_with fail
            refine (isNameG name hs40 _).mono ?_
            rintro e w10 ⟨rfl, B10⟩
            obtain ⟨b3, hb3⟩ : ∃ b, isNameB name = b := ⟨_, rfl⟩
            rw [hb3]
            cases b3 with
            | false =>
              have hW : whoE l0 l1 name hour = 4 := by unfold whoE; rw [if_neg (by simp [hE]), if_pos hb3]
              rw [whoR_bad (by rw [hW]; decide), hW] at hr2
              obtain ⟨rfl, rfl⟩ : (0 : Int) = i2 ∧ (4 : Int) = e2 := by cases hr2; exact ⟨rfl, rfl⟩
              go_wp2_with fail
              go_loopg [6, 16] 1 (fun gg _ s16 wr => s16 = .int .i64 0 ∧ Aside0 (Below w10.heap.size w10 wr))
              case atStart => exact ⟨rfl, ⟨Below.refl _ _⟩⟩
              case round =>
                obtain ⟨rfl, BR⟩ := hrel
                by_cases hlen : (0 : Int) < (l0.length : Int)
                · skip
                  have c_t : wr.heap[w.heap.size]? = some (.cells #[.slice A0 l0.length c0, .slice A1 l1.length c1] 25 (0, 0)) := (by repeat (first | exact Aside0.out (by assumption) | refine blk_below ?_ (Aside0.out (by assumption))))
                  have c_t0 : wr.cell? ⟨w.heap.size, 0, none⟩ = some (.slice A0 l0.length c0) := (blk_cell c_t 0).trans rfl
                  have c_t1 : wr.cell? ⟨w.heap.size, 1, none⟩ = some (.slice A1 l1.length c1) := (blk_cell c_t 1).trans rfl
                  go_wp2_with fail
                  refine (knownG _).mono ?_
                  rintro e w11 ⟨rfl, B11⟩
                  clear c_t0 c_t1 c_t
                  go_wp2_with fail
                  go_ret
                  exact ⟨rfl, (by repeat (first | exact Below.refl _ _ | refine below_from ?_ (Aside0.out (by assumption))))⟩
                · skip
                  have c_t : wr.heap[w.heap.size]? = some (.cells #[.slice A0 l0.length c0, .slice A1 l1.length c1] 25 (0, 0)) := (by repeat (first | exact Aside0.out (by assumption) | refine blk_below ?_ (Aside0.out (by assumption))))
                  have c_t0 : wr.cell? ⟨w.heap.size, 0, none⟩ = some (.slice A0 l0.length c0) := (blk_cell c_t 0).trans rfl
                  have c_t1 : wr.cell? ⟨w.heap.size, 1, none⟩ = some (.slice A1 l1.length c1) := (blk_cell c_t 1).trans rfl
                  go_wp2_with fail
                  refine (knownG _).mono ?_
                  rintro e w11 ⟨rfl, B11⟩
                  clear c_t0 c_t1 c_t
                  go_wp2_with fail
                  go_ret
                  exact ⟨rfl, (by repeat (first | exact Below.refl _ _ | refine below_from ?_ (Aside0.out (by assumption))))⟩
            | true =>
              go_wp2_with fail
              refine (inG hour 0 1000 _).mono ?_
              rintro e w11 ⟨rfl, B11⟩
              rw [hb2]
              have hW : whoE l0 l1 name hour = 3 := by unfold whoE; rw [if_neg (by simp [hE]), if_neg (by simp [hb3]), if_pos hb2]
              rw [whoR_bad (by rw [hW]; decide), hW] at hr2
              obtain ⟨rfl, rfl⟩ : (0 : Int) = i2 ∧ (3 : Int) = e2 := by cases hr2; exact ⟨rfl, rfl⟩
              go_wp2_with fail
              go_loopg [6, 16] 1 (fun gg _ s16 wr => s16 = .int .i64 0 ∧ Aside0 (Below w11.heap.size w11 wr))
              case atStart => exact ⟨rfl, ⟨Below.refl _ _⟩⟩
              case round =>
                obtain ⟨rfl, BR⟩ := hrel
                by_cases hlen : (0 : Int) < (l0.length : Int)
                · skip
                  have c_t : wr.heap[w.heap.size]? = some (.cells #[.slice A0 l0.length c0, .slice A1 l1.length c1] 25 (0, 0)) := (by repeat (first | exact Aside0.out (by assumption) | refine blk_below ?_ (Aside0.out (by assumption))))
                  have c_t0 : wr.cell? ⟨w.heap.size, 0, none⟩ = some (.slice A0 l0.length c0) := (blk_cell c_t 0).trans rfl
                  have c_t1 : wr.cell? ⟨w.heap.size, 1, none⟩ = some (.slice A1 l1.length c1) := (blk_cell c_t 1).trans rfl
                  go_wp2_with fail
                  refine (knownG _).mono ?_
                  rintro e w12 ⟨rfl, B12⟩
                  clear c_t0 c_t1 c_t
                  go_wp2_with fail
                  go_ret
                  exact ⟨rfl, (by repeat (first | exact Below.refl _ _ | refine below_from ?_ (Aside0.out (by assumption))))⟩
                · skip
                  have c_t : wr.heap[w.heap.size]? = some (.cells #[.slice A0 l0.length c0, .slice A1 l1.length c1] 25 (0, 0)) := (by repeat (first | exact Aside0.out (by assumption) | refine blk_below ?_ (Aside0.out (by assumption))))
                  have c_t0 : wr.cell? ⟨w.heap.size, 0, none⟩ = some (.slice A0 l0.length c0) := (blk_cell c_t 0).trans rfl
                  have c_t1 : wr.cell? ⟨w.heap.size, 1, none⟩ = some (.slice A1 l1.length c1) := (blk_cell c_t 1).trans rfl
                  go_wp2_with fail
                  refine (knownG _).mono ?_
                  rintro e w12 ⟨rfl, B12⟩
                  clear c_t0 c_t1 c_t
                  go_wp2_with fail
                  go_ret
                  exact ⟨rfl, (by repeat (first | exact Below.refl _ _ | refine below_from ?_ (Aside0.out (by assumption))))⟩
          | true =>
            rw [nameR_ok hE hb1 hb2] at hr1
            cases hr1
            have hb1x := hb1
            simp only [Bool.and_eq_true, decide_eq_true_eq] at hb1x
            obtain ⟨hn0, hn1⟩ := hb1x
            obtain ⟨s1, hs1⟩ : ∃ s, calledP l0 l1 n hour = s := ⟨_, rfl⟩
            have n3 := Aside0.mk (calledG S w9 ((by repeat (first | exact Aside0.out (by assumption) | refine TwC.below ?_ (Aside0.out (by assumption)))) : TwC _ A0 c0 l0 A1 c1 l1) n hn0 (by omega) hour)
            rw [hs1] at n3 ⊢
            have c_t : w9.heap[w.heap.size]? = some (.cells #[.slice A0 l0.length c0, .slice A1 l1.length c1] 25 (0, 0)) := (by repeat (first | exact Aside0.out (by assumption) | refine blk_below ?_ (Aside0.out (by assumption))))
            have c_t0 : w9.cell? ⟨w.heap.size, 0, none⟩ = some (.slice A0 l0.length c0) := (blk_cell c_t 0).trans rfl
            have c_t1 : w9.cell? ⟨w.heap.size, 1, none⟩ = some (.slice A1 l1.length c1) := (blk_cell c_t 1).trans rfl
            go_wp2_with fail
            refine (n3.out).mono ?_
            rintro e w10 ⟨rfl, B10⟩
            clear c_t0 c_t1 c_t
            clear n3
            go_wp2_with fail
            refine (isNameG name hs40 _).mono ?_
            rintro e w11 ⟨rfl, B11⟩
            obtain ⟨b3, hb3⟩ : ∃ b, isNameB name = b := ⟨_, rfl⟩
            rw [hb3]
            cases b3 with
            | false =>
              have hW : whoE l0 l1 name hour = 4 := by unfold whoE; rw [if_neg (by simp [hE]), if_pos hb3]
              rw [whoR_bad (by rw [hW]; decide), hW] at hr2
              obtain ⟨rfl, rfl⟩ : (0 : Int) = i2 ∧ (4 : Int) = e2 := by cases hr2; exact ⟨rfl, rfl⟩
              go_wp2_with fail
              go_loopg [6, 16] 1 (fun gg _ s16 wr => s16 = .int .i64 0 ∧ Aside0 (Below w11.heap.size w11 wr))
              case atStart => exact ⟨rfl, ⟨Below.refl _ _⟩⟩
              case round =>
                obtain ⟨rfl, BR⟩ := hrel
                by_cases hlen : (0 : Int) < (l0.length : Int)
                · skip
                  have c_t : wr.heap[w.heap.size]? = some (.cells #[.slice A0 l0.length c0, .slice A1 l1.length c1] 25 (0, 0)) := (by repeat (first | exact Aside0.out (by assumption) | refine blk_below ?_ (Aside0.out (by assumption))))
                  have c_t0 : wr.cell? ⟨w.heap.size, 0, none⟩ = some (.slice A0 l0.length c0) := (blk_cell c_t 0).trans rfl
                  have c_t1 : wr.cell? ⟨w.heap.size, 1, none⟩ = some (.slice A1 l1.length c1) := (blk_cell c_t 1).trans rfl
                  go_wp2_with fail
                  refine (knownG _).mono ?_
                  rintro e w12 ⟨rfl, B12⟩
                  clear c_t0 c_t1 c_t
                  go_wp2_with fail
                  go_ret
                  exact ⟨rfl, (by repeat (first | exact Below.refl _ _ | refine below_from ?_ (Aside0.out (by assumption))))⟩
                · omega
            | true =>
              go_wp2_with fail
              refine (inG hour 0 1000 _).mono ?_
              rintro e w12 ⟨rfl, B12⟩
              rw [hb2]
              have hW : whoE l0 l1 name hour = 0 := by unfold whoE; rw [if_neg (by simp [hE]), if_neg (by simp [hb3]), if_neg (by simp [hb2])]
              have hlen := (check_ok (open_zero hE).1).1
              go_wp2_with fail
              go_loopg [6, 16] l0.length (fun gg _ s16 wr => ∃ kk : Nat, kk ≤ l0.length ∧ l0.length - kk ≤ gg ∧ s16 = .int .i64 kk ∧ Aside0 (∀ j : Nat, j < kk → calledP l0 l1 j hour ≠ name) ∧ Aside0 (Below w12.heap.size w12 wr))
              case atStart => exact ⟨0, Nat.zero_le _, by omega, rfl, ⟨fun j hj => absurd hj (Nat.not_lt_zero _)⟩, ⟨Below.refl _ _⟩⟩
              case round =>
                obtain ⟨kk, hkk, hg, rfl, HN, BR⟩ := hrel
                by_cases hlt : kk < l0.length
                · have hltz : (kk : Int) < (l0.length : Int) := by omega
                  obtain ⟨s3, hs3⟩ : ∃ s, calledP l0 l1 (kk : Int) hour = s := ⟨_, rfl⟩
                  have n4 := Aside0.mk (calledG S wr ((by repeat (first | exact Aside0.out (by assumption) | refine TwC.below ?_ (Aside0.out (by assumption)))) : TwC _ A0 c0 l0 A1 c1 l1) (kk : Int) (by omega) hltz hour)
                  rw [hs3] at n4
                  have c_t : wr.heap[w.heap.size]? = some (.cells #[.slice A0 l0.length c0, .slice A1 l1.length c1] 25 (0, 0)) := (by repeat (first | exact Aside0.out (by assumption) | refine blk_below ?_ (Aside0.out (by assumption))))
                  have c_t0 : wr.cell? ⟨w.heap.size, 0, none⟩ = some (.slice A0 l0.length c0) := (blk_cell c_t 0).trans rfl
                  have c_t1 : wr.cell? ⟨w.heap.size, 1, none⟩ = some (.slice A1 l1.length c1) := (blk_cell c_t 1).trans rfl
                  go_wp2_with fail
                  refine (n4.out).mono ?_
                  rintro e w13 ⟨rfl, B13⟩
                  clear c_t0 c_t1 c_t
                  clear n4
                  by_cases hq : s3 = name
                  · subst hq
                    rw [whoR_some hW kk hlt hs3 HN.out] at hr2
                    cases hr2
                    go_wp2_with fail
                    refine (knownG _).mono ?_
                    rintro e w14 ⟨rfl, B14⟩
                    go_wp2_with fail
                    go_ret
                    exact ⟨rfl, (by repeat (first | exact Below.refl _ _ | refine below_from ?_ (Aside0.out (by assumption))))⟩
                  · have hq1 : (s3.toList == name.toList) = false := beq_eq_false_iff_ne.2 (fun h => hq (by rw [Go.ByteArray.toList_eq, Go.ByteArray.toList_eq] at h; exact ByteArray.ext (Array.toList_inj.1 h)))
                    go_wp2_with fail
                    go_roundg (l0.length - (kk + 1))
                    case measure => omega
                    case rel => exact ⟨kk + 1, by omega, by omega, by go_num, ⟨fun j hj => if h : j < kk then HN.out j h else by obtain rfl : j = kk := (by omega); rw [hs3]; exact hq⟩, ⟨(by repeat (first | exact Below.refl _ _ | refine below_from ?_ (Aside0.out (by assumption))))⟩⟩
                · have hltz : ¬ (kk : Int) < (l0.length : Int) := by omega
                  obtain rfl : kk = l0.length := by omega
                  rw [whoR_none hW HN.out] at hr2
                  cases hr2
                  have c_t : wr.heap[w.heap.size]? = some (.cells #[.slice A0 l0.length c0, .slice A1 l1.length c1] 25 (0, 0)) := (by repeat (first | exact Aside0.out (by assumption) | refine blk_below ?_ (Aside0.out (by assumption))))
                  have c_t0 : wr.cell? ⟨w.heap.size, 0, none⟩ = some (.slice A0 l0.length c0) := (blk_cell c_t 0).trans rfl
                  have c_t1 : wr.cell? ⟨w.heap.size, 1, none⟩ = some (.slice A1 l1.length c1) := (blk_cell c_t 1).trans rfl
                  go_wp2_with fail
                  refine (knownG _).mono ?_
                  rintro e w13 ⟨rfl, B13⟩
                  clear c_t0 c_t1 c_t
                  go_wp2_with fail
                  go_ret
                  exact ⟨rfl, (by repeat (first | exact Below.refl _ _ | refine below_from ?_ (Aside0.out (by assumption))))⟩
      · have hq0 : (E == 0) = false := by simp [hE0]
        have hq1 : (E != 0) = true := by simp [hE0]
        rw [nameR_open hE hE0] at hr1
        obtain ⟨rfl, rfl⟩ : ByteArray.empty = s1 ∧ E = e1 := by cases hr1; exact ⟨rfl, rfl⟩
        have hW : whoE l0 l1 name hour = E := by unfold whoE; rw [if_pos (by rw [hE]; exact hE0), hE]
        rw [whoR_bad (by rw [hW]; exact hE0), hW] at hr2
        obtain ⟨rfl, rfl⟩ : (0 : Int) = i2 ∧ (E : Int) = e2 := by cases hr2; exact ⟨rfl, rfl⟩
        go_wp2_with fail
        go_loopg [6, 16] 1 (fun gg _ s16 wr => s16 = .int .i64 0 ∧ Aside0 (Below w7.heap.size w7 wr))
        case atStart => exact ⟨rfl, ⟨Below.refl _ _⟩⟩
        case round =>
          obtain ⟨rfl, BR⟩ := hrel
          by_cases hlen : (0 : Int) < (l0.length : Int)
          · skip
            have c_t : wr.heap[w.heap.size]? = some (.cells #[.slice A0 l0.length c0, .slice A1 l1.length c1] 25 (0, 0)) := (by repeat (first | exact Aside0.out (by assumption) | refine blk_below ?_ (Aside0.out (by assumption))))
            have c_t0 : wr.cell? ⟨w.heap.size, 0, none⟩ = some (.slice A0 l0.length c0) := (blk_cell c_t 0).trans rfl
            have c_t1 : wr.cell? ⟨w.heap.size, 1, none⟩ = some (.slice A1 l1.length c1) := (blk_cell c_t 1).trans rfl
            go_wp2_with fail
            refine (knownG _).mono ?_
            rintro e w8 ⟨rfl, B8⟩
            clear c_t0 c_t1 c_t
            go_wp2_with fail
            go_ret
            exact ⟨rfl, (by repeat (first | exact Below.refl _ _ | refine below_from ?_ (Aside0.out (by assumption))))⟩
          · skip
            have c_t : wr.heap[w.heap.size]? = some (.cells #[.slice A0 l0.length c0, .slice A1 l1.length c1] 25 (0, 0)) := (by repeat (first | exact Aside0.out (by assumption) | refine blk_below ?_ (Aside0.out (by assumption))))
            have c_t0 : wr.cell? ⟨w.heap.size, 0, none⟩ = some (.slice A0 l0.length c0) := (blk_cell c_t 0).trans rfl
            have c_t1 : wr.cell? ⟨w.heap.size, 1, none⟩ = some (.slice A1 l1.length c1) := (blk_cell c_t 1).trans rfl
            go_wp2_with fail
            refine (knownG _).mono ?_
            rintro e w8 ⟨rfl, B8⟩
            clear c_t0 c_t1 c_t
            go_wp2_with fail
            go_ret
            exact ⟨rfl, (by repeat (first | exact Below.refl _ _ | refine below_from ?_ (Aside0.out (by assumption))))⟩
end Go.Proofs.YtdjlfdbnmnjccaaGreat.St
end
