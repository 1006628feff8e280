/- A part of the proofs of the laws of this seat: the walks of the program's functions, and lemmas. They hold without conditions. -/
import Derived.Test.YtdjlfdbnmnjccaaGreatB05
import Derived.Test.YtdjlfdbnmnjccaaGreatB06
set_option linter.all false
set_option linter.unusedSectionVars false
section
set_option linter.unusedVariables false
set_option linter.unusedSimpArgs false
namespace Go.Proofs.YtdjlfdbnmnjccaaGreat.St
open Go.RowKit Go.Proofs.YtdjlfdbnmnjccaaGreatW.PrintWords Go.Proofs.YtdjlfdbnmnjccaaGreatW.PrintLast Go.Proofs.YtdjlfdbnmnjccaaGreatW.PrintMore
def isHourB (n : Int) : Bool := decide (0 ≤ n) && decide (n ≤ 1000)
theorem isHour_f (n : Int) : street_isHour.f n = some (isHourB n) := by
  unfold street_isHour.f street_within.f isHourB; simp
def isChangeB (c : S60) (n : Int) : Bool := (decide (1 ≤ c.f0) && decide (c.f0 ≤ 1000)) && (decide (0 ≤ c.f1) && decide (c.f1 ≤ n - 1)) && isNameB c.f2
theorem isChange_f (c : S60) (n : Nat) (h : n < 100000) : street_isChange.f c.f0 c.f1 c.f2 n = some (isChangeB c n) := by
  have hw : wrap64 ((n : Int) - 1) = n - 1 := by unfold wrap64; omega
  unfold street_isChange.f street_within.f isChangeB street_isName.f
  simp only [hw, Option.bind_some, List.all_cons, List.all_nil, Bool.and_true]
  by_cases h1 : (decide (1 ≤ c.f0) && decide (c.f0 ≤ 1000)) = true
  · rw [if_pos h1, h1, Bool.true_and]
    by_cases h2 : (decide (0 ≤ c.f1) && decide (c.f1 ≤ (n : Int) - 1)) = true
    · rw [if_pos h2, h2, Bool.true_and]
    · rw [if_neg h2, Bool.not_eq_true _ |>.mp h2]; rfl
  · rw [if_neg h1, Bool.not_eq_true _ |>.mp h1]; rfl
theorem isChange_any (c : S60) (n : Nat) (hn : n < 100000) (w : World) :
    Calls Tryz.prog 62 #[enc60 c, .int .i64 n] w fun e w' => e = .returned (.bool (isChangeB c n)) ∧ Below w.heap.size w w' :=
  street_isChange.calls c.f0 c.f1 c.f2 n _ w (isChange_f c n hn)
def checkE (first : List ByteArray) (changes : List S60) : Int :=
  if (decide (1 ≤ first.length) && decide (first.length ≤ 6)) = false then 4
  else if first.any (fun s => !isNameB s) = true then 4
  else if twinsL ByteArray.empty first ≠ [] then 4
  else if 8 < changes.length then 5
  else if changes.any (fun c => !isChangeB c first.length) = true then 2
  else 0
theorem pred_name (w : World) : Pred 59 #[] Value.string (fun s => !isNameB s) w := by
  intro W x hb
  have hc := isName_any x W
  clear hb
  go_enter Tryz.func59, Tryz.ntmps59
  go_wp2_with fail
  refine hc.mono ?_
  rintro e w' ⟨rfl, hb'⟩
  go_wp2_with fail
  go_ret
  exact ⟨rfl, hb'⟩
theorem pred_change (B : Nat) (A0 : Option Addr) (c0 n : Nat) (hn : n < 100000) (w : World) (h0 : w.cell? ⟨B, 0, none⟩ = some (.slice A0 n c0)) :
    Pred 61 #[.pointer (some ⟨B, 0, none⟩)] enc60 (fun c => !isChangeB c n) w := by
  intro W x hb
  have z0 := (hb.cell (World.block_lt_of_cell? w _ h0)).trans h0
  have hlt := Nat.lt_of_lt_of_le (World.block_lt_of_cell? w _ h0) hb.size
  have HC := Aside0.mk (fun w1 => isChange_any x n hn w1)
  clear h0 hb
  unfold enc60
  go_enter Tryz.func61, Tryz.ntmps61
  go_wp2_with fail
  refine (HC.out _).mono ?_
  rintro e w' ⟨rfl, hb'⟩
  go_wp2_with fail
  go_ret
  exact ⟨rfl, below_from (below_alloc (Below.refl _ _) _) hb'⟩
theorem names_small {first : List ByteArray} (h : first.any (fun s => !isNameB s) = false) : ∀ s ∈ first, s.size ≤ 10 := by
  intro s hs
  rw [List.any_eq_false] at h
  have h1 := h s hs
  simp only [Bool.not_eq_true', Bool.not_eq_false] at h1
  unfold isNameB at h1
  simp only [Bool.and_eq_true, decide_eq_true_eq] at h1
  omega
theorem blk2 {w1 : World} {B : Nat} {x y : Value} {t : Nat} (h : w1.heap[B]? = some (.cells #[x, y] t (0, 0))) : w1.cell? ⟨B, 0, none⟩ = some x ∧ w1.cell? ⟨B, 1, none⟩ = some y ∧ B < w1.heap.size :=
  ⟨(blk_cell h 0).trans rfl, (blk_cell h 1).trans rfl, (Array.getElem?_eq_some_iff.1 h).1⟩
set_option maxHeartbeats 4000000 in
set_option maxRecDepth 100000 in
theorem check_any (A0 : Option Addr) (c0 : Nat) (first : List ByteArray) (A1 : Option Addr) (c1 : Nat) (changes : List S60) (w : World) (hr0 : Kd.C Kd.string w A0 first.length first) (hr1 : Kd.C k60 w A1 changes.length changes) :
    Calls Tryz.prog 13 #[.agg #[.slice A0 first.length c0, .slice A1 changes.length c1]] w fun e w' => e = .returned (.int .i64 (checkE first changes)) ∧ Below w.heap.size w w' := by
  obtain ⟨box, hbox⟩ : ∃ o : Obj, o = .cells #[.slice A0 first.length c0, .slice A1 changes.length c1] 25 := ⟨_, rfl⟩
  have hn0 : first.length ≤ 9223372036854775807 := hr0.2.1
  have hn1 : changes.length ≤ 9223372036854775807 := hr1.2.1
  have HR0 := Aside0.mk hr0
  have HR1 := Aside0.mk hr1
  clear hr0 hr1
  have eg59 := Aside0.mk (enters_of Tryz.func59 (by kernel_rfl) rfl)
  have eg61 := Aside0.mk (enters_of Tryz.func61 (by kernel_rfl) rfl)
  have hw0 : (w.alloc box).heap[w.heap.size]? = some (.cells #[.slice A0 first.length c0, .slice A1 changes.length c1] 25 (0, 0)) := by
    rw [hbox]; exact heap_alloc_new w _
  have hb0 : Below w.heap.size w (w.alloc box) := below_alloc (Below.refl _ _) _
  rw [hbox] at hw0 hb0
  have HW := Aside0.mk (fun (W : World) h => within_one 1 6 (first.length : Int) (w.heap.size + 1) W h)
  obtain ⟨b1, hb1⟩ : ∃ b, (decide ((1 : Int) ≤ (first.length : Int)) && decide ((first.length : Int) ≤ 6)) = b := ⟨_, rfl⟩
  have hb1' : (decide (1 ≤ first.length) && decide (first.length ≤ 6)) = b1 := by rw [← hb1]; congr 1 <;> rw [decide_eq_decide] <;> omega
  simp only [hb1] at HW
  have HB0 := Aside0.mk hb0
  have HW0 := Aside0.mk hw0
  clear hb0 hw0 hbox
  cases b1 with
  | false =>
    have HF := Aside0.mk (show checkE first changes = 4 from by unfold checkE; rw [if_pos hb1'])
    clear hb1 hb1'
    go_enter Tryz.func13, Tryz.ntmps13
    go_wp2_with fail
    refine (HW.out _ (by go_simp)).mono ?_
    rintro e w1 ⟨rfl, hb⟩
    go_wp2_with fail
    go_ret
    exact ⟨ret_int HF.out.symm, below_from (below_alloc HB0.out _) hb⟩
  | true =>
    have hle : first.length ≤ 6 := by simp at hb1'; omega
    go_enter Tryz.func13, Tryz.ntmps13
    go_wp2_with fail
    refine (HW.out _ (by go_simp)).mono ?_
    rintro e w1 ⟨rfl, hb⟩
    have HB1 := Aside0.mk (below_from (below_alloc HB0.out _) hb)
    have HW1 := Aside0.mk (blk_below (blk_alloc HW0.out _) hb)
    clear hb HW
    obtain ⟨z0, z1, z2⟩ := blk2 HW1.out
    have HC := Aside0.mk (containsFunc_string 59 #[] eg59.out (fun s => !isNameB s) A0 c0 first w1 (pred_name w1) (Kd.C_below HR0.out HB1.out) hn0)
    obtain ⟨b2, hb2⟩ : ∃ b, first.any (fun s => !isNameB s) = b := ⟨_, rfl⟩
    simp only [hb2] at HC
    cases b2 with
    | true =>
      have HF := Aside0.mk (show checkE first changes = 4 from by unfold checkE; rw [if_neg (by rw [hb1']; simp), if_pos hb2])
      clear hb1 hb1' hb2
      go_wp2_with fail
      refine HC.out.mono ?_
      rintro e w2 ⟨rfl, hb⟩
      go_wp2_with fail
      go_ret
      exact ⟨ret_int HF.out.symm, below_from HB1.out hb⟩
    | false =>
      have hsm := names_small hb2
      go_wp2_with fail
      refine HC.out.mono ?_
      rintro e w2 ⟨rfl, hb⟩
      have HB2 := Aside0.mk (below_from HB1.out hb)
      have HW2 := Aside0.mk (blk_below HW1.out hb)
      clear hb HC z0 z1 z2
      obtain ⟨z0, z1, z2⟩ := blk2 HW2.out
      have HT := Aside0.mk (twins_string_any A0 c0 first w2 (Kd.C_below HR0.out HB2.out) (by omega) (fun s hs => by have := hsm s hs; unfold maxLen; omega))
      clear hsm
      obtain ⟨tw, htw⟩ : ∃ l, twinsL ByteArray.empty first = l := ⟨_, rfl⟩
      rw [htw] at HT
      cases tw with
      | cons t0 ts =>
        have HF := Aside0.mk (show checkE first changes = 4 from by unfold checkE; rw [if_neg (by rw [hb1']; simp), if_neg (by rw [hb2]; simp), if_pos (by rw [htw]; simp)])
        clear hb1 hb1' hb2 htw
        go_wp2_with fail
        refine HT.out.mono ?_
        rintro e w3 ⟨v, rfl, hv, _, hb⟩
        obtain ⟨Av, cv, rfl⟩ := Kd.R_slice hv
        clear hv
        have hpos : 0 < (t0 :: ts).length := by simp
        go_wp2_with fail
        go_ret
        exact ⟨ret_int HF.out.symm, below_from HB2.out hb⟩
      | nil =>
        go_wp2_with fail
        refine HT.out.mono ?_
        rintro e w3 ⟨v, rfl, hv, hnil, hb⟩
        obtain rfl := hnil trivial
        have HB3 := Aside0.mk (below_from HB2.out hb)
        have HW3 := Aside0.mk (blk_below HW2.out hb)
        clear hb HT z0 z1 z2 hv hnil
        obtain ⟨z0, z1, z2⟩ := blk2 HW3.out
        by_cases h8 : 8 < changes.length
        · have h8' : decide ((8 : Int) < (changes.length : Int)) = true := decide_eq_true (by omega)
          have HF := Aside0.mk (show checkE first changes = 5 from by unfold checkE; rw [if_neg (by rw [hb1']; simp), if_neg (by rw [hb2]; simp), if_neg (by rw [htw]; simp), if_pos h8])
          clear hb1 hb1' hb2 htw
          go_wp2_with fail
          go_ret
          exact ⟨ret_int HF.out.symm, HB3.out⟩
        · have h8' : decide ((8 : Int) < (changes.length : Int)) = false := decide_eq_false (by omega)
          have HK := Aside0.mk (containsFunc_StreetChange 61 #[.pointer (some ⟨w.heap.size, 0, none⟩)] eg61.out (fun c => !isChangeB c first.length) A1 c1 changes w3 (pred_change w.heap.size A0 c0 first.length (by omega) w3 z0) (Kd.C_below HR1.out HB3.out) hn1)
          obtain ⟨b5, hb5⟩ : ∃ b, changes.any (fun c => !isChangeB c first.length) = b := ⟨_, rfl⟩
          simp only [hb5] at HK
          have HF := Aside0.mk (show checkE first changes = if b5 = true then 2 else 0 from by unfold checkE; rw [if_neg (by rw [hb1']; simp), if_neg (by rw [hb2]; simp), if_neg (by rw [htw]; simp), if_neg h8, hb5])
          clear hb1 hb1' hb2 htw hb5
          go_wp2_with fail
          refine HK.out.mono ?_
          rintro e w4 ⟨rfl, hb⟩
          cases b5 with
          | true =>
            go_wp2_with fail
            go_ret
            exact ⟨ret_int HF.out.symm, below_from HB3.out hb⟩
          | false =>
            go_wp2_with fail
            go_ret
            exact ⟨ret_int HF.out.symm, below_from HB3.out hb⟩
def street_Check.f (l0_0 : List ByteArray) (l0_1 : List S60) : Option Int := some (checkE l0_0 l0_1)
theorem street_Check.calls (A0_0 : Option Addr) (c0_0 : Nat) (l0_0 : List ByteArray) (A0_1 : Option Addr) (c0_1 : Nat) (l0_1 : List S60) (r : Int) (w : World) (hr0_0 : Kd.C Kd.string w A0_0 l0_0.length l0_0) (hc0_0 : l0_0.length ≤ c0_0) (hr0_1 : Kd.C k60 w A0_1 l0_1.length l0_1) (hc0_1 : l0_1.length ≤ c0_1) (h : street_Check.f l0_0 l0_1 = some r) :
    Calls Tryz.prog 13 #[.agg #[.slice A0_0 l0_0.length c0_0, .slice A0_1 l0_1.length c0_1]] w fun e w' => e = .returned (.int .i64 r) ∧ Below w.heap.size w w' := by
  obtain rfl := Option.some.inj h
  exact check_any A0_0 c0_0 l0_0 A0_1 c0_1 l0_1 w hr0_0 hr0_1
end Go.Proofs.YtdjlfdbnmnjccaaGreat.St
end
