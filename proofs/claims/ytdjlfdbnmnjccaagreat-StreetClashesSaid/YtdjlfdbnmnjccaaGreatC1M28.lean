/- A part of the proof of LClashes: lemmas that hold without conditions. -/
import Derived.Test.YtdjlfdbnmnjccaaGreatC1M02
import Derived.Test.YtdjlfdbnmnjccaaGreatC1M24
import Derived.Test.YtdjlfdbnmnjccaaGreatC1M25
import Derived.Test.YtdjlfdbnmnjccaaGreatC1M26
import Derived.Test.YtdjlfdbnmnjccaaGreatC1M27
set_option linter.all false
set_option linter.unusedSectionVars false
section
namespace Go.Proofs.YtdjlfdbnmnjccaaGreat.St
open Go.RowKit Go.Proofs.YtdjlfdbnmnjccaaGreatW.PrintWords Go.Proofs.YtdjlfdbnmnjccaaGreatW.PrintLast Go.Proofs.YtdjlfdbnmnjccaaGreatW.PrintMore
attribute [local go_sem] max2_int min2_int max_two min_two max_three min_three max_four min_four
set_option linter.unusedVariables false
set_option linter.unusedSimpArgs false
def smaltoref08_Ints.l0 : Nat → List Int → List Int → Int → Option (Bool)
  | 0, _, _, _ => none
  | k + 1, x0, x1, x5 => if x5 < (x0.length : Int) then (if 0 ≤ x5 then (if x5 < (x1.length : Int) then (if (rd x0 x5) = (rd x1 x5) then (smaltoref08_Ints.l0 k x0 x1 (wrap64 (x5 + 1))) else (some false)) else (none)) else (none)) else (some true)
def smaltoref08_Ints.f (k : Nat) (l0 : List Int) (l1 : List Int) : Option (Bool) := if (l0.length : Int) = (l1.length : Int) then (smaltoref08_Ints.l0 k l0 l1 0) else (some false)
set_option maxHeartbeats 8000000 in
set_option maxRecDepth 100000 in
theorem smaltoref08_Ints.calls (k : Nat) (A0 : Option Addr) (c0 : Nat) (l0 : List Int) (A1 : Option Addr) (c1 : Nat) (l1 : List Int) (r : Bool) (w : World) (hr0 : Kd.C (Kd.int .i64) w A0 l0.length l0) (hc0 : l0.length ≤ c0) (hr1 : Kd.C (Kd.int .i64) w A1 l1.length l1) (hc1 : l1.length ≤ c1) (h : smaltoref08_Ints.f k l0 l1 = some r) :
    Calls Tryz.prog 18 #[.slice A0 l0.length c0, .slice A1 l1.length c1] w fun e w' => e = .returned (.bool r) ∧ Drawn0 w w' := by
  have HR0 := Aside0.mk hr0
  have HC0 := Aside0.mk hc0
  clear hr0 hc0
  have HR1 := Aside0.mk hr1
  have HC1 := Aside0.mk hc1
  clear hr1 hc1
  have H : (if (l0.length : Int) = (l1.length : Int) then (smaltoref08_Ints.l0 k l0 l1 0) else (some false)) = some r := h
  clear h
  by_cases c3 : (l0.length : Int) = (l1.length : Int)
  · rw [if_pos c3] at H
    have c3b0 : ((l0.length : Int) == (l1.length : Int)) = true := beq_iff_eq.mpr c3
    have c3b1 : ((l0.length : Int) != (l1.length : Int)) = false := bne_eq_false_iff_eq.mpr c3
    have c3b2 : (l0.length == l1.length) = true := by first | simpa using c3 | (simp at c3 ⊢; omega)
    clear c3
    have H' := Aside0.mk H
    clear H
    go_enter Tryz.func18, Tryz.ntmps18
    go_wp2
    repeat (go_quiet (fail); try go_wp2)
    go_loopg [5] k (fun kq v5 w' => ∃ (x5_1 : Int), v5 = .int .i64 x5_1 ∧ Aside0 (smaltoref08_Ints.l0 kq l0 l1 x5_1 = some r) ∧ Aside0 (kq ≤ k) ∧ Drawn0 w w')
    case atStart => exact ⟨(0), (by first | rfl | (simp; done) | (simp [*]; done)), H', ⟨Nat.le_refl _⟩, by repeat (first | exact Drawn0.refl _ | apply Drawn0.step)⟩
    case round =>
      clear H'
      try clear c1
      try clear p2
      try clear c3
      try clear c3b0
      try clear c3b1
      try clear c3b2
      obtain ⟨x5_1, rfl, HA, HK1, ⟨m1, rfl⟩⟩ := hrel
      cases gk with
      | zero => exact absurd HA.out (by simp [smaltoref08_Ints.l0])
      | succ k1 =>
        have H := HA.out
        clear HA
        simp only [smaltoref08_Ints.l0] at H
        by_cases c4 : x5_1 < (l0.length : Int)
        · rw [if_pos c4] at H
          have c4b0 : decide (x5_1 < (l0.length : Int)) = true := decide_eq_true c4
          clear c4
          by_cases c5 : 0 ≤ x5_1
          · rw [if_pos c5] at H
            have c5b0 : decide (0 ≤ x5_1) = true := decide_eq_true c5
            clear c5
            by_cases c6 : x5_1 < (l1.length : Int)
            · rw [if_pos c6] at H
              have c6b0 : decide (x5_1 < (l1.length : Int)) = true := decide_eq_true c6
              clear c6
              by_cases c7 : (rd l0 x5_1) = (rd l1 x5_1)
              · rw [if_pos c7] at H
                have c7b0 : ((rd l0 x5_1) == (rd l1 x5_1)) = true := beq_iff_eq.mpr c7
                have c7b1 : ((rd l0 x5_1) != (rd l1 x5_1)) = false := bne_eq_false_iff_eq.mpr c7
                clear c7
                have H' := Aside0.mk H
                clear H
                have p252 : 0 ≤ (x5_1 : Int) := of_decide_eq_true (by first | (with_reducible assumption) | assumption)
                have q252 : x5_1 < (l0.length : Int) := of_decide_eq_true (by first | (with_reducible assumption) | assumption)
                obtain ⟨ad252, e252, hx252_0⟩ := Kd.at_int HR0.out x5_1 p252 q252
                cases e252
                replace p252 := eq_true p252
                replace q252 := eq_true q252
                have p253 : 0 ≤ (x5_1 : Int) := of_decide_eq_true (by first | (with_reducible assumption) | assumption)
                have q253 : x5_1 < (l1.length : Int) := of_decide_eq_true (by first | (with_reducible assumption) | assumption)
                obtain ⟨ad253, e253, hx253_0⟩ := Kd.at_int HR1.out x5_1 p253 q253
                cases e253
                replace p253 := eq_true p253
                replace q253 := eq_true q253
                go_wp2
                repeat (go_quiet (fail); try go_wp2)
                go_roundg k1
                case measure => have := HK1.out; omega
                case rel => exact ⟨(wrap64 (x5_1 + 1)), (by first | rfl | (simp; done) | (simp [*]; done)), H', ⟨by have := HK1.out; omega⟩, by repeat (first | exact Drawn0.refl _ | apply Drawn0.step)⟩
              · rw [if_neg c7] at H
                have c7b0 : ((rd l0 x5_1) == (rd l1 x5_1)) = false := beq_eq_false_iff_ne.mpr c7
                have c7b1 : ((rd l0 x5_1) != (rd l1 x5_1)) = true := bne_iff_ne.mpr c7
                obtain rfl := Option.some.inj H
                have p252 : 0 ≤ (x5_1 : Int) := of_decide_eq_true (by first | (with_reducible assumption) | assumption)
                have q252 : x5_1 < (l0.length : Int) := of_decide_eq_true (by first | (with_reducible assumption) | assumption)
                obtain ⟨ad252, e252, hx252_0⟩ := Kd.at_int HR0.out x5_1 p252 q252
                cases e252
                replace p252 := eq_true p252
                replace q252 := eq_true q252
                have p253 : 0 ≤ (x5_1 : Int) := of_decide_eq_true (by first | (with_reducible assumption) | assumption)
                have q253 : x5_1 < (l1.length : Int) := of_decide_eq_true (by first | (with_reducible assumption) | assumption)
                obtain ⟨ad253, e253, hx253_0⟩ := Kd.at_int HR1.out x5_1 p253 q253
                cases e253
                replace p253 := eq_true p253
                replace q253 := eq_true q253
                go_wp2
                repeat (go_quiet (fail); try go_wp2)
                go_ret
                exact ⟨by first | rfl | (simp; done) | (simp [*]; done), by repeat (first | exact Drawn0.refl _ | apply Drawn0.step)⟩
            · rw [if_neg c6] at H
              exact absurd H (by simp)
          · rw [if_neg c5] at H
            exact absurd H (by simp)
        · rw [if_neg c4] at H
          have c4b0 : decide (x5_1 < (l0.length : Int)) = false := decide_eq_false c4
          clear c4
          obtain rfl := Option.some.inj H
          go_wp2
          repeat (go_quiet (fail); try go_wp2)
          go_ret
          exact ⟨by first | rfl | (simp; done) | (simp [*]; done), by repeat (first | exact Drawn0.refl _ | apply Drawn0.step)⟩
  · rw [if_neg c3] at H
    have c3b0 : ((l0.length : Int) == (l1.length : Int)) = false := beq_eq_false_iff_ne.mpr c3
    have c3b1 : ((l0.length : Int) != (l1.length : Int)) = true := bne_iff_ne.mpr c3
    have c3b2 : (l0.length == l1.length) = false := by first | simpa using c3 | (simp at c3 ⊢; omega)
    obtain rfl := Option.some.inj H
    go_enter Tryz.func18, Tryz.ntmps18
    go_wp2
    repeat (go_quiet (fail); try go_wp2)
    go_ret
    exact ⟨by first | rfl | (simp; done) | (simp [*]; done), by repeat (first | exact Drawn0.refl _ | apply Drawn0.step)⟩
end Go.Proofs.YtdjlfdbnmnjccaaGreat.St
end
section
set_option linter.unusedVariables false
set_option linter.unusedSimpArgs false
namespace Go.Proofs.YtdjlfdbnmnjccaaGreat.St
open Go.RowKit Go.Proofs.YtdjlfdbnmnjccaaGreatW.PrintWords Go.Proofs.YtdjlfdbnmnjccaaGreatW.PrintLast Go.Proofs.YtdjlfdbnmnjccaaGreatW.PrintMore
theorem ints_self (l : List Int) (hl : l.length < 100000) (k : Nat) (hk : l.length < k) : smaltoref08_Ints.f k l l = some true := by
  unfold smaltoref08_Ints.f
  rw [if_pos rfl]
  have key : ∀ (d i k : Nat), i + d = l.length → d < k → smaltoref08_Ints.l0 k l l i = some true := by
    intro d
    induction d with
    | zero =>
      intro i k hd hk
      obtain ⟨k, rfl⟩ : ∃ j, k = j + 1 := ⟨k - 1, by omega⟩
      unfold smaltoref08_Ints.l0
      rw [if_neg (by omega)]
    | succ d ih =>
      intro i k hd hk
      obtain ⟨k, rfl⟩ : ∃ j, k = j + 1 := ⟨k - 1, by omega⟩
      unfold smaltoref08_Ints.l0
      rw [if_pos (by omega), if_pos (by omega), if_pos (by omega), if_pos rfl, w64 (by omega)]
      exact ih (i + 1) k (by omega) (by omega)
  exact key l.length 0 k (by omega) hk
theorem texts_self (l : List ByteArray) (hl : l.length < 100000) (k : Nat) (hk : l.length < k) : smaltoref08_Texts.f k l l = some true := by
  unfold smaltoref08_Texts.f
  rw [if_pos rfl]
  have key : ∀ (d i k : Nat), i + d = l.length → d < k → smaltoref08_Texts.l0 k l l i = some true := by
    intro d
    induction d with
    | zero =>
      intro i k hd hk
      obtain ⟨k, rfl⟩ : ∃ j, k = j + 1 := ⟨k - 1, by omega⟩
      unfold smaltoref08_Texts.l0
      rw [if_neg (by omega)]
    | succ d ih =>
      intro i k hd hk
      obtain ⟨k, rfl⟩ : ∃ j, k = j + 1 := ⟨k - 1, by omega⟩
      unfold smaltoref08_Texts.l0
      rw [if_pos (by omega), if_pos (by omega), if_pos (by omega), if_pos rfl, w64 (by omega)]
      exact ih (i + 1) k (by omega) (by omega)
  exact key l.length 0 k (by omega) hk
theorem same_self (l : List ByteArray) (cs : List S60) (hl : l.length < 100000) (hc : cs.length < 100000) (k : Nat) (hk : l.length < k) (hk2 : cs.length + 1 < k) : smaltoref08_Same.f k l cs l cs = some true := by
  unfold smaltoref08_Same.f
  rw [texts_self l hl k hk, Option.bind_some, if_pos rfl]
  have key : ∀ (d i k : Nat), i + d = cs.length → d < k → smaltoref08_Same.l0 k i l cs l cs = some true := by
    intro d
    induction d with
    | zero =>
      intro i k hd hk
      obtain ⟨k, rfl⟩ : ∃ j, k = j + 1 := ⟨k - 1, by omega⟩
      unfold smaltoref08_Same.l0
      rw [if_neg (by omega)]
    | succ d ih =>
      intro i k hd hk
      obtain ⟨k, rfl⟩ : ∃ j, k = j + 1 := ⟨k - 1, by omega⟩
      unfold smaltoref08_Same.l0
      rw [if_pos (by omega), if_pos (by omega), if_pos (by omega), if_neg (by simp), w64 (by omega)]
      exact ih (i + 1) k (by omega) (by omega)
  obtain ⟨k, rfl⟩ : ∃ j, k = j + 1 := ⟨k - 1, by omega⟩
  show (if ((cs.length : Int) != (cs.length : Int)) = true then some false else smaltoref08_Same.l0 k 0 l cs l cs) = some true
  rw [if_neg (by simp)]
  exact key cs.length 0 k (by omega) (by omega)
theorem copy_self (l : List ByteArray) (cs : List S60) (hl : l.length < 100000) (hc : cs.length < 100000) : smaltoref08_Copy.f l cs = some (l, cs) := by
  unfold smaltoref08_Copy.f
  rw [Option.bind_some, if_pos (by rw [List.length_nil]; omega), Option.bind_some, if_pos (by rw [List.length_nil]; omega)]
  rfl
theorem in_f (a b c : Int) : smaltoref08_In.f a b c = some (decide (b ≤ a) && decide (a ≤ c)) := by
  unfold smaltoref08_In.f
  by_cases h : a ≥ b
  · rw [if_pos h, decide_eq_true (show b ≤ a from h), Bool.true_and]
  · rw [if_neg h, decide_eq_false (show ¬ b ≤ a from h), Bool.false_and]
theorem name_f (s : ByteArray) (hs : s.size < 100000) (k : Nat) (hk : s.size < k) : smaltoref08_Name.f k s = some (isNameB s) := by
  have hsz : s.data.toList.length = s.size := Array.length_toList
  have key : ∀ (d i k : Nat), i + d = s.size → d < k → smaltoref08_Name.l0 k s i = some ((s.data.toList.drop i).all okByte && (decide (1 ≤ s.size) && decide (s.size ≤ 10))) := by
    intro d
    induction d with
    | zero =>
      intro i k hd hk
      obtain ⟨k, rfl⟩ : ∃ j, k = j + 1 := ⟨k - 1, by omega⟩
      unfold smaltoref08_Name.l0
      rw [if_neg (by omega), List.drop_of_length_le (by omega), in_f, Option.bind_some, List.all_nil, Bool.true_and]
      congr 2
      · exact decide_eq_decide.2 (by omega)
      · exact decide_eq_decide.2 (by omega)
    | succ d ih =>
      intro i k hd hk
      obtain ⟨k, rfl⟩ : ∃ j, k = j + 1 := ⟨k - 1, by omega⟩
      have hi : i < s.size := by omega
      have hb : bt s (i : Int) = ((s.data.toList[i]'(by omega)).toNat : Int) := by
        rw [← bt_at s (i : Int) (by rw [Int.toNat_natCast]; exact hi)]
        simp [ByteArray.getElem_eq_getElem_data]
      unfold smaltoref08_Name.l0
      rw [if_pos (by omega), if_pos (by omega), hb, List.drop_eq_getElem_cons (by omega), List.all_cons, w64 (by omega)]
      by_cases h1 : ((s.data.toList[i]'(by omega)).toNat : Int) < 97
      · rw [if_pos h1, show okByte (s.data.toList[i]'(by omega)) = false from by unfold okByte; rw [decide_eq_false (by omega), Bool.false_and]]
        rfl
      · rw [if_neg h1]
        by_cases h2 : ((s.data.toList[i]'(by omega)).toNat : Int) > 122
        · rw [if_pos h2, show okByte (s.data.toList[i]'(by omega)) = false from by unfold okByte; rw [decide_eq_false (show ¬ (s.data.toList[i]'(by omega)).toNat ≤ 122 by omega), Bool.and_false]]
          rfl
        · rw [if_neg h2, show okByte (s.data.toList[i]'(by omega)) = true from by unfold okByte; rw [decide_eq_true (by omega), decide_eq_true (by omega)]; rfl, Bool.true_and]
          exact ih (i + 1) k (by omega) (by omega)
  exact key s.size 0 k (by omega) hk
theorem change_f (c : S60) (n : Nat) (hn : n < 100000) (hs : c.f2.size < 100000) (k : Nat) (hk : c.f2.size < k) : smaltoref08_Change.f k c.f0 c.f1 c.f2 n = some (isChangeB c n) := by
  unfold smaltoref08_Change.f isChangeB
  rw [in_f, Option.bind_some, in_f, name_f c.f2 hs k hk, show wrap64 ((n : Int) - 1) = (n : Int) - 1 from by unfold wrap64; omega]
  simp only [Option.bind_some]
  cases h1 : (decide (1 ≤ c.f0) && decide (c.f0 ≤ 1000)) with
  | false => rfl
  | true =>
    cases h2 : (decide (0 ≤ c.f1) && decide (c.f1 ≤ (n : Int) - 1)) with
    | false => rfl
    | true => rfl
end Go.Proofs.YtdjlfdbnmnjccaaGreat.St
end
section
set_option linter.unusedVariables false
set_option linter.unusedSimpArgs false
namespace Go.Proofs.YtdjlfdbnmnjccaaGreat.St
open Go.RowKit Go.Proofs.YtdjlfdbnmnjccaaGreatW.PrintWords Go.Proofs.YtdjlfdbnmnjccaaGreatW.PrintLast Go.Proofs.YtdjlfdbnmnjccaaGreatW.PrintMore
theorem rdOf_at {l : List ByteArray} {i : Nat} (h : i < l.length) : rdOf ByteArray.empty l (i : Int) = l[i] := by
  unfold rdOf
  rw [Int.toNat_natCast, List.getD_eq_getElem?_getD, List.getElem?_eq_getElem h]
  rfl
section
variable (first : List ByteArray) (changes : List S60) (hf : first.length < 1000) (hc : changes.length < 1000) (hs : ∀ s ∈ first, s.size ≤ 40) (hcs : ∀ c ∈ changes, c.f2.size ≤ 40)
include hf hc hcs
theorem check_l2 : ∀ (d i k : Nat), i + d = changes.length → d + 41 < k → smaltoref08_Check.l2 k first.length i first changes = some (if (changes.drop i).any (fun c => !isChangeB c first.length) = true then 2 else 0)
  | 0, i, k, hd, hk => by
    obtain ⟨k, rfl⟩ : ∃ j, k = j + 1 := ⟨k - 1, by omega⟩
    unfold smaltoref08_Check.l2
    rw [if_neg (by omega), List.drop_of_length_le (by omega)]
    rfl
  | d + 1, i, k, hd, hk => by
    obtain ⟨k, rfl⟩ : ∃ j, k = j + 1 := ⟨k - 1, by omega⟩
    have hi : i < changes.length := by omega
    have hm : rd_T60 changes (i : Int) ∈ changes := by
      have := drop_rd hi
      exact List.mem_of_mem_drop (i := i) (by rw [this]; exact List.mem_cons_self ..)
    have h40 := hcs _ hm
    unfold smaltoref08_Check.l2
    rw [if_pos (by omega), if_pos (by omega), change_f _ first.length (by omega) (by omega) k (by omega), Option.bind_some, drop_rd hi, List.any_cons, w64 (by omega)]
    cases hb : isChangeB (rd_T60 changes (i : Int)) first.length with
    | true =>
      rw [if_pos rfl, check_l2 d (i + 1) k (by omega) (by omega)]
      rfl
    | false => rfl
def tailE (first : List ByteArray) (changes : List S60) : Int := if 8 < changes.length then 5 else if changes.any (fun c => !isChangeB c first.length) = true then 2 else 0
omit hcs in
theorem check_l1_ok (i : Nat) (hi : i < first.length) : ∀ (d j k : Nat), j + d = i → (∀ j', j ≤ j' → j' < i → ∀ h : j' < first.length, first[j'] ≠ first[i]) → smaltoref08_Check.l1 (k + d + 1) first.length i j first changes = smaltoref08_Check.l0 k first.length ((i + 1 : Nat) : Int) first changes
  | 0, j, k, hd, hne => by
    show smaltoref08_Check.l1 (k + 1) first.length i j first changes = _
    unfold smaltoref08_Check.l1
    rw [if_neg (by omega), w64 (by omega)]
  | d + 1, j, k, hd, hne => by
    show smaltoref08_Check.l1 ((k + d + 1) + 1) first.length i j first changes = _
    unfold smaltoref08_Check.l1
    rw [if_pos (by omega), if_pos (by omega), if_pos (by omega), if_pos (by omega), if_pos (by omega), rdOf_at (i := j) (by omega), rdOf_at hi, w64 (by omega), if_neg ?_]
    · exact check_l1_ok i hi d (j + 1) k (by omega) (fun j' h1 h2 h => hne j' (by omega) h2 h)
    · intro e
      rw [Go.ByteArray.toList_eq, Go.ByteArray.toList_eq] at e
      exact hne j (Nat.le_refl _) (by omega) (by omega) (ByteArray.ext (Array.toList_inj.1 e))
omit hcs in
theorem check_l1_bad (i : Nat) (hi : i < first.length) (b : Nat) (hb : b < i) (he : first[b]'(by omega) = first[i]) : ∀ (d j k : Nat), j + d = i → j ≤ b → d < k → smaltoref08_Check.l1 k first.length i j first changes = some 4
  | 0, j, k, hd, hj, hk => by omega
  | d + 1, j, k, hd, hj, hk => by
    obtain ⟨k, rfl⟩ : ∃ x, k = x + 1 := ⟨k - 1, by omega⟩
    unfold smaltoref08_Check.l1
    rw [if_pos (by omega), if_pos (by omega), if_pos (by omega), if_pos (by omega), if_pos (by omega), rdOf_at (i := j) (by omega), rdOf_at hi, w64 (by omega)]
    by_cases e : (first[j]'(by omega)).toList = first[i].toList
    · rw [if_pos e]
    · rw [if_neg e]
      refine check_l1_bad i hi b hb he d (j + 1) k (by omega) ?_ (by omega)
      by_cases h : j = b
      · subst h; exact absurd (by rw [he]) e
      · omega
include hs
theorem check_l0 : ∀ (d i k : Nat), i + d = first.length → (∀ a, a < i → ∀ h : a < first.length, isNameB first[a] = true) → (∀ a b, ∀ (hab : a < b), b < i → ∀ (h : b < first.length), first[a]'(by omega) ≠ first[b]) → changes.length + 50 + d * (first.length + 3) < k →
    smaltoref08_Check.l0 k first.length i first changes = some (if first.any (fun s => !isNameB s) = true then 4 else if twinsL ByteArray.empty first ≠ [] then 4 else tailE first changes)
  | 0, i, k, hd, hn, hne, hk => by
    obtain ⟨k, rfl⟩ : ∃ j, k = j + 1 := ⟨k - 1, by omega⟩
    have e1 : ¬ first.any (fun s => !isNameB s) = true := by
      rw [List.any_eq_true]
      rintro ⟨s, hs, e⟩
      obtain ⟨a, ha, rfl⟩ := List.mem_iff_getElem.1 hs
      rw [hn a (by omega) ha] at e
      cases e
    have e2 : twinsL ByteArray.empty first = [] := by
      refine List.eq_nil_iff_forall_not_mem.2 (fun x hx => ?_)
      obtain ⟨a, ha, rfl, h1⟩ := (mem_twins _ _ _).1 hx
      obtain ⟨b, hb, hba, e⟩ := (cntL_two _ _ _).1 h1
      by_cases hlt : a < b
      · exact hne a b hlt (by omega) hb e.symm
      · exact hne b a (by omega) (by omega) ha e
    unfold smaltoref08_Check.l0
    rw [if_neg (by omega), if_neg e1, if_neg (show ¬ twinsL ByteArray.empty first ≠ [] from fun h => h e2)]
    unfold tailE
    by_cases h8 : 8 < changes.length
    · rw [if_pos (by omega), if_pos h8]
    · rw [if_neg (by omega), if_neg h8]
      have := check_l2 first changes hf hc hcs changes.length 0 k (by omega) (by omega)
      rw [List.drop_zero] at this
      exact this
  | d + 1, i, k, hd, hn, hne, hk => by
    obtain ⟨k, rfl⟩ : ∃ j, k = j + 1 := ⟨k - 1, by omega⟩
    have hi : i < first.length := by omega
    have h40 := hs _ (List.getElem_mem hi)
    rw [Nat.succ_mul] at hk
    unfold smaltoref08_Check.l0
    rw [if_pos (by omega), if_pos (by omega), if_pos (by omega), rdOf_at hi, name_f _ (by omega) k (by omega), Option.bind_some]
    cases hb : isNameB first[i] with
    | false =>
      rw [if_neg (by simp), if_pos]
      rw [List.any_eq_true]
      exact ⟨_, List.getElem_mem hi, by rw [hb]; rfl⟩
    | true =>
      rw [if_pos rfl]
      by_cases hdup : ∃ b, ∃ hb : b < i, first[b]'(by omega) = first[i]
      · obtain ⟨b, hb, he⟩ := hdup
        have r := check_l1_bad first changes hf hc i hi b hb he i 0 k (by omega) (Nat.zero_le _) (by omega)
        refine Eq.trans r ?_
        have e2 : twinsL ByteArray.empty first ≠ [] := by
          intro e
          have : ((b : Nat) : Int) ∈ twinsL ByteArray.empty first := (mem_twins _ _ _).2 ⟨b, by omega, rfl, (cntL_two _ _ _).2 ⟨i, hi, by omega, he.symm⟩⟩
          rw [e] at this
          cases this
        rw [if_pos e2, ite_self]
      · have hne2 : ∀ j', 0 ≤ j' → j' < i → ∀ h : j' < first.length, first[j'] ≠ first[i] := fun j' _ h1 h e => hdup ⟨j', h1, e⟩
        have r := check_l1_ok first changes hf hc i hi i 0 (k - (i + 1)) (by omega) hne2
        rw [show k - (i + 1) + i + 1 = k by omega] at r
        refine Eq.trans r ?_
        refine check_l0 d (i + 1) (k - (i + 1)) (by omega) (fun a ha h => ?_) (fun a b hab hbi h => ?_) (by omega)
        · by_cases e : a = i
          · subst e; exact hb
          · exact hn a (by omega) h
        · by_cases e : b = i
          · subst e; exact hne2 a (Nat.zero_le _) hab (by omega)
          · exact hne a b hab (by omega) h
theorem check_f (k : Nat) (hk : changes.length + 50 + first.length * (first.length + 3) < k) : smaltoref08_Check.f k first changes = some (checkE first changes) := by
  unfold smaltoref08_Check.f checkE
  rw [in_f, Option.bind_some]
  have e1 : decide ((1 : Int) ≤ first.length) = decide (1 ≤ first.length) := decide_eq_decide.2 (by omega)
  have e2 : decide ((first.length : Int) ≤ 6) = decide (first.length ≤ 6) := decide_eq_decide.2 (by omega)
  rw [e1, e2]
  cases hb : (decide (1 ≤ first.length) && decide (first.length ≤ 6)) with
  | false => rfl
  | true =>
    rw [if_pos rfl, if_neg (by simp)]
    exact check_l0 first changes hf hc hs hcs first.length 0 k (by omega) (fun a h => by omega) (fun a b h1 h2 => by omega) hk
end
end Go.Proofs.YtdjlfdbnmnjccaaGreat.St
end
