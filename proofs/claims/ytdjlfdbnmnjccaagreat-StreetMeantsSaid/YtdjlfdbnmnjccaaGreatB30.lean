/- A part of the proofs of the laws of this seat: the walks of the program's functions, and lemmas. They hold without conditions. -/
import Derived.Test.YtdjlfdbnmnjccaaGreatB03
import Derived.Test.YtdjlfdbnmnjccaaGreatB10
import Derived.Test.YtdjlfdbnmnjccaaGreatB22
import Derived.Test.YtdjlfdbnmnjccaaGreatB24
import Derived.Test.YtdjlfdbnmnjccaaGreatB25
import Derived.Test.YtdjlfdbnmnjccaaGreatB27
import Derived.Test.YtdjlfdbnmnjccaaGreatB28
import Derived.Test.YtdjlfdbnmnjccaaGreatB29
set_option linter.all false
set_option linter.unusedSectionVars false
section
set_option linter.unusedVariables false
set_option linter.unusedSimpArgs false
namespace Go.Proofs.YtdjlfdbnmnjccaaGreat.St
open Go.RowKit Go.Proofs.YtdjlfdbnmnjccaaGreatW.PrintWords Go.Proofs.YtdjlfdbnmnjccaaGreatW.PrintLast Go.Proofs.YtdjlfdbnmnjccaaGreatW.PrintMore
theorem ints_self (l : List Int) (hl : l.length < 100000) (k : Nat) (hk : l.length < k) : smaltoref08_Ints.f k l l = some true := by
  unfold smaltoref08_Ints.f
  rw [if_pos rfl]
  have key : ∀ (d i k : Nat), i + d = l.length → d < k → smaltoref08_Ints.l0 k l l i = some true := by
    intro d
    induction d with
    | zero =>
      intro i k hd hk
      obtain ⟨k, rfl⟩ : ∃ j, k = j + 1 := ⟨k - 1, by omega⟩
      unfold smaltoref08_Ints.l0
      rw [if_neg (by omega)]
    | succ d ih =>
      intro i k hd hk
      obtain ⟨k, rfl⟩ : ∃ j, k = j + 1 := ⟨k - 1, by omega⟩
      unfold smaltoref08_Ints.l0
      rw [if_pos (by omega), if_pos (by omega), if_pos (by omega), if_pos rfl, w64 (by omega)]
      exact ih (i + 1) k (by omega) (by omega)
  exact key l.length 0 k (by omega) hk
theorem copy_self (l : List ByteArray) (cs : List S60) (hl : l.length < 100000) (hc : cs.length < 100000) : smaltoref08_Copy.f l cs = some (l, cs) := by
  unfold smaltoref08_Copy.f
  rw [Option.bind_some, if_pos (by rw [List.length_nil]; omega), Option.bind_some, if_pos (by rw [List.length_nil]; omega)]
  rfl
theorem in_f (a b c : Int) : smaltoref08_In.f a b c = some (decide (b ≤ a) && decide (a ≤ c)) := by
  unfold smaltoref08_In.f
  by_cases h : a ≥ b
  · rw [if_pos h, decide_eq_true (show b ≤ a from h), Bool.true_and]
  · rw [if_neg h, decide_eq_false (show ¬ b ≤ a from h), Bool.false_and]
theorem name_f (s : ByteArray) (hs : s.size < 100000) (k : Nat) (hk : s.size < k) : smaltoref08_Name.f k s = some (isNameB s) := by
  have hsz : s.data.toList.length = s.size := Array.length_toList
  have key : ∀ (d i k : Nat), i + d = s.size → d < k → smaltoref08_Name.l0 k s i = some ((s.data.toList.drop i).all okByte && (decide (1 ≤ s.size) && decide (s.size ≤ 10))) := by
    intro d
    induction d with
    | zero =>
      intro i k hd hk
      obtain ⟨k, rfl⟩ : ∃ j, k = j + 1 := ⟨k - 1, by omega⟩
      unfold smaltoref08_Name.l0
      rw [if_neg (by omega), List.drop_of_length_le (by omega), in_f, Option.bind_some, List.all_nil, Bool.true_and]
      congr 2
      · exact decide_eq_decide.2 (by omega)
      · exact decide_eq_decide.2 (by omega)
    | succ d ih =>
      intro i k hd hk
      obtain ⟨k, rfl⟩ : ∃ j, k = j + 1 := ⟨k - 1, by omega⟩
      have hi : i < s.size := by omega
      have hb : bt s (i : Int) = ((s.data.toList[i]'(by omega)).toNat : Int) := by
        rw [← bt_at s (i : Int) (by rw [Int.toNat_natCast]; exact hi)]
        simp [ByteArray.getElem_eq_getElem_data]
      unfold smaltoref08_Name.l0
      rw [if_pos (by omega), if_pos (by omega), hb, List.drop_eq_getElem_cons (by omega), List.all_cons, w64 (by omega)]
      by_cases h1 : ((s.data.toList[i]'(by omega)).toNat : Int) < 97
      · rw [if_pos h1, show okByte (s.data.toList[i]'(by omega)) = false from by unfold okByte; rw [decide_eq_false (by omega), Bool.false_and]]
        rfl
      · rw [if_neg h1]
        by_cases h2 : ((s.data.toList[i]'(by omega)).toNat : Int) > 122
        · rw [if_pos h2, show okByte (s.data.toList[i]'(by omega)) = false from by unfold okByte; rw [decide_eq_false (show ¬ (s.data.toList[i]'(by omega)).toNat ≤ 122 by omega), Bool.and_false]]
          rfl
        · rw [if_neg h2, show okByte (s.data.toList[i]'(by omega)) = true from by unfold okByte; rw [decide_eq_true (by omega), decide_eq_true (by omega)]; rfl, Bool.true_and]
          exact ih (i + 1) k (by omega) (by omega)
  exact key s.size 0 k (by omega) hk
theorem change_f (c : S60) (n : Nat) (hn : n < 100000) (hs : c.f2.size < 100000) (k : Nat) (hk : c.f2.size < k) : smaltoref08_Change.f k c.f0 c.f1 c.f2 n = some (isChangeB c n) := by
  unfold smaltoref08_Change.f isChangeB
  rw [in_f, Option.bind_some, in_f, name_f c.f2 hs k hk, show wrap64 ((n : Int) - 1) = (n : Int) - 1 from by unfold wrap64; omega]
  simp only [Option.bind_some]
  cases h1 : (decide (1 ≤ c.f0) && decide (c.f0 ≤ 1000)) with
  | false => rfl
  | true =>
    cases h2 : (decide (0 ≤ c.f1) && decide (c.f1 ≤ (n : Int) - 1)) with
    | false => rfl
    | true => rfl
end Go.Proofs.YtdjlfdbnmnjccaaGreat.St
end
section
set_option linter.unusedVariables false
set_option linter.unusedSimpArgs false
namespace Go.Proofs.YtdjlfdbnmnjccaaGreat.St
open Go.RowKit Go.Proofs.YtdjlfdbnmnjccaaGreatW.PrintWords Go.Proofs.YtdjlfdbnmnjccaaGreatW.PrintLast Go.Proofs.YtdjlfdbnmnjccaaGreatW.PrintMore
theorem rdOf_at {l : List ByteArray} {i : Nat} (h : i < l.length) : rdOf ByteArray.empty l (i : Int) = l[i] := by
  unfold rdOf
  rw [Int.toNat_natCast, List.getD_eq_getElem?_getD, List.getElem?_eq_getElem h]
  rfl
section
variable (first : List ByteArray) (changes : List S60) (hf : first.length < 1000) (hc : changes.length < 1000) (hs : ∀ s ∈ first, s.size ≤ 40) (hcs : ∀ c ∈ changes, c.f2.size ≤ 40)
include hf hc hcs
theorem check_l2 : ∀ (d i k : Nat), i + d = changes.length → d + 41 < k → smaltoref08_Check.l2 k first.length i first changes = some (if (changes.drop i).any (fun c => !isChangeB c first.length) = true then 2 else 0)
  | 0, i, k, hd, hk => by
    obtain ⟨k, rfl⟩ : ∃ j, k = j + 1 := ⟨k - 1, by omega⟩
    unfold smaltoref08_Check.l2
    rw [if_neg (by omega), List.drop_of_length_le (by omega)]
    rfl
  | d + 1, i, k, hd, hk => by
    obtain ⟨k, rfl⟩ : ∃ j, k = j + 1 := ⟨k - 1, by omega⟩
    have hi : i < changes.length := by omega
    have hm : rd_T60 changes (i : Int) ∈ changes := by
      have := drop_rd hi
      exact List.mem_of_mem_drop (i := i) (by rw [this]; exact List.mem_cons_self ..)
    have h40 := hcs _ hm
    unfold smaltoref08_Check.l2
    rw [if_pos (by omega), if_pos (by omega), change_f _ first.length (by omega) (by omega) k (by omega), Option.bind_some, drop_rd hi, List.any_cons, w64 (by omega)]
    cases hb : isChangeB (rd_T60 changes (i : Int)) first.length with
    | true =>
      rw [if_pos rfl, check_l2 d (i + 1) k (by omega) (by omega)]
      rfl
    | false => rfl
def tailE (first : List ByteArray) (changes : List S60) : Int := if 8 < changes.length then 5 else if changes.any (fun c => !isChangeB c first.length) = true then 2 else 0
omit hcs in
theorem check_l1_ok (i : Nat) (hi : i < first.length) : ∀ (d j k : Nat), j + d = i → (∀ j', j ≤ j' → j' < i → ∀ h : j' < first.length, first[j'] ≠ first[i]) → smaltoref08_Check.l1 (k + d + 1) first.length i j first changes = smaltoref08_Check.l0 k first.length ((i + 1 : Nat) : Int) first changes
  | 0, j, k, hd, hne => by
    show smaltoref08_Check.l1 (k + 1) first.length i j first changes = _
    unfold smaltoref08_Check.l1
    rw [if_neg (by omega), w64 (by omega)]
  | d + 1, j, k, hd, hne => by
    show smaltoref08_Check.l1 ((k + d + 1) + 1) first.length i j first changes = _
    unfold smaltoref08_Check.l1
    rw [if_pos (by omega), if_pos (by omega), if_pos (by omega), if_pos (by omega), if_pos (by omega), rdOf_at (i := j) (by omega), rdOf_at hi, w64 (by omega), if_neg ?_]
    · exact check_l1_ok i hi d (j + 1) k (by omega) (fun j' h1 h2 h => hne j' (by omega) h2 h)
    · intro e
      rw [Go.ByteArray.toList_eq, Go.ByteArray.toList_eq] at e
      exact hne j (Nat.le_refl _) (by omega) (by omega) (ByteArray.ext (Array.toList_inj.1 e))
omit hcs in
theorem check_l1_bad (i : Nat) (hi : i < first.length) (b : Nat) (hb : b < i) (he : first[b]'(by omega) = first[i]) : ∀ (d j k : Nat), j + d = i → j ≤ b → d < k → smaltoref08_Check.l1 k first.length i j first changes = some 4
  | 0, j, k, hd, hj, hk => by omega
  | d + 1, j, k, hd, hj, hk => by
    obtain ⟨k, rfl⟩ : ∃ x, k = x + 1 := ⟨k - 1, by omega⟩
    unfold smaltoref08_Check.l1
    rw [if_pos (by omega), if_pos (by omega), if_pos (by omega), if_pos (by omega), if_pos (by omega), rdOf_at (i := j) (by omega), rdOf_at hi, w64 (by omega)]
    by_cases e : (first[j]'(by omega)).toList = first[i].toList
    · rw [if_pos e]
    · rw [if_neg e]
      refine check_l1_bad i hi b hb he d (j + 1) k (by omega) ?_ (by omega)
      by_cases h : j = b
      · subst h; exact absurd (by rw [he]) e
      · omega
include hs
theorem check_l0 : ∀ (d i k : Nat), i + d = first.length → (∀ a, a < i → ∀ h : a < first.length, isNameB first[a] = true) → (∀ a b, ∀ (hab : a < b), b < i → ∀ (h : b < first.length), first[a]'(by omega) ≠ first[b]) → changes.length + 50 + d * (first.length + 3) < k →
    smaltoref08_Check.l0 k first.length i first changes = some (if first.any (fun s => !isNameB s) = true then 4 else if twinsL ByteArray.empty first ≠ [] then 4 else tailE first changes)
  | 0, i, k, hd, hn, hne, hk => by
    obtain ⟨k, rfl⟩ : ∃ j, k = j + 1 := ⟨k - 1, by omega⟩
    have e1 : ¬ first.any (fun s => !isNameB s) = true := by
      rw [List.any_eq_true]
      rintro ⟨s, hs, e⟩
      obtain ⟨a, ha, rfl⟩ := List.mem_iff_getElem.1 hs
      rw [hn a (by omega) ha] at e
      cases e
    have e2 : twinsL ByteArray.empty first = [] := by
      refine List.eq_nil_iff_forall_not_mem.2 (fun x hx => ?_)
      obtain ⟨a, ha, rfl, h1⟩ := (mem_twins _ _ _).1 hx
      obtain ⟨b, hb, hba, e⟩ := (cntL_two _ _ _).1 h1
      by_cases hlt : a < b
      · exact hne a b hlt (by omega) hb e.symm
      · exact hne b a (by omega) (by omega) ha e
    unfold smaltoref08_Check.l0
    rw [if_neg (by omega), if_neg e1, if_neg (show ¬ twinsL ByteArray.empty first ≠ [] from fun h => h e2)]
    unfold tailE
    by_cases h8 : 8 < changes.length
    · rw [if_pos (by omega), if_pos h8]
    · rw [if_neg (by omega), if_neg h8]
      have := check_l2 first changes hf hc hcs changes.length 0 k (by omega) (by omega)
      rw [List.drop_zero] at this
      exact this
  | d + 1, i, k, hd, hn, hne, hk => by
    obtain ⟨k, rfl⟩ : ∃ j, k = j + 1 := ⟨k - 1, by omega⟩
    have hi : i < first.length := by omega
    have h40 := hs _ (List.getElem_mem hi)
    rw [Nat.succ_mul] at hk
    unfold smaltoref08_Check.l0
    rw [if_pos (by omega), if_pos (by omega), if_pos (by omega), rdOf_at hi, name_f _ (by omega) k (by omega), Option.bind_some]
    cases hb : isNameB first[i] with
    | false =>
      rw [if_neg (by simp), if_pos]
      rw [List.any_eq_true]
      exact ⟨_, List.getElem_mem hi, by rw [hb]; rfl⟩
    | true =>
      rw [if_pos rfl]
      by_cases hdup : ∃ b, ∃ hb : b < i, first[b]'(by omega) = first[i]
      · obtain ⟨b, hb, he⟩ := hdup
        have r := check_l1_bad first changes hf hc i hi b hb he i 0 k (by omega) (Nat.zero_le _) (by omega)
        refine Eq.trans r ?_
        have e2 : twinsL ByteArray.empty first ≠ [] := by
          intro e
          have : ((b : Nat) : Int) ∈ twinsL ByteArray.empty first := (mem_twins _ _ _).2 ⟨b, by omega, rfl, (cntL_two _ _ _).2 ⟨i, hi, by omega, he.symm⟩⟩
          rw [e] at this
          cases this
        rw [if_pos e2, ite_self]
      · have hne2 : ∀ j', 0 ≤ j' → j' < i → ∀ h : j' < first.length, first[j'] ≠ first[i] := fun j' _ h1 h e => hdup ⟨j', h1, e⟩
        have r := check_l1_ok first changes hf hc i hi i 0 (k - (i + 1)) (by omega) hne2
        rw [show k - (i + 1) + i + 1 = k by omega] at r
        refine Eq.trans r ?_
        refine check_l0 d (i + 1) (k - (i + 1)) (by omega) (fun a ha h => ?_) (fun a b hab hbi h => ?_) (by omega)
        · by_cases e : a = i
          · subst e; exact hb
          · exact hn a (by omega) h
        · by_cases e : b = i
          · subst e; exact hne2 a (Nat.zero_le _) hab (by omega)
          · exact hne a b hab (by omega) h
theorem check_f (k : Nat) (hk : changes.length + 50 + first.length * (first.length + 3) < k) : smaltoref08_Check.f k first changes = some (checkE first changes) := by
  unfold smaltoref08_Check.f checkE
  rw [in_f, Option.bind_some]
  have e1 : decide ((1 : Int) ≤ first.length) = decide (1 ≤ first.length) := decide_eq_decide.2 (by omega)
  have e2 : decide ((first.length : Int) ≤ 6) = decide (first.length ≤ 6) := decide_eq_decide.2 (by omega)
  rw [e1, e2]
  cases hb : (decide (1 ≤ first.length) && decide (first.length ≤ 6)) with
  | false => rfl
  | true =>
    rw [if_pos rfl, if_neg (by simp)]
    exact check_l0 first changes hf hc hs hcs first.length 0 k (by omega) (fun a h => by omega) (fun a b h1 h2 => by omega) hk
end
end Go.Proofs.YtdjlfdbnmnjccaaGreat.St
end
section
namespace Go.Proofs.YtdjlfdbnmnjccaaGreat.St
open Go.RowKit Go.Proofs.YtdjlfdbnmnjccaaGreatW.PrintWords Go.Proofs.YtdjlfdbnmnjccaaGreatW.PrintLast Go.Proofs.YtdjlfdbnmnjccaaGreatW.PrintMore
attribute [local go_sem] max2_int min2_int max_two min_two max_three min_three max_four min_four
set_option linter.unusedVariables false
set_option linter.unusedSimpArgs false
def smaltoref08_Open.f (k : Nat) (l0_0 : List ByteArray) (l0_1 : List (S60)) : Option (Int) := (smaltoref08_Check.f k l0_0 l0_1).bind fun t381 => (if t381 = 0 then ((smaltoref08_First.f k l0_0 l0_1).bind fun bt382 => (if bt382.1 ≤ 1000 then (some 9) else (some 0))) else (some t381))
theorem smaltoref08_Open.mono : ∀ a0 a1 k, LeO (smaltoref08_Open.f k a0 a1) (smaltoref08_Open.f (k + 1) a0 a1) := by
  intro a0 a1 k
  unfold smaltoref08_Open.f
  repeat' first
      | (with_reducible exact smaltoref08_Check.mono _ _ _)
      | (with_reducible exact smaltoref08_First.mono _ _ _)
      | (with_reducible exact LeO.refl _)
      | (with_reducible exact LeO.none _)
      | (with_reducible refine LeO.ite ?_ ?_)
      | (with_reducible refine LeO.bind ?_ (fun _ => ?_))
      | exact smaltoref08_Check.mono _ _ _
      | exact smaltoref08_First.mono _ _ _
      | exact LeO.none _
      | refine LeO.ite ?_ ?_
      | refine LeO.bind ?_ (fun _ => ?_)
set_option maxHeartbeats 8000000 in
set_option maxRecDepth 100000 in
theorem smaltoref08_Open.calls (k : Nat) (A0_0 : Option Addr) (c0_0 : Nat) (l0_0 : List ByteArray) (A0_1 : Option Addr) (c0_1 : Nat) (l0_1 : List (S60)) (r : Int) (w : World) (hr0_0 : Kd.C Kd.string w A0_0 l0_0.length l0_0) (hc0_0 : l0_0.length ≤ c0_0) (hr0_1 : Kd.C k60 w A0_1 l0_1.length l0_1) (hc0_1 : l0_1.length ≤ c0_1) (h : smaltoref08_Open.f k l0_0 l0_1 = some r) :
    Calls Tryz.prog 21 #[.agg #[.slice A0_0 l0_0.length c0_0, .slice A0_1 l0_1.length c0_1]] w fun e w' => e = .returned (.int .i64 r) ∧ Below w.heap.size w w' := by
  have hu25 := Tryz.underlying25
  have HR0_0 := Aside0.mk hr0_0
  have HC0_0 := Aside0.mk hc0_0
  clear hr0_0 hc0_0
  have HR0_1 := Aside0.mk hr0_1
  have HC0_1 := Aside0.mk hc0_1
  clear hr0_1 hc0_1
  have HB := Aside0.mk (Below.refl w.heap.size w)
  have H : ((smaltoref08_Check.f k l0_0 l0_1).bind fun t381 => (if t381 = 0 then ((smaltoref08_First.f k l0_0 l0_1).bind fun bt382 => (if bt382.1 ≤ 1000 then (some 9) else (some 0))) else (some t381))) = some r := h
  clear h
  replace H := Option.bind_eq_some_iff.mp H
  obtain ⟨t381, A20, H⟩ := H
  replace H : (if t381 = 0 then ((smaltoref08_First.f k l0_0 l0_1).bind fun bt382 => (if bt382.1 ≤ 1000 then (some 9) else (some 0))) else (some t381)) = some r := H
  have A2 := Aside0.mk A20
  clear A20
  by_cases c3 : t381 = 0
  · rw [if_pos c3] at H
    have c3b0 : (t381 == 0) = true := beq_iff_eq.mpr c3
    have c3b1 : (t381 != 0) = false := bne_eq_false_iff_eq.mpr c3
    clear c3
    replace H := Option.bind_eq_some_iff.mp H
    obtain ⟨⟨t382, t383⟩, A40, H⟩ := H
    replace H : (if t382 ≤ 1000 then (some 9) else (some 0)) = some r := H
    have A4 := Aside0.mk A40
    clear A40
    by_cases c5 : t382 ≤ 1000
    · rw [if_pos c5] at H
      have c5b0 : decide (t382 ≤ 1000) = true := decide_eq_true c5
      clear c5
      obtain rfl := Option.some.inj H
      go_enter Tryz.func21, Tryz.ntmps21
      go_wp2_with (first | ((with_reducible refine gate_dst (N := 1) rfl ?_); refine box_event ?hg (N := 1) ?hd (cs := #[.slice A0_0 l0_0.length c0_0, .slice A0_1 l0_1.length c0_1]) (t := 25) ?hr ?_; (case hd => rfl); (case hg => rfl); (case hr => first | (go_simp; done) | (go_simp; rfl)); intro gb380 hg w6 hbox hb; have n0_ := Aside0.mk (below_step (by repeat (first | (with_reducible first | exact HB.out | apply below_alloc | apply pw_below_drewN | apply below_drew1) | exact HB.out)) hb); have n1_ := Aside0.mk (hbox); have n2_ := Aside0.mk ((by rw [hg]; exact (below_size (by repeat (first | (with_reducible first | exact HB.out | apply below_alloc | apply pw_below_drewN | apply below_drew1) | exact HB.out))) : w.heap.size ≤ gb380)); have n3_ := Aside0.mk ((by rw [hg]; exact (below_size (by repeat (first | (with_reducible first | exact HB.out | apply below_alloc | apply pw_below_drewN | apply below_drew1) | exact HB.out))) : w.heap.size ≤ gb380)); clear HB; have HB := n0_; have BK380 := n1_; have GW380 := n2_; have GE380 := n3_; clear n0_ n1_ n2_ n3_; clear hb hbox hg; have hcz7_0 : w6.cell? ⟨gb380, 0, none⟩ = some (.slice A0_0 l0_0.length c0_0) := (blk_cell BK380.out 0).trans rfl; have hcz7_1 : w6.cell? ⟨gb380, 1, none⟩ = some (.slice A0_1 l0_1.length c0_1) := (blk_cell BK380.out 1).trans rfl; have hfz7_0 := blk_frozen BK380.out 0; have hfz7_1 := blk_frozen BK380.out 1) | ((with_reducible refine gate_callee (f := 15) rfl ?_); refine goesL_ (some 7) rfl rfl Tryz.func15 (by kernel_rfl) rfl #[.agg #[.slice A0_0 l0_0.length c0_0, .slice A0_1 l0_1.length c0_1]] rfl (by (try simp only [List.map_toArray, List.map_cons, List.map_nil]); first | done | rfl | (simp only [List.length_drop, List.length_take]; rfl)) ?_; (with_reducible refine (smaltoref08_Check.calls k _ _ l0_0 _ _ l0_1 t381 _ ?side1 ?side2 ?side3 ?side4 A2.out).mono ?_); (case side1 => repeat (first | exact (Kd.C_below HR0_0.out HB.out) | (with_reducible refine Kd.C_alloc ?_ _) | (with_reducible refine Kd.C_drewN ?_ _) | (with_reducible refine Kd.C_drew ?_))); (case side2 => exact HC0_0.out); (case side3 => repeat (first | exact (Kd.C_below HR0_1.out HB.out) | (with_reducible refine Kd.C_alloc ?_ _) | (with_reducible refine Kd.C_drewN ?_ _) | (with_reducible refine Kd.C_drew ?_))); (case side4 => exact HC0_1.out); rintro e w8 ⟨rfl, hb⟩; refine ⟨_, rfl, ?_⟩; have n0_ := Aside0.mk (blk_below (g := gb380) (o := .cells #[.slice A0_0 l0_0.length c0_0, .slice A0_1 l0_1.length c0_1] 25 (0, 0)) (by (with_reducible repeat (first | refine blk_drewN ?_ _ | refine blk_drew ?_ | refine blk_alloc ?_ _)); exact BK380.out) hb); have n1_ := Aside0.mk (below_step (by repeat (first | (with_reducible first | exact HB.out | apply below_alloc | apply pw_below_drewN | apply below_drew1 | refine below_set ?_ GE380.out) | exact HB.out)) hb); clear BK380; clear HB; have BK380 := n0_; have HB := n1_; clear n0_ n1_; (try clear hb); (try clear hb2); (try clear hk); (try clear hi); have hcz9_0 : w8.cell? ⟨gb380, 0, none⟩ = some (.slice A0_0 l0_0.length c0_0) := (blk_cell BK380.out 0).trans rfl; have hcz9_1 : w8.cell? ⟨gb380, 1, none⟩ = some (.slice A0_1 l0_1.length c0_1) := (blk_cell BK380.out 1).trans rfl; have hfz9_0 := blk_frozen BK380.out 0; have hfz9_1 := blk_frozen BK380.out 1) | ((with_reducible refine gate_callee (f := 17) rfl ?_); refine goesL_ (some 13) rfl rfl Tryz.func17 (by kernel_rfl) rfl #[.agg #[.slice A0_0 l0_0.length c0_0, .slice A0_1 l0_1.length c0_1]] rfl (by (try simp only [List.map_toArray, List.map_cons, List.map_nil]); first | done | rfl | (simp only [List.length_drop, List.length_take]; rfl)) ?_; (with_reducible refine (smaltoref08_First.calls k _ _ l0_0 _ _ l0_1 t382 t383 _ ?side1 ?side2 ?side3 ?side4 A4.out).mono ?_); (case side1 => repeat (first | exact (Kd.C_below HR0_0.out HB.out) | (with_reducible refine Kd.C_alloc ?_ _) | (with_reducible refine Kd.C_drewN ?_ _) | (with_reducible refine Kd.C_drew ?_))); (case side2 => exact HC0_0.out); (case side3 => repeat (first | exact (Kd.C_below HR0_1.out HB.out) | (with_reducible refine Kd.C_alloc ?_ _) | (with_reducible refine Kd.C_drewN ?_ _) | (with_reducible refine Kd.C_drew ?_))); (case side4 => exact HC0_1.out); rintro e w10 ⟨v384, rfl, ho0, hb⟩; refine ⟨_, rfl, ?_⟩; have n0_ := Aside0.mk (Kd.R_lower ho0 (below_size (by repeat (first | (with_reducible first | exact HB.out | apply below_alloc | apply pw_below_drewN | apply below_drew1 | refine below_set ?_ GE380.out) | exact HB.out)))); have n1_ := Aside0.mk (blk_below (g := gb380) (o := .cells #[.slice A0_0 l0_0.length c0_0, .slice A0_1 l0_1.length c0_1] 25 (0, 0)) (by (with_reducible repeat (first | refine blk_drewN ?_ _ | refine blk_drew ?_ | refine blk_alloc ?_ _)); exact BK380.out) hb); have n2_ := Aside0.mk (below_step (by repeat (first | (with_reducible first | exact HB.out | apply below_alloc | apply pw_below_drewN | apply below_drew1 | refine below_set ?_ GE380.out) | exact HB.out)) hb); clear BK380; clear HB; have HO385 := n0_; have BK380 := n1_; have HB := n2_; clear n0_ n1_ n2_; (try clear hb); (try clear hb2); (try clear hk); (try clear hi); (try clear ho0)))
      go_ret
      exact ⟨by first | rfl | (simp [errW_none, errW_some] <;> rfl) | (simp [*, errW_none, errW_some] <;> rfl), by repeat (first | (with_reducible first | exact HB.out | apply below_alloc | apply pw_below_drewN | apply below_drew1 | refine below_set ?_ GE380.out) | exact HB.out)⟩
    · rw [if_neg c5] at H
      have c5b0 : decide (t382 ≤ 1000) = false := decide_eq_false c5
      clear c5
      obtain rfl := Option.some.inj H
      go_enter Tryz.func21, Tryz.ntmps21
      go_wp2_with (first | ((with_reducible refine gate_dst (N := 1) rfl ?_); refine box_event ?hg (N := 1) ?hd (cs := #[.slice A0_0 l0_0.length c0_0, .slice A0_1 l0_1.length c0_1]) (t := 25) ?hr ?_; (case hd => rfl); (case hg => rfl); (case hr => first | (go_simp; done) | (go_simp; rfl)); intro gb380 hg w11 hbox hb; have n0_ := Aside0.mk (below_step (by repeat (first | (with_reducible first | exact HB.out | apply below_alloc | apply pw_below_drewN | apply below_drew1) | exact HB.out)) hb); have n1_ := Aside0.mk (hbox); have n2_ := Aside0.mk ((by rw [hg]; exact (below_size (by repeat (first | (with_reducible first | exact HB.out | apply below_alloc | apply pw_below_drewN | apply below_drew1) | exact HB.out))) : w.heap.size ≤ gb380)); have n3_ := Aside0.mk ((by rw [hg]; exact (below_size (by repeat (first | (with_reducible first | exact HB.out | apply below_alloc | apply pw_below_drewN | apply below_drew1) | exact HB.out))) : w.heap.size ≤ gb380)); clear HB; have HB := n0_; have BK380 := n1_; have GW380 := n2_; have GE380 := n3_; clear n0_ n1_ n2_ n3_; clear hb hbox hg; have hcz12_0 : w11.cell? ⟨gb380, 0, none⟩ = some (.slice A0_0 l0_0.length c0_0) := (blk_cell BK380.out 0).trans rfl; have hcz12_1 : w11.cell? ⟨gb380, 1, none⟩ = some (.slice A0_1 l0_1.length c0_1) := (blk_cell BK380.out 1).trans rfl; have hfz12_0 := blk_frozen BK380.out 0; have hfz12_1 := blk_frozen BK380.out 1) | ((with_reducible refine gate_callee (f := 15) rfl ?_); refine goesL_ (some 7) rfl rfl Tryz.func15 (by kernel_rfl) rfl #[.agg #[.slice A0_0 l0_0.length c0_0, .slice A0_1 l0_1.length c0_1]] rfl (by (try simp only [List.map_toArray, List.map_cons, List.map_nil]); first | done | rfl | (simp only [List.length_drop, List.length_take]; rfl)) ?_; (with_reducible refine (smaltoref08_Check.calls k _ _ l0_0 _ _ l0_1 t381 _ ?side1 ?side2 ?side3 ?side4 A2.out).mono ?_); (case side1 => repeat (first | exact (Kd.C_below HR0_0.out HB.out) | (with_reducible refine Kd.C_alloc ?_ _) | (with_reducible refine Kd.C_drewN ?_ _) | (with_reducible refine Kd.C_drew ?_))); (case side2 => exact HC0_0.out); (case side3 => repeat (first | exact (Kd.C_below HR0_1.out HB.out) | (with_reducible refine Kd.C_alloc ?_ _) | (with_reducible refine Kd.C_drewN ?_ _) | (with_reducible refine Kd.C_drew ?_))); (case side4 => exact HC0_1.out); rintro e w13 ⟨rfl, hb⟩; refine ⟨_, rfl, ?_⟩; have n0_ := Aside0.mk (blk_below (g := gb380) (o := .cells #[.slice A0_0 l0_0.length c0_0, .slice A0_1 l0_1.length c0_1] 25 (0, 0)) (by (with_reducible repeat (first | refine blk_drewN ?_ _ | refine blk_drew ?_ | refine blk_alloc ?_ _)); exact BK380.out) hb); have n1_ := Aside0.mk (below_step (by repeat (first | (with_reducible first | exact HB.out | apply below_alloc | apply pw_below_drewN | apply below_drew1 | refine below_set ?_ GE380.out) | exact HB.out)) hb); clear BK380; clear HB; have BK380 := n0_; have HB := n1_; clear n0_ n1_; (try clear hb); (try clear hb2); (try clear hk); (try clear hi); have hcz14_0 : w13.cell? ⟨gb380, 0, none⟩ = some (.slice A0_0 l0_0.length c0_0) := (blk_cell BK380.out 0).trans rfl; have hcz14_1 : w13.cell? ⟨gb380, 1, none⟩ = some (.slice A0_1 l0_1.length c0_1) := (blk_cell BK380.out 1).trans rfl; have hfz14_0 := blk_frozen BK380.out 0; have hfz14_1 := blk_frozen BK380.out 1) | ((with_reducible refine gate_callee (f := 17) rfl ?_); refine goesL_ (some 13) rfl rfl Tryz.func17 (by kernel_rfl) rfl #[.agg #[.slice A0_0 l0_0.length c0_0, .slice A0_1 l0_1.length c0_1]] rfl (by (try simp only [List.map_toArray, List.map_cons, List.map_nil]); first | done | rfl | (simp only [List.length_drop, List.length_take]; rfl)) ?_; (with_reducible refine (smaltoref08_First.calls k _ _ l0_0 _ _ l0_1 t382 t383 _ ?side1 ?side2 ?side3 ?side4 A4.out).mono ?_); (case side1 => repeat (first | exact (Kd.C_below HR0_0.out HB.out) | (with_reducible refine Kd.C_alloc ?_ _) | (with_reducible refine Kd.C_drewN ?_ _) | (with_reducible refine Kd.C_drew ?_))); (case side2 => exact HC0_0.out); (case side3 => repeat (first | exact (Kd.C_below HR0_1.out HB.out) | (with_reducible refine Kd.C_alloc ?_ _) | (with_reducible refine Kd.C_drewN ?_ _) | (with_reducible refine Kd.C_drew ?_))); (case side4 => exact HC0_1.out); rintro e w15 ⟨v384, rfl, ho0, hb⟩; refine ⟨_, rfl, ?_⟩; have n0_ := Aside0.mk (Kd.R_lower ho0 (below_size (by repeat (first | (with_reducible first | exact HB.out | apply below_alloc | apply pw_below_drewN | apply below_drew1 | refine below_set ?_ GE380.out) | exact HB.out)))); have n1_ := Aside0.mk (blk_below (g := gb380) (o := .cells #[.slice A0_0 l0_0.length c0_0, .slice A0_1 l0_1.length c0_1] 25 (0, 0)) (by (with_reducible repeat (first | refine blk_drewN ?_ _ | refine blk_drew ?_ | refine blk_alloc ?_ _)); exact BK380.out) hb); have n2_ := Aside0.mk (below_step (by repeat (first | (with_reducible first | exact HB.out | apply below_alloc | apply pw_below_drewN | apply below_drew1 | refine below_set ?_ GE380.out) | exact HB.out)) hb); clear BK380; clear HB; have HO385 := n0_; have BK380 := n1_; have HB := n2_; clear n0_ n1_ n2_; (try clear hb); (try clear hb2); (try clear hk); (try clear hi); (try clear ho0)))
      go_ret
      exact ⟨by first | rfl | (simp [errW_none, errW_some] <;> rfl) | (simp [*, errW_none, errW_some] <;> rfl), by repeat (first | (with_reducible first | exact HB.out | apply below_alloc | apply pw_below_drewN | apply below_drew1 | refine below_set ?_ GE380.out) | exact HB.out)⟩
  · rw [if_neg c3] at H
    have c3b0 : (t381 == 0) = false := beq_eq_false_iff_ne.mpr c3
    have c3b1 : (t381 != 0) = true := bne_iff_ne.mpr c3
    obtain rfl := Option.some.inj H
    go_enter Tryz.func21, Tryz.ntmps21
    go_wp2_with (first | ((with_reducible refine gate_dst (N := 1) rfl ?_); refine box_event ?hg (N := 1) ?hd (cs := #[.slice A0_0 l0_0.length c0_0, .slice A0_1 l0_1.length c0_1]) (t := 25) ?hr ?_; (case hd => rfl); (case hg => rfl); (case hr => first | (go_simp; done) | (go_simp; rfl)); intro gb380 hg w16 hbox hb; have n0_ := Aside0.mk (below_step (by repeat (first | (with_reducible first | exact HB.out | apply below_alloc | apply pw_below_drewN | apply below_drew1) | exact HB.out)) hb); have n1_ := Aside0.mk (hbox); have n2_ := Aside0.mk ((by rw [hg]; exact (below_size (by repeat (first | (with_reducible first | exact HB.out | apply below_alloc | apply pw_below_drewN | apply below_drew1) | exact HB.out))) : w.heap.size ≤ gb380)); have n3_ := Aside0.mk ((by rw [hg]; exact (below_size (by repeat (first | (with_reducible first | exact HB.out | apply below_alloc | apply pw_below_drewN | apply below_drew1) | exact HB.out))) : w.heap.size ≤ gb380)); clear HB; have HB := n0_; have BK380 := n1_; have GW380 := n2_; have GE380 := n3_; clear n0_ n1_ n2_ n3_; clear hb hbox hg; have hcz17_0 : w16.cell? ⟨gb380, 0, none⟩ = some (.slice A0_0 l0_0.length c0_0) := (blk_cell BK380.out 0).trans rfl; have hcz17_1 : w16.cell? ⟨gb380, 1, none⟩ = some (.slice A0_1 l0_1.length c0_1) := (blk_cell BK380.out 1).trans rfl; have hfz17_0 := blk_frozen BK380.out 0; have hfz17_1 := blk_frozen BK380.out 1) | ((with_reducible refine gate_callee (f := 15) rfl ?_); refine goesL_ (some 7) rfl rfl Tryz.func15 (by kernel_rfl) rfl #[.agg #[.slice A0_0 l0_0.length c0_0, .slice A0_1 l0_1.length c0_1]] rfl (by (try simp only [List.map_toArray, List.map_cons, List.map_nil]); first | done | rfl | (simp only [List.length_drop, List.length_take]; rfl)) ?_; (with_reducible refine (smaltoref08_Check.calls k _ _ l0_0 _ _ l0_1 t381 _ ?side1 ?side2 ?side3 ?side4 A2.out).mono ?_); (case side1 => repeat (first | exact (Kd.C_below HR0_0.out HB.out) | (with_reducible refine Kd.C_alloc ?_ _) | (with_reducible refine Kd.C_drewN ?_ _) | (with_reducible refine Kd.C_drew ?_))); (case side2 => exact HC0_0.out); (case side3 => repeat (first | exact (Kd.C_below HR0_1.out HB.out) | (with_reducible refine Kd.C_alloc ?_ _) | (with_reducible refine Kd.C_drewN ?_ _) | (with_reducible refine Kd.C_drew ?_))); (case side4 => exact HC0_1.out); rintro e w18 ⟨rfl, hb⟩; refine ⟨_, rfl, ?_⟩; have n0_ := Aside0.mk (blk_below (g := gb380) (o := .cells #[.slice A0_0 l0_0.length c0_0, .slice A0_1 l0_1.length c0_1] 25 (0, 0)) (by (with_reducible repeat (first | refine blk_drewN ?_ _ | refine blk_drew ?_ | refine blk_alloc ?_ _)); exact BK380.out) hb); have n1_ := Aside0.mk (below_step (by repeat (first | (with_reducible first | exact HB.out | apply below_alloc | apply pw_below_drewN | apply below_drew1 | refine below_set ?_ GE380.out) | exact HB.out)) hb); clear BK380; clear HB; have BK380 := n0_; have HB := n1_; clear n0_ n1_; (try clear hb); (try clear hb2); (try clear hk); (try clear hi)))
    go_ret
    exact ⟨by first | rfl | (simp [errW_none, errW_some] <;> rfl) | (simp [*, errW_none, errW_some] <;> rfl), by repeat (first | (with_reducible first | exact HB.out | apply below_alloc | apply pw_below_drewN | apply below_drew1 | refine below_set ?_ GE380.out) | exact HB.out)⟩
end Go.Proofs.YtdjlfdbnmnjccaaGreat.St
end
section
set_option linter.unusedVariables false
set_option linter.unusedSimpArgs false
namespace Go.Proofs.YtdjlfdbnmnjccaaGreat.St
open Go.RowKit Go.Proofs.YtdjlfdbnmnjccaaGreatW.PrintWords Go.Proofs.YtdjlfdbnmnjccaaGreatW.PrintLast Go.Proofs.YtdjlfdbnmnjccaaGreatW.PrintMore
def namesP (first : List ByteArray) (changes : List S60) (h : Int) : List ByteArray := (List.range first.length).map fun s : Nat => calledP first changes (s : Int) h
theorem namesP_len (first : List ByteArray) (changes : List S60) (h : Int) : (namesP first changes h).length = first.length := by unfold namesP; simp
theorem namesP_at (first : List ByteArray) (changes : List S60) (h : Int) (s : Nat) (hs : s < first.length) : (namesP first changes h)[s]'(by rw [namesP_len]; exact hs) = calledP first changes (s : Int) h := by unfold namesP; simp
theorem namesP_rd (first : List ByteArray) (changes : List S60) (h : Int) (s : Nat) (hs : s < first.length) : rdOf ByteArray.empty (namesP first changes h) (s : Int) = calledP first changes (s : Int) h := by
  rw [rdOf_at (by rw [namesP_len]; exact hs), namesP_at first changes h s hs]
theorem BkV.names {first : List ByteArray} {changes : List S60} {H : Int} {ns : List ByteArray} {rest : List S60} (B : BkV first changes H ns rest) : ns = namesP first changes H := by
  refine List.ext_getElem (by rw [B.len, namesP_len]) (fun s h1 h2 => ?_)
  have h3 := B.nm s (by rw [← B.len]; exact h1)
  rw [List.getElem?_eq_getElem h1] at h3
  rw [Option.some.inj h3, namesP_at first changes H s (by rw [← B.len]; exact h1)]
theorem BkV.names_later {first : List ByteArray} {changes : List S60} {H h : Int} {ns : List ByteArray} {rest : List S60} (B : BkV first changes H ns rest) (hH : H < h) (hr : ∀ c ∈ rest, h < c.f0) : ns = namesP first changes h := by
  rw [B.names]
  unfold namesP
  refine List.map_congr_left (fun s _ => ?_)
  exact (B.later hH hr s).symm
theorem namesAt_snoc (ps : List S167) (q : S167) (h : Int) : namesAt (ps ++ [q]) h = if q.f0 ≤ h then q.f1 else namesAt ps h := by
  unfold namesAt
  rw [List.foldl_append, List.foldl_cons, List.foldl_nil]
structure PgI (first : List ByteArray) (changes : List S60) (H : Int) (ns : List ByteArray) (ps : List S167) : Prop where
  last : ∀ h, H ≤ h → namesAt ps h = ns
  at_ : ∀ h, 0 ≤ h → h ≤ H → namesAt ps h = namesP first changes h
theorem book_pages (first : List ByteArray) (changes : List S60) (hv : ∀ d ∈ changes, (1 ≤ d.f0 ∧ d.f0 ≤ 1000) ∧ (0 ≤ d.f1 ∧ d.f1 < first.length)) :
    ∀ (fuel : Nat) (ns : List ByteArray) (rest : List S60) (ps : List S167) (H : Int), rest.length < fuel → BkV first changes H ns rest → 0 ≤ H → PgI first changes H ns ps →
      (bookFrom fuel ns rest ps).2.2 = [] → ∀ h, 0 ≤ h → namesAt (bookFrom fuel ns rest ps).1 h = namesP first changes h
  | 0, _, _, _, _, hl, _, _, _ => by omega
  | fuel + 1, ns, [], ps, H, hl, B, hH, G => fun _ h h0 => by
    show namesAt ps h = _
    by_cases h1 : h ≤ H
    · exact G.at_ h h0 h1
    · rw [G.last h (by omega)]
      exact B.names_later (by omega) (by simp)
  | fuel + 1, ns, c :: cs, ps, H, hl, B, hH, G => by
    have hc := (B.mem c).1 (List.mem_cons_self ..)
    obtain ⟨g1, g2⟩ := B.group (fun d hd => (hv d hd).2) hH (g := (c :: cs).takeWhile fun d => decide (d.f0 = c.f0)) rfl
    unfold bookFrom
    by_cases e : clashOf (((c :: cs).takeWhile fun d => decide (d.f0 = c.f0)).map (·.f1)) (setNames ns ((c :: cs).takeWhile fun d => decide (d.f0 = c.f0))) = []
    · rw [if_pos e]
      have hlen : ((c :: cs).dropWhile fun d => decide (d.f0 = c.f0)).length < fuel := by
        rw [List.dropWhile_cons, if_pos (by simp)]
        have := drop_len (fun d => decide (d.f0 = c.f0)) cs
        simp at hl; omega
      refine book_pages first changes hv fuel _ _ (ps ++ [⟨c.f0, setNames ns ((c :: cs).takeWhile fun d => decide (d.f0 = c.f0))⟩]) c.f0 hlen (g2 e) (by omega) ⟨fun h h1 => ?_, fun h h0 h1 => ?_⟩
      · rw [namesAt_snoc, if_pos h1]
      · rw [namesAt_snoc]
        by_cases h2 : c.f0 ≤ h
        · have h3 : h = c.f0 := by omega
          subst h3
          rw [if_pos (Int.le_refl _)]
          exact (g2 e).names
        · rw [if_neg h2]
          by_cases h3 : h ≤ H
          · exact G.at_ h h0 h3
          · rw [G.last h (by omega)]
            refine B.names_later (by omega) (fun d hd => ?_)
            rcases List.mem_cons.1 hd with rfl | hd
            · omega
            · have := (List.pairwise_cons.1 B.srt).1 d hd; omega
    · rw [if_neg e]
      intro hn
      exact absurd hn (compact_ne (fun h => e (by
        have := (sortI_perm (clashOf (((c :: cs).takeWhile fun d => decide (d.f0 = c.f0)).map (·.f1)) (setNames ns ((c :: cs).takeWhile fun d => decide (d.f0 = c.f0))))).length_eq
        rw [h] at this
        exact List.eq_nil_of_length_eq_zero this.symm)))
theorem pages_names {first : List ByteArray} {changes : List S60} (h0 : openE first changes = 0) {h : Int} (hh : 0 ≤ h) : namesAt (pagesOf first changes) h = namesP first changes h := by
  obtain ⟨z1, z2⟩ := open_zero h0
  obtain ⟨_, _, _, hnd, _, hch⟩ := check_ok z1
  have hv : ∀ d ∈ changes, (1 ≤ d.f0 ∧ d.f0 ≤ 1000) ∧ (0 ≤ d.f1 ∧ d.f1 < first.length) := by
    intro d hd
    have := hch d hd
    unfold isChangeB at this
    simp only [Bool.and_eq_true, decide_eq_true_eq] at this
    omega
  have B := start_ok first changes (fun d hd => (hv d hd).1.1) hnd
  have e0 : ∀ h : Int, 0 ≤ h → namesAt [⟨0, first⟩] h = first := fun h h1 => by
    unfold namesAt
    rw [List.foldl_cons, List.foldl_nil, if_pos h1]
  refine book_pages first changes hv (changes.length + 1) first (sortC changes) [⟨0, first⟩] 0 (by rw [sortC_len]; omega) B (Int.le_refl _) ⟨fun h h1 => e0 h h1, fun h h1 h2 => ?_⟩ z2 h hh
  obtain rfl : h = 0 := by omega
  rw [e0 0 h1]
  exact B.names
theorem open_f (first : List ByteArray) (changes : List S60) (hf : first.length ≤ 20) (hc : changes.length ≤ 20) (hs : ∀ s ∈ first, s.size ≤ 40) (hcs : ∀ c ∈ changes, c.f2.size ≤ 40) (k : Nat) (hk : 4000 ≤ k) :
    smaltoref08_Open.f k first changes = some (openE first changes) := by
  have hm : first.length * (first.length + 3) ≤ 20 * 23 := Nat.mul_le_mul hf (by omega)
  have hm2 : first.length * (first.length + changes.length + 3) ≤ 20 * 43 := Nat.mul_le_mul hf (by omega)
  unfold smaltoref08_Open.f
  obtain ⟨j, rfl⟩ : ∃ j, k = j + 1001 := ⟨k - 1001, by omega⟩
  rw [check_f first changes (by omega) (by omega) hs hcs (j + 1001) (by omega), Option.bind_some, first_f first changes (by omega) (by omega) j]
  unfold openE
  by_cases h0 : checkE first changes = 0
  · rw [if_pos h0, if_pos h0, Option.bind_some]
    have hcl := clash_law first changes h0
    unfold clashR at hcl
    rw [if_pos h0] at hcl
    rcases hcl with ⟨f1, f2⟩ | ⟨f1, f2⟩
    · rw [if_neg (by omega)]
      by_cases hb : (bookOf first changes).2.2 = []
      · rw [if_pos hb]
      · rw [if_neg hb] at f2
        have := congrArg (fun x => x.2.2) f2
        simp at this
    · rw [if_pos f1]
      by_cases hb : (bookOf first changes).2.2 = []
      · rw [if_pos hb] at f2
        have := congrArg (fun x => x.2.2) f2
        simp at this
      · rw [if_neg hb]
  · rw [if_neg h0, if_neg h0]
theorem nameIdx_none (ns : List ByteArray) (name : ByteArray) (h : ∀ s ∈ ns, s ≠ name) : nameIdx ns name = -1 := by
  unfold nameIdx
  generalize (0 : Int) = i
  induction ns generalizing i with
  | nil => rfl
  | cons x xs ih =>
    unfold idxOf
    rw [if_neg ?_]
    · exact ih (fun s hs => h s (List.mem_cons_of_mem _ hs)) (i + 1)
    · intro e
      have e2 := of_decide_eq_true e
      rw [Go.ByteArray.toList_eq, Go.ByteArray.toList_eq] at e2
      exact h x (List.mem_cons_self ..) (ByteArray.ext (Array.toList_inj.1 e2)).symm
theorem nameIdx_some (name : ByteArray) : ∀ (ns : List ByteArray) (i : Int) (k : Nat) (hk : k < ns.length), ns[k] = name → (∀ j, ∀ hj : j < k, ns[j] ≠ name) → idxOf (fun s : ByteArray => decide (name.toList = s.toList)) ns i = i + k
  | [], _, k, hk, _, _ => by simp at hk
  | x :: xs, i, 0, hk, e, _ => by
    unfold idxOf
    rw [if_pos (by have : x = name := e; simp [this])]
    omega
  | x :: xs, i, k + 1, hk, e, hn => by
    unfold idxOf
    rw [if_neg ?_, nameIdx_some name xs (i + 1) k (by simpa using hk) (by simpa using e) (fun j hj => by simpa using hn (j + 1) (by omega))]
    · omega
    · intro e2
      have e3 := of_decide_eq_true e2
      rw [Go.ByteArray.toList_eq, Go.ByteArray.toList_eq] at e3
      exact hn 0 (by omega) (ByteArray.ext (Array.toList_inj.1 e3)).symm
end Go.Proofs.YtdjlfdbnmnjccaaGreat.St
end
