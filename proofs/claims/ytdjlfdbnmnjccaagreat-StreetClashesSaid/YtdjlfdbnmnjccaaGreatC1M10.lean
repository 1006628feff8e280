/- A part of the proof of LClashes: lemmas that hold without conditions. -/
import Derived.Test.YtdjlfdbnmnjccaaGreatC1M02
import Derived.Test.YtdjlfdbnmnjccaaGreatC1M07
import Derived.Test.YtdjlfdbnmnjccaaGreatC1M09
set_option linter.all false
set_option linter.unusedSectionVars false
section
namespace Go.Proofs.YtdjlfdbnmnjccaaGreat.St
open Go.RowKit Go.Proofs.YtdjlfdbnmnjccaaGreatW.PrintWords Go.Proofs.YtdjlfdbnmnjccaaGreatW.PrintLast Go.Proofs.YtdjlfdbnmnjccaaGreatW.PrintMore
attribute [local go_sem] max2_int min2_int max_two min_two max_three min_three max_four min_four
set_option linter.unusedVariables false
set_option linter.unusedSimpArgs false
def smaltoref08_First.l0 : Nat → Int → List ByteArray → List (S60) → Option (Int × List Int)
  | 0, _, _, _ => none
  | k + 1, x4, x380000, x380001 => if x4 ≤ 1000 then ((smaltoref08_Clash.f k x380000 x380001 x4).bind fun t380 => (if (t380.length : Int) > 0 then (some (x4, t380)) else (smaltoref08_First.l0 k (wrap64 (x4 + 1)) x380000 x380001))) else (some (1001, ([] : List Int)))
def smaltoref08_First.f (k : Nat) (l0_0 : List ByteArray) (l0_1 : List (S60)) : Option (Int × List Int) := smaltoref08_First.l0 k 1 l0_0 l0_1
set_option maxHeartbeats 8000000 in
set_option maxRecDepth 100000 in
theorem smaltoref08_First.calls (k : Nat) (A0_0 : Option Addr) (c0_0 : Nat) (l0_0 : List ByteArray) (A0_1 : Option Addr) (c0_1 : Nat) (l0_1 : List (S60)) (r1 : Int) (r2 : List Int) (w : World) (hr0_0 : Kd.C Kd.string w A0_0 l0_0.length l0_0) (hc0_0 : l0_0.length ≤ c0_0) (hr0_1 : Kd.C k60 w A0_1 l0_1.length l0_1) (hc0_1 : l0_1.length ≤ c0_1) (h : smaltoref08_First.f k l0_0 l0_1 = some (r1, r2)) :
    Calls Tryz.prog 17 #[.agg #[.slice A0_0 l0_0.length c0_0, .slice A0_1 l0_1.length c0_1]] w fun e w' => ∃ v1_ : Value, e = .returned (.tuple #[.int .i64 r1, v1_]) ∧ Kd.R (Kd.int .i64) 3 w' w.heap.size (fun _ => True) v1_ r2 ∧ Below w.heap.size w w' := by
  have hu25 := Tryz.underlying25
  have HR0_0 := Aside0.mk hr0_0
  have HC0_0 := Aside0.mk hc0_0
  clear hr0_0 hc0_0
  have HR0_1 := Aside0.mk hr0_1
  have HC0_1 := Aside0.mk hc0_1
  clear hr0_1 hc0_1
  have HB := Aside0.mk (Below.refl w.heap.size w)
  have H : (smaltoref08_First.l0 k 1 l0_0 l0_1) = some (r1, r2) := h
  clear h
  have H' := Aside0.mk H
  clear H
  go_enter Tryz.func17, Tryz.ntmps17
  go_wp2_with (first | ((with_reducible refine gate_dst (N := 1) rfl ?_); refine box_event ?hg (N := 1) ?hd (cs := #[.slice A0_0 l0_0.length c0_0, .slice A0_1 l0_1.length c0_1]) (t := 25) ?hr ?_; (case hd => rfl); (case hg => rfl); (case hr => first | (go_simp; done) | (go_simp; rfl)); intro gb379 hg w2 hbox hb; have n0_ := Aside0.mk (below_step (by repeat (first | (with_reducible first | exact HB.out | apply below_alloc | apply pw_below_drewN | apply below_drew1) | exact HB.out)) hb); have n1_ := Aside0.mk (hbox); have n2_ := Aside0.mk ((by rw [hg]; exact (below_size (by repeat (first | (with_reducible first | exact HB.out | apply below_alloc | apply pw_below_drewN | apply below_drew1) | exact HB.out))) : w.heap.size ≤ gb379)); have n3_ := Aside0.mk ((by rw [hg]; exact (below_size (by repeat (first | (with_reducible first | exact HB.out | apply below_alloc | apply pw_below_drewN | apply below_drew1) | exact HB.out))) : w.heap.size ≤ gb379)); clear HB; have HB := n0_; have BK379 := n1_; have GW379 := n2_; have GE379 := n3_; clear n0_ n1_ n2_ n3_; clear hb hbox hg))
  go_loopg [4] k (fun kq v4 w' => ∃ (x4_1 : Int), v4 = .int .i64 x4_1 ∧ Aside0 (smaltoref08_First.l0 kq x4_1 l0_0 l0_1 = some (r1, r2)) ∧ Aside0 (kq ≤ k) ∧ Aside0 (w'.heap[gb379]? = some (.cells #[(.slice A0_0 l0_0.length c0_0), (.slice A0_1 l0_1.length c0_1)] 25 (0, 0))) ∧ Aside0 (Below w.heap.size w w'))
  case atStart => exact ⟨(1), (by first | rfl | (simp; done) | (simp [*]; done)), H', ⟨Nat.le_refl _⟩, ⟨by (with_reducible repeat (first | refine blk_drewN ?_ _ | refine blk_drew ?_ | refine blk_alloc ?_ _)); exact BK379.out⟩, ⟨by repeat (first | (with_reducible first | exact HB.out | apply below_alloc | apply pw_below_drewN | apply below_drew1 | refine below_set ?_ GE379.out) | exact HB.out)⟩⟩
  case round =>
    clear H'
    try clear c1
    try clear p2
    obtain ⟨x4_1, rfl, HA, HK1, BK379, HB⟩ := hrel
    cases gk with
    | zero => exact absurd HA.out (by simp [smaltoref08_First.l0])
    | succ k1 =>
      have H := HA.out
      clear HA
      simp only [smaltoref08_First.l0] at H
      by_cases c3 : x4_1 ≤ 1000
      · rw [if_pos c3] at H
        have c3b0 : decide (x4_1 ≤ 1000) = true := decide_eq_true c3
        clear c3
        replace H := Option.bind_eq_some_iff.mp H
        obtain ⟨t380, A40, H⟩ := H
        replace H : (if (t380.length : Int) > 0 then (some (x4_1, t380)) else (smaltoref08_First.l0 k1 (wrap64 (x4_1 + 1)) l0_0 l0_1)) = some (r1, r2) := H
        have A4 := Aside0.mk A40
        clear A40
        by_cases c5 : (t380.length : Int) > 0
        · rw [if_pos c5] at H
          have c5b0 : decide (0 < (t380.length : Int)) = true := decide_eq_true c5
          have c5b1 : decide (0 < t380.length) = true := decide_eq_true (by omega)
          clear c5
          simp only [Option.some.injEq, Prod.mk.injEq] at H
          obtain ⟨rfl, rfl⟩ := H
          have hcz6_0 : wr.cell? ⟨gb379, 0, none⟩ = some (.slice A0_0 l0_0.length c0_0) := (blk_cell BK379.out 0).trans rfl
          have hcz6_1 : wr.cell? ⟨gb379, 1, none⟩ = some (.slice A0_1 l0_1.length c0_1) := (blk_cell BK379.out 1).trans rfl
          have hfz6_0 := blk_frozen BK379.out 0
          have hfz6_1 := blk_frozen BK379.out 1
          go_wp2_with (first | ((with_reducible refine gate_callee (f := 68) rfl ?_); refine goesL_ (some 12) rfl rfl Tryz.func68 (by kernel_rfl) rfl #[.agg #[.slice A0_0 l0_0.length c0_0, .slice A0_1 l0_1.length c0_1], .int .i64 x4_1] rfl (by (try simp only [List.map_toArray, List.map_cons, List.map_nil]); first | done | rfl | (simp only [List.length_drop, List.length_take]; rfl)) ?_; (with_reducible refine (smaltoref08_Clash.calls k1 _ _ l0_0 _ _ l0_1 x4_1 t380 _ ?side1 ?side2 ?side3 ?side4 A4.out).mono ?_); (case side1 => repeat (first | exact (Kd.C_below HR0_0.out HB.out) | (with_reducible refine Kd.C_alloc ?_ _) | (with_reducible refine Kd.C_drewN ?_ _) | (with_reducible refine Kd.C_drew ?_))); (case side2 => exact HC0_0.out); (case side3 => repeat (first | exact (Kd.C_below HR0_1.out HB.out) | (with_reducible refine Kd.C_alloc ?_ _) | (with_reducible refine Kd.C_drewN ?_ _) | (with_reducible refine Kd.C_drew ?_))); (case side4 => exact HC0_1.out); rintro e w7 ⟨v381, rfl, ho0, hb⟩; refine ⟨_, rfl, ?_⟩; have n0_ := Aside0.mk (Kd.R_lower ho0 (below_size (by repeat (first | (with_reducible first | exact HB.out | apply below_alloc | apply pw_below_drewN | apply below_drew1 | refine below_set ?_ GE379.out) | exact HB.out)))); have n1_ := Aside0.mk (blk_below (g := gb379) (o := .cells #[.slice A0_0 l0_0.length c0_0, .slice A0_1 l0_1.length c0_1] 25 (0, 0)) (by (with_reducible repeat (first | refine blk_drewN ?_ _ | refine blk_drew ?_ | refine blk_alloc ?_ _)); exact BK379.out) hb); have n2_ := Aside0.mk (below_step (by repeat (first | (with_reducible first | exact HB.out | apply below_alloc | apply pw_below_drewN | apply below_drew1 | refine below_set ?_ GE379.out) | exact HB.out)) hb); clear BK379; clear HB; have HO382 := n0_; have BK379 := n1_; have HB := n2_; clear n0_ n1_ n2_; (try clear hb); (try clear hb2); (try clear hk); (try clear hi); (try clear ho0); obtain ⟨Ao8, co8, eo8⟩ := Kd.R_slice HO382.out; subst eo8))
          go_ret2
          exact ⟨_, by first | rfl | (simp [errW_none, errW_some] <;> rfl) | (simp [*, errW_none, errW_some] <;> rfl), by (with_reducible repeat (first | apply Kd.R_alloc | apply Kd.R_drewN | apply Kd.R_drew)); exact HO382.out, by repeat (first | (with_reducible first | exact HB.out | apply below_alloc | apply pw_below_drewN | apply below_drew1 | refine below_set ?_ GE379.out) | exact HB.out)⟩
        · rw [if_neg c5] at H
          have c5b0 : decide (0 < (t380.length : Int)) = false := decide_eq_false c5
          have c5b1 : decide (0 < t380.length) = false := decide_eq_false (by omega)
          clear c5
          have H' := Aside0.mk H
          clear H
          have hcz9_0 : wr.cell? ⟨gb379, 0, none⟩ = some (.slice A0_0 l0_0.length c0_0) := (blk_cell BK379.out 0).trans rfl
          have hcz9_1 : wr.cell? ⟨gb379, 1, none⟩ = some (.slice A0_1 l0_1.length c0_1) := (blk_cell BK379.out 1).trans rfl
          have hfz9_0 := blk_frozen BK379.out 0
          have hfz9_1 := blk_frozen BK379.out 1
          go_wp2_with (first | ((with_reducible refine gate_callee (f := 68) rfl ?_); refine goesL_ (some 12) rfl rfl Tryz.func68 (by kernel_rfl) rfl #[.agg #[.slice A0_0 l0_0.length c0_0, .slice A0_1 l0_1.length c0_1], .int .i64 x4_1] rfl (by (try simp only [List.map_toArray, List.map_cons, List.map_nil]); first | done | rfl | (simp only [List.length_drop, List.length_take]; rfl)) ?_; (with_reducible refine (smaltoref08_Clash.calls k1 _ _ l0_0 _ _ l0_1 x4_1 t380 _ ?side1 ?side2 ?side3 ?side4 A4.out).mono ?_); (case side1 => repeat (first | exact (Kd.C_below HR0_0.out HB.out) | (with_reducible refine Kd.C_alloc ?_ _) | (with_reducible refine Kd.C_drewN ?_ _) | (with_reducible refine Kd.C_drew ?_))); (case side2 => exact HC0_0.out); (case side3 => repeat (first | exact (Kd.C_below HR0_1.out HB.out) | (with_reducible refine Kd.C_alloc ?_ _) | (with_reducible refine Kd.C_drewN ?_ _) | (with_reducible refine Kd.C_drew ?_))); (case side4 => exact HC0_1.out); rintro e w10 ⟨v381, rfl, ho0, hb⟩; refine ⟨_, rfl, ?_⟩; have n0_ := Aside0.mk (Kd.R_lower ho0 (below_size (by repeat (first | (with_reducible first | exact HB.out | apply below_alloc | apply pw_below_drewN | apply below_drew1 | refine below_set ?_ GE379.out) | exact HB.out)))); have n1_ := Aside0.mk (blk_below (g := gb379) (o := .cells #[.slice A0_0 l0_0.length c0_0, .slice A0_1 l0_1.length c0_1] 25 (0, 0)) (by (with_reducible repeat (first | refine blk_drewN ?_ _ | refine blk_drew ?_ | refine blk_alloc ?_ _)); exact BK379.out) hb); have n2_ := Aside0.mk (below_step (by repeat (first | (with_reducible first | exact HB.out | apply below_alloc | apply pw_below_drewN | apply below_drew1 | refine below_set ?_ GE379.out) | exact HB.out)) hb); clear BK379; clear HB; have HO382 := n0_; have BK379 := n1_; have HB := n2_; clear n0_ n1_ n2_; (try clear hb); (try clear hb2); (try clear hk); (try clear hi); (try clear ho0); obtain ⟨Ao11, co11, eo11⟩ := Kd.R_slice HO382.out; subst eo11))
          go_roundg k1
          case measure => have := HK1.out; omega
          case rel => exact ⟨(wrap64 (x4_1 + 1)), (by first | rfl | (simp; done) | (simp [*]; done)), H', ⟨by have := HK1.out; omega⟩, ⟨by (with_reducible repeat (first | refine blk_drewN ?_ _ | refine blk_drew ?_ | refine blk_alloc ?_ _)); exact BK379.out⟩, ⟨by repeat (first | (with_reducible first | exact HB.out | apply below_alloc | apply pw_below_drewN | apply below_drew1 | refine below_set ?_ GE379.out) | exact HB.out)⟩⟩
      · rw [if_neg c3] at H
        have c3b0 : decide (x4_1 ≤ 1000) = false := decide_eq_false c3
        clear c3
        simp only [Option.some.injEq, Prod.mk.injEq] at H
        obtain ⟨rfl, rfl⟩ := H
        go_wp2
        go_ret2
        exact ⟨_, by first | rfl | (simp [errW_none, errW_some] <;> rfl) | (simp [*, errW_none, errW_some] <;> rfl), by first | exact Kd.R_nil _ _ _ _ _ | exact Kd.N_nil _ _ _ _ _ | exact Kd.V_nil _ _ _ _ _ | exact Kd.Q_nil _ _ _ _ _ | exact Kd.S_nil _ _ _ _ _, by repeat (first | (with_reducible first | exact HB.out | apply below_alloc | apply pw_below_drewN | apply below_drew1 | refine below_set ?_ GE379.out) | exact HB.out)⟩
end Go.Proofs.YtdjlfdbnmnjccaaGreat.St
end
section
set_option linter.unusedVariables false
set_option linter.unusedSimpArgs false
namespace Go.Proofs.YtdjlfdbnmnjccaaGreat.St
open Go.RowKit Go.Proofs.YtdjlfdbnmnjccaaGreatW.PrintWords Go.Proofs.YtdjlfdbnmnjccaaGreatW.PrintLast Go.Proofs.YtdjlfdbnmnjccaaGreatW.PrintMore
def calledL (s h : Int) : List S60 → ByteArray → Int → ByteArray
  | [], nm, _ => nm
  | c :: cs, nm, a => if c.f1 = s ∧ c.f0 ≤ h ∧ a ≤ c.f0 then calledL s h cs c.f2 c.f0 else calledL s h cs nm a
def calledP (first : List ByteArray) (changes : List S60) (s h : Int) : ByteArray := calledL s h changes (rdOf ByteArray.empty first s) 0
theorem drop_rd {xs : List S60} {i : Nat} (h : i < xs.length) : xs.drop i = rd_T60 xs (i : Int) :: xs.drop (i + 1) := by
  rw [List.drop_eq_getElem_cons h]
  congr 1
  unfold rd_T60
  simp [List.getD_eq_getElem?_getD, h]
theorem w64 {i : Nat} (h : i < 1000000) : wrap64 ((i : Int) + 1) = ((i + 1 : Nat) : Int) := by unfold wrap64; omega
theorem called_l0 (s h : Int) (first : List ByteArray) (changes : List S60) (hn : changes.length < 100000) :
    ∀ (d i k : Nat) (nm : ByteArray) (a : Int), i + d = changes.length → d < k → smaltoref08_Called.l0 k s h nm a i first changes = some (calledL s h (changes.drop i) nm a)
  | 0, i, k + 1, nm, a, hd, hk => by
    unfold smaltoref08_Called.l0
    rw [if_neg (by omega), List.drop_of_length_le (by omega)]
    rfl
  | d + 1, i, k + 1, nm, a, hd, hk => by
    have ih := fun nm a => called_l0 s h first changes hn d (i + 1) k nm a (by omega) (by omega)
    unfold smaltoref08_Called.l0
    rw [if_pos (by omega), if_pos (by omega), w64 (by omega), drop_rd (by omega)]
    unfold calledL
    simp only [ih]
    by_cases h1 : (rd_T60 changes (i : Int)).f1 = s
    · by_cases h2 : (rd_T60 changes (i : Int)).f0 ≤ h
      · by_cases h3 : a ≤ (rd_T60 changes (i : Int)).f0
        · simp [h1, h2, h3]
        · simp [h1, h2, h3]
      · simp [h1, h2]
    · simp [h1]
theorem called_f (first : List ByteArray) (changes : List S60) (hn : changes.length < 100000) (s : Nat) (hs : s < first.length) (h : Int) (k : Nat) (hk : changes.length < k) :
    smaltoref08_Called.f k first changes s h = some (calledP first changes s h) := by
  unfold smaltoref08_Called.f
  rw [if_pos (by omega), if_pos (by omega)]
  exact called_l0 s h first changes hn changes.length 0 k _ 0 (by omega) hk
def manyP (s h : Int) (l : List S60) : Nat := (l.filter fun c => decide (c.f0 = h) && decide (c.f1 = s)).length
def sameP (first : List ByteArray) (changes : List S60) (h : Int) (s m : Nat) : Bool := (List.range m).any fun o => o != s && (calledP first changes o h).toList == (calledP first changes s h).toList
def twiceTo (changes : List S60) (h : Int) (m : Nat) : List Int := ((List.range m).filter fun s : Nat => decide (1 < manyP (s : Int) h changes)).map fun s : Nat => (s : Int)
def alikeTo (first : List ByteArray) (changes : List S60) (h : Int) (m : Nat) : List Int := ((List.range m).filter fun s : Nat => sameP first changes h s first.length).map fun s : Nat => (s : Int)
def clashP (first : List ByteArray) (changes : List S60) (h : Int) : List Int :=
  if 0 < (twiceTo changes h first.length).length then twiceTo changes h first.length else alikeTo first changes h first.length
theorem manyP_cons (s h : Int) (c : S60) (cs : List S60) : manyP s h (c :: cs) = (if c.f0 = h ∧ c.f1 = s then 1 else 0) + manyP s h cs := by
  unfold manyP
  by_cases h1 : c.f0 = h
  · by_cases h2 : c.f1 = s
    · simp [h1, h2]; omega
    · simp [h1, h2]
  · simp [h1]
theorem sameP_succ (first : List ByteArray) (changes : List S60) (h : Int) (s m : Nat) : sameP first changes h s (m + 1) = (sameP first changes h s m || (m != s && (calledP first changes m h).toList == (calledP first changes s h).toList)) := by
  unfold sameP
  rw [List.range_succ, List.any_append]
  simp
theorem twiceTo_succ (changes : List S60) (h : Int) (m : Nat) : twiceTo changes h (m + 1) = if 1 < manyP (m : Int) h changes then twiceTo changes h m ++ [(m : Int)] else twiceTo changes h m := by
  unfold twiceTo
  rw [List.range_succ, List.filter_append, List.map_append]
  by_cases e : 1 < manyP (m : Int) h changes
  · simp [e]
  · simp [e]
theorem alikeTo_succ (first : List ByteArray) (changes : List S60) (h : Int) (m : Nat) : alikeTo first changes h (m + 1) = if sameP first changes h m first.length = true then alikeTo first changes h m ++ [(m : Int)] else alikeTo first changes h m := by
  unfold alikeTo
  rw [List.range_succ, List.filter_append, List.map_append]
  by_cases e : sameP first changes h m first.length = true
  · simp [e]
  · simp [e]
theorem twiceTo_len (changes : List S60) (h : Int) (m : Nat) : (twiceTo changes h m).length ≤ m := by
  unfold twiceTo
  rw [List.length_map]
  exact Nat.le_trans (List.length_filter_le _ _) (by simp)
theorem alikeTo_len (first : List ByteArray) (changes : List S60) (h : Int) (m : Nat) : (alikeTo first changes h m).length ≤ m := by
  unfold alikeTo
  rw [List.length_map]
  exact Nat.le_trans (List.length_filter_le _ _) (by simp)
section
variable (first : List ByteArray) (changes : List S60) (hn : changes.length < 1000) (hf : first.length < 1000) (h : Int)
include hn hf
theorem clash_l1 (tw al : List Int) (s : Nat) :
    ∀ (d i k n : Nat) (b : Bool), i + d = changes.length → n ≤ i → smaltoref08_Clash.l1 (k + d + 1) h tw al s n b i first changes = smaltoref08_Clash.l2 k h tw al s ((n + manyP s h (changes.drop i) : Nat) : Int) b 0 first changes
  | 0, i, k, n, b, hd, hni => by
    show smaltoref08_Clash.l1 (k + 1) h tw al s n b i first changes = _
    unfold smaltoref08_Clash.l1
    rw [if_neg (by omega), List.drop_of_length_le (by omega)]
    rfl
  | d + 1, i, k, n, b, hd, hni => by
    show smaltoref08_Clash.l1 ((k + d + 1) + 1) h tw al s n b i first changes = _
    unfold smaltoref08_Clash.l1
    rw [if_pos (by omega), if_pos (by omega), w64 (by omega), w64 (by omega), drop_rd (by omega), manyP_cons]
    by_cases h1 : (rd_T60 changes (i : Int)).f0 = h
    · by_cases h2 : (rd_T60 changes (i : Int)).f1 = s
      · rw [if_pos h1, if_pos h2, clash_l1 tw al s d (i + 1) k (n + 1) b (by omega) (by omega), if_pos ⟨h1, h2⟩, Nat.add_assoc]
      · rw [if_pos h1, if_neg h2, clash_l1 tw al s d (i + 1) k n b (by omega) (by omega), if_neg (fun e => h2 e.2), Nat.zero_add]
    · rw [if_neg h1, clash_l1 tw al s d (i + 1) k n b (by omega) (by omega), if_neg (fun e => h1 e.1), Nat.zero_add]
theorem clash_l2 (tw al : List Int) (s : Nat) (hs : s < first.length) (ht : tw.length < 1000) (ha : al.length < 1000) (n k : Nat) (hk : changes.length < k) :
    ∀ (d j : Nat), j + d = first.length → smaltoref08_Clash.l2 (k + d + 1) h tw al s (n : Int) (sameP first changes h s j) j first changes =
      smaltoref08_Clash.l0 k h (if 1 < n then tw ++ [(s : Int)] else tw) (if sameP first changes h s first.length = true then al ++ [(s : Int)] else al) ((s + 1 : Nat) : Int) first changes
  | 0, j, hd => by
    obtain rfl : j = first.length := by omega
    show smaltoref08_Clash.l2 (k + 1) h tw al s (n : Int) _ _ first changes = _
    unfold smaltoref08_Clash.l2
    rw [if_neg (by omega), w64 (by omega)]
    by_cases h1 : 1 < n
    · rw [if_pos (by omega), if_pos (by omega), if_pos h1, Option.bind_some]
      by_cases h2 : sameP first changes h s first.length = true
      · rw [if_pos h2, if_pos (by omega), if_pos h2]
      · rw [if_neg h2, if_neg h2]
    · rw [if_neg (by omega), if_neg h1]
      by_cases h2 : sameP first changes h s first.length = true
      · rw [if_pos h2, if_pos (by omega), if_pos h2]
      · rw [if_neg h2, if_neg h2]
  | d + 1, j, hd => by
    have ih := clash_l2 tw al s hs ht ha n k hk d (j + 1) (by omega)
    rw [sameP_succ] at ih
    show smaltoref08_Clash.l2 ((k + d + 1) + 1) h tw al s (n : Int) _ _ first changes = _
    unfold smaltoref08_Clash.l2
    rw [if_pos (by omega), w64 (by omega), called_f first changes (by omega) j (by omega) h _ (by omega), called_f first changes (by omega) s hs h _ (by omega)]
    simp only [Option.bind_some]
    by_cases h1 : sameP first changes h s j = true
    · rw [if_pos h1]
      rw [h1, Bool.true_or] at ih
      exact ih
    · rw [if_neg h1]
      have h1' : sameP first changes h s j = false := by simpa using h1
      rw [h1', Bool.false_or] at ih
      by_cases h2 : j = s
      · subst h2
        rw [if_pos rfl]
        simpa using ih
      · rw [if_neg (by omega)]
        have h3 : (j != s) = true := by simpa using h2
        rw [h3, Bool.true_and] at ih
        exact ih
theorem clash_l0 (k : Nat) (hk : changes.length < k) :
    ∀ (d s : Nat), s + d = first.length → smaltoref08_Clash.l0 (k + d * (first.length + changes.length + 3) + 1) h (twiceTo changes h s) (alikeTo first changes h s) s first changes = some (clashP first changes h)
  | 0, s, hd => by
    obtain rfl : s = first.length := by omega
    rw [Nat.zero_mul, Nat.add_zero]
    unfold smaltoref08_Clash.l0
    rw [if_neg (by omega)]
    unfold clashP
    by_cases e : 0 < (twiceTo changes h first.length).length
    · rw [if_pos (by omega), if_pos e]
    · rw [if_neg (by omega), if_neg e]
  | d + 1, s, hd => by
    have ih := clash_l0 k hk d (s + 1) (by omega)
    have e1 : k + (d + 1) * (first.length + changes.length + 3) + 1 = (((k + d * (first.length + changes.length + 3) + 1) + first.length + 1) + changes.length + 1) + 1 := by rw [Nat.succ_mul]; omega
    rw [e1]
    unfold smaltoref08_Clash.l0
    rw [if_pos (by omega)]
    have e2 := clash_l1 first changes hn hf h (twiceTo changes h s) (alikeTo first changes h s) s changes.length 0 ((k + d * (first.length + changes.length + 3) + 1) + first.length + 1) 0 false (by omega) (Nat.le_refl _)
    have e3 := clash_l2 first changes hn hf h (twiceTo changes h s) (alikeTo first changes h s) s (by omega) (by have := twiceTo_len changes h s; omega) (by have := alikeTo_len first changes h s; omega) (manyP s h changes) (k + d * (first.length + changes.length + 3) + 1) (by omega) first.length 0 (by omega)
    rw [List.drop_zero, Nat.zero_add] at e2
    refine Eq.trans e2 (Eq.trans e3 ?_)
    rw [← twiceTo_succ, ← alikeTo_succ]
    exact ih
theorem clash_f (k : Nat) (hk : changes.length + first.length * (first.length + changes.length + 3) + 1 < k) : smaltoref08_Clash.f k first changes h = some (clashP first changes h) := by
  have := clash_l0 first changes hn hf h (k - (first.length * (first.length + changes.length + 3) + 1)) (by omega) first.length 0 (by omega)
  rw [show k - (first.length * (first.length + changes.length + 3) + 1) + first.length * (first.length + changes.length + 3) + 1 = k by omega] at this
  exact this
end
def firstP (first : List ByteArray) (changes : List S60) : Nat → Int → Int × List Int
  | 0, _ => (1001, [])
  | n + 1, h => if 0 < (clashP first changes h).length then (h, clashP first changes h) else firstP first changes n (h + 1)
theorem firstP_succ (first : List ByteArray) (changes : List S60) (n : Nat) (h : Int) : firstP first changes (n + 1) h = if 0 < (clashP first changes h).length then (h, clashP first changes h) else firstP first changes n (h + 1) := rfl
theorem first_f (first : List ByteArray) (changes : List S60) (hn : changes.length < 1000) (hf : first.length < 1000) (k : Nat) (hk : changes.length + first.length * (first.length + changes.length + 3) + 1 < k) :
    smaltoref08_First.f (k + 1001) first changes = some (firstP first changes 1000 1) := by
  unfold smaltoref08_First.f
  have key : ∀ (d h : Nat), h + d = 1001 → smaltoref08_First.l0 (k + d + 1) h first changes = some (firstP first changes d h) := by
    intro d
    induction d with
    | zero =>
      intro h hd
      rw [Nat.add_zero]
      unfold smaltoref08_First.l0
      rw [if_neg (by omega)]
      rfl
    | succ d ih =>
      intro h hd
      show smaltoref08_First.l0 ((k + d + 1) + 1) h first changes = _
      unfold smaltoref08_First.l0
      rw [if_pos (by omega), clash_f first changes hn hf h _ (by omega), Option.bind_some, w64 (by omega), ih (h + 1) (by omega)]
      rw [firstP_succ]
      by_cases e : 0 < (clashP first changes h).length
      · rw [if_pos (by omega), if_pos e]
      · rw [if_neg (by omega), if_neg e]
        rfl
  exact key 1000 1 rfl
end Go.Proofs.YtdjlfdbnmnjccaaGreat.St
end
section
set_option linter.unusedVariables false
set_option linter.unusedSimpArgs false
namespace Go.Proofs.YtdjlfdbnmnjccaaGreat.St
open Go.Sort hiding rd
open Go.RowKit Go.Shelf Go.Proofs.YtdjlfdbnmnjccaaGreatW.PrintWords Go.Proofs.YtdjlfdbnmnjccaaGreatW.PrintLast Go.Proofs.YtdjlfdbnmnjccaaGreatW.PrintMore
theorem check_ok {first : List ByteArray} {changes : List S60} (h : checkE first changes = 0) :
    1 ≤ first.length ∧ first.length ≤ 6 ∧ (∀ s ∈ first, isNameB s = true) ∧ twinsL ByteArray.empty first = [] ∧ changes.length ≤ 8 ∧ ∀ c ∈ changes, isChangeB c first.length = true := by
  unfold checkE at h
  split at h
  · simp at h
  · rename_i h1
    split at h
    · simp at h
    · rename_i h2
      split at h
      · simp at h
      · rename_i h3
        split at h
        · simp at h
        · rename_i h4
          split at h
          · simp at h
          · rename_i h5
            simp at h1 h2 h3 h5
            exact ⟨by omega, by omega, h2, h3, by omega, h5⟩
theorem name_size {s : ByteArray} (h : isNameB s = true) : s.size ≤ 10 := by
  unfold isNameB at h
  simp at h
  omega
def openE (first : List ByteArray) (changes : List S60) : Int :=
  if checkE first changes = 0 then (if (bookOf first changes).2.2 = [] then 0 else 9) else checkE first changes
theorem blk3 {W : World} {g : Nat} {x0 x1 x2 : Value} {t : TypeId} (h : W.heap[g]? = some (.cells #[x0, x1, x2] t (0, 0))) :
    (W.cell? ⟨g, 0, none⟩ = some x0 ∧ W.cell? ⟨g, 1, none⟩ = some x1 ∧ W.cell? ⟨g, 2, none⟩ = some x2) ∧
    (W.frozen? ⟨g, 0, none⟩ = false ∧ W.frozen? ⟨g, 1, none⟩ = false ∧ W.frozen? ⟨g, 2, none⟩ = false) ∧ g < W.heap.size :=
  ⟨⟨(blk_cell h 0).trans rfl, (blk_cell h 1).trans rfl, (blk_cell h 2).trans rfl⟩, ⟨blk_frozen h 0, blk_frozen h 1, blk_frozen h 2⟩, blk_lt h⟩
theorem blk3_self {W : World} {g : Nat} {x0 x1 x2 : Value} {t : TypeId} (h : W.heap[g]? = some (.cells #[x0, x1, x2] t (0, 0))) (y0 y1 y2 : Value) :
    (((W.setCell ⟨g, 0, none⟩ y0).setCell ⟨g, 1, none⟩ y1).setCell ⟨g, 2, none⟩ y2).heap[g]? = some (.cells #[y0, y1, y2] t (0, 0)) :=
  blk_put (blk_put (blk_put h 0 y0 rfl) 1 y1 rfl) 2 y2 rfl
theorem below3 {w W : World} {g : Nat} (h : Below w.heap.size w W) (hg : w.heap.size ≤ g) (y0 y1 y2 : Value) : Below w.heap.size w (((W.setCell ⟨g, 0, none⟩ y0).setCell ⟨g, 1, none⟩ y1).setCell ⟨g, 2, none⟩ y2) :=
  ((h.setCell (p := ⟨g, 0, none⟩) hg _).setCell (p := ⟨g, 1, none⟩) hg _).setCell (p := ⟨g, 2, none⟩) hg _
theorem R_set3 {α : Type} {d : Kd α} {e base : Nat} {ok : Nat → Prop} {W : World} {v : Value} {xs : List α} {g : Nat} {x0 x1 x2 : Value} {t : TypeId} (hv : d.R e W base ok v xs) (h : W.heap[g]? = some (.cells #[x0, x1, x2] t (0, 0))) (ht : ∀ q, q ∈ e :: d.E → q ≠ t) (y0 y1 y2 : Value) :
    d.R e (((W.setCell ⟨g, 0, none⟩ y0).setCell ⟨g, 1, none⟩ y1).setCell ⟨g, 2, none⟩ y2) base ok v xs :=
  Kd.R_set (Kd.R_set (Kd.R_set hv h ht 0 y0) (blk_put h 0 y0 rfl) ht 1 y1) (blk_put (blk_put h 0 y0 rfl) 1 y1 rfl) ht 2 y2
set_option maxHeartbeats 4000000 in
set_option maxRecDepth 100000 in
theorem open_any (A0 : Option Addr) (c0 : Nat) (first : List ByteArray) (A1 : Option Addr) (c1 : Nat) (changes : List S60) (w : World)
    (hr0 : Kd.C Kd.string w A0 first.length first) (hc0 : first.length ≤ c0) (hr1 : Kd.C k60 w A1 changes.length changes) (hc1 : changes.length ≤ c1) :
    Calls Tryz.prog 69 #[.agg #[.slice A0 first.length c0, .slice A1 changes.length c1]] w fun e w' =>
      ∃ (B0 : Option Addr) (n0 d0 : Nat) (B1 : Option Addr) (n1 d1 : Nat) (Bp : Option Addr) (np dp : Nat), e = .returned (.tuple #[.agg #[.slice B0 n0 d0, .slice B1 n1 d1, .slice Bp np dp], .int .i64 (openE first changes)]) ∧
        (openE first changes = 0 → Value.slice B0 n0 d0 = .slice A0 first.length c0 ∧ Value.slice B1 n1 d1 = .slice A1 changes.length c1 ∧
        Kd.R k167 167 w' w.heap.size (fun _ => True) (.slice Bp np dp) (bookOf first changes).1) ∧ Below w.heap.size w w' := by
  have HCH := Aside0.mk (fun (W : World) (hb : Below w.heap.size w W) => check_any A0 c0 first A1 c1 changes W (Kd.C_below hr0 hb) (Kd.C_below hr1 hb))
  have HNB := Aside0.mk (fun (a0 : Addr) (e : A0 = some a0) (h : checkE first changes = 0) (W : World) (hb : Below w.heap.size w W) => newBook_any a0 c0 first A1 c1 changes W (e ▸ Kd.C_below hr0 hb) hc0 (Kd.C_below hr1 hb) hc1 (check_ok h).1 (check_ok h).2.1 (fun s hs => name_size ((check_ok h).2.2.1 s hs)) (by have := (check_ok h).2.2.2.2.1; omega) (check_ok h).2.2.2.2.2)
  have HSOME := Aside0.mk (fun (h : checkE first changes = 0) => (Kd.at_string hr0 0 (by omega) (by have := (check_ok h).1; omega)))
  clear hr0 hr1
  have q3 := nil_neq (P := Tryz.prog) Tryz.underlying31
  have q4 := some_neq (P := Tryz.prog) Tryz.underlying31
  go_enter Tryz.func69, Tryz.ntmps69
  go_wp2_with fail
  obtain ⟨W1, hW1⟩ : ∃ W1, (w.alloc (.cells #[.slice A0 first.length c0, .slice A1 changes.length c1] 25)).alloc (.cells #[.slice none 0 0, .slice none 0 0, .slice none 0 0] 124) = W1 := ⟨_, rfl⟩
  have hb1 : Below w.heap.size w W1 := by rw [← hW1]; exact below_alloc (below_alloc (Below.refl _ _) _) _
  have hbt : W1.heap[w.heap.size]? = some (.cells #[.slice A0 first.length c0, .slice A1 changes.length c1] 25 (0, 0)) := by
    rw [← hW1]; exact blk_alloc (blk_new w _) _
  have hbb : W1.heap[w.heap.size + 1]? = some (.cells #[.slice none 0 0, .slice none 0 0, .slice none 0 0] 124 (0, 0)) := by
    rw [← hW1]
    have := blk_new (w.alloc (.cells #[.slice A0 first.length c0, .slice A1 changes.length c1] 25)) (.cells #[.slice none 0 0, .slice none 0 0, .slice none 0 0] 124)
    rwa [World.size_alloc] at this
  rw [hW1]
  clear hW1
  refine (HCH.out W1 hb1).mono ?_
  rintro e w2 ⟨rfl, hb⟩
  have HB2 := Aside0.mk (below_from hb1 hb)
  have BT2 := Aside0.mk (blk_below hbt hb)
  have BB2 := Aside0.mk (blk_below hbb hb)
  clear hb hb1 hbt hbb HCH
  obtain ⟨t0, t1, t2⟩ := blk2 BT2.out
  obtain ⟨⟨b0, b1, b2⟩, ⟨f0, f1, f2⟩, bl⟩ := blk3 BB2.out
  obtain ⟨ce, hce⟩ : ∃ ce, checkE first changes = ce := ⟨_, rfl⟩
  rw [hce]
  by_cases h0 : ce = 0
  · subst h0
    obtain ⟨a0, rfl, _⟩ := HSOME.out hce
    have HN := Aside0.mk (HNB.out a0 rfl hce w2 HB2.out)
    have HCE := Aside0.mk hce
    clear HNB HSOME hce
    go_wp2_with fail
    refine HN.out.mono ?_
    rintro e w3 ⟨pv, sv, rfl, hp, hs, hnil, hb⟩
    have HB3 := Aside0.mk (below_from HB2.out hb)
    have BB3 := Aside0.mk (blk_below BB2.out hb)
    have HP3 := Aside0.mk (Kd.R_lower hp HB2.out.size)
    clear hb hp b0 b1 b2 f0 f1 f2 bl t0 t1 t2 BB2 BT2 HB2 HN
    obtain ⟨Ap, cp, rfl⟩ := Kd.R_slice HP3.out
    obtain ⟨⟨b0, b1, b2⟩, ⟨f0, f1, f2⟩, bl⟩ := blk3 BB3.out
    by_cases hst : (bookOf first changes).2.2 = []
    · obtain rfl := hnil hst
      have HOE := Aside0.mk (show openE first changes = 0 from by unfold openE; rw [if_pos HCE.out, if_pos hst])
      clear hst hs hnil
      go_wp2_with fail
      obtain ⟨V, hV⟩ : ∃ V, (((w3.setCell ⟨w.heap.size + 1, 0, none⟩ (.slice (some a0) first.length c0)).setCell ⟨w.heap.size + 1, 1, none⟩ (.slice A1 changes.length c1)).setCell ⟨w.heap.size + 1, 2, none⟩ (.slice Ap (bookOf first changes).1.length cp)) = V := ⟨_, rfl⟩
      have JV := blk3_self BB3.out (.slice (some a0) first.length c0) (.slice A1 changes.length c1) (.slice Ap (bookOf first changes).1.length cp)
      have HBV := below3 HB3.out (g := w.heap.size + 1) (by omega) (.slice (some a0) first.length c0) (.slice A1 changes.length c1) (.slice Ap (bookOf first changes).1.length cp)
      have HPV := R_set3 HP3.out BB3.out (by decide) (.slice (some a0) first.length c0) (.slice A1 changes.length c1) (.slice Ap (bookOf first changes).1.length cp)
      rw [hV] at JV HBV HPV ⊢
      obtain ⟨W', hW'⟩ : ∃ W', (((V.setCell ⟨w.heap.size + 1, 0, none⟩ (.slice (some a0) first.length c0)).setCell ⟨w.heap.size + 1, 1, none⟩ (.slice A1 changes.length c1)).setCell ⟨w.heap.size + 1, 2, none⟩ (.slice Ap (bookOf first changes).1.length cp)) = W' := ⟨_, rfl⟩
      have JW := blk3_self JV (.slice (some a0) first.length c0) (.slice A1 changes.length c1) (.slice Ap (bookOf first changes).1.length cp)
      have HBW := below3 HBV (g := w.heap.size + 1) (by omega) (.slice (some a0) first.length c0) (.slice A1 changes.length c1) (.slice Ap (bookOf first changes).1.length cp)
      have HPW := R_set3 HPV JV (by decide) (.slice (some a0) first.length c0) (.slice A1 changes.length c1) (.slice Ap (bookOf first changes).1.length cp)
      rw [hW'] at JW HBW HPW ⊢
      obtain ⟨⟨q0, q1, q2⟩, _, _⟩ := blk3 JW
      rw [HOE.out]
      refine bodyPost_ret (v := .tuple #[.agg #[.slice (some a0) first.length c0, .slice A1 changes.length c1, .slice Ap (bookOf first changes).1.length cp], .int .i64 0]) (by simp [results, Tryz.results69, go_sem, q0, q1, q2]) rfl ?_
      exact ⟨_, _, _, _, _, _, _, _, _, rfl, fun _ => ⟨rfl, rfl, HPW⟩, HBW⟩
    · obtain ⟨g4, c4, rfl, _, _, _⟩ := Kd.R_form hs (List.length_pos_iff.2 hst)
      have HOE := Aside0.mk (show openE first changes = 9 from by unfold openE; rw [if_pos HCE.out, if_neg hst])
      clear hst hs hnil
      go_wp2_with fail
      obtain ⟨V, hV⟩ : ∃ V, (((w3.setCell ⟨w.heap.size + 1, 0, none⟩ (.slice (some a0) first.length c0)).setCell ⟨w.heap.size + 1, 1, none⟩ (.slice A1 changes.length c1)).setCell ⟨w.heap.size + 1, 2, none⟩ (.slice Ap (bookOf first changes).1.length cp)) = V := ⟨_, rfl⟩
      have JV := blk3_self BB3.out (.slice (some a0) first.length c0) (.slice A1 changes.length c1) (.slice Ap (bookOf first changes).1.length cp)
      have HBV := below3 HB3.out (g := w.heap.size + 1) (by omega) (.slice (some a0) first.length c0) (.slice A1 changes.length c1) (.slice Ap (bookOf first changes).1.length cp)
      have HPV := R_set3 HP3.out BB3.out (by decide) (.slice (some a0) first.length c0) (.slice A1 changes.length c1) (.slice Ap (bookOf first changes).1.length cp)
      rw [hV] at JV HBV HPV ⊢
      obtain ⟨W', hW'⟩ : ∃ W', (((V.setCell ⟨w.heap.size + 1, 0, none⟩ (.slice (some a0) first.length c0)).setCell ⟨w.heap.size + 1, 1, none⟩ (.slice A1 changes.length c1)).setCell ⟨w.heap.size + 1, 2, none⟩ (.slice Ap (bookOf first changes).1.length cp)) = W' := ⟨_, rfl⟩
      have JW := blk3_self JV (.slice (some a0) first.length c0) (.slice A1 changes.length c1) (.slice Ap (bookOf first changes).1.length cp)
      have HBW := below3 HBV (g := w.heap.size + 1) (by omega) (.slice (some a0) first.length c0) (.slice A1 changes.length c1) (.slice Ap (bookOf first changes).1.length cp)
      have HPW := R_set3 HPV JV (by decide) (.slice (some a0) first.length c0) (.slice A1 changes.length c1) (.slice Ap (bookOf first changes).1.length cp)
      rw [hW'] at JW HBW HPW ⊢
      obtain ⟨⟨q0, q1, q2⟩, _, _⟩ := blk3 JW
      rw [HOE.out]
      refine bodyPost_ret (v := .tuple #[.agg #[.slice (some a0) first.length c0, .slice A1 changes.length c1, .slice Ap (bookOf first changes).1.length cp], .int .i64 9]) (by simp [results, Tryz.results69, go_sem, q0, q1, q2]) rfl ?_
      exact ⟨_, _, _, _, _, _, _, _, _, rfl, fun _ => ⟨rfl, rfl, HPW⟩, HBW⟩
  · have h0' : (ce != 0) = true := by simp [h0]
    have hoe : openE first changes = ce := by unfold openE; rw [hce, if_neg h0]
    have H0 := Aside0.mk (And.intro h0 hoe)
    clear h0 hoe
    go_wp2_with fail
    obtain ⟨W', hW'⟩ : ∃ W', (((w2.setCell ⟨w.heap.size + 1, 0, none⟩ (.slice none 0 0)).setCell ⟨w.heap.size + 1, 1, none⟩ (.slice none 0 0)).setCell ⟨w.heap.size + 1, 2, none⟩ (.slice none 0 0)) = W' := ⟨_, rfl⟩
    have JW := blk3_self BB2.out (.slice none 0 0) (.slice none 0 0) (.slice none 0 0)
    have HBW := below3 HB2.out (g := w.heap.size + 1) (by omega) (.slice none 0 0) (.slice none 0 0) (.slice none 0 0)
    rw [hW'] at JW HBW ⊢
    obtain ⟨⟨q0, q1, q2⟩, _, _⟩ := blk3 JW
    rw [H0.out.2]
    refine bodyPost_ret (v := .tuple #[.agg #[.slice none 0 0, .slice none 0 0, .slice none 0 0], .int .i64 ce]) (by simp [results, Tryz.results69, go_sem, q0, q1, q2]) rfl ?_
    exact ⟨_, _, _, _, _, _, _, _, _, rfl, fun h => absurd h H0.out.1, HBW⟩
end Go.Proofs.YtdjlfdbnmnjccaaGreat.St
end
section
set_option linter.unusedVariables false
set_option linter.unusedSimpArgs false
namespace Go.Proofs.YtdjlfdbnmnjccaaGreat.St
open Go.Sort hiding rd
open Go.RowKit Go.Shelf Go.Proofs.YtdjlfdbnmnjccaaGreatW.PrintWords Go.Proofs.YtdjlfdbnmnjccaaGreatW.PrintLast Go.Proofs.YtdjlfdbnmnjccaaGreatW.PrintMore
def clashR (first : List ByteArray) (changes : List S60) : Int × List Int × Int :=
  if checkE first changes = 0 then (if (bookOf first changes).2.2 = [] then (0, [], 6) else ((bookOf first changes).2.1, (bookOf first changes).2.2, 0)) else (0, [], checkE first changes)
set_option maxHeartbeats 4000000 in
set_option maxRecDepth 100000 in
theorem clash_any (A0 : Option Addr) (c0 : Nat) (first : List ByteArray) (A1 : Option Addr) (c1 : Nat) (changes : List S60) (w : World)
    (hr0 : Kd.C Kd.string w A0 first.length first) (hc0 : first.length ≤ c0) (hr1 : Kd.C k60 w A1 changes.length changes) (hc1 : changes.length ≤ c1) :
    Calls Tryz.prog 14 #[.agg #[.slice A0 first.length c0, .slice A1 changes.length c1]] w fun e w' =>
      ∃ sv : Value, e = .returned (.tuple #[.int .i64 (clashR first changes).1, sv, .int .i64 (clashR first changes).2.2]) ∧
        Kd.R (Kd.int .i64) 3 w' w.heap.size (fun _ => True) sv (clashR first changes).2.1 ∧ Below w.heap.size w w' := by
  have HCH := Aside0.mk (fun (W : World) (hb : Below w.heap.size w W) => check_any A0 c0 first A1 c1 changes W (Kd.C_below hr0 hb) (Kd.C_below hr1 hb))
  have HNB := Aside0.mk (fun (a0 : Addr) (e : A0 = some a0) (h : checkE first changes = 0) (W : World) (hb : Below w.heap.size w W) => newBook_any a0 c0 first A1 c1 changes W (e ▸ Kd.C_below hr0 hb) hc0 (Kd.C_below hr1 hb) hc1 (check_ok h).1 (check_ok h).2.1 (fun s hs => name_size ((check_ok h).2.2.1 s hs)) (by have := (check_ok h).2.2.2.2.1; omega) (check_ok h).2.2.2.2.2)
  have HSOME := Aside0.mk (fun (h : checkE first changes = 0) => (Kd.at_string hr0 0 (by omega) (by have := (check_ok h).1; omega)))
  clear hr0 hr1
  have q1 := nil_eql (P := Tryz.prog) Tryz.underlying31
  have q2 := some_eql (P := Tryz.prog) Tryz.underlying31
  go_enter Tryz.func14, Tryz.ntmps14
  go_wp2_with fail
  obtain ⟨W1, hW1⟩ : ∃ W1, w.alloc (.cells #[.slice A0 first.length c0, .slice A1 changes.length c1] 25) = W1 := ⟨_, rfl⟩
  have hb1 : Below w.heap.size w W1 := by rw [← hW1]; exact below_alloc (Below.refl _ _) _
  have hbt : W1.heap[w.heap.size]? = some (.cells #[.slice A0 first.length c0, .slice A1 changes.length c1] 25 (0, 0)) := by
    rw [← hW1]; exact blk_new w _
  rw [hW1]
  clear hW1
  refine (HCH.out W1 hb1).mono ?_
  rintro e w2 ⟨rfl, hb⟩
  have HB2 := Aside0.mk (below_from hb1 hb)
  have BT2 := Aside0.mk (blk_below hbt hb)
  clear hb hb1 hbt HCH
  obtain ⟨t0, t1, t2⟩ := blk2 BT2.out
  obtain ⟨ce, hce⟩ : ∃ ce, checkE first changes = ce := ⟨_, rfl⟩
  rw [hce]
  by_cases h0 : ce = 0
  · subst h0
    obtain ⟨a0, rfl, _⟩ := HSOME.out hce
    have HN := Aside0.mk (HNB.out a0 rfl hce w2 HB2.out)
    have HCE := Aside0.mk hce
    clear HNB HSOME hce
    go_wp2_with fail
    refine HN.out.mono ?_
    rintro e w3 ⟨pv, sv, rfl, hp, hs, hnil, hb⟩
    have HB3 := Aside0.mk (below_from HB2.out hb)
    have HS3 := Aside0.mk (Kd.R_lower hs HB2.out.size)
    clear hb t0 t1 t2 BT2 HB2 HN
    obtain ⟨Ap, cp, rfl⟩ := Kd.R_slice hp
    clear hp
    by_cases hst : (bookOf first changes).2.2 = []
    · obtain rfl := hnil hst
      have HOE := Aside0.mk (show clashR first changes = (0, [], 6) from by unfold clashR; rw [if_pos HCE.out, if_pos hst])
      clear hst hs hnil
      go_wp2_with fail
      rw [HOE.out]
      refine bodyPost_ret (v := .tuple #[.int .i64 0, .slice none 0 0, .int .i64 6]) (by simp [results, Tryz.results14, go_sem]) rfl ?_
      exact ⟨_, rfl, Kd.R_nil _ _ _ _ _, HB3.out⟩
    · obtain ⟨g4, c4, rfl, _, _, _⟩ := Kd.R_form hs (List.length_pos_iff.2 hst)
      have HOE := Aside0.mk (show clashR first changes = ((bookOf first changes).2.1, (bookOf first changes).2.2, 0) from by unfold clashR; rw [if_pos HCE.out, if_neg hst])
      clear hst hs hnil
      go_wp2_with fail
      rw [HOE.out]
      refine bodyPost_ret (v := .tuple #[.int .i64 (bookOf first changes).2.1, .slice (some ⟨g4, 0, none⟩) (bookOf first changes).2.2.length c4, .int .i64 0]) (by simp [results, Tryz.results14, go_sem]) rfl ?_
      exact ⟨_, rfl, HS3.out, HB3.out⟩
  · have h0' : (ce != 0) = true := by simp [h0]
    have hoe : clashR first changes = (0, [], ce) := by unfold clashR; rw [hce, if_neg h0]
    have H0 := Aside0.mk (And.intro h0 hoe)
    clear h0 hoe
    go_wp2_with fail
    rw [H0.out.2]
    refine bodyPost_ret (v := .tuple #[.int .i64 0, .slice none 0 0, .int .i64 ce]) (by simp [results, Tryz.results14, go_sem]) rfl ?_
    exact ⟨_, rfl, Kd.R_nil _ _ _ _ _, HB2.out⟩
def street_Clash.f (l0_0 : List ByteArray) (l0_1 : List S60) : Option (Int × List Int × Int) := some (clashR l0_0 l0_1)
theorem street_Clash.calls (A0_0 : Option Addr) (c0_0 : Nat) (l0_0 : List ByteArray) (A0_1 : Option Addr) (c0_1 : Nat) (l0_1 : List S60) (r_0 : Int) (r_1 : List Int) (r_2 : Int) (w : World) (hr0_0 : Kd.C Kd.string w A0_0 l0_0.length l0_0) (hc0_0 : l0_0.length ≤ c0_0) (hr0_1 : Kd.C k60 w A0_1 l0_1.length l0_1) (hc0_1 : l0_1.length ≤ c0_1) (h : street_Clash.f l0_0 l0_1 = some (r_0, r_1, r_2)) :
    Calls Tryz.prog 14 #[.agg #[.slice A0_0 l0_0.length c0_0, .slice A0_1 l0_1.length c0_1]] w fun e w' => ∃ v0_ : Value, e = .returned (.tuple #[.int .i64 r_0, v0_, .int .i64 r_2]) ∧ Kd.R (Kd.int .i64) 3 w' w.heap.size (fun _ => True) v0_ r_1 ∧ Below w.heap.size w w' := by
  have e := Option.some.inj h
  have h0 : (clashR l0_0 l0_1).1 = r_0 := by rw [e]
  have h1 : (clashR l0_0 l0_1).2.1 = r_1 := by rw [e]
  have h2 : (clashR l0_0 l0_1).2.2 = r_2 := by rw [e]
  have := clash_any A0_0 c0_0 l0_0 A0_1 c0_1 l0_1 w hr0_0 hc0_0 hr0_1 hc0_1
  rwa [h0, h1, h2] at this
end Go.Proofs.YtdjlfdbnmnjccaaGreat.St
end
