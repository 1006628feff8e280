/- A part of the proofs of the laws of this seat: the walks of the program's functions, and lemmas. They hold without conditions. -/
import Derived.Test.YtdjlfdbnmnjccaaGreatB03
import Derived.Test.YtdjlfdbnmnjccaaGreatB08
import Derived.Test.YtdjlfdbnmnjccaaGreatB21
import Derived.Test.YtdjlfdbnmnjccaaGreatB23
set_option linter.all false
set_option linter.unusedSectionVars false
section
set_option linter.unusedVariables false
set_option linter.unusedSimpArgs false
namespace Go.Proofs.YtdjlfdbnmnjccaaGreat.St
open Go.RowKit Go.Shelf Go.Proofs.YtdjlfdbnmnjccaaGreatW.PrintWords Go.Proofs.YtdjlfdbnmnjccaaGreatW.PrintLast Go.Proofs.YtdjlfdbnmnjccaaGreatW.PrintMore
structure ApR (w : World) (base : Nat) (v : Value) (xs : List Int) (u : Value) (ys : List Int) : Prop where
  a : Kd.R (Kd.int .i64) 3 w base (fun k => some k ≠ u.ownBlock) v xs
  b : Kd.R (Kd.int .i64) 3 w base (fun k => some k ≠ v.ownBlock) u ys
theorem ApR.symm {w : World} {base : Nat} {v u : Value} {xs ys : List Int} (h : ApR w base v xs u ys) : ApR w base u ys v xs := ⟨h.b, h.a⟩
theorem ApR.below {w w' : World} {base : Nat} {v u : Value} {xs ys : List Int} (h : ApR w base v xs u ys) (hb : Below w.heap.size w w') : ApR w' base v xs u ys := ⟨Kd.R_below h.a hb, Kd.R_below h.b hb⟩
theorem own_below {w : World} {base : Nat} {ok : Nat → Prop} {v : Value} {xs : List Int} (h : Kd.R (Kd.int .i64) 3 w base ok v xs) {k : Nat} (hk : w.heap.size ≤ k) : some k ≠ v.ownBlock := by
  obtain ⟨inner, ho⟩ := Kd.R_own h
  intro e
  have := own_lt ho k e.symm
  omega
theorem ApR.grow {w w' : World} {base : Nat} {v v' u : Value} {xs ys xs' : List Int} (h : ApR w base v xs u ys) (hg : w.grownBy w' v.ownBlock) (hat : v'.ownBlock = v.ownBlock ∨ ∃ b, v'.ownBlock = some b ∧ w.heap.size ≤ b) (ho : Kd.R (Kd.int .i64) 3 w' base (fun k => some k ≠ u.ownBlock) v' xs') : ApR w' base v' xs' u ys := by
  refine ⟨ho, ?_⟩
  refine Kd.R_mono (Kd.R_move (Kd.R_bound h.b) (fun k hk => hg.block k hk.2.2.1 hk.1)) (fun k hk => ?_)
  rcases hat with e | ⟨b, e, hb⟩
  · rw [e]; exact hk.1
  · rw [e]
    intro e2
    have e3 : k = b := by simpa using e2
    have := hk.2.2.1
    omega
theorem ApR.start {w : World} {base : Nat} (hb : base ≤ w.heap.size) : ApR ((w.alloc (.cells #[] 3)).alloc (.cells #[] 3)) base (.slice (some ⟨w.heap.size, 0, none⟩) 0 0) [] (.slice (some ⟨w.heap.size + 1, 0, none⟩) 0 0) [] := by
  have r0 := Kd.R_alloc (Kd.R_lower (R_new (Kd.int .i64) 3 w [] [] (Reps.none _ _) (by decide)) hb) (.cells #[] 3)
  have r1 := R_new (Kd.int .i64) 3 (w.alloc (.cells #[] 3)) [] [] (Reps.none _ _) (by decide)
  rw [World.size_alloc] at r1
  refine ⟨Kd.R_flat (fun h => h) r0 (fun k hk _ => ?_), Kd.R_flat (fun h => h) (Kd.R_lower r1 (Nat.le_succ_of_le hb)) (fun k hk _ => ?_)⟩
  · have : k = w.heap.size := by simpa [Value.ownBlock] using hk.symm
    simp [Value.ownBlock]
    omega
  · have : k = w.heap.size + 1 := by simpa [Value.ownBlock] using hk.symm
    simp [Value.ownBlock]
    omega
def manyP (s h : Int) (l : List S60) : Nat := (l.filter fun c => decide (c.f0 = h) && decide (c.f1 = s)).length
def sameP (first : List ByteArray) (changes : List S60) (h : Int) (s m : Nat) : Bool := (List.range m).any fun o => o != s && (calledP first changes o h).toList == (calledP first changes s h).toList
def twiceTo (changes : List S60) (h : Int) (m : Nat) : List Int := ((List.range m).filter fun s : Nat => decide (1 < manyP (s : Int) h changes)).map fun s : Nat => (s : Int)
def alikeTo (first : List ByteArray) (changes : List S60) (h : Int) (m : Nat) : List Int := ((List.range m).filter fun s : Nat => sameP first changes h s first.length).map fun s : Nat => (s : Int)
def clashP (first : List ByteArray) (changes : List S60) (h : Int) : List Int :=
  if 0 < (twiceTo changes h first.length).length then twiceTo changes h first.length else alikeTo first changes h first.length
theorem manyP_cons (s h : Int) (c : S60) (cs : List S60) : manyP s h (c :: cs) = (if c.f0 = h ∧ c.f1 = s then 1 else 0) + manyP s h cs := by
  unfold manyP
  by_cases h1 : c.f0 = h
  · by_cases h2 : c.f1 = s
    · simp [h1, h2]; omega
    · simp [h1, h2]
  · simp [h1]
theorem sameP_succ (first : List ByteArray) (changes : List S60) (h : Int) (s m : Nat) : sameP first changes h s (m + 1) = (sameP first changes h s m || (m != s && (calledP first changes m h).toList == (calledP first changes s h).toList)) := by
  unfold sameP
  rw [List.range_succ, List.any_append]
  simp
theorem twiceTo_succ (changes : List S60) (h : Int) (m : Nat) : twiceTo changes h (m + 1) = if 1 < manyP (m : Int) h changes then twiceTo changes h m ++ [(m : Int)] else twiceTo changes h m := by
  unfold twiceTo
  rw [List.range_succ, List.filter_append, List.map_append]
  by_cases e : 1 < manyP (m : Int) h changes
  · simp [e]
  · simp [e]
theorem alikeTo_succ (first : List ByteArray) (changes : List S60) (h : Int) (m : Nat) : alikeTo first changes h (m + 1) = if sameP first changes h m first.length = true then alikeTo first changes h m ++ [(m : Int)] else alikeTo first changes h m := by
  unfold alikeTo
  rw [List.range_succ, List.filter_append, List.map_append]
  by_cases e : sameP first changes h m first.length = true
  · simp [e]
  · simp [e]
theorem twiceTo_len (changes : List S60) (h : Int) (m : Nat) : (twiceTo changes h m).length ≤ m := by
  unfold twiceTo
  rw [List.length_map]
  exact Nat.le_trans (List.length_filter_le _ _) (by simp)
theorem alikeTo_len (first : List ByteArray) (changes : List S60) (h : Int) (m : Nat) : (alikeTo first changes h m).length ≤ m := by
  unfold alikeTo
  rw [List.length_map]
  exact Nat.le_trans (List.length_filter_le _ _) (by simp)
set_option maxHeartbeats 8000000 in
set_option maxRecDepth 100000 in
theorem clash_ref (A0 : Option Addr) (c0 : Nat) (l0 : List ByteArray) (A1 : Option Addr) (c1 : Nat) (l1 : List S60) (h : Int) (w : World) (T : TwC w A0 c0 l0 A1 c1 l1) (hn : l1.length < 100000) (hf : l0.length < 100000) :
    Calls Tryz.prog 68 #[.agg #[.slice A0 l0.length c0, .slice A1 l1.length c1], .int .i64 h] w fun e w' => ∃ v : Value, e = .returned v ∧ Kd.R (Kd.int .i64) 3 w' w.heap.size (fun _ => True) v (clashP l0 l1 h) ∧ Below w.heap.size w w' := by
  have T0 := Aside0.mk T
  clear T
  go_enter Tryz.func68, Tryz.ntmps68
  go_upto_region 2 with fail
  obtain ⟨w1, hw1⟩ : ∃ x, ((w.alloc (.cells #[.slice A0 l0.length c0, .slice A1 l1.length c1] 25)).alloc (.cells #[] 3)).alloc (.cells #[] 3) = x := ⟨_, rfl⟩
  have B1 : Aside0 (Below w.heap.size w w1) := ⟨by rw [← hw1]; exact below_alloc (below_alloc (below_alloc (Below.refl _ _) _) _) _⟩
  have X1 : Aside0 (w1.heap[w.heap.size]? = some (.cells #[.slice A0 l0.length c0, .slice A1 l1.length c1] 25 (0, 0))) := ⟨by rw [← hw1]; exact blk_alloc (blk_alloc (blk_new w _) _) _⟩
  have P1 : Aside0 (ApR w1 w.heap.size (.slice (some ⟨w.heap.size + 1, 0, none⟩) 0 0) [] (.slice (some ⟨w.heap.size + 1 + 1, 0, none⟩) 0 0) []) := ⟨by rw [← hw1]; have := ApR.start (w := w.alloc (.cells #[.slice A0 l0.length c0, .slice A1 l1.length c1] 25)) (base := w.heap.size) (by simp); rwa [World.size_alloc] at this⟩
  rw [hw1]
  clear hw1
  go_wp2_with fail
  go_loopg [5, 6, 7, 8, 9, 10, 11] l0.length (fun gg s5 s6 s7 _ _ _ _ wr => ∃ s : Nat, s ≤ l0.length ∧ l0.length - s ≤ gg ∧ s7 = .int .i64 s ∧ Aside0 (ApR wr w.heap.size s5 (twiceTo l1 h s) s6 (alikeTo l0 l1 h s)) ∧ Aside0 (Below w.heap.size w wr) ∧ Aside0 (wr.heap[w.heap.size]? = some (.cells #[.slice A0 l0.length c0, .slice A1 l1.length c1] 25 (0, 0))))
  case atStart => exact ⟨0, Nat.zero_le _, by omega, rfl, P1, B1, X1⟩
  case round =>
    clear P1 B1 X1
    rename World => w2
    obtain ⟨s, hsl, hg, rfl, P2, B2, X2⟩ := hrel
    obtain ⟨x0, x1, xl⟩ := blk2 X2.out
    by_cases hlt : s < l0.length
    · have hltz : (s : Int) < (l0.length : Int) := by omega
      go_wp2_with fail
      go_loopg [8, 10] l1.length (fun gg s8 s10 w3 => ∃ kk m : Nat, kk ≤ l1.length ∧ l1.length - kk ≤ gg ∧ s10 = .int .i64 kk ∧ s8 = .int .i64 m ∧ m ≤ kk ∧ Aside0 (m + manyP s h (l1.drop kk) = manyP s h l1) ∧ Aside0 (Below w2.heap.size w2 w3))
      case atStart => exact ⟨0, 0, Nat.zero_le _, by omega, rfl, rfl, Nat.le_refl _, ⟨by rw [List.drop_zero, Nat.zero_add]⟩, ⟨Below.refl _ _⟩⟩
      case round =>
        rename World => w3
        obtain ⟨kk, m, hkk, hg2, rfl, rfl, hmk, HM, B3⟩ := hrel
        clear x0 x1 xl
        obtain ⟨x0, x1, xl⟩ := blk2 (blk_below X2.out B3.out)
        by_cases hlt2 : kk < l1.length
        · have hltz2 : (kk : Int) < (l1.length : Int) := by omega
          obtain ⟨ae, rfl, hc0, hc1, hc2⟩ := at_T60 ((T0.out.below B2.out).below B3.out).g.kc (kk : Int) (by omega) (by omega)
          rw [Int.toNat_natCast] at hc0 hc1 hc2
          have HM2 := HM.out
          rw [drop_rd hlt2, manyP_cons] at HM2
          obtain ⟨y, hy⟩ : ∃ y, rd_T60 l1 (kk : Int) = y := ⟨_, rfl⟩
          rw [hy] at hc0 hc1 hc2 HM2
          have HM3 := Aside0.mk HM2
          clear HM HM2 hy hc2
          by_cases h1 : y.f0 = h
          · have h1b : (y.f0 == h) = true := beq_iff_eq.2 h1
            by_cases h2 : y.f1 = s
            · have h2b : (y.f1 == (s : Int)) = true := beq_iff_eq.2 h2
              have HM4 := Aside0.mk (show (m + 1) + manyP s h (l1.drop (kk + 1)) = manyP s h l1 from by have := HM3.out; rw [if_pos ⟨h1, h2⟩] at this; omega)
              go_wp2_with fail
              go_roundg (l1.length - (kk + 1))
              case measure => omega
              case rel => exact ⟨kk + 1, m + 1, by omega, by omega, by go_num, by go_num, by omega, HM4, B3⟩
            · have h2b : (y.f1 == (s : Int)) = false := beq_eq_false_iff_ne.2 h2
              have HM4 := Aside0.mk (show m + manyP s h (l1.drop (kk + 1)) = manyP s h l1 from by have := HM3.out; rw [if_neg (fun k => h2 k.2)] at this; omega)
              go_wp2_with fail
              go_roundg (l1.length - (kk + 1))
              case measure => omega
              case rel => exact ⟨kk + 1, m, by omega, by omega, by go_num, rfl, by omega, HM4, B3⟩
          · have h1b : (y.f0 == h) = false := beq_eq_false_iff_ne.2 h1
            have HM4 := Aside0.mk (show m + manyP s h (l1.drop (kk + 1)) = manyP s h l1 from by have := HM3.out; rw [if_neg (fun k => h1 k.1)] at this; omega)
            go_wp2_with fail
            go_roundg (l1.length - (kk + 1))
            case measure => omega
            case rel => exact ⟨kk + 1, m, by omega, by omega, by go_num, rfl, by omega, HM4, B3⟩
        · have hltz2 : ¬ (kk : Int) < (l1.length : Int) := by omega
          obtain rfl : kk = l1.length := by omega
          have HM2 := HM.out
          rw [List.drop_of_length_le (Nat.le_refl _), show manyP s h [] = 0 from rfl, Nat.add_zero] at HM2
          subst HM2
          clear HM
          go_wp2_with fail
          go_loopg [9, 11] l0.length (fun gg s9 s11 w4 => ∃ oo : Nat, oo ≤ l0.length ∧ l0.length - oo ≤ gg ∧ s11 = .int .i64 oo ∧ s9 = .bool (sameP l0 l1 h s oo) ∧ Aside0 (Below w3.heap.size w3 w4))
          case atStart => exact ⟨0, Nat.zero_le _, by omega, rfl, rfl, ⟨Below.refl _ _⟩⟩
          case round =>
            rename World => w4
            obtain ⟨oo, hoo, hg3, rfl, rfl, B4⟩ := hrel
            clear x0 x1 xl
            have cx : w4.heap[w.heap.size]? = some (.cells #[.slice A0 l0.length c0, .slice A1 l1.length c1] 25 (0, 0)) := (by repeat (first | exact Aside0.out (by assumption) | refine blk_below ?_ (Aside0.out (by assumption))))
            obtain ⟨x0, x1, xl⟩ := blk2 cx
            clear cx
            by_cases hlt3 : oo < l0.length
            · have hltz3 : (oo : Int) < (l0.length : Int) := by omega
              have HS := sameP_succ l0 l1 h s oo
              obtain ⟨b, hb⟩ : ∃ b, sameP l0 l1 h s oo = b := ⟨_, rfl⟩
              rw [hb] at HS ⊢
              clear hb
              have D4 : Aside0 (Below w4.heap.size w4 w4.drew) := ⟨below_drew (Below.refl _ _)⟩
              cases b with
              | true =>
                have HS2 := Aside0.mk (show sameP l0 l1 h s (oo + 1) = true from by rw [HS]; rfl)
                clear HS
                go_wp2_with fail
                go_region
                all_goals go_wp2_with fail
                all_goals go_roundg (l0.length - (oo + 1))
                all_goals first | omega | exact ⟨oo + 1, by omega, by omega, by go_num, by rw [HS2.out], ⟨(by repeat (first | exact Below.refl _ _ | refine below_from ?_ (Aside0.out (by assumption))))⟩⟩
              | false =>
                by_cases heq : oo = s
                · have HS2 := Aside0.mk (show sameP l0 l1 h s (oo + 1) = false from by rw [HS, heq]; simp)
                  have hq1 : ((oo : Int) != (s : Int)) = false := by simp [heq]
                  clear HS
                  go_wp2_with fail
                  go_region
                  all_goals go_wp2_with fail
                  all_goals go_roundg (l0.length - (oo + 1))
                  all_goals first | omega | exact ⟨oo + 1, by omega, by omega, by go_num, by rw [HS2.out], ⟨(by repeat (first | exact Below.refl _ _ | refine below_from ?_ (Aside0.out (by assumption))))⟩⟩
                · have HS2 := Aside0.mk (show sameP l0 l1 h s (oo + 1) = ((calledP l0 l1 oo h).toList == (calledP l0 l1 s h).toList) from by rw [HS]; simp [heq])
                  have hq1 : ((oo : Int) != (s : Int)) = true := by simp; omega
                  clear HS
                  go_upto_region 14 with fail
                  go_region_held3 (fun w' => w'.cell? ⟨w.heap.size, 0, none⟩ = some (.slice A0 l0.length c0) ∧ w'.cell? ⟨w.heap.size, 1, none⟩ = some (.slice A1 l1.length c1)) (go_keep) ((go_at_call 23; refine (calledK A0 c0 l0 A1 c1 l1 _ h _ ?tw hn ?p0 ?p1).mono ?_; (case tw => exact (by repeat (first | exact Aside0.out (by assumption) | refine TwC.below ?_ (Aside0.out (by assumption))))); (case p0 => omega); (case p1 => omega); rintro e w5 ⟨rfl, B5⟩; have cx : w5.heap[w.heap.size]? = some (.cells #[.slice A0 l0.length c0, .slice A1 l1.length c1] 25 (0, 0)) := (by repeat (first | exact Aside0.out (by assumption) | refine blk_below ?_ (Aside0.out (by assumption)))); obtain ⟨x0, x1, xl⟩ := blk2 cx))
                  all_goals go_wp2_with fail
                  all_goals go_roundg (l0.length - (oo + 1))
                  all_goals first | omega | exact ⟨oo + 1, by omega, by omega, by go_num, by rw [HS2.out], ⟨(by repeat (first | exact Below.refl _ _ | refine below_from ?_ (Aside0.out (by assumption))))⟩⟩
            · have hltz3 : ¬ (oo : Int) < (l0.length : Int) := by omega
              obtain rfl : oo = l0.length := by omega
              have HAP : Aside0 (ApR w4 w.heap.size u5 (twiceTo l1 h s) u6 (alikeTo l0 l1 h s)) := ⟨(by repeat (first | exact Aside0.out (by assumption) | refine ApR.below ?_ (Aside0.out (by assumption))))⟩
              have K4 : Aside0 (w4.heap[w.heap.size]? = some (.cells #[.slice A0 l0.length c0, .slice A1 l1.length c1] 25 (0, 0))) := ⟨(by repeat (first | exact Aside0.out (by assumption) | refine blk_below ?_ (Aside0.out (by assumption))))⟩
              have HT := twiceTo_succ l1 h s
              have HA := alikeTo_succ l0 l1 h s
              have ht := twiceTo_len l1 h s
              have ha := alikeTo_len l0 l1 h s
              obtain ⟨b, hb⟩ : ∃ b, sameP l0 l1 h s l0.length = b := ⟨_, rfl⟩
              rw [hb] at HA ⊢
              clear hb
              clear P2
              by_cases hm : 1 < manyP s h l1
              · have hm1 : ((manyP s h l1 : Nat) : Int) > 1 := by omega
                have HT2 := Aside0.mk (show twiceTo l1 h (s + 1) = twiceTo l1 h s ++ [(s : Int)] from by rw [HT, if_pos hm])
                clear HT
                cases b with
                | true =>
                  have HA2 := Aside0.mk (show alikeTo l0 l1 h (s + 1) = alikeTo l0 l1 h s ++ [(s : Int)] from by rw [HA, if_pos rfl])
                  clear HA
                  go_wp2_with (first | (at_builtin; refine Kd.R_append (Kd.int .i64) (w0 := w) (W := w4) w.heap.size ?b1 (.tmp 74) (.tmp 76) 31 3 (.int .i64 0) 8 ?b2 Tryz.underlying31 info3 rfl (by decide) (by omega) u5 (twiceTo l1 h s) (s : Int) [.int .i64 (s : Int)] (fun k => some k ≠ u6.ownBlock) (fun _ => False) ?b3 ?b4 ?aP (fun _ hk => hk.elim) ?aF ?aO ?aB ?aS ?aL ?_; (case b1 => rfl); (case b2 => rfl); (case b3 => rfl); (case b4 => rfl); (case aP => exact rfl); (case aB => exact (by repeat (first | exact Below.refl _ _ | refine below_from ?_ (Aside0.out (by assumption))))); (case aF => exact fun k hk => own_below HAP.out.b hk); (case aO => exact HAP.out.a); (case aS => exact Below.size (by repeat (first | exact Below.refl _ _ | refine below_from ?_ (Aside0.out (by assumption))))); (case aL => omega); intro v5 w5 ho hb hgr hat; have Ew5 := Aside0.mk hb; have Q5 := Aside0.mk (ApR.grow HAP.out hgr hat ho); have K5 := Aside0.mk (blk_grown K4.out hgr (Kd.R_ne HAP.out.a K4.out (by decide))); clear ho hb hgr hat) | (at_builtin; refine Kd.R_append (Kd.int .i64) (w0 := w) (W := w5) w.heap.size ?b1 (.tmp 79) (.tmp 81) 31 3 (.int .i64 0) 8 ?b2 Tryz.underlying31 info3 rfl (by decide) (by omega) u6 (alikeTo l0 l1 h s) (s : Int) [.int .i64 (s : Int)] (fun k => some k ≠ v5.ownBlock) (fun _ => False) ?b3 ?b4 ?aP (fun _ hk => hk.elim) ?aF ?aO ?aB ?aS ?aL ?_; (case b1 => rfl); (case b2 => rfl); (case b3 => rfl); (case b4 => rfl); (case aP => exact rfl); (case aB => exact Ew5.out); (case aF => exact fun k hk => own_below Q5.out.a hk); (case aO => exact Q5.out.b); (case aS => exact Below.size Ew5.out); (case aL => omega); intro v6 w6 ho hb hgr hat; have Ew6 := Aside0.mk hb; have Q6 := Aside0.mk (ApR.grow Q5.out.symm hgr hat ho); have K6 := Aside0.mk (blk_grown K5.out hgr (Kd.R_ne Q5.out.b K5.out (by decide))); clear ho hb hgr hat))
                  go_roundg (l0.length - (s + 1))
                  case measure => omega
                  case rel => exact ⟨s + 1, by omega, by omega, by go_num, ⟨by rw [HT2.out, HA2.out]; exact Q6.out.symm⟩, Ew6, K6⟩
                | false =>
                  have HA2 := Aside0.mk (show alikeTo l0 l1 h (s + 1) = alikeTo l0 l1 h s from by rw [HA, if_neg (by decide)])
                  clear HA
                  go_wp2_with (at_builtin; refine Kd.R_append (Kd.int .i64) (w0 := w) (W := w4) w.heap.size ?b1 (.tmp 74) (.tmp 76) 31 3 (.int .i64 0) 8 ?b2 Tryz.underlying31 info3 rfl (by decide) (by omega) u5 (twiceTo l1 h s) (s : Int) [.int .i64 (s : Int)] (fun k => some k ≠ u6.ownBlock) (fun _ => False) ?b3 ?b4 ?aP (fun _ hk => hk.elim) ?aF ?aO ?aB ?aS ?aL ?_; (case b1 => rfl); (case b2 => rfl); (case b3 => rfl); (case b4 => rfl); (case aP => exact rfl); (case aB => exact (by repeat (first | exact Below.refl _ _ | refine below_from ?_ (Aside0.out (by assumption))))); (case aF => exact fun k hk => own_below HAP.out.b hk); (case aO => exact HAP.out.a); (case aS => exact Below.size (by repeat (first | exact Below.refl _ _ | refine below_from ?_ (Aside0.out (by assumption))))); (case aL => omega); intro v5 w5 ho hb hgr hat; have Ew5 := Aside0.mk hb; have Q5 := Aside0.mk (ApR.grow HAP.out hgr hat ho); have K5 := Aside0.mk (blk_grown K4.out hgr (Kd.R_ne HAP.out.a K4.out (by decide))); clear ho hb hgr hat)
                  go_roundg (l0.length - (s + 1))
                  case measure => omega
                  case rel => exact ⟨s + 1, by omega, by omega, by go_num, ⟨by rw [HT2.out, HA2.out]; exact Q5.out⟩, Ew5, K5⟩
              · have hm1 : ¬ ((manyP s h l1 : Nat) : Int) > 1 := by omega
                have HT2 := Aside0.mk (show twiceTo l1 h (s + 1) = twiceTo l1 h s from by rw [HT, if_neg hm])
                clear HT
                cases b with
                | true =>
                  have HA2 := Aside0.mk (show alikeTo l0 l1 h (s + 1) = alikeTo l0 l1 h s ++ [(s : Int)] from by rw [HA, if_pos rfl])
                  clear HA
                  go_wp2_with (at_builtin; refine Kd.R_append (Kd.int .i64) (w0 := w) (W := w4) w.heap.size ?b1 (.tmp 79) (.tmp 81) 31 3 (.int .i64 0) 8 ?b2 Tryz.underlying31 info3 rfl (by decide) (by omega) u6 (alikeTo l0 l1 h s) (s : Int) [.int .i64 (s : Int)] (fun k => some k ≠ u5.ownBlock) (fun _ => False) ?b3 ?b4 ?aP (fun _ hk => hk.elim) ?aF ?aO ?aB ?aS ?aL ?_; (case b1 => rfl); (case b2 => rfl); (case b3 => rfl); (case b4 => rfl); (case aP => exact rfl); (case aB => exact (by repeat (first | exact Below.refl _ _ | refine below_from ?_ (Aside0.out (by assumption))))); (case aF => exact fun k hk => own_below HAP.out.a hk); (case aO => exact HAP.out.b); (case aS => exact Below.size (by repeat (first | exact Below.refl _ _ | refine below_from ?_ (Aside0.out (by assumption))))); (case aL => omega); intro v6 w5 ho hb hgr hat; have Ew5 := Aside0.mk hb; have Q6 := Aside0.mk (ApR.grow HAP.out.symm hgr hat ho); have K5 := Aside0.mk (blk_grown K4.out hgr (Kd.R_ne HAP.out.b K4.out (by decide))); clear ho hb hgr hat)
                  go_roundg (l0.length - (s + 1))
                  case measure => omega
                  case rel => exact ⟨s + 1, by omega, by omega, by go_num, ⟨by rw [HT2.out, HA2.out]; exact Q6.out.symm⟩, Ew5, K5⟩
                | false =>
                  have HA2 := Aside0.mk (show alikeTo l0 l1 h (s + 1) = alikeTo l0 l1 h s from by rw [HA, if_neg (by decide)])
                  clear HA
                  go_wp2_with fail
                  go_roundg (l0.length - (s + 1))
                  case measure => omega
                  case rel => exact ⟨s + 1, by omega, by omega, by go_num, ⟨by rw [HT2.out, HA2.out]; exact HAP.out⟩, ⟨(by repeat (first | exact Below.refl _ _ | refine below_from ?_ (Aside0.out (by assumption))))⟩, K4⟩
    · have hltz : ¬ (s : Int) < (l0.length : Int) := by omega
      obtain rfl : s = l0.length := by omega
      obtain ⟨A5, d5, rfl⟩ := Kd.R_slice P2.out.a
      by_cases hz : 0 < (twiceTo l1 h l0.length).length
      · have hz1 : ((twiceTo l1 h l0.length).length : Int) > 0 := by omega
        have HC := Aside0.mk (show clashP l0 l1 h = twiceTo l1 h l0.length from by unfold clashP; rw [if_pos hz])
        go_wp2_with fail
        go_ret
        exact ⟨_, rfl, by rw [HC.out]; exact Kd.R_mono P2.out.a (fun _ _ => trivial), B2.out⟩
      · have hz1 : ¬ ((twiceTo l1 h l0.length).length : Int) > 0 := by omega
        have HC := Aside0.mk (show clashP l0 l1 h = alikeTo l0 l1 h l0.length from by unfold clashP; rw [if_neg hz])
        go_wp2_with fail
        go_ret
        exact ⟨_, rfl, by rw [HC.out]; exact Kd.R_mono P2.out.b (fun _ _ => trivial), B2.out⟩
def smaltoref08_Clash.f (l0_0 : List ByteArray) (l0_1 : List S60) (a1 : Int) : Option (List Int) :=
  if l0_0.length < 100000 then (if l0_1.length < 100000 then some (clashP l0_0 l0_1 a1) else none) else none
theorem smaltoref08_Clash.calls (A0_0 : Option Addr) (c0_0 : Nat) (l0_0 : List ByteArray) (A0_1 : Option Addr) (c0_1 : Nat) (l0_1 : List S60) (a1 : Int) (r : List Int) (w : World) (hr0_0 : Kd.C Kd.string w A0_0 l0_0.length l0_0) (hc0_0 : l0_0.length ≤ c0_0) (hr0_1 : Kd.C k60 w A0_1 l0_1.length l0_1) (hc0_1 : l0_1.length ≤ c0_1) (h : smaltoref08_Clash.f l0_0 l0_1 a1 = some r) :
    Calls Tryz.prog 68 #[.agg #[.slice A0_0 l0_0.length c0_0, .slice A0_1 l0_1.length c0_1], .int .i64 a1] w fun e w' => ∃ v0_ : Value, e = .returned v0_ ∧ Kd.R (Kd.int .i64) 3 w' w.heap.size (fun _ => True) v0_ r ∧ Below w.heap.size w w' := by
  unfold smaltoref08_Clash.f at h
  split at h
  · rename_i h0
    split at h
    · rename_i h1
      obtain rfl := Option.some.inj h
      exact clash_ref A0_0 c0_0 l0_0 A0_1 c0_1 l0_1 a1 w ⟨⟨hr0_0, hc0_0⟩, ⟨hr0_1, hc0_1⟩⟩ h1 h0
    · cases h
  · cases h
theorem clash_f (first : List ByteArray) (changes : List S60) (hn : changes.length < 1000) (hf : first.length < 1000) (h : Int) : smaltoref08_Clash.f first changes h = some (clashP first changes h) := by
  unfold smaltoref08_Clash.f
  rw [if_pos (by omega), if_pos (by omega)]
end Go.Proofs.YtdjlfdbnmnjccaaGreat.St
end
section
namespace Go.Proofs.YtdjlfdbnmnjccaaGreat.St
open Go.RowKit Go.Proofs.YtdjlfdbnmnjccaaGreatW.PrintWords Go.Proofs.YtdjlfdbnmnjccaaGreatW.PrintLast Go.Proofs.YtdjlfdbnmnjccaaGreatW.PrintMore
attribute [local go_sem] max2_int min2_int max_two min_two max_three min_three max_four min_four
set_option linter.unusedVariables false
set_option linter.unusedSimpArgs false
def smaltoref08_First.l0 : Nat → Int → List ByteArray → List (S60) → Option (Int × List Int)
  | 0, _, _, _ => none
  | k + 1, x4, x351000, x351001 => if x4 ≤ 1000 then ((smaltoref08_Clash.f x351000 x351001 x4).bind fun t351 => (if (t351.length : Int) > 0 then (some (x4, t351)) else (smaltoref08_First.l0 k (wrap64 (x4 + 1)) x351000 x351001))) else (some (1001, ([] : List Int)))
def smaltoref08_First.f (k : Nat) (l0_0 : List ByteArray) (l0_1 : List (S60)) : Option (Int × List Int) := smaltoref08_First.l0 k 1 l0_0 l0_1
theorem smaltoref08_First.mono_l : ∀ k, (∀ y0 y1 y2, LeO (smaltoref08_First.l0 k y0 y1 y2) (smaltoref08_First.l0 (k + 1) y0 y1 y2))
  | 0 => fun _ _ _ r h => by simp [smaltoref08_First.l0] at h
  | k + 1 => by
    have ih0 := smaltoref08_First.mono_l k
    · intro y0 y1 y2
      unfold smaltoref08_First.l0
      repeat' first
      | (with_reducible exact ih0 _ _ _)
      | (with_reducible exact LeO.refl _)
      | (with_reducible exact LeO.none _)
      | (with_reducible refine LeO.ite ?_ ?_)
      | (with_reducible refine LeO.bind ?_ (fun _ => ?_))
      | exact ih0 _ _ _
      | exact LeO.none _
      | refine LeO.ite ?_ ?_
      | refine LeO.bind ?_ (fun _ => ?_)
theorem smaltoref08_First.mono : ∀ a0 a1 k, LeO (smaltoref08_First.f k a0 a1) (smaltoref08_First.f (k + 1) a0 a1) := by
  intro a0 a1 k
  have ih0 := smaltoref08_First.mono_l k
  unfold smaltoref08_First.f
  repeat' first
      | (with_reducible exact ih0 _ _ _)
      | (with_reducible exact LeO.refl _)
      | (with_reducible exact LeO.none _)
      | (with_reducible refine LeO.ite ?_ ?_)
      | (with_reducible refine LeO.bind ?_ (fun _ => ?_))
      | exact ih0 _ _ _
      | exact LeO.none _
      | refine LeO.ite ?_ ?_
      | refine LeO.bind ?_ (fun _ => ?_)
set_option maxHeartbeats 8000000 in
set_option maxRecDepth 100000 in
theorem smaltoref08_First.calls (k : Nat) (A0_0 : Option Addr) (c0_0 : Nat) (l0_0 : List ByteArray) (A0_1 : Option Addr) (c0_1 : Nat) (l0_1 : List (S60)) (r1 : Int) (r2 : List Int) (w : World) (hr0_0 : Kd.C Kd.string w A0_0 l0_0.length l0_0) (hc0_0 : l0_0.length ≤ c0_0) (hr0_1 : Kd.C k60 w A0_1 l0_1.length l0_1) (hc0_1 : l0_1.length ≤ c0_1) (h : smaltoref08_First.f k l0_0 l0_1 = some (r1, r2)) :
    Calls Tryz.prog 17 #[.agg #[.slice A0_0 l0_0.length c0_0, .slice A0_1 l0_1.length c0_1]] w fun e w' => ∃ v1_ : Value, e = .returned (.tuple #[.int .i64 r1, v1_]) ∧ Kd.R (Kd.int .i64) 3 w' w.heap.size (fun _ => True) v1_ r2 ∧ Below w.heap.size w w' := by
  have hu25 := Tryz.underlying25
  have HR0_0 := Aside0.mk hr0_0
  have HC0_0 := Aside0.mk hc0_0
  clear hr0_0 hc0_0
  have HR0_1 := Aside0.mk hr0_1
  have HC0_1 := Aside0.mk hc0_1
  clear hr0_1 hc0_1
  have HB := Aside0.mk (Below.refl w.heap.size w)
  have H : (smaltoref08_First.l0 k 1 l0_0 l0_1) = some (r1, r2) := h
  clear h
  have H' := Aside0.mk H
  clear H
  go_enter Tryz.func17, Tryz.ntmps17
  go_wp2_with (first | ((with_reducible refine gate_dst (N := 1) rfl ?_); refine box_event ?hg (N := 1) ?hd (cs := #[.slice A0_0 l0_0.length c0_0, .slice A0_1 l0_1.length c0_1]) (t := 25) ?hr ?_; (case hd => rfl); (case hg => rfl); (case hr => first | (go_simp; done) | (go_simp; rfl)); intro gb350 hg w2 hbox hb; have n0_ := Aside0.mk (below_step (by repeat (first | (with_reducible first | exact HB.out | apply below_alloc | apply pw_below_drewN | apply below_drew1) | exact HB.out)) hb); have n1_ := Aside0.mk (hbox); have n2_ := Aside0.mk ((by rw [hg]; exact (below_size (by repeat (first | (with_reducible first | exact HB.out | apply below_alloc | apply pw_below_drewN | apply below_drew1) | exact HB.out))) : w.heap.size ≤ gb350)); have n3_ := Aside0.mk ((by rw [hg]; exact (below_size (by repeat (first | (with_reducible first | exact HB.out | apply below_alloc | apply pw_below_drewN | apply below_drew1) | exact HB.out))) : w.heap.size ≤ gb350)); clear HB; have HB := n0_; have BK350 := n1_; have GW350 := n2_; have GE350 := n3_; clear n0_ n1_ n2_ n3_; clear hb hbox hg))
  go_loopg [4] k (fun kq v4 w' => ∃ (x4_1 : Int), v4 = .int .i64 x4_1 ∧ Aside0 (smaltoref08_First.l0 kq x4_1 l0_0 l0_1 = some (r1, r2)) ∧ Aside0 (kq ≤ k) ∧ Aside0 (w'.heap[gb350]? = some (.cells #[(.slice A0_0 l0_0.length c0_0), (.slice A0_1 l0_1.length c0_1)] 25 (0, 0))) ∧ Aside0 (Below w.heap.size w w'))
  case atStart => exact ⟨(1), (by first | rfl | (simp; done) | (simp [*]; done)), H', ⟨Nat.le_refl _⟩, ⟨by (with_reducible repeat (first | refine blk_drewN ?_ _ | refine blk_drew ?_ | refine blk_alloc ?_ _)); exact BK350.out⟩, ⟨by repeat (first | (with_reducible first | exact HB.out | apply below_alloc | apply pw_below_drewN | apply below_drew1 | refine below_set ?_ GE350.out) | exact HB.out)⟩⟩
  case round =>
    clear H'
    try clear c1
    try clear p2
    obtain ⟨x4_1, rfl, HA, HK1, BK350, HB⟩ := hrel
    cases gk with
    | zero => exact absurd HA.out (by simp [smaltoref08_First.l0])
    | succ k1 =>
      have H := HA.out
      clear HA
      simp only [smaltoref08_First.l0] at H
      by_cases c3 : x4_1 ≤ 1000
      · rw [if_pos c3] at H
        have c3b0 : decide (x4_1 ≤ 1000) = true := decide_eq_true c3
        clear c3
        replace H := Option.bind_eq_some_iff.mp H
        obtain ⟨t351, A40, H⟩ := H
        replace H : (if (t351.length : Int) > 0 then (some (x4_1, t351)) else (smaltoref08_First.l0 k1 (wrap64 (x4_1 + 1)) l0_0 l0_1)) = some (r1, r2) := H
        have A4 := Aside0.mk A40
        clear A40
        by_cases c5 : (t351.length : Int) > 0
        · rw [if_pos c5] at H
          have c5b0 : decide (0 < (t351.length : Int)) = true := decide_eq_true c5
          have c5b1 : decide (0 < t351.length) = true := decide_eq_true (by omega)
          clear c5
          simp only [Option.some.injEq, Prod.mk.injEq] at H
          obtain ⟨rfl, rfl⟩ := H
          have hcz6_0 : wr.cell? ⟨gb350, 0, none⟩ = some (.slice A0_0 l0_0.length c0_0) := (blk_cell BK350.out 0).trans rfl
          have hcz6_1 : wr.cell? ⟨gb350, 1, none⟩ = some (.slice A0_1 l0_1.length c0_1) := (blk_cell BK350.out 1).trans rfl
          have hfz6_0 := blk_frozen BK350.out 0
          have hfz6_1 := blk_frozen BK350.out 1
          go_wp2_with (first | ((with_reducible refine gate_callee (f := 68) rfl ?_); refine goesL_ (some 12) rfl rfl Tryz.func68 (by kernel_rfl) rfl #[.agg #[.slice A0_0 l0_0.length c0_0, .slice A0_1 l0_1.length c0_1], .int .i64 x4_1] rfl (by (try simp only [List.map_toArray, List.map_cons, List.map_nil]); first | done | rfl | (simp only [List.length_drop, List.length_take]; rfl)) ?_; (with_reducible refine (smaltoref08_Clash.calls _ _ l0_0 _ _ l0_1 x4_1 t351 _ ?side1 ?side2 ?side3 ?side4 A4.out).mono ?_); (case side1 => repeat (first | exact (Kd.C_below HR0_0.out HB.out) | (with_reducible refine Kd.C_alloc ?_ _) | (with_reducible refine Kd.C_drewN ?_ _) | (with_reducible refine Kd.C_drew ?_))); (case side2 => exact HC0_0.out); (case side3 => repeat (first | exact (Kd.C_below HR0_1.out HB.out) | (with_reducible refine Kd.C_alloc ?_ _) | (with_reducible refine Kd.C_drewN ?_ _) | (with_reducible refine Kd.C_drew ?_))); (case side4 => exact HC0_1.out); rintro e w7 ⟨v352, rfl, ho0, hb⟩; refine ⟨_, rfl, ?_⟩; have n0_ := Aside0.mk (Kd.R_lower ho0 (below_size (by repeat (first | (with_reducible first | exact HB.out | apply below_alloc | apply pw_below_drewN | apply below_drew1 | refine below_set ?_ GE350.out) | exact HB.out)))); have n1_ := Aside0.mk (blk_below (g := gb350) (o := .cells #[.slice A0_0 l0_0.length c0_0, .slice A0_1 l0_1.length c0_1] 25 (0, 0)) (by (with_reducible repeat (first | refine blk_drewN ?_ _ | refine blk_drew ?_ | refine blk_alloc ?_ _)); exact BK350.out) hb); have n2_ := Aside0.mk (below_step (by repeat (first | (with_reducible first | exact HB.out | apply below_alloc | apply pw_below_drewN | apply below_drew1 | refine below_set ?_ GE350.out) | exact HB.out)) hb); clear BK350; clear HB; have HO353 := n0_; have BK350 := n1_; have HB := n2_; clear n0_ n1_ n2_; (try clear hb); (try clear hb2); (try clear hk); (try clear hi); (try clear ho0); obtain ⟨Ao8, co8, eo8⟩ := Kd.R_slice HO353.out; subst eo8))
          go_ret2
          exact ⟨_, by first | rfl | (simp [errW_none, errW_some] <;> rfl) | (simp [*, errW_none, errW_some] <;> rfl), by (with_reducible repeat (first | apply Kd.R_alloc | apply Kd.R_drewN | apply Kd.R_drew)); exact HO353.out, by repeat (first | (with_reducible first | exact HB.out | apply below_alloc | apply pw_below_drewN | apply below_drew1 | refine below_set ?_ GE350.out) | exact HB.out)⟩
        · rw [if_neg c5] at H
          have c5b0 : decide (0 < (t351.length : Int)) = false := decide_eq_false c5
          have c5b1 : decide (0 < t351.length) = false := decide_eq_false (by omega)
          clear c5
          have H' := Aside0.mk H
          clear H
          have hcz9_0 : wr.cell? ⟨gb350, 0, none⟩ = some (.slice A0_0 l0_0.length c0_0) := (blk_cell BK350.out 0).trans rfl
          have hcz9_1 : wr.cell? ⟨gb350, 1, none⟩ = some (.slice A0_1 l0_1.length c0_1) := (blk_cell BK350.out 1).trans rfl
          have hfz9_0 := blk_frozen BK350.out 0
          have hfz9_1 := blk_frozen BK350.out 1
          go_wp2_with (first | ((with_reducible refine gate_callee (f := 68) rfl ?_); refine goesL_ (some 12) rfl rfl Tryz.func68 (by kernel_rfl) rfl #[.agg #[.slice A0_0 l0_0.length c0_0, .slice A0_1 l0_1.length c0_1], .int .i64 x4_1] rfl (by (try simp only [List.map_toArray, List.map_cons, List.map_nil]); first | done | rfl | (simp only [List.length_drop, List.length_take]; rfl)) ?_; (with_reducible refine (smaltoref08_Clash.calls _ _ l0_0 _ _ l0_1 x4_1 t351 _ ?side1 ?side2 ?side3 ?side4 A4.out).mono ?_); (case side1 => repeat (first | exact (Kd.C_below HR0_0.out HB.out) | (with_reducible refine Kd.C_alloc ?_ _) | (with_reducible refine Kd.C_drewN ?_ _) | (with_reducible refine Kd.C_drew ?_))); (case side2 => exact HC0_0.out); (case side3 => repeat (first | exact (Kd.C_below HR0_1.out HB.out) | (with_reducible refine Kd.C_alloc ?_ _) | (with_reducible refine Kd.C_drewN ?_ _) | (with_reducible refine Kd.C_drew ?_))); (case side4 => exact HC0_1.out); rintro e w10 ⟨v352, rfl, ho0, hb⟩; refine ⟨_, rfl, ?_⟩; have n0_ := Aside0.mk (Kd.R_lower ho0 (below_size (by repeat (first | (with_reducible first | exact HB.out | apply below_alloc | apply pw_below_drewN | apply below_drew1 | refine below_set ?_ GE350.out) | exact HB.out)))); have n1_ := Aside0.mk (blk_below (g := gb350) (o := .cells #[.slice A0_0 l0_0.length c0_0, .slice A0_1 l0_1.length c0_1] 25 (0, 0)) (by (with_reducible repeat (first | refine blk_drewN ?_ _ | refine blk_drew ?_ | refine blk_alloc ?_ _)); exact BK350.out) hb); have n2_ := Aside0.mk (below_step (by repeat (first | (with_reducible first | exact HB.out | apply below_alloc | apply pw_below_drewN | apply below_drew1 | refine below_set ?_ GE350.out) | exact HB.out)) hb); clear BK350; clear HB; have HO353 := n0_; have BK350 := n1_; have HB := n2_; clear n0_ n1_ n2_; (try clear hb); (try clear hb2); (try clear hk); (try clear hi); (try clear ho0); obtain ⟨Ao11, co11, eo11⟩ := Kd.R_slice HO353.out; subst eo11))
          go_roundg k1
          case measure => have := HK1.out; omega
          case rel => exact ⟨(wrap64 (x4_1 + 1)), (by first | rfl | (simp; done) | (simp [*]; done)), H', ⟨by have := HK1.out; omega⟩, ⟨by (with_reducible repeat (first | refine blk_drewN ?_ _ | refine blk_drew ?_ | refine blk_alloc ?_ _)); exact BK350.out⟩, ⟨by repeat (first | (with_reducible first | exact HB.out | apply below_alloc | apply pw_below_drewN | apply below_drew1 | refine below_set ?_ GE350.out) | exact HB.out)⟩⟩
      · rw [if_neg c3] at H
        have c3b0 : decide (x4_1 ≤ 1000) = false := decide_eq_false c3
        clear c3
        simp only [Option.some.injEq, Prod.mk.injEq] at H
        obtain ⟨rfl, rfl⟩ := H
        go_wp2
        go_ret2
        exact ⟨_, by first | rfl | (simp [errW_none, errW_some] <;> rfl) | (simp [*, errW_none, errW_some] <;> rfl), by first | exact Kd.R_nil _ _ _ _ _ | exact Kd.N_nil _ _ _ _ _ | exact Kd.V_nil _ _ _ _ _ | exact Kd.Q_nil _ _ _ _ _ | exact Kd.S_nil _ _ _ _ _, by repeat (first | (with_reducible first | exact HB.out | apply below_alloc | apply pw_below_drewN | apply below_drew1 | refine below_set ?_ GE350.out) | exact HB.out)⟩
end Go.Proofs.YtdjlfdbnmnjccaaGreat.St
end
section
set_option linter.unusedVariables false
set_option linter.unusedSimpArgs false
namespace Go.Proofs.YtdjlfdbnmnjccaaGreat.St
open Go.RowKit Go.Proofs.YtdjlfdbnmnjccaaGreatW.PrintWords Go.Proofs.YtdjlfdbnmnjccaaGreatW.PrintLast Go.Proofs.YtdjlfdbnmnjccaaGreatW.PrintMore
def firstP (first : List ByteArray) (changes : List S60) : Nat → Int → Int × List Int
  | 0, _ => (1001, [])
  | n + 1, h => if 0 < (clashP first changes h).length then (h, clashP first changes h) else firstP first changes n (h + 1)
theorem firstP_succ (first : List ByteArray) (changes : List S60) (n : Nat) (h : Int) : firstP first changes (n + 1) h = if 0 < (clashP first changes h).length then (h, clashP first changes h) else firstP first changes n (h + 1) := rfl
theorem first_f (first : List ByteArray) (changes : List S60) (hn : changes.length < 1000) (hf : first.length < 1000) (k : Nat) :
    smaltoref08_First.f (k + 1001) first changes = some (firstP first changes 1000 1) := by
  unfold smaltoref08_First.f
  have key : ∀ (d h : Nat), h + d = 1001 → smaltoref08_First.l0 (k + d + 1) h first changes = some (firstP first changes d h) := by
    intro d
    induction d with
    | zero =>
      intro h hd
      rw [Nat.add_zero]
      unfold smaltoref08_First.l0
      rw [if_neg (by omega)]
      rfl
    | succ d ih =>
      intro h hd
      show smaltoref08_First.l0 ((k + d + 1) + 1) h first changes = _
      unfold smaltoref08_First.l0
      rw [if_pos (by omega), clash_f first changes hn hf h, Option.bind_some, w64 (by omega), ih (h + 1) (by omega)]
      rw [firstP_succ]
      by_cases e : 0 < (clashP first changes h).length
      · rw [if_pos (by omega), if_pos e]
      · rw [if_neg (by omega), if_neg e]
        rfl
  exact key 1000 1 rfl
end Go.Proofs.YtdjlfdbnmnjccaaGreat.St
end
section
set_option linter.unusedVariables false
set_option linter.unusedSimpArgs false
namespace Go.Proofs.YtdjlfdbnmnjccaaGreat.St
open Go.RowKit Go.Proofs.YtdjlfdbnmnjccaaGreatW.PrintWords Go.Proofs.YtdjlfdbnmnjccaaGreatW.PrintLast Go.Proofs.YtdjlfdbnmnjccaaGreatW.PrintMore
theorem asc_ext {l l' : List Int} (h : l.Pairwise (· < ·)) (h' : l'.Pairwise (· < ·)) (hm : ∀ x, x ∈ l ↔ x ∈ l') : l = l' := by
  have n1 : l.Nodup := h.imp (fun h => by omega)
  have n2 : l'.Nodup := h'.imp (fun h => by omega)
  refine List.Perm.eq_of_pairwise (le := (· ≤ ·)) (fun a b _ _ h1 h2 => Int.le_antisymm h1 h2) (h.imp (fun h => by omega)) (h'.imp (fun h => by omega)) ?_
  exact (List.perm_ext_iff_of_nodup n1 n2).2 hm
theorem compactUpTo_asc (d : Array Int) (hs : ∀ i j, i ≤ j → j < d.size → d[i]! ≤ d[j]!) :
    ∀ m, m ≤ d.size → (Lib.compactUpTo d m).Pairwise (· < ·) ∧ ∀ x, x ∈ Lib.compactUpTo d m ↔ ∃ j, j < m ∧ d[j]! = x
  | 0, _ => by simp [Lib.compactUpTo]
  | m + 1, hm => by
    obtain ⟨i1, i2⟩ := compactUpTo_asc d hs m (by omega)
    rw [Lib.compactUpTo_succ]
    by_cases hk : Lib.keeps d m = true
    · rw [if_pos hk]
      refine ⟨List.pairwise_append.2 ⟨i1, by simp, fun x hx y hy => ?_⟩, fun x => ?_⟩
      · obtain ⟨j, hj, rfl⟩ := (i2 x).1 hx
        obtain rfl : y = d[m]! := by simpa using hy
        have h1 := hs j (m - 1) (by omega) (by omega)
        have h2 := hs (m - 1) m (by omega) (by omega)
        have h3 : d[m]! ≠ d[m - 1]! := by
          have := hk
          simp only [Lib.keeps, decide_eq_true_eq] at this
          rcases this with e | e
          · omega
          · exact e
        omega
      · rw [List.mem_append, i2]
        constructor
        · rintro (⟨j, hj, e⟩ | e)
          · exact ⟨j, by omega, e⟩
          · exact ⟨m, by omega, by simpa using (List.mem_singleton.1 e).symm⟩
        · rintro ⟨j, hj, e⟩
          by_cases hjm : j = m
          · subst hjm; exact .inr (by simp [e])
          · exact .inl ⟨j, by omega, e⟩
    · rw [if_neg hk, List.append_nil]
      refine ⟨i1, fun x => ?_⟩
      rw [i2]
      have hk' : ¬ (m = 0 ∨ d[m]! ≠ d[m - 1]!) := by simpa [Lib.keeps] using hk
      constructor
      · rintro ⟨j, hj, e⟩; exact ⟨j, by omega, e⟩
      · rintro ⟨j, hj, e⟩
        by_cases hjm : j = m
        · subst hjm
          refine ⟨j - 1, by omega, ?_⟩
          have : d[j]! = d[j - 1]! := Classical.byContradiction fun h => hk' (.inr h)
          rw [← this, e]
        · exact ⟨j, by omega, e⟩
theorem compact_sort (l : List Int) : (Lib.compact (sortI l)).Pairwise (· < ·) ∧ ∀ x, x ∈ Lib.compact (sortI l) ↔ x ∈ l := by
  have hs : ∀ i j, i ≤ j → j < (sortI l).toArray.size → (sortI l).toArray[i]! ≤ (sortI l).toArray[j]! := by
    intro i j hij hj
    have hj' : j < (sortI l).length := by simpa using hj
    have ha := List.pairwise_iff_getElem.1 (sortI_asc l)
    rw [getElem!_pos _ i (by simp; omega), getElem!_pos _ j (by simpa using hj')]
    by_cases e : i = j
    · subst e; exact Int.le_refl _
    · have := ha i j (by omega) hj' (by omega)
      simpa using this
  obtain ⟨h1, h2⟩ := compactUpTo_asc (sortI l).toArray hs (sortI l).length (by simp)
  refine ⟨h1, fun x => ?_⟩
  rw [show Lib.compact (sortI l) = Lib.compactUpTo (sortI l).toArray (sortI l).length from rfl, h2, ← (sortI_perm l).mem_iff, List.mem_iff_getElem]
  constructor
  · rintro ⟨j, hj, e⟩; exact ⟨j, hj, by rw [← e, getElem!_pos _ j (by simpa using hj)]; simp⟩
  · rintro ⟨j, hj, e⟩; exact ⟨j, hj, by rw [← e, getElem!_pos _ j (by simpa using hj)]; simp⟩
theorem filter_asc (p : Nat → Bool) (m : Nat) : (((List.range m).filter p).map fun s : Nat => (s : Int)).Pairwise (· < ·) := by
  rw [List.pairwise_map]
  exact (List.pairwise_lt_range.filter p).imp (fun h => by omega)
theorem filter_mem (p : Nat → Bool) (m : Nat) (x : Int) : x ∈ (((List.range m).filter p).map fun s : Nat => (s : Int)) ↔ ∃ s : Nat, s < m ∧ p s = true ∧ (s : Int) = x := by
  simp [and_assoc]
theorem calledL_spec (s h : Int) : ∀ (cs : List S60) (nm : ByteArray) (a : Int),
    (calledL s h cs nm a = nm ∧ ∀ c ∈ cs, c.f1 = s → c.f0 ≤ h → c.f0 < a) ∨
    (∃ c ∈ cs, c.f1 = s ∧ c.f0 ≤ h ∧ a ≤ c.f0 ∧ calledL s h cs nm a = c.f2 ∧ ∀ c' ∈ cs, c'.f1 = s → c'.f0 ≤ h → c'.f0 ≤ c.f0)
  | [], nm, a => .inl ⟨rfl, by simp⟩
  | c :: cs, nm, a => by
    unfold calledL
    by_cases e : c.f1 = s ∧ c.f0 ≤ h ∧ a ≤ c.f0
    · rw [if_pos e]
      right
      rcases calledL_spec s h cs c.f2 c.f0 with ⟨h1, h2⟩ | ⟨d, hd, h1, h2, h3, h4, h5⟩
      · refine ⟨c, List.mem_cons_self .., e.1, e.2.1, e.2.2, h1, fun c' hc' k1 k2 => ?_⟩
        rcases List.mem_cons.1 hc' with rfl | hc'
        · exact Int.le_refl _
        · have := h2 c' hc' k1 k2; omega
      · refine ⟨d, List.mem_cons_of_mem _ hd, h1, h2, by omega, h4, fun c' hc' k1 k2 => ?_⟩
        rcases List.mem_cons.1 hc' with rfl | hc'
        · exact h3
        · exact h5 c' hc' k1 k2
    · rw [if_neg e]
      rcases calledL_spec s h cs nm a with ⟨h1, h2⟩ | ⟨d, hd, h1, h2, h3, h4, h5⟩
      · refine .inl ⟨h1, fun c' hc' k1 k2 => ?_⟩
        rcases List.mem_cons.1 hc' with rfl | hc'
        · exact Classical.byContradiction fun h => e ⟨k1, k2, by omega⟩
        · exact h2 c' hc' k1 k2
      · refine .inr ⟨d, List.mem_cons_of_mem _ hd, h1, h2, h3, h4, fun c' hc' k1 k2 => ?_⟩
        rcases List.mem_cons.1 hc' with rfl | hc'
        · have : c'.f0 < a := Classical.byContradiction fun h => e ⟨k1, k2, by omega⟩
          omega
        · exact h5 c' hc' k1 k2
theorem calledL_same (s h h' : Int) : ∀ (cs : List S60) (nm : ByteArray) (a : Int), (∀ c ∈ cs, c.f1 = s → (c.f0 ≤ h ↔ c.f0 ≤ h')) → calledL s h cs nm a = calledL s h' cs nm a
  | [], _, _, _ => rfl
  | c :: cs, nm, a, hc => by
    have ih := fun nm a => calledL_same s h h' cs nm a (fun d hd => hc d (List.mem_cons_of_mem _ hd))
    have h0 := hc c (List.mem_cons_self ..)
    unfold calledL
    simp only [ih]
    by_cases e : c.f1 = s
    · simp only [e, h0 e]
    · simp only [e, false_and, if_false]
end Go.Proofs.YtdjlfdbnmnjccaaGreat.St
end
