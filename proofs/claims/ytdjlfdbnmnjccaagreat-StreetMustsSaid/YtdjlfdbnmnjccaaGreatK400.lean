/- A part of the proof of a law of this seat: lemmas that hold without conditions. -/
import Derived.Deep.DeepCutAuto
import Derived.Test.YtdjlfdbnmnjccaaGreatB10
import Derived.Test.YtdjlfdbnmnjccaaGreatB32
set_option linter.all false
set_option linter.unusedSectionVars false
section
set_option linter.unusedVariables false
set_option linter.unusedSimpArgs false
namespace Go.Proofs.YtdjlfdbnmnjccaaGreat.St
open Go.RowKit Go.Shelf Go.Proofs.YtdjlfdbnmnjccaaGreatW.PrintWords Go.Proofs.YtdjlfdbnmnjccaaGreatW.PrintLast Go.Proofs.YtdjlfdbnmnjccaaGreatW.PrintMore
theorem cell_below {w w' : World} {a : Addr} {v : Value} (h : w.cell? a = some v) (hb : Below w.heap.size w w') : w'.cell? a = some v := (hb.cell (World.block_lt_of_cell? w _ h)).trans h
theorem inB {a b c : Int} {r : Bool} (h : (decide (b ≤ a) && decide (a ≤ c)) = r) (w : World) : Calls Tryz.prog 22 #[.int .i64 a, .int .i64 b, .int .i64 c] w fun e w' => e = .returned (.bool r) ∧ Aside0 (Below w.heap.size w w') := by
  have := inG a b c w
  rwa [h] at this
theorem isNameB_ {s : ByteArray} {r : Bool} (hs : s.size ≤ 40) (h : isNameB s = r) (w : World) : Calls Tryz.prog 24 #[.string s] w fun e w' => e = .returned (.bool r) ∧ Aside0 (Below w.heap.size w w') := by
  have := isNameG s hs w
  rwa [h] at this
theorem drop_rdO {xs : List S62} {i : Nat} (h : i < xs.length) : xs.drop i = rd_T62 xs (i : Int) :: xs.drop (i + 1) := by
  rw [List.drop_eq_getElem_cons h]
  congr 1
  unfold rd_T62
  simp [List.getD_eq_getElem?_getD, h]
theorem rd_at_O {xs : List S62} {i : Nat} (h : i < xs.length) : rd_T62 xs (i : Int) = xs[i] := by
  unfold rd_T62
  simp [List.getD_eq_getElem?_getD, h]
def ordersE (n : Int) (l : List S62) : Int := if 8 < l.length then 5 else if l.any (fun o => !isOrderB o n) = true then 2 else 0
set_option maxHeartbeats 8000000 in
set_option maxRecDepth 100000 in
theorem orders_ref (A0 : Option Addr) (c0 : Nat) (l0 : List ByteArray) (A1 : Option Addr) (c1 : Nat) (l1 : List S60) (A2 : Option Addr) (c2 : Nat) (l : List S62) (w : World) (T : TwC w A0 c0 l0 A1 c1 l1) (L : LC k62 w A2 c2 l) (hf : l0.length ≤ 20) (hs : ∀ o ∈ l, o.f2.size ≤ 40) :
    Calls Tryz.prog 33 #[.agg #[.slice A0 l0.length c0, .slice A1 l1.length c1], .slice A2 l.length c2] w fun e w' => e = .returned (.int .i64 (ordersE l0.length l)) ∧ Below w.heap.size w w' := by
  have L0 := Aside0.mk L
  have HS := Aside0.mk hs
  have hl9 : l.length ≤ 9223372036854775807 := L.kc.2.1
  clear T L hs
  go_enter Tryz.func33, Tryz.ntmps33
  go_upto_region 1 with fail
  obtain ⟨w1, hw1⟩ : ∃ x, w.alloc (.cells #[.slice A0 l0.length c0, .slice A1 l1.length c1] 25) = x := ⟨_, rfl⟩
  have B1 : Aside0 (Below w.heap.size w w1) := ⟨by rw [← hw1]; exact below_alloc (Below.refl _ _) _⟩
  have X1 : Aside0 (w1.heap[w.heap.size]? = some (.cells #[.slice A0 l0.length c0, .slice A1 l1.length c1] 25 (0, 0))) := ⟨by rw [← hw1]; exact blk_new w _⟩
  rw [hw1]
  clear hw1
  by_cases h8 : 8 < l.length
  · have h8b : (l.length : Int) > 8 := by omega
    have HE := Aside0.mk (show ordersE l0.length l = 5 from by unfold ordersE; rw [if_pos h8])
    go_wp2_with fail
    go_ret
    exact ⟨by rw [HE.out]; rfl, B1.out⟩
  have h8b : ¬ (l.length : Int) > 8 := by omega
  have HE := Aside0.mk (show ordersE l0.length l = if (l.drop 0).any (fun o => !isOrderB o l0.length) = true then 2 else 0 from by unfold ordersE; rw [if_neg h8]; rfl)
  go_wp2_with fail
  go_loopg [4, 5] l.length (fun gg _ s5 wr => ∃ kk : Nat, kk ≤ l.length ∧ l.length - kk ≤ gg ∧ s5 = .int .i64 kk ∧ Aside0 (ordersE l0.length l = if (l.drop kk).any (fun o => !isOrderB o l0.length) = true then 2 else 0) ∧ Aside0 (Below w1.heap.size w1 wr))
  case atStart => exact ⟨0, Nat.zero_le _, by omega, rfl, HE, ⟨Below.refl _ _⟩⟩
  case round =>
    clear HE
    rename World => w2
    obtain ⟨kk, hkk, hg, rfl, HE, B2⟩ := hrel
    by_cases hlt : kk < l.length
    · have hltz : (kk : Int) < (l.length : Int) := by omega
      obtain ⟨ae, rfl, hc0, hc1, hc2⟩ := at_T62 ((L0.out.below B1.out).below B2.out).kc (kk : Int) (by omega) (by omega)
      rw [Int.toNat_natCast] at hc0 hc1 hc2
      have h40 := HS.out (rd_T62 l (kk : Int)) (by
        have e := rd_at_O hlt
        rw [e]; exact List.getElem_mem hlt)
      have HE2 := HE.out
      rw [drop_rdO hlt, List.any_cons] at HE2
      obtain ⟨y, hy⟩ : ∃ y, rd_T62 l (kk : Int) = y := ⟨_, rfl⟩
      rw [hy] at hc0 hc1 hc2 HE2 h40
      have HE3 := Aside0.mk HE2
      have C0 := Aside0.mk hc0
      have C1 := Aside0.mk hc1
      have C2 := Aside0.mk hc2
      clear HE HE2 hy
      have D2 : Aside0 (Below w2.heap.size w2 w2.drew) := ⟨below_drew (Below.refl _ _)⟩
      obtain ⟨x0, x1, xl⟩ := blk2 (blk_below X1.out B2.out)
      obtain ⟨b1, hb1⟩ : ∃ b, (decide (0 ≤ y.f0) && decide (y.f0 ≤ (l0.length : Int) - 1)) = b := ⟨_, rfl⟩
      obtain ⟨b2, hb2⟩ : ∃ b, (decide (0 ≤ y.f1) && decide (y.f1 ≤ 1000)) = b := ⟨_, rfl⟩
      obtain ⟨b3, hb3⟩ : ∃ b, isNameB y.f2 = b := ⟨_, rfl⟩
      have HV := Aside0.mk (show isOrderB y l0.length = (b1 && b2 && b3) from by unfold isOrderB isHourB; rw [hb1, hb2, hb3])
      have HW := Aside0.mk (show IntKind.i64.wrap ((l0.length : Int) - 1) = (l0.length : Int) - 1 from by rw [i64_w]; unfold wrap64; omega)
      have e0 := World.new_ne w2 _ x0
      have e1 := World.new_ne w2 _ hc0
      go_upto_region 6 with fail
      go_cut [43] (fun v43 wc => v43 = .bool (!(b1 && b2 && b3)) ∧ Aside0 (Below w2.heap.size w2 wc))
      case first =>
        cases b1 with
        | false =>
          go_quiet (first | (go_at_call 22; (try rw [HW.out]); (first | with_reducible refine (smaltoref08_In.calls y.f0 0 ((l0.length : Int) - 1) _ _ ((in_f _ _ _).trans (congrArg some hb1))).mono ?_ | with_reducible refine (smaltoref08_In.calls y.f1 0 1000 _ _ ((in_f _ _ _).trans (congrArg some hb2))).mono ?_); rintro e w' ⟨rfl, ⟨nd, rfl⟩⟩; (try first | exact ⟨rfl, _, World.drewN_drewN _ _ _⟩ | exact ⟨rfl, _, Eq.trans (World.drewN_drewN _ _ _) (congrArg (World.drewN _) (Nat.add_assoc _ _ _))⟩)) | (go_at_call 24; refine (smaltoref08_Name.calls 4000 y.f2 _ _ ((name_f y.f2 (by omega) 4000 (by omega)).trans (congrArg some hb3))).mono ?_; rintro e w' ⟨rfl, ⟨nd, rfl⟩⟩; (try first | exact ⟨rfl, _, World.drewN_drewN _ _ _⟩ | exact ⟨rfl, _, Eq.trans (World.drewN_drewN _ _ _) (congrArg (World.drewN _) (Nat.add_assoc _ _ _))⟩)))
          go_wp2_with fail
          go_meet
          case rel => exact ⟨rfl, ⟨pw_below_drewN (Below.refl _ _) _⟩⟩
        | true =>
          cases b2 with
          | false =>
            go_quiet (first | (go_at_call 22; (try rw [HW.out]); (first | with_reducible refine (smaltoref08_In.calls y.f0 0 ((l0.length : Int) - 1) _ _ ((in_f _ _ _).trans (congrArg some hb1))).mono ?_ | with_reducible refine (smaltoref08_In.calls y.f1 0 1000 _ _ ((in_f _ _ _).trans (congrArg some hb2))).mono ?_); rintro e w' ⟨rfl, ⟨nd, rfl⟩⟩; (try first | exact ⟨rfl, _, World.drewN_drewN _ _ _⟩ | exact ⟨rfl, _, Eq.trans (World.drewN_drewN _ _ _) (congrArg (World.drewN _) (Nat.add_assoc _ _ _))⟩)) | (go_at_call 24; refine (smaltoref08_Name.calls 4000 y.f2 _ _ ((name_f y.f2 (by omega) 4000 (by omega)).trans (congrArg some hb3))).mono ?_; rintro e w' ⟨rfl, ⟨nd, rfl⟩⟩; (try first | exact ⟨rfl, _, World.drewN_drewN _ _ _⟩ | exact ⟨rfl, _, Eq.trans (World.drewN_drewN _ _ _) (congrArg (World.drewN _) (Nat.add_assoc _ _ _))⟩)))
            go_wp2_with fail
            go_meet
            case rel => exact ⟨rfl, ⟨pw_below_drewN (Below.refl _ _) _⟩⟩
          | true =>
            cases b3 with
            | false =>
              go_quiet (first | (go_at_call 22; (try rw [HW.out]); (first | with_reducible refine (smaltoref08_In.calls y.f0 0 ((l0.length : Int) - 1) _ _ ((in_f _ _ _).trans (congrArg some hb1))).mono ?_ | with_reducible refine (smaltoref08_In.calls y.f1 0 1000 _ _ ((in_f _ _ _).trans (congrArg some hb2))).mono ?_); rintro e w' ⟨rfl, ⟨nd, rfl⟩⟩; (try first | exact ⟨rfl, _, World.drewN_drewN _ _ _⟩ | exact ⟨rfl, _, Eq.trans (World.drewN_drewN _ _ _) (congrArg (World.drewN _) (Nat.add_assoc _ _ _))⟩)) | (go_at_call 24; refine (smaltoref08_Name.calls 4000 y.f2 _ _ ((name_f y.f2 (by omega) 4000 (by omega)).trans (congrArg some hb3))).mono ?_; rintro e w' ⟨rfl, ⟨nd, rfl⟩⟩; (try first | exact ⟨rfl, _, World.drewN_drewN _ _ _⟩ | exact ⟨rfl, _, Eq.trans (World.drewN_drewN _ _ _) (congrArg (World.drewN _) (Nat.add_assoc _ _ _))⟩)))
              go_wp2_with fail
              go_meet
              case rel => exact ⟨rfl, ⟨pw_below_drewN (Below.refl _ _) _⟩⟩
            | true =>
              go_quiet (first | (go_at_call 22; (try rw [HW.out]); (first | with_reducible refine (smaltoref08_In.calls y.f0 0 ((l0.length : Int) - 1) _ _ ((in_f _ _ _).trans (congrArg some hb1))).mono ?_ | with_reducible refine (smaltoref08_In.calls y.f1 0 1000 _ _ ((in_f _ _ _).trans (congrArg some hb2))).mono ?_); rintro e w' ⟨rfl, ⟨nd, rfl⟩⟩; (try first | exact ⟨rfl, _, World.drewN_drewN _ _ _⟩ | exact ⟨rfl, _, Eq.trans (World.drewN_drewN _ _ _) (congrArg (World.drewN _) (Nat.add_assoc _ _ _))⟩)) | (go_at_call 24; refine (smaltoref08_Name.calls 4000 y.f2 _ _ ((name_f y.f2 (by omega) 4000 (by omega)).trans (congrArg some hb3))).mono ?_; rintro e w' ⟨rfl, ⟨nd, rfl⟩⟩; (try first | exact ⟨rfl, _, World.drewN_drewN _ _ _⟩ | exact ⟨rfl, _, Eq.trans (World.drewN_drewN _ _ _) (congrArg (World.drewN _) (Nat.add_assoc _ _ _))⟩)))
              go_wp2_with fail
              go_meet
              case rel => exact ⟨rfl, ⟨pw_below_drewN (Below.refl _ _) _⟩⟩
      case rest =>
        obtain ⟨rfl, B3⟩ := hcut
        obtain ⟨bb, hbb⟩ : ∃ bb, (b1 && b2 && b3) = bb := ⟨_, rfl⟩
        rw [hbb] at HV ⊢
        cases bb with
        | false =>
          have HF := Aside0.mk (show ordersE l0.length l = 2 from by rw [HE3.out, HV.out]; rfl)
          go_wp2_with fail
          go_ret
          exact ⟨by rw [HF.out]; rfl, (by repeat (first | exact Below.refl _ _ | refine below_from ?_ (Aside0.out (by assumption))))⟩
        | true =>
          have HF := Aside0.mk (show ordersE l0.length l = if (l.drop (kk + 1)).any (fun o => !isOrderB o l0.length) = true then 2 else 0 from by rw [HE3.out, HV.out]; rfl)
          go_wp2_with fail
          go_roundg (l.length - (kk + 1))
          case measure => omega
          case rel => exact ⟨kk + 1, by omega, by omega, by go_num, HF, ⟨(by repeat (first | exact Below.refl _ _ | refine below_from ?_ (Aside0.out (by assumption))))⟩⟩
    · have hltz : ¬ (kk : Int) < (l.length : Int) := by omega
      obtain rfl : kk = l.length := by omega
      have HF := Aside0.mk (show ordersE l0.length l = 0 from by rw [HE.out, List.drop_of_length_le (Nat.le_refl _)]; rfl)
      go_wp2_with fail
      go_ret
      exact ⟨by rw [HF.out]; rfl, (by repeat (first | exact Below.refl _ _ | refine below_from ?_ (Aside0.out (by assumption))))⟩
theorem ordersG (A0 : Option Addr) (c0 : Nat) (l0 : List ByteArray) (A1 : Option Addr) (c1 : Nat) (l1 : List S60) (A2 : Option Addr) (c2 : Nat) (l : List S62) (w : World) (T : TwC w A0 c0 l0 A1 c1 l1) (L : LC k62 w A2 c2 l) (hf : l0.length ≤ 20) (hs : ∀ o ∈ l, o.f2.size ≤ 40) :
    Calls Tryz.prog 33 #[.agg #[.slice A0 l0.length c0, .slice A1 l1.length c1], .slice A2 l.length c2] w fun e w' => e = .returned (.int .i64 (ordersE l0.length l)) ∧ Aside0 (Below w.heap.size w w') := (orders_ref A0 c0 l0 A1 c1 l1 A2 c2 l w T L hf hs).mono fun e w' ⟨h, hb⟩ => ⟨h, ⟨hb⟩⟩
end Go.Proofs.YtdjlfdbnmnjccaaGreat.St
end
