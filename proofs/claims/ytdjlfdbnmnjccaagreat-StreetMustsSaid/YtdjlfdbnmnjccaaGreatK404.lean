/- A part of the proof of a law of this seat: lemmas that hold without conditions. -/
import Derived.Deep.DeepCutAuto
import Derived.Test.YtdjlfdbnmnjccaaGreatK403
set_option linter.all false
set_option linter.unusedSectionVars false
section
set_option linter.unusedVariables false
set_option linter.unusedSimpArgs false
namespace Go.Proofs.YtdjlfdbnmnjccaaGreat.St
open Go.RowKit Go.Shelf Go.Proofs.YtdjlfdbnmnjccaaGreatW.PrintWords Go.Proofs.YtdjlfdbnmnjccaaGreatW.PrintLast Go.Proofs.YtdjlfdbnmnjccaaGreatW.PrintMore
theorem infoOrder : (Tryz.prog.info? 62).map (fun i => (i.zero, i.size, i.bytes)) = some (some (.agg #[(.int .i64 0), (.int .i64 0), (.string ⟨#[]⟩)]), 3, 32) := by kernel_rfl
theorem eqOrder (d : Nat) (w : World) (x0 y0 : Int) (x1 y1 : Int) (x2 y2 : ByteArray) :
    (Op.equalIn (d + 2) 62 (.agg #[.int .i64 x0, .int .i64 x1, .string x2]) (.agg #[.int .i64 y0, .int .i64 y1, .string y2])).run Tryz.prog w = .ok (x0 == y0 && (x1 == y1 && (x2.toList == y2.toList))) w := by
  refine eqA_of Tryz.underlying62 (by kernel_rfl) ?_
  refine eqf_cons (by rfl) (by go_simp; rfl) (by go_simp; rfl) (by go_simp) ?_
  refine eqf_cons (by rfl) (by go_simp; rfl) (by go_simp; rfl) (by go_simp) ?_
  exact eqf_last (by rfl) (by go_simp; rfl) (by go_simp; rfl) (by go_simp)
attribute [local go_sem high] eqOrder
set_option maxHeartbeats 8000000 in
set_option maxRecDepth 100000 in
theorem musts_walk (A0 : Option Addr) (c0 : Nat) (l0 : List ByteArray) (A1 : Option Addr) (c1 : Nat) (l1 : List S60) (A2 : Option Addr) (c2 : Nat) (l : List S62) (c : S60) (w : World) (T : TwC w A0 c0 l0 A1 c1 l1) (L : LC k62 w A2 c2 l) :
    Calls Tryz.prog 6 #[.agg #[.slice A0 l0.length c0, .slice A1 l1.length c1], .slice A2 l.length c2, .agg #[.int .i64 c.f0, .int .i64 c.f1, .string c.f2]] w fun e w' => e = .returned (.bool true) ∧ Below w.heap.size w w' := by
  have T0 := Aside0.mk T
  have L0 := Aside0.mk L
  have hl9 : l.length ≤ 9223372036854775807 := L.kc.2.1
  clear T L
  go_enter Tryz.func6, Tryz.ntmps6
  go_upto_region 1 with fail
  obtain ⟨w1, hw1⟩ : ∃ x, (w.alloc (.cells #[.slice A0 l0.length c0, .slice A1 l1.length c1] 25)).alloc (.cells #[.int .i64 c.f0, .int .i64 c.f1, .string c.f2] 60) = x := ⟨_, rfl⟩
  have B1 : Aside0 (Below w.heap.size w w1) := ⟨by rw [← hw1]; exact below_alloc (below_alloc (Below.refl _ _) _) _⟩
  have X1 : Aside0 (w1.heap[w.heap.size]? = some (.cells #[.slice A0 l0.length c0, .slice A1 l1.length c1] 25 (0, 0))) := ⟨by rw [← hw1]; exact blk_alloc (blk_new w _) _⟩
  have Y1 : Aside0 (w1.heap[w.heap.size + 1]? = some (.cells #[.int .i64 c.f0, .int .i64 c.f1, .string c.f2] 60 (0, 0))) := ⟨by rw [← hw1]; have := blk_new (w.alloc (.cells #[.slice A0 l0.length c0, .slice A1 l1.length c1] 25)) (.cells #[.int .i64 c.f0, .int .i64 c.f1, .string c.f2] 60); rwa [World.size_alloc] at this⟩
  rw [hw1]
  clear hw1
  by_cases h20 : 20 < l.length
  · have h20b : (l.length : Int) > 20 := by omega
    go_wp2_with fail
    refine (knownG _).mono ?_
    rintro e w2 ⟨rfl, B2⟩
    go_wp2_with fail
    go_ret
    exact ⟨rfl, (by repeat (first | exact Below.refl _ _ | refine below_from ?_ (Aside0.out (by assumption))))⟩
  have h20b : ¬ (l.length : Int) > 20 := by omega
  have c_t : w1.heap[w.heap.size]? = some (.cells #[.slice A0 l0.length c0, .slice A1 l1.length c1] 25 (0, 0)) := (by repeat (first | exact Aside0.out (by assumption) | refine blk_below ?_ (Aside0.out (by assumption))))
  have c_t0 : w1.cell? ⟨w.heap.size, 0, none⟩ = some (.slice A0 l0.length c0) := (blk_cell c_t 0).trans rfl
  have c_t1 : w1.cell? ⟨w.heap.size, 1, none⟩ = some (.slice A1 l1.length c1) := (blk_cell c_t 1).trans rfl
  have c_v : w1.heap[w.heap.size + 1]? = some (.cells #[.int .i64 c.f0, .int .i64 c.f1, .string c.f2] 60 (0, 0)) := (by repeat (first | exact Aside0.out (by assumption) | refine blk_below ?_ (Aside0.out (by assumption))))
  have c_v0 : w1.cell? ⟨w.heap.size + 1, 0, none⟩ = some (.int .i64 c.f0) := (blk_cell c_v 0).trans rfl
  have c_v1 : w1.cell? ⟨w.heap.size + 1, 1, none⟩ = some (.int .i64 c.f1) := (blk_cell c_v 1).trans rfl
  have c_v2 : w1.cell? ⟨w.heap.size + 1, 2, none⟩ = some (.string c.f2) := (blk_cell c_v 2).trans rfl
  go_wp2_with fail
  clear c_t0 c_t1 c_t c_v0 c_v1 c_v2 c_v
  obtain ⟨w2, hw2⟩ : ∃ x, w1.alloc (.cells #[.string c.f2] 9) = x := ⟨_, rfl⟩
  have B2 : Aside0 (Below w1.heap.size w1 w2) := ⟨by rw [← hw2]; exact below_alloc (Below.refl _ _) _⟩
  have N2 : Aside0 (LC Kd.string w2 (some ⟨w1.heap.size, 0, none⟩) 1 [c.f2]) := ⟨by rw [← hw2]; exact LC.one c.f2 9 rfl⟩
  rw [hw2]
  clear hw2
  obtain ⟨b, HLG, HB⟩ := longG (w := w2) ((by repeat (first | exact Aside0.out (by assumption) | refine TwC.below ?_ (Aside0.out (by assumption)))) : TwC w2 A0 c0 l0 A1 c1 l1) N2.out
  refine (HLG).mono ?_
  rintro e w3 ⟨rfl, B3⟩
  cases b with
  | true =>
    go_wp2_with fail
    refine (knownG _).mono ?_
    rintro e w4 ⟨rfl, B4⟩
    go_wp2_with fail
    go_ret
    exact ⟨rfl, (by repeat (first | exact Below.refl _ _ | refine below_from ?_ (Aside0.out (by assumption))))⟩
  | false =>
    obtain ⟨S, hs⟩ := HB rfl
    have hs40 := hs c.f2 (List.mem_cons_self ..)
    have hl20 := S.n0
    have hl21 := S.n1
    clear HB HLG hs N2
    go_wp2_with fail
    go_loopg [6, 7] l.length (fun gg _ s7 wr => ∃ kk : Nat, kk ≤ l.length ∧ l.length - kk ≤ gg ∧ s7 = .int .i64 kk ∧ Aside0 (∀ j : Nat, ∀ h : j < l.length, j < kk → l[j].f2.size ≤ 40) ∧ Aside0 (Below w3.heap.size w3 wr))
    case atStart => exact ⟨0, Nat.zero_le _, by omega, rfl, ⟨fun j _ hj => absurd hj (Nat.not_lt_zero _)⟩, ⟨Below.refl _ _⟩⟩
    case round =>
      rename World => w4
      obtain ⟨kk, hkk, hg, rfl, HZ, B4⟩ := hrel
      by_cases hlt : kk < l.length
      · have hltz : (kk : Int) < (l.length : Int) := by omega
        obtain ⟨ae, rfl, hc0, hc1, hc2⟩ := at_T62 ((by repeat (first | exact Aside0.out (by assumption) | refine LC.below ?_ (Aside0.out (by assumption)))) : LC k62 w4 A2 c2 l).kc (kk : Int) (by omega) (by omega)
        rw [Int.toNat_natCast, rd_at_O hlt] at hc0 hc1 hc2
        obtain ⟨y, hy⟩ : ∃ y, l[kk] = y := ⟨_, rfl⟩
        rw [hy] at hc0 hc1 hc2
        by_cases hz : 40 < y.f2.size
        · have hzb : (y.f2.size : Int) > 40 := by omega
          go_wp2_with fail
          refine (knownG _).mono ?_
          rintro e w5 ⟨rfl, B5⟩
          go_wp2_with fail
          go_ret
          exact ⟨rfl, (by repeat (first | exact Below.refl _ _ | refine below_from ?_ (Aside0.out (by assumption))))⟩
        · have hzb : ¬ (y.f2.size : Int) > 40 := by omega
          go_wp2_with fail
          go_roundg (l.length - (kk + 1))
          case measure => omega
          case rel => exact ⟨kk + 1, by omega, by omega, by go_num, ⟨fun j h hj => if e : j < kk then HZ.out j h e else by obtain rfl : j = kk := (by omega); rw [hy]; omega⟩, ⟨(by repeat (first | exact Below.refl _ _ | refine below_from ?_ (Aside0.out (by assumption))))⟩⟩
      have hltz : ¬ (kk : Int) < (l.length : Int) := by omega
      have HS : ∀ o ∈ l, o.f2.size ≤ 40 := fun o ho => by obtain ⟨j, hj, rfl⟩ := List.mem_iff_getElem.1 ho; exact HZ.out j hj (by omega)
      clear HZ
      have T4 : Aside0 (TwC w4 A0 c0 l0 A1 c1 l1) := ⟨(by repeat (first | exact Aside0.out (by assumption) | refine TwC.below ?_ (Aside0.out (by assumption))))⟩
      have c_t : w4.heap[w.heap.size]? = some (.cells #[.slice A0 l0.length c0, .slice A1 l1.length c1] 25 (0, 0)) := (by repeat (first | exact Aside0.out (by assumption) | refine blk_below ?_ (Aside0.out (by assumption))))
      have c_t0 : w4.cell? ⟨w.heap.size, 0, none⟩ = some (.slice A0 l0.length c0) := (blk_cell c_t 0).trans rfl
      have c_t1 : w4.cell? ⟨w.heap.size, 1, none⟩ = some (.slice A1 l1.length c1) := (blk_cell c_t 1).trans rfl
      have L4 : Aside0 (LC k62 w4 A2 c2 l) := ⟨(by repeat (first | exact Aside0.out (by assumption) | refine LC.below ?_ (Aside0.out (by assumption))))⟩
      go_wp2_with (first | (go_at_call 12; refine (copyRR S _ T4.out).mono ?_; rintro e w5 ⟨B, d, B' , d', rfl, T5, B5⟩) | (at_builtin; refine Kd.R_append_rows k62 (w0 := w5) (W := w5.alloc (.cells #[] 62)) w5.heap.size ?b1 (.tmp 50) (.tmp 51) 58 62 (.agg #[(.int .i64 0), (.int .i64 0), (.string ⟨#[]⟩)]) 32 ?b2 Tryz.underlying58 infoOrder rfl (by decide) (by omega) (.slice (some ⟨w5.heap.size, 0, none⟩) 0 0) [] l A2 l.length c2 (fun _ => True) (fun _ => False) ?b3 ?b4 ?aO ?aR (fun _ _ h => h) (fun _ h => h.elim) ?aF ?aB ?aS ?aL ?_; (case b1 => rfl); (case b2 => rfl); (case b3 => rfl); (case b4 => rfl); (case aO => exact R_new k62 62 w5 [] [] (Reps.none _ _) (by decide)); (case aR => exact Kd.C_alloc (L4.out.below B5.out).kc _); (case aF => exact fun _ _ => trivial); (case aB => exact below_alloc (Below.refl _ _) _); (case aS => exact Below.size (below_alloc (Below.refl _ _) _)); (case aL => simp; omega); intro v9 w6 ho hb hg hat; have B6 := Aside0.mk hb; clear hb hg hat; obtain ⟨A9, c9, rfl, k9⟩ := LC.of ho; have L6 : Aside0 (LC k62 w6 A9 c9 l) := ⟨k9⟩; clear ho k9; rw [List.nil_append]))
      clear c_t0 c_t1 c_t
      obtain ⟨w7, hw7⟩ : ∃ x, w6.alloc (.cells #[.slice B l0.length d, .slice B' l1.length d'] 25) = x := ⟨_, rfl⟩
      have B7 : Aside0 (Below w6.heap.size w6 w7) := ⟨by rw [← hw7]; exact below_alloc (Below.refl _ _) _⟩
      have X7 : Aside0 (w7.heap[w6.heap.size]? = some (.cells #[.slice B l0.length d, .slice B' l1.length d'] 25 (0, 0))) := ⟨by rw [← hw7]; exact blk_new w6 _⟩
      rw [hw7]
      clear hw7
      have TX7 : Aside0 (TwC w7 B d l0 B' d' l1) := ⟨(T5.out.tw.below B6.out).below B7.out⟩
      have L8 : Aside0 (LC k62 w7 A9 c9 l) := ⟨L6.out.below B7.out⟩
      clear T5 L6
      obtain ⟨m1, m2, m3, hm⟩ : ∃ a b c, mustT l0 l1 l = (a, b, c) := ⟨_, _, _, rfl⟩
      obtain ⟨n1, n2, hn⟩ : ∃ a b, changedR l0 l1 l c = (a, b) := ⟨_, _, rfl⟩
      refine (musG B d l0 B' d' l1 A9 c9 l w7 TX7.out L8.out hm).mono ?_
      rintro e w8 ⟨R0, e0, R1, e1, rfl, M1, M2, B8⟩
      have c_x : w8.heap[w6.heap.size]? = some (.cells #[.slice B l0.length d, .slice B' l1.length d'] 25 (0, 0)) := (by repeat (first | exact Aside0.out (by assumption) | refine blk_below ?_ (Aside0.out (by assumption))))
      have c_x0 : w8.cell? ⟨w6.heap.size, 0, none⟩ = some (.slice B l0.length d) := (blk_cell c_x 0).trans rfl
      have c_x1 : w8.cell? ⟨w6.heap.size, 1, none⟩ = some (.slice B' l1.length d') := (blk_cell c_x 1).trans rfl
      have c_v : w8.heap[w.heap.size + 1]? = some (.cells #[.int .i64 c.f0, .int .i64 c.f1, .string c.f2] 60 (0, 0)) := (by repeat (first | exact Aside0.out (by assumption) | refine blk_below ?_ (Aside0.out (by assumption))))
      have c_v0 : w8.cell? ⟨w.heap.size + 1, 0, none⟩ = some (.int .i64 c.f0) := (blk_cell c_v 0).trans rfl
      have c_v1 : w8.cell? ⟨w.heap.size + 1, 1, none⟩ = some (.int .i64 c.f1) := (blk_cell c_v 1).trans rfl
      have c_v2 : w8.cell? ⟨w.heap.size + 1, 2, none⟩ = some (.string c.f2) := (blk_cell c_v 2).trans rfl
      go_wp2_with fail
      refine (chaG B d l0 B' d' l1 A9 c9 l c w8 (TX7.out.below B8.out) (L8.out.below B8.out) hn).mono ?_
      rintro e w9 ⟨R2, e2, rfl, M3, B9⟩
      clear c_x0 c_x1 c_x c_v0 c_v1 c_v2 c_v
      have c_x : w9.heap[w6.heap.size]? = some (.cells #[.slice B l0.length d, .slice B' l1.length d'] 25 (0, 0)) := (by repeat (first | exact Aside0.out (by assumption) | refine blk_below ?_ (Aside0.out (by assumption))))
      have c_x0 : w9.cell? ⟨w6.heap.size, 0, none⟩ = some (.slice B l0.length d) := (blk_cell c_x 0).trans rfl
      have c_x1 : w9.cell? ⟨w6.heap.size, 1, none⟩ = some (.slice B' l1.length d') := (blk_cell c_x 1).trans rfl
      have c_t : w9.heap[w.heap.size]? = some (.cells #[.slice A0 l0.length c0, .slice A1 l1.length c1] 25 (0, 0)) := (by repeat (first | exact Aside0.out (by assumption) | refine blk_below ?_ (Aside0.out (by assumption))))
      have c_t0 : w9.cell? ⟨w.heap.size, 0, none⟩ = some (.slice A0 l0.length c0) := (blk_cell c_t 0).trans rfl
      have c_t1 : w9.cell? ⟨w.heap.size, 1, none⟩ = some (.slice A1 l1.length c1) := (blk_cell c_t 1).trans rfl
      go_wp2_with fail
      refine (sameG S w9 ((by repeat (first | exact Aside0.out (by assumption) | refine TwC.below ?_ (Aside0.out (by assumption)))) : TwC w9 B d l0 B' d' l1) ((by repeat (first | exact Aside0.out (by assumption) | refine TwC.below ?_ (Aside0.out (by assumption)))) : TwC w9 A0 c0 l0 A1 c1 l1)).mono ?_
      rintro e w10 ⟨rfl, B10⟩
      clear c_x0 c_x1 c_x c_t0 c_t1 c_t
      go_wp2_with fail
      go_loopg [6, 15] l.length (fun gg _ s15 wr => ∃ kk : Nat, kk ≤ l.length ∧ l.length - kk ≤ gg ∧ s15 = .int .i64 kk ∧ Aside0 (Below w10.heap.size w10 wr))
      case atStart => exact ⟨0, Nat.zero_le _, by omega, rfl, ⟨Below.refl _ _⟩⟩
      case round =>
        rename World => w11
        clear hkk hg hltz
        obtain ⟨k2, hkk, hg, rfl, B11⟩ := hrel
        by_cases hlt2 : k2 < l.length
        · have hltz : (k2 : Int) < (l.length : Int) := by omega
          obtain ⟨ae, rfl, hc0, hc1, hc2⟩ := at_T62 ((by repeat (first | exact Aside0.out (by assumption) | refine LC.below ?_ (Aside0.out (by assumption)))) : LC k62 w11 A2 c2 l).kc (k2 : Int) (by omega) (by omega)
          obtain ⟨af, rfl, hd0, hd1, hd2⟩ := at_T62 ((by repeat (first | exact Aside0.out (by assumption) | refine LC.below ?_ (Aside0.out (by assumption)))) : LC k62 w11 A9 c9 l).kc (k2 : Int) (by omega) (by omega)
          rw [Int.toNat_natCast] at hc0 hc1 hc2 hd0 hd1 hd2
          obtain ⟨y, hy⟩ : ∃ y, rd_T62 l (k2 : Int) = y := ⟨_, rfl⟩
          rw [hy] at hc0 hc1 hc2 hd0 hd1 hd2
          clear hy
          go_wp2_with fail
          go_region
          all_goals go_wp2_with fail
          all_goals go_roundg (l.length - (k2 + 1))
          all_goals first | omega | exact ⟨k2 + 1, by omega, by omega, by go_num, ⟨below_drew (by repeat (first | exact Below.refl _ _ | refine below_from ?_ (Aside0.out (by assumption))))⟩⟩ | exact ⟨k2 + 1, by omega, by omega, by go_num, ⟨(by repeat (first | exact Below.refl _ _ | refine below_from ?_ (Aside0.out (by assumption))))⟩⟩
        have hltz : ¬ (k2 : Int) < (l.length : Int) := by omega
        clear hkk hg
        have T11 : Aside0 (TwC w11 A0 c0 l0 A1 c1 l1) := ⟨(by repeat (first | exact Aside0.out (by assumption) | refine TwC.below ?_ (Aside0.out (by assumption))))⟩
        have c_t : w11.heap[w.heap.size]? = some (.cells #[.slice A0 l0.length c0, .slice A1 l1.length c1] 25 (0, 0)) := (by repeat (first | exact Aside0.out (by assumption) | refine blk_below ?_ (Aside0.out (by assumption))))
        have c_t0 : w11.cell? ⟨w.heap.size, 0, none⟩ = some (.slice A0 l0.length c0) := (blk_cell c_t 0).trans rfl
        have c_t1 : w11.cell? ⟨w.heap.size, 1, none⟩ = some (.slice A1 l1.length c1) := (blk_cell c_t 1).trans rfl
        go_wp2_with fail
        refine (openG S w11 T11.out).mono ?_
        rintro e w12 ⟨rfl, B12⟩
        clear c_t0 c_t1 c_t
        obtain ⟨E, hE⟩ : ∃ E, openE l0 l1 = E := ⟨_, rfl⟩
        rw [hE]
        by_cases hE0 : E = 0
        · subst hE0
          have c_t : w12.heap[w.heap.size]? = some (.cells #[.slice A0 l0.length c0, .slice A1 l1.length c1] 25 (0, 0)) := (by repeat (first | exact Aside0.out (by assumption) | refine blk_below ?_ (Aside0.out (by assumption))))
          have c_t0 : w12.cell? ⟨w.heap.size, 0, none⟩ = some (.slice A0 l0.length c0) := (blk_cell c_t 0).trans rfl
          have c_t1 : w12.cell? ⟨w.heap.size, 1, none⟩ = some (.slice A1 l1.length c1) := (blk_cell c_t 1).trans rfl
          go_wp2_with fail
          refine (ordersG A0 c0 l0 A1 c1 l1 A2 c2 l w12 (by repeat (first | exact Aside0.out (by assumption) | refine TwC.below ?_ (Aside0.out (by assumption)))) (by repeat (first | exact Aside0.out (by assumption) | refine LC.below ?_ (Aside0.out (by assumption)))) S.n0 HS).mono ?_
          rintro e w13 ⟨rfl, B13⟩
          clear c_t0 c_t1 c_t
          obtain ⟨O, hO⟩ : ∃ O, ordersE l0.length l = O := ⟨_, rfl⟩
          rw [hO]
          by_cases hO0 : O = 0
          · subst hO0
            have HOO := Aside0.mk (orders_ok hO)
            rw [mustT_ok hE hO] at hm
            have hm0 : m3 = 0 := (congrArg (fun x => x.2.2) hm).symm
            subst hm0
            have HM1 : Aside0 (l.map (sayP l0 l1) = m1) := ⟨congrArg (fun x => x.1) hm⟩
            have HM2 : Aside0 (wrongP l0 l1 l l.length = m2) := ⟨congrArg (fun x => x.2.1) hm⟩
            have HL1 : Aside0 (m1.length ≤ 20) := ⟨by rw [← HM1.out, List.length_map]; omega⟩
            have HL2 : Aside0 (m2.length ≤ 20) := ⟨by rw [← HM2.out]; exact Nat.le_trans (wrongP_len _ _ _ _) (by omega)⟩
            have HEO := Aside0.mk (And.intro hE hO)
            clear hm hE hO
            have c_t : w13.heap[w.heap.size]? = some (.cells #[.slice A0 l0.length c0, .slice A1 l1.length c1] 25 (0, 0)) := (by repeat (first | exact Aside0.out (by assumption) | refine blk_below ?_ (Aside0.out (by assumption))))
            have c_t0 : w13.cell? ⟨w.heap.size, 0, none⟩ = some (.slice A0 l0.length c0) := (blk_cell c_t 0).trans rfl
            have c_t1 : w13.cell? ⟨w.heap.size, 1, none⟩ = some (.slice A1 l1.length c1) := (blk_cell c_t 1).trans rfl
            go_wp2_with fail
            refine (musRG A0 c0 l0 A1 c1 l1 A2 c2 l w13 (by repeat (first | exact Aside0.out (by assumption) | refine TwC.below ?_ (Aside0.out (by assumption)))) (by repeat (first | exact Aside0.out (by assumption) | refine LC.below ?_ (Aside0.out (by assumption)))) (by omega) (by omega) HOO.out.2 HM1.out HM2.out).mono ?_
            rintro e w14 ⟨R3, e3, R4, e4, rfl, M5, M6, B14⟩
            clear c_t0 c_t1 c_t
            go_wp2_with fail
            refine (textsG R0 e0 R3 e3 m1 w14 (by repeat (first | exact Aside0.out (by assumption) | refine LC.below ?_ (Aside0.out (by assumption)))) (by repeat (first | exact Aside0.out (by assumption) | refine LC.below ?_ (Aside0.out (by assumption)))) (by have := HL1.out; omega)).mono ?_
            rintro e w15 ⟨rfl, B15⟩
            go_wp2_with fail
            refine (intsG R1 e1 R4 e4 m2 w15 (by repeat (first | exact Aside0.out (by assumption) | refine LC.below ?_ (Aside0.out (by assumption)))) (by repeat (first | exact Aside0.out (by assumption) | refine LC.below ?_ (Aside0.out (by assumption)))) (by have := HL2.out; omega)).mono ?_
            rintro e w16 ⟨rfl, B16⟩
            have c_t : w16.heap[w.heap.size]? = some (.cells #[.slice A0 l0.length c0, .slice A1 l1.length c1] 25 (0, 0)) := (by repeat (first | exact Aside0.out (by assumption) | refine blk_below ?_ (Aside0.out (by assumption))))
            have c_t0 : w16.cell? ⟨w.heap.size, 0, none⟩ = some (.slice A0 l0.length c0) := (blk_cell c_t 0).trans rfl
            have c_t1 : w16.cell? ⟨w.heap.size, 1, none⟩ = some (.slice A1 l1.length c1) := (blk_cell c_t 1).trans rfl
            have c_v : w16.heap[w.heap.size + 1]? = some (.cells #[.int .i64 c.f0, .int .i64 c.f1, .string c.f2] 60 (0, 0)) := (by repeat (first | exact Aside0.out (by assumption) | refine blk_below ?_ (Aside0.out (by assumption))))
            have c_v0 : w16.cell? ⟨w.heap.size + 1, 0, none⟩ = some (.int .i64 c.f0) := (blk_cell c_v 0).trans rfl
            have c_v1 : w16.cell? ⟨w.heap.size + 1, 1, none⟩ = some (.int .i64 c.f1) := (blk_cell c_v 1).trans rfl
            have c_v2 : w16.cell? ⟨w.heap.size + 1, 2, none⟩ = some (.string c.f2) := (blk_cell c_v 2).trans rfl
            by_cases h8 : 8 ≤ l1.length
            · have h8b : (l1.length : Int) ≥ 8 := by omega
              rw [changedR_full HEO.out.1 HEO.out.2 h8] at hn
              obtain ⟨rfl, rfl⟩ : ([] : List Int) = n1 ∧ (8 : Int) = n2 := by cases hn; exact ⟨rfl, rfl⟩
              clear hn
              go_wp2_with fail
              refine (knownG _).mono ?_
              rintro e w17 ⟨rfl, B17⟩
              clear c_t0 c_t1 c_t c_v0 c_v1 c_v2 c_v
              go_wp2_with fail
              go_ret
              exact ⟨rfl, (by repeat (first | exact Below.refl _ _ | refine below_from ?_ (Aside0.out (by assumption))))⟩
            have h8b : ¬ (l1.length : Int) ≥ 8 := by omega
            obtain ⟨b3, hb3⟩ : ∃ b, isChangeB c l0.length = b := ⟨_, rfl⟩
            go_wp2_with fail
            refine (changeIsG c l0.length (by omega) hs40 hb3 w16).mono ?_
            rintro e w17 ⟨rfl, B17⟩
            clear c_t0 c_t1 c_t c_v0 c_v1 c_v2 c_v
            cases b3 with
            | false =>
              rw [changedR_arg HEO.out.1 HEO.out.2 h8 hb3] at hn
              obtain ⟨rfl, rfl⟩ : ([] : List Int) = n1 ∧ (2 : Int) = n2 := by cases hn; exact ⟨rfl, rfl⟩
              clear hn
              go_wp2_with fail
              refine (knownG _).mono ?_
              rintro e w18 ⟨rfl, B18⟩
              go_wp2_with fail
              go_ret
              exact ⟨rfl, (by repeat (first | exact Below.refl _ _ | refine below_from ?_ (Aside0.out (by assumption))))⟩
            | true =>
              obtain ⟨lc, hlc⟩ : ∃ x, l1 ++ [c] = x := ⟨_, rfl⟩
              have HLC := Aside0.mk hlc
              clear hlc
              have c_t : w17.heap[w.heap.size]? = some (.cells #[.slice A0 l0.length c0, .slice A1 l1.length c1] 25 (0, 0)) := (by repeat (first | exact Aside0.out (by assumption) | refine blk_below ?_ (Aside0.out (by assumption))))
              have c_t0 : w17.cell? ⟨w.heap.size, 0, none⟩ = some (.slice A0 l0.length c0) := (blk_cell c_t 0).trans rfl
              have c_t1 : w17.cell? ⟨w.heap.size, 1, none⟩ = some (.slice A1 l1.length c1) := (blk_cell c_t 1).trans rfl
              have c_v : w17.heap[w.heap.size + 1]? = some (.cells #[.int .i64 c.f0, .int .i64 c.f1, .string c.f2] 60 (0, 0)) := (by repeat (first | exact Aside0.out (by assumption) | refine blk_below ?_ (Aside0.out (by assumption))))
              have c_v0 : w17.cell? ⟨w.heap.size + 1, 0, none⟩ = some (.int .i64 c.f0) := (blk_cell c_v 0).trans rfl
              have c_v1 : w17.cell? ⟨w.heap.size + 1, 1, none⟩ = some (.int .i64 c.f1) := (blk_cell c_v 1).trans rfl
              have c_v2 : w17.cell? ⟨w.heap.size + 1, 2, none⟩ = some (.string c.f2) := (blk_cell c_v 2).trans rfl
              go_wp2_with fail
              refine (withG A0 c0 l0 A1 c1 l1 c w17 (by repeat (first | exact Aside0.out (by assumption) | refine TwC.below ?_ (Aside0.out (by assumption)))) S HLC.out).mono ?_
              rintro e w18 ⟨C, f, C', f', rfl, T18, B18⟩
              clear c_t0 c_t1 c_t c_v0 c_v1 c_v2 c_v
              go_wp2_with fail
              have S2 : Small l0 lc := ⟨S.n0, by rw [← HLC.out, List.length_append]; simp; omega, S.s0, fun x hx => by rw [← HLC.out] at hx; rcases List.mem_append.1 hx with h | h; exact S.s1 x h; rw [List.mem_singleton.1 h]; exact hs40⟩
              refine (openG S2 w18 T18.out).mono ?_
              rintro e w19 ⟨rfl, B19⟩
              obtain ⟨E2, hE2⟩ : ∃ E, openE l0 lc = E := ⟨_, rfl⟩
              rw [hE2]
              by_cases hE3 : E2 = 0
              · subst hE3
                rw [changedR_ok HEO.out.1 HEO.out.2 h8 hb3 (by rw [HLC.out]; exact hE2), HLC.out] at hn
                have hn0 : n2 = 0 := (congrArg (fun x => x.2) hn).symm
                subst hn0
                have HN1 : Aside0 (moreP (wrongP l0 l1 l l.length) (wrongP l0 lc l l.length) = n1) := ⟨congrArg (fun x => x.1) hn⟩
                have HE2 := Aside0.mk hE2
                clear hn hE2
                have c_t : w19.heap[w.heap.size]? = some (.cells #[.slice A0 l0.length c0, .slice A1 l1.length c1] 25 (0, 0)) := (by repeat (first | exact Aside0.out (by assumption) | refine blk_below ?_ (Aside0.out (by assumption))))
                have c_t0 : w19.cell? ⟨w.heap.size, 0, none⟩ = some (.slice A0 l0.length c0) := (blk_cell c_t 0).trans rfl
                have c_t1 : w19.cell? ⟨w.heap.size, 1, none⟩ = some (.slice A1 l1.length c1) := (blk_cell c_t 1).trans rfl
                have c_v : w19.heap[w.heap.size + 1]? = some (.cells #[.int .i64 c.f0, .int .i64 c.f1, .string c.f2] 60 (0, 0)) := (by repeat (first | exact Aside0.out (by assumption) | refine blk_below ?_ (Aside0.out (by assumption))))
                have c_v0 : w19.cell? ⟨w.heap.size + 1, 0, none⟩ = some (.int .i64 c.f0) := (blk_cell c_v 0).trans rfl
                have c_v1 : w19.cell? ⟨w.heap.size + 1, 1, none⟩ = some (.int .i64 c.f1) := (blk_cell c_v 1).trans rfl
                have c_v2 : w19.cell? ⟨w.heap.size + 1, 2, none⟩ = some (.string c.f2) := (blk_cell c_v 2).trans rfl
                go_wp2_with fail
                refine (withG A0 c0 l0 A1 c1 l1 c w19 (by repeat (first | exact Aside0.out (by assumption) | refine TwC.below ?_ (Aside0.out (by assumption)))) S HLC.out).mono ?_
                rintro e w20 ⟨G, h, G', h', rfl, T20, B20⟩
                clear c_t0 c_t1 c_t c_v0 c_v1 c_v2 c_v
                go_wp2_with fail
                obtain ⟨tn, htn⟩ : ∃ x, wrongP l0 lc l l.length = x := ⟨_, rfl⟩
                obtain ⟨rn, hrn⟩ : ∃ x, l.map (sayP l0 lc) = x := ⟨_, rfl⟩
                have HTN := Aside0.mk htn
                have HRN := Aside0.mk hrn
                clear htn hrn
                refine (musRG G h l0 G' h' lc A2 c2 l w20 T20.out (by repeat (first | exact Aside0.out (by assumption) | refine LC.below ?_ (Aside0.out (by assumption)))) (by have := S2.n1; omega) (by omega) HOO.out.2 HRN.out HTN.out).mono ?_
                rintro e w21 ⟨R5, e5, R6, e6, rfl, M7, M8, B21⟩
                go_wp2_with fail
                obtain ⟨w22, hw22⟩ : ∃ x, w21.alloc (.cells #[] 3) = x := ⟨_, rfl⟩
                have B22 : Aside0 (Below w21.heap.size w21 w22) := ⟨by rw [← hw22]; exact below_alloc (Below.refl _ _) _⟩
                have Q22 : Aside0 (Kd.R (Kd.int .i64) 3 w22 w21.heap.size (fun _ => True) (.slice (some ⟨w21.heap.size, 0, none⟩) 0 0) (moreP m2 (tn.take 0))) := ⟨by rw [← hw22]; exact R_new (Kd.int .i64) 3 w21 [] [] (Reps.none _ _) (by decide)⟩
                rw [hw22]
                clear hw22
                have HTL : Aside0 (tn.length ≤ 20) := ⟨by rw [← HTN.out]; exact Nat.le_trans (wrongP_len _ _ _ _) (by omega)⟩
                go_loopg [21, 22] tn.length (fun gg s21 s22 wr => ∃ kk : Nat, kk ≤ tn.length ∧ tn.length - kk ≤ gg ∧ s22 = .int .i64 kk ∧ Aside0 (Kd.R (Kd.int .i64) 3 wr w21.heap.size (fun _ => True) s21 (moreP m2 (tn.take kk))) ∧ Aside0 (Below w21.heap.size w21 wr))
                case atStart => exact ⟨0, Nat.zero_le _, by omega, rfl, Q22, B22⟩
                case round =>
                  rename World => w23
                  clear Q22 B22
                  obtain ⟨k3, hkk, hg, rfl, Q23, B23⟩ := hrel
                  by_cases hlt3 : k3 < tn.length
                  · have hltz : (k3 : Int) < (tn.length : Int) := by omega
                    obtain ⟨ad, rfl, hc⟩ := Kd.at_int ((by repeat (first | exact Aside0.out (by assumption) | refine LC.below ?_ (Aside0.out (by assumption)))) : LC (Kd.int .i64) w23 R6 e6 tn).kc (k3 : Int) (by omega) (by omega)
                    rw [Int.toNat_natCast] at hc
                    have hrd := rd_at hlt3
                    obtain ⟨x, hx⟩ : ∃ x, tn[k3] = x := ⟨_, rfl⟩
                    rw [hrd, hx] at hc
                    clear hrd
                    have HSU := moreP_succ m2 tn k3 hlt3
                    rw [hx] at HSU
                    clear hx
                    have HCC := Aside0.mk hc
                    have htl := HTL.out
                    obtain ⟨b, hb⟩ : ∃ b, (m2.any fun j => decide (x = j)) = b := ⟨_, rfl⟩
                    rw [hb] at HSU
                    have HB := Aside0.mk hb
                    clear hb
                    have n9 := Aside0.mk (hasG R4 e4 m2 x w23 (by repeat (first | exact Aside0.out (by assumption) | refine LC.below ?_ (Aside0.out (by assumption)))) (by have := HL2.out; omega))
                    rw [HB.out] at n9
                    have HSV := Aside0.mk HSU
                    clear HSU
                    go_wp2_with fail
                    refine (n9.out).mono ?_
                    rintro e w24 ⟨rfl, B24⟩
                    clear n9
                    have Q24 := Aside0.mk (Kd.R_below Q23.out B24.out)
                    have hc2 : w24.cell? (ad.add k3) = some (.int .i64 x) := cell_below HCC.out B24.out
                    clear hc
                    cases b with
                    | true =>
                      have HQ := Aside0.mk (show moreP m2 (tn.take (k3 + 1)) = moreP m2 (tn.take k3) from by rw [HSV.out, if_pos rfl])
                      clear HSV
                      go_wp2_with fail
                      go_roundg (tn.length - (k3 + 1))
                      case measure => omega
                      case rel => exact ⟨k3 + 1, by omega, by omega, by go_num, ⟨by rw [HQ.out]; exact Q24.out⟩, ⟨(by repeat (first | exact Below.refl _ _ | refine below_from ?_ (Aside0.out (by assumption))))⟩⟩
                    | false =>
                      have HQ := Aside0.mk (show moreP m2 (tn.take (k3 + 1)) = moreP m2 (tn.take k3) ++ [x] from by rw [HSV.out, if_neg (by decide)])
                      clear HSV
                      have HLM : Aside0 ((moreP m2 (tn.take k3)).length ≤ 20) := ⟨Nat.le_trans (moreP_len _ _) (by have := HTL.out; simp; omega)⟩
                      go_wp2_with (at_builtin; refine Kd.R_append (Kd.int .i64) (w0 := w21) (W := w24) w21.heap.size ?b1 (.tmp 192) (.tmp 197) 31 3 (.int .i64 0) 8 ?b2 Tryz.underlying31 info3 rfl (by decide) (by omega) u21 (moreP m2 (tn.take k3)) x [.int .i64 x] (fun _ => True) (fun _ => False) ?b3 ?b4 ?aP (fun _ hk => hk.elim) ?aF ?aO ?aB ?aS ?aL ?_; (case b1 => rfl); (case b2 => rfl); (case b3 => rfl); (case b4 => rfl); (case aP => exact rfl); (case aB => exact (by repeat (first | exact Below.refl _ _ | refine below_from ?_ (Aside0.out (by assumption))))); (case aF => exact fun _ _ => trivial); (case aO => exact Q24.out); (case aS => exact Below.size (by repeat (first | exact Below.refl _ _ | refine below_from ?_ (Aside0.out (by assumption))))); (case aL => have := HLM.out; omega); intro v5 w25 ho hb hgr hat; have B25 := Aside0.mk hb; have Q25 := Aside0.mk ho; clear ho hb hgr hat)
                      go_roundg (tn.length - (k3 + 1))
                      case measure => omega
                      case rel => exact ⟨k3 + 1, by omega, by omega, by go_num, ⟨by rw [HQ.out]; exact Q25.out⟩, B25⟩
                  have hltz : ¬ (k3 : Int) < (tn.length : Int) := by omega
                  obtain rfl : k3 = tn.length := by omega
                  have HZ2 : Aside0 (moreP m2 tn = n1) := ⟨by rw [← HN1.out, HM2.out, HTN.out]⟩
                  have Q24 : Aside0 (Kd.R (Kd.int .i64) 3 w23 w21.heap.size (fun _ => True) u21 n1) := ⟨by have := Q23.out; rwa [List.take_length, HZ2.out] at this⟩
                  clear Q23
                  obtain ⟨A7, c7, hs7, k7⟩ := LC.of Q24.out
                  subst hs7
                  have L7 : Aside0 (LC (Kd.int .i64) w23 A7 c7 n1) := ⟨k7⟩
                  clear Q24 k7
                  have HN2 : Aside0 (n1.length ≤ 20) := ⟨by rw [← HZ2.out]; exact Nat.le_trans (moreP_len _ _) HTL.out⟩
                  go_wp2_with fail
                  refine (intsG R2 e2 A7 c7 n1 w23 (by repeat (first | exact Aside0.out (by assumption) | refine LC.below ?_ (Aside0.out (by assumption)))) (by repeat (first | exact Aside0.out (by assumption) | refine LC.below ?_ (Aside0.out (by assumption)))) (by have := HN2.out; omega)).mono ?_
                  rintro e w24 ⟨rfl, B24⟩
                  go_wp2_with fail
                  refine (knownG _).mono ?_
                  rintro e w25 ⟨rfl, B25⟩
                  go_wp2_with fail
                  go_ret
                  exact ⟨rfl, (by repeat (first | exact Below.refl _ _ | refine below_from ?_ (Aside0.out (by assumption))))⟩
              · have hq0 : (E2 == 0) = false := by simp [hE3]
                have hq1 : (E2 != 0) = true := by simp [hE3]
                rw [changedR_with HEO.out.1 HEO.out.2 h8 hb3 (by rw [HLC.out]; exact hE2) hE3] at hn
                obtain ⟨rfl, rfl⟩ : ([] : List Int) = n1 ∧ E2 = n2 := by cases hn; exact ⟨rfl, rfl⟩
                clear hn
                go_wp2_with fail
                refine (knownG _).mono ?_
                rintro e w20 ⟨rfl, B20⟩
                go_wp2_with fail
                go_ret
                exact ⟨rfl, (by repeat (first | exact Below.refl _ _ | refine below_from ?_ (Aside0.out (by assumption))))⟩
          · have hq0 : (O == 0) = false := by simp [hO0]
            have hq1 : (O != 0) = true := by simp [hO0]
            rw [mustT_bad hE hO hO0] at hm
            rw [changedR_bad hE hO hO0] at hn
            obtain ⟨rfl, rfl, rfl⟩ : ([] : List ByteArray) = m1 ∧ ([] : List Int) = m2 ∧ O = m3 := by cases hm; exact ⟨rfl, rfl, rfl⟩
            clear hm
            obtain ⟨rfl, rfl⟩ : ([] : List Int) = n1 ∧ O = n2 := by cases hn; exact ⟨rfl, rfl⟩
            clear hn
            go_wp2_with fail
            refine (knownG _).mono ?_
            rintro e w14 ⟨rfl, B14⟩
            go_wp2_with fail
            go_ret
            exact ⟨rfl, (by repeat (first | exact Below.refl _ _ | refine below_from ?_ (Aside0.out (by assumption))))⟩
        · skip
          have hq0 : (E == 0) = false := by simp [hE0]
          have hq1 : (E != 0) = true := by simp [hE0]
          rw [mustT_open hE hE0] at hm
          rw [changedR_open hE hE0] at hn
          obtain ⟨rfl, rfl, rfl⟩ : ([] : List ByteArray) = m1 ∧ ([] : List Int) = m2 ∧ E = m3 := by cases hm; exact ⟨rfl, rfl, rfl⟩
          clear hm
          obtain ⟨rfl, rfl⟩ : ([] : List Int) = n1 ∧ E = n2 := by cases hn; exact ⟨rfl, rfl⟩
          clear hn
          go_wp2_with fail
          refine (knownG _).mono ?_
          rintro e w13 ⟨rfl, B13⟩
          go_wp2_with fail
          go_ret
          exact ⟨rfl, (by repeat (first | exact Below.refl _ _ | refine below_from ?_ (Aside0.out (by assumption))))⟩
end Go.Proofs.YtdjlfdbnmnjccaaGreat.St
end
