/- A part of the proofs of the laws of this seat: the walks of the program's functions, and lemmas. They hold without conditions. -/
import Derived.Test.YtdjlfdbnmnjccaaGreatB17
set_option linter.all false
set_option linter.unusedSectionVars false
section
set_option linter.unusedVariables false
set_option linter.unusedSimpArgs false
namespace Go.Proofs.YtdjlfdbnmnjccaaGreat.St
open Go.Sort hiding rd
open Go.RowKit Go.Shelf Go.Proofs.YtdjlfdbnmnjccaaGreatW.PrintWords Go.Proofs.YtdjlfdbnmnjccaaGreatW.PrintLast Go.Proofs.YtdjlfdbnmnjccaaGreatW.PrintMore
attribute [local go_sem] Oper.semAt_some
set_option maxHeartbeats 8000000 in
set_option maxRecDepth 100000 in
theorem meant_any (A0 : Option Addr) (c0 : Nat) (first : List ByteArray) (A1 : Option Addr) (c1 : Nat) (changes : List S60) (word : ByteArray) (lo hi most : Int) (w : World)
    (hr0 : Kd.C Kd.string w A0 first.length first) (hc0 : first.length ≤ c0) (hr1 : Kd.C k60 w A1 changes.length changes) (hc1 : changes.length ≤ c1) :
    Calls Tryz.prog 38 #[.agg #[.slice A0 first.length c0, .slice A1 changes.length c1], .string word, .agg #[.int .i64 lo, .int .i64 hi, .int .i64 most]] w fun e w' =>
      ∃ v0 v1 : Value, e = .returned (.tuple #[v0, v1, .int .i64 (meantR first changes word lo hi most).2.2]) ∧ Kd.R (Kd.int .i64) 3 w' w.heap.size (fun _ => True) v0 (meantR first changes word lo hi most).1 ∧ Kd.R (Kd.int .i64) 3 w' w.heap.size (fun _ => True) v1 (meantR first changes word lo hi most).2.1 ∧ Below w.heap.size w w' := by
  have HOP := Aside0.mk (fun (W : World) (hb : Below w.heap.size w W) => open_any A0 c0 first A1 c1 changes W (Kd.C_below hr0 hb) hc0 (Kd.C_below hr1 hb) hc1)
  clear hr0 hr1
  refine (callsIn_wide (n := 8)).1 ?_
  refine callsIn_of_wp_marks Tryz.func38 rfl trivial ?_ rfl
  simp only [Tryz.ntmps38, List.size_toArray, List.length_cons, List.length_nil, Nat.reduceAdd, Nat.reduceSub, Array.replicate_succ, Array.replicate_zero, List.push_toArray, List.append_toArray, List.nil_append, List.cons_append]
  have h18 : 1 ≤ 8 := by omega
  gi_wp2_with fail
  obtain ⟨W1, hW1⟩ : ∃ W1, ((w.alloc (.cells #[.slice A0 first.length c0, .slice A1 changes.length c1] 25)).alloc (.cells #[.string word] 9)).alloc (.cells #[.int .i64 lo, .int .i64 hi, .int .i64 most] 77) = W1 := ⟨_, rfl⟩
  have hb1 : Below w.heap.size w W1 := by rw [← hW1]; exact below_alloc (below_alloc (below_alloc (Below.refl _ _) _) _) _
  have hbt : W1.heap[w.heap.size]? = some (.cells #[.slice A0 first.length c0, .slice A1 changes.length c1] 25 (0, 0)) := by rw [← hW1]; exact blk_alloc (blk_alloc (blk_new w _) _) _
  have hbw : W1.heap[w.heap.size + 1]? = some (.cells #[.string word] 9 (0, 0)) := by
    rw [← hW1]; refine blk_alloc ?_ _
    have := blk_new (w.alloc (.cells #[.slice A0 first.length c0, .slice A1 changes.length c1] 25)) (.cells #[.string word] 9)
    rwa [World.size_alloc] at this
  have hba : W1.heap[w.heap.size + 1 + 1]? = some (.cells #[.int .i64 lo, .int .i64 hi, .int .i64 most] 77 (0, 0)) := by
    rw [← hW1]
    have := blk_new ((w.alloc (.cells #[.slice A0 first.length c0, .slice A1 changes.length c1] 25)).alloc (.cells #[.string word] 9)) (.cells #[.int .i64 lo, .int .i64 hi, .int .i64 most] 77)
    rwa [World.size_alloc, World.size_alloc] at this
  rw [hW1]
  clear hW1
  refine ⟨trivial, (callsIn_wide.2 (HOP.out W1 hb1)).mono ?_⟩
  rintro e w2 ⟨B0, n0, d0, B1, n1, d1, Bp, np, dp, rfl, hop, hb⟩
  obtain ⟨oe, hoe⟩ : ∃ oe, openE first changes = oe := ⟨_, rfl⟩
  rw [hoe]
  have HB2 := Aside0.mk (below_from hb1 hb)
  have BT2 := Aside0.mk (blk_below hbt hb)
  have BW2 := Aside0.mk (blk_below hbw hb)
  have BA2 := Aside0.mk (blk_below hba hb)
  have HS := Aside0.mk hb1.size
  clear hb hb1 hbt hbw hba HOP
  by_cases h0 : oe = 0
  · subst h0
    obtain ⟨e0, e1, hp⟩ := hop hoe
    rw [e0, e1]
    clear e0 e1 hop
    have HP2 := Aside0.mk (Kd.R_lower hp HS.out)
    have HOE := Aside0.mk hoe
    obtain ⟨hf1, hf2, _⟩ := check_ok (open_zero hoe).1
    clear hp hoe HS
    obtain ⟨ps, hps⟩ : ∃ ps, pagesOf first changes = ps := ⟨_, rfl⟩
    have hpg : (bookOf first changes).1 = ps := hps
    rw [hpg] at HP2
    obtain ⟨Aq, cq, hsl⟩ := Kd.R_slice HP2.out
    cases hsl
    have HOKP := Aside0.mk (show PagesOk first.length ps from hps ▸ pages_ok HOE.out)
    have HPS := Aside0.mk hps
    clear hps hpg
    obtain ⟨W3, hW3⟩ : ∃ W3, w2.alloc (.cells #[.slice A0 first.length c0, .slice A1 changes.length c1, .slice Bp ps.length dp] 124) = W3 := ⟨_, rfl⟩
    have M3 := Aside0.mk (show MtI w W3 (.slice A0 first.length c0) (.slice A1 changes.length c1) word lo hi most w2.heap.size (.slice Bp ps.length dp) ps from by
      rw [← hW3]; exact ⟨below_alloc HB2.out _, blk_alloc BT2.out _, blk_alloc BW2.out _, blk_alloc BA2.out _, blk_new w2 _, Kd.R_alloc HP2.out _⟩)
    clear HB2 HP2 BT2 BW2 BA2
    have w0_ : W3.cell? ⟨w.heap.size + 1, 0, none⟩ = some (.string word) := (blk_cell M3.out.bw 0).trans rfl
    have wl_ := blk_lt M3.out.bw
    gi_wp2_with fail
    clear hW3
    refine ⟨trivial, (callsIn_wide.2 (street_isName.calls word _ W3 rfl)).mono ?_⟩
    rintro e w4 ⟨rfl, hb⟩
    have M4 := Aside0.mk (M3.out.below hb)
    clear M3 hb w0_ wl_
    obtain ⟨b1, hb1⟩ : ∃ b, isNameB word = b := ⟨_, rfl⟩
    rw [hb1]
    cases b1 with
    | false =>
      have HN := Aside0.mk (show meantR first changes word lo hi most = ([], [], 4) from by unfold meantR; rw [if_neg (by rw [HOE.out]; simp), if_pos hb1])
      clear hb1
      gi_wp2_with fail
      rw [HN.out]
      show ∃ v, _ ∧ _
      refine ⟨.tuple #[.slice none 0 0, .slice none 0 0, .int .i64 4], by simp [results, Tryz.results38, go_sem], ?_⟩
      exact ⟨_, _, rfl, Kd.R_nil _ _ _ _ _, Kd.R_nil _ _ _ _ _, M4.out.hb⟩
    | true =>
      obtain ⟨⟨a0, a1, a2⟩, _, al⟩ := blk3 M4.out.ba
      gi_wp2_with fail
      refine ⟨trivial, (callsIn_wide.2 (street_isHour.calls lo _ w4 (isHour_f lo))).mono ?_⟩
      rintro e w5 ⟨rfl, hb⟩
      have M5 := Aside0.mk (M4.out.below hb)
      clear M4 hb a0 a1 a2 al
      obtain ⟨b2, hb2⟩ : ∃ b, isHourB lo = b := ⟨_, rfl⟩
      rw [hb2]
      cases b2 with
      | false =>
        have HN := Aside0.mk (show meantR first changes word lo hi most = ([], [], 3) from by unfold meantR; rw [if_neg (by rw [HOE.out]; simp), if_neg (by rw [hb1]; simp), if_pos hb2])
        clear hb1 hb2
        gi_wp2_with fail
        refine ⟨trivial, ?_⟩
        gi_wp2_with fail
        rw [HN.out]
        show ∃ v, _ ∧ _
        refine ⟨.tuple #[.slice none 0 0, .slice none 0 0, .int .i64 3], by simp [results, Tryz.results38, go_sem], ?_⟩
        exact ⟨_, _, rfl, Kd.R_nil _ _ _ _ _, Kd.R_nil _ _ _ _ _, M5.out.hb⟩
      | true =>
        obtain ⟨⟨a0, a1, a2⟩, _, al⟩ := blk3 M5.out.ba
        gi_wp2_with fail
        refine ⟨trivial, (callsIn_wide.2 (street_isHour.calls hi _ w5 (isHour_f hi))).mono ?_⟩
        rintro e w6 ⟨rfl, hb⟩
        have M6 := Aside0.mk (M5.out.below hb)
        clear M5 hb a0 a1 a2 al
        obtain ⟨b3, hb3⟩ : ∃ b, isHourB hi = b := ⟨_, rfl⟩
        rw [hb3]
        cases b3 with
        | false =>
          have HN := Aside0.mk (show meantR first changes word lo hi most = ([], [], 3) from by unfold meantR; rw [if_neg (by rw [HOE.out]; simp), if_neg (by rw [hb1]; simp), if_neg (by rw [hb2]; simp), if_pos hb3])
          clear hb1 hb2 hb3
          gi_wp2_with fail
          rw [HN.out]
          show ∃ v, _ ∧ _
          refine ⟨.tuple #[.slice none 0 0, .slice none 0 0, .int .i64 3], by simp [results, Tryz.results38, go_sem], ?_⟩
          exact ⟨_, _, rfl, Kd.R_nil _ _ _ _ _, Kd.R_nil _ _ _ _ _, M6.out.hb⟩
        | true =>
          obtain ⟨⟨a0, a1, a2⟩, _, al⟩ := blk3 M6.out.ba
          by_cases hlh : hi < lo
          · have HN := Aside0.mk (show meantR first changes word lo hi most = ([], [], 3) from by unfold meantR; rw [if_neg (by rw [HOE.out]; simp), if_neg (by rw [hb1]; simp), if_neg (by rw [hb2]; simp), if_neg (by rw [hb3]; simp), if_pos hlh])
            have hlh' : decide (hi < lo) = true := decide_eq_true hlh
            clear hb1 hb2 hb3 hlh
            gi_wp2_with fail
            rw [HN.out]
            show ∃ v, _ ∧ _
            refine ⟨.tuple #[.slice none 0 0, .slice none 0 0, .int .i64 3], by simp [results, Tryz.results38, go_sem], ?_⟩
            exact ⟨_, _, rfl, Kd.R_nil _ _ _ _ _, Kd.R_nil _ _ _ _ _, M6.out.hb⟩
          · have hlh' : decide (hi < lo) = false := decide_eq_false hlh
            have HNN := Aside0.mk (show meantR first changes word lo hi most = if (decide (0 ≤ most) && decide (most ≤ 3)) = false then ([], [], 3) else (numbersTo (everyTo ps word lo hi most first.length ps.length) first.length, numbersTo (someTo ps word lo hi most first.length ps.length) first.length, 0) from by
              unfold meantR; rw [if_neg (by rw [HOE.out]; simp), if_neg (by rw [hb1]; simp), if_neg (by rw [hb2]; simp), if_neg (by rw [hb3]; simp), if_neg hlh, HPS.out])
            have HWS := Aside0.mk (name_size hb1)
            have HLH := Aside0.mk (And.intro hb2 (And.intro hb3 hlh))
            clear hb1 hb2 hb3 hlh
            gi_wp2_with fail
            have hcell : (w6.alloc (.cells #[.int .i64 most] 3)).cell? ⟨w6.heap.size, 0, none⟩ = some (.int .i64 most) := (blk_cell (blk_new w6 _) 0).trans rfl
            refine ⟨trivial, (callsIn_wide.2 (within_one 0 3 most w6.heap.size _ hcell)).mono ?_⟩
            rintro e w7 ⟨rfl, hb⟩
            have M7 := Aside0.mk ((M6.out.alloc _).below hb)
            clear M6 hb a0 a1 a2 al hcell
            obtain ⟨b4, hb4⟩ : ∃ b, (decide (0 ≤ most) && decide (most ≤ 3)) = b := ⟨_, rfl⟩
            rw [hb4] at HNN ⊢
            clear hb4
            cases b4 with
            | false =>
              have HN2 := HNN.out
              rw [if_pos rfl] at HN2
              have HN := Aside0.mk HN2
              clear HN2 HNN
              gi_wp2_with fail
              rw [HN.out]
              show ∃ v, _ ∧ _
              refine ⟨.tuple #[.slice none 0 0, .slice none 0 0, .int .i64 3], by simp [results, Tryz.results38, go_sem], ?_⟩
              exact ⟨_, _, rfl, Kd.R_nil _ _ _ _ _, Kd.R_nil _ _ _ _ _, M7.out.hb⟩
            | true =>
              have HN2 := HNN.out
              rw [if_neg (by simp)] at HN2
              have HN := Aside0.mk HN2
              clear HN2 HNN
              obtain ⟨tz0, tz1, tzl⟩ := blk2 M7.out.bt
              obtain ⟨i4, hi4, hz4, hz5, hz6⟩ := info_parts infoBool
              have hmk : ∀ W : World, (Instr.makeSlice 144 (.int .i64 (first.length : Int)) (.int .i64 (first.length : Int))).run Tryz.prog W = .ok (.slice (some ⟨W.heap.size, 0, none⟩) first.length first.length) (W.alloc (.cells (madeCells #[.bool false] first.length) 4)) := fun W => by
                have := run_make (P := Tryz.prog) W 144 4 i4 (.bool false) Tryz.underlying144 hi4 hz4 .i64 .i64 (first.length : Int) (first.length : Int) (by omega) (by omega) (by rw [hz6]; have := hf2; omega) (by have := hf2; omega)
                rw [hz5, Int.toNat_natCast, Nat.mul_one] at this
                exact this
              clear hi4 hz4 hz5 hz6
              gi_wp2_with fail
              refine cut_region (σ := Nat × Nat × Nat × Nat) (fun s => [(58, .pointer (some ⟨w.heap.size, 0, none⟩)), (59, .slice A0 first.length c0), (60, .int .i64 (first.length : Int)), (61, .slice (some ⟨s.1, 0, none⟩) first.length first.length), (62, .pointer (some ⟨w.heap.size, 0, none⟩)), (63, .slice A0 first.length c0), (64, .int .i64 (first.length : Int)), (65, .slice (some ⟨s.2.1, 0, none⟩) first.length first.length), (10, .pointer (some ⟨s.2.2.1, 0, none⟩)), (11, .pointer (some ⟨s.2.2.2, 0, none⟩))])
                (fun s W' => Aside0 (Below w7.heap.size w7 W' ∧ W'.heap[s.1]? = some (.cells (madeCells #[.bool false] first.length) 4 (0, 0)) ∧ W'.heap[s.2.1]? = some (.cells (madeCells #[.bool false] first.length) 4 (0, 0)) ∧
                  W'.heap[s.2.2.1]? = some (.cells #[.slice (some ⟨s.1, 0, none⟩) first.length first.length] 144 (0, 0)) ∧ W'.heap[s.2.2.2]? = some (.cells #[.slice (some ⟨s.2.1, 0, none⟩) first.length first.length] 144 (0, 0)) ∧
                  s.1 ≠ s.2.1 ∧ s.2.2.1 ≠ s.2.2.2 ∧ w7.heap.size ≤ s.1 ∧ w7.heap.size ≤ s.2.1 ∧ w7.heap.size ≤ s.2.2.1 ∧ w7.heap.size ≤ s.2.2.2)) ?cut ?go
              case cut =>
                refine wpIn_wide.2 ?_
                go_region_held3 (fun w' => w'.cell? ⟨w.heap.size, 0, none⟩ = some (.slice A0 first.length c0)) ((repeat (first | exact tz0 | refine cell_alloc_drew ?_))) (fail)
                all_goals
                  refine ⟨rfl, ⟨?_, ?_, ?_, ?_⟩, ?_, ⟨?_⟩⟩
                  rotate_left 4
                  focus
                    simp only [putAll, Act.put, List.setIfInBounds_toArray, List.set_cons_zero, List.set_cons_succ]
                    rfl
                  refine ⟨below_drew (below_alloc (below_alloc (below_alloc (below_alloc (Below.refl _ _) _) _) _) _), ?_, ?_, ?_, ?_, by dsimp only; omega, by dsimp only; omega, by dsimp only; omega, by dsimp only; omega, by dsimp only; omega, by dsimp only; omega⟩
                  all_goals first | exact (four_heap _ _ _ _ _).1 | exact (four_heap _ _ _ _ _).2.1 | exact (four_heap _ _ _ _ _).2.2.1 | exact (four_heap _ _ _ _ _).2.2.2
              case go =>
                rintro ⟨g1, g2, B1, B2⟩ w8 ⟨hb, hg1, hg2, hB1, hB2, hne, hneB, hz1, hz2, hz3, hz4⟩
                simp only [putAll, Act.put, List.setIfInBounds_toArray, List.set_cons_zero, List.set_cons_succ]
                dsimp only at hg1 hg2 hB1 hB2 hne hneB hz1 hz2 hz3 hz4
                have hwg := M7.out.hb.size
                obtain ⟨n, hn⟩ : ∃ n, first.length = n := ⟨_, rfl⟩
                have hn1 : n ≤ 6 := hn ▸ hf2
                have M8 := Aside0.mk (show MtE w w8 (.slice A0 n c0) (.slice A1 changes.length c1) word lo hi most w2.heap.size (.slice Bp ps.length dp) ps g1 g2 B1 B2 n (trueTo n 0) (List.replicate n false) from hn ▸ ⟨M7.out.below hb, hB1, hB2, made_R hg1 (by omega) hne (by have := hf2; omega), made_R hg2 (by omega) (Ne.symm hne) (by have := hf2; omega), hne⟩)
                clear hb hg1 hg2 hB1 hB2 hne hneB hz1 hz2 hz3 hz4 M7 hmk tz0 tz1 tzl hwg
                rw [hn] at HN HOKP ⊢
                have HNE := Aside0.mk hn
                clear hn
                have p1 : w8.cell? ⟨B1, 0, none⟩ = some (.slice (some ⟨g1, 0, none⟩) n n) := (blk_cell M8.out.p1 0).trans rfl
                gi_wp2_with fail
                gi_loopw [12, 68] (fun _ i wr => ∃ k : Nat, k ≤ n ∧ i = .int .i64 k ∧ Aside0 (MtE w wr (.slice A0 n c0) (.slice A1 changes.length c1) word lo hi most w2.heap.size (.slice Bp ps.length dp) ps g1 g2 B1 B2 n (trueTo n k) (List.replicate n false)))
                  (fun _ i _ => n - (intOf i).toNat)
                case atStart => exact ⟨0, Nat.zero_le _, rfl, M8⟩
                case round =>
                  clear M8 p1
                  obtain ⟨k, hk, rfl, ME⟩ := hrel
                  by_cases hlt : k < n
                  · have hltz : (k : Int) < (n : Int) := by omega
                    have p1 : wr.cell? ⟨B1, 0, none⟩ = some (.slice (some ⟨g1, 0, none⟩) n n) := (blk_cell ME.out.p1 0).trans rfl
                    obtain ⟨z0, z1, z2⟩ := ME.out.cellE k hlt
                    gi_wp2_with fail
                    go_roundw
                    case rel => exact ⟨k + 1, by omega, by go_num, ⟨ME.out.setE k true⟩⟩
                    case measure => simp [intOf]; omega
                  · have hltz : ¬ (k : Int) < (n : Int) := by omega
                    obtain rfl : n = k := by omega
                    have ME2 := Aside0.mk (trueTo_all n ▸ ME.out)
                    clear ME
                    obtain ⟨⟨bk0, bk1, bk2⟩, _, bkl⟩ := blk3 ME2.out.m.bb
                    obtain ⟨Wb, rfl⟩ : ∃ Wb : World, Wb = wr := ⟨_, rfl⟩
                    gi_wp2_with fail
                    obtain ⟨g, cg, vals, hveq, hgb, hpa, hna⟩ := pagesAt_of_R ME2.out.m.hp HOKP.out.ne
                    cases hveq
                    have HPA := Aside0.mk hpa
                    have HNA := Aside0.mk hna
                    clear hpa hna bk0 bk1 bk2 bkl
                    refine' rangeBound (enc := encP ps vals) (T := fun t => t = 167 ∨ t = 124 ∨ t = 9) (N := ps.length) (w0 := Wb) rfl (by omega) rfl trivial (enters_of Tryz.func73 (by kernel_rfl) rfl)
                      (times_seq Fence.wide 7 trivial rfl (by omega) (.slice A0 n c0) (.slice A1 changes.length c1) g dp n ps HOKP.out vals _ (.inl rfl) (.inr (.inl rfl)) Wb HPA.out) (KeepT.refl _ _) (fun _ => rfl)
                      (fun k W => MtE w W (.slice A0 n c0) (.slice A1 changes.length c1) word lo hi most w2.heap.size (.slice (some ⟨g, 0, none⟩) ps.length dp) ps g1 g2 B1 B2 n (everyTo ps word lo hi most n k) (someTo ps word lo hi most n k) ∧ NamesAt W w.heap.size ps vals ∧ Wb.heap.size ≤ W.heap.size) ?ia ?ip ?i0
                      (BoxAt Wb.heap.size (fun k => #[.int .i64 (rd_T167 ps (k : Int)).f0, .int .i64 (hiOf ps k)]) 75 _) BoxAt.put ?assign ?body ?done
                    case ia =>
                      rintro k W o ⟨h1, h6, h7⟩
                      exact ⟨h1.alloc _, ⟨fun k hk => Kd.R_alloc (h6.at_ k hk) _⟩, by simp; omega⟩
                    case ip =>
                      rintro k W l o o' hl hlo ho ⟨h1, h6, h7⟩
                      exact ⟨h1.put (Nat.le_trans ME2.out.m.hb.size hl) hlo ho, ⟨fun k hk => R_putObj (h6.at_ k hk) hlo ho o'⟩, by simpa [World.putObj] using h7⟩
                    case i0 => exact ⟨ME2.out, HNA.out, Nat.le_refl _⟩
                    case assign =>
                      rintro l k W K ⟨h1, h6, h7⟩ hk hK
                      unfold encP
                      gi_wp2_with fail
                      obtain ⟨Bx, hBx⟩ : ∃ Bx, W.heap.size = Bx := ⟨_, rfl⟩
                      have hnew := blk_new W (.cells #[.int .i64 (rd_T167 ps (k : Int)).f0, .int .i64 (hiOf ps k)] 75)
                      rw [hBx] at hnew ⊢
                      exact hK _ _ ((KeepsOthers.alloc _ _).from _) ((KeepT.refl _ _).alloc _) ⟨h1.alloc _, ⟨fun k hk => Kd.R_alloc (h6.at_ k hk) _⟩, by simp; omega⟩ ⟨Bx, hBx ▸ h7, hnew, rfl⟩
                    case done =>
                      rintro D W hD ⟨h1, h6, h7⟩ hK
                      obtain ⟨E, hE⟩ : ∃ E, everyTo ps word lo hi most n ps.length = E := ⟨_, rfl⟩
                      obtain ⟨S, hS⟩ : ∃ S, someTo ps word lo hi most n ps.length = S := ⟨_, rfl⟩
                      have hEl := hE ▸ everyTo_len ps word lo hi most n ps.length
                      have hSl := hS ▸ someTo_len ps word lo hi most n ps.length
                      rw [hE, hS] at h1
                      rw [hE, hS] at HN
                      have M1 := Aside0.mk h1
                      have HL := Aside0.mk (And.intro hEl hSl)
                      have GK := Aside0.mk hK
                      have hsm : n < 100000 := by omega
                      have HC1 := Aside0.mk (fun (V : World) (hb : Below W.heap.size W V) => numbers_at h1.e hsm hb)
                      have HC2 := Aside0.mk (fun (V : World) (hb : Below W.heap.size W V) => numbers_at h1.s hsm hb)
                      clear h1 hEl hSl hK hE hS
                      have q1 : W.cell? ⟨B1, 0, none⟩ = some (.slice (some ⟨g1, 0, none⟩) n n) := (blk_cell M1.out.p1 0).trans rfl
                      have q2 : W.cell? ⟨B2, 0, none⟩ = some (.slice (some ⟨g2, 0, none⟩) n n) := (blk_cell M1.out.p2 0).trans rfl
                      gi_wp2_with fail
                      refine wide_heldI (S := fun w' => w'.cell? ⟨B1, 0, none⟩ = some (.slice (some ⟨g1, 0, none⟩) n n) ∧ w'.cell? ⟨B2, 0, none⟩ = some (.slice (some ⟨g2, 0, none⟩) n n)) [0, 2] 1 [3, 4, 5, 6] [_, _] _ [_, _, _, _] (by kernel_rfl) (by simp only [List.map_cons, List.map_nil, List.getElem?_toArray, List.getElem?_cons_succ, List.getElem?_cons_zero]; rfl) (by simp only [List.map_cons, List.map_nil, List.getElem?_toArray, List.getElem?_cons_succ, List.getElem?_cons_zero]; rfl) (by simp only [List.map_cons, List.map_nil, List.getElem?_toArray, List.getElem?_cons_succ, List.getElem?_cons_zero]; rfl) (by kernel_rfl) ⟨q1, q2⟩ ?_
                      repeat (refine wpHeld_step ?_ (by rfl) ?_ ?_; rotate_left; (focus (rintro w' ⟨s0, s1⟩; go_simp; with_reducible rfl)); simp only [Act.put, List.setIfInBounds_toArray, List.set_cons_zero, List.set_cons_succ])
                      refine wpHeld_nil (fun K hK => ?_)
                      refine goes_ Tryz.func84 (by kernel_rfl) rfl #[.slice (some ⟨g1, 0, none⟩) n n] (by rfl) rfl rfl (by (try simp only [List.map_toArray, List.map_cons, List.map_nil]); first | done | rfl) ?_
                      refine (HC1.out W.drew (below_drew (Below.refl _ _))).mono ?_
                      rintro e w9 ⟨v1, rfl, hv1, hb1⟩
                      refine ⟨_, rfl, ?_⟩
                      have G1 := Aside0.mk (show Below W.heap.size W w9 from (below_drew (Below.refl _ _)).trans hb1)
                      have GV1 := Aside0.mk hv1
                      refine hK _ _ ⟨(G1.out.cell (World.block_lt_of_cell? W _ q1)).trans q1, (G1.out.cell (World.block_lt_of_cell? W _ q2)).trans q2⟩ ?_
                      clear hK K q1 q2 hv1 hb1
                      simp only [Act.put, List.setIfInBounds_toArray, List.set_cons_zero, List.set_cons_succ]
                      go_wp2_with fail
                      refine (HC2.out w9 G1.out).mono ?_
                      rintro e w10 ⟨v2, rfl, hv2, hb2⟩
                      have G2 := Aside0.mk (show Below w.heap.size w w10 from (M1.out.m.hb.trans (G1.out.mono M1.out.m.hb.size)).trans (hb2.mono (Nat.le_trans M1.out.m.hb.size G1.out.size)))
                      have GV2 := Aside0.mk (Kd.R_lower hv2 (Nat.le_trans M1.out.m.hb.size G1.out.size))
                      have GV3 := Aside0.mk (Kd.R_lower (Kd.R_below GV1.out hb2) M1.out.m.hb.size)
                      have GD := Aside0.mk (blk_below (blk_below GK.out G1.out) hb2)
                      clear hv2 hb2
                      go_wp2_with fail
                      refine onlyN_mk ?_
                      gi_wp2_with fail
                      rw [HN.out]
                      refine ⟨by simp, .inl ⟨_, _, rfl, run_takeDeferred GD.out, ?_⟩⟩
                      show ∃ v, _ ∧ _
                      refine ⟨.tuple #[v1, v2, .int .i64 0], by simp [results, Tryz.results38, go_sem], ?_⟩
                      exact ⟨_, _, rfl, R_putObj GV3.out GD.out rfl _, R_putObj GV2.out GD.out rfl _, G2.out.grown (grownBy_putObj' w10 D _) G2.out.size (fun j hj => by cases hj; exact Nat.le_trans ME2.out.m.hb.size hD)⟩
                    case body =>
                      rintro l k a' W hl ⟨r, hr⟩ ⟨h1, h6, h7⟩ ⟨Bx, hBx, hbx, rfl⟩ hlt
                      dsimp only at hbx ⊢
                      have hna := h6.at_ k hlt
                      obtain ⟨nm, hnm⟩ : ∃ nm, (rd_T167 ps (k : Int)).f1 = nm := ⟨_, rfl⟩
                      rw [hnm] at hna
                      obtain ⟨An, cn, hvk, hnc, hnC⟩ := Kd.R_reads hna
                      have hnl : nm.length = n := by rw [← hnm]; exact HOKP.out.len _ (rd_page_mem k hlt)
                      have hsz : ∀ s ∈ nm, s.size ≤ 10 := by rw [← hnm]; exact HOKP.out.sz _ (rd_page_mem k hlt)
                      rw [hvk]
                      have HVK := Aside0.mk (And.intro hvk hnm)
                      have hes := everyTo_succ ps word lo hi most n k
                      have hss := someTo_succ ps word lo hi most n k
                      rw [hnm, hnl] at hes hss
                      obtain ⟨p0, hp0⟩ : ∃ p0, (rd_T167 ps (k : Int)).f0 = p0 := ⟨_, rfl⟩
                      obtain ⟨p1, hp1⟩ : ∃ p1, hiOf ps k = p1 := ⟨_, rfl⟩
                      rw [hp0, hp1] at hes hss hbx
                      obtain ⟨E, hE⟩ : ∃ E, everyTo ps word lo hi most n k = E := ⟨_, rfl⟩
                      obtain ⟨S, hS⟩ : ∃ S, someTo ps word lo hi most n k = S := ⟨_, rfl⟩
                      rw [hE] at hes h1
                      rw [hS] at hss h1
                      have H1 := Aside0.mk h1
                      have H6 := Aside0.mk h6
                      have HES := Aside0.mk hes
                      have HSS := Aside0.mk hss
                      have HX := Aside0.mk hbx
                      have HR := Aside0.mk hr
                      have HNC := Aside0.mk hnC
                      have HSZ := Aside0.mk hsz
                      have HNL := Aside0.mk hnl
                      have hEl := hE ▸ everyTo_len ps word lo hi most n k
                      have hSl := hS ▸ someTo_len ps word lo hi most n k
                      have HLL := Aside0.mk (And.intro hEl hSl)
                      rw [hnl]
                      clear h1 h6 hes hss hbx hr hnC hsz hna hvk hnc hnm hp0 hp1 hE hS hnl hEl hSl
                      obtain ⟨b0, b1, b2⟩ := blk2 HX.out
                      obtain ⟨⟨a0, a1, a2⟩, _, al⟩ := blk3 H1.out.m.ba
                      by_cases hs1 : p1 < lo
                      · have hs1' : decide (p1 < lo) = true := decide_eq_true hs1
                        have hes := HES.out
                        rw [if_pos (.inl hs1)] at hes
                        have hss := HSS.out
                        rw [if_pos (.inl hs1)] at hss
                        have HE := Aside0.mk (And.intro hes hss)
                        clear hs1 hes hss HES HSS
                        gi_wp2_with fail
                        refine ⟨(KeepsOthers.refl _).from _, KeepT.refl _ _, by rw [HE.out.1, HE.out.2]; exact H1.out, H6.out, h7⟩
                      · have hs1' : decide (p1 < lo) = false := decide_eq_false hs1
                        by_cases hs2 : hi < p0
                        · have hs2' : decide (hi < p0) = true := decide_eq_true hs2
                          have hes := HES.out
                          rw [if_pos (.inr hs2)] at hes
                          have hss := HSS.out
                          rw [if_pos (.inr hs2)] at hss
                          have HE := Aside0.mk (And.intro hes hss)
                          clear hs1 hs2 hes hss HES HSS
                          gi_wp2_with fail
                          refine ⟨(KeepsOthers.refl _).from _, KeepT.refl _ _, by rw [HE.out.1, HE.out.2]; exact H1.out, H6.out, h7⟩
                        · have hs2' : decide (hi < p0) = false := decide_eq_false hs2
                          have hes := HES.out
                          rw [if_neg (fun h => h.elim hs1 hs2)] at hes
                          have hss := HSS.out
                          rw [if_neg (fun h => h.elim hs1 hs2)] at hss
                          have HE := Aside0.mk (And.intro hes hss)
                          clear hs1 hs2 hes hss HES HSS
                          gi_wp2_with fail
                          gi_loopw [15, 16, 17, 95] (fun _ _ _ i wr => ∃ j : Nat, j ≤ n ∧ i = .int .i64 j ∧ Aside0 (MtE w wr (.slice A0 n c0) (.slice A1 changes.length c1) word lo hi most w2.heap.size (.slice (some ⟨g, 0, none⟩) ps.length dp) ps g1 g2 B1 B2 n (evIn word most nm E j) (smIn word most nm S j)) ∧ Aside0 (Rn (fun t => t = 167 ∨ t = 124 ∨ t = 9) W wr))
                            (fun _ _ _ i _ => n - (intOf i).toNat)
                          case atStart => exact ⟨0, Nat.zero_le _, rfl, H1, ⟨Rn.refl _ _⟩⟩
                          case round =>
                            clear b0 b1 b2 a0 a1 a2 al
                            obtain ⟨j, hj, rfl, ME, MR⟩ := hrel
                            by_cases hlt2 : j < n
                            · have hltz2 : (j : Int) < (n : Int) := by omega
                              have hnr := (H6.out.keep (.inr (.inr rfl)) MR.out.t).at_ k hlt
                              rw [HVK.out.1, HVK.out.2] at hnr
                              have hnC := (Kd.R_reads' hnr).2.2
                              have hnl2 := HNL.out
                              obtain ⟨adn, e, sN⟩ := Kd.at_string hnC (j : Int) (by omega) (by omega)
                              subst e
                              rw [Int.toNat_natCast] at sN
                              obtain ⟨s, hs⟩ : ∃ s, rdOf ByteArray.empty nm (j : Int) = s := ⟨_, rfl⟩
                              rw [hs] at sN
                              have hss2 : s.size ≤ 10 := HSZ.out s (by
                                rw [← hs]; unfold rdOf
                                rw [Int.toNat_natCast, List.getD_eq_getElem?_getD, List.getElem?_eq_getElem (by omega), Option.getD_some]
                                exact List.getElem_mem _)
                              have HEV := Aside0.mk (show evIn word most nm E (j + 1) = (evIn word most nm E j).set j (rdOf false (evIn word most nm E j) (j : Int) && isMeant word most s) from by rw [← hs]; rfl)
                              have HSV := Aside0.mk (show smIn word most nm S (j + 1) = (smIn word most nm S j).set j (rdOf false (smIn word most nm S j) (j : Int) || isMeant word most s) from by rw [← hs]; rfl)
                              obtain ⟨ev, hev⟩ : ∃ b, rdOf false (evIn word most nm E j) (j : Int) = b := ⟨_, rfl⟩
                              obtain ⟨sv, hsv⟩ : ∃ b, rdOf false (smIn word most nm S j) (j : Int) = b := ⟨_, rfl⟩
                              rw [hev] at HEV
                              rw [hsv] at HSV
                              have HVV := Aside0.mk (And.intro hev hsv)
                              have HF := Aside0.mk (fun V => faults_any word s HWS.out hss2 V)
                              clear hnr hnC hnl2 hs hss2 hev hsv
                              have w0_ : wr.cell? ⟨w.heap.size + 1, 0, none⟩ = some (.string word) := (blk_cell ME.out.m.bw 0).trans rfl
                              obtain ⟨⟨a0, a1, a2⟩, _, al⟩ := blk3 ME.out.m.ba
                              gi_wp2_with fail
                              refine round_heldI (S := fun w' => w'.cell? ⟨w.heap.size + 1, 0, none⟩ = some (.string word) ∧ w'.cell? ⟨w.heap.size + 1 + 1, 2, none⟩ = some (.int .i64 most)) [0, 1, 3, 4] 2 [5, 6] [_, _, _, _] _ [_, _] (by kernel_rfl) (by kernel_rfl) (by simp only [List.map_cons, List.map_nil, List.getElem?_toArray, List.getElem?_cons_succ, List.getElem?_cons_zero]; rfl) (by simp only [List.map_cons, List.map_nil, List.getElem?_toArray, List.getElem?_cons_succ, List.getElem?_cons_zero]; rfl) (by simp only [List.map_cons, List.map_nil, List.getElem?_toArray, List.getElem?_cons_succ, List.getElem?_cons_zero]; rfl) (by kernel_rfl) ⟨w0_, a2⟩ ?_
                              repeat (refine wpHeld_step ?_ (by rfl) ?_ ?_; rotate_left; (focus (rintro w' ⟨s0, s1⟩; go_simp; with_reducible rfl)); simp only [Act.put, List.setIfInBounds_toArray, List.set_cons_zero, List.set_cons_succ])
                              refine wpHeld_nil (fun K hK => ?_)
                              refine goes_ Tryz.func83 (by kernel_rfl) rfl #[.string word, .string s] (by rfl) rfl rfl (by (try simp only [List.map_toArray, List.map_cons, List.map_nil]); first | done | rfl) ?_
                              refine (HF.out wr.drew).mono ?_
                              rintro e w9 ⟨rfl, hb⟩
                              refine ⟨_, rfl, ?_⟩
                              refine hK _ _ ⟨(hb.cell (World.block_lt_of_cell? wr _ w0_)).trans w0_, (hb.cell (World.block_lt_of_cell? wr _ a2)).trans a2⟩ ?_
                              clear hK K
                              have M9 := Aside0.mk (ME.out.drew.below hb)
                              have R9 := Aside0.mk (MR.out.drew.below hb)
                              clear ME MR hb w0_ a0 a1 a2 al sN HF
                              simp only [Act.put, List.setIfInBounds_toArray, List.set_cons_zero, List.set_cons_succ]
                              obtain ⟨mb, hmb⟩ : ∃ b, decide (faultsV word s ≤ most) = b := ⟨_, rfl⟩
                              have HMB := Aside0.mk (show isMeant word most s = mb from hmb)
                              go_wp2_with fail
                              refine onlyN_mk ?_
                              gi_wp2_with fail
                              clear hmb
                              have p1 : w9.cell? ⟨B1, 0, none⟩ = some (.slice (some ⟨g1, 0, none⟩) n n) := (blk_cell M9.out.p1 0).trans rfl
                              have p2 : w9.cell? ⟨B2, 0, none⟩ = some (.slice (some ⟨g2, 0, none⟩) n n) := (blk_cell M9.out.p2 0).trans rfl
                              obtain ⟨x0, x1, x2⟩ := M9.out.cellE j hlt2
                              obtain ⟨y0, y1, y2⟩ := M9.out.cellS j hlt2
                              rw [HVV.out.1] at x0
                              rw [HVV.out.2] at y0
                              obtain ⟨cs1, hc1⟩ := Kd.R_typed M9.out.e g1 rfl
                              have hn1 : B2 ≠ g1 := blk_ne M9.out.p2 hc1 (by decide)
                              have hn2 := Ne.symm hn1
                              have hn3 := M9.out.hg
                              have hn4 := Ne.symm hn3
                              clear hc1
                              cases ev with
                              | false =>
                                cases sv with
                                | false =>
                                  refine round_last (fun w' => w'.cell? ⟨B1, 0, none⟩ = some (.slice (some ⟨g1, 0, none⟩) n n) ∧ w'.cell? ⟨B2, 0, none⟩ = some (.slice (some ⟨g2, 0, none⟩) n n) ∧ w'.cell? ⟨g1, j, none⟩ = some (.bool false) ∧ w'.cell? ⟨g2, j, none⟩ = some (.bool false)) [19, 20, 21] 22 #[false, false, false, false, false, false, false, false, false, false, false, false, false, false, false, false, false, false, false, false, false, false] (by kernel_rfl) (by kernel_rfl) (by kernel_rfl) (by kernel_rfl) ?_
                                  refine heads_ (g := 8) #[true, true, false, false, true, true, true, true, true, true, true, true, true, true, true, true, false, false, false, false, false, false] (show _ ∧ _ from ⟨p1, p2, x0, y0⟩) (onlyN_panic _) [0, 1, 4, 5, 6, 7, 8, 9, 10, 11, 12, 13, 14, 15] [_, _, _, _, _, _, _, _, _, _, _, _, _, _] _ _ (by simp only [List.map_cons, List.map_nil, List.getElem?_toArray, List.getElem?_cons_succ, List.getElem?_cons_zero]; rfl) (by kernel_rfl) ?_
                                  repeat (first | (refine wpHeld_step ?_ (by rfl) ?_ ?_; rotate_left; (focus (rintro w' ⟨s0, s1, s2, s3⟩; go_simp; with_reducible rfl)); simp only [Act.put, List.setIfInBounds_toArray, List.set_cons_zero, List.set_cons_succ]) | (refine wpHeld_off (by rfl) ?_; simp only [Act.put, List.setIfInBounds_toArray, List.set_cons_zero, List.set_cons_succ]))
                                  refine wpHeld_nil ?_
                                  refine pures_ (g := 4) #[true, true, false, true, true, true, true, true, true, true, true, true, true, true, true, true, true, true, true, false, false, false] (onlyN_panic _) [3, 16, 17, 18] [_, _, _, _] _ _ (by simp only [List.map_cons, List.map_nil, List.getElem?_toArray, List.getElem?_cons_succ, List.getElem?_cons_zero]; rfl) (by kernel_rfl) ?_
                                  repeat (first | (refine wpHeld_step ?_ (by rfl) ?_ ?_; rotate_left; (focus (rintro w' _; go_simp; with_reducible rfl)); simp only [Act.put, List.setIfInBounds_toArray, List.set_cons_zero, List.set_cons_succ]) | (refine wpHeld_off (by rfl) ?_; simp only [Act.put, List.setIfInBounds_toArray, List.set_cons_zero, List.set_cons_succ]))
                                  refine wpHeld_nil ?_
                                  refine branch_ (g := 3) (i := 2) (j := 19) (by kernel_rfl) (by simp only [List.map_cons, List.map_nil, List.getElem?_toArray, List.getElem?_cons_succ, List.getElem?_cons_zero]; rfl) (by simp only [List.map_cons, List.map_nil, List.getElem?_toArray, List.getElem?_cons_succ, List.getElem?_cons_zero]; rfl) (fun K hK => ?_) (fun K hK => ?_)
                                  · go_simp
                                    refine hK _ _ ⟨p1, p2, x0, y0⟩ (row_ [19, 20, 21] [_, _, _] (by simp only [List.map_cons, List.map_nil, List.getElem?_toArray, List.getElem?_cons_succ, List.getElem?_cons_zero]; rfl) (by kernel_rfl) ?_)
                                    clear hK K
                                    go_wp2_with fail
                                    refine onlyN_mk ?_
                                    gi_wp2_with fail
                                    go_roundw
                                    case rel => exact ⟨j + 1, by omega, by go_num, ⟨by rw [HEV.out, HSV.out, HMB.out]; exact (M9.out.drew.setE j _).setS j _⟩, ⟨by obtain ⟨c1, k1⟩ := Kd.R_typed (M9.out.drew).e g1 rfl; obtain ⟨c2, k2⟩ := Kd.R_typed ((M9.out.drew.setE j (false && mb))).s g2 rfl; exact ((R9.out.drew).set k1 (by decide) j _).set k2 (by decide) j _⟩⟩
                                    case measure => simp [intOf]; omega
                                  · go_simp
                                    refine hK _ _ (one1_ (g := 2) (i := 2) (by kernel_rfl) (by simp only [List.map_cons, List.map_nil, List.getElem?_toArray, List.getElem?_cons_succ, List.getElem?_cons_zero]; rfl) (fun K' hK' => ?_))
                                    go_simp
                                    refine hK' _ _ id (row_ [20, 21] [_, _] (by simp only [List.map_cons, List.map_nil, List.getElem?_toArray, List.getElem?_cons_succ, List.getElem?_cons_zero]; rfl) (by kernel_rfl) ?_)
                                    clear hK' K'
                                    clear hK K
                                    go_wp2_with fail
                                    refine onlyN_mk ?_
                                    gi_wp2_with fail
                                    go_roundw
                                    case rel => exact ⟨j + 1, by omega, by go_num, ⟨by rw [HEV.out, HSV.out, HMB.out]; exact (M9.out.drew.setE j _).setS j _⟩, ⟨by obtain ⟨c1, k1⟩ := Kd.R_typed (M9.out.drew).e g1 rfl; obtain ⟨c2, k2⟩ := Kd.R_typed ((M9.out.drew.setE j (false && mb))).s g2 rfl; exact ((R9.out.drew).set k1 (by decide) j _).set k2 (by decide) j _⟩⟩
                                    case measure => simp [intOf]; omega
                                | true =>
                                  refine round_last (fun w' => w'.cell? ⟨B1, 0, none⟩ = some (.slice (some ⟨g1, 0, none⟩) n n) ∧ w'.cell? ⟨B2, 0, none⟩ = some (.slice (some ⟨g2, 0, none⟩) n n) ∧ w'.cell? ⟨g1, j, none⟩ = some (.bool false) ∧ w'.cell? ⟨g2, j, none⟩ = some (.bool true)) [19, 20, 21] 22 #[false, false, false, false, false, false, false, false, false, false, false, false, false, false, false, false, false, false, false, false, false, false] (by kernel_rfl) (by kernel_rfl) (by kernel_rfl) (by kernel_rfl) ?_
                                  refine heads_ (g := 8) #[true, true, false, false, true, true, true, true, true, true, true, true, true, true, true, true, false, false, false, false, false, false] (show _ ∧ _ from ⟨p1, p2, x0, y0⟩) (onlyN_panic _) [0, 1, 4, 5, 6, 7, 8, 9, 10, 11, 12, 13, 14, 15] [_, _, _, _, _, _, _, _, _, _, _, _, _, _] _ _ (by simp only [List.map_cons, List.map_nil, List.getElem?_toArray, List.getElem?_cons_succ, List.getElem?_cons_zero]; rfl) (by kernel_rfl) ?_
                                  repeat (first | (refine wpHeld_step ?_ (by rfl) ?_ ?_; rotate_left; (focus (rintro w' ⟨s0, s1, s2, s3⟩; go_simp; with_reducible rfl)); simp only [Act.put, List.setIfInBounds_toArray, List.set_cons_zero, List.set_cons_succ]) | (refine wpHeld_off (by rfl) ?_; simp only [Act.put, List.setIfInBounds_toArray, List.set_cons_zero, List.set_cons_succ]))
                                  refine wpHeld_nil ?_
                                  refine pures_ (g := 4) #[true, true, false, true, true, true, true, true, true, true, true, true, true, true, true, true, true, true, true, false, false, false] (onlyN_panic _) [3, 16, 17, 18] [_, _, _, _] _ _ (by simp only [List.map_cons, List.map_nil, List.getElem?_toArray, List.getElem?_cons_succ, List.getElem?_cons_zero]; rfl) (by kernel_rfl) ?_
                                  repeat (first | (refine wpHeld_step ?_ (by rfl) ?_ ?_; rotate_left; (focus (rintro w' _; go_simp; with_reducible rfl)); simp only [Act.put, List.setIfInBounds_toArray, List.set_cons_zero, List.set_cons_succ]) | (refine wpHeld_off (by rfl) ?_; simp only [Act.put, List.setIfInBounds_toArray, List.set_cons_zero, List.set_cons_succ]))
                                  refine wpHeld_nil ?_
                                  refine branch_ (g := 3) (i := 2) (j := 19) (by kernel_rfl) (by simp only [List.map_cons, List.map_nil, List.getElem?_toArray, List.getElem?_cons_succ, List.getElem?_cons_zero]; rfl) (by simp only [List.map_cons, List.map_nil, List.getElem?_toArray, List.getElem?_cons_succ, List.getElem?_cons_zero]; rfl) (fun K hK => ?_) (fun K hK => ?_)
                                  · go_simp
                                    refine hK _ _ ⟨p1, p2, x0, y0⟩ (row_ [19, 20, 21] [_, _, _] (by simp only [List.map_cons, List.map_nil, List.getElem?_toArray, List.getElem?_cons_succ, List.getElem?_cons_zero]; rfl) (by kernel_rfl) ?_)
                                    clear hK K
                                    go_wp2_with fail
                                    refine onlyN_mk ?_
                                    gi_wp2_with fail
                                    go_roundw
                                    case rel => exact ⟨j + 1, by omega, by go_num, ⟨by rw [HEV.out, HSV.out, HMB.out]; exact (M9.out.drew.setE j _).setS j _⟩, ⟨by obtain ⟨c1, k1⟩ := Kd.R_typed (M9.out.drew).e g1 rfl; obtain ⟨c2, k2⟩ := Kd.R_typed ((M9.out.drew.setE j (false && mb))).s g2 rfl; exact ((R9.out.drew).set k1 (by decide) j _).set k2 (by decide) j _⟩⟩
                                    case measure => simp [intOf]; omega
                                  · go_simp
                                    refine hK _ _ (one1_ (g := 2) (i := 2) (by kernel_rfl) (by simp only [List.map_cons, List.map_nil, List.getElem?_toArray, List.getElem?_cons_succ, List.getElem?_cons_zero]; rfl) (fun K' hK' => ?_))
                                    go_simp
                                    refine hK' _ _ id (row_ [20, 21] [_, _] (by simp only [List.map_cons, List.map_nil, List.getElem?_toArray, List.getElem?_cons_succ, List.getElem?_cons_zero]; rfl) (by kernel_rfl) ?_)
                                    clear hK' K'
                                    clear hK K
                                    go_wp2_with fail
                                    refine onlyN_mk ?_
                                    gi_wp2_with fail
                                    go_roundw
                                    case rel => exact ⟨j + 1, by omega, by go_num, ⟨by rw [HEV.out, HSV.out, HMB.out]; exact (M9.out.drew.setE j _).setS j _⟩, ⟨by obtain ⟨c1, k1⟩ := Kd.R_typed (M9.out.drew).e g1 rfl; obtain ⟨c2, k2⟩ := Kd.R_typed ((M9.out.drew.setE j (false && mb))).s g2 rfl; exact ((R9.out.drew).set k1 (by decide) j _).set k2 (by decide) j _⟩⟩
                                    case measure => simp [intOf]; omega
                              | true =>
                                cases sv with
                                | false =>
                                  refine round_last (fun w' => w'.cell? ⟨B1, 0, none⟩ = some (.slice (some ⟨g1, 0, none⟩) n n) ∧ w'.cell? ⟨B2, 0, none⟩ = some (.slice (some ⟨g2, 0, none⟩) n n) ∧ w'.cell? ⟨g1, j, none⟩ = some (.bool true) ∧ w'.cell? ⟨g2, j, none⟩ = some (.bool false)) [19, 20, 21] 22 #[false, false, false, false, false, false, false, false, false, false, false, false, false, false, false, false, false, false, false, false, false, false] (by kernel_rfl) (by kernel_rfl) (by kernel_rfl) (by kernel_rfl) ?_
                                  refine heads_ (g := 8) #[true, true, false, false, true, true, true, true, true, true, true, true, true, true, true, true, false, false, false, false, false, false] (show _ ∧ _ from ⟨p1, p2, x0, y0⟩) (onlyN_panic _) [0, 1, 4, 5, 6, 7, 8, 9, 10, 11, 12, 13, 14, 15] [_, _, _, _, _, _, _, _, _, _, _, _, _, _] _ _ (by simp only [List.map_cons, List.map_nil, List.getElem?_toArray, List.getElem?_cons_succ, List.getElem?_cons_zero]; rfl) (by kernel_rfl) ?_
                                  repeat (first | (refine wpHeld_step ?_ (by rfl) ?_ ?_; rotate_left; (focus (rintro w' ⟨s0, s1, s2, s3⟩; go_simp; with_reducible rfl)); simp only [Act.put, List.setIfInBounds_toArray, List.set_cons_zero, List.set_cons_succ]) | (refine wpHeld_off (by rfl) ?_; simp only [Act.put, List.setIfInBounds_toArray, List.set_cons_zero, List.set_cons_succ]))
                                  refine wpHeld_nil ?_
                                  refine pures_ (g := 4) #[true, true, false, true, true, true, true, true, true, true, true, true, true, true, true, true, true, true, true, false, false, false] (onlyN_panic _) [3, 16, 17, 18] [_, _, _, _] _ _ (by simp only [List.map_cons, List.map_nil, List.getElem?_toArray, List.getElem?_cons_succ, List.getElem?_cons_zero]; rfl) (by kernel_rfl) ?_
                                  repeat (first | (refine wpHeld_step ?_ (by rfl) ?_ ?_; rotate_left; (focus (rintro w' _; go_simp; with_reducible rfl)); simp only [Act.put, List.setIfInBounds_toArray, List.set_cons_zero, List.set_cons_succ]) | (refine wpHeld_off (by rfl) ?_; simp only [Act.put, List.setIfInBounds_toArray, List.set_cons_zero, List.set_cons_succ]))
                                  refine wpHeld_nil ?_
                                  refine branch_ (g := 3) (i := 2) (j := 19) (by kernel_rfl) (by simp only [List.map_cons, List.map_nil, List.getElem?_toArray, List.getElem?_cons_succ, List.getElem?_cons_zero]; rfl) (by simp only [List.map_cons, List.map_nil, List.getElem?_toArray, List.getElem?_cons_succ, List.getElem?_cons_zero]; rfl) (fun K hK => ?_) (fun K hK => ?_)
                                  · go_simp
                                    refine hK _ _ ⟨p1, p2, x0, y0⟩ (row_ [19, 20, 21] [_, _, _] (by simp only [List.map_cons, List.map_nil, List.getElem?_toArray, List.getElem?_cons_succ, List.getElem?_cons_zero]; rfl) (by kernel_rfl) ?_)
                                    clear hK K
                                    go_wp2_with fail
                                    refine onlyN_mk ?_
                                    gi_wp2_with fail
                                    go_roundw
                                    case rel => exact ⟨j + 1, by omega, by go_num, ⟨by rw [HEV.out, HSV.out, HMB.out]; exact (M9.out.drew.setE j _).setS j _⟩, ⟨by obtain ⟨c1, k1⟩ := Kd.R_typed (M9.out.drew).e g1 rfl; obtain ⟨c2, k2⟩ := Kd.R_typed ((M9.out.drew.setE j (true && mb))).s g2 rfl; exact ((R9.out.drew).set k1 (by decide) j _).set k2 (by decide) j _⟩⟩
                                    case measure => simp [intOf]; omega
                                  · go_simp
                                    refine hK _ _ (one1_ (g := 2) (i := 2) (by kernel_rfl) (by simp only [List.map_cons, List.map_nil, List.getElem?_toArray, List.getElem?_cons_succ, List.getElem?_cons_zero]; rfl) (fun K' hK' => ?_))
                                    go_simp
                                    refine hK' _ _ id (row_ [20, 21] [_, _] (by simp only [List.map_cons, List.map_nil, List.getElem?_toArray, List.getElem?_cons_succ, List.getElem?_cons_zero]; rfl) (by kernel_rfl) ?_)
                                    clear hK' K'
                                    clear hK K
                                    go_wp2_with fail
                                    refine onlyN_mk ?_
                                    gi_wp2_with fail
                                    go_roundw
                                    case rel => exact ⟨j + 1, by omega, by go_num, ⟨by rw [HEV.out, HSV.out, HMB.out]; exact (M9.out.drew.setE j _).setS j _⟩, ⟨by obtain ⟨c1, k1⟩ := Kd.R_typed (M9.out.drew).e g1 rfl; obtain ⟨c2, k2⟩ := Kd.R_typed ((M9.out.drew.setE j (true && mb))).s g2 rfl; exact ((R9.out.drew).set k1 (by decide) j _).set k2 (by decide) j _⟩⟩
                                    case measure => simp [intOf]; omega
                                | true =>
                                  refine round_last (fun w' => w'.cell? ⟨B1, 0, none⟩ = some (.slice (some ⟨g1, 0, none⟩) n n) ∧ w'.cell? ⟨B2, 0, none⟩ = some (.slice (some ⟨g2, 0, none⟩) n n) ∧ w'.cell? ⟨g1, j, none⟩ = some (.bool true) ∧ w'.cell? ⟨g2, j, none⟩ = some (.bool true)) [19, 20, 21] 22 #[false, false, false, false, false, false, false, false, false, false, false, false, false, false, false, false, false, false, false, false, false, false] (by kernel_rfl) (by kernel_rfl) (by kernel_rfl) (by kernel_rfl) ?_
                                  refine heads_ (g := 8) #[true, true, false, false, true, true, true, true, true, true, true, true, true, true, true, true, false, false, false, false, false, false] (show _ ∧ _ from ⟨p1, p2, x0, y0⟩) (onlyN_panic _) [0, 1, 4, 5, 6, 7, 8, 9, 10, 11, 12, 13, 14, 15] [_, _, _, _, _, _, _, _, _, _, _, _, _, _] _ _ (by simp only [List.map_cons, List.map_nil, List.getElem?_toArray, List.getElem?_cons_succ, List.getElem?_cons_zero]; rfl) (by kernel_rfl) ?_
                                  repeat (first | (refine wpHeld_step ?_ (by rfl) ?_ ?_; rotate_left; (focus (rintro w' ⟨s0, s1, s2, s3⟩; go_simp; with_reducible rfl)); simp only [Act.put, List.setIfInBounds_toArray, List.set_cons_zero, List.set_cons_succ]) | (refine wpHeld_off (by rfl) ?_; simp only [Act.put, List.setIfInBounds_toArray, List.set_cons_zero, List.set_cons_succ]))
                                  refine wpHeld_nil ?_
                                  refine pures_ (g := 4) #[true, true, false, true, true, true, true, true, true, true, true, true, true, true, true, true, true, true, true, false, false, false] (onlyN_panic _) [3, 16, 17, 18] [_, _, _, _] _ _ (by simp only [List.map_cons, List.map_nil, List.getElem?_toArray, List.getElem?_cons_succ, List.getElem?_cons_zero]; rfl) (by kernel_rfl) ?_
                                  repeat (first | (refine wpHeld_step ?_ (by rfl) ?_ ?_; rotate_left; (focus (rintro w' _; go_simp; with_reducible rfl)); simp only [Act.put, List.setIfInBounds_toArray, List.set_cons_zero, List.set_cons_succ]) | (refine wpHeld_off (by rfl) ?_; simp only [Act.put, List.setIfInBounds_toArray, List.set_cons_zero, List.set_cons_succ]))
                                  refine wpHeld_nil ?_
                                  refine branch_ (g := 3) (i := 2) (j := 19) (by kernel_rfl) (by simp only [List.map_cons, List.map_nil, List.getElem?_toArray, List.getElem?_cons_succ, List.getElem?_cons_zero]; rfl) (by simp only [List.map_cons, List.map_nil, List.getElem?_toArray, List.getElem?_cons_succ, List.getElem?_cons_zero]; rfl) (fun K hK => ?_) (fun K hK => ?_)
                                  · go_simp
                                    refine hK _ _ ⟨p1, p2, x0, y0⟩ (row_ [19, 20, 21] [_, _, _] (by simp only [List.map_cons, List.map_nil, List.getElem?_toArray, List.getElem?_cons_succ, List.getElem?_cons_zero]; rfl) (by kernel_rfl) ?_)
                                    clear hK K
                                    go_wp2_with fail
                                    refine onlyN_mk ?_
                                    gi_wp2_with fail
                                    go_roundw
                                    case rel => exact ⟨j + 1, by omega, by go_num, ⟨by rw [HEV.out, HSV.out, HMB.out]; exact (M9.out.drew.setE j _).setS j _⟩, ⟨by obtain ⟨c1, k1⟩ := Kd.R_typed (M9.out.drew).e g1 rfl; obtain ⟨c2, k2⟩ := Kd.R_typed ((M9.out.drew.setE j (true && mb))).s g2 rfl; exact ((R9.out.drew).set k1 (by decide) j _).set k2 (by decide) j _⟩⟩
                                    case measure => simp [intOf]; omega
                                  · go_simp
                                    refine hK _ _ (one1_ (g := 2) (i := 2) (by kernel_rfl) (by simp only [List.map_cons, List.map_nil, List.getElem?_toArray, List.getElem?_cons_succ, List.getElem?_cons_zero]; rfl) (fun K' hK' => ?_))
                                    go_simp
                                    refine hK' _ _ id (row_ [20, 21] [_, _] (by simp only [List.map_cons, List.map_nil, List.getElem?_toArray, List.getElem?_cons_succ, List.getElem?_cons_zero]; rfl) (by kernel_rfl) ?_)
                                    clear hK' K'
                                    clear hK K
                                    go_wp2_with fail
                                    refine onlyN_mk ?_
                                    gi_wp2_with fail
                                    go_roundw
                                    case rel => exact ⟨j + 1, by omega, by go_num, ⟨by rw [HEV.out, HSV.out, HMB.out]; exact (M9.out.drew.setE j _).setS j _⟩, ⟨by obtain ⟨c1, k1⟩ := Kd.R_typed (M9.out.drew).e g1 rfl; obtain ⟨c2, k2⟩ := Kd.R_typed ((M9.out.drew.setE j (true && mb))).s g2 rfl; exact ((R9.out.drew).set k1 (by decide) j _).set k2 (by decide) j _⟩⟩
                                    case measure => simp [intOf]; omega
                            · have hltz2 : ¬ (j : Int) < (n : Int) := by omega
                              obtain rfl : n = j := by omega
                              gi_wp2_with fail
                              refine ⟨MR.out.k.from _, MR.out.t, by rw [HE.out.1, HE.out.2]; exact ME.out, H6.out.keep (.inr (.inr rfl)) MR.out.t, Nat.le_trans h7 MR.out.k.size⟩
  · have h0' : (oe != 0) = true := by simp [h0]
    have HN := Aside0.mk (show meantR first changes word lo hi most = ([], [], oe) from by unfold meantR; rw [if_pos (by rw [hoe]; exact h0), hoe])
    clear h0 hop hoe
    gi_wp2_with fail
    rw [HN.out]
    show ∃ v, _ ∧ _
    refine ⟨.tuple #[.slice none 0 0, .slice none 0 0, .int .i64 oe], by simp [results, Tryz.results38, go_sem], ?_⟩
    exact ⟨_, _, rfl, Kd.R_nil _ _ _ _ _, Kd.R_nil _ _ _ _ _, below_alloc HB2.out _⟩
end Go.Proofs.YtdjlfdbnmnjccaaGreat.St
end
