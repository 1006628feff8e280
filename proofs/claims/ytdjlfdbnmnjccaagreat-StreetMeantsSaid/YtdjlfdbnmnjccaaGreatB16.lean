/- A part of the proofs of the laws of this seat: the walks of the program's functions, and lemmas. They hold without conditions. -/
import Derived.Test.YtdjlfdbnmnjccaaGreatB03
import Derived.Test.YtdjlfdbnmnjccaaGreatB15
set_option linter.all false
set_option linter.unusedSectionVars false
section
set_option linter.unusedVariables false
set_option linter.unusedSimpArgs false
namespace Go.Proofs.YtdjlfdbnmnjccaaGreat.St
open Go.Sort hiding rd
open Go.Maps Go.RowKit Go.Shelf Go.Proofs Go.Proofs.YtdjlfdbnmnjccaaGreatW.PrintWords Go.Proofs.YtdjlfdbnmnjccaaGreatW.PrintLast Go.Proofs.YtdjlfdbnmnjccaaGreatW.PrintMore
attribute [local go_sem] Oper.semAt_some
set_option maxHeartbeats 8000000 in
set_option maxRecDepth 100000 in
theorem again_any (A0 : Option Addr) (c0 : Nat) (first : List ByteArray) (A1 : Option Addr) (c1 : Nat) (changes : List S60) (w : World)
    (hr0 : Kd.C Kd.string w A0 first.length first) (hc0 : first.length ≤ c0) (hr1 : Kd.C k60 w A1 changes.length changes) (hc1 : changes.length ≤ c1) :
    Calls Tryz.prog 26 #[.agg #[.slice A0 first.length c0, .slice A1 changes.length c1]] w fun e w' =>
      ∃ v0 : Value, e = .returned (.tuple #[v0, .int .i64 (againR first changes).2]) ∧ Kd.R Kd.string 9 w' w.heap.size (fun _ => True) v0 (againR first changes).1 ∧ Below w.heap.size w w' := by
  have HOP := Aside0.mk (fun (W : World) (hb : Below w.heap.size w W) => open_any A0 c0 first A1 c1 changes W (Kd.C_below hr0 hb) hc0 (Kd.C_below hr1 hb) hc1)
  clear hr0 hr1
  refine (callsIn_wide (n := 8)).1 ?_
  refine callsIn_of_wp_marks Tryz.func26 rfl trivial ?_ rfl
  simp only [Tryz.ntmps26, List.size_toArray, List.length_cons, List.length_nil, Nat.reduceAdd, Nat.reduceSub, Array.replicate_succ, Array.replicate_zero, List.push_toArray, List.append_toArray, List.nil_append, List.cons_append]
  have h18 : 1 ≤ 8 := by omega
  gi_wp2_with fail
  obtain ⟨W1, hW1⟩ : ∃ W1, w.alloc (.cells #[.slice A0 first.length c0, .slice A1 changes.length c1] 25) = W1 := ⟨_, rfl⟩
  have hb1 : Below w.heap.size w W1 := by rw [← hW1]; exact below_alloc (Below.refl _ _) _
  rw [hW1]
  clear hW1
  refine ⟨trivial, (callsIn_wide.2 (HOP.out W1 hb1)).mono ?_⟩
  rintro e w2 ⟨B0, n0, d0, B1, n1, d1, Bp, np, dp, rfl, hop, hb⟩
  obtain ⟨oe, hoe⟩ : ∃ oe, openE first changes = oe := ⟨_, rfl⟩
  rw [hoe]
  have HB2 := Aside0.mk (below_from hb1 hb)
  have HS := Aside0.mk hb1.size
  clear hb hb1 HOP
  by_cases h0 : oe = 0
  · subst h0
    obtain ⟨e0, e1, hp⟩ := hop hoe
    rw [e0, e1]
    clear e0 e1 hop
    have HP2 := Aside0.mk (Kd.R_lower hp HS.out)
    have HOE := Aside0.mk hoe
    obtain ⟨hf1, hf2, _⟩ := check_ok (open_zero hoe).1
    have HN0 := Aside0.mk (show againR first changes = ((sortU (dedupL (agTo (pagesOf first changes) (pagesOf first changes).length))).map fun l => (⟨l.toArray⟩ : ByteArray), 0) from by unfold againR; rw [if_neg (by rw [hoe]; simp)])
    clear hp hoe HS
    obtain ⟨ps, hps⟩ : ∃ ps, pagesOf first changes = ps := ⟨_, rfl⟩
    have hpg : (bookOf first changes).1 = ps := hps
    rw [hpg] at HP2
    rw [hps] at HN0
    obtain ⟨Aq, cq, hsl⟩ := Kd.R_slice HP2.out
    cases hsl
    have HOKP := Aside0.mk (show PagesOk first.length ps from hps ▸ pages_ok HOE.out)
    clear hps hpg
    obtain ⟨n, hn⟩ : ∃ n, first.length = n := ⟨_, rfl⟩
    rw [hn] at HOKP hf1 hf2 ⊢
    have HNN := Aside0.mk hn
    clear hn
    obtain ⟨W3, hW3⟩ : ∃ W3, w2.alloc (.cells #[.slice A0 n c0, .slice A1 changes.length c1, .slice Bp ps.length dp] 124) = W3 := ⟨_, rfl⟩
    have HB3 := Aside0.mk (show Below w.heap.size w W3 from by rw [← hW3]; exact below_alloc HB2.out _)
    have BB3 := Aside0.mk (show W3.heap[w2.heap.size]? = some (.cells #[.slice A0 n c0, .slice A1 changes.length c1, .slice Bp ps.length dp] 124 (0, 0)) from by rw [← hW3]; exact blk_new w2 _)
    have HP3 := Aside0.mk (show Kd.R k167 167 W3 w.heap.size (fun _ => True) (.slice Bp ps.length dp) ps from by rw [← hW3]; exact Kd.R_alloc HP2.out _)
    obtain ⟨⟨bk0, bk1, bk2⟩, _, bkl⟩ := blk3 BB3.out
    clear HB2 HP2
    have hmm := @run_makeMap Tryz.prog
    have x0_ : (((((W3.alloc (.map #[] 0)).alloc (.map #[] 0)).alloc (.cells #[.map (some W3.heap.size)] 134)).alloc (.cells #[.map (some (W3.heap.size + 1))] 134)).alloc (.cells #[.slice none 0 0] 22)).cell? ⟨w2.heap.size, 0, none⟩ = some (.slice A0 n c0) := cell_alloc (cell_alloc (cell_alloc (cell_alloc (cell_alloc bk0 _) _) _) _) _
    have x1_ : (((((W3.alloc (.map #[] 0)).alloc (.map #[] 0)).alloc (.cells #[.map (some W3.heap.size)] 134)).alloc (.cells #[.map (some (W3.heap.size + 1))] 134)).alloc (.cells #[.slice none 0 0] 22)).cell? ⟨w2.heap.size, 1, none⟩ = some (.slice A1 changes.length c1) := cell_alloc (cell_alloc (cell_alloc (cell_alloc (cell_alloc bk1 _) _) _) _) _
    have x2_ : (((((W3.alloc (.map #[] 0)).alloc (.map #[] 0)).alloc (.cells #[.map (some W3.heap.size)] 134)).alloc (.cells #[.map (some (W3.heap.size + 1))] 134)).alloc (.cells #[.slice none 0 0] 22)).cell? ⟨w2.heap.size, 2, none⟩ = some (.slice Bp ps.length dp) := cell_alloc (cell_alloc (cell_alloc (cell_alloc (cell_alloc bk2 _) _) _) _) _
    have hI : AgI w (((((W3.alloc (.map #[] 0)).alloc (.map #[] 0)).alloc (.cells #[.map (some W3.heap.size)] 134)).alloc (.cells #[.map (some (W3.heap.size + 1))] 134)).alloc (.cells #[.slice none 0 0] 22)) (.slice A0 n c0) (.slice A1 changes.length c1) w2.heap.size (.slice Bp ps.length dp) ps W3.heap.size (W3.heap.size + 1) (W3.heap.size + 1 + 1) (W3.heap.size + 1 + 1 + 1) (W3.heap.size + 1 + 1 + 1 + 1) (.slice none 0 0) [] [] 0 := by
      have k1 := World.ownsMap_made W3 Tryz.prog 9 boolR
      have k2 := World.ownsMap_made (W3.alloc (.map #[] 0)) Tryz.prog 9 boolR
      have j3 := blk_new ((W3.alloc (.map #[] 0)).alloc (.map #[] 0)) (.cells #[.map (some W3.heap.size)] 134)
      have j4 := blk_new (((W3.alloc (.map #[] 0)).alloc (.map #[] 0)).alloc (.cells #[.map (some W3.heap.size)] 134)) (.cells #[.map (some (W3.heap.size + 1))] 134)
      have j5 := blk_new ((((W3.alloc (.map #[] 0)).alloc (.map #[] 0)).alloc (.cells #[.map (some W3.heap.size)] 134)).alloc (.cells #[.map (some (W3.heap.size + 1))] 134)) (.cells #[.slice none 0 0] 22)
      simp only [World.size_alloc] at k2 j3 j4 j5
      have hs := HB3.out.size
      exact ⟨below_alloc (below_alloc (below_alloc (below_alloc (below_alloc HB3.out _) _) _) _) _, blk_alloc (blk_alloc (blk_alloc (blk_alloc (blk_alloc BB3.out _) _) _) _) _, Kd.R_alloc (Kd.R_alloc (Kd.R_alloc (Kd.R_alloc (Kd.R_alloc HP3.out _) _) _) _) _,
        blk_alloc (blk_alloc j3 _) _, blk_alloc j4 _, j5, ⟨_, _, (((k1.alloc _).alloc _).alloc _).alloc _, Nat.le_refl _, setD_nil⟩, ⟨_, _, ((k2.alloc _).alloc _).alloc _, Nat.le_refl _, setD_nil⟩, by omega, by omega, by omega, by omega⟩
    obtain ⟨Wb, hWb⟩ : ∃ Wb, (((((W3.alloc (.map #[] 0)).alloc (.map #[] 0)).alloc (.cells #[.map (some W3.heap.size)] 134)).alloc (.cells #[.map (some (W3.heap.size + 1))] 134)).alloc (.cells #[.slice none 0 0] 22)) = Wb := ⟨_, rfl⟩
    have hsz : Wb.heap.size = W3.heap.size + 5 := by rw [← hWb]; simp
    rw [hWb] at hI x0_ x1_ x2_
    have HI := Aside0.mk hI
    clear hI bk0 bk1 bk2 bkl HB3 BB3 HP3
    gi_wp2_with fail
    clear hmm x0_ x1_ x2_
    clear hWb hW3
    have hl3 : W3.heap.size < Wb.heap.size ∧ W3.heap.size + 1 < Wb.heap.size := by omega
    have HSZ := Aside0.mk hl3
    clear hsz hl3
    obtain ⟨bm, hbm⟩ : ∃ bm, W3.heap.size = bm := ⟨_, rfl⟩
    rw [hbm] at HI HSZ ⊢
    clear hbm
    obtain ⟨g, cg, vals, hveq, hgb, hpa, hna⟩ := pagesAt_of_R HI.out.hp HOKP.out.ne
    cases hveq
    have HPA := Aside0.mk hpa
    have HNA := Aside0.mk hna
    clear hpa hna
    refine' rangeBound (enc := encP ps vals) (T := fun t => t = 167 ∨ t = 124 ∨ t = 9) (N := ps.length) (w0 := Wb) rfl (by omega) rfl trivial (enters_of Tryz.func73 (by kernel_rfl) rfl)
      (times_seq Fence.wide 7 trivial rfl (by omega) (.slice A0 n c0) (.slice A1 changes.length c1) g dp n ps HOKP.out vals _ (.inl rfl) (.inr (.inl rfl)) Wb HPA.out) (KeepT.refl _ _) (fun _ => rfl)
      (fun k W => AgI w W (.slice A0 n c0) (.slice A1 changes.length c1) w2.heap.size (.slice (some ⟨g, 0, none⟩) ps.length dp) ps bm (bm + 1) (bm + 1 + 1) (bm + 1 + 1 + 1) (bm + 1 + 1 + 1 + 1) (befV vals k) (beTo ps k) (agTo ps k) (k * 12) ∧ NamesAt W w.heap.size ps vals ∧ Wb.heap.size ≤ W.heap.size) ?ia ?ip ?i0
      (DumAt _) (DumAt.put (B := Wb.heap.size)) ?assign ?body ?done
    case ia =>
      rintro k W o ⟨h1, h6, h7⟩
      exact ⟨h1.alloc _, ⟨fun k hk => Kd.R_alloc (h6.at_ k hk) _⟩, by simp; omega⟩
    case ip =>
      rintro k W l o o' hl hlo ho ⟨h1, h6, h7⟩
      exact ⟨h1.put (Nat.le_trans HI.out.hb.size hl) hlo ho (by have := HSZ.out.1; omega) (by have := HSZ.out.2; omega), ⟨fun k hk => R_putObj (h6.at_ k hk) hlo ho o'⟩, by simpa [World.putObj] using h7⟩
    case i0 => exact ⟨HI.out, HNA.out, Nat.le_refl _⟩
    case assign =>
      rintro l k W K ⟨h1, h6, h7⟩ hk hK
      unfold encP
      gi_wp2_with fail
      obtain ⟨z, hz⟩ : ∃ z : Nat, z = 0 := ⟨0, rfl⟩
      clear hz
      exact hK _ _ ((KeepsOthers.refl _).from _) (KeepT.refl _ _) ⟨h1, h6, h7⟩ ⟨z, rfl⟩
    case done =>
      rintro D W hD ⟨h1, h6, h7⟩ hK
      obtain ⟨D2, n2, c1, c2, c3⟩ := h1.m2
      have q7 : W.cell? ⟨bm + 1 + 1 + 1, 0, none⟩ = some (.map (some (bm + 1))) := (blk_cell h1.b7 0).trans rfl
      have hpsm := HOKP.out.small
      have hszD := own_size c1
      have hperm := setD_keys c3 Tryz.underlying9 c1
      have HE := Aside0.mk (show sortU (strKeys D2) = sortU (dedupL (agTo ps ps.length)) from asc_unique (sortU_asc _) (sortU_asc _) (((sortU_perm _).trans hperm.symm).trans (sortU_perm _).symm))
      have hcell : (W.alloc (.cells #[.map (some (bm + 1))] 134)).cell? ⟨W.heap.size, 0, none⟩ = some (.map (some (bm + 1))) := (blk_cell (blk_new W _) 0).trans rfl
      have HC := Aside0.mk (sortedKeys_any W.heap.size (bm + 1) n2 D2 _ hcell (c1.alloc _) (by omega))
      have GK := Aside0.mk (show (W.alloc (.cells #[.map (some (bm + 1))] 134)).heap[D]? = some (.deferred (some [])) from blk_alloc hK _)
      have G1 := Aside0.mk h1.hb
      clear h1 c1 c2 c3 hK hszD hperm hcell h6
      gi_wp2_with fail
      refine ⟨trivial, (callsIn_wide.2 (keys_call _ _)).mono ?_⟩
      rintro e w5 ⟨rfl, rfl⟩
      gi_wp2_with fail
      refine ⟨trivial, (callsIn_wide.2 HC.out).mono ?_⟩
      rintro e w6 ⟨v, rfl, hv, hb⟩
      rw [HE.out] at hv
      have HB6 := Aside0.mk (below_from (below_alloc G1.out _) hb)
      have GD := Aside0.mk (blk_below GK.out hb)
      have HR := Aside0.mk (show Kd.R Kd.string 9 w6 w.heap.size (fun _ => True) v ((sortU (dedupL (agTo ps ps.length))).map fun l => (⟨l.toArray⟩ : ByteArray)) from by
        refine Kd.R_of_own (enc := Value.string) ?_ (fun _ _ => trivial)
        have e1 : encs Value.string ((sortU (dedupL (agTo ps ps.length))).map fun l => (⟨l.toArray⟩ : ByteArray)) = (sortU (dedupL (agTo ps ps.length))).map encStr := by unfold encs; rw [List.map_map]; rfl
        rw [e1, List.length_map]
        exact ownsRow_base_a hv (by simp; have := G1.out.size; omega))
      clear hb hv
      gi_wp2_with fail
      rw [HN0.out]
      refine ⟨by simp, .inl ⟨_, _, rfl, run_takeDeferred GD.out, ?_⟩⟩
      show ∃ v, _ ∧ _
      refine ⟨.tuple #[v, .int .i64 0], by simp [results, Tryz.results26, go_sem], ?_⟩
      exact ⟨_, rfl, R_putObj HR.out GD.out rfl _, HB6.out.grown (grownBy_putObj' w6 D _) HB6.out.size (fun j hj => by cases hj; exact Nat.le_trans HI.out.hb.size hD)⟩
    case body =>
      rintro l k a' W hl ⟨r, hr⟩ ⟨h1, h6, h7⟩ ⟨z, rfl⟩ hlt
      dsimp only
      have q1 := nil_eql (P := Tryz.prog) Tryz.underlying22
      have q2 := some_eql (P := Tryz.prog) Tryz.underlying22
      have hna := h6.at_ k hlt
      have hpsm := HOKP.out.small
      obtain ⟨nm, hnm⟩ : ∃ nm, (rd_T167 ps (k : Int)).f1 = nm := ⟨_, rfl⟩
      rw [hnm] at hna
      obtain ⟨An, cn, hvk, hnc, hnC⟩ := Kd.R_reads hna
      have hnl : nm.length = n := by rw [← hnm]; exact HOKP.out.len _ (rd_page_mem k hlt)
      have hszz : ∀ s ∈ nm, s.size ≤ 10 := by rw [← hnm]; exact HOKP.out.sz _ (rd_page_mem k hlt)
      have hbef : (befV vals k = .slice none 0 0 ∧ befOf ps k = none) ∨ (∃ (bn : List ByteArray) (adb : Addr) (cb : Nat), befV vals k = .slice (some adb) n cb ∧ befOf ps k = some bn ∧ bn.length = n ∧
          ∀ W', KeepT (fun t => t = 167 ∨ t = 124 ∨ t = 9) W W' → Kd.C Kd.string W' (some adb) n bn) := by
        cases k with
        | zero => exact .inl ⟨rfl, rfl⟩
        | succ k0 =>
          right
          have hlt0 : k0 < ps.length := by omega
          have hbl : ((rd_T167 ps (k0 : Int)).f1).length = n := HOKP.out.len _ (rd_page_mem k0 hlt0)
          obtain ⟨gb, cb, e, _, _, _⟩ := Kd.R_form (h6.at_ k0 hlt0) (by omega)
          rw [hbl] at e
          refine ⟨_, ⟨gb, 0, none⟩, cb, e, rfl, hbl, fun W' hk => ?_⟩
          have := (h6.keep (.inr (.inr rfl)) hk).at_ k0 hlt0
          rw [e] at this
          have h9 := (Kd.R_reads' this).2.2
          rwa [hbl] at h9
      rw [hvk, hnl]
      have HVK := Aside0.mk (And.intro hvk (And.intro hnm hnl))
      have hbs := beTo_succ ps k
      have has := agTo_succ ps k
      rw [hnm, hnl] at hbs has
      obtain ⟨BL, hBL⟩ : ∃ BL, beTo ps k = BL := ⟨_, rfl⟩
      obtain ⟨AL, hAL⟩ : ∃ AL, agTo ps k = AL := ⟨_, rfl⟩
      obtain ⟨bo, hbo⟩ : ∃ bo, befOf ps k = bo := ⟨_, rfl⟩
      obtain ⟨bv, hbv⟩ : ∃ bv, befV vals k = bv := ⟨_, rfl⟩
      rw [hBL] at hbs has h1
      rw [hAL] at has h1
      rw [hbo] at has hbef
      rw [hbv] at h1 hbef
      have H1 := Aside0.mk h1
      have H6 := Aside0.mk h6
      have HBS := Aside0.mk hbs
      have HAS := Aside0.mk has
      have HSS := Aside0.mk hszz
      have HBE := Aside0.mk hbef
      have HR := Aside0.mk hr
      clear h1 h6 hbs has hszz hbef hr hna hnC hvk hnc hnm hBL hAL hbo hbv
      have hlen2 : nm.length = n := hnl
      have HLN := Aside0.mk hlen2
      clear hnl hlen2
      gi_wp2_with fail
      gi_loopw [11, 12, 13, 32] (fun _ _ _ i wr => ∃ j : Nat, j ≤ n ∧ i = .int .i64 j ∧ Aside0 (AgI w wr (.slice A0 n c0) (.slice A1 changes.length c1) w2.heap.size (.slice (some ⟨g, 0, none⟩) ps.length dp) ps bm (bm + 1) (bm + 1 + 1) (bm + 1 + 1 + 1) (bm + 1 + 1 + 1 + 1) bv BL (agIn BL bo nm AL j) (k * 12 + j)) ∧
          Aside0 (RnB Wb.heap.size (fun t => t = 167 ∨ t = 124 ∨ t = 9) W wr))
        (fun _ _ _ i _ => n - (intOf i).toNat)
      case atStart => exact ⟨0, Nat.zero_le _, rfl, H1, ⟨RnB.refl _ _ _⟩⟩
      case round =>
        obtain ⟨j, hj, rfl, ME, MR⟩ := hrel
        have b8_ : wr.cell? ⟨bm + 1 + 1 + 1 + 1, 0, none⟩ = some bv := (blk_cell ME.out.b8 0).trans rfl
        have b6_ : wr.cell? ⟨bm + 1 + 1, 0, none⟩ = some (.map (some bm)) := (blk_cell ME.out.b6 0).trans rfl
        have b7_ : wr.cell? ⟨bm + 1 + 1 + 1, 0, none⟩ = some (.map (some (bm + 1))) := (blk_cell ME.out.b7 0).trans rfl
        by_cases hlt2 : j < n
        · have hltz2 : (j : Int) < (n : Int) := by omega
          have hnr := (H6.out.keep (.inr (.inr rfl)) MR.out.t).at_ k hlt
          rw [HVK.out.1, HVK.out.2.1] at hnr
          have hnC := (Kd.R_reads' hnr).2.2
          have hnl2 := HLN.out
          obtain ⟨adn, e, sN⟩ := Kd.at_string hnC (j : Int) (by omega) (by omega)
          subst e
          rw [Int.toNat_natCast] at sN
          obtain ⟨s, hs⟩ : ∃ s, rdOf ByteArray.empty nm (j : Int) = s := ⟨_, rfl⟩
          rw [hs] at sN
          have hsz2 : s.size ≤ 10 := HSS.out s (by
            rw [← hs]; unfold rdOf
            rw [Int.toNat_natCast, List.getD_eq_getElem?_getD, List.getElem?_eq_getElem (by omega), Option.getD_some]
            exact List.getElem_mem _)
          have HA1 := Aside0.mk (show agIn BL bo nm AL (j + 1) = if isNewB bo nm j = true ∧ s.data.toList ∈ BL then agIn BL bo nm AL j ++ [s.data.toList] else agIn BL bo nm AL j from by rw [← hs]; rfl)
          have hlook := ME.out.look s (by unfold maxLen; omega)
          obtain ⟨W', hrun, hA, hg⟩ := ME.out.updAgain s (by unfold maxLen; omega) (by omega)
          obtain ⟨o, ho, hoc⟩ := own_map_obj ME.out.m2.choose_spec.choose_spec.1
          have HR' := Aside0.mk (MR.out.trans (RnB.map (T := fun t => t = 167 ∨ t = 124 ∨ t = 9) hg HSZ.out.2 ho hoc))
          have HA' := Aside0.mk hA
          clear hnr hnC hnl2 hA hg ho hoc hsz2
          obtain ⟨inB, hin⟩ : ∃ b, decide (s.data.toList ∈ BL) = b := ⟨_, rfl⟩
          rw [hin] at hlook
          have HIN := Aside0.mk hin
          clear hin
          have hcase : (bv = .slice none 0 0 ∧ bo = none) ∨ (∃ (bn : List ByteArray) (adb : Addr) (cb : Nat) (s' : ByteArray), bv = .slice (some adb) n cb ∧ isNewB bo nm j = (s'.toList != s.toList) ∧ wr.cell? (adb.add j) = some (.string s')) := by
            rcases HBE.out with h | ⟨bn, adb, cb, h1, h2, h3, h4⟩
            · exact .inl h
            · right
              obtain ⟨adq, e, sB⟩ := Kd.at_string (h4 wr MR.out.t) (j : Int) (by omega) (by omega)
              cases e
              rw [Int.toNat_natCast] at sB
              exact ⟨bn, adb, cb, _, h1, by rw [h2, ← hs]; rfl, sB⟩
          clear hs
          have hend : ∀ (c : Bool), isNewB bo nm j = c → (c && inB) = true → AgI w W' (.slice A0 n c0) (.slice A1 changes.length c1) w2.heap.size (.slice (some ⟨g, 0, none⟩) ps.length dp) ps bm (bm + 1) (bm + 1 + 1) (bm + 1 + 1 + 1) (bm + 1 + 1 + 1 + 1) bv BL (agIn BL bo nm AL (j + 1)) (k * 12 + (j + 1)) := by
            intro c h1 h2
            rw [HA1.out, if_pos (by rw [h1]; rw [← HIN.out] at h2; simpa using h2)]
            exact HA'.out
          have hskip : ∀ (c : Bool), isNewB bo nm j = c → (c && inB) = false → AgI w wr (.slice A0 n c0) (.slice A1 changes.length c1) w2.heap.size (.slice (some ⟨g, 0, none⟩) ps.length dp) ps bm (bm + 1) (bm + 1 + 1) (bm + 1 + 1 + 1) (bm + 1 + 1 + 1 + 1) bv BL (agIn BL bo nm AL (j + 1)) (k * 12 + (j + 1)) := by
            intro c h1 h2
            rw [HA1.out, if_neg (by rw [h1]; rw [← HIN.out] at h2; simpa using h2)]
            exact ME.out.mono (by omega)
          have HEND := Aside0.mk hend
          have HSKIP := Aside0.mk hskip
          clear hend hskip
          rcases hcase with ⟨e1, e2⟩ | ⟨bn, adb, cb, s', e1, e2, sB⟩
          · subst e1
            have HNW := Aside0.mk (show isNewB bo nm j = true from by rw [e2]; rfl)
            clear e2
            cases inB with
            | true =>
              gi_wp2_with fail
              go_roundw
              case rel => exact ⟨j + 1, by omega, by go_num, ⟨HEND.out true HNW.out rfl⟩, HR'⟩
              case measure => simp [intOf]; omega
            | false =>
              gi_wp2_with fail
              go_roundw
              case rel => exact ⟨j + 1, by omega, by go_num, ⟨HSKIP.out true HNW.out rfl⟩, MR⟩
              case measure => simp [intOf]; omega
          · subst e1
            obtain ⟨nw, hnw⟩ : ∃ b, (s'.toList != s.toList) = b := ⟨_, rfl⟩
            rw [hnw] at e2
            have hnw2 : (s'.toList == s.toList) = !nw := by rw [← hnw]; simp [bne]
            have HNW := Aside0.mk e2
            clear e2
            cases nw with
            | true =>
              cases inB with
              | true =>
                gi_wp2_with fail
                go_roundw
                case rel => exact ⟨j + 1, by omega, by go_num, ⟨HEND.out true HNW.out rfl⟩, HR'⟩
                case measure => simp [intOf]; omega
              | false =>
                gi_wp2_with fail
                go_roundw
                case rel => exact ⟨j + 1, by omega, by go_num, ⟨HSKIP.out true HNW.out rfl⟩, MR⟩
                case measure => simp [intOf]; omega
            | false =>
              gi_wp2_with fail
              go_roundw
              case rel => exact ⟨j + 1, by omega, by go_num, ⟨HSKIP.out false HNW.out rfl⟩, MR⟩
              case measure => simp [intOf]; omega
        · have hltz2 : ¬ (j : Int) < (n : Int) := by omega
          obtain rfl : n = j := by omega
          obtain ⟨Wm, rfl⟩ : ∃ Wm : World, Wm = wr := ⟨_, rfl⟩
          have HA2 := Aside0.mk (show AgI w Wm (.slice A0 n c0) (.slice A1 changes.length c1) w2.heap.size (.slice (some ⟨g, 0, none⟩) ps.length dp) ps bm (bm + 1) (bm + 1 + 1) (bm + 1 + 1 + 1) (bm + 1 + 1 + 1 + 1) bv (beIn nm BL 0) (agTo ps (k + 1)) (k * 12 + 6 + 0) from by rw [HAS.out]; exact ME.out.mono (by omega))
          clear b8_ b6_ b7_ ME
          gi_wp2_with fail
          gi_loopw [15, 58] (fun _ i wr => ∃ j : Nat, j ≤ n ∧ i = .int .i64 j ∧ Aside0 (AgI w wr (.slice A0 n c0) (.slice A1 changes.length c1) w2.heap.size (.slice (some ⟨g, 0, none⟩) ps.length dp) ps bm (bm + 1) (bm + 1 + 1) (bm + 1 + 1 + 1) (bm + 1 + 1 + 1 + 1) bv (beIn nm BL j) (agTo ps (k + 1)) (k * 12 + 6 + j)) ∧
              Aside0 (RnB Wb.heap.size (fun t => t = 167 ∨ t = 124 ∨ t = 9) W wr))
            (fun _ i _ => n - (intOf i).toNat)
          case atStart => exact ⟨0, Nat.zero_le _, rfl, HA2, MR⟩
          case round =>
            clear HA2 MR
            obtain ⟨j, hj, rfl, ME, MR⟩ := hrel
            by_cases hlt2 : j < n
            · have hltz2 : (j : Int) < (n : Int) := by omega
              have b6_ : wr.cell? ⟨bm + 1 + 1, 0, none⟩ = some (.map (some bm)) := (blk_cell ME.out.b6 0).trans rfl
              have hnr := (H6.out.keep (.inr (.inr rfl)) MR.out.t).at_ k hlt
              rw [HVK.out.1, HVK.out.2.1] at hnr
              have hnC := (Kd.R_reads' hnr).2.2
              have hnl2 := HLN.out
              obtain ⟨adn, e, sN⟩ := Kd.at_string hnC (j : Int) (by omega) (by omega)
              subst e
              rw [Int.toNat_natCast] at sN
              obtain ⟨s, hs⟩ : ∃ s, rdOf ByteArray.empty nm (j : Int) = s := ⟨_, rfl⟩
              rw [hs] at sN
              have hsz2 : s.size ≤ 10 := HSS.out s (by
                rw [← hs]; unfold rdOf
                rw [Int.toNat_natCast, List.getD_eq_getElem?_getD, List.getElem?_eq_getElem (by omega), Option.getD_some]
                exact List.getElem_mem _)
              have HB1 := Aside0.mk (show beIn nm BL (j + 1) = beIn nm BL j ++ [s.data.toList] from by rw [← hs]; rfl)
              obtain ⟨W', hrun, hA, hg⟩ := ME.out.updBeen s (by unfold maxLen; omega) (by omega)
              obtain ⟨o, ho, hoc⟩ := own_map_obj ME.out.m1.choose_spec.choose_spec.1
              have HR' := Aside0.mk (MR.out.trans (RnB.map (T := fun t => t = 167 ∨ t = 124 ∨ t = 9) hg HSZ.out.1 ho hoc))
              have HA' := Aside0.mk hA
              clear hnr hnC hnl2 hA hg ho hoc hsz2 hs
              gi_wp2_with fail
              go_roundw
              case rel => exact ⟨j + 1, by omega, by go_num, ⟨by rw [HB1.out]; exact HA'.out⟩, HR'⟩
              case measure => simp [intOf]; omega
            · have hltz2 : ¬ (j : Int) < (n : Int) := by omega
              obtain rfl : n = j := by omega
              have b8_ : wr.cell? ⟨bm + 1 + 1 + 1 + 1, 0, none⟩ = some bv := (blk_cell ME.out.b8 0).trans rfl
              have bf8 := blk_frozen ME.out.b8 0
              have bl8 := blk_lt ME.out.b8
              gi_wp2_with fail
              have hRR := MR.out.trans (RnB.of ((Rn.refl (fun t => t = 167 ∨ t = 124 ∨ t = 9) wr).set ME.out.b8 (by decide) 0 (.slice An n cn)))
              refine ⟨hRR.k, hRR.t, ?_, H6.out.keep (.inr (.inr rfl)) hRR.t, Nat.le_trans h7 hRR.t.size⟩
              have hE : befV vals (k + 1) = .slice An n cn := by
                show vals k = _
                rw [HVK.out.1, HLN.out]
              rw [hE, HBS.out]
              exact (ME.out.mono (by omega)).setBef (.slice An n cn)
  · have h0' : (oe != 0) = true := by simp [h0]
    have HN := Aside0.mk (show againR first changes = ([], oe) from by unfold againR; rw [if_pos (by rw [hoe]; exact h0), hoe])
    clear h0 hop hoe
    gi_wp2_with fail
    rw [HN.out]
    show ∃ v, _ ∧ _
    refine ⟨.tuple #[.slice none 0 0, .int .i64 oe], by simp [results, Tryz.results26, go_sem], ?_⟩
    exact ⟨_, rfl, Kd.R_nil _ _ _ _ _, below_alloc HB2.out _⟩
end Go.Proofs.YtdjlfdbnmnjccaaGreat.St
end
section
set_option linter.unusedVariables false
set_option linter.unusedSimpArgs false
namespace Go.Proofs.YtdjlfdbnmnjccaaGreat.St
open Go.RowKit Go.Shelf Go.Proofs.YtdjlfdbnmnjccaaGreatW.PrintWords Go.Proofs.YtdjlfdbnmnjccaaGreatW.PrintLast Go.Proofs.YtdjlfdbnmnjccaaGreatW.PrintMore
def street_Again.f (l0_0 : List ByteArray) (l0_1 : List S60) : Option (List ByteArray × Int) := some (againR l0_0 l0_1)
theorem street_Again.calls (A0_0 : Option Addr) (c0_0 : Nat) (l0_0 : List ByteArray) (A0_1 : Option Addr) (c0_1 : Nat) (l0_1 : List S60) (r_0 : List ByteArray) (r_1 : Int) (w : World) (hr0_0 : Kd.C Kd.string w A0_0 l0_0.length l0_0) (hc0_0 : l0_0.length ≤ c0_0) (hr0_1 : Kd.C k60 w A0_1 l0_1.length l0_1) (hc0_1 : l0_1.length ≤ c0_1) (h : street_Again.f l0_0 l0_1 = some (r_0, r_1)) :
    Calls Tryz.prog 26 #[.agg #[.slice A0_0 l0_0.length c0_0, .slice A0_1 l0_1.length c0_1]] w fun e w' => ∃ v0_ : Value, e = .returned (.tuple #[v0_, .int .i64 r_1]) ∧ Kd.R Kd.string 9 w' w.heap.size (fun _ => True) v0_ r_0 ∧ Below w.heap.size w w' := by
  have e := Option.some.inj h
  have h0 : (againR l0_0 l0_1).1 = r_0 := by rw [e]
  have h1 : (againR l0_0 l0_1).2 = r_1 := by rw [e]
  have := again_any A0_0 c0_0 l0_0 A0_1 c0_1 l0_1 w hr0_0 hc0_0 hr0_1 hc0_1
  rwa [h0, h1] at this
end Go.Proofs.YtdjlfdbnmnjccaaGreat.St
end
section
namespace Go.Proofs.YtdjlfdbnmnjccaaGreat.St
open Go.RowKit Go.Proofs.YtdjlfdbnmnjccaaGreatW.PrintWords Go.Proofs.YtdjlfdbnmnjccaaGreatW.PrintLast Go.Proofs.YtdjlfdbnmnjccaaGreatW.PrintMore
attribute [local go_sem] max2_int min2_int max_two min_two max_three min_three max_four min_four
set_option linter.unusedVariables false
set_option linter.unusedSimpArgs false
def street_numbers.l0 : Nat → List Int → List Bool → Int → Int → Option (List Int)
  | 0, _, _, _, _ => none
  | k + 1, x2, x5, x6, x7 => if x7 < x6 then (if 0 ≤ x7 then (if x7 < (x5.length : Int) then (if rdOf false x5 x7 = true then (if x2.length < 17592186044416 then (street_numbers.l0 k (x2 ++ [x7]) x5 x6 (wrap64 (x7 + 1))) else (none)) else (street_numbers.l0 k x2 x5 x6 (wrap64 (x7 + 1)))) else (none)) else (none)) else (some x2)
def street_numbers.f (k : Nat) (l0 : List Bool) : Option (List Int) := street_numbers.l0 k ([] : List Int) l0 (l0.length : Int) 0
theorem street_numbers.mono_l : ∀ k, (∀ y0 y1 y2 y3, LeO (street_numbers.l0 k y0 y1 y2 y3) (street_numbers.l0 (k + 1) y0 y1 y2 y3))
  | 0 => fun _ _ _ _ r h => by simp [street_numbers.l0] at h
  | k + 1 => by
    have ih0 := street_numbers.mono_l k
    · intro y0 y1 y2 y3
      unfold street_numbers.l0
      repeat' first
      | (with_reducible exact ih0 _ _ _ _)
      | (with_reducible exact LeO.refl _)
      | (with_reducible exact LeO.none _)
      | (with_reducible refine LeO.ite ?_ ?_)
      | (with_reducible refine LeO.bind ?_ (fun _ => ?_))
      | exact ih0 _ _ _ _
      | exact LeO.none _
      | refine LeO.ite ?_ ?_
      | refine LeO.bind ?_ (fun _ => ?_)
theorem street_numbers.mono : ∀ a0 k, LeO (street_numbers.f k a0) (street_numbers.f (k + 1) a0) := by
  intro a0 k
  have ih0 := street_numbers.mono_l k
  unfold street_numbers.f
  repeat' first
      | (with_reducible exact ih0 _ _ _ _)
      | (with_reducible exact LeO.refl _)
      | (with_reducible exact LeO.none _)
      | (with_reducible refine LeO.ite ?_ ?_)
      | (with_reducible refine LeO.bind ?_ (fun _ => ?_))
      | exact ih0 _ _ _ _
      | exact LeO.none _
      | refine LeO.ite ?_ ?_
      | refine LeO.bind ?_ (fun _ => ?_)
set_option maxHeartbeats 8000000 in
set_option maxRecDepth 100000 in
theorem street_numbers.calls (k : Nat) (A0 : Option Addr) (c0 : Nat) (l0 : List Bool) (r : List Int) (w : World) (hr0 : Kd.C Kd.bool w A0 l0.length l0) (hc0 : l0.length ≤ c0) (h : street_numbers.f k l0 = some r) :
    Calls Tryz.prog 84 #[.slice A0 l0.length c0] w fun e w' => ∃ v0_ : Value, e = .returned (v0_) ∧ Kd.R (Kd.int .i64) 3 w' w.heap.size (fun _ => True) v0_ r ∧ Below w.heap.size w w' := by
  have HR0 := Aside0.mk hr0
  have HC0 := Aside0.mk hc0
  clear hr0 hc0
  have HB := Aside0.mk (Below.refl w.heap.size w)
  have H : (street_numbers.l0 k ([] : List Int) l0 (l0.length : Int) 0) = some r := h
  clear h
  have H' := Aside0.mk H
  clear H
  go_enter Tryz.func84, Tryz.ntmps84
  go_wp2
  go_loopg [2, 7] k (fun kq v2 v7 w' => ∃ (x2_1 : List Int) (x7_1 : Int), v7 = .int .i64 x7_1 ∧ Aside0 (street_numbers.l0 kq x2_1 l0 (l0.length : Int) x7_1 = some r) ∧ Aside0 (kq ≤ k) ∧ Aside0 (Kd.R (Kd.int .i64) 3 w' w.heap.size (fun _ => True) v2 x2_1) ∧ Aside0 (Below w.heap.size w w'))
  case atStart => exact ⟨(([] : List Int)), (0), (by first | rfl | (simp; done) | (simp [*]; done)), H', ⟨Nat.le_refl _⟩, ⟨by first | exact Kd.R_nil _ _ _ _ _ | exact Kd.N_nil _ _ _ _ _ | exact Kd.V_nil _ _ _ _ _ | exact Kd.Q_nil _ _ _ _ _ | exact Kd.S_nil _ _ _ _ _⟩, ⟨by repeat (first | (with_reducible first | exact HB.out | apply below_alloc | apply pw_below_drewN | apply below_drew1) | exact HB.out)⟩⟩
  case round =>
    clear H'
    obtain ⟨x2_1, x7_1, rfl, HA, HK1, HO_2, HB⟩ := hrel
    cases gk with
    | zero => exact absurd HA.out (by simp [street_numbers.l0])
    | succ k1 =>
      have H := HA.out
      clear HA
      simp only [street_numbers.l0] at H
      by_cases c2 : x7_1 < (l0.length : Int)
      · rw [if_pos c2] at H
        have c2b0 : decide (x7_1 < (l0.length : Int)) = true := decide_eq_true c2
        clear c2
        by_cases c3 : 0 ≤ x7_1
        · rw [if_pos c3] at H
          have c3b0 : decide (0 ≤ x7_1) = true := decide_eq_true c3
          clear c3
          by_cases c4 : x7_1 < (l0.length : Int)
          · rw [if_pos c4] at H
            have c4b0 : decide (x7_1 < (l0.length : Int)) = true := decide_eq_true c4
            clear c4
            obtain ⟨bq5, hbq5⟩ : ∃ b_ : Bool, b_ = (rdOf false l0 x7_1) := ⟨_, rfl⟩
            replace H : (if bq5 = true then (if x2_1.length < 17592186044416 then (street_numbers.l0 k1 (x2_1 ++ [x7_1]) l0 (l0.length : Int) (wrap64 (x7_1 + 1))) else (none)) else (street_numbers.l0 k1 x2_1 l0 (l0.length : Int) (wrap64 (x7_1 + 1)))) = some r := by rw [← hbq5] at H; exact H
            have Nbq5 := Aside0.mk hbq5
            clear hbq5
            by_cases c6 : bq5 = true
            · subst c6
              have H1 : (if x2_1.length < 17592186044416 then (street_numbers.l0 k1 (x2_1 ++ [x7_1]) l0 (l0.length : Int) (wrap64 (x7_1 + 1))) else (none)) = some r := by rw [if_pos rfl] at H; exact H
              clear H
              have H := H1
              clear H1
              by_cases c7 : x2_1.length < 17592186044416
              · rw [if_pos c7] at H
                have LMc7 := Aside0.mk c7
                clear c7
                obtain ⟨y279, hy279⟩ : ∃ y_ : List Int, y_ = (x2_1 ++ [x7_1]) := ⟨_, rfl⟩
                replace H : (street_numbers.l0 k1 y279 l0 (l0.length : Int) (wrap64 (x7_1 + 1))) = some r := by first | (rw [hy279]; with_reducible exact H) | (have H2_ := (Option.bind_some _ _).symm.trans H; rw [hy279]; with_reducible exact H2_) | (have H2_ := (Option.bind_some _ _).symm.trans H; with_reducible exact H2_) | with_reducible exact H | (rw [hy279]; exact H) | exact H
                have Ny279 := Aside0.mk hy279
                clear hy279
                have H' := Aside0.mk H
                clear H
                have p278 : 0 ≤ (x7_1 : Int) := of_decide_eq_true (by first | (with_reducible assumption) | assumption)
                have q278 : x7_1 < (l0.length : Int) := of_decide_eq_true (by first | (with_reducible assumption) | assumption)
                obtain ⟨ad278, e278, hx278_0⟩ := Kd.at_bool HR0.out x7_1 p278 q278
                (try rw [← Nbq5.out] at hx278_0)
                cases e278
                replace hx278_0 := (HB.out.cell (World.block_lt_of_cell? w _ hx278_0)).trans hx278_0
                replace p278 := eq_true p278
                replace q278 := eq_true q278
                go_wp2_with (first | ((with_reducible refine gate_builtin (b := .append) (xs := #[.tmp 13, .tmp 15]) rfl ?_); at_builtin; refine Kd.R_append (Kd.int .i64) (w0 := w) w.heap.size rfl (.tmp 13) (.tmp 15) 31 3 (.int .i64 0) 8 rfl Tryz.underlying31 info3 rfl (by decide) (by omega) u2 x2_1 x7_1 [.int .i64 x7_1] (fun _ => True) (fun _ => False) rfl rfl ?aP (fun _ hk => hk.elim) ?aF ?aO ?aB ?aS ?aL ?_; (case aP => exact rfl); (case aB => exact (by repeat (first | (with_reducible first | exact HB.out | apply below_alloc | apply pw_below_drewN | apply below_drew1) | exact HB.out))); (case aF => exact (fun _ _ => trivial)); (case aO => exact (by (with_reducible repeat (first | apply Kd.R_alloc | apply Kd.R_drewN | apply Kd.R_drew)); exact HO_2.out)); (case aS => exact (below_size (by repeat (first | (with_reducible first | exact HB.out | apply below_alloc | apply pw_below_drewN | apply below_drew1) | exact HB.out)))); (case aL => have := LMc7.out; omega); intro v280 w8 ho hb hg hat; rw [← Ny279.out] at ho; have n0_ := Aside0.mk (hb); have n1_ := Aside0.mk (ho); clear HB; clear HO_2; have HB := n0_; have HO281 := n1_; clear n0_ n1_; clear ho hb hg hat))
                go_roundg k1
                case measure => have := HK1.out; omega
                case rel => exact ⟨(y279), (wrap64 (x7_1 + 1)), (by first | rfl | (simp; done) | (simp [*]; done)), H', ⟨by have := HK1.out; omega⟩, ⟨by (with_reducible repeat (first | apply Kd.R_alloc | apply Kd.R_drewN | apply Kd.R_drew)); exact HO281.out⟩, ⟨by repeat (first | (with_reducible first | exact HB.out | apply below_alloc | apply pw_below_drewN | apply below_drew1) | exact HB.out)⟩⟩
              · rw [if_neg c7] at H
                exact absurd H (by simp)
            · replace c6 := Bool.eq_false_iff.mpr c6
              subst c6
              have H1 : (street_numbers.l0 k1 x2_1 l0 (l0.length : Int) (wrap64 (x7_1 + 1))) = some r := by rw [if_neg (show ¬ (false = true) by decide)] at H; exact H
              clear H
              have H := H1
              clear H1
              have H' := Aside0.mk H
              clear H
              have p278 : 0 ≤ (x7_1 : Int) := of_decide_eq_true (by first | (with_reducible assumption) | assumption)
              have q278 : x7_1 < (l0.length : Int) := of_decide_eq_true (by first | (with_reducible assumption) | assumption)
              obtain ⟨ad278, e278, hx278_0⟩ := Kd.at_bool HR0.out x7_1 p278 q278
              (try rw [← Nbq5.out] at hx278_0)
              cases e278
              replace hx278_0 := (HB.out.cell (World.block_lt_of_cell? w _ hx278_0)).trans hx278_0
              replace p278 := eq_true p278
              replace q278 := eq_true q278
              go_wp2
              go_roundg k1
              case measure => have := HK1.out; omega
              case rel => exact ⟨(x2_1), (wrap64 (x7_1 + 1)), (by first | rfl | (simp; done) | (simp [*]; done)), H', ⟨by have := HK1.out; omega⟩, ⟨by (with_reducible repeat (first | apply Kd.R_alloc | apply Kd.R_drewN | apply Kd.R_drew)); exact HO_2.out⟩, ⟨by repeat (first | (with_reducible first | exact HB.out | apply below_alloc | apply pw_below_drewN | apply below_drew1) | exact HB.out)⟩⟩
          · rw [if_neg c4] at H
            exact absurd H (by simp)
        · rw [if_neg c3] at H
          exact absurd H (by simp)
      · rw [if_neg c2] at H
        have c2b0 : decide (x7_1 < (l0.length : Int)) = false := decide_eq_false c2
        clear c2
        obtain rfl := Option.some.inj H
        go_wp2
        go_ret
        exact ⟨_, by first | rfl | (simp [errW_none, errW_some] <;> rfl) | (simp [*, errW_none, errW_some] <;> rfl), by (with_reducible repeat (first | apply Kd.R_alloc | apply Kd.R_drewN | apply Kd.R_drew)); exact HO_2.out, by repeat (first | (with_reducible first | exact HB.out | apply below_alloc | apply pw_below_drewN | apply below_drew1) | exact HB.out)⟩
end Go.Proofs.YtdjlfdbnmnjccaaGreat.St
end
