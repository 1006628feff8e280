/- A part of the proof of LClashes: lemmas that hold without conditions. -/
import Derived.ArgAppend
import Derived.Deep.RegionLaw
import Derived.Maps.AppendAt
import Derived.Test.YtdjlfdbnmnjccaaGreatC1M12
set_option linter.all false
set_option linter.unusedSectionVars false
section
set_option linter.unusedVariables false
set_option linter.unusedSimpArgs false
namespace Go.Proofs.YtdjlfdbnmnjccaaGreat.St
open Go.Sort hiding rd
open Go.RowKit Go.Shelf Go.Proofs.YtdjlfdbnmnjccaaGreatW.PrintWords Go.Proofs.YtdjlfdbnmnjccaaGreatW.PrintLast Go.Proofs.YtdjlfdbnmnjccaaGreatW.PrintMore
theorem cells_row {W : World} {ad : Addr} {zs : List S60} (h : Kd.C k60 W (some ad) zs.length zs) : ∀ (j : Nat) (u : Value), (rowC zs)[j]? = some u → W.cell? (ad.add j) = some u := by
  intro j u hj
  have hl : j < (rowC zs).length := (List.getElem?_eq_some_iff.1 hj).1
  rw [rowC_len] at hl
  have h3 : j / 3 < zs.length := by omega
  obtain ⟨ad2, c, e, _, hK, hc0⟩ := Kd.C_get h z60 ((j / 3 : Nat) : Int) (by omega) (by omega)
  cases e
  have hc : ∀ j' u, c[j']? = some u → W.cell? (ad.add (((j / 3 : Nat) : Int).toNat * 3 + j')) = some u := hc0
  rw [Int.toNat_natCast] at hc
  have hg := rowC_get zs (j / 3) (j % 3) h3 (by omega)
  rw [show j / 3 * 3 + j % 3 = j by omega] at hg
  rw [hg] at hj
  have hce := k60_open hK
  have e2 : zs.getD ((j / 3 : Nat) : Int).toNat z60 = zs[j / 3] := by rw [Int.toNat_natCast, List.getD_eq_getElem?_getD, List.getElem?_eq_getElem h3, Option.getD_some]
  rw [e2] at hce
  have := hc (j % 3) u (by rw [hce]; exact hj)
  rwa [show j / 3 * 3 + j % 3 = j by omega] at this
theorem step_append_run {P : Program} {ops : Array Oper} {o : Oper} {a : Act} {w : World} {K : Act → World → Prop} {Q : Exit → Act → World → Prop} {E : Prop}
    (hg : o.guard = none) (s x : Operand) (t : TypeId) (hop : o.op = Op.call { callee := Callee.builtin Builtin.append, args := #[s, x], argTypes := #[t, t] })
    (v xv : Value) (hs : a.eval s = v) (hx : a.eval x = xv) (v' : Value) (w' : World) (hrun : (Builtin.append_ #[t, t] o.type #[v, xv]).run P w = .ok v' w') (hK : K (a.put o.dst v') w') :
    if Region.wanted o (yielded ops a.tmps) = true then Oper.wp P o a w K Q else E := by
  have hw : Region.wanted o (yielded ops a.tmps) = true := by simp [Region.wanted, hg]
  rw [if_pos hw]
  unfold Oper.wp
  simp [execOp, hop, resolve, invoke, builtin, hs, hx, hrun, Result.andThen]
  exact hK
theorem appendC_run (A : Option Addr) (zs : List S60) (x : S60) (W : World) (hr : Kd.C k60 W A zs.length zs) (hsm : zs.length < 1000) (b : Addr)
    (hnews : ∀ j u, (cellsC x)[j]? = some u → W.cell? (b.add j) = some u) :
    ∃ v' w', (Builtin.append_ #[23, 23] 23 #[.slice A zs.length zs.length, .slice (some b) 1 1]).run Tryz.prog W = .ok v' w' ∧
      Kd.R k60 60 w' W.heap.size (fun _ => True) v' (zs ++ [x]) ∧ Below W.heap.size W w' := by
  obtain ⟨i0, hi, hz0, hz1, hz2⟩ := info_parts info60
  have hfin : ∀ v' w', w'.ownsRow W.heap.size 60 3 v' (zs.length + 1) (rowC zs ++ cellsC x) → Kd.R k60 60 w' W.heap.size (fun _ => True) v' (zs ++ [x]) := fun v' w' h => by
    refine ownC_R ?_
    rw [rowC_snoc, List.length_append]
    exact h
  have hgb : ∀ w' (o : Option Nat), o = none → W.grownBy w' o → Below W.heap.size W w' := fun w' o ho hg => by subst ho; exact (Below.refl _ W).grown hg (Nat.le_refl _) (fun j hj => by cases hj)
  cases zs with
  | nil =>
    cases A with
    | none =>
      obtain ⟨v', w', hrun, hown, hg, _, _⟩ := run_append_own_at (P := Tryz.prog) W W.heap.size 23 23 60 i0 _ 3 32 Tryz.underlying23 hi hz0 hz1 hz2 rfl (by decide) (.slice none 0 0) 0 [] (World.ownsRow_nil _ _ _ _) b 1 1 (cellsC x) rfl hnews (cellsC_one x) (by unfold maxLen; omega) (by omega) (Nat.le_refl _)
      exact ⟨v', w', hrun, hfin v' w' hown, hgb w' _ rfl hg⟩
    | some ad =>
      obtain ⟨v', w', hrun, hown, hg⟩ := run_append_arg_grows (P := Tryz.prog) (w := W) 23 23 60 i0 _ 3 32 Tryz.underlying23 hi hz0 hz1 hz2 rfl (by decide) ad 0 0 [] rfl (by simp) b 1 1 (cellsC x) rfl hnews (by omega) (by unfold maxLen; omega) (by omega)
      exact ⟨v', w', hrun, hfin v' w' hown, hgb w' _ rfl hg⟩
  | cons z zs =>
    obtain ⟨ad, rfl, _⟩ := at_T60 hr 0 (Int.le_refl 0) (by simp)
    obtain ⟨v', w', hrun, hown, hg⟩ := run_append_arg_grows (P := Tryz.prog) (w := W) 23 23 60 i0 _ 3 32 Tryz.underlying23 hi hz0 hz1 hz2 rfl (by decide) ad (z :: zs).length (z :: zs).length (rowC (z :: zs)) (rowC_len _) (cells_row hr) b 1 1 (cellsC x) rfl hnews (by omega) (by unfold maxLen; omega) (by omega)
    exact ⟨v', w', hrun, hfin v' w' hown, hgb w' _ rfl hg⟩
end Go.Proofs.YtdjlfdbnmnjccaaGreat.St
end
section
set_option linter.unusedVariables false
set_option linter.unusedSimpArgs false
namespace Go.Proofs.YtdjlfdbnmnjccaaGreat.St
open Go.Sort hiding rd
open Go.RowKit Go.Shelf Go.Proofs.YtdjlfdbnmnjccaaGreatW.PrintWords Go.Proofs.YtdjlfdbnmnjccaaGreatW.PrintLast Go.Proofs.YtdjlfdbnmnjccaaGreatW.PrintMore
def changedR (first : List ByteArray) (changes : List S60) (l : List S62) (c : S60) : List Int × Int :=
  if openE first changes ≠ 0 then ([], openE first changes)
  else if (mustR first.length (pagesOf first changes) l).2.2 ≠ 0 then ([], (mustR first.length (pagesOf first changes) l).2.2)
  else if 8 ≤ changes.length then ([], 8)
  else if isChangeB c first.length = false then ([], 2)
  else if openE first (changes ++ [c]) ≠ 0 then ([], openE first (changes ++ [c]))
  else ((mustR first.length (pagesOf first (changes ++ [c])) l).2.1.filter (fun i => !((mustR first.length (pagesOf first changes) l).2.1.any fun j => decide (i = j))), 0)
theorem mustR_small (n : Int) (ps : List S167) (l : List S62) : (mustR n ps l).2.1.length < 100 := by
  unfold mustR
  split
  · simp
  · split
    · simp
    · have := wrongTo_len ps l l.length
      show (wrongTo ps l l.length).length < 100
      omega
set_option maxHeartbeats 8000000 in
set_option maxRecDepth 100000 in
theorem changed_any (A0 : Option Addr) (c0 : Nat) (first : List ByteArray) (A1 : Option Addr) (c1 : Nat) (changes : List S60) (Al : Option Addr) (cl : Nat) (l : List S62) (c : S60) (w : World)
    (hr0 : Kd.C Kd.string w A0 first.length first) (hc0 : first.length ≤ c0) (hr1 : Kd.C k60 w A1 changes.length changes) (hc1 : changes.length ≤ c1) (hrl : Kd.C k62 w Al l.length l) :
    Calls Tryz.prog 32 #[.agg #[.slice A0 first.length c0, .slice A1 changes.length c1], .slice Al l.length cl, .agg #[.int .i64 c.f0, .int .i64 c.f1, .string c.f2]] w fun e w' =>
      ∃ v0 : Value, e = .returned (.tuple #[v0, .int .i64 (changedR first changes l c).2]) ∧ Kd.R (Kd.int .i64) 3 w' w.heap.size (fun _ => True) v0 (changedR first changes l c).1 ∧ Below w.heap.size w w' := by
  have HOP := Aside0.mk (fun (W : World) (hb : Below w.heap.size w W) => open_any A0 c0 first A1 c1 changes W (Kd.C_below hr0 hb) hc0 (Kd.C_below hr1 hb) hc1)
  have HR0 := Aside0.mk hr0
  have HR1 := Aside0.mk hr1
  have HRL := Aside0.mk hrl
  have eg := Aside0.mk (enters_of Tryz.func81 (by kernel_rfl) rfl)
  clear hr0 hr1 hrl
  go_enter Tryz.func32, Tryz.ntmps32
  go_wp2_with fail
  obtain ⟨W1, hW1⟩ : ∃ W1, (w.alloc (.cells #[.slice A0 first.length c0, .slice A1 changes.length c1] 25)).alloc (.cells #[.int .i64 c.f0, .int .i64 c.f1, .string c.f2] 60) = W1 := ⟨_, rfl⟩
  have hb1 : Below w.heap.size w W1 := by rw [← hW1]; exact below_alloc (below_alloc (Below.refl _ _) _) _
  have hbt : W1.heap[w.heap.size]? = some (.cells #[.slice A0 first.length c0, .slice A1 changes.length c1] 25 (0, 0)) := by rw [← hW1]; exact blk_alloc (blk_new w _) _
  have hbc : W1.heap[w.heap.size + 1]? = some (.cells #[.int .i64 c.f0, .int .i64 c.f1, .string c.f2] 60 (0, 0)) := by
    rw [← hW1]
    have := blk_new (w.alloc (.cells #[.slice A0 first.length c0, .slice A1 changes.length c1] 25)) (.cells #[.int .i64 c.f0, .int .i64 c.f1, .string c.f2] 60)
    rwa [World.size_alloc] at this
  rw [hW1]
  clear hW1
  refine (HOP.out W1 hb1).mono ?_
  rintro e w2 ⟨B0, n0, d0, B1, n1, d1, Bp, np, dp, rfl, hop, hb⟩
  obtain ⟨oe, hoe⟩ : ∃ oe, openE first changes = oe := ⟨_, rfl⟩
  rw [hoe]
  have HB2 := Aside0.mk (below_from hb1 hb)
  have BT2 := Aside0.mk (blk_below hbt hb)
  have BC2 := Aside0.mk (blk_below hbc hb)
  have HS := Aside0.mk hb1.size
  clear hb hb1 hbt hbc HOP
  by_cases h0 : oe = 0
  · subst h0
    obtain ⟨e0, e1, hp⟩ := hop hoe
    rw [e0, e1]
    clear e0 e1 hop
    have HP2 := Aside0.mk (Kd.R_lower hp HS.out)
    have HOE := Aside0.mk hoe
    obtain ⟨hf1, hf2, _⟩ := check_ok (open_zero hoe).1
    clear hp hoe HS
    obtain ⟨Aq, cq, hsl⟩ := Kd.R_slice HP2.out
    cases hsl
    obtain ⟨W3, hW3⟩ : ∃ W3, w2.alloc (.cells #[.slice A0 first.length c0, .slice A1 changes.length c1, .slice Bp (bookOf first changes).1.length dp] 124) = W3 := ⟨_, rfl⟩
    have HB3 := Aside0.mk (show Below w.heap.size w W3 from by rw [← hW3]; exact below_alloc HB2.out _)
    have BT3 := Aside0.mk (show W3.heap[w.heap.size]? = some (.cells #[.slice A0 first.length c0, .slice A1 changes.length c1] 25 (0, 0)) from by rw [← hW3]; exact blk_alloc BT2.out _)
    have BC3 := Aside0.mk (show W3.heap[w.heap.size + 1]? = some (.cells #[.int .i64 c.f0, .int .i64 c.f1, .string c.f2] 60 (0, 0)) from by rw [← hW3]; exact blk_alloc BC2.out _)
    have BB3 := Aside0.mk (show W3.heap[w2.heap.size]? = some (.cells #[.slice A0 first.length c0, .slice A1 changes.length c1, .slice Bp (bookOf first changes).1.length dp] 124 (0, 0)) from by rw [← hW3]; exact blk_new w2 _)
    have HP3 := Aside0.mk (show Kd.R k167 167 W3 w.heap.size (fun _ => True) (.slice Bp (bookOf first changes).1.length dp) (bookOf first changes).1 from by rw [← hW3]; exact Kd.R_alloc HP2.out _)
    have HMU := Aside0.mk (must_any A0 first.length c0 (.slice A1 changes.length c1) Bp dp (pagesOf first changes) Al cl l W3 ⟨_, _, _, rfl⟩ (Kd.R_reads' HP3.out).2.2 (pages_ok HOE.out) hf2 (Kd.C_below HRL.out HB3.out))
    clear HB2 HP2 BT2 BC2
    obtain ⟨⟨z0, z1, z2⟩, _, zl⟩ := blk3 BB3.out
    obtain ⟨m, hm⟩ : ∃ m, mustR first.length (pagesOf first changes) l = m := ⟨_, rfl⟩
    have HMM := Aside0.mk hm
    have HMS := Aside0.mk (show m.2.1.length < 100 from by rw [← hm]; exact mustR_small _ _ _)
    rw [hm] at HMU
    clear hm
    obtain ⟨m1, m2, m3⟩ := m
    dsimp only at HMU HMS
    go_wp2_with fail
    clear hW3
    refine HMU.out.mono ?_
    rintro e w4 ⟨v0, v1, rfl, hv0, hv1, hb⟩
    obtain ⟨Aw, cw, rfl⟩ := Kd.R_slice hv1
    obtain ⟨W5, hW5⟩ : ∃ W5, w4.alloc (.cells #[.slice Aw m2.length cw] 31) = W5 := ⟨_, rfl⟩
    have HB5 := Aside0.mk (show Below w.heap.size w W5 from by rw [← hW5]; exact below_alloc (below_from HB3.out hb) _)
    have BT5 := Aside0.mk (show W5.heap[w.heap.size]? = some (.cells #[.slice A0 first.length c0, .slice A1 changes.length c1] 25 (0, 0)) from by rw [← hW5]; exact blk_alloc (blk_below BT3.out hb) _)
    have BC5 := Aside0.mk (show W5.heap[w.heap.size + 1]? = some (.cells #[.int .i64 c.f0, .int .i64 c.f1, .string c.f2] 60 (0, 0)) from by rw [← hW5]; exact blk_alloc (blk_below BC3.out hb) _)
    have BW5 := Aside0.mk (show W5.heap[w4.heap.size]? = some (.cells #[.slice Aw m2.length cw] 31 (0, 0)) from by rw [← hW5]; exact blk_new w4 _)
    have HW5 := Aside0.mk (show Kd.R (Kd.int .i64) 3 W5 w.heap.size (fun _ => True) (.slice Aw m2.length cw) m2 from by rw [← hW5]; exact Kd.R_alloc (Kd.R_mono (Kd.R_lower hv1 HB3.out.size) (ok' := fun _ => True) (fun _ _ => trivial)) _)
    clear hv0 hv1 hb z0 z1 z2 zl HMU HB3 BT3 BC3 BB3 HP3
    obtain ⟨t0, t1, t2⟩ := blk2 BT5.out
    obtain ⟨⟨y0, y1, y2⟩, _, yl⟩ := blk3 BC5.out
    by_cases hm3 : m3 = 0
    · subst hm3
      by_cases h8 : 8 ≤ changes.length
      · have h8z : (8 : Int) ≤ (changes.length : Int) := by omega
        have HN := Aside0.mk (show changedR first changes l c = ([], 8) from by unfold changedR; rw [if_neg (by rw [HOE.out]; simp), HMM.out, if_neg (by simp), if_pos h8])
        clear h8
        go_wp2_with fail
        rw [HN.out]
        refine bodyPost_ret (v := .tuple #[.slice none 0 0, .int .i64 8]) (by simp [results, Tryz.results32, go_sem]) rfl ?_
        exact ⟨_, rfl, Kd.R_nil _ _ _ _ _, HB5.out⟩
      · have h8z : ¬ (8 : Int) ≤ (changes.length : Int) := by omega
        have hl8 : changes.length < 8 := by omega
        have HCH := Aside0.mk (isChange_any c first.length (by omega) W5)
        obtain ⟨b, hbb⟩ : ∃ b, isChangeB c first.length = b := ⟨_, rfl⟩
        rw [hbb] at HCH
        go_wp2_with fail
        clear hW5
        refine HCH.out.mono ?_
        rintro e w6 ⟨rfl, hb⟩
        have HB6 := Aside0.mk (below_from HB5.out hb)
        have BT6 := Aside0.mk (blk_below BT5.out hb)
        have BC6 := Aside0.mk (blk_below BC5.out hb)
        have BW6 := Aside0.mk (blk_below BW5.out hb)
        have HW6 := Aside0.mk (Kd.R_below HW5.out hb)
        clear hb t0 t1 t2 y0 y1 y2 yl HCH HB5 BT5 BC5 BW5 HW5
        cases b with
        | false =>
          have HN := Aside0.mk (show changedR first changes l c = ([], 2) from by unfold changedR; rw [if_neg (by rw [HOE.out]; simp), HMM.out, if_neg (by simp), if_neg h8, if_pos hbb])
          clear hbb
          go_wp2_with fail
          rw [HN.out]
          refine bodyPost_ret (v := .tuple #[.slice none 0 0, .int .i64 2]) (by simp [results, Tryz.results32, go_sem]) rfl ?_
          exact ⟨_, rfl, Kd.R_nil _ _ _ _ _, HB6.out⟩
        | true =>
          have HN := Aside0.mk (show changedR first changes l c = if openE first (changes ++ [c]) ≠ 0 then ([], openE first (changes ++ [c])) else ((mustR first.length (pagesOf first (changes ++ [c])) l).2.1.filter (fun i => !(m2.any fun j => decide (i = j))), 0) from by
            unfold changedR; rw [if_neg (by rw [HOE.out]; simp), HMM.out, if_neg (by simp), if_neg h8, if_neg (by rw [hbb]; simp)])
          clear hbb h8
          obtain ⟨t0, t1, t2⟩ := blk2 BT6.out
          obtain ⟨⟨y0, y1, y2⟩, _, yl⟩ := blk3 BC6.out
          go_wp2_with fail
          have hn7 : ∀ j u, (cellsC c)[j]? = some u → (w6.drew.alloc (.cells #[.int .i64 c.f0, .int .i64 c.f1, .string c.f2] 60)).cell? ((⟨w6.heap.size, 0, none⟩ : Addr).add j) = some u := by
            intro j u hj
            have hbk := blk_new w6.drew (.cells #[.int .i64 c.f0, .int .i64 c.f1, .string c.f2] 60)
            have hb8 := blk3 hbk
            have hj3 : j < 3 := (List.getElem?_eq_some_iff.1 hj).1
            have hjc : j = 0 ∨ j = 1 ∨ j = 2 := by omega
            rcases hjc with rfl | rfl | rfl <;> simp [cellsC] at hj <;> subst hj
            · exact hb8.1.1
            · exact hb8.1.2.1
            · exact hb8.1.2.2
          obtain ⟨v7, w7, hrun, hR7, hb7⟩ := appendC_run A1 changes c (w6.drew.alloc (.cells #[.int .i64 c.f0, .int .i64 c.f1, .string c.f2] 60)) (Kd.C_alloc (Kd.C_drew (Kd.C_below HR1.out HB6.out)) _) (by omega) ⟨w6.heap.size, 0, none⟩ hn7
          have HB7 := Aside0.mk (show Below w.heap.size w w7 from below_from (below_alloc (below_drew HB6.out) _) hb7)
          have BT7 := Aside0.mk (blk_below (blk_alloc (blk_drew BT6.out) _) hb7)
          have BW7 := Aside0.mk (blk_below (blk_alloc (blk_drew BW6.out) _) hb7)
          have HW7 := Aside0.mk (Kd.R_below (Kd.R_alloc (Kd.R_drew HW6.out) _) hb7)
          have HR7 := Aside0.mk (Kd.R_lower hR7 (below_alloc (below_drew HB6.out) (.cells #[.int .i64 c.f0, .int .i64 c.f1, .string c.f2] 60)).size)
          obtain ⟨ch2, hch2⟩ : ∃ ch2, changes ++ [c] = ch2 := ⟨_, rfl⟩
          rw [hch2] at HN HR7
          clear hR7 hb7 hn7 hch2
          obtain ⟨A7, c7, rfl⟩ := Kd.R_slice HR7.out
          obtain ⟨s0, s1, s2⟩ := blk2 BT7.out
          have sf0 := blk_frozen BT7.out 0
          have sf1 := blk_frozen BT7.out 1
          have HRUN := Aside0.mk hrun
          clear hrun
          go_region_law (first | (refine step_append_run rfl (.tmp 49) (.tmp 51) 23 rfl (.slice A1 changes.length changes.length) (.slice (some ⟨w6.heap.size, 0, none⟩) 1 1) ?sa ?sb _ _ HRUN.out ?_; (case sa => rfl); (case sb => rfl)) | (go_simp; go_at_call 79; refine (clip_any A1 changes.length c1 _ hc1 (by omega)).mono ?_; rintro e w' ⟨rfl, rfl⟩))
          all_goals
            obtain ⟨W8, hW8⟩ : ∃ W8, w7.setCell ⟨w.heap.size, 1, none⟩ (.slice A7 ch2.length c7) = W8 := ⟨_, rfl⟩
            have HB8 := Aside0.mk (show Below w.heap.size w W8 from by rw [← hW8]; exact HB7.out.setCell (p := ⟨w.heap.size, 1, none⟩) (Nat.le_refl _) _)
            have BT8 := Aside0.mk (show W8.heap[w.heap.size]? = some (.cells #[.slice A0 first.length c0, .slice A7 ch2.length c7] 25 (0, 0)) from by rw [← hW8]; exact blk_put BT7.out 1 _ rfl)
            have BW8 := Aside0.mk (show W8.heap[w4.heap.size]? = some (.cells #[.slice Aw m2.length cw] 31 (0, 0)) from by rw [← hW8]; exact blk_far BW7.out (p := ⟨w.heap.size, 1, none⟩) (blk_ne BW7.out BT7.out (by decide)) _)
            have HW8 := Aside0.mk (show Kd.R (Kd.int .i64) 3 W8 w.heap.size (fun _ => True) (.slice Aw m2.length cw) m2 from by rw [← hW8]; exact Kd.R_set HW7.out BT7.out (by decide) 1 _)
            have HR8 := Aside0.mk (show Kd.R k60 60 W8 w.heap.size (fun _ => True) (.slice A7 ch2.length c7) ch2 from by rw [← hW8]; exact Kd.R_set HR7.out BT7.out (by decide) 1 _)
            have HOP := Aside0.mk (open_any A0 c0 first A7 c7 ch2 W8 (Kd.C_below HR0.out HB8.out) hc0 (Kd.R_reads' HR8.out).2.2 (Kd.R_reads' HR8.out).2.1)
            clear HB7 BT7 BW7 HW7 HR7 s0 s1 s2 sf0 sf1 t0 t1 t2 y0 y1 y2 yl HRUN BT6 BC6 BW6 HW6 HB6
            obtain ⟨t0, t1, t2⟩ := blk2 BT8.out
            go_wp2_with fail
            clear hW8
            refine HOP.out.mono ?_
            rintro e w9 ⟨B0, n0, d0, B1, n1, d1, Bq, nq, dq, rfl, hop, hb⟩
            obtain ⟨oe, hoe⟩ : ∃ oe, openE first ch2 = oe := ⟨_, rfl⟩
            rw [hoe]
            have HB9 := Aside0.mk (below_from HB8.out hb)
            have BW9 := Aside0.mk (blk_below BW8.out hb)
            have HW9 := Aside0.mk (Kd.R_below HW8.out hb)
            have HS := Aside0.mk HB8.out.size
            clear hb HOP HB8 BT8 BW8 HW8 HR8 t0 t1 t2
            by_cases h0 : oe = 0
            · subst h0
              obtain ⟨e0, e1, hp⟩ := hop hoe
              rw [e0, e1]
              clear e0 e1 hop
              have HP9 := Aside0.mk (Kd.R_lower hp HS.out)
              have HOE2 := Aside0.mk hoe
              clear hp hoe HS
              obtain ⟨Ar, cr, hsl⟩ := Kd.R_slice HP9.out
              cases hsl
              obtain ⟨W10, hW10⟩ : ∃ W10, w9.alloc (.cells #[.slice A0 first.length c0, .slice A7 ch2.length c7, .slice Bq (bookOf first ch2).1.length dq] 124) = W10 := ⟨_, rfl⟩
              have HB10 := Aside0.mk (show Below w.heap.size w W10 from by rw [← hW10]; exact below_alloc HB9.out _)
              have BW10 := Aside0.mk (show W10.heap[w4.heap.size]? = some (.cells #[.slice Aw m2.length cw] 31 (0, 0)) from by rw [← hW10]; exact blk_alloc BW9.out _)
              have HW10 := Aside0.mk (show Kd.R (Kd.int .i64) 3 W10 w.heap.size (fun _ => True) (.slice Aw m2.length cw) m2 from by rw [← hW10]; exact Kd.R_alloc HW9.out _)
              have BB10 := Aside0.mk (show W10.heap[w9.heap.size]? = some (.cells #[.slice A0 first.length c0, .slice A7 ch2.length c7, .slice Bq (bookOf first ch2).1.length dq] 124 (0, 0)) from by rw [← hW10]; exact blk_new w9 _)
              have HP10 := Aside0.mk (show Kd.R k167 167 W10 w.heap.size (fun _ => True) (.slice Bq (bookOf first ch2).1.length dq) (bookOf first ch2).1 from by rw [← hW10]; exact Kd.R_alloc HP9.out _)
              have HMU := Aside0.mk (must_any A0 first.length c0 (.slice A7 ch2.length c7) Bq dq (pagesOf first ch2) Al cl l W10 ⟨_, _, _, rfl⟩ (Kd.R_reads' HP10.out).2.2 (pages_ok HOE2.out) hf2 (Kd.C_below HRL.out HB10.out))
              clear HB9 HP9 BW9 HW9
              obtain ⟨⟨z0, z1, z2⟩, _, zl⟩ := blk3 BB10.out
              have HNN := Aside0.mk (HN.out.trans (if_neg (by rw [HOE2.out]; simp)))
              have HMS2 := Aside0.mk (mustR_small first.length (pagesOf first ch2) l)
              obtain ⟨m', hm'⟩ : ∃ m', mustR first.length (pagesOf first ch2) l = m' := ⟨_, rfl⟩
              rw [hm'] at HMU HNN HMS2
              clear hm' HN
              obtain ⟨p1, p2, p3⟩ := m'
              dsimp only at HMU HNN HMS2
              go_wp2_with fail
              clear hW10
              refine HMU.out.mono ?_
              rintro e w11 ⟨v0', v1', rfl, hv0', hv1', hb⟩
              have HB11 := Aside0.mk hb
              have HV11 := Aside0.mk (Kd.R_mono hv1' (ok' := fun _ => True) (fun _ _ => trivial))
              clear hv0' hv1' hb z0 z1 z2 zl HMU BB10 HP10
              have bwc := (blk_cell BW10.out 0).trans rfl
              have HDE := Aside0.mk (deleteI_any (fun i => m2.any fun j => decide (i = j)) 81 #[.pointer (some ⟨w4.heap.size, 0, none⟩)] eg.out W10.heap.size v1' p2 W10 w11 (fun W x hbW => pred_wrong w4.heap.size Aw cw m2 W10.heap.size W10 (Kd.R_reads' HW10.out).2.2 (by have := HMS.out; omega) (Nat.le_refl _) bwc W x hbW) HV11.out HB11.out HB11.out.size (by have := HMS2.out; omega))
              clear bwc
              go_wp2_with fail
              refine HDE.out.mono ?_
              rintro e w12 ⟨v', rfl, hv', hb⟩
              have HB12 := Aside0.mk (below_weaken HB10.out HB10.out.size (HB11.out.trans hb))
              have HV12 := Aside0.mk (Kd.R_lower hv' HB10.out.size)
              clear hv' hb HDE HV11 HB11 HB10 HW10 BW10
              go_wp2_with fail
              rw [HNN.out]
              refine bodyPost_ret (v := .tuple #[v', .int .i64 0]) (by simp [results, Tryz.results32, go_sem]) rfl ?_
              exact ⟨_, rfl, HV12.out, HB12.out⟩
            · have h0' : (oe != 0) = true := by simp [h0]
              have HNN := Aside0.mk (HN.out.trans (if_pos (by rw [hoe]; exact h0)))
              rw [hoe] at HNN
              clear h0 hop hoe
              go_wp2_with fail
              rw [HNN.out]
              refine bodyPost_ret (v := .tuple #[.slice none 0 0, .int .i64 oe]) (by simp [results, Tryz.results32, go_sem]) rfl ?_
              exact ⟨_, rfl, Kd.R_nil _ _ _ _ _, below_alloc HB9.out _⟩
    · have h3' : (m3 != 0) = true := by simp [hm3]
      have HN := Aside0.mk (show changedR first changes l c = ([], m3) from by unfold changedR; rw [if_neg (by rw [HOE.out]; simp), HMM.out, if_pos hm3])
      clear hm3
      go_wp2_with fail
      rw [HN.out]
      refine bodyPost_ret (v := .tuple #[.slice none 0 0, .int .i64 m3]) (by simp [results, Tryz.results32, go_sem]) rfl ?_
      exact ⟨_, rfl, Kd.R_nil _ _ _ _ _, HB5.out⟩
  · have h0' : (oe != 0) = true := by simp [h0]
    have HN := Aside0.mk (show changedR first changes l c = ([], oe) from by unfold changedR; rw [if_pos (by rw [hoe]; exact h0), hoe])
    clear h0 hop hoe
    go_wp2_with fail
    rw [HN.out]
    refine bodyPost_ret (v := .tuple #[.slice none 0 0, .int .i64 oe]) (by simp [results, Tryz.results32, go_sem]) rfl ?_
    exact ⟨_, rfl, Kd.R_nil _ _ _ _ _, below_alloc HB2.out _⟩
def street_Changed.f (l0_0 : List ByteArray) (l0_1 : List S60) (l1 : List S62) (a2_0 a2_1 : Int) (a2_2 : ByteArray) : Option (List Int × Int) := some (changedR l0_0 l0_1 l1 ⟨a2_0, a2_1, a2_2⟩)
theorem street_Changed.calls (A0_0 : Option Addr) (c0_0 : Nat) (l0_0 : List ByteArray) (A0_1 : Option Addr) (c0_1 : Nat) (l0_1 : List S60) (A1 : Option Addr) (c1 : Nat) (l1 : List S62) (a2_0 a2_1 : Int) (a2_2 : ByteArray) (r_0 : List Int) (r_1 : Int) (w : World) (hr0_0 : Kd.C Kd.string w A0_0 l0_0.length l0_0) (hc0_0 : l0_0.length ≤ c0_0) (hr0_1 : Kd.C k60 w A0_1 l0_1.length l0_1) (hc0_1 : l0_1.length ≤ c0_1) (hr1 : Kd.C k62 w A1 l1.length l1) (hc1 : l1.length ≤ c1) (h : street_Changed.f l0_0 l0_1 l1 a2_0 a2_1 a2_2 = some (r_0, r_1)) :
    Calls Tryz.prog 32 #[.agg #[.slice A0_0 l0_0.length c0_0, .slice A0_1 l0_1.length c0_1], .slice A1 l1.length c1, .agg #[.int .i64 a2_0, .int .i64 a2_1, .string a2_2]] w fun e w' => ∃ v0_ : Value, e = .returned (.tuple #[v0_, .int .i64 r_1]) ∧ Kd.R (Kd.int .i64) 3 w' w.heap.size (fun _ => True) v0_ r_0 ∧ Below w.heap.size w w' := by
  have e := Option.some.inj h
  have h0 : (changedR l0_0 l0_1 l1 ⟨a2_0, a2_1, a2_2⟩).1 = r_0 := by rw [e]
  have h1 : (changedR l0_0 l0_1 l1 ⟨a2_0, a2_1, a2_2⟩).2 = r_1 := by rw [e]
  have := changed_any A0_0 c0_0 l0_0 A0_1 c0_1 l0_1 A1 c1 l1 ⟨a2_0, a2_1, a2_2⟩ w hr0_0 hc0_0 hr0_1 hc0_1 hr1
  rwa [h0, h1] at this
end Go.Proofs.YtdjlfdbnmnjccaaGreat.St
end
section
set_option linter.unusedVariables false
set_option linter.unusedSimpArgs false
namespace Go.Proofs.YtdjlfdbnmnjccaaGreat.St
open Go.Sort hiding rd
open Go.RowKit Go.Shelf Go.Proofs.YtdjlfdbnmnjccaaGreatW.PrintWords Go.Proofs.YtdjlfdbnmnjccaaGreatW.PrintLast Go.Proofs.YtdjlfdbnmnjccaaGreatW.PrintMore
def faultsIn (a b : ByteArray) (i : Int) : Nat → Nat → List Int → Int → List Int
  | 0, _, row, _ => row
  | n + 1, k, row, corner =>
    faultsIn a b i n (k + 1) (row.set (k + 1) (min (min (if bt a i = bt b (k : Int) then corner else corner + 1) (rd row (k : Int) + 1)) (rd row ((k + 1 : Nat) : Int) + 1))) (rd row ((k + 1 : Nat) : Int))
def faultsOut (a b : ByteArray) : Nat → Nat → List Int → List Int
  | 0, _, row => row
  | n + 1, i, row => faultsOut a b n (i + 1) (faultsIn a b i b.size 0 (row.set 0 ((i + 1 : Nat) : Int)) (rd row 0))
def rowStart : List Int := [0, 1, 2, 3, 4, 5, 6, 7, 8, 9, 10]
def faultsV (a b : ByteArray) : Int := rd (faultsOut a b a.size 0 rowStart) (b.size : Int)
def RowAt (W : World) (B : Nat) (row : List Int) : Prop := W.heap[B]? = some (.cells (row.map (Value.int .i64)).toArray 180 (0, 0)) ∧ row.length = 11
theorem RowAt.cell {W : World} {B : Nat} {row : List Int} (h : RowAt W B row) (k : Nat) (hk : k < 11) : W.cell? ⟨B, k, none⟩ = some (.int .i64 (rd row k)) ∧ W.frozen? ⟨B, k, none⟩ = false := by
  refine ⟨(blk_cell h.1 k).trans ?_, blk_frozen h.1 k⟩
  unfold rd
  have : k < row.length := by rw [h.2]; exact hk
  simp [List.getElem?_eq_getElem this, List.getD_eq_getElem?_getD]
theorem RowAt.put {W : World} {B : Nat} {row : List Int} (h : RowAt W B row) (k : Nat) (x : Int) : RowAt (W.setCell ⟨B, k, none⟩ (.int .i64 x)) B (row.set k x) := by
  refine ⟨blk_put h.1 k _ ?_, by rw [List.length_set, h.2]⟩
  simp [List.map_set]
theorem RowAt.lt {W : World} {B : Nat} {row : List Int} (h : RowAt W B row) : B < W.heap.size := blk_lt h.1
def InB (row : List Int) (m : Int) : Prop := ∀ x ∈ row, 0 ≤ x ∧ x ≤ m
theorem InB.rd {row : List Int} {m : Int} (h : InB row m) (hm : 0 ≤ m) (i : Int) : 0 ≤ rd row i ∧ rd row i ≤ m := by
  unfold Go.Proofs.YtdjlfdbnmnjccaaGreatW.PrintWords.rd
  rw [List.getD_eq_getElem?_getD]
  cases he : row[i.toNat]? with
  | none => simp; exact hm
  | some x => exact h x (List.mem_of_getElem? he)
theorem InB.set {row : List Int} {m m' : Int} (h : InB row m) (hm : m ≤ m') (k : Nat) (x : Int) (hx : 0 ≤ x ∧ x ≤ m') : InB (row.set k x) m' := by
  intro y hy
  rcases List.mem_or_eq_of_mem_set hy with hy | rfl
  · have := h y hy; omega
  · exact hx
set_option maxHeartbeats 4000000 in
set_option maxRecDepth 100000 in
theorem faults_any (a b : ByteArray) (ha : a.size ≤ 10) (hb : b.size ≤ 10) (w : World) :
    Calls Tryz.prog 83 #[.string a, .string b] w fun e w' => e = .returned (.int .i64 (faultsV a b)) ∧ Below w.heap.size w w' := by
  go_enter Tryz.func83, Tryz.ntmps83
  go_wp2_with fail
  have HB0 := Aside0.mk (below_alloc (Below.refl w.heap.size w) (.cells (List.map (Value.int .i64) [0, 0, 0, 0, 0, 0, 0, 0, 0, 0, 0]).toArray 180))
  have HR0 := Aside0.mk (show RowAt (w.alloc (.cells (List.map (Value.int .i64) [0, 0, 0, 0, 0, 0, 0, 0, 0, 0, 0]).toArray 180)) w.heap.size [0, 0, 0, 0, 0, 0, 0, 0, 0, 0, 0] from ⟨blk_new w _, rfl⟩)
  go_loopg [6, 11] 11 (fun gg _ s11 wr => ∃ kk : Nat, kk ≤ 11 ∧ 11 - kk ≤ gg ∧ s11 = .int .i64 kk ∧ Aside0 (Below w.heap.size w wr) ∧ Aside0 (RowAt wr w.heap.size (rowStart.take kk ++ List.replicate (11 - kk) 0)))
  case atStart => exact ⟨0, Nat.zero_le _, by omega, rfl, HB0, HR0⟩
  case round =>
    clear HB0 HR0
    obtain ⟨kk, hkk, hg, rfl, HB, HR⟩ := hrel
    by_cases hlt : kk < 11
    · have hltz : (kk : Int) < 11 := by omega
      obtain ⟨hc, hf⟩ := HR.out.cell kk hlt
      have hl := HR.out.lt
      go_wp2_with fail
      have HR2 := Aside0.mk (HR.out.put kk (kk : Int))
      have HB2 := Aside0.mk (HB.out.setCell (p := ⟨w.heap.size, kk, none⟩) (Nat.le_refl _) (.int .i64 (kk : Int)))
      go_roundg (11 - (kk + 1))
      case measure => omega
      case rel =>
        refine ⟨kk + 1, by omega, by omega, by go_num, HB2, ⟨?_⟩⟩
        have hrow : (rowStart.take kk ++ List.replicate (11 - kk) 0).set kk (kk : Int) = rowStart.take (kk + 1) ++ List.replicate (11 - (kk + 1)) 0 := by
          have : kk = 0 ∨ kk = 1 ∨ kk = 2 ∨ kk = 3 ∨ kk = 4 ∨ kk = 5 ∨ kk = 6 ∨ kk = 7 ∨ kk = 8 ∨ kk = 9 ∨ kk = 10 := by omega
          rcases this with rfl | rfl | rfl | rfl | rfl | rfl | rfl | rfl | rfl | rfl | rfl <;> rfl
        rw [← hrow]; exact HR2.out
    · obtain rfl : kk = 11 := by omega
      have HRS := Aside0.mk (show RowAt wr w.heap.size rowStart from HR.out)
      clear HR
      have hltz : ¬ ((11 : Nat) : Int) < 11 := by omega
      go_wp2_with fail
      go_loopg [7, 8, 9, 10, 20, 30] a.size (fun gg _ _ _ _ s20 _ wr => ∃ (ii : Nat) (row : List Int), ii ≤ a.size ∧ a.size - ii ≤ gg ∧ s20 = .int .i64 ii ∧ Aside0 (Below w.heap.size w wr) ∧ Aside0 (RowAt wr w.heap.size row) ∧
        Aside0 (InB row (20 + 12 * (ii : Int))) ∧ Aside0 (faultsOut a b (a.size - ii) ii row = faultsOut a b a.size 0 rowStart))
      case atStart => exact ⟨0, rowStart, Nat.zero_le _, by omega, rfl, HB, HRS, ⟨by intro x hx; simp [rowStart] at hx; omega⟩, ⟨rfl⟩⟩
      case round =>
        clear HB HRS
        obtain ⟨ii, row, hii, hg2, rfl, HB, HR, HI, HF⟩ := hrel
        by_cases hlt2 : ii < a.size
        · have hltz2 : (ii : Int) < (a.size : Int) := by omega
          obtain ⟨hc, hf⟩ := HR.out.cell 0 (by omega)
          obtain ⟨hr1, hr2⟩ := HI.out.rd (by omega) 0
          have hl := HR.out.lt
          have e00 : rd row ((0 : Nat) : Int) = rd row 0 := rfl
          rw [e00] at hc
          obtain ⟨x0, hx0⟩ : ∃ x0, rd row 0 = x0 := ⟨_, rfl⟩
          rw [hx0] at hc hr1 hr2
          have HF2 := Aside0.mk (show faultsOut a b (a.size - (ii + 1)) (ii + 1) (faultsIn a b ii b.size 0 (row.set 0 ((ii + 1 : Nat) : Int)) x0) = faultsOut a b a.size 0 rowStart from by
            rw [← HF.out, show a.size - ii = (a.size - (ii + 1)) + 1 by omega, faultsOut, hx0])
          have HR2 := Aside0.mk (show RowAt (wr.setCell ⟨w.heap.size, 0, none⟩ (.int .i64 ((ii : Int) + 1))) w.heap.size (row.set 0 ((ii + 1 : Nat) : Int)) from HR.out.put 0 _)
          have HI2 := Aside0.mk (show InB (row.set 0 ((ii + 1 : Nat) : Int)) (20 + 12 * (ii : Int) + 1) from HI.out.set (by omega) 0 _ (by omega))
          have HB2 := Aside0.mk (HB.out.setCell (p := ⟨w.heap.size, 0, none⟩) (Nat.le_refl _) (.int .i64 ((ii : Int) + 1)))
          clear e00 hx0 HF
          go_wp2_with fail
          clear hc hf HB HR HI
          go_loopg [8, 9, 10, 30] b.size (fun gg s8 _ _ s30 wr => ∃ (k : Nat) (row' : List Int) (corner : Int), k ≤ b.size ∧ b.size - k ≤ gg ∧ s30 = .int .i64 k ∧ s8 = .int .i64 corner ∧ Aside0 (0 ≤ corner ∧ corner ≤ 20 + 12 * (ii : Int) + k) ∧ Aside0 (Below w.heap.size w wr) ∧ Aside0 (RowAt wr w.heap.size row') ∧
            Aside0 (InB row' (20 + 12 * (ii : Int) + 1 + k)) ∧ Aside0 (faultsIn a b ii (b.size - k) k row' corner = faultsIn a b ii b.size 0 (row.set 0 ((ii + 1 : Nat) : Int)) x0))
          case atStart => exact ⟨0, _, x0, Nat.zero_le _, by omega, rfl, rfl, ⟨⟨hr1, by omega⟩⟩, HB2, HR2, ⟨by simpa using HI2.out⟩, ⟨rfl⟩⟩
          case round =>
            clear HB2 HR2 HI2
            obtain ⟨k, row', corner, hk, hg3, rfl, rfl, HC, HB, HR, HI, HF⟩ := hrel
            by_cases hlt3 : k < b.size
            · have hltz3 : (k : Int) < (b.size : Int) := by omega
              obtain ⟨hcr1, hcr2⟩ := HC.out
              obtain ⟨hck, hfk⟩ := HR.out.cell k (by omega)
              obtain ⟨hck1, hfk1⟩ := HR.out.cell (k + 1) (by omega)
              have hl3 := HR.out.lt
              obtain ⟨ha1, ha2⟩ := HI.out.rd (by omega) ((k : Nat) : Int)
              obtain ⟨hb1, hb2⟩ := HI.out.rd (by omega) (((k + 1 : Nat)) : Int)
              obtain ⟨xk, hxk⟩ : ∃ x, rd row' (k : Int) = x := ⟨_, rfl⟩
              obtain ⟨xk1, hxk1⟩ : ∃ x, rd row' ((k + 1 : Nat) : Int) = x := ⟨_, rfl⟩
              have hfs : faultsIn a b ii (b.size - k) k row' corner = faultsIn a b ii (b.size - (k + 1)) (k + 1) (row'.set (k + 1) (min (min (if bt a ii = bt b (k : Int) then corner else corner + 1) (xk + 1)) (xk1 + 1))) xk1 := by
                rw [show b.size - k = (b.size - (k + 1)) + 1 by omega, faultsIn, hxk, hxk1]
              rw [hxk] at hck ha1 ha2
              rw [hxk1] at hck1 hb1 hb2
              have HFS := Aside0.mk (hfs.symm.trans HF.out)
              have hA := bt_at a (ii : Int) (by rw [Int.toNat_natCast]; exact hlt2)
              have hBt := bt_at b (k : Int) (by rw [Int.toNat_natCast]; exact hlt3)
              simp only [Int.toNat_natCast] at hA hBt
              have HAB := Aside0.mk (And.intro hA hBt)
              clear hfs hxk hxk1 HF hA hBt
              go_wp2_with fail
              go_region
              all_goals go_wp2_with fail
              all_goals go_region
              · rename_i hqq
                have hq : bt a (ii : Int) ≠ bt b (k : Int) := by rw [← HAB.out.1, ← HAB.out.2]; simpa using hqq
                obtain ⟨mv, hmv⟩ : ∃ mv : Int, (if xk1 + 1 < (if xk < corner then xk + 1 else corner + 1) then xk1 + 1 else (if xk < corner then xk + 1 else corner + 1)) = mv := ⟨_, rfl⟩
                have hmin : min (min (if bt a ii = bt b (k : Int) then corner else corner + 1) (xk + 1)) (xk1 + 1) = mv := by
                  rw [if_neg hq, ← hmv]
                  simp only [Int.min_def]
                  repeat' split
                  all_goals omega
                have hmb : 0 ≤ mv ∧ mv ≤ 20 + 12 * (ii : Int) + 1 + k + 1 := by
                  rw [← hmv]
                  repeat' split
                  all_goals omega
                rw [hmin] at HFS
                rw [hmv]
                have HR3 := Aside0.mk (show RowAt (wr.setCell ⟨w.heap.size, k + 1, none⟩ (.int .i64 mv)).drew.drew w.heap.size (row'.set (k + 1) mv) from HR.out.put (k + 1) mv)
                have HB3 := Aside0.mk (below_drew (below_drew (HB.out.setCell (p := ⟨w.heap.size, k + 1, none⟩) (Nat.le_refl _) (.int .i64 mv))))
                have HI3 := Aside0.mk (show InB (row'.set (k + 1) mv) (20 + 12 * (ii : Int) + 1 + ((k + 1 : Nat) : Int)) from HI.out.set (by omega) (k + 1) mv (by omega))
                clear hmv hmin hck hfk hck1 hfk1 HR HI HB
                go_wp2_with fail
                go_roundg (b.size - (k + 1))
                case measure => omega
                case rel => exact ⟨k + 1, _, xk1, by omega, by omega, by go_num, rfl, ⟨⟨hb1, by omega⟩⟩, HB3, HR3, HI3, HFS⟩
              · rename_i hqq
                have hq : bt a (ii : Int) = bt b (k : Int) := by rw [← HAB.out.1, ← HAB.out.2]; simpa using hqq
                obtain ⟨mv, hmv⟩ : ∃ mv : Int, (if xk1 + 1 < (if xk + 1 < corner then xk + 1 else corner) then xk1 + 1 else (if xk + 1 < corner then xk + 1 else corner)) = mv := ⟨_, rfl⟩
                have hmin : min (min (if bt a ii = bt b (k : Int) then corner else corner + 1) (xk + 1)) (xk1 + 1) = mv := by
                  rw [if_pos hq, ← hmv]
                  simp only [Int.min_def]
                  repeat' split
                  all_goals omega
                have hmb : 0 ≤ mv ∧ mv ≤ 20 + 12 * (ii : Int) + 1 + k + 1 := by
                  rw [← hmv]
                  repeat' split
                  all_goals omega
                rw [hmin] at HFS
                rw [hmv]
                have HR3 := Aside0.mk (show RowAt (wr.setCell ⟨w.heap.size, k + 1, none⟩ (.int .i64 mv)).drew.drew w.heap.size (row'.set (k + 1) mv) from HR.out.put (k + 1) mv)
                have HB3 := Aside0.mk (below_drew (below_drew (HB.out.setCell (p := ⟨w.heap.size, k + 1, none⟩) (Nat.le_refl _) (.int .i64 mv))))
                have HI3 := Aside0.mk (show InB (row'.set (k + 1) mv) (20 + 12 * (ii : Int) + 1 + ((k + 1 : Nat) : Int)) from HI.out.set (by omega) (k + 1) mv (by omega))
                clear hmv hmin hck hfk hck1 hfk1 HR HI HB
                go_wp2_with fail
                go_roundg (b.size - (k + 1))
                case measure => omega
                case rel => exact ⟨k + 1, _, xk1, by omega, by omega, by go_num, rfl, ⟨⟨hb1, by omega⟩⟩, HB3, HR3, HI3, HFS⟩
            · obtain rfl : k = b.size := by omega
              have hltz3 : ¬ (b.size : Int) < (b.size : Int) := by omega
              have hf3 := HF.out
              rw [Nat.sub_self, faultsIn] at hf3
              rw [← hf3] at HF2
              clear hf3 HF
              go_wp2_with fail
              go_roundg (a.size - (ii + 1))
              case measure => omega
              case rel => exact ⟨ii + 1, _, by omega, by omega, by go_num, HB, HR, ⟨fun x hx => by have := HI.out x hx; omega⟩, HF2⟩
        · obtain rfl : ii = a.size := by omega
          have hltz2 : ¬ (a.size : Int) < (a.size : Int) := by omega
          have hf2 := HF.out
          rw [Nat.sub_self, faultsOut] at hf2
          obtain ⟨hc, hf⟩ := HR.out.cell b.size (by omega)
          have hl := HR.out.lt
          have HV := Aside0.mk (show faultsV a b = rd row (b.size : Int) from by unfold faultsV; rw [← hf2])
          obtain ⟨v, hv⟩ : ∃ v, rd row (b.size : Int) = v := ⟨_, rfl⟩
          rw [hv] at hc HV
          clear hf2 HF hv
          go_wp2_with fail
          go_ret
          exact ⟨ret_int HV.out.symm, HB.out⟩
end Go.Proofs.YtdjlfdbnmnjccaaGreat.St
end
