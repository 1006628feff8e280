/- A part of the proofs of the laws of this seat: the walks of the program's functions, and lemmas. They hold without conditions. -/
import Derived.Test.YtdjlfdbnmnjccaaGreatB03
import Derived.Test.YtdjlfdbnmnjccaaGreatB08
set_option linter.all false
set_option linter.unusedSectionVars false
section
set_option linter.unusedVariables false
set_option linter.unusedSimpArgs false
namespace Go.Proofs.YtdjlfdbnmnjccaaGreat.St
open Go.Sort hiding rd
open Go.RowKit Go.Shelf Go.Proofs.YtdjlfdbnmnjccaaGreatW.PrintWords Go.Proofs.YtdjlfdbnmnjccaaGreatW.PrintLast Go.Proofs.YtdjlfdbnmnjccaaGreatW.PrintMore
theorem check_ok {first : List ByteArray} {changes : List S60} (h : checkE first changes = 0) :
    1 ≤ first.length ∧ first.length ≤ 6 ∧ (∀ s ∈ first, isNameB s = true) ∧ twinsL ByteArray.empty first = [] ∧ changes.length ≤ 8 ∧ ∀ c ∈ changes, isChangeB c first.length = true := by
  unfold checkE at h
  split at h
  · simp at h
  · rename_i h1
    split at h
    · simp at h
    · rename_i h2
      split at h
      · simp at h
      · rename_i h3
        split at h
        · simp at h
        · rename_i h4
          split at h
          · simp at h
          · rename_i h5
            simp at h1 h2 h3 h5
            exact ⟨by omega, by omega, h2, h3, by omega, h5⟩
theorem name_size {s : ByteArray} (h : isNameB s = true) : s.size ≤ 10 := by
  unfold isNameB at h
  simp at h
  omega
def openE (first : List ByteArray) (changes : List S60) : Int :=
  if checkE first changes = 0 then (if (bookOf first changes).2.2 = [] then 0 else 9) else checkE first changes
theorem blk3 {W : World} {g : Nat} {x0 x1 x2 : Value} {t : TypeId} (h : W.heap[g]? = some (.cells #[x0, x1, x2] t (0, 0))) :
    (W.cell? ⟨g, 0, none⟩ = some x0 ∧ W.cell? ⟨g, 1, none⟩ = some x1 ∧ W.cell? ⟨g, 2, none⟩ = some x2) ∧
    (W.frozen? ⟨g, 0, none⟩ = false ∧ W.frozen? ⟨g, 1, none⟩ = false ∧ W.frozen? ⟨g, 2, none⟩ = false) ∧ g < W.heap.size :=
  ⟨⟨(blk_cell h 0).trans rfl, (blk_cell h 1).trans rfl, (blk_cell h 2).trans rfl⟩, ⟨blk_frozen h 0, blk_frozen h 1, blk_frozen h 2⟩, blk_lt h⟩
theorem blk3_self {W : World} {g : Nat} {x0 x1 x2 : Value} {t : TypeId} (h : W.heap[g]? = some (.cells #[x0, x1, x2] t (0, 0))) (y0 y1 y2 : Value) :
    (((W.setCell ⟨g, 0, none⟩ y0).setCell ⟨g, 1, none⟩ y1).setCell ⟨g, 2, none⟩ y2).heap[g]? = some (.cells #[y0, y1, y2] t (0, 0)) :=
  blk_put (blk_put (blk_put h 0 y0 rfl) 1 y1 rfl) 2 y2 rfl
theorem below3 {w W : World} {g : Nat} (h : Below w.heap.size w W) (hg : w.heap.size ≤ g) (y0 y1 y2 : Value) : Below w.heap.size w (((W.setCell ⟨g, 0, none⟩ y0).setCell ⟨g, 1, none⟩ y1).setCell ⟨g, 2, none⟩ y2) :=
  ((h.setCell (p := ⟨g, 0, none⟩) hg _).setCell (p := ⟨g, 1, none⟩) hg _).setCell (p := ⟨g, 2, none⟩) hg _
theorem R_set3 {α : Type} {d : Kd α} {e base : Nat} {ok : Nat → Prop} {W : World} {v : Value} {xs : List α} {g : Nat} {x0 x1 x2 : Value} {t : TypeId} (hv : d.R e W base ok v xs) (h : W.heap[g]? = some (.cells #[x0, x1, x2] t (0, 0))) (ht : ∀ q, q ∈ e :: d.E → q ≠ t) (y0 y1 y2 : Value) :
    d.R e (((W.setCell ⟨g, 0, none⟩ y0).setCell ⟨g, 1, none⟩ y1).setCell ⟨g, 2, none⟩ y2) base ok v xs :=
  Kd.R_set (Kd.R_set (Kd.R_set hv h ht 0 y0) (blk_put h 0 y0 rfl) ht 1 y1) (blk_put (blk_put h 0 y0 rfl) 1 y1 rfl) ht 2 y2
set_option maxHeartbeats 4000000 in
set_option maxRecDepth 100000 in
theorem open_any (A0 : Option Addr) (c0 : Nat) (first : List ByteArray) (A1 : Option Addr) (c1 : Nat) (changes : List S60) (w : World)
    (hr0 : Kd.C Kd.string w A0 first.length first) (hc0 : first.length ≤ c0) (hr1 : Kd.C k60 w A1 changes.length changes) (hc1 : changes.length ≤ c1) :
    Calls Tryz.prog 69 #[.agg #[.slice A0 first.length c0, .slice A1 changes.length c1]] w fun e w' =>
      ∃ (B0 : Option Addr) (n0 d0 : Nat) (B1 : Option Addr) (n1 d1 : Nat) (Bp : Option Addr) (np dp : Nat), e = .returned (.tuple #[.agg #[.slice B0 n0 d0, .slice B1 n1 d1, .slice Bp np dp], .int .i64 (openE first changes)]) ∧
        (openE first changes = 0 → Value.slice B0 n0 d0 = .slice A0 first.length c0 ∧ Value.slice B1 n1 d1 = .slice A1 changes.length c1 ∧
        Kd.R k167 167 w' w.heap.size (fun _ => True) (.slice Bp np dp) (bookOf first changes).1) ∧ Below w.heap.size w w' := by
  have HCH := Aside0.mk (fun (W : World) (hb : Below w.heap.size w W) => check_any A0 c0 first A1 c1 changes W (Kd.C_below hr0 hb) (Kd.C_below hr1 hb))
  have HNB := Aside0.mk (fun (a0 : Addr) (e : A0 = some a0) (h : checkE first changes = 0) (W : World) (hb : Below w.heap.size w W) => newBook_any a0 c0 first A1 c1 changes W (e ▸ Kd.C_below hr0 hb) hc0 (Kd.C_below hr1 hb) hc1 (check_ok h).1 (check_ok h).2.1 (fun s hs => name_size ((check_ok h).2.2.1 s hs)) (by have := (check_ok h).2.2.2.2.1; omega) (check_ok h).2.2.2.2.2)
  have HSOME := Aside0.mk (fun (h : checkE first changes = 0) => (Kd.at_string hr0 0 (by omega) (by have := (check_ok h).1; omega)))
  clear hr0 hr1
  have q3 := nil_neq (P := Tryz.prog) Tryz.underlying31
  have q4 := some_neq (P := Tryz.prog) Tryz.underlying31
  go_enter Tryz.func69, Tryz.ntmps69
  go_wp2_with fail
  obtain ⟨W1, hW1⟩ : ∃ W1, (w.alloc (.cells #[.slice A0 first.length c0, .slice A1 changes.length c1] 25)).alloc (.cells #[.slice none 0 0, .slice none 0 0, .slice none 0 0] 124) = W1 := ⟨_, rfl⟩
  have hb1 : Below w.heap.size w W1 := by rw [← hW1]; exact below_alloc (below_alloc (Below.refl _ _) _) _
  have hbt : W1.heap[w.heap.size]? = some (.cells #[.slice A0 first.length c0, .slice A1 changes.length c1] 25 (0, 0)) := by
    rw [← hW1]; exact blk_alloc (blk_new w _) _
  have hbb : W1.heap[w.heap.size + 1]? = some (.cells #[.slice none 0 0, .slice none 0 0, .slice none 0 0] 124 (0, 0)) := by
    rw [← hW1]
    have := blk_new (w.alloc (.cells #[.slice A0 first.length c0, .slice A1 changes.length c1] 25)) (.cells #[.slice none 0 0, .slice none 0 0, .slice none 0 0] 124)
    rwa [World.size_alloc] at this
  rw [hW1]
  clear hW1
  refine (HCH.out W1 hb1).mono ?_
  rintro e w2 ⟨rfl, hb⟩
  have HB2 := Aside0.mk (below_from hb1 hb)
  have BT2 := Aside0.mk (blk_below hbt hb)
  have BB2 := Aside0.mk (blk_below hbb hb)
  clear hb hb1 hbt hbb HCH
  obtain ⟨t0, t1, t2⟩ := blk2 BT2.out
  obtain ⟨⟨b0, b1, b2⟩, ⟨f0, f1, f2⟩, bl⟩ := blk3 BB2.out
  obtain ⟨ce, hce⟩ : ∃ ce, checkE first changes = ce := ⟨_, rfl⟩
  rw [hce]
  by_cases h0 : ce = 0
  · subst h0
    obtain ⟨a0, rfl, _⟩ := HSOME.out hce
    have HN := Aside0.mk (HNB.out a0 rfl hce w2 HB2.out)
    have HCE := Aside0.mk hce
    clear HNB HSOME hce
    go_wp2_with fail
    refine HN.out.mono ?_
    rintro e w3 ⟨pv, sv, rfl, hp, hs, hnil, hb⟩
    have HB3 := Aside0.mk (below_from HB2.out hb)
    have BB3 := Aside0.mk (blk_below BB2.out hb)
    have HP3 := Aside0.mk (Kd.R_lower hp HB2.out.size)
    clear hb hp b0 b1 b2 f0 f1 f2 bl t0 t1 t2 BB2 BT2 HB2 HN
    obtain ⟨Ap, cp, rfl⟩ := Kd.R_slice HP3.out
    obtain ⟨⟨b0, b1, b2⟩, ⟨f0, f1, f2⟩, bl⟩ := blk3 BB3.out
    by_cases hst : (bookOf first changes).2.2 = []
    · obtain rfl := hnil hst
      have HOE := Aside0.mk (show openE first changes = 0 from by unfold openE; rw [if_pos HCE.out, if_pos hst])
      clear hst hs hnil
      go_wp2_with fail
      obtain ⟨V, hV⟩ : ∃ V, (((w3.setCell ⟨w.heap.size + 1, 0, none⟩ (.slice (some a0) first.length c0)).setCell ⟨w.heap.size + 1, 1, none⟩ (.slice A1 changes.length c1)).setCell ⟨w.heap.size + 1, 2, none⟩ (.slice Ap (bookOf first changes).1.length cp)) = V := ⟨_, rfl⟩
      have JV := blk3_self BB3.out (.slice (some a0) first.length c0) (.slice A1 changes.length c1) (.slice Ap (bookOf first changes).1.length cp)
      have HBV := below3 HB3.out (g := w.heap.size + 1) (by omega) (.slice (some a0) first.length c0) (.slice A1 changes.length c1) (.slice Ap (bookOf first changes).1.length cp)
      have HPV := R_set3 HP3.out BB3.out (by decide) (.slice (some a0) first.length c0) (.slice A1 changes.length c1) (.slice Ap (bookOf first changes).1.length cp)
      rw [hV] at JV HBV HPV ⊢
      obtain ⟨W', hW'⟩ : ∃ W', (((V.setCell ⟨w.heap.size + 1, 0, none⟩ (.slice (some a0) first.length c0)).setCell ⟨w.heap.size + 1, 1, none⟩ (.slice A1 changes.length c1)).setCell ⟨w.heap.size + 1, 2, none⟩ (.slice Ap (bookOf first changes).1.length cp)) = W' := ⟨_, rfl⟩
      have JW := blk3_self JV (.slice (some a0) first.length c0) (.slice A1 changes.length c1) (.slice Ap (bookOf first changes).1.length cp)
      have HBW := below3 HBV (g := w.heap.size + 1) (by omega) (.slice (some a0) first.length c0) (.slice A1 changes.length c1) (.slice Ap (bookOf first changes).1.length cp)
      have HPW := R_set3 HPV JV (by decide) (.slice (some a0) first.length c0) (.slice A1 changes.length c1) (.slice Ap (bookOf first changes).1.length cp)
      rw [hW'] at JW HBW HPW ⊢
      obtain ⟨⟨q0, q1, q2⟩, _, _⟩ := blk3 JW
      rw [HOE.out]
      refine bodyPost_ret (v := .tuple #[.agg #[.slice (some a0) first.length c0, .slice A1 changes.length c1, .slice Ap (bookOf first changes).1.length cp], .int .i64 0]) (by simp [results, Tryz.results69, go_sem, q0, q1, q2]) rfl ?_
      exact ⟨_, _, _, _, _, _, _, _, _, rfl, fun _ => ⟨rfl, rfl, HPW⟩, HBW⟩
    · obtain ⟨g4, c4, rfl, _, _, _⟩ := Kd.R_form hs (List.length_pos_iff.2 hst)
      have HOE := Aside0.mk (show openE first changes = 9 from by unfold openE; rw [if_pos HCE.out, if_neg hst])
      clear hst hs hnil
      go_wp2_with fail
      obtain ⟨V, hV⟩ : ∃ V, (((w3.setCell ⟨w.heap.size + 1, 0, none⟩ (.slice (some a0) first.length c0)).setCell ⟨w.heap.size + 1, 1, none⟩ (.slice A1 changes.length c1)).setCell ⟨w.heap.size + 1, 2, none⟩ (.slice Ap (bookOf first changes).1.length cp)) = V := ⟨_, rfl⟩
      have JV := blk3_self BB3.out (.slice (some a0) first.length c0) (.slice A1 changes.length c1) (.slice Ap (bookOf first changes).1.length cp)
      have HBV := below3 HB3.out (g := w.heap.size + 1) (by omega) (.slice (some a0) first.length c0) (.slice A1 changes.length c1) (.slice Ap (bookOf first changes).1.length cp)
      have HPV := R_set3 HP3.out BB3.out (by decide) (.slice (some a0) first.length c0) (.slice A1 changes.length c1) (.slice Ap (bookOf first changes).1.length cp)
      rw [hV] at JV HBV HPV ⊢
      obtain ⟨W', hW'⟩ : ∃ W', (((V.setCell ⟨w.heap.size + 1, 0, none⟩ (.slice (some a0) first.length c0)).setCell ⟨w.heap.size + 1, 1, none⟩ (.slice A1 changes.length c1)).setCell ⟨w.heap.size + 1, 2, none⟩ (.slice Ap (bookOf first changes).1.length cp)) = W' := ⟨_, rfl⟩
      have JW := blk3_self JV (.slice (some a0) first.length c0) (.slice A1 changes.length c1) (.slice Ap (bookOf first changes).1.length cp)
      have HBW := below3 HBV (g := w.heap.size + 1) (by omega) (.slice (some a0) first.length c0) (.slice A1 changes.length c1) (.slice Ap (bookOf first changes).1.length cp)
      have HPW := R_set3 HPV JV (by decide) (.slice (some a0) first.length c0) (.slice A1 changes.length c1) (.slice Ap (bookOf first changes).1.length cp)
      rw [hW'] at JW HBW HPW ⊢
      obtain ⟨⟨q0, q1, q2⟩, _, _⟩ := blk3 JW
      rw [HOE.out]
      refine bodyPost_ret (v := .tuple #[.agg #[.slice (some a0) first.length c0, .slice A1 changes.length c1, .slice Ap (bookOf first changes).1.length cp], .int .i64 9]) (by simp [results, Tryz.results69, go_sem, q0, q1, q2]) rfl ?_
      exact ⟨_, _, _, _, _, _, _, _, _, rfl, fun _ => ⟨rfl, rfl, HPW⟩, HBW⟩
  · have h0' : (ce != 0) = true := by simp [h0]
    have hoe : openE first changes = ce := by unfold openE; rw [hce, if_neg h0]
    have H0 := Aside0.mk (And.intro h0 hoe)
    clear h0 hoe
    go_wp2_with fail
    obtain ⟨W', hW'⟩ : ∃ W', (((w2.setCell ⟨w.heap.size + 1, 0, none⟩ (.slice none 0 0)).setCell ⟨w.heap.size + 1, 1, none⟩ (.slice none 0 0)).setCell ⟨w.heap.size + 1, 2, none⟩ (.slice none 0 0)) = W' := ⟨_, rfl⟩
    have JW := blk3_self BB2.out (.slice none 0 0) (.slice none 0 0) (.slice none 0 0)
    have HBW := below3 HB2.out (g := w.heap.size + 1) (by omega) (.slice none 0 0) (.slice none 0 0) (.slice none 0 0)
    rw [hW'] at JW HBW ⊢
    obtain ⟨⟨q0, q1, q2⟩, _, _⟩ := blk3 JW
    rw [H0.out.2]
    refine bodyPost_ret (v := .tuple #[.agg #[.slice none 0 0, .slice none 0 0, .slice none 0 0], .int .i64 ce]) (by simp [results, Tryz.results69, go_sem, q0, q1, q2]) rfl ?_
    exact ⟨_, _, _, _, _, _, _, _, _, rfl, fun h => absurd h H0.out.1, HBW⟩
end Go.Proofs.YtdjlfdbnmnjccaaGreat.St
end
section
set_option linter.unusedVariables false
set_option linter.unusedSimpArgs false
namespace Go.Proofs.YtdjlfdbnmnjccaaGreat.St
open Go.Sort hiding rd
open Go.RowKit Go.Shelf Go.Proofs.YtdjlfdbnmnjccaaGreatW.PrintWords Go.Proofs.YtdjlfdbnmnjccaaGreatW.PrintLast Go.Proofs.YtdjlfdbnmnjccaaGreatW.PrintMore
def clashR (first : List ByteArray) (changes : List S60) : Int × List Int × Int :=
  if checkE first changes = 0 then (if (bookOf first changes).2.2 = [] then (0, [], 6) else ((bookOf first changes).2.1, (bookOf first changes).2.2, 0)) else (0, [], checkE first changes)
set_option maxHeartbeats 4000000 in
set_option maxRecDepth 100000 in
theorem clash_any (A0 : Option Addr) (c0 : Nat) (first : List ByteArray) (A1 : Option Addr) (c1 : Nat) (changes : List S60) (w : World)
    (hr0 : Kd.C Kd.string w A0 first.length first) (hc0 : first.length ≤ c0) (hr1 : Kd.C k60 w A1 changes.length changes) (hc1 : changes.length ≤ c1) :
    Calls Tryz.prog 14 #[.agg #[.slice A0 first.length c0, .slice A1 changes.length c1]] w fun e w' =>
      ∃ sv : Value, e = .returned (.tuple #[.int .i64 (clashR first changes).1, sv, .int .i64 (clashR first changes).2.2]) ∧
        Kd.R (Kd.int .i64) 3 w' w.heap.size (fun _ => True) sv (clashR first changes).2.1 ∧ Below w.heap.size w w' := by
  have HCH := Aside0.mk (fun (W : World) (hb : Below w.heap.size w W) => check_any A0 c0 first A1 c1 changes W (Kd.C_below hr0 hb) (Kd.C_below hr1 hb))
  have HNB := Aside0.mk (fun (a0 : Addr) (e : A0 = some a0) (h : checkE first changes = 0) (W : World) (hb : Below w.heap.size w W) => newBook_any a0 c0 first A1 c1 changes W (e ▸ Kd.C_below hr0 hb) hc0 (Kd.C_below hr1 hb) hc1 (check_ok h).1 (check_ok h).2.1 (fun s hs => name_size ((check_ok h).2.2.1 s hs)) (by have := (check_ok h).2.2.2.2.1; omega) (check_ok h).2.2.2.2.2)
  have HSOME := Aside0.mk (fun (h : checkE first changes = 0) => (Kd.at_string hr0 0 (by omega) (by have := (check_ok h).1; omega)))
  clear hr0 hr1
  have q1 := nil_eql (P := Tryz.prog) Tryz.underlying31
  have q2 := some_eql (P := Tryz.prog) Tryz.underlying31
  go_enter Tryz.func14, Tryz.ntmps14
  go_wp2_with fail
  obtain ⟨W1, hW1⟩ : ∃ W1, w.alloc (.cells #[.slice A0 first.length c0, .slice A1 changes.length c1] 25) = W1 := ⟨_, rfl⟩
  have hb1 : Below w.heap.size w W1 := by rw [← hW1]; exact below_alloc (Below.refl _ _) _
  have hbt : W1.heap[w.heap.size]? = some (.cells #[.slice A0 first.length c0, .slice A1 changes.length c1] 25 (0, 0)) := by
    rw [← hW1]; exact blk_new w _
  rw [hW1]
  clear hW1
  refine (HCH.out W1 hb1).mono ?_
  rintro e w2 ⟨rfl, hb⟩
  have HB2 := Aside0.mk (below_from hb1 hb)
  have BT2 := Aside0.mk (blk_below hbt hb)
  clear hb hb1 hbt HCH
  obtain ⟨t0, t1, t2⟩ := blk2 BT2.out
  obtain ⟨ce, hce⟩ : ∃ ce, checkE first changes = ce := ⟨_, rfl⟩
  rw [hce]
  by_cases h0 : ce = 0
  · subst h0
    obtain ⟨a0, rfl, _⟩ := HSOME.out hce
    have HN := Aside0.mk (HNB.out a0 rfl hce w2 HB2.out)
    have HCE := Aside0.mk hce
    clear HNB HSOME hce
    go_wp2_with fail
    refine HN.out.mono ?_
    rintro e w3 ⟨pv, sv, rfl, hp, hs, hnil, hb⟩
    have HB3 := Aside0.mk (below_from HB2.out hb)
    have HS3 := Aside0.mk (Kd.R_lower hs HB2.out.size)
    clear hb t0 t1 t2 BT2 HB2 HN
    obtain ⟨Ap, cp, rfl⟩ := Kd.R_slice hp
    clear hp
    by_cases hst : (bookOf first changes).2.2 = []
    · obtain rfl := hnil hst
      have HOE := Aside0.mk (show clashR first changes = (0, [], 6) from by unfold clashR; rw [if_pos HCE.out, if_pos hst])
      clear hst hs hnil
      go_wp2_with fail
      rw [HOE.out]
      refine bodyPost_ret (v := .tuple #[.int .i64 0, .slice none 0 0, .int .i64 6]) (by simp [results, Tryz.results14, go_sem]) rfl ?_
      exact ⟨_, rfl, Kd.R_nil _ _ _ _ _, HB3.out⟩
    · obtain ⟨g4, c4, rfl, _, _, _⟩ := Kd.R_form hs (List.length_pos_iff.2 hst)
      have HOE := Aside0.mk (show clashR first changes = ((bookOf first changes).2.1, (bookOf first changes).2.2, 0) from by unfold clashR; rw [if_pos HCE.out, if_neg hst])
      clear hst hs hnil
      go_wp2_with fail
      rw [HOE.out]
      refine bodyPost_ret (v := .tuple #[.int .i64 (bookOf first changes).2.1, .slice (some ⟨g4, 0, none⟩) (bookOf first changes).2.2.length c4, .int .i64 0]) (by simp [results, Tryz.results14, go_sem]) rfl ?_
      exact ⟨_, rfl, HS3.out, HB3.out⟩
  · have h0' : (ce != 0) = true := by simp [h0]
    have hoe : clashR first changes = (0, [], ce) := by unfold clashR; rw [hce, if_neg h0]
    have H0 := Aside0.mk (And.intro h0 hoe)
    clear h0 hoe
    go_wp2_with fail
    rw [H0.out.2]
    refine bodyPost_ret (v := .tuple #[.int .i64 0, .slice none 0 0, .int .i64 ce]) (by simp [results, Tryz.results14, go_sem]) rfl ?_
    exact ⟨_, rfl, Kd.R_nil _ _ _ _ _, HB2.out⟩
def street_Clash.f (l0_0 : List ByteArray) (l0_1 : List S60) : Option (Int × List Int × Int) := some (clashR l0_0 l0_1)
theorem street_Clash.calls (A0_0 : Option Addr) (c0_0 : Nat) (l0_0 : List ByteArray) (A0_1 : Option Addr) (c0_1 : Nat) (l0_1 : List S60) (r_0 : Int) (r_1 : List Int) (r_2 : Int) (w : World) (hr0_0 : Kd.C Kd.string w A0_0 l0_0.length l0_0) (hc0_0 : l0_0.length ≤ c0_0) (hr0_1 : Kd.C k60 w A0_1 l0_1.length l0_1) (hc0_1 : l0_1.length ≤ c0_1) (h : street_Clash.f l0_0 l0_1 = some (r_0, r_1, r_2)) :
    Calls Tryz.prog 14 #[.agg #[.slice A0_0 l0_0.length c0_0, .slice A0_1 l0_1.length c0_1]] w fun e w' => ∃ v0_ : Value, e = .returned (.tuple #[.int .i64 r_0, v0_, .int .i64 r_2]) ∧ Kd.R (Kd.int .i64) 3 w' w.heap.size (fun _ => True) v0_ r_1 ∧ Below w.heap.size w w' := by
  have e := Option.some.inj h
  have h0 : (clashR l0_0 l0_1).1 = r_0 := by rw [e]
  have h1 : (clashR l0_0 l0_1).2.1 = r_1 := by rw [e]
  have h2 : (clashR l0_0 l0_1).2.2 = r_2 := by rw [e]
  have := clash_any A0_0 c0_0 l0_0 A0_1 c0_1 l0_1 w hr0_0 hc0_0 hr0_1 hc0_1
  rwa [h0, h1, h2] at this
end Go.Proofs.YtdjlfdbnmnjccaaGreat.St
end
section
set_option linter.unusedVariables false
set_option linter.unusedSimpArgs false
namespace Go.Proofs.YtdjlfdbnmnjccaaGreat.St
open Go.Sort hiding rd
open Go.RowKit Go.Shelf Go.Proofs.YtdjlfdbnmnjccaaGreatW.PrintWords Go.Proofs.YtdjlfdbnmnjccaaGreatW.PrintLast Go.Proofs.YtdjlfdbnmnjccaaGreatW.PrintMore
def cfP (a b : Int) : Int := if a < b then -1 else if b < a then 1 else 0
theorem cmpP_any (a : Int) (v : Value) (hour : Int) (W : World) :
    Calls Tryz.prog 107 #[.agg #[.int .i64 a, v], .int .i64 hour] W fun e w' => e = .returned (.int .i64 (cfP a hour)) ∧ Below W.heap.size W w' := by
  have hc := fun w1 => cmp_Compare_int.calls a hour (cfP a hour) w1 (by rw [cmp_f]; rfl)
  go_enter Tryz.func107, Tryz.ntmps107
  go_wp2_with fail
  refine (hc _).mono ?_
  rintro e w' ⟨rfl, ⟨n, rfl⟩⟩
  go_wp2_with fail
  go_ret
  exact ⟨rfl, by repeat (first | exact Below.refl _ _ | apply pw_below_drewN | apply below_alloc)⟩
structure AtHour (ps : List S167) (hour : Int) (i : Nat) : Prop where
  le : i ≤ ps.length
  lo : ∀ t, t < i → (rd_T167 ps t).f0 < hour
  hi : ∀ t, i ≤ t → t < ps.length → hour ≤ (rd_T167 ps t).f0
set_option maxHeartbeats 4000000 in
set_option maxRecDepth 100000 in
theorem bsearch_any (A : Option Addr) (c : Nat) (ps : List S167) (hour : Int) (w : World) (hr : Kd.C k167 w A ps.length ps) (hsm : ps.length < 1000)
    (hmono : ∀ a b : Nat, a ≤ b → b < ps.length → (rd_T167 ps a).f0 ≤ (rd_T167 ps b).f0) :
    Calls Tryz.prog 106 #[.slice A ps.length c, .int .i64 hour, .func (.func 107) #[] #[]] w fun e w' =>
      ∃ i : Nat, e = .returned (.tuple #[.int .i64 i, .bool (decide (i < ps.length) && decide ((rd_T167 ps i).f0 = hour))]) ∧ AtHour ps hour i ∧ Below w.heap.size w w' := by
  have HR := Aside0.mk hr
  have HM := Aside0.mk hmono
  clear hr hmono
  have HB := Aside0.mk (Below.refl w.heap.size w)
  go_enter Tryz.func106, Tryz.ntmps106
  go_wp2
  go_loopg [9, 10] ps.length (fun kx s9 s10 wr => ∃ lo hi : Nat, s9 = .int .i64 lo ∧ s10 = .int .i64 hi ∧ lo ≤ hi ∧ hi ≤ ps.length ∧ hi - lo ≤ kx ∧ Aside0 (Below w.heap.size w wr) ∧
    Aside0 ((∀ t : Nat, t < lo → (rd_T167 ps t).f0 < hour) ∧ (∀ t : Nat, hi ≤ t → t < ps.length → hour ≤ (rd_T167 ps t).f0)))
  case atStart => exact ⟨0, ps.length, rfl, rfl, Nat.zero_le _, Nat.le_refl _, by omega, HB, ⟨fun t ht => absurd ht (Nat.not_lt_zero _), fun t h1 h2 => by omega⟩⟩
  case round =>
    clear HB
    obtain ⟨lo, hi, rfl, rfl, hlh, hin, hg, BW, I⟩ := hrel
    by_cases hlt : lo < hi
    · obtain ⟨ad, A1, c1, rfl, hc0, hc1, hl1, _⟩ := at_T167 HR.out (((lo + hi) / 2 : Nat) : Int) (by omega) (by omega)
      rw [Int.toNat_natCast] at hc0 hc1
      have hc0' := (BW.out.cell (World.block_lt_of_cell? w _ hc0)).trans hc0
      have hc1' := (BW.out.cell (World.block_lt_of_cell? w _ hc1)).trans hc1
      clear hc0 hc1 hl1
      generalize hy : rd_T167 ps (((lo + hi) / 2 : Nat) : Int) = y at hc0' hc1'
      have Y := Aside0.mk hy
      clear hy
      have hc := cmpP_any y.f0 (.slice A1 y.f1.length c1) hour wr
      by_cases hyx : y.f0 < hour
      · rw [show cfP y.f0 hour = -1 from if_pos hyx] at hc
        go_wp2_with fail
        refine hc.mono ?_
        rintro e w' ⟨rfl, hb⟩
        go_wp2_with fail
        go_roundg (hi - ((lo + hi) / 2 + 1))
        case measure => omega
        case rel =>
          exact ⟨(lo + hi) / 2 + 1, hi, by rw [show ((lo : Int) + (hi : Int)) / 2 + 1 = (((lo + hi) / 2 + 1 : Nat) : Int) by omega], rfl, by omega, hin, Nat.le_refl _, ⟨below_from BW.out hb⟩,
            ⟨fun t ht => by have := HM.out t ((lo + hi) / 2) (by omega) (by omega); rw [Y.out] at this; omega, I.out.2⟩⟩
      · have hge : 0 ≤ cfP y.f0 hour := by unfold cfP; rw [if_neg hyx]; split <;> omega
        have hcl : cfP y.f0 hour ≤ 1 := by unfold cfP; rw [if_neg hyx]; split <;> omega
        go_wp2_with fail
        refine hc.mono ?_
        rintro e w' ⟨rfl, hb⟩
        go_wp2_with fail
        go_roundg ((lo + hi) / 2 - lo)
        case measure => omega
        case rel =>
          exact ⟨lo, (lo + hi) / 2, rfl, by rw [show ((lo : Int) + (hi : Int)) / 2 = (((lo + hi) / 2 : Nat) : Int) by omega], by omega, by omega, Nat.le_refl _, ⟨below_from BW.out hb⟩,
            ⟨I.out.1, fun t ht htn => by have := HM.out ((lo + hi) / 2) t ht htn; rw [Y.out] at this; omega⟩⟩
    · obtain rfl : hi = lo := by omega
      have HA := Aside0.mk (AtHour.mk hin I.out.1 I.out.2)
      clear I
      by_cases hn : hi < ps.length
      · obtain ⟨ad, A1, c1, rfl, hc0, hc1, hl1, _⟩ := at_T167 HR.out (hi : Int) (by omega) (by omega)
        rw [Int.toNat_natCast] at hc0 hc1
        have hc0' := (BW.out.cell (World.block_lt_of_cell? w _ hc0)).trans hc0
        have hc1' := (BW.out.cell (World.block_lt_of_cell? w _ hc1)).trans hc1
        clear hc0 hc1 hl1
        generalize hy : rd_T167 ps (hi : Int) = y at hc0' hc1'
        have Y := Aside0.mk hy
        clear hy
        have hc := cmpP_any y.f0 (.slice A1 y.f1.length c1) hour wr
        by_cases hyx : y.f0 = hour
        · rw [hyx, show cfP hour hour = 0 from by unfold cfP; rw [if_neg (by omega), if_neg (by omega)]] at hc
          go_wp2_with fail
          refine hc.mono ?_
          rintro e w' ⟨rfl, hb⟩
          go_wp2_with fail
          go_ret2
          exact ⟨hi, by rw [Y.out]; simp [hn, hyx], HA.out, below_from BW.out hb⟩
        · have hne : cfP y.f0 hour ≠ 0 := by unfold cfP; split; omega; split <;> omega
          go_wp2_with fail
          refine hc.mono ?_
          rintro e w' ⟨rfl, hb⟩
          go_wp2_with fail
          go_ret2
          exact ⟨hi, by rw [Y.out]; simp [hn, hyx, hne], HA.out, below_from BW.out hb⟩
      · go_wp2
        go_ret2
        exact ⟨hi, by simp [hn], HA.out, BW.out⟩
end Go.Proofs.YtdjlfdbnmnjccaaGreat.St
end
section
set_option linter.unusedVariables false
set_option linter.unusedSimpArgs false
namespace Go.Proofs.YtdjlfdbnmnjccaaGreat.St
open Go.Sort hiding rd
open Go.RowKit Go.Shelf Go.Proofs.YtdjlfdbnmnjccaaGreatW.PrintWords Go.Proofs.YtdjlfdbnmnjccaaGreatW.PrintLast Go.Proofs.YtdjlfdbnmnjccaaGreatW.PrintMore
def namesAt (ps : List S167) (hour : Int) : List ByteArray := ps.foldl (fun acc p => if p.f0 ≤ hour then p.f1 else acc) []
theorem foldl_later (l : List S167) (hour : Int) (h : ∀ p ∈ l, hour < p.f0) (acc : List ByteArray) : l.foldl (fun acc p => if p.f0 ≤ hour then p.f1 else acc) acc = acc := by
  induction l generalizing acc with
  | nil => rfl
  | cons p l ih =>
    rw [List.foldl_cons, if_neg (by have := h p (by simp); omega)]
    exact ih (fun q hq => h q (by simp [hq])) acc
theorem namesAt_eq {ps : List S167} {hour : Int} {k : Nat} (hk : k < ps.length) (h1 : (rd_T167 ps k).f0 ≤ hour) (h2 : ∀ t : Nat, k < t → t < ps.length → hour < (rd_T167 ps t).f0) : namesAt ps hour = (rd_T167 ps k).f1 := by
  have hrd : ∀ t : Nat, (ht : t < ps.length) → rd_T167 ps t = ps[t] := fun t ht => by
    unfold rd_T167; rw [Int.toNat_natCast, List.getD_eq_getElem?_getD, List.getElem?_eq_getElem ht, Option.getD_some]
  have e : ps = ps.take k ++ ps[k] :: ps.drop (k + 1) := by
    rw [← List.drop_eq_getElem_cons hk, List.take_append_drop]
  rw [hrd k hk] at h1 ⊢
  unfold namesAt
  conv => lhs; rw [e]
  rw [List.foldl_append, List.foldl_cons, if_pos h1]
  refine foldl_later _ _ (fun p hp => ?_) _
  obtain ⟨j, hj, rfl⟩ := List.mem_iff_getElem.1 hp
  rw [List.length_drop] at hj
  have := h2 (k + 1 + j) (by omega) (by omega)
  rw [hrd _ (by omega)] at this
  rw [List.getElem_drop]
  exact this
structure PagesOk (n : Nat) (ps : List S167) : Prop where
  ne : 0 < ps.length
  h0 : (rd_T167 ps 0).f0 = 0
  inc : ∀ a b : Nat, a < b → b < ps.length → (rd_T167 ps a).f0 < (rd_T167 ps b).f0
  len : ∀ p ∈ ps, p.f1.length = n
  sz : ∀ p ∈ ps, ∀ s ∈ p.f1, s.size ≤ 10
  le : ∀ p ∈ ps, 0 ≤ p.f0 ∧ p.f0 ≤ 1000
  small : ps.length ≤ 20
theorem rd_page {ps : List S167} (t : Nat) (ht : t < ps.length) : rd_T167 ps t = ps[t] := by
  unfold rd_T167; rw [Int.toNat_natCast, List.getD_eq_getElem?_getD, List.getElem?_eq_getElem ht, Option.getD_some]
theorem rd_page_mem {ps : List S167} (t : Nat) (ht : t < ps.length) : rd_T167 ps t ∈ ps := by rw [rd_page t ht]; exact List.getElem_mem ht
set_option maxHeartbeats 4000000 in
set_option maxRecDepth 100000 in
theorem names_any (x0 x1 : Value) (A : Option Addr) (c : Nat) (n : Nat) (ps : List S167) (hour : Int) (w : World) (hr : Kd.C k167 w A ps.length ps) (hok : PagesOk n ps) (hh : 0 ≤ hour) :
    Calls Tryz.prog 71 #[.agg #[x0, x1, .slice A ps.length c], .int .i64 hour] w fun e w' =>
      ∃ (A1 : Option Addr) (c1 : Nat), e = .returned (.slice A1 (namesAt ps hour).length c1) ∧ (namesAt ps hour).length ≤ c1 ∧ Kd.C Kd.string w' A1 (namesAt ps hour).length (namesAt ps hour) ∧ Below w.heap.size w w' := by
  have HS := Aside0.mk (fun (W : World) (hb : Below w.heap.size w W) => bsearch_any A c ps hour W (Kd.C_below hr hb) (by have := hok.small; omega) (fun a b h1 h2 => by
    rcases Nat.lt_or_eq_of_le h1 with h | h
    · have := hok.inc a b h h2; omega
    · subst h; omega))
  have HR := Aside0.mk hr
  have HOK := Aside0.mk hok
  have hsml := hok.small
  clear hr hok
  go_enter Tryz.func71, Tryz.ntmps71
  go_wp2_with fail
  obtain ⟨W1, hW1⟩ : ∃ W1, w.alloc (.cells #[x0, x1, .slice A ps.length c] 124) = W1 := ⟨_, rfl⟩
  have hb1 : Below w.heap.size w W1 := by rw [← hW1]; exact below_alloc (Below.refl _ _) _
  have hbb : W1.heap[w.heap.size]? = some (.cells #[x0, x1, .slice A ps.length c] 124 (0, 0)) := by rw [← hW1]; exact blk_new w _
  rw [hW1]
  clear hW1
  refine (HS.out W1 hb1).mono ?_
  rintro e w2 ⟨i, rfl, hi, hb⟩
  have HB2 := Aside0.mk (below_from hb1 hb)
  have BB2 := Aside0.mk (blk_below hbb hb)
  clear hb hb1 hbb HS
  obtain ⟨⟨b0, b1, b2⟩, _, bl⟩ := blk3 BB2.out
  by_cases hfound : i < ps.length ∧ (rd_T167 ps i).f0 = hour
  · obtain ⟨hlt, heq⟩ := hfound
    have hd1 : decide (i < ps.length) = true := decide_eq_true hlt
    have hd2 : decide ((rd_T167 ps i).f0 = hour) = true := decide_eq_true heq
    have hna : namesAt ps hour = (rd_T167 ps i).f1 := namesAt_eq hlt (by omega) (fun t h1 h2 => by have := HOK.out.inc i t h1 h2; omega)
    obtain ⟨ad, A1, c1, rfl, hc0, hc1, hl1, hg1⟩ := at_T167 HR.out (i : Int) (by omega) (by omega)
    rw [Int.toNat_natCast] at hc0 hc1
    have hc1' := (HB2.out.cell (World.block_lt_of_cell? w _ hc1)).trans hc1
    clear hc0 hc1
    rw [← hna] at hc1' hl1 hg1
    have HG := Aside0.mk (And.intro hl1 (Kd.C_below hg1 HB2.out))
    have HIL := Aside0.mk hi
    clear hna hl1 hg1 heq hi
    rw [hd1, hd2]
    clear hd1 hd2
    go_wp2_with fail
    go_ret
    exact ⟨_, _, rfl, HG.out.1, HG.out.2, HB2.out⟩
  · have hd : (decide (i < ps.length) && decide ((rd_T167 ps i).f0 = hour)) = false := by
      simp only [Bool.and_eq_false_iff, decide_eq_false_iff_not]
      by_cases h1 : i < ps.length
      · exact .inr fun h2 => hfound ⟨h1, h2⟩
      · exact .inl h1
    have hpos : 0 < i := by
      rcases Nat.eq_zero_or_pos i with h | h
      · subst h
        have h1 := hi.hi 0 (Nat.le_refl _) HOK.out.ne
        have h2 := HOK.out.h0
        have h3 : rd_T167 ps ((0 : Nat) : Int) = rd_T167 ps 0 := rfl
        rw [h3, h2] at h1
        exact absurd ⟨HOK.out.ne, by rw [h3, h2]; omega⟩ hfound
      · exact h
    obtain ⟨k, rfl⟩ : ∃ k, i = k + 1 := ⟨i - 1, by omega⟩
    have hle := hi.le
    have hna : namesAt ps hour = (rd_T167 ps k).f1 := namesAt_eq (by omega) (by have := hi.lo k (by omega); omega) (fun t h1 h2 => by
      have h3 := hi.hi t (by omega) h2
      rcases Int.lt_or_eq_of_le h3 with h | h
      · exact h
      · rcases Nat.lt_or_eq_of_le (show k + 1 ≤ t by omega) with h4 | h4
        · have h5 := HOK.out.inc (k + 1) t h4 h2
          have h6 := hi.hi (k + 1) (Nat.le_refl _) (by omega)
          omega
        · exact absurd ⟨by omega, by rw [h4]; exact h.symm⟩ hfound)
    obtain ⟨ad, A1, c1, rfl, hc0, hc1, hl1, hg1⟩ := at_T167 HR.out (k : Int) (by omega) (by omega)
    rw [Int.toNat_natCast] at hc0 hc1
    have hc1' := (HB2.out.cell (World.block_lt_of_cell? w _ hc1)).trans hc1
    clear hc0 hc1
    rw [← hna] at hc1' hl1 hg1
    have HG := Aside0.mk (And.intro hl1 (Kd.C_below hg1 HB2.out))
    clear hna hl1 hg1 hi hfound hpos
    have hk1 : ((k + 1 : Nat) : Int) - 1 = k := by omega
    rw [hd]
    clear hd
    go_wp2_with fail
    go_ret
    exact ⟨_, _, rfl, HG.out.1, HG.out.2, HB2.out⟩
end Go.Proofs.YtdjlfdbnmnjccaaGreat.St
end
section
set_option linter.unusedVariables false
set_option linter.unusedSimpArgs false
namespace Go.Proofs.YtdjlfdbnmnjccaaGreat.St
open Go.Sort hiding rd
open Go.RowKit Go.Shelf Go.Proofs.YtdjlfdbnmnjccaaGreatW.PrintWords Go.Proofs.YtdjlfdbnmnjccaaGreatW.PrintLast Go.Proofs.YtdjlfdbnmnjccaaGreatW.PrintMore
structure BookGo (n : Nat) (ns : List ByteArray) (rest : List S60) (ps : List S167) : Prop where
  pages : PagesOk n ps
  sorted : rest.Pairwise (fun x y => x.f0 ≤ y.f0)
  later : ∀ c ∈ rest, ∀ p ∈ ps, p.f0 < c.f0
  ok : ∀ c ∈ rest, isChangeB c n = true
  len : ns.length = n
  sz : ∀ s ∈ ns, s.size ≤ 10
  small : ps.length + rest.length ≤ 20
theorem PagesOk.snoc {n : Nat} {ps : List S167} (h : PagesOk n ps) (q : S167) (hq : ∀ p ∈ ps, p.f0 < q.f0) (h1 : q.f1.length = n) (h2 : ∀ s ∈ q.f1, s.size ≤ 10) (h3 : 0 ≤ q.f0 ∧ q.f0 ≤ 1000) (hs : ps.length + 1 ≤ 20) : PagesOk n (ps ++ [q]) := by
  have hl : ∀ t : Nat, t < ps.length → rd_T167 (ps ++ [q]) t = rd_T167 ps t := fun t ht => by
    rw [rd_page t (by simp; omega), rd_page t ht, List.getElem_append_left ht]
  have hr : rd_T167 (ps ++ [q]) ps.length = q := by rw [rd_page ps.length (by simp)]; simp
  refine ⟨by simp, ?_, fun a b hab hb => ?_, fun p hp => ?_, fun p hp => ?_, fun p hp => ?_, by simpa using hs⟩
  · have := hl 0 h.ne
    have e : rd_T167 (ps ++ [q]) 0 = rd_T167 ps 0 := this
    rw [e]; exact h.h0
  · simp at hb
    rcases Nat.lt_or_eq_of_le (show b ≤ ps.length by omega) with hb2 | hb2
    · rw [hl a (by omega), hl b hb2]; exact h.inc a b hab hb2
    · subst hb2
      rw [hl a hab, hr]; exact hq _ (rd_page_mem a hab)
  · rcases List.mem_append.1 hp with hp | hp
    · exact h.len p hp
    · simp at hp; subst hp; exact h1
  · rcases List.mem_append.1 hp with hp | hp
    · exact h.sz p hp
    · simp at hp; subst hp; exact h2
  · rcases List.mem_append.1 hp with hp | hp
    · exact h.le p hp
    · simp at hp; subst hp; exact h3
theorem dropWhile_later {c : S60} {cs : List S60} (h : cs.Pairwise (fun x y => x.f0 ≤ y.f0)) (h2 : ∀ d ∈ cs, c.f0 ≤ d.f0) : ∀ d ∈ cs.dropWhile (fun d => decide (d.f0 = c.f0)), c.f0 < d.f0 := by
  induction cs with
  | nil => simp
  | cons x cs ih =>
    rw [List.dropWhile_cons]
    rw [List.pairwise_cons] at h
    by_cases e : x.f0 = c.f0
    · rw [if_pos (by simpa using e)]
      exact ih h.2 (fun d hd => h2 d (by simp [hd]))
    · rw [if_neg (by simpa using e)]
      have hx := h2 x (by simp)
      intro d hd
      rcases List.mem_cons.1 hd with rfl | hd
      · omega
      · have := h.1 d hd; omega
theorem bookFrom_ok {n : Nat} : ∀ (m : Nat) (ns : List ByteArray) (rest : List S60) (ps : List S167), BookGo n ns rest ps → PagesOk n (bookFrom m ns rest ps).1
  | 0, _, _, _, h => h.pages
  | m + 1, _, [], _, h => h.pages
  | m + 1, ns, c :: cs, ps, h => by
    rw [bookFrom]
    split
    · refine bookFrom_ok m _ _ _ ?_
      have hsub := List.dropWhile_sublist (fun d : S60 => decide (d.f0 = c.f0)) (l := c :: cs)
      have htk : ∀ d ∈ (c :: cs).takeWhile (fun d => decide (d.f0 = c.f0)), d ∈ c :: cs := fun d hd => (List.takeWhile_sublist _).subset hd
      have hs := List.pairwise_cons.1 h.sorted
      have hco := h.ok c (by simp)
      have hc1 : 1 ≤ c.f0 ∧ c.f0 ≤ 1000 := by unfold isChangeB at hco; simp at hco; omega
      have hlen2 : ((c :: cs).dropWhile fun d => decide (d.f0 = c.f0)).length ≤ cs.length := by
        rw [List.dropWhile_cons, if_pos (by simp)]
        exact (List.dropWhile_sublist _).length_le
      have hsm := h.small
      simp at hsm
      have hle : (setNames ns ((c :: cs).takeWhile fun d => decide (d.f0 = c.f0))).length = n := by rw [setNames_len, h.len]
      have hsz := setNames_small ns ((c :: cs).takeWhile fun d => decide (d.f0 = c.f0)) n h.sz (fun d hd => h.ok d (htk d hd))
      have hlat := dropWhile_later (c := c) h.sorted (fun d hd => by
        rcases List.mem_cons.1 hd with rfl | hd
        · omega
        · exact hs.1 d hd)
      refine ⟨h.pages.snoc ⟨c.f0, _⟩ (fun p hp => h.later c (by simp) p hp) hle hsz ⟨by show 0 ≤ c.f0; omega, hc1.2⟩ (by omega), h.sorted.sublist hsub, fun d hd p hp => ?_, fun d hd => h.ok d (hsub.subset hd), hle, hsz, ?_⟩
      · rcases List.mem_append.1 hp with hp | hp
        · exact h.later d (hsub.subset hd) p hp
        · simp at hp; subst hp; exact hlat d hd
      · simp only [List.length_append, List.length_singleton]; omega
    · exact h.pages
theorem book_ok {first : List ByteArray} {changes : List S60} (h : checkE first changes = 0) : PagesOk first.length (bookOf first changes).1 := by
  obtain ⟨h1, h2, h3, h4, h5, h6⟩ := check_ok h
  obtain ⟨hp, hso⟩ := sortC_spec changes
  refine bookFrom_ok _ _ _ _ ⟨⟨by simp, rfl, fun a b hab hb => by simp at hb; omega, ?_, ?_, ?_, by simp⟩, ?_, ?_, ?_, rfl, fun s hs => name_size (h3 s hs), ?_⟩
  · intro p hp; simp at hp; subst hp; rfl
  · intro p hp; simp at hp; subst hp; exact fun s hs => name_size (h3 s hs)
  · intro p hp; simp at hp; subst hp; exact ⟨Int.le_refl 0, by show (0 : Int) ≤ 1000; omega⟩
  · rw [List.pairwise_iff_getElem]
    intro i j hi hj hij
    exact hso i j hij hj
  · intro c hc p hp
    simp at hp; subst hp
    have := h6 c (sortC_mem hc)
    unfold isChangeB at this; simp at this
    show (0 : Int) < c.f0
    omega
  · intro c hc; exact h6 c (sortC_mem hc)
  · rw [sortC_len]; simp; omega
end Go.Proofs.YtdjlfdbnmnjccaaGreat.St
end
section
namespace Go.Proofs.YtdjlfdbnmnjccaaGreat.St
open Go.RowKit Go.Proofs.YtdjlfdbnmnjccaaGreatW.PrintWords Go.Proofs.YtdjlfdbnmnjccaaGreatW.PrintLast Go.Proofs.YtdjlfdbnmnjccaaGreatW.PrintMore
attribute [local go_sem] max2_int min2_int max_two min_two max_three min_three max_four min_four
set_option linter.unusedVariables false
set_option linter.unusedSimpArgs false
def slices_Index_string_string.l0 : Nat → List ByteArray → ByteArray → Int → Int → Option (Int)
  | 0, _, _, _, _ => none
  | k + 1, x0, x1, x7, x8 => if x8 < x7 then (if 0 ≤ x8 then (if x8 < (x0.length : Int) then (if x1.toList = (rdOf ByteArray.empty x0 x8).toList then (some x8) else (slices_Index_string_string.l0 k x0 x1 x7 (wrap64 (x8 + 1)))) else (none)) else (none)) else (some (-1))
def slices_Index_string_string.f (k : Nat) (l0 : List ByteArray) (a1 : ByteArray) : Option (Int) := slices_Index_string_string.l0 k l0 a1 (l0.length : Int) 0
theorem slices_Index_string_string.mono_l : ∀ k, (∀ y0 y1 y2 y3, LeO (slices_Index_string_string.l0 k y0 y1 y2 y3) (slices_Index_string_string.l0 (k + 1) y0 y1 y2 y3))
  | 0 => fun _ _ _ _ r h => by simp [slices_Index_string_string.l0] at h
  | k + 1 => by
    have ih0 := slices_Index_string_string.mono_l k
    · intro y0 y1 y2 y3
      unfold slices_Index_string_string.l0
      repeat' first
      | (with_reducible exact ih0 _ _ _ _)
      | (with_reducible exact LeO.refl _)
      | (with_reducible exact LeO.none _)
      | (with_reducible refine LeO.ite ?_ ?_)
      | (with_reducible refine LeO.bind ?_ (fun _ => ?_))
      | exact ih0 _ _ _ _
      | exact LeO.none _
      | refine LeO.ite ?_ ?_
      | refine LeO.bind ?_ (fun _ => ?_)
theorem slices_Index_string_string.mono : ∀ a0 a1 k, LeO (slices_Index_string_string.f k a0 a1) (slices_Index_string_string.f (k + 1) a0 a1) := by
  intro a0 a1 k
  have ih0 := slices_Index_string_string.mono_l k
  unfold slices_Index_string_string.f
  repeat' first
      | (with_reducible exact ih0 _ _ _ _)
      | (with_reducible exact LeO.refl _)
      | (with_reducible exact LeO.none _)
      | (with_reducible refine LeO.ite ?_ ?_)
      | (with_reducible refine LeO.bind ?_ (fun _ => ?_))
      | exact ih0 _ _ _ _
      | exact LeO.none _
      | refine LeO.ite ?_ ?_
      | refine LeO.bind ?_ (fun _ => ?_)
set_option maxHeartbeats 8000000 in
set_option maxRecDepth 100000 in
theorem slices_Index_string_string.calls (k : Nat) (A0 : Option Addr) (c0 : Nat) (l0 : List ByteArray) (a1 : ByteArray) (r : Int) (w : World) (hr0 : Kd.C Kd.string w A0 l0.length l0) (hc0 : l0.length ≤ c0) (h : slices_Index_string_string.f k l0 a1 = some r) :
    Calls Tryz.prog 72 #[.slice A0 l0.length c0, .string a1] w fun e w' => e = .returned (.int .i64 r) ∧ Drawn0 w w' := by
  have HR0 := Aside0.mk hr0
  have HC0 := Aside0.mk hc0
  clear hr0 hc0
  have H : (slices_Index_string_string.l0 k l0 a1 (l0.length : Int) 0) = some r := h
  clear h
  have H' := Aside0.mk H
  clear H
  go_enter Tryz.func72, Tryz.ntmps72
  go_wp2
  go_loopg [8] k (fun kq v8 w' => ∃ (x8_1 : Int), v8 = .int .i64 x8_1 ∧ Aside0 (slices_Index_string_string.l0 kq l0 a1 (l0.length : Int) x8_1 = some r) ∧ Aside0 (kq ≤ k) ∧ Drawn0 w w')
  case atStart => exact ⟨(0), (by first | rfl | (simp; done) | (simp [*]; done)), H', ⟨Nat.le_refl _⟩, by repeat (first | exact Drawn0.refl _ | apply Drawn0.step)⟩
  case round =>
    clear H'
    try clear p2
    obtain ⟨x8_1, rfl, HA, HK1, ⟨m1, rfl⟩⟩ := hrel
    cases gk with
    | zero => exact absurd HA.out (by simp [slices_Index_string_string.l0])
    | succ k1 =>
      have H := HA.out
      clear HA
      simp only [slices_Index_string_string.l0] at H
      by_cases c3 : x8_1 < (l0.length : Int)
      · rw [if_pos c3] at H
        have c3b0 : decide (x8_1 < (l0.length : Int)) = true := decide_eq_true c3
        clear c3
        by_cases c4 : 0 ≤ x8_1
        · rw [if_pos c4] at H
          have c4b0 : decide (0 ≤ x8_1) = true := decide_eq_true c4
          clear c4
          by_cases c5 : x8_1 < (l0.length : Int)
          · rw [if_pos c5] at H
            have c5b0 : decide (x8_1 < (l0.length : Int)) = true := decide_eq_true c5
            clear c5
            by_cases c6 : a1.toList = (rdOf ByteArray.empty l0 x8_1).toList
            · rw [if_pos c6] at H
              have c6b0 : (a1.toList == (rdOf ByteArray.empty l0 x8_1).toList) = true := beq_iff_eq.mpr c6
              have c6b1 : (a1.toList != (rdOf ByteArray.empty l0 x8_1).toList) = false := bne_eq_false_iff_eq.mpr c6
              clear c6
              obtain rfl := Option.some.inj H
              have p262 : 0 ≤ (x8_1 : Int) := of_decide_eq_true (by first | (with_reducible assumption) | assumption)
              have q262 : x8_1 < (l0.length : Int) := of_decide_eq_true (by first | (with_reducible assumption) | assumption)
              obtain ⟨ad262, e262, hx262_0⟩ := Kd.at_string HR0.out x8_1 p262 q262
              cases e262
              replace p262 := eq_true p262
              replace q262 := eq_true q262
              go_wp2
              go_ret
              exact ⟨by first | rfl | (simp; done) | (simp [*]; done), by repeat (first | exact Drawn0.refl _ | apply Drawn0.step)⟩
            · rw [if_neg c6] at H
              have c6b0 : (a1.toList == (rdOf ByteArray.empty l0 x8_1).toList) = false := beq_eq_false_iff_ne.mpr c6
              have c6b1 : (a1.toList != (rdOf ByteArray.empty l0 x8_1).toList) = true := bne_iff_ne.mpr c6
              have H' := Aside0.mk H
              clear H
              have p262 : 0 ≤ (x8_1 : Int) := of_decide_eq_true (by first | (with_reducible assumption) | assumption)
              have q262 : x8_1 < (l0.length : Int) := of_decide_eq_true (by first | (with_reducible assumption) | assumption)
              obtain ⟨ad262, e262, hx262_0⟩ := Kd.at_string HR0.out x8_1 p262 q262
              cases e262
              replace p262 := eq_true p262
              replace q262 := eq_true q262
              go_wp2
              go_roundg k1
              case measure => have := HK1.out; omega
              case rel => exact ⟨(wrap64 (x8_1 + 1)), (by first | rfl | (simp; done) | (simp [*]; done)), H', ⟨by have := HK1.out; omega⟩, by repeat (first | exact Drawn0.refl _ | apply Drawn0.step)⟩
          · rw [if_neg c5] at H
            exact absurd H (by simp)
        · rw [if_neg c4] at H
          exact absurd H (by simp)
      · rw [if_neg c3] at H
        have c3b0 : decide (x8_1 < (l0.length : Int)) = false := decide_eq_false c3
        clear c3
        obtain rfl := Option.some.inj H
        go_wp2
        go_ret
        exact ⟨by first | rfl | (simp; done) | (simp [*]; done), by repeat (first | exact Drawn0.refl _ | apply Drawn0.step)⟩
end Go.Proofs.YtdjlfdbnmnjccaaGreat.St
end
