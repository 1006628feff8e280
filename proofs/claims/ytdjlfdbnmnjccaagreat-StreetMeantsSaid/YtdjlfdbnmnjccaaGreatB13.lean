/- A part of the proofs of the laws of this seat: the walks of the program's functions, and lemmas. They hold without conditions. -/
import Derived.StillTail
import Derived.StillTailTactics
import Derived.Deep.Quiet
import Derived.OrdersIn
import Derived.OrdersHeld
import Derived.Test.YtdjlfdbnmnjccaaGreatB01
import Derived.Test.YtdjlfdbnmnjccaaGreatB12
set_option linter.all false
set_option linter.unusedSectionVars false
section
set_option linter.unusedVariables false
set_option linter.unusedSimpArgs false
namespace Go.Proofs.YtdjlfdbnmnjccaaGreat.St
open Go.Sort hiding rd
open Go.RowKit Go.Shelf Go.Proofs.YtdjlfdbnmnjccaaGreatW.PrintWords Go.Proofs.YtdjlfdbnmnjccaaGreatW.PrintLast Go.Proofs.YtdjlfdbnmnjccaaGreatW.PrintMore
structure NamesAt (W : World) (base : Nat) (ps : List S167) (vals : Nat → Value) : Prop where
  at_ : ∀ k : Nat, k < ps.length → Kd.R Kd.string 9 W base (fun _ => True) (vals k) (rd_T167 ps k).f1
theorem pagesAt_of_R {W : World} {base : Nat} {ok : Nat → Prop} {v : Value} {ps : List S167} (h : Kd.R k167 167 W base ok v ps) (hne : 0 < ps.length) :
    ∃ (g c : Nat) (vals : Nat → Value), v = .slice (some ⟨g, 0, none⟩) ps.length c ∧ base ≤ g ∧ PagesAt W g ps vals ∧ NamesAt W base ps vals := by
  obtain ⟨g, c, rfl, hg1, hg2, cells, hg3⟩ := Kd.R_form h hne
  have hC := (Kd.R_reads' h).2.2
  obtain ⟨_, inner, hown, hreps⟩ := h
  have hk : ∀ k : Nat, ∃ v : Value, k < ps.length → (W.cell? ⟨g, k * 2, none⟩ = some (.int .i64 (rd_T167 ps k).f0) ∧ W.cell? ⟨g, k * 2 + 1, none⟩ = some v ∧
      Kd.R Kd.string 9 W base (fun _ => True) v (rd_T167 ps k).f1) := by
    intro k
    by_cases hlt : k < ps.length
    · obtain ⟨v1, hv1, hR⟩ := k167_openM (hreps.2 k (rd_T167 ps k) (by rw [rd_page k hlt]; exact List.getElem?_eq_getElem hlt))
      obtain ⟨ad, A1, c1, e, hc0, hc1, hl1, hg4⟩ := at_T167 hC (k : Int) (by omega) (by omega)
      cases e
      rw [Int.toNat_natCast] at hc0 hc1
      have e1 : (⟨g, 0, none⟩ : Addr).add (k * 2) = ⟨g, k * 2, none⟩ := by simp [Addr.add]; omega
      rw [e1] at hc0 hc1
      refine ⟨v1, fun _ => ⟨hc0, ?_, Kd.R_mono hR (fun _ _ => trivial)⟩⟩
      have h1 : inner[k * 2 + 1]? = some v1 := by
        have h2 := congrArg (fun l : List Value => l[1]?) hv1
        have hsz : k167.sz = 2 := rfl
        rw [hsz] at h2
        simpa [List.getElem?_take, List.getElem?_drop] using h2
      rcases hown.2 with ⟨e, _⟩ | ⟨g', cap', cur, e0, _, hcur, _, _, _, ht⟩
      · cases e
      · cases e0
        refine (blk_cell hcur (k * 2 + 1)).trans ?_
        rw [← ht, List.getElem?_take] at h1
        split at h1
        · rwa [Array.getElem?_toList] at h1
        · cases h1
    · exact ⟨.slice none 0 0, fun h => absurd h hlt⟩
  obtain ⟨vals, hv⟩ := Classical.skolem.1 hk
  refine ⟨g, c, vals, rfl, hg1, ⟨⟨cells, hg3⟩, fun k hk => (hv k hk).1, fun k hk => (hv k hk).2.1, fun k hk => ?_⟩, ⟨fun k hk => (hv k hk).2.2⟩⟩
  obtain ⟨A, c, e⟩ := Kd.R_slice (hv k hk).2.2
  exact ⟨A, _, c, e⟩
end Go.Proofs.YtdjlfdbnmnjccaaGreat.St
end
section
set_option linter.unusedVariables false
set_option linter.unusedSimpArgs false
namespace Go.Proofs.YtdjlfdbnmnjccaaGreat.St
open Go.Sort hiding rd
open Go.RowKit Go.Shelf Go.Proofs.YtdjlfdbnmnjccaaGreatW.PrintWords Go.Proofs.YtdjlfdbnmnjccaaGreatW.PrintLast Go.Proofs.YtdjlfdbnmnjccaaGreatW.PrintMore
def isSeenB (o : S89) (n : Int) : Bool := (decide (0 ≤ o.f0) && decide (o.f0 ≤ n - 1)) && isNameB o.f1
set_option maxHeartbeats 2000000 in
set_option maxRecDepth 100000 in
theorem pred_seen (B : Nat) (A0 : Option Addr) (c0 n : Nat) (hn : n < 100000) (w : World) (h0 : w.cell? ⟨B, 0, none⟩ = some (.slice A0 n c0)) :
    Pred 116 #[.pointer (some ⟨B, 0, none⟩)] enc89 (fun c => !isSeenB c n) w := by
  intro W x hb
  have z0 := (hb.cell (World.block_lt_of_cell? w _ h0)).trans h0
  have hlt := Nat.lt_of_lt_of_le (World.block_lt_of_cell? w _ h0) hb.size
  clear h0 hb
  unfold enc89
  go_enter Tryz.func116, Tryz.ntmps116
  go_wp2_with fail
  obtain ⟨W1, hW1⟩ : ∃ W1, (W.alloc (.cells #[.int .i64 x.f0, .string x.f1] 89)).alloc (.cells #[.int .i64 x.f0] 3) = W1 := ⟨_, rfl⟩
  have hbk : W1.heap[W.heap.size]? = some (.cells #[.int .i64 x.f0, .string x.f1] 89 (0, 0)) := by rw [← hW1]; exact blk_alloc (blk_new W _) _
  have hB1 : Below W.heap.size W W1 := by rw [← hW1]; exact below_alloc (below_alloc (Below.refl _ _) _) _
  have hcell : W1.cell? ⟨W.heap.size + 1, 0, none⟩ = some (.int .i64 x.f0) := by
    rw [← hW1]
    have := blk_new (W.alloc (.cells #[.int .i64 x.f0, .string x.f1] 89)) (.cells #[.int .i64 x.f0] 3)
    rw [World.size_alloc] at this
    exact (blk_cell this 0).trans rfl
  rw [hW1]
  clear hW1
  refine (within_one 0 _ x.f0 (W.heap.size + 1) W1 hcell).mono ?_
  rintro e w2 ⟨rfl, hb⟩
  have HB2 := Aside0.mk (below_from hB1 hb)
  have BK2 := Aside0.mk (blk_below hbk hb)
  clear hb hbk hB1 hcell z0
  obtain ⟨b1, hb1⟩ : ∃ b, (decide (0 ≤ x.f0) && decide (x.f0 ≤ (n : Int) - 1)) = b := ⟨_, rfl⟩
  have HV := Aside0.mk (show isSeenB x n = (b1 && isNameB x.f1) from by unfold isSeenB; rw [hb1])
  rw [hb1]
  clear hb1
  obtain ⟨y0, y1, _⟩ := blk2 BK2.out
  cases b1 with
  | false =>
    go_wp2_with fail
    go_ret
    exact ⟨by rw [HV.out]; rfl, HB2.out⟩
  | true =>
    go_wp2_with fail
    refine (street_isName.calls x.f1 _ w2 rfl).mono ?_
    rintro e w4 ⟨rfl, hb⟩
    have HB4 := Aside0.mk (below_from HB2.out hb)
    clear hb y0 y1 BK2 HB2
    obtain ⟨b3, hb3⟩ : ∃ b, isNameB x.f1 = b := ⟨_, rfl⟩
    rw [hb3] at HV ⊢
    clear hb3
    go_wp2_with fail
    go_ret
    exact ⟨by rw [HV.out]; rfl, HB4.out⟩
def openListE (first : List ByteArray) (changes : List S60) (lines : List S89) : Int :=
  if openE first changes ≠ 0 then openE first changes else if 6 < lines.length then 5 else if lines.any (fun x => !isSeenB x first.length) = true then 2 else 0
theorem blk4_self {W : World} {g : Nat} {x0 x1 x2 x3 : Value} {t : TypeId} (h : W.heap[g]? = some (.cells #[x0, x1, x2, x3] t (0, 0))) (y0 y1 y2 y3 : Value) :
    ((((W.setCell ⟨g, 0, none⟩ y0).setCell ⟨g, 1, none⟩ y1).setCell ⟨g, 2, none⟩ y2).setCell ⟨g, 3, none⟩ y3).heap[g]? = some (.cells #[y0, y1, y2, y3] t (0, 0)) :=
  blk_put (blk_put (blk_put (blk_put h 0 y0 rfl) 1 y1 rfl) 2 y2 rfl) 3 y3 rfl
theorem below4 {w W : World} {g : Nat} (h : Below w.heap.size w W) (hg : w.heap.size ≤ g) (y0 y1 y2 y3 : Value) : Below w.heap.size w ((((W.setCell ⟨g, 0, none⟩ y0).setCell ⟨g, 1, none⟩ y1).setCell ⟨g, 2, none⟩ y2).setCell ⟨g, 3, none⟩ y3) :=
  (((h.setCell (p := ⟨g, 0, none⟩) hg _).setCell (p := ⟨g, 1, none⟩) hg _).setCell (p := ⟨g, 2, none⟩) hg _).setCell (p := ⟨g, 3, none⟩) hg _
theorem R_set4 {α : Type} {d : Kd α} {e base : Nat} {ok : Nat → Prop} {W : World} {v : Value} {xs : List α} {g : Nat} {x0 x1 x2 x3 : Value} {t : TypeId} (hv : d.R e W base ok v xs) (h : W.heap[g]? = some (.cells #[x0, x1, x2, x3] t (0, 0))) (ht : ∀ q, q ∈ e :: d.E → q ≠ t) (y0 y1 y2 y3 : Value) :
    d.R e ((((W.setCell ⟨g, 0, none⟩ y0).setCell ⟨g, 1, none⟩ y1).setCell ⟨g, 2, none⟩ y2).setCell ⟨g, 3, none⟩ y3) base ok v xs :=
  Kd.R_set (Kd.R_set (Kd.R_set (Kd.R_set hv h ht 0 y0) (blk_put h 0 y0 rfl) ht 1 y1) (blk_put (blk_put h 0 y0 rfl) 1 y1 rfl) ht 2 y2) (blk_put (blk_put (blk_put h 0 y0 rfl) 1 y1 rfl) 2 y2 rfl) ht 3 y3
theorem blk4 {W : World} {g : Nat} {x0 x1 x2 x3 : Value} {t : TypeId} (h : W.heap[g]? = some (.cells #[x0, x1, x2, x3] t (0, 0))) :
    (W.cell? ⟨g, 0, none⟩ = some x0 ∧ W.cell? ⟨g, 1, none⟩ = some x1 ∧ W.cell? ⟨g, 2, none⟩ = some x2 ∧ W.cell? ⟨g, 3, none⟩ = some x3) ∧
    (W.frozen? ⟨g, 0, none⟩ = false ∧ W.frozen? ⟨g, 1, none⟩ = false ∧ W.frozen? ⟨g, 2, none⟩ = false ∧ W.frozen? ⟨g, 3, none⟩ = false) ∧ g < W.heap.size :=
  ⟨⟨(blk_cell h 0).trans rfl, (blk_cell h 1).trans rfl, (blk_cell h 2).trans rfl, (blk_cell h 3).trans rfl⟩, ⟨blk_frozen h 0, blk_frozen h 1, blk_frozen h 2, blk_frozen h 3⟩, blk_lt h⟩
set_option maxHeartbeats 4000000 in
set_option maxRecDepth 100000 in
theorem openList_any (A0 : Option Addr) (c0 : Nat) (first : List ByteArray) (A1 : Option Addr) (c1 : Nat) (changes : List S60) (Al : Option Addr) (cl : Nat) (lines : List S89) (w : World)
    (hr0 : Kd.C Kd.string w A0 first.length first) (hc0 : first.length ≤ c0) (hr1 : Kd.C k60 w A1 changes.length changes) (hc1 : changes.length ≤ c1) (hrl : Kd.C k89 w Al lines.length lines) :
    Calls Tryz.prog 86 #[.agg #[.slice A0 first.length c0, .slice A1 changes.length c1], .slice Al lines.length cl] w fun e w' =>
      ∃ (B0 : Option Addr) (n0 d0 : Nat) (B1 : Option Addr) (n1 d1 : Nat) (Bp : Option Addr) (np dp : Nat) (Bl : Option Addr) (nl dl : Nat), e = .returned (.tuple #[.agg #[.slice B0 n0 d0, .slice B1 n1 d1, .slice Bp np dp, .slice Bl nl dl], .int .i64 (openListE first changes lines)]) ∧
        (openListE first changes lines = 0 → Value.slice B0 n0 d0 = .slice A0 first.length c0 ∧ Value.slice B1 n1 d1 = .slice A1 changes.length c1 ∧ Value.slice Bl nl dl = .slice Al lines.length cl ∧
        Kd.R k167 167 w' w.heap.size (fun _ => True) (.slice Bp np dp) (pagesOf first changes)) ∧ Below w.heap.size w w' := by
  have hbig : lines.length ≤ 9223372036854775807 := hrl.2.1
  have HOP := Aside0.mk (fun (W : World) (hb : Below w.heap.size w W) => open_any A0 c0 first A1 c1 changes W (Kd.C_below hr0 hb) hc0 (Kd.C_below hr1 hb) hc1)
  have HRL := Aside0.mk hrl
  have eg := Aside0.mk (enters_of Tryz.func116 (by kernel_rfl) rfl)
  clear hr0 hr1 hrl
  go_enter Tryz.func86, Tryz.ntmps86
  go_wp2_with fail
  obtain ⟨W1, hW1⟩ : ∃ W1, (w.alloc (.cells #[.slice A0 first.length c0, .slice A1 changes.length c1] 25)).alloc (.cells #[.slice none 0 0, .slice none 0 0, .slice none 0 0, .slice none 0 0] 147) = W1 := ⟨_, rfl⟩
  have hb1 : Below w.heap.size w W1 := by rw [← hW1]; exact below_alloc (below_alloc (Below.refl _ _) _) _
  have hbt : W1.heap[w.heap.size]? = some (.cells #[.slice A0 first.length c0, .slice A1 changes.length c1] 25 (0, 0)) := by rw [← hW1]; exact blk_alloc (blk_new w _) _
  have hbl : W1.heap[w.heap.size + 1]? = some (.cells #[.slice none 0 0, .slice none 0 0, .slice none 0 0, .slice none 0 0] 147 (0, 0)) := by
    rw [← hW1]
    have := blk_new (w.alloc (.cells #[.slice A0 first.length c0, .slice A1 changes.length c1] 25)) (.cells #[.slice none 0 0, .slice none 0 0, .slice none 0 0, .slice none 0 0] 147)
    rwa [World.size_alloc] at this
  rw [hW1]
  clear hW1
  refine (HOP.out W1 hb1).mono ?_
  rintro e w2 ⟨B0, n0, d0, B1, n1, d1, Bp, np, dp, rfl, hop, hb⟩
  obtain ⟨oe, hoe⟩ : ∃ oe, openE first changes = oe := ⟨_, rfl⟩
  rw [hoe]
  have HB2 := Aside0.mk (below_from hb1 hb)
  have BT2 := Aside0.mk (blk_below hbt hb)
  have BL2 := Aside0.mk (blk_below hbl hb)
  have HS := Aside0.mk hb1.size
  clear hb hb1 hbt hbl HOP
  obtain ⟨W3, hW3⟩ : ∃ W3, w2.alloc (.cells #[.slice B0 n0 d0, .slice B1 n1 d1, .slice Bp np dp] 124) = W3 := ⟨_, rfl⟩
  have HB3 := Aside0.mk (show Below w.heap.size w W3 from by rw [← hW3]; exact below_alloc HB2.out _)
  have BT3 := Aside0.mk (show W3.heap[w.heap.size]? = some (.cells #[.slice A0 first.length c0, .slice A1 changes.length c1] 25 (0, 0)) from by rw [← hW3]; exact blk_alloc BT2.out _)
  have BL3 := Aside0.mk (show W3.heap[w.heap.size + 1]? = some (.cells #[.slice none 0 0, .slice none 0 0, .slice none 0 0, .slice none 0 0] 147 (0, 0)) from by rw [← hW3]; exact blk_alloc BL2.out _)
  have BB3 := Aside0.mk (show W3.heap[w2.heap.size]? = some (.cells #[.slice B0 n0 d0, .slice B1 n1 d1, .slice Bp np dp] 124 (0, 0)) from by rw [← hW3]; exact blk_new w2 _)
  obtain ⟨⟨l0, l1, l2, l3⟩, ⟨lf0, lf1, lf2, lf3⟩, ll⟩ := blk4 BL3.out
  by_cases h0 : oe = 0
  · subst h0
    obtain ⟨e0, e1, hp⟩ := hop hoe
    have HP3 := Aside0.mk (show Kd.R k167 167 W3 w.heap.size (fun _ => True) (.slice Bp np dp) (bookOf first changes).1 from by rw [← hW3]; exact Kd.R_alloc (Kd.R_lower hp HS.out) _)
    have HE := Aside0.mk (And.intro e0 e1)
    have HOE := Aside0.mk hoe
    obtain ⟨hf1, hf2, _⟩ := check_ok (open_zero hoe).1
    clear hp hoe HS HB2 BT2 BL2 hop e0 e1
    by_cases h6 : 6 < lines.length
    · have h6z : (6 : Int) < (lines.length : Int) := by omega
      have HN := Aside0.mk (show openListE first changes lines = 5 from by unfold openListE; rw [if_neg (by rw [HOE.out]; simp), if_pos h6])
      clear h6
      go_wp2_with fail
      clear hW3
      obtain ⟨W', hW'⟩ : ∃ W', ((((W3.setCell ⟨w.heap.size + 1, 0, none⟩ (.slice none 0 0)).setCell ⟨w.heap.size + 1, 1, none⟩ (.slice none 0 0)).setCell ⟨w.heap.size + 1, 2, none⟩ (.slice none 0 0)).setCell ⟨w.heap.size + 1, 3, none⟩ (.slice none 0 0)) = W' := ⟨_, rfl⟩
      have JW := blk4_self BL3.out (.slice none 0 0) (.slice none 0 0) (.slice none 0 0) (.slice none 0 0)
      have HBW := below4 HB3.out (g := w.heap.size + 1) (by omega) (.slice none 0 0) (.slice none 0 0) (.slice none 0 0) (.slice none 0 0)
      rw [hW'] at JW HBW ⊢
      obtain ⟨⟨q0, q1, q2, q3⟩, _, _⟩ := blk4 JW
      rw [HN.out]
      refine bodyPost_ret (v := .tuple #[.agg #[.slice none 0 0, .slice none 0 0, .slice none 0 0, .slice none 0 0], .int .i64 5]) (by simp [results, Tryz.results86, go_sem, q0, q1, q2, q3]) rfl ?_
      exact ⟨_, _, _, _, _, _, _, _, _, _, _, _, rfl, fun h => absurd h (by decide), HBW⟩
    · have h6z : ¬ (6 : Int) < (lines.length : Int) := by omega
      obtain ⟨t0, t1, t2⟩ := blk2 BT3.out
      have HC := Aside0.mk (containsFunc_StreetSeen 116 #[.pointer (some ⟨w.heap.size, 0, none⟩)] eg.out (fun c => !isSeenB c first.length) Al cl lines W3 (pred_seen w.heap.size A0 c0 first.length (by omega) W3 t0) (Kd.C_below HRL.out HB3.out) hbig)
      obtain ⟨b, hb⟩ : ∃ b, lines.any (fun c => !isSeenB c first.length) = b := ⟨_, rfl⟩
      rw [hb] at HC
      have HN := Aside0.mk (show openListE first changes lines = if b = true then 2 else 0 from by unfold openListE; rw [if_neg (by rw [HOE.out]; simp), if_neg h6, hb])
      clear hb h6
      go_wp2_with fail
      clear hW3
      refine HC.out.mono ?_
      rintro e w4 ⟨rfl, hb⟩
      have HB4 := Aside0.mk (below_from HB3.out hb)
      have BL4 := Aside0.mk (blk_below BL3.out hb)
      have BB4 := Aside0.mk (blk_below BB3.out hb)
      have HP4 := Aside0.mk (Kd.R_below HP3.out hb)
      clear hb HC HB3 BT3 BL3 BB3 HP3 l0 l1 l2 l3 lf0 lf1 lf2 lf3 ll t0 t1 t2
      obtain ⟨⟨l0, l1, l2, l3⟩, ⟨lf0, lf1, lf2, lf3⟩, ll⟩ := blk4 BL4.out
      obtain ⟨⟨z0, z1, z2⟩, _, zl⟩ := blk3 BB4.out
      cases b with
      | true =>
        go_wp2_with fail
        obtain ⟨W', hW'⟩ : ∃ W', ((((w4.setCell ⟨w.heap.size + 1, 0, none⟩ (.slice none 0 0)).setCell ⟨w.heap.size + 1, 1, none⟩ (.slice none 0 0)).setCell ⟨w.heap.size + 1, 2, none⟩ (.slice none 0 0)).setCell ⟨w.heap.size + 1, 3, none⟩ (.slice none 0 0)) = W' := ⟨_, rfl⟩
        have JW := blk4_self BL4.out (.slice none 0 0) (.slice none 0 0) (.slice none 0 0) (.slice none 0 0)
        have HBW := below4 HB4.out (g := w.heap.size + 1) (by omega) (.slice none 0 0) (.slice none 0 0) (.slice none 0 0) (.slice none 0 0)
        rw [hW'] at JW HBW ⊢
        obtain ⟨⟨q0, q1, q2, q3⟩, _, _⟩ := blk4 JW
        rw [HN.out]
        refine bodyPost_ret (v := .tuple #[.agg #[.slice none 0 0, .slice none 0 0, .slice none 0 0, .slice none 0 0], .int .i64 2]) (by simp [results, Tryz.results86, go_sem, q0, q1, q2, q3]) rfl ?_
        exact ⟨_, _, _, _, _, _, _, _, _, _, _, _, rfl, fun h => absurd h (by decide), HBW⟩
      | false =>
        go_wp2_with fail
        obtain ⟨W', hW'⟩ : ∃ W', ((((w4.setCell ⟨w.heap.size + 1, 0, none⟩ (.slice B0 n0 d0)).setCell ⟨w.heap.size + 1, 1, none⟩ (.slice B1 n1 d1)).setCell ⟨w.heap.size + 1, 2, none⟩ (.slice Bp np dp)).setCell ⟨w.heap.size + 1, 3, none⟩ (.slice Al lines.length cl)) = W' := ⟨_, rfl⟩
        have JW := blk4_self BL4.out (.slice B0 n0 d0) (.slice B1 n1 d1) (.slice Bp np dp) (.slice Al lines.length cl)
        have HBW := below4 HB4.out (g := w.heap.size + 1) (by omega) (.slice B0 n0 d0) (.slice B1 n1 d1) (.slice Bp np dp) (.slice Al lines.length cl)
        have EXH := R_set4 HP4.out BL4.out (by decide) (.slice B0 n0 d0) (.slice B1 n1 d1) (.slice Bp np dp) (.slice Al lines.length cl)
        rw [hW'] at JW HBW EXH ⊢
        obtain ⟨⟨q0, q1, q2, q3⟩, _, _⟩ := blk4 JW
        rw [HN.out]
        refine bodyPost_ret (v := .tuple #[.agg #[.slice B0 n0 d0, .slice B1 n1 d1, .slice Bp np dp, .slice Al lines.length cl], .int .i64 0]) (by simp [results, Tryz.results86, go_sem, q0, q1, q2, q3]) rfl ?_
        exact ⟨_, _, _, _, _, _, _, _, _, _, _, _, rfl, fun _ => ⟨HE.out.1, HE.out.2, rfl, EXH⟩, HBW⟩
  · have h0' : (oe != 0) = true := by simp [h0]
    have HN := Aside0.mk (show openListE first changes lines = oe from by unfold openListE; rw [if_pos (by rw [hoe]; exact h0), hoe])
    have H0 := Aside0.mk h0
    clear h0 hop hoe
    go_wp2_with fail
    clear hW3
    obtain ⟨W', hW'⟩ : ∃ W', ((((W3.setCell ⟨w.heap.size + 1, 0, none⟩ (.slice none 0 0)).setCell ⟨w.heap.size + 1, 1, none⟩ (.slice none 0 0)).setCell ⟨w.heap.size + 1, 2, none⟩ (.slice none 0 0)).setCell ⟨w.heap.size + 1, 3, none⟩ (.slice none 0 0)) = W' := ⟨_, rfl⟩
    have JW := blk4_self BL3.out (.slice none 0 0) (.slice none 0 0) (.slice none 0 0) (.slice none 0 0)
    have HBW := below4 HB3.out (g := w.heap.size + 1) (by omega) (.slice none 0 0) (.slice none 0 0) (.slice none 0 0) (.slice none 0 0)
    rw [hW'] at JW HBW ⊢
    obtain ⟨⟨q0, q1, q2, q3⟩, _, _⟩ := blk4 JW
    rw [HN.out]
    refine bodyPost_ret (v := .tuple #[.agg #[.slice none 0 0, .slice none 0 0, .slice none 0 0, .slice none 0 0], .int .i64 oe]) (by simp [results, Tryz.results86, go_sem, q0, q1, q2, q3]) rfl ?_
    exact ⟨_, _, _, _, _, _, _, _, _, _, _, _, rfl, fun h => absurd h H0.out, HBW⟩
end Go.Proofs.YtdjlfdbnmnjccaaGreat.St
end
section
set_option linter.unusedVariables false
set_option linter.unusedSimpArgs false
namespace Go.Proofs.YtdjlfdbnmnjccaaGreat.St
open Go.Sort hiding rd
open Go.RowKit Go.Shelf Go.Proofs.YtdjlfdbnmnjccaaGreatW.PrintWords Go.Proofs.YtdjlfdbnmnjccaaGreatW.PrintLast Go.Proofs.YtdjlfdbnmnjccaaGreatW.PrintMore
def noDefer (ops : Array Oper) : Bool := ops.toList.all fun o => match o.op with | .defer _ => false | _ => true
theorem noDefer_spec {ops : Array Oper} (h : noDefer ops = true) {i : Nat} {o : Oper} (ho : ops[i]? = some o) : ∀ c, o.op ≠ .defer c := by
  intro c hc
  unfold noDefer at h
  rw [List.all_eq_true] at h
  have hm : o ∈ ops.toList := by
    rw [← Array.getElem?_toList] at ho
    exact List.mem_of_getElem? ho
  have := h o hm
  rw [hc] at this
  simp at this
theorem rowsIn_wide {n l : Nat} {P : Program} {row : String} {args : Array Value} {w : World} {R : Value → World → Prop} (h : Rows P row args w R) : RowsIn (Fence.wide.inRound l) n P row args w R := by
  intro c cs _
  obtain ⟨v, w', r, s⟩ := h c cs
  exact ⟨v, w', r, stepsIn_wide.2 s⟩
theorem operWp_round {n l : Nat} {P : Program} {o : Oper} {a : Act} {w : World} {K : Act → World → Prop} {Q : Exit → Act → World → Prop} (hd : ∀ c, o.op ≠ .defer c) (h : o.wp P a w K Q) : o.wpIn (Fence.wide.inRound l) n P a w K Q := by
  refine ⟨fun _ _ => trivial, ?_⟩
  rw [Oper.semAt_eq _ _ _ hd]
  unfold Oper.wp at h
  generalize (execOp a.eval o).run P w = r at h
  cases r with
  | ok x w' =>
    cases x <;> simp only [Oper.upon, Oper.uponIn] at h ⊢ <;>
      first
        | exact h
        | exact ⟨fun hh => by simp [Fence.wide] at hh, (callsIn_wide.2 h).inRound l⟩
        | exact ⟨fun hh => by simp [Fence.wide] at hh, rowsIn_wide h⟩
  | halt x w' => cases x <;> simp only [Oper.upon, Oper.uponIn] at h ⊢ <;> exact h
theorem wpOp_round {n l : Nat} {P : Program} {ops : Array Oper} {Q : Exit → Act → World → Prop} (hQ : ¬ LetsOut Q) (hd : noDefer ops = true) {i : Nat} {K K' : Act → World → Prop} {a : Act} {w : World} (hK : ∀ a w, K a w → K' a w)
    (h : wpOp P ops Q i K a w) : wpOpIn (Fence.wide.inRound l) n P ops Q i K' a w := by
  unfold wpOp at h
  unfold wpOpIn
  split at h
  · rename_i e
    simp only [e]
    exact hK _ _ h
  · rename_i o ho
    simp only [ho]
    split at h
    · rename_i hw
      rw [if_pos hw]
      rcases h with h | ⟨_, h⟩
      · exact Oper.wpIn_mono hK (operWp_round (noDefer_spec hd ho) h)
      · exact absurd h hQ
    · rename_i hw
      rw [if_neg hw]
      exact ⟨fun _ _ => trivial, hK _ _ h⟩
theorem wpAny_round {n l : Nat} {P : Program} {md : Region.Mode} {ops : Array Oper} {Q : Exit → Act → World → Prop} (hQ : ¬ LetsOut Q) (hd : noDefer ops = true) : ∀ (fuel : Nat) (listed : Array Bool) (a : Act) (w : World),
    wpAny P md ops Q fuel listed a w → wpAnyIn (Fence.wide.inRound l) n P md ops Q fuel listed a w
  | 0, _, _, _, h => h
  | fuel + 1, _, _, _, h => ⟨h.1, fun i hi => wpOp_round hQ hd (wpAny_round hQ hd fuel _) (h.2 i hi)⟩
def OnlyN (Q : Exit → Act → World → Prop) : Exit → Act → World → Prop
  | .normal, a, w => Q .normal a w
  | _, _, _ => False
theorem onlyN_mk {Q : Exit → Act → World → Prop} {a : Act} {w : World} (h : Q .normal a w) : OnlyN Q .normal a w := h
theorem onlyN_out (Q : Exit → Act → World → Prop) : ¬ LetsOut (OnlyN Q) := fun h => by
  obtain ⟨_, _, h⟩ := h
  exact h
theorem onlyN_imp {Q : Exit → Act → World → Prop} (e : Exit) (a : Act) (w : World) (h : OnlyN Q e a w) : Q e a w := by
  cases e <;> first | exact h | exact h.elim
theorem round_any {n l id : Nat} {P : Program} {ops : Array Oper} {Q : Exit → Act → World → Prop} {a : Act} {w : World} (hm : P.follows .mixedOrders = true) (hd : noDefer ops = true)
    (h : wpAny P .any ops (OnlyN Q) ops.size (Array.replicate ops.size false) a { w with drawn := w.drawn + 1 }) : (Code.region id ops true).wpIn (Fence.wide.inRound l) n P Q a w :=
  wpIn_mono (wpIn_region_any hm (wpAny_round (onlyN_out Q) hd _ _ _ _ h)) onlyN_imp
theorem listIn_round0 {n l : Nat} {P : Program} {ops : Array Oper} {Q : Exit → Act → World → Prop} (hQ : ¬ LetsOut Q) : ∀ (ls : List Oper) (a : Act) (w : World), (ls.all fun o => match o.op with | .defer _ => false | _ => true) = true →
    wpList P ops Q ls a w → wpListIn (Fence.wide.inRound l) n P ops Q ls a w
  | [], _, _, _, h => h
  | o :: ls, a, w, hd, h => by
    simp only [List.all_cons, Bool.and_eq_true] at hd
    have ho : ∀ c, o.op ≠ .defer c := fun c hc => by have := hd.1; rw [hc] at this; cases this
    simp only [wpList] at h
    simp only [wpListIn]
    split at h
    · rename_i hw
      rw [if_pos hw]
      rcases h with h | ⟨_, h⟩
      · exact Oper.wpIn_mono (fun a' w' h' => listIn_round0 hQ ls a' w' hd.2 h') (operWp_round ho h)
      · exact absurd h hQ
    · rename_i hw
      rw [if_neg hw]
      exact ⟨fun _ _ => trivial, listIn_round0 hQ ls _ w hd.2 h⟩
theorem wpListIn_imp {F : Fence} {n : Nat} {P : Program} {ops : Array Oper} {Q Q' : Exit → Act → World → Prop} (hq : ∀ e a w, Q e a w → Q' e a w) : ∀ (ls : List Oper) (a : Act) (w : World), wpListIn F n P ops Q ls a w → wpListIn F n P ops Q' ls a w
  | [], a, w, h => hq _ _ _ h
  | o :: ls, a, w, h => by
    simp only [wpListIn] at h ⊢
    split at h
    · rename_i hw
      rw [if_pos hw]
      unfold Oper.wpIn at *
      refine ⟨h.1, ?_⟩
      have hh := h.2
      generalize (o.semAt F.round a.eval).run P w = r at *
      cases r with
      | ok x w' =>
        cases x <;> simp only [Oper.uponIn] at hh ⊢ <;>
          first
            | exact wpListIn_imp hq ls _ _ hh
            | exact ⟨hh.1, CallsIn.mono hh.2 (fun e w'' he => by cases e <;> first | exact wpListIn_imp hq ls _ _ he | exact hq _ _ _ he | (obtain ⟨a0, w0, h0⟩ := he; exact ⟨a0, w0, hq _ _ _ h0⟩))⟩
            | exact ⟨hh.1, RowsIn.mono hh.2 (fun _ _ he => wpListIn_imp hq ls _ _ he)⟩
            | exact ⟨hh.1, RoundIn.mono hh.2 (fun e w'' he => by cases e <;> first | exact wpListIn_imp hq ls _ _ he | exact hq _ _ _ he | (obtain ⟨a0, w0, h0⟩ := he; exact ⟨a0, w0, hq _ _ _ h0⟩))⟩
      | halt x w' => cases x <;> simp only [Oper.uponIn] at hh ⊢ <;> exact hq _ _ _ hh
    · rename_i hw
      rw [if_neg hw]
      exact ⟨h.1, wpListIn_imp hq ls _ _ h.2⟩
theorem listIn_round {n l : Nat} {P : Program} {ops : Array Oper} {Q : Exit → Act → World → Prop} {ls : List Oper} {a : Act} {w : World} (hd : (ls.all fun o => match o.op with | .defer _ => false | _ => true) = true)
    (h : wpList P ops (OnlyN Q) ls a w) : wpListIn (Fence.wide.inRound l) n P ops Q ls a w := wpListIn_imp onlyN_imp ls a w (listIn_round0 (onlyN_out Q) ls a w hd h)
theorem operWp_wide {n : Nat} {P : Program} {o : Oper} {a : Act} {w : World} {K : Act → World → Prop} {Q : Exit → Act → World → Prop} (h : o.wp P a w K Q) : o.wpIn Fence.wide n P a w K Q := by
  refine ⟨fun _ _ => trivial, ?_⟩
  have e : o.semAt Fence.wide.round a.eval = execOp a.eval o := rfl
  rw [e]
  unfold Oper.wp at h
  generalize (execOp a.eval o).run P w = r at h
  cases r with
  | ok x w' =>
    cases x <;> simp only [Oper.upon, Oper.uponIn] at h ⊢ <;>
      first
        | exact h
        | exact ⟨fun hh => by simp [Fence.wide] at hh, callsIn_wide.2 h⟩
        | exact ⟨fun hh => by simp [Fence.wide] at hh, fun c cs _ => by obtain ⟨v, w', r, s⟩ := h c cs; exact ⟨v, w', r, stepsIn_wide.2 s⟩⟩
  | halt x w' => cases x <;> simp only [Oper.upon, Oper.uponIn] at h ⊢ <;> exact h
theorem listIn_wide0 {n : Nat} {P : Program} {ops : Array Oper} {Q : Exit → Act → World → Prop} (hQ : ¬ LetsOut Q) : ∀ (ls : List Oper) (a : Act) (w : World), wpList P ops Q ls a w → wpListIn Fence.wide n P ops Q ls a w
  | [], _, _, h => h
  | o :: ls, a, w, h => by
    simp only [wpList] at h
    simp only [wpListIn]
    split at h
    · rename_i hw
      rw [if_pos hw]
      rcases h with h | ⟨_, h⟩
      · exact Oper.wpIn_mono (fun a' w' h' => listIn_wide0 hQ ls a' w' h') (operWp_wide h)
      · exact absurd h hQ
    · rename_i hw
      rw [if_neg hw]
      exact ⟨fun _ _ => trivial, listIn_wide0 hQ ls _ w h⟩
theorem listIn_wide {n : Nat} {P : Program} {ops : Array Oper} {Q : Exit → Act → World → Prop} {ls : List Oper} {a : Act} {w : World}
    (h : wpList P ops (OnlyN Q) ls a w) : wpListIn Fence.wide n P ops Q ls a w := wpListIn_imp onlyN_imp ls a w (listIn_wide0 (onlyN_out Q) ls a w h)
theorem R_keepT {α : Type} {d : Kd α} {e base : Nat} {ok : Nat → Prop} {W W' : World} {v : Value} {xs : List α} {T : Nat → Prop} (h : d.R e W base ok v xs) (hT : ∀ q, q ∈ e :: d.E → T q) (hk : KeepT T W W') : d.R e W' base ok v xs := by
  refine Kd.R_mono (Kd.R_move (Kd.R_bound h) (fun j hj => ?_)) (fun _ hk => hk.1)
  obtain ⟨_, _, _, q, hq, cells, hc⟩ := hj
  rw [hc]
  exact hk.same j cells _ _ (hT q hq) hc
def BoxAt (base : Nat) (f : Nat → Array Value) (t : Nat) (act : Nat → Nat → Act) (k : Nat) (a' : Act) (W : World) : Prop :=
  ∃ Bx, base ≤ Bx ∧ W.heap[Bx]? = some (.cells (f k) t (0, 0)) ∧ a' = act Bx k
theorem BoxAt.put {base : Nat} {f : Nat → Array Value} {t : Nat} {act : Nat → Nat → Act} (k : Nat) (a' : Act) (W : World) (l : Nat) (o o' : Obj) (hl : base ≤ l) (hlo : W.heap[l]? = some o) (ho : o.isCells = false) (h : BoxAt base f t act k a' W) : BoxAt base f t act k a' (W.putObj l o') := by
  obtain ⟨Bx, h1, h2, h3⟩ := h
  exact ⟨Bx, h1, (World.putObj_heap_other (fun e => by subst e; rw [hlo] at h2; cases h2; cases ho)).trans h2, h3⟩
structure NoBox (act : Nat → Act) (k : Nat) (a' : Act) (W : World) : Prop where
  out : a' = act k
theorem round_still_tail {n l id : Nat} {P : Program} {Q : Exit → Act → World → Prop} {a : Act} {w : World} {ls : List Oper} (m : Nat) (hm : P.follows .mixedOrders = true) (hd : noDefer ls.toArray = true) (hB : Region.lexTailB .any ls.toArray m = true)
    (h : wpStill P ls.toArray { w with drawn := w.drawn + 1 } (fun a' => wpList P ls.toArray (OnlyN Q) (ls.drop m) a' { w with drawn := w.drawn + 1 }) (ls.take m) a) : (Code.region id ls.toArray true).wpIn (Fence.wide.inRound l) n P Q a w := by
  simp only [Region.lexTailB, Bool.and_eq_true, decide_eq_true_eq] at hB
  obtain ⟨⟨⟨⟨hsel, hn⟩, hs⟩, hc⟩, hlex⟩ := hB
  have hn' : m < ls.length := by simpa using hn
  have htl : (ls.take m).length = m := by simp; omega
  have hdl : (ls.drop m).length = ls.toArray.size - m := by simp
  have inv0 : HeadInv .any ls.toArray m (Array.replicate ls.toArray.size false) :=
    ⟨by simp, fun j oj _ hl => (by rw [getD_replicate_false] at hl; cases hl), fun t _ ht => getD_in (by simpa using ht) (getD_replicate_false _ _)⟩
  have H := wpAnyL_lex (md := .any) (g := ls.toArray.size - m) hsel hs hc hn (ls.take m) 0 _ a (fun j hj => by
    have hj' : j < m := by rw [htl] at hj; exact hj
    simp [hj']) (by simpa using htl) inv0 (by rw [htl]; exact hlex) h
  refine round_any hm hd ?_
  have := wpAny_of_head (Q' := OnlyN Q) (g := ls.toArray.size - m) (fun listed a' hL => by
    have := wpAny_of_seq (md := .any) (Q' := OnlyN Q) (ls.drop m) m listed a' { w with drawn := w.drawn + 1 } (fun j => by simp [List.getElem?_drop]) (by rw [hdl]; exact hL.1) hL.2
    rwa [hdl] at this) _ _ _ H
  rw [htl, show m + (ls.toArray.size - m) = ls.toArray.size by omega] at this
  exact this
theorem round_quiet {n l id : Nat} {P : Program} {Q : Exit → Act → World → Prop} {a : Act} {w : World} {ls : List Oper} (hm : P.follows .mixedOrders = true) (hd : noDefer ls.toArray = true) (hB : Region.lexB .any ls.toArray = true)
    (h : wpQuiet P ls.toArray (fun w' => ∃ n, w' = w.drewN n) (fun a' => ∀ w', (∃ n, w' = w.drewN n) → Q .normal a' w') ls a) : (Code.region id ls.toArray true).wpIn (Fence.wide.inRound l) n P Q a w := by
  simp only [Region.lexB, Bool.and_eq_true] at hB
  refine round_any hm hd (wpAny_of_quiet (Q := fun a' => ∀ w', (∃ n, w' = w.drewN n) → Q .normal a' w') (Q' := OnlyN Q) (C := fun w' => ∃ n, w' = w.drewN n) (fun _ w' hw' h => h w' hw') _ _ _ _ ⟨1, rfl⟩ ?_)
  have := wpAnyQ_lex (C := fun w' => ∃ n, w' = w.drewN n) (md := .any) hB.1 ls 0 (Array.replicate ls.toArray.size false) a (by simp) (by simpa using hB.2) h
  simpa using this
section held
variable {P : Program} {ops : Array Oper} {Q : Exit → Act → World → Prop} {md : Region.Mode} {S : World → Prop} {ds : List Nat}
def wpHeld (P : Program) (ops : Array Oper) (S : World → Prop) (L : Act → Prop) : List Oper → Act → Prop
  | [], a => L a
  | o :: l, a => ∃ v, YieldsIf P ops S o v a ∧ wpHeld P ops S L l (a.put o.dst v)
theorem wpHeld_step {o : Oper} {l : List Oper} {a : Act} {L : Act → Prop} (v : Value) (hw : Region.wanted o (yielded ops a.tmps) = true) (hv : ∀ w', S w' → (execOp a.eval o).run P w' = .ok (.value v) w')
    (h : wpHeld P ops S L l (a.put o.dst v)) : wpHeld P ops S L (o :: l) a := ⟨v, .inl ⟨hw, hv⟩, h⟩
theorem wpHeld_off {o : Oper} {l : List Oper} {a : Act} {L : Act → Prop} (hw : Region.wanted o (yielded ops a.tmps) = false)
    (h : wpHeld P ops S L l (a.put o.dst undef)) : wpHeld P ops S L (o :: l) a := ⟨undef, .inr ⟨hw, rfl⟩, h⟩
theorem wpHeld_nil {a : Act} {L : Act → Prop} (h : L a) : wpHeld P ops S L [] a := h
def takeOkB (md : Region.Mode) (ops : Array Oper) (ds : List Nat) (l : Array Bool) (i : Nat) : Bool :=
  Region.noSelect ops && Region.free md ops l i && (Region.ready md ops l).contains i && Region.closedB md ops l && Region.lastB md ops l ds i
def lexHeldB (md : Region.Mode) (ops : Array Oper) (ds : List Nat) (g : Nat) : Nat → Nat → Array Bool → Bool
  | 0, k, listed => Region.seqB md ops (g + 1) k listed && !ds.contains k
  | n + 1, k, listed => takeOkB md ops ds listed k && lexHeldB md ops ds g n (k + 1) (listed.setIfInBounds k true)
theorem wpAnyLast_of_seq : ∀ (l : List Oper) (k : Nat) (listed : Array Bool) (a : Act) (w : World), (∀ j, l[j]? = ops[k + j]?) → (∀ j, k ≤ j → j < k + l.length → j ∈ ds) →
    Region.seqB md ops l.length k listed = true → wpList P ops Q l a w → wpAnyLast P md ops Q S ds l.length listed a w
  | [], _, _, _, _, _, _, hB, h => ⟨by simpa [Region.seqB] using hB, h⟩
  | o :: l, k, listed, a, w, hl, hds, hB, h => by
    have h0 : ops[k]? = some o := by simpa using (hl 0).symm
    simp only [List.length_cons, Region.seqB, Bool.and_eq_true, decide_eq_true_eq] at hB
    refine ⟨fun h1 => (by rw [hB.1] at h1; cases h1), fun i hi => ?_⟩
    rw [hB.1] at hi
    have hik : i = k := by simpa using hi
    subst hik
    have hw : wpOp P ops Q i (wpList P ops Q l) a w := by unfold wpOp; simp only [h0]; exact h
    exact wpOp_mono (fun a' w' h' => ⟨fun hn => absurd (hds i (Nat.le_refl _) (by simp)) hn, wpAnyLast_of_seq l (i + 1) _ a' w' (fun j => by have := hl (j + 1); simpa [Nat.add_assoc, Nat.add_comm 1 j] using this) (fun j h1 h2 => hds j (by omega) (by simp; omega)) hB.2 h'⟩) hw
theorem wpAnyLast_held {g : Nat} {L : Act → Prop} {w : World} (hS : S w) (hL : ∀ k listed a, Region.seqB md ops (g + 1) k listed = true → k ∉ ds → L a → (∀ j, ops[k + j]? = ops[k + j]?) → k + (g + 1) = ops.size → wpAnyLast P md ops Q S ds (g + 1) listed a w)
    (hQ : ∀ c a w, ¬ Q (.panic c) a w) :
    ∀ (l : List Oper) (k : Nat) (listed : Array Bool) (a : Act), (∀ j, j < l.length → l[j]? = ops[k + j]?) → k + l.length + (g + 1) = ops.size → lexHeldB md ops ds g l.length k listed = true → wpHeld P ops S L l a →
      wpAnyLast P md ops Q S ds (l.length + (g + 1)) listed a w
  | [], k, listed, a, _, hk, hB, h => by
    simp only [List.length_nil, lexHeldB, Bool.and_eq_true, Bool.not_eq_true', List.contains_eq_mem, decide_eq_false_iff_not] at hB
    simp only [List.length_nil, Nat.zero_add]
    exact hL k listed a hB.1 hB.2 h (fun _ => rfl) (by simpa using hk)
  | o :: l, k, listed, a, hl, hk, hB, h => by
    have h0 : ops[k]? = some o := by simpa using (hl 0 (by simp)).symm
    simp only [List.length_cons, lexHeldB, takeOkB, Bool.and_eq_true] at hB
    obtain ⟨⟨⟨⟨⟨h1, h2⟩, h3⟩, h4⟩, h5⟩, hB'⟩ := hB
    obtain ⟨v, hy, hK⟩ := h
    have := wpAnyLast_held hS hL hQ l (k + 1) (listed.setIfInBounds k true) (a.put o.dst v) (fun j hj => by have := hl (j + 1) (by simp; omega); simpa [Nat.add_assoc, Nat.add_comm 1 j] using this) (by simp only [List.length_cons] at hk; omega) hB' hK
    rw [show (o :: l).length + (g + 1) = (l.length + (g + 1)) + 1 by simp; omega]
    exact wpAnyLast_take h0 h1 h2 h3 h4 h5 (fun c a w hh => absurd hh (hQ c _ w)) hy hS this
end held
theorem onlyN_panic (Q : Exit → Act → World → Prop) (c : List PanicEntry) (a : Act) (w : World) : ¬ OnlyN Q (.panic c) a w := fun h => h
theorem round_held {n l id : Nat} {P : Program} {Q : Exit → Act → World → Prop} {a : Act} {w : World} {ls : List Oper} (S : World → Prop) (m : Nat) {om : Oper} (hm : P.follows .mixedOrders = true) (hd : noDefer ls.toArray = true)
    (hB : (decide (m < ls.length) && lexHeldB .any ls.toArray ((List.range ls.length).drop (m + 1)) (ls.length - m - 1) m 0 (Array.replicate ls.toArray.size false)) = true) (hom : ls[m]? = some om) (hS : S w.drew)
    (h : wpHeld P ls.toArray S (fun a' => ∀ K : Act → World → Prop, (∀ a'' w'', S w'' → wpList P ls.toArray (OnlyN Q) (ls.drop (m + 1)) a'' w'' → K a'' w'') → if Region.wanted om (yielded ls.toArray a'.tmps) = true then Oper.wp P om a' w.drew K (OnlyN Q) else K (a'.put om.dst undef) w.drew) (ls.take m) a) :
    (Code.region id ls.toArray true).wpIn (Fence.wide.inRound l) n P Q a w := by
  simp only [Bool.and_eq_true, decide_eq_true_eq] at hB
  obtain ⟨hlt, hB⟩ := hB
  have htl : (ls.take m).length = m := by simp; omega
  refine round_any hm hd ?_
  have key := wpAnyLast_held (P := P) (md := .any) (Q := OnlyN Q) (S := S) (ds := (List.range ls.length).drop (m + 1)) (ops := ls.toArray) (g := ls.length - m - 1) (w := w.drew)
    (L := fun a' => ∀ K : Act → World → Prop, (∀ a'' w'', S w'' → wpList P ls.toArray (OnlyN Q) (ls.drop (m + 1)) a'' w'' → K a'' w'') → if Region.wanted om (yielded ls.toArray a'.tmps) = true then Oper.wp P om a' w.drew K (OnlyN Q) else K (a'.put om.dst undef) w.drew) hS
    (fun k listed a' hsq hk hLa _ hksz => by
      have hkm : k = m := by simp at hksz; omega
      subst hkm
      simp only [Region.seqB, Bool.and_eq_true, decide_eq_true_eq] at hsq
      refine ⟨fun h1 => (by rw [hsq.1] at h1; cases h1), fun i hi => ?_⟩
      rw [hsq.1] at hi
      have hik : i = k := by simpa using hi
      subst hik
      refine wpOp_step (by simpa using hom) (fun K' hK' => hLa K' (fun a'' w'' hS'' hw'' => hK' a'' w'' ⟨fun _ _ => hS'', ?_⟩))
      have := wpAnyLast_of_seq (P := P) (md := .any) (Q := OnlyN Q) (S := S) (ds := (List.range ls.length).drop (i + 1)) (ops := ls.toArray) (ls.drop (i + 1)) (i + 1) (listed.setIfInBounds i true) a'' w'' (fun j => by simp [List.getElem?_drop]) (fun j h1 h2 => by
        have h3 : j < ls.length := by simp at h2; omega
        have h4 : ((List.range ls.length).drop (i + 1))[j - (i + 1)]? = some j := by rw [List.getElem?_drop, List.getElem?_range (by omega)]; congr 1; omega
        exact List.mem_of_getElem? h4) (by rw [List.length_drop]; rw [show ls.length - (i + 1) = ls.length - i - 1 by omega]; exact hsq.2) hw''
      rw [List.length_drop] at this
      rw [show ls.length - i - 1 = ls.length - (i + 1) by omega]
      exact this)
    (onlyN_panic Q) (ls.take m) 0 (Array.replicate ls.toArray.size false) a (fun j hj => by rw [htl] at hj; simp [hj]) (by simp; omega) (by rw [htl]; exact hB) h
  rw [htl, show m + (ls.length - m - 1 + 1) = ls.toArray.size by simp; omega] at key
  exact wpAny_of_last _ _ _ _ key
structure Rn (T : Nat → Prop) (W W' : World) : Prop where
  k : KeepsOthers W W'
  t : KeepT T W W'
theorem Rn.refl (T : Nat → Prop) (W : World) : Rn T W W := ⟨KeepsOthers.refl W, KeepT.refl T W⟩
theorem Rn.trans {T : Nat → Prop} {A B C : World} (h : Rn T A B) (h' : Rn T B C) : Rn T A C := ⟨h.k.trans h'.k, h.t.trans h'.t⟩
theorem Rn.alloc {T : Nat → Prop} {A B : World} (h : Rn T A B) (o : Obj) : Rn T A (B.alloc o) := ⟨h.k.trans (KeepsOthers.alloc _ _), h.t.alloc o⟩
theorem Rn.drewN {T : Nat → Prop} {A B : World} (h : Rn T A B) (n : Nat) : Rn T A (B.drewN n) := ⟨⟨h.k.size, fun k o hk ho => h.k.same k o hk ho⟩, ⟨h.t.size, fun k cs t fr ht hk => h.t.same k cs t fr ht hk⟩⟩
theorem Rn.drew {T : Nat → Prop} {A B : World} (h : Rn T A B) : Rn T A B.drew := ⟨⟨h.k.size, fun k o hk ho => h.k.same k o hk ho⟩, ⟨h.t.size, fun k cs t fr ht hk => h.t.same k cs t fr ht hk⟩⟩
theorem Rn.set {T : Nat → Prop} {A B : World} (h : Rn T A B) {g t : Nat} {cs : Array Value} (hb : B.heap[g]? = some (.cells cs t (0, 0))) (ht : ¬ T t) (j : Nat) (u : Value) : Rn T A (B.setCell ⟨g, j, none⟩ u) :=
  ⟨h.k.trans (KeepsOthers.setCell _ _ _), ⟨by have := h.t.size; simpa using this, fun k cs' t' fr ht' hk => by
    have h1 := h.t.same k cs' t' fr ht' hk
    have hne : k ≠ g := fun e => by subst e; rw [hb] at h1; cases h1; exact ht ht'
    exact (Below.heap_setCell B ⟨g, j, none⟩ u k hne).trans h1⟩⟩
theorem Rn.grown {T : Nat → Prop} {A B C : World} (h : Rn T A B) {row : Option Nat} (hg : B.grownBy C row) (hrow : ∀ j, row = some j → ∃ t cs, ¬ T t ∧ B.heap[j]? = some (.cells cs t (0, 0))) : Rn T A C :=
  ⟨h.k.trans (KeepsOthers.of_grownBy hg (fun j o hj ho => by obtain ⟨t, cs, _, hc⟩ := hrow j hj; rw [ho] at hc; cases hc; rfl)), ⟨Nat.le_trans h.t.size hg.size, fun k cs t fr ht hk => by
    have h1 := h.t.same k cs t fr ht hk
    refine (hg.block k (Array.getElem?_eq_some_iff.1 h1).1 (fun e => ?_)).trans h1
    obtain ⟨t', cs', hT, hc⟩ := hrow k e.symm
    rw [h1] at hc; cases hc; exact hT ht⟩⟩
theorem Rn.grownR {T : Nat → Prop} {A B C : World} (h : Rn T A B) {α : Type} {d : Kd α} {e base : Nat} {ok : Nat → Prop} {v : Value} {xs : List α} (hv : d.R e B base ok v xs) (hT : ¬ T e) (hg : B.grownBy C v.ownBlock) : Rn T A C :=
  h.grown hg (fun j hj => by obtain ⟨cs, hc⟩ := Kd.R_typed hv j hj; exact ⟨e, cs, hT, hc⟩)
theorem Rn.below {T : Nat → Prop} {A B C : World} (h : Rn T A B) (hb : Below B.heap.size B C) : Rn T A C :=
  ⟨h.k.trans ⟨hb.size, fun k o hk _ => blk_below hk hb⟩, ⟨Nat.le_trans h.t.size hb.size, fun k cs t fr ht hk => blk_below (h.t.same k cs t fr ht hk) hb⟩⟩
theorem cell_alloc {W : World} {p : Addr} {v : Value} (h : W.cell? p = some v) (o : Obj) : (W.alloc o).cell? p = some v := (World.cell?_alloc_lt _ _ _ (World.block_lt_of_cell? W p h)).trans h
theorem NamesAt.keep {T : Nat → Prop} {W W' : World} {base : Nat} {ps : List S167} {vals : Nat → Value} (h : NamesAt W base ps vals) (hT : T 9) (hk : KeepT T W W') : NamesAt W' base ps vals := by
  refine ⟨fun k hk2 => ?_⟩
  refine Kd.R_mono (Kd.R_move (Kd.R_bound (h.at_ k hk2)) (fun j hj => ?_)) (fun _ _ => trivial)
  obtain ⟨_, _, _, q, hq, cells, hc⟩ := hj
  have hq2 : q = 9 := by simpa [Kd.string, Kd.scalar] using hq
  subst hq2
  rw [hc]
  exact hk.same j cells _ _ hT hc
end Go.Proofs.YtdjlfdbnmnjccaaGreat.St
end
