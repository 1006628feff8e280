/- A part of the proofs of the laws of this seat: the walks of the program's functions, and lemmas. They hold without conditions. -/
import Derived.Test.YtdjlfdbnmnjccaaGreatB06
import Derived.Test.YtdjlfdbnmnjccaaGreatB09
set_option linter.all false
set_option linter.unusedSectionVars false
section
set_option linter.unusedVariables false
set_option linter.unusedSimpArgs false
namespace Go.Proofs.YtdjlfdbnmnjccaaGreat.St
open Go.Sort hiding rd
open Go.RowKit Go.Shelf Go.Proofs.YtdjlfdbnmnjccaaGreatW.PrintWords Go.Proofs.YtdjlfdbnmnjccaaGreatW.PrintLast Go.Proofs.YtdjlfdbnmnjccaaGreatW.PrintMore
theorem open_zero {first : List ByteArray} {changes : List S60} (h : openE first changes = 0) : checkE first changes = 0 ∧ (bookOf first changes).2.2 = [] := by
  unfold openE at h
  split at h
  · rename_i h1
    split at h
    · rename_i h2; exact ⟨h1, h2⟩
    · simp at h
  · rename_i h1; exact absurd h h1
def pagesOf (first : List ByteArray) (changes : List S60) : List S167 := (bookOf first changes).1
theorem pages_ok {first : List ByteArray} {changes : List S60} (h : openE first changes = 0) : PagesOk first.length (pagesOf first changes) := book_ok (open_zero h).1
theorem namesAt_mem {n : Nat} {ps : List S167} (h : PagesOk n ps) {hour : Int} (hh : 0 ≤ hour) : ∃ p ∈ ps, namesAt ps hour = p.f1 := by
  obtain ⟨p, l, rfl⟩ : ∃ p l, ps = p :: l := by cases ps with | nil => exact absurd h.ne (by simp) | cons p l => exact ⟨p, l, rfl⟩
  have hp : p.f0 ≤ hour := by have := h.h0; have e : rd_T167 (p :: l) 0 = p := rfl; rw [e] at this; omega
  unfold namesAt
  rw [List.foldl_cons, if_pos hp]
  have : ∀ (l : List S167) (acc : List ByteArray), l.foldl (fun acc p => if p.f0 ≤ hour then p.f1 else acc) acc = acc ∨ ∃ q ∈ l, l.foldl (fun acc p => if p.f0 ≤ hour then p.f1 else acc) acc = q.f1 := by
    intro l
    induction l with
    | nil => exact fun acc => .inl rfl
    | cons q l ih =>
      intro acc
      rw [List.foldl_cons]
      by_cases hq : q.f0 ≤ hour
      · rw [if_pos hq]
        rcases ih q.f1 with e | ⟨r, hr, e⟩
        · exact .inr ⟨q, by simp, e⟩
        · exact .inr ⟨r, by simp [hr], e⟩
      · rw [if_neg hq]
        rcases ih acc with e | ⟨r, hr, e⟩
        · exact .inl e
        · exact .inr ⟨r, by simp [hr], e⟩
  rcases this l p.f1 with e | ⟨q, hq, e⟩
  · exact ⟨p, by simp, e⟩
  · exact ⟨q, by simp [hq], e⟩
theorem namesAt_len {n : Nat} {ps : List S167} (h : PagesOk n ps) {hour : Int} (hh : 0 ≤ hour) : (namesAt ps hour).length = n := by
  obtain ⟨p, hp, e⟩ := namesAt_mem h hh
  rw [e]; exact h.len p hp
def nameR (first : List ByteArray) (changes : List S60) (street hour : Int) : ByteArray × Int :=
  if openE first changes ≠ 0 then (ByteArray.empty, openE first changes)
  else if (decide (0 ≤ street) && decide (street ≤ first.length - 1)) = false then (ByteArray.empty, 7)
  else if isHourB hour = false then (ByteArray.empty, 3)
  else (rdOf ByteArray.empty (namesAt (pagesOf first changes) hour) street, 0)
set_option maxHeartbeats 4000000 in
set_option maxRecDepth 100000 in
theorem name_any (A0 : Option Addr) (c0 : Nat) (first : List ByteArray) (A1 : Option Addr) (c1 : Nat) (changes : List S60) (street hour : Int) (w : World)
    (hr0 : Kd.C Kd.string w A0 first.length first) (hc0 : first.length ≤ c0) (hr1 : Kd.C k60 w A1 changes.length changes) (hc1 : changes.length ≤ c1) :
    Calls Tryz.prog 19 #[.agg #[.slice A0 first.length c0, .slice A1 changes.length c1], .int .i64 street, .int .i64 hour] w fun e w' =>
      e = .returned (.tuple #[.string (nameR first changes street hour).1, .int .i64 (nameR first changes street hour).2]) ∧ Below w.heap.size w w' := by
  have HOP := Aside0.mk (fun (W : World) (hb : Below w.heap.size w W) => open_any A0 c0 first A1 c1 changes W (Kd.C_below hr0 hb) hc0 (Kd.C_below hr1 hb) hc1)
  clear hr0 hr1
  go_enter Tryz.func19, Tryz.ntmps19
  go_wp2_with fail
  obtain ⟨W1, hW1⟩ : ∃ W1, w.alloc (.cells #[.slice A0 first.length c0, .slice A1 changes.length c1] 25) = W1 := ⟨_, rfl⟩
  have hb1 : Below w.heap.size w W1 := by rw [← hW1]; exact below_alloc (Below.refl _ _) _
  have hbt : W1.heap[w.heap.size]? = some (.cells #[.slice A0 first.length c0, .slice A1 changes.length c1] 25 (0, 0)) := by rw [← hW1]; exact blk_new w _
  rw [hW1]
  clear hW1
  refine (HOP.out W1 hb1).mono ?_
  rintro e w2 ⟨B0, n0, d0, B1, n1, d1, Bp, np, dp, rfl, hop, hb⟩
  obtain ⟨oe, hoe⟩ : ∃ oe, openE first changes = oe := ⟨_, rfl⟩
  rw [hoe]
  have HB2 := Aside0.mk (below_from hb1 hb)
  have BT2 := Aside0.mk (blk_below hbt hb)
  have HS := Aside0.mk hb1.size
  clear hb hb1 hbt HOP
  by_cases h0 : oe = 0
  · subst h0
    obtain ⟨e0, e1, hp⟩ := hop hoe
    rw [e0, e1]
    clear e0 e1 hop
    have HP2 := Aside0.mk (Kd.R_lower hp HS.out)
    have HOE := Aside0.mk hoe
    obtain ⟨hf1, hf2, _⟩ := check_ok (open_zero hoe).1
    clear hp hoe HS
    obtain ⟨Aq, cq, hsl⟩ := Kd.R_slice HP2.out
    cases hsl
    obtain ⟨W3, hW3⟩ : ∃ W3, w2.alloc (.cells #[.slice A0 first.length c0, .slice A1 changes.length c1, .slice Bp (bookOf first changes).1.length dp] 124) = W3 := ⟨_, rfl⟩
    have HB3 := Aside0.mk (show Below w.heap.size w W3 from by rw [← hW3]; exact below_alloc HB2.out _)
    have BT3 := Aside0.mk (show W3.heap[w.heap.size]? = some (.cells #[.slice A0 first.length c0, .slice A1 changes.length c1] 25 (0, 0)) from by rw [← hW3]; exact blk_alloc BT2.out _)
    have BB3 := Aside0.mk (show W3.heap[w2.heap.size]? = some (.cells #[.slice A0 first.length c0, .slice A1 changes.length c1, .slice Bp (bookOf first changes).1.length dp] 124 (0, 0)) from by rw [← hW3]; exact blk_new w2 _)
    have HP3 := Aside0.mk (show Kd.R k167 167 W3 w.heap.size (fun _ => True) (.slice Bp (bookOf first changes).1.length dp) (bookOf first changes).1 from by rw [← hW3]; exact Kd.R_alloc HP2.out _)
    clear HB2 BT2 HP2
    obtain ⟨t0, t1, t2⟩ := blk2 BT3.out
    go_wp2_with fail
    clear hW3
    have hcell : (W3.alloc (.cells #[.int .i64 street] 3)).cell? ⟨W3.heap.size, 0, none⟩ = some (.int .i64 street) := (blk_cell (blk_new W3 _) 0).trans rfl
    refine (within_one 0 _ street W3.heap.size _ hcell).mono ?_
    rintro e w4 ⟨rfl, hb⟩
    have HB4 := Aside0.mk (below_from (below_alloc HB3.out _) hb)
    have BB4 := Aside0.mk (blk_below (blk_alloc BB3.out _) hb)
    have HP4 := Aside0.mk (Kd.R_below (Kd.R_alloc HP3.out _) hb)
    clear HB3 BT3 BB3 HP3 hb hcell t0 t1 t2
    obtain ⟨b1, hb1⟩ : ∃ b, (decide (0 ≤ street) && decide (street ≤ (first.length : Int) - 1)) = b := ⟨_, rfl⟩
    rw [hb1]
    cases b1 with
    | false =>
      have HN := Aside0.mk (show nameR first changes street hour = (ByteArray.empty, 7) from by unfold nameR; rw [if_neg (by rw [HOE.out]; simp), if_pos hb1])
      clear hb1
      go_wp2_with fail
      rw [HN.out]
      refine bodyPost_ret (v := .tuple #[.string { data := #[] }, .int .i64 7]) (by simp [results, Tryz.results19, go_sem]) rfl ?_
      exact ⟨rfl, HB4.out⟩
    | true =>
      go_wp2_with fail
      refine (street_isHour.calls hour _ w4 (isHour_f hour)).mono ?_
      rintro e w5 ⟨rfl, hb⟩
      have HB5 := Aside0.mk (below_from HB4.out hb)
      have BB5 := Aside0.mk (blk_below BB4.out hb)
      have HP5 := Aside0.mk (Kd.R_below HP4.out hb)
      clear HB4 BB4 HP4 hb
      obtain ⟨b2, hb2⟩ : ∃ b, isHourB hour = b := ⟨_, rfl⟩
      rw [hb2]
      cases b2 with
      | false =>
        have HN := Aside0.mk (show nameR first changes street hour = (ByteArray.empty, 3) from by unfold nameR; rw [if_neg (by rw [HOE.out]; simp), if_neg (by rw [hb1]; simp), if_pos hb2])
        clear hb1 hb2
        go_wp2_with fail
        rw [HN.out]
        refine bodyPost_ret (v := .tuple #[.string { data := #[] }, .int .i64 3]) (by simp [results, Tryz.results19, go_sem]) rfl ?_
        exact ⟨rfl, HB5.out⟩
      | true =>
        have HN := Aside0.mk (show nameR first changes street hour = (rdOf ByteArray.empty (namesAt (pagesOf first changes) hour) street, 0) from by unfold nameR; rw [if_neg (by rw [HOE.out]; simp), if_neg (by rw [hb1]; simp), if_neg (by rw [hb2]; simp)])
        have hh : 0 ≤ hour := by unfold isHourB at hb2; simp at hb2; exact hb2.1
        have hs : 0 ≤ street ∧ street ≤ (first.length : Int) - 1 := by simpa using hb1
        obtain ⟨hs0, hs1⟩ := hs
        have HNA := Aside0.mk (names_any (.slice A0 first.length c0) (.slice A1 changes.length c1) Bp dp first.length (pagesOf first changes) hour w5 (Kd.R_reads' HP5.out).2.2 (pages_ok HOE.out) hh)
        have hnl := namesAt_len (pages_ok HOE.out) hh
        obtain ⟨NA, hNA⟩ : ∃ NA, namesAt (pagesOf first changes) hour = NA := ⟨_, rfl⟩
        rw [hNA] at HN HNA hnl
        obtain ⟨⟨z0, z1, z2⟩, _, zl⟩ := blk3 BB5.out
        clear hb1 hb2 hNA
        go_wp2_with fail
        refine HNA.out.mono ?_
        rintro e w6 ⟨An, cn, rfl, hln, hcn, hb⟩
        obtain ⟨ad, rfl, hc⟩ := Kd.at_string hcn street hs0 (by omega)
        have HB6 := Aside0.mk (below_from HB5.out hb)
        have hs2 : street < (NA.length : Int) := by omega
        clear hln hcn hb z0 z1 z2 zl HNA HP5 BB5
        go_wp2_with fail
        rw [HN.out]
        refine bodyPost_ret (v := .tuple #[.string (rdOf ByteArray.empty NA street), .int .i64 0]) (by simp [results, Tryz.results19, go_sem]) rfl ?_
        exact ⟨rfl, HB6.out⟩
  · have h0' : (oe != 0) = true := by simp [h0]
    have HN := Aside0.mk (show nameR first changes street hour = (ByteArray.empty, oe) from by unfold nameR; rw [if_pos (by rw [hoe]; exact h0), hoe])
    clear h0 hop hoe
    go_wp2_with fail
    rw [HN.out]
    refine bodyPost_ret (v := .tuple #[.string { data := #[] }, .int .i64 oe]) (by simp [results, Tryz.results19, go_sem]) rfl ?_
    exact ⟨rfl, below_alloc HB2.out _⟩
def street_Name.f (l0_0 : List ByteArray) (l0_1 : List S60) (a1 a2 : Int) : Option (ByteArray × Int) := some (nameR l0_0 l0_1 a1 a2)
theorem street_Name.calls (A0_0 : Option Addr) (c0_0 : Nat) (l0_0 : List ByteArray) (A0_1 : Option Addr) (c0_1 : Nat) (l0_1 : List S60) (a1 a2 : Int) (r_0 : ByteArray) (r_1 : Int) (w : World) (hr0_0 : Kd.C Kd.string w A0_0 l0_0.length l0_0) (hc0_0 : l0_0.length ≤ c0_0) (hr0_1 : Kd.C k60 w A0_1 l0_1.length l0_1) (hc0_1 : l0_1.length ≤ c0_1) (h : street_Name.f l0_0 l0_1 a1 a2 = some (r_0, r_1)) :
    Calls Tryz.prog 19 #[.agg #[.slice A0_0 l0_0.length c0_0, .slice A0_1 l0_1.length c0_1], .int .i64 a1, .int .i64 a2] w fun e w' => e = .returned (.tuple #[.string r_0, .int .i64 r_1]) ∧ Below w.heap.size w w' := by
  have e := Option.some.inj h
  have h0 : (nameR l0_0 l0_1 a1 a2).1 = r_0 := by rw [e]
  have h1 : (nameR l0_0 l0_1 a1 a2).2 = r_1 := by rw [e]
  have := name_any A0_0 c0_0 l0_0 A0_1 c0_1 l0_1 a1 a2 w hr0_0 hc0_0 hr0_1 hc0_1
  rwa [h0, h1] at this
def nameIdx (ns : List ByteArray) (name : ByteArray) : Int := idxOf (fun s : ByteArray => decide (name.toList = s.toList)) ns 0
theorem index_l0 (ns : List ByteArray) (name : ByteArray) (hsm : ns.length < 100000) : ∀ (k i : Nat), ns.length - i < k → i ≤ ns.length →
    slices_Index_string_string.l0 k ns name (ns.length : Int) (i : Int) = some (idxOf (fun s : ByteArray => decide (name.toList = s.toList)) (ns.drop i) (i : Int))
  | 0, i, h, _ => absurd h (Nat.not_lt_zero _)
  | k + 1, i, h, hi => by
    unfold slices_Index_string_string.l0
    by_cases hlt : i < ns.length
    · rw [if_pos (show (i : Int) < (ns.length : Int) by omega), if_pos (show (0 : Int) ≤ i by omega), if_pos (show (i : Int) < (ns.length : Int) by omega)]
      have e : rdOf ByteArray.empty ns (i : Int) = ns[i] := by unfold rdOf; rw [Int.toNat_natCast, List.getD_eq_getElem?_getD, List.getElem?_eq_getElem hlt, Option.getD_some]
      rw [List.drop_eq_getElem_cons hlt, e]
      simp only [idxOf, decide_eq_true_eq]
      have hw : wrap64 ((i : Int) + 1) = ((i + 1 : Nat) : Int) := by unfold wrap64; omega
      rw [hw, index_l0 ns name hsm k (i + 1) (by omega) (by omega)]
      by_cases hq : name.toList = ns[i].toList
      · rw [if_pos hq, if_pos hq]
      · rw [if_neg hq, if_neg hq]; rfl
    · rw [if_neg (show ¬ (i : Int) < (ns.length : Int) by omega), List.drop_eq_nil_of_le (by omega)]
      rfl
theorem index_any (A : Option Addr) (c : Nat) (ns : List ByteArray) (name : ByteArray) (w : World) (hr : Kd.C Kd.string w A ns.length ns) (hc : ns.length ≤ c) (hsm : ns.length < 100000) :
    Calls Tryz.prog 72 #[.slice A ns.length c, .string name] w fun e w' => e = .returned (.int .i64 (nameIdx ns name)) ∧ Below w.heap.size w w' :=
  (slices_Index_string_string.calls (ns.length + 1) A c ns name (nameIdx ns name) w hr hc (index_l0 ns name hsm (ns.length + 1) 0 (by omega) (Nat.zero_le _))).mono (fun e w' ⟨h, n, hn⟩ => ⟨h, hn ▸ pw_below_drewN (Below.refl _ _) n⟩)
theorem idxOf_range {α : Type} (p : α → Bool) : ∀ (l : List α) (i : Int), 0 ≤ i → -1 ≤ idxOf p l i ∧ idxOf p l i < i + l.length
  | [], i, h => by simp [idxOf]; omega
  | x :: l, i, h => by
    simp only [idxOf]
    split
    · simp; omega
    · have := idxOf_range p l (i + 1) (by omega)
      simp at this ⊢
      omega
end Go.Proofs.YtdjlfdbnmnjccaaGreat.St
end
section
set_option linter.unusedVariables false
set_option linter.unusedSimpArgs false
namespace Go.Proofs.YtdjlfdbnmnjccaaGreat.St
open Go.Sort hiding rd
open Go.RowKit Go.Shelf Go.Proofs.YtdjlfdbnmnjccaaGreatW.PrintWords Go.Proofs.YtdjlfdbnmnjccaaGreatW.PrintLast Go.Proofs.YtdjlfdbnmnjccaaGreatW.PrintMore
def whoR (first : List ByteArray) (changes : List S60) (name : ByteArray) (hour : Int) : Int × Int :=
  if openE first changes ≠ 0 then (0, openE first changes)
  else if isNameB name = false then (0, 4)
  else if isHourB hour = false then (0, 3)
  else if nameIdx (namesAt (pagesOf first changes) hour) name < 0 then (0, 7)
  else (nameIdx (namesAt (pagesOf first changes) hour) name, 0)
set_option maxHeartbeats 4000000 in
set_option maxRecDepth 100000 in
theorem who_any (A0 : Option Addr) (c0 : Nat) (first : List ByteArray) (A1 : Option Addr) (c1 : Nat) (changes : List S60) (name : ByteArray) (hour : Int) (w : World)
    (hr0 : Kd.C Kd.string w A0 first.length first) (hc0 : first.length ≤ c0) (hr1 : Kd.C k60 w A1 changes.length changes) (hc1 : changes.length ≤ c1) :
    Calls Tryz.prog 20 #[.agg #[.slice A0 first.length c0, .slice A1 changes.length c1], .string name, .int .i64 hour] w fun e w' =>
      e = .returned (.tuple #[.int .i64 (whoR first changes name hour).1, .int .i64 (whoR first changes name hour).2]) ∧ Below w.heap.size w w' := by
  have HOP := Aside0.mk (fun (W : World) (hb : Below w.heap.size w W) => open_any A0 c0 first A1 c1 changes W (Kd.C_below hr0 hb) hc0 (Kd.C_below hr1 hb) hc1)
  clear hr0 hr1
  go_enter Tryz.func20, Tryz.ntmps20
  go_wp2_with fail
  obtain ⟨W1, hW1⟩ : ∃ W1, w.alloc (.cells #[.slice A0 first.length c0, .slice A1 changes.length c1] 25) = W1 := ⟨_, rfl⟩
  have hb1 : Below w.heap.size w W1 := by rw [← hW1]; exact below_alloc (Below.refl _ _) _
  rw [hW1]
  clear hW1
  refine (HOP.out W1 hb1).mono ?_
  rintro e w2 ⟨B0, n0, d0, B1, n1, d1, Bp, np, dp, rfl, hop, hb⟩
  obtain ⟨oe, hoe⟩ : ∃ oe, openE first changes = oe := ⟨_, rfl⟩
  rw [hoe]
  have HB2 := Aside0.mk (below_from hb1 hb)
  have HS := Aside0.mk hb1.size
  clear hb hb1 HOP
  by_cases h0 : oe = 0
  · subst h0
    obtain ⟨e0, e1, hp⟩ := hop hoe
    rw [e0, e1]
    clear e0 e1 hop
    have HP2 := Aside0.mk (Kd.R_lower hp HS.out)
    have HOE := Aside0.mk hoe
    obtain ⟨hf1, hf2, _⟩ := check_ok (open_zero hoe).1
    clear hp hoe HS
    obtain ⟨Aq, cq, hsl⟩ := Kd.R_slice HP2.out
    cases hsl
    obtain ⟨W3, hW3⟩ : ∃ W3, w2.alloc (.cells #[.slice A0 first.length c0, .slice A1 changes.length c1, .slice Bp (bookOf first changes).1.length dp] 124) = W3 := ⟨_, rfl⟩
    have HB3 := Aside0.mk (show Below w.heap.size w W3 from by rw [← hW3]; exact below_alloc HB2.out _)
    have BB3 := Aside0.mk (show W3.heap[w2.heap.size]? = some (.cells #[.slice A0 first.length c0, .slice A1 changes.length c1, .slice Bp (bookOf first changes).1.length dp] 124 (0, 0)) from by rw [← hW3]; exact blk_new w2 _)
    have HP3 := Aside0.mk (show Kd.R k167 167 W3 w.heap.size (fun _ => True) (.slice Bp (bookOf first changes).1.length dp) (bookOf first changes).1 from by rw [← hW3]; exact Kd.R_alloc HP2.out _)
    clear HB2 HP2
    go_wp2_with fail
    clear hW3
    refine (street_isName.calls name _ W3 rfl).mono ?_
    rintro e w4 ⟨rfl, hb⟩
    have HB4 := Aside0.mk (below_from HB3.out hb)
    have BB4 := Aside0.mk (blk_below BB3.out hb)
    have HP4 := Aside0.mk (Kd.R_below HP3.out hb)
    clear HB3 BB3 HP3 hb
    obtain ⟨b1, hb1⟩ : ∃ b, isNameB name = b := ⟨_, rfl⟩
    rw [hb1]
    cases b1 with
    | false =>
      have HN := Aside0.mk (show whoR first changes name hour = (0, 4) from by unfold whoR; rw [if_neg (by rw [HOE.out]; simp), if_pos hb1])
      clear hb1
      go_wp2_with fail
      rw [HN.out]
      refine bodyPost_ret (v := .tuple #[.int .i64 0, .int .i64 4]) (by simp [results, Tryz.results20, go_sem]) rfl ?_
      exact ⟨rfl, HB4.out⟩
    | true =>
      go_wp2_with fail
      refine (street_isHour.calls hour _ w4 (isHour_f hour)).mono ?_
      rintro e w5 ⟨rfl, hb⟩
      have HB5 := Aside0.mk (below_from HB4.out hb)
      have BB5 := Aside0.mk (blk_below BB4.out hb)
      have HP5 := Aside0.mk (Kd.R_below HP4.out hb)
      clear HB4 BB4 HP4 hb
      obtain ⟨b2, hb2⟩ : ∃ b, isHourB hour = b := ⟨_, rfl⟩
      rw [hb2]
      cases b2 with
      | false =>
        have HN := Aside0.mk (show whoR first changes name hour = (0, 3) from by unfold whoR; rw [if_neg (by rw [HOE.out]; simp), if_neg (by rw [hb1]; simp), if_pos hb2])
        clear hb1 hb2
        go_wp2_with fail
        rw [HN.out]
        refine bodyPost_ret (v := .tuple #[.int .i64 0, .int .i64 3]) (by simp [results, Tryz.results20, go_sem]) rfl ?_
        exact ⟨rfl, HB5.out⟩
      | true =>
        have hwr : whoR first changes name hour = if nameIdx (namesAt (pagesOf first changes) hour) name < 0 then (0, 7) else (nameIdx (namesAt (pagesOf first changes) hour) name, 0) := by unfold whoR; rw [if_neg (by rw [HOE.out]; simp), if_neg (by rw [hb1]; simp), if_neg (by rw [hb2]; simp)]
        have hh : 0 ≤ hour := by unfold isHourB at hb2; simp at hb2; exact hb2.1
        have HNA := Aside0.mk (names_any (.slice A0 first.length c0) (.slice A1 changes.length c1) Bp dp first.length (pagesOf first changes) hour w5 (Kd.R_reads' HP5.out).2.2 (pages_ok HOE.out) hh)
        have hnl := namesAt_len (pages_ok HOE.out) hh
        have HNS := Aside0.mk (show (namesAt (pagesOf first changes) hour).length < 100000 from by omega)
        clear hnl
        obtain ⟨NA, hNA⟩ : ∃ NA, namesAt (pagesOf first changes) hour = NA := ⟨_, rfl⟩
        rw [hNA] at hwr HNA HNS
        obtain ⟨⟨z0, z1, z2⟩, _, zl⟩ := blk3 BB5.out
        clear hb1 hb2 hNA
        have HWR := Aside0.mk hwr
        clear hwr
        go_wp2_with fail
        refine HNA.out.mono ?_
        rintro e w6 ⟨An, cn, rfl, hln, hcn, hb⟩
        have HB6 := Aside0.mk (below_from HB5.out hb)
        have HIX := Aside0.mk (index_any An cn NA name w6 hcn hln HNS.out)
        have hns := HNS.out
        obtain ⟨hi1, hi2⟩ := idxOf_range (fun s : ByteArray => decide (name.toList = s.toList)) NA 0 (Int.le_refl _)
        obtain ⟨ix, hix⟩ : ∃ ix, nameIdx NA name = ix := ⟨_, rfl⟩
        rw [hix] at HIX HWR
        rw [show idxOf (fun s : ByteArray => decide (name.toList = s.toList)) NA 0 = ix from hix] at hi1 hi2
        clear hln hcn hb z0 z1 z2 zl HNA HP5 BB5 hix
        go_wp2_with fail
        refine HIX.out.mono ?_
        rintro e w7 ⟨rfl, hb⟩
        have HB7 := Aside0.mk (below_from HB6.out hb)
        clear hb HIX HB6
        by_cases hneg : ix < 0
        · have HN := Aside0.mk (HWR.out.trans (if_pos hneg))
          go_wp2_with fail
          rw [HN.out]
          refine bodyPost_ret (v := .tuple #[.int .i64 0, .int .i64 7]) (by simp [results, Tryz.results20, go_sem]) rfl ?_
          exact ⟨rfl, HB7.out⟩
        · have HN := Aside0.mk (HWR.out.trans (if_neg hneg))
          go_wp2_with fail
          rw [HN.out]
          refine bodyPost_ret (v := .tuple #[.int .i64 ix, .int .i64 0]) (by simp [results, Tryz.results20, go_sem]) rfl ?_
          exact ⟨rfl, HB7.out⟩
  · have h0' : (oe != 0) = true := by simp [h0]
    have HN := Aside0.mk (show whoR first changes name hour = (0, oe) from by unfold whoR; rw [if_pos (by rw [hoe]; exact h0), hoe])
    clear h0 hop hoe
    go_wp2_with fail
    rw [HN.out]
    refine bodyPost_ret (v := .tuple #[.int .i64 0, .int .i64 oe]) (by simp [results, Tryz.results20, go_sem]) rfl ?_
    exact ⟨rfl, below_alloc HB2.out _⟩
def street_Who.f (l0_0 : List ByteArray) (l0_1 : List S60) (a1 : ByteArray) (a2 : Int) : Option (Int × Int) := some (whoR l0_0 l0_1 a1 a2)
theorem street_Who.calls (A0_0 : Option Addr) (c0_0 : Nat) (l0_0 : List ByteArray) (A0_1 : Option Addr) (c0_1 : Nat) (l0_1 : List S60) (a1 : ByteArray) (a2 : Int) (r_0 r_1 : Int) (w : World) (hr0_0 : Kd.C Kd.string w A0_0 l0_0.length l0_0) (hc0_0 : l0_0.length ≤ c0_0) (hr0_1 : Kd.C k60 w A0_1 l0_1.length l0_1) (hc0_1 : l0_1.length ≤ c0_1) (h : street_Who.f l0_0 l0_1 a1 a2 = some (r_0, r_1)) :
    Calls Tryz.prog 20 #[.agg #[.slice A0_0 l0_0.length c0_0, .slice A0_1 l0_1.length c0_1], .string a1, .int .i64 a2] w fun e w' => e = .returned (.tuple #[.int .i64 r_0, .int .i64 r_1]) ∧ Below w.heap.size w w' := by
  have e := Option.some.inj h
  have h0 : (whoR l0_0 l0_1 a1 a2).1 = r_0 := by rw [e]
  have h1 : (whoR l0_0 l0_1 a1 a2).2 = r_1 := by rw [e]
  have := who_any A0_0 c0_0 l0_0 A0_1 c0_1 l0_1 a1 a2 w hr0_0 hc0_0 hr0_1 hc0_1
  rwa [h0, h1] at this
end Go.Proofs.YtdjlfdbnmnjccaaGreat.St
end
section
set_option linter.unusedVariables false
set_option linter.unusedSimpArgs false
namespace Go.Proofs.YtdjlfdbnmnjccaaGreat.St
open Go.Sort hiding rd
open Go.RowKit Go.Shelf Go.Proofs.YtdjlfdbnmnjccaaGreatW.PrintWords Go.Proofs.YtdjlfdbnmnjccaaGreatW.PrintLast Go.Proofs.YtdjlfdbnmnjccaaGreatW.PrintMore
def isOrderB (o : S62) (n : Int) : Bool := (decide (0 ≤ o.f0) && decide (o.f0 ≤ n - 1)) && isHourB o.f1 && isNameB o.f2
set_option maxHeartbeats 2000000 in
set_option maxRecDepth 100000 in
theorem pred_order (B : Nat) (A0 : Option Addr) (c0 n : Nat) (hn : n < 100000) (w : World) (h0 : w.cell? ⟨B, 0, none⟩ = some (.slice A0 n c0)) :
    Pred 112 #[.pointer (some ⟨B, 0, none⟩)] enc62 (fun c => !isOrderB c n) w := by
  intro W x hb
  have z0 := (hb.cell (World.block_lt_of_cell? w _ h0)).trans h0
  have hlt := Nat.lt_of_lt_of_le (World.block_lt_of_cell? w _ h0) hb.size
  clear h0 hb
  unfold enc62
  go_enter Tryz.func112, Tryz.ntmps112
  go_wp2_with fail
  obtain ⟨W1, hW1⟩ : ∃ W1, (W.alloc (.cells #[.int .i64 x.f0, .int .i64 x.f1, .string x.f2] 62)).alloc (.cells #[.int .i64 x.f0] 3) = W1 := ⟨_, rfl⟩
  have hbk : W1.heap[W.heap.size]? = some (.cells #[.int .i64 x.f0, .int .i64 x.f1, .string x.f2] 62 (0, 0)) := by rw [← hW1]; exact blk_alloc (blk_new W _) _
  have hB1 : Below W.heap.size W W1 := by rw [← hW1]; exact below_alloc (below_alloc (Below.refl _ _) _) _
  have hcell : W1.cell? ⟨W.heap.size + 1, 0, none⟩ = some (.int .i64 x.f0) := by
    rw [← hW1]
    have := blk_new (W.alloc (.cells #[.int .i64 x.f0, .int .i64 x.f1, .string x.f2] 62)) (.cells #[.int .i64 x.f0] 3)
    rw [World.size_alloc] at this
    exact (blk_cell this 0).trans rfl
  rw [hW1]
  clear hW1
  refine (within_one 0 _ x.f0 (W.heap.size + 1) W1 hcell).mono ?_
  rintro e w2 ⟨rfl, hb⟩
  have HB2 := Aside0.mk (below_from hB1 hb)
  have BK2 := Aside0.mk (blk_below hbk hb)
  clear hb hbk hB1 hcell z0
  obtain ⟨b1, hb1⟩ : ∃ b, (decide (0 ≤ x.f0) && decide (x.f0 ≤ (n : Int) - 1)) = b := ⟨_, rfl⟩
  have HV := Aside0.mk (show isOrderB x n = (b1 && isHourB x.f1 && isNameB x.f2) from by unfold isOrderB; rw [hb1])
  rw [hb1]
  clear hb1
  obtain ⟨⟨y0, y1, y2⟩, _, _⟩ := blk3 BK2.out
  cases b1 with
  | false =>
    go_wp2_with fail
    go_ret
    exact ⟨by rw [HV.out]; rfl, HB2.out⟩
  | true =>
    go_wp2_with fail
    refine (street_isHour.calls x.f1 _ w2 (isHour_f x.f1)).mono ?_
    rintro e w3 ⟨rfl, hb⟩
    have HB3 := Aside0.mk (below_from HB2.out hb)
    have BK3 := Aside0.mk (blk_below BK2.out hb)
    clear hb y0 y1 y2 BK2 HB2
    obtain ⟨⟨y0, y1, y2⟩, _, _⟩ := blk3 BK3.out
    obtain ⟨b2, hb2⟩ : ∃ b, isHourB x.f1 = b := ⟨_, rfl⟩
    rw [hb2] at HV ⊢
    clear hb2
    cases b2 with
    | false =>
      go_wp2_with fail
      go_ret
      exact ⟨by rw [HV.out]; rfl, HB3.out⟩
    | true =>
      go_wp2_with fail
      refine (street_isName.calls x.f2 _ w3 rfl).mono ?_
      rintro e w4 ⟨rfl, hb⟩
      have HB4 := Aside0.mk (below_from HB3.out hb)
      clear hb y0 y1 y2 BK3 HB3
      obtain ⟨b3, hb3⟩ : ∃ b, isNameB x.f2 = b := ⟨_, rfl⟩
      rw [hb3] at HV ⊢
      clear hb3
      go_wp2_with fail
      go_ret
      exact ⟨by rw [HV.out]; rfl, HB4.out⟩
def sayOf (ps : List S167) (o : S62) : ByteArray := rdOf ByteArray.empty (namesAt ps o.f1) o.f0
def wrongTo (ps : List S167) (l : List S62) (k : Nat) : List Int := ((List.range k).filter fun i => decide ((sayOf ps (l.getD i z62)).toList ≠ (l.getD i z62).f2.toList)).map fun i : Nat => (i : Int)
theorem wrongTo_succ (ps : List S167) (l : List S62) (k : Nat) : wrongTo ps l (k + 1) = wrongTo ps l k ++ if (sayOf ps (l.getD k z62)).toList = (l.getD k z62).f2.toList then [] else [(k : Int)] := by
  unfold wrongTo
  rw [List.range_succ, List.filter_append, List.map_append]
  by_cases e : (sayOf ps (l.getD k z62)).toList = (l.getD k z62).f2.toList
  · rw [if_pos e]; simp only [List.filter_cons, List.filter_nil, e, ne_eq, not_true, decide_false, if_neg, Bool.false_eq_true, not_false_eq_true, List.map_nil]
  · rw [if_neg e]; simp only [List.filter_cons, List.filter_nil, ne_eq, decide_eq_true e, if_true, List.map_cons, List.map_nil]
theorem wrongTo_len (ps : List S167) (l : List S62) (k : Nat) : (wrongTo ps l k).length ≤ k := by
  unfold wrongTo
  rw [List.length_map]
  exact Nat.le_trans (List.length_filter_le _ _) (by simp)
def mustR (n : Int) (ps : List S167) (l : List S62) : List ByteArray × List Int × Int :=
  if 8 < l.length then ([], [], 5) else if l.any (fun o => !isOrderB o n) = true then ([], [], 2) else (l.map (sayOf ps), wrongTo ps l l.length, 0)
set_option maxHeartbeats 8000000 in
set_option maxRecDepth 100000 in
theorem must_any (B0 : Option Addr) (n d0 : Nat) (x1 : Value) (Bp : Option Addr) (dp : Nat) (ps : List S167) (Al : Option Addr) (cl : Nat) (l : List S62) (w : World)
    (hx1 : ∃ A n c, x1 = .slice A n c) (hrp : Kd.C k167 w Bp ps.length ps) (hok : PagesOk n ps) (hn : n ≤ 6) (hrl : Kd.C k62 w Al l.length l) :
    Calls Tryz.prog 78 #[.agg #[.slice B0 n d0, x1, .slice Bp ps.length dp], .slice Al l.length cl] w fun e w' =>
      ∃ v0 v1 : Value, e = .returned (.tuple #[v0, v1, .int .i64 (mustR n ps l).2.2]) ∧ Kd.R Kd.string 9 w' w.heap.size (fun k => True ∧ some k ≠ v1.ownBlock) v0 (mustR n ps l).1 ∧ Kd.R (Kd.int .i64) 3 w' w.heap.size (fun k => True ∧ some k ≠ v0.ownBlock) v1 (mustR n ps l).2.1 ∧ Below w.heap.size w w' := by
  obtain ⟨A1, n1, c1, rfl⟩ := hx1
  have hbig : l.length ≤ 9223372036854775807 := hrl.2.1
  have HNA := Aside0.mk (fun (hour : Int) (hh : 0 ≤ hour) (W : World) (hb : Below w.heap.size w W) => names_any (.slice B0 n d0) (.slice A1 n1 c1) Bp dp n ps hour W (Kd.C_below hrp hb) hok hh)
  have HLN := Aside0.mk (fun (hour : Int) (hh : 0 ≤ hour) => namesAt_len hok hh)
  have HRL := Aside0.mk hrl
  have eg := Aside0.mk (enters_of Tryz.func112 (by kernel_rfl) rfl)
  clear hrp hok hrl
  go_enter Tryz.func78, Tryz.ntmps78
  obtain ⟨W1, hW1⟩ : ∃ W1, w.alloc (.cells #[.slice B0 n d0, .slice A1 n1 c1, .slice Bp ps.length dp] 124) = W1 := ⟨_, rfl⟩
  have HB1 := Aside0.mk (show Below w.heap.size w W1 from by rw [← hW1]; exact below_alloc (Below.refl _ _) _)
  have BB1 := Aside0.mk (show W1.heap[w.heap.size]? = some (.cells #[.slice B0 n d0, .slice A1 n1 c1, .slice Bp ps.length dp] 124 (0, 0)) from by rw [← hW1]; exact blk_new w _)
  by_cases h8 : 8 < l.length
  · have h8' : decide ((8 : Int) < (l.length : Int)) = true := decide_eq_true (by omega)
    have h8z : (8 : Int) < (l.length : Int) := by omega
    have HM := Aside0.mk (show mustR n ps l = ([], [], 5) from by unfold mustR; rw [if_pos h8])
    clear h8
    go_wp2_with fail
    rw [HM.out]
    refine bodyPost_ret (v := .tuple #[.slice none 0 0, .slice none 0 0, .int .i64 5]) (by simp [results, Tryz.results78, go_sem]) rfl ?_
    exact ⟨_, _, rfl, Kd.R_nil _ _ _ _ _, Kd.R_nil _ _ _ _ _, HB1.out⟩
  · have h8' : decide ((8 : Int) < (l.length : Int)) = false := decide_eq_false (by omega)
    have h8z : ¬ (8 : Int) < (l.length : Int) := by omega
    have hl8 : l.length ≤ 8 := by omega
    obtain ⟨⟨b0, b1, b2⟩, _, bl⟩ := blk3 BB1.out
    have HC := Aside0.mk (containsFunc_StreetOrder 112 #[.pointer (some ⟨w.heap.size, 0, none⟩)] eg.out (fun c => !isOrderB c n) Al cl l W1 (pred_order w.heap.size B0 d0 n (by omega) W1 b0) (Kd.C_below HRL.out HB1.out) hbig)
    obtain ⟨b, hb⟩ : ∃ b, l.any (fun c => !isOrderB c n) = b := ⟨_, rfl⟩
    rw [hb] at HC
    go_wp2_with fail
    clear hW1
    refine HC.out.mono ?_
    rintro e w2 ⟨rfl, hb2⟩
    have HB2 := Aside0.mk (below_from HB1.out hb2)
    have BB2 := Aside0.mk (blk_below BB1.out hb2)
    clear hb2 HC b0 b1 b2 bl HB1 BB1
    cases b with
    | true =>
      have HM := Aside0.mk (show mustR n ps l = ([], [], 2) from by unfold mustR; rw [if_neg h8, if_pos hb])
      clear hb
      go_wp2_with fail
      rw [HM.out]
      refine bodyPost_ret (v := .tuple #[.slice none 0 0, .slice none 0 0, .int .i64 2]) (by simp [results, Tryz.results78, go_sem]) rfl ?_
      exact ⟨_, _, rfl, Kd.R_nil _ _ _ _ _, Kd.R_nil _ _ _ _ _, HB2.out⟩
    | false =>
      have HM := Aside0.mk (show mustR n ps l = (l.map (sayOf ps), wrongTo ps l l.length, 0) from by unfold mustR; rw [if_neg h8, if_neg (by rw [hb]; simp)])
      have HOK := Aside0.mk (show ∀ o ∈ l, isOrderB o n = true from fun o ho => by
        rw [List.any_eq_false] at hb
        simpa using hb o ho)
      clear hb
      go_wp2_with fail
      go_loopg [4, 5, 8, 9, 10, 22] l.length (fun gg s4 s5 s8 s9 s10 s22 wr => ∃ kk : Nat, kk ≤ l.length ∧ l.length - kk ≤ gg ∧ s22 = .int .i64 kk ∧ Aside0 (Below w.heap.size w wr) ∧
        Aside0 (wr.heap[w.heap.size]? = some (.cells #[.slice B0 n d0, .slice A1 n1 c1, .slice Bp ps.length dp] 124 (0, 0))) ∧
        Aside0 (Kd.R Kd.string 9 wr w.heap.size (fun _ => True) s4 ((l.take kk).map (sayOf ps))) ∧ Aside0 (Kd.R (Kd.int .i64) 3 wr w.heap.size (fun _ => True) s5 (wrongTo ps l kk)))
      case atStart => exact ⟨0, Nat.zero_le _, by omega, rfl, HB2, BB2, ⟨Kd.R_nil _ _ _ _ _⟩, ⟨Kd.R_nil _ _ _ _ _⟩⟩
      case round =>
        clear HB2 BB2
        obtain ⟨kk, hkk, hg, rfl, HB, BB, H4, H5⟩ := hrel
        by_cases hlt : kk < l.length
        · have hltz : (kk : Int) < (l.length : Int) := by omega
          obtain ⟨ad, rfl, hc0, hc1, hc2⟩ := at_T62 HRL.out (kk : Int) (by omega) (by omega)
          rw [Int.toNat_natCast] at hc0 hc1 hc2
          have hc0' := (HB.out.cell (World.block_lt_of_cell? w _ hc0)).trans hc0
          have hc1' := (HB.out.cell (World.block_lt_of_cell? w _ hc1)).trans hc1
          have hc2' := (HB.out.cell (World.block_lt_of_cell? w _ hc2)).trans hc2
          clear hc0 hc1 hc2
          obtain ⟨y, hy⟩ : ∃ y, y = rd_T62 l kk := ⟨_, rfl⟩
          rw [← hy] at hc0' hc1' hc2'
          have hyg : l.getD kk z62 = y := by rw [hy]; unfold rd_T62; rw [Int.toNat_natCast]
          have hyl : l[kk] = y := by rw [← hyg, List.getD_eq_getElem?_getD, List.getElem?_eq_getElem hlt, Option.getD_some]
          have hyo := HOK.out y (by rw [← hyl]; exact List.getElem_mem hlt)
          have hyo2 : 0 ≤ y.f0 ∧ y.f0 ≤ (n : Int) - 1 ∧ 0 ≤ y.f1 := by
            unfold isOrderB isHourB at hyo
            simp at hyo
            omega
          obtain ⟨hy0, hy1, hyh⟩ := hyo2
          have HTK := Aside0.mk (show (l.take (kk + 1)).map (sayOf ps) = (l.take kk).map (sayOf ps) ++ [sayOf ps y] from by rw [List.take_succ_eq_append_getElem hlt, List.map_append, hyl]; rfl)
          have HWT := Aside0.mk (show wrongTo ps l (kk + 1) = wrongTo ps l kk ++ if (sayOf ps y).toList = y.f2.toList then [] else [(kk : Int)] from by rw [wrongTo_succ, hyg])
          have HNL := Aside0.mk (HLN.out y.f1 hyh)
          clear hy hyg hyl hyo
          obtain ⟨W4, hW4⟩ : ∃ W4, wr.alloc (.cells #[.int .i64 y.f0, .int .i64 y.f1, .string y.f2] 62) = W4 := ⟨_, rfl⟩
          have HB4 := Aside0.mk (show Below w.heap.size w W4 from by rw [← hW4]; exact below_alloc HB.out _)
          have BB4 := Aside0.mk (show W4.heap[w.heap.size]? = some (.cells #[.slice B0 n d0, .slice A1 n1 c1, .slice Bp ps.length dp] 124 (0, 0)) from by rw [← hW4]; exact blk_alloc BB.out _)
          have OB4 := Aside0.mk (show W4.heap[wr.heap.size]? = some (.cells #[.int .i64 y.f0, .int .i64 y.f1, .string y.f2] 62 (0, 0)) from by rw [← hW4]; exact blk_new wr _)
          have H44 := Aside0.mk (show Kd.R Kd.string 9 W4 w.heap.size (fun _ => True) u4 ((l.take kk).map (sayOf ps)) from by rw [← hW4]; exact Kd.R_alloc H4.out _)
          have H54 := Aside0.mk (show Kd.R (Kd.int .i64) 3 W4 w.heap.size (fun _ => True) u5 (wrongTo ps l kk) from by rw [← hW4]; exact Kd.R_alloc H5.out _)
          clear HB BB H4 H5
          obtain ⟨⟨b0, b1, b2⟩, _, bl⟩ := blk3 BB4.out
          obtain ⟨⟨y0, y1, y2⟩, _, yl⟩ := blk3 OB4.out
          go_wp2_with fail
          clear hW4 hc0' hc1' hc2'
          obtain ⟨sv, hsv⟩ : ∃ sv, rdOf ByteArray.empty (namesAt ps y.f1) y.f0 = sv := ⟨_, rfl⟩
          have HSV := Aside0.mk hsv
          rw [show sayOf ps y = sv from hsv] at HTK HWT
          clear hsv
          have HL4 := Aside0.mk (show ((l.take kk).map (sayOf ps)).length ≤ 100 from by simp; omega)
          have HL5 := Aside0.mk (show (wrongTo ps l kk).length ≤ 100 from Nat.le_trans (wrongTo_len ps l kk) (by omega))
          have hyn := HNL.out
          go_region_with (go_at_call 71; refine (HNA.out y.f1 hyh _ ?sb).mono ?_; (case sb => first | exact HB4.out | exact below_drew HB4.out); rintro e w5 ⟨An, cn, rfl, hln, hcn, hb⟩; have HB5 := Aside0.mk (below_from (by first | exact HB4.out | exact below_drew HB4.out) hb); have BB5 := Aside0.mk (by first | exact blk_below BB4.out hb | exact blk_below (blk_drew BB4.out) hb); have OB5 := Aside0.mk (by first | exact blk_below OB4.out hb | exact blk_below (blk_drew OB4.out) hb); have H45 := Aside0.mk (by first | exact Kd.R_below H44.out hb | exact Kd.R_below (Kd.R_drew H44.out) hb); have H55 := Aside0.mk (by first | exact Kd.R_below H54.out hb | exact Kd.R_below (Kd.R_drew H54.out) hb); obtain ⟨ad2, rfl, hc⟩ := Kd.at_string hcn y.f0 hy0 (by omega); rw [HSV.out] at hc; obtain ⟨⟨p0, p1, p2⟩, _, _⟩ := blk3 OB5.out; have hlz : y.f0 < ((namesAt ps y.f1).length : Int) := by omega)
          all_goals clear hb hln hcn hc p0 p1 p2 hlz hyn b0 b1 b2 y0 y1 y2 bl yl
          all_goals
            by_cases hq : sv.toList = y.f2.toList
            · rw [if_pos hq, List.append_nil] at HWT
              have hqb : decide (sv.toList = y.f2.toList) = true := decide_eq_true hq
              go_wp2_with (at_builtin; refine Kd.R_append Kd.string (w0 := w) (W := w5) w.heap.size ?b1 (.tmp 35) (.tmp 37) 22 9 (.string ⟨#[]⟩) 16 ?b2 Tryz.underlying22 info9 rfl (by decide) (by omega) u4 ((l.take kk).map (sayOf ps)) sv [.string sv] (fun _ => True) (fun _ => False) ?b3 ?b4 ?aP (fun _ hk => hk.elim) ?aF ?aO ?aB ?aS ?aL ?_; (case b1 => rfl); (case b2 => rfl); (case b3 => rfl); (case b4 => rfl); (case aP => exact rfl); (case aB => exact HB5.out); (case aF => exact (fun _ _ => trivial)); (case aO => exact H45.out); (case aS => exact HB5.out.size); (case aL => have := HL4.out; omega); intro v4 w6 ho hb hgr hat; have HB6 := Aside0.mk hb; have H46 := Aside0.mk ho; have OB6 := Aside0.mk (blk_grown OB5.out hgr (Kd.R_ne H45.out OB5.out (by decide))); have BB6 := Aside0.mk (blk_grown BB5.out hgr (Kd.R_ne H45.out BB5.out (by decide))); have H56 := Aside0.mk (Kd.R_over H55.out H45.out (by decide) hgr); clear ho hb hgr hat; have q2 : w6.cell? ⟨wr.heap.size, 2, none⟩ = some (.string y.f2) := (blk_cell OB6.out 2).trans rfl)
              go_roundg (l.length - (kk + 1))
              case measure => omega
              case rel => exact ⟨kk + 1, by omega, by omega, by go_num, HB6, BB6, ⟨by rw [HTK.out]; exact H46.out⟩, ⟨by rw [HWT.out]; exact H56.out⟩⟩
            · rw [if_neg hq] at HWT
              have hqb : (sv.toList == y.f2.toList) = false := beq_eq_false_iff_ne.2 hq
              go_wp2_with (first | (at_builtin; refine Kd.R_append Kd.string (w0 := w) (W := w5) w.heap.size ?b1 (.tmp 35) (.tmp 37) 22 9 (.string ⟨#[]⟩) 16 ?b2 Tryz.underlying22 info9 rfl (by decide) (by omega) u4 ((l.take kk).map (sayOf ps)) sv [.string sv] (fun _ => True) (fun _ => False) ?b3 ?b4 ?aP (fun _ hk => hk.elim) ?aF ?aO ?aB ?aS ?aL ?_; (case b1 => rfl); (case b2 => rfl); (case b3 => rfl); (case b4 => rfl); (case aP => exact rfl); (case aB => exact HB5.out); (case aF => exact (fun _ _ => trivial)); (case aO => exact H45.out); (case aS => exact HB5.out.size); (case aL => have := HL4.out; omega); intro v4 w6 ho hb hgr hat; have HB6 := Aside0.mk hb; have H46 := Aside0.mk ho; have OB6 := Aside0.mk (blk_grown OB5.out hgr (Kd.R_ne H45.out OB5.out (by decide))); have BB6 := Aside0.mk (blk_grown BB5.out hgr (Kd.R_ne H45.out BB5.out (by decide))); have H56 := Aside0.mk (Kd.R_over H55.out H45.out (by decide) hgr); clear ho hb hgr hat; have q2 : w6.cell? ⟨wr.heap.size, 2, none⟩ = some (.string y.f2) := (blk_cell OB6.out 2).trans rfl) | (at_builtin; refine Kd.R_append (Kd.int .i64) (w0 := w) (W := w6) w.heap.size ?b1 (.tmp 43) (.tmp 45) 31 3 (.int .i64 0) 8 ?b2 Tryz.underlying31 info3 rfl (by decide) (by omega) u5 (wrongTo ps l kk) (kk : Int) [.int .i64 (kk : Int)] (fun _ => True) (fun _ => False) ?b3 ?b4 ?aP (fun _ hk => hk.elim) ?aF ?aO ?aB ?aS ?aL ?_; (case b1 => rfl); (case b2 => rfl); (case b3 => rfl); (case b4 => rfl); (case aP => exact rfl); (case aB => exact HB6.out); (case aF => exact (fun _ _ => trivial)); (case aO => exact H56.out); (case aS => exact HB6.out.size); (case aL => have := HL5.out; omega); intro v5 w7 ho hb hgr hat; have HB7 := Aside0.mk hb; have H57 := Aside0.mk ho; have BB7 := Aside0.mk (blk_grown BB6.out hgr (Kd.R_ne H56.out BB6.out (by decide))); have H47 := Aside0.mk (Kd.R_over H46.out H56.out (by decide) hgr); clear ho hb hgr hat))
              go_roundg (l.length - (kk + 1))
              case measure => omega
              case rel => exact ⟨kk + 1, by omega, by omega, by go_num, HB7, BB7, ⟨by rw [HTK.out]; exact H47.out⟩, ⟨by rw [HWT.out]; exact H57.out⟩⟩
        · have hltz : ¬ (kk : Int) < (l.length : Int) := by omega
          obtain rfl : kk = l.length := by omega
          rw [List.take_length] at H4
          go_wp2_with fail
          rw [HM.out]
          refine bodyPost_ret (v := .tuple #[u4, u5, .int .i64 0]) (by simp [results, Tryz.results78, go_sem]) rfl ?_
          exact ⟨_, _, rfl, Kd.R_mono (Kd.R_apartR H4.out H5.out (by decide)) (fun _ hk => hk.2), Kd.R_mono (Kd.R_apartR H5.out H4.out (by decide)) (fun _ hk => hk.2), HB.out⟩
end Go.Proofs.YtdjlfdbnmnjccaaGreat.St
end
