/- A part of the proof of LClashes: lemmas that hold without conditions. -/
import Derived.Shelf.SlicesE.DeleteFunc
import Derived.Ground.SlgfProg
import Derived.Test.YtdjlfdbnmnjccaaGreatProg
import Derived.Test.YtdjlfdbnmnjccaaGreatC1M04
import Derived.Test.YtdjlfdbnmnjccaaGreatC1M06
import Derived.Test.YtdjlfdbnmnjccaaGreatC1M11
set_option linter.all false
set_option linter.unusedSectionVars false
section
set_option linter.unusedVariables false
set_option linter.unusedSimpArgs false
namespace Go.Proofs.YtdjlfdbnmnjccaaGreat.St
open Go.Sort hiding rd
open Go.RowKit Go.Shelf Go.Proofs.YtdjlfdbnmnjccaaGreatW.PrintWords Go.Proofs.YtdjlfdbnmnjccaaGreatW.PrintLast Go.Proofs.YtdjlfdbnmnjccaaGreatW.PrintMore
def whoR (first : List ByteArray) (changes : List S60) (name : ByteArray) (hour : Int) : Int × Int :=
  if openE first changes ≠ 0 then (0, openE first changes)
  else if isNameB name = false then (0, 4)
  else if isHourB hour = false then (0, 3)
  else if nameIdx (namesAt (pagesOf first changes) hour) name < 0 then (0, 7)
  else (nameIdx (namesAt (pagesOf first changes) hour) name, 0)
set_option maxHeartbeats 4000000 in
set_option maxRecDepth 100000 in
theorem who_any (A0 : Option Addr) (c0 : Nat) (first : List ByteArray) (A1 : Option Addr) (c1 : Nat) (changes : List S60) (name : ByteArray) (hour : Int) (w : World)
    (hr0 : Kd.C Kd.string w A0 first.length first) (hc0 : first.length ≤ c0) (hr1 : Kd.C k60 w A1 changes.length changes) (hc1 : changes.length ≤ c1) :
    Calls Tryz.prog 20 #[.agg #[.slice A0 first.length c0, .slice A1 changes.length c1], .string name, .int .i64 hour] w fun e w' =>
      e = .returned (.tuple #[.int .i64 (whoR first changes name hour).1, .int .i64 (whoR first changes name hour).2]) ∧ Below w.heap.size w w' := by
  have HOP := Aside0.mk (fun (W : World) (hb : Below w.heap.size w W) => open_any A0 c0 first A1 c1 changes W (Kd.C_below hr0 hb) hc0 (Kd.C_below hr1 hb) hc1)
  clear hr0 hr1
  go_enter Tryz.func20, Tryz.ntmps20
  go_wp2_with fail
  obtain ⟨W1, hW1⟩ : ∃ W1, w.alloc (.cells #[.slice A0 first.length c0, .slice A1 changes.length c1] 25) = W1 := ⟨_, rfl⟩
  have hb1 : Below w.heap.size w W1 := by rw [← hW1]; exact below_alloc (Below.refl _ _) _
  rw [hW1]
  clear hW1
  refine (HOP.out W1 hb1).mono ?_
  rintro e w2 ⟨B0, n0, d0, B1, n1, d1, Bp, np, dp, rfl, hop, hb⟩
  obtain ⟨oe, hoe⟩ : ∃ oe, openE first changes = oe := ⟨_, rfl⟩
  rw [hoe]
  have HB2 := Aside0.mk (below_from hb1 hb)
  have HS := Aside0.mk hb1.size
  clear hb hb1 HOP
  by_cases h0 : oe = 0
  · subst h0
    obtain ⟨e0, e1, hp⟩ := hop hoe
    rw [e0, e1]
    clear e0 e1 hop
    have HP2 := Aside0.mk (Kd.R_lower hp HS.out)
    have HOE := Aside0.mk hoe
    obtain ⟨hf1, hf2, _⟩ := check_ok (open_zero hoe).1
    clear hp hoe HS
    obtain ⟨Aq, cq, hsl⟩ := Kd.R_slice HP2.out
    cases hsl
    obtain ⟨W3, hW3⟩ : ∃ W3, w2.alloc (.cells #[.slice A0 first.length c0, .slice A1 changes.length c1, .slice Bp (bookOf first changes).1.length dp] 124) = W3 := ⟨_, rfl⟩
    have HB3 := Aside0.mk (show Below w.heap.size w W3 from by rw [← hW3]; exact below_alloc HB2.out _)
    have BB3 := Aside0.mk (show W3.heap[w2.heap.size]? = some (.cells #[.slice A0 first.length c0, .slice A1 changes.length c1, .slice Bp (bookOf first changes).1.length dp] 124 (0, 0)) from by rw [← hW3]; exact blk_new w2 _)
    have HP3 := Aside0.mk (show Kd.R k167 167 W3 w.heap.size (fun _ => True) (.slice Bp (bookOf first changes).1.length dp) (bookOf first changes).1 from by rw [← hW3]; exact Kd.R_alloc HP2.out _)
    clear HB2 HP2
    go_wp2_with fail
    clear hW3
    refine (street_isName.calls name _ W3 rfl).mono ?_
    rintro e w4 ⟨rfl, hb⟩
    have HB4 := Aside0.mk (below_from HB3.out hb)
    have BB4 := Aside0.mk (blk_below BB3.out hb)
    have HP4 := Aside0.mk (Kd.R_below HP3.out hb)
    clear HB3 BB3 HP3 hb
    obtain ⟨b1, hb1⟩ : ∃ b, isNameB name = b := ⟨_, rfl⟩
    rw [hb1]
    cases b1 with
    | false =>
      have HN := Aside0.mk (show whoR first changes name hour = (0, 4) from by unfold whoR; rw [if_neg (by rw [HOE.out]; simp), if_pos hb1])
      clear hb1
      go_wp2_with fail
      rw [HN.out]
      refine bodyPost_ret (v := .tuple #[.int .i64 0, .int .i64 4]) (by simp [results, Tryz.results20, go_sem]) rfl ?_
      exact ⟨rfl, HB4.out⟩
    | true =>
      go_wp2_with fail
      refine (street_isHour.calls hour _ w4 (isHour_f hour)).mono ?_
      rintro e w5 ⟨rfl, hb⟩
      have HB5 := Aside0.mk (below_from HB4.out hb)
      have BB5 := Aside0.mk (blk_below BB4.out hb)
      have HP5 := Aside0.mk (Kd.R_below HP4.out hb)
      clear HB4 BB4 HP4 hb
      obtain ⟨b2, hb2⟩ : ∃ b, isHourB hour = b := ⟨_, rfl⟩
      rw [hb2]
      cases b2 with
      | false =>
        have HN := Aside0.mk (show whoR first changes name hour = (0, 3) from by unfold whoR; rw [if_neg (by rw [HOE.out]; simp), if_neg (by rw [hb1]; simp), if_pos hb2])
        clear hb1 hb2
        go_wp2_with fail
        rw [HN.out]
        refine bodyPost_ret (v := .tuple #[.int .i64 0, .int .i64 3]) (by simp [results, Tryz.results20, go_sem]) rfl ?_
        exact ⟨rfl, HB5.out⟩
      | true =>
        have hwr : whoR first changes name hour = if nameIdx (namesAt (pagesOf first changes) hour) name < 0 then (0, 7) else (nameIdx (namesAt (pagesOf first changes) hour) name, 0) := by unfold whoR; rw [if_neg (by rw [HOE.out]; simp), if_neg (by rw [hb1]; simp), if_neg (by rw [hb2]; simp)]
        have hh : 0 ≤ hour := by unfold isHourB at hb2; simp at hb2; exact hb2.1
        have HNA := Aside0.mk (names_any (.slice A0 first.length c0) (.slice A1 changes.length c1) Bp dp first.length (pagesOf first changes) hour w5 (Kd.R_reads' HP5.out).2.2 (pages_ok HOE.out) hh)
        have hnl := namesAt_len (pages_ok HOE.out) hh
        have HNS := Aside0.mk (show (namesAt (pagesOf first changes) hour).length < 100000 from by omega)
        clear hnl
        obtain ⟨NA, hNA⟩ : ∃ NA, namesAt (pagesOf first changes) hour = NA := ⟨_, rfl⟩
        rw [hNA] at hwr HNA HNS
        obtain ⟨⟨z0, z1, z2⟩, _, zl⟩ := blk3 BB5.out
        clear hb1 hb2 hNA
        have HWR := Aside0.mk hwr
        clear hwr
        go_wp2_with fail
        refine HNA.out.mono ?_
        rintro e w6 ⟨An, cn, rfl, hln, hcn, hb⟩
        have HB6 := Aside0.mk (below_from HB5.out hb)
        have HIX := Aside0.mk (index_any An cn NA name w6 hcn hln HNS.out)
        have hns := HNS.out
        obtain ⟨hi1, hi2⟩ := idxOf_range (fun s : ByteArray => decide (name.toList = s.toList)) NA 0 (Int.le_refl _)
        obtain ⟨ix, hix⟩ : ∃ ix, nameIdx NA name = ix := ⟨_, rfl⟩
        rw [hix] at HIX HWR
        rw [show idxOf (fun s : ByteArray => decide (name.toList = s.toList)) NA 0 = ix from hix] at hi1 hi2
        clear hln hcn hb z0 z1 z2 zl HNA HP5 BB5 hix
        go_wp2_with fail
        refine HIX.out.mono ?_
        rintro e w7 ⟨rfl, hb⟩
        have HB7 := Aside0.mk (below_from HB6.out hb)
        clear hb HIX HB6
        by_cases hneg : ix < 0
        · have HN := Aside0.mk (HWR.out.trans (if_pos hneg))
          go_wp2_with fail
          rw [HN.out]
          refine bodyPost_ret (v := .tuple #[.int .i64 0, .int .i64 7]) (by simp [results, Tryz.results20, go_sem]) rfl ?_
          exact ⟨rfl, HB7.out⟩
        · have HN := Aside0.mk (HWR.out.trans (if_neg hneg))
          go_wp2_with fail
          rw [HN.out]
          refine bodyPost_ret (v := .tuple #[.int .i64 ix, .int .i64 0]) (by simp [results, Tryz.results20, go_sem]) rfl ?_
          exact ⟨rfl, HB7.out⟩
  · have h0' : (oe != 0) = true := by simp [h0]
    have HN := Aside0.mk (show whoR first changes name hour = (0, oe) from by unfold whoR; rw [if_pos (by rw [hoe]; exact h0), hoe])
    clear h0 hop hoe
    go_wp2_with fail
    rw [HN.out]
    refine bodyPost_ret (v := .tuple #[.int .i64 0, .int .i64 oe]) (by simp [results, Tryz.results20, go_sem]) rfl ?_
    exact ⟨rfl, below_alloc HB2.out _⟩
def street_Who.f (l0_0 : List ByteArray) (l0_1 : List S60) (a1 : ByteArray) (a2 : Int) : Option (Int × Int) := some (whoR l0_0 l0_1 a1 a2)
theorem street_Who.calls (A0_0 : Option Addr) (c0_0 : Nat) (l0_0 : List ByteArray) (A0_1 : Option Addr) (c0_1 : Nat) (l0_1 : List S60) (a1 : ByteArray) (a2 : Int) (r_0 r_1 : Int) (w : World) (hr0_0 : Kd.C Kd.string w A0_0 l0_0.length l0_0) (hc0_0 : l0_0.length ≤ c0_0) (hr0_1 : Kd.C k60 w A0_1 l0_1.length l0_1) (hc0_1 : l0_1.length ≤ c0_1) (h : street_Who.f l0_0 l0_1 a1 a2 = some (r_0, r_1)) :
    Calls Tryz.prog 20 #[.agg #[.slice A0_0 l0_0.length c0_0, .slice A0_1 l0_1.length c0_1], .string a1, .int .i64 a2] w fun e w' => e = .returned (.tuple #[.int .i64 r_0, .int .i64 r_1]) ∧ Below w.heap.size w w' := by
  have e := Option.some.inj h
  have h0 : (whoR l0_0 l0_1 a1 a2).1 = r_0 := by rw [e]
  have h1 : (whoR l0_0 l0_1 a1 a2).2 = r_1 := by rw [e]
  have := who_any A0_0 c0_0 l0_0 A0_1 c0_1 l0_1 a1 a2 w hr0_0 hc0_0 hr0_1 hc0_1
  rwa [h0, h1] at this
end Go.Proofs.YtdjlfdbnmnjccaaGreat.St
end
section
set_option linter.unusedVariables false
set_option linter.unusedSimpArgs false
namespace Go.Proofs.YtdjlfdbnmnjccaaGreat.St
open Go.Sort hiding rd
open Go.RowKit Go.Shelf Go.Proofs.YtdjlfdbnmnjccaaGreatW.PrintWords Go.Proofs.YtdjlfdbnmnjccaaGreatW.PrintLast Go.Proofs.YtdjlfdbnmnjccaaGreatW.PrintMore
def isOrderB (o : S62) (n : Int) : Bool := (decide (0 ≤ o.f0) && decide (o.f0 ≤ n - 1)) && isHourB o.f1 && isNameB o.f2
set_option maxHeartbeats 2000000 in
set_option maxRecDepth 100000 in
theorem pred_order (B : Nat) (A0 : Option Addr) (c0 n : Nat) (hn : n < 100000) (w : World) (h0 : w.cell? ⟨B, 0, none⟩ = some (.slice A0 n c0)) :
    Pred 112 #[.pointer (some ⟨B, 0, none⟩)] enc62 (fun c => !isOrderB c n) w := by
  intro W x hb
  have z0 := (hb.cell (World.block_lt_of_cell? w _ h0)).trans h0
  have hlt := Nat.lt_of_lt_of_le (World.block_lt_of_cell? w _ h0) hb.size
  clear h0 hb
  unfold enc62
  go_enter Tryz.func112, Tryz.ntmps112
  go_wp2_with fail
  obtain ⟨W1, hW1⟩ : ∃ W1, (W.alloc (.cells #[.int .i64 x.f0, .int .i64 x.f1, .string x.f2] 62)).alloc (.cells #[.int .i64 x.f0] 3) = W1 := ⟨_, rfl⟩
  have hbk : W1.heap[W.heap.size]? = some (.cells #[.int .i64 x.f0, .int .i64 x.f1, .string x.f2] 62 (0, 0)) := by rw [← hW1]; exact blk_alloc (blk_new W _) _
  have hB1 : Below W.heap.size W W1 := by rw [← hW1]; exact below_alloc (below_alloc (Below.refl _ _) _) _
  have hcell : W1.cell? ⟨W.heap.size + 1, 0, none⟩ = some (.int .i64 x.f0) := by
    rw [← hW1]
    have := blk_new (W.alloc (.cells #[.int .i64 x.f0, .int .i64 x.f1, .string x.f2] 62)) (.cells #[.int .i64 x.f0] 3)
    rw [World.size_alloc] at this
    exact (blk_cell this 0).trans rfl
  rw [hW1]
  clear hW1
  refine (within_one 0 _ x.f0 (W.heap.size + 1) W1 hcell).mono ?_
  rintro e w2 ⟨rfl, hb⟩
  have HB2 := Aside0.mk (below_from hB1 hb)
  have BK2 := Aside0.mk (blk_below hbk hb)
  clear hb hbk hB1 hcell z0
  obtain ⟨b1, hb1⟩ : ∃ b, (decide (0 ≤ x.f0) && decide (x.f0 ≤ (n : Int) - 1)) = b := ⟨_, rfl⟩
  have HV := Aside0.mk (show isOrderB x n = (b1 && isHourB x.f1 && isNameB x.f2) from by unfold isOrderB; rw [hb1])
  rw [hb1]
  clear hb1
  obtain ⟨⟨y0, y1, y2⟩, _, _⟩ := blk3 BK2.out
  cases b1 with
  | false =>
    go_wp2_with fail
    go_ret
    exact ⟨by rw [HV.out]; rfl, HB2.out⟩
  | true =>
    go_wp2_with fail
    refine (street_isHour.calls x.f1 _ w2 (isHour_f x.f1)).mono ?_
    rintro e w3 ⟨rfl, hb⟩
    have HB3 := Aside0.mk (below_from HB2.out hb)
    have BK3 := Aside0.mk (blk_below BK2.out hb)
    clear hb y0 y1 y2 BK2 HB2
    obtain ⟨⟨y0, y1, y2⟩, _, _⟩ := blk3 BK3.out
    obtain ⟨b2, hb2⟩ : ∃ b, isHourB x.f1 = b := ⟨_, rfl⟩
    rw [hb2] at HV ⊢
    clear hb2
    cases b2 with
    | false =>
      go_wp2_with fail
      go_ret
      exact ⟨by rw [HV.out]; rfl, HB3.out⟩
    | true =>
      go_wp2_with fail
      refine (street_isName.calls x.f2 _ w3 rfl).mono ?_
      rintro e w4 ⟨rfl, hb⟩
      have HB4 := Aside0.mk (below_from HB3.out hb)
      clear hb y0 y1 y2 BK3 HB3
      obtain ⟨b3, hb3⟩ : ∃ b, isNameB x.f2 = b := ⟨_, rfl⟩
      rw [hb3] at HV ⊢
      clear hb3
      go_wp2_with fail
      go_ret
      exact ⟨by rw [HV.out]; rfl, HB4.out⟩
def sayOf (ps : List S167) (o : S62) : ByteArray := rdOf ByteArray.empty (namesAt ps o.f1) o.f0
def wrongTo (ps : List S167) (l : List S62) (k : Nat) : List Int := ((List.range k).filter fun i => decide ((sayOf ps (l.getD i z62)).toList ≠ (l.getD i z62).f2.toList)).map fun i : Nat => (i : Int)
theorem wrongTo_succ (ps : List S167) (l : List S62) (k : Nat) : wrongTo ps l (k + 1) = wrongTo ps l k ++ if (sayOf ps (l.getD k z62)).toList = (l.getD k z62).f2.toList then [] else [(k : Int)] := by
  unfold wrongTo
  rw [List.range_succ, List.filter_append, List.map_append]
  by_cases e : (sayOf ps (l.getD k z62)).toList = (l.getD k z62).f2.toList
  · rw [if_pos e]; simp only [List.filter_cons, List.filter_nil, e, ne_eq, not_true, decide_false, if_neg, Bool.false_eq_true, not_false_eq_true, List.map_nil]
  · rw [if_neg e]; simp only [List.filter_cons, List.filter_nil, ne_eq, decide_eq_true e, if_true, List.map_cons, List.map_nil]
theorem wrongTo_len (ps : List S167) (l : List S62) (k : Nat) : (wrongTo ps l k).length ≤ k := by
  unfold wrongTo
  rw [List.length_map]
  exact Nat.le_trans (List.length_filter_le _ _) (by simp)
def mustR (n : Int) (ps : List S167) (l : List S62) : List ByteArray × List Int × Int :=
  if 8 < l.length then ([], [], 5) else if l.any (fun o => !isOrderB o n) = true then ([], [], 2) else (l.map (sayOf ps), wrongTo ps l l.length, 0)
set_option maxHeartbeats 8000000 in
set_option maxRecDepth 100000 in
theorem must_any (B0 : Option Addr) (n d0 : Nat) (x1 : Value) (Bp : Option Addr) (dp : Nat) (ps : List S167) (Al : Option Addr) (cl : Nat) (l : List S62) (w : World)
    (hx1 : ∃ A n c, x1 = .slice A n c) (hrp : Kd.C k167 w Bp ps.length ps) (hok : PagesOk n ps) (hn : n ≤ 6) (hrl : Kd.C k62 w Al l.length l) :
    Calls Tryz.prog 78 #[.agg #[.slice B0 n d0, x1, .slice Bp ps.length dp], .slice Al l.length cl] w fun e w' =>
      ∃ v0 v1 : Value, e = .returned (.tuple #[v0, v1, .int .i64 (mustR n ps l).2.2]) ∧ Kd.R Kd.string 9 w' w.heap.size (fun k => True ∧ some k ≠ v1.ownBlock) v0 (mustR n ps l).1 ∧ Kd.R (Kd.int .i64) 3 w' w.heap.size (fun k => True ∧ some k ≠ v0.ownBlock) v1 (mustR n ps l).2.1 ∧ Below w.heap.size w w' := by
  obtain ⟨A1, n1, c1, rfl⟩ := hx1
  have hbig : l.length ≤ 9223372036854775807 := hrl.2.1
  have HNA := Aside0.mk (fun (hour : Int) (hh : 0 ≤ hour) (W : World) (hb : Below w.heap.size w W) => names_any (.slice B0 n d0) (.slice A1 n1 c1) Bp dp n ps hour W (Kd.C_below hrp hb) hok hh)
  have HLN := Aside0.mk (fun (hour : Int) (hh : 0 ≤ hour) => namesAt_len hok hh)
  have HRL := Aside0.mk hrl
  have eg := Aside0.mk (enters_of Tryz.func112 (by kernel_rfl) rfl)
  clear hrp hok hrl
  go_enter Tryz.func78, Tryz.ntmps78
  obtain ⟨W1, hW1⟩ : ∃ W1, w.alloc (.cells #[.slice B0 n d0, .slice A1 n1 c1, .slice Bp ps.length dp] 124) = W1 := ⟨_, rfl⟩
  have HB1 := Aside0.mk (show Below w.heap.size w W1 from by rw [← hW1]; exact below_alloc (Below.refl _ _) _)
  have BB1 := Aside0.mk (show W1.heap[w.heap.size]? = some (.cells #[.slice B0 n d0, .slice A1 n1 c1, .slice Bp ps.length dp] 124 (0, 0)) from by rw [← hW1]; exact blk_new w _)
  by_cases h8 : 8 < l.length
  · have h8' : decide ((8 : Int) < (l.length : Int)) = true := decide_eq_true (by omega)
    have h8z : (8 : Int) < (l.length : Int) := by omega
    have HM := Aside0.mk (show mustR n ps l = ([], [], 5) from by unfold mustR; rw [if_pos h8])
    clear h8
    go_wp2_with fail
    rw [HM.out]
    refine bodyPost_ret (v := .tuple #[.slice none 0 0, .slice none 0 0, .int .i64 5]) (by simp [results, Tryz.results78, go_sem]) rfl ?_
    exact ⟨_, _, rfl, Kd.R_nil _ _ _ _ _, Kd.R_nil _ _ _ _ _, HB1.out⟩
  · have h8' : decide ((8 : Int) < (l.length : Int)) = false := decide_eq_false (by omega)
    have h8z : ¬ (8 : Int) < (l.length : Int) := by omega
    have hl8 : l.length ≤ 8 := by omega
    obtain ⟨⟨b0, b1, b2⟩, _, bl⟩ := blk3 BB1.out
    have HC := Aside0.mk (containsFunc_StreetOrder 112 #[.pointer (some ⟨w.heap.size, 0, none⟩)] eg.out (fun c => !isOrderB c n) Al cl l W1 (pred_order w.heap.size B0 d0 n (by omega) W1 b0) (Kd.C_below HRL.out HB1.out) hbig)
    obtain ⟨b, hb⟩ : ∃ b, l.any (fun c => !isOrderB c n) = b := ⟨_, rfl⟩
    rw [hb] at HC
    go_wp2_with fail
    clear hW1
    refine HC.out.mono ?_
    rintro e w2 ⟨rfl, hb2⟩
    have HB2 := Aside0.mk (below_from HB1.out hb2)
    have BB2 := Aside0.mk (blk_below BB1.out hb2)
    clear hb2 HC b0 b1 b2 bl HB1 BB1
    cases b with
    | true =>
      have HM := Aside0.mk (show mustR n ps l = ([], [], 2) from by unfold mustR; rw [if_neg h8, if_pos hb])
      clear hb
      go_wp2_with fail
      rw [HM.out]
      refine bodyPost_ret (v := .tuple #[.slice none 0 0, .slice none 0 0, .int .i64 2]) (by simp [results, Tryz.results78, go_sem]) rfl ?_
      exact ⟨_, _, rfl, Kd.R_nil _ _ _ _ _, Kd.R_nil _ _ _ _ _, HB2.out⟩
    | false =>
      have HM := Aside0.mk (show mustR n ps l = (l.map (sayOf ps), wrongTo ps l l.length, 0) from by unfold mustR; rw [if_neg h8, if_neg (by rw [hb]; simp)])
      have HOK := Aside0.mk (show ∀ o ∈ l, isOrderB o n = true from fun o ho => by
        rw [List.any_eq_false] at hb
        simpa using hb o ho)
      clear hb
      go_wp2_with fail
      go_loopg [4, 5, 8, 9, 10, 22] l.length (fun gg s4 s5 s8 s9 s10 s22 wr => ∃ kk : Nat, kk ≤ l.length ∧ l.length - kk ≤ gg ∧ s22 = .int .i64 kk ∧ Aside0 (Below w.heap.size w wr) ∧
        Aside0 (wr.heap[w.heap.size]? = some (.cells #[.slice B0 n d0, .slice A1 n1 c1, .slice Bp ps.length dp] 124 (0, 0))) ∧
        Aside0 (Kd.R Kd.string 9 wr w.heap.size (fun _ => True) s4 ((l.take kk).map (sayOf ps))) ∧ Aside0 (Kd.R (Kd.int .i64) 3 wr w.heap.size (fun _ => True) s5 (wrongTo ps l kk)))
      case atStart => exact ⟨0, Nat.zero_le _, by omega, rfl, HB2, BB2, ⟨Kd.R_nil _ _ _ _ _⟩, ⟨Kd.R_nil _ _ _ _ _⟩⟩
      case round =>
        clear HB2 BB2
        obtain ⟨kk, hkk, hg, rfl, HB, BB, H4, H5⟩ := hrel
        by_cases hlt : kk < l.length
        · have hltz : (kk : Int) < (l.length : Int) := by omega
          obtain ⟨ad, rfl, hc0, hc1, hc2⟩ := at_T62 HRL.out (kk : Int) (by omega) (by omega)
          rw [Int.toNat_natCast] at hc0 hc1 hc2
          have hc0' := (HB.out.cell (World.block_lt_of_cell? w _ hc0)).trans hc0
          have hc1' := (HB.out.cell (World.block_lt_of_cell? w _ hc1)).trans hc1
          have hc2' := (HB.out.cell (World.block_lt_of_cell? w _ hc2)).trans hc2
          clear hc0 hc1 hc2
          obtain ⟨y, hy⟩ : ∃ y, y = rd_T62 l kk := ⟨_, rfl⟩
          rw [← hy] at hc0' hc1' hc2'
          have hyg : l.getD kk z62 = y := by rw [hy]; unfold rd_T62; rw [Int.toNat_natCast]
          have hyl : l[kk] = y := by rw [← hyg, List.getD_eq_getElem?_getD, List.getElem?_eq_getElem hlt, Option.getD_some]
          have hyo := HOK.out y (by rw [← hyl]; exact List.getElem_mem hlt)
          have hyo2 : 0 ≤ y.f0 ∧ y.f0 ≤ (n : Int) - 1 ∧ 0 ≤ y.f1 := by
            unfold isOrderB isHourB at hyo
            simp at hyo
            omega
          obtain ⟨hy0, hy1, hyh⟩ := hyo2
          have HTK := Aside0.mk (show (l.take (kk + 1)).map (sayOf ps) = (l.take kk).map (sayOf ps) ++ [sayOf ps y] from by rw [List.take_succ_eq_append_getElem hlt, List.map_append, hyl]; rfl)
          have HWT := Aside0.mk (show wrongTo ps l (kk + 1) = wrongTo ps l kk ++ if (sayOf ps y).toList = y.f2.toList then [] else [(kk : Int)] from by rw [wrongTo_succ, hyg])
          have HNL := Aside0.mk (HLN.out y.f1 hyh)
          clear hy hyg hyl hyo
          obtain ⟨W4, hW4⟩ : ∃ W4, wr.alloc (.cells #[.int .i64 y.f0, .int .i64 y.f1, .string y.f2] 62) = W4 := ⟨_, rfl⟩
          have HB4 := Aside0.mk (show Below w.heap.size w W4 from by rw [← hW4]; exact below_alloc HB.out _)
          have BB4 := Aside0.mk (show W4.heap[w.heap.size]? = some (.cells #[.slice B0 n d0, .slice A1 n1 c1, .slice Bp ps.length dp] 124 (0, 0)) from by rw [← hW4]; exact blk_alloc BB.out _)
          have OB4 := Aside0.mk (show W4.heap[wr.heap.size]? = some (.cells #[.int .i64 y.f0, .int .i64 y.f1, .string y.f2] 62 (0, 0)) from by rw [← hW4]; exact blk_new wr _)
          have H44 := Aside0.mk (show Kd.R Kd.string 9 W4 w.heap.size (fun _ => True) u4 ((l.take kk).map (sayOf ps)) from by rw [← hW4]; exact Kd.R_alloc H4.out _)
          have H54 := Aside0.mk (show Kd.R (Kd.int .i64) 3 W4 w.heap.size (fun _ => True) u5 (wrongTo ps l kk) from by rw [← hW4]; exact Kd.R_alloc H5.out _)
          clear HB BB H4 H5
          obtain ⟨⟨b0, b1, b2⟩, _, bl⟩ := blk3 BB4.out
          obtain ⟨⟨y0, y1, y2⟩, _, yl⟩ := blk3 OB4.out
          go_wp2_with fail
          clear hW4 hc0' hc1' hc2'
          obtain ⟨sv, hsv⟩ : ∃ sv, rdOf ByteArray.empty (namesAt ps y.f1) y.f0 = sv := ⟨_, rfl⟩
          have HSV := Aside0.mk hsv
          rw [show sayOf ps y = sv from hsv] at HTK HWT
          clear hsv
          have HL4 := Aside0.mk (show ((l.take kk).map (sayOf ps)).length ≤ 100 from by simp; omega)
          have HL5 := Aside0.mk (show (wrongTo ps l kk).length ≤ 100 from Nat.le_trans (wrongTo_len ps l kk) (by omega))
          have hyn := HNL.out
          go_region_with (go_at_call 71; refine (HNA.out y.f1 hyh _ ?sb).mono ?_; (case sb => first | exact HB4.out | exact below_drew HB4.out); rintro e w5 ⟨An, cn, rfl, hln, hcn, hb⟩; have HB5 := Aside0.mk (below_from (by first | exact HB4.out | exact below_drew HB4.out) hb); have BB5 := Aside0.mk (by first | exact blk_below BB4.out hb | exact blk_below (blk_drew BB4.out) hb); have OB5 := Aside0.mk (by first | exact blk_below OB4.out hb | exact blk_below (blk_drew OB4.out) hb); have H45 := Aside0.mk (by first | exact Kd.R_below H44.out hb | exact Kd.R_below (Kd.R_drew H44.out) hb); have H55 := Aside0.mk (by first | exact Kd.R_below H54.out hb | exact Kd.R_below (Kd.R_drew H54.out) hb); obtain ⟨ad2, rfl, hc⟩ := Kd.at_string hcn y.f0 hy0 (by omega); rw [HSV.out] at hc; obtain ⟨⟨p0, p1, p2⟩, _, _⟩ := blk3 OB5.out; have hlz : y.f0 < ((namesAt ps y.f1).length : Int) := by omega)
          all_goals clear hb hln hcn hc p0 p1 p2 hlz hyn b0 b1 b2 y0 y1 y2 bl yl
          all_goals
            by_cases hq : sv.toList = y.f2.toList
            · rw [if_pos hq, List.append_nil] at HWT
              have hqb : decide (sv.toList = y.f2.toList) = true := decide_eq_true hq
              go_wp2_with (at_builtin; refine Kd.R_append Kd.string (w0 := w) (W := w5) w.heap.size ?b1 (.tmp 35) (.tmp 37) 22 9 (.string ⟨#[]⟩) 16 ?b2 Tryz.underlying22 info9 rfl (by decide) (by omega) u4 ((l.take kk).map (sayOf ps)) sv [.string sv] (fun _ => True) (fun _ => False) ?b3 ?b4 ?aP (fun _ hk => hk.elim) ?aF ?aO ?aB ?aS ?aL ?_; (case b1 => rfl); (case b2 => rfl); (case b3 => rfl); (case b4 => rfl); (case aP => exact rfl); (case aB => exact HB5.out); (case aF => exact (fun _ _ => trivial)); (case aO => exact H45.out); (case aS => exact HB5.out.size); (case aL => have := HL4.out; omega); intro v4 w6 ho hb hgr hat; have HB6 := Aside0.mk hb; have H46 := Aside0.mk ho; have OB6 := Aside0.mk (blk_grown OB5.out hgr (Kd.R_ne H45.out OB5.out (by decide))); have BB6 := Aside0.mk (blk_grown BB5.out hgr (Kd.R_ne H45.out BB5.out (by decide))); have H56 := Aside0.mk (Kd.R_over H55.out H45.out (by decide) hgr); clear ho hb hgr hat; have q2 : w6.cell? ⟨wr.heap.size, 2, none⟩ = some (.string y.f2) := (blk_cell OB6.out 2).trans rfl)
              go_roundg (l.length - (kk + 1))
              case measure => omega
              case rel => exact ⟨kk + 1, by omega, by omega, by go_num, HB6, BB6, ⟨by rw [HTK.out]; exact H46.out⟩, ⟨by rw [HWT.out]; exact H56.out⟩⟩
            · rw [if_neg hq] at HWT
              have hqb : (sv.toList == y.f2.toList) = false := beq_eq_false_iff_ne.2 hq
              go_wp2_with (first | (at_builtin; refine Kd.R_append Kd.string (w0 := w) (W := w5) w.heap.size ?b1 (.tmp 35) (.tmp 37) 22 9 (.string ⟨#[]⟩) 16 ?b2 Tryz.underlying22 info9 rfl (by decide) (by omega) u4 ((l.take kk).map (sayOf ps)) sv [.string sv] (fun _ => True) (fun _ => False) ?b3 ?b4 ?aP (fun _ hk => hk.elim) ?aF ?aO ?aB ?aS ?aL ?_; (case b1 => rfl); (case b2 => rfl); (case b3 => rfl); (case b4 => rfl); (case aP => exact rfl); (case aB => exact HB5.out); (case aF => exact (fun _ _ => trivial)); (case aO => exact H45.out); (case aS => exact HB5.out.size); (case aL => have := HL4.out; omega); intro v4 w6 ho hb hgr hat; have HB6 := Aside0.mk hb; have H46 := Aside0.mk ho; have OB6 := Aside0.mk (blk_grown OB5.out hgr (Kd.R_ne H45.out OB5.out (by decide))); have BB6 := Aside0.mk (blk_grown BB5.out hgr (Kd.R_ne H45.out BB5.out (by decide))); have H56 := Aside0.mk (Kd.R_over H55.out H45.out (by decide) hgr); clear ho hb hgr hat; have q2 : w6.cell? ⟨wr.heap.size, 2, none⟩ = some (.string y.f2) := (blk_cell OB6.out 2).trans rfl) | (at_builtin; refine Kd.R_append (Kd.int .i64) (w0 := w) (W := w6) w.heap.size ?b1 (.tmp 43) (.tmp 45) 31 3 (.int .i64 0) 8 ?b2 Tryz.underlying31 info3 rfl (by decide) (by omega) u5 (wrongTo ps l kk) (kk : Int) [.int .i64 (kk : Int)] (fun _ => True) (fun _ => False) ?b3 ?b4 ?aP (fun _ hk => hk.elim) ?aF ?aO ?aB ?aS ?aL ?_; (case b1 => rfl); (case b2 => rfl); (case b3 => rfl); (case b4 => rfl); (case aP => exact rfl); (case aB => exact HB6.out); (case aF => exact (fun _ _ => trivial)); (case aO => exact H56.out); (case aS => exact HB6.out.size); (case aL => have := HL5.out; omega); intro v5 w7 ho hb hgr hat; have HB7 := Aside0.mk hb; have H57 := Aside0.mk ho; have BB7 := Aside0.mk (blk_grown BB6.out hgr (Kd.R_ne H56.out BB6.out (by decide))); have H47 := Aside0.mk (Kd.R_over H46.out H56.out (by decide) hgr); clear ho hb hgr hat))
              go_roundg (l.length - (kk + 1))
              case measure => omega
              case rel => exact ⟨kk + 1, by omega, by omega, by go_num, HB7, BB7, ⟨by rw [HTK.out]; exact H47.out⟩, ⟨by rw [HWT.out]; exact H57.out⟩⟩
        · have hltz : ¬ (kk : Int) < (l.length : Int) := by omega
          obtain rfl : kk = l.length := by omega
          rw [List.take_length] at H4
          go_wp2_with fail
          rw [HM.out]
          refine bodyPost_ret (v := .tuple #[u4, u5, .int .i64 0]) (by simp [results, Tryz.results78, go_sem]) rfl ?_
          exact ⟨_, _, rfl, Kd.R_mono (Kd.R_apartR H4.out H5.out (by decide)) (fun _ hk => hk.2), Kd.R_mono (Kd.R_apartR H5.out H4.out (by decide)) (fun _ hk => hk.2), HB.out⟩
end Go.Proofs.YtdjlfdbnmnjccaaGreat.St
end
section
set_option linter.unusedVariables false
set_option linter.unusedSimpArgs false
namespace Go.Proofs.YtdjlfdbnmnjccaaGreat.St
open Go.Sort hiding rd
open Go.RowKit Go.Shelf Go.Proofs.YtdjlfdbnmnjccaaGreatW.PrintWords Go.Proofs.YtdjlfdbnmnjccaaGreatW.PrintLast Go.Proofs.YtdjlfdbnmnjccaaGreatW.PrintMore
def mustT (first : List ByteArray) (changes : List S60) (l : List S62) : List ByteArray × List Int × Int :=
  if openE first changes ≠ 0 then ([], [], openE first changes) else mustR first.length (pagesOf first changes) l
set_option maxHeartbeats 4000000 in
set_option maxRecDepth 100000 in
theorem mustT_any (A0 : Option Addr) (c0 : Nat) (first : List ByteArray) (A1 : Option Addr) (c1 : Nat) (changes : List S60) (Al : Option Addr) (cl : Nat) (l : List S62) (w : World)
    (hr0 : Kd.C Kd.string w A0 first.length first) (hc0 : first.length ≤ c0) (hr1 : Kd.C k60 w A1 changes.length changes) (hc1 : changes.length ≤ c1) (hrl : Kd.C k62 w Al l.length l) :
    Calls Tryz.prog 31 #[.agg #[.slice A0 first.length c0, .slice A1 changes.length c1], .slice Al l.length cl] w fun e w' =>
      ∃ v0 v1 : Value, e = .returned (.tuple #[v0, v1, .int .i64 (mustT first changes l).2.2]) ∧ Kd.R Kd.string 9 w' w.heap.size (fun _ => True) v0 (mustT first changes l).1 ∧ Kd.R (Kd.int .i64) 3 w' w.heap.size (fun _ => True) v1 (mustT first changes l).2.1 ∧ Below w.heap.size w w' := by
  have HOP := Aside0.mk (fun (W : World) (hb : Below w.heap.size w W) => open_any A0 c0 first A1 c1 changes W (Kd.C_below hr0 hb) hc0 (Kd.C_below hr1 hb) hc1)
  have HRL := Aside0.mk hrl
  clear hr0 hr1 hrl
  go_enter Tryz.func31, Tryz.ntmps31
  go_wp2_with fail
  obtain ⟨W1, hW1⟩ : ∃ W1, w.alloc (.cells #[.slice A0 first.length c0, .slice A1 changes.length c1] 25) = W1 := ⟨_, rfl⟩
  have hb1 : Below w.heap.size w W1 := by rw [← hW1]; exact below_alloc (Below.refl _ _) _
  rw [hW1]
  clear hW1
  refine (HOP.out W1 hb1).mono ?_
  rintro e w2 ⟨B0, n0, d0, B1, n1, d1, Bp, np, dp, rfl, hop, hb⟩
  obtain ⟨oe, hoe⟩ : ∃ oe, openE first changes = oe := ⟨_, rfl⟩
  rw [hoe]
  have HB2 := Aside0.mk (below_from hb1 hb)
  have HS := Aside0.mk hb1.size
  clear hb hb1 HOP
  by_cases h0 : oe = 0
  · subst h0
    obtain ⟨e0, e1, hp⟩ := hop hoe
    rw [e0, e1]
    clear e0 e1 hop
    have HP2 := Aside0.mk (Kd.R_lower hp HS.out)
    have HOE := Aside0.mk hoe
    obtain ⟨hf1, hf2, _⟩ := check_ok (open_zero hoe).1
    clear hp hoe HS
    obtain ⟨Aq, cq, hsl⟩ := Kd.R_slice HP2.out
    cases hsl
    obtain ⟨W3, hW3⟩ : ∃ W3, w2.alloc (.cells #[.slice A0 first.length c0, .slice A1 changes.length c1, .slice Bp (bookOf first changes).1.length dp] 124) = W3 := ⟨_, rfl⟩
    have HB3 := Aside0.mk (show Below w.heap.size w W3 from by rw [← hW3]; exact below_alloc HB2.out _)
    have BB3 := Aside0.mk (show W3.heap[w2.heap.size]? = some (.cells #[.slice A0 first.length c0, .slice A1 changes.length c1, .slice Bp (bookOf first changes).1.length dp] 124 (0, 0)) from by rw [← hW3]; exact blk_new w2 _)
    have HP3 := Aside0.mk (show Kd.R k167 167 W3 w.heap.size (fun _ => True) (.slice Bp (bookOf first changes).1.length dp) (bookOf first changes).1 from by rw [← hW3]; exact Kd.R_alloc HP2.out _)
    have HMU := Aside0.mk (must_any A0 first.length c0 (.slice A1 changes.length c1) Bp dp (pagesOf first changes) Al cl l W3 ⟨_, _, _, rfl⟩ (Kd.R_reads' HP3.out).2.2 (pages_ok HOE.out) hf2 (Kd.C_below HRL.out HB3.out))
    have HT := Aside0.mk (show mustT first changes l = mustR first.length (pagesOf first changes) l from by unfold mustT; rw [if_neg (by rw [HOE.out]; simp)])
    clear HB2 HP2
    obtain ⟨⟨z0, z1, z2⟩, _, zl⟩ := blk3 BB3.out
    go_wp2_with fail
    clear hW3
    refine HMU.out.mono ?_
    rintro e w4 ⟨v0, v1, rfl, h0, h1, hb⟩
    have HB4 := Aside0.mk (below_from HB3.out hb)
    have H0 := Aside0.mk (Kd.R_mono (Kd.R_lower h0 HB3.out.size) (ok' := fun _ => True) (fun _ _ => trivial))
    have H1 := Aside0.mk (Kd.R_mono (Kd.R_lower h1 HB3.out.size) (ok' := fun _ => True) (fun _ _ => trivial))
    clear h0 h1 hb HMU HB3 BB3 HP3 z0 z1 z2 zl
    go_wp2_with fail
    rw [HT.out]
    refine bodyPost_ret (v := .tuple #[v0, v1, .int .i64 (mustR first.length (pagesOf first changes) l).2.2]) (by simp [results, Tryz.results31, go_sem]) rfl ?_
    exact ⟨_, _, rfl, H0.out, H1.out, HB4.out⟩
  · have h0' : (oe != 0) = true := by simp [h0]
    have HN := Aside0.mk (show mustT first changes l = ([], [], oe) from by unfold mustT; rw [if_pos (by rw [hoe]; exact h0), hoe])
    clear h0 hop hoe
    go_wp2_with fail
    rw [HN.out]
    refine bodyPost_ret (v := .tuple #[.slice none 0 0, .slice none 0 0, .int .i64 oe]) (by simp [results, Tryz.results31, go_sem]) rfl ?_
    exact ⟨_, _, rfl, Kd.R_nil _ _ _ _ _, Kd.R_nil _ _ _ _ _, below_alloc HB2.out _⟩
def street_Must.f (l0_0 : List ByteArray) (l0_1 : List S60) (l1 : List S62) : Option (List ByteArray × List Int × Int) := some (mustT l0_0 l0_1 l1)
theorem street_Must.calls (A0_0 : Option Addr) (c0_0 : Nat) (l0_0 : List ByteArray) (A0_1 : Option Addr) (c0_1 : Nat) (l0_1 : List S60) (A1 : Option Addr) (c1 : Nat) (l1 : List S62) (r_0 : List ByteArray) (r_1 : List Int) (r_2 : Int) (w : World) (hr0_0 : Kd.C Kd.string w A0_0 l0_0.length l0_0) (hc0_0 : l0_0.length ≤ c0_0) (hr0_1 : Kd.C k60 w A0_1 l0_1.length l0_1) (hc0_1 : l0_1.length ≤ c0_1) (hr1 : Kd.C k62 w A1 l1.length l1) (hc1 : l1.length ≤ c1) (h : street_Must.f l0_0 l0_1 l1 = some (r_0, r_1, r_2)) :
    Calls Tryz.prog 31 #[.agg #[.slice A0_0 l0_0.length c0_0, .slice A0_1 l0_1.length c0_1], .slice A1 l1.length c1] w fun e w' => ∃ v0_ v1_ : Value, e = .returned (.tuple #[v0_, v1_, .int .i64 r_2]) ∧ Kd.R Kd.string 9 w' w.heap.size (fun _ => True) v0_ r_0 ∧ Kd.R (Kd.int .i64) 3 w' w.heap.size (fun _ => True) v1_ r_1 ∧ Below w.heap.size w w' := by
  have e := Option.some.inj h
  have h0 : (mustT l0_0 l0_1 l1).1 = r_0 := by rw [e]
  have h1 : (mustT l0_0 l0_1 l1).2.1 = r_1 := by rw [e]
  have h2 : (mustT l0_0 l0_1 l1).2.2 = r_2 := by rw [e]
  have := mustT_any A0_0 c0_0 l0_0 A0_1 c0_1 l0_1 A1 c1 l1 w hr0_0 hc0_0 hr0_1 hc0_1 hr1
  rwa [h0, h1, h2] at this
end Go.Proofs.YtdjlfdbnmnjccaaGreat.St
end
section
namespace Go.Proofs
open Go.Shelf
def Tryz.laysSlH10_f80_ren : Go.Shelf.Ren := ⟨fun | 10 => 80 | 6 => 114 | n => n, fun | 22 => 31 | 23 => 3 | 25 => 130 | 3 => 3 | 4 => 4 | 0 => 0 | n => n, fun | n => n⟩
theorem Tryz.laysSlH10_f80 : Go.Proofs.SlLaysH.n10 Tryz.prog Tryz.laysSlH10_f80_ren := {
  mixed := by kernel_rfl
  f6 := ⟨Tryz.f114.name, by decide, Tryz.func114.trans (congrArg some (by kernel_rfl))⟩
  f10 := ⟨Tryz.f80.name, by decide, Tryz.func80.trans (congrArg some (by kernel_rfl))⟩
  t0 := Tryz.underlying0
  a0 := Tryz.isAgg0
  z0 := Tryz.sizeOf0
  v0 := Tryz.zeroValue0
  t3 := Tryz.underlying3
  a3 := Tryz.isAgg3
  z3 := Tryz.sizeOf3
  v3 := Tryz.zeroValue3
  t4 := Tryz.underlying4
  a4 := Tryz.isAgg4
  z4 := Tryz.sizeOf4
  v4 := Tryz.zeroValue4
  t22 := Tryz.underlying31
  a22 := Tryz.isAgg31
  z22 := Tryz.sizeOf31
  v22 := Tryz.zeroValue31
  a23 := Tryz.isAgg3
  z23 := Tryz.sizeOf3
  t25 := Tryz.underlying130
  a25 := Tryz.isAgg130
  z25 := Tryz.sizeOf130
  v25 := Tryz.zeroValue130 }
end Go.Proofs
end
section
set_option linter.unusedVariables false
set_option linter.unusedSimpArgs false
namespace Go.Proofs.YtdjlfdbnmnjccaaGreat.St
open Go.Sort hiding rd
open Go.RowKit Go.Shelf Go.Proofs.YtdjlfdbnmnjccaaGreatW.PrintWords Go.Proofs.YtdjlfdbnmnjccaaGreatW.PrintLast Go.Proofs.YtdjlfdbnmnjccaaGreatW.PrintMore
set_option maxHeartbeats 1000000 in
theorem deleteI_any (p : Int → Bool) (g : Nat) (lb : Array Value) (eg : ∀ args w, (callFunc g args).run Tryz.prog w = .ok (.enter g args) w) (base : Nat) (v : Value) (zs : List Int) (w0 w : World)
    (hp : ∀ (W : World) (x : Int), Below base w0 W → Go.Proofs.FnGives Tryz.prog g lb #[.int .i64 x] (.bool (p x)) W) (h : Kd.R (Kd.int .i64) 3 w base (fun _ => True) v zs) (hb : Below base w0 w) (hbase : base ≤ w.heap.size) (hsm : zs.length < 100000) :
    Calls Tryz.prog 80 #[v, .func (.func g) #[] lb] w fun e w' => ∃ v', e = .returned v' ∧ Kd.R (Kd.int .i64) 3 w' base (fun _ => True) v' (zs.filter fun x => !p x) ∧ Below base w w' := by
  have hPA : Go.Proofs.PredAt Tryz.prog g lb (Value.int .i64) p w := fun W x hW => hp W x (hb.trans (hW.mono hbase))
  rcases Nat.eq_zero_or_pos zs.length with hz | hz
  · obtain rfl := List.eq_nil_of_length_eq_zero hz
    obtain ⟨A, c, rfl⟩ := Kd.R_slice h
    have hcall := indexFunc_int g lb eg p A c [] w (fun W x hW => (hPA W x hW).mono fun e w' ⟨he, q, hq⟩ => ⟨he, hq ▸ pw_below_drewN (Below.refl _ _) q⟩) (Kd.R_reads' h).2.2 (by simp)
    have HH := Aside0.mk h
    clear h hp hPA
    go_enter Tryz.func80, Tryz.ntmps80
    go_wp2_with fail
    refine hcall.mono ?_
    rintro e w' ⟨rfl, hb'⟩
    have HB' := Aside0.mk hb'
    clear hb' hcall
    go_wp2_with fail
    go_ret
    exact ⟨_, rfl, Kd.R_below HH.out HB'.out, HB'.out.mono hbase⟩
  · have hown := ownI h
    have hv : v ≠ .slice none 0 0 := by
      rintro rfl
      obtain ⟨g, cap, e, _⟩ := hown.form hz
      cases e
    obtain ⟨blk, cap, rfl, hb1, hg, hc, hm, _, hH⟩ := Lib.holds_of_ownsRow hown hv
    have hover : Go.Proofs.PredOver Tryz.prog g lb (Value.int .i64) p blk 0 zs.toArray.size w := fun n os dk x hdk => hp _ x (hb.trans (by
      refine ⟨rfl, rfl, rfl, ?_, fun k hk => ?_⟩
      · simp [sortWorld, grow, putRow, mapBlock, Sort.ahead]
      · unfold sortWorld
        rw [heap_grow_old _ _ (by simp [putRow, mapBlock, Sort.ahead]; omega)]
        simp [putRow, mapBlock, Sort.ahead, Array.getElem?_modify, show blk ≠ k by omega]))
    have hcall := Go.Proofs.AnyE.slices_DeleteFunc Tryz.laysSlH10_f80 (Value.int .i64) (fun _ => rfl) p g lb eg 0 (fun w => by kernel_rfl) blk 0 cap zs.toArray w hPA hover hH (by simp; omega) (by simpa using hc)
    refine Calls.mono (R := _) (show Calls Tryz.prog 80 #[.slice (some ⟨blk, 0, none⟩) zs.length cap, .func (.func g) #[] lb] w _ from hcall) ?_
    rintro e w' ⟨rfl, q, rfl⟩
    have hle := List.length_filter_le (fun x => !p x) zs
    have ho := Lib.ownsRow_putRow (q := q) (k := (zs.filter fun x => !p x).length) (ys := (zs.filter fun x => !p x) ++ List.replicate (zs.length - (zs.filter fun x => !p x).length) 0) hown (by simp; omega) hle
    rw [List.take_left] at ho
    refine ⟨_, rfl, ofOwnI ho rfl, ⟨rfl, rfl, rfl, by simp [putRow, mapBlock, Sort.ahead], fun k hk => ?_⟩⟩
    simp [putRow, mapBlock, Sort.ahead, Array.getElem?_modify, show blk ≠ k by omega]
end Go.Proofs.YtdjlfdbnmnjccaaGreat.St
end
section
set_option linter.unusedVariables false
set_option linter.unusedSimpArgs false
namespace Go.Proofs.YtdjlfdbnmnjccaaGreat.St
open Go.Sort hiding rd
open Go.RowKit Go.Shelf Go.Proofs.YtdjlfdbnmnjccaaGreatW.PrintWords Go.Proofs.YtdjlfdbnmnjccaaGreatW.PrintLast Go.Proofs.YtdjlfdbnmnjccaaGreatW.PrintMore
set_option maxHeartbeats 1000000 in
theorem indexI_any (A : Option Addr) (c : Nat) (zs : List Int) (x : Int) (w : World) (hr : Kd.C (Kd.int .i64) w A zs.length zs) (hsm : zs.length < 100000) :
    Calls Tryz.prog 115 #[.slice A zs.length c, .int .i64 x] w fun e w' => e = .returned (.int .i64 (idxOf (fun y => decide (x = y)) zs 0)) ∧ w' = w := by
  have HR := Aside0.mk hr
  clear hr
  have H0 := Aside0.mk (show idxOf (fun y => decide (x = y)) (zs.drop 0) ((0 : Nat) : Int) = idxOf (fun y => decide (x = y)) zs 0 from rfl)
  go_enter Tryz.func115, Tryz.ntmps115
  go_wp2
  go_loopg [5, 8] zs.length (fun gg _ s8 wr => ∃ kk : Nat, kk ≤ zs.length ∧ zs.length - kk ≤ gg ∧ s8 = .int .i64 kk ∧ Aside0 (wr = w) ∧ Aside0 (idxOf (fun y => decide (x = y)) (zs.drop kk) (kk : Int) = idxOf (fun y => decide (x = y)) zs 0))
  case atStart => exact ⟨0, Nat.zero_le _, by omega, rfl, ⟨rfl⟩, H0⟩
  case round =>
    clear H0
    obtain ⟨kk, hkk, hg, rfl, BW, HI⟩ := hrel
    obtain rfl := BW.out
    by_cases hlt : kk < zs.length
    · have hltz : (kk : Int) < (zs.length : Int) := by omega
      obtain ⟨ad, rfl, hc⟩ := Kd.at_int HR.out (kk : Int) (by omega) (by omega)
      rw [Int.toNat_natCast] at hc
      have hstep := idxOf_drop (fun y => decide (x = y)) zs 0 kk hlt
      have e0 : zs.getD kk 0 = rd zs kk := by unfold rd; simp
      rw [e0] at hstep
      obtain ⟨y, hy⟩ : ∃ y, rd zs (kk : Int) = y := ⟨_, rfl⟩
      rw [hy] at hstep hc
      have HI2 := HI.out
      rw [hstep] at HI2
      clear hstep HI e0 hy
      by_cases hq : x = y
      · subst hq
        have HI3 := Aside0.mk (show (kk : Int) = idxOf (fun y => decide (x = y)) zs 0 from by simpa using HI2)
        clear HI2
        go_wp2
        go_ret
        exact ⟨ret_int HI3.out, rfl⟩
      · have hqb : (x == y) = false := beq_eq_false_iff_ne.2 hq
        have HI3 := Aside0.mk (show idxOf (fun y => decide (x = y)) (zs.drop (kk + 1)) ((kk + 1 : Nat) : Int) = idxOf (fun y => decide (x = y)) zs 0 from by simpa [hq] using HI2)
        clear HI2
        go_wp2
        go_roundg (zs.length - (kk + 1))
        case measure => omega
        case rel => exact ⟨kk + 1, by omega, by omega, by go_num, ⟨rfl⟩, HI3⟩
    · have hltz : ¬ (kk : Int) < (zs.length : Int) := by omega
      obtain rfl : kk = zs.length := by omega
      have HI2 := HI.out
      rw [List.drop_length] at HI2
      have HI3 := Aside0.mk HI2
      clear HI HI2
      go_wp2
      go_ret
      exact ⟨ret_int HI3.out, rfl⟩
theorem containsI_any (A : Option Addr) (c : Nat) (zs : List Int) (x : Int) (w : World) (hr : Kd.C (Kd.int .i64) w A zs.length zs) (hsm : zs.length < 100000) :
    Calls Tryz.prog 82 #[.slice A zs.length c, .int .i64 x] w fun e w' => e = .returned (.bool (zs.any fun y => decide (x = y))) ∧ w' = w := by
  have hcall := indexI_any A c zs x w hr hsm
  have HI := Aside0.mk (idxOf_nonneg (fun y => decide (x = y)) zs 0 (Int.le_refl 0))
  clear hr
  obtain ⟨ix, hix⟩ : ∃ ix, idxOf (fun y => decide (x = y)) zs 0 = ix := ⟨_, rfl⟩
  rw [hix] at hcall HI
  clear hix
  go_enter Tryz.func82, Tryz.ntmps82
  go_wp2_with fail
  refine hcall.mono ?_
  rintro e w' ⟨rfl, rfl⟩
  go_wp2_with fail
  go_ret
  exact ⟨ret_bool HI.out, rfl⟩
theorem pred_wrong (B : Nat) (A : Option Addr) (c : Nat) (zs : List Int) (n₀ : Nat) (w0 : World) (hr : Kd.C (Kd.int .i64) w0 A zs.length zs) (hsm : zs.length < 100000) (hn₀ : w0.heap.size ≤ n₀) (hc : w0.cell? ⟨B, 0, none⟩ = some (.slice A zs.length c)) (W : World) (x : Int) (hb : Below n₀ w0 W) :
    Go.Proofs.FnGives Tryz.prog 81 #[.pointer (some ⟨B, 0, none⟩)] #[.int .i64 x] (.bool (zs.any fun y => decide (x = y))) W := by
  show Calls Tryz.prog 81 #[.int .i64 x, .pointer (some ⟨B, 0, none⟩)] W _
  have hb' : Below w0.heap.size w0 W := hb.mono hn₀
  have hcW := (hb'.cell (World.block_lt_of_cell? w0 _ hc)).trans hc
  have hlt := Nat.lt_of_lt_of_le (World.block_lt_of_cell? w0 _ hc) hb'.size
  have hcall := containsI_any A c zs x W (Kd.C_below hr hb') hsm
  obtain ⟨b, hb2⟩ : ∃ b, (zs.any fun y => decide (x = y)) = b := ⟨_, rfl⟩
  rw [hb2] at hcall ⊢
  clear hr hb hb' hc hb2
  go_enter Tryz.func81, Tryz.ntmps81
  go_wp2_with fail
  refine hcall.mono ?_
  rintro e w' ⟨rfl, rfl⟩
  go_wp2_with fail
  go_ret
  exact ⟨rfl, 0, rfl⟩
theorem clip_any (A : Option Addr) (n c : Nat) (w : World) (h : n ≤ c) (hn : n < 100000) :
    Calls Tryz.prog 79 #[.slice A n c] w fun e w' => e = .returned (.slice A n n) ∧ w' = w := by
  have hu := Tryz.underlying23
  go_enter Tryz.func79, Tryz.ntmps79
  go_wp2
  go_ret
  exact ⟨rfl, rfl⟩
end Go.Proofs.YtdjlfdbnmnjccaaGreat.St
end
