/- A part of the proofs of the laws of this seat: the walks of the program's functions, and lemmas. They hold without conditions. -/
import Derived.Test.YtdjlfdbnmnjccaaGreatB13
import Derived.Test.YtdjlfdbnmnjccaaGreatB14
import Derived.Test.YtdjlfdbnmnjccaaGreatB18
set_option linter.all false
set_option linter.unusedSectionVars false
section
set_option linter.unusedVariables false
set_option linter.unusedSimpArgs false
namespace Go.Proofs.YtdjlfdbnmnjccaaGreat.St
open Go.RowKit Go.Shelf Go.Proofs.YtdjlfdbnmnjccaaGreatW.PrintWords Go.Proofs.YtdjlfdbnmnjccaaGreatW.PrintLast Go.Proofs.YtdjlfdbnmnjccaaGreatW.PrintMore
def street_Meant.f (l0_0 : List ByteArray) (l0_1 : List S60) (a1 : ByteArray) (a2_0 a2_1 a2_2 : Int) : Option (List Int × List Int × Int) := some (meantR l0_0 l0_1 a1 a2_0 a2_1 a2_2)
theorem street_Meant.calls (A0_0 : Option Addr) (c0_0 : Nat) (l0_0 : List ByteArray) (A0_1 : Option Addr) (c0_1 : Nat) (l0_1 : List S60) (a1 : ByteArray) (a2_0 a2_1 a2_2 : Int) (r_0 : List Int) (r_1 : List Int) (r_2 : Int) (w : World) (hr0_0 : Kd.C Kd.string w A0_0 l0_0.length l0_0) (hc0_0 : l0_0.length ≤ c0_0) (hr0_1 : Kd.C k60 w A0_1 l0_1.length l0_1) (hc0_1 : l0_1.length ≤ c0_1) (h : street_Meant.f l0_0 l0_1 a1 a2_0 a2_1 a2_2 = some (r_0, r_1, r_2)) :
    Calls Tryz.prog 38 #[.agg #[.slice A0_0 l0_0.length c0_0, .slice A0_1 l0_1.length c0_1], .string a1, .agg #[.int .i64 a2_0, .int .i64 a2_1, .int .i64 a2_2]] w fun e w' => ∃ v0_ v1_ : Value, e = .returned (.tuple #[v0_, v1_, .int .i64 r_2]) ∧ Kd.R (Kd.int .i64) 3 w' w.heap.size (fun _ => True) v0_ r_0 ∧ Kd.R (Kd.int .i64) 3 w' w.heap.size (fun _ => True) v1_ r_1 ∧ Below w.heap.size w w' := by
  have e := Option.some.inj h
  have h0 : (meantR l0_0 l0_1 a1 a2_0 a2_1 a2_2).1 = r_0 := by rw [e]
  have h1 : (meantR l0_0 l0_1 a1 a2_0 a2_1 a2_2).2.1 = r_1 := by rw [e]
  have h2 : (meantR l0_0 l0_1 a1 a2_0 a2_1 a2_2).2.2 = r_2 := by rw [e]
  have := meant_any A0_0 c0_0 l0_0 A0_1 c0_1 l0_1 a1 a2_0 a2_1 a2_2 w hr0_0 hc0_0 hr0_1 hc0_1
  rwa [h0, h1, h2] at this
end Go.Proofs.YtdjlfdbnmnjccaaGreat.St
end
section
set_option linter.unusedVariables false
set_option linter.unusedSimpArgs false
namespace Go.Proofs.YtdjlfdbnmnjccaaGreat.St
open Go.Sort hiding rd
open Go.RowKit Go.Shelf Go.Proofs.YtdjlfdbnmnjccaaGreatW.PrintWords Go.Proofs.YtdjlfdbnmnjccaaGreatW.PrintLast Go.Proofs.YtdjlfdbnmnjccaaGreatW.PrintMore
def wrongL (lines : List S89) (names : List ByteArray) : Nat → List Int
  | 0 => []
  | k + 1 => if (rdOf ByteArray.empty names (rd_T89 lines (k : Int)).f0).toList = (rd_T89 lines (k : Int)).f1.toList then wrongL lines names k else wrongL lines names k ++ [(k : Int)]
theorem wrongL_len (lines : List S89) (names : List ByteArray) : ∀ k, (wrongL lines names k).length ≤ k
  | 0 => by simp [wrongL]
  | k + 1 => by
    have := wrongL_len lines names k
    unfold wrongL
    split
    · omega
    · simp; omega
set_option maxHeartbeats 4000000 in
set_option maxRecDepth 100000 in
theorem wrong_any (A0 : Option Addr) (n0 c0 : Nat) (A1 : Option Addr) (n1 c1 : Nat) (A2 : Option Addr) (n2 c2 : Nat) (Al : Option Addr) (cl : Nat) (lines : List S89) (An : Option Addr) (cn : Nat) (names : List ByteArray) (w : World)
    (hrl : Kd.C k89 w Al lines.length lines) (hrn : Kd.C Kd.string w An names.length names) (hst : ∀ k : Nat, k < lines.length → 0 ≤ (rd_T89 lines (k : Int)).f0 ∧ (rd_T89 lines (k : Int)).f0 < names.length) (hsm : lines.length ≤ 1000) :
    Calls Tryz.prog 88 #[.agg #[.slice A0 n0 c0, .slice A1 n1 c1, .slice A2 n2 c2, .slice Al lines.length cl], .slice An names.length cn] w fun e w' =>
      ∃ v : Value, e = .returned v ∧ Kd.R (Kd.int .i64) 3 w' w.heap.size (fun _ => True) v (wrongL lines names lines.length) ∧ (wrongL lines names lines.length = [] → v = .slice none 0 0) ∧ Below w.heap.size w w' := by
  have HRL := Aside0.mk hrl
  have HRN := Aside0.mk hrn
  have HST := Aside0.mk hst
  clear hrl hrn hst
  go_enter Tryz.func88, Tryz.ntmps88
  go_wp2_with fail
  obtain ⟨W1, hW1⟩ : ∃ W1, w.alloc (.cells #[.slice A0 n0 c0, .slice A1 n1 c1, .slice A2 n2 c2, .slice Al lines.length cl] 147) = W1 := ⟨_, rfl⟩
  have HB1 := Aside0.mk (show Below w.heap.size w W1 from by rw [← hW1]; exact below_alloc (Below.refl _ _) _)
  rw [hW1]
  clear hW1
  go_loopg [4, 10] lines.length (fun gg v i wr => ∃ kk : Nat, kk ≤ lines.length ∧ lines.length - kk ≤ gg ∧ i = .int .i64 kk ∧ Aside0 (Below w.heap.size w wr) ∧ Aside0 (Kd.R (Kd.int .i64) 3 wr w.heap.size (fun _ => True) v (wrongL lines names kk)) ∧ Aside0 (wrongL lines names kk = [] → v = .slice none 0 0))
  case atStart => exact ⟨0, Nat.zero_le _, by omega, rfl, HB1, ⟨Kd.R_nil _ _ _ _ _⟩, ⟨fun _ => rfl⟩⟩
  case round =>
    clear HB1
    obtain ⟨kk, hkk, hg, rfl, BW, HV, HNIL⟩ := hrel
    have HLEN := Aside0.mk (wrongL_len lines names kk)
    by_cases hlt : kk < lines.length
    · have hltz : (kk : Int) < (lines.length : Int) := by omega
      obtain ⟨ad, rfl, hc0, hc1⟩ := at_T89 HRL.out (kk : Int) (by omega) (by omega)
      rw [Int.toNat_natCast] at hc0 hc1
      have hc0' := (BW.out.cell (World.block_lt_of_cell? w _ hc0)).trans hc0
      have hc1' := (BW.out.cell (World.block_lt_of_cell? w _ hc1)).trans hc1
      obtain ⟨h0, h1⟩ := HST.out kk hlt
      have HSU := Aside0.mk (show wrongL lines names (kk + 1) = if (rdOf ByteArray.empty names (rd_T89 lines (kk : Int)).f0).toList = (rd_T89 lines (kk : Int)).f1.toList then wrongL lines names kk else wrongL lines names kk ++ [(kk : Int)] from rfl)
      obtain ⟨y, hy⟩ : ∃ y, rd_T89 lines (kk : Int) = y := ⟨_, rfl⟩
      rw [hy] at hc0' hc1' h0 h1 HSU
      obtain ⟨adn, rfl, hn⟩ := Kd.at_string HRN.out y.f0 h0 (by omega)
      obtain ⟨s, hs⟩ : ∃ s, rdOf ByteArray.empty names y.f0 = s := ⟨_, rfl⟩
      rw [hs] at hn HSU
      have hn' := (BW.out.cell (World.block_lt_of_cell? w _ hn)).trans hn
      clear hc0 hc1 hn hs hy
      go_wp2_with fail
      obtain ⟨W2, hW2⟩ : ∃ W2, wr.alloc (.cells #[.int .i64 y.f0, .string y.f1] 89) = W2 := ⟨_, rfl⟩
      have HB2 := Aside0.mk (show Below w.heap.size w W2 from by rw [← hW2]; exact below_alloc BW.out _)
      have hbk : W2.heap[wr.heap.size]? = some (.cells #[.int .i64 y.f0, .string y.f1] 89 (0, 0)) := by rw [← hW2]; exact blk_new wr _
      have HV2 := Aside0.mk (show Kd.R (Kd.int .i64) 3 W2 w.heap.size (fun _ => True) u4 (wrongL lines names kk) from by rw [← hW2]; exact Kd.R_alloc HV.out _)
      have hn2 : W2.cell? (adn.add y.f0.toNat) = some (.string s) := by rw [← hW2]; exact cell_alloc hn' _
      obtain ⟨y0, y1, yl⟩ := blk2 hbk
      rw [hW2]
      clear hW2 hc0' hc1' hn' BW HV hbk
      by_cases hq : s.toList = y.f1.toList
      · rw [if_pos hq] at HSU
        have hq1 : (s.toList == y.f1.toList) = true := by simpa using hq
        have hq2 : (s.toList != y.f1.toList) = false := by simpa using hq
        clear hq
        go_quiet (fail)
        go_wp2_with fail
        go_roundg (lines.length - (kk + 1))
        case measure => omega
        case rel => exact ⟨kk + 1, by omega, by omega, by go_num, ⟨pw_below_drewN HB2.out _⟩, ⟨by rw [HSU.out]; exact Kd.R_drewN HV2.out _⟩, ⟨by rw [HSU.out]; exact HNIL.out⟩⟩
      · rw [if_neg hq] at HSU
        have hq1 : (s.toList == y.f1.toList) = false := by simpa using hq
        have hq2 : (s.toList != y.f1.toList) = true := by simpa using hq
        clear hq
        go_quiet (fail)
        have HV3 := Aside0.mk (Kd.R_drewN HV2.out nq)
        have HB3 := Aside0.mk (pw_below_drewN HB2.out nq)
        clear HV2 HB2
        obtain ⟨W3, hW3⟩ : ∃ W3, W2.drewN nq = W3 := ⟨_, rfl⟩
        rw [hW3] at HV3 HB3 ⊢
        clear hW3
        go_wp2_with (at_builtin; refine Kd.R_append (Kd.int .i64) (w0 := w) (W := W3) w.heap.size ?b1 (.tmp 23) (.tmp 25) 31 3 (.int .i64 0) 8 ?b2 Tryz.underlying31 info3 rfl (by decide) (by omega) u4 (wrongL lines names kk) (kk : Int) [.int .i64 (kk : Int)] (fun _ => True) (fun _ => False) ?b3 ?b4 ?aP (fun _ hk => hk.elim) ?aF ?aO ?aB ?aS ?aL ?_; (case b1 => rfl); (case b2 => rfl); (case b3 => rfl); (case b4 => rfl); (case aP => exact rfl); (case aB => exact HB3.out); (case aF => exact (fun _ _ => trivial)); (case aO => exact HV3.out); (case aS => exact HB3.out.size); (case aL => have := HLEN.out; omega); intro v8 w8 ho hb hgr hat; have m0_ := Aside0.mk hb; have m1_ := Aside0.mk ho; clear ho hb hgr hat)
        go_roundg (lines.length - (kk + 1))
        case measure => omega
        case rel => exact ⟨kk + 1, by omega, by omega, by go_num, m0_, ⟨by rw [HSU.out]; exact m1_.out⟩, ⟨fun h => by rw [HSU.out] at h; simp at h⟩⟩
    · have hltz : ¬ (kk : Int) < (lines.length : Int) := by omega
      obtain rfl : kk = lines.length := by omega
      go_wp2
      go_ret
      exact ⟨_, rfl, HV.out, HNIL.out, BW.out⟩
end Go.Proofs.YtdjlfdbnmnjccaaGreat.St
end
section
set_option linter.unusedVariables false
set_option linter.unusedSimpArgs false
namespace Go.Proofs.YtdjlfdbnmnjccaaGreat.St
open Go.Sort hiding rd
open Go.RowKit Go.Shelf Go.Proofs.YtdjlfdbnmnjccaaGreatW.PrintWords Go.Proofs.YtdjlfdbnmnjccaaGreatW.PrintLast Go.Proofs.YtdjlfdbnmnjccaaGreatW.PrintMore
attribute [local go_sem] Oper.semAt_some
def hoursTo (ps : List S167) (lines : List S89) : Nat → List S75
  | 0 => []
  | k + 1 =>
    if wrongL lines (rd_T167 ps k).f1 lines.length ≠ [] then hoursTo ps lines k
    else if (hoursTo ps lines k).getLast?.map (·.f1 + 1) = some (rd_T167 ps k).f0 then (hoursTo ps lines k).modify ((hoursTo ps lines k).length - 1) fun x => ⟨x.f0, hiOf ps k⟩
    else hoursTo ps lines k ++ [⟨(rd_T167 ps k).f0, hiOf ps k⟩]
theorem hoursTo_succ (ps : List S167) (lines : List S89) (k : Nat) : hoursTo ps lines (k + 1) =
    if wrongL lines (rd_T167 ps k).f1 lines.length ≠ [] then hoursTo ps lines k
    else if (hoursTo ps lines k).getLast?.map (·.f1 + 1) = some (rd_T167 ps k).f0 then (hoursTo ps lines k).modify ((hoursTo ps lines k).length - 1) fun x => ⟨x.f0, hiOf ps k⟩
    else hoursTo ps lines k ++ [⟨(rd_T167 ps k).f0, hiOf ps k⟩] := rfl
theorem last_rd75 {m : Nat} {Z : List S75} (h : Z.length = m + 1) : Z.getLast?.map (·.f1 + 1) = some ((rd_T75 Z (m : Int)).f1 + 1) := by
  rw [List.getLast?_eq_getElem?, h]
  have hlt : m < Z.length := by omega
  unfold rd_T75
  simp [List.getD_eq_getElem?_getD, List.getElem?_eq_getElem hlt]
theorem rd75_mem {m : Nat} {Z : List S75} (h : m < Z.length) : rd_T75 Z (m : Int) ∈ Z := by
  unfold rd_T75
  rw [Int.toNat_natCast, List.getD_eq_getElem?_getD, List.getElem?_eq_getElem h, Option.getD_some]
  exact List.getElem_mem h
theorem modify_rd75 {m : Nat} {Z : List S75} (h : Z.length = m + 1) (f : S75 → S75) : Z.modify (m + 1 - 1) f = Z.set m (f (rd_T75 Z (m : Int))) := by
  have hlt : m < Z.length := by omega
  unfold rd_T75
  apply List.ext_getElem?
  intro i
  simp only [Nat.add_sub_cancel, List.getElem?_modify, List.getElem?_set, Int.toNat_natCast, List.getD_eq_getElem?_getD, List.getElem?_eq_getElem hlt, Option.getD_some]
  by_cases e : m = i
  · subst e; simp [hlt]
  · simp [e]
theorem hoursTo_len (ps : List S167) (lines : List S89) : ∀ k, (hoursTo ps lines k).length ≤ k
  | 0 => by simp [hoursTo]
  | k + 1 => by
    have := hoursTo_len ps lines k
    unfold hoursTo
    split
    · omega
    · split
      · simp; omega
      · simp; omega
theorem hiOf_le {m : Nat} {ps : List S167} (h : PagesOk m ps) (k : Nat) : -1 ≤ hiOf ps k ∧ hiOf ps k ≤ 1000 := by
  unfold hiOf
  split
  · rename_i hlt
    have := h.le _ (rd_page_mem (k + 1) hlt)
    omega
  · omega
theorem hoursTo_hi {m : Nat} {ps : List S167} (h : PagesOk m ps) (lines : List S89) : ∀ k, k ≤ ps.length → ∀ x ∈ hoursTo ps lines k, -1 ≤ x.f1 ∧ x.f1 ≤ 1000
  | 0, _ => by simp [hoursTo]
  | k + 1, hk => by
    have ih := hoursTo_hi h lines k (by omega)
    have h1 := hiOf_le h k
    unfold hoursTo
    split
    · exact ih
    · split
      · intro x hx
        obtain ⟨i, hi, rfl⟩ := List.getElem_of_mem hx
        rw [List.getElem_modify]
        split
        · exact h1
        · exact ih _ (List.getElem_mem _)
      · intro x hx
        rcases List.mem_append.1 hx with hx | hx
        · exact ih x hx
        · simp at hx
          subst hx
          exact h1
set_option maxHeartbeats 4000000 in
set_option maxRecDepth 100000 in
theorem hours_any (A0 : Option Addr) (n0 c0 : Nat) (A1 : Option Addr) (n1 c1 : Nat) (Ap : Option Addr) (cp : Nat) (Al : Option Addr) (cl : Nat) (lines : List S89) (m : Nat) (ps : List S167) (base : Nat) (w : World)
    (hp : Kd.R k167 167 w base (fun _ => True) (.slice Ap ps.length cp) ps) (hok : PagesOk m ps) (hrl : Kd.C k89 w Al lines.length lines) (hst : ∀ k : Nat, k < lines.length → 0 ≤ (rd_T89 lines (k : Int)).f0 ∧ (rd_T89 lines (k : Int)).f0 < m) (hsm : lines.length ≤ 1000) :
    Calls Tryz.prog 87 #[.agg #[.slice A0 n0 c0, .slice A1 n1 c1, .slice Ap ps.length cp, .slice Al lines.length cl]] w fun e w' =>
      ∃ v : Value, e = .returned v ∧ Kd.R k75 75 w' w.heap.size (fun _ => True) v (hoursTo ps lines ps.length) ∧ (hoursTo ps lines ps.length = [] → v = .slice none 0 0) ∧ Below w.heap.size w w' := by
  obtain ⟨g, cg, vals, hveq, hgb, hpa, hna⟩ := pagesAt_of_R hp hok.ne
  cases hveq
  have HRL := Aside0.mk hrl
  have HST := Aside0.mk hst
  have HOK := Aside0.mk hok
  refine (callsIn_wide (n := 8)).1 ?_
  refine callsIn_of_wp_marks Tryz.func87 rfl trivial ?_ rfl
  simp only [Tryz.ntmps87, List.size_toArray, List.length_cons, List.length_nil, Nat.reduceAdd, Nat.reduceSub, Array.replicate_succ, Array.replicate_zero, List.push_toArray, List.append_toArray, List.nil_append, List.cons_append]
  have h18 : 1 ≤ 8 := by omega
  clear hp hok hrl hst
  gi_wp2_with fail
  obtain ⟨W1, hW1⟩ : ∃ W1, (w.alloc (.cells #[.slice A0 n0 c0, .slice A1 n1 c1, .slice (some ⟨g, 0, none⟩) ps.length cp, .slice Al lines.length cl] 147)).alloc (.cells #[.slice none 0 0] 90) = W1 := ⟨_, rfl⟩
  have hb1 : Below w.heap.size w W1 := by rw [← hW1]; exact below_alloc (below_alloc (Below.refl _ _) _) _
  have hbl : W1.heap[w.heap.size]? = some (.cells #[.slice A0 n0 c0, .slice A1 n1 c1, .slice (some ⟨g, 0, none⟩) ps.length cp, .slice Al lines.length cl] 147 (0, 0)) := by rw [← hW1]; exact blk_alloc (blk_new w _) _
  have hbo : W1.heap[w.heap.size + 1]? = some (.cells #[.slice none 0 0] 90 (0, 0)) := by
    rw [← hW1]
    have := blk_new (w.alloc (.cells #[.slice A0 n0 c0, .slice A1 n1 c1, .slice (some ⟨g, 0, none⟩) ps.length cp, .slice Al lines.length cl] 147)) (.cells #[.slice none 0 0] 90)
    rwa [World.size_alloc] at this
  have hpa1 : PagesAt W1 g ps vals := hpa.keep (T := fun _ => True) trivial (by rw [← hW1]; exact ((KeepT.refl _ _).alloc _).alloc _)
  have hna1 : NamesAt W1 base ps vals := hna.keep (T := fun _ => True) trivial (by rw [← hW1]; exact ((KeepT.refl _ _).alloc _).alloc _)
  have hs1 : W1.heap.size = w.heap.size + 2 := by rw [← hW1]; simp
  simp only [hW1]
  clear hW1 hpa hna
  have B0 : W1.cell? ⟨w.heap.size, 0, none⟩ = some (.slice A0 n0 c0) ∧ W1.cell? ⟨w.heap.size, 1, none⟩ = some (.slice A1 n1 c1) ∧ W1.cell? ⟨w.heap.size, 2, none⟩ = some (.slice (some ⟨g, 0, none⟩) ps.length cp) ∧ W1.cell? ⟨w.heap.size, 3, none⟩ = some (.slice Al lines.length cl) := (blk4 hbl).1
  have HBL := Aside0.mk hbl
  have HBO := Aside0.mk hbo
  have HB1 := Aside0.mk hb1
  have HPA := Aside0.mk hpa1
  have HNA := Aside0.mk hna1
  have HS1 := Aside0.mk hs1
  clear hbl hbo hb1 hpa1 hna1 hs1
  refine' rangeBound (enc := encP ps vals) (T := fun t => t = 167 ∨ t = 124 ∨ t = 9) (N := ps.length) (w0 := W1) rfl (by omega) rfl trivial (enters_of Tryz.func73 (by kernel_rfl) rfl)
    (times_seq Fence.wide 7 trivial rfl (by omega) (.slice A0 n0 c0) (.slice A1 n1 c1) g cp m ps HOK.out vals _ (.inl rfl) (.inr (.inl rfl)) W1 HPA.out) (KeepT.refl _ _) (fun _ => rfl)
    (fun k W => ∃ v : Value, W.heap[w.heap.size + 1]? = some (.cells #[v] 90 (0, 0)) ∧ W.heap[w.heap.size]? = some (.cells #[.slice A0 n0 c0, .slice A1 n1 c1, .slice (some ⟨g, 0, none⟩) ps.length cp, .slice Al lines.length cl] 147 (0, 0)) ∧
      Kd.R k75 75 W W1.heap.size (fun _ => True) v (hoursTo ps lines k) ∧ (hoursTo ps lines k = [] → v = .slice none 0 0) ∧ Below w.heap.size w W ∧ NamesAt W base ps vals ∧ W1.heap.size ≤ W.heap.size) ?ia ?ip ?i0
    (BoxAt W1.heap.size (fun k => #[.int .i64 (rd_T167 ps (k : Int)).f0, .int .i64 (hiOf ps k)]) 75 _) BoxAt.put ?assign ?body ?done
  case ia =>
    rintro k W o ⟨v, h1, h2, h3, h4, h5, h6, h7⟩
    exact ⟨v, blk_alloc h1 _, blk_alloc h2 _, Kd.R_alloc h3 _, h4, h5.trans ((Below.refl _ W).alloc h5.size _), ⟨fun k hk => Kd.R_alloc (h6.at_ k hk) _⟩, by simp; omega⟩
  case ip =>
    rintro k W l o o' hl hlo ho ⟨v, h1, h2, h3, h4, h5, h6, h7⟩
    have hne : ∀ (j : Nat) (cs : Array Value) (t : Nat), W.heap[j]? = some (.cells cs t (0, 0)) → (W.putObj l o').heap[j]? = some (.cells cs t (0, 0)) := fun j cs t hj => by
      rw [World.putObj_heap_other (fun e => by subst e; rw [hlo] at hj; cases hj; cases ho)]; exact hj
    exact ⟨v, hne _ _ _ h1, hne _ _ _ h2, R_putObj h3 hlo ho o', h4, (h5.grown (grownBy_putObj' W l o') h5.size (fun j hj => by cases hj; exact Nat.le_trans HB1.out.size hl)), ⟨fun k hk => R_putObj (h6.at_ k hk) hlo ho o'⟩, by simpa [World.putObj] using h7⟩
  case i0 => exact ⟨_, HBO.out, HBL.out, Kd.R_nil _ _ _ _ _, fun _ => rfl, HB1.out, HNA.out, Nat.le_refl _⟩
  case assign =>
    rintro l k W K ⟨v, h1, h2, h3, h4, h5, h6, h7⟩ hk hK
    unfold encP
    gi_wp2_with fail
    obtain ⟨Bx, hBx⟩ : ∃ Bx, W.heap.size = Bx := ⟨_, rfl⟩
    have hnew := blk_new W (.cells #[.int .i64 (rd_T167 ps (k : Int)).f0, .int .i64 (hiOf ps k)] 75)
    rw [hBx] at hnew ⊢
    exact hK _ _ ((KeepsOthers.alloc _ _).from _) ((KeepT.refl _ _).alloc _) ⟨v, blk_alloc h1 _, blk_alloc h2 _, Kd.R_alloc h3 _, h4, h5.trans ((Below.refl _ W).alloc h5.size _), ⟨fun k hk => Kd.R_alloc (h6.at_ k hk) _⟩, by simp; omega⟩ ⟨Bx, hBx ▸ h7, hnew, rfl⟩
  case done =>
    rintro D W hD ⟨v, h1, h2, h3, h4, h5, h6, h7⟩ hK
    have q0 : W.cell? ⟨w.heap.size + 1, 0, none⟩ = some v := (blk_cell h1 0).trans rfl
    have qf := blk_frozen h1 0
    have ql := blk_lt h1
    obtain ⟨Av, cv, rfl⟩ := Kd.R_slice h3
    have G1 := Aside0.mk h1
    have G3 := Aside0.mk h3
    have G4 := Aside0.mk h4
    have G5 := Aside0.mk h5
    have GK := Aside0.mk hK
    clear h1 h2 h3 h4 h5 hK B0
    gi_wp2_with fail
    obtain ⟨W', hW'⟩ : ∃ W', W.setCell ⟨w.heap.size + 1, 0, none⟩ (.slice Av (hoursTo ps lines ps.length).length cv) = W' := ⟨_, rfl⟩
    have hne : D ≠ w.heap.size + 1 := fun e => by have h1 := G1.out; have h2 := GK.out; rw [e, h1] at h2; cases h2
    have hKD : W'.heap[D]? = some (.deferred (some [])) := by
      rw [← hW']
      have : (W.setCell ⟨w.heap.size + 1, 0, none⟩ (.slice Av (hoursTo ps lines ps.length).length cv)).heap[D]? = W.heap[D]? := by simp [World.setCell, Array.getElem?_modify, Ne.symm hne]
      rw [this]; exact GK.out
    have hG1 : W'.heap[w.heap.size + 1]? = some (.cells #[.slice Av (hoursTo ps lines ps.length).length cv] 90 (0, 0)) := by rw [← hW']; exact blk_put G1.out 0 _ rfl
    have hG3 : Kd.R k75 75 W' W1.heap.size (fun _ => True) (.slice Av (hoursTo ps lines ps.length).length cv) (hoursTo ps lines ps.length) := by rw [← hW']; exact Kd.R_set G3.out G1.out (by decide) 0 _
    have hG5 : Below w.heap.size w W' := by rw [← hW']; exact G5.out.setCell (p := ⟨w.heap.size + 1, 0, none⟩) (by show w.heap.size ≤ w.heap.size + 1; omega) _
    have q' : (W'.putObj D (.deferred none)).cell? ⟨w.heap.size + 1, 0, none⟩ = some (.slice Av (hoursTo ps lines ps.length).length cv) := (blk_cell ((World.putObj_heap_other (Ne.symm hne)).trans hG1) 0).trans rfl
    rw [hW']
    refine ⟨by simp, .inl ⟨_, _, rfl, run_takeDeferred hKD, ?_⟩⟩
    show ∃ v, _ ∧ _
    refine ⟨.slice Av (hoursTo ps lines ps.length).length cv, by simp [results, Tryz.results87, go_sem, q'], ?_⟩
    exact ⟨_, rfl, Kd.R_lower (R_putObj hG3 hKD rfl _) HB1.out.size, G4.out, hG5.grown (grownBy_putObj' W' D _) hG5.size (fun j hj => by cases hj; exact Nat.le_trans HB1.out.size hD)⟩
  case body =>
    rintro l k a' W hl ⟨r, hr⟩ ⟨v, h1, h2, h3, h4, h5, h6, h7⟩ ⟨Bx, hBx, hbx, rfl⟩ hlt
    have q3 := nil_neq (P := Tryz.prog) Tryz.underlying31
    have q4 := some_neq (P := Tryz.prog) Tryz.underlying31
    have hna := h6.at_ k hlt
    obtain ⟨nm, hnm⟩ : ∃ nm, (rd_T167 ps (k : Int)).f1 = nm := ⟨_, rfl⟩
    rw [hnm] at hna
    obtain ⟨An, cn, hvk, hnc, hnC⟩ := Kd.R_reads hna
    have hnl : nm.length = m := by rw [← hnm]; exact HOK.out.len _ (rd_page_mem k hlt)
    have hcall := wrong_any A0 n0 c0 A1 n1 c1 (some ⟨g, 0, none⟩) ps.length cp Al cl lines An cn nm W (Kd.C_below HRL.out (h5.mono (Nat.le_refl _))) hnC (fun k hk => by rw [hnl]; exact HST.out k hk) hsm
    dsimp only
    rw [hvk]
    obtain ⟨WL, hWL⟩ : ∃ WL, wrongL lines nm lines.length = WL := ⟨_, rfl⟩
    rw [hWL] at hcall
    have HC := Aside0.mk hcall
    have H1 := Aside0.mk h1
    have H2 := Aside0.mk h2
    have H3 := Aside0.mk h3
    have H4 := Aside0.mk h4
    have H5 := Aside0.mk h5
    have H6 := Aside0.mk h6
    have HX := Aside0.mk hbx
    have HNM := Aside0.mk (And.intro hnm hWL)
    have HR := Aside0.mk hr
    obtain ⟨⟨c0_, c1_, c2_, c3_⟩, _, cl_⟩ := blk4 h2
    clear hcall h1 h2 h3 h4 h5 h6 hbx hnm hWL hr hna hnC hvk hnc hnl B0
    gi_wp2_with fail
    refine ⟨trivial, (CallsIn.inRound l (callsIn_wide.2 HC.out)).mono ?_⟩
    rintro e w2 ⟨v2, rfl, hv2, hnil2, hb⟩
    have R2 := Aside0.mk ((Rn.refl (fun t => t = 167 ∨ t = 124 ∨ t = 9) W).below hb)
    have G1 := Aside0.mk (blk_below H1.out hb)
    have G2 := Aside0.mk (blk_below H2.out hb)
    have G3 := Aside0.mk (Kd.R_below H3.out hb)
    have G5 := Aside0.mk (H5.out.trans (hb.mono H5.out.size))
    have GX := Aside0.mk (blk_below HX.out hb)
    have G7 := Aside0.mk (Nat.le_trans h7 hb.size)
    clear hb H1 H2 H3 H5 HX h7 c0_ c1_ c2_ c3_ cl_
    have HU : Aside0 (hoursTo ps lines (k + 1) = if WL ≠ [] then hoursTo ps lines k
        else if (hoursTo ps lines k).getLast?.map (·.f1 + 1) = some (rd_T167 ps k).f0 then (hoursTo ps lines k).modify ((hoursTo ps lines k).length - 1) fun x => ⟨x.f0, hiOf ps k⟩
        else hoursTo ps lines k ++ [⟨(rd_T167 ps k).f0, hiOf ps k⟩]) := by
      constructor
      rw [hoursTo_succ, HNM.out.1, HNM.out.2]
    by_cases hw : WL = []
    · obtain rfl := hnil2 hw
      have HU2 := HU.out
      rw [if_neg (by simp [hw])] at HU2
      have HV := Aside0.mk HU2
      clear HU HU2 hv2 hnil2 hw
      obtain ⟨L, hL⟩ : ∃ L, hoursTo ps lines k = L := ⟨_, rfl⟩
      have hLl := hL ▸ hoursTo_len ps lines k
      have hLb := hL ▸ hoursTo_hi HOK.out lines k (by omega)
      rw [hL] at G3 HV H4
      have hsm2 := HOK.out.small
      have hpb := HOK.out.le _ (rd_page_mem k hlt)
      obtain ⟨p0, hp0⟩ : ∃ p0, (rd_T167 ps (k : Int)).f0 = p0 := ⟨_, rfl⟩
      obtain ⟨p1, hp1⟩ : ∃ p1, hiOf ps k = p1 := ⟨_, rfl⟩
      rw [hp0, hp1] at HV GX
      rw [hp0] at hpb
      have HP := Aside0.mk (And.intro hp0 hp1)
      obtain ⟨Av, cv, rfl⟩ := Kd.R_slice G3.out
      clear hL hp0 hp1
      obtain ⟨b0, b1, b2⟩ := blk2 GX.out
      cases L with
      | nil =>
        have l0 : w2.cell? ⟨w.heap.size + 1, 0, none⟩ = some (.slice Av 0 cv) := (blk_cell G1.out 0).trans rfl
        have lf0 := blk_frozen G1.out 0
        have ll := blk_lt G1.out
        have HV2 := HV.out
        rw [if_neg (by simp)] at HV2
        have HW := Aside0.mk HV2
        clear HV HV2 hLl hLb
        gi_wp2_with fail
        refine round_quiet (by kernel_rfl) (by kernel_rfl) (by kernel_rfl) ?_
        repeat (go_big_quiet_step (fail))
        refine wpQuiet_nil ?_
        rintro V ⟨nq, hV⟩
        have VR := Aside0.mk (show Rn _ W V from by rw [hV]; exact R2.out.drewN nq)
        have V1 := Aside0.mk (show V.heap[w.heap.size + 1]? = some (.cells #[.slice Av 0 cv] 90 (0, 0)) from by rw [hV]; exact G1.out)
        have V2 := Aside0.mk (show V.heap[w.heap.size]? = some (.cells #[.slice A0 n0 c0, .slice A1 n1 c1, .slice (some ⟨g, 0, none⟩) ps.length cp, .slice Al lines.length cl] 147 (0, 0)) from by rw [hV]; exact G2.out)
        have V3 := Aside0.mk (show Kd.R k75 75 V W1.heap.size (fun _ => True) (.slice Av 0 cv) [] from by rw [hV]; exact Kd.R_drewN G3.out nq)
        have V5 := Aside0.mk (show Below w.heap.size w V from by rw [hV]; exact pw_below_drewN G5.out nq)
        have V7 := Aside0.mk (show W1.heap.size ≤ V.heap.size from by rw [hV]; exact G7.out)
        have VX := Aside0.mk (show V.heap[Bx]? = some (.cells #[.int .i64 p0, .int .i64 p1] 75 (0, 0)) from by rw [hV]; exact GX.out)
        clear hV R2 G1 G2 G3 G5 GX G7 l0 lf0 ll b0 b1 b2
        have l0 : V.cell? ⟨w.heap.size + 1, 0, none⟩ = some (.slice Av 0 cv) := (blk_cell V1.out 0).trans rfl
        obtain ⟨b0, b1, b2⟩ := blk2 VX.out
        have lf0 := blk_frozen V1.out 0
        have ll := blk_lt V1.out
        clear l0 lf0 ll
        have l0 : V.cell? ⟨w.heap.size + 1, 0, none⟩ = some (.slice Av 0 cv) := (blk_cell V1.out 0).trans rfl
        gi_wp2_with (gi_at_builtin; refine listIn_round ?hd ?_; (case hd => kernel_rfl); refine Kd.R_append k75 (w0 := V) (W := V) W1.heap.size ?b1 (.tmp 37) (.tmp 39) 90 75 (.agg #[(.int .i64 0), (.int .i64 0)]) 16 ?b2 Tryz.underlying90 info75 rfl (by decide) (by omega) (.slice Av 0 cv) [] (⟨p0, p1⟩ : S75) [.int .i64 p0, .int .i64 p1] (fun _ => True) (fun _ => False) ?b3 ?b4 ?aP (fun _ hk => hk.elim) ?aF ?aO ?aB ?aS ?aL ?_; (case b1 => rfl); (case b2 => rfl); (case b3 => rfl); (case b4 => rfl); (case aP => exact k75_mkM _ _ _ ⟨p0, p1⟩); (case aB => exact Below.refl _ _); (case aF => exact (fun _ _ => trivial)); (case aO => exact V3.out); (case aS => exact V7.out); (case aL => simp); intro v5 w5 ho hb hgr hat; have m1_ := Aside0.mk ho; have m2_ := Aside0.mk (VR.out.grownR V3.out (by decide) hgr); have m3_ := Aside0.mk (blk_grown V1.out hgr (Kd.R_ne V3.out V1.out (by decide))); have m4_ := Aside0.mk (blk_grown V2.out hgr (Kd.R_ne V3.out V2.out (by decide))); have m5_ := Aside0.mk (V5.out.trans (hb.mono HB1.out.size)); have m6_ := Aside0.mk (Nat.le_trans V7.out hb.size); clear ho hb hgr hat; obtain ⟨A5, c5, e5⟩ := Kd.R_slice m1_.out; subst e5; have l0 := (blk_cell m3_.out 0).trans rfl; have lf0 := blk_frozen m3_.out 0; have ll := blk_lt m3_.out)
        go_wp2_with fail
        refine onlyN_mk ?_
        gi_wp2_with fail
        refine ⟨((m2_.out.set m3_.out (by decide) 0 _).k).from _, (m2_.out.set m3_.out (by decide) 0 _).t, ⟨_, blk_put m3_.out 0 _ rfl, blk_far m4_.out (p := ⟨w.heap.size + 1, 0, none⟩) (by simp) _, ?_, ?_, m5_.out.setCell (p := ⟨w.heap.size + 1, 0, none⟩) (by show w.heap.size ≤ w.heap.size + 1; omega) _, H6.out.keep (.inr (.inr rfl)) (m2_.out.set m3_.out (by decide) 0 _).t, by have := m6_.out; simpa using this⟩⟩
        · rw [HW.out]
          have hfin := Kd.R_set m1_.out m3_.out (by decide) 0 (.slice A5 ([] ++ [(⟨p0, p1⟩ : S75)]).length c5)
          exact hfin
        · intro h
          rw [HW.out] at h
          simp at h
      | cons x xs =>
        obtain ⟨m5, hm5⟩ : ∃ m5, (x :: xs).length = m5 + 1 := ⟨xs.length, rfl⟩
        obtain ⟨Z, hZ⟩ : ∃ Z, (x :: xs) = Z := ⟨_, rfl⟩
        rw [hZ] at G1 G3 HV H4 hm5 hLl hLb
        rw [hm5] at hLl
        have H3' := G3.out
        rw [hm5] at H3' G1
        obtain ⟨g5, c5, e5, _, _, _⟩ := Kd.R_form G3.out (by omega)
        rw [hm5] at e5
        cases e5
        obtain ⟨hzl, hcv, hC⟩ := Kd.R_reads' H3'
        clear hzl
        obtain ⟨ad5, e5, z0, z1⟩ := at_T75 hC (m5 : Int) (by omega) (by omega)
        cases e5
        rw [Int.toNat_natCast] at z0 z1
        have ez : (⟨g5, 0, none⟩ : Addr).add (m5 * 2) = ⟨g5, m5 * 2, none⟩ := by simp [Addr.add]; omega
        rw [ez] at z0 z1
        have hyb := hLb _ (rd75_mem (m := m5) (by omega))
        obtain ⟨y, hy⟩ : ∃ y, rd_T75 Z (m5 : Int) = y := ⟨_, rfl⟩
        rw [hy] at z0 z1 hyb
        have HZ := Aside0.mk (And.intro hZ (And.intro hm5 hy))
        have HV2 := HV.out
        rw [last_rd75 hm5, hy, hm5, modify_rd75 hm5, hy] at HV2
        have HV3 := Aside0.mk HV2
        have G3m := Aside0.mk H3'
        have hmk : m5 + 1 ≤ 20 := by omega
        have l0 : w2.cell? ⟨w.heap.size + 1, 0, none⟩ = some (.slice (some ⟨g5, 0, none⟩) (m5 + 1) cv) := (blk_cell G1.out 0).trans rfl
        have lf0 := blk_frozen G1.out 0
        have ll := blk_lt G1.out
        have hhi : IntKind.i64.wrap (y.f1 + 1) = y.f1 + 1 := by rw [i64_w]; unfold wrap64; omega
        clear hZ hm5 hy H3' hC ez G3 hLl hcv HV HV2 hLb
        by_cases hq : y.f1 + 1 = p0
        · have hq1 : (y.f1 + 1 == p0) = true := by simpa using hq
          have HV4 := HV3.out
          rw [if_pos (by rw [hq])] at HV4
          have HW := Aside0.mk HV4
          have HQ := Aside0.mk hq
          clear hq HV3 HV4
          gi_wp2_with fail
          refine round_quiet (by kernel_rfl) (by kernel_rfl) (by kernel_rfl) ?_
          repeat (go_big_quiet_step (fail))
          refine wpQuiet_nil ?_
          rintro V ⟨nq, hV⟩
          have VZ := Aside0.mk (show V.cell? ⟨g5, m5 * 2, none⟩ = some (.int .i64 y.f0) ∧ V.cell? ⟨g5, m5 * 2 + 1, none⟩ = some (.int .i64 y.f1) from by rw [hV]; exact ⟨z0, z1⟩)
          clear z0 z1
          have VR := Aside0.mk (show Rn _ W V from by rw [hV]; exact R2.out.drewN nq)
          have V1 := Aside0.mk (show V.heap[w.heap.size + 1]? = some (.cells #[.slice (some ⟨g5, 0, none⟩) (m5 + 1) cv] 90 (0, 0)) from by rw [hV]; exact G1.out)
          have V2 := Aside0.mk (show V.heap[w.heap.size]? = some (.cells #[.slice A0 n0 c0, .slice A1 n1 c1, .slice (some ⟨g, 0, none⟩) ps.length cp, .slice Al lines.length cl] 147 (0, 0)) from by rw [hV]; exact G2.out)
          have V3 := Aside0.mk (show Kd.R k75 75 V W1.heap.size (fun _ => True) (.slice (some ⟨g5, 0, none⟩) (m5 + 1) cv) Z from by rw [hV]; exact Kd.R_drewN G3m.out nq)
          have V5 := Aside0.mk (show Below w.heap.size w V from by rw [hV]; exact pw_below_drewN G5.out nq)
          have V7 := Aside0.mk (show W1.heap.size ≤ V.heap.size from by rw [hV]; exact G7.out)
          have VX := Aside0.mk (show V.heap[Bx]? = some (.cells #[.int .i64 p0, .int .i64 p1] 75 (0, 0)) from by rw [hV]; exact GX.out)
          clear hV R2 G1 G2 G3m G5 GX G7 l0 lf0 ll b0 b1 b2
          have l0 : V.cell? ⟨w.heap.size + 1, 0, none⟩ = some (.slice (some ⟨g5, 0, none⟩) (m5 + 1) cv) := (blk_cell V1.out 0).trans rfl
          obtain ⟨b0, b1, b2⟩ := blk2 VX.out
          have lf0 := blk_frozen V1.out 0
          have ll := blk_lt V1.out
          obtain ⟨z0, z1⟩ := VZ.out
          obtain ⟨cels, hcel⟩ := Kd.R_typed V3.out g5 rfl
          have zf := blk_frozen hcel (m5 * 2 + 1)
          have zl := blk_lt hcel
          have HCEL := Aside0.mk hcel
          clear hcel
          gi_wp2_with fail
          have hstep := Kd.R_seg (okp := fun _ => False) V3.out (m5 : Int) (by omega) (by omega) (c := [.int .i64 y.f0, .int .i64 y.f1]) (seg := [.int .i64 p1]) (j := 1) rfl
            (by
              intro j u hj
              rw [Int.toNat_natCast]
              match j, hj with
              | 0, hj => cases hj; exact VZ.out.1
              | 1, hj => cases hj; exact VZ.out.2)
            (Nat.le_refl 2) (x' := ⟨y.f0, p1⟩) (k75_mkM _ _ _ ⟨y.f0, p1⟩) (fun _ hk => hk.elim)
          rw [Int.toNat_natCast] at hstep
          have hset : V.setCells g5 (m5 * k75.sz + 1) [.int .i64 p1] = V.setCell ⟨g5, m5 * 2 + 1, none⟩ (.int .i64 p1) := by rfl
          rw [hset] at hstep
          have hne1 := blk_ne V1.out HCEL.out (by decide)
          have hne2 := blk_ne V2.out HCEL.out (by decide)
          have hRn := VR.out.set HCEL.out (by decide) (m5 * 2 + 1) (.int .i64 p1)
          refine ⟨hRn.k.from _, hRn.t, ⟨_, blk_far V1.out (p := ⟨g5, m5 * 2 + 1, none⟩) hne1 _, blk_far V2.out (p := ⟨g5, m5 * 2 + 1, none⟩) hne2 _, by rw [HW.out]; exact hstep.1, ?_, V5.out.setCell (p := ⟨g5, m5 * 2 + 1, none⟩) (Nat.le_trans HB1.out.size (Kd.R_base V3.out g5 rfl)) _, H6.out.keep (.inr (.inr rfl)) hRn.t, by have := V7.out; simpa using this⟩⟩
          intro h
          rw [HW.out] at h
          have := congrArg List.length h
          rw [List.length_set, HZ.out.2.1] at this
          simp at this
        · have hq1 : (y.f1 + 1 == p0) = false := by simpa using hq
          have HV4 := HV3.out
          rw [if_neg (by simpa using hq)] at HV4
          have HW := Aside0.mk HV4
          have HQ := Aside0.mk hq
          clear hq HV3 HV4
          gi_wp2_with fail
          refine round_quiet (by kernel_rfl) (by kernel_rfl) (by kernel_rfl) ?_
          repeat (go_big_quiet_step (fail))
          refine wpQuiet_nil ?_
          rintro V ⟨nq, hV⟩
          clear z0 z1
          have VR := Aside0.mk (show Rn _ W V from by rw [hV]; exact R2.out.drewN nq)
          have V1 := Aside0.mk (show V.heap[w.heap.size + 1]? = some (.cells #[.slice (some ⟨g5, 0, none⟩) (m5 + 1) cv] 90 (0, 0)) from by rw [hV]; exact G1.out)
          have V2 := Aside0.mk (show V.heap[w.heap.size]? = some (.cells #[.slice A0 n0 c0, .slice A1 n1 c1, .slice (some ⟨g, 0, none⟩) ps.length cp, .slice Al lines.length cl] 147 (0, 0)) from by rw [hV]; exact G2.out)
          have V3 := Aside0.mk (show Kd.R k75 75 V W1.heap.size (fun _ => True) (.slice (some ⟨g5, 0, none⟩) (m5 + 1) cv) Z from by rw [hV]; exact Kd.R_drewN G3m.out nq)
          have V5 := Aside0.mk (show Below w.heap.size w V from by rw [hV]; exact pw_below_drewN G5.out nq)
          have V7 := Aside0.mk (show W1.heap.size ≤ V.heap.size from by rw [hV]; exact G7.out)
          have VX := Aside0.mk (show V.heap[Bx]? = some (.cells #[.int .i64 p0, .int .i64 p1] 75 (0, 0)) from by rw [hV]; exact GX.out)
          clear hV R2 G1 G2 G3m G5 GX G7 l0 lf0 ll b0 b1 b2
          have l0 : V.cell? ⟨w.heap.size + 1, 0, none⟩ = some (.slice (some ⟨g5, 0, none⟩) (m5 + 1) cv) := (blk_cell V1.out 0).trans rfl
          obtain ⟨b0, b1, b2⟩ := blk2 VX.out
          have lf0 := blk_frozen V1.out 0
          have ll := blk_lt V1.out
          clear l0 lf0 ll
          have l0 : V.cell? ⟨w.heap.size + 1, 0, none⟩ = some (.slice (some ⟨g5, 0, none⟩) (m5 + 1) cv) := (blk_cell V1.out 0).trans rfl
          gi_wp2_with (gi_at_builtin; refine listIn_round ?hd ?_; (case hd => kernel_rfl); refine Kd.R_append k75 (w0 := V) (W := V) W1.heap.size ?b1 (.tmp 37) (.tmp 39) 90 75 (.agg #[(.int .i64 0), (.int .i64 0)]) 16 ?b2 Tryz.underlying90 info75 rfl (by decide) (by omega) (.slice (some ⟨g5, 0, none⟩) (m5 + 1) cv) Z (⟨p0, p1⟩ : S75) [.int .i64 p0, .int .i64 p1] (fun _ => True) (fun _ => False) ?b3 ?b4 ?aP (fun _ hk => hk.elim) ?aF ?aO ?aB ?aS ?aL ?_; (case b1 => rfl); (case b2 => rfl); (case b3 => rfl); (case b4 => rfl); (case aP => exact k75_mkM _ _ _ ⟨p0, p1⟩); (case aB => exact Below.refl _ _); (case aF => exact (fun _ _ => trivial)); (case aO => exact V3.out); (case aS => exact V7.out); (case aL => rw [HZ.out.2.1]; omega); intro v5 w5 ho hb hgr hat; have m1_ := Aside0.mk ho; have m2_ := Aside0.mk (VR.out.grownR V3.out (by decide) hgr); have m3_ := Aside0.mk (blk_grown V1.out hgr (Kd.R_ne V3.out V1.out (by decide))); have m4_ := Aside0.mk (blk_grown V2.out hgr (Kd.R_ne V3.out V2.out (by decide))); have m5_ := Aside0.mk (V5.out.trans (hb.mono HB1.out.size)); have m6_ := Aside0.mk (Nat.le_trans V7.out hb.size); clear ho hb hgr hat; obtain ⟨A5, c5, e5⟩ := Kd.R_slice m1_.out; subst e5; have hl5 := HZ.out.2.1; have l0 := (blk_cell m3_.out 0).trans rfl; have lf0 := blk_frozen m3_.out 0; have ll := blk_lt m3_.out)
          go_wp2_with fail
          refine onlyN_mk ?_
          gi_wp2_with fail
          refine ⟨((m2_.out.set m3_.out (by decide) 0 _).k).from _, (m2_.out.set m3_.out (by decide) 0 _).t, ⟨_, blk_put m3_.out 0 _ rfl, blk_far m4_.out (p := ⟨w.heap.size + 1, 0, none⟩) (by simp) _, ?_, ?_, m5_.out.setCell (p := ⟨w.heap.size + 1, 0, none⟩) (by show w.heap.size ≤ w.heap.size + 1; omega) _, H6.out.keep (.inr (.inr rfl)) (m2_.out.set m3_.out (by decide) 0 _).t, by have := m6_.out; simpa using this⟩⟩
          · rw [HW.out]
            have hfin := Kd.R_set m1_.out m3_.out (by decide) 0 (.slice A5 (Z ++ [(⟨p0, p1⟩ : S75)]).length c5)
            rw [List.length_append, HZ.out.2.1] at hfin
            exact hfin
          · intro h
            rw [HW.out] at h
            simp at h
    · obtain ⟨g5, c5, rfl, _, _, _⟩ := Kd.R_form hv2 (List.length_pos_iff.2 hw)
      have HU2 := HU.out
      rw [if_pos hw] at HU2
      have HV := Aside0.mk HU2
      clear HU HU2 hv2 hnil2 hw
      gi_wp2_with fail
      refine ⟨R2.out.k.from _, R2.out.t, ⟨v, G1.out, G2.out, by rw [HV.out]; exact G3.out, by rw [HV.out]; exact H4.out, G5.out, H6.out.keep (.inr (.inr rfl)) R2.out.t, G7.out⟩⟩
end Go.Proofs.YtdjlfdbnmnjccaaGreat.St
end
section
set_option linter.unusedVariables false
set_option linter.unusedSimpArgs false
namespace Go.Proofs.YtdjlfdbnmnjccaaGreat.St
open Go.Sort hiding rd
open Go.RowKit Go.Shelf Go.Proofs.YtdjlfdbnmnjccaaGreatW.PrintWords Go.Proofs.YtdjlfdbnmnjccaaGreatW.PrintLast Go.Proofs.YtdjlfdbnmnjccaaGreatW.PrintMore
theorem openListE_zero {first : List ByteArray} {changes : List S60} {lines : List S89} (h : openListE first changes lines = 0) :
    openE first changes = 0 ∧ lines.length ≤ 6 ∧ ∀ x ∈ lines, isSeenB x first.length = true := by
  unfold openListE at h
  split at h
  · rename_i h1; exact absurd h h1
  · rename_i h1
    split at h
    · simp at h
    · rename_i h2
      split at h
      · simp at h
      · rename_i h3
        refine ⟨by simpa using h1, by omega, fun x hx => ?_⟩
        simp at h3
        exact h3 x hx
theorem rd_seen {lines : List S89} {k : Nat} (h : k < lines.length) : rd_T89 lines (k : Int) = lines[k] := by
  unfold rd_T89
  rw [Int.toNat_natCast, List.getD_eq_getElem?_getD, List.getElem?_eq_getElem h, Option.getD_some]
theorem seen_at {first : List ByteArray} {changes : List S60} {lines : List S89} (h : openListE first changes lines = 0) (k : Nat) (hk : k < lines.length) :
    0 ≤ (rd_T89 lines (k : Int)).f0 ∧ (rd_T89 lines (k : Int)).f0 < first.length := by
  have h1 := (openListE_zero h).2.2 lines[k] (List.getElem_mem hk)
  rw [rd_seen hk]
  unfold isSeenB at h1
  simp at h1
  omega
def hoursR (first : List ByteArray) (changes : List S60) (lines : List S89) : List S75 × Int :=
  if openListE first changes lines ≠ 0 then ([], openListE first changes lines)
  else if hoursTo (pagesOf first changes) lines (pagesOf first changes).length = [] then ([], 7)
  else (hoursTo (pagesOf first changes) lines (pagesOf first changes).length, 0)
set_option maxHeartbeats 4000000 in
set_option maxRecDepth 100000 in
theorem hoursR_any (A0 : Option Addr) (c0 : Nat) (first : List ByteArray) (A1 : Option Addr) (c1 : Nat) (changes : List S60) (Al : Option Addr) (cl : Nat) (lines : List S89) (w : World)
    (hr0 : Kd.C Kd.string w A0 first.length first) (hc0 : first.length ≤ c0) (hr1 : Kd.C k60 w A1 changes.length changes) (hc1 : changes.length ≤ c1) (hrl : Kd.C k89 w Al lines.length lines) :
    Calls Tryz.prog 42 #[.agg #[.slice A0 first.length c0, .slice A1 changes.length c1], .slice Al lines.length cl] w fun e w' =>
      ∃ v : Value, e = .returned (.tuple #[v, .int .i64 (hoursR first changes lines).2]) ∧ Kd.R k75 75 w' w.heap.size (fun _ => True) v (hoursR first changes lines).1 ∧ Below w.heap.size w w' := by
  have HOP := Aside0.mk (fun (W : World) (hb : Below w.heap.size w W) => openList_any A0 c0 first A1 c1 changes Al cl lines W (Kd.C_below hr0 hb) hc0 (Kd.C_below hr1 hb) hc1 (Kd.C_below hrl hb))
  have HRL := Aside0.mk hrl
  clear hr0 hr1 hrl
  have q1 := nil_eql (P := Tryz.prog) Tryz.underlying90
  have q2 := some_eql (P := Tryz.prog) Tryz.underlying90
  go_enter Tryz.func42, Tryz.ntmps42
  go_wp2_with fail
  obtain ⟨W1, hW1⟩ : ∃ W1, w.alloc (.cells #[.slice A0 first.length c0, .slice A1 changes.length c1] 25) = W1 := ⟨_, rfl⟩
  have hb1 : Below w.heap.size w W1 := by rw [← hW1]; exact below_alloc (Below.refl _ _) _
  rw [hW1]
  clear hW1
  refine (HOP.out W1 hb1).mono ?_
  rintro e w2 ⟨B0, n0, d0, B1, n1, d1, Bp, np, dp, Bl, nl, dl, rfl, hop, hb⟩
  obtain ⟨oe, hoe⟩ : ∃ oe, openListE first changes lines = oe := ⟨_, rfl⟩
  rw [hoe]
  have HB2 := Aside0.mk (below_from hb1 hb)
  clear hb HOP
  obtain ⟨W3, hW3⟩ : ∃ W3, w2.alloc (.cells #[.slice B0 n0 d0, .slice B1 n1 d1, .slice Bp np dp, .slice Bl nl dl] 147) = W3 := ⟨_, rfl⟩
  have HB3 := Aside0.mk (show Below w.heap.size w W3 from by rw [← hW3]; exact below_alloc HB2.out _)
  have HL3 := Aside0.mk (show W3.heap[w2.heap.size]? = some (.cells #[.slice B0 n0 d0, .slice B1 n1 d1, .slice Bp np dp, .slice Bl nl dl] 147 (0, 0)) from by rw [← hW3]; exact blk_new w2 _)
  by_cases h0 : oe = 0
  · subst h0
    obtain ⟨e0, e1, e2, hp⟩ := hop hoe
    have hP3 : Kd.R k167 167 W3 W1.heap.size (fun _ => True) (.slice Bp np dp) (pagesOf first changes) := by rw [← hW3]; exact Kd.R_alloc hp _
    obtain ⟨hnp, _, _⟩ := Kd.R_reads' hP3
    subst hnp
    cases e0
    cases e1
    cases e2
    obtain ⟨ho0, ho1, _⟩ := openListE_zero hoe
    have HC := Aside0.mk (hours_any A0 first.length c0 A1 changes.length c1 Bp dp Al cl lines first.length (pagesOf first changes) W1.heap.size W3 hP3 (pages_ok ho0) (Kd.C_below HRL.out HB3.out) (fun k hk => seen_at hoe k hk) (by omega))
    obtain ⟨hs, hhs⟩ : ∃ hs, hoursTo (pagesOf first changes) lines (pagesOf first changes).length = hs := ⟨_, rfl⟩
    rw [hhs] at HC
    have HN := Aside0.mk (show hoursR first changes lines = if hs = [] then ([], 7) else (hs, 0) from by unfold hoursR; rw [if_neg (by rw [hoe]; simp), hhs])
    obtain ⟨⟨c0_, c1_, c2_, c3_⟩, _, cl_⟩ := blk4 HL3.out
    clear hoe hop hp hP3 ho0 ho1 hhs
    go_wp2_with fail
    clear hW3
    refine HC.out.mono ?_
    rintro e w4 ⟨v, rfl, hv, hnil, hb⟩
    have HB4 := Aside0.mk (below_from HB3.out hb)
    have HV := Aside0.mk (Kd.R_lower hv HB3.out.size)
    clear hb HC hv c0_ c1_ c2_ c3_ cl_
    by_cases hh : hs = []
    · obtain rfl := hnil hh
      have HN2 := HN.out
      rw [if_pos hh] at HN2
      have HN3 := Aside0.mk HN2
      clear hh hnil HN2 HN
      go_wp2_with fail
      rw [HN3.out]
      refine bodyPost_ret (v := .tuple #[.slice none 0 0, .int .i64 7]) (by simp [results, Tryz.results42, go_sem]) rfl ?_
      exact ⟨_, rfl, Kd.R_nil _ _ _ _ _, HB4.out⟩
    · obtain ⟨g5, c5, rfl, _, _, _⟩ := Kd.R_form HV.out (List.length_pos_iff.2 hh)
      have HN2 := HN.out
      rw [if_neg hh] at HN2
      have HN3 := Aside0.mk HN2
      clear hh hnil HN2 HN
      go_wp2_with fail
      rw [HN3.out]
      refine bodyPost_ret (v := .tuple #[.slice (some ⟨g5, 0, none⟩) hs.length c5, .int .i64 0]) (by simp [results, Tryz.results42, go_sem]) rfl ?_
      exact ⟨_, rfl, HV.out, HB4.out⟩
  · have h0' : (oe != 0) = true := by simp [h0]
    have HN := Aside0.mk (show hoursR first changes lines = ([], oe) from by unfold hoursR; rw [if_pos (by rw [hoe]; exact h0), hoe])
    clear h0 hop hoe
    go_wp2_with fail
    rw [HN.out]
    refine bodyPost_ret (v := .tuple #[.slice none 0 0, .int .i64 oe]) (by simp [results, Tryz.results42, go_sem]) rfl ?_
    exact ⟨_, rfl, Kd.R_nil _ _ _ _ _, by first | exact HB3.out | (rw [hW3]; exact HB3.out)⟩
def street_Hours.f (l0_0 : List ByteArray) (l0_1 : List S60) (l1 : List S89) : Option (List S75 × Int) := some (hoursR l0_0 l0_1 l1)
theorem street_Hours.calls (A0_0 : Option Addr) (c0_0 : Nat) (l0_0 : List ByteArray) (A0_1 : Option Addr) (c0_1 : Nat) (l0_1 : List S60) (A1 : Option Addr) (c1 : Nat) (l1 : List S89) (r_0 : List S75) (r_1 : Int) (w : World) (hr0_0 : Kd.C Kd.string w A0_0 l0_0.length l0_0) (hc0_0 : l0_0.length ≤ c0_0) (hr0_1 : Kd.C k60 w A0_1 l0_1.length l0_1) (hc0_1 : l0_1.length ≤ c0_1) (hr1 : Kd.C k89 w A1 l1.length l1) (hc1 : l1.length ≤ c1) (h : street_Hours.f l0_0 l0_1 l1 = some (r_0, r_1)) :
    Calls Tryz.prog 42 #[.agg #[.slice A0_0 l0_0.length c0_0, .slice A0_1 l0_1.length c0_1], .slice A1 l1.length c1] w fun e w' => ∃ v0_ : Value, e = .returned (.tuple #[v0_, .int .i64 r_1]) ∧ Kd.R k75 75 w' w.heap.size (fun _ => True) v0_ r_0 ∧ Below w.heap.size w w' := by
  have e := Option.some.inj h
  have h0 : (hoursR l0_0 l0_1 l1).1 = r_0 := by rw [e]
  have h1 : (hoursR l0_0 l0_1 l1).2 = r_1 := by rw [e]
  have := hoursR_any A0_0 c0_0 l0_0 A0_1 c0_1 l0_1 A1 c1 l1 w hr0_0 hc0_0 hr0_1 hc0_1 hr1
  rwa [h0, h1] at this
end Go.Proofs.YtdjlfdbnmnjccaaGreat.St
end
