/- A part of the proof of LClashes: lemmas that hold without conditions. -/
import Derived.Maps.Own
import Derived.Maps.Views
import Derived.Maps.OwnOps
import Derived.Lib.OthersKept
import Derived.Lib.TrimU
import Derived.Test.YtdjlfdbnmnjccaaGreatC1M04
set_option linter.all false
set_option linter.unusedSectionVars false
section
set_option linter.unusedVariables false
set_option linter.unusedSimpArgs false
namespace Go.Proofs.YtdjlfdbnmnjccaaGreat.St
open Go.Maps Go.RowKit Go.Proofs.YtdjlfdbnmnjccaaGreatW.PrintWords Go.Proofs.YtdjlfdbnmnjccaaGreatW.PrintLast Go.Proofs.YtdjlfdbnmnjccaaGreatW.PrintMore
def cntL {α : Type} [DecidableEq α] (x : α) (l : List α) : Int := ((l.filter fun y => decide (y = x)).length : Nat)
theorem cntL_take {α : Type} [DecidableEq α] (x d : α) (l : List α) (k : Nat) (h : k < l.length) : cntL x (l.take (k + 1)) = cntL x (l.take k) + if l.getD k d = x then 1 else 0 := by
  unfold cntL
  rw [List.take_succ_eq_append_getElem h, List.filter_append, List.getD_eq_getElem?_getD, List.getElem?_eq_getElem h, Option.getD_some]
  by_cases e : l[k] = x <;> simp [List.filter_cons, e]
theorem cntL_le {α : Type} [DecidableEq α] (x : α) (l : List α) : 0 ≤ cntL x l ∧ cntL x l ≤ l.length := by
  unfold cntL
  have := List.length_filter_le (fun y => decide (y = x)) l
  omega
theorem cntL_take_le {α : Type} [DecidableEq α] (x : α) (l : List α) (k : Nat) : 0 ≤ cntL x (l.take k) ∧ cntL x (l.take k) ≤ k := by
  have := cntL_le x (l.take k)
  have h2 := List.length_take_le k l
  omega
def twinsTo {α : Type} [DecidableEq α] (d : α) (l : List α) (k : Nat) : List Int := ((List.range k).filter fun i => decide (1 < cntL (l.getD i d) l)).map fun i : Nat => (i : Int)
def twinsL {α : Type} [DecidableEq α] (d : α) (l : List α) : List Int := twinsTo d l l.length
theorem twinsTo_succ {α : Type} [DecidableEq α] (d : α) (l : List α) (k : Nat) : twinsTo d l (k + 1) = twinsTo d l k ++ if 1 < cntL (l.getD k d) l then [(k : Int)] else [] := by
  unfold twinsTo
  rw [List.range_succ, List.filter_append, List.map_append]
  by_cases e : 1 < cntL (l.getD k d) l
  · rw [if_pos e]; simp only [List.filter_cons, List.filter_nil, decide_eq_true e, if_true, List.map_cons, List.map_nil]
  · rw [if_neg e]; simp only [List.filter_cons, List.filter_nil, decide_eq_false e, if_neg, Bool.false_eq_true, not_false_eq_true, List.map_nil, List.append_nil]
theorem twinsTo_len {α : Type} [DecidableEq α] (d : α) (l : List α) (k : Nat) : (twinsTo d l k).length ≤ k := by
  unfold twinsTo
  rw [List.length_map]
  exact Nat.le_trans (List.length_filter_le _ _) (by simp)
theorem own_ne_map {H : Type} {α : Type} {d : Kd α} {e base b n : Nat} {ok : Nat → Prop} {W : World} {v : Value} {xs : List α} {P : Program} {k : TypeId} {R : Value → Option (DataW H × List MemPlace)} {D : DataW H}
    (ho : d.R e W base ok v xs) (hm : W.ownsMap P k R b n D) : some b ≠ v.ownBlock := by
  intro he
  obtain ⟨inner, hown⟩ := Kd.R_own ho
  obtain ⟨cells, hc⟩ := own_typed hown b he.symm
  obtain ⟨es, clock, hb, _⟩ := hm
  rw [hc] at hb
  cases hb
theorem str_lit_inj {s t : ByteArray} : s.data.toList = t.data.toList ↔ s = t := by
  constructor
  · intro h
    exact ByteArray.ext (Array.toList_inj.mp h)
  · rintro rfl; rfl
def Counts_string (D : DataW Unit) (l : List ByteArray) : Prop := IsMap D ∧ ∀ x : ByteArray, D.atKey (Lit.string x.data.toList) (.lit (.int .i64 0)) = .lit (.int .i64 (cntL x l))
theorem counts_string_nil : Counts_string (.map []) [] := ⟨isMap_empty, fun x => rfl⟩
theorem counts_string_step (D : DataW Unit) (zs : List ByteArray) (k : Nat) (h : k < zs.length) (hC : Counts_string D (zs.take k)) (y : ByteArray) (hy : zs.getD k ByteArray.empty = y) (c : Int) (hc : c = cntL y (zs.take k)) :
    Counts_string (D.put (Lit.string y.data.toList) (.lit (.int .i64 (c + 1)))) (zs.take (k + 1)) := by
  refine ⟨hC.1.put _ _, fun x => ?_⟩
  rw [cntL_take x ByteArray.empty zs k h, hy]
  by_cases e : y = x
  · subst e
    rw [atKey_put_same hC.1 (by simp [WideAt.IsKeyLit]), if_pos rfl, hc]
  · rw [atKey_put_other (fun h => e (str_lit_inj.1 (by injection h with h1; exact h1.symm))), hC.2 x, if_neg e, Int.add_zero]
set_option maxHeartbeats 4000000 in
set_option maxRecDepth 100000 in
theorem twins_string_any (A : Option Addr) (c : Nat) (zs : List ByteArray) (w : World) (hr : Kd.C Kd.string w A zs.length zs) (hsz : zs.length < 100000) (hwf0 : ∀ s ∈ zs, s.size ≤ maxLen) :
    Calls Tryz.prog 65 #[.slice A zs.length c] w fun e w' => ∃ v0_ : Value, e = .returned (v0_) ∧ Kd.R (Kd.int .i64) 3 w' w.heap.size (fun _ => True) v0_ (twinsL ByteArray.empty zs) ∧ (twinsL ByteArray.empty zs = [] → v0_ = .slice none 0 0) ∧ Below w.heap.size w w' := by
  have HR := Aside0.mk hr
  clear hr
  have hmm := @run_makeMap Tryz.prog
  have hz3 : ∀ w : World, (zeroValue 3).run Tryz.prog w = .ok (.int .i64 0) w := fun w => by kernel_rfl
  have HWF := Aside0.mk hwf0
  have HZ3 := Aside0.mk hz3
  clear hwf0 hz3
  go_enter Tryz.func65, Tryz.ntmps65
  go_wp2
  go_loopg [11] zs.length (fun gg s11 wr => ∃ kk : Nat, kk ≤ zs.length ∧ zs.length - kk ≤ gg ∧ s11 = .int .i64 kk ∧ Aside0 (Below w.heap.size w wr) ∧
      Aside0 (∃ D : DataW Unit, wr.ownsMap Tryz.prog 9 (plainElem Tryz.prog 3) w.heap.size kk D ∧ Counts_string D (zs.take kk)))
  case atStart => exact ⟨0, Nat.zero_le _, by omega, rfl, ⟨below_alloc (Below.refl _ _) _⟩, ⟨⟨_, World.ownsMap_made _ _ _ _, by rw [List.take_zero]; exact counts_string_nil⟩⟩⟩
  case round =>
    obtain ⟨kk, hkk, hg, rfl, BW, HM⟩ := hrel
    by_cases hlt : kk < zs.length
    · have hltz : (kk : Int) < (zs.length : Int) := by omega
      obtain ⟨ad, rfl, hc⟩ := Kd.at_string HR.out (kk : Int) (by omega) (by omega)
      rw [Int.toNat_natCast] at hc
      have hc' := (BW.out.cell (World.block_lt_of_cell? w _ hc)).trans hc
      clear hc
      obtain ⟨D, hown, hC⟩ := HM.out
      clear HM
      obtain ⟨y, hy⟩ : ∃ y, y = rdOf ByteArray.empty zs kk := ⟨_, rfl⟩
      rw [← hy] at hc'
      have hy2 : zs.getD kk ByteArray.empty = y := by rw [hy]; unfold rdOf; simp
      have hwf := HWF.out y (by
        rw [← hy2, List.getD_eq_getElem?_getD, List.getElem?_eq_getElem hlt, Option.getD_some]
        exact List.getElem_mem hlt)
      clear hy
      have hkey := (Go.WideMaps.keyOf_string_mk Tryz.underlying9 hwf)
      obtain ⟨cv, hrun, hat, hwc⟩ := hown.lookup_int (string_keyed Tryz.underlying9) Tryz.underlying158 Tryz.underlying3 (HZ3.out _) hkey
      have hcv : cv = cntL y (zs.take kk) := by
        have h1 := hat.symm.trans (hC.2 y)
        simpa using h1
      have hb := cntL_take_le y zs kk
      rw [← hcv] at hb
      have hb1 := hb.1
      have hb2 : cv ≤ 100000 := by omega
      have HS := Aside0.mk (counts_string_step D zs kk hlt hC y hy2 cv hcv)
      have HOWN := Aside0.mk hown
      have hw2 : (Lit.int .i64 (cv + 1)).wf = true := by
        have : wrap64 (cv + 1) = cv + 1 := by unfold wrap64; omega
        rw [← this]; exact wrap64_wf _
      have HW2 := Aside0.mk hw2
      have HKEY := Aside0.mk hkey
      clear hown hC hat hwc hcv hy2 hwf hb hw2 hkey
      go_wp2_with (at_mapUpdate; refine wpList_mapUpdate_own _ rfl _ _ _ 158 rfl 9 3 (string_keyed Tryz.underlying9) Tryz.underlying158 _ w.heap.size kk _ rfl HOWN.out (by unfold maxLen; omega) _ _ _ rfl rfl HKEY.out _ [] (plainElem_int Tryz.underlying3 HW2.out) ?_; intro w1 hown1 hgrow1; have n0_ := Aside0.mk hown1; have n1_ := Aside0.mk (BW.out.grown hgrow1 BW.out.size (fun j hj => by cases hj; exact Nat.le_refl _)); clear hown1 hgrow1)
      go_roundg (zs.length - (kk + 1))
      case measure => omega
      case rel => exact ⟨kk + 1, by omega, by omega, by go_num, n1_, ⟨⟨_, n0_.out, HS.out⟩⟩⟩
    · have hltz : ¬ (kk : Int) < (zs.length : Int) := by omega
      obtain rfl : kk = zs.length := by omega
      have HM2 := Aside0.mk (show ∃ D : DataW Unit, wr.ownsMap Tryz.prog 9 (plainElem Tryz.prog 3) w.heap.size zs.length D ∧ Counts_string D zs from by have := HM.out; rwa [List.take_length] at this)
      clear HM
      obtain ⟨wo, rfl⟩ : ∃ wo : World, wo = wr := ⟨_, rfl⟩
      go_wp2
      go_loopg [2, 6, 7, 22] zs.length (fun gg s2 _ _ s22 wr => ∃ kk : Nat, kk ≤ zs.length ∧ zs.length - kk ≤ gg ∧ s22 = .int .i64 kk ∧ Aside0 (Below w.heap.size w wr) ∧
          Aside0 (∃ D : DataW Unit, wr.ownsMap Tryz.prog 9 (plainElem Tryz.prog 3) w.heap.size zs.length D ∧ Counts_string D zs) ∧ Aside0 (Kd.R (Kd.int .i64) 3 wr w.heap.size (fun _ => True) s2 (twinsTo ByteArray.empty zs kk)) ∧ Aside0 (twinsTo ByteArray.empty zs kk = [] → s2 = .slice none 0 0))
      case atStart => exact ⟨0, Nat.zero_le _, by omega, rfl, BW, HM2, ⟨Kd.R_nil _ _ _ _ _⟩, ⟨fun _ => rfl⟩⟩
      case round =>
        clear BW HM2
        obtain ⟨kk, hkk, hg2, rfl, BW, HM, HO, HNIL⟩ := hrel
        by_cases hlt : kk < zs.length
        · have hltz : (kk : Int) < (zs.length : Int) := by omega
          obtain ⟨ad, rfl, hc⟩ := Kd.at_string HR.out (kk : Int) (by omega) (by omega)
          rw [Int.toNat_natCast] at hc
          have hc' := (BW.out.cell (World.block_lt_of_cell? w _ hc)).trans hc
          clear hc
          obtain ⟨D, hown, hC⟩ := HM.out
          obtain ⟨y, hy⟩ : ∃ y, y = rdOf ByteArray.empty zs kk := ⟨_, rfl⟩
          rw [← hy] at hc'
          have hy2 : zs.getD kk ByteArray.empty = y := by rw [hy]; unfold rdOf; simp
          have hwf := HWF.out y (by
            rw [← hy2, List.getD_eq_getElem?_getD, List.getElem?_eq_getElem hlt, Option.getD_some]
            exact List.getElem_mem hlt)
          clear hy
          have hkey := (Go.WideMaps.keyOf_string_mk Tryz.underlying9 hwf)
          obtain ⟨cv, hrun, hat, hwc⟩ := hown.lookup_int (string_keyed Tryz.underlying9) Tryz.underlying158 Tryz.underlying3 (HZ3.out _) hkey
          have hcv : cv = cntL y zs := by
            have h1 := hat.symm.trans (hC.2 y)
            simpa using h1
          have hsu := twinsTo_succ ByteArray.empty zs kk
          rw [hy2, ← hcv] at hsu
          have hlen := twinsTo_len ByteArray.empty zs kk
          have HLEN := Aside0.mk hlen
          have hne := own_ne_map HO.out hown
          have HNE := Aside0.mk hne
          clear hown hC hat hwc hcv hy2 hwf hkey hlen hne
          by_cases hgt : 1 < cv
          · rw [if_pos hgt] at hsu
            have HSU := Aside0.mk hsu
            have hgtb : decide (1 < cv) = true := decide_eq_true hgt
            clear hsu hgt
            go_wp2_with (at_builtin; refine Kd.R_append (Kd.int .i64) (w0 := w) w.heap.size rfl (.tmp 31) (.tmp 33) 31 3 (.int .i64 0) 8 rfl Tryz.underlying31 info3 rfl (by decide) (by omega) u2 (twinsTo ByteArray.empty zs kk) (kk : Int) [.int .i64 (kk : Int)] (fun _ => True) (fun _ => False) rfl rfl ?aP (fun _ hk => hk.elim) ?aF ?aO ?aB ?aS ?aL ?_; (case aP => exact rfl); (case aB => exact BW.out); (case aF => exact (fun _ _ => trivial)); (case aO => exact HO.out); (case aS => exact BW.out.size); (case aL => have := HLEN.out; omega); intro v1 w8 ho hb hgr hat; have n0_ := Aside0.mk hb; have n1_ := Aside0.mk ho; have n2_ := Aside0.mk (show ∃ D : DataW Unit, w8.ownsMap Tryz.prog 9 (plainElem Tryz.prog 3) w.heap.size zs.length D ∧ Counts_string D zs from by obtain ⟨D2, h2, h3⟩ := HM.out; exact ⟨D2, h2.kept hgr HNE.out, h3⟩); clear ho hb hgr hat)
            go_roundg (zs.length - (kk + 1))
            case measure => omega
            case rel => exact ⟨kk + 1, by omega, by omega, by go_num, n0_, n2_, ⟨by rw [HSU.out]; exact n1_.out⟩, ⟨fun h => by rw [HSU.out] at h; simp at h⟩⟩
          · rw [if_neg hgt, List.append_nil] at hsu
            have HSU := Aside0.mk hsu
            have hgtb : decide (1 < cv) = false := decide_eq_false hgt
            clear hsu hgt
            go_wp2
            go_roundg (zs.length - (kk + 1))
            case measure => omega
            case rel => exact ⟨kk + 1, by omega, by omega, by go_num, BW, HM, ⟨by rw [HSU.out]; exact HO.out⟩, ⟨fun h => HNIL.out (by rw [HSU.out] at h; exact h)⟩⟩
        · have hltz : ¬ (kk : Int) < (zs.length : Int) := by omega
          obtain rfl : kk = zs.length := by omega
          go_wp2
          go_ret
          exact ⟨_, rfl, HO.out, HNIL.out, BW.out⟩
def Counts_int (D : DataW Unit) (l : List Int) : Prop := IsMap D ∧ ∀ x : Int, D.atKey (Lit.int .i64 x) (.lit (.int .i64 0)) = .lit (.int .i64 (cntL x l))
theorem counts_int_nil : Counts_int (.map []) [] := ⟨isMap_empty, fun x => rfl⟩
theorem counts_int_step (D : DataW Unit) (zs : List Int) (k : Nat) (h : k < zs.length) (hC : Counts_int D (zs.take k)) (y : Int) (hy : zs.getD k (0 : Int) = y) (c : Int) (hc : c = cntL y (zs.take k)) :
    Counts_int (D.put (Lit.int .i64 y) (.lit (.int .i64 (c + 1)))) (zs.take (k + 1)) := by
  refine ⟨hC.1.put _ _, fun x => ?_⟩
  rw [cntL_take x (0 : Int) zs k h, hy]
  by_cases e : y = x
  · subst e
    rw [atKey_put_same hC.1 (by simp [WideAt.IsKeyLit]), if_pos rfl, hc]
  · rw [atKey_put_other (fun h => e (by injection h with _ h1; exact h1.symm)), hC.2 x, if_neg e, Int.add_zero]
set_option maxHeartbeats 4000000 in
set_option maxRecDepth 100000 in
theorem twins_int_any (A : Option Addr) (c : Nat) (zs : List Int) (w : World) (hr : Kd.C (Kd.int .i64) w A zs.length zs) (hsz : zs.length < 100000) (hwf0 : ∀ s ∈ zs, (Lit.int .i64 s).wf = true) :
    Calls Tryz.prog 103 #[.slice A zs.length c] w fun e w' => ∃ v0_ : Value, e = .returned (v0_) ∧ Kd.R (Kd.int .i64) 3 w' w.heap.size (fun _ => True) v0_ (twinsL (0 : Int) zs) ∧ (twinsL (0 : Int) zs = [] → v0_ = .slice none 0 0) ∧ Below w.heap.size w w' := by
  have HR := Aside0.mk hr
  clear hr
  have hmm := @run_makeMap Tryz.prog
  have hz3 : ∀ w : World, (zeroValue 3).run Tryz.prog w = .ok (.int .i64 0) w := fun w => by kernel_rfl
  have HWF := Aside0.mk hwf0
  have HZ3 := Aside0.mk hz3
  clear hwf0 hz3
  go_enter Tryz.func103, Tryz.ntmps103
  go_wp2
  go_loopg [11] zs.length (fun gg s11 wr => ∃ kk : Nat, kk ≤ zs.length ∧ zs.length - kk ≤ gg ∧ s11 = .int .i64 kk ∧ Aside0 (Below w.heap.size w wr) ∧
      Aside0 (∃ D : DataW Unit, wr.ownsMap Tryz.prog 3 (plainElem Tryz.prog 3) w.heap.size kk D ∧ Counts_int D (zs.take kk)))
  case atStart => exact ⟨0, Nat.zero_le _, by omega, rfl, ⟨below_alloc (Below.refl _ _) _⟩, ⟨⟨_, World.ownsMap_made _ _ _ _, by rw [List.take_zero]; exact counts_int_nil⟩⟩⟩
  case round =>
    obtain ⟨kk, hkk, hg, rfl, BW, HM⟩ := hrel
    by_cases hlt : kk < zs.length
    · have hltz : (kk : Int) < (zs.length : Int) := by omega
      obtain ⟨ad, rfl, hc⟩ := Kd.at_int HR.out (kk : Int) (by omega) (by omega)
      rw [Int.toNat_natCast] at hc
      have hc' := (BW.out.cell (World.block_lt_of_cell? w _ hc)).trans hc
      clear hc
      obtain ⟨D, hown, hC⟩ := HM.out
      clear HM
      obtain ⟨y, hy⟩ : ∃ y, y = rd zs kk := ⟨_, rfl⟩
      rw [← hy] at hc'
      have hy2 : zs.getD kk (0 : Int) = y := by rw [hy]; unfold rd; simp
      have hwf := HWF.out y (by
        rw [← hy2, List.getD_eq_getElem?_getD, List.getElem?_eq_getElem hlt, Option.getD_some]
        exact List.getElem_mem hlt)
      clear hy
      have hkey := (keyOf_int_mk Tryz.underlying3 hwf)
      obtain ⟨cv, hrun, hat, hwc⟩ := hown.lookup_int (int_keyed Tryz.underlying3) Tryz.underlying186 Tryz.underlying3 (HZ3.out _) hkey
      have hcv : cv = cntL y (zs.take kk) := by
        have h1 := hat.symm.trans (hC.2 y)
        simpa using h1
      have hb := cntL_take_le y zs kk
      rw [← hcv] at hb
      have hb1 := hb.1
      have hb2 : cv ≤ 100000 := by omega
      have HS := Aside0.mk (counts_int_step D zs kk hlt hC y hy2 cv hcv)
      have HOWN := Aside0.mk hown
      have hw2 : (Lit.int .i64 (cv + 1)).wf = true := by
        have : wrap64 (cv + 1) = cv + 1 := by unfold wrap64; omega
        rw [← this]; exact wrap64_wf _
      have HW2 := Aside0.mk hw2
      have HKEY := Aside0.mk hkey
      clear hown hC hat hwc hcv hy2 hwf hb hw2 hkey
      go_wp2_with (at_mapUpdate; refine wpList_mapUpdate_own _ rfl _ _ _ 186 rfl 3 3 (int_keyed Tryz.underlying3) Tryz.underlying186 _ w.heap.size kk _ rfl HOWN.out (by unfold maxLen; omega) _ _ _ rfl rfl HKEY.out _ [] (plainElem_int Tryz.underlying3 HW2.out) ?_; intro w1 hown1 hgrow1; have n0_ := Aside0.mk hown1; have n1_ := Aside0.mk (BW.out.grown hgrow1 BW.out.size (fun j hj => by cases hj; exact Nat.le_refl _)); clear hown1 hgrow1)
      go_roundg (zs.length - (kk + 1))
      case measure => omega
      case rel => exact ⟨kk + 1, by omega, by omega, by go_num, n1_, ⟨⟨_, n0_.out, HS.out⟩⟩⟩
    · have hltz : ¬ (kk : Int) < (zs.length : Int) := by omega
      obtain rfl : kk = zs.length := by omega
      have HM2 := Aside0.mk (show ∃ D : DataW Unit, wr.ownsMap Tryz.prog 3 (plainElem Tryz.prog 3) w.heap.size zs.length D ∧ Counts_int D zs from by have := HM.out; rwa [List.take_length] at this)
      clear HM
      obtain ⟨wo, rfl⟩ : ∃ wo : World, wo = wr := ⟨_, rfl⟩
      go_wp2
      go_loopg [2, 6, 7, 22] zs.length (fun gg s2 _ _ s22 wr => ∃ kk : Nat, kk ≤ zs.length ∧ zs.length - kk ≤ gg ∧ s22 = .int .i64 kk ∧ Aside0 (Below w.heap.size w wr) ∧
          Aside0 (∃ D : DataW Unit, wr.ownsMap Tryz.prog 3 (plainElem Tryz.prog 3) w.heap.size zs.length D ∧ Counts_int D zs) ∧ Aside0 (Kd.R (Kd.int .i64) 3 wr w.heap.size (fun _ => True) s2 (twinsTo (0 : Int) zs kk)) ∧ Aside0 (twinsTo (0 : Int) zs kk = [] → s2 = .slice none 0 0))
      case atStart => exact ⟨0, Nat.zero_le _, by omega, rfl, BW, HM2, ⟨Kd.R_nil _ _ _ _ _⟩, ⟨fun _ => rfl⟩⟩
      case round =>
        clear BW HM2
        obtain ⟨kk, hkk, hg2, rfl, BW, HM, HO, HNIL⟩ := hrel
        by_cases hlt : kk < zs.length
        · have hltz : (kk : Int) < (zs.length : Int) := by omega
          obtain ⟨ad, rfl, hc⟩ := Kd.at_int HR.out (kk : Int) (by omega) (by omega)
          rw [Int.toNat_natCast] at hc
          have hc' := (BW.out.cell (World.block_lt_of_cell? w _ hc)).trans hc
          clear hc
          obtain ⟨D, hown, hC⟩ := HM.out
          obtain ⟨y, hy⟩ : ∃ y, y = rd zs kk := ⟨_, rfl⟩
          rw [← hy] at hc'
          have hy2 : zs.getD kk (0 : Int) = y := by rw [hy]; unfold rd; simp
          have hwf := HWF.out y (by
            rw [← hy2, List.getD_eq_getElem?_getD, List.getElem?_eq_getElem hlt, Option.getD_some]
            exact List.getElem_mem hlt)
          clear hy
          have hkey := (keyOf_int_mk Tryz.underlying3 hwf)
          obtain ⟨cv, hrun, hat, hwc⟩ := hown.lookup_int (int_keyed Tryz.underlying3) Tryz.underlying186 Tryz.underlying3 (HZ3.out _) hkey
          have hcv : cv = cntL y zs := by
            have h1 := hat.symm.trans (hC.2 y)
            simpa using h1
          have hsu := twinsTo_succ (0 : Int) zs kk
          rw [hy2, ← hcv] at hsu
          have hlen := twinsTo_len (0 : Int) zs kk
          have HLEN := Aside0.mk hlen
          have hne := own_ne_map HO.out hown
          have HNE := Aside0.mk hne
          clear hown hC hat hwc hcv hy2 hwf hkey hlen hne
          by_cases hgt : 1 < cv
          · rw [if_pos hgt] at hsu
            have HSU := Aside0.mk hsu
            have hgtb : decide (1 < cv) = true := decide_eq_true hgt
            clear hsu hgt
            go_wp2_with (at_builtin; refine Kd.R_append (Kd.int .i64) (w0 := w) w.heap.size rfl (.tmp 31) (.tmp 33) 31 3 (.int .i64 0) 8 rfl Tryz.underlying31 info3 rfl (by decide) (by omega) u2 (twinsTo (0 : Int) zs kk) (kk : Int) [.int .i64 (kk : Int)] (fun _ => True) (fun _ => False) rfl rfl ?aP (fun _ hk => hk.elim) ?aF ?aO ?aB ?aS ?aL ?_; (case aP => exact rfl); (case aB => exact BW.out); (case aF => exact (fun _ _ => trivial)); (case aO => exact HO.out); (case aS => exact BW.out.size); (case aL => have := HLEN.out; omega); intro v1 w8 ho hb hgr hat; have n0_ := Aside0.mk hb; have n1_ := Aside0.mk ho; have n2_ := Aside0.mk (show ∃ D : DataW Unit, w8.ownsMap Tryz.prog 3 (plainElem Tryz.prog 3) w.heap.size zs.length D ∧ Counts_int D zs from by obtain ⟨D2, h2, h3⟩ := HM.out; exact ⟨D2, h2.kept hgr HNE.out, h3⟩); clear ho hb hgr hat)
            go_roundg (zs.length - (kk + 1))
            case measure => omega
            case rel => exact ⟨kk + 1, by omega, by omega, by go_num, n0_, n2_, ⟨by rw [HSU.out]; exact n1_.out⟩, ⟨fun h => by rw [HSU.out] at h; simp at h⟩⟩
          · rw [if_neg hgt, List.append_nil] at hsu
            have HSU := Aside0.mk hsu
            have hgtb : decide (1 < cv) = false := decide_eq_false hgt
            clear hsu hgt
            go_wp2
            go_roundg (zs.length - (kk + 1))
            case measure => omega
            case rel => exact ⟨kk + 1, by omega, by omega, by go_num, BW, HM, ⟨by rw [HSU.out]; exact HO.out⟩, ⟨fun h => HNIL.out (by rw [HSU.out] at h; exact h)⟩⟩
        · have hltz : ¬ (kk : Int) < (zs.length : Int) := by omega
          obtain rfl : kk = zs.length := by omega
          go_wp2
          go_ret
          exact ⟨_, rfl, HO.out, HNIL.out, BW.out⟩
end Go.Proofs.YtdjlfdbnmnjccaaGreat.St
end
section
set_option linter.unusedVariables false
set_option linter.unusedSimpArgs false
namespace Go.Proofs.YtdjlfdbnmnjccaaGreat.St
open Go.RowKit Go.Proofs.YtdjlfdbnmnjccaaGreatW.PrintWords Go.Proofs.YtdjlfdbnmnjccaaGreatW.PrintLast Go.Proofs.YtdjlfdbnmnjccaaGreatW.PrintMore
def okByte (b : UInt8) : Bool := decide (97 ≤ b.toNat) && decide (b.toNat ≤ 122)
def isNameB (s : ByteArray) : Bool := s.data.toList.all okByte && (decide (1 ≤ s.size) && decide (s.size ≤ 10))
def street_isName.f (a0 : ByteArray) : Option Bool := some (isNameB a0)
theorem isNameB_bad (s : ByteArray) (i : Nat) (h : i < s.size) (hb : okByte s[i] = false) : isNameB s = false := by
  unfold isNameB
  have : s.data.toList.all okByte = false := by
    rw [List.all_eq_false]
    exact ⟨s[i], by simp [ByteArray.getElem_eq_getElem_data], by simp [hb]⟩
  rw [this]; rfl
theorem isNameB_good (s : ByteArray) (h : ∀ i, (hi : i < s.size) → okByte s[i] = true) : isNameB s = (decide ((1 : Int) ≤ s.size) && decide ((s.size : Int) ≤ 10)) := by
  unfold isNameB
  have : s.data.toList.all okByte = true := by
    rw [List.all_eq_true]
    intro x hx
    obtain ⟨i, hi, rfl⟩ := List.getElem_of_mem hx
    have := h i (by simpa using hi)
    simpa [ByteArray.getElem_eq_getElem_data] using this
  rw [this, Bool.true_and]
  congr 1 <;> rw [decide_eq_decide] <;> omega
set_option maxHeartbeats 2000000 in
set_option maxRecDepth 1000000 in
theorem isName_any (s : ByteArray) (w : World) :
    Calls Tryz.prog 60 #[.string s] w fun e w' => e = .returned (.bool (isNameB s)) ∧ Below w.heap.size w w' := by
  go_enter Tryz.func60, Tryz.ntmps60
  go_wp2
  go_loopg [4] s.size (fun gf _ wx => ∃ pos : Nat, Aside0 (wx.heap[w.heap.size]? = some (.stringIter s pos)) ∧ Aside0 (Below w.heap.size w wx) ∧ s.size ≤ pos + gf ∧ pos ≤ s.size ∧ Aside0 (∀ i, (hi : i < s.size) → i < pos → okByte s[i] = true))
  case atStart => exact ⟨0, ⟨World.iter_heap w s 0⟩, ⟨(Below.refl _ w).alloc (Nat.le_refl _) _⟩, by omega, by omega, ⟨fun i hi h => by omega⟩⟩
  case round =>
    obtain ⟨pos, hit, hbw, hfu, hle, hgood⟩ := hrel
    by_cases hps : pos < s.size
    · obtain ⟨g', rfl⟩ : ∃ g', gk = g' + 1 := ⟨gk - 1, by omega⟩
      have hnx : ∀ ty, (Instr.next (.pointer (some ⟨w.heap.size, 0, none⟩)) true ty).run Tryz.prog wr = _ := fun ty => Lib.run_next_any_at wr w.heap.size s pos ty hit.out hps
      have hwd := Lib.width_pos s pos
      have hdec : ((s[pos]'hps).toNat < 128 → Utf8.decode s pos = ((s[pos]'hps).toNat, 1)) ∧ (128 ≤ (s[pos]'hps).toNat → 128 ≤ (Utf8.decode s pos).1) :=
        ⟨fun h => decode_ascii s pos hps h, fun h => (decode_high s pos hps h).1⟩
      have hbad := isNameB_bad s pos hps
      have hokb : okByte (s[pos]'hps) = (decide (97 ≤ (s[pos]'hps).toNat) && decide ((s[pos]'hps).toNat ≤ 122)) := rfl
      have hgood' : okByte (s[pos]'hps) = true → ∀ i, (hi : i < s.size) → i < pos + 1 → okByte s[i] = true := fun h i hi h1 => by
        by_cases e : i = pos
        · subst e; exact h
        · exact hgood.out i hi (by omega)
      generalize okByte (s[pos]'hps) = ob at hbad hokb hgood'
      generalize (s[pos]'hps).toNat = bv at hdec hokb
      obtain ⟨R, hR⟩ : ∃ R, (Utf8.decode s pos).1 = R := ⟨_, rfl⟩
      obtain ⟨K, hK⟩ : ∃ K, (Utf8.decode s pos).2 = K := ⟨_, rfl⟩
      have hdec1 : bv < 128 → R = bv ∧ K = 1 := fun h => by have := hdec.1 h; rw [this] at hR hK; exact ⟨hR.symm, hK.symm⟩
      have hdec2 : 128 ≤ bv → 128 ≤ R := fun h => by rw [← hR]; exact hdec.2 h
      clear hdec
      rw [hR, hK] at hnx
      rw [hK] at hwd
      clear hR hK
      have hit2 := Lib.iterAt_heap wr w.heap.size s pos (pos + K) hit.out
      have hbw2 := Lib.below_iterAt hbw.out (k := w.heap.size) (Nat.le_refl _) s (pos + K)
      obtain ⟨W, hWd⟩ : ∃ W, wr.iterAt w.heap.size s (pos + K) = W := ⟨_, rfl⟩
      rw [hWd] at hnx hit2 hbw2
      clear hWd
      have HIT2 := Aside0.mk hit2
      have HBW2 := Aside0.mk hbw2
      clear hit2 hbw2 hit hbw
      by_cases h1 : R < 97
      · have h1' : decide ((R : Int) < 97) = true := decide_eq_true (by omega)
        have hob : isNameB s = false := hbad (by
          rw [hokb]
          by_cases hb : bv < 128
          · have := (hdec1 hb).1; simp; omega
          · have := hdec2 (by omega); omega)
        have HOB := Aside0.mk hob
        clear hob hbad hokb hgood' hdec1 hdec2 hgood
        go_wp2
        go_ret
        exact ⟨ret_bool HOB.out.symm, HBW2.out⟩
      · have h1' : decide ((R : Int) < 97) = false := decide_eq_false (by omega)
        by_cases h2 : 122 < R
        · have h2' : decide ((122 : Int) < R) = true := decide_eq_true (by omega)
          have hob : isNameB s = false := hbad (by
            rw [hokb]
            by_cases hb : bv < 128
            · have := (hdec1 hb).1; simp; omega
            · simp; omega)
          have HOB := Aside0.mk hob
          clear hob hbad hokb hgood' hdec1 hdec2 hgood
          go_wp2
          go_ret
          exact ⟨ret_bool HOB.out.symm, HBW2.out⟩
        · have h2' : decide ((122 : Int) < R) = false := decide_eq_false (by omega)
          have hlt : bv < 128 := by
            by_cases hb : bv < 128
            · exact hb
            · have := hdec2 (by omega); omega
          obtain ⟨hRb, hK1⟩ := hdec1 hlt
          have hg2 := Aside0.mk (hgood' (by rw [hokb]; simp; omega))
          clear hbad hokb hgood' hdec1 hdec2 hgood
          obtain rfl : K = 1 := hK1
          clear hRb
          go_wp2
          go_roundg g'
          case measure => omega
          case rel => exact ⟨pos + 1, HIT2, HBW2, by omega, by omega, hg2⟩
    · have hnx : ∀ ty, (Instr.next (.pointer (some ⟨w.heap.size, 0, none⟩)) true ty).run Tryz.prog wr = _ := fun ty => Lib.run_next_end_at wr w.heap.size s pos ty hit.out hps
      have HG := Aside0.mk (isNameB_good s (fun i hi => hgood.out i hi (by omega)))
      have HA := Aside0.mk (below_alloc hbw.out (.cells #[.int .i64 (s.size : Int)] 3))
      have HW := Aside0.mk (fun h => within_one 1 10 (s.size : Int) wr.heap.size (wr.alloc (.cells #[.int .i64 (s.size : Int)] 3)) h)
      clear hgood hit hbw
      go_wp2_with fail
      refine (HW.out (by go_simp)).mono ?_
      rintro e w' ⟨rfl, hb'⟩
      go_wp2_with fail
      go_ret
      exact ⟨ret_bool HG.out.symm, below_from HA.out hb'⟩
theorem street_isName.calls (a0 : ByteArray) (r : Bool) (w : World) (h : street_isName.f a0 = some r) :
    Calls Tryz.prog 60 #[.string a0] w fun e w' => e = .returned (.bool r) ∧ Below w.heap.size w w' := by
  obtain rfl := Option.some.inj h
  exact isName_any a0 w
end Go.Proofs.YtdjlfdbnmnjccaaGreat.St
end
