/- A part of the proofs of the laws of this seat: the walks of the program's functions, and lemmas. They hold without conditions. -/
import Derived.Lib.OwnBridge
import Derived.Sort.LotA
import Derived.Sort.Lot0
import Derived.Lib.SlicesCompact
import Derived.Lib.RowBridge
import Derived.Sort.OwnSortedInts
import Derived.Maps.Own
import Derived.Maps.Views
import Derived.Maps.OwnOps
import Derived.Test.YtdjlfdbnmnjccaaGreatB03
import Derived.Test.YtdjlfdbnmnjccaaGreatB04
set_option linter.all false
set_option linter.unusedSectionVars false
section
set_option linter.unusedVariables false
set_option linter.unusedSimpArgs false
namespace Go.Proofs.YtdjlfdbnmnjccaaGreat.St
open Go.RowKit Go.Shelf Go.Sort Go.Proofs.YtdjlfdbnmnjccaaGreatW.PrintWords Go.Proofs.YtdjlfdbnmnjccaaGreatW.PrintLast Go.Proofs.YtdjlfdbnmnjccaaGreatW.PrintMore
instance : Inhabited S60 := ⟨z60⟩
theorem cellsC_len (x : S60) : (cellsC x).length = 3 := rfl
theorem cellsC_one (x : S60) : ∀ v ∈ cellsC x, v.oneCell' = true := by
  intro v hv
  simp [cellsC] at hv
  rcases hv with rfl | rfl | rfl <;> rfl
theorem rowC_get (zs : List S60) (j c : Nat) (hj : j < zs.length) (hc : c < 3) : (rowC zs)[j * 3 + c]? = (cellsC zs[j])[c]? := by
  have h := (rowC_reps (fun x cs => cs = cellsC x) (fun _ => rfl) zs).2 j zs[j] (List.getElem?_eq_getElem hj)
  rw [← h, List.getElem?_take, if_pos hc, List.getElem?_drop]
theorem flatC_get (zs : List S60) (t : Nat) (h : t < zs.length * 3) : (rowC zs)[t]? = some ((flatK cellsC 3 zs.toArray)[t]!) := by
  rw [get_flatK _ _ _ _ (by simpa using h)]
  have h1 := rowC_get zs (t / 3) (t % 3) (by omega) (by omega)
  rw [show t / 3 * 3 + t % 3 = t by omega] at h1
  rw [h1]
  have h2 : t / 3 < zs.length := by omega
  have e : zs.toArray[t / 3]! = zs[t / 3] := by simp [getElem!_pos, h2]
  rw [e]
  have h3 : t % 3 < (cellsC zs[t / 3]).length := by rw [cellsC_len]; omega
  rw [List.getElem?_eq_getElem h3]
  simp [getElem!_pos, h3]
theorem rowC_len (zs : List S60) : (rowC zs).length = zs.length * 3 := (rowC_reps (fun x cs => cs = cellsC x) (fun _ => rfl) zs).1
theorem holdsK_of_own {w : World} {base g n cap : Nat} {zs : List S60} (h : w.ownsRow base 60 3 (.slice (some ⟨g, 0, none⟩) n cap) n (rowC zs)) (hl : zs.length = n) :
    base ≤ g ∧ g < w.heap.size ∧ n ≤ cap ∧ HoldsK cellsC 3 w g 0 zs.toArray := by
  rcases h.2 with ⟨e0, _⟩ | ⟨g', cap', cur, e0, hb, hg, hn, hm, hs, ht⟩
  · cases e0
  · injection e0 with e1 _ e3
    injection e1 with e1
    injection e1 with e1
    subst e1; subst e3
    refine ⟨hb, (Array.getElem?_eq_some_iff.1 hg).1, hn, fun j hj => ?_⟩
    have hj' : j < n * 3 := by simpa [hl] using hj
    refine ⟨?_, by simp [World.frozen?, hg]⟩
    have h1 := flatC_get zs j (by omega)
    rw [← ht, List.getElem?_take, if_pos hj', Array.getElem?_toList] at h1
    simp only [World.cell?, hg, Nat.zero_add]
    simpa using h1
theorem own_of_sorted {w : World} {base g n cap m : Nat} {os : Array Obj} {zs ys : List S60} (h : w.ownsRow base 60 3 (.slice (some ⟨g, 0, none⟩) n cap) n (rowC zs)) (hy : ys.length = n) :
    (sortWorldK cellsC 3 w g 0 m ys.toArray os).ownsRow base 60 3 (.slice (some ⟨g, 0, none⟩) n cap) n (rowC ys) := by
  rcases h.2 with ⟨e0, _⟩ | ⟨g', cap', cur, e0, hb, hg, hn, hm, hs, ht⟩
  · cases e0
  · injection e0 with e1 _ e3
    injection e1 with e1
    injection e1 with e1
    subst e1; subst e3
    have hlt := (Array.getElem?_eq_some_iff.1 hg).1
    refine ⟨by rw [rowC_len, hy], .inr ⟨g, cap, putCells id 0 (flatK cellsC 3 ys.toArray) cur, rfl, hb, ?_, hn, hm, by simpa [putCells] using hs, ?_⟩⟩
    · unfold sortWorldK
      rw [heap_grow_old _ _ (by simpa [putRowK, putRow, mapBlock, Sort.ahead] using hlt)]
      simp [putRowK, putRow, mapBlock, Sort.ahead, Array.getElem?_modify, hg, onCells]
    · apply List.ext_getElem?
      intro j
      rw [List.getElem?_take]
      by_cases hj : j < n * 3
      · have hjc : j < cur.size := by have := Nat.mul_le_mul_right 3 hn; omega
        rw [if_pos hj, flatC_get ys j (by omega), Array.getElem?_toList]
        simp only [putCells, Array.getElem?_mapIdx, Array.getElem?_eq_getElem hjc, Option.map_some]
        rw [if_pos (by simp; omega)]
        simp
      · rw [if_neg hj, List.getElem?_eq_none (by rw [rowC_len]; omega)]
theorem below_sorted {w : World} {B g m : Nat} {os : Array Obj} {d : Array S60} (hB : B ≤ w.heap.size) (hg : B ≤ g) : Below B w (sortWorldK cellsC 3 w g 0 m d os) := by
  refine ⟨rfl, rfl, rfl, ?_, fun k hk => ?_⟩
  · simp [sortWorldK, grow, putRowK, putRow, mapBlock, Sort.ahead]
  · unfold sortWorldK
    rw [heap_grow_old _ _ (by simp [putRowK, putRow, mapBlock, Sort.ahead]; omega)]
    simp [putRowK, putRow, mapBlock, Sort.ahead, Array.getElem?_modify, show g ≠ k by omega]
def cfC (x y : S60) : Int := if x.f0 < y.f0 then -1 else if y.f0 < x.f0 then 1 else 0
theorem isNaN_f (a : Int) : cmp_isNaN_int.f a = some false := by unfold cmp_isNaN_int.f; simp
theorem cmp_f (a b : Int) : cmp_Compare_int.f a b = some (if a < b then -1 else if b < a then 1 else 0) := by
  unfold cmp_Compare_int.f
  rw [isNaN_f, isNaN_f]
  show (if a < b then some (-1) else if a > b then some 1 else some 0) = _
  by_cases h : a < b
  · rw [if_pos h, if_pos h]
  · rw [if_neg h, if_neg h]
    by_cases h2 : b < a
    · rw [if_pos (show a > b from h2), if_pos h2]
    · rw [if_neg (show ¬ a > b from h2), if_neg h2]
theorem grow_two (W : World) (o1 o2 : Obj) (n : Nat) : ((W.alloc o1).alloc o2).drewN n = grow (W.drewN n) #[o1, o2] := by
  rw [alloc_eq_grow, alloc_eq_grow, grow_grow]; rfl
theorem cmpC_any (x y : S60) (W : World) :
    Calls Tryz.prog 100 #[.agg #[.int .i64 x.f0, .int .i64 x.f1, .string x.f2], .agg #[.int .i64 y.f0, .int .i64 y.f1, .string y.f2]] W fun e w' => e = .returned (.int .i64 (cfC x y)) ∧ ∃ q os', w' = grow (W.drewN q) os' := by
  have hc := fun w1 => cmp_Compare_int.calls x.f0 y.f0 (cfC x y) w1 (by rw [cmp_f]; rfl)
  go_enter Tryz.func100, Tryz.ntmps100
  go_wp2_with fail
  refine (hc _).mono ?_
  rintro e w' ⟨rfl, ⟨n, rfl⟩⟩
  go_wp2_with fail
  go_ret
  exact ⟨rfl, n, _, grow_two W _ _ n⟩
theorem cmpC_lays (blk size : Nat) (w : World) : CmpLays Tryz.prog 100 #[] cellsC 3 cfC blk 0 size w :=
  fun m os dk _ x y => cmpC_any x y _
def sortC (zs : List S60) : List S60 := (Sort.insertionSort (ltOf cfC) zs.toArray 0 zs.length).toList
theorem insInner_size {α : Type} [Inhabited α] (lt : α → α → Bool) (a : Nat) : ∀ (j : Nat) (d : Array α), (Sort.insInner lt a j d).size = d.size
  | 0, d => rfl
  | j + 1, d => by
    unfold Sort.insInner
    split
    · rw [insInner_size lt a j]; simp [Sort.swp]
    · rfl
theorem insOuter_size {α : Type} [Inhabited α] (lt : α → α → Bool) (a b : Nat) : ∀ (n i : Nat) (d : Array α), b - i = n → (Sort.insOuter lt a b i d).size = d.size
  | 0, i, d, h => by rw [Sort.insOuter, if_neg (by omega)]
  | n + 1, i, d, h => by rw [Sort.insOuter, if_pos (by omega), insOuter_size lt a b n (i + 1) _ (by omega), insInner_size]
theorem sortC_len (zs : List S60) : (sortC zs).length = zs.length := by
  unfold sortC Sort.insertionSort
  rw [Array.length_toList, insOuter_size _ _ _ _ _ _ rfl]
  simp
set_option maxRecDepth 100000 in
theorem insC_empty (v f : Value) (w : World) :
    Calls Tryz.prog 150 #[v, .int .i64 0, .int .i64 0, f] w fun e w' => e = .returned (.tuple #[]) ∧ w = w' := by
  go_enter Tryz.func150, Tryz.ntmps150
  go_wp2
  refine wp_loop_rounds 1 ?_
  rw [rounds_succ]
  go_wp2
  go_end0
  exact ⟨rfl, rfl⟩
theorem insC_any (zs : List S60) (hsm : zs.length < 20) (base : Nat) (v : Value) (w : World) (hown : w.ownsRow base 60 3 v zs.length (rowC zs)) (hbase : base ≤ w.heap.size) :
    Calls Tryz.prog 150 #[v, .int .i64 0, .int .i64 zs.length, .func (.func 100) #[] #[]] w fun e w' => e = .returned (.tuple #[]) ∧ w'.ownsRow base 60 3 v zs.length (rowC (sortC zs)) ∧ Below base w w' := by
  cases zs with
  | nil => exact (insC_empty v _ w).mono fun e w' ⟨h1, h2⟩ => ⟨h1, h2 ▸ (by rw [List.eq_nil_of_length_eq_zero (sortC_len [])]; exact hown), h2 ▸ Below.refl _ _⟩
  | cons z zs =>
    obtain ⟨g, cap, rfl, _, _⟩ := hown.form (by simp)
    obtain ⟨hb, hg, hc, hH⟩ := holdsK_of_own hown rfl
    have hcall := AnyQ.insertionSortCmpFunc Tryz.laysSlF020_f150 3 (fun _ => by kernel_rfl) (fun _ => by kernel_rfl) cellsC cellsC_len cellsC_one cfC 100 #[] g 0 cap 0 (z :: zs).length (z :: zs).toArray w
      (enters_of Tryz.func100 (by kernel_rfl) rfl) (cmpC_lays g _ w) hH hg (Nat.zero_le _) (by simp) (by simp at hsm ⊢; omega)
    refine Calls.mono (R := _) (show Calls Tryz.prog 150 _ w _ from hcall) ?_
    rintro e w' ⟨rfl, m, os, rfl⟩
    refine ⟨rfl, ?_, below_sorted hbase hb⟩
    have := own_of_sorted (m := m) (os := os) hown (ys := sortC (z :: zs)) (sortC_len _)
    have e2 : (sortC (z :: zs)).toArray = Sort.insertionSort (ltOf cfC) (z :: zs).toArray 0 (z :: zs).length := by unfold sortC; simp
    rwa [e2] at this
set_option maxRecDepth 100000 in
theorem stableC_any (zs : List S60) (hsm : zs.length < 20) (base : Nat) (v : Value) (w : World) (hown : w.ownsRow base 60 3 v zs.length (rowC zs)) (hbase : base ≤ w.heap.size) :
    Calls Tryz.prog 130 #[v, .int .i64 zs.length, .func (.func 100) #[] #[]] w fun e w' => e = .returned (.tuple #[]) ∧ w'.ownsRow base 60 3 v zs.length (rowC (sortC zs)) ∧ Below base w w' := by
  have hcall := insC_any zs hsm base v w hown hbase
  have h20 : ¬ (20 : Int) ≤ (zs.length : Int) := by omega
  have h20' : ¬ (20 : Int) < (zs.length : Int) := by omega
  clear hown hbase
  go_enter Tryz.func130, Tryz.ntmps130
  go_wp2_with fail
  refine wp_loop_rounds 1 ?_
  rw [rounds_succ]
  go_wp2_with fail
  refine hcall.mono ?_
  rintro e w' ⟨rfl, ho, hb⟩
  have HO := Aside0.mk ho
  clear ho
  go_wp2_with fail
  refine wp_loop_rounds 1 ?_
  rw [rounds_succ]
  go_wp2_with fail
  go_end0
  exact ⟨rfl, HO.out, hb⟩
theorem sortStableC_any (zs : List S60) (hsm : zs.length < 20) (base : Nat) (v : Value) (w : World) (hown : w.ownsRow base 60 3 v zs.length (rowC zs)) (hbase : base ≤ w.heap.size) :
    Calls Tryz.prog 119 #[v, .func (.func 100) #[] #[]] w fun e w' => e = .returned (.tuple #[]) ∧ w'.ownsRow base 60 3 v zs.length (rowC (sortC zs)) ∧ Below base w w' := by
  have hcall := stableC_any zs hsm base v w hown hbase
  obtain ⟨A, c, rfl⟩ := own_slice hown
  clear hown hbase
  go_enter Tryz.func119, Tryz.ntmps119
  go_wp2_with fail
  refine hcall.mono ?_
  rintro e w' ⟨rfl, ho, hb⟩
  have HO := Aside0.mk ho
  clear ho
  go_wp2_with fail
  go_end0
  exact ⟨rfl, HO.out, hb⟩
theorem sortedC_any (A : Option Addr) (c : Nat) (zs : List S60) (hsm : zs.length < 20) (Bs : Nat) (w0 w : World) (hr : Kd.C k60 w0 A zs.length zs) (hb : Below w0.heap.size w0 w) (hBs : w.cell? ⟨Bs, 0, none⟩ = some (.slice A zs.length c)) :
    Calls Tryz.prog 98 #[.func (.func 120) #[] #[.pointer (some ⟨Bs, 0, none⟩)], .func (.func 100) #[] #[]] w fun e w' => ∃ v, e = .returned v ∧ Kd.R k60 60 w' w.heap.size (fun _ => True) v (sortC zs) ∧ Below w.heap.size w w' := by
  have hcall := collect_any A c zs (by omega) Bs w0 w hr hb hBs
  clear hr hb hBs
  go_enter Tryz.func98, Tryz.ntmps98
  go_wp2_with fail
  refine hcall.mono ?_
  rintro e w1 ⟨v, rfl, ho, hb⟩
  have hcall2 := Aside0.mk (sortStableC_any zs hsm w.heap.size v w1 ho hb.size)
  obtain ⟨A, c, rfl⟩ := own_slice ho
  clear ho
  go_wp2_with fail
  refine hcall2.out.mono ?_
  rintro e w2 ⟨rfl, ho, hb2⟩
  have HO := Aside0.mk ho
  clear ho
  go_wp2_with fail
  go_ret
  exact ⟨_, rfl, ownC_R (by rw [sortC_len]; exact HO.out), hb.trans hb2⟩
end Go.Proofs.YtdjlfdbnmnjccaaGreat.St
end
section
set_option linter.unusedVariables false
set_option linter.unusedSimpArgs false
namespace Go.Proofs.YtdjlfdbnmnjccaaGreat.St
open Go.RowKit Go.Shelf Go.Sort
theorem ltC_eq (x y : S60) : ltOf cfC x y = decide (x.f0 < y.f0) := by
  unfold ltOf cfC
  by_cases h : x.f0 < y.f0
  · simp [h]
  · by_cases h2 : y.f0 < x.f0 <;> simp [h, h2]
theorem swoC : SWO (ltOf cfC) := by
  refine ⟨fun x => ?_, fun x y z => ?_, fun x y z => ?_⟩ <;> simp only [ltC_eq, decide_eq_true_eq, decide_eq_false_iff_not] <;> omega
theorem sortC_spec (zs : List S60) : (sortC zs).Perm zs ∧ ∀ (i j : Nat) (h1 : i < j) (h2 : j < (sortC zs).length), ((sortC zs)[i]'(by omega)).f0 ≤ ((sortC zs)[j]'h2).f0 := by
  obtain ⟨⟨hs, _, hp⟩, hd⟩ := insertionSort_holds swoC zs.toArray 0 zs.length (Nat.zero_le _) (by simp)
  have hsz : (Sort.insertionSort (ltOf cfC) zs.toArray 0 zs.length).size = zs.length := by rw [hs]; simp
  refine ⟨?_, fun i j h1 h2 => ?_⟩
  · unfold sortC
    have e1 : (Sort.insertionSort (ltOf cfC) zs.toArray 0 zs.length).extract 0 zs.length = Sort.insertionSort (ltOf cfC) zs.toArray 0 zs.length := by
      have h1 : ∀ (a : Array S60) (n : Nat), a.size = n → a.extract 0 n = a := fun a n e => by subst e; simp
      exact h1 _ _ hsz
    rw [e1] at hp
    simpa using hp
  · have h3 : j < zs.length := by rw [sortC_len] at h2; exact h2
    have := hd i j (Nat.zero_le _) h1 h3
    rw [ltC_eq] at this
    simp only [decide_eq_false_iff_not] at this
    have ei : (Sort.insertionSort (ltOf cfC) zs.toArray 0 zs.length)[i]! = (sortC zs)[i]'(by omega) := by rw [getElem!_pos _ i (by omega)]; rfl
    have ej : (Sort.insertionSort (ltOf cfC) zs.toArray 0 zs.length)[j]! = (sortC zs)[j]'h2 := by rw [getElem!_pos _ j (by omega)]; rfl
    rw [ei, ej] at this
    omega
theorem sortC_mem {zs : List S60} {c : S60} (h : c ∈ sortC zs) : c ∈ zs := (sortC_spec zs).1.mem_iff.1 h
theorem compact_ne {zs : List Int} (h : zs ≠ []) : Lib.compact zs ≠ [] := by
  unfold Lib.compact Lib.compactUpTo
  cases zs with
  | nil => exact absurd rfl h
  | cons z zs =>
    simp only [List.length_cons, List.range_succ_eq_map, List.filter_cons]
    rw [if_pos (by simp [Lib.keeps])]
    simp
end Go.Proofs.YtdjlfdbnmnjccaaGreat.St
end
section
set_option linter.unusedVariables false
set_option linter.unusedSimpArgs false
namespace Go.Proofs.YtdjlfdbnmnjccaaGreat.St
open Go.RowKit Go.Shelf Go.Sort Go.Proofs.YtdjlfdbnmnjccaaGreatW.PrintWords Go.Proofs.YtdjlfdbnmnjccaaGreatW.PrintLast Go.Proofs.YtdjlfdbnmnjccaaGreatW.PrintMore
set_option maxHeartbeats 1000000 in
theorem clone_any (ad : Addr) (c : Nat) (zs : List ByteArray) (w : World) (hr : Kd.C Kd.string w (some ad) zs.length zs) (hc : zs.length ≤ c) (hsm : zs.length < 100000) :
    Calls Tryz.prog 102 #[.slice (some ad) zs.length c] w fun e w' => ∃ v0_ : Value, e = .returned v0_ ∧ Kd.R Kd.string 9 w' w.heap.size (fun _ => True) v0_ zs ∧ Below w.heap.size w w' := by
  have HR0 := Aside0.mk hr
  have hnn := fun w : World => Lib.run_eql_slice_nil (P := Tryz.prog) w 22 9 (some ad) zs.length c 0 0 Tryz.underlying22
  have HB := Aside0.mk (Below.refl w.heap.size w)
  have HLEN := Aside0.mk hsm
  clear hr hsm
  go_enter Tryz.func102, Tryz.ntmps102
  go_wp2_with (first | ((with_reducible refine gate_dst (N := 5) rfl ?_); refine Kd.R_lit Kd.string _ 9 ?hg (N := 5) ?hd (xs := ([] : List ByteArray)) (inner := []) (ok := fun _ => True) (okp := fun _ => True) ?hr ?hp (fun _ hk => hk) trivial (Below.refl _ _) (Nat.le_refl _) (by simp) ?_; (case hd => rfl); (case hg => rfl); (case hr => first | (go_simp; done) | (go_simp; rfl)); (case hp => exact (Reps.none _ _)); intro v785 w3 ho4 hb hg_ hnew_; clear hg_ hnew_; have n0_ := Aside0.mk (Kd.R_lower ho4 (below_size HB.out)); have n1_ := Aside0.mk (below_step HB.out hb); clear HB; clear hb ho4) | ((with_reducible refine gate_builtin (b := .append) (xs := #[.tmp 5, .tmp 6]) rfl ?_); at_builtin; refine Kd.R_append_rows Kd.string (w0 := w) w.heap.size rfl (.tmp 5) (.tmp 6) 22 9 (.string ⟨#[]⟩) 16 rfl Tryz.underlying22 info9 rfl (by decide) (by omega) v785 [] zs _ _ _ (fun _ => True) (fun _ => False) rfl rfl ?aO ?aR (fun _ _ h => h) (fun _ h => h.elim) ?aF ?aB ?aS ?aL ?_; (case aR => exact (Kd.C_below HR0.out n1_.out)); (case aB => exact n1_.out); (case aF => exact (fun _ _ => trivial)); (case aO => exact n0_.out); (case aS => exact (below_size n1_.out)); (case aL => have := HLEN.out; simp; omega); intro v788 w5 ho hb hg hat; have m0_ := Aside0.mk hb; have m1_ := Aside0.mk ho; clear ho hb hg hat))
  go_ret
  exact ⟨_, rfl, m1_.out, m0_.out⟩
theorem encs_map (zs : List Int) : encs (Value.int .i64) zs = zs.map (Value.int .i64) := rfl
theorem ownI {w : World} {base : Nat} {v : Value} {zs : List Int} {ok : Nat → Prop} (h : Kd.R (Kd.int .i64) 3 w base ok v zs) : w.ownsRow base 3 1 v zs.length (zs.map (Value.int .i64)) := Kd.own_of_R h
theorem ofOwnI {w : World} {base n : Nat} {v : Value} {zs : List Int} (h : w.ownsRow base 3 1 v n (zs.map (Value.int .i64))) (hn : zs.length = n) : Kd.R (Kd.int .i64) 3 w base (fun _ => True) v zs := by
  subst hn; exact Kd.R_of_own h (fun _ _ => trivial)
def sortI (zs : List Int) : List Int := zs.mergeSort fun x y => decide (x ≤ y)
theorem sortI_len (zs : List Int) : (sortI zs).length = zs.length := by unfold sortI; simp
theorem sortI_any (base : Nat) (v : Value) (zs : List Int) (w : World) (h : Kd.R (Kd.int .i64) 3 w base (fun _ => True) v zs) (hne : 0 < zs.length) (hsm : zs.length < 100000) :
    Calls Tryz.prog 104 #[v] w fun e w' => e = .returned (.tuple #[]) ∧ Kd.R (Kd.int .i64) 3 w' base (fun _ => True) v (sortI zs) ∧ w.grownBy w' v.ownBlock := by
  have hown := ownI h
  have hv : v ≠ .slice none 0 0 := by
    rintro rfl
    obtain ⟨g, cap, e, _⟩ := hown.form hne
    cases e
  obtain ⟨g, cap, rfl, hb, hg, hc, hm, _, hH⟩ := Lib.holds_of_ownsRow hown hv
  refine (Tryz.slices_Sort_int g 0 cap zs w hH hg (by omega)).mono ?_
  rintro e w' ⟨rfl, n, os, rfl⟩
  rcases hown.2 with ⟨h0, _⟩ | ⟨g', cap', cur, e0, _, hcur, h1, h2, h3, _⟩
  · cases h0
  cases e0
  refine ⟨rfl, ofOwnI (n := zs.length) (ownsRow_sortedI (by simp) hb hcur h1 h2 h3) (sortI_len zs), ⟨rfl, rfl, rfl, ?_, fun k hk hne => ?_⟩⟩
  · simp [grow, putRow, mapBlock, Sort.ahead]
  · have hgk : g ≠ k := fun e => hne (by simp [Value.ownBlock, e])
    rw [heap_grow_old _ _ (by simpa [putRow, mapBlock, Sort.ahead] using hk)]
    simp [putRow, mapBlock, Sort.ahead, Array.getElem?_modify, hgk]
theorem compactI_any (base : Nat) (v : Value) (zs : List Int) (w : World) (h : Kd.R (Kd.int .i64) 3 w base (fun _ => True) v zs) (hne : 0 < zs.length) (hsm : zs.length < 100000) :
    Calls Tryz.prog 105 #[v] w fun e w' => ∃ v', e = .returned v' ∧ Kd.R (Kd.int .i64) 3 w' base (fun _ => True) v' (Lib.compact zs) ∧ w.grownBy w' v.ownBlock := by
  have hown := ownI h
  have hv : v ≠ .slice none 0 0 := by
    rintro rfl
    obtain ⟨g, cap, e, _⟩ := hown.form hne
    cases e
  obtain ⟨g, cap, rfl, hb, hg, hc, hm, _, hH⟩ := Lib.holds_of_ownsRow hown hv
  refine (Tryz.slices_Compact_int g 0 cap zs w hH (by omega) hc).mono ?_
  rintro e w' ⟨rfl, q, rfl⟩
  have hle := Lib.compact_length_le zs
  have ho := Lib.ownsRow_putRow (q := q) (k := (Lib.compact zs).length) (ys := Lib.compact zs ++ List.replicate (zs.length - (Lib.compact zs).length) 0) hown (by simp; omega) hle
  rw [List.take_left] at ho
  refine ⟨_, rfl, ofOwnI ho rfl, ⟨rfl, rfl, rfl, by simp [putRow, mapBlock, Sort.ahead], fun k hk hne => ?_⟩⟩
  have hgk : g ≠ k := fun e => hne (by simp [Value.ownBlock, e])
  simp [putRow, mapBlock, Sort.ahead, Array.getElem?_modify, hgk]
end Go.Proofs.YtdjlfdbnmnjccaaGreat.St
end
section
set_option linter.unusedVariables false
set_option linter.unusedSimpArgs false
namespace Go.Proofs.YtdjlfdbnmnjccaaGreat.St
open Go.RowKit Go.Proofs.YtdjlfdbnmnjccaaGreatW.PrintWords Go.Proofs.YtdjlfdbnmnjccaaGreatW.PrintLast Go.Proofs.YtdjlfdbnmnjccaaGreatW.PrintMore
theorem within_pred (least most : Int) (p1 p2 : Addr) (w : World) (h1 : w.cell? p1 = some (.int .i64 least)) (h2 : w.cell? p2 = some (.int .i64 most)) :
    Pred 95 #[.pointer (some p1), .pointer (some p2)] (Value.int .i64) (fun n => decide (n < least) || decide (most < n)) w := by
  intro W x hb
  have c1 := (hb.cell (World.block_lt_of_cell? w _ h1)).trans h1
  have c2 := (hb.cell (World.block_lt_of_cell? w _ h2)).trans h2
  clear h1 h2 hb
  by_cases a : x < least
  · have a1 : decide (x < least) = true := decide_eq_true a
    go_enter Tryz.func95, Tryz.ntmps95
    go_wp2
    go_ret
    exact ⟨ret_bool (by simp [a]), Below.refl _ _⟩
  · have a1 : decide (x < least) = false := decide_eq_false a
    by_cases b : most < x
    · have b1 : decide (most < x) = true := decide_eq_true b
      go_enter Tryz.func95, Tryz.ntmps95
      go_wp2
      go_ret
      exact ⟨ret_bool (by simp [b]), Below.refl _ _⟩
    · have b1 : decide (most < x) = false := decide_eq_false b
      go_enter Tryz.func95, Tryz.ntmps95
      go_wp2
      go_ret
      exact ⟨ret_bool (by simp [a, b]), Below.refl _ _⟩
def street_within.f (a0 a1 : Int) (l2 : List Int) : Option Bool := some (l2.all fun n => decide (a0 ≤ n) && decide (n ≤ a1))
theorem within_any (a0 a1 : Int) (l : List Int) : (!(l.any fun n => decide (n < a0) || decide (a1 < n))) = l.all fun n => decide (a0 ≤ n) && decide (n ≤ a1) := by
  rw [List.not_any_eq_all_not]
  congr 1
  funext n
  rw [Bool.eq_iff_iff]
  simp
set_option maxHeartbeats 1000000 in
theorem street_within.calls (a0 a1 : Int) (A2 : Option Addr) (c2 : Nat) (l2 : List Int) (r : Bool) (w : World) (hr2 : Kd.C (Kd.int .i64) w A2 l2.length l2) (hc2 : l2.length ≤ c2) (h : street_within.f a0 a1 l2 = some r) :
    Calls Tryz.prog 63 #[.int .i64 a0, .int .i64 a1, .slice A2 l2.length c2] w fun e w' => e = .returned (.bool r) ∧ Below w.heap.size w w' := by
  have hR := Aside0.mk ((within_any a0 a1 l2).trans (Option.some.inj h))
  clear h
  have hbig : l2.length ≤ 9223372036854775807 := hr2.2.1
  have HR := Aside0.mk hr2
  clear hr2
  have hB1 : Below w.heap.size w ((w.alloc (.cells #[.int .i64 a0] 3)).alloc (.cells #[.int .i64 a1] 3)) := below_alloc (below_alloc (Below.refl _ _) _) _
  have eg := enters_of Tryz.func95 (by kernel_rfl) rfl
  have hcall := fun h1 h2 => containsFunc_int 95 #[.pointer (some ⟨w.heap.size, 0, none⟩), .pointer (some ⟨w.heap.size + 1, 0, none⟩)] eg (fun n => decide (n < a0) || decide (a1 < n)) A2 c2 l2 _ (within_pred a0 a1 ⟨w.heap.size, 0, none⟩ ⟨w.heap.size + 1, 0, none⟩ ((w.alloc (.cells #[.int .i64 a0] 3)).alloc (.cells #[.int .i64 a1] 3)) h1 h2) (Kd.C_below HR.out hB1) hbig
  have HC := Aside0.mk hcall
  have HB := Aside0.mk hB1
  clear hcall hB1 eg hbig
  go_enter Tryz.func63, Tryz.ntmps63
  go_wp2_with fail
  refine (HC.out (by go_simp) (by go_simp)).mono ?_
  rintro e w' ⟨rfl, hb'⟩
  go_wp2_with fail
  go_ret
  exact ⟨ret_bool hR.out, below_from HB.out hb'⟩
theorem reads_one (n : Int) (B : Nat) (w : World) (h : w.cell? ⟨B, 0, none⟩ = some (.int .i64 n)) : Kd.C (Kd.int .i64) w (some ⟨B, 0, none⟩) [n].length [n] := by
  refine ⟨rfl, by simp, fun _ => ⟨_, rfl, fun j p hj => ?_⟩⟩
  cases j with
  | succ j => simp at hj
  | zero =>
    simp at hj
    subst hj
    refine ⟨[.int .i64 n], rfl, rfl, fun i u hu => ?_⟩
    cases i with
    | succ i => simp at hu
    | zero =>
      simp at hu
      subst hu
      rw [add_plain]
      exact h
theorem within_one (a0 a1 n : Int) (B : Nat) (w : World) (h : w.cell? ⟨B, 0, none⟩ = some (.int .i64 n)) :
    Calls Tryz.prog 63 #[.int .i64 a0, .int .i64 a1, .slice (some ⟨B, 0, none⟩) 1 1] w fun e w' => e = .returned (.bool (decide (a0 ≤ n) && decide (n ≤ a1))) ∧ Below w.heap.size w w' :=
  street_within.calls a0 a1 (some ⟨B, 0, none⟩) 1 [n] _ w (reads_one n B w h) (by simp) (by unfold street_within.f; simp)
end Go.Proofs.YtdjlfdbnmnjccaaGreat.St
end
section
set_option linter.unusedVariables false
set_option linter.unusedSimpArgs false
namespace Go.Proofs.YtdjlfdbnmnjccaaGreat.St
open Go.Maps Go.RowKit Go.Proofs.YtdjlfdbnmnjccaaGreatW.PrintWords Go.Proofs.YtdjlfdbnmnjccaaGreatW.PrintLast Go.Proofs.YtdjlfdbnmnjccaaGreatW.PrintMore
def cntL {α : Type} [DecidableEq α] (x : α) (l : List α) : Int := ((l.filter fun y => decide (y = x)).length : Nat)
theorem cntL_take {α : Type} [DecidableEq α] (x d : α) (l : List α) (k : Nat) (h : k < l.length) : cntL x (l.take (k + 1)) = cntL x (l.take k) + if l.getD k d = x then 1 else 0 := by
  unfold cntL
  rw [List.take_succ_eq_append_getElem h, List.filter_append, List.getD_eq_getElem?_getD, List.getElem?_eq_getElem h, Option.getD_some]
  by_cases e : l[k] = x <;> simp [List.filter_cons, e]
theorem cntL_le {α : Type} [DecidableEq α] (x : α) (l : List α) : 0 ≤ cntL x l ∧ cntL x l ≤ l.length := by
  unfold cntL
  have := List.length_filter_le (fun y => decide (y = x)) l
  omega
theorem cntL_take_le {α : Type} [DecidableEq α] (x : α) (l : List α) (k : Nat) : 0 ≤ cntL x (l.take k) ∧ cntL x (l.take k) ≤ k := by
  have := cntL_le x (l.take k)
  have h2 := List.length_take_le k l
  omega
def twinsTo {α : Type} [DecidableEq α] (d : α) (l : List α) (k : Nat) : List Int := ((List.range k).filter fun i => decide (1 < cntL (l.getD i d) l)).map fun i : Nat => (i : Int)
def twinsL {α : Type} [DecidableEq α] (d : α) (l : List α) : List Int := twinsTo d l l.length
theorem twinsTo_succ {α : Type} [DecidableEq α] (d : α) (l : List α) (k : Nat) : twinsTo d l (k + 1) = twinsTo d l k ++ if 1 < cntL (l.getD k d) l then [(k : Int)] else [] := by
  unfold twinsTo
  rw [List.range_succ, List.filter_append, List.map_append]
  by_cases e : 1 < cntL (l.getD k d) l
  · rw [if_pos e]; simp only [List.filter_cons, List.filter_nil, decide_eq_true e, if_true, List.map_cons, List.map_nil]
  · rw [if_neg e]; simp only [List.filter_cons, List.filter_nil, decide_eq_false e, if_neg, Bool.false_eq_true, not_false_eq_true, List.map_nil, List.append_nil]
theorem twinsTo_len {α : Type} [DecidableEq α] (d : α) (l : List α) (k : Nat) : (twinsTo d l k).length ≤ k := by
  unfold twinsTo
  rw [List.length_map]
  exact Nat.le_trans (List.length_filter_le _ _) (by simp)
theorem own_ne_map {H : Type} {α : Type} {d : Kd α} {e base b n : Nat} {ok : Nat → Prop} {W : World} {v : Value} {xs : List α} {P : Program} {k : TypeId} {R : Value → Option (DataW H × List MemPlace)} {D : DataW H}
    (ho : d.R e W base ok v xs) (hm : W.ownsMap P k R b n D) : some b ≠ v.ownBlock := by
  intro he
  obtain ⟨inner, hown⟩ := Kd.R_own ho
  obtain ⟨cells, hc⟩ := own_typed hown b he.symm
  obtain ⟨es, clock, hb, _⟩ := hm
  rw [hc] at hb
  cases hb
theorem str_lit_inj {s t : ByteArray} : s.data.toList = t.data.toList ↔ s = t := by
  constructor
  · intro h
    exact ByteArray.ext (Array.toList_inj.mp h)
  · rintro rfl; rfl
def Counts_string (D : DataW Unit) (l : List ByteArray) : Prop := IsMap D ∧ ∀ x : ByteArray, D.atKey (Lit.string x.data.toList) (.lit (.int .i64 0)) = .lit (.int .i64 (cntL x l))
theorem counts_string_nil : Counts_string (.map []) [] := ⟨isMap_empty, fun x => rfl⟩
theorem counts_string_step (D : DataW Unit) (zs : List ByteArray) (k : Nat) (h : k < zs.length) (hC : Counts_string D (zs.take k)) (y : ByteArray) (hy : zs.getD k ByteArray.empty = y) (c : Int) (hc : c = cntL y (zs.take k)) :
    Counts_string (D.put (Lit.string y.data.toList) (.lit (.int .i64 (c + 1)))) (zs.take (k + 1)) := by
  refine ⟨hC.1.put _ _, fun x => ?_⟩
  rw [cntL_take x ByteArray.empty zs k h, hy]
  by_cases e : y = x
  · subst e
    rw [atKey_put_same hC.1 (by simp [WideAt.IsKeyLit]), if_pos rfl, hc]
  · rw [atKey_put_other (fun h => e (str_lit_inj.1 (by injection h with h1; exact h1.symm))), hC.2 x, if_neg e, Int.add_zero]
set_option maxHeartbeats 4000000 in
set_option maxRecDepth 100000 in
theorem twins_string_any (A : Option Addr) (c : Nat) (zs : List ByteArray) (w : World) (hr : Kd.C Kd.string w A zs.length zs) (hsz : zs.length < 100000) (hwf0 : ∀ s ∈ zs, s.size ≤ maxLen) :
    Calls Tryz.prog 65 #[.slice A zs.length c] w fun e w' => ∃ v0_ : Value, e = .returned (v0_) ∧ Kd.R (Kd.int .i64) 3 w' w.heap.size (fun _ => True) v0_ (twinsL ByteArray.empty zs) ∧ (twinsL ByteArray.empty zs = [] → v0_ = .slice none 0 0) ∧ Below w.heap.size w w' := by
  have HR := Aside0.mk hr
  clear hr
  have hmm := @run_makeMap Tryz.prog
  have hz3 : ∀ w : World, (zeroValue 3).run Tryz.prog w = .ok (.int .i64 0) w := fun w => by kernel_rfl
  have HWF := Aside0.mk hwf0
  have HZ3 := Aside0.mk hz3
  clear hwf0 hz3
  go_enter Tryz.func65, Tryz.ntmps65
  go_wp2
  go_loopg [11] zs.length (fun gg s11 wr => ∃ kk : Nat, kk ≤ zs.length ∧ zs.length - kk ≤ gg ∧ s11 = .int .i64 kk ∧ Aside0 (Below w.heap.size w wr) ∧
      Aside0 (∃ D : DataW Unit, wr.ownsMap Tryz.prog 9 (plainElem Tryz.prog 3) w.heap.size kk D ∧ Counts_string D (zs.take kk)))
  case atStart => exact ⟨0, Nat.zero_le _, by omega, rfl, ⟨below_alloc (Below.refl _ _) _⟩, ⟨⟨_, World.ownsMap_made _ _ _ _, by rw [List.take_zero]; exact counts_string_nil⟩⟩⟩
  case round =>
    obtain ⟨kk, hkk, hg, rfl, BW, HM⟩ := hrel
    by_cases hlt : kk < zs.length
    · have hltz : (kk : Int) < (zs.length : Int) := by omega
      obtain ⟨ad, rfl, hc⟩ := Kd.at_string HR.out (kk : Int) (by omega) (by omega)
      rw [Int.toNat_natCast] at hc
      have hc' := (BW.out.cell (World.block_lt_of_cell? w _ hc)).trans hc
      clear hc
      obtain ⟨D, hown, hC⟩ := HM.out
      clear HM
      obtain ⟨y, hy⟩ : ∃ y, y = rdOf ByteArray.empty zs kk := ⟨_, rfl⟩
      rw [← hy] at hc'
      have hy2 : zs.getD kk ByteArray.empty = y := by rw [hy]; unfold rdOf; simp
      have hwf := HWF.out y (by
        rw [← hy2, List.getD_eq_getElem?_getD, List.getElem?_eq_getElem hlt, Option.getD_some]
        exact List.getElem_mem hlt)
      clear hy
      have hkey := (Go.WideMaps.keyOf_string_mk Tryz.underlying9 hwf)
      obtain ⟨cv, hrun, hat, hwc⟩ := hown.lookup_int (string_keyed Tryz.underlying9) Tryz.underlying158 Tryz.underlying3 (HZ3.out _) hkey
      have hcv : cv = cntL y (zs.take kk) := by
        have h1 := hat.symm.trans (hC.2 y)
        simpa using h1
      have hb := cntL_take_le y zs kk
      rw [← hcv] at hb
      have hb1 := hb.1
      have hb2 : cv ≤ 100000 := by omega
      have HS := Aside0.mk (counts_string_step D zs kk hlt hC y hy2 cv hcv)
      have HOWN := Aside0.mk hown
      have hw2 : (Lit.int .i64 (cv + 1)).wf = true := by
        have : wrap64 (cv + 1) = cv + 1 := by unfold wrap64; omega
        rw [← this]; exact wrap64_wf _
      have HW2 := Aside0.mk hw2
      have HKEY := Aside0.mk hkey
      clear hown hC hat hwc hcv hy2 hwf hb hw2 hkey
      go_wp2_with (at_mapUpdate; refine wpList_mapUpdate_own _ rfl _ _ _ 158 rfl 9 3 (string_keyed Tryz.underlying9) Tryz.underlying158 _ w.heap.size kk _ rfl HOWN.out (by unfold maxLen; omega) _ _ _ rfl rfl HKEY.out _ [] (plainElem_int Tryz.underlying3 HW2.out) ?_; intro w1 hown1 hgrow1; have n0_ := Aside0.mk hown1; have n1_ := Aside0.mk (BW.out.grown hgrow1 BW.out.size (fun j hj => by cases hj; exact Nat.le_refl _)); clear hown1 hgrow1)
      go_roundg (zs.length - (kk + 1))
      case measure => omega
      case rel => exact ⟨kk + 1, by omega, by omega, by go_num, n1_, ⟨⟨_, n0_.out, HS.out⟩⟩⟩
    · have hltz : ¬ (kk : Int) < (zs.length : Int) := by omega
      obtain rfl : kk = zs.length := by omega
      have HM2 := Aside0.mk (show ∃ D : DataW Unit, wr.ownsMap Tryz.prog 9 (plainElem Tryz.prog 3) w.heap.size zs.length D ∧ Counts_string D zs from by have := HM.out; rwa [List.take_length] at this)
      clear HM
      obtain ⟨wo, rfl⟩ : ∃ wo : World, wo = wr := ⟨_, rfl⟩
      go_wp2
      go_loopg [2, 6, 7, 22] zs.length (fun gg s2 _ _ s22 wr => ∃ kk : Nat, kk ≤ zs.length ∧ zs.length - kk ≤ gg ∧ s22 = .int .i64 kk ∧ Aside0 (Below w.heap.size w wr) ∧
          Aside0 (∃ D : DataW Unit, wr.ownsMap Tryz.prog 9 (plainElem Tryz.prog 3) w.heap.size zs.length D ∧ Counts_string D zs) ∧ Aside0 (Kd.R (Kd.int .i64) 3 wr w.heap.size (fun _ => True) s2 (twinsTo ByteArray.empty zs kk)) ∧ Aside0 (twinsTo ByteArray.empty zs kk = [] → s2 = .slice none 0 0))
      case atStart => exact ⟨0, Nat.zero_le _, by omega, rfl, BW, HM2, ⟨Kd.R_nil _ _ _ _ _⟩, ⟨fun _ => rfl⟩⟩
      case round =>
        clear BW HM2
        obtain ⟨kk, hkk, hg2, rfl, BW, HM, HO, HNIL⟩ := hrel
        by_cases hlt : kk < zs.length
        · have hltz : (kk : Int) < (zs.length : Int) := by omega
          obtain ⟨ad, rfl, hc⟩ := Kd.at_string HR.out (kk : Int) (by omega) (by omega)
          rw [Int.toNat_natCast] at hc
          have hc' := (BW.out.cell (World.block_lt_of_cell? w _ hc)).trans hc
          clear hc
          obtain ⟨D, hown, hC⟩ := HM.out
          obtain ⟨y, hy⟩ : ∃ y, y = rdOf ByteArray.empty zs kk := ⟨_, rfl⟩
          rw [← hy] at hc'
          have hy2 : zs.getD kk ByteArray.empty = y := by rw [hy]; unfold rdOf; simp
          have hwf := HWF.out y (by
            rw [← hy2, List.getD_eq_getElem?_getD, List.getElem?_eq_getElem hlt, Option.getD_some]
            exact List.getElem_mem hlt)
          clear hy
          have hkey := (Go.WideMaps.keyOf_string_mk Tryz.underlying9 hwf)
          obtain ⟨cv, hrun, hat, hwc⟩ := hown.lookup_int (string_keyed Tryz.underlying9) Tryz.underlying158 Tryz.underlying3 (HZ3.out _) hkey
          have hcv : cv = cntL y zs := by
            have h1 := hat.symm.trans (hC.2 y)
            simpa using h1
          have hsu := twinsTo_succ ByteArray.empty zs kk
          rw [hy2, ← hcv] at hsu
          have hlen := twinsTo_len ByteArray.empty zs kk
          have HLEN := Aside0.mk hlen
          have hne := own_ne_map HO.out hown
          have HNE := Aside0.mk hne
          clear hown hC hat hwc hcv hy2 hwf hkey hlen hne
          by_cases hgt : 1 < cv
          · rw [if_pos hgt] at hsu
            have HSU := Aside0.mk hsu
            have hgtb : decide (1 < cv) = true := decide_eq_true hgt
            clear hsu hgt
            go_wp2_with (at_builtin; refine Kd.R_append (Kd.int .i64) (w0 := w) w.heap.size rfl (.tmp 31) (.tmp 33) 31 3 (.int .i64 0) 8 rfl Tryz.underlying31 info3 rfl (by decide) (by omega) u2 (twinsTo ByteArray.empty zs kk) (kk : Int) [.int .i64 (kk : Int)] (fun _ => True) (fun _ => False) rfl rfl ?aP (fun _ hk => hk.elim) ?aF ?aO ?aB ?aS ?aL ?_; (case aP => exact rfl); (case aB => exact BW.out); (case aF => exact (fun _ _ => trivial)); (case aO => exact HO.out); (case aS => exact BW.out.size); (case aL => have := HLEN.out; omega); intro v1 w8 ho hb hgr hat; have n0_ := Aside0.mk hb; have n1_ := Aside0.mk ho; have n2_ := Aside0.mk (show ∃ D : DataW Unit, w8.ownsMap Tryz.prog 9 (plainElem Tryz.prog 3) w.heap.size zs.length D ∧ Counts_string D zs from by obtain ⟨D2, h2, h3⟩ := HM.out; exact ⟨D2, h2.kept hgr HNE.out, h3⟩); clear ho hb hgr hat)
            go_roundg (zs.length - (kk + 1))
            case measure => omega
            case rel => exact ⟨kk + 1, by omega, by omega, by go_num, n0_, n2_, ⟨by rw [HSU.out]; exact n1_.out⟩, ⟨fun h => by rw [HSU.out] at h; simp at h⟩⟩
          · rw [if_neg hgt, List.append_nil] at hsu
            have HSU := Aside0.mk hsu
            have hgtb : decide (1 < cv) = false := decide_eq_false hgt
            clear hsu hgt
            go_wp2
            go_roundg (zs.length - (kk + 1))
            case measure => omega
            case rel => exact ⟨kk + 1, by omega, by omega, by go_num, BW, HM, ⟨by rw [HSU.out]; exact HO.out⟩, ⟨fun h => HNIL.out (by rw [HSU.out] at h; exact h)⟩⟩
        · have hltz : ¬ (kk : Int) < (zs.length : Int) := by omega
          obtain rfl : kk = zs.length := by omega
          go_wp2
          go_ret
          exact ⟨_, rfl, HO.out, HNIL.out, BW.out⟩
def Counts_int (D : DataW Unit) (l : List Int) : Prop := IsMap D ∧ ∀ x : Int, D.atKey (Lit.int .i64 x) (.lit (.int .i64 0)) = .lit (.int .i64 (cntL x l))
theorem counts_int_nil : Counts_int (.map []) [] := ⟨isMap_empty, fun x => rfl⟩
theorem counts_int_step (D : DataW Unit) (zs : List Int) (k : Nat) (h : k < zs.length) (hC : Counts_int D (zs.take k)) (y : Int) (hy : zs.getD k (0 : Int) = y) (c : Int) (hc : c = cntL y (zs.take k)) :
    Counts_int (D.put (Lit.int .i64 y) (.lit (.int .i64 (c + 1)))) (zs.take (k + 1)) := by
  refine ⟨hC.1.put _ _, fun x => ?_⟩
  rw [cntL_take x (0 : Int) zs k h, hy]
  by_cases e : y = x
  · subst e
    rw [atKey_put_same hC.1 (by simp [WideAt.IsKeyLit]), if_pos rfl, hc]
  · rw [atKey_put_other (fun h => e (by injection h with _ h1; exact h1.symm)), hC.2 x, if_neg e, Int.add_zero]
set_option maxHeartbeats 4000000 in
set_option maxRecDepth 100000 in
theorem twins_int_any (A : Option Addr) (c : Nat) (zs : List Int) (w : World) (hr : Kd.C (Kd.int .i64) w A zs.length zs) (hsz : zs.length < 100000) (hwf0 : ∀ s ∈ zs, (Lit.int .i64 s).wf = true) :
    Calls Tryz.prog 103 #[.slice A zs.length c] w fun e w' => ∃ v0_ : Value, e = .returned (v0_) ∧ Kd.R (Kd.int .i64) 3 w' w.heap.size (fun _ => True) v0_ (twinsL (0 : Int) zs) ∧ (twinsL (0 : Int) zs = [] → v0_ = .slice none 0 0) ∧ Below w.heap.size w w' := by
  have HR := Aside0.mk hr
  clear hr
  have hmm := @run_makeMap Tryz.prog
  have hz3 : ∀ w : World, (zeroValue 3).run Tryz.prog w = .ok (.int .i64 0) w := fun w => by kernel_rfl
  have HWF := Aside0.mk hwf0
  have HZ3 := Aside0.mk hz3
  clear hwf0 hz3
  go_enter Tryz.func103, Tryz.ntmps103
  go_wp2
  go_loopg [11] zs.length (fun gg s11 wr => ∃ kk : Nat, kk ≤ zs.length ∧ zs.length - kk ≤ gg ∧ s11 = .int .i64 kk ∧ Aside0 (Below w.heap.size w wr) ∧
      Aside0 (∃ D : DataW Unit, wr.ownsMap Tryz.prog 3 (plainElem Tryz.prog 3) w.heap.size kk D ∧ Counts_int D (zs.take kk)))
  case atStart => exact ⟨0, Nat.zero_le _, by omega, rfl, ⟨below_alloc (Below.refl _ _) _⟩, ⟨⟨_, World.ownsMap_made _ _ _ _, by rw [List.take_zero]; exact counts_int_nil⟩⟩⟩
  case round =>
    obtain ⟨kk, hkk, hg, rfl, BW, HM⟩ := hrel
    by_cases hlt : kk < zs.length
    · have hltz : (kk : Int) < (zs.length : Int) := by omega
      obtain ⟨ad, rfl, hc⟩ := Kd.at_int HR.out (kk : Int) (by omega) (by omega)
      rw [Int.toNat_natCast] at hc
      have hc' := (BW.out.cell (World.block_lt_of_cell? w _ hc)).trans hc
      clear hc
      obtain ⟨D, hown, hC⟩ := HM.out
      clear HM
      obtain ⟨y, hy⟩ : ∃ y, y = rd zs kk := ⟨_, rfl⟩
      rw [← hy] at hc'
      have hy2 : zs.getD kk (0 : Int) = y := by rw [hy]; unfold rd; simp
      have hwf := HWF.out y (by
        rw [← hy2, List.getD_eq_getElem?_getD, List.getElem?_eq_getElem hlt, Option.getD_some]
        exact List.getElem_mem hlt)
      clear hy
      have hkey := (keyOf_int_mk Tryz.underlying3 hwf)
      obtain ⟨cv, hrun, hat, hwc⟩ := hown.lookup_int (int_keyed Tryz.underlying3) Tryz.underlying186 Tryz.underlying3 (HZ3.out _) hkey
      have hcv : cv = cntL y (zs.take kk) := by
        have h1 := hat.symm.trans (hC.2 y)
        simpa using h1
      have hb := cntL_take_le y zs kk
      rw [← hcv] at hb
      have hb1 := hb.1
      have hb2 : cv ≤ 100000 := by omega
      have HS := Aside0.mk (counts_int_step D zs kk hlt hC y hy2 cv hcv)
      have HOWN := Aside0.mk hown
      have hw2 : (Lit.int .i64 (cv + 1)).wf = true := by
        have : wrap64 (cv + 1) = cv + 1 := by unfold wrap64; omega
        rw [← this]; exact wrap64_wf _
      have HW2 := Aside0.mk hw2
      have HKEY := Aside0.mk hkey
      clear hown hC hat hwc hcv hy2 hwf hb hw2 hkey
      go_wp2_with (at_mapUpdate; refine wpList_mapUpdate_own _ rfl _ _ _ 186 rfl 3 3 (int_keyed Tryz.underlying3) Tryz.underlying186 _ w.heap.size kk _ rfl HOWN.out (by unfold maxLen; omega) _ _ _ rfl rfl HKEY.out _ [] (plainElem_int Tryz.underlying3 HW2.out) ?_; intro w1 hown1 hgrow1; have n0_ := Aside0.mk hown1; have n1_ := Aside0.mk (BW.out.grown hgrow1 BW.out.size (fun j hj => by cases hj; exact Nat.le_refl _)); clear hown1 hgrow1)
      go_roundg (zs.length - (kk + 1))
      case measure => omega
      case rel => exact ⟨kk + 1, by omega, by omega, by go_num, n1_, ⟨⟨_, n0_.out, HS.out⟩⟩⟩
    · have hltz : ¬ (kk : Int) < (zs.length : Int) := by omega
      obtain rfl : kk = zs.length := by omega
      have HM2 := Aside0.mk (show ∃ D : DataW Unit, wr.ownsMap Tryz.prog 3 (plainElem Tryz.prog 3) w.heap.size zs.length D ∧ Counts_int D zs from by have := HM.out; rwa [List.take_length] at this)
      clear HM
      obtain ⟨wo, rfl⟩ : ∃ wo : World, wo = wr := ⟨_, rfl⟩
      go_wp2
      go_loopg [2, 6, 7, 22] zs.length (fun gg s2 _ _ s22 wr => ∃ kk : Nat, kk ≤ zs.length ∧ zs.length - kk ≤ gg ∧ s22 = .int .i64 kk ∧ Aside0 (Below w.heap.size w wr) ∧
          Aside0 (∃ D : DataW Unit, wr.ownsMap Tryz.prog 3 (plainElem Tryz.prog 3) w.heap.size zs.length D ∧ Counts_int D zs) ∧ Aside0 (Kd.R (Kd.int .i64) 3 wr w.heap.size (fun _ => True) s2 (twinsTo (0 : Int) zs kk)) ∧ Aside0 (twinsTo (0 : Int) zs kk = [] → s2 = .slice none 0 0))
      case atStart => exact ⟨0, Nat.zero_le _, by omega, rfl, BW, HM2, ⟨Kd.R_nil _ _ _ _ _⟩, ⟨fun _ => rfl⟩⟩
      case round =>
        clear BW HM2
        obtain ⟨kk, hkk, hg2, rfl, BW, HM, HO, HNIL⟩ := hrel
        by_cases hlt : kk < zs.length
        · have hltz : (kk : Int) < (zs.length : Int) := by omega
          obtain ⟨ad, rfl, hc⟩ := Kd.at_int HR.out (kk : Int) (by omega) (by omega)
          rw [Int.toNat_natCast] at hc
          have hc' := (BW.out.cell (World.block_lt_of_cell? w _ hc)).trans hc
          clear hc
          obtain ⟨D, hown, hC⟩ := HM.out
          obtain ⟨y, hy⟩ : ∃ y, y = rd zs kk := ⟨_, rfl⟩
          rw [← hy] at hc'
          have hy2 : zs.getD kk (0 : Int) = y := by rw [hy]; unfold rd; simp
          have hwf := HWF.out y (by
            rw [← hy2, List.getD_eq_getElem?_getD, List.getElem?_eq_getElem hlt, Option.getD_some]
            exact List.getElem_mem hlt)
          clear hy
          have hkey := (keyOf_int_mk Tryz.underlying3 hwf)
          obtain ⟨cv, hrun, hat, hwc⟩ := hown.lookup_int (int_keyed Tryz.underlying3) Tryz.underlying186 Tryz.underlying3 (HZ3.out _) hkey
          have hcv : cv = cntL y zs := by
            have h1 := hat.symm.trans (hC.2 y)
            simpa using h1
          have hsu := twinsTo_succ (0 : Int) zs kk
          rw [hy2, ← hcv] at hsu
          have hlen := twinsTo_len (0 : Int) zs kk
          have HLEN := Aside0.mk hlen
          have hne := own_ne_map HO.out hown
          have HNE := Aside0.mk hne
          clear hown hC hat hwc hcv hy2 hwf hkey hlen hne
          by_cases hgt : 1 < cv
          · rw [if_pos hgt] at hsu
            have HSU := Aside0.mk hsu
            have hgtb : decide (1 < cv) = true := decide_eq_true hgt
            clear hsu hgt
            go_wp2_with (at_builtin; refine Kd.R_append (Kd.int .i64) (w0 := w) w.heap.size rfl (.tmp 31) (.tmp 33) 31 3 (.int .i64 0) 8 rfl Tryz.underlying31 info3 rfl (by decide) (by omega) u2 (twinsTo (0 : Int) zs kk) (kk : Int) [.int .i64 (kk : Int)] (fun _ => True) (fun _ => False) rfl rfl ?aP (fun _ hk => hk.elim) ?aF ?aO ?aB ?aS ?aL ?_; (case aP => exact rfl); (case aB => exact BW.out); (case aF => exact (fun _ _ => trivial)); (case aO => exact HO.out); (case aS => exact BW.out.size); (case aL => have := HLEN.out; omega); intro v1 w8 ho hb hgr hat; have n0_ := Aside0.mk hb; have n1_ := Aside0.mk ho; have n2_ := Aside0.mk (show ∃ D : DataW Unit, w8.ownsMap Tryz.prog 3 (plainElem Tryz.prog 3) w.heap.size zs.length D ∧ Counts_int D zs from by obtain ⟨D2, h2, h3⟩ := HM.out; exact ⟨D2, h2.kept hgr HNE.out, h3⟩); clear ho hb hgr hat)
            go_roundg (zs.length - (kk + 1))
            case measure => omega
            case rel => exact ⟨kk + 1, by omega, by omega, by go_num, n0_, n2_, ⟨by rw [HSU.out]; exact n1_.out⟩, ⟨fun h => by rw [HSU.out] at h; simp at h⟩⟩
          · rw [if_neg hgt, List.append_nil] at hsu
            have HSU := Aside0.mk hsu
            have hgtb : decide (1 < cv) = false := decide_eq_false hgt
            clear hsu hgt
            go_wp2
            go_roundg (zs.length - (kk + 1))
            case measure => omega
            case rel => exact ⟨kk + 1, by omega, by omega, by go_num, BW, HM, ⟨by rw [HSU.out]; exact HO.out⟩, ⟨fun h => HNIL.out (by rw [HSU.out] at h; exact h)⟩⟩
        · have hltz : ¬ (kk : Int) < (zs.length : Int) := by omega
          obtain rfl : kk = zs.length := by omega
          go_wp2
          go_ret
          exact ⟨_, rfl, HO.out, HNIL.out, BW.out⟩
end Go.Proofs.YtdjlfdbnmnjccaaGreat.St
end
