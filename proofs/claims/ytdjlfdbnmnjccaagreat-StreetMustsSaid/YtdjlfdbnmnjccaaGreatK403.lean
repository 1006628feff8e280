/- A part of the proof of a law of this seat: lemmas that hold without conditions. -/
import Derived.Test.YtdjlfdbnmnjccaaGreatB32
import Derived.Test.YtdjlfdbnmnjccaaGreatK400
import Derived.Test.YtdjlfdbnmnjccaaGreatK401
import Derived.Test.YtdjlfdbnmnjccaaGreatK402
set_option linter.all false
set_option linter.unusedSectionVars false
section
set_option linter.unusedVariables false
set_option linter.unusedSimpArgs false
namespace Go.Proofs.YtdjlfdbnmnjccaaGreat.St
open Go.RowKit Go.Shelf Go.Proofs.YtdjlfdbnmnjccaaGreatW.PrintWords Go.Proofs.YtdjlfdbnmnjccaaGreatW.PrintLast Go.Proofs.YtdjlfdbnmnjccaaGreatW.PrintMore
def sayP (l0 : List ByteArray) (l1 : List S60) (o : S62) : ByteArray := calledP l0 l1 o.f0 o.f1
def wrongP (l0 : List ByteArray) (l1 : List S60) (l : List S62) (k : Nat) : List Int := ((List.range k).filter fun i => decide ((sayP l0 l1 (l.getD i z62)).toList ≠ (l.getD i z62).f2.toList)).map fun i : Nat => (i : Int)
theorem wrongP_succ (l0 : List ByteArray) (l1 : List S60) (l : List S62) (k : Nat) : wrongP l0 l1 l (k + 1) = if (sayP l0 l1 (l.getD k z62)).toList = (l.getD k z62).f2.toList then wrongP l0 l1 l k else wrongP l0 l1 l k ++ [(k : Int)] := by
  unfold wrongP
  rw [List.range_succ, List.filter_append, List.map_append]
  by_cases e : (sayP l0 l1 (l.getD k z62)).toList = (l.getD k z62).f2.toList
  · rw [if_pos e]; simp only [List.filter_cons, List.filter_nil, e, ne_eq, not_true, decide_false, if_neg, Bool.false_eq_true, not_false_eq_true, List.map_nil, List.append_nil]
  · rw [if_neg e]; simp only [List.filter_cons, List.filter_nil, ne_eq, decide_eq_true e, if_true, List.map_cons, List.map_nil]
theorem wrongP_len (l0 : List ByteArray) (l1 : List S60) (l : List S62) (k : Nat) : (wrongP l0 l1 l k).length ≤ k := by
  unfold wrongP
  rw [List.length_map]
  exact Nat.le_trans (List.length_filter_le _ _) (by simp)
theorem orders_ok {n : Int} {l : List S62} (h : ordersE n l = 0) : l.length ≤ 8 ∧ ∀ o ∈ l, isOrderB o n = true := by
  unfold ordersE at h
  split at h
  · cases h
  · split at h
    · cases h
    · rename_i h1 h2
      refine ⟨by omega, fun o ho => ?_⟩
      rw [Bool.not_eq_true, List.any_eq_false] at h2
      simpa using h2 o ho
theorem order_in {n : Int} {o : S62} (h : isOrderB o n = true) : (0 ≤ o.f0 ∧ o.f0 ≤ n - 1) ∧ 0 ≤ o.f1 := by
  unfold isOrderB isHourB at h
  simp only [Bool.and_eq_true, decide_eq_true_eq] at h
  omega
section
variable {l0 : List ByteArray} {l1 : List S60} {l : List S62}
theorem say_eq (h0 : openE l0 l1 = 0) {o : S62} (ho : isOrderB o l0.length = true) : sayOf (pagesOf l0 l1) o = sayP l0 l1 o := by
  obtain ⟨⟨a, b⟩, c⟩ := order_in ho
  unfold sayOf sayP
  rw [pages_names h0 c]
  have e := namesP_rd l0 l1 o.f1 o.f0.toNat (by omega)
  rw [show ((o.f0.toNat : Nat) : Int) = o.f0 by omega] at e
  exact e
theorem wrong_eq (h0 : openE l0 l1 = 0) (ho : ∀ o ∈ l, isOrderB o l0.length = true) (k : Nat) (hk : k ≤ l.length) : wrongTo (pagesOf l0 l1) l k = wrongP l0 l1 l k := by
  unfold wrongTo wrongP
  congr 1
  refine List.filter_congr (fun i hi => ?_)
  rw [List.mem_range] at hi
  have hm : l.getD i z62 ∈ l := by
    rw [List.getD_eq_getElem?_getD, List.getElem?_eq_getElem (by omega), Option.getD_some]
    exact List.getElem_mem _
  rw [say_eq h0 (ho _ hm)]
theorem mustT_open {E : Int} (h : openE l0 l1 = E) (h0 : E ≠ 0) : mustT l0 l1 l = ([], [], E) := by subst h; unfold mustT; rw [if_pos h0]
theorem mustT_bad {E : Int} (h : openE l0 l1 = 0) (hE : ordersE l0.length l = E) (h0 : E ≠ 0) : mustT l0 l1 l = ([], [], E) := by
  subst hE
  unfold mustT mustR
  rw [if_neg (by simp [h])]
  unfold ordersE at *
  split
  · rfl
  · split
    · rfl
    · rename_i h1 h2
      rw [if_neg h1, if_neg h2] at h0
      exact absurd rfl h0
theorem mustR_ok (h : openE l0 l1 = 0) (hE : ordersE l0.length l = 0) : mustR l0.length (pagesOf l0 l1) l = (l.map (sayP l0 l1), wrongP l0 l1 l l.length, 0) := by
  obtain ⟨h1, h2⟩ := orders_ok hE
  unfold mustR
  rw [if_neg (by omega), if_neg ?_, wrong_eq h h2 _ (Nat.le_refl _)]
  · congr 1
    exact List.map_congr_left (fun o ho => say_eq h (h2 o ho))
  · rw [Bool.not_eq_true, List.any_eq_false]
    intro o ho
    simp [h2 o ho]
theorem mustT_ok (h : openE l0 l1 = 0) (hE : ordersE l0.length l = 0) : mustT l0 l1 l = (l.map (sayP l0 l1), wrongP l0 l1 l l.length, 0) := by
  unfold mustT
  rw [if_neg (by simp [h]), mustR_ok h hE]
theorem changedR_open {E : Int} {c : S60} (h : openE l0 l1 = E) (h0 : E ≠ 0) : changedR l0 l1 l c = ([], E) := by subst h; unfold changedR; rw [if_pos h0]
theorem changedR_bad {E : Int} {c : S60} (h : openE l0 l1 = 0) (hE : ordersE l0.length l = E) (h0 : E ≠ 0) : changedR l0 l1 l c = ([], E) := by
  have e := mustT_bad h hE h0
  unfold mustT at e
  rw [if_neg (by simp [h])] at e
  unfold changedR
  rw [if_neg (by simp [h]), e, if_pos h0]
theorem changedR_full {c : S60} (h : openE l0 l1 = 0) (hE : ordersE l0.length l = 0) (h8 : 8 ≤ l1.length) : changedR l0 l1 l c = ([], 8) := by
  unfold changedR
  rw [if_neg (by simp [h]), mustR_ok h hE, if_neg (by simp), if_pos h8]
theorem changedR_arg {c : S60} (h : openE l0 l1 = 0) (hE : ordersE l0.length l = 0) (h8 : ¬ 8 ≤ l1.length) (hc : isChangeB c l0.length = false) : changedR l0 l1 l c = ([], 2) := by
  unfold changedR
  rw [if_neg (by simp [h]), mustR_ok h hE, if_neg (by simp), if_neg h8, if_pos hc]
theorem changedR_with {E : Int} {c : S60} (h : openE l0 l1 = 0) (hE : ordersE l0.length l = 0) (h8 : ¬ 8 ≤ l1.length) (hc : isChangeB c l0.length = true) (hw : openE l0 (l1 ++ [c]) = E) (h0 : E ≠ 0) : changedR l0 l1 l c = ([], E) := by
  subst hw
  unfold changedR
  rw [if_neg (by simp [h]), mustR_ok h hE, if_neg (by simp), if_neg h8, if_neg (by simp [hc]), if_pos h0]
def moreP (a b : List Int) : List Int := b.filter fun i => !(a.any fun j => decide (i = j))
theorem changedR_ok {c : S60} (h : openE l0 l1 = 0) (hE : ordersE l0.length l = 0) (h8 : ¬ 8 ≤ l1.length) (hc : isChangeB c l0.length = true) (hw : openE l0 (l1 ++ [c]) = 0) : changedR l0 l1 l c = (moreP (wrongP l0 l1 l l.length) (wrongP l0 (l1 ++ [c]) l l.length), 0) := by
  unfold changedR moreP
  rw [if_neg (by simp [h]), mustR_ok h hE, if_neg (by simp), if_neg h8, if_neg (by simp [hc]), if_neg (by simp [hw]), mustR_ok hw hE]
end
theorem must_f (l0 : List ByteArray) (l1 : List S60) (l : List S62) (hc : l1.length < 1000) (hl : l.length ≤ 20) (ho : ∀ o ∈ l, isOrderB o l0.length = true) (k : Nat) (hk : 100 ≤ k) : smaltoref08_Must.f k l0 l1 l = some (l.map (sayP l0 l1), wrongP l0 l1 l l.length) := by
  unfold smaltoref08_Must.f
  have key : ∀ (d i k : Nat), i + d = l.length → d < k → smaltoref08_Must.l0 k l ((l.take i).map (sayP l0 l1)) (wrongP l0 l1 l i) i l0 l1 = some (l.map (sayP l0 l1), wrongP l0 l1 l l.length) := by
    intro d
    induction d with
    | zero =>
      intro i k hd hk
      obtain ⟨k, rfl⟩ : ∃ j, k = j + 1 := ⟨k - 1, by omega⟩
      obtain rfl : i = l.length := by omega
      unfold smaltoref08_Must.l0
      rw [if_neg (by omega), List.take_length]
    | succ d ih =>
      intro i k hd hk
      obtain ⟨k, rfl⟩ : ∃ j, k = j + 1 := ⟨k - 1, by omega⟩
      have hi : i < l.length := by omega
      obtain ⟨y, hy⟩ : ∃ y, rd_T62 l (i : Int) = y := ⟨_, rfl⟩
      have hyg : l.getD i z62 = y := by rw [← hy]; unfold rd_T62; rw [Int.toNat_natCast]
      have hyl : l[i] = y := by rw [← hyg, List.getD_eq_getElem?_getD, List.getElem?_eq_getElem hi, Option.getD_some]
      obtain ⟨⟨a, b⟩, c⟩ := order_in (ho y (by rw [← hyl]; exact List.getElem_mem hi))
      have hcal : smaltoref08_Called.f l0 l1 y.f0 y.f1 = some (sayP l0 l1 y) := by
        have := called_f l0 l1 (by omega) y.f0.toNat (by omega) y.f1
        rw [show ((y.f0.toNat : Nat) : Int) = y.f0 by omega] at this
        exact this
      have hlen : ((l.take i).map (sayP l0 l1)).length = i := by simp; omega
      have hwl := wrongP_len l0 l1 l i
      have htk : (l.take (i + 1)).map (sayP l0 l1) = (l.take i).map (sayP l0 l1) ++ [sayP l0 l1 y] := by rw [List.take_succ_eq_append_getElem hi, List.map_append, hyl]; rfl
      have hrd : rdOf ByteArray.empty ((l.take i).map (sayP l0 l1) ++ [sayP l0 l1 y]) (i : Int) = sayP l0 l1 y := by
        rw [rdOf_at (by simp; omega)]
        rw [List.getElem_append_right (by omega)]
        simp
      have ih2 := ih (i + 1) k (by omega) (by omega)
      rw [htk, wrongP_succ, hyg] at ih2
      unfold smaltoref08_Must.l0
      rw [if_pos (by omega), if_pos (by omega), hy, hcal, Option.bind_some, if_pos (by omega), Option.bind_some, if_pos (by rw [List.length_append]; simp; omega), hrd, w64 (by omega)]
      by_cases e : (sayP l0 l1 y).toList = y.f2.toList
      · rw [if_pos e]
        rw [if_pos e] at ih2
        exact ih2
      · rw [if_neg e, if_pos (by omega)]
        rw [if_neg e] at ih2
        exact ih2
  exact key l.length 0 k (by omega) (by omega)
theorem has_f (l : List Int) (n : Int) (hl : l.length < 1000) (k : Nat) (hk : l.length < k) : smaltoref08_Has.f k l n = some (l.any fun j => decide (n = j)) := by
  unfold smaltoref08_Has.f
  have key : ∀ (d i k : Nat), i + d = l.length → d < k → smaltoref08_Has.l0 k l n i = some ((l.drop i).any fun j => decide (n = j)) := by
    intro d
    induction d with
    | zero =>
      intro i k hd hk
      obtain ⟨k, rfl⟩ : ∃ j, k = j + 1 := ⟨k - 1, by omega⟩
      unfold smaltoref08_Has.l0
      rw [if_neg (by omega), List.drop_of_length_le (by omega)]
      rfl
    | succ d ih =>
      intro i k hd hk
      obtain ⟨k, rfl⟩ : ∃ j, k = j + 1 := ⟨k - 1, by omega⟩
      have hi : i < l.length := by omega
      unfold smaltoref08_Has.l0
      rw [if_pos (by omega), if_pos (by omega), w64 (by omega), List.drop_eq_getElem_cons hi, List.any_cons, rd_at hi]
      by_cases e : l[i] = n
      · rw [if_pos e, decide_eq_true e.symm, Bool.true_or]
      · rw [if_neg e, decide_eq_false (fun h => e h.symm), Bool.false_or]
        exact ih (i + 1) k (by omega) (by omega)
  exact key l.length 0 k (by omega) hk
theorem with_f (l0 : List ByteArray) (l1 : List S60) (hf : l0.length ≤ 20) (hc : l1.length ≤ 20) (c : S60) : smaltoref08_With.f l0 l1 c.f0 c.f1 c.f2 = some (l0, l1 ++ [c]) := by
  unfold smaltoref08_With.f
  rw [copy_self l0 l1 (by omega) (by omega), Option.bind_some, if_pos (show l1.length < 4398046511104 by omega)]
theorem moreP_succ (a b : List Int) (k : Nat) (hk : k < b.length) : moreP a (b.take (k + 1)) = if (a.any fun j => decide (b[k] = j)) = true then moreP a (b.take k) else moreP a (b.take k) ++ [b[k]] := by
  unfold moreP
  rw [List.take_succ_eq_append_getElem hk, List.filter_append]
  by_cases e : (a.any fun j => decide (b[k] = j)) = true
  · rw [if_pos e]; simp [e]
  · rw [if_neg e]; simp [e]
theorem moreP_len (a b : List Int) : (moreP a b).length ≤ b.length := List.length_filter_le _ _
theorem musG (A0 : Option Addr) (c0 : Nat) (l0 : List ByteArray) (A1 : Option Addr) (c1 : Nat) (l1 : List S60) (A2 : Option Addr) (c2 : Nat) (l : List S62) (w : World) (T : TwC w A0 c0 l0 A1 c1 l1) (L : LC k62 w A2 c2 l) {m1 : List ByteArray} {m2 : List Int} {m3 : Int} (h : mustT l0 l1 l = (m1, m2, m3)) :
    Calls Tryz.prog 31 #[.agg #[.slice A0 l0.length c0, .slice A1 l1.length c1], .slice A2 l.length c2] w fun e w' => ∃ R0 d0 R1 d1, e = .returned (.tuple #[.slice R0 m1.length d0, .slice R1 m2.length d1, .int .i64 m3]) ∧ Aside0 (LC Kd.string w' R0 d0 m1) ∧ Aside0 (LC (Kd.int .i64) w' R1 d1 m2) ∧ Aside0 (Below w.heap.size w w') := by
  refine (street_Must.calls A0 c0 l0 A1 c1 l1 A2 c2 l m1 m2 m3 w T.f.kc T.f.kn T.g.kc T.g.kn L.kc L.kn (congrArg some h)).mono ?_
  rintro e w' ⟨v0, v1, rfl, h0, h1, hb⟩
  obtain ⟨R0, d0, rfl, k0⟩ := LC.of h0
  obtain ⟨R1, d1, rfl, k1⟩ := LC.of h1
  exact ⟨R0, d0, R1, d1, rfl, ⟨k0⟩, ⟨k1⟩, ⟨hb⟩⟩
theorem chaG (A0 : Option Addr) (c0 : Nat) (l0 : List ByteArray) (A1 : Option Addr) (c1 : Nat) (l1 : List S60) (A2 : Option Addr) (c2 : Nat) (l : List S62) (c : S60) (w : World) (T : TwC w A0 c0 l0 A1 c1 l1) (L : LC k62 w A2 c2 l) {m1 : List Int} {m2 : Int} (h : changedR l0 l1 l c = (m1, m2)) :
    Calls Tryz.prog 32 #[.agg #[.slice A0 l0.length c0, .slice A1 l1.length c1], .slice A2 l.length c2, .agg #[.int .i64 c.f0, .int .i64 c.f1, .string c.f2]] w fun e w' => ∃ R0 d0, e = .returned (.tuple #[.slice R0 m1.length d0, .int .i64 m2]) ∧ Aside0 (LC (Kd.int .i64) w' R0 d0 m1) ∧ Aside0 (Below w.heap.size w w') := by
  refine (street_Changed.calls A0 c0 l0 A1 c1 l1 A2 c2 l c.f0 c.f1 c.f2 m1 m2 w T.f.kc T.f.kn T.g.kc T.g.kn L.kc L.kn (congrArg some h)).mono ?_
  rintro e w' ⟨v0, rfl, h0, hb⟩
  obtain ⟨R0, d0, rfl, k0⟩ := LC.of h0
  exact ⟨R0, d0, rfl, ⟨k0⟩, ⟨hb⟩⟩
theorem musRG (A0 : Option Addr) (c0 : Nat) (l0 : List ByteArray) (A1 : Option Addr) (c1 : Nat) (l1 : List S60) (A2 : Option Addr) (c2 : Nat) (l : List S62) (w : World) (T : TwC w A0 c0 l0 A1 c1 l1) (L : LC k62 w A2 c2 l) (hc : l1.length < 1000) (hl : l.length ≤ 20) (ho : ∀ o ∈ l, isOrderB o l0.length = true) {m1 : List ByteArray} {m2 : List Int} (h1 : l.map (sayP l0 l1) = m1) (h2 : wrongP l0 l1 l l.length = m2) :
    Calls Tryz.prog 34 #[.agg #[.slice A0 l0.length c0, .slice A1 l1.length c1], .slice A2 l.length c2] w fun e w' => ∃ R0 d0 R1 d1, e = .returned (.tuple #[.slice R0 m1.length d0, .slice R1 m2.length d1]) ∧ Aside0 (LC Kd.string w' R0 d0 m1) ∧ Aside0 (LC (Kd.int .i64) w' R1 d1 m2) ∧ Aside0 (Below w.heap.size w w') := by
  subst h1 h2
  refine (smaltoref08_Must.calls 100 A0 c0 l0 A1 c1 l1 A2 c2 l _ _ w T.f.kc T.f.kn T.g.kc T.g.kn L.kc L.kn (must_f l0 l1 l hc hl ho 100 (Nat.le_refl _))).mono ?_
  rintro e w' ⟨v0, v1, rfl, h0, h1, hb⟩
  obtain ⟨R0, d0, rfl, k0⟩ := LC.of h0
  obtain ⟨R1, d1, rfl, k1⟩ := LC.of h1
  exact ⟨R0, d0, R1, d1, rfl, ⟨k0⟩, ⟨k1⟩, ⟨hb⟩⟩
theorem withG (A0 : Option Addr) (c0 : Nat) (l0 : List ByteArray) (A1 : Option Addr) (c1 : Nat) (l1 : List S60) (c : S60) (w : World) (T : TwC w A0 c0 l0 A1 c1 l1) (S : Small l0 l1) {lc : List S60} (e : l1 ++ [c] = lc) :
    Calls Tryz.prog 36 #[.agg #[.slice A0 l0.length c0, .slice A1 l1.length c1], .agg #[.int .i64 c.f0, .int .i64 c.f1, .string c.f2]] w fun e w' => ∃ B d B' d', e = .returned (.agg #[.slice B l0.length d, .slice B' lc.length d']) ∧ Aside0 (TwC w' B d l0 B' d' lc) ∧ Aside0 (Below w.heap.size w w') := by
  subst e
  refine (smaltoref08_With.calls A0 c0 l0 A1 c1 l1 c.f0 c.f1 c.f2 l0 (l1 ++ [c]) w T.f.kc T.f.kn T.g.kc T.g.kn (with_f l0 l1 S.n0 S.n1 c)).mono ?_
  rintro e w' ⟨v0, v1, rfl, h0, h1, hb⟩
  obtain ⟨B, d, rfl, k0⟩ := LC.of h0
  obtain ⟨B', d', rfl, k1⟩ := LC.of h1
  exact ⟨B, d, B', d', rfl, ⟨⟨k0, k1⟩⟩, ⟨hb⟩⟩
theorem hasG (A : Option Addr) (c : Nat) (l : List Int) (n : Int) (w : World) (L : LC (Kd.int .i64) w A c l) (hl : l.length < 1000) : Calls Tryz.prog 37 #[.slice A l.length c, .int .i64 n] w fun e w' => e = .returned (.bool (l.any fun j => decide (n = j))) ∧ Aside0 (Below w.heap.size w w') :=
  (smaltoref08_Has.calls (l.length + 1) A c l n _ w L.kc L.kn (has_f l n hl _ (Nat.lt_succ_self _))).mono fun e w' ⟨h, hb⟩ => ⟨h, ⟨hb.below⟩⟩
theorem changeIsG (c : S60) (n : Nat) (hn : n < 100000) (hs : c.f2.size ≤ 40) {r : Bool} (h : isChangeB c n = r) (w : World) : Calls Tryz.prog 35 #[.agg #[.int .i64 c.f0, .int .i64 c.f1, .string c.f2], .int .i64 n] w fun e w' => e = .returned (.bool r) ∧ Aside0 (Below w.heap.size w w') :=
  (smaltoref08_Change.calls 4000 c.f0 c.f1 c.f2 n r w ((change_f c n hn (by omega) 4000 (by omega)).trans (congrArg some h))).mono fun e w' ⟨h, hb⟩ => ⟨h, ⟨hb⟩⟩
theorem textsG (A : Option Addr) (c : Nat) (B : Option Addr) (d : Nat) (l : List ByteArray) (w : World) (L : LC Kd.string w A c l) (L' : LC Kd.string w B d l) (hl : l.length < 100000) : Calls Tryz.prog 27 #[.slice A l.length c, .slice B l.length d] w fun e w' => e = .returned (.bool true) ∧ Aside0 (Below w.heap.size w w') :=
  (smaltoref08_Texts.calls (l.length + 1) A c l B d l true w L.kc L.kn L'.kc L'.kn (texts_self l hl _ (Nat.lt_succ_self _))).mono fun e w' ⟨h, hb⟩ => ⟨h, ⟨hb.below⟩⟩
theorem intsG (A : Option Addr) (c : Nat) (B : Option Addr) (d : Nat) (l : List Int) (w : World) (L : LC (Kd.int .i64) w A c l) (L' : LC (Kd.int .i64) w B d l) (hl : l.length < 100000) : Calls Tryz.prog 18 #[.slice A l.length c, .slice B l.length d] w fun e w' => e = .returned (.bool true) ∧ Aside0 (Below w.heap.size w w') :=
  (smaltoref08_Ints.calls (l.length + 1) A c l B d l true w L.kc L.kn L'.kc L'.kn (ints_self l hl _ (Nat.lt_succ_self _))).mono fun e w' ⟨h, hb⟩ => ⟨h, ⟨hb.below⟩⟩
end Go.Proofs.YtdjlfdbnmnjccaaGreat.St
end
section
set_option linter.unusedVariables false
set_option linter.unusedSimpArgs false
namespace Go.Proofs.YtdjlfdbnmnjccaaGreat.St
open Go.RowKit Go.Shelf Go.Proofs.YtdjlfdbnmnjccaaGreatW.PrintWords Go.Proofs.YtdjlfdbnmnjccaaGreatW.PrintLast Go.Proofs.YtdjlfdbnmnjccaaGreatW.PrintMore
theorem copyRR {A : Option Addr} {c : Nat} {l0 : List ByteArray} {A' : Option Addr} {c' : Nat} {l1 : List S60} (S : Small l0 l1) (w : World) (T : TwC w A c l0 A' c' l1) : Calls Tryz.prog 12 #[.agg #[.slice A l0.length c, .slice A' l1.length c']] w fun e w' =>
    ∃ B d B' d', e = .returned (.agg #[.slice B l0.length d, .slice B' l1.length d']) ∧ Aside0 (TwR w' w.heap.size B d l0 B' d' l1) ∧ Aside0 (Below w.heap.size w w') := by
  refine (smaltoref08_Copy.calls A c l0 A' c' l1 l0 l1 w T.f.kc T.f.kn T.g.kc T.g.kn (copy_self l0 l1 (by have := S.n0; omega) (by have := S.n1; omega))).mono ?_
  rintro e w' ⟨v0, v1, rfl, h0, h1, hb⟩
  obtain ⟨B, d, rfl⟩ := Kd.R_slice h0
  obtain ⟨B', d', rfl⟩ := Kd.R_slice h1
  exact ⟨B, d, B', d', rfl, ⟨⟨h0, h1⟩⟩, ⟨hb⟩⟩
end Go.Proofs.YtdjlfdbnmnjccaaGreat.St
end
