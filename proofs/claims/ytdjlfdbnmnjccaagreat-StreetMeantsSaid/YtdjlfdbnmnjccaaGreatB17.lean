/- A part of the proofs of the laws of this seat: the walks of the program's functions, and lemmas. They hold without conditions. -/
import Derived.Test.YtdjlfdbnmnjccaaGreatB14
import Derived.Test.YtdjlfdbnmnjccaaGreatB15
import Derived.Test.YtdjlfdbnmnjccaaGreatB16
set_option linter.all false
set_option linter.unusedSectionVars false
section
set_option linter.unusedVariables false
set_option linter.unusedSimpArgs false
namespace Go.Proofs.YtdjlfdbnmnjccaaGreat.St
open Go.Sort hiding rd
open Go.RowKit Go.Shelf Go.Proofs.YtdjlfdbnmnjccaaGreatW.PrintWords Go.Proofs.YtdjlfdbnmnjccaaGreatW.PrintLast Go.Proofs.YtdjlfdbnmnjccaaGreatW.PrintMore
attribute [local go_sem] Oper.semAt_some
def isMeant (word : ByteArray) (most : Int) (nm : ByteArray) : Bool := decide (faultsV word nm ≤ most)
def evIn (word : ByteArray) (most : Int) (nm : List ByteArray) (E : List Bool) : Nat → List Bool
  | 0 => E
  | i + 1 => (evIn word most nm E i).set i (rdOf false (evIn word most nm E i) (i : Int) && isMeant word most (rdOf ByteArray.empty nm (i : Int)))
def smIn (word : ByteArray) (most : Int) (nm : List ByteArray) (E : List Bool) : Nat → List Bool
  | 0 => E
  | i + 1 => (smIn word most nm E i).set i (rdOf false (smIn word most nm E i) (i : Int) || isMeant word most (rdOf ByteArray.empty nm (i : Int)))
theorem evIn_len (word : ByteArray) (most : Int) (nm : List ByteArray) (E : List Bool) : ∀ i, (evIn word most nm E i).length = E.length
  | 0 => rfl
  | i + 1 => by simp [evIn, evIn_len word most nm E i]
theorem smIn_len (word : ByteArray) (most : Int) (nm : List ByteArray) (E : List Bool) : ∀ i, (smIn word most nm E i).length = E.length
  | 0 => rfl
  | i + 1 => by simp [smIn, smIn_len word most nm E i]
def everyTo (ps : List S167) (word : ByteArray) (lo hi most : Int) (n : Nat) : Nat → List Bool
  | 0 => List.replicate n true
  | k + 1 => if hiOf ps k < lo ∨ hi < (rd_T167 ps k).f0 then everyTo ps word lo hi most n k else evIn word most (rd_T167 ps k).f1 (everyTo ps word lo hi most n k) (rd_T167 ps k).f1.length
def someTo (ps : List S167) (word : ByteArray) (lo hi most : Int) (n : Nat) : Nat → List Bool
  | 0 => List.replicate n false
  | k + 1 => if hiOf ps k < lo ∨ hi < (rd_T167 ps k).f0 then someTo ps word lo hi most n k else smIn word most (rd_T167 ps k).f1 (someTo ps word lo hi most n k) (rd_T167 ps k).f1.length
theorem everyTo_succ (ps : List S167) (word : ByteArray) (lo hi most : Int) (n k : Nat) : everyTo ps word lo hi most n (k + 1) = if hiOf ps k < lo ∨ hi < (rd_T167 ps k).f0 then everyTo ps word lo hi most n k else evIn word most (rd_T167 ps k).f1 (everyTo ps word lo hi most n k) (rd_T167 ps k).f1.length := rfl
theorem someTo_succ (ps : List S167) (word : ByteArray) (lo hi most : Int) (n k : Nat) : someTo ps word lo hi most n (k + 1) = if hiOf ps k < lo ∨ hi < (rd_T167 ps k).f0 then someTo ps word lo hi most n k else smIn word most (rd_T167 ps k).f1 (someTo ps word lo hi most n k) (rd_T167 ps k).f1.length := rfl
theorem everyTo_len (ps : List S167) (word : ByteArray) (lo hi most : Int) (n : Nat) : ∀ k, (everyTo ps word lo hi most n k).length = n
  | 0 => by simp [everyTo]
  | k + 1 => by
    rw [everyTo_succ]
    split
    · exact everyTo_len ps word lo hi most n k
    · rw [evIn_len]; exact everyTo_len ps word lo hi most n k
theorem someTo_len (ps : List S167) (word : ByteArray) (lo hi most : Int) (n : Nat) : ∀ k, (someTo ps word lo hi most n k).length = n
  | 0 => by simp [someTo]
  | k + 1 => by
    rw [someTo_succ]
    split
    · exact someTo_len ps word lo hi most n k
    · rw [smIn_len]; exact someTo_len ps word lo hi most n k
def numbersTo (l : List Bool) : Nat → List Int
  | 0 => []
  | i + 1 => if rdOf false l (i : Int) = true then numbersTo l i ++ [(i : Int)] else numbersTo l i
def meantR (first : List ByteArray) (changes : List S60) (word : ByteArray) (lo hi most : Int) : List Int × List Int × Int :=
  if openE first changes ≠ 0 then ([], [], openE first changes)
  else if isNameB word = false then ([], [], 4)
  else if isHourB lo = false then ([], [], 3)
  else if isHourB hi = false then ([], [], 3)
  else if hi < lo then ([], [], 3)
  else if (decide (0 ≤ most) && decide (most ≤ 3)) = false then ([], [], 3)
  else (numbersTo (everyTo (pagesOf first changes) word lo hi most first.length (pagesOf first changes).length) first.length, numbersTo (someTo (pagesOf first changes) word lo hi most first.length (pagesOf first changes).length) first.length, 0)
def trueTo (n : Nat) : Nat → List Bool
  | 0 => List.replicate n false
  | i + 1 => (trueTo n i).set i true
theorem trueTo_eq (n : Nat) : ∀ i, i ≤ n → trueTo n i = List.replicate i true ++ List.replicate (n - i) false
  | 0, _ => by simp [trueTo]
  | i + 1, h => by
    rw [trueTo, trueTo_eq n i (by omega), List.set_append_right _ _ (by simp), List.length_replicate, Nat.sub_self, show n - i = (n - (i + 1)) + 1 by omega, List.replicate_succ, List.set_cons_zero, List.replicate_succ', List.append_assoc]
    rfl
theorem trueTo_all (n : Nat) : trueTo n n = List.replicate n true := by rw [trueTo_eq n n (Nat.le_refl _)]; simp
theorem trueTo_len (n : Nat) (i : Nat) (h : i ≤ n) : (trueTo n i).length = n := by rw [trueTo_eq n i h]; simp; omega
structure MtI (w W : World) (x0 x1 : Value) (word : ByteArray) (lo hi most : Int) (Bb : Nat) (pv : Value) (ps : List S167) : Prop where
  hb : Below w.heap.size w W
  bt : W.heap[w.heap.size]? = some (.cells #[x0, x1] 25 (0, 0))
  bw : W.heap[w.heap.size + 1]? = some (.cells #[.string word] 9 (0, 0))
  ba : W.heap[w.heap.size + 1 + 1]? = some (.cells #[.int .i64 lo, .int .i64 hi, .int .i64 most] 77 (0, 0))
  bb : W.heap[Bb]? = some (.cells #[x0, x1, pv] 124 (0, 0))
  hp : Kd.R k167 167 W w.heap.size (fun _ => True) pv ps
theorem MtI.below {w W W' : World} {x0 x1 : Value} {word : ByteArray} {lo hi most : Int} {Bb : Nat} {pv : Value} {ps : List S167} (h : MtI w W x0 x1 word lo hi most Bb pv ps) (hb : Below W.heap.size W W') : MtI w W' x0 x1 word lo hi most Bb pv ps :=
  ⟨below_from h.hb hb, blk_below h.bt hb, blk_below h.bw hb, blk_below h.ba hb, blk_below h.bb hb, Kd.R_below h.hp hb⟩
theorem MtI.alloc {w W : World} {x0 x1 : Value} {word : ByteArray} {lo hi most : Int} {Bb : Nat} {pv : Value} {ps : List S167} (h : MtI w W x0 x1 word lo hi most Bb pv ps) (o : Obj) : MtI w (W.alloc o) x0 x1 word lo hi most Bb pv ps :=
  h.below (below_alloc (Below.refl _ _) o)
theorem cut_region {c : Code} {n : Nat} {P : Program} {Q : Exit → Act → World → Prop} {a : Act} {W : World} {σ : Type} (vals : σ → List (Tmp × Value)) (F : σ → World → Prop)
    (h : c.wpIn Fence.wide n P (fun e a' w' => e = .normal ∧ ∃ s, a' = putAll a (vals s) ∧ F s w') a W)
    (k : ∀ s w', F s w' → Q .normal (putAll a (vals s)) w') : c.wpIn Fence.wide n P Q a W :=
  wpIn_mono h (fun e a' w' ⟨he, s, ha, hf⟩ => by subst he; subst ha; exact k s w' hf)
theorem made_R {W : World} {g n : Nat} {base : Nat} {ok : Nat → Prop} (hb : W.heap[g]? = some (.cells (madeCells #[.bool false] n) 4 (0, 0))) (hg : base ≤ g) (hok : ok g) (hn : n ≤ 1000) : Kd.R Kd.bool 4 W base ok (.slice (some ⟨g, 0, none⟩) n n) (List.replicate n false) := by
  refine ⟨fun k hk => by have : g = k := by simpa [Value.ownBlock] using hk
                         subst this; exact hok, (madeCells #[.bool false] n).toList, ?_, ?_⟩
  · refine ⟨by simp [size_madeCells, Kd.bool, Kd.scalar], .inr ⟨g, n, madeCells #[.bool false] n, by simp, hg, hb, by simp, by unfold maxLen; omega, by simp [size_madeCells, Kd.bool, Kd.scalar], ?_⟩⟩
    rw [List.take_of_length_le]
    simp [size_madeCells, Kd.bool, Kd.scalar]
  · have := Kd.reps_made (R := (Kd.bool).M W base (fun k => ok k ∧ some k ≠ (Value.slice (some ⟨g, 0, none⟩) n n).ownBlock)) (z := .bool false) (size := 1) (z0 := false) rfl (by decide) rfl n
    rw [Nat.mul_one] at this
    exact this
theorem infoBool : (Tryz.prog.info? 4).map (fun i => (i.zero, i.size, i.bytes)) = some (some (.bool false), 1, 1) := by kernel_rfl
theorem cell_alloc_drew {W : World} {p : Addr} {v : Value} {o : Obj} (h : W.drew.cell? p = some v) : (W.alloc o).drew.cell? p = some v := cell_alloc (W := W) h o
theorem cell_set_drew {W : World} {p q : Addr} {v u : Value} (hne : q.block ≠ p.block) (h : W.drew.cell? p = some v) : (W.setCell q u).drew.cell? p = some v := (World.cell?_setCell_far W q p u hne).trans h
theorem four_heap (W : World) (o1 o2 o3 o4 : Obj) : ((((W.alloc o1).alloc o2).alloc o3).alloc o4).drew.heap[W.heap.size]? = some o1 ∧ ((((W.alloc o1).alloc o2).alloc o3).alloc o4).drew.heap[W.heap.size + 1]? = some o2 ∧
    ((((W.alloc o1).alloc o2).alloc o3).alloc o4).drew.heap[W.heap.size + 1 + 1]? = some o3 ∧ ((((W.alloc o1).alloc o2).alloc o3).alloc o4).drew.heap[W.heap.size + 1 + 1 + 1]? = some o4 := by
  have h1 := blk_new W o1
  have h2 := blk_new (W.alloc o1) o2
  have h3 := blk_new ((W.alloc o1).alloc o2) o3
  have h4 := blk_new (((W.alloc o1).alloc o2).alloc o3) o4
  simp only [World.size_alloc] at h2 h3 h4
  exact ⟨blk_alloc (blk_alloc (blk_alloc h1 _) _) _, blk_alloc (blk_alloc h2 _) _, blk_alloc h3 _, h4⟩
theorem MtI.set {w W : World} {x0 x1 : Value} {word : ByteArray} {lo hi most : Int} {Bb : Nat} {pv : Value} {ps : List S167} (h : MtI w W x0 x1 word lo hi most Bb pv ps) {g : Nat} {cs : Array Value} (hc : W.heap[g]? = some (.cells cs 4 (0, 0))) (hg : w.heap.size ≤ g) (j : Nat) (u : Value) : MtI w (W.setCell ⟨g, j, none⟩ u) x0 x1 word lo hi most Bb pv ps :=
  ⟨h.hb.setCell (p := ⟨g, j, none⟩) hg _, blk_far h.bt (p := ⟨g, j, none⟩) (blk_ne h.bt hc (by decide)) u, blk_far h.bw (p := ⟨g, j, none⟩) (blk_ne h.bw hc (by decide)) u, blk_far h.ba (p := ⟨g, j, none⟩) (blk_ne h.ba hc (by decide)) u, blk_far h.bb (p := ⟨g, j, none⟩) (blk_ne h.bb hc (by decide)) u, Kd.R_set h.hp hc (by decide) j u⟩
structure MtE (w W : World) (x0 x1 : Value) (word : ByteArray) (lo hi most : Int) (Bb : Nat) (pv : Value) (ps : List S167) (g1 g2 B1 B2 n : Nat) (E S : List Bool) : Prop where
  m : MtI w W x0 x1 word lo hi most Bb pv ps
  p1 : W.heap[B1]? = some (.cells #[.slice (some ⟨g1, 0, none⟩) n n] 144 (0, 0))
  p2 : W.heap[B2]? = some (.cells #[.slice (some ⟨g2, 0, none⟩) n n] 144 (0, 0))
  e : Kd.R Kd.bool 4 W w.heap.size (fun j => j ≠ g2) (.slice (some ⟨g1, 0, none⟩) n n) E
  s : Kd.R Kd.bool 4 W w.heap.size (fun j => j ≠ g1) (.slice (some ⟨g2, 0, none⟩) n n) S
  hg : g1 ≠ g2
section mte
variable {w W W' : World} {x0 x1 : Value} {word : ByteArray} {lo hi most : Int} {Bb : Nat} {pv : Value} {ps : List S167} {g1 g2 B1 B2 n : Nat} {E S : List Bool}
theorem MtE.below (h : MtE w W x0 x1 word lo hi most Bb pv ps g1 g2 B1 B2 n E S) (hb : Below W.heap.size W W') : MtE w W' x0 x1 word lo hi most Bb pv ps g1 g2 B1 B2 n E S :=
  ⟨h.m.below hb, blk_below h.p1 hb, blk_below h.p2 hb, Kd.R_below h.e hb, Kd.R_below h.s hb, h.hg⟩
theorem MtE.alloc (h : MtE w W x0 x1 word lo hi most Bb pv ps g1 g2 B1 B2 n E S) (o : Obj) : MtE w (W.alloc o) x0 x1 word lo hi most Bb pv ps g1 g2 B1 B2 n E S := h.below (below_alloc (Below.refl _ _) o)
theorem MtE.drewN (h : MtE w W x0 x1 word lo hi most Bb pv ps g1 g2 B1 B2 n E S) (k : Nat) : MtE w (W.drewN k) x0 x1 word lo hi most Bb pv ps g1 g2 B1 B2 n E S := h.below (pw_below_drewN (Below.refl _ _) k)
theorem MtE.drew (h : MtE w W x0 x1 word lo hi most Bb pv ps g1 g2 B1 B2 n E S) : MtE w W.drew x0 x1 word lo hi most Bb pv ps g1 g2 B1 B2 n E S := h.below (below_drew (Below.refl _ _))
theorem MtE.setE (h : MtE w W x0 x1 word lo hi most Bb pv ps g1 g2 B1 B2 n E S) (i : Nat) (b : Bool) : MtE w (W.setCell ⟨g1, i, none⟩ (.bool b)) x0 x1 word lo hi most Bb pv ps g1 g2 B1 B2 n (E.set i b) S := by
  obtain ⟨cs, hc⟩ := Kd.R_typed h.e g1 rfl
  have h1 := Kd.R_putn h.e (i : Int) b
  rw [Int.toNat_natCast] at h1
  exact ⟨h.m.set hc (Kd.R_base h.e g1 rfl) _ _, blk_far h.p1 (p := ⟨g1, i, none⟩) (blk_ne h.p1 hc (by decide)) _, blk_far h.p2 (p := ⟨g1, i, none⟩) (blk_ne h.p2 hc (by decide)) _, h1, Kd.R_far (p := ⟨g1, i, none⟩) h.s (fun k hk => hk) _, h.hg⟩
theorem MtE.setS (h : MtE w W x0 x1 word lo hi most Bb pv ps g1 g2 B1 B2 n E S) (i : Nat) (b : Bool) : MtE w (W.setCell ⟨g2, i, none⟩ (.bool b)) x0 x1 word lo hi most Bb pv ps g1 g2 B1 B2 n E (S.set i b) := by
  obtain ⟨cs, hc⟩ := Kd.R_typed h.s g2 rfl
  have h1 := Kd.R_putn h.s (i : Int) b
  rw [Int.toNat_natCast] at h1
  exact ⟨h.m.set hc (Kd.R_base h.s g2 rfl) _ _, blk_far h.p1 (p := ⟨g2, i, none⟩) (blk_ne h.p1 hc (by decide)) _, blk_far h.p2 (p := ⟨g2, i, none⟩) (blk_ne h.p2 hc (by decide)) _, Kd.R_far (p := ⟨g2, i, none⟩) h.e (fun k hk => hk) _, h1, h.hg⟩
theorem MtE.cellE (h : MtE w W x0 x1 word lo hi most Bb pv ps g1 g2 B1 B2 n E S) (i : Nat) (hi : i < n) : W.cell? ⟨g1, i, none⟩ = some (.bool (rdOf false E (i : Int))) ∧ W.frozen? ⟨g1, i, none⟩ = false ∧ g1 < W.heap.size := by
  obtain ⟨cs, hc⟩ := Kd.R_typed h.e g1 rfl
  have h1 := Kd.R_celln false h.e (i : Int) (by omega) (by omega)
  rw [Int.toNat_natCast] at h1
  exact ⟨h1.1, h1.2, blk_lt hc⟩
theorem MtE.cellS (h : MtE w W x0 x1 word lo hi most Bb pv ps g1 g2 B1 B2 n E S) (i : Nat) (hi : i < n) : W.cell? ⟨g2, i, none⟩ = some (.bool (rdOf false S (i : Int))) ∧ W.frozen? ⟨g2, i, none⟩ = false ∧ g2 < W.heap.size := by
  obtain ⟨cs, hc⟩ := Kd.R_typed h.s g2 rfl
  have h1 := Kd.R_celln false h.s (i : Int) (by omega) (by omega)
  rw [Int.toNat_natCast] at h1
  exact ⟨h1.1, h1.2, blk_lt hc⟩
theorem MtE.put (h : MtE w W x0 x1 word lo hi most Bb pv ps g1 g2 B1 B2 n E S) {l : Nat} {o o' : Obj} (hl : w.heap.size ≤ l) (hlo : W.heap[l]? = some o) (ho : o.isCells = false) : MtE w (W.putObj l o') x0 x1 word lo hi most Bb pv ps g1 g2 B1 B2 n E S := by
  have hne : ∀ (j : Nat) (cs : Array Value) (t : Nat), W.heap[j]? = some (.cells cs t (0, 0)) → (W.putObj l o').heap[j]? = some (.cells cs t (0, 0)) := fun j cs t hj => by
    rw [World.putObj_heap_other (fun e => by subst e; rw [hlo] at hj; cases hj; cases ho)]; exact hj
  exact ⟨⟨h.m.hb.grown (grownBy_putObj' W l o') h.m.hb.size (fun j hj => by cases hj; exact hl), hne _ _ _ h.m.bt, hne _ _ _ h.m.bw, hne _ _ _ h.m.ba, hne _ _ _ h.m.bb, R_putObj h.m.hp hlo ho o'⟩, hne _ _ _ h.p1, hne _ _ _ h.p2, R_putObj h.e hlo ho o', R_putObj h.s hlo ho o', h.hg⟩
end mte
theorem numbersTo_succ (l : List Bool) (i : Nat) : numbersTo l (i + 1) = if rdOf false l (i : Int) = true then numbersTo l i ++ [(i : Int)] else numbersTo l i := rfl
theorem numbersTo_len (l : List Bool) : ∀ i, (numbersTo l i).length ≤ i
  | 0 => by simp [numbersTo]
  | i + 1 => by
    have := numbersTo_len l i
    unfold numbersTo
    split
    · simp; omega
    · omega
theorem wrap_succ' {i : Nat} (h : i < 100000) : wrap64 ((i : Int) + 1) = ((i + 1 : Nat) : Int) := by unfold wrap64; omega
theorem numbers_l0 (l : List Bool) (hl : l.length < 100000) : ∀ d i k : Nat, l.length - i = d → i ≤ l.length → d < k →
    street_numbers.l0 k (numbersTo l i) l (l.length : Int) (i : Int) = some (numbersTo l l.length) := by
  intro d
  induction d with
  | zero =>
    intro i k hd hi hk
    obtain ⟨k, rfl⟩ : ∃ m, k = m + 1 := ⟨k - 1, by omega⟩
    obtain rfl : i = l.length := by omega
    simp only [street_numbers.l0]
    rw [if_neg (by omega)]
  | succ d ih =>
    intro i k hd hi hk
    obtain ⟨k, rfl⟩ : ∃ m, k = m + 1 := ⟨k - 1, by omega⟩
    have hd' : l.length - (i + 1) = d := by omega
    have hk' : d < k := by omega
    have hil : i < l.length := by omega
    have hsm := numbersTo_len l i
    have ih' := ih (i + 1) k hd' hil hk'
    simp only [street_numbers.l0]
    rw [if_pos (by omega), if_pos (by omega), if_pos (by omega), wrap_succ' (by omega)]
    rw [numbersTo_succ] at ih'
    by_cases hq : rdOf false l (i : Int) = true
    · rw [if_pos hq] at ih'
      rw [if_pos hq, if_pos (by omega)]
      exact ih'
    · rw [if_neg hq] at ih'
      rw [if_neg hq]
      exact ih'
theorem numbers_f (l : List Bool) (hl : l.length < 100000) : street_numbers.f (l.length + 1) l = some (numbersTo l l.length) := by
  unfold street_numbers.f
  exact numbers_l0 l hl l.length 0 (l.length + 1) (by omega) (by omega) (by omega)
theorem numbers_at {W V : World} {base g n : Nat} {ok : Nat → Prop} {E : List Bool} (h : Kd.R Kd.bool 4 W base ok (.slice (some ⟨g, 0, none⟩) n n) E) (hn : n < 100000) (hb : Below W.heap.size W V) :
    Calls Tryz.prog 84 #[.slice (some ⟨g, 0, none⟩) n n] V fun e w' => ∃ v0_ : Value, e = .returned v0_ ∧ Kd.R (Kd.int .i64) 3 w' V.heap.size (fun _ => True) v0_ (numbersTo E n) ∧ Below V.heap.size V w' := by
  have h1 := Kd.R_below h hb
  obtain ⟨rfl, h2, h3⟩ := Kd.R_reads' h1
  exact street_numbers.calls (E.length + 1) (some ⟨g, 0, none⟩) E.length E (numbersTo E E.length) V h3 h2 (numbers_f E hn)
end Go.Proofs.YtdjlfdbnmnjccaaGreat.St
end
