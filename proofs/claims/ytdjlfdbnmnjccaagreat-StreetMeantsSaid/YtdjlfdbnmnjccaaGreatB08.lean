/- A part of the proofs of the laws of this seat: the walks of the program's functions, and lemmas. They hold without conditions. -/
import Derived.Test.YtdjlfdbnmnjccaaGreatB05
import Derived.Test.YtdjlfdbnmnjccaaGreatB07
set_option linter.all false
set_option linter.unusedSectionVars false
section
set_option linter.unusedVariables false
set_option linter.unusedSimpArgs false
namespace Go.Proofs.YtdjlfdbnmnjccaaGreat.St
open Go.Sort hiding rd
open Go.RowKit Go.Shelf Go.Proofs.YtdjlfdbnmnjccaaGreatW.PrintWords Go.Proofs.YtdjlfdbnmnjccaaGreatW.PrintLast Go.Proofs.YtdjlfdbnmnjccaaGreatW.PrintMore
def setNames (ns : List ByteArray) (g : List S60) : List ByteArray := g.foldl (fun ns c => ns.set c.f1.toNat c.f2) ns
def clashOf (changed : List Int) (ns : List ByteArray) : List Int :=
  if twinsL (0 : Int) changed = [] then twinsL ByteArray.empty ns else (twinsL (0 : Int) changed).map fun i => rd changed i
def bookFrom : Nat → List ByteArray → List S60 → List S167 → List S167 × Int × List Int
  | 0, _, _, ps => (ps, 0, [])
  | _ + 1, _, [], ps => (ps, 0, [])
  | n + 1, ns, c :: cs, ps =>
    if clashOf (((c :: cs).takeWhile fun d => decide (d.f0 = c.f0)).map (·.f1)) (setNames ns ((c :: cs).takeWhile fun d => decide (d.f0 = c.f0))) = [] then
      bookFrom n (setNames ns ((c :: cs).takeWhile fun d => decide (d.f0 = c.f0))) ((c :: cs).dropWhile fun d => decide (d.f0 = c.f0)) (ps ++ [⟨c.f0, setNames ns ((c :: cs).takeWhile fun d => decide (d.f0 = c.f0))⟩])
    else (ps, c.f0, Lib.compact (sortI (clashOf (((c :: cs).takeWhile fun d => decide (d.f0 = c.f0)).map (·.f1)) (setNames ns ((c :: cs).takeWhile fun d => decide (d.f0 = c.f0))))))
def bookOf (first : List ByteArray) (changes : List S60) : List S167 × Int × List Int :=
  bookFrom (changes.length + 1) first (sortC changes) [⟨0, first⟩]
structure BkI (w wr : World) (x0 x1 v5 : Value) (zs : List S60) (pv : Value) (ps : List S167) : Prop where
  hb : Below w.heap.size w wr
  bb : wr.heap[w.heap.size + 1]? = some (.cells #[x0, x1, pv] 124 (0, 0))
  h5 : Kd.R k60 60 wr w.heap.size (fun _ => True) v5 zs
  hp : Kd.R k167 167 wr w.heap.size (fun _ => True) pv ps
structure BkP (first : List ByteArray) (changes : List S60) (ns : List ByteArray) (rest : List S60) (ps : List S167) : Prop where
  hn : ns.length = first.length
  hs : ∀ s ∈ ns, s.size ≤ 10
  hr : ∀ c ∈ rest, isChangeB c first.length = true
  hl : ps.length + rest.length ≤ 20
  he : ∃ n, rest.length < n ∧ bookFrom n ns rest ps = bookOf first changes
theorem BkI.put {w wr : World} {x0 x1 v5 pv : Value} {zs : List S60} {ps : List S167} (h : BkI w wr x0 x1 v5 zs pv ps) (j : Nat) (u : Value) (e : #[x0, x1, pv].setIfInBounds j u = #[x0, x1, pv]) : BkI w (wr.setCell ⟨w.heap.size + 1, j, none⟩ u) x0 x1 v5 zs pv ps :=
  ⟨h.hb.setCell (p := ⟨w.heap.size + 1, j, none⟩) (by simp) _, blk_put h.bb j u e, Kd.R_set h.h5 h.bb (by decide) j _, Kd.R_set h.hp h.bb (by decide) j _⟩
theorem BkI.self {w wr : World} {x0 x1 v5 pv : Value} {zs : List S60} {ps : List S167} (h : BkI w wr x0 x1 v5 zs pv ps) :
    BkI w (((wr.setCell ⟨w.heap.size + 1, 0, none⟩ x0).setCell ⟨w.heap.size + 1, 1, none⟩ x1).setCell ⟨w.heap.size + 1, 2, none⟩ pv) x0 x1 v5 zs pv ps :=
  ((h.put 0 x0 rfl).put 1 x1 rfl).put 2 pv rfl
theorem head_cells {W : World} {A : Option Addr} {n : Nat} {c : S60} {cs : List S60} (h : Kd.C k60 W A n (c :: cs)) (hn : 0 < n) :
    ∃ ad, A = some ad ∧ W.cell? ad = some (.int .i64 c.f0) ∧ W.cell? ⟨ad.block, ad.off + 1, none⟩ = some (.int .i64 c.f1) ∧ W.cell? ⟨ad.block, ad.off + 2, none⟩ = some (.string c.f2) := by
  obtain ⟨ad, e, h0, h1, h2⟩ := at_T60 h 0 (Int.le_refl 0) (by omega)
  have e0 : ad.add (Int.toNat 0 * 3) = ad := by simp [Addr.add]
  rw [e0] at h0 h1 h2
  exact ⟨ad, e, h0, h1, h2⟩
theorem BkI.drew {w wr : World} {x0 x1 v5 pv : Value} {zs : List S60} {ps : List S167} (h : BkI w wr x0 x1 v5 zs pv ps) : BkI w wr.drew x0 x1 v5 zs pv ps :=
  ⟨below_drew h.hb, h.bb, Kd.R_drew h.h5, Kd.R_drew h.hp⟩
theorem BkI.below {w wr w1 : World} {x0 x1 v5 pv : Value} {zs : List S60} {ps : List S167} (h : BkI w wr x0 x1 v5 zs pv ps) (hb : Below wr.heap.size wr w1) : BkI w w1 x0 x1 v5 zs pv ps :=
  ⟨below_from h.hb hb, blk_below h.bb hb, Kd.R_below h.h5 hb, Kd.R_below h.hp hb⟩
theorem BkI.name {w wr : World} {x0 x1 v5 pv : Value} {zs : List S60} {ps : List S167} (h : BkI w wr x0 x1 v5 zs pv ps) {g n c : Nat} {ns : List ByteArray}
    (hn : Kd.R Kd.string 9 wr w.heap.size (fun _ => True) (.slice (some ⟨g, 0, none⟩) n c) ns) (hp : Kd.R k167 167 wr w.heap.size (fun k => True ∧ some k ≠ (Value.slice (some ⟨g, 0, none⟩) n c).ownBlock) pv ps) (j : Nat) (u : Value) :
    BkI w (wr.setCell ⟨g, j, none⟩ u) x0 x1 v5 zs pv ps ∧ Kd.R k167 167 (wr.setCell ⟨g, j, none⟩ u) w.heap.size (fun k => True ∧ some k ≠ (Value.slice (some ⟨g, 0, none⟩) n c).ownBlock) pv ps := by
  obtain ⟨cells, hc⟩ := Kd.R_typed hn g rfl
  have hp' := Kd.R_far (p := ⟨g, j, none⟩) hp (fun k hk e => hk.2 (by simp [Value.ownBlock]; exact e)) u
  exact ⟨⟨h.hb.setCell (p := ⟨g, j, none⟩) (Kd.R_base hn g rfl) _, blk_far h.bb (p := ⟨g, j, none⟩) (blk_ne h.bb hc (by decide)) u, Kd.R_set h.h5 hc (by decide) j u, Kd.R_mono hp' (fun _ _ => trivial)⟩, hp'⟩
theorem BkI.ints {w wr w1 : World} {x0 x1 v5 pv v : Value} {zs : List S60} {ps : List S167} (h : BkI w wr x0 x1 v5 zs pv ps) {base : Nat} {ok : Nat → Prop} {xs : List Int}
    (hv : Kd.R (Kd.int .i64) 3 wr base ok v xs) (hb : Below w.heap.size w w1) (hg : wr.grownBy w1 v.ownBlock) : BkI w w1 x0 x1 v5 zs pv ps :=
  ⟨hb, blk_grown h.bb hg (Kd.R_ne hv h.bb (by decide)), Kd.R_over h.h5 hv (by decide) hg, Kd.R_over h.hp hv (by decide) hg⟩
theorem BkI.grow {w wr w1 : World} {x0 x1 v5 pv : Value} {zs : List S60} {ps : List S167} (h : BkI w wr x0 x1 v5 zs pv ps) {ok : Nat → Prop} {g n c : Nat} {xs : List Int}
    (hv : Kd.R (Kd.int .i64) 3 wr w.heap.size ok (.slice (some ⟨g, 0, none⟩) n c) xs) (hg : wr.grownBy w1 (Value.slice (some ⟨g, 0, none⟩) n c).ownBlock) : BkI w w1 x0 x1 v5 zs pv ps :=
  h.ints hv (h.hb.grown hg h.hb.size (fun j hj => by cases hj; exact Kd.R_base hv g rfl)) hg
theorem BkI.cells {w wr : World} {x0 x1 v5 pv : Value} {zs : List S60} {ps : List S167} (h : BkI w wr x0 x1 v5 zs pv ps) :
    (wr.cell? ⟨w.heap.size + 1, 0, none⟩ = some x0 ∧ wr.cell? ⟨w.heap.size + 1, 1, none⟩ = some x1 ∧ wr.cell? ⟨w.heap.size + 1, 2, none⟩ = some pv) ∧
    (wr.frozen? ⟨w.heap.size + 1, 0, none⟩ = false ∧ wr.frozen? ⟨w.heap.size + 1, 1, none⟩ = false ∧ wr.frozen? ⟨w.heap.size + 1, 2, none⟩ = false) ∧ w.heap.size + 1 < wr.heap.size :=
  ⟨⟨(blk_cell h.bb 0).trans rfl, (blk_cell h.bb 1).trans rfl, (blk_cell h.bb 2).trans rfl⟩, ⟨blk_frozen h.bb 0, blk_frozen h.bb 1, blk_frozen h.bb 2⟩, blk_lt h.bb⟩
theorem BkI.selfI {w wr : World} {x0 x1 v5 pv v : Value} {zs : List S60} {ps : List S167} (h : BkI w wr x0 x1 v5 zs pv ps) {base : Nat} {ok : Nat → Prop} {xs : List Int}
    (hv : Kd.R (Kd.int .i64) 3 wr base ok v xs) : Kd.R (Kd.int .i64) 3 (((wr.setCell ⟨w.heap.size + 1, 0, none⟩ x0).setCell ⟨w.heap.size + 1, 1, none⟩ x1).setCell ⟨w.heap.size + 1, 2, none⟩ pv) base ok v xs :=
  Kd.R_set (Kd.R_set (Kd.R_set hv h.bb (by decide) 0 _) (h.put 0 x0 rfl).bb (by decide) 1 _) ((h.put 0 x0 rfl).put 1 x1 rfl).bb (by decide) 2 _
theorem setNames_snoc (ns : List ByteArray) (dn : List S60) (d : S60) : setNames ns (dn ++ [d]) = (setNames ns dn).set d.f1.toNat d.f2 := by
  simp [setNames]
theorem tail_reads {W : World} {ad : Addr} {c : Nat} {d : S60} {ds : List S60} (h : Kd.C k60 W (some ad) (d :: ds).length (d :: ds)) (hc : (d :: ds).length ≤ c) :
    (c = 1 → Kd.C k60 W (some ad) ds.length ds) ∧ (c ≠ 1 → Kd.C k60 W (some ⟨ad.block, ad.off + 3, none⟩) ds.length ds) := by
  have h1 := Kd.C_drop (m := 1) h (by simp) hc
  refine ⟨fun e => ?_, fun e => ?_⟩
  · rw [if_pos e] at h1; exact h1
  · rw [if_neg e] at h1
    have e2 : (some ad).map (fun a : Addr => a.add (1 * k60.sz)) = some ⟨ad.block, ad.off + 3, none⟩ := rfl
    rw [e2] at h1
    exact h1
theorem span_eq {α : Type} (p : α → Bool) (dn rem : List α) (h1 : ∀ d ∈ dn, p d = true) (h2 : ∀ d ds, rem = d :: ds → p d = false) : (dn ++ rem).takeWhile p = dn ∧ (dn ++ rem).dropWhile p = rem := by
  induction dn with
  | nil =>
    cases rem with
    | nil => exact ⟨rfl, rfl⟩
    | cons d ds => simp [List.takeWhile_cons, List.dropWhile_cons, h2 d ds rfl]
  | cons d dn ih =>
    obtain ⟨i1, i2⟩ := ih (fun x hx => h1 x (by simp [hx]))
    simp [List.takeWhile_cons, List.dropWhile_cons, h1 d (by simp), i1, i2]
theorem twinsL_mem {α : Type} [DecidableEq α] (z : α) (l : List α) (i : Int) (h : i ∈ twinsL z l) : 0 ≤ i ∧ i < l.length := by
  unfold twinsL twinsTo at h
  simp only [List.mem_map, List.mem_filter, List.mem_range] at h
  obtain ⟨k, ⟨hk, _⟩, rfl⟩ := h
  omega
theorem wf_small (x : Int) (h0 : 0 ≤ x) (h1 : x < 100000) : (Lit.int .i64 x).wf = true := by
  have : wrap64 x = x := by unfold wrap64; omega
  rw [← this]; exact wrap64_wf _
theorem setNames_len (ns : List ByteArray) (g : List S60) : (setNames ns g).length = ns.length := by
  unfold setNames
  induction g generalizing ns with
  | nil => rfl
  | cons d g ih => simp only [List.foldl_cons]; rw [ih]; simp
theorem setNames_small (ns : List ByteArray) (g : List S60) (n : Int) (h : ∀ s ∈ ns, s.size ≤ 10) (hg : ∀ c ∈ g, isChangeB c n = true) : ∀ s ∈ setNames ns g, s.size ≤ 10 := by
  unfold setNames
  induction g generalizing ns with
  | nil => exact h
  | cons d g ih =>
    simp only [List.foldl_cons]
    refine ih _ (fun s hs => ?_) (fun c hc => hg c (by simp [hc]))
    rcases List.mem_or_eq_of_mem_set hs with hs | rfl
    · exact h s hs
    · have := hg d (by simp)
      unfold isChangeB isNameB at this
      simp at this
      omega
theorem page_own {W : World} {base g : Nat} {at_ : Int} {v : Value} {ns : List ByteArray} (hg : base ≤ g) (hb : W.heap[g]? = some (.cells #[.int .i64 at_, v] 167 (0, 0))) (h : Kd.R Kd.string 9 W base (fun k => True ∧ k ≠ g) v ns) :
    Kd.R k167 167 W base (fun _ => True) (.slice (some ⟨g, 0, none⟩) 1 1) [⟨at_, ns⟩] := by
  refine ⟨fun _ _ => trivial, [.int .i64 at_, v], ⟨rfl, .inr ⟨g, 1, _, rfl, hg, hb, by simp, by unfold maxLen; omega, rfl, rfl⟩⟩, rfl, fun j p hj => ?_⟩
  cases j with
  | succ j => simp at hj
  | zero =>
    simp at hj
    subst hj
    exact k167_mkM _ _ _ _ (Kd.R_mono h (fun k hk => ⟨trivial, by simp [Value.ownBlock]; exact hk.2⟩))
theorem info167b : (Tryz.prog.info? 167).map (fun i => (i.zero, i.size, i.bytes)) = some (some (.agg #[(.int .i64 0), (.slice none 0 0)]), 2, 32) := by kernel_rfl
theorem nil_eql {P : Program} {t e : TypeId} (h : P.underlying t = some (.slice e)) (w : World) : (Go.binOp .eql t (.slice none 0 0) (.slice none 0 0)).run P w = .ok (.bool true) w := Lib.run_eql_slice_nil w t e none 0 0 0 0 h
theorem some_eql {P : Program} {t e : TypeId} (h : P.underlying t = some (.slice e)) (ad : Addr) (n c : Nat) (w : World) : (Go.binOp .eql t (.slice (some ad) n c) (.slice none 0 0)).run P w = .ok (.bool false) w := Lib.run_eql_slice_nil w t e (some ad) n c 0 0 h
theorem run_neq_nil {P : Program} {t e : TypeId} (h : P.underlying t = some (.slice e)) (a : Option Addr) (n c : Nat) (w : World) : (Go.binOp .neq t (.slice a n c) (.slice none 0 0)).run P w = .ok (.bool (!a.isNone)) w := by
  simp only [Go.binOp]
  simp [Op.equal, Op.maxDepth, Lib.run_equalIn_slice_nil w 9999 t e a n c 0 0 h]
theorem nil_neq {P : Program} {t e : TypeId} (h : P.underlying t = some (.slice e)) (w : World) : (Go.binOp .neq t (.slice none 0 0) (.slice none 0 0)).run P w = .ok (.bool false) w := run_neq_nil h none 0 0 w
theorem some_neq {P : Program} {t e : TypeId} (h : P.underlying t = some (.slice e)) (ad : Addr) (n c : Nat) (w : World) : (Go.binOp .neq t (.slice (some ad) n c) (.slice none 0 0)).run P w = .ok (.bool true) w := run_neq_nil h (some ad) n c w
theorem BkP.step {first : List ByteArray} {changes : List S60} {ns : List ByteArray} {c : S60} {cs dn rem : List S60} {ps : List S167} (h : BkP first changes ns (c :: cs) ps) (hsp : c :: cs = dn ++ rem)
    (hspan : (c :: cs).takeWhile (fun d => decide (d.f0 = c.f0)) = dn ∧ (c :: cs).dropWhile (fun d => decide (d.f0 = c.f0)) = rem) (hdn : dn ≠ []) (hcl : clashOf (dn.map (·.f1)) (setNames ns dn) = []) : BkP first changes (setNames ns dn) rem (ps ++ [⟨c.f0, setNames ns dn⟩]) := by
  have hl := congrArg List.length hsp
  have h0 : 0 < dn.length := List.length_pos_iff.2 hdn
  simp at hl
  refine ⟨by rw [setNames_len, h.hn], setNames_small ns dn first.length h.hs (fun d hd => h.hr d (by rw [hsp]; simp [hd])), fun d hd => h.hr d (by rw [hsp]; simp [hd]), ?_, ?_⟩
  · have := h.hl
    simp at this ⊢
    omega
  · obtain ⟨n, hn, he⟩ := h.he
    cases n with
    | zero => simp at hn
    | succ m =>
      refine ⟨m, by simp at hn; omega, ?_⟩
      rw [← he, bookFrom, hspan.1, hspan.2, if_pos hcl]
theorem BkP.clash {first : List ByteArray} {changes : List S60} {ns : List ByteArray} {c : S60} {cs dn rem : List S60} {ps : List S167} (h : BkP first changes ns (c :: cs) ps)
    (hspan : (c :: cs).takeWhile (fun d => decide (d.f0 = c.f0)) = dn ∧ (c :: cs).dropWhile (fun d => decide (d.f0 = c.f0)) = rem) (hcl : clashOf (dn.map (·.f1)) (setNames ns dn) ≠ []) : bookOf first changes = (ps, c.f0, Lib.compact (sortI (clashOf (dn.map (·.f1)) (setNames ns dn)))) := by
  obtain ⟨n, hn, he⟩ := h.he
  cases n with
  | zero => simp at hn
  | succ m => rw [← he, bookFrom, hspan.1, if_neg hcl]
set_option maxHeartbeats 8000000 in
set_option maxRecDepth 100000 in
theorem newBook_any (a0 : Addr) (c0 : Nat) (first : List ByteArray) (A1 : Option Addr) (c1 : Nat) (changes : List S60) (w : World)
    (hr0 : Kd.C Kd.string w (some a0) first.length first) (hc0 : first.length ≤ c0) (hr1 : Kd.C k60 w A1 changes.length changes) (hc1 : changes.length ≤ c1)
    (hf1 : 1 ≤ first.length) (hf2 : first.length ≤ 6) (hfs : ∀ s ∈ first, s.size ≤ 10) (hch : changes.length ≤ 9) (hok : ∀ c ∈ changes, isChangeB c first.length = true) :
    Calls Tryz.prog 67 #[.agg #[.slice (some a0) first.length c0, .slice A1 changes.length c1]] w fun e w' =>
      ∃ pv sv : Value, e = .returned (.tuple #[.agg #[.slice (some a0) first.length c0, .slice A1 changes.length c1, pv], .int .i64 (bookOf first changes).2.1, sv]) ∧
        Kd.R k167 167 w' w.heap.size (fun _ => True) pv (bookOf first changes).1 ∧ Kd.R (Kd.int .i64) 3 w' w.heap.size (fun _ => True) sv (bookOf first changes).2.2 ∧
        ((bookOf first changes).2.2 = [] → sv = .slice none 0 0) ∧ Below w.heap.size w w' := by
  have HR0 := Aside0.mk hr0
  have HR1 := Aside0.mk hr1
  have HFS := Aside0.mk hfs
  have HOK := Aside0.mk hok
  clear hr0 hr1 hfs hok
  have HCL := Aside0.mk (fun (W : World) hr => clone_any a0 c0 first W hr hc0 (by omega))
  have HSO := Aside0.mk (fun (Bs : Nat) (W : World) hb hBs => sortedC_any A1 c1 changes (by omega) Bs w W HR1.out hb hBs)
  have HVA := Aside0.mk (fun (W : World) => (callsIn_wide (n := 8)).1 (values_any Fence.wide 8 trivial rfl A1 changes.length c1 W))
  go_enter Tryz.func67, Tryz.ntmps67
  go_wp2_with fail
  refine (HVA.out _).mono ?_
  rintro e w1 ⟨rfl, rfl⟩
  go_wp2_with fail
  obtain ⟨W1, hW1⟩ : ∃ W1, ((w.alloc (.cells #[.slice (some a0) first.length c0, .slice A1 changes.length c1] 25)).alloc (.cells #[.slice (some a0) first.length c0, .slice A1 changes.length c1, .slice none 0 0] 124)).alloc (.cells #[.slice A1 changes.length c1] 23) = W1 := ⟨_, rfl⟩
  have hb1 : Below w.heap.size w W1 := by rw [← hW1]; exact below_alloc (below_alloc (below_alloc (Below.refl _ _) _) _) _
  have hbt : W1.heap[w.heap.size]? = some (.cells #[.slice (some a0) first.length c0, .slice A1 changes.length c1] 25 (0, 0)) := by
    rw [← hW1]; exact blk_alloc (blk_alloc (blk_new w _) _) _
  have hbb : W1.heap[w.heap.size + 1]? = some (.cells #[.slice (some a0) first.length c0, .slice A1 changes.length c1, .slice none 0 0] 124 (0, 0)) := by
    rw [← hW1]; refine blk_alloc ?_ _
    have := blk_new (w.alloc (.cells #[.slice (some a0) first.length c0, .slice A1 changes.length c1] 25)) (.cells #[.slice (some a0) first.length c0, .slice A1 changes.length c1, .slice none 0 0] 124)
    rwa [World.size_alloc] at this
  have hbv : W1.cell? ⟨w.heap.size + 1 + 1, 0, none⟩ = some (.slice A1 changes.length c1) := by
    rw [← hW1]; clear hbb hbt hb1 hW1; go_simp
  have HSO' := Aside0.mk (HSO.out (w.heap.size + 1 + 1) W1 hb1 hbv)
  rw [hW1]
  refine HSO'.out.mono ?_
  rintro e w2 ⟨v5, rfl, h5, hb⟩
  have HB2 := Aside0.mk (below_from hb1 hb)
  have BT2 := Aside0.mk (blk_below hbt hb)
  have BB2 := Aside0.mk (blk_below hbb hb)
  have H5 := Aside0.mk (Kd.R_lower h5 hb1.size)
  have hs5 : (sortC changes).length = changes.length := sortC_len changes
  obtain ⟨A5, c5, rfl⟩ := Kd.R_slice h5
  clear hb hbt hbb hbv hb1 hW1 HSO HSO' HVA h5
  obtain ⟨t0, t1, t2⟩ := blk2 BT2.out
  have HC := Aside0.mk (HCL.out w2 (Kd.C_below HR0.out HB2.out))
  go_wp2_with fail
  refine HC.out.mono ?_
  rintro e w3 ⟨v6, rfl, h6, hb⟩
  have HB3 := Aside0.mk (below_from HB2.out hb)
  have BB3 := Aside0.mk (blk_below BB2.out hb)
  have H53 := Aside0.mk (Kd.R_below H5.out hb)
  have H6 := Aside0.mk (Kd.R_lower h6 HB2.out.size)
  obtain ⟨g6, c6, rfl, _, _⟩ := Kd.R_form h6 (by omega)
  clear hb h6 t0 t1 t2 HC BT2 BB2 H5 HB2
  have b0 : w3.cell? ⟨w.heap.size + 1, 0, none⟩ = some (.slice (some a0) first.length c0) := (blk_cell BB3.out 0).trans rfl
  have b1 : w3.cell? ⟨w.heap.size + 1, 1, none⟩ = some (.slice A1 changes.length c1) := (blk_cell BB3.out 1).trans rfl
  have b2 : w3.cell? ⟨w.heap.size + 1, 2, none⟩ = some (.slice none 0 0) := (blk_cell BB3.out 2).trans rfl
  have bf := blk_frozen BB3.out 2
  have bl := blk_lt BB3.out
  go_wp2_with fail
  obtain ⟨W4, hW4⟩ : ∃ W4, (w3.setCell ⟨w.heap.size + 1, 2, none⟩ (.slice (some ⟨w3.heap.size, 0, none⟩) 1 1)).alloc (.cells #[.int .i64 0, .slice (some ⟨g6, 0, none⟩) first.length c6] 167) = W4 := ⟨_, rfl⟩
  have I4 : BkI w W4 (.slice (some a0) first.length c0) (.slice A1 changes.length c1) (.slice A5 (sortC changes).length c5) (sortC changes) (.slice (some ⟨w3.heap.size, 0, none⟩) 1 1) [⟨0, first⟩] := by
    rw [← hW4]
    refine ⟨below_alloc (HB3.out.setCell (p := ⟨w.heap.size + 1, 2, none⟩) (by simp) _) _, blk_alloc (blk_put BB3.out 2 _ rfl) _, Kd.R_alloc (Kd.R_set H53.out BB3.out (by decide) 2 _) _, ?_⟩
    refine page_own (v := .slice (some ⟨g6, 0, none⟩) first.length c6) HB3.out.size ?_ ?_
    · have := blk_new (w3.setCell ⟨w.heap.size + 1, 2, none⟩ (.slice (some ⟨w3.heap.size, 0, none⟩) 1 1)) (.cells #[.int .i64 0, .slice (some ⟨g6, 0, none⟩) first.length c6] 167)
      simpa using this
    · exact Kd.R_alloc (Kd.R_set (Kd.R_elderB H6.out _ (Nat.le_refl _)) BB3.out (by decide) 2 _) _
  have H64 : Kd.R Kd.string 9 W4 w.heap.size (fun _ => True) (.slice (some ⟨g6, 0, none⟩) first.length c6) first := by
    rw [← hW4]
    exact Kd.R_alloc (Kd.R_set H6.out BB3.out (by decide) 2 _) _
  have P4 : BkP first changes first (sortC changes) [⟨0, first⟩] := ⟨rfl, HFS.out, fun c hc => HOK.out c (sortC_mem hc), by simp [hs5]; omega, ⟨changes.length + 1, by omega, rfl⟩⟩
  rw [hW4]
  have I4' := Aside0.mk I4
  have H64' := Aside0.mk H64
  have P4' := Aside0.mk P4
  clear I4 H64 P4 hW4 b0 b1 b2 bf bl BB3 H53 H6 HB3 HFS HOK HR0 HR1 HCL
  go_loopg [4, 5, 6] changes.length (fun gg s4 s5 s6 wr => ∃ (ns : List ByteArray) (rest : List S60) (ps : List S167) (A5' : Option Addr) (c5' g6' c6' : Nat) (pv : Value),
    s4 = .slice none 0 0 ∧ s5 = .slice A5' rest.length c5' ∧ s6 = .slice (some ⟨g6', 0, none⟩) ns.length c6' ∧ rest.length ≤ gg ∧
    Aside0 (BkI w wr (.slice (some a0) first.length c0) (.slice A1 changes.length c1) (.slice A5 (sortC changes).length c5) (sortC changes) pv ps) ∧
    Aside0 (BkP first changes ns rest ps) ∧
    Aside0 (rest.length ≤ c5' ∧ ∀ W, Kd.R k60 60 W w.heap.size (fun _ => True) (.slice A5 (sortC changes).length c5) (sortC changes) → Kd.C k60 W A5' rest.length rest) ∧
    Aside0 (Kd.R Kd.string 9 wr w.heap.size (fun _ => True) (.slice (some ⟨g6', 0, none⟩) ns.length c6') ns))
  case atStart =>
    refine ⟨first, sortC changes, [⟨0, first⟩], A5, c5, g6, c6, _, rfl, by rw [hs5], rfl, by omega, I4', P4', ⟨⟨(Kd.R_reads' I4'.out.h5).2.1, fun W h => (Kd.R_reads' h).2.2⟩⟩, H64'⟩
  case round =>
    clear I4' H64' P4'
    obtain ⟨ns, rest, ps, A5', c5', g6', c6', pv, rfl, rfl, rfl, hgg, HI, HP, HC5, H6⟩ := hrel
    have BB := Aside0.mk HI.out.bb
    have b0 : wr.cell? ⟨w.heap.size + 1, 0, none⟩ = some (.slice (some a0) first.length c0) := (blk_cell BB.out 0).trans rfl
    have b1 : wr.cell? ⟨w.heap.size + 1, 1, none⟩ = some (.slice A1 changes.length c1) := (blk_cell BB.out 1).trans rfl
    have b2 : wr.cell? ⟨w.heap.size + 1, 2, none⟩ = some pv := (blk_cell BB.out 2).trans rfl
    have f0 := blk_frozen BB.out 0
    have f1 := blk_frozen BB.out 1
    have f2 := blk_frozen BB.out 2
    have bl := blk_lt BB.out
    obtain ⟨Ap, cp, rfl⟩ := Kd.R_slice HI.out.hp
    cases rest with
    | nil =>
      go_wp2_with fail
      have HI2 := HI.out.self
      obtain ⟨W', hW'⟩ : ∃ W', ((wr.setCell ⟨w.heap.size + 1, 0, none⟩ (.slice (some a0) first.length c0)).setCell ⟨w.heap.size + 1, 1, none⟩ (.slice A1 changes.length c1)).setCell ⟨w.heap.size + 1, 2, none⟩ (.slice Ap ps.length cp) = W' := ⟨_, rfl⟩
      rw [hW'] at HI2 ⊢
      clear hW'
      have q0 : W'.cell? ⟨w.heap.size + 1, 0, none⟩ = some (.slice (some a0) first.length c0) := (blk_cell HI2.bb 0).trans rfl
      have q1 : W'.cell? ⟨w.heap.size + 1, 1, none⟩ = some (.slice A1 changes.length c1) := (blk_cell HI2.bb 1).trans rfl
      have q2 : W'.cell? ⟨w.heap.size + 1, 2, none⟩ = some (.slice Ap ps.length cp) := (blk_cell HI2.bb 2).trans rfl
      have hbo : bookOf first changes = (ps, 0, []) := by
        obtain ⟨n, hn, he⟩ := HP.out.he
        rw [← he]
        cases n with
        | zero => simp at hn
        | succ n => rfl
      rw [hbo]
      refine bodyPost_ret (v := .tuple #[.agg #[.slice (some a0) first.length c0, .slice A1 changes.length c1, .slice Ap ps.length cp], .int .i64 0, .slice none 0 0]) (by simp [results, Tryz.results67, go_sem, q0, q1, q2]) rfl ?_
      exact ⟨_, _, rfl, HI2.hp, Kd.R_nil _ _ _ _ _, fun _ => rfl, HI2.hb⟩
    | cons c cs =>
      obtain ⟨ad, rfl, h0, h1, h2⟩ := head_cells (HC5.out.2 wr HI.out.h5) (by simp)
      have hnl := HP.out.hn
      have HC := Aside0.mk (clone_any ⟨g6', 0, none⟩ c6' ns wr (Kd.R_reads' H6.out).2.2 (Kd.R_reads' H6.out).2.1 (by omega))
      have HLN := Aside0.mk hnl
      clear hnl b0 b1 b2 f0 f1 f2 bl BB
      go_wp2_with fail
      refine HC.out.mono ?_
      rintro e w1 ⟨v6, rfl, h6, hb⟩
      have hb' := hb
      obtain ⟨gn, cn, rfl, hgn1, hgn2, cells, hgn3⟩ := Kd.R_form h6 (by have := HLN.out; omega)
      have J1 := Aside0.mk (BkI.mk (below_from HI.out.hb hb) (blk_below HI.out.bb hb) (Kd.R_below HI.out.h5 hb) (Kd.R_below HI.out.hp hb))
      have JP1 := Aside0.mk (Kd.R_elder HI.out.hp h6 hb)
      have N1 := Aside0.mk (Kd.R_lower h6 HI.out.hb.size)
      have GN := Aside0.mk (And.intro (Nat.le_trans HI.out.hb.size hgn1) hgn1)
      clear hb hb' h6 h0 h1 h2 HI HC H6 hgn1 hgn2 hgn3
      go_wp2_with fail
      go_loopg [5, 8] (cs.length + 1) (fun gg s5 s8 w2 => ∃ (dn rem : List S60) (A2 : Option Addr) (c2 : Nat),
        c :: cs = dn ++ rem ∧ s5 = .slice A2 rem.length c2 ∧ rem.length ≤ gg ∧
        Aside0 (∀ d ∈ dn, d.f0 = c.f0) ∧
        Aside0 (BkI w w2 (.slice (some a0) first.length c0) (.slice A1 changes.length c1) (.slice A5 (sortC changes).length c5) (sortC changes) (.slice Ap ps.length cp) ps) ∧
        Aside0 (Kd.R k167 167 w2 w.heap.size (fun k => True ∧ some k ≠ (Value.slice (some ⟨gn, 0, none⟩) ns.length cn).ownBlock) (.slice Ap ps.length cp) ps) ∧
        Aside0 (rem.length ≤ c2 ∧ ∀ W, Kd.R k60 60 W w.heap.size (fun _ => True) (.slice A5 (sortC changes).length c5) (sortC changes) → Kd.C k60 W A2 rem.length rem) ∧
        Aside0 (Kd.R Kd.string 9 w2 w.heap.size (fun _ => True) (.slice (some ⟨gn, 0, none⟩) ns.length cn) (setNames ns dn)) ∧
        Aside0 (Kd.R (Kd.int .i64) 3 w2 w.heap.size (fun _ => True) s8 (dn.map (·.f1))))
      case atStart => exact ⟨[], c :: cs, _, c5', rfl, rfl, by simp, ⟨by simp⟩, J1, JP1, HC5, N1, ⟨Kd.R_nil _ _ _ _ _⟩⟩
      case round =>
        clear J1 JP1 HC5 N1
        obtain ⟨dn, rem, A2, c2, hsplit, rfl, hg2, HD, HI, HPP, HC2, HN, HCh⟩ := hrel
        have HSP := Aside0.mk hsplit
        clear hsplit
        by_cases hcont : ∃ d ds, rem = d :: ds ∧ d.f0 = c.f0
        · obtain ⟨d, ds, rfl, hdf⟩ := hcont
          obtain ⟨ad2, rfl, h0, h1, h2⟩ := head_cells (HC2.out.2 wr HI.out.h5) (by simp)
          have hdok := HP.out.hr d (by rw [HSP.out]; simp)
          have hbd : 0 ≤ d.f1 ∧ d.f1 < (ns.length : Int) := by
            unfold isChangeB at hdok
            simp at hdok
            have := HLN.out
            omega
          obtain ⟨hb0, hb1⟩ := hbd
          obtain ⟨hcn, hfn⟩ := Kd.R_celln ByteArray.empty HN.out d.f1 hb0 hb1
          have hbl := (Array.getElem?_eq_some_iff.1 (Kd.R_typed HN.out gn rfl).choose_spec).1
          rw [hdf] at h0
          have hee : ((c.f0) == (c.f0)) = true := by simp
          have hee2 : decide (c.f0 = c.f0) = true := by simp
          go_wp2_with fail
          go_region
          obtain ⟨w4, hw4⟩ : ∃ W, (wr.setCell ⟨gn, d.f1.toNat, none⟩ (.string d.f2)).drew = W := ⟨_, rfl⟩
          have J4 := (HI.out.name HN.out HPP.out d.f1.toNat (.string d.f2)).1.drew
          have JP4 := Kd.R_drew (HI.out.name HN.out HPP.out d.f1.toNat (.string d.f2)).2
          have N4 := Kd.R_drew (Kd.R_putn HN.out d.f1 d.f2)
          have C4 := Kd.R_drew (Kd.R_set HCh.out (Kd.R_typed HN.out gn rfl).choose_spec (by decide) d.f1.toNat (.string d.f2))
          rw [← setNames_snoc] at N4
          rw [hw4] at J4 JP4 N4 C4 ⊢
          have J4' := Aside0.mk J4
          have JP4' := Aside0.mk JP4
          have N4' := Aside0.mk N4
          have C4' := Aside0.mk C4
          clear hw4 J4 JP4 N4 C4 h0 h1 h2 hcn hfn hbl HI HPP HN HCh hb0 hb1 hee hee2
          obtain ⟨adx, hadx, h0, h1, h2⟩ := head_cells (HC2.out.2 w4 J4'.out.h5) (by simp)
          cases hadx
          have hlen : (dn.map (·.f1)).length ≤ 20 := by
            have := HP.out.hl
            rw [HSP.out] at this
            simp at this ⊢
            omega
          have HLEN := Aside0.mk hlen
          clear hlen hdok
          go_wp2_with (at_builtin; refine Kd.R_append (Kd.int .i64) (w0 := w) w.heap.size rfl (.tmp 54) (.tmp 59) 31 3 (.int .i64 0) 8 rfl Tryz.underlying31 info3 rfl (by decide) (by omega) u8 (dn.map (·.f1)) d.f1 [.int .i64 d.f1] (fun _ => True) (fun _ => False) rfl rfl ?aP (fun _ hk => hk.elim) ?aF ?aO ?aB ?aS ?aL ?_; (case aP => exact rfl); (case aB => exact J4'.out.hb); (case aF => exact (fun _ _ => trivial)); (case aO => exact C4'.out); (case aS => exact J4'.out.hb.size); (case aL => have := HLEN.out; omega); intro v8 w5 ho hb hgr hat; have m0_ := Aside0.mk (J4'.out.ints C4'.out hb hgr); have m1_ := Aside0.mk ho; have m2_ := Aside0.mk (Kd.R_over JP4'.out C4'.out (by decide) hgr); have m3_ := Aside0.mk (Kd.R_over N4'.out C4'.out (by decide) hgr); clear ho hb hgr hat)
          all_goals
            go_roundg ds.length
            case measure => simp at hg2; omega
            case rel =>
              refine ⟨dn ++ [d], ds, _, _, by rw [HSP.out]; simp, rfl, Nat.le_refl _, ⟨fun x hx => ?_⟩, m0_, m2_, ⟨by have := HC2.out.1; simp at this; omega, fun W hW => ?_⟩, m3_, ⟨by rw [List.map_append]; exact m1_.out⟩⟩
              · rcases List.mem_append.1 hx with hx | hx
                · exact HD.out x hx
                · simp at hx; rw [hx]; exact hdf
              · have := tail_reads (HC2.out.2 W hW) HC2.out.1
                first | exact this.1 (by omega) | exact this.2 (by omega)
        · have hhead : ∀ d ds, rem = d :: ds → d.f0 ≠ c.f0 := fun d ds e h => hcont ⟨d, ds, e, h⟩
          have hsp := span_eq (fun d => decide (d.f0 = c.f0)) dn rem (fun d hd => by simp [HD.out d hd]) (fun d ds e => by simp [hhead d ds e])
          rw [← HSP.out] at hsp
          have SPAN := Aside0.mk hsp
          have hdn : dn ≠ [] := by
            rintro rfl
            exact hcont ⟨c, cs, by rw [HSP.out]; rfl, rfl⟩
          have HDN := Aside0.mk hdn
          have hlt : rem.length < cs.length + 1 := by
            have h1 := congrArg List.length HSP.out
            simp at h1
            have : 0 < dn.length := List.length_pos_iff.2 hdn
            omega
          have hcl : dn.length ≤ 20 := by
            have h1 := congrArg List.length HSP.out
            have := HP.out.hl
            simp at h1 this
            omega
          have HCL := Aside0.mk (And.intro hlt hcl)
          obtain ⟨A8, c8, rfl⟩ := Kd.R_slice HCh.out
          have HMEM := Aside0.mk (show ∀ d ∈ dn, isChangeB d first.length = true from fun d hd => HP.out.hr d (by rw [HSP.out]; simp [hd]))
          have HT := Aside0.mk (twins_int_any A8 c8 (dn.map (·.f1)) wr (Kd.R_reads' HCh.out).2.2 (by simp; omega) (fun x hx => by
            obtain ⟨d, hd, rfl⟩ := List.mem_map.1 hx
            have := HMEM.out d hd
            unfold isChangeB at this
            simp at this
            exact wf_small _ (by omega) (by omega)))
          simp only [List.length_map] at HT
          have HREAD := Aside0.mk (HC2.out.2 wr HI.out.h5)
          have HHD := Aside0.mk hhead
          clear hcont hhead hsp hdn hlt hcl
          rcases rem with _ | ⟨d, ds⟩
          rotate_left
          obtain ⟨ad2, e2, h0, _⟩ := head_cells HREAD.out (by simp)
          cases e2
          have hne : (d.f0 == c.f0) = false := by simp [HHD.out d ds rfl]
          go_wp2_with fail
          clear h0 hne
          rotate_left
          go_wp2_with fail
          all_goals
            refine HT.out.mono ?_
            rintro e w5 ⟨v64, rfl, h64, hn64, hb⟩
            have hT0 : ∀ i ∈ twinsL (0 : Int) (dn.map (·.f1)), 0 ≤ i ∧ i < ((dn.map (·.f1)).length : Int) := fun i hi => twinsL_mem _ _ _ hi
            obtain ⟨T, hT⟩ : ∃ T, twinsL (0 : Int) (dn.map (·.f1)) = T := ⟨_, rfl⟩
            rw [hT] at h64 hn64 hT0
            have J5 := Aside0.mk (HI.out.below hb)
            have JP5 := Aside0.mk (Kd.R_below HPP.out hb)
            have N5 := Aside0.mk (Kd.R_below HN.out hb)
            have C5 := Aside0.mk (Kd.R_below HCh.out hb)
            obtain ⟨A64, c64, rfl⟩ := Kd.R_slice h64
            have R64 := Aside0.mk (Kd.R_reads' h64).2.2
            have N64 := Aside0.mk hn64
            have HT0 := Aside0.mk hT0
            have HTE := Aside0.mk hT
            have hTl : T.length ≤ 100 := by
              have h1 := twinsTo_len (0 : Int) (dn.map (·.f1)) (dn.map (·.f1)).length
              have h2 : T.length = (twinsTo (0 : Int) (dn.map (·.f1)) (dn.map (·.f1)).length).length := by rw [← hT]; rfl
              have := HCL.out.2
              simp at h1 h2 ⊢
              omega
            clear hb h64 hn64 hT0 hT HT HI HPP HN HCh HREAD HHD
            go_wp2_with fail
            go_loopg [4, 10, 66] T.length (fun gg s4 s10 s66 w6 => ∃ kk : Nat, kk ≤ T.length ∧ T.length - kk ≤ gg ∧ s66 = .int .i64 kk ∧ Aside0 (kk = 0 → s4 = .slice none 0 0) ∧ Aside0 (Below w5.heap.size w5 w6) ∧
                Aside0 (Kd.R (Kd.int .i64) 3 w6 w5.heap.size (fun _ => True) s4 ((T.take kk).map fun i => rd (dn.map (·.f1)) i)))
            case atStart => exact ⟨0, Nat.zero_le _, by omega, rfl, ⟨fun _ => rfl⟩, ⟨Below.refl _ _⟩, ⟨Kd.R_nil _ _ _ _ _⟩⟩
            case round =>
              obtain ⟨kk, hkk, hg3, rfl, HZ, BW, HS⟩ := hrel
              by_cases hlt3 : kk < T.length
              · have hltz : (kk : Int) < (T.length : Int) := by omega
                obtain ⟨adt, rfl, hct⟩ := Kd.at_int R64.out (kk : Int) (by omega) (by omega)
                rw [Int.toNat_natCast] at hct
                obtain ⟨y, hy⟩ : ∃ y, y = rd T kk := ⟨_, rfl⟩
                rw [← hy] at hct
                have hct' := (BW.out.cell (World.block_lt_of_cell? w5 _ hct)).trans hct
                have hyT : y ∈ T := by rw [hy]; unfold rd; rw [Int.toNat_natCast, List.getD_eq_getElem?_getD, List.getElem?_eq_getElem hlt3, Option.getD_some]; exact List.getElem_mem hlt3
                obtain ⟨hy0, hy1⟩ := HT0.out y hyT
                rw [List.length_map] at hy1
                obtain ⟨adc, rfl, hcc⟩ := Kd.at_int (Kd.R_reads' C5.out).2.2 y hy0 (by simpa using hy1)
                have hcc' := (BW.out.cell (World.block_lt_of_cell? w5 _ hcc)).trans hcc
                have hsu : (T.take (kk + 1)).map (fun i => rd (dn.map (·.f1)) i) = (T.take kk).map (fun i => rd (dn.map (·.f1)) i) ++ [rd (dn.map (·.f1)) y] := by
                  rw [List.take_succ_eq_append_getElem hlt3, List.map_append, List.map_singleton]
                  congr 2
                  rw [hy]; unfold rd; simp [List.getD_eq_getElem?_getD, List.getElem?_eq_getElem hlt3]
                have HSU := Aside0.mk hsu
                have hl20 : ((T.take kk).map fun i => rd (dn.map (·.f1)) i).length ≤ 100 := by simp; omega
                have HLEN := Aside0.mk hl20
                clear hct hcc hy hyT hsu hl20 HZ
                go_wp2_with (at_builtin; refine Kd.R_append (Kd.int .i64) (w0 := w5) (W := wr) w5.heap.size ?b1 (.tmp 70) (.tmp 75) 31 3 (.int .i64 0) 8 ?b2 Tryz.underlying31 info3 rfl (by decide) (by omega) u4 ((T.take kk).map fun i => rd (dn.map (·.f1)) i) (rd (dn.map (·.f1)) y) [.int .i64 (rd (dn.map (·.f1)) y)] (fun _ => True) (fun _ => False) ?b3 ?b4 ?aP (fun _ hk => hk.elim) ?aF ?aO ?aB ?aS ?aL ?_; (case b1 => rfl); (case b2 => rfl); (case b3 => rfl); (case b4 => rfl); (case aP => exact rfl); (case aB => exact BW.out); (case aF => exact (fun _ _ => trivial)); (case aO => exact HS.out); (case aS => exact BW.out.size); (case aL => have := HLEN.out; omega); intro v8 w7 ho hb hgr hat; have m0_ := Aside0.mk hb; have m1_ := Aside0.mk ho; clear ho hb hgr hat)
                go_roundg (T.length - (kk + 1))
                case measure => omega
                case rel => exact ⟨kk + 1, by omega, by omega, by go_num, ⟨fun h => by omega⟩, m0_, ⟨by rw [HSU.out]; exact m1_.out⟩⟩
              · obtain rfl : kk = T.length := by omega
                have hltz : ¬ ((T.length : Int) < (T.length : Int)) := by omega
                rw [List.take_length] at HS
                obtain ⟨S, hS⟩ : ∃ S, T.map (fun i => rd (dn.map (·.f1)) i) = S := ⟨_, rfl⟩
                rw [hS] at HS
                have HSE := Aside0.mk hS
                clear hS
                have J6 := Aside0.mk (J5.out.below BW.out)
                have JP6 := Aside0.mk (Kd.R_below JP5.out BW.out)
                have N6 := Aside0.mk (Kd.R_below N5.out BW.out)
                have S6 := Aside0.mk (Kd.R_lower HS.out (J5.out.hb.size))
                have hnl := setNames_len ns dn
                have hsn := setNames_small ns dn first.length HP.out.hs HMEM.out
                have HTW := Aside0.mk (twins_string_any (some ⟨gn, 0, none⟩) cn (setNames ns dn) wr (Kd.R_reads' N6.out).2.2 (by rw [hnl]; have := HLN.out; omega) (fun s hs => by have := hsn s hs; unfold maxLen; omega))
                rw [hnl] at HTW
                have HSN := Aside0.mk hsn
                clear J5 JP5 N5 C5 HS BW R64 hnl hsn
                have q1 := nil_eql (P := Tryz.prog) Tryz.underlying31
                have q2 := some_eql (P := Tryz.prog) Tryz.underlying31
                have q3 := nil_neq (P := Tryz.prog) Tryz.underlying31
                have q4 := some_neq (P := Tryz.prog) Tryz.underlying31
                by_cases hTn : T = []
                · have hu4 := HZ.out (by rw [hTn]; rfl)
                  subst hu4
                  go_wp2_with fail
                  refine HTW.out.mono ?_
                  rintro e w7 ⟨v81, rfl, h81, hn81, hb7⟩
                  have J7 := Aside0.mk (J6.out.below hb7)
                  have JP7 := Aside0.mk (Kd.R_below JP6.out hb7)
                  have N7 := Aside0.mk (Kd.R_below N6.out hb7)
                  have S7 := Aside0.mk (Kd.R_lower h81 J6.out.hb.size)
                  have hce : clashOf (dn.map (·.f1)) (setNames ns dn) = twinsL ByteArray.empty (setNames ns dn) := by unfold clashOf; rw [HTE.out, if_pos hTn]
                  have HCE := Aside0.mk hce
                  have HN81 := Aside0.mk hn81
                  clear J6 JP6 N6 S6 hb7 h81 hn81 HTW hce
                  by_cases hUn : twinsL ByteArray.empty (setNames ns dn) = []
                  · have hv := HN81.out hUn
                    subst hv
                    have BB := Aside0.mk J7.out.bb
                    have b2 : w7.cell? ⟨w.heap.size + 1, 2, none⟩ = some (.slice Ap ps.length cp) := (blk_cell BB.out 2).trans rfl
                    have f2 := blk_frozen BB.out 2
                    have bl := blk_lt BB.out
                    have HPL := Aside0.mk (show ps.length ≤ 20 from by have := HP.out.hl; omega)
                    have M7 := Aside0.mk (k167_mkM w7 w.heap.size _ ⟨c.f0, setNames ns dn⟩ (Kd.R_apartR N7.out J7.out.hp (by decide)))
                    clear BB
                    go_wp2_with (at_builtin; refine Kd.R_append k167 (w0 := w) (W := w7) w.heap.size ?b1 (.tmp 91) (.tmp 95) 122 167 (.agg #[(.int .i64 0), (.slice none 0 0)]) 32 ?b2 Tryz.underlying122 info167b rfl (by decide) (by omega) (.slice Ap ps.length cp) ps (⟨c.f0, setNames ns dn⟩ : S167) [.int .i64 c.f0, .slice (some ⟨gn, 0, none⟩) ns.length cn] (fun _ => True) (fun k => True ∧ some k ≠ (Value.slice Ap ps.length cp).ownBlock) ?b3 ?b4 ?aP (fun _ hk => hk) ?aF ?aO ?aB ?aS ?aL ?_; (case b1 => rfl); (case b2 => rfl); (case b3 => rfl); (case b4 => rfl); (case aP => exact M7.out); (case aB => exact J7.out.hb); (case aF => exact (fun _ _ => trivial)); (case aO => exact J7.out.hp); (case aS => exact J7.out.hb.size); (case aL => have := HPL.out; omega); intro v9 w9 ho hb hgr hat; have m0_ := Aside0.mk hb; have m1_ := Aside0.mk ho; have m2_ := Aside0.mk (blk_grown J7.out.bb hgr (Kd.R_ne J7.out.hp J7.out.bb (by decide))); have m3_ := Aside0.mk (Kd.R_over J7.out.h5 J7.out.hp (by decide) hgr); have m4_ := Aside0.mk (Kd.R_over N7.out J7.out.hp (by decide) hgr); clear ho hb hgr hat; have bl2 := blk_lt m2_.out; have f22 := blk_frozen m2_.out 2; have b22 : w9.cell? ⟨w.heap.size + 1, 2, none⟩ = some (.slice Ap ps.length cp) := (blk_cell m2_.out 2).trans rfl; obtain ⟨A9, c9, e9⟩ := Kd.R_slice m1_.out; subst e9)
                    go_roundg cs.length
                    case measure => simp at hgg; omega
                    case rel =>
                      refine ⟨setNames ns dn, _, ps ++ [⟨c.f0, setNames ns dn⟩], _, _, _, _, _, rfl, rfl, by rw [setNames_len], by have := HCL.out.1; omega, ⟨⟨m0_.out.setCell (p := ⟨w.heap.size + 1, 2, none⟩) (by simp) _, blk_put m2_.out 2 _ rfl, Kd.R_set m3_.out m2_.out (by decide) 2 _, ?_⟩⟩, ⟨HP.out.step HSP.out SPAN.out HDN.out (by rw [HCE.out]; exact hUn)⟩, HC2, ⟨by rw [setNames_len]; exact Kd.R_set m4_.out m2_.out (by decide) 2 _⟩⟩
                      have := Kd.R_set m1_.out m2_.out (by decide) 2 (.slice A9 (ps ++ [(⟨c.f0, setNames ns dn⟩ : S167)]).length c9)
                      simpa using this
                  · obtain ⟨g4, c4, rfl, hg1, hg2, _⟩ := Kd.R_form S7.out (List.length_pos_iff.2 hUn)
                    obtain ⟨CL, hCL⟩ : ∃ CL, twinsL ByteArray.empty (setNames ns dn) = CL := ⟨_, rfl⟩
                    have hpos : 0 < CL.length := by rw [← hCL]; exact List.length_pos_iff.2 hUn
                    have hsm : CL.length < 100000 := by
                      have h1 := twinsTo_len ByteArray.empty (setNames ns dn) (setNames ns dn).length
                      have h2 := setNames_len ns dn
                      have h3 := HLN.out
                      rw [← hCL]; unfold twinsL; omega
                    rw [hCL] at HCE S7
                    have HPOS := Aside0.mk (And.intro hpos hsm)
                    rw [hCL]
                    clear hUn HN81 hpos hsm hg1 hg2
                    have SO := Aside0.mk (sortI_any w.heap.size (.slice (some ⟨g4, 0, none⟩) CL.length c4) CL _ S7.out HPOS.out.1 HPOS.out.2)
                    go_wp2_with fail
                    refine SO.out.mono ?_
                    rintro e w8 ⟨rfl, hs8, hg8⟩
                    have J8 := Aside0.mk (J7.out.grow S7.out hg8)
                    have S8 := Aside0.mk hs8
                    clear hs8 hg8 S7 SO J7
                    have J8s := Aside0.mk J8.out.self
                    have S8s := Aside0.mk (J8.out.selfI S8.out)
                    obtain ⟨⟨b0, b1, b2⟩, ⟨f0, f1, f2⟩, bl⟩ := J8.out.cells
                    go_wp2_with fail
                    go_region_with (go_at_call 105; refine (compactI_any w.heap.size (.slice (some ⟨g4, 0, none⟩) CL.length c4) (sortI CL) _ ?sc (by rw [sortI_len]; exact HPOS.out.1) (by rw [sortI_len]; exact HPOS.out.2)).mono ?_; (case sc => first | exact S8.out | exact Kd.R_drew S8.out | exact S8s.out | exact Kd.R_drew S8s.out); rintro e w9 ⟨v9, rfl, h9, hg9⟩; have J9 := Aside0.mk (BkI.grow (by first | exact J8.out | exact J8.out.drew | exact J8s.out | exact J8s.out.drew) (by first | exact S8.out | exact Kd.R_drew S8.out | exact S8s.out | exact Kd.R_drew S8s.out) hg9); have S9 := Aside0.mk h9; clear h9 hg9; obtain ⟨⟨n0, n1, n2⟩, ⟨g0, g1, g2⟩, nl⟩ := J9.out.cells)
                    all_goals go_wp2_with fail
                    all_goals clear n0 n1 n2 g0 g1 g2 nl b0 b1 b2 f0 f1 f2 bl
                    all_goals (
                      first
                      | (obtain ⟨W', hW'⟩ : ∃ W', (((w9.setCell ⟨w.heap.size + 1, 0, none⟩ (.slice (some a0) first.length c0)).setCell ⟨w.heap.size + 1, 1, none⟩ (.slice A1 changes.length c1)).setCell ⟨w.heap.size + 1, 2, none⟩ (.slice Ap ps.length cp)) = W' := ⟨_, rfl⟩
                         have JW := J9.out.self
                         have SW := J9.out.selfI S9.out
                         rw [hW'] at JW SW
                         rw [hW'])
                      | (obtain ⟨W', hW'⟩ : ∃ W', w9 = W' := ⟨_, rfl⟩
                         subst hW'
                         have JW := J9.out
                         have SW := S9.out)
                      obtain ⟨⟨q0, q1, q2⟩, _, _⟩ := JW.cells
                      have hce' := HCE.out
                      have hbo := HP.out.clash SPAN.out (by rw [hce']; exact List.length_pos_iff.1 HPOS.out.1)
                      rw [hce'] at hbo
                      rw [hbo]
                      refine bodyPost_ret (v := .tuple #[.agg #[.slice (some a0) first.length c0, .slice A1 changes.length c1, .slice Ap ps.length cp], .int .i64 c.f0, v9]) (by simp [results, Tryz.results67, go_sem, q0, q1, q2]) rfl ?_
                      exact ⟨_, _, rfl, JW.hp, SW, fun h => absurd h (compact_ne (by have h1 := HPOS.out.1; rw [← sortI_len] at h1; exact List.length_pos_iff.1 h1)), JW.hb⟩)
                · have hlS : S.length = T.length := by rw [← HSE.out, List.length_map]
                  have hpos : 0 < S.length := by rw [hlS]; exact List.length_pos_iff.2 hTn
                  have hce : clashOf (dn.map (·.f1)) (setNames ns dn) = S := by unfold clashOf; rw [HTE.out, if_neg hTn, ← HSE.out]
                  have HPOS := Aside0.mk (show 0 < S.length ∧ S.length < 100000 from ⟨hpos, by omega⟩)
                  obtain ⟨g4, c4, rfl, _, _, _⟩ := Kd.R_form S6.out hpos
                  have HCE := Aside0.mk hce
                  have J7 := J6
                  have S7 := S6
                  clear hlS hpos hce HZ J6 S6 JP6 N6 HTW HSN
                  have SO := Aside0.mk (sortI_any w.heap.size (.slice (some ⟨g4, 0, none⟩) S.length c4) S _ S7.out HPOS.out.1 HPOS.out.2)
                  go_wp2_with fail
                  refine SO.out.mono ?_
                  rintro e w8 ⟨rfl, hs8, hg8⟩
                  have J8 := Aside0.mk (J7.out.grow S7.out hg8)
                  have S8 := Aside0.mk hs8
                  clear hs8 hg8 S7 SO J7
                  have J8s := Aside0.mk J8.out.self
                  have S8s := Aside0.mk (J8.out.selfI S8.out)
                  obtain ⟨⟨b0, b1, b2⟩, ⟨f0, f1, f2⟩, bl⟩ := J8.out.cells
                  go_wp2_with fail
                  go_region_with (go_at_call 105; refine (compactI_any w.heap.size (.slice (some ⟨g4, 0, none⟩) S.length c4) (sortI S) _ ?sc (by rw [sortI_len]; exact HPOS.out.1) (by rw [sortI_len]; exact HPOS.out.2)).mono ?_; (case sc => first | exact S8.out | exact Kd.R_drew S8.out | exact S8s.out | exact Kd.R_drew S8s.out); rintro e w9 ⟨v9, rfl, h9, hg9⟩; have J9 := Aside0.mk (BkI.grow (by first | exact J8.out | exact J8.out.drew | exact J8s.out | exact J8s.out.drew) (by first | exact S8.out | exact Kd.R_drew S8.out | exact S8s.out | exact Kd.R_drew S8s.out) hg9); have S9 := Aside0.mk h9; clear h9 hg9; obtain ⟨⟨n0, n1, n2⟩, ⟨g0, g1, g2⟩, nl⟩ := J9.out.cells)
                  all_goals go_wp2_with fail
                  all_goals clear n0 n1 n2 g0 g1 g2 nl b0 b1 b2 f0 f1 f2 bl
                  all_goals (
                    first
                    | (obtain ⟨W', hW'⟩ : ∃ W', (((w9.setCell ⟨w.heap.size + 1, 0, none⟩ (.slice (some a0) first.length c0)).setCell ⟨w.heap.size + 1, 1, none⟩ (.slice A1 changes.length c1)).setCell ⟨w.heap.size + 1, 2, none⟩ (.slice Ap ps.length cp)) = W' := ⟨_, rfl⟩
                       have JW := J9.out.self
                       have SW := J9.out.selfI S9.out
                       rw [hW'] at JW SW
                       rw [hW'])
                    | (obtain ⟨W', hW'⟩ : ∃ W', w9 = W' := ⟨_, rfl⟩
                       subst hW'
                       have JW := J9.out
                       have SW := S9.out)
                    obtain ⟨⟨q0, q1, q2⟩, _, _⟩ := JW.cells
                    have hce' := HCE.out
                    have hbo := HP.out.clash SPAN.out (by rw [hce']; exact List.length_pos_iff.1 HPOS.out.1)
                    rw [hce'] at hbo
                    rw [hbo]
                    refine bodyPost_ret (v := .tuple #[.agg #[.slice (some a0) first.length c0, .slice A1 changes.length c1, .slice Ap ps.length cp], .int .i64 c.f0, v9]) (by simp [results, Tryz.results67, go_sem, q0, q1, q2]) rfl ?_
                    exact ⟨_, _, rfl, JW.hp, SW, fun h => absurd h (compact_ne (by have h1 := HPOS.out.1; rw [← sortI_len] at h1; exact List.length_pos_iff.1 h1)), JW.hb⟩)
end Go.Proofs.YtdjlfdbnmnjccaaGreat.St
end
