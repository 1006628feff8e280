/- A part of the proofs of the laws of this seat: the walks of the program's functions, and lemmas. They hold without conditions. -/
import Derived.Test.YtdjlfdbnmnjccaaGreatB03
import Derived.Test.YtdjlfdbnmnjccaaGreatB09
import Derived.Test.YtdjlfdbnmnjccaaGreatB24
set_option linter.all false
set_option linter.unusedSectionVars false
section
set_option linter.unusedVariables false
set_option linter.unusedSimpArgs false
namespace Go.Proofs.YtdjlfdbnmnjccaaGreat.St
open Go.RowKit Go.Proofs.YtdjlfdbnmnjccaaGreatW.PrintWords Go.Proofs.YtdjlfdbnmnjccaaGreatW.PrintLast Go.Proofs.YtdjlfdbnmnjccaaGreatW.PrintMore
theorem cntL_two {α : Type} [DecidableEq α] (l : List α) (i : Nat) (h : i < l.length) : 1 < cntL l[i] l ↔ ∃ j, ∃ hj : j < l.length, j ≠ i ∧ l[j] = l[i] := by
  have key : cntL l[i] l = ((l.take i).filter (fun y => decide (y = l[i]))).length + 1 + ((l.drop (i + 1)).filter (fun y => decide (y = l[i]))).length := by
    have e : l = l.take i ++ l[i] :: l.drop (i + 1) := by rw [← List.drop_eq_getElem_cons h, List.take_append_drop]
    have e2 : ∀ x, x = l[i] → (l.filter fun y => decide (y = x)).length = ((l.take i).filter (fun y => decide (y = x))).length + (1 + ((l.drop (i + 1)).filter (fun y => decide (y = x))).length) := by
      intro x hx
      rw [← hx] at e
      conv => lhs; rw [e]
      rw [List.filter_append, List.filter_cons, if_pos (by simp), List.length_append, List.length_cons]
      omega
    have := e2 _ rfl
    unfold cntL
    omega
  rw [key]
  constructor
  · intro h1
    have : 0 < ((l.take i).filter (fun y => decide (y = l[i]))).length ∨ 0 < ((l.drop (i + 1)).filter (fun y => decide (y = l[i]))).length := by omega
    rcases this with h2 | h2
    · obtain ⟨y, hy⟩ := List.exists_mem_of_length_pos h2
      obtain ⟨hy1, hy2⟩ := List.mem_filter.1 hy
      obtain ⟨j, hj, e⟩ := List.mem_iff_getElem.1 hy1
      rw [List.length_take] at hj
      refine ⟨j, by omega, by omega, ?_⟩
      rw [List.getElem_take] at e
      rw [e]; simpa using hy2
    · obtain ⟨y, hy⟩ := List.exists_mem_of_length_pos h2
      obtain ⟨hy1, hy2⟩ := List.mem_filter.1 hy
      obtain ⟨j, hj, e⟩ := List.mem_iff_getElem.1 hy1
      rw [List.length_drop] at hj
      refine ⟨i + 1 + j, by omega, by omega, ?_⟩
      rw [List.getElem_drop] at e
      rw [e]; simpa using hy2
  · rintro ⟨j, hj, hne, e⟩
    by_cases hlt : j < i
    · have : 0 < ((l.take i).filter (fun y => decide (y = l[i]))).length := by
        refine List.length_pos_of_mem (a := l[j]) (List.mem_filter.2 ⟨?_, by simpa using e⟩)
        exact List.mem_iff_getElem.2 ⟨j, by rw [List.length_take]; omega, by rw [List.getElem_take]⟩
      omega
    · have : 0 < ((l.drop (i + 1)).filter (fun y => decide (y = l[i]))).length := by
        refine List.length_pos_of_mem (a := l[j]) (List.mem_filter.2 ⟨?_, by simpa using e⟩)
        refine List.mem_iff_getElem.2 ⟨j - (i + 1), by rw [List.length_drop]; omega, ?_⟩
        rw [List.getElem_drop]
        congr 1
        omega
      omega
theorem mem_twins {α : Type} [DecidableEq α] (d : α) (l : List α) (x : Int) : x ∈ twinsL d l ↔ ∃ i : Nat, ∃ h : i < l.length, (x = i) ∧ 1 < cntL l[i] l := by
  unfold twinsL twinsTo
  rw [filter_mem]
  constructor
  · rintro ⟨s, hs, h1, rfl⟩
    refine ⟨s, hs, rfl, ?_⟩
    simpa [List.getD_eq_getElem?_getD, hs] using h1
  · rintro ⟨i, hi, rfl, h1⟩
    exact ⟨i, hi, by simpa [List.getD_eq_getElem?_getD, hi] using h1, rfl⟩
theorem cntL_mem {α : Type} [DecidableEq α] {x : α} {l : List α} (h : 0 < cntL x l) : x ∈ l := by
  unfold cntL at h
  obtain ⟨y, hy⟩ := List.exists_mem_of_length_pos (l := l.filter fun y => decide (y = x)) (by omega)
  obtain ⟨h1, h2⟩ := List.mem_filter.1 hy
  rw [show x = y from by simpa using (of_decide_eq_true h2).symm]
  exact h1
theorem mem_twice (l : List Int) (x : Int) : x ∈ (twinsL (0 : Int) l).map (fun i => rd l i) ↔ 1 < cntL x l := by
  rw [List.mem_map]
  constructor
  · rintro ⟨i, hi, rfl⟩
    obtain ⟨k, hk, rfl, h1⟩ := (mem_twins _ _ _).1 hi
    rw [rd_at hk]
    exact h1
  · intro h
    obtain ⟨k, hk, e⟩ := List.mem_iff_getElem.1 (cntL_mem (x := x) (l := l) (by omega))
    exact ⟨k, (mem_twins _ _ _).2 ⟨k, hk, rfl, by rw [e]; exact h⟩, by rw [rd_at hk, e]⟩
theorem many_map (s h : Int) : ∀ (g : List S60), (∀ c ∈ g, c.f0 = h) → cntL s (g.map (·.f1)) = manyP s h g
  | [], _ => rfl
  | c :: g, hg => by
    have ih := many_map s h g (fun d hd => hg d (List.mem_cons_of_mem _ hd))
    have h0 := hg c (List.mem_cons_self ..)
    rw [manyP_cons, List.map_cons]
    unfold cntL at ih ⊢
    rw [List.filter_cons]
    by_cases e : c.f1 = s
    · rw [if_pos (by simpa using e), if_pos ⟨h0, e⟩, List.length_cons]; omega
    · rw [if_neg (by simpa using e), if_neg (fun k => e k.2)]; omega
theorem many_none (s h : Int) (g : List S60) (hg : ∀ c ∈ g, c.f0 ≠ h) : manyP s h g = 0 := by
  unfold manyP
  rw [List.length_eq_zero_iff, List.filter_eq_nil_iff]
  intro c hc
  simp [hg c hc]
theorem many_append (s h : Int) (g r : List S60) : manyP s h (g ++ r) = manyP s h g + manyP s h r := by unfold manyP; rw [List.filter_append, List.length_append]
theorem many_perm {l l' : List S60} (h : l.Perm l') (s t : Int) : manyP s t l = manyP s t l' := (h.filter _).length_eq
theorem many_one {s h : Int} {l : List S60} (hm : manyP s h l ≤ 1) {c d : S60} (hc : c ∈ l) (hd : d ∈ l) (c0 : c.f0 = h) (c1 : c.f1 = s) (d0 : d.f0 = h) (d1 : d.f1 = s) : c = d := by
  have e1 : c ∈ l.filter fun c => decide (c.f0 = h) && decide (c.f1 = s) := List.mem_filter.2 ⟨hc, by simp [c0, c1]⟩
  have e2 : d ∈ l.filter fun c => decide (c.f0 = h) && decide (c.f1 = s) := List.mem_filter.2 ⟨hd, by simp [d0, d1]⟩
  have hm' : (l.filter fun c => decide (c.f0 = h) && decide (c.f1 = s)).length ≤ 1 := hm
  generalize (l.filter fun c => decide (c.f0 = h) && decide (c.f1 = s)) = F at e1 e2 hm'
  match F, e1, e2, hm' with
  | [], e1, _, _ => cases e1
  | [x], e1, e2, _ => rw [List.mem_singleton.1 e1, List.mem_singleton.1 e2]
  | x :: y :: z, _, _, hm' => simp at hm'
theorem setNames_get (s : Nat) : ∀ (g : List S60) (ns : List ByteArray), s < ns.length → (∀ c ∈ g, 0 ≤ c.f1) →
    (∃ c ∈ g, c.f1 = s ∧ (setNames ns g)[s]? = some c.f2) ∨ ((∀ c ∈ g, c.f1 ≠ s) ∧ (setNames ns g)[s]? = ns[s]?)
  | [], ns, _, _ => .inr ⟨by simp, rfl⟩
  | c :: g, ns, hs, hg => by
    have ih := setNames_get s g (ns.set c.f1.toNat c.f2) (by rwa [List.length_set]) (fun d hd => hg d (List.mem_cons_of_mem _ hd))
    have h0 := hg c (List.mem_cons_self ..)
    show (∃ d ∈ c :: g, d.f1 = s ∧ (setNames (ns.set c.f1.toNat c.f2) g)[s]? = some d.f2) ∨ _ ∧ (setNames (ns.set c.f1.toNat c.f2) g)[s]? = ns[s]?
    rcases ih with ⟨d, hd, h1, h2⟩ | ⟨h1, h2⟩
    · exact .inl ⟨d, List.mem_cons_of_mem _ hd, h1, h2⟩
    · by_cases e : c.f1 = s
      · refine .inl ⟨c, List.mem_cons_self .., e, ?_⟩
        rw [h2, show c.f1.toNat = s by omega, List.getElem?_set_self hs]
      · refine .inr ⟨fun d hd => ?_, ?_⟩
        · rcases List.mem_cons.1 hd with rfl | hd
          · exact e
          · exact h1 d hd
        · rw [h2, List.getElem?_set_ne (by omega)]
end Go.Proofs.YtdjlfdbnmnjccaaGreat.St
end
section
set_option linter.unusedVariables false
set_option linter.unusedSimpArgs false
namespace Go.Proofs.YtdjlfdbnmnjccaaGreat.St
open Go.RowKit Go.Proofs.YtdjlfdbnmnjccaaGreatW.PrintWords Go.Proofs.YtdjlfdbnmnjccaaGreatW.PrintLast Go.Proofs.YtdjlfdbnmnjccaaGreatW.PrintMore
theorem alike_twins (first : List ByteArray) (changes : List S60) (h : Int) (N : List ByteArray) (hN : N.length = first.length) (hNs : ∀ s, s < first.length → N[s]? = some (calledP first changes s h)) :
    alikeTo first changes h first.length = twinsL ByteArray.empty N := by
  refine asc_ext (filter_asc _ _) (filter_asc _ _) (fun x => ?_)
  rw [show x ∈ twinsL ByteArray.empty N ↔ _ from mem_twins _ _ _]
  unfold alikeTo
  rw [filter_mem]
  have hget : ∀ (s : Nat) (hs : s < N.length), N[s] = calledP first changes s h := fun s hs => by
    have := hNs s (by omega)
    rw [List.getElem?_eq_getElem hs] at this
    exact Option.some.inj this
  have key : ∀ (s : Nat) (hs : s < N.length), sameP first changes h s first.length = true ↔ 1 < cntL N[s] N := by
    intro s hs
    rw [cntL_two]
    unfold sameP
    rw [List.any_eq_true]
    constructor
    · rintro ⟨o, ho, e⟩
      rw [List.mem_range] at ho
      simp only [Bool.and_eq_true, bne_iff_ne, ne_eq, beq_iff_eq] at e
      refine ⟨o, by omega, e.1, ?_⟩
      rw [hget o (by omega), hget s hs]
      have e2 := e.2
      rw [Go.ByteArray.toList_eq, Go.ByteArray.toList_eq] at e2
      exact ByteArray.ext (Array.toList_inj.1 e2)
    · rintro ⟨o, ho, h1, e⟩
      refine ⟨o, List.mem_range.2 (by omega), ?_⟩
      rw [hget o ho, hget s hs] at e
      simp [h1, e]
  constructor
  · rintro ⟨s, hs, h1, rfl⟩
    exact ⟨s, by omega, rfl, (key s (by omega)).1 h1⟩
  · rintro ⟨s, hs, rfl, h1⟩
    exact ⟨s, by omega, (key s hs).2 h1, rfl⟩
structure BkV (first : List ByteArray) (changes : List S60) (H : Int) (ns : List ByteArray) (rest : List S60) : Prop where
  len : ns.length = first.length
  nm : ∀ s, s < first.length → ns[s]? = some (calledP first changes s H)
  srt : rest.Pairwise fun c d => c.f0 ≤ d.f0
  mem : ∀ c, c ∈ rest ↔ c ∈ changes ∧ H < c.f0
  many : ∀ s h, H < h → manyP s h rest = manyP s h changes
  nd : twinsL ByteArray.empty ns = []
theorem twice_none {changes : List S60} {h : Int} (hm : ∀ s, manyP s h changes ≤ 1) (m : Nat) : twiceTo changes h m = [] := by
  unfold twiceTo
  rw [List.map_eq_nil_iff, List.filter_eq_nil_iff]
  intro s _
  have := hm s
  simp; omega
theorem BkV.later {first : List ByteArray} {changes : List S60} {H h : Int} {ns : List ByteArray} {rest : List S60} (B : BkV first changes H ns rest) (hH : H < h) (hr : ∀ c ∈ rest, h < c.f0) (s : Int) : calledP first changes s h = calledP first changes s H := by
  unfold calledP
  refine calledL_same s h H changes _ _ (fun c hc _ => ⟨fun k => ?_, fun k => by omega⟩)
  exact Classical.byContradiction fun hh => by
    have := hr c ((B.mem c).2 ⟨hc, by omega⟩)
    omega
theorem BkV.between {first : List ByteArray} {changes : List S60} {H h : Int} {ns : List ByteArray} {rest : List S60} (B : BkV first changes H ns rest) (hH : H < h) (hr : ∀ c ∈ rest, h < c.f0) : clashP first changes h = [] := by
  have e1 : twiceTo changes h first.length = [] := twice_none (fun s => by rw [← B.many s h hH, many_none s h rest (fun c hc e => by have := hr c hc; omega)]; omega) _
  have e2 := alike_twins first changes h ns B.len (fun s hs => by rw [B.nm s hs, B.later hH hr])
  unfold clashP
  rw [e1, if_neg (by simp), e2, B.nd]
theorem spanP_eq (h : Int) : ∀ (l : List S60), ∀ c ∈ l.takeWhile (fun d => decide (d.f0 = h)), c.f0 = h
  | [], c, hc => by simp at hc
  | x :: l, c, hc => by
    rw [List.takeWhile_cons] at hc
    by_cases e : x.f0 = h
    · rw [if_pos (by simpa using e)] at hc
      rcases List.mem_cons.1 hc with rfl | hc
      · exact e
      · exact spanP_eq h l c hc
    · rw [if_neg (by simpa using e)] at hc
      cases hc
theorem spanP_gt (h : Int) : ∀ (l : List S60), l.Pairwise (fun c d => c.f0 ≤ d.f0) → (∀ c ∈ l, h ≤ c.f0) → ∀ c ∈ l.dropWhile (fun d => decide (d.f0 = h)), h < c.f0
  | [], _, _, c, hc => by simp at hc
  | x :: l, hp, hl, c, hc => by
    rw [List.pairwise_cons] at hp
    rw [List.dropWhile_cons] at hc
    by_cases e : x.f0 = h
    · rw [if_pos (by simpa using e)] at hc
      exact spanP_gt h l hp.2 (fun d hd => hl d (List.mem_cons_of_mem _ hd)) c hc
    · rw [if_neg (by simpa using e)] at hc
      have h0 := hl x (List.mem_cons_self ..)
      rcases List.mem_cons.1 hc with rfl | hc
      · omega
      · have := hp.1 c hc; omega
theorem BkV.group {first : List ByteArray} {changes : List S60} {H : Int} {ns : List ByteArray} {c : S60} {cs : List S60} (B : BkV first changes H ns (c :: cs)) (hv : ∀ d ∈ changes, 0 ≤ d.f1 ∧ d.f1 < first.length) (hH0 : 0 ≤ H)
    {g : List S60} (hg : g = (c :: cs).takeWhile fun d => decide (d.f0 = c.f0)) :
    clashP first changes c.f0 = Lib.compact (sortI (clashOf (g.map (·.f1)) (setNames ns g))) ∧
    (clashOf (g.map (·.f1)) (setNames ns g) = [] → BkV first changes c.f0 (setNames ns g) ((c :: cs).dropWhile fun d => decide (d.f0 = c.f0))) := by
  have hHc : H < c.f0 := ((B.mem c).1 (List.mem_cons_self ..)).2
  obtain ⟨rem, hrem⟩ : ∃ rem, (c :: cs).dropWhile (fun d => decide (d.f0 = c.f0)) = rem := ⟨_, rfl⟩
  have happ : c :: cs = g ++ rem := by rw [hg, ← hrem, List.takeWhile_append_dropWhile]
  have hge : ∀ d ∈ g, d.f0 = c.f0 := by rw [hg]; exact spanP_eq c.f0 _
  have hle : ∀ d ∈ c :: cs, c.f0 ≤ d.f0 := by
    intro d hd
    rcases List.mem_cons.1 hd with rfl | hd
    · exact Int.le_refl _
    · exact (List.pairwise_cons.1 B.srt).1 d hd
  have hrg : ∀ d ∈ rem, c.f0 < d.f0 := by rw [← hrem]; exact spanP_gt c.f0 _ B.srt hle
  have hmany : ∀ s, cntL s (g.map (·.f1)) = manyP s c.f0 changes := by
    intro s
    rw [many_map s c.f0 g hge, ← B.many s c.f0 hHc, happ, many_append, many_none s c.f0 rem (fun d hd e => by have := hrg d hd; omega)]
    rfl
  have hgm : ∀ d ∈ g, d ∈ changes := fun d hd => ((B.mem d).1 (by rw [happ]; exact List.mem_append_left _ hd)).1
  have htw : twiceTo changes c.f0 first.length = Lib.compact (sortI ((twinsL (0 : Int) (g.map (·.f1))).map fun i => rd (g.map (·.f1)) i)) := by
    obtain ⟨k1, k2⟩ := compact_sort ((twinsL (0 : Int) (g.map (·.f1))).map fun i => rd (g.map (·.f1)) i)
    refine asc_ext (filter_asc _ _) k1 (fun x => ?_)
    rw [k2, mem_twice, hmany]
    unfold twiceTo
    rw [filter_mem]
    constructor
    · rintro ⟨s, hs, h1, rfl⟩
      have := of_decide_eq_true h1
      omega
    · intro h1
      have h2 : x ∈ g.map (·.f1) := cntL_mem (by rw [hmany]; omega)
      obtain ⟨d, hd, rfl⟩ := List.mem_map.1 h2
      obtain ⟨v1, v2⟩ := hv d (hgm d hd)
      refine ⟨d.f1.toNat, by omega, ?_, by omega⟩
      rw [show ((d.f1.toNat : Nat) : Int) = d.f1 by omega]
      simp; omega
  by_cases e : twinsL (0 : Int) (g.map (·.f1)) = []
  · have hone : ∀ s, manyP s c.f0 changes ≤ 1 := by
      intro s
      refine Classical.byContradiction fun hh => ?_
      have : s ∈ (twinsL (0 : Int) (g.map (·.f1))).map fun i => rd (g.map (·.f1)) i := (mem_twice _ _).2 (by rw [hmany]; omega)
      rw [e] at this
      cases this
    have hnm : ∀ s, s < first.length → (setNames ns g)[s]? = some (calledP first changes s c.f0) := by
      intro s hs
      rcases setNames_get s g ns (by rw [B.len]; exact hs) (fun d hd => (hv d (hgm d hd)).1) with ⟨d, hd, d1, d2⟩ | ⟨h1, h2⟩
      · rw [d2]
        congr 1
        have d0 := hge d hd
        rcases calledL_spec s c.f0 changes (rdOf ByteArray.empty first s) 0 with ⟨_, k2⟩ | ⟨x, hx, x1, x2, x3, x4, x5⟩
        · have := k2 d (hgm d hd) d1 (by omega); omega
        · have h5 := x5 d (hgm d hd) d1 (by omega)
          have hxd : d = x := many_one (hone s) (hgm d hd) hx d0 d1 (by omega) x1
          subst hxd
          exact x4.symm
      · rw [h2, B.nm s hs]
        congr 1
        unfold calledP
        refine (calledL_same s c.f0 H changes _ _ (fun x hx x1 => ⟨fun k => ?_, fun k => by omega⟩)).symm
        refine Classical.byContradiction fun hh => ?_
        have hm : x ∈ c :: cs := (B.mem x).2 ⟨hx, by omega⟩
        rw [happ] at hm
        rcases List.mem_append.1 hm with h3 | h3
        · exact h1 x h3 x1
        · have := hrg x h3; omega
    have e0 : twiceTo changes c.f0 first.length = [] := twice_none hone _
    have ea := alike_twins first changes c.f0 (setNames ns g) (by rw [setNames_len, B.len]) hnm
    have eq : clashOf (g.map (·.f1)) (setNames ns g) = twinsL ByteArray.empty (setNames ns g) := by unfold clashOf; rw [if_pos e]
    rw [eq]
    refine ⟨?_, fun hnil => ⟨by rw [setNames_len, B.len], hnm, ?_, fun d => ?_, fun s h hh => ?_, hnil⟩⟩
    · unfold clashP
      rw [e0, if_neg (by simp), ea]
      obtain ⟨k1, k2⟩ := compact_sort (twinsL ByteArray.empty (setNames ns g))
      exact asc_ext (filter_asc _ _) k1 (fun x => (k2 x).symm)
    · have := B.srt
      rw [happ] at this
      rw [hrem]
      exact (List.pairwise_append.1 this).2.1
    · rw [hrem]
      constructor
      · intro hd
        exact ⟨((B.mem d).1 (by rw [happ]; exact List.mem_append_right _ hd)).1, hrg d hd⟩
      · rintro ⟨h1, h2⟩
        have : d ∈ c :: cs := (B.mem d).2 ⟨h1, by omega⟩
        rw [happ] at this
        rcases List.mem_append.1 this with h3 | h3
        · have := hge d h3; omega
        · exact h3
    · rw [hrem, ← B.many s h (by omega), happ, many_append, many_none s h g (fun d hd e => by have := hge d hd; omega), Nat.zero_add]
  · have eq : clashOf (g.map (·.f1)) (setNames ns g) = (twinsL (0 : Int) (g.map (·.f1))).map fun i => rd (g.map (·.f1)) i := by unfold clashOf; rw [if_neg e]
    rw [eq]
    refine ⟨?_, fun hnil => absurd (List.map_eq_nil_iff.1 hnil) e⟩
    unfold clashP
    rw [if_pos ?_, htw]
    rw [htw]
    refine List.length_pos_iff.2 (fun hnil => ?_)
    obtain ⟨x, hx⟩ := List.exists_mem_of_ne_nil _ (fun h => e (List.map_eq_nil_iff.1 h) : (twinsL (0 : Int) (g.map (·.f1))).map (fun i => rd (g.map (·.f1)) i) ≠ [])
    have := ((compact_sort _).2 x).2 hx
    rw [hnil] at this
    cases this
end Go.Proofs.YtdjlfdbnmnjccaaGreat.St
end
section
set_option linter.unusedVariables false
set_option linter.unusedSimpArgs false
namespace Go.Proofs.YtdjlfdbnmnjccaaGreat.St
open Go.RowKit Go.Proofs.YtdjlfdbnmnjccaaGreatW.PrintWords Go.Proofs.YtdjlfdbnmnjccaaGreatW.PrintLast Go.Proofs.YtdjlfdbnmnjccaaGreatW.PrintMore
theorem drop_len (p : S60 → Bool) : ∀ l : List S60, (l.dropWhile p).length ≤ l.length
  | [] => Nat.le_refl _
  | x :: l => by
    rw [List.dropWhile_cons]
    split
    · have := drop_len p l; simp; omega
    · exact Nat.le_refl _
theorem book_first (first : List ByteArray) (changes : List S60) (hv : ∀ d ∈ changes, (1 ≤ d.f0 ∧ d.f0 ≤ 1000) ∧ (0 ≤ d.f1 ∧ d.f1 < first.length)) :
    ∀ (fuel : Nat) (ns : List ByteArray) (rest : List S60) (ps : List S167) (H : Int), rest.length < fuel → BkV first changes H ns rest → 0 ≤ H →
      ((bookFrom fuel ns rest ps).2.2 = [] ∧ ∀ h, H < h → clashP first changes h = []) ∨
      ((bookFrom fuel ns rest ps).2.2 ≠ [] ∧ H < (bookFrom fuel ns rest ps).2.1 ∧ (bookFrom fuel ns rest ps).2.1 ≤ 1000 ∧ clashP first changes (bookFrom fuel ns rest ps).2.1 = (bookFrom fuel ns rest ps).2.2 ∧ ∀ h, H < h → h < (bookFrom fuel ns rest ps).2.1 → clashP first changes h = [])
  | 0, _, _, _, _, hl, _, _ => by omega
  | fuel + 1, ns, [], ps, H, hl, B, hH => .inl ⟨rfl, fun h hh => B.between hh (by simp)⟩
  | fuel + 1, ns, c :: cs, ps, H, hl, B, hH => by
    have hc := (B.mem c).1 (List.mem_cons_self ..)
    obtain ⟨g1, g2⟩ := B.group (fun d hd => (hv d hd).2) hH (g := (c :: cs).takeWhile fun d => decide (d.f0 = c.f0)) rfl
    have hbt : ∀ h, H < h → h < c.f0 → clashP first changes h = [] := fun h h1 h2 => B.between h1 (fun d hd => by
      rcases List.mem_cons.1 hd with rfl | hd
      · exact h2
      · have := (List.pairwise_cons.1 B.srt).1 d hd; omega)
    unfold bookFrom
    by_cases e : clashOf (((c :: cs).takeWhile fun d => decide (d.f0 = c.f0)).map (·.f1)) (setNames ns ((c :: cs).takeWhile fun d => decide (d.f0 = c.f0))) = []
    · rw [if_pos e]
      have hz : clashP first changes c.f0 = [] := by rw [g1, e, sortI_isI]; rfl
      have hlen : ((c :: cs).dropWhile fun d => decide (d.f0 = c.f0)).length < fuel := by
        rw [List.dropWhile_cons, if_pos (by simp)]
        have := drop_len (fun d => decide (d.f0 = c.f0)) cs
        simp at hl; omega
      have ih := book_first first changes hv fuel _ _ (ps ++ [⟨c.f0, setNames ns ((c :: cs).takeWhile fun d => decide (d.f0 = c.f0))⟩]) c.f0 hlen (g2 e) (by omega)
      have hup : ∀ h, H < h → ¬ c.f0 < h → clashP first changes h = [] := fun h h1 h2 => by
        by_cases h3 : h = c.f0
        · rw [h3]; exact hz
        · exact hbt h h1 (by omega)
      rcases ih with ⟨i1, i2⟩ | ⟨i1, i2, i3, i4, i5⟩
      · refine .inl ⟨i1, fun h h1 => ?_⟩
        by_cases h2 : c.f0 < h
        · exact i2 h h2
        · exact hup h h1 h2
      · refine .inr ⟨i1, by omega, i3, i4, fun h h1 h3 => ?_⟩
        by_cases h2 : c.f0 < h
        · exact i5 h h2 h3
        · exact hup h h1 h2
    · rw [if_neg e]
      refine .inr ⟨compact_ne (fun h => e ?_), hc.2, (hv c hc.1).1.2, g1, hbt⟩
      have := (sortI_perm (clashOf (((c :: cs).takeWhile fun d => decide (d.f0 = c.f0)).map (·.f1)) (setNames ns ((c :: cs).takeWhile fun d => decide (d.f0 = c.f0))))).length_eq
      rw [h] at this
      exact List.eq_nil_of_length_eq_zero this.symm
theorem start_ok (first : List ByteArray) (changes : List S60) (hv : ∀ d ∈ changes, 1 ≤ d.f0) (hnd : twinsL ByteArray.empty first = []) : BkV first changes 0 first (sortC changes) := by
  obtain ⟨hp, hs⟩ := sortC_spec changes
  refine ⟨rfl, fun s hs => ?_, ?_, fun c => ?_, fun s h _ => many_perm hp s h, hnd⟩
  · have e : calledP first changes s 0 = rdOf ByteArray.empty first s := by
      rcases calledL_spec s 0 changes (rdOf ByteArray.empty first s) 0 with ⟨k, _⟩ | ⟨x, hx, _, x2, _, _, _⟩
      · exact k
      · have := hv x hx; omega
    rw [e]
    unfold rdOf
    rw [Int.toNat_natCast, List.getD_eq_getElem?_getD, List.getElem?_eq_getElem hs]
    rfl
  · rw [List.pairwise_iff_getElem]
    exact fun i j hi hj hij => hs i j hij hj
  · rw [hp.mem_iff]
    exact ⟨fun h => ⟨h, by have := hv c h; omega⟩, fun h => h.1⟩
theorem firstP_none (first : List ByteArray) (changes : List S60) : ∀ (d : Nat) (h : Int), (∀ x, h ≤ x → clashP first changes x = []) → firstP first changes d h = (1001, [])
  | 0, _, _ => rfl
  | d + 1, h, hx => by
    rw [firstP_succ, hx h (Int.le_refl _), if_neg (by simp)]
    exact firstP_none first changes d (h + 1) (fun x h1 => hx x (by omega))
theorem firstP_some (first : List ByteArray) (changes : List S60) (H : Int) (hH : clashP first changes H ≠ []) : ∀ (d : Nat) (h : Int), h ≤ H → H < h + d → (∀ x, h ≤ x → x < H → clashP first changes x = []) → firstP first changes d h = (H, clashP first changes H)
  | 0, h, h1, h2, _ => by omega
  | d + 1, h, h1, h2, hx => by
    rw [firstP_succ]
    by_cases e : h = H
    · subst e
      rw [if_pos (List.length_pos_iff.2 hH)]
    · rw [hx h (Int.le_refl _) (by omega), if_neg (by simp)]
      exact firstP_some first changes H hH d (h + 1) (by omega) (by omega) (fun x k1 k2 => hx x (by omega) k2)
theorem clash_law (first : List ByteArray) (changes : List S60) (h0 : checkE first changes = 0) :
    ((firstP first changes 1000 1).1 = 1001 ∧ clashR first changes = (0, [], 6)) ∨
    ((firstP first changes 1000 1).1 ≤ 1000 ∧ clashR first changes = ((firstP first changes 1000 1).1, (firstP first changes 1000 1).2, 0)) := by
  obtain ⟨_, _, _, hnd, _, hch⟩ := check_ok h0
  have hv : ∀ d ∈ changes, (1 ≤ d.f0 ∧ d.f0 ≤ 1000) ∧ (0 ≤ d.f1 ∧ d.f1 < first.length) := by
    intro d hd
    have := hch d hd
    unfold isChangeB at this
    simp only [Bool.and_eq_true, decide_eq_true_eq] at this
    omega
  have hb := book_first first changes hv (changes.length + 1) first (sortC changes) [⟨0, first⟩] 0 (by rw [sortC_len]; omega) (start_ok first changes (fun d hd => (hv d hd).1.1) hnd) (Int.le_refl _)
  rw [show bookFrom (changes.length + 1) first (sortC changes) [⟨0, first⟩] = bookOf first changes from rfl] at hb
  unfold clashR
  rw [if_pos h0]
  rcases hb with ⟨b1, b2⟩ | ⟨b1, b2, b3, b4, b5⟩
  · left
    rw [firstP_none first changes 1000 1 (fun x hx => b2 x (by omega)), if_pos b1]
    exact ⟨rfl, rfl⟩
  · right
    rw [firstP_some first changes (bookOf first changes).2.1 (by rw [b4]; exact b1) 1000 1 (by omega) (by omega) (fun x h1 h2 => b5 x (by omega) h2), if_neg b1, b4]
    exact ⟨b3, rfl⟩
end Go.Proofs.YtdjlfdbnmnjccaaGreat.St
end
section
namespace Go.Proofs.YtdjlfdbnmnjccaaGreat.St
open Go.RowKit Go.Proofs.YtdjlfdbnmnjccaaGreatW.PrintWords Go.Proofs.YtdjlfdbnmnjccaaGreatW.PrintLast Go.Proofs.YtdjlfdbnmnjccaaGreatW.PrintMore
attribute [local go_sem] max2_int min2_int max_two min_two max_three min_three max_four min_four
set_option linter.unusedVariables false
set_option linter.unusedSimpArgs false
def smaltoref08_In.f (a0 : Int) (a1 : Int) (a2 : Int) : Option (Bool) := if a0 ≥ a1 then (some (decide (a0 ≤ a2))) else (some false)
set_option maxHeartbeats 8000000 in
set_option maxRecDepth 100000 in
theorem smaltoref08_In.calls (a0 : Int) (a1 : Int) (a2 : Int) (r : Bool) (w : World) (h : smaltoref08_In.f a0 a1 a2 = some r) :
    Calls Tryz.prog 22 #[.int .i64 a0, .int .i64 a1, .int .i64 a2] w fun e w' => e = .returned (.bool r) ∧ Drawn0 w w' := by
  have H : (if a0 ≥ a1 then (some (decide (a0 ≤ a2))) else (some false)) = some r := h
  clear h
  by_cases c4 : a0 ≥ a1
  · rw [if_pos c4] at H
    have c4b0 : decide (a1 ≤ a0) = true := decide_eq_true c4
    clear c4
    obtain rfl := Option.some.inj H
    go_enter Tryz.func22, Tryz.ntmps22
    go_wp2
    go_ret
    exact ⟨by first | rfl | (simp; done) | (simp [*]; done), by repeat (first | exact Drawn0.refl _ | apply Drawn0.step)⟩
  · rw [if_neg c4] at H
    have c4b0 : decide (a1 ≤ a0) = false := decide_eq_false c4
    clear c4
    obtain rfl := Option.some.inj H
    go_enter Tryz.func22, Tryz.ntmps22
    go_wp2
    go_ret
    exact ⟨by first | rfl | (simp; done) | (simp [*]; done), by repeat (first | exact Drawn0.refl _ | apply Drawn0.step)⟩
end Go.Proofs.YtdjlfdbnmnjccaaGreat.St
end
section
namespace Go.Proofs.YtdjlfdbnmnjccaaGreat.St
open Go.RowKit Go.Proofs.YtdjlfdbnmnjccaaGreatW.PrintWords Go.Proofs.YtdjlfdbnmnjccaaGreatW.PrintLast Go.Proofs.YtdjlfdbnmnjccaaGreatW.PrintMore
attribute [local go_sem] max2_int min2_int max_two min_two max_three min_three max_four min_four
set_option linter.unusedVariables false
set_option linter.unusedSimpArgs false
def smaltoref08_Name.l0 : Nat → ByteArray → Int → Option (Bool)
  | 0, _, _ => none
  | k + 1, x0, x3 => if x3 < (x0.size : Int) then (if 0 ≤ x3 then (if (bt x0 x3) < 97 then (some false) else (if (bt x0 x3) > 122 then (some false) else (smaltoref08_Name.l0 k x0 (wrap64 (x3 + 1))))) else (none)) else ((smaltoref08_In.f (x0.size : Int) 1 10).bind fun t337 => (some t337))
def smaltoref08_Name.f (k : Nat) (a0 : ByteArray) : Option (Bool) := smaltoref08_Name.l0 k a0 0
theorem smaltoref08_Name.mono_l : ∀ k, (∀ y0 y1, LeO (smaltoref08_Name.l0 k y0 y1) (smaltoref08_Name.l0 (k + 1) y0 y1))
  | 0 => fun _ _ r h => by simp [smaltoref08_Name.l0] at h
  | k + 1 => by
    have ih0 := smaltoref08_Name.mono_l k
    · intro y0 y1
      unfold smaltoref08_Name.l0
      repeat' first
      | (with_reducible exact ih0 _ _)
      | (with_reducible exact LeO.refl _)
      | (with_reducible exact LeO.none _)
      | (with_reducible refine LeO.ite ?_ ?_)
      | (with_reducible refine LeO.bind ?_ (fun _ => ?_))
      | exact ih0 _ _
      | exact LeO.none _
      | refine LeO.ite ?_ ?_
      | refine LeO.bind ?_ (fun _ => ?_)
theorem smaltoref08_Name.mono : ∀ a0 k, LeO (smaltoref08_Name.f k a0) (smaltoref08_Name.f (k + 1) a0) := by
  intro a0 k
  have ih0 := smaltoref08_Name.mono_l k
  unfold smaltoref08_Name.f
  repeat' first
      | (with_reducible exact ih0 _ _)
      | (with_reducible exact LeO.refl _)
      | (with_reducible exact LeO.none _)
      | (with_reducible refine LeO.ite ?_ ?_)
      | (with_reducible refine LeO.bind ?_ (fun _ => ?_))
      | exact ih0 _ _
      | exact LeO.none _
      | refine LeO.ite ?_ ?_
      | refine LeO.bind ?_ (fun _ => ?_)
set_option maxHeartbeats 8000000 in
set_option maxRecDepth 100000 in
theorem smaltoref08_Name.calls (k : Nat) (a0 : ByteArray) (r : Bool) (w : World) (h : smaltoref08_Name.f k a0 = some r) :
    Calls Tryz.prog 24 #[.string a0] w fun e w' => e = .returned (.bool r) ∧ Drawn0 w w' := by
  have H : (smaltoref08_Name.l0 k a0 0) = some r := h
  clear h
  have H' := Aside0.mk H
  clear H
  go_enter Tryz.func24, Tryz.ntmps24
  go_wp2
  go_loopg [3] k (fun kq v3 w' => ∃ (x3_1 : Int), v3 = .int .i64 x3_1 ∧ Aside0 (smaltoref08_Name.l0 kq a0 x3_1 = some r) ∧ Aside0 (kq ≤ k) ∧ Drawn0 w w')
  case atStart => exact ⟨(0), (by first | rfl | (simp; done) | (simp [*]; done)), H', ⟨Nat.le_refl _⟩, by repeat (first | exact Drawn0.refl _ | apply Drawn0.step)⟩
  case round =>
    clear H'
    obtain ⟨x3_1, rfl, HA, HK1, ⟨m1, rfl⟩⟩ := hrel
    cases gk with
    | zero => exact absurd HA.out (by simp [smaltoref08_Name.l0])
    | succ k1 =>
      have H := HA.out
      clear HA
      simp only [smaltoref08_Name.l0] at H
      by_cases c2 : x3_1 < (a0.size : Int)
      · rw [if_pos c2] at H
        have c2b0 : decide (x3_1 < (a0.size : Int)) = true := decide_eq_true c2
        clear c2
        by_cases c3 : 0 ≤ x3_1
        · rw [if_pos c3] at H
          have c3b0 : decide (0 ≤ x3_1) = true := decide_eq_true c3
          clear c3
          by_cases c5 : (bt a0 x3_1) < 97
          · rw [if_pos c5] at H
            have c5b0 : decide ((bt a0 x3_1) < 97) = true := decide_eq_true c5
            clear c5
            obtain rfl := Option.some.inj H
            have p4 : 0 ≤ (x3_1 : Int) := of_decide_eq_true (by first | (with_reducible assumption) | assumption)
            have q4 : x3_1 < (a0.size : Int) := of_decide_eq_true (by first | (with_reducible assumption) | assumption)
            have hx4 := bt_at a0 x3_1
            replace p4 := eq_true p4
            replace q4 := eq_true q4
            go_wp2
            go_ret
            exact ⟨by first | rfl | (simp; done) | (simp [*]; done), by repeat (first | exact Drawn0.refl _ | apply Drawn0.step)⟩
          · rw [if_neg c5] at H
            have c5b0 : decide ((bt a0 x3_1) < 97) = false := decide_eq_false c5
            clear c5
            by_cases c7 : (bt a0 x3_1) > 122
            · rw [if_pos c7] at H
              have c7b0 : decide (122 < (bt a0 x3_1)) = true := decide_eq_true c7
              clear c7
              obtain rfl := Option.some.inj H
              have p4 : 0 ≤ (x3_1 : Int) := of_decide_eq_true (by first | (with_reducible assumption) | assumption)
              have q4 : x3_1 < (a0.size : Int) := of_decide_eq_true (by first | (with_reducible assumption) | assumption)
              have hx4 := bt_at a0 x3_1
              replace p4 := eq_true p4
              replace q4 := eq_true q4
              have p6 : 0 ≤ (x3_1 : Int) := of_decide_eq_true (by first | (with_reducible assumption) | assumption)
              have q6 : x3_1 < (a0.size : Int) := of_decide_eq_true (by first | (with_reducible assumption) | assumption)
              have hx6 := bt_at a0 x3_1
              replace p6 := eq_true p6
              replace q6 := eq_true q6
              go_wp2
              go_ret
              exact ⟨by first | rfl | (simp; done) | (simp [*]; done), by repeat (first | exact Drawn0.refl _ | apply Drawn0.step)⟩
            · rw [if_neg c7] at H
              have c7b0 : decide (122 < (bt a0 x3_1)) = false := decide_eq_false c7
              clear c7
              have H' := Aside0.mk H
              clear H
              have p4 : 0 ≤ (x3_1 : Int) := of_decide_eq_true (by first | (with_reducible assumption) | assumption)
              have q4 : x3_1 < (a0.size : Int) := of_decide_eq_true (by first | (with_reducible assumption) | assumption)
              have hx4 := bt_at a0 x3_1
              replace p4 := eq_true p4
              replace q4 := eq_true q4
              have p6 : 0 ≤ (x3_1 : Int) := of_decide_eq_true (by first | (with_reducible assumption) | assumption)
              have q6 : x3_1 < (a0.size : Int) := of_decide_eq_true (by first | (with_reducible assumption) | assumption)
              have hx6 := bt_at a0 x3_1
              replace p6 := eq_true p6
              replace q6 := eq_true q6
              go_wp2
              go_roundg k1
              case measure => have := HK1.out; omega
              case rel => exact ⟨(wrap64 (x3_1 + 1)), (by first | rfl | (simp; done) | (simp [*]; done)), H', ⟨by have := HK1.out; omega⟩, by repeat (first | exact Drawn0.refl _ | apply Drawn0.step)⟩
        · rw [if_neg c3] at H
          exact absurd H (by simp)
      · rw [if_neg c2] at H
        have c2b0 : decide (x3_1 < (a0.size : Int)) = false := decide_eq_false c2
        clear c2
        replace H := Option.bind_eq_some_iff.mp H
        obtain ⟨t337, A80, H⟩ := H
        replace H : (some t337) = some r := H
        have A8 := Aside0.mk A80
        clear A80
        obtain rfl := Option.some.inj H
        go_wp2_with (first | ((with_reducible refine gate_callee (f := 22) rfl ?_); refine goesL_ (some 22) rfl rfl Tryz.func22 (by kernel_rfl) rfl #[.int .i64 (a0.size : Int), .int .i64 1, .int .i64 10] rfl (by (try simp only [List.map_toArray, List.map_cons, List.map_nil]); first | done | rfl | (simp only [List.length_drop, List.length_take]; rfl)) ?_; (with_reducible refine (smaltoref08_In.calls (a0.size : Int) 1 10 t337 _ A8.out).mono ?_); rintro e w' ⟨rfl, ⟨nd, rfl⟩⟩; refine ⟨_, rfl, ?_⟩))
        go_ret
        exact ⟨by first | rfl | (simp; done) | (simp [*]; done), by repeat (first | exact Drawn0.refl _ | apply Drawn0.step)⟩
end Go.Proofs.YtdjlfdbnmnjccaaGreat.St
end
