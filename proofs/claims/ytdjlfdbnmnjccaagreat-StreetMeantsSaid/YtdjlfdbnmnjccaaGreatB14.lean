/- A part of the proofs of the laws of this seat: the walks of the program's functions, and lemmas. They hold without conditions. -/
import Derived.Shelf.SlIter.Collect
import Derived.Ground.GgzProg
import Derived.Shelf.SlSortCmp.Small
import Derived.Ground.SlsfProg
import Derived.Shelf.Small.Bits
import Derived.Ground.NamesProg
import Derived.Test.YtdjlfdbnmnjccaaGreatProg
import Derived.Test.YtdjlfdbnmnjccaaGreatB13
set_option linter.all false
set_option linter.unusedSectionVars false
section
set_option linter.unusedVariables false
set_option linter.unusedSimpArgs false
namespace Go.Proofs.YtdjlfdbnmnjccaaGreat.St
open Go.Sort hiding rd
open Go.RowKit Go.Shelf Go.Proofs.YtdjlfdbnmnjccaaGreatW.PrintWords Go.Proofs.YtdjlfdbnmnjccaaGreatW.PrintLast Go.Proofs.YtdjlfdbnmnjccaaGreatW.PrintMore
attribute [local go_sem] Oper.semAt_some
theorem R_putObj {α : Type} {d : Kd α} {e base : Nat} {ok : Nat → Prop} {W : World} {v : Value} {xs : List α} (h : d.R e W base ok v xs) {l : Nat} {o : Obj} (hl : W.heap[l]? = some o) (ho : o.isCells = false) (o' : Obj) : d.R e (W.putObj l o') base ok v xs := by
  refine Kd.R_mono (Kd.R_move (Kd.R_bound h) (fun k hk => (grownBy_putObj' W l o').block k hk.2.2.1 (fun he => ?_))) (fun _ hk => hk.1)
  obtain ⟨_, _, _, q, hq, cells, hc⟩ := hk
  cases he
  rw [hl] at hc; cases hc; cases ho
def histTo (ps : List S167) (street : Int) : Nat → List S116
  | 0 => []
  | k + 1 =>
    if (histTo ps street k).getLast?.map (·.f0.toList) = some (rdOf ByteArray.empty (rd_T167 ps k).f1 street).toList then
      (histTo ps street k).modify ((histTo ps street k).length - 1) fun x => ⟨x.f0, ⟨x.f1.f0, hiOf ps k⟩⟩
    else histTo ps street k ++ [⟨rdOf ByteArray.empty (rd_T167 ps k).f1 street, ⟨(rd_T167 ps k).f0, hiOf ps k⟩⟩]
theorem histTo_len (ps : List S167) (street : Int) : ∀ k, (histTo ps street k).length ≤ k
  | 0 => by simp [histTo]
  | k + 1 => by
    have := histTo_len ps street k
    unfold histTo
    split
    · simp; omega
    · simp; omega
theorem last_rd {m : Nat} {Z : List S116} (h : Z.length = m + 1) : Z.getLast?.map (·.f0.toList) = some (rd_T116 Z (m : Int)).f0.toList := by
  rw [List.getLast?_eq_getElem?, h]
  have hlt : m < Z.length := by omega
  unfold rd_T116
  simp [List.getD_eq_getElem?_getD, List.getElem?_eq_getElem hlt]
theorem modify_rd {m : Nat} {Z : List S116} (h : Z.length = m + 1) (f : S116 → S116) : Z.modify (m + 1 - 1) f = Z.set m (f (rd_T116 Z (m : Int))) := by
  have hlt : m < Z.length := by omega
  unfold rd_T116
  apply List.ext_getElem?
  intro i
  simp only [Nat.add_sub_cancel, List.getElem?_modify, List.getElem?_set, Int.toNat_natCast, List.getD_eq_getElem?_getD, List.getElem?_eq_getElem hlt, Option.getD_some]
  by_cases e : m = i
  · subst e; simp [hlt]
  · simp [e]
def histR (first : List ByteArray) (changes : List S60) (street : Int) : List S116 × Int :=
  if openE first changes ≠ 0 then ([], openE first changes)
  else if (decide (0 ≤ street) && decide (street ≤ first.length - 1)) = false then ([], 7)
  else (histTo (pagesOf first changes) street (pagesOf first changes).length, 0)
set_option maxHeartbeats 4000000 in
set_option maxRecDepth 100000 in
theorem hist_any (A0 : Option Addr) (c0 : Nat) (first : List ByteArray) (A1 : Option Addr) (c1 : Nat) (changes : List S60) (street : Int) (w : World)
    (hr0 : Kd.C Kd.string w A0 first.length first) (hc0 : first.length ≤ c0) (hr1 : Kd.C k60 w A1 changes.length changes) (hc1 : changes.length ≤ c1) :
    Calls Tryz.prog 25 #[.agg #[.slice A0 first.length c0, .slice A1 changes.length c1], .int .i64 street] w fun e w' =>
      ∃ v : Value, e = .returned (.tuple #[v, .int .i64 (histR first changes street).2]) ∧ Kd.R k116 116 w' w.heap.size (fun _ => True) v (histR first changes street).1 ∧ Below w.heap.size w w' := by
  have HOP := Aside0.mk (fun (W : World) (hb : Below w.heap.size w W) => open_any A0 c0 first A1 c1 changes W (Kd.C_below hr0 hb) hc0 (Kd.C_below hr1 hb) hc1)
  clear hr0 hr1
  refine (callsIn_wide (n := 8)).1 ?_
  refine callsIn_of_wp_marks Tryz.func25 rfl trivial ?_ rfl
  simp only [Tryz.ntmps25, List.size_toArray, List.length_cons, List.length_nil, Nat.reduceAdd, Nat.reduceSub, Array.replicate_succ, Array.replicate_zero, List.push_toArray, List.append_toArray, List.nil_append, List.cons_append]
  have h18 : 1 ≤ 8 := by omega
  gi_wp2_with fail
  obtain ⟨W1, hW1⟩ : ∃ W1, ((w.alloc (.cells #[.slice A0 first.length c0, .slice A1 changes.length c1] 25)).alloc (.cells #[.int .i64 street] 3)).alloc (.cells #[.slice none 0 0] 48) = W1 := ⟨_, rfl⟩
  have hb1 : Below w.heap.size w W1 := by rw [← hW1]; exact below_alloc (below_alloc (below_alloc (Below.refl _ _) _) _) _
  have hbt : W1.heap[w.heap.size]? = some (.cells #[.slice A0 first.length c0, .slice A1 changes.length c1] 25 (0, 0)) := by rw [← hW1]; exact blk_alloc (blk_alloc (blk_new w _) _) _
  have hbs : W1.heap[w.heap.size + 1]? = some (.cells #[.int .i64 street] 3 (0, 0)) := by
    rw [← hW1]; refine blk_alloc ?_ _
    have := blk_new (w.alloc (.cells #[.slice A0 first.length c0, .slice A1 changes.length c1] 25)) (.cells #[.int .i64 street] 3)
    rwa [World.size_alloc] at this
  have hbl : W1.heap[w.heap.size + 1 + 1]? = some (.cells #[.slice none 0 0] 48 (0, 0)) := by
    rw [← hW1]
    have := blk_new ((w.alloc (.cells #[.slice A0 first.length c0, .slice A1 changes.length c1] 25)).alloc (.cells #[.int .i64 street] 3)) (.cells #[.slice none 0 0] 48)
    rwa [World.size_alloc, World.size_alloc] at this
  rw [hW1]
  clear hW1
  refine ⟨trivial, (callsIn_wide.2 (HOP.out W1 hb1)).mono ?_⟩
  rintro e w2 ⟨B0, n0, d0, B1, n1, d1, Bp, np, dp, rfl, hop, hb⟩
  obtain ⟨oe, hoe⟩ : ∃ oe, openE first changes = oe := ⟨_, rfl⟩
  rw [hoe]
  have HB2 := Aside0.mk (below_from hb1 hb)
  have BT2 := Aside0.mk (blk_below hbt hb)
  have BS2 := Aside0.mk (blk_below hbs hb)
  have BL2 := Aside0.mk (blk_below hbl hb)
  have HS := Aside0.mk hb1.size
  clear hb hb1 hbt hbs hbl HOP
  obtain ⟨W3, hW3⟩ : ∃ W3, w2.alloc (.cells #[.slice B0 n0 d0, .slice B1 n1 d1, .slice Bp np dp] 124) = W3 := ⟨_, rfl⟩
  have HB3 := Aside0.mk (show Below w.heap.size w W3 from by rw [← hW3]; exact below_alloc HB2.out _)
  have BT3 := Aside0.mk (show W3.heap[w.heap.size]? = some (.cells #[.slice A0 first.length c0, .slice A1 changes.length c1] 25 (0, 0)) from by rw [← hW3]; exact blk_alloc BT2.out _)
  have BS3 := Aside0.mk (show W3.heap[w.heap.size + 1]? = some (.cells #[.int .i64 street] 3 (0, 0)) from by rw [← hW3]; exact blk_alloc BS2.out _)
  have BL3 := Aside0.mk (show W3.heap[w.heap.size + 1 + 1]? = some (.cells #[.slice none 0 0] 48 (0, 0)) from by rw [← hW3]; exact blk_alloc BL2.out _)
  have BB3 := Aside0.mk (show W3.heap[w2.heap.size]? = some (.cells #[.slice B0 n0 d0, .slice B1 n1 d1, .slice Bp np dp] 124 (0, 0)) from by rw [← hW3]; exact blk_new w2 _)
  have l0 : W3.cell? ⟨w.heap.size + 1 + 1, 0, none⟩ = some (.slice none 0 0) := (blk_cell BL3.out 0).trans rfl
  have lf0 := blk_frozen BL3.out 0
  have ll := blk_lt BL3.out
  by_cases h0 : oe = 0
  · subst h0
    obtain ⟨e0, e1, hp⟩ := hop hoe
    have HP3 := Aside0.mk (show Kd.R k167 167 W3 w.heap.size (fun _ => True) (.slice Bp np dp) (bookOf first changes).1 from by rw [← hW3]; exact Kd.R_alloc (Kd.R_lower hp HS.out) _)
    have HOE := Aside0.mk hoe
    obtain ⟨hf1, hf2, _⟩ := check_ok (open_zero hoe).1
    clear hp hoe HS HB2 BT2 BL2 BS2 hop e0 e1
    obtain ⟨t0, t1, t2⟩ := blk2 BT3.out
    have s0 : W3.cell? ⟨w.heap.size + 1, 0, none⟩ = some (.int .i64 street) := (blk_cell BS3.out 0).trans rfl
    have sl := blk_lt BS3.out
    gi_wp2_with fail
    clear hW3
    have hcell : (W3.alloc (.cells #[.int .i64 street] 3)).cell? ⟨W3.heap.size, 0, none⟩ = some (.int .i64 street) := (blk_cell (blk_new W3 _) 0).trans rfl
    refine ⟨trivial, (callsIn_wide.2 (within_one 0 _ street W3.heap.size _ hcell)).mono ?_⟩
    rintro e w4 ⟨rfl, hb⟩
    have HB4 := Aside0.mk (below_from (below_alloc HB3.out _) hb)
    have BS4 := Aside0.mk (blk_below (blk_alloc BS3.out _) hb)
    have BL4 := Aside0.mk (blk_below (blk_alloc BL3.out _) hb)
    have BB4 := Aside0.mk (blk_below (blk_alloc BB3.out _) hb)
    have HP4 := Aside0.mk (Kd.R_below (Kd.R_alloc HP3.out _) hb)
    clear HB3 BT3 BS3 BL3 BB3 HP3 hb hcell t0 t1 t2 s0 sl l0 lf0 ll
    have l0 : w4.cell? ⟨w.heap.size + 1 + 1, 0, none⟩ = some (.slice none 0 0) := (blk_cell BL4.out 0).trans rfl
    have lf0 := blk_frozen BL4.out 0
    have ll := blk_lt BL4.out
    obtain ⟨b1, hb1⟩ : ∃ b, (decide (0 ≤ street) && decide (street ≤ (first.length : Int) - 1)) = b := ⟨_, rfl⟩
    rw [hb1]
    cases b1 with
    | false =>
      have HN := Aside0.mk (show histR first changes street = ([], 7) from by unfold histR; rw [if_neg (by rw [HOE.out]; simp), if_pos hb1])
      clear hb1
      gi_wp2_with fail
      obtain ⟨W', hW'⟩ : ∃ W', w4.setCell ⟨w.heap.size + 1 + 1, 0, none⟩ (.slice none 0 0) = W' := ⟨_, rfl⟩
      have q0 : W'.cell? ⟨w.heap.size + 1 + 1, 0, none⟩ = some (.slice none 0 0) := by rw [← hW']; exact (blk_cell (blk_put BL4.out 0 _ rfl) 0).trans rfl
      have HBW : Below w.heap.size w W' := by rw [← hW']; exact HB4.out.setCell (p := ⟨w.heap.size + 1 + 1, 0, none⟩) (by show w.heap.size ≤ w.heap.size + 1 + 1; omega) _
      rw [hW', HN.out]
      show ∃ v, _ ∧ _
      refine ⟨.tuple #[.slice none 0 0, .int .i64 7], by simp [results, Tryz.results25, go_sem, q0], ?_⟩
      exact ⟨_, rfl, Kd.R_nil _ _ _ _ _, HBW⟩
    | true =>
      have HN := Aside0.mk (show histR first changes street = (histTo (pagesOf first changes) street (pagesOf first changes).length, 0) from by unfold histR; rw [if_neg (by rw [HOE.out]; simp), if_neg (by rw [hb1]; simp)])
      have hst : 0 ≤ street ∧ street ≤ (first.length : Int) - 1 := by simpa using hb1
      clear hb1
      obtain ⟨g, cg, vals, hveq, hgb, hpa, hna⟩ := pagesAt_of_R HP4.out (pages_ok HOE.out).ne
      rw [hveq] at BB4
      obtain ⟨⟨z0, z1, z2⟩, _, zl⟩ := blk3 BB4.out
      obtain ⟨ps, hps⟩ : ∃ ps, pagesOf first changes = ps := ⟨_, rfl⟩
      have hpg : (bookOf first changes).1 = ps := hps
      have HOKP := Aside0.mk (show PagesOk first.length ps from hps ▸ pages_ok HOE.out)
      rw [hps] at HN
      rw [hpg] at hpa hna BB4 z2
      have HPA := Aside0.mk hpa
      have HNA := Aside0.mk hna
      clear hpa hna hveq hps hpg HP4
      gi_wp2_with fail
      refine rangeBound (enc := encP ps vals) (T := fun t => t = 167 ∨ t = 124 ∨ t = 9) (N := ps.length) (w0 := w4) rfl (by omega) rfl trivial (enters_of Tryz.func73 (by kernel_rfl) rfl)
        (times_seq Fence.wide 7 trivial rfl (by omega) (.slice B0 n0 d0) (.slice B1 n1 d1) g cg first.length ps HOKP.out vals _ (.inl rfl) (.inr (.inl rfl)) w4 HPA.out) (KeepT.refl _ _) (fun _ => rfl)
        (fun k W => ∃ v : Value, W.heap[w.heap.size + 1 + 1]? = some (.cells #[v] 48 (0, 0)) ∧ W.heap[w.heap.size + 1]? = some (.cells #[.int .i64 street] 3 (0, 0)) ∧
          Kd.R k116 116 W w4.heap.size (fun _ => True) v (histTo ps street k) ∧ Below w.heap.size w W ∧ NamesAt W w.heap.size ps vals ∧ w4.heap.size ≤ W.heap.size) ?ia ?ip ?i0
        (fun k a' W => ∃ Bx : Nat, w4.heap.size ≤ Bx ∧ W.heap[Bx]? = some (.cells #[.int .i64 (rd_T167 ps (k : Int)).f0, .int .i64 (hiOf ps k)] 75 (0, 0)) ∧ a' = { tmps := #[Value.agg #[Value.slice A0 first.length c0, Value.slice A1 changes.length c1], Value.int IntKind.i64 street, Value.pointer (some { block := w.heap.size, off := 0 }), Value.pointer (some { block := w.heap.size + 1, off := 0 }), Value.pointer (some { block := w.heap.size + 1 + 1, off := 0 }), Value.int IntKind.i64 0, Value.pointer (some { block := w2.heap.size, off := 0 }), Value.pointer (some { block := Bx, off := 0 }), vals k, undef, Value.tuple #[Value.agg #[Value.slice B0 n0 d0, Value.slice B1 n1 d1, Value.slice Bp np dp], Value.int IntKind.i64 0], Value.agg #[Value.slice A0 first.length c0, Value.slice A1 changes.length c1], Value.tuple #[Value.agg #[Value.slice B0 n0 d0, Value.slice B1 n1 d1, Value.slice Bp np dp], Value.int IntKind.i64 0], Value.agg #[Value.slice B0 n0 d0, Value.slice B1 n1 d1, Value.slice Bp np dp], Value.int IntKind.i64 0, Value.bool false, Value.int IntKind.i64 0, Value.bool false, undef, Value.bool false, Value.pointer (some { block := w.heap.size, off := 0 }), Value.slice A0 first.length c0, Value.int IntKind.i64 (first.length : Int), Value.int IntKind.i64 ((first.length : Int) - 1), Value.int IntKind.i64 street, Value.slice (some { block := W3.heap.size, off := 0 }) 1 1, Value.bool true, Value.bool false, Value.agg #[Value.slice B0 n0 d0, Value.slice B1 n1 d1, Value.slice (some { block := g, off := 0 }) ps.length cg], Value.func (Fn.func 73) #[Value.agg #[Value.slice B0 n0 d0, Value.slice B1 n1 d1, Value.slice (some { block := g, off := 0 }) ps.length cg]] #[], Value.agg #[Value.int IntKind.i64 (rd_T167 ps (k : Int)).f0, Value.int IntKind.i64 (hiOf ps k)], vals k, undef, undef, undef, undef, undef, undef, undef, undef, undef, undef, undef, undef, undef, undef, undef, undef, undef, undef, undef, undef, undef, undef, undef, undef, undef, undef, undef, undef, undef, undef, undef, undef, undef, undef], defers := [] }) ?ax ?assign ?body ?done
      case ia =>
        rintro k W o ⟨v, h1, h2, h3, h4, h5, h6⟩
        exact ⟨v, blk_alloc h1 _, blk_alloc h2 _, Kd.R_alloc h3 _, below_alloc h4 _, ⟨fun k hk => Kd.R_alloc (h5.at_ k hk) _⟩, by simp; omega⟩
      case ip =>
        rintro k W l o o' hl hlo ho ⟨v, h1, h2, h3, h4, h5, h6⟩
        have hne : ∀ (j : Nat) (cs : Array Value) (t : Nat), W.heap[j]? = some (.cells cs t (0, 0)) → (W.putObj l o').heap[j]? = some (.cells cs t (0, 0)) := fun j cs t hj => by
          rw [World.putObj_heap_other (fun e => by subst e; rw [hlo] at hj; cases hj; cases ho)]; exact hj
        exact ⟨v, hne _ _ _ h1, hne _ _ _ h2, R_putObj h3 hlo ho o', (h4.grown (grownBy_putObj' W l o') h4.size (fun j hj => by cases hj; exact Nat.le_trans HB4.out.size hl)), ⟨fun k hk => R_putObj (h5.at_ k hk) hlo ho o'⟩, by simpa [World.putObj] using h6⟩
      case i0 => exact ⟨_, BL4.out, BS4.out, Kd.R_nil _ _ _ _ _, HB4.out, HNA.out, Nat.le_refl _⟩
      case done =>
        rintro D W hD ⟨v, h1, h2, h3, h4, h5, h6⟩ hK
        have q0 : W.cell? ⟨w.heap.size + 1 + 1, 0, none⟩ = some v := (blk_cell h1 0).trans rfl
        have qf := blk_frozen h1 0
        have ql := blk_lt h1
        obtain ⟨Av, cv, rfl⟩ := Kd.R_slice h3
        have G1 := Aside0.mk h1
        have G3 := Aside0.mk h3
        have G4 := Aside0.mk h4
        have GK := Aside0.mk hK
        clear h1 h2 h3 h4 h5 hK l0 lf0 ll
        gi_wp2_with fail
        obtain ⟨W', hW'⟩ : ∃ W', W.setCell ⟨w.heap.size + 1 + 1, 0, none⟩ (.slice Av (histTo ps street ps.length).length cv) = W' := ⟨_, rfl⟩
        have hne : D ≠ w.heap.size + 1 + 1 := fun e => by have h1 := G1.out; have h2 := GK.out; rw [e, h1] at h2; cases h2
        have hKD : W'.heap[D]? = some (.deferred (some [])) := by
          rw [← hW']
          have : (W.setCell ⟨w.heap.size + 1 + 1, 0, none⟩ (.slice Av (histTo ps street ps.length).length cv)).heap[D]? = W.heap[D]? := by simp [World.setCell, Array.getElem?_modify, Ne.symm hne]
          rw [this]; exact GK.out
        have hG1 : W'.heap[w.heap.size + 1 + 1]? = some (.cells #[.slice Av (histTo ps street ps.length).length cv] 48 (0, 0)) := by rw [← hW']; exact blk_put G1.out 0 _ rfl
        have hG3 : Kd.R k116 116 W' w4.heap.size (fun _ => True) (.slice Av (histTo ps street ps.length).length cv) (histTo ps street ps.length) := by rw [← hW']; exact Kd.R_set G3.out G1.out (by decide) 0 _
        have hG4 : Below w.heap.size w W' := by rw [← hW']; exact G4.out.setCell (p := ⟨w.heap.size + 1 + 1, 0, none⟩) (by show w.heap.size ≤ w.heap.size + 1 + 1; omega) _
        have q' : (W'.putObj D (.deferred none)).cell? ⟨w.heap.size + 1 + 1, 0, none⟩ = some (.slice Av (histTo ps street ps.length).length cv) := (blk_cell ((World.putObj_heap_other (Ne.symm hne)).trans hG1) 0).trans rfl
        rw [hW', HN.out]
        refine ⟨by simp, .inl ⟨_, _, rfl, run_takeDeferred hKD, ?_⟩⟩
        show ∃ v, _ ∧ _
        refine ⟨.tuple #[.slice Av (histTo ps street ps.length).length cv, .int .i64 0], by simp [results, Tryz.results25, go_sem, q'], ?_⟩
        exact ⟨_, rfl, Kd.R_lower (R_putObj hG3 hKD rfl _) HB4.out.size, hG4.grown (grownBy_putObj' W' D _) hG4.size (fun j hj => by cases hj; exact Nat.le_trans HB4.out.size hD)⟩
      case assign =>
        rintro l k W K ⟨v, h1, h2, h3, h4, h5, h6⟩ hk hK
        clear l0 lf0 ll
        unfold encP
        gi_wp2_with fail
        exact hK _ _ ((KeepsOthers.alloc _ _).from _) ((KeepT.refl _ _).alloc _) ⟨v, blk_alloc h1 _, blk_alloc h2 _, Kd.R_alloc h3 _, below_alloc h4 _, ⟨fun k hk => Kd.R_alloc (h5.at_ k hk) _⟩, by simp; omega⟩ ⟨W.heap.size, h6, blk_new W _, rfl⟩
      case ax =>
        rintro k a' W l o o' hl hlo ho ⟨Bx, h1, h2, h3⟩
        exact ⟨Bx, h1, (World.putObj_heap_other (fun e => by subst e; rw [hlo] at h2; cases h2; cases ho)).trans h2, h3⟩
      case body =>
        rintro l k a' W hl ⟨r, hr⟩ ⟨v, h1, h2, h3, h4, h5, h6⟩ ⟨Bx, hBx, hbx, rfl⟩ hlt
        obtain ⟨L, hL⟩ : ∃ L, histTo ps street k = L := ⟨_, rfl⟩
        rw [hL] at h3
        have hLl := hL ▸ histTo_len ps street k
        obtain ⟨Av, cv, rfl⟩ := Kd.R_slice h3
        have hna := h5.at_ k hlt
        obtain ⟨nm, hnm⟩ : ∃ nm, (rd_T167 ps (k : Int)).f1 = nm := ⟨_, rfl⟩
        rw [hnm] at hna
        obtain ⟨An, cn, hvk, hnc, hnC⟩ := Kd.R_reads hna
        have hnl : nm.length = first.length := by rw [← hnm]; exact HOKP.out.len _ (rd_page_mem k hlt)
        have hsm := HOKP.out.small
        obtain ⟨ad, e, sN⟩ := Kd.at_string hnC street hst.1 (by omega)
        subst e
        rw [hvk]
        obtain ⟨s, hs⟩ : ∃ s, rdOf ByteArray.empty nm street = s := ⟨_, rfl⟩
        rw [hs] at sN
        have s0 : W.cell? ⟨w.heap.size + 1, 0, none⟩ = some (.int .i64 street) := (blk_cell h2 0).trans rfl
        have s1 := blk_lt h2
        have l0 : W.cell? ⟨w.heap.size + 1 + 1, 0, none⟩ = some (.slice Av L.length cv) := (blk_cell h1 0).trans rfl
        have lf0 := blk_frozen h1 0
        have ll := blk_lt h1
        obtain ⟨b0, b1, b2⟩ := blk2 hbx
        have H1 := Aside0.mk h1
        have H2 := Aside0.mk h2
        have H3 := Aside0.mk h3
        have H4 := Aside0.mk h4
        have H5 := Aside0.mk h5
        have HL := Aside0.mk hL
        have HNM := Aside0.mk (And.intro hnm hs)
        have HR := Aside0.mk hr
        have HBX := Aside0.mk hbx
        have hnl2 : (nm.length : Int) = first.length := by rw [hnl]
        have hst1 : street < (nm.length : Int) := by omega
        have hst0 := hst.1
        clear h1 h2 h3 h4 h5 hL hna hnC hnm hs hr hbx hvk hnc hst hnl hnl2
        cases L with
        | nil =>
          have hln : (([] : List S116).length : Int) = 0 := rfl
          clear hLl
          gi_wp2_with fail
          refine round_quiet (by kernel_rfl) (by kernel_rfl) (by kernel_rfl) ?_
          repeat (go_big_quiet_step (fail))
          refine wpQuiet_nil ?_
          rintro V ⟨nq, hV⟩
          have RV := Aside0.mk (show Rn (fun t => t = 167 ∨ t = 124 ∨ t = 9) W V.drew from by rw [hV]; exact ((Rn.refl _ W).drewN nq).drew)
          have V1 := Aside0.mk (show V.drew.heap[w.heap.size + 1 + 1]? = some (.cells #[.slice Av 0 cv] 48 (0, 0)) from by rw [hV]; exact H1.out)
          have V2 := Aside0.mk (show V.drew.heap[w.heap.size + 1]? = some (.cells #[.int .i64 street] 3 (0, 0)) from by rw [hV]; exact H2.out)
          have V3 := Aside0.mk (show Kd.R k116 116 V.drew w4.heap.size (fun _ => True) (.slice Av 0 cv) [] from by rw [hV]; exact Kd.R_drew (Kd.R_drewN H3.out nq))
          have V4 := Aside0.mk (show Below w.heap.size w V.drew from by rw [hV]; exact below_drew (pw_below_drewN H4.out nq))
          have VS := Aside0.mk (show w4.heap.size ≤ V.drew.heap.size from by rw [hV]; exact h6)
          have VN := Aside0.mk (show V.cell? (ad.add street.toNat) = some (.string s) from by rw [hV]; exact sN)
          have VX := Aside0.mk (show V.heap[Bx]? = some (.cells #[.int .i64 (rd_T167 ps (k : Int)).f0, .int .i64 (hiOf ps k)] 75 (0, 0)) from by rw [hV]; exact HBX.out)
          clear hV H1 H2 H3 H4 l0 s0 sN b0 b1 lf0 ll s1 b2 h6 HBX
          have l0 : V.cell? ⟨w.heap.size + 1 + 1, 0, none⟩ = some (.slice Av 0 cv) := (blk_cell V1.out 0).trans rfl
          have s0 : V.cell? ⟨w.heap.size + 1, 0, none⟩ = some (.int .i64 street) := (blk_cell V2.out 0).trans rfl
          have sN := VN.out
          obtain ⟨b0, b1, b2⟩ := blk2 VX.out
          gi_wp2_with fail
          refine round_held (S := fun w' => w'.cell? ⟨w.heap.size + 1 + 1, 0, none⟩ = some (.slice Av 0 cv) ∧ w'.cell? ⟨w.heap.size + 1, 0, none⟩ = some (.int .i64 street) ∧ w'.cell? (ad.add street.toNat) = some (.string s) ∧ w'.cell? ⟨Bx, 0, none⟩ = some (.int .i64 (rd_T167 ps (k : Int)).f0) ∧ w'.cell? ⟨Bx, 1, none⟩ = some (.int .i64 (hiOf ps k))) 7 (by kernel_rfl) (by kernel_rfl) (by kernel_rfl) rfl ⟨l0, s0, sN, b0, b1⟩ ?_
          simp only [List.take_succ_cons, List.take_zero, List.drop_succ_cons, List.drop_zero]
          repeat (refine wpHeld_step ?_ (by rfl) ?_ ?_; rotate_left; (focus (rintro w' ⟨g0, g1, g2, g3, g4⟩; go_simp; with_reducible rfl)); simp only [Act.put, List.setIfInBounds_toArray, List.set_cons_zero, List.set_cons_succ])
          refine wpHeld_nil (fun K hK => ?_)
          go_simp
          refine hK _ _ ⟨cell_alloc (W := V.drew) l0 _, cell_alloc (W := V.drew) s0 _, cell_alloc (W := V.drew) sN _, cell_alloc (W := V.drew) b0 _, cell_alloc (W := V.drew) b1 _⟩ ?_
          clear hK K l0 s0 sN b0 b1 b2 VN
          go_wp2_with (at_builtin; refine Kd.R_append k116 (w0 := V.drew) (W := V.drew) w4.heap.size ?b1 (.tmp 56) (.tmp 63) 48 116 (.agg #[(.string ⟨#[]⟩), (.int .i64 0), (.int .i64 0)]) 32 ?b2 Tryz.underlying48 info116 rfl (by decide) (by omega) (.slice Av 0 cv) [] (⟨s, ⟨(rd_T167 ps (k : Int)).f0, hiOf ps k⟩⟩ : S116) [.string s, .int .i64 (rd_T167 ps (k : Int)).f0, .int .i64 (hiOf ps k)] (fun _ => True) (fun _ => False) ?b3 ?b4 ?aP (fun _ hk => hk.elim) ?aF ?aO ?aB ?aS ?aL ?_; (case b1 => rfl); (case b2 => rfl); (case b3 => rfl); (case b4 => rfl); (case aP => exact k116_mkM _ _ _ ⟨s, ⟨(rd_T167 ps (k : Int)).f0, hiOf ps k⟩⟩); (case aB => exact Below.refl _ _); (case aF => exact (fun _ _ => trivial)); (case aO => exact V3.out); (case aS => exact VS.out); (case aL => simp); intro v5 w5 ho hb hgr hat; have m1_ := Aside0.mk ho; have m2_ := Aside0.mk (RV.out.grownR V3.out (by decide) hgr); have m3_ := Aside0.mk (blk_grown V1.out hgr (Kd.R_ne V3.out V1.out (by decide))); have m4_ := Aside0.mk (blk_grown V2.out hgr (Kd.R_ne V3.out V2.out (by decide))); have m5_ := Aside0.mk (V4.out.trans (hb.mono HB4.out.size)); have m6_ := Aside0.mk (Nat.le_trans VS.out hb.size); clear ho hb hgr hat; obtain ⟨A5, c5, e5⟩ := Kd.R_slice m1_.out; subst e5; have l0 := (blk_cell m3_.out 0).trans rfl; have lf0 := blk_frozen m3_.out 0; have ll := blk_lt m3_.out)
          refine onlyN_mk ?_
          gi_wp2_with fail
          have hk1 : histTo ps street (k + 1) = [⟨s, ⟨(rd_T167 ps (k : Int)).f0, hiOf ps k⟩⟩] := by
            unfold histTo
            rw [HL.out, HNM.out.1, HNM.out.2]
            simp
          refine ⟨((m2_.out.set m3_.out (by decide) 0 _).k).from _, (m2_.out.set m3_.out (by decide) 0 _).t, ⟨_, blk_put m3_.out 0 _ rfl, blk_far m4_.out (p := ⟨w.heap.size + 1 + 1, 0, none⟩) (by simp) _, ?_, m5_.out.setCell (p := ⟨w.heap.size + 1 + 1, 0, none⟩) (by show w.heap.size ≤ w.heap.size + 1 + 1; omega) _, H5.out.keep (.inr (.inr rfl)) (m2_.out.set m3_.out (by decide) 0 _).t, by have := m6_.out; simpa using this⟩⟩
          rw [hk1]
          exact Kd.R_set m1_.out m3_.out (by decide) 0 _
        | cons x xs =>
          obtain ⟨m, hm⟩ : ∃ m, (x :: xs).length = m + 1 := ⟨xs.length, rfl⟩
          obtain ⟨Z, hZ⟩ : ∃ Z, (x :: xs) = Z := ⟨_, rfl⟩
          rw [hZ] at H3 HL hm hLl l0
          rw [hm] at l0 hLl
          have H3' := H3.out
          rw [hZ, hm] at H1
          rw [hm] at H3'
          obtain ⟨g5, c5, e5, _, _, _⟩ := Kd.R_form H3.out (by omega)
          rw [hm] at e5
          cases e5
          obtain ⟨hzl, hcv, hC⟩ := Kd.R_reads' H3'
          clear hzl
          obtain ⟨ad5, e5, z0, z1, z2⟩ := at_T116 hC (m : Int) (by omega) (by omega)
          cases e5
          rw [Int.toNat_natCast] at z0 z1 z2
          have ez : (⟨g5, 0, none⟩ : Addr).add (m * 3) = ⟨g5, m * 3, none⟩ := by simp [Addr.add]; omega
          rw [ez] at z0 z1 z2
          obtain ⟨y, hy⟩ : ∃ y, rd_T116 Z (m : Int) = y := ⟨_, rfl⟩
          rw [hy] at z0 z1 z2
          have HZ := Aside0.mk (And.intro hZ (And.intro hm hy))
          have H3m := Aside0.mk H3'
          have hmk : m + 1 ≤ 20 := by omega
          clear hZ hm hy H3' hC ez H3 hLl hcv
          by_cases hq : y.f0.toList = s.toList
          · have hq' : (y.f0.toList == s.toList) = true := by simpa using hq
            have HQ := Aside0.mk hq
            clear hq
            gi_wp2_with fail
            refine round_quiet (by kernel_rfl) (by kernel_rfl) (by kernel_rfl) ?_
            repeat (go_big_quiet_step (fail))
            refine wpQuiet_nil ?_
            rintro V ⟨nq, hV⟩
            have RV := Aside0.mk (show Rn (fun t => t = 167 ∨ t = 124 ∨ t = 9) W V from by rw [hV]; exact (Rn.refl _ W).drewN nq)
            have V1 := Aside0.mk (show V.heap[w.heap.size + 1 + 1]? = some (.cells #[.slice (some ⟨g5, 0, none⟩) (m + 1) cv] 48 (0, 0)) from by rw [hV]; exact H1.out)
            have V2 := Aside0.mk (show V.heap[w.heap.size + 1]? = some (.cells #[.int .i64 street] 3 (0, 0)) from by rw [hV]; exact H2.out)
            have V3 := Aside0.mk (show Kd.R k116 116 V w4.heap.size (fun _ => True) (.slice (some ⟨g5, 0, none⟩) (m + 1) cv) Z from by rw [hV]; exact Kd.R_drewN H3m.out nq)
            have V4 := Aside0.mk (show Below w.heap.size w V from by rw [hV]; exact pw_below_drewN H4.out nq)
            have VS := Aside0.mk (show w4.heap.size ≤ V.heap.size from by rw [hV]; exact h6)
            have VX := Aside0.mk (show V.heap[Bx]? = some (.cells #[.int .i64 (rd_T167 ps (k : Int)).f0, .int .i64 (hiOf ps k)] 75 (0, 0)) from by rw [hV]; exact HBX.out)
            have VZ := Aside0.mk (show V.cell? ⟨g5, m * 3, none⟩ = some (.string y.f0) ∧ V.cell? ⟨g5, m * 3 + 1, none⟩ = some (.int .i64 y.f1.f0) ∧ V.cell? ⟨g5, m * 3 + 2, none⟩ = some (.int .i64 y.f1.f1) from by rw [hV]; exact ⟨z0, z1, z2⟩)
            clear hV H1 H2 H3m H4 l0 s0 sN b0 b1 lf0 ll s1 b2 h6 HBX z0 z1 z2
            have l0 : V.cell? ⟨w.heap.size + 1 + 1, 0, none⟩ = some (.slice (some ⟨g5, 0, none⟩) (m + 1) cv) := (blk_cell V1.out 0).trans rfl
            obtain ⟨b0, b1, b2⟩ := blk2 VX.out
            obtain ⟨z0, z1, z2⟩ := VZ.out
            obtain ⟨cels, hcel⟩ := Kd.R_typed V3.out g5 rfl
            have zf := blk_frozen hcel (m * 3 + 2)
            have zl := blk_lt hcel
            have HCEL := Aside0.mk hcel
            clear hcel
            gi_wp2_with fail
            have hk1 : histTo ps street (k + 1) = Z.set m ⟨y.f0, ⟨y.f1.f0, hiOf ps k⟩⟩ := by
              unfold histTo
              rw [HL.out, HNM.out.1, HNM.out.2, last_rd HZ.out.2.1, HZ.out.2.2, if_pos (by simpa using HQ.out), HZ.out.2.1, modify_rd HZ.out.2.1, HZ.out.2.2]
            have hstep := Kd.R_seg (okp := fun _ => False) V3.out (m : Int) (by omega) (by omega) (c := [.string y.f0, .int .i64 y.f1.f0, .int .i64 y.f1.f1]) (seg := [.int .i64 (hiOf ps k)]) (j := 2) rfl
              (by
                intro j u hj
                rw [Int.toNat_natCast]
                match j, hj with
                | 0, hj => cases hj; exact VZ.out.1
                | 1, hj => cases hj; exact VZ.out.2.1
                | 2, hj => cases hj; exact VZ.out.2.2)
              (Nat.le_refl 3) (x' := ⟨y.f0, ⟨y.f1.f0, hiOf ps k⟩⟩) (k116_mkM _ _ _ _) (fun _ hk => hk.elim)
            rw [Int.toNat_natCast] at hstep
            have hset : V.setCells g5 (m * k116.sz + 2) [.int .i64 (hiOf ps k)] = V.setCell ⟨g5, m * 3 + 2, none⟩ (.int .i64 (hiOf ps k)) := by rfl
            rw [hset] at hstep
            have hne1 := blk_ne V1.out HCEL.out (by decide)
            have hne2 := blk_ne V2.out HCEL.out (by decide)
            have hRn := RV.out.set HCEL.out (by decide) (m * 3 + 2) (.int .i64 (hiOf ps k))
            refine ⟨hRn.k.from _, hRn.t, ⟨_, blk_far V1.out (p := ⟨g5, m * 3 + 2, none⟩) hne1 _, blk_far V2.out (p := ⟨g5, m * 3 + 2, none⟩) hne2 _, ?_, V4.out.setCell (p := ⟨g5, m * 3 + 2, none⟩) (Nat.le_trans HB4.out.size (Kd.R_base V3.out g5 rfl)) _, H5.out.keep (.inr (.inr rfl)) hRn.t, by have := VS.out; simpa using this⟩⟩
            rw [hk1]
            exact hstep.1
          · have hq' : (y.f0.toList == s.toList) = false := by simpa using hq
            have HQ := Aside0.mk hq
            clear hq
            gi_wp2_with fail
            refine round_quiet (by kernel_rfl) (by kernel_rfl) (by kernel_rfl) ?_
            repeat (go_big_quiet_step (fail))
            refine wpQuiet_nil ?_
            rintro V ⟨nq, hV⟩
            have RV := Aside0.mk (show Rn (fun t => t = 167 ∨ t = 124 ∨ t = 9) W V.drew from by rw [hV]; exact ((Rn.refl _ W).drewN nq).drew)
            have V1 := Aside0.mk (show V.drew.heap[w.heap.size + 1 + 1]? = some (.cells #[.slice (some ⟨g5, 0, none⟩) (m + 1) cv] 48 (0, 0)) from by rw [hV]; exact H1.out)
            have V2 := Aside0.mk (show V.drew.heap[w.heap.size + 1]? = some (.cells #[.int .i64 street] 3 (0, 0)) from by rw [hV]; exact H2.out)
            have V3 := Aside0.mk (show Kd.R k116 116 V.drew w4.heap.size (fun _ => True) (.slice (some ⟨g5, 0, none⟩) (m + 1) cv) Z from by rw [hV]; exact Kd.R_drew (Kd.R_drewN H3m.out nq))
            have V4 := Aside0.mk (show Below w.heap.size w V.drew from by rw [hV]; exact below_drew (pw_below_drewN H4.out nq))
            have VS := Aside0.mk (show w4.heap.size ≤ V.drew.heap.size from by rw [hV]; exact h6)
            have VN := Aside0.mk (show V.cell? (ad.add street.toNat) = some (.string s) from by rw [hV]; exact sN)
            have VX := Aside0.mk (show V.heap[Bx]? = some (.cells #[.int .i64 (rd_T167 ps (k : Int)).f0, .int .i64 (hiOf ps k)] 75 (0, 0)) from by rw [hV]; exact HBX.out)
            clear hV H1 H2 H3m H4 z0 z1 z2 l0 s0 sN b0 b1 lf0 ll s1 b2 h6 HBX
            have l0 : V.cell? ⟨w.heap.size + 1 + 1, 0, none⟩ = some (.slice (some ⟨g5, 0, none⟩) (m + 1) cv) := (blk_cell V1.out 0).trans rfl
            have s0 : V.cell? ⟨w.heap.size + 1, 0, none⟩ = some (.int .i64 street) := (blk_cell V2.out 0).trans rfl
            have sN := VN.out
            obtain ⟨b0, b1, b2⟩ := blk2 VX.out
            gi_wp2_with fail
            refine round_held (S := fun w' => w'.cell? ⟨w.heap.size + 1 + 1, 0, none⟩ = some (.slice (some ⟨g5, 0, none⟩) (m + 1) cv) ∧ w'.cell? ⟨w.heap.size + 1, 0, none⟩ = some (.int .i64 street) ∧ w'.cell? (ad.add street.toNat) = some (.string s) ∧ w'.cell? ⟨Bx, 0, none⟩ = some (.int .i64 (rd_T167 ps (k : Int)).f0) ∧ w'.cell? ⟨Bx, 1, none⟩ = some (.int .i64 (hiOf ps k))) 7 (by kernel_rfl) (by kernel_rfl) (by kernel_rfl) rfl ⟨l0, s0, sN, b0, b1⟩ ?_
            simp only [List.take_succ_cons, List.take_zero, List.drop_succ_cons, List.drop_zero]
            repeat (refine wpHeld_step ?_ (by rfl) ?_ ?_; rotate_left; (focus (rintro w' ⟨g0, g1, g2, g3, g4⟩; go_simp; with_reducible rfl)); simp only [Act.put, List.setIfInBounds_toArray, List.set_cons_zero, List.set_cons_succ])
            refine wpHeld_nil (fun K hK => ?_)
            go_simp
            refine hK _ _ ⟨cell_alloc (W := V.drew) l0 _, cell_alloc (W := V.drew) s0 _, cell_alloc (W := V.drew) sN _, cell_alloc (W := V.drew) b0 _, cell_alloc (W := V.drew) b1 _⟩ ?_
            clear hK K l0 s0 sN b0 b1 b2 VN
            go_wp2_with (at_builtin; refine Kd.R_append k116 (w0 := V.drew) (W := V.drew) w4.heap.size ?b1 (.tmp 56) (.tmp 63) 48 116 (.agg #[(.string ⟨#[]⟩), (.int .i64 0), (.int .i64 0)]) 32 ?b2 Tryz.underlying48 info116 rfl (by decide) (by omega) (.slice (some ⟨g5, 0, none⟩) (m + 1) cv) Z (⟨s, ⟨(rd_T167 ps (k : Int)).f0, hiOf ps k⟩⟩ : S116) [.string s, .int .i64 (rd_T167 ps (k : Int)).f0, .int .i64 (hiOf ps k)] (fun _ => True) (fun _ => False) ?b3 ?b4 ?aP (fun _ hk => hk.elim) ?aF ?aO ?aB ?aS ?aL ?_; (case b1 => rfl); (case b2 => rfl); (case b3 => rfl); (case b4 => rfl); (case aP => exact k116_mkM _ _ _ ⟨s, ⟨(rd_T167 ps (k : Int)).f0, hiOf ps k⟩⟩); (case aB => exact Below.refl _ _); (case aF => exact (fun _ _ => trivial)); (case aO => exact V3.out); (case aS => exact VS.out); (case aL => rw [HZ.out.2.1]; omega); intro v5 w5 ho hb hgr hat; have m1_ := Aside0.mk ho; have m2_ := Aside0.mk (RV.out.grownR V3.out (by decide) hgr); have m3_ := Aside0.mk (blk_grown V1.out hgr (Kd.R_ne V3.out V1.out (by decide))); have m4_ := Aside0.mk (blk_grown V2.out hgr (Kd.R_ne V3.out V2.out (by decide))); have m5_ := Aside0.mk (V4.out.trans (hb.mono HB4.out.size)); have m6_ := Aside0.mk (Nat.le_trans VS.out hb.size); clear ho hb hgr hat; obtain ⟨A5, c5, e5⟩ := Kd.R_slice m1_.out; subst e5; have hl5 := HZ.out.2.1; have l0 := (blk_cell m3_.out 0).trans rfl; have lf0 := blk_frozen m3_.out 0; have ll := blk_lt m3_.out)
            refine onlyN_mk ?_
            gi_wp2_with fail
            have hk1 : histTo ps street (k + 1) = Z ++ [⟨s, ⟨(rd_T167 ps (k : Int)).f0, hiOf ps k⟩⟩] := by
              unfold histTo
              rw [HL.out, HNM.out.1, HNM.out.2, last_rd HZ.out.2.1, HZ.out.2.2, if_neg (by simpa using HQ.out)]
            refine ⟨((m2_.out.set m3_.out (by decide) 0 _).k).from _, (m2_.out.set m3_.out (by decide) 0 _).t, ⟨_, blk_put m3_.out 0 _ rfl, blk_far m4_.out (p := ⟨w.heap.size + 1 + 1, 0, none⟩) (by simp) _, ?_, m5_.out.setCell (p := ⟨w.heap.size + 1 + 1, 0, none⟩) (by show w.heap.size ≤ w.heap.size + 1 + 1; omega) _, H5.out.keep (.inr (.inr rfl)) (m2_.out.set m3_.out (by decide) 0 _).t, by have := m6_.out; simpa using this⟩⟩
            rw [hk1]
            have hfin := Kd.R_set m1_.out m3_.out (by decide) 0 (.slice A5 (Z ++ [(⟨s, ⟨(rd_T167 ps (k : Int)).f0, hiOf ps k⟩⟩ : S116)]).length c5)
            rw [List.length_append, HZ.out.2.1] at hfin
            exact hfin
  · have h0' : (oe != 0) = true := by simp [h0]
    have HN := Aside0.mk (show histR first changes street = ([], oe) from by unfold histR; rw [if_pos (by rw [hoe]; exact h0), hoe])
    clear h0 hop hoe
    gi_wp2_with fail
    obtain ⟨W', hW'⟩ : ∃ W', W3.setCell ⟨w.heap.size + 1 + 1, 0, none⟩ (.slice none 0 0) = W' := ⟨_, rfl⟩
    have q0 : W'.cell? ⟨w.heap.size + 1 + 1, 0, none⟩ = some (.slice none 0 0) := by rw [← hW']; exact (blk_cell (blk_put BL3.out 0 _ rfl) 0).trans rfl
    have HBW : Below w.heap.size w W' := by rw [← hW']; exact HB3.out.setCell (p := ⟨w.heap.size + 1 + 1, 0, none⟩) (by show w.heap.size ≤ w.heap.size + 1 + 1; omega) _
    rw [hW', HN.out]
    show ∃ v, _ ∧ _
    refine ⟨.tuple #[.slice none 0 0, .int .i64 oe], by simp [results, Tryz.results25, go_sem, q0], ?_⟩
    exact ⟨_, rfl, Kd.R_nil _ _ _ _ _, HBW⟩
def street_History.f (l0_0 : List ByteArray) (l0_1 : List S60) (a1 : Int) : Option (List S116 × Int) := some (histR l0_0 l0_1 a1)
theorem street_History.calls (A0_0 : Option Addr) (c0_0 : Nat) (l0_0 : List ByteArray) (A0_1 : Option Addr) (c0_1 : Nat) (l0_1 : List S60) (a1 : Int) (r_0 : List S116) (r_1 : Int) (w : World) (hr0_0 : Kd.C Kd.string w A0_0 l0_0.length l0_0) (hc0_0 : l0_0.length ≤ c0_0) (hr0_1 : Kd.C k60 w A0_1 l0_1.length l0_1) (hc0_1 : l0_1.length ≤ c0_1) (h : street_History.f l0_0 l0_1 a1 = some (r_0, r_1)) :
    Calls Tryz.prog 25 #[.agg #[.slice A0_0 l0_0.length c0_0, .slice A0_1 l0_1.length c0_1], .int .i64 a1] w fun e w' => ∃ v0_ : Value, e = .returned (.tuple #[v0_, .int .i64 r_1]) ∧ Kd.R k116 116 w' w.heap.size (fun _ => True) v0_ r_0 ∧ Below w.heap.size w w' := by
  have e := Option.some.inj h
  have h0 : (histR l0_0 l0_1 a1).1 = r_0 := by rw [e]
  have h1 : (histR l0_0 l0_1 a1).2 = r_1 := by rw [e]
  have := hist_any A0_0 c0_0 l0_0 A0_1 c0_1 l0_1 a1 w hr0_0 hc0_0 hr0_1 hc0_1
  rwa [h0, h1] at this
end Go.Proofs.YtdjlfdbnmnjccaaGreat.St
end
section
namespace Go.Proofs
open Go.Shelf
def Tryz.keysA_ren : Go.Shelf.Ren := ⟨fun | 7 => 75 | 10 => 110 | n => n, fun | 23 => 134 | 26 => 9 | 3 => 4 | 28 => 137 | 0 => 0 | 27 => 136 | 33 => 46 | 4 => 4 | n => n, fun | n => n⟩
theorem Tryz.keysA : Go.Proofs.SlLaysZ.n7 Tryz.prog Tryz.keysA_ren := {
  mixed := by kernel_rfl
  f7 := ⟨Tryz.f75.name, by decide, Tryz.func75.trans (congrArg some (by kernel_rfl))⟩
  f10 := ⟨Tryz.f110.name, by decide, Tryz.func110.trans (congrArg some (by kernel_rfl))⟩
  t0 := Tryz.underlying0
  a0 := Tryz.isAgg0
  z0 := Tryz.sizeOf0
  v0 := Tryz.zeroValue0
  t4 := Tryz.underlying4
  a4 := Tryz.isAgg4
  z4 := Tryz.sizeOf4
  v4 := Tryz.zeroValue4
  t23 := Tryz.underlying134
  a23 := Tryz.isAgg134
  z23 := Tryz.sizeOf134
  v23 := Tryz.zeroValue134
  t26 := Tryz.underlying9
  a26 := Tryz.isAgg9
  z26 := Tryz.sizeOf9
  v26 := Tryz.zeroValue9
  t27 := Tryz.underlying136
  a27 := Tryz.isAgg136
  z27 := Tryz.sizeOf136
  v27 := Tryz.zeroValue136
  t28 := Tryz.underlying137
  a28 := Tryz.isAgg137
  z28 := Tryz.sizeOf137
  v28 := Tryz.zeroValue137
  t33 := Tryz.underlying46
  a33 := Tryz.isAgg46
  z33 := Tryz.sizeOf46
  v33 := Tryz.zeroValue46 }
def Tryz.collectA_ren : Go.Shelf.Ren := ⟨fun | 8 => 108 | 11 => 124 | n => n, fun | 26 => 9 | 28 => 137 | 24 => 22 | 0 => 0 | 33 => 46 | 4 => 4 | n => n, fun | n => n⟩
theorem Tryz.collectA : Go.Proofs.SlLaysZ.n8 Tryz.prog Tryz.collectA_ren := {
  mixed := by kernel_rfl
  f8 := ⟨Tryz.f108.name, by decide, Tryz.func108.trans (congrArg some (by kernel_rfl))⟩
  f11 := ⟨Tryz.f124.name, by decide, Tryz.func124.trans (congrArg some (by kernel_rfl))⟩
  t0 := Tryz.underlying0
  a0 := Tryz.isAgg0
  z0 := Tryz.sizeOf0
  v0 := Tryz.zeroValue0
  t24 := Tryz.underlying22
  a24 := Tryz.isAgg22
  z24 := Tryz.sizeOf22
  v24 := Tryz.zeroValue22
  t26 := Tryz.underlying9
  a26 := Tryz.isAgg9
  z26 := Tryz.sizeOf9
  v26 := Tryz.zeroValue9
  t28 := Tryz.underlying137
  a28 := Tryz.isAgg137
  z28 := Tryz.sizeOf137
  v28 := Tryz.zeroValue137
  i26 := by kernel_rfl }
def Tryz.sortFuncA_ren : Go.Shelf.Ren := ⟨fun | 6 => 109 | 15 => 123 | 14 => 125 | 28 => 140 | 29 => 141 | 20 => 142 | 21 => 143 | 22 => 144 | 23 => 145 | 24 => 146 | 25 => 147 | 26 => 148 | 27 => 149 | 46 => 157 | 47 => 153 | 48 => 154 | 49 => 158 | 50 => 159 | 57 => 162 | n => n, fun | 22 => 22 | 24 => 9 | 25 => 139 | 3 => 3 | 39 => 152 | 0 => 0 | 53 => 204 | 55 => 206 | 4 => 4 | 46 => 197 | 45 => 196 | 50 => 170 | 5 => 5 | 9 => 9 | 66 => 214 | 70 => 218 | 76 => 222 | 77 => 223 | n => n, fun | n => n⟩
theorem Tryz.sortFuncA : Go.Proofs.SlLaysF.n6 Tryz.prog Tryz.sortFuncA_ren := {
  mixed := by kernel_rfl
  f6 := ⟨Tryz.f109.name, by decide, Tryz.func109.trans (congrArg some (by kernel_rfl))⟩
  f14 := ⟨Tryz.f125.name, by decide, Tryz.func125.trans (congrArg some (by kernel_rfl))⟩
  f15 := Tryz.func123.trans (congrArg some (by kernel_rfl))
  f20 := ⟨Tryz.f142.name, by decide, Tryz.func142.trans (congrArg some (by kernel_rfl))⟩
  f21 := ⟨Tryz.f143.name, by decide, Tryz.func143.trans (congrArg some (by kernel_rfl))⟩
  f22 := ⟨Tryz.f144.name, by decide, Tryz.func144.trans (congrArg some (by kernel_rfl))⟩
  f23 := ⟨Tryz.f145.name, by decide, Tryz.func145.trans (congrArg some (by kernel_rfl))⟩
  f24 := ⟨Tryz.f146.name, by decide, Tryz.func146.trans (congrArg some (by kernel_rfl))⟩
  f25 := ⟨Tryz.f147.name, by decide, Tryz.func147.trans (congrArg some (by kernel_rfl))⟩
  f26 := ⟨Tryz.f148.name, by decide, Tryz.func148.trans (congrArg some (by kernel_rfl))⟩
  f27 := ⟨Tryz.f149.name, by decide, Tryz.func149.trans (congrArg some (by kernel_rfl))⟩
  f28 := Tryz.func140.trans (congrArg some (by kernel_rfl))
  f29 := Tryz.func141.trans (congrArg some (by kernel_rfl))
  f46 := ⟨Tryz.f157.name, by decide, Tryz.func157.trans (congrArg some (by kernel_rfl))⟩
  f47 := Tryz.func153.trans (congrArg some (by kernel_rfl))
  f48 := Tryz.func154.trans (congrArg some (by kernel_rfl))
  f49 := ⟨Tryz.f158.name, by decide, Tryz.func158.trans (congrArg some (by kernel_rfl))⟩
  f50 := ⟨Tryz.f159.name, by decide, Tryz.func159.trans (congrArg some (by kernel_rfl))⟩
  f57 := ⟨Tryz.f162.name, by decide, Tryz.func162.trans (congrArg some (by kernel_rfl))⟩
  t0 := Tryz.underlying0
  a0 := Tryz.isAgg0
  z0 := Tryz.sizeOf0
  v0 := Tryz.zeroValue0
  t3 := Tryz.underlying3
  a3 := Tryz.isAgg3
  z3 := Tryz.sizeOf3
  v3 := Tryz.zeroValue3
  t4 := Tryz.underlying4
  a4 := Tryz.isAgg4
  z4 := Tryz.sizeOf4
  v4 := Tryz.zeroValue4
  t5 := Tryz.underlying5
  a5 := Tryz.isAgg5
  z5 := Tryz.sizeOf5
  v5 := Tryz.zeroValue5
  t9 := Tryz.underlying9
  a9 := Tryz.isAgg9
  z9 := Tryz.sizeOf9
  v9 := Tryz.zeroValue9
  t22 := Tryz.underlying22
  a22 := Tryz.isAgg22
  z22 := Tryz.sizeOf22
  v22 := Tryz.zeroValue22
  a24 := Tryz.isAgg9
  z24 := Tryz.sizeOf9
  t25 := Tryz.underlying139
  a25 := Tryz.isAgg139
  z25 := Tryz.sizeOf139
  v25 := Tryz.zeroValue139
  t39 := Tryz.underlying152
  a39 := Tryz.isAgg152
  z39 := Tryz.sizeOf152
  v39 := Tryz.zeroValue152
  t45 := Tryz.underlying196
  a45 := Tryz.isAgg196
  z45 := Tryz.sizeOf196
  v45 := Tryz.zeroValue196
  t46 := Tryz.underlying197
  a46 := Tryz.isAgg197
  z46 := Tryz.sizeOf197
  v46 := Tryz.zeroValue197
  t50 := Tryz.underlying170
  a50 := Tryz.isAgg170
  z50 := Tryz.sizeOf170
  v50 := Tryz.zeroValue170
  t53 := Tryz.underlying204
  a53 := Tryz.isAgg204
  z53 := Tryz.sizeOf204
  v53 := Tryz.zeroValue204
  t55 := Tryz.underlying206
  a55 := Tryz.isAgg206
  z55 := Tryz.sizeOf206
  v55 := Tryz.zeroValue206
  t66 := Tryz.underlying214
  a66 := Tryz.isAgg214
  z66 := Tryz.sizeOf214
  v66 := Tryz.zeroValue214
  t70 := Tryz.underlying218
  a70 := Tryz.isAgg218
  z70 := Tryz.sizeOf218
  v70 := Tryz.zeroValue218
  t76 := Tryz.underlying222
  a76 := Tryz.isAgg222
  z76 := Tryz.sizeOf222
  v76 := Tryz.zeroValue222
  t77 := Tryz.underlying223
  a77 := Tryz.isAgg223
  z77 := Tryz.sizeOf223
  v77 := Tryz.zeroValue223 }
def Tryz.lays125_ren : Go.Shelf.Ren := ⟨fun | 125 => 123 | 128 => 140 | 129 => 141 | n => n, fun | 46 => 152 | 3 => 3 | 51 => 204 | 53 => 206 | 4 => 4 | 5 => 5 | 9 => 9 | n => n, fun | n => n⟩
theorem Tryz.lays125 : Go.Proofs.Lays.n125 Tryz.prog Tryz.lays125_ren := {
  mixed := by kernel_rfl
  f125 := Tryz.func123.trans (congrArg some (by kernel_rfl))
  f128 := Tryz.func140.trans (congrArg some (by kernel_rfl))
  f129 := Tryz.func141.trans (congrArg some (by kernel_rfl))
  t3 := Tryz.underlying3
  a3 := Tryz.isAgg3
  z3 := Tryz.sizeOf3
  v3 := Tryz.zeroValue3
  t4 := Tryz.underlying4
  a4 := Tryz.isAgg4
  z4 := Tryz.sizeOf4
  v4 := Tryz.zeroValue4
  t5 := Tryz.underlying5
  a5 := Tryz.isAgg5
  z5 := Tryz.sizeOf5
  v5 := Tryz.zeroValue5
  t9 := Tryz.underlying9
  a9 := Tryz.isAgg9
  z9 := Tryz.sizeOf9
  v9 := Tryz.zeroValue9
  t46 := Tryz.underlying152
  a46 := Tryz.isAgg152
  z46 := Tryz.sizeOf152
  v46 := Tryz.zeroValue152
  t51 := Tryz.underlying204
  a51 := Tryz.isAgg204
  z51 := Tryz.sizeOf204
  v51 := Tryz.zeroValue204
  t53 := Tryz.underlying206
  a53 := Tryz.isAgg206
  z53 := Tryz.sizeOf206
  v53 := Tryz.zeroValue206 }
end Go.Proofs
end
