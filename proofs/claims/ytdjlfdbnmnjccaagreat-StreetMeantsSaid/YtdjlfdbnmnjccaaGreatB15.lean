/- A part of the proofs of the laws of this seat: the walks of the program's functions, and lemmas. They hold without conditions. -/
import Derived.Sort.KeysCollected
import Derived.Sort.OwnSorted
import Derived.Shelf.SlSortCmp.Whole1
import Derived.Maps.Own
import Derived.Maps.Views
import Derived.Test.YtdjlfdbnmnjccaaGreatB10
import Derived.Test.YtdjlfdbnmnjccaaGreatB13
import Derived.Test.YtdjlfdbnmnjccaaGreatB14
set_option linter.all false
set_option linter.unusedSectionVars false
section
set_option linter.unusedVariables false
set_option linter.unusedSimpArgs false
namespace Go.Proofs.YtdjlfdbnmnjccaaGreat.St
open Go.Sort hiding rd
open Go.RowKit Go.Shelf Go.Proofs.YtdjlfdbnmnjccaaGreatW.PrintWords Go.Proofs.YtdjlfdbnmnjccaaGreatW.PrintLast Go.Proofs.YtdjlfdbnmnjccaaGreatW.PrintMore
section held
variable {P : Program} {ops : Array Oper} {Q : Exit → Act → World → Prop} {md : Region.Mode} {S : World → Prop} {ds : List Nat}
def seqIdxB (md : Region.Mode) (ops : Array Oper) : List Nat → Array Bool → Bool
  | [], listed => (Region.ready md ops listed).isEmpty
  | i :: is, listed => decide (Region.ready md ops listed = [i]) && seqIdxB md ops is (listed.setIfInBounds i true)
def lexOkB (md : Region.Mode) (ops : Array Oper) (ds rest : List Nat) : List Nat → Array Bool → Bool
  | [], listed => seqIdxB md ops rest listed
  | i :: is, listed => takeOkB md ops ds listed i && lexOkB md ops ds rest is (listed.setIfInBounds i true)
theorem wpAnyLast_of_seqI : ∀ (is : List Nat) (l : List Oper) (listed : Array Bool) (a : Act) (w : World), (is.map fun i => ops[i]?) = l.map some → (∀ i ∈ is, i ∈ ds) →
    seqIdxB md ops is listed = true → wpList P ops Q l a w → wpAnyLast P md ops Q S ds is.length listed a w
  | [], [], _, _, _, _, _, hB, h => ⟨by simpa [seqIdxB] using hB, h⟩
  | [], _ :: _, _, _, _, he, _, _, _ => by simp at he
  | _ :: _, [], _, _, _, he, _, _, _ => by simp at he
  | k :: is, o :: l, listed, a, w, he, hds, hB, h => by
    simp only [List.map_cons, List.cons.injEq] at he
    simp only [seqIdxB, Bool.and_eq_true, decide_eq_true_eq] at hB
    refine ⟨fun h1 => (by rw [hB.1] at h1; cases h1), fun i hi => ?_⟩
    rw [hB.1] at hi
    have hik : i = k := by simpa using hi
    subst hik
    have hw : wpOp P ops Q i (wpList P ops Q l) a w := by unfold wpOp; simp only [he.1]; exact h
    exact wpOp_mono (fun a' w' h' => ⟨fun hn => absurd (hds i (by simp)) hn, wpAnyLast_of_seqI is l _ a' w' he.2 (fun j hj => hds j (by simp [hj])) hB.2 h'⟩) hw
theorem wpAnyLast_heldI {rest : List Nat} {L : Act → Prop} {w : World} (hS : S w) (hL : ∀ listed a, seqIdxB md ops rest listed = true → L a → wpAnyLast P md ops Q S ds rest.length listed a w)
    (hQ : ∀ c a w, ¬ Q (.panic c) a w) :
    ∀ (is : List Nat) (l : List Oper) (listed : Array Bool) (a : Act), (is.map fun i => ops[i]?) = l.map some → lexOkB md ops ds rest is listed = true → wpHeld P ops S L l a →
      wpAnyLast P md ops Q S ds (is.length + rest.length) listed a w
  | [], [], listed, a, _, hB, h => by
    simp only [lexOkB] at hB
    simp only [List.length_nil, Nat.zero_add]
    exact hL listed a hB h
  | [], _ :: _, _, _, he, _, _ => by simp at he
  | _ :: _, [], _, _, he, _, _ => by simp at he
  | k :: is, o :: l, listed, a, he, hB, h => by
    simp only [List.map_cons, List.cons.injEq] at he
    simp only [lexOkB, takeOkB, Bool.and_eq_true] at hB
    obtain ⟨⟨⟨⟨⟨h1, h2⟩, h3⟩, h4⟩, h5⟩, hB'⟩ := hB
    obtain ⟨v, hy, hK⟩ := h
    have := wpAnyLast_heldI hS hL hQ is l (listed.setIfInBounds k true) (a.put o.dst v) he.2 hB' hK
    rw [show (k :: is).length + rest.length = (is.length + rest.length) + 1 by simp; omega]
    exact wpAnyLast_take he.1 h1 h2 h3 h4 h5 (fun c a w hh => absurd hh (hQ c _ w)) hy hS this
end held
theorem any_held {P : Program} {Q : Exit → Act → World → Prop} {a : Act} {w : World} {ls : List Oper} (S : World → Prop) (hs : List Nat) (m : Nat) (ts : List Nat) (hl : List Oper) (om : Oper) (tl : List Oper)
    (hh : (hs.map fun i => ls.toArray[i]?) = hl.map some) (hom : ls.toArray[m]? = some om) (ht : (ts.map fun i => ls.toArray[i]?) = tl.map some)
    (hB : ((hs.length + (1 + ts.length) == ls.length) && !ts.contains m && lexOkB .any ls.toArray ts (m :: ts) hs (Array.replicate ls.toArray.size false)) = true) (hS : S w)
    (h : wpHeld P ls.toArray S (fun a' => ∀ K : Act → World → Prop, (∀ a'' w'', S w'' → wpList P ls.toArray (OnlyN Q) tl a'' w'' → K a'' w'') → if Region.wanted om (yielded ls.toArray a'.tmps) = true then Oper.wp P om a' w K (OnlyN Q) else K (a'.put om.dst undef) w) hl a) :
    wpAny P .any ls.toArray (OnlyN Q) ls.toArray.size (Array.replicate ls.toArray.size false) a w := by
  simp only [Bool.and_eq_true, beq_iff_eq, Bool.not_eq_true', List.contains_eq_mem, decide_eq_false_iff_not] at hB
  obtain ⟨⟨hlen, hmt⟩, hB⟩ := hB
  have key := wpAnyLast_heldI (P := P) (md := .any) (Q := OnlyN Q) (S := S) (ds := ts) (ops := ls.toArray) (rest := m :: ts) (w := w)
    (L := fun a' => ∀ K : Act → World → Prop, (∀ a'' w'', S w'' → wpList P ls.toArray (OnlyN Q) tl a'' w'' → K a'' w'') → if Region.wanted om (yielded ls.toArray a'.tmps) = true then Oper.wp P om a' w K (OnlyN Q) else K (a'.put om.dst undef) w) hS
    (fun listed a' hsq hLa => by
      simp only [seqIdxB, Bool.and_eq_true, decide_eq_true_eq] at hsq
      refine ⟨fun h1 => (by rw [hsq.1] at h1; cases h1), fun i hi => ?_⟩
      rw [hsq.1] at hi
      have hik : i = m := by simpa using hi
      subst hik
      exact wpOp_step hom (fun K' hK' => hLa K' (fun a'' w'' hS'' hw'' => hK' a'' w'' ⟨fun _ _ => hS'', wpAnyLast_of_seqI ts tl _ a'' w'' ht (fun j hj => hj) hsq.2 hw''⟩)))
    (onlyN_panic Q) hs hl (Array.replicate ls.toArray.size false) a hh hB h
  rw [show hs.length + (m :: ts).length = ls.toArray.size by simp; omega] at key
  exact wpAny_of_last _ _ _ _ key
theorem any_held0 {P : Program} {Q : Exit → Act → World → Prop} {a : Act} {w : World} {ls : List Oper} (S : World → Prop) (hs ts : List Nat) (hl tl : List Oper)
    (hh : (hs.map fun i => ls.toArray[i]?) = hl.map some) (ht : (ts.map fun i => ls.toArray[i]?) = tl.map some)
    (hB : ((hs.length + ts.length == ls.length) && lexOkB .any ls.toArray ts ts hs (Array.replicate ls.toArray.size false)) = true) (hS : S w)
    (h : wpHeld P ls.toArray S (fun a' => wpList P ls.toArray (OnlyN Q) tl a' w) hl a) :
    wpAny P .any ls.toArray (OnlyN Q) ls.toArray.size (Array.replicate ls.toArray.size false) a w := by
  simp only [Bool.and_eq_true, beq_iff_eq] at hB
  obtain ⟨hlen, hB⟩ := hB
  have key := wpAnyLast_heldI (P := P) (md := .any) (Q := OnlyN Q) (S := S) (ds := ts) (ops := ls.toArray) (rest := ts) (w := w)
    (L := fun a' => wpList P ls.toArray (OnlyN Q) tl a' w) hS
    (fun listed a' hsq hLa => wpAnyLast_of_seqI ts tl _ a' w ht (fun j hj => hj) hsq hLa)
    (onlyN_panic Q) hs hl (Array.replicate ls.toArray.size false) a hh hB h
  rw [show hs.length + ts.length = ls.toArray.size by simp; omega] at key
  exact wpAny_of_last _ _ _ _ key
theorem round_heldI {n l id : Nat} {P : Program} {Q : Exit → Act → World → Prop} {a : Act} {w : World} {ls : List Oper} (S : World → Prop) (hs : List Nat) (m : Nat) (ts : List Nat) (hl : List Oper) (om : Oper) (tl : List Oper) (hm : P.follows .mixedOrders = true) (hd : noDefer ls.toArray = true)
    (hh : (hs.map fun i => ls.toArray[i]?) = hl.map some) (hom : ls.toArray[m]? = some om) (ht : (ts.map fun i => ls.toArray[i]?) = tl.map some)
    (hB : ((hs.length + (1 + ts.length) == ls.length) && !ts.contains m && lexOkB .any ls.toArray ts (m :: ts) hs (Array.replicate ls.toArray.size false)) = true) (hS : S w.drew)
    (h : wpHeld P ls.toArray S (fun a' => ∀ K : Act → World → Prop, (∀ a'' w'', S w'' → wpList P ls.toArray (OnlyN Q) tl a'' w'' → K a'' w'') → if Region.wanted om (yielded ls.toArray a'.tmps) = true then Oper.wp P om a' w.drew K (OnlyN Q) else K (a'.put om.dst undef) w.drew) hl a) :
    (Code.region id ls.toArray true).wpIn (Fence.wide.inRound l) n P Q a w := round_any hm hd (any_held S hs m ts hl om tl hh hom ht hB hS h)
theorem round_heldI0 {n l id : Nat} {P : Program} {Q : Exit → Act → World → Prop} {a : Act} {w : World} {ls : List Oper} (S : World → Prop) (hs ts : List Nat) (hl tl : List Oper) (hm : P.follows .mixedOrders = true) (hd : noDefer ls.toArray = true)
    (hh : (hs.map fun i => ls.toArray[i]?) = hl.map some) (ht : (ts.map fun i => ls.toArray[i]?) = tl.map some)
    (hB : ((hs.length + ts.length == ls.length) && lexOkB .any ls.toArray ts ts hs (Array.replicate ls.toArray.size false)) = true) (hS : S w.drew)
    (h : wpHeld P ls.toArray S (fun a' => wpList P ls.toArray (OnlyN Q) tl a' w.drew) hl a) :
    (Code.region id ls.toArray true).wpIn (Fence.wide.inRound l) n P Q a w := round_any hm hd (any_held0 S hs ts hl tl hh ht hB hS h)
theorem wide_heldI {n id : Nat} {P : Program} {Q : Exit → Act → World → Prop} {a : Act} {w : World} {ls : List Oper} (S : World → Prop) (hs : List Nat) (m : Nat) (ts : List Nat) (hl : List Oper) (om : Oper) (tl : List Oper) (hm : P.follows .mixedOrders = true)
    (hh : (hs.map fun i => ls.toArray[i]?) = hl.map some) (hom : ls.toArray[m]? = some om) (ht : (ts.map fun i => ls.toArray[i]?) = tl.map some)
    (hB : ((hs.length + (1 + ts.length) == ls.length) && !ts.contains m && lexOkB .any ls.toArray ts (m :: ts) hs (Array.replicate ls.toArray.size false)) = true) (hS : S w.drew)
    (h : wpHeld P ls.toArray S (fun a' => ∀ K : Act → World → Prop, (∀ a'' w'', S w'' → wpList P ls.toArray (OnlyN Q) tl a'' w'' → K a'' w'') → if Region.wanted om (yielded ls.toArray a'.tmps) = true then Oper.wp P om a' w.drew K (OnlyN Q) else K (a'.put om.dst undef) w.drew) hl a) :
    (Code.region id ls.toArray true).wpIn Fence.wide n P Q a w := wpIn_wide.2 (wp_mono (wp_region_any hm (any_held S hs m ts hl om tl hh hom ht hB hS h)) onlyN_imp)
theorem wide_heldI0 {n id : Nat} {P : Program} {Q : Exit → Act → World → Prop} {a : Act} {w : World} {ls : List Oper} (S : World → Prop) (hs ts : List Nat) (hl tl : List Oper) (hm : P.follows .mixedOrders = true)
    (hh : (hs.map fun i => ls.toArray[i]?) = hl.map some) (ht : (ts.map fun i => ls.toArray[i]?) = tl.map some)
    (hB : ((hs.length + ts.length == ls.length) && lexOkB .any ls.toArray ts ts hs (Array.replicate ls.toArray.size false)) = true) (hS : S w.drew)
    (h : wpHeld P ls.toArray S (fun a' => wpList P ls.toArray (OnlyN Q) tl a' w.drew) hl a) :
    (Code.region id ls.toArray true).wpIn Fence.wide n P Q a w := wpIn_wide.2 (wp_mono (wp_region_any hm (any_held0 S hs ts hl tl hh ht hB hS h)) onlyN_imp)
theorem plain_heldI0 {id : Nat} {P : Program} {Q : Exit → Act → World → Prop} {a : Act} {w : World} {ls : List Oper} (S : World → Prop) (hs ts : List Nat) (hl tl : List Oper) (hm : P.follows .mixedOrders = true)
    (hh : (hs.map fun i => ls.toArray[i]?) = hl.map some) (ht : (ts.map fun i => ls.toArray[i]?) = tl.map some)
    (hB : ((hs.length + ts.length == ls.length) && lexOkB .any ls.toArray ts ts hs (Array.replicate ls.toArray.size false)) = true) (hS : S w.drew)
    (h : wpHeld P ls.toArray S (fun a' => wpList P ls.toArray (OnlyN Q) tl a' w.drew) hl a) :
    (Code.region id ls.toArray true).wp P Q a w := wp_mono (wp_region_any hm (any_held0 S hs ts hl tl hh ht hB hS h)) onlyN_imp
section pieces
variable {P : Program} {ops : Array Oper} {Q : Exit → Act → World → Prop} {md : Region.Mode} {S : World → Prop} {ds : List Nat}
def headsB (md : Region.Mode) (ops : Array Oper) (ds : List Nat) (l1 : Array Bool) : List Nat → Array Bool → Bool
  | [], listed => listed == l1
  | i :: is, listed => takeOkB md ops ds listed i && headsB md ops ds l1 is (listed.setIfInBounds i true)
theorem heads_ {w : World} {g : Nat} (l1 : Array Bool) (hS : S w) (hQ : ∀ c a w, ¬ Q (.panic c) a w) :
    ∀ (is : List Nat) (l : List Oper) (listed : Array Bool) (a : Act), (is.map fun i => ops[i]?) = l.map some → headsB md ops ds l1 is listed = true → wpHeld P ops S (fun a' => wpAnyLast P md ops Q S ds g l1 a' w) l a →
      wpAnyLast P md ops Q S ds (is.length + g) listed a w
  | [], [], listed, a, _, hB, h => by
    simp only [headsB, beq_iff_eq] at hB
    subst hB
    simp only [List.length_nil, Nat.zero_add]
    exact h
  | [], _ :: _, _, _, he, _, _ => by simp at he
  | _ :: _, [], _, _, he, _, _ => by simp at he
  | k :: is, o :: l, listed, a, he, hB, h => by
    simp only [List.map_cons, List.cons.injEq] at he
    simp only [headsB, takeOkB, Bool.and_eq_true] at hB
    obtain ⟨⟨⟨⟨⟨h1, h2⟩, h3⟩, h4⟩, h5⟩, hB'⟩ := hB
    obtain ⟨v, hy, hK⟩ := h
    have := heads_ l1 hS hQ is l (listed.setIfInBounds k true) (a.put o.dst v) he.2 hB' hK
    rw [show (k :: is).length + g = (is.length + g) + 1 by simp; omega]
    exact wpAnyLast_take he.1 h1 h2 h3 h4 h5 (fun c a w hh => absurd hh (hQ c _ w)) hy hS this
def puresB (md : Region.Mode) (ops : Array Oper) (l1 : Array Bool) : List Nat → Array Bool → Bool
  | [], listed => listed == l1
  | i :: is, listed => (Region.noSelect ops && Region.free md ops listed i && (Region.ready md ops listed).contains i) && puresB md ops l1 is (listed.setIfInBounds i true)
theorem pures_ {w : World} {g : Nat} (l1 : Array Bool) (hQ : ∀ c a w, ¬ Q (.panic c) a w) :
    ∀ (is : List Nat) (l : List Oper) (listed : Array Bool) (a : Act), (is.map fun i => ops[i]?) = l.map some → puresB md ops l1 is listed = true → wpHeld P ops (fun _ => True) (fun a' => wpAnyLast P md ops Q S ds g l1 a' w) l a →
      wpAnyLast P md ops Q S ds (is.length + g) listed a w
  | [], [], listed, a, _, hB, h => by
    simp only [puresB, beq_iff_eq] at hB
    subst hB
    simp only [List.length_nil, Nat.zero_add]
    exact h
  | [], _ :: _, _, _, he, _, _ => by simp at he
  | _ :: _, [], _, _, he, _, _ => by simp at he
  | k :: is, o :: l, listed, a, he, hB, h => by
    simp only [List.map_cons, List.cons.injEq] at he
    simp only [puresB, Bool.and_eq_true] at hB
    obtain ⟨⟨⟨h1, h2⟩, h3⟩, hB'⟩ := hB
    obtain ⟨v, hy, hK⟩ := h
    have := pures_ l1 hQ is l (listed.setIfInBounds k true) (a.put o.dst v) he.2 hB' hK
    rw [show (k :: is).length + g = (is.length + g) + 1 by simp; omega]
    refine wpAnyLast_any he.1 (Region.noSelect_spec h1) (fun c a w hh => absurd hh (hQ c _ w)) _ listed a w (Region.free_spec he.1 h2) (by simpa using h3) ?_ this
    rcases hy with ⟨hw, hv⟩ | ⟨hw, e⟩
    · exact .inl ⟨hw, fun w' => hv w' trivial⟩
    · exact .inr ⟨hw, e⟩
theorem branch_ {w : World} {g i j : Nat} {oi oj : Oper} {listed : Array Bool} {a : Act} (hB : ((Region.ready md ops listed == [i, j]) && ds.contains j) = true) (hi : ops[i]? = some oi) (hj : ops[j]? = some oj)
    (h1 : ∀ K : Act → World → Prop, (∀ a' w', S w' → wpAnyLast P md ops Q S ds g (listed.setIfInBounds i true) a' w' → K a' w') → if Region.wanted oi (yielded ops a.tmps) = true then Oper.wp P oi a w K Q else K (a.put oi.dst undef) w)
    (h2 : ∀ K : Act → World → Prop, (∀ a' w', wpAnyLast P md ops Q S ds g (listed.setIfInBounds j true) a' w' → K a' w') → if Region.wanted oj (yielded ops a.tmps) = true then Oper.wp P oj a w K Q else K (a.put oj.dst undef) w) :
    wpAnyLast P md ops Q S ds (g + 1) listed a w := by
  simp only [Bool.and_eq_true, beq_iff_eq, List.contains_eq_mem, decide_eq_true_eq] at hB
  obtain ⟨hr, hjd⟩ := hB
  refine ⟨fun h => (by rw [hr] at h; cases h), fun x hx => ?_⟩
  rw [hr] at hx
  rcases List.mem_cons.1 hx with rfl | hx
  · exact wpOp_step hi (fun K' hK' => h1 K' (fun a'' w'' hS'' hw'' => hK' a'' w'' ⟨fun _ _ => hS'', hw''⟩))
  · have : x = j := by simpa using hx
    subst this
    exact wpOp_step hj (fun K' hK' => h2 K' (fun a'' w'' hw'' => hK' a'' w'' ⟨fun hn => absurd hjd hn, hw''⟩))
theorem one1_ {w : World} {g i : Nat} {oi : Oper} {listed : Array Bool} {a : Act} (hB : (Region.ready md ops listed == [i]) = true) (hi : ops[i]? = some oi)
    (h1 : ∀ K : Act → World → Prop, (∀ a' w', (S w → S w') → wpAnyLast P md ops Q S ds g (listed.setIfInBounds i true) a' w' → K a' w') → if Region.wanted oi (yielded ops a.tmps) = true then Oper.wp P oi a w K Q else K (a.put oi.dst undef) w) :
    wpAnyLast P md ops Q S ds (g + 1) listed a w := by
  have hr := beq_iff_eq.1 hB
  refine ⟨fun h => (by rw [hr] at h; cases h), fun x hx => ?_⟩
  rw [hr] at hx
  have : x = i := by simpa using hx
  subst this
  exact wpOp_step hi (fun K' hK' => h1 K' (fun a'' w'' hS'' hw'' => hK' a'' w'' ⟨fun _ => hS'', hw''⟩))
theorem row_ (is : List Nat) (l : List Oper) {listed : Array Bool} {a : Act} {w : World} (he : (is.map fun i => ops[i]?) = l.map some) (hB : ((is.all fun i => ds.contains i) && seqIdxB md ops is listed) = true) (h : wpList P ops Q l a w) : wpAnyLast P md ops Q S ds is.length listed a w := by
  simp only [Bool.and_eq_true, List.all_eq_true, List.contains_eq_mem, decide_eq_true_eq] at hB
  exact wpAnyLast_of_seqI is l listed a w he hB.1 hB.2 h
theorem round_last {n l id : Nat} {a : Act} {w : World} {ls : List Oper} (S : World → Prop) (ds : List Nat) (g : Nat) (l0 : Array Bool) (hm : P.follows .mixedOrders = true) (hd : noDefer ls.toArray = true) (hl : (ls.length == g) = true) (hl0 : Array.replicate g false = l0)
    (h : wpAnyLast P .any ls.toArray (OnlyN Q) S ds g l0 a w.drew) : (Code.region id ls.toArray true).wpIn (Fence.wide.inRound l) n P Q a w := by
  have hg : ls.toArray.size = g := by simpa using hl
  refine round_any hm hd ?_
  rw [hg, hl0]
  exact wpAny_of_last _ _ _ _ h
end pieces
end Go.Proofs.YtdjlfdbnmnjccaaGreat.St
end
section
set_option linter.unusedVariables false
set_option linter.unusedSimpArgs false
namespace Go.Proofs.YtdjlfdbnmnjccaaGreat.St
open Go.Sort hiding rd
open Go.Maps Go.RowKit Go.Shelf Go.Proofs Go.Proofs.YtdjlfdbnmnjccaaGreatW.PrintWords Go.Proofs.YtdjlfdbnmnjccaaGreatW.PrintLast Go.Proofs.YtdjlfdbnmnjccaaGreatW.PrintMore
theorem cb_swap : ∀ a b : List UInt8, Lib.compareBytes b a = - Lib.compareBytes a b
  | [], [] => rfl
  | [], _ :: _ => rfl
  | _ :: _, [] => rfl
  | a :: xs, b :: ys => by
    have ih := cb_swap xs ys
    simp only [Lib.compareBytes]
    by_cases h1 : a < b
    · have h2 : ¬ b < a := fun h => by simp only [UInt8.lt_iff_toNat_lt] at *; omega
      simp [h1, h2]
    · by_cases h2 : b < a
      · simp [h1, h2]
      · simp [h1, h2, ih]
theorem cb_eq : ∀ a b : List UInt8, Lib.compareBytes a b = 0 → a = b
  | [], [], _ => rfl
  | [], _ :: _, h => by simp [Lib.compareBytes] at h
  | _ :: _, [], h => by simp [Lib.compareBytes] at h
  | a :: xs, b :: ys, h => by
    simp only [Lib.compareBytes] at h
    by_cases h1 : a < b
    · simp [h1] at h
    · by_cases h2 : b < a
      · simp [h1, h2] at h
      · simp [h1, h2] at h
        have e : a = b := by
          have : a.toNat = b.toNat := by simp only [UInt8.lt_iff_toNat_lt] at *; omega
          exact UInt8.toNat_inj.1 this
        rw [e, cb_eq xs ys h]
theorem cb_self (a : List UInt8) : Lib.compareBytes a a = 0 := by
  have := cb_swap a a
  omega
theorem cb_trans : ∀ a b c : List UInt8, Lib.compareBytes a b < 0 → Lib.compareBytes b c < 0 → Lib.compareBytes a c < 0
  | [], [], _, h, _ => by simp [Lib.compareBytes] at h
  | [], _ :: _, [], _, h => by simp [Lib.compareBytes] at h
  | [], _ :: _, _ :: _, _, _ => by simp [Lib.compareBytes]
  | _ :: _, [], _, h, _ => by simp [Lib.compareBytes] at h
  | _ :: _, _ :: _, [], _, h => by simp [Lib.compareBytes] at h
  | a :: xs, b :: ys, c :: zs, h1, h2 => by
    have ih := cb_trans xs ys zs
    simp only [Lib.compareBytes] at *
    simp only [UInt8.lt_iff_toNat_lt] at *
    by_cases p1 : a.toNat < b.toNat
    · by_cases p2 : b.toNat < c.toNat
      · rw [if_pos (by omega)]; omega
      · rw [if_neg p2] at h2
        by_cases p3 : c.toNat < b.toNat
        · rw [if_pos p3] at h2; omega
        · rw [if_pos (by omega)]; omega
    · rw [if_neg p1] at h1
      by_cases p4 : b.toNat < a.toNat
      · rw [if_pos p4] at h1; omega
      · rw [if_neg p4] at h1
        by_cases p2 : b.toNat < c.toNat
        · rw [if_pos (by omega)]; omega
        · rw [if_neg p2] at h2
          by_cases p3 : c.toNat < b.toNat
          · rw [if_pos p3] at h2; omega
          · rw [if_neg p3] at h2
            rw [if_neg (by omega), if_neg (by omega)]
            exact ih h1 h2
def cfS (x y : List UInt8) : Int := Lib.compareBytes x y
theorem lt_t {x y : List UInt8} : ltOf cfS x y = true ↔ Lib.compareBytes x y < 0 := by unfold ltOf cfS; exact decide_eq_true_iff
theorem lt_f {x y : List UInt8} : ltOf cfS x y = false ↔ 0 ≤ Lib.compareBytes x y := by
  unfold ltOf cfS
  rw [decide_eq_false_iff_not]
  omega
theorem swo_S : SWO (ltOf cfS) := by
  refine ⟨fun x => ?_, fun x y z h1 h2 => ?_, fun x y z h1 h2 => ?_⟩
  · rw [lt_f, cb_self]; omega
  · rw [lt_t] at *
    exact cb_trans x y z h1 h2
  · rw [lt_f] at *
    by_cases h : Lib.compareBytes x z < 0
    · exfalso
      by_cases e : Lib.compareBytes y z = 0
      · rw [← cb_eq y z e] at h; omega
      · have s1 := cb_swap y z
        have h3 : Lib.compareBytes z y < 0 := by omega
        have := cb_trans x z y h h3
        omega
    · omega
def Asc (l : List (List UInt8)) : Prop := l.Pairwise fun x y => ltOf cfS y x = false
theorem asc_unique {l l' : List (List UInt8)} (h : Asc l) (h' : Asc l') (hp : l.Perm l') : l = l' := by
  refine List.Perm.eq_of_pairwise (le := fun x y => ltOf cfS y x = false) (fun a b _ _ h1 h2 => ?_) h h' hp
  rw [lt_f] at h1 h2
  have := cb_swap a b
  exact cb_eq a b (by omega)
theorem asc_of_sorted {d : Array (List UInt8)} (h : SortedIn (ltOf cfS) 0 d.size d) : Asc d.toList := by
  unfold Asc
  rw [List.pairwise_iff_getElem]
  intro i j hi hj hij
  have hi' : i < d.size := by simpa using hi
  have hj' : j < d.size := by simpa using hj
  have := h i j (Nat.zero_le _) hij hj'
  simpa [getElem!_pos, hi', hj'] using this
def insU (x : List UInt8) : List (List UInt8) → List (List UInt8)
  | [] => [x]
  | y :: ys => if Lib.compareBytes x y < 0 then x :: y :: ys else y :: insU x ys
def sortU (l : List (List UInt8)) : List (List UInt8) := l.foldr insU []
theorem insU_perm (x : List UInt8) : ∀ l, (insU x l).Perm (x :: l)
  | [] => List.Perm.refl _
  | y :: ys => by
    unfold insU
    split
    · exact List.Perm.refl _
    · exact ((insU_perm x ys).cons y).trans (List.Perm.swap x y ys)
theorem sortU_perm : ∀ l, (sortU l).Perm l
  | [] => List.Perm.refl _
  | x :: l => (insU_perm x (sortU l)).trans ((sortU_perm l).cons x)
theorem insU_asc (x : List UInt8) : ∀ l, Asc l → Asc (insU x l)
  | [], _ => by simp [insU, Asc]
  | y :: ys, h => by
    unfold Asc at h
    rw [List.pairwise_cons] at h
    unfold insU
    split
    · rename_i hlt
      unfold Asc
      rw [List.pairwise_cons, List.pairwise_cons]
      refine ⟨fun z hz => ?_, h.1, h.2⟩
      have hxy : ltOf cfS y x = false := by
        have := cb_swap x y
        rw [lt_f]; omega
      rcases List.mem_cons.1 hz with rfl | hz
      · exact hxy
      · exact swo_S.ntrans z y x (h.1 z hz) hxy
    · rename_i hlt
      unfold Asc
      rw [List.pairwise_cons]
      refine ⟨fun z hz => ?_, insU_asc x ys h.2⟩
      have := (insU_perm x ys).mem_iff.1 hz
      rcases List.mem_cons.1 this with rfl | hz'
      · rw [lt_f]; omega
      · exact h.1 z hz'
theorem sortU_asc : ∀ l, Asc (sortU l)
  | [] => by simp [sortU, Asc]
  | x :: l => insU_asc x (sortU l) (sortU_asc l)
theorem cmpS_reads (blk off size : Nat) (w : World) : CmpReads Tryz.prog 76 #[] encStr cfS blk off size w := by
  intro m os dk _ x y
  refine (Tryz.strings_Compare ⟨x.toArray⟩ ⟨y.toArray⟩ _).mono ?_
  rintro e w' ⟨rfl, rfl⟩
  exact ⟨by simp [cfS], 0, rfl⟩
theorem bitsLen_small (n : Nat) (W : World) (h : n ≤ 12) : Calls Tryz.prog 123 #[.int .u64 n] W fun e w' => (∃ l : Int, e = .returned (.int .i64 l)) ∧ w' = W :=
  (Any.bits_Len Tryz.lays125 (n : Int) W (by omega) (by omega)).mono fun e w' ⟨h1, h2⟩ => ⟨⟨_, h1⟩, h2⟩
theorem oneS : OneCell encStr := fun _ => rfl
set_option maxRecDepth 100000 in
theorem insS_empty (v f : Value) (w : World) :
    Calls Tryz.prog 142 #[v, .int .i64 0, .int .i64 0, f] w fun e w' => e = .returned (.tuple #[]) ∧ w = w' := by
  go_enter Tryz.func142, Tryz.ntmps142
  go_wp2
  refine wp_loop_rounds 1 ?_
  rw [rounds_succ]
  go_wp2
  go_end0
  exact ⟨rfl, rfl⟩
set_option maxHeartbeats 2000000 in
set_option maxRecDepth 100000 in
theorem pdqS_empty (v f : Value) (lim : Int) (w : World) :
    Calls Tryz.prog 125 #[v, .int .i64 0, .int .i64 0, .int .i64 lim, f] w fun e w' => e = .returned (.tuple #[]) ∧ w = w' := by
  go_enter Tryz.func125, Tryz.ntmps125
  go_wp2_with fail
  refine wp_loop_rounds 1 ?_
  rw [rounds_succ]
  go_wp2_with fail
  refine (insS_empty v f w).mono ?_
  rintro e w' ⟨rfl, rfl⟩
  go_wp2_with fail
  (try simp only [Exit.inBlock, Exit.then])
  refine bodyPost_ret (results_none rfl _ _ _) rfl ?_
  exact ⟨rfl, rfl⟩
set_option maxRecDepth 100000 in
theorem sortFuncS_nil (f : Value) (w : World) :
    Calls Tryz.prog 109 #[.slice none 0 0, f] w fun e w' => e = .returned (.tuple #[]) ∧ w = w' := by
  go_enter Tryz.func109, Tryz.ntmps109
  go_wp2_with fail
  refine (bitsLen_small 0 w (by omega)).mono ?_
  rintro e w' ⟨⟨l, rfl⟩, rfl⟩
  go_wp2_with fail
  refine (pdqS_empty (.slice none 0 0) f l w').mono ?_
  rintro e w2 ⟨rfl, rfl⟩
  go_wp2_with fail
  go_end0
  exact ⟨rfl, rfl⟩
theorem sortFuncS_any (d : List (List UInt8)) (base : Nat) (v : Value) (w : World) (hown : w.ownsRow base 9 1 v d.length (d.map encStr)) (h12 : d.length < 4611686018427387904) (hbase : base ≤ w.heap.size) :
    Calls Tryz.prog 109 #[v, .func (.func 76) #[] #[]] w fun e w' => e = .returned (.tuple #[]) ∧ w'.ownsRow base 9 1 v d.length ((sortU d).map encStr) ∧ Below base w w' := by
  by_cases hv : v = .slice none 0 0
  · subst hv
    have hd : d = [] := by
      rcases hown.2 with ⟨_, h⟩ | ⟨g, cap, cur, e, _⟩
      · exact List.eq_nil_of_length_eq_zero h
      · cases e
    subst hd
    exact (sortFuncS_nil _ w).mono fun e w' ⟨h1, h2⟩ => ⟨h1, h2 ▸ hown, h2 ▸ Below.refl _ _⟩
  · rcases hown.2 with ⟨e, _⟩ | ⟨g, cap, cur, rfl, hbg, hg, hn, hm, hl, ht⟩
    · exact absurd e hv
    have hH : Holds encStr w g 0 d.toArray := holds_of_block hg (by simpa using ht)
    have hcall := Any.slices_SortFunc Tryz.sortFuncA encStr oneS cfS swo_S 76 #[] g 0 cap d.toArray w (enters_of Tryz.func76 (by kernel_rfl) rfl) ((cmpS_reads _ _ _ _).lays) hH (Array.getElem?_eq_some_iff.1 hg).1 (by simpa using h12)
    refine Calls.mono (R := _) (show Calls Tryz.prog 109 #[.slice (some ⟨g, 0, none⟩) d.length cap, .func (.func 76) #[] #[]] w _ from hcall) ?_
    rintro e w' ⟨rfl, d', n, os, hp, hs, rfl⟩
    have hsz : d'.size = d.length := by simpa using hp.1
    have hperm : d'.toList.Perm d := by
      have := hp.2.2
      simp [← hsz] at this
      rwa [hsz, List.take_length] at this
    have hasc : Asc d'.toList := asc_of_sorted (by simpa [hsz] using hs)
    have he : d'.toList = sortU d := asc_unique hasc (sortU_asc d) (hperm.trans (sortU_perm d).symm)
    obtain rfl : d' = (sortU d).toArray := by rw [← he]
    have hgr : w.grownBy (sortWorld encStr w g 0 n (sortU d).toArray os) (some g) := grownBy_sorted _
    refine ⟨rfl, ownsRow_sorted (by simpa using hsz) hbg hg hn hm hl, (Below.refl _ w).grown hgr hbase (fun j hj => by cases hj; exact hbg)⟩
theorem sortedKeys_any {R : Value → Option (DataW Unit × List MemPlace)} (Bm b nn : Nat) (D0 : DataW Unit) (w : World) (hm : w.cell? ⟨Bm, 0, none⟩ = some (.map (some b))) (hown : w.ownsMap Tryz.prog 9 R b nn D0) (hsize : Maps.size D0 ≤ 1000) :
    Calls Tryz.prog 74 #[.func (.func 110) #[] #[.pointer (some ⟨Bm, 0, none⟩)], .func (.func 76) #[] #[]] w fun e w' =>
      ∃ v : Value, e = .returned v ∧ w'.ownsRow w.heap.size 9 1 v (sortU (strKeys D0)).length ((sortU (strKeys D0)).map encStr) ∧ Below w.heap.size w w' := by
  have hlen : (strKeys D0).length = Maps.size D0 := by
    obtain ⟨es, e, _⟩ := hown.keysOf
    subst e
    simp [strKeys, Maps.size]
  have hseq : SeqGives Fence.wide 2 Tryz.prog 110 #[.pointer (some ⟨Bm, 0, none⟩)] encStr (fun ss => ss.Perm (strKeys D0)) (Maps.size D0) w :=
    AnyZ.keys_gives (ρ := Tryz.keysA_ren) { Tryz.keysA with } Fence.wide 2 trivial rfl (by omega) Bm b nn D0 w (World.block_lt_of_cell? w _ hm) hm hown
  have cC : CallsIn Fence.wide 4 Tryz.prog 108 #[.func (.func 110) #[] #[.pointer (some ⟨Bm, 0, none⟩)]] w fun e w' => ∃ (v : Value) (ss : List (List UInt8)), e = .returned v ∧ ss.Perm (strKeys D0) ∧ w'.ownsRow w.heap.size 9 1 v ss.length (ss.map encStr) ∧ (v = .slice none 0 0 ↔ ss = []) ∧ Below w.heap.size w w' :=
    AnyZ.collect_in Tryz.collectA Fence.wide 4 trivial trivial rfl (by omega) 110 #[.pointer (some ⟨Bm, 0, none⟩)] trivial (enters_of Tryz.func110 (by kernel_rfl) rfl) _ (Maps.size D0) (by unfold maxLen; omega) (by omega) w hseq
  have cC' := callsIn_wide.1 cC
  clear cC hseq hown hm
  go_enter Tryz.func74, Tryz.ntmps74
  go_wp2_with fail
  refine cC'.mono ?_
  rintro e w1 ⟨v, ss, rfl, hp, hrow, hnil, hb⟩
  have hl2 : ss.length < 4611686018427387904 := by rw [hp.length_eq, hlen]; omega
  have HC := Aside0.mk (sortFuncS_any ss w.heap.size v w1 hrow hl2 hb.size)
  have HE := Aside0.mk (show sortU ss = sortU (strKeys D0) from asc_unique (sortU_asc _) (sortU_asc _) (((sortU_perm _).trans hp).trans (sortU_perm _).symm))
  have HL := Aside0.mk (show ss.length = (sortU (strKeys D0)).length from by rw [(sortU_perm _).length_eq, hp.length_eq])
  clear hrow hnil hp hl2 hlen cC'
  go_wp2_with fail
  refine HC.out.mono ?_
  rintro e w2 ⟨rfl, ho, hb2⟩
  have HO := Aside0.mk ho
  clear ho
  go_wp2_with fail
  go_ret
  exact ⟨_, rfl, by rw [← HL.out, ← HE.out]; exact HO.out, hb.trans hb2⟩
theorem keys_call (mb : Option Nat) (W : World) : Calls Tryz.prog 75 #[.map mb] W fun e w' => e = .returned (.func (.func 110) #[] #[.pointer (some ⟨W.heap.size, 0, none⟩)]) ∧ w' = W.alloc (.cells #[.map mb] 134) :=
  (callsIn_wide (n := 5)).1 (AnyZ.keys_in Tryz.keysA Fence.wide 5 trivial rfl mb W)
theorem own_size {P : Program} {k : TypeId} {R : Value → Option (DataW Unit × List MemPlace)} {w : World} {b n : Nat} {D : DataW Unit} (h : w.ownsMap P k R b n D) : Maps.size D ≤ n := by
  obtain ⟨es, clock, hb, F, hs, rfl⟩ := h
  have h := length_sorted (es.toList.map (Go.WideElems.rg P k R))
  rw [List.length_map, Array.length_toList] at h
  exact Nat.le_trans (Nat.le_of_eq h) hs
end Go.Proofs.YtdjlfdbnmnjccaaGreat.St
end
section
set_option linter.unusedVariables false
set_option linter.unusedSimpArgs false
namespace Go.Proofs.YtdjlfdbnmnjccaaGreat.St
open Go.Sort hiding rd
open Go.Maps Go.RowKit Go.Shelf Go.Proofs Go.Proofs.YtdjlfdbnmnjccaaGreatW.PrintWords Go.Proofs.YtdjlfdbnmnjccaaGreatW.PrintLast Go.Proofs.YtdjlfdbnmnjccaaGreatW.PrintMore
attribute [local go_sem] Oper.semAt_some
def boolR : Value → Option (DataW Unit × List MemPlace)
  | .bool b => some (.lit (.bool b), [])
  | _ => none
theorem boolR_inv {v : Value} {b : Bool} {ps : List MemPlace} (h : boolR v = some (.lit (.bool b), ps)) : v = .bool b := by
  cases v <;> simp [boolR] at h
  rw [h.1]
structure SetD (D : DataW Unit) (L : List (List UInt8)) : Prop where
  tidy : Tidy D
  at_ : ∀ s, D.atKey (.string s) (.lit (.bool false)) = .lit (.bool (decide (s ∈ L)))
  has_ : ∀ s, has D (.string s) = decide (s ∈ L)
theorem setD_nil : SetD (.map []) [] := ⟨tidy_empty, fun s => rfl, fun s => rfl⟩
theorem SetD.put {D : DataW Unit} {L : List (List UInt8)} (h : SetD D L) (x : List UInt8) : SetD (D.put (.string x) (.lit (.bool true))) (L ++ [x]) := by
  have hk : WideAt.IsKeyLit (Lit.string x) := trivial
  refine ⟨h.tidy.put hk _, fun s => ?_, fun s => ?_⟩
  · by_cases e : s = x
    · subst e
      rw [atKey_put_same h.tidy.isMap hk]
      simp
    · rw [atKey_put_other (by simpa using e), h.at_]
      simp [e]
  · by_cases e : s = x
    · subst e
      rw [has_put_same h.tidy.isMap hk]
      simp
    · rw [has_put_other (by simpa using e), h.has_]
      simp [e]
def dedupL : List (List UInt8) → List (List UInt8)
  | [] => []
  | x :: l => if x ∈ dedupL l then dedupL l else x :: dedupL l
theorem mem_dedupL (y : List UInt8) : ∀ l, y ∈ dedupL l ↔ y ∈ l
  | [] => by simp [dedupL]
  | x :: l => by
    have ih := mem_dedupL y l
    unfold dedupL
    split
    · rename_i h
      rw [ih, List.mem_cons]
      constructor
      · exact .inr
      · rintro (rfl | h2)
        · exact (mem_dedupL y l).1 h
        · exact h2
    · rw [List.mem_cons, List.mem_cons, ih]
theorem nodup_dedupL : ∀ l, (dedupL l).Nodup
  | [] => by simp [dedupL]
  | x :: l => by
    unfold dedupL
    split
    · exact nodup_dedupL l
    · rename_i h
      exact List.nodup_cons.2 ⟨h, nodup_dedupL l⟩
theorem setD_keys {D : DataW Unit} {L : List (List UInt8)} (h : SetD D L) {P : Program} {k : TypeId} (hk : P.underlying k = some .string) {R : Value → Option (DataW Unit × List MemPlace)} {w : World} {b n : Nat} (hown : w.ownsMap P k R b n D) : (dedupL L).Perm (strKeys D) := by
  obtain ⟨es, e, hes⟩ := hown.keysOf
  subst e
  obtain ⟨es', e', hp⟩ := h.tidy
  cases e'
  refine perm_strKeys hp (fun p hp' => ?_) (nodup_dedupL L) (fun x => ?_)
  · obtain ⟨key, hkey⟩ := hes p hp'
    obtain ⟨x, _, hx, _⟩ := Maps.keyOf_str hk hkey
    exact ⟨x, hx⟩
  · rw [h.has_, mem_dedupL]; simp
def isNewB (bef : Option (List ByteArray)) (nm : List ByteArray) (i : Nat) : Bool :=
  match bef with
  | none => true
  | some b => (rdOf ByteArray.empty b (i : Int)).toList != (rdOf ByteArray.empty nm (i : Int)).toList
def agIn (BL : List (List UInt8)) (bef : Option (List ByteArray)) (nm : List ByteArray) (A : List (List UInt8)) : Nat → List (List UInt8)
  | 0 => A
  | i + 1 => if isNewB bef nm i = true ∧ (rdOf ByteArray.empty nm (i : Int)).data.toList ∈ BL then agIn BL bef nm A i ++ [(rdOf ByteArray.empty nm (i : Int)).data.toList] else agIn BL bef nm A i
def beIn (nm : List ByteArray) (B : List (List UInt8)) : Nat → List (List UInt8)
  | 0 => B
  | i + 1 => beIn nm B i ++ [(rdOf ByteArray.empty nm (i : Int)).data.toList]
def beTo (ps : List S167) : Nat → List (List UInt8)
  | 0 => []
  | k + 1 => beIn (rd_T167 ps k).f1 (beTo ps k) (rd_T167 ps k).f1.length
def befOf (ps : List S167) : Nat → Option (List ByteArray)
  | 0 => none
  | k + 1 => some (rd_T167 ps k).f1
def agTo (ps : List S167) : Nat → List (List UInt8)
  | 0 => []
  | k + 1 => agIn (beTo ps k) (befOf ps k) (rd_T167 ps k).f1 (agTo ps k) (rd_T167 ps k).f1.length
theorem agTo_succ (ps : List S167) (k : Nat) : agTo ps (k + 1) = agIn (beTo ps k) (befOf ps k) (rd_T167 ps k).f1 (agTo ps k) (rd_T167 ps k).f1.length := rfl
theorem beTo_succ (ps : List S167) (k : Nat) : beTo ps (k + 1) = beIn (rd_T167 ps k).f1 (beTo ps k) (rd_T167 ps k).f1.length := rfl
def againR (first : List ByteArray) (changes : List S60) : List ByteArray × Int :=
  if openE first changes ≠ 0 then ([], openE first changes)
  else ((sortU (dedupL (agTo (pagesOf first changes) (pagesOf first changes).length))).map fun l => (⟨l.toArray⟩ : ByteArray), 0)
structure RnB (B : Nat) (T : Nat → Prop) (W W' : World) : Prop where
  k : KeepsFrom B W W'
  t : KeepT T W W'
theorem RnB.refl (B : Nat) (T : Nat → Prop) (W : World) : RnB B T W W := ⟨KeepsFrom.refl _ _, KeepT.refl _ _⟩
theorem RnB.trans {B : Nat} {T : Nat → Prop} {X Y Z : World} (h : RnB B T X Y) (h' : RnB B T Y Z) : RnB B T X Z := ⟨h.k.trans h'.k, h.t.trans h'.t⟩
theorem RnB.of {B : Nat} {T : Nat → Prop} {X Y : World} (h : Rn T X Y) : RnB B T X Y := ⟨h.k.from B, h.t⟩
theorem RnB.map {B : Nat} {T : Nat → Prop} {X Y : World} {b : Nat} (hg : X.grownBy Y (some b)) (hb : b < B) {o : Obj} (ho : X.heap[b]? = some o) (hc : o.isCells = false) : RnB B T X Y :=
  ⟨KeepsFrom.of_grownBy hg (fun j hj => by cases hj; exact hb), ⟨hg.size, fun k cs t fr ht hk => (hg.block k (Array.getElem?_eq_some_iff.1 hk).1 (fun e => by cases e; rw [ho] at hk; cases hk; cases hc)).trans hk⟩⟩
structure AgI (w W : World) (x0 x1 : Value) (Bb : Nat) (pv : Value) (ps : List S167) (bm ga B6 B7 B8 : Nat) (bef : Value) (BL AL : List (List UInt8)) (N : Nat) : Prop where
  hb : Below w.heap.size w W
  bb : W.heap[Bb]? = some (.cells #[x0, x1, pv] 124 (0, 0))
  hp : Kd.R k167 167 W w.heap.size (fun _ => True) pv ps
  b6 : W.heap[B6]? = some (.cells #[.map (some bm)] 134 (0, 0))
  b7 : W.heap[B7]? = some (.cells #[.map (some ga)] 134 (0, 0))
  b8 : W.heap[B8]? = some (.cells #[bef] 22 (0, 0))
  m1 : ∃ D n, W.ownsMap Tryz.prog 9 boolR bm n D ∧ n ≤ N ∧ SetD D BL
  m2 : ∃ D n, W.ownsMap Tryz.prog 9 boolR ga n D ∧ n ≤ N ∧ SetD D AL
  ne : bm ≠ ga
  l1 : w.heap.size ≤ bm
  l2 : w.heap.size ≤ ga
  l8 : w.heap.size ≤ B8
section agi
variable {w W W' : World} {x0 x1 : Value} {Bb : Nat} {pv : Value} {ps : List S167} {bm ga B6 B7 B8 : Nat} {bef : Value} {BL AL : List (List UInt8)} {N : Nat}
theorem own_map_obj {P : Program} {k : TypeId} {R : Value → Option (DataW Unit × List MemPlace)} {b n : Nat} {D : DataW Unit} (h : W.ownsMap P k R b n D) : ∃ o, W.heap[b]? = some o ∧ o.isCells = false := by
  obtain ⟨es, clock, hb, _⟩ := h
  exact ⟨_, hb, rfl⟩
theorem AgI.mono (h : AgI w W x0 x1 Bb pv ps bm ga B6 B7 B8 bef BL AL N) {M : Nat} (hM : N ≤ M) : AgI w W x0 x1 Bb pv ps bm ga B6 B7 B8 bef BL AL M := by
  obtain ⟨D1, n1, a1, a2, a3⟩ := h.m1
  obtain ⟨D2, n2, c1, c2, c3⟩ := h.m2
  exact { h with m1 := ⟨D1, n1, a1, by omega, a3⟩, m2 := ⟨D2, n2, c1, by omega, c3⟩ }
theorem AgI.grown (h : AgI w W x0 x1 Bb pv ps bm ga B6 B7 B8 bef BL AL N) (hg : W.grownBy W' none) : AgI w W' x0 x1 Bb pv ps bm ga B6 B7 B8 bef BL AL N := by
  have hb : Below W.heap.size W W' := ⟨hg.os, hg.tape, hg.output, hg.size, fun k hk => hg.block k hk (by simp)⟩
  obtain ⟨D1, n1, a1, a2, a3⟩ := h.m1
  obtain ⟨D2, n2, c1, c2, c3⟩ := h.m2
  exact ⟨below_from h.hb hb, blk_below h.bb hb, Kd.R_below h.hp hb, blk_below h.b6 hb, blk_below h.b7 hb, blk_below h.b8 hb, ⟨D1, n1, a1.kept hg (by simp), a2, a3⟩, ⟨D2, n2, c1.kept hg (by simp), c2, c3⟩, h.ne, h.l1, h.l2, h.l8⟩
theorem AgI.alloc (h : AgI w W x0 x1 Bb pv ps bm ga B6 B7 B8 bef BL AL N) (o : Obj) : AgI w (W.alloc o) x0 x1 Bb pv ps bm ga B6 B7 B8 bef BL AL N := h.grown (World.grownBy_alloc W o none)
theorem AgI.put (h : AgI w W x0 x1 Bb pv ps bm ga B6 B7 B8 bef BL AL N) {l : Nat} {o o' : Obj} (hl : w.heap.size ≤ l) (hlo : W.heap[l]? = some o) (ho : o.isCells = false) (h1 : l ≠ bm) (h2 : l ≠ ga) : AgI w (W.putObj l o') x0 x1 Bb pv ps bm ga B6 B7 B8 bef BL AL N := by
  have hg := grownBy_putObj' W l o'
  have hne : ∀ (j : Nat) (cs : Array Value) (t : Nat), W.heap[j]? = some (.cells cs t (0, 0)) → (W.putObj l o').heap[j]? = some (.cells cs t (0, 0)) := fun j cs t hj => by
    rw [World.putObj_heap_other (fun e => by subst e; rw [hlo] at hj; cases hj; cases ho)]; exact hj
  obtain ⟨D1, n1, a1, a2, a3⟩ := h.m1
  obtain ⟨D2, n2, c1, c2, c3⟩ := h.m2
  exact ⟨h.hb.grown hg h.hb.size (fun j hj => by cases hj; exact hl), hne _ _ _ h.bb, R_putObj h.hp hlo ho o', hne _ _ _ h.b6, hne _ _ _ h.b7, hne _ _ _ h.b8, ⟨D1, n1, a1.kept hg (by simpa using Ne.symm h1), a2, a3⟩, ⟨D2, n2, c1.kept hg (by simpa using Ne.symm h2), c2, c3⟩, h.ne, h.l1, h.l2, h.l8⟩
theorem AgI.blkMap (h : AgI w W x0 x1 Bb pv ps bm ga B6 B7 B8 bef BL AL N) {b : Nat} {o : Obj} (ho : W.heap[b]? = some o) (hc : o.isCells = false) (hg : W.grownBy W' (some b)) {g t : Nat} {cs : Array Value} (hk : W.heap[g]? = some (.cells cs t (0, 0))) : W'.heap[g]? = some (.cells cs t (0, 0)) :=
  blk_grown hk hg (fun e => by cases e; rw [ho] at hk; cases hk; cases hc)
theorem R_map {α : Type} {d : Kd α} {e base : Nat} {ok : Nat → Prop} {v : Value} {xs : List α} (h : d.R e W base ok v xs) {b : Nat} {o : Obj} (ho : W.heap[b]? = some o) (hc : o.isCells = false) (hg : W.grownBy W' (some b)) : d.R e W' base ok v xs := by
  refine Kd.R_mono (Kd.R_move (Kd.R_bound h) (fun k hk => hg.block k hk.2.2.1 (fun he => ?_))) (fun _ hk => hk.1)
  obtain ⟨_, _, _, q, hq, cells, hcc⟩ := hk
  cases he
  rw [ho] at hcc; cases hcc; cases hc
theorem AgI.updBeen (h : AgI w W x0 x1 Bb pv ps bm ga B6 B7 B8 bef BL AL N) (s : ByteArray) (hs : s.size ≤ maxLen) (hN : N < 100000) : ∃ W', (Instr.mapUpdate 134 (.map (some bm)) (.string s) (.bool true)).run Tryz.prog W = .ok () W' ∧ AgI w W' x0 x1 Bb pv ps bm ga B6 B7 B8 bef (BL ++ [s.data.toList]) AL (N + 1) ∧ W.grownBy W' (some bm) := by
  obtain ⟨D1, n1, a1, a2, a3⟩ := h.m1
  obtain ⟨D2, n2, c1, c2, c3⟩ := h.m2
  obtain ⟨o, ho, hc⟩ := own_map_obj a1
  obtain ⟨W', hrun, r1, r2⟩ := a1.update (string_keyed Tryz.underlying9) Tryz.underlying134 (by unfold maxLen; omega) (Go.WideMaps.keyOf_string_mk Tryz.underlying9 hs) (show boolR (.bool true) = some (.lit (.bool true), []) from rfl)
  refine ⟨W', hrun, ⟨h.hb.grown r2 h.hb.size (fun j hj => by cases hj; exact h.l1), h.blkMap ho hc r2 h.bb, R_map h.hp ho hc r2, h.blkMap ho hc r2 h.b6, h.blkMap ho hc r2 h.b7, h.blkMap ho hc r2 h.b8, ⟨_, _, r1, by omega, a3.put _⟩, ⟨D2, n2, c1.kept r2 (by simpa using Ne.symm h.ne), by omega, c3⟩, h.ne, h.l1, h.l2, h.l8⟩, r2⟩
theorem AgI.updAgain (h : AgI w W x0 x1 Bb pv ps bm ga B6 B7 B8 bef BL AL N) (s : ByteArray) (hs : s.size ≤ maxLen) (hN : N < 100000) : ∃ W', (Instr.mapUpdate 134 (.map (some ga)) (.string s) (.bool true)).run Tryz.prog W = .ok () W' ∧ AgI w W' x0 x1 Bb pv ps bm ga B6 B7 B8 bef BL (AL ++ [s.data.toList]) (N + 1) ∧ W.grownBy W' (some ga) := by
  obtain ⟨D1, n1, a1, a2, a3⟩ := h.m1
  obtain ⟨D2, n2, c1, c2, c3⟩ := h.m2
  obtain ⟨o, ho, hc⟩ := own_map_obj c1
  obtain ⟨W', hrun, r1, r2⟩ := c1.update (string_keyed Tryz.underlying9) Tryz.underlying134 (by unfold maxLen; omega) (Go.WideMaps.keyOf_string_mk Tryz.underlying9 hs) (show boolR (.bool true) = some (.lit (.bool true), []) from rfl)
  refine ⟨W', hrun, ⟨h.hb.grown r2 h.hb.size (fun j hj => by cases hj; exact h.l2), h.blkMap ho hc r2 h.bb, R_map h.hp ho hc r2, h.blkMap ho hc r2 h.b6, h.blkMap ho hc r2 h.b7, h.blkMap ho hc r2 h.b8, ⟨D1, n1, a1.kept r2 (by simpa using h.ne), by omega, a3⟩, ⟨_, _, r1, by omega, c3.put _⟩, h.ne, h.l1, h.l2, h.l8⟩, r2⟩
theorem zeroBool (w : World) : (zeroValue 4).run Tryz.prog w = .ok (.bool false) w := by kernel_rfl
theorem AgI.look (h : AgI w W x0 x1 Bb pv ps bm ga B6 B7 B8 bef BL AL N) (s : ByteArray) (hs : s.size ≤ maxLen) : (Instr.lookup 134 (.map (some bm)) (.string s) false).run Tryz.prog W = .ok (.bool (decide (s.data.toList ∈ BL))) W := by
  obtain ⟨D1, n1, a1, a2, a3⟩ := h.m1
  obtain ⟨v, qs, hrun, hv⟩ := a1.lookup (string_keyed Tryz.underlying9) Tryz.underlying134 (zeroBool W) (show boolR (.bool false) = some (.lit (.bool false), []) from rfl) (Go.WideMaps.keyOf_string_mk Tryz.underlying9 hs)
  rw [a3.at_] at hv
  rw [hrun, boolR_inv hv]
theorem AgI.setBef (h : AgI w W x0 x1 Bb pv ps bm ga B6 B7 B8 bef BL AL N) (u : Value) : AgI w (W.setCell ⟨B8, 0, none⟩ u) x0 x1 Bb pv ps bm ga B6 B7 B8 u BL AL N := by
  obtain ⟨D1, n1, a1, a2, a3⟩ := h.m1
  obtain ⟨D2, n2, c1, c2, c3⟩ := h.m2
  have hg : W.grownBy (W.setCell ⟨B8, 0, none⟩ u) (some B8) := grownBy_setCell' W B8 u
  obtain ⟨o1, ho1, hc1⟩ := own_map_obj a1
  obtain ⟨o2, ho2, hc2⟩ := own_map_obj c1
  have k1 : bm ≠ B8 := fun e => by rw [e, h.b8] at ho1; cases ho1; cases hc1
  have k2 : ga ≠ B8 := fun e => by rw [e, h.b8] at ho2; cases ho2; cases hc2
  exact ⟨h.hb.setCell (p := ⟨B8, 0, none⟩) h.l8 _, blk_far h.bb (p := ⟨B8, 0, none⟩) (blk_ne h.bb h.b8 (by decide)) u, Kd.R_set h.hp h.b8 (by decide) 0 u, blk_far h.b6 (p := ⟨B8, 0, none⟩) (blk_ne h.b6 h.b8 (by decide)) u, blk_far h.b7 (p := ⟨B8, 0, none⟩) (blk_ne h.b7 h.b8 (by decide)) u, blk_put h.b8 0 u rfl, ⟨D1, n1, a1.kept hg (by simpa using k1), a2, a3⟩, ⟨D2, n2, c1.kept hg (by simpa using k2), c2, c3⟩, h.ne, h.l1, h.l2, h.l8⟩
end agi
def DumAt (act : Nat → Nat → Act) (k : Nat) (a' : Act) (W : World) : Prop := ∃ z : Nat, a' = act z k
theorem DumAt.put {act : Nat → Nat → Act} {B : Nat} (k : Nat) (a' : Act) (W : World) (l : Nat) (o o' : Obj) (hl : B ≤ l) (hlo : W.heap[l]? = some o) (ho : o.isCells = false) (h : DumAt act k a' W) : DumAt act k a' (W.putObj l o') := h
def befV (vals : Nat → Value) : Nat → Value
  | 0 => .slice none 0 0
  | k + 1 => vals k
theorem agIn_len (BL : List (List UInt8)) (bef : Option (List ByteArray)) (nm : List ByteArray) (A : List (List UInt8)) : ∀ i, (agIn BL bef nm A i).length ≤ A.length + i
  | 0 => by simp [agIn]
  | i + 1 => by
    have := agIn_len BL bef nm A i
    unfold agIn
    split
    · simp; omega
    · omega
end Go.Proofs.YtdjlfdbnmnjccaaGreat.St
end
