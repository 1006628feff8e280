/- A part of the proofs of the laws of this seat: the walks of the program's functions, and lemmas. They hold without conditions. -/
import Derived.Test.YtdjlfdbnmnjccaaGreatB23
import Derived.Test.YtdjlfdbnmnjccaaGreatB25
import Derived.Test.YtdjlfdbnmnjccaaGreatB30
import Derived.Test.YtdjlfdbnmnjccaaGreatB31
set_option linter.all false
set_option linter.unusedSectionVars false
section
set_option linter.unusedVariables false
set_option linter.unusedSimpArgs false
namespace Go.Proofs.YtdjlfdbnmnjccaaGreat.St
open Go.RowKit Go.Shelf Go.Proofs.YtdjlfdbnmnjccaaGreatW.PrintWords Go.Proofs.YtdjlfdbnmnjccaaGreatW.PrintLast Go.Proofs.YtdjlfdbnmnjccaaGreatW.PrintMore
structure Small (l0 : List ByteArray) (l1 : List S60) : Prop where
  n0 : l0.length ≤ 20
  n1 : l1.length ≤ 20
  s0 : ∀ s ∈ l0, s.size ≤ 40
  s1 : ∀ c ∈ l1, c.f2.size ≤ 40
theorem knownG (w : World) : Calls Tryz.prog 11 #[] w fun e w' => e = .returned (.bool true) ∧ Aside0 (Below w.heap.size w w') :=
  (known_any w).mono fun e w' ⟨h, hb⟩ => ⟨h, ⟨hb⟩⟩
theorem longG {A : Option Addr} {c : Nat} {l0 : List ByteArray} {A' : Option Addr} {c' : Nat} {l1 : List S60} {B : Option Addr} {d : Nat} {names : List ByteArray} {w : World} (T : TwC w A c l0 A' c' l1) (N : LC Kd.string w B d names) :
    ∃ b : Bool, (Calls Tryz.prog 10 #[.agg #[.slice A l0.length c, .slice A' l1.length c'], .slice B names.length d] w fun e w' => e = .returned (.bool b) ∧ Aside0 (Below w.heap.size w w')) ∧ (b = false → Small l0 l1 ∧ ∀ s ∈ names, s.size ≤ 40) := by
  rcases long_f l0 l1 names 500 (Nat.le_refl _) with h | ⟨h, h1, h2, _, h3, h4, h5⟩
  · exact ⟨true, (smaltolaw08_long.calls 500 A c l0 A' c' l1 B d names true w T.f.kc T.f.kn T.g.kc T.g.kn N.kc N.kn h).mono fun e w' ⟨h, hb⟩ => ⟨h, ⟨hb⟩⟩, fun h => by cases h⟩
  · exact ⟨false, (smaltolaw08_long.calls 500 A c l0 A' c' l1 B d names false w T.f.kc T.f.kn T.g.kc T.g.kn N.kc N.kn h).mono fun e w' ⟨h, hb⟩ => ⟨h, ⟨hb⟩⟩, fun _ => ⟨⟨h1, h2, h3, h4⟩, h5⟩⟩
section
variable {A : Option Addr} {c : Nat} {l0 : List ByteArray} {A' : Option Addr} {c' : Nat} {l1 : List S60} (S : Small l0 l1)
include S
theorem copyG (w : World) (T : TwC w A c l0 A' c' l1) : Calls Tryz.prog 12 #[.agg #[.slice A l0.length c, .slice A' l1.length c']] w fun e w' =>
    ∃ B d B' d', e = .returned (.agg #[.slice B l0.length d, .slice B' l1.length d']) ∧ Aside0 (TwC w' B d l0 B' d' l1) ∧ Aside0 (Below w.heap.size w w') := by
  refine (smaltoref08_Copy.calls A c l0 A' c' l1 l0 l1 w T.f.kc T.f.kn T.g.kc T.g.kn (copy_self l0 l1 (by have := S.n0; omega) (by have := S.n1; omega))).mono ?_
  rintro e w' ⟨v0, v1, rfl, h0, h1, hb⟩
  obtain ⟨B, d, rfl, k0⟩ := LC.of h0
  obtain ⟨B', d', rfl, k1⟩ := LC.of h1
  exact ⟨B, d, B', d', rfl, ⟨⟨k0, k1⟩⟩, ⟨hb⟩⟩
theorem sameG {B : Option Addr} {d : Nat} {B' : Option Addr} {d' : Nat} (w : World) (T : TwC w A c l0 A' c' l1) (T' : TwC w B d l0 B' d' l1) :
    Calls Tryz.prog 16 #[.agg #[.slice A l0.length c, .slice A' l1.length c'], .agg #[.slice B l0.length d, .slice B' l1.length d']] w fun e w' => e = .returned (.bool true) ∧ Aside0 (Below w.heap.size w w') :=
  (same_any A c l0 A' c' l1 B d B' d' w T T' (by have := S.n0; omega) (by have := S.n1; omega)).mono fun e w' ⟨h, hb⟩ => ⟨h, ⟨hb⟩⟩
theorem openG (w : World) (T : TwC w A c l0 A' c' l1) : Calls Tryz.prog 21 #[.agg #[.slice A l0.length c, .slice A' l1.length c']] w fun e w' => e = .returned (.int .i64 (openE l0 l1)) ∧ Aside0 (Below w.heap.size w w') :=
  (smaltoref08_Open.calls 4000 A c l0 A' c' l1 (openE l0 l1) w T.f.kc T.f.kn T.g.kc T.g.kn (open_f l0 l1 S.n0 S.n1 S.s0 S.s1 4000 (Nat.le_refl _))).mono fun e w' ⟨h, hb⟩ => ⟨h, ⟨hb⟩⟩
theorem calledG (w : World) (T : TwC w A c l0 A' c' l1) (s : Int) (hs : 0 ≤ s) (hs2 : s < l0.length) (h : Int) : Calls Tryz.prog 23 #[.agg #[.slice A l0.length c, .slice A' l1.length c'], .int .i64 s, .int .i64 h] w fun e w' => e = .returned (.string (calledP l0 l1 s h)) ∧ Aside0 (Below w.heap.size w w') := calledK A c l0 A' c' l1 s h w T (by have := S.n1; omega) hs hs2
end
theorem inG (a b c : Int) (w : World) : Calls Tryz.prog 22 #[.int .i64 a, .int .i64 b, .int .i64 c] w fun e w' => e = .returned (.bool (decide (b ≤ a) && decide (a ≤ c))) ∧ Aside0 (Below w.heap.size w w') :=
  (smaltoref08_In.calls a b c _ w (in_f a b c)).mono fun e w' ⟨h, hb⟩ => ⟨h, ⟨hb.below⟩⟩
theorem isNameG (s : ByteArray) (hs : s.size ≤ 40) (w : World) : Calls Tryz.prog 24 #[.string s] w fun e w' => e = .returned (.bool (isNameB s)) ∧ Aside0 (Below w.heap.size w w') :=
  (smaltoref08_Name.calls 4000 s _ w (name_f s (by omega) 4000 (by omega))).mono fun e w' ⟨h, hb⟩ => ⟨h, ⟨hb.below⟩⟩
section
variable {A : Option Addr} {c : Nat} {l0 : List ByteArray} {A' : Option Addr} {c' : Nat} {l1 : List S60}
theorem nameG (w : World) (T : TwC w A c l0 A' c' l1) (n hour : Int) : Calls Tryz.prog 19 #[.agg #[.slice A l0.length c, .slice A' l1.length c'], .int .i64 n, .int .i64 hour] w fun e w' => e = .returned (.tuple #[.string (nameR l0 l1 n hour).1, .int .i64 (nameR l0 l1 n hour).2]) ∧ Aside0 (Below w.heap.size w w') :=
  (name_any A c l0 A' c' l1 n hour w T.f.kc T.f.kn T.g.kc T.g.kn).mono fun e w' ⟨h, hb⟩ => ⟨h, ⟨hb⟩⟩
theorem whoG (w : World) (T : TwC w A c l0 A' c' l1) (name : ByteArray) (hour : Int) : Calls Tryz.prog 20 #[.agg #[.slice A l0.length c, .slice A' l1.length c'], .string name, .int .i64 hour] w fun e w' => e = .returned (.tuple #[.int .i64 (whoR l0 l1 name hour).1, .int .i64 (whoR l0 l1 name hour).2]) ∧ Aside0 (Below w.heap.size w w') :=
  (who_any A c l0 A' c' l1 name hour w T.f.kc T.f.kn T.g.kc T.g.kn).mono fun e w' ⟨h, hb⟩ => ⟨h, ⟨hb⟩⟩
end
end Go.Proofs.YtdjlfdbnmnjccaaGreat.St
end
