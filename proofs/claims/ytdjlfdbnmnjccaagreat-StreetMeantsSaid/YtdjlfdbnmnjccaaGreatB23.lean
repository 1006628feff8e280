/- A part of the proofs of the laws of this seat: the walks of the program's functions, and lemmas. They hold without conditions. -/
import Derived.Deep.DeepCutAuto
import Derived.Test.YtdjlfdbnmnjccaaGreatB07
import Derived.Test.YtdjlfdbnmnjccaaGreatB21
import Derived.Test.YtdjlfdbnmnjccaaGreatB22
set_option linter.all false
set_option linter.unusedSectionVars false
section
set_option linter.unusedVariables false
set_option linter.unusedSimpArgs false
namespace Go.Proofs.YtdjlfdbnmnjccaaGreat.St
open Go.RowKit Go.Shelf Go.Proofs.YtdjlfdbnmnjccaaGreatW.PrintWords Go.Proofs.YtdjlfdbnmnjccaaGreatW.PrintLast Go.Proofs.YtdjlfdbnmnjccaaGreatW.PrintMore
def rClash : List Int := [0, 1]
def rHist : List S116 := [⟨xKing, ⟨0, 99⟩⟩, ⟨xQueen, ⟨100, 299⟩⟩, ⟨xMill, ⟨300, 1000⟩⟩]
def rAgain : List ByteArray := [xKing, xMill]
def rMust : List ByteArray := [xMill, xKing, xQueen]
def rWrong : List Int := [1]
def rChanged : List Int := [2]
def rPoss : List Int := [2]
def rNear : List Int := [0]
def rHours : List S75 := [⟨200, 299⟩]
def rBad : List Int := [2]
structure TownC (w : World) (A : Option Addr) (c : Nat) (A' : Option Addr) (c' : Nat) (cs : List S60) : Prop where
  f : LC Kd.string w A c xF
  g : LC k60 w A' c' cs
theorem TownC.below {w w' : World} {A A' : Option Addr} {c c' : Nat} {cs : List S60} (h : TownC w A c A' c' cs) (hb : Below w.heap.size w w') : TownC w' A c A' c' cs := ⟨h.f.below hb, h.g.below hb⟩
theorem townK (w : World) : Calls Tryz.prog 55 #[.slice none 0 0] w fun e w' => ∃ A c A' c', e = .returned (.agg #[.slice A xF.length c, .slice A' xC.length c']) ∧ Aside0 (TownC w' A c A' c' xC) ∧ Aside0 (Below w.heap.size w w') := by
  refine (smaltolaw08_town.calls none 0 [] xF xC w (Kd.C_nil _ _) (Nat.le_refl _) ev_town).mono ?_
  rintro e w' ⟨v0, v1, rfl, h0, h1, hb⟩
  obtain ⟨A, c, rfl, k0⟩ := LC.of h0
  obtain ⟨A', c', rfl, k1⟩ := LC.of h1
  exact ⟨A, c, A', c', rfl, ⟨⟨k0, k1⟩⟩, ⟨hb⟩⟩
theorem changeK (a0 a1 : Int) (a2 : ByteArray) (w : World) : Calls Tryz.prog 56 #[.int .i64 a0, .int .i64 a1, .string a2] w fun e w' => e = .returned (.agg #[.int .i64 a0, .int .i64 a1, .string a2]) ∧ Aside0 (Below w.heap.size w w') :=
  (smaltolaw08_change.calls a0 a1 a2 a0 a1 a2 w rfl).mono fun e w' ⟨h, hb⟩ => ⟨h, ⟨hb⟩⟩
theorem spanK (a0 a1 : Int) (w : World) : Calls Tryz.prog 58 #[.int .i64 a0, .int .i64 a1] w fun e w' => e = .returned (.agg #[.int .i64 a0, .int .i64 a1]) ∧ Aside0 (Below w.heap.size w w') :=
  (smaltolaw08_span.calls a0 a1 a0 a1 w rfl).mono fun e w' ⟨h, hb⟩ => ⟨h, ⟨hb⟩⟩
theorem ordersK (w : World) : Calls Tryz.prog 57 #[] w fun e w' => ∃ A c, e = .returned (.slice A xO.length c) ∧ Aside0 (LC k62 w' A c xO) ∧ Aside0 (Below w.heap.size w w') := by
  refine (smaltolaw08_orders.calls xO w ev_orders).mono ?_
  rintro e w' ⟨v0, rfl, h0, hb⟩
  obtain ⟨A, c, rfl, k0⟩ := LC.of h0
  exact ⟨A, c, rfl, ⟨k0⟩, ⟨hb⟩⟩
theorem townK1 (w : World) : Calls Tryz.prog 55 #[.slice (some ⟨w.heap.size, 0, none⟩) 1 1] (w.alloc (.cells #[.int .i64 250, .int .i64 1, .string ⟨#[107, 105, 110, 103]⟩] 60)) fun e w' => ∃ A c A' c', e = .returned (.agg #[.slice A xF.length c, .slice A' xC1.length c']) ∧ Aside0 (TownC w' A c A' c' xC1) ∧ Aside0 (Below w.heap.size w w') := by
  have hn := LC.new k60 60 w [⟨250, 1, xKing⟩] [.int .i64 250, .int .i64 1, .string ⟨#[107, 105, 110, 103]⟩] (Reps.c3 (k60_mkM _ _ _ ⟨250, 1, xKing⟩) (Reps.none _ _)) (by simp)
  refine (smaltolaw08_town.calls _ _ [⟨250, 1, xKing⟩] xF xC1 _ hn.kc hn.kn ev_town1).mono ?_
  rintro e w' ⟨v0, v1, rfl, h0, h1, hb⟩
  obtain ⟨A, c, rfl, k0⟩ := LC.of h0
  obtain ⟨A', c', rfl, k1⟩ := LC.of h1
  exact ⟨A, c, A', c', rfl, ⟨⟨k0, k1⟩⟩, ⟨below_from (below_alloc (Below.refl _ _) _) hb⟩⟩
theorem clash0K (w : World) (A : Option Addr) (c : Nat) (A' : Option Addr) (c' : Nat) (T : TownC w A c A' c' xC) : Calls Tryz.prog 14 #[.agg #[.slice A xF.length c, .slice A' xC.length c']] w fun e w' => ∃ R0 d0, e = .returned (.tuple #[.int .i64 0, .slice R0 0 d0, .int .i64 6]) ∧ Aside0 (Below w.heap.size w w') := by
  refine (street_Clash.calls A c xF A' c' xC 0 [] 6 w T.f.kc T.f.kn T.g.kc T.g.kn ev_clash0).mono ?_
  rintro e w' ⟨v0, rfl, h0, hb⟩
  obtain ⟨R0, d0, rfl, k0⟩ := LC.of h0
  exact ⟨R0, d0, rfl, ⟨hb⟩⟩
theorem clash1K (w : World) (A : Option Addr) (c : Nat) (A' : Option Addr) (c' : Nat) (T : TownC w A c A' c' xC1) : Calls Tryz.prog 14 #[.agg #[.slice A xF.length c, .slice A' xC1.length c']] w fun e w' => ∃ R0 d0, e = .returned (.tuple #[.int .i64 250, .slice R0 rClash.length d0, .int .i64 0]) ∧ Aside0 (LC (Kd.int .i64) w' R0 d0 rClash) ∧ Aside0 (Below w.heap.size w w') := by
  refine (street_Clash.calls A c xF A' c' xC1 250 rClash 0 w T.f.kc T.f.kn T.g.kc T.g.kn ev_clash1).mono ?_
  rintro e w' ⟨v0, rfl, h0, hb⟩
  obtain ⟨R0, d0, rfl, k0⟩ := LC.of h0
  exact ⟨R0, d0, rfl, ⟨k0⟩, ⟨hb⟩⟩
theorem nameK (w : World) (A : Option Addr) (c : Nat) (A' : Option Addr) (c' : Nat) (T : TownC w A c A' c' xC) : Calls Tryz.prog 19 #[.agg #[.slice A xF.length c, .slice A' xC.length c'], .int .i64 0, .int .i64 199] w fun e w' => e = .returned (.tuple #[.string ⟨#[109, 105, 108, 108]⟩, .int .i64 0]) ∧ Aside0 (Below w.heap.size w w') := by
  refine (street_Name.calls A c xF A' c' xC 0 199 xMill 0 w T.f.kc T.f.kn T.g.kc T.g.kn ev_name).mono ?_
  rintro e w' ⟨rfl, hb⟩
  exact ⟨rfl, ⟨hb⟩⟩
theorem whoK (w : World) (A : Option Addr) (c : Nat) (A' : Option Addr) (c' : Nat) (T : TownC w A c A' c' xC) : Calls Tryz.prog 20 #[.agg #[.slice A xF.length c, .slice A' xC.length c'], .string ⟨#[107, 105, 110, 103]⟩, .int .i64 250] w fun e w' => e = .returned (.tuple #[.int .i64 0, .int .i64 0]) ∧ Aside0 (Below w.heap.size w w') := by
  refine (street_Who.calls A c xF A' c' xC xKing 250 0 0 w T.f.kc T.f.kn T.g.kc T.g.kn ev_who).mono ?_
  rintro e w' ⟨rfl, hb⟩
  exact ⟨rfl, ⟨hb⟩⟩
theorem histK (w : World) (A : Option Addr) (c : Nat) (A' : Option Addr) (c' : Nat) (T : TownC w A c A' c' xC) : Calls Tryz.prog 25 #[.agg #[.slice A xF.length c, .slice A' xC.length c'], .int .i64 2] w fun e w' => ∃ R0 d0, e = .returned (.tuple #[.slice R0 rHist.length d0, .int .i64 0]) ∧ Aside0 (LC k116 w' R0 d0 rHist) ∧ Aside0 (Below w.heap.size w w') := by
  refine (street_History.calls A c xF A' c' xC 2 rHist 0 w T.f.kc T.f.kn T.g.kc T.g.kn ev_hist).mono ?_
  rintro e w' ⟨v0, rfl, h0, hb⟩
  obtain ⟨R0, d0, rfl, k0⟩ := LC.of h0
  exact ⟨R0, d0, rfl, ⟨k0⟩, ⟨hb⟩⟩
theorem againK (w : World) (A : Option Addr) (c : Nat) (A' : Option Addr) (c' : Nat) (T : TownC w A c A' c' xC) : Calls Tryz.prog 26 #[.agg #[.slice A xF.length c, .slice A' xC.length c']] w fun e w' => ∃ R0 d0, e = .returned (.tuple #[.slice R0 rAgain.length d0, .int .i64 0]) ∧ Aside0 (LC Kd.string w' R0 d0 rAgain) ∧ Aside0 (Below w.heap.size w w') := by
  refine (street_Again.calls A c xF A' c' xC rAgain 0 w T.f.kc T.f.kn T.g.kc T.g.kn ev_again).mono ?_
  rintro e w' ⟨v0, rfl, h0, hb⟩
  obtain ⟨R0, d0, rfl, k0⟩ := LC.of h0
  exact ⟨R0, d0, rfl, ⟨k0⟩, ⟨hb⟩⟩
theorem mustK (w : World) (A : Option Addr) (c : Nat) (A' : Option Addr) (c' : Nat) (B : Option Addr) (b : Nat) (T : TownC w A c A' c' xC) (O : LC k62 w B b xO) : Calls Tryz.prog 31 #[.agg #[.slice A xF.length c, .slice A' xC.length c'], .slice B xO.length b] w fun e w' => ∃ R0 d0 R1 d1, e = .returned (.tuple #[.slice R0 rMust.length d0, .slice R1 rWrong.length d1, .int .i64 0]) ∧ Aside0 (LC Kd.string w' R0 d0 rMust) ∧ Aside0 (LC (Kd.int .i64) w' R1 d1 rWrong) ∧ Aside0 (Below w.heap.size w w') := by
  refine (street_Must.calls A c xF A' c' xC B b xO rMust rWrong 0 w T.f.kc T.f.kn T.g.kc T.g.kn O.kc O.kn ev_must).mono ?_
  rintro e w' ⟨v0, v1, rfl, h0, h1, hb⟩
  obtain ⟨R0, d0, rfl, k0⟩ := LC.of h0
  obtain ⟨R1, d1, rfl, k1⟩ := LC.of h1
  exact ⟨R0, d0, R1, d1, rfl, ⟨k0⟩, ⟨k1⟩, ⟨hb⟩⟩
theorem changedK (w : World) (A : Option Addr) (c : Nat) (A' : Option Addr) (c' : Nat) (B : Option Addr) (b : Nat) (T : TownC w A c A' c' xC) (O : LC k62 w B b xO) : Calls Tryz.prog 32 #[.agg #[.slice A xF.length c, .slice A' xC.length c'], .slice B xO.length b, .agg #[.int .i64 110, .int .i64 2, .string ⟨#[99, 114, 111, 119, 110]⟩]] w fun e w' => ∃ R0 d0, e = .returned (.tuple #[.slice R0 rChanged.length d0, .int .i64 0]) ∧ Aside0 (LC (Kd.int .i64) w' R0 d0 rChanged) ∧ Aside0 (Below w.heap.size w w') := by
  refine (street_Changed.calls A c xF A' c' xC B b xO 110 2 xCrown rChanged 0 w T.f.kc T.f.kn T.g.kc T.g.kn O.kc O.kn ev_changed).mono ?_
  rintro e w' ⟨v0, rfl, h0, hb⟩
  obtain ⟨R0, d0, rfl, k0⟩ := LC.of h0
  exact ⟨R0, d0, rfl, ⟨k0⟩, ⟨hb⟩⟩
theorem meantK (w : World) (A : Option Addr) (c : Nat) (A' : Option Addr) (c' : Nat) (T : TownC w A c A' c' xC) : Calls Tryz.prog 38 #[.agg #[.slice A xF.length c, .slice A' xC.length c'], .string ⟨#[107, 105, 110]⟩, .agg #[.int .i64 50, .int .i64 150, .int .i64 1]] w fun e w' => ∃ R0 d0 R1 d1, e = .returned (.tuple #[.slice R0 0 d0, .slice R1 rPoss.length d1, .int .i64 0]) ∧ Aside0 (LC (Kd.int .i64) w' R1 d1 rPoss) ∧ Aside0 (Below w.heap.size w w') := by
  refine (street_Meant.calls A c xF A' c' xC xKin 50 150 1 [] rPoss 0 w T.f.kc T.f.kn T.g.kc T.g.kn ev_meant).mono ?_
  rintro e w' ⟨v0, v1, rfl, h0, h1, hb⟩
  obtain ⟨R0, d0, rfl, k0⟩ := LC.of h0
  obtain ⟨R1, d1, rfl, k1⟩ := LC.of h1
  exact ⟨R0, d0, R1, d1, rfl, ⟨k1⟩, ⟨hb⟩⟩
theorem nearK (w : World) (A : Option Addr) (c : Nat) (A' : Option Addr) (c' : Nat) (T : TownC w A c A' c' xC) : Calls Tryz.prog 39 #[.agg #[.slice A xF.length c, .slice A' xC.length c'], .string ⟨#[109, 105, 108]⟩, .int .i64 250] w fun e w' => ∃ R0 d0, e = .returned (.tuple #[.slice R0 rNear.length d0, .int .i64 3, .int .i64 0]) ∧ Aside0 (LC (Kd.int .i64) w' R0 d0 rNear) ∧ Aside0 (Below w.heap.size w w') := by
  refine (street_Nearest.calls A c xF A' c' xC xMil 250 rNear 3 0 w T.f.kc T.f.kn T.g.kc T.g.kn ev_near).mono ?_
  rintro e w' ⟨v0, rfl, h0, hb⟩
  obtain ⟨R0, d0, rfl, k0⟩ := LC.of h0
  exact ⟨R0, d0, rfl, ⟨k0⟩, ⟨hb⟩⟩
theorem hoursK (w : World) (A : Option Addr) (c : Nat) (A' : Option Addr) (c' : Nat) (B : Option Addr) (b : Nat) (T : TownC w A c A' c' xC) (O : LC k89 w B b xS1) : Calls Tryz.prog 42 #[.agg #[.slice A xF.length c, .slice A' xC.length c'], .slice B xS1.length b] w fun e w' => ∃ R0 d0, e = .returned (.tuple #[.slice R0 rHours.length d0, .int .i64 0]) ∧ Aside0 (LC k75 w' R0 d0 rHours) ∧ Aside0 (Below w.heap.size w w') := by
  refine (street_Hours.calls A c xF A' c' xC B b xS1 rHours 0 w T.f.kc T.f.kn T.g.kc T.g.kn O.kc O.kn ev_hours).mono ?_
  rintro e w' ⟨v0, rfl, h0, hb⟩
  obtain ⟨R0, d0, rfl, k0⟩ := LC.of h0
  exact ⟨R0, d0, rfl, ⟨k0⟩, ⟨hb⟩⟩
theorem wrongK (w : World) (A : Option Addr) (c : Nat) (A' : Option Addr) (c' : Nat) (B : Option Addr) (b : Nat) (T : TownC w A c A' c' xC) (O : LC k89 w B b xS2) : Calls Tryz.prog 43 #[.agg #[.slice A xF.length c, .slice A' xC.length c'], .slice B xS2.length b] w fun e w' => ∃ R0 d0, e = .returned (.tuple #[.slice R0 rBad.length d0, .int .i64 0]) ∧ Aside0 (LC (Kd.int .i64) w' R0 d0 rBad) ∧ Aside0 (Below w.heap.size w w') := by
  refine (street_Wrong.calls A c xF A' c' xC B b xS2 rBad 0 w T.f.kc T.f.kn T.g.kc T.g.kn O.kc O.kn ev_wrong).mono ?_
  rintro e w' ⟨v0, rfl, h0, hb⟩
  obtain ⟨R0, d0, rfl, k0⟩ := LC.of h0
  exact ⟨R0, d0, rfl, ⟨k0⟩, ⟨hb⟩⟩
theorem seenK1 (w : World) : LC k89 (w.alloc (.cells #[.int .i64 2, .string ⟨#[113, 117, 101, 101, 110]⟩, .int .i64 0, .string ⟨#[107, 105, 110, 103]⟩] 89)) (some ⟨w.heap.size, 0, none⟩) 2 xS1 :=
  LC.new k89 89 w xS1 [.int .i64 2, .string ⟨#[113, 117, 101, 101, 110]⟩, .int .i64 0, .string ⟨#[107, 105, 110, 103]⟩] (Reps.c2 (k89_mkM _ _ _ ⟨2, xQueen⟩) (Reps.c2 (k89_mkM _ _ _ ⟨0, xKing⟩) (Reps.none _ _))) (by simp [xS1])
theorem seenK2 (w : World) : LC k89 (w.alloc (.cells #[.int .i64 2, .string ⟨#[113, 117, 101, 101, 110]⟩, .int .i64 0, .string ⟨#[109, 105, 108, 108]⟩, .int .i64 1, .string ⟨#[107, 105, 110, 103]⟩] 89)) (some ⟨w.heap.size, 0, none⟩) 3 xS2 :=
  LC.new k89 89 w xS2 [.int .i64 2, .string ⟨#[113, 117, 101, 101, 110]⟩, .int .i64 0, .string ⟨#[109, 105, 108, 108]⟩, .int .i64 1, .string ⟨#[107, 105, 110, 103]⟩] (Reps.c2 (k89_mkM _ _ _ ⟨2, xQueen⟩) (Reps.c2 (k89_mkM _ _ _ ⟨0, xMill⟩) (Reps.c2 (k89_mkM _ _ _ ⟨1, xKing⟩) (Reps.none _ _)))) (by simp [xS2])
theorem below_alloc_drew (w : World) (o : Obj) (n : Nat) : Below w.heap.size w ((w.alloc o).drewN n) := pw_below_drewN (below_alloc (Below.refl _ _) o) n
theorem intsK (xs : List Int) (cs : List Value) (n : Nat) (hn : xs.length = n) (A : Option Addr) (c : Nat) (w : World) (h : LC (Kd.int .i64) w A c xs) (hrep : Reps (Kd.M (Kd.int .i64) w w.heap.size fun _ => True) (Kd.sz (Kd.int .i64)) xs cs) (hm : xs.length ≤ 100) (hf : smaltoref08_Ints.f 10 xs xs = some true) :
    Calls Tryz.prog 18 #[.slice A xs.length c, .slice (some ⟨w.heap.size, 0, none⟩) n n] (w.alloc (.cells cs.toArray 3)) fun e w' => e = .returned (.bool true) ∧ Aside0 (Below w.heap.size w w') := by
  subst hn
  have hl := LC.new (Kd.int .i64) 3 w xs cs hrep (by omega)
  have hl0 := h.below (below_alloc (Below.refl _ _) (.cells cs.toArray 3))
  refine (smaltoref08_Ints.calls 10 A c xs _ _ xs true _ hl0.kc hl0.kn hl.kc hl.kn hf).mono ?_
  rintro e w' ⟨rfl, n, rfl⟩
  exact ⟨rfl, ⟨below_alloc_drew w _ n⟩⟩
theorem textsK (xs : List ByteArray) (cs : List Value) (n : Nat) (hn : xs.length = n) (A : Option Addr) (c : Nat) (w : World) (h : LC Kd.string w A c xs) (hrep : Reps (Kd.M Kd.string w w.heap.size fun _ => True) (Kd.sz Kd.string) xs cs) (hm : xs.length ≤ 100) (hf : smaltoref08_Texts.f 10 xs xs = some true) :
    Calls Tryz.prog 27 #[.slice A xs.length c, .slice (some ⟨w.heap.size, 0, none⟩) n n] (w.alloc (.cells cs.toArray 9)) fun e w' => e = .returned (.bool true) ∧ Aside0 (Below w.heap.size w w') := by
  subst hn
  have hl := LC.new Kd.string 9 w xs cs hrep (by omega)
  have hl0 := h.below (below_alloc (Below.refl _ _) (.cells cs.toArray 9))
  refine (smaltoref08_Texts.calls 10 A c xs _ _ xs true _ hl0.kc hl0.kn hl.kc hl.kn hf).mono ?_
  rintro e w' ⟨rfl, n, rfl⟩
  exact ⟨rfl, ⟨below_alloc_drew w _ n⟩⟩
theorem timesK (xs : List S116) (cs : List Value) (n : Nat) (hn : xs.length = n) (A : Option Addr) (c : Nat) (w : World) (h : LC k116 w A c xs) (hrep : Reps (Kd.M k116 w w.heap.size fun _ => True) (Kd.sz k116) xs cs) (hm : xs.length ≤ 100) (hf : smaltoref08_Times.f 10 xs xs = some true) :
    Calls Tryz.prog 29 #[.slice A xs.length c, .slice (some ⟨w.heap.size, 0, none⟩) n n] (w.alloc (.cells cs.toArray 116)) fun e w' => e = .returned (.bool true) ∧ Aside0 (Below w.heap.size w w') := by
  subst hn
  have hl := LC.new k116 116 w xs cs hrep (by omega)
  have hl0 := h.below (below_alloc (Below.refl _ _) (.cells cs.toArray 116))
  refine (smaltoref08_Times.calls 10 A c xs _ _ xs true _ hl0.kc hl0.kn hl.kc hl.kn hf).mono ?_
  rintro e w' ⟨rfl, n, rfl⟩
  exact ⟨rfl, ⟨below_alloc_drew w _ n⟩⟩
theorem spansK (xs : List S75) (cs : List Value) (n : Nat) (hn : xs.length = n) (A : Option Addr) (c : Nat) (w : World) (h : LC k75 w A c xs) (hrep : Reps (Kd.M k75 w w.heap.size fun _ => True) (Kd.sz k75) xs cs) (hm : xs.length ≤ 100) (hf : smaltoref08_Spans.f 10 xs xs = some true) :
    Calls Tryz.prog 47 #[.slice A xs.length c, .slice (some ⟨w.heap.size, 0, none⟩) n n] (w.alloc (.cells cs.toArray 75)) fun e w' => e = .returned (.bool true) ∧ Aside0 (Below w.heap.size w w') := by
  subst hn
  have hl := LC.new k75 75 w xs cs hrep (by omega)
  have hl0 := h.below (below_alloc (Below.refl _ _) (.cells cs.toArray 75))
  refine (smaltoref08_Spans.calls 10 A c xs _ _ xs true _ hl0.kc hl0.kn hl.kc hl.kn hf).mono ?_
  rintro e w' ⟨rfl, n, rfl⟩
  exact ⟨rfl, ⟨below_alloc_drew w _ n⟩⟩
end Go.Proofs.YtdjlfdbnmnjccaaGreat.St
end
section
set_option linter.unusedVariables false
set_option linter.unusedSimpArgs false
namespace Go.Proofs.YtdjlfdbnmnjccaaGreat.St
open Go.RowKit Go.Shelf Go.Proofs.YtdjlfdbnmnjccaaGreatW.PrintWords Go.Proofs.YtdjlfdbnmnjccaaGreatW.PrintLast Go.Proofs.YtdjlfdbnmnjccaaGreatW.PrintMore
set_option maxHeartbeats 8000000 in
set_option maxRecDepth 100000 in
theorem known_any (w : World) : Calls Tryz.prog 11 #[] w fun e w' => e = .returned (.bool true) ∧ Below w.heap.size w w' := by
  go_enter Tryz.func11, Tryz.ntmps11
  go_wp2_with fail
  refine (townK _).mono ?_
  rintro e w1 ⟨A1, c1, D1, d1, rfl, T1, B1⟩
  go_wp2_with fail
  refine (clash0K _ _ _ _ _ T1.out).mono ?_
  rintro e w2 ⟨R2, x2, rfl, B2⟩
  go_wp2_with fail
  refine (changeK _ _ _ _).mono ?_
  rintro e w3 ⟨rfl, B3⟩
  go_wp2_with fail
  refine (townK1 _).mono ?_
  rintro e w4 ⟨A4, c4, D4, d4, rfl, T4, B4⟩
  go_wp2_with fail
  refine (clash1K _ _ _ _ _ T4.out).mono ?_
  rintro e w5 ⟨R5, x5, rfl, K5, B5⟩
  go_wp2_with fail
  refine (townK _).mono ?_
  rintro e w6 ⟨A6, c6, D6, d6, rfl, T6, B6⟩
  go_wp2_with fail
  refine (nameK _ _ _ _ _ T6.out).mono ?_
  rintro e w7 ⟨rfl, B7⟩
  go_wp2_with fail
  refine (townK _).mono ?_
  rintro e w8 ⟨A8, c8, D8, d8, rfl, T8, B8⟩
  go_wp2_with fail
  refine (whoK _ _ _ _ _ T8.out).mono ?_
  rintro e w9 ⟨rfl, B9⟩
  go_wp2_with fail
  refine (townK _).mono ?_
  rintro e w10 ⟨A10, c10, D10, d10, rfl, T10, B10⟩
  go_wp2_with fail
  refine (histK _ _ _ _ _ T10.out).mono ?_
  rintro e w11 ⟨R11, x11, rfl, K11, B11⟩
  go_wp2_with fail
  refine (townK _).mono ?_
  rintro e w12 ⟨A12, c12, D12, d12, rfl, T12, B12⟩
  go_wp2_with fail
  refine (againK _ _ _ _ _ T12.out).mono ?_
  rintro e w13 ⟨R13, x13, rfl, K13, B13⟩
  go_wp2_with fail
  refine (townK _).mono ?_
  rintro e w14 ⟨A14, c14, D14, d14, rfl, T14, B14⟩
  go_wp2_with fail
  refine (ordersK _).mono ?_
  rintro e w15 ⟨A15, c15, rfl, O15, B15⟩
  go_wp2_with fail
  refine (mustK _ _ _ _ _ _ _ (T14.out.below B15.out) O15.out).mono ?_
  rintro e w16 ⟨R16, x16, Q16, y16, rfl, K16, L16, B16⟩
  go_wp2_with fail
  refine (townK _).mono ?_
  rintro e w17 ⟨A17, c17, D17, d17, rfl, T17, B17⟩
  go_wp2_with fail
  refine (ordersK _).mono ?_
  rintro e w18 ⟨A18, c18, rfl, O18, B18⟩
  go_wp2_with fail
  refine (changeK _ _ _ _).mono ?_
  rintro e w19 ⟨rfl, B19⟩
  go_wp2_with fail
  refine (changedK _ _ _ _ _ _ _ ((T17.out.below B18.out).below B19.out) (O18.out.below B19.out)).mono ?_
  rintro e w20 ⟨R20, x20, rfl, K20, B20⟩
  go_wp2_with fail
  refine (townK _).mono ?_
  rintro e w21 ⟨A21, c21, D21, d21, rfl, T21, B21⟩
  go_wp2_with fail
  refine (spanK _ _ _).mono ?_
  rintro e w22 ⟨rfl, B22⟩
  go_wp2_with fail
  refine (meantK _ _ _ _ _ (T21.out.below B22.out)).mono ?_
  rintro e w23 ⟨R23, x23, Q23, y23, rfl, K23, B23⟩
  go_wp2_with fail
  refine (townK _).mono ?_
  rintro e w24 ⟨A24, c24, D24, d24, rfl, T24, B24⟩
  go_wp2_with fail
  refine (nearK _ _ _ _ _ T24.out).mono ?_
  rintro e w25 ⟨R25, x25, rfl, K25, B25⟩
  go_wp2_with fail
  refine (townK _).mono ?_
  rintro e w26 ⟨A26, c26, D26, d26, rfl, T26, B26⟩
  go_wp2_with fail
  refine (hoursK _ _ _ _ _ _ _ (T26.out.below (below_alloc (Below.refl _ _) _)) (seenK1 w26)).mono ?_
  rintro e w27 ⟨R27, x27, rfl, K27, B27⟩
  replace B27 : Aside0 (Below w26.heap.size w26 w27) := ⟨below_from (below_alloc (Below.refl _ _) _) B27.out⟩
  go_wp2_with fail
  refine (townK _).mono ?_
  rintro e w28 ⟨A28, c28, D28, d28, rfl, T28, B28⟩
  go_wp2_with fail
  refine (wrongK _ _ _ _ _ _ _ (T28.out.below (below_alloc (Below.refl _ _) _)) (seenK2 w28)).mono ?_
  rintro e w29 ⟨R29, x29, rfl, K29, B29⟩
  replace B29 : Aside0 (Below w28.heap.size w28 w29) := ⟨below_from (below_alloc (Below.refl _ _) _) B29.out⟩
  go_wp2_with fail
  refine (intsK rClash [.int .i64 0, .int .i64 1] 2 rfl _ _ _ (by repeat (first | exact Aside0.out (by assumption) | refine LC.below ?_ (Aside0.out (by assumption)))) (Reps.one rfl (Reps.one rfl (Reps.none _ _))) (by decide) (by kernel_rfl)).mono ?_
  rintro e w30 ⟨rfl, B30⟩
  go_wp2_with fail
  refine (spanK _ _ _).mono ?_
  rintro e w31 ⟨rfl, B31⟩
  go_wp2_with fail
  refine (spanK _ _ _).mono ?_
  rintro e w32 ⟨rfl, B32⟩
  go_wp2_with fail
  refine (spanK _ _ _).mono ?_
  rintro e w33 ⟨rfl, B33⟩
  go_wp2_with fail
  refine (timesK rHist [.string ⟨#[107, 105, 110, 103]⟩, .int .i64 0, .int .i64 99, .string ⟨#[113, 117, 101, 101, 110]⟩, .int .i64 100, .int .i64 299, .string ⟨#[109, 105, 108, 108]⟩, .int .i64 300, .int .i64 1000] 3 rfl _ _ _ (by repeat (first | exact Aside0.out (by assumption) | refine LC.below ?_ (Aside0.out (by assumption)))) (Reps.c3 (k116_mkM _ _ _ ⟨xKing, ⟨0, 99⟩⟩) (Reps.c3 (k116_mkM _ _ _ ⟨xQueen, ⟨100, 299⟩⟩) (Reps.c3 (k116_mkM _ _ _ ⟨xMill, ⟨300, 1000⟩⟩) (Reps.none _ _)))) (by decide) (by kernel_rfl)).mono ?_
  rintro e w34 ⟨rfl, B34⟩
  go_wp2_with fail
  refine (textsK rAgain [.string ⟨#[107, 105, 110, 103]⟩, .string ⟨#[109, 105, 108, 108]⟩] 2 rfl _ _ _ (by repeat (first | exact Aside0.out (by assumption) | refine LC.below ?_ (Aside0.out (by assumption)))) (Reps.one rfl (Reps.one rfl (Reps.none _ _))) (by decide) (by kernel_rfl)).mono ?_
  rintro e w35 ⟨rfl, B35⟩
  go_wp2_with fail
  refine (textsK rMust [.string ⟨#[109, 105, 108, 108]⟩, .string ⟨#[107, 105, 110, 103]⟩, .string ⟨#[113, 117, 101, 101, 110]⟩] 3 rfl _ _ _ (by repeat (first | exact Aside0.out (by assumption) | refine LC.below ?_ (Aside0.out (by assumption)))) (Reps.one rfl (Reps.one rfl (Reps.one rfl (Reps.none _ _)))) (by decide) (by kernel_rfl)).mono ?_
  rintro e w36 ⟨rfl, B36⟩
  go_wp2_with fail
  refine (intsK rWrong [.int .i64 1] 1 rfl _ _ _ (by repeat (first | exact Aside0.out (by assumption) | refine LC.below ?_ (Aside0.out (by assumption)))) (Reps.one rfl (Reps.none _ _)) (by decide) (by kernel_rfl)).mono ?_
  rintro e w37 ⟨rfl, B37⟩
  go_wp2_with fail
  refine (intsK rChanged [.int .i64 2] 1 rfl _ _ _ (by repeat (first | exact Aside0.out (by assumption) | refine LC.below ?_ (Aside0.out (by assumption)))) (Reps.one rfl (Reps.none _ _)) (by decide) (by kernel_rfl)).mono ?_
  rintro e w38 ⟨rfl, B38⟩
  go_wp2_with fail
  refine (intsK rPoss [.int .i64 2] 1 rfl _ _ _ (by repeat (first | exact Aside0.out (by assumption) | refine LC.below ?_ (Aside0.out (by assumption)))) (Reps.one rfl (Reps.none _ _)) (by decide) (by kernel_rfl)).mono ?_
  rintro e w39 ⟨rfl, B39⟩
  go_wp2_with fail
  refine (intsK rNear [.int .i64 0] 1 rfl _ _ _ (by repeat (first | exact Aside0.out (by assumption) | refine LC.below ?_ (Aside0.out (by assumption)))) (Reps.one rfl (Reps.none _ _)) (by decide) (by kernel_rfl)).mono ?_
  rintro e w40 ⟨rfl, B40⟩
  go_wp2_with fail
  refine (spanK _ _ _).mono ?_
  rintro e w41 ⟨rfl, B41⟩
  go_wp2_with fail
  refine (spansK rHours [.int .i64 200, .int .i64 299] 1 rfl _ _ _ (by repeat (first | exact Aside0.out (by assumption) | refine LC.below ?_ (Aside0.out (by assumption)))) (Reps.c2 (k75_mkM _ _ _ ⟨200, 299⟩) (Reps.none _ _)) (by decide) (by kernel_rfl)).mono ?_
  rintro e w42 ⟨rfl, B42⟩
  go_wp2_with fail
  refine (intsK rBad [.int .i64 2] 1 rfl _ _ _ (by repeat (first | exact Aside0.out (by assumption) | refine LC.below ?_ (Aside0.out (by assumption)))) (Reps.one rfl (Reps.none _ _)) (by decide) (by kernel_rfl)).mono ?_
  rintro e w43 ⟨rfl, B43⟩
  go_wp2_with fail
  go_ret
  refine ⟨rfl, ?_⟩
  repeat (first | exact Below.refl _ _ | refine below_from ?_ (Aside0.out (by assumption)))
def smaltolaw08_known.f : Option Bool := some true
theorem smaltolaw08_known.calls (r : Bool) (w : World) (h : smaltolaw08_known.f = some r) : Calls Tryz.prog 11 #[] w fun e w' => e = .returned (.bool r) ∧ Below w.heap.size w w' := by
  have e := Option.some.inj h
  subst e
  exact known_any w
end Go.Proofs.YtdjlfdbnmnjccaaGreat.St
end
section
set_option linter.unusedVariables false
set_option linter.unusedSimpArgs false
namespace Go.Proofs.YtdjlfdbnmnjccaaGreat.St
open Go.RowKit Go.Shelf Go.Proofs.YtdjlfdbnmnjccaaGreatW.PrintWords Go.Proofs.YtdjlfdbnmnjccaaGreatW.PrintLast Go.Proofs.YtdjlfdbnmnjccaaGreatW.PrintMore
set_option maxHeartbeats 4000000 in
set_option maxRecDepth 100000 in
theorem called_any (A0 : Option Addr) (c0 : Nat) (l0 : List ByteArray) (A1 : Option Addr) (c1 : Nat) (l1 : List S60) (s h : Int) (w : World) (T : TwC w A0 c0 l0 A1 c1 l1) (hn : l1.length < 100000) (hs0 : 0 ≤ s) (hs1 : s < l0.length) :
    Calls Tryz.prog 23 #[.agg #[.slice A0 l0.length c0, .slice A1 l1.length c1], .int .i64 s, .int .i64 h] w fun e w' => e = .returned (.string (calledP l0 l1 s h)) ∧ Below w.heap.size w w' := by
  have T0 := Aside0.mk T
  clear T
  go_enter Tryz.func23, Tryz.ntmps23
  go_upto_region 1 with fail
  obtain ⟨w1, hw1⟩ : ∃ x, w.alloc (.cells #[.slice A0 l0.length c0, .slice A1 l1.length c1] 25) = x := ⟨_, rfl⟩
  have B1 : Aside0 (Below w.heap.size w w1) := ⟨by rw [← hw1]; exact below_alloc (Below.refl _ _) _⟩
  have X1 : Aside0 (w1.heap[w.heap.size]? = some (.cells #[.slice A0 l0.length c0, .slice A1 l1.length c1] 25 (0, 0))) := ⟨by rw [← hw1]; exact blk_new w _⟩
  rw [hw1]
  clear hw1
  have T1 := Aside0.mk (T0.out.below B1.out)
  obtain ⟨ad, rfl, hc⟩ := Kd.at_string T1.out.f.kc s hs0 (by omega)
  obtain ⟨x0, x1, xl⟩ := blk2 X1.out
  have H0 := Aside0.mk (show calledL s h (l1.drop 0) (rdOf ByteArray.empty l0 s) 0 = calledP l0 l1 s h from rfl)
  go_wp2_with fail
  clear hc x0 x1 xl
  go_loopg [7, 8, 9, 10] l1.length (fun gg s7 s8 s9 _ wr => ∃ (kk : Nat) (nm : ByteArray) (a : Int), kk ≤ l1.length ∧ l1.length - kk ≤ gg ∧ s7 = .string nm ∧ s8 = .int .i64 a ∧ s9 = .int .i64 kk ∧ Aside0 (calledL s h (l1.drop kk) nm a = calledP l0 l1 s h) ∧ Aside0 (Below w1.heap.size w1 wr))
  case atStart => exact ⟨0, _, _, Nat.zero_le _, by omega, rfl, rfl, rfl, H0, ⟨Below.refl _ _⟩⟩
  case round =>
    clear H0
    obtain ⟨kk, nm, a, hkk, hg, rfl, rfl, rfl, HL, B2⟩ := hrel
    obtain ⟨x0, x1, xl⟩ := blk2 (blk_below X1.out B2.out)
    by_cases hlt : kk < l1.length
    · have hltz : (kk : Int) < (l1.length : Int) := by omega
      obtain ⟨ae, rfl, hc0, hc1, hc2⟩ := at_T60 (T1.out.below B2.out).g.kc (kk : Int) (by omega) (by omega)
      rw [Int.toNat_natCast] at hc0 hc1 hc2
      have HL2 := HL.out
      rw [drop_rd hlt] at HL2
      obtain ⟨y, hy⟩ : ∃ y, rd_T60 l1 (kk : Int) = y := ⟨_, rfl⟩
      rw [hy] at hc0 hc1 hc2 HL2
      unfold calledL at HL2
      have HL3 := Aside0.mk HL2
      clear HL HL2 hy
      go_upto_region 6 with fail
      obtain ⟨w3, hw3⟩ : ∃ x, wr.alloc (.cells #[.int .i64 y.f0, .int .i64 y.f1, .string y.f2] 60) = x := ⟨_, rfl⟩
      have B3 : Aside0 (Below wr.heap.size wr w3) := ⟨by rw [← hw3]; exact below_alloc (Below.refl _ _) _⟩
      have Y3 : Aside0 (w3.heap[wr.heap.size]? = some (.cells #[.int .i64 y.f0, .int .i64 y.f1, .string y.f2] 60 (0, 0))) := ⟨by rw [← hw3]; exact blk_new wr _⟩
      rw [hw3]
      clear hw3 hc0 hc1 hc2 x0 x1 xl
      have y0 : w3.cell? ⟨wr.heap.size, 0, none⟩ = some (.int .i64 y.f0) := (blk_cell Y3.out 0).trans rfl
      have y1 : w3.cell? ⟨wr.heap.size, 1, none⟩ = some (.int .i64 y.f1) := (blk_cell Y3.out 1).trans rfl
      have y2 : w3.cell? ⟨wr.heap.size, 2, none⟩ = some (.string y.f2) := (blk_cell Y3.out 2).trans rfl
      have hend : ∀ (nm' : ByteArray) (a' : Int) (w' : World), calledL s h (l1.drop (kk + 1)) nm' a' = calledP l0 l1 s h → Below w3.heap.size w3 w' → Aside0 (calledL s h (l1.drop (kk + 1)) nm' a' = calledP l0 l1 s h) ∧ Aside0 (Below w1.heap.size w1 w') := fun nm' a' w' e b => ⟨⟨e⟩, ⟨below_from (below_from B2.out B3.out) b⟩⟩
      by_cases h1 : y.f1 = s
      · have h1b : (y.f1 == s) = true := beq_iff_eq.2 h1
        by_cases h2 : y.f0 ≤ h
        · by_cases h3 : a ≤ y.f0
          · have HL4 := Aside0.mk (show calledL s h (l1.drop (kk + 1)) y.f2 y.f0 = calledP l0 l1 s h from by have := HL3.out; rwa [if_pos ⟨h1, h2, h3⟩] at this)
            have h3' : y.f0 ≥ a := h3
            go_wp2_with fail
            go_region
            all_goals go_wp2_with fail
            all_goals go_roundg (l1.length - (kk + 1))
            all_goals first | omega | exact ⟨kk + 1, _, _, by omega, by omega, rfl, rfl, by go_num, hend _ _ _ HL4.out (below_drew (Below.refl _ _))⟩ | exact ⟨kk + 1, _, _, by omega, by omega, rfl, rfl, by go_num, hend _ _ _ HL4.out (Below.refl _ _)⟩
          · have HL4 := Aside0.mk (show calledL s h (l1.drop (kk + 1)) nm a = calledP l0 l1 s h from by have := HL3.out; rwa [if_neg (fun k => h3 k.2.2)] at this)
            have h3' : ¬ y.f0 ≥ a := h3
            go_wp2_with fail
            go_roundg (l1.length - (kk + 1))
            case measure => omega
            case rel => exact ⟨kk + 1, _, _, by omega, by omega, rfl, rfl, by go_num, hend _ _ _ HL4.out (Below.refl _ _)⟩
        · have HL4 := Aside0.mk (show calledL s h (l1.drop (kk + 1)) nm a = calledP l0 l1 s h from by have := HL3.out; rwa [if_neg (fun k => h2 k.2.1)] at this)
          go_wp2_with fail
          go_roundg (l1.length - (kk + 1))
          case measure => omega
          case rel => exact ⟨kk + 1, _, _, by omega, by omega, rfl, rfl, by go_num, hend _ _ _ HL4.out (Below.refl _ _)⟩
      · have HL4 := Aside0.mk (show calledL s h (l1.drop (kk + 1)) nm a = calledP l0 l1 s h from by have := HL3.out; rwa [if_neg (fun k => h1 k.1)] at this)
        have h1b : (y.f1 == s) = false := beq_eq_false_iff_ne.2 h1
        go_wp2_with fail
        go_roundg (l1.length - (kk + 1))
        case measure => omega
        case rel => exact ⟨kk + 1, _, _, by omega, by omega, rfl, rfl, by go_num, hend _ _ _ HL4.out (Below.refl _ _)⟩
    · have hltz : ¬ (kk : Int) < (l1.length : Int) := by omega
      obtain rfl : kk = l1.length := by omega
      have HL2 := HL.out
      rw [List.drop_of_length_le (Nat.le_refl _)] at HL2
      have HL3 := Aside0.mk (show nm = calledP l0 l1 s h from HL2)
      clear HL HL2
      go_wp2_with fail
      go_ret
      exact ⟨by rw [HL3.out]; rfl, below_from B1.out B2.out⟩
theorem calledK (A0 : Option Addr) (c0 : Nat) (l0 : List ByteArray) (A1 : Option Addr) (c1 : Nat) (l1 : List S60) (s h : Int) (w : World) (T : TwC w A0 c0 l0 A1 c1 l1) (hn : l1.length < 100000) (hs0 : 0 ≤ s) (hs1 : s < l0.length) :
    Calls Tryz.prog 23 #[.agg #[.slice A0 l0.length c0, .slice A1 l1.length c1], .int .i64 s, .int .i64 h] w fun e w' => e = .returned (.string (calledP l0 l1 s h)) ∧ Aside0 (Below w.heap.size w w') := (called_any A0 c0 l0 A1 c1 l1 s h w T hn hs0 hs1).mono fun e w' ⟨h, hb⟩ => ⟨h, ⟨hb⟩⟩
def smaltoref08_Called.f (l0_0 : List ByteArray) (l0_1 : List S60) (a1 a2 : Int) : Option ByteArray :=
  if 0 ≤ a1 then (if a1 < l0_0.length then (if l0_1.length < 100000 then some (calledP l0_0 l0_1 a1 a2) else none) else none) else none
theorem smaltoref08_Called.calls (A0_0 : Option Addr) (c0_0 : Nat) (l0_0 : List ByteArray) (A0_1 : Option Addr) (c0_1 : Nat) (l0_1 : List S60) (a1 a2 : Int) (r : ByteArray) (w : World) (hr0_0 : Kd.C Kd.string w A0_0 l0_0.length l0_0) (hc0_0 : l0_0.length ≤ c0_0) (hr0_1 : Kd.C k60 w A0_1 l0_1.length l0_1) (hc0_1 : l0_1.length ≤ c0_1) (h : smaltoref08_Called.f l0_0 l0_1 a1 a2 = some r) :
    Calls Tryz.prog 23 #[.agg #[.slice A0_0 l0_0.length c0_0, .slice A0_1 l0_1.length c0_1], .int .i64 a1, .int .i64 a2] w fun e w' => e = .returned (.string r) ∧ Below w.heap.size w w' := by
  unfold smaltoref08_Called.f at h
  split at h
  · rename_i h0
    split at h
    · rename_i h1
      split at h
      · rename_i h2
        obtain rfl := Option.some.inj h
        exact called_any A0_0 c0_0 l0_0 A0_1 c0_1 l0_1 a1 a2 w ⟨⟨hr0_0, hc0_0⟩, ⟨hr0_1, hc0_1⟩⟩ h2 h0 h1
      · cases h
    · cases h
  · cases h
theorem called_f (first : List ByteArray) (changes : List S60) (hn : changes.length < 100000) (s : Nat) (hs : s < first.length) (h : Int) :
    smaltoref08_Called.f first changes s h = some (calledP first changes s h) := by
  unfold smaltoref08_Called.f
  rw [if_pos (by omega), if_pos (by omega), if_pos hn]
end Go.Proofs.YtdjlfdbnmnjccaaGreat.St
end
