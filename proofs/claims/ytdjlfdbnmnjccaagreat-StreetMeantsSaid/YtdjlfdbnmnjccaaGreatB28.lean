/- A part of the proofs of the laws of this seat: the walks of the program's functions, and lemmas. They hold without conditions. -/
import Derived.Deep.DeepCutAuto
import Derived.Test.YtdjlfdbnmnjccaaGreatB07
import Derived.Test.YtdjlfdbnmnjccaaGreatB21
import Derived.Test.YtdjlfdbnmnjccaaGreatB22
set_option linter.all false
set_option linter.unusedSectionVars false
section
set_option linter.unusedVariables false
set_option linter.unusedSimpArgs false
namespace Go.Proofs.YtdjlfdbnmnjccaaGreat.St
open Go.RowKit Go.Shelf Go.Proofs.YtdjlfdbnmnjccaaGreatW.PrintWords Go.Proofs.YtdjlfdbnmnjccaaGreatW.PrintLast Go.Proofs.YtdjlfdbnmnjccaaGreatW.PrintMore
theorem eqChange (d : Nat) (w : World) (x0 y0 : Int) (x1 y1 : Int) (x2 y2 : ByteArray) :
    (Op.equalIn (d + 2) 60 (.agg #[.int .i64 x0, .int .i64 x1, .string x2]) (.agg #[.int .i64 y0, .int .i64 y1, .string y2])).run Tryz.prog w = .ok (x0 == y0 && (x1 == y1 && (x2.toList == y2.toList))) w := by
  refine eqA_of Tryz.underlying60 (by kernel_rfl) ?_
  refine eqf_cons (by rfl) (by go_simp; rfl) (by go_simp; rfl) (by go_simp) ?_
  refine eqf_cons (by rfl) (by go_simp; rfl) (by go_simp; rfl) (by go_simp) ?_
  exact eqf_last (by rfl) (by go_simp; rfl) (by go_simp; rfl) (by go_simp)
attribute [local go_sem high] eqChange
theorem texts_self (l : List ByteArray) (hl : l.length < 100000) (k : Nat) (hk : l.length < k) : smaltoref08_Texts.f k l l = some true := by
  unfold smaltoref08_Texts.f
  rw [if_pos rfl]
  have key : ∀ (d i k : Nat), i + d = l.length → d < k → smaltoref08_Texts.l0 k l l i = some true := by
    intro d
    induction d with
    | zero =>
      intro i k hd hk
      obtain ⟨k, rfl⟩ : ∃ j, k = j + 1 := ⟨k - 1, by omega⟩
      unfold smaltoref08_Texts.l0
      rw [if_neg (by omega)]
    | succ d ih =>
      intro i k hd hk
      obtain ⟨k, rfl⟩ : ∃ j, k = j + 1 := ⟨k - 1, by omega⟩
      unfold smaltoref08_Texts.l0
      rw [if_pos (by omega), if_pos (by omega), if_pos (by omega), if_pos rfl, w64 (by omega)]
      exact ih (i + 1) k (by omega) (by omega)
  exact key l.length 0 k (by omega) hk
set_option maxHeartbeats 4000000 in
set_option maxRecDepth 100000 in
theorem same_any (A0 : Option Addr) (c0 : Nat) (l0 : List ByteArray) (A1 : Option Addr) (c1 : Nat) (l1 : List S60) (B0 : Option Addr) (d0 : Nat) (B1 : Option Addr) (d1 : Nat) (w : World) (T : TwC w A0 c0 l0 A1 c1 l1) (T' : TwC w B0 d0 l0 B1 d1 l1) (hn0 : l0.length < 100000) (hn : l1.length < 100000) :
    Calls Tryz.prog 16 #[.agg #[.slice A0 l0.length c0, .slice A1 l1.length c1], .agg #[.slice B0 l0.length d0, .slice B1 l1.length d1]] w fun e w' => e = .returned (.bool true) ∧ Below w.heap.size w w' := by
  have T0 := Aside0.mk T
  have T0' := Aside0.mk T'
  clear T T'
  go_enter Tryz.func16, Tryz.ntmps16
  go_upto_region 1 with fail
  obtain ⟨w1, hw1⟩ : ∃ x, (w.alloc (.cells #[.slice A0 l0.length c0, .slice A1 l1.length c1] 25)).alloc (.cells #[.slice B0 l0.length d0, .slice B1 l1.length d1] 25) = x := ⟨_, rfl⟩
  have W1 : Aside0 (Below w.heap.size w w1) := ⟨by rw [← hw1]; exact below_alloc (below_alloc (Below.refl _ _) _) _⟩
  have X1 : Aside0 (w1.heap[w.heap.size]? = some (.cells #[.slice A0 l0.length c0, .slice A1 l1.length c1] 25 (0, 0))) := ⟨by rw [← hw1]; exact blk_alloc (blk_new w _) _⟩
  have Y1 : Aside0 (w1.heap[w.heap.size + 1]? = some (.cells #[.slice B0 l0.length d0, .slice B1 l1.length d1] 25 (0, 0))) := ⟨by rw [← hw1]; have := blk_new (w.alloc (.cells #[.slice A0 l0.length c0, .slice A1 l1.length c1] 25)) (.cells #[.slice B0 l0.length d0, .slice B1 l1.length d1] 25); rwa [World.size_alloc] at this⟩
  rw [hw1]
  clear hw1
  have T1 := Aside0.mk (T0.out.below W1.out)
  have T1' := Aside0.mk (T0'.out.below W1.out)
  clear T0 T0'
  obtain ⟨x0, x1, xl⟩ := blk2 X1.out
  obtain ⟨y0, y1, yl⟩ := blk2 Y1.out
  go_wp2_with fail
  refine (smaltoref08_Texts.calls (l0.length + 1) A0 c0 l0 B0 d0 l0 true w1 T1.out.f.kc T1.out.f.kn T1'.out.f.kc T1'.out.f.kn (texts_self l0 hn0 _ (Nat.lt_succ_self _))).mono ?_
  rintro e w2 ⟨rfl, B2⟩
  replace B2 := B2.below
  have X2 := Aside0.mk (blk_below X1.out B2)
  have Y2 := Aside0.mk (blk_below Y1.out B2)
  have T2 := Aside0.mk (T1.out.below B2)
  have T2' := Aside0.mk (T1'.out.below B2)
  have W2 := Aside0.mk (below_from W1.out B2)
  clear x0 x1 xl y0 y1 yl B2 X1 Y1 T1 T1' W1
  obtain ⟨x0, x1, xl⟩ := blk2 X2.out
  obtain ⟨y0, y1, yl⟩ := blk2 Y2.out
  go_wp2_with fail
  go_loopg [4, 5] l1.length (fun gg s4 s5 wr => ∃ kk : Nat, kk ≤ l1.length ∧ l1.length - kk ≤ gg ∧ s5 = .int .i64 kk ∧ Aside0 (Below w2.heap.size w2 wr))
  case atStart => exact ⟨0, Nat.zero_le _, by omega, rfl, ⟨Below.refl _ _⟩⟩
  case round =>
    clear x0 x1 xl y0 y1 yl
    obtain ⟨kk, hkk, hg, rfl, B3⟩ := hrel
    obtain ⟨x0, x1, xl⟩ := blk2 (blk_below X2.out B3.out)
    obtain ⟨y0, y1, yl⟩ := blk2 (blk_below Y2.out B3.out)
    by_cases hlt : kk < l1.length
    · have hltz : (kk : Int) < (l1.length : Int) := by omega
      obtain ⟨ae, rfl, hc0, hc1, hc2⟩ := at_T60 (T2.out.below B3.out).g.kc (kk : Int) (by omega) (by omega)
      obtain ⟨af, rfl, he0, he1, he2⟩ := at_T60 (T2'.out.below B3.out).g.kc (kk : Int) (by omega) (by omega)
      rw [Int.toNat_natCast] at hc0 hc1 hc2 he0 he1 he2
      obtain ⟨y, hy⟩ : ∃ y, rd_T60 l1 (kk : Int) = y := ⟨_, rfl⟩
      rw [hy] at hc0 hc1 hc2 he0 he1 he2
      clear hy
      go_wp2_with fail
      go_region
      all_goals go_wp2_with fail
      all_goals go_roundg (l1.length - (kk + 1))
      all_goals first | omega | exact ⟨kk + 1, by omega, by omega, by go_num, ⟨below_drew B3.out⟩⟩ | exact ⟨kk + 1, by omega, by omega, by go_num, B3⟩
    · have hltz : ¬ (kk : Int) < (l1.length : Int) := by omega
      go_wp2_with fail
      go_ret
      exact ⟨rfl, below_from W2.out B3.out⟩
open Classical in
noncomputable def smaltoref08_Same.f (l0_0 : List ByteArray) (l0_1 : List S60) (l1_0 : List ByteArray) (l1_1 : List S60) : Option Bool :=
  if l0_0 = l1_0 ∧ l0_1 = l1_1 ∧ l0_0.length < 100000 ∧ l0_1.length < 100000 then some true else none
theorem smaltoref08_Same.calls (A0_0 : Option Addr) (c0_0 : Nat) (l0_0 : List ByteArray) (A0_1 : Option Addr) (c0_1 : Nat) (l0_1 : List S60) (A1_0 : Option Addr) (c1_0 : Nat) (l1_0 : List ByteArray) (A1_1 : Option Addr) (c1_1 : Nat) (l1_1 : List S60) (r : Bool) (w : World) (hr0_0 : Kd.C Kd.string w A0_0 l0_0.length l0_0) (hc0_0 : l0_0.length ≤ c0_0) (hr0_1 : Kd.C k60 w A0_1 l0_1.length l0_1) (hc0_1 : l0_1.length ≤ c0_1) (hr1_0 : Kd.C Kd.string w A1_0 l1_0.length l1_0) (hc1_0 : l1_0.length ≤ c1_0) (hr1_1 : Kd.C k60 w A1_1 l1_1.length l1_1) (hc1_1 : l1_1.length ≤ c1_1) (h : smaltoref08_Same.f l0_0 l0_1 l1_0 l1_1 = some r) :
    Calls Tryz.prog 16 #[.agg #[.slice A0_0 l0_0.length c0_0, .slice A0_1 l0_1.length c0_1], .agg #[.slice A1_0 l1_0.length c1_0, .slice A1_1 l1_1.length c1_1]] w fun e w' => e = .returned (.bool r) ∧ Below w.heap.size w w' := by
  unfold smaltoref08_Same.f at h
  split at h
  · rename_i hh
    obtain ⟨rfl, rfl, h0, h1⟩ := hh
    obtain rfl := Option.some.inj h
    exact same_any A0_0 c0_0 l0_0 A0_1 c0_1 l0_1 A1_0 c1_0 A1_1 c1_1 w ⟨⟨hr0_0, hc0_0⟩, ⟨hr0_1, hc0_1⟩⟩ ⟨⟨hr1_0, hc1_0⟩, ⟨hr1_1, hc1_1⟩⟩ h0 h1
  · cases h
theorem same_self (l : List ByteArray) (cs : List S60) (hl : l.length < 100000) (hc : cs.length < 100000) : smaltoref08_Same.f l cs l cs = some true := by
  unfold smaltoref08_Same.f
  rw [if_pos ⟨rfl, rfl, hl, hc⟩]
end Go.Proofs.YtdjlfdbnmnjccaaGreat.St
end
