/- A part of the proofs of the laws of this seat: the walks of the program's functions, and lemmas. They hold without conditions. -/
import Derived.Shelf.SlicesE.DeleteFunc
import Derived.Ground.SlgfProg
import Derived.Test.YtdjlfdbnmnjccaaGreatProg
import Derived.ArgAppend
import Derived.Deep.RegionLaw
import Derived.Maps.AppendAt
import Derived.Test.YtdjlfdbnmnjccaaGreatB05
import Derived.Test.YtdjlfdbnmnjccaaGreatB10
set_option linter.all false
set_option linter.unusedSectionVars false
section
set_option linter.unusedVariables false
set_option linter.unusedSimpArgs false
namespace Go.Proofs.YtdjlfdbnmnjccaaGreat.St
open Go.Sort hiding rd
open Go.RowKit Go.Shelf Go.Proofs.YtdjlfdbnmnjccaaGreatW.PrintWords Go.Proofs.YtdjlfdbnmnjccaaGreatW.PrintLast Go.Proofs.YtdjlfdbnmnjccaaGreatW.PrintMore
def mustT (first : List ByteArray) (changes : List S60) (l : List S62) : List ByteArray × List Int × Int :=
  if openE first changes ≠ 0 then ([], [], openE first changes) else mustR first.length (pagesOf first changes) l
set_option maxHeartbeats 4000000 in
set_option maxRecDepth 100000 in
theorem mustT_any (A0 : Option Addr) (c0 : Nat) (first : List ByteArray) (A1 : Option Addr) (c1 : Nat) (changes : List S60) (Al : Option Addr) (cl : Nat) (l : List S62) (w : World)
    (hr0 : Kd.C Kd.string w A0 first.length first) (hc0 : first.length ≤ c0) (hr1 : Kd.C k60 w A1 changes.length changes) (hc1 : changes.length ≤ c1) (hrl : Kd.C k62 w Al l.length l) :
    Calls Tryz.prog 31 #[.agg #[.slice A0 first.length c0, .slice A1 changes.length c1], .slice Al l.length cl] w fun e w' =>
      ∃ v0 v1 : Value, e = .returned (.tuple #[v0, v1, .int .i64 (mustT first changes l).2.2]) ∧ Kd.R Kd.string 9 w' w.heap.size (fun _ => True) v0 (mustT first changes l).1 ∧ Kd.R (Kd.int .i64) 3 w' w.heap.size (fun _ => True) v1 (mustT first changes l).2.1 ∧ Below w.heap.size w w' := by
  have HOP := Aside0.mk (fun (W : World) (hb : Below w.heap.size w W) => open_any A0 c0 first A1 c1 changes W (Kd.C_below hr0 hb) hc0 (Kd.C_below hr1 hb) hc1)
  have HRL := Aside0.mk hrl
  clear hr0 hr1 hrl
  go_enter Tryz.func31, Tryz.ntmps31
  go_wp2_with fail
  obtain ⟨W1, hW1⟩ : ∃ W1, w.alloc (.cells #[.slice A0 first.length c0, .slice A1 changes.length c1] 25) = W1 := ⟨_, rfl⟩
  have hb1 : Below w.heap.size w W1 := by rw [← hW1]; exact below_alloc (Below.refl _ _) _
  rw [hW1]
  clear hW1
  refine (HOP.out W1 hb1).mono ?_
  rintro e w2 ⟨B0, n0, d0, B1, n1, d1, Bp, np, dp, rfl, hop, hb⟩
  obtain ⟨oe, hoe⟩ : ∃ oe, openE first changes = oe := ⟨_, rfl⟩
  rw [hoe]
  have HB2 := Aside0.mk (below_from hb1 hb)
  have HS := Aside0.mk hb1.size
  clear hb hb1 HOP
  by_cases h0 : oe = 0
  · subst h0
    obtain ⟨e0, e1, hp⟩ := hop hoe
    rw [e0, e1]
    clear e0 e1 hop
    have HP2 := Aside0.mk (Kd.R_lower hp HS.out)
    have HOE := Aside0.mk hoe
    obtain ⟨hf1, hf2, _⟩ := check_ok (open_zero hoe).1
    clear hp hoe HS
    obtain ⟨Aq, cq, hsl⟩ := Kd.R_slice HP2.out
    cases hsl
    obtain ⟨W3, hW3⟩ : ∃ W3, w2.alloc (.cells #[.slice A0 first.length c0, .slice A1 changes.length c1, .slice Bp (bookOf first changes).1.length dp] 124) = W3 := ⟨_, rfl⟩
    have HB3 := Aside0.mk (show Below w.heap.size w W3 from by rw [← hW3]; exact below_alloc HB2.out _)
    have BB3 := Aside0.mk (show W3.heap[w2.heap.size]? = some (.cells #[.slice A0 first.length c0, .slice A1 changes.length c1, .slice Bp (bookOf first changes).1.length dp] 124 (0, 0)) from by rw [← hW3]; exact blk_new w2 _)
    have HP3 := Aside0.mk (show Kd.R k167 167 W3 w.heap.size (fun _ => True) (.slice Bp (bookOf first changes).1.length dp) (bookOf first changes).1 from by rw [← hW3]; exact Kd.R_alloc HP2.out _)
    have HMU := Aside0.mk (must_any A0 first.length c0 (.slice A1 changes.length c1) Bp dp (pagesOf first changes) Al cl l W3 ⟨_, _, _, rfl⟩ (Kd.R_reads' HP3.out).2.2 (pages_ok HOE.out) hf2 (Kd.C_below HRL.out HB3.out))
    have HT := Aside0.mk (show mustT first changes l = mustR first.length (pagesOf first changes) l from by unfold mustT; rw [if_neg (by rw [HOE.out]; simp)])
    clear HB2 HP2
    obtain ⟨⟨z0, z1, z2⟩, _, zl⟩ := blk3 BB3.out
    go_wp2_with fail
    clear hW3
    refine HMU.out.mono ?_
    rintro e w4 ⟨v0, v1, rfl, h0, h1, hb⟩
    have HB4 := Aside0.mk (below_from HB3.out hb)
    have H0 := Aside0.mk (Kd.R_mono (Kd.R_lower h0 HB3.out.size) (ok' := fun _ => True) (fun _ _ => trivial))
    have H1 := Aside0.mk (Kd.R_mono (Kd.R_lower h1 HB3.out.size) (ok' := fun _ => True) (fun _ _ => trivial))
    clear h0 h1 hb HMU HB3 BB3 HP3 z0 z1 z2 zl
    go_wp2_with fail
    rw [HT.out]
    refine bodyPost_ret (v := .tuple #[v0, v1, .int .i64 (mustR first.length (pagesOf first changes) l).2.2]) (by simp [results, Tryz.results31, go_sem]) rfl ?_
    exact ⟨_, _, rfl, H0.out, H1.out, HB4.out⟩
  · have h0' : (oe != 0) = true := by simp [h0]
    have HN := Aside0.mk (show mustT first changes l = ([], [], oe) from by unfold mustT; rw [if_pos (by rw [hoe]; exact h0), hoe])
    clear h0 hop hoe
    go_wp2_with fail
    rw [HN.out]
    refine bodyPost_ret (v := .tuple #[.slice none 0 0, .slice none 0 0, .int .i64 oe]) (by simp [results, Tryz.results31, go_sem]) rfl ?_
    exact ⟨_, _, rfl, Kd.R_nil _ _ _ _ _, Kd.R_nil _ _ _ _ _, below_alloc HB2.out _⟩
def street_Must.f (l0_0 : List ByteArray) (l0_1 : List S60) (l1 : List S62) : Option (List ByteArray × List Int × Int) := some (mustT l0_0 l0_1 l1)
theorem street_Must.calls (A0_0 : Option Addr) (c0_0 : Nat) (l0_0 : List ByteArray) (A0_1 : Option Addr) (c0_1 : Nat) (l0_1 : List S60) (A1 : Option Addr) (c1 : Nat) (l1 : List S62) (r_0 : List ByteArray) (r_1 : List Int) (r_2 : Int) (w : World) (hr0_0 : Kd.C Kd.string w A0_0 l0_0.length l0_0) (hc0_0 : l0_0.length ≤ c0_0) (hr0_1 : Kd.C k60 w A0_1 l0_1.length l0_1) (hc0_1 : l0_1.length ≤ c0_1) (hr1 : Kd.C k62 w A1 l1.length l1) (hc1 : l1.length ≤ c1) (h : street_Must.f l0_0 l0_1 l1 = some (r_0, r_1, r_2)) :
    Calls Tryz.prog 31 #[.agg #[.slice A0_0 l0_0.length c0_0, .slice A0_1 l0_1.length c0_1], .slice A1 l1.length c1] w fun e w' => ∃ v0_ v1_ : Value, e = .returned (.tuple #[v0_, v1_, .int .i64 r_2]) ∧ Kd.R Kd.string 9 w' w.heap.size (fun _ => True) v0_ r_0 ∧ Kd.R (Kd.int .i64) 3 w' w.heap.size (fun _ => True) v1_ r_1 ∧ Below w.heap.size w w' := by
  have e := Option.some.inj h
  have h0 : (mustT l0_0 l0_1 l1).1 = r_0 := by rw [e]
  have h1 : (mustT l0_0 l0_1 l1).2.1 = r_1 := by rw [e]
  have h2 : (mustT l0_0 l0_1 l1).2.2 = r_2 := by rw [e]
  have := mustT_any A0_0 c0_0 l0_0 A0_1 c0_1 l0_1 A1 c1 l1 w hr0_0 hc0_0 hr0_1 hc0_1 hr1
  rwa [h0, h1, h2] at this
end Go.Proofs.YtdjlfdbnmnjccaaGreat.St
end
section
namespace Go.Proofs
open Go.Shelf
def Tryz.laysSlH10_f80_ren : Go.Shelf.Ren := ⟨fun | 10 => 80 | 6 => 114 | n => n, fun | 22 => 31 | 23 => 3 | 25 => 130 | 3 => 3 | 4 => 4 | 0 => 0 | n => n, fun | n => n⟩
theorem Tryz.laysSlH10_f80 : Go.Proofs.SlLaysH.n10 Tryz.prog Tryz.laysSlH10_f80_ren := {
  mixed := by kernel_rfl
  f6 := ⟨Tryz.f114.name, by decide, Tryz.func114.trans (congrArg some (by kernel_rfl))⟩
  f10 := ⟨Tryz.f80.name, by decide, Tryz.func80.trans (congrArg some (by kernel_rfl))⟩
  t0 := Tryz.underlying0
  a0 := Tryz.isAgg0
  z0 := Tryz.sizeOf0
  v0 := Tryz.zeroValue0
  t3 := Tryz.underlying3
  a3 := Tryz.isAgg3
  z3 := Tryz.sizeOf3
  v3 := Tryz.zeroValue3
  t4 := Tryz.underlying4
  a4 := Tryz.isAgg4
  z4 := Tryz.sizeOf4
  v4 := Tryz.zeroValue4
  t22 := Tryz.underlying31
  a22 := Tryz.isAgg31
  z22 := Tryz.sizeOf31
  v22 := Tryz.zeroValue31
  a23 := Tryz.isAgg3
  z23 := Tryz.sizeOf3
  t25 := Tryz.underlying130
  a25 := Tryz.isAgg130
  z25 := Tryz.sizeOf130
  v25 := Tryz.zeroValue130 }
end Go.Proofs
end
section
set_option linter.unusedVariables false
set_option linter.unusedSimpArgs false
namespace Go.Proofs.YtdjlfdbnmnjccaaGreat.St
open Go.Sort hiding rd
open Go.RowKit Go.Shelf Go.Proofs.YtdjlfdbnmnjccaaGreatW.PrintWords Go.Proofs.YtdjlfdbnmnjccaaGreatW.PrintLast Go.Proofs.YtdjlfdbnmnjccaaGreatW.PrintMore
theorem ofOwnI2 {w : World} {base n : Nat} {v : Value} {zs : List Int} (h : w.ownsRow base 3 1 v n (zs.map (Value.int .i64))) (hn : zs.length = n) : Kd.R (Kd.int .i64) 3 w base (fun _ => True) v zs := ofOwnI h hn
set_option maxHeartbeats 1000000 in
theorem deleteI_any (p : Int → Bool) (g : Nat) (lb : Array Value) (eg : ∀ args w, (callFunc g args).run Tryz.prog w = .ok (.enter g args) w) (base : Nat) (v : Value) (zs : List Int) (w0 w : World)
    (hp : ∀ (W : World) (x : Int), Below base w0 W → Go.Proofs.FnGives Tryz.prog g lb #[.int .i64 x] (.bool (p x)) W) (h : Kd.R (Kd.int .i64) 3 w base (fun _ => True) v zs) (hb : Below base w0 w) (hbase : base ≤ w.heap.size) (hsm : zs.length < 100000) :
    Calls Tryz.prog 80 #[v, .func (.func g) #[] lb] w fun e w' => ∃ v', e = .returned v' ∧ Kd.R (Kd.int .i64) 3 w' base (fun _ => True) v' (zs.filter fun x => !p x) ∧ Below base w w' := by
  have hPA : Go.Proofs.PredAt Tryz.prog g lb (Value.int .i64) p w := fun W x hW => hp W x (hb.trans (hW.mono hbase))
  rcases Nat.eq_zero_or_pos zs.length with hz | hz
  · obtain rfl := List.eq_nil_of_length_eq_zero hz
    obtain ⟨A, c, rfl⟩ := Kd.R_slice h
    have hcall := indexFunc_int g lb eg p A c [] w (fun W x hW => (hPA W x hW).mono fun e w' ⟨he, q, hq⟩ => ⟨he, hq ▸ pw_below_drewN (Below.refl _ _) q⟩) (Kd.R_reads' h).2.2 (by simp)
    have HH := Aside0.mk h
    clear h hp hPA
    go_enter Tryz.func80, Tryz.ntmps80
    go_wp2_with fail
    refine hcall.mono ?_
    rintro e w' ⟨rfl, hb'⟩
    have HB' := Aside0.mk hb'
    clear hb' hcall
    go_wp2_with fail
    go_ret
    exact ⟨_, rfl, Kd.R_below HH.out HB'.out, HB'.out.mono hbase⟩
  · have hown := ownI h
    have hv : v ≠ .slice none 0 0 := by
      rintro rfl
      obtain ⟨g, cap, e, _⟩ := hown.form hz
      cases e
    obtain ⟨blk, cap, rfl, hb1, hg, hc, hm, _, hH⟩ := Lib.holds_of_ownsRow hown hv
    have hover : Go.Proofs.PredOver Tryz.prog g lb (Value.int .i64) p blk 0 zs.toArray.size w := fun n os dk x hdk => hp _ x (hb.trans (by
      refine ⟨rfl, rfl, rfl, ?_, fun k hk => ?_⟩
      · simp [sortWorld, grow, putRow, mapBlock, Sort.ahead]
      · unfold sortWorld
        rw [heap_grow_old _ _ (by simp [putRow, mapBlock, Sort.ahead]; omega)]
        simp [putRow, mapBlock, Sort.ahead, Array.getElem?_modify, show blk ≠ k by omega]))
    have hcall := Go.Proofs.AnyE.slices_DeleteFunc Tryz.laysSlH10_f80 (Value.int .i64) (fun _ => rfl) p g lb eg 0 (fun w => by kernel_rfl) blk 0 cap zs.toArray w hPA hover hH (by simp; omega) (by simpa using hc)
    refine Calls.mono (R := _) (show Calls Tryz.prog 80 #[.slice (some ⟨blk, 0, none⟩) zs.length cap, .func (.func g) #[] lb] w _ from hcall) ?_
    rintro e w' ⟨rfl, q, rfl⟩
    have hle := List.length_filter_le (fun x => !p x) zs
    have ho := Lib.ownsRow_putRow (q := q) (k := (zs.filter fun x => !p x).length) (ys := (zs.filter fun x => !p x) ++ List.replicate (zs.length - (zs.filter fun x => !p x).length) 0) hown (by simp; omega) hle
    rw [List.take_left] at ho
    refine ⟨_, rfl, ofOwnI ho rfl, ⟨rfl, rfl, rfl, by simp [putRow, mapBlock, Sort.ahead], fun k hk => ?_⟩⟩
    simp [putRow, mapBlock, Sort.ahead, Array.getElem?_modify, show blk ≠ k by omega]
end Go.Proofs.YtdjlfdbnmnjccaaGreat.St
end
section
set_option linter.unusedVariables false
set_option linter.unusedSimpArgs false
namespace Go.Proofs.YtdjlfdbnmnjccaaGreat.St
open Go.Sort hiding rd
open Go.RowKit Go.Shelf Go.Proofs.YtdjlfdbnmnjccaaGreatW.PrintWords Go.Proofs.YtdjlfdbnmnjccaaGreatW.PrintLast Go.Proofs.YtdjlfdbnmnjccaaGreatW.PrintMore
set_option maxHeartbeats 1000000 in
theorem indexI_any (A : Option Addr) (c : Nat) (zs : List Int) (x : Int) (w : World) (hr : Kd.C (Kd.int .i64) w A zs.length zs) (hsm : zs.length < 100000) :
    Calls Tryz.prog 115 #[.slice A zs.length c, .int .i64 x] w fun e w' => e = .returned (.int .i64 (idxOf (fun y => decide (x = y)) zs 0)) ∧ w' = w := by
  have HR := Aside0.mk hr
  clear hr
  have H0 := Aside0.mk (show idxOf (fun y => decide (x = y)) (zs.drop 0) ((0 : Nat) : Int) = idxOf (fun y => decide (x = y)) zs 0 from rfl)
  go_enter Tryz.func115, Tryz.ntmps115
  go_wp2
  go_loopg [5, 8] zs.length (fun gg _ s8 wr => ∃ kk : Nat, kk ≤ zs.length ∧ zs.length - kk ≤ gg ∧ s8 = .int .i64 kk ∧ Aside0 (wr = w) ∧ Aside0 (idxOf (fun y => decide (x = y)) (zs.drop kk) (kk : Int) = idxOf (fun y => decide (x = y)) zs 0))
  case atStart => exact ⟨0, Nat.zero_le _, by omega, rfl, ⟨rfl⟩, H0⟩
  case round =>
    clear H0
    obtain ⟨kk, hkk, hg, rfl, BW, HI⟩ := hrel
    obtain rfl := BW.out
    by_cases hlt : kk < zs.length
    · have hltz : (kk : Int) < (zs.length : Int) := by omega
      obtain ⟨ad, rfl, hc⟩ := Kd.at_int HR.out (kk : Int) (by omega) (by omega)
      rw [Int.toNat_natCast] at hc
      have hstep := idxOf_drop (fun y => decide (x = y)) zs 0 kk hlt
      have e0 : zs.getD kk 0 = rd zs kk := by unfold rd; simp
      rw [e0] at hstep
      obtain ⟨y, hy⟩ : ∃ y, rd zs (kk : Int) = y := ⟨_, rfl⟩
      rw [hy] at hstep hc
      have HI2 := HI.out
      rw [hstep] at HI2
      clear hstep HI e0 hy
      by_cases hq : x = y
      · subst hq
        have HI3 := Aside0.mk (show (kk : Int) = idxOf (fun y => decide (x = y)) zs 0 from by simpa using HI2)
        clear HI2
        go_wp2
        go_ret
        exact ⟨ret_int HI3.out, rfl⟩
      · have hqb : (x == y) = false := beq_eq_false_iff_ne.2 hq
        have HI3 := Aside0.mk (show idxOf (fun y => decide (x = y)) (zs.drop (kk + 1)) ((kk + 1 : Nat) : Int) = idxOf (fun y => decide (x = y)) zs 0 from by simpa [hq] using HI2)
        clear HI2
        go_wp2
        go_roundg (zs.length - (kk + 1))
        case measure => omega
        case rel => exact ⟨kk + 1, by omega, by omega, by go_num, ⟨rfl⟩, HI3⟩
    · have hltz : ¬ (kk : Int) < (zs.length : Int) := by omega
      obtain rfl : kk = zs.length := by omega
      have HI2 := HI.out
      rw [List.drop_length] at HI2
      have HI3 := Aside0.mk HI2
      clear HI HI2
      go_wp2
      go_ret
      exact ⟨ret_int HI3.out, rfl⟩
theorem containsI_any (A : Option Addr) (c : Nat) (zs : List Int) (x : Int) (w : World) (hr : Kd.C (Kd.int .i64) w A zs.length zs) (hsm : zs.length < 100000) :
    Calls Tryz.prog 82 #[.slice A zs.length c, .int .i64 x] w fun e w' => e = .returned (.bool (zs.any fun y => decide (x = y))) ∧ w' = w := by
  have hcall := indexI_any A c zs x w hr hsm
  have HI := Aside0.mk (idxOf_nonneg (fun y => decide (x = y)) zs 0 (Int.le_refl 0))
  clear hr
  obtain ⟨ix, hix⟩ : ∃ ix, idxOf (fun y => decide (x = y)) zs 0 = ix := ⟨_, rfl⟩
  rw [hix] at hcall HI
  clear hix
  go_enter Tryz.func82, Tryz.ntmps82
  go_wp2_with fail
  refine hcall.mono ?_
  rintro e w' ⟨rfl, rfl⟩
  go_wp2_with fail
  go_ret
  exact ⟨ret_bool HI.out, rfl⟩
theorem pred_wrong (B : Nat) (A : Option Addr) (c : Nat) (zs : List Int) (n₀ : Nat) (w0 : World) (hr : Kd.C (Kd.int .i64) w0 A zs.length zs) (hsm : zs.length < 100000) (hn₀ : w0.heap.size ≤ n₀) (hc : w0.cell? ⟨B, 0, none⟩ = some (.slice A zs.length c)) (W : World) (x : Int) (hb : Below n₀ w0 W) :
    Go.Proofs.FnGives Tryz.prog 81 #[.pointer (some ⟨B, 0, none⟩)] #[.int .i64 x] (.bool (zs.any fun y => decide (x = y))) W := by
  show Calls Tryz.prog 81 #[.int .i64 x, .pointer (some ⟨B, 0, none⟩)] W _
  have hb' : Below w0.heap.size w0 W := hb.mono hn₀
  have hcW := (hb'.cell (World.block_lt_of_cell? w0 _ hc)).trans hc
  have hlt := Nat.lt_of_lt_of_le (World.block_lt_of_cell? w0 _ hc) hb'.size
  have hcall := containsI_any A c zs x W (Kd.C_below hr hb') hsm
  obtain ⟨b, hb2⟩ : ∃ b, (zs.any fun y => decide (x = y)) = b := ⟨_, rfl⟩
  rw [hb2] at hcall ⊢
  clear hr hb hb' hc hb2
  go_enter Tryz.func81, Tryz.ntmps81
  go_wp2_with fail
  refine hcall.mono ?_
  rintro e w' ⟨rfl, rfl⟩
  go_wp2_with fail
  go_ret
  exact ⟨rfl, 0, rfl⟩
theorem clip_any (A : Option Addr) (n c : Nat) (w : World) (h : n ≤ c) (hn : n < 100000) :
    Calls Tryz.prog 79 #[.slice A n c] w fun e w' => e = .returned (.slice A n n) ∧ w' = w := by
  have hu := Tryz.underlying23
  go_enter Tryz.func79, Tryz.ntmps79
  go_wp2
  go_ret
  exact ⟨rfl, rfl⟩
end Go.Proofs.YtdjlfdbnmnjccaaGreat.St
end
section
set_option linter.unusedVariables false
set_option linter.unusedSimpArgs false
namespace Go.Proofs.YtdjlfdbnmnjccaaGreat.St
open Go.Sort hiding rd
open Go.RowKit Go.Shelf Go.Proofs.YtdjlfdbnmnjccaaGreatW.PrintWords Go.Proofs.YtdjlfdbnmnjccaaGreatW.PrintLast Go.Proofs.YtdjlfdbnmnjccaaGreatW.PrintMore
theorem cells_row {W : World} {ad : Addr} {zs : List S60} (h : Kd.C k60 W (some ad) zs.length zs) : ∀ (j : Nat) (u : Value), (rowC zs)[j]? = some u → W.cell? (ad.add j) = some u := by
  intro j u hj
  have hl : j < (rowC zs).length := (List.getElem?_eq_some_iff.1 hj).1
  rw [rowC_len] at hl
  have h3 : j / 3 < zs.length := by omega
  obtain ⟨ad2, c, e, _, hK, hc0⟩ := Kd.C_get h z60 ((j / 3 : Nat) : Int) (by omega) (by omega)
  cases e
  have hc : ∀ j' u, c[j']? = some u → W.cell? (ad.add (((j / 3 : Nat) : Int).toNat * 3 + j')) = some u := hc0
  rw [Int.toNat_natCast] at hc
  have hg := rowC_get zs (j / 3) (j % 3) h3 (by omega)
  rw [show j / 3 * 3 + j % 3 = j by omega] at hg
  rw [hg] at hj
  have hce := k60_open hK
  have e2 : zs.getD ((j / 3 : Nat) : Int).toNat z60 = zs[j / 3] := by rw [Int.toNat_natCast, List.getD_eq_getElem?_getD, List.getElem?_eq_getElem h3, Option.getD_some]
  rw [e2] at hce
  have := hc (j % 3) u (by rw [hce]; exact hj)
  rwa [show j / 3 * 3 + j % 3 = j by omega] at this
theorem step_append_run {P : Program} {ops : Array Oper} {o : Oper} {a : Act} {w : World} {K : Act → World → Prop} {Q : Exit → Act → World → Prop} {E : Prop}
    (hg : o.guard = none) (s x : Operand) (t : TypeId) (hop : o.op = Op.call { callee := Callee.builtin Builtin.append, args := #[s, x], argTypes := #[t, t] })
    (v xv : Value) (hs : a.eval s = v) (hx : a.eval x = xv) (v' : Value) (w' : World) (hrun : (Builtin.append_ #[t, t] o.type #[v, xv]).run P w = .ok v' w') (hK : K (a.put o.dst v') w') :
    if Region.wanted o (yielded ops a.tmps) = true then Oper.wp P o a w K Q else E := by
  have hw : Region.wanted o (yielded ops a.tmps) = true := by simp [Region.wanted, hg]
  rw [if_pos hw]
  unfold Oper.wp
  simp [execOp, hop, resolve, invoke, builtin, hs, hx, hrun, Result.andThen]
  exact hK
theorem appendC_run (A : Option Addr) (zs : List S60) (x : S60) (W : World) (hr : Kd.C k60 W A zs.length zs) (hsm : zs.length < 1000) (b : Addr)
    (hnews : ∀ j u, (cellsC x)[j]? = some u → W.cell? (b.add j) = some u) :
    ∃ v' w', (Builtin.append_ #[23, 23] 23 #[.slice A zs.length zs.length, .slice (some b) 1 1]).run Tryz.prog W = .ok v' w' ∧
      Kd.R k60 60 w' W.heap.size (fun _ => True) v' (zs ++ [x]) ∧ Below W.heap.size W w' := by
  obtain ⟨i0, hi, hz0, hz1, hz2⟩ := info_parts info60
  have hfin : ∀ v' w', w'.ownsRow W.heap.size 60 3 v' (zs.length + 1) (rowC zs ++ cellsC x) → Kd.R k60 60 w' W.heap.size (fun _ => True) v' (zs ++ [x]) := fun v' w' h => by
    refine ownC_R ?_
    rw [rowC_snoc, List.length_append]
    exact h
  have hgb : ∀ w' (o : Option Nat), o = none → W.grownBy w' o → Below W.heap.size W w' := fun w' o ho hg => by subst ho; exact (Below.refl _ W).grown hg (Nat.le_refl _) (fun j hj => by cases hj)
  cases zs with
  | nil =>
    cases A with
    | none =>
      obtain ⟨v', w', hrun, hown, hg, _, _⟩ := run_append_own_at (P := Tryz.prog) W W.heap.size 23 23 60 i0 _ 3 32 Tryz.underlying23 hi hz0 hz1 hz2 rfl (by decide) (.slice none 0 0) 0 [] (World.ownsRow_nil _ _ _ _) b 1 1 (cellsC x) rfl hnews (cellsC_one x) (by unfold maxLen; omega) (by omega) (Nat.le_refl _)
      exact ⟨v', w', hrun, hfin v' w' hown, hgb w' _ rfl hg⟩
    | some ad =>
      obtain ⟨v', w', hrun, hown, hg⟩ := run_append_arg_grows (P := Tryz.prog) (w := W) 23 23 60 i0 _ 3 32 Tryz.underlying23 hi hz0 hz1 hz2 rfl (by decide) ad 0 0 [] rfl (by simp) b 1 1 (cellsC x) rfl hnews (by omega) (by unfold maxLen; omega) (by omega)
      exact ⟨v', w', hrun, hfin v' w' hown, hgb w' _ rfl hg⟩
  | cons z zs =>
    obtain ⟨ad, rfl, _⟩ := at_T60 hr 0 (Int.le_refl 0) (by simp)
    obtain ⟨v', w', hrun, hown, hg⟩ := run_append_arg_grows (P := Tryz.prog) (w := W) 23 23 60 i0 _ 3 32 Tryz.underlying23 hi hz0 hz1 hz2 rfl (by decide) ad (z :: zs).length (z :: zs).length (rowC (z :: zs)) (rowC_len _) (cells_row hr) b 1 1 (cellsC x) rfl hnews (by omega) (by unfold maxLen; omega) (by omega)
    exact ⟨v', w', hrun, hfin v' w' hown, hgb w' _ rfl hg⟩
end Go.Proofs.YtdjlfdbnmnjccaaGreat.St
end
section
set_option linter.unusedVariables false
set_option linter.unusedSimpArgs false
namespace Go.Proofs.YtdjlfdbnmnjccaaGreat.St
open Go.Sort hiding rd
open Go.RowKit Go.Shelf Go.Proofs.YtdjlfdbnmnjccaaGreatW.PrintWords Go.Proofs.YtdjlfdbnmnjccaaGreatW.PrintLast Go.Proofs.YtdjlfdbnmnjccaaGreatW.PrintMore
def changedR (first : List ByteArray) (changes : List S60) (l : List S62) (c : S60) : List Int × Int :=
  if openE first changes ≠ 0 then ([], openE first changes)
  else if (mustR first.length (pagesOf first changes) l).2.2 ≠ 0 then ([], (mustR first.length (pagesOf first changes) l).2.2)
  else if 8 ≤ changes.length then ([], 8)
  else if isChangeB c first.length = false then ([], 2)
  else if openE first (changes ++ [c]) ≠ 0 then ([], openE first (changes ++ [c]))
  else ((mustR first.length (pagesOf first (changes ++ [c])) l).2.1.filter (fun i => !((mustR first.length (pagesOf first changes) l).2.1.any fun j => decide (i = j))), 0)
theorem mustR_small (n : Int) (ps : List S167) (l : List S62) : (mustR n ps l).2.1.length < 100 := by
  unfold mustR
  split
  · simp
  · split
    · simp
    · have := wrongTo_len ps l l.length
      show (wrongTo ps l l.length).length < 100
      omega
set_option maxHeartbeats 8000000 in
set_option maxRecDepth 100000 in
theorem changed_any (A0 : Option Addr) (c0 : Nat) (first : List ByteArray) (A1 : Option Addr) (c1 : Nat) (changes : List S60) (Al : Option Addr) (cl : Nat) (l : List S62) (c : S60) (w : World)
    (hr0 : Kd.C Kd.string w A0 first.length first) (hc0 : first.length ≤ c0) (hr1 : Kd.C k60 w A1 changes.length changes) (hc1 : changes.length ≤ c1) (hrl : Kd.C k62 w Al l.length l) :
    Calls Tryz.prog 32 #[.agg #[.slice A0 first.length c0, .slice A1 changes.length c1], .slice Al l.length cl, .agg #[.int .i64 c.f0, .int .i64 c.f1, .string c.f2]] w fun e w' =>
      ∃ v0 : Value, e = .returned (.tuple #[v0, .int .i64 (changedR first changes l c).2]) ∧ Kd.R (Kd.int .i64) 3 w' w.heap.size (fun _ => True) v0 (changedR first changes l c).1 ∧ Below w.heap.size w w' := by
  have HOP := Aside0.mk (fun (W : World) (hb : Below w.heap.size w W) => open_any A0 c0 first A1 c1 changes W (Kd.C_below hr0 hb) hc0 (Kd.C_below hr1 hb) hc1)
  have HR0 := Aside0.mk hr0
  have HR1 := Aside0.mk hr1
  have HRL := Aside0.mk hrl
  have eg := Aside0.mk (enters_of Tryz.func81 (by kernel_rfl) rfl)
  clear hr0 hr1 hrl
  go_enter Tryz.func32, Tryz.ntmps32
  go_wp2_with fail
  obtain ⟨W1, hW1⟩ : ∃ W1, (w.alloc (.cells #[.slice A0 first.length c0, .slice A1 changes.length c1] 25)).alloc (.cells #[.int .i64 c.f0, .int .i64 c.f1, .string c.f2] 60) = W1 := ⟨_, rfl⟩
  have hb1 : Below w.heap.size w W1 := by rw [← hW1]; exact below_alloc (below_alloc (Below.refl _ _) _) _
  have hbt : W1.heap[w.heap.size]? = some (.cells #[.slice A0 first.length c0, .slice A1 changes.length c1] 25 (0, 0)) := by rw [← hW1]; exact blk_alloc (blk_new w _) _
  have hbc : W1.heap[w.heap.size + 1]? = some (.cells #[.int .i64 c.f0, .int .i64 c.f1, .string c.f2] 60 (0, 0)) := by
    rw [← hW1]
    have := blk_new (w.alloc (.cells #[.slice A0 first.length c0, .slice A1 changes.length c1] 25)) (.cells #[.int .i64 c.f0, .int .i64 c.f1, .string c.f2] 60)
    rwa [World.size_alloc] at this
  rw [hW1]
  clear hW1
  refine (HOP.out W1 hb1).mono ?_
  rintro e w2 ⟨B0, n0, d0, B1, n1, d1, Bp, np, dp, rfl, hop, hb⟩
  obtain ⟨oe, hoe⟩ : ∃ oe, openE first changes = oe := ⟨_, rfl⟩
  rw [hoe]
  have HB2 := Aside0.mk (below_from hb1 hb)
  have BT2 := Aside0.mk (blk_below hbt hb)
  have BC2 := Aside0.mk (blk_below hbc hb)
  have HS := Aside0.mk hb1.size
  clear hb hb1 hbt hbc HOP
  by_cases h0 : oe = 0
  · subst h0
    obtain ⟨e0, e1, hp⟩ := hop hoe
    rw [e0, e1]
    clear e0 e1 hop
    have HP2 := Aside0.mk (Kd.R_lower hp HS.out)
    have HOE := Aside0.mk hoe
    obtain ⟨hf1, hf2, _⟩ := check_ok (open_zero hoe).1
    clear hp hoe HS
    obtain ⟨Aq, cq, hsl⟩ := Kd.R_slice HP2.out
    cases hsl
    obtain ⟨W3, hW3⟩ : ∃ W3, w2.alloc (.cells #[.slice A0 first.length c0, .slice A1 changes.length c1, .slice Bp (bookOf first changes).1.length dp] 124) = W3 := ⟨_, rfl⟩
    have HB3 := Aside0.mk (show Below w.heap.size w W3 from by rw [← hW3]; exact below_alloc HB2.out _)
    have BT3 := Aside0.mk (show W3.heap[w.heap.size]? = some (.cells #[.slice A0 first.length c0, .slice A1 changes.length c1] 25 (0, 0)) from by rw [← hW3]; exact blk_alloc BT2.out _)
    have BC3 := Aside0.mk (show W3.heap[w.heap.size + 1]? = some (.cells #[.int .i64 c.f0, .int .i64 c.f1, .string c.f2] 60 (0, 0)) from by rw [← hW3]; exact blk_alloc BC2.out _)
    have BB3 := Aside0.mk (show W3.heap[w2.heap.size]? = some (.cells #[.slice A0 first.length c0, .slice A1 changes.length c1, .slice Bp (bookOf first changes).1.length dp] 124 (0, 0)) from by rw [← hW3]; exact blk_new w2 _)
    have HP3 := Aside0.mk (show Kd.R k167 167 W3 w.heap.size (fun _ => True) (.slice Bp (bookOf first changes).1.length dp) (bookOf first changes).1 from by rw [← hW3]; exact Kd.R_alloc HP2.out _)
    have HMU := Aside0.mk (must_any A0 first.length c0 (.slice A1 changes.length c1) Bp dp (pagesOf first changes) Al cl l W3 ⟨_, _, _, rfl⟩ (Kd.R_reads' HP3.out).2.2 (pages_ok HOE.out) hf2 (Kd.C_below HRL.out HB3.out))
    clear HB2 HP2 BT2 BC2
    obtain ⟨⟨z0, z1, z2⟩, _, zl⟩ := blk3 BB3.out
    obtain ⟨m, hm⟩ : ∃ m, mustR first.length (pagesOf first changes) l = m := ⟨_, rfl⟩
    have HMM := Aside0.mk hm
    have HMS := Aside0.mk (show m.2.1.length < 100 from by rw [← hm]; exact mustR_small _ _ _)
    rw [hm] at HMU
    clear hm
    obtain ⟨m1, m2, m3⟩ := m
    dsimp only at HMU HMS
    go_wp2_with fail
    clear hW3
    refine HMU.out.mono ?_
    rintro e w4 ⟨v0, v1, rfl, hv0, hv1, hb⟩
    obtain ⟨Aw, cw, rfl⟩ := Kd.R_slice hv1
    obtain ⟨W5, hW5⟩ : ∃ W5, w4.alloc (.cells #[.slice Aw m2.length cw] 31) = W5 := ⟨_, rfl⟩
    have HB5 := Aside0.mk (show Below w.heap.size w W5 from by rw [← hW5]; exact below_alloc (below_from HB3.out hb) _)
    have BT5 := Aside0.mk (show W5.heap[w.heap.size]? = some (.cells #[.slice A0 first.length c0, .slice A1 changes.length c1] 25 (0, 0)) from by rw [← hW5]; exact blk_alloc (blk_below BT3.out hb) _)
    have BC5 := Aside0.mk (show W5.heap[w.heap.size + 1]? = some (.cells #[.int .i64 c.f0, .int .i64 c.f1, .string c.f2] 60 (0, 0)) from by rw [← hW5]; exact blk_alloc (blk_below BC3.out hb) _)
    have BW5 := Aside0.mk (show W5.heap[w4.heap.size]? = some (.cells #[.slice Aw m2.length cw] 31 (0, 0)) from by rw [← hW5]; exact blk_new w4 _)
    have HW5 := Aside0.mk (show Kd.R (Kd.int .i64) 3 W5 w.heap.size (fun _ => True) (.slice Aw m2.length cw) m2 from by rw [← hW5]; exact Kd.R_alloc (Kd.R_mono (Kd.R_lower hv1 HB3.out.size) (ok' := fun _ => True) (fun _ _ => trivial)) _)
    clear hv0 hv1 hb z0 z1 z2 zl HMU HB3 BT3 BC3 BB3 HP3
    obtain ⟨t0, t1, t2⟩ := blk2 BT5.out
    obtain ⟨⟨y0, y1, y2⟩, _, yl⟩ := blk3 BC5.out
    by_cases hm3 : m3 = 0
    · subst hm3
      by_cases h8 : 8 ≤ changes.length
      · have h8z : (8 : Int) ≤ (changes.length : Int) := by omega
        have HN := Aside0.mk (show changedR first changes l c = ([], 8) from by unfold changedR; rw [if_neg (by rw [HOE.out]; simp), HMM.out, if_neg (by simp), if_pos h8])
        clear h8
        go_wp2_with fail
        rw [HN.out]
        refine bodyPost_ret (v := .tuple #[.slice none 0 0, .int .i64 8]) (by simp [results, Tryz.results32, go_sem]) rfl ?_
        exact ⟨_, rfl, Kd.R_nil _ _ _ _ _, HB5.out⟩
      · have h8z : ¬ (8 : Int) ≤ (changes.length : Int) := by omega
        have hl8 : changes.length < 8 := by omega
        have HCH := Aside0.mk (isChange_any c first.length (by omega) W5)
        obtain ⟨b, hbb⟩ : ∃ b, isChangeB c first.length = b := ⟨_, rfl⟩
        rw [hbb] at HCH
        go_wp2_with fail
        clear hW5
        refine HCH.out.mono ?_
        rintro e w6 ⟨rfl, hb⟩
        have HB6 := Aside0.mk (below_from HB5.out hb)
        have BT6 := Aside0.mk (blk_below BT5.out hb)
        have BC6 := Aside0.mk (blk_below BC5.out hb)
        have BW6 := Aside0.mk (blk_below BW5.out hb)
        have HW6 := Aside0.mk (Kd.R_below HW5.out hb)
        clear hb t0 t1 t2 y0 y1 y2 yl HCH HB5 BT5 BC5 BW5 HW5
        cases b with
        | false =>
          have HN := Aside0.mk (show changedR first changes l c = ([], 2) from by unfold changedR; rw [if_neg (by rw [HOE.out]; simp), HMM.out, if_neg (by simp), if_neg h8, if_pos hbb])
          clear hbb
          go_wp2_with fail
          rw [HN.out]
          refine bodyPost_ret (v := .tuple #[.slice none 0 0, .int .i64 2]) (by simp [results, Tryz.results32, go_sem]) rfl ?_
          exact ⟨_, rfl, Kd.R_nil _ _ _ _ _, HB6.out⟩
        | true =>
          have HN := Aside0.mk (show changedR first changes l c = if openE first (changes ++ [c]) ≠ 0 then ([], openE first (changes ++ [c])) else ((mustR first.length (pagesOf first (changes ++ [c])) l).2.1.filter (fun i => !(m2.any fun j => decide (i = j))), 0) from by
            unfold changedR; rw [if_neg (by rw [HOE.out]; simp), HMM.out, if_neg (by simp), if_neg h8, if_neg (by rw [hbb]; simp)])
          clear hbb h8
          obtain ⟨t0, t1, t2⟩ := blk2 BT6.out
          obtain ⟨⟨y0, y1, y2⟩, _, yl⟩ := blk3 BC6.out
          go_wp2_with fail
          have hn7 : ∀ j u, (cellsC c)[j]? = some u → (w6.drew.alloc (.cells #[.int .i64 c.f0, .int .i64 c.f1, .string c.f2] 60)).cell? ((⟨w6.heap.size, 0, none⟩ : Addr).add j) = some u := by
            intro j u hj
            have hbk := blk_new w6.drew (.cells #[.int .i64 c.f0, .int .i64 c.f1, .string c.f2] 60)
            have hb8 := blk3 hbk
            have hj3 : j < 3 := (List.getElem?_eq_some_iff.1 hj).1
            have hjc : j = 0 ∨ j = 1 ∨ j = 2 := by omega
            rcases hjc with rfl | rfl | rfl <;> simp [cellsC] at hj <;> subst hj
            · exact hb8.1.1
            · exact hb8.1.2.1
            · exact hb8.1.2.2
          obtain ⟨v7, w7, hrun, hR7, hb7⟩ := appendC_run A1 changes c (w6.drew.alloc (.cells #[.int .i64 c.f0, .int .i64 c.f1, .string c.f2] 60)) (Kd.C_alloc (Kd.C_drew (Kd.C_below HR1.out HB6.out)) _) (by omega) ⟨w6.heap.size, 0, none⟩ hn7
          have HB7 := Aside0.mk (show Below w.heap.size w w7 from below_from (below_alloc (below_drew HB6.out) _) hb7)
          have BT7 := Aside0.mk (blk_below (blk_alloc (blk_drew BT6.out) _) hb7)
          have BW7 := Aside0.mk (blk_below (blk_alloc (blk_drew BW6.out) _) hb7)
          have HW7 := Aside0.mk (Kd.R_below (Kd.R_alloc (Kd.R_drew HW6.out) _) hb7)
          have HR7 := Aside0.mk (Kd.R_lower hR7 (below_alloc (below_drew HB6.out) (.cells #[.int .i64 c.f0, .int .i64 c.f1, .string c.f2] 60)).size)
          obtain ⟨ch2, hch2⟩ : ∃ ch2, changes ++ [c] = ch2 := ⟨_, rfl⟩
          rw [hch2] at HN HR7
          clear hR7 hb7 hn7 hch2
          obtain ⟨A7, c7, rfl⟩ := Kd.R_slice HR7.out
          obtain ⟨s0, s1, s2⟩ := blk2 BT7.out
          have sf0 := blk_frozen BT7.out 0
          have sf1 := blk_frozen BT7.out 1
          have HRUN := Aside0.mk hrun
          clear hrun
          go_region_law (first | (refine step_append_run rfl (.tmp 49) (.tmp 51) 23 rfl (.slice A1 changes.length changes.length) (.slice (some ⟨w6.heap.size, 0, none⟩) 1 1) ?sa ?sb _ _ HRUN.out ?_; (case sa => rfl); (case sb => rfl)) | (go_simp; go_at_call 79; refine (clip_any A1 changes.length c1 _ hc1 (by omega)).mono ?_; rintro e w' ⟨rfl, rfl⟩))
          all_goals
            obtain ⟨W8, hW8⟩ : ∃ W8, w7.setCell ⟨w.heap.size, 1, none⟩ (.slice A7 ch2.length c7) = W8 := ⟨_, rfl⟩
            have HB8 := Aside0.mk (show Below w.heap.size w W8 from by rw [← hW8]; exact HB7.out.setCell (p := ⟨w.heap.size, 1, none⟩) (Nat.le_refl _) _)
            have BT8 := Aside0.mk (show W8.heap[w.heap.size]? = some (.cells #[.slice A0 first.length c0, .slice A7 ch2.length c7] 25 (0, 0)) from by rw [← hW8]; exact blk_put BT7.out 1 _ rfl)
            have BW8 := Aside0.mk (show W8.heap[w4.heap.size]? = some (.cells #[.slice Aw m2.length cw] 31 (0, 0)) from by rw [← hW8]; exact blk_far BW7.out (p := ⟨w.heap.size, 1, none⟩) (blk_ne BW7.out BT7.out (by decide)) _)
            have HW8 := Aside0.mk (show Kd.R (Kd.int .i64) 3 W8 w.heap.size (fun _ => True) (.slice Aw m2.length cw) m2 from by rw [← hW8]; exact Kd.R_set HW7.out BT7.out (by decide) 1 _)
            have HR8 := Aside0.mk (show Kd.R k60 60 W8 w.heap.size (fun _ => True) (.slice A7 ch2.length c7) ch2 from by rw [← hW8]; exact Kd.R_set HR7.out BT7.out (by decide) 1 _)
            have HOP := Aside0.mk (open_any A0 c0 first A7 c7 ch2 W8 (Kd.C_below HR0.out HB8.out) hc0 (Kd.R_reads' HR8.out).2.2 (Kd.R_reads' HR8.out).2.1)
            clear HB7 BT7 BW7 HW7 HR7 s0 s1 s2 sf0 sf1 t0 t1 t2 y0 y1 y2 yl HRUN BT6 BC6 BW6 HW6 HB6
            obtain ⟨t0, t1, t2⟩ := blk2 BT8.out
            go_wp2_with fail
            clear hW8
            refine HOP.out.mono ?_
            rintro e w9 ⟨B0, n0, d0, B1, n1, d1, Bq, nq, dq, rfl, hop, hb⟩
            obtain ⟨oe, hoe⟩ : ∃ oe, openE first ch2 = oe := ⟨_, rfl⟩
            rw [hoe]
            have HB9 := Aside0.mk (below_from HB8.out hb)
            have BW9 := Aside0.mk (blk_below BW8.out hb)
            have HW9 := Aside0.mk (Kd.R_below HW8.out hb)
            have HS := Aside0.mk HB8.out.size
            clear hb HOP HB8 BT8 BW8 HW8 HR8 t0 t1 t2
            by_cases h0 : oe = 0
            · subst h0
              obtain ⟨e0, e1, hp⟩ := hop hoe
              rw [e0, e1]
              clear e0 e1 hop
              have HP9 := Aside0.mk (Kd.R_lower hp HS.out)
              have HOE2 := Aside0.mk hoe
              clear hp hoe HS
              obtain ⟨Ar, cr, hsl⟩ := Kd.R_slice HP9.out
              cases hsl
              obtain ⟨W10, hW10⟩ : ∃ W10, w9.alloc (.cells #[.slice A0 first.length c0, .slice A7 ch2.length c7, .slice Bq (bookOf first ch2).1.length dq] 124) = W10 := ⟨_, rfl⟩
              have HB10 := Aside0.mk (show Below w.heap.size w W10 from by rw [← hW10]; exact below_alloc HB9.out _)
              have BW10 := Aside0.mk (show W10.heap[w4.heap.size]? = some (.cells #[.slice Aw m2.length cw] 31 (0, 0)) from by rw [← hW10]; exact blk_alloc BW9.out _)
              have HW10 := Aside0.mk (show Kd.R (Kd.int .i64) 3 W10 w.heap.size (fun _ => True) (.slice Aw m2.length cw) m2 from by rw [← hW10]; exact Kd.R_alloc HW9.out _)
              have BB10 := Aside0.mk (show W10.heap[w9.heap.size]? = some (.cells #[.slice A0 first.length c0, .slice A7 ch2.length c7, .slice Bq (bookOf first ch2).1.length dq] 124 (0, 0)) from by rw [← hW10]; exact blk_new w9 _)
              have HP10 := Aside0.mk (show Kd.R k167 167 W10 w.heap.size (fun _ => True) (.slice Bq (bookOf first ch2).1.length dq) (bookOf first ch2).1 from by rw [← hW10]; exact Kd.R_alloc HP9.out _)
              have HMU := Aside0.mk (must_any A0 first.length c0 (.slice A7 ch2.length c7) Bq dq (pagesOf first ch2) Al cl l W10 ⟨_, _, _, rfl⟩ (Kd.R_reads' HP10.out).2.2 (pages_ok HOE2.out) hf2 (Kd.C_below HRL.out HB10.out))
              clear HB9 HP9 BW9 HW9
              obtain ⟨⟨z0, z1, z2⟩, _, zl⟩ := blk3 BB10.out
              have HNN := Aside0.mk (HN.out.trans (if_neg (by rw [HOE2.out]; simp)))
              have HMS2 := Aside0.mk (mustR_small first.length (pagesOf first ch2) l)
              obtain ⟨m', hm'⟩ : ∃ m', mustR first.length (pagesOf first ch2) l = m' := ⟨_, rfl⟩
              rw [hm'] at HMU HNN HMS2
              clear hm' HN
              obtain ⟨p1, p2, p3⟩ := m'
              dsimp only at HMU HNN HMS2
              go_wp2_with fail
              clear hW10
              refine HMU.out.mono ?_
              rintro e w11 ⟨v0', v1', rfl, hv0', hv1', hb⟩
              have HB11 := Aside0.mk hb
              have HV11 := Aside0.mk (Kd.R_mono hv1' (ok' := fun _ => True) (fun _ _ => trivial))
              clear hv0' hv1' hb z0 z1 z2 zl HMU BB10 HP10
              have bwc := (blk_cell BW10.out 0).trans rfl
              have HDE := Aside0.mk (deleteI_any (fun i => m2.any fun j => decide (i = j)) 81 #[.pointer (some ⟨w4.heap.size, 0, none⟩)] eg.out W10.heap.size v1' p2 W10 w11 (fun W x hbW => pred_wrong w4.heap.size Aw cw m2 W10.heap.size W10 (Kd.R_reads' HW10.out).2.2 (by have := HMS.out; omega) (Nat.le_refl _) bwc W x hbW) HV11.out HB11.out HB11.out.size (by have := HMS2.out; omega))
              clear bwc
              go_wp2_with fail
              refine HDE.out.mono ?_
              rintro e w12 ⟨v', rfl, hv', hb⟩
              have HB12 := Aside0.mk (below_weaken HB10.out HB10.out.size (HB11.out.trans hb))
              have HV12 := Aside0.mk (Kd.R_lower hv' HB10.out.size)
              clear hv' hb HDE HV11 HB11 HB10 HW10 BW10
              go_wp2_with fail
              rw [HNN.out]
              refine bodyPost_ret (v := .tuple #[v', .int .i64 0]) (by simp [results, Tryz.results32, go_sem]) rfl ?_
              exact ⟨_, rfl, HV12.out, HB12.out⟩
            · have h0' : (oe != 0) = true := by simp [h0]
              have HNN := Aside0.mk (HN.out.trans (if_pos (by rw [hoe]; exact h0)))
              rw [hoe] at HNN
              clear h0 hop hoe
              go_wp2_with fail
              rw [HNN.out]
              refine bodyPost_ret (v := .tuple #[.slice none 0 0, .int .i64 oe]) (by simp [results, Tryz.results32, go_sem]) rfl ?_
              exact ⟨_, rfl, Kd.R_nil _ _ _ _ _, below_alloc HB9.out _⟩
    · have h3' : (m3 != 0) = true := by simp [hm3]
      have HN := Aside0.mk (show changedR first changes l c = ([], m3) from by unfold changedR; rw [if_neg (by rw [HOE.out]; simp), HMM.out, if_pos hm3])
      clear hm3
      go_wp2_with fail
      rw [HN.out]
      refine bodyPost_ret (v := .tuple #[.slice none 0 0, .int .i64 m3]) (by simp [results, Tryz.results32, go_sem]) rfl ?_
      exact ⟨_, rfl, Kd.R_nil _ _ _ _ _, HB5.out⟩
  · have h0' : (oe != 0) = true := by simp [h0]
    have HN := Aside0.mk (show changedR first changes l c = ([], oe) from by unfold changedR; rw [if_pos (by rw [hoe]; exact h0), hoe])
    clear h0 hop hoe
    go_wp2_with fail
    rw [HN.out]
    refine bodyPost_ret (v := .tuple #[.slice none 0 0, .int .i64 oe]) (by simp [results, Tryz.results32, go_sem]) rfl ?_
    exact ⟨_, rfl, Kd.R_nil _ _ _ _ _, below_alloc HB2.out _⟩
def street_Changed.f (l0_0 : List ByteArray) (l0_1 : List S60) (l1 : List S62) (a2_0 a2_1 : Int) (a2_2 : ByteArray) : Option (List Int × Int) := some (changedR l0_0 l0_1 l1 ⟨a2_0, a2_1, a2_2⟩)
theorem street_Changed.calls (A0_0 : Option Addr) (c0_0 : Nat) (l0_0 : List ByteArray) (A0_1 : Option Addr) (c0_1 : Nat) (l0_1 : List S60) (A1 : Option Addr) (c1 : Nat) (l1 : List S62) (a2_0 a2_1 : Int) (a2_2 : ByteArray) (r_0 : List Int) (r_1 : Int) (w : World) (hr0_0 : Kd.C Kd.string w A0_0 l0_0.length l0_0) (hc0_0 : l0_0.length ≤ c0_0) (hr0_1 : Kd.C k60 w A0_1 l0_1.length l0_1) (hc0_1 : l0_1.length ≤ c0_1) (hr1 : Kd.C k62 w A1 l1.length l1) (hc1 : l1.length ≤ c1) (h : street_Changed.f l0_0 l0_1 l1 a2_0 a2_1 a2_2 = some (r_0, r_1)) :
    Calls Tryz.prog 32 #[.agg #[.slice A0_0 l0_0.length c0_0, .slice A0_1 l0_1.length c0_1], .slice A1 l1.length c1, .agg #[.int .i64 a2_0, .int .i64 a2_1, .string a2_2]] w fun e w' => ∃ v0_ : Value, e = .returned (.tuple #[v0_, .int .i64 r_1]) ∧ Kd.R (Kd.int .i64) 3 w' w.heap.size (fun _ => True) v0_ r_0 ∧ Below w.heap.size w w' := by
  have e := Option.some.inj h
  have h0 : (changedR l0_0 l0_1 l1 ⟨a2_0, a2_1, a2_2⟩).1 = r_0 := by rw [e]
  have h1 : (changedR l0_0 l0_1 l1 ⟨a2_0, a2_1, a2_2⟩).2 = r_1 := by rw [e]
  have := changed_any A0_0 c0_0 l0_0 A0_1 c0_1 l0_1 A1 c1 l1 ⟨a2_0, a2_1, a2_2⟩ w hr0_0 hc0_0 hr0_1 hc0_1 hr1
  rwa [h0, h1] at this
end Go.Proofs.YtdjlfdbnmnjccaaGreat.St
end
